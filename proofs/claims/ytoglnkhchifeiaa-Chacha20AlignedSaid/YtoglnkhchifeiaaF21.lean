/- math/bits.RotateLeft32: its twin, and that the call does what the twin says. Printed by a program. -/
import Derived.Test.YtoglnkhchifeiaaBase
namespace Go.Proofs.Ytoglnkhchifeiaa
open Go.Tw
set_option linter.unusedSimpArgs false
set_option linter.unusedVariables false
def T21 (F : Nat) (p0 : UInt32) (p1 : Int) : Option (UInt32) :=
  some ((shl32 p0 (((UInt64.ofInt p1) &&& (UInt64.ofNat 31)).toNat)) ||| (shr32 p0 (((UInt64.ofNat 32) - ((UInt64.ofInt p1) &&& (UInt64.ofNat 31))).toNat)))

set_option maxRecDepth 100000 in
set_option maxHeartbeats 4000000 in
theorem ok21 (F : Nat) (p0 : UInt32) (p1 : Int) (w0 : World)  {r0 : UInt32} (ht : T21 F p0 p1 = some r0) : Calls Try.prog 21 #[(.o (.u32 p0) : SV).val, (.o (.i p1) : SV).val] w0 (Ret fun v w' => v = (S0.u32 r0).val ∧ HA w0 none1 none1 w' []) := by
  unfold T21 at ht
  refine enterW [.o (.u32 p0), .o (.i p1)] Try.func21 rfl Try.ntmps21 rfl rfl fun a w H h => ?_
  refine c_seq ?_
  refine c_plain ?_
  refine sq_p h 1 tok trivial rfl fun a h => ?_
  refine sq_nil ?_
  refine c_seq ?_
  refine c_plain ?_
  refine sq_p h 4 tok trivial rfl fun a h => ?_
  refine sq_nil ?_
  refine c_seq ?_
  refine c_plain ?_
  refine sq_p h 9 tok trivial rfl fun a h => ?_
  refine sq_nil ?_
  refine c_ret ?_
  cases ht
  exact fin_one h Try.results21 rfl ⟨rfl, H.pick []⟩
end Go.Proofs.Ytoglnkhchifeiaa
