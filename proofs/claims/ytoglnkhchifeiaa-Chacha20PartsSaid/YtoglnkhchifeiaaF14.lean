/- kinkeep/kinkeeplaw07.rotr: its twin, and that the call does what the twin says. Printed by a program. -/
import Derived.Test.YtoglnkhchifeiaaBase
namespace Go.Proofs.Ytoglnkhchifeiaa
open Go.Tw
set_option linter.unusedSimpArgs false
set_option linter.unusedVariables false
def T14 (F : Nat) (p0 : UInt32) (p1 : Int) : Option (UInt32) :=
  (Option.bind (gnn p1) fun n1 => (Option.bind (gnn (w64 ((32 : Int) - p1))) fun n2 => some ((shr32 p0 n1) ||| (shl32 p0 n2))))

set_option maxRecDepth 100000 in
set_option maxHeartbeats 4000000 in
theorem ok14 (F : Nat) (p0 : UInt32) (p1 : Int) (w0 : World)  {r0 : UInt32} (ht : T14 F p0 p1 = some r0) : Calls Try.prog 14 #[(.o (.u32 p0) : SV).val, (.o (.i p1) : SV).val] w0 (Ret fun v w' => v = (S0.u32 r0).val ∧ HA w0 none1 none1 w' []) := by
  unfold T14 at ht
  refine enterW [.o (.u32 p0), .o (.i p1)] Try.func14 rfl Try.ntmps14 rfl rfl fun a w H h => ?_
  refine c_seq ?_
  refine c_plain ?_
  refine sq_p h 1 tok trivial rfl fun a h => ?_
  refine sq_nil ?_
  refine c_seq ?_
  refine c_draw [(.p, 0), (.p, 1), (.p, 2), (.p, 3), (.p, 4), (.p, 5), (.p, 6), (.p, 7), (.p, 8)] (fun _ => True) Try.mixed (by kernel_rfl) rfl trivial ?_
  have H := H.drew; generalize ({ w with drawn := w.drawn + 1 } : World) = w at H ⊢
  refine sq_p h 2 tok trivial rfl fun a h => ?_
  obtain ⟨n1, e_n1, ht⟩ := bindS ht
  refine sq_v (v := .o (.u32 (shr32 p0 n1))) h trivial (j_shift (z := .u32 (shr32 p0 n1)) h e_n1 rfl rfl rfl rfl) rfl rfl rfl fun a h => ?_
  refine sq_p h 3 tok trivial rfl fun a h => ?_
  obtain ⟨n2, e_n2, ht⟩ := bindS ht
  refine sq_v (v := .o (.u32 (shl32 p0 n2))) h trivial (j_shift (z := .u32 (shl32 p0 n2)) h e_n2 rfl rfl rfl rfl) rfl rfl rfl fun a h => ?_
  refine sq_p h 2 tok trivial rfl fun a h => ?_
  refine sq_nil ?_
  refine c_ret ?_
  cases ht
  exact fin_one h Try.results14 rfl ⟨rfl, H.pick []⟩
end Go.Proofs.Ytoglnkhchifeiaa
