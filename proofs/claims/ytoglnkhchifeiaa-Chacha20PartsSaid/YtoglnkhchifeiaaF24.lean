/- kinkeep/chacha20.word: its twin, and that the call does what the twin says. Printed by a program. -/
import Derived.Test.YtoglnkhchifeiaaBase
namespace Go.Proofs.Ytoglnkhchifeiaa
open Go.Tw
set_option linter.unusedSimpArgs false
set_option linter.unusedVariables false
def T24 (F : Nat) (p0 : List UInt8) (p1 : Int) : Option (UInt32) :=
  (Option.bind (ix p0 p1) fun x1 => (Option.bind (ix p0 (w64 (p1 + (1 : Int)))) fun x2 => (Option.bind (ix p0 (w64 (p1 + (2 : Int)))) fun x3 => (Option.bind (ix p0 (w64 (p1 + (3 : Int)))) fun x4 => some ((((x1.toUInt32) ||| (shl32 (x2.toUInt32) ((UInt64.ofNat 8).toNat))) ||| (shl32 (x3.toUInt32) ((UInt64.ofNat 16).toNat))) ||| (shl32 (x4.toUInt32) ((UInt64.ofNat 24).toNat)))))))

set_option maxRecDepth 100000 in
set_option maxHeartbeats 4000000 in
theorem ok24 (F : Nat) (p0 : List UInt8) (p1 : Int) (w0 : World)  {r0 : UInt32} (ht : T24 F p0 p1 = some r0) : Calls Try.prog 24 #[(.o (.s p0) : SV).val, (.o (.i p1) : SV).val] w0 (Ret fun v w' => v = (S0.u32 r0).val ∧ HA w0 none1 none1 w' []) := by
  unfold T24 at ht
  refine enterW [.o (.s p0), .o (.i p1)] Try.func24 rfl Try.ntmps24 rfl rfl fun a w H h => ?_
  refine c_seq ?_
  refine c_plain ?_
  refine sq_p h 1 tok trivial rfl fun a h => ?_
  refine sq_nil ?_
  refine c_seq ?_
  refine c_draw [(.p, 0), (.p, 1), (.p, 2), (.p, 3), (.p, 4), (.p, 5), (.p, 6), (.p, 7), (.p, 8), (.p, 9), (.p, 10), (.p, 11), (.p, 12), (.p, 13), (.p, 14), (.p, 15), (.p, 16), (.p, 17), (.p, 18), (.p, 19), (.p, 20), (.p, 21), (.p, 22), (.p, 23), (.p, 24), (.p, 25)] (fun _ => True) Try.mixed (by kernel_rfl) rfl trivial ?_
  have H := H.drew; generalize ({ w with drawn := w.drawn + 1 } : World) = w at H ⊢
  refine sq_p h 2 tok trivial rfl fun a h => ?_
  obtain ⟨x1, e_x1, ht⟩ := bindS ht
  refine sq_v (v := .o (.u8 x1)) h trivial (r_indexS tok h rfl rfl rfl rfl e_x1) rfl rfl rfl fun a h => ?_
  refine sq_p h 4 tok trivial rfl fun a h => ?_
  obtain ⟨x2, e_x2, ht⟩ := bindS ht
  refine sq_v (v := .o (.u8 x2)) h trivial (r_indexS tok h rfl rfl rfl rfl e_x2) rfl rfl rfl fun a h => ?_
  refine sq_p h 6 tok trivial rfl fun a h => ?_
  obtain ⟨x3, e_x3, ht⟩ := bindS ht
  refine sq_v (v := .o (.u8 x3)) h trivial (r_indexS tok h rfl rfl rfl rfl e_x3) rfl rfl rfl fun a h => ?_
  refine sq_p h 6 tok trivial rfl fun a h => ?_
  obtain ⟨x4, e_x4, ht⟩ := bindS ht
  refine sq_v (v := .o (.u8 x4)) h trivial (r_indexS tok h rfl rfl rfl rfl e_x4) rfl rfl rfl fun a h => ?_
  refine sq_p h 4 tok trivial rfl fun a h => ?_
  refine sq_nil ?_
  refine c_ret ?_
  cases ht
  exact fin_one h Try.results24 rfl ⟨rfl, H.pick []⟩
end Go.Proofs.Ytoglnkhchifeiaa
