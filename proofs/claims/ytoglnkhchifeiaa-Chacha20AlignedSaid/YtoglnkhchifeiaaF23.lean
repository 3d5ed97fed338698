/- kinkeep/chacha20.valid: its twin, and that the call does what the twin says. Printed by a program. -/
import Derived.Test.YtoglnkhchifeiaaBase
namespace Go.Proofs.Ytoglnkhchifeiaa
open Go.Tw
set_option linter.unusedSimpArgs false
set_option linter.unusedVariables false
def T23 (F : Nat) (p0 : List UInt8) (p1 : List UInt8) : Option (Bool) :=
  (Option.bind (bif ((p0.length : Int) == (32 : Int)) then some ((p1.length : Int) == (12 : Int)) else some false) fun c1 => some c1)

set_option maxRecDepth 100000 in
set_option maxHeartbeats 4000000 in
theorem ok23 (F : Nat) (p0 : List UInt8) (p1 : List UInt8) (w0 : World)  {r0 : Bool} (ht : T23 F p0 p1 = some r0) : Calls Try.prog 23 #[(.o (.s p0) : SV).val, (.o (.s p1) : SV).val] w0 (Ret fun v w' => v = (S0.b r0).val ∧ HA w0 none1 none1 w' []) := by
  unfold T23 at ht
  refine enterW [.o (.s p0), .o (.s p1)] Try.func23 rfl Try.ntmps23 rfl rfl fun a w H h => ?_
  refine c_seq ?_
  refine c_plain ?_
  refine sq_p h 1 tok trivial rfl fun a h => ?_
  refine sq_nil ?_
  refine c_seq ?_
  refine c_plain ?_
  refine sq_p h 4 tok trivial rfl fun a h => ?_
  obtain ⟨c1, ej, ht⟩ := bindS ht
  refine sq_cut (fun a w => Fr 13 a [(4, .o (.b false)), (12, .o (.b c1))] ∧ HA w0 none1 none1 w []) 4 ?_ (fun a w hC hm => ?_)
  · clear ht
    rcases Bool.eq_false_or_eq_true ((p0.length : Int) == (32 : Int)) with hc | hc
    · have ht := condT hc ej; clear ej
      rw [hc] at h
      refine sq_p h 4 tok trivial rfl fun a h => ?_
      refine sq_nil ⟨trivial, ?_⟩
      cases ht
      exact ⟨h.keep [4, 12], H.take 0⟩
    · have ht := condF hc ej; clear ej
      rw [hc] at h
      refine sq_p h 4 tok trivial rfl fun a h => ?_
      refine sq_nil ⟨trivial, ?_⟩
      cases ht
      exact ⟨h.keep [4, 12], H.take 0⟩
  · obtain ⟨h, H⟩ := hm
    refine sq_p h 1 tok trivial rfl fun a h => ?_
    refine sq_nil ?_
    refine c_ret ?_
    cases ht
    exact fin_one h Try.results23 rfl ⟨rfl, H.pick []⟩
end Go.Proofs.Ytoglnkhchifeiaa
