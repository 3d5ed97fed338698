/- kinkeep/kinkeeplaw07.Chacha20Quarter: its twin, and that the call does what the twin says. Printed by a program. -/
import Derived.Test.YtoglnkhchifeiaaF11
import Derived.Test.YtoglnkhchifeiaaF12
import Derived.Test.YtoglnkhchifeiaaF13
namespace Go.Proofs.Ytoglnkhchifeiaa
open Go.Tw
set_option linter.unusedSimpArgs false
set_option linter.unusedVariables false
def T3 (F : Nat) (p0 : UInt32) (p1 : UInt32) (p2 : UInt32) (p3 : UInt32) : Option (Bool) :=
  (bind4 (T11 F p0 p1 p2 p3) fun y1 y2 y3 y4 => (bind4 (T12 F p0 p1 p2 p3) fun y6 y7 y8 y9 => (Option.bind (T13 F ) fun y11 => (Option.bind (bif y11 then some (y1 == y6) else some false) fun c13 => (Option.bind (bif c13 then some (y2 == y7) else some false) fun c14 => (Option.bind (bif c14 then some (y3 == y8) else some false) fun c15 => (Option.bind (bif c15 then some (y4 == y9) else some false) fun c16 => some c16)))))))

set_option maxRecDepth 100000 in
set_option maxHeartbeats 4000000 in
theorem ok3 (F : Nat) (p0 : UInt32) (p1 : UInt32) (p2 : UInt32) (p3 : UInt32) (w0 : World)  {r0 : Bool} (ht : T3 F p0 p1 p2 p3 = some r0) : Calls Try.prog 3 #[(.o (.u32 p0) : SV).val, (.o (.u32 p1) : SV).val, (.o (.u32 p2) : SV).val, (.o (.u32 p3) : SV).val] w0 (Ret fun v w' => v = (S0.b r0).val ∧ HA w0 none1 none1 w' []) := by
  unfold T3 at ht
  refine enterW [.o (.u32 p0), .o (.u32 p1), .o (.u32 p2), .o (.u32 p3)] Try.func3 rfl Try.ntmps3 rfl rfl fun a w H h => ?_
  refine c_seq ?_
  refine c_plain ?_
  refine sq_p h 1 tok trivial rfl fun a h => ?_
  refine sq_nil ?_
  refine c_seq ?_
  refine c_plain ?_
  refine sq_p h 4 tok trivial rfl fun a h => ?_
  obtain ⟨y1, y2, y3, y4, e5, ht⟩ := bindS4 ht
  refine sq_call h rfl rfl Try.func11 rfl rfl rfl (ok11 F p0 p1 p2 p3 w  e5) ?_
  rintro _ w ⟨rfl, HN⟩
  have H := H.call HN; clear HN
  refine ⟨trivial, ?_⟩
  refine sq_fr (d := 22) (v := .t [.u32 y1, .u32 y2, .u32 y3, .u32 y4]) h rfl rfl rfl fun a h => ?_
  refine sq_p h 9 tok trivial rfl fun a h => ?_
  refine sq_nil ?_
  refine c_seq ?_
  refine c_plain ?_
  refine sq_p h 4 tok trivial rfl fun a h => ?_
  obtain ⟨y6, y7, y8, y9, e10, ht⟩ := bindS4 ht
  refine sq_call h rfl rfl Try.func12 rfl rfl rfl (ok12 F p0 p1 p2 p3 w  e10) ?_
  rintro _ w ⟨rfl, HN⟩
  have H := H.call HN; clear HN
  refine ⟨trivial, ?_⟩
  refine sq_fr (d := 32) (v := .t [.u32 y6, .u32 y7, .u32 y8, .u32 y9]) h rfl rfl rfl fun a h => ?_
  refine sq_p h 9 tok trivial rfl fun a h => ?_
  refine sq_nil ?_
  refine c_seq ?_
  refine c_plain ?_
  obtain ⟨y11, e12, ht⟩ := bindS ht
  refine sq_call h rfl rfl Try.func13 rfl rfl rfl (ok13 F  w  e12) ?_
  rintro _ w ⟨rfl, HN⟩
  have H := H.call HN; clear HN
  refine ⟨trivial, ?_⟩
  refine sq_fr (d := 37) (v := .o (.b y11)) h rfl rfl rfl fun a h => ?_
  refine sq_p h 1 tok trivial rfl fun a h => ?_
  obtain ⟨c13, ej, ht⟩ := bindS ht
  refine sq_cut (fun a w => Fr 58 a [(8, .o (.b false)), (10, .o (.u32 y2)), (11, .o (.u32 y3)), (12, .o (.u32 y4)), (14, .o (.u32 y7)), (15, .o (.u32 y8)), (16, .o (.u32 y9)), (42, .o (.b c13))] ∧ HA w0 none1 none1 w []) 4 ?_ (fun a w hC hm => ?_)
  · clear ht
    rcases Bool.eq_false_or_eq_true y11 with hc | hc
    · have ht := condT hc ej; clear ej
      rw [hc] at h
      refine sq_p h 4 tok trivial rfl fun a h => ?_
      refine sq_nil ⟨trivial, ?_⟩
      cases ht
      exact ⟨h.keep [8, 10, 11, 12, 14, 15, 16, 42], H.take 0⟩
    · have ht := condF hc ej; clear ej
      rw [hc] at h
      refine sq_p h 4 tok trivial rfl fun a h => ?_
      refine sq_nil ⟨trivial, ?_⟩
      cases ht
      exact ⟨h.keep [8, 10, 11, 12, 14, 15, 16, 42], H.take 0⟩
  · obtain ⟨h, H⟩ := hm
    refine sq_p h 1 tok trivial rfl fun a h => ?_
    obtain ⟨c14, ej, ht⟩ := bindS ht
    refine sq_cut (fun a w => Fr 58 a [(8, .o (.b false)), (11, .o (.u32 y3)), (12, .o (.u32 y4)), (15, .o (.u32 y8)), (16, .o (.u32 y9)), (47, .o (.b c14))] ∧ HA w0 none1 none1 w []) 4 ?_ (fun a w hC hm => ?_)
    · clear ht
      rcases Bool.eq_false_or_eq_true c13 with hc | hc
      · have ht := condT hc ej; clear ej
        rw [hc] at h
        refine sq_p h 4 tok trivial rfl fun a h => ?_
        refine sq_nil ⟨trivial, ?_⟩
        cases ht
        exact ⟨h.keep [8, 11, 12, 15, 16, 47], H.take 0⟩
      · have ht := condF hc ej; clear ej
        rw [hc] at h
        refine sq_p h 4 tok trivial rfl fun a h => ?_
        refine sq_nil ⟨trivial, ?_⟩
        cases ht
        exact ⟨h.keep [8, 11, 12, 15, 16, 47], H.take 0⟩
    · obtain ⟨h, H⟩ := hm
      refine sq_p h 1 tok trivial rfl fun a h => ?_
      obtain ⟨c15, ej, ht⟩ := bindS ht
      refine sq_cut (fun a w => Fr 58 a [(8, .o (.b false)), (12, .o (.u32 y4)), (16, .o (.u32 y9)), (52, .o (.b c15))] ∧ HA w0 none1 none1 w []) 4 ?_ (fun a w hC hm => ?_)
      · clear ht
        rcases Bool.eq_false_or_eq_true c14 with hc | hc
        · have ht := condT hc ej; clear ej
          rw [hc] at h
          refine sq_p h 4 tok trivial rfl fun a h => ?_
          refine sq_nil ⟨trivial, ?_⟩
          cases ht
          exact ⟨h.keep [8, 12, 16, 52], H.take 0⟩
        · have ht := condF hc ej; clear ej
          rw [hc] at h
          refine sq_p h 4 tok trivial rfl fun a h => ?_
          refine sq_nil ⟨trivial, ?_⟩
          cases ht
          exact ⟨h.keep [8, 12, 16, 52], H.take 0⟩
      · obtain ⟨h, H⟩ := hm
        refine sq_p h 1 tok trivial rfl fun a h => ?_
        obtain ⟨c16, ej, ht⟩ := bindS ht
        refine sq_cut (fun a w => Fr 58 a [(8, .o (.b false)), (57, .o (.b c16))] ∧ HA w0 none1 none1 w []) 4 ?_ (fun a w hC hm => ?_)
        · clear ht
          rcases Bool.eq_false_or_eq_true c15 with hc | hc
          · have ht := condT hc ej; clear ej
            rw [hc] at h
            refine sq_p h 4 tok trivial rfl fun a h => ?_
            refine sq_nil ⟨trivial, ?_⟩
            cases ht
            exact ⟨h.keep [8, 57], H.take 0⟩
          · have ht := condF hc ej; clear ej
            rw [hc] at h
            refine sq_p h 4 tok trivial rfl fun a h => ?_
            refine sq_nil ⟨trivial, ?_⟩
            cases ht
            exact ⟨h.keep [8, 57], H.take 0⟩
        · obtain ⟨h, H⟩ := hm
          refine sq_p h 1 tok trivial rfl fun a h => ?_
          refine sq_nil ?_
          refine c_ret ?_
          cases ht
          exact fin_one h Try.results3 rfl ⟨rfl, H.pick []⟩
end Go.Proofs.Ytoglnkhchifeiaa
