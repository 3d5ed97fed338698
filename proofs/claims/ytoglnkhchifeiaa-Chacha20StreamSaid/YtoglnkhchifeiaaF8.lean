/- kinkeep/kinkeeplaw07.Chacha20Stream: its twin, and that the call does what the twin says. Printed by a program. -/
import Derived.Test.YtoglnkhchifeiaaF13
import Derived.Test.YtoglnkhchifeiaaF19
import Derived.Test.YtoglnkhchifeiaaF20
namespace Go.Proofs.Ytoglnkhchifeiaa
open Go.Tw
set_option linter.unusedSimpArgs false
set_option linter.unusedVariables false
def T8 (F : Nat) (p0 : List UInt8) (p1 : List UInt8) (p2 : Int) (p3 : Int) : Option (Bool) :=
  (Option.bind (T13 F ) fun y1 => (Option.bind (bif (!y1) then some true else some (decide ((100 : Int) < (p0.length : Int)))) fun c3 => (Option.bind (bif c3 then some true else some (decide ((100 : Int) < (p1.length : Int)))) fun c4 => (Option.bind (bif c4 then some true else (Option.bind (bif (decide ((400 : Int) < p3)) then some (decide (p3 ≤ (1048576 : Int))) else some false) fun c6 => some c6)) fun c5 => (bif c5 then (Option.bind (T13 F ) fun y7 => some y7) else (bind2 (T19 F p0 p1 p2 p3) fun y9 y10 => (bind2 (T20 F p0 p1 p2 p3) fun y13 y14 => (Option.bind (bif (y9 == y13) then some (y10 == y14) else some false) fun c17 => some c17))))))))

set_option maxRecDepth 100000 in
set_option maxHeartbeats 4000000 in
theorem ok8 (F : Nat) (p0 : List UInt8) (p1 : List UInt8) (p2 : Int) (p3 : Int) (w0 : World)  {r0 : Bool} (ht : T8 F p0 p1 p2 p3 = some r0) : Calls Try.prog 8 #[(.o (.s p0) : SV).val, (.o (.s p1) : SV).val, (.o (.i p2) : SV).val, (.o (.i p3) : SV).val] w0 (Ret fun v w' => v = (S0.b r0).val ∧ HA w0 none1 none1 w' []) := by
  unfold T8 at ht
  refine enterW [.o (.s p0), .o (.s p1), .o (.i p2), .o (.i p3)] Try.func8 rfl Try.ntmps8 rfl rfl fun a w H h => ?_
  refine c_seq ?_
  refine c_plain ?_
  refine sq_p h 1 tok trivial rfl fun a h => ?_
  refine sq_nil ?_
  refine c_seq ?_
  refine c_seq ?_
  refine c_plain ?_
  obtain ⟨y1, e2, ht⟩ := bindS ht
  refine sq_call h rfl rfl Try.func13 rfl rfl rfl (ok13 F  w  e2) ?_
  rintro _ w ⟨rfl, HN⟩
  have H := H.call HN; clear HN
  refine ⟨trivial, ?_⟩
  refine sq_fr (d := 13) (v := .o (.b y1)) h rfl rfl rfl fun a h => ?_
  refine sq_p h 2 tok trivial rfl fun a h => ?_
  obtain ⟨c3, ej, ht⟩ := bindS ht
  refine sq_cut (fun a w => Fr 60 a [(0, .o (.s p0)), (1, .o (.s p1)), (2, .o (.i p2)), (3, .o (.i p3)), (8, .o (.b false)), (19, .o (.b c3))] ∧ HA w0 none1 none1 w []) 4 ?_ (fun a w hC hm => ?_)
  · clear ht
    rcases Bool.eq_false_or_eq_true (!y1) with hc | hc
    · have ht := condT hc ej; clear ej
      rw [hc] at h
      refine sq_p h 4 tok trivial rfl fun a h => ?_
      refine sq_nil ⟨trivial, ?_⟩
      cases ht
      exact ⟨h.keep [0, 1, 2, 3, 8, 19], H.take 0⟩
    · have ht := condF hc ej; clear ej
      rw [hc] at h
      refine sq_p h 4 tok trivial rfl fun a h => ?_
      refine sq_nil ⟨trivial, ?_⟩
      cases ht
      exact ⟨h.keep [0, 1, 2, 3, 8, 19], H.take 0⟩
  · obtain ⟨h, H⟩ := hm
    refine sq_p h 1 tok trivial rfl fun a h => ?_
    obtain ⟨c4, ej, ht⟩ := bindS ht
    refine sq_cut (fun a w => Fr 60 a [(0, .o (.s p0)), (1, .o (.s p1)), (2, .o (.i p2)), (3, .o (.i p3)), (8, .o (.b false)), (24, .o (.b c4))] ∧ HA w0 none1 none1 w []) 4 ?_ (fun a w hC hm => ?_)
    · clear ht
      rcases Bool.eq_false_or_eq_true c3 with hc | hc
      · have ht := condT hc ej; clear ej
        rw [hc] at h
        refine sq_p h 4 tok trivial rfl fun a h => ?_
        refine sq_nil ⟨trivial, ?_⟩
        cases ht
        exact ⟨h.keep [0, 1, 2, 3, 8, 24], H.take 0⟩
      · have ht := condF hc ej; clear ej
        rw [hc] at h
        refine sq_p h 4 tok trivial rfl fun a h => ?_
        refine sq_nil ⟨trivial, ?_⟩
        cases ht
        exact ⟨h.keep [0, 1, 2, 3, 8, 24], H.take 0⟩
    · obtain ⟨h, H⟩ := hm
      refine sq_p h 1 tok trivial rfl fun a h => ?_
      obtain ⟨c5, ej, ht⟩ := bindS ht
      refine sq_cut (fun a w => Fr 60 a [(0, .o (.s p0)), (1, .o (.s p1)), (2, .o (.i p2)), (3, .o (.i p3)), (8, .o (.b false)), (32, .o (.b c5))] ∧ HA w0 none1 none1 w []) 7 ?_ (fun a w hC hm => ?_)
      · clear ht
        rcases Bool.eq_false_or_eq_true c4 with hc | hc
        · have ht := condT hc ej; clear ej
          rw [hc] at h
          refine sq_p h 7 tok trivial rfl fun a h => ?_
          refine sq_nil ⟨trivial, ?_⟩
          cases ht
          exact ⟨h.keep [0, 1, 2, 3, 8, 32], H.take 0⟩
        · have ht := condF hc ej; clear ej
          rw [hc] at h
          refine sq_p h 3 tok trivial rfl fun a h => ?_
          obtain ⟨c6, ej, ht⟩ := bindS ht
          refine sq_cut (fun a w => Fr 60 a [(0, .o (.s p0)), (1, .o (.s p1)), (2, .o (.i p2)), (3, .o (.i p3)), (8, .o (.b false)), (25, .o (.b false)), (31, .o (.b c6))] ∧ HA w0 none1 none1 w []) 3 ?_ (fun a w hC hm => ?_)
          · clear ht
            rcases Bool.eq_false_or_eq_true (decide ((400 : Int) < p3)) with hc | hc
            · have ht := condT hc ej; clear ej
              rw [hc] at h
              refine sq_p h 3 tok trivial rfl fun a h => ?_
              refine sq_nil ⟨trivial, ?_⟩
              cases ht
              exact ⟨h.keep [0, 1, 2, 3, 8, 25, 31], H.take 0⟩
            · have ht := condF hc ej; clear ej
              rw [hc] at h
              refine sq_p h 3 tok trivial rfl fun a h => ?_
              refine sq_nil ⟨trivial, ?_⟩
              cases ht
              exact ⟨h.keep [0, 1, 2, 3, 8, 25, 31], H.take 0⟩
          · obtain ⟨h, H⟩ := hm
            refine sq_p h 1 tok trivial rfl fun a h => ?_
            refine sq_nil ⟨trivial, ?_⟩
            cases ht
            exact ⟨h.keep [0, 1, 2, 3, 8, 32], H.take 0⟩
      · obtain ⟨h, H⟩ := hm
        refine sq_nil ?_
        refine c_cond h rfl rfl (fun hc => ?_) (fun hc => ?_)
        · have ht := condT hc ht
          refine c_seq ?_
          refine c_plain ?_
          obtain ⟨y7, e8, ht⟩ := bindS ht
          refine sq_call h rfl rfl Try.func13 rfl rfl rfl (ok13 F  w  e8) ?_
          rintro _ w ⟨rfl, HN⟩
          have H := H.call HN; clear HN
          refine ⟨trivial, ?_⟩
          refine sq_fr (d := 33) (v := .o (.b y7)) h rfl rfl rfl fun a h => ?_
          refine sq_p h 1 tok trivial rfl fun a h => ?_
          refine sq_nil ?_
          refine c_ret ?_
          cases ht
          exact fin_one h Try.results8 rfl ⟨rfl, H.pick []⟩
        · have ht := condF hc ht
          refine c_skip ?_
          refine c_seq ?_
          refine c_plain ?_
          refine sq_p h 4 tok trivial rfl fun a h => ?_
          obtain ⟨y9, y10, e11, ht⟩ := bindS2 ht
          refine sq_call h rfl rfl Try.func19 rfl rfl rfl (ok19 F p0 p1 p2 p3 w  e11) ?_
          rintro _ w ⟨v12, rfl, HN⟩
          have H := H.call HN; clear HN
          refine ⟨trivial, ?_⟩
          refine sq_fr (d := 39) (v := .t [.v v12, .i y10]) h rfl rfl rfl fun a h => ?_
          refine sq_p h 5 tok trivial rfl fun a h => ?_
          refine sq_nil ?_
          refine c_seq ?_
          refine c_plain ?_
          refine sq_p h 4 tok trivial rfl fun a h => ?_
          obtain ⟨y13, y14, e15, ht⟩ := bindS2 ht
          refine sq_call h rfl rfl Try.func20 rfl rfl rfl (ok20 F p0 p1 p2 p3 w  e15) ?_
          rintro _ w ⟨v16, rfl, HN⟩
          have H := H.call HN; clear HN
          refine ⟨trivial, ?_⟩
          refine sq_fr (d := 47) (v := .t [.v v16, .i y14]) h rfl rfl rfl fun a h => ?_
          refine sq_p h 5 tok trivial rfl fun a h => ?_
          refine sq_nil ?_
          refine c_seq ?_
          refine c_plain ?_
          refine sq_p h 1 tok trivial rfl fun a h => ?_
          refine sq_r (v := .o (.s y9)) h (.inr rfl) trivial rfl rfl rfl (r_b2s tok h rfl rfl rfl rfl rfl (Row.rd (H.at (i := 0) rfl))) fun a h => ?_
          refine sq_p h 1 tok trivial rfl fun a h => ?_
          refine sq_r (v := .o (.s y13)) h (.inr rfl) trivial rfl rfl rfl (r_b2s tok h rfl rfl rfl rfl rfl (Row.rd (H.at (i := 1) rfl))) fun a h => ?_
          refine sq_p h 2 tok trivial rfl fun a h => ?_
          obtain ⟨c17, ej, ht⟩ := bindS ht
          refine sq_cut (fun a w => Fr 60 a [(8, .o (.b false)), (59, .o (.b c17))] ∧ HA w0 none1 none1 w [trow 5 vU8 v12 y9, trow 5 vU8 v16 y13]) 4 ?_ (fun a w hC hm => ?_)
          · clear ht
            rcases Bool.eq_false_or_eq_true (y9 == y13) with hc | hc
            · have ht := condT hc ej; clear ej
              rw [hc] at h
              refine sq_p h 4 tok trivial rfl fun a h => ?_
              refine sq_nil ⟨trivial, ?_⟩
              cases ht
              exact ⟨h.keep [8, 59], H.take 2⟩
            · have ht := condF hc ej; clear ej
              rw [hc] at h
              refine sq_p h 4 tok trivial rfl fun a h => ?_
              refine sq_nil ⟨trivial, ?_⟩
              cases ht
              exact ⟨h.keep [8, 59], H.take 2⟩
          · obtain ⟨h, H⟩ := hm
            refine sq_p h 1 tok trivial rfl fun a h => ?_
            refine sq_nil ?_
            refine c_ret ?_
            cases ht
            exact fin_one h Try.results8 rfl ⟨rfl, H.pick []⟩
end Go.Proofs.Ytoglnkhchifeiaa
