/- kinkeep/kinkeeplaw07.Chacha20Parts: its twin, and that the call does what the twin says. Printed by a program. -/
import Derived.Test.YtoglnkhchifeiaaF13
import Derived.Test.YtoglnkhchifeiaaF19
namespace Go.Proofs.Ytoglnkhchifeiaa
open Go.Tw
set_option linter.unusedSimpArgs false
set_option linter.unusedVariables false
def T9 (F : Nat) (p0 : List UInt8) (p1 : List UInt8) (p2 : Int) (p3 : Int) (p4 : Int) : Option (Bool) :=
  (Option.bind (T13 F ) fun y1 => (Option.bind (bif (!y1) then some true else some (decide (p3 < (0 : Int)))) fun c3 => (Option.bind (bif c3 then some true else some (decide (p4 < (0 : Int)))) fun c4 => (Option.bind (bif c4 then some true else some (decide ((400 : Int) < p3))) fun c5 => (Option.bind (bif c5 then some true else some (decide ((400 : Int) < p4))) fun c6 => (Option.bind (bif c6 then some true else some (decide (p2 < (0 : Int)))) fun c7 => (Option.bind (bif c7 then some true else some (decide ((274877906944 : Int) < p2))) fun c8 => (bif c8 then (Option.bind (T13 F ) fun y9 => some y9) else (bind2 (T19 F p0 p1 p2 p3) fun y11 y12 => (bind2 (T19 F p0 p1 (w64 (p2 + p3)) p4) fun y15 y16 => (bind2 (T19 F p0 p1 p2 (w64 (p3 + p4))) fun y19 y20 => (bif (y20 != (0 : Int)) then (Option.bind (bif ((y19.length : Int) == (0 : Int)) then (Option.bind (bif (y12 != (0 : Int)) then some true else some (y16 != (0 : Int))) fun c24 => some c24) else some false) fun c23 => some c23) else (Option.bind (bif (y12 == (0 : Int)) then some (y16 == (0 : Int)) else some false) fun c25 => (Option.bind (bif c25 then some ((y19.length : Int) == (w64 (p3 + p4))) else some false) fun c26 => (Option.bind (bif c26 then (Option.bind (gcat y11 y15) fun x28 => some (x28 == y19)) else some false) fun c27 => some c27)))))))))))))))

set_option maxRecDepth 100000 in
set_option maxHeartbeats 4000000 in
theorem ok9 (F : Nat) (p0 : List UInt8) (p1 : List UInt8) (p2 : Int) (p3 : Int) (p4 : Int) (w0 : World)  {r0 : Bool} (ht : T9 F p0 p1 p2 p3 p4 = some r0) : Calls Try.prog 9 #[(.o (.s p0) : SV).val, (.o (.s p1) : SV).val, (.o (.i p2) : SV).val, (.o (.i p3) : SV).val, (.o (.i p4) : SV).val] w0 (Ret fun v w' => v = (S0.b r0).val ∧ HA w0 none1 none1 w' []) := by
  unfold T9 at ht
  refine enterW [.o (.s p0), .o (.s p1), .o (.i p2), .o (.i p3), .o (.i p4)] Try.func9 rfl Try.ntmps9 rfl rfl fun a w H h => ?_
  refine c_seq ?_
  refine c_plain ?_
  refine sq_p h 1 tok trivial rfl fun a h => ?_
  refine sq_nil ?_
  refine c_seq ?_
  refine c_seq ?_
  refine c_plain ?_
  obtain ⟨y1, e2, ht⟩ := bindS ht
  refine sq_call h rfl rfl Try.func13 rfl rfl rfl (ok13 F  w  e2) ?_
  rintro _ w ⟨rfl, HN⟩
  have H := H.call HN; clear HN
  refine ⟨trivial, ?_⟩
  refine sq_fr (d := 17) (v := .o (.b y1)) h rfl rfl rfl fun a h => ?_
  refine sq_p h 2 tok trivial rfl fun a h => ?_
  obtain ⟨c3, ej, ht⟩ := bindS ht
  refine sq_cut (fun a w => Fr 109 a [(0, .o (.s p0)), (1, .o (.s p1)), (2, .o (.i p2)), (3, .o (.i p3)), (4, .o (.i p4)), (10, .o (.b false)), (22, .o (.b c3))] ∧ HA w0 none1 none1 w []) 3 ?_ (fun a w hC hm => ?_)
  · clear ht
    rcases Bool.eq_false_or_eq_true (!y1) with hc | hc
    · have ht := condT hc ej; clear ej
      rw [hc] at h
      refine sq_p h 3 tok trivial rfl fun a h => ?_
      refine sq_nil ⟨trivial, ?_⟩
      cases ht
      exact ⟨h.keep [0, 1, 2, 3, 4, 10, 22], H.take 0⟩
    · have ht := condF hc ej; clear ej
      rw [hc] at h
      refine sq_p h 3 tok trivial rfl fun a h => ?_
      refine sq_nil ⟨trivial, ?_⟩
      cases ht
      exact ⟨h.keep [0, 1, 2, 3, 4, 10, 22], H.take 0⟩
  · obtain ⟨h, H⟩ := hm
    refine sq_p h 1 tok trivial rfl fun a h => ?_
    obtain ⟨c4, ej, ht⟩ := bindS ht
    refine sq_cut (fun a w => Fr 109 a [(0, .o (.s p0)), (1, .o (.s p1)), (2, .o (.i p2)), (3, .o (.i p3)), (4, .o (.i p4)), (10, .o (.b false)), (26, .o (.b c4))] ∧ HA w0 none1 none1 w []) 3 ?_ (fun a w hC hm => ?_)
    · clear ht
      rcases Bool.eq_false_or_eq_true c3 with hc | hc
      · have ht := condT hc ej; clear ej
        rw [hc] at h
        refine sq_p h 3 tok trivial rfl fun a h => ?_
        refine sq_nil ⟨trivial, ?_⟩
        cases ht
        exact ⟨h.keep [0, 1, 2, 3, 4, 10, 26], H.take 0⟩
      · have ht := condF hc ej; clear ej
        rw [hc] at h
        refine sq_p h 3 tok trivial rfl fun a h => ?_
        refine sq_nil ⟨trivial, ?_⟩
        cases ht
        exact ⟨h.keep [0, 1, 2, 3, 4, 10, 26], H.take 0⟩
    · obtain ⟨h, H⟩ := hm
      refine sq_p h 1 tok trivial rfl fun a h => ?_
      obtain ⟨c5, ej, ht⟩ := bindS ht
      refine sq_cut (fun a w => Fr 109 a [(0, .o (.s p0)), (1, .o (.s p1)), (2, .o (.i p2)), (3, .o (.i p3)), (4, .o (.i p4)), (10, .o (.b false)), (30, .o (.b c5))] ∧ HA w0 none1 none1 w []) 3 ?_ (fun a w hC hm => ?_)
      · clear ht
        rcases Bool.eq_false_or_eq_true c4 with hc | hc
        · have ht := condT hc ej; clear ej
          rw [hc] at h
          refine sq_p h 3 tok trivial rfl fun a h => ?_
          refine sq_nil ⟨trivial, ?_⟩
          cases ht
          exact ⟨h.keep [0, 1, 2, 3, 4, 10, 30], H.take 0⟩
        · have ht := condF hc ej; clear ej
          rw [hc] at h
          refine sq_p h 3 tok trivial rfl fun a h => ?_
          refine sq_nil ⟨trivial, ?_⟩
          cases ht
          exact ⟨h.keep [0, 1, 2, 3, 4, 10, 30], H.take 0⟩
      · obtain ⟨h, H⟩ := hm
        refine sq_p h 1 tok trivial rfl fun a h => ?_
        obtain ⟨c6, ej, ht⟩ := bindS ht
        refine sq_cut (fun a w => Fr 109 a [(0, .o (.s p0)), (1, .o (.s p1)), (2, .o (.i p2)), (3, .o (.i p3)), (4, .o (.i p4)), (10, .o (.b false)), (34, .o (.b c6))] ∧ HA w0 none1 none1 w []) 3 ?_ (fun a w hC hm => ?_)
        · clear ht
          rcases Bool.eq_false_or_eq_true c5 with hc | hc
          · have ht := condT hc ej; clear ej
            rw [hc] at h
            refine sq_p h 3 tok trivial rfl fun a h => ?_
            refine sq_nil ⟨trivial, ?_⟩
            cases ht
            exact ⟨h.keep [0, 1, 2, 3, 4, 10, 34], H.take 0⟩
          · have ht := condF hc ej; clear ej
            rw [hc] at h
            refine sq_p h 3 tok trivial rfl fun a h => ?_
            refine sq_nil ⟨trivial, ?_⟩
            cases ht
            exact ⟨h.keep [0, 1, 2, 3, 4, 10, 34], H.take 0⟩
        · obtain ⟨h, H⟩ := hm
          refine sq_p h 1 tok trivial rfl fun a h => ?_
          obtain ⟨c7, ej, ht⟩ := bindS ht
          refine sq_cut (fun a w => Fr 109 a [(0, .o (.s p0)), (1, .o (.s p1)), (2, .o (.i p2)), (3, .o (.i p3)), (4, .o (.i p4)), (10, .o (.b false)), (38, .o (.b c7))] ∧ HA w0 none1 none1 w []) 3 ?_ (fun a w hC hm => ?_)
          · clear ht
            rcases Bool.eq_false_or_eq_true c6 with hc | hc
            · have ht := condT hc ej; clear ej
              rw [hc] at h
              refine sq_p h 3 tok trivial rfl fun a h => ?_
              refine sq_nil ⟨trivial, ?_⟩
              cases ht
              exact ⟨h.keep [0, 1, 2, 3, 4, 10, 38], H.take 0⟩
            · have ht := condF hc ej; clear ej
              rw [hc] at h
              refine sq_p h 3 tok trivial rfl fun a h => ?_
              refine sq_nil ⟨trivial, ?_⟩
              cases ht
              exact ⟨h.keep [0, 1, 2, 3, 4, 10, 38], H.take 0⟩
          · obtain ⟨h, H⟩ := hm
            refine sq_p h 1 tok trivial rfl fun a h => ?_
            obtain ⟨c8, ej, ht⟩ := bindS ht
            refine sq_cut (fun a w => Fr 109 a [(0, .o (.s p0)), (1, .o (.s p1)), (2, .o (.i p2)), (3, .o (.i p3)), (4, .o (.i p4)), (10, .o (.b false)), (42, .o (.b c8))] ∧ HA w0 none1 none1 w []) 3 ?_ (fun a w hC hm => ?_)
            · clear ht
              rcases Bool.eq_false_or_eq_true c7 with hc | hc
              · have ht := condT hc ej; clear ej
                rw [hc] at h
                refine sq_p h 3 tok trivial rfl fun a h => ?_
                refine sq_nil ⟨trivial, ?_⟩
                cases ht
                exact ⟨h.keep [0, 1, 2, 3, 4, 10, 42], H.take 0⟩
              · have ht := condF hc ej; clear ej
                rw [hc] at h
                refine sq_p h 3 tok trivial rfl fun a h => ?_
                refine sq_nil ⟨trivial, ?_⟩
                cases ht
                exact ⟨h.keep [0, 1, 2, 3, 4, 10, 42], H.take 0⟩
            · obtain ⟨h, H⟩ := hm
              refine sq_nil ?_
              refine c_cond h rfl rfl (fun hc => ?_) (fun hc => ?_)
              · have ht := condT hc ht
                refine c_seq ?_
                refine c_plain ?_
                obtain ⟨y9, e10, ht⟩ := bindS ht
                refine sq_call h rfl rfl Try.func13 rfl rfl rfl (ok13 F  w  e10) ?_
                rintro _ w ⟨rfl, HN⟩
                have H := H.call HN; clear HN
                refine ⟨trivial, ?_⟩
                refine sq_fr (d := 43) (v := .o (.b y9)) h rfl rfl rfl fun a h => ?_
                refine sq_p h 1 tok trivial rfl fun a h => ?_
                refine sq_nil ?_
                refine c_ret ?_
                cases ht
                exact fin_one h Try.results9 rfl ⟨rfl, H.pick []⟩
              · have ht := condF hc ht
                refine c_skip ?_
                refine c_seq ?_
                refine c_plain ?_
                refine sq_p h 4 tok trivial rfl fun a h => ?_
                obtain ⟨y11, y12, e13, ht⟩ := bindS2 ht
                refine sq_call h rfl rfl Try.func19 rfl rfl rfl (ok19 F p0 p1 p2 p3 w  e13) ?_
                rintro _ w ⟨v14, rfl, HN⟩
                have H := H.call HN; clear HN
                refine ⟨trivial, ?_⟩
                refine sq_fr (d := 49) (v := .t [.v v14, .i y12]) h rfl rfl rfl fun a h => ?_
                refine sq_p h 5 tok trivial rfl fun a h => ?_
                refine sq_nil ?_
                refine c_seq ?_
                refine c_plain ?_
                refine sq_p h 6 tok trivial rfl fun a h => ?_
                obtain ⟨y15, y16, e17, ht⟩ := bindS2 ht
                refine sq_call h rfl rfl Try.func19 rfl rfl rfl (ok19 F p0 p1 (w64 (p2 + p3)) p4 w  e17) ?_
                rintro _ w ⟨v18, rfl, HN⟩
                have H := H.call HN; clear HN
                refine ⟨trivial, ?_⟩
                refine sq_fr (d := 59) (v := .t [.v v18, .i y16]) h rfl rfl rfl fun a h => ?_
                refine sq_p h 5 tok trivial rfl fun a h => ?_
                refine sq_nil ?_
                refine c_seq ?_
                refine c_plain ?_
                refine sq_p h 6 tok trivial rfl fun a h => ?_
                obtain ⟨y19, y20, e21, ht⟩ := bindS2 ht
                refine sq_call h rfl rfl Try.func19 rfl rfl rfl (ok19 F p0 p1 p2 (w64 (p3 + p4)) w  e21) ?_
                rintro _ w ⟨v22, rfl, HN⟩
                have H := H.call HN; clear HN
                refine ⟨trivial, ?_⟩
                refine sq_fr (d := 69) (v := .t [.v v22, .i y20]) h rfl rfl rfl fun a h => ?_
                refine sq_p h 5 tok trivial rfl fun a h => ?_
                refine sq_nil ?_
                refine c_seq ?_
                refine c_seq ?_
                refine c_plain ?_
                refine sq_p h 2 tok trivial rfl fun a h => ?_
                refine sq_nil ?_
                refine c_cond h rfl rfl (fun hc => ?_) (fun hc => ?_)
                · have ht := condT hc ht
                  refine c_seq ?_
                  refine c_plain ?_
                  refine sq_p h 1 tok trivial rfl fun a h => ?_
                  refine sq_v (v := .o (.i (y19.length : Int))) h trivial (r_len tok h rfl rfl rfl rfl (Row.rd (H.at (i := 2) rfl))) rfl rfl rfl fun a h => ?_
                  refine sq_p h 2 tok trivial rfl fun a h => ?_
                  obtain ⟨c23, ej, ht⟩ := bindS ht
                  refine sq_cut (fun a w => Fr 109 a [(3, .o (.i p3)), (4, .o (.i p4)), (10, .o (.b false)), (11, .o (.v v14)), (12, .o (.i y12)), (13, .o (.v v18)), (14, .o (.i y16)), (15, .o (.v v22)), (84, .o (.b c23))] ∧ HA w0 none1 none1 w [trow 5 vU8 v14 y11, trow 5 vU8 v18 y15, trow 5 vU8 v22 y19]) 7 ?_ (fun a w hC hm => ?_)
                  · clear ht
                    rcases Bool.eq_false_or_eq_true ((y19.length : Int) == (0 : Int)) with hc | hc
                    · have ht := condT hc ej; clear ej
                      rw [hc] at h
                      refine sq_p h 3 tok trivial rfl fun a h => ?_
                      obtain ⟨c24, ej, ht⟩ := bindS ht
                      refine sq_cut (fun a w => Fr 109 a [(3, .o (.i p3)), (4, .o (.i p4)), (10, .o (.b false)), (11, .o (.v v14)), (12, .o (.i y12)), (13, .o (.v v18)), (14, .o (.i y16)), (15, .o (.v v22)), (77, .o (.b true)), (83, .o (.b c24))] ∧ HA w0 none1 none1 w [trow 5 vU8 v14 y11, trow 5 vU8 v18 y15, trow 5 vU8 v22 y19]) 3 ?_ (fun a w hC hm => ?_)
                      · clear ht
                        rcases Bool.eq_false_or_eq_true (y12 != (0 : Int)) with hc | hc
                        · have ht := condT hc ej; clear ej
                          rw [hc] at h
                          refine sq_p h 3 tok trivial rfl fun a h => ?_
                          refine sq_nil ⟨trivial, ?_⟩
                          cases ht
                          exact ⟨h.keep [3, 4, 10, 11, 12, 13, 14, 15, 77, 83], H.take 3⟩
                        · have ht := condF hc ej; clear ej
                          rw [hc] at h
                          refine sq_p h 3 tok trivial rfl fun a h => ?_
                          refine sq_nil ⟨trivial, ?_⟩
                          cases ht
                          exact ⟨h.keep [3, 4, 10, 11, 12, 13, 14, 15, 77, 83], H.take 3⟩
                      · obtain ⟨h, H⟩ := hm
                        refine sq_p h 1 tok trivial rfl fun a h => ?_
                        refine sq_nil ⟨trivial, ?_⟩
                        cases ht
                        exact ⟨h.keep [3, 4, 10, 11, 12, 13, 14, 15, 84], H.take 3⟩
                    · have ht := condF hc ej; clear ej
                      rw [hc] at h
                      refine sq_p h 7 tok trivial rfl fun a h => ?_
                      refine sq_nil ⟨trivial, ?_⟩
                      cases ht
                      exact ⟨h.keep [3, 4, 10, 11, 12, 13, 14, 15, 84], H.take 3⟩
                  · obtain ⟨h, H⟩ := hm
                    refine sq_p h 1 tok trivial rfl fun a h => ?_
                    refine sq_nil ?_
                    refine c_ret ?_
                    cases ht
                    exact fin_one h Try.results9 rfl ⟨rfl, H.pick []⟩
                · have ht := condF hc ht
                  refine c_skip ?_
                  refine c_seq ?_
                  refine c_plain ?_
                  refine sq_p h 3 tok trivial rfl fun a h => ?_
                  obtain ⟨c25, ej, ht⟩ := bindS ht
                  refine sq_cut (fun a w => Fr 109 a [(3, .o (.i p3)), (4, .o (.i p4)), (10, .o (.b false)), (11, .o (.v v14)), (13, .o (.v v18)), (15, .o (.v v22)), (90, .o (.b c25))] ∧ HA w0 none1 none1 w [trow 5 vU8 v14 y11, trow 5 vU8 v18 y15, trow 5 vU8 v22 y19]) 3 ?_ (fun a w hC hm => ?_)
                  · clear ht
                    rcases Bool.eq_false_or_eq_true (y12 == (0 : Int)) with hc | hc
                    · have ht := condT hc ej; clear ej
                      rw [hc] at h
                      refine sq_p h 3 tok trivial rfl fun a h => ?_
                      refine sq_nil ⟨trivial, ?_⟩
                      cases ht
                      exact ⟨h.keep [3, 4, 10, 11, 13, 15, 90], H.take 3⟩
                    · have ht := condF hc ej; clear ej
                      rw [hc] at h
                      refine sq_p h 3 tok trivial rfl fun a h => ?_
                      refine sq_nil ⟨trivial, ?_⟩
                      cases ht
                      exact ⟨h.keep [3, 4, 10, 11, 13, 15, 90], H.take 3⟩
                  · obtain ⟨h, H⟩ := hm
                    refine sq_p h 1 tok trivial rfl fun a h => ?_
                    obtain ⟨c26, ej, ht⟩ := bindS ht
                    refine sq_cut (fun a w => Fr 109 a [(10, .o (.b false)), (11, .o (.v v14)), (13, .o (.v v18)), (15, .o (.v v22)), (98, .o (.b c26))] ∧ HA w0 none1 none1 w [trow 5 vU8 v14 y11, trow 5 vU8 v18 y15, trow 5 vU8 v22 y19]) 7 ?_ (fun a w hC hm => ?_)
                    · clear ht
                      rcases Bool.eq_false_or_eq_true c25 with hc | hc
                      · have ht := condT hc ej; clear ej
                        rw [hc] at h
                        refine sq_p h 1 tok trivial rfl fun a h => ?_
                        refine sq_v (v := .o (.i (y19.length : Int))) h trivial (r_len tok h rfl rfl rfl rfl (Row.rd (H.at (i := 2) rfl))) rfl rfl rfl fun a h => ?_
                        refine sq_p h 5 tok trivial rfl fun a h => ?_
                        refine sq_nil ⟨trivial, ?_⟩
                        cases ht
                        exact ⟨h.keep [10, 11, 13, 15, 98], H.take 3⟩
                      · have ht := condF hc ej; clear ej
                        rw [hc] at h
                        refine sq_p h 7 tok trivial rfl fun a h => ?_
                        refine sq_nil ⟨trivial, ?_⟩
                        cases ht
                        exact ⟨h.keep [10, 11, 13, 15, 98], H.take 3⟩
                    · obtain ⟨h, H⟩ := hm
                      refine sq_p h 1 tok trivial rfl fun a h => ?_
                      obtain ⟨c27, ej, ht⟩ := bindS ht
                      refine sq_cut (fun a w => Fr 109 a [(10, .o (.b false)), (108, .o (.b c27))] ∧ HA w0 none1 none1 w [trow 5 vU8 v14 y11, trow 5 vU8 v18 y15, trow 5 vU8 v22 y19]) 9 ?_ (fun a w hC hm => ?_)
                      · clear ht
                        rcases Bool.eq_false_or_eq_true c26 with hc | hc
                        · have ht := condT hc ej; clear ej
                          rw [hc] at h
                          refine sq_p h 1 tok trivial rfl fun a h => ?_
                          refine sq_r (v := .o (.s y11)) h (.inr rfl) trivial rfl rfl rfl (r_b2s tok h rfl rfl rfl rfl rfl (Row.rd (H.at (i := 0) rfl))) fun a h => ?_
                          refine sq_p h 1 tok trivial rfl fun a h => ?_
                          refine sq_r (v := .o (.s y15)) h (.inr rfl) trivial rfl rfl rfl (r_b2s tok h rfl rfl rfl rfl rfl (Row.rd (H.at (i := 1) rfl))) fun a h => ?_
                          obtain ⟨x28, e_x28, ht⟩ := bindS ht
                          refine sq_v (v := .o (.s x28)) h trivial (j_cat h e_x28 rfl rfl rfl) rfl rfl rfl fun a h => ?_
                          refine sq_p h 1 tok trivial rfl fun a h => ?_
                          refine sq_r (v := .o (.s y19)) h (.inr rfl) trivial rfl rfl rfl (r_b2s tok h rfl rfl rfl rfl rfl (Row.rd (H.at (i := 2) rfl))) fun a h => ?_
                          refine sq_p h 2 tok trivial rfl fun a h => ?_
                          refine sq_nil ⟨trivial, ?_⟩
                          cases ht
                          exact ⟨h.keep [10, 108], H.take 3⟩
                        · have ht := condF hc ej; clear ej
                          rw [hc] at h
                          refine sq_p h 9 tok trivial rfl fun a h => ?_
                          refine sq_nil ⟨trivial, ?_⟩
                          cases ht
                          exact ⟨h.keep [10, 108], H.take 3⟩
                      · obtain ⟨h, H⟩ := hm
                        refine sq_p h 1 tok trivial rfl fun a h => ?_
                        refine sq_nil ?_
                        refine c_ret ?_
                        cases ht
                        exact fin_one h Try.results9 rfl ⟨rfl, H.pick []⟩
end Go.Proofs.Ytoglnkhchifeiaa
