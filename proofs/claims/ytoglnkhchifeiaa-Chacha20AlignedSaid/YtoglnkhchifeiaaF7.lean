/- kinkeep/kinkeeplaw07.Chacha20Twice: its twin, and that the call does what the twin says. Printed by a program. -/
import Derived.Test.YtoglnkhchifeiaaF13
import Derived.Test.YtoglnkhchifeiaaF17
namespace Go.Proofs.Ytoglnkhchifeiaa
open Go.Tw
set_option linter.unusedSimpArgs false
set_option linter.unusedVariables false
def T7 (F : Nat) (p0 : List UInt8) (p1 : List UInt8) : Option (Bool) :=
  (Option.bind (T13 F ) fun y1 => (Option.bind (bif (!y1) then some true else some (decide ((300 : Int) < (p0.length : Int)))) fun c3 => (Option.bind (bif c3 then some true else some ((p0.length : Int) != (p1.length : Int))) fun c4 => (bif c4 then (Option.bind (T13 F ) fun y5 => some y5) else (bind2 (T17 F p0 p1) fun y7 y8 => (bind2 (T17 F p1 p0) fun y11 y12 => (bind2 (T17 F y7 p1) fun y15 y16 => (Option.bind (bif (y8 == (0 : Int)) then some (y12 == (0 : Int)) else some false) fun c19 => (Option.bind (bif c19 then some (y16 == (0 : Int)) else some false) fun c20 => (Option.bind (bif c20 then some (y7 == y11) else some false) fun c21 => (Option.bind (bif c21 then some (y15 == p0) else some false) fun c22 => some c22)))))))))))

set_option maxRecDepth 100000 in
set_option maxHeartbeats 4000000 in
theorem ok7 (F : Nat) (p0 : List UInt8) (p1 : List UInt8) (w0 : World) (v_p0 : Value) (h_p0 : TRd w0 vU8 v_p0 p0) (v_p1 : Value) (h_p1 : TRd w0 vU8 v_p1 p1) {r0 : Bool} (ht : T7 F p0 p1 = some r0) : Calls Try.prog 7 #[(.o (.v v_p0) : SV).val, (.o (.v v_p1) : SV).val] w0 (Ret fun v w' => v = (S0.b r0).val ∧ HA w0 none1 none1 w' []) := by
  unfold T7 at ht
  refine enterW [.o (.v v_p0), .o (.v v_p1)] Try.func7 rfl Try.ntmps7 rfl rfl fun a w H h => ?_
  refine c_seq ?_
  refine c_plain ?_
  refine sq_p h 1 tok trivial rfl fun a h => ?_
  refine sq_nil ?_
  refine c_seq ?_
  refine c_seq ?_
  refine c_plain ?_
  obtain ⟨y1, e2, ht⟩ := bindS ht
  refine sq_call h rfl rfl Try.func13 rfl rfl rfl (ok13 F  w  e2) ?_
  rintro _ w ⟨rfl, HN⟩
  have H := H.call HN; clear HN
  refine ⟨trivial, ?_⟩
  refine sq_fr (d := 11) (v := .o (.b y1)) h rfl rfl rfl fun a h => ?_
  refine sq_p h 2 tok trivial rfl fun a h => ?_
  obtain ⟨c3, ej, ht⟩ := bindS ht
  refine sq_cut (fun a w => Fr 68 a [(0, .o (.v v_p0)), (1, .o (.v v_p1)), (4, .o (.b false)), (17, .o (.b c3))] ∧ HA w0 none1 none1 w []) 4 ?_ (fun a w hC hm => ?_)
  · clear ht
    rcases Bool.eq_false_or_eq_true (!y1) with hc | hc
    · have ht := condT hc ej; clear ej
      rw [hc] at h
      refine sq_p h 4 tok trivial rfl fun a h => ?_
      refine sq_nil ⟨trivial, ?_⟩
      cases ht
      exact ⟨h.keep [0, 1, 4, 17], H.take 0⟩
    · have ht := condF hc ej; clear ej
      rw [hc] at h
      refine sq_p h 1 tok trivial rfl fun a h => ?_
      refine sq_v (v := .o (.i (p0.length : Int))) h trivial (r_len tok h rfl rfl rfl rfl (H.old h_p0 (fun _ _ e => e))) rfl rfl rfl fun a h => ?_
      refine sq_p h 2 tok trivial rfl fun a h => ?_
      refine sq_nil ⟨trivial, ?_⟩
      cases ht
      exact ⟨h.keep [0, 1, 4, 17], H.take 0⟩
  · obtain ⟨h, H⟩ := hm
    refine sq_p h 1 tok trivial rfl fun a h => ?_
    obtain ⟨c4, ej, ht⟩ := bindS ht
    refine sq_cut (fun a w => Fr 68 a [(0, .o (.v v_p0)), (1, .o (.v v_p1)), (4, .o (.b false)), (24, .o (.b c4))] ∧ HA w0 none1 none1 w []) 6 ?_ (fun a w hC hm => ?_)
    · clear ht
      rcases Bool.eq_false_or_eq_true c3 with hc | hc
      · have ht := condT hc ej; clear ej
        rw [hc] at h
        refine sq_p h 6 tok trivial rfl fun a h => ?_
        refine sq_nil ⟨trivial, ?_⟩
        cases ht
        exact ⟨h.keep [0, 1, 4, 24], H.take 0⟩
      · have ht := condF hc ej; clear ej
        rw [hc] at h
        refine sq_p h 1 tok trivial rfl fun a h => ?_
        refine sq_v (v := .o (.i (p0.length : Int))) h trivial (r_len tok h rfl rfl rfl rfl (H.old h_p0 (fun _ _ e => e))) rfl rfl rfl fun a h => ?_
        refine sq_p h 1 tok trivial rfl fun a h => ?_
        refine sq_v (v := .o (.i (p1.length : Int))) h trivial (r_len tok h rfl rfl rfl rfl (H.old h_p1 (fun _ _ e => e))) rfl rfl rfl fun a h => ?_
        refine sq_p h 2 tok trivial rfl fun a h => ?_
        refine sq_nil ⟨trivial, ?_⟩
        cases ht
        exact ⟨h.keep [0, 1, 4, 24], H.take 0⟩
    · obtain ⟨h, H⟩ := hm
      refine sq_nil ?_
      refine c_cond h rfl rfl (fun hc => ?_) (fun hc => ?_)
      · have ht := condT hc ht
        refine c_seq ?_
        refine c_plain ?_
        obtain ⟨y5, e6, ht⟩ := bindS ht
        refine sq_call h rfl rfl Try.func13 rfl rfl rfl (ok13 F  w  e6) ?_
        rintro _ w ⟨rfl, HN⟩
        have H := H.call HN; clear HN
        refine ⟨trivial, ?_⟩
        refine sq_fr (d := 25) (v := .o (.b y5)) h rfl rfl rfl fun a h => ?_
        refine sq_p h 1 tok trivial rfl fun a h => ?_
        refine sq_nil ?_
        refine c_ret ?_
        cases ht
        exact fin_one h Try.results7 rfl ⟨rfl, H.pick []⟩
      · have ht := condF hc ht
        refine c_skip ?_
        refine c_seq ?_
        refine c_plain ?_
        refine sq_p h 2 tok trivial rfl fun a h => ?_
        obtain ⟨y7, y8, e9, ht⟩ := bindS2 ht
        refine sq_call h rfl rfl Try.func17 rfl rfl rfl (ok17 F p0 p1 w v_p0 (H.old h_p0 (fun _ _ e => e)) v_p1 (H.old h_p1 (fun _ _ e => e)) e9) ?_
        rintro _ w ⟨v10, rfl, HN⟩
        have H := H.call HN; clear HN
        refine ⟨trivial, ?_⟩
        refine sq_fr (d := 29) (v := .t [.v v10, .i y8]) h rfl rfl rfl fun a h => ?_
        refine sq_p h 5 tok trivial rfl fun a h => ?_
        refine sq_nil ?_
        refine c_seq ?_
        refine c_plain ?_
        refine sq_p h 2 tok trivial rfl fun a h => ?_
        obtain ⟨y11, y12, e13, ht⟩ := bindS2 ht
        refine sq_call h rfl rfl Try.func17 rfl rfl rfl (ok17 F p1 p0 w v_p1 (H.old h_p1 (fun _ _ e => e)) v_p0 (H.old h_p0 (fun _ _ e => e)) e13) ?_
        rintro _ w ⟨v14, rfl, HN⟩
        have H := H.call HN; clear HN
        refine ⟨trivial, ?_⟩
        refine sq_fr (d := 35) (v := .t [.v v14, .i y12]) h rfl rfl rfl fun a h => ?_
        refine sq_p h 5 tok trivial rfl fun a h => ?_
        refine sq_nil ?_
        refine c_seq ?_
        refine c_plain ?_
        refine sq_p h 2 tok trivial rfl fun a h => ?_
        obtain ⟨y15, y16, e17, ht⟩ := bindS2 ht
        refine sq_call h rfl rfl Try.func17 rfl rfl rfl (ok17 F y7 p1 w v10 (Row.rd (H.at (i := 0) rfl)) v_p1 (H.old h_p1 (fun _ _ e => e)) e17) ?_
        rintro _ w ⟨v18, rfl, HN⟩
        have H := H.call HN; clear HN
        refine ⟨trivial, ?_⟩
        refine sq_fr (d := 41) (v := .t [.v v18, .i y16]) h rfl rfl rfl fun a h => ?_
        refine sq_p h 5 tok trivial rfl fun a h => ?_
        refine sq_nil ?_
        refine c_seq ?_
        refine c_plain ?_
        refine sq_p h 3 tok trivial rfl fun a h => ?_
        obtain ⟨c19, ej, ht⟩ := bindS ht
        refine sq_cut (fun a w => Fr 68 a [(0, .o (.v v_p0)), (4, .o (.b false)), (5, .o (.v v10)), (7, .o (.v v14)), (9, .o (.v v18)), (10, .o (.i y16)), (49, .o (.b c19))] ∧ HA w0 none1 none1 w [trow 5 vU8 v10 y7, trow 5 vU8 v14 y11, trow 5 vU8 v18 y15]) 3 ?_ (fun a w hC hm => ?_)
        · clear ht
          rcases Bool.eq_false_or_eq_true (y8 == (0 : Int)) with hc | hc
          · have ht := condT hc ej; clear ej
            rw [hc] at h
            refine sq_p h 3 tok trivial rfl fun a h => ?_
            refine sq_nil ⟨trivial, ?_⟩
            cases ht
            exact ⟨h.keep [0, 4, 5, 7, 9, 10, 49], H.take 3⟩
          · have ht := condF hc ej; clear ej
            rw [hc] at h
            refine sq_p h 3 tok trivial rfl fun a h => ?_
            refine sq_nil ⟨trivial, ?_⟩
            cases ht
            exact ⟨h.keep [0, 4, 5, 7, 9, 10, 49], H.take 3⟩
        · obtain ⟨h, H⟩ := hm
          refine sq_p h 1 tok trivial rfl fun a h => ?_
          obtain ⟨c20, ej, ht⟩ := bindS ht
          refine sq_cut (fun a w => Fr 68 a [(0, .o (.v v_p0)), (4, .o (.b false)), (5, .o (.v v10)), (7, .o (.v v14)), (9, .o (.v v18)), (53, .o (.b c20))] ∧ HA w0 none1 none1 w [trow 5 vU8 v10 y7, trow 5 vU8 v14 y11, trow 5 vU8 v18 y15]) 3 ?_ (fun a w hC hm => ?_)
          · clear ht
            rcases Bool.eq_false_or_eq_true c19 with hc | hc
            · have ht := condT hc ej; clear ej
              rw [hc] at h
              refine sq_p h 3 tok trivial rfl fun a h => ?_
              refine sq_nil ⟨trivial, ?_⟩
              cases ht
              exact ⟨h.keep [0, 4, 5, 7, 9, 53], H.take 3⟩
            · have ht := condF hc ej; clear ej
              rw [hc] at h
              refine sq_p h 3 tok trivial rfl fun a h => ?_
              refine sq_nil ⟨trivial, ?_⟩
              cases ht
              exact ⟨h.keep [0, 4, 5, 7, 9, 53], H.take 3⟩
          · obtain ⟨h, H⟩ := hm
            refine sq_p h 1 tok trivial rfl fun a h => ?_
            obtain ⟨c21, ej, ht⟩ := bindS ht
            refine sq_cut (fun a w => Fr 68 a [(0, .o (.v v_p0)), (4, .o (.b false)), (9, .o (.v v18)), (60, .o (.b c21))] ∧ HA w0 none1 none1 w [trow 5 vU8 v10 y7, trow 5 vU8 v14 y11, trow 5 vU8 v18 y15]) 6 ?_ (fun a w hC hm => ?_)
            · clear ht
              rcases Bool.eq_false_or_eq_true c20 with hc | hc
              · have ht := condT hc ej; clear ej
                rw [hc] at h
                refine sq_p h 1 tok trivial rfl fun a h => ?_
                refine sq_r (v := .o (.s y7)) h (.inr rfl) trivial rfl rfl rfl (r_b2s tok h rfl rfl rfl rfl rfl (Row.rd (H.at (i := 0) rfl))) fun a h => ?_
                refine sq_p h 1 tok trivial rfl fun a h => ?_
                refine sq_r (v := .o (.s y11)) h (.inr rfl) trivial rfl rfl rfl (r_b2s tok h rfl rfl rfl rfl rfl (Row.rd (H.at (i := 1) rfl))) fun a h => ?_
                refine sq_p h 2 tok trivial rfl fun a h => ?_
                refine sq_nil ⟨trivial, ?_⟩
                cases ht
                exact ⟨h.keep [0, 4, 9, 60], H.take 3⟩
              · have ht := condF hc ej; clear ej
                rw [hc] at h
                refine sq_p h 6 tok trivial rfl fun a h => ?_
                refine sq_nil ⟨trivial, ?_⟩
                cases ht
                exact ⟨h.keep [0, 4, 9, 60], H.take 3⟩
            · obtain ⟨h, H⟩ := hm
              refine sq_p h 1 tok trivial rfl fun a h => ?_
              obtain ⟨c22, ej, ht⟩ := bindS ht
              refine sq_cut (fun a w => Fr 68 a [(4, .o (.b false)), (67, .o (.b c22))] ∧ HA w0 none1 none1 w [trow 5 vU8 v10 y7, trow 5 vU8 v14 y11, trow 5 vU8 v18 y15]) 6 ?_ (fun a w hC hm => ?_)
              · clear ht
                rcases Bool.eq_false_or_eq_true c21 with hc | hc
                · have ht := condT hc ej; clear ej
                  rw [hc] at h
                  refine sq_p h 1 tok trivial rfl fun a h => ?_
                  refine sq_r (v := .o (.s y15)) h (.inr rfl) trivial rfl rfl rfl (r_b2s tok h rfl rfl rfl rfl rfl (Row.rd (H.at (i := 2) rfl))) fun a h => ?_
                  refine sq_p h 1 tok trivial rfl fun a h => ?_
                  refine sq_r (v := .o (.s p0)) h (.inr rfl) trivial rfl rfl rfl (r_b2s tok h rfl rfl rfl rfl rfl (H.old h_p0 (fun _ _ e => e))) fun a h => ?_
                  refine sq_p h 2 tok trivial rfl fun a h => ?_
                  refine sq_nil ⟨trivial, ?_⟩
                  cases ht
                  exact ⟨h.keep [4, 67], H.take 3⟩
                · have ht := condF hc ej; clear ej
                  rw [hc] at h
                  refine sq_p h 6 tok trivial rfl fun a h => ?_
                  refine sq_nil ⟨trivial, ?_⟩
                  cases ht
                  exact ⟨h.keep [4, 67], H.take 3⟩
              · obtain ⟨h, H⟩ := hm
                refine sq_p h 1 tok trivial rfl fun a h => ?_
                refine sq_nil ?_
                refine c_ret ?_
                cases ht
                exact fin_one h Try.results7 rfl ⟨rfl, H.pick []⟩
end Go.Proofs.Ytoglnkhchifeiaa
