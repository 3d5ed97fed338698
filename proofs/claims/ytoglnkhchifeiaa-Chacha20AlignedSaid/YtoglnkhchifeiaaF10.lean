/- kinkeep/kinkeeplaw07.Chacha20Aligned: its twin, and that the call does what the twin says. Printed by a program. -/
import Derived.Test.YtoglnkhchifeiaaF13
import Derived.Test.YtoglnkhchifeiaaF15
import Derived.Test.YtoglnkhchifeiaaF19
namespace Go.Proofs.Ytoglnkhchifeiaa
open Go.Tw
set_option linter.unusedSimpArgs false
set_option linter.unusedVariables false
def T10 (F : Nat) (p0 : List UInt8) (p1 : List UInt8) (p2 : UInt32) : Option (Bool) :=
  (Option.bind (T13 F ) fun y1 => (Option.bind (bif (!y1) then some true else some (decide ((100 : Int) < (p0.length : Int)))) fun c3 => (Option.bind (bif c3 then some true else some (decide ((100 : Int) < (p1.length : Int)))) fun c4 => (bif c4 then (Option.bind (T13 F ) fun y5 => some y5) else (bind2 (T15 F p0 p1 p2) fun y7 y8 => (bind2 (T19 F p0 p1 (w64 ((p2.toNat : Int) * (64 : Int))) (64 : Int)) fun y11 y12 => (Option.bind (bif (y8 == y12) then some (y7 == y11) else some false) fun c15 => (Option.bind (bif c15 then (Option.bind (bif (y8 != (0 : Int)) then some true else some ((y7.length : Int) == (64 : Int))) fun c17 => some c17) else some false) fun c16 => some c16))))))))

set_option maxRecDepth 100000 in
set_option maxHeartbeats 4000000 in
theorem ok10 (F : Nat) (p0 : List UInt8) (p1 : List UInt8) (p2 : UInt32) (w0 : World)  {r0 : Bool} (ht : T10 F p0 p1 p2 = some r0) : Calls Try.prog 10 #[(.o (.s p0) : SV).val, (.o (.s p1) : SV).val, (.o (.u32 p2) : SV).val] w0 (Ret fun v w' => v = (S0.b r0).val ∧ HA w0 none1 none1 w' []) := by
  unfold T10 at ht
  refine enterW [.o (.s p0), .o (.s p1), .o (.u32 p2)] Try.func10 rfl Try.ntmps10 rfl rfl fun a w H h => ?_
  refine c_seq ?_
  refine c_plain ?_
  refine sq_p h 1 tok trivial rfl fun a h => ?_
  refine sq_nil ?_
  refine c_seq ?_
  refine c_seq ?_
  refine c_plain ?_
  obtain ⟨y1, e2, ht⟩ := bindS ht
  refine sq_call h rfl rfl Try.func13 rfl rfl rfl (ok13 F  w  e2) ?_
  rintro _ w ⟨rfl, HN⟩
  have H := H.call HN; clear HN
  refine ⟨trivial, ?_⟩
  refine sq_fr (d := 11) (v := .o (.b y1)) h rfl rfl rfl fun a h => ?_
  refine sq_p h 2 tok trivial rfl fun a h => ?_
  obtain ⟨c3, ej, ht⟩ := bindS ht
  refine sq_cut (fun a w => Fr 59 a [(0, .o (.s p0)), (1, .o (.s p1)), (2, .o (.u32 p2)), (6, .o (.b false)), (17, .o (.b c3))] ∧ HA w0 none1 none1 w []) 4 ?_ (fun a w hC hm => ?_)
  · clear ht
    rcases Bool.eq_false_or_eq_true (!y1) with hc | hc
    · have ht := condT hc ej; clear ej
      rw [hc] at h
      refine sq_p h 4 tok trivial rfl fun a h => ?_
      refine sq_nil ⟨trivial, ?_⟩
      cases ht
      exact ⟨h.keep [0, 1, 2, 6, 17], H.take 0⟩
    · have ht := condF hc ej; clear ej
      rw [hc] at h
      refine sq_p h 4 tok trivial rfl fun a h => ?_
      refine sq_nil ⟨trivial, ?_⟩
      cases ht
      exact ⟨h.keep [0, 1, 2, 6, 17], H.take 0⟩
  · obtain ⟨h, H⟩ := hm
    refine sq_p h 1 tok trivial rfl fun a h => ?_
    obtain ⟨c4, ej, ht⟩ := bindS ht
    refine sq_cut (fun a w => Fr 59 a [(0, .o (.s p0)), (1, .o (.s p1)), (2, .o (.u32 p2)), (6, .o (.b false)), (22, .o (.b c4))] ∧ HA w0 none1 none1 w []) 4 ?_ (fun a w hC hm => ?_)
    · clear ht
      rcases Bool.eq_false_or_eq_true c3 with hc | hc
      · have ht := condT hc ej; clear ej
        rw [hc] at h
        refine sq_p h 4 tok trivial rfl fun a h => ?_
        refine sq_nil ⟨trivial, ?_⟩
        cases ht
        exact ⟨h.keep [0, 1, 2, 6, 22], H.take 0⟩
      · have ht := condF hc ej; clear ej
        rw [hc] at h
        refine sq_p h 4 tok trivial rfl fun a h => ?_
        refine sq_nil ⟨trivial, ?_⟩
        cases ht
        exact ⟨h.keep [0, 1, 2, 6, 22], H.take 0⟩
    · obtain ⟨h, H⟩ := hm
      refine sq_nil ?_
      refine c_cond h rfl rfl (fun hc => ?_) (fun hc => ?_)
      · have ht := condT hc ht
        refine c_seq ?_
        refine c_plain ?_
        obtain ⟨y5, e6, ht⟩ := bindS ht
        refine sq_call h rfl rfl Try.func13 rfl rfl rfl (ok13 F  w  e6) ?_
        rintro _ w ⟨rfl, HN⟩
        have H := H.call HN; clear HN
        refine ⟨trivial, ?_⟩
        refine sq_fr (d := 23) (v := .o (.b y5)) h rfl rfl rfl fun a h => ?_
        refine sq_p h 1 tok trivial rfl fun a h => ?_
        refine sq_nil ?_
        refine c_ret ?_
        cases ht
        exact fin_one h Try.results10 rfl ⟨rfl, H.pick []⟩
      · have ht := condF hc ht
        refine c_skip ?_
        refine c_seq ?_
        refine c_plain ?_
        refine sq_p h 3 tok trivial rfl fun a h => ?_
        obtain ⟨y7, y8, e9, ht⟩ := bindS2 ht
        refine sq_call h rfl rfl Try.func15 rfl rfl rfl (ok15 F p0 p1 p2 w  e9) ?_
        rintro _ w ⟨v10, rfl, HN⟩
        have H := H.call HN; clear HN
        refine ⟨trivial, ?_⟩
        refine sq_fr (d := 28) (v := .t [.v v10, .i y8]) h rfl rfl rfl fun a h => ?_
        refine sq_p h 5 tok trivial rfl fun a h => ?_
        refine sq_nil ?_
        refine c_seq ?_
        refine c_plain ?_
        refine sq_p h 5 tok trivial rfl fun a h => ?_
        obtain ⟨y11, y12, e13, ht⟩ := bindS2 ht
        refine sq_call h rfl rfl Try.func19 rfl rfl rfl (ok19 F p0 p1 (w64 ((p2.toNat : Int) * (64 : Int))) (64 : Int) w  e13) ?_
        rintro _ w ⟨v14, rfl, HN⟩
        have H := H.call HN; clear HN
        refine ⟨trivial, ?_⟩
        refine sq_fr (d := 37) (v := .t [.v v14, .i y12]) h rfl rfl rfl fun a h => ?_
        refine sq_p h 5 tok trivial rfl fun a h => ?_
        refine sq_nil ?_
        refine c_seq ?_
        refine c_plain ?_
        refine sq_p h 4 tok trivial rfl fun a h => ?_
        obtain ⟨c15, ej, ht⟩ := bindS ht
        refine sq_cut (fun a w => Fr 59 a [(6, .o (.b false)), (7, .o (.v v10)), (8, .o (.i y8)), (49, .o (.b c15))] ∧ HA w0 none1 none1 w [trow 5 vU8 v10 y7, trow 5 vU8 v14 y11]) 6 ?_ (fun a w hC hm => ?_)
        · clear ht
          rcases Bool.eq_false_or_eq_true (y8 == y12) with hc | hc
          · have ht := condT hc ej; clear ej
            rw [hc] at h
            refine sq_p h 1 tok trivial rfl fun a h => ?_
            refine sq_r (v := .o (.s y7)) h (.inr rfl) trivial rfl rfl rfl (r_b2s tok h rfl rfl rfl rfl rfl (Row.rd (H.at (i := 0) rfl))) fun a h => ?_
            refine sq_p h 1 tok trivial rfl fun a h => ?_
            refine sq_r (v := .o (.s y11)) h (.inr rfl) trivial rfl rfl rfl (r_b2s tok h rfl rfl rfl rfl rfl (Row.rd (H.at (i := 1) rfl))) fun a h => ?_
            refine sq_p h 2 tok trivial rfl fun a h => ?_
            refine sq_nil ⟨trivial, ?_⟩
            cases ht
            exact ⟨h.keep [6, 7, 8, 49], H.take 2⟩
          · have ht := condF hc ej; clear ej
            rw [hc] at h
            refine sq_p h 6 tok trivial rfl fun a h => ?_
            refine sq_nil ⟨trivial, ?_⟩
            cases ht
            exact ⟨h.keep [6, 7, 8, 49], H.take 2⟩
        · obtain ⟨h, H⟩ := hm
          refine sq_p h 1 tok trivial rfl fun a h => ?_
          obtain ⟨c16, ej, ht⟩ := bindS ht
          refine sq_cut (fun a w => Fr 59 a [(6, .o (.b false)), (58, .o (.b c16))] ∧ HA w0 none1 none1 w [trow 5 vU8 v10 y7, trow 5 vU8 v14 y11]) 8 ?_ (fun a w hC hm => ?_)
          · clear ht
            rcases Bool.eq_false_or_eq_true c15 with hc | hc
            · have ht := condT hc ej; clear ej
              rw [hc] at h
              refine sq_p h 3 tok trivial rfl fun a h => ?_
              obtain ⟨c17, ej, ht⟩ := bindS ht
              refine sq_cut (fun a w => Fr 59 a [(6, .o (.b false)), (50, .o (.b true)), (57, .o (.b c17))] ∧ HA w0 none1 none1 w [trow 5 vU8 v10 y7, trow 5 vU8 v14 y11]) 4 ?_ (fun a w hC hm => ?_)
              · clear ht
                rcases Bool.eq_false_or_eq_true (y8 != (0 : Int)) with hc | hc
                · have ht := condT hc ej; clear ej
                  rw [hc] at h
                  refine sq_p h 4 tok trivial rfl fun a h => ?_
                  refine sq_nil ⟨trivial, ?_⟩
                  cases ht
                  exact ⟨h.keep [6, 50, 57], H.take 2⟩
                · have ht := condF hc ej; clear ej
                  rw [hc] at h
                  refine sq_p h 1 tok trivial rfl fun a h => ?_
                  refine sq_v (v := .o (.i (y7.length : Int))) h trivial (r_len tok h rfl rfl rfl rfl (Row.rd (H.at (i := 0) rfl))) rfl rfl rfl fun a h => ?_
                  refine sq_p h 2 tok trivial rfl fun a h => ?_
                  refine sq_nil ⟨trivial, ?_⟩
                  cases ht
                  exact ⟨h.keep [6, 50, 57], H.take 2⟩
              · obtain ⟨h, H⟩ := hm
                refine sq_p h 1 tok trivial rfl fun a h => ?_
                refine sq_nil ⟨trivial, ?_⟩
                cases ht
                exact ⟨h.keep [6, 58], H.take 2⟩
            · have ht := condF hc ej; clear ej
              rw [hc] at h
              refine sq_p h 8 tok trivial rfl fun a h => ?_
              refine sq_nil ⟨trivial, ?_⟩
              cases ht
              exact ⟨h.keep [6, 58], H.take 2⟩
          · obtain ⟨h, H⟩ := hm
            refine sq_p h 1 tok trivial rfl fun a h => ?_
            refine sq_nil ?_
            refine c_ret ?_
            cases ht
            exact fin_one h Try.results10 rfl ⟨rfl, H.pick []⟩
end Go.Proofs.Ytoglnkhchifeiaa
