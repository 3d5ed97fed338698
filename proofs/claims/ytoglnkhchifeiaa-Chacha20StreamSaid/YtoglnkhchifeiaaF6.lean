/- kinkeep/kinkeeplaw07.Chacha20Xor: its twin, and that the call does what the twin says. Printed by a program. -/
import Derived.Test.YtoglnkhchifeiaaF13
import Derived.Test.YtoglnkhchifeiaaF17
import Derived.Test.YtoglnkhchifeiaaF18
namespace Go.Proofs.Ytoglnkhchifeiaa
open Go.Tw
set_option linter.unusedSimpArgs false
set_option linter.unusedVariables false
def T6 (F : Nat) (p0 : List UInt8) (p1 : List UInt8) : Option (Bool) :=
  (Option.bind (T13 F ) fun y1 => (Option.bind (bif (!y1) then some true else some (decide ((300 : Int) < (p0.length : Int)))) fun c3 => (Option.bind (bif c3 then some true else some (decide ((300 : Int) < (p1.length : Int)))) fun c4 => (bif c4 then (Option.bind (T13 F ) fun y5 => some y5) else (bind2 (T17 F p0 p1) fun y7 y8 => (bind2 (T18 F p0 p1) fun y11 y12 => (Option.bind (bif (y7 == y11) then some (y8 == y12) else some false) fun c15 => some c15)))))))

set_option maxRecDepth 100000 in
set_option maxHeartbeats 4000000 in
theorem ok6 (F : Nat) (p0 : List UInt8) (p1 : List UInt8) (w0 : World) (v_p0 : Value) (h_p0 : TRd w0 vU8 v_p0 p0) (v_p1 : Value) (h_p1 : TRd w0 vU8 v_p1 p1) {r0 : Bool} (ht : T6 F p0 p1 = some r0) : Calls Try.prog 6 #[(.o (.v v_p0) : SV).val, (.o (.v v_p1) : SV).val] w0 (Ret fun v w' => v = (S0.b r0).val ∧ HA w0 none1 none1 w' []) := by
  unfold T6 at ht
  refine enterW [.o (.v v_p0), .o (.v v_p1)] Try.func6 rfl Try.ntmps6 rfl rfl fun a w H h => ?_
  refine c_seq ?_
  refine c_plain ?_
  refine sq_p h 1 tok trivial rfl fun a h => ?_
  refine sq_nil ?_
  refine c_seq ?_
  refine c_seq ?_
  refine c_plain ?_
  obtain ⟨y1, e2, ht⟩ := bindS ht
  refine sq_call h rfl rfl Try.func13 rfl rfl rfl (ok13 F  w  e2) ?_
  rintro _ w ⟨rfl, HN⟩
  have H := H.call HN; clear HN
  refine ⟨trivial, ?_⟩
  refine sq_fr (d := 9) (v := .o (.b y1)) h rfl rfl rfl fun a h => ?_
  refine sq_p h 2 tok trivial rfl fun a h => ?_
  obtain ⟨c3, ej, ht⟩ := bindS ht
  refine sq_cut (fun a w => Fr 44 a [(0, .o (.v v_p0)), (1, .o (.v v_p1)), (4, .o (.b false)), (15, .o (.b c3))] ∧ HA w0 none1 none1 w []) 4 ?_ (fun a w hC hm => ?_)
  · clear ht
    rcases Bool.eq_false_or_eq_true (!y1) with hc | hc
    · have ht := condT hc ej; clear ej
      rw [hc] at h
      refine sq_p h 4 tok trivial rfl fun a h => ?_
      refine sq_nil ⟨trivial, ?_⟩
      cases ht
      exact ⟨h.keep [0, 1, 4, 15], H.take 0⟩
    · have ht := condF hc ej; clear ej
      rw [hc] at h
      refine sq_p h 1 tok trivial rfl fun a h => ?_
      refine sq_v (v := .o (.i (p0.length : Int))) h trivial (r_len tok h rfl rfl rfl rfl (H.old h_p0 (fun _ _ e => e))) rfl rfl rfl fun a h => ?_
      refine sq_p h 2 tok trivial rfl fun a h => ?_
      refine sq_nil ⟨trivial, ?_⟩
      cases ht
      exact ⟨h.keep [0, 1, 4, 15], H.take 0⟩
  · obtain ⟨h, H⟩ := hm
    refine sq_p h 1 tok trivial rfl fun a h => ?_
    obtain ⟨c4, ej, ht⟩ := bindS ht
    refine sq_cut (fun a w => Fr 44 a [(0, .o (.v v_p0)), (1, .o (.v v_p1)), (4, .o (.b false)), (20, .o (.b c4))] ∧ HA w0 none1 none1 w []) 4 ?_ (fun a w hC hm => ?_)
    · clear ht
      rcases Bool.eq_false_or_eq_true c3 with hc | hc
      · have ht := condT hc ej; clear ej
        rw [hc] at h
        refine sq_p h 4 tok trivial rfl fun a h => ?_
        refine sq_nil ⟨trivial, ?_⟩
        cases ht
        exact ⟨h.keep [0, 1, 4, 20], H.take 0⟩
      · have ht := condF hc ej; clear ej
        rw [hc] at h
        refine sq_p h 1 tok trivial rfl fun a h => ?_
        refine sq_v (v := .o (.i (p1.length : Int))) h trivial (r_len tok h rfl rfl rfl rfl (H.old h_p1 (fun _ _ e => e))) rfl rfl rfl fun a h => ?_
        refine sq_p h 2 tok trivial rfl fun a h => ?_
        refine sq_nil ⟨trivial, ?_⟩
        cases ht
        exact ⟨h.keep [0, 1, 4, 20], H.take 0⟩
    · obtain ⟨h, H⟩ := hm
      refine sq_nil ?_
      refine c_cond h rfl rfl (fun hc => ?_) (fun hc => ?_)
      · have ht := condT hc ht
        refine c_seq ?_
        refine c_plain ?_
        obtain ⟨y5, e6, ht⟩ := bindS ht
        refine sq_call h rfl rfl Try.func13 rfl rfl rfl (ok13 F  w  e6) ?_
        rintro _ w ⟨rfl, HN⟩
        have H := H.call HN; clear HN
        refine ⟨trivial, ?_⟩
        refine sq_fr (d := 21) (v := .o (.b y5)) h rfl rfl rfl fun a h => ?_
        refine sq_p h 1 tok trivial rfl fun a h => ?_
        refine sq_nil ?_
        refine c_ret ?_
        cases ht
        exact fin_one h Try.results6 rfl ⟨rfl, H.pick []⟩
      · have ht := condF hc ht
        refine c_skip ?_
        refine c_seq ?_
        refine c_plain ?_
        refine sq_p h 2 tok trivial rfl fun a h => ?_
        obtain ⟨y7, y8, e9, ht⟩ := bindS2 ht
        refine sq_call h rfl rfl Try.func17 rfl rfl rfl (ok17 F p0 p1 w v_p0 (H.old h_p0 (fun _ _ e => e)) v_p1 (H.old h_p1 (fun _ _ e => e)) e9) ?_
        rintro _ w ⟨v10, rfl, HN⟩
        have H := H.call HN; clear HN
        refine ⟨trivial, ?_⟩
        refine sq_fr (d := 25) (v := .t [.v v10, .i y8]) h rfl rfl rfl fun a h => ?_
        refine sq_p h 5 tok trivial rfl fun a h => ?_
        refine sq_nil ?_
        refine c_seq ?_
        refine c_plain ?_
        refine sq_p h 2 tok trivial rfl fun a h => ?_
        obtain ⟨y11, y12, e13, ht⟩ := bindS2 ht
        refine sq_call h rfl rfl Try.func18 rfl rfl rfl (ok18 F p0 p1 w v_p0 (H.old h_p0 (fun _ _ e => e)) v_p1 (H.old h_p1 (fun _ _ e => e)) e13) ?_
        rintro _ w ⟨v14, rfl, HN⟩
        have H := H.call HN; clear HN
        refine ⟨trivial, ?_⟩
        refine sq_fr (d := 31) (v := .t [.v v14, .i y12]) h rfl rfl rfl fun a h => ?_
        refine sq_p h 5 tok trivial rfl fun a h => ?_
        refine sq_nil ?_
        refine c_seq ?_
        refine c_plain ?_
        refine sq_p h 1 tok trivial rfl fun a h => ?_
        refine sq_r (v := .o (.s y7)) h (.inr rfl) trivial rfl rfl rfl (r_b2s tok h rfl rfl rfl rfl rfl (Row.rd (H.at (i := 0) rfl))) fun a h => ?_
        refine sq_p h 1 tok trivial rfl fun a h => ?_
        refine sq_r (v := .o (.s y11)) h (.inr rfl) trivial rfl rfl rfl (r_b2s tok h rfl rfl rfl rfl rfl (Row.rd (H.at (i := 1) rfl))) fun a h => ?_
        refine sq_p h 2 tok trivial rfl fun a h => ?_
        obtain ⟨c15, ej, ht⟩ := bindS ht
        refine sq_cut (fun a w => Fr 44 a [(4, .o (.b false)), (43, .o (.b c15))] ∧ HA w0 none1 none1 w [trow 5 vU8 v10 y7, trow 5 vU8 v14 y11]) 4 ?_ (fun a w hC hm => ?_)
        · clear ht
          rcases Bool.eq_false_or_eq_true (y7 == y11) with hc | hc
          · have ht := condT hc ej; clear ej
            rw [hc] at h
            refine sq_p h 4 tok trivial rfl fun a h => ?_
            refine sq_nil ⟨trivial, ?_⟩
            cases ht
            exact ⟨h.keep [4, 43], H.take 2⟩
          · have ht := condF hc ej; clear ej
            rw [hc] at h
            refine sq_p h 4 tok trivial rfl fun a h => ?_
            refine sq_nil ⟨trivial, ?_⟩
            cases ht
            exact ⟨h.keep [4, 43], H.take 2⟩
        · obtain ⟨h, H⟩ := hm
          refine sq_p h 1 tok trivial rfl fun a h => ?_
          refine sq_nil ?_
          refine c_ret ?_
          cases ht
          exact fin_one h Try.results6 rfl ⟨rfl, H.pick []⟩
end Go.Proofs.Ytoglnkhchifeiaa
