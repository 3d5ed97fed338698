/- kinkeep/kinkeeplaw07.awake: its twin, and that the call does what the twin says. Printed by a program. -/
import Derived.Test.YtoglnkhchifeiaaF11
import Derived.Test.YtoglnkhchifeiaaF15
namespace Go.Proofs.Ytoglnkhchifeiaa
open Go.Tw
set_option linter.unusedSimpArgs false
set_option linter.unusedVariables false
def L13_1 (F : Nat)  (y7 : UInt8) (y8 : List UInt8) : Option ((UInt8 × (List UInt8)) ⊕ (UInt8 × (List UInt8))) :=
  (bif (decide (y7 < (UInt8.ofNat 32))) then (Option.bind (gapp y8 ([y7] : List UInt8)) fun x12 => (some (.inl ((y7 + (UInt8.ofNat 1)), x12)))) else (some (.inr (y7, y8))))
def T13 (F : Nat)  : Option (Bool) :=
  (bind4 (T11 F (UInt32.ofNat 286331153) (UInt32.ofNat 16909060) (UInt32.ofNat 2609737539) (UInt32.ofNat 19088743)) fun y1 y2 y3 y4 => (bind2 (iter (fun s => L13_1 F s.1 s.2) F ((UInt8.ofNat 0), ([] : List UInt8))) fun z13 z14 => (bind2 (T15 F z14 ([0, 0, 0, 9, 0, 0, 0, 74, 0, 0, 0, 0] : List UInt8) (UInt32.ofNat 1)) fun y15 y16 => (Option.bind (bif (y1 == (UInt32.ofNat 3928658676)) then some (y2 == (UInt32.ofNat 3407673550)) else some false) fun c19 => (Option.bind (bif c19 then some (y3 == (UInt32.ofNat 1166100270)) else some false) fun c20 => (Option.bind (bif c20 then some (y4 == (UInt32.ofNat 1484899515)) else some false) fun c21 => (Option.bind (bif c21 then some (y16 == (0 : Int)) else some false) fun c22 => (Option.bind (bif c22 then some ((y15.length : Int) == (64 : Int)) else some false) fun c23 => (Option.bind (bif c23 then (Option.bind (gsl y15 (0 : Int) (8 : Int)) fun x25 => some (x25 == ([16, 241, 231, 228, 209, 59, 89, 21] : List UInt8))) else some false) fun c24 => some c24)))))))))

set_option maxRecDepth 100000 in
set_option maxHeartbeats 4000000 in
theorem ok13 (F : Nat)  (w0 : World)  {r0 : Bool} (ht : T13 F  = some r0) : Calls Try.prog 13 #[] w0 (Ret fun v w' => v = (S0.b r0).val ∧ HA w0 none1 none1 w' []) := by
  unfold T13 at ht
  refine enterW [] Try.func13 rfl Try.ntmps13 rfl rfl fun a w H h => ?_
  refine c_seq ?_
  refine c_plain ?_
  refine sq_p h 1 tok trivial rfl fun a h => ?_
  refine sq_nil ?_
  refine c_seq ?_
  refine c_plain ?_
  obtain ⟨y1, y2, y3, y4, e5, ht⟩ := bindS4 ht
  refine sq_call h rfl rfl Try.func11 rfl rfl rfl (ok11 F (UInt32.ofNat 286331153) (UInt32.ofNat 16909060) (UInt32.ofNat 2609737539) (UInt32.ofNat 19088743) w  e5) ?_
  rintro _ w ⟨rfl, HN⟩
  have H := H.call HN; clear HN
  refine ⟨trivial, ?_⟩
  refine sq_fr (d := 10) (v := .t [.u32 y1, .u32 y2, .u32 y3, .u32 y4]) h rfl rfl rfl fun a h => ?_
  refine sq_p h 9 tok trivial rfl fun a h => ?_
  refine sq_nil ?_
  refine c_seq ?_
  refine c_plain ?_
  refine t_lit (f := vU8) H h ([] : List UInt8) eok28 rfl rfl rfl (by decide) (fun _ => rfl) rfl rfl rfl (fun _ _ _ => trivial) fun v6 w a H h => ?_
  refine sq_p h 1 tok trivial rfl fun a h => ?_
  refine sq_nil ?_
  refine c_seq ?_
  refine c_seq ?_
  refine c_plain ?_
  refine sq_p h 1 tok trivial rfl fun a h => ?_
  refine sq_nil ?_
  refine c_block ?_
  obtain ⟨z13, z14, el, ht⟩ := bindS2 ht
  refine c_loop (fun s => L13_1 F s.1 s.2) (fun s a w => ∃ v9 : Value, Fr 59 a [(0, .o (.b false)), (1, .o (.u32 y1)), (2, .o (.u32 y2)), (3, .o (.u32 y3)), (4, .o (.u32 y4)), (5, .o (.v v9)), (6, .o (.u8 s.1))] ∧ HA w0 none1 none1 w [trow 5 vU8 v9 s.2]) (fun s e a w => e = Exit.exit 0 ∧ ∃ v9 : Value, Fr 59 a [(0, .o (.b false)), (1, .o (.u32 y1)), (2, .o (.u32 y2)), (3, .o (.u32 y3)), (4, .o (.u32 y4)), (5, .o (.v v9)), (6, .o (.u8 s.1))] ∧ HA w0 none1 none1 w [trow 5 vU8 v9 s.2]) ?_ (x := (z13, z14)) ?_ ?_ F ((UInt8.ofNat 0), ([] : List UInt8)) a w ⟨v6, h.keep [0, 1, 2, 3, 4, 5, 6], H.take 1⟩ el
  · rintro ⟨y7, y8⟩ a w ⟨v9, h, H⟩ r ht
    change L13_1 F y7 y8 = some r at ht
    unfold L13_1 at ht
    dsimp only at h H
    refine c_seq ?_
    refine c_seq ?_
    refine c_plain ?_
    refine sq_p h 2 tok trivial rfl fun a h => ?_
    refine sq_nil ?_
    refine c_cond h rfl rfl (fun hc => ?_) (fun hc => ?_)
    · have ht := condT hc ht
      refine c_skip ?_
      refine c_seq ?_
      refine c_block ?_
      refine c_plain ?_
      refine sq_p h 2 tok trivial rfl fun a h => ?_
      refine t_lit (f := vU8) H h ([y7] : List UInt8) eok28 rfl rfl rfl (by decide) (fun _ => rfl) rfl rfl rfl (fun _ _ _ => trivial) fun v10 w a H h => ?_
      obtain ⟨x12, e_x12, ht⟩ := bindS ht
      refine t_append (i := 0) (f := vU8) H h eok28 (by decide) Try.underlying28 rfl rfl rfl rfl (Row.rd (H.at (i := 1) rfl)) (fun _ => rfl) e_x12 rfl rfl rfl (fun _ _ _ => trivial) fun v11 w a H h => ?_
      refine sq_p h 1 tok trivial rfl fun a h => ?_
      refine sq_nil ?_
      refine c_plain ?_
      refine sq_p h 3 tok trivial rfl fun a h => ?_
      refine sq_nil ?_
      cases ht
      exact ⟨_, rfl, v11, h.keep [0, 1, 2, 3, 4, 5, 6], H.take 1⟩
    · have ht := condF hc ht
      refine c_exit ?_
      cases ht
      exact ⟨_, rfl, rfl, v9, h.keep [0, 1, 2, 3, 4, 5, 6], H.take 1⟩
  · rintro j a w ⟨hj, v9, h, H⟩
    cases hj
    refine iteT ?_
    refine c_seq ?_
    refine c_plain ?_
    refine sq_p h 1 tok trivial rfl fun a h => ?_
    refine sq_r (v := .o (.s z14)) h (.inr rfl) trivial rfl rfl rfl (r_b2s tok h rfl rfl rfl rfl rfl (Row.rd (H.at (i := 0) rfl))) fun a h => ?_
    obtain ⟨y15, y16, e17, ht⟩ := bindS2 ht
    refine sq_call h rfl rfl Try.func15 rfl rfl rfl (ok15 F z14 ([0, 0, 0, 9, 0, 0, 0, 74, 0, 0, 0, 0] : List UInt8) (UInt32.ofNat 1) w  e17) ?_
    rintro _ w ⟨v18, rfl, HN⟩
    have H := H.call HN; clear HN
    refine ⟨trivial, ?_⟩
    refine sq_fr (d := 27) (v := .t [.v v18, .i y16]) h rfl rfl rfl fun a h => ?_
    refine sq_p h 5 tok trivial rfl fun a h => ?_
    refine sq_nil ?_
    refine c_seq ?_
    refine c_plain ?_
    refine sq_p h 3 tok trivial rfl fun a h => ?_
    obtain ⟨c19, ej, ht⟩ := bindS ht
    refine sq_cut (fun a w => Fr 59 a [(0, .o (.b false)), (3, .o (.u32 y3)), (4, .o (.u32 y4)), (7, .o (.v v18)), (8, .o (.i y16)), (35, .o (.b c19))] ∧ HA w0 none1 none1 w [trow 5 vU8 v9 z14, trow 5 vU8 v18 y15]) 3 ?_ (fun a w hC hm => ?_)
    · clear ht
      rcases Bool.eq_false_or_eq_true (y1 == (UInt32.ofNat 3928658676)) with hc | hc
      · have ht := condT hc ej; clear ej
        rw [hc] at h
        refine sq_p h 3 tok trivial rfl fun a h => ?_
        refine sq_nil ⟨trivial, ?_⟩
        cases ht
        exact ⟨h.keep [0, 3, 4, 7, 8, 35], H.take 2⟩
      · have ht := condF hc ej; clear ej
        rw [hc] at h
        refine sq_p h 3 tok trivial rfl fun a h => ?_
        refine sq_nil ⟨trivial, ?_⟩
        cases ht
        exact ⟨h.keep [0, 3, 4, 7, 8, 35], H.take 2⟩
    · obtain ⟨h, H⟩ := hm
      refine sq_p h 1 tok trivial rfl fun a h => ?_
      obtain ⟨c20, ej, ht⟩ := bindS ht
      refine sq_cut (fun a w => Fr 59 a [(0, .o (.b false)), (4, .o (.u32 y4)), (7, .o (.v v18)), (8, .o (.i y16)), (39, .o (.b c20))] ∧ HA w0 none1 none1 w [trow 5 vU8 v9 z14, trow 5 vU8 v18 y15]) 3 ?_ (fun a w hC hm => ?_)
      · clear ht
        rcases Bool.eq_false_or_eq_true c19 with hc | hc
        · have ht := condT hc ej; clear ej
          rw [hc] at h
          refine sq_p h 3 tok trivial rfl fun a h => ?_
          refine sq_nil ⟨trivial, ?_⟩
          cases ht
          exact ⟨h.keep [0, 4, 7, 8, 39], H.take 2⟩
        · have ht := condF hc ej; clear ej
          rw [hc] at h
          refine sq_p h 3 tok trivial rfl fun a h => ?_
          refine sq_nil ⟨trivial, ?_⟩
          cases ht
          exact ⟨h.keep [0, 4, 7, 8, 39], H.take 2⟩
      · obtain ⟨h, H⟩ := hm
        refine sq_p h 1 tok trivial rfl fun a h => ?_
        obtain ⟨c21, ej, ht⟩ := bindS ht
        refine sq_cut (fun a w => Fr 59 a [(0, .o (.b false)), (7, .o (.v v18)), (8, .o (.i y16)), (43, .o (.b c21))] ∧ HA w0 none1 none1 w [trow 5 vU8 v9 z14, trow 5 vU8 v18 y15]) 3 ?_ (fun a w hC hm => ?_)
        · clear ht
          rcases Bool.eq_false_or_eq_true c20 with hc | hc
          · have ht := condT hc ej; clear ej
            rw [hc] at h
            refine sq_p h 3 tok trivial rfl fun a h => ?_
            refine sq_nil ⟨trivial, ?_⟩
            cases ht
            exact ⟨h.keep [0, 7, 8, 43], H.take 2⟩
          · have ht := condF hc ej; clear ej
            rw [hc] at h
            refine sq_p h 3 tok trivial rfl fun a h => ?_
            refine sq_nil ⟨trivial, ?_⟩
            cases ht
            exact ⟨h.keep [0, 7, 8, 43], H.take 2⟩
        · obtain ⟨h, H⟩ := hm
          refine sq_p h 1 tok trivial rfl fun a h => ?_
          obtain ⟨c22, ej, ht⟩ := bindS ht
          refine sq_cut (fun a w => Fr 59 a [(0, .o (.b false)), (7, .o (.v v18)), (47, .o (.b c22))] ∧ HA w0 none1 none1 w [trow 5 vU8 v9 z14, trow 5 vU8 v18 y15]) 3 ?_ (fun a w hC hm => ?_)
          · clear ht
            rcases Bool.eq_false_or_eq_true c21 with hc | hc
            · have ht := condT hc ej; clear ej
              rw [hc] at h
              refine sq_p h 3 tok trivial rfl fun a h => ?_
              refine sq_nil ⟨trivial, ?_⟩
              cases ht
              exact ⟨h.keep [0, 7, 47], H.take 2⟩
            · have ht := condF hc ej; clear ej
              rw [hc] at h
              refine sq_p h 3 tok trivial rfl fun a h => ?_
              refine sq_nil ⟨trivial, ?_⟩
              cases ht
              exact ⟨h.keep [0, 7, 47], H.take 2⟩
          · obtain ⟨h, H⟩ := hm
            refine sq_p h 1 tok trivial rfl fun a h => ?_
            obtain ⟨c23, ej, ht⟩ := bindS ht
            refine sq_cut (fun a w => Fr 59 a [(0, .o (.b false)), (7, .o (.v v18)), (52, .o (.b c23))] ∧ HA w0 none1 none1 w [trow 5 vU8 v9 z14, trow 5 vU8 v18 y15]) 4 ?_ (fun a w hC hm => ?_)
            · clear ht
              rcases Bool.eq_false_or_eq_true c22 with hc | hc
              · have ht := condT hc ej; clear ej
                rw [hc] at h
                refine sq_p h 1 tok trivial rfl fun a h => ?_
                refine sq_v (v := .o (.i (y15.length : Int))) h trivial (r_len tok h rfl rfl rfl rfl (Row.rd (H.at (i := 1) rfl))) rfl rfl rfl fun a h => ?_
                refine sq_p h 2 tok trivial rfl fun a h => ?_
                refine sq_nil ⟨trivial, ?_⟩
                cases ht
                exact ⟨h.keep [0, 7, 52], H.take 2⟩
              · have ht := condF hc ej; clear ej
                rw [hc] at h
                refine sq_p h 4 tok trivial rfl fun a h => ?_
                refine sq_nil ⟨trivial, ?_⟩
                cases ht
                exact ⟨h.keep [0, 7, 52], H.take 2⟩
            · obtain ⟨h, H⟩ := hm
              refine sq_p h 1 tok trivial rfl fun a h => ?_
              obtain ⟨c24, ej, ht⟩ := bindS ht
              refine sq_cut (fun a w => Fr 59 a [(0, .o (.b false)), (58, .o (.b c24))] ∧ HA w0 none1 none1 w [trow 5 vU8 v9 z14, trow 5 vU8 v18 y15]) 5 ?_ (fun a w hC hm => ?_)
              · clear ht
                rcases Bool.eq_false_or_eq_true c23 with hc | hc
                · have ht := condT hc ej; clear ej
                  rw [hc] at h
                  refine sq_p h 1 tok trivial rfl fun a h => ?_
                  obtain ⟨x25, e_x25, ht⟩ := bindS ht
                  refine sq_v (v := .o (.v (sl 1 v18 (Int.toNat (0 : Int)) (Int.toNat (8 : Int))))) h trivial (j_slice (f := vU8) tok h e_x25 (Row.rd (H.at (i := 1) rfl)) rfl rfl rfl rfl rfl rfl) rfl rfl rfl fun a h => ?_
                  refine sq_r (v := .o (.s x25)) h (.inr rfl) trivial rfl rfl rfl (r_b2s tok h rfl rfl rfl rfl rfl (TRd.sl (Row.rd (H.at (i := 1) rfl)) e_x25)) fun a h => ?_
                  refine sq_p h 2 tok trivial rfl fun a h => ?_
                  refine sq_nil ⟨trivial, ?_⟩
                  cases ht
                  exact ⟨h.keep [0, 58], H.take 2⟩
                · have ht := condF hc ej; clear ej
                  rw [hc] at h
                  refine sq_p h 5 tok trivial rfl fun a h => ?_
                  refine sq_nil ⟨trivial, ?_⟩
                  cases ht
                  exact ⟨h.keep [0, 58], H.take 2⟩
              · obtain ⟨h, H⟩ := hm
                refine sq_p h 1 tok trivial rfl fun a h => ?_
                refine sq_nil ?_
                refine c_ret ?_
                cases ht
                exact fin_one h Try.results13 rfl ⟨rfl, H.pick []⟩
  · rintro a w ⟨hj, _⟩; cases hj
end Go.Proofs.Ytoglnkhchifeiaa
