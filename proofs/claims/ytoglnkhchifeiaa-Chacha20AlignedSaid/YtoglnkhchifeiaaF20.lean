/- kinkeep/kinkeepref07.Stream: its twin, and that the call does what the twin says. Printed by a program. -/
import Derived.Test.YtoglnkhchifeiaaF16
namespace Go.Proofs.Ytoglnkhchifeiaa
open Go.Tw
set_option linter.unusedSimpArgs false
set_option linter.unusedVariables false
def L20_1 (F : Nat) (p0 : List UInt8) (p1 : List UInt8) (p2 : Int) (p3 : Int) (y6 : Int) (y7 : List UInt8) : Option ((Int × (List UInt8)) ⊕ (Int × (List UInt8))) :=
  (bif (decide (y6 < (w64 (p2 + p3)))) then (bind2 (T16 F p0 p1 (UInt32.ofInt (w64 (Int.tdiv y6 (64 : Int))))) fun y9 y10 => (Option.bind (gsl y9 (Int.tmod y6 (64 : Int)) (y9.length : Int)) fun x13 => (bif (decide ((w64 ((w64 (p2 + p3)) - y6)) < (x13.length : Int))) then (Option.bind (gsl x13 (0 : Int) (w64 ((w64 (p2 + p3)) - y6))) fun x14 => (Option.bind (gapp y7 x14) fun x16 => (some (.inl ((w64 (y6 + (x14.length : Int))), x16))))) else (Option.bind (gapp y7 x13) fun x18 => (some (.inl ((w64 (y6 + (x13.length : Int))), x18))))))) else (some (.inr (y6, y7))))
def T20 (F : Nat) (p0 : List UInt8) (p1 : List UInt8) (p2 : Int) (p3 : Int) : Option ((List UInt8) × Int) :=
  (Option.bind (bif ((p0.length : Int) != (32 : Int)) then some true else some ((p1.length : Int) != (12 : Int))) fun c1 => (Option.bind (bif c1 then some true else some (decide (p2 < (0 : Int)))) fun c2 => (Option.bind (bif c2 then some true else some (decide (p3 < (0 : Int)))) fun c3 => (bif c3 then some (([] : List UInt8), (1 : Int)) else (Option.bind (bif (decide ((1048576 : Int) < p3)) then some true else some (decide ((w64 ((274877906944 : Int) - p3)) < p2))) fun c4 => (bif c4 then some (([] : List UInt8), (2 : Int)) else (bind2 (iter (fun s => L20_1 F p0 p1 p2 p3 s.1 s.2) F (p2, ([] : List UInt8))) fun z19 z20 => some (z20, (0 : Int)))))))))

set_option maxRecDepth 100000 in
set_option maxHeartbeats 4000000 in
theorem ok20 (F : Nat) (p0 : List UInt8) (p1 : List UInt8) (p2 : Int) (p3 : Int) (w0 : World)  {r0 : List UInt8} {r1 : Int} (ht : T20 F p0 p1 p2 p3 = some (r0, r1)) : Calls Try.prog 20 #[(.o (.s p0) : SV).val, (.o (.s p1) : SV).val, (.o (.i p2) : SV).val, (.o (.i p3) : SV).val] w0 (Ret fun v w' => ∃ s0 : Value, v = .tuple #[s0, (S0.i r1).val] ∧ HA w0 none1 none1 w' [trow 5 vU8 s0 r0]) := by
  unfold T20 at ht
  refine enterW [.o (.s p0), .o (.s p1), .o (.i p2), .o (.i p3)] Try.func20 rfl Try.ntmps20 rfl rfl fun a w H h => ?_
  refine c_seq ?_
  refine c_plain ?_
  refine sq_p h 2 tok trivial rfl fun a h => ?_
  refine sq_nil ?_
  refine c_seq ?_
  refine c_seq ?_
  refine c_plain ?_
  refine sq_p h 4 tok trivial rfl fun a h => ?_
  obtain ⟨c1, ej, ht⟩ := bindS ht
  refine sq_cut (fun a w => Fr 82 a [(0, .o (.s p0)), (1, .o (.s p1)), (2, .o (.i p2)), (3, .o (.i p3)), (8, .o (.v (.slice none 0 0))), (9, .o (.i (0 : Int))), (22, .o (.b c1))] ∧ HA w0 none1 none1 w []) 4 ?_ (fun a w hC hm => ?_)
  · clear ht
    rcases Bool.eq_false_or_eq_true ((p0.length : Int) != (32 : Int)) with hc | hc
    · have ht := condT hc ej; clear ej
      rw [hc] at h
      refine sq_p h 4 tok trivial rfl fun a h => ?_
      refine sq_nil ⟨trivial, ?_⟩
      cases ht
      exact ⟨h.keep [0, 1, 2, 3, 8, 9, 22], H.take 0⟩
    · have ht := condF hc ej; clear ej
      rw [hc] at h
      refine sq_p h 4 tok trivial rfl fun a h => ?_
      refine sq_nil ⟨trivial, ?_⟩
      cases ht
      exact ⟨h.keep [0, 1, 2, 3, 8, 9, 22], H.take 0⟩
  · obtain ⟨h, H⟩ := hm
    refine sq_p h 1 tok trivial rfl fun a h => ?_
    obtain ⟨c2, ej, ht⟩ := bindS ht
    refine sq_cut (fun a w => Fr 82 a [(0, .o (.s p0)), (1, .o (.s p1)), (2, .o (.i p2)), (3, .o (.i p3)), (8, .o (.v (.slice none 0 0))), (9, .o (.i (0 : Int))), (26, .o (.b c2))] ∧ HA w0 none1 none1 w []) 3 ?_ (fun a w hC hm => ?_)
    · clear ht
      rcases Bool.eq_false_or_eq_true c1 with hc | hc
      · have ht := condT hc ej; clear ej
        rw [hc] at h
        refine sq_p h 3 tok trivial rfl fun a h => ?_
        refine sq_nil ⟨trivial, ?_⟩
        cases ht
        exact ⟨h.keep [0, 1, 2, 3, 8, 9, 26], H.take 0⟩
      · have ht := condF hc ej; clear ej
        rw [hc] at h
        refine sq_p h 3 tok trivial rfl fun a h => ?_
        refine sq_nil ⟨trivial, ?_⟩
        cases ht
        exact ⟨h.keep [0, 1, 2, 3, 8, 9, 26], H.take 0⟩
    · obtain ⟨h, H⟩ := hm
      refine sq_p h 1 tok trivial rfl fun a h => ?_
      obtain ⟨c3, ej, ht⟩ := bindS ht
      refine sq_cut (fun a w => Fr 82 a [(0, .o (.s p0)), (1, .o (.s p1)), (2, .o (.i p2)), (3, .o (.i p3)), (8, .o (.v (.slice none 0 0))), (9, .o (.i (0 : Int))), (30, .o (.b c3))] ∧ HA w0 none1 none1 w []) 3 ?_ (fun a w hC hm => ?_)
      · clear ht
        rcases Bool.eq_false_or_eq_true c2 with hc | hc
        · have ht := condT hc ej; clear ej
          rw [hc] at h
          refine sq_p h 3 tok trivial rfl fun a h => ?_
          refine sq_nil ⟨trivial, ?_⟩
          cases ht
          exact ⟨h.keep [0, 1, 2, 3, 8, 9, 30], H.take 0⟩
        · have ht := condF hc ej; clear ej
          rw [hc] at h
          refine sq_p h 3 tok trivial rfl fun a h => ?_
          refine sq_nil ⟨trivial, ?_⟩
          cases ht
          exact ⟨h.keep [0, 1, 2, 3, 8, 9, 30], H.take 0⟩
      · obtain ⟨h, H⟩ := hm
        refine sq_nil ?_
        refine c_cond h rfl rfl (fun hc => ?_) (fun hc => ?_)
        · have ht := condT hc ht
          refine c_seq ?_
          refine c_plain ?_
          refine sq_p h 2 tok trivial rfl fun a h => ?_
          refine sq_nil ?_
          refine c_ret ?_
          cases ht
          exact fin_two h Try.results20 rfl rfl ⟨.slice none 0 0, rfl, (H.nil 5 vU8).pick [0]⟩
        · have ht := condF hc ht
          refine c_skip ?_
          refine c_seq ?_
          refine c_seq ?_
          refine c_plain ?_
          refine sq_p h 3 tok trivial rfl fun a h => ?_
          obtain ⟨c4, ej, ht⟩ := bindS ht
          refine sq_cut (fun a w => Fr 82 a [(0, .o (.s p0)), (1, .o (.s p1)), (2, .o (.i p2)), (3, .o (.i p3)), (8, .o (.v (.slice none 0 0))), (9, .o (.i (0 : Int))), (38, .o (.b c4))] ∧ HA w0 none1 none1 w []) 5 ?_ (fun a w hC hm => ?_)
          · clear ht
            rcases Bool.eq_false_or_eq_true (decide ((1048576 : Int) < p3)) with hc | hc
            · have ht := condT hc ej; clear ej
              rw [hc] at h
              refine sq_p h 5 tok trivial rfl fun a h => ?_
              refine sq_nil ⟨trivial, ?_⟩
              cases ht
              exact ⟨h.keep [0, 1, 2, 3, 8, 9, 38], H.take 0⟩
            · have ht := condF hc ej; clear ej
              rw [hc] at h
              refine sq_p h 5 tok trivial rfl fun a h => ?_
              refine sq_nil ⟨trivial, ?_⟩
              cases ht
              exact ⟨h.keep [0, 1, 2, 3, 8, 9, 38], H.take 0⟩
          · obtain ⟨h, H⟩ := hm
            refine sq_nil ?_
            refine c_cond h rfl rfl (fun hc => ?_) (fun hc => ?_)
            · have ht := condT hc ht
              refine c_seq ?_
              refine c_plain ?_
              refine sq_p h 2 tok trivial rfl fun a h => ?_
              refine sq_nil ?_
              refine c_ret ?_
              cases ht
              exact fin_two h Try.results20 rfl rfl ⟨.slice none 0 0, rfl, (H.nil 5 vU8).pick [0]⟩
            · have ht := condF hc ht
              refine c_skip ?_
              refine c_seq ?_
              refine c_plain ?_
              refine t_lit (f := vU8) H h ([] : List UInt8) eok28 rfl rfl rfl (by decide) (fun _ => rfl) rfl rfl rfl (fun _ _ _ => trivial) fun v5 w a H h => ?_
              refine sq_p h 1 tok trivial rfl fun a h => ?_
              refine sq_nil ?_
              refine c_seq ?_
              refine c_seq ?_
              refine c_plain ?_
              refine sq_p h 2 tok trivial rfl fun a h => ?_
              refine sq_nil ?_
              refine c_block ?_
              obtain ⟨z19, z20, el, ht⟩ := bindS2 ht
              refine c_loop (fun s => L20_1 F p0 p1 p2 p3 s.1 s.2) (fun s a w => ∃ v8 : Value, Fr 82 a [(0, .o (.s p0)), (1, .o (.s p1)), (2, .o (.i p2)), (3, .o (.i p3)), (8, .o (.v (.slice none 0 0))), (9, .o (.i (0 : Int))), (10, .o (.v v8)), (11, .o (.i s.1))] ∧ HA w0 none1 none1 w [trow 5 vU8 v8 s.2]) (fun s e a w => e = Exit.exit 0 ∧ ∃ v8 : Value, Fr 82 a [(0, .o (.s p0)), (1, .o (.s p1)), (2, .o (.i p2)), (3, .o (.i p3)), (8, .o (.v (.slice none 0 0))), (9, .o (.i (0 : Int))), (10, .o (.v v8)), (11, .o (.i s.1))] ∧ HA w0 none1 none1 w [trow 5 vU8 v8 s.2]) ?_ (x := (z19, z20)) ?_ ?_ F (p2, ([] : List UInt8)) a w ⟨v5, h.keep [0, 1, 2, 3, 8, 9, 10, 11], H.take 1⟩ el
              · rintro ⟨y6, y7⟩ a w ⟨v8, h, H⟩ r ht
                change L20_1 F p0 p1 p2 p3 y6 y7 = some r at ht
                unfold L20_1 at ht
                dsimp only at h H
                refine c_seq ?_
                refine c_seq ?_
                refine c_plain ?_
                refine sq_p h 5 tok trivial rfl fun a h => ?_
                refine sq_nil ?_
                refine c_cond h rfl rfl (fun hc => ?_) (fun hc => ?_)
                · have ht := condT hc ht
                  refine c_skip ?_
                  refine c_block ?_
                  refine c_seq ?_
                  refine c_plain ?_
                  refine sq_p h 5 tok trivial rfl fun a h => ?_
                  obtain ⟨y9, y10, e11, ht⟩ := bindS2 ht
                  refine sq_call h rfl rfl Try.func16 rfl rfl rfl (ok16 F p0 p1 (UInt32.ofInt (w64 (Int.tdiv y6 (64 : Int)))) w  e11) ?_
                  rintro _ w ⟨v12, rfl, HN⟩
                  have H := H.call HN; clear HN
                  refine ⟨trivial, ?_⟩
                  refine sq_fr (d := 52) (v := .t [.v v12, .i y10]) h rfl rfl rfl fun a h => ?_
                  refine sq_p h 5 tok trivial rfl fun a h => ?_
                  refine sq_nil ?_
                  refine c_seq ?_
                  refine c_plain ?_
                  refine sq_p h 3 tok trivial rfl fun a h => ?_
                  obtain ⟨x13, e_x13, ht⟩ := bindS ht
                  refine sq_v (v := .o (.v (sl 1 v12 (Int.toNat (Int.tmod y6 (64 : Int))) (Int.toNat (y9.length : Int))))) h trivial (j_slice (f := vU8) tok h e_x13 (Row.rd (H.at (i := 1) rfl)) rfl rfl rfl rfl rfl rfl) rfl rfl rfl fun a h => ?_
                  refine sq_p h 1 tok trivial rfl fun a h => ?_
                  refine sq_nil ?_
                  refine c_seq ?_
                  refine c_seq ?_
                  refine c_plain ?_
                  refine sq_p h 1 tok trivial rfl fun a h => ?_
                  refine sq_v (v := .o (.i (x13.length : Int))) h trivial (r_len tok h rfl rfl rfl rfl (TRd.sl (Row.rd (H.at (i := 1) rfl)) e_x13)) rfl rfl rfl fun a h => ?_
                  refine sq_p h 6 tok trivial rfl fun a h => ?_
                  refine sq_nil ?_
                  refine c_cond h rfl rfl (fun hc => ?_) (fun hc => ?_)
                  · have ht := condT hc ht
                    refine c_plain ?_
                    refine sq_p h 6 tok trivial rfl fun a h => ?_
                    obtain ⟨x14, e_x14, ht⟩ := bindS ht
                    refine sq_v (v := .o (.v (sl 1 (sl 1 v12 (Int.toNat (Int.tmod y6 (64 : Int))) (Int.toNat (y9.length : Int))) (Int.toNat (0 : Int)) (Int.toNat (w64 ((w64 (p2 + p3)) - y6)))))) h trivial (j_slice (f := vU8) tok h e_x14 (TRd.sl (Row.rd (H.at (i := 1) rfl)) e_x13) rfl rfl rfl rfl rfl rfl) rfl rfl rfl fun a h => ?_
                    refine sq_p h 1 tok trivial rfl fun a h => ?_
                    refine sq_nil ?_
                    refine c_seq ?_
                    refine c_plain ?_
                    refine sq_p h 2 tok trivial rfl fun a h => ?_
                    obtain ⟨x16, e_x16, ht⟩ := bindS ht
                    refine t_append (i := 0) (f := vU8) H h eok28 (by decide) Try.underlying28 rfl rfl rfl rfl (TRd.sl (TRd.sl (Row.rd (H.at (i := 1) rfl)) e_x13) e_x14) (fun _ => rfl) e_x16 rfl rfl rfl (fun _ _ _ => trivial) fun v15 w a H h => ?_
                    refine sq_p h 1 tok trivial rfl fun a h => ?_
                    refine sq_nil ?_
                    refine c_plain ?_
                    refine sq_p h 2 tok trivial rfl fun a h => ?_
                    refine sq_v (v := .o (.i (x14.length : Int))) h trivial (r_len tok h rfl rfl rfl rfl (TRd.sl (TRd.sl (Row.rd (H.at (i := 1) rfl)) e_x13) e_x14)) rfl rfl rfl fun a h => ?_
                    refine sq_p h 2 tok trivial rfl fun a h => ?_
                    refine sq_nil ?_
                    cases ht
                    exact ⟨_, rfl, v15, h.keep [0, 1, 2, 3, 8, 9, 10, 11], H.take 1⟩
                  · have ht := condF hc ht
                    refine c_skip ?_
                    refine c_seq ?_
                    refine c_plain ?_
                    refine sq_p h 2 tok trivial rfl fun a h => ?_
                    obtain ⟨x18, e_x18, ht⟩ := bindS ht
                    refine t_append (i := 0) (f := vU8) H h eok28 (by decide) Try.underlying28 rfl rfl rfl rfl (TRd.sl (Row.rd (H.at (i := 1) rfl)) e_x13) (fun _ => rfl) e_x18 rfl rfl rfl (fun _ _ _ => trivial) fun v17 w a H h => ?_
                    refine sq_p h 1 tok trivial rfl fun a h => ?_
                    refine sq_nil ?_
                    refine c_plain ?_
                    refine sq_p h 2 tok trivial rfl fun a h => ?_
                    refine sq_v (v := .o (.i (x13.length : Int))) h trivial (r_len tok h rfl rfl rfl rfl (TRd.sl (Row.rd (H.at (i := 1) rfl)) e_x13)) rfl rfl rfl fun a h => ?_
                    refine sq_p h 2 tok trivial rfl fun a h => ?_
                    refine sq_nil ?_
                    cases ht
                    exact ⟨_, rfl, v17, h.keep [0, 1, 2, 3, 8, 9, 10, 11], H.take 1⟩
                · have ht := condF hc ht
                  refine c_exit ?_
                  cases ht
                  exact ⟨_, rfl, rfl, v8, h.keep [0, 1, 2, 3, 8, 9, 10, 11], H.take 1⟩
              · rintro j a w ⟨hj, v8, h, H⟩
                cases hj
                refine iteT ?_
                refine c_seq ?_
                refine c_plain ?_
                refine sq_p h 3 tok trivial rfl fun a h => ?_
                refine sq_nil ?_
                refine c_ret ?_
                cases ht
                exact fin_two h Try.results20 rfl rfl ⟨v8, rfl, H.pick [0]⟩
              · rintro a w ⟨hj, _⟩; cases hj
end Go.Proofs.Ytoglnkhchifeiaa
