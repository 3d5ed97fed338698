/- kinkeep/chacha20.Stream: its twin, and that the call does what the twin says. Printed by a program. -/
import Derived.Test.YtoglnkhchifeiaaF15
import Derived.Test.YtoglnkhchifeiaaF23
namespace Go.Proofs.Ytoglnkhchifeiaa
open Go.Tw
set_option linter.unusedSimpArgs false
set_option linter.unusedVariables false
def L19_1 (F : Nat) (p0 : List UInt8) (p1 : List UInt8) (p2 : Int) (p3 : Int) (y8 : Int) (y9 : List UInt8) : Option ((Int × (List UInt8)) ⊕ (Int × (List UInt8))) :=
  (bif (decide (y8 < p3)) then (bind2 (T15 F p0 p1 (UInt32.ofInt (w64 (Int.tdiv (w64 (p2 + y8)) (64 : Int))))) fun y11 y12 => (Option.bind (gsl y9 y8 (y9.length : Int)) fun x15 => (Option.bind (gsl y11 (Int.tmod (w64 (p2 + y8)) (64 : Int)) (y11.length : Int)) fun x16 => (Option.bind (some (splice y9 (Int.toNat y8) x16 (Nat.min x16.length (Int.toNat (y9.length : Int) - Int.toNat y8)))) fun x17 => (some (.inl ((w64 (y8 + ((Nat.min x16.length (Int.toNat (y9.length : Int) - Int.toNat y8)) : Int))), x17))))))) else (some (.inr (y8, y9))))
def T19 (F : Nat) (p0 : List UInt8) (p1 : List UInt8) (p2 : Int) (p3 : Int) : Option ((List UInt8) × Int) :=
  (Option.bind (T23 F p0 p1) fun y1 => (Option.bind (bif (!y1) then some true else some (decide (p2 < (0 : Int)))) fun c3 => (Option.bind (bif c3 then some true else some (decide (p3 < (0 : Int)))) fun c4 => (bif c4 then some (([] : List UInt8), (1 : Int)) else (Option.bind (bif (decide ((1048576 : Int) < p3)) then some true else some (decide ((w64 ((274877906944 : Int) - p3)) < p2))) fun c5 => (bif c5 then some (([] : List UInt8), (2 : Int)) else (Option.bind (gmake (0 : UInt8) p3 p3) fun x7 => (bind2 (iter (fun s => L19_1 F p0 p1 p2 p3 s.1 s.2) F ((0 : Int), x7)) fun z18 z19 => some (z19, (0 : Int))))))))))

set_option maxRecDepth 100000 in
set_option maxHeartbeats 4000000 in
theorem ok19 (F : Nat) (p0 : List UInt8) (p1 : List UInt8) (p2 : Int) (p3 : Int) (w0 : World)  {r0 : List UInt8} {r1 : Int} (ht : T19 F p0 p1 p2 p3 = some (r0, r1)) : Calls Try.prog 19 #[(.o (.s p0) : SV).val, (.o (.s p1) : SV).val, (.o (.i p2) : SV).val, (.o (.i p3) : SV).val] w0 (Ret fun v w' => ∃ s0 : Value, v = .tuple #[s0, (S0.i r1).val] ∧ HA w0 none1 none1 w' [trow 5 vU8 s0 r0]) := by
  unfold T19 at ht
  refine enterW [.o (.s p0), .o (.s p1), .o (.i p2), .o (.i p3)] Try.func19 rfl Try.ntmps19 rfl rfl fun a w H h => ?_
  refine c_seq ?_
  refine c_plain ?_
  refine sq_p h 2 tok trivial rfl fun a h => ?_
  refine sq_nil ?_
  refine c_seq ?_
  refine c_seq ?_
  refine c_plain ?_
  refine sq_p h 2 tok trivial rfl fun a h => ?_
  obtain ⟨y1, e2, ht⟩ := bindS ht
  refine sq_call h rfl rfl Try.func23 rfl rfl rfl (ok23 F p0 p1 w  e2) ?_
  rintro _ w ⟨rfl, HN⟩
  have H := H.call HN; clear HN
  refine ⟨trivial, ?_⟩
  refine sq_fr (d := 17) (v := .o (.b y1)) h rfl rfl rfl fun a h => ?_
  refine sq_p h 2 tok trivial rfl fun a h => ?_
  obtain ⟨c3, ej, ht⟩ := bindS ht
  refine sq_cut (fun a w => Fr 63 a [(0, .o (.s p0)), (1, .o (.s p1)), (2, .o (.i p2)), (3, .o (.i p3)), (8, .o (.v (.slice none 0 0))), (9, .o (.i (0 : Int))), (22, .o (.b c3))] ∧ HA w0 none1 none1 w []) 3 ?_ (fun a w hC hm => ?_)
  · clear ht
    rcases Bool.eq_false_or_eq_true (!y1) with hc | hc
    · have ht := condT hc ej; clear ej
      rw [hc] at h
      refine sq_p h 3 tok trivial rfl fun a h => ?_
      refine sq_nil ⟨trivial, ?_⟩
      cases ht
      exact ⟨h.keep [0, 1, 2, 3, 8, 9, 22], H.take 0⟩
    · have ht := condF hc ej; clear ej
      rw [hc] at h
      refine sq_p h 3 tok trivial rfl fun a h => ?_
      refine sq_nil ⟨trivial, ?_⟩
      cases ht
      exact ⟨h.keep [0, 1, 2, 3, 8, 9, 22], H.take 0⟩
  · obtain ⟨h, H⟩ := hm
    refine sq_p h 1 tok trivial rfl fun a h => ?_
    obtain ⟨c4, ej, ht⟩ := bindS ht
    refine sq_cut (fun a w => Fr 63 a [(0, .o (.s p0)), (1, .o (.s p1)), (2, .o (.i p2)), (3, .o (.i p3)), (8, .o (.v (.slice none 0 0))), (9, .o (.i (0 : Int))), (26, .o (.b c4))] ∧ HA w0 none1 none1 w []) 3 ?_ (fun a w hC hm => ?_)
    · clear ht
      rcases Bool.eq_false_or_eq_true c3 with hc | hc
      · have ht := condT hc ej; clear ej
        rw [hc] at h
        refine sq_p h 3 tok trivial rfl fun a h => ?_
        refine sq_nil ⟨trivial, ?_⟩
        cases ht
        exact ⟨h.keep [0, 1, 2, 3, 8, 9, 26], H.take 0⟩
      · have ht := condF hc ej; clear ej
        rw [hc] at h
        refine sq_p h 3 tok trivial rfl fun a h => ?_
        refine sq_nil ⟨trivial, ?_⟩
        cases ht
        exact ⟨h.keep [0, 1, 2, 3, 8, 9, 26], H.take 0⟩
    · obtain ⟨h, H⟩ := hm
      refine sq_nil ?_
      refine c_cond h rfl rfl (fun hc => ?_) (fun hc => ?_)
      · have ht := condT hc ht
        refine c_seq ?_
        refine c_plain ?_
        refine sq_p h 2 tok trivial rfl fun a h => ?_
        refine sq_nil ?_
        refine c_ret ?_
        cases ht
        exact fin_two h Try.results19 rfl rfl ⟨.slice none 0 0, rfl, (H.nil 5 vU8).pick [0]⟩
      · have ht := condF hc ht
        refine c_skip ?_
        refine c_seq ?_
        refine c_seq ?_
        refine c_plain ?_
        refine sq_p h 3 tok trivial rfl fun a h => ?_
        obtain ⟨c5, ej, ht⟩ := bindS ht
        refine sq_cut (fun a w => Fr 63 a [(0, .o (.s p0)), (1, .o (.s p1)), (2, .o (.i p2)), (3, .o (.i p3)), (8, .o (.v (.slice none 0 0))), (9, .o (.i (0 : Int))), (34, .o (.b c5))] ∧ HA w0 none1 none1 w []) 5 ?_ (fun a w hC hm => ?_)
        · clear ht
          rcases Bool.eq_false_or_eq_true (decide ((1048576 : Int) < p3)) with hc | hc
          · have ht := condT hc ej; clear ej
            rw [hc] at h
            refine sq_p h 5 tok trivial rfl fun a h => ?_
            refine sq_nil ⟨trivial, ?_⟩
            cases ht
            exact ⟨h.keep [0, 1, 2, 3, 8, 9, 34], H.take 0⟩
          · have ht := condF hc ej; clear ej
            rw [hc] at h
            refine sq_p h 5 tok trivial rfl fun a h => ?_
            refine sq_nil ⟨trivial, ?_⟩
            cases ht
            exact ⟨h.keep [0, 1, 2, 3, 8, 9, 34], H.take 0⟩
        · obtain ⟨h, H⟩ := hm
          refine sq_nil ?_
          refine c_cond h rfl rfl (fun hc => ?_) (fun hc => ?_)
          · have ht := condT hc ht
            refine c_seq ?_
            refine c_plain ?_
            refine sq_p h 2 tok trivial rfl fun a h => ?_
            refine sq_nil ?_
            refine c_ret ?_
            cases ht
            exact fin_two h Try.results19 rfl rfl ⟨.slice none 0 0, rfl, (H.nil 5 vU8).pick [0]⟩
          · have ht := condF hc ht
            refine c_skip ?_
            refine c_seq ?_
            refine c_plain ?_
            refine sq_p h 1 tok trivial rfl fun a h => ?_
            obtain ⟨x7, e_x7, ht⟩ := bindS ht
            refine t_make (f := vU8) H h eok28 rfl rfl (by decide) rfl rfl rfl e_x7 rfl rfl rfl (fun _ _ _ => trivial) fun v6 w a H h => ?_
            refine sq_p h 1 tok trivial rfl fun a h => ?_
            refine sq_nil ?_
            refine c_seq ?_
            refine c_seq ?_
            refine c_plain ?_
            refine sq_p h 1 tok trivial rfl fun a h => ?_
            refine sq_nil ?_
            refine c_block ?_
            obtain ⟨z18, z19, el, ht⟩ := bindS2 ht
            refine c_loop (fun s => L19_1 F p0 p1 p2 p3 s.1 s.2) (fun s a w => ∃ v10 : Value, Fr 63 a [(0, .o (.s p0)), (1, .o (.s p1)), (2, .o (.i p2)), (3, .o (.i p3)), (8, .o (.v (.slice none 0 0))), (9, .o (.i (0 : Int))), (10, .o (.v v10)), (11, .o (.i s.1))] ∧ HA w0 none1 none1 w [trow 5 vU8 v10 s.2]) (fun s e a w => e = Exit.exit 0 ∧ ∃ v10 : Value, Fr 63 a [(0, .o (.s p0)), (1, .o (.s p1)), (2, .o (.i p2)), (3, .o (.i p3)), (8, .o (.v (.slice none 0 0))), (9, .o (.i (0 : Int))), (10, .o (.v v10)), (11, .o (.i s.1))] ∧ HA w0 none1 none1 w [trow 5 vU8 v10 s.2]) ?_ (x := (z18, z19)) ?_ ?_ F ((0 : Int), x7) a w ⟨v6, h.keep [0, 1, 2, 3, 8, 9, 10, 11], H.take 1⟩ el
            · rintro ⟨y8, y9⟩ a w ⟨v10, h, H⟩ r ht
              change L19_1 F p0 p1 p2 p3 y8 y9 = some r at ht
              unfold L19_1 at ht
              dsimp only at h H
              refine c_seq ?_
              refine c_seq ?_
              refine c_plain ?_
              refine sq_p h 3 tok trivial rfl fun a h => ?_
              refine sq_nil ?_
              refine c_cond h rfl rfl (fun hc => ?_) (fun hc => ?_)
              · have ht := condT hc ht
                refine c_skip ?_
                refine c_block ?_
                refine c_seq ?_
                refine c_plain ?_
                refine sq_p h 4 tok trivial rfl fun a h => ?_
                refine sq_nil ?_
                refine c_seq ?_
                refine c_plain ?_
                refine sq_p h 5 tok trivial rfl fun a h => ?_
                obtain ⟨y11, y12, e13, ht⟩ := bindS2 ht
                refine sq_call h rfl rfl Try.func15 rfl rfl rfl (ok15 F p0 p1 (UInt32.ofInt (w64 (Int.tdiv (w64 (p2 + y8)) (64 : Int)))) w  e13) ?_
                rintro _ w ⟨v14, rfl, HN⟩
                have H := H.call HN; clear HN
                refine ⟨trivial, ?_⟩
                refine sq_fr (d := 49) (v := .t [.v v14, .i y12]) h rfl rfl rfl fun a h => ?_
                refine sq_p h 5 tok trivial rfl fun a h => ?_
                refine sq_nil ?_
                refine c_draw [(.p, 0), (.p, 1), (.p, 2), (.p, 3), (.p, 4), (.p, 5), (.p, 6), (.p, 7), (.w, 8), (.p, 9), (.p, 10)] (fun _ => True) Try.mixed (by kernel_rfl) rfl trivial ?_
                have H := H.drew; generalize ({ w with drawn := w.drawn + 1 } : World) = w at H ⊢
                refine sq_p h 3 tok trivial rfl fun a h => ?_
                obtain ⟨x15, e_x15, ht⟩ := bindS ht
                refine sq_v (v := .o (.v (sl 1 v10 (Int.toNat y8) (Int.toNat (y9.length : Int))))) h trivial (j_slice (f := vU8) tok h e_x15 (Row.rd (H.at (i := 0) rfl)) rfl rfl rfl rfl rfl rfl) rfl rfl rfl fun a h => ?_
                refine sq_p h 3 tok trivial rfl fun a h => ?_
                obtain ⟨x16, e_x16, ht⟩ := bindS ht
                refine sq_v (v := .o (.v (sl 1 v14 (Int.toNat (Int.tmod (w64 (p2 + y8)) (64 : Int))) (Int.toNat (y11.length : Int))))) h trivial (j_slice (f := vU8) tok h e_x16 (Row.rd (H.at (i := 1) rfl)) rfl rfl rfl rfl rfl rfl) rfl rfl rfl fun a h => ?_
                obtain ⟨x17, e_x17, ht⟩ := bindS ht
                have hg := gsl_some e_x15
                refine t_copy (i := 0) (f := vU8) H h eok28 rfl rfl rfl rfl (by omega) (by omega) (TRd.sl (Row.rd (H.at (i := 1) rfl)) e_x16) (fun _ => rfl) rfl rfl rfl (fun _ _ => trivial) fun w a H h => ?_
                rw [Option.some.inj e_x17] at H
                refine sq_p h 2 tok trivial rfl fun a h => ?_
                refine sq_nil ?_
                cases ht
                exact ⟨_, rfl, v10, h.keep [0, 1, 2, 3, 8, 9, 10, 11], H.take 1⟩
              · have ht := condF hc ht
                refine c_exit ?_
                cases ht
                exact ⟨_, rfl, rfl, v10, h.keep [0, 1, 2, 3, 8, 9, 10, 11], H.take 1⟩
            · rintro j a w ⟨hj, v10, h, H⟩
              cases hj
              refine iteT ?_
              refine c_seq ?_
              refine c_plain ?_
              refine sq_p h 3 tok trivial rfl fun a h => ?_
              refine sq_nil ?_
              refine c_ret ?_
              cases ht
              exact fin_two h Try.results19 rfl rfl ⟨v10, rfl, H.pick [0]⟩
            · rintro a w ⟨hj, _⟩; cases hj
end Go.Proofs.Ytoglnkhchifeiaa
