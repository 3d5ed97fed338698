/- kinkeep/chacha20.Xor: its twin, and that the call does what the twin says. Printed by a program. -/
import Derived.Test.YtoglnkhchifeiaaBase
namespace Go.Proofs.Ytoglnkhchifeiaa
open Go.Tw
set_option linter.unusedSimpArgs false
set_option linter.unusedVariables false
def L17_1 (F : Nat) (p0 : List UInt8) (p1 : List UInt8) (y3 : Int) (y4 : List UInt8) : Option ((Int × (List UInt8)) ⊕ (Int × (List UInt8))) :=
  (bif (decide (y3 < (p0.length : Int))) then (Option.bind (inb p0.length y3) fun j6 => (Option.bind (p0[j6]?) fun x7 => (Option.bind (inb p1.length y3) fun j8 => (Option.bind (p1[j8]?) fun x9 => (Option.bind (inb y4.length y3) fun j10 => (Option.bind (some (List.set y4 j10 (x7 ^^^ x9))) fun x11 => (some (.inl ((w64 (y3 + (1 : Int))), x11))))))))) else (some (.inr (y3, y4))))
def T17 (F : Nat) (p0 : List UInt8) (p1 : List UInt8) : Option ((List UInt8) × Int) :=
  (bif ((p0.length : Int) != (p1.length : Int)) then some (([] : List UInt8), (1 : Int)) else (Option.bind (gmake (0 : UInt8) (p0.length : Int) (p0.length : Int)) fun x2 => (bind2 (iter (fun s => L17_1 F p0 p1 s.1 s.2) F ((0 : Int), x2)) fun z12 z13 => some (z13, (0 : Int)))))

set_option maxRecDepth 100000 in
set_option maxHeartbeats 4000000 in
theorem ok17 (F : Nat) (p0 : List UInt8) (p1 : List UInt8) (w0 : World) (v_p0 : Value) (h_p0 : TRd w0 vU8 v_p0 p0) (v_p1 : Value) (h_p1 : TRd w0 vU8 v_p1 p1) {r0 : List UInt8} {r1 : Int} (ht : T17 F p0 p1 = some (r0, r1)) : Calls Try.prog 17 #[(.o (.v v_p0) : SV).val, (.o (.v v_p1) : SV).val] w0 (Ret fun v w' => ∃ s0 : Value, v = .tuple #[s0, (S0.i r1).val] ∧ HA w0 none1 none1 w' [trow 5 vU8 s0 r0]) := by
  unfold T17 at ht
  refine enterW [.o (.v v_p0), .o (.v v_p1)] Try.func17 rfl Try.ntmps17 rfl rfl fun a w H h => ?_
  refine c_seq ?_
  refine c_plain ?_
  refine sq_p h 2 tok trivial rfl fun a h => ?_
  refine sq_nil ?_
  refine c_seq ?_
  refine c_seq ?_
  refine c_plain ?_
  refine sq_p h 1 tok trivial rfl fun a h => ?_
  refine sq_v (v := .o (.i (p0.length : Int))) h trivial (r_len tok h rfl rfl rfl rfl (H.old h_p0 (fun _ _ e => e))) rfl rfl rfl fun a h => ?_
  refine sq_p h 1 tok trivial rfl fun a h => ?_
  refine sq_v (v := .o (.i (p1.length : Int))) h trivial (r_len tok h rfl rfl rfl rfl (H.old h_p1 (fun _ _ e => e))) rfl rfl rfl fun a h => ?_
  refine sq_p h 1 tok trivial rfl fun a h => ?_
  refine sq_nil ?_
  refine c_cond h rfl rfl (fun hc => ?_) (fun hc => ?_)
  · have ht := condT hc ht
    refine c_seq ?_
    refine c_plain ?_
    refine sq_p h 2 tok trivial rfl fun a h => ?_
    refine sq_nil ?_
    refine c_ret ?_
    cases ht
    exact fin_two h Try.results17 rfl rfl ⟨.slice none 0 0, rfl, (H.nil 5 vU8).pick [0]⟩
  · have ht := condF hc ht
    refine c_skip ?_
    refine c_seq ?_
    refine c_plain ?_
    refine sq_p h 1 tok trivial rfl fun a h => ?_
    refine sq_v (v := .o (.i (p0.length : Int))) h trivial (r_len tok h rfl rfl rfl rfl (H.old h_p0 (fun _ _ e => e))) rfl rfl rfl fun a h => ?_
    obtain ⟨x2, e_x2, ht⟩ := bindS ht
    refine t_make (f := vU8) H h eok28 rfl rfl (by decide) rfl rfl rfl e_x2 rfl rfl rfl (fun _ _ _ => trivial) fun v1 w a H h => ?_
    refine sq_p h 1 tok trivial rfl fun a h => ?_
    refine sq_nil ?_
    refine c_seq ?_
    refine c_seq ?_
    refine c_plain ?_
    refine sq_p h 1 tok trivial rfl fun a h => ?_
    refine sq_v (v := .o (.i (p0.length : Int))) h trivial (r_len tok h rfl rfl rfl rfl (H.old h_p0 (fun _ _ e => e))) rfl rfl rfl fun a h => ?_
    refine sq_p h 1 tok trivial rfl fun a h => ?_
    refine sq_nil ?_
    refine c_block ?_
    obtain ⟨z12, z13, el, ht⟩ := bindS2 ht
    refine c_loop (fun s => L17_1 F p0 p1 s.1 s.2) (fun s a w => ∃ v5 : Value, Fr 35 a [(0, .o (.v v_p0)), (1, .o (.v v_p1)), (4, .o (.v (.slice none 0 0))), (5, .o (.i (0 : Int))), (6, .o (.v v5)), (17, .o (.i (p0.length : Int))), (18, .o (.i s.1))] ∧ HA w0 none1 none1 w [trow 5 vU8 v5 s.2]) (fun s e a w => e = Exit.exit 0 ∧ ∃ v5 : Value, Fr 35 a [(0, .o (.v v_p0)), (1, .o (.v v_p1)), (4, .o (.v (.slice none 0 0))), (5, .o (.i (0 : Int))), (6, .o (.v v5)), (17, .o (.i (p0.length : Int))), (18, .o (.i s.1))] ∧ HA w0 none1 none1 w [trow 5 vU8 v5 s.2]) ?_ (x := (z12, z13)) ?_ ?_ F ((0 : Int), x2) a w ⟨v1, h.keep [0, 1, 4, 5, 6, 17, 18], H.take 1⟩ el
    · rintro ⟨y3, y4⟩ a w ⟨v5, h, H⟩ r ht
      change L17_1 F p0 p1 y3 y4 = some r at ht
      unfold L17_1 at ht
      dsimp only at h H
      refine c_seq ?_
      refine c_plain ?_
      refine sq_p h 1 tok trivial rfl fun a h => ?_
      refine sq_nil ?_
      refine c_seq ?_
      refine c_cond h rfl rfl (fun hc => ?_) (fun hc => ?_)
      · have ht := condT hc ht
        refine c_skip ?_
        refine c_seq ?_
        refine c_block ?_
        refine c_seq ?_
        refine c_plain ?_
        refine sq_p h 2 tok trivial rfl fun a h => ?_
        refine sq_nil ?_
        refine c_draw [(.p, 0), (.p, 1), (.p, 2), (.p, 3), (.p, 4), (.r, 5), (.p, 6), (.p, 7), (.p, 8), (.r, 9), (.p, 10), (.p, 11), (.w, 12)] (fun _ => True) Try.mixed (by kernel_rfl) rfl trivial ?_
        have H := H.drew; generalize ({ w with drawn := w.drawn + 1 } : World) = w at H ⊢
        refine sq_p h 4 tok trivial rfl fun a h => ?_
        obtain ⟨j6, e_j6, ht⟩ := bindS ht
        refine sq_v (v := .o (.v (eaddr 1 v_p0 j6))) h trivial (j_idxSl tok h e_j6 (H.old h_p0 (fun _ _ e => e)) rfl rfl rfl rfl rfl) rfl rfl rfl fun a h => ?_
        obtain ⟨x7, e_x7, ht⟩ := bindS ht
        refine sq_r (v := .o (.u8 x7)) h (.inl rfl) trivial rfl rfl rfl (eaddr_loadE (f := vU8) tok h e_x7 (H.old h_p0 (fun _ _ e => e)) rfl rfl rfl rfl) fun a h => ?_
        refine sq_p h 2 tok trivial rfl fun a h => ?_
        obtain ⟨j8, e_j8, ht⟩ := bindS ht
        refine sq_v (v := .o (.v (eaddr 1 v_p1 j8))) h trivial (j_idxSl tok h e_j8 (H.old h_p1 (fun _ _ e => e)) rfl rfl rfl rfl rfl) rfl rfl rfl fun a h => ?_
        obtain ⟨x9, e_x9, ht⟩ := bindS ht
        refine sq_r (v := .o (.u8 x9)) h (.inl rfl) trivial rfl rfl rfl (eaddr_loadE (f := vU8) tok h e_x9 (H.old h_p1 (fun _ _ e => e)) rfl rfl rfl rfl) fun a h => ?_
        refine sq_p h 1 tok trivial rfl fun a h => ?_
        obtain ⟨j10, e_j10, ht⟩ := bindS ht
        refine sq_v (v := .o (.v (eaddr 1 v5 j10))) h trivial (j_idxSl tok h e_j10 (Row.rd (H.at (i := 0) rfl)) rfl rfl rfl rfl rfl) rfl rfl rfl fun a h => ?_
        obtain ⟨x11, e_x11, ht⟩ := bindS ht
        refine t_storeE (i := 0) (f := vU8) (u0 := (x7 ^^^ x9)) H h tok rfl rfl rfl rfl rfl rfl rfl (inb_some e_j10).2.2.2 rfl rfl (fun _ _ => trivial) fun w a H h => ?_
        rw [Option.some.inj e_x11] at H
        refine sq_nil ?_
        refine c_plain ?_
        refine sq_p h 2 tok trivial rfl fun a h => ?_
        refine sq_nil ?_
        cases ht
        exact ⟨_, rfl, v5, h.keep [0, 1, 4, 5, 6, 17, 18], H.take 1⟩
      · have ht := condF hc ht
        refine c_exit ?_
        cases ht
        exact ⟨_, rfl, rfl, v5, h.keep [0, 1, 4, 5, 6, 17, 18], H.take 1⟩
    · rintro j a w ⟨hj, v5, h, H⟩
      cases hj
      refine iteT ?_
      refine c_seq ?_
      refine c_plain ?_
      refine sq_p h 3 tok trivial rfl fun a h => ?_
      refine sq_nil ?_
      refine c_ret ?_
      cases ht
      exact fin_two h Try.results17 rfl rfl ⟨v5, rfl, H.pick [0]⟩
    · rintro a w ⟨hj, _⟩; cases hj
end Go.Proofs.Ytoglnkhchifeiaa
