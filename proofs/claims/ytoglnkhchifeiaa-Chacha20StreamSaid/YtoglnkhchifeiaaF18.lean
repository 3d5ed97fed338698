/- kinkeep/kinkeepref07.Xor: its twin, and that the call does what the twin says. Printed by a program. -/
import Derived.Test.YtoglnkhchifeiaaBase
namespace Go.Proofs.Ytoglnkhchifeiaa
open Go.Tw
set_option linter.unusedSimpArgs false
set_option linter.unusedVariables false
def L18_1 (F : Nat) (p0 : List UInt8) (p1 : List UInt8) (y2 : Int) (y3 : List UInt8) : Option ((Int × (List UInt8)) ⊕ (Int × (List UInt8))) :=
  (bif (decide (y2 < (p0.length : Int))) then (Option.bind (inb p0.length y2) fun j5 => (Option.bind (p0[j5]?) fun x6 => (Option.bind (inb p1.length y2) fun j7 => (Option.bind (p1[j7]?) fun x8 => (Option.bind (gapp y3 ([(x6 ^^^ x8)] : List UInt8)) fun x11 => (some (.inl ((w64 (y2 + (1 : Int))), x11)))))))) else (some (.inr (y2, y3))))
def T18 (F : Nat) (p0 : List UInt8) (p1 : List UInt8) : Option ((List UInt8) × Int) :=
  (bif ((p0.length : Int) != (p1.length : Int)) then some (([] : List UInt8), (1 : Int)) else (bind2 (iter (fun s => L18_1 F p0 p1 s.1 s.2) F ((0 : Int), ([] : List UInt8))) fun z12 z13 => some (z13, (0 : Int))))

set_option maxRecDepth 100000 in
set_option maxHeartbeats 4000000 in
theorem ok18 (F : Nat) (p0 : List UInt8) (p1 : List UInt8) (w0 : World) (v_p0 : Value) (h_p0 : TRd w0 vU8 v_p0 p0) (v_p1 : Value) (h_p1 : TRd w0 vU8 v_p1 p1) {r0 : List UInt8} {r1 : Int} (ht : T18 F p0 p1 = some (r0, r1)) : Calls Try.prog 18 #[(.o (.v v_p0) : SV).val, (.o (.v v_p1) : SV).val] w0 (Ret fun v w' => ∃ s0 : Value, v = .tuple #[s0, (S0.i r1).val] ∧ HA w0 none1 none1 w' [trow 5 vU8 s0 r0]) := by
  unfold T18 at ht
  refine enterW [.o (.v v_p0), .o (.v v_p1)] Try.func18 rfl Try.ntmps18 rfl rfl fun a w H h => ?_
  refine c_seq ?_
  refine c_plain ?_
  refine sq_p h 2 tok trivial rfl fun a h => ?_
  refine sq_nil ?_
  refine c_seq ?_
  refine c_seq ?_
  refine c_plain ?_
  refine sq_p h 1 tok trivial rfl fun a h => ?_
  refine sq_v (v := .o (.i (p0.length : Int))) h trivial (r_len tok h rfl rfl rfl rfl (H.old h_p0 (fun _ _ e => e))) rfl rfl rfl fun a h => ?_
  refine sq_p h 1 tok trivial rfl fun a h => ?_
  refine sq_v (v := .o (.i (p1.length : Int))) h trivial (r_len tok h rfl rfl rfl rfl (H.old h_p1 (fun _ _ e => e))) rfl rfl rfl fun a h => ?_
  refine sq_p h 1 tok trivial rfl fun a h => ?_
  refine sq_nil ?_
  refine c_cond h rfl rfl (fun hc => ?_) (fun hc => ?_)
  · have ht := condT hc ht
    refine c_seq ?_
    refine c_plain ?_
    refine sq_p h 2 tok trivial rfl fun a h => ?_
    refine sq_nil ?_
    refine c_ret ?_
    cases ht
    exact fin_two h Try.results18 rfl rfl ⟨.slice none 0 0, rfl, (H.nil 5 vU8).pick [0]⟩
  · have ht := condF hc ht
    refine c_skip ?_
    refine c_seq ?_
    refine c_plain ?_
    refine t_lit (f := vU8) H h ([] : List UInt8) eok28 rfl rfl rfl (by decide) (fun _ => rfl) rfl rfl rfl (fun _ _ _ => trivial) fun v1 w a H h => ?_
    refine sq_p h 1 tok trivial rfl fun a h => ?_
    refine sq_nil ?_
    refine c_seq ?_
    refine c_seq ?_
    refine c_plain ?_
    refine sq_p h 1 tok trivial rfl fun a h => ?_
    refine sq_v (v := .o (.i (p0.length : Int))) h trivial (r_len tok h rfl rfl rfl rfl (H.old h_p0 (fun _ _ e => e))) rfl rfl rfl fun a h => ?_
    refine sq_p h 1 tok trivial rfl fun a h => ?_
    refine sq_nil ?_
    refine c_block ?_
    obtain ⟨z12, z13, el, ht⟩ := bindS2 ht
    refine c_loop (fun s => L18_1 F p0 p1 s.1 s.2) (fun s a w => ∃ v4 : Value, Fr 33 a [(0, .o (.v v_p0)), (1, .o (.v v_p1)), (4, .o (.v (.slice none 0 0))), (5, .o (.i (0 : Int))), (6, .o (.v v4)), (15, .o (.i (p0.length : Int))), (16, .o (.i s.1))] ∧ HA w0 none1 none1 w [trow 5 vU8 v4 s.2]) (fun s e a w => e = Exit.exit 0 ∧ ∃ v4 : Value, Fr 33 a [(0, .o (.v v_p0)), (1, .o (.v v_p1)), (4, .o (.v (.slice none 0 0))), (5, .o (.i (0 : Int))), (6, .o (.v v4)), (15, .o (.i (p0.length : Int))), (16, .o (.i s.1))] ∧ HA w0 none1 none1 w [trow 5 vU8 v4 s.2]) ?_ (x := (z12, z13)) ?_ ?_ F ((0 : Int), ([] : List UInt8)) a w ⟨v1, h.keep [0, 1, 4, 5, 6, 15, 16], H.take 1⟩ el
    · rintro ⟨y2, y3⟩ a w ⟨v4, h, H⟩ r ht
      change L18_1 F p0 p1 y2 y3 = some r at ht
      unfold L18_1 at ht
      dsimp only at h H
      refine c_seq ?_
      refine c_plain ?_
      refine sq_p h 1 tok trivial rfl fun a h => ?_
      refine sq_nil ?_
      refine c_seq ?_
      refine c_cond h rfl rfl (fun hc => ?_) (fun hc => ?_)
      · have ht := condT hc ht
        refine c_skip ?_
        refine c_seq ?_
        refine c_block ?_
        refine c_seq ?_
        refine c_plain ?_
        refine sq_p h 2 tok trivial rfl fun a h => ?_
        refine sq_nil ?_
        refine c_draw [(.p, 0), (.p, 1), (.p, 2), (.p, 3), (.r, 4), (.p, 5), (.p, 6), (.p, 7), (.r, 8), (.p, 9), (.w, 10), (.w, 11), (.p, 12)] (fun _ => True) Try.mixed (by kernel_rfl) rfl trivial ?_
        have H := H.drew; generalize ({ w with drawn := w.drawn + 1 } : World) = w at H ⊢
        refine sq_p h 3 tok trivial rfl fun a h => ?_
        obtain ⟨j5, e_j5, ht⟩ := bindS ht
        refine sq_v (v := .o (.v (eaddr 1 v_p0 j5))) h trivial (j_idxSl tok h e_j5 (H.old h_p0 (fun _ _ e => e)) rfl rfl rfl rfl rfl) rfl rfl rfl fun a h => ?_
        obtain ⟨x6, e_x6, ht⟩ := bindS ht
        refine sq_r (v := .o (.u8 x6)) h (.inl rfl) trivial rfl rfl rfl (eaddr_loadE (f := vU8) tok h e_x6 (H.old h_p0 (fun _ _ e => e)) rfl rfl rfl rfl) fun a h => ?_
        refine sq_p h 2 tok trivial rfl fun a h => ?_
        obtain ⟨j7, e_j7, ht⟩ := bindS ht
        refine sq_v (v := .o (.v (eaddr 1 v_p1 j7))) h trivial (j_idxSl tok h e_j7 (H.old h_p1 (fun _ _ e => e)) rfl rfl rfl rfl rfl) rfl rfl rfl fun a h => ?_
        obtain ⟨x8, e_x8, ht⟩ := bindS ht
        refine sq_r (v := .o (.u8 x8)) h (.inl rfl) trivial rfl rfl rfl (eaddr_loadE (f := vU8) tok h e_x8 (H.old h_p1 (fun _ _ e => e)) rfl rfl rfl rfl) fun a h => ?_
        refine sq_p h 1 tok trivial rfl fun a h => ?_
        refine t_lit (f := vU8) H h ([(x6 ^^^ x8)] : List UInt8) eok28 rfl rfl rfl (by decide) (fun _ => rfl) rfl rfl rfl (fun _ _ _ => trivial) fun v9 w a H h => ?_
        obtain ⟨x11, e_x11, ht⟩ := bindS ht
        refine t_append (i := 0) (f := vU8) H h eok28 (by decide) Try.underlying28 rfl rfl rfl rfl (Row.rd (H.at (i := 1) rfl)) (fun _ => rfl) e_x11 rfl rfl rfl (fun _ _ _ => trivial) fun v10 w a H h => ?_
        refine sq_p h 1 tok trivial rfl fun a h => ?_
        refine sq_nil ?_
        refine c_plain ?_
        refine sq_p h 2 tok trivial rfl fun a h => ?_
        refine sq_nil ?_
        cases ht
        exact ⟨_, rfl, v10, h.keep [0, 1, 4, 5, 6, 15, 16], H.take 1⟩
      · have ht := condF hc ht
        refine c_exit ?_
        cases ht
        exact ⟨_, rfl, rfl, v4, h.keep [0, 1, 4, 5, 6, 15, 16], H.take 1⟩
    · rintro j a w ⟨hj, v4, h, H⟩
      cases hj
      refine iteT ?_
      refine c_seq ?_
      refine c_plain ?_
      refine sq_p h 3 tok trivial rfl fun a h => ?_
      refine sq_nil ?_
      refine c_ret ?_
      cases ht
      exact fin_two h Try.results18 rfl rfl ⟨v4, rfl, H.pick [0]⟩
    · rintro a w ⟨hj, _⟩; cases hj
end Go.Proofs.Ytoglnkhchifeiaa
