/- kinkeep/kinkeepref07.Block: its twin, and that the call does what the twin says. Printed by a program. -/
import Derived.Test.YtoglnkhchifeiaaF12
import Derived.Test.YtoglnkhchifeiaaF25
namespace Go.Proofs.Ytoglnkhchifeiaa
open Go.Tw
set_option linter.unusedSimpArgs false
set_option linter.unusedVariables false
def L16_1 (F : Nat) (p0 : List UInt8) (y3 : Int) (y4 : Vector UInt32 16) : Option ((Int × (Vector UInt32 16)) ⊕ (Int × (Vector UInt32 16))) :=
  (bif (decide (y3 < (8 : Int))) then (Option.bind (T25 F p0 y3) fun y5 => (Option.bind (inb 16 (w64 ((4 : Int) + y3))) fun j7 => (Option.bind (some (Vector.setIfInBounds y4 j7 y5)) fun x8 => (some (.inl ((w64 (y3 + (1 : Int))), x8)))))) else (some (.inr (y3, y4))))
def L16_2 (F : Nat) (p1 : List UInt8) (y12 : Int) (y13 : Vector UInt32 16) : Option ((Int × (Vector UInt32 16)) ⊕ (Int × (Vector UInt32 16))) :=
  (bif (decide (y12 < (3 : Int))) then (Option.bind (T25 F p1 y12) fun y14 => (Option.bind (inb 16 (w64 ((13 : Int) + y12))) fun j16 => (Option.bind (some (Vector.setIfInBounds y13 j16 y14)) fun x17 => (some (.inl ((w64 (y12 + (1 : Int))), x17)))))) else (some (.inr (y12, y13))))
def L16_4 (F : Nat)  (y24 : Int) (y25 : Vector UInt32 16) : Option ((Int × (Vector UInt32 16)) ⊕ (Int × (Vector UInt32 16))) :=
  (bif (decide (y24 < (8 : Int))) then (Option.bind (vix (#v[(#v[(0 : Int), (4 : Int), (8 : Int), (12 : Int)] : Vector Int 4), (#v[(1 : Int), (5 : Int), (9 : Int), (13 : Int)] : Vector Int 4), (#v[(2 : Int), (6 : Int), (10 : Int), (14 : Int)] : Vector Int 4), (#v[(3 : Int), (7 : Int), (11 : Int), (15 : Int)] : Vector Int 4), (#v[(0 : Int), (5 : Int), (10 : Int), (15 : Int)] : Vector Int 4), (#v[(1 : Int), (6 : Int), (11 : Int), (12 : Int)] : Vector Int 4), (#v[(2 : Int), (7 : Int), (8 : Int), (13 : Int)] : Vector Int 4), (#v[(3 : Int), (4 : Int), (9 : Int), (14 : Int)] : Vector Int 4)] : Vector (Vector Int 4) 8) y24) fun x26 => (Option.bind (inb 16 (x26[0]'(by decide))) fun j28 => (Option.bind (y25[j28]?) fun x29 => (Option.bind (inb 16 (x26[1]'(by decide))) fun j30 => (Option.bind (y25[j30]?) fun x31 => (Option.bind (inb 16 (x26[2]'(by decide))) fun j32 => (Option.bind (y25[j32]?) fun x33 => (Option.bind (inb 16 (x26[3]'(by decide))) fun j34 => (Option.bind (y25[j34]?) fun x35 => (bind4 (T12 F x29 x31 x33 x35) fun y36 y37 y38 y39 => (Option.bind (inb 16 (x26[0]'(by decide))) fun j41 => (Option.bind (some (Vector.setIfInBounds y25 j41 y36)) fun x42 => (Option.bind (inb 16 (x26[1]'(by decide))) fun j43 => (Option.bind (some (Vector.setIfInBounds x42 j43 y37)) fun x44 => (Option.bind (inb 16 (x26[2]'(by decide))) fun j45 => (Option.bind (some (Vector.setIfInBounds x44 j45 y38)) fun x46 => (Option.bind (inb 16 (x26[3]'(by decide))) fun j47 => (Option.bind (some (Vector.setIfInBounds x46 j47 y39)) fun x48 => (some (.inl ((w64 (y24 + (1 : Int))), x48))))))))))))))))))))) else (some (.inr (y24, y25))))
def L16_3 (F : Nat)  (y22 : Int) (y23 : Vector UInt32 16) : Option ((Int × (Vector UInt32 16)) ⊕ (Int × (Vector UInt32 16))) :=
  (bif (decide (y22 < (10 : Int))) then (bind2 (iter (fun s => L16_4 F s.1 s.2) F ((0 : Int), y23)) fun z49 z50 => (some (.inl ((w64 (y22 + (1 : Int))), z50)))) else (some (.inr (y22, y23))))
def L16_5 (F : Nat) (z19 : Vector UInt32 16) (z52 : Vector UInt32 16) (y54 : Int) (y55 : List UInt8) : Option ((Int × (List UInt8)) ⊕ (Int × (List UInt8))) :=
  (bif (decide (y54 < (16 : Int))) then (Option.bind (inb 16 y54) fun j57 => (Option.bind (z52[j57]?) fun x58 => (Option.bind (inb 16 y54) fun j59 => (Option.bind (z19[j59]?) fun x60 => (Option.bind (gapp y55 ([((x58 + x60).toUInt8), ((shr32 (x58 + x60) ((UInt64.ofNat 8).toNat)).toUInt8), ((shr32 (x58 + x60) ((UInt64.ofNat 16).toNat)).toUInt8), ((shr32 (x58 + x60) ((UInt64.ofNat 24).toNat)).toUInt8)] : List UInt8)) fun x63 => (some (.inl ((w64 (y54 + (1 : Int))), x63)))))))) else (some (.inr (y54, y55))))
def T16 (F : Nat) (p0 : List UInt8) (p1 : List UInt8) (p2 : UInt32) : Option ((List UInt8) × Int) :=
  (Option.bind (bif ((p0.length : Int) != (32 : Int)) then some true else some ((p1.length : Int) != (12 : Int))) fun c1 => (bif c1 then some (([] : List UInt8), (1 : Int)) else (bind2 (iter (fun s => L16_1 F p0 s.1 s.2) F ((0 : Int), (#v[(UInt32.ofNat 1634760805), (UInt32.ofNat 857760878), (UInt32.ofNat 2036477234), (UInt32.ofNat 1797285236), (0 : UInt32), (0 : UInt32), (0 : UInt32), (0 : UInt32), (0 : UInt32), (0 : UInt32), (0 : UInt32), (0 : UInt32), (0 : UInt32), (0 : UInt32), (0 : UInt32), (0 : UInt32)] : Vector UInt32 16))) fun z9 z10 => (Option.bind (some (Vector.setIfInBounds z10 12 p2)) fun x11 => (bind2 (iter (fun s => L16_2 F p1 s.1 s.2) F ((0 : Int), x11)) fun z18 z19 => (bind2 (iter (fun s => L16_3 F s.1 s.2) F ((0 : Int), z19)) fun z51 z52 => (bind2 (iter (fun s => L16_5 F z19 z52 s.1 s.2) F ((0 : Int), ([] : List UInt8))) fun z64 z65 => some (z65, (0 : Int)))))))))

set_option maxRecDepth 100000 in
set_option maxHeartbeats 4000000 in
theorem ok16 (F : Nat) (p0 : List UInt8) (p1 : List UInt8) (p2 : UInt32) (w0 : World)  {r0 : List UInt8} {r1 : Int} (ht : T16 F p0 p1 p2 = some (r0, r1)) : Calls Try.prog 16 #[(.o (.s p0) : SV).val, (.o (.s p1) : SV).val, (.o (.u32 p2) : SV).val] w0 (Ret fun v w' => ∃ s0 : Value, v = .tuple #[s0, (S0.i r1).val] ∧ HA w0 none1 none1 w' [trow 5 vU8 s0 r0]) := by
  unfold T16 at ht
  refine enterW [.o (.s p0), .o (.s p1), .o (.u32 p2)] Try.func16 rfl Try.ntmps16 rfl rfl fun a w H h => ?_
  refine c_seq ?_
  refine c_plain ?_
  refine sq_p h 2 tok trivial rfl fun a h => ?_
  refine sq_nil ?_
  refine c_seq ?_
  refine c_seq ?_
  refine c_plain ?_
  refine sq_p h 4 tok trivial rfl fun a h => ?_
  obtain ⟨c1, ej, ht⟩ := bindS ht
  refine sq_cut (fun a w => Fr 130 a [(0, .o (.s p0)), (1, .o (.s p1)), (2, .o (.u32 p2)), (6, .o (.v (.slice none 0 0))), (7, .o (.i (0 : Int))), (26, .o (.b c1))] ∧ HA w0 none1 none1 w []) 4 ?_ (fun a w hC hm => ?_)
  · clear ht
    rcases Bool.eq_false_or_eq_true ((p0.length : Int) != (32 : Int)) with hc | hc
    · have ht := condT hc ej; clear ej
      rw [hc] at h
      refine sq_p h 4 tok trivial rfl fun a h => ?_
      refine sq_nil ⟨trivial, ?_⟩
      cases ht
      exact ⟨h.keep [0, 1, 2, 6, 7, 26], H.take 0⟩
    · have ht := condF hc ej; clear ej
      rw [hc] at h
      refine sq_p h 4 tok trivial rfl fun a h => ?_
      refine sq_nil ⟨trivial, ?_⟩
      cases ht
      exact ⟨h.keep [0, 1, 2, 6, 7, 26], H.take 0⟩
  · obtain ⟨h, H⟩ := hm
    refine sq_nil ?_
    refine c_cond h rfl rfl (fun hc => ?_) (fun hc => ?_)
    · have ht := condT hc ht
      refine c_seq ?_
      refine c_plain ?_
      refine sq_p h 2 tok trivial rfl fun a h => ?_
      refine sq_nil ?_
      refine c_ret ?_
      cases ht
      exact fin_two h Try.results16 rfl rfl ⟨.slice none 0 0, rfl, (H.nil 5 vU8).pick [0]⟩
    · have ht := condF hc ht
      refine c_skip ?_
      refine c_seq ?_
      refine c_plain ?_
      refine sq_v (v := .o (.v (.agg (vec vU32 (#v[(UInt32.ofNat 1634760805), (UInt32.ofNat 857760878), (UInt32.ofNat 2036477234), (UInt32.ofNat 1797285236), (0 : UInt32), (0 : UInt32), (0 : UInt32), (0 : UInt32), (0 : UInt32), (0 : UInt32), (0 : UInt32), (0 : UInt32), (0 : UInt32), (0 : UInt32), (0 : UInt32), (0 : UInt32)] : Vector UInt32 16)).toArray))) h trivial (r_build h rfl rfl (fun w => by kernel_rfl)) rfl rfl rfl fun a h => ?_
      refine m_alloc (cs := (vec vU32 (Vector.replicate 16 (0 : UInt32)))) H h zok rfl rfl (by rw [vec_rep]; rfl) rfl rfl rfl (fun _ _ _ => trivial) fun b2 w a H h => ?_
      refine m_storeA (i := 0) H h tok rfl rfl rfl rfl rfl (vec_len _ _) (one_vec (fun _ => rfl) _) rfl (by rw [vec_len, vec_len]; decide) (stA (by rw [vec_len, vec_len])) rfl rfl (fun _ _ => trivial) fun w a H h => ?_
      refine sq_nil ?_
      refine c_seq ?_
      refine c_seq ?_
      refine c_plain ?_
      refine sq_p h 1 tok trivial rfl fun a h => ?_
      refine sq_nil ?_
      refine c_block ?_
      obtain ⟨z9, z10, el, ht⟩ := bindS2 ht
      refine c_loop (fun s => L16_1 F p0 s.1 s.2) (fun s a w => Fr 130 a [(0, .o (.s p0)), (1, .o (.s p1)), (2, .o (.u32 p2)), (6, .o (.v (.slice none 0 0))), (7, .o (.i (0 : Int))), (8, .o (.v (.pointer (some ⟨b2, 0, none⟩)))), (9, .o (.i s.1))] ∧ HA w0 none1 none1 w [.blk b2 (vec vU32 s.2) 39]) (fun s e a w => e = Exit.exit 0 ∧ Fr 130 a [(0, .o (.s p0)), (1, .o (.s p1)), (2, .o (.u32 p2)), (6, .o (.v (.slice none 0 0))), (7, .o (.i (0 : Int))), (8, .o (.v (.pointer (some ⟨b2, 0, none⟩)))), (9, .o (.i s.1))] ∧ HA w0 none1 none1 w [.blk b2 (vec vU32 s.2) 39]) ?_ (x := (z9, z10)) ?_ ?_ F ((0 : Int), (#v[(UInt32.ofNat 1634760805), (UInt32.ofNat 857760878), (UInt32.ofNat 2036477234), (UInt32.ofNat 1797285236), (0 : UInt32), (0 : UInt32), (0 : UInt32), (0 : UInt32), (0 : UInt32), (0 : UInt32), (0 : UInt32), (0 : UInt32), (0 : UInt32), (0 : UInt32), (0 : UInt32), (0 : UInt32)] : Vector UInt32 16)) a w ⟨h.keep [0, 1, 2, 6, 7, 8, 9], H.take 1⟩ el
      · rintro ⟨y3, y4⟩ a w ⟨h, H⟩ r ht
        change L16_1 F p0 y3 y4 = some r at ht
        unfold L16_1 at ht
        dsimp only at h H
        refine c_seq ?_
        refine c_seq ?_
        refine c_plain ?_
        refine sq_p h 2 tok trivial rfl fun a h => ?_
        refine sq_nil ?_
        refine c_cond h rfl rfl (fun hc => ?_) (fun hc => ?_)
        · have ht := condT hc ht
          refine c_skip ?_
          refine c_seq ?_
          refine c_block ?_
          refine c_plain ?_
          refine sq_p h 4 tok trivial rfl fun a h => ?_
          obtain ⟨y5, e6, ht⟩ := bindS ht
          refine sq_call h rfl rfl Try.func25 rfl rfl rfl (ok25 F p0 y3 w  e6) ?_
          rintro _ w ⟨rfl, HN⟩
          have H := H.call HN; clear HN
          refine ⟨trivial, ?_⟩
          refine sq_fr (d := 36) (v := .o (.u32 y5)) h rfl rfl rfl fun a h => ?_
          obtain ⟨j7, e_j7, ht⟩ := bindS ht
          refine sq_v (v := .o (.v (.pointer (some ⟨b2, (0 + j7 * 1), none⟩)))) h trivial (j_idxArr tok h e_j7 rfl rfl rfl rfl rfl) rfl rfl rfl fun a h => ?_
          obtain ⟨x8, e_x8, ht⟩ := bindS ht
          refine m_store (i := 0) H h tok rfl rfl rfl rfl rfl rfl (vec_lt e_j7) (vec_setj (f := vU32) e_x8) rfl rfl (fun _ _ => trivial) fun w a H h => ?_
          refine sq_nil ?_
          refine c_plain ?_
          refine sq_p h 3 tok trivial rfl fun a h => ?_
          refine sq_nil ?_
          cases ht
          exact ⟨_, rfl, h.keep [0, 1, 2, 6, 7, 8, 9], H.take 1⟩
        · have ht := condF hc ht
          refine c_exit ?_
          cases ht
          exact ⟨_, rfl, rfl, h.keep [0, 1, 2, 6, 7, 8, 9], H.take 1⟩
      · rintro j a w ⟨hj, h, H⟩
        cases hj
        refine iteT ?_
        refine c_seq ?_
        refine c_plain ?_
        refine sq_p h 2 tok trivial rfl fun a h => ?_
        obtain ⟨x11, e_x11, ht⟩ := bindS ht
        refine m_store (i := 0) H h tok rfl rfl rfl rfl rfl rfl (vec_ltc (by decide)) (vec_setc (f := vU32) 12 rfl e_x11) rfl rfl (fun _ _ => trivial) fun w a H h => ?_
        refine sq_nil ?_
        refine c_seq ?_
        refine c_seq ?_
        refine c_plain ?_
        refine sq_p h 1 tok trivial rfl fun a h => ?_
        refine sq_nil ?_
        refine c_block ?_
        obtain ⟨z18, z19, el, ht⟩ := bindS2 ht
        refine c_loop (fun s => L16_2 F p1 s.1 s.2) (fun s a w => Fr 130 a [(1, .o (.s p1)), (6, .o (.v (.slice none 0 0))), (7, .o (.i (0 : Int))), (8, .o (.v (.pointer (some ⟨b2, 0, none⟩)))), (10, .o (.i s.1))] ∧ HA w0 none1 none1 w [.blk b2 (vec vU32 s.2) 39]) (fun s e a w => e = Exit.exit 2 ∧ Fr 130 a [(1, .o (.s p1)), (6, .o (.v (.slice none 0 0))), (7, .o (.i (0 : Int))), (8, .o (.v (.pointer (some ⟨b2, 0, none⟩)))), (10, .o (.i s.1))] ∧ HA w0 none1 none1 w [.blk b2 (vec vU32 s.2) 39]) ?_ (x := (z18, z19)) ?_ ?_ F ((0 : Int), x11) a w ⟨h.keep [1, 6, 7, 8, 10], H.take 1⟩ el
        · rintro ⟨y12, y13⟩ a w ⟨h, H⟩ r ht
          change L16_2 F p1 y12 y13 = some r at ht
          unfold L16_2 at ht
          dsimp only at h H
          refine c_seq ?_
          refine c_seq ?_
          refine c_plain ?_
          refine sq_p h 2 tok trivial rfl fun a h => ?_
          refine sq_nil ?_
          refine c_cond h rfl rfl (fun hc => ?_) (fun hc => ?_)
          · have ht := condT hc ht
            refine c_skip ?_
            refine c_seq ?_
            refine c_block ?_
            refine c_plain ?_
            refine sq_p h 4 tok trivial rfl fun a h => ?_
            obtain ⟨y14, e15, ht⟩ := bindS ht
            refine sq_call h rfl rfl Try.func25 rfl rfl rfl (ok25 F p1 y12 w  e15) ?_
            rintro _ w ⟨rfl, HN⟩
            have H := H.call HN; clear HN
            refine ⟨trivial, ?_⟩
            refine sq_fr (d := 48) (v := .o (.u32 y14)) h rfl rfl rfl fun a h => ?_
            obtain ⟨j16, e_j16, ht⟩ := bindS ht
            refine sq_v (v := .o (.v (.pointer (some ⟨b2, (0 + j16 * 1), none⟩)))) h trivial (j_idxArr tok h e_j16 rfl rfl rfl rfl rfl) rfl rfl rfl fun a h => ?_
            obtain ⟨x17, e_x17, ht⟩ := bindS ht
            refine m_store (i := 0) H h tok rfl rfl rfl rfl rfl rfl (vec_lt e_j16) (vec_setj (f := vU32) e_x17) rfl rfl (fun _ _ => trivial) fun w a H h => ?_
            refine sq_nil ?_
            refine c_plain ?_
            refine sq_p h 3 tok trivial rfl fun a h => ?_
            refine sq_nil ?_
            cases ht
            exact ⟨_, rfl, h.keep [1, 6, 7, 8, 10], H.take 1⟩
          · have ht := condF hc ht
            refine c_exit ?_
            cases ht
            exact ⟨_, rfl, rfl, h.keep [1, 6, 7, 8, 10], H.take 1⟩
        · rintro j a w ⟨hj, h, H⟩
          cases hj
          refine iteT ?_
          refine c_seq ?_
          refine c_plain ?_
          refine sq_v (v := .o (.v (.agg (vec vI (#v[(0 : Int), (4 : Int), (8 : Int), (12 : Int)] : Vector Int 4)).toArray))) h trivial (r_build h rfl rfl (fun w => by kernel_rfl)) rfl rfl rfl fun a h => ?_
          refine sq_v (v := .o (.v (.agg (vec vI (#v[(1 : Int), (5 : Int), (9 : Int), (13 : Int)] : Vector Int 4)).toArray))) h trivial (r_build h rfl rfl (fun w => by kernel_rfl)) rfl rfl rfl fun a h => ?_
          refine sq_v (v := .o (.v (.agg (vec vI (#v[(2 : Int), (6 : Int), (10 : Int), (14 : Int)] : Vector Int 4)).toArray))) h trivial (r_build h rfl rfl (fun w => by kernel_rfl)) rfl rfl rfl fun a h => ?_
          refine sq_v (v := .o (.v (.agg (vec vI (#v[(3 : Int), (7 : Int), (11 : Int), (15 : Int)] : Vector Int 4)).toArray))) h trivial (r_build h rfl rfl (fun w => by kernel_rfl)) rfl rfl rfl fun a h => ?_
          refine sq_v (v := .o (.v (.agg (vec vI (#v[(0 : Int), (5 : Int), (10 : Int), (15 : Int)] : Vector Int 4)).toArray))) h trivial (r_build h rfl rfl (fun w => by kernel_rfl)) rfl rfl rfl fun a h => ?_
          refine sq_v (v := .o (.v (.agg (vec vI (#v[(1 : Int), (6 : Int), (11 : Int), (12 : Int)] : Vector Int 4)).toArray))) h trivial (r_build h rfl rfl (fun w => by kernel_rfl)) rfl rfl rfl fun a h => ?_
          refine sq_v (v := .o (.v (.agg (vec vI (#v[(2 : Int), (7 : Int), (8 : Int), (13 : Int)] : Vector Int 4)).toArray))) h trivial (r_build h rfl rfl (fun w => by kernel_rfl)) rfl rfl rfl fun a h => ?_
          refine sq_v (v := .o (.v (.agg (vec vI (#v[(3 : Int), (4 : Int), (9 : Int), (14 : Int)] : Vector Int 4)).toArray))) h trivial (r_build h rfl rfl (fun w => by kernel_rfl)) rfl rfl rfl fun a h => ?_
          refine sq_v (v := .o (.v (.agg (vec2 vI (#v[(#v[(0 : Int), (4 : Int), (8 : Int), (12 : Int)] : Vector Int 4), (#v[(1 : Int), (5 : Int), (9 : Int), (13 : Int)] : Vector Int 4), (#v[(2 : Int), (6 : Int), (10 : Int), (14 : Int)] : Vector Int 4), (#v[(3 : Int), (7 : Int), (11 : Int), (15 : Int)] : Vector Int 4), (#v[(0 : Int), (5 : Int), (10 : Int), (15 : Int)] : Vector Int 4), (#v[(1 : Int), (6 : Int), (11 : Int), (12 : Int)] : Vector Int 4), (#v[(2 : Int), (7 : Int), (8 : Int), (13 : Int)] : Vector Int 4), (#v[(3 : Int), (4 : Int), (9 : Int), (14 : Int)] : Vector Int 4)] : Vector (Vector Int 4) 8)).toArray))) h trivial (r_build h rfl rfl (fun w => by kernel_rfl)) rfl rfl rfl fun a h => ?_
          refine m_alloc (cs := (vec2 vI (Vector.replicate 8 (Vector.replicate 4 (0 : Int))))) H h zok rfl rfl rfl rfl rfl rfl (fun _ _ _ => trivial) fun b20 w a H h => ?_
          refine m_storeA (i := 1) H h tok rfl rfl rfl rfl rfl (vec2_len _ _) (one_vec2 (fun _ => rfl) _) rfl (by rw [vec2_len, vec2_len]; decide) (stA (by rw [vec2_len, vec2_len])) rfl rfl (fun _ _ => trivial) fun w a H h => ?_
          refine sq_nil ?_
          refine c_seq ?_
          refine c_plain ?_
          refine sq_r (v := .o (.v (.agg (vec vU32 z19).toArray))) h (.inr rfl) trivial rfl rfl rfl (r_loadA tok h rfl rfl rfl rfl rfl (H.at (i := 0) rfl) (vec_len _ _) vec_all) fun a h => ?_
          refine m_alloc (cs := (vec vU32 (Vector.replicate 16 (0 : UInt32)))) H h zok rfl rfl (by rw [vec_rep]; rfl) rfl rfl rfl (fun _ _ _ => trivial) fun b21 w a H h => ?_
          refine m_storeA (i := 2) H h tok rfl rfl rfl rfl rfl (vec_len _ _) (one_vec (fun _ => rfl) _) rfl (by rw [vec_len, vec_len]; decide) (stA (by rw [vec_len, vec_len])) rfl rfl (fun _ _ => trivial) fun w a H h => ?_
          refine sq_nil ?_
          refine c_seq ?_
          refine c_seq ?_
          refine c_plain ?_
          refine sq_p h 1 tok trivial rfl fun a h => ?_
          refine sq_nil ?_
          refine c_block ?_
          obtain ⟨z51, z52, el, ht⟩ := bindS2 ht
          refine c_loop (fun s => L16_3 F s.1 s.2) (fun s a w => Fr 130 a [(6, .o (.v (.slice none 0 0))), (7, .o (.i (0 : Int))), (8, .o (.v (.pointer (some ⟨b2, 0, none⟩)))), (11, .o (.v (.pointer (some ⟨b20, 0, none⟩)))), (12, .o (.v (.pointer (some ⟨b21, 0, none⟩)))), (13, .o (.i s.1))] ∧ HA w0 none1 none1 w [.blk b2 (vec vU32 z19) 39, .blk b20 (vec2 vI (#v[(#v[(0 : Int), (4 : Int), (8 : Int), (12 : Int)] : Vector Int 4), (#v[(1 : Int), (5 : Int), (9 : Int), (13 : Int)] : Vector Int 4), (#v[(2 : Int), (6 : Int), (10 : Int), (14 : Int)] : Vector Int 4), (#v[(3 : Int), (7 : Int), (11 : Int), (15 : Int)] : Vector Int 4), (#v[(0 : Int), (5 : Int), (10 : Int), (15 : Int)] : Vector Int 4), (#v[(1 : Int), (6 : Int), (11 : Int), (12 : Int)] : Vector Int 4), (#v[(2 : Int), (7 : Int), (8 : Int), (13 : Int)] : Vector Int 4), (#v[(3 : Int), (4 : Int), (9 : Int), (14 : Int)] : Vector Int 4)] : Vector (Vector Int 4) 8)) 42, .blk b21 (vec vU32 s.2) 39]) (fun s e a w => e = Exit.exit 4 ∧ Fr 130 a [(6, .o (.v (.slice none 0 0))), (7, .o (.i (0 : Int))), (8, .o (.v (.pointer (some ⟨b2, 0, none⟩)))), (11, .o (.v (.pointer (some ⟨b20, 0, none⟩)))), (12, .o (.v (.pointer (some ⟨b21, 0, none⟩)))), (13, .o (.i s.1))] ∧ HA w0 none1 none1 w [.blk b2 (vec vU32 z19) 39, .blk b20 (vec2 vI (#v[(#v[(0 : Int), (4 : Int), (8 : Int), (12 : Int)] : Vector Int 4), (#v[(1 : Int), (5 : Int), (9 : Int), (13 : Int)] : Vector Int 4), (#v[(2 : Int), (6 : Int), (10 : Int), (14 : Int)] : Vector Int 4), (#v[(3 : Int), (7 : Int), (11 : Int), (15 : Int)] : Vector Int 4), (#v[(0 : Int), (5 : Int), (10 : Int), (15 : Int)] : Vector Int 4), (#v[(1 : Int), (6 : Int), (11 : Int), (12 : Int)] : Vector Int 4), (#v[(2 : Int), (7 : Int), (8 : Int), (13 : Int)] : Vector Int 4), (#v[(3 : Int), (4 : Int), (9 : Int), (14 : Int)] : Vector Int 4)] : Vector (Vector Int 4) 8)) 42, .blk b21 (vec vU32 s.2) 39]) ?_ (x := (z51, z52)) ?_ ?_ F ((0 : Int), z19) a w ⟨h.keep [6, 7, 8, 11, 12, 13], H.take 3⟩ el
          · rintro ⟨y22, y23⟩ a w ⟨h, H⟩ r ht
            change L16_3 F y22 y23 = some r at ht
            unfold L16_3 at ht
            dsimp only at h H
            refine c_seq ?_
            refine c_seq ?_
            refine c_plain ?_
            refine sq_p h 2 tok trivial rfl fun a h => ?_
            refine sq_nil ?_
            refine c_cond h rfl rfl (fun hc => ?_) (fun hc => ?_)
            · have ht := condT hc ht
              refine c_skip ?_
              refine c_seq ?_
              refine c_block ?_
              refine c_seq ?_
              refine c_plain ?_
              refine sq_r (v := .o (.v (.agg (vec2 vI (#v[(#v[(0 : Int), (4 : Int), (8 : Int), (12 : Int)] : Vector Int 4), (#v[(1 : Int), (5 : Int), (9 : Int), (13 : Int)] : Vector Int 4), (#v[(2 : Int), (6 : Int), (10 : Int), (14 : Int)] : Vector Int 4), (#v[(3 : Int), (7 : Int), (11 : Int), (15 : Int)] : Vector Int 4), (#v[(0 : Int), (5 : Int), (10 : Int), (15 : Int)] : Vector Int 4), (#v[(1 : Int), (6 : Int), (11 : Int), (12 : Int)] : Vector Int 4), (#v[(2 : Int), (7 : Int), (8 : Int), (13 : Int)] : Vector Int 4), (#v[(3 : Int), (4 : Int), (9 : Int), (14 : Int)] : Vector Int 4)] : Vector (Vector Int 4) 8)).toArray))) h (.inr rfl) trivial rfl rfl rfl (r_loadA tok h rfl rfl rfl rfl rfl (H.at (i := 1) rfl) (vec2_len _ _) (vec2_all rfl)) fun a h => ?_
              refine sq_p h 1 tok trivial rfl fun a h => ?_
              refine sq_nil ?_
              refine c_block ?_
              obtain ⟨z49, z50, el, ht⟩ := bindS2 ht
              refine c_loop (fun s => L16_4 F s.1 s.2) (fun s a w => Fr 130 a [(6, .o (.v (.slice none 0 0))), (7, .o (.i (0 : Int))), (8, .o (.v (.pointer (some ⟨b2, 0, none⟩)))), (11, .o (.v (.pointer (some ⟨b20, 0, none⟩)))), (12, .o (.v (.pointer (some ⟨b21, 0, none⟩)))), (13, .o (.i y22)), (60, .o (.i y22)), (61, .o (.b (decide (y22 < (10 : Int))))), (64, .o (.v (.agg (vec2 vI (#v[(#v[(0 : Int), (4 : Int), (8 : Int), (12 : Int)] : Vector Int 4), (#v[(1 : Int), (5 : Int), (9 : Int), (13 : Int)] : Vector Int 4), (#v[(2 : Int), (6 : Int), (10 : Int), (14 : Int)] : Vector Int 4), (#v[(3 : Int), (7 : Int), (11 : Int), (15 : Int)] : Vector Int 4), (#v[(0 : Int), (5 : Int), (10 : Int), (15 : Int)] : Vector Int 4), (#v[(1 : Int), (6 : Int), (11 : Int), (12 : Int)] : Vector Int 4), (#v[(2 : Int), (7 : Int), (8 : Int), (13 : Int)] : Vector Int 4), (#v[(3 : Int), (4 : Int), (9 : Int), (14 : Int)] : Vector Int 4)] : Vector (Vector Int 4) 8)).toArray))), (65, .o (.i s.1))] ∧ HA w0 none1 none1 w [.blk b2 (vec vU32 z19) 39, .blk b20 (vec2 vI (#v[(#v[(0 : Int), (4 : Int), (8 : Int), (12 : Int)] : Vector Int 4), (#v[(1 : Int), (5 : Int), (9 : Int), (13 : Int)] : Vector Int 4), (#v[(2 : Int), (6 : Int), (10 : Int), (14 : Int)] : Vector Int 4), (#v[(3 : Int), (7 : Int), (11 : Int), (15 : Int)] : Vector Int 4), (#v[(0 : Int), (5 : Int), (10 : Int), (15 : Int)] : Vector Int 4), (#v[(1 : Int), (6 : Int), (11 : Int), (12 : Int)] : Vector Int 4), (#v[(2 : Int), (7 : Int), (8 : Int), (13 : Int)] : Vector Int 4), (#v[(3 : Int), (4 : Int), (9 : Int), (14 : Int)] : Vector Int 4)] : Vector (Vector Int 4) 8)) 42, .blk b21 (vec vU32 s.2) 39]) (fun s e a w => e = Exit.exit 6 ∧ Fr 130 a [(6, .o (.v (.slice none 0 0))), (7, .o (.i (0 : Int))), (8, .o (.v (.pointer (some ⟨b2, 0, none⟩)))), (11, .o (.v (.pointer (some ⟨b20, 0, none⟩)))), (12, .o (.v (.pointer (some ⟨b21, 0, none⟩)))), (13, .o (.i y22)), (60, .o (.i y22)), (61, .o (.b (decide (y22 < (10 : Int))))), (64, .o (.v (.agg (vec2 vI (#v[(#v[(0 : Int), (4 : Int), (8 : Int), (12 : Int)] : Vector Int 4), (#v[(1 : Int), (5 : Int), (9 : Int), (13 : Int)] : Vector Int 4), (#v[(2 : Int), (6 : Int), (10 : Int), (14 : Int)] : Vector Int 4), (#v[(3 : Int), (7 : Int), (11 : Int), (15 : Int)] : Vector Int 4), (#v[(0 : Int), (5 : Int), (10 : Int), (15 : Int)] : Vector Int 4), (#v[(1 : Int), (6 : Int), (11 : Int), (12 : Int)] : Vector Int 4), (#v[(2 : Int), (7 : Int), (8 : Int), (13 : Int)] : Vector Int 4), (#v[(3 : Int), (4 : Int), (9 : Int), (14 : Int)] : Vector Int 4)] : Vector (Vector Int 4) 8)).toArray))), (65, .o (.i s.1))] ∧ HA w0 none1 none1 w [.blk b2 (vec vU32 z19) 39, .blk b20 (vec2 vI (#v[(#v[(0 : Int), (4 : Int), (8 : Int), (12 : Int)] : Vector Int 4), (#v[(1 : Int), (5 : Int), (9 : Int), (13 : Int)] : Vector Int 4), (#v[(2 : Int), (6 : Int), (10 : Int), (14 : Int)] : Vector Int 4), (#v[(3 : Int), (7 : Int), (11 : Int), (15 : Int)] : Vector Int 4), (#v[(0 : Int), (5 : Int), (10 : Int), (15 : Int)] : Vector Int 4), (#v[(1 : Int), (6 : Int), (11 : Int), (12 : Int)] : Vector Int 4), (#v[(2 : Int), (7 : Int), (8 : Int), (13 : Int)] : Vector Int 4), (#v[(3 : Int), (4 : Int), (9 : Int), (14 : Int)] : Vector Int 4)] : Vector (Vector Int 4) 8)) 42, .blk b21 (vec vU32 s.2) 39]) ?_ (x := (z49, z50)) ?_ ?_ F ((0 : Int), y23) a w ⟨h.keep [6, 7, 8, 11, 12, 13, 60, 61, 64, 65], H.take 3⟩ el
              · rintro ⟨y24, y25⟩ a w ⟨h, H⟩ r ht
                change L16_4 F y24 y25 = some r at ht
                unfold L16_4 at ht
                dsimp only at h H
                refine c_seq ?_
                refine c_plain ?_
                refine sq_p h 1 tok trivial rfl fun a h => ?_
                refine sq_nil ?_
                refine c_seq ?_
                refine c_cond h rfl rfl (fun hc => ?_) (fun hc => ?_)
                · have ht := condT hc ht
                  refine c_skip ?_
                  refine c_seq ?_
                  refine c_block ?_
                  refine c_seq ?_
                  refine c_plain ?_
                  obtain ⟨x26, e_x26, ht⟩ := bindS ht
                  refine sq_v (v := .o (.v (.agg (vec vI x26).toArray))) h trivial (j_indexA (f := vI) tok h e_x26 rfl rfl rfl rfl rfl rfl rfl) rfl rfl rfl fun a h => ?_
                  refine m_alloc (cs := (vec vI (Vector.replicate 4 (0 : Int)))) H h zok rfl rfl (by rw [vec_rep]; rfl) rfl rfl rfl (fun _ _ _ => trivial) fun b27 w a H h => ?_
                  refine m_storeA (i := 3) H h tok rfl rfl rfl rfl rfl (vec_len _ _) (one_vec (fun _ => rfl) _) rfl (by rw [vec_len, vec_len]; decide) (stA (by rw [vec_len, vec_len])) rfl rfl (fun _ _ => trivial) fun w a H h => ?_
                  refine sq_nil ?_
                  refine c_draw [(.p, 0), (.c, 1), (.p, 2), (.c, 3), (.p, 4), (.c, 5), (.p, 6), (.c, 7), (.p, 8), (.r, 9), (.p, 10), (.r, 11), (.p, 12), (.r, 13), (.p, 14), (.r, 15), (.p, 16), (.r, 17), (.p, 18), (.r, 19), (.p, 20), (.r, 21), (.p, 22), (.r, 23), (.w, 24), (.p, 25), (.p, 26), (.p, 27), (.p, 28), (.p, 29), (.p, 30), (.w, 31), (.p, 32), (.w, 33), (.p, 34), (.w, 35), (.p, 36), (.w, 37)] (fun w => Rs.holds (.blk b27 (vec vI x26) 41) w) Try.mixed (by kernel_rfl) rfl (H.drew.at (i := 3) rfl) ?_
                  have H := H.drew; generalize ({ w with drawn := w.drawn + 1 } : World) = w at H ⊢
                  refine sq_p h 1 tok (H.at (i := 3) rfl) rfl fun a h => ?_
                  refine sq_c (v := .o (.i (x26[0]'(by decide)))) h rfl rfl rfl (fun w hC => (r_load tok h rfl rfl rfl rfl hC (vec_const (f := vI) 0 (by decide) rfl))) fun a h => ?_
                  refine sq_p h 1 tok (H.at (i := 3) rfl) rfl fun a h => ?_
                  refine sq_c (v := .o (.i (x26[1]'(by decide)))) h rfl rfl rfl (fun w hC => (r_load tok h rfl rfl rfl rfl hC (vec_const (f := vI) 1 (by decide) rfl))) fun a h => ?_
                  refine sq_p h 1 tok (H.at (i := 3) rfl) rfl fun a h => ?_
                  refine sq_c (v := .o (.i (x26[2]'(by decide)))) h rfl rfl rfl (fun w hC => (r_load tok h rfl rfl rfl rfl hC (vec_const (f := vI) 2 (by decide) rfl))) fun a h => ?_
                  refine sq_p h 1 tok (H.at (i := 3) rfl) rfl fun a h => ?_
                  refine sq_c (v := .o (.i (x26[3]'(by decide)))) h rfl rfl rfl (fun w hC => (r_load tok h rfl rfl rfl rfl hC (vec_const (f := vI) 3 (by decide) rfl))) fun a h => ?_
                  refine sq_p h 1 tok (H.at (i := 3) rfl) rfl fun a h => ?_
                  refine sq_r (v := .o (.i (x26[0]'(by decide)))) h (.inl rfl) (H.at (i := 3) rfl) rfl rfl rfl (r_load tok h rfl rfl rfl rfl (H.at (i := 3) rfl) (vec_const (f := vI) 0 (by decide) rfl)) fun a h => ?_
                  obtain ⟨j28, e_j28, ht⟩ := bindS ht
                  refine sq_v (v := .o (.v (.pointer (some ⟨b21, (0 + j28 * 1), none⟩)))) h (H.at (i := 3) rfl) (j_idxArr tok h e_j28 rfl rfl rfl rfl rfl) rfl rfl rfl fun a h => ?_
                  obtain ⟨x29, e_x29, ht⟩ := bindS ht
                  refine sq_r (v := .o (.u32 x29)) h (.inl rfl) (H.at (i := 3) rfl) rfl rfl rfl (r_load tok h rfl rfl rfl rfl (H.at (i := 2) rfl) (vget_vec (f := vU32) (o := 0) e_x29)) fun a h => ?_
                  refine sq_p h 1 tok (H.at (i := 3) rfl) rfl fun a h => ?_
                  refine sq_r (v := .o (.i (x26[1]'(by decide)))) h (.inl rfl) (H.at (i := 3) rfl) rfl rfl rfl (r_load tok h rfl rfl rfl rfl (H.at (i := 3) rfl) (vec_const (f := vI) 1 (by decide) rfl)) fun a h => ?_
                  obtain ⟨j30, e_j30, ht⟩ := bindS ht
                  refine sq_v (v := .o (.v (.pointer (some ⟨b21, (0 + j30 * 1), none⟩)))) h (H.at (i := 3) rfl) (j_idxArr tok h e_j30 rfl rfl rfl rfl rfl) rfl rfl rfl fun a h => ?_
                  obtain ⟨x31, e_x31, ht⟩ := bindS ht
                  refine sq_r (v := .o (.u32 x31)) h (.inl rfl) (H.at (i := 3) rfl) rfl rfl rfl (r_load tok h rfl rfl rfl rfl (H.at (i := 2) rfl) (vget_vec (f := vU32) (o := 0) e_x31)) fun a h => ?_
                  refine sq_p h 1 tok (H.at (i := 3) rfl) rfl fun a h => ?_
                  refine sq_r (v := .o (.i (x26[2]'(by decide)))) h (.inl rfl) (H.at (i := 3) rfl) rfl rfl rfl (r_load tok h rfl rfl rfl rfl (H.at (i := 3) rfl) (vec_const (f := vI) 2 (by decide) rfl)) fun a h => ?_
                  obtain ⟨j32, e_j32, ht⟩ := bindS ht
                  refine sq_v (v := .o (.v (.pointer (some ⟨b21, (0 + j32 * 1), none⟩)))) h (H.at (i := 3) rfl) (j_idxArr tok h e_j32 rfl rfl rfl rfl rfl) rfl rfl rfl fun a h => ?_
                  obtain ⟨x33, e_x33, ht⟩ := bindS ht
                  refine sq_r (v := .o (.u32 x33)) h (.inl rfl) (H.at (i := 3) rfl) rfl rfl rfl (r_load tok h rfl rfl rfl rfl (H.at (i := 2) rfl) (vget_vec (f := vU32) (o := 0) e_x33)) fun a h => ?_
                  refine sq_p h 1 tok (H.at (i := 3) rfl) rfl fun a h => ?_
                  refine sq_r (v := .o (.i (x26[3]'(by decide)))) h (.inl rfl) (H.at (i := 3) rfl) rfl rfl rfl (r_load tok h rfl rfl rfl rfl (H.at (i := 3) rfl) (vec_const (f := vI) 3 (by decide) rfl)) fun a h => ?_
                  obtain ⟨j34, e_j34, ht⟩ := bindS ht
                  refine sq_v (v := .o (.v (.pointer (some ⟨b21, (0 + j34 * 1), none⟩)))) h (H.at (i := 3) rfl) (j_idxArr tok h e_j34 rfl rfl rfl rfl rfl) rfl rfl rfl fun a h => ?_
                  obtain ⟨x35, e_x35, ht⟩ := bindS ht
                  refine sq_r (v := .o (.u32 x35)) h (.inl rfl) (H.at (i := 3) rfl) rfl rfl rfl (r_load tok h rfl rfl rfl rfl (H.at (i := 2) rfl) (vget_vec (f := vU32) (o := 0) e_x35)) fun a h => ?_
                  obtain ⟨y36, y37, y38, y39, e40, ht⟩ := bindS4 ht
                  refine sq_call h rfl rfl Try.func12 rfl rfl rfl (ok12 F x29 x31 x33 x35 w  e40) ?_
                  rintro _ w ⟨rfl, HN⟩
                  have H := H.call HN; clear HN
                  refine ⟨(H.at (i := 3) rfl), ?_⟩
                  refine sq_fr (d := 93) (v := .t [.u32 y36, .u32 y37, .u32 y38, .u32 y39]) h rfl rfl rfl fun a h => ?_
                  refine sq_p h 5 tok (H.at (i := 3) rfl) rfl fun a h => ?_
                  obtain ⟨j41, e_j41, ht⟩ := bindS ht
                  refine sq_v (v := .o (.v (.pointer (some ⟨b21, (0 + j41 * 1), none⟩)))) h (H.at (i := 3) rfl) (j_idxArr tok h e_j41 rfl rfl rfl rfl rfl) rfl rfl rfl fun a h => ?_
                  obtain ⟨x42, e_x42, ht⟩ := bindS ht
                  refine m_store (i := 2) H h tok rfl rfl rfl rfl rfl rfl (vec_lt e_j41) (vec_setj (f := vU32) e_x42) rfl rfl (fun _ H => (H.at (i := 3) rfl)) fun w a H h => ?_
                  obtain ⟨j43, e_j43, ht⟩ := bindS ht
                  refine sq_v (v := .o (.v (.pointer (some ⟨b21, (0 + j43 * 1), none⟩)))) h (H.at (i := 3) rfl) (j_idxArr tok h e_j43 rfl rfl rfl rfl rfl) rfl rfl rfl fun a h => ?_
                  obtain ⟨x44, e_x44, ht⟩ := bindS ht
                  refine m_store (i := 2) H h tok rfl rfl rfl rfl rfl rfl (vec_lt e_j43) (vec_setj (f := vU32) e_x44) rfl rfl (fun _ H => (H.at (i := 3) rfl)) fun w a H h => ?_
                  obtain ⟨j45, e_j45, ht⟩ := bindS ht
                  refine sq_v (v := .o (.v (.pointer (some ⟨b21, (0 + j45 * 1), none⟩)))) h (H.at (i := 3) rfl) (j_idxArr tok h e_j45 rfl rfl rfl rfl rfl) rfl rfl rfl fun a h => ?_
                  obtain ⟨x46, e_x46, ht⟩ := bindS ht
                  refine m_store (i := 2) H h tok rfl rfl rfl rfl rfl rfl (vec_lt e_j45) (vec_setj (f := vU32) e_x46) rfl rfl (fun _ H => (H.at (i := 3) rfl)) fun w a H h => ?_
                  obtain ⟨j47, e_j47, ht⟩ := bindS ht
                  refine sq_v (v := .o (.v (.pointer (some ⟨b21, (0 + j47 * 1), none⟩)))) h (H.at (i := 3) rfl) (j_idxArr tok h e_j47 rfl rfl rfl rfl rfl) rfl rfl rfl fun a h => ?_
                  obtain ⟨x48, e_x48, ht⟩ := bindS ht
                  refine m_store (i := 2) H h tok rfl rfl rfl rfl rfl rfl (vec_lt e_j47) (vec_setj (f := vU32) e_x48) rfl rfl (fun _ H => (H.at (i := 3) rfl)) fun w a H h => ?_
                  refine sq_nil ?_
                  refine c_plain ?_
                  refine sq_p h 2 tok trivial rfl fun a h => ?_
                  refine sq_nil ?_
                  cases ht
                  exact ⟨_, rfl, h.keep [6, 7, 8, 11, 12, 13, 60, 61, 64, 65], H.take 3⟩
                · have ht := condF hc ht
                  refine c_exit ?_
                  cases ht
                  exact ⟨_, rfl, rfl, h.keep [6, 7, 8, 11, 12, 13, 60, 61, 64, 65], H.take 3⟩
              · rintro j a w ⟨hj, h, H⟩
                cases hj
                refine iteT ?_
                refine c_plain ?_
                refine sq_p h 3 tok trivial rfl fun a h => ?_
                refine sq_nil ?_
                cases ht
                exact ⟨_, rfl, h.keep [6, 7, 8, 11, 12, 13], H.take 3⟩
              · rintro a w ⟨hj, _⟩; cases hj
            · have ht := condF hc ht
              refine c_exit ?_
              cases ht
              exact ⟨_, rfl, rfl, h.keep [6, 7, 8, 11, 12, 13], H.take 3⟩
          · rintro j a w ⟨hj, h, H⟩
            cases hj
            refine iteT ?_
            refine c_seq ?_
            refine c_plain ?_
            refine t_lit (f := vU8) H h ([] : List UInt8) eok28 rfl rfl rfl (by decide) (fun _ => rfl) rfl rfl rfl (fun _ _ _ => trivial) fun v53 w a H h => ?_
            refine sq_p h 1 tok trivial rfl fun a h => ?_
            refine sq_nil ?_
            refine c_seq ?_
            refine c_seq ?_
            refine c_plain ?_
            refine sq_p h 1 tok trivial rfl fun a h => ?_
            refine sq_nil ?_
            refine c_block ?_
            obtain ⟨z64, z65, el, ht⟩ := bindS2 ht
            refine c_loop (fun s => L16_5 F z19 z52 s.1 s.2) (fun s a w => ∃ v56 : Value, Fr 130 a [(6, .o (.v (.slice none 0 0))), (7, .o (.i (0 : Int))), (8, .o (.v (.pointer (some ⟨b2, 0, none⟩)))), (12, .o (.v (.pointer (some ⟨b21, 0, none⟩)))), (16, .o (.v v56)), (17, .o (.i s.1))] ∧ HA w0 none1 none1 w [.blk b2 (vec vU32 z19) 39, .blk b20 (vec2 vI (#v[(#v[(0 : Int), (4 : Int), (8 : Int), (12 : Int)] : Vector Int 4), (#v[(1 : Int), (5 : Int), (9 : Int), (13 : Int)] : Vector Int 4), (#v[(2 : Int), (6 : Int), (10 : Int), (14 : Int)] : Vector Int 4), (#v[(3 : Int), (7 : Int), (11 : Int), (15 : Int)] : Vector Int 4), (#v[(0 : Int), (5 : Int), (10 : Int), (15 : Int)] : Vector Int 4), (#v[(1 : Int), (6 : Int), (11 : Int), (12 : Int)] : Vector Int 4), (#v[(2 : Int), (7 : Int), (8 : Int), (13 : Int)] : Vector Int 4), (#v[(3 : Int), (4 : Int), (9 : Int), (14 : Int)] : Vector Int 4)] : Vector (Vector Int 4) 8)) 42, .blk b21 (vec vU32 z52) 39, trow 5 vU8 v56 s.2]) (fun s e a w => e = Exit.exit 8 ∧ ∃ v56 : Value, Fr 130 a [(6, .o (.v (.slice none 0 0))), (7, .o (.i (0 : Int))), (8, .o (.v (.pointer (some ⟨b2, 0, none⟩)))), (12, .o (.v (.pointer (some ⟨b21, 0, none⟩)))), (16, .o (.v v56)), (17, .o (.i s.1))] ∧ HA w0 none1 none1 w [.blk b2 (vec vU32 z19) 39, .blk b20 (vec2 vI (#v[(#v[(0 : Int), (4 : Int), (8 : Int), (12 : Int)] : Vector Int 4), (#v[(1 : Int), (5 : Int), (9 : Int), (13 : Int)] : Vector Int 4), (#v[(2 : Int), (6 : Int), (10 : Int), (14 : Int)] : Vector Int 4), (#v[(3 : Int), (7 : Int), (11 : Int), (15 : Int)] : Vector Int 4), (#v[(0 : Int), (5 : Int), (10 : Int), (15 : Int)] : Vector Int 4), (#v[(1 : Int), (6 : Int), (11 : Int), (12 : Int)] : Vector Int 4), (#v[(2 : Int), (7 : Int), (8 : Int), (13 : Int)] : Vector Int 4), (#v[(3 : Int), (4 : Int), (9 : Int), (14 : Int)] : Vector Int 4)] : Vector (Vector Int 4) 8)) 42, .blk b21 (vec vU32 z52) 39, trow 5 vU8 v56 s.2]) ?_ (x := (z64, z65)) ?_ ?_ F ((0 : Int), ([] : List UInt8)) a w ⟨v53, h.keep [6, 7, 8, 12, 16, 17], H.take 4⟩ el
            · rintro ⟨y54, y55⟩ a w ⟨v56, h, H⟩ r ht
              change L16_5 F z19 z52 y54 y55 = some r at ht
              unfold L16_5 at ht
              dsimp only at h H
              refine c_seq ?_
              refine c_seq ?_
              refine c_plain ?_
              refine sq_p h 2 tok trivial rfl fun a h => ?_
              refine sq_nil ?_
              refine c_cond h rfl rfl (fun hc => ?_) (fun hc => ?_)
              · have ht := condT hc ht
                refine c_skip ?_
                refine c_seq ?_
                refine c_block ?_
                refine c_seq ?_
                refine c_draw [(.p, 0), (.p, 1), (.r, 2), (.p, 3), (.p, 4), (.r, 5), (.p, 6), (.p, 7)] (fun _ => True) Try.mixed (by kernel_rfl) rfl trivial ?_
                have H := H.drew; generalize ({ w with drawn := w.drawn + 1 } : World) = w at H ⊢
                refine sq_p h 1 tok trivial rfl fun a h => ?_
                obtain ⟨j57, e_j57, ht⟩ := bindS ht
                refine sq_v (v := .o (.v (.pointer (some ⟨b21, (0 + j57 * 1), none⟩)))) h trivial (j_idxArr tok h e_j57 rfl rfl rfl rfl rfl) rfl rfl rfl fun a h => ?_
                obtain ⟨x58, e_x58, ht⟩ := bindS ht
                refine sq_r (v := .o (.u32 x58)) h (.inl rfl) trivial rfl rfl rfl (r_load tok h rfl rfl rfl rfl (H.at (i := 2) rfl) (vget_vec (f := vU32) (o := 0) e_x58)) fun a h => ?_
                refine sq_p h 1 tok trivial rfl fun a h => ?_
                obtain ⟨j59, e_j59, ht⟩ := bindS ht
                refine sq_v (v := .o (.v (.pointer (some ⟨b2, (0 + j59 * 1), none⟩)))) h trivial (j_idxArr tok h e_j59 rfl rfl rfl rfl rfl) rfl rfl rfl fun a h => ?_
                obtain ⟨x60, e_x60, ht⟩ := bindS ht
                refine sq_r (v := .o (.u32 x60)) h (.inl rfl) trivial rfl rfl rfl (r_load tok h rfl rfl rfl rfl (H.at (i := 0) rfl) (vget_vec (f := vU32) (o := 0) e_x60)) fun a h => ?_
                refine sq_p h 2 tok trivial rfl fun a h => ?_
                refine sq_nil ?_
                refine c_plain ?_
                refine sq_p h 12 tok trivial rfl fun a h => ?_
                refine t_lit (f := vU8) H h ([((x58 + x60).toUInt8), ((shr32 (x58 + x60) ((UInt64.ofNat 8).toNat)).toUInt8), ((shr32 (x58 + x60) ((UInt64.ofNat 16).toNat)).toUInt8), ((shr32 (x58 + x60) ((UInt64.ofNat 24).toNat)).toUInt8)] : List UInt8) eok28 rfl rfl rfl (by decide) (fun _ => rfl) rfl rfl rfl (fun _ _ _ => trivial) fun v61 w a H h => ?_
                obtain ⟨x63, e_x63, ht⟩ := bindS ht
                refine t_append (i := 3) (f := vU8) H h eok28 (by decide) Try.underlying28 rfl rfl rfl rfl (Row.rd (H.at (i := 4) rfl)) (fun _ => rfl) e_x63 rfl rfl rfl (fun _ _ _ => trivial) fun v62 w a H h => ?_
                refine sq_p h 1 tok trivial rfl fun a h => ?_
                refine sq_nil ?_
                refine c_plain ?_
                refine sq_p h 3 tok trivial rfl fun a h => ?_
                refine sq_nil ?_
                cases ht
                exact ⟨_, rfl, v62, h.keep [6, 7, 8, 12, 16, 17], H.take 4⟩
              · have ht := condF hc ht
                refine c_exit ?_
                cases ht
                exact ⟨_, rfl, rfl, v56, h.keep [6, 7, 8, 12, 16, 17], H.take 4⟩
            · rintro j a w ⟨hj, v56, h, H⟩
              cases hj
              refine iteT ?_
              refine c_seq ?_
              refine c_plain ?_
              refine sq_p h 3 tok trivial rfl fun a h => ?_
              refine sq_nil ?_
              refine c_ret ?_
              cases ht
              exact fin_two h Try.results16 rfl rfl ⟨v56, rfl, H.pick [3]⟩
            · rintro a w ⟨hj, _⟩; cases hj
          · rintro a w ⟨hj, _⟩; cases hj
        · rintro a w ⟨hj, _⟩; cases hj
      · rintro a w ⟨hj, _⟩; cases hj
end Go.Proofs.Ytoglnkhchifeiaa
