/- kinkeep/chacha20.Block: its twin, and that the call does what the twin says. Printed by a program. -/
import Derived.Test.YtoglnkhchifeiaaF11
import Derived.Test.YtoglnkhchifeiaaF23
import Derived.Test.YtoglnkhchifeiaaF24
namespace Go.Proofs.Ytoglnkhchifeiaa
open Go.Tw
set_option linter.unusedSimpArgs false
set_option linter.unusedVariables false
def L15_1 (F : Nat) (p0 : List UInt8) (y4 : Int) (y5 : Vector UInt32 16) : Option ((Int × (Vector UInt32 16)) ⊕ (Int × (Vector UInt32 16))) :=
  (bif (decide (y4 < (8 : Int))) then (Option.bind (T24 F p0 (w64 ((4 : Int) * y4))) fun y6 => (Option.bind (inb 16 (w64 ((4 : Int) + y4))) fun j8 => (Option.bind (some (Vector.setIfInBounds y5 j8 y6)) fun x9 => (some (.inl ((w64 (y4 + (1 : Int))), x9)))))) else (some (.inr (y4, y5))))
def L15_2 (F : Nat) (p1 : List UInt8) (y13 : Int) (y14 : Vector UInt32 16) : Option ((Int × (Vector UInt32 16)) ⊕ (Int × (Vector UInt32 16))) :=
  (bif (decide (y13 < (3 : Int))) then (Option.bind (T24 F p1 (w64 ((4 : Int) * y13))) fun y15 => (Option.bind (inb 16 (w64 ((13 : Int) + y13))) fun j17 => (Option.bind (some (Vector.setIfInBounds y14 j17 y15)) fun x18 => (some (.inl ((w64 (y13 + (1 : Int))), x18)))))) else (some (.inr (y13, y14))))
def L15_4 (F : Nat)  (y25 : Int) (y26 : Vector UInt32 16) : Option ((Int × (Vector UInt32 16)) ⊕ (Int × (Vector UInt32 16))) :=
  (bif (decide (y25 < (8 : Int))) then (Option.bind (vix (#v[(#v[(0 : Int), (4 : Int), (8 : Int), (12 : Int)] : Vector Int 4), (#v[(1 : Int), (5 : Int), (9 : Int), (13 : Int)] : Vector Int 4), (#v[(2 : Int), (6 : Int), (10 : Int), (14 : Int)] : Vector Int 4), (#v[(3 : Int), (7 : Int), (11 : Int), (15 : Int)] : Vector Int 4), (#v[(0 : Int), (5 : Int), (10 : Int), (15 : Int)] : Vector Int 4), (#v[(1 : Int), (6 : Int), (11 : Int), (12 : Int)] : Vector Int 4), (#v[(2 : Int), (7 : Int), (8 : Int), (13 : Int)] : Vector Int 4), (#v[(3 : Int), (4 : Int), (9 : Int), (14 : Int)] : Vector Int 4)] : Vector (Vector Int 4) 8) y25) fun x27 => (Option.bind (inb 16 (x27[0]'(by decide))) fun j29 => (Option.bind (y26[j29]?) fun x30 => (Option.bind (inb 16 (x27[1]'(by decide))) fun j31 => (Option.bind (y26[j31]?) fun x32 => (Option.bind (inb 16 (x27[2]'(by decide))) fun j33 => (Option.bind (y26[j33]?) fun x34 => (Option.bind (inb 16 (x27[3]'(by decide))) fun j35 => (Option.bind (y26[j35]?) fun x36 => (bind4 (T11 F x30 x32 x34 x36) fun y37 y38 y39 y40 => (Option.bind (inb 16 (x27[0]'(by decide))) fun j42 => (Option.bind (some (Vector.setIfInBounds y26 j42 y37)) fun x43 => (Option.bind (inb 16 (x27[1]'(by decide))) fun j44 => (Option.bind (some (Vector.setIfInBounds x43 j44 y38)) fun x45 => (Option.bind (inb 16 (x27[2]'(by decide))) fun j46 => (Option.bind (some (Vector.setIfInBounds x45 j46 y39)) fun x47 => (Option.bind (inb 16 (x27[3]'(by decide))) fun j48 => (Option.bind (some (Vector.setIfInBounds x47 j48 y40)) fun x49 => (some (.inl ((w64 (y25 + (1 : Int))), x49))))))))))))))))))))) else (some (.inr (y25, y26))))
def L15_3 (F : Nat)  (y23 : Int) (y24 : Vector UInt32 16) : Option ((Int × (Vector UInt32 16)) ⊕ (Int × (Vector UInt32 16))) :=
  (bif (decide (y23 < (10 : Int))) then (bind2 (iter (fun s => L15_4 F s.1 s.2) F ((0 : Int), y24)) fun z50 z51 => (some (.inl ((w64 (y23 + (1 : Int))), z51)))) else (some (.inr (y23, y24))))
def L15_5 (F : Nat) (z20 : Vector UInt32 16) (z53 : Vector UInt32 16) (y56 : Int) (y57 : List UInt8) : Option ((Int × (List UInt8)) ⊕ (Int × (List UInt8))) :=
  (bif (decide (y56 < (16 : Int))) then (Option.bind (vix z53 y56) fun x59 => (Option.bind (inb 16 y56) fun j60 => (Option.bind (z20[j60]?) fun x61 => (Option.bind (gapp y57 ([((x59 + x61).toUInt8), ((shr32 (x59 + x61) ((UInt64.ofNat 8).toNat)).toUInt8), ((shr32 (x59 + x61) ((UInt64.ofNat 16).toNat)).toUInt8), ((shr32 (x59 + x61) ((UInt64.ofNat 24).toNat)).toUInt8)] : List UInt8)) fun x64 => (some (.inl ((w64 (y56 + (1 : Int))), x64))))))) else (some (.inr (y56, y57))))
def T15 (F : Nat) (p0 : List UInt8) (p1 : List UInt8) (p2 : UInt32) : Option ((List UInt8) × Int) :=
  (Option.bind (T23 F p0 p1) fun y1 => (bif (!y1) then some (([] : List UInt8), (1 : Int)) else (bind2 (iter (fun s => L15_1 F p0 s.1 s.2) F ((0 : Int), (#v[(UInt32.ofNat 1634760805), (UInt32.ofNat 857760878), (UInt32.ofNat 2036477234), (UInt32.ofNat 1797285236), (0 : UInt32), (0 : UInt32), (0 : UInt32), (0 : UInt32), (0 : UInt32), (0 : UInt32), (0 : UInt32), (0 : UInt32), (0 : UInt32), (0 : UInt32), (0 : UInt32), (0 : UInt32)] : Vector UInt32 16))) fun z10 z11 => (Option.bind (some (Vector.setIfInBounds z11 12 p2)) fun x12 => (bind2 (iter (fun s => L15_2 F p1 s.1 s.2) F ((0 : Int), x12)) fun z19 z20 => (bind2 (iter (fun s => L15_3 F s.1 s.2) F ((0 : Int), z20)) fun z52 z53 => (Option.bind (gmake (0 : UInt8) (0 : Int) (64 : Int)) fun x55 => (bind2 (iter (fun s => L15_5 F z20 z53 s.1 s.2) F ((0 : Int), x55)) fun z65 z66 => some (z66, (0 : Int))))))))))

set_option maxRecDepth 100000 in
set_option maxHeartbeats 4000000 in
theorem ok15 (F : Nat) (p0 : List UInt8) (p1 : List UInt8) (p2 : UInt32) (w0 : World)  {r0 : List UInt8} {r1 : Int} (ht : T15 F p0 p1 p2 = some (r0, r1)) : Calls Try.prog 15 #[(.o (.s p0) : SV).val, (.o (.s p1) : SV).val, (.o (.u32 p2) : SV).val] w0 (Ret fun v w' => ∃ s0 : Value, v = .tuple #[s0, (S0.i r1).val] ∧ HA w0 none1 none1 w' [trow 5 vU8 s0 r0]) := by
  unfold T15 at ht
  refine enterW [.o (.s p0), .o (.s p1), .o (.u32 p2)] Try.func15 rfl Try.ntmps15 rfl rfl fun a w H h => ?_
  refine c_seq ?_
  refine c_plain ?_
  refine sq_p h 2 tok trivial rfl fun a h => ?_
  refine sq_nil ?_
  refine c_seq ?_
  refine c_seq ?_
  refine c_plain ?_
  refine sq_p h 2 tok trivial rfl fun a h => ?_
  obtain ⟨y1, e2, ht⟩ := bindS ht
  refine sq_call h rfl rfl Try.func23 rfl rfl rfl (ok23 F p0 p1 w  e2) ?_
  rintro _ w ⟨rfl, HN⟩
  have H := H.call HN; clear HN
  refine ⟨trivial, ?_⟩
  refine sq_fr (d := 20) (v := .o (.b y1)) h rfl rfl rfl fun a h => ?_
  refine sq_p h 1 tok trivial rfl fun a h => ?_
  refine sq_nil ?_
  refine c_cond h rfl rfl (fun hc => ?_) (fun hc => ?_)
  · have ht := condT hc ht
    refine c_seq ?_
    refine c_plain ?_
    refine sq_p h 2 tok trivial rfl fun a h => ?_
    refine sq_nil ?_
    refine c_ret ?_
    cases ht
    exact fin_two h Try.results15 rfl rfl ⟨.slice none 0 0, rfl, (H.nil 5 vU8).pick [0]⟩
  · have ht := condF hc ht
    refine c_skip ?_
    refine c_seq ?_
    refine c_plain ?_
    refine sq_v (v := .o (.v (.agg (vec vU32 (#v[(UInt32.ofNat 1634760805), (UInt32.ofNat 857760878), (UInt32.ofNat 2036477234), (UInt32.ofNat 1797285236), (0 : UInt32), (0 : UInt32), (0 : UInt32), (0 : UInt32), (0 : UInt32), (0 : UInt32), (0 : UInt32), (0 : UInt32), (0 : UInt32), (0 : UInt32), (0 : UInt32), (0 : UInt32)] : Vector UInt32 16)).toArray))) h trivial (r_build h rfl rfl (fun w => by kernel_rfl)) rfl rfl rfl fun a h => ?_
    refine m_alloc (cs := (vec vU32 (Vector.replicate 16 (0 : UInt32)))) H h zok rfl rfl (by rw [vec_rep]; rfl) rfl rfl rfl (fun _ _ _ => trivial) fun b3 w a H h => ?_
    refine m_storeA (i := 0) H h tok rfl rfl rfl rfl rfl (vec_len _ _) (one_vec (fun _ => rfl) _) rfl (by rw [vec_len, vec_len]; decide) (stA (by rw [vec_len, vec_len])) rfl rfl (fun _ _ => trivial) fun w a H h => ?_
    refine sq_nil ?_
    refine c_seq ?_
    refine c_seq ?_
    refine c_plain ?_
    refine sq_p h 1 tok trivial rfl fun a h => ?_
    refine sq_nil ?_
    refine c_block ?_
    obtain ⟨z10, z11, el, ht⟩ := bindS2 ht
    refine c_loop (fun s => L15_1 F p0 s.1 s.2) (fun s a w => Fr 126 a [(0, .o (.s p0)), (1, .o (.s p1)), (2, .o (.u32 p2)), (6, .o (.v (.slice none 0 0))), (7, .o (.i (0 : Int))), (8, .o (.v (.pointer (some ⟨b3, 0, none⟩)))), (23, .o (.i s.1))] ∧ HA w0 none1 none1 w [.blk b3 (vec vU32 s.2) 39]) (fun s e a w => e = Exit.exit 0 ∧ Fr 126 a [(0, .o (.s p0)), (1, .o (.s p1)), (2, .o (.u32 p2)), (6, .o (.v (.slice none 0 0))), (7, .o (.i (0 : Int))), (8, .o (.v (.pointer (some ⟨b3, 0, none⟩)))), (23, .o (.i s.1))] ∧ HA w0 none1 none1 w [.blk b3 (vec vU32 s.2) 39]) ?_ (x := (z10, z11)) ?_ ?_ F ((0 : Int), (#v[(UInt32.ofNat 1634760805), (UInt32.ofNat 857760878), (UInt32.ofNat 2036477234), (UInt32.ofNat 1797285236), (0 : UInt32), (0 : UInt32), (0 : UInt32), (0 : UInt32), (0 : UInt32), (0 : UInt32), (0 : UInt32), (0 : UInt32), (0 : UInt32), (0 : UInt32), (0 : UInt32), (0 : UInt32)] : Vector UInt32 16)) a w ⟨h.keep [0, 1, 2, 6, 7, 8, 23], H.take 1⟩ el
    · rintro ⟨y4, y5⟩ a w ⟨h, H⟩ r ht
      change L15_1 F p0 y4 y5 = some r at ht
      unfold L15_1 at ht
      dsimp only at h H
      refine c_seq ?_
      refine c_plain ?_
      refine sq_p h 1 tok trivial rfl fun a h => ?_
      refine sq_nil ?_
      refine c_seq ?_
      refine c_cond h rfl rfl (fun hc => ?_) (fun hc => ?_)
      · have ht := condT hc ht
        refine c_skip ?_
        refine c_seq ?_
        refine c_block ?_
        refine c_seq ?_
        refine c_plain ?_
        refine sq_p h 2 tok trivial rfl fun a h => ?_
        refine sq_nil ?_
        refine c_plain ?_
        refine sq_p h 5 tok trivial rfl fun a h => ?_
        obtain ⟨y6, e7, ht⟩ := bindS ht
        refine sq_call h rfl rfl Try.func24 rfl rfl rfl (ok24 F p0 (w64 ((4 : Int) * y4)) w  e7) ?_
        rintro _ w ⟨rfl, HN⟩
        have H := H.call HN; clear HN
        refine ⟨trivial, ?_⟩
        refine sq_fr (d := 31) (v := .o (.u32 y6)) h rfl rfl rfl fun a h => ?_
        obtain ⟨j8, e_j8, ht⟩ := bindS ht
        refine sq_v (v := .o (.v (.pointer (some ⟨b3, (0 + j8 * 1), none⟩)))) h trivial (j_idxArr tok h e_j8 rfl rfl rfl rfl rfl) rfl rfl rfl fun a h => ?_
        obtain ⟨x9, e_x9, ht⟩ := bindS ht
        refine m_store (i := 0) H h tok rfl rfl rfl rfl rfl rfl (vec_lt e_j8) (vec_setj (f := vU32) e_x9) rfl rfl (fun _ _ => trivial) fun w a H h => ?_
        refine sq_nil ?_
        refine c_plain ?_
        refine sq_p h 2 tok trivial rfl fun a h => ?_
        refine sq_nil ?_
        cases ht
        exact ⟨_, rfl, h.keep [0, 1, 2, 6, 7, 8, 23], H.take 1⟩
      · have ht := condF hc ht
        refine c_exit ?_
        cases ht
        exact ⟨_, rfl, rfl, h.keep [0, 1, 2, 6, 7, 8, 23], H.take 1⟩
    · rintro j a w ⟨hj, h, H⟩
      cases hj
      refine iteT ?_
      refine c_seq ?_
      refine c_plain ?_
      refine sq_p h 2 tok trivial rfl fun a h => ?_
      obtain ⟨x12, e_x12, ht⟩ := bindS ht
      refine m_store (i := 0) H h tok rfl rfl rfl rfl rfl rfl (vec_ltc (by decide)) (vec_setc (f := vU32) 12 rfl e_x12) rfl rfl (fun _ _ => trivial) fun w a H h => ?_
      refine sq_nil ?_
      refine c_seq ?_
      refine c_seq ?_
      refine c_plain ?_
      refine sq_p h 1 tok trivial rfl fun a h => ?_
      refine sq_nil ?_
      refine c_block ?_
      obtain ⟨z19, z20, el, ht⟩ := bindS2 ht
      refine c_loop (fun s => L15_2 F p1 s.1 s.2) (fun s a w => Fr 126 a [(1, .o (.s p1)), (6, .o (.v (.slice none 0 0))), (7, .o (.i (0 : Int))), (8, .o (.v (.pointer (some ⟨b3, 0, none⟩)))), (36, .o (.i s.1))] ∧ HA w0 none1 none1 w [.blk b3 (vec vU32 s.2) 39]) (fun s e a w => e = Exit.exit 2 ∧ Fr 126 a [(1, .o (.s p1)), (6, .o (.v (.slice none 0 0))), (7, .o (.i (0 : Int))), (8, .o (.v (.pointer (some ⟨b3, 0, none⟩)))), (36, .o (.i s.1))] ∧ HA w0 none1 none1 w [.blk b3 (vec vU32 s.2) 39]) ?_ (x := (z19, z20)) ?_ ?_ F ((0 : Int), x12) a w ⟨h.keep [1, 6, 7, 8, 36], H.take 1⟩ el
      · rintro ⟨y13, y14⟩ a w ⟨h, H⟩ r ht
        change L15_2 F p1 y13 y14 = some r at ht
        unfold L15_2 at ht
        dsimp only at h H
        refine c_seq ?_
        refine c_plain ?_
        refine sq_p h 1 tok trivial rfl fun a h => ?_
        refine sq_nil ?_
        refine c_seq ?_
        refine c_cond h rfl rfl (fun hc => ?_) (fun hc => ?_)
        · have ht := condT hc ht
          refine c_skip ?_
          refine c_seq ?_
          refine c_block ?_
          refine c_seq ?_
          refine c_plain ?_
          refine sq_p h 2 tok trivial rfl fun a h => ?_
          refine sq_nil ?_
          refine c_plain ?_
          refine sq_p h 5 tok trivial rfl fun a h => ?_
          obtain ⟨y15, e16, ht⟩ := bindS ht
          refine sq_call h rfl rfl Try.func24 rfl rfl rfl (ok24 F p1 (w64 ((4 : Int) * y13)) w  e16) ?_
          rintro _ w ⟨rfl, HN⟩
          have H := H.call HN; clear HN
          refine ⟨trivial, ?_⟩
          refine sq_fr (d := 44) (v := .o (.u32 y15)) h rfl rfl rfl fun a h => ?_
          obtain ⟨j17, e_j17, ht⟩ := bindS ht
          refine sq_v (v := .o (.v (.pointer (some ⟨b3, (0 + j17 * 1), none⟩)))) h trivial (j_idxArr tok h e_j17 rfl rfl rfl rfl rfl) rfl rfl rfl fun a h => ?_
          obtain ⟨x18, e_x18, ht⟩ := bindS ht
          refine m_store (i := 0) H h tok rfl rfl rfl rfl rfl rfl (vec_lt e_j17) (vec_setj (f := vU32) e_x18) rfl rfl (fun _ _ => trivial) fun w a H h => ?_
          refine sq_nil ?_
          refine c_plain ?_
          refine sq_p h 2 tok trivial rfl fun a h => ?_
          refine sq_nil ?_
          cases ht
          exact ⟨_, rfl, h.keep [1, 6, 7, 8, 36], H.take 1⟩
        · have ht := condF hc ht
          refine c_exit ?_
          cases ht
          exact ⟨_, rfl, rfl, h.keep [1, 6, 7, 8, 36], H.take 1⟩
      · rintro j a w ⟨hj, h, H⟩
        cases hj
        refine iteT ?_
        refine c_seq ?_
        refine c_plain ?_
        refine sq_r (v := .o (.v (.agg (vec vU32 z20).toArray))) h (.inr rfl) trivial rfl rfl rfl (r_loadA tok h rfl rfl rfl rfl rfl (H.at (i := 0) rfl) (vec_len _ _) vec_all) fun a h => ?_
        refine m_alloc (cs := (vec vU32 (Vector.replicate 16 (0 : UInt32)))) H h zok rfl rfl (by rw [vec_rep]; rfl) rfl rfl rfl (fun _ _ _ => trivial) fun b21 w a H h => ?_
        refine m_storeA (i := 1) H h tok rfl rfl rfl rfl rfl (vec_len _ _) (one_vec (fun _ => rfl) _) rfl (by rw [vec_len, vec_len]; decide) (stA (by rw [vec_len, vec_len])) rfl rfl (fun _ _ => trivial) fun w a H h => ?_
        refine sq_nil ?_
        refine c_seq ?_
        refine c_plain ?_
        refine sq_v (v := .o (.v (.agg (vec vI (#v[(0 : Int), (4 : Int), (8 : Int), (12 : Int)] : Vector Int 4)).toArray))) h trivial (r_build h rfl rfl (fun w => by kernel_rfl)) rfl rfl rfl fun a h => ?_
        refine sq_v (v := .o (.v (.agg (vec vI (#v[(1 : Int), (5 : Int), (9 : Int), (13 : Int)] : Vector Int 4)).toArray))) h trivial (r_build h rfl rfl (fun w => by kernel_rfl)) rfl rfl rfl fun a h => ?_
        refine sq_v (v := .o (.v (.agg (vec vI (#v[(2 : Int), (6 : Int), (10 : Int), (14 : Int)] : Vector Int 4)).toArray))) h trivial (r_build h rfl rfl (fun w => by kernel_rfl)) rfl rfl rfl fun a h => ?_
        refine sq_v (v := .o (.v (.agg (vec vI (#v[(3 : Int), (7 : Int), (11 : Int), (15 : Int)] : Vector Int 4)).toArray))) h trivial (r_build h rfl rfl (fun w => by kernel_rfl)) rfl rfl rfl fun a h => ?_
        refine sq_v (v := .o (.v (.agg (vec vI (#v[(0 : Int), (5 : Int), (10 : Int), (15 : Int)] : Vector Int 4)).toArray))) h trivial (r_build h rfl rfl (fun w => by kernel_rfl)) rfl rfl rfl fun a h => ?_
        refine sq_v (v := .o (.v (.agg (vec vI (#v[(1 : Int), (6 : Int), (11 : Int), (12 : Int)] : Vector Int 4)).toArray))) h trivial (r_build h rfl rfl (fun w => by kernel_rfl)) rfl rfl rfl fun a h => ?_
        refine sq_v (v := .o (.v (.agg (vec vI (#v[(2 : Int), (7 : Int), (8 : Int), (13 : Int)] : Vector Int 4)).toArray))) h trivial (r_build h rfl rfl (fun w => by kernel_rfl)) rfl rfl rfl fun a h => ?_
        refine sq_v (v := .o (.v (.agg (vec vI (#v[(3 : Int), (4 : Int), (9 : Int), (14 : Int)] : Vector Int 4)).toArray))) h trivial (r_build h rfl rfl (fun w => by kernel_rfl)) rfl rfl rfl fun a h => ?_
        refine sq_v (v := .o (.v (.agg (vec2 vI (#v[(#v[(0 : Int), (4 : Int), (8 : Int), (12 : Int)] : Vector Int 4), (#v[(1 : Int), (5 : Int), (9 : Int), (13 : Int)] : Vector Int 4), (#v[(2 : Int), (6 : Int), (10 : Int), (14 : Int)] : Vector Int 4), (#v[(3 : Int), (7 : Int), (11 : Int), (15 : Int)] : Vector Int 4), (#v[(0 : Int), (5 : Int), (10 : Int), (15 : Int)] : Vector Int 4), (#v[(1 : Int), (6 : Int), (11 : Int), (12 : Int)] : Vector Int 4), (#v[(2 : Int), (7 : Int), (8 : Int), (13 : Int)] : Vector Int 4), (#v[(3 : Int), (4 : Int), (9 : Int), (14 : Int)] : Vector Int 4)] : Vector (Vector Int 4) 8)).toArray))) h trivial (r_build h rfl rfl (fun w => by kernel_rfl)) rfl rfl rfl fun a h => ?_
        refine m_alloc (cs := (vec2 vI (Vector.replicate 8 (Vector.replicate 4 (0 : Int))))) H h zok rfl rfl rfl rfl rfl rfl (fun _ _ _ => trivial) fun b22 w a H h => ?_
        refine m_storeA (i := 2) H h tok rfl rfl rfl rfl rfl (vec2_len _ _) (one_vec2 (fun _ => rfl) _) rfl (by rw [vec2_len, vec2_len]; decide) (stA (by rw [vec2_len, vec2_len])) rfl rfl (fun _ _ => trivial) fun w a H h => ?_
        refine sq_nil ?_
        refine c_seq ?_
        refine c_seq ?_
        refine c_plain ?_
        refine sq_p h 1 tok trivial rfl fun a h => ?_
        refine sq_nil ?_
        refine c_block ?_
        obtain ⟨z52, z53, el, ht⟩ := bindS2 ht
        refine c_loop (fun s => L15_3 F s.1 s.2) (fun s a w => Fr 126 a [(6, .o (.v (.slice none 0 0))), (7, .o (.i (0 : Int))), (8, .o (.v (.pointer (some ⟨b3, 0, none⟩)))), (11, .o (.v (.pointer (some ⟨b21, 0, none⟩)))), (12, .o (.v (.pointer (some ⟨b22, 0, none⟩)))), (57, .o (.i s.1))] ∧ HA w0 none1 none1 w [.blk b3 (vec vU32 z20) 39, .blk b21 (vec vU32 s.2) 39, .blk b22 (vec2 vI (#v[(#v[(0 : Int), (4 : Int), (8 : Int), (12 : Int)] : Vector Int 4), (#v[(1 : Int), (5 : Int), (9 : Int), (13 : Int)] : Vector Int 4), (#v[(2 : Int), (6 : Int), (10 : Int), (14 : Int)] : Vector Int 4), (#v[(3 : Int), (7 : Int), (11 : Int), (15 : Int)] : Vector Int 4), (#v[(0 : Int), (5 : Int), (10 : Int), (15 : Int)] : Vector Int 4), (#v[(1 : Int), (6 : Int), (11 : Int), (12 : Int)] : Vector Int 4), (#v[(2 : Int), (7 : Int), (8 : Int), (13 : Int)] : Vector Int 4), (#v[(3 : Int), (4 : Int), (9 : Int), (14 : Int)] : Vector Int 4)] : Vector (Vector Int 4) 8)) 42]) (fun s e a w => e = Exit.exit 4 ∧ Fr 126 a [(6, .o (.v (.slice none 0 0))), (7, .o (.i (0 : Int))), (8, .o (.v (.pointer (some ⟨b3, 0, none⟩)))), (11, .o (.v (.pointer (some ⟨b21, 0, none⟩)))), (12, .o (.v (.pointer (some ⟨b22, 0, none⟩)))), (57, .o (.i s.1))] ∧ HA w0 none1 none1 w [.blk b3 (vec vU32 z20) 39, .blk b21 (vec vU32 s.2) 39, .blk b22 (vec2 vI (#v[(#v[(0 : Int), (4 : Int), (8 : Int), (12 : Int)] : Vector Int 4), (#v[(1 : Int), (5 : Int), (9 : Int), (13 : Int)] : Vector Int 4), (#v[(2 : Int), (6 : Int), (10 : Int), (14 : Int)] : Vector Int 4), (#v[(3 : Int), (7 : Int), (11 : Int), (15 : Int)] : Vector Int 4), (#v[(0 : Int), (5 : Int), (10 : Int), (15 : Int)] : Vector Int 4), (#v[(1 : Int), (6 : Int), (11 : Int), (12 : Int)] : Vector Int 4), (#v[(2 : Int), (7 : Int), (8 : Int), (13 : Int)] : Vector Int 4), (#v[(3 : Int), (4 : Int), (9 : Int), (14 : Int)] : Vector Int 4)] : Vector (Vector Int 4) 8)) 42]) ?_ (x := (z52, z53)) ?_ ?_ F ((0 : Int), z20) a w ⟨h.keep [6, 7, 8, 11, 12, 57], H.take 3⟩ el
        · rintro ⟨y23, y24⟩ a w ⟨h, H⟩ r ht
          change L15_3 F y23 y24 = some r at ht
          unfold L15_3 at ht
          dsimp only at h H
          refine c_seq ?_
          refine c_plain ?_
          refine sq_p h 1 tok trivial rfl fun a h => ?_
          refine sq_nil ?_
          refine c_seq ?_
          refine c_cond h rfl rfl (fun hc => ?_) (fun hc => ?_)
          · have ht := condT hc ht
            refine c_skip ?_
            refine c_seq ?_
            refine c_block ?_
            refine c_seq ?_
            refine c_plain ?_
            refine sq_r (v := .o (.v (.agg (vec2 vI (#v[(#v[(0 : Int), (4 : Int), (8 : Int), (12 : Int)] : Vector Int 4), (#v[(1 : Int), (5 : Int), (9 : Int), (13 : Int)] : Vector Int 4), (#v[(2 : Int), (6 : Int), (10 : Int), (14 : Int)] : Vector Int 4), (#v[(3 : Int), (7 : Int), (11 : Int), (15 : Int)] : Vector Int 4), (#v[(0 : Int), (5 : Int), (10 : Int), (15 : Int)] : Vector Int 4), (#v[(1 : Int), (6 : Int), (11 : Int), (12 : Int)] : Vector Int 4), (#v[(2 : Int), (7 : Int), (8 : Int), (13 : Int)] : Vector Int 4), (#v[(3 : Int), (4 : Int), (9 : Int), (14 : Int)] : Vector Int 4)] : Vector (Vector Int 4) 8)).toArray))) h (.inr rfl) trivial rfl rfl rfl (r_loadA tok h rfl rfl rfl rfl rfl (H.at (i := 2) rfl) (vec2_len _ _) (vec2_all rfl)) fun a h => ?_
            refine sq_p h 1 tok trivial rfl fun a h => ?_
            refine sq_nil ?_
            refine c_block ?_
            obtain ⟨z50, z51, el, ht⟩ := bindS2 ht
            refine c_loop (fun s => L15_4 F s.1 s.2) (fun s a w => Fr 126 a [(6, .o (.v (.slice none 0 0))), (7, .o (.i (0 : Int))), (8, .o (.v (.pointer (some ⟨b3, 0, none⟩)))), (11, .o (.v (.pointer (some ⟨b21, 0, none⟩)))), (12, .o (.v (.pointer (some ⟨b22, 0, none⟩)))), (57, .o (.i y23)), (58, .o (.b (decide (y23 < (10 : Int))))), (59, .o (.v (.agg (vec2 vI (#v[(#v[(0 : Int), (4 : Int), (8 : Int), (12 : Int)] : Vector Int 4), (#v[(1 : Int), (5 : Int), (9 : Int), (13 : Int)] : Vector Int 4), (#v[(2 : Int), (6 : Int), (10 : Int), (14 : Int)] : Vector Int 4), (#v[(3 : Int), (7 : Int), (11 : Int), (15 : Int)] : Vector Int 4), (#v[(0 : Int), (5 : Int), (10 : Int), (15 : Int)] : Vector Int 4), (#v[(1 : Int), (6 : Int), (11 : Int), (12 : Int)] : Vector Int 4), (#v[(2 : Int), (7 : Int), (8 : Int), (13 : Int)] : Vector Int 4), (#v[(3 : Int), (4 : Int), (9 : Int), (14 : Int)] : Vector Int 4)] : Vector (Vector Int 4) 8)).toArray))), (60, .o (.i s.1))] ∧ HA w0 none1 none1 w [.blk b3 (vec vU32 z20) 39, .blk b21 (vec vU32 s.2) 39, .blk b22 (vec2 vI (#v[(#v[(0 : Int), (4 : Int), (8 : Int), (12 : Int)] : Vector Int 4), (#v[(1 : Int), (5 : Int), (9 : Int), (13 : Int)] : Vector Int 4), (#v[(2 : Int), (6 : Int), (10 : Int), (14 : Int)] : Vector Int 4), (#v[(3 : Int), (7 : Int), (11 : Int), (15 : Int)] : Vector Int 4), (#v[(0 : Int), (5 : Int), (10 : Int), (15 : Int)] : Vector Int 4), (#v[(1 : Int), (6 : Int), (11 : Int), (12 : Int)] : Vector Int 4), (#v[(2 : Int), (7 : Int), (8 : Int), (13 : Int)] : Vector Int 4), (#v[(3 : Int), (4 : Int), (9 : Int), (14 : Int)] : Vector Int 4)] : Vector (Vector Int 4) 8)) 42]) (fun s e a w => e = Exit.exit 6 ∧ Fr 126 a [(6, .o (.v (.slice none 0 0))), (7, .o (.i (0 : Int))), (8, .o (.v (.pointer (some ⟨b3, 0, none⟩)))), (11, .o (.v (.pointer (some ⟨b21, 0, none⟩)))), (12, .o (.v (.pointer (some ⟨b22, 0, none⟩)))), (57, .o (.i y23)), (58, .o (.b (decide (y23 < (10 : Int))))), (59, .o (.v (.agg (vec2 vI (#v[(#v[(0 : Int), (4 : Int), (8 : Int), (12 : Int)] : Vector Int 4), (#v[(1 : Int), (5 : Int), (9 : Int), (13 : Int)] : Vector Int 4), (#v[(2 : Int), (6 : Int), (10 : Int), (14 : Int)] : Vector Int 4), (#v[(3 : Int), (7 : Int), (11 : Int), (15 : Int)] : Vector Int 4), (#v[(0 : Int), (5 : Int), (10 : Int), (15 : Int)] : Vector Int 4), (#v[(1 : Int), (6 : Int), (11 : Int), (12 : Int)] : Vector Int 4), (#v[(2 : Int), (7 : Int), (8 : Int), (13 : Int)] : Vector Int 4), (#v[(3 : Int), (4 : Int), (9 : Int), (14 : Int)] : Vector Int 4)] : Vector (Vector Int 4) 8)).toArray))), (60, .o (.i s.1))] ∧ HA w0 none1 none1 w [.blk b3 (vec vU32 z20) 39, .blk b21 (vec vU32 s.2) 39, .blk b22 (vec2 vI (#v[(#v[(0 : Int), (4 : Int), (8 : Int), (12 : Int)] : Vector Int 4), (#v[(1 : Int), (5 : Int), (9 : Int), (13 : Int)] : Vector Int 4), (#v[(2 : Int), (6 : Int), (10 : Int), (14 : Int)] : Vector Int 4), (#v[(3 : Int), (7 : Int), (11 : Int), (15 : Int)] : Vector Int 4), (#v[(0 : Int), (5 : Int), (10 : Int), (15 : Int)] : Vector Int 4), (#v[(1 : Int), (6 : Int), (11 : Int), (12 : Int)] : Vector Int 4), (#v[(2 : Int), (7 : Int), (8 : Int), (13 : Int)] : Vector Int 4), (#v[(3 : Int), (4 : Int), (9 : Int), (14 : Int)] : Vector Int 4)] : Vector (Vector Int 4) 8)) 42]) ?_ (x := (z50, z51)) ?_ ?_ F ((0 : Int), y24) a w ⟨h.keep [6, 7, 8, 11, 12, 57, 58, 59, 60], H.take 3⟩ el
            · rintro ⟨y25, y26⟩ a w ⟨h, H⟩ r ht
              change L15_4 F y25 y26 = some r at ht
              unfold L15_4 at ht
              dsimp only at h H
              refine c_seq ?_
              refine c_plain ?_
              refine sq_p h 1 tok trivial rfl fun a h => ?_
              refine sq_nil ?_
              refine c_seq ?_
              refine c_cond h rfl rfl (fun hc => ?_) (fun hc => ?_)
              · have ht := condT hc ht
                refine c_skip ?_
                refine c_seq ?_
                refine c_block ?_
                refine c_seq ?_
                refine c_plain ?_
                obtain ⟨x27, e_x27, ht⟩ := bindS ht
                refine sq_v (v := .o (.v (.agg (vec vI x27).toArray))) h trivial (j_indexA (f := vI) tok h e_x27 rfl rfl rfl rfl rfl rfl rfl) rfl rfl rfl fun a h => ?_
                refine m_alloc (cs := (vec vI (Vector.replicate 4 (0 : Int)))) H h zok rfl rfl (by rw [vec_rep]; rfl) rfl rfl rfl (fun _ _ _ => trivial) fun b28 w a H h => ?_
                refine m_storeA (i := 3) H h tok rfl rfl rfl rfl rfl (vec_len _ _) (one_vec (fun _ => rfl) _) rfl (by rw [vec_len, vec_len]; decide) (stA (by rw [vec_len, vec_len])) rfl rfl (fun _ _ => trivial) fun w a H h => ?_
                refine sq_nil ?_
                refine c_draw [(.p, 0), (.c, 1), (.p, 2), (.c, 3), (.p, 4), (.c, 5), (.p, 6), (.c, 7), (.p, 8), (.r, 9), (.p, 10), (.r, 11), (.p, 12), (.r, 13), (.p, 14), (.r, 15), (.p, 16), (.r, 17), (.p, 18), (.r, 19), (.p, 20), (.r, 21), (.p, 22), (.r, 23), (.w, 24), (.p, 25), (.p, 26), (.p, 27), (.p, 28), (.p, 29), (.p, 30), (.w, 31), (.p, 32), (.w, 33), (.p, 34), (.w, 35), (.p, 36), (.w, 37)] (fun w => Rs.holds (.blk b28 (vec vI x27) 41) w) Try.mixed (by kernel_rfl) rfl (H.drew.at (i := 3) rfl) ?_
                have H := H.drew; generalize ({ w with drawn := w.drawn + 1 } : World) = w at H ⊢
                refine sq_p h 1 tok (H.at (i := 3) rfl) rfl fun a h => ?_
                refine sq_c (v := .o (.i (x27[0]'(by decide)))) h rfl rfl rfl (fun w hC => (r_load tok h rfl rfl rfl rfl hC (vec_const (f := vI) 0 (by decide) rfl))) fun a h => ?_
                refine sq_p h 1 tok (H.at (i := 3) rfl) rfl fun a h => ?_
                refine sq_c (v := .o (.i (x27[1]'(by decide)))) h rfl rfl rfl (fun w hC => (r_load tok h rfl rfl rfl rfl hC (vec_const (f := vI) 1 (by decide) rfl))) fun a h => ?_
                refine sq_p h 1 tok (H.at (i := 3) rfl) rfl fun a h => ?_
                refine sq_c (v := .o (.i (x27[2]'(by decide)))) h rfl rfl rfl (fun w hC => (r_load tok h rfl rfl rfl rfl hC (vec_const (f := vI) 2 (by decide) rfl))) fun a h => ?_
                refine sq_p h 1 tok (H.at (i := 3) rfl) rfl fun a h => ?_
                refine sq_c (v := .o (.i (x27[3]'(by decide)))) h rfl rfl rfl (fun w hC => (r_load tok h rfl rfl rfl rfl hC (vec_const (f := vI) 3 (by decide) rfl))) fun a h => ?_
                refine sq_p h 1 tok (H.at (i := 3) rfl) rfl fun a h => ?_
                refine sq_r (v := .o (.i (x27[0]'(by decide)))) h (.inl rfl) (H.at (i := 3) rfl) rfl rfl rfl (r_load tok h rfl rfl rfl rfl (H.at (i := 3) rfl) (vec_const (f := vI) 0 (by decide) rfl)) fun a h => ?_
                obtain ⟨j29, e_j29, ht⟩ := bindS ht
                refine sq_v (v := .o (.v (.pointer (some ⟨b21, (0 + j29 * 1), none⟩)))) h (H.at (i := 3) rfl) (j_idxArr tok h e_j29 rfl rfl rfl rfl rfl) rfl rfl rfl fun a h => ?_
                obtain ⟨x30, e_x30, ht⟩ := bindS ht
                refine sq_r (v := .o (.u32 x30)) h (.inl rfl) (H.at (i := 3) rfl) rfl rfl rfl (r_load tok h rfl rfl rfl rfl (H.at (i := 1) rfl) (vget_vec (f := vU32) (o := 0) e_x30)) fun a h => ?_
                refine sq_p h 1 tok (H.at (i := 3) rfl) rfl fun a h => ?_
                refine sq_r (v := .o (.i (x27[1]'(by decide)))) h (.inl rfl) (H.at (i := 3) rfl) rfl rfl rfl (r_load tok h rfl rfl rfl rfl (H.at (i := 3) rfl) (vec_const (f := vI) 1 (by decide) rfl)) fun a h => ?_
                obtain ⟨j31, e_j31, ht⟩ := bindS ht
                refine sq_v (v := .o (.v (.pointer (some ⟨b21, (0 + j31 * 1), none⟩)))) h (H.at (i := 3) rfl) (j_idxArr tok h e_j31 rfl rfl rfl rfl rfl) rfl rfl rfl fun a h => ?_
                obtain ⟨x32, e_x32, ht⟩ := bindS ht
                refine sq_r (v := .o (.u32 x32)) h (.inl rfl) (H.at (i := 3) rfl) rfl rfl rfl (r_load tok h rfl rfl rfl rfl (H.at (i := 1) rfl) (vget_vec (f := vU32) (o := 0) e_x32)) fun a h => ?_
                refine sq_p h 1 tok (H.at (i := 3) rfl) rfl fun a h => ?_
                refine sq_r (v := .o (.i (x27[2]'(by decide)))) h (.inl rfl) (H.at (i := 3) rfl) rfl rfl rfl (r_load tok h rfl rfl rfl rfl (H.at (i := 3) rfl) (vec_const (f := vI) 2 (by decide) rfl)) fun a h => ?_
                obtain ⟨j33, e_j33, ht⟩ := bindS ht
                refine sq_v (v := .o (.v (.pointer (some ⟨b21, (0 + j33 * 1), none⟩)))) h (H.at (i := 3) rfl) (j_idxArr tok h e_j33 rfl rfl rfl rfl rfl) rfl rfl rfl fun a h => ?_
                obtain ⟨x34, e_x34, ht⟩ := bindS ht
                refine sq_r (v := .o (.u32 x34)) h (.inl rfl) (H.at (i := 3) rfl) rfl rfl rfl (r_load tok h rfl rfl rfl rfl (H.at (i := 1) rfl) (vget_vec (f := vU32) (o := 0) e_x34)) fun a h => ?_
                refine sq_p h 1 tok (H.at (i := 3) rfl) rfl fun a h => ?_
                refine sq_r (v := .o (.i (x27[3]'(by decide)))) h (.inl rfl) (H.at (i := 3) rfl) rfl rfl rfl (r_load tok h rfl rfl rfl rfl (H.at (i := 3) rfl) (vec_const (f := vI) 3 (by decide) rfl)) fun a h => ?_
                obtain ⟨j35, e_j35, ht⟩ := bindS ht
                refine sq_v (v := .o (.v (.pointer (some ⟨b21, (0 + j35 * 1), none⟩)))) h (H.at (i := 3) rfl) (j_idxArr tok h e_j35 rfl rfl rfl rfl rfl) rfl rfl rfl fun a h => ?_
                obtain ⟨x36, e_x36, ht⟩ := bindS ht
                refine sq_r (v := .o (.u32 x36)) h (.inl rfl) (H.at (i := 3) rfl) rfl rfl rfl (r_load tok h rfl rfl rfl rfl (H.at (i := 1) rfl) (vget_vec (f := vU32) (o := 0) e_x36)) fun a h => ?_
                obtain ⟨y37, y38, y39, y40, e41, ht⟩ := bindS4 ht
                refine sq_call h rfl rfl Try.func11 rfl rfl rfl (ok11 F x30 x32 x34 x36 w  e41) ?_
                rintro _ w ⟨rfl, HN⟩
                have H := H.call HN; clear HN
                refine ⟨(H.at (i := 3) rfl), ?_⟩
                refine sq_fr (d := 88) (v := .t [.u32 y37, .u32 y38, .u32 y39, .u32 y40]) h rfl rfl rfl fun a h => ?_
                refine sq_p h 5 tok (H.at (i := 3) rfl) rfl fun a h => ?_
                obtain ⟨j42, e_j42, ht⟩ := bindS ht
                refine sq_v (v := .o (.v (.pointer (some ⟨b21, (0 + j42 * 1), none⟩)))) h (H.at (i := 3) rfl) (j_idxArr tok h e_j42 rfl rfl rfl rfl rfl) rfl rfl rfl fun a h => ?_
                obtain ⟨x43, e_x43, ht⟩ := bindS ht
                refine m_store (i := 1) H h tok rfl rfl rfl rfl rfl rfl (vec_lt e_j42) (vec_setj (f := vU32) e_x43) rfl rfl (fun _ H => (H.at (i := 3) rfl)) fun w a H h => ?_
                obtain ⟨j44, e_j44, ht⟩ := bindS ht
                refine sq_v (v := .o (.v (.pointer (some ⟨b21, (0 + j44 * 1), none⟩)))) h (H.at (i := 3) rfl) (j_idxArr tok h e_j44 rfl rfl rfl rfl rfl) rfl rfl rfl fun a h => ?_
                obtain ⟨x45, e_x45, ht⟩ := bindS ht
                refine m_store (i := 1) H h tok rfl rfl rfl rfl rfl rfl (vec_lt e_j44) (vec_setj (f := vU32) e_x45) rfl rfl (fun _ H => (H.at (i := 3) rfl)) fun w a H h => ?_
                obtain ⟨j46, e_j46, ht⟩ := bindS ht
                refine sq_v (v := .o (.v (.pointer (some ⟨b21, (0 + j46 * 1), none⟩)))) h (H.at (i := 3) rfl) (j_idxArr tok h e_j46 rfl rfl rfl rfl rfl) rfl rfl rfl fun a h => ?_
                obtain ⟨x47, e_x47, ht⟩ := bindS ht
                refine m_store (i := 1) H h tok rfl rfl rfl rfl rfl rfl (vec_lt e_j46) (vec_setj (f := vU32) e_x47) rfl rfl (fun _ H => (H.at (i := 3) rfl)) fun w a H h => ?_
                obtain ⟨j48, e_j48, ht⟩ := bindS ht
                refine sq_v (v := .o (.v (.pointer (some ⟨b21, (0 + j48 * 1), none⟩)))) h (H.at (i := 3) rfl) (j_idxArr tok h e_j48 rfl rfl rfl rfl rfl) rfl rfl rfl fun a h => ?_
                obtain ⟨x49, e_x49, ht⟩ := bindS ht
                refine m_store (i := 1) H h tok rfl rfl rfl rfl rfl rfl (vec_lt e_j48) (vec_setj (f := vU32) e_x49) rfl rfl (fun _ H => (H.at (i := 3) rfl)) fun w a H h => ?_
                refine sq_nil ?_
                refine c_plain ?_
                refine sq_p h 2 tok trivial rfl fun a h => ?_
                refine sq_nil ?_
                cases ht
                exact ⟨_, rfl, h.keep [6, 7, 8, 11, 12, 57, 58, 59, 60], H.take 3⟩
              · have ht := condF hc ht
                refine c_exit ?_
                cases ht
                exact ⟨_, rfl, rfl, h.keep [6, 7, 8, 11, 12, 57, 58, 59, 60], H.take 3⟩
            · rintro j a w ⟨hj, h, H⟩
              cases hj
              refine iteT ?_
              refine c_plain ?_
              refine sq_p h 2 tok trivial rfl fun a h => ?_
              refine sq_nil ?_
              cases ht
              exact ⟨_, rfl, h.keep [6, 7, 8, 11, 12, 57], H.take 3⟩
            · rintro a w ⟨hj, _⟩; cases hj
          · have ht := condF hc ht
            refine c_exit ?_
            cases ht
            exact ⟨_, rfl, rfl, h.keep [6, 7, 8, 11, 12, 57], H.take 3⟩
        · rintro j a w ⟨hj, h, H⟩
          cases hj
          refine iteT ?_
          refine c_seq ?_
          refine c_plain ?_
          obtain ⟨x55, e_x55, ht⟩ := bindS ht
          refine t_make (f := vU8) H h eok28 rfl rfl (by decide) rfl rfl rfl e_x55 rfl rfl rfl (fun _ _ _ => trivial) fun v54 w a H h => ?_
          refine sq_p h 1 tok trivial rfl fun a h => ?_
          refine sq_nil ?_
          refine c_seq ?_
          refine c_seq ?_
          refine c_plain ?_
          refine sq_r (v := .o (.v (.agg (vec vU32 z53).toArray))) h (.inr rfl) trivial rfl rfl rfl (r_loadA tok h rfl rfl rfl rfl rfl (H.at (i := 1) rfl) (vec_len _ _) vec_all) fun a h => ?_
          refine sq_p h 1 tok trivial rfl fun a h => ?_
          refine sq_nil ?_
          refine c_block ?_
          obtain ⟨z65, z66, el, ht⟩ := bindS2 ht
          refine c_loop (fun s => L15_5 F z20 z53 s.1 s.2) (fun s a w => ∃ v58 : Value, Fr 126 a [(6, .o (.v (.slice none 0 0))), (7, .o (.i (0 : Int))), (8, .o (.v (.pointer (some ⟨b3, 0, none⟩)))), (15, .o (.v v58)), (100, .o (.v (.agg (vec vU32 z53).toArray))), (101, .o (.i s.1))] ∧ HA w0 none1 none1 w [.blk b3 (vec vU32 z20) 39, .blk b21 (vec vU32 z53) 39, .blk b22 (vec2 vI (#v[(#v[(0 : Int), (4 : Int), (8 : Int), (12 : Int)] : Vector Int 4), (#v[(1 : Int), (5 : Int), (9 : Int), (13 : Int)] : Vector Int 4), (#v[(2 : Int), (6 : Int), (10 : Int), (14 : Int)] : Vector Int 4), (#v[(3 : Int), (7 : Int), (11 : Int), (15 : Int)] : Vector Int 4), (#v[(0 : Int), (5 : Int), (10 : Int), (15 : Int)] : Vector Int 4), (#v[(1 : Int), (6 : Int), (11 : Int), (12 : Int)] : Vector Int 4), (#v[(2 : Int), (7 : Int), (8 : Int), (13 : Int)] : Vector Int 4), (#v[(3 : Int), (4 : Int), (9 : Int), (14 : Int)] : Vector Int 4)] : Vector (Vector Int 4) 8)) 42, trow 5 vU8 v58 s.2]) (fun s e a w => e = Exit.exit 8 ∧ ∃ v58 : Value, Fr 126 a [(6, .o (.v (.slice none 0 0))), (7, .o (.i (0 : Int))), (8, .o (.v (.pointer (some ⟨b3, 0, none⟩)))), (15, .o (.v v58)), (100, .o (.v (.agg (vec vU32 z53).toArray))), (101, .o (.i s.1))] ∧ HA w0 none1 none1 w [.blk b3 (vec vU32 z20) 39, .blk b21 (vec vU32 z53) 39, .blk b22 (vec2 vI (#v[(#v[(0 : Int), (4 : Int), (8 : Int), (12 : Int)] : Vector Int 4), (#v[(1 : Int), (5 : Int), (9 : Int), (13 : Int)] : Vector Int 4), (#v[(2 : Int), (6 : Int), (10 : Int), (14 : Int)] : Vector Int 4), (#v[(3 : Int), (7 : Int), (11 : Int), (15 : Int)] : Vector Int 4), (#v[(0 : Int), (5 : Int), (10 : Int), (15 : Int)] : Vector Int 4), (#v[(1 : Int), (6 : Int), (11 : Int), (12 : Int)] : Vector Int 4), (#v[(2 : Int), (7 : Int), (8 : Int), (13 : Int)] : Vector Int 4), (#v[(3 : Int), (4 : Int), (9 : Int), (14 : Int)] : Vector Int 4)] : Vector (Vector Int 4) 8)) 42, trow 5 vU8 v58 s.2]) ?_ (x := (z65, z66)) ?_ ?_ F ((0 : Int), x55) a w ⟨v54, h.keep [6, 7, 8, 15, 100, 101], H.take 4⟩ el
          · rintro ⟨y56, y57⟩ a w ⟨v58, h, H⟩ r ht
            change L15_5 F z20 z53 y56 y57 = some r at ht
            unfold L15_5 at ht
            dsimp only at h H
            refine c_seq ?_
            refine c_plain ?_
            refine sq_p h 1 tok trivial rfl fun a h => ?_
            refine sq_nil ?_
            refine c_seq ?_
            refine c_cond h rfl rfl (fun hc => ?_) (fun hc => ?_)
            · have ht := condT hc ht
              refine c_skip ?_
              refine c_seq ?_
              refine c_block ?_
              refine c_seq ?_
              refine c_plain ?_
              refine sq_p h 1 tok trivial rfl fun a h => ?_
              obtain ⟨x59, e_x59, ht⟩ := bindS ht
              refine sq_v (v := .o (.u32 x59)) h trivial (j_index (f := vU32) tok h e_x59 rfl rfl rfl rfl rfl rfl rfl) rfl rfl rfl fun a h => ?_
              refine sq_p h 2 tok trivial rfl fun a h => ?_
              refine sq_nil ?_
              refine c_seq ?_
              refine c_plain ?_
              refine sq_p h 2 tok trivial rfl fun a h => ?_
              obtain ⟨j60, e_j60, ht⟩ := bindS ht
              refine sq_v (v := .o (.v (.pointer (some ⟨b3, (0 + j60 * 1), none⟩)))) h trivial (j_idxArr tok h e_j60 rfl rfl rfl rfl rfl) rfl rfl rfl fun a h => ?_
              obtain ⟨x61, e_x61, ht⟩ := bindS ht
              refine sq_r (v := .o (.u32 x61)) h (.inr rfl) trivial rfl rfl rfl (r_load tok h rfl rfl rfl rfl (H.at (i := 0) rfl) (vget_vec (f := vU32) (o := 0) e_x61)) fun a h => ?_
              refine sq_p h 2 tok trivial rfl fun a h => ?_
              refine sq_nil ?_
              refine c_plain ?_
              refine sq_p h 12 tok trivial rfl fun a h => ?_
              refine t_lit (f := vU8) H h ([((x59 + x61).toUInt8), ((shr32 (x59 + x61) ((UInt64.ofNat 8).toNat)).toUInt8), ((shr32 (x59 + x61) ((UInt64.ofNat 16).toNat)).toUInt8), ((shr32 (x59 + x61) ((UInt64.ofNat 24).toNat)).toUInt8)] : List UInt8) eok28 rfl rfl rfl (by decide) (fun _ => rfl) rfl rfl rfl (fun _ _ _ => trivial) fun v62 w a H h => ?_
              obtain ⟨x64, e_x64, ht⟩ := bindS ht
              refine t_append (i := 3) (f := vU8) H h eok28 (by decide) Try.underlying28 rfl rfl rfl rfl (Row.rd (H.at (i := 4) rfl)) (fun _ => rfl) e_x64 rfl rfl rfl (fun _ _ _ => trivial) fun v63 w a H h => ?_
              refine sq_p h 1 tok trivial rfl fun a h => ?_
              refine sq_nil ?_
              refine c_plain ?_
              refine sq_p h 2 tok trivial rfl fun a h => ?_
              refine sq_nil ?_
              cases ht
              exact ⟨_, rfl, v63, h.keep [6, 7, 8, 15, 100, 101], H.take 4⟩
            · have ht := condF hc ht
              refine c_exit ?_
              cases ht
              exact ⟨_, rfl, rfl, v58, h.keep [6, 7, 8, 15, 100, 101], H.take 4⟩
          · rintro j a w ⟨hj, v58, h, H⟩
            cases hj
            refine iteT ?_
            refine c_seq ?_
            refine c_plain ?_
            refine sq_p h 3 tok trivial rfl fun a h => ?_
            refine sq_nil ?_
            refine c_ret ?_
            cases ht
            exact fin_two h Try.results15 rfl rfl ⟨v58, rfl, H.pick [3]⟩
          · rintro a w ⟨hj, _⟩; cases hj
        · rintro a w ⟨hj, _⟩; cases hj
      · rintro a w ⟨hj, _⟩; cases hj
    · rintro a w ⟨hj, _⟩; cases hj
end Go.Proofs.Ytoglnkhchifeiaa
