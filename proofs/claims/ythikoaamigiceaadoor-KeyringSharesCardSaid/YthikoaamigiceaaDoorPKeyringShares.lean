/- The program's field of 256 elements, and that of its specification, are the field. Plain laws. -/
import Derived.Test.YthikoaamigiceaaDoorJ
namespace Go.Proofs.YthikoaamigiceaaDoor
open Go.Tw
set_option linter.unusedVariables false
set_option linter.unusedSimpArgs false

/- ## products -/
theorem gml_zero : ∀ (n : Nat) (a : UInt8), gml n a 0 = 0
  | 0, _ => rfl
  | n + 1, a => by
    have h : bit0 0 a = 0 := rfl
    have h2 : (0 : UInt8) >>> 1 = 0 := rfl
    simp only [gml, h, h2, gml_zero n, xx]
theorem shr1_lt {n : Nat} {b : UInt8} (h : b.toNat < 2 ^ (n + 1)) : (b >>> 1).toNat < 2 ^ n := by
  have : (b >>> 1).toNat = b.toNat / 2 := by
    simp [UInt8.toNat_shiftRight, Nat.shiftRight_eq_div_pow]
  rw [this, Nat.pow_succ] at *
  omega
theorem sh8 (b : UInt8) : shr8 b ((UInt64.ofNat 1).toNat) = b >>> 1 := allU (p := fun b => shr8 b ((UInt64.ofNat 1).toNat) = b >>> 1) (by decide +kernel) b
theorem dbl114 (F : Nat) (a : UInt8) : T114 F a = some (gd a) := allU (p := fun a => T114 F a = some (gd a)) (by intro i; revert i; show ∀ i : _root_.Fin 256, T114 0 (UInt8.ofNat i.val) = some (gd (UInt8.ofNat i.val)); decide +kernel) a
theorem t106_step (F : Nat) (a b c : UInt8) : L106_2 F a b c = bif b != 0 then some (.inl (gd a, b >>> 1, c ^^^ bit0 b a)) else some (.inr c) := by
  simp only [L106_2, L106_2c, dbl114, Option.bind_some, sh8]
  have e0 : (b != UInt8.ofNat 0) = (b != 0) := rfl
  have e1 : ((b &&& UInt8.ofNat 1) == UInt8.ofNat 1) = ((b &&& 1) == 1) := rfl
  rw [e0, e1]
  unfold bit0
  cases b != 0 <;> cases (b &&& 1) == 1 <;> simp [xz]
theorem loop106 (F : Nat) : ∀ (n fuel : Nat) (a b c : UInt8), b.toNat < 2 ^ n → n < fuel → iter (fun s : UInt8 × UInt8 × UInt8 => L106_2 F s.1 s.2.1 s.2.2) fuel (a, b, c) = some (c ^^^ gml n a b)
  | 0, fuel + 1, a, b, c, hb, hf => by
    have : b = 0 := by apply UInt8.toNat_inj.1; simp at hb; simpa using hb
    subst this
    show (L106_2 F a 0 c).bind _ = _
    rw [t106_step]
    simp [gml, xz]
  | n + 1, fuel + 1, a, b, c, hb, hf => by
    show (L106_2 F a b c).bind _ = _
    rw [t106_step]
    cases h0 : b != 0 with
    | false =>
      have : b = 0 := by simpa using h0
      subst this
      simp only [cond_false, Option.bind_some, gml_zero, xz]
    | true =>
      simp only [cond_true, Option.bind_some]
      rw [loop106 F n fuel (gd a) (b >>> 1) (c ^^^ bit0 b a) (shr1_lt hb) (by omega)]
      simp only [gml, UInt8.xor_assoc]
theorem mul106 {F : Nat} (hF : 20 < F) (a b : UInt8) : T106 F a b = some (gm a b) := by
  have h := loop106 F 8 F a b 0 (by have := b.toNat_lt; simpa using this) (by omega)
  have h : iter (fun s : UInt8 × UInt8 × UInt8 => L106_2 F s.1 s.2.1 s.2.2) F (a, b, UInt8.ofNat 0) = some ((0 : UInt8) ^^^ gml 8 a b) := h
  simp only [T106, T106c, h, Option.bind_some, zx]
  rfl
theorem bit_mod (b : UInt8) : ((b % UInt8.ofNat 2) == UInt8.ofNat 1) = ((b &&& 1) == 1) := allU (p := fun b => ((b % UInt8.ofNat 2) == UInt8.ofNat 1) = ((b &&& 1) == 1)) (by decide +kernel) b
theorem div2 (b : UInt8) : b / UInt8.ofNat 2 = b >>> 1 := allU (p := fun b => b / UInt8.ofNat 2 = b >>> 1) (by decide +kernel) b
theorem gd81 (a : UInt8) : (bif decide (UInt8.ofNat 128 ≤ a) then (shl8 a ((UInt64.ofNat 1).toNat)) ^^^ UInt8.ofNat 29 else shl8 a ((UInt64.ofNat 1).toNat)) = gd a :=
  allU (p := fun a => (bif decide (UInt8.ofNat 128 ≤ a) then (shl8 a ((UInt64.ofNat 1).toNat)) ^^^ UInt8.ofNat 29 else shl8 a ((UInt64.ofNat 1).toNat)) = gd a) (by decide +kernel) a
theorem t81_step (F : Nat) (a b c : UInt8) : L81_2 F a b c = bif b != 0 then some (.inl (gd a, b >>> 1, c ^^^ bit0 b a)) else some (.inr c) := by
  have e0 : (b != UInt8.ofNat 0) = (b != 0) := rfl
  simp only [L81_2, L81_2c, e0, bit_mod, div2, ← gd81 a]
  unfold bit0
  cases b != 0 <;> cases (b &&& 1) == 1 <;> cases decide (UInt8.ofNat 128 ≤ a) <;> simp [xz]
theorem mul81 {F : Nat} (hF : 20 < F) (a b : UInt8) : T81 F a b = some (gm a b) := by
  have e : (fun s : UInt8 × UInt8 × UInt8 => L81_2 F s.1 s.2.1 s.2.2) = (fun s : UInt8 × UInt8 × UInt8 => L106_2 F s.1 s.2.1 s.2.2) := by
    funext s; rw [t81_step, t106_step]
  have h := loop106 F 8 F a b 0 (by have := b.toNat_lt; simpa using this) (by omega)
  have h : iter (fun s : UInt8 × UInt8 × UInt8 => L106_2 F s.1 s.2.1 s.2.2) F (a, b, UInt8.ofNat 0) = some ((0 : UInt8) ^^^ gml 8 a b) := h
  simp only [T81, T81c, e, h, Option.bind_some, zx]
  rfl
/- ## powers -/
def gpow (x : UInt8) : Nat → UInt8
  | 0 => 1
  | n + 1 => gm (gpow x n) x
theorem loop82 (F : Nat) (hF : 20 < F) (x : UInt8) : ∀ (n k fuel : Nat), n < fuel → n < 1000 → iter (fun s : Int × UInt8 => L82_2 F x s.1 s.2) fuel (((n : Nat) : Int), gpow x k) = some (gpow x (k + n))
  | 0, k, fuel + 1, hf, _ => by
    have h : ¬ ((0 : Int) < ((0 : Nat) : Int)) := by omega
    simp only [iter, L82_2, L82_2c, h, decide_false, cond_false, Option.bind_some]; rfl
  | n + 1, k, fuel + 1, hf, hn => by
    have h : ((0 : Int) < ((n + 1 : Nat) : Int)) := by omega
    have hw : w64 (((n + 1 : Nat) : Int) - 1) = ((n : Nat) : Int) := by rw [w64_in (by omega) (by omega)]; omega
    have hs : L82_2 F x ((n + 1 : Nat) : Int) (gpow x k) = some (.inl (((n : Nat) : Int), gpow x (k + 1))) := by
      simp only [L82_2, L82_2c, h, decide_true, cond_true, mul81 hF, Option.bind_some, hw, gpow]
    show (L82_2 F x _ _).bind _ = _
    rw [hs]
    simp only [Option.bind_some]
    rw [loop82 F hF x n (k + 1) fuel (by omega) (by omega)]
    congr 2; omega
theorem pow82 {F : Nat} (hF : 300 < F) {x : UInt8} (hx : x ≠ 0) {n : Nat} (hn : n < 255) : T82 F x ((n : Nat) : Int) = some (gpow x n) := by
  have h0 : (x == UInt8.ofNat 0) = false := by simpa using hx
  have e1 : Int.tmod ((n : Nat) : Int) 255 = ((n : Nat) : Int) := by rw [Int.tmod_eq_emod_of_nonneg (by omega)]; omega
  have e2 : w64 (((n : Nat) : Int) + 255) = ((n : Nat) : Int) + 255 := w64_in (by omega) (by omega)
  have e3 : Int.tmod (((n : Nat) : Int) + 255) 255 = ((n : Nat) : Int) := by rw [Int.tmod_eq_emod_of_nonneg (by omega)]; omega
  have h := loop82 F (by omega) x n 0 F (by omega) (by omega)
  have h : iter (fun s : Int × UInt8 => L82_2 F x s.1 s.2) F (((n : Nat) : Int), UInt8.ofNat 1) = some (gpow x (0 + n)) := h
  simp only [T82, T82c, h0, cond_false, e1, e2, e3, h, Option.bind_some, Nat.zero_add]
/- ## tables of one factor -/
theorem inbN {n i : Nat} (h : i < n) : inb n ((i : Nat) : Int) = some i := inb_nat h
theorem ofI8 {i : Nat} (h : i < 16) : UInt8.ofInt ((i : Nat) : Int) = UInt8.ofNat i ∧ UInt8.ofInt (w64 (((i : Nat) : Int) * 2 ^ min ((UInt64.ofNat 4).toNat) 64)) = UInt8.ofNat (16 * i) := by
  have : ∀ i : _root_.Fin 16, UInt8.ofInt ((i.val : Nat) : Int) = UInt8.ofNat i.val ∧ UInt8.ofInt (w64 (((i.val : Nat) : Int) * 2 ^ min ((UInt64.ofNat 4).toNat) 64)) = UInt8.ofNat (16 * i.val) := by decide +kernel
  exact this ⟨i, h⟩
theorem tab109 {F : Nat} (hF : 50 < F) (c : UInt8) : ∃ u v : Vector UInt8 16, T109 F c = some (u, v) ∧ ∀ (i : Nat) (h : i < 16), u[i] = gm c (UInt8.ofNat i) ∧ v[i] = gm c (UInt8.ofNat (16 * i)) := by
  obtain ⟨r, h1, h2⟩ := iter1 (f := fun s : Int × Vector UInt8 16 × Vector UInt8 16 => L109_2 F c s.1 s.2.1 s.2.2)
    (fun s => ∃ n : Nat, n ≤ 16 ∧ s.1 = n ∧ ∀ (i : Nat) (h : i < 16), i < n → s.2.1[i] = gm c (UInt8.ofNat i) ∧ s.2.2[i] = gm c (UInt8.ofNat (16 * i)))
    (fun r => ∀ (i : Nat) (h : i < 16), r.1[i] = gm c (UInt8.ofNat i) ∧ r.2[i] = gm c (UInt8.ofNat (16 * i)))
    (fun s => (16 - s.1).toNat) (fun s ⟨n, hn, hs, hr⟩ => by
      obtain ⟨s1, s2, s3⟩ := s
      simp only at hs hr
      subst hs
      rcases Nat.lt_or_ge n 16 with hlt | hge
      · left
        have h : ((n : Nat) : Int) < 16 := by omega
        have hw : w64 (((n : Nat) : Int) + 1) = ((n + 1 : Nat) : Int) := by rw [w64_in (by omega) (by omega)]; omega
        obtain ⟨o1, o2⟩ := ofI8 hlt
        refine ⟨_, by simp only [L109_2, L109_2c, h, decide_true, cond_true, o1, o2, mul106 (show 20 < F by omega), Option.bind_some, inbN hlt, hw]; rfl, ⟨n + 1, by omega, rfl, fun i hi hin => ?_⟩, by simp only; omega⟩
        simp only [Vector.getElem_setIfInBounds]
        by_cases hin2 : n = i
        · subst hin2; simp
        · simp only [hin2, if_false]; exact hr i hi (by omega)
      · right
        have : n = 16 := by omega
        subst this
        have h : ¬ (((16 : Nat) : Int) < 16) := by omega
        exact ⟨_, by simp only [L109_2, L109_2c, h, decide_false, cond_false]; rfl, fun i hi => hr i hi hi⟩)
    F ((0 : Int), (Vector.replicate 16 (0 : UInt8)), (Vector.replicate 16 (0 : UInt8))) ⟨0, by omega, rfl, fun i hi h => by omega⟩ (by simp; omega)
  exact ⟨r.1, r.2, by simp only [T109, T109c, h1, Option.bind_some], h2⟩
theorem split4 (b : UInt8) : b = UInt8.ofNat (b &&& 15).toNat ^^^ UInt8.ofNat (16 * (shr8 b ((UInt64.ofNat 4).toNat)).toNat) ∧ (b &&& UInt8.ofNat 15).toNat < 16 ∧ (shr8 b ((UInt64.ofNat 4).toNat)).toNat < 16 :=
  allU (p := fun b => b = UInt8.ofNat (b &&& 15).toNat ^^^ UInt8.ofNat (16 * (shr8 b ((UInt64.ofNat 4).toNat)).toNat) ∧ (b &&& UInt8.ofNat 15).toNat < 16 ∧ (shr8 b ((UInt64.ofNat 4).toNat)).toNat < 16) (by decide +kernel) b
theorem by116 (F : Nat) {c b : UInt8} {u v : Vector UInt8 16} (h : ∀ (i : Nat) (h : i < 16), u[i] = gm c (UInt8.ofNat i) ∧ v[i] = gm c (UInt8.ofNat (16 * i))) : T116 F b u v = some (gm c b) := by
  obtain ⟨h1, h2, h3⟩ := split4 b
  simp only [T116, T116c, vix_nat h2, vix_nat h3, Option.bind_some, (h _ h2).1, (h _ h3).2, ← gm_right]
  congr 2
  exact h1.symm
end Go.Proofs.YthikoaamigiceaaDoor
/- KeyringClass: the plain law; and the example that every statement of the chapter asks first. -/
namespace Go.Proofs.YthikoaamigiceaaDoor
open Go.Tw
set_option linter.unusedVariables false
set_option linter.unusedSimpArgs false

end Go.Proofs.YthikoaamigiceaaDoor
/- The example that every statement of the chapter asks first; KeyringClass. -/
namespace Go.Proofs.YthikoaamigiceaaDoor
open Go.Tw
end Go.Proofs.YthikoaamigiceaaDoor
/- KeyringShares: shares by Horner's rule, and by powers. Plain laws. -/
namespace Go.Proofs.YthikoaamigiceaaDoor
open Go.Tw
set_option linter.unusedVariables false
set_option linter.unusedSimpArgs false

theorem ixU {l : List UInt8} {i : Nat} (h : i < l.length) : ix l ((i : Nat) : Int) = some l[i] := ix_nat h
theorem ixG {α : Type} {l : List α} {i : Nat} (h : i < l.length) : ix l ((i : Nat) : Int) = some l[i] := by
  unfold ix; rw [if_pos (by omega)]; simp only [Int.toNat_natCast]; exact List.getElem?_eq_getElem h
theorem w64s {n : Nat} (h : n < 1000000000) : w64 (((n : Nat) : Int) + 1) = ((n + 1 : Nat) : Int) := by rw [w64_in (by omega) (by omega)]; omega

/-- A list whose places are set one after the other. -/
theorem fill_loop {α : Type} {N : Nat} {f : Int × List α → Option ((Int × List α) ⊕ List α)} {g : Nat → α → α} (hN : N < 1000000)
    (hs : ∀ (n : Nat) (l : List α) (h : n < l.length), l.length = N → f (((n : Nat) : Int), l) = some (.inl (((n + 1 : Nat) : Int), l.set n (g n l[n])))) (he : ∀ l : List α, l.length = N → f (((N : Nat) : Int), l) = some (.inr l)) :
    ∀ (m n fuel : Nat) (l : List α), n + m = N → l.length = N → m < fuel → ∃ r, iter f fuel (((n : Nat) : Int), l) = some r ∧ r.length = N ∧ (∀ i (h1 : i < r.length) (h2 : i < l.length), i < n → r[i] = l[i]) ∧ ∀ i (h1 : i < r.length) (h2 : i < l.length), n ≤ i → r[i] = g i l[i]
  | 0, n, fuel + 1, l, hn, hl, hf => by
    have : n = N := by omega
    subst this
    exact ⟨l, by simp only [iter, he l hl, Option.bind_some], hl, fun _ _ _ _ => rfl, fun i h1 h2 h3 => by omega⟩
  | m + 1, n, fuel + 1, l, hn, hl, hf => by
    obtain ⟨r, r1, r2, r3, r4⟩ := fill_loop hN hs he m (n + 1) fuel (l.set n (g n (l[n]'(by omega)))) (by omega) (by simp [hl]) (by omega)
    refine ⟨r, ?_, r2, fun i h1 h2 h3 => ?_, fun i h1 h2 h3 => ?_⟩
    · simp only [iter, hs n l (by omega) hl, Option.bind_some]; exact r1
    · rw [r3 i h1 (by simp; omega) (by omega)]
      rw [List.getElem_set_ne (by omega)]
    · by_cases hi : i = n
      · subst hi
        rw [r3 i h1 (by simp; omega) (by omega), List.getElem_set_self]
      · rw [r4 i h1 (by simp; omega) (by omega), List.getElem_set_ne (by omega)]

/- ## scaling and adding -/
theorem scale95 {F : Nat} {l : List UInt8} (hF : 100 + l.length < F) (hl : l.length < 1000000) (c : UInt8) : T95 F l c = some (l.map (gm c)) := by
  obtain ⟨u, v, h1, h2⟩ := tab109 (F := F) (by omega) c
  have hm : gmake (0 : UInt8) (l.length : Int) (l.length : Int) = some (List.replicate l.length 0) := by
    unfold gmake; rw [if_pos (by omega)]; simp
  obtain ⟨r, r1, r2, _, r4⟩ := fill_loop (N := l.length) (f := fun s : Int × List UInt8 => L95_2 F l (l.length : Int) u v s.1 s.2) (g := fun i _ => gm c (l.getD i 0)) hl
    (fun n x hx hxl => by
      have h : ((n : Nat) : Int) < (l.length : Int) := by omega
      have hg : l.getD n 0 = l[n]'(by omega) := by simp [show n < l.length by omega]
      simp only [L95_2, L95_2c, h, decide_true, cond_true, ixU (show n < l.length by omega), Option.bind_some, by116 F h2, inb_nat hx, w64s (show n < 1000000000 by omega), hg])
    (fun x hx => by
      have h : ¬ ((l.length : Int) < (l.length : Int)) := by omega
      simp only [L95_2, L95_2c, h, decide_false, cond_false])
    l.length 0 F (List.replicate l.length 0) (by omega) (by simp) (by omega)
  have r1 : iter (fun s : Int × List UInt8 => L95_2 F l (l.length : Int) u v s.1 s.2) F ((0 : Int), List.replicate l.length 0) = some r := r1
  simp only [T95, T95c, h1, hm, r1, Option.bind_some]
  congr 1
  apply List.ext_getElem
  · simp [r2]
  · intro i h3 h4
    rw [r4 i h3 (by simp; omega) (by omega)]
    simp [show i < l.length by omega]

theorem muladd79 {F : Nat} {l v : List UInt8} (hF : 100 + l.length < F) (hl : l.length < 1000000) (hv : v.length = l.length) (c : UInt8) : T79 F l v c = some (0, List.zipWith (fun a b => a ^^^ gm c b) l v) := by
  have hne : ((l.length : Int) != (v.length : Int)) = false := by simp [hv]
  have hsc := scale95 (F := F) (l := v) (by omega) (by omega) c
  obtain ⟨r, r1, r2, _, r4⟩ := fill_loop (N := l.length) (f := fun s : Int × List UInt8 => L79_2 F l (l.length : Int) s.1 s.2) (g := fun i x => x ^^^ l.getD i 0) hl
    (fun n x hx hxl => by
      have h : ((n : Nat) : Int) < (l.length : Int) := by omega
      have hg : l.getD n 0 = l[n]'(by omega) := by simp [show n < l.length by omega]
      simp only [L79_2, L79_2c, h, decide_true, cond_true, ixU (show n < l.length by omega), Option.bind_some, inb_nat hx, List.getElem?_eq_getElem hx, w64s (show n < 1000000000 by omega), hg])
    (fun x hx => by
      have h : ¬ ((l.length : Int) < (l.length : Int)) := by omega
      simp only [L79_2, L79_2c, h, decide_false, cond_false])
    l.length 0 F (v.map (gm c)) (by omega) (by simp [hv]) (by omega)
  have r1 : iter (fun s : Int × List UInt8 => L79_2 F l (l.length : Int) s.1 s.2) F ((0 : Int), v.map (gm c)) = some r := r1
  simp only [T79, T79c, hne, cond_false, hsc, r1, Option.bind_some]
  congr 2
  apply List.ext_getElem
  · simp [r2, hv]
  · intro i h3 h4
    rw [r4 i h3 (by simp; omega) (by omega)]
    simp [show i < l.length by omega]
    exact UInt8.xor_comm _ _

/- ## Horner's rule -/
def horner (x : UInt8) (n : Nat) : List (List UInt8) → List UInt8
  | [] => List.replicate n 0
  | l :: ls => List.zipWith (fun a b => a ^^^ gm x b) l (horner x n ls)
theorem horner_len (x : UInt8) (n : Nat) : ∀ {ls : List (List UInt8)}, (∀ l ∈ ls, l.length = n) → (horner x n ls).length = n
  | [], _ => by simp [horner]
  | l :: ls, h => by simp [horner, horner_len x n (fun l hl => h l (List.mem_cons_of_mem _ hl)), h l (List.mem_cons_self ..)]
/-- From behind: what has been added up, and what comes. -/
def hornerV (x : UInt8) (v : List UInt8) : List (List UInt8) → List UInt8
  | [] => v
  | l :: ls => List.zipWith (fun a b => a ^^^ gm x b) l (hornerV x v ls)
theorem hornerV_snoc (x : UInt8) (v l : List UInt8) : ∀ ls : List (List UInt8), hornerV x v (ls ++ [l]) = hornerV x (List.zipWith (fun a b => a ^^^ gm x b) l v) ls
  | [] => rfl
  | y :: ls => by simp only [List.cons_append, hornerV, hornerV_snoc x v l ls]
theorem hornerV_eq (x : UInt8) (n : Nat) : ∀ ls, hornerV x (List.replicate n 0) ls = horner x n ls
  | [] => rfl
  | l :: ls => by simp only [hornerV, horner, hornerV_eq x n ls]

theorem backE_snoc (ls : List (List UInt8)) (l : List UInt8) : backE (ls ++ [l]) = ((ls.length : Int), l, ()) :: backE ls := by
  unfold backE
  apply List.ext_getElem
  · simp
  · intro i h1 h2
    simp only [List.length_map, List.length_range, List.length_append, List.length_singleton] at h1
    cases i with
    | zero => simp
    | succ i =>
      simp only [List.getElem_map, List.getElem_range, List.getElem_cons_succ, List.length_append, List.length_singleton, Prod.mk.injEq, and_true]
      refine ⟨by omega, ?_⟩
      have e : ls.length + 1 - 1 - (i + 1) = ls.length - 1 - i := by omega
      rw [e]
      simp [List.getD_eq_getElem?_getD, List.getElem?_append_left (show ls.length - 1 - i < ls.length by omega)]

theorem fold77 {F : Nat} {n : Nat} (hF : 100 + n < F) (hn : n < 1000000) (z : Int) : ∀ (k : Nat) (ls : List (List UInt8)) (v : List UInt8), ls.length = k → v.length = n → (∀ l ∈ ls, l.length = n) →
    rfold (fun (s : dens rB77_2 × tdens rU77_2) (e : dens rZ77_2) => L77_2 F s.2.1 s.2.2.2.1 e.2.1) (backE ls) (((), (), ()), (z, (), v, ())) = some (((), (), ()), (z, (), hornerV (UInt8.ofInt z) v ls, ()))
  | 0, ls, v, hk, hv, hl => by
    have : ls = [] := List.length_eq_zero_iff.1 hk
    subst this
    rfl
  | k + 1, ls, v, hk, hv, hl => by
    have hne : ls ≠ [] := by intro h; rw [h] at hk; cases hk
    obtain ⟨l0, l, rfl⟩ : ∃ l0 l, ls = l0 ++ [l] := ⟨ls.dropLast, ls.getLast hne, (List.dropLast_concat_getLast hne).symm⟩
    have hll : l.length = n := hl l (by simp)
    rw [backE_snoc]
    have hs : L77_2 F z v l = some (((), (), ()), (z, (), List.zipWith (fun a b => a ^^^ gm (UInt8.ofInt z) b) l v, ())) := by
      simp only [L77_2, muladd79 (F := F) (l := l) (v := v) (by omega) (by omega) (by omega) _, Option.bind_some]
    show (L77_2 F z v l).bind _ = _
    rw [hs, hornerV_snoc]
    exact fold77 hF hn z k l0 _ (by rw [List.length_append, List.length_singleton] at hk; omega) (by simp [hv, hll]) (fun l' h' => hl l' (by simp [h']))

theorem eval77 {F : Nat} {n : Nat} {s : List UInt8} {ls : List (List UInt8)} (hF : 100 + n < F) (hn : n < 1000000) (hk : ls.length < 1000000) (hs : s.length = n) (hl : ∀ l ∈ ls, l.length = n) (z : Int) : T77 F z (s :: ls) = some (horner (UInt8.ofInt z) n (s :: ls)) := by
  have h0 : ix (s :: ls) (0 : Int) = some s := rfl
  have hm : gmake (0 : UInt8) (s.length : Int) (s.length : Int) = some (List.replicate n 0) := by
    unfold gmake; rw [if_pos (by omega)]; simp [hs]
  have hb : okBack (s :: ls) = true := by simp [okBack]; omega
  have hf := fold77 (F := F) hF hn z (s :: ls).length (s :: ls) (List.replicate n 0) rfl (by simp) (fun l h => by
    rcases List.mem_cons.1 h with rfl | h
    · exact hs
    · exact hl l h)
  rw [hornerV_eq] at hf
  have hR : R77_2 F (((), ((), ())), (), (), ()) ((s :: ls), z, (), List.replicate n 0, ()) = some (((), (), ()), (z, (), horner (UInt8.ofInt z) n (s :: ls), ())) := by
    unfold R77_2
    simp only [hb, cond_true]
    exact hf
  simp only [T77, T77c, h0, hm, T78, T78c, Option.bind_some, hR]
end Go.Proofs.YthikoaamigiceaaDoor
/- KeyringShares: the plain law. -/
namespace Go.Proofs.YthikoaamigiceaaDoor
open Go.Tw
set_option linter.unusedVariables false
set_option linter.unusedSimpArgs false

/-- A list that grows by one in each round. -/
theorem app_loop {α : Type} {N c : Nat} {f : Int × List α → Option ((Int × List α) ⊕ List α)} {g : Nat → α}
    (hs : ∀ (n : Nat) (acc : List α), n < N → acc.length ≤ n + c → f (((n : Nat) : Int), acc) = some (.inl (((n + 1 : Nat) : Int), acc ++ [g n]))) (he : ∀ acc : List α, f (((N : Nat) : Int), acc) = some (.inr acc)) :
    ∀ (m n fuel : Nat) (acc : List α), n + m = N → acc.length ≤ n + c → m < fuel → iter f fuel (((n : Nat) : Int), acc) = some (acc ++ (List.range' n m).map g)
  | 0, n, fuel + 1, acc, hn, ha, hf => by
    have : n = N := by omega
    subst this
    simp only [iter, he acc, Option.bind_some, List.range'_zero, List.map_nil, List.append_nil]
  | m + 1, n, fuel + 1, acc, hn, ha, hf => by
    have ih := app_loop hs he m (n + 1) fuel (acc ++ [g n]) (by omega) (by simp; omega) (by omega)
    simp only [iter, hs n acc (by omega) ha, Option.bind_some]
    rw [ih, List.range'_succ, List.map_cons, List.append_assoc]
    rfl

/- ## sums of powers -/
def evs (x : UInt8) : Nat → List UInt8 → UInt8
  | _, [] => 0
  | k, p :: ps => gm p (gpow x k) ^^^ evs x (k + 1) ps
def hb (x : UInt8) : List UInt8 → UInt8
  | [] => 0
  | p :: ps => p ^^^ gm x (hb x ps)
theorem evs_eq (x : UInt8) : ∀ (ps : List UInt8) (k : Nat), evs x k ps = gm (hb x ps) (gpow x k)
  | [], k => by simp only [evs, hb, zero_gm]
  | p :: ps, k => by
    simp only [evs, hb, evs_eq x ps (k + 1), gm_left, gpow]
    congr 1
    rw [← gm_assoc, gm_comm (gm (hb x ps) (gpow x k)) x, ← gm_assoc]
theorem evs_hb (x : UInt8) (ps : List UInt8) : evs x 0 ps = hb x ps := by rw [evs_eq, gpow, gm_one]

theorem loop62 {F : Nat} (hF : 300 < F) {x : UInt8} (hx : x ≠ 0) (p : List UInt8) (hp : p.length < 255) : ∀ (m i fuel : Nat) (acc : UInt8), i + m = p.length → m < fuel → iter (fun s : UInt8 × Int => L62_2 F p x (p.length : Int) s.1 s.2) fuel (acc, ((i : Nat) : Int)) = some (acc ^^^ evs x i (p.drop i))
  | 0, i, fuel + 1, acc, hi, hf => by
    have h : ¬ ((i : Nat) : Int) < (p.length : Int) := by omega
    have hd : p.drop i = [] := List.drop_eq_nil_of_le (by omega)
    simp only [iter, L62_2, L62_2c, h, decide_false, cond_false, Option.bind_some, hd, evs, xz]
  | m + 1, i, fuel + 1, acc, hi, hf => by
    have h : ((i : Nat) : Int) < (p.length : Int) := by omega
    have hs : L62_2 F p x (p.length : Int) acc ((i : Nat) : Int) = some (.inl (acc ^^^ gm (p[i]'(by omega)) (gpow x i), ((i + 1 : Nat) : Int))) := by
      simp only [L62_2, L62_2c, h, decide_true, cond_true, ixU (show i < p.length by omega), pow82 hF hx (show i < 255 by omega), mul81 (show 20 < F by omega), Option.bind_some, w64s (show i < 1000000000 by omega)]
    show (L62_2 F p x (p.length : Int) acc ((i : Nat) : Int)).bind _ = _
    rw [hs]
    simp only [Option.bind_some]
    rw [loop62 hF hx p hp m (i + 1) fuel _ (by omega) (by omega), List.drop_eq_getElem_cons (show i < p.length by omega)]
    simp only [evs, UInt8.xor_assoc]
theorem eval62 {F : Nat} (hF : 300 < F) {x : UInt8} (hx : x ≠ 0) (p : List UInt8) (hp : p.length < 255) : T62 F p x = some (hb x p) := by
  have h := loop62 hF hx p hp p.length 0 F 0 (by omega) (by omega)
  have h : iter (fun s : UInt8 × Int => L62_2 F p x (p.length : Int) s.1 s.2) F (UInt8.ofNat 0, (0 : Int)) = some ((0 : UInt8) ^^^ evs x 0 (p.drop 0)) := h
  simp only [T62, T62c, h, Option.bind_some, zx, List.drop_zero, evs_hb]

theorem gapp1 {α : Type} {xs : List α} {y : α} (h : xs.length ≤ 1000000000) : gapp xs [y] = some (xs ++ [y]) := by unfold gapp; rw [if_pos (by simp; omega)]

/-- One byte of a share. -/
def byteOf (x : UInt8) (s : List UInt8) (ls : List (List UInt8)) (b : Nat) : UInt8 := hb x (s.getD b 0 :: ls.map fun l => l.getD b 0)
theorem horner_get (x : UInt8) (n : Nat) {i : Nat} (hi : i < n) : ∀ {ls : List (List UInt8)}, (∀ l ∈ ls, l.length = n) → (horner x n ls)[i]? = some (hb x (ls.map fun l => l.getD i 0))
  | [], _ => by simp [horner, hb, hi]
  | l :: ls, h => by
    have ih := horner_get x n hi (ls := ls) (fun l hl => h l (List.mem_cons_of_mem _ hl))
    have hl := h l (List.mem_cons_self ..)
    simp only [horner, List.getElem?_zipWith, ih, List.map_cons, hb]
    simp [show i < l.length by omega]
theorem horner_range (x : UInt8) {n : Nat} {s : List UInt8} {ls : List (List UInt8)} (hs : s.length = n) (hl : ∀ l ∈ ls, l.length = n) : horner x n (s :: ls) = (List.range' 0 n).map (byteOf x s ls) := by
  have hall : ∀ l ∈ s :: ls, l.length = n := fun l h => by
    rcases List.mem_cons.1 h with rfl | h
    · exact hs
    · exact hl l h
  apply List.ext_getElem?
  intro i
  by_cases hi : i < n
  · rw [horner_get x n hi hall]
    simp [byteOf, hi]
  · rw [List.getElem?_eq_none (by rw [horner_len x n hall]; omega), List.getElem?_eq_none (by simp; omega)]

theorem col30 {F : Nat} {ls : List (List UInt8)} (hF : ls.length < F) (hls : ls.length < 1000) {n b : Nat} (hb : b < n) (hl : ∀ l ∈ ls, l.length = n) (y : UInt8) : iter (fun s : Int × List UInt8 => L30_5 F ((b : Nat) : Int) ls (ls.length : Int) s.1 s.2) F ((0 : Int), [y]) = some (y :: ls.map fun l => l.getD b 0) := by
  have h := app_loop (N := ls.length) (c := 1) (f := fun s : Int × List UInt8 => L30_5 F ((b : Nat) : Int) ls (ls.length : Int) s.1 s.2) (g := fun i => (ls.getD i []).getD b 0)
    (fun i acc hi ha => by
      have h : ((i : Nat) : Int) < (ls.length : Int) := by omega
      have hm := hl _ (List.getElem_mem hi)
      have hg : (ls.getD i []).getD b 0 = (ls[i])[b]'(by omega) := by
        simp [show i < ls.length by omega, show b < (ls[i]).length by omega]
      simp only [L30_5, L30_5c, h, decide_true, cond_true, ixG hi, ixU (show b < (ls[i]).length by omega), Option.bind_some, gapp1 (xs := acc) (y := (ls[i])[b]'(by omega)) (by omega), w64s (show i < 1000000000 by omega), hg])
    (fun acc => by
      have h : ¬ ((ls.length : Int) < (ls.length : Int)) := by omega
      simp only [L30_5, L30_5c, h, decide_false, cond_false])
    ls.length 0 F [y] (by omega) (by simp) hF
  have h : iter (fun s : Int × List UInt8 => L30_5 F ((b : Nat) : Int) ls (ls.length : Int) s.1 s.2) F ((0 : Int), [y]) = some ([y] ++ (List.range' 0 ls.length).map fun i => (ls.getD i []).getD b 0) := h
  rw [h]
  congr 1
  simp only [List.singleton_append, List.cons.injEq, true_and]
  apply List.ext_getElem
  · simp
  · intro i h1 h2
    simp only [List.length_map, List.length_range'] at h1
    simp [h1]

theorem share30 {F : Nat} {s : List UInt8} {ls : List (List UInt8)} (hF : 400 + s.length + ls.length < F) (hs : s.length < 1000000) (hls : ls.length < 200) (hl : ∀ l ∈ ls, l.length = s.length) {z : Int} (hz : UInt8.ofInt z ≠ 0) : T30 F s ls z = some (horner (UInt8.ofInt z) s.length (s :: ls)) := by
  have h := app_loop (N := s.length) (c := 0) (f := fun t : Int × List UInt8 => L30_4 F s ls z (s.length : Int) t.1 t.2) (g := byteOf (UInt8.ofInt z) s ls)
    (fun i acc hi ha => by
      have h : ((i : Nat) : Int) < (s.length : Int) := by omega
      have hg : s.getD i 0 = s[i] := by simp [hi]
      have hc := col30 (F := F) (ls := ls) (by omega) (by omega) hi hl (s[i])
      have he := eval62 (F := F) (by omega) hz (s[i] :: ls.map fun l => l.getD i 0) (by simp; omega)
      simp only [L30_4, L30_4c, h, decide_true, cond_true, ixU hi, Option.bind_some, hc, he, gapp1 (xs := acc) (y := hb (UInt8.ofInt z) (s[i] :: ls.map fun l => l.getD i 0)) (by omega), w64s (show i < 1000000000 by omega), byteOf, hg])
    (fun acc => by
      have h : ¬ ((s.length : Int) < (s.length : Int)) := by omega
      simp only [L30_4, L30_4c, h, decide_false, cond_false])
    s.length 0 F [] (by omega) (by simp) (by omega)
  have h : iter (fun t : Int × List UInt8 => L30_4 F s ls z (s.length : Int) t.1 t.2) F ((0 : Int), []) = some ([] ++ (List.range' 0 s.length).map (byteOf (UInt8.ofInt z) s ls)) := h
  simp only [T30, T30c, h, Option.bind_some, List.nil_append]
  rw [horner_range _ rfl hl]

/- ## lists -/
theorem concat61 {F : Nat} {s : List UInt8} {ls : List (List UInt8)} (hF : 10 < F) (hl : ls.length < 900) : T61 F [[s], ls] = some (s :: ls) := by
  obtain ⟨m, rfl⟩ : ∃ m, F = m + 3 := ⟨F - 3, by omega⟩
  have i0 : ix [[s], ls] (0 : Int) = some [s] := rfl
  have i1 : ix [[s], ls] (1 : Int) = some ls := rfl
  have w1 : w64 ((0 : Int) + (([s] : List (List UInt8)).length : Int)) = 1 := rfl
  have w2 : w64 ((1 : Int) + (ls.length : Int)) = (ls.length : Int) + 1 := by rw [w64_in (by omega) (by omega)]; omega
  have w3 : w64 ((0 : Int) + 1) = 1 := rfl
  have w4 : w64 ((1 : Int) + 1) = 2 := rfl
  have c0 : decide ((0 : Int) < (([[s], ls] : List (List (List UInt8))).length : Int)) = true := rfl
  have c1 : decide ((1 : Int) < (([[s], ls] : List (List (List UInt8))).length : Int)) = true := rfl
  have c2 : decide ((2 : Int) < (([[s], ls] : List (List (List UInt8))).length : Int)) = false := rfl
  have n1 : ¬ ((1 : Int) < 0) := by decide
  have n2 : ¬ ((ls.length : Int) + 1 < 0) := by omega
  have hg : T80 (m + 3) ((ls.length : Int) + 1) = some [] := by
    have h1 : (0 : Int) ≤ (ls.length : Int) + 1 := by omega
    have h2 : (ls.length : Int) + 1 ≤ 1000 := by omega
    simp only [T80, TGrow, h1, h2, decide_true, Bool.and_self, cond_true]
  have g1 : gapp ([] : List (List UInt8)) [s] = some [s] := rfl
  have g2 : gapp ([s] : List (List UInt8)) ls = some (s :: ls) := by unfold gapp; rw [if_pos (by simp; omega)]; rfl
  simp only [T61, T61c, iter, L61_3, L61_3c, c0, c1, c2, cond_true, cond_false, i0, i1, Option.bind_some, w1, w2, w3, w4, n1, n2, decide_false, hg, L61_4, L61_4c, g1, g2]

theorem lists58 {F : Nat} {n : Nat} {ls : List (List UInt8)} (hF : ls.length < F) (hn : ls.length < 1000000) (hl : ∀ l ∈ ls, l.length = n) : T58 F ls ((n : Nat) : Int) = some (decide ((ls.length : Int) < 16)) := by
  have key : ∀ (m i fuel : Nat), i + m = ls.length → m < fuel → iter (fun s => L58_2 F ((n : Nat) : Int) ls (ls.length : Int) s) fuel ((i : Nat) : Int) = some (.inl ()) := by
    intro m
    induction m with
    | zero =>
      intro i fuel hi hf
      obtain ⟨fuel, rfl⟩ : ∃ k, fuel = k + 1 := ⟨fuel - 1, by omega⟩
      have h : ¬ ((i : Nat) : Int) < (ls.length : Int) := by omega
      simp only [iter, L58_2, L58_2c, h, decide_false, cond_false, Option.bind_some]
    | succ m ih =>
      intro i fuel hi hf
      obtain ⟨fuel, rfl⟩ : ∃ k, fuel = k + 1 := ⟨fuel - 1, by omega⟩
      have h : ((i : Nat) : Int) < (ls.length : Int) := by omega
      have hm := hl _ (List.getElem_mem (show i < ls.length by omega))
      have hne : (((ls[i]'(by omega)).length : Int) != ((n : Nat) : Int)) = false := by simp [hm]
      have hs : L58_2 F ((n : Nat) : Int) ls (ls.length : Int) ((i : Nat) : Int) = some (.inl ((i + 1 : Nat) : Int)) := by
        simp only [L58_2, L58_2c, h, decide_true, cond_true, ixG (show i < ls.length by omega), Option.bind_some, hne, cond_false, w64s (show i < 1000000000 by omega)]
      show (L58_2 F ((n : Nat) : Int) ls (ls.length : Int) ((i : Nat) : Int)).bind _ = _
      rw [hs]
      exact ih (i + 1) fuel (by omega) (by omega)
  have h := key ls.length 0 F (by omega) hF
  have h : iter (fun s => L58_2 F ((n : Nat) : Int) ls (ls.length : Int) s) F (0 : Int) = some (.inl ()) := h
  simp only [T58, T58c, h, Option.bind_some, elimS]

/-- Numbers from 1 to 255, none twice. -/
theorem xs59 {F : Nat} {xs : List Int} (hF : xs.length < F) (hn : xs.length ≤ 64) (hr : ∀ x ∈ xs, 1 ≤ x ∧ x ≤ 255) (hd : xs.Nodup) : T59 F xs = some true := by
  have hlen : ¬ ((64 : Int) < (xs.length : Int)) := by omega
  have key : ∀ (m i fuel : Nat) (v : Vector Bool 256), i + m = xs.length → m < fuel → (∀ (j : Nat) (h : j < 256), v[j] = true → ((j : Nat) : Int) ∈ xs.take i) → iter (fun s : Int × Vector Bool 256 => L59_2 F xs (xs.length : Int) s.1 s.2) fuel (((i : Nat) : Int), v) = some (.inl ()) := by
    intro m
    induction m with
    | zero =>
      intro i fuel v hi hf _
      obtain ⟨fuel, rfl⟩ : ∃ k, fuel = k + 1 := ⟨fuel - 1, by omega⟩
      have h : ¬ ((i : Nat) : Int) < (xs.length : Int) := by omega
      simp only [iter, L59_2, L59_2c, h, decide_false, cond_false, Option.bind_some]
    | succ m ih =>
      intro i fuel v hi hf hv
      obtain ⟨fuel, rfl⟩ : ∃ k, fuel = k + 1 := ⟨fuel - 1, by omega⟩
      have h : ((i : Nat) : Int) < (xs.length : Int) := by omega
      have hil : i < xs.length := by omega
      obtain ⟨r1, r2⟩ := hr _ (List.getElem_mem hil)
      obtain ⟨x, hx⟩ : ∃ x : Nat, xs[i] = (x : Int) := ⟨(xs[i]).toNat, by omega⟩
      have hx256 : x < 256 := by omega
      have hval : T76 F ((x : Nat) : Int) = some true := by
        have a1 : (1 : Int) ≤ (x : Int) := by omega
        have a2 : (x : Int) ≤ 255 := by omega
        simp only [T76, T76c, a1, a2, decide_true, cond_true, decide_true]
      have hvx : v[x] = false := by
        cases hc : v[x] with
        | false => rfl
        | true =>
          have := hv x hx256 hc
          rw [← hx] at this
          obtain ⟨k, hk, hk2⟩ := List.mem_iff_getElem.1 this
          simp only [List.length_take] at hk
          rw [List.getElem_take] at hk2
          have := (List.getElem_inj hd).1 hk2
          omega
      have hs : L59_2 F xs (xs.length : Int) ((i : Nat) : Int) v = some (.inl (((i + 1 : Nat) : Int), v.setIfInBounds x true)) := by
        simp only [L59_2, L59_2c, h, decide_true, cond_true, ixG hil, hx, hval, Option.bind_some, Bool.not_true, cond_false, inb_nat hx256, vat_nat hx256, hvx, w64s (show i < 1000000000 by omega)]
      show (L59_2 F xs (xs.length : Int) ((i : Nat) : Int) v).bind _ = _
      rw [hs]
      refine ih (i + 1) fuel _ (by omega) (by omega) (fun j hj hjv => ?_)
      rw [List.take_add_one, List.getElem?_eq_getElem hil]
      simp only [Option.toList_some, List.mem_append, List.mem_singleton]
      rw [Vector.getElem_setIfInBounds] at hjv
      by_cases hxj : x = j
      · right; rw [hx, hxj]
      · left; simp only [hxj, if_false] at hjv; exact hv j hj hjv
  have h := key xs.length 0 F (Vector.replicate 256 false) (by omega) hF (fun j hj hjv => by simp at hjv)
  have h : iter (fun s : Int × Vector Bool 256 => L59_2 F xs (xs.length : Int) s.1 s.2) F ((0 : Int), Vector.replicate 256 false) = some (.inl ()) := h
  simp only [T59, T59c, hlen, decide_false, cond_false, h, Option.bind_some, elimS]

theorem split28 {F : Nat} {s : List UInt8} {ls : List (List UInt8)} {xs : List Int} (hF : 1000 < F) (hs : s.length = 32) (hls : ls.length < 16) (hl : ∀ l ∈ ls, l.length = 32) (hn : xs.length ≤ 64) (hr : ∀ x ∈ xs, 1 ≤ x ∧ x ≤ 255) (hd : xs.Nodup) :
    T28 F s ls xs = some (0, xs.map fun x => (x, horner (UInt8.ofInt x) 32 (s :: ls), ())) := by
  have h58 : T58 F ls (s.length : Int) = some true := by
    rw [hs, lists58 (F := F) (n := 32) (by omega) (by omega) hl]
    have : (ls.length : Int) < 16 := by omega
    simp [this]
  have hlen : ¬ ((1024 : Int) < (s.length : Int)) := by omega
  have hm : gmake ((0 : Int), ([] : List UInt8), ()) (0 : Int) (xs.length : Int) = some [] := by
    unfold gmake; rw [if_pos (by omega)]; rfl
  have h := app_loop (N := xs.length) (c := 0) (f := fun t : Int × List (Int × List UInt8 × Unit) => L28_2 F xs (xs.length : Int) (s :: ls) t.1 t.2) (g := fun i => (xs.getD i 0, horner (UInt8.ofInt (xs.getD i 0)) 32 (s :: ls), ()))
    (fun i acc hi ha => by
      have h : ((i : Nat) : Int) < (xs.length : Int) := by omega
      have hg : xs.getD i 0 = xs[i] := by simp [hi]
      have he := eval77 (F := F) (n := 32) (s := s) (ls := ls) (by omega) (by omega) (by omega) hs hl (xs[i])
      simp only [L28_2, L28_2c, h, decide_true, cond_true, ixG hi, Option.bind_some, he, gapp1 (xs := acc) (y := (xs[i], horner (UInt8.ofInt xs[i]) 32 (s :: ls), ())) (by omega), w64s (show i < 1000000000 by omega), hg])
    (fun acc => by
      have h : ¬ ((xs.length : Int) < (xs.length : Int)) := by omega
      simp only [L28_2, L28_2c, h, decide_false, cond_false])
    xs.length 0 F [] (by omega) (by simp) (by omega)
  have h : iter (fun t : Int × List (Int × List UInt8 × Unit) => L28_2 F xs (xs.length : Int) (s :: ls) t.1 t.2) F ((0 : Int), []) = some ([] ++ (List.range' 0 xs.length).map fun i => (xs.getD i 0, horner (UInt8.ofInt (xs.getD i 0)) 32 (s :: ls), ())) := h
  simp only [T28, T28c, h58, Option.bind_some, Bool.not_true, cond_false, xs59 (F := F) (by omega) hn hr hd, hlen, decide_false, concat61 (F := F) (s := s) (ls := ls) (by omega) (by omega), T60, T60c, hm, h, List.nil_append]
  congr 2
  apply List.ext_getElem
  · simp
  · intro i h1 h2
    simp only [List.length_map, List.length_range'] at h1
    simp [h1]
end Go.Proofs.YthikoaamigiceaaDoor
/- KeyringShares: the plain law, at last. -/
namespace Go.Proofs.YthikoaamigiceaaDoor
open Go.Tw
set_option linter.unusedVariables false
set_option linter.unusedSimpArgs false

theorem has26 {F : Nat} {l : List Int} (hF : l.length < F) (hn : l.length < 1000000) (d : Int) : T26 F l d = some (l.contains d) := by
  have key : ∀ (m i fuel : Nat), i + m = l.length → m < fuel → ∃ z, iter (fun s => L56_2 F l d (l.length : Int) s) fuel ((i : Nat) : Int) = some z ∧ ((∃ k : Nat, z = .inr (k : Int) ∧ (l.drop i).contains d = true) ∨ (z = .inl () ∧ (l.drop i).contains d = false)) := by
    intro m
    induction m with
    | zero =>
      intro i fuel hi hf
      obtain ⟨fuel, rfl⟩ : ∃ k, fuel = k + 1 := ⟨fuel - 1, by omega⟩
      have h : ¬ ((i : Nat) : Int) < (l.length : Int) := by omega
      have hd : l.drop i = [] := List.drop_eq_nil_of_le (by omega)
      exact ⟨.inl (), by simp only [iter, L56_2, L56_2c, h, decide_false, cond_false, Option.bind_some], .inr ⟨rfl, by rw [hd]; rfl⟩⟩
    | succ m ih =>
      intro i fuel hi hf
      obtain ⟨fuel, rfl⟩ : ∃ k, fuel = k + 1 := ⟨fuel - 1, by omega⟩
      have h : ((i : Nat) : Int) < (l.length : Int) := by omega
      have hil : i < l.length := by omega
      have hd : l.drop i = l[i] :: l.drop (i + 1) := List.drop_eq_getElem_cons hil
      cases he : d == l[i] with
      | true =>
        have hs : L56_2 F l d (l.length : Int) ((i : Nat) : Int) = some (.inr (.inr ((i : Nat) : Int))) := by
          simp only [L56_2, L56_2c, h, decide_true, cond_true, ixG hil, Option.bind_some, he]
        exact ⟨.inr ((i : Nat) : Int), by show (L56_2 F l d (l.length : Int) ((i : Nat) : Int)).bind _ = _; rw [hs]; rfl, .inl ⟨i, rfl, by rw [hd, List.contains_cons, he, Bool.true_or]⟩⟩
      | false =>
        have hs : L56_2 F l d (l.length : Int) ((i : Nat) : Int) = some (.inl ((i + 1 : Nat) : Int)) := by
          simp only [L56_2, L56_2c, h, decide_true, cond_true, ixG hil, Option.bind_some, he, cond_false, w64s (show i < 1000000000 by omega)]
        obtain ⟨z, z1, z2⟩ := ih (i + 1) fuel (by omega) (by omega)
        refine ⟨z, by show (L56_2 F l d (l.length : Int) ((i : Nat) : Int)).bind _ = _; rw [hs]; exact z1, ?_⟩
        rw [hd, List.contains_cons, he, Bool.false_or]
        exact z2
  obtain ⟨z, z1, z2⟩ := key l.length 0 F (by omega) hF
  have z1 : iter (fun s => L56_2 F l d (l.length : Int) s) F (0 : Int) = some z := z1
  rw [List.drop_zero] at z2
  rcases z2 with ⟨k, rfl, hc⟩ | ⟨rfl, hc⟩
  · have : (0 : Int) ≤ (k : Int) := by omega
    simp only [T26, T26c, T56, T56c, z1, Option.bind_some, elimS, this, decide_true, hc]
  · have : ¬ (0 : Int) ≤ -1 := by decide
    simp only [T26, T26c, T56, T56c, z1, Option.bind_some, elimS, this, decide_false, hc]

/-- The members from number i on are fine. -/
def okm (ms : List Int) : Nat → Nat → Bool
  | 0, _ => true
  | m + 1, i => !(decide (ms.getD i 0 < 0)) && (!(decide (12 ≤ ms.getD i 0)) && (!((ms.take i).contains (ms.getD i 0)) && okm ms m (i + 1)))

theorem gsl0 {α : Type} {l : List α} {i : Nat} (h : i ≤ l.length) : gsl l (0 : Int) ((i : Nat) : Int) = some (l.take i) := by
  unfold gsl; rw [if_pos (by omega)]; simp

theorem loop10 {F : Nat} {ms : List Int} (hF : ms.length < F) (hn : ms.length < 1000) : ∀ (m i fuel : Nat) (acc : List Int), i + m = ms.length → acc.length ≤ i → m < fuel → iter (fun s : Int × List Int => L10_3 F ms ms (ms.length : Int) s.1 s.2) fuel (((i : Nat) : Int), acc) = some (bif okm ms m i then .inl (acc ++ (ms.drop i).map (· + 1)) else .inr 1)
  | 0, i, fuel + 1, acc, hi, ha, hf => by
    have h : ¬ ((i : Nat) : Int) < (ms.length : Int) := by omega
    have hd : ms.drop i = [] := List.drop_eq_nil_of_le (by omega)
    simp only [iter, L10_3, L10_3c, h, decide_false, cond_false, Option.bind_some, okm, cond_true, hd, List.map_nil, List.append_nil]
  | m + 1, i, fuel + 1, acc, hi, ha, hf => by
    have h : ((i : Nat) : Int) < (ms.length : Int) := by omega
    have hil : i < ms.length := by omega
    have hg : ms.getD i 0 = ms[i] := by simp [hil]
    have hd : ms.drop i = ms[i] :: ms.drop (i + 1) := List.drop_eq_getElem_cons hil
    show (L10_3 F ms ms (ms.length : Int) ((i : Nat) : Int) acc).bind _ = _
    simp only [okm, hg]
    by_cases h1 : ms[i] < 0
    · simp only [L10_3, L10_3c, h, decide_true, cond_true, ixG hil, Option.bind_some, h1, Bool.not_true, Bool.false_and, cond_false]
    · by_cases h2 : 12 ≤ ms[i]
      · simp only [L10_3, L10_3c, h, decide_true, cond_true, ixG hil, Option.bind_some, h1, h2, decide_false, Bool.not_true, Bool.not_false, Bool.true_and, Bool.false_and, cond_false]
      · have hw : w64 (ms[i] + 1) = ms[i] + 1 := w64_in (by omega) (by omega)
        have hc := has26 (F := F) (l := ms.take i) (by simp; omega) (by simp; omega) (ms[i])
        cases hcc : (ms.take i).contains (ms[i]) with
        | true =>
          simp only [L10_3, L10_3c, h, decide_true, cond_true, ixG hil, Option.bind_some, h1, h2, decide_false, cond_false, gsl0 (show i ≤ ms.length by omega), hc, hcc, Bool.not_true, Bool.not_false, Bool.true_and, Bool.false_and]
        | false =>
          have hs : L10_3 F ms ms (ms.length : Int) ((i : Nat) : Int) acc = some (.inl (((i + 1 : Nat) : Int), acc ++ [ms[i] + 1])) := by
            simp only [L10_3, L10_3c, h, decide_true, cond_true, ixG hil, Option.bind_some, h1, h2, decide_false, cond_false, gsl0 (show i ≤ ms.length by omega), hc, hcc, hw, gapp1 (xs := acc) (y := ms[i] + 1) (by omega), w64s (show i < 1000000000 by omega)]
          rw [hs]
          simp only [Option.bind_some, h1, h2, decide_false, Bool.not_false, Bool.true_and]
          rw [loop10 hF hn m (i + 1) fuel _ (by omega) (by simp; omega) (by omega), hd]
          simp only [List.map_cons, List.append_assoc, List.singleton_append]

theorem in29 {F : Nat} {l : List Int} (hF : l.length < F) (hn : l.length < 1000) (d : Int) : iter (fun s => L29_4 F d l (l.length : Int) s) F (0 : Int) = some (bif l.contains d then .inr false else .inl ()) := by
  have key : ∀ (m i fuel : Nat), i + m = l.length → m < fuel → iter (fun s => L29_4 F d l (l.length : Int) s) fuel ((i : Nat) : Int) = some (bif (l.drop i).contains d then .inr false else .inl ()) := by
    intro m
    induction m with
    | zero =>
      intro i fuel hi hf
      obtain ⟨fuel, rfl⟩ : ∃ k, fuel = k + 1 := ⟨fuel - 1, by omega⟩
      have h : ¬ ((i : Nat) : Int) < (l.length : Int) := by omega
      have hd : l.drop i = [] := List.drop_eq_nil_of_le (by omega)
      simp only [iter, L29_4, L29_4c, h, decide_false, cond_false, Option.bind_some, hd, List.contains_nil]
    | succ m ih =>
      intro i fuel hi hf
      obtain ⟨fuel, rfl⟩ : ∃ k, fuel = k + 1 := ⟨fuel - 1, by omega⟩
      have h : ((i : Nat) : Int) < (l.length : Int) := by omega
      have hil : i < l.length := by omega
      have hd : l.drop i = l[i] :: l.drop (i + 1) := List.drop_eq_getElem_cons hil
      show (L29_4 F d l (l.length : Int) ((i : Nat) : Int)).bind _ = _
      rw [hd, List.contains_cons]
      cases he : d == l[i] with
      | true => simp only [L29_4, L29_4c, h, decide_true, cond_true, ixG hil, Option.bind_some, he, Bool.true_or]
      | false =>
        have hs : L29_4 F d l (l.length : Int) ((i : Nat) : Int) = some (.inl ((i + 1 : Nat) : Int)) := by
          simp only [L29_4, L29_4c, h, decide_true, cond_true, ixG hil, Option.bind_some, he, cond_false, w64s (show i < 1000000000 by omega)]
        rw [hs, Bool.false_or]
        exact ih (i + 1) fuel (by omega) (by omega)
  have := key l.length 0 F (by omega) hF
  rw [List.drop_zero] at this
  exact this

theorem loop29 {F : Nat} {ms : List Int} (hF : ms.length < F) (hn : ms.length < 1000) : ∀ (m i fuel : Nat), i + m = ms.length → m < fuel → iter (fun s => L29_3 F ms (0 : Int) (11 : Int) ms (ms.length : Int) s) fuel ((i : Nat) : Int) = some (bif okm ms m i then .inl () else .inr false)
  | 0, i, fuel + 1, hi, hf => by
    have h : ¬ ((i : Nat) : Int) < (ms.length : Int) := by omega
    simp only [iter, L29_3, L29_3c, h, decide_false, cond_false, Option.bind_some, okm, cond_true]
  | m + 1, i, fuel + 1, hi, hf => by
    have h : ((i : Nat) : Int) < (ms.length : Int) := by omega
    have hil : i < ms.length := by omega
    have hg : ms.getD i 0 = ms[i] := by simp [hil]
    show (L29_3 F ms (0 : Int) (11 : Int) ms (ms.length : Int) ((i : Nat) : Int)).bind _ = _
    simp only [okm, hg]
    by_cases h1 : ms[i] < 0
    · simp only [L29_3, L29_3c, h, decide_true, cond_true, ixG hil, Option.bind_some, h1, Bool.not_true, Bool.false_and, cond_false]
    · by_cases h2 : 11 < ms[i]
      · have h2' : 12 ≤ ms[i] := by omega
        simp only [L29_3, L29_3c, h, decide_true, cond_true, ixG hil, Option.bind_some, h1, h2, h2', decide_false, Bool.not_true, Bool.not_false, Bool.true_and, Bool.false_and, cond_false]
      · have h2' : ¬ 12 ≤ ms[i] := by omega
        have hc := in29 (F := F) (l := ms.take i) (by simp; omega) (by simp; omega) (ms[i])
        cases hcc : (ms.take i).contains (ms[i]) with
        | true =>
          rw [hcc] at hc
          simp only [cond_true] at hc
          simp only [L29_3, L29_3c, h, decide_true, cond_true, ixG hil, Option.bind_some, h1, h2, h2', decide_false, cond_false, gsl0 (show i ≤ ms.length by omega), hc, elimS, Bool.not_true, Bool.not_false, Bool.true_and, Bool.false_and]
        | false =>
          rw [hcc] at hc
          simp only [cond_false] at hc
          have hs : L29_3 F ms (0 : Int) (11 : Int) ms (ms.length : Int) ((i : Nat) : Int) = some (.inl ((i + 1 : Nat) : Int)) := by
            simp only [L29_3, L29_3c, h, decide_true, cond_true, ixG hil, Option.bind_some, h1, h2, decide_false, cond_false, gsl0 (show i ≤ ms.length by omega), hc, elimS, w64s (show i < 1000000000 by omega)]
          rw [hs]
          simp only [Option.bind_some, h1, h2', decide_false, Bool.not_false, Bool.true_and]
          exact loop29 hF hn m (i + 1) fuel (by omega) (by omega)

theorem okm_spec (ms : List Int) : ∀ (m i : Nat), i + m = ms.length → okm ms m i = true → (ms.take i).Nodup → (∀ x ∈ ms.take i, 0 ≤ x ∧ x ≤ 11) → ms.Nodup ∧ ∀ x ∈ ms, 0 ≤ x ∧ x ≤ 11
  | 0, i, hi, _, hn, hr => by
    rw [List.take_of_length_le (by omega)] at hn hr
    exact ⟨hn, hr⟩
  | m + 1, i, hi, h, hn, hr => by
    have hil : i < ms.length := by omega
    have hg : ms.getD i 0 = ms[i] := by simp [hil]
    simp only [okm, hg, Bool.and_eq_true, Bool.not_eq_true', decide_eq_false_iff_not] at h
    obtain ⟨h1, h2, h3, h4⟩ := h
    have ht : ms.take (i + 1) = ms.take i ++ [ms[i]] := by rw [List.take_add_one, List.getElem?_eq_getElem hil]; rfl
    have h3 : ms[i] ∉ ms.take i := by
      intro hm
      have : (ms.take i).contains (ms[i]) = true := by simpa using hm
      rw [this] at h3; cases h3
    refine okm_spec ms m (i + 1) (by omega) h4 ?_ ?_
    · rw [ht, List.nodup_append]
      refine ⟨hn, by simp, fun a ha b hb => ?_⟩
      simp only [List.mem_singleton] at hb
      subst hb
      intro e; subst e; exact h3 ha
    · intro x hx
      rw [ht] at hx
      rcases List.mem_append.1 hx with hx | hx
      · exact hr x hx
      · simp only [List.mem_singleton] at hx; subst hx; omega

/-- The lists of coefficients. -/
def parts (c : List UInt8) (k : Nat) : List (List UInt8) := (List.range' 0 k).map fun j => (c.drop (32 * j)).take 32
theorem parts_len {c : List UInt8} {k : Nat} (h : c.length = 32 * k) : ∀ l ∈ parts c k, l.length = 32 := by
  intro l hl
  obtain ⟨j, hj, rfl⟩ := List.mem_map.1 hl
  simp only [List.mem_range'_1] at hj
  simp; omega
theorem chunk_parts {c : List UInt8} {k : Nat} (h : c.length = 32 * k) : (chunkE 32 c).map (·.1) = parts c k := by
  have e : (c.length + 32 - 1) / 32 = k := by omega
  unfold chunkE parts
  rw [e, List.map_map, List.range_eq_range']
  apply List.map_congr_left
  intro j _
  simp only [Function.comp, Nat.mul_comm]
theorem fold10 {F : Nat} (m : List UInt8) (xs : List Int) : ∀ (els : List (dens rZ10_4)) (acc : List (List UInt8)), acc.length + els.length ≤ 1000000 → rfold (fun (s : dens rB10_4 × tdens rU10_4) (e : dens rZ10_4) => L10_4 F s.1.1 s.2.1 s.2.2.2.1 e.1) els ((m, (), (), ()), (xs, (), acc, ())) = some ((m, (), (), ()), (xs, (), acc ++ els.map (·.1), ()))
  | [], acc, _ => by simp [rfold]
  | e :: els, acc, h => by
    simp only [List.length_cons] at h
    have hs : L10_4 F m xs acc e.1 = some ((m, (), (), ()), (xs, (), acc ++ [e.1], ())) := by
      simp only [L10_4, gapp1 (xs := acc) (y := e.1) (by omega), Option.bind_some]
    show (L10_4 F m xs acc e.1).bind _ = _
    rw [hs]
    show rfold _ els _ = _
    rw [fold10 m xs els _ (by simp; omega)]
    simp
theorem lists11 {F : Nat} {c : List UInt8} {k : Nat} (hF : k < F) (hk : k < 1000) (h : c.length = 32 * k) : iter (fun s : Int × List (List UInt8) => L11_3 F ((k : Int) + 1) c s.1 s.2) F ((0 : Int), []) = some (parts c k) := by
  have hw0 : w64 ((k : Int) + 1 - 1) = (k : Int) := by rw [w64_in (by omega) (by omega)]; omega
  have h := app_loop (N := k) (c := 0) (f := fun s : Int × List (List UInt8) => L11_3 F ((k : Int) + 1) c s.1 s.2) (g := fun j => (c.drop (32 * j)).take 32)
    (fun i acc hi ha => by
      have h1 : ((i : Nat) : Int) < (k : Int) := by omega
      have w1 : w64 ((32 : Int) * ((i : Nat) : Int)) = ((32 * i : Nat) : Int) := by rw [w64_in (by omega) (by omega)]; omega
      have w2 : w64 (((32 * i : Nat) : Int) + 32) = ((32 * i + 32 : Nat) : Int) := by rw [w64_in (by omega) (by omega)]; omega
      have hg : gsl c ((32 * i : Nat) : Int) ((32 * i + 32 : Nat) : Int) = some ((c.drop (32 * i)).take 32) := by
        have := gsl_nat (l := c) (a := 32 * i) (b := 32 * i + 32) (by omega) (by omega)
        rw [this]; congr 2; omega
      simp only [L11_3, L11_3c, hw0, h1, decide_true, cond_true, w1, w2, hg, Option.bind_some, gapp1 (xs := acc) (y := (c.drop (32 * i)).take 32) (by omega), w64s (show i < 1000000000 by omega)])
    (fun acc => by
      have h1 : ¬ ((k : Int) < (k : Int)) := by omega
      simp only [L11_3, L11_3c, hw0, h1, decide_false, cond_false])
    k 0 F [] (by omega) (by simp) (by omega)
  exact h

theorem nz12 {d : Int} (h0 : 0 ≤ d) (h1 : d ≤ 11) : UInt8.ofInt (d + 1) ≠ 0 := by
  obtain ⟨n, rfl⟩ : ∃ n : Nat, d = n := ⟨d.toNat, by omega⟩
  have : ∀ i : _root_.Fin 12, UInt8.ofInt (((i.val : Nat) : Int) + 1) ≠ 0 := by decide
  exact this ⟨n, by omega⟩

def shareOf (m : List UInt8) (ls : List (List UInt8)) (d : Int) : Int × List UInt8 × Unit := (d + 1, horner (UInt8.ofInt (d + 1)) 32 (m :: ls), ())

theorem shares_eq {F : Nat} {m : List UInt8} {t : Int} {ms : List Int} {c : List UInt8} (hF : 3000 < F) (hms : ms.length ≤ 20) (hc : c.length ≤ 400) : ∃ r, T10 F m t ms c = some r ∧ T11 F m t ms c = some r ∧ r.2.length ≤ 20 := by
  by_cases h1 : m.length = 32
  · have q1 : ((m.length : Int) != 32) = false := by simp [h1]
    by_cases h2 : t < 1
    · exact ⟨(1, []), by simp only [T10, T10c, q1, cond_false, h2, decide_true, cond_true], by simp only [T11, T11c, q1, cond_false, h2, decide_true, cond_true], by simp⟩
    · by_cases h3 : 12 < t
      · exact ⟨(1, []), by simp only [T10, T10c, q1, cond_false, h2, h3, decide_true, decide_false, cond_true], by simp only [T11, T11c, q1, cond_false, h2, h3, decide_true, decide_false, cond_true], by simp⟩
      · have l10 := loop10 (F := F) (ms := ms) (by omega) (by omega) ms.length 0 F [] (by omega) (by simp) (by omega)
        have l10 : iter (fun s : Int × List Int => L10_3 F ms ms (ms.length : Int) s.1 s.2) F ((0 : Int), []) = _ := l10
        have l29 := loop29 (F := F) (ms := ms) (by omega) (by omega) ms.length 0 F (by omega) (by omega)
        have l29 : iter (fun s => L29_3 F ms (0 : Int) (11 : Int) ms (ms.length : Int) s) F (0 : Int) = _ := l29
        cases hok : okm ms ms.length 0 with
        | false =>
          rw [hok] at l10 l29
          simp only [cond_false] at l10 l29
          refine ⟨(1, []), ?_, ?_, by simp⟩
          · simp only [T10, T10c, q1, cond_false, h2, h3, decide_false, l10, Option.bind_some, elimS]
          · simp only [T11, T11c, q1, cond_false, h2, h3, decide_false, T29, T29c, l29, Option.bind_some, elimS, Bool.not_false, cond_true]
        | true =>
          rw [hok] at l10 l29
          simp only [cond_true, List.drop_zero, List.nil_append] at l10 l29
          obtain ⟨hnd, hrg⟩ := okm_spec ms ms.length 0 (by omega) hok (by simp) (by simp)
          by_cases h4 : (ms.length : Int) < t
          · exact ⟨(1, []), by simp only [T10, T10c, q1, cond_false, h2, h3, decide_false, l10, Option.bind_some, elimS, h4, decide_true, cond_true], by simp only [T11, T11c, q1, cond_false, h2, h3, decide_false, T29, T29c, l29, Option.bind_some, elimS, Bool.not_true, h4, decide_true, cond_true], by simp⟩
          · obtain ⟨k, rfl⟩ : ∃ k : Nat, t = (k : Int) + 1 := ⟨(t - 1).toNat, by omega⟩
            have w1 : w64 ((k : Int) + 1 - 1) = (k : Int) := by rw [w64_in (by omega) (by omega)]; omega
            have w2 : w64 ((32 : Int) * (k : Int)) = ((32 * k : Nat) : Int) := by rw [w64_in (by omega) (by omega)]; omega
            by_cases h5 : c.length = 32 * k
            · have q5 : ((c.length : Int) != ((32 * k : Nat) : Int)) = false := by simp [h5]
              have hpl := parts_len h5
              have hpn : (parts c k).length = k := by simp [parts]
              have hcl : (chunkE 32 c).length = k := by
                have := congrArg List.length (chunk_parts h5)
                simpa [hpn] using this
              have hoc : okChunk (32 : Int) c = true := by simp [okChunk]; omega
              have hf := fold10 (F := F) m (ms.map (· + 1)) (chunkE 32 c) [] (by simp [hcl]; omega)
              rw [chunk_parts h5, List.nil_append] at hf
              have hR : R10_4 F (((), ((), (), ())), m, (), (), ()) (c, (32 : Int), ms.map (· + 1), (), ()) = some ((m, (), (), ()), (ms.map (· + 1), (), parts c k, ())) := by
                unfold R10_4
                simp only [hoc, cond_true]
                exact hf
              have hsp := split28 (F := F) (s := m) (ls := parts c k) (xs := ms.map (· + 1)) (by omega) h1 (by omega) hpl (by simp; omega) (fun x hx => by
                obtain ⟨d, hd, rfl⟩ := List.mem_map.1 hx
                have := hrg d hd
                omega) (by
                rw [List.nodup_iff_pairwise_ne, List.pairwise_map]
                exact hnd.imp (fun {a b} h e => h (by omega)))
              have gm1 : gstr m = some m := by unfold gstr; rw [if_pos (by omega)]
              have ht27 : T27 F (32 : Int) = some () := rfl
              have l11 := lists11 (F := F) (c := c) (k := k) (by omega) (by omega) h5
              have l114 := app_loop (N := ms.length) (c := 0) (f := fun s : Int × List (Int × List UInt8 × Unit) => L11_4 F m ms (ms.length : Int) (parts c k) s.1 s.2) (g := fun i => shareOf m (parts c k) (ms.getD i 0))
                (fun i acc hi ha => by
                  have h : ((i : Nat) : Int) < (ms.length : Int) := by omega
                  have hg : ms.getD i 0 = ms[i] := by simp [hi]
                  obtain ⟨r1, r2⟩ := hrg _ (List.getElem_mem hi)
                  have hw : w64 (ms[i] + 1) = ms[i] + 1 := w64_in (by omega) (by omega)
                  have hsh := share30 (F := F) (s := m) (ls := parts c k) (by omega) (by omega) (by omega) (fun l hl => by rw [hpl l hl, h1]) (z := ms[i] + 1) (nz12 r1 r2)
                  rw [h1] at hsh
                  simp only [L11_4, L11_4c, h, decide_true, cond_true, ixG hi, gm1, Option.bind_some, hw, hsh, gapp1 (xs := acc) (y := (ms[i] + 1, horner (UInt8.ofInt (ms[i] + 1)) 32 (m :: parts c k), ())) (by omega), w64s (show i < 1000000000 by omega), shareOf, hg])
                (fun acc => by
                  have h : ¬ ((ms.length : Int) < (ms.length : Int)) := by omega
                  simp only [L11_4, L11_4c, h, decide_false, cond_false])
                ms.length 0 F [] (by omega) (by simp) (by omega)
              have l114 : iter (fun s : Int × List (Int × List UInt8 × Unit) => L11_4 F m ms (ms.length : Int) (parts c k) s.1 s.2) F ((0 : Int), []) = some ([] ++ (List.range' 0 ms.length).map fun i => shareOf m (parts c k) (ms.getD i 0)) := l114
              have hlist : ((List.range' 0 ms.length).map fun i => shareOf m (parts c k) (ms.getD i 0)) = ms.map (shareOf m (parts c k)) := by
                apply List.ext_getElem
                · simp
                · intro i h1 h2
                  simp only [List.length_map, List.length_range'] at h1
                  simp [h1]
              rw [hlist, List.nil_append] at l114
              refine ⟨(0, ms.map (shareOf m (parts c k))), ?_, ?_, by simpa using hms⟩
              · simp only [T10, T10c, q1, cond_false, h2, h3, decide_false, l10, Option.bind_some, elimS, h4, w1, w2, q5, ht27, hR, gm1, hsp, List.map_map]
                rfl
              · simp only [T11, T11c, q1, cond_false, h2, h3, decide_false, T29, T29c, l29, Option.bind_some, elimS, Bool.not_true, h4, w1, w2, q5, l11, l114]
            · have q5 : ((c.length : Int) != ((32 * k : Nat) : Int)) = true := by simp; omega
              exact ⟨(1, []), by simp only [T10, T10c, q1, cond_false, h2, h3, decide_false, l10, Option.bind_some, elimS, h4, w1, w2, q5, cond_true], by simp only [T11, T11c, q1, cond_false, h2, h3, decide_false, T29, T29c, l29, Option.bind_some, elimS, Bool.not_true, h4, w1, w2, q5, cond_true], by simp⟩
  · have q1 : ((m.length : Int) != 32) = true := by simp; omega
    exact ⟨(1, []), by simp only [T10, T10c, q1, cond_true], by simp only [T11, T11c, q1, cond_true], by simp⟩

theorem same3 {F : Nat} {l : List (Int × List UInt8 × Unit)} (hF : 30 < F) (hl : l.length ≤ 20) : iter (fun s => L3_2 F (l.length : Int) l l s) F (0 : Int) = some (.inl ()) := by
  have key : ∀ (m i fuel : Nat), i + m = l.length → m < fuel → iter (fun s => L3_2 F (l.length : Int) l l s) fuel ((i : Nat) : Int) = some (.inl ()) := by
    intro m
    induction m with
    | zero =>
      intro i fuel hi hf
      obtain ⟨fuel, rfl⟩ : ∃ k, fuel = k + 1 := ⟨fuel - 1, by omega⟩
      have h : ¬ ((i : Nat) : Int) < (l.length : Int) := by omega
      simp only [iter, L3_2, L3_2c, h, decide_false, cond_false, Option.bind_some]
    | succ m ih =>
      intro i fuel hi hf
      obtain ⟨fuel, rfl⟩ : ∃ k, fuel = k + 1 := ⟨fuel - 1, by omega⟩
      have h : ((i : Nat) : Int) < (l.length : Int) := by omega
      have hil : i < l.length := by omega
      have hs : L3_2 F (l.length : Int) l l ((i : Nat) : Int) = some (.inl ((i + 1 : Nat) : Int)) := by
        simp only [L3_2, L3_2c, h, decide_true, cond_true, inb_nat hil, List.getElem?_eq_getElem hil, Option.bind_some, bne_self_eq_false, cond_false, w64s (show i < 1000000000 by omega)]
      show (L3_2 F (l.length : Int) l l ((i : Nat) : Int)).bind _ = _
      rw [hs]
      exact ih (i + 1) fuel (by omega) (by omega)
  exact key l.length 0 F (by omega) (by omega)

theorem law3 {F : Nat} (hF : 3000 < F) (ha : T9 F = some true) (m : List UInt8) (t : Int) (ms : List Int) (c : List UInt8) : T3 F m t ms c = some true := by
  by_cases h1 : (100 : Int) < (m.length : Int)
  · simp only [T3, T3c, ha, Option.bind_some, Bool.not_true, cond_false, h1, decide_true, cond_true]
  · by_cases h2 : (20 : Int) < (ms.length : Int)
    · simp only [T3, T3c, ha, Option.bind_some, Bool.not_true, cond_false, h1, h2, decide_false, decide_true, cond_true]
    · by_cases h3 : (400 : Int) < (c.length : Int)
      · simp only [T3, T3c, ha, Option.bind_some, Bool.not_true, cond_false, h1, h2, h3, decide_false, decide_true, cond_true]
      · obtain ⟨r, r1, r2, r3⟩ := shares_eq (F := F) (m := m) (t := t) (ms := ms) (c := c) hF (by omega) (by omega)
        simp only [T3, T3c, ha, Option.bind_some, Bool.not_true, cond_false, h1, h2, h3, decide_false, r1, r2, bne_self_eq_false, same3 (F := F) (l := r.2) (by omega) r3, elimS]
theorem awake9c : T9 10000 = some true := by kernel_rfl
theorem plaw3 (m : List UInt8) (t : Int) (ms : Ty.den (.sl .i)) (c : List UInt8) (_ : m.length ≤ maxLen) (_ : -9223372036854775808 ≤ t ∧ t ≤ 9223372036854775807) (_ : tyW (.sl .i) ms) (_ : c.length ≤ maxLen) : T3 10000 m t ms c = some true := law3 (by omega) awake9c m t ms c
end Go.Proofs.YthikoaamigiceaaDoor
