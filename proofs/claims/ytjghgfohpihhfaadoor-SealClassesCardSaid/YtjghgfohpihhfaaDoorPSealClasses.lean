/- The classes of seal, and of its specification: plain laws. -/
import Derived.Test.YtjghgfohpihhfaaDoorH2
namespace Go.Proofs.YtjghgfohpihhfaaDoor
open Go.Tw
set_option linter.unusedVariables false

/-- The class of a number. -/
def cls (k : Nat) : Int := 2 ^ (k / 4) * (64 + 16 * (k % 4 : Nat))
/-- The first class from the k-th on that is at least need. -/
def fc (need : Int) : Nat → Nat → Int
  | 0, k => cls k
  | m + 1, k => bif decide (cls k < need) then fc need m (k + 1) else cls k

theorem t59 {k : Nat} (hk : k < 39) (F : Nat) : T59 F (2 ^ (k / 4) : Int) ((k % 4 : Nat) : Int) = some (cls k, (2 ^ ((k + 1) / 4) : Int), (((k + 1) % 4 : Nat) : Int)) := by
  have : ∀ k : Fin 39, T59 0 (2 ^ (k.val / 4) : Int) ((k.val % 4 : Nat) : Int) = some (cls k.val, (2 ^ ((k.val + 1) / 4) : Int), (((k.val + 1) % 4 : Nat) : Int)) := by decide
  exact this ⟨k, hk⟩

theorem loop14 (F : Nat) (need : Int) : ∀ (m k fuel : Nat), k + m = 37 → m < fuel → need ≤ cls 37 → iter (fun s : Int × Int × Int => L14_2 F need s.1 s.2.1 s.2.2) fuel (cls k, (2 ^ ((k + 1) / 4) : Int), (((k + 1) % 4 : Nat) : Int)) = some (fc need m k)
  | 0, k, fuel + 1, hk, hf, hn => by
    have : k = 37 := by omega
    subst this
    have h : ¬ cls 37 < need := by omega
    simp [iter, L14_2, L14_2c, h, fc]
  | m + 1, k, fuel + 1, hk, hf, hn => by
    by_cases h : cls k < need
    · simp only [iter, L14_2, L14_2c, h, decide_true, cond_true, fc]
      rw [t59 (by omega)]
      simp only [Option.bind_some]
      exact loop14 F need m (k + 1) fuel (by omega) (by omega) hn
    · simp [iter, L14_2, L14_2c, h, fc]

theorem c42 {j b : Nat} (hj : j < 10) (hb : b < 4) : w64 ((64 * 2 ^ j : Int) + w64 (w64 (Int.tdiv (64 * 2 ^ j : Int) 4) * ((b : Nat) : Int))) = cls (4 * j + b) := by
  have : ∀ (j : Fin 10) (b : Fin 4), w64 ((64 * 2 ^ j.val : Int) + w64 (w64 (Int.tdiv (64 * 2 ^ j.val : Int) 4) * ((b.val : Nat) : Int))) = cls (4 * j.val + b.val) := by decide
  exact this ⟨j, hj⟩ ⟨b, hb⟩

theorem in_step (F : Nat) (need : Int) {j b : Nat} (hj : j < 10) (hb : b < 4) (n : Nat) : iter (fun s => L42_4 F need (64 * 2 ^ j : Int) s) (n + 1) ((b : Nat) : Int) = bif decide (need ≤ cls (4 * j + b)) then some (.inr (cls (4 * j + b))) else iter (fun s => L42_4 F need (64 * 2 ^ j : Int) s) n ((b + 1 : Nat) : Int) := by
  have h1 : ((b : Nat) : Int) < 4 := by omega
  have h2 : w64 (((b : Nat) : Int) + 1) = ((b + 1 : Nat) : Int) := by rw [w64_in (by omega) (by omega)]; omega
  simp only [iter, L42_4, L42_4c, h1, decide_true, cond_true, c42 hj hb, h2]
  cases decide (need ≤ cls (4 * j + b)) <;> rfl

theorem in_last (F : Nat) (need base : Int) (n : Nat) : iter (fun s => L42_4 F need base s) (n + 1) ((4 : Nat) : Int) = some (.inl ()) := by
  simp [iter, L42_4, L42_4c]

theorem fc_step (need : Int) (m k : Nat) : fc need (m + 1) k = bif decide (need ≤ cls k) then cls k else fc need m (k + 1) := by
  simp only [fc]
  by_cases h : cls k < need
  · have h' : ¬ need ≤ cls k := by omega
    simp [h, h']
  · have h' : need ≤ cls k := by omega
    simp [h, h']

theorem dbl {j : Nat} (hj : j < 9) : w64 ((2 : Int) * (64 * 2 ^ j : Int)) = (64 * 2 ^ (j + 1) : Int) := by
  have : ∀ (j : Fin 9), w64 ((2 : Int) * (64 * 2 ^ j.val : Int)) = (64 * 2 ^ (j.val + 1) : Int) := by decide
  exact this ⟨j, hj⟩

theorem inner (F : Nat) (need : Int) {j : Nat} (hj : j < 10) (hF : 5 ≤ F) : iter (fun s => L42_4 F need (64 * 2 ^ j : Int) s) F (0 : Int) = some (bif decide (need ≤ cls (4 * j)) then .inr (cls (4 * j)) else bif decide (need ≤ cls (4 * j + 1)) then .inr (cls (4 * j + 1)) else bif decide (need ≤ cls (4 * j + 2)) then .inr (cls (4 * j + 2)) else bif decide (need ≤ cls (4 * j + 3)) then .inr (cls (4 * j + 3)) else .inl ()) := by
  obtain ⟨n, rfl⟩ : ∃ n, F = n + 5 := ⟨F - 5, by omega⟩
  have h0 := in_step (n + 5) need hj (b := 0) (by omega) (n + 4)
  have h1 := in_step (n + 5) need hj (b := 1) (by omega) (n + 3)
  have h2 := in_step (n + 5) need hj (b := 2) (by omega) (n + 2)
  have h3 := in_step (n + 5) need hj (b := 3) (by omega) (n + 1)
  have h4 := in_last (n + 5) need (64 * 2 ^ j : Int) n
  have e0 : (0 : Int) = ((0 : Nat) : Int) := rfl
  rw [e0, h0, h1, h2, h3, h4]
  simp only [Nat.add_zero]
  cases decide (need ≤ cls (4 * j)) <;> cases decide (need ≤ cls (4 * j + 1)) <;> cases decide (need ≤ cls (4 * j + 2)) <;> cases decide (need ≤ cls (4 * j + 3)) <;> rfl

theorem loop42 (F : Nat) (need : Int) (hF : 5 ≤ F) (hn : need ≤ cls 37) : ∀ (i j fuel : Nat), j + i = 9 → i < fuel → iter (fun s => L42_3 F need s) fuel (64 * 2 ^ j : Int) = some (fc need (37 - 4 * j) (4 * j))
  | 0, j, fuel + 1, hj, hf => by
    have : j = 9 := by omega
    subst this
    simp only [iter, L42_3, L42_3c]
    rw [inner F need (j := 9) (by omega) hF]
    have e1 : decide (need ≤ cls (4 * 9 + 1)) = true := by simpa using hn
    simp only [e1, Option.bind_some]
    show _ = some (fc need 1 36)
    rw [fc_step]
    show _ = some (bif decide (need ≤ cls (4 * 9)) then cls (4 * 9) else cls (4 * 9 + 1))
    cases decide (need ≤ cls (4 * 9)) <;> rfl
  | i + 1, j, fuel + 1, hj, hf => by
    simp only [iter, L42_3, L42_3c]
    rw [inner F need (j := j) (by omega) hF]
    have ih := loop42 F need hF hn i (j + 1) fuel (by omega) (by omega)
    obtain ⟨m, hm⟩ : ∃ m, 37 - 4 * j = m + 4 := ⟨33 - 4 * j, by omega⟩
    have hm' : 37 - 4 * (j + 1) = m := by omega
    rw [hm, fc_step, fc_step, fc_step, fc_step]
    rw [hm'] at ih
    rw [show 4 * j + 1 + 1 = 4 * j + 2 from rfl, show 4 * j + 2 + 1 = 4 * j + 3 from rfl, show 4 * j + 3 + 1 = 4 * (j + 1) from by omega]
    cases decide (need ≤ cls (4 * j)) <;> cases decide (need ≤ cls (4 * j + 1)) <;> cases decide (need ≤ cls (4 * j + 2)) <;> cases decide (need ≤ cls (4 * j + 3)) <;>
      simp only [cond_true, cond_false, Option.bind_some, elimS, dbl (show j < 9 by omega)]
    exact ih

theorem shr7 (x : UInt64) : (shr64 x 7).toNat = x.toNat / 128 := by
  show (x.toBitVec >>> 7).toNat = _
  rw [BitVec.toNat_ushiftRight, Nat.shiftRight_eq_div_pow]; rfl

def sz (n : Nat) : Nat := if n < 128 then 1 else if n < 16384 then 2 else 3

theorem it_again {σ ρ : Type} {f : σ → Option (σ ⊕ ρ)} {n : Nat} {s s' : σ} (h : f s = some (.inl s')) : iter f (n + 1) s = iter f n s' := by simp [iter, h]
theorem it_out {σ ρ : Type} {f : σ → Option (σ ⊕ ρ)} {n : Nat} {s : σ} {r : ρ} (h : f s = some (.inr r)) : iter f (n + 1) s = some r := by simp [iter, h]

theorem l40_again (F : Nat) {x : UInt64} {c : Int} (h : 128 ≤ x.toNat) : L40_2 F x c = some (.inl (shr64 x 7, w64 (c + 1))) := by
  have : UInt64.ofNat 128 ≤ x := h
  simp only [L40_2, L40_2c, this, decide_true, cond_true]; rfl
theorem l40_out (F : Nat) {x : UInt64} {c : Int} (h : ¬ 128 ≤ x.toNat) : L40_2 F x c = some (.inr c) := by
  have : ¬ UInt64.ofNat 128 ≤ x := h
  simp only [L40_2, L40_2c, this, decide_false, cond_false]

theorem t40 {F : Nat} (hF : 4 < F) (x : UInt64) (hx : x.toNat ≤ 32768) : T40 F x = some ((sz x.toNat : Nat) : Int) := by
  obtain ⟨n, rfl⟩ : ∃ n, F = n + 4 := ⟨F - 4, by omega⟩
  have w1 : w64 ((1 : Int) + 1) = 2 := by decide
  have w2 : w64 ((2 : Int) + 1) = 3 := by decide
  have d1 := shr7 x
  have d2 := shr7 (shr64 x 7)
  simp only [T40, T40c]
  by_cases h1 : x.toNat < 128
  · rw [it_out (l40_out _ (x := x) (by omega))]; simp [sz, h1]
  · rw [it_again (l40_again _ (x := x) (by omega)), w1]
    by_cases h2 : x.toNat < 16384
    · rw [it_out (l40_out _ (x := shr64 x 7) (by omega))]; simp [sz, h1, h2]
    · rw [it_again (l40_again _ (x := shr64 x 7) (by omega)), w2, it_out (l40_out _ (x := shr64 (shr64 x 7) 7) (by omega))]; simp [sz, h1, h2]

theorem div128 (x : UInt64) : (x / UInt64.ofNat 128).toNat = x.toNat / 128 := by
  rw [UInt64.toNat_div]; rfl

theorem l45_again (F : Nat) {x : UInt64} {l : List UInt8} (h : 127 < x.toNat) (hl : l.length < 100) : ∃ b, L45_2 F x l = some (.inl (x / UInt64.ofNat 128, l ++ [b])) := by
  have : UInt64.ofNat 127 < x := h
  refine ⟨((x % (UInt64.ofNat 128)).toUInt8) + (UInt8.ofNat 128), ?_⟩
  simp only [L45_2, L45_2c, this, decide_true, cond_true, gapp]
  rw [if_pos (by simp; omega)]; rfl
theorem l45_out (F : Nat) {x : UInt64} {l : List UInt8} (h : ¬ 127 < x.toNat) : L45_2 F x l = some (.inr (x, l)) := by
  have : ¬ UInt64.ofNat 127 < x := h
  simp only [L45_2, L45_2c, this, decide_false, cond_false]

theorem t45 {F : Nat} (hF : 4 < F) (x : UInt64) (hx : x.toNat ≤ 32768) : ∃ l, T45 F x = some l ∧ l.length = sz x.toNat := by
  obtain ⟨n, rfl⟩ : ∃ n, F = n + 4 := ⟨F - 4, by omega⟩
  have d1 := div128 x
  have d2 := div128 (x / UInt64.ofNat 128)
  simp only [T45, T45c]
  by_cases h1 : x.toNat < 128
  · rw [it_out (l45_out _ (x := x) (by omega))]; simp [sz, h1, gapp]
  · obtain ⟨b, hb⟩ := l45_again (n + 4) (x := x) (l := []) (by omega) (by simp)
    rw [it_again (f := fun s : UInt64 × List UInt8 => L45_2 (n + 4) s.1 s.2) (s := (x, [])) hb]
    by_cases h2 : x.toNat < 16384
    · rw [it_out (l45_out _ (x := x / UInt64.ofNat 128) (by omega))]; simp [sz, h1, h2, gapp]
    · obtain ⟨b', hb'⟩ := l45_again (n + 4) (x := x / UInt64.ofNat 128) (l := [] ++ [b]) (by omega) (by simp)
      rw [it_again (f := fun s : UInt64 × List UInt8 => L45_2 (n + 4) s.1 s.2) (s := (x / UInt64.ofNat 128, [] ++ [b])) hb', it_out (l45_out _ (x := x / UInt64.ofNat 128 / UInt64.ofNat 128) (by omega))]; simp [sz, h1, h2, gapp]

/-- Both find the class alike. -/
theorem class_eq {F : Nat} (hF : 50 < F) (n : Int) : ∃ r, T14 F n = some r ∧ T15 F n = some r := by
  simp only [T14, T14c, T15, T15c]
  by_cases h0 : n < 0
  · simp [h0]
  by_cases h1 : 32768 < n
  · simp [h0, h1]
  simp only [h0, h1, decide_false, cond_false]
  have hx : (UInt64.ofInt n).toNat = n.toNat := by
    show (UInt64.ofNat (n % 2 ^ 64).toNat).toNat = _
    rw [UInt64.toNat_ofNat']; omega
  have hx' : (UInt64.ofInt n).toNat ≤ 32768 := by omega
  obtain ⟨l, hl, hll⟩ := t45 (F := F) (by omega) (UInt64.ofInt n) hx'
  have h41 : T41 F = some ((2 ^ (0 / 4) : Int), ((0 % 4 : Nat) : Int)) := rfl
  have hs : 1 ≤ sz (UInt64.ofInt n).toNat ∧ sz (UInt64.ofInt n).toNat ≤ 3 := by unfold sz; split <;> (try split) <;> omega
  have hneed : w64 (w64 (((sz (UInt64.ofInt n).toNat : Nat) : Int) + n) + 16) ≤ cls 37 := by
    rw [w64_in (n := ((sz (UInt64.ofInt n).toNat : Nat) : Int) + n) (by omega) (by omega), w64_in (by omega) (by omega)]
    have : cls 37 = 40960 := by decide
    omega
  rw [t40 (by omega) _ hx', h41]
  simp only [Option.bind_some]
  rw [t59 (k := 0) (by omega)]
  simp only [Option.bind_some]
  have l14 := loop14 F (w64 (w64 (((sz (UInt64.ofInt n).toNat : Nat) : Int) + n) + 16)) 37 0 F (by omega) (by omega) hneed
  rw [l14]
  have h43 : T43 F n = some (w64 (w64 (((sz (UInt64.ofInt n).toNat : Nat) : Int) + n) + 16)) := by
    simp only [T43, T43c, hl, Option.bind_some, hll]
  have l42 := loop42 F (w64 (w64 (((sz (UInt64.ofInt n).toNat : Nat) : Int) + n) + 16)) (by omega) hneed 9 0 F (by omega) (by omega)
  have h42 : T42 F (w64 (w64 (((sz (UInt64.ofInt n).toNat : Nat) : Int) + n) + 16)) = some (fc (w64 (w64 (((sz (UInt64.ofInt n).toNat : Nat) : Int) + n) + 16)) 37 0) := by
    simp only [T42, T42c]
    have e : (64 : Int) = 64 * 2 ^ 0 := by decide
    rw [e, l42]; rfl
  rw [h43]
  simp only [Option.bind_some, h42]
  exact ⟨_, rfl, rfl⟩
end Go.Proofs.YtjghgfohpihhfaaDoor
/- SealClass: the plain law. -/
namespace Go.Proofs.YtjghgfohpihhfaaDoor
open Go.Tw
theorem awake16 : T16 1000 = some true := by kernel_rfl
theorem law3 {F : Nat} (hF : 50 < F) (ha : T16 F = some true) (n : Int) : T3 F n = some true := by
  obtain ⟨r, h1, h2⟩ := class_eq hF n
  simp only [T3, T3c, h1, h2, ha, Option.bind_some, cond_true, beq_self_eq_true]
theorem plaw3 (n : Int) (_ : -9223372036854775808 ≤ n ∧ n ≤ 9223372036854775807) : T3 1000 n = some true := law3 (by omega) awake16 n
end Go.Proofs.YtjghgfohpihhfaaDoor
/- The classes in numbers; SealClasses: the plain law. -/
namespace Go.Proofs.YtjghgfohpihhfaaDoor
open Go.Tw
set_option linter.unusedVariables false

def need (n : Int) : Int := w64 (w64 (((sz (UInt64.ofInt n).toNat : Nat) : Int) + n) + 16)

theorem ofInt_nat {n : Int} (h0 : 0 ≤ n) (h1 : n ≤ 32768) : (UInt64.ofInt n).toNat = n.toNat := by
  show (UInt64.ofNat (n % 2 ^ 64).toNat).toNat = _
  rw [UInt64.toNat_ofNat']; omega

theorem need_eq {n : Int} (h0 : 0 ≤ n) (h1 : n ≤ 32768) : need n = (sz n.toNat : Nat) + n + 16 := by
  have hs : 1 ≤ sz n.toNat ∧ sz n.toNat ≤ 3 := by unfold sz; split <;> (try split) <;> omega
  unfold need
  rw [ofInt_nat h0 h1, w64_in (n := ((sz n.toNat : Nat) : Int) + n) (by omega) (by omega), w64_in (by omega) (by omega)]

theorem sz_bd (n : Nat) : 1 ≤ sz n ∧ sz n ≤ 3 := by unfold sz; split <;> (try split) <;> omega

theorem need_le {n : Int} (h0 : 0 ≤ n) (h1 : n ≤ 32768) : need n ≤ cls 37 := by
  have := sz_bd n.toNat
  have : cls 37 = 40960 := by decide
  rw [need_eq h0 h1]; omega

theorem t14_eq {F : Nat} (hF : 50 < F) {n : Int} (h0 : 0 ≤ n) (h1 : n ≤ 32768) : T14 F n = some (fc (need n) 37 0, 0) := by
  have hx := ofInt_nat h0 h1
  have a0 : ¬ n < 0 := by omega
  have a1 : ¬ 32768 < n := by omega
  simp only [T14, T14c, a0, a1, decide_false, cond_false]
  have h41 : T41 F = some ((2 ^ (0 / 4) : Int), ((0 % 4 : Nat) : Int)) := rfl
  rw [t40 (by omega) _ (by omega), h41]
  simp only [Option.bind_some]
  rw [t59 (k := 0) (by omega)]
  simp only [Option.bind_some]
  have l14 := loop14 F (need n) 37 0 F (by omega) (by omega) (need_le h0 h1)
  unfold need at l14
  rw [l14]; rfl

theorem t14_lo {F : Nat} {n : Int} (h : n < 0) : T14 F n = some (0, 1) := by simp [T14, T14c, h]
theorem t14_hi {F : Nat} {n : Int} (h : 32768 < n) : T14 F n = some (0, 2) := by
  have : ¬ n < 0 := by omega
  simp [T14, T14c, h, this]

theorem fc_spec (need : Int) : ∀ (m k : Nat), need ≤ cls (k + m) → ∃ j, k ≤ j ∧ j ≤ k + m ∧ fc need m k = cls j ∧ need ≤ cls j ∧ (j = k ∨ cls (j - 1) < need)
  | 0, k, h => ⟨k, by omega, by omega, rfl, h, .inl rfl⟩
  | m + 1, k, h => by
    by_cases hk : cls k < need
    · obtain ⟨j, h1, h2, h3, h4, h5⟩ := fc_spec need m (k + 1) (by rw [show k + 1 + m = k + (m + 1) by omega]; exact h)
      refine ⟨j, by omega, by omega, by simp [fc, hk, h3], h4, .inr ?_⟩
      rcases h5 with rfl | h5
      · simpa using hk
      · exact h5
    · exact ⟨k, by omega, by omega, by simp [fc, hk], by omega, .inl rfl⟩

/-- The class of a length. -/
theorem class_spec {F : Nat} (hF : 50 < F) {n : Int} (h0 : 0 ≤ n) (h1 : n ≤ 32768) : ∃ j, j < 38 ∧ T14 F n = some (cls j, 0) ∧ (sz n.toNat : Nat) + n + 16 ≤ cls j ∧ (j = 0 ∨ cls (j - 1) < (sz n.toNat : Nat) + n + 16) := by
  obtain ⟨j, a1, a2, a3, a4, a5⟩ := fc_spec (need n) 37 0 (need_le h0 h1)
  rw [need_eq h0 h1] at a4 a5
  exact ⟨j, by omega, by rw [t14_eq hF h0 h1, a3], a4, a5⟩

def clist : List Int := (List.range 38).map cls

theorem t39 : T39 1000 = some clist := by kernel_rfl

theorem found : ∀ j : Fin 38, iter (fun s : Bool × Int => L13_2 1000 (cls j.val) clist s.1 s.2) 1000 (false, (0 : Int)) = some (.inl true) := by decide +kernel
theorem found0 : iter (fun s : Bool × Int => L13_2 1000 0 clist s.1 s.2) 1000 (false, (0 : Int)) = some (.inl false) := by kernel_rfl

theorem cls_q : ∀ j : Fin 38, j.val = 0 ∨ cls j.val - (cls j.val).tdiv 4 ≤ cls (j.val - 1) := by decide +kernel
theorem cls_b : ∀ j : Fin 38, 64 ≤ cls j.val ∧ cls j.val ≤ 40960 ∧ 0 ≤ (cls j.val).tdiv 4 ∧ (cls j.val).tdiv 4 ≤ 40960 := by decide +kernel

theorem cl_len : clist.length = 38 := by decide +kernel
theorem cl_i0 : inb 38 (0 : Int) = some 0 := by decide +kernel
theorem cl_0 : clist[0]? = some 64 := by decide +kernel
theorem cl_i37 : inb 38 (w64 (((38 : Nat) : Int) - 1)) = some 37 := by decide +kernel
theorem cl_37 : clist[37]? = some 40960 := by decide +kernel

theorem law13 {F : Nat} (hF : 50 < F) (ha : T16 F = some true) (h39 : T39 F = some clist) (hf : ∀ j : Fin 38, iter (fun s : Bool × Int => L13_2 F (cls j.val) clist s.1 s.2) F (false, (0 : Int)) = some (.inl true))
    (hf0 : iter (fun s : Bool × Int => L13_2 F 0 clist s.1 s.2) F (false, (0 : Int)) = some (.inl false)) (n : Int) (hn : -9223372036854775808 ≤ n ∧ n ≤ 9223372036854775807) : T13 F n = some true := by
  simp only [T13, T13c, h39, ha, Option.bind_some, Bool.not_true, cond_false, cl_len, cl_i0, cl_0, cl_i37, cl_37]
  have e1 : (((38 : Nat) : Int) == 0) = false := by decide
  have e2 : ((64 : Int) != 64) = false := by decide
  have e3 : ((40960 : Int) != 40960) = false := by decide
  simp only [e1, e2, e3, cond_false]
  by_cases h0 : n < 0
  · simp only [t14_lo h0, Option.bind_some, hf0, elimS]
    simp [h0]
  by_cases h1 : 32768 < n
  · simp only [t14_hi h1, Option.bind_some, hf0, elimS]
    simp [h0, h1]
  obtain ⟨j, hj, hc, h2, h3⟩ := class_spec hF (n := n) (by omega) (by omega)
  have hb := sz_bd n.toNat
  have hcb := cls_b ⟨j, hj⟩
  have hcq := cls_q ⟨j, hj⟩
  simp only at hcb hcq
  simp only [hc, Option.bind_some, hf ⟨j, hj⟩, elimS]
  have e4 : ((0 : Int) != 0) = false := by decide
  have w1 : w64 (n + 17) = n + 17 := w64_in (by omega) (by omega)
  have w2 : w64 (n + 19) = n + 19 := w64_in (by omega) (by omega)
  have w3 : w64 ((cls j).tdiv 4) = (cls j).tdiv 4 := w64_in (by omega) (by omega)
  have w4 : w64 (cls j - (cls j).tdiv 4) = cls j - (cls j).tdiv 4 := w64_in (by omega) (by omega)
  have h4 : n + 17 ≤ cls j := by omega
  simp only [e4, cond_false, cond_true, w1, w2, w3, w4, h4, decide_true]
  rcases h3 with rfl | h3
  · rfl
  · rcases hcq with rfl | hcq
    · rfl
    · have h5 : cls j - (cls j).tdiv 4 < n + 19 := by omega
      simp only [h5, decide_true]
      cases (cls j == 64) <;> rfl
theorem plaw13 (n : Int) (hn : -9223372036854775808 ≤ n ∧ n ≤ 9223372036854775807) : T13 1000 n = some true := law13 (by omega) awake16 t39 found found0 n hn
end Go.Proofs.YtjghgfohpihhfaaDoor
