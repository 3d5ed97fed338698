/- The classes of seal, and of its specification: plain laws. -/
import Derived.Test.YtjghgfohpihhfaaDoorH2
namespace Go.Proofs.YtjghgfohpihhfaaDoor
open Go.Tw
set_option linter.unusedVariables false

/-- The class of a number. -/
def cls (k : Nat) : Int := 2 ^ (k / 4) * (64 + 16 * (k % 4 : Nat))
/-- The first class from the k-th on that is at least need. -/
def fc (need : Int) : Nat → Nat → Int
  | 0, k => cls k
  | m + 1, k => bif decide (cls k < need) then fc need m (k + 1) else cls k

theorem t59 {k : Nat} (hk : k < 39) (F : Nat) : T59 F (2 ^ (k / 4) : Int) ((k % 4 : Nat) : Int) = some (cls k, (2 ^ ((k + 1) / 4) : Int), (((k + 1) % 4 : Nat) : Int)) := by
  have : ∀ k : Fin 39, T59 0 (2 ^ (k.val / 4) : Int) ((k.val % 4 : Nat) : Int) = some (cls k.val, (2 ^ ((k.val + 1) / 4) : Int), (((k.val + 1) % 4 : Nat) : Int)) := by decide
  exact this ⟨k, hk⟩

theorem loop14 (F : Nat) (need : Int) : ∀ (m k fuel : Nat), k + m = 37 → m < fuel → need ≤ cls 37 → iter (fun s : Int × Int × Int => L14_2 F need s.1 s.2.1 s.2.2) fuel (cls k, (2 ^ ((k + 1) / 4) : Int), (((k + 1) % 4 : Nat) : Int)) = some (fc need m k)
  | 0, k, fuel + 1, hk, hf, hn => by
    have : k = 37 := by omega
    subst this
    have h : ¬ cls 37 < need := by omega
    simp [iter, L14_2, L14_2c, h, fc]
  | m + 1, k, fuel + 1, hk, hf, hn => by
    by_cases h : cls k < need
    · simp only [iter, L14_2, L14_2c, h, decide_true, cond_true, fc]
      rw [t59 (by omega)]
      simp only [Option.bind_some]
      exact loop14 F need m (k + 1) fuel (by omega) (by omega) hn
    · simp [iter, L14_2, L14_2c, h, fc]

theorem c42 {j b : Nat} (hj : j < 10) (hb : b < 4) : w64 ((64 * 2 ^ j : Int) + w64 (w64 (Int.tdiv (64 * 2 ^ j : Int) 4) * ((b : Nat) : Int))) = cls (4 * j + b) := by
  have : ∀ (j : Fin 10) (b : Fin 4), w64 ((64 * 2 ^ j.val : Int) + w64 (w64 (Int.tdiv (64 * 2 ^ j.val : Int) 4) * ((b.val : Nat) : Int))) = cls (4 * j.val + b.val) := by decide
  exact this ⟨j, hj⟩ ⟨b, hb⟩

theorem in_step (F : Nat) (need : Int) {j b : Nat} (hj : j < 10) (hb : b < 4) (n : Nat) : iter (fun s => L42_4 F need (64 * 2 ^ j : Int) s) (n + 1) ((b : Nat) : Int) = bif decide (need ≤ cls (4 * j + b)) then some (.inr (cls (4 * j + b))) else iter (fun s => L42_4 F need (64 * 2 ^ j : Int) s) n ((b + 1 : Nat) : Int) := by
  have h1 : ((b : Nat) : Int) < 4 := by omega
  have h2 : w64 (((b : Nat) : Int) + 1) = ((b + 1 : Nat) : Int) := by rw [w64_in (by omega) (by omega)]; omega
  simp only [iter, L42_4, L42_4c, h1, decide_true, cond_true, c42 hj hb, h2]
  cases decide (need ≤ cls (4 * j + b)) <;> rfl

theorem in_last (F : Nat) (need base : Int) (n : Nat) : iter (fun s => L42_4 F need base s) (n + 1) ((4 : Nat) : Int) = some (.inl ()) := by
  simp [iter, L42_4, L42_4c]

theorem fc_step (need : Int) (m k : Nat) : fc need (m + 1) k = bif decide (need ≤ cls k) then cls k else fc need m (k + 1) := by
  simp only [fc]
  by_cases h : cls k < need
  · have h' : ¬ need ≤ cls k := by omega
    simp [h, h']
  · have h' : need ≤ cls k := by omega
    simp [h, h']

theorem dbl {j : Nat} (hj : j < 9) : w64 ((2 : Int) * (64 * 2 ^ j : Int)) = (64 * 2 ^ (j + 1) : Int) := by
  have : ∀ (j : Fin 9), w64 ((2 : Int) * (64 * 2 ^ j.val : Int)) = (64 * 2 ^ (j.val + 1) : Int) := by decide
  exact this ⟨j, hj⟩

theorem inner (F : Nat) (need : Int) {j : Nat} (hj : j < 10) (hF : 5 ≤ F) : iter (fun s => L42_4 F need (64 * 2 ^ j : Int) s) F (0 : Int) = some (bif decide (need ≤ cls (4 * j)) then .inr (cls (4 * j)) else bif decide (need ≤ cls (4 * j + 1)) then .inr (cls (4 * j + 1)) else bif decide (need ≤ cls (4 * j + 2)) then .inr (cls (4 * j + 2)) else bif decide (need ≤ cls (4 * j + 3)) then .inr (cls (4 * j + 3)) else .inl ()) := by
  obtain ⟨n, rfl⟩ : ∃ n, F = n + 5 := ⟨F - 5, by omega⟩
  have h0 := in_step (n + 5) need hj (b := 0) (by omega) (n + 4)
  have h1 := in_step (n + 5) need hj (b := 1) (by omega) (n + 3)
  have h2 := in_step (n + 5) need hj (b := 2) (by omega) (n + 2)
  have h3 := in_step (n + 5) need hj (b := 3) (by omega) (n + 1)
  have h4 := in_last (n + 5) need (64 * 2 ^ j : Int) n
  have e0 : (0 : Int) = ((0 : Nat) : Int) := rfl
  rw [e0, h0, h1, h2, h3, h4]
  simp only [Nat.add_zero]
  cases decide (need ≤ cls (4 * j)) <;> cases decide (need ≤ cls (4 * j + 1)) <;> cases decide (need ≤ cls (4 * j + 2)) <;> cases decide (need ≤ cls (4 * j + 3)) <;> rfl

theorem loop42 (F : Nat) (need : Int) (hF : 5 ≤ F) (hn : need ≤ cls 37) : ∀ (i j fuel : Nat), j + i = 9 → i < fuel → iter (fun s => L42_3 F need s) fuel (64 * 2 ^ j : Int) = some (fc need (37 - 4 * j) (4 * j))
  | 0, j, fuel + 1, hj, hf => by
    have : j = 9 := by omega
    subst this
    simp only [iter, L42_3, L42_3c]
    rw [inner F need (j := 9) (by omega) hF]
    have e1 : decide (need ≤ cls (4 * 9 + 1)) = true := by simpa using hn
    simp only [e1, Option.bind_some]
    show _ = some (fc need 1 36)
    rw [fc_step]
    show _ = some (bif decide (need ≤ cls (4 * 9)) then cls (4 * 9) else cls (4 * 9 + 1))
    cases decide (need ≤ cls (4 * 9)) <;> rfl
  | i + 1, j, fuel + 1, hj, hf => by
    simp only [iter, L42_3, L42_3c]
    rw [inner F need (j := j) (by omega) hF]
    have ih := loop42 F need hF hn i (j + 1) fuel (by omega) (by omega)
    obtain ⟨m, hm⟩ : ∃ m, 37 - 4 * j = m + 4 := ⟨33 - 4 * j, by omega⟩
    have hm' : 37 - 4 * (j + 1) = m := by omega
    rw [hm, fc_step, fc_step, fc_step, fc_step]
    rw [hm'] at ih
    rw [show 4 * j + 1 + 1 = 4 * j + 2 from rfl, show 4 * j + 2 + 1 = 4 * j + 3 from rfl, show 4 * j + 3 + 1 = 4 * (j + 1) from by omega]
    cases decide (need ≤ cls (4 * j)) <;> cases decide (need ≤ cls (4 * j + 1)) <;> cases decide (need ≤ cls (4 * j + 2)) <;> cases decide (need ≤ cls (4 * j + 3)) <;>
      simp only [cond_true, cond_false, Option.bind_some, elimS, dbl (show j < 9 by omega)]
    exact ih

theorem shr7 (x : UInt64) : (shr64 x 7).toNat = x.toNat / 128 := by
  show (x.toBitVec >>> 7).toNat = _
  rw [BitVec.toNat_ushiftRight, Nat.shiftRight_eq_div_pow]; rfl

def sz (n : Nat) : Nat := if n < 128 then 1 else if n < 16384 then 2 else 3

theorem it_again {σ ρ : Type} {f : σ → Option (σ ⊕ ρ)} {n : Nat} {s s' : σ} (h : f s = some (.inl s')) : iter f (n + 1) s = iter f n s' := by simp [iter, h]
theorem it_out {σ ρ : Type} {f : σ → Option (σ ⊕ ρ)} {n : Nat} {s : σ} {r : ρ} (h : f s = some (.inr r)) : iter f (n + 1) s = some r := by simp [iter, h]

theorem l40_again (F : Nat) {x : UInt64} {c : Int} (h : 128 ≤ x.toNat) : L40_2 F x c = some (.inl (shr64 x 7, w64 (c + 1))) := by
  have : UInt64.ofNat 128 ≤ x := h
  simp only [L40_2, L40_2c, this, decide_true, cond_true]; rfl
theorem l40_out (F : Nat) {x : UInt64} {c : Int} (h : ¬ 128 ≤ x.toNat) : L40_2 F x c = some (.inr c) := by
  have : ¬ UInt64.ofNat 128 ≤ x := h
  simp only [L40_2, L40_2c, this, decide_false, cond_false]

theorem t40 {F : Nat} (hF : 4 < F) (x : UInt64) (hx : x.toNat ≤ 32768) : T40 F x = some ((sz x.toNat : Nat) : Int) := by
  obtain ⟨n, rfl⟩ : ∃ n, F = n + 4 := ⟨F - 4, by omega⟩
  have w1 : w64 ((1 : Int) + 1) = 2 := by decide
  have w2 : w64 ((2 : Int) + 1) = 3 := by decide
  have d1 := shr7 x
  have d2 := shr7 (shr64 x 7)
  simp only [T40, T40c]
  by_cases h1 : x.toNat < 128
  · rw [it_out (l40_out _ (x := x) (by omega))]; simp [sz, h1]
  · rw [it_again (l40_again _ (x := x) (by omega)), w1]
    by_cases h2 : x.toNat < 16384
    · rw [it_out (l40_out _ (x := shr64 x 7) (by omega))]; simp [sz, h1, h2]
    · rw [it_again (l40_again _ (x := shr64 x 7) (by omega)), w2, it_out (l40_out _ (x := shr64 (shr64 x 7) 7) (by omega))]; simp [sz, h1, h2]

theorem div128 (x : UInt64) : (x / UInt64.ofNat 128).toNat = x.toNat / 128 := by
  rw [UInt64.toNat_div]; rfl

theorem l45_again (F : Nat) {x : UInt64} {l : List UInt8} (h : 127 < x.toNat) (hl : l.length < 100) : ∃ b, L45_2 F x l = some (.inl (x / UInt64.ofNat 128, l ++ [b])) := by
  have : UInt64.ofNat 127 < x := h
  refine ⟨((x % (UInt64.ofNat 128)).toUInt8) + (UInt8.ofNat 128), ?_⟩
  simp only [L45_2, L45_2c, this, decide_true, cond_true, gapp]
  rw [if_pos (by simp; omega)]; rfl
theorem l45_out (F : Nat) {x : UInt64} {l : List UInt8} (h : ¬ 127 < x.toNat) : L45_2 F x l = some (.inr (x, l)) := by
  have : ¬ UInt64.ofNat 127 < x := h
  simp only [L45_2, L45_2c, this, decide_false, cond_false]

theorem t45 {F : Nat} (hF : 4 < F) (x : UInt64) (hx : x.toNat ≤ 32768) : ∃ l, T45 F x = some l ∧ l.length = sz x.toNat := by
  obtain ⟨n, rfl⟩ : ∃ n, F = n + 4 := ⟨F - 4, by omega⟩
  have d1 := div128 x
  have d2 := div128 (x / UInt64.ofNat 128)
  simp only [T45, T45c]
  by_cases h1 : x.toNat < 128
  · rw [it_out (l45_out _ (x := x) (by omega))]; simp [sz, h1, gapp]
  · obtain ⟨b, hb⟩ := l45_again (n + 4) (x := x) (l := []) (by omega) (by simp)
    rw [it_again (f := fun s : UInt64 × List UInt8 => L45_2 (n + 4) s.1 s.2) (s := (x, [])) hb]
    by_cases h2 : x.toNat < 16384
    · rw [it_out (l45_out _ (x := x / UInt64.ofNat 128) (by omega))]; simp [sz, h1, h2, gapp]
    · obtain ⟨b', hb'⟩ := l45_again (n + 4) (x := x / UInt64.ofNat 128) (l := [] ++ [b]) (by omega) (by simp)
      rw [it_again (f := fun s : UInt64 × List UInt8 => L45_2 (n + 4) s.1 s.2) (s := (x / UInt64.ofNat 128, [] ++ [b])) hb', it_out (l45_out _ (x := x / UInt64.ofNat 128 / UInt64.ofNat 128) (by omega))]; simp [sz, h1, h2, gapp]

/-- Both find the class alike. -/
theorem class_eq {F : Nat} (hF : 50 < F) (n : Int) : ∃ r, T14 F n = some r ∧ T15 F n = some r := by
  simp only [T14, T14c, T15, T15c]
  by_cases h0 : n < 0
  · simp [h0]
  by_cases h1 : 32768 < n
  · simp [h0, h1]
  simp only [h0, h1, decide_false, cond_false]
  have hx : (UInt64.ofInt n).toNat = n.toNat := by
    show (UInt64.ofNat (n % 2 ^ 64).toNat).toNat = _
    rw [UInt64.toNat_ofNat']; omega
  have hx' : (UInt64.ofInt n).toNat ≤ 32768 := by omega
  obtain ⟨l, hl, hll⟩ := t45 (F := F) (by omega) (UInt64.ofInt n) hx'
  have h41 : T41 F = some ((2 ^ (0 / 4) : Int), ((0 % 4 : Nat) : Int)) := rfl
  have hs : 1 ≤ sz (UInt64.ofInt n).toNat ∧ sz (UInt64.ofInt n).toNat ≤ 3 := by unfold sz; split <;> (try split) <;> omega
  have hneed : w64 (w64 (((sz (UInt64.ofInt n).toNat : Nat) : Int) + n) + 16) ≤ cls 37 := by
    rw [w64_in (n := ((sz (UInt64.ofInt n).toNat : Nat) : Int) + n) (by omega) (by omega), w64_in (by omega) (by omega)]
    have : cls 37 = 40960 := by decide
    omega
  rw [t40 (by omega) _ hx', h41]
  simp only [Option.bind_some]
  rw [t59 (k := 0) (by omega)]
  simp only [Option.bind_some]
  have l14 := loop14 F (w64 (w64 (((sz (UInt64.ofInt n).toNat : Nat) : Int) + n) + 16)) 37 0 F (by omega) (by omega) hneed
  rw [l14]
  have h43 : T43 F n = some (w64 (w64 (((sz (UInt64.ofInt n).toNat : Nat) : Int) + n) + 16)) := by
    simp only [T43, T43c, hl, Option.bind_some, hll]
  have l42 := loop42 F (w64 (w64 (((sz (UInt64.ofInt n).toNat : Nat) : Int) + n) + 16)) (by omega) hneed 9 0 F (by omega) (by omega)
  have h42 : T42 F (w64 (w64 (((sz (UInt64.ofInt n).toNat : Nat) : Int) + n) + 16)) = some (fc (w64 (w64 (((sz (UInt64.ofInt n).toNat : Nat) : Int) + n) + 16)) 37 0) := by
    simp only [T42, T42c]
    have e : (64 : Int) = 64 * 2 ^ 0 := by decide
    rw [e, l42]; rfl
  rw [h43]
  simp only [Option.bind_some, h42]
  exact ⟨_, rfl, rfl⟩
end Go.Proofs.YtjghgfohpihhfaaDoor
/- SealClass: the plain law. -/
namespace Go.Proofs.YtjghgfohpihhfaaDoor
open Go.Tw
end Go.Proofs.YtjghgfohpihhfaaDoor
/- The classes in numbers; SealClasses: the plain law. -/
namespace Go.Proofs.YtjghgfohpihhfaaDoor
open Go.Tw
set_option linter.unusedVariables false

def need (n : Int) : Int := w64 (w64 (((sz (UInt64.ofInt n).toNat : Nat) : Int) + n) + 16)

theorem ofInt_nat {n : Int} (h0 : 0 ≤ n) (h1 : n ≤ 32768) : (UInt64.ofInt n).toNat = n.toNat := by
  show (UInt64.ofNat (n % 2 ^ 64).toNat).toNat = _
  rw [UInt64.toNat_ofNat']; omega

theorem need_eq {n : Int} (h0 : 0 ≤ n) (h1 : n ≤ 32768) : need n = (sz n.toNat : Nat) + n + 16 := by
  have hs : 1 ≤ sz n.toNat ∧ sz n.toNat ≤ 3 := by unfold sz; split <;> (try split) <;> omega
  unfold need
  rw [ofInt_nat h0 h1, w64_in (n := ((sz n.toNat : Nat) : Int) + n) (by omega) (by omega), w64_in (by omega) (by omega)]

theorem sz_bd (n : Nat) : 1 ≤ sz n ∧ sz n ≤ 3 := by unfold sz; split <;> (try split) <;> omega

theorem need_le {n : Int} (h0 : 0 ≤ n) (h1 : n ≤ 32768) : need n ≤ cls 37 := by
  have := sz_bd n.toNat
  have : cls 37 = 40960 := by decide
  rw [need_eq h0 h1]; omega

theorem t14_eq {F : Nat} (hF : 50 < F) {n : Int} (h0 : 0 ≤ n) (h1 : n ≤ 32768) : T14 F n = some (fc (need n) 37 0, 0) := by
  have hx := ofInt_nat h0 h1
  have a0 : ¬ n < 0 := by omega
  have a1 : ¬ 32768 < n := by omega
  simp only [T14, T14c, a0, a1, decide_false, cond_false]
  have h41 : T41 F = some ((2 ^ (0 / 4) : Int), ((0 % 4 : Nat) : Int)) := rfl
  rw [t40 (by omega) _ (by omega), h41]
  simp only [Option.bind_some]
  rw [t59 (k := 0) (by omega)]
  simp only [Option.bind_some]
  have l14 := loop14 F (need n) 37 0 F (by omega) (by omega) (need_le h0 h1)
  unfold need at l14
  rw [l14]; rfl

theorem t14_hi {F : Nat} {n : Int} (h : 32768 < n) : T14 F n = some (0, 2) := by
  have : ¬ n < 0 := by omega
  simp [T14, T14c, h, this]

theorem fc_spec (need : Int) : ∀ (m k : Nat), need ≤ cls (k + m) → ∃ j, k ≤ j ∧ j ≤ k + m ∧ fc need m k = cls j ∧ need ≤ cls j ∧ (j = k ∨ cls (j - 1) < need)
  | 0, k, h => ⟨k, by omega, by omega, rfl, h, .inl rfl⟩
  | m + 1, k, h => by
    by_cases hk : cls k < need
    · obtain ⟨j, h1, h2, h3, h4, h5⟩ := fc_spec need m (k + 1) (by rw [show k + 1 + m = k + (m + 1) by omega]; exact h)
      refine ⟨j, by omega, by omega, by simp [fc, hk, h3], h4, .inr ?_⟩
      rcases h5 with rfl | h5
      · simpa using hk
      · exact h5
    · exact ⟨k, by omega, by omega, by simp [fc, hk], by omega, .inl rfl⟩

/-- The class of a length. -/
theorem class_spec {F : Nat} (hF : 50 < F) {n : Int} (h0 : 0 ≤ n) (h1 : n ≤ 32768) : ∃ j, j < 38 ∧ T14 F n = some (cls j, 0) ∧ (sz n.toNat : Nat) + n + 16 ≤ cls j ∧ (j = 0 ∨ cls (j - 1) < (sz n.toNat : Nat) + n + 16) := by
  obtain ⟨j, a1, a2, a3, a4, a5⟩ := fc_spec (need n) 37 0 (need_le h0 h1)
  rw [need_eq h0 h1] at a4 a5
  exact ⟨j, by omega, by rw [t14_eq hF h0 h1, a3], a4, a5⟩

theorem cls_b : ∀ j : Fin 38, 64 ≤ cls j.val ∧ cls j.val ≤ 40960 ∧ 0 ≤ (cls j.val).tdiv 4 ∧ (cls j.val).tdiv 4 ≤ 40960 := by decide +kernel

end Go.Proofs.YtjghgfohpihhfaaDoor
/- Numbers as bytes; bodies; SealBody: the plain law. -/
namespace Go.Proofs.YtjghgfohpihhfaaDoor
open Go.Tw
set_option linter.unusedVariables false

/-- The bytes of a number: at most m + 1. -/
def encN : Nat → Nat → List UInt8
  | 0, n => [UInt8.ofNat n]
  | m + 1, n => if n < 128 then [UInt8.ofNat n] else UInt8.ofNat (n % 128 + 128) :: encN m (n / 128)

theorem encN_len : ∀ (m n : Nat), (encN m n).length ≤ m + 1 ∧ 1 ≤ (encN m n).length
  | 0, n => by simp [encN]
  | m + 1, n => by
    have := encN_len m (n / 128)
    simp only [encN]; split <;> simp <;> omega

theorem or128 : ∀ b : Fin 256, (UInt8.ofNat b.val ||| UInt8.ofNat 128) = UInt8.ofNat (b.val % 128 + 128) := by decide +kernel

theorem u8_of (x : UInt64) : x.toUInt8 = UInt8.ofNat x.toNat := by
  apply UInt8.toNat_inj.1
  rw [UInt64.toNat_toUInt8, UInt8.toNat_ofNat']

theorem byte60 (x : UInt64) : (x.toUInt8 ||| UInt8.ofNat 128) = UInt8.ofNat (x.toNat % 128 + 128) := by
  have h := or128 ⟨x.toNat % 256, Nat.mod_lt _ (by omega)⟩
  simp only at h
  have e : UInt8.ofNat (x.toNat % 256) = x.toUInt8 := by
    apply UInt8.toNat_inj.1
    rw [UInt64.toNat_toUInt8, UInt8.toNat_ofNat']; omega
  rw [e] at h
  rw [h]
  congr 1; omega

theorem byte45 (x : UInt64) : ((x % (UInt64.ofNat 128)).toUInt8) + (UInt8.ofNat 128) = UInt8.ofNat (x.toNat % 128 + 128) := by
  apply UInt8.toNat_inj.1
  rw [UInt8.toNat_add, UInt64.toNat_toUInt8, UInt64.toNat_mod, UInt8.toNat_ofNat', UInt8.toNat_ofNat']
  have : (UInt64.ofNat 128).toNat = 128 := rfl
  rw [this]; omega

theorem l60 (F : Nat) : ∀ (m fuel : Nat) (x : UInt64) (l : List UInt8), x.toNat < 128 ^ (m + 1) → m < fuel → l.length + m < 1000000 → ∃ y pre, iter (fun s : UInt64 × List UInt8 => L60_2 F s.1 s.2) fuel (x, l) = some (y, l ++ pre) ∧ pre ++ [y.toUInt8] = encN m x.toNat ∧ pre.length ≤ m
  | m, 0, x, l, hx, hf, hl => by omega
  | 0, fuel + 1, x, l, hx, hf, hl => by
    have h : ¬ UInt64.ofNat 128 ≤ x := by
      show ¬ (128 ≤ x.toNat); omega
    have step : L60_2 F x l = some (.inr (x, l)) := by simp only [L60_2, L60_2c, h, decide_false, cond_false]
    refine ⟨x, [], ?_, by rw [List.nil_append, u8_of]; simp only [encN], by simp⟩
    rw [it_out (f := fun s : UInt64 × List UInt8 => L60_2 F s.1 s.2) (s := (x, l)) step]; simp
  | m + 1, fuel + 1, x, l, hx, hf, hl => by
    by_cases h : 128 ≤ x.toNat
    · have h' : UInt64.ofNat 128 ≤ x := h
      have hd := shr7 x
      have hlt : (shr64 x 7).toNat < 128 ^ (m + 1) := by rw [hd]; exact Nat.div_lt_of_lt_mul (by rw [Nat.pow_succ] at hx; omega)
      obtain ⟨y, pre, h1, h2, h3⟩ := l60 F m fuel (shr64 x 7) (l ++ [UInt8.ofNat (x.toNat % 128 + 128)]) hlt (by omega) (by simp; omega)
      refine ⟨y, UInt8.ofNat (x.toNat % 128 + 128) :: pre, ?_, ?_, by simp; omega⟩
      · have e7 : (UInt64.ofNat 7).toNat = 7 := rfl
        have hg : gapp l [x.toUInt8 ||| UInt8.ofNat 128] = some (l ++ [UInt8.ofNat (x.toNat % 128 + 128)]) := by
          rw [byte60]; unfold gapp; rw [if_pos (by simp; omega)]
        have step : L60_2 F x l = some (.inl (shr64 x 7, l ++ [UInt8.ofNat (x.toNat % 128 + 128)])) := by
          simp only [L60_2, L60_2c, h', decide_true, cond_true, hg, Option.bind_some, e7]
        rw [it_again (f := fun s : UInt64 × List UInt8 => L60_2 F s.1 s.2) (s := (x, l)) step, h1]
        simp
      · rw [List.cons_append, h2, hd]
        simp [encN, show ¬ x.toNat < 128 by omega]
    · have h' : ¬ UInt64.ofNat 128 ≤ x := h
      have step : L60_2 F x l = some (.inr (x, l)) := by simp only [L60_2, L60_2c, h', decide_false, cond_false]
      refine ⟨x, [], ?_, by rw [List.nil_append, u8_of]; simp only [encN, show x.toNat < 128 by omega, if_true], by simp⟩
      rw [it_out (f := fun s : UInt64 × List UInt8 => L60_2 F s.1 s.2) (s := (x, l)) step]; simp

theorem l45 (F : Nat) : ∀ (m fuel : Nat) (x : UInt64) (l : List UInt8), x.toNat < 128 ^ (m + 1) → m < fuel → l.length + m < 1000000 → ∃ y pre, iter (fun s : UInt64 × List UInt8 => L45_2 F s.1 s.2) fuel (x, l) = some (y, l ++ pre) ∧ pre ++ [y.toUInt8] = encN m x.toNat ∧ pre.length ≤ m
  | m, 0, x, l, hx, hf, hl => by omega
  | 0, fuel + 1, x, l, hx, hf, hl => by
    have h : ¬ UInt64.ofNat 127 < x := by
      show ¬ (127 < x.toNat); omega
    have step : L45_2 F x l = some (.inr (x, l)) := by simp only [L45_2, L45_2c, h, decide_false, cond_false]
    refine ⟨x, [], ?_, by rw [List.nil_append, u8_of]; simp only [encN], by simp⟩
    rw [it_out (f := fun s : UInt64 × List UInt8 => L45_2 F s.1 s.2) (s := (x, l)) step]; simp
  | m + 1, fuel + 1, x, l, hx, hf, hl => by
    by_cases h : 127 < x.toNat
    · have h' : UInt64.ofNat 127 < x := h
      have hd := div128 x
      have hlt : (x / UInt64.ofNat 128).toNat < 128 ^ (m + 1) := by rw [hd]; exact Nat.div_lt_of_lt_mul (by rw [Nat.pow_succ] at hx; omega)
      obtain ⟨y, pre, h1, h2, h3⟩ := l45 F m fuel (x / UInt64.ofNat 128) (l ++ [UInt8.ofNat (x.toNat % 128 + 128)]) hlt (by omega) (by simp; omega)
      refine ⟨y, UInt8.ofNat (x.toNat % 128 + 128) :: pre, ?_, ?_, by simp; omega⟩
      · have hg : gapp l [((x % (UInt64.ofNat 128)).toUInt8) + (UInt8.ofNat 128)] = some (l ++ [UInt8.ofNat (x.toNat % 128 + 128)]) := by
          rw [byte45]; unfold gapp; rw [if_pos (by simp; omega)]
        have step : L45_2 F x l = some (.inl (x / UInt64.ofNat 128, l ++ [UInt8.ofNat (x.toNat % 128 + 128)])) := by
          simp only [L45_2, L45_2c, h', decide_true, cond_true, hg, Option.bind_some]
        rw [it_again (f := fun s : UInt64 × List UInt8 => L45_2 F s.1 s.2) (s := (x, l)) step, h1]
        simp
      · rw [List.cons_append, h2, hd]
        simp [encN, show ¬ x.toNat < 128 by omega]
    · have h' : ¬ UInt64.ofNat 127 < x := h
      have step : L45_2 F x l = some (.inr (x, l)) := by simp only [L45_2, L45_2c, h', decide_false, cond_false]
      refine ⟨x, [], ?_, by rw [List.nil_append, u8_of]; simp only [encN, show x.toNat < 128 by omega, if_true], by simp⟩
      rw [it_out (f := fun s : UInt64 × List UInt8 => L45_2 F s.1 s.2) (s := (x, l)) step]; simp

/-- The bytes of a number. -/
def enc (n : Nat) : List UInt8 := encN 9 n

theorem u64_lt (x : UInt64) : x.toNat < 128 ^ (9 + 1) := Nat.lt_of_lt_of_le x.toNat_lt (by decide)

theorem t44 {F : Nat} (hF : 50 < F) (x : UInt64) : T44 F [] x = some (enc x.toNat) := by
  obtain ⟨y, pre, h1, h2, h3⟩ := l60 F 9 F x [] (u64_lt x) (by omega) (by simp)
  have w : w64 ((([] : List UInt8).length : Int) + 10) = 10 := by decide
  have g1 : gmake (0 : UInt8) (0 : Int) 10 = some [] := by decide
  have g2 : gapp ([] : List UInt8) [] = some [] := by decide
  simp only [T44, T44c, w, g1, g2, Option.bind_some, T60, T60c]
  rw [h1]
  simp only [Option.bind_some, List.nil_append]
  have : gapp pre [y.toUInt8] = some (pre ++ [y.toUInt8]) := by unfold gapp; rw [if_pos (by simp; omega)]
  rw [this, h2]; rfl

theorem t45' {F : Nat} (hF : 50 < F) (x : UInt64) : T45 F x = some (enc x.toNat) := by
  obtain ⟨y, pre, h1, h2, h3⟩ := l45 F 9 F x [] (u64_lt x) (by omega) (by simp)
  simp only [T45, T45c]
  rw [h1]
  simp only [Option.bind_some, List.nil_append]
  have : gapp pre [y.toUInt8] = some (pre ++ [y.toUInt8]) := by unfold gapp; rw [if_pos (by simp; omega)]
  rw [this, h2]; rfl

theorem encN_one {m n : Nat} (h : n < 128) : encN m n = [UInt8.ofNat n] := by
  cases m <;> simp [encN, h]

theorem enc_len {n : Nat} (h : n ≤ 32768) : (enc n).length = sz n := by
  unfold enc sz
  by_cases h1 : n < 128
  · simp [encN, h1]
  · by_cases h2 : n < 16384
    · simp [encN, h1, h2, show n / 128 < 128 by omega]
    · simp [encN, h1, h2, show ¬ n / 128 < 128 by omega, show n / 128 / 128 < 128 by omega]

/-- A body. -/
def bodyL (D : Nat) (c k : List UInt8) : List UInt8 := enc c.length ++ c ++ List.replicate (D - 16 - (enc c.length).length - c.length) 0 ++ k

theorem splice3 {e c k : List UInt8} {D : Nat} (h : e.length + c.length + 16 ≤ D) (hk : k.length = 16) :
    splice (splice (splice (List.replicate D (0 : UInt8)) 0 e e.length) e.length c c.length) (D - 16) k 16 = e ++ c ++ List.replicate (D - 16 - e.length - c.length) 0 ++ k := by
  have s1 : splice (List.replicate D (0 : UInt8)) 0 e e.length = e ++ List.replicate (D - e.length) 0 := by simp [splice]
  have s2 : splice (e ++ List.replicate (D - e.length) 0) e.length c c.length = e ++ c ++ List.replicate (D - e.length - c.length) 0 := by
    simp only [splice, List.take_left, List.take_length]
    rw [List.drop_append, List.drop_eq_nil_of_le (by omega)]
    simp
  rw [s1, s2]
  have e1 : (e ++ c).length = e.length + c.length := by simp
  simp only [splice]
  rw [List.take_append, List.take_of_length_le (by omega : (e ++ c).length ≤ D - 16), List.take_of_length_le (by omega : k.length ≤ 16), List.drop_eq_nil_of_le (by simp; omega)]
  simp [e1, List.take_replicate]
  omega

theorem splice_len {α : Type} (xs ys : List α) {lo c : Nat} (h1 : lo + c ≤ xs.length) (h2 : c ≤ ys.length) : (splice xs lo ys c).length = xs.length := by simp [splice]; omega

/-- Body, of a content and a check of the right lengths. -/
theorem t18 {F : Nat} (hF : 50 < F) {c k : List UInt8} (hc : c.length ≤ 32768) (hk : k.length = 16) : ∃ j, j < 38 ∧ T14 F (c.length : Int) = some (cls j, 0) ∧ (sz c.length : Nat) + (c.length : Int) + 16 ≤ cls j ∧ T18 F c k = some (0, bodyL (cls j).toNat c k) := by
  obtain ⟨j, hj, h1, h2, _⟩ := class_spec hF (n := (c.length : Int)) (by omega) (by omega)
  have hb := cls_b ⟨j, hj⟩
  simp only at hb
  have hs := sz_bd c.length
  rw [Int.toNat_natCast] at h2
  refine ⟨j, hj, h1, h2, ?_⟩
  have hx : (UInt64.ofInt (c.length : Int)).toNat = c.length := by rw [ofInt_nat (by omega) (by omega)]; simp
  have he := enc_len hc
  have hk' : ((k.length : Int) != 16) = false := by simp [hk]
  have g1 : gmake (0 : UInt8) (cls j) (cls j) = some (List.replicate (cls j).toNat 0) := by unfold gmake; rw [if_pos (by omega)]
  simp only [T18, T18c, hk', cond_false, h1, Option.bind_some, g1, t44 hF, hx]
  have e0 : ((0 : Int) != 0) = false := by decide
  simp only [e0, cond_false]
  have m1 : Nat.min (enc c.length).length (List.replicate (cls j).toNat (0 : UInt8)).length = (enc c.length).length := by
    simp only [List.length_replicate]; exact Nat.min_eq_left (by omega)
  have l1 : (splice (List.replicate (cls j).toNat (0 : UInt8)) 0 (enc c.length) (enc c.length).length).length = (cls j).toNat := by
    rw [splice_len _ _ (by simp; omega) (by omega)]; simp
  rw [m1, l1]
  have g2 : gslb (cls j).toNat (((enc c.length).length : Nat) : Int) (((cls j).toNat : Nat) : Int) = some ((enc c.length).length, (cls j).toNat) := by
    unfold gslb; rw [if_pos (by omega)]; simp only [Int.toNat_natCast]
  rw [g2]
  simp only [Option.bind_some]
  have m2 : Nat.min c.length ((cls j).toNat - (enc c.length).length) = c.length := Nat.min_eq_left (by omega)
  rw [m2]
  have l2 : (splice (splice (List.replicate (cls j).toNat (0 : UInt8)) 0 (enc c.length) (enc c.length).length) (enc c.length).length c c.length).length = (cls j).toNat := by
    rw [splice_len _ _ (by rw [l1]; omega) (by omega), l1]
  rw [l2]
  have w1 : w64 (cls j - 16) = cls j - 16 := w64_in (by omega) (by omega)
  have g3 : gslb (cls j).toNat (cls j - 16) (((cls j).toNat : Nat) : Int) = some ((cls j).toNat - 16, (cls j).toNat) := by
    unfold gslb; rw [if_pos (by omega)]; simp only [Int.toNat_natCast, Option.some.injEq, Prod.mk.injEq, and_true]; omega
  rw [w1, g3]
  simp only [Option.bind_some]
  have m3 : Nat.min k.length ((cls j).toNat - ((cls j).toNat - 16)) = 16 := by rw [hk]; exact Nat.min_eq_left (by omega)
  rw [m3, splice3 (by omega) hk]
  rfl

theorem bodyL_len' {D : Nat} {c k : List UInt8} (hc : c.length ≤ 32768) (hk : k.length = 16) (h : sz c.length + c.length + 16 ≤ D) : (bodyL D c k).length = D := by
  have := enc_len hc
  simp [bodyL, hk, this]; omega

theorem l19 (F : Nat) {C : Int} {D : Nat} (hC : w64 (C - 16) = (D : Int)) : ∀ (m fuel : Nat) (l : List UInt8), l.length + m = D → m < fuel → D < 1000000 → iter (fun s => L19_2 F C s) fuel l = some (l ++ List.replicate m 0)
  | m, 0, l, hl, hf, hD => by omega
  | 0, fuel + 1, l, hl, hf, hD => by
    have h : ¬ ((l.length : Int) < (D : Int)) := by omega
    simp [iter, L19_2, L19_2c, hC, h]
  | m + 1, fuel + 1, l, hl, hf, hD => by
    have h : ((l.length : Int) < (D : Int)) := by omega
    have hg : gapp l [UInt8.ofNat 0] = some (l ++ [0]) := by unfold gapp; rw [if_pos (by simp; omega)]; rfl
    have step : L19_2 F C l = some (.inl (l ++ [0])) := by
      simp only [L19_2, L19_2c, hC, h, decide_true, cond_true, hg, Option.bind_some]
    rw [it_again (f := fun s => L19_2 F C s) (s := l) step, l19 F hC m fuel (l ++ [0]) (by simp; omega) (by omega) hD]
    simp [List.replicate_succ]

theorem t19 {F : Nat} (hF : 41000 < F) {c k : List UInt8} (hc : c.length ≤ 32768) (hk : k.length = 16) {j : Nat} (hj : j < 38) (h1 : T14 F (c.length : Int) = some (cls j, 0)) (h2 : (sz c.length : Nat) + (c.length : Int) + 16 ≤ cls j) : T19 F c k = some (0, bodyL (cls j).toNat c k) := by
  have hb := cls_b ⟨j, hj⟩
  simp only at hb
  obtain ⟨r, e1, e2⟩ := class_eq (F := F) (by omega) (c.length : Int)
  rw [h1] at e1
  cases e1
  have hx : (UInt64.ofInt (c.length : Int)).toNat = c.length := by rw [ofInt_nat (by omega) (by omega)]; simp
  have he := enc_len hc
  have hs := sz_bd c.length
  have hk' : ((k.length : Int) != 16) = false := by simp [hk]
  have e0 : ((0 : Int) != 0) = false := by decide
  have g1 : gapp (enc c.length) c = some (enc c.length ++ c) := by unfold gapp; rw [if_pos (by omega)]
  simp only [T19, T19c, hk', cond_false, e2, Option.bind_some, e0, t45' (show 50 < F by omega), hx, g1]
  have w1 : w64 (cls j - 16) = (((cls j).toNat - 16 : Nat) : Int) := by rw [w64_in (by omega) (by omega)]; omega
  rw [l19 F w1 ((cls j).toNat - 16 - (enc c.length).length - c.length) F (enc c.length ++ c) (by simp; omega) (by omega) (by omega)]
  have g2 : gapp (enc c.length ++ c ++ List.replicate ((cls j).toNat - 16 - (enc c.length).length - c.length) 0) k = some (bodyL (cls j).toNat c k) := by
    unfold gapp; rw [if_pos (by simp; omega)]; rfl
  simp only [Option.bind_some, g2]

theorem body_eq {F : Nat} (hF : 41000 < F) (c k : List UInt8) : ∃ r, T18 F c k = some r ∧ T19 F c k = some r := by
  by_cases hk : k.length = 16
  · by_cases hc : c.length ≤ 32768
    · obtain ⟨j, hj, h1, h2, h3⟩ := t18 (F := F) (by omega) hc hk
      exact ⟨_, h3, t19 hF hc hk hj h1 h2⟩
    · obtain ⟨r, e1, e2⟩ := class_eq (F := F) (by omega) (c.length : Int)
      have h14 := t14_hi (F := F) (n := (c.length : Int)) (by omega)
      rw [h14] at e1
      cases e1
      have hk' : ((k.length : Int) != 16) = false := by simp [hk]
      have e0 : ((2 : Int) != 0) = true := by decide
      exact ⟨(2, []), by simp only [T18, T18c, hk', cond_false, h14, Option.bind_some, e0, cond_true], by simp only [T19, T19c, hk', cond_false, e2, Option.bind_some, e0, cond_true]⟩
  · have hk' : ((k.length : Int) != 16) = true := by simp; omega
    exact ⟨(1, []), by simp only [T18, T18c, hk', cond_true], by simp only [T19, T19c, hk', cond_true]⟩

/-- short: all lists have at most 400 bytes. -/
theorem t17 {F : Nat} (hF : 50 < F) (ls : List (List UInt8)) (hl : ls.length ≤ 5) : T17 F ls = some (ls.all fun x => decide (x.length ≤ 400)) := by
  have key : ∀ (m fuel i : Nat), i + m = ls.length → m < fuel → iter (fun s => L17_2 F ls (ls.length : Int) s) fuel ((i : Nat) : Int) = some (bif ((ls.drop i).all fun x => decide (x.length ≤ 400)) then .inl () else .inr false) := by
    intro m
    induction m with
    | zero =>
      intro fuel i hi hf
      obtain ⟨f, rfl⟩ : ∃ f, fuel = f + 1 := ⟨fuel - 1, by omega⟩
      have h : ¬ (((i : Nat) : Int) < (ls.length : Int)) := by omega
      rw [List.drop_eq_nil_of_le (by omega)]
      simp [iter, L17_2, L17_2c, h]
    | succ m ih =>
      intro fuel i hi hf
      obtain ⟨f, rfl⟩ : ∃ f, fuel = f + 1 := ⟨fuel - 1, by omega⟩
      have h : (((i : Nat) : Int) < (ls.length : Int)) := by omega
      have hlt : i < ls.length := by omega
      have hx : ix ls ((i : Nat) : Int) = some ls[i] := by unfold ix; rw [if_pos (by omega)]; simp [hlt]
      have w : w64 (((i : Nat) : Int) + 1) = (((i + 1 : Nat)) : Int) := by rw [w64_in (by omega) (by omega)]; omega
      rw [List.drop_eq_getElem_cons hlt, List.all_cons]
      by_cases hc : ls[i].length ≤ 400
      · have hc' : ¬ ((400 : Int) < (ls[i].length : Int)) := by omega
        have step : L17_2 F ls (ls.length : Int) ((i : Nat) : Int) = some (.inl (((i + 1 : Nat)) : Int)) := by
          simp only [L17_2, L17_2c, h, decide_true, cond_true, hx, Option.bind_some, hc', decide_false, cond_false, w]
        rw [it_again (f := fun s => L17_2 F ls (ls.length : Int) s) step, ih f (i + 1) (by omega) (by omega)]
        simp [hc]
      · have hc' : ((400 : Int) < (ls[i].length : Int)) := by omega
        have step : L17_2 F ls (ls.length : Int) ((i : Nat) : Int) = some (.inr (.inr false)) := by
          simp only [L17_2, L17_2c, h, decide_true, cond_true, hx, Option.bind_some, hc']
        rw [it_out (f := fun s => L17_2 F ls (ls.length : Int) s) step]
        simp [hc]
  have := key ls.length F 0 (by omega) (by omega)
  simp only [T17, T17c]
  have z : ((0 : Nat) : Int) = 0 := rfl
  rw [z] at this
  rw [this]
  simp only [List.drop_zero, Option.bind_some]
  cases (ls.all fun x => decide (x.length ≤ 400)) <;> rfl

theorem awake50k : T16 50000 = some true := by kernel_rfl
end Go.Proofs.YtjghgfohpihhfaaDoor
/- Xor, SealWith; SealSecret: the plain law. -/
namespace Go.Proofs.YtjghgfohpihhfaaDoor
open Go.Tw
set_option linter.unusedVariables false

def xorL (a b : List UInt8) : List UInt8 := List.zipWith (fun x y => x ^^^ y) a b

theorem xorL_len {a b : List UInt8} (h : a.length = b.length) : (xorL a b).length = a.length := by simp [xorL, h]

theorem xor8_cancel (x y : UInt8) : x ^^^ (x ^^^ y) = y := by rw [← UInt8.xor_assoc, UInt8.xor_self, UInt8.zero_xor]

theorem xorL_cancel : ∀ {a b : List UInt8}, a.length = b.length → xorL a (xorL a b) = b
  | [], [], _ => rfl
  | [], _ :: _, h => by simp at h
  | _ :: _, [], h => by simp at h
  | x :: a, y :: b, h => by
    have ih := xorL_cancel (a := a) (b := b) (by simpa using h)
    simp only [xorL, List.zipWith_cons_cons] at ih ⊢
    rw [xor8_cancel, ih]

theorem xorL_comm : ∀ (a b : List UInt8), xorL a b = xorL b a
  | [], [] => rfl
  | [], _ :: _ => rfl
  | _ :: _, [] => rfl
  | x :: a, y :: b => by
    have ih := xorL_comm a b
    simp only [xorL, List.zipWith_cons_cons] at ih ⊢
    rw [UInt8.xor_comm, ih]

theorem l57 (F : Nat) {a b : List UInt8} (hab : a.length = b.length) (hn : a.length < 1000000) : ∀ (m fuel i : Nat), i + m = a.length → m < fuel → iter (fun s : Int × List UInt8 => L57_2 F a b (a.length : Int) s.1 s.2) fuel (((i : Nat) : Int), xorL (a.take i) (b.take i) ++ List.replicate m 0) = some (xorL a b)
  | m, 0, i, hi, hf => by omega
  | 0, fuel + 1, i, hi, hf => by
    have h : ¬ (((i : Nat) : Int) < (a.length : Int)) := by omega
    have e1 : a.take i = a := List.take_of_length_le (by omega)
    have e2 : b.take i = b := List.take_of_length_le (by omega)
    have step : L57_2 F a b (a.length : Int) ((i : Nat) : Int) (xorL (a.take i) (b.take i) ++ List.replicate 0 0) = some (.inr (xorL a b)) := by
      simp only [L57_2, L57_2c, h, decide_false, cond_false, e1, e2, List.replicate_zero, List.append_nil]
    rw [it_out (f := fun s : Int × List UInt8 => L57_2 F a b (a.length : Int) s.1 s.2) (s := (((i : Nat) : Int), _)) step]
  | m + 1, fuel + 1, i, hi, hf => by
    have h : (((i : Nat) : Int) < (a.length : Int)) := by omega
    have ha : i < a.length := by omega
    have hb : i < b.length := by omega
    have hx : ix a ((i : Nat) : Int) = some a[i] := by unfold ix; rw [if_pos (by omega)]; simp [ha]
    have hy : ix b ((i : Nat) : Int) = some b[i] := by unfold ix; rw [if_pos (by omega)]; simp [hb]
    have w : w64 (((i : Nat) : Int) + 1) = (((i + 1 : Nat)) : Int) := by rw [w64_in (by omega) (by omega)]; omega
    have hl : (xorL (a.take i) (b.take i)).length = i := by rw [xorL_len (by simp; omega)]; simp; omega
    have hin : inb (xorL (a.take i) (b.take i) ++ List.replicate (m + 1) 0).length ((i : Nat) : Int) = some i := by
      unfold inb; rw [if_pos (by simp [hl]; omega)]; simp
    have hset : List.set (xorL (a.take i) (b.take i) ++ List.replicate (m + 1) 0) i (a[i] ^^^ b[i]) = xorL (a.take (i + 1)) (b.take (i + 1)) ++ List.replicate m 0 := by
      rw [List.set_append_right _ _ (by omega), hl, Nat.sub_self, List.replicate_succ, List.set_cons_zero]
      have : xorL (a.take (i + 1)) (b.take (i + 1)) = xorL (a.take i) (b.take i) ++ [a[i] ^^^ b[i]] := by
        simp only [xorL]
        rw [List.take_succ_eq_append_getElem ha, List.take_succ_eq_append_getElem hb, List.zipWith_append (by simp; omega)]
        rfl
      rw [this]; simp
    have step : L57_2 F a b (a.length : Int) ((i : Nat) : Int) (xorL (a.take i) (b.take i) ++ List.replicate (m + 1) 0) = some (.inl (((i + 1 : Nat) : Int), xorL (a.take (i + 1)) (b.take (i + 1)) ++ List.replicate m 0)) := by
      simp only [L57_2, L57_2c, h, decide_true, cond_true, hx, hy, hin, Option.bind_some, w, hset]
    rw [it_again (f := fun s : Int × List UInt8 => L57_2 F a b (a.length : Int) s.1 s.2) (s := (((i : Nat) : Int), _)) step]
    exact l57 F hab hn m fuel (i + 1) (by omega) (by omega)

theorem t57 {F : Nat} {a b : List UInt8} (hF : a.length < F) (hn : a.length < 1000000) (h : a.length = b.length) : T57 F a b = some (0, xorL a b) := by
  have e : ((a.length : Int) != (b.length : Int)) = false := by simp [h]
  have g : gmake (0 : UInt8) (a.length : Int) (a.length : Int) = some (List.replicate a.length 0) := by unfold gmake; rw [if_pos (by omega)]; simp
  have l := l57 F h hn a.length F 0 (by omega) hF
  have z : ((0 : Nat) : Int) = 0 := rfl
  simp only [List.take_zero, z] at l
  have x0 : xorL [] [] = [] := rfl
  rw [x0, List.nil_append] at l
  simp only [T57, T57c, e, cond_false, g, Option.bind_some, l]

theorem t57n {F : Nat} {a b : List UInt8} (h : a.length ≠ b.length) : T57 F a b = some (1, []) := by
  have e : ((a.length : Int) != (b.length : Int)) = true := by simp; omega
  simp only [T57, T57c, e, cond_true]

theorem bodyL_len {D : Nat} {c k : List UInt8} (hc : c.length ≤ 32768) (hk : k.length = 16) (h : sz c.length + c.length + 16 ≤ D) : (bodyL D c k).length = D := by
  have := enc_len hc
  simp [bodyL, hk, this]; omega

/-- SealWith. -/
theorem t34 {F : Nat} (hF : 41000 < F) {s k c : List UInt8} (hc : c.length ≤ 32768) (hk : k.length = 16) {j : Nat} (hj : j < 38) (h1 : T14 F (c.length : Int) = some (cls j, 0)) (hs : s.length = (cls j).toNat) :
    T34 F s k c = some (0, xorL (bodyL (cls j).toNat c k) s) ∧ (bodyL (cls j).toNat c k).length = (cls j).toNat := by
  obtain ⟨j', hj', h1', h2, h3⟩ := t18 (F := F) (by omega) hc hk
  rw [h1] at h1'
  have hjj : cls j = cls j' := by simpa using h1'
  rw [← hjj] at h2 h3
  have hb := cls_b ⟨j, hj⟩
  simp only at hb
  have hl := bodyL_len (D := (cls j).toNat) hc hk (by omega)
  refine ⟨?_, hl⟩
  have e0 : ((0 : Int) != 0) = false := by decide
  simp only [T34, T34c, h3, Option.bind_some, e0, cond_false]
  rw [t57 (by omega) (by omega) (by omega)]
  rfl

end Go.Proofs.YtjghgfohpihhfaaDoor
/- Numbers that are read from bytes: by the code and by its specification. Plain laws. -/
namespace Go.Proofs.YtjghgfohpihhfaaDoor
open Go.Tw
set_option linter.unusedVariables false
set_option linter.unusedSimpArgs false

/-- The number that stands at the head of some bytes, of which i have been read, and its length. -/
def decS : Nat → List UInt8 → Option (Nat × Nat)
  | _, [] => none
  | i, b :: r => if 10 ≤ i then none else if 128 ≤ b.toNat then (match decS (i + 1) r with
      | some (v, n) => some (b.toNat % 128 + 128 * v, n + 1)
      | none => none) else if 0 < i ∧ b.toNat = 0 then none else if i = 9 ∧ 1 < b.toNat then none else some (b.toNat, 1)

theorem decS_bd : ∀ (l : List UInt8) (i v n : Nat), i ≤ 10 → decS i l = some (v, n) → v * 128 ^ i < 2 ^ 64 ∧ 1 ≤ n ∧ n ≤ l.length ∧ i + n ≤ 10 ∧ (0 < i → 0 < v)
  | [], i, v, n, hi, h => by simp [decS] at h
  | b :: r, i, v, n, hi, h => by
    simp only [decS] at h
    split at h
    · cases h
    split at h
    · split at h <;> first | (cases h; done) | skip
      rename_i v' n' hr
      cases h
      obtain ⟨h1, h2, h3, h4, h5⟩ := decS_bd r (i + 1) v' n' (by omega) hr
      have hv := h5 (by omega)
      refine ⟨?_, by omega, by simp; omega, by omega, fun _ => by omega⟩
      have hb : b.toNat % 128 < 128 := Nat.mod_lt _ (by omega)
      -- v' * 128^(i+1) < 2^64, both multiples
      have hi' : i ≤ 8 := by omega
      have e : v' * 128 ^ (i + 1) = 128 * v' * 128 ^ i := by rw [Nat.pow_succ]; ac_rfl
      rw [e] at h1
      have hd : (2 : Nat) ^ 64 = 2 ^ (64 - 7 * i) * 128 ^ i := by
        have : (128 : Nat) ^ i = 2 ^ (7 * i) := by rw [Nat.pow_mul]
        rw [this, ← Nat.pow_add]; congr 1; omega
      have hp : 0 < 128 ^ i := Nat.pow_pos (by omega)
      rw [hd] at h1 ⊢
      have h1' : 128 * v' < 2 ^ (64 - 7 * i) := Nat.lt_of_mul_lt_mul_right h1
      have hd2 : (2 : Nat) ^ (64 - 7 * i) = 128 * 2 ^ (57 - 7 * i) := by
        rw [show (128 : Nat) = 2 ^ 7 from rfl, ← Nat.pow_add]; congr 1; omega
      rw [hd2] at h1' ⊢
      have h1'' : v' < 2 ^ (57 - 7 * i) := Nat.lt_of_mul_lt_mul_left h1'
      exact Nat.mul_lt_mul_of_pos_right (by omega) hp
    · split at h
      · cases h
      split at h
      · cases h
      rename_i hx hb h0 h9
      cases h
      refine ⟨?_, by omega, by simp, by omega, fun h => by omega⟩
      have hp : 128 ^ i = 2 ^ (7 * i) := by rw [show (128 : Nat) = 2 ^ 7 from rfl, Nat.pow_mul]
      by_cases hi9 : i = 9
      · subst hi9
        have : b.toNat ≤ 1 := by omega
        calc b.toNat * 128 ^ 9 ≤ 1 * 128 ^ 9 := Nat.mul_le_mul_right _ this
          _ < 2 ^ 64 := by decide
      · have h1 : b.toNat * 128 ^ i < 128 * 128 ^ i := Nat.mul_lt_mul_of_pos_right (by omega) (Nat.pow_pos (by omega))
        have h2 : 128 * 128 ^ i ≤ 128 * 128 ^ 8 := Nat.mul_le_mul_left _ (Nat.pow_le_pow_right (by omega) (by omega))
        have h3 : 128 * 128 ^ 8 < 2 ^ 64 := by decide
        omega

/-- What is read there are the number's bytes. -/
theorem decS_enc : ∀ (l : List UInt8) (i v n : Nat), i < 10 → decS i l = some (v, n) → l.take n = encN (9 - i) v ∧ (encN (9 - i) v).length = n
  | [], i, v, n, hi, h => by simp [decS] at h
  | b :: r, i, v, n, hi, h => by
    have hbd := decS_bd (b :: r) i v n (by omega) h
    simp only [decS] at h
    split at h
    · cases h
    split at h
    · split at h <;> first | (cases h; done) | skip
      rename_i hi10 hb v' n' hr
      cases h
      obtain ⟨h1, h2, h3, h4, h5⟩ := decS_bd r (i + 1) v' n' (by omega) hr
      have hv := h5 (by omega)
      obtain ⟨h6, h7⟩ := decS_enc r (i + 1) v' n' (by omega) hr
      have e : 9 - i = (9 - (i + 1)) + 1 := by omega
      have hb2 : b.toNat < 256 := b.toNat_lt
      rw [e]
      simp only [encN]
      rw [if_neg (by omega), show (b.toNat % 128 + 128 * v') / 128 = v' by omega, show (b.toNat % 128 + 128 * v') % 128 = b.toNat % 128 by omega, show b.toNat % 128 + 128 = b.toNat by omega]
      exact ⟨by rw [List.take_succ_cons, h6, UInt8.ofNat_toNat], by rw [List.length_cons, h7]⟩
    · split at h
      · cases h
      split at h
      · cases h
      rename_i hx hb h0 h9
      cases h
      have : encN (9 - i) b.toNat = [UInt8.ofNat b.toNat] := encN_one (by omega)
      rw [this]; simp

/-- A number's bytes read as it. -/
theorem enc_decS : ∀ (m v : Nat) (r : List UInt8), m ≤ 9 → v * 128 ^ (9 - m) < 2 ^ 64 → (m < 9 → 0 < v) → decS (9 - m) (encN m v ++ r) = some (v, (encN m v).length)
  | 0, v, r, hm, hv, h0 => by
    have hv1 : v ≤ 1 := by
      rcases Nat.lt_or_ge 1 v with h | h
      · have : 2 * 128 ^ 9 ≤ v * 128 ^ 9 := Nat.mul_le_mul_right _ h
        have : 2 * 128 ^ 9 = 2 ^ 64 := by decide
        simp only [Nat.sub_zero] at hv
        omega
      · exact h
    have hp := h0 (by omega)
    obtain rfl : v = 1 := by omega
    rfl
  | m + 1, v, r, hm, hv, h0 => by
    simp only [encN]
    by_cases h : v < 128
    · rw [if_pos h]
      have hb : (UInt8.ofNat v).toNat = v := by rw [UInt8.toNat_ofNat']; omega
      simp only [List.cons_append, List.nil_append, decS, hb]
      rw [if_neg (by omega), if_neg (by omega)]
      by_cases h9 : m + 1 = 9
      · rw [if_neg (by omega), if_neg (by omega)]; rfl
      · have := h0 (by omega)
        rw [if_neg (by omega), if_neg (by omega)]; rfl
    · rw [if_neg h]
      have hb : (UInt8.ofNat (v % 128 + 128)).toNat = v % 128 + 128 := by rw [UInt8.toNat_ofNat']; omega
      have hd : v / 128 * 128 ^ (9 - m) < 2 ^ 64 := by
        have e : (128 : Nat) ^ (9 - m) = 128 ^ (9 - (m + 1)) * 128 := by rw [← Nat.pow_succ]; congr 1; omega
        rw [e]
        calc v / 128 * (128 ^ (9 - (m + 1)) * 128) = (v / 128 * 128) * 128 ^ (9 - (m + 1)) := by ac_rfl
          _ ≤ v * 128 ^ (9 - (m + 1)) := Nat.mul_le_mul_right _ (Nat.div_mul_le_self v 128)
          _ < 2 ^ 64 := hv
      have ih := enc_decS m (v / 128) r (by omega) hd (fun _ => by omega)
      simp only [List.cons_append, decS, hb]
      rw [if_neg (by omega), if_pos (by omega), show 9 - (m + 1) + 1 = 9 - m by omega, ih]
      simp only [Option.some.injEq, Prod.mk.injEq, List.length_cons, and_true]
      omega

theorem enc_dec {v : Nat} (hv : v < 2 ^ 64) (r : List UInt8) : decS 0 (enc v ++ r) = some (v, (enc v).length) :=
  enc_decS 9 v r (by omega) (by simpa using hv) (fun h => by omega)

theorem dec_enc {l : List UInt8} {v n : Nat} (h : decS 0 l = some (v, n)) : l.take n = enc v ∧ (enc v).length = n ∧ v < 2 ^ 64 ∧ n ≤ l.length := by
  obtain ⟨h1, h2⟩ := decS_enc l 0 v n (by omega) h
  have h3 := decS_bd l 0 v n (by omega) h
  exact ⟨h1, h2, by simpa using h3.1, h3.2.2.1⟩

/- ## the code's reading -/
theorem or_add {a x i : Nat} (h : a < 2 ^ i) : a ||| (x * 2 ^ i) = a + x * 2 ^ i := by
  rw [Nat.or_comm, Nat.add_comm, ← Nat.shiftLeft_eq, Nat.shiftLeft_add_eq_or_of_lt h]

theorem and127 : ∀ b : Fin 256, (UInt8.ofNat b.val &&& UInt8.ofNat 127).toNat = b.val % 128 := by decide +kernel

theorem and127' (b : UInt8) : (b &&& UInt8.ofNat 127).toNat = b.toNat % 128 := by
  have := and127 ⟨b.toNat, b.toNat_lt⟩
  simpa using this

theorem acc90 {acc : UInt64} {b : UInt8} {i : Nat} (hi : i ≤ 9) (ha : acc.toNat < 128 ^ i) (h9 : i = 9 → b.toNat % 128 ≤ 1) : (acc ||| (shl64 ((b &&& (UInt8.ofNat 127)).toUInt64) (7 * i))).toNat = acc.toNat + b.toNat % 128 * 128 ^ i ∧ b.toNat % 128 * 128 ^ i < 2 ^ 64 := by
  have hp : (128 : Nat) ^ i = 2 ^ (7 * i) := by rw [show (128 : Nat) = 2 ^ 7 from rfl, Nat.pow_mul]
  have hlt : b.toNat % 128 * 128 ^ i < 2 ^ 64 := by
    by_cases h : i = 9
    · subst h
      calc b.toNat % 128 * 128 ^ 9 ≤ 1 * 128 ^ 9 := Nat.mul_le_mul_right _ (h9 rfl)
        _ < 2 ^ 64 := by decide
    · have h1 : b.toNat % 128 * 128 ^ i < 128 * 128 ^ i := Nat.mul_lt_mul_of_pos_right (Nat.mod_lt _ (by omega)) (Nat.pow_pos (by omega))
      have h2 : 128 * 128 ^ i ≤ 128 * 128 ^ 8 := Nat.mul_le_mul_left _ (Nat.pow_le_pow_right (by omega) (by omega))
      have h3 : 128 * 128 ^ 8 < 2 ^ 64 := by decide
      omega
  refine ⟨?_, hlt⟩
  have hs : (shl64 ((b &&& (UInt8.ofNat 127)).toUInt64) (7 * i)).toNat = b.toNat % 128 * 128 ^ i := by
    show (((b &&& (UInt8.ofNat 127)).toUInt64).toBitVec <<< (7 * i)).toNat = _
    rw [BitVec.toNat_shiftLeft]
    have e1 : ((b &&& (UInt8.ofNat 127)).toUInt64).toBitVec.toNat = b.toNat % 128 := by
      show ((b &&& (UInt8.ofNat 127)).toUInt64).toNat = _
      rw [UInt8.toNat_toUInt64, and127']
    rw [e1, Nat.shiftLeft_eq, ← hp, Nat.mod_eq_of_lt hlt]
  rw [UInt64.toNat_or, hs, hp]
  rw [hp] at ha
  exact or_add ha

theorem l90 (F : Nat) (b : List UInt8) (hb : b.length < 1000000000) : ∀ (m i fuel pos : Nat) (acc : UInt64), i + m = 10 → m < fuel → acc.toNat < 128 ^ i → pos ≤ b.length →
    (∃ v n, decS i (b.drop pos) = some (v, n) ∧ iter (fun s : UInt64 × Int × Int => L90_2 F b s.1 s.2.1 s.2.2) fuel (acc, ((i : Nat) : Int), ((pos : Nat) : Int)) = some (.inr (UInt64.ofNat (acc.toNat + v * 128 ^ i), 0, ((pos + n : Nat) : Int)))) ∨
    (decS i (b.drop pos) = none ∧ ((∃ p, iter (fun s : UInt64 × Int × Int => L90_2 F b s.1 s.2.1 s.2.2) fuel (acc, ((i : Nat) : Int), ((pos : Nat) : Int)) = some (.inl p)) ∨ ∃ p, iter (fun s : UInt64 × Int × Int => L90_2 F b s.1 s.2.1 s.2.2) fuel (acc, ((i : Nat) : Int), ((pos : Nat) : Int)) = some (.inr (UInt64.ofNat 0, 3, p))))
  | m, i, 0, pos, acc, him, hf, ha, hp => by omega
  | 0, i, fuel + 1, pos, acc, him, hf, ha, hp => by
    right
    have h : ¬ (((i : Nat) : Int) < 10) := by omega
    refine ⟨?_, .inl ⟨((pos : Nat) : Int), ?_⟩⟩
    · cases b.drop pos with
      | nil => rfl
      | cons x r => simp only [decS]; rw [if_pos (by omega)]
    · have step : L90_2 F b acc ((i : Nat) : Int) ((pos : Nat) : Int) = some (.inr (.inl ((pos : Nat) : Int))) := by
        simp only [L90_2, L90_2c, h, decide_false, cond_false]
      rw [it_out (f := fun s : UInt64 × Int × Int => L90_2 F b s.1 s.2.1 s.2.2) (s := (acc, ((i : Nat) : Int), ((pos : Nat) : Int))) step]
  | m + 1, i, fuel + 1, pos, acc, him, hf, ha, hp => by
    have h : (((i : Nat) : Int) < 10) := by omega
    by_cases he : pos = b.length
    · right
      have e1 : (((pos : Nat) : Int) == (b.length : Int)) = true := by simp [he]
      refine ⟨by rw [List.drop_eq_nil_of_le (by omega)]; rfl, .inr ⟨((pos : Nat) : Int), ?_⟩⟩
      have step : L90_2 F b acc ((i : Nat) : Int) ((pos : Nat) : Int) = some (.inr (.inr (UInt64.ofNat 0, 3, ((pos : Nat) : Int)))) := by
        simp only [L90_2, L90_2c, h, decide_true, cond_true, e1]
      rw [it_out (f := fun s : UInt64 × Int × Int => L90_2 F b s.1 s.2.1 s.2.2) (s := (acc, ((i : Nat) : Int), ((pos : Nat) : Int))) step]
    · have hlt : pos < b.length := by omega
      have e1 : (((pos : Nat) : Int) == (b.length : Int)) = false := by simp; omega
      have hin : inb b.length ((pos : Nat) : Int) = some pos := by unfold inb; rw [if_pos (by omega)]; simp
      have hg : gnn (w64 ((7 : Int) * ((i : Nat) : Int))) = some (7 * i) := by
        have w : w64 ((7 : Int) * ((i : Nat) : Int)) = ((7 * i : Nat) : Int) := by rw [w64_in (by omega) (by omega)]; omega
        rw [w]; unfold gnn; rw [if_pos (by omega)]; simp only [Int.toNat_natCast]
      have w1 : w64 (((i : Nat) : Int) + 1) = ((i + 1 : Nat) : Int) := by rw [w64_in (by omega) (by omega)]; omega
      have w2 : w64 (((pos : Nat) : Int) + 1) = ((pos + 1 : Nat) : Int) := by rw [w64_in (by omega) (by omega)]; omega
      have hd : b.drop pos = b[pos] :: b.drop (pos + 1) := List.drop_eq_getElem_cons hlt
      rw [hd]
      have hx : b[pos].toNat < 256 := b[pos].toNat_lt
      have hpw : (128 : Nat) ^ (i + 1) = 128 ^ i * 128 := Nat.pow_succ ..
      by_cases hc : 128 ≤ b[pos].toNat
      · have hc' : UInt8.ofNat 128 ≤ b[pos] := hc
        have step : L90_2 F b acc ((i : Nat) : Int) ((pos : Nat) : Int) = some (.inl (acc ||| (shl64 ((b[pos] &&& (UInt8.ofNat 127)).toUInt64) (7 * i)), ((i + 1 : Nat) : Int), ((pos + 1 : Nat) : Int))) := by
          simp only [L90_2, L90_2c, h, decide_true, cond_true, e1, cond_false, hin, Option.bind_some, List.getElem?_eq_getElem hlt, hg, hc', w1, w2]
        rw [it_again (f := fun s : UInt64 × Int × Int => L90_2 F b s.1 s.2.1 s.2.2) (s := (acc, ((i : Nat) : Int), ((pos : Nat) : Int))) step]
        have hds : decS i (b[pos] :: b.drop (pos + 1)) = (match decS (i + 1) (b.drop (pos + 1)) with
            | some (v, n) => some (b[pos].toNat % 128 + 128 * v, n + 1)
            | none => none) := by
          simp only [decS]; rw [if_neg (by omega), if_pos hc]
        rw [hds]
        by_cases hi9 : i = 9
        · -- the last round
          subst hi9
          have hn : decS (9 + 1) (b.drop (pos + 1)) = none := by
            cases b.drop (pos + 1) with
            | nil => rfl
            | cons x r => simp [decS]
          rw [hn]
          right
          refine ⟨rfl, ?_⟩
          obtain ⟨f, rfl⟩ : ∃ f, fuel = f + 1 := ⟨fuel - 1, by omega⟩
          left
          have h' : ¬ (((9 + 1 : Nat) : Int) < 10) := by omega
          refine ⟨((pos + 1 : Nat) : Int), ?_⟩
          have step2 : ∀ a : UInt64, L90_2 F b a ((9 + 1 : Nat) : Int) ((pos + 1 : Nat) : Int) = some (.inr (.inl ((pos + 1 : Nat) : Int))) := fun a => by
            simp only [L90_2, L90_2c, h', decide_false, cond_false]
          rw [it_out (f := fun s : UInt64 × Int × Int => L90_2 F b s.1 s.2.1 s.2.2) (s := (_, ((9 + 1 : Nat) : Int), ((pos + 1 : Nat) : Int))) (step2 _)]
        · obtain ⟨hacc, _⟩ := acc90 (acc := acc) (b := b[pos]) (i := i) (by omega) ha (fun h => absurd h hi9)
          have hacc2 : (acc ||| (shl64 ((b[pos] &&& (UInt8.ofNat 127)).toUInt64) (7 * i))).toNat < 128 ^ (i + 1) := by
            rw [hacc, hpw]
            have : b[pos].toNat % 128 * 128 ^ i ≤ 127 * 128 ^ i := Nat.mul_le_mul_right _ (by omega)
            omega
          rcases l90 F b hb m (i + 1) fuel (pos + 1) _ (by omega) (by omega) hacc2 (by omega) with ⟨v, n, h1, h2⟩ | ⟨h1, h2⟩
          · left
            rw [h1]
            refine ⟨_, _, rfl, ?_⟩
            rw [h2, hacc]
            have e : acc.toNat + b[pos].toNat % 128 * 128 ^ i + v * 128 ^ (i + 1) = acc.toNat + (b[pos].toNat % 128 + 128 * v) * 128 ^ i := by
              rw [hpw, Nat.add_mul, Nat.add_assoc]; congr 2; ac_rfl
            rw [e, show pos + 1 + n = pos + (n + 1) by omega]
          · right
            rw [h1]
            exact ⟨rfl, h2⟩
      · have hc' : ¬ UInt8.ofNat 128 ≤ b[pos] := hc
        have hds : decS i (b[pos] :: b.drop (pos + 1)) = (if 0 < i ∧ b[pos].toNat = 0 then none else if i = 9 ∧ 1 < b[pos].toNat then none else some (b[pos].toNat, 1)) := by
          simp only [decS]; rw [if_neg (by omega), if_neg hc]
        rw [hds]
        have good : (i = 9 → b[pos].toNat ≤ 1) → L90_2 F b acc ((i : Nat) : Int) ((pos : Nat) : Int) = some (.inr (.inr (acc ||| (shl64 ((b[pos] &&& (UInt8.ofNat 127)).toUInt64) (7 * i)), 0, ((pos + 1 : Nat) : Int)))) →
            iter (fun s : UInt64 × Int × Int => L90_2 F b s.1 s.2.1 s.2.2) (fuel + 1) (acc, ((i : Nat) : Int), ((pos : Nat) : Int)) = some (.inr (UInt64.ofNat (acc.toNat + b[pos].toNat * 128 ^ i), 0, ((pos + 1 : Nat) : Int))) := fun h9 step => by
          rw [it_out (f := fun s : UInt64 × Int × Int => L90_2 F b s.1 s.2.1 s.2.2) (s := (acc, ((i : Nat) : Int), ((pos : Nat) : Int))) step]
          obtain ⟨hacc, _⟩ := acc90 (acc := acc) (b := b[pos]) (i := i) (by omega) ha (fun h => by have := h9 h; omega)
          have hm : b[pos].toNat % 128 = b[pos].toNat := Nat.mod_eq_of_lt (by omega)
          rw [hm] at hacc
          rw [← hacc, UInt64.ofNat_toNat]
        have bad : L90_2 F b acc ((i : Nat) : Int) ((pos : Nat) : Int) = some (.inr (.inr (UInt64.ofNat 0, 3, ((pos + 1 : Nat) : Int)))) → ∃ p, iter (fun s : UInt64 × Int × Int => L90_2 F b s.1 s.2.1 s.2.2) (fuel + 1) (acc, ((i : Nat) : Int), ((pos : Nat) : Int)) = some (.inr (UInt64.ofNat 0, 3, p)) := fun step =>
          ⟨_, by rw [it_out (f := fun s : UInt64 × Int × Int => L90_2 F b s.1 s.2.1 s.2.2) (s := (acc, ((i : Nat) : Int), ((pos : Nat) : Int))) step]⟩
        have base : ∀ z, (L90_2 F b acc ((i : Nat) : Int) ((pos : Nat) : Int) = z) ↔ ((bif decide ((0 : Int) < ((i : Nat) : Int)) then (bif (b[pos] == (UInt8.ofNat 0)) then some (.inr (.inr (UInt64.ofNat 0, 3, ((pos + 1 : Nat) : Int)))) else (bif (((i : Nat) : Int) == 9) then (bif decide (UInt8.ofNat 1 < b[pos]) then some (.inr (.inr (UInt64.ofNat 0, 3, ((pos + 1 : Nat) : Int)))) else some (.inr (.inr (acc ||| (shl64 ((b[pos] &&& (UInt8.ofNat 127)).toUInt64) (7 * i)), 0, ((pos + 1 : Nat) : Int))))) else some (.inr (.inr (acc ||| (shl64 ((b[pos] &&& (UInt8.ofNat 127)).toUInt64) (7 * i)), 0, ((pos + 1 : Nat) : Int)))))) else (bif (((i : Nat) : Int) == 9) then (bif decide (UInt8.ofNat 1 < b[pos]) then some (.inr (.inr (UInt64.ofNat 0, 3, ((pos + 1 : Nat) : Int)))) else some (.inr (.inr (acc ||| (shl64 ((b[pos] &&& (UInt8.ofNat 127)).toUInt64) (7 * i)), 0, ((pos + 1 : Nat) : Int))))) else some (.inr (.inr (acc ||| (shl64 ((b[pos] &&& (UInt8.ofNat 127)).toUInt64) (7 * i)), 0, ((pos + 1 : Nat) : Int)))))) = z) := fun z => by
          simp only [L90_2, L90_2c, h, decide_true, cond_true, e1, cond_false, hin, Option.bind_some, List.getElem?_eq_getElem hlt, hg, hc', decide_false, w2]
        have b0 : (b[pos] == UInt8.ofNat 0) = decide (b[pos].toNat = 0) := by
          rw [Bool.eq_iff_iff]; simp only [beq_iff_eq, decide_eq_true_eq]
          exact ⟨fun h => by rw [h]; rfl, fun h => UInt8.toNat_inj.1 (by rw [h]; rfl)⟩
        have b1 : decide (UInt8.ofNat 1 < b[pos]) = decide (1 < b[pos].toNat) := rfl
        have i0 : decide ((0 : Int) < ((i : Nat) : Int)) = decide (0 < i) := by rw [Bool.eq_iff_iff]; simp
        have i9 : (((i : Nat) : Int) == 9) = decide (i = 9) := by rw [Bool.eq_iff_iff]; simp; omega
        rw [b0, b1, i0, i9] at base
        by_cases c1 : 0 < i ∧ b[pos].toNat = 0
        · right
          rw [if_pos c1]
          exact ⟨rfl, .inr (bad ((base _).2 (by simp [c1.1, c1.2])))⟩
        · rw [if_neg c1]
          by_cases c2 : i = 9 ∧ 1 < b[pos].toNat
          · right
            rw [if_pos c2]
            have hz : ¬ b[pos].toNat = 0 := by omega
            exact ⟨rfl, .inr (bad ((base _).2 (by simp [c2.1, c2.2, hz])))⟩
          · left
            rw [if_neg c2]
            refine ⟨_, _, rfl, good (fun h => by omega) ((base _).2 ?_)⟩
            by_cases hi0 : 0 < i
            · have hz : ¬ b[pos].toNat = 0 := fun h => c1 ⟨hi0, h⟩
              by_cases hi9 : i = 9
              · have : ¬ 1 < b[pos].toNat := fun h => c2 ⟨hi9, h⟩
                simp [hi0, hz, hi9, this]
              · simp [hi0, hz, hi9]
            · have hi9 : ¬ i = 9 := by omega
              simp [hi0, hi9]

/-- number, of the code. -/
theorem t90 {F : Nat} (hF : 50 < F) (b : List UInt8) (hb : b.length < 1000000000) {pos : Nat} (hp : pos ≤ b.length) :
    (∃ v n, decS 0 (b.drop pos) = some (v, n) ∧ T90 F ((pos : Nat) : Int) b = some (UInt64.ofNat v, 0, ((pos + n : Nat) : Int))) ∨
    (decS 0 (b.drop pos) = none ∧ ∃ p, T90 F ((pos : Nat) : Int) b = some (UInt64.ofNat 0, 3, p)) := by
  have z : ((0 : Nat) : Int) = 0 := rfl
  rcases l90 F b hb 10 0 F pos (UInt64.ofNat 0) (by omega) (by omega) (by decide) hp with ⟨v, n, h1, h2⟩ | ⟨h1, h2⟩
  · left
    rw [z] at h2
    refine ⟨v, n, h1, ?_⟩
    simp only [T90, T90c]
    rw [h2]
    simp [elimS]
  · right
    rw [z] at h2
    refine ⟨h1, ?_⟩
    rcases h2 with ⟨p, h2⟩ | ⟨p, h2⟩
    · exact ⟨p, by simp only [T90, T90c]; rw [h2]; rfl⟩
    · exact ⟨p, by simp only [T90, T90c]; rw [h2]; rfl⟩
end Go.Proofs.YtjghgfohpihhfaaDoor
/- Numbers that are read by the specification. Plain laws. -/
namespace Go.Proofs.YtjghgfohpihhfaaDoor
open Go.Tw
set_option linter.unusedVariables false
set_option linter.unusedSimpArgs false

theorem ix_nat {α : Type} {l : List α} {i : Nat} (h : i < l.length) : ix l ((i : Nat) : Int) = some l[i] := by
  unfold ix; rw [if_pos (by omega)]; simp only [Int.toNat_natCast]; exact List.getElem?_eq_getElem h

def val : List UInt8 → Nat
  | [] => 0
  | b :: r => b.toNat % 128 + 128 * val r

theorem val_snoc : ∀ (l : List UInt8) (x : UInt8), val (l ++ [x]) = val l + x.toNat % 128 * 128 ^ l.length
  | [], x => by simp [val]
  | b :: r, x => by
    simp only [List.cons_append, val, val_snoc r x, List.length_cons, Nat.pow_succ]
    rw [Nat.mul_add, Nat.add_assoc]; congr 2; ac_rfl

theorem decS_val : ∀ (l : List UInt8) (i v n : Nat), decS i l = some (v, n) → v = val (l.take n) ∧ 1 ≤ n ∧ (∀ j x, j + 1 < n → l[j]? = some x → 128 ≤ x.toNat) ∧ ∃ x, l[n - 1]? = some x ∧ x.toNat < 128
  | [], i, v, n, h => by simp [decS] at h
  | b :: r, i, v, n, h => by
    simp only [decS] at h
    split at h
    · cases h
    split at h
    · split at h <;> first | (cases h; done) | skip
      rename_i hc _ v' n' hr
      cases h
      obtain ⟨h1, h2, h3, x, h4, h5⟩ := decS_val r (i + 1) v' n' hr
      refine ⟨by simp [val, ← h1], by omega, fun j x hj hx => ?_, x, ?_, h5⟩
      · cases j with
        | zero => simp at hx; subst hx; exact hc
        | succ j => exact h3 j x (by omega) (by simpa using hx)
      · obtain ⟨k, rfl⟩ : ∃ k, n' = k + 1 := ⟨n' - 1, by omega⟩
        simpa using h4
    · split at h
      · cases h
      split at h
      · cases h
      rename_i hx hb h0 h9
      cases h
      refine ⟨?_, by omega, fun j x hj _ => by omega, b, by simp, by omega⟩
      simp [val, Nat.mod_eq_of_lt (show b.toNat < 128 by omega)]

theorem mod_in (A V p N : Nat) : (A % N * p + V) % N = (A * p + V) % N := by
  rw [Nat.add_mod, Nat.mul_mod, Nat.mod_mod, ← Nat.mul_mod, ← Nat.add_mod]

theorem l77_5 (F : Nat) {b : List UInt8} {a : Nat} (hb : b.length < 1000000000) : ∀ (m fuel : Nat) (acc : UInt64), a + m ≤ b.length → m < fuel →
    ∃ r, iter (fun s : UInt64 × Int => L77_5 F b ((a : Nat) : Int) s.1 s.2) fuel (acc, ((m : Nat) : Int) - 1) = some r ∧ r.toNat = (acc.toNat * 128 ^ m + val ((b.drop a).take m)) % 2 ^ 64
  | m, 0, acc, hm, hf => by omega
  | 0, fuel + 1, acc, hm, hf => by
    have h : ¬ ((0 : Int) ≤ ((0 : Nat) : Int) - 1) := by omega
    refine ⟨acc, ?_, ?_⟩
    · have step : L77_5 F b ((a : Nat) : Int) acc (((0 : Nat) : Int) - 1) = some (.inr acc) := by
        simp only [L77_5, L77_5c, h, decide_false, cond_false]
      rw [it_out (f := fun s : UInt64 × Int => L77_5 F b ((a : Nat) : Int) s.1 s.2) (s := (acc, _)) step]
    · have := acc.toNat_lt
      first | (simp [val]; done) | (simp [val]; omega)
  | m + 1, fuel + 1, acc, hm, hf => by
    have e : ((m + 1 : Nat) : Int) - 1 = ((m : Nat) : Int) := by omega
    rw [e]
    have h : ((0 : Int) ≤ ((m : Nat) : Int)) := by omega
    have hlt : a + m < b.length := by omega
    have w1 : w64 (((a : Nat) : Int) + ((m : Nat) : Int)) = ((a + m : Nat) : Int) := by rw [w64_in (by omega) (by omega)]; omega
    have hx : ix b ((a + m : Nat) : Int) = some b[a + m] := ix_nat hlt
    have w2 : w64 (((m : Nat) : Int) - 1) = ((m : Nat) : Int) - 1 := w64_in (by omega) (by omega)
    obtain ⟨r, h1, h2⟩ := l77_5 F (a := a) hb m fuel ((acc * UInt64.ofNat 128) + (b[a + m] % UInt8.ofNat 128).toUInt64) (by omega) (by omega)
    refine ⟨r, ?_, ?_⟩
    · have step : L77_5 F b ((a : Nat) : Int) acc ((m : Nat) : Int) = some (.inl ((acc * UInt64.ofNat 128) + (b[a + m] % UInt8.ofNat 128).toUInt64, ((m : Nat) : Int) - 1)) := by
        simp only [L77_5, L77_5c, h, decide_true, cond_true, w1, hx, Option.bind_some, w2]
      rw [it_again (f := fun s : UInt64 × Int => L77_5 F b ((a : Nat) : Int) s.1 s.2) (s := (acc, _)) step, h1]
    · rw [h2]
      have ht : (b.drop a).take (m + 1) = (b.drop a).take m ++ [b[a + m]] := by
        rw [List.take_succ_eq_append_getElem (by simp; omega)]; simp
      have hl : ((b.drop a).take m).length = m := by simp; omega
      rw [ht, val_snoc, hl]
      have ha : ((acc * UInt64.ofNat 128) + (b[a + m] % UInt8.ofNat 128).toUInt64).toNat = (acc.toNat * 128 + b[a + m].toNat % 128) % 2 ^ 64 := by
        rw [UInt64.toNat_add, UInt64.toNat_mul, UInt8.toNat_toUInt64, UInt8.toNat_mod]
        have e1 : (UInt64.ofNat 128).toNat = 128 := rfl
        have e2 : (UInt8.ofNat 128).toNat = 128 := rfl
        rw [e1, e2]
        have := mod_in (acc.toNat * 128) (b[a + m].toNat % 128) 1 (2 ^ 64)
        simp
      rw [ha, mod_in]
      congr 1
      rw [Nat.pow_succ, Nat.add_mul, Nat.add_assoc, Nat.add_comm (b[a + m].toNat % 128 * 128 ^ m)]
      congr 1; ac_rfl

theorem l77_6 (F : Nat) {b ag : List UInt8} {a : Nat} (hb : b.length < 1000000000) (hn : a + ag.length ≤ b.length) : ∀ (m fuel j : Nat), j + m = ag.length → m < fuel →
    iter (fun s => L77_6 F b ((a : Nat) : Int) ((ag.length : Nat) : Int) ag s) fuel ((j : Nat) : Int) = some (if ag.drop j = ((b.drop a).take ag.length).drop j then .inl () else .inr (UInt64.ofNat 0, 0, false))
  | m, 0, j, hj, hf => by omega
  | 0, fuel + 1, j, hj, hf => by
    have h : ¬ (((j : Nat) : Int) < ((ag.length : Nat) : Int)) := by omega
    have step : L77_6 F b ((a : Nat) : Int) ((ag.length : Nat) : Int) ag ((j : Nat) : Int) = some (.inr (.inl ())) := by
      simp only [L77_6, L77_6c, h, decide_false, cond_false]
    rw [it_out (f := fun s => L77_6 F b ((a : Nat) : Int) ((ag.length : Nat) : Int) ag s) step]
    rw [List.drop_eq_nil_of_le (by omega), List.drop_eq_nil_of_le (by simp; omega)]
    simp
  | m + 1, fuel + 1, j, hj, hf => by
    have h : (((j : Nat) : Int) < ((ag.length : Nat) : Int)) := by omega
    have hjl : j < ag.length := by omega
    have hjb : a + j < b.length := by omega
    have w1 : w64 (((a : Nat) : Int) + ((j : Nat) : Int)) = ((a + j : Nat) : Int) := by rw [w64_in (by omega) (by omega)]; omega
    have w2 : w64 (((j : Nat) : Int) + 1) = ((j + 1 : Nat) : Int) := by rw [w64_in (by omega) (by omega)]; omega
    have hx : ix b ((a + j : Nat) : Int) = some b[a + j] := ix_nat hjb
    have hin : inb ag.length ((j : Nat) : Int) = some j := by unfold inb; rw [if_pos (by omega)]; simp
    have d1 : ag.drop j = ag[j] :: ag.drop (j + 1) := List.drop_eq_getElem_cons hjl
    have d2 : ((b.drop a).take ag.length).drop j = b[a + j] :: ((b.drop a).take ag.length).drop (j + 1) := by
      rw [List.drop_eq_getElem_cons (by simp; omega)]; simp
    rw [d1, d2]
    by_cases hc : ag[j] = b[a + j]
    · have hne : (ag[j] != b[a + j]) = false := by simp [hc]
      have step : L77_6 F b ((a : Nat) : Int) ((ag.length : Nat) : Int) ag ((j : Nat) : Int) = some (.inl ((j + 1 : Nat) : Int)) := by
        simp only [L77_6, L77_6c, h, decide_true, cond_true, hin, Option.bind_some, List.getElem?_eq_getElem hjl, w1, hx, hne, cond_false, w2]
      rw [it_again (f := fun s => L77_6 F b ((a : Nat) : Int) ((ag.length : Nat) : Int) ag s) step, l77_6 F hb hn m fuel (j + 1) (by omega) (by omega)]
      simp [hc]
    · have hne : (ag[j] != b[a + j]) = true := by simpa using hc
      have step : L77_6 F b ((a : Nat) : Int) ((ag.length : Nat) : Int) ag ((j : Nat) : Int) = some (.inr (.inr (UInt64.ofNat 0, 0, false))) := by
        simp only [L77_6, L77_6c, h, decide_true, cond_true, hin, Option.bind_some, List.getElem?_eq_getElem hjl, w1, hx, hne]
      rw [it_out (f := fun s => L77_6 F b ((a : Nat) : Int) ((ag.length : Nat) : Int) ag s) step]
      rw [if_neg (fun h => by injection h with h1 _; exact hc h1)]

/-- Where the first byte below 128 stands. -/
theorem decS_at {l : List UInt8} {v k n : Nat} {x : UInt8} (h : decS 0 l = some (v, k)) (hn : 1 ≤ n) (hx : l[n - 1]? = some x) (hlo : x.toNat < 128) (hbe : ∀ j y, j + 1 < n → l[j]? = some y → 128 ≤ y.toNat) : k = n := by
  obtain ⟨h1, h2, h3, y, h4, h5⟩ := decS_val l 0 v k h
  rcases Nat.lt_trichotomy k n with h6 | h6 | h6
  · have := hbe (k - 1) y (by omega) h4; omega
  · exact h6
  · have := h3 (n - 1) x (by omega) hx; omega

theorem l77_4 (F : Nat) (hF : 50 < F) {b : List UInt8} {a : Nat} (hb : b.length < 1000000000) (ha : a ≤ b.length) : ∀ (m fuel n : Nat), n + m = 11 → m < fuel → 1 ≤ n → (∀ j y, j + 1 < n → (b.drop a)[j]? = some y → 128 ≤ y.toNat) →
    (∃ v k, decS 0 (b.drop a) = some (v, k) ∧ iter (fun s => L77_4 F b ((a : Nat) : Int) s) fuel ((n : Nat) : Int) = some (.inr (UInt64.ofNat v, ((a + k : Nat) : Int), true))) ∨
    (decS 0 (b.drop a) = none ∧ (iter (fun s => L77_4 F b ((a : Nat) : Int) s) fuel ((n : Nat) : Int) = some (.inl ()) ∨ iter (fun s => L77_4 F b ((a : Nat) : Int) s) fuel ((n : Nat) : Int) = some (.inr (UInt64.ofNat 0, 0, false))))
  | m, 0, n, hm, hf, hn, hbe => by omega
  | 0, fuel + 1, n, hm, hf, hn, hbe => by
    right
    have h : ¬ (((n : Nat) : Int) ≤ 10) := by omega
    refine ⟨?_, .inl ?_⟩
    · cases hd : decS 0 (b.drop a) with
      | none => rfl
      | some r =>
        obtain ⟨v, k⟩ := r
        obtain ⟨h1, h2, h3, y, h4, h5⟩ := decS_val _ 0 v k hd
        have h6 := decS_bd _ 0 v k (by omega) hd
        have := hbe (k - 1) y (by omega) h4
        omega
    · have step : L77_4 F b ((a : Nat) : Int) ((n : Nat) : Int) = some (.inr (.inl ())) := by
        simp only [L77_4, L77_4c, h, decide_false, cond_false]
      rw [it_out (f := fun s => L77_4 F b ((a : Nat) : Int) s) step]
  | m + 1, fuel + 1, n, hm, hf, hn, hbe => by
    have h : (((n : Nat) : Int) ≤ 10) := by omega
    have w1 : w64 (((a : Nat) : Int) + ((n : Nat) : Int)) = ((a + n : Nat) : Int) := by rw [w64_in (by omega) (by omega)]; omega
    by_cases hl : a + n ≤ b.length
    · have hl' : (((a + n : Nat) : Int) ≤ (b.length : Int)) := by omega
      have hlt : a + (n - 1) < b.length := by omega
      have w2 : w64 (((a + n : Nat) : Int) - 1) = ((a + (n - 1) : Nat) : Int) := by rw [w64_in (by omega) (by omega)]; omega
      have hx : ix b ((a + (n - 1) : Nat) : Int) = some b[a + (n - 1)] := ix_nat hlt
      have hget : (b.drop a)[n - 1]? = some b[a + (n - 1)] := by simp [hlt]
      by_cases hc : 128 ≤ b[a + (n - 1)].toNat
      · have hc' : UInt8.ofNat 128 ≤ b[a + (n - 1)] := hc
        have w3 : w64 (((n : Nat) : Int) + 1) = ((n + 1 : Nat) : Int) := by rw [w64_in (by omega) (by omega)]; omega
        have step : L77_4 F b ((a : Nat) : Int) ((n : Nat) : Int) = some (.inl ((n + 1 : Nat) : Int)) := by
          simp only [L77_4, L77_4c, h, decide_true, cond_true, w1, hl', w2, hx, Option.bind_some, hc', w3]
        rw [it_again (f := fun s => L77_4 F b ((a : Nat) : Int) s) step]
        refine l77_4 F hF hb ha m fuel (n + 1) (by omega) (by omega) (by omega) (fun j y hj hy => ?_)
        by_cases hjn : j + 1 = n
        · have : j = n - 1 := by omega
          rw [this, hget] at hy
          cases hy; exact hc
        · exact hbe j y (by omega) hy
      · have hc' : ¬ UInt8.ofNat 128 ≤ b[a + (n - 1)] := hc
        obtain ⟨r, hr1, hr2⟩ := l77_5 F hb n F (UInt64.ofNat 0) (a := a) hl (by omega)
        have z0 : (UInt64.ofNat 0).toNat = 0 := rfl
        rw [z0, Nat.zero_mul, Nat.zero_add] at hr2
        have w4 : w64 (((n : Nat) : Int) - 1) = ((n : Nat) : Int) - 1 := w64_in (by omega) (by omega)
        have t45 := t45' hF r
        have uniq : ∀ v k, decS 0 (b.drop a) = some (v, k) → k = n ∧ v = r.toNat ∧ enc r.toNat = (b.drop a).take n := fun v k hd => by
          have hk := decS_at hd hn hget (by omega) hbe
          subst hk
          obtain ⟨q1, q2, q3, q4⟩ := dec_enc hd
          have hv := (decS_val _ 0 v k hd).1
          have : r.toNat = v := by rw [hr2, ← hv]; exact Nat.mod_eq_of_lt q3
          exact ⟨rfl, this.symm, by rw [this, q1]⟩
        by_cases hlen : (enc r.toNat).length = n
        · have hne : (((enc r.toNat).length : Int) != ((n : Nat) : Int)) = false := by simp [hlen]
          have l6 := l77_6 F (b := b) (ag := enc r.toNat) (a := a) hb (by omega) n F 0 (by omega) (by omega)
          have z : ((0 : Nat) : Int) = 0 := rfl
          rw [z, hlen, List.drop_zero, List.drop_zero] at l6
          by_cases heq : enc r.toNat = (b.drop a).take n
          · left
            have hdec : decS 0 (b.drop a) = some (r.toNat, n) := by
              have := enc_dec r.toNat_lt ((b.drop a).drop n)
              rw [heq, List.take_append_drop] at this
              rw [this, ← heq, hlen]
            rw [if_pos heq] at l6
            refine ⟨_, _, hdec, ?_⟩
            have step : L77_4 F b ((a : Nat) : Int) ((n : Nat) : Int) = some (.inr (.inr (r, ((a + n : Nat) : Int), true))) := by
              simp only [L77_4, L77_4c, h, decide_true, cond_true, w1, hl', w2, hx, Option.bind_some, hc', decide_false, cond_false, w4, hr1, t45, hne, l6, elimS]
            rw [it_out (f := fun s => L77_4 F b ((a : Nat) : Int) s) step, UInt64.ofNat_toNat]
          · right
            rw [if_neg heq] at l6
            refine ⟨?_, .inr ?_⟩
            · cases hd : decS 0 (b.drop a) with
              | none => rfl
              | some q => exact absurd (uniq q.1 q.2 hd).2.2 heq
            · have step : L77_4 F b ((a : Nat) : Int) ((n : Nat) : Int) = some (.inr (.inr (UInt64.ofNat 0, 0, false))) := by
                simp only [L77_4, L77_4c, h, decide_true, cond_true, w1, hl', w2, hx, Option.bind_some, hc', decide_false, cond_false, w4, hr1, t45, hne, l6, elimS]
              rw [it_out (f := fun s => L77_4 F b ((a : Nat) : Int) s) step]
        · have hne : (((enc r.toNat).length : Int) != ((n : Nat) : Int)) = true := by simp; omega
          right
          refine ⟨?_, .inr ?_⟩
          · cases hd : decS 0 (b.drop a) with
            | none => rfl
            | some q =>
              obtain ⟨q1, q2, q3⟩ := uniq q.1 q.2 hd
              have := (dec_enc hd).2.1
              rw [q2] at this
              omega
          · have step : L77_4 F b ((a : Nat) : Int) ((n : Nat) : Int) = some (.inr (.inr (UInt64.ofNat 0, 0, false))) := by
              simp only [L77_4, L77_4c, h, decide_true, cond_true, w1, hl', w2, hx, Option.bind_some, hc', decide_false, cond_false, w4, hr1, t45, hne]
            rw [it_out (f := fun s => L77_4 F b ((a : Nat) : Int) s) step]
    · have hl' : ¬ (((a + n : Nat) : Int) ≤ (b.length : Int)) := by omega
      right
      refine ⟨?_, .inl ?_⟩
      · cases hd : decS 0 (b.drop a) with
        | none => rfl
        | some r =>
          obtain ⟨v, k⟩ := r
          obtain ⟨h1, h2, h3, y, h4, h5⟩ := decS_val _ 0 v k hd
          have h6 := decS_bd _ 0 v k (by omega) hd
          have h7 : k ≤ b.length - a := by simpa using h6.2.2.1
          have := hbe (k - 1) y (by omega) h4
          omega
      · have step : L77_4 F b ((a : Nat) : Int) ((n : Nat) : Int) = some (.inr (.inl ())) := by
          simp only [L77_4, L77_4c, h, decide_true, cond_true, w1, hl', decide_false, cond_false]
        rw [it_out (f := fun s => L77_4 F b ((a : Nat) : Int) s) step]

/-- number, of the specification. -/
theorem t77 {F : Nat} (hF : 50 < F) (b : List UInt8) (hb : b.length < 1000000000) {a : Nat} (ha : a ≤ b.length) :
    (∃ v k, decS 0 (b.drop a) = some (v, k) ∧ T77 F b ((a : Nat) : Int) = some (UInt64.ofNat v, ((a + k : Nat) : Int), true)) ∨
    (decS 0 (b.drop a) = none ∧ T77 F b ((a : Nat) : Int) = some (UInt64.ofNat 0, 0, false)) := by
  have o : ((1 : Nat) : Int) = 1 := rfl
  rcases l77_4 F hF hb ha 10 F 1 (by omega) (by omega) (by omega) (fun j y hj _ => by omega) with ⟨v, k, h1, h2⟩ | ⟨h1, h2⟩
  · left
    rw [o] at h2
    exact ⟨v, k, h1, by simp only [T77, T77c]; rw [h2]; rfl⟩
  · right
    rw [o] at h2
    refine ⟨h1, ?_⟩
    rcases h2 with h2 | h2 <;> (simp only [T77, T77c]; rw [h2]; rfl)
end Go.Proofs.YtjghgfohpihhfaaDoor
/- Content, of the code and of its specification; SealContent: the plain law. -/
namespace Go.Proofs.YtjghgfohpihhfaaDoor
open Go.Tw
set_option linter.unusedVariables false
set_option linter.unusedSimpArgs false

/-- These bytes are the body of a content with a check. -/
def IsBody (F : Nat) (b c k : List UInt8) : Prop := c.length ≤ 32768 ∧ k.length = 16 ∧ T14 F (c.length : Int) = some ((b.length : Int), 0) ∧ b = bodyL b.length c k

theorem cls_le {F : Nat} (hF : 50 < F) {c : List UInt8} {D : Int} (hc : c.length ≤ 32768) (h : T14 F (c.length : Int) = some (D, 0)) : (sz c.length : Nat) + (c.length : Int) + 16 ≤ D ∧ ∃ j, j < 38 ∧ D = cls j := by
  obtain ⟨j, hj, h1, h2, _⟩ := class_spec hF (n := (c.length : Int)) (by omega) (by omega)
  rw [h] at h1
  have : D = cls j := by simpa using h1
  rw [Int.toNat_natCast] at h2
  exact ⟨by omega, j, hj, this⟩

theorem app4 {b : List UInt8} {n v : Nat} (h : n + v + 16 ≤ b.length) : b = b.take n ++ (b.drop n).take v ++ (b.drop (n + v)).take (b.length - 16 - n - v) ++ b.drop (b.length - 16) := by
  have h1 : b.drop (b.length - 16) = ((b.drop (n + v)).drop (b.length - 16 - n - v)) := by rw [List.drop_drop]; congr 1; omega
  have h2 : b.drop (n + v) = (b.drop n).drop v := by rw [List.drop_drop]
  rw [List.append_assoc, h1, List.take_append_drop, List.append_assoc, h2, List.take_append_drop, List.take_append_drop]

theorem parts {F : Nat} (hF : 50 < F) {b c k : List UInt8} (h : IsBody F b c k) : decS 0 b = some (c.length, sz c.length) ∧ sz c.length + c.length + 16 ≤ b.length ∧ (b.drop (sz c.length)).take c.length = c ∧ (b.drop (sz c.length + c.length)).take (b.length - 16 - sz c.length - c.length) = List.replicate (b.length - 16 - sz c.length - c.length) 0 ∧ b.drop (b.length - 16) = k := by
  obtain ⟨hc, hk, h14, hb⟩ := h
  obtain ⟨hle, _⟩ := cls_le hF hc h14
  have hle' : sz c.length + c.length + 16 ≤ b.length := by omega
  have he := enc_len hc
  have hd : decS 0 b = some (c.length, sz c.length) := by
    have := enc_dec (v := c.length) (by omega) (c ++ List.replicate (b.length - 16 - (enc c.length).length - c.length) 0 ++ k)
    rw [he] at this
    rw [← this]
    conv => lhs; rw [hb]
    simp [bodyL, he]
  have h4 := app4 (b := b) (n := sz c.length) (v := c.length) hle'
  have e : b.take (sz c.length) ++ (b.drop (sz c.length)).take c.length ++ (b.drop (sz c.length + c.length)).take (b.length - 16 - sz c.length - c.length) ++ b.drop (b.length - 16) = enc c.length ++ c ++ List.replicate (b.length - 16 - sz c.length - c.length) 0 ++ k := by
    rw [← h4]
    conv => lhs; rw [hb]
    simp [bodyL, he]
  obtain ⟨e1, e2⟩ := List.append_inj' e (by simp [hk]; omega)
  obtain ⟨e3, e4⟩ := List.append_inj' e1 (by simp; omega)
  obtain ⟨e5, e6⟩ := List.append_inj' e3 (by simp; omega)
  exact ⟨hd, hle', e6, e4, e2⟩

theorem of_parts {F : Nat} (hF : 50 < F) {b : List UInt8} {v n : Nat} (hd : decS 0 b = some (v, n)) (hv : v ≤ 32768) (h14 : T14 F (v : Int) = some ((b.length : Int), 0)) (hz : (b.drop (n + v)).take (b.length - 16 - n - v) = List.replicate (b.length - 16 - n - v) 0) (hl : n + v + 16 ≤ b.length) :
    IsBody F b ((b.drop n).take v) (b.drop (b.length - 16)) := by
  obtain ⟨h1, h2, h3, h4⟩ := dec_enc hd
  have he := enc_len hv
  have hcl : ((b.drop n).take v).length = v := by simp; omega
  refine ⟨by omega, by simp; omega, by rw [hcl]; exact h14, ?_⟩
  have := app4 hl
  simp only [bodyL, hcl]
  rw [← h1]
  have hn : (b.take n).length = n := by simp; omega
  rw [hn, ← hz]
  exact this

/- ## the code -/
theorem t61 {F : Nat} (hF : 50 < F) (b : List UInt8) (hb : b.length < 1000000) :
    (∃ v n, decS 0 b = some (v, n) ∧ v ≤ 32768 ∧ n + v ≤ b.length ∧ T61 F 0 0 0 32768 b = some ((b.drop n).take v, ((n + v : Nat) : Int), 0, 0)) ∨
    ((∀ v n, decS 0 b = some (v, n) → v ≤ 32768 → n + v ≤ b.length → False) ∧ ∃ e, T61 F 0 0 0 32768 b = some ([], 0, 0, e)) := by
  have z : ((0 : Nat) : Int) = 0 := rfl
  have e0 : ((0 : Int) != 0) = false := by decide
  have e3 : ((3 : Int) != 0) = true := by decide
  have e2 : ((2 : Int) != 0) = true := by decide
  have g0 : gapp ([] : List UInt8) ((b.drop 0).take (0 - 0)) = some [] := by simp [gapp]
  have hlim : (UInt64.ofInt (if (32768 : Int) < 0 then 0 else 32768)) = UInt64.ofNat 32768 := by decide
  rcases t90 hF b (by omega) (pos := 0) (by omega) with ⟨v, n, h1, h2⟩ | ⟨h1, p, h2⟩
  · rw [List.drop_zero] at h1
    rw [z, Nat.zero_add] at h2
    obtain ⟨q1, q2, q3, q4⟩ := dec_enc h1
    have hvn : (UInt64.ofNat v).toNat = v := by rw [UInt64.toNat_ofNat']; exact Nat.mod_eq_of_lt q3
    by_cases hv : v ≤ 32768
    · have hlt : ¬ UInt64.ofNat 32768 < UInt64.ofNat v := by
        show ¬ ((UInt64.ofNat 32768).toNat < (UInt64.ofNat v).toNat)
        rw [hvn]
        have : (UInt64.ofNat 32768).toNat = 32768 := rfl
        omega
      have w1 : w64 ((UInt64.ofNat v).toNat : Int) = (v : Int) := by rw [hvn]; exact w64_in (by omega) (by omega)
      have h75 : T75 F 32768 0 b = some ((v : Int), 0, (n : Int)) := by
        simp only [T75, T75c, h2, Option.bind_some, e0, cond_false, hlim, hlt, decide_false, w1]
      have w2 : w64 ((b.length : Int) - (n : Int)) = ((b.length - n : Nat) : Int) := by rw [w64_in (by omega) (by omega)]; omega
      by_cases hnv : n + v ≤ b.length
      · left
        refine ⟨v, n, h1, hv, hnv, ?_⟩
        have c1 : ¬ (((b.length - n : Nat) : Int) < (v : Int)) := by omega
        have w3 : w64 ((n : Int) + (v : Int)) = ((n + v : Nat) : Int) := by rw [w64_in (by omega) (by omega)]; omega
        have g1 : gslb b.length (n : Int) ((n + v : Nat) : Int) = some (n, n + v) := by unfold gslb; rw [if_pos (by omega)]; simp only [Int.toNat_natCast]
        have h76 : T76 F (v : Int) (n : Int) b = some ((n, n + v), 0, ((n + v : Nat) : Int)) := by
          simp only [T76, T76c, w2, c1, decide_false, cond_false, w3, g1, Option.bind_some]
        have h63 : T63 F 32768 0 b = some ((n, n + v), 0, ((n + v : Nat) : Int)) := by
          simp only [T63, T63c, h75, Option.bind_some, e0, cond_false, h76]
        have g2 : gapp ([] : List UInt8) ((b.drop n).take (n + v - n)) = some ((b.drop n).take v) := by
          rw [Nat.add_sub_cancel_left]; unfold gapp; rw [if_pos (by simp; omega)]; simp
        have h62 : T62 F 32768 0 b = some (0, ((n + v : Nat) : Int), (b.drop n).take v) := by
          simp only [T62, T62c, h63, Option.bind_some, g2]
        have h74 : T74 F 0 ((n + v : Nat) : Int) 0 ((b.drop n).take v) = some ((0, ((b.drop n).take v).length), ((n + v : Nat) : Int)) := by
          simp only [T74, T74c, e0, cond_false]
        simp only [T61, T61c, e0, cond_false, h62, Option.bind_some, h74, List.drop_zero, Nat.sub_zero, List.take_length]
      · right
        refine ⟨fun v' n' hd hv' hn' => by rw [h1] at hd; cases hd; omega, 3, ?_⟩
        have c1 : (((b.length - n : Nat) : Int) < (v : Int)) := by omega
        have h76 : T76 F (v : Int) (n : Int) b = some ((0, 0), 3, (n : Int)) := by
          simp only [T76, T76c, w2, c1, decide_true, cond_true]
        have h63 : T63 F 32768 0 b = some ((0, 0), 3, (n : Int)) := by
          simp only [T63, T63c, h75, Option.bind_some, e0, cond_false, h76]
        have h62 : T62 F 32768 0 b = some (3, (n : Int), []) := by
          simp only [T62, T62c, h63, Option.bind_some, g0]
        have h74 : T74 F 0 (n : Int) 3 [] = some ((0, 0), 0) := by
          simp only [T74, T74c, e3, cond_true]
        simp only [T61, T61c, e0, cond_false, h62, Option.bind_some, h74, List.drop_zero, Nat.sub_zero, List.take_zero]
    · right
      refine ⟨fun v' n' hd hv' hn' => by rw [h1] at hd; cases hd; omega, 2, ?_⟩
      have hlt : UInt64.ofNat 32768 < UInt64.ofNat v := by
        show ((UInt64.ofNat 32768).toNat < (UInt64.ofNat v).toNat)
        rw [hvn]
        have : (UInt64.ofNat 32768).toNat = 32768 := rfl
        omega
      have h75 : T75 F 32768 0 b = some (0, 2, (n : Int)) := by
        simp only [T75, T75c, h2, Option.bind_some, e0, cond_false, hlim, hlt, decide_true, cond_true]
      have h63 : T63 F 32768 0 b = some ((0, 0), 2, (n : Int)) := by
        simp only [T63, T63c, h75, Option.bind_some, e2, cond_true]
      have h62 : T62 F 32768 0 b = some (2, (n : Int), []) := by
        simp only [T62, T62c, h63, Option.bind_some, g0]
      have h74 : T74 F 0 (n : Int) 2 [] = some ((0, 0), 0) := by
        simp only [T74, T74c, e2, cond_true]
      simp only [T61, T61c, e0, cond_false, h62, Option.bind_some, h74, List.drop_zero, Nat.sub_zero, List.take_zero]
  · right
    rw [List.drop_zero] at h1
    rw [z] at h2
    refine ⟨fun v' n' hd _ _ => absurd (h1.symm.trans hd) (by simp), 3, ?_⟩
    have h75 : T75 F 32768 0 b = some (0, 3, p) := by
      simp only [T75, T75c, h2, Option.bind_some, e3, cond_true]
    have h63 : T63 F 32768 0 b = some ((0, 0), 3, p) := by
      simp only [T63, T63c, h75, Option.bind_some, e3, cond_true]
    have h62 : T62 F 32768 0 b = some (3, p, []) := by
      simp only [T62, T62c, h63, Option.bind_some, g0]
    have h74 : T74 F 0 p 3 [] = some ((0, 0), 0) := by
      simp only [T74, T74c, e3, cond_true]
    simp only [T61, T61c, e0, cond_false, h62, Option.bind_some, h74, List.drop_zero, Nat.sub_zero, List.take_zero]

theorem l20 (F : Nat) {l : List UInt8} (hl : l.length < 1000000) : ∀ (m fuel i : Nat), i + m = l.length → m < fuel → iter (fun s => L20_2 F l (l.length : Int) s) fuel ((i : Nat) : Int) = some (if l.drop i = List.replicate m 0 then .inl () else .inr 3)
  | m, 0, i, hi, hf => by omega
  | 0, fuel + 1, i, hi, hf => by
    have h : ¬ (((i : Nat) : Int) < (l.length : Int)) := by omega
    have step : L20_2 F l (l.length : Int) ((i : Nat) : Int) = some (.inr (.inl ())) := by
      simp only [L20_2, L20_2c, h, decide_false, cond_false]
    rw [it_out (f := fun s => L20_2 F l (l.length : Int) s) step, List.drop_eq_nil_of_le (by omega)]
    simp
  | m + 1, fuel + 1, i, hi, hf => by
    have h : (((i : Nat) : Int) < (l.length : Int)) := by omega
    have hlt : i < l.length := by omega
    have hx : ix l ((i : Nat) : Int) = some l[i] := by unfold ix; rw [if_pos (by omega)]; simp [hlt]
    have w : w64 (((i : Nat) : Int) + 1) = (((i + 1 : Nat)) : Int) := by rw [w64_in (by omega) (by omega)]; omega
    rw [List.drop_eq_getElem_cons hlt, List.replicate_succ]
    by_cases hc : l[i] = UInt8.ofNat 0
    · have hne : (l[i] != UInt8.ofNat 0) = false := by simp [hc]
      have step : L20_2 F l (l.length : Int) ((i : Nat) : Int) = some (.inl (((i + 1 : Nat)) : Int)) := by
        simp only [L20_2, L20_2c, h, decide_true, cond_true, hx, Option.bind_some, hne, cond_false, w]
      rw [it_again (f := fun s => L20_2 F l (l.length : Int) s) step, l20 F hl m fuel (i + 1) (by omega) (by omega)]
      have hc2 : l[i] = 0 := hc
      simp [hc2]
    · have hne : (l[i] != UInt8.ofNat 0) = true := by simpa using hc
      have step : L20_2 F l (l.length : Int) ((i : Nat) : Int) = some (.inr (.inr 3)) := by
        simp only [L20_2, L20_2c, h, decide_true, cond_true, hx, Option.bind_some, hne]
      rw [it_out (f := fun s => L20_2 F l (l.length : Int) s) step]
      have hc2 : ¬ l[i] = 0 := hc
      rw [if_neg (fun h => by injection h with h1 _; exact hc2 h1)]

/-- Content. -/
theorem t20 {F : Nat} (hF : 50 < F) (b : List UInt8) (hb : b.length < 1000000) (hbF : b.length < F) :
    (∃ c k, IsBody F b c k ∧ T20 F b = some (c, 0, k)) ∨ ((∀ c k, ¬ IsBody F b c k) ∧ T20 F b = some ([], 3, [])) := by
  have h46 : T46 F b = some (0, 0, 0, b) := by
    have : gapp ([] : List UInt8) b = some b := by unfold gapp; rw [if_pos (by simp; omega)]; simp
    simp only [T46, T46c, this, Option.bind_some]
  rcases t61 hF b hb with ⟨v, n, h1, h2, h3, h4⟩ | ⟨h1, e, h4⟩
  · have h47 : T47 F 32768 0 0 0 b = some ((b.drop n).take v, ((n + v : Nat) : Int), 0, 0) := by
      simp only [T47, T47c, h4, Option.bind_some]
    obtain ⟨q1, q2, q3, q4⟩ := dec_enc h1
    have hn : n = sz v := by rw [← q2, enc_len h2]
    have hsz := sz_bd v
    have w1 : w64 ((b.length : Int) - ((n + v : Nat) : Int)) = ((b.length - (n + v) : Nat) : Int) := by rw [w64_in (by omega) (by omega)]; omega
    have h48 : T48 F ((n + v : Nat) : Int) b = some ((b.length - (n + v) : Nat) : Int) := by simp only [T48, T48c, w1]
    have ne1 : (((b.length - (n + v) : Nat) : Int) == (b.length : Int)) = false := by simp; omega
    have hcl : ((b.drop n).take v).length = v := by simp; omega
    obtain ⟨j, hj, c1, c2, _⟩ := class_spec (F := F) hF (n := (v : Int)) (by omega) (by omega)
    rw [Int.toNat_natCast] at c2
    have run : T20 F b = (bif (cls j != (b.length : Int)) then some ([], 3, []) else (gsl b (w64 ((b.length : Int) - ((b.length - (n + v) : Nat) : Int))) (w64 ((b.length : Int) - 16))).bind fun x23 => (iter (fun s => L20_2 F x23 (x23.length : Int) s) F (0 : Int)).bind fun z32 => elimS (fun _ => (gsl b (w64 ((b.length : Int) - 16)) (b.length : Int)).bind fun x33 => (gapp ([] : List UInt8) x33).bind fun x34 => some ((b.drop n).take v, 0, x34)) (fun z32 => some ([], z32, [])) z32) := by
      simp only [T20, T20c, h46, Option.bind_some, h47, h48, ne1, cond_false, hcl, c1]
    by_cases hL : cls j = (b.length : Int)
    · have ne2 : (cls j != (b.length : Int)) = false := by simp [hL]
      have w2 : w64 ((b.length : Int) - ((b.length - (n + v) : Nat) : Int)) = ((n + v : Nat) : Int) := by rw [w64_in (by omega) (by omega)]; omega
      have w3 : w64 ((b.length : Int) - 16) = ((b.length - 16 : Nat) : Int) := by rw [w64_in (by omega) (by omega)]; omega
      have hle : n + v + 16 ≤ b.length := by omega
      have g1 : gsl b ((n + v : Nat) : Int) ((b.length - 16 : Nat) : Int) = some ((b.drop (n + v)).take (b.length - 16 - n - v)) := by
        unfold gsl; rw [if_pos (by omega)]; simp only [Int.toNat_natCast]; rw [show b.length - 16 - (n + v) = b.length - 16 - n - v by omega]
      have g2 : gsl b ((b.length - 16 : Nat) : Int) (b.length : Int) = some (b.drop (b.length - 16)) := by
        unfold gsl; rw [if_pos (by omega)]; simp only [Int.toNat_natCast]
        rw [List.take_of_length_le (by simp)]
      have g3 : gapp ([] : List UInt8) (b.drop (b.length - 16)) = some (b.drop (b.length - 16)) := by unfold gapp; rw [if_pos (by simp; omega)]; simp
      have xl : ((b.drop (n + v)).take (b.length - 16 - n - v)).length = b.length - 16 - n - v := by simp; omega
      have l := l20 F (l := (b.drop (n + v)).take (b.length - 16 - n - v)) (by omega) (b.length - 16 - n - v) F 0 (by omega) (by omega)
      have z : ((0 : Nat) : Int) = 0 := rfl
      rw [z, List.drop_zero] at l
      rw [run]
      simp only [ne2, cond_false, w2, w3, g1, Option.bind_some, l, g2, g3]
      by_cases hz : (b.drop (n + v)).take (b.length - 16 - n - v) = List.replicate (b.length - 16 - n - v) 0
      · left
        refine ⟨_, _, of_parts hF h1 h2 (by rw [c1, hL]) hz hle, ?_⟩
        rw [if_pos hz]; rfl
      · right
        refine ⟨fun c k hB => ?_, by rw [if_neg hz]; rfl⟩
        obtain ⟨p1, p2, p3, p4, p5⟩ := parts hF hB
        rw [h1] at p1
        simp only [Option.some.injEq, Prod.mk.injEq] at p1
        have e1 := p1.1; have e2 := p1.2; rw [← e1] at e2 p4; rw [← e2] at p4
        exact hz p4
    · right
      have ne2 : (cls j != (b.length : Int)) = true := by simpa using hL
      refine ⟨fun c k hB => ?_, by rw [run, ne2]; rfl⟩
      obtain ⟨p1, p2, p3, p4, p5⟩ := parts hF hB
      rw [h1] at p1
      simp only [Option.some.injEq, Prod.mk.injEq] at p1
      have := hB.2.2.1
      rw [← p1.1, c1] at this
      simp at this
      exact hL this
  · have h47 : T47 F 32768 0 0 0 b = some ([], 0, 0, e) := by
      simp only [T47, T47c, h4, Option.bind_some]
    right
    refine ⟨fun c k hB => ?_, ?_⟩
    · obtain ⟨p1, p2, p3, p4, p5⟩ := parts hF hB
      exact h1 _ _ p1 hB.1 (by omega)
    · have w1 : w64 ((b.length : Int) - 0) = (b.length : Int) := by rw [Int.sub_zero]; exact w64_in (by omega) (by omega)
      have h48 : T48 F 0 b = some (b.length : Int) := by simp only [T48, T48c, w1]
      simp only [T20, T20c, h46, Option.bind_some, h47, h48, beq_self_eq_true, cond_true]

/- ## the specification -/
theorem t21 {F : Nat} (hF : 41000 < F) (b : List UInt8) (hb : b.length < 1000000) :
    (∃ c k, IsBody F b c k ∧ T21 F b = some (0, c, k)) ∨ ((∀ c k, ¬ IsBody F b c k) ∧ T21 F b = some (3, [], [])) := by
  have z : ((0 : Nat) : Int) = 0 := rfl
  have e0 : ((0 : Int) != 0) = false := by decide
  have e3 : ((3 : Int) != 0) = true := by decide
  have k0 : ((1 : Int) == 0) = false := by decide
  have k6 : ((1 : Int) == 6) = false := by decide
  have k3 : ((1 : Int) == 3) = false := by decide
  have k1 : ((1 : Int) == 1) = true := by decide
  rcases t77 (F := F) (by omega) b (by omega) (a := 0) (by omega) with ⟨v, n, h1, h2⟩ | ⟨h1, h2⟩
  · rw [List.drop_zero] at h1
    rw [z, Nat.zero_add] at h2
    obtain ⟨q1, q2, q3, q4⟩ := dec_enc h1
    have hvn : (UInt64.ofNat v).toNat = v := by rw [UInt64.toNat_ofNat']; exact Nat.mod_eq_of_lt q3
    have h64 : T64 F b 0 1 0 = some (UInt64.ofNat v, 0, false, [], (n : Int), 0) := by
      simp only [T64, T64c, k6, k3, cond_false, h2, Option.bind_some, Bool.not_true, k1, cond_true]
    have h49 : T49 F 1 0 b 0 0 0 = some (UInt64.ofNat v, 0, false, [], (n : Int), 0, 0) := by
      simp only [T49, T49c, e0, k0, cond_false, h64, Option.bind_some]
    by_cases hv : v ≤ 32768
    · have hlt : ¬ UInt64.ofNat 32768 < UInt64.ofNat v := by
        show ¬ ((UInt64.ofNat 32768).toNat < (UInt64.ofNat v).toNat)
        rw [hvn]
        have : (UInt64.ofNat 32768).toNat = 32768 := rfl
        omega
      have w1 : w64 ((UInt64.ofNat v).toNat : Int) = (v : Int) := by rw [hvn]; exact w64_in (by omega) (by omega)
      have hn : n = sz v := by rw [← q2, enc_len hv]
      have hsz := sz_bd v
      have hx : (UInt64.ofInt (v : Int)).toNat = v := by rw [ofInt_nat (by omega) (by omega)]; simp
      have h43 : T43 F (v : Int) = some (((n + v + 16 : Nat)) : Int) := by
        simp only [T43, T43c, t45' (show 50 < F by omega), hx, Option.bind_some, q2]
        rw [w64_in (n := (n : Int) + (v : Int)) (by omega) (by omega), w64_in (by omega) (by omega)]
        simp
      by_cases hL : b.length < n + v + 16
      · right
        have c1 : ((b.length : Int) < (((n + v + 16 : Nat)) : Int)) := by omega
        refine ⟨fun c k hB => ?_, ?_⟩
        · obtain ⟨p1, p2, p3, p4, p5⟩ := parts (F := F) (by omega) hB
          rw [h1] at p1
          simp only [Option.some.injEq, Prod.mk.injEq] at p1
          omega
        · simp only [T21, T21c, h49, Option.bind_some, e0, cond_false, hlt, decide_false, w1, h43, c1, decide_true, cond_true]
      · have c1 : ¬ ((b.length : Int) < (((n + v + 16 : Nat)) : Int)) := by omega
        have w2 : w64 ((n : Int) + (v : Int)) = ((n + v : Nat) : Int) := by rw [w64_in (by omega) (by omega)]; omega
        have w3 : w64 ((b.length : Int) - 16) = ((b.length - 16 : Nat) : Int) := by rw [w64_in (by omega) (by omega)]; omega
        have g1 : gsl b (n : Int) ((n + v : Nat) : Int) = some ((b.drop n).take v) := by
          unfold gsl; rw [if_pos (by omega)]; simp only [Int.toNat_natCast, Nat.add_sub_cancel_left]
        have g1' : gapp ([] : List UInt8) ((b.drop n).take v) = some ((b.drop n).take v) := by unfold gapp; rw [if_pos (by simp; omega)]; simp
        have g2 : gsl b ((b.length - 16 : Nat) : Int) (b.length : Int) = some (b.drop (b.length - 16)) := by
          unfold gsl; rw [if_pos (by omega)]; simp only [Int.toNat_natCast]
          rw [List.take_of_length_le (by simp)]
        have g3 : gapp ([] : List UInt8) (b.drop (b.length - 16)) = some (b.drop (b.length - 16)) := by unfold gapp; rw [if_pos (by simp; omega)]; simp
        have hcl : ((b.drop n).take v).length = v := by simp; omega
        have hkl : (b.drop (b.length - 16)).length = 16 := by simp; omega
        obtain ⟨j, hj, a1, a2, a3⟩ := t18 (F := F) (by omega) (c := (b.drop n).take v) (k := b.drop (b.length - 16)) (by omega) hkl
        have a4 := t19 hF (by omega) hkl hj a1 a2
        have hbj := cls_b ⟨j, hj⟩
        simp only at hbj
        rw [hcl] at a1 a2
        have blen := bodyL_len' (D := (cls j).toNat) (c := (b.drop n).take v) (k := b.drop (b.length - 16)) (by omega) hkl (by rw [hcl]; omega)
        have run : T21 F b = (bif (bodyL (cls j).toNat ((b.drop n).take v) (b.drop (b.length - 16)) != b) then some (3, [], []) else some (0, (b.drop n).take v, b.drop (b.length - 16))) := by
          simp only [T21, T21c, h49, Option.bind_some, e0, cond_false, hlt, decide_false, w1, h43, c1, w2, g1, g1', w3, g2, g3, a4]
        by_cases heq : bodyL (cls j).toNat ((b.drop n).take v) (b.drop (b.length - 16)) = b
        · left
          have hlen : (cls j).toNat = b.length := by rw [← blen, heq]
          refine ⟨(b.drop n).take v, b.drop (b.length - 16), ⟨by omega, hkl, ?_, ?_⟩, ?_⟩
          · rw [hcl, a1]; simp; omega
          · exact heq.symm.trans (by rw [hlen])
          · rw [run, heq]; simp
        · right
          refine ⟨fun c k hB => ?_, ?_⟩
          · obtain ⟨p1, p2, p3, p4, p5⟩ := parts (F := F) (by omega) hB
            rw [h1] at p1
            simp only [Option.some.injEq, Prod.mk.injEq] at p1
            have e1 := p1.1; have e2 := p1.2; rw [← e1] at e2 p3; rw [← e2] at p3
            have h14 := hB.2.2.1
            rw [← p1.1, a1] at h14
            have hD : cls j = (b.length : Int) := by simpa using h14
            have hb4 := hB.2.2.2
            apply heq
            rw [p3, p5]
            have : (cls j).toNat = b.length := by omega
            rw [this]
            exact hb4.symm
          · have : (bodyL (cls j).toNat ((b.drop n).take v) (b.drop (b.length - 16)) != b) = true := by simpa using heq
            rw [run, this]; rfl
    · right
      refine ⟨fun c k hB => ?_, ?_⟩
      · obtain ⟨p1, p2, p3, p4, p5⟩ := parts (F := F) (by omega) hB
        rw [h1] at p1
        simp only [Option.some.injEq, Prod.mk.injEq] at p1
        have := hB.1
        omega
      · have hlt : UInt64.ofNat 32768 < UInt64.ofNat v := by
          show ((UInt64.ofNat 32768).toNat < (UInt64.ofNat v).toNat)
          rw [hvn]
          have : (UInt64.ofNat 32768).toNat = 32768 := rfl
          omega
        simp only [T21, T21c, h49, Option.bind_some, e0, cond_false, hlt, decide_true, cond_true]
  · right
    rw [List.drop_zero] at h1
    rw [z] at h2
    have h64 : T64 F b 0 1 0 = some (0, 0, false, [], 0, 3) := by
      simp only [T64, T64c, k6, k3, cond_false, h2, Option.bind_some, Bool.not_false, cond_true]
    have h49 : T49 F 1 0 b 0 0 0 = some (0, 0, false, [], 0, 0, 3) := by
      simp only [T49, T49c, e0, k0, cond_false, h64, Option.bind_some, e3, cond_true]
    refine ⟨fun c k hB => ?_, ?_⟩
    · obtain ⟨p1, p2, p3, p4, p5⟩ := parts (F := F) (by omega) hB
      rw [h1] at p1; cases p1
    · simp only [T21, T21c, h49, Option.bind_some, e3, cond_true]

theorem isBody_uniq {F : Nat} (hF : 50 < F) {b c k c' k' : List UInt8} (h : IsBody F b c k) (h' : IsBody F b c' k') : c = c' ∧ k = k' := by
  obtain ⟨p1, p2, p3, p4, p5⟩ := parts hF h
  obtain ⟨q1, q2, q3, q4, q5⟩ := parts hF h'
  rw [p1] at q1
  simp only [Option.some.injEq, Prod.mk.injEq] at q1
  refine ⟨?_, by rw [← p5, q5]⟩
  rw [← p3, q1.1, q3]

theorem content_eq {F : Nat} (hF : 41000 < F) (b : List UInt8) (hb : b.length < 40000) :
    (∃ c k, IsBody F b c k ∧ T20 F b = some (c, 0, k) ∧ T21 F b = some (0, c, k)) ∨ ((∀ c k, ¬ IsBody F b c k) ∧ T20 F b = some ([], 3, []) ∧ T21 F b = some (3, [], [])) := by
  rcases t20 (F := F) (by omega) b (by omega) (by omega) with ⟨c, k, h1, h2⟩ | ⟨h1, h2⟩ <;> rcases t21 hF b (by omega) with ⟨c', k', h3, h4⟩ | ⟨h3, h4⟩
  · obtain ⟨rfl, rfl⟩ := isBody_uniq (by omega) h1 h3
    exact .inl ⟨_, _, h1, h2, h4⟩
  · exact absurd h1 (h3 c k)
  · exact absurd h3 (h1 c' k')
  · exact .inr ⟨h1, h2, h4⟩

theorem isBody_t18 {F : Nat} (hF : 50 < F) {b c k : List UInt8} (h : IsBody F b c k) : T18 F c k = some (0, b) := by
  obtain ⟨hc, hk, h14, hb⟩ := h
  obtain ⟨j, hj, a1, a2, a3⟩ := t18 hF hc hk
  rw [h14] at a1
  have : (b.length : Int) = cls j := by simpa using a1
  have e : (cls j).toNat = b.length := by omega
  rw [a3, e, ← hb]

end Go.Proofs.YtjghgfohpihhfaaDoor
/- SealWiths: the plain law. -/
namespace Go.Proofs.YtjghgfohpihhfaaDoor
open Go.Tw
set_option linter.unusedVariables false
set_option linter.unusedSimpArgs false

theorem l73 (F : Nat) {a b : List UInt8} (hab : a.length = b.length) (hn : a.length < 1000000) : ∀ (m fuel i : Nat), i + m = a.length → m < fuel → iter (fun s : Int × List UInt8 => L73_2 F a b (a.length : Int) s.1 s.2) fuel (((i : Nat) : Int), xorL (a.take i) (b.take i)) = some (xorL a b)
  | m, 0, i, hi, hf => by omega
  | 0, fuel + 1, i, hi, hf => by
    have h : ¬ (((i : Nat) : Int) < (a.length : Int)) := by omega
    have e1 : a.take i = a := List.take_of_length_le (by omega)
    have e2 : b.take i = b := List.take_of_length_le (by omega)
    have step : L73_2 F a b (a.length : Int) ((i : Nat) : Int) (xorL (a.take i) (b.take i)) = some (.inr (xorL a b)) := by
      simp only [L73_2, L73_2c, h, decide_false, cond_false, e1, e2]
    exact it_out (f := fun s : Int × List UInt8 => L73_2 F a b (a.length : Int) s.1 s.2) (s := (((i : Nat) : Int), xorL (a.take i) (b.take i))) step
  | m + 1, fuel + 1, i, hi, hf => by
    have h : (((i : Nat) : Int) < (a.length : Int)) := by omega
    have ha : i < a.length := by omega
    have hb : i < b.length := by omega
    have hx : ix a ((i : Nat) : Int) = some a[i] := by unfold ix; rw [if_pos (by omega)]; simp [ha]
    have hy : ix b ((i : Nat) : Int) = some b[i] := by unfold ix; rw [if_pos (by omega)]; simp [hb]
    have w : w64 (((i : Nat) : Int) + 1) = (((i + 1 : Nat)) : Int) := by rw [w64_in (by omega) (by omega)]; omega
    have hl : (xorL (a.take i) (b.take i)).length = i := by rw [xorL_len (by simp; omega)]; simp; omega
    have hs : xorL (a.take (i + 1)) (b.take (i + 1)) = xorL (a.take i) (b.take i) ++ [a[i] ^^^ b[i]] := by
      simp only [xorL]
      rw [List.take_succ_eq_append_getElem ha, List.take_succ_eq_append_getElem hb, List.zipWith_append (by simp; omega)]
      rfl
    have hg : gapp (xorL (a.take i) (b.take i)) [a[i] ^^^ b[i]] = some (xorL (a.take (i + 1)) (b.take (i + 1))) := by
      unfold gapp; rw [if_pos (by simp [hl]; omega), hs]
    have step : L73_2 F a b (a.length : Int) ((i : Nat) : Int) (xorL (a.take i) (b.take i)) = some (.inl (((i + 1 : Nat) : Int), xorL (a.take (i + 1)) (b.take (i + 1)))) := by
      simp only [L73_2, L73_2c, h, decide_true, cond_true, hx, hy, hg, Option.bind_some, w]
    refine (it_again (f := fun s : Int × List UInt8 => L73_2 F a b (a.length : Int) s.1 s.2) (s := (((i : Nat) : Int), xorL (a.take i) (b.take i))) step).trans ?_
    exact l73 F hab hn m fuel (i + 1) (by omega) (by omega)

theorem t58 {F : Nat} {a b : List UInt8} (hF : a.length < F) (hn : a.length < 1000000) (h : a.length = b.length) : T58 F a b = some (xorL a b) := by
  have e : ((a.length : Int) != (b.length : Int)) = false := by simp [h]
  have l := l73 F h hn a.length F 0 (by omega) hF
  have z : ((0 : Nat) : Int) = 0 := rfl
  simp only [List.take_zero, z] at l
  have x0 : xorL [] [] = [] := rfl
  rw [x0] at l
  simp only [T58, T58c, T73, T73c, e, cond_false, l, Option.bind_some]

theorem body_bd {F : Nat} (hF : 41000 < F) (c k : List UInt8) : ∃ r, T18 F c k = some r ∧ T19 F c k = some r ∧ (r.1 ≠ 0 ∨ r.2.length ≤ 40960) := by
  obtain ⟨r, h1, h2⟩ := body_eq hF c k
  refine ⟨r, h1, h2, ?_⟩
  by_cases hk : k.length = 16
  · by_cases hc : c.length ≤ 32768
    · obtain ⟨j, hj, a1, a2, a3⟩ := t18 (F := F) (by omega) hc hk
      rw [h1] at a3
      cases a3
      have hb := cls_b ⟨j, hj⟩
      simp only at hb
      right
      rw [bodyL_len hc hk (by omega)]
      omega
    · have h14 := t14_hi (F := F) (n := (c.length : Int)) (by omega)
      have hk' : ((k.length : Int) != 16) = false := by simp [hk]
      have e0 : ((2 : Int) != 0) = true := by decide
      have : T18 F c k = some (2, []) := by simp only [T18, T18c, hk', cond_false, h14, Option.bind_some, e0, cond_true]
      rw [h1] at this
      cases this
      left; decide
  · have hk' : ((k.length : Int) != 16) = true := by simp; omega
    have : T18 F c k = some (1, []) := by simp only [T18, T18c, hk', cond_true]
    rw [h1] at this
    cases this
    left; decide

theorem sealWith_eq {F : Nat} (hF : 41000 < F) (s k c : List UInt8) : ∃ r, T34 F s k c = some r ∧ T35 F s k c = some r ∧ (r.2 = [] ∨ r.2.length = s.length) := by
  obtain ⟨r, h1, h2, h3⟩ := body_bd hF c k
  by_cases h0 : r.1 = 0
  · have e0 : (r.1 != 0) = false := by simp [h0]
    have hl : r.2.length ≤ 40960 := by rcases h3 with h | h; exact absurd h0 h; exact h
    by_cases hs : r.2.length = s.length
    · refine ⟨(0, xorL r.2 s), ?_, ?_, .inr ?_⟩
      · simp only [T34, T34c, h1, Option.bind_some, e0, cond_false]
        rw [t57 (by omega) (by omega) hs]; rfl
      · have e1 : ((s.length : Int) != (r.2.length : Int)) = false := by simp [hs]
        simp only [T35, T35c, h2, Option.bind_some, e0, cond_false, e1]
        rw [t58 (by omega) (by omega) hs]; rfl
      · simp only; rw [xorL_len hs, hs]
    · refine ⟨(1, []), ?_, ?_, .inl rfl⟩
      · simp only [T34, T34c, h1, Option.bind_some, e0, cond_false]
        rw [t57n hs]; rfl
      · have e1 : ((s.length : Int) != (r.2.length : Int)) = true := by simp; omega
        simp only [T35, T35c, h2, Option.bind_some, e0, cond_false, e1, cond_true]
  · have e0 : (r.1 != 0) = true := by simpa using h0
    refine ⟨(r.1, []), ?_, ?_, .inl rfl⟩
    · simp only [T34, T34c, h1, Option.bind_some, e0, cond_true]
    · simp only [T35, T35c, h2, Option.bind_some, e0, cond_true]

theorem openWith_eq {F : Nat} (hF : 41000 < F) (s x : List UInt8) (hs : s.length < 40000) : ∃ c e k, T37 F s x = some (c, e, k) ∧ T38 F s x = some (e, c, k) := by
  by_cases h : x.length = s.length
  · have e1 : ((s.length : Int) != (x.length : Int)) = false := by simp [h]
    have e0 : ((0 : Int) != 0) = false := by decide
    have h57 := t57 (F := F) (a := x) (b := s) (by omega) (by omega) h
    have h58 := t58 (F := F) (a := s) (b := x) (by omega) (by omega) h.symm
    rw [xorL_comm] at h58
    have hl : (xorL x s).length < 40000 := by rw [xorL_len h]; omega
    rcases content_eq hF (xorL x s) hl with ⟨c, k, h1, h2, h3⟩ | ⟨h1, h2, h3⟩
    · refine ⟨c, 0, k, ?_, ?_⟩
      · simp only [T37, T37c, h57, Option.bind_some, e0, cond_false, h2]
      · simp only [T38, T38c, e1, cond_false, h58, Option.bind_some, h3]
    · refine ⟨[], 3, [], ?_, ?_⟩
      · simp only [T37, T37c, h57, Option.bind_some, e0, cond_false, h2]
      · simp only [T38, T38c, e1, cond_false, h58, Option.bind_some, h3]
  · have e1 : ((s.length : Int) != (x.length : Int)) = true := by simp; omega
    have e2 : ((1 : Int) != 0) = true := by decide
    refine ⟨[], 1, [], ?_, ?_⟩
    · simp only [T37, T37c, t57n h, Option.bind_some, e2, cond_true]
    · simp only [T38, T38c, e1, cond_true]

end Go.Proofs.YtjghgfohpihhfaaDoor
/- Loops side by side; the block of sha256 is that of the reference. -/
namespace Go.Proofs.YtjghgfohpihhfaaDoor
open Go.Tw
set_option linter.unusedVariables false
set_option linter.unusedSimpArgs false

theorem iter2 {σ τ ρ ρ' : Type} {f : σ → Option (σ ⊕ ρ)} {g : τ → Option (τ ⊕ ρ')} (R : σ → τ → Prop) (Q : ρ → ρ' → Prop) (μ : σ → Nat)
    (h : ∀ s t, R s t → (∃ s' t', f s = some (.inl s') ∧ g t = some (.inl t') ∧ R s' t' ∧ μ s' < μ s) ∨ (∃ r r', f s = some (.inr r) ∧ g t = some (.inr r') ∧ Q r r')) :
    ∀ (n m : Nat) (s : σ) (t : τ), R s t → μ s < n → μ s < m → ∃ r r', iter f n s = some r ∧ iter g m t = some r' ∧ Q r r'
  | 0, m, s, t, hR, hn, hm => absurd hn (by omega)
  | n + 1, 0, s, t, hR, hn, hm => absurd hm (by omega)
  | n + 1, m + 1, s, t, hR, hn, hm => by
    rcases h s t hR with ⟨s', t', h1, h2, h3, h4⟩ | ⟨r, r', h1, h2, h3⟩
    · rw [it_again h1, it_again h2]
      exact iter2 R Q μ h n m s' t' h3 (by omega) (by omega)
    · exact ⟨r, r', it_out h1, it_out h2, h3⟩

theorem iter1 {σ ρ : Type} {f : σ → Option (σ ⊕ ρ)} (R : σ → Prop) (Q : ρ → Prop) (μ : σ → Nat)
    (h : ∀ s, R s → (∃ s', f s = some (.inl s') ∧ R s' ∧ μ s' < μ s) ∨ (∃ r, f s = some (.inr r) ∧ Q r)) :
    ∀ (n : Nat) (s : σ), R s → μ s < n → ∃ r, iter f n s = some r ∧ Q r
  | 0, s, hR, hn => absurd hn (by omega)
  | n + 1, s, hR, hn => by
    rcases h s hR with ⟨s', h1, h3, h4⟩ | ⟨r, h1, h3⟩
    · rw [it_again h1]
      exact iter1 R Q μ h n s' h3 (by omega)
    · exact ⟨r, it_out h1, h3⟩

theorem iterP {σ τ ρ ρ' : Type} {f : σ → Option (σ ⊕ ρ)} {g : τ → Option (τ ⊕ ρ')} (R : σ → τ → Prop) (Q : σ → ρ' → Prop) (μ : σ → Nat)
    (h : ∀ s t, R s t → (∃ s' t', f s = some (.inl s') ∧ g t = some (.inl t') ∧ R s' t' ∧ μ s' < μ s) ∨ (∃ r', g t = some (.inr r') ∧ Q s r')) :
    ∀ (m : Nat) (s : σ) (t : τ), R s t → μ s < m → ∃ k s' r', k ≤ μ s ∧ iter g m t = some r' ∧ Q s' r' ∧ ∀ n, iter f (n + k) s = iter f n s'
  | 0, s, t, hR, hm => absurd hm (by omega)
  | m + 1, s, t, hR, hm => by
    rcases h s t hR with ⟨s', t', h1, h2, h3, h4⟩ | ⟨r', h1, h2⟩
    · obtain ⟨k, s'', r', a1, a2, a3, a4⟩ := iterP R Q μ h m s' t' h3 (by omega)
      exact ⟨k + 1, s'', r', by omega, (it_again h2).trans a2, a3, fun n => (it_again (n := n + k) h1).trans (a4 n)⟩
    · exact ⟨0, s, r', by omega, it_out h1, h2, fun n => rfl⟩

theorem inb_nat {n i : Nat} (h : i < n) : inb n ((i : Nat) : Int) = some i := by
  unfold inb; rw [if_pos (by omega)]; simp only [Int.toNat_natCast]
theorem vat_nat {α : Type} {n i : Nat} {v : Vector α n} (h : i < n) : vat v i = some v[i] := by
  rw [vat_eq]; exact getElem?_pos v i h
theorem vix_nat {α : Type} {n i : Nat} {v : Vector α n} (h : i < n) : vix v ((i : Nat) : Int) = some v[i] := by
  unfold vix; rw [if_pos (by omega)]; simp only [Int.toNat_natCast]; exact getElem?_pos v i h
theorem gsl_nat {α : Type} {l : List α} {a b : Nat} (h : a ≤ b) (hb : b ≤ l.length) : gsl l ((a : Nat) : Int) ((b : Nat) : Int) = some ((l.drop a).take (b - a)) := by
  unfold gsl; rw [if_pos (by omega)]; simp only [Int.toNat_natCast]
theorem gslb_nat {n a b : Nat} (h : a ≤ b) (hb : b ≤ n) : gslb n ((a : Nat) : Int) ((b : Nat) : Int) = some (a, b) := by
  unfold gslb; rw [if_pos (by omega)]; simp only [Int.toNat_natCast]
theorem ix_dt {p : List UInt8} {a k : Nat} (h : a + k < p.length) (hk : k < 4) : ix ((p.drop a).take 4) ((k : Nat) : Int) = some p[a + k] := by
  rw [ix_nat (by simp; omega)]; simp

def rr (x : UInt32) (k : Nat) : UInt32 := shr32 x k ||| shl32 x (32 - k)
theorem a94_17 (F : Nat) (x : UInt32) : T94 F x (-17) = some (rr x 17) := by
  have e1 : ((UInt64.ofInt (-17)) &&& (UInt64.ofNat 31)).toNat = 15 := by decide +kernel
  have e2 : ((UInt64.ofNat 32) - ((UInt64.ofInt (-17)) &&& (UInt64.ofNat 31))).toNat = 17 := by decide +kernel
  simp only [T94, T94c, e1, e2, rr]
  rw [UInt32.or_comm]
theorem a93_17 (F : Nat) (x : UInt32) : T93 F x 17 = some (rr x 17) := by
  have e1 : gnn (17 : Int) = some 17 := by decide +kernel
  have e2 : gnn (w64 ((32 : Int) - 17)) = some 15 := by decide +kernel
  simp only [T93, T93c, e1, e2, rr, Option.bind_some]
theorem a94_19 (F : Nat) (x : UInt32) : T94 F x (-19) = some (rr x 19) := by
  have e1 : ((UInt64.ofInt (-19)) &&& (UInt64.ofNat 31)).toNat = 13 := by decide +kernel
  have e2 : ((UInt64.ofNat 32) - ((UInt64.ofInt (-19)) &&& (UInt64.ofNat 31))).toNat = 19 := by decide +kernel
  simp only [T94, T94c, e1, e2, rr]
  rw [UInt32.or_comm]
theorem a93_19 (F : Nat) (x : UInt32) : T93 F x 19 = some (rr x 19) := by
  have e1 : gnn (19 : Int) = some 19 := by decide +kernel
  have e2 : gnn (w64 ((32 : Int) - 19)) = some 13 := by decide +kernel
  simp only [T93, T93c, e1, e2, rr, Option.bind_some]
theorem a94_7 (F : Nat) (x : UInt32) : T94 F x (-7) = some (rr x 7) := by
  have e1 : ((UInt64.ofInt (-7)) &&& (UInt64.ofNat 31)).toNat = 25 := by decide +kernel
  have e2 : ((UInt64.ofNat 32) - ((UInt64.ofInt (-7)) &&& (UInt64.ofNat 31))).toNat = 7 := by decide +kernel
  simp only [T94, T94c, e1, e2, rr]
  rw [UInt32.or_comm]
theorem a93_7 (F : Nat) (x : UInt32) : T93 F x 7 = some (rr x 7) := by
  have e1 : gnn (7 : Int) = some 7 := by decide +kernel
  have e2 : gnn (w64 ((32 : Int) - 7)) = some 25 := by decide +kernel
  simp only [T93, T93c, e1, e2, rr, Option.bind_some]
theorem a94_18 (F : Nat) (x : UInt32) : T94 F x (-18) = some (rr x 18) := by
  have e1 : ((UInt64.ofInt (-18)) &&& (UInt64.ofNat 31)).toNat = 14 := by decide +kernel
  have e2 : ((UInt64.ofNat 32) - ((UInt64.ofInt (-18)) &&& (UInt64.ofNat 31))).toNat = 18 := by decide +kernel
  simp only [T94, T94c, e1, e2, rr]
  rw [UInt32.or_comm]
theorem a93_18 (F : Nat) (x : UInt32) : T93 F x 18 = some (rr x 18) := by
  have e1 : gnn (18 : Int) = some 18 := by decide +kernel
  have e2 : gnn (w64 ((32 : Int) - 18)) = some 14 := by decide +kernel
  simp only [T93, T93c, e1, e2, rr, Option.bind_some]
theorem a94_6 (F : Nat) (x : UInt32) : T94 F x (-6) = some (rr x 6) := by
  have e1 : ((UInt64.ofInt (-6)) &&& (UInt64.ofNat 31)).toNat = 26 := by decide +kernel
  have e2 : ((UInt64.ofNat 32) - ((UInt64.ofInt (-6)) &&& (UInt64.ofNat 31))).toNat = 6 := by decide +kernel
  simp only [T94, T94c, e1, e2, rr]
  rw [UInt32.or_comm]
theorem a93_6 (F : Nat) (x : UInt32) : T93 F x 6 = some (rr x 6) := by
  have e1 : gnn (6 : Int) = some 6 := by decide +kernel
  have e2 : gnn (w64 ((32 : Int) - 6)) = some 26 := by decide +kernel
  simp only [T93, T93c, e1, e2, rr, Option.bind_some]
theorem a94_11 (F : Nat) (x : UInt32) : T94 F x (-11) = some (rr x 11) := by
  have e1 : ((UInt64.ofInt (-11)) &&& (UInt64.ofNat 31)).toNat = 21 := by decide +kernel
  have e2 : ((UInt64.ofNat 32) - ((UInt64.ofInt (-11)) &&& (UInt64.ofNat 31))).toNat = 11 := by decide +kernel
  simp only [T94, T94c, e1, e2, rr]
  rw [UInt32.or_comm]
theorem a93_11 (F : Nat) (x : UInt32) : T93 F x 11 = some (rr x 11) := by
  have e1 : gnn (11 : Int) = some 11 := by decide +kernel
  have e2 : gnn (w64 ((32 : Int) - 11)) = some 21 := by decide +kernel
  simp only [T93, T93c, e1, e2, rr, Option.bind_some]
theorem a94_25 (F : Nat) (x : UInt32) : T94 F x (-25) = some (rr x 25) := by
  have e1 : ((UInt64.ofInt (-25)) &&& (UInt64.ofNat 31)).toNat = 7 := by decide +kernel
  have e2 : ((UInt64.ofNat 32) - ((UInt64.ofInt (-25)) &&& (UInt64.ofNat 31))).toNat = 25 := by decide +kernel
  simp only [T94, T94c, e1, e2, rr]
  rw [UInt32.or_comm]
theorem a93_25 (F : Nat) (x : UInt32) : T93 F x 25 = some (rr x 25) := by
  have e1 : gnn (25 : Int) = some 25 := by decide +kernel
  have e2 : gnn (w64 ((32 : Int) - 25)) = some 7 := by decide +kernel
  simp only [T93, T93c, e1, e2, rr, Option.bind_some]
theorem a94_2 (F : Nat) (x : UInt32) : T94 F x (-2) = some (rr x 2) := by
  have e1 : ((UInt64.ofInt (-2)) &&& (UInt64.ofNat 31)).toNat = 30 := by decide +kernel
  have e2 : ((UInt64.ofNat 32) - ((UInt64.ofInt (-2)) &&& (UInt64.ofNat 31))).toNat = 2 := by decide +kernel
  simp only [T94, T94c, e1, e2, rr]
  rw [UInt32.or_comm]
theorem a93_2 (F : Nat) (x : UInt32) : T93 F x 2 = some (rr x 2) := by
  have e1 : gnn (2 : Int) = some 2 := by decide +kernel
  have e2 : gnn (w64 ((32 : Int) - 2)) = some 30 := by decide +kernel
  simp only [T93, T93c, e1, e2, rr, Option.bind_some]
theorem a94_13 (F : Nat) (x : UInt32) : T94 F x (-13) = some (rr x 13) := by
  have e1 : ((UInt64.ofInt (-13)) &&& (UInt64.ofNat 31)).toNat = 19 := by decide +kernel
  have e2 : ((UInt64.ofNat 32) - ((UInt64.ofInt (-13)) &&& (UInt64.ofNat 31))).toNat = 13 := by decide +kernel
  simp only [T94, T94c, e1, e2, rr]
  rw [UInt32.or_comm]
theorem a93_13 (F : Nat) (x : UInt32) : T93 F x 13 = some (rr x 13) := by
  have e1 : gnn (13 : Int) = some 13 := by decide +kernel
  have e2 : gnn (w64 ((32 : Int) - 13)) = some 19 := by decide +kernel
  simp only [T93, T93c, e1, e2, rr, Option.bind_some]
theorem a94_22 (F : Nat) (x : UInt32) : T94 F x (-22) = some (rr x 22) := by
  have e1 : ((UInt64.ofInt (-22)) &&& (UInt64.ofNat 31)).toNat = 10 := by decide +kernel
  have e2 : ((UInt64.ofNat 32) - ((UInt64.ofInt (-22)) &&& (UInt64.ofNat 31))).toNat = 22 := by decide +kernel
  simp only [T94, T94c, e1, e2, rr]
  rw [UInt32.or_comm]
theorem a93_22 (F : Nat) (x : UInt32) : T93 F x 22 = some (rr x 22) := by
  have e1 : gnn (22 : Int) = some 22 := by decide +kernel
  have e2 : gnn (w64 ((32 : Int) - 22)) = some 10 := by decide +kernel
  simp only [T93, T93c, e1, e2, rr, Option.bind_some]

def wd4 (a b c d : UInt8) : UInt32 := (((shl32 (a.toUInt32) ((UInt64.ofNat 24).toNat)) ||| (shl32 (b.toUInt32) ((UInt64.ofNat 16).toNat))) ||| (shl32 (c.toUInt32) ((UInt64.ofNat 8).toNat))) ||| (d.toUInt32)
def sch4 (a b c d : UInt32) : UInt32 := ((((rr a 17 ^^^ rr a 19) ^^^ (shr32 a ((UInt64.ofNat 10).toNat))) + b) + ((rr c 7 ^^^ rr c 18) ^^^ (shr32 c ((UInt64.ofNat 3).toNat)))) + d

theorem s91_lo (F : Nat) {p : List UInt8} (hp : p.length = 64) {i : Nat} (hi : i < 16) (w : Vector UInt32 64) :
    L91x1_4 F p ((i : Nat) : Int) w = some (.inl (((i + 1 : Nat) : Int), w.setIfInBounds i (wd4 p[4 * i] p[4 * i + 1] p[4 * i + 2] p[4 * i + 3]))) := by
  have h1 : (((i : Nat) : Int) < 64) := by omega
  have h2 : (((i : Nat) : Int) < 16) := by omega
  have e1 : w64 ((4 : Int) * ((i : Nat) : Int)) = ((4 * i : Nat) : Int) := by rw [w64_in (by omega) (by omega)]; omega
  have e2 : w64 (((4 * i : Nat) : Int) + 4) = ((4 * i + 4 : Nat) : Int) := by rw [w64_in (by omega) (by omega)]; omega
  have e3 : w64 (((i : Nat) : Int) + 1) = ((i + 1 : Nat) : Int) := by rw [w64_in (by omega) (by omega)]; omega
  have g : gsl p ((4 * i : Nat) : Int) ((4 * i + 4 : Nat) : Int) = some ((p.drop (4 * i)).take 4) := by
    rw [gsl_nat (by omega) (by omega), Nat.add_sub_cancel_left]
  have x0 : ix ((p.drop (4 * i)).take 4) (0 : Int) = some p[4 * i] := ix_dt (k := 0) (by omega) (by omega)
  have x1 : ix ((p.drop (4 * i)).take 4) (1 : Int) = some p[4 * i + 1] := ix_dt (k := 1) (by omega) (by omega)
  have x2 : ix ((p.drop (4 * i)).take 4) (2 : Int) = some p[4 * i + 2] := ix_dt (k := 2) (by omega) (by omega)
  have x3 : ix ((p.drop (4 * i)).take 4) (3 : Int) = some p[4 * i + 3] := ix_dt (k := 3) (by omega) (by omega)
  have n : inb 64 ((i : Nat) : Int) = some i := inb_nat (by omega)
  simp only [L91x1_4, L91x1_4c, h1, h2, decide_true, cond_true, e1, e2, e3, g, x0, x1, x2, x3, n, Option.bind_some, wd4]

theorem s85_lo (F : Nat) {p : List UInt8} (hp : p.length = 64) {i : Nat} (hi : i < 16) (w : Vector UInt32 64) :
    L85_5 F p ((i : Nat) : Int) w = some (.inl (((i + 1 : Nat) : Int), w.setIfInBounds i (wd4 p[4 * i] p[4 * i + 1] p[4 * i + 2] p[4 * i + 3]))) := by
  have h2 : (((i : Nat) : Int) < 16) := by omega
  have e1 : w64 ((4 : Int) * ((i : Nat) : Int)) = ((4 * i : Nat) : Int) := by rw [w64_in (by omega) (by omega)]; omega
  have f1 : w64 (((4 * i : Nat) : Int) + 1) = ((4 * i + 1 : Nat) : Int) := by rw [w64_in (by omega) (by omega)]; omega
  have f2 : w64 (((4 * i : Nat) : Int) + 2) = ((4 * i + 2 : Nat) : Int) := by rw [w64_in (by omega) (by omega)]; omega
  have f3 : w64 (((4 * i : Nat) : Int) + 3) = ((4 * i + 3 : Nat) : Int) := by rw [w64_in (by omega) (by omega)]; omega
  have e3 : w64 (((i : Nat) : Int) + 1) = ((i + 1 : Nat) : Int) := by rw [w64_in (by omega) (by omega)]; omega
  have x0 : ix p ((4 * i : Nat) : Int) = some p[4 * i] := ix_nat (by omega)
  have x1 : ix p ((4 * i + 1 : Nat) : Int) = some p[4 * i + 1] := ix_nat (by omega)
  have x2 : ix p ((4 * i + 2 : Nat) : Int) = some p[4 * i + 2] := ix_nat (by omega)
  have x3 : ix p ((4 * i + 3 : Nat) : Int) = some p[4 * i + 3] := ix_nat (by omega)
  have n : inb 64 ((i : Nat) : Int) = some i := inb_nat (by omega)
  simp only [L85_5, L85_5c, h2, decide_true, cond_true, e1, e3, f1, f2, f3, x0, x1, x2, x3, n, Option.bind_some, wd4]

theorem s91_hi (F : Nat) (p : List UInt8) {i : Nat} (h16 : 16 ≤ i) (hi : i < 64) (w : Vector UInt32 64) :
    L91x1_4 F p ((i : Nat) : Int) w = some (.inl (((i + 1 : Nat) : Int), w.setIfInBounds i (sch4 w[i - 2] w[i - 7] w[i - 15] w[i - 16]))) := by
  have h1 : (((i : Nat) : Int) < 64) := by omega
  have h2 : ¬ (((i : Nat) : Int) < 16) := by omega
  have e3 : w64 (((i : Nat) : Int) + 1) = ((i + 1 : Nat) : Int) := by rw [w64_in (by omega) (by omega)]; omega
  have f1 : w64 (((i : Nat) : Int) - 2) = ((i - 2 : Nat) : Int) := by rw [w64_in (by omega) (by omega)]; omega
  have f2 : w64 (((i : Nat) : Int) - 7) = ((i - 7 : Nat) : Int) := by rw [w64_in (by omega) (by omega)]; omega
  have f3 : w64 (((i : Nat) : Int) - 15) = ((i - 15 : Nat) : Int) := by rw [w64_in (by omega) (by omega)]; omega
  have f4 : w64 (((i : Nat) : Int) - 16) = ((i - 16 : Nat) : Int) := by rw [w64_in (by omega) (by omega)]; omega
  have n : inb 64 ((i : Nat) : Int) = some i := inb_nat (by omega)
  have n1 : inb 64 ((i - 2 : Nat) : Int) = some (i - 2) := inb_nat (by omega)
  have n2 : inb 64 ((i - 7 : Nat) : Int) = some (i - 7) := inb_nat (by omega)
  have n3 : inb 64 ((i - 15 : Nat) : Int) = some (i - 15) := inb_nat (by omega)
  have n4 : inb 64 ((i - 16 : Nat) : Int) = some (i - 16) := inb_nat (by omega)
  have v1 : vat w (i - 2) = some w[i - 2] := vat_nat (by omega)
  have v2 : vat w (i - 7) = some w[i - 7] := vat_nat (by omega)
  have v3 : vat w (i - 15) = some w[i - 15] := vat_nat (by omega)
  have v4 : vat w (i - 16) = some w[i - 16] := vat_nat (by omega)
  simp only [L91x1_4, L91x1_4c, h1, h2, decide_true, decide_false, cond_true, cond_false, e3, f1, f2, f3, f4, n, n1, n2, n3, n4, v1, v2, v3, v4, a94_17, a94_19, a94_7, a94_18, Option.bind_some, sch4]

theorem s85_hi (F : Nat) {i : Nat} (h16 : 16 ≤ i) (hi : i < 64) (w : Vector UInt32 64) :
    L85_6 F ((i : Nat) : Int) w = some (.inl (((i + 1 : Nat) : Int), w.setIfInBounds i (sch4 w[i - 2] w[i - 7] w[i - 15] w[i - 16]))) := by
  have h1 : (((i : Nat) : Int) < 64) := by omega
  have e3 : w64 (((i : Nat) : Int) + 1) = ((i + 1 : Nat) : Int) := by rw [w64_in (by omega) (by omega)]; omega
  have f1 : w64 (((i : Nat) : Int) - 2) = ((i - 2 : Nat) : Int) := by rw [w64_in (by omega) (by omega)]; omega
  have f2 : w64 (((i : Nat) : Int) - 7) = ((i - 7 : Nat) : Int) := by rw [w64_in (by omega) (by omega)]; omega
  have f3 : w64 (((i : Nat) : Int) - 15) = ((i - 15 : Nat) : Int) := by rw [w64_in (by omega) (by omega)]; omega
  have f4 : w64 (((i : Nat) : Int) - 16) = ((i - 16 : Nat) : Int) := by rw [w64_in (by omega) (by omega)]; omega
  have n : inb 64 ((i : Nat) : Int) = some i := inb_nat (by omega)
  have n1 : inb 64 ((i - 2 : Nat) : Int) = some (i - 2) := inb_nat (by omega)
  have n2 : inb 64 ((i - 7 : Nat) : Int) = some (i - 7) := inb_nat (by omega)
  have n3 : inb 64 ((i - 15 : Nat) : Int) = some (i - 15) := inb_nat (by omega)
  have n4 : inb 64 ((i - 16 : Nat) : Int) = some (i - 16) := inb_nat (by omega)
  have v1 : vat w (i - 2) = some w[i - 2] := vat_nat (by omega)
  have v2 : vat w (i - 7) = some w[i - 7] := vat_nat (by omega)
  have v3 : vat w (i - 15) = some w[i - 15] := vat_nat (by omega)
  have v4 : vat w (i - 16) = some w[i - 16] := vat_nat (by omega)
  simp only [L85_6, L85_6c, h1, decide_true, cond_true, e3, f1, f2, f3, f4, n, n1, n2, n3, n4, v1, v2, v3, v4, a93_17, a93_19, a93_7, a93_18, Option.bind_some, sch4]

theorem sched {F : Nat} (hF : 100 < F) {p : List UInt8} (hp : p.length = 64) : ∃ w w0, iter (fun s : Int × Vector UInt32 64 => L91x1_4 F p s.1 s.2) F ((0 : Int), (Vector.replicate 64 (0 : UInt32))) = some w ∧
    iter (fun s : Int × Vector UInt32 64 => L85_5 F p s.1 s.2) F ((0 : Int), (Vector.replicate 64 (0 : UInt32))) = some w0 ∧ iter (fun s : Int × Vector UInt32 64 => L85_6 F s.1 s.2) F ((16 : Int), w0) = some w := by
  obtain ⟨k, s', w0, a1, a2, a3, a4⟩ := iterP (f := fun s : Int × Vector UInt32 64 => L91x1_4 F p s.1 s.2) (g := fun s : Int × Vector UInt32 64 => L85_5 F p s.1 s.2)
    (fun s t => s = t ∧ ∃ i : Nat, s.1 = i ∧ i ≤ 16) (fun s r => s = ((16 : Int), r)) (fun s => 16 - s.1.toNat) (by
      rintro ⟨a, w⟩ t ⟨rfl, i, hi, h16⟩
      simp only at hi
      subst hi
      by_cases h : i < 16
      · exact .inl ⟨_, _, s91_lo F hp h w, s85_lo F hp h w, ⟨rfl, i + 1, rfl, by omega⟩, by simp only [Int.toNat_natCast]; omega⟩
      · obtain rfl : i = 16 := by omega
        exact .inr ⟨w, rfl, rfl⟩) F ((0 : Int), (Vector.replicate 64 (0 : UInt32))) ((0 : Int), (Vector.replicate 64 (0 : UInt32))) ⟨rfl, 0, rfl, by omega⟩ (by simp only [Int.toNat_zero]; omega)
  simp only [Int.toNat_zero, Nat.sub_zero] at a1
  subst a3
  obtain ⟨w, w', b1, b2, b3⟩ := iter2 (f := fun s : Int × Vector UInt32 64 => L91x1_4 F p s.1 s.2) (g := fun s : Int × Vector UInt32 64 => L85_6 F s.1 s.2)
    (fun s t => s = t ∧ ∃ i : Nat, s.1 = i ∧ 16 ≤ i ∧ i ≤ 64) (fun r r' => r = r') (fun s => 64 - s.1.toNat) (by
      rintro ⟨a, w⟩ t ⟨rfl, i, hi, h16, h64⟩
      simp only at hi
      subst hi
      by_cases h : i < 64
      · exact .inl ⟨_, _, s91_hi F p h16 h w, s85_hi F h16 h w, ⟨rfl, i + 1, rfl, by omega, by omega⟩, by simp only [Int.toNat_natCast]; omega⟩
      · obtain rfl : i = 64 := by omega
        exact .inr ⟨w, w, rfl, rfl, rfl⟩) (F - k) F ((16 : Int), w0) ((16 : Int), w0) ⟨rfl, 16, rfl, by omega, by omega⟩ (by have : ((16 : Int)).toNat = 16 := rfl; simp only [this]; omega) (by have : ((16 : Int)).toNat = 16 := rfl; simp only [this]; omega)
  subst b3
  refine ⟨w, w0, ?_, a2, b2⟩
  have := a4 (F - k)
  rw [Nat.sub_add_cancel (by omega)] at this
  rw [this, b1]

/-- The words out of an array's bytes. -/
theorem s91v_lo (F : Nat) (v : Vector UInt8 64) {i : Nat} (hi : i < 16) (w : Vector UInt32 64) :
    L91_4 F v (0, 64) ((i : Nat) : Int) w = some (.inl ((0, 64), ((i + 1 : Nat) : Int), w.setIfInBounds i (wd4 v[4 * i] v[4 * i + 1] v[4 * i + 2] v[4 * i + 3]))) := by
  have h1 : (((i : Nat) : Int) < 64) := by omega
  have h2 : (((i : Nat) : Int) < 16) := by omega
  have e1 : w64 ((4 : Int) * ((i : Nat) : Int)) = ((4 * i : Nat) : Int) := by rw [w64_in (by omega) (by omega)]; omega
  have e2 : w64 (((4 * i : Nat) : Int) + 4) = ((4 * i + 4 : Nat) : Int) := by rw [w64_in (by omega) (by omega)]; omega
  have e3 : w64 (((i : Nat) : Int) + 1) = ((i + 1 : Nat) : Int) := by rw [w64_in (by omega) (by omega)]; omega
  have g : gslb 64 ((4 * i : Nat) : Int) ((4 * i + 4 : Nat) : Int) = some (4 * i, 4 * i + 4) := gslb_nat (by omega) (by omega)
  have m0 : inb 4 (0 : Int) = some 0 := by decide
  have m1 : inb 4 (1 : Int) = some 1 := by decide
  have m2 : inb 4 (2 : Int) = some 2 := by decide
  have m3 : inb 4 (3 : Int) = some 3 := by decide
  have x0 : vat v (4 * i) = some v[4 * i] := vat_nat (by omega)
  have x1 : vat v (4 * i + 1) = some v[4 * i + 1] := vat_nat (by omega)
  have x2 : vat v (4 * i + 2) = some v[4 * i + 2] := vat_nat (by omega)
  have x3 : vat v (4 * i + 3) = some v[4 * i + 3] := vat_nat (by omega)
  have n : inb 64 ((i : Nat) : Int) = some i := inb_nat (by omega)
  simp only [L91_4, L91_4c, h1, h2, decide_true, cond_true, e1, e2, e3, Nat.sub_zero, Nat.zero_add, g, Nat.add_sub_cancel_left, m0, m1, m2, m3, Nat.add_zero, x0, x1, x2, x3, n, Option.bind_some, wd4]

theorem s91v_hi (F : Nat) (v : Vector UInt8 64) {i : Nat} (h16 : 16 ≤ i) (hi : i < 64) (w : Vector UInt32 64) :
    L91_4 F v (0, 64) ((i : Nat) : Int) w = some (.inl ((0, 64), ((i + 1 : Nat) : Int), w.setIfInBounds i (sch4 w[i - 2] w[i - 7] w[i - 15] w[i - 16]))) := by
  have h1 : (((i : Nat) : Int) < 64) := by omega
  have h2 : ¬ (((i : Nat) : Int) < 16) := by omega
  have e3 : w64 (((i : Nat) : Int) + 1) = ((i + 1 : Nat) : Int) := by rw [w64_in (by omega) (by omega)]; omega
  have f1 : w64 (((i : Nat) : Int) - 2) = ((i - 2 : Nat) : Int) := by rw [w64_in (by omega) (by omega)]; omega
  have f2 : w64 (((i : Nat) : Int) - 7) = ((i - 7 : Nat) : Int) := by rw [w64_in (by omega) (by omega)]; omega
  have f3 : w64 (((i : Nat) : Int) - 15) = ((i - 15 : Nat) : Int) := by rw [w64_in (by omega) (by omega)]; omega
  have f4 : w64 (((i : Nat) : Int) - 16) = ((i - 16 : Nat) : Int) := by rw [w64_in (by omega) (by omega)]; omega
  have n : inb 64 ((i : Nat) : Int) = some i := inb_nat (by omega)
  have n1 : inb 64 ((i - 2 : Nat) : Int) = some (i - 2) := inb_nat (by omega)
  have n2 : inb 64 ((i - 7 : Nat) : Int) = some (i - 7) := inb_nat (by omega)
  have n3 : inb 64 ((i - 15 : Nat) : Int) = some (i - 15) := inb_nat (by omega)
  have n4 : inb 64 ((i - 16 : Nat) : Int) = some (i - 16) := inb_nat (by omega)
  have v1 : vat w (i - 2) = some w[i - 2] := vat_nat (by omega)
  have v2 : vat w (i - 7) = some w[i - 7] := vat_nat (by omega)
  have v3 : vat w (i - 15) = some w[i - 15] := vat_nat (by omega)
  have v4 : vat w (i - 16) = some w[i - 16] := vat_nat (by omega)
  simp only [L91_4, L91_4c, h1, h2, decide_true, decide_false, cond_true, cond_false, e3, f1, f2, f3, f4, n, n1, n2, n3, n4, v1, v2, v3, v4, a94_17, a94_19, a94_7, a94_18, Option.bind_some, sch4]

theorem schedv {F : Nat} (hF : 100 < F) (v : Vector UInt8 64) : ∃ w, iter (fun s : (Nat × Nat) × Int × Vector UInt32 64 => L91_4 F v s.1 s.2.1 s.2.2) F ((0, 64), (0 : Int), (Vector.replicate 64 (0 : UInt32))) = some w ∧
    iter (fun s : Int × Vector UInt32 64 => L91x1_4 F v.toList s.1 s.2) F ((0 : Int), (Vector.replicate 64 (0 : UInt32))) = some w := by
  have hl : v.toList.length = 64 := by simp
  obtain ⟨w, w', b1, b2, b3⟩ := iter2 (f := fun s : (Nat × Nat) × Int × Vector UInt32 64 => L91_4 F v s.1 s.2.1 s.2.2) (g := fun s : Int × Vector UInt32 64 => L91x1_4 F v.toList s.1 s.2)
    (fun s t => s = ((0, 64), t.1, t.2) ∧ ∃ i : Nat, t.1 = i ∧ i ≤ 64) (fun r r' => r = r') (fun s => 64 - s.2.1.toNat) (by
      rintro s ⟨a, w⟩ ⟨rfl, i, hi, h64⟩
      simp only at hi
      subst hi
      by_cases h : i < 64
      · by_cases h16 : i < 16
        · have g := s91_lo F hl h16 w
          simp only [Vector.getElem_toList] at g
          exact .inl ⟨_, _, s91v_lo F v h16 w, g, ⟨rfl, i + 1, rfl, by omega⟩, by simp only [Int.toNat_natCast]; omega⟩
        · exact .inl ⟨_, _, s91v_hi F v (by omega) h w, s91_hi F v.toList (by omega) h w, ⟨rfl, i + 1, rfl, by omega⟩, by simp only [Int.toNat_natCast]; omega⟩
      · obtain rfl : i = 64 := by omega
        exact .inr ⟨w, w, rfl, rfl, rfl⟩) F F ((0, 64), (0 : Int), (Vector.replicate 64 (0 : UInt32))) ((0 : Int), (Vector.replicate 64 (0 : UInt32))) ⟨rfl, 0, rfl, by omega⟩ (by simp only [Int.toNat_zero]; omega) (by simp only [Int.toNat_zero]; omega)
  subst b3
  exact ⟨w, b1, b2⟩

/-- A round. -/
def t1 (e f g h k w : UInt32) : UInt32 := (((h + ((rr e 6 ^^^ rr e 11) ^^^ rr e 25)) + ((e &&& f) ^^^ ((~~~e) &&& g))) + k) + w
def t2 (a b c : UInt32) : UInt32 := ((rr a 2 ^^^ rr a 13) ^^^ rr a 22) + (((a &&& b) ^^^ (a &&& c)) ^^^ (b &&& c))

theorem r91 (F : Nat) (w : Vector UInt32 64) (a b c d e f g h : UInt32) {i : Nat} (hi : i < 64) :
    L91x1_5 F w a b c d e f g h ((i : Nat) : Int) = some (.inl (t1 e f g h gv2[i] w[i] + t2 a b c, a, b, c, d + t1 e f g h gv2[i] w[i], e, f, g, ((i + 1 : Nat) : Int))) := by
  have h1 : (((i : Nat) : Int) < 64) := by omega
  have e3 : w64 (((i : Nat) : Int) + 1) = ((i + 1 : Nat) : Int) := by rw [w64_in (by omega) (by omega)]; omega
  have n : inb 64 ((i : Nat) : Int) = some i := inb_nat (by omega)
  have v : vat w i = some w[i] := vat_nat hi
  have x : vix gv2 ((i : Nat) : Int) = some gv2[i] := vix_nat hi
  simp only [L91x1_5, L91x1_5c, h1, decide_true, cond_true, a94_6, a94_11, a94_25, a94_2, a94_13, a94_22, Option.bind_some, x, n, v, e3, t1, t2]
theorem r85 (F : Nat) (w : Vector UInt32 64) (a b c d e f g h : UInt32) {i : Nat} (hi : i < 64) :
    L85_7 F gv2 w ((i : Nat) : Int) #v[a, b, c, d, e, f, g, h] = some (.inl (((i + 1 : Nat) : Int), #v[t1 e f g h gv2[i] w[i] + t2 a b c, a, b, c, d + t1 e f g h gv2[i] w[i], e, f, g])) := by
  have h1 : (((i : Nat) : Int) < 64) := by omega
  have e3 : w64 (((i : Nat) : Int) + 1) = ((i + 1 : Nat) : Int) := by rw [w64_in (by omega) (by omega)]; omega
  have n : inb 64 ((i : Nat) : Int) = some i := inb_nat (by omega)
  have v : vat w i = some w[i] := vat_nat hi
  have x : vat gv2 i = some gv2[i] := vat_nat hi
  have y0 : vat #v[a, b, c, d, e, f, g, h] 0 = some a := rfl
  have y1 : vat #v[a, b, c, d, e, f, g, h] 1 = some b := rfl
  have y2 : vat #v[a, b, c, d, e, f, g, h] 2 = some c := rfl
  have y3 : vat #v[a, b, c, d, e, f, g, h] 3 = some d := rfl
  have y4 : vat #v[a, b, c, d, e, f, g, h] 4 = some e := rfl
  have y5 : vat #v[a, b, c, d, e, f, g, h] 5 = some f := rfl
  have y6 : vat #v[a, b, c, d, e, f, g, h] 6 = some g := rfl
  have y7 : vat #v[a, b, c, d, e, f, g, h] 7 = some h := rfl
  simp only [L85_7, L85_7c, h1, decide_true, cond_true, y0, y1, y2, y3, y4, y5, y6, y7, a93_6, a93_11, a93_25, a93_2, a93_13, a93_22, Option.bind_some, x, n, v, e3, t1, t2]

abbrev O8 := UInt32 × UInt32 × UInt32 × UInt32 × UInt32 × UInt32 × UInt32 × UInt32
abbrev O9 := UInt32 × UInt32 × UInt32 × UInt32 × UInt32 × UInt32 × UInt32 × UInt32 × Int
def v8 (z : O8) : Vector UInt32 8 := #v[z.1, z.2.1, z.2.2.1, z.2.2.2.1, z.2.2.2.2.1, z.2.2.2.2.2.1, z.2.2.2.2.2.2.1, z.2.2.2.2.2.2.2]

theorem rounds {F : Nat} (hF : 100 < F) (w : Vector UInt32 64) (z : O8) : ∃ z' : O8,
    iter (fun s : O9 => L91x1_5 F w s.1 s.2.1 s.2.2.1 s.2.2.2.1 s.2.2.2.2.1 s.2.2.2.2.2.1 s.2.2.2.2.2.2.1 s.2.2.2.2.2.2.2.1 s.2.2.2.2.2.2.2.2) F (z.1, z.2.1, z.2.2.1, z.2.2.2.1, z.2.2.2.2.1, z.2.2.2.2.2.1, z.2.2.2.2.2.2.1, z.2.2.2.2.2.2.2, (0 : Int)) = some z' ∧
    iter (fun s : Int × Vector UInt32 8 => L85_7 F gv2 w s.1 s.2) F ((0 : Int), v8 z) = some (v8 z') := by
  obtain ⟨r, r', b1, b2, b3⟩ := iter2 (f := fun s : O9 => L91x1_5 F w s.1 s.2.1 s.2.2.1 s.2.2.2.1 s.2.2.2.2.1 s.2.2.2.2.2.1 s.2.2.2.2.2.2.1 s.2.2.2.2.2.2.2.1 s.2.2.2.2.2.2.2.2) (g := fun s : Int × Vector UInt32 8 => L85_7 F gv2 w s.1 s.2)
    (fun s t => t = (s.2.2.2.2.2.2.2.2, #v[s.1, s.2.1, s.2.2.1, s.2.2.2.1, s.2.2.2.2.1, s.2.2.2.2.2.1, s.2.2.2.2.2.2.1, s.2.2.2.2.2.2.2.1]) ∧ ∃ i : Nat, s.2.2.2.2.2.2.2.2 = i ∧ i ≤ 64) (fun r r' => r' = v8 r) (fun s => 64 - s.2.2.2.2.2.2.2.2.toNat) (by
      rintro ⟨a, b, c, d, e, f, g, h, j⟩ t ⟨rfl, i, hi, h64⟩
      simp only at hi
      subst hi
      by_cases hi : i < 64
      · exact .inl ⟨_, _, r91 F w a b c d e f g h hi, r85 F w a b c d e f g h hi, ⟨rfl, i + 1, rfl, by omega⟩, by simp only [Int.toNat_natCast]; omega⟩
      · obtain rfl : i = 64 := by omega
        exact .inr ⟨_, _, rfl, rfl, rfl⟩) F F (z.1, z.2.1, z.2.2.1, z.2.2.2.1, z.2.2.2.2.1, z.2.2.2.2.2.1, z.2.2.2.2.2.2.1, z.2.2.2.2.2.2.2, (0 : Int)) ((0 : Int), v8 z) ⟨rfl, 0, rfl, by omega⟩ (by simp only [Int.toNat_zero]; omega) (by simp only [Int.toNat_zero]; omega)
  subst b3
  exact ⟨r, b1, b2⟩
theorem last {F : Nat} (hF : 100 < F) (x p : Vector UInt32 8) : ∃ r, iter (fun s : Int × Vector UInt32 8 => L91x1_6 F x p s.1 s.2) F ((0 : Int), p) = some r ∧ iter (fun s : Int × Vector UInt32 8 => L85_8 F p s.1 s.2) F ((0 : Int), x) = some r := by
  obtain ⟨r, r', b1, b2, b3⟩ := iter2 (f := fun s : Int × Vector UInt32 8 => L91x1_6 F x p s.1 s.2) (g := fun s : Int × Vector UInt32 8 => L85_8 F p s.1 s.2)
    (fun s t => s.1 = t.1 ∧ ∃ i : Nat, s.1 = i ∧ i ≤ 8 ∧ (∀ j (hj : j < 8), j < i → s.2[j] = t.2[j]) ∧ ∀ j (hj : j < 8), i ≤ j → t.2[j] = x[j]) (fun r r' => r = r') (fun s => 8 - s.1.toNat) (by
      rintro ⟨a, u⟩ ⟨a', v⟩ ⟨rfl, i, hi, h8, hu, hv⟩
      simp only at hi hu hv
      subst hi
      by_cases h : i < 8
      · have h1 : (((i : Nat) : Int) < 8) := by omega
        have e3 : w64 (((i : Nat) : Int) + 1) = ((i + 1 : Nat) : Int) := by rw [w64_in (by omega) (by omega)]; omega
        have n : inb 8 ((i : Nat) : Int) = some i := inb_nat h
        have s1 : L91x1_6 F x p ((i : Nat) : Int) u = some (.inl (((i + 1 : Nat) : Int), u.setIfInBounds i (p[i] + x[i]))) := by
          simp only [L91x1_6, L91x1_6c, h1, decide_true, cond_true, vix_nat h, n, vat_nat (v := p) h, Option.bind_some, e3]
        have s2 : L85_8 F p ((i : Nat) : Int) v = some (.inl (((i + 1 : Nat) : Int), v.setIfInBounds i (v[i] + p[i]))) := by
          simp only [L85_8, L85_8c, h1, decide_true, cond_true, n, vat_nat (v := p) h, vat_nat (v := v) h, Option.bind_some, e3]
        refine .inl ⟨_, _, s1, s2, ⟨rfl, i + 1, rfl, by omega, fun j hj hji => ?_, fun j hj hij => ?_⟩, by simp only [Int.toNat_natCast]; omega⟩
        · simp only [Vector.getElem_setIfInBounds]
          by_cases e : i = j
          · subst e
            simp only [if_true]
            rw [hv i hj (Nat.le_refl _), UInt32.add_comm]
          · rw [if_neg e, if_neg e]
            exact hu j hj (by omega)
        · simp only [Vector.getElem_setIfInBounds]
          rw [if_neg (by omega)]
          exact hv j hj (by omega)
      · obtain rfl : i = 8 := by omega
        exact .inr ⟨u, v, rfl, rfl, Vector.ext fun j hj => hu j hj hj⟩) F F ((0 : Int), p) ((0 : Int), x) ⟨rfl, 0, rfl, by omega, fun j hj h0 => absurd h0 (by omega), fun j hj _ => rfl⟩ (by simp only [Int.toNat_zero]; omega) (by simp only [Int.toNat_zero]; omega)
  subst b3
  exact ⟨r, b1, b2⟩

theorem vec8 (v : Vector UInt32 8) : v8 (v[0], v[1], v[2], v[3], v[4], v[5], v[6], v[7]) = v := by
  apply Vector.ext
  intro i hi
  match i, hi with
  | 0, _ => rfl
  | 1, _ => rfl
  | 2, _ => rfl
  | 3, _ => rfl
  | 4, _ => rfl
  | 5, _ => rfl
  | 6, _ => rfl
  | 7, _ => rfl

theorem k92 (F : Nat) : T92 F = some gv2 := rfl

/-- The block. -/
theorem t91 {F : Nat} (hF : 100 < F) {p : List UInt8} (hp : p.length = 64) (h : Vector UInt32 8) : ∃ r, T91x1 F p h = some r ∧ T85 F h p = some r := by
  obtain ⟨w, w0, a1, a2, a3⟩ := sched hF hp
  obtain ⟨z, b1, b2⟩ := rounds hF w (h[0], h[1], h[2], h[3], h[4], h[5], h[6], h[7])
  rw [vec8] at b2
  obtain ⟨r, c1, c2⟩ := last hF (v8 z) h
  refine ⟨r, ?_, ?_⟩
  · simp only [T91x1, T91x1c, a1, Option.bind_some, vat_nat (v := h) (show 0 < 8 by omega), vat_nat (v := h) (show 1 < 8 by omega), vat_nat (v := h) (show 2 < 8 by omega), vat_nat (v := h) (show 3 < 8 by omega), vat_nat (v := h) (show 4 < 8 by omega), vat_nat (v := h) (show 5 < 8 by omega), vat_nat (v := h) (show 6 < 8 by omega), vat_nat (v := h) (show 7 < 8 by omega)]
    simp only [b1, Option.bind_some]
    exact (congrArg (fun o => Option.bind o fun z => some z) c1)
  · simp only [T85, T85c, k92, Option.bind_some, a2, a3, b2, c2]

theorem t91v {F : Nat} (hF : 100 < F) (v : Vector UInt8 64) (h : Vector UInt32 8) : T91 F (0, 64) h v = T91x1 F v.toList h := by
  obtain ⟨w, a1, a2⟩ := schedv hF v
  simp only [T91, T91c, T91x1, T91x1c, a1, a2, Option.bind_some]
  rfl

theorem x82_eq (F : Nat) : T82x1 F = T82 F := rfl
end Go.Proofs.YtjghgfohpihhfaaDoor
/- sha256, written in parts, is that of the reference. -/
namespace Go.Proofs.YtjghgfohpihhfaaDoor
open Go.Tw
set_option linter.unusedVariables false
set_option linter.unusedSimpArgs false

def B (F : Nat) (h : Vector UInt32 8) (p : List UInt8) : Vector UInt32 8 := (T85 F h p).getD h
theorem b85 {F : Nat} (hF : 100 < F) {p : List UInt8} (hp : p.length = 64) (h : Vector UInt32 8) : T85 F h p = some (B F h p) := by
  obtain ⟨r, h1, h2⟩ := t91 hF hp h
  simp only [B, h2, Option.getD_some]
theorem b91 {F : Nat} (hF : 100 < F) {p : List UInt8} (hp : p.length = 64) (h : Vector UInt32 8) : T91x1 F p h = some (B F h p) := by
  obtain ⟨r, h1, h2⟩ := t91 hF hp h
  simp only [B, h1, h2, Option.getD_some]
theorem b91v {F : Nat} (hF : 100 < F) (v : Vector UInt8 64) (h : Vector UInt32 8) : T91 F (0, 64) h v = some (B F h v.toList) := by
  rw [t91v hF, b91 hF (by simp)]

def hN (F : Nat) : Nat → List UInt8 → Vector UInt32 8
  | 0, _ => gv1
  | k + 1, m => B F (hN F k m) ((m.drop (64 * k)).take 64)
theorem hN_app (F : Nat) (m x : List UInt8) : ∀ k, 64 * k ≤ m.length → hN F k (m ++ x) = hN F k m
  | 0, _ => rfl
  | k + 1, h => by
    simp only [hN]
    rw [hN_app F m x k (by omega), List.drop_append_of_le_length (by omega), List.take_append_of_le_length (by simp; omega)]

structure Inv (F : Nat) (m : List UInt8) (h : Vector UInt32 8) (b : Vector UInt8 64) (n : Int) : Prop where
  len : n = (m.length : Int)
  words : h = hN F (m.length / 64) m
  rest : b.toList.take (m.length % 64) = m.drop (64 * (m.length / 64))

theorem tmod64 (a : Nat) : Int.tmod ((a : Nat) : Int) 64 = ((a % 64 : Nat) : Int) := by
  rw [Int.tmod_eq_emod_of_nonneg (by omega)]; omega

theorem lp82 {F : Nat} (hF : 100 < F) (M : List UInt8) : ∀ (fuel k : Nat), 64 * k ≤ M.length → (M.length - 64 * k) / 64 < fuel →
    iter (fun s : List UInt8 × Vector UInt32 8 => L82_4 F s.1 s.2) fuel (M.drop (64 * k), hN F k M) = some (M.drop (64 * (M.length / 64)), hN F (M.length / 64) M)
  | 0, k, hk, hf => absurd hf (by omega)
  | fuel + 1, k, hk, hf => by
    by_cases h : 64 ≤ M.length - 64 * k
    · have h1 : ((64 : Int) ≤ ((M.drop (64 * k)).length : Int)) := by simp; omega
      have g1 : gsl (M.drop (64 * k)) (0 : Int) (64 : Int) = some ((M.drop (64 * k)).take 64) := gsl_nat (a := 0) (b := 64) (by omega) (by simp; omega)
      have g2 : gsl (M.drop (64 * k)) (64 : Int) ((M.drop (64 * k)).length : Int) = some (M.drop (64 * (k + 1))) := by
        have := gsl_nat (l := M.drop (64 * k)) (a := 64) (b := (M.drop (64 * k)).length) (by simp; omega) (Nat.le_refl _)
        refine Eq.trans this ?_
        rw [List.take_of_length_le (by simp only [List.length_drop]; omega), List.drop_drop]
        congr 2
      have step : L82_4 F (M.drop (64 * k)) (hN F k M) = some (.inl (M.drop (64 * (k + 1)), hN F (k + 1) M)) := by
        simp only [L82_4, L82_4c, h1, decide_true, cond_true, g1, g2, Option.bind_some, b91 hF (show ((M.drop (64 * k)).take 64).length = 64 by simp; omega), hN]
      refine (it_again (f := fun s : List UInt8 × Vector UInt32 8 => L82_4 F s.1 s.2) (s := (M.drop (64 * k), hN F k M)) step).trans ?_
      exact lp82 hF M fuel (k + 1) (by omega) (by omega)
    · have h1 : ¬ ((64 : Int) ≤ ((M.drop (64 * k)).length : Int)) := by simp; omega
      have hk2 : k = M.length / 64 := by omega
      have step : L82_4 F (M.drop (64 * k)) (hN F k M) = some (.inr (M.drop (64 * k), hN F k M)) := by
        simp only [L82_4, L82_4c, h1, decide_false, cond_false]
      refine (it_out (f := fun s : List UInt8 × Vector UInt32 8 => L82_4 F s.1 s.2) (s := (M.drop (64 * k), hN F k M)) step).trans ?_
      rw [← hk2]

/-- After the first part: the loop and the last copy. -/
theorem tail82 {F : Nat} (hF : 100 < F) (M : List UInt8) (hM : M.length < F) (b : Vector UInt8 64) {k : Nat} (hk : 64 * k ≤ M.length) :
    iter (fun s : List UInt8 × Vector UInt32 8 => L82_4 F s.1 s.2) F (M.drop (64 * k), hN F k M) = some (M.drop (64 * (M.length / 64)), hN F (M.length / 64) M) ∧
    (vspl b 0 (M.drop (64 * (M.length / 64))) (M.drop (64 * (M.length / 64))).length).toList.take (M.length % 64) = M.drop (64 * (M.length / 64)) := by
  refine ⟨lp82 hF M F k hk (by omega), ?_⟩
  have hl : (M.drop (64 * (M.length / 64))).length = M.length % 64 := by simp; omega
  rw [vspl_toList (by omega) (Nat.le_refl _)]
  simp only [splice, List.take_zero, List.nil_append, List.take_length]
  rw [← hl, List.take_append_of_le_length (Nat.le_refl _), List.take_length]

theorem t82 {F : Nat} {m x : List UInt8} {h : Vector UInt32 8} {b : Vector UInt8 64} {n : Int} (hF : 100 + m.length + x.length < F) (hb : m.length + x.length < 1000000000) (hI : Inv F m h b n) :
    ∃ h' b' n', T82 F x h b n = some (h', b', n') ∧ Inv F (m ++ x) h' b' n' := by
  obtain ⟨rfl, rfl, hr⟩ := hI
  have wn : w64 ((m.length : Int) + (x.length : Int)) = ((m ++ x).length : Int) := by rw [w64_in (by omega) (by omega)]; simp
  have g0 : gslb 64 (0 : Int) ((64 : Nat) : Int) = some (0, 64) := gslb_nat (a := 0) (by omega) (by omega)
  have hlen : (m ++ x).length = m.length + x.length := by simp
  by_cases hu : m.length % 64 = 0
  · have d : ¬ ((0 : Int) < ((m.length % 64 : Nat) : Int)) := by omega
    have s3 : L82_3 F x ((m.length % 64 : Nat) : Int) false (hN F (m.length / 64) m) b = some (.inl (x, hN F (m.length / 64) m, b)) := by
      simp only [L82_3, L82_3c, cond_false]
    obtain ⟨q1, q2⟩ := tail82 (F := F) (by omega) (m ++ x) (by omega) b (k := m.length / 64) (by omega)
    have e1 : (m ++ x).drop (64 * (m.length / 64)) = x := by
      rw [show 64 * (m.length / 64) = m.length by omega]; simp
    rw [e1, hN_app F m x _ (by omega)] at q1
    have hmin : Nat.min ((m ++ x).drop (64 * ((m ++ x).length / 64))).length (64 - 0) = ((m ++ x).drop (64 * ((m ++ x).length / 64))).length := Nat.min_eq_left (by simp; omega)
    refine ⟨hN F ((m ++ x).length / 64) (m ++ x), vspl b 0 ((m ++ x).drop (64 * ((m ++ x).length / 64))) ((m ++ x).drop (64 * ((m ++ x).length / 64))).length, ((m ++ x).length : Int), ?_, rfl, rfl, q2⟩
    simp only [T82, T82c, tmod64, d, decide_false, s3, Option.bind_some, elimS, q1, g0, hmin, wn]
  · have d : ((0 : Int) < ((m.length % 64 : Nat) : Int)) := by omega
    have g1 : gslb 64 ((m.length % 64 : Nat) : Int) ((64 : Nat) : Int) = some (m.length % 64, 64) := gslb_nat (by omega) (by omega)
    by_cases hc : x.length < 64 - m.length % 64
    · have hmin : Nat.min x.length (64 - m.length % 64) = x.length := Nat.min_eq_left (by omega)
      have g2 : gsl x (x.length : Int) (x.length : Int) = some [] := by
        rw [gsl_nat (Nat.le_refl _) (Nat.le_refl _)]; simp
      have w : w64 (((m.length % 64 : Nat) : Int) + (x.length : Int)) = ((m.length % 64 + x.length : Nat) : Int) := by rw [w64_in (by omega) (by omega)]; omega
      have d2 : (((m.length % 64 + x.length : Nat) : Int) < 64) := by omega
      have s3 : L82_3 F x ((m.length % 64 : Nat) : Int) true (hN F (m.length / 64) m) b = some (.inr (vspl b (m.length % 64) x x.length)) := by
        simp only [L82_3, L82_3c, cond_true, g1, Option.bind_some, hmin, g2, w, d2, decide_true]
      refine ⟨hN F (m.length / 64) m, vspl b (m.length % 64) x x.length, ((m ++ x).length : Int), ?_, rfl, ?_, ?_⟩
      · simp only [T82, T82c, tmod64, d, decide_true, s3, Option.bind_some, elimS, wn]
      · rw [hlen, show (m.length + x.length) / 64 = m.length / 64 by omega, hN_app F m x _ (by omega)]
      · rw [hlen, show (m.length + x.length) / 64 = m.length / 64 by omega, show (m.length + x.length) % 64 = m.length % 64 + x.length by omega, vspl_toList (by omega) (Nat.le_refl _)]
        simp only [splice, List.take_length]
        rw [hr, List.drop_append_of_le_length (by omega)]
        rw [List.take_append_of_le_length (by simp; omega), List.take_of_length_le (by simp; omega)]
    · have hmin : Nat.min x.length (64 - m.length % 64) = 64 - m.length % 64 := Nat.min_eq_right (by omega)
      have g2 : gsl x ((64 - m.length % 64 : Nat) : Int) (x.length : Int) = some (x.drop (64 - m.length % 64)) := by
        rw [gsl_nat (by omega) (Nat.le_refl _), List.take_of_length_le (by simp)]
      have w : w64 (((m.length % 64 : Nat) : Int) + ((64 - m.length % 64 : Nat) : Int)) = 64 := by rw [w64_in (by omega) (by omega)]; omega
      have d2 : ¬ ((64 : Int) < 64) := by omega
      have hbl : (vspl b (m.length % 64) x (64 - m.length % 64)).toList = ((m ++ x).drop (64 * (m.length / 64))).take 64 := by
        rw [vspl_toList (by omega) (by omega)]
        simp only [splice]
        have hz : b.toList.drop (m.length % 64 + (64 - m.length % 64)) = [] := List.drop_of_length_le (by rw [Vector.length_toList]; omega)
        have hdl : (m.drop (64 * (m.length / 64))).length = m.length % 64 := by rw [List.length_drop]; omega
        rw [hr, hz, List.append_nil, List.drop_append_of_le_length (by omega), List.take_append, List.take_of_length_le (l := m.drop (64 * (m.length / 64))) (by omega), hdl]
      have s3 : L82_3 F x ((m.length % 64 : Nat) : Int) true (hN F (m.length / 64) m) b = some (.inl (x.drop (64 - m.length % 64), hN F (m.length / 64 + 1) (m ++ x), vspl b (m.length % 64) x (64 - m.length % 64))) := by
        simp only [L82_3, L82_3c, cond_true, g1, Option.bind_some, hmin, g2, w, d2, decide_false, cond_false, g0, b91v (show 100 < F by omega), hbl, hN, hN_app F m x (m.length / 64) (by omega)]
      obtain ⟨q1, q2⟩ := tail82 (F := F) (by omega) (m ++ x) (by omega) (vspl b (m.length % 64) x (64 - m.length % 64)) (k := m.length / 64 + 1) (by omega)
      have e1 : (m ++ x).drop (64 * (m.length / 64 + 1)) = x.drop (64 - m.length % 64) := by
        rw [List.drop_append, List.drop_of_length_le (by omega), List.nil_append]
        congr 1; omega
      rw [e1] at q1
      have hmin2 : Nat.min ((m ++ x).drop (64 * ((m ++ x).length / 64))).length (64 - 0) = ((m ++ x).drop (64 * ((m ++ x).length / 64))).length := Nat.min_eq_left (by simp; omega)
      refine ⟨hN F ((m ++ x).length / 64) (m ++ x), vspl (vspl b (m.length % 64) x (64 - m.length % 64)) 0 ((m ++ x).drop (64 * ((m ++ x).length / 64))) ((m ++ x).drop (64 * ((m ++ x).length / 64))).length, ((m ++ x).length : Int), ?_, rfl, rfl, q2⟩
      simp only [T82, T82c, tmod64, d, decide_true, s3, Option.bind_some, elimS, q1, g0, hmin2, wn]

theorem gapp_ok {α : Type} {xs ys : List α} (h : xs.length + ys.length ≤ 1099511627776) : gapp xs ys = some (xs ++ ys) := by unfold gapp; rw [if_pos h]

/-- The padding. -/
theorem padz {F : Nat} {m : List UInt8} (hF : 300 < F) (hb : m.length < 1000000000) (h : Vector UInt32 8) (b : Vector UInt8 64) : ∃ p : List UInt8, p.length ≤ 64 ∧ 1 ≤ p.length ∧ (m.length + p.length) % 64 = 56 ∧
    iter (fun s : List UInt8 => L83_4 F (h, b, (m.length : Int), ()) s) F [(UInt8.ofNat 128)] = some p ∧ iter (fun s : List UInt8 => L84_3 F s) F (m ++ [(UInt8.ofNat 128)]) = some (m ++ p) := by
  obtain ⟨r, r', b1, b2, b3, b4, b5⟩ := iter2 (f := fun s : List UInt8 => L83_4 F (h, b, (m.length : Int), ()) s) (g := fun s : List UInt8 => L84_3 F s)
    (fun s t => t = m ++ s ∧ 1 ≤ s.length ∧ s.length ≤ (119 - m.length % 64) % 64 + 1) (fun r r' => r' = m ++ r ∧ (1 ≤ r.length ∧ r.length ≤ 64) ∧ (m.length + r.length) % 64 = 56) (fun s => 65 - s.length) (by
      rintro s t ⟨rfl, h1, h2⟩
      have w : w64 ((m.length : Int) + (s.length : Int)) = ((m.length + s.length : Nat) : Int) := by rw [w64_in (by omega) (by omega)]; omega
      have hl : ((m ++ s).length : Int) = ((m.length + s.length : Nat) : Int) := by simp
      by_cases hc : (m.length + s.length) % 64 = 56
      · have e : ((((m.length + s.length) % 64 : Nat) : Int) != 56) = false := by rw [hc]; rfl
        refine .inr ⟨s, m ++ s, ?_, ?_, rfl, ⟨h1, by omega⟩, hc⟩
        · simp only [L83_4, L83_4c, w, tmod64, e, cond_false]
        · simp only [L84_3, L84_3c, hl, tmod64, e, cond_false]
      · have e : ((((m.length + s.length) % 64 : Nat) : Int) != 56) = true := by rw [bne_iff_ne]; omega
        refine .inl ⟨s ++ [UInt8.ofNat 0], m ++ s ++ [UInt8.ofNat 0], ?_, ?_, ⟨by simp, by simp, ?_⟩, ?_⟩
        · simp only [L83_4, L83_4c, w, tmod64, e, cond_true, gapp_ok (show s.length + [UInt8.ofNat 0].length ≤ 1099511627776 by simp; omega), Option.bind_some]
        · simp only [L84_3, L84_3c, hl, tmod64, e, cond_true, gapp_ok (show (m ++ s).length + [UInt8.ofNat 0].length ≤ 1099511627776 by simp; omega), Option.bind_some]
        · simp only [List.length_append, List.length_cons, List.length_nil]; omega
        · simp only [List.length_append, List.length_cons, List.length_nil]; omega) F F [(UInt8.ofNat 128)] (m ++ [(UInt8.ofNat 128)]) ⟨rfl, by simp, by simp⟩ (by simp; omega) (by simp; omega)
  subst b3
  exact ⟨r, b4.2, b4.1, b5, b1, b2⟩

theorem padc {F : Nat} {m p : List UInt8} (hF : 300 < F) (hb : m.length < 1000000000) (hp : p.length ≤ 64) (c : UInt64) : ∃ q : List UInt8, q.length = p.length + 8 ∧
    iter (fun s : Int × List UInt8 => L83_5 F c s.1 s.2) F ((56 : Int), p) = some q ∧ iter (fun s : Int × List UInt8 => L84_4 F c s.1 s.2) F ((7 : Int), m ++ p) = some (m ++ q) := by
  obtain ⟨r, r', b1, b2, b3, b4⟩ := iter2 (f := fun s : Int × List UInt8 => L83_5 F c s.1 s.2) (g := fun s : Int × List UInt8 => L84_4 F c s.1 s.2)
    (fun s t => ∃ i : Nat, i ≤ 8 ∧ s.1 = 8 * (i : Int) - 8 ∧ t.1 = (i : Int) - 1 ∧ t.2 = m ++ s.2 ∧ s.2.length + i = p.length + 8) (fun r r' => r' = m ++ r ∧ r.length = p.length + 8) (fun s => (s.1 + 8).toNat) (by
      rintro ⟨a, s⟩ ⟨a', t⟩ ⟨i, h8, h1, h2, h3, h4⟩
      simp only at h1 h2 h3 h4
      subst h1 h2 h3
      cases i with
      | zero =>
        refine .inr ⟨s, m ++ s, ?_, ?_, rfl, by omega⟩
        · have d : ¬ ((0 : Int) ≤ 8 * ((0 : Nat) : Int) - 8) := by omega
          simp only [L83_5, L83_5c, d, decide_false, cond_false]
        · have d : ¬ ((0 : Int) ≤ ((0 : Nat) : Int) - 1) := by omega
          simp only [L84_4, L84_4c, d, decide_false, cond_false]
      | succ i =>
        have e1 : 8 * ((i + 1 : Nat) : Int) - 8 = ((8 * i : Nat) : Int) := by omega
        have e2 : ((i + 1 : Nat) : Int) - 1 = ((i : Nat) : Int) := by omega
        rw [e1, e2]
        have d1 : ((0 : Int) ≤ ((8 * i : Nat) : Int)) := by omega
        have d2 : ((0 : Int) ≤ ((i : Nat) : Int)) := by omega
        have n1 : gnn ((8 * i : Nat) : Int) = some (8 * i) := by unfold gnn; rw [if_pos d1]; simp only [Int.toNat_natCast]
        have w0 : w64 ((8 : Int) * ((i : Nat) : Int)) = ((8 * i : Nat) : Int) := by rw [w64_in (by omega) (by omega)]; omega
        have w1 : w64 (((8 * i : Nat) : Int) - 8) = 8 * (i : Int) - 8 := by rw [w64_in (by omega) (by omega)]; omega
        have w2 : w64 (((i : Nat) : Int) - 1) = (i : Int) - 1 := by rw [w64_in (by omega) (by omega)]
        refine .inl ⟨(8 * (i : Int) - 8, s ++ [(shr64 c (8 * i)).toUInt8]), ((i : Int) - 1, m ++ s ++ [(shr64 c (8 * i)).toUInt8]), ?_, ?_, ⟨i, by omega, rfl, rfl, by simp, by simp; omega⟩, ?_⟩
        · simp only [L83_5, L83_5c, d1, decide_true, cond_true, n1, Option.bind_some, gapp_ok (show s.length + [(shr64 c (8 * i)).toUInt8].length ≤ 1099511627776 by simp; omega), w1]
        · simp only [L84_4, L84_4c, d2, decide_true, cond_true, w0, n1, Option.bind_some, gapp_ok (show (m ++ s).length + [(shr64 c (8 * i)).toUInt8].length ≤ 1099511627776 by simp; omega), w2]
        · simp only; omega) F F ((56 : Int), p) ((7 : Int), m ++ p) ⟨8, by omega, by omega, by omega, rfl, rfl⟩ (by simp only; omega) (by simp only; omega)
  subst b3
  exact ⟨r, b4, b1, b2⟩

theorem outs {F : Nat} (hF : 300 < F) (h : Vector UInt32 8) : ∃ d : List UInt8, d.length = 32 ∧ iter (fun s : Int × List UInt8 => L83_6 F h s.1 s.2) F ((0 : Int), ([] : List UInt8)) = some d ∧ iter (fun s : Int × List UInt8 => L68_4 F h s.1 s.2) F ((0 : Int), ([] : List UInt8)) = some d := by
  obtain ⟨r, r', b1, b2, b3, b4⟩ := iter2 (f := fun s : Int × List UInt8 => L83_6 F h s.1 s.2) (g := fun s : Int × List UInt8 => L68_4 F h s.1 s.2)
    (fun s t => s = t ∧ ∃ i : Nat, s.1 = i ∧ i ≤ 8 ∧ s.2.length = 4 * i) (fun r r' => r' = r ∧ r.length = 32) (fun s => 8 - s.1.toNat) (by
      rintro ⟨a, s⟩ t ⟨rfl, i, hi, h8, hl⟩
      simp only at hi hl
      subst hi
      by_cases hlt : i < 8
      · have h1 : (((i : Nat) : Int) < 8) := by omega
        have e3 : w64 (((i : Nat) : Int) + 1) = ((i + 1 : Nat) : Int) := by rw [w64_in (by omega) (by omega)]; omega
        have n : inb 8 ((i : Nat) : Int) = some i := inb_nat hlt
        have ga : gapp s [((shr32 h[i] ((UInt64.ofNat 24).toNat)).toUInt8), ((shr32 h[i] ((UInt64.ofNat 16).toNat)).toUInt8), ((shr32 h[i] ((UInt64.ofNat 8).toNat)).toUInt8), (h[i].toUInt8)] = some (s ++ [((shr32 h[i] ((UInt64.ofNat 24).toNat)).toUInt8), ((shr32 h[i] ((UInt64.ofNat 16).toNat)).toUInt8), ((shr32 h[i] ((UInt64.ofNat 8).toNat)).toUInt8), (h[i].toUInt8)]) := gapp_ok (by simp [hl]; omega)
        refine .inl ⟨(((i + 1 : Nat) : Int), s ++ [((shr32 h[i] ((UInt64.ofNat 24).toNat)).toUInt8), ((shr32 h[i] ((UInt64.ofNat 16).toNat)).toUInt8), ((shr32 h[i] ((UInt64.ofNat 8).toNat)).toUInt8), (h[i].toUInt8)]), (((i + 1 : Nat) : Int), s ++ [((shr32 h[i] ((UInt64.ofNat 24).toNat)).toUInt8), ((shr32 h[i] ((UInt64.ofNat 16).toNat)).toUInt8), ((shr32 h[i] ((UInt64.ofNat 8).toNat)).toUInt8), (h[i].toUInt8)]), ?_, ?_, ⟨rfl, i + 1, rfl, by omega, ?_⟩, by simp only [Int.toNat_natCast]; omega⟩
        · simp only [L83_6, L83_6c, h1, decide_true, cond_true, vix_nat (v := h) hlt, Option.bind_some, ga, e3]
        · simp only [L68_4, L68_4c, h1, decide_true, cond_true, n, vat_nat (v := h) hlt, Option.bind_some, ga, e3]
        · simp [hl]; omega
      · obtain rfl : i = 8 := by omega
        exact .inr ⟨s, s, rfl, rfl, rfl, hl⟩) F F ((0 : Int), ([] : List UInt8)) ((0 : Int), ([] : List UInt8)) ⟨rfl, 0, rfl, by omega, rfl⟩ (by simp only [Int.toNat_zero]; omega) (by simp only [Int.toNat_zero]; omega)
  subst b3
  exact ⟨r', b4, b1, b2⟩

theorem lp68 {F : Nat} (hF : 100 < F) {M : List UInt8} {K : Nat} (hM : M.length = 64 * K) (hb : M.length < 2000000000) : ∀ (j fuel k : Nat), k + j = K → j < fuel →
    iter (fun s : Int × Vector UInt32 8 => L68_3 F M s.1 s.2) fuel (((64 * k : Nat) : Int), hN F k M) = some (hN F K M)
  | j, 0, k, hk, hf => absurd hf (by omega)
  | 0, fuel + 1, k, hk, hf => by
    have h1 : ¬ (((64 * k : Nat) : Int) < (M.length : Int)) := by omega
    obtain rfl : k = K := by omega
    have step : L68_3 F M ((64 * k : Nat) : Int) (hN F k M) = some (.inr (hN F k M)) := by
      simp only [L68_3, L68_3c, h1, decide_false, cond_false]
    exact it_out (f := fun s : Int × Vector UInt32 8 => L68_3 F M s.1 s.2) (s := (((64 * k : Nat) : Int), hN F k M)) step
  | j + 1, fuel + 1, k, hk, hf => by
    have h1 : (((64 * k : Nat) : Int) < (M.length : Int)) := by omega
    have w : w64 (((64 * k : Nat) : Int) + 64) = ((64 * (k + 1) : Nat) : Int) := by rw [w64_in (by omega) (by omega)]; omega
    have g : gslb M.length ((64 * k : Nat) : Int) ((64 * (k + 1) : Nat) : Int) = some (64 * k, 64 * (k + 1)) := gslb_nat (by omega) (by omega)
    have e : 64 * (k + 1) - 64 * k = 64 := by omega
    have step : L68_3 F M ((64 * k : Nat) : Int) (hN F k M) = some (.inl (((64 * (k + 1) : Nat) : Int), hN F (k + 1) M)) := by
      simp only [L68_3, L68_3c, h1, decide_true, cond_true, w, g, Option.bind_some, e, b85 hF (show ((M.drop (64 * k)).take 64).length = 64 by simp; omega), hN]
    refine (it_again (f := fun s : Int × Vector UInt32 8 => L68_3 F M s.1 s.2) (s := (((64 * k : Nat) : Int), hN F k M)) step).trans ?_
    exact lp68 hF hM hb j fuel (k + 1) (by omega) (by omega)

/-- The sum of a state is the reference's sum of its bytes. -/
theorem sum_eq {F : Nat} {m : List UInt8} {h : Vector UInt32 8} {b : Vector UInt8 64} {n : Int} (hF : 400 + m.length < F) (hb : m.length < 100000000) (hI : Inv F m h b n) :
    ∃ d, T83 F (h, b, n, ()) = some d ∧ T68 F m = some d ∧ d.length = 32 := by
  have hn := hI.len
  subst hn
  obtain ⟨p, p1, p2, p3, p4, p5⟩ := padz (F := F) (m := m) (by omega) (by omega) h b
  obtain ⟨q, q1, q2, q3⟩ := padc (F := F) (m := m) (p := p) (by omega) (by omega) p1 ((UInt64.ofInt (m.length : Int)) * (UInt64.ofNat 8))
  obtain ⟨h', b', n', t1, t2⟩ := t82 (x := q) (by omega) (by omega) hI
  obtain ⟨d, d1, d2, d3⟩ := outs (F := F) (by omega) h'
  have g0 : gmake (0 : UInt8) (0 : Int) (32 : Int) = some [] := by decide +kernel
  have hl : (m ++ q).length = m.length + q.length := by simp
  have hK : (m ++ q).length = 64 * ((m ++ q).length / 64) := by omega
  have l := lp68 (F := F) (by omega) hK (by omega) ((m ++ q).length / 64) F 0 (by omega) (by omega)
  rw [← t2.words] at l
  refine ⟨d, ?_, ?_, d1⟩
  · simp only [T83, T83c, p4, Option.bind_some, q2, t1, g0, d2]
  · have ga : gapp ([] : List UInt8) m = some m := by rw [gapp_ok (by simp; omega)]; rfl
    have gb : gapp m [UInt8.ofNat 128] = some (m ++ [UInt8.ofNat 128]) := gapp_ok (by simp; omega)
    have h84 : T84 F m = some (m ++ q) := by
      simp only [T84, T84c, ga, gb, Option.bind_some, p5, q3]
    simp only [T68, T68c, h84, Option.bind_some]
    refine Eq.trans (congrArg (fun o => Option.bind o _) l) ?_
    simp only [Option.bind_some, d3]

theorem inv0 (F : Nat) : Inv F [] gv1 (Vector.replicate 64 (0 : UInt8)) 0 := ⟨rfl, rfl, rfl⟩

theorem t79 {F : Nat} {ls : List (List UInt8)} (hF : 400 + ls.flatten.length + ls.length < F) (hb : ls.flatten.length < 100000000) (hl : ls.length < 1000) : ∃ d, T79 F ls = some d ∧ T68 F ls.flatten = some d ∧ d.length = 32 := by
  obtain ⟨r, b1, b2⟩ := iter1 (f := fun s : Int × Vector UInt32 8 × Vector UInt8 64 × Int => L79_2 F ls (ls.length : Int) s.1 s.2.1 s.2.2.1 s.2.2.2)
    (fun s => ∃ i : Nat, s.1 = i ∧ i ≤ ls.length ∧ Inv F (ls.take i).flatten s.2.1 s.2.2.1 s.2.2.2) (fun r => Inv F ls.flatten r.1 r.2.1 r.2.2) (fun s => ls.length - s.1.toNat) (by
      rintro ⟨a, h, b, n⟩ ⟨i, hi, hil, hI⟩
      simp only at hi hI
      subst hi
      by_cases hlt : i < ls.length
      · have h1 : (((i : Nat) : Int) < (ls.length : Int)) := by omega
        have e3 : w64 (((i : Nat) : Int) + 1) = ((i + 1 : Nat) : Int) := by rw [w64_in (by omega) (by omega)]; omega
        have hs : (ls.take (i + 1)).flatten = (ls.take i).flatten ++ ls[i] := by
          rw [List.take_succ_eq_append_getElem hlt, List.flatten_append]; simp
        have hle : (ls.take (i + 1)).flatten.length ≤ ls.flatten.length := by
          conv => rhs; rw [← List.take_append_drop (i + 1) ls, List.flatten_append, List.length_append]
          omega
        rw [hs, List.length_append] at hle
        have gs : gstr ls[i] = some ls[i] := by unfold gstr; rw [if_pos (by omega)]
        obtain ⟨h', b', n', t1, t2⟩ := t82 (x := ls[i]) (by omega) (by omega) hI
        refine .inl ⟨(((i + 1 : Nat) : Int), h', b', n'), ?_, ⟨i + 1, rfl, by omega, ?_⟩, by simp only [Int.toNat_natCast]; omega⟩
        · simp only [L79_2, L79_2c, h1, decide_true, cond_true, ix_nat hlt, Option.bind_some, gs, t1, e3]
        · rw [hs]; exact t2
      · obtain rfl : i = ls.length := by omega
        have h1 : ¬ (((ls.length : Nat) : Int) < (ls.length : Int)) := by omega
        rw [List.take_length] at hI
        refine .inr ⟨(h, b, n), ?_, hI⟩
        simp only [L79_2, L79_2c, h1, decide_false, cond_false]) F ((0 : Int), gv1, Vector.replicate 64 (0 : UInt8), (0 : Int)) ⟨0, rfl, by omega, inv0 F⟩ (by simp only [Int.toNat_zero]; omega)
  obtain ⟨d, d1, d2, d3⟩ := sum_eq (by omega) hb b2
  refine ⟨d, ?_, d2, d3⟩
  simp only [T79, T79c, T81, T81c, Option.bind_some, b1, d1]

/-- The keys of hmac. -/
def xk (k : List UInt8) (x : UInt8) : List UInt8 := (k ++ List.replicate (64 - k.length) 0).map (fun y => y ^^^ x)
theorem xk_len {k : List UInt8} (h : k.length ≤ 64) (x : UInt8) : (xk k x).length = 64 := by simp [xk]; omega

theorem t80 {F : Nat} (hF : 400 < F) (x : UInt8) (v : Vector UInt8 64) : ∃ r, T80 F x v = some r ∧ r.toList = v.toList.map (fun y => y ^^^ x) := by
  obtain ⟨r, b1, b2⟩ := iter1 (f := fun s : Int × Vector UInt8 64 => L80_2 F x v s.1 s.2)
    (fun s => ∃ i : Nat, s.1 = i ∧ i ≤ 64 ∧ ∀ j (hj : j < 64), j < i → s.2[j] = v[j] ^^^ x) (fun r => r.toList = v.toList.map (fun y => y ^^^ x)) (fun s => 64 - s.1.toNat) (by
      rintro ⟨a, u⟩ ⟨i, hi, h64, hu⟩
      simp only at hi hu
      subst hi
      by_cases h : i < 64
      · have h1 : (((i : Nat) : Int) < 64) := by omega
        have e3 : w64 (((i : Nat) : Int) + 1) = ((i + 1 : Nat) : Int) := by rw [w64_in (by omega) (by omega)]; omega
        have n : inb 64 ((i : Nat) : Int) = some i := inb_nat h
        refine .inl ⟨(((i + 1 : Nat) : Int), u.setIfInBounds i (v[i] ^^^ x)), ?_, ⟨i + 1, rfl, by omega, fun j hj hji => ?_⟩, by simp only [Int.toNat_natCast]; omega⟩
        · simp only [L80_2, L80_2c, h1, decide_true, cond_true, vix_nat (v := v) h, n, Option.bind_some, e3]
        · simp only [Vector.getElem_setIfInBounds]
          by_cases e : i = j
          · subst e; simp only [if_true]
          · rw [if_neg e]; exact hu j hj (by omega)
      · obtain rfl : i = 64 := by omega
        refine .inr ⟨u, rfl, ?_⟩
        apply List.ext_getElem (by simp)
        intro j h1 h2
        simp only [Vector.getElem_toList, List.getElem_map]
        have hj : j < 64 := by simpa using h1
        exact hu j hj hj) F ((0 : Int), Vector.replicate 64 (0 : UInt8)) ⟨0, rfl, by omega, fun j hj h0 => absurd h0 (by omega)⟩ (by simp only [Int.toNat_zero]; omega)
  exact ⟨r, by simp only [T80, T80c, b1, Option.bind_some], b2⟩

theorem filled {k : List UInt8} (h : k.length ≤ 64) : (vspl (Vector.replicate 64 (0 : UInt8)) 0 k k.length).toList = k ++ List.replicate (64 - k.length) 0 := by
  rw [vspl_toList (by omega) (Nat.le_refl _), Vector.toList_replicate]
  simp only [splice, List.take_zero, List.nil_append, List.take_length, Nat.zero_add, List.drop_replicate]

theorem t69 {F : Nat} (hF : 400 < F) {k : List UInt8} (hk : k.length ≤ 64) (x : UInt8) : T69 F k x = some (xk k x) := by
  obtain ⟨r, b1, b2⟩ := iter1 (f := fun s : Int × List UInt8 => L69_2 F k x s.1 s.2)
    (fun s => ∃ i : Nat, s.1 = i ∧ i ≤ 64 ∧ s.2 = (xk k x).take i) (fun r => r = xk k x) (fun s => 64 - s.1.toNat) (by
      rintro ⟨a, u⟩ ⟨i, hi, h64, hu⟩
      simp only at hi hu
      subst hi hu
      have xl := xk_len hk x
      by_cases h : i < 64
      · have h1 : (((i : Nat) : Int) < 64) := by omega
        have e3 : w64 (((i : Nat) : Int) + 1) = ((i + 1 : Nat) : Int) := by rw [w64_in (by omega) (by omega)]; omega
        have hs : (xk k x).take (i + 1) = (xk k x).take i ++ [(xk k x)[i]] := List.take_succ_eq_append_getElem (by omega)
        have ga : gapp ((xk k x).take i) [(xk k x)[i]] = some ((xk k x).take (i + 1)) := by rw [gapp_ok (by simp; omega), hs]
        refine .inl ⟨(((i + 1 : Nat) : Int), (xk k x).take (i + 1)), ?_, ⟨i + 1, rfl, by omega, rfl⟩, by simp only [Int.toNat_natCast]; omega⟩
        by_cases hik : i < k.length
        · have h2 : (((i : Nat) : Int) < (k.length : Int)) := by omega
          have hx : (xk k x)[i] = k[i] ^^^ x := by simp [xk, List.getElem_append, hik]
          rw [hx] at ga
          simp only [L69_2, L69_2c, h1, h2, decide_true, cond_true, ix_nat hik, Option.bind_some, ga, e3]
        · have h2 : ¬ (((i : Nat) : Int) < (k.length : Int)) := by omega
          have hx : (xk k x)[i] = (UInt8.ofNat 0) ^^^ x := by simp [xk, List.getElem_append, hik]
          rw [hx] at ga
          simp only [L69_2, L69_2c, h1, h2, decide_true, decide_false, cond_true, cond_false, Option.bind_some, ga, e3]
      · obtain rfl : i = 64 := by omega
        exact .inr ⟨(xk k x).take 64, rfl, List.take_of_length_le (by omega)⟩) F ((0 : Int), ([] : List UInt8)) ⟨0, rfl, by omega, by simp⟩ (by simp only [Int.toNat_zero]; omega)
  subst b2
  simp only [T69, T69c, b1, Option.bind_some]

/-- The state after the key. -/
theorem start65 {F : Nat} (hF : 2000 < F) {k : List UInt8} (hk : k.length ≤ 64) : ∃ o i h b n, T80 F 92 (vspl (Vector.replicate 64 (0 : UInt8)) 0 k (Nat.min k.length (64 - 0))) = some o ∧ T80 F 54 (vspl (Vector.replicate 64 (0 : UInt8)) 0 k (Nat.min k.length (64 - 0))) = some i ∧
    T82x1 F ((i.toList.drop 0).take (64 - 0)) gv1 (Vector.replicate 64 (0 : UInt8)) 0 = some (h, b, n) ∧ Inv F (xk k 54) h b n ∧ o.toList = xk k 92 := by
  have hmin : Nat.min k.length (64 - 0) = k.length := Nat.min_eq_left (by omega)
  rw [hmin]
  obtain ⟨o, o1, o2⟩ := t80 (F := F) (by omega) 92 (vspl (Vector.replicate 64 (0 : UInt8)) 0 k k.length)
  obtain ⟨i, i1, i2⟩ := t80 (F := F) (by omega) 54 (vspl (Vector.replicate 64 (0 : UInt8)) 0 k k.length)
  rw [filled hk] at o2 i2
  have xl := xk_len hk 54
  obtain ⟨h, b, n, t1, t2⟩ := t82 (F := F) (m := []) (x := xk k 54) (by simp only [List.length_nil]; omega) (by simp only [List.length_nil]; omega) (inv0 F)
  rw [List.nil_append] at t2
  refine ⟨o, i, h, b, n, o1, i1, ?_, t2, o2⟩
  rw [i2, x82_eq]
  have e : (((k ++ List.replicate (64 - k.length) 0).map (fun y => y ^^^ (54 : UInt8))).drop 0).take (64 - 0) = xk k 54 := by
    rw [List.drop_zero, List.take_of_length_le (by simp; omega)]; rfl
  rw [e, t1]

theorem v0_0 : vix gv0 (0 : Int) = some 54 := rfl
theorem v0_1 : vix gv0 (1 : Int) = some 92 := rfl

/-- Tags. -/
theorem tag_eq {F : Nat} {k d : List UInt8} (hF : 2000 + k.length + d.length < F) (hk : k.length < 10000000) (hd : d.length < 10000000) : ∃ t, T51 F k d = some t ∧ T53 F k d = some t ∧ t.length = 32 := by
  have g0 : gslb 64 (0 : Int) ((64 : Nat) : Int) = some (0, 64) := gslb_nat (a := 0) (by omega) (by omega)
  have key : ∀ k' : List UInt8, k'.length ≤ 64 → ∃ h b n o t inner, (T80 F 92 (vspl (Vector.replicate 64 (0 : UInt8)) 0 k' (Nat.min k'.length (64 - 0))) = some o ∧ ∃ i, T80 F 54 (vspl (Vector.replicate 64 (0 : UInt8)) 0 k' (Nat.min k'.length (64 - 0))) = some i ∧
      T82x1 F ((i.toList.drop 0).take (64 - 0)) gv1 (Vector.replicate 64 (0 : UInt8)) 0 = some (h, b, n)) ∧ (∃ z, T66 F d h b n = some z ∧ T67 F z.1 z.2.1 z.2.2 o = some t) ∧
      T68 F (xk k' 54 ++ d) = some inner ∧ inner.length = 32 ∧ T68 F (xk k' 92 ++ inner) = some t ∧ t.length = 32 := by
    intro k' hk'
    obtain ⟨o, i, h, b, n, o1, i1, s1, s2, s3⟩ := start65 (F := F) (by omega) hk'
    have xl := xk_len hk' 54
    have xl2 := xk_len hk' 92
    obtain ⟨h2, b2, n2, u1, u2⟩ := t82 (F := F) (x := d) (by omega) (by omega) s2
    obtain ⟨inner, v1, v2, v3⟩ := sum_eq (F := F) (by simp only [List.length_append]; omega) (by simp only [List.length_append]; omega) u2
    obtain ⟨t, w1, w2, w3⟩ := t79 (F := F) (ls := [xk k' 92, inner]) (by simp only [List.flatten_cons, List.flatten_nil, List.length_append, List.length_cons, List.length_nil]; omega) (by simp only [List.flatten_cons, List.flatten_nil, List.length_append, List.length_nil]; omega) (by simp)
    have hfl : [xk k' 92, inner].flatten = xk k' 92 ++ inner := by simp
    rw [hfl] at w2
    refine ⟨h, b, n, o, t, inner, ⟨o1, i, i1, s1⟩, ⟨(h2, b2, n2), ?_, ?_⟩, v2, v3, w2, w3⟩
    · simp only [T66, T66c, x82_eq, u1, Option.bind_some]
    · have e : (o.toList.drop 0).take (64 - 0) = xk k' 92 := by rw [s3, List.drop_zero, List.take_of_length_le (by omega)]
      simp only [T67, T67c, g0, Option.bind_some, v1, e, w1]
  by_cases hlong : 64 < k.length
  · have h1 : ((64 : Int) < (k.length : Int)) := by omega
    obtain ⟨k', a1, a2, a3⟩ := t79 (F := F) (ls := [k]) (by simp; omega) (by simp; omega) (by simp)
    have hfl : [k].flatten = k := by simp
    rw [hfl] at a2
    obtain ⟨h, b, n, o, t, inner, ⟨o1, i, i1, s1⟩, ⟨z, z1, z2⟩, c1, c2, c3, c4⟩ := key k' (by omega)
    have xl := xk_len (k := k') (by omega) 54
    have xl2 := xk_len (k := k') (by omega) 92
    have h65 : T65 F k = some (h, b, n, o) := by
      simp only [T65, T65c, h1, decide_true, cond_true, a1, Option.bind_some, g0, v0_0, v0_1, T81, T81c, o1, i1, s1]
    refine ⟨t, ?_, ?_, c4⟩
    · simp only [T51, T51c, h65, Option.bind_some, z1, z2]
    · have gs : gstr k = some k := by unfold gstr; rw [if_pos (by omega)]
      have gi : gstr inner = some inner := by unfold gstr; rw [if_pos (by omega)]
      have q1 : T69 F k' (UInt8.ofNat 54) = some (xk k' 54) := t69 (by omega) (by omega) _
      have q2 : T69 F k' (UInt8.ofNat 92) = some (xk k' 92) := t69 (by omega) (by omega) _
      simp only [T53, T53c, h1, decide_true, cond_true, gs, Option.bind_some, a2, q1, q2, gapp_ok (show (xk k' 54).length + d.length ≤ 1099511627776 by omega), c1, gi, gapp_ok (show (xk k' 92).length + inner.length ≤ 1099511627776 by omega), c3]
  · have h1 : ¬ ((64 : Int) < (k.length : Int)) := by omega
    obtain ⟨h, b, n, o, t, inner, ⟨o1, i, i1, s1⟩, ⟨z, z1, z2⟩, c1, c2, c3, c4⟩ := key k (by omega)
    have xl := xk_len (k := k) (by omega) 54
    have xl2 := xk_len (k := k) (by omega) 92
    have h65 : T65 F k = some (h, b, n, o) := by
      simp only [T65, T65c, h1, decide_false, cond_false, Option.bind_some, g0, v0_0, v0_1, T81, T81c, o1, i1, s1]
    refine ⟨t, ?_, ?_, c4⟩
    · simp only [T51, T51c, h65, Option.bind_some, z1, z2]
    · have gi : gstr inner = some inner := by unfold gstr; rw [if_pos (by omega)]
      have q1 : T69 F k (UInt8.ofNat 54) = some (xk k 54) := t69 (by omega) (by omega) _
      have q2 : T69 F k (UInt8.ofNat 92) = some (xk k 92) := t69 (by omega) (by omega) _
      simp only [T53, T53c, h1, decide_false, cond_false, Option.bind_some, q1, q2, gapp_ok (show (xk k 54).length + d.length ≤ 1099511627776 by omega), c1, gi, gapp_ok (show (xk k 92).length + inner.length ≤ 1099511627776 by omega), c3]
end Go.Proofs.YtjghgfohpihhfaaDoor
/- The key stream of chacha20 is that of the reference. -/
namespace Go.Proofs.YtjghgfohpihhfaaDoor
open Go.Tw
set_option linter.unusedVariables false
set_option linter.unusedSimpArgs false

def rl (x : UInt32) (k : Nat) : UInt32 := shl32 x k ||| shr32 x (32 - k)
theorem b94_16 (F : Nat) (x : UInt32) : T94 F x 16 = some (rl x 16) := by
  have e1 : ((UInt64.ofInt 16) &&& (UInt64.ofNat 31)).toNat = 16 := by decide +kernel
  have e2 : ((UInt64.ofNat 32) - ((UInt64.ofInt 16) &&& (UInt64.ofNat 31))).toNat = 16 := by decide +kernel
  simp only [T94, T94c, e1, e2, rl]
theorem b94_12 (F : Nat) (x : UInt32) : T94 F x 12 = some (rl x 12) := by
  have e1 : ((UInt64.ofInt 12) &&& (UInt64.ofNat 31)).toNat = 12 := by decide +kernel
  have e2 : ((UInt64.ofNat 32) - ((UInt64.ofInt 12) &&& (UInt64.ofNat 31))).toNat = 20 := by decide +kernel
  simp only [T94, T94c, e1, e2, rl]
theorem b94_8 (F : Nat) (x : UInt32) : T94 F x 8 = some (rl x 8) := by
  have e1 : ((UInt64.ofInt 8) &&& (UInt64.ofNat 31)).toNat = 8 := by decide +kernel
  have e2 : ((UInt64.ofNat 32) - ((UInt64.ofInt 8) &&& (UInt64.ofNat 31))).toNat = 24 := by decide +kernel
  simp only [T94, T94c, e1, e2, rl]
theorem b94_7 (F : Nat) (x : UInt32) : T94 F x 7 = some (rl x 7) := by
  have e1 : ((UInt64.ofInt 7) &&& (UInt64.ofNat 31)).toNat = 7 := by decide +kernel
  have e2 : ((UInt64.ofNat 32) - ((UInt64.ofInt 7) &&& (UInt64.ofNat 31))).toNat = 25 := by decide +kernel
  simp only [T94, T94c, e1, e2, rl]
theorem b95 (F : Nat) (x : UInt32) (k : Nat) (hk : k ≤ 32) : T95 F x ((k : Nat) : Int) = some (rl x k) := by
  have e1 : gnn ((k : Nat) : Int) = some k := by unfold gnn; rw [if_pos (by omega)]; simp only [Int.toNat_natCast]
  have w : w64 ((32 : Int) - ((k : Nat) : Int)) = ((32 - k : Nat) : Int) := by rw [w64_in (by omega) (by omega)]; omega
  have e2 : gnn ((32 - k : Nat) : Int) = some (32 - k) := by unfold gnn; rw [if_pos (by omega)]; simp only [Int.toNat_natCast]
  simp only [T95, T95c, e1, w, e2, Option.bind_some, rl]
theorem b95_16 (F : Nat) (x : UInt32) : T95 F x 16 = some (rl x 16) := b95 F x 16 (by omega)
theorem b95_12 (F : Nat) (x : UInt32) : T95 F x 12 = some (rl x 12) := b95 F x 12 (by omega)
theorem b95_8 (F : Nat) (x : UInt32) : T95 F x 8 = some (rl x 8) := b95 F x 8 (by omega)
theorem b95_7 (F : Nat) (x : UInt32) : T95 F x 7 = some (rl x 7) := b95 F x 7 (by omega)

theorem quarter (F : Nat) (a b c d : UInt32) : ∃ q, T87 F a b c d = some q ∧ T89 F a b c d = some q := by
  simp only [T87, T87c, T89, T89c, b94_16, b94_12, b94_8, b94_7, b95_16, b95_12, b95_8, b95_7, Option.bind_some]
  exact ⟨_, rfl, rfl⟩
theorem q_eq (F : Nat) : T87 F = T89 F := by
  funext a b c d
  obtain ⟨q, h1, h2⟩ := quarter F a b c d
  rw [h1, h2]

theorem e7 (F : Nat) : L71_7 F = L72_7 F := rfl
theorem e8 (F : Nat) : L71_8 F = L72_8 F := rfl
theorem e11 (F : Nat) : L71_11 F = L72_11 F := by
  funext a b c
  simp only [L71_11, L71_11c, L72_11, L72_11c, q_eq]
theorem e10 (F : Nat) : L71_10 F = L72_10 F := by
  funext a b c
  simp only [L71_10, L71_10c, L72_10, L72_10c, e11]
theorem e9 (F : Nat) : L71_9 F = L72_9 F := by
  funext a b c
  simp only [L71_9, L71_9c, L72_9, L72_9c, e10]
theorem vix_inb {α : Type} {n : Nat} (v : Vector α n) (i : Int) : vix v i = (inb n i).bind fun j => vat v j := by
  unfold vix inb
  by_cases h0 : 0 ≤ i
  · rw [if_pos h0]
    by_cases h1 : i < n
    · rw [if_pos ⟨h0, h1⟩, Option.bind_some, vat_eq]
    · rw [if_neg (fun h => h1 h.2), Option.bind_none]
      exact getElem?_neg v i.toNat (by omega)
  · rw [if_neg h0, if_neg (fun h => h0 h.1), Option.bind_none]
theorem e12 (F : Nat) (a b : Vector UInt32 16) : L71_12 F a b = L72_12 F b a := by
  funext i l
  simp only [L71_12, L71_12c, L72_12, L72_12c, vix_inb, Option.bind_assoc]

def rows : Vector (Vector Int 4) 8 := #v[(#v[(0 : Int), (4 : Int), (8 : Int), (12 : Int)] : Vector Int 4), (#v[(1 : Int), (5 : Int), (9 : Int), (13 : Int)] : Vector Int 4), (#v[(2 : Int), (6 : Int), (10 : Int), (14 : Int)] : Vector Int 4), (#v[(3 : Int), (7 : Int), (11 : Int), (15 : Int)] : Vector Int 4), (#v[(0 : Int), (5 : Int), (10 : Int), (15 : Int)] : Vector Int 4), (#v[(1 : Int), (6 : Int), (11 : Int), (12 : Int)] : Vector Int 4), (#v[(2 : Int), (7 : Int), (8 : Int), (13 : Int)] : Vector Int 4), (#v[(3 : Int), (4 : Int), (9 : Int), (14 : Int)] : Vector Int 4)]
theorem row_ok : ∀ i : Nat, i < 8 → ∃ a b c d : Nat, (a < 16 ∧ b < 16 ∧ c < 16 ∧ d < 16) ∧ vix rows ((i : Nat) : Int) = some #v[((a : Nat) : Int), ((b : Nat) : Int), ((c : Nat) : Int), ((d : Nat) : Int)]
  | 0, _ => ⟨0, 4, 8, 12, by decide, rfl⟩
  | 1, _ => ⟨1, 5, 9, 13, by decide, rfl⟩
  | 2, _ => ⟨2, 6, 10, 14, by decide, rfl⟩
  | 3, _ => ⟨3, 7, 11, 15, by decide, rfl⟩
  | 4, _ => ⟨0, 5, 10, 15, by decide, rfl⟩
  | 5, _ => ⟨1, 6, 11, 12, by decide, rfl⟩
  | 6, _ => ⟨2, 7, 8, 13, by decide, rfl⟩
  | 7, _ => ⟨3, 4, 9, 14, by decide, rfl⟩
  | n + 8, h => absurd h (by omega)

theorem l11 (F : Nat) {i : Nat} (hi : i < 8) (v : Vector UInt32 16) : ∃ v', L72_11 F rows ((i : Nat) : Int) v = some (((i + 1 : Nat) : Int), v') := by
  obtain ⟨a, b, c, d, ⟨ha, hb, hc, hd⟩, hr⟩ := row_ok i hi
  have e3 : w64 (((i : Nat) : Int) + 1) = ((i + 1 : Nat) : Int) := by rw [w64_in (by omega) (by omega)]; omega
  have y0 : vat #v[((a : Nat) : Int), ((b : Nat) : Int), ((c : Nat) : Int), ((d : Nat) : Int)] 0 = some ((a : Nat) : Int) := rfl
  have y1 : vat #v[((a : Nat) : Int), ((b : Nat) : Int), ((c : Nat) : Int), ((d : Nat) : Int)] 1 = some ((b : Nat) : Int) := rfl
  have y2 : vat #v[((a : Nat) : Int), ((b : Nat) : Int), ((c : Nat) : Int), ((d : Nat) : Int)] 2 = some ((c : Nat) : Int) := rfl
  have y3 : vat #v[((a : Nat) : Int), ((b : Nat) : Int), ((c : Nat) : Int), ((d : Nat) : Int)] 3 = some ((d : Nat) : Int) := rfl
  obtain ⟨q, _, hq⟩ := quarter F v[a] v[b] v[c] v[d]
  simp only [L72_11, L72_11c, hr, Option.bind_some, y0, y1, y2, y3, inb_nat ha, inb_nat hb, inb_nat hc, inb_nat hd, vat_nat (v := v) ha, vat_nat (v := v) hb, vat_nat (v := v) hc, vat_nat (v := v) hd, hq, e3]
  exact ⟨_, rfl⟩
theorem l10 {F : Nat} (hF : 100 < F) (v : Vector UInt32 16) : ∃ v', iter (fun s : Int × Vector UInt32 16 => L72_10 F rows s.1 s.2) F ((0 : Int), v) = some v' := by
  obtain ⟨r, h, _⟩ := iter1 (f := fun s : Int × Vector UInt32 16 => L72_10 F rows s.1 s.2) (fun s => ∃ i : Nat, s.1 = i ∧ i ≤ 8) (fun _ => True) (fun s => 8 - s.1.toNat) (by
      rintro ⟨a, u⟩ ⟨i, hi, h8⟩
      simp only at hi
      subst hi
      by_cases h : i < 8
      · have h1 : (((i : Nat) : Int) < 8) := by omega
        obtain ⟨v', hv⟩ := l11 F h u
        refine .inl ⟨(((i + 1 : Nat) : Int), v'), ?_, ⟨i + 1, rfl, by omega⟩, by simp only [Int.toNat_natCast]; omega⟩
        simp only [L72_10, L72_10c, h1, decide_true, cond_true, hv, Option.bind_some]
      · obtain rfl : i = 8 := by omega
        exact .inr ⟨u, rfl, trivial⟩) F ((0 : Int), v) ⟨0, rfl, by omega⟩ (by simp only [Int.toNat_zero]; omega)
  exact ⟨r, h⟩
theorem l9 {F : Nat} (hF : 100 < F) (v : Vector UInt32 16) : ∃ v', iter (fun s : Int × Vector UInt32 16 => L72_9 F rows s.1 s.2) F ((0 : Int), v) = some v' := by
  obtain ⟨r, h, _⟩ := iter1 (f := fun s : Int × Vector UInt32 16 => L72_9 F rows s.1 s.2) (fun s => ∃ i : Nat, s.1 = i ∧ i ≤ 10) (fun _ => True) (fun s => 10 - s.1.toNat) (by
      rintro ⟨a, u⟩ ⟨i, hi, h8⟩
      simp only at hi
      subst hi
      by_cases h : i < 10
      · have h1 : (((i : Nat) : Int) < 10) := by omega
        have e3 : w64 (((i : Nat) : Int) + 1) = ((i + 1 : Nat) : Int) := by rw [w64_in (by omega) (by omega)]; omega
        obtain ⟨v', hv⟩ := l10 hF u
        refine .inl ⟨(((i + 1 : Nat) : Int), v'), ?_, ⟨i + 1, rfl, by omega⟩, by simp only [Int.toNat_natCast]; omega⟩
        simp only [L72_9, L72_9c, h1, decide_true, cond_true, hv, Option.bind_some, e3]
      · obtain rfl : i = 10 := by omega
        exact .inr ⟨u, rfl, trivial⟩) F ((0 : Int), v) ⟨0, rfl, by omega⟩ (by simp only [Int.toNat_zero]; omega)
  exact ⟨r, h⟩

theorem t88 (F : Nat) {p : List UInt8} {i : Nat} (h : 4 * i + 3 < p.length) (hi : i < 100) : ∃ w, T88 F p ((i : Nat) : Int) = some w := by
  have e1 : w64 ((4 : Int) * ((i : Nat) : Int)) = ((4 * i : Nat) : Int) := by rw [w64_in (by omega) (by omega)]; omega
  have f1 : w64 (((4 * i : Nat) : Int) + 1) = ((4 * i + 1 : Nat) : Int) := by rw [w64_in (by omega) (by omega)]; omega
  have f2 : w64 (((4 * i : Nat) : Int) + 2) = ((4 * i + 2 : Nat) : Int) := by rw [w64_in (by omega) (by omega)]; omega
  have f3 : w64 (((4 * i : Nat) : Int) + 3) = ((4 * i + 3 : Nat) : Int) := by rw [w64_in (by omega) (by omega)]; omega
  have x0 : ix p ((4 * i : Nat) : Int) = some p[4 * i] := ix_nat (by omega)
  have x1 : ix p ((4 * i + 1 : Nat) : Int) = some p[4 * i + 1] := ix_nat (by omega)
  have x2 : ix p ((4 * i + 2 : Nat) : Int) = some p[4 * i + 2] := ix_nat (by omega)
  have x3 : ix p ((4 * i + 3 : Nat) : Int) = some p[4 * i + 3] := ix_nat (by omega)
  simp only [T88, T88c, e1, f1, f2, f3, x0, x1, x2, x3, Option.bind_some]
  exact ⟨_, rfl⟩
theorem l7 {F : Nat} (hF : 100 < F) {k : List UInt8} (hk : k.length = 32) (v : Vector UInt32 16) : ∃ v', iter (fun s : Int × Vector UInt32 16 => L72_7 F k s.1 s.2) F ((0 : Int), v) = some v' := by
  obtain ⟨r, h, _⟩ := iter1 (f := fun s : Int × Vector UInt32 16 => L72_7 F k s.1 s.2) (fun s => ∃ i : Nat, s.1 = i ∧ i ≤ 8) (fun _ => True) (fun s => 8 - s.1.toNat) (by
      rintro ⟨a, u⟩ ⟨i, hi, h8⟩
      simp only at hi
      subst hi
      by_cases h : i < 8
      · have h1 : (((i : Nat) : Int) < 8) := by omega
        have e3 : w64 (((i : Nat) : Int) + 1) = ((i + 1 : Nat) : Int) := by rw [w64_in (by omega) (by omega)]; omega
        have e4 : w64 ((4 : Int) + ((i : Nat) : Int)) = ((4 + i : Nat) : Int) := by rw [w64_in (by omega) (by omega)]; omega
        obtain ⟨w, hw⟩ := t88 F (p := k) (i := i) (by omega) (by omega)
        refine .inl ⟨(((i + 1 : Nat) : Int), u.setIfInBounds (4 + i) w), ?_, ⟨i + 1, rfl, by omega⟩, by simp only [Int.toNat_natCast]; omega⟩
        simp only [L72_7, L72_7c, h1, decide_true, cond_true, hw, Option.bind_some, e3, e4, inb_nat (show 4 + i < 16 by omega)]
      · obtain rfl : i = 8 := by omega
        exact .inr ⟨u, rfl, trivial⟩) F ((0 : Int), v) ⟨0, rfl, by omega⟩ (by simp only [Int.toNat_zero]; omega)
  exact ⟨r, h⟩
theorem l8 {F : Nat} (hF : 100 < F) {k : List UInt8} (hk : k.length = 12) (v : Vector UInt32 16) : ∃ v', iter (fun s : Int × Vector UInt32 16 => L72_8 F k s.1 s.2) F ((0 : Int), v) = some v' := by
  obtain ⟨r, h, _⟩ := iter1 (f := fun s : Int × Vector UInt32 16 => L72_8 F k s.1 s.2) (fun s => ∃ i : Nat, s.1 = i ∧ i ≤ 3) (fun _ => True) (fun s => 3 - s.1.toNat) (by
      rintro ⟨a, u⟩ ⟨i, hi, h8⟩
      simp only at hi
      subst hi
      by_cases h : i < 3
      · have h1 : (((i : Nat) : Int) < 3) := by omega
        have e3 : w64 (((i : Nat) : Int) + 1) = ((i + 1 : Nat) : Int) := by rw [w64_in (by omega) (by omega)]; omega
        have e4 : w64 ((13 : Int) + ((i : Nat) : Int)) = ((13 + i : Nat) : Int) := by rw [w64_in (by omega) (by omega)]; omega
        obtain ⟨w, hw⟩ := t88 F (p := k) (i := i) (by omega) (by omega)
        refine .inl ⟨(((i + 1 : Nat) : Int), u.setIfInBounds (13 + i) w), ?_, ⟨i + 1, rfl, by omega⟩, by simp only [Int.toNat_natCast]; omega⟩
        simp only [L72_8, L72_8c, h1, decide_true, cond_true, hw, Option.bind_some, e3, e4, inb_nat (show 13 + i < 16 by omega)]
      · obtain rfl : i = 3 := by omega
        exact .inr ⟨u, rfl, trivial⟩) F ((0 : Int), v) ⟨0, rfl, by omega⟩ (by simp only [Int.toNat_zero]; omega)
  exact ⟨r, h⟩
theorem l12 {F : Nat} (hF : 100 < F) (a b : Vector UInt32 16) : ∃ r : List UInt8, iter (fun s : Int × List UInt8 => L72_12 F a b s.1 s.2) F ((0 : Int), ([] : List UInt8)) = some r ∧ r.length = 64 := by
  exact iter1 (f := fun s : Int × List UInt8 => L72_12 F a b s.1 s.2) (fun s => ∃ i : Nat, s.1 = i ∧ i ≤ 16 ∧ s.2.length = 4 * i) (fun r => r.length = 64) (fun s => 16 - s.1.toNat) (by
      rintro ⟨x, u⟩ ⟨i, hi, h8, hl⟩
      simp only at hi hl
      subst hi
      by_cases h : i < 16
      · have h1 : (((i : Nat) : Int) < 16) := by omega
        have e3 : w64 (((i : Nat) : Int) + 1) = ((i + 1 : Nat) : Int) := by rw [w64_in (by omega) (by omega)]; omega
        have ga : ∀ y : List UInt8, y.length = 4 → gapp u y = some (u ++ y) := fun y hy => gapp_ok (by omega)
        refine .inl ⟨(((i + 1 : Nat) : Int), u ++ [((b[i] + a[i]).toUInt8), ((shr32 (b[i] + a[i]) ((UInt64.ofNat 8).toNat)).toUInt8), ((shr32 (b[i] + a[i]) ((UInt64.ofNat 16).toNat)).toUInt8), ((shr32 (b[i] + a[i]) ((UInt64.ofNat 24).toNat)).toUInt8)]), ?_, ⟨i + 1, rfl, by omega, by simp [hl]; omega⟩, by simp only [Int.toNat_natCast]; omega⟩
        simp only [L72_12, L72_12c, h1, decide_true, cond_true, inb_nat h, vat_nat (v := a) h, vat_nat (v := b) h, Option.bind_some, e3]
        rw [ga _ rfl, Option.bind_some]
      · obtain rfl : i = 16 := by omega
        exact .inr ⟨u, rfl, hl⟩) F ((0 : Int), ([] : List UInt8)) ⟨0, rfl, by omega, rfl⟩ (by simp only [Int.toNat_zero]; omega)

theorem t70 (F : Nat) (k n : List UInt8) : T70 F k n = some (decide (k.length = 32) && decide (n.length = 12)) := by
  by_cases h1 : k.length = 32
  · have e1 : ((k.length : Int) == 32) = true := by rw [h1]; rfl
    by_cases h2 : n.length = 12
    · have e2 : ((n.length : Int) == 12) = true := by rw [h2]; rfl
      simp [T70, T70c, e1, e2, h1, h2]
    · have e2 : ((n.length : Int) == 12) = false := by rw [beq_eq_false_iff_ne]; omega
      simp [T70, T70c, e1, e2, h1, h2]
  · have e1 : ((k.length : Int) == 32) = false := by rw [beq_eq_false_iff_ne]; omega
    simp [T70, T70c, e1, h1]

theorem block_eq {F : Nat} (hF : 100 < F) {k n : List UInt8} (hk : k.length = 32) (hn : n.length = 12) (c : UInt32) : ∃ b, T71 F k n c = some (0, b) ∧ T72 F k n c = some (0, b) ∧ b.length = 64 := by
  obtain ⟨v1, h1⟩ := l7 hF hk (Vector.setIfInBounds (Vector.setIfInBounds (Vector.setIfInBounds (Vector.setIfInBounds (Vector.replicate 16 (0 : UInt32)) 0 (UInt32.ofNat 1634760805)) 1 (UInt32.ofNat 857760878)) 2 (UInt32.ofNat 2036477234)) 3 (UInt32.ofNat 1797285236))
  obtain ⟨v2, h2⟩ := l8 hF hn (Vector.setIfInBounds v1 12 c)
  obtain ⟨v3, h3⟩ := l9 hF v2
  obtain ⟨r, h4, h5⟩ := l12 hF v2 v3
  have d1 : ((k.length : Int) != 32) = false := by rw [hk]; rfl
  have d2 : ((n.length : Int) != 12) = false := by rw [hn]; rfl
  have g0 : gmake (0 : UInt8) (0 : Int) (64 : Int) = some [] := by decide +kernel
  simp only [rows] at h3
  refine ⟨r, ?_, ?_, h5⟩
  · simp only [T71, T71c, t70, hk, hn, decide_true, Bool.and_self, Option.bind_some, Bool.not_true, cond_false, e7, e8, e9, e12, h1, h2, h3, g0, h4]
  · simp only [T72, T72c, d1, d2, cond_false, h1, Option.bind_some, h2, h3, h4]

/-- Streams that begin at 0. -/
theorem stream_eq {F : Nat} {k n : List UInt8} {N : Nat} (hF : 200 + N < F) (hN : N ≤ 1048576) (hk : k.length = 32) (hn : n.length = 12) : ∃ s, T54 F k n 0 (N : Int) = some (0, s) ∧ T55 F k n 0 (N : Int) = some (0, s) ∧ s.length = N := by
  obtain ⟨r, r', b1, b2, b3, b4⟩ := iter2 (f := fun s : Int × List UInt8 => L54_2 F k n 0 (N : Int) s.1 s.2) (g := fun s : Int × List UInt8 => L55_2 F k n 0 (N : Int) s.1 s.2)
    (fun s t => s.1 = t.1 ∧ ∃ i : Nat, s.1 = i ∧ i ≤ N ∧ t.2.length = i ∧ s.2 = t.2 ++ List.replicate (N - i) 0) (fun r r' => r' = r ∧ r.length = N) (fun s => N - s.1.toNat) (by
      rintro ⟨a, u⟩ ⟨a', t⟩ ⟨h0, i, hi, hiN, hl, hu⟩
      simp only at h0 hi hl hu
      subst h0 hi hu
      have w0 : w64 ((0 : Int) + (N : Int)) = (N : Int) := by rw [w64_in (by omega) (by omega)]; omega
      have w1 : w64 ((0 : Int) + ((i : Nat) : Int)) = ((i : Nat) : Int) := by rw [w64_in (by omega) (by omega)]; omega
      by_cases h : i < N
      · have h1 : (((i : Nat) : Int) < (N : Int)) := by omega
        obtain ⟨b, c1, c2, c3⟩ := block_eq (F := F) (by omega) hk hn (UInt32.ofInt (w64 (Int.tdiv ((i : Nat) : Int) 64)))
        have hub : (t ++ List.replicate (N - i) (0 : UInt8)).length = N := by simp; omega
        have g1 : gslb (t ++ List.replicate (N - i) (0 : UInt8)).length ((i : Nat) : Int) ((t ++ List.replicate (N - i) (0 : UInt8)).length : Int) = some (i, N) := by rw [hub]; exact gslb_nat (by omega) (Nat.le_refl _)
        have g2 : gslb b.length ((i % 64 : Nat) : Int) (b.length : Int) = some (i % 64, 64) := by rw [c3]; exact gslb_nat (by omega) (by omega)
        have hpl : ((b.drop (i % 64)).take (64 - i % 64)).length = 64 - i % 64 := by simp; omega
        have hpe : (b.drop (i % 64)).take (64 - i % 64) = b.drop (i % 64) := List.take_of_length_le (by simp; omega)
        have w2 : w64 ((N : Int) - ((i : Nat) : Int)) = ((N - i : Nat) : Int) := by rw [w64_in (by omega) (by omega)]; omega
        by_cases hs : N - i < 64 - i % 64
        · have hmin : Nat.min (64 - i % 64) (N - i) = N - i := Nat.min_eq_right (by omega)
          have w3 : w64 (((i : Nat) : Int) + ((N - i : Nat) : Int)) = ((N : Nat) : Int) := by rw [w64_in (by omega) (by omega)]; omega
          have hsp : splice (t ++ List.replicate (N - i) (0 : UInt8)) i (b.drop (i % 64)) (N - i) = t ++ (b.drop (i % 64)).take (N - i) := by
            simp only [splice]
            have hz : (t ++ List.replicate (N - i) (0 : UInt8)).drop (i + (N - i)) = [] := List.drop_of_length_le (by omega)
            rw [hz, List.append_nil, List.take_append_of_le_length (by omega), List.take_of_length_le (l := t) (by omega)]
          have d2 : (((N - i : Nat) : Int) < ((64 - i % 64 : Nat) : Int)) := by omega
          have g3 : gslb (64 - i % 64) (0 : Int) ((N - i : Nat) : Int) = some (0, N - i) := gslb_nat (a := 0) (by omega) (by omega)
          have e5 : i % 64 + (N - i) - i % 64 = N - i := by omega
          have ga : gapp t ((b.drop (i % 64)).take (N - i)) = some (t ++ (b.drop (i % 64)).take (N - i)) := gapp_ok (by simp; omega)
          refine .inl ⟨((N : Int), t ++ (b.drop (i % 64)).take (N - i)), ((N : Int), t ++ (b.drop (i % 64)).take (N - i)), ?_, ?_, ⟨rfl, N, rfl, by omega, ?_, ?_⟩, ?_⟩
          · simp only [L54_2, L54_2c, h1, decide_true, cond_true, w1, c1, Option.bind_some, g1, tmod64, g2, hpe, show (b.drop (i % 64)).length = 64 - i % 64 by simp; omega, hmin, w3, hsp]
          · simp only [L55_2, L55_2c, w0, h1, decide_true, cond_true, c2, Option.bind_some, tmod64, g2, w2, d2, g3, e5, Nat.add_zero, ga, w3]
          · simp; omega
          · simp
          · simp only [Int.toNat_natCast]; omega
        · have hmin : Nat.min (64 - i % 64) (N - i) = 64 - i % 64 := Nat.min_eq_left (by omega)
          have w3 : w64 (((i : Nat) : Int) + ((64 - i % 64 : Nat) : Int)) = ((i + (64 - i % 64) : Nat) : Int) := by rw [w64_in (by omega) (by omega)]; omega
          have hsp : splice (t ++ List.replicate (N - i) (0 : UInt8)) i (b.drop (i % 64)) (64 - i % 64) = t ++ b.drop (i % 64) ++ List.replicate (N - (i + (64 - i % 64))) 0 := by
            simp only [splice]
            rw [List.take_append_of_le_length (by omega), List.take_of_length_le (l := t) (by omega), List.take_of_length_le (l := b.drop (i % 64)) (by simp; omega)]
            congr 1
            rw [List.drop_append, List.drop_of_length_le (by omega), List.nil_append, List.drop_replicate]
            congr 1; omega
          have d2 : ¬ (((N - i : Nat) : Int) < ((64 - i % 64 : Nat) : Int)) := by omega
          have ga : gapp t (b.drop (i % 64)) = some (t ++ b.drop (i % 64)) := gapp_ok (by simp; omega)
          refine .inl ⟨(((i + (64 - i % 64) : Nat) : Int), t ++ b.drop (i % 64) ++ List.replicate (N - (i + (64 - i % 64))) 0), (((i + (64 - i % 64) : Nat) : Int), t ++ b.drop (i % 64)), ?_, ?_, ⟨rfl, i + (64 - i % 64), rfl, by omega, ?_, rfl⟩, ?_⟩
          · simp only [L54_2, L54_2c, h1, decide_true, cond_true, w1, c1, Option.bind_some, g1, tmod64, g2, hpe, show (b.drop (i % 64)).length = 64 - i % 64 by simp; omega, hmin, w3, hsp]
          · simp only [L55_2, L55_2c, w0, h1, decide_true, cond_true, c2, Option.bind_some, tmod64, g2, w2, d2, decide_false, cond_false, hpe, ga, w3]
          · simp; omega
          · simp only [Int.toNat_natCast]; omega
      · obtain rfl : i = N := by omega
        have h1 : ¬ (((i : Nat) : Int) < (i : Int)) := by omega
        refine .inr ⟨t ++ List.replicate (i - i) 0, t, ?_, ?_, by simp, by simp; omega⟩
        · simp only [L54_2, L54_2c, h1, decide_false, cond_false]
        · simp only [L55_2, L55_2c, w0, h1, decide_false, cond_false]) F F ((0 : Int), List.replicate N 0) ((0 : Int), ([] : List UInt8)) ⟨rfl, 0, rfl, by omega, rfl, by simp⟩ (by simp only [Int.toNat_zero]; omega) (by simp only [Int.toNat_zero]; omega)
  subst b3
  have d0 : ¬ ((0 : Int) < 0) := by omega
  have d1 : ¬ ((N : Int) < 0) := by omega
  have d2 : ¬ ((1048576 : Int) < (N : Int)) := by omega
  have w : w64 ((274877906944 : Int) - (N : Int)) = 274877906944 - (N : Int) := w64_in (by omega) (by omega)
  have d3 : ¬ ((274877906944 : Int) - (N : Int) < 0) := by omega
  have f1 : ((k.length : Int) != 32) = false := by rw [hk]; rfl
  have f2 : ((n.length : Int) != 12) = false := by rw [hn]; rfl
  have g0 : gmake (0 : UInt8) (N : Int) (N : Int) = some (List.replicate N 0) := by
    unfold gmake; rw [if_pos (by omega)]; simp only [Int.toNat_natCast]
  refine ⟨r', ?_, ?_, b4⟩
  · simp only [T54, T54c, t70, hk, hn, decide_true, Bool.and_self, Option.bind_some, Bool.not_true, cond_false, d0, d1, d2, w, d3, decide_false, g0, b1]
  · simp only [T55, T55c, f1, f2, cond_false, d0, d1, d2, w, d3, decide_false, b2, Option.bind_some]
end Go.Proofs.YtjghgfohpihhfaaDoor
/- Names, checks, streams, sealed blocks: the plain laws. -/
namespace Go.Proofs.YtjghgfohpihhfaaDoor
open Go.Tw
set_option linter.unusedVariables false
set_option linter.unusedSimpArgs false

theorem lp50 {F : Nat} (hF : 50 < F) (ls : List (List UInt8)) (hl : ls.length ≤ 5) : ∃ r, iter (fun s : Int => L50_2 F (ls.length : Int) ls s) F (0 : Int) = some r ∧ ((r = .inl () ∧ ∀ j (h : j < ls.length), ls[j].length = 32) ∨ (r = .inr false ∧ ∃ j, ∃ h : j < ls.length, ls[j].length ≠ 32)) :=
  iter1 (f := fun s : Int => L50_2 F (ls.length : Int) ls s) (fun s => ∃ i : Nat, s = i ∧ i ≤ ls.length ∧ ∀ j (h : j < ls.length), j < i → ls[j].length = 32) _ (fun s => ls.length - s.toNat) (by
    rintro s ⟨i, rfl, hi, hj⟩
    by_cases h : i < ls.length
    · have h1 : (((i : Nat) : Int) < (ls.length : Int)) := by omega
      have e3 : w64 (((i : Nat) : Int) + 1) = ((i + 1 : Nat) : Int) := by rw [w64_in (by omega) (by omega)]; omega
      by_cases h32 : ls[i].length = 32
      · have e : ((ls[i].length : Int) != 32) = false := by rw [h32]; rfl
        refine .inl ⟨((i + 1 : Nat) : Int), ?_, ⟨i + 1, rfl, by omega, fun j hj2 hlt => ?_⟩, by simp only [Int.toNat_natCast]; omega⟩
        · simp only [L50_2, L50_2c, h1, decide_true, cond_true, inb_nat h, Option.bind_some, List.getElem?_eq_getElem h, e, cond_false, e3]
        · by_cases hji : j = i
          · subst hji; exact h32
          · exact hj j hj2 (by omega)
      · have e : ((ls[i].length : Int) != 32) = true := by rw [bne_iff_ne]; omega
        refine .inr ⟨.inr false, ?_, .inr ⟨rfl, i, h, h32⟩⟩
        simp only [L50_2, L50_2c, h1, decide_true, cond_true, inb_nat h, Option.bind_some, List.getElem?_eq_getElem h, e]
    · have h1 : ¬ (((i : Nat) : Int) < (ls.length : Int)) := by omega
      refine .inr ⟨.inl (), ?_, .inl ⟨rfl, fun j h2 => hj j h2 (by omega)⟩⟩
      simp only [L50_2, L50_2c, h1, decide_false, cond_false]) F (0 : Int) ⟨0, rfl, by omega, fun j _ h => absurd h (by omega)⟩ (by simp only [Int.toNat_zero]; omega)

theorem t52 (F : Nat) (p0 p1 p2 p3 p4 : List UInt8) : T52 F p0 p1 p2 p3 p4 = some (((p0.length : Int) == 32) && (((p1.length : Int) == 32) && (((p2.length : Int) == 32) && (((p3.length : Int) == 32) && ((p4.length : Int) == 32))))) := by
  simp only [T52, T52c]
  cases ((p0.length : Int) == 32) <;> cases ((p1.length : Int) == 32) <;> cases ((p2.length : Int) == 32) <;> cases ((p3.length : Int) == 32) <;> rfl

theorem valid {F : Nat} (hF : 50 < F) (p0 p1 p2 p3 p4 : List UInt8) : (T50 F p0 p1 p2 p3 p4 = some true ∧ T52 F p0 p1 p2 p3 p4 = some true ∧ p0.length = 32 ∧ p1.length = 32 ∧ p2.length = 32) ∨ (T50 F p0 p1 p2 p3 p4 = some false ∧ T52 F p0 p1 p2 p3 p4 = some false ∧ ¬ (p0.length = 32 ∧ p1.length = 32 ∧ p2.length = 32 ∧ p3.length = 32 ∧ p4.length = 32)) := by
  obtain ⟨r, h1, h2⟩ := lp50 hF [p0, p1, p2, p3, p4] (by simp)
  rw [t52]
  rcases h2 with ⟨rfl, h⟩ | ⟨rfl, j, hj, h⟩
  · left
    have a0 : p0.length = 32 := h 0 (by simp)
    have a1 : p1.length = 32 := h 1 (by simp)
    have a2 : p2.length = 32 := h 2 (by simp)
    have a3 : p3.length = 32 := h 3 (by simp)
    have a4 : p4.length = 32 := h 4 (by simp)
    refine ⟨?_, by rw [a0, a1, a2, a3, a4]; rfl, a0, a1, a2⟩
    simp only [T50, T50c, h1, Option.bind_some, elimS]
  · right
    have hn : ¬ (p0.length = 32 ∧ p1.length = 32 ∧ p2.length = 32 ∧ p3.length = 32 ∧ p4.length = 32) := by
      rintro ⟨a0, a1, a2, a3, a4⟩
      simp only [List.length_cons, List.length_nil] at hj
      match j, hj with
      | 0, _ => exact h a0
      | 1, _ => exact h a1
      | 2, _ => exact h a2
      | 3, _ => exact h a3
      | 4, _ => exact h a4
    refine ⟨?_, ?_, hn⟩
    · simp only [T50, T50c, h1, Option.bind_some, elimS]
    · rw [Option.some.injEq, Bool.eq_false_iff]
      intro ht
      simp only [Bool.and_eq_true, beq_iff_eq] at ht
      exact hn ⟨by omega, by omega, by omega, by omega, by omega⟩

/-- Names. -/
theorem name_eq {F : Nat} (hF : 45000 < F) (p0 p1 p2 p3 p4 : List UInt8) (g : Int) (c : List UInt8) : ∃ n e, T23 F p0 p1 p2 p3 p4 g c = some (n, e) ∧ T24 F p0 p1 p2 p3 p4 g c = some (n, e) ∧
    ((T50 F p0 p1 p2 p3 p4 = some true ∧ 0 ≤ g ∧ c.length ≤ 32768 ∧ e = 0 ∧ n.length = 32) ∨ ((T50 F p0 p1 p2 p3 p4 = some false ∨ g < 0 ∨ 32768 < c.length) ∧ e ≠ 0 ∧ n = [])) := by
  rcases valid (F := F) (by omega) p0 p1 p2 p3 p4 with ⟨v1, v2, k0, k1, k2⟩ | ⟨v1, v2, hv⟩
  · by_cases hg : g < 0
    · refine ⟨[], 1, ?_, ?_, .inr ⟨.inr (.inl hg), by decide, rfl⟩⟩
      · simp only [T23, T23c, v1, Option.bind_some, Bool.not_true, cond_false, hg, decide_true, cond_true]
      · simp only [T24, T24c, v2, Option.bind_some, Bool.not_true, cond_false, hg, decide_true, cond_true]
    · by_cases hc : c.length ≤ 32768
      · have d : ¬ ((32768 : Int) < (c.length : Int)) := by omega
        have el := encN_len 9 (UInt64.ofInt g).toNat
        have el2 : (enc (UInt64.ofInt g).toNat).length ≤ 10 := by simpa [enc] using el.1
        have ga : gapp (enc (UInt64.ofInt g).toNat) c = some (enc (UInt64.ofInt g).toNat ++ c) := gapp_ok (by omega)
        obtain ⟨t, t1, t2, t3⟩ := tag_eq (F := F) (k := p0) (d := enc (UInt64.ofInt g).toNat ++ c) (by rw [List.length_append]; omega) (by omega) (by rw [List.length_append]; omega)
        refine ⟨t, 0, ?_, ?_, .inl ⟨v1, by omega, hc, rfl, t3⟩⟩
        · simp only [T23, T23c, v1, Option.bind_some, Bool.not_true, cond_false, hg, d, decide_false, t44 (show 50 < F by omega), ga, t1]
        · simp only [T24, T24c, v2, Option.bind_some, Bool.not_true, cond_false, hg, d, decide_false, t45' (show 50 < F by omega), ga, t2]
      · have d : ((32768 : Int) < (c.length : Int)) := by omega
        refine ⟨[], 2, ?_, ?_, .inr ⟨.inr (.inr (by omega)), by decide, rfl⟩⟩
        · simp only [T23, T23c, v1, Option.bind_some, Bool.not_true, cond_false, hg, d, decide_false, decide_true, cond_true]
        · simp only [T24, T24c, v2, Option.bind_some, Bool.not_true, cond_false, hg, d, decide_false, decide_true, cond_true]
  · refine ⟨[], 1, ?_, ?_, .inr ⟨.inl v1, by decide, rfl⟩⟩
    · simp only [T23, T23c, v1, Option.bind_some, Bool.not_false, cond_true]
    · simp only [T24, T24c, v2, Option.bind_some, Bool.not_false, cond_true]

/-- Checks. -/
theorem check_eq {F : Nat} (hF : 45000 < F) (p0 p1 p2 p3 p4 : List UInt8) (c : List UInt8) : ∃ k e, T25 F p0 p1 p2 p3 p4 c = some (e, k) ∧ T26 F p0 p1 p2 p3 p4 c = some (k, e) ∧
    ((T50 F p0 p1 p2 p3 p4 = some true ∧ c.length ≤ 32768 ∧ e = 0 ∧ k.length = 16) ∨ (e ≠ 0 ∧ k = [])) := by
  rcases valid (F := F) (by omega) p0 p1 p2 p3 p4 with ⟨v1, v2, k0, k1, k2⟩ | ⟨v1, v2, hv⟩
  · by_cases hc : c.length ≤ 32768
    · have d : ¬ ((32768 : Int) < (c.length : Int)) := by omega
      obtain ⟨t, t1, t2, t3⟩ := tag_eq (F := F) (k := p2) (d := c) (by omega) (by omega) (by omega)
      have g1 : gsl t (0 : Int) (16 : Int) = some (t.take 16) := gsl_nat (a := 0) (b := 16) (by omega) (by omega)
      have g2 : gstr (t.take 16) = some (t.take 16) := by unfold gstr; rw [if_pos (by simp; omega)]
      have g3 : gstr t = some t := by unfold gstr; rw [if_pos (by omega)]
      have g4 : gslb t.length (0 : Int) (16 : Int) = some (0, 16) := gslb_nat (a := 0) (b := 16) (by omega) (by omega)
      refine ⟨t.take 16, 0, ?_, ?_, .inl ⟨v1, hc, rfl, by simp; omega⟩⟩
      · simp only [T25, T25c, v1, Option.bind_some, Bool.not_true, cond_false, d, decide_false, t1, g1, g2]
      · simp only [T26, T26c, v2, Option.bind_some, Bool.not_true, cond_false, d, decide_false, t2, g3, g4, List.drop_zero, Nat.sub_zero]
    · have d : ((32768 : Int) < (c.length : Int)) := by omega
      refine ⟨[], 2, ?_, ?_, .inr ⟨by decide, rfl⟩⟩
      · simp only [T25, T25c, v1, Option.bind_some, Bool.not_true, cond_false, d, decide_true, cond_true]
      · simp only [T26, T26c, v2, Option.bind_some, Bool.not_true, cond_false, d, decide_true, cond_true]
  · refine ⟨[], 1, ?_, ?_, .inr ⟨by decide, rfl⟩⟩
    · simp only [T25, T25c, v1, Option.bind_some, Bool.not_false, cond_true]
    · simp only [T26, T26c, v2, Option.bind_some, Bool.not_false, cond_true]

/-- Streams of names. -/
theorem strm_eq {F : Nat} (hF : 45000 < F) (p0 p1 p2 p3 p4 nm : List UInt8) (n : Int) (hn : n ≤ 41000 ∨ 65536 < n) : ∃ s e, T27 F p0 p1 p2 p3 p4 nm n = some (e, s) ∧ T28 F p0 p1 p2 p3 p4 nm n = some (e, s) ∧
    (T50 F p0 p1 p2 p3 p4 = some true → nm.length = 32 → 0 ≤ n → n ≤ 41000 → e = 0 ∧ s.length = n.toNat) ∧ (s = [] ∨ (s.length : Int) = n) := by
  rcases valid (F := F) (by omega) p0 p1 p2 p3 p4 with ⟨v1, v2, k0, k1, k2⟩ | ⟨v1, v2, hv⟩
  · by_cases hm : nm.length = 32
    · have d0 : ((nm.length : Int) != 32) = false := by rw [hm]; rfl
      by_cases h0 : n < 0
      · refine ⟨[], 1, ?_, ?_, fun _ _ h => absurd h (by omega), .inl rfl⟩
        · simp only [T27, T27c, v1, Option.bind_some, Bool.not_true, cond_false, d0, h0, decide_true, cond_true]
        · simp only [T28, T28c, v2, Option.bind_some, Bool.not_true, cond_false, d0, h0, decide_true, cond_true]
      · by_cases h1 : 65536 < n
        · refine ⟨[], 2, ?_, ?_, fun _ _ _ h => absurd h (by omega), .inl rfl⟩
          · simp only [T27, T27c, v1, Option.bind_some, Bool.not_true, cond_false, d0, h0, h1, decide_false, decide_true, cond_true]
          · simp only [T28, T28c, v2, Option.bind_some, Bool.not_true, cond_false, d0, h0, h1, decide_false, decide_true, cond_true]
        · obtain ⟨N, rfl⟩ : ∃ N : Nat, n = (N : Int) := ⟨n.toNat, by omega⟩
          have g1 : gsl nm (0 : Int) (12 : Int) = some (nm.take 12) := gsl_nat (a := 0) (b := 12) (by omega) (by omega)
          obtain ⟨s, s1, s2, s3⟩ := stream_eq (F := F) (k := p1) (n := nm.take 12) (N := N) (by omega) (by omega) k1 (by simp; omega)
          refine ⟨s, 0, ?_, ?_, fun _ _ _ _ => ⟨rfl, by omega⟩, .inr (by omega)⟩
          · simp only [T27, T27c, v1, Option.bind_some, Bool.not_true, cond_false, d0, h0, h1, decide_false, g1, s1]
          · simp only [T28, T28c, v2, Option.bind_some, Bool.not_true, cond_false, d0, h0, h1, decide_false, g1, s2]
    · have d0 : ((nm.length : Int) != 32) = true := by rw [bne_iff_ne]; omega
      refine ⟨[], 1, ?_, ?_, fun _ h => absurd h hm, .inl rfl⟩
      · simp only [T27, T27c, v1, Option.bind_some, Bool.not_true, cond_false, d0, cond_true]
      · simp only [T28, T28c, v2, Option.bind_some, Bool.not_true, cond_false, d0, cond_true]
  · refine ⟨[], 1, ?_, ?_, fun h => absurd (v1.symm.trans h) (by simp), .inl rfl⟩
    · simp only [T27, T27c, v1, Option.bind_some, Bool.not_false, cond_true]
    · simp only [T28, T28c, v2, Option.bind_some, Bool.not_false, cond_true]

theorem t22 (F : Nat) (p0 p1 p2 p3 p4 : List UInt8) : ∃ b, T22 F p0 p1 p2 p3 p4 = some b := ⟨_, rfl⟩

theorem law6 {F : Nat} (hF : 45000 < F) (ha : T16 F = some true) (p0 p1 p2 p3 p4 : List UInt8) (g : Int) (c nm : List UInt8) (n : Int) : T6 F p0 p1 p2 p3 p4 g c nm n = some true := by
  obtain ⟨a, e, a1, a2, _⟩ := name_eq hF p0 p1 p2 p3 p4 g c
  obtain ⟨b, f, b1, b2, _⟩ := check_eq hF p0 p1 p2 p3 p4 c
  obtain ⟨q, hq⟩ := t22 F p0 p1 p2 p3 p4
  simp only [T6, T6c, ha, Option.bind_some, Bool.not_true, cond_false, t17 (show 50 < F by omega) [c] (by simp)]
  cases ([c].all fun x => decide (x.length ≤ 400)) with
  | false => rfl
  | true =>
    simp only [Bool.not_true, cond_false]
    cases decide ((100 : Int) < (nm.length : Int)) with
    | true => rfl
    | false =>
      simp only [cond_false]
      by_cases h1 : 400 < n
      · simp only [h1, decide_true, cond_true]
        by_cases h2 : n ≤ 65536
        · simp only [h2, decide_true, cond_true]
        · obtain ⟨s, k, s1, s2, _⟩ := strm_eq hF p0 p1 p2 p3 p4 nm n (.inr (by omega))
          simp only [h2, decide_false, cond_false, hq, Option.bind_some]
          cases q with
          | false => rfl
          | true => simp only [Bool.not_true, cond_false, a1, a2, b1, b2, s1, s2, Option.bind_some, beq_self_eq_true, cond_true]
      · obtain ⟨s, k, s1, s2, _⟩ := strm_eq hF p0 p1 p2 p3 p4 nm n (.inl (by omega))
        simp only [h1, decide_false, cond_false, hq, Option.bind_some]
        cases q with
        | false => rfl
        | true => simp only [Bool.not_true, cond_false, a1, a2, b1, b2, s1, s2, Option.bind_some, beq_self_eq_true, cond_true]
theorem plaw6 (p0 p1 p2 p3 p4 : List UInt8) (g : Int) (c nm : List UInt8) (n : Int) (_ : p0.length ≤ maxLen) (_ : p1.length ≤ maxLen) (_ : p2.length ≤ maxLen) (_ : p3.length ≤ maxLen) (_ : p4.length ≤ maxLen) (_ : -9223372036854775808 ≤ g ∧ g ≤ 9223372036854775807) (_ : c.length ≤ maxLen) (_ : nm.length ≤ maxLen) (_ : -9223372036854775808 ≤ n ∧ n ≤ 9223372036854775807) : T6 50000 p0 p1 p2 p3 p4 g c nm n = some true := law6 (by omega) awake50k p0 p1 p2 p3 p4 g c nm n

/-- Sealed blocks. -/
theorem seal_eq {F : Nat} (hF : 45000 < F) (p0 p1 p2 p3 p4 : List UInt8) (g : Int) (c : List UInt8) : ∃ r, T29 F p0 p1 p2 p3 p4 g c = some r ∧ T30 F p0 p1 p2 p3 p4 g c = some r := by
  obtain ⟨a, e, a1, a2, a3⟩ := name_eq hF p0 p1 p2 p3 p4 g c
  rcases a3 with ⟨v, hg, hc, rfl, hl⟩ | ⟨_, he, rfl⟩
  · have d : ((0 : Int) != 0) = false := by decide
    obtain ⟨b, f, b1, b2, _⟩ := check_eq hF p0 p1 p2 p3 p4 c
    obtain ⟨r, c1, c2⟩ := class_eq (F := F) (by omega) (c.length : Int)
    obtain ⟨j, hj, c3, _⟩ := class_spec (F := F) (by omega) (n := (c.length : Int)) (by omega) (by omega)
    have hb := cls_b ⟨j, hj⟩
    simp only at hb
    have hr : r = (cls j, 0) := Option.some.inj (c1.symm.trans c3)
    subst hr
    obtain ⟨s, k, s1, s2, _⟩ := strm_eq hF p0 p1 p2 p3 p4 a (cls j) (.inl (by omega))
    obtain ⟨q, q1, q2, _⟩ := sealWith_eq (F := F) (by omega) s b c
    refine ⟨(a, g, (c.length : Int), 0, q.2), ?_, ?_⟩
    · simp only [T29, T29c, a1, Option.bind_some, d, cond_false, b1, c1, s1, q1]
    · simp only [T30, T30c, a2, Option.bind_some, d, cond_false, b2, c2, s2, q2]
  · have d : (e != 0) = true := by rw [bne_iff_ne]; exact he
    refine ⟨([], 0, 0, e, []), ?_, ?_⟩
    · simp only [T29, T29c, a1, Option.bind_some, d, cond_true]
    · simp only [T30, T30c, a2, Option.bind_some, d, cond_true]

theorem law7 {F : Nat} (hF : 45000 < F) (ha : T16 F = some true) (p0 p1 p2 p3 p4 : List UInt8) (g : Int) (c : List UInt8) : T7 F p0 p1 p2 p3 p4 g c = some true := by
  obtain ⟨r, r1, r2⟩ := seal_eq hF p0 p1 p2 p3 p4 g c
  obtain ⟨q, hq⟩ := t22 F p0 p1 p2 p3 p4
  simp only [T7, T7c, ha, Option.bind_some, Bool.not_true, cond_false, t17 (show 50 < F by omega) [c] (by simp)]
  cases ([c].all fun x => decide (x.length ≤ 400)) with
  | false => rfl
  | true =>
    simp only [Bool.not_true, cond_false, hq, Option.bind_some]
    cases q with
    | false => rfl
    | true => simp only [Bool.not_true, cond_false, r1, r2, Option.bind_some, beq_self_eq_true, Bool.and_self, cond_true]
theorem plaw7 (p0 p1 p2 p3 p4 : List UInt8) (g : Int) (c : List UInt8) (_ : p0.length ≤ maxLen) (_ : p1.length ≤ maxLen) (_ : p2.length ≤ maxLen) (_ : p3.length ≤ maxLen) (_ : p4.length ≤ maxLen) (_ : -9223372036854775808 ≤ g ∧ g ≤ 9223372036854775807) (_ : c.length ≤ maxLen) : T7 50000 p0 p1 p2 p3 p4 g c = some true := law7 (by omega) awake50k p0 p1 p2 p3 p4 g c

theorem bne_sym (a b : List UInt8) : (a != b) = (b != a) := by
  rw [Bool.eq_iff_iff, bne_iff_ne, bne_iff_ne]; exact ⟨Ne.symm, Ne.symm⟩

/-- Opening. -/
theorem open_eq {F : Nat} (hF : 45000 < F) (p0 p1 p2 p3 p4 nm : List UInt8) (g z : Int) (x : List UInt8) (hx : x.length ≤ 400) : ∃ r, T32 F p0 p1 p2 p3 p4 nm g z x = some r ∧ T33 F p0 p1 p2 p3 p4 nm g z x = some r := by
  obtain ⟨⟨D, e⟩, c1, c2⟩ := class_eq (F := F) (by omega) z
  have ev : ∃ v, T50 F p0 p1 p2 p3 p4 = some v ∧ T52 F p0 p1 p2 p3 p4 = some v := by
    rcases valid (F := F) (by omega) p0 p1 p2 p3 p4 with ⟨v1, v2, _⟩ | ⟨v1, v2, hv⟩
    · exact ⟨_, v1, v2⟩
    · exact ⟨_, v1, v2⟩
  obtain ⟨v, v1, v2⟩ := ev
  simp only [T32, T32c, T33, T33c, c1, c2, v1, v2, Option.bind_some]
  cases v with
  | false => exact ⟨_, rfl, rfl⟩
  | true =>
    simp only [Bool.not_true, cond_false]
    cases ((nm.length : Int) != 32) with
    | true => exact ⟨_, rfl, rfl⟩
    | false =>
      simp only [cond_false]
      cases decide (g < 0) with
      | true => exact ⟨_, rfl, rfl⟩
      | false =>
        simp only [cond_false]
        cases (e != 0) with
        | true => exact ⟨_, rfl, rfl⟩
        | false =>
          simp only [cond_false]
          by_cases hD : (x.length : Int) = D
          · have d : ((x.length : Int) != D) = false := by rw [hD]; exact bne_self_eq_false D
            simp only [d, cond_false]
            obtain ⟨s, k, s1, s2, _, s4⟩ := strm_eq hF p0 p1 p2 p3 p4 nm D (.inl (by omega))
            have hs : s.length < 40000 := by
              rcases s4 with rfl | h
              · simp
              · omega
            obtain ⟨c, e', k', o1, o2⟩ := openWith_eq (F := F) (by omega) s x hs
            simp only [s1, s2, o1, o2, Option.bind_some]
            cases (e' != 0) with
            | true => exact ⟨_, rfl, rfl⟩
            | false =>
              simp only [cond_false]
              cases ((c.length : Int) != z) with
              | true => exact ⟨_, rfl, rfl⟩
              | false =>
                simp only [cond_false]
                obtain ⟨b, f, b1, b2, _⟩ := check_eq hF p0 p1 p2 p3 p4 c
                obtain ⟨a, h, a1, a2, _⟩ := name_eq hF p0 p1 p2 p3 p4 g c
                simp only [b1, b2, a1, a2, Option.bind_some, bne_sym b k']
                cases (k' != b) with
                | true => exact ⟨_, rfl, rfl⟩
                | false =>
                  simp only [cond_false]
                  cases (a != nm) with
                  | true => exact ⟨_, rfl, rfl⟩
                  | false => exact ⟨_, rfl, rfl⟩
          · have d : ((x.length : Int) != D) = true := by rw [bne_iff_ne]; exact hD
            simp only [d, cond_true]
            exact ⟨_, rfl, rfl⟩

theorem law10 {F : Nat} (hF : 45000 < F) (ha : T16 F = some true) (p0 p1 p2 p3 p4 nm : List UInt8) (g z : Int) (x : List UInt8) : T10 F p0 p1 p2 p3 p4 nm g z x = some true := by
  obtain ⟨q, hq⟩ := t22 F p0 p1 p2 p3 p4
  simp only [T10, T10c, ha, Option.bind_some, Bool.not_true, cond_false, t17 (show 50 < F by omega) [x] (by simp)]
  cases hs : ([x].all fun x => decide (x.length ≤ 400)) with
  | false => rfl
  | true =>
    simp only [List.all_cons, List.all_nil, Bool.and_true, decide_eq_true_eq] at hs
    obtain ⟨r, r1, r2⟩ := open_eq hF p0 p1 p2 p3 p4 nm g z x hs
    simp only [Bool.not_true, cond_false, hq, Option.bind_some]
    cases q with
    | false => rfl
    | true =>
      simp only [Bool.not_true, cond_false]
      cases decide ((100 : Int) < (nm.length : Int)) with
      | true => rfl
      | false => simp only [cond_false, r1, r2, Option.bind_some, beq_self_eq_true, cond_true]
theorem plaw10 (p0 p1 p2 p3 p4 nm : List UInt8) (g z : Int) (x : List UInt8) (_ : p0.length ≤ maxLen) (_ : p1.length ≤ maxLen) (_ : p2.length ≤ maxLen) (_ : p3.length ≤ maxLen) (_ : p4.length ≤ maxLen) (_ : nm.length ≤ maxLen) (_ : -9223372036854775808 ≤ g ∧ g ≤ 9223372036854775807) (_ : -9223372036854775808 ≤ z ∧ z ≤ 9223372036854775807) (_ : x.length ≤ maxLen) : T10 50000 p0 p1 p2 p3 p4 nm g z x = some true := law10 (by omega) awake50k p0 p1 p2 p3 p4 nm g z x

/-- What Seal gives. -/
theorem seal_spec {F : Nat} (hF : 45000 < F) {p0 p1 p2 p3 p4 : List UInt8} (hv : T50 F p0 p1 p2 p3 p4 = some true) {g : Int} (hg : 0 ≤ g) {c : List UInt8} (hc : c.length ≤ 400) : ∃ nm k st b, T23 F p0 p1 p2 p3 p4 g c = some (nm, 0) ∧ nm.length = 32 ∧ T25 F p0 p1 p2 p3 p4 c = some (0, k) ∧
    T27 F p0 p1 p2 p3 p4 nm (b.length : Int) = some (0, st) ∧ st.length = b.length ∧ IsBody F b c k ∧ b.length < 1000 ∧ T29 F p0 p1 p2 p3 p4 g c = some (nm, g, (c.length : Int), 0, xorL b st) := by
  obtain ⟨nm, e, a1, a2, a3⟩ := name_eq hF p0 p1 p2 p3 p4 g c
  rcases a3 with ⟨_, _, _, rfl, hl⟩ | ⟨h, _, _⟩
  · obtain ⟨k, f, b1, b2, b3⟩ := check_eq hF p0 p1 p2 p3 p4 c
    rcases b3 with ⟨_, _, rfl, hk⟩ | ⟨hf, _⟩
    · obtain ⟨j, hj, c3, c4, c5⟩ := class_spec (F := F) (by omega) (n := (c.length : Int)) (by omega) (by omega)
      have hb := cls_b ⟨j, hj⟩
      simp only at hb
      have hsz := sz_bd (c.length : Int).toNat
      have h1000 : cls j < 1000 := by
        rcases c5 with rfl | h
        · decide
        · have : ∀ j : Fin 38, j.val ≤ 13 ∨ 500 ≤ cls (j.val - 1) := by decide +kernel
          have h13 : ∀ j : Fin 38, j.val ≤ 13 → cls j.val < 1000 := by decide +kernel
          rcases this ⟨j, hj⟩ with h' | h'
          · exact h13 ⟨j, hj⟩ h'
          · simp only at h'; omega
      obtain ⟨s, k', s1, s2, s3, _⟩ := strm_eq hF p0 p1 p2 p3 p4 nm (cls j) (.inl (by omega))
      obtain ⟨rfl, hs⟩ := s3 hv hl (by omega) (by omega)
      obtain ⟨q1, q2⟩ := t34 (F := F) (by omega) (s := s) (k := k) (c := c) (by omega) hk hj c3 hs
      have d : ((0 : Int) != 0) = false := by decide
      refine ⟨nm, k, s, bodyL (cls j).toNat c k, a1, hl, b1, ?_, by omega, ⟨by omega, hk, ?_, by rw [q2]⟩, by omega, ?_⟩
      · rw [q2, Int.toNat_of_nonneg (by omega)]; exact s1
      · rw [q2, Int.toNat_of_nonneg (by omega)]; exact c3
      · simp only [T29, T29c, a1, Option.bind_some, d, cond_false, b1, c3, s1, q1]
    · exfalso
      rcases valid (F := F) (by omega) p0 p1 p2 p3 p4 with ⟨v1, v2, k0, k1, k2⟩ | ⟨v1, v2, hv'⟩
      · have dd : ¬ ((32768 : Int) < (c.length : Int)) := by omega
        obtain ⟨t, t1, t2, t3⟩ := tag_eq (F := F) (k := p2) (d := c) (by omega) (by omega) (by omega)
        have g1 : gsl t (0 : Int) (16 : Int) = some (t.take 16) := gsl_nat (a := 0) (b := 16) (by omega) (by omega)
        have g2 : gstr (t.take 16) = some (t.take 16) := by unfold gstr; rw [if_pos (by simp; omega)]
        have : T25 F p0 p1 p2 p3 p4 c = some (0, t.take 16) := by simp only [T25, T25c, v1, Option.bind_some, Bool.not_true, cond_false, dd, decide_false, t1, g1, g2]
        rw [b1] at this
        cases this
        exact hf rfl
      · rw [hv] at v1; cases v1
  · exfalso
    rcases h with h | h | h
    · rw [hv] at h; cases h
    · omega
    · omega

/-- What Open gives, for fitting arguments. -/
theorem open_spec {F : Nat} (hF : 45000 < F) {p0 p1 p2 p3 p4 nm : List UInt8} (hv : T50 F p0 p1 p2 p3 p4 = some true) (hn : nm.length = 32) {g z : Int} (hg : 0 ≤ g) {x : List UInt8} (hx : x.length < 1000) (h14 : T14 F z = some ((x.length : Int), 0)) :
    ∃ st c e k b nm', T27 F p0 p1 p2 p3 p4 nm (x.length : Int) = some (0, st) ∧ st.length = x.length ∧ T37 F st x = some (c, e, k) ∧ (∃ f, T25 F p0 p1 p2 p3 p4 c = some (f, b)) ∧ (∃ f, T23 F p0 p1 p2 p3 p4 g c = some (nm', f)) ∧
      ((e = 0 ∧ (c.length : Int) = z ∧ k = b ∧ nm' = nm ∧ T32 F p0 p1 p2 p3 p4 nm g z x = some (c, 0)) ∨ (¬ (e = 0 ∧ (c.length : Int) = z ∧ k = b ∧ nm' = nm) ∧ T32 F p0 p1 p2 p3 p4 nm g z x = some ([], 9))) := by
  obtain ⟨s, k', s1, s2, s3, _⟩ := strm_eq hF p0 p1 p2 p3 p4 nm (x.length : Int) (.inl (by omega))
  obtain ⟨rfl, hs⟩ := s3 hv hn (by omega) (by omega)
  obtain ⟨c, e, k, o1, o2⟩ := openWith_eq (F := F) (by omega) s x (by omega)
  obtain ⟨b, f, b1, b2, _⟩ := check_eq hF p0 p1 p2 p3 p4 c
  obtain ⟨a, h, a1, a2, _⟩ := name_eq hF p0 p1 p2 p3 p4 g c
  refine ⟨s, c, e, k, b, a, s1, by omega, o1, ⟨f, b1⟩, ⟨h, a1⟩, ?_⟩
  have d1 : ((nm.length : Int) != 32) = false := by rw [hn]; rfl
  have d2 : ¬ g < 0 := by omega
  have d3 : ((0 : Int) != 0) = false := by decide
  have d4 : ((x.length : Int) != (x.length : Int)) = false := bne_self_eq_false _
  by_cases q : e = 0 ∧ (c.length : Int) = z ∧ k = b ∧ a = nm
  · left
    obtain ⟨rfl, q2, rfl, rfl⟩ := q
    have d5 : ((c.length : Int) != z) = false := by rw [q2]; exact bne_self_eq_false _
    refine ⟨rfl, q2, rfl, rfl, ?_⟩
    simp only [T32, T32c, h14, hv, Option.bind_some, Bool.not_true, cond_false, d1, d2, decide_false, d3, d4, s1, o1, d5, b1, a1, bne_self_eq_false]
  · right
    refine ⟨q, ?_⟩
    simp only [T32, T32c, h14, hv, Option.bind_some, Bool.not_true, cond_false, d1, d2, decide_false, d3, d4, s1, o1]
    by_cases q1 : e = 0
    · have f1 : (e != 0) = false := by rw [q1]; rfl
      by_cases q2 : (c.length : Int) = z
      · have f2 : ((c.length : Int) != z) = false := by rw [q2]; exact bne_self_eq_false _
        simp only [f1, f2, cond_false, b1, a1, Option.bind_some]
        by_cases q3 : k = b
        · have f3 : (k != b) = false := by rw [q3]; exact bne_self_eq_false _
          have f4 : (a != nm) = true := by rw [bne_iff_ne]; exact fun h => q ⟨q1, q2, q3, h⟩
          simp only [f3, f4, cond_false, cond_true]
        · have f3 : (k != b) = true := by rw [bne_iff_ne]; exact q3
          simp only [f3, cond_true]
      · have f2 : ((c.length : Int) != z) = true := by rw [bne_iff_ne]; exact q2
        simp only [f1, f2, cond_false, cond_true]
    · have f1 : (e != 0) = true := by rw [bne_iff_ne]; exact q1
      simp only [f1, cond_true]

/-- A sealed block opens to its body. -/
theorem open_body {F : Nat} (hF : 45000 < F) {b st c k : List UInt8} (hb : b.length < 1000) (hs : st.length = b.length) (hB : IsBody F b c k) : T37 F st (xorL b st) = some (c, 0, k) := by
  have hl : (xorL b st).length = b.length := xorL_len hs.symm
  have h57 := t57 (F := F) (a := xorL b st) (b := st) (by omega) (by omega) (by omega)
  have hx : xorL (xorL b st) st = b := by rw [xorL_comm, xorL_comm b st, xorL_cancel hs]
  rw [hx] at h57
  have e0 : ((0 : Int) != 0) = false := by decide
  rcases content_eq (F := F) (by omega) b (by omega) with ⟨c', k', h1, h2, h3⟩ | ⟨h1, _⟩
  · obtain ⟨rfl, rfl⟩ := isBody_uniq (by omega) h1 hB
    simp only [T37, T37c, h57, Option.bind_some, e0, cond_false, h2]
  · exact absurd hB (h1 c k)

theorem keys_ok {F : Nat} (hF : 50 < F) (x : UInt8) : ∃ k1 k2 k3 k4 k5, T31 F x = some (k1, k2, k3, k4, k5) ∧ T50 F k1 k2 k3 k4 k5 = some true := by
  have h56 : ∀ a : UInt8, ∃ k : List UInt8, T56 F a x = some k ∧ k.length = 32 := by
    intro a
    have g : gmake (0 : UInt8) (32 : Int) (32 : Int) = some (List.replicate 32 0) := by unfold gmake; rw [if_pos (by omega)]; rfl
    have i0 : inb (List.replicate 32 (0 : UInt8)).length (0 : Int) = some 0 := by rw [List.length_replicate]; decide
    have i1 : inb ((List.replicate 32 (0 : UInt8)).set 0 x).length (1 : Int) = some 1 := by rw [List.length_set, List.length_replicate]; decide
    refine ⟨((List.replicate 32 (0 : UInt8)).set 0 x).set 1 a, ?_, by rw [List.length_set, List.length_set, List.length_replicate]⟩
    simp only [T56, T56c, g, Option.bind_some, i0, i1]
  obtain ⟨k1, a1, l1⟩ := h56 (UInt8.ofNat 1)
  obtain ⟨k2, a2, l2⟩ := h56 (UInt8.ofNat 2)
  obtain ⟨k3, a3, l3⟩ := h56 (UInt8.ofNat 3)
  obtain ⟨k4, a4, l4⟩ := h56 (UInt8.ofNat 4)
  obtain ⟨k5, a5, l5⟩ := h56 (UInt8.ofNat 5)
  refine ⟨k1, k2, k3, k4, k5, ?_, ?_⟩
  · simp only [T31, T31c, a1, a2, a3, a4, a5, Option.bind_some]
  · rcases valid hF k1 k2 k3 k4 k5 with ⟨v, _⟩ | ⟨_, _, h⟩
    · exact v
    · exact absurd ⟨l1, l2, l3, l4, l5⟩ h

theorem law8 {F : Nat} (hF : 45000 < F) (ha : T16 F = some true) (x y : UInt8) (g : Int) (c : List UInt8) : T8 F x y g c = some true := by
  simp only [T8, T8c, ha, Option.bind_some, Bool.not_true, cond_false, t17 (show 50 < F by omega) [c] (by simp)]
  cases hs : ([c].all fun x => decide (x.length ≤ 400)) with
  | false => rfl
  | true =>
    simp only [List.all_cons, List.all_nil, Bool.and_true, decide_eq_true_eq] at hs
    simp only [Bool.not_true, cond_false]
    by_cases hg : g < 0
    · simp only [hg, decide_true, cond_true]
    · by_cases hg2 : 1099511627776 < g
      · simp only [hg, hg2, decide_false, cond_false, decide_true, cond_true]
      · simp only [hg, hg2, decide_false, cond_false]
        obtain ⟨k1, k2, k3, k4, k5, kx, vx⟩ := keys_ok (F := F) (by omega) x
        obtain ⟨m1, m2, m3, m4, m5, ky, vy⟩ := keys_ok (F := F) (by omega) y
        obtain ⟨nm, k, st, b, a1, a2, a3, a4, a5, a6, a7, a8⟩ := seal_spec hF vx (g := g) (by omega) hs
        have hxl : (xorL b st).length = b.length := xorL_len a5.symm
        have h14 := a6.2.2.1
        have w1 : w64 (g + 1) = g + 1 := w64_in (by omega) (by omega)
        have w2 : w64 (g + 1 - 1) = g := by rw [show g + 1 - 1 = g by omega]; exact w64_in (by omega) (by omega)
        have w3 : w64 ((c.length : Int) + 1) = (c.length : Int) + 1 := w64_in (by omega) (by omega)
        have w4 : w64 ((c.length : Int) + 1 - 1) = (c.length : Int) := by rw [show (c.length : Int) + 1 - 1 = (c.length : Int) by omega]; exact w64_in (by omega) (by omega)
        have hob := open_body hF a7 a5 a6
        -- the same keys
        obtain ⟨st1, c1, e1, r1, ch1, n1, b1, b2, b3, ⟨f1, b4⟩, ⟨f2, b5⟩, b6⟩ := open_spec hF vx a2 (g := g) (by omega) (x := xorL b st) (by omega) (z := (c.length : Int)) (by rw [hxl]; exact h14)
        rw [hxl, a4] at b1
        cases b1
        rw [hob] at b3
        cases b3
        rw [a3] at b4
        cases b4
        rw [a1] at b5
        cases b5
        have o1 : T32 F k1 k2 k3 k4 k5 nm g (c.length : Int) (xorL b st) = some (c, 0) := by
          rcases b6 with ⟨_, _, _, _, h⟩ | ⟨h, _⟩
          · exact h
          · exact absurd ⟨rfl, rfl, rfl, rfl⟩ h
        -- another generation
        obtain ⟨st2, c2, e2, r2, ch2, n2, d1, d2, d3, ⟨f3, d4⟩, ⟨f4, d5⟩, d6⟩ := open_spec hF vx a2 (g := g + 1) (by omega) (x := xorL b st) (by omega) (z := (c.length : Int)) (by rw [hxl]; exact h14)
        rw [hxl, a4] at d1
        cases d1
        rw [hob] at d3
        cases d3
        -- another size
        have o3 : ∃ e, T32 F k1 k2 k3 k4 k5 nm g ((c.length : Int) + 1) (xorL b st) = some ([], e) ∧ e ≠ 0 := by
          obtain ⟨j, hj, q1, _⟩ := class_spec (F := F) (by omega) (n := (c.length : Int) + 1) (by omega) (by omega)
          by_cases hD : cls j = ((xorL b st).length : Int)
          · obtain ⟨st3, c3, e3, r3, ch3, n3, g1, g2, g3, _, _, g6⟩ := open_spec hF vx a2 (g := g) (by omega) (x := xorL b st) (by omega) (z := (c.length : Int) + 1) (by rw [q1, hD])
            rw [hxl, a4] at g1
            cases g1
            rw [hob] at g3
            cases g3
            rcases g6 with ⟨_, h, _⟩ | ⟨_, h⟩
            · omega
            · exact ⟨9, h, by decide⟩
          · have t1 : ((nm.length : Int) != 32) = false := by rw [a2]; rfl
            have t2 : ¬ g < 0 := hg
            have t3 : ((0 : Int) != 0) = false := by decide
            have t4 : (((xorL b st).length : Int) != cls j) = true := by rw [bne_iff_ne]; exact fun h => hD h.symm
            refine ⟨1, ?_, by decide⟩
            simp only [T32, T32c, q1, vx, Option.bind_some, Bool.not_true, cond_false, t1, t2, decide_false, t3, t4, cond_true]
        obtain ⟨e3, o3, he3⟩ := o3
        have i3 : (e3 == 0) = false := by rw [beq_eq_false_iff_ne]; exact he3
        -- other keys
        obtain ⟨st4, c4, e4, r4, ch4, n4, h1, h2, h3, ⟨f5, h4⟩, ⟨f6, h5⟩, h6⟩ := open_spec hF vy a2 (g := g) (by omega) (x := xorL b st) (by omega) (z := (c.length : Int)) (by rw [hxl]; exact h14)
        have z0 : ((0 : Int) != 0) = false := by decide
        have z1 : (c != c) = false := bne_self_eq_false c
        have z2 : ((9 : Int) != 9) = false := by decide
        have z3 : ((([] : List UInt8).length : Int) != 0) = false := by decide
        have z4 : ((9 : Int) == 0) = false := by decide
        have z5 : ((([] : List UInt8).length : Int) == 0) = true := by decide
        have z6 : ((9 : Int) == 9) = true := by decide
        have z7 : ((0 : Int) == 0) = true := by decide
        simp only [kx, ky, Option.bind_some, a8, o1, z0, z1, cond_false, w1, w2, w3, w4]
        rw [d5]
        simp only [Option.bind_some]
        rcases d6 with ⟨_, _, _, rfl, d7⟩ | ⟨_, d7⟩
        · simp only [d7, Option.bind_some, bne_self_eq_false, cond_false, o3, i3, z3]
          rcases h6 with ⟨_, _, _, rfl, h7⟩ | ⟨_, h7⟩
          · simp only [h7, Option.bind_some, z7, cond_true, h5, beq_self_eq_true]
          · simp only [h7, Option.bind_some, z4, cond_false, z5, cond_true, z6]
        · simp only [d7, Option.bind_some, z2, z3, cond_false, o3, i3]
          have fin : (bif n2 != nm then (some true : Option Bool) else some true) = some true := by cases (n2 != nm) <;> rfl
          rcases h6 with ⟨_, _, _, rfl, h7⟩ | ⟨_, h7⟩
          · simp only [h7, Option.bind_some, z7, cond_true, h5, beq_self_eq_true]
            first | exact fin | (cases (n2 != n4) <;> rfl)
          · simp only [h7, Option.bind_some, z4, cond_false, z5, cond_true, z6]
            exact fin
theorem plaw8 (x y : UInt8) (g : Int) (c : List UInt8) (_ : -9223372036854775808 ≤ g ∧ g ≤ 9223372036854775807) (_ : c.length ≤ maxLen) : T8 50000 x y g c = some true := law8 (by omega) awake50k x y g c

/-- The loop that changes bytes. -/
theorem lp9 {F : Nat} (hF : 50000 ≤ F) (ch s : List UInt8) (hl : s.length < 1000) : ∃ r : Bool × List UInt8, iter (fun s : Bool × Int × List UInt8 => L9_2 F ch s.1 s.2.1 s.2.2) F (true, (0 : Int), s) = some r ∧ r.2.length = s.length ∧ ((r.1 = true ∧ r.2 = s) ∨ (r.1 = false ∧ r.2 ≠ s)) :=
  iter1 (f := fun s : Bool × Int × List UInt8 => L9_2 F ch s.1 s.2.1 s.2.2) (fun t => ∃ i : Nat, t.2.1 = i ∧ i ≤ s.length ∧ t.2.2.length = s.length ∧ (∀ j, i ≤ j → t.2.2[j]? = s[j]?) ∧ ((t.1 = true ∧ t.2.2 = s) ∨ (t.1 = false ∧ ∃ j, j < i ∧ t.2.2[j]? ≠ s[j]?))) _ (fun t => s.length - t.2.1.toNat) (by
    rintro ⟨sm, a, u⟩ ⟨i, hi, hil, hul, hu, hc⟩
    simp only at hi hul hu hc
    subst hi
    have out : (∃ r : Bool × List UInt8, L9_2 F ch sm ((i : Nat) : Int) u = some (.inr r) ∧ r = (sm, u)) → ∃ r : Bool × List UInt8, L9_2 F ch sm ((i : Nat) : Int) u = some (.inr r) ∧ r.2.length = s.length ∧ ((r.1 = true ∧ r.2 = s) ∨ (r.1 = false ∧ r.2 ≠ s)) := by
      rintro ⟨r, h1, rfl⟩
      refine ⟨_, h1, hul, ?_⟩
      rcases hc with ⟨h, h'⟩ | ⟨h, j, hj, h'⟩
      · exact .inl ⟨h, h'⟩
      · exact .inr ⟨h, fun e => h' (by simp only at e; rw [e])⟩
    by_cases h1 : i < u.length
    · have d1 : (((i : Nat) : Int) < (u.length : Int)) := by omega
      by_cases h2 : i < ch.length
      · have d2 : (((i : Nat) : Int) < (ch.length : Int)) := by omega
        have e3 : w64 (((i : Nat) : Int) + 1) = ((i + 1 : Nat) : Int) := by rw [w64_in (by omega) (by omega)]; omega
        have hus : u[i]? = s[i]? := hu i (Nat.le_refl _)
        rw [List.getElem?_eq_getElem h1] at hus
        have after : ∀ j, i + 1 ≤ j → (u.set i (u[i] ^^^ ch[i]))[j]? = s[j]? := fun j hj => by rw [List.getElem?_set_ne (by omega)]; exact hu j (by omega)
        rcases hc with ⟨rfl, hus2⟩ | ⟨rfl, j, hj, hd⟩
        · refine .inl ⟨(ch[i] == UInt8.ofNat 0, ((i + 1 : Nat) : Int), u.set i (u[i] ^^^ ch[i])), ?_, ⟨i + 1, rfl, by omega, by rw [List.length_set]; exact hul, after, ?_⟩, by simp only [Int.toNat_natCast]; omega⟩
          · simp only [L9_2, L9_2c, d1, d2, decide_true, cond_true, inb_nat h1, Option.bind_some, List.getElem?_eq_getElem h1, ix_nat h2, e3]
          · by_cases hz : ch[i] = 0
            · left
              refine ⟨by simp only [hz]; rfl, ?_⟩
              simp only [hz, UInt8.xor_zero, List.set_getElem_self]
              exact hus2
            · right
              refine ⟨by simp only [beq_eq_false_iff_ne]; exact hz, i, by omega, ?_⟩
              simp only
              rw [List.getElem?_set_self h1, ← hus]
              intro e
              have e' : u[i] ^^^ ch[i] = u[i] := Option.some.inj e
              have : u[i] ^^^ (u[i] ^^^ ch[i]) = u[i] ^^^ u[i] := by rw [e']
              rw [xor8_cancel, UInt8.xor_self] at this
              exact hz this
        · refine .inl ⟨(false, ((i + 1 : Nat) : Int), u.set i (u[i] ^^^ ch[i])), ?_, ⟨i + 1, rfl, by omega, by rw [List.length_set]; exact hul, after, .inr ⟨rfl, j, by omega, ?_⟩⟩, by simp only [Int.toNat_natCast]; omega⟩
          · simp only [L9_2, L9_2c, d1, d2, decide_true, cond_true, inb_nat h1, Option.bind_some, List.getElem?_eq_getElem h1, ix_nat h2, cond_false, e3]
          · simp only
            rw [List.getElem?_set_ne (by omega)]; exact hd
      · have d2 : ¬ (((i : Nat) : Int) < (ch.length : Int)) := by omega
        exact .inr (out ⟨(sm, u), by simp only [L9_2, L9_2c, d1, d2, decide_true, decide_false, cond_true, cond_false], rfl⟩)
    · have d1 : ¬ (((i : Nat) : Int) < (u.length : Int)) := by omega
      exact .inr (out ⟨(sm, u), by simp only [L9_2, L9_2c, d1, decide_false, cond_false], rfl⟩)) F (true, (0 : Int), s) ⟨0, rfl, by omega, rfl, fun j _ => rfl, .inl ⟨rfl, rfl⟩⟩ (by simp only [Int.toNat_zero]; omega)

theorem law9 {F : Nat} (hF : 50000 ≤ F) (ha : T16 F = some true) (x : UInt8) (g : Int) (c ch : List UInt8) : T9 F x g c ch = some true := by
  simp only [T9, T9c, ha, Option.bind_some, Bool.not_true, cond_false, t17 (show 50 < F by omega) [c, ch] (by simp)]
  cases hs : ([c, ch].all fun x => decide (x.length ≤ 400)) with
  | false => rfl
  | true =>
    simp only [List.all_cons, List.all_nil, Bool.and_true, Bool.and_eq_true, decide_eq_true_eq] at hs
    simp only [Bool.not_true, cond_false]
    by_cases hg : g < 0
    · simp only [hg, decide_true, cond_true]
    · simp only [hg, decide_false, cond_false]
      obtain ⟨k1, k2, k3, k4, k5, kx, vx⟩ := keys_ok (F := F) (by omega) x
      obtain ⟨nm, k, st, b, a1, a2, a3, a4, a5, a6, a7, a8⟩ := seal_spec (F := F) (by omega) vx (g := g) (by omega) hs.1
      have hxl : (xorL b st).length = b.length := xorL_len a5.symm
      have h14 := a6.2.2.1
      obtain ⟨⟨sm, s'⟩, l1, l2, l3⟩ := lp9 hF ch (xorL b st) (by omega)
      simp only at l2 l3
      have z0 : ((0 : Int) != 0) = false := by decide
      have z7 : ((0 : Int) == 0) = true := by decide
      have z8 : ((9 : Int) != 0) = true := by decide
      have z6 : ((9 : Int) == 9) = true := by decide
      have z5 : ((([] : List UInt8).length : Int) == 0) = true := by decide
      simp only [kx, Option.bind_some, a8, z0, cond_false, l1]
      obtain ⟨st1, c1, e1, r1, ch1, n1, b1, b2, b3, ⟨f1, b4⟩, ⟨f2, b5⟩, b6⟩ := open_spec (F := F) (by omega) vx a2 (g := g) (by omega) (x := s') (by omega) (z := (c.length : Int)) (by rw [l2, hxl]; exact h14)
      rw [l2, hxl, a4] at b1
      cases b1
      rcases l3 with ⟨rfl, rfl⟩ | ⟨rfl, hne⟩
      · have hob := open_body (F := F) (by omega) a7 a5 a6
        rw [hob] at b3
        cases b3
        rw [a3] at b4
        cases b4
        rw [a1] at b5
        cases b5
        rcases b6 with ⟨_, _, _, _, h⟩ | ⟨h, _⟩
        · simp only [h, Option.bind_some, cond_true, z7, beq_self_eq_true]
        · exact absurd ⟨rfl, rfl, rfl, rfl⟩ h
      · rcases b6 with ⟨rfl, q2, rfl, rfl, h⟩ | ⟨_, h⟩
        · have hcc : (c1 != c) = true := by
            rw [bne_iff_ne]
            rintro rfl
            rw [a3] at b4
            cases b4
            have h57 := t57 (F := F) (a := s') (b := st) (by omega) (by omega) (by omega)
            have hl2 : (xorL s' st).length = s'.length := xorL_len (by omega)
            rcases content_eq (F := F) (by omega) (xorL s' st) (by omega) with ⟨c', k', h1, h2, h3⟩ | ⟨h1, h2, h3⟩
            · have : T37 F st s' = some (c', 0, k') := by simp only [T37, T37c, h57, Option.bind_some, z0, cond_false, h2]
              rw [b3] at this
              cases this
              have e1 := isBody_t18 (F := F) (by omega) h1
              have e2 := isBody_t18 (F := F) (by omega) a6
              rw [e1] at e2
              have e3 : xorL s' st = b := by cases e2; rfl
              apply hne
              rw [← e3]
              rw [xorL_comm, xorL_comm s' st, xorL_cancel (by omega)]
            · have : T37 F st s' = some ([], 3, []) := by simp only [T37, T37c, h57, Option.bind_some, z0, cond_false, h2]
              rw [b3] at this
              cases this
          simp only [h, Option.bind_some, cond_false, z0, b5, hcc, cond_true, beq_self_eq_true]
        · simp only [h, Option.bind_some, cond_false, z8, cond_true, z6, z5]
theorem plaw9 (x : UInt8) (g : Int) (c ch : List UInt8) (_ : -9223372036854775808 ≤ g ∧ g ≤ 9223372036854775807) (_ : c.length ≤ maxLen) (_ : ch.length ≤ maxLen) : T9 50000 x g c ch = some true := law9 (by omega) awake50k x g c ch
end Go.Proofs.YtjghgfohpihhfaaDoor
