/- The classes of seal, and of its specification: plain laws. -/
import Derived.Test.YtjghgfohpihhfaaDoorH2
namespace Go.Proofs.YtjghgfohpihhfaaDoor
open Go.Tw
set_option linter.unusedVariables false

/-- The class of a number. -/
def cls (k : Nat) : Int := 2 ^ (k / 4) * (64 + 16 * (k % 4 : Nat))
/-- The first class from the k-th on that is at least need. -/
def fc (need : Int) : Nat → Nat → Int
  | 0, k => cls k
  | m + 1, k => bif decide (cls k < need) then fc need m (k + 1) else cls k

theorem t59 {k : Nat} (hk : k < 39) (F : Nat) : T59 F (2 ^ (k / 4) : Int) ((k % 4 : Nat) : Int) = some (cls k, (2 ^ ((k + 1) / 4) : Int), (((k + 1) % 4 : Nat) : Int)) := by
  have : ∀ k : Fin 39, T59 0 (2 ^ (k.val / 4) : Int) ((k.val % 4 : Nat) : Int) = some (cls k.val, (2 ^ ((k.val + 1) / 4) : Int), (((k.val + 1) % 4 : Nat) : Int)) := by decide
  exact this ⟨k, hk⟩

theorem loop14 (F : Nat) (need : Int) : ∀ (m k fuel : Nat), k + m = 37 → m < fuel → need ≤ cls 37 → iter (fun s : Int × Int × Int => L14_2 F need s.1 s.2.1 s.2.2) fuel (cls k, (2 ^ ((k + 1) / 4) : Int), (((k + 1) % 4 : Nat) : Int)) = some (fc need m k)
  | 0, k, fuel + 1, hk, hf, hn => by
    have : k = 37 := by omega
    subst this
    have h : ¬ cls 37 < need := by omega
    simp [iter, L14_2, L14_2c, h, fc]
  | m + 1, k, fuel + 1, hk, hf, hn => by
    by_cases h : cls k < need
    · simp only [iter, L14_2, L14_2c, h, decide_true, cond_true, fc]
      rw [t59 (by omega)]
      simp only [Option.bind_some]
      exact loop14 F need m (k + 1) fuel (by omega) (by omega) hn
    · simp [iter, L14_2, L14_2c, h, fc]

theorem c42 {j b : Nat} (hj : j < 10) (hb : b < 4) : w64 ((64 * 2 ^ j : Int) + w64 (w64 (Int.tdiv (64 * 2 ^ j : Int) 4) * ((b : Nat) : Int))) = cls (4 * j + b) := by
  have : ∀ (j : Fin 10) (b : Fin 4), w64 ((64 * 2 ^ j.val : Int) + w64 (w64 (Int.tdiv (64 * 2 ^ j.val : Int) 4) * ((b.val : Nat) : Int))) = cls (4 * j.val + b.val) := by decide
  exact this ⟨j, hj⟩ ⟨b, hb⟩

theorem in_step (F : Nat) (need : Int) {j b : Nat} (hj : j < 10) (hb : b < 4) (n : Nat) : iter (fun s => L42_4 F need (64 * 2 ^ j : Int) s) (n + 1) ((b : Nat) : Int) = bif decide (need ≤ cls (4 * j + b)) then some (.inr (cls (4 * j + b))) else iter (fun s => L42_4 F need (64 * 2 ^ j : Int) s) n ((b + 1 : Nat) : Int) := by
  have h1 : ((b : Nat) : Int) < 4 := by omega
  have h2 : w64 (((b : Nat) : Int) + 1) = ((b + 1 : Nat) : Int) := by rw [w64_in (by omega) (by omega)]; omega
  simp only [iter, L42_4, L42_4c, h1, decide_true, cond_true, c42 hj hb, h2]
  cases decide (need ≤ cls (4 * j + b)) <;> rfl

theorem in_last (F : Nat) (need base : Int) (n : Nat) : iter (fun s => L42_4 F need base s) (n + 1) ((4 : Nat) : Int) = some (.inl ()) := by
  simp [iter, L42_4, L42_4c]

theorem fc_step (need : Int) (m k : Nat) : fc need (m + 1) k = bif decide (need ≤ cls k) then cls k else fc need m (k + 1) := by
  simp only [fc]
  by_cases h : cls k < need
  · have h' : ¬ need ≤ cls k := by omega
    simp [h, h']
  · have h' : need ≤ cls k := by omega
    simp [h, h']

theorem dbl {j : Nat} (hj : j < 9) : w64 ((2 : Int) * (64 * 2 ^ j : Int)) = (64 * 2 ^ (j + 1) : Int) := by
  have : ∀ (j : Fin 9), w64 ((2 : Int) * (64 * 2 ^ j.val : Int)) = (64 * 2 ^ (j.val + 1) : Int) := by decide
  exact this ⟨j, hj⟩

theorem inner (F : Nat) (need : Int) {j : Nat} (hj : j < 10) (hF : 5 ≤ F) : iter (fun s => L42_4 F need (64 * 2 ^ j : Int) s) F (0 : Int) = some (bif decide (need ≤ cls (4 * j)) then .inr (cls (4 * j)) else bif decide (need ≤ cls (4 * j + 1)) then .inr (cls (4 * j + 1)) else bif decide (need ≤ cls (4 * j + 2)) then .inr (cls (4 * j + 2)) else bif decide (need ≤ cls (4 * j + 3)) then .inr (cls (4 * j + 3)) else .inl ()) := by
  obtain ⟨n, rfl⟩ : ∃ n, F = n + 5 := ⟨F - 5, by omega⟩
  have h0 := in_step (n + 5) need hj (b := 0) (by omega) (n + 4)
  have h1 := in_step (n + 5) need hj (b := 1) (by omega) (n + 3)
  have h2 := in_step (n + 5) need hj (b := 2) (by omega) (n + 2)
  have h3 := in_step (n + 5) need hj (b := 3) (by omega) (n + 1)
  have h4 := in_last (n + 5) need (64 * 2 ^ j : Int) n
  have e0 : (0 : Int) = ((0 : Nat) : Int) := rfl
  rw [e0, h0, h1, h2, h3, h4]
  simp only [Nat.add_zero]
  cases decide (need ≤ cls (4 * j)) <;> cases decide (need ≤ cls (4 * j + 1)) <;> cases decide (need ≤ cls (4 * j + 2)) <;> cases decide (need ≤ cls (4 * j + 3)) <;> rfl

theorem loop42 (F : Nat) (need : Int) (hF : 5 ≤ F) (hn : need ≤ cls 37) : ∀ (i j fuel : Nat), j + i = 9 → i < fuel → iter (fun s => L42_3 F need s) fuel (64 * 2 ^ j : Int) = some (fc need (37 - 4 * j) (4 * j))
  | 0, j, fuel + 1, hj, hf => by
    have : j = 9 := by omega
    subst this
    simp only [iter, L42_3, L42_3c]
    rw [inner F need (j := 9) (by omega) hF]
    have e1 : decide (need ≤ cls (4 * 9 + 1)) = true := by simpa using hn
    simp only [e1, Option.bind_some]
    show _ = some (fc need 1 36)
    rw [fc_step]
    show _ = some (bif decide (need ≤ cls (4 * 9)) then cls (4 * 9) else cls (4 * 9 + 1))
    cases decide (need ≤ cls (4 * 9)) <;> rfl
  | i + 1, j, fuel + 1, hj, hf => by
    simp only [iter, L42_3, L42_3c]
    rw [inner F need (j := j) (by omega) hF]
    have ih := loop42 F need hF hn i (j + 1) fuel (by omega) (by omega)
    obtain ⟨m, hm⟩ : ∃ m, 37 - 4 * j = m + 4 := ⟨33 - 4 * j, by omega⟩
    have hm' : 37 - 4 * (j + 1) = m := by omega
    rw [hm, fc_step, fc_step, fc_step, fc_step]
    rw [hm'] at ih
    rw [show 4 * j + 1 + 1 = 4 * j + 2 from rfl, show 4 * j + 2 + 1 = 4 * j + 3 from rfl, show 4 * j + 3 + 1 = 4 * (j + 1) from by omega]
    cases decide (need ≤ cls (4 * j)) <;> cases decide (need ≤ cls (4 * j + 1)) <;> cases decide (need ≤ cls (4 * j + 2)) <;> cases decide (need ≤ cls (4 * j + 3)) <;>
      simp only [cond_true, cond_false, Option.bind_some, elimS, dbl (show j < 9 by omega)]
    exact ih

theorem shr7 (x : UInt64) : (shr64 x 7).toNat = x.toNat / 128 := by
  show (x.toBitVec >>> 7).toNat = _
  rw [BitVec.toNat_ushiftRight, Nat.shiftRight_eq_div_pow]; rfl

def sz (n : Nat) : Nat := if n < 128 then 1 else if n < 16384 then 2 else 3

theorem it_again {σ ρ : Type} {f : σ → Option (σ ⊕ ρ)} {n : Nat} {s s' : σ} (h : f s = some (.inl s')) : iter f (n + 1) s = iter f n s' := by simp [iter, h]
theorem it_out {σ ρ : Type} {f : σ → Option (σ ⊕ ρ)} {n : Nat} {s : σ} {r : ρ} (h : f s = some (.inr r)) : iter f (n + 1) s = some r := by simp [iter, h]

theorem l40_again (F : Nat) {x : UInt64} {c : Int} (h : 128 ≤ x.toNat) : L40_2 F x c = some (.inl (shr64 x 7, w64 (c + 1))) := by
  have : UInt64.ofNat 128 ≤ x := h
  simp only [L40_2, L40_2c, this, decide_true, cond_true]; rfl
theorem l40_out (F : Nat) {x : UInt64} {c : Int} (h : ¬ 128 ≤ x.toNat) : L40_2 F x c = some (.inr c) := by
  have : ¬ UInt64.ofNat 128 ≤ x := h
  simp only [L40_2, L40_2c, this, decide_false, cond_false]

theorem t40 {F : Nat} (hF : 4 < F) (x : UInt64) (hx : x.toNat ≤ 32768) : T40 F x = some ((sz x.toNat : Nat) : Int) := by
  obtain ⟨n, rfl⟩ : ∃ n, F = n + 4 := ⟨F - 4, by omega⟩
  have w1 : w64 ((1 : Int) + 1) = 2 := by decide
  have w2 : w64 ((2 : Int) + 1) = 3 := by decide
  have d1 := shr7 x
  have d2 := shr7 (shr64 x 7)
  simp only [T40, T40c]
  by_cases h1 : x.toNat < 128
  · rw [it_out (l40_out _ (x := x) (by omega))]; simp [sz, h1]
  · rw [it_again (l40_again _ (x := x) (by omega)), w1]
    by_cases h2 : x.toNat < 16384
    · rw [it_out (l40_out _ (x := shr64 x 7) (by omega))]; simp [sz, h1, h2]
    · rw [it_again (l40_again _ (x := shr64 x 7) (by omega)), w2, it_out (l40_out _ (x := shr64 (shr64 x 7) 7) (by omega))]; simp [sz, h1, h2]

theorem div128 (x : UInt64) : (x / UInt64.ofNat 128).toNat = x.toNat / 128 := by
  rw [UInt64.toNat_div]; rfl

theorem l45_again (F : Nat) {x : UInt64} {l : List UInt8} (h : 127 < x.toNat) (hl : l.length < 100) : ∃ b, L45_2 F x l = some (.inl (x / UInt64.ofNat 128, l ++ [b])) := by
  have : UInt64.ofNat 127 < x := h
  refine ⟨((x % (UInt64.ofNat 128)).toUInt8) + (UInt8.ofNat 128), ?_⟩
  simp only [L45_2, L45_2c, this, decide_true, cond_true, gapp]
  rw [if_pos (by simp; omega)]; rfl
theorem l45_out (F : Nat) {x : UInt64} {l : List UInt8} (h : ¬ 127 < x.toNat) : L45_2 F x l = some (.inr (x, l)) := by
  have : ¬ UInt64.ofNat 127 < x := h
  simp only [L45_2, L45_2c, this, decide_false, cond_false]

theorem t45 {F : Nat} (hF : 4 < F) (x : UInt64) (hx : x.toNat ≤ 32768) : ∃ l, T45 F x = some l ∧ l.length = sz x.toNat := by
  obtain ⟨n, rfl⟩ : ∃ n, F = n + 4 := ⟨F - 4, by omega⟩
  have d1 := div128 x
  have d2 := div128 (x / UInt64.ofNat 128)
  simp only [T45, T45c]
  by_cases h1 : x.toNat < 128
  · rw [it_out (l45_out _ (x := x) (by omega))]; simp [sz, h1, gapp]
  · obtain ⟨b, hb⟩ := l45_again (n + 4) (x := x) (l := []) (by omega) (by simp)
    rw [it_again (f := fun s : UInt64 × List UInt8 => L45_2 (n + 4) s.1 s.2) (s := (x, [])) hb]
    by_cases h2 : x.toNat < 16384
    · rw [it_out (l45_out _ (x := x / UInt64.ofNat 128) (by omega))]; simp [sz, h1, h2, gapp]
    · obtain ⟨b', hb'⟩ := l45_again (n + 4) (x := x / UInt64.ofNat 128) (l := [] ++ [b]) (by omega) (by simp)
      rw [it_again (f := fun s : UInt64 × List UInt8 => L45_2 (n + 4) s.1 s.2) (s := (x / UInt64.ofNat 128, [] ++ [b])) hb', it_out (l45_out _ (x := x / UInt64.ofNat 128 / UInt64.ofNat 128) (by omega))]; simp [sz, h1, h2, gapp]

/-- Both find the class alike. -/
theorem class_eq {F : Nat} (hF : 50 < F) (n : Int) : ∃ r, T14 F n = some r ∧ T15 F n = some r := by
  simp only [T14, T14c, T15, T15c]
  by_cases h0 : n < 0
  · simp [h0]
  by_cases h1 : 32768 < n
  · simp [h0, h1]
  simp only [h0, h1, decide_false, cond_false]
  have hx : (UInt64.ofInt n).toNat = n.toNat := by
    show (UInt64.ofNat (n % 2 ^ 64).toNat).toNat = _
    rw [UInt64.toNat_ofNat']; omega
  have hx' : (UInt64.ofInt n).toNat ≤ 32768 := by omega
  obtain ⟨l, hl, hll⟩ := t45 (F := F) (by omega) (UInt64.ofInt n) hx'
  have h41 : T41 F = some ((2 ^ (0 / 4) : Int), ((0 % 4 : Nat) : Int)) := rfl
  have hs : 1 ≤ sz (UInt64.ofInt n).toNat ∧ sz (UInt64.ofInt n).toNat ≤ 3 := by unfold sz; split <;> (try split) <;> omega
  have hneed : w64 (w64 (((sz (UInt64.ofInt n).toNat : Nat) : Int) + n) + 16) ≤ cls 37 := by
    rw [w64_in (n := ((sz (UInt64.ofInt n).toNat : Nat) : Int) + n) (by omega) (by omega), w64_in (by omega) (by omega)]
    have : cls 37 = 40960 := by decide
    omega
  rw [t40 (by omega) _ hx', h41]
  simp only [Option.bind_some]
  rw [t59 (k := 0) (by omega)]
  simp only [Option.bind_some]
  have l14 := loop14 F (w64 (w64 (((sz (UInt64.ofInt n).toNat : Nat) : Int) + n) + 16)) 37 0 F (by omega) (by omega) hneed
  rw [l14]
  have h43 : T43 F n = some (w64 (w64 (((sz (UInt64.ofInt n).toNat : Nat) : Int) + n) + 16)) := by
    simp only [T43, T43c, hl, Option.bind_some, hll]
  have l42 := loop42 F (w64 (w64 (((sz (UInt64.ofInt n).toNat : Nat) : Int) + n) + 16)) (by omega) hneed 9 0 F (by omega) (by omega)
  have h42 : T42 F (w64 (w64 (((sz (UInt64.ofInt n).toNat : Nat) : Int) + n) + 16)) = some (fc (w64 (w64 (((sz (UInt64.ofInt n).toNat : Nat) : Int) + n) + 16)) 37 0) := by
    simp only [T42, T42c]
    have e : (64 : Int) = 64 * 2 ^ 0 := by decide
    rw [e, l42]; rfl
  rw [h43]
  simp only [Option.bind_some, h42]
  exact ⟨_, rfl, rfl⟩
end Go.Proofs.YtjghgfohpihhfaaDoor
/- SealClass: the plain law. -/
namespace Go.Proofs.YtjghgfohpihhfaaDoor
open Go.Tw
theorem awake16 : T16 1000 = some true := by kernel_rfl
theorem law3 {F : Nat} (hF : 50 < F) (ha : T16 F = some true) (n : Int) : T3 F n = some true := by
  obtain ⟨r, h1, h2⟩ := class_eq hF n
  simp only [T3, T3c, h1, h2, ha, Option.bind_some, cond_true, beq_self_eq_true]
theorem plaw3 (n : Int) (_ : -9223372036854775808 ≤ n ∧ n ≤ 9223372036854775807) : T3 1000 n = some true := law3 (by omega) awake16 n
end Go.Proofs.YtjghgfohpihhfaaDoor
/- The classes in numbers; SealClasses: the plain law. -/
namespace Go.Proofs.YtjghgfohpihhfaaDoor
open Go.Tw
set_option linter.unusedVariables false

def need (n : Int) : Int := w64 (w64 (((sz (UInt64.ofInt n).toNat : Nat) : Int) + n) + 16)

theorem ofInt_nat {n : Int} (h0 : 0 ≤ n) (h1 : n ≤ 32768) : (UInt64.ofInt n).toNat = n.toNat := by
  show (UInt64.ofNat (n % 2 ^ 64).toNat).toNat = _
  rw [UInt64.toNat_ofNat']; omega

theorem need_eq {n : Int} (h0 : 0 ≤ n) (h1 : n ≤ 32768) : need n = (sz n.toNat : Nat) + n + 16 := by
  have hs : 1 ≤ sz n.toNat ∧ sz n.toNat ≤ 3 := by unfold sz; split <;> (try split) <;> omega
  unfold need
  rw [ofInt_nat h0 h1, w64_in (n := ((sz n.toNat : Nat) : Int) + n) (by omega) (by omega), w64_in (by omega) (by omega)]

theorem sz_bd (n : Nat) : 1 ≤ sz n ∧ sz n ≤ 3 := by unfold sz; split <;> (try split) <;> omega

theorem need_le {n : Int} (h0 : 0 ≤ n) (h1 : n ≤ 32768) : need n ≤ cls 37 := by
  have := sz_bd n.toNat
  have : cls 37 = 40960 := by decide
  rw [need_eq h0 h1]; omega

theorem t14_eq {F : Nat} (hF : 50 < F) {n : Int} (h0 : 0 ≤ n) (h1 : n ≤ 32768) : T14 F n = some (fc (need n) 37 0, 0) := by
  have hx := ofInt_nat h0 h1
  have a0 : ¬ n < 0 := by omega
  have a1 : ¬ 32768 < n := by omega
  simp only [T14, T14c, a0, a1, decide_false, cond_false]
  have h41 : T41 F = some ((2 ^ (0 / 4) : Int), ((0 % 4 : Nat) : Int)) := rfl
  rw [t40 (by omega) _ (by omega), h41]
  simp only [Option.bind_some]
  rw [t59 (k := 0) (by omega)]
  simp only [Option.bind_some]
  have l14 := loop14 F (need n) 37 0 F (by omega) (by omega) (need_le h0 h1)
  unfold need at l14
  rw [l14]; rfl

theorem t14_lo {F : Nat} {n : Int} (h : n < 0) : T14 F n = some (0, 1) := by simp [T14, T14c, h]
theorem t14_hi {F : Nat} {n : Int} (h : 32768 < n) : T14 F n = some (0, 2) := by
  have : ¬ n < 0 := by omega
  simp [T14, T14c, h, this]

theorem fc_spec (need : Int) : ∀ (m k : Nat), need ≤ cls (k + m) → ∃ j, k ≤ j ∧ j ≤ k + m ∧ fc need m k = cls j ∧ need ≤ cls j ∧ (j = k ∨ cls (j - 1) < need)
  | 0, k, h => ⟨k, by omega, by omega, rfl, h, .inl rfl⟩
  | m + 1, k, h => by
    by_cases hk : cls k < need
    · obtain ⟨j, h1, h2, h3, h4, h5⟩ := fc_spec need m (k + 1) (by rw [show k + 1 + m = k + (m + 1) by omega]; exact h)
      refine ⟨j, by omega, by omega, by simp [fc, hk, h3], h4, .inr ?_⟩
      rcases h5 with rfl | h5
      · simpa using hk
      · exact h5
    · exact ⟨k, by omega, by omega, by simp [fc, hk], by omega, .inl rfl⟩

/-- The class of a length. -/
theorem class_spec {F : Nat} (hF : 50 < F) {n : Int} (h0 : 0 ≤ n) (h1 : n ≤ 32768) : ∃ j, j < 38 ∧ T14 F n = some (cls j, 0) ∧ (sz n.toNat : Nat) + n + 16 ≤ cls j ∧ (j = 0 ∨ cls (j - 1) < (sz n.toNat : Nat) + n + 16) := by
  obtain ⟨j, a1, a2, a3, a4, a5⟩ := fc_spec (need n) 37 0 (need_le h0 h1)
  rw [need_eq h0 h1] at a4 a5
  exact ⟨j, by omega, by rw [t14_eq hF h0 h1, a3], a4, a5⟩

def clist : List Int := (List.range 38).map cls

theorem t39 : T39 1000 = some clist := by kernel_rfl

theorem found : ∀ j : Fin 38, iter (fun s : Bool × Int => L13_2 1000 (cls j.val) clist s.1 s.2) 1000 (false, (0 : Int)) = some (.inl true) := by decide +kernel
theorem found0 : iter (fun s : Bool × Int => L13_2 1000 0 clist s.1 s.2) 1000 (false, (0 : Int)) = some (.inl false) := by kernel_rfl

theorem cls_q : ∀ j : Fin 38, j.val = 0 ∨ cls j.val - (cls j.val).tdiv 4 ≤ cls (j.val - 1) := by decide +kernel
theorem cls_b : ∀ j : Fin 38, 64 ≤ cls j.val ∧ cls j.val ≤ 40960 ∧ 0 ≤ (cls j.val).tdiv 4 ∧ (cls j.val).tdiv 4 ≤ 40960 := by decide +kernel

theorem cl_len : clist.length = 38 := by decide +kernel
theorem cl_i0 : inb 38 (0 : Int) = some 0 := by decide +kernel
theorem cl_0 : clist[0]? = some 64 := by decide +kernel
theorem cl_i37 : inb 38 (w64 (((38 : Nat) : Int) - 1)) = some 37 := by decide +kernel
theorem cl_37 : clist[37]? = some 40960 := by decide +kernel

theorem law13 {F : Nat} (hF : 50 < F) (ha : T16 F = some true) (h39 : T39 F = some clist) (hf : ∀ j : Fin 38, iter (fun s : Bool × Int => L13_2 F (cls j.val) clist s.1 s.2) F (false, (0 : Int)) = some (.inl true))
    (hf0 : iter (fun s : Bool × Int => L13_2 F 0 clist s.1 s.2) F (false, (0 : Int)) = some (.inl false)) (n : Int) (hn : -9223372036854775808 ≤ n ∧ n ≤ 9223372036854775807) : T13 F n = some true := by
  simp only [T13, T13c, h39, ha, Option.bind_some, Bool.not_true, cond_false, cl_len, cl_i0, cl_0, cl_i37, cl_37]
  have e1 : (((38 : Nat) : Int) == 0) = false := by decide
  have e2 : ((64 : Int) != 64) = false := by decide
  have e3 : ((40960 : Int) != 40960) = false := by decide
  simp only [e1, e2, e3, cond_false]
  by_cases h0 : n < 0
  · simp only [t14_lo h0, Option.bind_some, hf0, elimS]
    simp [h0]
  by_cases h1 : 32768 < n
  · simp only [t14_hi h1, Option.bind_some, hf0, elimS]
    simp [h0, h1]
  obtain ⟨j, hj, hc, h2, h3⟩ := class_spec hF (n := n) (by omega) (by omega)
  have hb := sz_bd n.toNat
  have hcb := cls_b ⟨j, hj⟩
  have hcq := cls_q ⟨j, hj⟩
  simp only at hcb hcq
  simp only [hc, Option.bind_some, hf ⟨j, hj⟩, elimS]
  have e4 : ((0 : Int) != 0) = false := by decide
  have w1 : w64 (n + 17) = n + 17 := w64_in (by omega) (by omega)
  have w2 : w64 (n + 19) = n + 19 := w64_in (by omega) (by omega)
  have w3 : w64 ((cls j).tdiv 4) = (cls j).tdiv 4 := w64_in (by omega) (by omega)
  have w4 : w64 (cls j - (cls j).tdiv 4) = cls j - (cls j).tdiv 4 := w64_in (by omega) (by omega)
  have h4 : n + 17 ≤ cls j := by omega
  simp only [e4, cond_false, cond_true, w1, w2, w3, w4, h4, decide_true]
  rcases h3 with rfl | h3
  · rfl
  · rcases hcq with rfl | hcq
    · rfl
    · have h5 : cls j - (cls j).tdiv 4 < n + 19 := by omega
      simp only [h5, decide_true]
      cases (cls j == 64) <;> rfl
theorem plaw13 (n : Int) (hn : -9223372036854775808 ≤ n ∧ n ≤ 9223372036854775807) : T13 1000 n = some true := law13 (by omega) awake16 t39 found found0 n hn
end Go.Proofs.YtjghgfohpihhfaaDoor
/- Numbers as bytes; bodies; SealBody: the plain law. -/
namespace Go.Proofs.YtjghgfohpihhfaaDoor
open Go.Tw
set_option linter.unusedVariables false

/-- The bytes of a number: at most m + 1. -/
def encN : Nat → Nat → List UInt8
  | 0, n => [UInt8.ofNat n]
  | m + 1, n => if n < 128 then [UInt8.ofNat n] else UInt8.ofNat (n % 128 + 128) :: encN m (n / 128)

theorem encN_len : ∀ (m n : Nat), (encN m n).length ≤ m + 1 ∧ 1 ≤ (encN m n).length
  | 0, n => by simp [encN]
  | m + 1, n => by
    have := encN_len m (n / 128)
    simp only [encN]; split <;> simp <;> omega

theorem or128 : ∀ b : Fin 256, (UInt8.ofNat b.val ||| UInt8.ofNat 128) = UInt8.ofNat (b.val % 128 + 128) := by decide +kernel

theorem u8_of (x : UInt64) : x.toUInt8 = UInt8.ofNat x.toNat := by
  apply UInt8.toNat_inj.1
  rw [UInt64.toNat_toUInt8, UInt8.toNat_ofNat']

theorem byte60 (x : UInt64) : (x.toUInt8 ||| UInt8.ofNat 128) = UInt8.ofNat (x.toNat % 128 + 128) := by
  have h := or128 ⟨x.toNat % 256, Nat.mod_lt _ (by omega)⟩
  simp only at h
  have e : UInt8.ofNat (x.toNat % 256) = x.toUInt8 := by
    apply UInt8.toNat_inj.1
    rw [UInt64.toNat_toUInt8, UInt8.toNat_ofNat']; omega
  rw [e] at h
  rw [h]
  congr 1; omega

theorem byte45 (x : UInt64) : ((x % (UInt64.ofNat 128)).toUInt8) + (UInt8.ofNat 128) = UInt8.ofNat (x.toNat % 128 + 128) := by
  apply UInt8.toNat_inj.1
  rw [UInt8.toNat_add, UInt64.toNat_toUInt8, UInt64.toNat_mod, UInt8.toNat_ofNat', UInt8.toNat_ofNat']
  have : (UInt64.ofNat 128).toNat = 128 := rfl
  rw [this]; omega

theorem l60 (F : Nat) : ∀ (m fuel : Nat) (x : UInt64) (l : List UInt8), x.toNat < 128 ^ (m + 1) → m < fuel → l.length + m < 1000000 → ∃ y pre, iter (fun s : UInt64 × List UInt8 => L60_2 F s.1 s.2) fuel (x, l) = some (y, l ++ pre) ∧ pre ++ [y.toUInt8] = encN m x.toNat ∧ pre.length ≤ m
  | m, 0, x, l, hx, hf, hl => by omega
  | 0, fuel + 1, x, l, hx, hf, hl => by
    have h : ¬ UInt64.ofNat 128 ≤ x := by
      show ¬ (128 ≤ x.toNat); omega
    have step : L60_2 F x l = some (.inr (x, l)) := by simp only [L60_2, L60_2c, h, decide_false, cond_false]
    refine ⟨x, [], ?_, by rw [List.nil_append, u8_of]; simp only [encN], by simp⟩
    rw [it_out (f := fun s : UInt64 × List UInt8 => L60_2 F s.1 s.2) (s := (x, l)) step]; simp
  | m + 1, fuel + 1, x, l, hx, hf, hl => by
    by_cases h : 128 ≤ x.toNat
    · have h' : UInt64.ofNat 128 ≤ x := h
      have hd := shr7 x
      have hlt : (shr64 x 7).toNat < 128 ^ (m + 1) := by rw [hd]; exact Nat.div_lt_of_lt_mul (by rw [Nat.pow_succ] at hx; omega)
      obtain ⟨y, pre, h1, h2, h3⟩ := l60 F m fuel (shr64 x 7) (l ++ [UInt8.ofNat (x.toNat % 128 + 128)]) hlt (by omega) (by simp; omega)
      refine ⟨y, UInt8.ofNat (x.toNat % 128 + 128) :: pre, ?_, ?_, by simp; omega⟩
      · have e7 : (UInt64.ofNat 7).toNat = 7 := rfl
        have hg : gapp l [x.toUInt8 ||| UInt8.ofNat 128] = some (l ++ [UInt8.ofNat (x.toNat % 128 + 128)]) := by
          rw [byte60]; unfold gapp; rw [if_pos (by simp; omega)]
        have step : L60_2 F x l = some (.inl (shr64 x 7, l ++ [UInt8.ofNat (x.toNat % 128 + 128)])) := by
          simp only [L60_2, L60_2c, h', decide_true, cond_true, hg, Option.bind_some, e7]
        rw [it_again (f := fun s : UInt64 × List UInt8 => L60_2 F s.1 s.2) (s := (x, l)) step, h1]
        simp
      · rw [List.cons_append, h2, hd]
        simp [encN, show ¬ x.toNat < 128 by omega]
    · have h' : ¬ UInt64.ofNat 128 ≤ x := h
      have step : L60_2 F x l = some (.inr (x, l)) := by simp only [L60_2, L60_2c, h', decide_false, cond_false]
      refine ⟨x, [], ?_, by rw [List.nil_append, u8_of]; simp only [encN, show x.toNat < 128 by omega, if_true], by simp⟩
      rw [it_out (f := fun s : UInt64 × List UInt8 => L60_2 F s.1 s.2) (s := (x, l)) step]; simp

theorem l45 (F : Nat) : ∀ (m fuel : Nat) (x : UInt64) (l : List UInt8), x.toNat < 128 ^ (m + 1) → m < fuel → l.length + m < 1000000 → ∃ y pre, iter (fun s : UInt64 × List UInt8 => L45_2 F s.1 s.2) fuel (x, l) = some (y, l ++ pre) ∧ pre ++ [y.toUInt8] = encN m x.toNat ∧ pre.length ≤ m
  | m, 0, x, l, hx, hf, hl => by omega
  | 0, fuel + 1, x, l, hx, hf, hl => by
    have h : ¬ UInt64.ofNat 127 < x := by
      show ¬ (127 < x.toNat); omega
    have step : L45_2 F x l = some (.inr (x, l)) := by simp only [L45_2, L45_2c, h, decide_false, cond_false]
    refine ⟨x, [], ?_, by rw [List.nil_append, u8_of]; simp only [encN], by simp⟩
    rw [it_out (f := fun s : UInt64 × List UInt8 => L45_2 F s.1 s.2) (s := (x, l)) step]; simp
  | m + 1, fuel + 1, x, l, hx, hf, hl => by
    by_cases h : 127 < x.toNat
    · have h' : UInt64.ofNat 127 < x := h
      have hd := div128 x
      have hlt : (x / UInt64.ofNat 128).toNat < 128 ^ (m + 1) := by rw [hd]; exact Nat.div_lt_of_lt_mul (by rw [Nat.pow_succ] at hx; omega)
      obtain ⟨y, pre, h1, h2, h3⟩ := l45 F m fuel (x / UInt64.ofNat 128) (l ++ [UInt8.ofNat (x.toNat % 128 + 128)]) hlt (by omega) (by simp; omega)
      refine ⟨y, UInt8.ofNat (x.toNat % 128 + 128) :: pre, ?_, ?_, by simp; omega⟩
      · have hg : gapp l [((x % (UInt64.ofNat 128)).toUInt8) + (UInt8.ofNat 128)] = some (l ++ [UInt8.ofNat (x.toNat % 128 + 128)]) := by
          rw [byte45]; unfold gapp; rw [if_pos (by simp; omega)]
        have step : L45_2 F x l = some (.inl (x / UInt64.ofNat 128, l ++ [UInt8.ofNat (x.toNat % 128 + 128)])) := by
          simp only [L45_2, L45_2c, h', decide_true, cond_true, hg, Option.bind_some]
        rw [it_again (f := fun s : UInt64 × List UInt8 => L45_2 F s.1 s.2) (s := (x, l)) step, h1]
        simp
      · rw [List.cons_append, h2, hd]
        simp [encN, show ¬ x.toNat < 128 by omega]
    · have h' : ¬ UInt64.ofNat 127 < x := h
      have step : L45_2 F x l = some (.inr (x, l)) := by simp only [L45_2, L45_2c, h', decide_false, cond_false]
      refine ⟨x, [], ?_, by rw [List.nil_append, u8_of]; simp only [encN, show x.toNat < 128 by omega, if_true], by simp⟩
      rw [it_out (f := fun s : UInt64 × List UInt8 => L45_2 F s.1 s.2) (s := (x, l)) step]; simp

/-- The bytes of a number. -/
def enc (n : Nat) : List UInt8 := encN 9 n

theorem u64_lt (x : UInt64) : x.toNat < 128 ^ (9 + 1) := Nat.lt_of_lt_of_le x.toNat_lt (by decide)

theorem t44 {F : Nat} (hF : 50 < F) (x : UInt64) : T44 F [] x = some (enc x.toNat) := by
  obtain ⟨y, pre, h1, h2, h3⟩ := l60 F 9 F x [] (u64_lt x) (by omega) (by simp)
  have w : w64 ((([] : List UInt8).length : Int) + 10) = 10 := by decide
  have g1 : gmake (0 : UInt8) (0 : Int) 10 = some [] := by decide
  have g2 : gapp ([] : List UInt8) [] = some [] := by decide
  simp only [T44, T44c, w, g1, g2, Option.bind_some, T60, T60c]
  rw [h1]
  simp only [Option.bind_some, List.nil_append]
  have : gapp pre [y.toUInt8] = some (pre ++ [y.toUInt8]) := by unfold gapp; rw [if_pos (by simp; omega)]
  rw [this, h2]; rfl

theorem t45' {F : Nat} (hF : 50 < F) (x : UInt64) : T45 F x = some (enc x.toNat) := by
  obtain ⟨y, pre, h1, h2, h3⟩ := l45 F 9 F x [] (u64_lt x) (by omega) (by simp)
  simp only [T45, T45c]
  rw [h1]
  simp only [Option.bind_some, List.nil_append]
  have : gapp pre [y.toUInt8] = some (pre ++ [y.toUInt8]) := by unfold gapp; rw [if_pos (by simp; omega)]
  rw [this, h2]; rfl

theorem encN_one {m n : Nat} (h : n < 128) : encN m n = [UInt8.ofNat n] := by
  cases m <;> simp [encN, h]

theorem enc_len {n : Nat} (h : n ≤ 32768) : (enc n).length = sz n := by
  unfold enc sz
  by_cases h1 : n < 128
  · simp [encN, h1]
  · by_cases h2 : n < 16384
    · simp [encN, h1, h2, show n / 128 < 128 by omega]
    · simp [encN, h1, h2, show ¬ n / 128 < 128 by omega, show n / 128 / 128 < 128 by omega]

/-- A body. -/
def bodyL (D : Nat) (c k : List UInt8) : List UInt8 := enc c.length ++ c ++ List.replicate (D - 16 - (enc c.length).length - c.length) 0 ++ k

theorem splice3 {e c k : List UInt8} {D : Nat} (h : e.length + c.length + 16 ≤ D) (hk : k.length = 16) :
    splice (splice (splice (List.replicate D (0 : UInt8)) 0 e e.length) e.length c c.length) (D - 16) k 16 = e ++ c ++ List.replicate (D - 16 - e.length - c.length) 0 ++ k := by
  have s1 : splice (List.replicate D (0 : UInt8)) 0 e e.length = e ++ List.replicate (D - e.length) 0 := by simp [splice]
  have s2 : splice (e ++ List.replicate (D - e.length) 0) e.length c c.length = e ++ c ++ List.replicate (D - e.length - c.length) 0 := by
    simp only [splice, List.take_left, List.take_length]
    rw [List.drop_append, List.drop_eq_nil_of_le (by omega)]
    simp
  rw [s1, s2]
  have e1 : (e ++ c).length = e.length + c.length := by simp
  simp only [splice]
  rw [List.take_append, List.take_of_length_le (by omega : (e ++ c).length ≤ D - 16), List.take_of_length_le (by omega : k.length ≤ 16), List.drop_eq_nil_of_le (by simp; omega)]
  simp [e1, List.take_replicate]
  omega

theorem splice_len {α : Type} (xs ys : List α) {lo c : Nat} (h1 : lo + c ≤ xs.length) (h2 : c ≤ ys.length) : (splice xs lo ys c).length = xs.length := by simp [splice]; omega

/-- Body, of a content and a check of the right lengths. -/
theorem t18 {F : Nat} (hF : 50 < F) {c k : List UInt8} (hc : c.length ≤ 32768) (hk : k.length = 16) : ∃ j, j < 38 ∧ T14 F (c.length : Int) = some (cls j, 0) ∧ (sz c.length : Nat) + (c.length : Int) + 16 ≤ cls j ∧ T18 F c k = some (0, bodyL (cls j).toNat c k) := by
  obtain ⟨j, hj, h1, h2, _⟩ := class_spec hF (n := (c.length : Int)) (by omega) (by omega)
  have hb := cls_b ⟨j, hj⟩
  simp only at hb
  have hs := sz_bd c.length
  rw [Int.toNat_natCast] at h2
  refine ⟨j, hj, h1, h2, ?_⟩
  have hx : (UInt64.ofInt (c.length : Int)).toNat = c.length := by rw [ofInt_nat (by omega) (by omega)]; simp
  have he := enc_len hc
  have hk' : ((k.length : Int) != 16) = false := by simp [hk]
  have g1 : gmake (0 : UInt8) (cls j) (cls j) = some (List.replicate (cls j).toNat 0) := by unfold gmake; rw [if_pos (by omega)]
  simp only [T18, T18c, hk', cond_false, h1, Option.bind_some, g1, t44 hF, hx]
  have e0 : ((0 : Int) != 0) = false := by decide
  simp only [e0, cond_false]
  have m1 : Nat.min (enc c.length).length (List.replicate (cls j).toNat (0 : UInt8)).length = (enc c.length).length := by
    simp only [List.length_replicate]; exact Nat.min_eq_left (by omega)
  have l1 : (splice (List.replicate (cls j).toNat (0 : UInt8)) 0 (enc c.length) (enc c.length).length).length = (cls j).toNat := by
    rw [splice_len _ _ (by simp; omega) (by omega)]; simp
  rw [m1, l1]
  have g2 : gslb (cls j).toNat (((enc c.length).length : Nat) : Int) (((cls j).toNat : Nat) : Int) = some ((enc c.length).length, (cls j).toNat) := by
    unfold gslb; rw [if_pos (by omega)]; simp only [Int.toNat_natCast]
  rw [g2]
  simp only [Option.bind_some]
  have m2 : Nat.min c.length ((cls j).toNat - (enc c.length).length) = c.length := Nat.min_eq_left (by omega)
  rw [m2]
  have l2 : (splice (splice (List.replicate (cls j).toNat (0 : UInt8)) 0 (enc c.length) (enc c.length).length) (enc c.length).length c c.length).length = (cls j).toNat := by
    rw [splice_len _ _ (by rw [l1]; omega) (by omega), l1]
  rw [l2]
  have w1 : w64 (cls j - 16) = cls j - 16 := w64_in (by omega) (by omega)
  have g3 : gslb (cls j).toNat (cls j - 16) (((cls j).toNat : Nat) : Int) = some ((cls j).toNat - 16, (cls j).toNat) := by
    unfold gslb; rw [if_pos (by omega)]; simp only [Int.toNat_natCast, Option.some.injEq, Prod.mk.injEq, and_true]; omega
  rw [w1, g3]
  simp only [Option.bind_some]
  have m3 : Nat.min k.length ((cls j).toNat - ((cls j).toNat - 16)) = 16 := by rw [hk]; exact Nat.min_eq_left (by omega)
  rw [m3, splice3 (by omega) hk]
  rfl

theorem bodyL_len' {D : Nat} {c k : List UInt8} (hc : c.length ≤ 32768) (hk : k.length = 16) (h : sz c.length + c.length + 16 ≤ D) : (bodyL D c k).length = D := by
  have := enc_len hc
  simp [bodyL, hk, this]; omega

theorem l19 (F : Nat) {C : Int} {D : Nat} (hC : w64 (C - 16) = (D : Int)) : ∀ (m fuel : Nat) (l : List UInt8), l.length + m = D → m < fuel → D < 1000000 → iter (fun s => L19_2 F C s) fuel l = some (l ++ List.replicate m 0)
  | m, 0, l, hl, hf, hD => by omega
  | 0, fuel + 1, l, hl, hf, hD => by
    have h : ¬ ((l.length : Int) < (D : Int)) := by omega
    simp [iter, L19_2, L19_2c, hC, h]
  | m + 1, fuel + 1, l, hl, hf, hD => by
    have h : ((l.length : Int) < (D : Int)) := by omega
    have hg : gapp l [UInt8.ofNat 0] = some (l ++ [0]) := by unfold gapp; rw [if_pos (by simp; omega)]; rfl
    have step : L19_2 F C l = some (.inl (l ++ [0])) := by
      simp only [L19_2, L19_2c, hC, h, decide_true, cond_true, hg, Option.bind_some]
    rw [it_again (f := fun s => L19_2 F C s) (s := l) step, l19 F hC m fuel (l ++ [0]) (by simp; omega) (by omega) hD]
    simp [List.replicate_succ]

theorem t19 {F : Nat} (hF : 41000 < F) {c k : List UInt8} (hc : c.length ≤ 32768) (hk : k.length = 16) {j : Nat} (hj : j < 38) (h1 : T14 F (c.length : Int) = some (cls j, 0)) (h2 : (sz c.length : Nat) + (c.length : Int) + 16 ≤ cls j) : T19 F c k = some (0, bodyL (cls j).toNat c k) := by
  have hb := cls_b ⟨j, hj⟩
  simp only at hb
  obtain ⟨r, e1, e2⟩ := class_eq (F := F) (by omega) (c.length : Int)
  rw [h1] at e1
  cases e1
  have hx : (UInt64.ofInt (c.length : Int)).toNat = c.length := by rw [ofInt_nat (by omega) (by omega)]; simp
  have he := enc_len hc
  have hs := sz_bd c.length
  have hk' : ((k.length : Int) != 16) = false := by simp [hk]
  have e0 : ((0 : Int) != 0) = false := by decide
  have g1 : gapp (enc c.length) c = some (enc c.length ++ c) := by unfold gapp; rw [if_pos (by omega)]
  simp only [T19, T19c, hk', cond_false, e2, Option.bind_some, e0, t45' (show 50 < F by omega), hx, g1]
  have w1 : w64 (cls j - 16) = (((cls j).toNat - 16 : Nat) : Int) := by rw [w64_in (by omega) (by omega)]; omega
  rw [l19 F w1 ((cls j).toNat - 16 - (enc c.length).length - c.length) F (enc c.length ++ c) (by simp; omega) (by omega) (by omega)]
  have g2 : gapp (enc c.length ++ c ++ List.replicate ((cls j).toNat - 16 - (enc c.length).length - c.length) 0) k = some (bodyL (cls j).toNat c k) := by
    unfold gapp; rw [if_pos (by simp; omega)]; rfl
  simp only [Option.bind_some, g2]

theorem body_eq {F : Nat} (hF : 41000 < F) (c k : List UInt8) : ∃ r, T18 F c k = some r ∧ T19 F c k = some r := by
  by_cases hk : k.length = 16
  · by_cases hc : c.length ≤ 32768
    · obtain ⟨j, hj, h1, h2, h3⟩ := t18 (F := F) (by omega) hc hk
      exact ⟨_, h3, t19 hF hc hk hj h1 h2⟩
    · obtain ⟨r, e1, e2⟩ := class_eq (F := F) (by omega) (c.length : Int)
      have h14 := t14_hi (F := F) (n := (c.length : Int)) (by omega)
      rw [h14] at e1
      cases e1
      have hk' : ((k.length : Int) != 16) = false := by simp [hk]
      have e0 : ((2 : Int) != 0) = true := by decide
      exact ⟨(2, []), by simp only [T18, T18c, hk', cond_false, h14, Option.bind_some, e0, cond_true], by simp only [T19, T19c, hk', cond_false, e2, Option.bind_some, e0, cond_true]⟩
  · have hk' : ((k.length : Int) != 16) = true := by simp; omega
    exact ⟨(1, []), by simp only [T18, T18c, hk', cond_true], by simp only [T19, T19c, hk', cond_true]⟩

/-- short: all lists have at most 400 bytes. -/
theorem t17 {F : Nat} (hF : 50 < F) (ls : List (List UInt8)) (hl : ls.length ≤ 5) : T17 F ls = some (ls.all fun x => decide (x.length ≤ 400)) := by
  have key : ∀ (m fuel i : Nat), i + m = ls.length → m < fuel → iter (fun s => L17_2 F ls (ls.length : Int) s) fuel ((i : Nat) : Int) = some (bif ((ls.drop i).all fun x => decide (x.length ≤ 400)) then .inl () else .inr false) := by
    intro m
    induction m with
    | zero =>
      intro fuel i hi hf
      obtain ⟨f, rfl⟩ : ∃ f, fuel = f + 1 := ⟨fuel - 1, by omega⟩
      have h : ¬ (((i : Nat) : Int) < (ls.length : Int)) := by omega
      rw [List.drop_eq_nil_of_le (by omega)]
      simp [iter, L17_2, L17_2c, h]
    | succ m ih =>
      intro fuel i hi hf
      obtain ⟨f, rfl⟩ : ∃ f, fuel = f + 1 := ⟨fuel - 1, by omega⟩
      have h : (((i : Nat) : Int) < (ls.length : Int)) := by omega
      have hlt : i < ls.length := by omega
      have hx : ix ls ((i : Nat) : Int) = some ls[i] := by unfold ix; rw [if_pos (by omega)]; simp [hlt]
      have w : w64 (((i : Nat) : Int) + 1) = (((i + 1 : Nat)) : Int) := by rw [w64_in (by omega) (by omega)]; omega
      rw [List.drop_eq_getElem_cons hlt, List.all_cons]
      by_cases hc : ls[i].length ≤ 400
      · have hc' : ¬ ((400 : Int) < (ls[i].length : Int)) := by omega
        have step : L17_2 F ls (ls.length : Int) ((i : Nat) : Int) = some (.inl (((i + 1 : Nat)) : Int)) := by
          simp only [L17_2, L17_2c, h, decide_true, cond_true, hx, Option.bind_some, hc', decide_false, cond_false, w]
        rw [it_again (f := fun s => L17_2 F ls (ls.length : Int) s) step, ih f (i + 1) (by omega) (by omega)]
        simp [hc]
      · have hc' : ((400 : Int) < (ls[i].length : Int)) := by omega
        have step : L17_2 F ls (ls.length : Int) ((i : Nat) : Int) = some (.inr (.inr false)) := by
          simp only [L17_2, L17_2c, h, decide_true, cond_true, hx, Option.bind_some, hc']
        rw [it_out (f := fun s => L17_2 F ls (ls.length : Int) s) step]
        simp [hc]
  have := key ls.length F 0 (by omega) (by omega)
  simp only [T17, T17c]
  have z : ((0 : Nat) : Int) = 0 := rfl
  rw [z] at this
  rw [this]
  simp only [List.drop_zero, Option.bind_some]
  cases (ls.all fun x => decide (x.length ≤ 400)) <;> rfl

theorem law4 {F : Nat} (hF : 41000 < F) (ha : T16 F = some true) (c k : List UInt8) (more : Bool) : T4 F c k more = some true := by
  simp only [T4, T4c, ha, Option.bind_some, Bool.not_true, cond_false, t17 (show 50 < F by omega) [c, k] (by simp)]
  cases hs : ([c, k].all fun x => decide (x.length ≤ 400)) with
  | false => rfl
  | true =>
    simp only [List.all_cons, List.all_nil, Bool.and_true, Bool.and_eq_true, decide_eq_true_eq] at hs
    simp only [Bool.not_true, cond_false]
    cases more with
    | true =>
      have g1 : gmake (0 : UInt8) (32768 : Int) 32768 = some (List.replicate 32768 0) := by unfold gmake; rw [if_pos (by omega)]; rfl
      have g2 : gapp (List.replicate 32768 (0 : UInt8)) c = some (List.replicate 32768 0 ++ c) := by unfold gapp; rw [if_pos (by simp only [List.length_replicate]; omega)]
      obtain ⟨r, e1, e2⟩ := body_eq hF (List.replicate 32768 0 ++ c) k
      simp only [cond_true, g1, g2, Option.bind_some, e1, e2, beq_self_eq_true]
    | false =>
      obtain ⟨r, e1, e2⟩ := body_eq hF c k
      simp only [cond_false, Option.bind_some, e1, e2, beq_self_eq_true, cond_true]
theorem awake50k : T16 50000 = some true := by kernel_rfl
theorem plaw4 (c k : List UInt8) (more : Bool) (_ : c.length ≤ maxLen) (_ : k.length ≤ maxLen) : T4 50000 c k more = some true := law4 (by omega) awake50k c k more
end Go.Proofs.YtjghgfohpihhfaaDoor
/- Xor, SealWith; SealSecret: the plain law. -/
namespace Go.Proofs.YtjghgfohpihhfaaDoor
open Go.Tw
set_option linter.unusedVariables false

def xorL (a b : List UInt8) : List UInt8 := List.zipWith (fun x y => x ^^^ y) a b

theorem xorL_len {a b : List UInt8} (h : a.length = b.length) : (xorL a b).length = a.length := by simp [xorL, h]

theorem xorL_get {a b : List UInt8} {i : Nat} (h : a.length = b.length) (hi : i < a.length) : (xorL a b)[i]? = some (a[i] ^^^ b[i]'(by omega)) := by
  have hb : i < b.length := by omega
  simp only [xorL, List.getElem?_zipWith, List.getElem?_eq_getElem hi, List.getElem?_eq_getElem hb]

theorem xor8_cancel (x y : UInt8) : x ^^^ (x ^^^ y) = y := by rw [← UInt8.xor_assoc, UInt8.xor_self, UInt8.zero_xor]

theorem xorL_cancel : ∀ {a b : List UInt8}, a.length = b.length → xorL a (xorL a b) = b
  | [], [], _ => rfl
  | [], _ :: _, h => by simp at h
  | _ :: _, [], h => by simp at h
  | x :: a, y :: b, h => by
    have ih := xorL_cancel (a := a) (b := b) (by simpa using h)
    simp only [xorL, List.zipWith_cons_cons] at ih ⊢
    rw [xor8_cancel, ih]

theorem xorL_comm : ∀ (a b : List UInt8), xorL a b = xorL b a
  | [], [] => rfl
  | [], _ :: _ => rfl
  | _ :: _, [] => rfl
  | x :: a, y :: b => by
    have ih := xorL_comm a b
    simp only [xorL, List.zipWith_cons_cons] at ih ⊢
    rw [UInt8.xor_comm, ih]

theorem l57 (F : Nat) {a b : List UInt8} (hab : a.length = b.length) (hn : a.length < 1000000) : ∀ (m fuel i : Nat), i + m = a.length → m < fuel → iter (fun s : Int × List UInt8 => L57_2 F a b (a.length : Int) s.1 s.2) fuel (((i : Nat) : Int), xorL (a.take i) (b.take i) ++ List.replicate m 0) = some (xorL a b)
  | m, 0, i, hi, hf => by omega
  | 0, fuel + 1, i, hi, hf => by
    have h : ¬ (((i : Nat) : Int) < (a.length : Int)) := by omega
    have e1 : a.take i = a := List.take_of_length_le (by omega)
    have e2 : b.take i = b := List.take_of_length_le (by omega)
    have step : L57_2 F a b (a.length : Int) ((i : Nat) : Int) (xorL (a.take i) (b.take i) ++ List.replicate 0 0) = some (.inr (xorL a b)) := by
      simp only [L57_2, L57_2c, h, decide_false, cond_false, e1, e2, List.replicate_zero, List.append_nil]
    rw [it_out (f := fun s : Int × List UInt8 => L57_2 F a b (a.length : Int) s.1 s.2) (s := (((i : Nat) : Int), _)) step]
  | m + 1, fuel + 1, i, hi, hf => by
    have h : (((i : Nat) : Int) < (a.length : Int)) := by omega
    have ha : i < a.length := by omega
    have hb : i < b.length := by omega
    have hx : ix a ((i : Nat) : Int) = some a[i] := by unfold ix; rw [if_pos (by omega)]; simp [ha]
    have hy : ix b ((i : Nat) : Int) = some b[i] := by unfold ix; rw [if_pos (by omega)]; simp [hb]
    have w : w64 (((i : Nat) : Int) + 1) = (((i + 1 : Nat)) : Int) := by rw [w64_in (by omega) (by omega)]; omega
    have hl : (xorL (a.take i) (b.take i)).length = i := by rw [xorL_len (by simp; omega)]; simp; omega
    have hin : inb (xorL (a.take i) (b.take i) ++ List.replicate (m + 1) 0).length ((i : Nat) : Int) = some i := by
      unfold inb; rw [if_pos (by simp [hl]; omega)]; simp
    have hset : List.set (xorL (a.take i) (b.take i) ++ List.replicate (m + 1) 0) i (a[i] ^^^ b[i]) = xorL (a.take (i + 1)) (b.take (i + 1)) ++ List.replicate m 0 := by
      rw [List.set_append_right _ _ (by omega), hl, Nat.sub_self, List.replicate_succ, List.set_cons_zero]
      have : xorL (a.take (i + 1)) (b.take (i + 1)) = xorL (a.take i) (b.take i) ++ [a[i] ^^^ b[i]] := by
        simp only [xorL]
        rw [List.take_succ_eq_append_getElem ha, List.take_succ_eq_append_getElem hb, List.zipWith_append (by simp; omega)]
        rfl
      rw [this]; simp
    have step : L57_2 F a b (a.length : Int) ((i : Nat) : Int) (xorL (a.take i) (b.take i) ++ List.replicate (m + 1) 0) = some (.inl (((i + 1 : Nat) : Int), xorL (a.take (i + 1)) (b.take (i + 1)) ++ List.replicate m 0)) := by
      simp only [L57_2, L57_2c, h, decide_true, cond_true, hx, hy, hin, Option.bind_some, w, hset]
    rw [it_again (f := fun s : Int × List UInt8 => L57_2 F a b (a.length : Int) s.1 s.2) (s := (((i : Nat) : Int), _)) step]
    exact l57 F hab hn m fuel (i + 1) (by omega) (by omega)

theorem t57 {F : Nat} {a b : List UInt8} (hF : a.length < F) (hn : a.length < 1000000) (h : a.length = b.length) : T57 F a b = some (0, xorL a b) := by
  have e : ((a.length : Int) != (b.length : Int)) = false := by simp [h]
  have g : gmake (0 : UInt8) (a.length : Int) (a.length : Int) = some (List.replicate a.length 0) := by unfold gmake; rw [if_pos (by omega)]; simp
  have l := l57 F h hn a.length F 0 (by omega) hF
  have z : ((0 : Nat) : Int) = 0 := rfl
  simp only [List.take_zero, z] at l
  have x0 : xorL [] [] = [] := rfl
  rw [x0, List.nil_append] at l
  simp only [T57, T57c, e, cond_false, g, Option.bind_some, l]

theorem t57n {F : Nat} {a b : List UInt8} (h : a.length ≠ b.length) : T57 F a b = some (1, []) := by
  have e : ((a.length : Int) != (b.length : Int)) = true := by simp; omega
  simp only [T57, T57c, e, cond_true]

theorem bodyL_len {D : Nat} {c k : List UInt8} (hc : c.length ≤ 32768) (hk : k.length = 16) (h : sz c.length + c.length + 16 ≤ D) : (bodyL D c k).length = D := by
  have := enc_len hc
  simp [bodyL, hk, this]; omega

/-- SealWith. -/
theorem t34 {F : Nat} (hF : 41000 < F) {s k c : List UInt8} (hc : c.length ≤ 32768) (hk : k.length = 16) {j : Nat} (hj : j < 38) (h1 : T14 F (c.length : Int) = some (cls j, 0)) (hs : s.length = (cls j).toNat) :
    T34 F s k c = some (0, xorL (bodyL (cls j).toNat c k) s) ∧ (bodyL (cls j).toNat c k).length = (cls j).toNat := by
  obtain ⟨j', hj', h1', h2, h3⟩ := t18 (F := F) (by omega) hc hk
  rw [h1] at h1'
  have hjj : cls j = cls j' := by simpa using h1'
  rw [← hjj] at h2 h3
  have hb := cls_b ⟨j, hj⟩
  simp only at hb
  have hl := bodyL_len (D := (cls j).toNat) hc hk (by omega)
  refine ⟨?_, hl⟩
  have e0 : ((0 : Int) != 0) = false := by decide
  simp only [T34, T34c, h3, Option.bind_some, e0, cond_false]
  rw [t57 (by omega) (by omega) (by omega)]
  rfl

theorem xor_one (a b : UInt8) : a ^^^ (b ^^^ UInt8.ofNat 1) ≠ a ^^^ b := by
  intro h
  have h2 := congrArg (fun z => a ^^^ z) h
  simp only [xor8_cancel] at h2
  have h3 := congrArg (fun z => b ^^^ z) h2
  simp only [xor8_cancel, UInt8.xor_self] at h3
  exact absurd h3 (by decide)

theorem law12 {F : Nat} (hF : 41000 < F) (ha : T16 F = some true) (st k c o l : List UInt8) (at_ : Int) (hr : -9223372036854775808 ≤ at_ ∧ at_ ≤ 9223372036854775807) : T12 F st k c o l at_ = some true := by
  simp only [T12, T12c, ha, Option.bind_some, Bool.not_true, cond_false, t17 (show 50 < F by omega) [st, k, c, o, l] (by simp)]
  cases hs : ([st, k, c, o, l].all fun x => decide (x.length ≤ 400)) with
  | false => rfl
  | true =>
    simp only [List.all_cons, List.all_nil, Bool.and_true, Bool.and_eq_true, decide_eq_true_eq] at hs
    simp only [Bool.not_true, cond_false]
    by_cases hk : k.length = 16
    case neg =>
      have : ((k.length : Int) != 16) = true := by simp; omega
      simp only [this, cond_true]
    by_cases hl : l.length = 16
    case neg =>
      have e1 : ((k.length : Int) != 16) = false := by simp [hk]
      have : ((l.length : Int) != 16) = true := by simp; omega
      simp only [e1, this, cond_true, cond_false]
    have e1 : ((k.length : Int) != 16) = false := by simp [hk]
    have e2 : ((l.length : Int) != 16) = false := by simp [hl]
    obtain ⟨j, hj, h1, h2, _⟩ := class_spec (F := F) (by omega) (n := (c.length : Int)) (by omega) (by omega)
    obtain ⟨j', hj', h1', h2', _⟩ := class_spec (F := F) (by omega) (n := (o.length : Int)) (by omega) (by omega)
    simp only [e1, e2, cond_false, h1, h1', Option.bind_some]
    by_cases hjj : cls j = cls j'
    case neg =>
      have : (cls j != cls j') = true := by simpa using hjj
      simp only [this, cond_true]
    have e3 : (cls j != cls j') = false := by simp [hjj]
    simp only [e3, cond_false]
    by_cases hst : (st.length : Int) = cls j
    case neg =>
      have : ((st.length : Int) != cls j) = true := by simpa using hst
      simp only [this, cond_true]
    have e4 : ((st.length : Int) != cls j) = false := by simp [hst]
    have hb := cls_b ⟨j, hj⟩
    simp only at hb
    obtain ⟨s1, b1⟩ := t34 (s := st) hF (by omega) hk hj h1 (by omega)
    rw [← hjj] at h1'
    have sl : (xorL (bodyL (cls j).toNat c k) st).length = (cls j).toNat := by rw [xorL_len (by omega), b1]
    obtain ⟨s2, b2⟩ := t34 (s := xorL (bodyL (cls j).toNat c k) st) hF (by omega) hl hj h1' sl
    have xl : (xorL (bodyL (cls j).toNat o l) (xorL (bodyL (cls j).toNat c k) st)).length = (cls j).toNat := by rw [xorL_len (by omega), b2]
    obtain ⟨s3, _⟩ := t34 (s := xorL (bodyL (cls j).toNat o l) (xorL (bodyL (cls j).toNat c k) st)) hF (by omega) hl hj h1' xl
    rw [xorL_cancel (by omega)] at s3
    simp only [e4, cond_false, s1, Option.bind_some, T36, T36c, s2, s3]
    generalize hS : xorL (bodyL (cls j).toNat c k) st = S at *
    generalize hB : bodyL (cls j).toNat o l = B at *
    generalize hX : xorL B S = X at *
    have e0 : ((0 : Int) != 0) = false := by decide
    have e5 : (S != S) = false := by simp
    have e6 : ((X.length : Int) != cls j) = false := by simp; omega
    simp only [e0, e5, e6, cond_false]
    have g1 : grem at_ (cls j) = some (at_.tmod (cls j)) := by unfold grem; rw [if_neg (by omega)]
    have m1 : -(cls j) < at_.tmod (cls j) ∧ at_.tmod (cls j) < cls j := by
      have h := Int.tmod_lt_of_pos at_ (show 0 < cls j by omega)
      have h' := Int.lt_tmod_of_pos at_ (show 0 < cls j by omega)
      exact ⟨h', h⟩
    have w1 : w64 (at_.tmod (cls j) + cls j) = at_.tmod (cls j) + cls j := w64_in (by omega) (by omega)
    have g2 : grem (at_.tmod (cls j) + cls j) (cls j) = some ((at_.tmod (cls j) + cls j).tmod (cls j)) := by unfold grem; rw [if_neg (by omega)]
    have m2 : 0 ≤ (at_.tmod (cls j) + cls j).tmod (cls j) ∧ (at_.tmod (cls j) + cls j).tmod (cls j) < cls j :=
      ⟨Int.tmod_nonneg _ (by omega), Int.tmod_lt_of_pos _ (by omega)⟩
    rw [g1]
    simp only [Option.bind_some, w1]
    rw [g2]
    simp only [Option.bind_some]
    generalize (at_.tmod (cls j) + cls j).tmod (cls j) = i at *
    obtain ⟨n, rfl⟩ := Int.eq_ofNat_of_zero_le m2.1
    have hn : n < X.length := by omega
    have g3 : inb X.length (n : Int) = some n := by unfold inb; rw [if_pos (by omega)]; simp
    simp only [g3, Option.bind_some, List.getElem?_eq_getElem hn]
    have xl2 : (X.set n (X[n] ^^^ UInt8.ofNat 1)).length = (cls j).toNat := by simp [xl]
    obtain ⟨s4, _⟩ := t34 (s := X.set n (X[n] ^^^ UInt8.ofNat 1)) hF (by omega) hl hj h1' xl2
    rw [hB] at s4
    simp only [s4, Option.bind_some, beq_self_eq_true, cond_true, Option.some.injEq]
    rw [bne_iff_ne]
    intro he
    have hS2 : S = xorL B X := by rw [← hX, xorL_cancel (by omega)]
    have g : (xorL B (X.set n (X[n] ^^^ UInt8.ofNat 1)))[n]? = S[n]? := by rw [he]
    rw [hS2, xorL_get (by omega) (by omega), xorL_get (by omega) (by omega)] at g
    simp only [List.getElem_set_self, Option.some.injEq] at g
    exact xor_one _ _ g
theorem plaw12 (st k c o l : List UInt8) (at_ : Int) (_ : st.length ≤ maxLen) (_ : k.length ≤ maxLen) (_ : c.length ≤ maxLen) (_ : o.length ≤ maxLen) (_ : l.length ≤ maxLen) (hr : -9223372036854775808 ≤ at_ ∧ at_ ≤ 9223372036854775807) : T12 50000 st k c o l at_ = some true := law12 (by omega) awake50k st k c o l at_ hr
end Go.Proofs.YtjghgfohpihhfaaDoor
