/- The classes of seal, and of its specification: plain laws. -/
import Derived.Test.YtjghgfohpihhfaaDoorH2
namespace Go.Proofs.YtjghgfohpihhfaaDoor
open Go.Tw
set_option linter.unusedVariables false

/-- The class of a number. -/
def cls (k : Nat) : Int := 2 ^ (k / 4) * (64 + 16 * (k % 4 : Nat))
/-- The first class from the k-th on that is at least need. -/
def fc (need : Int) : Nat → Nat → Int
  | 0, k => cls k
  | m + 1, k => bif decide (cls k < need) then fc need m (k + 1) else cls k

theorem t59 {k : Nat} (hk : k < 39) (F : Nat) : T59 F (2 ^ (k / 4) : Int) ((k % 4 : Nat) : Int) = some (cls k, (2 ^ ((k + 1) / 4) : Int), (((k + 1) % 4 : Nat) : Int)) := by
  have : ∀ k : Fin 39, T59 0 (2 ^ (k.val / 4) : Int) ((k.val % 4 : Nat) : Int) = some (cls k.val, (2 ^ ((k.val + 1) / 4) : Int), (((k.val + 1) % 4 : Nat) : Int)) := by decide
  exact this ⟨k, hk⟩

theorem loop14 (F : Nat) (need : Int) : ∀ (m k fuel : Nat), k + m = 37 → m < fuel → need ≤ cls 37 → iter (fun s : Int × Int × Int => L14_2 F need s.1 s.2.1 s.2.2) fuel (cls k, (2 ^ ((k + 1) / 4) : Int), (((k + 1) % 4 : Nat) : Int)) = some (fc need m k)
  | 0, k, fuel + 1, hk, hf, hn => by
    have : k = 37 := by omega
    subst this
    have h : ¬ cls 37 < need := by omega
    simp [iter, L14_2, L14_2c, h, fc]
  | m + 1, k, fuel + 1, hk, hf, hn => by
    by_cases h : cls k < need
    · simp only [iter, L14_2, L14_2c, h, decide_true, cond_true, fc]
      rw [t59 (by omega)]
      simp only [Option.bind_some]
      exact loop14 F need m (k + 1) fuel (by omega) (by omega) hn
    · simp [iter, L14_2, L14_2c, h, fc]

theorem c42 {j b : Nat} (hj : j < 10) (hb : b < 4) : w64 ((64 * 2 ^ j : Int) + w64 (w64 (Int.tdiv (64 * 2 ^ j : Int) 4) * ((b : Nat) : Int))) = cls (4 * j + b) := by
  have : ∀ (j : Fin 10) (b : Fin 4), w64 ((64 * 2 ^ j.val : Int) + w64 (w64 (Int.tdiv (64 * 2 ^ j.val : Int) 4) * ((b.val : Nat) : Int))) = cls (4 * j.val + b.val) := by decide
  exact this ⟨j, hj⟩ ⟨b, hb⟩

theorem in_step (F : Nat) (need : Int) {j b : Nat} (hj : j < 10) (hb : b < 4) (n : Nat) : iter (fun s => L42_4 F need (64 * 2 ^ j : Int) s) (n + 1) ((b : Nat) : Int) = bif decide (need ≤ cls (4 * j + b)) then some (.inr (cls (4 * j + b))) else iter (fun s => L42_4 F need (64 * 2 ^ j : Int) s) n ((b + 1 : Nat) : Int) := by
  have h1 : ((b : Nat) : Int) < 4 := by omega
  have h2 : w64 (((b : Nat) : Int) + 1) = ((b + 1 : Nat) : Int) := by rw [w64_in (by omega) (by omega)]; omega
  simp only [iter, L42_4, L42_4c, h1, decide_true, cond_true, c42 hj hb, h2]
  cases decide (need ≤ cls (4 * j + b)) <;> rfl

theorem in_last (F : Nat) (need base : Int) (n : Nat) : iter (fun s => L42_4 F need base s) (n + 1) ((4 : Nat) : Int) = some (.inl ()) := by
  simp [iter, L42_4, L42_4c]

theorem fc_step (need : Int) (m k : Nat) : fc need (m + 1) k = bif decide (need ≤ cls k) then cls k else fc need m (k + 1) := by
  simp only [fc]
  by_cases h : cls k < need
  · have h' : ¬ need ≤ cls k := by omega
    simp [h, h']
  · have h' : need ≤ cls k := by omega
    simp [h, h']

theorem dbl {j : Nat} (hj : j < 9) : w64 ((2 : Int) * (64 * 2 ^ j : Int)) = (64 * 2 ^ (j + 1) : Int) := by
  have : ∀ (j : Fin 9), w64 ((2 : Int) * (64 * 2 ^ j.val : Int)) = (64 * 2 ^ (j.val + 1) : Int) := by decide
  exact this ⟨j, hj⟩

theorem inner (F : Nat) (need : Int) {j : Nat} (hj : j < 10) (hF : 5 ≤ F) : iter (fun s => L42_4 F need (64 * 2 ^ j : Int) s) F (0 : Int) = some (bif decide (need ≤ cls (4 * j)) then .inr (cls (4 * j)) else bif decide (need ≤ cls (4 * j + 1)) then .inr (cls (4 * j + 1)) else bif decide (need ≤ cls (4 * j + 2)) then .inr (cls (4 * j + 2)) else bif decide (need ≤ cls (4 * j + 3)) then .inr (cls (4 * j + 3)) else .inl ()) := by
  obtain ⟨n, rfl⟩ : ∃ n, F = n + 5 := ⟨F - 5, by omega⟩
  have h0 := in_step (n + 5) need hj (b := 0) (by omega) (n + 4)
  have h1 := in_step (n + 5) need hj (b := 1) (by omega) (n + 3)
  have h2 := in_step (n + 5) need hj (b := 2) (by omega) (n + 2)
  have h3 := in_step (n + 5) need hj (b := 3) (by omega) (n + 1)
  have h4 := in_last (n + 5) need (64 * 2 ^ j : Int) n
  have e0 : (0 : Int) = ((0 : Nat) : Int) := rfl
  rw [e0, h0, h1, h2, h3, h4]
  simp only [Nat.add_zero]
  cases decide (need ≤ cls (4 * j)) <;> cases decide (need ≤ cls (4 * j + 1)) <;> cases decide (need ≤ cls (4 * j + 2)) <;> cases decide (need ≤ cls (4 * j + 3)) <;> rfl

theorem loop42 (F : Nat) (need : Int) (hF : 5 ≤ F) (hn : need ≤ cls 37) : ∀ (i j fuel : Nat), j + i = 9 → i < fuel → iter (fun s => L42_3 F need s) fuel (64 * 2 ^ j : Int) = some (fc need (37 - 4 * j) (4 * j))
  | 0, j, fuel + 1, hj, hf => by
    have : j = 9 := by omega
    subst this
    simp only [iter, L42_3, L42_3c]
    rw [inner F need (j := 9) (by omega) hF]
    have e1 : decide (need ≤ cls (4 * 9 + 1)) = true := by simpa using hn
    simp only [e1, Option.bind_some]
    show _ = some (fc need 1 36)
    rw [fc_step]
    show _ = some (bif decide (need ≤ cls (4 * 9)) then cls (4 * 9) else cls (4 * 9 + 1))
    cases decide (need ≤ cls (4 * 9)) <;> rfl
  | i + 1, j, fuel + 1, hj, hf => by
    simp only [iter, L42_3, L42_3c]
    rw [inner F need (j := j) (by omega) hF]
    have ih := loop42 F need hF hn i (j + 1) fuel (by omega) (by omega)
    obtain ⟨m, hm⟩ : ∃ m, 37 - 4 * j = m + 4 := ⟨33 - 4 * j, by omega⟩
    have hm' : 37 - 4 * (j + 1) = m := by omega
    rw [hm, fc_step, fc_step, fc_step, fc_step]
    rw [hm'] at ih
    rw [show 4 * j + 1 + 1 = 4 * j + 2 from rfl, show 4 * j + 2 + 1 = 4 * j + 3 from rfl, show 4 * j + 3 + 1 = 4 * (j + 1) from by omega]
    cases decide (need ≤ cls (4 * j)) <;> cases decide (need ≤ cls (4 * j + 1)) <;> cases decide (need ≤ cls (4 * j + 2)) <;> cases decide (need ≤ cls (4 * j + 3)) <;>
      simp only [cond_true, cond_false, Option.bind_some, elimS, dbl (show j < 9 by omega)]
    exact ih

theorem shr7 (x : UInt64) : (shr64 x 7).toNat = x.toNat / 128 := by
  show (x.toBitVec >>> 7).toNat = _
  rw [BitVec.toNat_ushiftRight, Nat.shiftRight_eq_div_pow]; rfl

def sz (n : Nat) : Nat := if n < 128 then 1 else if n < 16384 then 2 else 3

theorem it_again {σ ρ : Type} {f : σ → Option (σ ⊕ ρ)} {n : Nat} {s s' : σ} (h : f s = some (.inl s')) : iter f (n + 1) s = iter f n s' := by simp [iter, h]
theorem it_out {σ ρ : Type} {f : σ → Option (σ ⊕ ρ)} {n : Nat} {s : σ} {r : ρ} (h : f s = some (.inr r)) : iter f (n + 1) s = some r := by simp [iter, h]

theorem l40_again (F : Nat) {x : UInt64} {c : Int} (h : 128 ≤ x.toNat) : L40_2 F x c = some (.inl (shr64 x 7, w64 (c + 1))) := by
  have : UInt64.ofNat 128 ≤ x := h
  simp only [L40_2, L40_2c, this, decide_true, cond_true]; rfl
theorem l40_out (F : Nat) {x : UInt64} {c : Int} (h : ¬ 128 ≤ x.toNat) : L40_2 F x c = some (.inr c) := by
  have : ¬ UInt64.ofNat 128 ≤ x := h
  simp only [L40_2, L40_2c, this, decide_false, cond_false]

theorem t40 {F : Nat} (hF : 4 < F) (x : UInt64) (hx : x.toNat ≤ 32768) : T40 F x = some ((sz x.toNat : Nat) : Int) := by
  obtain ⟨n, rfl⟩ : ∃ n, F = n + 4 := ⟨F - 4, by omega⟩
  have w1 : w64 ((1 : Int) + 1) = 2 := by decide
  have w2 : w64 ((2 : Int) + 1) = 3 := by decide
  have d1 := shr7 x
  have d2 := shr7 (shr64 x 7)
  simp only [T40, T40c]
  by_cases h1 : x.toNat < 128
  · rw [it_out (l40_out _ (x := x) (by omega))]; simp [sz, h1]
  · rw [it_again (l40_again _ (x := x) (by omega)), w1]
    by_cases h2 : x.toNat < 16384
    · rw [it_out (l40_out _ (x := shr64 x 7) (by omega))]; simp [sz, h1, h2]
    · rw [it_again (l40_again _ (x := shr64 x 7) (by omega)), w2, it_out (l40_out _ (x := shr64 (shr64 x 7) 7) (by omega))]; simp [sz, h1, h2]

theorem div128 (x : UInt64) : (x / UInt64.ofNat 128).toNat = x.toNat / 128 := by
  rw [UInt64.toNat_div]; rfl

theorem l45_again (F : Nat) {x : UInt64} {l : List UInt8} (h : 127 < x.toNat) (hl : l.length < 100) : ∃ b, L45_2 F x l = some (.inl (x / UInt64.ofNat 128, l ++ [b])) := by
  have : UInt64.ofNat 127 < x := h
  refine ⟨((x % (UInt64.ofNat 128)).toUInt8) + (UInt8.ofNat 128), ?_⟩
  simp only [L45_2, L45_2c, this, decide_true, cond_true, gapp]
  rw [if_pos (by simp; omega)]; rfl
theorem l45_out (F : Nat) {x : UInt64} {l : List UInt8} (h : ¬ 127 < x.toNat) : L45_2 F x l = some (.inr (x, l)) := by
  have : ¬ UInt64.ofNat 127 < x := h
  simp only [L45_2, L45_2c, this, decide_false, cond_false]

theorem t45 {F : Nat} (hF : 4 < F) (x : UInt64) (hx : x.toNat ≤ 32768) : ∃ l, T45 F x = some l ∧ l.length = sz x.toNat := by
  obtain ⟨n, rfl⟩ : ∃ n, F = n + 4 := ⟨F - 4, by omega⟩
  have d1 := div128 x
  have d2 := div128 (x / UInt64.ofNat 128)
  simp only [T45, T45c]
  by_cases h1 : x.toNat < 128
  · rw [it_out (l45_out _ (x := x) (by omega))]; simp [sz, h1, gapp]
  · obtain ⟨b, hb⟩ := l45_again (n + 4) (x := x) (l := []) (by omega) (by simp)
    rw [it_again (f := fun s : UInt64 × List UInt8 => L45_2 (n + 4) s.1 s.2) (s := (x, [])) hb]
    by_cases h2 : x.toNat < 16384
    · rw [it_out (l45_out _ (x := x / UInt64.ofNat 128) (by omega))]; simp [sz, h1, h2, gapp]
    · obtain ⟨b', hb'⟩ := l45_again (n + 4) (x := x / UInt64.ofNat 128) (l := [] ++ [b]) (by omega) (by simp)
      rw [it_again (f := fun s : UInt64 × List UInt8 => L45_2 (n + 4) s.1 s.2) (s := (x / UInt64.ofNat 128, [] ++ [b])) hb', it_out (l45_out _ (x := x / UInt64.ofNat 128 / UInt64.ofNat 128) (by omega))]; simp [sz, h1, h2, gapp]

/-- Both find the class alike. -/
theorem class_eq {F : Nat} (hF : 50 < F) (n : Int) : ∃ r, T14 F n = some r ∧ T15 F n = some r := by
  simp only [T14, T14c, T15, T15c]
  by_cases h0 : n < 0
  · simp [h0]
  by_cases h1 : 32768 < n
  · simp [h0, h1]
  simp only [h0, h1, decide_false, cond_false]
  have hx : (UInt64.ofInt n).toNat = n.toNat := by
    show (UInt64.ofNat (n % 2 ^ 64).toNat).toNat = _
    rw [UInt64.toNat_ofNat']; omega
  have hx' : (UInt64.ofInt n).toNat ≤ 32768 := by omega
  obtain ⟨l, hl, hll⟩ := t45 (F := F) (by omega) (UInt64.ofInt n) hx'
  have h41 : T41 F = some ((2 ^ (0 / 4) : Int), ((0 % 4 : Nat) : Int)) := rfl
  have hs : 1 ≤ sz (UInt64.ofInt n).toNat ∧ sz (UInt64.ofInt n).toNat ≤ 3 := by unfold sz; split <;> (try split) <;> omega
  have hneed : w64 (w64 (((sz (UInt64.ofInt n).toNat : Nat) : Int) + n) + 16) ≤ cls 37 := by
    rw [w64_in (n := ((sz (UInt64.ofInt n).toNat : Nat) : Int) + n) (by omega) (by omega), w64_in (by omega) (by omega)]
    have : cls 37 = 40960 := by decide
    omega
  rw [t40 (by omega) _ hx', h41]
  simp only [Option.bind_some]
  rw [t59 (k := 0) (by omega)]
  simp only [Option.bind_some]
  have l14 := loop14 F (w64 (w64 (((sz (UInt64.ofInt n).toNat : Nat) : Int) + n) + 16)) 37 0 F (by omega) (by omega) hneed
  rw [l14]
  have h43 : T43 F n = some (w64 (w64 (((sz (UInt64.ofInt n).toNat : Nat) : Int) + n) + 16)) := by
    simp only [T43, T43c, hl, Option.bind_some, hll]
  have l42 := loop42 F (w64 (w64 (((sz (UInt64.ofInt n).toNat : Nat) : Int) + n) + 16)) (by omega) hneed 9 0 F (by omega) (by omega)
  have h42 : T42 F (w64 (w64 (((sz (UInt64.ofInt n).toNat : Nat) : Int) + n) + 16)) = some (fc (w64 (w64 (((sz (UInt64.ofInt n).toNat : Nat) : Int) + n) + 16)) 37 0) := by
    simp only [T42, T42c]
    have e : (64 : Int) = 64 * 2 ^ 0 := by decide
    rw [e, l42]; rfl
  rw [h43]
  simp only [Option.bind_some, h42]
  exact ⟨_, rfl, rfl⟩
end Go.Proofs.YtjghgfohpihhfaaDoor
/- SealClass: the plain law. -/
namespace Go.Proofs.YtjghgfohpihhfaaDoor
open Go.Tw
theorem awake16 : T16 1000 = some true := by kernel_rfl
theorem law3 {F : Nat} (hF : 50 < F) (ha : T16 F = some true) (n : Int) : T3 F n = some true := by
  obtain ⟨r, h1, h2⟩ := class_eq hF n
  simp only [T3, T3c, h1, h2, ha, Option.bind_some, cond_true, beq_self_eq_true]
theorem plaw3 (n : Int) (_ : -9223372036854775808 ≤ n ∧ n ≤ 9223372036854775807) : T3 1000 n = some true := law3 (by omega) awake16 n
end Go.Proofs.YtjghgfohpihhfaaDoor
/- The classes in numbers; SealClasses: the plain law. -/
namespace Go.Proofs.YtjghgfohpihhfaaDoor
open Go.Tw
set_option linter.unusedVariables false

def need (n : Int) : Int := w64 (w64 (((sz (UInt64.ofInt n).toNat : Nat) : Int) + n) + 16)

theorem ofInt_nat {n : Int} (h0 : 0 ≤ n) (h1 : n ≤ 32768) : (UInt64.ofInt n).toNat = n.toNat := by
  show (UInt64.ofNat (n % 2 ^ 64).toNat).toNat = _
  rw [UInt64.toNat_ofNat']; omega

theorem need_eq {n : Int} (h0 : 0 ≤ n) (h1 : n ≤ 32768) : need n = (sz n.toNat : Nat) + n + 16 := by
  have hs : 1 ≤ sz n.toNat ∧ sz n.toNat ≤ 3 := by unfold sz; split <;> (try split) <;> omega
  unfold need
  rw [ofInt_nat h0 h1, w64_in (n := ((sz n.toNat : Nat) : Int) + n) (by omega) (by omega), w64_in (by omega) (by omega)]

theorem sz_bd (n : Nat) : 1 ≤ sz n ∧ sz n ≤ 3 := by unfold sz; split <;> (try split) <;> omega

theorem need_le {n : Int} (h0 : 0 ≤ n) (h1 : n ≤ 32768) : need n ≤ cls 37 := by
  have := sz_bd n.toNat
  have : cls 37 = 40960 := by decide
  rw [need_eq h0 h1]; omega

theorem t14_eq {F : Nat} (hF : 50 < F) {n : Int} (h0 : 0 ≤ n) (h1 : n ≤ 32768) : T14 F n = some (fc (need n) 37 0, 0) := by
  have hx := ofInt_nat h0 h1
  have a0 : ¬ n < 0 := by omega
  have a1 : ¬ 32768 < n := by omega
  simp only [T14, T14c, a0, a1, decide_false, cond_false]
  have h41 : T41 F = some ((2 ^ (0 / 4) : Int), ((0 % 4 : Nat) : Int)) := rfl
  rw [t40 (by omega) _ (by omega), h41]
  simp only [Option.bind_some]
  rw [t59 (k := 0) (by omega)]
  simp only [Option.bind_some]
  have l14 := loop14 F (need n) 37 0 F (by omega) (by omega) (need_le h0 h1)
  unfold need at l14
  rw [l14]; rfl

theorem t14_lo {F : Nat} {n : Int} (h : n < 0) : T14 F n = some (0, 1) := by simp [T14, T14c, h]
theorem t14_hi {F : Nat} {n : Int} (h : 32768 < n) : T14 F n = some (0, 2) := by
  have : ¬ n < 0 := by omega
  simp [T14, T14c, h, this]

theorem fc_spec (need : Int) : ∀ (m k : Nat), need ≤ cls (k + m) → ∃ j, k ≤ j ∧ j ≤ k + m ∧ fc need m k = cls j ∧ need ≤ cls j ∧ (j = k ∨ cls (j - 1) < need)
  | 0, k, h => ⟨k, by omega, by omega, rfl, h, .inl rfl⟩
  | m + 1, k, h => by
    by_cases hk : cls k < need
    · obtain ⟨j, h1, h2, h3, h4, h5⟩ := fc_spec need m (k + 1) (by rw [show k + 1 + m = k + (m + 1) by omega]; exact h)
      refine ⟨j, by omega, by omega, by simp [fc, hk, h3], h4, .inr ?_⟩
      rcases h5 with rfl | h5
      · simpa using hk
      · exact h5
    · exact ⟨k, by omega, by omega, by simp [fc, hk], by omega, .inl rfl⟩

/-- The class of a length. -/
theorem class_spec {F : Nat} (hF : 50 < F) {n : Int} (h0 : 0 ≤ n) (h1 : n ≤ 32768) : ∃ j, j < 38 ∧ T14 F n = some (cls j, 0) ∧ (sz n.toNat : Nat) + n + 16 ≤ cls j ∧ (j = 0 ∨ cls (j - 1) < (sz n.toNat : Nat) + n + 16) := by
  obtain ⟨j, a1, a2, a3, a4, a5⟩ := fc_spec (need n) 37 0 (need_le h0 h1)
  rw [need_eq h0 h1] at a4 a5
  exact ⟨j, by omega, by rw [t14_eq hF h0 h1, a3], a4, a5⟩

def clist : List Int := (List.range 38).map cls

theorem t39 : T39 1000 = some clist := by kernel_rfl

theorem found : ∀ j : Fin 38, iter (fun s : Bool × Int => L13_2 1000 (cls j.val) clist s.1 s.2) 1000 (false, (0 : Int)) = some (.inl true) := by decide +kernel
theorem found0 : iter (fun s : Bool × Int => L13_2 1000 0 clist s.1 s.2) 1000 (false, (0 : Int)) = some (.inl false) := by kernel_rfl

theorem cls_q : ∀ j : Fin 38, j.val = 0 ∨ cls j.val - (cls j.val).tdiv 4 ≤ cls (j.val - 1) := by decide +kernel
theorem cls_b : ∀ j : Fin 38, 64 ≤ cls j.val ∧ cls j.val ≤ 40960 ∧ 0 ≤ (cls j.val).tdiv 4 ∧ (cls j.val).tdiv 4 ≤ 40960 := by decide +kernel

theorem cl_len : clist.length = 38 := by decide +kernel
theorem cl_i0 : inb 38 (0 : Int) = some 0 := by decide +kernel
theorem cl_0 : clist[0]? = some 64 := by decide +kernel
theorem cl_i37 : inb 38 (w64 (((38 : Nat) : Int) - 1)) = some 37 := by decide +kernel
theorem cl_37 : clist[37]? = some 40960 := by decide +kernel

theorem law13 {F : Nat} (hF : 50 < F) (ha : T16 F = some true) (h39 : T39 F = some clist) (hf : ∀ j : Fin 38, iter (fun s : Bool × Int => L13_2 F (cls j.val) clist s.1 s.2) F (false, (0 : Int)) = some (.inl true))
    (hf0 : iter (fun s : Bool × Int => L13_2 F 0 clist s.1 s.2) F (false, (0 : Int)) = some (.inl false)) (n : Int) (hn : -9223372036854775808 ≤ n ∧ n ≤ 9223372036854775807) : T13 F n = some true := by
  simp only [T13, T13c, h39, ha, Option.bind_some, Bool.not_true, cond_false, cl_len, cl_i0, cl_0, cl_i37, cl_37]
  have e1 : (((38 : Nat) : Int) == 0) = false := by decide
  have e2 : ((64 : Int) != 64) = false := by decide
  have e3 : ((40960 : Int) != 40960) = false := by decide
  simp only [e1, e2, e3, cond_false]
  by_cases h0 : n < 0
  · simp only [t14_lo h0, Option.bind_some, hf0, elimS]
    simp [h0]
  by_cases h1 : 32768 < n
  · simp only [t14_hi h1, Option.bind_some, hf0, elimS]
    simp [h0, h1]
  obtain ⟨j, hj, hc, h2, h3⟩ := class_spec hF (n := n) (by omega) (by omega)
  have hb := sz_bd n.toNat
  have hcb := cls_b ⟨j, hj⟩
  have hcq := cls_q ⟨j, hj⟩
  simp only at hcb hcq
  simp only [hc, Option.bind_some, hf ⟨j, hj⟩, elimS]
  have e4 : ((0 : Int) != 0) = false := by decide
  have w1 : w64 (n + 17) = n + 17 := w64_in (by omega) (by omega)
  have w2 : w64 (n + 19) = n + 19 := w64_in (by omega) (by omega)
  have w3 : w64 ((cls j).tdiv 4) = (cls j).tdiv 4 := w64_in (by omega) (by omega)
  have w4 : w64 (cls j - (cls j).tdiv 4) = cls j - (cls j).tdiv 4 := w64_in (by omega) (by omega)
  have h4 : n + 17 ≤ cls j := by omega
  simp only [e4, cond_false, cond_true, w1, w2, w3, w4, h4, decide_true]
  rcases h3 with rfl | h3
  · rfl
  · rcases hcq with rfl | hcq
    · rfl
    · have h5 : cls j - (cls j).tdiv 4 < n + 19 := by omega
      simp only [h5, decide_true]
      cases (cls j == 64) <;> rfl
theorem plaw13 (n : Int) (hn : -9223372036854775808 ≤ n ∧ n ≤ 9223372036854775807) : T13 1000 n = some true := law13 (by omega) awake16 t39 found found0 n hn
end Go.Proofs.YtjghgfohpihhfaaDoor
/- Numbers as bytes; bodies; SealBody: the plain law. -/
namespace Go.Proofs.YtjghgfohpihhfaaDoor
open Go.Tw
set_option linter.unusedVariables false

/-- The bytes of a number: at most m + 1. -/
def encN : Nat → Nat → List UInt8
  | 0, n => [UInt8.ofNat n]
  | m + 1, n => if n < 128 then [UInt8.ofNat n] else UInt8.ofNat (n % 128 + 128) :: encN m (n / 128)

theorem encN_len : ∀ (m n : Nat), (encN m n).length ≤ m + 1 ∧ 1 ≤ (encN m n).length
  | 0, n => by simp [encN]
  | m + 1, n => by
    have := encN_len m (n / 128)
    simp only [encN]; split <;> simp <;> omega

theorem or128 : ∀ b : Fin 256, (UInt8.ofNat b.val ||| UInt8.ofNat 128) = UInt8.ofNat (b.val % 128 + 128) := by decide +kernel

theorem u8_of (x : UInt64) : x.toUInt8 = UInt8.ofNat x.toNat := by
  apply UInt8.toNat_inj.1
  rw [UInt64.toNat_toUInt8, UInt8.toNat_ofNat']

theorem byte60 (x : UInt64) : (x.toUInt8 ||| UInt8.ofNat 128) = UInt8.ofNat (x.toNat % 128 + 128) := by
  have h := or128 ⟨x.toNat % 256, Nat.mod_lt _ (by omega)⟩
  simp only at h
  have e : UInt8.ofNat (x.toNat % 256) = x.toUInt8 := by
    apply UInt8.toNat_inj.1
    rw [UInt64.toNat_toUInt8, UInt8.toNat_ofNat']; omega
  rw [e] at h
  rw [h]
  congr 1; omega

theorem byte45 (x : UInt64) : ((x % (UInt64.ofNat 128)).toUInt8) + (UInt8.ofNat 128) = UInt8.ofNat (x.toNat % 128 + 128) := by
  apply UInt8.toNat_inj.1
  rw [UInt8.toNat_add, UInt64.toNat_toUInt8, UInt64.toNat_mod, UInt8.toNat_ofNat', UInt8.toNat_ofNat']
  have : (UInt64.ofNat 128).toNat = 128 := rfl
  rw [this]; omega

theorem l60 (F : Nat) : ∀ (m fuel : Nat) (x : UInt64) (l : List UInt8), x.toNat < 128 ^ (m + 1) → m < fuel → l.length + m < 1000000 → ∃ y pre, iter (fun s : UInt64 × List UInt8 => L60_2 F s.1 s.2) fuel (x, l) = some (y, l ++ pre) ∧ pre ++ [y.toUInt8] = encN m x.toNat ∧ pre.length ≤ m
  | m, 0, x, l, hx, hf, hl => by omega
  | 0, fuel + 1, x, l, hx, hf, hl => by
    have h : ¬ UInt64.ofNat 128 ≤ x := by
      show ¬ (128 ≤ x.toNat); omega
    have step : L60_2 F x l = some (.inr (x, l)) := by simp only [L60_2, L60_2c, h, decide_false, cond_false]
    refine ⟨x, [], ?_, by rw [List.nil_append, u8_of]; simp only [encN], by simp⟩
    rw [it_out (f := fun s : UInt64 × List UInt8 => L60_2 F s.1 s.2) (s := (x, l)) step]; simp
  | m + 1, fuel + 1, x, l, hx, hf, hl => by
    by_cases h : 128 ≤ x.toNat
    · have h' : UInt64.ofNat 128 ≤ x := h
      have hd := shr7 x
      have hlt : (shr64 x 7).toNat < 128 ^ (m + 1) := by rw [hd]; exact Nat.div_lt_of_lt_mul (by rw [Nat.pow_succ] at hx; omega)
      obtain ⟨y, pre, h1, h2, h3⟩ := l60 F m fuel (shr64 x 7) (l ++ [UInt8.ofNat (x.toNat % 128 + 128)]) hlt (by omega) (by simp; omega)
      refine ⟨y, UInt8.ofNat (x.toNat % 128 + 128) :: pre, ?_, ?_, by simp; omega⟩
      · have e7 : (UInt64.ofNat 7).toNat = 7 := rfl
        have hg : gapp l [x.toUInt8 ||| UInt8.ofNat 128] = some (l ++ [UInt8.ofNat (x.toNat % 128 + 128)]) := by
          rw [byte60]; unfold gapp; rw [if_pos (by simp; omega)]
        have step : L60_2 F x l = some (.inl (shr64 x 7, l ++ [UInt8.ofNat (x.toNat % 128 + 128)])) := by
          simp only [L60_2, L60_2c, h', decide_true, cond_true, hg, Option.bind_some, e7]
        rw [it_again (f := fun s : UInt64 × List UInt8 => L60_2 F s.1 s.2) (s := (x, l)) step, h1]
        simp
      · rw [List.cons_append, h2, hd]
        simp [encN, show ¬ x.toNat < 128 by omega]
    · have h' : ¬ UInt64.ofNat 128 ≤ x := h
      have step : L60_2 F x l = some (.inr (x, l)) := by simp only [L60_2, L60_2c, h', decide_false, cond_false]
      refine ⟨x, [], ?_, by rw [List.nil_append, u8_of]; simp only [encN, show x.toNat < 128 by omega, if_true], by simp⟩
      rw [it_out (f := fun s : UInt64 × List UInt8 => L60_2 F s.1 s.2) (s := (x, l)) step]; simp

theorem l45 (F : Nat) : ∀ (m fuel : Nat) (x : UInt64) (l : List UInt8), x.toNat < 128 ^ (m + 1) → m < fuel → l.length + m < 1000000 → ∃ y pre, iter (fun s : UInt64 × List UInt8 => L45_2 F s.1 s.2) fuel (x, l) = some (y, l ++ pre) ∧ pre ++ [y.toUInt8] = encN m x.toNat ∧ pre.length ≤ m
  | m, 0, x, l, hx, hf, hl => by omega
  | 0, fuel + 1, x, l, hx, hf, hl => by
    have h : ¬ UInt64.ofNat 127 < x := by
      show ¬ (127 < x.toNat); omega
    have step : L45_2 F x l = some (.inr (x, l)) := by simp only [L45_2, L45_2c, h, decide_false, cond_false]
    refine ⟨x, [], ?_, by rw [List.nil_append, u8_of]; simp only [encN], by simp⟩
    rw [it_out (f := fun s : UInt64 × List UInt8 => L45_2 F s.1 s.2) (s := (x, l)) step]; simp
  | m + 1, fuel + 1, x, l, hx, hf, hl => by
    by_cases h : 127 < x.toNat
    · have h' : UInt64.ofNat 127 < x := h
      have hd := div128 x
      have hlt : (x / UInt64.ofNat 128).toNat < 128 ^ (m + 1) := by rw [hd]; exact Nat.div_lt_of_lt_mul (by rw [Nat.pow_succ] at hx; omega)
      obtain ⟨y, pre, h1, h2, h3⟩ := l45 F m fuel (x / UInt64.ofNat 128) (l ++ [UInt8.ofNat (x.toNat % 128 + 128)]) hlt (by omega) (by simp; omega)
      refine ⟨y, UInt8.ofNat (x.toNat % 128 + 128) :: pre, ?_, ?_, by simp; omega⟩
      · have hg : gapp l [((x % (UInt64.ofNat 128)).toUInt8) + (UInt8.ofNat 128)] = some (l ++ [UInt8.ofNat (x.toNat % 128 + 128)]) := by
          rw [byte45]; unfold gapp; rw [if_pos (by simp; omega)]
        have step : L45_2 F x l = some (.inl (x / UInt64.ofNat 128, l ++ [UInt8.ofNat (x.toNat % 128 + 128)])) := by
          simp only [L45_2, L45_2c, h', decide_true, cond_true, hg, Option.bind_some]
        rw [it_again (f := fun s : UInt64 × List UInt8 => L45_2 F s.1 s.2) (s := (x, l)) step, h1]
        simp
      · rw [List.cons_append, h2, hd]
        simp [encN, show ¬ x.toNat < 128 by omega]
    · have h' : ¬ UInt64.ofNat 127 < x := h
      have step : L45_2 F x l = some (.inr (x, l)) := by simp only [L45_2, L45_2c, h', decide_false, cond_false]
      refine ⟨x, [], ?_, by rw [List.nil_append, u8_of]; simp only [encN, show x.toNat < 128 by omega, if_true], by simp⟩
      rw [it_out (f := fun s : UInt64 × List UInt8 => L45_2 F s.1 s.2) (s := (x, l)) step]; simp

/-- The bytes of a number. -/
def enc (n : Nat) : List UInt8 := encN 9 n

theorem u64_lt (x : UInt64) : x.toNat < 128 ^ (9 + 1) := Nat.lt_of_lt_of_le x.toNat_lt (by decide)

theorem t44 {F : Nat} (hF : 50 < F) (x : UInt64) : T44 F [] x = some (enc x.toNat) := by
  obtain ⟨y, pre, h1, h2, h3⟩ := l60 F 9 F x [] (u64_lt x) (by omega) (by simp)
  have w : w64 ((([] : List UInt8).length : Int) + 10) = 10 := by decide
  have g1 : gmake (0 : UInt8) (0 : Int) 10 = some [] := by decide
  have g2 : gapp ([] : List UInt8) [] = some [] := by decide
  simp only [T44, T44c, w, g1, g2, Option.bind_some, T60, T60c]
  rw [h1]
  simp only [Option.bind_some, List.nil_append]
  have : gapp pre [y.toUInt8] = some (pre ++ [y.toUInt8]) := by unfold gapp; rw [if_pos (by simp; omega)]
  rw [this, h2]; rfl

theorem t45' {F : Nat} (hF : 50 < F) (x : UInt64) : T45 F x = some (enc x.toNat) := by
  obtain ⟨y, pre, h1, h2, h3⟩ := l45 F 9 F x [] (u64_lt x) (by omega) (by simp)
  simp only [T45, T45c]
  rw [h1]
  simp only [Option.bind_some, List.nil_append]
  have : gapp pre [y.toUInt8] = some (pre ++ [y.toUInt8]) := by unfold gapp; rw [if_pos (by simp; omega)]
  rw [this, h2]; rfl

theorem encN_one {m n : Nat} (h : n < 128) : encN m n = [UInt8.ofNat n] := by
  cases m <;> simp [encN, h]

theorem enc_len {n : Nat} (h : n ≤ 32768) : (enc n).length = sz n := by
  unfold enc sz
  by_cases h1 : n < 128
  · simp [encN, h1]
  · by_cases h2 : n < 16384
    · simp [encN, h1, h2, show n / 128 < 128 by omega]
    · simp [encN, h1, h2, show ¬ n / 128 < 128 by omega, show n / 128 / 128 < 128 by omega]

/-- A body. -/
def bodyL (D : Nat) (c k : List UInt8) : List UInt8 := enc c.length ++ c ++ List.replicate (D - 16 - (enc c.length).length - c.length) 0 ++ k

theorem splice3 {e c k : List UInt8} {D : Nat} (h : e.length + c.length + 16 ≤ D) (hk : k.length = 16) :
    splice (splice (splice (List.replicate D (0 : UInt8)) 0 e e.length) e.length c c.length) (D - 16) k 16 = e ++ c ++ List.replicate (D - 16 - e.length - c.length) 0 ++ k := by
  have s1 : splice (List.replicate D (0 : UInt8)) 0 e e.length = e ++ List.replicate (D - e.length) 0 := by simp [splice]
  have s2 : splice (e ++ List.replicate (D - e.length) 0) e.length c c.length = e ++ c ++ List.replicate (D - e.length - c.length) 0 := by
    simp only [splice, List.take_left, List.take_length]
    rw [List.drop_append, List.drop_eq_nil_of_le (by omega)]
    simp
  rw [s1, s2]
  have e1 : (e ++ c).length = e.length + c.length := by simp
  simp only [splice]
  rw [List.take_append, List.take_of_length_le (by omega : (e ++ c).length ≤ D - 16), List.take_of_length_le (by omega : k.length ≤ 16), List.drop_eq_nil_of_le (by simp; omega)]
  simp [e1, List.take_replicate]
  omega

theorem splice_len {α : Type} (xs ys : List α) {lo c : Nat} (h1 : lo + c ≤ xs.length) (h2 : c ≤ ys.length) : (splice xs lo ys c).length = xs.length := by simp [splice]; omega

/-- Body, of a content and a check of the right lengths. -/
theorem t18 {F : Nat} (hF : 50 < F) {c k : List UInt8} (hc : c.length ≤ 32768) (hk : k.length = 16) : ∃ j, j < 38 ∧ T14 F (c.length : Int) = some (cls j, 0) ∧ (sz c.length : Nat) + (c.length : Int) + 16 ≤ cls j ∧ T18 F c k = some (0, bodyL (cls j).toNat c k) := by
  obtain ⟨j, hj, h1, h2, _⟩ := class_spec hF (n := (c.length : Int)) (by omega) (by omega)
  have hb := cls_b ⟨j, hj⟩
  simp only at hb
  have hs := sz_bd c.length
  rw [Int.toNat_natCast] at h2
  refine ⟨j, hj, h1, h2, ?_⟩
  have hx : (UInt64.ofInt (c.length : Int)).toNat = c.length := by rw [ofInt_nat (by omega) (by omega)]; simp
  have he := enc_len hc
  have hk' : ((k.length : Int) != 16) = false := by simp [hk]
  have g1 : gmake (0 : UInt8) (cls j) (cls j) = some (List.replicate (cls j).toNat 0) := by unfold gmake; rw [if_pos (by omega)]
  simp only [T18, T18c, hk', cond_false, h1, Option.bind_some, g1, t44 hF, hx]
  have e0 : ((0 : Int) != 0) = false := by decide
  simp only [e0, cond_false]
  have m1 : Nat.min (enc c.length).length (List.replicate (cls j).toNat (0 : UInt8)).length = (enc c.length).length := by
    simp only [List.length_replicate]; exact Nat.min_eq_left (by omega)
  have l1 : (splice (List.replicate (cls j).toNat (0 : UInt8)) 0 (enc c.length) (enc c.length).length).length = (cls j).toNat := by
    rw [splice_len _ _ (by simp; omega) (by omega)]; simp
  rw [m1, l1]
  have g2 : gslb (cls j).toNat (((enc c.length).length : Nat) : Int) (((cls j).toNat : Nat) : Int) = some ((enc c.length).length, (cls j).toNat) := by
    unfold gslb; rw [if_pos (by omega)]; simp only [Int.toNat_natCast]
  rw [g2]
  simp only [Option.bind_some]
  have m2 : Nat.min c.length ((cls j).toNat - (enc c.length).length) = c.length := Nat.min_eq_left (by omega)
  rw [m2]
  have l2 : (splice (splice (List.replicate (cls j).toNat (0 : UInt8)) 0 (enc c.length) (enc c.length).length) (enc c.length).length c c.length).length = (cls j).toNat := by
    rw [splice_len _ _ (by rw [l1]; omega) (by omega), l1]
  rw [l2]
  have w1 : w64 (cls j - 16) = cls j - 16 := w64_in (by omega) (by omega)
  have g3 : gslb (cls j).toNat (cls j - 16) (((cls j).toNat : Nat) : Int) = some ((cls j).toNat - 16, (cls j).toNat) := by
    unfold gslb; rw [if_pos (by omega)]; simp only [Int.toNat_natCast, Option.some.injEq, Prod.mk.injEq, and_true]; omega
  rw [w1, g3]
  simp only [Option.bind_some]
  have m3 : Nat.min k.length ((cls j).toNat - ((cls j).toNat - 16)) = 16 := by rw [hk]; exact Nat.min_eq_left (by omega)
  rw [m3, splice3 (by omega) hk]
  rfl

theorem bodyL_len' {D : Nat} {c k : List UInt8} (hc : c.length ≤ 32768) (hk : k.length = 16) (h : sz c.length + c.length + 16 ≤ D) : (bodyL D c k).length = D := by
  have := enc_len hc
  simp [bodyL, hk, this]; omega

theorem l19 (F : Nat) {C : Int} {D : Nat} (hC : w64 (C - 16) = (D : Int)) : ∀ (m fuel : Nat) (l : List UInt8), l.length + m = D → m < fuel → D < 1000000 → iter (fun s => L19_2 F C s) fuel l = some (l ++ List.replicate m 0)
  | m, 0, l, hl, hf, hD => by omega
  | 0, fuel + 1, l, hl, hf, hD => by
    have h : ¬ ((l.length : Int) < (D : Int)) := by omega
    simp [iter, L19_2, L19_2c, hC, h]
  | m + 1, fuel + 1, l, hl, hf, hD => by
    have h : ((l.length : Int) < (D : Int)) := by omega
    have hg : gapp l [UInt8.ofNat 0] = some (l ++ [0]) := by unfold gapp; rw [if_pos (by simp; omega)]; rfl
    have step : L19_2 F C l = some (.inl (l ++ [0])) := by
      simp only [L19_2, L19_2c, hC, h, decide_true, cond_true, hg, Option.bind_some]
    rw [it_again (f := fun s => L19_2 F C s) (s := l) step, l19 F hC m fuel (l ++ [0]) (by simp; omega) (by omega) hD]
    simp [List.replicate_succ]

theorem t19 {F : Nat} (hF : 41000 < F) {c k : List UInt8} (hc : c.length ≤ 32768) (hk : k.length = 16) {j : Nat} (hj : j < 38) (h1 : T14 F (c.length : Int) = some (cls j, 0)) (h2 : (sz c.length : Nat) + (c.length : Int) + 16 ≤ cls j) : T19 F c k = some (0, bodyL (cls j).toNat c k) := by
  have hb := cls_b ⟨j, hj⟩
  simp only at hb
  obtain ⟨r, e1, e2⟩ := class_eq (F := F) (by omega) (c.length : Int)
  rw [h1] at e1
  cases e1
  have hx : (UInt64.ofInt (c.length : Int)).toNat = c.length := by rw [ofInt_nat (by omega) (by omega)]; simp
  have he := enc_len hc
  have hs := sz_bd c.length
  have hk' : ((k.length : Int) != 16) = false := by simp [hk]
  have e0 : ((0 : Int) != 0) = false := by decide
  have g1 : gapp (enc c.length) c = some (enc c.length ++ c) := by unfold gapp; rw [if_pos (by omega)]
  simp only [T19, T19c, hk', cond_false, e2, Option.bind_some, e0, t45' (show 50 < F by omega), hx, g1]
  have w1 : w64 (cls j - 16) = (((cls j).toNat - 16 : Nat) : Int) := by rw [w64_in (by omega) (by omega)]; omega
  rw [l19 F w1 ((cls j).toNat - 16 - (enc c.length).length - c.length) F (enc c.length ++ c) (by simp; omega) (by omega) (by omega)]
  have g2 : gapp (enc c.length ++ c ++ List.replicate ((cls j).toNat - 16 - (enc c.length).length - c.length) 0) k = some (bodyL (cls j).toNat c k) := by
    unfold gapp; rw [if_pos (by simp; omega)]; rfl
  simp only [Option.bind_some, g2]

theorem body_eq {F : Nat} (hF : 41000 < F) (c k : List UInt8) : ∃ r, T18 F c k = some r ∧ T19 F c k = some r := by
  by_cases hk : k.length = 16
  · by_cases hc : c.length ≤ 32768
    · obtain ⟨j, hj, h1, h2, h3⟩ := t18 (F := F) (by omega) hc hk
      exact ⟨_, h3, t19 hF hc hk hj h1 h2⟩
    · obtain ⟨r, e1, e2⟩ := class_eq (F := F) (by omega) (c.length : Int)
      have h14 := t14_hi (F := F) (n := (c.length : Int)) (by omega)
      rw [h14] at e1
      cases e1
      have hk' : ((k.length : Int) != 16) = false := by simp [hk]
      have e0 : ((2 : Int) != 0) = true := by decide
      exact ⟨(2, []), by simp only [T18, T18c, hk', cond_false, h14, Option.bind_some, e0, cond_true], by simp only [T19, T19c, hk', cond_false, e2, Option.bind_some, e0, cond_true]⟩
  · have hk' : ((k.length : Int) != 16) = true := by simp; omega
    exact ⟨(1, []), by simp only [T18, T18c, hk', cond_true], by simp only [T19, T19c, hk', cond_true]⟩

/-- short: all lists have at most 400 bytes. -/
theorem t17 {F : Nat} (hF : 50 < F) (ls : List (List UInt8)) (hl : ls.length ≤ 5) : T17 F ls = some (ls.all fun x => decide (x.length ≤ 400)) := by
  have key : ∀ (m fuel i : Nat), i + m = ls.length → m < fuel → iter (fun s => L17_2 F ls (ls.length : Int) s) fuel ((i : Nat) : Int) = some (bif ((ls.drop i).all fun x => decide (x.length ≤ 400)) then .inl () else .inr false) := by
    intro m
    induction m with
    | zero =>
      intro fuel i hi hf
      obtain ⟨f, rfl⟩ : ∃ f, fuel = f + 1 := ⟨fuel - 1, by omega⟩
      have h : ¬ (((i : Nat) : Int) < (ls.length : Int)) := by omega
      rw [List.drop_eq_nil_of_le (by omega)]
      simp [iter, L17_2, L17_2c, h]
    | succ m ih =>
      intro fuel i hi hf
      obtain ⟨f, rfl⟩ : ∃ f, fuel = f + 1 := ⟨fuel - 1, by omega⟩
      have h : (((i : Nat) : Int) < (ls.length : Int)) := by omega
      have hlt : i < ls.length := by omega
      have hx : ix ls ((i : Nat) : Int) = some ls[i] := by unfold ix; rw [if_pos (by omega)]; simp [hlt]
      have w : w64 (((i : Nat) : Int) + 1) = (((i + 1 : Nat)) : Int) := by rw [w64_in (by omega) (by omega)]; omega
      rw [List.drop_eq_getElem_cons hlt, List.all_cons]
      by_cases hc : ls[i].length ≤ 400
      · have hc' : ¬ ((400 : Int) < (ls[i].length : Int)) := by omega
        have step : L17_2 F ls (ls.length : Int) ((i : Nat) : Int) = some (.inl (((i + 1 : Nat)) : Int)) := by
          simp only [L17_2, L17_2c, h, decide_true, cond_true, hx, Option.bind_some, hc', decide_false, cond_false, w]
        rw [it_again (f := fun s => L17_2 F ls (ls.length : Int) s) step, ih f (i + 1) (by omega) (by omega)]
        simp [hc]
      · have hc' : ((400 : Int) < (ls[i].length : Int)) := by omega
        have step : L17_2 F ls (ls.length : Int) ((i : Nat) : Int) = some (.inr (.inr false)) := by
          simp only [L17_2, L17_2c, h, decide_true, cond_true, hx, Option.bind_some, hc']
        rw [it_out (f := fun s => L17_2 F ls (ls.length : Int) s) step]
        simp [hc]
  have := key ls.length F 0 (by omega) (by omega)
  simp only [T17, T17c]
  have z : ((0 : Nat) : Int) = 0 := rfl
  rw [z] at this
  rw [this]
  simp only [List.drop_zero, Option.bind_some]
  cases (ls.all fun x => decide (x.length ≤ 400)) <;> rfl

theorem law4 {F : Nat} (hF : 41000 < F) (ha : T16 F = some true) (c k : List UInt8) (more : Bool) : T4 F c k more = some true := by
  simp only [T4, T4c, ha, Option.bind_some, Bool.not_true, cond_false, t17 (show 50 < F by omega) [c, k] (by simp)]
  cases hs : ([c, k].all fun x => decide (x.length ≤ 400)) with
  | false => rfl
  | true =>
    simp only [List.all_cons, List.all_nil, Bool.and_true, Bool.and_eq_true, decide_eq_true_eq] at hs
    simp only [Bool.not_true, cond_false]
    cases more with
    | true =>
      have g1 : gmake (0 : UInt8) (32768 : Int) 32768 = some (List.replicate 32768 0) := by unfold gmake; rw [if_pos (by omega)]; rfl
      have g2 : gapp (List.replicate 32768 (0 : UInt8)) c = some (List.replicate 32768 0 ++ c) := by unfold gapp; rw [if_pos (by simp only [List.length_replicate]; omega)]
      obtain ⟨r, e1, e2⟩ := body_eq hF (List.replicate 32768 0 ++ c) k
      simp only [cond_true, g1, g2, Option.bind_some, e1, e2, beq_self_eq_true]
    | false =>
      obtain ⟨r, e1, e2⟩ := body_eq hF c k
      simp only [cond_false, Option.bind_some, e1, e2, beq_self_eq_true, cond_true]
theorem awake50k : T16 50000 = some true := by kernel_rfl
theorem plaw4 (c k : List UInt8) (more : Bool) (_ : c.length ≤ maxLen) (_ : k.length ≤ maxLen) : T4 50000 c k more = some true := law4 (by omega) awake50k c k more
end Go.Proofs.YtjghgfohpihhfaaDoor
/- Xor, SealWith; SealSecret: the plain law. -/
namespace Go.Proofs.YtjghgfohpihhfaaDoor
open Go.Tw
set_option linter.unusedVariables false

def xorL (a b : List UInt8) : List UInt8 := List.zipWith (fun x y => x ^^^ y) a b

theorem xorL_len {a b : List UInt8} (h : a.length = b.length) : (xorL a b).length = a.length := by simp [xorL, h]

theorem xorL_get {a b : List UInt8} {i : Nat} (h : a.length = b.length) (hi : i < a.length) : (xorL a b)[i]? = some (a[i] ^^^ b[i]'(by omega)) := by
  have hb : i < b.length := by omega
  simp only [xorL, List.getElem?_zipWith, List.getElem?_eq_getElem hi, List.getElem?_eq_getElem hb]

theorem xor8_cancel (x y : UInt8) : x ^^^ (x ^^^ y) = y := by rw [← UInt8.xor_assoc, UInt8.xor_self, UInt8.zero_xor]

theorem xorL_cancel : ∀ {a b : List UInt8}, a.length = b.length → xorL a (xorL a b) = b
  | [], [], _ => rfl
  | [], _ :: _, h => by simp at h
  | _ :: _, [], h => by simp at h
  | x :: a, y :: b, h => by
    have ih := xorL_cancel (a := a) (b := b) (by simpa using h)
    simp only [xorL, List.zipWith_cons_cons] at ih ⊢
    rw [xor8_cancel, ih]

theorem xorL_comm : ∀ (a b : List UInt8), xorL a b = xorL b a
  | [], [] => rfl
  | [], _ :: _ => rfl
  | _ :: _, [] => rfl
  | x :: a, y :: b => by
    have ih := xorL_comm a b
    simp only [xorL, List.zipWith_cons_cons] at ih ⊢
    rw [UInt8.xor_comm, ih]

theorem l57 (F : Nat) {a b : List UInt8} (hab : a.length = b.length) (hn : a.length < 1000000) : ∀ (m fuel i : Nat), i + m = a.length → m < fuel → iter (fun s : Int × List UInt8 => L57_2 F a b (a.length : Int) s.1 s.2) fuel (((i : Nat) : Int), xorL (a.take i) (b.take i) ++ List.replicate m 0) = some (xorL a b)
  | m, 0, i, hi, hf => by omega
  | 0, fuel + 1, i, hi, hf => by
    have h : ¬ (((i : Nat) : Int) < (a.length : Int)) := by omega
    have e1 : a.take i = a := List.take_of_length_le (by omega)
    have e2 : b.take i = b := List.take_of_length_le (by omega)
    have step : L57_2 F a b (a.length : Int) ((i : Nat) : Int) (xorL (a.take i) (b.take i) ++ List.replicate 0 0) = some (.inr (xorL a b)) := by
      simp only [L57_2, L57_2c, h, decide_false, cond_false, e1, e2, List.replicate_zero, List.append_nil]
    rw [it_out (f := fun s : Int × List UInt8 => L57_2 F a b (a.length : Int) s.1 s.2) (s := (((i : Nat) : Int), _)) step]
  | m + 1, fuel + 1, i, hi, hf => by
    have h : (((i : Nat) : Int) < (a.length : Int)) := by omega
    have ha : i < a.length := by omega
    have hb : i < b.length := by omega
    have hx : ix a ((i : Nat) : Int) = some a[i] := by unfold ix; rw [if_pos (by omega)]; simp [ha]
    have hy : ix b ((i : Nat) : Int) = some b[i] := by unfold ix; rw [if_pos (by omega)]; simp [hb]
    have w : w64 (((i : Nat) : Int) + 1) = (((i + 1 : Nat)) : Int) := by rw [w64_in (by omega) (by omega)]; omega
    have hl : (xorL (a.take i) (b.take i)).length = i := by rw [xorL_len (by simp; omega)]; simp; omega
    have hin : inb (xorL (a.take i) (b.take i) ++ List.replicate (m + 1) 0).length ((i : Nat) : Int) = some i := by
      unfold inb; rw [if_pos (by simp [hl]; omega)]; simp
    have hset : List.set (xorL (a.take i) (b.take i) ++ List.replicate (m + 1) 0) i (a[i] ^^^ b[i]) = xorL (a.take (i + 1)) (b.take (i + 1)) ++ List.replicate m 0 := by
      rw [List.set_append_right _ _ (by omega), hl, Nat.sub_self, List.replicate_succ, List.set_cons_zero]
      have : xorL (a.take (i + 1)) (b.take (i + 1)) = xorL (a.take i) (b.take i) ++ [a[i] ^^^ b[i]] := by
        simp only [xorL]
        rw [List.take_succ_eq_append_getElem ha, List.take_succ_eq_append_getElem hb, List.zipWith_append (by simp; omega)]
        rfl
      rw [this]; simp
    have step : L57_2 F a b (a.length : Int) ((i : Nat) : Int) (xorL (a.take i) (b.take i) ++ List.replicate (m + 1) 0) = some (.inl (((i + 1 : Nat) : Int), xorL (a.take (i + 1)) (b.take (i + 1)) ++ List.replicate m 0)) := by
      simp only [L57_2, L57_2c, h, decide_true, cond_true, hx, hy, hin, Option.bind_some, w, hset]
    rw [it_again (f := fun s : Int × List UInt8 => L57_2 F a b (a.length : Int) s.1 s.2) (s := (((i : Nat) : Int), _)) step]
    exact l57 F hab hn m fuel (i + 1) (by omega) (by omega)

theorem t57 {F : Nat} {a b : List UInt8} (hF : a.length < F) (hn : a.length < 1000000) (h : a.length = b.length) : T57 F a b = some (0, xorL a b) := by
  have e : ((a.length : Int) != (b.length : Int)) = false := by simp [h]
  have g : gmake (0 : UInt8) (a.length : Int) (a.length : Int) = some (List.replicate a.length 0) := by unfold gmake; rw [if_pos (by omega)]; simp
  have l := l57 F h hn a.length F 0 (by omega) hF
  have z : ((0 : Nat) : Int) = 0 := rfl
  simp only [List.take_zero, z] at l
  have x0 : xorL [] [] = [] := rfl
  rw [x0, List.nil_append] at l
  simp only [T57, T57c, e, cond_false, g, Option.bind_some, l]

theorem t57n {F : Nat} {a b : List UInt8} (h : a.length ≠ b.length) : T57 F a b = some (1, []) := by
  have e : ((a.length : Int) != (b.length : Int)) = true := by simp; omega
  simp only [T57, T57c, e, cond_true]

theorem bodyL_len {D : Nat} {c k : List UInt8} (hc : c.length ≤ 32768) (hk : k.length = 16) (h : sz c.length + c.length + 16 ≤ D) : (bodyL D c k).length = D := by
  have := enc_len hc
  simp [bodyL, hk, this]; omega

/-- SealWith. -/
theorem t34 {F : Nat} (hF : 41000 < F) {s k c : List UInt8} (hc : c.length ≤ 32768) (hk : k.length = 16) {j : Nat} (hj : j < 38) (h1 : T14 F (c.length : Int) = some (cls j, 0)) (hs : s.length = (cls j).toNat) :
    T34 F s k c = some (0, xorL (bodyL (cls j).toNat c k) s) ∧ (bodyL (cls j).toNat c k).length = (cls j).toNat := by
  obtain ⟨j', hj', h1', h2, h3⟩ := t18 (F := F) (by omega) hc hk
  rw [h1] at h1'
  have hjj : cls j = cls j' := by simpa using h1'
  rw [← hjj] at h2 h3
  have hb := cls_b ⟨j, hj⟩
  simp only at hb
  have hl := bodyL_len (D := (cls j).toNat) hc hk (by omega)
  refine ⟨?_, hl⟩
  have e0 : ((0 : Int) != 0) = false := by decide
  simp only [T34, T34c, h3, Option.bind_some, e0, cond_false]
  rw [t57 (by omega) (by omega) (by omega)]
  rfl

theorem xor_one (a b : UInt8) : a ^^^ (b ^^^ UInt8.ofNat 1) ≠ a ^^^ b := by
  intro h
  have h2 := congrArg (fun z => a ^^^ z) h
  simp only [xor8_cancel] at h2
  have h3 := congrArg (fun z => b ^^^ z) h2
  simp only [xor8_cancel, UInt8.xor_self] at h3
  exact absurd h3 (by decide)

theorem law12 {F : Nat} (hF : 41000 < F) (ha : T16 F = some true) (st k c o l : List UInt8) (at_ : Int) (hr : -9223372036854775808 ≤ at_ ∧ at_ ≤ 9223372036854775807) : T12 F st k c o l at_ = some true := by
  simp only [T12, T12c, ha, Option.bind_some, Bool.not_true, cond_false, t17 (show 50 < F by omega) [st, k, c, o, l] (by simp)]
  cases hs : ([st, k, c, o, l].all fun x => decide (x.length ≤ 400)) with
  | false => rfl
  | true =>
    simp only [List.all_cons, List.all_nil, Bool.and_true, Bool.and_eq_true, decide_eq_true_eq] at hs
    simp only [Bool.not_true, cond_false]
    by_cases hk : k.length = 16
    case neg =>
      have : ((k.length : Int) != 16) = true := by simp; omega
      simp only [this, cond_true]
    by_cases hl : l.length = 16
    case neg =>
      have e1 : ((k.length : Int) != 16) = false := by simp [hk]
      have : ((l.length : Int) != 16) = true := by simp; omega
      simp only [e1, this, cond_true, cond_false]
    have e1 : ((k.length : Int) != 16) = false := by simp [hk]
    have e2 : ((l.length : Int) != 16) = false := by simp [hl]
    obtain ⟨j, hj, h1, h2, _⟩ := class_spec (F := F) (by omega) (n := (c.length : Int)) (by omega) (by omega)
    obtain ⟨j', hj', h1', h2', _⟩ := class_spec (F := F) (by omega) (n := (o.length : Int)) (by omega) (by omega)
    simp only [e1, e2, cond_false, h1, h1', Option.bind_some]
    by_cases hjj : cls j = cls j'
    case neg =>
      have : (cls j != cls j') = true := by simpa using hjj
      simp only [this, cond_true]
    have e3 : (cls j != cls j') = false := by simp [hjj]
    simp only [e3, cond_false]
    by_cases hst : (st.length : Int) = cls j
    case neg =>
      have : ((st.length : Int) != cls j) = true := by simpa using hst
      simp only [this, cond_true]
    have e4 : ((st.length : Int) != cls j) = false := by simp [hst]
    have hb := cls_b ⟨j, hj⟩
    simp only at hb
    obtain ⟨s1, b1⟩ := t34 (s := st) hF (by omega) hk hj h1 (by omega)
    rw [← hjj] at h1'
    have sl : (xorL (bodyL (cls j).toNat c k) st).length = (cls j).toNat := by rw [xorL_len (by omega), b1]
    obtain ⟨s2, b2⟩ := t34 (s := xorL (bodyL (cls j).toNat c k) st) hF (by omega) hl hj h1' sl
    have xl : (xorL (bodyL (cls j).toNat o l) (xorL (bodyL (cls j).toNat c k) st)).length = (cls j).toNat := by rw [xorL_len (by omega), b2]
    obtain ⟨s3, _⟩ := t34 (s := xorL (bodyL (cls j).toNat o l) (xorL (bodyL (cls j).toNat c k) st)) hF (by omega) hl hj h1' xl
    rw [xorL_cancel (by omega)] at s3
    simp only [e4, cond_false, s1, Option.bind_some, T36, T36c, s2, s3]
    generalize hS : xorL (bodyL (cls j).toNat c k) st = S at *
    generalize hB : bodyL (cls j).toNat o l = B at *
    generalize hX : xorL B S = X at *
    have e0 : ((0 : Int) != 0) = false := by decide
    have e5 : (S != S) = false := by simp
    have e6 : ((X.length : Int) != cls j) = false := by simp; omega
    simp only [e0, e5, e6, cond_false]
    have g1 : grem at_ (cls j) = some (at_.tmod (cls j)) := by unfold grem; rw [if_neg (by omega)]
    have m1 : -(cls j) < at_.tmod (cls j) ∧ at_.tmod (cls j) < cls j := by
      have h := Int.tmod_lt_of_pos at_ (show 0 < cls j by omega)
      have h' := Int.lt_tmod_of_pos at_ (show 0 < cls j by omega)
      exact ⟨h', h⟩
    have w1 : w64 (at_.tmod (cls j) + cls j) = at_.tmod (cls j) + cls j := w64_in (by omega) (by omega)
    have g2 : grem (at_.tmod (cls j) + cls j) (cls j) = some ((at_.tmod (cls j) + cls j).tmod (cls j)) := by unfold grem; rw [if_neg (by omega)]
    have m2 : 0 ≤ (at_.tmod (cls j) + cls j).tmod (cls j) ∧ (at_.tmod (cls j) + cls j).tmod (cls j) < cls j :=
      ⟨Int.tmod_nonneg _ (by omega), Int.tmod_lt_of_pos _ (by omega)⟩
    rw [g1]
    simp only [Option.bind_some, w1]
    rw [g2]
    simp only [Option.bind_some]
    generalize (at_.tmod (cls j) + cls j).tmod (cls j) = i at *
    obtain ⟨n, rfl⟩ := Int.eq_ofNat_of_zero_le m2.1
    have hn : n < X.length := by omega
    have g3 : inb X.length (n : Int) = some n := by unfold inb; rw [if_pos (by omega)]; simp
    simp only [g3, Option.bind_some, List.getElem?_eq_getElem hn]
    have xl2 : (X.set n (X[n] ^^^ UInt8.ofNat 1)).length = (cls j).toNat := by simp [xl]
    obtain ⟨s4, _⟩ := t34 (s := X.set n (X[n] ^^^ UInt8.ofNat 1)) hF (by omega) hl hj h1' xl2
    rw [hB] at s4
    simp only [s4, Option.bind_some, beq_self_eq_true, cond_true, Option.some.injEq]
    rw [bne_iff_ne]
    intro he
    have hS2 : S = xorL B X := by rw [← hX, xorL_cancel (by omega)]
    have g : (xorL B (X.set n (X[n] ^^^ UInt8.ofNat 1)))[n]? = S[n]? := by rw [he]
    rw [hS2, xorL_get (by omega) (by omega), xorL_get (by omega) (by omega)] at g
    simp only [List.getElem_set_self, Option.some.injEq] at g
    exact xor_one _ _ g
theorem plaw12 (st k c o l : List UInt8) (at_ : Int) (_ : st.length ≤ maxLen) (_ : k.length ≤ maxLen) (_ : c.length ≤ maxLen) (_ : o.length ≤ maxLen) (_ : l.length ≤ maxLen) (hr : -9223372036854775808 ≤ at_ ∧ at_ ≤ 9223372036854775807) : T12 50000 st k c o l at_ = some true := law12 (by omega) awake50k st k c o l at_ hr
end Go.Proofs.YtjghgfohpihhfaaDoor
/- Numbers that are read from bytes: by the code and by its specification. Plain laws. -/
namespace Go.Proofs.YtjghgfohpihhfaaDoor
open Go.Tw
set_option linter.unusedVariables false
set_option linter.unusedSimpArgs false

/-- The number that stands at the head of some bytes, of which i have been read, and its length. -/
def decS : Nat → List UInt8 → Option (Nat × Nat)
  | _, [] => none
  | i, b :: r => if 10 ≤ i then none else if 128 ≤ b.toNat then (match decS (i + 1) r with
      | some (v, n) => some (b.toNat % 128 + 128 * v, n + 1)
      | none => none) else if 0 < i ∧ b.toNat = 0 then none else if i = 9 ∧ 1 < b.toNat then none else some (b.toNat, 1)

theorem decS_bd : ∀ (l : List UInt8) (i v n : Nat), i ≤ 10 → decS i l = some (v, n) → v * 128 ^ i < 2 ^ 64 ∧ 1 ≤ n ∧ n ≤ l.length ∧ i + n ≤ 10 ∧ (0 < i → 0 < v)
  | [], i, v, n, hi, h => by simp [decS] at h
  | b :: r, i, v, n, hi, h => by
    simp only [decS] at h
    split at h
    · cases h
    split at h
    · split at h <;> first | (cases h; done) | skip
      rename_i v' n' hr
      cases h
      obtain ⟨h1, h2, h3, h4, h5⟩ := decS_bd r (i + 1) v' n' (by omega) hr
      have hv := h5 (by omega)
      refine ⟨?_, by omega, by simp; omega, by omega, fun _ => by omega⟩
      have hb : b.toNat % 128 < 128 := Nat.mod_lt _ (by omega)
      -- v' * 128^(i+1) < 2^64, both multiples
      have hi' : i ≤ 8 := by omega
      have e : v' * 128 ^ (i + 1) = 128 * v' * 128 ^ i := by rw [Nat.pow_succ]; ac_rfl
      rw [e] at h1
      have hd : (2 : Nat) ^ 64 = 2 ^ (64 - 7 * i) * 128 ^ i := by
        have : (128 : Nat) ^ i = 2 ^ (7 * i) := by rw [Nat.pow_mul]
        rw [this, ← Nat.pow_add]; congr 1; omega
      have hp : 0 < 128 ^ i := Nat.pow_pos (by omega)
      rw [hd] at h1 ⊢
      have h1' : 128 * v' < 2 ^ (64 - 7 * i) := Nat.lt_of_mul_lt_mul_right h1
      have hd2 : (2 : Nat) ^ (64 - 7 * i) = 128 * 2 ^ (57 - 7 * i) := by
        rw [show (128 : Nat) = 2 ^ 7 from rfl, ← Nat.pow_add]; congr 1; omega
      rw [hd2] at h1' ⊢
      have h1'' : v' < 2 ^ (57 - 7 * i) := Nat.lt_of_mul_lt_mul_left h1'
      exact Nat.mul_lt_mul_of_pos_right (by omega) hp
    · split at h
      · cases h
      split at h
      · cases h
      rename_i hx hb h0 h9
      cases h
      refine ⟨?_, by omega, by simp, by omega, fun h => by omega⟩
      have hp : 128 ^ i = 2 ^ (7 * i) := by rw [show (128 : Nat) = 2 ^ 7 from rfl, Nat.pow_mul]
      by_cases hi9 : i = 9
      · subst hi9
        have : b.toNat ≤ 1 := by omega
        calc b.toNat * 128 ^ 9 ≤ 1 * 128 ^ 9 := Nat.mul_le_mul_right _ this
          _ < 2 ^ 64 := by decide
      · have h1 : b.toNat * 128 ^ i < 128 * 128 ^ i := Nat.mul_lt_mul_of_pos_right (by omega) (Nat.pow_pos (by omega))
        have h2 : 128 * 128 ^ i ≤ 128 * 128 ^ 8 := Nat.mul_le_mul_left _ (Nat.pow_le_pow_right (by omega) (by omega))
        have h3 : 128 * 128 ^ 8 < 2 ^ 64 := by decide
        omega

/-- What is read there are the number's bytes. -/
theorem decS_enc : ∀ (l : List UInt8) (i v n : Nat), i < 10 → decS i l = some (v, n) → l.take n = encN (9 - i) v ∧ (encN (9 - i) v).length = n
  | [], i, v, n, hi, h => by simp [decS] at h
  | b :: r, i, v, n, hi, h => by
    have hbd := decS_bd (b :: r) i v n (by omega) h
    simp only [decS] at h
    split at h
    · cases h
    split at h
    · split at h <;> first | (cases h; done) | skip
      rename_i hi10 hb v' n' hr
      cases h
      obtain ⟨h1, h2, h3, h4, h5⟩ := decS_bd r (i + 1) v' n' (by omega) hr
      have hv := h5 (by omega)
      obtain ⟨h6, h7⟩ := decS_enc r (i + 1) v' n' (by omega) hr
      have e : 9 - i = (9 - (i + 1)) + 1 := by omega
      have hb2 : b.toNat < 256 := b.toNat_lt
      rw [e]
      simp only [encN]
      rw [if_neg (by omega), show (b.toNat % 128 + 128 * v') / 128 = v' by omega, show (b.toNat % 128 + 128 * v') % 128 = b.toNat % 128 by omega, show b.toNat % 128 + 128 = b.toNat by omega]
      exact ⟨by rw [List.take_succ_cons, h6, UInt8.ofNat_toNat], by rw [List.length_cons, h7]⟩
    · split at h
      · cases h
      split at h
      · cases h
      rename_i hx hb h0 h9
      cases h
      have : encN (9 - i) b.toNat = [UInt8.ofNat b.toNat] := encN_one (by omega)
      rw [this]; simp

/-- A number's bytes read as it. -/
theorem enc_decS : ∀ (m v : Nat) (r : List UInt8), m ≤ 9 → v * 128 ^ (9 - m) < 2 ^ 64 → (m < 9 → 0 < v) → decS (9 - m) (encN m v ++ r) = some (v, (encN m v).length)
  | 0, v, r, hm, hv, h0 => by
    have hv1 : v ≤ 1 := by
      rcases Nat.lt_or_ge 1 v with h | h
      · have : 2 * 128 ^ 9 ≤ v * 128 ^ 9 := Nat.mul_le_mul_right _ h
        have : 2 * 128 ^ 9 = 2 ^ 64 := by decide
        simp only [Nat.sub_zero] at hv
        omega
      · exact h
    have hp := h0 (by omega)
    obtain rfl : v = 1 := by omega
    rfl
  | m + 1, v, r, hm, hv, h0 => by
    simp only [encN]
    by_cases h : v < 128
    · rw [if_pos h]
      have hb : (UInt8.ofNat v).toNat = v := by rw [UInt8.toNat_ofNat']; omega
      simp only [List.cons_append, List.nil_append, decS, hb]
      rw [if_neg (by omega), if_neg (by omega)]
      by_cases h9 : m + 1 = 9
      · rw [if_neg (by omega), if_neg (by omega)]; rfl
      · have := h0 (by omega)
        rw [if_neg (by omega), if_neg (by omega)]; rfl
    · rw [if_neg h]
      have hb : (UInt8.ofNat (v % 128 + 128)).toNat = v % 128 + 128 := by rw [UInt8.toNat_ofNat']; omega
      have hd : v / 128 * 128 ^ (9 - m) < 2 ^ 64 := by
        have e : (128 : Nat) ^ (9 - m) = 128 ^ (9 - (m + 1)) * 128 := by rw [← Nat.pow_succ]; congr 1; omega
        rw [e]
        calc v / 128 * (128 ^ (9 - (m + 1)) * 128) = (v / 128 * 128) * 128 ^ (9 - (m + 1)) := by ac_rfl
          _ ≤ v * 128 ^ (9 - (m + 1)) := Nat.mul_le_mul_right _ (Nat.div_mul_le_self v 128)
          _ < 2 ^ 64 := hv
      have ih := enc_decS m (v / 128) r (by omega) hd (fun _ => by omega)
      simp only [List.cons_append, decS, hb]
      rw [if_neg (by omega), if_pos (by omega), show 9 - (m + 1) + 1 = 9 - m by omega, ih]
      simp only [Option.some.injEq, Prod.mk.injEq, List.length_cons, and_true]
      omega

theorem enc_dec {v : Nat} (hv : v < 2 ^ 64) (r : List UInt8) : decS 0 (enc v ++ r) = some (v, (enc v).length) :=
  enc_decS 9 v r (by omega) (by simpa using hv) (fun h => by omega)

theorem dec_enc {l : List UInt8} {v n : Nat} (h : decS 0 l = some (v, n)) : l.take n = enc v ∧ (enc v).length = n ∧ v < 2 ^ 64 ∧ n ≤ l.length := by
  obtain ⟨h1, h2⟩ := decS_enc l 0 v n (by omega) h
  have h3 := decS_bd l 0 v n (by omega) h
  exact ⟨h1, h2, by simpa using h3.1, h3.2.2.1⟩

/- ## the code's reading -/
theorem or_add {a x i : Nat} (h : a < 2 ^ i) : a ||| (x * 2 ^ i) = a + x * 2 ^ i := by
  rw [Nat.or_comm, Nat.add_comm, ← Nat.shiftLeft_eq, Nat.shiftLeft_add_eq_or_of_lt h]

theorem and127 : ∀ b : Fin 256, (UInt8.ofNat b.val &&& UInt8.ofNat 127).toNat = b.val % 128 := by decide +kernel

theorem and127' (b : UInt8) : (b &&& UInt8.ofNat 127).toNat = b.toNat % 128 := by
  have := and127 ⟨b.toNat, b.toNat_lt⟩
  simpa using this

theorem acc90 {acc : UInt64} {b : UInt8} {i : Nat} (hi : i ≤ 9) (ha : acc.toNat < 128 ^ i) (h9 : i = 9 → b.toNat % 128 ≤ 1) : (acc ||| (shl64 ((b &&& (UInt8.ofNat 127)).toUInt64) (7 * i))).toNat = acc.toNat + b.toNat % 128 * 128 ^ i ∧ b.toNat % 128 * 128 ^ i < 2 ^ 64 := by
  have hp : (128 : Nat) ^ i = 2 ^ (7 * i) := by rw [show (128 : Nat) = 2 ^ 7 from rfl, Nat.pow_mul]
  have hlt : b.toNat % 128 * 128 ^ i < 2 ^ 64 := by
    by_cases h : i = 9
    · subst h
      calc b.toNat % 128 * 128 ^ 9 ≤ 1 * 128 ^ 9 := Nat.mul_le_mul_right _ (h9 rfl)
        _ < 2 ^ 64 := by decide
    · have h1 : b.toNat % 128 * 128 ^ i < 128 * 128 ^ i := Nat.mul_lt_mul_of_pos_right (Nat.mod_lt _ (by omega)) (Nat.pow_pos (by omega))
      have h2 : 128 * 128 ^ i ≤ 128 * 128 ^ 8 := Nat.mul_le_mul_left _ (Nat.pow_le_pow_right (by omega) (by omega))
      have h3 : 128 * 128 ^ 8 < 2 ^ 64 := by decide
      omega
  refine ⟨?_, hlt⟩
  have hs : (shl64 ((b &&& (UInt8.ofNat 127)).toUInt64) (7 * i)).toNat = b.toNat % 128 * 128 ^ i := by
    show (((b &&& (UInt8.ofNat 127)).toUInt64).toBitVec <<< (7 * i)).toNat = _
    rw [BitVec.toNat_shiftLeft]
    have e1 : ((b &&& (UInt8.ofNat 127)).toUInt64).toBitVec.toNat = b.toNat % 128 := by
      show ((b &&& (UInt8.ofNat 127)).toUInt64).toNat = _
      rw [UInt8.toNat_toUInt64, and127']
    rw [e1, Nat.shiftLeft_eq, ← hp, Nat.mod_eq_of_lt hlt]
  rw [UInt64.toNat_or, hs, hp]
  rw [hp] at ha
  exact or_add ha

theorem l90 (F : Nat) (b : List UInt8) (hb : b.length < 1000000000) : ∀ (m i fuel pos : Nat) (acc : UInt64), i + m = 10 → m < fuel → acc.toNat < 128 ^ i → pos ≤ b.length →
    (∃ v n, decS i (b.drop pos) = some (v, n) ∧ iter (fun s : UInt64 × Int × Int => L90_2 F b s.1 s.2.1 s.2.2) fuel (acc, ((i : Nat) : Int), ((pos : Nat) : Int)) = some (.inr (UInt64.ofNat (acc.toNat + v * 128 ^ i), 0, ((pos + n : Nat) : Int)))) ∨
    (decS i (b.drop pos) = none ∧ ((∃ p, iter (fun s : UInt64 × Int × Int => L90_2 F b s.1 s.2.1 s.2.2) fuel (acc, ((i : Nat) : Int), ((pos : Nat) : Int)) = some (.inl p)) ∨ ∃ p, iter (fun s : UInt64 × Int × Int => L90_2 F b s.1 s.2.1 s.2.2) fuel (acc, ((i : Nat) : Int), ((pos : Nat) : Int)) = some (.inr (UInt64.ofNat 0, 3, p))))
  | m, i, 0, pos, acc, him, hf, ha, hp => by omega
  | 0, i, fuel + 1, pos, acc, him, hf, ha, hp => by
    right
    have h : ¬ (((i : Nat) : Int) < 10) := by omega
    refine ⟨?_, .inl ⟨((pos : Nat) : Int), ?_⟩⟩
    · cases b.drop pos with
      | nil => rfl
      | cons x r => simp only [decS]; rw [if_pos (by omega)]
    · have step : L90_2 F b acc ((i : Nat) : Int) ((pos : Nat) : Int) = some (.inr (.inl ((pos : Nat) : Int))) := by
        simp only [L90_2, L90_2c, h, decide_false, cond_false]
      rw [it_out (f := fun s : UInt64 × Int × Int => L90_2 F b s.1 s.2.1 s.2.2) (s := (acc, ((i : Nat) : Int), ((pos : Nat) : Int))) step]
  | m + 1, i, fuel + 1, pos, acc, him, hf, ha, hp => by
    have h : (((i : Nat) : Int) < 10) := by omega
    by_cases he : pos = b.length
    · right
      have e1 : (((pos : Nat) : Int) == (b.length : Int)) = true := by simp [he]
      refine ⟨by rw [List.drop_eq_nil_of_le (by omega)]; rfl, .inr ⟨((pos : Nat) : Int), ?_⟩⟩
      have step : L90_2 F b acc ((i : Nat) : Int) ((pos : Nat) : Int) = some (.inr (.inr (UInt64.ofNat 0, 3, ((pos : Nat) : Int)))) := by
        simp only [L90_2, L90_2c, h, decide_true, cond_true, e1]
      rw [it_out (f := fun s : UInt64 × Int × Int => L90_2 F b s.1 s.2.1 s.2.2) (s := (acc, ((i : Nat) : Int), ((pos : Nat) : Int))) step]
    · have hlt : pos < b.length := by omega
      have e1 : (((pos : Nat) : Int) == (b.length : Int)) = false := by simp; omega
      have hin : inb b.length ((pos : Nat) : Int) = some pos := by unfold inb; rw [if_pos (by omega)]; simp
      have hg : gnn (w64 ((7 : Int) * ((i : Nat) : Int))) = some (7 * i) := by
        have w : w64 ((7 : Int) * ((i : Nat) : Int)) = ((7 * i : Nat) : Int) := by rw [w64_in (by omega) (by omega)]; omega
        rw [w]; unfold gnn; rw [if_pos (by omega)]; simp only [Int.toNat_natCast]
      have w1 : w64 (((i : Nat) : Int) + 1) = ((i + 1 : Nat) : Int) := by rw [w64_in (by omega) (by omega)]; omega
      have w2 : w64 (((pos : Nat) : Int) + 1) = ((pos + 1 : Nat) : Int) := by rw [w64_in (by omega) (by omega)]; omega
      have hd : b.drop pos = b[pos] :: b.drop (pos + 1) := List.drop_eq_getElem_cons hlt
      rw [hd]
      have hx : b[pos].toNat < 256 := b[pos].toNat_lt
      have hpw : (128 : Nat) ^ (i + 1) = 128 ^ i * 128 := Nat.pow_succ ..
      by_cases hc : 128 ≤ b[pos].toNat
      · have hc' : UInt8.ofNat 128 ≤ b[pos] := hc
        have step : L90_2 F b acc ((i : Nat) : Int) ((pos : Nat) : Int) = some (.inl (acc ||| (shl64 ((b[pos] &&& (UInt8.ofNat 127)).toUInt64) (7 * i)), ((i + 1 : Nat) : Int), ((pos + 1 : Nat) : Int))) := by
          simp only [L90_2, L90_2c, h, decide_true, cond_true, e1, cond_false, hin, Option.bind_some, List.getElem?_eq_getElem hlt, hg, hc', w1, w2]
        rw [it_again (f := fun s : UInt64 × Int × Int => L90_2 F b s.1 s.2.1 s.2.2) (s := (acc, ((i : Nat) : Int), ((pos : Nat) : Int))) step]
        have hds : decS i (b[pos] :: b.drop (pos + 1)) = (match decS (i + 1) (b.drop (pos + 1)) with
            | some (v, n) => some (b[pos].toNat % 128 + 128 * v, n + 1)
            | none => none) := by
          simp only [decS]; rw [if_neg (by omega), if_pos hc]
        rw [hds]
        by_cases hi9 : i = 9
        · -- the last round
          subst hi9
          have hn : decS (9 + 1) (b.drop (pos + 1)) = none := by
            cases b.drop (pos + 1) with
            | nil => rfl
            | cons x r => simp [decS]
          rw [hn]
          right
          refine ⟨rfl, ?_⟩
          obtain ⟨f, rfl⟩ : ∃ f, fuel = f + 1 := ⟨fuel - 1, by omega⟩
          left
          have h' : ¬ (((9 + 1 : Nat) : Int) < 10) := by omega
          refine ⟨((pos + 1 : Nat) : Int), ?_⟩
          have step2 : ∀ a : UInt64, L90_2 F b a ((9 + 1 : Nat) : Int) ((pos + 1 : Nat) : Int) = some (.inr (.inl ((pos + 1 : Nat) : Int))) := fun a => by
            simp only [L90_2, L90_2c, h', decide_false, cond_false]
          rw [it_out (f := fun s : UInt64 × Int × Int => L90_2 F b s.1 s.2.1 s.2.2) (s := (_, ((9 + 1 : Nat) : Int), ((pos + 1 : Nat) : Int))) (step2 _)]
        · obtain ⟨hacc, _⟩ := acc90 (acc := acc) (b := b[pos]) (i := i) (by omega) ha (fun h => absurd h hi9)
          have hacc2 : (acc ||| (shl64 ((b[pos] &&& (UInt8.ofNat 127)).toUInt64) (7 * i))).toNat < 128 ^ (i + 1) := by
            rw [hacc, hpw]
            have : b[pos].toNat % 128 * 128 ^ i ≤ 127 * 128 ^ i := Nat.mul_le_mul_right _ (by omega)
            omega
          rcases l90 F b hb m (i + 1) fuel (pos + 1) _ (by omega) (by omega) hacc2 (by omega) with ⟨v, n, h1, h2⟩ | ⟨h1, h2⟩
          · left
            rw [h1]
            refine ⟨_, _, rfl, ?_⟩
            rw [h2, hacc]
            have e : acc.toNat + b[pos].toNat % 128 * 128 ^ i + v * 128 ^ (i + 1) = acc.toNat + (b[pos].toNat % 128 + 128 * v) * 128 ^ i := by
              rw [hpw, Nat.add_mul, Nat.add_assoc]; congr 2; ac_rfl
            rw [e, show pos + 1 + n = pos + (n + 1) by omega]
          · right
            rw [h1]
            exact ⟨rfl, h2⟩
      · have hc' : ¬ UInt8.ofNat 128 ≤ b[pos] := hc
        have hds : decS i (b[pos] :: b.drop (pos + 1)) = (if 0 < i ∧ b[pos].toNat = 0 then none else if i = 9 ∧ 1 < b[pos].toNat then none else some (b[pos].toNat, 1)) := by
          simp only [decS]; rw [if_neg (by omega), if_neg hc]
        rw [hds]
        have good : (i = 9 → b[pos].toNat ≤ 1) → L90_2 F b acc ((i : Nat) : Int) ((pos : Nat) : Int) = some (.inr (.inr (acc ||| (shl64 ((b[pos] &&& (UInt8.ofNat 127)).toUInt64) (7 * i)), 0, ((pos + 1 : Nat) : Int)))) →
            iter (fun s : UInt64 × Int × Int => L90_2 F b s.1 s.2.1 s.2.2) (fuel + 1) (acc, ((i : Nat) : Int), ((pos : Nat) : Int)) = some (.inr (UInt64.ofNat (acc.toNat + b[pos].toNat * 128 ^ i), 0, ((pos + 1 : Nat) : Int))) := fun h9 step => by
          rw [it_out (f := fun s : UInt64 × Int × Int => L90_2 F b s.1 s.2.1 s.2.2) (s := (acc, ((i : Nat) : Int), ((pos : Nat) : Int))) step]
          obtain ⟨hacc, _⟩ := acc90 (acc := acc) (b := b[pos]) (i := i) (by omega) ha (fun h => by have := h9 h; omega)
          have hm : b[pos].toNat % 128 = b[pos].toNat := Nat.mod_eq_of_lt (by omega)
          rw [hm] at hacc
          rw [← hacc, UInt64.ofNat_toNat]
        have bad : L90_2 F b acc ((i : Nat) : Int) ((pos : Nat) : Int) = some (.inr (.inr (UInt64.ofNat 0, 3, ((pos + 1 : Nat) : Int)))) → ∃ p, iter (fun s : UInt64 × Int × Int => L90_2 F b s.1 s.2.1 s.2.2) (fuel + 1) (acc, ((i : Nat) : Int), ((pos : Nat) : Int)) = some (.inr (UInt64.ofNat 0, 3, p)) := fun step =>
          ⟨_, by rw [it_out (f := fun s : UInt64 × Int × Int => L90_2 F b s.1 s.2.1 s.2.2) (s := (acc, ((i : Nat) : Int), ((pos : Nat) : Int))) step]⟩
        have base : ∀ z, (L90_2 F b acc ((i : Nat) : Int) ((pos : Nat) : Int) = z) ↔ ((bif decide ((0 : Int) < ((i : Nat) : Int)) then (bif (b[pos] == (UInt8.ofNat 0)) then some (.inr (.inr (UInt64.ofNat 0, 3, ((pos + 1 : Nat) : Int)))) else (bif (((i : Nat) : Int) == 9) then (bif decide (UInt8.ofNat 1 < b[pos]) then some (.inr (.inr (UInt64.ofNat 0, 3, ((pos + 1 : Nat) : Int)))) else some (.inr (.inr (acc ||| (shl64 ((b[pos] &&& (UInt8.ofNat 127)).toUInt64) (7 * i)), 0, ((pos + 1 : Nat) : Int))))) else some (.inr (.inr (acc ||| (shl64 ((b[pos] &&& (UInt8.ofNat 127)).toUInt64) (7 * i)), 0, ((pos + 1 : Nat) : Int)))))) else (bif (((i : Nat) : Int) == 9) then (bif decide (UInt8.ofNat 1 < b[pos]) then some (.inr (.inr (UInt64.ofNat 0, 3, ((pos + 1 : Nat) : Int)))) else some (.inr (.inr (acc ||| (shl64 ((b[pos] &&& (UInt8.ofNat 127)).toUInt64) (7 * i)), 0, ((pos + 1 : Nat) : Int))))) else some (.inr (.inr (acc ||| (shl64 ((b[pos] &&& (UInt8.ofNat 127)).toUInt64) (7 * i)), 0, ((pos + 1 : Nat) : Int)))))) = z) := fun z => by
          simp only [L90_2, L90_2c, h, decide_true, cond_true, e1, cond_false, hin, Option.bind_some, List.getElem?_eq_getElem hlt, hg, hc', decide_false, w2]
        have b0 : (b[pos] == UInt8.ofNat 0) = decide (b[pos].toNat = 0) := by
          rw [Bool.eq_iff_iff]; simp only [beq_iff_eq, decide_eq_true_eq]
          exact ⟨fun h => by rw [h]; rfl, fun h => UInt8.toNat_inj.1 (by rw [h]; rfl)⟩
        have b1 : decide (UInt8.ofNat 1 < b[pos]) = decide (1 < b[pos].toNat) := rfl
        have i0 : decide ((0 : Int) < ((i : Nat) : Int)) = decide (0 < i) := by rw [Bool.eq_iff_iff]; simp
        have i9 : (((i : Nat) : Int) == 9) = decide (i = 9) := by rw [Bool.eq_iff_iff]; simp; omega
        rw [b0, b1, i0, i9] at base
        by_cases c1 : 0 < i ∧ b[pos].toNat = 0
        · right
          rw [if_pos c1]
          exact ⟨rfl, .inr (bad ((base _).2 (by simp [c1.1, c1.2])))⟩
        · rw [if_neg c1]
          by_cases c2 : i = 9 ∧ 1 < b[pos].toNat
          · right
            rw [if_pos c2]
            have hz : ¬ b[pos].toNat = 0 := by omega
            exact ⟨rfl, .inr (bad ((base _).2 (by simp [c2.1, c2.2, hz])))⟩
          · left
            rw [if_neg c2]
            refine ⟨_, _, rfl, good (fun h => by omega) ((base _).2 ?_)⟩
            by_cases hi0 : 0 < i
            · have hz : ¬ b[pos].toNat = 0 := fun h => c1 ⟨hi0, h⟩
              by_cases hi9 : i = 9
              · have : ¬ 1 < b[pos].toNat := fun h => c2 ⟨hi9, h⟩
                simp [hi0, hz, hi9, this]
              · simp [hi0, hz, hi9]
            · have hi9 : ¬ i = 9 := by omega
              simp [hi0, hi9]

/-- number, of the code. -/
theorem t90 {F : Nat} (hF : 50 < F) (b : List UInt8) (hb : b.length < 1000000000) {pos : Nat} (hp : pos ≤ b.length) :
    (∃ v n, decS 0 (b.drop pos) = some (v, n) ∧ T90 F ((pos : Nat) : Int) b = some (UInt64.ofNat v, 0, ((pos + n : Nat) : Int))) ∨
    (decS 0 (b.drop pos) = none ∧ ∃ p, T90 F ((pos : Nat) : Int) b = some (UInt64.ofNat 0, 3, p)) := by
  have z : ((0 : Nat) : Int) = 0 := rfl
  rcases l90 F b hb 10 0 F pos (UInt64.ofNat 0) (by omega) (by omega) (by decide) hp with ⟨v, n, h1, h2⟩ | ⟨h1, h2⟩
  · left
    rw [z] at h2
    refine ⟨v, n, h1, ?_⟩
    simp only [T90, T90c]
    rw [h2]
    simp [elimS]
  · right
    rw [z] at h2
    refine ⟨h1, ?_⟩
    rcases h2 with ⟨p, h2⟩ | ⟨p, h2⟩
    · exact ⟨p, by simp only [T90, T90c]; rw [h2]; rfl⟩
    · exact ⟨p, by simp only [T90, T90c]; rw [h2]; rfl⟩
end Go.Proofs.YtjghgfohpihhfaaDoor
/- Numbers that are read by the specification. Plain laws. -/
namespace Go.Proofs.YtjghgfohpihhfaaDoor
open Go.Tw
set_option linter.unusedVariables false
set_option linter.unusedSimpArgs false

theorem ix_nat {α : Type} {l : List α} {i : Nat} (h : i < l.length) : ix l ((i : Nat) : Int) = some l[i] := by
  unfold ix; rw [if_pos (by omega)]; simp only [Int.toNat_natCast]; exact List.getElem?_eq_getElem h

def val : List UInt8 → Nat
  | [] => 0
  | b :: r => b.toNat % 128 + 128 * val r

theorem val_snoc : ∀ (l : List UInt8) (x : UInt8), val (l ++ [x]) = val l + x.toNat % 128 * 128 ^ l.length
  | [], x => by simp [val]
  | b :: r, x => by
    simp only [List.cons_append, val, val_snoc r x, List.length_cons, Nat.pow_succ]
    rw [Nat.mul_add, Nat.add_assoc]; congr 2; ac_rfl

theorem decS_val : ∀ (l : List UInt8) (i v n : Nat), decS i l = some (v, n) → v = val (l.take n) ∧ 1 ≤ n ∧ (∀ j x, j + 1 < n → l[j]? = some x → 128 ≤ x.toNat) ∧ ∃ x, l[n - 1]? = some x ∧ x.toNat < 128
  | [], i, v, n, h => by simp [decS] at h
  | b :: r, i, v, n, h => by
    simp only [decS] at h
    split at h
    · cases h
    split at h
    · split at h <;> first | (cases h; done) | skip
      rename_i hc _ v' n' hr
      cases h
      obtain ⟨h1, h2, h3, x, h4, h5⟩ := decS_val r (i + 1) v' n' hr
      refine ⟨by simp [val, ← h1], by omega, fun j x hj hx => ?_, x, ?_, h5⟩
      · cases j with
        | zero => simp at hx; subst hx; exact hc
        | succ j => exact h3 j x (by omega) (by simpa using hx)
      · obtain ⟨k, rfl⟩ : ∃ k, n' = k + 1 := ⟨n' - 1, by omega⟩
        simpa using h4
    · split at h
      · cases h
      split at h
      · cases h
      rename_i hx hb h0 h9
      cases h
      refine ⟨?_, by omega, fun j x hj _ => by omega, b, by simp, by omega⟩
      simp [val, Nat.mod_eq_of_lt (show b.toNat < 128 by omega)]

theorem mod_in (A V p N : Nat) : (A % N * p + V) % N = (A * p + V) % N := by
  rw [Nat.add_mod, Nat.mul_mod, Nat.mod_mod, ← Nat.mul_mod, ← Nat.add_mod]

theorem l77_5 (F : Nat) {b : List UInt8} {a : Nat} (hb : b.length < 1000000000) : ∀ (m fuel : Nat) (acc : UInt64), a + m ≤ b.length → m < fuel →
    ∃ r, iter (fun s : UInt64 × Int => L77_5 F b ((a : Nat) : Int) s.1 s.2) fuel (acc, ((m : Nat) : Int) - 1) = some r ∧ r.toNat = (acc.toNat * 128 ^ m + val ((b.drop a).take m)) % 2 ^ 64
  | m, 0, acc, hm, hf => by omega
  | 0, fuel + 1, acc, hm, hf => by
    have h : ¬ ((0 : Int) ≤ ((0 : Nat) : Int) - 1) := by omega
    refine ⟨acc, ?_, ?_⟩
    · have step : L77_5 F b ((a : Nat) : Int) acc (((0 : Nat) : Int) - 1) = some (.inr acc) := by
        simp only [L77_5, L77_5c, h, decide_false, cond_false]
      rw [it_out (f := fun s : UInt64 × Int => L77_5 F b ((a : Nat) : Int) s.1 s.2) (s := (acc, _)) step]
    · have := acc.toNat_lt
      first | (simp [val]; done) | (simp [val]; omega)
  | m + 1, fuel + 1, acc, hm, hf => by
    have e : ((m + 1 : Nat) : Int) - 1 = ((m : Nat) : Int) := by omega
    rw [e]
    have h : ((0 : Int) ≤ ((m : Nat) : Int)) := by omega
    have hlt : a + m < b.length := by omega
    have w1 : w64 (((a : Nat) : Int) + ((m : Nat) : Int)) = ((a + m : Nat) : Int) := by rw [w64_in (by omega) (by omega)]; omega
    have hx : ix b ((a + m : Nat) : Int) = some b[a + m] := ix_nat hlt
    have w2 : w64 (((m : Nat) : Int) - 1) = ((m : Nat) : Int) - 1 := w64_in (by omega) (by omega)
    obtain ⟨r, h1, h2⟩ := l77_5 F (a := a) hb m fuel ((acc * UInt64.ofNat 128) + (b[a + m] % UInt8.ofNat 128).toUInt64) (by omega) (by omega)
    refine ⟨r, ?_, ?_⟩
    · have step : L77_5 F b ((a : Nat) : Int) acc ((m : Nat) : Int) = some (.inl ((acc * UInt64.ofNat 128) + (b[a + m] % UInt8.ofNat 128).toUInt64, ((m : Nat) : Int) - 1)) := by
        simp only [L77_5, L77_5c, h, decide_true, cond_true, w1, hx, Option.bind_some, w2]
      rw [it_again (f := fun s : UInt64 × Int => L77_5 F b ((a : Nat) : Int) s.1 s.2) (s := (acc, _)) step, h1]
    · rw [h2]
      have ht : (b.drop a).take (m + 1) = (b.drop a).take m ++ [b[a + m]] := by
        rw [List.take_succ_eq_append_getElem (by simp; omega)]; simp
      have hl : ((b.drop a).take m).length = m := by simp; omega
      rw [ht, val_snoc, hl]
      have ha : ((acc * UInt64.ofNat 128) + (b[a + m] % UInt8.ofNat 128).toUInt64).toNat = (acc.toNat * 128 + b[a + m].toNat % 128) % 2 ^ 64 := by
        rw [UInt64.toNat_add, UInt64.toNat_mul, UInt8.toNat_toUInt64, UInt8.toNat_mod]
        have e1 : (UInt64.ofNat 128).toNat = 128 := rfl
        have e2 : (UInt8.ofNat 128).toNat = 128 := rfl
        rw [e1, e2]
        have := mod_in (acc.toNat * 128) (b[a + m].toNat % 128) 1 (2 ^ 64)
        simp
      rw [ha, mod_in]
      congr 1
      rw [Nat.pow_succ, Nat.add_mul, Nat.add_assoc, Nat.add_comm (b[a + m].toNat % 128 * 128 ^ m)]
      congr 1; ac_rfl

theorem l77_6 (F : Nat) {b ag : List UInt8} {a : Nat} (hb : b.length < 1000000000) (hn : a + ag.length ≤ b.length) : ∀ (m fuel j : Nat), j + m = ag.length → m < fuel →
    iter (fun s => L77_6 F b ((a : Nat) : Int) ((ag.length : Nat) : Int) ag s) fuel ((j : Nat) : Int) = some (if ag.drop j = ((b.drop a).take ag.length).drop j then .inl () else .inr (UInt64.ofNat 0, 0, false))
  | m, 0, j, hj, hf => by omega
  | 0, fuel + 1, j, hj, hf => by
    have h : ¬ (((j : Nat) : Int) < ((ag.length : Nat) : Int)) := by omega
    have step : L77_6 F b ((a : Nat) : Int) ((ag.length : Nat) : Int) ag ((j : Nat) : Int) = some (.inr (.inl ())) := by
      simp only [L77_6, L77_6c, h, decide_false, cond_false]
    rw [it_out (f := fun s => L77_6 F b ((a : Nat) : Int) ((ag.length : Nat) : Int) ag s) step]
    rw [List.drop_eq_nil_of_le (by omega), List.drop_eq_nil_of_le (by simp; omega)]
    simp
  | m + 1, fuel + 1, j, hj, hf => by
    have h : (((j : Nat) : Int) < ((ag.length : Nat) : Int)) := by omega
    have hjl : j < ag.length := by omega
    have hjb : a + j < b.length := by omega
    have w1 : w64 (((a : Nat) : Int) + ((j : Nat) : Int)) = ((a + j : Nat) : Int) := by rw [w64_in (by omega) (by omega)]; omega
    have w2 : w64 (((j : Nat) : Int) + 1) = ((j + 1 : Nat) : Int) := by rw [w64_in (by omega) (by omega)]; omega
    have hx : ix b ((a + j : Nat) : Int) = some b[a + j] := ix_nat hjb
    have hin : inb ag.length ((j : Nat) : Int) = some j := by unfold inb; rw [if_pos (by omega)]; simp
    have d1 : ag.drop j = ag[j] :: ag.drop (j + 1) := List.drop_eq_getElem_cons hjl
    have d2 : ((b.drop a).take ag.length).drop j = b[a + j] :: ((b.drop a).take ag.length).drop (j + 1) := by
      rw [List.drop_eq_getElem_cons (by simp; omega)]; simp
    rw [d1, d2]
    by_cases hc : ag[j] = b[a + j]
    · have hne : (ag[j] != b[a + j]) = false := by simp [hc]
      have step : L77_6 F b ((a : Nat) : Int) ((ag.length : Nat) : Int) ag ((j : Nat) : Int) = some (.inl ((j + 1 : Nat) : Int)) := by
        simp only [L77_6, L77_6c, h, decide_true, cond_true, hin, Option.bind_some, List.getElem?_eq_getElem hjl, w1, hx, hne, cond_false, w2]
      rw [it_again (f := fun s => L77_6 F b ((a : Nat) : Int) ((ag.length : Nat) : Int) ag s) step, l77_6 F hb hn m fuel (j + 1) (by omega) (by omega)]
      simp [hc]
    · have hne : (ag[j] != b[a + j]) = true := by simpa using hc
      have step : L77_6 F b ((a : Nat) : Int) ((ag.length : Nat) : Int) ag ((j : Nat) : Int) = some (.inr (.inr (UInt64.ofNat 0, 0, false))) := by
        simp only [L77_6, L77_6c, h, decide_true, cond_true, hin, Option.bind_some, List.getElem?_eq_getElem hjl, w1, hx, hne]
      rw [it_out (f := fun s => L77_6 F b ((a : Nat) : Int) ((ag.length : Nat) : Int) ag s) step]
      rw [if_neg (fun h => by injection h with h1 _; exact hc h1)]

/-- Where the first byte below 128 stands. -/
theorem decS_at {l : List UInt8} {v k n : Nat} {x : UInt8} (h : decS 0 l = some (v, k)) (hn : 1 ≤ n) (hx : l[n - 1]? = some x) (hlo : x.toNat < 128) (hbe : ∀ j y, j + 1 < n → l[j]? = some y → 128 ≤ y.toNat) : k = n := by
  obtain ⟨h1, h2, h3, y, h4, h5⟩ := decS_val l 0 v k h
  rcases Nat.lt_trichotomy k n with h6 | h6 | h6
  · have := hbe (k - 1) y (by omega) h4; omega
  · exact h6
  · have := h3 (n - 1) x (by omega) hx; omega

theorem l77_4 (F : Nat) (hF : 50 < F) {b : List UInt8} {a : Nat} (hb : b.length < 1000000000) (ha : a ≤ b.length) : ∀ (m fuel n : Nat), n + m = 11 → m < fuel → 1 ≤ n → (∀ j y, j + 1 < n → (b.drop a)[j]? = some y → 128 ≤ y.toNat) →
    (∃ v k, decS 0 (b.drop a) = some (v, k) ∧ iter (fun s => L77_4 F b ((a : Nat) : Int) s) fuel ((n : Nat) : Int) = some (.inr (UInt64.ofNat v, ((a + k : Nat) : Int), true))) ∨
    (decS 0 (b.drop a) = none ∧ (iter (fun s => L77_4 F b ((a : Nat) : Int) s) fuel ((n : Nat) : Int) = some (.inl ()) ∨ iter (fun s => L77_4 F b ((a : Nat) : Int) s) fuel ((n : Nat) : Int) = some (.inr (UInt64.ofNat 0, 0, false))))
  | m, 0, n, hm, hf, hn, hbe => by omega
  | 0, fuel + 1, n, hm, hf, hn, hbe => by
    right
    have h : ¬ (((n : Nat) : Int) ≤ 10) := by omega
    refine ⟨?_, .inl ?_⟩
    · cases hd : decS 0 (b.drop a) with
      | none => rfl
      | some r =>
        obtain ⟨v, k⟩ := r
        obtain ⟨h1, h2, h3, y, h4, h5⟩ := decS_val _ 0 v k hd
        have h6 := decS_bd _ 0 v k (by omega) hd
        have := hbe (k - 1) y (by omega) h4
        omega
    · have step : L77_4 F b ((a : Nat) : Int) ((n : Nat) : Int) = some (.inr (.inl ())) := by
        simp only [L77_4, L77_4c, h, decide_false, cond_false]
      rw [it_out (f := fun s => L77_4 F b ((a : Nat) : Int) s) step]
  | m + 1, fuel + 1, n, hm, hf, hn, hbe => by
    have h : (((n : Nat) : Int) ≤ 10) := by omega
    have w1 : w64 (((a : Nat) : Int) + ((n : Nat) : Int)) = ((a + n : Nat) : Int) := by rw [w64_in (by omega) (by omega)]; omega
    by_cases hl : a + n ≤ b.length
    · have hl' : (((a + n : Nat) : Int) ≤ (b.length : Int)) := by omega
      have hlt : a + (n - 1) < b.length := by omega
      have w2 : w64 (((a + n : Nat) : Int) - 1) = ((a + (n - 1) : Nat) : Int) := by rw [w64_in (by omega) (by omega)]; omega
      have hx : ix b ((a + (n - 1) : Nat) : Int) = some b[a + (n - 1)] := ix_nat hlt
      have hget : (b.drop a)[n - 1]? = some b[a + (n - 1)] := by simp [hlt]
      by_cases hc : 128 ≤ b[a + (n - 1)].toNat
      · have hc' : UInt8.ofNat 128 ≤ b[a + (n - 1)] := hc
        have w3 : w64 (((n : Nat) : Int) + 1) = ((n + 1 : Nat) : Int) := by rw [w64_in (by omega) (by omega)]; omega
        have step : L77_4 F b ((a : Nat) : Int) ((n : Nat) : Int) = some (.inl ((n + 1 : Nat) : Int)) := by
          simp only [L77_4, L77_4c, h, decide_true, cond_true, w1, hl', w2, hx, Option.bind_some, hc', w3]
        rw [it_again (f := fun s => L77_4 F b ((a : Nat) : Int) s) step]
        refine l77_4 F hF hb ha m fuel (n + 1) (by omega) (by omega) (by omega) (fun j y hj hy => ?_)
        by_cases hjn : j + 1 = n
        · have : j = n - 1 := by omega
          rw [this, hget] at hy
          cases hy; exact hc
        · exact hbe j y (by omega) hy
      · have hc' : ¬ UInt8.ofNat 128 ≤ b[a + (n - 1)] := hc
        obtain ⟨r, hr1, hr2⟩ := l77_5 F hb n F (UInt64.ofNat 0) (a := a) hl (by omega)
        have z0 : (UInt64.ofNat 0).toNat = 0 := rfl
        rw [z0, Nat.zero_mul, Nat.zero_add] at hr2
        have w4 : w64 (((n : Nat) : Int) - 1) = ((n : Nat) : Int) - 1 := w64_in (by omega) (by omega)
        have t45 := t45' hF r
        have uniq : ∀ v k, decS 0 (b.drop a) = some (v, k) → k = n ∧ v = r.toNat ∧ enc r.toNat = (b.drop a).take n := fun v k hd => by
          have hk := decS_at hd hn hget (by omega) hbe
          subst hk
          obtain ⟨q1, q2, q3, q4⟩ := dec_enc hd
          have hv := (decS_val _ 0 v k hd).1
          have : r.toNat = v := by rw [hr2, ← hv]; exact Nat.mod_eq_of_lt q3
          exact ⟨rfl, this.symm, by rw [this, q1]⟩
        by_cases hlen : (enc r.toNat).length = n
        · have hne : (((enc r.toNat).length : Int) != ((n : Nat) : Int)) = false := by simp [hlen]
          have l6 := l77_6 F (b := b) (ag := enc r.toNat) (a := a) hb (by omega) n F 0 (by omega) (by omega)
          have z : ((0 : Nat) : Int) = 0 := rfl
          rw [z, hlen, List.drop_zero, List.drop_zero] at l6
          by_cases heq : enc r.toNat = (b.drop a).take n
          · left
            have hdec : decS 0 (b.drop a) = some (r.toNat, n) := by
              have := enc_dec r.toNat_lt ((b.drop a).drop n)
              rw [heq, List.take_append_drop] at this
              rw [this, ← heq, hlen]
            rw [if_pos heq] at l6
            refine ⟨_, _, hdec, ?_⟩
            have step : L77_4 F b ((a : Nat) : Int) ((n : Nat) : Int) = some (.inr (.inr (r, ((a + n : Nat) : Int), true))) := by
              simp only [L77_4, L77_4c, h, decide_true, cond_true, w1, hl', w2, hx, Option.bind_some, hc', decide_false, cond_false, w4, hr1, t45, hne, l6, elimS]
            rw [it_out (f := fun s => L77_4 F b ((a : Nat) : Int) s) step, UInt64.ofNat_toNat]
          · right
            rw [if_neg heq] at l6
            refine ⟨?_, .inr ?_⟩
            · cases hd : decS 0 (b.drop a) with
              | none => rfl
              | some q => exact absurd (uniq q.1 q.2 hd).2.2 heq
            · have step : L77_4 F b ((a : Nat) : Int) ((n : Nat) : Int) = some (.inr (.inr (UInt64.ofNat 0, 0, false))) := by
                simp only [L77_4, L77_4c, h, decide_true, cond_true, w1, hl', w2, hx, Option.bind_some, hc', decide_false, cond_false, w4, hr1, t45, hne, l6, elimS]
              rw [it_out (f := fun s => L77_4 F b ((a : Nat) : Int) s) step]
        · have hne : (((enc r.toNat).length : Int) != ((n : Nat) : Int)) = true := by simp; omega
          right
          refine ⟨?_, .inr ?_⟩
          · cases hd : decS 0 (b.drop a) with
            | none => rfl
            | some q =>
              obtain ⟨q1, q2, q3⟩ := uniq q.1 q.2 hd
              have := (dec_enc hd).2.1
              rw [q2] at this
              omega
          · have step : L77_4 F b ((a : Nat) : Int) ((n : Nat) : Int) = some (.inr (.inr (UInt64.ofNat 0, 0, false))) := by
              simp only [L77_4, L77_4c, h, decide_true, cond_true, w1, hl', w2, hx, Option.bind_some, hc', decide_false, cond_false, w4, hr1, t45, hne]
            rw [it_out (f := fun s => L77_4 F b ((a : Nat) : Int) s) step]
    · have hl' : ¬ (((a + n : Nat) : Int) ≤ (b.length : Int)) := by omega
      right
      refine ⟨?_, .inl ?_⟩
      · cases hd : decS 0 (b.drop a) with
        | none => rfl
        | some r =>
          obtain ⟨v, k⟩ := r
          obtain ⟨h1, h2, h3, y, h4, h5⟩ := decS_val _ 0 v k hd
          have h6 := decS_bd _ 0 v k (by omega) hd
          have h7 : k ≤ b.length - a := by simpa using h6.2.2.1
          have := hbe (k - 1) y (by omega) h4
          omega
      · have step : L77_4 F b ((a : Nat) : Int) ((n : Nat) : Int) = some (.inr (.inl ())) := by
          simp only [L77_4, L77_4c, h, decide_true, cond_true, w1, hl', decide_false, cond_false]
        rw [it_out (f := fun s => L77_4 F b ((a : Nat) : Int) s) step]

/-- number, of the specification. -/
theorem t77 {F : Nat} (hF : 50 < F) (b : List UInt8) (hb : b.length < 1000000000) {a : Nat} (ha : a ≤ b.length) :
    (∃ v k, decS 0 (b.drop a) = some (v, k) ∧ T77 F b ((a : Nat) : Int) = some (UInt64.ofNat v, ((a + k : Nat) : Int), true)) ∨
    (decS 0 (b.drop a) = none ∧ T77 F b ((a : Nat) : Int) = some (UInt64.ofNat 0, 0, false)) := by
  have o : ((1 : Nat) : Int) = 1 := rfl
  rcases l77_4 F hF hb ha 10 F 1 (by omega) (by omega) (by omega) (fun j y hj _ => by omega) with ⟨v, k, h1, h2⟩ | ⟨h1, h2⟩
  · left
    rw [o] at h2
    exact ⟨v, k, h1, by simp only [T77, T77c]; rw [h2]; rfl⟩
  · right
    rw [o] at h2
    refine ⟨h1, ?_⟩
    rcases h2 with h2 | h2 <;> (simp only [T77, T77c]; rw [h2]; rfl)
end Go.Proofs.YtjghgfohpihhfaaDoor
/- Content, of the code and of its specification; SealContent: the plain law. -/
namespace Go.Proofs.YtjghgfohpihhfaaDoor
open Go.Tw
set_option linter.unusedVariables false
set_option linter.unusedSimpArgs false

/-- These bytes are the body of a content with a check. -/
def IsBody (F : Nat) (b c k : List UInt8) : Prop := c.length ≤ 32768 ∧ k.length = 16 ∧ T14 F (c.length : Int) = some ((b.length : Int), 0) ∧ b = bodyL b.length c k

theorem cls_le {F : Nat} (hF : 50 < F) {c : List UInt8} {D : Int} (hc : c.length ≤ 32768) (h : T14 F (c.length : Int) = some (D, 0)) : (sz c.length : Nat) + (c.length : Int) + 16 ≤ D ∧ ∃ j, j < 38 ∧ D = cls j := by
  obtain ⟨j, hj, h1, h2, _⟩ := class_spec hF (n := (c.length : Int)) (by omega) (by omega)
  rw [h] at h1
  have : D = cls j := by simpa using h1
  rw [Int.toNat_natCast] at h2
  exact ⟨by omega, j, hj, this⟩

theorem app4 {b : List UInt8} {n v : Nat} (h : n + v + 16 ≤ b.length) : b = b.take n ++ (b.drop n).take v ++ (b.drop (n + v)).take (b.length - 16 - n - v) ++ b.drop (b.length - 16) := by
  have h1 : b.drop (b.length - 16) = ((b.drop (n + v)).drop (b.length - 16 - n - v)) := by rw [List.drop_drop]; congr 1; omega
  have h2 : b.drop (n + v) = (b.drop n).drop v := by rw [List.drop_drop]
  rw [List.append_assoc, h1, List.take_append_drop, List.append_assoc, h2, List.take_append_drop, List.take_append_drop]

theorem parts {F : Nat} (hF : 50 < F) {b c k : List UInt8} (h : IsBody F b c k) : decS 0 b = some (c.length, sz c.length) ∧ sz c.length + c.length + 16 ≤ b.length ∧ (b.drop (sz c.length)).take c.length = c ∧ (b.drop (sz c.length + c.length)).take (b.length - 16 - sz c.length - c.length) = List.replicate (b.length - 16 - sz c.length - c.length) 0 ∧ b.drop (b.length - 16) = k := by
  obtain ⟨hc, hk, h14, hb⟩ := h
  obtain ⟨hle, _⟩ := cls_le hF hc h14
  have hle' : sz c.length + c.length + 16 ≤ b.length := by omega
  have he := enc_len hc
  have hd : decS 0 b = some (c.length, sz c.length) := by
    have := enc_dec (v := c.length) (by omega) (c ++ List.replicate (b.length - 16 - (enc c.length).length - c.length) 0 ++ k)
    rw [he] at this
    rw [← this]
    conv => lhs; rw [hb]
    simp [bodyL, he]
  have h4 := app4 (b := b) (n := sz c.length) (v := c.length) hle'
  have e : b.take (sz c.length) ++ (b.drop (sz c.length)).take c.length ++ (b.drop (sz c.length + c.length)).take (b.length - 16 - sz c.length - c.length) ++ b.drop (b.length - 16) = enc c.length ++ c ++ List.replicate (b.length - 16 - sz c.length - c.length) 0 ++ k := by
    rw [← h4]
    conv => lhs; rw [hb]
    simp [bodyL, he]
  obtain ⟨e1, e2⟩ := List.append_inj' e (by simp [hk]; omega)
  obtain ⟨e3, e4⟩ := List.append_inj' e1 (by simp; omega)
  obtain ⟨e5, e6⟩ := List.append_inj' e3 (by simp; omega)
  exact ⟨hd, hle', e6, e4, e2⟩

theorem of_parts {F : Nat} (hF : 50 < F) {b : List UInt8} {v n : Nat} (hd : decS 0 b = some (v, n)) (hv : v ≤ 32768) (h14 : T14 F (v : Int) = some ((b.length : Int), 0)) (hz : (b.drop (n + v)).take (b.length - 16 - n - v) = List.replicate (b.length - 16 - n - v) 0) (hl : n + v + 16 ≤ b.length) :
    IsBody F b ((b.drop n).take v) (b.drop (b.length - 16)) := by
  obtain ⟨h1, h2, h3, h4⟩ := dec_enc hd
  have he := enc_len hv
  have hcl : ((b.drop n).take v).length = v := by simp; omega
  refine ⟨by omega, by simp; omega, by rw [hcl]; exact h14, ?_⟩
  have := app4 hl
  simp only [bodyL, hcl]
  rw [← h1]
  have hn : (b.take n).length = n := by simp; omega
  rw [hn, ← hz]
  exact this

/- ## the code -/
theorem t61 {F : Nat} (hF : 50 < F) (b : List UInt8) (hb : b.length < 1000000) :
    (∃ v n, decS 0 b = some (v, n) ∧ v ≤ 32768 ∧ n + v ≤ b.length ∧ T61 F 0 0 0 32768 b = some ((b.drop n).take v, ((n + v : Nat) : Int), 0, 0)) ∨
    ((∀ v n, decS 0 b = some (v, n) → v ≤ 32768 → n + v ≤ b.length → False) ∧ ∃ e, T61 F 0 0 0 32768 b = some ([], 0, 0, e)) := by
  have z : ((0 : Nat) : Int) = 0 := rfl
  have e0 : ((0 : Int) != 0) = false := by decide
  have e3 : ((3 : Int) != 0) = true := by decide
  have e2 : ((2 : Int) != 0) = true := by decide
  have g0 : gapp ([] : List UInt8) ((b.drop 0).take (0 - 0)) = some [] := by simp [gapp]
  have hlim : (UInt64.ofInt (if (32768 : Int) < 0 then 0 else 32768)) = UInt64.ofNat 32768 := by decide
  rcases t90 hF b (by omega) (pos := 0) (by omega) with ⟨v, n, h1, h2⟩ | ⟨h1, p, h2⟩
  · rw [List.drop_zero] at h1
    rw [z, Nat.zero_add] at h2
    obtain ⟨q1, q2, q3, q4⟩ := dec_enc h1
    have hvn : (UInt64.ofNat v).toNat = v := by rw [UInt64.toNat_ofNat']; exact Nat.mod_eq_of_lt q3
    by_cases hv : v ≤ 32768
    · have hlt : ¬ UInt64.ofNat 32768 < UInt64.ofNat v := by
        show ¬ ((UInt64.ofNat 32768).toNat < (UInt64.ofNat v).toNat)
        rw [hvn]
        have : (UInt64.ofNat 32768).toNat = 32768 := rfl
        omega
      have w1 : w64 ((UInt64.ofNat v).toNat : Int) = (v : Int) := by rw [hvn]; exact w64_in (by omega) (by omega)
      have h75 : T75 F 32768 0 b = some ((v : Int), 0, (n : Int)) := by
        simp only [T75, T75c, h2, Option.bind_some, e0, cond_false, hlim, hlt, decide_false, w1]
      have w2 : w64 ((b.length : Int) - (n : Int)) = ((b.length - n : Nat) : Int) := by rw [w64_in (by omega) (by omega)]; omega
      by_cases hnv : n + v ≤ b.length
      · left
        refine ⟨v, n, h1, hv, hnv, ?_⟩
        have c1 : ¬ (((b.length - n : Nat) : Int) < (v : Int)) := by omega
        have w3 : w64 ((n : Int) + (v : Int)) = ((n + v : Nat) : Int) := by rw [w64_in (by omega) (by omega)]; omega
        have g1 : gslb b.length (n : Int) ((n + v : Nat) : Int) = some (n, n + v) := by unfold gslb; rw [if_pos (by omega)]; simp only [Int.toNat_natCast]
        have h76 : T76 F (v : Int) (n : Int) b = some ((n, n + v), 0, ((n + v : Nat) : Int)) := by
          simp only [T76, T76c, w2, c1, decide_false, cond_false, w3, g1, Option.bind_some]
        have h63 : T63 F 32768 0 b = some ((n, n + v), 0, ((n + v : Nat) : Int)) := by
          simp only [T63, T63c, h75, Option.bind_some, e0, cond_false, h76]
        have g2 : gapp ([] : List UInt8) ((b.drop n).take (n + v - n)) = some ((b.drop n).take v) := by
          rw [Nat.add_sub_cancel_left]; unfold gapp; rw [if_pos (by simp; omega)]; simp
        have h62 : T62 F 32768 0 b = some (0, ((n + v : Nat) : Int), (b.drop n).take v) := by
          simp only [T62, T62c, h63, Option.bind_some, g2]
        have h74 : T74 F 0 ((n + v : Nat) : Int) 0 ((b.drop n).take v) = some ((0, ((b.drop n).take v).length), ((n + v : Nat) : Int)) := by
          simp only [T74, T74c, e0, cond_false]
        simp only [T61, T61c, e0, cond_false, h62, Option.bind_some, h74, List.drop_zero, Nat.sub_zero, List.take_length]
      · right
        refine ⟨fun v' n' hd hv' hn' => by rw [h1] at hd; cases hd; omega, 3, ?_⟩
        have c1 : (((b.length - n : Nat) : Int) < (v : Int)) := by omega
        have h76 : T76 F (v : Int) (n : Int) b = some ((0, 0), 3, (n : Int)) := by
          simp only [T76, T76c, w2, c1, decide_true, cond_true]
        have h63 : T63 F 32768 0 b = some ((0, 0), 3, (n : Int)) := by
          simp only [T63, T63c, h75, Option.bind_some, e0, cond_false, h76]
        have h62 : T62 F 32768 0 b = some (3, (n : Int), []) := by
          simp only [T62, T62c, h63, Option.bind_some, g0]
        have h74 : T74 F 0 (n : Int) 3 [] = some ((0, 0), 0) := by
          simp only [T74, T74c, e3, cond_true]
        simp only [T61, T61c, e0, cond_false, h62, Option.bind_some, h74, List.drop_zero, Nat.sub_zero, List.take_zero]
    · right
      refine ⟨fun v' n' hd hv' hn' => by rw [h1] at hd; cases hd; omega, 2, ?_⟩
      have hlt : UInt64.ofNat 32768 < UInt64.ofNat v := by
        show ((UInt64.ofNat 32768).toNat < (UInt64.ofNat v).toNat)
        rw [hvn]
        have : (UInt64.ofNat 32768).toNat = 32768 := rfl
        omega
      have h75 : T75 F 32768 0 b = some (0, 2, (n : Int)) := by
        simp only [T75, T75c, h2, Option.bind_some, e0, cond_false, hlim, hlt, decide_true, cond_true]
      have h63 : T63 F 32768 0 b = some ((0, 0), 2, (n : Int)) := by
        simp only [T63, T63c, h75, Option.bind_some, e2, cond_true]
      have h62 : T62 F 32768 0 b = some (2, (n : Int), []) := by
        simp only [T62, T62c, h63, Option.bind_some, g0]
      have h74 : T74 F 0 (n : Int) 2 [] = some ((0, 0), 0) := by
        simp only [T74, T74c, e2, cond_true]
      simp only [T61, T61c, e0, cond_false, h62, Option.bind_some, h74, List.drop_zero, Nat.sub_zero, List.take_zero]
  · right
    rw [List.drop_zero] at h1
    rw [z] at h2
    refine ⟨fun v' n' hd _ _ => absurd (h1.symm.trans hd) (by simp), 3, ?_⟩
    have h75 : T75 F 32768 0 b = some (0, 3, p) := by
      simp only [T75, T75c, h2, Option.bind_some, e3, cond_true]
    have h63 : T63 F 32768 0 b = some ((0, 0), 3, p) := by
      simp only [T63, T63c, h75, Option.bind_some, e3, cond_true]
    have h62 : T62 F 32768 0 b = some (3, p, []) := by
      simp only [T62, T62c, h63, Option.bind_some, g0]
    have h74 : T74 F 0 p 3 [] = some ((0, 0), 0) := by
      simp only [T74, T74c, e3, cond_true]
    simp only [T61, T61c, e0, cond_false, h62, Option.bind_some, h74, List.drop_zero, Nat.sub_zero, List.take_zero]

theorem l20 (F : Nat) {l : List UInt8} (hl : l.length < 1000000) : ∀ (m fuel i : Nat), i + m = l.length → m < fuel → iter (fun s => L20_2 F l (l.length : Int) s) fuel ((i : Nat) : Int) = some (if l.drop i = List.replicate m 0 then .inl () else .inr 3)
  | m, 0, i, hi, hf => by omega
  | 0, fuel + 1, i, hi, hf => by
    have h : ¬ (((i : Nat) : Int) < (l.length : Int)) := by omega
    have step : L20_2 F l (l.length : Int) ((i : Nat) : Int) = some (.inr (.inl ())) := by
      simp only [L20_2, L20_2c, h, decide_false, cond_false]
    rw [it_out (f := fun s => L20_2 F l (l.length : Int) s) step, List.drop_eq_nil_of_le (by omega)]
    simp
  | m + 1, fuel + 1, i, hi, hf => by
    have h : (((i : Nat) : Int) < (l.length : Int)) := by omega
    have hlt : i < l.length := by omega
    have hx : ix l ((i : Nat) : Int) = some l[i] := by unfold ix; rw [if_pos (by omega)]; simp [hlt]
    have w : w64 (((i : Nat) : Int) + 1) = (((i + 1 : Nat)) : Int) := by rw [w64_in (by omega) (by omega)]; omega
    rw [List.drop_eq_getElem_cons hlt, List.replicate_succ]
    by_cases hc : l[i] = UInt8.ofNat 0
    · have hne : (l[i] != UInt8.ofNat 0) = false := by simp [hc]
      have step : L20_2 F l (l.length : Int) ((i : Nat) : Int) = some (.inl (((i + 1 : Nat)) : Int)) := by
        simp only [L20_2, L20_2c, h, decide_true, cond_true, hx, Option.bind_some, hne, cond_false, w]
      rw [it_again (f := fun s => L20_2 F l (l.length : Int) s) step, l20 F hl m fuel (i + 1) (by omega) (by omega)]
      have hc2 : l[i] = 0 := hc
      simp [hc2]
    · have hne : (l[i] != UInt8.ofNat 0) = true := by simpa using hc
      have step : L20_2 F l (l.length : Int) ((i : Nat) : Int) = some (.inr (.inr 3)) := by
        simp only [L20_2, L20_2c, h, decide_true, cond_true, hx, Option.bind_some, hne]
      rw [it_out (f := fun s => L20_2 F l (l.length : Int) s) step]
      have hc2 : ¬ l[i] = 0 := hc
      rw [if_neg (fun h => by injection h with h1 _; exact hc2 h1)]

/-- Content. -/
theorem t20 {F : Nat} (hF : 50 < F) (b : List UInt8) (hb : b.length < 1000000) (hbF : b.length < F) :
    (∃ c k, IsBody F b c k ∧ T20 F b = some (c, 0, k)) ∨ ((∀ c k, ¬ IsBody F b c k) ∧ T20 F b = some ([], 3, [])) := by
  have h46 : T46 F b = some (0, 0, 0, b) := by
    have : gapp ([] : List UInt8) b = some b := by unfold gapp; rw [if_pos (by simp; omega)]; simp
    simp only [T46, T46c, this, Option.bind_some]
  rcases t61 hF b hb with ⟨v, n, h1, h2, h3, h4⟩ | ⟨h1, e, h4⟩
  · have h47 : T47 F 32768 0 0 0 b = some ((b.drop n).take v, ((n + v : Nat) : Int), 0, 0) := by
      simp only [T47, T47c, h4, Option.bind_some]
    obtain ⟨q1, q2, q3, q4⟩ := dec_enc h1
    have hn : n = sz v := by rw [← q2, enc_len h2]
    have hsz := sz_bd v
    have w1 : w64 ((b.length : Int) - ((n + v : Nat) : Int)) = ((b.length - (n + v) : Nat) : Int) := by rw [w64_in (by omega) (by omega)]; omega
    have h48 : T48 F ((n + v : Nat) : Int) b = some ((b.length - (n + v) : Nat) : Int) := by simp only [T48, T48c, w1]
    have ne1 : (((b.length - (n + v) : Nat) : Int) == (b.length : Int)) = false := by simp; omega
    have hcl : ((b.drop n).take v).length = v := by simp; omega
    obtain ⟨j, hj, c1, c2, _⟩ := class_spec (F := F) hF (n := (v : Int)) (by omega) (by omega)
    rw [Int.toNat_natCast] at c2
    have run : T20 F b = (bif (cls j != (b.length : Int)) then some ([], 3, []) else (gsl b (w64 ((b.length : Int) - ((b.length - (n + v) : Nat) : Int))) (w64 ((b.length : Int) - 16))).bind fun x23 => (iter (fun s => L20_2 F x23 (x23.length : Int) s) F (0 : Int)).bind fun z32 => elimS (fun _ => (gsl b (w64 ((b.length : Int) - 16)) (b.length : Int)).bind fun x33 => (gapp ([] : List UInt8) x33).bind fun x34 => some ((b.drop n).take v, 0, x34)) (fun z32 => some ([], z32, [])) z32) := by
      simp only [T20, T20c, h46, Option.bind_some, h47, h48, ne1, cond_false, hcl, c1]
    by_cases hL : cls j = (b.length : Int)
    · have ne2 : (cls j != (b.length : Int)) = false := by simp [hL]
      have w2 : w64 ((b.length : Int) - ((b.length - (n + v) : Nat) : Int)) = ((n + v : Nat) : Int) := by rw [w64_in (by omega) (by omega)]; omega
      have w3 : w64 ((b.length : Int) - 16) = ((b.length - 16 : Nat) : Int) := by rw [w64_in (by omega) (by omega)]; omega
      have hle : n + v + 16 ≤ b.length := by omega
      have g1 : gsl b ((n + v : Nat) : Int) ((b.length - 16 : Nat) : Int) = some ((b.drop (n + v)).take (b.length - 16 - n - v)) := by
        unfold gsl; rw [if_pos (by omega)]; simp only [Int.toNat_natCast]; rw [show b.length - 16 - (n + v) = b.length - 16 - n - v by omega]
      have g2 : gsl b ((b.length - 16 : Nat) : Int) (b.length : Int) = some (b.drop (b.length - 16)) := by
        unfold gsl; rw [if_pos (by omega)]; simp only [Int.toNat_natCast]
        rw [List.take_of_length_le (by simp)]
      have g3 : gapp ([] : List UInt8) (b.drop (b.length - 16)) = some (b.drop (b.length - 16)) := by unfold gapp; rw [if_pos (by simp; omega)]; simp
      have xl : ((b.drop (n + v)).take (b.length - 16 - n - v)).length = b.length - 16 - n - v := by simp; omega
      have l := l20 F (l := (b.drop (n + v)).take (b.length - 16 - n - v)) (by omega) (b.length - 16 - n - v) F 0 (by omega) (by omega)
      have z : ((0 : Nat) : Int) = 0 := rfl
      rw [z, List.drop_zero] at l
      rw [run]
      simp only [ne2, cond_false, w2, w3, g1, Option.bind_some, l, g2, g3]
      by_cases hz : (b.drop (n + v)).take (b.length - 16 - n - v) = List.replicate (b.length - 16 - n - v) 0
      · left
        refine ⟨_, _, of_parts hF h1 h2 (by rw [c1, hL]) hz hle, ?_⟩
        rw [if_pos hz]; rfl
      · right
        refine ⟨fun c k hB => ?_, by rw [if_neg hz]; rfl⟩
        obtain ⟨p1, p2, p3, p4, p5⟩ := parts hF hB
        rw [h1] at p1
        simp only [Option.some.injEq, Prod.mk.injEq] at p1
        have e1 := p1.1; have e2 := p1.2; rw [← e1] at e2 p4; rw [← e2] at p4
        exact hz p4
    · right
      have ne2 : (cls j != (b.length : Int)) = true := by simpa using hL
      refine ⟨fun c k hB => ?_, by rw [run, ne2]; rfl⟩
      obtain ⟨p1, p2, p3, p4, p5⟩ := parts hF hB
      rw [h1] at p1
      simp only [Option.some.injEq, Prod.mk.injEq] at p1
      have := hB.2.2.1
      rw [← p1.1, c1] at this
      simp at this
      exact hL this
  · have h47 : T47 F 32768 0 0 0 b = some ([], 0, 0, e) := by
      simp only [T47, T47c, h4, Option.bind_some]
    right
    refine ⟨fun c k hB => ?_, ?_⟩
    · obtain ⟨p1, p2, p3, p4, p5⟩ := parts hF hB
      exact h1 _ _ p1 hB.1 (by omega)
    · have w1 : w64 ((b.length : Int) - 0) = (b.length : Int) := by rw [Int.sub_zero]; exact w64_in (by omega) (by omega)
      have h48 : T48 F 0 b = some (b.length : Int) := by simp only [T48, T48c, w1]
      simp only [T20, T20c, h46, Option.bind_some, h47, h48, beq_self_eq_true, cond_true]

/- ## the specification -/
theorem t21 {F : Nat} (hF : 41000 < F) (b : List UInt8) (hb : b.length < 1000000) :
    (∃ c k, IsBody F b c k ∧ T21 F b = some (0, c, k)) ∨ ((∀ c k, ¬ IsBody F b c k) ∧ T21 F b = some (3, [], [])) := by
  have z : ((0 : Nat) : Int) = 0 := rfl
  have e0 : ((0 : Int) != 0) = false := by decide
  have e3 : ((3 : Int) != 0) = true := by decide
  have k0 : ((1 : Int) == 0) = false := by decide
  have k6 : ((1 : Int) == 6) = false := by decide
  have k3 : ((1 : Int) == 3) = false := by decide
  have k1 : ((1 : Int) == 1) = true := by decide
  rcases t77 (F := F) (by omega) b (by omega) (a := 0) (by omega) with ⟨v, n, h1, h2⟩ | ⟨h1, h2⟩
  · rw [List.drop_zero] at h1
    rw [z, Nat.zero_add] at h2
    obtain ⟨q1, q2, q3, q4⟩ := dec_enc h1
    have hvn : (UInt64.ofNat v).toNat = v := by rw [UInt64.toNat_ofNat']; exact Nat.mod_eq_of_lt q3
    have h64 : T64 F b 0 1 0 = some (UInt64.ofNat v, 0, false, [], (n : Int), 0) := by
      simp only [T64, T64c, k6, k3, cond_false, h2, Option.bind_some, Bool.not_true, k1, cond_true]
    have h49 : T49 F 1 0 b 0 0 0 = some (UInt64.ofNat v, 0, false, [], (n : Int), 0, 0) := by
      simp only [T49, T49c, e0, k0, cond_false, h64, Option.bind_some]
    by_cases hv : v ≤ 32768
    · have hlt : ¬ UInt64.ofNat 32768 < UInt64.ofNat v := by
        show ¬ ((UInt64.ofNat 32768).toNat < (UInt64.ofNat v).toNat)
        rw [hvn]
        have : (UInt64.ofNat 32768).toNat = 32768 := rfl
        omega
      have w1 : w64 ((UInt64.ofNat v).toNat : Int) = (v : Int) := by rw [hvn]; exact w64_in (by omega) (by omega)
      have hn : n = sz v := by rw [← q2, enc_len hv]
      have hsz := sz_bd v
      have hx : (UInt64.ofInt (v : Int)).toNat = v := by rw [ofInt_nat (by omega) (by omega)]; simp
      have h43 : T43 F (v : Int) = some (((n + v + 16 : Nat)) : Int) := by
        simp only [T43, T43c, t45' (show 50 < F by omega), hx, Option.bind_some, q2]
        rw [w64_in (n := (n : Int) + (v : Int)) (by omega) (by omega), w64_in (by omega) (by omega)]
        simp
      by_cases hL : b.length < n + v + 16
      · right
        have c1 : ((b.length : Int) < (((n + v + 16 : Nat)) : Int)) := by omega
        refine ⟨fun c k hB => ?_, ?_⟩
        · obtain ⟨p1, p2, p3, p4, p5⟩ := parts (F := F) (by omega) hB
          rw [h1] at p1
          simp only [Option.some.injEq, Prod.mk.injEq] at p1
          omega
        · simp only [T21, T21c, h49, Option.bind_some, e0, cond_false, hlt, decide_false, w1, h43, c1, decide_true, cond_true]
      · have c1 : ¬ ((b.length : Int) < (((n + v + 16 : Nat)) : Int)) := by omega
        have w2 : w64 ((n : Int) + (v : Int)) = ((n + v : Nat) : Int) := by rw [w64_in (by omega) (by omega)]; omega
        have w3 : w64 ((b.length : Int) - 16) = ((b.length - 16 : Nat) : Int) := by rw [w64_in (by omega) (by omega)]; omega
        have g1 : gsl b (n : Int) ((n + v : Nat) : Int) = some ((b.drop n).take v) := by
          unfold gsl; rw [if_pos (by omega)]; simp only [Int.toNat_natCast, Nat.add_sub_cancel_left]
        have g1' : gapp ([] : List UInt8) ((b.drop n).take v) = some ((b.drop n).take v) := by unfold gapp; rw [if_pos (by simp; omega)]; simp
        have g2 : gsl b ((b.length - 16 : Nat) : Int) (b.length : Int) = some (b.drop (b.length - 16)) := by
          unfold gsl; rw [if_pos (by omega)]; simp only [Int.toNat_natCast]
          rw [List.take_of_length_le (by simp)]
        have g3 : gapp ([] : List UInt8) (b.drop (b.length - 16)) = some (b.drop (b.length - 16)) := by unfold gapp; rw [if_pos (by simp; omega)]; simp
        have hcl : ((b.drop n).take v).length = v := by simp; omega
        have hkl : (b.drop (b.length - 16)).length = 16 := by simp; omega
        obtain ⟨j, hj, a1, a2, a3⟩ := t18 (F := F) (by omega) (c := (b.drop n).take v) (k := b.drop (b.length - 16)) (by omega) hkl
        have a4 := t19 hF (by omega) hkl hj a1 a2
        have hbj := cls_b ⟨j, hj⟩
        simp only at hbj
        rw [hcl] at a1 a2
        have blen := bodyL_len' (D := (cls j).toNat) (c := (b.drop n).take v) (k := b.drop (b.length - 16)) (by omega) hkl (by rw [hcl]; omega)
        have run : T21 F b = (bif (bodyL (cls j).toNat ((b.drop n).take v) (b.drop (b.length - 16)) != b) then some (3, [], []) else some (0, (b.drop n).take v, b.drop (b.length - 16))) := by
          simp only [T21, T21c, h49, Option.bind_some, e0, cond_false, hlt, decide_false, w1, h43, c1, w2, g1, g1', w3, g2, g3, a4]
        by_cases heq : bodyL (cls j).toNat ((b.drop n).take v) (b.drop (b.length - 16)) = b
        · left
          have hlen : (cls j).toNat = b.length := by rw [← blen, heq]
          refine ⟨(b.drop n).take v, b.drop (b.length - 16), ⟨by omega, hkl, ?_, ?_⟩, ?_⟩
          · rw [hcl, a1]; simp; omega
          · exact heq.symm.trans (by rw [hlen])
          · rw [run, heq]; simp
        · right
          refine ⟨fun c k hB => ?_, ?_⟩
          · obtain ⟨p1, p2, p3, p4, p5⟩ := parts (F := F) (by omega) hB
            rw [h1] at p1
            simp only [Option.some.injEq, Prod.mk.injEq] at p1
            have e1 := p1.1; have e2 := p1.2; rw [← e1] at e2 p3; rw [← e2] at p3
            have h14 := hB.2.2.1
            rw [← p1.1, a1] at h14
            have hD : cls j = (b.length : Int) := by simpa using h14
            have hb4 := hB.2.2.2
            apply heq
            rw [p3, p5]
            have : (cls j).toNat = b.length := by omega
            rw [this]
            exact hb4.symm
          · have : (bodyL (cls j).toNat ((b.drop n).take v) (b.drop (b.length - 16)) != b) = true := by simpa using heq
            rw [run, this]; rfl
    · right
      refine ⟨fun c k hB => ?_, ?_⟩
      · obtain ⟨p1, p2, p3, p4, p5⟩ := parts (F := F) (by omega) hB
        rw [h1] at p1
        simp only [Option.some.injEq, Prod.mk.injEq] at p1
        have := hB.1
        omega
      · have hlt : UInt64.ofNat 32768 < UInt64.ofNat v := by
          show ((UInt64.ofNat 32768).toNat < (UInt64.ofNat v).toNat)
          rw [hvn]
          have : (UInt64.ofNat 32768).toNat = 32768 := rfl
          omega
        simp only [T21, T21c, h49, Option.bind_some, e0, cond_false, hlt, decide_true, cond_true]
  · right
    rw [List.drop_zero] at h1
    rw [z] at h2
    have h64 : T64 F b 0 1 0 = some (0, 0, false, [], 0, 3) := by
      simp only [T64, T64c, k6, k3, cond_false, h2, Option.bind_some, Bool.not_false, cond_true]
    have h49 : T49 F 1 0 b 0 0 0 = some (0, 0, false, [], 0, 0, 3) := by
      simp only [T49, T49c, e0, k0, cond_false, h64, Option.bind_some, e3, cond_true]
    refine ⟨fun c k hB => ?_, ?_⟩
    · obtain ⟨p1, p2, p3, p4, p5⟩ := parts (F := F) (by omega) hB
      rw [h1] at p1; cases p1
    · simp only [T21, T21c, h49, Option.bind_some, e3, cond_true]

theorem isBody_uniq {F : Nat} (hF : 50 < F) {b c k c' k' : List UInt8} (h : IsBody F b c k) (h' : IsBody F b c' k') : c = c' ∧ k = k' := by
  obtain ⟨p1, p2, p3, p4, p5⟩ := parts hF h
  obtain ⟨q1, q2, q3, q4, q5⟩ := parts hF h'
  rw [p1] at q1
  simp only [Option.some.injEq, Prod.mk.injEq] at q1
  refine ⟨?_, by rw [← p5, q5]⟩
  rw [← p3, q1.1, q3]

theorem content_eq {F : Nat} (hF : 41000 < F) (b : List UInt8) (hb : b.length < 40000) :
    (∃ c k, IsBody F b c k ∧ T20 F b = some (c, 0, k) ∧ T21 F b = some (0, c, k)) ∨ ((∀ c k, ¬ IsBody F b c k) ∧ T20 F b = some ([], 3, []) ∧ T21 F b = some (3, [], [])) := by
  rcases t20 (F := F) (by omega) b (by omega) (by omega) with ⟨c, k, h1, h2⟩ | ⟨h1, h2⟩ <;> rcases t21 hF b (by omega) with ⟨c', k', h3, h4⟩ | ⟨h3, h4⟩
  · obtain ⟨rfl, rfl⟩ := isBody_uniq (by omega) h1 h3
    exact .inl ⟨_, _, h1, h2, h4⟩
  · exact absurd h1 (h3 c k)
  · exact absurd h3 (h1 c' k')
  · exact .inr ⟨h1, h2, h4⟩

theorem isBody_t18 {F : Nat} (hF : 50 < F) {b c k : List UInt8} (h : IsBody F b c k) : T18 F c k = some (0, b) := by
  obtain ⟨hc, hk, h14, hb⟩ := h
  obtain ⟨j, hj, a1, a2, a3⟩ := t18 hF hc hk
  rw [h14] at a1
  have : (b.length : Int) = cls j := by simpa using a1
  have e : (cls j).toNat = b.length := by omega
  rw [a3, e, ← hb]

theorem law5 {F : Nat} (hF : 41000 < F) (ha : T16 F = some true) (b : List UInt8) : T5 F b = some true := by
  simp only [T5, T5c, ha, Option.bind_some, Bool.not_true, cond_false, t17 (show 50 < F by omega) [b] (by simp)]
  cases hs : ([b].all fun x => decide (x.length ≤ 400)) with
  | false => rfl
  | true =>
    simp only [List.all_cons, List.all_nil, Bool.and_true, decide_eq_true_eq] at hs
    simp only [Bool.not_true, cond_false]
    have e0 : ((0 : Int) != 0) = false := by decide
    have e3 : ((3 : Int) != 0) = true := by decide
    rcases content_eq hF b (by omega) with ⟨c, k, h1, h2, h3⟩ | ⟨h1, h2, h3⟩
    · have n1 : (c != c) = false := by simp
      have n2 : (k != k) = false := by simp
      have n3 : ((0 : Int) == 0) = true := by decide
      simp only [h2, h3, Option.bind_some, n1, n2, e0, cond_false, isBody_t18 (show 50 < F by omega) h1, n3, cond_true, beq_self_eq_true]
    · obtain ⟨r, e1, _⟩ := body_eq hF [] []
      have n1 : (([] : List UInt8) != []) = false := by simp
      have n2 : ((3 : Int) != 3) = false := by decide
      simp only [h2, h3, Option.bind_some, n1, n2, cond_false, e1, e3, cond_true]
theorem plaw5 (b : List UInt8) (_ : b.length ≤ maxLen) : T5 50000 b = some true := law5 (by omega) awake50k b
end Go.Proofs.YtjghgfohpihhfaaDoor
/- SealWiths: the plain law. -/
namespace Go.Proofs.YtjghgfohpihhfaaDoor
open Go.Tw
set_option linter.unusedVariables false
set_option linter.unusedSimpArgs false

theorem l73 (F : Nat) {a b : List UInt8} (hab : a.length = b.length) (hn : a.length < 1000000) : ∀ (m fuel i : Nat), i + m = a.length → m < fuel → iter (fun s : Int × List UInt8 => L73_2 F a b (a.length : Int) s.1 s.2) fuel (((i : Nat) : Int), xorL (a.take i) (b.take i)) = some (xorL a b)
  | m, 0, i, hi, hf => by omega
  | 0, fuel + 1, i, hi, hf => by
    have h : ¬ (((i : Nat) : Int) < (a.length : Int)) := by omega
    have e1 : a.take i = a := List.take_of_length_le (by omega)
    have e2 : b.take i = b := List.take_of_length_le (by omega)
    have step : L73_2 F a b (a.length : Int) ((i : Nat) : Int) (xorL (a.take i) (b.take i)) = some (.inr (xorL a b)) := by
      simp only [L73_2, L73_2c, h, decide_false, cond_false, e1, e2]
    exact it_out (f := fun s : Int × List UInt8 => L73_2 F a b (a.length : Int) s.1 s.2) (s := (((i : Nat) : Int), xorL (a.take i) (b.take i))) step
  | m + 1, fuel + 1, i, hi, hf => by
    have h : (((i : Nat) : Int) < (a.length : Int)) := by omega
    have ha : i < a.length := by omega
    have hb : i < b.length := by omega
    have hx : ix a ((i : Nat) : Int) = some a[i] := by unfold ix; rw [if_pos (by omega)]; simp [ha]
    have hy : ix b ((i : Nat) : Int) = some b[i] := by unfold ix; rw [if_pos (by omega)]; simp [hb]
    have w : w64 (((i : Nat) : Int) + 1) = (((i + 1 : Nat)) : Int) := by rw [w64_in (by omega) (by omega)]; omega
    have hl : (xorL (a.take i) (b.take i)).length = i := by rw [xorL_len (by simp; omega)]; simp; omega
    have hs : xorL (a.take (i + 1)) (b.take (i + 1)) = xorL (a.take i) (b.take i) ++ [a[i] ^^^ b[i]] := by
      simp only [xorL]
      rw [List.take_succ_eq_append_getElem ha, List.take_succ_eq_append_getElem hb, List.zipWith_append (by simp; omega)]
      rfl
    have hg : gapp (xorL (a.take i) (b.take i)) [a[i] ^^^ b[i]] = some (xorL (a.take (i + 1)) (b.take (i + 1))) := by
      unfold gapp; rw [if_pos (by simp [hl]; omega), hs]
    have step : L73_2 F a b (a.length : Int) ((i : Nat) : Int) (xorL (a.take i) (b.take i)) = some (.inl (((i + 1 : Nat) : Int), xorL (a.take (i + 1)) (b.take (i + 1)))) := by
      simp only [L73_2, L73_2c, h, decide_true, cond_true, hx, hy, hg, Option.bind_some, w]
    refine (it_again (f := fun s : Int × List UInt8 => L73_2 F a b (a.length : Int) s.1 s.2) (s := (((i : Nat) : Int), xorL (a.take i) (b.take i))) step).trans ?_
    exact l73 F hab hn m fuel (i + 1) (by omega) (by omega)

theorem t58 {F : Nat} {a b : List UInt8} (hF : a.length < F) (hn : a.length < 1000000) (h : a.length = b.length) : T58 F a b = some (xorL a b) := by
  have e : ((a.length : Int) != (b.length : Int)) = false := by simp [h]
  have l := l73 F h hn a.length F 0 (by omega) hF
  have z : ((0 : Nat) : Int) = 0 := rfl
  simp only [List.take_zero, z] at l
  have x0 : xorL [] [] = [] := rfl
  rw [x0] at l
  simp only [T58, T58c, T73, T73c, e, cond_false, l, Option.bind_some]

theorem body_bd {F : Nat} (hF : 41000 < F) (c k : List UInt8) : ∃ r, T18 F c k = some r ∧ T19 F c k = some r ∧ (r.1 ≠ 0 ∨ r.2.length ≤ 40960) := by
  obtain ⟨r, h1, h2⟩ := body_eq hF c k
  refine ⟨r, h1, h2, ?_⟩
  by_cases hk : k.length = 16
  · by_cases hc : c.length ≤ 32768
    · obtain ⟨j, hj, a1, a2, a3⟩ := t18 (F := F) (by omega) hc hk
      rw [h1] at a3
      cases a3
      have hb := cls_b ⟨j, hj⟩
      simp only at hb
      right
      rw [bodyL_len hc hk (by omega)]
      omega
    · have h14 := t14_hi (F := F) (n := (c.length : Int)) (by omega)
      have hk' : ((k.length : Int) != 16) = false := by simp [hk]
      have e0 : ((2 : Int) != 0) = true := by decide
      have : T18 F c k = some (2, []) := by simp only [T18, T18c, hk', cond_false, h14, Option.bind_some, e0, cond_true]
      rw [h1] at this
      cases this
      left; decide
  · have hk' : ((k.length : Int) != 16) = true := by simp; omega
    have : T18 F c k = some (1, []) := by simp only [T18, T18c, hk', cond_true]
    rw [h1] at this
    cases this
    left; decide

theorem sealWith_eq {F : Nat} (hF : 41000 < F) (s k c : List UInt8) : ∃ r, T34 F s k c = some r ∧ T35 F s k c = some r ∧ (r.2 = [] ∨ r.2.length = s.length) := by
  obtain ⟨r, h1, h2, h3⟩ := body_bd hF c k
  by_cases h0 : r.1 = 0
  · have e0 : (r.1 != 0) = false := by simp [h0]
    have hl : r.2.length ≤ 40960 := by rcases h3 with h | h; exact absurd h0 h; exact h
    by_cases hs : r.2.length = s.length
    · refine ⟨(0, xorL r.2 s), ?_, ?_, .inr ?_⟩
      · simp only [T34, T34c, h1, Option.bind_some, e0, cond_false]
        rw [t57 (by omega) (by omega) hs]; rfl
      · have e1 : ((s.length : Int) != (r.2.length : Int)) = false := by simp [hs]
        simp only [T35, T35c, h2, Option.bind_some, e0, cond_false, e1]
        rw [t58 (by omega) (by omega) hs]; rfl
      · simp only; rw [xorL_len hs, hs]
    · refine ⟨(1, []), ?_, ?_, .inl rfl⟩
      · simp only [T34, T34c, h1, Option.bind_some, e0, cond_false]
        rw [t57n hs]; rfl
      · have e1 : ((s.length : Int) != (r.2.length : Int)) = true := by simp; omega
        simp only [T35, T35c, h2, Option.bind_some, e0, cond_false, e1, cond_true]
  · have e0 : (r.1 != 0) = true := by simpa using h0
    refine ⟨(r.1, []), ?_, ?_, .inl rfl⟩
    · simp only [T34, T34c, h1, Option.bind_some, e0, cond_true]
    · simp only [T35, T35c, h2, Option.bind_some, e0, cond_true]

theorem openWith_eq {F : Nat} (hF : 41000 < F) (s x : List UInt8) (hs : s.length < 40000) : ∃ c e k, T37 F s x = some (c, e, k) ∧ T38 F s x = some (e, c, k) := by
  by_cases h : x.length = s.length
  · have e1 : ((s.length : Int) != (x.length : Int)) = false := by simp [h]
    have e0 : ((0 : Int) != 0) = false := by decide
    have h57 := t57 (F := F) (a := x) (b := s) (by omega) (by omega) h
    have h58 := t58 (F := F) (a := s) (b := x) (by omega) (by omega) h.symm
    rw [xorL_comm] at h58
    have hl : (xorL x s).length < 40000 := by rw [xorL_len h]; omega
    rcases content_eq hF (xorL x s) hl with ⟨c, k, h1, h2, h3⟩ | ⟨h1, h2, h3⟩
    · refine ⟨c, 0, k, ?_, ?_⟩
      · simp only [T37, T37c, h57, Option.bind_some, e0, cond_false, h2]
      · simp only [T38, T38c, e1, cond_false, h58, Option.bind_some, h3]
    · refine ⟨[], 3, [], ?_, ?_⟩
      · simp only [T37, T37c, h57, Option.bind_some, e0, cond_false, h2]
      · simp only [T38, T38c, e1, cond_false, h58, Option.bind_some, h3]
  · have e1 : ((s.length : Int) != (x.length : Int)) = true := by simp; omega
    have e2 : ((1 : Int) != 0) = true := by decide
    refine ⟨[], 1, [], ?_, ?_⟩
    · simp only [T37, T37c, t57n h, Option.bind_some, e2, cond_true]
    · simp only [T38, T38c, e1, cond_true]

theorem law11 {F : Nat} (hF : 41000 < F) (ha : T16 F = some true) (s k c : List UInt8) : T11 F s k c = some true := by
  simp only [T11, T11c, ha, Option.bind_some, Bool.not_true, cond_false, t17 (show 50 < F by omega) [s, k, c] (by simp)]
  cases hs : ([s, k, c].all fun x => decide (x.length ≤ 400)) with
  | false => rfl
  | true =>
    simp only [List.all_cons, List.all_nil, Bool.and_true, Bool.and_eq_true, decide_eq_true_eq] at hs
    simp only [Bool.not_true, cond_false]
    obtain ⟨r, h1, h2, _⟩ := sealWith_eq hF s k c
    have h36 : T36 F s k c = some r := by simp only [T36, T36c, h1, Option.bind_some]
    obtain ⟨c', e', k', h3, h4⟩ := openWith_eq hF s r.2 (by omega)
    simp only [h1, h2, h36, Option.bind_some, h3, h4, beq_self_eq_true, cond_true]
theorem plaw11 (s k c : List UInt8) (_ : s.length ≤ maxLen) (_ : k.length ≤ maxLen) (_ : c.length ≤ maxLen) : T11 50000 s k c = some true := law11 (by omega) awake50k s k c
end Go.Proofs.YtjghgfohpihhfaaDoor
