/- Numbers of the calendar, and the twins of the small functions. No program is in it. -/
import Derived.Test.YtdfmjgbnbfncmaaDoorH1
namespace Go.Proofs.YtdfmjgbnbfncmaaDoor
open Go.Tw
set_option linter.unusedSimpArgs false
set_option linter.unusedVariables false
def lp (k : Nat) : Bool := k % 4 == 0 && (k % 100 != 0 || k % 400 == 0)
def bef (k : Nat) : Int := 365 * (k : Int) + (((k + 3) / 4 : Nat) : Int) - (((k + 99) / 100 : Nat) : Int) + (((k + 399) / 400 : Nat) : Int)
def ylen (k : Nat) : Int := bif lp k then 366 else 365
theorem dv (d k : Nat) (hd : 0 < d) : (k + 1 + (d - 1)) / d = (k + (d - 1)) / d + (if k % d = 0 then 1 else 0) := by
  have h1 := Nat.div_add_mod k d
  have h2 := Nat.mod_lt k hd
  have e1 : k + 1 + (d - 1) = k + d := by omega
  rw [e1, Nat.add_div_right _ hd]
  by_cases h : k % d = 0
  · rw [if_pos h]
    have : (k + (d - 1)) / d = k / d := by
      apply Nat.div_eq_of_lt_le
      · have : k / d * d = d * (k / d) := Nat.mul_comm _ _
        omega
      · have : (k / d + 1) * d = d * (k / d) + d := by rw [Nat.add_mul, Nat.mul_comm]; omega
        omega
    omega
  · rw [if_neg h]
    have : (k + (d - 1)) / d = k / d + 1 := by
      apply Nat.div_eq_of_lt_le
      · have : (k / d + 1) * d = d * (k / d) + d := by rw [Nat.add_mul, Nat.mul_comm]; omega
        omega
      · have : (k / d + 1 + 1) * d = d * (k / d) + d + d := by rw [Nat.add_mul, Nat.add_mul, Nat.mul_comm]; omega
        omega
    omega
theorem bef_succ (k : Nat) : bef (k + 1) = bef k + ylen k := by
  have a := dv 4 k (by omega)
  have b := dv 100 k (by omega)
  have c := dv 400 k (by omega)
  simp only [Nat.reduceSub] at a b c
  have h1 : k % 400 = 0 → k % 100 = 0 := by omega
  have h2 : k % 100 = 0 → k % 4 = 0 := by omega
  have key : ∀ (x y z A B C D E G : Nat) (L : Int), A = D + x → B = E + y → C = G + z → (L = 365 + x - y + z) → 365 * ((k + 1 : Nat) : Int) + (A : Int) - (B : Int) + (C : Int) = 365 * (k : Int) + (D : Int) - (E : Int) + (G : Int) + L := by
    intro x y z A B C D E G L h1 h2 h3 h4
    omega
  show 365 * ((k + 1 : Nat) : Int) + _ - _ + _ = 365 * (k : Int) + _ - _ + _ + ylen k
  by_cases h4 : k % 4 = 0
  · rw [if_pos h4] at a
    by_cases h100 : k % 100 = 0
    · rw [if_pos h100] at b
      by_cases h400 : k % 400 = 0
      · rw [if_pos h400] at c
        exact key 1 1 1 _ _ _ _ _ _ _ a b c (by unfold ylen lp; rw [h4, h100, h400]; rfl)
      · rw [if_neg h400] at c
        exact key 1 1 0 _ _ _ _ _ _ _ a b c (by
          have e : (k % 400 == 0) = false := by rw [beq_eq_false_iff_ne]; exact h400
          unfold ylen lp; rw [h4, h100, e]; rfl)
    · have h400 : ¬ k % 400 = 0 := fun h => h100 (h1 h)
      rw [if_neg h100] at b
      rw [if_neg h400] at c
      exact key 1 0 0 _ _ _ _ _ _ _ a b c (by
        have e : (k % 100 != 0) = true := by rw [bne_iff_ne]; exact h100
        unfold ylen lp; rw [h4, e]; rfl)
  · have h100 : ¬ k % 100 = 0 := fun h => h4 (h2 h)
    have h400 : ¬ k % 400 = 0 := fun h => h100 (h1 h)
    rw [if_neg h4] at a
    rw [if_neg h100] at b
    rw [if_neg h400] at c
    exact key 0 0 0 _ _ _ _ _ _ _ a b c (by
      have e : (k % 4 == 0) = false := by rw [beq_eq_false_iff_ne]; exact h4
      unfold ylen lp; rw [e]; rfl)
theorem ylen_bd (k : Nat) : 365 ≤ ylen k ∧ ylen k ≤ 366 := by unfold ylen; cases lp k <;> simp
theorem bef_mono : ∀ (a b : Nat), a ≤ b → bef a + 365 * ((b : Int) - a) ≤ bef b
  | a, 0, h => by obtain rfl : a = 0 := by omega
                  simp
  | a, b + 1, h => by
    by_cases e : a = b + 1
    · subst e; simp
    · have := bef_mono a b (by omega)
      have := bef_succ b
      have := ylen_bd b
      omega
theorem bef_zero : bef 0 = 0 := by decide
/-- The year of a day. -/
theorem year_ex (d : Nat) : ∃ y : Nat, bef y ≤ d ∧ d < bef (y + 1) := by
  induction d with
  | zero => exact ⟨0, by decide, by decide⟩
  | succ d ih =>
    obtain ⟨y, h1, h2⟩ := ih
    by_cases h : ((d + 1 : Nat) : Int) < bef (y + 1)
    · exact ⟨y, by omega, h⟩
    · refine ⟨y + 1, by omega, ?_⟩
      have := bef_succ (y + 1)
      have := ylen_bd (y + 1)
      omega
theorem year_uniq {d : Int} {y z : Nat} (h1 : bef y ≤ d) (h2 : d < bef (y + 1)) (k1 : bef z ≤ d) (k2 : d < bef (z + 1)) : y = z := by
  rcases Nat.lt_trichotomy y z with h | h | h
  · have := bef_mono (y + 1) z (by omega); omega
  · exact h
  · have := bef_mono (z + 1) y (by omega); omega
def mlen (l : Bool) : Nat → Int
  | 1 => 31
  | 2 => bif l then 29 else 28
  | 3 => 31
  | 4 => 30
  | 5 => 31
  | 6 => 30
  | 7 => 31
  | 8 => 31
  | 9 => 30
  | 10 => 31
  | 11 => 30
  | 12 => 31
  | _ => 0
def cum (l : Bool) : Nat → Int
  | 0 => 0
  | 1 => 0
  | m + 2 => cum l (m + 1) + mlen l (m + 1)
theorem cum_succ (l : Bool) {m : Nat} (h : 1 ≤ m) : cum l (m + 1) = cum l m + mlen l m := by
  obtain ⟨k, rfl⟩ : ∃ k, m = k + 1 := ⟨m - 1, by omega⟩
  rfl
theorem mlen_bd : ∀ (l : Bool) (m : Fin 13), m.val = 0 ∨ (28 ≤ mlen l m.val ∧ mlen l m.val ≤ 31) := by decide
theorem mlen_lo (l : Bool) {m : Nat} (h1 : 1 ≤ m) (h2 : m ≤ 12) : 28 ≤ mlen l m ∧ mlen l m ≤ 31 := by
  rcases mlen_bd l ⟨m, by omega⟩ with h | h
  · simp only at h; omega
  · exact h
theorem cum_13 (l : Bool) : cum l 13 = bif l then 366 else 365 := by cases l <;> decide
theorem cum_1 (l : Bool) : cum l 1 = 0 := rfl
theorem cum_mono (l : Bool) : ∀ (a b : Nat), 1 ≤ a → a ≤ b → b ≤ 13 → cum l a + 28 * ((b : Int) - a) ≤ cum l b
  | a, 0, h1, h, _ => absurd h (by omega)
  | a, b + 1, h1, h, h3 => by
    by_cases e : a = b + 1
    · subst e; simp
    · have := cum_mono l a b h1 (by omega) (by omega)
      have := cum_succ l (m := b) (by omega)
      have := mlen_lo l (m := b) (by omega) (by omega)
      omega
/-- The month of a day of a year. -/
theorem month_ex (l : Bool) : ∀ (r : Nat), (r : Int) < cum l 13 → ∃ m : Nat, 1 ≤ m ∧ m ≤ 12 ∧ cum l m ≤ r ∧ (r : Int) < cum l (m + 1)
  | 0, _ => ⟨1, by omega, by omega, by cases l <;> decide, by cases l <;> decide⟩
  | r + 1, h => by
    obtain ⟨m, h1, h2, h3, h4⟩ := month_ex l r (by omega)
    by_cases e : ((r + 1 : Nat) : Int) < cum l (m + 1)
    · exact ⟨m, h1, h2, by omega, e⟩
    · have : m ≠ 12 := by rintro rfl; exact e h
      refine ⟨m + 1, by omega, by omega, by omega, ?_⟩
      have := cum_succ l (m := m + 1) (by omega)
      have := mlen_lo l (m := m + 1) (by omega) (by omega)
      omega
theorem it1 {σ ρ : Type} {f : σ → Option (σ ⊕ ρ)} (I : σ → Prop) (Q : ρ → Prop) (μ : σ → Nat) (h : ∀ s, I s → (∃ s', f s = some (.inl s') ∧ I s' ∧ μ s' < μ s) ∨ (∃ r, f s = some (.inr r) ∧ Q r)) :
    ∀ (k : Nat) (s : σ), I s → μ s < k → ∃ r, iter f k s = some r ∧ Q r
  | 0, s, _, hk => absurd hk (by omega)
  | k + 1, s, hs, hk => by
    rcases h s hs with ⟨s', h1, h2, h3⟩ | ⟨r, h1, h2⟩
    · obtain ⟨r, h4, h5⟩ := it1 I Q μ h k s' h2 (by omega)
      exact ⟨r, by simp only [iter, h1, Option.bind_some, h4], h5⟩
    · exact ⟨r, by simp only [iter, h1, Option.bind_some], h2⟩
def lpI (p : Int) : Bool := (Int.tmod p 4 == 0) && ((Int.tmod p 100 != 0) || (Int.tmod p 400 == 0))
theorem T13_eq (F : Nat) (p : Int) : T13 F p = some (lpI p) := by
  cases h1 : (Int.tmod p 4 == 0) <;> cases h2 : (Int.tmod p 100 != 0) <;> simp [T13, T13c, lpI, h1, h2]
theorem T14_eq (F : Nat) (p : Int) : T14 F p = some (lpI p) := by
  cases h1 : (Int.tmod p 4 == 0) with
  | true => cases h2 : (Int.tmod p 100 != 0) <;> simp [T14, T14c, lpI, h1, h2]
  | false =>
    have h4 : (Int.tmod p 400 == 0) = false := by
      rw [beq_eq_false_iff_ne] at h1 ⊢
      intro h
      have hd : (400 : Int) ∣ p := Int.dvd_of_tmod_eq_zero h
      exact h1 (Int.tmod_eq_zero_of_dvd (Int.dvd_trans (by decide) hd))
    simp only [T14, T14c, lpI, h1, h4, cond_false, Bool.false_and]
theorem beq0 (n : Nat) : ((n : Int) == 0) = (n == 0) := by
  rw [Bool.eq_iff_iff]; simp
theorem bne0 (n : Nat) : ((n : Int) != 0) = (n != 0) := by
  rw [Bool.eq_iff_iff]; simp
theorem lpI_nat (y : Nat) : lpI (2000 + (y : Int)) = lp y := by
  have e : (2000 : Int) + (y : Int) = ((2000 + y : Nat) : Int) := by omega
  have e4 : Int.tmod ((2000 + y : Nat) : Int) 4 = (((2000 + y) % 4 : Nat) : Int) := rfl
  have e1 : Int.tmod ((2000 + y : Nat) : Int) 100 = (((2000 + y) % 100 : Nat) : Int) := rfl
  have e0 : Int.tmod ((2000 + y : Nat) : Int) 400 = (((2000 + y) % 400 : Nat) : Int) := rfl
  have f4 : (2000 + y) % 4 = y % 4 := by omega
  have f1 : (2000 + y) % 100 = y % 100 := by omega
  have f0 : (2000 + y) % 400 = y % 400 := by omega
  unfold lpI lp
  rw [e, e4, e1, e0, f4, f1, f0, beq0, bne0, beq0]
def dys (p m : Int) : Int := if 1 ≤ m ∧ m ≤ 12 then mlen (lpI p) m.toNat else 0
theorem mcases {m : Int} (h1 : 1 ≤ m) (h2 : m ≤ 12) : m = 1 ∨ m = 2 ∨ m = 3 ∨ m = 4 ∨ m = 5 ∨ m = 6 ∨ m = 7 ∨ m = 8 ∨ m = 9 ∨ m = 10 ∨ m = 11 ∨ m = 12 := by omega
theorem T15_2 (F : Nat) (p : Int) : T15 F p 2 = some (dys p 2) := by
  have e : T15 F p 2 = Option.bind (T13 F p) fun z6 => (bif z6 then (some (29 : Int)) else some 28) := rfl
  rw [e, T13_eq]
  show (bif lpI p then (some (29 : Int)) else some 28) = some (mlen (lpI p) 2)
  cases lpI p <;> rfl
theorem T15_eq (F : Nat) (p m : Int) : T15 F p m = some (dys p m) := by
  by_cases h : 1 ≤ m ∧ m ≤ 12
  · rcases mcases h.1 h.2 with rfl | rfl | rfl | rfl | rfl | rfl | rfl | rfl | rfl | rfl | rfl | rfl
    · rfl
    · exact T15_2 F p
    all_goals rfl
  · unfold dys
    rw [if_neg h]
    by_cases h1 : m < 1
    · simp only [T15, T15c, decide_eq_true h1, cond_true]
    · have h2 : 12 < m := by omega
      simp only [T15, T15c, decide_eq_false h1, decide_eq_true h2, cond_true, cond_false]
theorem T16_2 (F : Nat) (p : Int) : T16 F p 2 = some (dys p 2) := by
  have e : T16 F p 2 = Option.bind (T14 F p) fun z6 => (bif z6 then (some (29 : Int)) else some 28) := rfl
  rw [e, T14_eq]
  show (bif lpI p then (some (29 : Int)) else some 28) = some (mlen (lpI p) 2)
  cases lpI p <;> rfl
theorem T16_eq (F : Nat) (p m : Int) : T16 F p m = some (dys p m) := by
  by_cases h : 1 ≤ m ∧ m ≤ 12
  · rcases mcases h.1 h.2 with rfl | rfl | rfl | rfl | rfl | rfl | rfl | rfl | rfl | rfl | rfl | rfl
    · rfl
    · exact T16_2 F p
    all_goals rfl
  · unfold dys
    rw [if_neg h]
    have hk : ∀ k : Int, 1 ≤ k → k ≤ 12 → (m == k) = false := fun k h1 h2 => by
      rw [beq_eq_false_iff_ne]; rintro rfl; exact h ⟨h1, h2⟩
    simp only [T16, T16c, hk 1 (by decide) (by decide), hk 2 (by decide) (by decide), hk 3 (by decide) (by decide), hk 4 (by decide) (by decide), hk 5 (by decide) (by decide), hk 6 (by decide) (by decide), hk 7 (by decide) (by decide), hk 8 (by decide) (by decide), hk 9 (by decide) (by decide), hk 10 (by decide) (by decide), hk 11 (by decide) (by decide), hk 12 (by decide) (by decide), cond_false]
theorem dys_nat (y m : Nat) (h1 : 1 ≤ m) (h2 : m ≤ 12) : dys (2000 + (y : Int)) (m : Int) = mlen (lp y) m := by
  unfold dys
  rw [if_pos ⟨by omega, by omega⟩, lpI_nat, Int.toNat_natCast]
theorem T35_eq (F : Nat) {y : Nat} (h : y ≤ 100000) : T35 F (y : Int) = some (bef y) := by
  have e3 : w64 ((y : Int) + 3) = ((y + 3 : Nat) : Int) := by rw [w64_in (by omega) (by omega)]; omega
  have e9 : w64 ((y : Int) + 99) = ((y + 99 : Nat) : Int) := by rw [w64_in (by omega) (by omega)]; omega
  have e4 : w64 ((y : Int) + 399) = ((y + 399 : Nat) : Int) := by rw [w64_in (by omega) (by omega)]; omega
  have d3 : Int.tdiv ((y + 3 : Nat) : Int) 4 = (((y + 3) / 4 : Nat) : Int) := rfl
  have d9 : Int.tdiv ((y + 99 : Nat) : Int) 100 = (((y + 99) / 100 : Nat) : Int) := rfl
  have d4 : Int.tdiv ((y + 399 : Nat) : Int) 400 = (((y + 399) / 400 : Nat) : Int) := rfl
  simp only [T35, T35c, e3, e9, e4, d3, d9, d4]
  have b3 : (y + 3) / 4 ≤ 100000 := by omega
  have b9 : (y + 99) / 100 ≤ 100000 := by omega
  have b4 : (y + 399) / 400 ≤ 100000 := by omega
  unfold bef
  generalize (y + 3) / 4 = a at *
  generalize (y + 99) / 100 = b at *
  generalize (y + 399) / 400 = c at *
  rw [w64_in (n := (a : Int)) (by omega) (by omega), w64_in (n := (b : Int)) (by omega) (by omega), w64_in (n := (c : Int)) (by omega) (by omega), w64_in (n := 365 * (y : Int)) (by omega) (by omega), w64_in (n := 365 * (y : Int) + a) (by omega) (by omega), w64_in (n := 365 * (y : Int) + a - b) (by omega) (by omega), w64_in (by omega) (by omega)]
/-- The date of a day. -/
structure Dt (d : Int) (y m : Nat) (e : Int) : Prop where
  m1 : 1 ≤ m
  m2 : m ≤ 12
  e1 : 1 ≤ e
  e2 : e ≤ mlen (lp y) m
  eq : d = bef y + cum (lp y) m + e - 1
theorem cum_lo (l : Bool) {m : Nat} (h1 : 1 ≤ m) (h2 : m ≤ 12) : 0 ≤ cum l m ∧ cum l m + mlen l m ≤ (bif l then 366 else 365) := by
  have a := cum_mono l 1 m (by omega) h1 (by omega)
  have b := cum_mono l (m + 1) 13 (by omega) (by omega) (by omega)
  rw [cum_1] at a
  rw [cum_13, cum_succ l h1] at b
  omega
theorem bef_lo (y : Nat) : 365 * (y : Int) ≤ bef y := by
  have := bef_mono 0 y (by omega)
  rw [bef_zero] at this
  omega
theorem bef_hi : ∀ (y : Nat), bef y ≤ 366 * (y : Int)
  | 0 => by rw [bef_zero]; omega
  | y + 1 => by
    have := bef_hi y
    have := bef_succ y
    have := ylen_bd y
    omega
namespace Dt
variable {d : Int} {y m : Nat} {e : Int}
theorem lo (v : Dt d y m e) : bef y ≤ d ∧ d < bef (y + 1) := by
  have h := cum_lo (lp y) v.m1 v.m2
  have h1 := v.e1
  have h2 := v.e2
  have h3 := v.eq
  have h4 := bef_succ y
  unfold ylen at h4
  omega
theorem yle (v : Dt d y m e) (hd : d ≤ 999999) : y ≤ 2739 := by
  have := bef_lo y
  have := v.lo
  omega
theorem ehi (v : Dt d y m e) : e ≤ 31 := by
  have := mlen_lo (lp y) v.m1 v.m2
  have := v.e2
  omega
theorem ex (d : Nat) : ∃ y m e, Dt (d : Int) y m e := by
  obtain ⟨y, h1, h2⟩ := year_ex d
  have h4 := bef_succ y
  unfold ylen at h4
  obtain ⟨m, g1, g2, g3, g4⟩ := month_ex (lp y) ((d : Int) - bef y).toNat (by rw [cum_13]; omega)
  have g5 := cum_succ (lp y) g1
  exact ⟨y, m, (d : Int) - bef y - cum (lp y) m + 1, g1, g2, by omega, by omega, by omega⟩
end Dt
end Go.Proofs.YtdfmjgbnbfncmaaDoor
/- The twins of Date. No program is in it. -/
namespace Go.Proofs.YtdfmjgbnbfncmaaDoor
open Go.Tw
set_option linter.unusedSimpArgs false
set_option linter.unusedVariables false

theorem T34_ok (F : Nat) {d : Int} (h1 : 0 ≤ d) (h2 : d ≤ 999999) : T34 F d = some 0 := by
  simp only [T34, T34c, decide_eq_false (show ¬ d < 0 by omega), decide_eq_false (show ¬ 999999 < d by omega), cond_false]
theorem T34_lo (F : Nat) {d : Int} (h1 : d < 0) : T34 F d = some 1 := by
  simp only [T34, T34c, decide_eq_true h1, cond_true]
theorem T34_hi (F : Nat) {d : Int} (h2 : 999999 < d) : T34 F d = some 2 := by
  simp only [T34, T34c, decide_eq_false (show ¬ d < 0 by omega), decide_eq_true h2, cond_true, cond_false]
theorem T36_eq (F : Nat) (d : Int) : T36 F d = T34 F d := rfl

theorem l17_4 {F : Nat} (hF : 3000 ≤ F) {d : Nat} (hd : d ≤ 999999) : ∃ r, iter (fun s => L17_4 F (d : Int) s) F (w64 (Int.tdiv (w64 ((d : Int) * 400)) 146097)) = some r ∧ ∃ z : Nat, r = z ∧ bef z ≤ d := by
  have e1 : w64 ((d : Int) * 400) = ((d * 400 : Nat) : Int) := by rw [w64_in (by omega) (by omega)]; omega
  have e2 : Int.tdiv ((d * 400 : Nat) : Int) 146097 = ((d * 400 / 146097 : Nat) : Int) := rfl
  have hb : d * 400 / 146097 ≤ 2800 := by omega
  rw [e1, e2, w64_in (by omega) (by omega)]
  generalize d * 400 / 146097 = s0 at hb
  refine it1 (f := fun s => L17_4 F (d : Int) s) (fun (s : Int) => ∃ z : Nat, s = z ∧ z ≤ 2800) (fun (r : Int) => ∃ z : Nat, r = z ∧ bef z ≤ d) (fun s => s.toNat) ?_ F (s0 : Int) ⟨s0, rfl, hb⟩ (by simp <;> omega)
  rintro s ⟨z, rfl, hz⟩
  by_cases h : (d : Int) < bef z
  · left
    have hz0 : z ≠ 0 := by rintro rfl; rw [bef_zero] at h; omega
    refine ⟨((z - 1 : Nat) : Int), ?_, ⟨z - 1, rfl, by omega⟩, by simp <;> omega⟩
    simp only [L17_4, L17_4c, T35_eq F (y := z) (by omega), Option.bind_some, decide_eq_true h, cond_true]
    rw [w64_in (by omega) (by omega)]
    congr 2
    omega
  · right
    exact ⟨z, by simp only [L17_4, L17_4c, T35_eq F (y := z) (by omega), Option.bind_some, decide_eq_false h, cond_false], z, rfl, by omega⟩

theorem l17_5 {F : Nat} (hF : 3000 ≤ F) {d y m : Nat} {e : Int} (hd : d ≤ 999999) (v : Dt d y m e) {z : Nat} (hz : bef z ≤ d) : iter (fun s => L17_5 F (d : Int) s) F (z : Int) = some (y : Int) := by
  have hy := v.yle (by omega)
  have hzy : ∀ z : Nat, bef z ≤ d → z ≤ y := fun z hz => by
    rcases Nat.lt_or_ge y z with h | h
    · have := bef_mono (y + 1) z (by omega)
      have := v.lo
      omega
    · exact h
  obtain ⟨r, h1, h2⟩ := it1 (f := fun s => L17_5 F (d : Int) s) (fun s => ∃ z : Nat, s = z ∧ bef z ≤ d) (fun r => r = (y : Int)) (fun s => y - s.toNat) (by
    rintro s ⟨z, rfl, hz⟩
    have hzl := hzy z hz
    have ew : w64 ((z : Int) + 1) = ((z + 1 : Nat) : Int) := by rw [w64_in (by omega) (by omega)]; omega
    by_cases h : bef (z + 1) ≤ d
    · left
      have := hzy _ h
      refine ⟨((z + 1 : Nat) : Int), ?_, ⟨z + 1, rfl, h⟩, by simp <;> omega⟩
      simp only [L17_5, L17_5c, ew, T35_eq F (y := z + 1) (by omega), Option.bind_some, decide_eq_true h, cond_true]
    · right
      refine ⟨z, ?_, ?_⟩
      · simp only [L17_5, L17_5c, ew, T35_eq F (y := z + 1) (by omega), Option.bind_some, decide_eq_false h, cond_false]
      · have := year_uniq (d := d) hz (by omega) v.lo.1 v.lo.2
        rw [this]) F (z : Int) ⟨z, rfl, hz⟩ (by simp <;> omega)
  rw [h1, h2]

theorem l17_6 {F : Nat} (hF : 3000 ≤ F) {d y m : Nat} {e : Int} (hd : d ≤ 999999) (v : Dt d y m e) : iter (fun s => L17_6 F (2000 + (y : Int)) s.1 s.2) F ((1 : Int), (d : Int) - bef y + 1) = some ((m : Int), e) := by
  have hy := v.yle (by omega)
  have hy2 := bef_hi y
  have hy3 := bef_lo y
  have hm1 := v.m1
  have hm2 := v.m2
  have he := v.eq
  have he1 := v.e1
  have he2 := v.e2
  obtain ⟨r, h1, h2⟩ := it1 (f := fun s => L17_6 F (2000 + (y : Int)) s.1 s.2) (fun s => ∃ k : Nat, s = ((k : Int), (d : Int) - bef y - cum (lp y) k + 1) ∧ 1 ≤ k ∧ k ≤ m) (fun r => r = ((m : Int), e)) (fun s => m - s.1.toNat) (by
    rintro s ⟨k, rfl, hk1, hk2⟩
    have hc := cum_lo (lp y) hk1 (by omega : k ≤ 12)
    have hm := mlen_lo (lp y) hk1 (by omega : k ≤ 12)
    have hs := cum_succ (lp y) hk1
    have hcb : cum (lp y) k ≤ 366 := by
      have : (bif lp y then (366 : Int) else 365) ≤ 366 := by cases lp y <;> decide
      omega
    by_cases h : mlen (lp y) k < (d : Int) - bef y - cum (lp y) k + 1
    · left
      have hkm : k ≠ m := by rintro rfl; omega
      refine ⟨(((k + 1 : Nat) : Int), (d : Int) - bef y - cum (lp y) (k + 1) + 1), ?_, ⟨k + 1, rfl, by omega, by omega⟩, by simp <;> omega⟩
      simp only [L17_6, L17_6c, T15_eq, dys_nat y k hk1 (by omega), Option.bind_some, decide_eq_true h, cond_true]
      rw [w64_in (n := (k : Int) + 1) (by omega) (by omega), w64_in (by omega) (by omega), hs]
      have e1 : (k : Int) + 1 = ((k + 1 : Nat) : Int) := by omega
      have e2 : (d : Int) - bef y - cum (lp y) k + 1 - mlen (lp y) k = (d : Int) - bef y - (cum (lp y) k + mlen (lp y) k) + 1 := by omega
      rw [e1, e2]
    · right
      have hkm : k = m := by
        rcases Nat.lt_or_ge k m with h' | h'
        · have := cum_mono (lp y) (k + 1) m (by omega) (by omega) (by omega)
          omega
        · omega
      subst hkm
      refine ⟨_, by simp only [L17_6, L17_6c, T15_eq, dys_nat y k hk1 (by omega), Option.bind_some, decide_eq_false h, cond_false]; rfl, ?_⟩
      have : (d : Int) - bef y - cum (lp y) k + 1 = e := by omega
      rw [this]) F ((1 : Int), (d : Int) - bef y + 1) ⟨1, by rw [cum_1]; simp, by omega, hm1⟩ (by simp <;> omega)
  rw [h1, h2]

theorem T17_eq {F : Nat} (hF : 3000 ≤ F) {d y m : Nat} {e : Int} (hd : d ≤ 999999) (v : Dt d y m e) : T17 F (d : Int) = some (2000 + (y : Int), (m : Int), e, 0) := by
  obtain ⟨r, h1, z, rfl, hz⟩ := l17_4 hF hd
  have hy := v.yle (by omega)
  have hy2 := bef_hi y
  have hy3 := bef_lo y
  have hlo := v.lo
  have ew : w64 (2000 + (y : Int)) = 2000 + (y : Int) := w64_in (by omega) (by omega)
  have ew2 : w64 (w64 ((d : Int) - bef y) + 1) = (d : Int) - bef y + 1 := by rw [w64_in (n := (d : Int) - bef y) (by omega) (by omega), w64_in (by omega) (by omega)]
  simp only [T17, T17c, T34_ok F (d := (d : Int)) (by omega) (by omega), Option.bind_some, bne_self_eq_false, cond_false, h1, l17_5 hF hd v hz, T35_eq F (y := y) (by omega), ew, ew2, l17_6 hF hd v]

theorem l18_3 {F : Nat} (hF : 3000 ≤ F) {d y m : Nat} {e : Int} (hd : d ≤ 999999) (v : Dt d y m e) : iter (fun s => L18_3 F s.1 s.2) F ((d : Int), (2000 : Int)) = some ((d : Int) - bef y, 2000 + (y : Int)) := by
  have hy := v.yle (by omega)
  have hlo := v.lo
  obtain ⟨r, h1, h2⟩ := it1 (f := fun s => L18_3 F s.1 s.2) (fun s => ∃ k : Nat, s = ((d : Int) - bef k, 2000 + (k : Int)) ∧ k ≤ y) (fun r => r = ((d : Int) - bef y, 2000 + (y : Int))) (fun s => y - (s.2 - 2000).toNat) (by
    rintro s ⟨k, rfl, hk⟩
    have hs := bef_succ k
    have hk1 := bef_lo k
    have hk2 := bef_hi k
    have hl : T37 F (2000 + (k : Int)) = some (ylen k) := by
      simp only [T37, T37c, T14_eq, lpI_nat, Option.bind_some]
      unfold ylen
      cases lp k <;> rfl
    by_cases h : ylen k ≤ (d : Int) - bef k
    · left
      have hky : k ≠ y := by rintro rfl; omega
      refine ⟨((d : Int) - bef (k + 1), 2000 + ((k + 1 : Nat) : Int)), ?_, ⟨k + 1, rfl, by omega⟩, by simp <;> omega⟩
      simp only [L18_3, L18_3c, hl, Option.bind_some, decide_eq_true h, cond_true]
      have := ylen_bd k
      rw [w64_in (by omega) (by omega), w64_in (by omega) (by omega), hs]
      have e1 : (2000 : Int) + (k : Int) + 1 = 2000 + ((k + 1 : Nat) : Int) := by omega
      have e2 : (d : Int) - bef k - ylen k = (d : Int) - (bef k + ylen k) := by omega
      rw [e1, e2]
    · right
      have hky : k = y := by
        rcases Nat.lt_or_ge k y with h' | h'
        · have := bef_mono (k + 1) y (by omega)
          omega
        · omega
      subst hky
      exact ⟨_, by simp only [L18_3, L18_3c, hl, Option.bind_some, decide_eq_false h, cond_false], rfl⟩) F ((d : Int), (2000 : Int)) ⟨0, by rw [bef_zero]; simp, by omega⟩ (by simp <;> omega)
  rw [h1, h2]

theorem l18_4 {F : Nat} (hF : 3000 ≤ F) {d y m : Nat} {e : Int} (hd : d ≤ 999999) (v : Dt d y m e) : iter (fun s => L18_4 F (2000 + (y : Int)) s.1 s.2) F ((d : Int) - bef y, (1 : Int)) = some (e - 1, (m : Int)) := by
  have hy := v.yle (by omega)
  have hy2 := bef_hi y
  have hy3 := bef_lo y
  have hm1 := v.m1
  have hm2 := v.m2
  have he := v.eq
  have he1 := v.e1
  have he2 := v.e2
  obtain ⟨r, h1, h2⟩ := it1 (f := fun s => L18_4 F (2000 + (y : Int)) s.1 s.2) (fun s => ∃ k : Nat, s = ((d : Int) - bef y - cum (lp y) k, (k : Int)) ∧ 1 ≤ k ∧ k ≤ m) (fun r => r = (e - 1, (m : Int))) (fun s => m - s.2.toNat) (by
    rintro s ⟨k, rfl, hk1, hk2⟩
    have hc := cum_lo (lp y) hk1 (by omega : k ≤ 12)
    have hm := mlen_lo (lp y) hk1 (by omega : k ≤ 12)
    have hs := cum_succ (lp y) hk1
    have hcb : cum (lp y) k ≤ 366 := by
      have : (bif lp y then (366 : Int) else 365) ≤ 366 := by cases lp y <;> decide
      omega
    by_cases h : mlen (lp y) k ≤ (d : Int) - bef y - cum (lp y) k
    · left
      have hkm : k ≠ m := by rintro rfl; omega
      refine ⟨((d : Int) - bef y - cum (lp y) (k + 1), ((k + 1 : Nat) : Int)), ?_, ⟨k + 1, rfl, by omega, by omega⟩, by simp <;> omega⟩
      simp only [L18_4, L18_4c, T16_eq, dys_nat y k hk1 (by omega), Option.bind_some, decide_eq_true h, cond_true]
      rw [w64_in (n := (k : Int) + 1) (by omega) (by omega), w64_in (by omega) (by omega), hs]
      have e1 : (k : Int) + 1 = ((k + 1 : Nat) : Int) := by omega
      have e2 : (d : Int) - bef y - cum (lp y) k - mlen (lp y) k = (d : Int) - bef y - (cum (lp y) k + mlen (lp y) k) := by omega
      rw [e1, e2]
    · right
      have hkm : k = m := by
        rcases Nat.lt_or_ge k m with h' | h'
        · have := cum_mono (lp y) (k + 1) m (by omega) (by omega) (by omega)
          omega
        · omega
      subst hkm
      refine ⟨_, by simp only [L18_4, L18_4c, T16_eq, dys_nat y k hk1 (by omega), Option.bind_some, decide_eq_false h, cond_false]; rfl, ?_⟩
      have : (d : Int) - bef y - cum (lp y) k = e - 1 := by omega
      rw [this]) F ((d : Int) - bef y, (1 : Int)) ⟨1, by rw [cum_1]; simp, by omega, hm1⟩ (by simp <;> omega)
  rw [h1, h2]

theorem T18_eq {F : Nat} (hF : 3000 ≤ F) {d y m : Nat} {e : Int} (hd : d ≤ 999999) (v : Dt d y m e) : T18 F (d : Int) = some (2000 + (y : Int), (m : Int), e, 0) := by
  have he := v.ehi
  have he1 := v.e1
  have ew : w64 (e - 1 + 1) = e := by rw [w64_in (by omega) (by omega)]; omega
  simp only [T18, T18c, T36_eq, T34_ok F (d := (d : Int)) (by omega) (by omega), Option.bind_some, bne_self_eq_false, cond_false, l18_3 hF hd v, l18_4 hF hd v, ew]

/-- The days that are none. -/
theorem T17_bad (F : Nat) {d : Int} (h : ¬ (0 ≤ d ∧ d ≤ 999999)) : ∃ c, c ≠ 0 ∧ T34 F d = some c ∧ T17 F d = some (0, 0, 0, c) ∧ T18 F d = some (0, 0, 0, c) := by
  have key : ∀ c : Int, c ≠ 0 → T34 F d = some c → ∃ c, c ≠ 0 ∧ T34 F d = some c ∧ T17 F d = some (0, 0, 0, c) ∧ T18 F d = some (0, 0, 0, c) := fun c hc h => by
    have hb : (c != 0) = true := by rw [bne_iff_ne]; exact hc
    exact ⟨c, hc, h, by simp only [T17, T17c, h, Option.bind_some, hb, cond_true], by simp only [T18, T18c, T36_eq, h, Option.bind_some, hb, cond_true]⟩
  by_cases h1 : d < 0
  · exact key 1 (by decide) (T34_lo F h1)
  · exact key 2 (by decide) (T34_hi F (by omega))
end Go.Proofs.YtdfmjgbnbfncmaaDoor
/- The twins of Day. No program is in it. -/
namespace Go.Proofs.YtdfmjgbnbfncmaaDoor
open Go.Tw
set_option linter.unusedSimpArgs false
set_option linter.unusedVariables false

/-- A valid date. -/
def VD (p0 p1 p2 : Int) : Prop := 2000 ≤ p0 ∧ 1 ≤ p1 ∧ p1 ≤ 12 ∧ 1 ≤ p2 ∧ p2 ≤ dys p0 p1
/-- The day of a valid date. -/
def dno (y m : Nat) (e : Int) : Int := bef y + cum (lp y) m + e - 1
def dayR (D : Int) : Int × Int := if D ≤ 999999 then (D, 0) else (0, 2)

theorem VD.nat {p0 p1 p2 : Int} (h : VD p0 p1 p2) : ∃ y m : Nat, p0 = 2000 + (y : Int) ∧ p1 = (m : Int) ∧ 1 ≤ m ∧ m ≤ 12 ∧ 1 ≤ p2 ∧ p2 ≤ mlen (lp y) m := by
  obtain ⟨h1, h2, h3, h4, h5⟩ := h
  obtain ⟨y, rfl⟩ : ∃ y : Nat, p0 = 2000 + (y : Int) := ⟨(p0 - 2000).toNat, by omega⟩
  obtain ⟨m, rfl⟩ : ∃ m : Nat, p1 = (m : Int) := ⟨p1.toNat, by omega⟩
  rw [dys_nat y m (by omega) (by omega)] at h5
  exact ⟨y, m, rfl, rfl, by omega, by omega, h4, h5⟩

theorem dno_dt {y m : Nat} {e : Int} (h1 : 1 ≤ m) (h2 : m ≤ 12) (h3 : 1 ≤ e) (h4 : e ≤ mlen (lp y) m) : Dt (dno y m e) y m e := ⟨h1, h2, h3, h4, rfl⟩

theorem dys_bd (p m : Int) (h1 : 1 ≤ m) (h2 : m ≤ 12) : 28 ≤ dys p m ∧ dys p m ≤ 31 := by
  unfold dys
  rw [if_pos ⟨h1, h2⟩]
  exact mlen_lo _ (by omega) (by omega)

theorem T38_eq (F : Nat) (p0 p1 p2 : Int) : ∃ a b, (a = if p0 < 2000 then 2000 else p0) ∧ (b = if p1 < 1 then 1 else if 12 < p1 then 12 else p1) ∧ T38 F p0 p1 p2 = some (a, b, if dys a b < (if p2 < 1 then 1 else p2) then dys a b else (if p2 < 1 then 1 else p2)) := by
  have e : (if (12 : Int) < (if p1 < (1 : Int) then (1 : Int) else p1) then (12 : Int) else (if p1 < (1 : Int) then (1 : Int) else p1)) = if p1 < 1 then 1 else if 12 < p1 then 12 else p1 := by
    split <;> split <;> simp_all <;> omega
  refine ⟨_, _, rfl, rfl, ?_⟩
  simp only [T38, T38c, T15_eq, Option.bind_some, e]

theorem T38_ok (F : Nat) {p0 p1 p2 : Int} (h : VD p0 p1 p2) : T38 F p0 p1 p2 = some (p0, p1, p2) := by
  obtain ⟨h1, h2, h3, h4, h5⟩ := h
  obtain ⟨a, b, ha, hb, e⟩ := T38_eq F p0 p1 p2
  rw [if_neg (by omega)] at ha
  rw [if_neg (by omega), if_neg (by omega)] at hb
  subst ha hb
  rw [e, if_neg (show ¬ p2 < 1 by omega), if_neg (by omega)]

theorem T38_bad (F : Nat) {p0 p1 p2 : Int} (h : ¬ VD p0 p1 p2) : ∃ a b c, T38 F p0 p1 p2 = some (a, b, c) ∧ (a == p0 && (b == p1 && (c == p2 && true))) = false := by
  obtain ⟨a, b, ha, hb, e⟩ := T38_eq F p0 p1 p2
  refine ⟨a, b, _, e, ?_⟩
  rw [Bool.eq_false_iff]
  intro hh
  simp only [Bool.and_eq_true, beq_iff_eq, Bool.and_true] at hh
  obtain ⟨rfl, rfl, h3⟩ := hh
  apply h
  have g1 : 2000 ≤ a := by
    split at ha <;> omega
  have g2 : 1 ≤ b ∧ b ≤ 12 := by
    split at hb
    · omega
    · split at hb <;> omega
  have g3 := dys_bd a b g2.1 g2.2
  refine ⟨g1, g2.1, g2.2, ?_⟩
  split at h3
  · omega
  · split at h3 <;> omega

theorem l19_2 {F : Nat} (hF : 3000 ≤ F) {y m : Nat} (hy : y ≤ 2740) (hm1 : 1 ≤ m) (hm2 : m ≤ 12) {c : Int} (hc1 : 0 ≤ c) (hc2 : c ≤ 2000000) : iter (fun s => L19_2 F (2000 + (y : Int)) (m : Int) s.1 s.2) F (c, (1 : Int)) = some (c + cum (lp y) m) := by
  obtain ⟨r, h1, h2⟩ := it1 (f := fun s => L19_2 F (2000 + (y : Int)) (m : Int) s.1 s.2) (fun s => ∃ k : Nat, s = (c + cum (lp y) k, (k : Int)) ∧ 1 ≤ k ∧ k ≤ m) (fun r => r = c + cum (lp y) m) (fun s => m - s.2.toNat) (by
    rintro s ⟨k, rfl, hk1, hk2⟩
    have hc := cum_lo (lp y) hk1 (by omega : k ≤ 12)
    have hm := mlen_lo (lp y) hk1 (by omega : k ≤ 12)
    have hs := cum_succ (lp y) hk1
    have hcb : cum (lp y) k ≤ 366 := by
      have : (bif lp y then (366 : Int) else 365) ≤ 366 := by cases lp y <;> decide
      omega
    by_cases h : k < m
    · left
      refine ⟨(c + cum (lp y) (k + 1), ((k + 1 : Nat) : Int)), ?_, ⟨k + 1, rfl, by omega, by omega⟩, by simp <;> omega⟩
      simp only [L19_2, L19_2c, T15_eq, dys_nat y k hk1 (by omega), Option.bind_some, decide_eq_true (show (k : Int) < (m : Int) by omega), cond_true]
      rw [w64_in (n := (k : Int) + 1) (by omega) (by omega), w64_in (by omega) (by omega), hs]
      have e1 : (k : Int) + 1 = ((k + 1 : Nat) : Int) := by omega
      have e2 : c + cum (lp y) k + mlen (lp y) k = c + (cum (lp y) k + mlen (lp y) k) := by omega
      rw [e1, e2]
    · right
      obtain rfl : k = m := by omega
      exact ⟨_, by simp only [L19_2, L19_2c, decide_eq_false (show ¬ (k : Int) < (k : Int) by omega), cond_false], rfl⟩) F (c, (1 : Int)) ⟨1, by rw [cum_1]; simp, by omega, hm1⟩ (by simp <;> omega)
  rw [h1, h2]

theorem dno_big {y m : Nat} {e : Int} (h1 : 1 ≤ m) (h2 : m ≤ 12) (h3 : 1 ≤ e) (hy : 2740 < y) : ¬ dno y m e ≤ 999999 := by
  have := bef_lo y
  have := cum_lo (lp y) h1 h2
  unfold dno
  omega

theorem T19_ok {F : Nat} (hF : 3000 ≤ F) {y m : Nat} {e : Int} (hy : (y : Int) < 9223372036854773808) (h1 : 1 ≤ m) (h2 : m ≤ 12) (h3 : 1 ≤ e) (h4 : e ≤ mlen (lp y) m) : T19 F (2000 + (y : Int)) (m : Int) e = some (dayR (dno y m e)) := by
  have hv : VD (2000 + (y : Int)) (m : Int) e := ⟨by omega, by omega, by omega, h3, by rw [dys_nat y m h1 h2]; exact h4⟩
  have hm := mlen_lo (lp y) h1 h2
  have hb : ((2000 + (y : Int)) == (2000 + (y : Int)) && ((m : Int) == (m : Int) && (e == e && true))) = true := by simp
  have ew : w64 (2000 + (y : Int) - 2000) = (y : Int) := by rw [w64_in (by omega) (by omega)]; omega
  by_cases hy2 : 2740 < y
  · have hn := dno_big (y := y) h1 h2 h3 hy2
    unfold dayR
    rw [if_neg hn]
    simp only [T19, T19c, T38_ok F hv, Option.bind_some, hb, Bool.not_true, cond_false, ew, decide_eq_true (show (2740 : Int) < (y : Int) by omega), cond_true]
  · have b1 := bef_lo y
    have b2 := bef_hi y
    have ew2 : w64 (w64 (bef y + e) - 1) = bef y + e - 1 := by rw [w64_in (n := bef y + e) (by omega) (by omega), w64_in (by omega) (by omega)]
    have hl := l19_2 hF (y := y) (m := m) (by omega) h1 h2 (c := bef y + e - 1) (by omega) (by omega)
    have ed : bef y + e - 1 + cum (lp y) m = dno y m e := by unfold dno; omega
    rw [ed] at hl
    simp only [T19, T19c, T38_ok F hv, Option.bind_some, hb, Bool.not_true, cond_false, ew, decide_eq_false (show ¬ (2740 : Int) < (y : Int) by omega), T35_eq F (y := y) (by omega), ew2, hl]
    unfold dayR
    by_cases h : dno y m e ≤ 999999
    · rw [if_pos h, decide_eq_false (by omega)]; rfl
    · rw [if_neg h, decide_eq_true (by omega)]; rfl

theorem T19_bad (F : Nat) {p0 p1 p2 : Int} (h : ¬ VD p0 p1 p2) : T19 F p0 p1 p2 = some (0, 1) := by
  obtain ⟨a, b, c, h1, h2⟩ := T38_bad F h
  simp only [T19, T19c, h1, Option.bind_some, h2, Bool.not_false, cond_true]

theorem T39_eq (F : Nat) (p0 p1 p2 : Int) [Decidable (VD p0 p1 p2)] : T39 F p0 p1 p2 = some (decide (VD p0 p1 p2)) := by
  by_cases h1 : 2000 ≤ p0
  · by_cases h2 : 1 ≤ p2
    · simp only [T39, T39c, decide_eq_true h1, decide_eq_true h2, T16_eq, Option.bind_some, cond_true]
      congr 1
      rw [decide_eq_decide]
      constructor
      · intro h
        have : 1 ≤ p1 ∧ p1 ≤ 12 := by
          by_cases hp : 1 ≤ p1 ∧ p1 ≤ 12
          · exact hp
          · unfold dys at h; rw [if_neg hp] at h; omega
        exact ⟨h1, this.1, this.2, h2, h⟩
      · intro h; exact h.2.2.2.2
    · have : ¬ VD p0 p1 p2 := fun h => h2 h.2.2.2.1
      simp only [T39, T39c, decide_eq_true h1, decide_eq_false h2, decide_eq_false this, cond_true, cond_false]
  · have : ¬ VD p0 p1 p2 := fun h => h1 h.1
    simp only [T39, T39c, decide_eq_false h1, decide_eq_false this, cond_false]

theorem l20_3 {F : Nat} (hF : 3000 ≤ F) {y : Nat} (hy : (y : Int) < 9223372036854773808) {c : Int} (hc1 : 0 ≤ c) (hc2 : c ≤ 30) : ∃ r, iter (fun s => L20_3 F (2000 + (y : Int)) s.1 s.2) F (c, (2000 : Int)) = some r ∧ ((r = .inl (c + bef y) ∧ c + bef y ≤ 999999) ∨ (r = .inr (0, 2) ∧ ¬ c + bef y ≤ 999999)) := by
  refine it1 (f := fun s => L20_3 F (2000 + (y : Int)) s.1 s.2) (fun s => ∃ k : Nat, s = (c + bef k, 2000 + (k : Int)) ∧ k ≤ y ∧ c + bef k ≤ 999999) (fun r => (r = .inl (c + bef y) ∧ c + bef y ≤ 999999) ∨ (r = .inr (0, 2) ∧ ¬ c + bef y ≤ 999999)) (fun s => 2800 - (s.2 - 2000).toNat) ?_ F (c, (2000 : Int)) ⟨0, by rw [bef_zero]; simp, by omega, by rw [bef_zero]; omega⟩ (by simp <;> omega)
  rintro s ⟨k, rfl, hk, hb⟩
  have hs := bef_succ k
  have hk1 := bef_lo k
  have hk2 := bef_hi k
  have hyl := ylen_bd k
  have hl : T37 F (2000 + (k : Int)) = some (ylen k) := by
    simp only [T37, T37c, T14_eq, lpI_nat, Option.bind_some]
    unfold ylen
    cases lp k <;> rfl
  by_cases h : k < y
  · have ew : w64 (c + bef k + ylen k) = c + bef (k + 1) := by rw [w64_in (by omega) (by omega), hs]; omega
    have ew2 : w64 (2000 + (k : Int) + 1) = 2000 + ((k + 1 : Nat) : Int) := by rw [w64_in (by omega) (by omega)]; omega
    by_cases hg : 999999 < c + bef (k + 1)
    · right
      refine ⟨.inr (0, 2), ?_, .inr ⟨rfl, ?_⟩⟩
      · simp only [L20_3, L20_3c, decide_eq_true (show 2000 + (k : Int) < 2000 + (y : Int) by omega), hl, Option.bind_some, ew, decide_eq_true hg, cond_true]
      · have := bef_mono (k + 1) y (by omega)
        omega
    · left
      have := bef_lo (k + 1)
      refine ⟨(c + bef (k + 1), 2000 + ((k + 1 : Nat) : Int)), ?_, ⟨k + 1, rfl, by omega, by omega⟩, by simp <;> omega⟩
      simp only [L20_3, L20_3c, decide_eq_true (show 2000 + (k : Int) < 2000 + (y : Int) by omega), hl, Option.bind_some, ew, ew2, decide_eq_false hg, cond_true, cond_false]
  · right
    obtain rfl : k = y := by omega
    refine ⟨.inl (c + bef k), ?_, .inl ⟨rfl, hb⟩⟩
    simp only [L20_3, L20_3c, decide_eq_false (show ¬ 2000 + (k : Int) < 2000 + (k : Int) by omega), cond_false]

theorem l20_4 {F : Nat} (hF : 3000 ≤ F) {y m : Nat} (hm1 : 1 ≤ m) (hm2 : m ≤ 12) {c : Int} (hc1 : 0 ≤ c) (hc2 : c ≤ 2000000) : iter (fun s => L20_4 F (2000 + (y : Int)) (m : Int) s.1 s.2) F (c, (1 : Int)) = some (c + cum (lp y) m) := by
  obtain ⟨r, h1, h2⟩ := it1 (f := fun s => L20_4 F (2000 + (y : Int)) (m : Int) s.1 s.2) (fun s => ∃ k : Nat, s = (c + cum (lp y) k, (k : Int)) ∧ 1 ≤ k ∧ k ≤ m) (fun r => r = c + cum (lp y) m) (fun s => m - s.2.toNat) (by
    rintro s ⟨k, rfl, hk1, hk2⟩
    have hc := cum_lo (lp y) hk1 (by omega : k ≤ 12)
    have hm := mlen_lo (lp y) hk1 (by omega : k ≤ 12)
    have hs := cum_succ (lp y) hk1
    have hcb : cum (lp y) k ≤ 366 := by
      have : (bif lp y then (366 : Int) else 365) ≤ 366 := by cases lp y <;> decide
      omega
    by_cases h : k < m
    · left
      refine ⟨(c + cum (lp y) (k + 1), ((k + 1 : Nat) : Int)), ?_, ⟨k + 1, rfl, by omega, by omega⟩, by simp <;> omega⟩
      simp only [L20_4, L20_4c, T16_eq, dys_nat y k hk1 (by omega), Option.bind_some, decide_eq_true (show (k : Int) < (m : Int) by omega), cond_true]
      rw [w64_in (n := (k : Int) + 1) (by omega) (by omega), w64_in (by omega) (by omega), hs]
      have e1 : (k : Int) + 1 = ((k + 1 : Nat) : Int) := by omega
      have e2 : c + cum (lp y) k + mlen (lp y) k = c + (cum (lp y) k + mlen (lp y) k) := by omega
      rw [e1, e2]
    · right
      obtain rfl : k = m := by omega
      exact ⟨_, by simp only [L20_4, L20_4c, decide_eq_false (show ¬ (k : Int) < (k : Int) by omega), cond_false], rfl⟩) F (c, (1 : Int)) ⟨1, by rw [cum_1]; simp, by omega, hm1⟩ (by simp <;> omega)
  rw [h1, h2]

theorem T20_ok {F : Nat} (hF : 3000 ≤ F) {y m : Nat} {e : Int} (hy : (y : Int) < 9223372036854773808) (h1 : 1 ≤ m) (h2 : m ≤ 12) (h3 : 1 ≤ e) (h4 : e ≤ mlen (lp y) m) : T20 F (2000 + (y : Int)) (m : Int) e = some (dayR (dno y m e)) := by
  have hv : VD (2000 + (y : Int)) (m : Int) e := ⟨by omega, by omega, by omega, h3, by rw [dys_nat y m h1 h2]; exact h4⟩
  have hm := mlen_lo (lp y) h1 h2
  have hcl := cum_lo (lp y) h1 h2
  have ew : w64 (e - 1) = e - 1 := w64_in (by omega) (by omega)
  have h39 : T39 F (2000 + (y : Int)) (m : Int) e = some true := by
    haveI : Decidable (VD (2000 + (y : Int)) (m : Int) e) := Classical.propDecidable _
    rw [T39_eq, decide_eq_true hv]
  obtain ⟨r, g1, g2⟩ := l20_3 hF hy (c := e - 1) (by omega) (by omega)
  rcases g2 with ⟨rfl, g2⟩ | ⟨rfl, g2⟩
  · have hl := l20_4 hF (y := y) h1 h2 (c := e - 1 + bef y) (by have := bef_lo y; omega) (by omega)
    have ed : e - 1 + bef y + cum (lp y) m = dno y m e := by unfold dno; omega
    rw [ed] at hl
    simp only [T20, T20c, h39, Option.bind_some, Bool.not_true, cond_false, ew, g1, elimS, hl]
    unfold dayR
    by_cases h : dno y m e ≤ 999999
    · rw [if_pos h, decide_eq_false (by omega)]; rfl
    · rw [if_neg h, decide_eq_true (by omega)]; rfl
  · have hn : ¬ dno y m e ≤ 999999 := by unfold dno; omega
    simp only [T20, T20c, h39, Option.bind_some, Bool.not_true, cond_false, ew, g1, elimS]
    unfold dayR
    rw [if_neg hn]

theorem T20_bad (F : Nat) {p0 p1 p2 : Int} (h : ¬ VD p0 p1 p2) : T20 F p0 p1 p2 = some (0, 1) := by
  have h39 : T39 F p0 p1 p2 = some false := by
    haveI : Decidable (VD p0 p1 p2) := Classical.propDecidable _
    rw [T39_eq, decide_eq_false h]
  simp only [T20, T20c, h39, Option.bind_some, Bool.not_false, cond_true]

end Go.Proofs.YtdfmjgbnbfncmaaDoor
/- The plain laws 3, 4, 5, 6 and 11 of the calendar. No program is in it. -/
namespace Go.Proofs.YtdfmjgbnbfncmaaDoor
open Go.Tw
set_option linter.unusedSimpArgs false
set_option linter.unusedVariables false

theorem awake12 : T12 3000 = some true := by kernel_rfl

theorem T17_T18 {F : Nat} (hF : 3000 ≤ F) (d : Int) : ∃ z, T17 F d = some z ∧ T18 F d = some z := by
  by_cases h : 0 ≤ d ∧ d ≤ 999999
  · obtain ⟨n, rfl⟩ : ∃ n : Nat, d = n := ⟨d.toNat, by omega⟩
    obtain ⟨y, m, e, v⟩ := Dt.ex n
    exact ⟨_, T17_eq hF (by omega) v, T18_eq hF (by omega) v⟩
  · obtain ⟨c, _, _, h1, h2⟩ := T17_bad F h
    exact ⟨_, h1, h2⟩

theorem T19_cases {F : Nat} (hF : 3000 ≤ F) {p0 p1 p2 : Int} (hp : p0 < 9223372036854775808) :
    (∃ (D y m : Nat) (e : Int), D ≤ 999999 ∧ p0 = 2000 + (y : Int) ∧ p1 = (m : Int) ∧ p2 = e ∧ Dt (D : Int) y m e ∧ T19 F p0 p1 p2 = some ((D : Int), 0) ∧ T20 F p0 p1 p2 = some ((D : Int), 0) ∧ T17 F (D : Int) = some (p0, p1, p2, 0)) ∨
    (∃ c, c ≠ 0 ∧ T19 F p0 p1 p2 = some (0, c) ∧ T20 F p0 p1 p2 = some (0, c)) := by
  by_cases h : VD p0 p1 p2
  · obtain ⟨y, m, rfl, rfl, h1, h2, h3, h4⟩ := h.nat
    have a := T19_ok hF (y := y) (by omega) h1 h2 h3 h4
    have b := T20_ok hF (y := y) (by omega) h1 h2 h3 h4
    unfold dayR at a b
    by_cases hD : dno y m p2 ≤ 999999
    · left
      rw [if_pos hD] at a b
      have v := dno_dt (y := y) h1 h2 h3 h4
      have h0 : 0 ≤ dno y m p2 := by
        have := bef_lo y
        have := v.lo
        omega
      obtain ⟨D, hDn⟩ : ∃ D : Nat, dno y m p2 = D := ⟨(dno y m p2).toNat, by omega⟩
      rw [hDn] at a b v hD
      exact ⟨D, y, m, p2, by omega, rfl, rfl, rfl, v, a, b, T17_eq hF (by omega) v⟩
    · right
      rw [if_neg hD] at a b
      exact ⟨2, by decide, a, b⟩
  · right
    exact ⟨1, by decide, T19_bad F h, T20_bad F h⟩

theorem T17_cases {F : Nat} (hF : 3000 ≤ F) (d : Int) :
    (∃ (n y m : Nat) (e : Int), d = n ∧ n ≤ 999999 ∧ Dt (n : Int) y m e ∧ T17 F d = some (2000 + (y : Int), (m : Int), e, 0) ∧ T19 F (2000 + (y : Int)) (m : Int) e = some (d, 0)) ∨
    (¬ (0 ≤ d ∧ d ≤ 999999) ∧ ∃ c, c ≠ 0 ∧ T34 F d = some c ∧ T17 F d = some (0, 0, 0, c) ∧ T18 F d = some (0, 0, 0, c)) := by
  by_cases h : 0 ≤ d ∧ d ≤ 999999
  · left
    obtain ⟨n, rfl⟩ : ∃ n : Nat, d = n := ⟨d.toNat, by omega⟩
    obtain ⟨y, m, e, v⟩ := Dt.ex n
    have hy := v.yle (by omega)
    refine ⟨n, y, m, e, rfl, by omega, v, T17_eq hF (by omega) v, ?_⟩
    rw [T19_ok hF (by omega) v.m1 v.m2 v.e1 v.e2]
    have : dno y m e = n := v.eq.symm
    unfold dayR
    rw [this, if_pos (by omega)]
  · exact .inr ⟨h, T17_bad F h⟩

end Go.Proofs.YtdfmjgbnbfncmaaDoor
/- The plain laws 7, 8 and 9 of the calendar. No program is in it. -/
namespace Go.Proofs.YtdfmjgbnbfncmaaDoor
open Go.Tw
set_option linter.unusedSimpArgs false
set_option linter.unusedVariables false

theorem T23_eq {F : Nat} (hF : 3000 ≤ F) {d y m : Nat} {e : Int} (hd : d ≤ 999999) (v : Dt d y m e) : T23 F (d : Int) = some (12 * (y : Int) + (m : Int) - 1) := by
  have hy := v.yle (by omega)
  have hm := v.m2
  have e1 : w64 (2000 + (y : Int) - 2000) = y := by rw [w64_in (by omega) (by omega)]; omega
  have e2 : w64 (12 * (y : Int)) = 12 * (y : Int) := w64_in (by omega) (by omega)
  have e3 : w64 (12 * (y : Int) + (m : Int)) = 12 * (y : Int) + (m : Int) := w64_in (by omega) (by omega)
  have e4 : w64 (12 * (y : Int) + (m : Int) - 1) = 12 * (y : Int) + (m : Int) - 1 := w64_in (by omega) (by omega)
  simp only [T23, T23c, T17_eq hF hd v, Option.bind_some, bne_self_eq_false, cond_false, e1, e2, e3, e4]

theorem T31_T23 {F : Nat} (hF : 3000 ≤ F) (d : Int) : T31 F d = T23 F d := by
  obtain ⟨z, h1, h2⟩ := T17_T18 hF d
  simp only [T31, T31c, T23, T23c, h1, h2]

theorem T21_eq (F : Nat) {d : Nat} (hd : d ≤ 999999) : T21 F (d : Int) = some (((d + 5) % 7 : Nat) : Int) := by
  have e : w64 ((d : Int) + 5) = ((d + 5 : Nat) : Int) := by rw [w64_in (by omega) (by omega)]; omega
  simp only [T21, T21c, T34_ok F (d := (d : Int)) (by omega) (by omega), Option.bind_some, bne_self_eq_false, cond_false, e]
  rfl
theorem T22_eq (F : Nat) {d : Nat} (hd : d ≤ 999999) : T22 F (d : Int) = some (((d + 5) / 7 : Nat) : Int) := by
  have e : w64 ((d : Int) + 5) = ((d + 5 : Nat) : Int) := by rw [w64_in (by omega) (by omega)]; omega
  have e2 : Int.tdiv ((d + 5 : Nat) : Int) 7 = (((d + 5) / 7 : Nat) : Int) := rfl
  simp only [T22, T22c, T34_ok F (d := (d : Int)) (by omega) (by omega), Option.bind_some, bne_self_eq_false, cond_false, e, e2]
  rw [w64_in (by omega) (by omega)]

theorem next {n y m : Nat} {e : Int} (v : Dt n y m e) :
    (e ≠ mlen (lp y) m ∧ Dt ((n + 1 : Nat) : Int) y m (e + 1)) ∨ (e = mlen (lp y) m ∧ m < 12 ∧ Dt ((n + 1 : Nat) : Int) y (m + 1) 1) ∨ (e = mlen (lp y) m ∧ m = 12 ∧ Dt ((n + 1 : Nat) : Int) (y + 1) 1 1) := by
  have h1 := v.m1
  have h2 := v.m2
  have h3 := v.e1
  have h4 := v.e2
  have h5 := v.eq
  by_cases he : e = mlen (lp y) m
  · right
    by_cases hm : m < 12
    · left
      have := cum_succ (lp y) h1
      have := mlen_lo (lp y) (m := m + 1) (by omega) (by omega)
      exact ⟨he, hm, by omega, by omega, by omega, by omega, by omega⟩
    · right
      obtain rfl : m = 12 := by omega
      have a := cum_succ (lp y) (m := 12) (by omega)
      have b := cum_13 (lp y)
      have c := bef_succ y
      have d := mlen_lo (lp (y + 1)) (m := 1) (by omega) (by omega)
      have f := cum_1 (lp (y + 1))
      unfold ylen at c
      refine ⟨he, rfl, by omega, by omega, by omega, by omega, ?_⟩
      rw [f]
      have a' : cum (lp y) 13 = cum (lp y) 12 + mlen (lp y) 12 := a
      omega
  · left
    exact ⟨he, by omega, by omega, by omega, by omega, by omega⟩

theorem law7 {F : Nat} (hF : 3000 ≤ F) (ha : T12 F = some true) (p0 : Int) : T7 F p0 = some true := by
  by_cases h0 : p0 < 0
  · simp only [T7, T7c, ha, Option.bind_some, Bool.not_true, cond_false, decide_eq_true h0, cond_true]
  by_cases h1 : 999999 ≤ p0
  · simp only [T7, T7c, ha, Option.bind_some, Bool.not_true, cond_false, decide_eq_false h0, decide_eq_true h1, cond_true]
  obtain ⟨n, rfl⟩ : ∃ n : Nat, p0 = n := ⟨p0.toNat, by omega⟩
  obtain ⟨y, m, e, v⟩ := Dt.ex n
  have hn : n ≤ 999999 := by omega
  have hn1 : n + 1 ≤ 999999 := by omega
  have hy := v.yle (by omega)
  have hm1 := v.m1
  have hm2 := v.m2
  have he1 := v.e1
  have he2 := v.ehi
  have ew : w64 ((n : Int) + 1) = ((n + 1 : Nat) : Int) := by rw [w64_in (by omega) (by omega)]; omega
  have a1 := T17_eq hF hn v
  have b1 := T21_eq F hn
  have b2 := T21_eq F hn1
  have c1 := T22_eq F hn
  have c2 := T22_eq F hn1
  have d1 := T23_eq hF hn v
  have k1 : ((((n + 1 + 5) % 7 : Nat) : Int) != Int.tmod (w64 ((((n + 5) % 7 : Nat) : Int) + 1)) 7) = false := by
    have e1 : w64 ((((n + 5) % 7 : Nat) : Int) + 1) = (((n + 5) % 7 + 1 : Nat) : Int) := by rw [w64_in (by omega) (by omega)]; omega
    have e2 : Int.tmod (((n + 5) % 7 + 1 : Nat) : Int) 7 = ((((n + 5) % 7 + 1) % 7 : Nat) : Int) := rfl
    rw [e1, e2, bne_eq_false_iff_eq]
    omega
  have k2 : ∀ b : Bool, (b = true ↔ (n + 1 + 5) % 7 = 0) → ((((n + 1 + 5) / 7 : Nat) : Int) != w64 ((((n + 5) / 7 : Nat) : Int) + (bif b then (1 : Int) else 0))) = false := by
    intro b hb
    rw [bne_eq_false_iff_eq]
    cases b with
    | true => have := hb.1 rfl; simp only [cond_true]; rw [w64_in (by omega) (by omega)]; omega
    | false =>
      have : ¬ (n + 1 + 5) % 7 = 0 := fun h => by have := hb.2 h; cases this
      simp only [cond_false]; rw [w64_in (by omega) (by omega)]; omega
  have k3 := k2 ((((n + 1 + 5) % 7 : Nat) : Int) == 0) (by rw [beq_iff_eq]; omega)
  have l3 : ∀ b : Bool, L7_3 F 0 b = some (bif b then (1 : Int) else 0) := fun b => by cases b <;> rfl
  have l4 : ∀ b : Bool, L7_4 F 0 b = some (bif b then (1 : Int) else 0) := fun b => by cases b <;> rfl
  have g1 : decide ((n : Int) < 0) = false := decide_eq_false h0
  have g2 : decide ((999999 : Int) ≤ (n : Int)) = false := decide_eq_false h1
  rcases next v with ⟨hne, v'⟩ | ⟨he, hm, v'⟩ | ⟨he, hm, v'⟩
  · have a2 := T17_eq hF hn1 v'
    have d2 := T23_eq hF hn1 v'
    have f1 : (e == mlen (lp y) m) = false := by rw [beq_eq_false_iff_ne]; exact hne
    have f2 : (12 * (y : Int) + (m : Int) - 1 != w64 (12 * (y : Int) + (m : Int) - 1 + 0)) = false := by
      rw [bne_eq_false_iff_eq, w64_in (by omega) (by omega)]; omega
    have f3 : w64 (e + 1) = e + 1 := w64_in (by omega) (by omega)
    simp only [T7, T7c, ha, Option.bind_some, Bool.not_true, cond_false, g1, g2, ew, a1, a2, bne_self_eq_false, b1, b2, k1, l3, T15_eq, dys_nat y m hm1 hm2, f1, l4, c1, c2, k3, d1, d2, f2, f3, beq_self_eq_true, cond_true, Bool.and_true]
  · have a2 := T17_eq hF hn1 v'
    have d2 := T23_eq hF hn1 v'
    have f1 : (e == mlen (lp y) m) = true := by rw [beq_iff_eq]; exact he
    have f2 : (12 * (y : Int) + ((m + 1 : Nat) : Int) - 1 != w64 (12 * (y : Int) + (m : Int) - 1 + 1)) = false := by
      rw [bne_eq_false_iff_eq, w64_in (by omega) (by omega)]; omega
    have f3 : (((m + 1 : Nat) : Int) == w64 (Int.tmod (m : Int) 12 + 1)) = true := by
      have e2 : Int.tmod (m : Int) 12 = ((m % 12 : Nat) : Int) := rfl
      rw [beq_iff_eq, e2, w64_in (by omega) (by omega)]; omega
    have f4 : ((2000 + (y : Int)) == w64 (2000 + (y : Int) + w64 (Int.tdiv (m : Int) 12))) = true := by
      have e2 : Int.tdiv (m : Int) 12 = ((m / 12 : Nat) : Int) := rfl
      rw [beq_iff_eq, e2, w64_in (n := ((m / 12 : Nat) : Int)) (by omega) (by omega), w64_in (by omega) (by omega)]; omega
    simp only [T7, T7c, ha, Option.bind_some, Bool.not_true, cond_false, g1, g2, ew, a1, a2, bne_self_eq_false, b1, b2, k1, l3, T15_eq, dys_nat y m hm1 hm2, f1, l4, c1, c2, k3, d1, d2, cond_true, f2, show ((1 : Int) == 0) = false from rfl, beq_self_eq_true, f3, f4]
  · have a2 := T17_eq hF hn1 v'
    have d2 := T23_eq hF hn1 v'
    have f1 : (e == mlen (lp y) m) = true := by rw [beq_iff_eq]; exact he
    have f2 : (12 * ((y + 1 : Nat) : Int) + ((1 : Nat) : Int) - 1 != w64 (12 * (y : Int) + (m : Int) - 1 + 1)) = false := by
      rw [bne_eq_false_iff_eq, w64_in (by omega) (by omega)]; omega
    have f3 : ((((1 : Nat) : Nat) : Int) == w64 (Int.tmod (m : Int) 12 + 1)) = true := by
      have e2 : Int.tmod (m : Int) 12 = ((m % 12 : Nat) : Int) := rfl
      rw [beq_iff_eq, e2, w64_in (by omega) (by omega)]; omega
    have f4 : ((2000 + ((y + 1 : Nat) : Int)) == w64 (2000 + (y : Int) + w64 (Int.tdiv (m : Int) 12))) = true := by
      have e2 : Int.tdiv (m : Int) 12 = ((m / 12 : Nat) : Int) := rfl
      rw [beq_iff_eq, e2, w64_in (n := ((m / 12 : Nat) : Int)) (by omega) (by omega), w64_in (by omega) (by omega)]; omega
    simp only [T7, T7c, ha, Option.bind_some, Bool.not_true, cond_false, g1, g2, ew, a1, a2, bne_self_eq_false, b1, b2, k1, l3, T15_eq, dys_nat y m hm1 hm2, f1, l4, c1, c2, k3, d1, d2, cond_true, f2, show ((1 : Int) == 0) = false from rfl, beq_self_eq_true, f3, f4]

theorem T24_spec {F : Nat} (hF : 3000 ≤ F) (p0 p1 : Int) :
    (∃ c, c ≠ 0 ∧ T24 F p0 p1 = some (0, c) ∧ T25 F p0 p1 = some (0, c)) ∨
    (∃ (n y m D y' m' : Nat) (e e' : Int), p0 = n ∧ n ≤ 999999 ∧ D ≤ 999999 ∧ -100000 ≤ p1 ∧ p1 ≤ 100000 ∧ Dt (n : Int) y m e ∧ Dt (D : Int) y' m' e' ∧ T24 F p0 p1 = some ((D : Int), 0) ∧ T25 F p0 p1 = some ((D : Int), 0) ∧ 12 * (y' : Int) + (m' : Int) - 1 = 12 * (y : Int) + (m : Int) - 1 + p1 ∧ (e' = e ∨ (e' < e ∧ e' = mlen (lp y') m'))) := by
  rcases (T17_cases hF p0).symm with ⟨hn, c, hc, _, h1, h2⟩ | ⟨n, y, m, e, rfl, hn, v, h1, _⟩
  · have hb : (c != 0) = true := by rw [bne_iff_ne]; exact hc
    exact .inl ⟨c, hc, by simp only [T24, T24c, h1, Option.bind_some, hb, cond_true], by simp only [T25, T25c, h2, Option.bind_some, hb, cond_true]⟩
  have h2 := T18_eq hF hn v
  by_cases g1 : p1 < -100000
  · exact .inl ⟨1, by decide, by simp only [T24, T24c, h1, Option.bind_some, bne_self_eq_false, cond_false, decide_eq_true g1, cond_true], by simp only [T25, T25c, h2, Option.bind_some, bne_self_eq_false, cond_false, decide_eq_true g1, cond_true]⟩
  by_cases g2 : 100000 < p1
  · exact .inl ⟨1, by decide, by simp only [T24, T24c, h1, Option.bind_some, bne_self_eq_false, cond_false, decide_eq_false g1, decide_eq_true g2, cond_true], by simp only [T25, T25c, h2, Option.bind_some, bne_self_eq_false, cond_false, decide_eq_false g1, decide_eq_true g2, cond_true]⟩
  have hy := v.yle (by omega)
  have hm1 := v.m1
  have hm2 := v.m2
  have he1 := v.e1
  have he2 := v.ehi
  have d1 := T23_eq hF hn v
  have d2 : T31 F (n : Int) = some (12 * (y : Int) + (m : Int) - 1) := by rw [T31_T23 hF, d1]
  have ew : w64 (12 * (y : Int) + (m : Int) - 1 + p1) = 12 * (y : Int) + (m : Int) - 1 + p1 := w64_in (by omega) (by omega)
  by_cases g3 : 12 * (y : Int) + (m : Int) - 1 + p1 < 0
  · exact .inl ⟨1, by decide, by simp only [T24, T24c, h1, Option.bind_some, bne_self_eq_false, cond_false, decide_eq_false g1, decide_eq_false g2, d1, ew, decide_eq_true g3, cond_true], by simp only [T25, T25c, h2, Option.bind_some, bne_self_eq_false, cond_false, decide_eq_false g1, decide_eq_false g2, d2, ew, decide_eq_true g3, cond_true]⟩
  obtain ⟨Q, hQ⟩ : ∃ Q : Nat, 12 * (y : Int) + (m : Int) - 1 + p1 = Q := ⟨(12 * (y : Int) + (m : Int) - 1 + p1).toNat, by omega⟩
  have hQb : Q ≤ 140000 := by omega
  have ewQ : w64 (Q : Int) = Q := w64_in (by omega) (by omega)
  have g3' : ¬ (Q : Int) < 0 := by omega
  have q1 : Int.tdiv (Q : Int) 12 = ((Q / 12 : Nat) : Int) := rfl
  have q2 : Int.tmod (Q : Int) 12 = ((Q % 12 : Nat) : Int) := rfl
  have q3 : w64 ((Q / 12 : Nat) : Int) = ((Q / 12 : Nat) : Int) := w64_in (by omega) (by omega)
  have q4 : w64 (2000 + ((Q / 12 : Nat) : Int)) = 2000 + ((Q / 12 : Nat) : Int) := w64_in (by omega) (by omega)
  have q5 : w64 (((Q % 12 : Nat) : Int) + 1) = ((Q % 12 + 1 : Nat) : Int) := by rw [w64_in (by omega) (by omega)]; omega
  have hk1 : 1 ≤ Q % 12 + 1 := by omega
  have hk2 : Q % 12 + 1 ≤ 12 := by omega
  have hml := mlen_lo (lp (Q / 12)) hk1 hk2
  have hdy := dys_nat (Q / 12) (Q % 12 + 1) hk1 hk2
  obtain ⟨a, b, ha, hb, e38⟩ := T38_eq F (2000 + ((Q / 12 : Nat) : Int)) ((Q % 12 + 1 : Nat) : Int) e
  rw [if_neg (by omega)] at ha
  rw [if_neg (by omega), if_neg (by omega)] at hb
  subst ha hb
  rw [if_neg (show ¬ e < 1 by omega), hdy] at e38
  have hE : ∃ E, E = (if mlen (lp (Q / 12)) (Q % 12 + 1) < e then mlen (lp (Q / 12)) (Q % 12 + 1) else e) := ⟨_, rfl⟩
  obtain ⟨E, hE⟩ := hE
  rw [← hE] at e38
  have hE1 : 1 ≤ E ∧ E ≤ mlen (lp (Q / 12)) (Q % 12 + 1) ∧ (E = e ∨ (E < e ∧ E = mlen (lp (Q / 12)) (Q % 12 + 1))) := by
    split at hE <;> subst hE
    · exact ⟨by omega, by omega, .inr ⟨by omega, rfl⟩⟩
    · exact ⟨by omega, by omega, .inl rfl⟩
  have t24 : T24 F (n : Int) p1 = T19 F (2000 + ((Q / 12 : Nat) : Int)) ((Q % 12 + 1 : Nat) : Int) E := by
    simp only [T24, T24c, h1, Option.bind_some, bne_self_eq_false, cond_false, decide_eq_false g1, decide_eq_false g2, d1, hQ, ewQ, decide_eq_false g3', q1, q2, q3, q4, q5, e38]
    cases T19 F (2000 + ((Q / 12 : Nat) : Int)) ((Q % 12 + 1 : Nat) : Int) E <;> rfl
  have t25 : T25 F (n : Int) p1 = T20 F (2000 + ((Q / 12 : Nat) : Int)) ((Q % 12 + 1 : Nat) : Int) E := by
    simp only [T25, T25c, h2, Option.bind_some, bne_self_eq_false, cond_false, decide_eq_false g1, decide_eq_false g2, d2, hQ, ewQ, decide_eq_false g3', q1, q2, q3, q4, q5, T16_eq, hdy, ← hE]
    cases T20 F (2000 + ((Q / 12 : Nat) : Int)) ((Q % 12 + 1 : Nat) : Int) E <;> rfl
  rcases T19_cases hF (p0 := 2000 + ((Q / 12 : Nat) : Int)) (p1 := ((Q % 12 + 1 : Nat) : Int)) (p2 := E) (by omega) with ⟨D, y', m', e', hD, j1, j2, j3, v', j4, j5, _⟩ | ⟨c, hc, j1, j2⟩
  · right
    obtain rfl : y' = Q / 12 := by omega
    obtain rfl : m' = Q % 12 + 1 := by omega
    subst j3
    exact ⟨n, y, m, D, Q / 12, Q % 12 + 1, e, E, rfl, hn, hD, by omega, by omega, v, v', by rw [t24, j4], by rw [t25, j5], by omega, hE1.2.2⟩
  · exact .inl ⟨c, hc, by rw [t24, j1], by rw [t25, j2]⟩

theorem law8 {F : Nat} (hF : 3000 ≤ F) (ha : T12 F = some true) (p0 p1 : Int) : T8 F p0 p1 = some true := by
  obtain ⟨z, h1, h2⟩ : ∃ z, T24 F p0 p1 = some z ∧ T25 F p0 p1 = some z := by
    rcases T24_spec hF p0 p1 with ⟨c, _, h1, h2⟩ | ⟨_, _, _, _, _, _, _, _, _, _, _, _, _, _, _, h1, h2, _⟩ <;> exact ⟨_, h1, h2⟩
  simp only [T8, T8c, ha, h1, h2, Option.bind_some, cond_true, beq_self_eq_true]

theorem law9 {F : Nat} (hF : 3000 ≤ F) (ha : T12 F = some true) (p0 p1 : Int) : T9 F p0 p1 = some true := by
  rcases T24_spec hF p0 p1 with ⟨c, hc, h1, _⟩ | ⟨n, y, m, D, y', m', e, e', rfl, hn, hD, g1, g2, v, v', h1, _, h2, h3⟩
  · have hb : (c != 0) = true := by rw [bne_iff_ne]; exact hc
    simp only [T9, T9c, h1, ha, Option.bind_some, Bool.not_true, cond_false, hb, cond_true, beq_self_eq_true]
  · have hy := v.yle (by omega)
    have hm2 := v.m2
    have hm1 := v.m1
    have k1 : (12 * (y' : Int) + (m' : Int) - 1 == w64 (12 * (y : Int) + (m : Int) - 1 + p1)) = true := by
      rw [beq_iff_eq, w64_in (by omega) (by omega)]; exact h2
    have k2 : (bif (e == e') then some true else (bif decide (e' < e) then some (e' == mlen (lp y') m') else some false)) = some true := by
      rcases h3 with rfl | ⟨h3, h4⟩
      · simp
      · rw [show (e == e') = false by rw [beq_eq_false_iff_ne]; omega, decide_eq_true h3, h4]; simp
    simp only [T9, T9c, h1, ha, Option.bind_some, Bool.not_true, cond_false, bne_self_eq_false, T17_eq hF hn v, T17_eq hF hD v', beq_self_eq_true, cond_true, T23_eq hF hn v, T23_eq hF hD v', k1, T15_eq, dys_nat y' m' v'.m1 v'.m2]
    exact k2

theorem plaw7 (a0 : Int) (_ : -9223372036854775808 ≤ a0 ∧ a0 ≤ 9223372036854775807) : T7 3000 a0 = some true := law7 (Nat.le_refl _) awake12 a0
theorem plaw8 (a0 a1 : Int) (_ : -9223372036854775808 ≤ a0 ∧ a0 ≤ 9223372036854775807) (_ : -9223372036854775808 ≤ a1 ∧ a1 ≤ 9223372036854775807) : T8 3000 a0 a1 = some true := law8 (Nat.le_refl _) awake12 a0 a1
theorem plaw9 (a0 a1 : Int) (_ : -9223372036854775808 ≤ a0 ∧ a0 ≤ 9223372036854775807) (_ : -9223372036854775808 ≤ a1 ∧ a1 ≤ 9223372036854775807) : T9 3000 a0 a1 = some true := law9 (Nat.le_refl _) awake12 a0 a1
end Go.Proofs.YtdfmjgbnbfncmaaDoor
