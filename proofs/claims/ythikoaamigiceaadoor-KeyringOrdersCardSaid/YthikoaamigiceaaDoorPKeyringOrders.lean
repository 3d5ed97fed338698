/- KeyringClass: the plain law; and the example that every statement of the chapter asks first. -/
import Derived.Test.YthikoaamigiceaaDoorJ
namespace Go.Proofs.YthikoaamigiceaaDoor
open Go.Tw
set_option linter.unusedVariables false
set_option linter.unusedSimpArgs false

end Go.Proofs.YthikoaamigiceaaDoor
/- The example that every statement of the chapter asks first; KeyringClass. -/
namespace Go.Proofs.YthikoaamigiceaaDoor
open Go.Tw
theorem awake9 : T9 1000 = some true := by kernel_rfl
end Go.Proofs.YthikoaamigiceaaDoor
/- KeyringNewer, KeyringOrders: the plain laws. -/
namespace Go.Proofs.YthikoaamigiceaaDoor
open Go.Tw
set_option linter.unusedVariables false
set_option linter.unusedSimpArgs false

theorem ix_natI {l : List Int} {i : Nat} (h : i < l.length) : ix l ((i : Nat) : Int) = some l[i] := by
  unfold ix; rw [if_pos (by omega)]; simp only [Int.toNat_natCast]; exact List.getElem?_eq_getElem h

theorem t34 (F : Nat) (l : List Int) (i : Nat) : T34 F l ((i : Nat) : Int) = some (l.getD i 0) := by
  by_cases h : i < l.length
  · have h' : ((i : Nat) : Int) < (l.length : Int) := by omega
    simp only [T34, T34c, h', decide_true, cond_true, ix_natI h, Option.bind_some]
    simp [h]
  · have h' : ¬ ((i : Nat) : Int) < (l.length : Int) := by omega
    simp only [T34, T34c, h', decide_false, cond_false]
    simp [h]
theorem t35 (F : Nat) (l : List Int) (i : Nat) : T35 F l ((i : Nat) : Int) = some (l.getD i 0) := t34 F l i

def chk (x y : List Int) : Nat → Nat → Bool
  | 0, _ => true
  | m + 1, i => !(decide (x.getD i 0 < y.getD i 0)) && chk x y m (i + 1)

theorem loop20 (F : Nat) (x y : List Int) (N : Nat) (hN : N < 1000000) : ∀ (m i fuel : Nat), i + m = N → m < fuel → iter (fun s => L20_2 F (N : Int) x y s) fuel ((i : Nat) : Int) = some (bif chk x y m i then .inl () else .inr false)
  | 0, i, fuel + 1, hi, hf => by
    have h : ¬ ((i : Nat) : Int) < (N : Int) := by omega
    simp only [iter, L20_2, L20_2c, h, decide_false, cond_false, Option.bind_some, chk, cond_true]
  | m + 1, i, fuel + 1, hi, hf => by
    have h : ((i : Nat) : Int) < (N : Int) := by omega
    have hw : w64 (((i : Nat) : Int) + 1) = ((i + 1 : Nat) : Int) := by rw [w64_in (by omega) (by omega)]; omega
    have ih := loop20 F x y N hN m (i + 1) fuel (by omega) (by omega)
    simp only [chk]
    show (L20_2 F (N : Int) x y _).bind _ = _
    simp only [L20_2, L20_2c, h, decide_true, cond_true, t34, Option.bind_some]
    cases decide (x.getD i 0 < y.getD i 0)
    · simp only [cond_false, Option.bind_some, Bool.not_false, Bool.true_and, hw]; exact ih
    · rfl

theorem loop21 (F : Nat) (x y : List Int) (hN : max x.length y.length < 1000000) : ∀ (m i fuel : Nat), i + m = max x.length y.length → m < fuel → iter (fun s => L21_2 F x y s) fuel ((i : Nat) : Int) = some (bif chk x y m i then .inl () else .inr false)
  | 0, i, fuel + 1, hi, hf => by
    have h : ¬ ((i : Nat) : Int) < (x.length : Int) := by omega
    have h2 : ¬ ((i : Nat) : Int) < (y.length : Int) := by omega
    simp only [iter, L21_2, L21_2c, h, h2, decide_false, cond_false, Option.bind_some, chk, cond_true]
  | m + 1, i, fuel + 1, hi, hf => by
    have hw : w64 (((i : Nat) : Int) + 1) = ((i + 1 : Nat) : Int) := by rw [w64_in (by omega) (by omega)]; omega
    have ih := loop21 F x y hN m (i + 1) fuel (by omega) (by omega)
    simp only [chk]
    show (L21_2 F x y _).bind _ = _
    have key : L21_2 F x y ((i : Nat) : Int) = bif decide (x.getD i 0 < y.getD i 0) then some (.inr (.inr false)) else some (.inl ((i + 1 : Nat) : Int)) := by
      by_cases h : ((i : Nat) : Int) < (x.length : Int)
      · simp only [L21_2, L21_2c, h, decide_true, cond_true, t35, Option.bind_some, hw]
      · have h2 : ((i : Nat) : Int) < (y.length : Int) := by omega
        simp only [L21_2, L21_2c, h, h2, decide_true, decide_false, cond_true, cond_false, t35, Option.bind_some, hw]
    rw [key]
    cases decide (x.getD i 0 < y.getD i 0)
    · simp only [cond_false, Option.bind_some, Bool.not_false, Bool.true_and]; exact ih
    · rfl

def nwr (a b : Int) (x : List Int) (c d : Int) (y : List Int) : Bool := bif a != c then false else bif decide (b < d) then false else chk x y (max x.length y.length) 0

theorem newer20 {F : Nat} (hF : 100 < F) (a b : Int) (x : List Int) (c d : Int) (y : List Int) (hx : x.length ≤ 20) (hy : y.length ≤ 20) : T20 F a b x c d y = some (nwr a b x c d y) := by
  have hN : (if (x.length : Int) < (y.length : Int) then (y.length : Int) else (x.length : Int)) = ((max x.length y.length : Nat) : Int) := by
    split <;> omega
  have hl := loop20 F x y (max x.length y.length) (by omega) (max x.length y.length) 0 F (by omega) (by omega)
  have hl : iter (fun s => L20_2 F ((max x.length y.length : Nat) : Int) x y s) F (0 : Int) = _ := hl
  simp only [T20, T20c, nwr, hN, hl, Option.bind_some]
  cases a != c <;> cases decide (b < d) <;> cases chk x y (max x.length y.length) 0 <;> rfl
theorem newer21 {F : Nat} (hF : 100 < F) (a b : Int) (x : List Int) (c d : Int) (y : List Int) (hx : x.length ≤ 20) (hy : y.length ≤ 20) : T21 F a b x c d y = some (nwr a b x c d y) := by
  have hl := loop21 F x y (by omega) (max x.length y.length) 0 F (by omega) (by omega)
  have hl : iter (fun s => L21_2 F x y s) F (0 : Int) = _ := hl
  simp only [T21, T21c, nwr, hl, Option.bind_some]
  cases a != c <;> cases decide (b < d) <;> cases chk x y (max x.length y.length) 0 <;> rfl

theorem law6 {F : Nat} (hF : 100 < F) (ha : T9 F = some true) (a b : Int) (x : List Int) (c d : Int) (y : List Int) : T6 F a b x c d y = some true := by
  by_cases h1 : (20 : Int) < (x.length : Int)
  · simp only [T6, T6c, ha, Option.bind_some, Bool.not_true, cond_false, h1, decide_true, cond_true]
  · by_cases h2 : (20 : Int) < (y.length : Int)
    · simp only [T6, T6c, ha, Option.bind_some, Bool.not_true, cond_false, h1, h2, decide_false, decide_true, cond_true]
    · simp only [T6, T6c, ha, Option.bind_some, Bool.not_true, cond_false, h1, h2, decide_false, newer20 hF a b x c d y (by omega) (by omega), newer21 hF a b x c d y (by omega) (by omega), beq_self_eq_true]

theorem chk_spec (x y : List Int) : ∀ (m i : Nat), chk x y m i = true ↔ ∀ j, i ≤ j → j < i + m → y.getD j 0 ≤ x.getD j 0
  | 0, i => by simp only [chk, true_iff]; intro j h1 h2; omega
  | m + 1, i => by
    simp only [chk, Bool.and_eq_true, Bool.not_eq_true', decide_eq_false_iff_not, chk_spec x y m (i + 1)]
    constructor
    · rintro ⟨h1, h2⟩ j h3 h4
      by_cases hj : j = i
      · subst hj; omega
      · exact h2 j (by omega) (by omega)
    · intro h
      exact ⟨by have := h i (by omega) (by omega); omega, fun j h1 h2 => h j (by omega) (by omega)⟩
theorem chk_all (x y : List Int) : chk x y (max x.length y.length) 0 = true ↔ ∀ j, y.getD j 0 ≤ x.getD j 0 := by
  rw [chk_spec]
  constructor
  · intro h j
    by_cases hj : j < max x.length y.length
    · exact h j (by omega) (by omega)
    · have h1 : ¬ j < x.length := by omega
      have h2 : ¬ j < y.length := by omega
      simp [h1, h2]
  · intro h j _ _; exact h j
theorem nwr_spec (a b : Int) (x : List Int) (c d : Int) (y : List Int) : nwr a b x c d y = true ↔ a = c ∧ d ≤ b ∧ ∀ j, y.getD j 0 ≤ x.getD j 0 := by
  unfold nwr
  by_cases h1 : a = c
  · by_cases h2 : b < d
    · simp [h1, h2]
      intro h; omega
    · simp only [h1, bne_self_eq_false, cond_false, h2, decide_false, chk_all, true_and]
      exact ⟨fun h => ⟨by omega, h⟩, fun h => h.2⟩
  · simp [h1]

theorem law7 {F : Nat} (hF : 100 < F) (ha : T9 F = some true) (a b : Int) (x : List Int) (c d : Int) (y : List Int) (e f : Int) (z : List Int) : T7 F a b x c d y e f z = some true := by
  by_cases h1 : (20 : Int) < (x.length : Int)
  · simp only [T7, T7c, ha, Option.bind_some, Bool.not_true, cond_false, h1, decide_true, cond_true]
  · by_cases h2 : (20 : Int) < (y.length : Int)
    · simp only [T7, T7c, ha, Option.bind_some, Bool.not_true, cond_false, h1, h2, decide_false, decide_true, cond_true]
    · by_cases h3 : (20 : Int) < (z.length : Int)
      · simp only [T7, T7c, ha, Option.bind_some, Bool.not_true, cond_false, h1, h2, h3, decide_false, decide_true, cond_true]
      · have hxx : nwr a b x a b x = true := (nwr_spec ..).2 ⟨rfl, by omega, fun j => Int.le_refl _⟩
        simp only [T7, T7c, ha, Option.bind_some, Bool.not_true, cond_false, h1, h2, h3, decide_false, newer20 hF a b x a b x (by omega) (by omega), newer20 hF a b x c d y (by omega) (by omega), newer20 hF c d y e f z (by omega) (by omega), newer20 hF a b x e f z (by omega) (by omega), hxx, cond_true]
        cases hxy : nwr a b x c d y
        · rfl
        · cases hyz : nwr c d y e f z
          · rfl
          · obtain ⟨rfl, p1, p2⟩ := (nwr_spec ..).1 hxy
            obtain ⟨rfl, q1, q2⟩ := (nwr_spec ..).1 hyz
            have : nwr a b x a f z = true := (nwr_spec ..).2 ⟨rfl, by omega, fun j => Int.le_trans (q2 j) (p2 j)⟩
            simp only [Bool.not_true, cond_false, this]
end Go.Proofs.YthikoaamigiceaaDoor
/- KeyringNewer, KeyringOrders: the plain laws at the parameters as they come. -/
namespace Go.Proofs.YthikoaamigiceaaDoor
open Go.Tw
set_option linter.unusedVariables false
abbrev IX : Ty := (.pr .i (.pr .i (.pr (.sl .i) (.pr (.sl (.pr .i (.pr .i (.pr .i (.pr (.pr .s (.pr .i (.pr .i .un))) (.pr .i (.pr .i (.pr .s (.pr .bo .un))))))))) (.pr (.sl (.pr .s (.pr .i (.pr .i (.pr .i (.pr .i (.pr (.sl (.pr .s (.pr .i (.pr .i .un)))) .un))))))) (.pr (.sl (.pr .s (.pr .i (.pr .i .un)))) .un))))))
theorem plaw6 (x y : Ty.den IX) (_ : tyW IX x) (_ : tyW IX y) : T6 1000 x.1 x.2.1 x.2.2.1 y.1 y.2.1 y.2.2.1 = some true := law6 (by omega) awake9 _ _ _ _ _ _
theorem plaw7 (x y z : Ty.den IX) (_ : tyW IX x) (_ : tyW IX y) (_ : tyW IX z) : T7 1000 x.1 x.2.1 x.2.2.1 y.1 y.2.1 y.2.2.1 z.1 z.2.1 z.2.2.1 = some true := law7 (by omega) awake9 _ _ _ _ _ _ _ _ _
end Go.Proofs.YthikoaamigiceaaDoor
