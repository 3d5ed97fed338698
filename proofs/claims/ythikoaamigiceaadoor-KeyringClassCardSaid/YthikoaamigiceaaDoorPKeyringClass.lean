/- KeyringClass: the plain law; and the example that every statement of the chapter asks first. -/
import Derived.Test.YthikoaamigiceaaDoorH3
namespace Go.Proofs.YthikoaamigiceaaDoor
open Go.Tw
set_option linter.unusedVariables false
set_option linter.unusedSimpArgs false

/-- The first class from the k-th on that is at least need. -/
def fcl (need : Int) : Nat → Nat → Int
  | 0, k => 1024 * 2 ^ k
  | m + 1, k => bif decide ((1024 * 2 ^ k : Int) < need) then fcl need m (k + 1) else 1024 * 2 ^ k

theorem dbl1 {k : Nat} (hk : k < 10) : w64 ((1024 * 2 ^ k : Int) * 2) = 1024 * 2 ^ (k + 1) := by
  have : ∀ k : Fin 10, w64 ((1024 * 2 ^ k.val : Int) * 2) = 1024 * 2 ^ (k.val + 1) := by decide
  exact this ⟨k, hk⟩

theorem step12 (F : Nat) (p : Int) (hp : w64 (p + 10) = p + 10) (s : Int) : L12_2 F p s = bif decide (s < p + 10) then some (.inl (w64 (s * 2))) else some (.inr s) := by
  simp only [L12_2, L12_2c, hp]
theorem loop12 (F : Nat) (p : Int) (hp : w64 (p + 10) = p + 10) : ∀ (m k fuel : Nat), k + m = 10 → m < fuel → p + 10 ≤ 1024 * 2 ^ 10 → iter (fun s => L12_2 F p s) fuel (1024 * 2 ^ k : Int) = some (fcl (p + 10) m k)
  | 0, k, fuel + 1, hk, hf, hn => by
    obtain rfl : k = 10 := by omega
    have h : ¬ ((1024 * 2 ^ 10 : Int) < p + 10) := by omega
    show (L12_2 F p _).bind _ = _
    rw [step12 F p hp]
    simp only [h, decide_false, cond_false, Option.bind_some, fcl]
  | m + 1, k, fuel + 1, hk, hf, hn => by
    show (L12_2 F p _).bind _ = _
    rw [step12 F p hp]
    by_cases h : (1024 * 2 ^ k : Int) < p + 10
    · simp only [h, decide_true, cond_true, Option.bind_some, fcl, dbl1 (k := k) (by omega)]
      exact loop12 F p hp m (k + 1) fuel (by omega) (by omega) hn
    · simp only [h, decide_false, cond_false, Option.bind_some, fcl]

theorem loop_eq (F : Nat) (p : Int) : (fun s => L13_2 F p s) = fun s => L12_2 F p s := by
  funext s
  simp only [L13_2, L13_2c, L12_2, L12_2c, Int.mul_comm]

theorem class_eq {F : Nat} (hF : 50 < F) (n : Int) : ∃ r, T12 F n = some r ∧ T13 F n = some r ∧ (n < 0 → r = (0, 1)) ∧ (1048560 < n → r = (0, 2)) ∧ (0 ≤ n → n ≤ 1048560 → r = (fcl (n + 10) 10 0, 0)) := by
  simp only [T12, T12c, T13, T13c, loop_eq]
  by_cases h1 : n < 0
  · exact ⟨(0, 1), by simp [h1], by simp [h1], fun _ => rfl, fun h => by omega, fun h => by omega⟩
  · by_cases h2 : 1048560 < n
    · exact ⟨(0, 2), by simp [h1, h2], by simp [h1, h2], fun h => by omega, fun _ => rfl, fun _ h => by omega⟩
    · have hl := loop12 F n (w64_in (by omega) (by omega)) 10 0 F (by omega) (by omega) (by omega)
      have hl : iter (fun s => L12_2 F n s) F (1024 : Int) = some (fcl (n + 10) 10 0) := hl
      refine ⟨(fcl (n + 10) 10 0, 0), ?_, ?_, fun h => by omega, fun h => by omega, fun _ _ => rfl⟩ <;> simp [h1, h2, hl]

theorem law4 {F : Nat} (hF : 50 < F) (ha : T9 F = some true) (n : Int) : T4 F n = some true := by
  obtain ⟨r, h1, h2, _⟩ := class_eq hF n
  simp only [T4, T4c, h1, h2, ha, Option.bind_some, cond_true, beq_self_eq_true]
end Go.Proofs.YthikoaamigiceaaDoor
/- The example that every statement of the chapter asks first; KeyringClass. -/
namespace Go.Proofs.YthikoaamigiceaaDoor
open Go.Tw
theorem awake9 : T9 1000 = some true := by kernel_rfl
theorem plaw4 (n : Int) (_ : -9223372036854775808 ≤ n ∧ n ≤ 9223372036854775807) : T4 1000 n = some true := law4 (by omega) awake9 n
end Go.Proofs.YthikoaamigiceaaDoor
