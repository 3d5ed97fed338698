/- KeyringClass: the plain law; and the example that every statement of the chapter asks first. -/
import Derived.Test.YthikoaamigiceaaDoorH3
namespace Go.Proofs.YthikoaamigiceaaDoor
open Go.Tw
set_option linter.unusedVariables false
set_option linter.unusedSimpArgs false

/-- The first class from the k-th on that is at least need. -/
def fcl (need : Int) : Nat → Nat → Int
  | 0, k => 1024 * 2 ^ k
  | m + 1, k => bif decide ((1024 * 2 ^ k : Int) < need) then fcl need m (k + 1) else 1024 * 2 ^ k

theorem dbl1 {k : Nat} (hk : k < 10) : w64 ((1024 * 2 ^ k : Int) * 2) = 1024 * 2 ^ (k + 1) := by
  have : ∀ k : Fin 10, w64 ((1024 * 2 ^ k.val : Int) * 2) = 1024 * 2 ^ (k.val + 1) := by decide
  exact this ⟨k, hk⟩

theorem step12 (F : Nat) (p : Int) (hp : w64 (p + 10) = p + 10) (s : Int) : L12_2 F p s = bif decide (s < p + 10) then some (.inl (w64 (s * 2))) else some (.inr s) := by
  simp only [L12_2, L12_2c, hp]
theorem loop12 (F : Nat) (p : Int) (hp : w64 (p + 10) = p + 10) : ∀ (m k fuel : Nat), k + m = 10 → m < fuel → p + 10 ≤ 1024 * 2 ^ 10 → iter (fun s => L12_2 F p s) fuel (1024 * 2 ^ k : Int) = some (fcl (p + 10) m k)
  | 0, k, fuel + 1, hk, hf, hn => by
    obtain rfl : k = 10 := by omega
    have h : ¬ ((1024 * 2 ^ 10 : Int) < p + 10) := by omega
    show (L12_2 F p _).bind _ = _
    rw [step12 F p hp]
    simp only [h, decide_false, cond_false, Option.bind_some, fcl]
  | m + 1, k, fuel + 1, hk, hf, hn => by
    show (L12_2 F p _).bind _ = _
    rw [step12 F p hp]
    by_cases h : (1024 * 2 ^ k : Int) < p + 10
    · simp only [h, decide_true, cond_true, Option.bind_some, fcl, dbl1 (k := k) (by omega)]
      exact loop12 F p hp m (k + 1) fuel (by omega) (by omega) hn
    · simp only [h, decide_false, cond_false, Option.bind_some, fcl]

theorem loop_eq (F : Nat) (p : Int) : (fun s => L13_2 F p s) = fun s => L12_2 F p s := by
  funext s
  simp only [L13_2, L13_2c, L12_2, L12_2c, Int.mul_comm]

theorem class_eq {F : Nat} (hF : 50 < F) (n : Int) : ∃ r, T12 F n = some r ∧ T13 F n = some r ∧ (n < 0 → r = (0, 1)) ∧ (1048560 < n → r = (0, 2)) ∧ (0 ≤ n → n ≤ 1048560 → r = (fcl (n + 10) 10 0, 0)) := by
  simp only [T12, T12c, T13, T13c, loop_eq]
  by_cases h1 : n < 0
  · exact ⟨(0, 1), by simp [h1], by simp [h1], fun _ => rfl, fun h => by omega, fun h => by omega⟩
  · by_cases h2 : 1048560 < n
    · exact ⟨(0, 2), by simp [h1, h2], by simp [h1, h2], fun h => by omega, fun _ => rfl, fun _ h => by omega⟩
    · have hl := loop12 F n (w64_in (by omega) (by omega)) 10 0 F (by omega) (by omega) (by omega)
      have hl : iter (fun s => L12_2 F n s) F (1024 : Int) = some (fcl (n + 10) 10 0) := hl
      refine ⟨(fcl (n + 10) 10 0, 0), ?_, ?_, fun h => by omega, fun h => by omega, fun _ _ => rfl⟩ <;> simp [h1, h2, hl]

theorem law4 {F : Nat} (hF : 50 < F) (ha : T9 F = some true) (n : Int) : T4 F n = some true := by
  obtain ⟨r, h1, h2, _⟩ := class_eq hF n
  simp only [T4, T4c, h1, h2, ha, Option.bind_some, cond_true, beq_self_eq_true]
end Go.Proofs.YthikoaamigiceaaDoor
/- The example that every statement of the chapter asks first; KeyringClass. -/
namespace Go.Proofs.YthikoaamigiceaaDoor
open Go.Tw
theorem awake9 : T9 1000 = some true := by kernel_rfl
theorem plaw4 (n : Int) (_ : -9223372036854775808 ≤ n ∧ n ≤ 9223372036854775807) : T4 1000 n = some true := law4 (by omega) awake9 n
end Go.Proofs.YthikoaamigiceaaDoor
/- KeyringKeys: the plain law. -/
namespace Go.Proofs.YthikoaamigiceaaDoor
open Go.Tw
set_option linter.unusedVariables false
set_option linter.unusedSimpArgs false

theorem gstr_ok {l : List UInt8} (h : l.length ≤ 1099511627776) : gstr l = some l := by unfold gstr; rw [if_pos h]
theorem gcat_ok {p q : List UInt8} (h : p.length + q.length ≤ 1099511627776) : gcat p q = some (p ++ q) := by unfold gcat; rw [if_pos h]

/-- A tag of three parts. -/
theorem mac3 {F : Nat} {k x y z : List UInt8} (hF : 3000 + x.length + y.length + z.length < F) (hk : k.length ≤ 64) (hb : x.length + y.length + z.length < 1000000) :
    ∃ z1 z2 z3 z4 t, T83 F k = some z1 ∧ T84 F x z1.1 z1.2.1 z1.2.2.1 = some z2 ∧ T84 F y z2.1 z2.2.1 z2.2.2 = some z3 ∧ T84 F z z3.1 z3.2.1 z3.2.2 = some z4 ∧ T85 F z4.1 z4.2.1 z4.2.2 z1.2.2.2 = some t ∧ T66 F k (x ++ y ++ z) = some t ∧ t.length = 32 := by
  have g0 : gslb 64 (0 : Int) ((64 : Nat) : Int) = some (0, 64) := gslb_nat (a := 0) (by omega) (by omega)
  obtain ⟨o, i, h, b, n, o1, i1, s1, s2, s3⟩ := start65 (F := F) (by omega) hk
  have xl := xk_len hk 54
  have xl2 := xk_len hk 92
  obtain ⟨h2, b2, n2, u1, u2⟩ := t82 (F := F) (x := x) (by omega) (by omega) s2
  obtain ⟨h3, b3, n3, u3, u4⟩ := t82 (F := F) (x := y) (by simp only [List.length_append]; omega) (by simp only [List.length_append]; omega) u2
  obtain ⟨h4, b4, n4, u5, u6⟩ := t82 (F := F) (x := z) (by simp only [List.length_append]; omega) (by simp only [List.length_append]; omega) u4
  obtain ⟨inner, v1, v2, v3⟩ := sum_eq (F := F) (by simp only [List.length_append]; omega) (by simp only [List.length_append]; omega) u6
  obtain ⟨t, w1, w2, w3⟩ := t79 (F := F) (ls := [xk k 92, inner]) (by simp only [List.flatten_cons, List.flatten_nil, List.length_append, List.length_cons, List.length_nil]; omega) (by simp only [List.flatten_cons, List.flatten_nil, List.length_append, List.length_nil]; omega) (by simp)
  have hfl : [xk k 92, inner].flatten = xk k 92 ++ inner := by simp
  rw [hfl] at w2
  have h1 : ¬ ((64 : Int) < (k.length : Int)) := by omega
  have h65 : T83 F k = some (h, b, n, o) := by
    simp only [T83, T83c, h1, decide_false, cond_false, Option.bind_some, g0, v0_0, v0_1, T98, T98c, o1, i1, s1]
  have e : (o.toList.drop 0).take (64 - 0) = xk k 92 := by rw [s3, List.drop_zero, List.take_of_length_le (by omega)]
  refine ⟨(h, b, n, o), (h2, b2, n2), (h3, b3, n3), (h4, b4, n4), t, h65, ?_, ?_, ?_, ?_, ?_, w3⟩
  · simp only [T84, T84c, x82_eq, u1, Option.bind_some]
  · simp only [T84, T84c, x82_eq, u3, Option.bind_some]
  · simp only [T84, T84c, x82_eq, u5, Option.bind_some]
  · simp only [T85, T85c, g0, Option.bind_some, v1, e, w1]
  · have gi : gstr inner = some inner := gstr_ok (by omega)
    have q1 : T88 F k (UInt8.ofNat 54) = some (xk k 54) := t69 (by omega) hk _
    have q2 : T88 F k (UInt8.ofNat 92) = some (xk k 92) := t69 (by omega) hk _
    have v2' : T87 F (xk k 54 ++ (x ++ y ++ z)) = some inner := by
      have e : xk k 54 ++ (x ++ y ++ z) = xk k 54 ++ x ++ y ++ z := by simp
      rw [e]; exact v2
    simp only [T66, T66c, h1, decide_false, cond_false, Option.bind_some, q1, q2, gapp_ok (show (xk k 54).length + (x ++ y ++ z).length ≤ 1099511627776 by simp only [List.length_append]; omega), v2', gi, gapp_ok (show (xk k 92).length + inner.length ≤ 1099511627776 by omega), w2]

theorem expand_eq {F : Nat} {k l : List UInt8} (hF : 4000 < F) (hk : k.length = 32) (hl : l.length ≤ 64) : ∃ t, T63 F k l (32 : Int) = some (t, 0) ∧ T65 F k l (32 : Int) = some t ∧ t.length = 32 := by
  obtain ⟨z1, z2, z3, z4, t, h1, h2, h3, h4, h5, h6, h7⟩ := mac3 (F := F) (k := k) (x := []) (y := l) (z := [(1 : UInt8)]) (by simp; omega) (by omega) (by simp; omega)
  obtain ⟨m, rfl⟩ : ∃ m, F = m + 2 := ⟨F - 2, by omega⟩
  have w2 : w64 (1 + 1) = 2 := w64_in (by omega) (by omega)
  have o1 : UInt8.ofInt 1 = 1 := rfl
  have ht : ¬ ((t.length : Int) < 32) := by omega
  have g1 : gapp ([] : List UInt8) t = some t := by rw [gapp_ok (by simp; omega)]; rfl
  have g2 : gcat ([] : List UInt8) t = some t := by rw [gcat_ok (by simp; omega)]; rfl
  have g3 : gcat ([] : List UInt8) l = some l := by rw [gcat_ok (by simp; omega)]; rfl
  refine ⟨t, ?_, ?_, h7⟩
  · have c1 : ¬ ((k.length : Int) < 32) := by omega
    have c2 : ¬ ((32 : Int) < 0) := by decide
    have c3 : ¬ ((8160 : Int) < 32) := by decide
    have c4 : ((([] : List UInt8).length : Int) < 32) := by decide
    have hs : gslb t.length (0 : Int) 32 = some (0, 32) := gslb_nat (a := 0) (b := 32) (by omega) (by omega)
    have htt : (t.drop 0).take (32 - 0) = t := by rw [List.drop_zero, List.take_of_length_le (by omega)]
    simp only [T63, T63c, c1, c2, c3, decide_false, cond_false, iter, L63_2, L63_2c, c4, decide_true, cond_true, h1, gstr_ok (show ([] : List UInt8).length ≤ 1099511627776 by simp), gstr_ok (show l.length ≤ 1099511627776 by omega), Option.bind_some, h2, h3, o1, h4, h5, g1, ht, hs, htt]
  · have c4 : ((([] : List UInt8).length : Int) < 32) := by decide
    have hs : gsl t (0 : Int) 32 = some t := by
      have := gsl_nat (l := t) (a := 0) (b := 32) (by omega) (by omega)
      rw [List.drop_zero, List.take_of_length_le (by omega)] at this
      exact this
    have h6' : T66 (m + 2) k (l ++ [(1 : UInt8)]) = some t := by simpa using h6
    simp only [T65, T65c, iter, L65_2, L65_2c, c4, decide_true, cond_true, g3, gstr_ok (show l.length ≤ 1099511627776 by omega), Option.bind_some, o1, gapp_ok (show l.length + [(1 : UInt8)].length ≤ 1099511627776 by simp; omega), h6', g2, ht, decide_false, cond_false, hs]

theorem derive_eq {F : Nat} {p l : List UInt8} (hF : 4000 < F) (hp : p.length = 32) (hl : l.length ≤ 64) (h0 : l ≠ []) : ∃ t, T31 F p l = some (t, 0) ∧ T32 F p l = some t := by
  obtain ⟨k, k1, k2, k3⟩ := tag_eq (F := F) (k := []) (d := p) (by simp; omega) (by simp) (by omega)
  obtain ⟨t, t1, t2, t3⟩ := expand_eq (F := F) (k := k) (l := l) hF k3 hl
  have c1 : ((p.length : Int) != 32) = false := by simp [hp]
  have c2 : (l == []) = false := by simpa using h0
  have c3 : ¬ ((64 : Int) < (l.length : Int)) := by omega
  have gp : gstr p = some p := gstr_ok (by omega)
  refine ⟨t, ?_, ?_⟩
  · simp only [T31, T31c, T64, T64c, c1, c2, c3, decide_false, cond_false, gp, Option.bind_some, k1, t1]
  · simp only [T32, T32c, gp, Option.bind_some, k2, t2]
theorem derive_bad {F : Nat} {p l : List UInt8} (hp : p.length ≠ 32) : T31 F p l = some ([], 1) := by
  have c1 : ((p.length : Int) != 32) = true := by simp; omega
  simp only [T31, T31c, c1, cond_true]
theorem derive33 {F : Nat} {p l : List UInt8} (hF : 4000 < F) (hp : p.length = 32) (hl : l.length ≤ 64) (h0 : l ≠ []) : ∃ t, T33 F p l = some (t, 0) ∧ T32 F p l = some t := by
  obtain ⟨t, t1, t2⟩ := derive_eq hF hp hl h0
  exact ⟨t, by simp only [T33, T33c, t1, Option.bind_some]; rfl, t2⟩
theorem derive33_bad {F : Nat} {p l : List UInt8} (hp : p.length ≠ 32) : T33 F p l = some ([], 1) := by
  simp only [T33, T33c, derive_bad hp, Option.bind_some]; rfl

theorem keys_eq {F : Nat} {p : List UInt8} (hF : 4000 < F) : ∃ r, T14 F p = some r ∧ T15 F p = some r := by
  have i0 : inb 5 (0 : Int) = some 0 := rfl
  have i1 : inb 5 (w64 ((0 : Int) + 1)) = some 1 := rfl
  have i2 : inb 5 (w64 ((w64 ((0 : Int) + 1)) + 1)) = some 2 := rfl
  have i3 : inb 5 (w64 (w64 ((w64 ((0 : Int) + 1)) + 1) + 1)) = some 3 := rfl
  have i4 : inb 5 (w64 (w64 (w64 ((w64 ((0 : Int) + 1)) + 1) + 1) + 1)) = some 4 := rfl
  have v0 : vat (#v[([110, 97, 109, 101] : List UInt8), ([115, 116, 114, 101, 97, 109] : List UInt8), ([99, 104, 101, 99, 107] : List UInt8), ([105, 110, 100, 101, 120] : List UInt8), ([116, 111, 107, 101, 110] : List UInt8)] : Vector (List UInt8) 5) 0 = some [110, 97, 109, 101] := rfl
  have v1 : vat (#v[([110, 97, 109, 101] : List UInt8), ([115, 116, 114, 101, 97, 109] : List UInt8), ([99, 104, 101, 99, 107] : List UInt8), ([105, 110, 100, 101, 120] : List UInt8), ([116, 111, 107, 101, 110] : List UInt8)] : Vector (List UInt8) 5) 1 = some [115, 116, 114, 101, 97, 109] := rfl
  have v2 : vat (#v[([110, 97, 109, 101] : List UInt8), ([115, 116, 114, 101, 97, 109] : List UInt8), ([99, 104, 101, 99, 107] : List UInt8), ([105, 110, 100, 101, 120] : List UInt8), ([116, 111, 107, 101, 110] : List UInt8)] : Vector (List UInt8) 5) 2 = some [99, 104, 101, 99, 107] := rfl
  have v3 : vat (#v[([110, 97, 109, 101] : List UInt8), ([115, 116, 114, 101, 97, 109] : List UInt8), ([99, 104, 101, 99, 107] : List UInt8), ([105, 110, 100, 101, 120] : List UInt8), ([116, 111, 107, 101, 110] : List UInt8)] : Vector (List UInt8) 5) 3 = some [105, 110, 100, 101, 120] := rfl
  have v4 : vat (#v[([110, 97, 109, 101] : List UInt8), ([115, 116, 114, 101, 97, 109] : List UInt8), ([99, 104, 101, 99, 107] : List UInt8), ([105, 110, 100, 101, 120] : List UInt8), ([116, 111, 107, 101, 110] : List UInt8)] : Vector (List UInt8) 5) 4 = some [116, 111, 107, 101, 110] := rfl
  by_cases hp : p.length = 32
  · obtain ⟨a, a1, a2⟩ := derive_eq (F := F) (p := p) (l := [110, 97, 109, 101]) hF hp (by decide) (by decide)
    obtain ⟨b, b1, b2⟩ := derive_eq (F := F) (p := p) (l := [115, 116, 114, 101, 97, 109]) hF hp (by decide) (by decide)
    obtain ⟨c, c1, c2⟩ := derive_eq (F := F) (p := p) (l := [99, 104, 101, 99, 107]) hF hp (by decide) (by decide)
    obtain ⟨d, d1, d2⟩ := derive_eq (F := F) (p := p) (l := [105, 110, 100, 101, 120]) hF hp (by decide) (by decide)
    obtain ⟨e, e1, e2⟩ := derive_eq (F := F) (p := p) (l := [116, 111, 107, 101, 110]) hF hp (by decide) (by decide)
    have n0 : ((0 : Int) != 0) = false := rfl
    have q1 : ((p.length : Int) != 32) = false := by simp [hp]
    refine ⟨(a, b, c, d, e, 0), ?_, ?_⟩
    · simp only [T14, T14c, i0, i1, i2, i3, i4, v0, v1, v2, v3, v4, Option.bind_some, a1, b1, c1, d1, e1, n0, cond_false]
    · simp only [T15, T15c, q1, cond_false, a2, b2, c2, d2, e2, Option.bind_some]
  · have q1 : ((p.length : Int) != 32) = true := by simp; omega
    have n1 : ((1 : Int) != 0) = true := rfl
    refine ⟨([], [], [], [], [], 1), ?_, ?_⟩
    · simp only [T14, T14c, i0, v0, Option.bind_some, derive_bad hp, n1, cond_true]
    · simp only [T15, T15c, q1, cond_true]

theorem print_eq {F : Nat} {p : List UInt8} (hF : 4000 < F) : ∃ r, T16 F p = some r ∧ T17 F p = some r := by
  by_cases hp : p.length = 32
  · obtain ⟨a, a1, a2⟩ := derive33 (F := F) (p := p) (l := [112, 114, 105, 110, 116]) hF hp (by decide) (by decide)
    have q1 : ((p.length : Int) != 32) = false := by simp [hp]
    exact ⟨(a, 0), by simp only [T16, T16c, a1, Option.bind_some], by simp only [T17, T17c, q1, cond_false, a2, Option.bind_some]⟩
  · have q1 : ((p.length : Int) != 32) = true := by simp; omega
    exact ⟨([], 1), by simp only [T16, T16c, derive33_bad hp, Option.bind_some], by simp only [T17, T17c, q1, cond_true]⟩

theorem rotate_eq {F : Nat} {p s : List UInt8} (hF : 4000 < F) (hs : s.length ≤ 100) : ∃ r, T18 F p s = some r ∧ T19 F p s = some r := by
  have g : gcat ([114, 111, 116, 97, 116, 101] : List UInt8) s = some ([114, 111, 116, 97, 116, 101] ++ s) := gcat_ok (by simp; omega)
  by_cases h58 : (58 : Int) < (s.length : Int)
  · refine ⟨([], 1), by simp only [T18, T18c, h58, decide_true, cond_true], ?_⟩
    simp only [T19, T19c, h58, decide_true, cond_true]
    cases ((p.length : Int) != 32) <;> rfl
  · by_cases hp : p.length = 32
    · obtain ⟨a, a1, a2⟩ := derive33 (F := F) (p := p) (l := [114, 111, 116, 97, 116, 101] ++ s) hF hp (by simp; omega) (by simp)
      have q1 : ((p.length : Int) != 32) = false := by simp [hp]
      exact ⟨(a, 0), by simp only [T18, T18c, h58, decide_false, cond_false, g, a1, Option.bind_some], by simp only [T19, T19c, q1, h58, decide_false, cond_false, g, a2, Option.bind_some]⟩
    · have q1 : ((p.length : Int) != 32) = true := by simp; omega
      exact ⟨([], 1), by simp only [T18, T18c, h58, decide_false, cond_false, g, derive33_bad hp, Option.bind_some], by simp only [T19, T19c, q1, cond_true]⟩

theorem law5 {F : Nat} (hF : 4000 < F) (ha : T9 F = some true) (p s : List UInt8) : T5 F p s = some true := by
  by_cases h1 : (100 : Int) < (p.length : Int)
  · simp only [T5, T5c, ha, Option.bind_some, Bool.not_true, cond_false, h1, decide_true, cond_true]
  · by_cases h2 : (100 : Int) < (s.length : Int)
    · simp only [T5, T5c, ha, Option.bind_some, Bool.not_true, cond_false, h1, h2, decide_false, decide_true, cond_true]
    · obtain ⟨r, r1, r2⟩ := keys_eq (F := F) (p := p) hF
      obtain ⟨q, q1, q2⟩ := print_eq (F := F) (p := p) hF
      obtain ⟨u, u1, u2⟩ := rotate_eq (F := F) (p := p) (s := s) hF (by omega)
      simp only [T5, T5c, ha, Option.bind_some, Bool.not_true, cond_false, h1, h2, decide_false, r1, r2, q1, q2, u1, u2, beq_self_eq_true, Bool.and_self, cond_true]
theorem awake9b : T9 10000 = some true := by kernel_rfl
theorem plaw5 (p s : List UInt8) (_ : p.length ≤ maxLen) (_ : s.length ≤ maxLen) : T5 10000 p s = some true := law5 (by omega) awake9b p s
end Go.Proofs.YthikoaamigiceaaDoor
