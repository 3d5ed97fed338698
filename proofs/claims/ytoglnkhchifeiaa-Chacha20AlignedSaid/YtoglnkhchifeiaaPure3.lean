/- Plain laws on the twins: the exclusive or of two byte strings. -/
import Derived.Test.YtoglnkhchifeiaaPure1
import Derived.Test.YtoglnkhchifeiaaF6
import Derived.Test.YtoglnkhchifeiaaF7
namespace Go.Proofs.Ytoglnkhchifeiaa
open Go.Tw

theorem inb_nat {n i : Nat} (h : i < n) : inb n (i : Int) = some i := by
  unfold inb; rw [if_pos ⟨by omega, by omega⟩]; simp
theorem w64_succ {i : Nat} (h : i < 4611686018427387904) : w64 ((i : Int) + 1) = ((i + 1 : Nat) : Int) := by
  rw [w64_in (by omega) (by omega)]; omega

/-- The exclusive or of corresponding bytes. -/
def xorL (a b : List UInt8) : List UInt8 := List.zipWith (· ^^^ ·) a b

theorem xorL_len {a b : List UInt8} (h : a.length = b.length) : (xorL a b).length = a.length := by simp [xorL, h]

theorem t17_ok {F : Nat} {a b : List UInt8} (h : a.length = b.length) (hl : a.length ≤ 1099511627776) (hF : a.length < F) : T17 F a b = some (xorL a b, 0) := by
  have hb : ((a.length : Int) != (b.length : Int)) = false := by simp [h]
  have hlen := xorL_len h
  have key := iter_count (body := fun s => L17_1 F a b s.1 s.2) (n := a.length) (g := fun i s => s.set i ((xorL a b).getD i 0)) (fun i s => s = (xorL a b).take i ++ List.replicate (a.length - i) 0)
    (by
      intro i hi s hs
      have ha : a[i]? = some a[i] := List.getElem?_eq_getElem hi
      have hb : b[i]? = some (b[i]'(by omega)) := List.getElem?_eq_getElem (by omega)
      have hz : (xorL a b)[i]? = some (a[i] ^^^ b[i]'(by omega)) := by simp [xorL, List.getElem?_zipWith, ha, hb]
      have hsl : s.length = a.length := by rw [hs]; simp [hlen]; omega
      refine ⟨?_, ?_⟩
      · have hgd : (xorL a b).getD i 0 = a[i] ^^^ b[i]'(by omega) := by simp [List.getD, hz]
        show L17_1 F a b (i : Int) s = _
        unfold L17_1
        rw [show decide ((i : Int) < (a.length : Int)) = true from by simp; omega]
        rw [inb_nat hi, inb_nat (show i < b.length by omega), inb_nat (show i < s.length by omega), w64_succ (by omega), hgd]
        simp [ha, hb]
      · rw [hs]
        apply List.ext_getElem?
        intro j
        simp only [List.getElem?_set, List.getElem?_append, List.length_take, hlen, List.length_append, List.length_replicate]
        by_cases hj : j = i
        · subst hj
          have h1 : min j a.length = j := by omega
          have h2 : min (j + 1) a.length = j + 1 := by omega
          rw [if_pos rfl, if_pos (by omega), h2, if_pos (by omega), List.getElem?_take, if_pos (by omega), hz]
          simp [List.getD, hz]
        · rw [if_neg (Ne.symm hj)]
          have h1 : min i a.length = i := by omega
          have h2 : min (i + 1) a.length = i + 1 := by omega
          rw [h1, h2]
          by_cases hji : j < i
          · simp [hji, show j < i + 1 by omega]
          · have : ¬ j < i + 1 := by omega
            simp only [hji, if_false, this, List.getElem?_replicate]
            by_cases hja : j < a.length
            · rw [if_pos (by omega), if_pos (by omega)]
            · rw [if_neg (by omega), if_neg (by omega)])
    (by
      intro s _
      show L17_1 F a b (a.length : Int) s = _
      unfold L17_1
      simp)
    hF (s0 := List.replicate a.length 0) (by simp)
  have e : (xorL a b).take a.length = xorL a b := List.take_of_length_le (by omega)
  unfold T17
  have hg : gmake (0 : UInt8) (a.length : Int) (a.length : Int) = some (List.replicate a.length 0) := by
    unfold gmake; rw [if_pos ⟨by omega, by omega, by omega⟩]; simp
  rw [hb, hg]
  simp only [cond_false, Option.bind_some]
  rw [key.1, key.2]
  simp [bind2, e]

theorem t18_ok {F : Nat} {a b : List UInt8} (h : a.length = b.length) (hl : a.length < 1099511627776) (hF : a.length < F) : T18 F a b = some (xorL a b, 0) := by
  have hb : ((a.length : Int) != (b.length : Int)) = false := by simp [h]
  have hlen := xorL_len h
  have key := iter_count (body := fun s => L18_1 F a b s.1 s.2) (n := a.length) (g := fun i s => s ++ [(xorL a b).getD i 0]) (fun i s => s = (xorL a b).take i)
    (by
      intro i hi s hs
      have ha : a[i]? = some a[i] := List.getElem?_eq_getElem hi
      have hb : b[i]? = some (b[i]'(by omega)) := List.getElem?_eq_getElem (by omega)
      have hz : (xorL a b)[i]? = some (a[i] ^^^ b[i]'(by omega)) := by simp [xorL, List.getElem?_zipWith, ha, hb]
      have hgd : (xorL a b).getD i 0 = a[i] ^^^ b[i]'(by omega) := by simp [List.getD, hz]
      have hsl : s.length = i := by rw [hs]; simp [hlen]; omega
      refine ⟨?_, ?_⟩
      · show L18_1 F a b (i : Int) s = _
        unfold L18_1
        have hga : gapp s [a[i] ^^^ b[i]'(by omega)] = some (s ++ [a[i] ^^^ b[i]'(by omega)]) := by
          unfold gapp; rw [if_pos (by simp; omega)]
        rw [show decide ((i : Int) < (a.length : Int)) = true from by simp; omega]
        rw [inb_nat hi, inb_nat (show i < b.length by omega), w64_succ (by omega), hgd]
        simp [ha, hb, hga]
      · rw [hs, hgd, List.take_add_one, hz]; simp)
    (by
      intro s _
      show L18_1 F a b (a.length : Int) s = _
      unfold L18_1
      simp)
    hF (s0 := []) (by simp)
  have e : (xorL a b).take a.length = xorL a b := List.take_of_length_le (by omega)
  unfold T18
  rw [hb]
  simp only [cond_false]
  rw [key.1, key.2]
  simp [bind2, e]

theorem law6 (a b : List UInt8) : T6 1000 a b = some true := by
  unfold T6
  rw [awake_ok]
  simp only [Option.bind_some, Bool.not_true, cond_false]
  by_cases h1 : a.length ≤ 300
  · by_cases h2 : b.length ≤ 300
    · have d1 : decide ((300 : Int) < (a.length : Int)) = false := by simp; omega
      have d2 : decide ((300 : Int) < (b.length : Int)) = false := by simp; omega
      rw [d1, d2]
      simp only [cond_false, Option.bind_some]
      by_cases h : a.length = b.length
      · rw [t17_ok h (by omega) (by omega), t18_ok h (by omega) (by omega)]
        simp [bind2]
      · have hb : ((a.length : Int) != (b.length : Int)) = true := by simp; omega
        unfold T17 T18
        rw [hb]
        simp [bind2]
    · have d1 : decide ((300 : Int) < (a.length : Int)) = false := by simp; omega
      have d2 : decide ((300 : Int) < (b.length : Int)) = true := by simp; omega
      rw [d1, d2]; simp
  · have d1 : decide ((300 : Int) < (a.length : Int)) = true := by simp; omega
    rw [d1]; simp

theorem xorL_comm : ∀ (a b : List UInt8), xorL a b = xorL b a
  | [], b => by simp [xorL]
  | a :: xs, [] => by simp [xorL]
  | a :: xs, b :: ys => by
    have := xorL_comm xs ys
    simp only [xorL, List.zipWith_cons_cons] at this ⊢
    rw [this, UInt8.xor_comm]

theorem xorL_twice : ∀ (a b : List UInt8), a.length = b.length → xorL (xorL a b) b = a
  | [], [], _ => rfl
  | a :: xs, b :: ys, h => by
    have := xorL_twice xs ys (by simpa using h)
    simp only [xorL, List.zipWith_cons_cons] at this ⊢
    rw [this, UInt8.xor_assoc, UInt8.xor_self, UInt8.xor_zero]
  | [], _ :: _, h => by simp at h
  | _ :: _, [], h => by simp at h

theorem law7 (a b : List UInt8) : T7 1000 a b = some true := by
  unfold T7
  rw [awake_ok]
  simp only [Option.bind_some, Bool.not_true, cond_false]
  by_cases h1 : a.length ≤ 300
  · have d1 : decide ((300 : Int) < (a.length : Int)) = false := by simp; omega
    by_cases h : a.length = b.length
    · have hb : ((a.length : Int) != (b.length : Int)) = false := by simp; omega
      rw [d1, hb]
      simp only [cond_false, Option.bind_some]
      have hx := xorL_len h
      rw [t17_ok h (by omega) (by omega), t17_ok h.symm (by omega) (by omega)]
      simp only [bind2, Option.bind_some]
      rw [t17_ok (hx.trans h) (by omega) (by omega), xorL_twice a b h, xorL_comm b a]
      simp
    · have hb : ((a.length : Int) != (b.length : Int)) = true := by simp; omega
      rw [d1, hb]; simp
  · have d1 : decide ((300 : Int) < (a.length : Int)) = true := by simp; omega
    rw [d1]; simp
end Go.Proofs.Ytoglnkhchifeiaa
