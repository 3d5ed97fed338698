/- Plain laws: the statements on parts of the key stream. -/
import Derived.Test.YtoglnkhchifeiaaPure5
namespace Go.Proofs.Ytoglnkhchifeiaa
open Go.Tw
set_option linter.unusedSimpArgs false
set_option linter.unusedVariables false

theorem b2s {α β γ : Type} (a : α) (b : β) (f : α → β → Option γ) : bind2 (some (a, b)) f = f a b := rfl

theorem plaw8 {F : Nat} (hF : 20 < F) (ha : T13 F = some true) (h8 : 800 < F) (key nonce : List UInt8) (off n : Int) (_ : key.length ≤ maxLen) (_ : nonce.length ≤ maxLen) (ho : -9223372036854775808 ≤ off ∧ off ≤ 9223372036854775807) (hn : -9223372036854775808 ≤ n ∧ n ≤ 9223372036854775807) : T8 F key nonce off n = some true := by
  unfold T8
  rw [ha]
  simp only [Option.bind_some, Bool.not_true, cond_false]
  by_cases h1 : (100 : Int) < (key.length : Int)
  · simp [h1]
  · by_cases h2 : (100 : Int) < (nonce.length : Int)
    · simp [h1, h2]
    · simp only [h1, h2, decide_false, cond_false, Option.bind_some]
      by_cases h3 : 400 < n
      · by_cases h4 : n ≤ 1048576
        · simp [h3, h4]
        · simp only [h3, h4, decide_true, decide_false, cond_true, cond_false, Option.bind_some]
          rw [t19_ok hF key nonce ho hn (fun h => absurd h h4), t20_ok hF key nonce ho hn (fun h => absurd h h4)]
          simp [bind2]
      · simp only [h3, decide_false, cond_false, Option.bind_some]
        rw [t19_ok hF key nonce ho hn (fun h => by omega), t20_ok hF key nonce ho hn (fun h => by omega)]
        simp [bind2]

theorem plaw10 {F : Nat} (hF : 20 < F) (ha : T13 F = some true) (h8 : 800 < F) (key nonce : List UInt8) (c : UInt32) (_ : key.length ≤ maxLen) (_ : nonce.length ≤ maxLen) : T10 F key nonce c = some true := by
  unfold T10
  rw [ha]
  simp only [Option.bind_some, Bool.not_true, cond_false]
  by_cases h1 : (100 : Int) < (key.length : Int)
  · simp [h1]
  · by_cases h2 : (100 : Int) < (nonce.length : Int)
    · simp [h1, h2]
    · simp only [h1, h2, decide_false, cond_false, Option.bind_some]
      have hc := u32_lt c
      have e : w64 ((c.toNat : Int) * 64) = ((c.toNat * 64 : Nat) : Int) := by rw [w64_in (by omega) (by omega)]; omega
      rw [e, t19_ok hF key nonce (by omega) (by omega) (fun _ => by omega)]
      unfold streamSpec
      by_cases hv : key.length = 32 ∧ nonce.length = 12
      · rw [t15_ok hF hv.1 hv.2]
        have c1 : ¬ (¬ (key.length = 32 ∧ nonce.length = 12) ∨ ((c.toNat * 64 : Nat) : Int) < 0 ∨ (64 : Int) < 0) := by
          rintro (h | h | h)
          · exact h hv
          · omega
          · omega
        have c2 : ¬ ((1048576 : Int) < 64 ∨ (274877906944 : Int) - 64 < ((c.toNat * 64 : Nat) : Int)) := by omega
        rw [if_neg c1, if_neg c2]
        have hch := chunk key nonce (c.toNat * 64) 64 (by omega)
        have e1 : c.toNat * 64 / 64 = c.toNat := by omega
        have e2 : c.toNat * 64 % 64 = 0 := by omega
        rw [e1, e2, List.drop_zero, List.take_of_length_le (by rw [blk_len]; exact Nat.le_refl _)] at hch
        have e3 : UInt32.ofNat c.toNat = c := by simp
        rw [e3] at hch
        rw [Int.toNat_natCast, show (64 : Int).toNat = 64 from rfl, ← hch, b2s, b2s]
        simp [blk_len]
      · rw [t15_bad hv]
        simp [bind2, hv]

theorem plaw9 {F : Nat} (hF : 20 < F) (ha : T13 F = some true) (h8 : 800 < F) (key nonce : List UInt8) (off n m : Int) (hkl : key.length ≤ maxLen) (hnl : nonce.length ≤ maxLen) (ho : -9223372036854775808 ≤ off ∧ off ≤ 9223372036854775807) (hn : -9223372036854775808 ≤ n ∧ n ≤ 9223372036854775807) (hm : -9223372036854775808 ≤ m ∧ m ≤ 9223372036854775807) : T9 F key nonce off n m = some true := by
  unfold T9
  rw [ha]
  simp only [Option.bind_some, Bool.not_true, cond_false]
  by_cases h1 : n < 0
  · simp [h1]
  by_cases h2 : m < 0
  · simp [h1, h2]
  by_cases h3 : 400 < n
  · simp [h1, h2, h3]
  by_cases h4 : 400 < m
  · simp [h1, h2, h3, h4]
  by_cases h5 : off < 0
  · simp [h1, h2, h3, h4, h5]
  by_cases h6 : 274877906944 < off
  · simp [h1, h2, h3, h4, h5, h6]
  simp only [h1, h2, h3, h4, h5, h6, decide_false, cond_false, Option.bind_some]
  have e1 : w64 (off + n) = off + n := w64_in (by omega) (by omega)
  have e2 : w64 (n + m) = n + m := w64_in (by omega) (by omega)
  rw [e1, e2, t19_ok hF key nonce ho hn (fun _ => by omega), t19_ok hF key nonce (by omega) hm (fun _ => by omega), t19_ok hF key nonce ho (by omega) (fun _ => by omega)]
  simp only [bind2, Option.bind_some]
  unfold streamSpec
  by_cases hv : key.length = 32 ∧ nonce.length = 12
  · have c1 : ¬ (¬ (key.length = 32 ∧ nonce.length = 12) ∨ off < 0 ∨ n < 0) := by exact fun h => h.elim (fun h => h hv) (fun h => h.elim h5 h1)
    have c2 : ¬ (¬ (key.length = 32 ∧ nonce.length = 12) ∨ off + n < 0 ∨ m < 0) := by exact fun h => h.elim (fun h => h hv) (fun h => h.elim (fun h => by omega) h2)
    have c3 : ¬ (¬ (key.length = 32 ∧ nonce.length = 12) ∨ off < 0 ∨ n + m < 0) := by exact fun h => h.elim (fun h => h hv) (fun h => h.elim h5 (fun h => by omega))
    rw [if_neg c1, if_neg c2, if_neg c3]
    by_cases hbig : 274877906944 - (n + m) < off
    · rw [if_pos (show (1048576 : Int) < n + m ∨ 274877906944 - (n + m) < off from .inr hbig)]
      by_cases hb1 : 274877906944 - n < off
      · rw [if_pos (show (1048576 : Int) < n ∨ 274877906944 - n < off from .inr hb1)]
        simp
      · rw [if_neg (show ¬ ((1048576 : Int) < n ∨ 274877906944 - n < off) from by omega), if_pos (show (1048576 : Int) < m ∨ 274877906944 - m < off + n from .inr (by omega))]
        simp
    · rw [if_neg (show ¬ ((1048576 : Int) < n + m ∨ 274877906944 - (n + m) < off) from by omega), if_neg (show ¬ ((1048576 : Int) < n ∨ 274877906944 - n < off) from by omega), if_neg (show ¬ ((1048576 : Int) < m ∨ 274877906944 - m < off + n) from by omega)]
      have ea := strm_add key nonce off.toNat n.toNat m.toNat
      rw [show n.toNat + m.toNat = (n + m).toNat from by omega, show off.toNat + n.toNat = (off + n).toNat from by omega] at ea
      have hg : gcat (strm key nonce off.toNat n.toNat) (strm key nonce (off + n).toNat m.toNat) = some (strm key nonce off.toNat (n + m).toNat) := by
        unfold gcat
        rw [if_pos (by rw [strm_len, strm_len]; omega), ← ea]
      have hl : ((((strm key nonce off.toNat (n + m).toNat).length : Nat) : Int) == n + m) = true := by rw [strm_len]; simp; omega
      simp [hg, hl]
  · simp [hv]

theorem law8 (key nonce : List UInt8) (off n : Int) (q1 : key.length ≤ maxLen) (q2 : nonce.length ≤ maxLen) (ho : -9223372036854775808 ≤ off ∧ off ≤ 9223372036854775807) (hn : -9223372036854775808 ≤ n ∧ n ≤ 9223372036854775807) : T8 1000 key nonce off n = some true := plaw8 (by decide) awake_ok (by decide) key nonce off n q1 q2 ho hn
theorem law10 (key nonce : List UInt8) (c : UInt32) (q1 : key.length ≤ maxLen) (q2 : nonce.length ≤ maxLen) : T10 1000 key nonce c = some true := plaw10 (by decide) awake_ok (by decide) key nonce c q1 q2
theorem law9 (key nonce : List UInt8) (off n m : Int) (hkl : key.length ≤ maxLen) (hnl : nonce.length ≤ maxLen) (ho : -9223372036854775808 ≤ off ∧ off ≤ 9223372036854775807) (hn : -9223372036854775808 ≤ n ∧ n ≤ 9223372036854775807) (hm : -9223372036854775808 ≤ m ∧ m ≤ 9223372036854775807) : T9 1000 key nonce off n m = some true := plaw9 (by decide) awake_ok (by decide) key nonce off n m hkl hnl ho hn hm
end Go.Proofs.Ytoglnkhchifeiaa
