/- Plain laws on the twins: parts of the key stream. -/
import Derived.Test.YtoglnkhchifeiaaPure4
import Derived.Test.YtoglnkhchifeiaaF8
import Derived.Test.YtoglnkhchifeiaaF9
import Derived.Test.YtoglnkhchifeiaaF10
namespace Go.Proofs.Ytoglnkhchifeiaa
open Go.Tw
set_option linter.unusedSimpArgs false
set_option linter.unusedVariables false

theorem iter_meas {σ ρ : Type} {body : σ → Option (σ ⊕ ρ)} (Q : σ → Prop) (μ : σ → Nat) (R : ρ → Prop)
    (h : ∀ s, Q s → (∃ s', body s = some (.inl s') ∧ Q s' ∧ μ s' < μ s) ∨ (∃ r, body s = some (.inr r) ∧ R r)) : ∀ (F : Nat) (s : σ), μ s < F → Q s → ∃ r, iter body F s = some r ∧ R r := by
  intro F
  induction F with
  | zero => intro s hm; omega
  | succ F ih =>
    intro s hm hs
    rcases h s hs with ⟨s', h1, h2, h3⟩ | ⟨r, h1, h2⟩
    · obtain ⟨r, h4, h5⟩ := ih s' (by omega) h2
      exact ⟨r, by simp [iter, h1, h4], h5⟩
    · exact ⟨r, by simp [iter, h1], h2⟩

/-- The byte of the key stream at a place. -/
def ksb (key nonce : List UInt8) (p : Nat) : UInt8 := (blk key nonce (UInt32.ofNat (p / 64))).getD (p % 64) 0
def strm (key nonce : List UInt8) (off n : Nat) : List UInt8 := (List.range' off n).map (ksb key nonce)

theorem strm_len (key nonce : List UInt8) (off n : Nat) : (strm key nonce off n).length = n := by simp [strm]
theorem strm_add (key nonce : List UInt8) (off n m : Nat) : strm key nonce off (n + m) = strm key nonce off n ++ strm key nonce (off + n) m := by
  simp [strm, ← List.map_append, ← List.range'_append_1]
theorem strm_get {key nonce : List UInt8} {off n t : Nat} (h : t < n) : (strm key nonce off n)[t]? = some (ksb key nonce (off + t)) := by
  simp [strm, h]

theorem chunk (key nonce : List UInt8) (p c : Nat) (hc : c ≤ 64 - p % 64) : ((blk key nonce (UInt32.ofNat (p / 64))).drop (p % 64)).take c = strm key nonce p c := by
  have hl := blk_len key nonce (UInt32.ofNat (p / 64))
  apply List.ext_getElem?
  intro t
  rw [List.getElem?_take]
  by_cases ht : t < c
  · rw [if_pos ht, strm_get ht, List.getElem?_drop]
    have e1 : (p + t) / 64 = p / 64 := by omega
    have e2 : (p + t) % 64 = p % 64 + t := by omega
    unfold ksb
    rw [e1, e2]
    have : p % 64 + t < (blk key nonce (UInt32.ofNat (p / 64))).length := by omega
    simp [List.getD, this]
  · rw [if_neg ht, List.getElem?_eq_none (by rw [strm_len]; omega)]

theorem place {p : Nat} (h : p < 4611686018427387904) : UInt32.ofInt (w64 (Int.tdiv (p : Int) 64)) = UInt32.ofNat (p / 64) ∧ Int.tmod (p : Int) 64 = ((p % 64 : Nat) : Int) := by
  have e1 : Int.tdiv (p : Int) 64 = ((p / 64 : Nat) : Int) := by rw [Int.tdiv_eq_ediv_of_nonneg (by omega)]; omega
  have e2 : Int.tmod (p : Int) 64 = ((p % 64 : Nat) : Int) := by rw [Int.tmod_eq_emod_of_nonneg (by omega)]; omega
  refine ⟨?_, e2⟩
  rw [e1, w64_in (by omega) (by omega)]
  apply UInt32.toNat_inj.1
  simp only [UInt32.ofInt, UInt32.toNat_ofNat']
  omega

theorem gsl_tail {α : Type} {xs : List α} {i : Nat} (h : i ≤ xs.length) : gsl xs (i : Int) (xs.length : Int) = some (xs.drop i) := by
  unfold gsl
  rw [if_pos ⟨by omega, by omega, by omega⟩]
  simp only [Int.toNat_natCast]
  rw [List.take_of_length_le (by simp)]

theorem l19 {F : Nat} (hF : 20 < F) {key nonce : List UInt8} (hk : key.length = 32) (hn : nonce.length = 12) {off n : Nat} (hb : off + n ≤ 4611686018427387903) (hFn : n < F) :
    ∃ r, iter (fun s => L19_1 F key nonce (off : Int) (n : Int) s.1 s.2) F ((0 : Int), List.replicate n (0 : UInt8)) = some r ∧ r.2 = strm key nonce off n := by
  refine iter_meas (fun (s : Int × List UInt8) => ∃ d : Nat, d ≤ n ∧ s.1 = (d : Int) ∧ s.2 = strm key nonce off d ++ List.replicate (n - d) 0) (fun (s : Int × List UInt8) => n - s.1.toNat) (fun (r : Int × List UInt8) => r.2 = strm key nonce off n) ?_ F _ (by simpa using hFn) ⟨0, by omega, rfl, by simp [strm]⟩
  rintro ⟨y, s⟩ ⟨d, hd, rfl, hs⟩
  dsimp only at hs ⊢
  by_cases hlt : d < n
  · refine .inl ?_
    have hp : w64 ((off : Int) + (d : Int)) = ((off + d : Nat) : Int) := by rw [w64_in (by omega) (by omega)]; omega
    obtain ⟨e1, e2⟩ := place (p := off + d) (by omega)
    have hsl : s.length = n := by rw [hs]; simp [strm_len]; omega
    have hB := blk_len key nonce (UInt32.ofNat ((off + d) / 64))
    have hg1 : gsl s (d : Int) (s.length : Int) = some (s.drop d) := gsl_tail (by omega)
    have hg2 := gsl_tail (xs := blk key nonce (UInt32.ofNat ((off + d) / 64))) (i := (off + d) % 64) (by omega)
    have hmod : (off + d) % 64 < 64 := Nat.mod_lt _ (by omega)
    generalize hc : Nat.min ((blk key nonce (UInt32.ofNat ((off + d) / 64))).drop ((off + d) % 64)).length (s.length - d) = c
    have hc1 : c ≤ 64 - (off + d) % 64 := by rw [← hc]; exact Nat.le_trans (Nat.min_le_left ..) (by simp; omega)
    have hc2 : c ≤ n - d := by rw [← hc]; exact Nat.le_trans (Nat.min_le_right ..) (by omega)
    have hc3 : 0 < c := by
      rw [← hc]
      have h1 : 0 < ((blk key nonce (UInt32.ofNat ((off + d) / 64))).drop ((off + d) % 64)).length := by rw [List.length_drop, hB]; omega
      have h2 : 0 < s.length - d := by omega
      exact Nat.lt_min.2 ⟨h1, h2⟩
    refine ⟨(((d + c : Nat) : Int), strm key nonce off (d + c) ++ List.replicate (n - (d + c)) 0), ?_, ⟨d + c, by omega, rfl, rfl⟩, by simp; omega⟩
    unfold L19_1
    rw [show decide ((d : Int) < (n : Int)) = true from by simp; omega, hp, e1, e2, t15_ok hF hk hn]
    simp only [cond_true, bind2, Option.bind_some]
    rw [hg1, hg2]
    simp only [Option.bind_some, Int.toNat_natCast]
    rw [hc]
    have e4 : w64 ((d : Int) + ((c : Nat) : Int)) = ((d + c : Nat) : Int) := by rw [w64_in (by omega) (by omega)]; omega
    rw [e4]
    have e5 : splice s d ((blk key nonce (UInt32.ofNat ((off + d) / 64))).drop ((off + d) % 64)) c = strm key nonce off (d + c) ++ List.replicate (n - (d + c)) 0 := by
      unfold splice
      rw [chunk key nonce (off + d) c hc1, hs, strm_add]
      rw [List.take_append_of_le_length (by rw [strm_len]; exact Nat.le_refl _), List.take_of_length_le (by rw [strm_len]; exact Nat.le_refl _)]
      rw [List.drop_append, List.drop_of_length_le (by rw [strm_len]; omega), strm_len]
      simp
      omega
    rw [e5]
  · refine .inr ⟨((d : Int), s), ?_, ?_⟩
    · unfold L19_1
      rw [show decide ((d : Int) < (n : Int)) = false from by simp; omega]; rfl
    · have : d = n := by omega
      subst this
      simpa using hs

theorem gsl_head {α : Type} {xs : List α} {c : Nat} (h : c ≤ xs.length) : gsl xs (0 : Int) (c : Int) = some (xs.take c) := by
  unfold gsl
  rw [if_pos ⟨by omega, by omega, by omega⟩]
  simp

theorem l20 {F : Nat} (hF : 20 < F) {key nonce : List UInt8} (hk : key.length = 32) (hn : nonce.length = 12) {off n : Nat} (hb : off + n ≤ 4611686018427387903) (hn2 : n ≤ 1099511627776) (hFn : n < F) :
    ∃ r, iter (fun s => L20_1 F key nonce (off : Int) (n : Int) s.1 s.2) F ((off : Int), ([] : List UInt8)) = some r ∧ r.2 = strm key nonce off n := by
  refine iter_meas (fun (s : Int × List UInt8) => ∃ d : Nat, d ≤ n ∧ s.1 = ((off + d : Nat) : Int) ∧ s.2 = strm key nonce off d) (fun (s : Int × List UInt8) => off + n - s.1.toNat) (fun (r : Int × List UInt8) => r.2 = strm key nonce off n) ?_ F _ (by simp; omega) ⟨0, by omega, by simp, by simp [strm]⟩
  rintro ⟨y, s⟩ ⟨d, hd, rfl, hs⟩
  dsimp only at hs ⊢
  have hw : w64 ((off : Int) + (n : Int)) = ((off + n : Nat) : Int) := by rw [w64_in (by omega) (by omega)]; omega
  by_cases hlt : d < n
  · refine .inl ?_
    obtain ⟨e1, e2⟩ := place (p := off + d) (by omega)
    have hsl : s.length = d := by rw [hs, strm_len]
    have hB := blk_len key nonce (UInt32.ofNat ((off + d) / 64))
    have hg2 := gsl_tail (xs := blk key nonce (UInt32.ofNat ((off + d) / 64))) (i := (off + d) % 64) (by omega)
    have hmod : (off + d) % 64 < 64 := Nat.mod_lt _ (by omega)
    have hdl : ((blk key nonce (UInt32.ofNat ((off + d) / 64))).drop ((off + d) % 64)).length = 64 - (off + d) % 64 := by rw [List.length_drop, hB]
    have e3 : w64 (((off + n : Nat) : Int) - ((off + d : Nat) : Int)) = ((n - d : Nat) : Int) := by rw [w64_in (by omega) (by omega)]; omega
    have fin : ∀ c, 0 < c → c ≤ 64 - (off + d) % 64 → c ≤ n - d → gapp s (strm key nonce (off + d) c) = some (strm key nonce off (d + c)) ∧ w64 (((off + d : Nat) : Int) + ((c : Nat) : Int)) = ((off + (d + c) : Nat) : Int) := by
      intro c h0 h1 h2
      refine ⟨?_, by rw [w64_in (by omega) (by omega)]; omega⟩
      unfold gapp
      rw [if_pos (by rw [hsl, strm_len]; omega), hs, ← strm_add]
    by_cases hshort : n - d < 64 - (off + d) % 64
    · refine ⟨(((off + (d + (n - d)) : Nat) : Int), strm key nonce off (d + (n - d))), ?_, ⟨d + (n - d), by omega, rfl, rfl⟩, by simp; omega⟩
      obtain ⟨f1, f2⟩ := fin (n - d) (by omega) (by omega) (Nat.le_refl _)
      unfold L20_1
      rw [hw, show decide (((off + d : Nat) : Int) < ((off + n : Nat) : Int)) = true from by simp; omega, e1, e2, t16_ok hF hk hn]
      simp only [cond_true, bind2, Option.bind_some]
      rw [hg2]
      simp only [Option.bind_some]
      rw [e3, show decide (((n - d : Nat) : Int) < ((((blk key nonce (UInt32.ofNat ((off + d) / 64))).drop ((off + d) % 64)).length : Nat) : Int)) = true from by rw [hdl]; simp; omega]
      simp only [cond_true]
      rw [gsl_head (by omega), chunk key nonce (off + d) (n - d) (by omega)]
      simp only [Option.bind_some]
      rw [f1]
      simp only [Option.bind_some, strm_len]
      rw [f2]
    · refine ⟨(((off + (d + (64 - (off + d) % 64)) : Nat) : Int), strm key nonce off (d + (64 - (off + d) % 64))), ?_, ⟨d + (64 - (off + d) % 64), by omega, rfl, rfl⟩, by simp; omega⟩
      obtain ⟨f1, f2⟩ := fin (64 - (off + d) % 64) (by omega) (Nat.le_refl _) (by omega)
      have hch := chunk key nonce (off + d) (64 - (off + d) % 64) (Nat.le_refl _)
      rw [List.take_of_length_le (by omega)] at hch
      unfold L20_1
      rw [hw, show decide (((off + d : Nat) : Int) < ((off + n : Nat) : Int)) = true from by simp; omega, e1, e2, t16_ok hF hk hn]
      simp only [cond_true, bind2, Option.bind_some]
      rw [hg2]
      simp only [Option.bind_some]
      rw [e3, show decide (((n - d : Nat) : Int) < ((((blk key nonce (UInt32.ofNat ((off + d) / 64))).drop ((off + d) % 64)).length : Nat) : Int)) = false from by rw [hdl]; simp; omega]
      simp only [cond_false]
      rw [hch]
      rw [f1]
      simp only [Option.bind_some, strm_len]
      rw [f2]
  · refine .inr ⟨(((off + d : Nat) : Int), s), ?_, ?_⟩
    · unfold L20_1
      rw [hw, show decide (((off + d : Nat) : Int) < ((off + n : Nat) : Int)) = false from by simp; omega]; rfl
    · have : d = n := by omega
      subst this
      exact hs

/-- What Stream answers. -/
def streamSpec (key nonce : List UInt8) (off n : Int) : List UInt8 × Int :=
  if ¬ (key.length = 32 ∧ nonce.length = 12) ∨ off < 0 ∨ n < 0 then ([], 1)
  else if 1048576 < n ∨ 274877906944 - n < off then ([], 2)
  else (strm key nonce off.toNat n.toNat, 0)

theorem t19_ok {F : Nat} (hF : 20 < F) (key nonce : List UInt8) {off n : Int} (ho : -9223372036854775808 ≤ off ∧ off ≤ 9223372036854775807) (hn : -9223372036854775808 ≤ n ∧ n ≤ 9223372036854775807) (hFn : n ≤ 1048576 → n < F) : T19 F key nonce off n = some (streamSpec key nonce off n) := by
  unfold T19 streamSpec
  rw [t23_eq]
  simp only [Option.bind_some]
  by_cases hv : key.length = 32 ∧ nonce.length = 12
  · simp only [hv, and_self, decide_true, Bool.not_true, cond_false, Option.bind_some, not_true_eq_false, false_or]
    by_cases h1 : off < 0
    · simp [h1]
    · by_cases h2 : n < 0
      · simp [h1, h2]
      · simp only [h1, h2, decide_false, cond_false, Option.bind_some, or_self, if_false]
        by_cases h3 : 1048576 < n
        · simp [h3]
        · have e : w64 (274877906944 - n) = 274877906944 - n := w64_in (by omega) (by omega)
          rw [e]
          by_cases h4 : 274877906944 - n < off
          · simp [h3, h4]
          · simp only [h3, h4, decide_false, cond_false, Option.bind_some, or_self, if_false]
            obtain ⟨o, rfl⟩ := Int.eq_ofNat_of_zero_le (Int.not_lt.1 h1)
            obtain ⟨m, rfl⟩ := Int.eq_ofNat_of_zero_le (Int.not_lt.1 h2)
            have hg : gmake (0 : UInt8) (m : Int) (m : Int) = some (List.replicate m 0) := by
              unfold gmake; rw [if_pos ⟨by omega, by omega, by omega⟩]; simp
            rw [hg]
            obtain ⟨r, h5, h6⟩ := l19 hF hv.1 hv.2 (off := o) (n := m) (by omega) (by have := hFn (by omega); omega)
            simp only [Option.bind_some, h5, bind2]
            simp [h6]
  · simp [hv]

theorem t20_ok {F : Nat} (hF : 20 < F) (key nonce : List UInt8) {off n : Int} (ho : -9223372036854775808 ≤ off ∧ off ≤ 9223372036854775807) (hn : -9223372036854775808 ≤ n ∧ n ≤ 9223372036854775807) (hFn : n ≤ 1048576 → n < F) : T20 F key nonce off n = some (streamSpec key nonce off n) := by
  unfold T20 streamSpec
  have hval : (bif ((key.length : Int) != 32) then some true else some ((nonce.length : Int) != 12)) = some (decide (¬ (key.length = 32 ∧ nonce.length = 12))) := by
    by_cases h1 : key.length = 32
    · have e1 : ((key.length : Int) != 32) = false := by simp; omega
      rw [e1]
      by_cases h2 : nonce.length = 12
      · have e2 : ((nonce.length : Int) != 12) = false := by simp; omega
        simp [e2, h1, h2]
      · have e2 : ((nonce.length : Int) != 12) = true := by simp; omega
        simp [e2, h1, h2]
    · have e1 : ((key.length : Int) != 32) = true := by simp; omega
      simp [e1, h1]
  rw [hval]
  simp only [Option.bind_some]
  by_cases hv : key.length = 32 ∧ nonce.length = 12
  · simp only [hv, and_self, not_true_eq_false, decide_false, cond_false, Option.bind_some, false_or]
    by_cases h1 : off < 0
    · simp [h1]
    · by_cases h2 : n < 0
      · simp [h1, h2]
      · simp only [h1, h2, decide_false, cond_false, Option.bind_some, or_self, if_false]
        by_cases h3 : 1048576 < n
        · simp [h3]
        · have e : w64 (274877906944 - n) = 274877906944 - n := w64_in (by omega) (by omega)
          rw [e]
          by_cases h4 : 274877906944 - n < off
          · simp [h3, h4]
          · simp only [h3, h4, decide_false, cond_false, Option.bind_some, or_self, if_false]
            obtain ⟨o, rfl⟩ := Int.eq_ofNat_of_zero_le (Int.not_lt.1 h1)
            obtain ⟨m, rfl⟩ := Int.eq_ofNat_of_zero_le (Int.not_lt.1 h2)
            obtain ⟨r, h5, h6⟩ := l20 hF hv.1 hv.2 (off := o) (n := m) (by omega) (by omega) (by have := hFn (by omega); omega)
            simp only [Option.bind_some, h5, bind2]
            simp [h6]
  · simp [hv]
end Go.Proofs.Ytoglnkhchifeiaa
