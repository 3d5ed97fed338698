/- Plain laws on the twins: the block of a counter. -/
import Derived.Test.YtoglnkhchifeiaaPure3
import Derived.Test.YtoglnkhchifeiaaF5
namespace Go.Proofs.Ytoglnkhchifeiaa
open Go.Tw
set_option linter.unusedSimpArgs false
set_option linter.unusedVariables false

theorem ix_nat {s : List UInt8} {i : Nat} (h : i < s.length) : ix s (i : Int) = some (s.getD i 0) := by
  unfold ix; rw [if_pos (by omega)]; simp [List.getD, h]

/-- Four bytes as a word. -/
def word (s : List UInt8) (o : Nat) : UInt32 :=
  (((s.getD o 0).toUInt32 ||| shl32 (s.getD (o + 1) 0).toUInt32 8) ||| shl32 (s.getD (o + 2) 0).toUInt32 16) ||| shl32 (s.getD (o + 3) 0).toUInt32 24

theorem t24_ok {F : Nat} {s : List UInt8} {o : Nat} (h : o + 3 < s.length) (hs : s.length ≤ 100) : T24 F s (o : Int) = some (word s o) := by
  unfold T24
  have e1 : w64 ((o : Int) + 1) = ((o + 1 : Nat) : Int) := by rw [w64_in (by omega) (by omega)]; omega
  have e2 : w64 ((o : Int) + 2) = ((o + 2 : Nat) : Int) := by rw [w64_in (by omega) (by omega)]; omega
  have e3 : w64 ((o : Int) + 3) = ((o + 3 : Nat) : Int) := by rw [w64_in (by omega) (by omega)]; omega
  rw [e1, e2, e3, ix_nat (show o < s.length by omega), ix_nat (show o + 1 < s.length by omega), ix_nat (show o + 2 < s.length by omega), ix_nat h]
  rfl

theorem t25_ok {F : Nat} {s : List UInt8} {i : Nat} (h : 4 * i + 3 < s.length) (hs : s.length ≤ 100) : T25 F s (i : Int) = some (word s (4 * i)) := by
  unfold T25
  have e0 : w64 ((4 : Int) * (i : Int)) = ((4 * i : Nat) : Int) := by rw [w64_in (by omega) (by omega)]; omega
  rw [e0]
  have e1 : w64 (((4 * i : Nat) : Int) + 1) = ((4 * i + 1 : Nat) : Int) := by rw [w64_in (by omega) (by omega)]; omega
  have e2 : w64 (((4 * i : Nat) : Int) + 2) = ((4 * i + 2 : Nat) : Int) := by rw [w64_in (by omega) (by omega)]; omega
  have e3 : w64 (((4 * i : Nat) : Int) + 3) = ((4 * i + 3 : Nat) : Int) := by rw [w64_in (by omega) (by omega)]; omega
  rw [e1, e2, e3, ix_nat (show 4 * i < s.length by omega), ix_nat (show 4 * i + 1 < s.length by omega), ix_nat (show 4 * i + 2 < s.length by omega), ix_nat h]
  rfl

def consts : Vector UInt32 16 := #v[(UInt32.ofNat 1634760805), (UInt32.ofNat 857760878), (UInt32.ofNat 2036477234), (UInt32.ofNat 1797285236), (0 : UInt32), (0 : UInt32), (0 : UInt32), (0 : UInt32), (0 : UInt32), (0 : UInt32), (0 : UInt32), (0 : UInt32), (0 : UInt32), (0 : UInt32), (0 : UInt32), (0 : UInt32)]
def put (s : List UInt8) (p : Nat) (i : Nat) (v : Vector UInt32 16) : Vector UInt32 16 := v.setIfInBounds (p + i) (word s (4 * i))
def qr (i : Nat) (v : Vector UInt32 16) : Vector UInt32 16 := nxt (L15_4 0 (i : Int) v) v
def dr (_ : Nat) (v : Vector UInt32 16) : Vector UInt32 16 := upto qr 8 v
def le4 (x : UInt32) : List UInt8 := [x.toUInt8, (shr32 x ((UInt64.ofNat 8).toNat)).toUInt8, (shr32 x ((UInt64.ofNat 16).toNat)).toUInt8, (shr32 x ((UInt64.ofNat 24).toNat)).toUInt8]
def start0 (key nonce : List UInt8) (c : UInt32) : Vector UInt32 16 := upto (put nonce 13) 3 ((upto (put key 4) 8 consts).setIfInBounds 12 c)
def outS (v0 v1 : Vector UInt32 16) (i : Nat) (o : List UInt8) : List UInt8 := o ++ le4 ((v1[i]?).getD 0 + (v0[i]?).getD 0)
/-- The block of a counter. -/
def blk (key nonce : List UInt8) (c : UInt32) : List UInt8 := upto (outS (start0 key nonce c) (upto dr 10 (start0 key nonce c))) 16 []

theorem l15_4_0 (F : Nat) (v : Vector UInt32 16) : L15_4 F ((0 : Nat) : Int) v = some (.inl (((0 + 1 : Nat) : Int), qr 0 v)) := by kernel_rfl
theorem l15_4_1 (F : Nat) (v : Vector UInt32 16) : L15_4 F ((1 : Nat) : Int) v = some (.inl (((1 + 1 : Nat) : Int), qr 1 v)) := by kernel_rfl
theorem l15_4_2 (F : Nat) (v : Vector UInt32 16) : L15_4 F ((2 : Nat) : Int) v = some (.inl (((2 + 1 : Nat) : Int), qr 2 v)) := by kernel_rfl
theorem l15_4_3 (F : Nat) (v : Vector UInt32 16) : L15_4 F ((3 : Nat) : Int) v = some (.inl (((3 + 1 : Nat) : Int), qr 3 v)) := by kernel_rfl
theorem l15_4_4 (F : Nat) (v : Vector UInt32 16) : L15_4 F ((4 : Nat) : Int) v = some (.inl (((4 + 1 : Nat) : Int), qr 4 v)) := by kernel_rfl
theorem l15_4_5 (F : Nat) (v : Vector UInt32 16) : L15_4 F ((5 : Nat) : Int) v = some (.inl (((5 + 1 : Nat) : Int), qr 5 v)) := by kernel_rfl
theorem l15_4_6 (F : Nat) (v : Vector UInt32 16) : L15_4 F ((6 : Nat) : Int) v = some (.inl (((6 + 1 : Nat) : Int), qr 6 v)) := by kernel_rfl
theorem l15_4_7 (F : Nat) (v : Vector UInt32 16) : L15_4 F ((7 : Nat) : Int) v = some (.inl (((7 + 1 : Nat) : Int), qr 7 v)) := by kernel_rfl
theorem l15_4 (F i : Nat) (hi : i < 8) (v : Vector UInt32 16) : L15_4 F (i : Int) v = some (.inl (((i + 1 : Nat) : Int), qr i v)) := by
  match i, hi with
  | 0, _ => exact l15_4_0 F v
  | 1, _ => exact l15_4_1 F v
  | 2, _ => exact l15_4_2 F v
  | 3, _ => exact l15_4_3 F v
  | 4, _ => exact l15_4_4 F v
  | 5, _ => exact l15_4_5 F v
  | 6, _ => exact l15_4_6 F v
  | 7, _ => exact l15_4_7 F v
theorem l16_4 (F : Nat) (y : Int) (v : Vector UInt32 16) : L16_4 F y v = L15_4 F y v := by
  unfold L16_4 L15_4; simp only [quarter_eq]

theorem it4 {F : Nat} (hF : 8 < F) (v : Vector UInt32 16) : iter (fun s => L15_4 F s.1 s.2) F ((0 : Int), v) = some ((8 : Int), upto qr 8 v) :=
  (iter_count (body := fun s => L15_4 F s.1 s.2) (n := 8) (g := qr) (fun _ _ => True) (fun i hi s _ => ⟨l15_4 F i hi s, trivial⟩) (fun s _ => rfl) hF trivial).1
theorem it4' {F : Nat} (hF : 8 < F) (v : Vector UInt32 16) : iter (fun s => L16_4 F s.1 s.2) F ((0 : Int), v) = some ((8 : Int), upto qr 8 v) := by
  simp only [l16_4]; exact it4 hF v

theorem w64_s1 {i : Nat} (h : i < 100) : w64 ((i : Int) + 1) = ((i + 1 : Nat) : Int) := w64_succ (by omega)

theorem it3 {F : Nat} (hF : 20 < F) (v : Vector UInt32 16) : iter (fun s => L15_3 F s.1 s.2) F ((0 : Int), v) = some ((10 : Int), upto dr 10 v) :=
  (iter_count (body := fun s => L15_3 F s.1 s.2) (n := 10) (g := dr) (fun _ _ => True) (fun i hi s _ => ⟨by
    show L15_3 F (i : Int) s = _
    unfold L15_3
    rw [show decide ((i : Int) < 10) = true from by simp; omega, it4 (by omega), w64_s1 (by omega)]
    rfl, trivial⟩) (fun s _ => rfl) (by omega) trivial).1
theorem it3' {F : Nat} (hF : 20 < F) (v : Vector UInt32 16) : iter (fun s => L16_3 F s.1 s.2) F ((0 : Int), v) = some ((10 : Int), upto dr 10 v) :=
  (iter_count (body := fun s => L16_3 F s.1 s.2) (n := 10) (g := dr) (fun _ _ => True) (fun i hi s _ => ⟨by
    show L16_3 F (i : Int) s = _
    unfold L16_3
    rw [show decide ((i : Int) < 10) = true from by simp; omega, it4' (by omega), w64_s1 (by omega)]
    rfl, trivial⟩) (fun s _ => rfl) (by omega) trivial).1

theorem it1 {F : Nat} (hF : 20 < F) {key : List UInt8} (hk : key.length = 32) (v : Vector UInt32 16) : iter (fun s => L15_1 F key s.1 s.2) F ((0 : Int), v) = some ((8 : Int), upto (put key 4) 8 v) :=
  (iter_count (body := fun s => L15_1 F key s.1 s.2) (n := 8) (g := put key 4) (fun _ _ => True) (fun i hi s _ => ⟨by
    show L15_1 F key (i : Int) s = _
    unfold L15_1
    have e0 : w64 ((4 : Int) * (i : Int)) = ((4 * i : Nat) : Int) := by rw [w64_in (by omega) (by omega)]; omega
    have e1 : w64 ((4 : Int) + (i : Int)) = ((4 + i : Nat) : Int) := by rw [w64_in (by omega) (by omega)]; omega
    rw [show decide ((i : Int) < 8) = true from by simp; omega, e0, e1, t24_ok (by omega) (by omega), inb_nat (show 4 + i < 16 by omega), w64_s1 (by omega)]
    rfl, trivial⟩) (fun s _ => rfl) (by omega) trivial).1
theorem it1' {F : Nat} (hF : 20 < F) {key : List UInt8} (hk : key.length = 32) (v : Vector UInt32 16) : iter (fun s => L16_1 F key s.1 s.2) F ((0 : Int), v) = some ((8 : Int), upto (put key 4) 8 v) :=
  (iter_count (body := fun s => L16_1 F key s.1 s.2) (n := 8) (g := put key 4) (fun _ _ => True) (fun i hi s _ => ⟨by
    show L16_1 F key (i : Int) s = _
    unfold L16_1
    have e1 : w64 ((4 : Int) + (i : Int)) = ((4 + i : Nat) : Int) := by rw [w64_in (by omega) (by omega)]; omega
    rw [show decide ((i : Int) < 8) = true from by simp; omega, e1, t25_ok (by omega) (by omega), inb_nat (show 4 + i < 16 by omega), w64_s1 (by omega)]
    rfl, trivial⟩) (fun s _ => rfl) (by omega) trivial).1
theorem it2 {F : Nat} (hF : 20 < F) {key : List UInt8} (hk : key.length = 12) (v : Vector UInt32 16) : iter (fun s => L15_2 F key s.1 s.2) F ((0 : Int), v) = some ((3 : Int), upto (put key 13) 3 v) :=
  (iter_count (body := fun s => L15_2 F key s.1 s.2) (n := 3) (g := put key 13) (fun _ _ => True) (fun i hi s _ => ⟨by
    show L15_2 F key (i : Int) s = _
    unfold L15_2
    have e0 : w64 ((4 : Int) * (i : Int)) = ((4 * i : Nat) : Int) := by rw [w64_in (by omega) (by omega)]; omega
    have e1 : w64 ((13 : Int) + (i : Int)) = ((13 + i : Nat) : Int) := by rw [w64_in (by omega) (by omega)]; omega
    rw [show decide ((i : Int) < 3) = true from by simp; omega, e0, e1, t24_ok (by omega) (by omega), inb_nat (show 13 + i < 16 by omega), w64_s1 (by omega)]
    rfl, trivial⟩) (fun s _ => rfl) (by omega) trivial).1
theorem it2' {F : Nat} (hF : 20 < F) {key : List UInt8} (hk : key.length = 12) (v : Vector UInt32 16) : iter (fun s => L16_2 F key s.1 s.2) F ((0 : Int), v) = some ((3 : Int), upto (put key 13) 3 v) :=
  (iter_count (body := fun s => L16_2 F key s.1 s.2) (n := 3) (g := put key 13) (fun _ _ => True) (fun i hi s _ => ⟨by
    show L16_2 F key (i : Int) s = _
    unfold L16_2
    have e1 : w64 ((13 : Int) + (i : Int)) = ((13 + i : Nat) : Int) := by rw [w64_in (by omega) (by omega)]; omega
    rw [show decide ((i : Int) < 3) = true from by simp; omega, e1, t25_ok (by omega) (by omega), inb_nat (show 13 + i < 16 by omega), w64_s1 (by omega)]
    rfl, trivial⟩) (fun s _ => rfl) (by omega) trivial).1

theorem vix_nat {v : Vector UInt32 16} {i : Nat} (h : i < 16) : vix v (i : Int) = some ((v[i]?).getD 0) := by
  unfold vix; rw [if_pos (by omega)]; simp [h]
theorem vgetD {v : Vector UInt32 16} {i : Nat} (h : i < 16) : v[i]? = some ((v[i]?).getD 0) := by simp [h]
theorem gapp4 {o : List UInt8} {x : UInt32} (h : o.length ≤ 1000) : gapp o (le4 x) = some (o ++ le4 x) := by
  unfold gapp; rw [if_pos (by simp [le4]; omega)]

theorem it5 {F : Nat} (hF : 20 < F) (v0 v1 : Vector UInt32 16) : iter (fun s => L15_5 F v0 v1 s.1 s.2) F ((0 : Int), ([] : List UInt8)) = some ((16 : Int), upto (outS v0 v1) 16 []) ∧ (upto (outS v0 v1) 16 []).length = 64 :=
  iter_count (body := fun s => L15_5 F v0 v1 s.1 s.2) (n := 16) (g := outS v0 v1) (fun i s => s.length = 4 * i) (fun i hi s hs => ⟨by
    show L15_5 F v0 v1 (i : Int) s = _
    unfold L15_5
    rw [show decide ((i : Int) < 16) = true from by simp; omega, vix_nat hi, inb_nat hi, w64_s1 (by omega)]
    simp only [cond_true, Option.bind_some]
    rw [vgetD hi]
    simp only [Option.bind_some]
    have := gapp4 (o := s) (x := (v1[i]?).getD 0 + (v0[i]?).getD 0) (by omega)
    unfold le4 at this
    rw [this]
    rfl, by simp [outS, le4, hs]; omega⟩) (fun s _ => rfl) (by omega) (by simp)
theorem it5' {F : Nat} (hF : 20 < F) (v0 v1 : Vector UInt32 16) : iter (fun s => L16_5 F v0 v1 s.1 s.2) F ((0 : Int), ([] : List UInt8)) = some ((16 : Int), upto (outS v0 v1) 16 []) :=
  (iter_count (body := fun s => L16_5 F v0 v1 s.1 s.2) (n := 16) (g := outS v0 v1) (fun i s => s.length = 4 * i) (fun i hi s hs => ⟨by
    show L16_5 F v0 v1 (i : Int) s = _
    unfold L16_5
    rw [show decide ((i : Int) < 16) = true from by simp; omega, inb_nat hi, w64_s1 (by omega)]
    simp only [cond_true, Option.bind_some]
    rw [vgetD (v := v1) hi, vgetD (v := v0) hi]
    simp only [Option.bind_some]
    have := gapp4 (o := s) (x := (v1[i]?).getD 0 + (v0[i]?).getD 0) (by omega)
    unfold le4 at this
    rw [this]
    rfl, by simp [outS, le4, hs]; omega⟩) (fun s _ => rfl) (by omega) (by simp)).1

theorem blk_len (key nonce : List UInt8) (c : UInt32) : (blk key nonce c).length = 64 := (it5 (F := 100) (by decide) _ _).2

theorem t23_eq (F : Nat) (key nonce : List UInt8) : T23 F key nonce = some (decide (key.length = 32 ∧ nonce.length = 12)) := by
  unfold T23
  by_cases h1 : key.length = 32
  · have : ((key.length : Int) == 32) = true := by simp; omega
    rw [this]
    by_cases h2 : nonce.length = 12
    · have : ((nonce.length : Int) == 12) = true := by simp; omega
      simp [this, h1, h2]
    · have : ((nonce.length : Int) == 12) = false := by simp; omega
      simp [this, h2]
  · have : ((key.length : Int) == 32) = false := by simp; omega
    simp [this, h1]

theorem t15_ok {F : Nat} (hF : 20 < F) {key nonce : List UInt8} (hk : key.length = 32) (hn : nonce.length = 12) (c : UInt32) : T15 F key nonce c = some (blk key nonce c, 0) := by
  unfold T15
  rw [t23_eq]
  simp only [hk, hn, and_self, decide_true, Option.bind_some, Bool.not_true, cond_false]
  have h1 := it1 hF hk consts
  unfold consts at h1
  rw [h1]
  simp only [bind2, Option.bind_some]
  rw [it2 hF hn]
  simp only [Option.bind_some]
  rw [it3 hF]
  simp only [Option.bind_some]
  rw [show gmake (0 : UInt8) 0 64 = some [] from rfl]
  simp only [Option.bind_some]
  have h5 := (it5 hF (start0 key nonce c) (upto dr 10 (start0 key nonce c))).1
  unfold start0 consts at h5
  rw [h5]
  rfl

theorem t15_bad {F : Nat} {key nonce : List UInt8} (h : ¬ (key.length = 32 ∧ nonce.length = 12)) (c : UInt32) : T15 F key nonce c = some ([], 1) := by
  unfold T15
  rw [t23_eq]
  simp [h]

theorem t16_bad {F : Nat} {key nonce : List UInt8} (h : ¬ (key.length = 32 ∧ nonce.length = 12)) (c : UInt32) : T16 F key nonce c = some ([], 1) := by
  unfold T16
  by_cases h1 : key.length = 32
  · have h2 : ¬ nonce.length = 12 := fun e => h ⟨h1, e⟩
    have e1 : ((key.length : Int) != 32) = false := by simp; omega
    have e2 : ((nonce.length : Int) != 12) = true := by simp; omega
    rw [e1, e2]; rfl
  · have e1 : ((key.length : Int) != 32) = true := by simp; omega
    rw [e1]; rfl

theorem t16_ok {F : Nat} (hF : 20 < F) {key nonce : List UInt8} (hk : key.length = 32) (hn : nonce.length = 12) (c : UInt32) : T16 F key nonce c = some (blk key nonce c, 0) := by
  unfold T16
  have e1 : ((key.length : Int) != 32) = false := by simp; omega
  have e2 : ((nonce.length : Int) != 12) = false := by simp; omega
  rw [e1, e2]
  simp only [Option.bind_some, cond_false]
  have h1 := it1' hF hk consts
  unfold consts at h1
  rw [h1]
  simp only [bind2, Option.bind_some]
  rw [it2' hF hn]
  simp only [Option.bind_some]
  rw [it3' hF]
  simp only [Option.bind_some]
  have h5 := it5' hF (start0 key nonce c) (upto dr 10 (start0 key nonce c))
  unfold start0 consts at h5
  rw [h5]
  rfl

theorem t15_t16 {F : Nat} (hF : 20 < F) (key nonce : List UInt8) (c : UInt32) : ∃ x e, T15 F key nonce c = some (x, e) ∧ T16 F key nonce c = some (x, e) := by
  by_cases h : key.length = 32 ∧ nonce.length = 12
  · exact ⟨_, _, t15_ok hF h.1 h.2 c, t16_ok hF h.1 h.2 c⟩
  · exact ⟨_, _, t15_bad h c, t16_bad h c⟩

theorem law5 (key nonce : List UInt8) (c : UInt32) (_ : key.length ≤ maxLen) (_ : nonce.length ≤ maxLen) : T5 1000 key nonce c = some true := by
  unfold T5
  rw [awake_ok]
  obtain ⟨x, e, h1, h2⟩ := t15_t16 (F := 1000) (by decide) key nonce c
  rw [h1, h2]
  simp only [Option.bind_some, Bool.not_true, cond_false, bind2]
  cases decide ((100 : Int) < (key.length : Int)) <;> cases decide ((100 : Int) < (nonce.length : Int)) <;> simp
end Go.Proofs.Ytoglnkhchifeiaa
