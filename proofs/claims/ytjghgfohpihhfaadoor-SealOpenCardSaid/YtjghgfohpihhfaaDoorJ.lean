/- From what a row hands over to what a walk takes, and back. Loops in plain form. No program is in it. -/
import Derived.OpenShut
import Derived.WalkKit
import Derived.ProofKit
import Derived.ShutString
import Derived.ChangeOld
import Derived.Lib.LaidTab
import Derived.Test.YtjghgfohpihhfaaDoorRows
import Derived.Stop.LaidErr
import Derived.Test.YtjghgfohpihhfaaDoorH2
namespace Go.Tw
set_option linter.unusedSimpArgs false
set_option linter.unusedVariables false
open Go.RowKit

/-- A slice of integers that came in. -/
def IsRow (k : IntKind) (w : World) (a : Option Addr) (len cap : Nat) (zs : List Int) : Prop :=
  (a = none ∧ len = 0 ∧ cap = 0 ∧ zs = []) ∨
  ∃ x, a = some x ∧ len ≤ cap ∧ cap ≤ maxLen ∧ zs.length = cap ∧ (∀ i, i < zs.length → w.cell? (x.add i) = some (.int k (zs.getD i 0))) ∧ ∀ n ∈ zs, (Lit.int k n).wf = true

theorem of_u8 {a : Int} (h : (Lit.int .u8 a).wf = true) : ∃ x : UInt8, a = (x.toNat : Int) := by
  simp [Lit.wf, IntKind.min, IntKind.max, IntKind.signed, IntKind.bits] at h
  exact ⟨UInt8.ofNat a.toNat, by simp; omega⟩
theorem of_i64 {a : Int} (h : (Lit.int .i64 a).wf = true) : -9223372036854775808 ≤ a ∧ a ≤ 9223372036854775807 := by
  simpa [Lit.wf, IntKind.min, IntKind.max, IntKind.signed, IntKind.bits] using h
theorem of_bytes {w : World} {a : Option Addr} {len cap : Nat} {zs : List Int} (h : IsRow .u8 w a len cap zs) : ∃ xs : List UInt8, xs.length = len ∧ TRd w vU8 (.slice a len cap) xs := by
  rcases h with ⟨rfl, rfl, rfl, rfl⟩ | ⟨x, rfl, hl, hm, hz, hc, hw⟩
  · exact ⟨[], rfl, rfl, .inl ⟨rfl, _, _, rfl⟩⟩
  · have key : ∀ n ∈ zs, n = ((UInt8.ofNat n.toNat).toNat : Int) := fun n hn => by
      obtain ⟨y, hy⟩ := of_u8 (hw n hn)
      subst hy; simp
    refine ⟨(zs.take len).map fun n => UInt8.ofNat n.toNat, by simp; omega, ?_⟩
    have hlen : ((zs.take len).map fun n => UInt8.ofNat n.toNat).length = len := by simp; omega
    refine ⟨by simp, ?_⟩
    rw [hlen]
    by_cases h0 : len = 0
    · subst h0; exact .inl ⟨rfl, _, _, rfl⟩
    · obtain ⟨b, off, sp⟩ := x
      have hc0 := hc 0 (by omega)
      have hadd0 : (⟨b, off, sp⟩ : Addr).add 0 = ⟨b, off, sp⟩ := by simp [Addr.add]
      rw [hadd0] at hc0
      unfold World.cell? at hc0
      split at hc0
      · rename_i all ty fz hb
        split at hc0
        · cases hc0
        · rename_i hsp
          have hsp' : sp = none := by simpa using hsp
          subst hsp'
          refine .inr ⟨b, off, cap, all, ty, fz, rfl, hl, hb, fun j c hj => ?_⟩
          have hjl : j < len := by have := (List.getElem?_eq_some_iff.1 hj).1; simp at this; omega
          have hj2 := hc j (by omega)
          rw [add_zero _ rfl] at hj2
          simp only [World.cell?, hb] at hj2
          simp only [Option.isSome_none, Bool.false_eq_true, if_false] at hj2
          rw [hj2]
          have hzj : zs[j]? = some (zs.getD j 0) := by simp [List.getD, show j < zs.length by omega]
          have hmem : zs.getD j 0 ∈ zs := List.mem_of_getElem? hzj
          rw [List.map_map, List.getElem?_map, List.getElem?_take, if_pos hjl, hzj] at hj
          simp only [Option.map_some, Function.comp, Option.some.injEq] at hj
          rw [← hj]
          exact congrArg some (congrArg (Value.int .u8) (key _ hmem))
      · cases hc0

/- ## loops -/
end Go.Tw
/- From a statement's own start to the contracts. No program is in it. -/
namespace Go.Tw
set_option linter.unusedSimpArgs false
set_option linter.unusedVariables false
open Go.RowKit

/-- At the start nobody changes what there is. -/
def ownAll (w : World) : Own := fun b => match w.heap[b]? with
  | some (.cells a _ _) => .im a.toList
  | _ => .no

theorem ownAll_of {w : World} {b : Nat} {a : Array Value} {ty : TypeId} {fz : Nat × Nat} (h : w.heap[b]? = some (.cells a ty fz)) : ownAll w b = .im a.toList := by simp [ownAll, h]

theorem gm_start (w : World) : Gm (ownAll w) [] [] w := by
  refine ⟨fun b all h => ?_, fun b h => ?_, rfl, fun id x h => by simp at h⟩
  · unfold ownAll at h
    split at h
    · rename_i a ty fz hb; cases h; exact ⟨ty, fz, by simpa using hb⟩
    · cases h
  · unfold ownAll
    rw [Array.getElem?_eq_none h]

theorem LR_map {α : Type} {R : α → List Value → Prop} {g : α → Value} (h : ∀ x, R x [g x]) : ∀ xs : List α, LR R xs (xs.map g)
  | [] => rfl
  | x :: xs => ⟨[g x], xs.map g, rfl, h x, LR_map h xs⟩

/-- A table that is laid. -/
theorem go_u32 {P : Program} {w : World} {name : String} {n g : Nat} {xs : Vector UInt32 n} {zs : List Int} (hg : P.globalNamed name = some g) (h : Lib.TabIs P w name .u32 zs) (hz : (zs.map fun z => Value.int .u32 z) = xs.toList.map vU32) : ∃ cs, TR (ownAll w) (.ar n .u32) xs cs ∧ ImAt (ownAll w) g 0 cs := by
  refine ⟨xs.toList.map vU32, LR_map (R := TR (ownAll w) .u32) (g := vU32) (fun x => rfl) xs.toList, ?_⟩
  simp only [Lib.TabIs, World.var?, hg, Option.bind_some] at h
  split at h
  · rename_i c t fz hb
    simp only [Option.some.injEq] at h
    subst h
    refine ⟨_, ownAll_of hb, fun j c hj => ?_⟩
    simp only [List.toList_toArray, Nat.zero_add, hz]; exact hj
  · cases h
theorem go_u8 {P : Program} {w : World} {name : String} {n g : Nat} {xs : Vector UInt8 n} {zs : List Int} (hg : P.globalNamed name = some g) (h : Lib.TabIs P w name .u8 zs) (hz : (zs.map fun z => Value.int .u8 z) = xs.toList.map vU8) : ∃ cs, TR (ownAll w) (.ar n .u8) xs cs ∧ ImAt (ownAll w) g 0 cs := by
  refine ⟨xs.toList.map vU8, LR_map (R := TR (ownAll w) .u8) (g := vU8) (fun x => rfl) xs.toList, ?_⟩
  simp only [Lib.TabIs, World.var?, hg, Option.bind_some] at h
  split at h
  · rename_i c t fz hb
    simp only [Option.some.injEq] at h
    subst h
    refine ⟨_, ownAll_of hb, fun j c hj => ?_⟩
    simp only [List.toList_toArray, Nat.zero_add, hz]; exact hj
  · cases h

/-- A law's call, out of its contract. -/
theorem law_ok {P : Program} {c : Cfg} {f : FuncId} {A : List Sh} {t : dens A → tdens [] → Option Bool} {w : World} {cs : List (List Value)} {args : Array Value} (hS : Sound P c f (mkC 0 A [] [.bo] [] t (fun x y z => ((z, ()), ())))) (x : dens A) (ht : t x () = some true) (hG : GO c (ownAll w)) (hR : RL (ownAll w) [] (encs A x) cs) (hv : (vals (encs A x) cs).toArray = args) :
    Calls P f args w (fun e w' => e = .returned (.bool true) ∧ Below w.heap.size w w') := by
  have := hS x () (true, ()) () (by show (t x ()).bind _ = _; rw [ht]; rfl) (ownAll w) [] w cs hG (gm_start w) hR
  have hv' : (vals (encs (mkC 0 A [] [.bo] [] t (fun x y z => ((z, ()), ()))).A x) cs).toArray = args := hv
  rw [hv'] at this
  have this : Calls P f args w (Ret _) := this
  refine this.mono fun e w' he => ?_
  cases e with
  | returned v =>
    obtain ⟨O', ρ', ds, h1, h2, h3, rfl⟩ := he
    obtain ⟨c0, r, rfl, ⟨h4, _⟩, h5⟩ := h3
    simp only [RL] at h5
    subst h5
    cases h4
    refine ⟨rfl, Kept.below (h2.kept.wide (fun b ⟨id, _, hb⟩ => ?_))⟩
    unfold ownAll at hb
    split at hb <;> cases hb
  | panicked _ => exact he.elim
  | outgrown => exact he.elim

theorem RL_nil {O : Own} {ρ : List Hd} : RL O ρ [] [] := rfl
theorem RL_i {O : Own} {ρ : List Hd} {n : Int} {vs : List IV} {cs : List (List Value)} (h : RL O ρ vs cs) : RL O ρ (.o (.i n) :: vs) ([vI n] :: cs) := ⟨_, _, rfl, ⟨rfl, rfl⟩, h⟩
theorem RL_u8 {O : Own} {ρ : List Hd} {n : UInt8} {vs : List IV} {cs : List (List Value)} (h : RL O ρ vs cs) : RL O ρ (.o (.u8 n) :: vs) ([vU8 n] :: cs) := ⟨_, _, rfl, ⟨rfl, rfl⟩, h⟩
theorem RL_s {O : Own} {ρ : List Hd} {n : List UInt8} {vs : List IV} {cs : List (List Value)} (h : RL O ρ vs cs) : RL O ρ (.o (.s n) :: vs) ([vS n] :: cs) := ⟨_, _, rfl, ⟨rfl, rfl⟩, h⟩
theorem RL_ro {O : Own} {ρ : List Hd} {t : Ty} {xs : List t.den} {v : Value} {vs : List IV} {cs : List (List Value)} (hx : TR O (.sl t) xs [v]) (h : RL O ρ vs cs) : RL O ρ (.ro t xs :: vs) ([v] :: cs) := ⟨_, _, rfl, hx, h⟩

/- ## parameters -/
open Go.ChangeShapes
theorem of_str3 {a : ByteArray} (h : a.size ≤ maxLen) : ∃ l : List UInt8, a = ⟨l.toArray⟩ ∧ l.length ≤ maxLen := ⟨a.data.toList, by cases a; simp, h⟩

theorem LR_by (O : Own) (xs : List UInt8) : LR (TR O .u8) xs (xs.map vU8) := LR_map (R := TR O .u8) (g := vU8) (fun x => rfl) xs

/-- Bytes that came in. -/
theorem open_bytes3 {H : Type} {enc : TypeId × Value → H} {P : Program} {w : World} {base : Nat} {held : Bool} {t e : TypeId} {u : Option Addr} {len cap : Nat} {d : DataW H} {ps : List MemPlace} (ht : P.underlying t = some (.slice e)) (he : P.underlying e = some (.int .u8)) (hc : P.cellsOf e = 1) (h : DataW.Trod enc P w base (fun _ => true) held t (.slice u len cap) d ps) :
    ∃ xs : List UInt8, xs.length ≤ maxLen ∧ TR (ownAll w) (.sl .u8) xs [.slice u len cap] := by
  have row : ∃ zs, IsRow .u8 w u len cap zs := by
    obtain ⟨fuel, hf⟩ := h
    rcases open_ints ht he hc hf with ⟨hcs, _⟩ | ⟨x, l, c, zs, hcs, _, hl, hm, hz, _, hcell, hwz⟩
    · simp [Value.cells] at hcs
      obtain ⟨rfl, rfl, rfl⟩ := hcs
      exact ⟨[], .inl ⟨rfl, rfl, rfl, rfl⟩⟩
    · simp [Value.cells] at hcs
      obtain ⟨rfl, rfl, rfl⟩ := hcs
      exact ⟨zs, .inr ⟨_, rfl, hl, hm, by simpa using hz, hcell, hwz⟩⟩
  obtain ⟨zs, hr⟩ := row
  have hcap : len ≤ maxLen := by
    rcases hr with ⟨_, rfl, _⟩ | ⟨x, _, h1, h2, _⟩
    · exact Nat.zero_le _
    · omega
  obtain ⟨xs, hl, h1, h2⟩ := of_bytes hr
  refine ⟨xs, by omega, _, xs.map vU8, rfl, LR_by _ xs, ?_⟩
  rcases h2 with ⟨h0, b, c, hv⟩ | ⟨b, off, c, all, ty, fz, hv, hle, hb, hcells⟩
  · exact .inl ⟨h0, b, c, hv⟩
  · exact .inr ⟨b, off, c, hv, hle, _, ownAll_of hb, fun j c hj => by simpa using hcells j c hj⟩

def stD : List Bool → Type
  | [] => Unit
  | true :: r => Int × stD r
  | false :: r => List UInt8 × stD r
def stV : (ks : List Bool) → stD ks → List Value
  | [], _ => []
  | true :: r, x => vI x.1 :: stV r x.2
  | false :: r, x => vS x.1 :: stV r x.2
def stW : (ks : List Bool) → stD ks → Prop
  | [], _ => True
  | true :: r, x => (-9223372036854775808 ≤ x.1 ∧ x.1 ≤ 9223372036854775807) ∧ stW r x.2
  | false :: r, x => x.1.length ≤ maxLen ∧ stW r x.2
def stK (P : Program) : List Field → Nat → List Bool → Bool
  | [], _, [] => true
  | f :: fs, n, k :: ks => f.offset == n && P.cellsOf f.type == 1 && (match P.underlying f.type, k with
    | some (.int .i64), true => true
    | some .string, false => true
    | _, _ => false) && stK P fs (n + 1) ks
  | _, _, _ => false
def stChk (P : Program) (t : TypeId) (fs : Array Field) (ks : List Bool) : Bool := P.cellsOf t == ks.length && stK P fs.toList 0 ks

theorem st_cells {H : Type} {enc : TypeId × Value → H} {P : Program} {w : World} {base m : Nat} {sp : Nat → Bool} {held : Bool} : ∀ (fs : List Field) (ks : List Bool) (n : Nat) (cs : List Value), stK P fs n ks = true → cs.length = n + ks.length →
    (∀ f ∈ fs, ∃ x, DataW.trod enc P w base sp held m f.type ((cs.drop f.offset).take (P.cellsOf f.type)) = some x) → ∃ y : stD ks, cs.drop n = stV ks y ∧ stW ks y
  | [], [], n, cs, _, hl, _ => ⟨(), by simp [stV, hl], trivial⟩
  | [], _ :: _, n, cs, h, _, _ => by simp [stK] at h
  | _ :: _, [], n, cs, h, _, _ => by simp [stK] at h
  | f :: fs, k :: ks, n, cs, h, hl, hx => by
    simp only [stK, Bool.and_eq_true, beq_iff_eq] at h
    obtain ⟨⟨⟨h1, h2⟩, h3⟩, h4⟩ := h
    obtain ⟨y, hy, hw⟩ := st_cells fs ks (n + 1) cs h4 (by simp at hl; omega) (fun f hf => hx f (List.mem_cons_of_mem _ hf))
    obtain ⟨x, hx⟩ := hx f (List.mem_cons_self ..)
    rw [h1, h2] at hx
    have hlt : n < cs.length := by simp at hl; omega
    have hd : cs.drop n = cs[n] :: cs.drop (n + 1) := List.drop_eq_getElem_cons hlt
    rw [hd, List.take_succ_cons, List.take_zero] at hx
    split at h3 <;> first | (cases h3; done) | skip
    · rename_i hu
      obtain ⟨z, hz, _, hwf⟩ := DataW.trod_int hu hx
      simp only [List.cons.injEq, and_true] at hz
      refine ⟨(z, y), ?_, of_i64 hwf, hw⟩
      rw [hd, hy, hz]; rfl
    · rename_i hu
      obtain ⟨z, hz, _, hs⟩ := DataW.trod_string hu hx
      simp only [List.cons.injEq, and_true] at hz
      obtain ⟨l, rfl, hl2⟩ := of_str3 hs
      refine ⟨(l, y), ?_, hl2, hw⟩
      rw [hd, hy, hz]; rfl

/-- A struct of ints and strings that came in. -/
theorem open_st3 {H : Type} {enc : TypeId × Value → H} {P : Program} {w : World} {base b0 : Nat} {r : Reach} {sp : Nat → Bool} {held : Bool} {t : TypeId} {fs : Array Field} {v : Value} {d : DataW H} {ps : List MemPlace} (ht : P.underlying t = some (.struct fs)) (ks : List Bool) (hk : stChk P t fs ks = true) (hval : Value.okWide P w r b0 t v) (h : DataW.Trod enc P w base sp held t v d ps) :
    ∃ y : stD ks, v = .agg (stV ks y).toArray ∧ stW ks y := by
  simp only [stChk, Bool.and_eq_true, beq_iff_eq] at hk
  obtain ⟨cs, rfl, hsz⟩ := WideShapes.okWide_struct ht hval
  obtain ⟨fuel, hf⟩ := h
  obtain ⟨xs, n, _, _, hl, hlen, hx⟩ := DataW.trod_struct ht hf
  simp only [Value.cells] at hx hl
  obtain ⟨y, h1, h2⟩ := st_cells (enc := enc) (w := w) (base := base) (sp := sp) (held := held) (m := n) fs.toList ks 0 cs.toList hk.2 (by simp [hsz, hk.1]) (fun f hf => by
    obtain ⟨i, hi, rfl⟩ := List.mem_iff_getElem.1 hf
    have hi' : i < fs.size := by simpa using hi
    have := hx i fs[i] (by simp [hi'])
    refine ⟨xs[i]'(by omega), ?_⟩
    simp only [Array.getElem_toList]
    rw [this]; simp)
  refine ⟨y, ?_, h2⟩
  rw [← h1]; simp

theorem RC_nil {O : Own} {ρ : List Hd} : R O ρ false .un [] := rfl
theorem RC_i {O : Own} {ρ : List Hd} {n : Int} {v : IV} {cs : List Value} (h : R O ρ false v cs) : R O ρ false (.pr (.o (.i n)) v) (vI n :: cs) := ⟨[vI n], cs, rfl, ⟨rfl, rfl⟩, h⟩
theorem RC_s {O : Own} {ρ : List Hd} {n : List UInt8} {v : IV} {cs : List Value} (h : R O ρ false v cs) : R O ρ false (.pr (.o (.s n)) v) (vS n :: cs) := ⟨[vS n], cs, rfl, ⟨rfl, rfl⟩, h⟩
theorem RL_st {O : Own} {ρ : List Hd} {v : IV} {c : List Value} {vs : List IV} {cs : List (List Value)} (hx : R O ρ false v c) (h : RL O ρ vs cs) : RL O ρ (v :: vs) (c :: cs) := ⟨_, _, rfl, hx, h⟩
end Go.Tw
/- The package variables at the start. Printed by a program. -/
namespace Go.Proofs.YtjghgfohpihhfaaDoor
open Go.Tw
set_option maxRecDepth 100000
def laidAll : List (String × DataW Unit) := [("kinkeep/sha256.initial", Lib.tabData .u32 [1779033703, 3144134277, 1013904242, 2773480762, 1359893119, 2600822924, 528734635, 1541459225]), ("kinkeep/sha256.constants", Lib.tabData .u32 [1116352408, 1899447441, 3049323471, 3921009573, 961987163, 1508970993, 2453635748, 2870763221, 3624381080, 310598401, 607225278, 1426881987, 1925078388, 2162078206, 2614888103, 3248222580, 3835390401, 4022224774, 264347078, 604807628, 770255983, 1249150122, 1555081692, 1996064986, 2554220882, 2821834349, 2952996808, 3210313671, 3336571891, 3584528711, 113926993, 338241895, 666307205, 773529912, 1294757372, 1396182291, 1695183700, 1986661051, 2177026350, 2456956037, 2730485921, 2820302411, 3259730800, 3345764771, 3516065817, 3600352804, 4094571909, 275423344, 430227734, 506948616, 659060556, 883997877, 958139571, 1322822218, 1537002063, 1747873779, 1955562222, 2024104815, 2227730452, 2361852424, 2428436474, 2756734187, 3204031479, 3329325298]), ("kinkeep/hmac.pads", Lib.tabData .u8 [54, 92])]
theorem gn1 : Tryd.prog.globalNamed "kinkeep/sha256.initial" = some 1 := by kernel_rfl
theorem tab1 {W : World} (h : laidMet Tryd.prog laidAll W) : Lib.TabIs Tryd.prog W "kinkeep/sha256.initial" .u32 [1779033703, 3144134277, 1013904242, 2773480762, 1359893119, 2600822924, 528734635, 1541459225] :=
  Lib.tabIs_of_head (g := 1) (t := 103) (e := 97) (n := 8) gn1 (by kernel_rfl) Tryd.underlying103 Tryd.underlying97 (by kernel_rfl) (by kernel_rfl) h
theorem gn2 : Tryd.prog.globalNamed "kinkeep/sha256.constants" = some 2 := by kernel_rfl
theorem tab2 {W : World} (h : laidMet Tryd.prog laidAll W) : Lib.TabIs Tryd.prog W "kinkeep/sha256.constants" .u32 [1116352408, 1899447441, 3049323471, 3921009573, 961987163, 1508970993, 2453635748, 2870763221, 3624381080, 310598401, 607225278, 1426881987, 1925078388, 2162078206, 2614888103, 3248222580, 3835390401, 4022224774, 264347078, 604807628, 770255983, 1249150122, 1555081692, 1996064986, 2554220882, 2821834349, 2952996808, 3210313671, 3336571891, 3584528711, 113926993, 338241895, 666307205, 773529912, 1294757372, 1396182291, 1695183700, 1986661051, 2177026350, 2456956037, 2730485921, 2820302411, 3259730800, 3345764771, 3516065817, 3600352804, 4094571909, 275423344, 430227734, 506948616, 659060556, 883997877, 958139571, 1322822218, 1537002063, 1747873779, 1955562222, 2024104815, 2227730452, 2361852424, 2428436474, 2756734187, 3204031479, 3329325298] :=
  Lib.tabIs_of_head (g := 2) (t := 123) (e := 97) (n := 64) gn2 (by kernel_rfl) Tryd.underlying123 Tryd.underlying97 (by kernel_rfl) (by kernel_rfl) (laidMet.tail h)
theorem gn0 : Tryd.prog.globalNamed "kinkeep/hmac.pads" = some 0 := by kernel_rfl
theorem tab0 {W : World} (h : laidMet Tryd.prog laidAll W) : Lib.TabIs Tryd.prog W "kinkeep/hmac.pads" .u8 [54, 92] :=
  Lib.tabIs_of_head (g := 0) (t := 108) (e := 5) (n := 2) gn0 (by kernel_rfl) Tryd.underlying108 Tryd.underlying5 (by kernel_rfl) (by kernel_rfl) (laidMet.tail (laidMet.tail h))
theorem go {W : World} (h : laidMet Tryd.prog laidAll W) : GO cfg (ownAll W) := by
  intro g p hp
  have hp : cG g = some p := hp
  unfold cG at hp
  split at hp <;> first | (cases hp; done) | skip
  · cases hp; exact go_u8 gn0 (tab0 h) (by kernel_rfl)
  · cases hp; exact go_u32 gn1 (tab1 h) (by kernel_rfl)
  · cases hp; exact go_u32 gn2 (tab2 h) (by kernel_rfl)
/-- A world for the witness. -/
noncomputable def laidWorld (os : Os) : World :=
  { World.holding Tryd.prog os ⟨#[], #[], []⟩ with heap := ((((World.holding Tryd.prog os ⟨#[], #[], []⟩).heap.modify 0 fun
      | .cells _ t frozen => .cells #[.int .u8 54, .int .u8 92] t frozen
      | o => o).modify 1 fun
      | .cells _ t frozen => .cells #[.int .u32 1779033703, .int .u32 3144134277, .int .u32 1013904242, .int .u32 2773480762, .int .u32 1359893119, .int .u32 2600822924, .int .u32 528734635, .int .u32 1541459225] t frozen
      | o => o).modify 2 fun
      | .cells _ t frozen => .cells #[.int .u32 1116352408, .int .u32 1899447441, .int .u32 3049323471, .int .u32 3921009573, .int .u32 961987163, .int .u32 1508970993, .int .u32 2453635748, .int .u32 2870763221, .int .u32 3624381080, .int .u32 310598401, .int .u32 607225278, .int .u32 1426881987, .int .u32 1925078388, .int .u32 2162078206, .int .u32 2614888103, .int .u32 3248222580, .int .u32 3835390401, .int .u32 4022224774, .int .u32 264347078, .int .u32 604807628, .int .u32 770255983, .int .u32 1249150122, .int .u32 1555081692, .int .u32 1996064986, .int .u32 2554220882, .int .u32 2821834349, .int .u32 2952996808, .int .u32 3210313671, .int .u32 3336571891, .int .u32 3584528711, .int .u32 113926993, .int .u32 338241895, .int .u32 666307205, .int .u32 773529912, .int .u32 1294757372, .int .u32 1396182291, .int .u32 1695183700, .int .u32 1986661051, .int .u32 2177026350, .int .u32 2456956037, .int .u32 2730485921, .int .u32 2820302411, .int .u32 3259730800, .int .u32 3345764771, .int .u32 3516065817, .int .u32 3600352804, .int .u32 4094571909, .int .u32 275423344, .int .u32 430227734, .int .u32 506948616, .int .u32 659060556, .int .u32 883997877, .int .u32 958139571, .int .u32 1322822218, .int .u32 1537002063, .int .u32 1747873779, .int .u32 1955562222, .int .u32 2024104815, .int .u32 2227730452, .int .u32 2361852424, .int .u32 2428436474, .int .u32 2756734187, .int .u32 3204031479, .int .u32 3329325298] t frozen
      | o => o) }
end Go.Proofs.YtjghgfohpihhfaaDoor
