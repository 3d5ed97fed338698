/- From what a row hands over to what a walk takes, and back. Loops in plain form. No program is in it. -/
import Derived.OpenShut
import Derived.WalkKit
import Derived.ProofKit
import Derived.ShutString
import Derived.ChangeOld
import Derived.Lib.LaidTab
import Derived.Test.YtdfmjgbnbfncmaaDoorRows
import Derived.Lib.ItoaNum
import Derived.Stop.LaidErr
import Derived.ShapedOpen
import Derived.Test.YtdfmjgbnbfncmaaDoorH1
namespace Go.Tw
set_option linter.unusedSimpArgs false
set_option linter.unusedVariables false
open Go.RowKit

theorem of_i64 {a : Int} (h : (Lit.int .i64 a).wf = true) : -9223372036854775808 ≤ a ∧ a ≤ 9223372036854775807 := by
  simpa [Lit.wf, IntKind.min, IntKind.max, IntKind.signed, IntKind.bits] using h
/- ## loops -/
end Go.Tw
/- From a statement's own start to the contracts. No program is in it. -/
namespace Go.Tw
set_option linter.unusedSimpArgs false
set_option linter.unusedVariables false
open Go.RowKit

/-- At the start nobody changes what there is. -/
def ownAll (w : World) : Own := fun b => match w.heap[b]? with
  | some (.cells a _ _) => .im a.toList
  | _ => .no

theorem ownAll_of {w : World} {b : Nat} {a : Array Value} {ty : TypeId} {fz : Nat × Nat} (h : w.heap[b]? = some (.cells a ty fz)) : ownAll w b = .im a.toList := by simp [ownAll, h]

theorem gm_start (w : World) : Gm (ownAll w) [] [] w := by
  refine ⟨fun b all h => ?_, fun b h => ?_, rfl, fun id x h => by simp at h⟩
  · unfold ownAll at h
    split at h
    · rename_i a ty fz hb; cases h; exact ⟨ty, fz, by simpa using hb⟩
    · cases h
  · unfold ownAll
    rw [Array.getElem?_eq_none h]

theorem LR_map {α : Type} {R : α → List Value → Prop} {g : α → Value} (h : ∀ x, R x [g x]) : ∀ xs : List α, LR R xs (xs.map g)
  | [] => rfl
  | x :: xs => ⟨[g x], xs.map g, rfl, h x, LR_map h xs⟩

theorem go_u64 {P : Program} {w : World} {name : String} {n g : Nat} {xs : Vector UInt64 n} {zs : List Int} (hg : P.globalNamed name = some g) (h : Lib.TabIs P w name .u64 zs) (hz : (zs.map fun z => Value.int .u64 z) = xs.toList.map vU64) : ∃ cs, TR (ownAll w) (.ar n .u64) xs cs ∧ ownAll w g = .im cs := by
  refine ⟨xs.toList.map vU64, LR_map (R := TR (ownAll w) .u64) (g := vU64) (fun x => rfl) xs.toList, ?_⟩
  simp only [Lib.TabIs, World.var?, hg, Option.bind_some] at h
  split at h
  · rename_i c t fz hb
    simp only [Option.some.injEq] at h
    subst h
    rw [ownAll_of hb, List.toList_toArray, hz]
  · cases h

/-- A law's call, out of its contract. -/
theorem law_ok {P : Program} {c : Cfg} {f : FuncId} {A : List Sh} {t : dens A → tdens [] → Option Bool} {w : World} {cs : List (List Value)} {args : Array Value} (hS : Sound P c f (mkC 0 A [] [.bo] [] t (fun x y z => ((z, ()), ())))) (x : dens A) (ht : t x () = some true) (hG : GO c (ownAll w)) (hR : RL (ownAll w) [] (encs A x) cs) (hv : (vals (encs A x) cs).toArray = args) :
    Calls P f args w (fun e w' => e = .returned (.bool true) ∧ Below w.heap.size w w') := by
  have := hS x () (true, ()) () (by show (t x ()).bind _ = _; rw [ht]; rfl) (ownAll w) [] w cs hG (gm_start w) hR
  have hv' : (vals (encs (mkC 0 A [] [.bo] [] t (fun x y z => ((z, ()), ()))).A x) cs).toArray = args := hv
  rw [hv'] at this
  have this : Calls P f args w (Ret _) := this
  refine this.mono fun e w' he => ?_
  cases e with
  | returned v =>
    obtain ⟨O', ρ', ds, h1, h2, h3, rfl⟩ := he
    obtain ⟨c0, r, rfl, ⟨h4, _⟩, h5⟩ := h3
    simp only [RL] at h5
    subst h5
    cases h4
    refine ⟨rfl, Kept.below (h2.kept.wide (fun b ⟨id, _, hb⟩ => ?_))⟩
    unfold ownAll at hb
    split at hb <;> cases hb
  | panicked _ => exact he.elim
  | outgrown => exact he.elim

theorem RL_nil {O : Own} {ρ : List Hd} : RL O ρ [] [] := rfl
theorem RL_i {O : Own} {ρ : List Hd} {n : Int} {vs : List IV} {cs : List (List Value)} (h : RL O ρ vs cs) : RL O ρ (.o (.i n) :: vs) ([vI n] :: cs) := ⟨_, _, rfl, ⟨rfl, rfl⟩, h⟩
/- ## parameters -/
open Go.ChangeShapes
end Go.Tw
/- The package variables at the start. Printed by a program. -/
namespace Go.Proofs.YtdfmjgbnbfncmaaDoor
open Go.Tw
set_option maxRecDepth 100000
def laidAll : List (String × DataW Unit) := Rows.calendarLengthsRow.laid
theorem gn1 : Tryd.prog.globalNamed "internal/strconv.uint64pow10" = some 1 := by kernel_rfl
theorem tab1 {W : World} (h : laidMet Tryd.prog laidAll W) : Lib.TabIs Tryd.prog W "internal/strconv.uint64pow10" .u64 Lib.pow10Tab :=
  Lib.tabIs_of_head (g := 1) (t := 90) (e := 73) (n := 20) gn1 (by kernel_rfl) Tryd.underlying90 Tryd.underlying73 (by kernel_rfl) (by kernel_rfl) (laidMet.tail (laidMet.tail h))
theorem int_of_shape {P : Program} {w : World} {g : Nat} {t : TypeId} {zero : Array Value} (h : w.ShapedOpen P) (hg : g < P.globals.size)
    (h0 : ((begin P (fun _ _ => 0) default).world.heap[g]?).bind Obj.row? = some (zero, t)) (hz : zero.size = 1)
    (hb : P.buildable t = true) (hc : P.cellTypes P.depth t = some [t]) (hu : P.underlying t = some (.int .i64)) : ∃ m rest, ownAll w g = .im (vI m :: rest) := by
  obtain ⟨cs, hh, hs, hr⟩ := h.1 g zero t hg h0
  obtain ⟨ts, hts, _, hall⟩ := hr hb
  rw [hc] at hts
  cases hts
  have h1 : 0 < cs.size := by omega
  obtain ⟨u, hu', hok⟩ := hall 0 cs[0] (by simp [h1])
  have : u = t := by simpa using hu'.symm
  subst this
  unfold Cell.ok at hok
  rw [hu] at hok
  have hl : cs.toList = [cs[0]] := by
    obtain ⟨l⟩ := cs
    match l, hs, h1 with
    | [x], _, _ => rfl
    | [], _, h1 => simp at h1
    | x :: y :: r, hs, _ => simp at hs; omega
  have ho : ownAll w g = .im cs.toList := by
    unfold ownAll
    rw [hh]
  rw [ho, hl]
  cases hv : cs[0] <;> rw [hv] at hok <;> first | (simp at hok; done) | skip
  rename_i k m
  obtain rfl : k = .i64 := by simp_all
  exact ⟨m, [], rfl⟩
theorem go {W : World} (h : laidMet Tryd.prog laidAll W) (hs : W.ShapedOpen Tryd.prog) : GO cfg (ownAll W) := by
  refine ⟨?_, ?_⟩
  · intro g p hp
    have hp : cG g = some p := hp
    unfold cG at hp
    split at hp <;> first | (cases hp; done) | skip
    cases hp
    exact go_u64 gn1 (tab1 h) (by kernel_rfl)
  · intro g hg
    have hg : cV g = true := hg
    unfold cV at hg
    split at hg <;> first | (cases hg; done) | skip
    exact int_of_shape (t := 3) (zero := #[.int .i64 0]) hs (of_decide_eq_true (by kernel_rfl)) (by kernel_rfl) rfl (by kernel_rfl) (by kernel_rfl) Tryd.underlying3
/-- A world for the witness. -/
noncomputable def laidWorld (os : Os) : World :=
  { World.holding Tryd.prog os ⟨#[], #[], []⟩ with heap := ((((((World.holding Tryd.prog os ⟨#[], #[], []⟩).heap.modify 1 fun
      | .cells _ t frozen => .cells #[.int .u64 1, .int .u64 10, .int .u64 100, .int .u64 1000, .int .u64 10000, .int .u64 100000, .int .u64 1000000, .int .u64 10000000, .int .u64 100000000, .int .u64 1000000000, .int .u64 10000000000, .int .u64 100000000000, .int .u64 1000000000000, .int .u64 10000000000000, .int .u64 100000000000000, .int .u64 1000000000000000, .int .u64 10000000000000000, .int .u64 100000000000000000, .int .u64 1000000000000000000, .int .u64 10000000000000000000] t frozen
      | o => o).modify 2 fun
      | .cells _ t frozen => .cells #[.int .u8 240, .int .u8 240, .int .u8 240, .int .u8 240, .int .u8 240, .int .u8 240, .int .u8 240, .int .u8 240, .int .u8 240, .int .u8 240, .int .u8 240, .int .u8 240, .int .u8 240, .int .u8 240, .int .u8 240, .int .u8 240, .int .u8 240, .int .u8 240, .int .u8 240, .int .u8 240, .int .u8 240, .int .u8 240, .int .u8 240, .int .u8 240, .int .u8 240, .int .u8 240, .int .u8 240, .int .u8 240, .int .u8 240, .int .u8 240, .int .u8 240, .int .u8 240, .int .u8 240, .int .u8 240, .int .u8 240, .int .u8 240, .int .u8 240, .int .u8 240, .int .u8 240, .int .u8 240, .int .u8 240, .int .u8 240, .int .u8 240, .int .u8 240, .int .u8 240, .int .u8 240, .int .u8 240, .int .u8 240, .int .u8 240, .int .u8 240, .int .u8 240, .int .u8 240, .int .u8 240, .int .u8 240, .int .u8 240, .int .u8 240, .int .u8 240, .int .u8 240, .int .u8 240, .int .u8 240, .int .u8 240, .int .u8 240, .int .u8 240, .int .u8 240, .int .u8 240, .int .u8 240, .int .u8 240, .int .u8 240, .int .u8 240, .int .u8 240, .int .u8 240, .int .u8 240, .int .u8 240, .int .u8 240, .int .u8 240, .int .u8 240, .int .u8 240, .int .u8 240, .int .u8 240, .int .u8 240, .int .u8 240, .int .u8 240, .int .u8 240, .int .u8 240, .int .u8 240, .int .u8 240, .int .u8 240, .int .u8 240, .int .u8 240, .int .u8 240, .int .u8 240, .int .u8 240, .int .u8 240, .int .u8 240, .int .u8 240, .int .u8 240, .int .u8 240, .int .u8 240, .int .u8 240, .int .u8 240, .int .u8 240, .int .u8 240, .int .u8 240, .int .u8 240, .int .u8 240, .int .u8 240, .int .u8 240, .int .u8 240, .int .u8 240, .int .u8 240, .int .u8 240, .int .u8 240, .int .u8 240, .int .u8 240, .int .u8 240, .int .u8 240, .int .u8 240, .int .u8 240, .int .u8 240, .int .u8 240, .int .u8 240, .int .u8 240, .int .u8 240, .int .u8 240, .int .u8 240, .int .u8 240, .int .u8 240, .int .u8 240, .int .u8 241, .int .u8 241, .int .u8 241, .int .u8 241, .int .u8 241, .int .u8 241, .int .u8 241, .int .u8 241, .int .u8 241, .int .u8 241, .int .u8 241, .int .u8 241, .int .u8 241, .int .u8 241, .int .u8 241, .int .u8 241, .int .u8 241, .int .u8 241, .int .u8 241, .int .u8 241, .int .u8 241, .int .u8 241, .int .u8 241, .int .u8 241, .int .u8 241, .int .u8 241, .int .u8 241, .int .u8 241, .int .u8 241, .int .u8 241, .int .u8 241, .int .u8 241, .int .u8 241, .int .u8 241, .int .u8 241, .int .u8 241, .int .u8 241, .int .u8 241, .int .u8 241, .int .u8 241, .int .u8 241, .int .u8 241, .int .u8 241, .int .u8 241, .int .u8 241, .int .u8 241, .int .u8 241, .int .u8 241, .int .u8 241, .int .u8 241, .int .u8 241, .int .u8 241, .int .u8 241, .int .u8 241, .int .u8 241, .int .u8 241, .int .u8 241, .int .u8 241, .int .u8 241, .int .u8 241, .int .u8 241, .int .u8 241, .int .u8 241, .int .u8 241, .int .u8 241, .int .u8 241, .int .u8 2, .int .u8 2, .int .u8 2, .int .u8 2, .int .u8 2, .int .u8 2, .int .u8 2, .int .u8 2, .int .u8 2, .int .u8 2, .int .u8 2, .int .u8 2, .int .u8 2, .int .u8 2, .int .u8 2, .int .u8 2, .int .u8 2, .int .u8 2, .int .u8 2, .int .u8 2, .int .u8 2, .int .u8 2, .int .u8 2, .int .u8 2, .int .u8 2, .int .u8 2, .int .u8 2, .int .u8 2, .int .u8 2, .int .u8 2, .int .u8 19, .int .u8 3, .int .u8 3, .int .u8 3, .int .u8 3, .int .u8 3, .int .u8 3, .int .u8 3, .int .u8 3, .int .u8 3, .int .u8 3, .int .u8 3, .int .u8 3, .int .u8 35, .int .u8 3, .int .u8 3, .int .u8 52, .int .u8 4, .int .u8 4, .int .u8 4, .int .u8 68, .int .u8 241, .int .u8 241, .int .u8 241, .int .u8 241, .int .u8 241, .int .u8 241, .int .u8 241, .int .u8 241, .int .u8 241, .int .u8 241, .int .u8 241] t frozen
      | o => o).modify 3 fun
      | .cells _ t frozen => .cells #[.int .u8 128, .int .u8 191, .int .u8 160, .int .u8 191, .int .u8 128, .int .u8 159, .int .u8 144, .int .u8 191, .int .u8 128, .int .u8 143, .int .u8 0, .int .u8 0, .int .u8 0, .int .u8 0, .int .u8 0, .int .u8 0, .int .u8 0, .int .u8 0, .int .u8 0, .int .u8 0, .int .u8 0, .int .u8 0, .int .u8 0, .int .u8 0, .int .u8 0, .int .u8 0, .int .u8 0, .int .u8 0, .int .u8 0, .int .u8 0, .int .u8 0, .int .u8 0] t frozen
      | o => o).modify 4 fun
      | .cells _ t frozen => .cells #[.int .u8 0, .int .u8 1, .int .u8 28, .int .u8 2, .int .u8 29, .int .u8 14, .int .u8 24, .int .u8 3, .int .u8 30, .int .u8 22, .int .u8 20, .int .u8 15, .int .u8 25, .int .u8 17, .int .u8 4, .int .u8 8, .int .u8 31, .int .u8 27, .int .u8 13, .int .u8 23, .int .u8 21, .int .u8 19, .int .u8 16, .int .u8 7, .int .u8 26, .int .u8 12, .int .u8 18, .int .u8 6, .int .u8 11, .int .u8 5, .int .u8 10, .int .u8 9] t frozen
      | o => o).modify 5 fun
      | .cells _ t frozen => .cells #[.int .u8 0, .int .u8 1, .int .u8 56, .int .u8 2, .int .u8 57, .int .u8 49, .int .u8 28, .int .u8 3, .int .u8 61, .int .u8 58, .int .u8 42, .int .u8 50, .int .u8 38, .int .u8 29, .int .u8 17, .int .u8 4, .int .u8 62, .int .u8 47, .int .u8 59, .int .u8 36, .int .u8 45, .int .u8 43, .int .u8 51, .int .u8 22, .int .u8 53, .int .u8 39, .int .u8 33, .int .u8 30, .int .u8 24, .int .u8 18, .int .u8 12, .int .u8 5, .int .u8 63, .int .u8 55, .int .u8 48, .int .u8 27, .int .u8 60, .int .u8 41, .int .u8 37, .int .u8 16, .int .u8 46, .int .u8 35, .int .u8 44, .int .u8 21, .int .u8 52, .int .u8 32, .int .u8 23, .int .u8 11, .int .u8 54, .int .u8 26, .int .u8 40, .int .u8 15, .int .u8 34, .int .u8 20, .int .u8 31, .int .u8 10, .int .u8 25, .int .u8 14, .int .u8 19, .int .u8 9, .int .u8 13, .int .u8 8, .int .u8 7, .int .u8 6] t frozen
      | o => o) }
end Go.Proofs.YtdfmjgbnbfncmaaDoor
