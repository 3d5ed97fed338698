/- What is known of the types and the package variables of this program. Printed by a program. -/
import Derived.Test.YtdfmjgbnbfncmaaDoorProg
import Derived.Lib.LaidTab
import Derived.Lib.ItoaNum
import Derived.Lib.Repeat
import Derived.Lib.Split
import Derived.Lib.SplitLaws
import Derived.Below
import Derived.Sort.Grow
import Derived.Deep.Draws
import Derived.Shelf.LaysM
import Derived.Shelf.Strconv.Itoa3
import Derived.Shelf.Strings.Split
import Derived.Shelf.Strings.Repeat
import Derived.Test.YtdfmjgbnbfncmaaDoorK3
namespace Go.Proofs.YtdfmjgbnbfncmaaDoor
open Go.Tw
set_option linter.unusedVariables false
set_option maxRecDepth 100000
def cD : Nat → Option TypeDesc
  | 3 => some (TypeDesc.int IntKind.i64)
  | 4 => some TypeDesc.bool
  | 5 => some (TypeDesc.int IntKind.u8)
  | 9 => some TypeDesc.string
  | 27 => some (TypeDesc.struct #[(Field.mk "Year" 3 0 false "" "" 0), (Field.mk "Month" 3 1 false "" "" 8), (Field.mk "Day" 3 2 false "" "" 16)])
  | 40 => some (TypeDesc.array 12 3)
  | 44 => some (TypeDesc.slice 9)
  | 46 => some (TypeDesc.array 3 3)
  | 51 => some (TypeDesc.slice 5)
  | _ => none
def cZ : Nat → Option Nat
  | 3 => some 1
  | 4 => some 1
  | 5 => some 1
  | 9 => some 1
  | 27 => some 3
  | 40 => some 12
  | 44 => some 1
  | 46 => some 3
  | 51 => some 1
  | _ => none
def cI : Nat → Option ZD
  | 3 => some (.t .i)
  | 4 => some (.t .bo)
  | 5 => some (.t .u8)
  | 9 => some (.t .s)
  | 27 => some (.t (.pr .i (.pr .i (.pr .i .un))))
  | 40 => some (.t (.ar 12 .i))
  | 44 => some (.t (.sl .s))
  | 46 => some (.t (.ar 3 .i))
  | 51 => some (.t (.sl .u8))
  | _ => none
def cE : Nat → Option Ty
  | 5 => some .u8
  | 9 => some .s
  | _ => none
def gv1 : Vector UInt64 20 := #v[1, 10, 100, 1000, 10000, 100000, 1000000, 10000000, 100000000, 1000000000, 10000000000, 100000000000, 1000000000000, 10000000000000, 100000000000000, 1000000000000000, 10000000000000000, 100000000000000000, 1000000000000000000, 10000000000000000000]
def cG : Nat → Option ((t : Ty) × t.den)
  | 1 => some ⟨(.ar 20 .u64), (gv1 : Ty.den (.ar 20 .u64))⟩
  | _ => none
def cV : Nat → Bool
  | 0 => true
  | _ => false
def cQ : Nat → Bool
  | 27 => true
  | _ => false
def cfg : Cfg := ⟨cD, cZ, fun t => match cI t with | some d => some d.iv | none => none, cE, cG, cQ, cV⟩
theorem tok : TOk Tryd.prog cD cZ := ⟨fun t d h => by
  unfold cD at h
  split at h <;> first | (cases h; done) | skip
  · cases h; exact Tryd.underlying3
  · cases h; exact Tryd.underlying4
  · cases h; exact Tryd.underlying5
  · cases h; exact Tryd.underlying9
  · cases h; exact Tryd.underlying27
  · cases h; exact Tryd.underlying40
  · cases h; exact Tryd.underlying44
  · cases h; exact Tryd.underlying46
  · cases h; exact Tryd.underlying51
  , fun t n h => by
  unfold cZ at h
  split at h <;> first | (cases h; done) | skip
  · cases h; exact fun w => by kernel_rfl
  · cases h; exact fun w => by kernel_rfl
  · cases h; exact fun w => by kernel_rfl
  · cases h; exact fun w => by kernel_rfl
  · cases h; exact fun w => by kernel_rfl
  · cases h; exact fun w => by kernel_rfl
  · cases h; exact fun w => by kernel_rfl
  · cases h; exact fun w => by kernel_rfl
  · cases h; exact fun w => by kernel_rfl
⟩
theorem zr3 : ∃ z cs, (∀ w, (zeroValue 3).run Tryd.prog w = .ok z w) ∧ z.cells = cs.toArray ∧ ∀ O ρ, R O ρ false ((.t .i) : ZD).iv cs := zero_of (z := (.int .i64 0)) (fun w => by kernel_rfl) (by kernel_rfl) rfl
theorem zr4 : ∃ z cs, (∀ w, (zeroValue 4).run Tryd.prog w = .ok z w) ∧ z.cells = cs.toArray ∧ ∀ O ρ, R O ρ false ((.t .bo) : ZD).iv cs := zero_of (z := (.bool false)) (fun w => by kernel_rfl) (by kernel_rfl) rfl
theorem zr5 : ∃ z cs, (∀ w, (zeroValue 5).run Tryd.prog w = .ok z w) ∧ z.cells = cs.toArray ∧ ∀ O ρ, R O ρ false ((.t .u8) : ZD).iv cs := zero_of (z := (.int .u8 0)) (fun w => by kernel_rfl) (by kernel_rfl) rfl
theorem zr9 : ∃ z cs, (∀ w, (zeroValue 9).run Tryd.prog w = .ok z w) ∧ z.cells = cs.toArray ∧ ∀ O ρ, R O ρ false ((.t .s) : ZD).iv cs := zero_of (z := (.string ⟨#[]⟩)) (fun w => by kernel_rfl) (by kernel_rfl) rfl
theorem zr27 : ∃ z cs, (∀ w, (zeroValue 27).run Tryd.prog w = .ok z w) ∧ z.cells = cs.toArray ∧ ∀ O ρ, R O ρ false ((.t (.pr .i (.pr .i (.pr .i .un)))) : ZD).iv cs := zero_of (z := (.agg #[(.int .i64 0), (.int .i64 0), (.int .i64 0)])) (fun w => by kernel_rfl) (by kernel_rfl) rfl
theorem zr40 : ∃ z cs, (∀ w, (zeroValue 40).run Tryd.prog w = .ok z w) ∧ z.cells = cs.toArray ∧ ∀ O ρ, R O ρ false ((.t (.ar 12 .i)) : ZD).iv cs := zero_of (z := (.agg #[(.int .i64 0), (.int .i64 0), (.int .i64 0), (.int .i64 0), (.int .i64 0), (.int .i64 0), (.int .i64 0), (.int .i64 0), (.int .i64 0), (.int .i64 0), (.int .i64 0), (.int .i64 0)])) (fun w => by kernel_rfl) (by kernel_rfl) rfl
theorem zr44 : ∃ z cs, (∀ w, (zeroValue 44).run Tryd.prog w = .ok z w) ∧ z.cells = cs.toArray ∧ ∀ O ρ, R O ρ false ((.t (.sl .s)) : ZD).iv cs := zero_of (z := (.slice none 0 0)) (fun w => by kernel_rfl) (by kernel_rfl) rfl
theorem zr46 : ∃ z cs, (∀ w, (zeroValue 46).run Tryd.prog w = .ok z w) ∧ z.cells = cs.toArray ∧ ∀ O ρ, R O ρ false ((.t (.ar 3 .i)) : ZD).iv cs := zero_of (z := (.agg #[(.int .i64 0), (.int .i64 0), (.int .i64 0)])) (fun w => by kernel_rfl) (by kernel_rfl) rfl
theorem zr51 : ∃ z cs, (∀ w, (zeroValue 51).run Tryd.prog w = .ok z w) ∧ z.cells = cs.toArray ∧ ∀ O ρ, R O ρ false ((.t (.sl .u8)) : ZD).iv cs := zero_of (z := (.slice none 0 0)) (fun w => by kernel_rfl) (by kernel_rfl) rfl
theorem czero : ∀ t v, cfg.I t = some v → ∃ z cs, (∀ w, (zeroValue t).run Tryd.prog w = .ok z w) ∧ z.cells = cs.toArray ∧ ∀ O ρ, R O ρ false v cs := by
  intro t v h
  simp only [cfg] at h
  split at h <;> first | (cases h; done) | skip
  rename_i d hd
  cases h
  unfold cI at hd
  split at hd <;> first | (cases hd; done) | skip
  · cases hd; exact zr3
  · cases hd; exact zr4
  · cases hd; exact zr5
  · cases hd; exact zr9
  · cases hd; exact zr27
  · cases hd; exact zr40
  · cases hd; exact zr44
  · cases hd; exact zr46
  · cases hd; exact zr51
theorem el44 : ∃ bytes z zc, EOk Tryd.prog 44 9 (.s : Ty).size bytes z ∧ bytes ≤ 128 ∧ z.cells = zc.toArray ∧ ∀ O, TR O .s (.s : Ty).zero zc := elem_of (b := 16) (z := (.string ⟨#[]⟩)) (eok_of Tryd.underlying44 (by kernel_rfl) (by kernel_rfl) (by decide)) (by decide) (by kernel_rfl)
theorem el51 : ∃ bytes z zc, EOk Tryd.prog 51 5 (.u8 : Ty).size bytes z ∧ bytes ≤ 128 ∧ z.cells = zc.toArray ∧ ∀ O, TR O .u8 (.u8 : Ty).zero zc := elem_of (b := 1) (z := (.int .u8 0)) (eok_of Tryd.underlying51 (by kernel_rfl) (by kernel_rfl) (by decide)) (by decide) (by kernel_rfl)
theorem celem : ∀ t e ty, cfg.D t = some (.slice e) → cfg.E e = some ty → ∃ bytes z zc, EOk Tryd.prog t e ty.size bytes z ∧ bytes ≤ 128 ∧ z.cells = zc.toArray ∧ ∀ O, TR O ty ty.zero zc := by
  intro t e ty h k
  have h : cD t = some (.slice e) := h
  have k : cE e = some ty := k
  unfold cD at h
  split at h <;> first | (cases h; done) | skip
  · cases h; cases k; exact el44
  · cases h; cases k; exact el51
theorem pl27 : ∃ pl : Array (Nat × Nat), (∀ w, ((#[(Field.mk "Year" 3 0 false "" "" 0), (Field.mk "Month" 3 1 false "" "" 8), (Field.mk "Day" 3 2 false "" "" 16)] : Array Field).mapM (m := Sem) fun f => do pure (f.offset, ← sizeOf f.type)).run Tryd.prog w = .ok pl w) ∧ ∀ (i : Nat) (f : Field), (#[(Field.mk "Year" 3 0 false "" "" 0), (Field.mk "Month" 3 1 false "" "" 8), (Field.mk "Day" 3 2 false "" "" 16)] : Array Field)[i]? = some f → ∃ z, pl[i]? = some (f.offset, z) ∧ cZ f.type = some z := places_of #[(0, 1), (1, 1), (2, 1)] (fun w => by kernel_rfl) (by kernel_rfl)
theorem cplaces : ∀ t fs, cfg.D t = some (.struct fs) → ∃ pl : Array (Nat × Nat), (∀ w, (fs.mapM (m := Sem) fun f => do pure (f.offset, ← sizeOf f.type)).run Tryd.prog w = .ok pl w) ∧ ∀ (i : Nat) (f : Field), fs[i]? = some f → ∃ z, pl[i]? = some (f.offset, z) ∧ cfg.Z f.type = some z := by
  intro t fs h
  have h : cD t = some (.struct fs) := h
  unfold cD at h
  split at h <;> first | (cases h; done) | skip
  · cases h; exact pl27
theorem ceqs : ∀ t fs, cfg.D t = some (.struct fs) → cfg.Q t = true → Tryd.prog.stoodInHeld t = false ∧ Tryd.prog.eqGuardType Tryd.prog.depth t = false ∧ ∀ f ∈ fs.toList, f.name ≠ "_" := by
  intro t fs h k
  have h : cD t = some (.struct fs) := h
  have k : cQ t = true := k
  unfold cD at h
  split at h <;> first | (cases h; done) | skip
  · cases h; exact ⟨by kernel_rfl, by kernel_rfl, names_of (by kernel_rfl)⟩
theorem cok : COk Tryd.prog cfg := ⟨tok, czero, celem, cplaces, ceqs⟩
theorem mixed : Tryd.prog.follows .mixedOrders = true := by kernel_rfl
def bodyOf (f : Func) : Code := match f.body with
  | some c => c
  | none => .skip
end Go.Proofs.YtdfmjgbnbfncmaaDoor
/- kinkeep/calendar.check: its twin, and that the call does what the twin says. Printed by a program. -/
namespace Go.Proofs.YtdfmjgbnbfncmaaDoor
open Go.Tw
set_option linter.unusedSimpArgs false
set_option linter.unusedVariables false
def ord34 : Nat → List (Tag × Nat)
  | _ => []
def al34 : Nat → Option Nat
  | _ => none
def E34 (F : Nat) : Ev := ⟨cfg, 7, ctOf [], ord34, ctOf [], al34⟩
theorem cts34 (F : Nat) : CtsOk Tryd.prog (E34 F) := cts_of (l := []) (l' := []) rfl rfl trivial trivial
def T34c (F : Nat) (p0 : Int) {β : Type} (k : Int → Option β) : Option β :=
  (bif (decide (p0 < (0 : Int))) then (k (1 : Int)) else (bif (decide ((999999 : Int) < p0)) then (k (2 : Int)) else (k (0 : Int))))
def T34 (F : Nat) (p0 : Int) : Option (Int) := T34c F p0 some
theorem T34n (F : Nat) (p0 : Int) {β : Type} (k : Int → Option β) : T34c F p0 k = (T34 F p0).bind k := by
  simp only [T34, T34c, Option.bind_assoc, cond_bind, Option.bind_some, elimS_bind]
@[reducible] def cA34 : List Sh := [.i]
@[reducible] def cB34 : List Sh := [.i]
@[reducible] def cT34 : List TSh := []
@[reducible] def cU34 : List TSh := []
def ct34 (F : Nat) : Ct := mkC 0 cA34 cT34 cB34 cU34 (fun x y => T34 F x.1) (fun x y (z : Int) => ((z, ()), ()))
theorem eq34 (F : Nat) (x : dens cA34) (y : tdens cT34) : sev (E34 F) 0 [] (bodyOf Tryd.f34) [] (mkSt (rng 1) cA34 cT34 x y) (kFn (E34 F) 0 Tryd.f34.results.toList cB34 cU34 fun p q => some (p, q)) =
    T34c F x.1 (fun z => some ((z, ()), ())) := by kernel_rfl
theorem ok34 (F : Nat) : Sound Tryd.prog cfg 34 (ct34 F) :=
  mkC_ok (E := E34 F) (lp := []) (code := bodyOf Tryd.f34) Tryd.func34 rfl Tryd.ntmps34 rfl rfl cok (cts34 F) mixed trivial (by kernel_rfl) (fun x y k => T34c F x.1 k) (fun x y k => T34n F x.1 k) (eq34 F)
end Go.Proofs.YtdfmjgbnbfncmaaDoor
/- kinkeep/calendar.before: its twin, and that the call does what the twin says. Printed by a program. -/
namespace Go.Proofs.YtdfmjgbnbfncmaaDoor
open Go.Tw
set_option linter.unusedSimpArgs false
set_option linter.unusedVariables false
def ord35 : Nat → List (Tag × Nat)
  | _ => []
def al35 : Nat → Option Nat
  | _ => none
def E35 (F : Nat) : Ev := ⟨cfg, 17, ctOf [], ord35, ctOf [], al35⟩
theorem cts35 (F : Nat) : CtsOk Tryd.prog (E35 F) := cts_of (l := []) (l' := []) rfl rfl trivial trivial
def T35c (F : Nat) (p0 : Int) {β : Type} (k : Int → Option β) : Option β :=
  (k (w64 ((w64 ((w64 ((w64 ((365 : Int) * p0)) + (w64 (Int.tdiv (w64 (p0 + (3 : Int))) (4 : Int))))) - (w64 (Int.tdiv (w64 (p0 + (99 : Int))) (100 : Int))))) + (w64 (Int.tdiv (w64 (p0 + (399 : Int))) (400 : Int))))))
def T35 (F : Nat) (p0 : Int) : Option (Int) := T35c F p0 some
theorem T35n (F : Nat) (p0 : Int) {β : Type} (k : Int → Option β) : T35c F p0 k = (T35 F p0).bind k := by
  simp only [T35, T35c, Option.bind_assoc, cond_bind, Option.bind_some, elimS_bind]
@[reducible] def cA35 : List Sh := [.i]
@[reducible] def cB35 : List Sh := [.i]
@[reducible] def cT35 : List TSh := []
@[reducible] def cU35 : List TSh := []
def ct35 (F : Nat) : Ct := mkC 0 cA35 cT35 cB35 cU35 (fun x y => T35 F x.1) (fun x y (z : Int) => ((z, ()), ()))
theorem eq35 (F : Nat) (x : dens cA35) (y : tdens cT35) : sev (E35 F) 0 [] (bodyOf Tryd.f35) [] (mkSt (rng 1) cA35 cT35 x y) (kFn (E35 F) 0 Tryd.f35.results.toList cB35 cU35 fun p q => some (p, q)) =
    T35c F x.1 (fun z => some ((z, ()), ())) := by kernel_rfl
theorem ok35 (F : Nat) : Sound Tryd.prog cfg 35 (ct35 F) :=
  mkC_ok (E := E35 F) (lp := []) (code := bodyOf Tryd.f35) Tryd.func35 rfl Tryd.ntmps35 rfl rfl cok (cts35 F) mixed trivial (by kernel_rfl) (fun x y k => T35c F x.1 k) (fun x y k => T35n F x.1 k) (eq35 F)
end Go.Proofs.YtdfmjgbnbfncmaaDoor
/- kinkeep/calendar.Leap: its twin, and that the call does what the twin says. Printed by a program. -/
namespace Go.Proofs.YtdfmjgbnbfncmaaDoor
open Go.Tw
set_option linter.unusedSimpArgs false
set_option linter.unusedVariables false
def ord13 : Nat → List (Tag × Nat)
  | _ => []
def al13 : Nat → Option Nat
  | _ => none
def E13 (F : Nat) : Ev := ⟨cfg, 16, ctOf [], ord13, ctOf [], al13⟩
theorem cts13 (F : Nat) : CtsOk Tryd.prog (E13 F) := cts_of (l := []) (l' := []) rfl rfl trivial trivial
def T13c (F : Nat) (p0 : Int) {β : Type} (k : Bool → Option β) : Option β :=
  (bif ((Int.tmod p0 (4 : Int)) == (0 : Int)) then (bif ((Int.tmod p0 (100 : Int)) != (0 : Int)) then (k true) else (k ((Int.tmod p0 (400 : Int)) == (0 : Int)))) else (k false))
def T13 (F : Nat) (p0 : Int) : Option (Bool) := T13c F p0 some
theorem T13n (F : Nat) (p0 : Int) {β : Type} (k : Bool → Option β) : T13c F p0 k = (T13 F p0).bind k := by
  simp only [T13, T13c, Option.bind_assoc, cond_bind, Option.bind_some, elimS_bind]
@[reducible] def cA13 : List Sh := [.i]
@[reducible] def cB13 : List Sh := [.bo]
@[reducible] def cT13 : List TSh := []
@[reducible] def cU13 : List TSh := []
def ct13 (F : Nat) : Ct := mkC 0 cA13 cT13 cB13 cU13 (fun x y => T13 F x.1) (fun x y (z : Bool) => ((z, ()), ()))
theorem eq13 (F : Nat) (x : dens cA13) (y : tdens cT13) : sev (E13 F) 0 [] (bodyOf Tryd.f13) [] (mkSt (rng 1) cA13 cT13 x y) (kFn (E13 F) 0 Tryd.f13.results.toList cB13 cU13 fun p q => some (p, q)) =
    T13c F x.1 (fun z => some ((z, ()), ())) := by kernel_rfl
theorem ok13 (F : Nat) : Sound Tryd.prog cfg 13 (ct13 F) :=
  mkC_ok (E := E13 F) (lp := []) (code := bodyOf Tryd.f13) Tryd.func13 rfl Tryd.ntmps13 rfl rfl cok (cts13 F) mixed trivial (by kernel_rfl) (fun x y k => T13c F x.1 k) (fun x y k => T13n F x.1 k) (eq13 F)
end Go.Proofs.YtdfmjgbnbfncmaaDoor
/- kinkeep/calendar.Days: its twin, and that the call does what the twin says. Printed by a program. -/
namespace Go.Proofs.YtdfmjgbnbfncmaaDoor
open Go.Tw
set_option linter.unusedSimpArgs false
set_option linter.unusedVariables false
def ord15 : Nat → List (Tag × Nat)
  | _ => []
def al15 : Nat → Option Nat
  | _ => none
def E15 (F : Nat) : Ev := ⟨cfg, 23, ctOf [(13, ct13 F)], ord15, ctOf [], al15⟩
theorem cts15 (F : Nat) : CtsOk Tryd.prog (E15 F) := cts_of (l := [(13, ct13 F)]) (l' := []) rfl rfl ⟨⟨ok13 F, _, Tryd.func13, rfl, rfl⟩, trivial⟩ trivial
def T15c (F : Nat) (p0 : Int) (p1 : Int) {β : Type} (k : Int → Option β) : Option β :=
  (bif (decide (p1 < (1 : Int))) then (k (0 : Int)) else (bif (decide ((12 : Int) < p1)) then (k (0 : Int)) else (bif (p1 == (2 : Int)) then (Option.bind (T13 F p0) fun z6 => (bif z6 then (k (29 : Int)) else (Option.bind (inb 12 (w64 (p1 - (1 : Int)))) fun x7 => (Option.bind (vat (#v[(31 : Int), (28 : Int), (31 : Int), (30 : Int), (31 : Int), (30 : Int), (31 : Int), (31 : Int), (30 : Int), (31 : Int), (30 : Int), (31 : Int)] : Vector Int 12) x7) fun x8 => (k x8))))) else (Option.bind (inb 12 (w64 (p1 - (1 : Int)))) fun x9 => (Option.bind (vat (#v[(31 : Int), (28 : Int), (31 : Int), (30 : Int), (31 : Int), (30 : Int), (31 : Int), (31 : Int), (30 : Int), (31 : Int), (30 : Int), (31 : Int)] : Vector Int 12) x9) fun x10 => (k x10))))))
def T15 (F : Nat) (p0 : Int) (p1 : Int) : Option (Int) := T15c F p0 p1 some
theorem T15n (F : Nat) (p0 : Int) (p1 : Int) {β : Type} (k : Int → Option β) : T15c F p0 p1 k = (T15 F p0 p1).bind k := by
  simp only [T15, T15c, Option.bind_assoc, cond_bind, Option.bind_some, elimS_bind]
@[reducible] def cA15 : List Sh := [.i, .i]
@[reducible] def cB15 : List Sh := [.i]
@[reducible] def cT15 : List TSh := []
@[reducible] def cU15 : List TSh := []
def ct15 (F : Nat) : Ct := mkC 0 cA15 cT15 cB15 cU15 (fun x y => T15 F x.1 x.2.1) (fun x y (z : Int) => ((z, ()), ()))
theorem eq15 (F : Nat) (x : dens cA15) (y : tdens cT15) : sev (E15 F) 0 [] (bodyOf Tryd.f15) [] (mkSt (rng 2) cA15 cT15 x y) (kFn (E15 F) 0 Tryd.f15.results.toList cB15 cU15 fun p q => some (p, q)) =
    T15c F x.1 x.2.1 (fun z => some ((z, ()), ())) := by kernel_rfl
theorem ok15 (F : Nat) : Sound Tryd.prog cfg 15 (ct15 F) :=
  mkC_ok (E := E15 F) (lp := []) (code := bodyOf Tryd.f15) Tryd.func15 rfl Tryd.ntmps15 rfl rfl cok (cts15 F) mixed trivial (by kernel_rfl) (fun x y k => T15c F x.1 x.2.1 k) (fun x y k => T15n F x.1 x.2.1 k) (eq15 F)
end Go.Proofs.YtdfmjgbnbfncmaaDoor
/- kinkeep/calendar.Date: its twin, and that the call does what the twin says. Printed by a program. -/
namespace Go.Proofs.YtdfmjgbnbfncmaaDoor
open Go.Tw
set_option linter.unusedSimpArgs false
set_option linter.unusedVariables false
def ord17 : Nat → List (Tag × Nat)
  | 10 => [(.p, 0), (.c, 1), (.p, 2), (.r, 3), (.p, 4), (.r, 5), (.w, 6), (.p, 7)]
  | 11 => [(.p, 0), (.c, 1), (.p, 2), (.r, 3), (.p, 4), (.r, 5), (.w, 6), (.p, 7), (.p, 8), (.b, 9)]
  | _ => []
def al17 : Nat → Option Nat
  | _ => none
def E17 (F : Nat) : Ev := ⟨cfg, 59, ctOf [(34, ct34 F), (35, ct35 F), (15, ct15 F)], ord17, ctOf [], al17⟩
theorem cts17 (F : Nat) : CtsOk Tryd.prog (E17 F) := cts_of (l := [(34, ct34 F), (35, ct35 F), (15, ct15 F)]) (l' := []) rfl rfl ⟨⟨ok34 F, _, Tryd.func34, rfl, rfl⟩, ⟨⟨ok35 F, _, Tryd.func35, rfl, rfl⟩, ⟨⟨ok15 F, _, Tryd.func15, rfl, rfl⟩, trivial⟩⟩⟩ trivial
def L17_4c (F : Nat) (y31 : Int) (y32 : Int) {β : Type} (kA : Int → Option β) (kO : Int → Option β) : Option β :=
  (Option.bind (T35 F y32) fun z37 => (bif (decide (y31 < z37)) then (kA (w64 (y32 - (1 : Int)))) else (kO y32)))
def L17_4 (F : Nat) (y31 : Int) (y32 : Int) : Option ((Int) ⊕ (Int)) := L17_4c F y31 y32 (fun s => some (.inl s)) (fun z => some (.inr z))
theorem L17_4n (F : Nat) (y31 : Int) (y32 : Int) {β : Type} (kA : Int → Option β) (kO : Int → Option β) : L17_4c F y31 y32 kA kO = (L17_4 F y31 y32).bind (elimS kA kO) := by
  simp only [L17_4, L17_4c, Option.bind_assoc, cond_bind, Option.bind_some, elimS_l, elimS_r, elimS_bind]
@[reducible] def sA17_4 : List Sh := [.i, (.pt 0 []), .i]
@[reducible] def sAp117_4 : List Sh := [.i, (.pt 0 []), .i]
@[reducible] def sT17_4 : List TSh := [.blk 27 (.pr .i (.pr .i (.pr .i .un)))]
@[reducible] def sTp117_4 : List TSh := [.blk 27 (.pr .i (.pr .i (.pr .i .un)))]
def lc17_4 (F : Nat) : Lc := mkL [0, 2, 5] sA17_4 sT17_4 [0, 2, 5] sAp117_4 sTp117_4 F (fun x y (s : Int) => L17_4 F x.1 s) (fun x y => x.2.2.1) (fun x y (z : Int) => ((x.1, (), z, ()), ((y.1.1, y.1.2.1, y.1.2.2.1, ()), ())))
theorem le17_4 (F : Nat) (x : dens sA17_4) (y : tdens sT17_4) (s : Int) : sev (E17 F) 0 [] (cAt (bodyOf Tryd.f17) (0 :: 0 :: [0, 1, 1, 1])) (0 :: 0 :: [0, 1, 1, 1]) (mkSt [0, 2, 5] sA17_4 sT17_4 (x.1, (), s, ()) ((y.1.1, y.1.2.1, y.1.2.2.1, ()), ())) (kLoop 0 [0, 2, 5] sA17_4 sT17_4 [0, 2, 5] sAp117_4 sTp117_4 [] [] [] 0 (fun x y => some (.inl (x, y))) (fun x y => some (.inr (.inl (x, y)))) (fun x y => some (.inr (.inr (x, y))))) =
    L17_4c (β := Full sA17_4 sT17_4 sAp117_4 sTp117_4 [] []) F x.1 s (fun s => some (.inl ((x.1, (), s, ()), ((y.1.1, y.1.2.1, y.1.2.2.1, ()), ())))) (fun z => some (.inr (.inl ((x.1, (), z, ()), ((y.1.1, y.1.2.1, y.1.2.2.1, ()), ()))))) := by kernel_rfl
theorem lo17_4 (F : Nat) : LcOk Tryd.prog (E17 F) 0 (lc17_4 F) (cAt (bodyOf Tryd.f17) [0, 1, 1, 1]) :=
  mkL_ok (lp := []) (id := 0) (b := cAt (bodyOf Tryd.f17) (0 :: 0 :: [0, 1, 1, 1])) cok (cts17 F) mixed trivial (by kernel_rfl) (by kernel_rfl) (fun x y s => (x.1, (), s, ())) (fun x y s => ((y.1.1, y.1.2.1, y.1.2.2.1, ()), ())) (fun x y => rfl) (fun x y => rfl) (fun x y s kA kO => L17_4c F x.1 s kA kO) (fun x y s kA kO => L17_4n F x.1 s kA kO) (le17_4 F)
def L17_5c (F : Nat) (y39 : Int) (y40 : Int) {β : Type} (kA : Int → Option β) (kO : Int → Option β) : Option β :=
  (Option.bind (T35 F (w64 (y40 + (1 : Int)))) fun z45 => (bif (decide (z45 ≤ y39)) then (kA (w64 (y40 + (1 : Int)))) else (kO y40)))
def L17_5 (F : Nat) (y39 : Int) (y40 : Int) : Option ((Int) ⊕ (Int)) := L17_5c F y39 y40 (fun s => some (.inl s)) (fun z => some (.inr z))
theorem L17_5n (F : Nat) (y39 : Int) (y40 : Int) {β : Type} (kA : Int → Option β) (kO : Int → Option β) : L17_5c F y39 y40 kA kO = (L17_5 F y39 y40).bind (elimS kA kO) := by
  simp only [L17_5, L17_5c, Option.bind_assoc, cond_bind, Option.bind_some, elimS_l, elimS_r, elimS_bind]
@[reducible] def sA17_5 : List Sh := [.i, (.pt 0 []), .i]
@[reducible] def sAp117_5 : List Sh := [.i, (.pt 0 []), .i]
@[reducible] def sT17_5 : List TSh := [.blk 27 (.pr .i (.pr .i (.pr .i .un)))]
@[reducible] def sTp117_5 : List TSh := [.blk 27 (.pr .i (.pr .i (.pr .i .un)))]
def lc17_5 (F : Nat) : Lc := mkL [0, 2, 5] sA17_5 sT17_5 [0, 2, 5] sAp117_5 sTp117_5 F (fun x y (s : Int) => L17_5 F x.1 s) (fun x y => x.2.2.1) (fun x y (z : Int) => ((x.1, (), z, ()), ((y.1.1, y.1.2.1, y.1.2.2.1, ()), ())))
theorem le17_5 (F : Nat) (x : dens sA17_5) (y : tdens sT17_5) (s : Int) : sev (E17 F) 0 [] (cAt (bodyOf Tryd.f17) (0 :: 0 :: [0, 1, 1, 1, 1])) (0 :: 0 :: [0, 1, 1, 1, 1]) (mkSt [0, 2, 5] sA17_5 sT17_5 (x.1, (), s, ()) ((y.1.1, y.1.2.1, y.1.2.2.1, ()), ())) (kLoop 0 [0, 2, 5] sA17_5 sT17_5 [0, 2, 5] sAp117_5 sTp117_5 [] [] [] 2 (fun x y => some (.inl (x, y))) (fun x y => some (.inr (.inl (x, y)))) (fun x y => some (.inr (.inr (x, y))))) =
    L17_5c (β := Full sA17_5 sT17_5 sAp117_5 sTp117_5 [] []) F x.1 s (fun s => some (.inl ((x.1, (), s, ()), ((y.1.1, y.1.2.1, y.1.2.2.1, ()), ())))) (fun z => some (.inr (.inl ((x.1, (), z, ()), ((y.1.1, y.1.2.1, y.1.2.2.1, ()), ()))))) := by kernel_rfl
theorem lo17_5 (F : Nat) : LcOk Tryd.prog (E17 F) 0 (lc17_5 F) (cAt (bodyOf Tryd.f17) [0, 1, 1, 1, 1]) :=
  mkL_ok (lp := []) (id := 2) (b := cAt (bodyOf Tryd.f17) (0 :: 0 :: [0, 1, 1, 1, 1])) cok (cts17 F) mixed trivial (by kernel_rfl) (by kernel_rfl) (fun x y s => (x.1, (), s, ())) (fun x y s => ((y.1.1, y.1.2.1, y.1.2.2.1, ()), ())) (fun x y => rfl) (fun x y => rfl) (fun x y s kA kO => L17_5c F x.1 s kA kO) (fun x y s kA kO => L17_5n F x.1 s kA kO) (le17_5 F)
def L17_6c (F : Nat) (y51 : Int) (y52 : Int) (y53 : Int) {β : Type} (kA : (Int × Int) → Option β) (kO : (Int × Int) → Option β) : Option β :=
  (Option.bind (T15 F y51 y52) fun z56 => (bif (decide (z56 < y53)) then (Option.bind (T15 F y51 y52) fun z57 => (kA ((w64 (y52 + (1 : Int))), (w64 (y53 - z57))))) else (kO (y52, y53))))
def L17_6 (F : Nat) (y51 : Int) (y52 : Int) (y53 : Int) : Option ((Int × Int) ⊕ (Int × Int)) := L17_6c F y51 y52 y53 (fun s => some (.inl s)) (fun z => some (.inr z))
theorem L17_6n (F : Nat) (y51 : Int) (y52 : Int) (y53 : Int) {β : Type} (kA : (Int × Int) → Option β) (kO : (Int × Int) → Option β) : L17_6c F y51 y52 y53 kA kO = (L17_6 F y51 y52 y53).bind (elimS kA kO) := by
  simp only [L17_6, L17_6c, Option.bind_assoc, cond_bind, Option.bind_some, elimS_l, elimS_r, elimS_bind]
@[reducible] def sA17_6 : List Sh := [(.pt 0 []), (.pt 1 [])]
@[reducible] def sAp117_6 : List Sh := [(.pt 0 []), (.pt 1 [])]
@[reducible] def sT17_6 : List TSh := [.blk 27 (.pr .i (.pr .i (.pr .i .un))), .blk 27 (.pr .i (.pr .i (.pr .i .un)))]
@[reducible] def sTp117_6 : List TSh := [.blk 27 (.pr .i (.pr .i (.pr .i .un))), .blk 27 (.pr .i (.pr .i (.pr .i .un)))]
def lc17_6 (F : Nat) : Lc := mkL [2, 6] sA17_6 sT17_6 [2, 6] sAp117_6 sTp117_6 F (fun x y (s : Int × Int) => L17_6 F y.2.1.1 s.1 s.2) (fun x y => (y.2.1.2.1, y.2.1.2.2.1)) (fun x y (z : Int × Int) => (((), (), ()), ((y.1.1, y.1.2.1, y.1.2.2.1, ()), (y.2.1.1, z.1, z.2, ()), ())))
theorem le17_6 (F : Nat) (x : dens sA17_6) (y : tdens sT17_6) (s : Int × Int) : sev (E17 F) 0 [] (cAt (bodyOf Tryd.f17) (0 :: 0 :: [0, 1, 1, 1, 1, 1, 1])) (0 :: 0 :: [0, 1, 1, 1, 1, 1, 1]) (mkSt [2, 6] sA17_6 sT17_6 ((), (), ()) ((y.1.1, y.1.2.1, y.1.2.2.1, ()), (y.2.1.1, s.1, s.2, ()), ())) (kLoop 0 [2, 6] sA17_6 sT17_6 [2, 6] sAp117_6 sTp117_6 [] [] [] 4 (fun x y => some (.inl (x, y))) (fun x y => some (.inr (.inl (x, y)))) (fun x y => some (.inr (.inr (x, y))))) =
    L17_6c (β := Full sA17_6 sT17_6 sAp117_6 sTp117_6 [] []) F y.2.1.1 s.1 s.2 (fun s => some (.inl (((), (), ()), ((y.1.1, y.1.2.1, y.1.2.2.1, ()), (y.2.1.1, s.1, s.2, ()), ())))) (fun z => some (.inr (.inl (((), (), ()), ((y.1.1, y.1.2.1, y.1.2.2.1, ()), (y.2.1.1, z.1, z.2, ()), ()))))) := by kernel_rfl
theorem lo17_6 (F : Nat) : LcOk Tryd.prog (E17 F) 0 (lc17_6 F) (cAt (bodyOf Tryd.f17) [0, 1, 1, 1, 1, 1, 1]) :=
  mkL_ok (lp := []) (id := 4) (b := cAt (bodyOf Tryd.f17) (0 :: 0 :: [0, 1, 1, 1, 1, 1, 1])) cok (cts17 F) mixed trivial (by kernel_rfl) (by kernel_rfl) (fun x y s => ((), (), ())) (fun x y s => ((y.1.1, y.1.2.1, y.1.2.2.1, ()), (y.2.1.1, s.1, s.2, ()), ())) (fun x y => rfl) (fun x y => rfl) (fun x y s kA kO => L17_6c F y.2.1.1 s.1 s.2 kA kO) (fun x y s kA kO => L17_6n F y.2.1.1 s.1 s.2 kA kO) (le17_6 F)
def T17c (F : Nat) (p0 : Int) {β : Type} (k : (Int × Int × Int × Int) → Option β) : Option β :=
  (Option.bind (T34 F p0) fun z30 => (bif (z30 != (0 : Int)) then (k ((0 : Int), (0 : Int), (0 : Int), z30)) else (Option.bind (iter (fun s => L17_4 F p0 s) F (w64 (Int.tdiv (w64 (p0 * (400 : Int))) (146097 : Int)))) fun z38 => (Option.bind (iter (fun s => L17_5 F p0 s) F z38) fun z46 => (Option.bind (T35 F z46) fun z47 => (Option.bind (iter (fun s => L17_6 F (w64 ((2000 : Int) + z46)) s.1 s.2) F ((1 : Int), (w64 ((w64 (p0 - z47)) + (1 : Int))))) fun z58 => (k ((w64 ((2000 : Int) + z46)), z58.1, z58.2, (0 : Int)))))))))
def T17 (F : Nat) (p0 : Int) : Option (Int × Int × Int × Int) := T17c F p0 some
theorem T17n (F : Nat) (p0 : Int) {β : Type} (k : (Int × Int × Int × Int) → Option β) : T17c F p0 k = (T17 F p0).bind k := by
  simp only [T17, T17c, Option.bind_assoc, cond_bind, Option.bind_some, elimS_bind]
@[reducible] def cA17 : List Sh := [.i]
@[reducible] def cB17 : List Sh := [(.pr .i (.pr .i (.pr .i .un))), .i]
@[reducible] def cT17 : List TSh := []
@[reducible] def cU17 : List TSh := []
def ct17 (F : Nat) : Ct := mkC 0 cA17 cT17 cB17 cU17 (fun x y => T17 F x.1) (fun x y (z : Int × Int × Int × Int) => (((z.1, z.2.1, z.2.2.1, ()), z.2.2.2, ()), ()))
theorem eq17 (F : Nat) (x : dens cA17) (y : tdens cT17) : sev (E17 F) 0 [([0, 1, 1, 1], lc17_4 F), ([0, 1, 1, 1, 1], lc17_5 F), ([0, 1, 1, 1, 1, 1, 1], lc17_6 F)] (bodyOf Tryd.f17) [] (mkSt (rng 1) cA17 cT17 x y) (kFn (E17 F) 0 Tryd.f17.results.toList cB17 cU17 fun p q => some (p, q)) =
    T17c F x.1 (fun z => some (((z.1, z.2.1, z.2.2.1, ()), z.2.2.2, ()), ())) := by kernel_rfl
theorem ok17 (F : Nat) : Sound Tryd.prog cfg 17 (ct17 F) :=
  mkC_ok (E := E17 F) (lp := [([0, 1, 1, 1], lc17_4 F), ([0, 1, 1, 1, 1], lc17_5 F), ([0, 1, 1, 1, 1, 1, 1], lc17_6 F)]) (code := bodyOf Tryd.f17) Tryd.func17 rfl Tryd.ntmps17 rfl rfl cok (cts17 F) mixed ⟨lo17_4 F, ⟨lo17_5 F, ⟨lo17_6 F, trivial⟩⟩⟩ (by kernel_rfl) (fun x y k => T17c F x.1 k) (fun x y k => T17n F x.1 k) (eq17 F)
end Go.Proofs.YtdfmjgbnbfncmaaDoor
/- kinkeep/calendar.Month: its twin, and that the call does what the twin says. Printed by a program. -/
namespace Go.Proofs.YtdfmjgbnbfncmaaDoor
open Go.Tw
set_option linter.unusedSimpArgs false
set_option linter.unusedVariables false
def ord23 : Nat → List (Tag × Nat)
  | _ => []
def al23 : Nat → Option Nat
  | _ => none
def E23 (F : Nat) : Ev := ⟨cfg, 20, ctOf [(17, ct17 F)], ord23, ctOf [], al23⟩
theorem cts23 (F : Nat) : CtsOk Tryd.prog (E23 F) := cts_of (l := [(17, ct17 F)]) (l' := []) rfl rfl ⟨⟨ok17 F, _, Tryd.func17, rfl, rfl⟩, trivial⟩ trivial
def T23c (F : Nat) (p0 : Int) {β : Type} (k : Int → Option β) : Option β :=
  (Option.bind (T17 F p0) fun z2 => (bif (z2.2.2.2 != (0 : Int)) then (k (-1 : Int)) else (k (w64 ((w64 ((w64 ((12 : Int) * (w64 (z2.1 - (2000 : Int))))) + z2.2.1)) - (1 : Int))))))
def T23 (F : Nat) (p0 : Int) : Option (Int) := T23c F p0 some
theorem T23n (F : Nat) (p0 : Int) {β : Type} (k : Int → Option β) : T23c F p0 k = (T23 F p0).bind k := by
  simp only [T23, T23c, Option.bind_assoc, cond_bind, Option.bind_some, elimS_bind]
@[reducible] def cA23 : List Sh := [.i]
@[reducible] def cB23 : List Sh := [.i]
@[reducible] def cT23 : List TSh := []
@[reducible] def cU23 : List TSh := []
def ct23 (F : Nat) : Ct := mkC 0 cA23 cT23 cB23 cU23 (fun x y => T23 F x.1) (fun x y (z : Int) => ((z, ()), ()))
theorem eq23 (F : Nat) (x : dens cA23) (y : tdens cT23) : sev (E23 F) 0 [] (bodyOf Tryd.f23) [] (mkSt (rng 1) cA23 cT23 x y) (kFn (E23 F) 0 Tryd.f23.results.toList cB23 cU23 fun p q => some (p, q)) =
    T23c F x.1 (fun z => some ((z, ()), ())) := by kernel_rfl
theorem ok23 (F : Nat) : Sound Tryd.prog cfg 23 (ct23 F) :=
  mkC_ok (E := E23 F) (lp := []) (code := bodyOf Tryd.f23) Tryd.func23 rfl Tryd.ntmps23 rfl rfl cok (cts23 F) mixed trivial (by kernel_rfl) (fun x y k => T23c F x.1 k) (fun x y k => T23n F x.1 k) (eq23 F)
end Go.Proofs.YtdfmjgbnbfncmaaDoor
/- kinkeep/calendar.nearest: its twin, and that the call does what the twin says. Printed by a program. -/
namespace Go.Proofs.YtdfmjgbnbfncmaaDoor
open Go.Tw
set_option linter.unusedSimpArgs false
set_option linter.unusedVariables false
def ord38 : Nat → List (Tag × Nat)
  | 3 => [(.p, 0), (.c, 1), (.p, 2), (.p, 3), (.r, 4), (.p, 5), (.r, 6), (.w, 7), (.p, 8), (.p, 9), (.b, 10)]
  | _ => []
def al38 : Nat → Option Nat
  | _ => none
def E38 (F : Nat) : Ev := ⟨cfg, 23, ctOf [(15, ct15 F)], ord38, ctOf [], al38⟩
theorem cts38 (F : Nat) : CtsOk Tryd.prog (E38 F) := cts_of (l := [(15, ct15 F)]) (l' := []) rfl rfl ⟨⟨ok15 F, _, Tryd.func15, rfl, rfl⟩, trivial⟩ trivial
def T38c (F : Nat) (p0 : Int) (p1 : Int) (p2 : Int) {β : Type} (k : (Int × Int × Int) → Option β) : Option β :=
  (Option.bind (T15 F (if p0 < (2000 : Int) then (2000 : Int) else p0) (if (12 : Int) < (if p1 < (1 : Int) then (1 : Int) else p1) then (12 : Int) else (if p1 < (1 : Int) then (1 : Int) else p1))) fun z2 => (k ((if p0 < (2000 : Int) then (2000 : Int) else p0), (if (12 : Int) < (if p1 < (1 : Int) then (1 : Int) else p1) then (12 : Int) else (if p1 < (1 : Int) then (1 : Int) else p1)), (if z2 < (if p2 < (1 : Int) then (1 : Int) else p2) then z2 else (if p2 < (1 : Int) then (1 : Int) else p2)))))
def T38 (F : Nat) (p0 : Int) (p1 : Int) (p2 : Int) : Option (Int × Int × Int) := T38c F p0 p1 p2 some
theorem T38n (F : Nat) (p0 : Int) (p1 : Int) (p2 : Int) {β : Type} (k : (Int × Int × Int) → Option β) : T38c F p0 p1 p2 k = (T38 F p0 p1 p2).bind k := by
  simp only [T38, T38c, Option.bind_assoc, cond_bind, Option.bind_some, elimS_bind]
@[reducible] def cA38 : List Sh := [(.pr .i (.pr .i (.pr .i .un)))]
@[reducible] def cB38 : List Sh := [(.pr .i (.pr .i (.pr .i .un)))]
@[reducible] def cT38 : List TSh := []
@[reducible] def cU38 : List TSh := []
def ct38 (F : Nat) : Ct := mkC 0 cA38 cT38 cB38 cU38 (fun x y => T38 F x.1.1 x.1.2.1 x.1.2.2.1) (fun x y (z : Int × Int × Int) => (((z.1, z.2.1, z.2.2, ()), ()), ()))
theorem eq38 (F : Nat) (x : dens cA38) (y : tdens cT38) : sev (E38 F) 0 [] (bodyOf Tryd.f38) [] (mkSt (rng 1) cA38 cT38 x y) (kFn (E38 F) 0 Tryd.f38.results.toList cB38 cU38 fun p q => some (p, q)) =
    T38c F x.1.1 x.1.2.1 x.1.2.2.1 (fun z => some (((z.1, z.2.1, z.2.2, ()), ()), ())) := by kernel_rfl
theorem ok38 (F : Nat) : Sound Tryd.prog cfg 38 (ct38 F) :=
  mkC_ok (E := E38 F) (lp := []) (code := bodyOf Tryd.f38) Tryd.func38 rfl Tryd.ntmps38 rfl rfl cok (cts38 F) mixed trivial (by kernel_rfl) (fun x y k => T38c F x.1.1 x.1.2.1 x.1.2.2.1 k) (fun x y k => T38n F x.1.1 x.1.2.1 x.1.2.2.1 k) (eq38 F)
end Go.Proofs.YtdfmjgbnbfncmaaDoor
/- kinkeep/calendar.Day: its twin, and that the call does what the twin says. Printed by a program. -/
namespace Go.Proofs.YtdfmjgbnbfncmaaDoor
open Go.Tw
set_option linter.unusedSimpArgs false
set_option linter.unusedVariables false
def ord19 : Nat → List (Tag × Nat)
  | 1 => [(.r, 0), (.c, 2), (.w, 1), (.p, 3)]
  | 6 => [(.p, 0), (.p, 2), (.c, 3), (.w, 1), (.p, 4), (.p, 5), (.p, 6)]
  | _ => []
def al19 : Nat → Option Nat
  | _ => none
def E19 (F : Nat) : Ev := ⟨cfg, 37, ctOf [(38, ct38 F), (35, ct35 F), (15, ct15 F)], ord19, ctOf [], al19⟩
theorem cts19 (F : Nat) : CtsOk Tryd.prog (E19 F) := cts_of (l := [(38, ct38 F), (35, ct35 F), (15, ct15 F)]) (l' := []) rfl rfl ⟨⟨ok38 F, _, Tryd.func38, rfl, rfl⟩, ⟨⟨ok35 F, _, Tryd.func35, rfl, rfl⟩, ⟨⟨ok15 F, _, Tryd.func15, rfl, rfl⟩, trivial⟩⟩⟩ trivial
def L19_2c (F : Nat) (y15 : Int) (y16 : Int) (y13 : Int) (y14 : Int) {β : Type} (kA : (Int × Int) → Option β) (kO : Int → Option β) : Option β :=
  (bif (decide (y14 < y16)) then (Option.bind (T15 F y15 y14) fun z19 => (kA ((w64 (y13 + z19)), (w64 (y14 + (1 : Int)))))) else (kO y13))
def L19_2 (F : Nat) (y15 : Int) (y16 : Int) (y13 : Int) (y14 : Int) : Option ((Int × Int) ⊕ (Int)) := L19_2c F y15 y16 y13 y14 (fun s => some (.inl s)) (fun z => some (.inr z))
theorem L19_2n (F : Nat) (y15 : Int) (y16 : Int) (y13 : Int) (y14 : Int) {β : Type} (kA : (Int × Int) → Option β) (kO : Int → Option β) : L19_2c F y15 y16 y13 y14 kA kO = (L19_2 F y15 y16 y13 y14).bind (elimS kA kO) := by
  simp only [L19_2, L19_2c, Option.bind_assoc, cond_bind, Option.bind_some, elimS_l, elimS_r, elimS_bind]
@[reducible] def sA19_2 : List Sh := [(.pt 0 []), .i, .i]
@[reducible] def sAp119_2 : List Sh := [.i]
@[reducible] def sT19_2 : List TSh := [.blk 27 (.pr .i (.pr .i (.pr .i .un)))]
@[reducible] def sTp119_2 : List TSh := []
def lc19_2 (F : Nat) : Lc := mkL [1, 5, 6] sA19_2 sT19_2 [5] sAp119_2 sTp119_2 F (fun x y (s : Int × Int) => L19_2 F y.1.1 y.1.2.1 s.1 s.2) (fun x y => (x.2.1, x.2.2.1)) (fun x y (z : Int) => ((z, ()), ()))
theorem le19_2 (F : Nat) (x : dens sA19_2) (y : tdens sT19_2) (s : Int × Int) : sev (E19 F) 0 [] (cAt (bodyOf Tryd.f19) (0 :: 0 :: [1, 0, 1, 1, 1, 1, 1])) (0 :: 0 :: [1, 0, 1, 1, 1, 1, 1]) (mkSt [1, 5, 6] sA19_2 sT19_2 ((), s.1, s.2, ()) ((y.1.1, y.1.2.1, y.1.2.2.1, ()), ())) (kLoop 0 [1, 5, 6] sA19_2 sT19_2 [5] sAp119_2 sTp119_2 [] [] [] 0 (fun x y => some (.inl (x, y))) (fun x y => some (.inr (.inl (x, y)))) (fun x y => some (.inr (.inr (x, y))))) =
    L19_2c (β := Full sA19_2 sT19_2 sAp119_2 sTp119_2 [] []) F y.1.1 y.1.2.1 s.1 s.2 (fun s => some (.inl (((), s.1, s.2, ()), ((y.1.1, y.1.2.1, y.1.2.2.1, ()), ())))) (fun z => some (.inr (.inl ((z, ()), ())))) := by kernel_rfl
theorem lo19_2 (F : Nat) : LcOk Tryd.prog (E19 F) 0 (lc19_2 F) (cAt (bodyOf Tryd.f19) [1, 0, 1, 1, 1, 1, 1]) :=
  mkL_ok (lp := []) (id := 0) (b := cAt (bodyOf Tryd.f19) (0 :: 0 :: [1, 0, 1, 1, 1, 1, 1])) cok (cts19 F) mixed trivial (by kernel_rfl) (by kernel_rfl) (fun x y s => ((), s.1, s.2, ())) (fun x y s => ((y.1.1, y.1.2.1, y.1.2.2.1, ()), ())) (fun x y => rfl) (fun x y => rfl) (fun x y s kA kO => L19_2c F y.1.1 y.1.2.1 s.1 s.2 kA kO) (fun x y s kA kO => L19_2n F y.1.1 y.1.2.1 s.1 s.2 kA kO) (le19_2 F)
def T19c (F : Nat) (p0 : Int) (p1 : Int) (p2 : Int) {β : Type} (k : (Int × Int) → Option β) : Option β :=
  (Option.bind (T38 F p0 p1 p2) fun z11 => (bif (!(z11.1 == p0 && (z11.2.1 == p1 && (z11.2.2 == p2 && true)))) then (k ((0 : Int), (1 : Int))) else (bif (decide ((2740 : Int) < (w64 (p0 - (2000 : Int))))) then (k ((0 : Int), (2 : Int))) else (Option.bind (T35 F (w64 (p0 - (2000 : Int)))) fun z12 => (Option.bind (iter (fun s => L19_2 F p0 p1 s.1 s.2) F ((w64 ((w64 (z12 + p2)) - (1 : Int))), (1 : Int))) fun z20 => (bif (decide ((999999 : Int) < z20)) then (k ((0 : Int), (2 : Int))) else (k (z20, (0 : Int)))))))))
def T19 (F : Nat) (p0 : Int) (p1 : Int) (p2 : Int) : Option (Int × Int) := T19c F p0 p1 p2 some
theorem T19n (F : Nat) (p0 : Int) (p1 : Int) (p2 : Int) {β : Type} (k : (Int × Int) → Option β) : T19c F p0 p1 p2 k = (T19 F p0 p1 p2).bind k := by
  simp only [T19, T19c, Option.bind_assoc, cond_bind, Option.bind_some, elimS_bind]
@[reducible] def cA19 : List Sh := [(.pr .i (.pr .i (.pr .i .un)))]
@[reducible] def cB19 : List Sh := [.i, .i]
@[reducible] def cT19 : List TSh := []
@[reducible] def cU19 : List TSh := []
def ct19 (F : Nat) : Ct := mkC 0 cA19 cT19 cB19 cU19 (fun x y => T19 F x.1.1 x.1.2.1 x.1.2.2.1) (fun x y (z : Int × Int) => ((z.1, z.2, ()), ()))
theorem eq19 (F : Nat) (x : dens cA19) (y : tdens cT19) : sev (E19 F) 0 [([1, 0, 1, 1, 1, 1, 1], lc19_2 F)] (bodyOf Tryd.f19) [] (mkSt (rng 1) cA19 cT19 x y) (kFn (E19 F) 0 Tryd.f19.results.toList cB19 cU19 fun p q => some (p, q)) =
    T19c F x.1.1 x.1.2.1 x.1.2.2.1 (fun z => some ((z.1, z.2, ()), ())) := by kernel_rfl
theorem ok19 (F : Nat) : Sound Tryd.prog cfg 19 (ct19 F) :=
  mkC_ok (E := E19 F) (lp := [([1, 0, 1, 1, 1, 1, 1], lc19_2 F)]) (code := bodyOf Tryd.f19) Tryd.func19 rfl Tryd.ntmps19 rfl rfl cok (cts19 F) mixed ⟨lo19_2 F, trivial⟩ (by kernel_rfl) (fun x y k => T19c F x.1.1 x.1.2.1 x.1.2.2.1 k) (fun x y k => T19n F x.1.1 x.1.2.1 x.1.2.2.1 k) (eq19 F)
end Go.Proofs.YtdfmjgbnbfncmaaDoor
/- kinkeep/calendar.AddMonths: its twin, and that the call does what the twin says. Printed by a program. -/
namespace Go.Proofs.YtdfmjgbnbfncmaaDoor
open Go.Tw
set_option linter.unusedSimpArgs false
set_option linter.unusedVariables false
def ord24 : Nat → List (Tag × Nat)
  | _ => []
def al24 : Nat → Option Nat
  | _ => none
def E24 (F : Nat) : Ev := ⟨cfg, 42, ctOf [(17, ct17 F), (23, ct23 F), (38, ct38 F), (19, ct19 F)], ord24, ctOf [], al24⟩
theorem cts24 (F : Nat) : CtsOk Tryd.prog (E24 F) := cts_of (l := [(17, ct17 F), (23, ct23 F), (38, ct38 F), (19, ct19 F)]) (l' := []) rfl rfl ⟨⟨ok17 F, _, Tryd.func17, rfl, rfl⟩, ⟨⟨ok23 F, _, Tryd.func23, rfl, rfl⟩, ⟨⟨ok38 F, _, Tryd.func38, rfl, rfl⟩, ⟨⟨ok19 F, _, Tryd.func19, rfl, rfl⟩, trivial⟩⟩⟩⟩ trivial
def T24c (F : Nat) (p0 : Int) (p1 : Int) {β : Type} (k : (Int × Int) → Option β) : Option β :=
  (Option.bind (T17 F p0) fun z5 => (bif (z5.2.2.2 != (0 : Int)) then (k ((0 : Int), z5.2.2.2)) else (bif (decide (p1 < (-100000 : Int))) then (k ((0 : Int), (1 : Int))) else (bif (decide ((100000 : Int) < p1)) then (k ((0 : Int), (1 : Int))) else (Option.bind (T23 F p0) fun z6 => (bif (decide ((w64 (z6 + p1)) < (0 : Int))) then (k ((0 : Int), (1 : Int))) else (Option.bind (T38 F (w64 ((2000 : Int) + (w64 (Int.tdiv (w64 (z6 + p1)) (12 : Int))))) (w64 ((Int.tmod (w64 (z6 + p1)) (12 : Int)) + (1 : Int))) z5.2.2.1) fun z7 => (Option.bind (T19 F z7.1 z7.2.1 z7.2.2) fun z8 => (k (z8.1, z8.2))))))))))
def T24 (F : Nat) (p0 : Int) (p1 : Int) : Option (Int × Int) := T24c F p0 p1 some
theorem T24n (F : Nat) (p0 : Int) (p1 : Int) {β : Type} (k : (Int × Int) → Option β) : T24c F p0 p1 k = (T24 F p0 p1).bind k := by
  simp only [T24, T24c, Option.bind_assoc, cond_bind, Option.bind_some, elimS_bind]
@[reducible] def cA24 : List Sh := [.i, .i]
@[reducible] def cB24 : List Sh := [.i, .i]
@[reducible] def cT24 : List TSh := []
@[reducible] def cU24 : List TSh := []
def ct24 (F : Nat) : Ct := mkC 0 cA24 cT24 cB24 cU24 (fun x y => T24 F x.1 x.2.1) (fun x y (z : Int × Int) => ((z.1, z.2, ()), ()))
theorem eq24 (F : Nat) (x : dens cA24) (y : tdens cT24) : sev (E24 F) 0 [] (bodyOf Tryd.f24) [] (mkSt (rng 2) cA24 cT24 x y) (kFn (E24 F) 0 Tryd.f24.results.toList cB24 cU24 fun p q => some (p, q)) =
    T24c F x.1 x.2.1 (fun z => some ((z.1, z.2, ()), ())) := by kernel_rfl
theorem ok24 (F : Nat) : Sound Tryd.prog cfg 24 (ct24 F) :=
  mkC_ok (E := E24 F) (lp := []) (code := bodyOf Tryd.f24) Tryd.func24 rfl Tryd.ntmps24 rfl rfl cok (cts24 F) mixed trivial (by kernel_rfl) (fun x y k => T24c F x.1 x.2.1 k) (fun x y k => T24n F x.1 x.2.1 k) (eq24 F)
end Go.Proofs.YtdfmjgbnbfncmaaDoor
/- Contracts of functions of Go's library, out of the kit's shelf. No program is in it. -/
namespace Go.Tw
set_option linter.unusedSimpArgs false
set_option linter.unusedVariables false
open Go.RowKit Go.Sort 

theorem gm_kept {O : Own} {w w' : World} (h : Gm O [] [] w) (k : Kept none1 w w') : Gm O [] [] w' ∧ Stp (fun _ => True) O ([] : List Hd) w O [] w' := by
  refine ⟨⟨fun b all hb => ?_, fun b hb => h.lt b (Nat.le_trans k.size hb), rfl, fun id x hx => by simp at hx⟩, ⟨.refl _, .refl _, fun _ _ h => h, fun _ _ _ h _ => h, ?_⟩⟩
  · obtain ⟨ty, fz, e⟩ := h.im b all hb
    have hlt : b < w.heap.size := by
      rcases Nat.lt_or_ge b w.heap.size with hh | hh
      · exact hh
      · rw [Array.getElem?_eq_none hh] at e; cases e
    exact ⟨ty, fz, by rw [k.block b hlt (fun hh => hh)]; exact e⟩
  · exact ⟨k.os, k.tape, k.output, k.size, fun b hb _ => k.block b hb (fun hh => hh)⟩

theorem kept_grow (w : World) (k : Nat) (os : Array Obj) : Kept none1 w (grow (w.drewN k) os) := by
  refine ⟨rfl, rfl, rfl, ?_, fun b hb _ => ?_⟩
  · show w.heap.size ≤ (w.heap ++ os).size
    rw [Array.size_append]; omega
  · show (w.heap ++ os)[b]? = w.heap[b]?
    rw [Array.getElem?_append_left hb]

theorem kept_below {w w' : World} (h : Below w.heap.size w w') : Kept none1 w w' := ⟨h.os, h.tape, h.output, h.size, fun b hb _ => h.block b hb⟩

/-- A function that reads plain values, gives plain values and only adds blocks. -/
theorem ext_ok {P : Program} {c : Cfg} {f : FuncId} {A B : List Sh} {τ : Type} {t : dens A → tdens [] → Option τ} {e : dens A → tdens [] → τ → dens B × tdens []}
    (h : ∀ x z, t x () = some z → ∀ (O : Own) (w : World) (cs : List (List Value)), GO c O → Gm O [] [] w → RL O [] (encs A x) cs →
      Calls P f (vals (encs A x) cs).toArray w (fun ex w' => ∃ ds, RL O [] (encs B (e x () z).1) ds ∧ ex = .returned (resV (encs B (e x () z).1) ds) ∧ Kept none1 w w')) : Sound P c f (mkC 0 A [] B [] t e) := by
  intro x y p q hrun O ρ w cs hG hM hR
  have hrun' : (t x y).bind (fun z => some ((e x y z).1, (e x y z).2)) = some (p, q) := hrun
  obtain ⟨z, h1, h2⟩ := bindS hrun'
  have h2' : ((e x y z).1, (e x y z).2) = (p, q) := Option.some.inj h2
  have hp : p = (e x y z).1 := (congrArg Prod.fst h2').symm
  have hq : q = (e x y z).2 := (congrArg Prod.snd h2').symm
  subst hp hq
  have hρ : ρ = [] := by
    have := hM.len
    cases ρ with
    | nil => rfl
    | cons _ _ => exact absurd this (by simp [mkC, encTs])
  subst hρ
  show Calls P f _ w (Ret _)
  refine (h x z h1 O w cs hG hM hR).mono fun ex w' ⟨ds, g1, g2, g3⟩ => ?_
  subst g2
  obtain ⟨k1, k2⟩ := gm_kept hM g3
  exact ⟨O, [], ds, k1, k2, g1, rfl⟩

/- ## strconv.Itoa -/
def digsL : Nat → Nat → List UInt8 → List UInt8
  | 0, _, l => l
  | k + 1, n, l => bif Nat.blt n 10 then UInt8.ofNat (48 + n) :: l else digsL k (n / 10) (UInt8.ofNat (48 + n % 10) :: l)
def itoaL : Int → List UInt8
  | .ofNat n => digsL 20 n []
  | .negSucc n => 45 :: digsL 20 (n + 1) []
def TItoa (_ : Nat) (n : Int) : Option (List UInt8) := bif decide (-9223372036854775808 ≤ n) && decide (n ≤ 9223372036854775807) then some (itoaL n) else none

theorem digsL_eq : ∀ (k n : Nat) (l : List UInt8), n < 10 ^ k → 1 ≤ k → digsL k n l = Lib.decDigits n ++ l
  | 0, n, l, h, h1 => absurd h1 (by omega)
  | k + 1, n, l, h, _ => by
    rw [Lib.decDigits]
    by_cases hn : n < 10
    · have e : Nat.blt n 10 = true := by rw [Nat.blt_eq]; exact hn
      rw [dif_pos hn]
      simp only [digsL, e, cond_true]
      rfl
    · have e : Nat.blt n 10 = false := by rw [Bool.eq_false_iff]; intro h; rw [Nat.blt_eq] at h; exact hn h
      rw [dif_neg hn]
      simp only [digsL, e, cond_false]
      have hk : 1 ≤ k := by
        rcases Nat.eq_zero_or_pos k with rfl | hk
        · simp at h; omega
        · exact hk
      have h10 : n / 10 < 10 ^ k := by
        rw [Nat.pow_succ] at h
        omega
      rw [digsL_eq k (n / 10) _ h10 hk, List.append_assoc]
      rfl

theorem itoaL_eq {n : Int} (h0 : -9223372036854775808 ≤ n) (h1 : n ≤ 9223372036854775807) : itoaL n = Lib.itoa n := by
  have hp : (10 : Nat) ^ 20 = 100000000000000000000 := by decide
  cases n with
  | ofNat n =>
    have h1' : (n : Int) ≤ 9223372036854775807 := h1
    have hn : ¬ (Int.ofNat n < 0) := by
      show ¬ ((n : Int) < 0)
      omega
    unfold Lib.itoa
    rw [if_neg hn]
    show digsL 20 n [] = Lib.decDigits n
    rw [digsL_eq 20 n [] (by omega) (by omega), List.append_nil]
  | negSucc n =>
    have h0' : -9223372036854775808 ≤ -((n : Int) + 1) := by rw [Int.negSucc_eq] at h0; exact h0
    unfold Lib.itoa
    rw [if_pos (Int.negSucc_lt_zero n)]
    show 45 :: digsL 20 (n + 1) [] = 45 :: Lib.decDigits (n + 1)
    rw [digsL_eq 20 (n + 1) [] (by omega) (by omega), List.append_nil]

theorem LR_u64 {O : Own} : ∀ {xs : List UInt64} {cs : List Value}, LR (TR O .u64) xs cs → cs = xs.map vU64
  | [], cs, h => h
  | x :: xs, cs, h => by
    obtain ⟨c, d, rfl, h1, h2⟩ := h
    rw [LR_u64 h2]
    have h1 : c = [vU64 x] := h1
    rw [h1]; rfl

theorem itoa_ok {P : Program} {c : Cfg} {f g : Nat} {v : Vector UInt64 20} (F : Nat)
    (h : ∀ (n : Int), -9223372036854775808 ≤ n → n ≤ 9223372036854775807 → ∀ w, Lib.TabIs P w "internal/strconv.uint64pow10" .u64 Lib.pow10Tab → Calls P f #[.int .i64 n] w fun e w' => e = .returned (.string ⟨(Lib.itoa n).toArray⟩) ∧ ∃ k os, w' = grow (w.drewN k) os)
    (hg : P.globalNamed "internal/strconv.uint64pow10" = some g) (hc : c.G g = some ⟨.ar 20 .u64, v⟩) (hv : (Lib.pow10Tab.map fun z => Value.int .u64 z) = v.toList.map vU64) :
    Sound P c f (mkC 0 [.i] [] [.str] [] (fun x _ => TItoa F x.1) (fun x y (z : List UInt8) => ((z, ()), ()))) := by
  refine ext_ok fun x z hz O w cs hG hM hR => ?_
  obtain ⟨n, u⟩ := x
  have hz : TItoa F n = some z := hz
  by_cases hb : -9223372036854775808 ≤ n ∧ n ≤ 9223372036854775807
  · have hz2 : z = itoaL n := by
      simp only [TItoa, hb.1, hb.2, decide_true, Bool.and_self, cond_true, Option.some.injEq] at hz
      exact hz.symm
    subst hz2
    obtain ⟨c0, r, rfl, ⟨rfl, _⟩, hr⟩ := hR
    have hr : r = [] := hr
    subst hr
    obtain ⟨cs, t1, t2⟩ := hG.1 g _ hc
    have t1 : LR (TR O .u64) v.toList cs := t1
    have hcs := LR_u64 t1
    subst hcs
    obtain ⟨ty, fz, e⟩ := hM.im g _ t2
    have htab : Lib.TabIs P w "internal/strconv.uint64pow10" .u64 Lib.pow10Tab := by
      simp only [Lib.TabIs, World.var?, hg, Option.bind_some, e]
      rw [hv]
    show Calls P f #[vI n] w _
    refine (h n hb.1 hb.2 w htab).mono fun ex w' ⟨he, k, os, hw⟩ => ?_
    subst hw he
    refine ⟨[[vS (itoaL n)]], ⟨_, _, rfl, ⟨rfl, rfl⟩, rfl⟩, ?_, kept_grow w k os⟩
    rw [← itoaL_eq hb.1 hb.2]
    rfl
  · exfalso
    have : (decide (-9223372036854775808 ≤ n) && decide (n ≤ 9223372036854775807)) = false := by
      rw [Bool.eq_false_iff]; intro h
      simp only [Bool.and_eq_true, decide_eq_true_eq] at h
      exact hb h
    simp only [TItoa, this, cond_false] at hz
    cases hz

/- ## strings.Repeat -/
def TRep (_ : Nat) (s : List UInt8) (n : Int) : Option (List UInt8) := bif decide (0 ≤ n) && (decide (n ≤ 9223372036854775807) && decide (s.length * n.toNat ≤ 140737488355328)) then some (Lib.repeatL s n.toNat) else none

theorem rep_ok {P : Program} {c : Cfg} {f : Nat} (F : Nat)
    (h : ∀ (s : ByteArray) (k : Nat) (w : World), k ≤ 9223372036854775807 → s.size * k ≤ 140737488355328 → Calls P f #[.string s, .int .i64 k] w fun e w' => e = .returned (.string ⟨(Lib.repeatL s.data.toList k).toArray⟩) ∧ Below w.heap.size w w') :
    Sound P c f (mkC 0 [.str, .i] [] [.str] [] (fun x _ => TRep F x.1 x.2.1) (fun x y (z : List UInt8) => ((z, ()), ()))) := by
  refine ext_ok fun x z hz O w cs hG hM hR => ?_
  obtain ⟨s, n, u⟩ := x
  have hz : TRep F s n = some z := hz
  by_cases hb : (decide (0 ≤ n) && (decide (n ≤ 9223372036854775807) && decide (s.length * n.toNat ≤ 140737488355328))) = true
  · simp only [TRep, hb, cond_true, Option.some.injEq] at hz
    subst hz
    simp only [Bool.and_eq_true, decide_eq_true_eq] at hb
    obtain ⟨c0, r, rfl, ⟨rfl, _⟩, c1, r1, rfl, ⟨rfl, _⟩, hr⟩ := hR
    have hr : r1 = [] := hr
    subst hr
    obtain ⟨k, rfl⟩ : ∃ k : Nat, n = (k : Int) := ⟨n.toNat, (Int.toNat_of_nonneg hb.1).symm⟩
    rw [Int.toNat_natCast] at hb
    have hk : k ≤ 9223372036854775807 := Int.ofNat_le.1 hb.2.1
    show Calls P f #[.string ⟨s.toArray⟩, .int .i64 (k : Int)] w _
    refine (h ⟨s.toArray⟩ k w hk (by show s.toArray.size * k ≤ _; rw [List.size_toArray]; exact hb.2.2)).mono fun ex w' ⟨he, hw⟩ => ?_
    subst he
    refine ⟨[[vS (Lib.repeatL s k)]], ⟨_, _, rfl, ⟨rfl, rfl⟩, rfl⟩, rfl, kept_below hw⟩
  · exfalso
    rw [Bool.not_eq_true] at hb
    simp only [TRep, hb, cond_false] at hz
    cases hz

/- ## strings.Split -/
def TSplit (_ : Nat) (s sep : List UInt8) : Option (List (List UInt8)) := bif decide (s.length < 4294967281) && decide (1 ≤ sep.length) then some (Lib.split s sep) else none

theorem split_cells (s sep : List UInt8) : (Lib.splitB ⟨sep.toArray⟩ 0 (Lib.count s sep) ⟨s.toArray⟩).map Value.string = (Lib.split s sep).map vS := by
  have h := Lib.splitB_data ⟨sep.toArray⟩ 0 (Lib.count s sep) ⟨s.toArray⟩
  simp only [List.toList_toArray] at h
  unfold Lib.split
  rw [← h, List.map_map]
  apply List.map_congr_left
  intro a _
  rfl

theorem LR_mapS {O : Own} : ∀ (xs : List (List UInt8)), LR (TR O .s) xs (xs.map vS)
  | [] => rfl
  | x :: xs => ⟨[vS x], xs.map vS, rfl, rfl, LR_mapS xs⟩

theorem split_ok {P : Program} {c : Cfg} {f gm t9 : Nat} (F : Nat)
    (h : ∀ (s sep : ByteArray) (m : Int) (w : World), s.size < 4294967281 → w.cell? ⟨gm, 0, none⟩ = some (.int .i64 m) → 1 ≤ sep.size → Calls P f #[.string s, .string sep] w fun e w' =>
      e = .returned (.slice (some ⟨w.heap.size, 0, none⟩) (Lib.countB s sep + 1) (Lib.countB s sep + 1)) ∧ w' = w.alloc (.cells ((Lib.splitB sep 0 (Lib.countB s sep) s).map Value.string).toArray t9))
    (hc : c.V gm = true) : Sound P c f (mkC 0 [.str, .str] [] [.ro .s] [] (fun x _ => TSplit F x.1 x.2.1) (fun x y (z : List (List UInt8)) => ((z, ()), ()))) := by
  intro x y p q hrun O ρ w cs hG hM hR
  obtain ⟨s, sep, u⟩ := x
  have hrun' : (TSplit F s sep).bind (fun z => some ((z, ()), ())) = some (p, q) := hrun
  obtain ⟨z, hz, h2⟩ := bindS hrun'
  have h2' : (((z, ()), ()) : dens [Sh.ro Ty.s] × Unit) = (p, q) := Option.some.inj h2
  have hp : p = (z, ()) := (congrArg Prod.fst h2').symm
  subst hp
  have hρ : ρ = [] := by
    have := hM.len
    cases ρ with
    | nil => rfl
    | cons _ _ => exact absurd this (by simp [mkC, encTs])
  subst hρ
  by_cases hb : (decide (s.length < 4294967281) && decide (1 ≤ sep.length)) = true
  · simp only [TSplit, hb, cond_true, Option.some.injEq] at hz
    subst hz
    simp only [Bool.and_eq_true, decide_eq_true_eq] at hb
    obtain ⟨c0, r, rfl, ⟨rfl, _⟩, c1, r1, rfl, ⟨rfl, _⟩, hr⟩ := hR
    have hr : r1 = [] := hr
    subst hr
    obtain ⟨m, rest, t2⟩ := hG.2 gm hc
    obtain ⟨ty, fz, e⟩ := hM.im gm _ t2
    have hm : w.cell? ⟨gm, 0, none⟩ = some (.int .i64 m) := by simp [World.cell?, e, vI]
    have hcnt : Lib.countB (⟨s.toArray⟩ : ByteArray) ⟨sep.toArray⟩ = Lib.count s sep := rfl
    have hlen : (Lib.split s sep).length = Lib.count s sep + 1 := by
      have := Lib.splitB_all (⟨sep.toArray⟩ : ByteArray) (by show 1 ≤ sep.toArray.size; rw [List.size_toArray]; exact hb.2) 0 _ (⟨s.toArray⟩ : ByteArray) rfl
      rw [hcnt] at this
      have h3 := congrArg List.length (split_cells s sep)
      rw [List.length_map, List.length_map] at h3
      omega
    show Calls P f #[.string ⟨s.toArray⟩, .string ⟨sep.toArray⟩] w (Ret _)
    refine (h ⟨s.toArray⟩ ⟨sep.toArray⟩ m w (by show s.toArray.size < _; rw [List.size_toArray]; exact hb.1) hm (by show 1 ≤ sep.toArray.size; rw [List.size_toArray]; exact hb.2)).mono fun ex w' ⟨he, hw⟩ => ?_
    rw [hcnt, split_cells] at hw
    rw [hcnt, ← hlen] at he
    subst he hw
    have hsz : (w.alloc (.cells ((Lib.split s sep).map vS).toArray t9)).heap.size = w.heap.size + 1 := Array.size_push ..
    have hold : ∀ b, b < w.heap.size → (w.alloc (.cells ((Lib.split s sep).map vS).toArray t9)).heap[b]? = w.heap[b]? := by
      intro b hb'
      show (w.heap.push (Obj.cells ((Lib.split s sep).map vS).toArray t9))[b]? = _
      rw [Array.getElem?_push, if_neg (Nat.ne_of_lt hb')]
    have hnew : ∃ fz, (w.alloc (.cells ((Lib.split s sep).map vS).toArray t9)).heap[w.heap.size]? = some (.cells ((Lib.split s sep).map vS).toArray t9 fz) := by
      have h0 : (w.heap.push (Obj.cells ((Lib.split s sep).map vS).toArray t9))[w.heap.size]? = some (Obj.cells ((Lib.split s sep).map vS).toArray t9) := by
        rw [Array.getElem?_push, if_pos rfl]
      exact ⟨_, h0⟩
    refine ⟨fun b => if b = w.heap.size then .im ((Lib.split s sep).map vS) else O b, [], [[.slice (some ⟨w.heap.size, 0, none⟩) (Lib.split s sep).length (Lib.split s sep).length]], ⟨?_, ?_, rfl, fun id x hx => by simp [mkC, encTs] at hx⟩, ⟨.refl _, ?_, ?_, ?_, ?_⟩, ?_, rfl⟩
    · intro b all hb'
      by_cases hbe : b = w.heap.size
      · subst hbe
        rw [if_pos rfl] at hb'
        cases hb'
        obtain ⟨fz, hf⟩ := hnew
        exact ⟨t9, fz, hf⟩
      · rw [if_neg hbe] at hb'
        obtain ⟨ty, fz, e⟩ := hM.im b all hb'
        have hlt : b < w.heap.size := by
          rcases Nat.lt_or_ge b w.heap.size with hh | hh
          · exact hh
          · rw [Array.getElem?_eq_none hh] at e; cases e
        exact ⟨ty, fz, by rw [hold b hlt]; exact e⟩
    · intro b hb'
      rw [hsz] at hb'
      show (if b = w.heap.size then _ else O b) = _
      rw [if_neg (by omega)]
      exact hM.lt b (by omega)
    · intro b all hb'
      show (if b = w.heap.size then _ else O b) = _
      rw [if_neg (fun hbe => by rw [hM.lt b (by omega)] at hb'; cases hb')]
      exact hb'
    · intro b hlt hb'
      show (if b = w.heap.size then _ else O b) = _
      rw [if_neg (by omega)]; exact hb'
    · intro b id hlt hb' _
      show (if b = w.heap.size then _ else O b) = _
      rw [if_neg (by omega)]; exact hb'
    · exact ⟨rfl, rfl, rfl, by rw [hsz]; omega, fun b hlt _ => hold b hlt⟩
    · refine ⟨_, _, rfl, ⟨_, (Lib.split s sep).map vS, rfl, LR_mapS _, .inr ⟨w.heap.size, 0, _, rfl, Nat.le_refl _, .all ?_⟩⟩, rfl⟩
      show (if w.heap.size = w.heap.size then _ else _) = _
      rw [if_pos rfl]
  · exfalso
    rw [Bool.not_eq_true] at hb
    simp only [TSplit, hb, cond_false] at hz
    cases hz
end Go.Tw
/-
  DERIVED: THE SHELF's CONTRACTS AT THIS DUMP, IN PLAIN WORDS (tools/lay-plain.mjs out of 'TrydShelf.lean', which tools/lay-shelf.mjs wrote): THE SAME DECLARATIONS UNDER THE SAME NAMES: 'import', 'namespace', 'open', 'def', 'theorem' AND NOTHING ELSE: no command of the shelf's: FOR A HAND-IN. Each laying: the table of numbers ('.._ren') and one theorem, a field a fact of the dump's own or the kernel's comparison; each contract: ONE APPLICATION.
-/
namespace Go.Proofs
open Go.Shelf
def Tryd.laysM171_ren : Go.Shelf.Ren := ⟨fun | 171 => 44 | 243 => 47 | 246 => 57 | 283 => 67 | 284 => 68 | 285 => 69 | 286 => 70 | 129 => 79 | 317 => 78 | 318 => 80 | 319 => 81 | 320 => 82 | 337 => 85 | 338 => 86 | n => n, fun | 3 => 3 | 9 => 9 | 2 => 2 | 4 => 4 | 171 => 81 | 0 => 0 | 53 => 73 | 37 => 51 | 5 => 5 | 173 => 84 | 212 => 90 | 51 => 70 | 20 => 20 | 213 => 91 | 46 => 53 | 232 => 99 | 233 => 100 | n => n, fun | 17 => 1 | 18 => 4 | 19 => 5 | n => n⟩
theorem Tryd.laysM171 : Go.Proofs.LaysM.n171 Tryd.prog Tryd.laysM171_ren := {
  mixed := by kernel_rfl
  f129 := Tryd.func79.trans (congrArg some (by kernel_rfl))
  f171 := Tryd.func44.trans (congrArg some (by kernel_rfl))
  f243 := Tryd.func47.trans (congrArg some (by kernel_rfl))
  f246 := Tryd.func57.trans (congrArg some (by kernel_rfl))
  f283 := Tryd.func67.trans (congrArg some (by kernel_rfl))
  f284 := Tryd.func68.trans (congrArg some (by kernel_rfl))
  f285 := Tryd.func69.trans (congrArg some (by kernel_rfl))
  f286 := Tryd.func70.trans (congrArg some (by kernel_rfl))
  f317 := Tryd.func78.trans (congrArg some (by kernel_rfl))
  f318 := Tryd.func80.trans (congrArg some (by kernel_rfl))
  f319 := Tryd.func81.trans (congrArg some (by kernel_rfl))
  f320 := Tryd.func82.trans (congrArg some (by kernel_rfl))
  f337 := Tryd.func85.trans (congrArg some (by kernel_rfl))
  f338 := Tryd.func86.trans (congrArg some (by kernel_rfl))
  t0 := Tryd.underlying0
  a0 := Tryd.isAgg0
  z0 := Tryd.sizeOf0
  v0 := Tryd.zeroValue0
  t2 := Tryd.underlying2
  a2 := Tryd.isAgg2
  z2 := Tryd.sizeOf2
  v2 := Tryd.zeroValue2
  t3 := Tryd.underlying3
  a3 := Tryd.isAgg3
  z3 := Tryd.sizeOf3
  v3 := Tryd.zeroValue3
  t4 := Tryd.underlying4
  a4 := Tryd.isAgg4
  z4 := Tryd.sizeOf4
  v4 := Tryd.zeroValue4
  t5 := Tryd.underlying5
  a5 := Tryd.isAgg5
  z5 := Tryd.sizeOf5
  v5 := Tryd.zeroValue5
  t9 := Tryd.underlying9
  a9 := Tryd.isAgg9
  z9 := Tryd.sizeOf9
  v9 := Tryd.zeroValue9
  t20 := Tryd.underlying20
  a20 := Tryd.isAgg20
  z20 := Tryd.sizeOf20
  v20 := Tryd.zeroValue20
  t37 := Tryd.underlying51
  a37 := Tryd.isAgg51
  z37 := Tryd.sizeOf51
  v37 := Tryd.zeroValue51
  t46 := Tryd.underlying53
  a46 := Tryd.isAgg53
  z46 := Tryd.sizeOf53
  v46 := Tryd.zeroValue53
  t51 := Tryd.underlying70
  a51 := Tryd.isAgg70
  z51 := Tryd.sizeOf70
  v51 := Tryd.zeroValue70
  t53 := Tryd.underlying73
  a53 := Tryd.isAgg73
  z53 := Tryd.sizeOf73
  v53 := Tryd.zeroValue73
  t171 := Tryd.underlying81
  a171 := Tryd.isAgg81
  z171 := Tryd.sizeOf81
  v171 := Tryd.zeroValue81
  t173 := Tryd.underlying84
  a173 := Tryd.isAgg84
  z173 := Tryd.sizeOf84
  v173 := Tryd.zeroValue84
  t212 := Tryd.underlying90
  a212 := Tryd.isAgg90
  z212 := Tryd.sizeOf90
  v212 := Tryd.zeroValue90
  t213 := Tryd.underlying91
  a213 := Tryd.isAgg91
  z213 := Tryd.sizeOf91
  t232 := Tryd.underlying99
  a232 := Tryd.isAgg99
  z232 := Tryd.sizeOf99
  v232 := Tryd.zeroValue99
  t233 := Tryd.underlying100
  a233 := Tryd.isAgg100
  z233 := Tryd.sizeOf100
  v233 := Tryd.zeroValue100
  g17 := by kernel_rfl
  g18 := by kernel_rfl
  g19 := by kernel_rfl
  i0 := by kernel_rfl
  i2 := by kernel_rfl
  i3 := by kernel_rfl
  i4 := by kernel_rfl
  i5 := by kernel_rfl
  i9 := by kernel_rfl
  i20 := by kernel_rfl
  i37 := by kernel_rfl
  i46 := by kernel_rfl
  i51 := by kernel_rfl
  i53 := by kernel_rfl
  i171 := by kernel_rfl
  i173 := by kernel_rfl
  i212 := by kernel_rfl
  i232 := by kernel_rfl
  i233 := by kernel_rfl
  m17 := by kernel_rfl
  m18 := by kernel_rfl
  m19 := by kernel_rfl }
open Go.RowKit Go.Sort Go.Lib in
/-- strconv.Itoa: "Itoa is equivalent to FormatInt(int64(i), 10).": i's DECIMAL NUMERAL ('Lib.itoa': a '-' where i is negative, then the digits), FOR EVERY int. The world behind the call: the world before it, new blocks behind the heap (the library's 'var a [24]byte'), draws. (LAID: no walk: one application.) -/
theorem Tryd.strconv_Itoa (n : Int) (h0 : -9223372036854775808 ≤ n) (h1 : n ≤ 9223372036854775807) (w : World) (htab : Lib.TabIs Tryd.prog w "internal/strconv.uint64pow10" .u64 Lib.pow10Tab) :
    Calls Tryd.prog 44 #[.int .i64 n] w fun e w' => e = .returned (.string ⟨(Lib.itoa n).toArray⟩) ∧ ∃ k os, w' = grow (w.drewN k) os := Any.strconv_Itoa Tryd.laysM171 n h0 h1 w htab
def Tryd.lays146_ren : Go.Shelf.Ren := ⟨fun | 146 => 42 | 221 => 46 | 268 => 54 | 138 => 55 | 143 => 56 | 195 => 63 | 197 => 64 | 218 => 65 | 219 => 66 | 260 => 73 | 217 => 74 | 225 => 75 | 224 => 76 | 267 => 77 | 266 => 83 | 314 => 84 | n => n, fun | 9 => 9 | 31 => 44 | 3 => 3 | 4 => 4 | 0 => 0 | 105 => 78 | 21 => 21 | 5 => 5 | 46 => 53 | 119 => 93 | 139 => 96 | 138 => 95 | 146 => 71 | 51 => 70 | n => n, fun | 1 => 0 | 3 => 2 | 4 => 3 | n => n⟩
theorem Tryd.lays146 : Go.Proofs.Lays.n146 Tryd.prog Tryd.lays146_ren := {
  mixed := by kernel_rfl
  f138 := Tryd.func55.trans (congrArg some (by kernel_rfl))
  f143 := Tryd.func56.trans (congrArg some (by kernel_rfl))
  f146 := Tryd.func42.trans (congrArg some (by kernel_rfl))
  f195 := Tryd.func63.trans (congrArg some (by kernel_rfl))
  f197 := Tryd.func64.trans (congrArg some (by kernel_rfl))
  f217 := Tryd.func74.trans (congrArg some (by kernel_rfl))
  f218 := Tryd.func65.trans (congrArg some (by kernel_rfl))
  f219 := Tryd.func66.trans (congrArg some (by kernel_rfl))
  f221 := Tryd.func46.trans (congrArg some (by kernel_rfl))
  f224 := Tryd.func76.trans (congrArg some (by kernel_rfl))
  f225 := Tryd.func75.trans (congrArg some (by kernel_rfl))
  f260 := Tryd.func73.trans (congrArg some (by kernel_rfl))
  f266 := Tryd.func83.trans (congrArg some (by kernel_rfl))
  f267 := Tryd.func77.trans (congrArg some (by kernel_rfl))
  f268 := Tryd.func54.trans (congrArg some (by kernel_rfl))
  f314 := Tryd.func84.trans (congrArg some (by kernel_rfl))
  t0 := Tryd.underlying0
  a0 := Tryd.isAgg0
  z0 := Tryd.sizeOf0
  v0 := Tryd.zeroValue0
  t3 := Tryd.underlying3
  a3 := Tryd.isAgg3
  z3 := Tryd.sizeOf3
  v3 := Tryd.zeroValue3
  t4 := Tryd.underlying4
  a4 := Tryd.isAgg4
  z4 := Tryd.sizeOf4
  v4 := Tryd.zeroValue4
  t5 := Tryd.underlying5
  a5 := Tryd.isAgg5
  z5 := Tryd.sizeOf5
  v5 := Tryd.zeroValue5
  t9 := Tryd.underlying9
  a9 := Tryd.isAgg9
  z9 := Tryd.sizeOf9
  v9 := Tryd.zeroValue9
  t21 := Tryd.underlying21
  a21 := Tryd.isAgg21
  z21 := Tryd.sizeOf21
  v21 := Tryd.zeroValue21
  t31 := Tryd.underlying44
  a31 := Tryd.isAgg44
  z31 := Tryd.sizeOf44
  v31 := Tryd.zeroValue44
  t46 := Tryd.underlying53
  a46 := Tryd.isAgg53
  z46 := Tryd.sizeOf53
  v46 := Tryd.zeroValue53
  t51 := Tryd.underlying70
  a51 := Tryd.isAgg70
  z51 := Tryd.sizeOf70
  v51 := Tryd.zeroValue70
  t105 := Tryd.underlying78
  a105 := Tryd.isAgg78
  z105 := Tryd.sizeOf78
  v105 := Tryd.zeroValue78
  t119 := Tryd.underlying93
  a119 := Tryd.isAgg93
  z119 := Tryd.sizeOf93
  t138 := Tryd.underlying95
  a138 := Tryd.isAgg95
  z138 := Tryd.sizeOf95
  v138 := Tryd.zeroValue95
  t139 := Tryd.underlying96
  a139 := Tryd.isAgg96
  z139 := Tryd.sizeOf96
  v139 := Tryd.zeroValue96
  t146 := Tryd.underlying71
  a146 := Tryd.isAgg71
  z146 := Tryd.sizeOf71
  v146 := Tryd.zeroValue71
  g1 := by kernel_rfl
  g3 := by kernel_rfl
  g4 := by kernel_rfl }
open Go.RowKit Go.Lib in
/-- strings.Split. (LAID: no walk: one application.) -/
theorem Tryd.strings_Split (s sep : ByteArray) (m : Int) (w : World) (hs : s.size < 4294967281) (hm : w.cell? ⟨0, 0, none⟩ = some (.int .i64 m)) (h1 : 1 ≤ sep.size) :
    Calls Tryd.prog 42 #[.string s, .string sep] w fun e w' =>
      e = .returned (.slice (some ⟨w.heap.size, 0, none⟩) (Lib.countB s sep + 1) (Lib.countB s sep + 1)) ∧ w' = w.alloc (.cells ((Lib.splitB sep 0 (Lib.countB s sep) s).map Value.string).toArray 9) := Any.strings_Split Tryd.lays146 (by kernel_rfl) s sep m w hs hm h1
def Tryd.lays105_ren : Go.Shelf.Ren := ⟨fun | 105 => 45 | 212 => 48 | 99 => 49 | 165 => 50 | 166 => 51 | 170 => 52 | 169 => 53 | 263 => 58 | 264 => 59 | 206 => 60 | 240 => 61 | 241 => 62 | 276 => 71 | 277 => 72 | n => n, fun | 9 => 9 | 3 => 3 | 4 => 4 | 20 => 20 | 0 => 0 | 46 => 53 | 109 => 54 | 5 => 5 | 72 => 59 | 76 => 63 | 51 => 70 | 146 => 71 | 53 => 73 | 148 => 74 | 70 => 57 | 37 => 51 | 75 => 62 | 127 => 76 | 164 => 86 | 80 => 66 | n => n, fun | n => n⟩
theorem Tryd.lays105 : Go.Proofs.Lays.n105 Tryd.prog Tryd.lays105_ren := {
  mixed := by kernel_rfl
  f99 := Tryd.func49.trans (congrArg some (by kernel_rfl))
  f105 := Tryd.func45.trans (congrArg some (by kernel_rfl))
  f165 := Tryd.func50.trans (congrArg some (by kernel_rfl))
  f166 := Tryd.func51.trans (congrArg some (by kernel_rfl))
  f169 := Tryd.func53.trans (congrArg some (by kernel_rfl))
  f170 := Tryd.func52.trans (congrArg some (by kernel_rfl))
  f206 := Tryd.func60.trans (congrArg some (by kernel_rfl))
  f212 := Tryd.func48.trans (congrArg some (by kernel_rfl))
  f240 := Tryd.func61.trans (congrArg some (by kernel_rfl))
  f241 := Tryd.func62.trans (congrArg some (by kernel_rfl))
  f263 := Tryd.func58.trans (congrArg some (by kernel_rfl))
  f264 := Tryd.func59.trans (congrArg some (by kernel_rfl))
  f276 := Tryd.func71.trans (congrArg some (by kernel_rfl))
  f277 := Tryd.func72.trans (congrArg some (by kernel_rfl))
  t0 := Tryd.underlying0
  a0 := Tryd.isAgg0
  z0 := Tryd.sizeOf0
  v0 := Tryd.zeroValue0
  t3 := Tryd.underlying3
  a3 := Tryd.isAgg3
  z3 := Tryd.sizeOf3
  v3 := Tryd.zeroValue3
  t4 := Tryd.underlying4
  a4 := Tryd.isAgg4
  z4 := Tryd.sizeOf4
  v4 := Tryd.zeroValue4
  t5 := Tryd.underlying5
  a5 := Tryd.isAgg5
  z5 := Tryd.sizeOf5
  v5 := Tryd.zeroValue5
  t9 := Tryd.underlying9
  a9 := Tryd.isAgg9
  z9 := Tryd.sizeOf9
  v9 := Tryd.zeroValue9
  t20 := Tryd.underlying20
  a20 := Tryd.isAgg20
  z20 := Tryd.sizeOf20
  v20 := Tryd.zeroValue20
  t37 := Tryd.underlying51
  a37 := Tryd.isAgg51
  z37 := Tryd.sizeOf51
  v37 := Tryd.zeroValue51
  t46 := Tryd.underlying53
  a46 := Tryd.isAgg53
  z46 := Tryd.sizeOf53
  v46 := Tryd.zeroValue53
  t51 := Tryd.underlying70
  a51 := Tryd.isAgg70
  z51 := Tryd.sizeOf70
  v51 := Tryd.zeroValue70
  t53 := Tryd.underlying73
  a53 := Tryd.isAgg73
  z53 := Tryd.sizeOf73
  v53 := Tryd.zeroValue73
  t70 := Tryd.underlying57
  a70 := Tryd.isAgg57
  z70 := Tryd.sizeOf57
  v70 := Tryd.zeroValue57
  t72 := Tryd.underlying59
  a72 := Tryd.isAgg59
  z72 := Tryd.sizeOf59
  v72 := Tryd.zeroValue59
  t75 := Tryd.underlying62
  a75 := Tryd.isAgg62
  z75 := Tryd.sizeOf62
  v75 := Tryd.zeroValue62
  t76 := Tryd.underlying63
  a76 := Tryd.isAgg63
  z76 := Tryd.sizeOf63
  v76 := Tryd.zeroValue63
  t109 := Tryd.underlying54
  a109 := Tryd.isAgg54
  z109 := Tryd.sizeOf54
  v109 := Tryd.zeroValue54
  t127 := Tryd.underlying76
  a127 := Tryd.isAgg76
  z127 := Tryd.sizeOf76
  v127 := Tryd.zeroValue76
  t146 := Tryd.underlying71
  a146 := Tryd.isAgg71
  z146 := Tryd.sizeOf71
  v146 := Tryd.zeroValue71
  t148 := Tryd.underlying74
  a148 := Tryd.isAgg74
  z148 := Tryd.sizeOf74
  v148 := Tryd.zeroValue74
  t164 := Tryd.underlying86
  a164 := Tryd.isAgg86
  z164 := Tryd.sizeOf86
  v164 := Tryd.zeroValue86 }
theorem Tryd.Builder_Extra_105 : Builder.Extra Tryd.prog Tryd.lays105_ren := {
  sizeBuilder := by kernel_rfl
  liesBuilder := by kernel_rfl
  t5 := Tryd.underlying5
  a5 := Tryd.isAgg5
  z5 := Tryd.sizeOf5
  v5 := Tryd.zeroValue5
  infoByte := by kernel_rfl
  cellsByte := by kernel_rfl
  sizeByte := by kernel_rfl
  neB5 := by decide }
open Go.RowKit Go.Lib in
/-- **strings.Repeat: count ≥ 0, the result within one allocation: count copies of s.** (LAID: no walk: one application.) -/
theorem Tryd.strings_Repeat (s : ByteArray) (c : Nat) (w : World) (hc : c ≤ 9223372036854775807) (hlen : s.size * c ≤ 140737488355328) :
    Calls Tryd.prog 45 #[.string s, .int .i64 c] w fun e w' => e = .returned (.string ⟨(Lib.repeatL s.data.toList c).toArray⟩) ∧ Below w.heap.size w w' := Any.strings_Repeat Tryd.lays105 Tryd.Builder_Extra_105 s c w hc hlen
end Go.Proofs
/- strconv.Itoa: its twin, and that the call does what the twin says. Printed by a program. -/
namespace Go.Proofs.YtdfmjgbnbfncmaaDoor
open Go.Tw
set_option linter.unusedSimpArgs false
set_option linter.unusedVariables false
def T44 (F : Nat) (p0 : Int) : Option (List UInt8) := TItoa F p0
def ct44 (F : Nat) : Ct := mkC 0 [.i] [] [.str] [] (fun x y => T44 F x.1) (fun x y (z : List UInt8) => ((z, ()), ()))
theorem ok44 (F : Nat) : Sound Tryd.prog cfg 44 (ct44 F) := itoa_ok F (fun n h0 h1 w ht => Tryd.strconv_Itoa n h0 h1 w ht) (show Tryd.prog.globalNamed "internal/strconv.uint64pow10" = some 1 by kernel_rfl) rfl (by kernel_rfl)
end Go.Proofs.YtdfmjgbnbfncmaaDoor
/- strings.Repeat: its twin, and that the call does what the twin says. Printed by a program. -/
namespace Go.Proofs.YtdfmjgbnbfncmaaDoor
open Go.Tw
set_option linter.unusedSimpArgs false
set_option linter.unusedVariables false
def T45 (F : Nat) (p0 : List UInt8) (p1 : Int) : Option (List UInt8) := TRep F p0 p1
def ct45 (F : Nat) : Ct := mkC 0 [.str, .i] [] [.str] [] (fun x y => T45 F x.1 x.2.1) (fun x y (z : List UInt8) => ((z, ()), ()))
theorem ok45 (F : Nat) : Sound Tryd.prog cfg 45 (ct45 F) := rep_ok F (fun s k w h1 h2 => Tryd.strings_Repeat s k w h1 h2)
end Go.Proofs.YtdfmjgbnbfncmaaDoor
/- kinkeep/calendar.digits: its twin, and that the call does what the twin says. Printed by a program. -/
namespace Go.Proofs.YtdfmjgbnbfncmaaDoor
open Go.Tw
set_option linter.unusedSimpArgs false
set_option linter.unusedVariables false
def ord40 : Nat → List (Tag × Nat)
  | _ => []
def al40 : Nat → Option Nat
  | _ => none
def E40 (F : Nat) : Ev := ⟨cfg, 16, ctOf [(44, ct44 F), (45, ct45 F)], ord40, ctOf [], al40⟩
theorem cts40 (F : Nat) : CtsOk Tryd.prog (E40 F) := cts_of (l := [(44, ct44 F), (45, ct45 F)]) (l' := []) rfl rfl ⟨⟨ok44 F, _, Tryd.func44, rfl, rfl⟩, ⟨⟨ok45 F, _, Tryd.func45, rfl, rfl⟩, trivial⟩⟩ trivial
def T40c (F : Nat) (p0 : Int) (p1 : Int) {β : Type} (k : ((List UInt8)) → Option β) : Option β :=
  (Option.bind (T44 F p0) fun z4 => (Option.bind (T45 F ([48] : List UInt8) (if (0 : Int) < (w64 (p1 - (z4.length : Int))) then (w64 (p1 - (z4.length : Int))) else (0 : Int))) fun z5 => (Option.bind (gcat z5 z4) fun x6 => (k x6))))
def T40 (F : Nat) (p0 : Int) (p1 : Int) : Option ((List UInt8)) := T40c F p0 p1 some
theorem T40n (F : Nat) (p0 : Int) (p1 : Int) {β : Type} (k : ((List UInt8)) → Option β) : T40c F p0 p1 k = (T40 F p0 p1).bind k := by
  simp only [T40, T40c, Option.bind_assoc, cond_bind, Option.bind_some, elimS_bind]
@[reducible] def cA40 : List Sh := [.i, .i]
@[reducible] def cB40 : List Sh := [.str]
@[reducible] def cT40 : List TSh := []
@[reducible] def cU40 : List TSh := []
def ct40 (F : Nat) : Ct := mkC 0 cA40 cT40 cB40 cU40 (fun x y => T40 F x.1 x.2.1) (fun x y (z : (List UInt8)) => ((z, ()), ()))
theorem eq40 (F : Nat) (x : dens cA40) (y : tdens cT40) : sev (E40 F) 0 [] (bodyOf Tryd.f40) [] (mkSt (rng 2) cA40 cT40 x y) (kFn (E40 F) 0 Tryd.f40.results.toList cB40 cU40 fun p q => some (p, q)) =
    T40c F x.1 x.2.1 (fun z => some ((z, ()), ())) := by kernel_rfl
theorem ok40 (F : Nat) : Sound Tryd.prog cfg 40 (ct40 F) :=
  mkC_ok (E := E40 F) (lp := []) (code := bodyOf Tryd.f40) Tryd.func40 rfl Tryd.ntmps40 rfl rfl cok (cts40 F) mixed trivial (by kernel_rfl) (fun x y k => T40c F x.1 x.2.1 k) (fun x y k => T40n F x.1 x.2.1 k) (eq40 F)
end Go.Proofs.YtdfmjgbnbfncmaaDoor
/- kinkeep/calendar.Text: its twin, and that the call does what the twin says. Printed by a program. -/
namespace Go.Proofs.YtdfmjgbnbfncmaaDoor
open Go.Tw
set_option linter.unusedSimpArgs false
set_option linter.unusedVariables false
def ord26 : Nat → List (Tag × Nat)
  | 4 => [(.p, 0), (.r, 1), (.p, 4), (.c, 5), (.p, 9), (.c, 10), (.w, 2), (.p, 3), (.w, 6), (.p, 7), (.p, 8), (.w, 11), (.p, 12), (.p, 13), (.p, 14)]
  | _ => []
def al26 : Nat → Option Nat
  | _ => none
def E26 (F : Nat) : Ev := ⟨cfg, 27, ctOf [(17, ct17 F), (40, ct40 F)], ord26, ctOf [], al26⟩
theorem cts26 (F : Nat) : CtsOk Tryd.prog (E26 F) := cts_of (l := [(17, ct17 F), (40, ct40 F)]) (l' := []) rfl rfl ⟨⟨ok17 F, _, Tryd.func17, rfl, rfl⟩, ⟨⟨ok40 F, _, Tryd.func40, rfl, rfl⟩, trivial⟩⟩ trivial
def T26c (F : Nat) (p0 : Int) {β : Type} (k : ((List UInt8) × Int) → Option β) : Option β :=
  (Option.bind (T17 F p0) fun z9 => (bif (z9.2.2.2 != (0 : Int)) then (k (([] : List UInt8), z9.2.2.2)) else (Option.bind (T40 F z9.1 (4 : Int)) fun z10 => (Option.bind (gcat z10 ([45] : List UInt8)) fun x11 => (Option.bind (T40 F z9.2.1 (2 : Int)) fun z12 => (Option.bind (gcat x11 z12) fun x13 => (Option.bind (gcat x13 ([45] : List UInt8)) fun x14 => (Option.bind (T40 F z9.2.2.1 (2 : Int)) fun z15 => (Option.bind (gcat x14 z15) fun x16 => (k (x16, (0 : Int))))))))))))
def T26 (F : Nat) (p0 : Int) : Option ((List UInt8) × Int) := T26c F p0 some
theorem T26n (F : Nat) (p0 : Int) {β : Type} (k : ((List UInt8) × Int) → Option β) : T26c F p0 k = (T26 F p0).bind k := by
  simp only [T26, T26c, Option.bind_assoc, cond_bind, Option.bind_some, elimS_bind]
@[reducible] def cA26 : List Sh := [.i]
@[reducible] def cB26 : List Sh := [.str, .i]
@[reducible] def cT26 : List TSh := []
@[reducible] def cU26 : List TSh := []
def ct26 (F : Nat) : Ct := mkC 0 cA26 cT26 cB26 cU26 (fun x y => T26 F x.1) (fun x y (z : (List UInt8) × Int) => ((z.1, z.2, ()), ()))
theorem eq26 (F : Nat) (x : dens cA26) (y : tdens cT26) : sev (E26 F) 0 [] (bodyOf Tryd.f26) [] (mkSt (rng 1) cA26 cT26 x y) (kFn (E26 F) 0 Tryd.f26.results.toList cB26 cU26 fun p q => some (p, q)) =
    T26c F x.1 (fun z => some ((z.1, z.2, ()), ())) := by kernel_rfl
theorem ok26 (F : Nat) : Sound Tryd.prog cfg 26 (ct26 F) :=
  mkC_ok (E := E26 F) (lp := []) (code := bodyOf Tryd.f26) Tryd.func26 rfl Tryd.ntmps26 rfl rfl cok (cts26 F) mixed trivial (by kernel_rfl) (fun x y k => T26c F x.1 k) (fun x y k => T26n F x.1 k) (eq26 F)
end Go.Proofs.YtdfmjgbnbfncmaaDoor
/- strings.Split: its twin, and that the call does what the twin says. Printed by a program. -/
namespace Go.Proofs.YtdfmjgbnbfncmaaDoor
open Go.Tw
set_option linter.unusedSimpArgs false
set_option linter.unusedVariables false
def T42 (F : Nat) (p0 : List UInt8) (p1 : List UInt8) : Option (List (List UInt8)) := TSplit F p0 p1
def ct42 (F : Nat) : Ct := mkC 0 [.str, .str] [] [(.ro .s)] [] (fun x y => T42 F x.1 x.2.1) (fun x y (z : List (List UInt8)) => ((z, ()), ()))
theorem ok42 (F : Nat) : Sound Tryd.prog cfg 42 (ct42 F) := split_ok (gm := 0) F (fun s sep m w h1 h2 h3 => Tryd.strings_Split s sep m w h1 h2 h3) rfl
end Go.Proofs.YtdfmjgbnbfncmaaDoor
/- kinkeep/calendar.number: its twin, and that the call does what the twin says. Printed by a program. -/
namespace Go.Proofs.YtdfmjgbnbfncmaaDoor
open Go.Tw
set_option linter.unusedSimpArgs false
set_option linter.unusedVariables false
def ord43 : Nat → List (Tag × Nat)
  | _ => []
def al43 : Nat → Option Nat
  | _ => none
def E43 (F : Nat) : Ev := ⟨cfg, 36, ctOf [], ord43, ctOf [], al43⟩
theorem cts43 (F : Nat) : CtsOk Tryd.prog (E43 F) := cts_of (l := []) (l' := []) rfl rfl trivial trivial
def L43_2c (F : Nat) (y12 : List UInt8) (y14 : Int) (y13 : Int) (y15 : Int) {β : Type} (kA : (Int × Int) → Option β) (kO : Int → Option β) (kR : (Int × Bool) → Option β) : Option β :=
  (bif (decide (y15 < y14)) then (Option.bind (ix y12 y15) fun x19 => (bif (decide (x19 < (UInt8.ofNat 48))) then (kR ((0 : Int), false)) else (Option.bind (ix y12 y15) fun x20 => (bif (decide ((UInt8.ofNat 57) < x20)) then (kR ((0 : Int), false)) else (Option.bind (ix y12 y15) fun x21 => (bif (decide ((40000000 : Int) < (w64 ((w64 ((10 : Int) * y13)) + ((x21 - (UInt8.ofNat 48)).toNat : Int))))) then (kA ((w64 ((4000000 : Int) + (Int.tmod (w64 ((w64 ((10 : Int) * y13)) + ((x21 - (UInt8.ofNat 48)).toNat : Int))) (400 : Int)))), (w64 (y15 + (1 : Int))))) else (kA ((w64 ((w64 ((10 : Int) * y13)) + ((x21 - (UInt8.ofNat 48)).toNat : Int))), (w64 (y15 + (1 : Int))))))))))) else (kO y13))
def L43_2 (F : Nat) (y12 : List UInt8) (y14 : Int) (y13 : Int) (y15 : Int) : Option ((Int × Int) ⊕ ((Int) ⊕ (Int × Bool))) := L43_2c F y12 y14 y13 y15 (fun s => some (.inl s)) (fun z => some (.inr (.inl z))) (fun z => some (.inr (.inr z)))
theorem L43_2n (F : Nat) (y12 : List UInt8) (y14 : Int) (y13 : Int) (y15 : Int) {β : Type} (kA : (Int × Int) → Option β) (kO : Int → Option β) (kR : (Int × Bool) → Option β) : L43_2c F y12 y14 y13 y15 kA kO kR = (L43_2 F y12 y14 y13 y15).bind (elimS kA (elimS kO kR)) := by
  simp only [L43_2, L43_2c, Option.bind_assoc, cond_bind, Option.bind_some, elimS_l, elimS_r, elimS_bind]
@[reducible] def sA43_2 : List Sh := [.str, .i, .i, .i]
@[reducible] def sAp143_2 : List Sh := [.i]
@[reducible] def sAp243_2 : List Sh := [.i, .bo]
@[reducible] def sT43_2 : List TSh := []
@[reducible] def sTp143_2 : List TSh := []
@[reducible] def sTp243_2 : List TSh := []
def lc43_2 (F : Nat) : Lc := mkR [0, 4, 7, 8] sA43_2 sT43_2 [4] sAp143_2 sTp143_2 [2, 3] sAp243_2 sTp243_2 F (fun x y (s : Int × Int) => L43_2 F x.1 x.2.2.1 s.1 s.2) (fun x y => (x.2.1, x.2.2.2.1)) (fun x y (z : Int) => ((z, ()), ())) (fun x y (z : Int × Bool) => ((z.1, z.2, ()), ()))
theorem le43_2 (F : Nat) (x : dens sA43_2) (y : tdens sT43_2) (s : Int × Int) : sev (E43 F) 0 [] (cAt (bodyOf Tryd.f43) (0 :: 0 :: [1, 0, 1, 1])) (0 :: 0 :: [1, 0, 1, 1]) (mkSt [0, 4, 7, 8] sA43_2 sT43_2 (x.1, s.1, x.2.2.1, s.2, ()) ()) (kLoop 0 [0, 4, 7, 8] sA43_2 sT43_2 [4] sAp143_2 sTp143_2 [2, 3] sAp243_2 sTp243_2 0 (fun x y => some (.inl (x, y))) (fun x y => some (.inr (.inl (x, y)))) (fun x y => some (.inr (.inr (x, y))))) =
    L43_2c (β := Full sA43_2 sT43_2 sAp143_2 sTp143_2 sAp243_2 sTp243_2) F x.1 x.2.2.1 s.1 s.2 (fun s => some (.inl ((x.1, s.1, x.2.2.1, s.2, ()), ()))) (fun z => some (.inr (.inl ((z, ()), ())))) (fun z => some (.inr (.inr ((z.1, z.2, ()), ())))) := by kernel_rfl
theorem lo43_2 (F : Nat) : LcOk Tryd.prog (E43 F) 0 (lc43_2 F) (cAt (bodyOf Tryd.f43) [1, 0, 1, 1]) :=
  mkR_ok (lp := []) (id := 0) (b := cAt (bodyOf Tryd.f43) (0 :: 0 :: [1, 0, 1, 1])) cok (cts43 F) mixed trivial (by kernel_rfl) (by kernel_rfl) (fun x y s => (x.1, s.1, x.2.2.1, s.2, ())) (fun x y s => ()) (fun x y => rfl) (fun x y => rfl) (fun x y s kA kO kR => L43_2c F x.1 x.2.2.1 s.1 s.2 kA kO kR) (fun x y s kA kO kR => L43_2n F x.1 x.2.2.1 s.1 s.2 kA kO kR) (le43_2 F)
def T43c (F : Nat) (p0 : List UInt8) {β : Type} (k : (Int × Bool) → Option β) : Option β :=
  (Option.bind (iter (fun s => L43_2 F p0 (p0.length : Int) s.1 s.2) F ((0 : Int), (0 : Int))) fun z22 => elimS (fun z22 => (k (z22, true))) (fun z22 => (k (z22.1, z22.2))) z22)
def T43 (F : Nat) (p0 : List UInt8) : Option (Int × Bool) := T43c F p0 some
theorem T43n (F : Nat) (p0 : List UInt8) {β : Type} (k : (Int × Bool) → Option β) : T43c F p0 k = (T43 F p0).bind k := by
  simp only [T43, T43c, Option.bind_assoc, cond_bind, Option.bind_some, elimS_bind]
@[reducible] def cA43 : List Sh := [.str]
@[reducible] def cB43 : List Sh := [.i, .bo]
@[reducible] def cT43 : List TSh := []
@[reducible] def cU43 : List TSh := []
def ct43 (F : Nat) : Ct := mkC 0 cA43 cT43 cB43 cU43 (fun x y => T43 F x.1) (fun x y (z : Int × Bool) => ((z.1, z.2, ()), ()))
theorem eq43 (F : Nat) (x : dens cA43) (y : tdens cT43) : sev (E43 F) 0 [([1, 0, 1, 1], lc43_2 F)] (bodyOf Tryd.f43) [] (mkSt (rng 1) cA43 cT43 x y) (kFn (E43 F) 0 Tryd.f43.results.toList cB43 cU43 fun p q => some (p, q)) =
    T43c F x.1 (fun z => some ((z.1, z.2, ()), ())) := by kernel_rfl
theorem ok43 (F : Nat) : Sound Tryd.prog cfg 43 (ct43 F) :=
  mkC_ok (E := E43 F) (lp := [([1, 0, 1, 1], lc43_2 F)]) (code := bodyOf Tryd.f43) Tryd.func43 rfl Tryd.ntmps43 rfl rfl cok (cts43 F) mixed ⟨lo43_2 F, trivial⟩ (by kernel_rfl) (fun x y k => T43c F x.1 k) (fun x y k => T43n F x.1 k) (eq43 F)
end Go.Proofs.YtdfmjgbnbfncmaaDoor
/- kinkeep/calendar.Parse: its twin, and that the call does what the twin says. Printed by a program. -/
namespace Go.Proofs.YtdfmjgbnbfncmaaDoor
open Go.Tw
set_option linter.unusedSimpArgs false
set_option linter.unusedVariables false
def ord28 : Nat → List (Tag × Nat)
  | _ => []
def al28 : Nat → Option Nat
  | _ => none
def E28 (F : Nat) : Ev := ⟨cfg, 76, ctOf [(42, ct42 F), (43, ct43 F), (19, ct19 F)], ord28, ctOf [], al28⟩
theorem cts28 (F : Nat) : CtsOk Tryd.prog (E28 F) := cts_of (l := [(42, ct42 F), (43, ct43 F), (19, ct19 F)]) (l' := []) rfl rfl ⟨⟨ok42 F, _, Tryd.func42, rfl, rfl⟩, ⟨⟨ok43 F, _, Tryd.func43, rfl, rfl⟩, ⟨⟨ok19 F, _, Tryd.func19, rfl, rfl⟩, trivial⟩⟩⟩ trivial
def L28_2c (F : Nat) (y35 : List (List UInt8)) (y36 : Int) (y37 : Int) (y38 : Vector Int 3) {β : Type} (kA : (Int × (Vector Int 3)) → Option β) (kO : ((Vector Int 3)) → Option β) (kR : (Int × Int) → Option β) : Option β :=
  (bif (decide (y37 < y36)) then (Option.bind (ix y35 y37) fun x42 => (Option.bind (T43 F x42) fun z43 => (bif (!z43.2) then (kR ((0 : Int), (3 : Int))) else (Option.bind (inb 3 y37) fun x44 => (kA ((w64 (y37 + (1 : Int))), (Vector.setIfInBounds y38 x44 z43.1))))))) else (kO y38))
def L28_2 (F : Nat) (y35 : List (List UInt8)) (y36 : Int) (y37 : Int) (y38 : Vector Int 3) : Option ((Int × (Vector Int 3)) ⊕ (((Vector Int 3)) ⊕ (Int × Int))) := L28_2c F y35 y36 y37 y38 (fun s => some (.inl s)) (fun z => some (.inr (.inl z))) (fun z => some (.inr (.inr z)))
theorem L28_2n (F : Nat) (y35 : List (List UInt8)) (y36 : Int) (y37 : Int) (y38 : Vector Int 3) {β : Type} (kA : (Int × (Vector Int 3)) → Option β) (kO : ((Vector Int 3)) → Option β) (kR : (Int × Int) → Option β) : L28_2c F y35 y36 y37 y38 kA kO kR = (L28_2 F y35 y36 y37 y38).bind (elimS kA (elimS kO kR)) := by
  simp only [L28_2, L28_2c, Option.bind_assoc, cond_bind, Option.bind_some, elimS_l, elimS_r, elimS_bind]
@[reducible] def sA28_2 : List Sh := [(.pt 0 []), (.ro .s), .i, .i]
@[reducible] def sAp128_2 : List Sh := [(.pt 0 [])]
@[reducible] def sAp228_2 : List Sh := [.i, .i]
@[reducible] def sT28_2 : List TSh := [.blk 46 (.ar 3 .i)]
@[reducible] def sTp128_2 : List TSh := [.blk 46 (.ar 3 .i)]
@[reducible] def sTp228_2 : List TSh := []
def lc28_2 (F : Nat) : Lc := mkR [5, 48, 49, 50] sA28_2 sT28_2 [5] sAp128_2 sTp128_2 [2, 3] sAp228_2 sTp228_2 F (fun x y (s : Int × (Vector Int 3)) => L28_2 F x.2.1 x.2.2.1 s.1 s.2) (fun x y => (x.2.2.2.1, y.1)) (fun x y (z : (Vector Int 3)) => (((), ()), (z, ()))) (fun x y (z : Int × Int) => ((z.1, z.2, ()), ()))
theorem le28_2 (F : Nat) (x : dens sA28_2) (y : tdens sT28_2) (s : Int × (Vector Int 3)) : sev (E28 F) 0 [] (cAt (bodyOf Tryd.f28) (0 :: 0 :: [1, 0, 1, 1, 1, 1, 1])) (0 :: 0 :: [1, 0, 1, 1, 1, 1, 1]) (mkSt [5, 48, 49, 50] sA28_2 sT28_2 ((), x.2.1, x.2.2.1, s.1, ()) (s.2, ())) (kLoop 0 [5, 48, 49, 50] sA28_2 sT28_2 [5] sAp128_2 sTp128_2 [2, 3] sAp228_2 sTp228_2 0 (fun x y => some (.inl (x, y))) (fun x y => some (.inr (.inl (x, y)))) (fun x y => some (.inr (.inr (x, y))))) =
    L28_2c (β := Full sA28_2 sT28_2 sAp128_2 sTp128_2 sAp228_2 sTp228_2) F x.2.1 x.2.2.1 s.1 s.2 (fun s => some (.inl (((), x.2.1, x.2.2.1, s.1, ()), (s.2, ())))) (fun z => some (.inr (.inl (((), ()), (z, ()))))) (fun z => some (.inr (.inr ((z.1, z.2, ()), ())))) := by kernel_rfl
theorem lo28_2 (F : Nat) : LcOk Tryd.prog (E28 F) 0 (lc28_2 F) (cAt (bodyOf Tryd.f28) [1, 0, 1, 1, 1, 1, 1]) :=
  mkR_ok (lp := []) (id := 0) (b := cAt (bodyOf Tryd.f28) (0 :: 0 :: [1, 0, 1, 1, 1, 1, 1])) cok (cts28 F) mixed trivial (by kernel_rfl) (by kernel_rfl) (fun x y s => ((), x.2.1, x.2.2.1, s.1, ())) (fun x y s => (s.2, ())) (fun x y => rfl) (fun x y => rfl) (fun x y s kA kO kR => L28_2c F x.2.1 x.2.2.1 s.1 s.2 kA kO kR) (fun x y s kA kO kR => L28_2n F x.2.1 x.2.2.1 s.1 s.2 kA kO kR) (le28_2 F)
def T28c (F : Nat) (p0 : List UInt8) {β : Type} (k : (Int × Int) → Option β) : Option β :=
  (Option.bind (T42 F p0 ([45] : List UInt8)) fun z28 => (bif ((z28.length : Int) != (3 : Int)) then (k ((0 : Int), (3 : Int))) else (Option.bind (ix z28 (1 : Int)) fun x29 => (bif ((x29.length : Int) != (2 : Int)) then (k ((0 : Int), (3 : Int))) else (Option.bind (ix z28 (2 : Int)) fun x30 => (bif ((x30.length : Int) != (2 : Int)) then (k ((0 : Int), (3 : Int))) else (Option.bind (ix z28 (0 : Int)) fun x31 => (bif (decide ((x31.length : Int) < (4 : Int))) then (k ((0 : Int), (3 : Int))) else (Option.bind (ix z28 (0 : Int)) fun x32 => (bif (decide ((4 : Int) < (x32.length : Int))) then (Option.bind (ix z28 (0 : Int)) fun x33 => (Option.bind (ix x33 (0 : Int)) fun x34 => (bif (x34 == (UInt8.ofNat 48)) then (k ((0 : Int), (3 : Int))) else (Option.bind (iter (fun s => L28_2 F z28 (z28.length : Int) s.1 s.2) F ((0 : Int), (Vector.replicate 3 (0 : Int)))) fun z45 => elimS (fun z45 => (Option.bind (vat z45 0) fun x46 => (Option.bind (vat z45 1) fun x47 => (Option.bind (vat z45 2) fun x48 => (Option.bind (T19 F x46 x47 x48) fun z49 => (k (z49.1, z49.2))))))) (fun z45 => (k (z45.1, z45.2))) z45)))) else (Option.bind (iter (fun s => L28_2 F z28 (z28.length : Int) s.1 s.2) F ((0 : Int), (Vector.replicate 3 (0 : Int)))) fun z50 => elimS (fun z50 => (Option.bind (vat z50 0) fun x51 => (Option.bind (vat z50 1) fun x52 => (Option.bind (vat z50 2) fun x53 => (Option.bind (T19 F x51 x52 x53) fun z54 => (k (z54.1, z54.2))))))) (fun z50 => (k (z50.1, z50.2))) z50)))))))))))
def T28 (F : Nat) (p0 : List UInt8) : Option (Int × Int) := T28c F p0 some
theorem T28n (F : Nat) (p0 : List UInt8) {β : Type} (k : (Int × Int) → Option β) : T28c F p0 k = (T28 F p0).bind k := by
  simp only [T28, T28c, Option.bind_assoc, cond_bind, Option.bind_some, elimS_bind]
@[reducible] def cA28 : List Sh := [.str]
@[reducible] def cB28 : List Sh := [.i, .i]
@[reducible] def cT28 : List TSh := []
@[reducible] def cU28 : List TSh := []
def ct28 (F : Nat) : Ct := mkC 0 cA28 cT28 cB28 cU28 (fun x y => T28 F x.1) (fun x y (z : Int × Int) => ((z.1, z.2, ()), ()))
theorem eq28 (F : Nat) (x : dens cA28) (y : tdens cT28) : sev (E28 F) 0 [([1, 0, 1, 1, 1, 1, 1], lc28_2 F)] (bodyOf Tryd.f28) [] (mkSt (rng 1) cA28 cT28 x y) (kFn (E28 F) 0 Tryd.f28.results.toList cB28 cU28 fun p q => some (p, q)) =
    T28c F x.1 (fun z => some ((z.1, z.2, ()), ())) := by kernel_rfl
theorem ok28 (F : Nat) : Sound Tryd.prog cfg 28 (ct28 F) :=
  mkC_ok (E := E28 F) (lp := [([1, 0, 1, 1, 1, 1, 1], lc28_2 F)]) (code := bodyOf Tryd.f28) Tryd.func28 rfl Tryd.ntmps28 rfl rfl cok (cts28 F) mixed ⟨lo28_2 F, trivial⟩ (by kernel_rfl) (fun x y k => T28c F x.1 k) (fun x y k => T28n F x.1 k) (eq28 F)
end Go.Proofs.YtdfmjgbnbfncmaaDoor
/- kinkeep/calendar.Weekday: its twin, and that the call does what the twin says. Printed by a program. -/
namespace Go.Proofs.YtdfmjgbnbfncmaaDoor
open Go.Tw
set_option linter.unusedSimpArgs false
set_option linter.unusedVariables false
def ord21 : Nat → List (Tag × Nat)
  | _ => []
def al21 : Nat → Option Nat
  | _ => none
def E21 (F : Nat) : Ev := ⟨cfg, 9, ctOf [(34, ct34 F)], ord21, ctOf [], al21⟩
theorem cts21 (F : Nat) : CtsOk Tryd.prog (E21 F) := cts_of (l := [(34, ct34 F)]) (l' := []) rfl rfl ⟨⟨ok34 F, _, Tryd.func34, rfl, rfl⟩, trivial⟩ trivial
def T21c (F : Nat) (p0 : Int) {β : Type} (k : Int → Option β) : Option β :=
  (Option.bind (T34 F p0) fun z2 => (bif (z2 != (0 : Int)) then (k (-1 : Int)) else (k (Int.tmod (w64 (p0 + (5 : Int))) (7 : Int)))))
def T21 (F : Nat) (p0 : Int) : Option (Int) := T21c F p0 some
theorem T21n (F : Nat) (p0 : Int) {β : Type} (k : Int → Option β) : T21c F p0 k = (T21 F p0).bind k := by
  simp only [T21, T21c, Option.bind_assoc, cond_bind, Option.bind_some, elimS_bind]
@[reducible] def cA21 : List Sh := [.i]
@[reducible] def cB21 : List Sh := [.i]
@[reducible] def cT21 : List TSh := []
@[reducible] def cU21 : List TSh := []
def ct21 (F : Nat) : Ct := mkC 0 cA21 cT21 cB21 cU21 (fun x y => T21 F x.1) (fun x y (z : Int) => ((z, ()), ()))
theorem eq21 (F : Nat) (x : dens cA21) (y : tdens cT21) : sev (E21 F) 0 [] (bodyOf Tryd.f21) [] (mkSt (rng 1) cA21 cT21 x y) (kFn (E21 F) 0 Tryd.f21.results.toList cB21 cU21 fun p q => some (p, q)) =
    T21c F x.1 (fun z => some ((z, ()), ())) := by kernel_rfl
theorem ok21 (F : Nat) : Sound Tryd.prog cfg 21 (ct21 F) :=
  mkC_ok (E := E21 F) (lp := []) (code := bodyOf Tryd.f21) Tryd.func21 rfl Tryd.ntmps21 rfl rfl cok (cts21 F) mixed trivial (by kernel_rfl) (fun x y k => T21c F x.1 k) (fun x y k => T21n F x.1 k) (eq21 F)
end Go.Proofs.YtdfmjgbnbfncmaaDoor
/- kinkeep/calendar.Week: its twin, and that the call does what the twin says. Printed by a program. -/
namespace Go.Proofs.YtdfmjgbnbfncmaaDoor
open Go.Tw
set_option linter.unusedSimpArgs false
set_option linter.unusedVariables false
def ord22 : Nat → List (Tag × Nat)
  | _ => []
def al22 : Nat → Option Nat
  | _ => none
def E22 (F : Nat) : Ev := ⟨cfg, 9, ctOf [(34, ct34 F)], ord22, ctOf [], al22⟩
theorem cts22 (F : Nat) : CtsOk Tryd.prog (E22 F) := cts_of (l := [(34, ct34 F)]) (l' := []) rfl rfl ⟨⟨ok34 F, _, Tryd.func34, rfl, rfl⟩, trivial⟩ trivial
def T22c (F : Nat) (p0 : Int) {β : Type} (k : Int → Option β) : Option β :=
  (Option.bind (T34 F p0) fun z2 => (bif (z2 != (0 : Int)) then (k (-1 : Int)) else (k (w64 (Int.tdiv (w64 (p0 + (5 : Int))) (7 : Int))))))
def T22 (F : Nat) (p0 : Int) : Option (Int) := T22c F p0 some
theorem T22n (F : Nat) (p0 : Int) {β : Type} (k : Int → Option β) : T22c F p0 k = (T22 F p0).bind k := by
  simp only [T22, T22c, Option.bind_assoc, cond_bind, Option.bind_some, elimS_bind]
@[reducible] def cA22 : List Sh := [.i]
@[reducible] def cB22 : List Sh := [.i]
@[reducible] def cT22 : List TSh := []
@[reducible] def cU22 : List TSh := []
def ct22 (F : Nat) : Ct := mkC 0 cA22 cT22 cB22 cU22 (fun x y => T22 F x.1) (fun x y (z : Int) => ((z, ()), ()))
theorem eq22 (F : Nat) (x : dens cA22) (y : tdens cT22) : sev (E22 F) 0 [] (bodyOf Tryd.f22) [] (mkSt (rng 1) cA22 cT22 x y) (kFn (E22 F) 0 Tryd.f22.results.toList cB22 cU22 fun p q => some (p, q)) =
    T22c F x.1 (fun z => some ((z, ()), ())) := by kernel_rfl
theorem ok22 (F : Nat) : Sound Tryd.prog cfg 22 (ct22 F) :=
  mkC_ok (E := E22 F) (lp := []) (code := bodyOf Tryd.f22) Tryd.func22 rfl Tryd.ntmps22 rfl rfl cok (cts22 F) mixed trivial (by kernel_rfl) (fun x y k => T22c F x.1 k) (fun x y k => T22n F x.1 k) (eq22 F)
end Go.Proofs.YtdfmjgbnbfncmaaDoor
/- kinkeep/kinkeeplaw21.awake: its twin, and that the call does what the twin says. Printed by a program. -/
namespace Go.Proofs.YtdfmjgbnbfncmaaDoor
open Go.Tw
set_option linter.unusedSimpArgs false
set_option linter.unusedVariables false
def ord12 : Nat → List (Tag × Nat)
  | _ => []
def al12 : Nat → Option Nat
  | _ => none
def E12 (F : Nat) : Ev := ⟨cfg, 60, ctOf [(17, ct17 F), (24, ct24 F), (26, ct26 F), (28, ct28 F), (21, ct21 F), (22, ct22 F)], ord12, ctOf [], al12⟩
theorem cts12 (F : Nat) : CtsOk Tryd.prog (E12 F) := cts_of (l := [(17, ct17 F), (24, ct24 F), (26, ct26 F), (28, ct28 F), (21, ct21 F), (22, ct22 F)]) (l' := []) rfl rfl ⟨⟨ok17 F, _, Tryd.func17, rfl, rfl⟩, ⟨⟨ok24 F, _, Tryd.func24, rfl, rfl⟩, ⟨⟨ok26 F, _, Tryd.func26, rfl, rfl⟩, ⟨⟨ok28 F, _, Tryd.func28, rfl, rfl⟩, ⟨⟨ok21 F, _, Tryd.func21, rfl, rfl⟩, ⟨⟨ok22 F, _, Tryd.func22, rfl, rfl⟩, trivial⟩⟩⟩⟩⟩⟩ trivial
def T12c (F : Nat) {β : Type} (k : Bool → Option β) : Option β :=
  (Option.bind (T17 F (59 : Int)) fun z7 => (Option.bind (T24 F (59 : Int) (12 : Int)) fun z8 => (Option.bind (T26 F (59 : Int)) fun z9 => (Option.bind (T28 F ([50, 48, 48, 49, 45, 48, 50, 45, 50, 57] : List UInt8)) fun z10 => (bif (z7.1 == (2000 : Int) && (z7.2.1 == (2 : Int) && (z7.2.2.1 == (29 : Int) && true))) then (bif (z7.2.2.2 == (0 : Int)) then (bif (z8.1 == (424 : Int)) then (bif (z8.2 == (0 : Int)) then (bif (z9.1 == ([50, 48, 48, 48, 45, 48, 50, 45, 50, 57] : List UInt8)) then (bif (z9.2 == (0 : Int)) then (bif (z10.2 == (1 : Int)) then (Option.bind (T21 F (0 : Int)) fun z11 => (bif (z11 == (5 : Int)) then (Option.bind (T22 F (2 : Int)) fun z12 => (k (z12 == (1 : Int)))) else (k false))) else (k false)) else (k false)) else (k false)) else (k false)) else (k false)) else (k false)) else (k false))))))
def T12 (F : Nat) : Option (Bool) := T12c F some
theorem T12n (F : Nat) {β : Type} (k : Bool → Option β) : T12c F k = (T12 F).bind k := by
  simp only [T12, T12c, Option.bind_assoc, cond_bind, Option.bind_some, elimS_bind]
@[reducible] def cA12 : List Sh := []
@[reducible] def cB12 : List Sh := [.bo]
@[reducible] def cT12 : List TSh := []
@[reducible] def cU12 : List TSh := []
def ct12 (F : Nat) : Ct := mkC 0 cA12 cT12 cB12 cU12 (fun x y => T12 F) (fun x y (z : Bool) => ((z, ()), ()))
theorem eq12 (F : Nat) (x : dens cA12) (y : tdens cT12) : sev (E12 F) 0 [] (bodyOf Tryd.f12) [] (mkSt (rng 0) cA12 cT12 x y) (kFn (E12 F) 0 Tryd.f12.results.toList cB12 cU12 fun p q => some (p, q)) =
    T12c F (fun z => some ((z, ()), ())) := by kernel_rfl
theorem ok12 (F : Nat) : Sound Tryd.prog cfg 12 (ct12 F) :=
  mkC_ok (E := E12 F) (lp := []) (code := bodyOf Tryd.f12) Tryd.func12 rfl Tryd.ntmps12 rfl rfl cok (cts12 F) mixed trivial (by kernel_rfl) (fun x y k => T12c F k) (fun x y k => T12n F k) (eq12 F)
end Go.Proofs.YtdfmjgbnbfncmaaDoor
/- kinkeep/kinkeeplaw21.CalendarNext: its twin, and that the call does what the twin says. Printed by a program. -/
namespace Go.Proofs.YtdfmjgbnbfncmaaDoor
open Go.Tw
set_option linter.unusedSimpArgs false
set_option linter.unusedVariables false
def ord7 : Nat → List (Tag × Nat)
  | 11 => [(.p, 0), (.c, 1), (.p, 2), (.r, 3), (.p, 4), (.r, 5), (.w, 6), (.p, 7)]
  | _ => []
def al7 : Nat → Option Nat
  | _ => none
def E7 (F : Nat) : Ev := ⟨cfg, 112, ctOf [(12, ct12 F), (17, ct17 F), (21, ct21 F), (15, ct15 F), (22, ct22 F), (23, ct23 F)], ord7, ctOf [], al7⟩
theorem cts7 (F : Nat) : CtsOk Tryd.prog (E7 F) := cts_of (l := [(12, ct12 F), (17, ct17 F), (21, ct21 F), (15, ct15 F), (22, ct22 F), (23, ct23 F)]) (l' := []) rfl rfl ⟨⟨ok12 F, _, Tryd.func12, rfl, rfl⟩, ⟨⟨ok17 F, _, Tryd.func17, rfl, rfl⟩, ⟨⟨ok21 F, _, Tryd.func21, rfl, rfl⟩, ⟨⟨ok15 F, _, Tryd.func15, rfl, rfl⟩, ⟨⟨ok22 F, _, Tryd.func22, rfl, rfl⟩, ⟨⟨ok23 F, _, Tryd.func23, rfl, rfl⟩, trivial⟩⟩⟩⟩⟩⟩ trivial
def L7_3c (F : Nat) (y46 : Int) (y47 : Bool) {β : Type} (kO : Int → Option β) : Option β :=
  (bif y47 then (kO (1 : Int)) else (kO y46))
def L7_3 (F : Nat) (y46 : Int) (y47 : Bool) : Option (Int) := L7_3c F y46 y47 (fun z => some z)
theorem L7_3n (F : Nat) (y46 : Int) (y47 : Bool) {β : Type} (kO : Int → Option β) : L7_3c F y46 y47 kO = (L7_3 F y46 y47).bind (kO) := by
  simp only [L7_3, L7_3c, Option.bind_assoc, cond_bind, Option.bind_some, elimS_l, elimS_r, elimS_bind]
@[reducible] def sA7_3 : List Sh := [.i, (.pt 0 []), (.pt 1 []), .i, .bo]
@[reducible] def sAp17_3 : List Sh := [.i, (.pt 0 []), (.pt 1 []), .i]
@[reducible] def sT7_3 : List TSh := [.blk 27 (.pr .i (.pr .i (.pr .i .un))), .blk 27 (.pr .i (.pr .i (.pr .i .un)))]
@[reducible] def sTp17_3 : List TSh := [.blk 27 (.pr .i (.pr .i (.pr .i .un))), .blk 27 (.pr .i (.pr .i (.pr .i .un)))]
def lc7_3 (F : Nat) : Lc := mkJ [0, 3, 5, 7, 50] sA7_3 sT7_3 [0, 3, 5, 7] sAp17_3 sTp17_3 (fun x y => L7_3 F x.2.2.2.1 x.2.2.2.2.1) (fun x y (z : Int) => ((x.1, (), (), z, ()), ((y.1.1, y.1.2.1, y.1.2.2.1, ()), (y.2.1.1, y.2.1.2.1, y.2.1.2.2.1, ()), ())))
theorem le7_3 (F : Nat) (x : dens sA7_3) (y : tdens sT7_3) : sev (E7 F) 0 [] (cAt (bodyOf Tryd.f7) [1, 0, 1, 1, 1, 1, 1, 1]) [1, 0, 1, 1, 1, 1, 1, 1] (mkSt [0, 3, 5, 7, 50] sA7_3 sT7_3 x y) (kJoin 0 [0, 3, 5, 7] sAp17_3 sTp17_3 (fun x y => some (x, y))) =
    L7_3c (β := dens sAp17_3 × tdens sTp17_3) F x.2.2.2.1 x.2.2.2.2.1 (fun z => some ((x.1, (), (), z, ()), ((y.1.1, y.1.2.1, y.1.2.2.1, ()), (y.2.1.1, y.2.1.2.1, y.2.1.2.2.1, ()), ()))) := by kernel_rfl
theorem lo7_3 (F : Nat) : LcOk Tryd.prog (E7 F) 0 (lc7_3 F) (cAt (bodyOf Tryd.f7) [1, 0, 1, 1, 1, 1, 1, 1]) :=
  mkJ_ok (lp := []) cok (cts7 F) mixed trivial (by kernel_rfl) (fun x y kO => L7_3c F x.2.2.2.1 x.2.2.2.2.1 kO) (fun x y kO => L7_3n F x.2.2.2.1 x.2.2.2.2.1 kO) (le7_3 F)
def L7_4c (F : Nat) (y58 : Int) (y59 : Bool) {β : Type} (kO : Int → Option β) : Option β :=
  (bif y59 then (kO (1 : Int)) else (kO y58))
def L7_4 (F : Nat) (y58 : Int) (y59 : Bool) : Option (Int) := L7_4c F y58 y59 (fun z => some z)
theorem L7_4n (F : Nat) (y58 : Int) (y59 : Bool) {β : Type} (kO : Int → Option β) : L7_4c F y58 y59 kO = (L7_4 F y58 y59).bind (kO) := by
  simp only [L7_4, L7_4c, Option.bind_assoc, cond_bind, Option.bind_some, elimS_l, elimS_r, elimS_bind]
@[reducible] def sA7_4 : List Sh := [.i, (.pt 0 []), (.pt 1 []), .i, .i, .bo]
@[reducible] def sAp17_4 : List Sh := [.i, (.pt 0 []), (.pt 1 []), .i, .i]
@[reducible] def sT7_4 : List TSh := [.blk 27 (.pr .i (.pr .i (.pr .i .un))), .blk 27 (.pr .i (.pr .i (.pr .i .un)))]
@[reducible] def sTp17_4 : List TSh := [.blk 27 (.pr .i (.pr .i (.pr .i .un))), .blk 27 (.pr .i (.pr .i (.pr .i .un)))]
def lc7_4 (F : Nat) : Lc := mkJ [0, 3, 5, 7, 8, 58] sA7_4 sT7_4 [0, 3, 5, 7, 8] sAp17_4 sTp17_4 (fun x y => L7_4 F x.2.2.2.2.1 x.2.2.2.2.2.1) (fun x y (z : Int) => ((x.1, (), (), x.2.2.2.1, z, ()), ((y.1.1, y.1.2.1, y.1.2.2.1, ()), (y.2.1.1, y.2.1.2.1, y.2.1.2.2.1, ()), ())))
theorem le7_4 (F : Nat) (x : dens sA7_4) (y : tdens sT7_4) : sev (E7 F) 0 [] (cAt (bodyOf Tryd.f7) [1, 0, 1, 1, 1, 1, 1, 1, 1, 1]) [1, 0, 1, 1, 1, 1, 1, 1, 1, 1] (mkSt [0, 3, 5, 7, 8, 58] sA7_4 sT7_4 x y) (kJoin 0 [0, 3, 5, 7, 8] sAp17_4 sTp17_4 (fun x y => some (x, y))) =
    L7_4c (β := dens sAp17_4 × tdens sTp17_4) F x.2.2.2.2.1 x.2.2.2.2.2.1 (fun z => some ((x.1, (), (), x.2.2.2.1, z, ()), ((y.1.1, y.1.2.1, y.1.2.2.1, ()), (y.2.1.1, y.2.1.2.1, y.2.1.2.2.1, ()), ()))) := by kernel_rfl
theorem lo7_4 (F : Nat) : LcOk Tryd.prog (E7 F) 0 (lc7_4 F) (cAt (bodyOf Tryd.f7) [1, 0, 1, 1, 1, 1, 1, 1, 1, 1]) :=
  mkJ_ok (lp := []) cok (cts7 F) mixed trivial (by kernel_rfl) (fun x y kO => L7_4c F x.2.2.2.2.1 x.2.2.2.2.2.1 kO) (fun x y kO => L7_4n F x.2.2.2.2.1 x.2.2.2.2.2.1 kO) (le7_4 F)
def T7c (F : Nat) (p0 : Int) {β : Type} (k : Bool → Option β) : Option β :=
  (Option.bind (T12 F) fun z36 => (bif (!z36) then (Option.bind (T12 F) fun z37 => (k z37)) else (bif (decide (p0 < (0 : Int))) then (Option.bind (T12 F) fun z38 => (k z38)) else (bif (decide ((999999 : Int) ≤ p0)) then (Option.bind (T12 F) fun z39 => (k z39)) else (Option.bind (T17 F p0) fun z40 => (Option.bind (T17 F (w64 (p0 + (1 : Int)))) fun z41 => (bif (z40.2.2.2 != (0 : Int)) then (k false) else (bif (z41.2.2.2 != (0 : Int)) then (k false) else (Option.bind (T21 F (w64 (p0 + (1 : Int)))) fun z42 => (Option.bind (T21 F p0) fun z43 => (bif (z42 != (Int.tmod (w64 (z43 + (1 : Int))) (7 : Int))) then (k false) else (Option.bind (T21 F (w64 (p0 + (1 : Int)))) fun z44 => (Option.bind (L7_3 F (0 : Int) (z44 == (0 : Int))) fun z54 => (Option.bind (T15 F z40.1 z40.2.1) fun z55 => (Option.bind (L7_4 F (0 : Int) (z40.2.2.1 == z55)) fun z66 => (Option.bind (T22 F (w64 (p0 + (1 : Int)))) fun z67 => (Option.bind (T22 F p0) fun z68 => (bif (z67 != (w64 (z68 + z54))) then (k false) else (Option.bind (T23 F (w64 (p0 + (1 : Int)))) fun z69 => (Option.bind (T23 F p0) fun z70 => (bif (z69 != (w64 (z70 + z66))) then (k false) else (bif (z66 == (0 : Int)) then (k (z41.1 == z40.1 && (z41.2.1 == z40.2.1 && (z41.2.2.1 == (w64 (z40.2.2.1 + (1 : Int))) && true)))) else (bif (z41.2.2.1 == (1 : Int)) then (bif (z41.2.1 == (w64 ((Int.tmod z40.2.1 (12 : Int)) + (1 : Int)))) then (k (z41.1 == (w64 (z40.1 + (w64 (Int.tdiv z40.2.1 (12 : Int))))))) else (k false)) else (k false))))))))))))))))))))))))
def T7 (F : Nat) (p0 : Int) : Option (Bool) := T7c F p0 some
theorem T7n (F : Nat) (p0 : Int) {β : Type} (k : Bool → Option β) : T7c F p0 k = (T7 F p0).bind k := by
  simp only [T7, T7c, Option.bind_assoc, cond_bind, Option.bind_some, elimS_bind]
@[reducible] def cA7 : List Sh := [.i]
@[reducible] def cB7 : List Sh := [.bo]
@[reducible] def cT7 : List TSh := []
@[reducible] def cU7 : List TSh := []
def ct7 (F : Nat) : Ct := mkC 0 cA7 cT7 cB7 cU7 (fun x y => T7 F x.1) (fun x y (z : Bool) => ((z, ()), ()))
theorem eq7 (F : Nat) (x : dens cA7) (y : tdens cT7) : sev (E7 F) 0 [([1, 0, 1, 1, 1, 1, 1, 1], lc7_3 F), ([1, 0, 1, 1, 1, 1, 1, 1, 1, 1], lc7_4 F)] (bodyOf Tryd.f7) [] (mkSt (rng 1) cA7 cT7 x y) (kFn (E7 F) 0 Tryd.f7.results.toList cB7 cU7 fun p q => some (p, q)) =
    T7c F x.1 (fun z => some ((z, ()), ())) := by kernel_rfl
theorem ok7 (F : Nat) : Sound Tryd.prog cfg 7 (ct7 F) :=
  mkC_ok (E := E7 F) (lp := [([1, 0, 1, 1, 1, 1, 1, 1], lc7_3 F), ([1, 0, 1, 1, 1, 1, 1, 1, 1, 1], lc7_4 F)]) (code := bodyOf Tryd.f7) Tryd.func7 rfl Tryd.ntmps7 rfl rfl cok (cts7 F) mixed ⟨lo7_3 F, ⟨lo7_4 F, trivial⟩⟩ (by kernel_rfl) (fun x y k => T7c F x.1 k) (fun x y k => T7n F x.1 k) (eq7 F)
end Go.Proofs.YtdfmjgbnbfncmaaDoor
/- kinkeep/kinkeepref21.check: its twin, and that the call does what the twin says. Printed by a program. -/
namespace Go.Proofs.YtdfmjgbnbfncmaaDoor
open Go.Tw
set_option linter.unusedSimpArgs false
set_option linter.unusedVariables false
def ord36 : Nat → List (Tag × Nat)
  | _ => []
def al36 : Nat → Option Nat
  | _ => none
def E36 (F : Nat) : Ev := ⟨cfg, 7, ctOf [], ord36, ctOf [], al36⟩
theorem cts36 (F : Nat) : CtsOk Tryd.prog (E36 F) := cts_of (l := []) (l' := []) rfl rfl trivial trivial
def T36c (F : Nat) (p0 : Int) {β : Type} (k : Int → Option β) : Option β :=
  (bif (decide (p0 < (0 : Int))) then (k (1 : Int)) else (bif (decide ((999999 : Int) < p0)) then (k (2 : Int)) else (k (0 : Int))))
def T36 (F : Nat) (p0 : Int) : Option (Int) := T36c F p0 some
theorem T36n (F : Nat) (p0 : Int) {β : Type} (k : Int → Option β) : T36c F p0 k = (T36 F p0).bind k := by
  simp only [T36, T36c, Option.bind_assoc, cond_bind, Option.bind_some, elimS_bind]
@[reducible] def cA36 : List Sh := [.i]
@[reducible] def cB36 : List Sh := [.i]
@[reducible] def cT36 : List TSh := []
@[reducible] def cU36 : List TSh := []
def ct36 (F : Nat) : Ct := mkC 0 cA36 cT36 cB36 cU36 (fun x y => T36 F x.1) (fun x y (z : Int) => ((z, ()), ()))
theorem eq36 (F : Nat) (x : dens cA36) (y : tdens cT36) : sev (E36 F) 0 [] (bodyOf Tryd.f36) [] (mkSt (rng 1) cA36 cT36 x y) (kFn (E36 F) 0 Tryd.f36.results.toList cB36 cU36 fun p q => some (p, q)) =
    T36c F x.1 (fun z => some ((z, ()), ())) := by kernel_rfl
theorem ok36 (F : Nat) : Sound Tryd.prog cfg 36 (ct36 F) :=
  mkC_ok (E := E36 F) (lp := []) (code := bodyOf Tryd.f36) Tryd.func36 rfl Tryd.ntmps36 rfl rfl cok (cts36 F) mixed trivial (by kernel_rfl) (fun x y k => T36c F x.1 k) (fun x y k => T36n F x.1 k) (eq36 F)
end Go.Proofs.YtdfmjgbnbfncmaaDoor
/- kinkeep/kinkeepref21.Leap: its twin, and that the call does what the twin says. Printed by a program. -/
namespace Go.Proofs.YtdfmjgbnbfncmaaDoor
open Go.Tw
set_option linter.unusedSimpArgs false
set_option linter.unusedVariables false
def ord14 : Nat → List (Tag × Nat)
  | _ => []
def al14 : Nat → Option Nat
  | _ => none
def E14 (F : Nat) : Ev := ⟨cfg, 16, ctOf [], ord14, ctOf [], al14⟩
theorem cts14 (F : Nat) : CtsOk Tryd.prog (E14 F) := cts_of (l := []) (l' := []) rfl rfl trivial trivial
def T14c (F : Nat) (p0 : Int) {β : Type} (k : Bool → Option β) : Option β :=
  (bif ((Int.tmod p0 (4 : Int)) == (0 : Int)) then (bif ((Int.tmod p0 (100 : Int)) != (0 : Int)) then (k true) else (k ((Int.tmod p0 (400 : Int)) == (0 : Int)))) else (k ((Int.tmod p0 (400 : Int)) == (0 : Int))))
def T14 (F : Nat) (p0 : Int) : Option (Bool) := T14c F p0 some
theorem T14n (F : Nat) (p0 : Int) {β : Type} (k : Bool → Option β) : T14c F p0 k = (T14 F p0).bind k := by
  simp only [T14, T14c, Option.bind_assoc, cond_bind, Option.bind_some, elimS_bind]
@[reducible] def cA14 : List Sh := [.i]
@[reducible] def cB14 : List Sh := [.bo]
@[reducible] def cT14 : List TSh := []
@[reducible] def cU14 : List TSh := []
def ct14 (F : Nat) : Ct := mkC 0 cA14 cT14 cB14 cU14 (fun x y => T14 F x.1) (fun x y (z : Bool) => ((z, ()), ()))
theorem eq14 (F : Nat) (x : dens cA14) (y : tdens cT14) : sev (E14 F) 0 [] (bodyOf Tryd.f14) [] (mkSt (rng 1) cA14 cT14 x y) (kFn (E14 F) 0 Tryd.f14.results.toList cB14 cU14 fun p q => some (p, q)) =
    T14c F x.1 (fun z => some ((z, ()), ())) := by kernel_rfl
theorem ok14 (F : Nat) : Sound Tryd.prog cfg 14 (ct14 F) :=
  mkC_ok (E := E14 F) (lp := []) (code := bodyOf Tryd.f14) Tryd.func14 rfl Tryd.ntmps14 rfl rfl cok (cts14 F) mixed trivial (by kernel_rfl) (fun x y k => T14c F x.1 k) (fun x y k => T14n F x.1 k) (eq14 F)
end Go.Proofs.YtdfmjgbnbfncmaaDoor
/- kinkeep/kinkeepref21.length: its twin, and that the call does what the twin says. Printed by a program. -/
namespace Go.Proofs.YtdfmjgbnbfncmaaDoor
open Go.Tw
set_option linter.unusedSimpArgs false
set_option linter.unusedVariables false
def ord37 : Nat → List (Tag × Nat)
  | _ => []
def al37 : Nat → Option Nat
  | _ => none
def E37 (F : Nat) : Ev := ⟨cfg, 5, ctOf [(14, ct14 F)], ord37, ctOf [], al37⟩
theorem cts37 (F : Nat) : CtsOk Tryd.prog (E37 F) := cts_of (l := [(14, ct14 F)]) (l' := []) rfl rfl ⟨⟨ok14 F, _, Tryd.func14, rfl, rfl⟩, trivial⟩ trivial
def T37c (F : Nat) (p0 : Int) {β : Type} (k : Int → Option β) : Option β :=
  (Option.bind (T14 F p0) fun z2 => (bif z2 then (k (366 : Int)) else (k (365 : Int))))
def T37 (F : Nat) (p0 : Int) : Option (Int) := T37c F p0 some
theorem T37n (F : Nat) (p0 : Int) {β : Type} (k : Int → Option β) : T37c F p0 k = (T37 F p0).bind k := by
  simp only [T37, T37c, Option.bind_assoc, cond_bind, Option.bind_some, elimS_bind]
@[reducible] def cA37 : List Sh := [.i]
@[reducible] def cB37 : List Sh := [.i]
@[reducible] def cT37 : List TSh := []
@[reducible] def cU37 : List TSh := []
def ct37 (F : Nat) : Ct := mkC 0 cA37 cT37 cB37 cU37 (fun x y => T37 F x.1) (fun x y (z : Int) => ((z, ()), ()))
theorem eq37 (F : Nat) (x : dens cA37) (y : tdens cT37) : sev (E37 F) 0 [] (bodyOf Tryd.f37) [] (mkSt (rng 1) cA37 cT37 x y) (kFn (E37 F) 0 Tryd.f37.results.toList cB37 cU37 fun p q => some (p, q)) =
    T37c F x.1 (fun z => some ((z, ()), ())) := by kernel_rfl
theorem ok37 (F : Nat) : Sound Tryd.prog cfg 37 (ct37 F) :=
  mkC_ok (E := E37 F) (lp := []) (code := bodyOf Tryd.f37) Tryd.func37 rfl Tryd.ntmps37 rfl rfl cok (cts37 F) mixed trivial (by kernel_rfl) (fun x y k => T37c F x.1 k) (fun x y k => T37n F x.1 k) (eq37 F)
end Go.Proofs.YtdfmjgbnbfncmaaDoor
/- kinkeep/kinkeepref21.Days: its twin, and that the call does what the twin says. Printed by a program. -/
namespace Go.Proofs.YtdfmjgbnbfncmaaDoor
open Go.Tw
set_option linter.unusedSimpArgs false
set_option linter.unusedVariables false
def ord16 : Nat → List (Tag × Nat)
  | _ => []
def al16 : Nat → Option Nat
  | _ => none
def E16 (F : Nat) : Ev := ⟨cfg, 23, ctOf [(14, ct14 F)], ord16, ctOf [], al16⟩
theorem cts16 (F : Nat) : CtsOk Tryd.prog (E16 F) := cts_of (l := [(14, ct14 F)]) (l' := []) rfl rfl ⟨⟨ok14 F, _, Tryd.func14, rfl, rfl⟩, trivial⟩ trivial
def T16c (F : Nat) (p0 : Int) (p1 : Int) {β : Type} (k : Int → Option β) : Option β :=
  (bif (p1 == (1 : Int)) then (bif (p1 == (1 : Int)) then (k (31 : Int)) else (bif (p1 == (4 : Int)) then (bif (p1 == (4 : Int)) then (k (30 : Int)) else (bif (p1 == (2 : Int)) then (Option.bind (T14 F p0) fun z29 => (bif z29 then (k (29 : Int)) else (k (28 : Int)))) else (k (0 : Int)))) else (bif (p1 == (6 : Int)) then (bif (p1 == (6 : Int)) then (k (30 : Int)) else (bif (p1 == (2 : Int)) then (Option.bind (T14 F p0) fun z30 => (bif z30 then (k (29 : Int)) else (k (28 : Int)))) else (k (0 : Int)))) else (bif (p1 == (9 : Int)) then (bif (p1 == (9 : Int)) then (k (30 : Int)) else (bif (p1 == (2 : Int)) then (Option.bind (T14 F p0) fun z31 => (bif z31 then (k (29 : Int)) else (k (28 : Int)))) else (k (0 : Int)))) else (bif (p1 == (11 : Int)) then (k (30 : Int)) else (bif (p1 == (2 : Int)) then (Option.bind (T14 F p0) fun z32 => (bif z32 then (k (29 : Int)) else (k (28 : Int)))) else (k (0 : Int)))))))) else (bif (p1 == (3 : Int)) then (bif (p1 == (3 : Int)) then (k (31 : Int)) else (bif (p1 == (4 : Int)) then (bif (p1 == (4 : Int)) then (k (30 : Int)) else (bif (p1 == (2 : Int)) then (Option.bind (T14 F p0) fun z33 => (bif z33 then (k (29 : Int)) else (k (28 : Int)))) else (k (0 : Int)))) else (bif (p1 == (6 : Int)) then (bif (p1 == (6 : Int)) then (k (30 : Int)) else (bif (p1 == (2 : Int)) then (Option.bind (T14 F p0) fun z34 => (bif z34 then (k (29 : Int)) else (k (28 : Int)))) else (k (0 : Int)))) else (bif (p1 == (9 : Int)) then (bif (p1 == (9 : Int)) then (k (30 : Int)) else (bif (p1 == (2 : Int)) then (Option.bind (T14 F p0) fun z35 => (bif z35 then (k (29 : Int)) else (k (28 : Int)))) else (k (0 : Int)))) else (bif (p1 == (11 : Int)) then (k (30 : Int)) else (bif (p1 == (2 : Int)) then (Option.bind (T14 F p0) fun z36 => (bif z36 then (k (29 : Int)) else (k (28 : Int)))) else (k (0 : Int)))))))) else (bif (p1 == (5 : Int)) then (bif (p1 == (5 : Int)) then (k (31 : Int)) else (bif (p1 == (4 : Int)) then (bif (p1 == (4 : Int)) then (k (30 : Int)) else (bif (p1 == (2 : Int)) then (Option.bind (T14 F p0) fun z37 => (bif z37 then (k (29 : Int)) else (k (28 : Int)))) else (k (0 : Int)))) else (bif (p1 == (6 : Int)) then (bif (p1 == (6 : Int)) then (k (30 : Int)) else (bif (p1 == (2 : Int)) then (Option.bind (T14 F p0) fun z38 => (bif z38 then (k (29 : Int)) else (k (28 : Int)))) else (k (0 : Int)))) else (bif (p1 == (9 : Int)) then (bif (p1 == (9 : Int)) then (k (30 : Int)) else (bif (p1 == (2 : Int)) then (Option.bind (T14 F p0) fun z39 => (bif z39 then (k (29 : Int)) else (k (28 : Int)))) else (k (0 : Int)))) else (bif (p1 == (11 : Int)) then (k (30 : Int)) else (bif (p1 == (2 : Int)) then (Option.bind (T14 F p0) fun z40 => (bif z40 then (k (29 : Int)) else (k (28 : Int)))) else (k (0 : Int)))))))) else (bif (p1 == (7 : Int)) then (bif (p1 == (7 : Int)) then (k (31 : Int)) else (bif (p1 == (4 : Int)) then (bif (p1 == (4 : Int)) then (k (30 : Int)) else (bif (p1 == (2 : Int)) then (Option.bind (T14 F p0) fun z41 => (bif z41 then (k (29 : Int)) else (k (28 : Int)))) else (k (0 : Int)))) else (bif (p1 == (6 : Int)) then (bif (p1 == (6 : Int)) then (k (30 : Int)) else (bif (p1 == (2 : Int)) then (Option.bind (T14 F p0) fun z42 => (bif z42 then (k (29 : Int)) else (k (28 : Int)))) else (k (0 : Int)))) else (bif (p1 == (9 : Int)) then (bif (p1 == (9 : Int)) then (k (30 : Int)) else (bif (p1 == (2 : Int)) then (Option.bind (T14 F p0) fun z43 => (bif z43 then (k (29 : Int)) else (k (28 : Int)))) else (k (0 : Int)))) else (bif (p1 == (11 : Int)) then (k (30 : Int)) else (bif (p1 == (2 : Int)) then (Option.bind (T14 F p0) fun z44 => (bif z44 then (k (29 : Int)) else (k (28 : Int)))) else (k (0 : Int)))))))) else (bif (p1 == (8 : Int)) then (bif (p1 == (8 : Int)) then (k (31 : Int)) else (bif (p1 == (4 : Int)) then (bif (p1 == (4 : Int)) then (k (30 : Int)) else (bif (p1 == (2 : Int)) then (Option.bind (T14 F p0) fun z45 => (bif z45 then (k (29 : Int)) else (k (28 : Int)))) else (k (0 : Int)))) else (bif (p1 == (6 : Int)) then (bif (p1 == (6 : Int)) then (k (30 : Int)) else (bif (p1 == (2 : Int)) then (Option.bind (T14 F p0) fun z46 => (bif z46 then (k (29 : Int)) else (k (28 : Int)))) else (k (0 : Int)))) else (bif (p1 == (9 : Int)) then (bif (p1 == (9 : Int)) then (k (30 : Int)) else (bif (p1 == (2 : Int)) then (Option.bind (T14 F p0) fun z47 => (bif z47 then (k (29 : Int)) else (k (28 : Int)))) else (k (0 : Int)))) else (bif (p1 == (11 : Int)) then (k (30 : Int)) else (bif (p1 == (2 : Int)) then (Option.bind (T14 F p0) fun z48 => (bif z48 then (k (29 : Int)) else (k (28 : Int)))) else (k (0 : Int)))))))) else (bif (p1 == (10 : Int)) then (bif (p1 == (10 : Int)) then (k (31 : Int)) else (bif (p1 == (4 : Int)) then (bif (p1 == (4 : Int)) then (k (30 : Int)) else (bif (p1 == (2 : Int)) then (Option.bind (T14 F p0) fun z49 => (bif z49 then (k (29 : Int)) else (k (28 : Int)))) else (k (0 : Int)))) else (bif (p1 == (6 : Int)) then (bif (p1 == (6 : Int)) then (k (30 : Int)) else (bif (p1 == (2 : Int)) then (Option.bind (T14 F p0) fun z50 => (bif z50 then (k (29 : Int)) else (k (28 : Int)))) else (k (0 : Int)))) else (bif (p1 == (9 : Int)) then (bif (p1 == (9 : Int)) then (k (30 : Int)) else (bif (p1 == (2 : Int)) then (Option.bind (T14 F p0) fun z51 => (bif z51 then (k (29 : Int)) else (k (28 : Int)))) else (k (0 : Int)))) else (bif (p1 == (11 : Int)) then (k (30 : Int)) else (bif (p1 == (2 : Int)) then (Option.bind (T14 F p0) fun z52 => (bif z52 then (k (29 : Int)) else (k (28 : Int)))) else (k (0 : Int)))))))) else (bif (p1 == (12 : Int)) then (k (31 : Int)) else (bif (p1 == (4 : Int)) then (bif (p1 == (4 : Int)) then (k (30 : Int)) else (bif (p1 == (2 : Int)) then (Option.bind (T14 F p0) fun z53 => (bif z53 then (k (29 : Int)) else (k (28 : Int)))) else (k (0 : Int)))) else (bif (p1 == (6 : Int)) then (bif (p1 == (6 : Int)) then (k (30 : Int)) else (bif (p1 == (2 : Int)) then (Option.bind (T14 F p0) fun z54 => (bif z54 then (k (29 : Int)) else (k (28 : Int)))) else (k (0 : Int)))) else (bif (p1 == (9 : Int)) then (bif (p1 == (9 : Int)) then (k (30 : Int)) else (bif (p1 == (2 : Int)) then (Option.bind (T14 F p0) fun z55 => (bif z55 then (k (29 : Int)) else (k (28 : Int)))) else (k (0 : Int)))) else (bif (p1 == (11 : Int)) then (k (30 : Int)) else (bif (p1 == (2 : Int)) then (Option.bind (T14 F p0) fun z56 => (bif z56 then (k (29 : Int)) else (k (28 : Int)))) else (k (0 : Int))))))))))))))
def T16 (F : Nat) (p0 : Int) (p1 : Int) : Option (Int) := T16c F p0 p1 some
theorem T16n (F : Nat) (p0 : Int) (p1 : Int) {β : Type} (k : Int → Option β) : T16c F p0 p1 k = (T16 F p0 p1).bind k := by
  simp only [T16, T16c, Option.bind_assoc, cond_bind, Option.bind_some, elimS_bind]
@[reducible] def cA16 : List Sh := [.i, .i]
@[reducible] def cB16 : List Sh := [.i]
@[reducible] def cT16 : List TSh := []
@[reducible] def cU16 : List TSh := []
def ct16 (F : Nat) : Ct := mkC 0 cA16 cT16 cB16 cU16 (fun x y => T16 F x.1 x.2.1) (fun x y (z : Int) => ((z, ()), ()))
theorem eq16 (F : Nat) (x : dens cA16) (y : tdens cT16) : sev (E16 F) 0 [] (bodyOf Tryd.f16) [] (mkSt (rng 2) cA16 cT16 x y) (kFn (E16 F) 0 Tryd.f16.results.toList cB16 cU16 fun p q => some (p, q)) =
    T16c F x.1 x.2.1 (fun z => some ((z, ()), ())) := by kernel_rfl
theorem ok16 (F : Nat) : Sound Tryd.prog cfg 16 (ct16 F) :=
  mkC_ok (E := E16 F) (lp := []) (code := bodyOf Tryd.f16) Tryd.func16 rfl Tryd.ntmps16 rfl rfl cok (cts16 F) mixed trivial (by kernel_rfl) (fun x y k => T16c F x.1 x.2.1 k) (fun x y k => T16n F x.1 x.2.1 k) (eq16 F)
end Go.Proofs.YtdfmjgbnbfncmaaDoor
/- kinkeep/kinkeepref21.Date: its twin, and that the call does what the twin says. Printed by a program. -/
namespace Go.Proofs.YtdfmjgbnbfncmaaDoor
open Go.Tw
set_option linter.unusedSimpArgs false
set_option linter.unusedVariables false
def ord18 : Nat → List (Tag × Nat)
  | _ => []
def al18 : Nat → Option Nat
  | _ => none
def E18 (F : Nat) : Ev := ⟨cfg, 49, ctOf [(36, ct36 F), (37, ct37 F), (16, ct16 F)], ord18, ctOf [], al18⟩
theorem cts18 (F : Nat) : CtsOk Tryd.prog (E18 F) := cts_of (l := [(36, ct36 F), (37, ct37 F), (16, ct16 F)]) (l' := []) rfl rfl ⟨⟨ok36 F, _, Tryd.func36, rfl, rfl⟩, ⟨⟨ok37 F, _, Tryd.func37, rfl, rfl⟩, ⟨⟨ok16 F, _, Tryd.func16, rfl, rfl⟩, trivial⟩⟩⟩ trivial
def L18_3c (F : Nat) (y27 : Int) (y31 : Int) {β : Type} (kA : (Int × Int) → Option β) (kO : (Int × Int) → Option β) : Option β :=
  (Option.bind (T37 F y31) fun z36 => (bif (decide (z36 ≤ y27)) then (Option.bind (T37 F y31) fun z37 => (kA ((w64 (y27 - z37)), (w64 (y31 + (1 : Int)))))) else (kO (y27, y31))))
def L18_3 (F : Nat) (y27 : Int) (y31 : Int) : Option ((Int × Int) ⊕ (Int × Int)) := L18_3c F y27 y31 (fun s => some (.inl s)) (fun z => some (.inr z))
theorem L18_3n (F : Nat) (y27 : Int) (y31 : Int) {β : Type} (kA : (Int × Int) → Option β) (kO : (Int × Int) → Option β) : L18_3c F y27 y31 kA kO = (L18_3 F y27 y31).bind (elimS kA kO) := by
  simp only [L18_3, L18_3c, Option.bind_assoc, cond_bind, Option.bind_some, elimS_l, elimS_r, elimS_bind]
@[reducible] def sA18_3 : List Sh := [.i, (.pt 0 []), (.pt 1 [])]
@[reducible] def sAp118_3 : List Sh := [.i, (.pt 0 []), (.pt 1 [])]
@[reducible] def sT18_3 : List TSh := [.blk 27 (.pr .i (.pr .i (.pr .i .un))), .blk 27 (.pr .i (.pr .i (.pr .i .un)))]
@[reducible] def sTp118_3 : List TSh := [.blk 27 (.pr .i (.pr .i (.pr .i .un))), .blk 27 (.pr .i (.pr .i (.pr .i .un)))]
def lc18_3 (F : Nat) : Lc := mkL [0, 2, 5] sA18_3 sT18_3 [0, 2, 5] sAp118_3 sTp118_3 F (fun x y (s : Int × Int) => L18_3 F s.1 s.2) (fun x y => (x.1, y.2.1.1)) (fun x y (z : Int × Int) => ((z.1, (), (), ()), ((y.1.1, y.1.2.1, y.1.2.2.1, ()), (z.2, y.2.1.2.1, y.2.1.2.2.1, ()), ())))
theorem le18_3 (F : Nat) (x : dens sA18_3) (y : tdens sT18_3) (s : Int × Int) : sev (E18 F) 0 [] (cAt (bodyOf Tryd.f18) (0 :: 0 :: [0, 1, 1, 1])) (0 :: 0 :: [0, 1, 1, 1]) (mkSt [0, 2, 5] sA18_3 sT18_3 (s.1, (), (), ()) ((y.1.1, y.1.2.1, y.1.2.2.1, ()), (s.2, y.2.1.2.1, y.2.1.2.2.1, ()), ())) (kLoop 0 [0, 2, 5] sA18_3 sT18_3 [0, 2, 5] sAp118_3 sTp118_3 [] [] [] 0 (fun x y => some (.inl (x, y))) (fun x y => some (.inr (.inl (x, y)))) (fun x y => some (.inr (.inr (x, y))))) =
    L18_3c (β := Full sA18_3 sT18_3 sAp118_3 sTp118_3 [] []) F s.1 s.2 (fun s => some (.inl ((s.1, (), (), ()), ((y.1.1, y.1.2.1, y.1.2.2.1, ()), (s.2, y.2.1.2.1, y.2.1.2.2.1, ()), ())))) (fun z => some (.inr (.inl ((z.1, (), (), ()), ((y.1.1, y.1.2.1, y.1.2.2.1, ()), (z.2, y.2.1.2.1, y.2.1.2.2.1, ()), ()))))) := by kernel_rfl
theorem lo18_3 (F : Nat) : LcOk Tryd.prog (E18 F) 0 (lc18_3 F) (cAt (bodyOf Tryd.f18) [0, 1, 1, 1]) :=
  mkL_ok (lp := []) (id := 0) (b := cAt (bodyOf Tryd.f18) (0 :: 0 :: [0, 1, 1, 1])) cok (cts18 F) mixed trivial (by kernel_rfl) (by kernel_rfl) (fun x y s => (s.1, (), (), ())) (fun x y s => ((y.1.1, y.1.2.1, y.1.2.2.1, ()), (s.2, y.2.1.2.1, y.2.1.2.2.1, ()), ())) (fun x y => rfl) (fun x y => rfl) (fun x y s kA kO => L18_3c F s.1 s.2 kA kO) (fun x y s kA kO => L18_3n F s.1 s.2 kA kO) (le18_3 F)
def L18_4c (F : Nat) (y43 : Int) (y39 : Int) (y44 : Int) {β : Type} (kA : (Int × Int) → Option β) (kO : (Int × Int) → Option β) : Option β :=
  (Option.bind (T16 F y43 y44) fun z48 => (bif (decide (z48 ≤ y39)) then (Option.bind (T16 F y43 y44) fun z49 => (kA ((w64 (y39 - z49)), (w64 (y44 + (1 : Int)))))) else (kO (y39, y44))))
def L18_4 (F : Nat) (y43 : Int) (y39 : Int) (y44 : Int) : Option ((Int × Int) ⊕ (Int × Int)) := L18_4c F y43 y39 y44 (fun s => some (.inl s)) (fun z => some (.inr z))
theorem L18_4n (F : Nat) (y43 : Int) (y39 : Int) (y44 : Int) {β : Type} (kA : (Int × Int) → Option β) (kO : (Int × Int) → Option β) : L18_4c F y43 y39 y44 kA kO = (L18_4 F y43 y39 y44).bind (elimS kA kO) := by
  simp only [L18_4, L18_4c, Option.bind_assoc, cond_bind, Option.bind_some, elimS_l, elimS_r, elimS_bind]
@[reducible] def sA18_4 : List Sh := [.i, (.pt 0 []), (.pt 1 [])]
@[reducible] def sAp118_4 : List Sh := [.i, (.pt 0 []), (.pt 1 [])]
@[reducible] def sT18_4 : List TSh := [.blk 27 (.pr .i (.pr .i (.pr .i .un))), .blk 27 (.pr .i (.pr .i (.pr .i .un)))]
@[reducible] def sTp118_4 : List TSh := [.blk 27 (.pr .i (.pr .i (.pr .i .un))), .blk 27 (.pr .i (.pr .i (.pr .i .un)))]
def lc18_4 (F : Nat) : Lc := mkL [0, 2, 5] sA18_4 sT18_4 [0, 2, 5] sAp118_4 sTp118_4 F (fun x y (s : Int × Int) => L18_4 F y.2.1.1 s.1 s.2) (fun x y => (x.1, y.2.1.2.1)) (fun x y (z : Int × Int) => ((z.1, (), (), ()), ((y.1.1, y.1.2.1, y.1.2.2.1, ()), (y.2.1.1, z.2, y.2.1.2.2.1, ()), ())))
theorem le18_4 (F : Nat) (x : dens sA18_4) (y : tdens sT18_4) (s : Int × Int) : sev (E18 F) 0 [] (cAt (bodyOf Tryd.f18) (0 :: 0 :: [0, 1, 1, 1, 1])) (0 :: 0 :: [0, 1, 1, 1, 1]) (mkSt [0, 2, 5] sA18_4 sT18_4 (s.1, (), (), ()) ((y.1.1, y.1.2.1, y.1.2.2.1, ()), (y.2.1.1, s.2, y.2.1.2.2.1, ()), ())) (kLoop 0 [0, 2, 5] sA18_4 sT18_4 [0, 2, 5] sAp118_4 sTp118_4 [] [] [] 2 (fun x y => some (.inl (x, y))) (fun x y => some (.inr (.inl (x, y)))) (fun x y => some (.inr (.inr (x, y))))) =
    L18_4c (β := Full sA18_4 sT18_4 sAp118_4 sTp118_4 [] []) F y.2.1.1 s.1 s.2 (fun s => some (.inl ((s.1, (), (), ()), ((y.1.1, y.1.2.1, y.1.2.2.1, ()), (y.2.1.1, s.2, y.2.1.2.2.1, ()), ())))) (fun z => some (.inr (.inl ((z.1, (), (), ()), ((y.1.1, y.1.2.1, y.1.2.2.1, ()), (y.2.1.1, z.2, y.2.1.2.2.1, ()), ()))))) := by kernel_rfl
theorem lo18_4 (F : Nat) : LcOk Tryd.prog (E18 F) 0 (lc18_4 F) (cAt (bodyOf Tryd.f18) [0, 1, 1, 1, 1]) :=
  mkL_ok (lp := []) (id := 2) (b := cAt (bodyOf Tryd.f18) (0 :: 0 :: [0, 1, 1, 1, 1])) cok (cts18 F) mixed trivial (by kernel_rfl) (by kernel_rfl) (fun x y s => (s.1, (), (), ())) (fun x y s => ((y.1.1, y.1.2.1, y.1.2.2.1, ()), (y.2.1.1, s.2, y.2.1.2.2.1, ()), ())) (fun x y => rfl) (fun x y => rfl) (fun x y s kA kO => L18_4c F y.2.1.1 s.1 s.2 kA kO) (fun x y s kA kO => L18_4n F y.2.1.1 s.1 s.2 kA kO) (le18_4 F)
def T18c (F : Nat) (p0 : Int) {β : Type} (k : (Int × Int × Int × Int) → Option β) : Option β :=
  (Option.bind (T36 F p0) fun z26 => (bif (z26 != (0 : Int)) then (k ((0 : Int), (0 : Int), (0 : Int), z26)) else (Option.bind (iter (fun s => L18_3 F s.1 s.2) F (p0, (2000 : Int))) fun z38 => (Option.bind (iter (fun s => L18_4 F z38.2 s.1 s.2) F (z38.1, (1 : Int))) fun z50 => (k (z38.2, z50.2, (w64 (z50.1 + (1 : Int))), (0 : Int)))))))
def T18 (F : Nat) (p0 : Int) : Option (Int × Int × Int × Int) := T18c F p0 some
theorem T18n (F : Nat) (p0 : Int) {β : Type} (k : (Int × Int × Int × Int) → Option β) : T18c F p0 k = (T18 F p0).bind k := by
  simp only [T18, T18c, Option.bind_assoc, cond_bind, Option.bind_some, elimS_bind]
@[reducible] def cA18 : List Sh := [.i]
@[reducible] def cB18 : List Sh := [(.pr .i (.pr .i (.pr .i .un))), .i]
@[reducible] def cT18 : List TSh := []
@[reducible] def cU18 : List TSh := []
def ct18 (F : Nat) : Ct := mkC 0 cA18 cT18 cB18 cU18 (fun x y => T18 F x.1) (fun x y (z : Int × Int × Int × Int) => (((z.1, z.2.1, z.2.2.1, ()), z.2.2.2, ()), ()))
theorem eq18 (F : Nat) (x : dens cA18) (y : tdens cT18) : sev (E18 F) 0 [([0, 1, 1, 1], lc18_3 F), ([0, 1, 1, 1, 1], lc18_4 F)] (bodyOf Tryd.f18) [] (mkSt (rng 1) cA18 cT18 x y) (kFn (E18 F) 0 Tryd.f18.results.toList cB18 cU18 fun p q => some (p, q)) =
    T18c F x.1 (fun z => some (((z.1, z.2.1, z.2.2.1, ()), z.2.2.2, ()), ())) := by kernel_rfl
theorem ok18 (F : Nat) : Sound Tryd.prog cfg 18 (ct18 F) :=
  mkC_ok (E := E18 F) (lp := [([0, 1, 1, 1], lc18_3 F), ([0, 1, 1, 1, 1], lc18_4 F)]) (code := bodyOf Tryd.f18) Tryd.func18 rfl Tryd.ntmps18 rfl rfl cok (cts18 F) mixed ⟨lo18_3 F, ⟨lo18_4 F, trivial⟩⟩ (by kernel_rfl) (fun x y k => T18c F x.1 k) (fun x y k => T18n F x.1 k) (eq18 F)
end Go.Proofs.YtdfmjgbnbfncmaaDoor
/- kinkeep/kinkeepref21.Month: its twin, and that the call does what the twin says. Printed by a program. -/
namespace Go.Proofs.YtdfmjgbnbfncmaaDoor
open Go.Tw
set_option linter.unusedSimpArgs false
set_option linter.unusedVariables false
def ord31 : Nat → List (Tag × Nat)
  | _ => []
def al31 : Nat → Option Nat
  | _ => none
def E31 (F : Nat) : Ev := ⟨cfg, 20, ctOf [(18, ct18 F)], ord31, ctOf [], al31⟩
theorem cts31 (F : Nat) : CtsOk Tryd.prog (E31 F) := cts_of (l := [(18, ct18 F)]) (l' := []) rfl rfl ⟨⟨ok18 F, _, Tryd.func18, rfl, rfl⟩, trivial⟩ trivial
def T31c (F : Nat) (p0 : Int) {β : Type} (k : Int → Option β) : Option β :=
  (Option.bind (T18 F p0) fun z2 => (bif (z2.2.2.2 != (0 : Int)) then (k (-1 : Int)) else (k (w64 ((w64 ((w64 ((12 : Int) * (w64 (z2.1 - (2000 : Int))))) + z2.2.1)) - (1 : Int))))))
def T31 (F : Nat) (p0 : Int) : Option (Int) := T31c F p0 some
theorem T31n (F : Nat) (p0 : Int) {β : Type} (k : Int → Option β) : T31c F p0 k = (T31 F p0).bind k := by
  simp only [T31, T31c, Option.bind_assoc, cond_bind, Option.bind_some, elimS_bind]
@[reducible] def cA31 : List Sh := [.i]
@[reducible] def cB31 : List Sh := [.i]
@[reducible] def cT31 : List TSh := []
@[reducible] def cU31 : List TSh := []
def ct31 (F : Nat) : Ct := mkC 0 cA31 cT31 cB31 cU31 (fun x y => T31 F x.1) (fun x y (z : Int) => ((z, ()), ()))
theorem eq31 (F : Nat) (x : dens cA31) (y : tdens cT31) : sev (E31 F) 0 [] (bodyOf Tryd.f31) [] (mkSt (rng 1) cA31 cT31 x y) (kFn (E31 F) 0 Tryd.f31.results.toList cB31 cU31 fun p q => some (p, q)) =
    T31c F x.1 (fun z => some ((z, ()), ())) := by kernel_rfl
theorem ok31 (F : Nat) : Sound Tryd.prog cfg 31 (ct31 F) :=
  mkC_ok (E := E31 F) (lp := []) (code := bodyOf Tryd.f31) Tryd.func31 rfl Tryd.ntmps31 rfl rfl cok (cts31 F) mixed trivial (by kernel_rfl) (fun x y k => T31c F x.1 k) (fun x y k => T31n F x.1 k) (eq31 F)
end Go.Proofs.YtdfmjgbnbfncmaaDoor
/- kinkeep/kinkeepref21.Valid: its twin, and that the call does what the twin says. Printed by a program. -/
namespace Go.Proofs.YtdfmjgbnbfncmaaDoor
open Go.Tw
set_option linter.unusedSimpArgs false
set_option linter.unusedVariables false
def ord39 : Nat → List (Tag × Nat)
  | 1 => [(.p, 0), (.r, 1), (.p, 2), (.p, 3), (.p, 4), (.r, 5), (.p, 6), (.p, 7), (.p, 8), (.p, 9), (.c, 10), (.p, 11), (.r, 12), (.p, 13), (.r, 14), (.w, 15), (.p, 16), (.p, 17), (.p, 18)]
  | _ => []
def al39 : Nat → Option Nat
  | _ => none
def E39 (F : Nat) : Ev := ⟨cfg, 21, ctOf [(16, ct16 F)], ord39, ctOf [], al39⟩
theorem cts39 (F : Nat) : CtsOk Tryd.prog (E39 F) := cts_of (l := [(16, ct16 F)]) (l' := []) rfl rfl ⟨⟨ok16 F, _, Tryd.func16, rfl, rfl⟩, trivial⟩ trivial
def T39c (F : Nat) (p0 : Int) (p1 : Int) (p2 : Int) {β : Type} (k : Bool → Option β) : Option β :=
  (bif (decide ((2000 : Int) ≤ p0)) then (bif (decide ((1 : Int) ≤ p2)) then (Option.bind (T16 F p0 p1) fun z2 => (k (decide (p2 ≤ z2)))) else (k false)) else (k false))
def T39 (F : Nat) (p0 : Int) (p1 : Int) (p2 : Int) : Option (Bool) := T39c F p0 p1 p2 some
theorem T39n (F : Nat) (p0 : Int) (p1 : Int) (p2 : Int) {β : Type} (k : Bool → Option β) : T39c F p0 p1 p2 k = (T39 F p0 p1 p2).bind k := by
  simp only [T39, T39c, Option.bind_assoc, cond_bind, Option.bind_some, elimS_bind]
@[reducible] def cA39 : List Sh := [(.pr .i (.pr .i (.pr .i .un)))]
@[reducible] def cB39 : List Sh := [.bo]
@[reducible] def cT39 : List TSh := []
@[reducible] def cU39 : List TSh := []
def ct39 (F : Nat) : Ct := mkC 0 cA39 cT39 cB39 cU39 (fun x y => T39 F x.1.1 x.1.2.1 x.1.2.2.1) (fun x y (z : Bool) => ((z, ()), ()))
theorem eq39 (F : Nat) (x : dens cA39) (y : tdens cT39) : sev (E39 F) 0 [] (bodyOf Tryd.f39) [] (mkSt (rng 1) cA39 cT39 x y) (kFn (E39 F) 0 Tryd.f39.results.toList cB39 cU39 fun p q => some (p, q)) =
    T39c F x.1.1 x.1.2.1 x.1.2.2.1 (fun z => some ((z, ()), ())) := by kernel_rfl
theorem ok39 (F : Nat) : Sound Tryd.prog cfg 39 (ct39 F) :=
  mkC_ok (E := E39 F) (lp := []) (code := bodyOf Tryd.f39) Tryd.func39 rfl Tryd.ntmps39 rfl rfl cok (cts39 F) mixed trivial (by kernel_rfl) (fun x y k => T39c F x.1.1 x.1.2.1 x.1.2.2.1 k) (fun x y k => T39n F x.1.1 x.1.2.1 x.1.2.2.1 k) (eq39 F)
end Go.Proofs.YtdfmjgbnbfncmaaDoor
/- kinkeep/kinkeepref21.Day: its twin, and that the call does what the twin says. Printed by a program. -/
namespace Go.Proofs.YtdfmjgbnbfncmaaDoor
open Go.Tw
set_option linter.unusedSimpArgs false
set_option linter.unusedVariables false
def ord20 : Nat → List (Tag × Nat)
  | _ => []
def al20 : Nat → Option Nat
  | _ => none
def E20 (F : Nat) : Ev := ⟨cfg, 40, ctOf [(39, ct39 F), (37, ct37 F), (16, ct16 F)], ord20, ctOf [], al20⟩
theorem cts20 (F : Nat) : CtsOk Tryd.prog (E20 F) := cts_of (l := [(39, ct39 F), (37, ct37 F), (16, ct16 F)]) (l' := []) rfl rfl ⟨⟨ok39 F, _, Tryd.func39, rfl, rfl⟩, ⟨⟨ok37 F, _, Tryd.func37, rfl, rfl⟩, ⟨⟨ok16 F, _, Tryd.func16, rfl, rfl⟩, trivial⟩⟩⟩ trivial
def L20_3c (F : Nat) (y21 : Int) (y19 : Int) (y20 : Int) {β : Type} (kA : (Int × Int) → Option β) (kO : Int → Option β) (kR : (Int × Int) → Option β) : Option β :=
  (bif (decide (y20 < y21)) then (Option.bind (T37 F y20) fun z25 => (bif (decide ((999999 : Int) < (w64 (y19 + z25)))) then (kR ((0 : Int), (2 : Int))) else (kA ((w64 (y19 + z25)), (w64 (y20 + (1 : Int))))))) else (kO y19))
def L20_3 (F : Nat) (y21 : Int) (y19 : Int) (y20 : Int) : Option ((Int × Int) ⊕ ((Int) ⊕ (Int × Int))) := L20_3c F y21 y19 y20 (fun s => some (.inl s)) (fun z => some (.inr (.inl z))) (fun z => some (.inr (.inr z)))
theorem L20_3n (F : Nat) (y21 : Int) (y19 : Int) (y20 : Int) {β : Type} (kA : (Int × Int) → Option β) (kO : Int → Option β) (kR : (Int × Int) → Option β) : L20_3c F y21 y19 y20 kA kO kR = (L20_3 F y21 y19 y20).bind (elimS kA (elimS kO kR)) := by
  simp only [L20_3, L20_3c, Option.bind_assoc, cond_bind, Option.bind_some, elimS_l, elimS_r, elimS_bind]
@[reducible] def sA20_3 : List Sh := [(.pt 0 []), .i, .i]
@[reducible] def sAp120_3 : List Sh := [(.pt 0 []), .i]
@[reducible] def sAp220_3 : List Sh := [.i, .i]
@[reducible] def sT20_3 : List TSh := [.blk 27 (.pr .i (.pr .i (.pr .i .un)))]
@[reducible] def sTp120_3 : List TSh := [.blk 27 (.pr .i (.pr .i (.pr .i .un)))]
@[reducible] def sTp220_3 : List TSh := []
def lc20_3 (F : Nat) : Lc := mkR [1, 4, 5] sA20_3 sT20_3 [1, 4] sAp120_3 sTp120_3 [2, 3] sAp220_3 sTp220_3 F (fun x y (s : Int × Int) => L20_3 F y.1.1 s.1 s.2) (fun x y => (x.2.1, x.2.2.1)) (fun x y (z : Int) => (((), z, ()), ((y.1.1, y.1.2.1, y.1.2.2.1, ()), ()))) (fun x y (z : Int × Int) => ((z.1, z.2, ()), ()))
theorem le20_3 (F : Nat) (x : dens sA20_3) (y : tdens sT20_3) (s : Int × Int) : sev (E20 F) 0 [] (cAt (bodyOf Tryd.f20) (0 :: 0 :: [1, 0, 1, 1, 1])) (0 :: 0 :: [1, 0, 1, 1, 1]) (mkSt [1, 4, 5] sA20_3 sT20_3 ((), s.1, s.2, ()) ((y.1.1, y.1.2.1, y.1.2.2.1, ()), ())) (kLoop 0 [1, 4, 5] sA20_3 sT20_3 [1, 4] sAp120_3 sTp120_3 [2, 3] sAp220_3 sTp220_3 0 (fun x y => some (.inl (x, y))) (fun x y => some (.inr (.inl (x, y)))) (fun x y => some (.inr (.inr (x, y))))) =
    L20_3c (β := Full sA20_3 sT20_3 sAp120_3 sTp120_3 sAp220_3 sTp220_3) F y.1.1 s.1 s.2 (fun s => some (.inl (((), s.1, s.2, ()), ((y.1.1, y.1.2.1, y.1.2.2.1, ()), ())))) (fun z => some (.inr (.inl (((), z, ()), ((y.1.1, y.1.2.1, y.1.2.2.1, ()), ()))))) (fun z => some (.inr (.inr ((z.1, z.2, ()), ())))) := by kernel_rfl
theorem lo20_3 (F : Nat) : LcOk Tryd.prog (E20 F) 0 (lc20_3 F) (cAt (bodyOf Tryd.f20) [1, 0, 1, 1, 1]) :=
  mkR_ok (lp := []) (id := 0) (b := cAt (bodyOf Tryd.f20) (0 :: 0 :: [1, 0, 1, 1, 1])) cok (cts20 F) mixed trivial (by kernel_rfl) (by kernel_rfl) (fun x y s => ((), s.1, s.2, ())) (fun x y s => ((y.1.1, y.1.2.1, y.1.2.2.1, ()), ())) (fun x y => rfl) (fun x y => rfl) (fun x y s kA kO kR => L20_3c F y.1.1 s.1 s.2 kA kO kR) (fun x y s kA kO kR => L20_3n F y.1.1 s.1 s.2 kA kO kR) (le20_3 F)
def L20_4c (F : Nat) (y29 : Int) (y30 : Int) (y27 : Int) (y28 : Int) {β : Type} (kA : (Int × Int) → Option β) (kO : Int → Option β) : Option β :=
  (bif (decide (y28 < y30)) then (Option.bind (T16 F y29 y28) fun z33 => (kA ((w64 (y27 + z33)), (w64 (y28 + (1 : Int)))))) else (kO y27))
def L20_4 (F : Nat) (y29 : Int) (y30 : Int) (y27 : Int) (y28 : Int) : Option ((Int × Int) ⊕ (Int)) := L20_4c F y29 y30 y27 y28 (fun s => some (.inl s)) (fun z => some (.inr z))
theorem L20_4n (F : Nat) (y29 : Int) (y30 : Int) (y27 : Int) (y28 : Int) {β : Type} (kA : (Int × Int) → Option β) (kO : Int → Option β) : L20_4c F y29 y30 y27 y28 kA kO = (L20_4 F y29 y30 y27 y28).bind (elimS kA kO) := by
  simp only [L20_4, L20_4c, Option.bind_assoc, cond_bind, Option.bind_some, elimS_l, elimS_r, elimS_bind]
@[reducible] def sA20_4 : List Sh := [(.pt 0 []), .i, .i]
@[reducible] def sAp120_4 : List Sh := [.i]
@[reducible] def sT20_4 : List TSh := [.blk 27 (.pr .i (.pr .i (.pr .i .un)))]
@[reducible] def sTp120_4 : List TSh := []
def lc20_4 (F : Nat) : Lc := mkL [1, 4, 6] sA20_4 sT20_4 [4] sAp120_4 sTp120_4 F (fun x y (s : Int × Int) => L20_4 F y.1.1 y.1.2.1 s.1 s.2) (fun x y => (x.2.1, x.2.2.1)) (fun x y (z : Int) => ((z, ()), ()))
theorem le20_4 (F : Nat) (x : dens sA20_4) (y : tdens sT20_4) (s : Int × Int) : sev (E20 F) 0 [] (cAt (bodyOf Tryd.f20) (0 :: 0 :: [1, 0, 1, 1, 1, 1])) (0 :: 0 :: [1, 0, 1, 1, 1, 1]) (mkSt [1, 4, 6] sA20_4 sT20_4 ((), s.1, s.2, ()) ((y.1.1, y.1.2.1, y.1.2.2.1, ()), ())) (kLoop 0 [1, 4, 6] sA20_4 sT20_4 [4] sAp120_4 sTp120_4 [] [] [] 2 (fun x y => some (.inl (x, y))) (fun x y => some (.inr (.inl (x, y)))) (fun x y => some (.inr (.inr (x, y))))) =
    L20_4c (β := Full sA20_4 sT20_4 sAp120_4 sTp120_4 [] []) F y.1.1 y.1.2.1 s.1 s.2 (fun s => some (.inl (((), s.1, s.2, ()), ((y.1.1, y.1.2.1, y.1.2.2.1, ()), ())))) (fun z => some (.inr (.inl ((z, ()), ())))) := by kernel_rfl
theorem lo20_4 (F : Nat) : LcOk Tryd.prog (E20 F) 0 (lc20_4 F) (cAt (bodyOf Tryd.f20) [1, 0, 1, 1, 1, 1]) :=
  mkL_ok (lp := []) (id := 2) (b := cAt (bodyOf Tryd.f20) (0 :: 0 :: [1, 0, 1, 1, 1, 1])) cok (cts20 F) mixed trivial (by kernel_rfl) (by kernel_rfl) (fun x y s => ((), s.1, s.2, ())) (fun x y s => ((y.1.1, y.1.2.1, y.1.2.2.1, ()), ())) (fun x y => rfl) (fun x y => rfl) (fun x y s kA kO => L20_4c F y.1.1 y.1.2.1 s.1 s.2 kA kO) (fun x y s kA kO => L20_4n F y.1.1 y.1.2.1 s.1 s.2 kA kO) (le20_4 F)
def T20c (F : Nat) (p0 : Int) (p1 : Int) (p2 : Int) {β : Type} (k : (Int × Int) → Option β) : Option β :=
  (Option.bind (T39 F p0 p1 p2) fun z18 => (bif (!z18) then (k ((0 : Int), (1 : Int))) else (Option.bind (iter (fun s => L20_3 F p0 s.1 s.2) F ((w64 (p2 - (1 : Int))), (2000 : Int))) fun z26 => elimS (fun z26 => (Option.bind (iter (fun s => L20_4 F p0 p1 s.1 s.2) F (z26, (1 : Int))) fun z34 => (bif (decide ((999999 : Int) < z34)) then (k ((0 : Int), (2 : Int))) else (k (z34, (0 : Int)))))) (fun z26 => (k (z26.1, z26.2))) z26)))
def T20 (F : Nat) (p0 : Int) (p1 : Int) (p2 : Int) : Option (Int × Int) := T20c F p0 p1 p2 some
theorem T20n (F : Nat) (p0 : Int) (p1 : Int) (p2 : Int) {β : Type} (k : (Int × Int) → Option β) : T20c F p0 p1 p2 k = (T20 F p0 p1 p2).bind k := by
  simp only [T20, T20c, Option.bind_assoc, cond_bind, Option.bind_some, elimS_bind]
@[reducible] def cA20 : List Sh := [(.pr .i (.pr .i (.pr .i .un)))]
@[reducible] def cB20 : List Sh := [.i, .i]
@[reducible] def cT20 : List TSh := []
@[reducible] def cU20 : List TSh := []
def ct20 (F : Nat) : Ct := mkC 0 cA20 cT20 cB20 cU20 (fun x y => T20 F x.1.1 x.1.2.1 x.1.2.2.1) (fun x y (z : Int × Int) => ((z.1, z.2, ()), ()))
theorem eq20 (F : Nat) (x : dens cA20) (y : tdens cT20) : sev (E20 F) 0 [([1, 0, 1, 1, 1], lc20_3 F), ([1, 0, 1, 1, 1, 1], lc20_4 F)] (bodyOf Tryd.f20) [] (mkSt (rng 1) cA20 cT20 x y) (kFn (E20 F) 0 Tryd.f20.results.toList cB20 cU20 fun p q => some (p, q)) =
    T20c F x.1.1 x.1.2.1 x.1.2.2.1 (fun z => some ((z.1, z.2, ()), ())) := by kernel_rfl
theorem ok20 (F : Nat) : Sound Tryd.prog cfg 20 (ct20 F) :=
  mkC_ok (E := E20 F) (lp := [([1, 0, 1, 1, 1], lc20_3 F), ([1, 0, 1, 1, 1, 1], lc20_4 F)]) (code := bodyOf Tryd.f20) Tryd.func20 rfl Tryd.ntmps20 rfl rfl cok (cts20 F) mixed ⟨lo20_3 F, ⟨lo20_4 F, trivial⟩⟩ (by kernel_rfl) (fun x y k => T20c F x.1.1 x.1.2.1 x.1.2.2.1 k) (fun x y k => T20n F x.1.1 x.1.2.1 x.1.2.2.1 k) (eq20 F)
end Go.Proofs.YtdfmjgbnbfncmaaDoor
/- kinkeep/kinkeepref21.AddMonths: its twin, and that the call does what the twin says. Printed by a program. -/
namespace Go.Proofs.YtdfmjgbnbfncmaaDoor
open Go.Tw
set_option linter.unusedSimpArgs false
set_option linter.unusedVariables false
def ord25 : Nat → List (Tag × Nat)
  | 8 => [(.p, 0), (.c, 1), (.p, 2), (.r, 3), (.p, 4), (.r, 5), (.w, 6), (.p, 7), (.p, 8), (.b, 9)]
  | _ => []
def al25 : Nat → Option Nat
  | _ => none
def E25 (F : Nat) : Ev := ⟨cfg, 55, ctOf [(18, ct18 F), (31, ct31 F), (16, ct16 F), (20, ct20 F)], ord25, ctOf [], al25⟩
theorem cts25 (F : Nat) : CtsOk Tryd.prog (E25 F) := cts_of (l := [(18, ct18 F), (31, ct31 F), (16, ct16 F), (20, ct20 F)]) (l' := []) rfl rfl ⟨⟨ok18 F, _, Tryd.func18, rfl, rfl⟩, ⟨⟨ok31 F, _, Tryd.func31, rfl, rfl⟩, ⟨⟨ok16 F, _, Tryd.func16, rfl, rfl⟩, ⟨⟨ok20 F, _, Tryd.func20, rfl, rfl⟩, trivial⟩⟩⟩⟩ trivial
def T25c (F : Nat) (p0 : Int) (p1 : Int) {β : Type} (k : (Int × Int) → Option β) : Option β :=
  (Option.bind (T18 F p0) fun z6 => (bif (z6.2.2.2 != (0 : Int)) then (k ((0 : Int), z6.2.2.2)) else (bif (decide (p1 < (-100000 : Int))) then (k ((0 : Int), (1 : Int))) else (bif (decide ((100000 : Int) < p1)) then (k ((0 : Int), (1 : Int))) else (Option.bind (T31 F p0) fun z7 => (bif (decide ((w64 (z7 + p1)) < (0 : Int))) then (k ((0 : Int), (1 : Int))) else (Option.bind (T31 F p0) fun z8 => (Option.bind (T16 F (w64 ((2000 : Int) + (w64 (Int.tdiv (w64 (z8 + p1)) (12 : Int))))) (w64 ((Int.tmod (w64 (z8 + p1)) (12 : Int)) + (1 : Int)))) fun z9 => (Option.bind (T20 F (w64 ((2000 : Int) + (w64 (Int.tdiv (w64 (z8 + p1)) (12 : Int))))) (w64 ((Int.tmod (w64 (z8 + p1)) (12 : Int)) + (1 : Int))) (if z9 < z6.2.2.1 then z9 else z6.2.2.1)) fun z10 => (k (z10.1, z10.2)))))))))))
def T25 (F : Nat) (p0 : Int) (p1 : Int) : Option (Int × Int) := T25c F p0 p1 some
theorem T25n (F : Nat) (p0 : Int) (p1 : Int) {β : Type} (k : (Int × Int) → Option β) : T25c F p0 p1 k = (T25 F p0 p1).bind k := by
  simp only [T25, T25c, Option.bind_assoc, cond_bind, Option.bind_some, elimS_bind]
@[reducible] def cA25 : List Sh := [.i, .i]
@[reducible] def cB25 : List Sh := [.i, .i]
@[reducible] def cT25 : List TSh := []
@[reducible] def cU25 : List TSh := []
def ct25 (F : Nat) : Ct := mkC 0 cA25 cT25 cB25 cU25 (fun x y => T25 F x.1 x.2.1) (fun x y (z : Int × Int) => ((z.1, z.2, ()), ()))
theorem eq25 (F : Nat) (x : dens cA25) (y : tdens cT25) : sev (E25 F) 0 [] (bodyOf Tryd.f25) [] (mkSt (rng 2) cA25 cT25 x y) (kFn (E25 F) 0 Tryd.f25.results.toList cB25 cU25 fun p q => some (p, q)) =
    T25c F x.1 x.2.1 (fun z => some ((z.1, z.2, ()), ())) := by kernel_rfl
theorem ok25 (F : Nat) : Sound Tryd.prog cfg 25 (ct25 F) :=
  mkC_ok (E := E25 F) (lp := []) (code := bodyOf Tryd.f25) Tryd.func25 rfl Tryd.ntmps25 rfl rfl cok (cts25 F) mixed trivial (by kernel_rfl) (fun x y k => T25c F x.1 x.2.1 k) (fun x y k => T25n F x.1 x.2.1 k) (eq25 F)
end Go.Proofs.YtdfmjgbnbfncmaaDoor
/- kinkeep/kinkeeplaw21.CalendarLengths: its twin, and that the call does what the twin says. Printed by a program. -/
namespace Go.Proofs.YtdfmjgbnbfncmaaDoor
open Go.Tw
set_option linter.unusedSimpArgs false
set_option linter.unusedVariables false
end Go.Proofs.YtdfmjgbnbfncmaaDoor
/- kinkeep/kinkeeplaw21.CalendarDate: its twin, and that the call does what the twin says. Printed by a program. -/
namespace Go.Proofs.YtdfmjgbnbfncmaaDoor
open Go.Tw
set_option linter.unusedSimpArgs false
set_option linter.unusedVariables false
end Go.Proofs.YtdfmjgbnbfncmaaDoor
/- kinkeep/kinkeeplaw21.CalendarDay: its twin, and that the call does what the twin says. Printed by a program. -/
namespace Go.Proofs.YtdfmjgbnbfncmaaDoor
open Go.Tw
set_option linter.unusedSimpArgs false
set_option linter.unusedVariables false
end Go.Proofs.YtdfmjgbnbfncmaaDoor
/- kinkeep/kinkeeplaw21.CalendarInverts: its twin, and that the call does what the twin says. Printed by a program. -/
namespace Go.Proofs.YtdfmjgbnbfncmaaDoor
open Go.Tw
set_option linter.unusedSimpArgs false
set_option linter.unusedVariables false
end Go.Proofs.YtdfmjgbnbfncmaaDoor
/- kinkeep/kinkeepref21.Weekday: its twin, and that the call does what the twin says. Printed by a program. -/
namespace Go.Proofs.YtdfmjgbnbfncmaaDoor
open Go.Tw
set_option linter.unusedSimpArgs false
set_option linter.unusedVariables false
end Go.Proofs.YtdfmjgbnbfncmaaDoor
/- kinkeep/kinkeepref21.Week: its twin, and that the call does what the twin says. Printed by a program. -/
namespace Go.Proofs.YtdfmjgbnbfncmaaDoor
open Go.Tw
set_option linter.unusedSimpArgs false
set_option linter.unusedVariables false
end Go.Proofs.YtdfmjgbnbfncmaaDoor
/- kinkeep/calendar.Year: its twin, and that the call does what the twin says. Printed by a program. -/
namespace Go.Proofs.YtdfmjgbnbfncmaaDoor
open Go.Tw
set_option linter.unusedSimpArgs false
set_option linter.unusedVariables false
end Go.Proofs.YtdfmjgbnbfncmaaDoor
/- kinkeep/kinkeepref21.Year: its twin, and that the call does what the twin says. Printed by a program. -/
namespace Go.Proofs.YtdfmjgbnbfncmaaDoor
open Go.Tw
set_option linter.unusedSimpArgs false
set_option linter.unusedVariables false
end Go.Proofs.YtdfmjgbnbfncmaaDoor
/- kinkeep/kinkeeplaw21.CalendarNumbers: its twin, and that the call does what the twin says. Printed by a program. -/
namespace Go.Proofs.YtdfmjgbnbfncmaaDoor
open Go.Tw
set_option linter.unusedSimpArgs false
set_option linter.unusedVariables false
end Go.Proofs.YtdfmjgbnbfncmaaDoor
/- kinkeep/kinkeeplaw21.CalendarMonths: its twin, and that the call does what the twin says. Printed by a program. -/
namespace Go.Proofs.YtdfmjgbnbfncmaaDoor
open Go.Tw
set_option linter.unusedSimpArgs false
set_option linter.unusedVariables false
def ord8 : Nat → List (Tag × Nat)
  | _ => []
def al8 : Nat → Option Nat
  | _ => none
def E8 (F : Nat) : Ev := ⟨cfg, 32, ctOf [(24, ct24 F), (25, ct25 F), (12, ct12 F)], ord8, ctOf [], al8⟩
theorem cts8 (F : Nat) : CtsOk Tryd.prog (E8 F) := cts_of (l := [(24, ct24 F), (25, ct25 F), (12, ct12 F)]) (l' := []) rfl rfl ⟨⟨ok24 F, _, Tryd.func24, rfl, rfl⟩, ⟨⟨ok25 F, _, Tryd.func25, rfl, rfl⟩, ⟨⟨ok12 F, _, Tryd.func12, rfl, rfl⟩, trivial⟩⟩⟩ trivial
def T8c (F : Nat) (p0 : Int) (p1 : Int) {β : Type} (k : Bool → Option β) : Option β :=
  (Option.bind (T24 F p0 p1) fun z4 => (Option.bind (T25 F p0 p1) fun z5 => (Option.bind (T12 F) fun z6 => (bif z6 then (bif (z4.1 == z5.1) then (k (z4.2 == z5.2)) else (k false)) else (k false)))))
def T8 (F : Nat) (p0 : Int) (p1 : Int) : Option (Bool) := T8c F p0 p1 some
theorem T8n (F : Nat) (p0 : Int) (p1 : Int) {β : Type} (k : Bool → Option β) : T8c F p0 p1 k = (T8 F p0 p1).bind k := by
  simp only [T8, T8c, Option.bind_assoc, cond_bind, Option.bind_some, elimS_bind]
@[reducible] def cA8 : List Sh := [.i, .i]
@[reducible] def cB8 : List Sh := [.bo]
@[reducible] def cT8 : List TSh := []
@[reducible] def cU8 : List TSh := []
def ct8 (F : Nat) : Ct := mkC 0 cA8 cT8 cB8 cU8 (fun x y => T8 F x.1 x.2.1) (fun x y (z : Bool) => ((z, ()), ()))
theorem eq8 (F : Nat) (x : dens cA8) (y : tdens cT8) : sev (E8 F) 0 [] (bodyOf Tryd.f8) [] (mkSt (rng 2) cA8 cT8 x y) (kFn (E8 F) 0 Tryd.f8.results.toList cB8 cU8 fun p q => some (p, q)) =
    T8c F x.1 x.2.1 (fun z => some ((z, ()), ())) := by kernel_rfl
theorem ok8 (F : Nat) : Sound Tryd.prog cfg 8 (ct8 F) :=
  mkC_ok (E := E8 F) (lp := []) (code := bodyOf Tryd.f8) Tryd.func8 rfl Tryd.ntmps8 rfl rfl cok (cts8 F) mixed trivial (by kernel_rfl) (fun x y k => T8c F x.1 x.2.1 k) (fun x y k => T8n F x.1 x.2.1 k) (eq8 F)
end Go.Proofs.YtdfmjgbnbfncmaaDoor
/- kinkeep/kinkeeplaw21.CalendarMoves: its twin, and that the call does what the twin says. Printed by a program. -/
namespace Go.Proofs.YtdfmjgbnbfncmaaDoor
open Go.Tw
set_option linter.unusedSimpArgs false
set_option linter.unusedVariables false
def ord9 : Nat → List (Tag × Nat)
  | 6 => [(.p, 0), (.p, 1), (.p, 2), (.p, 3), (.p, 4), (.p, 5), (.p, 6), (.p, 7), (.p, 9), (.p, 11), (.w, 8), (.w, 10), (.p, 12), (.p, 13), (.p, 14), (.p, 15), (.p, 16), (.r, 17), (.p, 18), (.r, 19), (.p, 20), (.p, 21), (.p, 22), (.r, 23), (.p, 24), (.r, 25), (.p, 26), (.p, 27), (.p, 28), (.c, 29), (.p, 30), (.r, 31), (.p, 32), (.r, 33), (.w, 34), (.p, 35), (.p, 36), (.p, 37), (.p, 38), (.p, 39)]
  | _ => []
def al9 : Nat → Option Nat
  | _ => none
def E9 (F : Nat) : Ev := ⟨cfg, 77, ctOf [(24, ct24 F), (12, ct12 F), (17, ct17 F), (23, ct23 F), (15, ct15 F)], ord9, ctOf [], al9⟩
theorem cts9 (F : Nat) : CtsOk Tryd.prog (E9 F) := cts_of (l := [(24, ct24 F), (12, ct12 F), (17, ct17 F), (23, ct23 F), (15, ct15 F)]) (l' := []) rfl rfl ⟨⟨ok24 F, _, Tryd.func24, rfl, rfl⟩, ⟨⟨ok12 F, _, Tryd.func12, rfl, rfl⟩, ⟨⟨ok17 F, _, Tryd.func17, rfl, rfl⟩, ⟨⟨ok23 F, _, Tryd.func23, rfl, rfl⟩, ⟨⟨ok15 F, _, Tryd.func15, rfl, rfl⟩, trivial⟩⟩⟩⟩⟩ trivial
def T9c (F : Nat) (p0 : Int) (p1 : Int) {β : Type} (k : Bool → Option β) : Option β :=
  (Option.bind (T24 F p0 p1) fun z10 => (Option.bind (T12 F) fun z11 => (bif (!z11) then (Option.bind (T12 F) fun z12 => (bif z12 then (k (z10.1 == (0 : Int))) else (k false))) else (bif (z10.2 != (0 : Int)) then (Option.bind (T12 F) fun z13 => (bif z13 then (k (z10.1 == (0 : Int))) else (k false))) else (Option.bind (T17 F p0) fun z14 => (Option.bind (T17 F z10.1) fun z15 => (bif (z14.2.2.2 == (0 : Int)) then (bif (z15.2.2.2 == (0 : Int)) then (Option.bind (T23 F z10.1) fun z16 => (Option.bind (T23 F p0) fun z17 => (bif (z16 == (w64 (z17 + p1))) then (bif (z14.2.2.1 == z15.2.2.1) then (k true) else (bif (decide (z15.2.2.1 < z14.2.2.1)) then (Option.bind (T15 F z15.1 z15.2.1) fun z18 => (k (z15.2.2.1 == z18))) else (k false))) else (k false)))) else (k false)) else (k false))))))))
def T9 (F : Nat) (p0 : Int) (p1 : Int) : Option (Bool) := T9c F p0 p1 some
theorem T9n (F : Nat) (p0 : Int) (p1 : Int) {β : Type} (k : Bool → Option β) : T9c F p0 p1 k = (T9 F p0 p1).bind k := by
  simp only [T9, T9c, Option.bind_assoc, cond_bind, Option.bind_some, elimS_bind]
@[reducible] def cA9 : List Sh := [.i, .i]
@[reducible] def cB9 : List Sh := [.bo]
@[reducible] def cT9 : List TSh := []
@[reducible] def cU9 : List TSh := []
def ct9 (F : Nat) : Ct := mkC 0 cA9 cT9 cB9 cU9 (fun x y => T9 F x.1 x.2.1) (fun x y (z : Bool) => ((z, ()), ()))
theorem eq9 (F : Nat) (x : dens cA9) (y : tdens cT9) : sev (E9 F) 0 [] (bodyOf Tryd.f9) [] (mkSt (rng 2) cA9 cT9 x y) (kFn (E9 F) 0 Tryd.f9.results.toList cB9 cU9 fun p q => some (p, q)) =
    T9c F x.1 x.2.1 (fun z => some ((z, ()), ())) := by kernel_rfl
theorem ok9 (F : Nat) : Sound Tryd.prog cfg 9 (ct9 F) :=
  mkC_ok (E := E9 F) (lp := []) (code := bodyOf Tryd.f9) Tryd.func9 rfl Tryd.ntmps9 rfl rfl cok (cts9 F) mixed trivial (by kernel_rfl) (fun x y k => T9c F x.1 x.2.1 k) (fun x y k => T9n F x.1 x.2.1 k) (eq9 F)
end Go.Proofs.YtdfmjgbnbfncmaaDoor
/- kinkeep/kinkeepref21.digits: its twin, and that the call does what the twin says. Printed by a program. -/
namespace Go.Proofs.YtdfmjgbnbfncmaaDoor
open Go.Tw
set_option linter.unusedSimpArgs false
set_option linter.unusedVariables false
def ord41 : Nat → List (Tag × Nat)
  | _ => []
def al41 : Nat → Option Nat
  | _ => none
def E41 (F : Nat) : Ev := ⟨cfg, 27, ctOf [], ord41, ctOf [], al41⟩
theorem cts41 (F : Nat) : CtsOk Tryd.prog (E41 F) := cts_of (l := []) (l' := []) rfl rfl trivial trivial
def L41_2c (F : Nat) (y11 : Int) (y10 : Int) (y12 : List UInt8) (y13 : Int) {β : Type} (kA : (Int × (List UInt8) × Int) → Option β) (kO : ((List UInt8)) → Option β) : Option β :=
  (bif (decide (y13 < y11)) then (Option.bind (gcat ([(UInt8.ofInt (w64 ((48 : Int) + (Int.tmod y10 (10 : Int)))))] : List UInt8) y12) fun x16 => (kA ((w64 (Int.tdiv y10 (10 : Int))), x16, (w64 (y13 + (1 : Int)))))) else (bif (decide ((0 : Int) < y10)) then (Option.bind (gcat ([(UInt8.ofInt (w64 ((48 : Int) + (Int.tmod y10 (10 : Int)))))] : List UInt8) y12) fun x17 => (kA ((w64 (Int.tdiv y10 (10 : Int))), x17, (w64 (y13 + (1 : Int)))))) else (kO y12)))
def L41_2 (F : Nat) (y11 : Int) (y10 : Int) (y12 : List UInt8) (y13 : Int) : Option ((Int × (List UInt8) × Int) ⊕ ((List UInt8))) := L41_2c F y11 y10 y12 y13 (fun s => some (.inl s)) (fun z => some (.inr z))
theorem L41_2n (F : Nat) (y11 : Int) (y10 : Int) (y12 : List UInt8) (y13 : Int) {β : Type} (kA : (Int × (List UInt8) × Int) → Option β) (kO : ((List UInt8)) → Option β) : L41_2c F y11 y10 y12 y13 kA kO = (L41_2 F y11 y10 y12 y13).bind (elimS kA kO) := by
  simp only [L41_2, L41_2c, Option.bind_assoc, cond_bind, Option.bind_some, elimS_l, elimS_r, elimS_bind]
@[reducible] def sA41_2 : List Sh := [.i, .i, .str, .i]
@[reducible] def sAp141_2 : List Sh := [.str]
@[reducible] def sT41_2 : List TSh := []
@[reducible] def sTp141_2 : List TSh := []
def lc41_2 (F : Nat) : Lc := mkL [0, 1, 5, 6] sA41_2 sT41_2 [5] sAp141_2 sTp141_2 F (fun x y (s : Int × (List UInt8) × Int) => L41_2 F x.2.1 s.1 s.2.1 s.2.2) (fun x y => (x.1, x.2.2.1, x.2.2.2.1)) (fun x y (z : (List UInt8)) => ((z, ()), ()))
theorem le41_2 (F : Nat) (x : dens sA41_2) (y : tdens sT41_2) (s : Int × (List UInt8) × Int) : sev (E41 F) 0 [] (cAt (bodyOf Tryd.f41) (0 :: 0 :: [1, 0, 1, 1])) (0 :: 0 :: [1, 0, 1, 1]) (mkSt [0, 1, 5, 6] sA41_2 sT41_2 (s.1, x.2.1, s.2.1, s.2.2, ()) ()) (kLoop 0 [0, 1, 5, 6] sA41_2 sT41_2 [5] sAp141_2 sTp141_2 [] [] [] 0 (fun x y => some (.inl (x, y))) (fun x y => some (.inr (.inl (x, y)))) (fun x y => some (.inr (.inr (x, y))))) =
    L41_2c (β := Full sA41_2 sT41_2 sAp141_2 sTp141_2 [] []) F x.2.1 s.1 s.2.1 s.2.2 (fun s => some (.inl ((s.1, x.2.1, s.2.1, s.2.2, ()), ()))) (fun z => some (.inr (.inl ((z, ()), ())))) := by kernel_rfl
theorem lo41_2 (F : Nat) : LcOk Tryd.prog (E41 F) 0 (lc41_2 F) (cAt (bodyOf Tryd.f41) [1, 0, 1, 1]) :=
  mkL_ok (lp := []) (id := 0) (b := cAt (bodyOf Tryd.f41) (0 :: 0 :: [1, 0, 1, 1])) cok (cts41 F) mixed trivial (by kernel_rfl) (by kernel_rfl) (fun x y s => (s.1, x.2.1, s.2.1, s.2.2, ())) (fun x y s => ()) (fun x y => rfl) (fun x y => rfl) (fun x y s kA kO => L41_2c F x.2.1 s.1 s.2.1 s.2.2 kA kO) (fun x y s kA kO => L41_2n F x.2.1 s.1 s.2.1 s.2.2 kA kO) (le41_2 F)
def T41c (F : Nat) (p0 : Int) (p1 : Int) {β : Type} (k : ((List UInt8)) → Option β) : Option β :=
  (Option.bind (iter (fun s => L41_2 F p1 s.1 s.2.1 s.2.2) F (p0, ([] : List UInt8), (0 : Int))) fun z18 => (k z18))
def T41 (F : Nat) (p0 : Int) (p1 : Int) : Option ((List UInt8)) := T41c F p0 p1 some
theorem T41n (F : Nat) (p0 : Int) (p1 : Int) {β : Type} (k : ((List UInt8)) → Option β) : T41c F p0 p1 k = (T41 F p0 p1).bind k := by
  simp only [T41, T41c, Option.bind_assoc, cond_bind, Option.bind_some, elimS_bind]
@[reducible] def cA41 : List Sh := [.i, .i]
@[reducible] def cB41 : List Sh := [.str]
@[reducible] def cT41 : List TSh := []
@[reducible] def cU41 : List TSh := []
def ct41 (F : Nat) : Ct := mkC 0 cA41 cT41 cB41 cU41 (fun x y => T41 F x.1 x.2.1) (fun x y (z : (List UInt8)) => ((z, ()), ()))
theorem eq41 (F : Nat) (x : dens cA41) (y : tdens cT41) : sev (E41 F) 0 [([1, 0, 1, 1], lc41_2 F)] (bodyOf Tryd.f41) [] (mkSt (rng 2) cA41 cT41 x y) (kFn (E41 F) 0 Tryd.f41.results.toList cB41 cU41 fun p q => some (p, q)) =
    T41c F x.1 x.2.1 (fun z => some ((z, ()), ())) := by kernel_rfl
theorem ok41 (F : Nat) : Sound Tryd.prog cfg 41 (ct41 F) :=
  mkC_ok (E := E41 F) (lp := [([1, 0, 1, 1], lc41_2 F)]) (code := bodyOf Tryd.f41) Tryd.func41 rfl Tryd.ntmps41 rfl rfl cok (cts41 F) mixed ⟨lo41_2 F, trivial⟩ (by kernel_rfl) (fun x y k => T41c F x.1 x.2.1 k) (fun x y k => T41n F x.1 x.2.1 k) (eq41 F)
end Go.Proofs.YtdfmjgbnbfncmaaDoor
/- kinkeep/kinkeepref21.Text: its twin, and that the call does what the twin says. Printed by a program. -/
namespace Go.Proofs.YtdfmjgbnbfncmaaDoor
open Go.Tw
set_option linter.unusedSimpArgs false
set_option linter.unusedVariables false
def ord27 : Nat → List (Tag × Nat)
  | 4 => [(.p, 0), (.r, 1), (.p, 4), (.c, 5), (.p, 9), (.c, 10), (.w, 2), (.p, 3), (.w, 6), (.p, 7), (.p, 8), (.w, 11), (.p, 12), (.p, 13), (.p, 14)]
  | _ => []
def al27 : Nat → Option Nat
  | _ => none
def E27 (F : Nat) : Ev := ⟨cfg, 27, ctOf [(18, ct18 F), (41, ct41 F)], ord27, ctOf [], al27⟩
theorem cts27 (F : Nat) : CtsOk Tryd.prog (E27 F) := cts_of (l := [(18, ct18 F), (41, ct41 F)]) (l' := []) rfl rfl ⟨⟨ok18 F, _, Tryd.func18, rfl, rfl⟩, ⟨⟨ok41 F, _, Tryd.func41, rfl, rfl⟩, trivial⟩⟩ trivial
def T27c (F : Nat) (p0 : Int) {β : Type} (k : ((List UInt8) × Int) → Option β) : Option β :=
  (Option.bind (T18 F p0) fun z9 => (bif (z9.2.2.2 != (0 : Int)) then (k (([] : List UInt8), z9.2.2.2)) else (Option.bind (T41 F z9.1 (4 : Int)) fun z10 => (Option.bind (gcat z10 ([45] : List UInt8)) fun x11 => (Option.bind (T41 F z9.2.1 (2 : Int)) fun z12 => (Option.bind (gcat x11 z12) fun x13 => (Option.bind (gcat x13 ([45] : List UInt8)) fun x14 => (Option.bind (T41 F z9.2.2.1 (2 : Int)) fun z15 => (Option.bind (gcat x14 z15) fun x16 => (k (x16, (0 : Int))))))))))))
def T27 (F : Nat) (p0 : Int) : Option ((List UInt8) × Int) := T27c F p0 some
theorem T27n (F : Nat) (p0 : Int) {β : Type} (k : ((List UInt8) × Int) → Option β) : T27c F p0 k = (T27 F p0).bind k := by
  simp only [T27, T27c, Option.bind_assoc, cond_bind, Option.bind_some, elimS_bind]
@[reducible] def cA27 : List Sh := [.i]
@[reducible] def cB27 : List Sh := [.str, .i]
@[reducible] def cT27 : List TSh := []
@[reducible] def cU27 : List TSh := []
def ct27 (F : Nat) : Ct := mkC 0 cA27 cT27 cB27 cU27 (fun x y => T27 F x.1) (fun x y (z : (List UInt8) × Int) => ((z.1, z.2, ()), ()))
theorem eq27 (F : Nat) (x : dens cA27) (y : tdens cT27) : sev (E27 F) 0 [] (bodyOf Tryd.f27) [] (mkSt (rng 1) cA27 cT27 x y) (kFn (E27 F) 0 Tryd.f27.results.toList cB27 cU27 fun p q => some (p, q)) =
    T27c F x.1 (fun z => some ((z.1, z.2, ()), ())) := by kernel_rfl
theorem ok27 (F : Nat) : Sound Tryd.prog cfg 27 (ct27 F) :=
  mkC_ok (E := E27 F) (lp := []) (code := bodyOf Tryd.f27) Tryd.func27 rfl Tryd.ntmps27 rfl rfl cok (cts27 F) mixed trivial (by kernel_rfl) (fun x y k => T27c F x.1 k) (fun x y k => T27n F x.1 k) (eq27 F)
end Go.Proofs.YtdfmjgbnbfncmaaDoor
/- kinkeep/kinkeeplaw21.CalendarText: its twin, and that the call does what the twin says. Printed by a program. -/
namespace Go.Proofs.YtdfmjgbnbfncmaaDoor
open Go.Tw
set_option linter.unusedSimpArgs false
set_option linter.unusedVariables false
def ord10 : Nat → List (Tag × Nat)
  | _ => []
def al10 : Nat → Option Nat
  | _ => none
def E10 (F : Nat) : Ev := ⟨cfg, 45, ctOf [(26, ct26 F), (27, ct27 F), (12, ct12 F), (28, ct28 F)], ord10, ctOf [], al10⟩
theorem cts10 (F : Nat) : CtsOk Tryd.prog (E10 F) := cts_of (l := [(26, ct26 F), (27, ct27 F), (12, ct12 F), (28, ct28 F)]) (l' := []) rfl rfl ⟨⟨ok26 F, _, Tryd.func26, rfl, rfl⟩, ⟨⟨ok27 F, _, Tryd.func27, rfl, rfl⟩, ⟨⟨ok12 F, _, Tryd.func12, rfl, rfl⟩, ⟨⟨ok28 F, _, Tryd.func28, rfl, rfl⟩, trivial⟩⟩⟩⟩ trivial
def T10c (F : Nat) (p0 : Int) {β : Type} (k : Bool → Option β) : Option β :=
  (Option.bind (T26 F p0) fun z5 => (Option.bind (T27 F p0) fun z6 => (Option.bind (T12 F) fun z7 => (bif (!z7) then (k false) else (bif (z5.1 != z6.1) then (k false) else (bif (z5.2 != z6.2) then (k false) else (bif (z5.2 != (0 : Int)) then (k true) else (Option.bind (T28 F z5.1) fun z8 => (bif (z8.2 == (0 : Int)) then (k (z8.1 == p0)) else (k false))))))))))
def T10 (F : Nat) (p0 : Int) : Option (Bool) := T10c F p0 some
theorem T10n (F : Nat) (p0 : Int) {β : Type} (k : Bool → Option β) : T10c F p0 k = (T10 F p0).bind k := by
  simp only [T10, T10c, Option.bind_assoc, cond_bind, Option.bind_some, elimS_bind]
@[reducible] def cA10 : List Sh := [.i]
@[reducible] def cB10 : List Sh := [.bo]
@[reducible] def cT10 : List TSh := []
@[reducible] def cU10 : List TSh := []
def ct10 (F : Nat) : Ct := mkC 0 cA10 cT10 cB10 cU10 (fun x y => T10 F x.1) (fun x y (z : Bool) => ((z, ()), ()))
theorem eq10 (F : Nat) (x : dens cA10) (y : tdens cT10) : sev (E10 F) 0 [] (bodyOf Tryd.f10) [] (mkSt (rng 1) cA10 cT10 x y) (kFn (E10 F) 0 Tryd.f10.results.toList cB10 cU10 fun p q => some (p, q)) =
    T10c F x.1 (fun z => some ((z, ()), ())) := by kernel_rfl
theorem ok10 (F : Nat) : Sound Tryd.prog cfg 10 (ct10 F) :=
  mkC_ok (E := E10 F) (lp := []) (code := bodyOf Tryd.f10) Tryd.func10 rfl Tryd.ntmps10 rfl rfl cok (cts10 F) mixed trivial (by kernel_rfl) (fun x y k => T10c F x.1 k) (fun x y k => T10n F x.1 k) (eq10 F)
end Go.Proofs.YtdfmjgbnbfncmaaDoor
