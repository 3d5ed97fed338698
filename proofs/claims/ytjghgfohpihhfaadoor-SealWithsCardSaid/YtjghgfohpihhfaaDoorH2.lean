/- (*kinkeep/wire.Reader).block: its twin, and that the call does what the twin says. Printed by a program. -/
import Derived.Test.YtjghgfohpihhfaaDoorH1
namespace Go.Proofs.YtjghgfohpihhfaaDoor
open Go.Tw
set_option linter.unusedSimpArgs false
set_option linter.unusedVariables false
def ord63 : Nat → List (Tag × Nat)
  | _ => []
def al63 : Nat → Option Nat
  | _ => none
def E63 (F : Nat) : Ev := ⟨cfg, 22, ctOf [(75, ct75 F), (76, ct76 F)], ord63, ctOf [], al63⟩
theorem cts63 (F : Nat) : CtsOk Tryd.prog (E63 F) := cts_of (l := [(75, ct75 F), (76, ct76 F)]) (l' := []) rfl rfl ⟨⟨ok75 F, _, Tryd.func75, rfl, rfl⟩, ⟨⟨ok76 F, _, Tryd.func76, rfl, rfl⟩, trivial⟩⟩ trivial
def T63c (F : Nat) (p0 : Int) (p1 : Int) (p4 : List UInt8) {β : Type} (k : ((Nat × Nat) × Int × Int) → Option β) : Option β :=
  (Option.bind (T75 F p0 p1 p4) fun z3 => (bif (z3.2.1 != (0 : Int)) then (k ((0, 0), z3.2.1, z3.2.2)) else (Option.bind (T76 F z3.1 z3.2.2 p4) fun z4 => (k ((z4.1.1, z4.1.2), z4.2.1, z4.2.2)))))
def T63 (F : Nat) (p0 : Int) (p1 : Int) (p4 : List UInt8) : Option ((Nat × Nat) × Int × Int) := T63c F p0 p1 p4 some
theorem T63n (F : Nat) (p0 : Int) (p1 : Int) (p4 : List UInt8) {β : Type} (k : ((Nat × Nat) × Int × Int) → Option β) : T63c F p0 p1 p4 k = (T63 F p0 p1 p4).bind k := by
  simp only [T63, T63c, Option.bind_assoc, cond_bind, Option.bind_some, elimS_bind]
@[reducible] def cA63 : List Sh := [(.pt 0 []), .i]
@[reducible] def cB63 : List Sh := [(.rp 1), .i]
@[reducible] def cT63 : List TSh := [.blk 82 (.pr (.rw 1) (.pr .i (.pr .i (.pr .i .un)))), .row 5 .u8]
@[reducible] def cU63 : List TSh := [.blk 82 (.pr (.rw 1) (.pr .i (.pr .i (.pr .i .un)))), .row 5 .u8]
def ct63 (F : Nat) : Ct := mkC 2 cA63 cT63 cB63 cU63 (fun x y => T63 F x.2.1 y.1.2.1 y.2.1) (fun x y (z : (Nat × Nat) × Int × Int) => ((z.1, z.2.1, ()), (((), z.2.2, y.1.2.2.1, y.1.2.2.2.1, ()), y.2.1, ())))
theorem eq63 (F : Nat) (x : dens cA63) (y : tdens cT63) : sev (E63 F) 2 [] (bodyOf Tryd.f63) [] (mkSt (rng 2) cA63 cT63 x y) (kFn (E63 F) 2 Tryd.f63.results.toList cB63 cU63 fun p q => some (p, q)) =
    T63c F x.2.1 y.1.2.1 y.2.1 (fun z => some ((z.1, z.2.1, ()), (((), z.2.2, y.1.2.2.1, y.1.2.2.2.1, ()), y.2.1, ()))) := by kernel_rfl
theorem ok63 (F : Nat) : Sound Tryd.prog cfg 63 (ct63 F) :=
  mkC_ok (E := E63 F) (lp := []) (code := bodyOf Tryd.f63) Tryd.func63 rfl Tryd.ntmps63 rfl rfl cok (cts63 F) mixed trivial (by kernel_rfl) (fun x y k => T63c F x.2.1 y.1.2.1 y.2.1 k) (fun x y k => T63n F x.2.1 y.1.2.1 y.2.1 k) (eq63 F)
end Go.Proofs.YtjghgfohpihhfaaDoor
/- (*kinkeep/wire.Reader).Bytes$1: its twin, and that the call does what the twin says. Printed by a program. -/
namespace Go.Proofs.YtjghgfohpihhfaaDoor
open Go.Tw
set_option linter.unusedSimpArgs false
set_option linter.unusedVariables false
def ord62 : Nat → List (Tag × Nat)
  | _ => []
def al62 : Nat → Option Nat
  | _ => none
def E62 (F : Nat) : Ev := ⟨cfg, 15, ctOf [(63, ct63 F)], ord62, ctOf [], al62⟩
theorem cts62 (F : Nat) : CtsOk Tryd.prog (E62 F) := cts_of (l := [(63, ct63 F)]) (l' := []) rfl rfl ⟨⟨ok63 F, _, Tryd.func63, rfl, rfl⟩, trivial⟩ trivial
def T62c (F : Nat) (p0 : Int) (p1 : Int) (p4 : List UInt8) {β : Type} (k : (Int × Int × (List UInt8)) → Option β) : Option β :=
  (Option.bind (T63 F p0 p1 p4) fun z3 => (Option.bind (gapp ([] : List UInt8) ((p4.drop z3.1.1).take (z3.1.2 - z3.1.1))) fun x4 => (k (z3.2.1, z3.2.2, x4))))
def T62 (F : Nat) (p0 : Int) (p1 : Int) (p4 : List UInt8) : Option (Int × Int × (List UInt8)) := T62c F p0 p1 p4 some
theorem T62n (F : Nat) (p0 : Int) (p1 : Int) (p4 : List UInt8) {β : Type} (k : (Int × Int × (List UInt8)) → Option β) : T62c F p0 p1 p4 k = (T62 F p0 p1 p4).bind k := by
  simp only [T62, T62c, Option.bind_assoc, cond_bind, Option.bind_some, elimS_bind]
@[reducible] def cA62 : List Sh := [(.pt 0 []), (.re .i)]
@[reducible] def cB62 : List Sh := [(.rw 3), .i]
@[reducible] def cT62 : List TSh := [.blk 67 (.pt 1 []), .blk 82 (.pr (.rw 2) (.pr .i (.pr .i (.pr .i .un)))), .row 5 .u8]
@[reducible] def cU62 : List TSh := [.blk 67 (.pt 1 []), .blk 82 (.pr (.rw 2) (.pr .i (.pr .i (.pr .i .un)))), .row 5 .u8, .row 5 .u8]
def ct62 (F : Nat) : Ct := mkC 3 cA62 cT62 cB62 cU62 (fun x y => T62 F x.2.1 y.2.1.2.1 y.2.2.1) (fun x y (z : Int × Int × (List UInt8)) => (((), z.1, ()), ((), ((), z.2.1, y.2.1.2.2.1, y.2.1.2.2.2.1, ()), y.2.2.1, z.2.2, ())))
theorem eq62 (F : Nat) (x : dens cA62) (y : tdens cT62) : sev (E62 F) 3 [] (bodyOf Tryd.f62) [] (mkSt (rng 2) cA62 cT62 x y) (kFn (E62 F) 3 Tryd.f62.results.toList cB62 cU62 fun p q => some (p, q)) =
    T62c F x.2.1 y.2.1.2.1 y.2.2.1 (fun z => some (((), z.1, ()), ((), ((), z.2.1, y.2.1.2.2.1, y.2.1.2.2.2.1, ()), y.2.2.1, z.2.2, ()))) := by kernel_rfl
theorem ok62 (F : Nat) : Sound Tryd.prog cfg 62 (ct62 F) :=
  mkC_ok (E := E62 F) (lp := []) (code := bodyOf Tryd.f62) Tryd.func62 rfl Tryd.ntmps62 rfl rfl cok (cts62 F) mixed trivial (by kernel_rfl) (fun x y k => T62c F x.2.1 y.2.1.2.1 y.2.2.1 k) (fun x y k => T62n F x.2.1 y.2.1.2.1 y.2.2.1 k) (eq62 F)
end Go.Proofs.YtjghgfohpihhfaaDoor
/- kinkeep/wire.readValue[[]byte]$1: its twin, and that the call does what the twin says. Printed by a program. -/
namespace Go.Proofs.YtjghgfohpihhfaaDoor
open Go.Tw
set_option linter.unusedSimpArgs false
set_option linter.unusedVariables false
def ord74 : Nat → List (Tag × Nat)
  | _ => []
def al74 : Nat → Option Nat
  | _ => none
def E74 (F : Nat) : Ev := ⟨cfg, 18, ctOf [], ord74, ctOf [], al74⟩
theorem cts74 (F : Nat) : CtsOk Tryd.prog (E74 F) := cts_of (l := []) (l' := []) rfl rfl trivial trivial
def T74c (F : Nat) (p0 : Int) (p1 : Int) (p3 : Int) (p4 : List UInt8) {β : Type} (k : ((Nat × Nat) × Int) → Option β) : Option β :=
  (bif (p3 != (0 : Int)) then (k ((0, 0), p0)) else (k ((0, p4.length), p1)))
def T74 (F : Nat) (p0 : Int) (p1 : Int) (p3 : Int) (p4 : List UInt8) : Option ((Nat × Nat) × Int) := T74c F p0 p1 p3 p4 some
theorem T74n (F : Nat) (p0 : Int) (p1 : Int) (p3 : Int) (p4 : List UInt8) {β : Type} (k : ((Nat × Nat) × Int) → Option β) : T74c F p0 p1 p3 p4 k = (T74 F p0 p1 p3 p4).bind k := by
  simp only [T74, T74c, Option.bind_assoc, cond_bind, Option.bind_some, elimS_bind]
@[reducible] def cA74 : List Sh := [(.re .i), (.pt 0 []), (.pt 1 [])]
@[reducible] def cB74 : List Sh := []
@[reducible] def cT74 : List TSh := [.blk 67 (.pt 2 []), .blk 27 (.rw 3), .blk 82 (.pr (.rw 4) (.pr .i (.pr .i (.pr .i .un)))), .row 5 .u8, .row 5 .u8]
@[reducible] def cU74 : List TSh := [.blk 67 (.pt 2 []), .blk 27 (.rp 3), .blk 82 (.pr (.rw 4) (.pr .i (.pr .i (.pr .i .un)))), .row 5 .u8, .row 5 .u8]
def ct74 (F : Nat) : Ct := mkC 5 cA74 cT74 cB74 cU74 (fun x y => T74 F x.1 y.2.2.1.2.1 y.2.2.1.2.2.2.1 y.2.2.2.1) (fun x y (z : (Nat × Nat) × Int) => ((), ((), z.1, ((), z.2, x.1, y.2.2.1.2.2.2.1, ()), y.2.2.2.1, y.2.2.2.2.1, ())))
theorem eq74 (F : Nat) (x : dens cA74) (y : tdens cT74) : sev (E74 F) 5 [] (bodyOf Tryd.f74) [] (mkSt (rng 3) cA74 cT74 x y) (kFn (E74 F) 5 Tryd.f74.results.toList cB74 cU74 fun p q => some (p, q)) =
    T74c F x.1 y.2.2.1.2.1 y.2.2.1.2.2.2.1 y.2.2.2.1 (fun z => some ((), ((), z.1, ((), z.2, x.1, y.2.2.1.2.2.2.1, ()), y.2.2.2.1, y.2.2.2.2.1, ()))) := by kernel_rfl
theorem ok74 (F : Nat) : Sound Tryd.prog cfg 74 (ct74 F) :=
  mkC_ok (E := E74 F) (lp := []) (code := bodyOf Tryd.f74) Tryd.func74 rfl Tryd.ntmps74 rfl rfl cok (cts74 F) mixed trivial (by kernel_rfl) (fun x y k => T74c F x.1 y.2.2.1.2.1 y.2.2.1.2.2.2.1 y.2.2.2.1 k) (fun x y k => T74n F x.1 y.2.2.1.2.1 y.2.2.1.2.2.2.1 y.2.2.2.1 k) (eq74 F)
theorem okd74 (F : Nat) : SoundK Tryd.prog cfg true 74 (ct74 F) :=
  mkC_okK (E := E74 F) true (fun _ _ => rfl) (lp := []) (code := bodyOf Tryd.f74) Tryd.func74 rfl Tryd.ntmps74 rfl rfl cok (cts74 F) mixed trivial (by kernel_rfl) (fun x y k => T74c F x.1 y.2.2.1.2.1 y.2.2.1.2.2.2.1 y.2.2.2.1 k) (fun x y k => T74n F x.1 y.2.2.1.2.1 y.2.2.1.2.2.2.1 y.2.2.2.1 k) (eq74 F)
end Go.Proofs.YtjghgfohpihhfaaDoor
/- kinkeep/wire.readValue[[]byte]: its twin, and that the call does what the twin says. Printed by a program. -/
namespace Go.Proofs.YtjghgfohpihhfaaDoor
open Go.Tw
set_option linter.unusedSimpArgs false
set_option linter.unusedVariables false
def ord61 : Nat → List (Tag × Nat)
  | 5 => [(.c, 0), (.p, 1), (.w, 2), (.p, 3), (.p, 4), (.p, 5), (.w, 6), (.p, 7), (.p, 8), (.w, 9)]
  | _ => []
def al61 : Nat → Option Nat
  | _ => none
def E61 (F : Nat) : Ev := ⟨cfg, 26, ctOf [(62, ct62 F)], ord61, ctOf [(74, ct74 F)], al61⟩
theorem cts61 (F : Nat) : CtsOk Tryd.prog (E61 F) := cts_of (l := [(62, ct62 F)]) (l' := [(74, ct74 F)]) rfl rfl ⟨⟨ok62 F, _, Tryd.func62, rfl, rfl⟩, trivial⟩ ⟨⟨okd74 F, _, Tryd.func74, rfl, rfl⟩, trivial⟩
def T61c (F : Nat) (p0 : Int) (p1 : Int) (p2 : Int) (p3 : Int) (p4 : List UInt8) {β : Type} (k : ((List UInt8) × Int × Int × Int) → Option β) : Option β :=
  (bif (p2 != (0 : Int)) then (k (([] : List UInt8), p0, p1, p2)) else (Option.bind (T62 F p3 p0 p4) fun z3 => (Option.bind (T74 F p0 z3.2.1 z3.1 z3.2.2) fun z4 => (k (((z3.2.2.drop z4.1.1).take (z4.1.2 - z4.1.1)), z4.2, p0, z3.1)))))
def T61 (F : Nat) (p0 : Int) (p1 : Int) (p2 : Int) (p3 : Int) (p4 : List UInt8) : Option ((List UInt8) × Int × Int × Int) := T61c F p0 p1 p2 p3 p4 some
theorem T61n (F : Nat) (p0 : Int) (p1 : Int) (p2 : Int) (p3 : Int) (p4 : List UInt8) {β : Type} (k : ((List UInt8) × Int × Int × Int) → Option β) : T61c F p0 p1 p2 p3 p4 k = (T61 F p0 p1 p2 p3 p4).bind k := by
  simp only [T61, T61c, Option.bind_assoc, cond_bind, Option.bind_some, elimS_bind]
@[reducible] def cA61 : List Sh := [(.pt 0 []), (.fn 62 .un (.pr (.pt 1 []) (.pr (.pt 2 []) .un)))]
@[reducible] def cB61 : List Sh := [(.ro .u8)]
@[reducible] def cT61 : List TSh := [.blk 82 (.pr (.rw 3) (.pr .i (.pr .i (.pr .i .un)))), .blk 67 (.pt 0 []), .blk 3 .i, .row 5 .u8]
@[reducible] def cU61 : List TSh := [.blk 82 (.pr (.rw 3) (.pr .i (.pr .i (.pr .i .un)))), .blk 67 (.pt 0 []), .blk 3 .i, .row 5 .u8]
def ct61 (F : Nat) : Ct := mkC 4 cA61 cT61 cB61 cU61 (fun x y => T61 F y.1.2.1 y.1.2.2.1 y.1.2.2.2.1 y.2.2.1 y.2.2.2.1) (fun x y (z : (List UInt8) × Int × Int × Int) => ((z.1, ()), (((), z.2.1, z.2.2.1, z.2.2.2, ()), (), y.2.2.1, y.2.2.2.1, ())))
theorem eq61 (F : Nat) (x : dens cA61) (y : tdens cT61) : sev (E61 F) 4 [] (bodyOf Tryd.f61) [] (mkSt (rng 2) cA61 cT61 x y) (kFn (E61 F) 4 Tryd.f61.results.toList cB61 cU61 fun p q => some (p, q)) =
    T61c F y.1.2.1 y.1.2.2.1 y.1.2.2.2.1 y.2.2.1 y.2.2.2.1 (fun z => some ((z.1, ()), (((), z.2.1, z.2.2.1, z.2.2.2, ()), (), y.2.2.1, y.2.2.2.1, ()))) := by kernel_rfl
theorem ok61 (F : Nat) : Sound Tryd.prog cfg 61 (ct61 F) :=
  mkC_ok (E := E61 F) (lp := []) (code := bodyOf Tryd.f61) Tryd.func61 rfl Tryd.ntmps61 rfl rfl cok (cts61 F) mixed trivial (by kernel_rfl) (fun x y k => T61c F y.1.2.1 y.1.2.2.1 y.1.2.2.2.1 y.2.2.1 y.2.2.2.1 k) (fun x y k => T61n F y.1.2.1 y.1.2.2.1 y.1.2.2.2.1 y.2.2.1 y.2.2.2.1 k) (eq61 F)
end Go.Proofs.YtjghgfohpihhfaaDoor
/- (*kinkeep/wire.Reader).Bytes: its twin, and that the call does what the twin says. Printed by a program. -/
namespace Go.Proofs.YtjghgfohpihhfaaDoor
open Go.Tw
set_option linter.unusedSimpArgs false
set_option linter.unusedVariables false
def ord47 : Nat → List (Tag × Nat)
  | _ => []
def al47 : Nat → Option Nat
  | _ => none
def E47 (F : Nat) : Ev := ⟨cfg, 8, ctOf [(61, ct61 F)], ord47, ctOf [], al47⟩
theorem cts47 (F : Nat) : CtsOk Tryd.prog (E47 F) := cts_of (l := [(61, ct61 F)]) (l' := []) rfl rfl ⟨⟨ok61 F, _, Tryd.func61, rfl, rfl⟩, trivial⟩ trivial
def T47c (F : Nat) (p0 : Int) (p1 : Int) (p2 : Int) (p3 : Int) (p4 : List UInt8) {β : Type} (k : ((List UInt8) × Int × Int × Int) → Option β) : Option β :=
  (Option.bind (T61 F p1 p2 p3 p0 p4) fun z2 => (k (z2.1, z2.2.1, z2.2.2.1, z2.2.2.2)))
def T47 (F : Nat) (p0 : Int) (p1 : Int) (p2 : Int) (p3 : Int) (p4 : List UInt8) : Option ((List UInt8) × Int × Int × Int) := T47c F p0 p1 p2 p3 p4 some
theorem T47n (F : Nat) (p0 : Int) (p1 : Int) (p2 : Int) (p3 : Int) (p4 : List UInt8) {β : Type} (k : ((List UInt8) × Int × Int × Int) → Option β) : T47c F p0 p1 p2 p3 p4 k = (T47 F p0 p1 p2 p3 p4).bind k := by
  simp only [T47, T47c, Option.bind_assoc, cond_bind, Option.bind_some, elimS_bind]
@[reducible] def cA47 : List Sh := [(.pt 0 []), .i]
@[reducible] def cB47 : List Sh := [(.ro .u8)]
@[reducible] def cT47 : List TSh := [.blk 82 (.pr (.rw 1) (.pr .i (.pr .i (.pr .i .un)))), .row 5 .u8]
@[reducible] def cU47 : List TSh := [.blk 82 (.pr (.rw 1) (.pr .i (.pr .i (.pr .i .un)))), .row 5 .u8]
def ct47 (F : Nat) : Ct := mkC 2 cA47 cT47 cB47 cU47 (fun x y => T47 F x.2.1 y.1.2.1 y.1.2.2.1 y.1.2.2.2.1 y.2.1) (fun x y (z : (List UInt8) × Int × Int × Int) => ((z.1, ()), (((), z.2.1, z.2.2.1, z.2.2.2, ()), y.2.1, ())))
theorem eq47 (F : Nat) (x : dens cA47) (y : tdens cT47) : sev (E47 F) 2 [] (bodyOf Tryd.f47) [] (mkSt (rng 2) cA47 cT47 x y) (kFn (E47 F) 2 Tryd.f47.results.toList cB47 cU47 fun p q => some (p, q)) =
    T47c F x.2.1 y.1.2.1 y.1.2.2.1 y.1.2.2.2.1 y.2.1 (fun z => some ((z.1, ()), (((), z.2.1, z.2.2.1, z.2.2.2, ()), y.2.1, ()))) := by kernel_rfl
theorem ok47 (F : Nat) : Sound Tryd.prog cfg 47 (ct47 F) :=
  mkC_ok (E := E47 F) (lp := []) (code := bodyOf Tryd.f47) Tryd.func47 rfl Tryd.ntmps47 rfl rfl cok (cts47 F) mixed trivial (by kernel_rfl) (fun x y k => T47c F x.2.1 y.1.2.1 y.1.2.2.1 y.1.2.2.2.1 y.2.1 k) (fun x y k => T47n F x.2.1 y.1.2.1 y.1.2.2.1 y.1.2.2.2.1 y.2.1 k) (eq47 F)
end Go.Proofs.YtjghgfohpihhfaaDoor
/- (*kinkeep/wire.Reader).Left: its twin, and that the call does what the twin says. Printed by a program. -/
namespace Go.Proofs.YtjghgfohpihhfaaDoor
open Go.Tw
set_option linter.unusedSimpArgs false
set_option linter.unusedVariables false
def ord48 : Nat → List (Tag × Nat)
  | 1 => [(.p, 0), (.p, 1), (.p, 2), (.r, 3), (.p, 4), (.p, 5), (.p, 6), (.p, 7), (.r, 8), (.p, 9), (.p, 10)]
  | _ => []
def al48 : Nat → Option Nat
  | _ => none
def E48 (F : Nat) : Ev := ⟨cfg, 13, ctOf [], ord48, ctOf [], al48⟩
theorem cts48 (F : Nat) : CtsOk Tryd.prog (E48 F) := cts_of (l := []) (l' := []) rfl rfl trivial trivial
def T48c (F : Nat) (p0 : Int) (p3 : List UInt8) {β : Type} (k : Int → Option β) : Option β :=
  (k (w64 ((p3.length : Int) - p0)))
def T48 (F : Nat) (p0 : Int) (p3 : List UInt8) : Option (Int) := T48c F p0 p3 some
theorem T48n (F : Nat) (p0 : Int) (p3 : List UInt8) {β : Type} (k : Int → Option β) : T48c F p0 p3 k = (T48 F p0 p3).bind k := by
  simp only [T48, T48c, Option.bind_assoc, cond_bind, Option.bind_some, elimS_bind]
@[reducible] def cA48 : List Sh := [(.pt 0 [])]
@[reducible] def cB48 : List Sh := [.i]
@[reducible] def cT48 : List TSh := [.blk 82 (.pr (.rw 1) (.pr .i (.pr .i (.pr .i .un)))), .row 5 .u8]
@[reducible] def cU48 : List TSh := [.blk 82 (.pr (.rw 1) (.pr .i (.pr .i (.pr .i .un)))), .row 5 .u8]
def ct48 (F : Nat) : Ct := mkC 2 cA48 cT48 cB48 cU48 (fun x y => T48 F y.1.2.1 y.2.1) (fun x y (z : Int) => ((z, ()), (((), y.1.2.1, y.1.2.2.1, y.1.2.2.2.1, ()), y.2.1, ())))
theorem eq48 (F : Nat) (x : dens cA48) (y : tdens cT48) : sev (E48 F) 2 [] (bodyOf Tryd.f48) [] (mkSt (rng 1) cA48 cT48 x y) (kFn (E48 F) 2 Tryd.f48.results.toList cB48 cU48 fun p q => some (p, q)) =
    T48c F y.1.2.1 y.2.1 (fun z => some ((z, ()), (((), y.1.2.1, y.1.2.2.1, y.1.2.2.2.1, ()), y.2.1, ()))) := by kernel_rfl
theorem ok48 (F : Nat) : Sound Tryd.prog cfg 48 (ct48 F) :=
  mkC_ok (E := E48 F) (lp := []) (code := bodyOf Tryd.f48) Tryd.func48 rfl Tryd.ntmps48 rfl rfl cok (cts48 F) mixed trivial (by kernel_rfl) (fun x y k => T48c F y.1.2.1 y.2.1 k) (fun x y k => T48n F y.1.2.1 y.2.1 k) (eq48 F)
end Go.Proofs.YtjghgfohpihhfaaDoor
/- kinkeep/seal.Content: its twin, and that the call does what the twin says. Printed by a program. -/
namespace Go.Proofs.YtjghgfohpihhfaaDoor
open Go.Tw
set_option linter.unusedSimpArgs false
set_option linter.unusedVariables false
def ord20 : Nat → List (Tag × Nat)
  | _ => []
def al20 : Nat → Option Nat
  | _ => none
def E20 (F : Nat) : Ev := ⟨cfg, 56, ctOf [(46, ct46 F), (47, ct47 F), (48, ct48 F), (14, ct14 F)], ord20, ctOf [], al20⟩
theorem cts20 (F : Nat) : CtsOk Tryd.prog (E20 F) := cts_of (l := [(46, ct46 F), (47, ct47 F), (48, ct48 F), (14, ct14 F)]) (l' := []) rfl rfl ⟨⟨ok46 F, _, Tryd.func46, rfl, rfl⟩, ⟨⟨ok47 F, _, Tryd.func47, rfl, rfl⟩, ⟨⟨ok48 F, _, Tryd.func48, rfl, rfl⟩, ⟨⟨ok14 F, _, Tryd.func14, rfl, rfl⟩, trivial⟩⟩⟩⟩ trivial
def L20_2c (F : Nat) (y27 : List UInt8) (y28 : Int) (y29 : Int) {β : Type} (kA : Int → Option β) (kO : Unit → Option β) (kR : Int → Option β) : Option β :=
  (bif (decide (y29 < y28)) then (Option.bind (ix y27 y29) fun x31 => (bif (x31 != (UInt8.ofNat 0)) then (kR (3 : Int)) else (kA (w64 (y29 + (1 : Int)))))) else (kO ()))
def L20_2 (F : Nat) (y27 : List UInt8) (y28 : Int) (y29 : Int) : Option ((Int) ⊕ ((Unit) ⊕ (Int))) := L20_2c F y27 y28 y29 (fun s => some (.inl s)) (fun z => some (.inr (.inl z))) (fun z => some (.inr (.inr z)))
theorem L20_2n (F : Nat) (y27 : List UInt8) (y28 : Int) (y29 : Int) {β : Type} (kA : Int → Option β) (kO : Unit → Option β) (kR : Int → Option β) : L20_2c F y27 y28 y29 kA kO kR = (L20_2 F y27 y28 y29).bind (elimS kA (elimS kO kR)) := by
  simp only [L20_2, L20_2c, Option.bind_assoc, cond_bind, Option.bind_some, elimS_l, elimS_r, elimS_bind]
@[reducible] def sA20_2 : List Sh := [(.ro .u8), (.ro .u8), .i, (.ro .u8), .i, .i]
@[reducible] def sA120_2 : List Sh := [(.ro .u8), (.ro .u8), .i]
@[reducible] def sA220_2 : List Sh := [.ns, .ns, .i]
@[reducible] def sT20_2 : List TSh := []
@[reducible] def sT120_2 : List TSh := []
@[reducible] def sT220_2 : List TSh := []
def lc20_2 (F : Nat) : Lc := mkR [0, 6, 9, 41, 42, 43] sA20_2 sT20_2 [0, 6, 9] sA120_2 sT120_2 [2, 3, 4] sA220_2 sT220_2 F (fun x y (s : Int) => L20_2 F x.2.2.2.1 x.2.2.2.2.1 s) (fun x y => x.2.2.2.2.2.1) (fun x y (z : Unit) => ((x.1, x.2.1, x.2.2.1, ()), ())) (fun x y (z : Int) => (((), (), z, ()), ()))
theorem le20_2 (F : Nat) (x : dens sA20_2) (y : tdens sT20_2) (s : Int) : sev (E20 F) 0 [] (cAt (bodyOf Tryd.f20) (0 :: 0 :: [1, 0, 1, 1, 1, 1, 1, 1, 1])) (0 :: 0 :: [1, 0, 1, 1, 1, 1, 1, 1, 1]) (mkSt [0, 6, 9, 41, 42, 43] sA20_2 sT20_2 (x.1, x.2.1, x.2.2.1, x.2.2.2.1, x.2.2.2.2.1, s, ()) ()) (kLoop 0 [0, 6, 9, 41, 42, 43] sA20_2 sT20_2 [0, 6, 9] sA120_2 sT120_2 [2, 3, 4] sA220_2 sT220_2 0 (fun x y => some (.inl (x, y))) (fun x y => some (.inr (.inl (x, y)))) (fun x y => some (.inr (.inr (x, y))))) =
    L20_2c (β := Full sA20_2 sT20_2 sA120_2 sT120_2 sA220_2 sT220_2) F x.2.2.2.1 x.2.2.2.2.1 s (fun s => some (.inl ((x.1, x.2.1, x.2.2.1, x.2.2.2.1, x.2.2.2.2.1, s, ()), ()))) (fun z => some (.inr (.inl ((x.1, x.2.1, x.2.2.1, ()), ())))) (fun z => some (.inr (.inr (((), (), z, ()), ())))) := by kernel_rfl
theorem lo20_2 (F : Nat) : LcOk Tryd.prog (E20 F) 0 (lc20_2 F) (cAt (bodyOf Tryd.f20) [1, 0, 1, 1, 1, 1, 1, 1, 1]) :=
  mkR_ok (lp := []) (id := 0) (b := cAt (bodyOf Tryd.f20) (0 :: 0 :: [1, 0, 1, 1, 1, 1, 1, 1, 1])) cok (cts20 F) mixed trivial (by kernel_rfl) (by kernel_rfl) (fun x y s => (x.1, x.2.1, x.2.2.1, x.2.2.2.1, x.2.2.2.2.1, s, ())) (fun x y s => ()) (fun x y => rfl) (fun x y => rfl) (fun x y s kA kO kR => L20_2c F x.2.2.2.1 x.2.2.2.2.1 s kA kO kR) (fun x y s kA kO kR => L20_2n F x.2.2.2.1 x.2.2.2.2.1 s kA kO kR) (le20_2 F)
def T20c (F : Nat) (p0 : List UInt8) {β : Type} (k : ((List UInt8) × Int × (List UInt8)) → Option β) : Option β :=
  (Option.bind (T46 F p0) fun z18 => (Option.bind (T47 F (32768 : Int) z18.1 z18.2.1 z18.2.2.1 z18.2.2.2) fun z19 => (Option.bind (T48 F z19.2.1 z18.2.2.2) fun z20 => (bif (z20 == (p0.length : Int)) then (k (([] : List UInt8), (3 : Int), ([] : List UInt8))) else (Option.bind (T14 F (z19.1.length : Int)) fun z21 => (bif (z21.1 != (p0.length : Int)) then (k (([] : List UInt8), (3 : Int), ([] : List UInt8))) else (Option.bind (T48 F z19.2.1 z18.2.2.2) fun z22 => (Option.bind (gsl p0 (w64 ((p0.length : Int) - z22)) (w64 ((p0.length : Int) - (16 : Int)))) fun x23 => (Option.bind (iter (fun s => L20_2 F x23 (x23.length : Int) s) F (0 : Int)) fun z32 => elimS (fun z32 => (Option.bind (gsl p0 (w64 ((p0.length : Int) - (16 : Int))) (p0.length : Int)) fun x33 => (Option.bind (gapp ([] : List UInt8) x33) fun x34 => (k (z19.1, (0 : Int), x34))))) (fun z32 => (k (([] : List UInt8), z32, ([] : List UInt8)))) z32)))))))))
def T20 (F : Nat) (p0 : List UInt8) : Option ((List UInt8) × Int × (List UInt8)) := T20c F p0 some
theorem T20n (F : Nat) (p0 : List UInt8) {β : Type} (k : ((List UInt8) × Int × (List UInt8)) → Option β) : T20c F p0 k = (T20 F p0).bind k := by
  simp only [T20, T20c, Option.bind_assoc, cond_bind, Option.bind_some, elimS_bind]
@[reducible] def cA20 : List Sh := [(.ro .u8)]
@[reducible] def cB20 : List Sh := [(.ro .u8), (.rw 0), .i]
@[reducible] def cT20 : List TSh := []
@[reducible] def cU20 : List TSh := [.row 5 .u8]
def ct20 (F : Nat) : Ct := mkC 0 cA20 cT20 cB20 cU20 (fun x y => T20 F x.1) (fun x y (z : (List UInt8) × Int × (List UInt8)) => ((z.1, (), z.2.1, ()), (z.2.2, ())))
theorem eq20 (F : Nat) (x : dens cA20) (y : tdens cT20) : sev (E20 F) 0 [([1, 0, 1, 1, 1, 1, 1, 1, 1], lc20_2 F)] (bodyOf Tryd.f20) [] (mkSt (rng 1) cA20 cT20 x y) (kFn (E20 F) 0 Tryd.f20.results.toList cB20 cU20 fun p q => some (p, q)) =
    T20c F x.1 (fun z => some ((z.1, (), z.2.1, ()), (z.2.2, ()))) := by kernel_rfl
theorem ok20 (F : Nat) : Sound Tryd.prog cfg 20 (ct20 F) :=
  mkC_ok (E := E20 F) (lp := [([1, 0, 1, 1, 1, 1, 1, 1, 1], lc20_2 F)]) (code := bodyOf Tryd.f20) Tryd.func20 rfl Tryd.ntmps20 rfl rfl cok (cts20 F) mixed ⟨lo20_2 F, trivial⟩ (by kernel_rfl) (fun x y k => T20c F x.1 k) (fun x y k => T20n F x.1 k) (eq20 F)
end Go.Proofs.YtjghgfohpihhfaaDoor
/- kinkeep/seal.OpenWith: its twin, and that the call does what the twin says. Printed by a program. -/
namespace Go.Proofs.YtjghgfohpihhfaaDoor
open Go.Tw
set_option linter.unusedSimpArgs false
set_option linter.unusedVariables false
def ord37 : Nat → List (Tag × Nat)
  | _ => []
def al37 : Nat → Option Nat
  | _ => none
def E37 (F : Nat) : Ev := ⟨cfg, 23, ctOf [(57, ct57 F), (20, ct20 F)], ord37, ctOf [], al37⟩
theorem cts37 (F : Nat) : CtsOk Tryd.prog (E37 F) := cts_of (l := [(57, ct57 F), (20, ct20 F)]) (l' := []) rfl rfl ⟨⟨ok57 F, _, Tryd.func57, rfl, rfl⟩, ⟨⟨ok20 F, _, Tryd.func20, rfl, rfl⟩, trivial⟩⟩ trivial
def T37c (F : Nat) (p0 : List UInt8) (p1 : List UInt8) {β : Type} (k : ((List UInt8) × Int × (List UInt8)) → Option β) : Option β :=
  (Option.bind (T57 F p1 p0) fun z3 => (bif (z3.1 != (0 : Int)) then (k (([] : List UInt8), z3.1, ([] : List UInt8))) else (Option.bind (T20 F z3.2) fun z4 => (k (z4.1, z4.2.1, z4.2.2)))))
def T37 (F : Nat) (p0 : List UInt8) (p1 : List UInt8) : Option ((List UInt8) × Int × (List UInt8)) := T37c F p0 p1 some
theorem T37n (F : Nat) (p0 : List UInt8) (p1 : List UInt8) {β : Type} (k : ((List UInt8) × Int × (List UInt8)) → Option β) : T37c F p0 p1 k = (T37 F p0 p1).bind k := by
  simp only [T37, T37c, Option.bind_assoc, cond_bind, Option.bind_some, elimS_bind]
@[reducible] def cA37 : List Sh := [(.ro .u8), (.ro .u8)]
@[reducible] def cB37 : List Sh := [(.ro .u8), (.rw 0), .i]
@[reducible] def cT37 : List TSh := []
@[reducible] def cU37 : List TSh := [.row 5 .u8]
def ct37 (F : Nat) : Ct := mkC 0 cA37 cT37 cB37 cU37 (fun x y => T37 F x.1 x.2.1) (fun x y (z : (List UInt8) × Int × (List UInt8)) => ((z.1, (), z.2.1, ()), (z.2.2, ())))
theorem eq37 (F : Nat) (x : dens cA37) (y : tdens cT37) : sev (E37 F) 0 [] (bodyOf Tryd.f37) [] (mkSt (rng 2) cA37 cT37 x y) (kFn (E37 F) 0 Tryd.f37.results.toList cB37 cU37 fun p q => some (p, q)) =
    T37c F x.1 x.2.1 (fun z => some ((z.1, (), z.2.1, ()), (z.2.2, ()))) := by kernel_rfl
theorem ok37 (F : Nat) : Sound Tryd.prog cfg 37 (ct37 F) :=
  mkC_ok (E := E37 F) (lp := []) (code := bodyOf Tryd.f37) Tryd.func37 rfl Tryd.ntmps37 rfl rfl cok (cts37 F) mixed trivial (by kernel_rfl) (fun x y k => T37c F x.1 x.2.1 k) (fun x y k => T37n F x.1 x.2.1 k) (eq37 F)
end Go.Proofs.YtjghgfohpihhfaaDoor
/- kinkeep/seal.Open: its twin, and that the call does what the twin says. Printed by a program. -/
namespace Go.Proofs.YtjghgfohpihhfaaDoor
open Go.Tw
set_option linter.unusedSimpArgs false
set_option linter.unusedVariables false
def ord32 : Nat → List (Tag × Nat)
  | _ => []
def al32 : Nat → Option Nat
  | _ => none
def E32 (F : Nat) : Ev := ⟨cfg, 98, ctOf [(14, ct14 F), (50, ct50 F), (27, ct27 F), (37, ct37 F), (25, ct25 F), (23, ct23 F)], ord32, ctOf [], al32⟩
theorem cts32 (F : Nat) : CtsOk Tryd.prog (E32 F) := cts_of (l := [(14, ct14 F), (50, ct50 F), (27, ct27 F), (37, ct37 F), (25, ct25 F), (23, ct23 F)]) (l' := []) rfl rfl ⟨⟨ok14 F, _, Tryd.func14, rfl, rfl⟩, ⟨⟨ok50 F, _, Tryd.func50, rfl, rfl⟩, ⟨⟨ok27 F, _, Tryd.func27, rfl, rfl⟩, ⟨⟨ok37 F, _, Tryd.func37, rfl, rfl⟩, ⟨⟨ok25 F, _, Tryd.func25, rfl, rfl⟩, ⟨⟨ok23 F, _, Tryd.func23, rfl, rfl⟩, trivial⟩⟩⟩⟩⟩⟩ trivial
def T32c (F : Nat) (p0 : List UInt8) (p1 : List UInt8) (p2 : List UInt8) (p3 : List UInt8) (p4 : List UInt8) (p5 : List UInt8) (p6 : Int) (p7 : Int) (p8 : List UInt8) {β : Type} (k : ((List UInt8) × Int) → Option β) : Option β :=
  (Option.bind (T14 F p7) fun z7 => (Option.bind (T50 F p0 p1 p2 p3 p4) fun z8 => (bif (!z8) then (k (([] : List UInt8), (1 : Int))) else (bif ((p5.length : Int) != (32 : Int)) then (k (([] : List UInt8), (1 : Int))) else (bif (decide (p6 < (0 : Int))) then (k (([] : List UInt8), (1 : Int))) else (bif (z7.2 != (0 : Int)) then (k (([] : List UInt8), (1 : Int))) else (bif ((p8.length : Int) != z7.1) then (k (([] : List UInt8), (1 : Int))) else (Option.bind (T27 F p0 p1 p2 p3 p4 p5 z7.1) fun z9 => (Option.bind (T37 F z9.2 p8) fun z10 => (bif (z10.2.1 != (0 : Int)) then (k (([] : List UInt8), (9 : Int))) else (bif ((z10.1.length : Int) != p7) then (k (([] : List UInt8), (9 : Int))) else (Option.bind (T25 F p0 p1 p2 p3 p4 z10.1) fun z11 => (Option.bind (T23 F p0 p1 p2 p3 p4 p6 z10.1) fun z12 => (bif (z10.2.2 != z11.2) then (k (([] : List UInt8), (9 : Int))) else (bif (z12.1 != p5) then (k (([] : List UInt8), (9 : Int))) else (k (z10.1, (0 : Int))))))))))))))))))
def T32 (F : Nat) (p0 : List UInt8) (p1 : List UInt8) (p2 : List UInt8) (p3 : List UInt8) (p4 : List UInt8) (p5 : List UInt8) (p6 : Int) (p7 : Int) (p8 : List UInt8) : Option ((List UInt8) × Int) := T32c F p0 p1 p2 p3 p4 p5 p6 p7 p8 some
theorem T32n (F : Nat) (p0 : List UInt8) (p1 : List UInt8) (p2 : List UInt8) (p3 : List UInt8) (p4 : List UInt8) (p5 : List UInt8) (p6 : Int) (p7 : Int) (p8 : List UInt8) {β : Type} (k : ((List UInt8) × Int) → Option β) : T32c F p0 p1 p2 p3 p4 p5 p6 p7 p8 k = (T32 F p0 p1 p2 p3 p4 p5 p6 p7 p8).bind k := by
  simp only [T32, T32c, Option.bind_assoc, cond_bind, Option.bind_some, elimS_bind]
@[reducible] def cA32 : List Sh := [(.pr .str (.pr .str (.pr .str (.pr .str (.pr .str .un))))), (.pr .str (.pr .i (.pr .i .un))), (.ro .u8)]
@[reducible] def cB32 : List Sh := [(.ro .u8), .i]
@[reducible] def cT32 : List TSh := []
@[reducible] def cU32 : List TSh := []
def ct32 (F : Nat) : Ct := mkC 0 cA32 cT32 cB32 cU32 (fun x y => T32 F x.1.1 x.1.2.1 x.1.2.2.1 x.1.2.2.2.1 x.1.2.2.2.2.1 x.2.1.1 x.2.1.2.1 x.2.1.2.2.1 x.2.2.1) (fun x y (z : (List UInt8) × Int) => ((z.1, z.2, ()), ()))
theorem eq32 (F : Nat) (x : dens cA32) (y : tdens cT32) : sev (E32 F) 0 [] (bodyOf Tryd.f32) [] (mkSt (rng 3) cA32 cT32 x y) (kFn (E32 F) 0 Tryd.f32.results.toList cB32 cU32 fun p q => some (p, q)) =
    T32c F x.1.1 x.1.2.1 x.1.2.2.1 x.1.2.2.2.1 x.1.2.2.2.2.1 x.2.1.1 x.2.1.2.1 x.2.1.2.2.1 x.2.2.1 (fun z => some ((z.1, z.2, ()), ())) := by kernel_rfl
theorem ok32 (F : Nat) : Sound Tryd.prog cfg 32 (ct32 F) :=
  mkC_ok (E := E32 F) (lp := []) (code := bodyOf Tryd.f32) Tryd.func32 rfl Tryd.ntmps32 rfl rfl cok (cts32 F) mixed trivial (by kernel_rfl) (fun x y k => T32c F x.1.1 x.1.2.1 x.1.2.2.1 x.1.2.2.2.1 x.1.2.2.2.2.1 x.2.1.1 x.2.1.2.1 x.2.1.2.2.1 x.2.2.1 k) (fun x y k => T32n F x.1.1 x.1.2.1 x.1.2.2.1 x.1.2.2.2.1 x.1.2.2.2.2.1 x.2.1.1 x.2.1.2.1 x.2.1.2.2.1 x.2.2.1 k) (eq32 F)
end Go.Proofs.YtjghgfohpihhfaaDoor
/- kinkeep/kinkeeplaw11.awake: its twin, and that the call does what the twin says. Printed by a program. -/
namespace Go.Proofs.YtjghgfohpihhfaaDoor
open Go.Tw
set_option linter.unusedSimpArgs false
set_option linter.unusedVariables false
def ord16 : Nat → List (Tag × Nat)
  | 5 => [(.c, 1), (.p, 2), (.w, 0), (.w, 3), (.p, 4), (.p, 5), (.p, 6), (.p, 7), (.p, 8)]
  | _ => []
def al16 : Nat → Option Nat
  | _ => none
def E16 (F : Nat) : Ev := ⟨cfg, 84, ctOf [(14, ct14 F), (31, ct31 F), (29, ct29 F), (32, ct32 F)], ord16, ctOf [], al16⟩
theorem cts16 (F : Nat) : CtsOk Tryd.prog (E16 F) := cts_of (l := [(14, ct14 F), (31, ct31 F), (29, ct29 F), (32, ct32 F)]) (l' := []) rfl rfl ⟨⟨ok14 F, _, Tryd.func14, rfl, rfl⟩, ⟨⟨ok31 F, _, Tryd.func31, rfl, rfl⟩, ⟨⟨ok29 F, _, Tryd.func29, rfl, rfl⟩, ⟨⟨ok32 F, _, Tryd.func32, rfl, rfl⟩, trivial⟩⟩⟩⟩ trivial
def T16c (F : Nat) {β : Type} (k : Bool → Option β) : Option β :=
  (Option.bind (T14 F (47 : Int)) fun z8 => (Option.bind (T14 F (48 : Int)) fun z9 => (Option.bind (T14 F (32768 : Int)) fun z10 => (Option.bind (T31 F (UInt8.ofNat 0)) fun z11 => (Option.bind (T29 F z11.1 z11.2.1 z11.2.2.1 z11.2.2.2.1 z11.2.2.2.2 (0 : Int) ([(UInt8.ofNat 104), (UInt8.ofNat 105)] : List UInt8)) fun z12 => (Option.bind (T31 F (UInt8.ofNat 0)) fun z13 => (Option.bind (T32 F z13.1 z13.2.1 z13.2.2.1 z13.2.2.2.1 z13.2.2.2.2 z12.1 z12.2.1 z12.2.2.1 z12.2.2.2.2) fun z14 => (bif (z8.1 == (64 : Int)) then (bif (z8.2 == (0 : Int)) then (bif (z9.1 == (80 : Int)) then (bif (z9.2 == (0 : Int)) then (bif (z10.1 == (40960 : Int)) then (bif (z10.2 == (0 : Int)) then (bif (z12.2.2.2.1 == (0 : Int)) then (bif ((z12.2.2.2.2.length : Int) == (64 : Int)) then (bif (z14.2 == (0 : Int)) then (bif (z14.1 == ([104, 105] : List UInt8)) then (k (z12.2.2.1 == (2 : Int))) else (k false)) else (k false)) else (k false)) else (k false)) else (k false)) else (k false)) else (k false)) else (k false)) else (k false)) else (k false)))))))))
def T16 (F : Nat) : Option (Bool) := T16c F some
theorem T16n (F : Nat) {β : Type} (k : Bool → Option β) : T16c F k = (T16 F).bind k := by
  simp only [T16, T16c, Option.bind_assoc, cond_bind, Option.bind_some, elimS_bind]
@[reducible] def cA16 : List Sh := []
@[reducible] def cB16 : List Sh := [.bo]
@[reducible] def cT16 : List TSh := []
@[reducible] def cU16 : List TSh := []
def ct16 (F : Nat) : Ct := mkC 0 cA16 cT16 cB16 cU16 (fun x y => T16 F) (fun x y (z : Bool) => ((z, ()), ()))
theorem eq16 (F : Nat) (x : dens cA16) (y : tdens cT16) : sev (E16 F) 0 [] (bodyOf Tryd.f16) [] (mkSt (rng 0) cA16 cT16 x y) (kFn (E16 F) 0 Tryd.f16.results.toList cB16 cU16 fun p q => some (p, q)) =
    T16c F (fun z => some ((z, ()), ())) := by kernel_rfl
theorem ok16 (F : Nat) : Sound Tryd.prog cfg 16 (ct16 F) :=
  mkC_ok (E := E16 F) (lp := []) (code := bodyOf Tryd.f16) Tryd.func16 rfl Tryd.ntmps16 rfl rfl cok (cts16 F) mixed trivial (by kernel_rfl) (fun x y k => T16c F k) (fun x y k => T16n F k) (eq16 F)
end Go.Proofs.YtjghgfohpihhfaaDoor
/- kinkeep/kinkeeplaw11.short: its twin, and that the call does what the twin says. Printed by a program. -/
namespace Go.Proofs.YtjghgfohpihhfaaDoor
open Go.Tw
set_option linter.unusedSimpArgs false
set_option linter.unusedVariables false
def ord17 : Nat → List (Tag × Nat)
  | _ => []
def al17 : Nat → Option Nat
  | _ => none
def E17 (F : Nat) : Ev := ⟨cfg, 15, ctOf [], ord17, ctOf [], al17⟩
theorem cts17 (F : Nat) : CtsOk Tryd.prog (E17 F) := cts_of (l := []) (l' := []) rfl rfl trivial trivial
def L17_2c (F : Nat) (y7 : List (List UInt8)) (y8 : Int) (y9 : Int) {β : Type} (kA : Int → Option β) (kO : Unit → Option β) (kR : Bool → Option β) : Option β :=
  (bif (decide (y9 < y8)) then (Option.bind (ix y7 y9) fun x11 => (bif (decide ((400 : Int) < (x11.length : Int))) then (kR false) else (kA (w64 (y9 + (1 : Int)))))) else (kO ()))
def L17_2 (F : Nat) (y7 : List (List UInt8)) (y8 : Int) (y9 : Int) : Option ((Int) ⊕ ((Unit) ⊕ (Bool))) := L17_2c F y7 y8 y9 (fun s => some (.inl s)) (fun z => some (.inr (.inl z))) (fun z => some (.inr (.inr z)))
theorem L17_2n (F : Nat) (y7 : List (List UInt8)) (y8 : Int) (y9 : Int) {β : Type} (kA : Int → Option β) (kO : Unit → Option β) (kR : Bool → Option β) : L17_2c F y7 y8 y9 kA kO kR = (L17_2 F y7 y8 y9).bind (elimS kA (elimS kO kR)) := by
  simp only [L17_2, L17_2c, Option.bind_assoc, cond_bind, Option.bind_some, elimS_l, elimS_r, elimS_bind]
@[reducible] def sA17_2 : List Sh := [(.ro (.sl .u8)), .i, .i]
@[reducible] def sA117_2 : List Sh := []
@[reducible] def sA217_2 : List Sh := [.bo]
@[reducible] def sT17_2 : List TSh := []
@[reducible] def sT117_2 : List TSh := []
@[reducible] def sT217_2 : List TSh := []
def lc17_2 (F : Nat) : Lc := mkR [5, 6, 7] sA17_2 sT17_2 [] sA117_2 sT117_2 [2] sA217_2 sT217_2 F (fun x y (s : Int) => L17_2 F x.1 x.2.1 s) (fun x y => x.2.2.1) (fun x y (z : Unit) => ((), ())) (fun x y (z : Bool) => ((z, ()), ()))
theorem le17_2 (F : Nat) (x : dens sA17_2) (y : tdens sT17_2) (s : Int) : sev (E17 F) 0 [] (cAt (bodyOf Tryd.f17) (0 :: 0 :: [1, 0, 1])) (0 :: 0 :: [1, 0, 1]) (mkSt [5, 6, 7] sA17_2 sT17_2 (x.1, x.2.1, s, ()) ()) (kLoop 0 [5, 6, 7] sA17_2 sT17_2 [] sA117_2 sT117_2 [2] sA217_2 sT217_2 0 (fun x y => some (.inl (x, y))) (fun x y => some (.inr (.inl (x, y)))) (fun x y => some (.inr (.inr (x, y))))) =
    L17_2c (β := Full sA17_2 sT17_2 sA117_2 sT117_2 sA217_2 sT217_2) F x.1 x.2.1 s (fun s => some (.inl ((x.1, x.2.1, s, ()), ()))) (fun z => some (.inr (.inl ((), ())))) (fun z => some (.inr (.inr ((z, ()), ())))) := by kernel_rfl
theorem lo17_2 (F : Nat) : LcOk Tryd.prog (E17 F) 0 (lc17_2 F) (cAt (bodyOf Tryd.f17) [1, 0, 1]) :=
  mkR_ok (lp := []) (id := 0) (b := cAt (bodyOf Tryd.f17) (0 :: 0 :: [1, 0, 1])) cok (cts17 F) mixed trivial (by kernel_rfl) (by kernel_rfl) (fun x y s => (x.1, x.2.1, s, ())) (fun x y s => ()) (fun x y => rfl) (fun x y => rfl) (fun x y s kA kO kR => L17_2c F x.1 x.2.1 s kA kO kR) (fun x y s kA kO kR => L17_2n F x.1 x.2.1 s kA kO kR) (le17_2 F)
def T17c (F : Nat) (p0 : List (List UInt8)) {β : Type} (k : Bool → Option β) : Option β :=
  (Option.bind (iter (fun s => L17_2 F p0 (p0.length : Int) s) F (0 : Int)) fun z12 => elimS (fun z12 => (k true)) (fun z12 => (k z12)) z12)
def T17 (F : Nat) (p0 : List (List UInt8)) : Option (Bool) := T17c F p0 some
theorem T17n (F : Nat) (p0 : List (List UInt8)) {β : Type} (k : Bool → Option β) : T17c F p0 k = (T17 F p0).bind k := by
  simp only [T17, T17c, Option.bind_assoc, cond_bind, Option.bind_some, elimS_bind]
@[reducible] def cA17 : List Sh := [(.ro (.sl .u8))]
@[reducible] def cB17 : List Sh := [.bo]
@[reducible] def cT17 : List TSh := []
@[reducible] def cU17 : List TSh := []
def ct17 (F : Nat) : Ct := mkC 0 cA17 cT17 cB17 cU17 (fun x y => T17 F x.1) (fun x y (z : Bool) => ((z, ()), ()))
theorem eq17 (F : Nat) (x : dens cA17) (y : tdens cT17) : sev (E17 F) 0 [([1, 0, 1], lc17_2 F)] (bodyOf Tryd.f17) [] (mkSt (rng 1) cA17 cT17 x y) (kFn (E17 F) 0 Tryd.f17.results.toList cB17 cU17 fun p q => some (p, q)) =
    T17c F x.1 (fun z => some ((z, ()), ())) := by kernel_rfl
theorem ok17 (F : Nat) : Sound Tryd.prog cfg 17 (ct17 F) :=
  mkC_ok (E := E17 F) (lp := [([1, 0, 1], lc17_2 F)]) (code := bodyOf Tryd.f17) Tryd.func17 rfl Tryd.ntmps17 rfl rfl cok (cts17 F) mixed ⟨lo17_2 F, trivial⟩ (by kernel_rfl) (fun x y k => T17c F x.1 k) (fun x y k => T17n F x.1 k) (eq17 F)
end Go.Proofs.YtjghgfohpihhfaaDoor
/- kinkeep/seal.Explain: its twin, and that the call does what the twin says. Printed by a program. -/
namespace Go.Proofs.YtjghgfohpihhfaaDoor
open Go.Tw
set_option linter.unusedSimpArgs false
set_option linter.unusedVariables false
def ord36 : Nat → List (Tag × Nat)
  | _ => []
def al36 : Nat → Option Nat
  | _ => none
def E36 (F : Nat) : Ev := ⟨cfg, 14, ctOf [(34, ct34 F)], ord36, ctOf [], al36⟩
theorem cts36 (F : Nat) : CtsOk Tryd.prog (E36 F) := cts_of (l := [(34, ct34 F)]) (l' := []) rfl rfl ⟨⟨ok34 F, _, Tryd.func34, rfl, rfl⟩, trivial⟩ trivial
def T36c (F : Nat) (p0 : List UInt8) (p1 : List UInt8) (p2 : List UInt8) {β : Type} (k : (Int × (List UInt8)) → Option β) : Option β :=
  (Option.bind (T34 F p0 p1 p2) fun z2 => (k (z2.1, z2.2)))
def T36 (F : Nat) (p0 : List UInt8) (p1 : List UInt8) (p2 : List UInt8) : Option (Int × (List UInt8)) := T36c F p0 p1 p2 some
theorem T36n (F : Nat) (p0 : List UInt8) (p1 : List UInt8) (p2 : List UInt8) {β : Type} (k : (Int × (List UInt8)) → Option β) : T36c F p0 p1 p2 k = (T36 F p0 p1 p2).bind k := by
  simp only [T36, T36c, Option.bind_assoc, cond_bind, Option.bind_some, elimS_bind]
@[reducible] def cA36 : List Sh := [(.ro .u8), (.ro .u8), (.ro .u8)]
@[reducible] def cB36 : List Sh := [(.rw 0), .i]
@[reducible] def cT36 : List TSh := []
@[reducible] def cU36 : List TSh := [.row 5 .u8]
def ct36 (F : Nat) : Ct := mkC 0 cA36 cT36 cB36 cU36 (fun x y => T36 F x.1 x.2.1 x.2.2.1) (fun x y (z : Int × (List UInt8)) => (((), z.1, ()), (z.2, ())))
theorem eq36 (F : Nat) (x : dens cA36) (y : tdens cT36) : sev (E36 F) 0 [] (bodyOf Tryd.f36) [] (mkSt (rng 3) cA36 cT36 x y) (kFn (E36 F) 0 Tryd.f36.results.toList cB36 cU36 fun p q => some (p, q)) =
    T36c F x.1 x.2.1 x.2.2.1 (fun z => some (((), z.1, ()), (z.2, ()))) := by kernel_rfl
theorem ok36 (F : Nat) : Sound Tryd.prog cfg 36 (ct36 F) :=
  mkC_ok (E := E36 F) (lp := []) (code := bodyOf Tryd.f36) Tryd.func36 rfl Tryd.ntmps36 rfl rfl cok (cts36 F) mixed trivial (by kernel_rfl) (fun x y k => T36c F x.1 x.2.1 x.2.2.1 k) (fun x y k => T36n F x.1 x.2.1 x.2.2.1 k) (eq36 F)
end Go.Proofs.YtjghgfohpihhfaaDoor
/- kinkeep/kinkeeplaw11.SealSecret: its twin, and that the call does what the twin says. Printed by a program. -/
namespace Go.Proofs.YtjghgfohpihhfaaDoor
open Go.Tw
set_option linter.unusedSimpArgs false
set_option linter.unusedVariables false
def ord12 : Nat → List (Tag × Nat)
  | _ => []
def al12 : Nat → Option Nat
  | _ => none
def E12 (F : Nat) : Ev := ⟨cfg, 141, ctOf [(16, ct16 F), (17, ct17 F), (14, ct14 F), (34, ct34 F), (36, ct36 F)], ord12, ctOf [], al12⟩
theorem cts12 (F : Nat) : CtsOk Tryd.prog (E12 F) := cts_of (l := [(16, ct16 F), (17, ct17 F), (14, ct14 F), (34, ct34 F), (36, ct36 F)]) (l' := []) rfl rfl ⟨⟨ok16 F, _, Tryd.func16, rfl, rfl⟩, ⟨⟨ok17 F, _, Tryd.func17, rfl, rfl⟩, ⟨⟨ok14 F, _, Tryd.func14, rfl, rfl⟩, ⟨⟨ok34 F, _, Tryd.func34, rfl, rfl⟩, ⟨⟨ok36 F, _, Tryd.func36, rfl, rfl⟩, trivial⟩⟩⟩⟩⟩ trivial
def T12c (F : Nat) (p0 : List UInt8) (p1 : List UInt8) (p2 : List UInt8) (p3 : List UInt8) (p4 : List UInt8) (p5 : Int) {β : Type} (k : Bool → Option β) : Option β :=
  (Option.bind (T16 F) fun z18 => (bif (!z18) then (Option.bind (T16 F) fun z19 => (k z19)) else (Option.bind (T17 F ([p0, p1, p2, p3, p4] : List (List UInt8))) fun z20 => (bif (!z20) then (Option.bind (T16 F) fun z21 => (k z21)) else (bif ((p1.length : Int) != (16 : Int)) then (Option.bind (T16 F) fun z22 => (k z22)) else (bif ((p4.length : Int) != (16 : Int)) then (Option.bind (T16 F) fun z23 => (k z23)) else (Option.bind (T14 F (p2.length : Int)) fun z24 => (Option.bind (T14 F (p3.length : Int)) fun z25 => (bif (z24.1 != z25.1) then (k true) else (bif ((p0.length : Int) != z24.1) then (k true) else (Option.bind (T34 F p0 p1 p2) fun z26 => (Option.bind (T36 F z26.2 p4 p3) fun z27 => (Option.bind (T34 F z27.2 p4 p3) fun z28 => (bif (z26.1 != (0 : Int)) then (k false) else (bif (z27.1 != (0 : Int)) then (k false) else (bif (z28.1 != (0 : Int)) then (k false) else (bif (z26.2 != z28.2) then (k false) else (bif ((z27.2.length : Int) != z24.1) then (k false) else (Option.bind (grem p5 z24.1) fun x29 => (Option.bind (grem (w64 (x29 + z24.1)) z24.1) fun x30 => (Option.bind (inb z27.2.length x30) fun x31 => (Option.bind (z27.2[x31]?) fun x32 => (Option.bind (inb z27.2.length x30) fun x33 => (Option.bind (T34 F (List.set z27.2 x33 (x32 ^^^ (UInt8.ofNat 1))) p4 p3) fun z34 => (bif (z34.1 == (0 : Int)) then (k (z34.2 != z26.2)) else (k false))))))))))))))))))))))))))
def T12 (F : Nat) (p0 : List UInt8) (p1 : List UInt8) (p2 : List UInt8) (p3 : List UInt8) (p4 : List UInt8) (p5 : Int) : Option (Bool) := T12c F p0 p1 p2 p3 p4 p5 some
theorem T12n (F : Nat) (p0 : List UInt8) (p1 : List UInt8) (p2 : List UInt8) (p3 : List UInt8) (p4 : List UInt8) (p5 : Int) {β : Type} (k : Bool → Option β) : T12c F p0 p1 p2 p3 p4 p5 k = (T12 F p0 p1 p2 p3 p4 p5).bind k := by
  simp only [T12, T12c, Option.bind_assoc, cond_bind, Option.bind_some, elimS_bind]
@[reducible] def cA12 : List Sh := [(.ro .u8), (.ro .u8), (.ro .u8), (.ro .u8), (.ro .u8), .i]
@[reducible] def cB12 : List Sh := [.bo]
@[reducible] def cT12 : List TSh := []
@[reducible] def cU12 : List TSh := []
def ct12 (F : Nat) : Ct := mkC 0 cA12 cT12 cB12 cU12 (fun x y => T12 F x.1 x.2.1 x.2.2.1 x.2.2.2.1 x.2.2.2.2.1 x.2.2.2.2.2.1) (fun x y (z : Bool) => ((z, ()), ()))
theorem eq12 (F : Nat) (x : dens cA12) (y : tdens cT12) : sev (E12 F) 0 [] (bodyOf Tryd.f12) [] (mkSt (rng 6) cA12 cT12 x y) (kFn (E12 F) 0 Tryd.f12.results.toList cB12 cU12 fun p q => some (p, q)) =
    T12c F x.1 x.2.1 x.2.2.1 x.2.2.2.1 x.2.2.2.2.1 x.2.2.2.2.2.1 (fun z => some ((z, ()), ())) := by kernel_rfl
theorem ok12 (F : Nat) : Sound Tryd.prog cfg 12 (ct12 F) :=
  mkC_ok (E := E12 F) (lp := []) (code := bodyOf Tryd.f12) Tryd.func12 rfl Tryd.ntmps12 rfl rfl cok (cts12 F) mixed trivial (by kernel_rfl) (fun x y k => T12c F x.1 x.2.1 x.2.2.1 x.2.2.2.1 x.2.2.2.2.1 x.2.2.2.2.2.1 k) (fun x y k => T12n F x.1 x.2.1 x.2.2.1 x.2.2.2.1 x.2.2.2.2.1 x.2.2.2.2.2.1 k) (eq12 F)
end Go.Proofs.YtjghgfohpihhfaaDoor
/- kinkeep/kinkeepref01.Number: its twin, and that the call does what the twin says. Printed by a program. -/
namespace Go.Proofs.YtjghgfohpihhfaaDoor
open Go.Tw
set_option linter.unusedSimpArgs false
set_option linter.unusedVariables false
def ord45 : Nat → List (Tag × Nat)
  | _ => []
def al45 : Nat → Option Nat
  | _ => none
def E45 (F : Nat) : Ev := ⟨cfg, 21, ctOf [], ord45, ctOf [], al45⟩
theorem cts45 (F : Nat) : CtsOk Tryd.prog (E45 F) := cts_of (l := []) (l' := []) rfl rfl trivial trivial
def L45_2c (F : Nat) (y7 : UInt64) (y8 : List UInt8) {β : Type} (kA : (UInt64 × (List UInt8)) → Option β) (kO : (UInt64 × (List UInt8)) → Option β) : Option β :=
  (bif (decide ((UInt64.ofNat 127) < y7)) then (Option.bind (gapp y8 ([(((y7 % (UInt64.ofNat 128)).toUInt8) + (UInt8.ofNat 128))] : List UInt8)) fun x10 => (kA ((y7 / (UInt64.ofNat 128)), x10))) else (kO (y7, y8)))
def L45_2 (F : Nat) (y7 : UInt64) (y8 : List UInt8) : Option ((UInt64 × (List UInt8)) ⊕ (UInt64 × (List UInt8))) := L45_2c F y7 y8 (fun s => some (.inl s)) (fun z => some (.inr z))
theorem L45_2n (F : Nat) (y7 : UInt64) (y8 : List UInt8) {β : Type} (kA : (UInt64 × (List UInt8)) → Option β) (kO : (UInt64 × (List UInt8)) → Option β) : L45_2c F y7 y8 kA kO = (L45_2 F y7 y8).bind (elimS kA kO) := by
  simp only [L45_2, L45_2c, Option.bind_assoc, cond_bind, Option.bind_some, elimS_l, elimS_r, elimS_bind]
@[reducible] def sA45_2 : List Sh := [.u64, (.rw 0)]
@[reducible] def sA145_2 : List Sh := [.u64, (.rw 0)]
@[reducible] def sA245_2 : List Sh := []
@[reducible] def sT45_2 : List TSh := [.row 5 .u8]
@[reducible] def sT145_2 : List TSh := [.row 5 .u8]
@[reducible] def sT245_2 : List TSh := []
def lc45_2 (F : Nat) : Lc := mkL [0, 3] sA45_2 sT45_2 [0, 3] sA145_2 sT145_2 F (fun x y (s : UInt64 × (List UInt8)) => L45_2 F s.1 s.2) (fun x y => (x.1, y.1)) (fun x y (z : UInt64 × (List UInt8)) => ((z.1, (), ()), (z.2, ())))
theorem le45_2 (F : Nat) (x : dens sA45_2) (y : tdens sT45_2) (s : UInt64 × (List UInt8)) : sev (E45 F) 0 [] (cAt (bodyOf Tryd.f45) (0 :: 0 :: [0, 1, 1])) (0 :: 0 :: [0, 1, 1]) (mkSt [0, 3] sA45_2 sT45_2 (s.1, (), ()) (s.2, ())) (kLoop 0 [0, 3] sA45_2 sT45_2 [0, 3] sA145_2 sT145_2 [] [] [] 0 (fun x y => some (.inl (x, y))) (fun x y => some (.inr (.inl (x, y)))) (fun x y => some (.inr (.inr (x, y))))) =
    L45_2c (β := Full sA45_2 sT45_2 sA145_2 sT145_2 [] []) F s.1 s.2 (fun s => some (.inl ((s.1, (), ()), (s.2, ())))) (fun z => some (.inr (.inl ((z.1, (), ()), (z.2, ()))))) := by kernel_rfl
theorem lo45_2 (F : Nat) : LcOk Tryd.prog (E45 F) 0 (lc45_2 F) (cAt (bodyOf Tryd.f45) [0, 1, 1]) :=
  mkL_ok (lp := []) (id := 0) (b := cAt (bodyOf Tryd.f45) (0 :: 0 :: [0, 1, 1])) cok (cts45 F) mixed trivial (by kernel_rfl) (by kernel_rfl) (fun x y s => (s.1, (), ())) (fun x y s => (s.2, ())) (fun x y => rfl) (fun x y => rfl) (fun x y s kA kO => L45_2c F s.1 s.2 kA kO) (fun x y s kA kO => L45_2n F s.1 s.2 kA kO) (le45_2 F)
def T45c (F : Nat) (p0 : UInt64) {β : Type} (k : ((List UInt8)) → Option β) : Option β :=
  (Option.bind (iter (fun s => L45_2 F s.1 s.2) F (p0, ([] : List UInt8))) fun z11 => (Option.bind (gapp z11.2 ([(z11.1.toUInt8)] : List UInt8)) fun x12 => (k x12)))
def T45 (F : Nat) (p0 : UInt64) : Option ((List UInt8)) := T45c F p0 some
theorem T45n (F : Nat) (p0 : UInt64) {β : Type} (k : ((List UInt8)) → Option β) : T45c F p0 k = (T45 F p0).bind k := by
  simp only [T45, T45c, Option.bind_assoc, cond_bind, Option.bind_some, elimS_bind]
@[reducible] def cA45 : List Sh := [.u64]
@[reducible] def cB45 : List Sh := [(.rw 0)]
@[reducible] def cT45 : List TSh := []
@[reducible] def cU45 : List TSh := [.row 5 .u8]
def ct45 (F : Nat) : Ct := mkC 0 cA45 cT45 cB45 cU45 (fun x y => T45 F x.1) (fun x y (z : (List UInt8)) => (((), ()), (z, ())))
theorem eq45 (F : Nat) (x : dens cA45) (y : tdens cT45) : sev (E45 F) 0 [([0, 1, 1], lc45_2 F)] (bodyOf Tryd.f45) [] (mkSt (rng 1) cA45 cT45 x y) (kFn (E45 F) 0 Tryd.f45.results.toList cB45 cU45 fun p q => some (p, q)) =
    T45c F x.1 (fun z => some (((), ()), (z, ()))) := by kernel_rfl
theorem ok45 (F : Nat) : Sound Tryd.prog cfg 45 (ct45 F) :=
  mkC_ok (E := E45 F) (lp := [([0, 1, 1], lc45_2 F)]) (code := bodyOf Tryd.f45) Tryd.func45 rfl Tryd.ntmps45 rfl rfl cok (cts45 F) mixed ⟨lo45_2 F, trivial⟩ (by kernel_rfl) (fun x y k => T45c F x.1 k) (fun x y k => T45n F x.1 k) (eq45 F)
end Go.Proofs.YtjghgfohpihhfaaDoor
/- kinkeep/kinkeepref11.Need: its twin, and that the call does what the twin says. Printed by a program. -/
namespace Go.Proofs.YtjghgfohpihhfaaDoor
open Go.Tw
set_option linter.unusedSimpArgs false
set_option linter.unusedVariables false
def ord43 : Nat → List (Tag × Nat)
  | _ => []
def al43 : Nat → Option Nat
  | _ => none
def E43 (F : Nat) : Ev := ⟨cfg, 10, ctOf [(45, ct45 F)], ord43, ctOf [], al43⟩
theorem cts43 (F : Nat) : CtsOk Tryd.prog (E43 F) := cts_of (l := [(45, ct45 F)]) (l' := []) rfl rfl ⟨⟨ok45 F, _, Tryd.func45, rfl, rfl⟩, trivial⟩ trivial
def T43c (F : Nat) (p0 : Int) {β : Type} (k : Int → Option β) : Option β :=
  (Option.bind (T45 F (UInt64.ofInt p0)) fun z2 => (k (w64 ((w64 ((z2.length : Int) + p0)) + (16 : Int)))))
def T43 (F : Nat) (p0 : Int) : Option (Int) := T43c F p0 some
theorem T43n (F : Nat) (p0 : Int) {β : Type} (k : Int → Option β) : T43c F p0 k = (T43 F p0).bind k := by
  simp only [T43, T43c, Option.bind_assoc, cond_bind, Option.bind_some, elimS_bind]
@[reducible] def cA43 : List Sh := [.i]
@[reducible] def cB43 : List Sh := [.i]
@[reducible] def cT43 : List TSh := []
@[reducible] def cU43 : List TSh := []
def ct43 (F : Nat) : Ct := mkC 0 cA43 cT43 cB43 cU43 (fun x y => T43 F x.1) (fun x y (z : Int) => ((z, ()), ()))
theorem eq43 (F : Nat) (x : dens cA43) (y : tdens cT43) : sev (E43 F) 0 [] (bodyOf Tryd.f43) [] (mkSt (rng 1) cA43 cT43 x y) (kFn (E43 F) 0 Tryd.f43.results.toList cB43 cU43 fun p q => some (p, q)) =
    T43c F x.1 (fun z => some ((z, ()), ())) := by kernel_rfl
theorem ok43 (F : Nat) : Sound Tryd.prog cfg 43 (ct43 F) :=
  mkC_ok (E := E43 F) (lp := []) (code := bodyOf Tryd.f43) Tryd.func43 rfl Tryd.ntmps43 rfl rfl cok (cts43 F) mixed trivial (by kernel_rfl) (fun x y k => T43c F x.1 k) (fun x y k => T43n F x.1 k) (eq43 F)
end Go.Proofs.YtjghgfohpihhfaaDoor
/- kinkeep/kinkeepref11.ClassOf: its twin, and that the call does what the twin says. Printed by a program. -/
namespace Go.Proofs.YtjghgfohpihhfaaDoor
open Go.Tw
set_option linter.unusedSimpArgs false
set_option linter.unusedVariables false
def ord42 : Nat → List (Tag × Nat)
  | _ => []
def al42 : Nat → Option Nat
  | _ => none
def E42 (F : Nat) : Ev := ⟨cfg, 22, ctOf [], ord42, ctOf [], al42⟩
theorem cts42 (F : Nat) : CtsOk Tryd.prog (E42 F) := cts_of (l := []) (l' := []) rfl rfl trivial trivial
def L42_4c (F : Nat) (y12 : Int) (y13 : Int) (y14 : Int) {β : Type} (kA : Int → Option β) (kO : Unit → Option β) (kR : Int → Option β) : Option β :=
  (bif (decide (y14 < (4 : Int))) then (bif (decide (y12 ≤ (w64 (y13 + (w64 ((w64 (Int.tdiv y13 (4 : Int))) * y14)))))) then (kR (w64 (y13 + (w64 ((w64 (Int.tdiv y13 (4 : Int))) * y14))))) else (kA (w64 (y14 + (1 : Int))))) else (kO ()))
def L42_4 (F : Nat) (y12 : Int) (y13 : Int) (y14 : Int) : Option ((Int) ⊕ ((Unit) ⊕ (Int))) := L42_4c F y12 y13 y14 (fun s => some (.inl s)) (fun z => some (.inr (.inl z))) (fun z => some (.inr (.inr z)))
theorem L42_4n (F : Nat) (y12 : Int) (y13 : Int) (y14 : Int) {β : Type} (kA : Int → Option β) (kO : Unit → Option β) (kR : Int → Option β) : L42_4c F y12 y13 y14 kA kO kR = (L42_4 F y12 y13 y14).bind (elimS kA (elimS kO kR)) := by
  simp only [L42_4, L42_4c, Option.bind_assoc, cond_bind, Option.bind_some, elimS_l, elimS_r, elimS_bind]
@[reducible] def sA42_4 : List Sh := [.i, .i, .i]
@[reducible] def sA142_4 : List Sh := [.i, .i]
@[reducible] def sA242_4 : List Sh := [.i]
@[reducible] def sT42_4 : List TSh := []
@[reducible] def sT142_4 : List TSh := []
@[reducible] def sT242_4 : List TSh := []
def lc42_4 (F : Nat) : Lc := mkR [0, 3, 4] sA42_4 sT42_4 [0, 3] sA142_4 sT142_4 [2] sA242_4 sT242_4 F (fun x y (s : Int) => L42_4 F x.1 x.2.1 s) (fun x y => x.2.2.1) (fun x y (z : Unit) => ((x.1, x.2.1, ()), ())) (fun x y (z : Int) => ((z, ()), ()))
theorem le42_4 (F : Nat) (x : dens sA42_4) (y : tdens sT42_4) (s : Int) : sev (E42 F) 0 [] (cAt (bodyOf Tryd.f42) (0 :: 0 :: [1, 0, 0, 0, 0, 1, 1])) (0 :: 0 :: [1, 0, 0, 0, 0, 1, 1]) (mkSt [0, 3, 4] sA42_4 sT42_4 (x.1, x.2.1, s, ()) ()) (kLoop 0 [0, 3, 4] sA42_4 sT42_4 [0, 3] sA142_4 sT142_4 [2] sA242_4 sT242_4 2 (fun x y => some (.inl (x, y))) (fun x y => some (.inr (.inl (x, y)))) (fun x y => some (.inr (.inr (x, y))))) =
    L42_4c (β := Full sA42_4 sT42_4 sA142_4 sT142_4 sA242_4 sT242_4) F x.1 x.2.1 s (fun s => some (.inl ((x.1, x.2.1, s, ()), ()))) (fun z => some (.inr (.inl ((x.1, x.2.1, ()), ())))) (fun z => some (.inr (.inr ((z, ()), ())))) := by kernel_rfl
theorem lo42_4 (F : Nat) : LcOk Tryd.prog (E42 F) 0 (lc42_4 F) (cAt (bodyOf Tryd.f42) [1, 0, 0, 0, 0, 1, 1]) :=
  mkR_ok (lp := []) (id := 2) (b := cAt (bodyOf Tryd.f42) (0 :: 0 :: [1, 0, 0, 0, 0, 1, 1])) cok (cts42 F) mixed trivial (by kernel_rfl) (by kernel_rfl) (fun x y s => (x.1, x.2.1, s, ())) (fun x y s => ()) (fun x y => rfl) (fun x y => rfl) (fun x y s kA kO kR => L42_4c F x.1 x.2.1 s kA kO kR) (fun x y s kA kO kR => L42_4n F x.1 x.2.1 s kA kO kR) (le42_4 F)
def L42_3c (F : Nat) (y9 : Int) (y10 : Int) {β : Type} (kA : Int → Option β) (kR : Int → Option β) : Option β :=
  (Option.bind (iter (fun s => L42_4 F y9 y10 s) F (0 : Int)) fun z15 => elimS (fun z15 => (kA (w64 ((2 : Int) * y10)))) (fun z15 => (kR z15)) z15)
def L42_3 (F : Nat) (y9 : Int) (y10 : Int) : Option ((Int) ⊕ (Int)) := L42_3c F y9 y10 (fun s => some (.inl s)) (fun z => some (.inr z))
theorem L42_3n (F : Nat) (y9 : Int) (y10 : Int) {β : Type} (kA : Int → Option β) (kR : Int → Option β) : L42_3c F y9 y10 kA kR = (L42_3 F y9 y10).bind (elimS kA kR) := by
  simp only [L42_3, L42_3c, Option.bind_assoc, cond_bind, Option.bind_some, elimS_l, elimS_r, elimS_bind]
@[reducible] def sA42_3 : List Sh := [.i, .i]
@[reducible] def sA142_3 : List Sh := []
@[reducible] def sA242_3 : List Sh := [.i]
@[reducible] def sT42_3 : List TSh := []
@[reducible] def sT142_3 : List TSh := []
@[reducible] def sT242_3 : List TSh := []
def lc42_3 (F : Nat) : Lc := mkX [0, 3] sA42_3 sT42_3 [2] sA242_3 sT242_3 F (fun x y (s : Int) => L42_3 F x.1 s) (fun x y => x.2.1) (fun x y (z : Int) => ((z, ()), ()))
theorem le42_3 (F : Nat) (x : dens sA42_3) (y : tdens sT42_3) (s : Int) : sev (E42 F) 0 [([1, 0, 0, 0, 0, 1, 1], lc42_4 F)] (cAt (bodyOf Tryd.f42) (0 :: 0 :: [1, 1])) (0 :: 0 :: [1, 1]) (mkSt [0, 3] sA42_3 sT42_3 (x.1, s, ()) ()) (kLoop 0 [0, 3] sA42_3 sT42_3 [] sA142_3 sT142_3 [2] sA242_3 sT242_3 0 (fun x y => some (.inl (x, y))) (fun x y => some (.inr (.inl (x, y)))) (fun x y => some (.inr (.inr (x, y))))) =
    L42_3c (β := Full sA42_3 sT42_3 sA142_3 sT142_3 sA242_3 sT242_3) F x.1 s (fun s => some (.inl ((x.1, s, ()), ()))) (fun z => some (.inr (.inr ((z, ()), ())))) := by kernel_rfl
theorem lo42_3 (F : Nat) : LcOk Tryd.prog (E42 F) 0 (lc42_3 F) (cAt (bodyOf Tryd.f42) [1, 1]) :=
  mkX_ok (lp := [([1, 0, 0, 0, 0, 1, 1], lc42_4 F)]) (id := 0) (b := cAt (bodyOf Tryd.f42) (0 :: 0 :: [1, 1])) cok (cts42 F) mixed ⟨lo42_4 F, trivial⟩ (by kernel_rfl) (by kernel_rfl) (fun x y s => (x.1, s, ())) (fun x y s => ()) (fun x y => rfl) (fun x y => rfl) (fun x y s kA kR => L42_3c F x.1 s kA kR) (fun x y s kA kR => L42_3n F x.1 s kA kR) (le42_3 F)
def T42c (F : Nat) (p0 : Int) {β : Type} (k : Int → Option β) : Option β :=
  (Option.bind (iter (fun s => L42_3 F p0 s) F (64 : Int)) fun z16 => (k z16))
def T42 (F : Nat) (p0 : Int) : Option (Int) := T42c F p0 some
theorem T42n (F : Nat) (p0 : Int) {β : Type} (k : Int → Option β) : T42c F p0 k = (T42 F p0).bind k := by
  simp only [T42, T42c, Option.bind_assoc, cond_bind, Option.bind_some, elimS_bind]
@[reducible] def cA42 : List Sh := [.i]
@[reducible] def cB42 : List Sh := [.i]
@[reducible] def cT42 : List TSh := []
@[reducible] def cU42 : List TSh := []
def ct42 (F : Nat) : Ct := mkC 0 cA42 cT42 cB42 cU42 (fun x y => T42 F x.1) (fun x y (z : Int) => ((z, ()), ()))
theorem eq42 (F : Nat) (x : dens cA42) (y : tdens cT42) : sev (E42 F) 0 [([1, 1], lc42_3 F)] (bodyOf Tryd.f42) [] (mkSt (rng 1) cA42 cT42 x y) (kFn (E42 F) 0 Tryd.f42.results.toList cB42 cU42 fun p q => some (p, q)) =
    T42c F x.1 (fun z => some ((z, ()), ())) := by kernel_rfl
theorem ok42 (F : Nat) : Sound Tryd.prog cfg 42 (ct42 F) :=
  mkC_ok (E := E42 F) (lp := [([1, 1], lc42_3 F)]) (code := bodyOf Tryd.f42) Tryd.func42 rfl Tryd.ntmps42 rfl rfl cok (cts42 F) mixed ⟨lo42_3 F, trivial⟩ (by kernel_rfl) (fun x y k => T42c F x.1 k) (fun x y k => T42n F x.1 k) (eq42 F)
end Go.Proofs.YtjghgfohpihhfaaDoor
/- kinkeep/kinkeepref11.Class: its twin, and that the call does what the twin says. Printed by a program. -/
namespace Go.Proofs.YtjghgfohpihhfaaDoor
open Go.Tw
set_option linter.unusedSimpArgs false
set_option linter.unusedVariables false
def ord15 : Nat → List (Tag × Nat)
  | _ => []
def al15 : Nat → Option Nat
  | _ => none
def E15 (F : Nat) : Ev := ⟨cfg, 11, ctOf [(43, ct43 F), (42, ct42 F)], ord15, ctOf [], al15⟩
theorem cts15 (F : Nat) : CtsOk Tryd.prog (E15 F) := cts_of (l := [(43, ct43 F), (42, ct42 F)]) (l' := []) rfl rfl ⟨⟨ok43 F, _, Tryd.func43, rfl, rfl⟩, ⟨⟨ok42 F, _, Tryd.func42, rfl, rfl⟩, trivial⟩⟩ trivial
def T15c (F : Nat) (p0 : Int) {β : Type} (k : (Int × Int) → Option β) : Option β :=
  (bif (decide (p0 < (0 : Int))) then (k ((0 : Int), (1 : Int))) else (bif (decide ((32768 : Int) < p0)) then (k ((0 : Int), (2 : Int))) else (Option.bind (T43 F p0) fun z3 => (Option.bind (T42 F z3) fun z4 => (k (z4, (0 : Int)))))))
def T15 (F : Nat) (p0 : Int) : Option (Int × Int) := T15c F p0 some
theorem T15n (F : Nat) (p0 : Int) {β : Type} (k : (Int × Int) → Option β) : T15c F p0 k = (T15 F p0).bind k := by
  simp only [T15, T15c, Option.bind_assoc, cond_bind, Option.bind_some, elimS_bind]
@[reducible] def cA15 : List Sh := [.i]
@[reducible] def cB15 : List Sh := [.i, .i]
@[reducible] def cT15 : List TSh := []
@[reducible] def cU15 : List TSh := []
def ct15 (F : Nat) : Ct := mkC 0 cA15 cT15 cB15 cU15 (fun x y => T15 F x.1) (fun x y (z : Int × Int) => ((z.1, z.2, ()), ()))
theorem eq15 (F : Nat) (x : dens cA15) (y : tdens cT15) : sev (E15 F) 0 [] (bodyOf Tryd.f15) [] (mkSt (rng 1) cA15 cT15 x y) (kFn (E15 F) 0 Tryd.f15.results.toList cB15 cU15 fun p q => some (p, q)) =
    T15c F x.1 (fun z => some ((z.1, z.2, ()), ())) := by kernel_rfl
theorem ok15 (F : Nat) : Sound Tryd.prog cfg 15 (ct15 F) :=
  mkC_ok (E := E15 F) (lp := []) (code := bodyOf Tryd.f15) Tryd.func15 rfl Tryd.ntmps15 rfl rfl cok (cts15 F) mixed trivial (by kernel_rfl) (fun x y k => T15c F x.1 k) (fun x y k => T15n F x.1 k) (eq15 F)
end Go.Proofs.YtjghgfohpihhfaaDoor
/- kinkeep/kinkeepref11.Body: its twin, and that the call does what the twin says. Printed by a program. -/
namespace Go.Proofs.YtjghgfohpihhfaaDoor
open Go.Tw
set_option linter.unusedSimpArgs false
set_option linter.unusedVariables false
def ord19 : Nat → List (Tag × Nat)
  | _ => []
def al19 : Nat → Option Nat
  | _ => none
def E19 (F : Nat) : Ev := ⟨cfg, 38, ctOf [(15, ct15 F), (45, ct45 F)], ord19, ctOf [], al19⟩
theorem cts19 (F : Nat) : CtsOk Tryd.prog (E19 F) := cts_of (l := [(15, ct15 F), (45, ct45 F)]) (l' := []) rfl rfl ⟨⟨ok15 F, _, Tryd.func15, rfl, rfl⟩, ⟨⟨ok45 F, _, Tryd.func45, rfl, rfl⟩, trivial⟩⟩ trivial
def L19_2c (F : Nat) (y15 : Int) (y16 : List UInt8) {β : Type} (kA : ((List UInt8)) → Option β) (kO : ((List UInt8)) → Option β) : Option β :=
  (bif (decide ((y16.length : Int) < (w64 (y15 - (16 : Int))))) then (Option.bind (gapp y16 ([(UInt8.ofNat 0)] : List UInt8)) fun x18 => (kA x18)) else (kO y16))
def L19_2 (F : Nat) (y15 : Int) (y16 : List UInt8) : Option (((List UInt8)) ⊕ ((List UInt8))) := L19_2c F y15 y16 (fun s => some (.inl s)) (fun z => some (.inr z))
theorem L19_2n (F : Nat) (y15 : Int) (y16 : List UInt8) {β : Type} (kA : ((List UInt8)) → Option β) (kO : ((List UInt8)) → Option β) : L19_2c F y15 y16 kA kO = (L19_2 F y15 y16).bind (elimS kA kO) := by
  simp only [L19_2, L19_2c, Option.bind_assoc, cond_bind, Option.bind_some, elimS_l, elimS_r, elimS_bind]
@[reducible] def sA19_2 : List Sh := [(.ro .u8), .i, (.rw 0)]
@[reducible] def sA119_2 : List Sh := [(.ro .u8), (.rw 0)]
@[reducible] def sA219_2 : List Sh := []
@[reducible] def sT19_2 : List TSh := [.row 5 .u8]
@[reducible] def sT119_2 : List TSh := [.row 5 .u8]
@[reducible] def sT219_2 : List TSh := []
def lc19_2 (F : Nat) : Lc := mkL [1, 6, 8] sA19_2 sT19_2 [1, 8] sA119_2 sT119_2 F (fun x y (s : (List UInt8)) => L19_2 F x.2.1 s) (fun x y => y.1) (fun x y (z : (List UInt8)) => ((x.1, (), ()), (z, ())))
theorem le19_2 (F : Nat) (x : dens sA19_2) (y : tdens sT19_2) (s : (List UInt8)) : sev (E19 F) 0 [] (cAt (bodyOf Tryd.f19) (0 :: 0 :: [0, 1, 1, 1, 1, 1])) (0 :: 0 :: [0, 1, 1, 1, 1, 1]) (mkSt [1, 6, 8] sA19_2 sT19_2 (x.1, x.2.1, (), ()) (s, ())) (kLoop 0 [1, 6, 8] sA19_2 sT19_2 [1, 8] sA119_2 sT119_2 [] [] [] 0 (fun x y => some (.inl (x, y))) (fun x y => some (.inr (.inl (x, y)))) (fun x y => some (.inr (.inr (x, y))))) =
    L19_2c (β := Full sA19_2 sT19_2 sA119_2 sT119_2 [] []) F x.2.1 s (fun s => some (.inl ((x.1, x.2.1, (), ()), (s, ())))) (fun z => some (.inr (.inl ((x.1, (), ()), (z, ()))))) := by kernel_rfl
theorem lo19_2 (F : Nat) : LcOk Tryd.prog (E19 F) 0 (lc19_2 F) (cAt (bodyOf Tryd.f19) [0, 1, 1, 1, 1, 1]) :=
  mkL_ok (lp := []) (id := 0) (b := cAt (bodyOf Tryd.f19) (0 :: 0 :: [0, 1, 1, 1, 1, 1])) cok (cts19 F) mixed trivial (by kernel_rfl) (by kernel_rfl) (fun x y s => (x.1, x.2.1, (), ())) (fun x y s => (s, ())) (fun x y => rfl) (fun x y => rfl) (fun x y s kA kO => L19_2c F x.2.1 s kA kO) (fun x y s kA kO => L19_2n F x.2.1 s kA kO) (le19_2 F)
def T19c (F : Nat) (p0 : List UInt8) (p1 : List UInt8) {β : Type} (k : (Int × (List UInt8)) → Option β) : Option β :=
  (bif ((p1.length : Int) != (16 : Int)) then (k ((1 : Int), ([] : List UInt8))) else (Option.bind (T15 F (p0.length : Int)) fun z11 => (bif (z11.2 != (0 : Int)) then (k (z11.2, ([] : List UInt8))) else (Option.bind (T45 F (UInt64.ofInt (p0.length : Int))) fun z12 => (Option.bind (gapp z12 p0) fun x13 => (Option.bind (iter (fun s => L19_2 F z11.1 s) F x13) fun z19 => (Option.bind (gapp z19 p1) fun x20 => (k ((0 : Int), x20)))))))))
def T19 (F : Nat) (p0 : List UInt8) (p1 : List UInt8) : Option (Int × (List UInt8)) := T19c F p0 p1 some
theorem T19n (F : Nat) (p0 : List UInt8) (p1 : List UInt8) {β : Type} (k : (Int × (List UInt8)) → Option β) : T19c F p0 p1 k = (T19 F p0 p1).bind k := by
  simp only [T19, T19c, Option.bind_assoc, cond_bind, Option.bind_some, elimS_bind]
@[reducible] def cA19 : List Sh := [(.ro .u8), (.ro .u8)]
@[reducible] def cB19 : List Sh := [(.rw 0), .i]
@[reducible] def cT19 : List TSh := []
@[reducible] def cU19 : List TSh := [.row 5 .u8]
def ct19 (F : Nat) : Ct := mkC 0 cA19 cT19 cB19 cU19 (fun x y => T19 F x.1 x.2.1) (fun x y (z : Int × (List UInt8)) => (((), z.1, ()), (z.2, ())))
theorem eq19 (F : Nat) (x : dens cA19) (y : tdens cT19) : sev (E19 F) 0 [([0, 1, 1, 1, 1, 1], lc19_2 F)] (bodyOf Tryd.f19) [] (mkSt (rng 2) cA19 cT19 x y) (kFn (E19 F) 0 Tryd.f19.results.toList cB19 cU19 fun p q => some (p, q)) =
    T19c F x.1 x.2.1 (fun z => some (((), z.1, ()), (z.2, ()))) := by kernel_rfl
theorem ok19 (F : Nat) : Sound Tryd.prog cfg 19 (ct19 F) :=
  mkC_ok (E := E19 F) (lp := [([0, 1, 1, 1, 1, 1], lc19_2 F)]) (code := bodyOf Tryd.f19) Tryd.func19 rfl Tryd.ntmps19 rfl rfl cok (cts19 F) mixed ⟨lo19_2 F, trivial⟩ (by kernel_rfl) (fun x y k => T19c F x.1 x.2.1 k) (fun x y k => T19n F x.1 x.2.1 k) (eq19 F)
end Go.Proofs.YtjghgfohpihhfaaDoor
/- kinkeep/kinkeeplaw11.SealBody: its twin, and that the call does what the twin says. Printed by a program. -/
namespace Go.Proofs.YtjghgfohpihhfaaDoor
open Go.Tw
set_option linter.unusedSimpArgs false
set_option linter.unusedVariables false
def ord4 : Nat → List (Tag × Nat)
  | _ => []
def al4 : Nat → Option Nat
  | _ => none
def E4 (F : Nat) : Ev := ⟨cfg, 47, ctOf [(16, ct16 F), (17, ct17 F), (18, ct18 F), (19, ct19 F)], ord4, ctOf [], al4⟩
theorem cts4 (F : Nat) : CtsOk Tryd.prog (E4 F) := cts_of (l := [(16, ct16 F), (17, ct17 F), (18, ct18 F), (19, ct19 F)]) (l' := []) rfl rfl ⟨⟨ok16 F, _, Tryd.func16, rfl, rfl⟩, ⟨⟨ok17 F, _, Tryd.func17, rfl, rfl⟩, ⟨⟨ok18 F, _, Tryd.func18, rfl, rfl⟩, ⟨⟨ok19 F, _, Tryd.func19, rfl, rfl⟩, trivial⟩⟩⟩⟩ trivial
def T4c (F : Nat) (p0 : List UInt8) (p1 : List UInt8) (p2 : Bool) {β : Type} (k : Bool → Option β) : Option β :=
  (Option.bind (T16 F) fun z11 => (bif (!z11) then (Option.bind (T16 F) fun z12 => (k z12)) else (Option.bind (T17 F ([p0, p1] : List (List UInt8))) fun z13 => (bif (!z13) then (Option.bind (T16 F) fun z14 => (k z14)) else (bif p2 then (Option.bind (gmake (0 : UInt8) (32768 : Int) (32768 : Int)) fun x15 => (Option.bind (gapp x15 p0) fun x16 => (Option.bind (T18 F x16 p1) fun z17 => (Option.bind (T19 F x16 p1) fun z18 => (bif (z17.2 == z18.2) then (k (z17.1 == z18.1)) else (k false)))))) else (Option.bind (T18 F p0 p1) fun z19 => (Option.bind (T19 F p0 p1) fun z20 => (bif (z19.2 == z20.2) then (k (z19.1 == z20.1)) else (k false)))))))))
def T4 (F : Nat) (p0 : List UInt8) (p1 : List UInt8) (p2 : Bool) : Option (Bool) := T4c F p0 p1 p2 some
theorem T4n (F : Nat) (p0 : List UInt8) (p1 : List UInt8) (p2 : Bool) {β : Type} (k : Bool → Option β) : T4c F p0 p1 p2 k = (T4 F p0 p1 p2).bind k := by
  simp only [T4, T4c, Option.bind_assoc, cond_bind, Option.bind_some, elimS_bind]
@[reducible] def cA4 : List Sh := [(.ro .u8), (.ro .u8), .bo]
@[reducible] def cB4 : List Sh := [.bo]
@[reducible] def cT4 : List TSh := []
@[reducible] def cU4 : List TSh := []
def ct4 (F : Nat) : Ct := mkC 0 cA4 cT4 cB4 cU4 (fun x y => T4 F x.1 x.2.1 x.2.2.1) (fun x y (z : Bool) => ((z, ()), ()))
theorem eq4 (F : Nat) (x : dens cA4) (y : tdens cT4) : sev (E4 F) 0 [] (bodyOf Tryd.f4) [] (mkSt (rng 3) cA4 cT4 x y) (kFn (E4 F) 0 Tryd.f4.results.toList cB4 cU4 fun p q => some (p, q)) =
    T4c F x.1 x.2.1 x.2.2.1 (fun z => some ((z, ()), ())) := by kernel_rfl
theorem ok4 (F : Nat) : Sound Tryd.prog cfg 4 (ct4 F) :=
  mkC_ok (E := E4 F) (lp := []) (code := bodyOf Tryd.f4) Tryd.func4 rfl Tryd.ntmps4 rfl rfl cok (cts4 F) mixed trivial (by kernel_rfl) (fun x y k => T4c F x.1 x.2.1 x.2.2.1 k) (fun x y k => T4n F x.1 x.2.1 x.2.2.1 k) (eq4 F)
end Go.Proofs.YtjghgfohpihhfaaDoor
/- kinkeep/seal.Classes: its twin, and that the call does what the twin says. Printed by a program. -/
namespace Go.Proofs.YtjghgfohpihhfaaDoor
open Go.Tw
set_option linter.unusedSimpArgs false
set_option linter.unusedVariables false
def ord39 : Nat → List (Tag × Nat)
  | _ => []
def al39 : Nat → Option Nat
  | _ => none
def E39 (F : Nat) : Ev := ⟨cfg, 27, ctOf [(14, ct14 F), (41, ct41 F), (59, ct59 F)], ord39, ctOf [], al39⟩
theorem cts39 (F : Nat) : CtsOk Tryd.prog (E39 F) := cts_of (l := [(14, ct14 F), (41, ct41 F), (59, ct59 F)]) (l' := []) rfl rfl ⟨⟨ok14 F, _, Tryd.func14, rfl, rfl⟩, ⟨⟨ok41 F, _, Tryd.func41, rfl, rfl⟩, ⟨⟨ok59 F, _, Tryd.func59, rfl, rfl⟩, trivial⟩⟩⟩ trivial
def L39_2c (F : Nat) (y20 : Int) (y21 : Int) (y22 : Int) (y23 : List Int) {β : Type} (kA : (Int × Int × (List Int)) → Option β) (kO : ((List Int)) → Option β) : Option β :=
  (Option.bind (inb y23.length (w64 ((y23.length : Int) - (1 : Int)))) fun x28 => (Option.bind (y23[x28]?) fun x29 => (bif (decide (x29 < y20)) then (Option.bind (T59 F y21 y22) fun z30 => (Option.bind (gapp y23 ([z30.1] : List Int)) fun x31 => (kA (z30.2.1, z30.2.2, x31)))) else (kO y23))))
def L39_2 (F : Nat) (y20 : Int) (y21 : Int) (y22 : Int) (y23 : List Int) : Option ((Int × Int × (List Int)) ⊕ ((List Int))) := L39_2c F y20 y21 y22 y23 (fun s => some (.inl s)) (fun z => some (.inr z))
theorem L39_2n (F : Nat) (y20 : Int) (y21 : Int) (y22 : Int) (y23 : List Int) {β : Type} (kA : (Int × Int × (List Int)) → Option β) (kO : ((List Int)) → Option β) : L39_2c F y20 y21 y22 y23 kA kO = (L39_2 F y20 y21 y22 y23).bind (elimS kA kO) := by
  simp only [L39_2, L39_2c, Option.bind_assoc, cond_bind, Option.bind_some, elimS_l, elimS_r, elimS_bind]
@[reducible] def sA39_2 : List Sh := [.i, (.fn 59 .un (.pr (.pt 0 []) (.pr (.pt 1 []) .un))), (.rw 2)]
@[reducible] def sA139_2 : List Sh := [(.rw 0)]
@[reducible] def sA239_2 : List Sh := []
@[reducible] def sT39_2 : List TSh := [.blk 3 .i, .blk 3 .i, .row 3 .i]
@[reducible] def sT139_2 : List TSh := [.row 3 .i]
@[reducible] def sT239_2 : List TSh := []
def lc39_2 (F : Nat) : Lc := mkL [1, 3, 4] sA39_2 sT39_2 [4] sA139_2 sT139_2 F (fun x y (s : Int × Int × (List Int)) => L39_2 F x.1 s.1 s.2.1 s.2.2) (fun x y => (y.1, y.2.1, y.2.2.1)) (fun x y (z : (List Int)) => (((), ()), (z, ())))
theorem le39_2 (F : Nat) (x : dens sA39_2) (y : tdens sT39_2) (s : Int × Int × (List Int)) : sev (E39 F) 0 [] (cAt (bodyOf Tryd.f39) (0 :: 0 :: [0, 1, 1, 1, 1])) (0 :: 0 :: [0, 1, 1, 1, 1]) (mkSt [1, 3, 4] sA39_2 sT39_2 (x.1, ((), ((), (), ())), (), ()) (s.1, s.2.1, s.2.2, ())) (kLoop 0 [1, 3, 4] sA39_2 sT39_2 [4] sA139_2 sT139_2 [] [] [] 0 (fun x y => some (.inl (x, y))) (fun x y => some (.inr (.inl (x, y)))) (fun x y => some (.inr (.inr (x, y))))) =
    L39_2c (β := Full sA39_2 sT39_2 sA139_2 sT139_2 [] []) F x.1 s.1 s.2.1 s.2.2 (fun s => some (.inl ((x.1, ((), ((), (), ())), (), ()), (s.1, s.2.1, s.2.2, ())))) (fun z => some (.inr (.inl (((), ()), (z, ()))))) := by kernel_rfl
theorem lo39_2 (F : Nat) : LcOk Tryd.prog (E39 F) 0 (lc39_2 F) (cAt (bodyOf Tryd.f39) [0, 1, 1, 1, 1]) :=
  mkL_ok (lp := []) (id := 0) (b := cAt (bodyOf Tryd.f39) (0 :: 0 :: [0, 1, 1, 1, 1])) cok (cts39 F) mixed trivial (by kernel_rfl) (by kernel_rfl) (fun x y s => (x.1, ((), ((), (), ())), (), ())) (fun x y s => (s.1, s.2.1, s.2.2, ())) (fun x y => rfl) (fun x y => rfl) (fun x y s kA kO => L39_2c F x.1 s.1 s.2.1 s.2.2 kA kO) (fun x y s kA kO => L39_2n F x.1 s.1 s.2.1 s.2.2 kA kO) (le39_2 F)
def T39c (F : Nat) {β : Type} (k : ((List Int)) → Option β) : Option β :=
  (Option.bind (T14 F (32768 : Int)) fun z17 => (Option.bind (T41 F) fun z18 => (Option.bind (T59 F z18.1 z18.2) fun z19 => (Option.bind (iter (fun s => L39_2 F z17.1 s.1 s.2.1 s.2.2) F (z19.2.1, z19.2.2, ([z19.1] : List Int))) fun z32 => (k z32)))))
def T39 (F : Nat) : Option ((List Int)) := T39c F some
theorem T39n (F : Nat) {β : Type} (k : ((List Int)) → Option β) : T39c F k = (T39 F).bind k := by
  simp only [T39, T39c, Option.bind_assoc, cond_bind, Option.bind_some, elimS_bind]
@[reducible] def cA39 : List Sh := []
@[reducible] def cB39 : List Sh := [(.rw 0)]
@[reducible] def cT39 : List TSh := []
@[reducible] def cU39 : List TSh := [.row 3 .i]
def ct39 (F : Nat) : Ct := mkC 0 cA39 cT39 cB39 cU39 (fun x y => T39 F) (fun x y (z : (List Int)) => (((), ()), (z, ())))
theorem eq39 (F : Nat) (x : dens cA39) (y : tdens cT39) : sev (E39 F) 0 [([0, 1, 1, 1, 1], lc39_2 F)] (bodyOf Tryd.f39) [] (mkSt (rng 0) cA39 cT39 x y) (kFn (E39 F) 0 Tryd.f39.results.toList cB39 cU39 fun p q => some (p, q)) =
    T39c F (fun z => some (((), ()), (z, ()))) := by kernel_rfl
theorem ok39 (F : Nat) : Sound Tryd.prog cfg 39 (ct39 F) :=
  mkC_ok (E := E39 F) (lp := [([0, 1, 1, 1, 1], lc39_2 F)]) (code := bodyOf Tryd.f39) Tryd.func39 rfl Tryd.ntmps39 rfl rfl cok (cts39 F) mixed ⟨lo39_2 F, trivial⟩ (by kernel_rfl) (fun x y k => T39c F k) (fun x y k => T39n F k) (eq39 F)
end Go.Proofs.YtjghgfohpihhfaaDoor
/- kinkeep/kinkeeplaw11.SealClasses: its twin, and that the call does what the twin says. Printed by a program. -/
namespace Go.Proofs.YtjghgfohpihhfaaDoor
open Go.Tw
set_option linter.unusedSimpArgs false
set_option linter.unusedVariables false
def ord13 : Nat → List (Tag × Nat)
  | 9 => [(.p, 0), (.p, 1), (.p, 2), (.p, 3), (.p, 4), (.p, 5), (.r, 6), (.p, 7), (.p, 8), (.p, 9), (.p, 10), (.r, 11), (.p, 12), (.p, 13), (.p, 14), (.p, 15), (.p, 16), (.p, 17), (.p, 18), (.p, 19), (.p, 20), (.r, 21), (.p, 22), (.p, 23), (.p, 24), (.p, 25), (.r, 26), (.p, 27), (.p, 28), (.p, 29), (.p, 30), (.p, 31), (.r, 32), (.p, 33), (.p, 34), (.p, 35), (.p, 36)]
  | _ => []
def al13 : Nat → Option Nat
  | _ => none
def E13 (F : Nat) : Ev := ⟨cfg, 120, ctOf [(39, ct39 F), (16, ct16 F), (14, ct14 F)], ord13, ctOf [], al13⟩
theorem cts13 (F : Nat) : CtsOk Tryd.prog (E13 F) := cts_of (l := [(39, ct39 F), (16, ct16 F), (14, ct14 F)]) (l' := []) rfl rfl ⟨⟨ok39 F, _, Tryd.func39, rfl, rfl⟩, ⟨⟨ok16 F, _, Tryd.func16, rfl, rfl⟩, ⟨⟨ok14 F, _, Tryd.func14, rfl, rfl⟩, trivial⟩⟩⟩ trivial
def L13_2c (F : Nat) (y71 : Int) (y75 : List Int) (y73 : Bool) (y74 : Int) {β : Type} (kA : (Bool × Int) → Option β) (kO : Bool → Option β) (kR : Bool → Option β) : Option β :=
  (bif (decide (y74 < (y75.length : Int))) then (bif (decide ((0 : Int) < y74)) then (Option.bind (inb y75.length y74) fun x100 => (Option.bind (y75[x100]?) fun x101 => (Option.bind (inb y75.length (w64 (y74 - (1 : Int)))) fun x102 => (Option.bind (y75[x102]?) fun x103 => (bif (decide (x101 ≤ x103)) then (kR false) else (bif (decide ((0 : Int) < y74)) then (Option.bind (inb y75.length y74) fun x104 => (Option.bind (y75[x104]?) fun x105 => (Option.bind (inb y75.length (w64 (y74 - (1 : Int)))) fun x106 => (Option.bind (y75[x106]?) fun x107 => (Option.bind (inb y75.length (w64 (y74 - (1 : Int)))) fun x108 => (Option.bind (y75[x108]?) fun x109 => (bif (decide ((w64 (Int.tdiv x109 (4 : Int))) < (w64 (x105 - x107)))) then (kR false) else (bif y73 then (kA (true, (w64 (y74 + (1 : Int))))) else (Option.bind (inb y75.length y74) fun x110 => (Option.bind (y75[x110]?) fun x111 => (kA ((x111 == y71), (w64 (y74 + (1 : Int))))))))))))))) else (bif y73 then (kA (true, (w64 (y74 + (1 : Int))))) else (Option.bind (inb y75.length y74) fun x112 => (Option.bind (y75[x112]?) fun x113 => (kA ((x113 == y71), (w64 (y74 + (1 : Int)))))))))))))) else (bif (decide ((0 : Int) < y74)) then (Option.bind (inb y75.length y74) fun x114 => (Option.bind (y75[x114]?) fun x115 => (Option.bind (inb y75.length (w64 (y74 - (1 : Int)))) fun x116 => (Option.bind (y75[x116]?) fun x117 => (Option.bind (inb y75.length (w64 (y74 - (1 : Int)))) fun x118 => (Option.bind (y75[x118]?) fun x119 => (bif (decide ((w64 (Int.tdiv x119 (4 : Int))) < (w64 (x115 - x117)))) then (kR false) else (bif y73 then (kA (true, (w64 (y74 + (1 : Int))))) else (Option.bind (inb y75.length y74) fun x120 => (Option.bind (y75[x120]?) fun x121 => (kA ((x121 == y71), (w64 (y74 + (1 : Int))))))))))))))) else (bif y73 then (kA (true, (w64 (y74 + (1 : Int))))) else (Option.bind (inb y75.length y74) fun x122 => (Option.bind (y75[x122]?) fun x123 => (kA ((x123 == y71), (w64 (y74 + (1 : Int)))))))))) else (kO y73))
def L13_2 (F : Nat) (y71 : Int) (y75 : List Int) (y73 : Bool) (y74 : Int) : Option ((Bool × Int) ⊕ ((Bool) ⊕ (Bool))) := L13_2c F y71 y75 y73 y74 (fun s => some (.inl s)) (fun z => some (.inr (.inl z))) (fun z => some (.inr (.inr z)))
theorem L13_2n (F : Nat) (y71 : Int) (y75 : List Int) (y73 : Bool) (y74 : Int) {β : Type} (kA : (Bool × Int) → Option β) (kO : Bool → Option β) (kR : Bool → Option β) : L13_2c F y71 y75 y73 y74 kA kO kR = (L13_2 F y71 y75 y73 y74).bind (elimS kA (elimS kO kR)) := by
  simp only [L13_2, L13_2c, Option.bind_assoc, cond_bind, Option.bind_some, elimS_l, elimS_r, elimS_bind]
@[reducible] def sA13_2 : List Sh := [.i, (.rw 0), .i, .i, .bo, .i]
@[reducible] def sA113_2 : List Sh := [.i, .i, .i, .bo]
@[reducible] def sA213_2 : List Sh := [.bo]
@[reducible] def sT13_2 : List TSh := [.row 3 .i]
@[reducible] def sT113_2 : List TSh := []
@[reducible] def sT213_2 : List TSh := []
def lc13_2 (F : Nat) : Lc := mkR [0, 3, 4, 5, 6, 7] sA13_2 sT13_2 [0, 4, 5, 6] sA113_2 sT113_2 [2] sA213_2 sT213_2 F (fun x y (s : Bool × Int) => L13_2 F x.2.2.1 y.1 s.1 s.2) (fun x y => (x.2.2.2.2.1, x.2.2.2.2.2.1)) (fun x y (z : Bool) => ((x.1, x.2.2.1, x.2.2.2.1, z, ()), ())) (fun x y (z : Bool) => ((z, ()), ()))
theorem le13_2 (F : Nat) (x : dens sA13_2) (y : tdens sT13_2) (s : Bool × Int) : sev (E13 F) 0 [] (cAt (bodyOf Tryd.f13) (0 :: 0 :: [1, 0, 1, 1, 1, 1, 1])) (0 :: 0 :: [1, 0, 1, 1, 1, 1, 1]) (mkSt [0, 3, 4, 5, 6, 7] sA13_2 sT13_2 (x.1, (), x.2.2.1, x.2.2.2.1, s.1, s.2, ()) (y.1, ())) (kLoop 0 [0, 3, 4, 5, 6, 7] sA13_2 sT13_2 [0, 4, 5, 6] sA113_2 sT113_2 [2] sA213_2 sT213_2 0 (fun x y => some (.inl (x, y))) (fun x y => some (.inr (.inl (x, y)))) (fun x y => some (.inr (.inr (x, y))))) =
    L13_2c (β := Full sA13_2 sT13_2 sA113_2 sT113_2 sA213_2 sT213_2) F x.2.2.1 y.1 s.1 s.2 (fun s => some (.inl ((x.1, (), x.2.2.1, x.2.2.2.1, s.1, s.2, ()), (y.1, ())))) (fun z => some (.inr (.inl ((x.1, x.2.2.1, x.2.2.2.1, z, ()), ())))) (fun z => some (.inr (.inr ((z, ()), ())))) := by kernel_rfl
theorem lo13_2 (F : Nat) : LcOk Tryd.prog (E13 F) 0 (lc13_2 F) (cAt (bodyOf Tryd.f13) [1, 0, 1, 1, 1, 1, 1]) :=
  mkR_ok (lp := []) (id := 0) (b := cAt (bodyOf Tryd.f13) (0 :: 0 :: [1, 0, 1, 1, 1, 1, 1])) cok (cts13 F) mixed trivial (by kernel_rfl) (by kernel_rfl) (fun x y s => (x.1, (), x.2.2.1, x.2.2.2.1, s.1, s.2, ())) (fun x y s => (y.1, ())) (fun x y => rfl) (fun x y => rfl) (fun x y s kA kO kR => L13_2c F x.2.2.1 y.1 s.1 s.2 kA kO kR) (fun x y s kA kO kR => L13_2n F x.2.2.1 y.1 s.1 s.2 kA kO kR) (le13_2 F)
def T13c (F : Nat) (p0 : Int) {β : Type} (k : Bool → Option β) : Option β :=
  (Option.bind (T39 F) fun z63 => (Option.bind (T16 F) fun z64 => (bif (!z64) then (k false) else (bif ((z63.length : Int) == (0 : Int)) then (k false) else (Option.bind (inb z63.length (0 : Int)) fun x65 => (Option.bind (z63[x65]?) fun x66 => (bif (x66 != (64 : Int)) then (k false) else (Option.bind (inb z63.length (w64 ((z63.length : Int) - (1 : Int)))) fun x67 => (Option.bind (z63[x67]?) fun x68 => (bif (x68 != (40960 : Int)) then (k false) else (Option.bind (T14 F p0) fun z69 => (Option.bind (iter (fun s => L13_2 F z69.1 z63 s.1 s.2) F (false, (0 : Int))) fun z124 => elimS (fun z124 => (bif (z69.2 != (0 : Int)) then (bif (z69.1 == (0 : Int)) then (bif (decide (p0 < (0 : Int))) then (k true) else (k (decide ((32768 : Int) < p0)))) else (k false)) else (bif z124 then (bif (decide ((w64 (p0 + (17 : Int))) ≤ z69.1)) then (bif (z69.1 == (64 : Int)) then (k true) else (k (decide ((w64 (z69.1 - (w64 (Int.tdiv z69.1 (4 : Int))))) < (w64 (p0 + (19 : Int))))))) else (k false)) else (k false)))) (fun z124 => (k z124)) z124))))))))))))
def T13 (F : Nat) (p0 : Int) : Option (Bool) := T13c F p0 some
theorem T13n (F : Nat) (p0 : Int) {β : Type} (k : Bool → Option β) : T13c F p0 k = (T13 F p0).bind k := by
  simp only [T13, T13c, Option.bind_assoc, cond_bind, Option.bind_some, elimS_bind]
@[reducible] def cA13 : List Sh := [.i]
@[reducible] def cB13 : List Sh := [.bo]
@[reducible] def cT13 : List TSh := []
@[reducible] def cU13 : List TSh := []
def ct13 (F : Nat) : Ct := mkC 0 cA13 cT13 cB13 cU13 (fun x y => T13 F x.1) (fun x y (z : Bool) => ((z, ()), ()))
theorem eq13 (F : Nat) (x : dens cA13) (y : tdens cT13) : sev (E13 F) 0 [([1, 0, 1, 1, 1, 1, 1], lc13_2 F)] (bodyOf Tryd.f13) [] (mkSt (rng 1) cA13 cT13 x y) (kFn (E13 F) 0 Tryd.f13.results.toList cB13 cU13 fun p q => some (p, q)) =
    T13c F x.1 (fun z => some ((z, ()), ())) := by kernel_rfl
theorem ok13 (F : Nat) : Sound Tryd.prog cfg 13 (ct13 F) :=
  mkC_ok (E := E13 F) (lp := [([1, 0, 1, 1, 1, 1, 1], lc13_2 F)]) (code := bodyOf Tryd.f13) Tryd.func13 rfl Tryd.ntmps13 rfl rfl cok (cts13 F) mixed ⟨lo13_2 F, trivial⟩ (by kernel_rfl) (fun x y k => T13c F x.1 k) (fun x y k => T13n F x.1 k) (eq13 F)
end Go.Proofs.YtjghgfohpihhfaaDoor
/- kinkeep/kinkeeplaw11.SealClass: its twin, and that the call does what the twin says. Printed by a program. -/
namespace Go.Proofs.YtjghgfohpihhfaaDoor
open Go.Tw
set_option linter.unusedSimpArgs false
set_option linter.unusedVariables false
def ord3 : Nat → List (Tag × Nat)
  | _ => []
def al3 : Nat → Option Nat
  | _ => none
def E3 (F : Nat) : Ev := ⟨cfg, 28, ctOf [(14, ct14 F), (15, ct15 F), (16, ct16 F)], ord3, ctOf [], al3⟩
theorem cts3 (F : Nat) : CtsOk Tryd.prog (E3 F) := cts_of (l := [(14, ct14 F), (15, ct15 F), (16, ct16 F)]) (l' := []) rfl rfl ⟨⟨ok14 F, _, Tryd.func14, rfl, rfl⟩, ⟨⟨ok15 F, _, Tryd.func15, rfl, rfl⟩, ⟨⟨ok16 F, _, Tryd.func16, rfl, rfl⟩, trivial⟩⟩⟩ trivial
def T3c (F : Nat) (p0 : Int) {β : Type} (k : Bool → Option β) : Option β :=
  (Option.bind (T14 F p0) fun z4 => (Option.bind (T15 F p0) fun z5 => (Option.bind (T16 F) fun z6 => (bif z6 then (bif (z4.1 == z5.1) then (k (z4.2 == z5.2)) else (k false)) else (k false)))))
def T3 (F : Nat) (p0 : Int) : Option (Bool) := T3c F p0 some
theorem T3n (F : Nat) (p0 : Int) {β : Type} (k : Bool → Option β) : T3c F p0 k = (T3 F p0).bind k := by
  simp only [T3, T3c, Option.bind_assoc, cond_bind, Option.bind_some, elimS_bind]
@[reducible] def cA3 : List Sh := [.i]
@[reducible] def cB3 : List Sh := [.bo]
@[reducible] def cT3 : List TSh := []
@[reducible] def cU3 : List TSh := []
def ct3 (F : Nat) : Ct := mkC 0 cA3 cT3 cB3 cU3 (fun x y => T3 F x.1) (fun x y (z : Bool) => ((z, ()), ()))
theorem eq3 (F : Nat) (x : dens cA3) (y : tdens cT3) : sev (E3 F) 0 [] (bodyOf Tryd.f3) [] (mkSt (rng 1) cA3 cT3 x y) (kFn (E3 F) 0 Tryd.f3.results.toList cB3 cU3 fun p q => some (p, q)) =
    T3c F x.1 (fun z => some ((z, ()), ())) := by kernel_rfl
theorem ok3 (F : Nat) : Sound Tryd.prog cfg 3 (ct3 F) :=
  mkC_ok (E := E3 F) (lp := []) (code := bodyOf Tryd.f3) Tryd.func3 rfl Tryd.ntmps3 rfl rfl cok (cts3 F) mixed trivial (by kernel_rfl) (fun x y k => T3c F x.1 k) (fun x y k => T3n F x.1 k) (eq3 F)
end Go.Proofs.YtjghgfohpihhfaaDoor
/- kinkeep/kinkeepref01.number: its twin, and that the call does what the twin says. Printed by a program. -/
namespace Go.Proofs.YtjghgfohpihhfaaDoor
open Go.Tw
set_option linter.unusedSimpArgs false
set_option linter.unusedVariables false
def ord77 : Nat → List (Tag × Nat)
  | 16 => [(.p, 0), (.p, 1), (.p, 2), (.r, 3), (.p, 4), (.p, 5), (.p, 6), (.p, 7), (.p, 8), (.r, 9), (.p, 10)]
  | _ => []
def al77 : Nat → Option Nat
  | _ => none
def E77 (F : Nat) : Ev := ⟨cfg, 75, ctOf [(45, ct45 F)], ord77, ctOf [], al77⟩
theorem cts77 (F : Nat) : CtsOk Tryd.prog (E77 F) := cts_of (l := [(45, ct45 F)]) (l' := []) rfl rfl ⟨⟨ok45 F, _, Tryd.func45, rfl, rfl⟩, trivial⟩ trivial
def L77_5c (F : Nat) (y40 : List UInt8) (y41 : Int) (y43 : UInt64) (y44 : Int) {β : Type} (kA : (UInt64 × Int) → Option β) (kO : UInt64 → Option β) : Option β :=
  (bif (decide ((0 : Int) ≤ y44)) then (Option.bind (ix y40 (w64 (y41 + y44))) fun x46 => (kA (((y43 * (UInt64.ofNat 128)) + ((x46 % (UInt8.ofNat 128)).toUInt64)), (w64 (y44 - (1 : Int)))))) else (kO y43))
def L77_5 (F : Nat) (y40 : List UInt8) (y41 : Int) (y43 : UInt64) (y44 : Int) : Option ((UInt64 × Int) ⊕ (UInt64)) := L77_5c F y40 y41 y43 y44 (fun s => some (.inl s)) (fun z => some (.inr z))
theorem L77_5n (F : Nat) (y40 : List UInt8) (y41 : Int) (y43 : UInt64) (y44 : Int) {β : Type} (kA : (UInt64 × Int) → Option β) (kO : UInt64 → Option β) : L77_5c F y40 y41 y43 y44 kA kO = (L77_5 F y40 y41 y43 y44).bind (elimS kA kO) := by
  simp only [L77_5, L77_5c, Option.bind_assoc, cond_bind, Option.bind_some, elimS_l, elimS_r, elimS_bind]
@[reducible] def sA77_5 : List Sh := [(.ro .u8), .i, .i, .u64, .i]
@[reducible] def sA177_5 : List Sh := [(.ro .u8), .i, .i, .u64]
@[reducible] def sA277_5 : List Sh := []
@[reducible] def sT77_5 : List TSh := []
@[reducible] def sT177_5 : List TSh := []
@[reducible] def sT277_5 : List TSh := []
def lc77_5 (F : Nat) : Lc := mkL [0, 1, 7, 8, 9] sA77_5 sT77_5 [0, 1, 7, 8] sA177_5 sT177_5 F (fun x y (s : UInt64 × Int) => L77_5 F x.1 x.2.1 s.1 s.2) (fun x y => (x.2.2.2.1, x.2.2.2.2.1)) (fun x y (z : UInt64) => ((x.1, x.2.1, x.2.2.1, z, ()), ()))
theorem le77_5 (F : Nat) (x : dens sA77_5) (y : tdens sT77_5) (s : UInt64 × Int) : sev (E77 F) 0 [] (cAt (bodyOf Tryd.f77) (0 :: 0 :: [1, 0, 1, 1, 0, 0, 1, 0, 0, 1, 0, 1])) (0 :: 0 :: [1, 0, 1, 1, 0, 0, 1, 0, 0, 1, 0, 1]) (mkSt [0, 1, 7, 8, 9] sA77_5 sT77_5 (x.1, x.2.1, x.2.2.1, s.1, s.2, ()) ()) (kLoop 0 [0, 1, 7, 8, 9] sA77_5 sT77_5 [0, 1, 7, 8] sA177_5 sT177_5 [] [] [] 2 (fun x y => some (.inl (x, y))) (fun x y => some (.inr (.inl (x, y)))) (fun x y => some (.inr (.inr (x, y))))) =
    L77_5c (β := Full sA77_5 sT77_5 sA177_5 sT177_5 [] []) F x.1 x.2.1 s.1 s.2 (fun s => some (.inl ((x.1, x.2.1, x.2.2.1, s.1, s.2, ()), ()))) (fun z => some (.inr (.inl ((x.1, x.2.1, x.2.2.1, z, ()), ())))) := by kernel_rfl
theorem lo77_5 (F : Nat) : LcOk Tryd.prog (E77 F) 0 (lc77_5 F) (cAt (bodyOf Tryd.f77) [1, 0, 1, 1, 0, 0, 1, 0, 0, 1, 0, 1]) :=
  mkL_ok (lp := []) (id := 2) (b := cAt (bodyOf Tryd.f77) (0 :: 0 :: [1, 0, 1, 1, 0, 0, 1, 0, 0, 1, 0, 1])) cok (cts77 F) mixed trivial (by kernel_rfl) (by kernel_rfl) (fun x y s => (x.1, x.2.1, x.2.2.1, s.1, s.2, ())) (fun x y s => ()) (fun x y => rfl) (fun x y => rfl) (fun x y s kA kO => L77_5c F x.1 x.2.1 s.1 s.2 kA kO) (fun x y s kA kO => L77_5n F x.1 x.2.1 s.1 s.2 kA kO) (le77_5 F)
def L77_6c (F : Nat) (y49 : List UInt8) (y50 : Int) (y51 : Int) (y54 : List UInt8) (y53 : Int) {β : Type} (kA : Int → Option β) (kO : Unit → Option β) (kR : (UInt64 × Int × Bool) → Option β) : Option β :=
  (bif (decide (y53 < y51)) then (Option.bind (inb y54.length y53) fun x58 => (Option.bind (y54[x58]?) fun x59 => (Option.bind (ix y49 (w64 (y50 + y53))) fun x60 => (bif (x59 != x60) then (kR ((UInt64.ofNat 0), (0 : Int), false)) else (kA (w64 (y53 + (1 : Int)))))))) else (kO ()))
def L77_6 (F : Nat) (y49 : List UInt8) (y50 : Int) (y51 : Int) (y54 : List UInt8) (y53 : Int) : Option ((Int) ⊕ ((Unit) ⊕ (UInt64 × Int × Bool))) := L77_6c F y49 y50 y51 y54 y53 (fun s => some (.inl s)) (fun z => some (.inr (.inl z))) (fun z => some (.inr (.inr z)))
theorem L77_6n (F : Nat) (y49 : List UInt8) (y50 : Int) (y51 : Int) (y54 : List UInt8) (y53 : Int) {β : Type} (kA : Int → Option β) (kO : Unit → Option β) (kR : (UInt64 × Int × Bool) → Option β) : L77_6c F y49 y50 y51 y54 y53 kA kO kR = (L77_6 F y49 y50 y51 y54 y53).bind (elimS kA (elimS kO kR)) := by
  simp only [L77_6, L77_6c, Option.bind_assoc, cond_bind, Option.bind_some, elimS_l, elimS_r, elimS_bind]
@[reducible] def sA77_6 : List Sh := [(.ro .u8), .i, .i, .u64, (.rw 0), .i]
@[reducible] def sA177_6 : List Sh := [.i, .i, .u64]
@[reducible] def sA277_6 : List Sh := [.u64, .i, .bo]
@[reducible] def sT77_6 : List TSh := [.row 5 .u8]
@[reducible] def sT177_6 : List TSh := []
@[reducible] def sT277_6 : List TSh := []
def lc77_6 (F : Nat) : Lc := mkR [0, 1, 7, 8, 10, 11] sA77_6 sT77_6 [1, 7, 8] sA177_6 sT177_6 [4, 5, 6] sA277_6 sT277_6 F (fun x y (s : Int) => L77_6 F x.1 x.2.1 x.2.2.1 y.1 s) (fun x y => x.2.2.2.2.2.1) (fun x y (z : Unit) => ((x.2.1, x.2.2.1, x.2.2.2.1, ()), ())) (fun x y (z : UInt64 × Int × Bool) => ((z.1, z.2.1, z.2.2, ()), ()))
theorem le77_6 (F : Nat) (x : dens sA77_6) (y : tdens sT77_6) (s : Int) : sev (E77 F) 0 [] (cAt (bodyOf Tryd.f77) (0 :: 0 :: [1, 0, 1, 1, 1, 1, 1, 0, 0, 1, 0, 0, 1, 0, 1])) (0 :: 0 :: [1, 0, 1, 1, 1, 1, 1, 0, 0, 1, 0, 0, 1, 0, 1]) (mkSt [0, 1, 7, 8, 10, 11] sA77_6 sT77_6 (x.1, x.2.1, x.2.2.1, x.2.2.2.1, (), s, ()) (y.1, ())) (kLoop 0 [0, 1, 7, 8, 10, 11] sA77_6 sT77_6 [1, 7, 8] sA177_6 sT177_6 [4, 5, 6] sA277_6 sT277_6 4 (fun x y => some (.inl (x, y))) (fun x y => some (.inr (.inl (x, y)))) (fun x y => some (.inr (.inr (x, y))))) =
    L77_6c (β := Full sA77_6 sT77_6 sA177_6 sT177_6 sA277_6 sT277_6) F x.1 x.2.1 x.2.2.1 y.1 s (fun s => some (.inl ((x.1, x.2.1, x.2.2.1, x.2.2.2.1, (), s, ()), (y.1, ())))) (fun z => some (.inr (.inl ((x.2.1, x.2.2.1, x.2.2.2.1, ()), ())))) (fun z => some (.inr (.inr ((z.1, z.2.1, z.2.2, ()), ())))) := by kernel_rfl
theorem lo77_6 (F : Nat) : LcOk Tryd.prog (E77 F) 0 (lc77_6 F) (cAt (bodyOf Tryd.f77) [1, 0, 1, 1, 1, 1, 1, 0, 0, 1, 0, 0, 1, 0, 1]) :=
  mkR_ok (lp := []) (id := 4) (b := cAt (bodyOf Tryd.f77) (0 :: 0 :: [1, 0, 1, 1, 1, 1, 1, 0, 0, 1, 0, 0, 1, 0, 1])) cok (cts77 F) mixed trivial (by kernel_rfl) (by kernel_rfl) (fun x y s => (x.1, x.2.1, x.2.2.1, x.2.2.2.1, (), s, ())) (fun x y s => (y.1, ())) (fun x y => rfl) (fun x y => rfl) (fun x y s kA kO kR => L77_6c F x.1 x.2.1 x.2.2.1 y.1 s kA kO kR) (fun x y s kA kO kR => L77_6n F x.1 x.2.1 x.2.2.1 y.1 s kA kO kR) (le77_6 F)
def L77_4c (F : Nat) (y32 : List UInt8) (y33 : Int) (y34 : Int) {β : Type} (kA : Int → Option β) (kO : Unit → Option β) (kR : (UInt64 × Int × Bool) → Option β) : Option β :=
  (bif (decide (y34 ≤ (10 : Int))) then (bif (decide ((w64 (y33 + y34)) ≤ (y32.length : Int))) then (Option.bind (ix y32 (w64 ((w64 (y33 + y34)) - (1 : Int)))) fun x39 => (bif (decide ((UInt8.ofNat 128) ≤ x39)) then (kA (w64 (y34 + (1 : Int)))) else (Option.bind (iter (fun s => L77_5 F y32 y33 s.1 s.2) F ((UInt64.ofNat 0), (w64 (y34 - (1 : Int))))) fun z47 => (Option.bind (T45 F z47) fun z48 => (bif ((z48.length : Int) != y34) then (kR ((UInt64.ofNat 0), (0 : Int), false)) else (Option.bind (iter (fun s => L77_6 F y32 y33 y34 z48 s) F (0 : Int)) fun z61 => elimS (fun z61 => (kR (z47, (w64 (y33 + y34)), true))) (fun z61 => (kR (z61.1, z61.2.1, z61.2.2))) z61)))))) else (kO ())) else (kO ()))
def L77_4 (F : Nat) (y32 : List UInt8) (y33 : Int) (y34 : Int) : Option ((Int) ⊕ ((Unit) ⊕ (UInt64 × Int × Bool))) := L77_4c F y32 y33 y34 (fun s => some (.inl s)) (fun z => some (.inr (.inl z))) (fun z => some (.inr (.inr z)))
theorem L77_4n (F : Nat) (y32 : List UInt8) (y33 : Int) (y34 : Int) {β : Type} (kA : Int → Option β) (kO : Unit → Option β) (kR : (UInt64 × Int × Bool) → Option β) : L77_4c F y32 y33 y34 kA kO kR = (L77_4 F y32 y33 y34).bind (elimS kA (elimS kO kR)) := by
  simp only [L77_4, L77_4c, Option.bind_assoc, cond_bind, Option.bind_some, elimS_l, elimS_r, elimS_bind]
@[reducible] def sA77_4 : List Sh := [(.ro .u8), .i, .i]
@[reducible] def sA177_4 : List Sh := []
@[reducible] def sA277_4 : List Sh := [.u64, .i, .bo]
@[reducible] def sT77_4 : List TSh := []
@[reducible] def sT177_4 : List TSh := []
@[reducible] def sT277_4 : List TSh := []
def lc77_4 (F : Nat) : Lc := mkR [0, 1, 7] sA77_4 sT77_4 [] sA177_4 sT177_4 [4, 5, 6] sA277_4 sT277_4 F (fun x y (s : Int) => L77_4 F x.1 x.2.1 s) (fun x y => x.2.2.1) (fun x y (z : Unit) => ((), ())) (fun x y (z : UInt64 × Int × Bool) => ((z.1, z.2.1, z.2.2, ()), ()))
theorem le77_4 (F : Nat) (x : dens sA77_4) (y : tdens sT77_4) (s : Int) : sev (E77 F) 0 [([1, 0, 1, 1, 0, 0, 1, 0, 0, 1, 0, 1], lc77_5 F), ([1, 0, 1, 1, 1, 1, 1, 0, 0, 1, 0, 0, 1, 0, 1], lc77_6 F)] (cAt (bodyOf Tryd.f77) (0 :: 0 :: [1, 0, 1])) (0 :: 0 :: [1, 0, 1]) (mkSt [0, 1, 7] sA77_4 sT77_4 (x.1, x.2.1, s, ()) ()) (kLoop 0 [0, 1, 7] sA77_4 sT77_4 [] sA177_4 sT177_4 [4, 5, 6] sA277_4 sT277_4 0 (fun x y => some (.inl (x, y))) (fun x y => some (.inr (.inl (x, y)))) (fun x y => some (.inr (.inr (x, y))))) =
    L77_4c (β := Full sA77_4 sT77_4 sA177_4 sT177_4 sA277_4 sT277_4) F x.1 x.2.1 s (fun s => some (.inl ((x.1, x.2.1, s, ()), ()))) (fun z => some (.inr (.inl ((), ())))) (fun z => some (.inr (.inr ((z.1, z.2.1, z.2.2, ()), ())))) := by kernel_rfl
theorem lo77_4 (F : Nat) : LcOk Tryd.prog (E77 F) 0 (lc77_4 F) (cAt (bodyOf Tryd.f77) [1, 0, 1]) :=
  mkR_ok (lp := [([1, 0, 1, 1, 0, 0, 1, 0, 0, 1, 0, 1], lc77_5 F), ([1, 0, 1, 1, 1, 1, 1, 0, 0, 1, 0, 0, 1, 0, 1], lc77_6 F)]) (id := 0) (b := cAt (bodyOf Tryd.f77) (0 :: 0 :: [1, 0, 1])) cok (cts77 F) mixed ⟨lo77_5 F, ⟨lo77_6 F, trivial⟩⟩ (by kernel_rfl) (by kernel_rfl) (fun x y s => (x.1, x.2.1, s, ())) (fun x y s => ()) (fun x y => rfl) (fun x y => rfl) (fun x y s kA kO kR => L77_4c F x.1 x.2.1 s kA kO kR) (fun x y s kA kO kR => L77_4n F x.1 x.2.1 s kA kO kR) (le77_4 F)
def T77c (F : Nat) (p0 : List UInt8) (p1 : Int) {β : Type} (k : (UInt64 × Int × Bool) → Option β) : Option β :=
  (Option.bind (iter (fun s => L77_4 F p0 p1 s) F (1 : Int)) fun z62 => elimS (fun z62 => (k ((UInt64.ofNat 0), (0 : Int), false))) (fun z62 => (k (z62.1, z62.2.1, z62.2.2))) z62)
def T77 (F : Nat) (p0 : List UInt8) (p1 : Int) : Option (UInt64 × Int × Bool) := T77c F p0 p1 some
theorem T77n (F : Nat) (p0 : List UInt8) (p1 : Int) {β : Type} (k : (UInt64 × Int × Bool) → Option β) : T77c F p0 p1 k = (T77 F p0 p1).bind k := by
  simp only [T77, T77c, Option.bind_assoc, cond_bind, Option.bind_some, elimS_bind]
@[reducible] def cA77 : List Sh := [(.ro .u8), .i]
@[reducible] def cB77 : List Sh := [.u64, .i, .bo]
@[reducible] def cT77 : List TSh := []
@[reducible] def cU77 : List TSh := []
def ct77 (F : Nat) : Ct := mkC 0 cA77 cT77 cB77 cU77 (fun x y => T77 F x.1 x.2.1) (fun x y (z : UInt64 × Int × Bool) => ((z.1, z.2.1, z.2.2, ()), ()))
theorem eq77 (F : Nat) (x : dens cA77) (y : tdens cT77) : sev (E77 F) 0 [([1, 0, 1], lc77_4 F)] (bodyOf Tryd.f77) [] (mkSt (rng 2) cA77 cT77 x y) (kFn (E77 F) 0 Tryd.f77.results.toList cB77 cU77 fun p q => some (p, q)) =
    T77c F x.1 x.2.1 (fun z => some ((z.1, z.2.1, z.2.2, ()), ())) := by kernel_rfl
theorem ok77 (F : Nat) : Sound Tryd.prog cfg 77 (ct77 F) :=
  mkC_ok (E := E77 F) (lp := [([1, 0, 1], lc77_4 F)]) (code := bodyOf Tryd.f77) Tryd.func77 rfl Tryd.ntmps77 rfl rfl cok (cts77 F) mixed ⟨lo77_4 F, trivial⟩ (by kernel_rfl) (fun x y k => T77c F x.1 x.2.1 k) (fun x y k => T77n F x.1 x.2.1 k) (eq77 F)
end Go.Proofs.YtjghgfohpihhfaaDoor
/- kinkeep/kinkeepref01.Unzigzag: its twin, and that the call does what the twin says. Printed by a program. -/
namespace Go.Proofs.YtjghgfohpihhfaaDoor
open Go.Tw
set_option linter.unusedSimpArgs false
set_option linter.unusedVariables false
def ord78 : Nat → List (Tag × Nat)
  | _ => []
def al78 : Nat → Option Nat
  | _ => none
def E78 (F : Nat) : Ev := ⟨cfg, 14, ctOf [], ord78, ctOf [], al78⟩
theorem cts78 (F : Nat) : CtsOk Tryd.prog (E78 F) := cts_of (l := []) (l' := []) rfl rfl trivial trivial
def T78c (F : Nat) (p0 : UInt64) {β : Type} (k : Int → Option β) : Option β :=
  (bif ((p0 % (UInt64.ofNat 2)) == (UInt64.ofNat 0)) then (k (w64 ((p0 / (UInt64.ofNat 2)).toNat : Int))) else (k (w64 ((w64 (0 - (w64 ((p0 / (UInt64.ofNat 2)).toNat : Int)))) - (1 : Int)))))
def T78 (F : Nat) (p0 : UInt64) : Option (Int) := T78c F p0 some
theorem T78n (F : Nat) (p0 : UInt64) {β : Type} (k : Int → Option β) : T78c F p0 k = (T78 F p0).bind k := by
  simp only [T78, T78c, Option.bind_assoc, cond_bind, Option.bind_some, elimS_bind]
@[reducible] def cA78 : List Sh := [.u64]
@[reducible] def cB78 : List Sh := [.i]
@[reducible] def cT78 : List TSh := []
@[reducible] def cU78 : List TSh := []
def ct78 (F : Nat) : Ct := mkC 0 cA78 cT78 cB78 cU78 (fun x y => T78 F x.1) (fun x y (z : Int) => ((z, ()), ()))
theorem eq78 (F : Nat) (x : dens cA78) (y : tdens cT78) : sev (E78 F) 0 [] (bodyOf Tryd.f78) [] (mkSt (rng 1) cA78 cT78 x y) (kFn (E78 F) 0 Tryd.f78.results.toList cB78 cU78 fun p q => some (p, q)) =
    T78c F x.1 (fun z => some ((z, ()), ())) := by kernel_rfl
theorem ok78 (F : Nat) : Sound Tryd.prog cfg 78 (ct78 F) :=
  mkC_ok (E := E78 F) (lp := []) (code := bodyOf Tryd.f78) Tryd.func78 rfl Tryd.ntmps78 rfl rfl cok (cts78 F) mixed trivial (by kernel_rfl) (fun x y k => T78c F x.1 k) (fun x y k => T78n F x.1 k) (eq78 F)
end Go.Proofs.YtjghgfohpihhfaaDoor
/- kinkeep/kinkeepref01.read: its twin, and that the call does what the twin says. Printed by a program. -/
namespace Go.Proofs.YtjghgfohpihhfaaDoor
open Go.Tw
set_option linter.unusedSimpArgs false
set_option linter.unusedVariables false
def ord64 : Nat → List (Tag × Nat)
  | _ => []
def al64 : Nat → Option Nat
  | _ => none
def E64 (F : Nat) : Ev := ⟨cfg, 123, ctOf [(77, ct77 F), (78, ct78 F)], ord64, ctOf [], al64⟩
theorem cts64 (F : Nat) : CtsOk Tryd.prog (E64 F) := cts_of (l := [(77, ct77 F), (78, ct78 F)]) (l' := []) rfl rfl ⟨⟨ok77 F, _, Tryd.func77, rfl, rfl⟩, ⟨⟨ok78 F, _, Tryd.func78, rfl, rfl⟩, trivial⟩⟩ trivial
def T64c (F : Nat) (p0 : List UInt8) (p1 : Int) (p2 : Int) (p3 : Int) {β : Type} (k : (UInt64 × Int × Bool × (List UInt8) × Int × Int) → Option β) : Option β :=
  (bif (p2 == (6 : Int)) then (bif (decide ((w64 ((p0.length : Int) - p1)) < (32 : Int))) then (k ((0 : UInt64), (0 : Int), false, ([] : List UInt8), p1, (3 : Int))) else (Option.bind (gsl p0 p1 (w64 (p1 + (32 : Int)))) fun x7 => (k ((0 : UInt64), (0 : Int), false, x7, (w64 (p1 + (32 : Int))), (0 : Int))))) else (bif (p2 == (3 : Int)) then (bif (decide ((p0.length : Int) ≤ p1)) then (k ((0 : UInt64), (0 : Int), false, ([] : List UInt8), p1, (3 : Int))) else (Option.bind (ix p0 p1) fun x8 => (bif (decide ((UInt8.ofNat 1) < x8)) then (k ((0 : UInt64), (0 : Int), false, ([] : List UInt8), p1, (3 : Int))) else (Option.bind (ix p0 p1) fun x9 => (k ((0 : UInt64), (0 : Int), (x9 == (UInt8.ofNat 1)), ([] : List UInt8), (w64 (p1 + (1 : Int))), (0 : Int))))))) else (Option.bind (T77 F p0 p1) fun z10 => (bif (!z10.2.2) then (k ((0 : UInt64), (0 : Int), false, ([] : List UInt8), p1, (3 : Int))) else (bif (p2 == (1 : Int)) then (k (z10.1, (0 : Int), false, ([] : List UInt8), z10.2.1, (0 : Int))) else (bif (p2 == (2 : Int)) then (Option.bind (T78 F z10.1) fun z11 => (k ((0 : UInt64), z11, false, ([] : List UInt8), z10.2.1, (0 : Int)))) else (bif (decide ((UInt64.ofInt (if p3 < (0 : Int) then (0 : Int) else p3)) < z10.1)) then (k ((0 : UInt64), (0 : Int), false, ([] : List UInt8), p1, (2 : Int))) else (bif (p2 == (7 : Int)) then (k ((0 : UInt64), (w64 (z10.1.toNat : Int)), false, ([] : List UInt8), z10.2.1, (0 : Int))) else (bif (decide ((UInt64.ofInt (w64 ((p0.length : Int) - z10.2.1))) < z10.1)) then (k ((0 : UInt64), (0 : Int), false, ([] : List UInt8), p1, (3 : Int))) else (Option.bind (gsl p0 z10.2.1 (w64 (z10.2.1 + (w64 (z10.1.toNat : Int))))) fun x12 => (k ((0 : UInt64), (0 : Int), false, x12, (w64 (z10.2.1 + (w64 (z10.1.toNat : Int)))), (0 : Int)))))))))))))
def T64 (F : Nat) (p0 : List UInt8) (p1 : Int) (p2 : Int) (p3 : Int) : Option (UInt64 × Int × Bool × (List UInt8) × Int × Int) := T64c F p0 p1 p2 p3 some
theorem T64n (F : Nat) (p0 : List UInt8) (p1 : Int) (p2 : Int) (p3 : Int) {β : Type} (k : (UInt64 × Int × Bool × (List UInt8) × Int × Int) → Option β) : T64c F p0 p1 p2 p3 k = (T64 F p0 p1 p2 p3).bind k := by
  simp only [T64, T64c, Option.bind_assoc, cond_bind, Option.bind_some, elimS_bind]
@[reducible] def cA64 : List Sh := [(.ro .u8), .i, .i, .i]
@[reducible] def cB64 : List Sh := [(.pr .i (.pr .u64 (.pr .i (.pr .bo (.pr .str (.pr .i .un)))))), .i, .i]
@[reducible] def cT64 : List TSh := []
@[reducible] def cU64 : List TSh := []
def ct64 (F : Nat) : Ct := mkC 0 cA64 cT64 cB64 cU64 (fun x y => T64 F x.1 x.2.1 x.2.2.1 x.2.2.2.1) (fun x y (z : UInt64 × Int × Bool × (List UInt8) × Int × Int) => (((x.2.2.1, z.1, z.2.1, z.2.2.1, z.2.2.2.1, x.2.2.2.1, ()), z.2.2.2.2.1, z.2.2.2.2.2, ()), ()))
theorem eq64 (F : Nat) (x : dens cA64) (y : tdens cT64) : sev (E64 F) 0 [] (bodyOf Tryd.f64) [] (mkSt (rng 4) cA64 cT64 x y) (kFn (E64 F) 0 Tryd.f64.results.toList cB64 cU64 fun p q => some (p, q)) =
    T64c F x.1 x.2.1 x.2.2.1 x.2.2.2.1 (fun z => some (((x.2.2.1, z.1, z.2.1, z.2.2.1, z.2.2.2.1, x.2.2.2.1, ()), z.2.2.2.2.1, z.2.2.2.2.2, ()), ())) := by kernel_rfl
theorem ok64 (F : Nat) : Sound Tryd.prog cfg 64 (ct64 F) :=
  mkC_ok (E := E64 F) (lp := []) (code := bodyOf Tryd.f64) Tryd.func64 rfl Tryd.ntmps64 rfl rfl cok (cts64 F) mixed trivial (by kernel_rfl) (fun x y k => T64c F x.1 x.2.1 x.2.2.1 x.2.2.2.1 k) (fun x y k => T64n F x.1 x.2.1 x.2.2.1 x.2.2.2.1 k) (eq64 F)
end Go.Proofs.YtjghgfohpihhfaaDoor
/- (*kinkeep/kinkeepref01.Reader).Read: its twin, and that the call does what the twin says. Printed by a program. -/
namespace Go.Proofs.YtjghgfohpihhfaaDoor
open Go.Tw
set_option linter.unusedSimpArgs false
set_option linter.unusedVariables false
def ord49 : Nat → List (Tag × Nat)
  | 7 => [(.p, 0), (.p, 1), (.p, 2), (.c, 3), (.p, 4), (.p, 5), (.p, 6), (.c, 7), (.p, 8), (.p, 9), (.w, 10), (.p, 11), (.p, 12), (.p, 13), (.p, 14), (.w, 15), (.w, 16), (.p, 17), (.p, 18)]
  | _ => []
def al49 : Nat → Option Nat
  | 7 => some 15
  | _ => none
def E49 (F : Nat) : Ev := ⟨cfg, 67, ctOf [(64, ct64 F)], ord49, ctOf [], al49⟩
theorem cts49 (F : Nat) : CtsOk Tryd.prog (E49 F) := cts_of (l := [(64, ct64 F)]) (l' := []) rfl rfl ⟨⟨ok64 F, _, Tryd.func64, rfl, rfl⟩, trivial⟩ trivial
def T49c (F : Nat) (p0 : Int) (p1 : Int) (p2 : List UInt8) (p3 : Int) (p4 : Int) (p5 : Int) {β : Type} (k : (UInt64 × Int × Bool × (List UInt8) × Int × Int × Int) → Option β) : Option β :=
  (bif (p5 != (0 : Int)) then (k ((0 : UInt64), (0 : Int), false, ([] : List UInt8), p3, p4, p5)) else (bif (p0 == (0 : Int)) then (k ((0 : UInt64), (0 : Int), false, ([] : List UInt8), p4, p4, (3 : Int))) else (Option.bind (T64 F p2 p3 p0 p1) fun z2 => (bif (z2.2.2.2.2.2 != (0 : Int)) then (k ((0 : UInt64), (0 : Int), false, ([] : List UInt8), p3, p4, z2.2.2.2.2.2)) else (k (z2.1, z2.2.1, z2.2.2.1, z2.2.2.2.1, z2.2.2.2.2.1, p3, p5))))))
def T49 (F : Nat) (p0 : Int) (p1 : Int) (p2 : List UInt8) (p3 : Int) (p4 : Int) (p5 : Int) : Option (UInt64 × Int × Bool × (List UInt8) × Int × Int × Int) := T49c F p0 p1 p2 p3 p4 p5 some
theorem T49n (F : Nat) (p0 : Int) (p1 : Int) (p2 : List UInt8) (p3 : Int) (p4 : Int) (p5 : Int) {β : Type} (k : (UInt64 × Int × Bool × (List UInt8) × Int × Int × Int) → Option β) : T49c F p0 p1 p2 p3 p4 p5 k = (T49 F p0 p1 p2 p3 p4 p5).bind k := by
  simp only [T49, T49c, Option.bind_assoc, cond_bind, Option.bind_some, elimS_bind]
@[reducible] def cA49 : List Sh := [(.pt 0 []), .i, .i]
@[reducible] def cB49 : List Sh := [(.pr .i (.pr .u64 (.pr .i (.pr .bo (.pr .str (.pr .i .un))))))]
@[reducible] def cT49 : List TSh := [.blk 72 (.pr (.ro .u8) (.pr .i (.pr .i (.pr .i .un))))]
@[reducible] def cU49 : List TSh := [.blk 72 (.pr (.ro .u8) (.pr .i (.pr .i (.pr .i .un))))]
def ct49 (F : Nat) : Ct := mkC 1 cA49 cT49 cB49 cU49 (fun x y => T49 F x.2.1 x.2.2.1 y.1.1 y.1.2.1 y.1.2.2.1 y.1.2.2.2.1) (fun x y (z : UInt64 × Int × Bool × (List UInt8) × Int × Int × Int) => (((x.2.1, z.1, z.2.1, z.2.2.1, z.2.2.2.1, x.2.2.1, ()), ()), ((y.1.1, z.2.2.2.2.1, z.2.2.2.2.2.1, z.2.2.2.2.2.2, ()), ())))
theorem eq49 (F : Nat) (x : dens cA49) (y : tdens cT49) : sev (E49 F) 1 [] (bodyOf Tryd.f49) [] (mkSt (rng 3) cA49 cT49 x y) (kFn (E49 F) 1 Tryd.f49.results.toList cB49 cU49 fun p q => some (p, q)) =
    T49c F x.2.1 x.2.2.1 y.1.1 y.1.2.1 y.1.2.2.1 y.1.2.2.2.1 (fun z => some (((x.2.1, z.1, z.2.1, z.2.2.1, z.2.2.2.1, x.2.2.1, ()), ()), ((y.1.1, z.2.2.2.2.1, z.2.2.2.2.2.1, z.2.2.2.2.2.2, ()), ()))) := by kernel_rfl
theorem ok49 (F : Nat) : Sound Tryd.prog cfg 49 (ct49 F) :=
  mkC_ok (E := E49 F) (lp := []) (code := bodyOf Tryd.f49) Tryd.func49 rfl Tryd.ntmps49 rfl rfl cok (cts49 F) mixed trivial (by kernel_rfl) (fun x y k => T49c F x.2.1 x.2.2.1 y.1.1 y.1.2.1 y.1.2.2.1 y.1.2.2.2.1 k) (fun x y k => T49n F x.2.1 x.2.2.1 y.1.1 y.1.2.1 y.1.2.2.1 y.1.2.2.2.1 k) (eq49 F)
end Go.Proofs.YtjghgfohpihhfaaDoor
/- kinkeep/kinkeepref11.Content: its twin, and that the call does what the twin says. Printed by a program. -/
namespace Go.Proofs.YtjghgfohpihhfaaDoor
open Go.Tw
set_option linter.unusedSimpArgs false
set_option linter.unusedVariables false
def ord21 : Nat → List (Tag × Nat)
  | 5 => [(.p, 1), (.p, 2), (.p, 3), (.p, 4), (.c, 5), (.p, 6), (.p, 7), (.p, 8), (.c, 9), (.p, 10), (.p, 11), (.p, 12), (.p, 13), (.w, 0), (.w, 14), (.p, 15)]
  | _ => []
def al21 : Nat → Option Nat
  | _ => none
def E21 (F : Nat) : Ev := ⟨cfg, 69, ctOf [(49, ct49 F), (43, ct43 F), (19, ct19 F)], ord21, ctOf [], al21⟩
theorem cts21 (F : Nat) : CtsOk Tryd.prog (E21 F) := cts_of (l := [(49, ct49 F), (43, ct43 F), (19, ct19 F)]) (l' := []) rfl rfl ⟨⟨ok49 F, _, Tryd.func49, rfl, rfl⟩, ⟨⟨ok43 F, _, Tryd.func43, rfl, rfl⟩, ⟨⟨ok19 F, _, Tryd.func19, rfl, rfl⟩, trivial⟩⟩⟩ trivial
def T21c (F : Nat) (p0 : List UInt8) {β : Type} (k : (Int × (List UInt8) × (List UInt8)) → Option β) : Option β :=
  (Option.bind (T49 F (1 : Int) (0 : Int) p0 (0 : Int) (0 : Int) (0 : Int)) fun z8 => (bif (z8.2.2.2.2.2.2 != (0 : Int)) then (k ((3 : Int), ([] : List UInt8), ([] : List UInt8))) else (bif (decide ((UInt64.ofNat 32768) < z8.1)) then (k ((3 : Int), ([] : List UInt8), ([] : List UInt8))) else (Option.bind (T43 F (w64 (z8.1.toNat : Int))) fun z9 => (bif (decide ((p0.length : Int) < z9)) then (k ((3 : Int), ([] : List UInt8), ([] : List UInt8))) else (Option.bind (gsl p0 z8.2.2.2.2.1 (w64 (z8.2.2.2.2.1 + (w64 (z8.1.toNat : Int))))) fun x10 => (Option.bind (gapp ([] : List UInt8) x10) fun x11 => (Option.bind (gsl p0 (w64 ((p0.length : Int) - (16 : Int))) (p0.length : Int)) fun x12 => (Option.bind (gapp ([] : List UInt8) x12) fun x13 => (Option.bind (T19 F x11 x13) fun z14 => (bif (z14.2 != p0) then (k ((3 : Int), ([] : List UInt8), ([] : List UInt8))) else (k ((0 : Int), x11, x13)))))))))))))
def T21 (F : Nat) (p0 : List UInt8) : Option (Int × (List UInt8) × (List UInt8)) := T21c F p0 some
theorem T21n (F : Nat) (p0 : List UInt8) {β : Type} (k : (Int × (List UInt8) × (List UInt8)) → Option β) : T21c F p0 k = (T21 F p0).bind k := by
  simp only [T21, T21c, Option.bind_assoc, cond_bind, Option.bind_some, elimS_bind]
@[reducible] def cA21 : List Sh := [(.ro .u8)]
@[reducible] def cB21 : List Sh := [(.rw 0), (.rw 1), .i]
@[reducible] def cT21 : List TSh := []
@[reducible] def cU21 : List TSh := [.row 5 .u8, .row 5 .u8]
def ct21 (F : Nat) : Ct := mkC 0 cA21 cT21 cB21 cU21 (fun x y => T21 F x.1) (fun x y (z : Int × (List UInt8) × (List UInt8)) => (((), (), z.1, ()), (z.2.1, z.2.2, ())))
theorem eq21 (F : Nat) (x : dens cA21) (y : tdens cT21) : sev (E21 F) 0 [] (bodyOf Tryd.f21) [] (mkSt (rng 1) cA21 cT21 x y) (kFn (E21 F) 0 Tryd.f21.results.toList cB21 cU21 fun p q => some (p, q)) =
    T21c F x.1 (fun z => some (((), (), z.1, ()), (z.2.1, z.2.2, ()))) := by kernel_rfl
theorem ok21 (F : Nat) : Sound Tryd.prog cfg 21 (ct21 F) :=
  mkC_ok (E := E21 F) (lp := []) (code := bodyOf Tryd.f21) Tryd.func21 rfl Tryd.ntmps21 rfl rfl cok (cts21 F) mixed trivial (by kernel_rfl) (fun x y k => T21c F x.1 k) (fun x y k => T21n F x.1 k) (eq21 F)
end Go.Proofs.YtjghgfohpihhfaaDoor
/- kinkeep/kinkeeplaw11.SealContent: its twin, and that the call does what the twin says. Printed by a program. -/
namespace Go.Proofs.YtjghgfohpihhfaaDoor
open Go.Tw
set_option linter.unusedSimpArgs false
set_option linter.unusedVariables false
def ord5 : Nat → List (Tag × Nat)
  | _ => []
def al5 : Nat → Option Nat
  | _ => none
def E5 (F : Nat) : Ev := ⟨cfg, 68, ctOf [(16, ct16 F), (17, ct17 F), (20, ct20 F), (21, ct21 F), (18, ct18 F)], ord5, ctOf [], al5⟩
theorem cts5 (F : Nat) : CtsOk Tryd.prog (E5 F) := cts_of (l := [(16, ct16 F), (17, ct17 F), (20, ct20 F), (21, ct21 F), (18, ct18 F)]) (l' := []) rfl rfl ⟨⟨ok16 F, _, Tryd.func16, rfl, rfl⟩, ⟨⟨ok17 F, _, Tryd.func17, rfl, rfl⟩, ⟨⟨ok20 F, _, Tryd.func20, rfl, rfl⟩, ⟨⟨ok21 F, _, Tryd.func21, rfl, rfl⟩, ⟨⟨ok18 F, _, Tryd.func18, rfl, rfl⟩, trivial⟩⟩⟩⟩⟩ trivial
def T5c (F : Nat) (p0 : List UInt8) {β : Type} (k : Bool → Option β) : Option β :=
  (Option.bind (T16 F) fun z8 => (bif (!z8) then (Option.bind (T16 F) fun z9 => (k z9)) else (Option.bind (T17 F ([p0] : List (List UInt8))) fun z10 => (bif (!z10) then (Option.bind (T16 F) fun z11 => (k z11)) else (Option.bind (T20 F p0) fun z12 => (Option.bind (T21 F p0) fun z13 => (bif (z12.1 != z13.2.1) then (k false) else (bif (z12.2.2 != z13.2.2) then (k false) else (bif (z12.2.1 != z13.1) then (k false) else (Option.bind (T18 F z12.1 z12.2.2) fun z14 => (bif (z12.2.1 != (0 : Int)) then (k true) else (bif (z14.1 == (0 : Int)) then (k (z14.2 == p0)) else (k false)))))))))))))
def T5 (F : Nat) (p0 : List UInt8) : Option (Bool) := T5c F p0 some
theorem T5n (F : Nat) (p0 : List UInt8) {β : Type} (k : Bool → Option β) : T5c F p0 k = (T5 F p0).bind k := by
  simp only [T5, T5c, Option.bind_assoc, cond_bind, Option.bind_some, elimS_bind]
@[reducible] def cA5 : List Sh := [(.ro .u8)]
@[reducible] def cB5 : List Sh := [.bo]
@[reducible] def cT5 : List TSh := []
@[reducible] def cU5 : List TSh := []
def ct5 (F : Nat) : Ct := mkC 0 cA5 cT5 cB5 cU5 (fun x y => T5 F x.1) (fun x y (z : Bool) => ((z, ()), ()))
theorem eq5 (F : Nat) (x : dens cA5) (y : tdens cT5) : sev (E5 F) 0 [] (bodyOf Tryd.f5) [] (mkSt (rng 1) cA5 cT5 x y) (kFn (E5 F) 0 Tryd.f5.results.toList cB5 cU5 fun p q => some (p, q)) =
    T5c F x.1 (fun z => some ((z, ()), ())) := by kernel_rfl
theorem ok5 (F : Nat) : Sound Tryd.prog cfg 5 (ct5 F) :=
  mkC_ok (E := E5 F) (lp := []) (code := bodyOf Tryd.f5) Tryd.func5 rfl Tryd.ntmps5 rfl rfl cok (cts5 F) mixed trivial (by kernel_rfl) (fun x y k => T5c F x.1 k) (fun x y k => T5n F x.1 k) (eq5 F)
end Go.Proofs.YtjghgfohpihhfaaDoor
/- kinkeep/kinkeepref07.Xor: its twin, and that the call does what the twin says. Printed by a program. -/
namespace Go.Proofs.YtjghgfohpihhfaaDoor
open Go.Tw
set_option linter.unusedSimpArgs false
set_option linter.unusedVariables false
def ord73 : Nat → List (Tag × Nat)
  | 7 => [(.p, 0), (.p, 1), (.p, 2), (.p, 3), (.r, 4), (.p, 5), (.p, 6), (.p, 7), (.r, 8), (.p, 9), (.w, 10), (.w, 11), (.p, 12)]
  | _ => []
def al73 : Nat → Option Nat
  | _ => none
def E73 (F : Nat) : Ev := ⟨cfg, 33, ctOf [], ord73, ctOf [], al73⟩
theorem cts73 (F : Nat) : CtsOk Tryd.prog (E73 F) := cts_of (l := []) (l' := []) rfl rfl trivial trivial
def L73_2c (F : Nat) (y13 : List UInt8) (y14 : List UInt8) (y15 : Int) (y16 : Int) (y17 : List UInt8) {β : Type} (kA : (Int × (List UInt8)) → Option β) (kO : ((List UInt8)) → Option β) : Option β :=
  (bif (decide (y16 < y15)) then (Option.bind (ix y13 y16) fun x21 => (Option.bind (ix y14 y16) fun x22 => (Option.bind (gapp y17 ([(x21 ^^^ x22)] : List UInt8)) fun x23 => (kA ((w64 (y16 + (1 : Int))), x23))))) else (kO y17))
def L73_2 (F : Nat) (y13 : List UInt8) (y14 : List UInt8) (y15 : Int) (y16 : Int) (y17 : List UInt8) : Option ((Int × (List UInt8)) ⊕ ((List UInt8))) := L73_2c F y13 y14 y15 y16 y17 (fun s => some (.inl s)) (fun z => some (.inr z))
theorem L73_2n (F : Nat) (y13 : List UInt8) (y14 : List UInt8) (y15 : Int) (y16 : Int) (y17 : List UInt8) {β : Type} (kA : (Int × (List UInt8)) → Option β) (kO : ((List UInt8)) → Option β) : L73_2c F y13 y14 y15 y16 y17 kA kO = (L73_2 F y13 y14 y15 y16 y17).bind (elimS kA kO) := by
  simp only [L73_2, L73_2c, Option.bind_assoc, cond_bind, Option.bind_some, elimS_l, elimS_r, elimS_bind]
@[reducible] def sA73_2 : List Sh := [(.ro .u8), (.ro .u8), (.rw 0), .i, .i]
@[reducible] def sA173_2 : List Sh := [(.rw 0)]
@[reducible] def sA273_2 : List Sh := []
@[reducible] def sT73_2 : List TSh := [.row 5 .u8]
@[reducible] def sT173_2 : List TSh := [.row 5 .u8]
@[reducible] def sT273_2 : List TSh := []
def lc73_2 (F : Nat) : Lc := mkL [0, 1, 6, 15, 16] sA73_2 sT73_2 [6] sA173_2 sT173_2 F (fun x y (s : Int × (List UInt8)) => L73_2 F x.1 x.2.1 x.2.2.2.1 s.1 s.2) (fun x y => (x.2.2.2.2.1, y.1)) (fun x y (z : (List UInt8)) => (((), ()), (z, ())))
theorem le73_2 (F : Nat) (x : dens sA73_2) (y : tdens sT73_2) (s : Int × (List UInt8)) : sev (E73 F) 0 [] (cAt (bodyOf Tryd.f73) (0 :: 0 :: [1, 0, 1, 1, 1])) (0 :: 0 :: [1, 0, 1, 1, 1]) (mkSt [0, 1, 6, 15, 16] sA73_2 sT73_2 (x.1, x.2.1, (), x.2.2.2.1, s.1, ()) (s.2, ())) (kLoop 0 [0, 1, 6, 15, 16] sA73_2 sT73_2 [6] sA173_2 sT173_2 [] [] [] 0 (fun x y => some (.inl (x, y))) (fun x y => some (.inr (.inl (x, y)))) (fun x y => some (.inr (.inr (x, y))))) =
    L73_2c (β := Full sA73_2 sT73_2 sA173_2 sT173_2 [] []) F x.1 x.2.1 x.2.2.2.1 s.1 s.2 (fun s => some (.inl ((x.1, x.2.1, (), x.2.2.2.1, s.1, ()), (s.2, ())))) (fun z => some (.inr (.inl (((), ()), (z, ()))))) := by kernel_rfl
theorem lo73_2 (F : Nat) : LcOk Tryd.prog (E73 F) 0 (lc73_2 F) (cAt (bodyOf Tryd.f73) [1, 0, 1, 1, 1]) :=
  mkL_ok (lp := []) (id := 0) (b := cAt (bodyOf Tryd.f73) (0 :: 0 :: [1, 0, 1, 1, 1])) cok (cts73 F) mixed trivial (by kernel_rfl) (by kernel_rfl) (fun x y s => (x.1, x.2.1, (), x.2.2.2.1, s.1, ())) (fun x y s => (s.2, ())) (fun x y => rfl) (fun x y => rfl) (fun x y s kA kO => L73_2c F x.1 x.2.1 x.2.2.2.1 s.1 s.2 kA kO) (fun x y s kA kO => L73_2n F x.1 x.2.1 x.2.2.2.1 s.1 s.2 kA kO) (le73_2 F)
def T73c (F : Nat) (p0 : List UInt8) (p1 : List UInt8) {β : Type} (k : (Int × (List UInt8)) → Option β) : Option β :=
  (bif ((p0.length : Int) != (p1.length : Int)) then (k ((1 : Int), ([] : List UInt8))) else (Option.bind (iter (fun s => L73_2 F p0 p1 (p0.length : Int) s.1 s.2) F ((0 : Int), ([] : List UInt8))) fun z24 => (k ((0 : Int), z24))))
def T73 (F : Nat) (p0 : List UInt8) (p1 : List UInt8) : Option (Int × (List UInt8)) := T73c F p0 p1 some
theorem T73n (F : Nat) (p0 : List UInt8) (p1 : List UInt8) {β : Type} (k : (Int × (List UInt8)) → Option β) : T73c F p0 p1 k = (T73 F p0 p1).bind k := by
  simp only [T73, T73c, Option.bind_assoc, cond_bind, Option.bind_some, elimS_bind]
@[reducible] def cA73 : List Sh := [(.ro .u8), (.ro .u8)]
@[reducible] def cB73 : List Sh := [(.rw 0), .i]
@[reducible] def cT73 : List TSh := []
@[reducible] def cU73 : List TSh := [.row 5 .u8]
def ct73 (F : Nat) : Ct := mkC 0 cA73 cT73 cB73 cU73 (fun x y => T73 F x.1 x.2.1) (fun x y (z : Int × (List UInt8)) => (((), z.1, ()), (z.2, ())))
theorem eq73 (F : Nat) (x : dens cA73) (y : tdens cT73) : sev (E73 F) 0 [([1, 0, 1, 1, 1], lc73_2 F)] (bodyOf Tryd.f73) [] (mkSt (rng 2) cA73 cT73 x y) (kFn (E73 F) 0 Tryd.f73.results.toList cB73 cU73 fun p q => some (p, q)) =
    T73c F x.1 x.2.1 (fun z => some (((), z.1, ()), (z.2, ()))) := by kernel_rfl
theorem ok73 (F : Nat) : Sound Tryd.prog cfg 73 (ct73 F) :=
  mkC_ok (E := E73 F) (lp := [([1, 0, 1, 1, 1], lc73_2 F)]) (code := bodyOf Tryd.f73) Tryd.func73 rfl Tryd.ntmps73 rfl rfl cok (cts73 F) mixed ⟨lo73_2 F, trivial⟩ (by kernel_rfl) (fun x y k => T73c F x.1 x.2.1 k) (fun x y k => T73n F x.1 x.2.1 k) (eq73 F)
end Go.Proofs.YtjghgfohpihhfaaDoor
/- kinkeep/kinkeepref11.Xor: its twin, and that the call does what the twin says. Printed by a program. -/
namespace Go.Proofs.YtjghgfohpihhfaaDoor
open Go.Tw
set_option linter.unusedSimpArgs false
set_option linter.unusedVariables false
def ord58 : Nat → List (Tag × Nat)
  | _ => []
def al58 : Nat → Option Nat
  | _ => none
def E58 (F : Nat) : Ev := ⟨cfg, 14, ctOf [(73, ct73 F)], ord58, ctOf [], al58⟩
theorem cts58 (F : Nat) : CtsOk Tryd.prog (E58 F) := cts_of (l := [(73, ct73 F)]) (l' := []) rfl rfl ⟨⟨ok73 F, _, Tryd.func73, rfl, rfl⟩, trivial⟩ trivial
def T58c (F : Nat) (p0 : List UInt8) (p1 : List UInt8) {β : Type} (k : ((List UInt8)) → Option β) : Option β :=
  (Option.bind (T73 F p0 p1) fun z2 => (k z2.2))
def T58 (F : Nat) (p0 : List UInt8) (p1 : List UInt8) : Option ((List UInt8)) := T58c F p0 p1 some
theorem T58n (F : Nat) (p0 : List UInt8) (p1 : List UInt8) {β : Type} (k : ((List UInt8)) → Option β) : T58c F p0 p1 k = (T58 F p0 p1).bind k := by
  simp only [T58, T58c, Option.bind_assoc, cond_bind, Option.bind_some, elimS_bind]
@[reducible] def cA58 : List Sh := [(.ro .u8), (.ro .u8)]
@[reducible] def cB58 : List Sh := [(.rw 0)]
@[reducible] def cT58 : List TSh := []
@[reducible] def cU58 : List TSh := [.row 5 .u8]
def ct58 (F : Nat) : Ct := mkC 0 cA58 cT58 cB58 cU58 (fun x y => T58 F x.1 x.2.1) (fun x y (z : (List UInt8)) => (((), ()), (z, ())))
theorem eq58 (F : Nat) (x : dens cA58) (y : tdens cT58) : sev (E58 F) 0 [] (bodyOf Tryd.f58) [] (mkSt (rng 2) cA58 cT58 x y) (kFn (E58 F) 0 Tryd.f58.results.toList cB58 cU58 fun p q => some (p, q)) =
    T58c F x.1 x.2.1 (fun z => some (((), ()), (z, ()))) := by kernel_rfl
theorem ok58 (F : Nat) : Sound Tryd.prog cfg 58 (ct58 F) :=
  mkC_ok (E := E58 F) (lp := []) (code := bodyOf Tryd.f58) Tryd.func58 rfl Tryd.ntmps58 rfl rfl cok (cts58 F) mixed trivial (by kernel_rfl) (fun x y k => T58c F x.1 x.2.1 k) (fun x y k => T58n F x.1 x.2.1 k) (eq58 F)
end Go.Proofs.YtjghgfohpihhfaaDoor
/- kinkeep/kinkeepref11.SealWith: its twin, and that the call does what the twin says. Printed by a program. -/
namespace Go.Proofs.YtjghgfohpihhfaaDoor
open Go.Tw
set_option linter.unusedSimpArgs false
set_option linter.unusedVariables false
def ord35 : Nat → List (Tag × Nat)
  | _ => []
def al35 : Nat → Option Nat
  | _ => none
def E35 (F : Nat) : Ev := ⟨cfg, 27, ctOf [(19, ct19 F), (58, ct58 F)], ord35, ctOf [], al35⟩
theorem cts35 (F : Nat) : CtsOk Tryd.prog (E35 F) := cts_of (l := [(19, ct19 F), (58, ct58 F)]) (l' := []) rfl rfl ⟨⟨ok19 F, _, Tryd.func19, rfl, rfl⟩, ⟨⟨ok58 F, _, Tryd.func58, rfl, rfl⟩, trivial⟩⟩ trivial
def T35c (F : Nat) (p0 : List UInt8) (p1 : List UInt8) (p2 : List UInt8) {β : Type} (k : (Int × (List UInt8)) → Option β) : Option β :=
  (Option.bind (T19 F p2 p1) fun z3 => (bif (z3.1 != (0 : Int)) then (k (z3.1, ([] : List UInt8))) else (bif ((p0.length : Int) != (z3.2.length : Int)) then (k ((1 : Int), ([] : List UInt8))) else (Option.bind (T58 F z3.2 p0) fun z4 => (k ((0 : Int), z4))))))
def T35 (F : Nat) (p0 : List UInt8) (p1 : List UInt8) (p2 : List UInt8) : Option (Int × (List UInt8)) := T35c F p0 p1 p2 some
theorem T35n (F : Nat) (p0 : List UInt8) (p1 : List UInt8) (p2 : List UInt8) {β : Type} (k : (Int × (List UInt8)) → Option β) : T35c F p0 p1 p2 k = (T35 F p0 p1 p2).bind k := by
  simp only [T35, T35c, Option.bind_assoc, cond_bind, Option.bind_some, elimS_bind]
@[reducible] def cA35 : List Sh := [(.ro .u8), (.ro .u8), (.ro .u8)]
@[reducible] def cB35 : List Sh := [(.rw 0), .i]
@[reducible] def cT35 : List TSh := []
@[reducible] def cU35 : List TSh := [.row 5 .u8]
def ct35 (F : Nat) : Ct := mkC 0 cA35 cT35 cB35 cU35 (fun x y => T35 F x.1 x.2.1 x.2.2.1) (fun x y (z : Int × (List UInt8)) => (((), z.1, ()), (z.2, ())))
theorem eq35 (F : Nat) (x : dens cA35) (y : tdens cT35) : sev (E35 F) 0 [] (bodyOf Tryd.f35) [] (mkSt (rng 3) cA35 cT35 x y) (kFn (E35 F) 0 Tryd.f35.results.toList cB35 cU35 fun p q => some (p, q)) =
    T35c F x.1 x.2.1 x.2.2.1 (fun z => some (((), z.1, ()), (z.2, ()))) := by kernel_rfl
theorem ok35 (F : Nat) : Sound Tryd.prog cfg 35 (ct35 F) :=
  mkC_ok (E := E35 F) (lp := []) (code := bodyOf Tryd.f35) Tryd.func35 rfl Tryd.ntmps35 rfl rfl cok (cts35 F) mixed trivial (by kernel_rfl) (fun x y k => T35c F x.1 x.2.1 x.2.2.1 k) (fun x y k => T35n F x.1 x.2.1 x.2.2.1 k) (eq35 F)
end Go.Proofs.YtjghgfohpihhfaaDoor
/- kinkeep/kinkeepref11.OpenWith: its twin, and that the call does what the twin says. Printed by a program. -/
namespace Go.Proofs.YtjghgfohpihhfaaDoor
open Go.Tw
set_option linter.unusedSimpArgs false
set_option linter.unusedVariables false
def ord38 : Nat → List (Tag × Nat)
  | _ => []
def al38 : Nat → Option Nat
  | _ => none
def E38 (F : Nat) : Ev := ⟨cfg, 19, ctOf [(58, ct58 F), (21, ct21 F)], ord38, ctOf [], al38⟩
theorem cts38 (F : Nat) : CtsOk Tryd.prog (E38 F) := cts_of (l := [(58, ct58 F), (21, ct21 F)]) (l' := []) rfl rfl ⟨⟨ok58 F, _, Tryd.func58, rfl, rfl⟩, ⟨⟨ok21 F, _, Tryd.func21, rfl, rfl⟩, trivial⟩⟩ trivial
def T38c (F : Nat) (p0 : List UInt8) (p1 : List UInt8) {β : Type} (k : (Int × (List UInt8) × (List UInt8)) → Option β) : Option β :=
  (bif ((p0.length : Int) != (p1.length : Int)) then (k ((1 : Int), ([] : List UInt8), ([] : List UInt8))) else (Option.bind (T58 F p0 p1) fun z3 => (Option.bind (T21 F z3) fun z4 => (k (z4.1, z4.2.1, z4.2.2)))))
def T38 (F : Nat) (p0 : List UInt8) (p1 : List UInt8) : Option (Int × (List UInt8) × (List UInt8)) := T38c F p0 p1 some
theorem T38n (F : Nat) (p0 : List UInt8) (p1 : List UInt8) {β : Type} (k : (Int × (List UInt8) × (List UInt8)) → Option β) : T38c F p0 p1 k = (T38 F p0 p1).bind k := by
  simp only [T38, T38c, Option.bind_assoc, cond_bind, Option.bind_some, elimS_bind]
@[reducible] def cA38 : List Sh := [(.ro .u8), (.ro .u8)]
@[reducible] def cB38 : List Sh := [(.rw 0), (.rw 1), .i]
@[reducible] def cT38 : List TSh := []
@[reducible] def cU38 : List TSh := [.row 5 .u8, .row 5 .u8]
def ct38 (F : Nat) : Ct := mkC 0 cA38 cT38 cB38 cU38 (fun x y => T38 F x.1 x.2.1) (fun x y (z : Int × (List UInt8) × (List UInt8)) => (((), (), z.1, ()), (z.2.1, z.2.2, ())))
theorem eq38 (F : Nat) (x : dens cA38) (y : tdens cT38) : sev (E38 F) 0 [] (bodyOf Tryd.f38) [] (mkSt (rng 2) cA38 cT38 x y) (kFn (E38 F) 0 Tryd.f38.results.toList cB38 cU38 fun p q => some (p, q)) =
    T38c F x.1 x.2.1 (fun z => some (((), (), z.1, ()), (z.2.1, z.2.2, ()))) := by kernel_rfl
theorem ok38 (F : Nat) : Sound Tryd.prog cfg 38 (ct38 F) :=
  mkC_ok (E := E38 F) (lp := []) (code := bodyOf Tryd.f38) Tryd.func38 rfl Tryd.ntmps38 rfl rfl cok (cts38 F) mixed trivial (by kernel_rfl) (fun x y k => T38c F x.1 x.2.1 k) (fun x y k => T38n F x.1 x.2.1 k) (eq38 F)
end Go.Proofs.YtjghgfohpihhfaaDoor
/- kinkeep/kinkeeplaw11.SealWiths: its twin, and that the call does what the twin says. Printed by a program. -/
namespace Go.Proofs.YtjghgfohpihhfaaDoor
open Go.Tw
set_option linter.unusedSimpArgs false
set_option linter.unusedVariables false
def ord11 : Nat → List (Tag × Nat)
  | _ => []
def al11 : Nat → Option Nat
  | _ => none
def E11 (F : Nat) : Ev := ⟨cfg, 106, ctOf [(16, ct16 F), (17, ct17 F), (34, ct34 F), (35, ct35 F), (36, ct36 F), (37, ct37 F), (38, ct38 F)], ord11, ctOf [], al11⟩
theorem cts11 (F : Nat) : CtsOk Tryd.prog (E11 F) := cts_of (l := [(16, ct16 F), (17, ct17 F), (34, ct34 F), (35, ct35 F), (36, ct36 F), (37, ct37 F), (38, ct38 F)]) (l' := []) rfl rfl ⟨⟨ok16 F, _, Tryd.func16, rfl, rfl⟩, ⟨⟨ok17 F, _, Tryd.func17, rfl, rfl⟩, ⟨⟨ok34 F, _, Tryd.func34, rfl, rfl⟩, ⟨⟨ok35 F, _, Tryd.func35, rfl, rfl⟩, ⟨⟨ok36 F, _, Tryd.func36, rfl, rfl⟩, ⟨⟨ok37 F, _, Tryd.func37, rfl, rfl⟩, ⟨⟨ok38 F, _, Tryd.func38, rfl, rfl⟩, trivial⟩⟩⟩⟩⟩⟩⟩ trivial
def T11c (F : Nat) (p0 : List UInt8) (p1 : List UInt8) (p2 : List UInt8) {β : Type} (k : Bool → Option β) : Option β :=
  (Option.bind (T16 F) fun z10 => (bif (!z10) then (Option.bind (T16 F) fun z11 => (k z11)) else (Option.bind (T17 F ([p0, p1, p2] : List (List UInt8))) fun z12 => (bif (!z12) then (Option.bind (T16 F) fun z13 => (k z13)) else (Option.bind (T34 F p0 p1 p2) fun z14 => (Option.bind (T35 F p0 p1 p2) fun z15 => (Option.bind (T36 F p0 p1 p2) fun z16 => (Option.bind (T37 F p0 z14.2) fun z17 => (Option.bind (T38 F p0 z15.2) fun z18 => (bif (z14.2 == z15.2) then (bif (z14.1 == z15.1) then (bif (z16.2 == z15.2) then (bif (z16.1 == z15.1) then (bif (z17.1 == z18.2.1) then (bif (z17.2.2 == z18.2.2) then (k (z17.2.1 == z18.1)) else (k false)) else (k false)) else (k false)) else (k false)) else (k false)) else (k false)))))))))))
def T11 (F : Nat) (p0 : List UInt8) (p1 : List UInt8) (p2 : List UInt8) : Option (Bool) := T11c F p0 p1 p2 some
theorem T11n (F : Nat) (p0 : List UInt8) (p1 : List UInt8) (p2 : List UInt8) {β : Type} (k : Bool → Option β) : T11c F p0 p1 p2 k = (T11 F p0 p1 p2).bind k := by
  simp only [T11, T11c, Option.bind_assoc, cond_bind, Option.bind_some, elimS_bind]
@[reducible] def cA11 : List Sh := [(.ro .u8), (.ro .u8), (.ro .u8)]
@[reducible] def cB11 : List Sh := [.bo]
@[reducible] def cT11 : List TSh := []
@[reducible] def cU11 : List TSh := []
def ct11 (F : Nat) : Ct := mkC 0 cA11 cT11 cB11 cU11 (fun x y => T11 F x.1 x.2.1 x.2.2.1) (fun x y (z : Bool) => ((z, ()), ()))
theorem eq11 (F : Nat) (x : dens cA11) (y : tdens cT11) : sev (E11 F) 0 [] (bodyOf Tryd.f11) [] (mkSt (rng 3) cA11 cT11 x y) (kFn (E11 F) 0 Tryd.f11.results.toList cB11 cU11 fun p q => some (p, q)) =
    T11c F x.1 x.2.1 x.2.2.1 (fun z => some ((z, ()), ())) := by kernel_rfl
theorem ok11 (F : Nat) : Sound Tryd.prog cfg 11 (ct11 F) :=
  mkC_ok (E := E11 F) (lp := []) (code := bodyOf Tryd.f11) Tryd.func11 rfl Tryd.ntmps11 rfl rfl cok (cts11 F) mixed trivial (by kernel_rfl) (fun x y k => T11c F x.1 x.2.1 x.2.2.1 k) (fun x y k => T11n F x.1 x.2.1 x.2.2.1 k) (eq11 F)
end Go.Proofs.YtjghgfohpihhfaaDoor
