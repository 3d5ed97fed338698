/- (*kinkeep/wire.Reader).Bytes$1: its twin, and that the call does what the twin says. Printed by a program. -/
import Derived.Test.YtjghgfohpihhfaaDoorH1
namespace Go.Proofs.YtjghgfohpihhfaaDoor
open Go.Tw
set_option linter.unusedSimpArgs false
set_option linter.unusedVariables false
def ord62 : Nat → List (Tag × Nat)
  | _ => []
def al62 : Nat → Option Nat
  | _ => none
def E62 (F : Nat) : Ev := ⟨cfg, 15, ctOf [(63, ct63 F)], ord62, ctOf [], al62⟩
theorem cts62 (F : Nat) : CtsOk Tryd.prog (E62 F) := cts_of (l := [(63, ct63 F)]) (l' := []) rfl rfl ⟨⟨ok63 F, _, Tryd.func63, rfl, rfl⟩, trivial⟩ trivial
def T62c (F : Nat) (p0 : Int) (p1 : Int) (p4 : List UInt8) {β : Type} (k : (Int × Int × (List UInt8)) → Option β) : Option β :=
  (Option.bind (T63 F p0 p1 p4) fun z3 => (Option.bind (gapp ([] : List UInt8) ((p4.drop z3.1.1).take (z3.1.2 - z3.1.1))) fun x4 => (k (z3.2.1, z3.2.2, x4))))
def T62 (F : Nat) (p0 : Int) (p1 : Int) (p4 : List UInt8) : Option (Int × Int × (List UInt8)) := T62c F p0 p1 p4 some
theorem T62n (F : Nat) (p0 : Int) (p1 : Int) (p4 : List UInt8) {β : Type} (k : (Int × Int × (List UInt8)) → Option β) : T62c F p0 p1 p4 k = (T62 F p0 p1 p4).bind k := by
  simp only [T62, T62c, Option.bind_assoc, cond_bind, Option.bind_some, elimS_bind]
@[reducible] def cA62 : List Sh := [(.pt 0 []), (.re .i)]
@[reducible] def cB62 : List Sh := [(.rw 3), .i]
@[reducible] def cT62 : List TSh := [.blk 67 (.pt 1 []), .blk 82 (.pr (.rw 2) (.pr .i (.pr .i (.pr .i .un)))), .row 5 .u8]
@[reducible] def cU62 : List TSh := [.blk 67 (.pt 1 []), .blk 82 (.pr (.rw 2) (.pr .i (.pr .i (.pr .i .un)))), .row 5 .u8, .row 5 .u8]
def ct62 (F : Nat) : Ct := mkC 3 cA62 cT62 cB62 cU62 (fun x y => T62 F x.2.1 y.2.1.2.1 y.2.2.1) (fun x y (z : Int × Int × (List UInt8)) => (((), z.1, ()), ((), ((), z.2.1, y.2.1.2.2.1, y.2.1.2.2.2.1, ()), y.2.2.1, z.2.2, ())))
theorem eq62 (F : Nat) (x : dens cA62) (y : tdens cT62) : sev (E62 F) 3 [] (bodyOf Tryd.f62) [] (mkSt (rng 2) cA62 cT62 x y) (kFn (E62 F) 3 Tryd.f62.results.toList cB62 cU62 fun p q => some (p, q)) =
    T62c F x.2.1 y.2.1.2.1 y.2.2.1 (fun z => some (((), z.1, ()), ((), ((), z.2.1, y.2.1.2.2.1, y.2.1.2.2.2.1, ()), y.2.2.1, z.2.2, ()))) := by kernel_rfl
theorem ok62 (F : Nat) : Sound Tryd.prog cfg 62 (ct62 F) :=
  mkC_ok (E := E62 F) (lp := []) (code := bodyOf Tryd.f62) Tryd.func62 rfl Tryd.ntmps62 rfl rfl cok (cts62 F) mixed trivial (by kernel_rfl) (fun x y k => T62c F x.2.1 y.2.1.2.1 y.2.2.1 k) (fun x y k => T62n F x.2.1 y.2.1.2.1 y.2.2.1 k) (eq62 F)
end Go.Proofs.YtjghgfohpihhfaaDoor
/- kinkeep/wire.readValue[[]byte]$1: its twin, and that the call does what the twin says. Printed by a program. -/
namespace Go.Proofs.YtjghgfohpihhfaaDoor
open Go.Tw
set_option linter.unusedSimpArgs false
set_option linter.unusedVariables false
def ord74 : Nat → List (Tag × Nat)
  | _ => []
def al74 : Nat → Option Nat
  | _ => none
def E74 (F : Nat) : Ev := ⟨cfg, 18, ctOf [], ord74, ctOf [], al74⟩
theorem cts74 (F : Nat) : CtsOk Tryd.prog (E74 F) := cts_of (l := []) (l' := []) rfl rfl trivial trivial
def T74c (F : Nat) (p0 : Int) (p1 : Int) (p3 : Int) (p4 : List UInt8) {β : Type} (k : ((Nat × Nat) × Int) → Option β) : Option β :=
  (bif (p3 != (0 : Int)) then (k ((0, 0), p0)) else (k ((0, p4.length), p1)))
def T74 (F : Nat) (p0 : Int) (p1 : Int) (p3 : Int) (p4 : List UInt8) : Option ((Nat × Nat) × Int) := T74c F p0 p1 p3 p4 some
theorem T74n (F : Nat) (p0 : Int) (p1 : Int) (p3 : Int) (p4 : List UInt8) {β : Type} (k : ((Nat × Nat) × Int) → Option β) : T74c F p0 p1 p3 p4 k = (T74 F p0 p1 p3 p4).bind k := by
  simp only [T74, T74c, Option.bind_assoc, cond_bind, Option.bind_some, elimS_bind]
@[reducible] def cA74 : List Sh := [(.re .i), (.pt 0 []), (.pt 1 [])]
@[reducible] def cB74 : List Sh := []
@[reducible] def cT74 : List TSh := [.blk 67 (.pt 2 []), .blk 27 (.rw 3), .blk 82 (.pr (.rw 4) (.pr .i (.pr .i (.pr .i .un)))), .row 5 .u8, .row 5 .u8]
@[reducible] def cU74 : List TSh := [.blk 67 (.pt 2 []), .blk 27 (.rp 3), .blk 82 (.pr (.rw 4) (.pr .i (.pr .i (.pr .i .un)))), .row 5 .u8, .row 5 .u8]
def ct74 (F : Nat) : Ct := mkC 5 cA74 cT74 cB74 cU74 (fun x y => T74 F x.1 y.2.2.1.2.1 y.2.2.1.2.2.2.1 y.2.2.2.1) (fun x y (z : (Nat × Nat) × Int) => ((), ((), z.1, ((), z.2, x.1, y.2.2.1.2.2.2.1, ()), y.2.2.2.1, y.2.2.2.2.1, ())))
theorem eq74 (F : Nat) (x : dens cA74) (y : tdens cT74) : sev (E74 F) 5 [] (bodyOf Tryd.f74) [] (mkSt (rng 3) cA74 cT74 x y) (kFn (E74 F) 5 Tryd.f74.results.toList cB74 cU74 fun p q => some (p, q)) =
    T74c F x.1 y.2.2.1.2.1 y.2.2.1.2.2.2.1 y.2.2.2.1 (fun z => some ((), ((), z.1, ((), z.2, x.1, y.2.2.1.2.2.2.1, ()), y.2.2.2.1, y.2.2.2.2.1, ()))) := by kernel_rfl
theorem okd74 (F : Nat) : SoundK Tryd.prog cfg true 74 (ct74 F) :=
  mkC_okK (E := E74 F) true (fun _ _ => rfl) (lp := []) (code := bodyOf Tryd.f74) Tryd.func74 rfl Tryd.ntmps74 rfl rfl cok (cts74 F) mixed trivial (by kernel_rfl) (fun x y k => T74c F x.1 y.2.2.1.2.1 y.2.2.1.2.2.2.1 y.2.2.2.1 k) (fun x y k => T74n F x.1 y.2.2.1.2.1 y.2.2.1.2.2.2.1 y.2.2.2.1 k) (eq74 F)
end Go.Proofs.YtjghgfohpihhfaaDoor
/- kinkeep/wire.readValue[[]byte]: its twin, and that the call does what the twin says. Printed by a program. -/
namespace Go.Proofs.YtjghgfohpihhfaaDoor
open Go.Tw
set_option linter.unusedSimpArgs false
set_option linter.unusedVariables false
def ord61 : Nat → List (Tag × Nat)
  | 5 => [(.c, 0), (.p, 1), (.w, 2), (.p, 3), (.p, 4), (.p, 5), (.w, 6), (.p, 7), (.p, 8), (.w, 9)]
  | _ => []
def al61 : Nat → Option Nat
  | _ => none
def E61 (F : Nat) : Ev := ⟨cfg, 26, ctOf [(62, ct62 F)], ord61, ctOf [(74, ct74 F)], al61⟩
theorem cts61 (F : Nat) : CtsOk Tryd.prog (E61 F) := cts_of (l := [(62, ct62 F)]) (l' := [(74, ct74 F)]) rfl rfl ⟨⟨ok62 F, _, Tryd.func62, rfl, rfl⟩, trivial⟩ ⟨⟨okd74 F, _, Tryd.func74, rfl, rfl⟩, trivial⟩
def T61c (F : Nat) (p0 : Int) (p1 : Int) (p2 : Int) (p3 : Int) (p4 : List UInt8) {β : Type} (k : ((List UInt8) × Int × Int × Int) → Option β) : Option β :=
  (bif (p2 != (0 : Int)) then (k (([] : List UInt8), p0, p1, p2)) else (Option.bind (T62 F p3 p0 p4) fun z3 => (Option.bind (T74 F p0 z3.2.1 z3.1 z3.2.2) fun z4 => (k (((z3.2.2.drop z4.1.1).take (z4.1.2 - z4.1.1)), z4.2, p0, z3.1)))))
def T61 (F : Nat) (p0 : Int) (p1 : Int) (p2 : Int) (p3 : Int) (p4 : List UInt8) : Option ((List UInt8) × Int × Int × Int) := T61c F p0 p1 p2 p3 p4 some
theorem T61n (F : Nat) (p0 : Int) (p1 : Int) (p2 : Int) (p3 : Int) (p4 : List UInt8) {β : Type} (k : ((List UInt8) × Int × Int × Int) → Option β) : T61c F p0 p1 p2 p3 p4 k = (T61 F p0 p1 p2 p3 p4).bind k := by
  simp only [T61, T61c, Option.bind_assoc, cond_bind, Option.bind_some, elimS_bind]
@[reducible] def cA61 : List Sh := [(.pt 0 []), (.fn 62 .un (.pr (.pt 1 []) (.pr (.pt 2 []) .un)))]
@[reducible] def cB61 : List Sh := [(.ro .u8)]
@[reducible] def cT61 : List TSh := [.blk 82 (.pr (.rw 3) (.pr .i (.pr .i (.pr .i .un)))), .blk 67 (.pt 0 []), .blk 3 .i, .row 5 .u8]
@[reducible] def cU61 : List TSh := [.blk 82 (.pr (.rw 3) (.pr .i (.pr .i (.pr .i .un)))), .blk 67 (.pt 0 []), .blk 3 .i, .row 5 .u8]
def ct61 (F : Nat) : Ct := mkC 4 cA61 cT61 cB61 cU61 (fun x y => T61 F y.1.2.1 y.1.2.2.1 y.1.2.2.2.1 y.2.2.1 y.2.2.2.1) (fun x y (z : (List UInt8) × Int × Int × Int) => ((z.1, ()), (((), z.2.1, z.2.2.1, z.2.2.2, ()), (), y.2.2.1, y.2.2.2.1, ())))
theorem eq61 (F : Nat) (x : dens cA61) (y : tdens cT61) : sev (E61 F) 4 [] (bodyOf Tryd.f61) [] (mkSt (rng 2) cA61 cT61 x y) (kFn (E61 F) 4 Tryd.f61.results.toList cB61 cU61 fun p q => some (p, q)) =
    T61c F y.1.2.1 y.1.2.2.1 y.1.2.2.2.1 y.2.2.1 y.2.2.2.1 (fun z => some ((z.1, ()), (((), z.2.1, z.2.2.1, z.2.2.2, ()), (), y.2.2.1, y.2.2.2.1, ()))) := by kernel_rfl
theorem ok61 (F : Nat) : Sound Tryd.prog cfg 61 (ct61 F) :=
  mkC_ok (E := E61 F) (lp := []) (code := bodyOf Tryd.f61) Tryd.func61 rfl Tryd.ntmps61 rfl rfl cok (cts61 F) mixed trivial (by kernel_rfl) (fun x y k => T61c F y.1.2.1 y.1.2.2.1 y.1.2.2.2.1 y.2.2.1 y.2.2.2.1 k) (fun x y k => T61n F y.1.2.1 y.1.2.2.1 y.1.2.2.2.1 y.2.2.1 y.2.2.2.1 k) (eq61 F)
end Go.Proofs.YtjghgfohpihhfaaDoor
/- (*kinkeep/wire.Reader).Bytes: its twin, and that the call does what the twin says. Printed by a program. -/
namespace Go.Proofs.YtjghgfohpihhfaaDoor
open Go.Tw
set_option linter.unusedSimpArgs false
set_option linter.unusedVariables false
def ord47 : Nat → List (Tag × Nat)
  | _ => []
def al47 : Nat → Option Nat
  | _ => none
def E47 (F : Nat) : Ev := ⟨cfg, 8, ctOf [(61, ct61 F)], ord47, ctOf [], al47⟩
theorem cts47 (F : Nat) : CtsOk Tryd.prog (E47 F) := cts_of (l := [(61, ct61 F)]) (l' := []) rfl rfl ⟨⟨ok61 F, _, Tryd.func61, rfl, rfl⟩, trivial⟩ trivial
def T47c (F : Nat) (p0 : Int) (p1 : Int) (p2 : Int) (p3 : Int) (p4 : List UInt8) {β : Type} (k : ((List UInt8) × Int × Int × Int) → Option β) : Option β :=
  (Option.bind (T61 F p1 p2 p3 p0 p4) fun z2 => (k (z2.1, z2.2.1, z2.2.2.1, z2.2.2.2)))
def T47 (F : Nat) (p0 : Int) (p1 : Int) (p2 : Int) (p3 : Int) (p4 : List UInt8) : Option ((List UInt8) × Int × Int × Int) := T47c F p0 p1 p2 p3 p4 some
theorem T47n (F : Nat) (p0 : Int) (p1 : Int) (p2 : Int) (p3 : Int) (p4 : List UInt8) {β : Type} (k : ((List UInt8) × Int × Int × Int) → Option β) : T47c F p0 p1 p2 p3 p4 k = (T47 F p0 p1 p2 p3 p4).bind k := by
  simp only [T47, T47c, Option.bind_assoc, cond_bind, Option.bind_some, elimS_bind]
@[reducible] def cA47 : List Sh := [(.pt 0 []), .i]
@[reducible] def cB47 : List Sh := [(.ro .u8)]
@[reducible] def cT47 : List TSh := [.blk 82 (.pr (.rw 1) (.pr .i (.pr .i (.pr .i .un)))), .row 5 .u8]
@[reducible] def cU47 : List TSh := [.blk 82 (.pr (.rw 1) (.pr .i (.pr .i (.pr .i .un)))), .row 5 .u8]
def ct47 (F : Nat) : Ct := mkC 2 cA47 cT47 cB47 cU47 (fun x y => T47 F x.2.1 y.1.2.1 y.1.2.2.1 y.1.2.2.2.1 y.2.1) (fun x y (z : (List UInt8) × Int × Int × Int) => ((z.1, ()), (((), z.2.1, z.2.2.1, z.2.2.2, ()), y.2.1, ())))
theorem eq47 (F : Nat) (x : dens cA47) (y : tdens cT47) : sev (E47 F) 2 [] (bodyOf Tryd.f47) [] (mkSt (rng 2) cA47 cT47 x y) (kFn (E47 F) 2 Tryd.f47.results.toList cB47 cU47 fun p q => some (p, q)) =
    T47c F x.2.1 y.1.2.1 y.1.2.2.1 y.1.2.2.2.1 y.2.1 (fun z => some ((z.1, ()), (((), z.2.1, z.2.2.1, z.2.2.2, ()), y.2.1, ()))) := by kernel_rfl
theorem ok47 (F : Nat) : Sound Tryd.prog cfg 47 (ct47 F) :=
  mkC_ok (E := E47 F) (lp := []) (code := bodyOf Tryd.f47) Tryd.func47 rfl Tryd.ntmps47 rfl rfl cok (cts47 F) mixed trivial (by kernel_rfl) (fun x y k => T47c F x.2.1 y.1.2.1 y.1.2.2.1 y.1.2.2.2.1 y.2.1 k) (fun x y k => T47n F x.2.1 y.1.2.1 y.1.2.2.1 y.1.2.2.2.1 y.2.1 k) (eq47 F)
end Go.Proofs.YtjghgfohpihhfaaDoor
/- (*kinkeep/wire.Reader).Left: its twin, and that the call does what the twin says. Printed by a program. -/
namespace Go.Proofs.YtjghgfohpihhfaaDoor
open Go.Tw
set_option linter.unusedSimpArgs false
set_option linter.unusedVariables false
def ord48 : Nat → List (Tag × Nat)
  | 1 => [(.p, 0), (.p, 1), (.p, 2), (.r, 3), (.p, 4), (.p, 5), (.p, 6), (.p, 7), (.r, 8), (.p, 9), (.p, 10)]
  | _ => []
def al48 : Nat → Option Nat
  | _ => none
def E48 (F : Nat) : Ev := ⟨cfg, 13, ctOf [], ord48, ctOf [], al48⟩
theorem cts48 (F : Nat) : CtsOk Tryd.prog (E48 F) := cts_of (l := []) (l' := []) rfl rfl trivial trivial
def T48c (F : Nat) (p0 : Int) (p3 : List UInt8) {β : Type} (k : Int → Option β) : Option β :=
  (k (w64 ((p3.length : Int) - p0)))
def T48 (F : Nat) (p0 : Int) (p3 : List UInt8) : Option (Int) := T48c F p0 p3 some
theorem T48n (F : Nat) (p0 : Int) (p3 : List UInt8) {β : Type} (k : Int → Option β) : T48c F p0 p3 k = (T48 F p0 p3).bind k := by
  simp only [T48, T48c, Option.bind_assoc, cond_bind, Option.bind_some, elimS_bind]
@[reducible] def cA48 : List Sh := [(.pt 0 [])]
@[reducible] def cB48 : List Sh := [.i]
@[reducible] def cT48 : List TSh := [.blk 82 (.pr (.rw 1) (.pr .i (.pr .i (.pr .i .un)))), .row 5 .u8]
@[reducible] def cU48 : List TSh := [.blk 82 (.pr (.rw 1) (.pr .i (.pr .i (.pr .i .un)))), .row 5 .u8]
def ct48 (F : Nat) : Ct := mkC 2 cA48 cT48 cB48 cU48 (fun x y => T48 F y.1.2.1 y.2.1) (fun x y (z : Int) => ((z, ()), (((), y.1.2.1, y.1.2.2.1, y.1.2.2.2.1, ()), y.2.1, ())))
theorem eq48 (F : Nat) (x : dens cA48) (y : tdens cT48) : sev (E48 F) 2 [] (bodyOf Tryd.f48) [] (mkSt (rng 1) cA48 cT48 x y) (kFn (E48 F) 2 Tryd.f48.results.toList cB48 cU48 fun p q => some (p, q)) =
    T48c F y.1.2.1 y.2.1 (fun z => some ((z, ()), (((), y.1.2.1, y.1.2.2.1, y.1.2.2.2.1, ()), y.2.1, ()))) := by kernel_rfl
theorem ok48 (F : Nat) : Sound Tryd.prog cfg 48 (ct48 F) :=
  mkC_ok (E := E48 F) (lp := []) (code := bodyOf Tryd.f48) Tryd.func48 rfl Tryd.ntmps48 rfl rfl cok (cts48 F) mixed trivial (by kernel_rfl) (fun x y k => T48c F y.1.2.1 y.2.1 k) (fun x y k => T48n F y.1.2.1 y.2.1 k) (eq48 F)
end Go.Proofs.YtjghgfohpihhfaaDoor
/- kinkeep/seal.Content: its twin, and that the call does what the twin says. Printed by a program. -/
namespace Go.Proofs.YtjghgfohpihhfaaDoor
open Go.Tw
set_option linter.unusedSimpArgs false
set_option linter.unusedVariables false
def ord20 : Nat → List (Tag × Nat)
  | _ => []
def al20 : Nat → Option Nat
  | _ => none
def E20 (F : Nat) : Ev := ⟨cfg, 56, ctOf [(46, ct46 F), (47, ct47 F), (48, ct48 F), (14, ct14 F)], ord20, ctOf [], al20⟩
theorem cts20 (F : Nat) : CtsOk Tryd.prog (E20 F) := cts_of (l := [(46, ct46 F), (47, ct47 F), (48, ct48 F), (14, ct14 F)]) (l' := []) rfl rfl ⟨⟨ok46 F, _, Tryd.func46, rfl, rfl⟩, ⟨⟨ok47 F, _, Tryd.func47, rfl, rfl⟩, ⟨⟨ok48 F, _, Tryd.func48, rfl, rfl⟩, ⟨⟨ok14 F, _, Tryd.func14, rfl, rfl⟩, trivial⟩⟩⟩⟩ trivial
def L20_2c (F : Nat) (y27 : List UInt8) (y28 : Int) (y29 : Int) {β : Type} (kA : Int → Option β) (kO : Unit → Option β) (kR : Int → Option β) : Option β :=
  (bif (decide (y29 < y28)) then (Option.bind (ix y27 y29) fun x31 => (bif (x31 != (UInt8.ofNat 0)) then (kR (3 : Int)) else (kA (w64 (y29 + (1 : Int)))))) else (kO ()))
def L20_2 (F : Nat) (y27 : List UInt8) (y28 : Int) (y29 : Int) : Option ((Int) ⊕ ((Unit) ⊕ (Int))) := L20_2c F y27 y28 y29 (fun s => some (.inl s)) (fun z => some (.inr (.inl z))) (fun z => some (.inr (.inr z)))
theorem L20_2n (F : Nat) (y27 : List UInt8) (y28 : Int) (y29 : Int) {β : Type} (kA : Int → Option β) (kO : Unit → Option β) (kR : Int → Option β) : L20_2c F y27 y28 y29 kA kO kR = (L20_2 F y27 y28 y29).bind (elimS kA (elimS kO kR)) := by
  simp only [L20_2, L20_2c, Option.bind_assoc, cond_bind, Option.bind_some, elimS_l, elimS_r, elimS_bind]
@[reducible] def sA20_2 : List Sh := [(.ro .u8), (.ro .u8), .i, (.ro .u8), .i, .i]
@[reducible] def sA120_2 : List Sh := [(.ro .u8), (.ro .u8), .i]
@[reducible] def sA220_2 : List Sh := [.ns, .ns, .i]
@[reducible] def sT20_2 : List TSh := []
@[reducible] def sT120_2 : List TSh := []
@[reducible] def sT220_2 : List TSh := []
def lc20_2 (F : Nat) : Lc := mkR [0, 6, 9, 41, 42, 43] sA20_2 sT20_2 [0, 6, 9] sA120_2 sT120_2 [2, 3, 4] sA220_2 sT220_2 F (fun x y (s : Int) => L20_2 F x.2.2.2.1 x.2.2.2.2.1 s) (fun x y => x.2.2.2.2.2.1) (fun x y (z : Unit) => ((x.1, x.2.1, x.2.2.1, ()), ())) (fun x y (z : Int) => (((), (), z, ()), ()))
theorem le20_2 (F : Nat) (x : dens sA20_2) (y : tdens sT20_2) (s : Int) : sev (E20 F) 0 [] (cAt (bodyOf Tryd.f20) (0 :: 0 :: [1, 0, 1, 1, 1, 1, 1, 1, 1])) (0 :: 0 :: [1, 0, 1, 1, 1, 1, 1, 1, 1]) (mkSt [0, 6, 9, 41, 42, 43] sA20_2 sT20_2 (x.1, x.2.1, x.2.2.1, x.2.2.2.1, x.2.2.2.2.1, s, ()) ()) (kLoop 0 [0, 6, 9, 41, 42, 43] sA20_2 sT20_2 [0, 6, 9] sA120_2 sT120_2 [2, 3, 4] sA220_2 sT220_2 0 (fun x y => some (.inl (x, y))) (fun x y => some (.inr (.inl (x, y)))) (fun x y => some (.inr (.inr (x, y))))) =
    L20_2c (β := Full sA20_2 sT20_2 sA120_2 sT120_2 sA220_2 sT220_2) F x.2.2.2.1 x.2.2.2.2.1 s (fun s => some (.inl ((x.1, x.2.1, x.2.2.1, x.2.2.2.1, x.2.2.2.2.1, s, ()), ()))) (fun z => some (.inr (.inl ((x.1, x.2.1, x.2.2.1, ()), ())))) (fun z => some (.inr (.inr (((), (), z, ()), ())))) := by kernel_rfl
theorem lo20_2 (F : Nat) : LcOk Tryd.prog (E20 F) 0 (lc20_2 F) (cAt (bodyOf Tryd.f20) [1, 0, 1, 1, 1, 1, 1, 1, 1]) :=
  mkR_ok (lp := []) (id := 0) (b := cAt (bodyOf Tryd.f20) (0 :: 0 :: [1, 0, 1, 1, 1, 1, 1, 1, 1])) cok (cts20 F) mixed trivial (by kernel_rfl) (by kernel_rfl) (fun x y s => (x.1, x.2.1, x.2.2.1, x.2.2.2.1, x.2.2.2.2.1, s, ())) (fun x y s => ()) (fun x y => rfl) (fun x y => rfl) (fun x y s kA kO kR => L20_2c F x.2.2.2.1 x.2.2.2.2.1 s kA kO kR) (fun x y s kA kO kR => L20_2n F x.2.2.2.1 x.2.2.2.2.1 s kA kO kR) (le20_2 F)
def T20c (F : Nat) (p0 : List UInt8) {β : Type} (k : ((List UInt8) × Int × (List UInt8)) → Option β) : Option β :=
  (Option.bind (T46 F p0) fun z18 => (Option.bind (T47 F (32768 : Int) z18.1 z18.2.1 z18.2.2.1 z18.2.2.2) fun z19 => (Option.bind (T48 F z19.2.1 z18.2.2.2) fun z20 => (bif (z20 == (p0.length : Int)) then (k (([] : List UInt8), (3 : Int), ([] : List UInt8))) else (Option.bind (T14 F (z19.1.length : Int)) fun z21 => (bif (z21.1 != (p0.length : Int)) then (k (([] : List UInt8), (3 : Int), ([] : List UInt8))) else (Option.bind (T48 F z19.2.1 z18.2.2.2) fun z22 => (Option.bind (gsl p0 (w64 ((p0.length : Int) - z22)) (w64 ((p0.length : Int) - (16 : Int)))) fun x23 => (Option.bind (iter (fun s => L20_2 F x23 (x23.length : Int) s) F (0 : Int)) fun z32 => elimS (fun z32 => (Option.bind (gsl p0 (w64 ((p0.length : Int) - (16 : Int))) (p0.length : Int)) fun x33 => (Option.bind (gapp ([] : List UInt8) x33) fun x34 => (k (z19.1, (0 : Int), x34))))) (fun z32 => (k (([] : List UInt8), z32, ([] : List UInt8)))) z32)))))))))
def T20 (F : Nat) (p0 : List UInt8) : Option ((List UInt8) × Int × (List UInt8)) := T20c F p0 some
theorem T20n (F : Nat) (p0 : List UInt8) {β : Type} (k : ((List UInt8) × Int × (List UInt8)) → Option β) : T20c F p0 k = (T20 F p0).bind k := by
  simp only [T20, T20c, Option.bind_assoc, cond_bind, Option.bind_some, elimS_bind]
@[reducible] def cA20 : List Sh := [(.ro .u8)]
@[reducible] def cB20 : List Sh := [(.ro .u8), (.rw 0), .i]
@[reducible] def cT20 : List TSh := []
@[reducible] def cU20 : List TSh := [.row 5 .u8]
def ct20 (F : Nat) : Ct := mkC 0 cA20 cT20 cB20 cU20 (fun x y => T20 F x.1) (fun x y (z : (List UInt8) × Int × (List UInt8)) => ((z.1, (), z.2.1, ()), (z.2.2, ())))
theorem eq20 (F : Nat) (x : dens cA20) (y : tdens cT20) : sev (E20 F) 0 [([1, 0, 1, 1, 1, 1, 1, 1, 1], lc20_2 F)] (bodyOf Tryd.f20) [] (mkSt (rng 1) cA20 cT20 x y) (kFn (E20 F) 0 Tryd.f20.results.toList cB20 cU20 fun p q => some (p, q)) =
    T20c F x.1 (fun z => some ((z.1, (), z.2.1, ()), (z.2.2, ()))) := by kernel_rfl
theorem ok20 (F : Nat) : Sound Tryd.prog cfg 20 (ct20 F) :=
  mkC_ok (E := E20 F) (lp := [([1, 0, 1, 1, 1, 1, 1, 1, 1], lc20_2 F)]) (code := bodyOf Tryd.f20) Tryd.func20 rfl Tryd.ntmps20 rfl rfl cok (cts20 F) mixed ⟨lo20_2 F, trivial⟩ (by kernel_rfl) (fun x y k => T20c F x.1 k) (fun x y k => T20n F x.1 k) (eq20 F)
end Go.Proofs.YtjghgfohpihhfaaDoor
/- kinkeep/seal.OpenWith: its twin, and that the call does what the twin says. Printed by a program. -/
namespace Go.Proofs.YtjghgfohpihhfaaDoor
open Go.Tw
set_option linter.unusedSimpArgs false
set_option linter.unusedVariables false
def ord37 : Nat → List (Tag × Nat)
  | _ => []
def al37 : Nat → Option Nat
  | _ => none
def E37 (F : Nat) : Ev := ⟨cfg, 23, ctOf [(57, ct57 F), (20, ct20 F)], ord37, ctOf [], al37⟩
theorem cts37 (F : Nat) : CtsOk Tryd.prog (E37 F) := cts_of (l := [(57, ct57 F), (20, ct20 F)]) (l' := []) rfl rfl ⟨⟨ok57 F, _, Tryd.func57, rfl, rfl⟩, ⟨⟨ok20 F, _, Tryd.func20, rfl, rfl⟩, trivial⟩⟩ trivial
def T37c (F : Nat) (p0 : List UInt8) (p1 : List UInt8) {β : Type} (k : ((List UInt8) × Int × (List UInt8)) → Option β) : Option β :=
  (Option.bind (T57 F p1 p0) fun z3 => (bif (z3.1 != (0 : Int)) then (k (([] : List UInt8), z3.1, ([] : List UInt8))) else (Option.bind (T20 F z3.2) fun z4 => (k (z4.1, z4.2.1, z4.2.2)))))
def T37 (F : Nat) (p0 : List UInt8) (p1 : List UInt8) : Option ((List UInt8) × Int × (List UInt8)) := T37c F p0 p1 some
theorem T37n (F : Nat) (p0 : List UInt8) (p1 : List UInt8) {β : Type} (k : ((List UInt8) × Int × (List UInt8)) → Option β) : T37c F p0 p1 k = (T37 F p0 p1).bind k := by
  simp only [T37, T37c, Option.bind_assoc, cond_bind, Option.bind_some, elimS_bind]
@[reducible] def cA37 : List Sh := [(.ro .u8), (.ro .u8)]
@[reducible] def cB37 : List Sh := [(.ro .u8), (.rw 0), .i]
@[reducible] def cT37 : List TSh := []
@[reducible] def cU37 : List TSh := [.row 5 .u8]
def ct37 (F : Nat) : Ct := mkC 0 cA37 cT37 cB37 cU37 (fun x y => T37 F x.1 x.2.1) (fun x y (z : (List UInt8) × Int × (List UInt8)) => ((z.1, (), z.2.1, ()), (z.2.2, ())))
theorem eq37 (F : Nat) (x : dens cA37) (y : tdens cT37) : sev (E37 F) 0 [] (bodyOf Tryd.f37) [] (mkSt (rng 2) cA37 cT37 x y) (kFn (E37 F) 0 Tryd.f37.results.toList cB37 cU37 fun p q => some (p, q)) =
    T37c F x.1 x.2.1 (fun z => some ((z.1, (), z.2.1, ()), (z.2.2, ()))) := by kernel_rfl
theorem ok37 (F : Nat) : Sound Tryd.prog cfg 37 (ct37 F) :=
  mkC_ok (E := E37 F) (lp := []) (code := bodyOf Tryd.f37) Tryd.func37 rfl Tryd.ntmps37 rfl rfl cok (cts37 F) mixed trivial (by kernel_rfl) (fun x y k => T37c F x.1 x.2.1 k) (fun x y k => T37n F x.1 x.2.1 k) (eq37 F)
end Go.Proofs.YtjghgfohpihhfaaDoor
/- kinkeep/seal.Open: its twin, and that the call does what the twin says. Printed by a program. -/
namespace Go.Proofs.YtjghgfohpihhfaaDoor
open Go.Tw
set_option linter.unusedSimpArgs false
set_option linter.unusedVariables false
def ord32 : Nat → List (Tag × Nat)
  | _ => []
def al32 : Nat → Option Nat
  | _ => none
def E32 (F : Nat) : Ev := ⟨cfg, 98, ctOf [(14, ct14 F), (50, ct50 F), (27, ct27 F), (37, ct37 F), (25, ct25 F), (23, ct23 F)], ord32, ctOf [], al32⟩
theorem cts32 (F : Nat) : CtsOk Tryd.prog (E32 F) := cts_of (l := [(14, ct14 F), (50, ct50 F), (27, ct27 F), (37, ct37 F), (25, ct25 F), (23, ct23 F)]) (l' := []) rfl rfl ⟨⟨ok14 F, _, Tryd.func14, rfl, rfl⟩, ⟨⟨ok50 F, _, Tryd.func50, rfl, rfl⟩, ⟨⟨ok27 F, _, Tryd.func27, rfl, rfl⟩, ⟨⟨ok37 F, _, Tryd.func37, rfl, rfl⟩, ⟨⟨ok25 F, _, Tryd.func25, rfl, rfl⟩, ⟨⟨ok23 F, _, Tryd.func23, rfl, rfl⟩, trivial⟩⟩⟩⟩⟩⟩ trivial
def T32c (F : Nat) (p0 : List UInt8) (p1 : List UInt8) (p2 : List UInt8) (p3 : List UInt8) (p4 : List UInt8) (p5 : List UInt8) (p6 : Int) (p7 : Int) (p8 : List UInt8) {β : Type} (k : ((List UInt8) × Int) → Option β) : Option β :=
  (Option.bind (T14 F p7) fun z7 => (Option.bind (T50 F p0 p1 p2 p3 p4) fun z8 => (bif (!z8) then (k (([] : List UInt8), (1 : Int))) else (bif ((p5.length : Int) != (32 : Int)) then (k (([] : List UInt8), (1 : Int))) else (bif (decide (p6 < (0 : Int))) then (k (([] : List UInt8), (1 : Int))) else (bif (z7.2 != (0 : Int)) then (k (([] : List UInt8), (1 : Int))) else (bif ((p8.length : Int) != z7.1) then (k (([] : List UInt8), (1 : Int))) else (Option.bind (T27 F p0 p1 p2 p3 p4 p5 z7.1) fun z9 => (Option.bind (T37 F z9.2 p8) fun z10 => (bif (z10.2.1 != (0 : Int)) then (k (([] : List UInt8), (9 : Int))) else (bif ((z10.1.length : Int) != p7) then (k (([] : List UInt8), (9 : Int))) else (Option.bind (T25 F p0 p1 p2 p3 p4 z10.1) fun z11 => (Option.bind (T23 F p0 p1 p2 p3 p4 p6 z10.1) fun z12 => (bif (z10.2.2 != z11.2) then (k (([] : List UInt8), (9 : Int))) else (bif (z12.1 != p5) then (k (([] : List UInt8), (9 : Int))) else (k (z10.1, (0 : Int))))))))))))))))))
def T32 (F : Nat) (p0 : List UInt8) (p1 : List UInt8) (p2 : List UInt8) (p3 : List UInt8) (p4 : List UInt8) (p5 : List UInt8) (p6 : Int) (p7 : Int) (p8 : List UInt8) : Option ((List UInt8) × Int) := T32c F p0 p1 p2 p3 p4 p5 p6 p7 p8 some
theorem T32n (F : Nat) (p0 : List UInt8) (p1 : List UInt8) (p2 : List UInt8) (p3 : List UInt8) (p4 : List UInt8) (p5 : List UInt8) (p6 : Int) (p7 : Int) (p8 : List UInt8) {β : Type} (k : ((List UInt8) × Int) → Option β) : T32c F p0 p1 p2 p3 p4 p5 p6 p7 p8 k = (T32 F p0 p1 p2 p3 p4 p5 p6 p7 p8).bind k := by
  simp only [T32, T32c, Option.bind_assoc, cond_bind, Option.bind_some, elimS_bind]
@[reducible] def cA32 : List Sh := [(.pr .str (.pr .str (.pr .str (.pr .str (.pr .str .un))))), (.pr .str (.pr .i (.pr .i .un))), (.ro .u8)]
@[reducible] def cB32 : List Sh := [(.ro .u8), .i]
@[reducible] def cT32 : List TSh := []
@[reducible] def cU32 : List TSh := []
def ct32 (F : Nat) : Ct := mkC 0 cA32 cT32 cB32 cU32 (fun x y => T32 F x.1.1 x.1.2.1 x.1.2.2.1 x.1.2.2.2.1 x.1.2.2.2.2.1 x.2.1.1 x.2.1.2.1 x.2.1.2.2.1 x.2.2.1) (fun x y (z : (List UInt8) × Int) => ((z.1, z.2, ()), ()))
theorem eq32 (F : Nat) (x : dens cA32) (y : tdens cT32) : sev (E32 F) 0 [] (bodyOf Tryd.f32) [] (mkSt (rng 3) cA32 cT32 x y) (kFn (E32 F) 0 Tryd.f32.results.toList cB32 cU32 fun p q => some (p, q)) =
    T32c F x.1.1 x.1.2.1 x.1.2.2.1 x.1.2.2.2.1 x.1.2.2.2.2.1 x.2.1.1 x.2.1.2.1 x.2.1.2.2.1 x.2.2.1 (fun z => some ((z.1, z.2, ()), ())) := by kernel_rfl
theorem ok32 (F : Nat) : Sound Tryd.prog cfg 32 (ct32 F) :=
  mkC_ok (E := E32 F) (lp := []) (code := bodyOf Tryd.f32) Tryd.func32 rfl Tryd.ntmps32 rfl rfl cok (cts32 F) mixed trivial (by kernel_rfl) (fun x y k => T32c F x.1.1 x.1.2.1 x.1.2.2.1 x.1.2.2.2.1 x.1.2.2.2.2.1 x.2.1.1 x.2.1.2.1 x.2.1.2.2.1 x.2.2.1 k) (fun x y k => T32n F x.1.1 x.1.2.1 x.1.2.2.1 x.1.2.2.2.1 x.1.2.2.2.2.1 x.2.1.1 x.2.1.2.1 x.2.1.2.2.1 x.2.2.1 k) (eq32 F)
end Go.Proofs.YtjghgfohpihhfaaDoor
/- kinkeep/kinkeeplaw11.awake: its twin, and that the call does what the twin says. Printed by a program. -/
namespace Go.Proofs.YtjghgfohpihhfaaDoor
open Go.Tw
set_option linter.unusedSimpArgs false
set_option linter.unusedVariables false
def ord16 : Nat → List (Tag × Nat)
  | 5 => [(.c, 1), (.p, 2), (.w, 0), (.w, 3), (.p, 4), (.p, 5), (.p, 6), (.p, 7), (.p, 8)]
  | _ => []
def al16 : Nat → Option Nat
  | _ => none
def E16 (F : Nat) : Ev := ⟨cfg, 84, ctOf [(14, ct14 F), (31, ct31 F), (29, ct29 F), (32, ct32 F)], ord16, ctOf [], al16⟩
theorem cts16 (F : Nat) : CtsOk Tryd.prog (E16 F) := cts_of (l := [(14, ct14 F), (31, ct31 F), (29, ct29 F), (32, ct32 F)]) (l' := []) rfl rfl ⟨⟨ok14 F, _, Tryd.func14, rfl, rfl⟩, ⟨⟨ok31 F, _, Tryd.func31, rfl, rfl⟩, ⟨⟨ok29 F, _, Tryd.func29, rfl, rfl⟩, ⟨⟨ok32 F, _, Tryd.func32, rfl, rfl⟩, trivial⟩⟩⟩⟩ trivial
def T16c (F : Nat) {β : Type} (k : Bool → Option β) : Option β :=
  (Option.bind (T14 F (47 : Int)) fun z8 => (Option.bind (T14 F (48 : Int)) fun z9 => (Option.bind (T14 F (32768 : Int)) fun z10 => (Option.bind (T31 F (UInt8.ofNat 0)) fun z11 => (Option.bind (T29 F z11.1 z11.2.1 z11.2.2.1 z11.2.2.2.1 z11.2.2.2.2 (0 : Int) ([(UInt8.ofNat 104), (UInt8.ofNat 105)] : List UInt8)) fun z12 => (Option.bind (T31 F (UInt8.ofNat 0)) fun z13 => (Option.bind (T32 F z13.1 z13.2.1 z13.2.2.1 z13.2.2.2.1 z13.2.2.2.2 z12.1 z12.2.1 z12.2.2.1 z12.2.2.2.2) fun z14 => (bif (z8.1 == (64 : Int)) then (bif (z8.2 == (0 : Int)) then (bif (z9.1 == (80 : Int)) then (bif (z9.2 == (0 : Int)) then (bif (z10.1 == (40960 : Int)) then (bif (z10.2 == (0 : Int)) then (bif (z12.2.2.2.1 == (0 : Int)) then (bif ((z12.2.2.2.2.length : Int) == (64 : Int)) then (bif (z14.2 == (0 : Int)) then (bif (z14.1 == ([104, 105] : List UInt8)) then (k (z12.2.2.1 == (2 : Int))) else (k false)) else (k false)) else (k false)) else (k false)) else (k false)) else (k false)) else (k false)) else (k false)) else (k false)) else (k false)))))))))
def T16 (F : Nat) : Option (Bool) := T16c F some
theorem T16n (F : Nat) {β : Type} (k : Bool → Option β) : T16c F k = (T16 F).bind k := by
  simp only [T16, T16c, Option.bind_assoc, cond_bind, Option.bind_some, elimS_bind]
@[reducible] def cA16 : List Sh := []
@[reducible] def cB16 : List Sh := [.bo]
@[reducible] def cT16 : List TSh := []
@[reducible] def cU16 : List TSh := []
def ct16 (F : Nat) : Ct := mkC 0 cA16 cT16 cB16 cU16 (fun x y => T16 F) (fun x y (z : Bool) => ((z, ()), ()))
theorem eq16 (F : Nat) (x : dens cA16) (y : tdens cT16) : sev (E16 F) 0 [] (bodyOf Tryd.f16) [] (mkSt (rng 0) cA16 cT16 x y) (kFn (E16 F) 0 Tryd.f16.results.toList cB16 cU16 fun p q => some (p, q)) =
    T16c F (fun z => some ((z, ()), ())) := by kernel_rfl
theorem ok16 (F : Nat) : Sound Tryd.prog cfg 16 (ct16 F) :=
  mkC_ok (E := E16 F) (lp := []) (code := bodyOf Tryd.f16) Tryd.func16 rfl Tryd.ntmps16 rfl rfl cok (cts16 F) mixed trivial (by kernel_rfl) (fun x y k => T16c F k) (fun x y k => T16n F k) (eq16 F)
end Go.Proofs.YtjghgfohpihhfaaDoor
/- kinkeep/kinkeeplaw11.short: its twin, and that the call does what the twin says. Printed by a program. -/
namespace Go.Proofs.YtjghgfohpihhfaaDoor
open Go.Tw
set_option linter.unusedSimpArgs false
set_option linter.unusedVariables false
def ord17 : Nat → List (Tag × Nat)
  | _ => []
def al17 : Nat → Option Nat
  | _ => none
def E17 (F : Nat) : Ev := ⟨cfg, 15, ctOf [], ord17, ctOf [], al17⟩
theorem cts17 (F : Nat) : CtsOk Tryd.prog (E17 F) := cts_of (l := []) (l' := []) rfl rfl trivial trivial
def L17_2c (F : Nat) (y7 : List (List UInt8)) (y8 : Int) (y9 : Int) {β : Type} (kA : Int → Option β) (kO : Unit → Option β) (kR : Bool → Option β) : Option β :=
  (bif (decide (y9 < y8)) then (Option.bind (ix y7 y9) fun x11 => (bif (decide ((400 : Int) < (x11.length : Int))) then (kR false) else (kA (w64 (y9 + (1 : Int)))))) else (kO ()))
def L17_2 (F : Nat) (y7 : List (List UInt8)) (y8 : Int) (y9 : Int) : Option ((Int) ⊕ ((Unit) ⊕ (Bool))) := L17_2c F y7 y8 y9 (fun s => some (.inl s)) (fun z => some (.inr (.inl z))) (fun z => some (.inr (.inr z)))
theorem L17_2n (F : Nat) (y7 : List (List UInt8)) (y8 : Int) (y9 : Int) {β : Type} (kA : Int → Option β) (kO : Unit → Option β) (kR : Bool → Option β) : L17_2c F y7 y8 y9 kA kO kR = (L17_2 F y7 y8 y9).bind (elimS kA (elimS kO kR)) := by
  simp only [L17_2, L17_2c, Option.bind_assoc, cond_bind, Option.bind_some, elimS_l, elimS_r, elimS_bind]
@[reducible] def sA17_2 : List Sh := [(.ro (.sl .u8)), .i, .i]
@[reducible] def sA117_2 : List Sh := []
@[reducible] def sA217_2 : List Sh := [.bo]
@[reducible] def sT17_2 : List TSh := []
@[reducible] def sT117_2 : List TSh := []
@[reducible] def sT217_2 : List TSh := []
def lc17_2 (F : Nat) : Lc := mkR [5, 6, 7] sA17_2 sT17_2 [] sA117_2 sT117_2 [2] sA217_2 sT217_2 F (fun x y (s : Int) => L17_2 F x.1 x.2.1 s) (fun x y => x.2.2.1) (fun x y (z : Unit) => ((), ())) (fun x y (z : Bool) => ((z, ()), ()))
theorem le17_2 (F : Nat) (x : dens sA17_2) (y : tdens sT17_2) (s : Int) : sev (E17 F) 0 [] (cAt (bodyOf Tryd.f17) (0 :: 0 :: [1, 0, 1])) (0 :: 0 :: [1, 0, 1]) (mkSt [5, 6, 7] sA17_2 sT17_2 (x.1, x.2.1, s, ()) ()) (kLoop 0 [5, 6, 7] sA17_2 sT17_2 [] sA117_2 sT117_2 [2] sA217_2 sT217_2 0 (fun x y => some (.inl (x, y))) (fun x y => some (.inr (.inl (x, y)))) (fun x y => some (.inr (.inr (x, y))))) =
    L17_2c (β := Full sA17_2 sT17_2 sA117_2 sT117_2 sA217_2 sT217_2) F x.1 x.2.1 s (fun s => some (.inl ((x.1, x.2.1, s, ()), ()))) (fun z => some (.inr (.inl ((), ())))) (fun z => some (.inr (.inr ((z, ()), ())))) := by kernel_rfl
theorem lo17_2 (F : Nat) : LcOk Tryd.prog (E17 F) 0 (lc17_2 F) (cAt (bodyOf Tryd.f17) [1, 0, 1]) :=
  mkR_ok (lp := []) (id := 0) (b := cAt (bodyOf Tryd.f17) (0 :: 0 :: [1, 0, 1])) cok (cts17 F) mixed trivial (by kernel_rfl) (by kernel_rfl) (fun x y s => (x.1, x.2.1, s, ())) (fun x y s => ()) (fun x y => rfl) (fun x y => rfl) (fun x y s kA kO kR => L17_2c F x.1 x.2.1 s kA kO kR) (fun x y s kA kO kR => L17_2n F x.1 x.2.1 s kA kO kR) (le17_2 F)
def T17c (F : Nat) (p0 : List (List UInt8)) {β : Type} (k : Bool → Option β) : Option β :=
  (Option.bind (iter (fun s => L17_2 F p0 (p0.length : Int) s) F (0 : Int)) fun z12 => elimS (fun z12 => (k true)) (fun z12 => (k z12)) z12)
def T17 (F : Nat) (p0 : List (List UInt8)) : Option (Bool) := T17c F p0 some
theorem T17n (F : Nat) (p0 : List (List UInt8)) {β : Type} (k : Bool → Option β) : T17c F p0 k = (T17 F p0).bind k := by
  simp only [T17, T17c, Option.bind_assoc, cond_bind, Option.bind_some, elimS_bind]
@[reducible] def cA17 : List Sh := [(.ro (.sl .u8))]
@[reducible] def cB17 : List Sh := [.bo]
@[reducible] def cT17 : List TSh := []
@[reducible] def cU17 : List TSh := []
def ct17 (F : Nat) : Ct := mkC 0 cA17 cT17 cB17 cU17 (fun x y => T17 F x.1) (fun x y (z : Bool) => ((z, ()), ()))
theorem eq17 (F : Nat) (x : dens cA17) (y : tdens cT17) : sev (E17 F) 0 [([1, 0, 1], lc17_2 F)] (bodyOf Tryd.f17) [] (mkSt (rng 1) cA17 cT17 x y) (kFn (E17 F) 0 Tryd.f17.results.toList cB17 cU17 fun p q => some (p, q)) =
    T17c F x.1 (fun z => some ((z, ()), ())) := by kernel_rfl
theorem ok17 (F : Nat) : Sound Tryd.prog cfg 17 (ct17 F) :=
  mkC_ok (E := E17 F) (lp := [([1, 0, 1], lc17_2 F)]) (code := bodyOf Tryd.f17) Tryd.func17 rfl Tryd.ntmps17 rfl rfl cok (cts17 F) mixed ⟨lo17_2 F, trivial⟩ (by kernel_rfl) (fun x y k => T17c F x.1 k) (fun x y k => T17n F x.1 k) (eq17 F)
end Go.Proofs.YtjghgfohpihhfaaDoor
/- kinkeep/kinkeeplaw11.small: its twin, and that the call does what the twin says. Printed by a program. -/
namespace Go.Proofs.YtjghgfohpihhfaaDoor
open Go.Tw
set_option linter.unusedSimpArgs false
set_option linter.unusedVariables false
def ord22 : Nat → List (Tag × Nat)
  | _ => []
def al22 : Nat → Option Nat
  | _ => none
def E22 (F : Nat) : Ev := ⟨cfg, 23, ctOf [], ord22, ctOf [], al22⟩
theorem cts22 (F : Nat) : CtsOk Tryd.prog (E22 F) := cts_of (l := []) (l' := []) rfl rfl trivial trivial
def T22c (F : Nat) (p0 : List UInt8) (p1 : List UInt8) (p2 : List UInt8) (p3 : List UInt8) (p4 : List UInt8) {β : Type} (k : Bool → Option β) : Option β :=
  (k (decide ((w64 ((w64 ((w64 ((w64 ((p0.length : Int) + (p1.length : Int))) + (p2.length : Int))) + (p3.length : Int))) + (p4.length : Int))) ≤ (400 : Int))))
def T22 (F : Nat) (p0 : List UInt8) (p1 : List UInt8) (p2 : List UInt8) (p3 : List UInt8) (p4 : List UInt8) : Option (Bool) := T22c F p0 p1 p2 p3 p4 some
theorem T22n (F : Nat) (p0 : List UInt8) (p1 : List UInt8) (p2 : List UInt8) (p3 : List UInt8) (p4 : List UInt8) {β : Type} (k : Bool → Option β) : T22c F p0 p1 p2 p3 p4 k = (T22 F p0 p1 p2 p3 p4).bind k := by
  simp only [T22, T22c, Option.bind_assoc, cond_bind, Option.bind_some, elimS_bind]
@[reducible] def cA22 : List Sh := [(.pr .str (.pr .str (.pr .str (.pr .str (.pr .str .un)))))]
@[reducible] def cB22 : List Sh := [.bo]
@[reducible] def cT22 : List TSh := []
@[reducible] def cU22 : List TSh := []
def ct22 (F : Nat) : Ct := mkC 0 cA22 cT22 cB22 cU22 (fun x y => T22 F x.1.1 x.1.2.1 x.1.2.2.1 x.1.2.2.2.1 x.1.2.2.2.2.1) (fun x y (z : Bool) => ((z, ()), ()))
theorem eq22 (F : Nat) (x : dens cA22) (y : tdens cT22) : sev (E22 F) 0 [] (bodyOf Tryd.f22) [] (mkSt (rng 1) cA22 cT22 x y) (kFn (E22 F) 0 Tryd.f22.results.toList cB22 cU22 fun p q => some (p, q)) =
    T22c F x.1.1 x.1.2.1 x.1.2.2.1 x.1.2.2.2.1 x.1.2.2.2.2.1 (fun z => some ((z, ()), ())) := by kernel_rfl
theorem ok22 (F : Nat) : Sound Tryd.prog cfg 22 (ct22 F) :=
  mkC_ok (E := E22 F) (lp := []) (code := bodyOf Tryd.f22) Tryd.func22 rfl Tryd.ntmps22 rfl rfl cok (cts22 F) mixed trivial (by kernel_rfl) (fun x y k => T22c F x.1.1 x.1.2.1 x.1.2.2.1 x.1.2.2.2.1 x.1.2.2.2.2.1 k) (fun x y k => T22n F x.1.1 x.1.2.1 x.1.2.2.1 x.1.2.2.2.1 x.1.2.2.2.2.1 k) (eq22 F)
end Go.Proofs.YtjghgfohpihhfaaDoor
/- kinkeep/kinkeepref11.ValidKeys: its twin, and that the call does what the twin says. Printed by a program. -/
namespace Go.Proofs.YtjghgfohpihhfaaDoor
open Go.Tw
set_option linter.unusedSimpArgs false
set_option linter.unusedVariables false
def ord52 : Nat → List (Tag × Nat)
  | _ => []
def al52 : Nat → Option Nat
  | _ => none
def E52 (F : Nat) : Ev := ⟨cfg, 31, ctOf [], ord52, ctOf [], al52⟩
theorem cts52 (F : Nat) : CtsOk Tryd.prog (E52 F) := cts_of (l := []) (l' := []) rfl rfl trivial trivial
def T52c (F : Nat) (p0 : List UInt8) (p1 : List UInt8) (p2 : List UInt8) (p3 : List UInt8) (p4 : List UInt8) {β : Type} (k : Bool → Option β) : Option β :=
  (bif ((p0.length : Int) == (32 : Int)) then (bif ((p1.length : Int) == (32 : Int)) then (bif ((p2.length : Int) == (32 : Int)) then (bif ((p3.length : Int) == (32 : Int)) then (k ((p4.length : Int) == (32 : Int))) else (k false)) else (k false)) else (k false)) else (k false))
def T52 (F : Nat) (p0 : List UInt8) (p1 : List UInt8) (p2 : List UInt8) (p3 : List UInt8) (p4 : List UInt8) : Option (Bool) := T52c F p0 p1 p2 p3 p4 some
theorem T52n (F : Nat) (p0 : List UInt8) (p1 : List UInt8) (p2 : List UInt8) (p3 : List UInt8) (p4 : List UInt8) {β : Type} (k : Bool → Option β) : T52c F p0 p1 p2 p3 p4 k = (T52 F p0 p1 p2 p3 p4).bind k := by
  simp only [T52, T52c, Option.bind_assoc, cond_bind, Option.bind_some, elimS_bind]
@[reducible] def cA52 : List Sh := [(.pr .str (.pr .str (.pr .str (.pr .str (.pr .str .un)))))]
@[reducible] def cB52 : List Sh := [.bo]
@[reducible] def cT52 : List TSh := []
@[reducible] def cU52 : List TSh := []
def ct52 (F : Nat) : Ct := mkC 0 cA52 cT52 cB52 cU52 (fun x y => T52 F x.1.1 x.1.2.1 x.1.2.2.1 x.1.2.2.2.1 x.1.2.2.2.2.1) (fun x y (z : Bool) => ((z, ()), ()))
theorem eq52 (F : Nat) (x : dens cA52) (y : tdens cT52) : sev (E52 F) 0 [] (bodyOf Tryd.f52) [] (mkSt (rng 1) cA52 cT52 x y) (kFn (E52 F) 0 Tryd.f52.results.toList cB52 cU52 fun p q => some (p, q)) =
    T52c F x.1.1 x.1.2.1 x.1.2.2.1 x.1.2.2.2.1 x.1.2.2.2.2.1 (fun z => some ((z, ()), ())) := by kernel_rfl
theorem ok52 (F : Nat) : Sound Tryd.prog cfg 52 (ct52 F) :=
  mkC_ok (E := E52 F) (lp := []) (code := bodyOf Tryd.f52) Tryd.func52 rfl Tryd.ntmps52 rfl rfl cok (cts52 F) mixed trivial (by kernel_rfl) (fun x y k => T52c F x.1.1 x.1.2.1 x.1.2.2.1 x.1.2.2.2.1 x.1.2.2.2.2.1 k) (fun x y k => T52n F x.1.1 x.1.2.1 x.1.2.2.1 x.1.2.2.2.1 x.1.2.2.2.2.1 k) (eq52 F)
end Go.Proofs.YtjghgfohpihhfaaDoor
/- kinkeep/kinkeepref01.Number: its twin, and that the call does what the twin says. Printed by a program. -/
namespace Go.Proofs.YtjghgfohpihhfaaDoor
open Go.Tw
set_option linter.unusedSimpArgs false
set_option linter.unusedVariables false
def ord45 : Nat → List (Tag × Nat)
  | _ => []
def al45 : Nat → Option Nat
  | _ => none
def E45 (F : Nat) : Ev := ⟨cfg, 21, ctOf [], ord45, ctOf [], al45⟩
theorem cts45 (F : Nat) : CtsOk Tryd.prog (E45 F) := cts_of (l := []) (l' := []) rfl rfl trivial trivial
def L45_2c (F : Nat) (y7 : UInt64) (y8 : List UInt8) {β : Type} (kA : (UInt64 × (List UInt8)) → Option β) (kO : (UInt64 × (List UInt8)) → Option β) : Option β :=
  (bif (decide ((UInt64.ofNat 127) < y7)) then (Option.bind (gapp y8 ([(((y7 % (UInt64.ofNat 128)).toUInt8) + (UInt8.ofNat 128))] : List UInt8)) fun x10 => (kA ((y7 / (UInt64.ofNat 128)), x10))) else (kO (y7, y8)))
def L45_2 (F : Nat) (y7 : UInt64) (y8 : List UInt8) : Option ((UInt64 × (List UInt8)) ⊕ (UInt64 × (List UInt8))) := L45_2c F y7 y8 (fun s => some (.inl s)) (fun z => some (.inr z))
theorem L45_2n (F : Nat) (y7 : UInt64) (y8 : List UInt8) {β : Type} (kA : (UInt64 × (List UInt8)) → Option β) (kO : (UInt64 × (List UInt8)) → Option β) : L45_2c F y7 y8 kA kO = (L45_2 F y7 y8).bind (elimS kA kO) := by
  simp only [L45_2, L45_2c, Option.bind_assoc, cond_bind, Option.bind_some, elimS_l, elimS_r, elimS_bind]
@[reducible] def sA45_2 : List Sh := [.u64, (.rw 0)]
@[reducible] def sA145_2 : List Sh := [.u64, (.rw 0)]
@[reducible] def sT45_2 : List TSh := [.row 5 .u8]
@[reducible] def sT145_2 : List TSh := [.row 5 .u8]
def lc45_2 (F : Nat) : Lc := mkL [0, 3] sA45_2 sT45_2 [0, 3] sA145_2 sT145_2 F (fun x y (s : UInt64 × (List UInt8)) => L45_2 F s.1 s.2) (fun x y => (x.1, y.1)) (fun x y (z : UInt64 × (List UInt8)) => ((z.1, (), ()), (z.2, ())))
theorem le45_2 (F : Nat) (x : dens sA45_2) (y : tdens sT45_2) (s : UInt64 × (List UInt8)) : sev (E45 F) 0 [] (cAt (bodyOf Tryd.f45) (0 :: 0 :: [0, 1, 1])) (0 :: 0 :: [0, 1, 1]) (mkSt [0, 3] sA45_2 sT45_2 (s.1, (), ()) (s.2, ())) (kLoop 0 [0, 3] sA45_2 sT45_2 [0, 3] sA145_2 sT145_2 [] [] [] 0 (fun x y => some (.inl (x, y))) (fun x y => some (.inr (.inl (x, y)))) (fun x y => some (.inr (.inr (x, y))))) =
    L45_2c (β := Full sA45_2 sT45_2 sA145_2 sT145_2 [] []) F s.1 s.2 (fun s => some (.inl ((s.1, (), ()), (s.2, ())))) (fun z => some (.inr (.inl ((z.1, (), ()), (z.2, ()))))) := by kernel_rfl
theorem lo45_2 (F : Nat) : LcOk Tryd.prog (E45 F) 0 (lc45_2 F) (cAt (bodyOf Tryd.f45) [0, 1, 1]) :=
  mkL_ok (lp := []) (id := 0) (b := cAt (bodyOf Tryd.f45) (0 :: 0 :: [0, 1, 1])) cok (cts45 F) mixed trivial (by kernel_rfl) (by kernel_rfl) (fun x y s => (s.1, (), ())) (fun x y s => (s.2, ())) (fun x y => rfl) (fun x y => rfl) (fun x y s kA kO => L45_2c F s.1 s.2 kA kO) (fun x y s kA kO => L45_2n F s.1 s.2 kA kO) (le45_2 F)
def T45c (F : Nat) (p0 : UInt64) {β : Type} (k : ((List UInt8)) → Option β) : Option β :=
  (Option.bind (iter (fun s => L45_2 F s.1 s.2) F (p0, ([] : List UInt8))) fun z11 => (Option.bind (gapp z11.2 ([(z11.1.toUInt8)] : List UInt8)) fun x12 => (k x12)))
def T45 (F : Nat) (p0 : UInt64) : Option ((List UInt8)) := T45c F p0 some
theorem T45n (F : Nat) (p0 : UInt64) {β : Type} (k : ((List UInt8)) → Option β) : T45c F p0 k = (T45 F p0).bind k := by
  simp only [T45, T45c, Option.bind_assoc, cond_bind, Option.bind_some, elimS_bind]
@[reducible] def cA45 : List Sh := [.u64]
@[reducible] def cB45 : List Sh := [(.rw 0)]
@[reducible] def cT45 : List TSh := []
@[reducible] def cU45 : List TSh := [.row 5 .u8]
def ct45 (F : Nat) : Ct := mkC 0 cA45 cT45 cB45 cU45 (fun x y => T45 F x.1) (fun x y (z : (List UInt8)) => (((), ()), (z, ())))
theorem eq45 (F : Nat) (x : dens cA45) (y : tdens cT45) : sev (E45 F) 0 [([0, 1, 1], lc45_2 F)] (bodyOf Tryd.f45) [] (mkSt (rng 1) cA45 cT45 x y) (kFn (E45 F) 0 Tryd.f45.results.toList cB45 cU45 fun p q => some (p, q)) =
    T45c F x.1 (fun z => some (((), ()), (z, ()))) := by kernel_rfl
theorem ok45 (F : Nat) : Sound Tryd.prog cfg 45 (ct45 F) :=
  mkC_ok (E := E45 F) (lp := [([0, 1, 1], lc45_2 F)]) (code := bodyOf Tryd.f45) Tryd.func45 rfl Tryd.ntmps45 rfl rfl cok (cts45 F) mixed ⟨lo45_2 F, trivial⟩ (by kernel_rfl) (fun x y k => T45c F x.1 k) (fun x y k => T45n F x.1 k) (eq45 F)
end Go.Proofs.YtjghgfohpihhfaaDoor
/- kinkeep/kinkeepref03.Pad: its twin, and that the call does what the twin says. Printed by a program. -/
namespace Go.Proofs.YtjghgfohpihhfaaDoor
open Go.Tw
set_option linter.unusedSimpArgs false
set_option linter.unusedVariables false
def ord84 : Nat → List (Tag × Nat)
  | _ => []
def al84 : Nat → Option Nat
  | _ => none
def E84 (F : Nat) : Ev := ⟨cfg, 35, ctOf [], ord84, ctOf [], al84⟩
theorem cts84 (F : Nat) : CtsOk Tryd.prog (E84 F) := cts_of (l := []) (l' := []) rfl rfl trivial trivial
def L84_3c (F : Nat) (y19 : List UInt8) {β : Type} (kA : ((List UInt8)) → Option β) (kO : ((List UInt8)) → Option β) : Option β :=
  (bif ((Int.tmod (y19.length : Int) (64 : Int)) != (56 : Int)) then (Option.bind (gapp y19 ([(UInt8.ofNat 0)] : List UInt8)) fun x21 => (kA x21)) else (kO y19))
def L84_3 (F : Nat) (y19 : List UInt8) : Option (((List UInt8)) ⊕ ((List UInt8))) := L84_3c F y19 (fun s => some (.inl s)) (fun z => some (.inr z))
theorem L84_3n (F : Nat) (y19 : List UInt8) {β : Type} (kA : ((List UInt8)) → Option β) (kO : ((List UInt8)) → Option β) : L84_3c F y19 kA kO = (L84_3 F y19).bind (elimS kA kO) := by
  simp only [L84_3, L84_3c, Option.bind_assoc, cond_bind, Option.bind_some, elimS_l, elimS_r, elimS_bind]
@[reducible] def sA84_3 : List Sh := [(.ro .u8), (.rw 0)]
@[reducible] def sA184_3 : List Sh := [(.ro .u8), (.rw 0)]
@[reducible] def sT84_3 : List TSh := [.row 5 .u8]
@[reducible] def sT184_3 : List TSh := [.row 5 .u8]
def lc84_3 (F : Nat) : Lc := mkL [0, 3] sA84_3 sT84_3 [0, 3] sA184_3 sT184_3 F (fun x y (s : (List UInt8)) => L84_3 F s) (fun x y => y.1) (fun x y (z : (List UInt8)) => ((x.1, (), ()), (z, ())))
theorem le84_3 (F : Nat) (x : dens sA84_3) (y : tdens sT84_3) (s : (List UInt8)) : sev (E84 F) 0 [] (cAt (bodyOf Tryd.f84) (0 :: 0 :: [0, 1, 1])) (0 :: 0 :: [0, 1, 1]) (mkSt [0, 3] sA84_3 sT84_3 (x.1, (), ()) (s, ())) (kLoop 0 [0, 3] sA84_3 sT84_3 [0, 3] sA184_3 sT184_3 [] [] [] 0 (fun x y => some (.inl (x, y))) (fun x y => some (.inr (.inl (x, y)))) (fun x y => some (.inr (.inr (x, y))))) =
    L84_3c (β := Full sA84_3 sT84_3 sA184_3 sT184_3 [] []) F s (fun s => some (.inl ((x.1, (), ()), (s, ())))) (fun z => some (.inr (.inl ((x.1, (), ()), (z, ()))))) := by kernel_rfl
theorem lo84_3 (F : Nat) : LcOk Tryd.prog (E84 F) 0 (lc84_3 F) (cAt (bodyOf Tryd.f84) [0, 1, 1]) :=
  mkL_ok (lp := []) (id := 0) (b := cAt (bodyOf Tryd.f84) (0 :: 0 :: [0, 1, 1])) cok (cts84 F) mixed trivial (by kernel_rfl) (by kernel_rfl) (fun x y s => (x.1, (), ())) (fun x y s => (s, ())) (fun x y => rfl) (fun x y => rfl) (fun x y s kA kO => L84_3c F s kA kO) (fun x y s kA kO => L84_3n F s kA kO) (le84_3 F)
def L84_4c (F : Nat) (y23 : UInt64) (y24 : Int) (y25 : List UInt8) {β : Type} (kA : (Int × (List UInt8)) → Option β) (kO : ((List UInt8)) → Option β) : Option β :=
  (bif (decide ((0 : Int) ≤ y24)) then (Option.bind (gnn (w64 ((8 : Int) * y24))) fun x28 => (Option.bind (gapp y25 ([((shr64 y23 x28).toUInt8)] : List UInt8)) fun x29 => (kA ((w64 (y24 - (1 : Int))), x29)))) else (kO y25))
def L84_4 (F : Nat) (y23 : UInt64) (y24 : Int) (y25 : List UInt8) : Option ((Int × (List UInt8)) ⊕ ((List UInt8))) := L84_4c F y23 y24 y25 (fun s => some (.inl s)) (fun z => some (.inr z))
theorem L84_4n (F : Nat) (y23 : UInt64) (y24 : Int) (y25 : List UInt8) {β : Type} (kA : (Int × (List UInt8)) → Option β) (kO : ((List UInt8)) → Option β) : L84_4c F y23 y24 y25 kA kO = (L84_4 F y23 y24 y25).bind (elimS kA kO) := by
  simp only [L84_4, L84_4c, Option.bind_assoc, cond_bind, Option.bind_some, elimS_l, elimS_r, elimS_bind]
@[reducible] def sA84_4 : List Sh := [(.rw 0), .u64, .i]
@[reducible] def sA184_4 : List Sh := [(.rw 0)]
@[reducible] def sT84_4 : List TSh := [.row 5 .u8]
@[reducible] def sT184_4 : List TSh := [.row 5 .u8]
def lc84_4 (F : Nat) : Lc := mkL [3, 4, 5] sA84_4 sT84_4 [3] sA184_4 sT184_4 F (fun x y (s : Int × (List UInt8)) => L84_4 F x.2.1 s.1 s.2) (fun x y => (x.2.2.1, y.1)) (fun x y (z : (List UInt8)) => (((), ()), (z, ())))
theorem le84_4 (F : Nat) (x : dens sA84_4) (y : tdens sT84_4) (s : Int × (List UInt8)) : sev (E84 F) 0 [] (cAt (bodyOf Tryd.f84) (0 :: 0 :: [1, 0, 1, 1, 1, 1])) (0 :: 0 :: [1, 0, 1, 1, 1, 1]) (mkSt [3, 4, 5] sA84_4 sT84_4 ((), x.2.1, s.1, ()) (s.2, ())) (kLoop 0 [3, 4, 5] sA84_4 sT84_4 [3] sA184_4 sT184_4 [] [] [] 2 (fun x y => some (.inl (x, y))) (fun x y => some (.inr (.inl (x, y)))) (fun x y => some (.inr (.inr (x, y))))) =
    L84_4c (β := Full sA84_4 sT84_4 sA184_4 sT184_4 [] []) F x.2.1 s.1 s.2 (fun s => some (.inl (((), x.2.1, s.1, ()), (s.2, ())))) (fun z => some (.inr (.inl (((), ()), (z, ()))))) := by kernel_rfl
theorem lo84_4 (F : Nat) : LcOk Tryd.prog (E84 F) 0 (lc84_4 F) (cAt (bodyOf Tryd.f84) [1, 0, 1, 1, 1, 1]) :=
  mkL_ok (lp := []) (id := 2) (b := cAt (bodyOf Tryd.f84) (0 :: 0 :: [1, 0, 1, 1, 1, 1])) cok (cts84 F) mixed trivial (by kernel_rfl) (by kernel_rfl) (fun x y s => ((), x.2.1, s.1, ())) (fun x y s => (s.2, ())) (fun x y => rfl) (fun x y => rfl) (fun x y s kA kO => L84_4c F x.2.1 s.1 s.2 kA kO) (fun x y s kA kO => L84_4n F x.2.1 s.1 s.2 kA kO) (le84_4 F)
def T84c (F : Nat) (p0 : List UInt8) {β : Type} (k : ((List UInt8)) → Option β) : Option β :=
  (Option.bind (gapp ([] : List UInt8) p0) fun x16 => (Option.bind (gapp x16 ([(UInt8.ofNat 128)] : List UInt8)) fun x17 => (Option.bind (iter (fun s => L84_3 F s) F x17) fun z22 => (Option.bind (iter (fun s => L84_4 F ((UInt64.ofInt (p0.length : Int)) * (UInt64.ofNat 8)) s.1 s.2) F ((7 : Int), z22)) fun z30 => (k z30)))))
def T84 (F : Nat) (p0 : List UInt8) : Option ((List UInt8)) := T84c F p0 some
theorem T84n (F : Nat) (p0 : List UInt8) {β : Type} (k : ((List UInt8)) → Option β) : T84c F p0 k = (T84 F p0).bind k := by
  simp only [T84, T84c, Option.bind_assoc, cond_bind, Option.bind_some, elimS_bind]
@[reducible] def cA84 : List Sh := [(.ro .u8)]
@[reducible] def cB84 : List Sh := [(.rw 0)]
@[reducible] def cT84 : List TSh := []
@[reducible] def cU84 : List TSh := [.row 5 .u8]
def ct84 (F : Nat) : Ct := mkC 0 cA84 cT84 cB84 cU84 (fun x y => T84 F x.1) (fun x y (z : (List UInt8)) => (((), ()), (z, ())))
theorem eq84 (F : Nat) (x : dens cA84) (y : tdens cT84) : sev (E84 F) 0 [([0, 1, 1], lc84_3 F), ([1, 0, 1, 1, 1, 1], lc84_4 F)] (bodyOf Tryd.f84) [] (mkSt (rng 1) cA84 cT84 x y) (kFn (E84 F) 0 Tryd.f84.results.toList cB84 cU84 fun p q => some (p, q)) =
    T84c F x.1 (fun z => some (((), ()), (z, ()))) := by kernel_rfl
theorem ok84 (F : Nat) : Sound Tryd.prog cfg 84 (ct84 F) :=
  mkC_ok (E := E84 F) (lp := [([0, 1, 1], lc84_3 F), ([1, 0, 1, 1, 1, 1], lc84_4 F)]) (code := bodyOf Tryd.f84) Tryd.func84 rfl Tryd.ntmps84 rfl rfl cok (cts84 F) mixed ⟨lo84_3 F, ⟨lo84_4 F, trivial⟩⟩ (by kernel_rfl) (fun x y k => T84c F x.1 k) (fun x y k => T84n F x.1 k) (eq84 F)
end Go.Proofs.YtjghgfohpihhfaaDoor
/- kinkeep/kinkeepref03.constants: its twin, and that the call does what the twin says. Printed by a program. -/
namespace Go.Proofs.YtjghgfohpihhfaaDoor
open Go.Tw
set_option linter.unusedSimpArgs false
set_option linter.unusedVariables false
def ord92 : Nat → List (Tag × Nat)
  | _ => []
def al92 : Nat → Option Nat
  | _ => none
def E92 (F : Nat) : Ev := ⟨cfg, 2, ctOf [], ord92, ctOf [], al92⟩
theorem cts92 (F : Nat) : CtsOk Tryd.prog (E92 F) := cts_of (l := []) (l' := []) rfl rfl trivial trivial
def T92c (F : Nat) {β : Type} (k : ((Vector UInt32 64)) → Option β) : Option β :=
  (k (#v[(UInt32.ofNat 1116352408), (UInt32.ofNat 1899447441), (UInt32.ofNat 3049323471), (UInt32.ofNat 3921009573), (UInt32.ofNat 961987163), (UInt32.ofNat 1508970993), (UInt32.ofNat 2453635748), (UInt32.ofNat 2870763221), (UInt32.ofNat 3624381080), (UInt32.ofNat 310598401), (UInt32.ofNat 607225278), (UInt32.ofNat 1426881987), (UInt32.ofNat 1925078388), (UInt32.ofNat 2162078206), (UInt32.ofNat 2614888103), (UInt32.ofNat 3248222580), (UInt32.ofNat 3835390401), (UInt32.ofNat 4022224774), (UInt32.ofNat 264347078), (UInt32.ofNat 604807628), (UInt32.ofNat 770255983), (UInt32.ofNat 1249150122), (UInt32.ofNat 1555081692), (UInt32.ofNat 1996064986), (UInt32.ofNat 2554220882), (UInt32.ofNat 2821834349), (UInt32.ofNat 2952996808), (UInt32.ofNat 3210313671), (UInt32.ofNat 3336571891), (UInt32.ofNat 3584528711), (UInt32.ofNat 113926993), (UInt32.ofNat 338241895), (UInt32.ofNat 666307205), (UInt32.ofNat 773529912), (UInt32.ofNat 1294757372), (UInt32.ofNat 1396182291), (UInt32.ofNat 1695183700), (UInt32.ofNat 1986661051), (UInt32.ofNat 2177026350), (UInt32.ofNat 2456956037), (UInt32.ofNat 2730485921), (UInt32.ofNat 2820302411), (UInt32.ofNat 3259730800), (UInt32.ofNat 3345764771), (UInt32.ofNat 3516065817), (UInt32.ofNat 3600352804), (UInt32.ofNat 4094571909), (UInt32.ofNat 275423344), (UInt32.ofNat 430227734), (UInt32.ofNat 506948616), (UInt32.ofNat 659060556), (UInt32.ofNat 883997877), (UInt32.ofNat 958139571), (UInt32.ofNat 1322822218), (UInt32.ofNat 1537002063), (UInt32.ofNat 1747873779), (UInt32.ofNat 1955562222), (UInt32.ofNat 2024104815), (UInt32.ofNat 2227730452), (UInt32.ofNat 2361852424), (UInt32.ofNat 2428436474), (UInt32.ofNat 2756734187), (UInt32.ofNat 3204031479), (UInt32.ofNat 3329325298)] : Vector UInt32 64))
def T92 (F : Nat) : Option ((Vector UInt32 64)) := T92c F some
theorem T92n (F : Nat) {β : Type} (k : ((Vector UInt32 64)) → Option β) : T92c F k = (T92 F).bind k := by
  simp only [T92, T92c, Option.bind_assoc, cond_bind, Option.bind_some, elimS_bind]
@[reducible] def cA92 : List Sh := []
@[reducible] def cB92 : List Sh := [(.ar 64 .u32)]
@[reducible] def cT92 : List TSh := []
@[reducible] def cU92 : List TSh := []
def ct92 (F : Nat) : Ct := mkC 0 cA92 cT92 cB92 cU92 (fun x y => T92 F) (fun x y (z : (Vector UInt32 64)) => ((z, ()), ()))
theorem eq92 (F : Nat) (x : dens cA92) (y : tdens cT92) : sev (E92 F) 0 [] (bodyOf Tryd.f92) [] (mkSt (rng 0) cA92 cT92 x y) (kFn (E92 F) 0 Tryd.f92.results.toList cB92 cU92 fun p q => some (p, q)) =
    T92c F (fun z => some ((z, ()), ())) := by kernel_rfl
theorem ok92 (F : Nat) : Sound Tryd.prog cfg 92 (ct92 F) :=
  mkC_ok (E := E92 F) (lp := []) (code := bodyOf Tryd.f92) Tryd.func92 rfl Tryd.ntmps92 rfl rfl cok (cts92 F) mixed trivial (by kernel_rfl) (fun x y k => T92c F k) (fun x y k => T92n F k) (eq92 F)
end Go.Proofs.YtjghgfohpihhfaaDoor
/- kinkeep/kinkeepref03.rotr: its twin, and that the call does what the twin says. Printed by a program. -/
namespace Go.Proofs.YtjghgfohpihhfaaDoor
open Go.Tw
set_option linter.unusedSimpArgs false
set_option linter.unusedVariables false
def ord93 : Nat → List (Tag × Nat)
  | 1 => [(.p, 0), (.p, 1), (.p, 2), (.p, 3), (.p, 4), (.p, 5), (.p, 6), (.p, 7), (.p, 8)]
  | _ => []
def al93 : Nat → Option Nat
  | _ => none
def E93 (F : Nat) : Ev := ⟨cfg, 13, ctOf [], ord93, ctOf [], al93⟩
theorem cts93 (F : Nat) : CtsOk Tryd.prog (E93 F) := cts_of (l := []) (l' := []) rfl rfl trivial trivial
def T93c (F : Nat) (p0 : UInt32) (p1 : Int) {β : Type} (k : UInt32 → Option β) : Option β :=
  (Option.bind (gnn p1) fun x3 => (Option.bind (gnn (w64 ((32 : Int) - p1))) fun x4 => (k ((shr32 p0 x3) ||| (shl32 p0 x4)))))
def T93 (F : Nat) (p0 : UInt32) (p1 : Int) : Option (UInt32) := T93c F p0 p1 some
theorem T93n (F : Nat) (p0 : UInt32) (p1 : Int) {β : Type} (k : UInt32 → Option β) : T93c F p0 p1 k = (T93 F p0 p1).bind k := by
  simp only [T93, T93c, Option.bind_assoc, cond_bind, Option.bind_some, elimS_bind]
@[reducible] def cA93 : List Sh := [.u32, .i]
@[reducible] def cB93 : List Sh := [.u32]
@[reducible] def cT93 : List TSh := []
@[reducible] def cU93 : List TSh := []
def ct93 (F : Nat) : Ct := mkC 0 cA93 cT93 cB93 cU93 (fun x y => T93 F x.1 x.2.1) (fun x y (z : UInt32) => ((z, ()), ()))
theorem eq93 (F : Nat) (x : dens cA93) (y : tdens cT93) : sev (E93 F) 0 [] (bodyOf Tryd.f93) [] (mkSt (rng 2) cA93 cT93 x y) (kFn (E93 F) 0 Tryd.f93.results.toList cB93 cU93 fun p q => some (p, q)) =
    T93c F x.1 x.2.1 (fun z => some ((z, ()), ())) := by kernel_rfl
theorem ok93 (F : Nat) : Sound Tryd.prog cfg 93 (ct93 F) :=
  mkC_ok (E := E93 F) (lp := []) (code := bodyOf Tryd.f93) Tryd.func93 rfl Tryd.ntmps93 rfl rfl cok (cts93 F) mixed trivial (by kernel_rfl) (fun x y k => T93c F x.1 x.2.1 k) (fun x y k => T93n F x.1 x.2.1 k) (eq93 F)
end Go.Proofs.YtjghgfohpihhfaaDoor
/- kinkeep/kinkeepref03.Block: its twin, and that the call does what the twin says. Printed by a program. -/
namespace Go.Proofs.YtjghgfohpihhfaaDoor
open Go.Tw
set_option linter.unusedSimpArgs false
set_option linter.unusedVariables false
def ord85 : Nat → List (Tag × Nat)
  | 6 => [(.p, 0), (.p, 1), (.p, 2), (.p, 3), (.p, 4), (.r, 5), (.p, 6), (.p, 7), (.p, 8), (.p, 9), (.p, 10), (.p, 11), (.p, 12), (.r, 13), (.p, 14), (.p, 15), (.p, 16), (.p, 17), (.p, 18), (.p, 19), (.p, 20), (.p, 21), (.r, 22), (.p, 23), (.p, 24), (.p, 25), (.p, 26), (.p, 27), (.p, 28), (.p, 29), (.p, 30), (.r, 31), (.p, 32), (.p, 33), (.p, 34), (.w, 35)]
  | 10 => [(.p, 0), (.p, 1), (.p, 2), (.r, 3), (.p, 5), (.p, 6), (.p, 7), (.c, 8), (.p, 11), (.p, 12), (.p, 13), (.c, 14), (.p, 15), (.w, 4), (.w, 9), (.p, 10), (.p, 16), (.p, 17)]
  | 11 => [(.p, 0), (.p, 1), (.p, 2), (.r, 3), (.p, 5), (.p, 6), (.p, 7), (.c, 8), (.p, 11), (.p, 12), (.p, 13), (.c, 14), (.p, 15), (.w, 4), (.w, 9), (.p, 10), (.p, 16), (.p, 17)]
  | 12 => [(.p, 0), (.p, 1), (.p, 2), (.p, 3), (.p, 4), (.r, 5), (.p, 6), (.p, 7), (.p, 8), (.p, 9), (.p, 10), (.p, 11), (.r, 12), (.p, 13), (.p, 14), (.w, 15)]
  | 17 => [(.p, 0), (.r, 1), (.p, 2), (.r, 3), (.p, 4), (.r, 5), (.p, 6), (.r, 7), (.p, 8), (.r, 9), (.p, 10), (.r, 11), (.p, 12), (.p, 13), (.p, 14), (.p, 15), (.p, 16), (.p, 17)]
  | 18 => [(.p, 0), (.c, 1), (.p, 2), (.p, 4), (.p, 7), (.p, 11), (.p, 12), (.p, 13), (.p, 14), (.p, 15), (.p, 16), (.p, 17), (.p, 18), (.p, 20), (.p, 21), (.c, 22), (.p, 24), (.p, 25), (.c, 26), (.w, 3), (.w, 5), (.p, 6), (.w, 8), (.p, 9), (.p, 10), (.p, 19), (.p, 23), (.p, 27), (.p, 28)]
  | 24 => [(.p, 0), (.p, 1), (.r, 2), (.p, 3), (.p, 4), (.r, 5), (.p, 6), (.p, 7), (.w, 8)]
  | _ => []
def al85 : Nat → Option Nat
  | _ => none
def E85 (F : Nat) : Ev := ⟨cfg, 208, ctOf [(92, ct92 F), (93, ct93 F)], ord85, ctOf [], al85⟩
theorem cts85 (F : Nat) : CtsOk Tryd.prog (E85 F) := cts_of (l := [(92, ct92 F), (93, ct93 F)]) (l' := []) rfl rfl ⟨⟨ok92 F, _, Tryd.func92, rfl, rfl⟩, ⟨⟨ok93 F, _, Tryd.func93, rfl, rfl⟩, trivial⟩⟩ trivial
def L85_5c (F : Nat) (y126 : List UInt8) (y127 : Int) (y131 : Vector UInt32 64) {β : Type} (kA : (Int × (Vector UInt32 64)) → Option β) (kO : ((Vector UInt32 64)) → Option β) : Option β :=
  (bif (decide (y127 < (16 : Int))) then (Option.bind (ix y126 (w64 ((4 : Int) * y127))) fun x137 => (Option.bind (ix y126 (w64 ((w64 ((4 : Int) * y127)) + (1 : Int)))) fun x138 => (Option.bind (ix y126 (w64 ((w64 ((4 : Int) * y127)) + (2 : Int)))) fun x139 => (Option.bind (ix y126 (w64 ((w64 ((4 : Int) * y127)) + (3 : Int)))) fun x140 => (Option.bind (inb 64 y127) fun x141 => (kA ((w64 (y127 + (1 : Int))), (Vector.setIfInBounds y131 x141 ((((shl32 (x137.toUInt32) ((UInt64.ofNat 24).toNat)) ||| (shl32 (x138.toUInt32) ((UInt64.ofNat 16).toNat))) ||| (shl32 (x139.toUInt32) ((UInt64.ofNat 8).toNat))) ||| (x140.toUInt32)))))))))) else (kO y131))
def L85_5 (F : Nat) (y126 : List UInt8) (y127 : Int) (y131 : Vector UInt32 64) : Option ((Int × (Vector UInt32 64)) ⊕ ((Vector UInt32 64))) := L85_5c F y126 y127 y131 (fun s => some (.inl s)) (fun z => some (.inr z))
theorem L85_5n (F : Nat) (y126 : List UInt8) (y127 : Int) (y131 : Vector UInt32 64) {β : Type} (kA : (Int × (Vector UInt32 64)) → Option β) (kO : ((Vector UInt32 64)) → Option β) : L85_5c F y126 y127 y131 kA kO = (L85_5 F y126 y127 y131).bind (elimS kA kO) := by
  simp only [L85_5, L85_5c, Option.bind_assoc, cond_bind, Option.bind_some, elimS_l, elimS_r, elimS_bind]
@[reducible] def sA85_5 : List Sh := [(.ro .u8), (.pt 0 []), (.pt 1 []), (.pt 2 []), (.pt 3 []), .i]
@[reducible] def sA185_5 : List Sh := [(.pt 0 []), (.pt 1 []), (.pt 2 []), (.pt 3 [])]
@[reducible] def sT85_5 : List TSh := [.blk 103 (.ar 8 .u32), .blk 103 (.ar 8 .u32), .blk 123 (.ar 64 .u32), .blk 123 (.ar 64 .u32)]
@[reducible] def sT185_5 : List TSh := [.blk 103 (.ar 8 .u32), .blk 103 (.ar 8 .u32), .blk 123 (.ar 64 .u32), .blk 123 (.ar 64 .u32)]
def lc85_5 (F : Nat) : Lc := mkL [1, 2, 4, 5, 6, 7] sA85_5 sT85_5 [2, 4, 5, 6] sA185_5 sT185_5 F (fun x y (s : Int × (Vector UInt32 64)) => L85_5 F x.1 s.1 s.2) (fun x y => (x.2.2.2.2.2.1, y.2.2.2.1)) (fun x y (z : (Vector UInt32 64)) => (((), (), (), (), ()), (y.1, y.2.1, y.2.2.1, z, ())))
theorem le85_5 (F : Nat) (x : dens sA85_5) (y : tdens sT85_5) (s : Int × (Vector UInt32 64)) : sev (E85 F) 0 [] (cAt (bodyOf Tryd.f85) (0 :: 0 :: [1, 0, 1, 1, 1])) (0 :: 0 :: [1, 0, 1, 1, 1]) (mkSt [1, 2, 4, 5, 6, 7] sA85_5 sT85_5 (x.1, (), (), (), (), s.1, ()) (y.1, y.2.1, y.2.2.1, s.2, ())) (kLoop 0 [1, 2, 4, 5, 6, 7] sA85_5 sT85_5 [2, 4, 5, 6] sA185_5 sT185_5 [] [] [] 0 (fun x y => some (.inl (x, y))) (fun x y => some (.inr (.inl (x, y)))) (fun x y => some (.inr (.inr (x, y))))) =
    L85_5c (β := Full sA85_5 sT85_5 sA185_5 sT185_5 [] []) F x.1 s.1 s.2 (fun s => some (.inl ((x.1, (), (), (), (), s.1, ()), (y.1, y.2.1, y.2.2.1, s.2, ())))) (fun z => some (.inr (.inl (((), (), (), (), ()), (y.1, y.2.1, y.2.2.1, z, ()))))) := by kernel_rfl
theorem lo85_5 (F : Nat) : LcOk Tryd.prog (E85 F) 0 (lc85_5 F) (cAt (bodyOf Tryd.f85) [1, 0, 1, 1, 1]) :=
  mkL_ok (lp := []) (id := 0) (b := cAt (bodyOf Tryd.f85) (0 :: 0 :: [1, 0, 1, 1, 1])) cok (cts85 F) mixed trivial (by kernel_rfl) (by kernel_rfl) (fun x y s => (x.1, (), (), (), (), s.1, ())) (fun x y s => (y.1, y.2.1, y.2.2.1, s.2, ())) (fun x y => rfl) (fun x y => rfl) (fun x y s kA kO => L85_5c F x.1 s.1 s.2 kA kO) (fun x y s kA kO => L85_5n F x.1 s.1 s.2 kA kO) (le85_5 F)
def L85_6c (F : Nat) (y143 : Int) (y147 : Vector UInt32 64) {β : Type} (kA : (Int × (Vector UInt32 64)) → Option β) (kO : ((Vector UInt32 64)) → Option β) : Option β :=
  (bif (decide (y143 < (64 : Int))) then (Option.bind (inb 64 (w64 (y143 - (15 : Int)))) fun x169 => (Option.bind (vat y147 x169) fun x170 => (Option.bind (inb 64 (w64 (y143 - (15 : Int)))) fun x171 => (Option.bind (vat y147 x171) fun x172 => (Option.bind (inb 64 (w64 (y143 - (15 : Int)))) fun x173 => (Option.bind (vat y147 x173) fun x174 => (Option.bind (T93 F x170 (7 : Int)) fun z175 => (Option.bind (T93 F x172 (18 : Int)) fun z176 => (Option.bind (inb 64 (w64 (y143 - (2 : Int)))) fun x177 => (Option.bind (vat y147 x177) fun x178 => (Option.bind (inb 64 (w64 (y143 - (2 : Int)))) fun x179 => (Option.bind (vat y147 x179) fun x180 => (Option.bind (inb 64 (w64 (y143 - (2 : Int)))) fun x181 => (Option.bind (vat y147 x181) fun x182 => (Option.bind (T93 F x178 (17 : Int)) fun z183 => (Option.bind (T93 F x180 (19 : Int)) fun z184 => (Option.bind (inb 64 (w64 (y143 - (7 : Int)))) fun x185 => (Option.bind (vat y147 x185) fun x186 => (Option.bind (inb 64 (w64 (y143 - (16 : Int)))) fun x187 => (Option.bind (vat y147 x187) fun x188 => (Option.bind (inb 64 y143) fun x189 => (kA ((w64 (y143 + (1 : Int))), (Vector.setIfInBounds y147 x189 (((((z183 ^^^ z184) ^^^ (shr32 x182 ((UInt64.ofNat 10).toNat))) + x186) + ((z175 ^^^ z176) ^^^ (shr32 x174 ((UInt64.ofNat 3).toNat)))) + x188))))))))))))))))))))))))) else (kO y147))
def L85_6 (F : Nat) (y143 : Int) (y147 : Vector UInt32 64) : Option ((Int × (Vector UInt32 64)) ⊕ ((Vector UInt32 64))) := L85_6c F y143 y147 (fun s => some (.inl s)) (fun z => some (.inr z))
theorem L85_6n (F : Nat) (y143 : Int) (y147 : Vector UInt32 64) {β : Type} (kA : (Int × (Vector UInt32 64)) → Option β) (kO : ((Vector UInt32 64)) → Option β) : L85_6c F y143 y147 kA kO = (L85_6 F y143 y147).bind (elimS kA kO) := by
  simp only [L85_6, L85_6c, Option.bind_assoc, cond_bind, Option.bind_some, elimS_l, elimS_r, elimS_bind]
@[reducible] def sA85_6 : List Sh := [(.pt 0 []), (.pt 1 []), (.pt 2 []), (.pt 3 []), .i]
@[reducible] def sA185_6 : List Sh := [(.pt 0 []), (.pt 1 []), (.pt 2 []), (.pt 3 [])]
@[reducible] def sT85_6 : List TSh := [.blk 103 (.ar 8 .u32), .blk 103 (.ar 8 .u32), .blk 123 (.ar 64 .u32), .blk 123 (.ar 64 .u32)]
@[reducible] def sT185_6 : List TSh := [.blk 103 (.ar 8 .u32), .blk 103 (.ar 8 .u32), .blk 123 (.ar 64 .u32), .blk 123 (.ar 64 .u32)]
def lc85_6 (F : Nat) : Lc := mkL [2, 4, 5, 6, 8] sA85_6 sT85_6 [2, 4, 5, 6] sA185_6 sT185_6 F (fun x y (s : Int × (Vector UInt32 64)) => L85_6 F s.1 s.2) (fun x y => (x.2.2.2.2.1, y.2.2.2.1)) (fun x y (z : (Vector UInt32 64)) => (((), (), (), (), ()), (y.1, y.2.1, y.2.2.1, z, ())))
theorem le85_6 (F : Nat) (x : dens sA85_6) (y : tdens sT85_6) (s : Int × (Vector UInt32 64)) : sev (E85 F) 0 [] (cAt (bodyOf Tryd.f85) (0 :: 0 :: [1, 0, 1, 1, 1, 1])) (0 :: 0 :: [1, 0, 1, 1, 1, 1]) (mkSt [2, 4, 5, 6, 8] sA85_6 sT85_6 ((), (), (), (), s.1, ()) (y.1, y.2.1, y.2.2.1, s.2, ())) (kLoop 0 [2, 4, 5, 6, 8] sA85_6 sT85_6 [2, 4, 5, 6] sA185_6 sT185_6 [] [] [] 2 (fun x y => some (.inl (x, y))) (fun x y => some (.inr (.inl (x, y)))) (fun x y => some (.inr (.inr (x, y))))) =
    L85_6c (β := Full sA85_6 sT85_6 sA185_6 sT185_6 [] []) F s.1 s.2 (fun s => some (.inl (((), (), (), (), s.1, ()), (y.1, y.2.1, y.2.2.1, s.2, ())))) (fun z => some (.inr (.inl (((), (), (), (), ()), (y.1, y.2.1, y.2.2.1, z, ()))))) := by kernel_rfl
theorem lo85_6 (F : Nat) : LcOk Tryd.prog (E85 F) 0 (lc85_6 F) (cAt (bodyOf Tryd.f85) [1, 0, 1, 1, 1, 1]) :=
  mkL_ok (lp := []) (id := 2) (b := cAt (bodyOf Tryd.f85) (0 :: 0 :: [1, 0, 1, 1, 1, 1])) cok (cts85 F) mixed trivial (by kernel_rfl) (by kernel_rfl) (fun x y s => ((), (), (), (), s.1, ())) (fun x y s => (y.1, y.2.1, y.2.2.1, s.2, ())) (fun x y => rfl) (fun x y => rfl) (fun x y s kA kO => L85_6c F s.1 s.2 kA kO) (fun x y s kA kO => L85_6n F s.1 s.2 kA kO) (le85_6 F)
def L85_7c (F : Nat) (y194 : Vector UInt32 64) (y195 : Vector UInt32 64) (y191 : Int) (y196 : Vector UInt32 8) {β : Type} (kA : (Int × (Vector UInt32 8)) → Option β) (kO : ((Vector UInt32 8)) → Option β) : Option β :=
  (bif (decide (y191 < (64 : Int))) then (Option.bind (vat y196 0) fun x215 => (Option.bind (vat y196 1) fun x216 => (Option.bind (vat y196 2) fun x217 => (Option.bind (vat y196 4) fun x218 => (Option.bind (vat y196 5) fun x219 => (Option.bind (vat y196 6) fun x220 => (Option.bind (vat y196 7) fun x221 => (Option.bind (inb 64 y191) fun x222 => (Option.bind (vat y194 x222) fun x223 => (Option.bind (inb 64 y191) fun x224 => (Option.bind (vat y195 x224) fun x225 => (Option.bind (T93 F x218 (6 : Int)) fun z226 => (Option.bind (T93 F x218 (11 : Int)) fun z227 => (Option.bind (T93 F x218 (25 : Int)) fun z228 => (Option.bind (T93 F x215 (2 : Int)) fun z229 => (Option.bind (T93 F x215 (13 : Int)) fun z230 => (Option.bind (T93 F x215 (22 : Int)) fun z231 => (Option.bind (vat y196 3) fun x232 => (kA ((w64 (y191 + (1 : Int))), (#v[(((((x221 + ((z226 ^^^ z227) ^^^ z228)) + ((x218 &&& x219) ^^^ ((~~~x218) &&& x220))) + x223) + x225) + (((z229 ^^^ z230) ^^^ z231) + (((x215 &&& x216) ^^^ (x215 &&& x217)) ^^^ (x216 &&& x217)))), x215, x216, x217, (x232 + ((((x221 + ((z226 ^^^ z227) ^^^ z228)) + ((x218 &&& x219) ^^^ ((~~~x218) &&& x220))) + x223) + x225)), x218, x219, x220] : Vector UInt32 8))))))))))))))))))))) else (kO y196))
def L85_7 (F : Nat) (y194 : Vector UInt32 64) (y195 : Vector UInt32 64) (y191 : Int) (y196 : Vector UInt32 8) : Option ((Int × (Vector UInt32 8)) ⊕ ((Vector UInt32 8))) := L85_7c F y194 y195 y191 y196 (fun s => some (.inl s)) (fun z => some (.inr z))
theorem L85_7n (F : Nat) (y194 : Vector UInt32 64) (y195 : Vector UInt32 64) (y191 : Int) (y196 : Vector UInt32 8) {β : Type} (kA : (Int × (Vector UInt32 8)) → Option β) (kO : ((Vector UInt32 8)) → Option β) : L85_7c F y194 y195 y191 y196 kA kO = (L85_7 F y194 y195 y191 y196).bind (elimS kA kO) := by
  simp only [L85_7, L85_7c, Option.bind_assoc, cond_bind, Option.bind_some, elimS_l, elimS_r, elimS_bind]
@[reducible] def sA85_7 : List Sh := [(.pt 0 []), (.pt 1 []), (.pt 2 []), (.pt 3 []), (.pt 4 []), .i]
@[reducible] def sA185_7 : List Sh := [(.pt 0 []), (.pt 1 []), (.pt 2 [])]
@[reducible] def sT85_7 : List TSh := [.blk 103 (.ar 8 .u32), .blk 103 (.ar 8 .u32), .blk 123 (.ar 64 .u32), .blk 123 (.ar 64 .u32), .blk 103 (.ar 8 .u32)]
@[reducible] def sT185_7 : List TSh := [.blk 103 (.ar 8 .u32), .blk 103 (.ar 8 .u32), .blk 103 (.ar 8 .u32)]
def lc85_7 (F : Nat) : Lc := mkL [2, 4, 5, 6, 11, 12] sA85_7 sT85_7 [2, 4, 11] sA185_7 sT185_7 F (fun x y (s : Int × (Vector UInt32 8)) => L85_7 F y.2.2.1 y.2.2.2.1 s.1 s.2) (fun x y => (x.2.2.2.2.2.1, y.2.2.2.2.1)) (fun x y (z : (Vector UInt32 8)) => (((), (), (), ()), (y.1, y.2.1, z, ())))
theorem le85_7 (F : Nat) (x : dens sA85_7) (y : tdens sT85_7) (s : Int × (Vector UInt32 8)) : sev (E85 F) 0 [] (cAt (bodyOf Tryd.f85) (0 :: 0 :: [1, 0, 1, 1, 1, 1, 1, 1])) (0 :: 0 :: [1, 0, 1, 1, 1, 1, 1, 1]) (mkSt [2, 4, 5, 6, 11, 12] sA85_7 sT85_7 ((), (), (), (), (), s.1, ()) (y.1, y.2.1, y.2.2.1, y.2.2.2.1, s.2, ())) (kLoop 0 [2, 4, 5, 6, 11, 12] sA85_7 sT85_7 [2, 4, 11] sA185_7 sT185_7 [] [] [] 4 (fun x y => some (.inl (x, y))) (fun x y => some (.inr (.inl (x, y)))) (fun x y => some (.inr (.inr (x, y))))) =
    L85_7c (β := Full sA85_7 sT85_7 sA185_7 sT185_7 [] []) F y.2.2.1 y.2.2.2.1 s.1 s.2 (fun s => some (.inl (((), (), (), (), (), s.1, ()), (y.1, y.2.1, y.2.2.1, y.2.2.2.1, s.2, ())))) (fun z => some (.inr (.inl (((), (), (), ()), (y.1, y.2.1, z, ()))))) := by kernel_rfl
theorem lo85_7 (F : Nat) : LcOk Tryd.prog (E85 F) 0 (lc85_7 F) (cAt (bodyOf Tryd.f85) [1, 0, 1, 1, 1, 1, 1, 1]) :=
  mkL_ok (lp := []) (id := 4) (b := cAt (bodyOf Tryd.f85) (0 :: 0 :: [1, 0, 1, 1, 1, 1, 1, 1])) cok (cts85 F) mixed trivial (by kernel_rfl) (by kernel_rfl) (fun x y s => ((), (), (), (), (), s.1, ())) (fun x y s => (y.1, y.2.1, y.2.2.1, y.2.2.2.1, s.2, ())) (fun x y => rfl) (fun x y => rfl) (fun x y s kA kO => L85_7c F y.2.2.1 y.2.2.2.1 s.1 s.2 kA kO) (fun x y s kA kO => L85_7n F y.2.2.1 y.2.2.2.1 s.1 s.2 kA kO) (le85_7 F)
def L85_8c (F : Nat) (y235 : Vector UInt32 8) (y234 : Int) (y237 : Vector UInt32 8) {β : Type} (kA : (Int × (Vector UInt32 8)) → Option β) (kO : ((Vector UInt32 8)) → Option β) : Option β :=
  (bif (decide (y234 < (8 : Int))) then (Option.bind (inb 8 y234) fun x243 => (Option.bind (vat y237 x243) fun x244 => (Option.bind (inb 8 y234) fun x245 => (Option.bind (vat y235 x245) fun x246 => (Option.bind (inb 8 y234) fun x247 => (kA ((w64 (y234 + (1 : Int))), (Vector.setIfInBounds y237 x247 (x244 + x246))))))))) else (kO y237))
def L85_8 (F : Nat) (y235 : Vector UInt32 8) (y234 : Int) (y237 : Vector UInt32 8) : Option ((Int × (Vector UInt32 8)) ⊕ ((Vector UInt32 8))) := L85_8c F y235 y234 y237 (fun s => some (.inl s)) (fun z => some (.inr z))
theorem L85_8n (F : Nat) (y235 : Vector UInt32 8) (y234 : Int) (y237 : Vector UInt32 8) {β : Type} (kA : (Int × (Vector UInt32 8)) → Option β) (kO : ((Vector UInt32 8)) → Option β) : L85_8c F y235 y234 y237 kA kO = (L85_8 F y235 y234 y237).bind (elimS kA kO) := by
  simp only [L85_8, L85_8c, Option.bind_assoc, cond_bind, Option.bind_some, elimS_l, elimS_r, elimS_bind]
@[reducible] def sA85_8 : List Sh := [(.pt 0 []), (.pt 1 []), (.pt 2 []), .i]
@[reducible] def sA185_8 : List Sh := [(.pt 0 []), (.pt 1 [])]
@[reducible] def sT85_8 : List TSh := [.blk 103 (.ar 8 .u32), .blk 103 (.ar 8 .u32), .blk 103 (.ar 8 .u32)]
@[reducible] def sT185_8 : List TSh := [.blk 103 (.ar 8 .u32), .blk 103 (.ar 8 .u32)]
def lc85_8 (F : Nat) : Lc := mkL [2, 4, 11, 21] sA85_8 sT85_8 [4, 11] sA185_8 sT185_8 F (fun x y (s : Int × (Vector UInt32 8)) => L85_8 F y.1 s.1 s.2) (fun x y => (x.2.2.2.1, y.2.2.1)) (fun x y (z : (Vector UInt32 8)) => (((), (), ()), (y.2.1, z, ())))
theorem le85_8 (F : Nat) (x : dens sA85_8) (y : tdens sT85_8) (s : Int × (Vector UInt32 8)) : sev (E85 F) 0 [] (cAt (bodyOf Tryd.f85) (0 :: 0 :: [1, 0, 1, 1, 1, 1, 1, 1, 1])) (0 :: 0 :: [1, 0, 1, 1, 1, 1, 1, 1, 1]) (mkSt [2, 4, 11, 21] sA85_8 sT85_8 ((), (), (), s.1, ()) (y.1, y.2.1, s.2, ())) (kLoop 0 [2, 4, 11, 21] sA85_8 sT85_8 [4, 11] sA185_8 sT185_8 [] [] [] 6 (fun x y => some (.inl (x, y))) (fun x y => some (.inr (.inl (x, y)))) (fun x y => some (.inr (.inr (x, y))))) =
    L85_8c (β := Full sA85_8 sT85_8 sA185_8 sT185_8 [] []) F y.1 s.1 s.2 (fun s => some (.inl (((), (), (), s.1, ()), (y.1, y.2.1, s.2, ())))) (fun z => some (.inr (.inl (((), (), ()), (y.2.1, z, ()))))) := by kernel_rfl
theorem lo85_8 (F : Nat) : LcOk Tryd.prog (E85 F) 0 (lc85_8 F) (cAt (bodyOf Tryd.f85) [1, 0, 1, 1, 1, 1, 1, 1, 1]) :=
  mkL_ok (lp := []) (id := 6) (b := cAt (bodyOf Tryd.f85) (0 :: 0 :: [1, 0, 1, 1, 1, 1, 1, 1, 1])) cok (cts85 F) mixed trivial (by kernel_rfl) (by kernel_rfl) (fun x y s => ((), (), (), s.1, ())) (fun x y s => (y.1, y.2.1, s.2, ())) (fun x y => rfl) (fun x y => rfl) (fun x y s kA kO => L85_8c F y.1 s.1 s.2 kA kO) (fun x y s kA kO => L85_8n F y.1 s.1 s.2 kA kO) (le85_8 F)
def T85c (F : Nat) (p0 : Vector UInt32 8) (p1 : List UInt8) {β : Type} (k : ((Vector UInt32 8)) → Option β) : Option β :=
  (Option.bind (T92 F) fun z125 => (Option.bind (iter (fun s => L85_5 F p1 s.1 s.2) F ((0 : Int), (Vector.replicate 64 (0 : UInt32)))) fun z142 => (Option.bind (iter (fun s => L85_6 F s.1 s.2) F ((16 : Int), z142)) fun z190 => (Option.bind (iter (fun s => L85_7 F z125 z190 s.1 s.2) F ((0 : Int), p0)) fun z233 => (Option.bind (iter (fun s => L85_8 F p0 s.1 s.2) F ((0 : Int), z233)) fun z248 => (k z248))))))
def T85 (F : Nat) (p0 : Vector UInt32 8) (p1 : List UInt8) : Option ((Vector UInt32 8)) := T85c F p0 p1 some
theorem T85n (F : Nat) (p0 : Vector UInt32 8) (p1 : List UInt8) {β : Type} (k : ((Vector UInt32 8)) → Option β) : T85c F p0 p1 k = (T85 F p0 p1).bind k := by
  simp only [T85, T85c, Option.bind_assoc, cond_bind, Option.bind_some, elimS_bind]
@[reducible] def cA85 : List Sh := [(.ar 8 .u32), (.ro .u8)]
@[reducible] def cB85 : List Sh := [(.ar 8 .u32)]
@[reducible] def cT85 : List TSh := []
@[reducible] def cU85 : List TSh := []
def ct85 (F : Nat) : Ct := mkC 0 cA85 cT85 cB85 cU85 (fun x y => T85 F x.1 x.2.1) (fun x y (z : (Vector UInt32 8)) => ((z, ()), ()))
theorem eq85 (F : Nat) (x : dens cA85) (y : tdens cT85) : sev (E85 F) 0 [([1, 0, 1, 1, 1], lc85_5 F), ([1, 0, 1, 1, 1, 1], lc85_6 F), ([1, 0, 1, 1, 1, 1, 1, 1], lc85_7 F), ([1, 0, 1, 1, 1, 1, 1, 1, 1], lc85_8 F)] (bodyOf Tryd.f85) [] (mkSt (rng 2) cA85 cT85 x y) (kFn (E85 F) 0 Tryd.f85.results.toList cB85 cU85 fun p q => some (p, q)) =
    T85c F x.1 x.2.1 (fun z => some ((z, ()), ())) := by kernel_rfl
theorem ok85 (F : Nat) : Sound Tryd.prog cfg 85 (ct85 F) :=
  mkC_ok (E := E85 F) (lp := [([1, 0, 1, 1, 1], lc85_5 F), ([1, 0, 1, 1, 1, 1], lc85_6 F), ([1, 0, 1, 1, 1, 1, 1, 1], lc85_7 F), ([1, 0, 1, 1, 1, 1, 1, 1, 1], lc85_8 F)]) (code := bodyOf Tryd.f85) Tryd.func85 rfl Tryd.ntmps85 rfl rfl cok (cts85 F) mixed ⟨lo85_5 F, ⟨lo85_6 F, ⟨lo85_7 F, ⟨lo85_8 F, trivial⟩⟩⟩⟩ (by kernel_rfl) (fun x y k => T85c F x.1 x.2.1 k) (fun x y k => T85n F x.1 x.2.1 k) (eq85 F)
end Go.Proofs.YtjghgfohpihhfaaDoor
/- kinkeep/kinkeepref03.Sum: its twin, and that the call does what the twin says. Printed by a program. -/
namespace Go.Proofs.YtjghgfohpihhfaaDoor
open Go.Tw
set_option linter.unusedSimpArgs false
set_option linter.unusedVariables false
def ord68 : Nat → List (Tag × Nat)
  | 6 => [(.r, 0), (.p, 1), (.p, 2), (.p, 3), (.p, 4), (.p, 5), (.w, 6), (.w, 7)]
  | 11 => [(.p, 0), (.p, 1), (.p, 2), (.r, 3), (.p, 4), (.p, 5), (.p, 6), (.p, 7), (.r, 8), (.p, 9), (.p, 10), (.p, 11), (.p, 12), (.r, 13), (.p, 14), (.p, 15), (.p, 16), (.p, 17), (.r, 18), (.p, 19), (.w, 20), (.w, 21), (.p, 22)]
  | _ => []
def al68 : Nat → Option Nat
  | _ => none
def E68 (F : Nat) : Ev := ⟨cfg, 53, ctOf [(84, ct84 F), (85, ct85 F)], ord68, ctOf [], al68⟩
theorem cts68 (F : Nat) : CtsOk Tryd.prog (E68 F) := cts_of (l := [(84, ct84 F), (85, ct85 F)]) (l' := []) rfl rfl ⟨⟨ok84 F, _, Tryd.func84, rfl, rfl⟩, ⟨⟨ok85 F, _, Tryd.func85, rfl, rfl⟩, trivial⟩⟩ trivial
def L68_3c (F : Nat) (y35 : List UInt8) (y33 : Int) (y34 : Vector UInt32 8) {β : Type} (kA : (Int × (Vector UInt32 8)) → Option β) (kO : ((Vector UInt32 8)) → Option β) : Option β :=
  (bif (decide (y33 < (y35.length : Int))) then (Option.bind (gslb y35.length y33 (w64 (y33 + (64 : Int)))) fun x38 => (Option.bind (T85 F y34 ((y35.drop x38.1).take (x38.2 - x38.1))) fun z39 => (kA ((w64 (y33 + (64 : Int))), z39)))) else (kO y34))
def L68_3 (F : Nat) (y35 : List UInt8) (y33 : Int) (y34 : Vector UInt32 8) : Option ((Int × (Vector UInt32 8)) ⊕ ((Vector UInt32 8))) := L68_3c F y35 y33 y34 (fun s => some (.inl s)) (fun z => some (.inr z))
theorem L68_3n (F : Nat) (y35 : List UInt8) (y33 : Int) (y34 : Vector UInt32 8) {β : Type} (kA : (Int × (Vector UInt32 8)) → Option β) (kO : ((Vector UInt32 8)) → Option β) : L68_3c F y35 y33 y34 kA kO = (L68_3 F y35 y33 y34).bind (elimS kA kO) := by
  simp only [L68_3, L68_3c, Option.bind_assoc, cond_bind, Option.bind_some, elimS_l, elimS_r, elimS_bind]
@[reducible] def sA68_3 : List Sh := [(.pt 0 []), (.rw 1), .i]
@[reducible] def sA168_3 : List Sh := [(.pt 0 [])]
@[reducible] def sT68_3 : List TSh := [.blk 103 (.ar 8 .u32), .row 5 .u8]
@[reducible] def sT168_3 : List TSh := [.blk 103 (.ar 8 .u32)]
def lc68_3 (F : Nat) : Lc := mkL [3, 4, 5] sA68_3 sT68_3 [3] sA168_3 sT168_3 F (fun x y (s : Int × (Vector UInt32 8)) => L68_3 F y.2.1 s.1 s.2) (fun x y => (x.2.2.1, y.1)) (fun x y (z : (Vector UInt32 8)) => (((), ()), (z, ())))
theorem le68_3 (F : Nat) (x : dens sA68_3) (y : tdens sT68_3) (s : Int × (Vector UInt32 8)) : sev (E68 F) 0 [] (cAt (bodyOf Tryd.f68) (0 :: 0 :: [1, 0, 1, 1, 1])) (0 :: 0 :: [1, 0, 1, 1, 1]) (mkSt [3, 4, 5] sA68_3 sT68_3 ((), (), s.1, ()) (s.2, y.2.1, ())) (kLoop 0 [3, 4, 5] sA68_3 sT68_3 [3] sA168_3 sT168_3 [] [] [] 0 (fun x y => some (.inl (x, y))) (fun x y => some (.inr (.inl (x, y)))) (fun x y => some (.inr (.inr (x, y))))) =
    L68_3c (β := Full sA68_3 sT68_3 sA168_3 sT168_3 [] []) F y.2.1 s.1 s.2 (fun s => some (.inl (((), (), s.1, ()), (s.2, y.2.1, ())))) (fun z => some (.inr (.inl (((), ()), (z, ()))))) := by kernel_rfl
theorem lo68_3 (F : Nat) : LcOk Tryd.prog (E68 F) 0 (lc68_3 F) (cAt (bodyOf Tryd.f68) [1, 0, 1, 1, 1]) :=
  mkL_ok (lp := []) (id := 0) (b := cAt (bodyOf Tryd.f68) (0 :: 0 :: [1, 0, 1, 1, 1])) cok (cts68 F) mixed trivial (by kernel_rfl) (by kernel_rfl) (fun x y s => ((), (), s.1, ())) (fun x y s => (s.2, y.2.1, ())) (fun x y => rfl) (fun x y => rfl) (fun x y s kA kO => L68_3c F y.2.1 s.1 s.2 kA kO) (fun x y s kA kO => L68_3n F y.2.1 s.1 s.2 kA kO) (le68_3 F)
def L68_4c (F : Nat) (y42 : Vector UInt32 8) (y41 : Int) (y43 : List UInt8) {β : Type} (kA : (Int × (List UInt8)) → Option β) (kO : ((List UInt8)) → Option β) : Option β :=
  (bif (decide (y41 < (8 : Int))) then (Option.bind (inb 8 y41) fun x53 => (Option.bind (vat y42 x53) fun x54 => (Option.bind (inb 8 y41) fun x55 => (Option.bind (vat y42 x55) fun x56 => (Option.bind (inb 8 y41) fun x57 => (Option.bind (vat y42 x57) fun x58 => (Option.bind (inb 8 y41) fun x59 => (Option.bind (vat y42 x59) fun x60 => (Option.bind (gapp y43 ([((shr32 x54 ((UInt64.ofNat 24).toNat)).toUInt8), ((shr32 x56 ((UInt64.ofNat 16).toNat)).toUInt8), ((shr32 x58 ((UInt64.ofNat 8).toNat)).toUInt8), (x60.toUInt8)] : List UInt8)) fun x61 => (kA ((w64 (y41 + (1 : Int))), x61))))))))))) else (kO y43))
def L68_4 (F : Nat) (y42 : Vector UInt32 8) (y41 : Int) (y43 : List UInt8) : Option ((Int × (List UInt8)) ⊕ ((List UInt8))) := L68_4c F y42 y41 y43 (fun s => some (.inl s)) (fun z => some (.inr z))
theorem L68_4n (F : Nat) (y42 : Vector UInt32 8) (y41 : Int) (y43 : List UInt8) {β : Type} (kA : (Int × (List UInt8)) → Option β) (kO : ((List UInt8)) → Option β) : L68_4c F y42 y41 y43 kA kO = (L68_4 F y42 y41 y43).bind (elimS kA kO) := by
  simp only [L68_4, L68_4c, Option.bind_assoc, cond_bind, Option.bind_some, elimS_l, elimS_r, elimS_bind]
@[reducible] def sA68_4 : List Sh := [(.pt 0 []), (.rw 1), .i]
@[reducible] def sA168_4 : List Sh := [(.rw 0)]
@[reducible] def sT68_4 : List TSh := [.blk 103 (.ar 8 .u32), .row 5 .u8]
@[reducible] def sT168_4 : List TSh := [.row 5 .u8]
def lc68_4 (F : Nat) : Lc := mkL [3, 6, 7] sA68_4 sT68_4 [6] sA168_4 sT168_4 F (fun x y (s : Int × (List UInt8)) => L68_4 F y.1 s.1 s.2) (fun x y => (x.2.2.1, y.2.1)) (fun x y (z : (List UInt8)) => (((), ()), (z, ())))
theorem le68_4 (F : Nat) (x : dens sA68_4) (y : tdens sT68_4) (s : Int × (List UInt8)) : sev (E68 F) 0 [] (cAt (bodyOf Tryd.f68) (0 :: 0 :: [1, 0, 1, 1, 1, 1, 1])) (0 :: 0 :: [1, 0, 1, 1, 1, 1, 1]) (mkSt [3, 6, 7] sA68_4 sT68_4 ((), (), s.1, ()) (y.1, s.2, ())) (kLoop 0 [3, 6, 7] sA68_4 sT68_4 [6] sA168_4 sT168_4 [] [] [] 2 (fun x y => some (.inl (x, y))) (fun x y => some (.inr (.inl (x, y)))) (fun x y => some (.inr (.inr (x, y))))) =
    L68_4c (β := Full sA68_4 sT68_4 sA168_4 sT168_4 [] []) F y.1 s.1 s.2 (fun s => some (.inl (((), (), s.1, ()), (y.1, s.2, ())))) (fun z => some (.inr (.inl (((), ()), (z, ()))))) := by kernel_rfl
theorem lo68_4 (F : Nat) : LcOk Tryd.prog (E68 F) 0 (lc68_4 F) (cAt (bodyOf Tryd.f68) [1, 0, 1, 1, 1, 1, 1]) :=
  mkL_ok (lp := []) (id := 2) (b := cAt (bodyOf Tryd.f68) (0 :: 0 :: [1, 0, 1, 1, 1, 1, 1])) cok (cts68 F) mixed trivial (by kernel_rfl) (by kernel_rfl) (fun x y s => ((), (), s.1, ())) (fun x y s => (y.1, s.2, ())) (fun x y => rfl) (fun x y => rfl) (fun x y s kA kO => L68_4c F y.1 s.1 s.2 kA kO) (fun x y s kA kO => L68_4n F y.1 s.1 s.2 kA kO) (le68_4 F)
def T68c (F : Nat) (p0 : List UInt8) {β : Type} (k : ((List UInt8)) → Option β) : Option β :=
  (Option.bind (T84 F p0) fun z32 => (Option.bind (iter (fun s => L68_3 F z32 s.1 s.2) F ((0 : Int), (#v[(UInt32.ofNat 1779033703), (UInt32.ofNat 3144134277), (UInt32.ofNat 1013904242), (UInt32.ofNat 2773480762), (UInt32.ofNat 1359893119), (UInt32.ofNat 2600822924), (UInt32.ofNat 528734635), (UInt32.ofNat 1541459225)] : Vector UInt32 8))) fun z40 => (Option.bind (iter (fun s => L68_4 F z40 s.1 s.2) F ((0 : Int), ([] : List UInt8))) fun z62 => (k z62))))
def T68 (F : Nat) (p0 : List UInt8) : Option ((List UInt8)) := T68c F p0 some
theorem T68n (F : Nat) (p0 : List UInt8) {β : Type} (k : ((List UInt8)) → Option β) : T68c F p0 k = (T68 F p0).bind k := by
  simp only [T68, T68c, Option.bind_assoc, cond_bind, Option.bind_some, elimS_bind]
@[reducible] def cA68 : List Sh := [(.ro .u8)]
@[reducible] def cB68 : List Sh := [.str]
@[reducible] def cT68 : List TSh := []
@[reducible] def cU68 : List TSh := []
def ct68 (F : Nat) : Ct := mkC 0 cA68 cT68 cB68 cU68 (fun x y => T68 F x.1) (fun x y (z : (List UInt8)) => ((z, ()), ()))
theorem eq68 (F : Nat) (x : dens cA68) (y : tdens cT68) : sev (E68 F) 0 [([1, 0, 1, 1, 1], lc68_3 F), ([1, 0, 1, 1, 1, 1, 1], lc68_4 F)] (bodyOf Tryd.f68) [] (mkSt (rng 1) cA68 cT68 x y) (kFn (E68 F) 0 Tryd.f68.results.toList cB68 cU68 fun p q => some (p, q)) =
    T68c F x.1 (fun z => some ((z, ()), ())) := by kernel_rfl
theorem ok68 (F : Nat) : Sound Tryd.prog cfg 68 (ct68 F) :=
  mkC_ok (E := E68 F) (lp := [([1, 0, 1, 1, 1], lc68_3 F), ([1, 0, 1, 1, 1, 1, 1], lc68_4 F)]) (code := bodyOf Tryd.f68) Tryd.func68 rfl Tryd.ntmps68 rfl rfl cok (cts68 F) mixed ⟨lo68_3 F, ⟨lo68_4 F, trivial⟩⟩ (by kernel_rfl) (fun x y k => T68c F x.1 k) (fun x y k => T68n F x.1 k) (eq68 F)
end Go.Proofs.YtjghgfohpihhfaaDoor
/- kinkeep/kinkeepref05.pad: its twin, and that the call does what the twin says. Printed by a program. -/
namespace Go.Proofs.YtjghgfohpihhfaaDoor
open Go.Tw
set_option linter.unusedSimpArgs false
set_option linter.unusedVariables false
def ord69 : Nat → List (Tag × Nat)
  | _ => []
def al69 : Nat → Option Nat
  | _ => none
def E69 (F : Nat) : Ev := ⟨cfg, 27, ctOf [], ord69, ctOf [], al69⟩
theorem cts69 (F : Nat) : CtsOk Tryd.prog (E69 F) := cts_of (l := []) (l' := []) rfl rfl trivial trivial
def L69_2c (F : Nat) (y12 : List UInt8) (y13 : UInt8) (y14 : Int) (y15 : List UInt8) {β : Type} (kA : (Int × (List UInt8)) → Option β) (kO : ((List UInt8)) → Option β) : Option β :=
  (bif (decide (y14 < (64 : Int))) then (bif (decide (y14 < (y12.length : Int))) then (Option.bind (ix y12 y14) fun x19 => (Option.bind (gapp y15 ([(x19 ^^^ y13)] : List UInt8)) fun x20 => (kA ((w64 (y14 + (1 : Int))), x20)))) else (Option.bind (gapp y15 ([((UInt8.ofNat 0) ^^^ y13)] : List UInt8)) fun x21 => (kA ((w64 (y14 + (1 : Int))), x21)))) else (kO y15))
def L69_2 (F : Nat) (y12 : List UInt8) (y13 : UInt8) (y14 : Int) (y15 : List UInt8) : Option ((Int × (List UInt8)) ⊕ ((List UInt8))) := L69_2c F y12 y13 y14 y15 (fun s => some (.inl s)) (fun z => some (.inr z))
theorem L69_2n (F : Nat) (y12 : List UInt8) (y13 : UInt8) (y14 : Int) (y15 : List UInt8) {β : Type} (kA : (Int × (List UInt8)) → Option β) (kO : ((List UInt8)) → Option β) : L69_2c F y12 y13 y14 y15 kA kO = (L69_2 F y12 y13 y14 y15).bind (elimS kA kO) := by
  simp only [L69_2, L69_2c, Option.bind_assoc, cond_bind, Option.bind_some, elimS_l, elimS_r, elimS_bind]
@[reducible] def sA69_2 : List Sh := [.str, .u8, (.rw 0), .i]
@[reducible] def sA169_2 : List Sh := [(.rw 0)]
@[reducible] def sT69_2 : List TSh := [.row 5 .u8]
@[reducible] def sT169_2 : List TSh := [.row 5 .u8]
def lc69_2 (F : Nat) : Lc := mkL [0, 1, 5, 6] sA69_2 sT69_2 [5] sA169_2 sT169_2 F (fun x y (s : Int × (List UInt8)) => L69_2 F x.1 x.2.1 s.1 s.2) (fun x y => (x.2.2.2.1, y.1)) (fun x y (z : (List UInt8)) => (((), ()), (z, ())))
theorem le69_2 (F : Nat) (x : dens sA69_2) (y : tdens sT69_2) (s : Int × (List UInt8)) : sev (E69 F) 0 [] (cAt (bodyOf Tryd.f69) (0 :: 0 :: [1, 0, 1, 1])) (0 :: 0 :: [1, 0, 1, 1]) (mkSt [0, 1, 5, 6] sA69_2 sT69_2 (x.1, x.2.1, (), s.1, ()) (s.2, ())) (kLoop 0 [0, 1, 5, 6] sA69_2 sT69_2 [5] sA169_2 sT169_2 [] [] [] 0 (fun x y => some (.inl (x, y))) (fun x y => some (.inr (.inl (x, y)))) (fun x y => some (.inr (.inr (x, y))))) =
    L69_2c (β := Full sA69_2 sT69_2 sA169_2 sT169_2 [] []) F x.1 x.2.1 s.1 s.2 (fun s => some (.inl ((x.1, x.2.1, (), s.1, ()), (s.2, ())))) (fun z => some (.inr (.inl (((), ()), (z, ()))))) := by kernel_rfl
theorem lo69_2 (F : Nat) : LcOk Tryd.prog (E69 F) 0 (lc69_2 F) (cAt (bodyOf Tryd.f69) [1, 0, 1, 1]) :=
  mkL_ok (lp := []) (id := 0) (b := cAt (bodyOf Tryd.f69) (0 :: 0 :: [1, 0, 1, 1])) cok (cts69 F) mixed trivial (by kernel_rfl) (by kernel_rfl) (fun x y s => (x.1, x.2.1, (), s.1, ())) (fun x y s => (s.2, ())) (fun x y => rfl) (fun x y => rfl) (fun x y s kA kO => L69_2c F x.1 x.2.1 s.1 s.2 kA kO) (fun x y s kA kO => L69_2n F x.1 x.2.1 s.1 s.2 kA kO) (le69_2 F)
def T69c (F : Nat) (p0 : List UInt8) (p1 : UInt8) {β : Type} (k : ((List UInt8)) → Option β) : Option β :=
  (Option.bind (iter (fun s => L69_2 F p0 p1 s.1 s.2) F ((0 : Int), ([] : List UInt8))) fun z22 => (k z22))
def T69 (F : Nat) (p0 : List UInt8) (p1 : UInt8) : Option ((List UInt8)) := T69c F p0 p1 some
theorem T69n (F : Nat) (p0 : List UInt8) (p1 : UInt8) {β : Type} (k : ((List UInt8)) → Option β) : T69c F p0 p1 k = (T69 F p0 p1).bind k := by
  simp only [T69, T69c, Option.bind_assoc, cond_bind, Option.bind_some, elimS_bind]
@[reducible] def cA69 : List Sh := [.str, .u8]
@[reducible] def cB69 : List Sh := [(.rw 0)]
@[reducible] def cT69 : List TSh := []
@[reducible] def cU69 : List TSh := [.row 5 .u8]
def ct69 (F : Nat) : Ct := mkC 0 cA69 cT69 cB69 cU69 (fun x y => T69 F x.1 x.2.1) (fun x y (z : (List UInt8)) => (((), ()), (z, ())))
theorem eq69 (F : Nat) (x : dens cA69) (y : tdens cT69) : sev (E69 F) 0 [([1, 0, 1, 1], lc69_2 F)] (bodyOf Tryd.f69) [] (mkSt (rng 2) cA69 cT69 x y) (kFn (E69 F) 0 Tryd.f69.results.toList cB69 cU69 fun p q => some (p, q)) =
    T69c F x.1 x.2.1 (fun z => some (((), ()), (z, ()))) := by kernel_rfl
theorem ok69 (F : Nat) : Sound Tryd.prog cfg 69 (ct69 F) :=
  mkC_ok (E := E69 F) (lp := [([1, 0, 1, 1], lc69_2 F)]) (code := bodyOf Tryd.f69) Tryd.func69 rfl Tryd.ntmps69 rfl rfl cok (cts69 F) mixed ⟨lo69_2 F, trivial⟩ (by kernel_rfl) (fun x y k => T69c F x.1 x.2.1 k) (fun x y k => T69n F x.1 x.2.1 k) (eq69 F)
end Go.Proofs.YtjghgfohpihhfaaDoor
/- kinkeep/kinkeepref05.Tag: its twin, and that the call does what the twin says. Printed by a program. -/
namespace Go.Proofs.YtjghgfohpihhfaaDoor
open Go.Tw
set_option linter.unusedSimpArgs false
set_option linter.unusedVariables false
def ord53 : Nat → List (Tag × Nat)
  | _ => []
def al53 : Nat → Option Nat
  | _ => none
def E53 (F : Nat) : Ev := ⟨cfg, 23, ctOf [(68, ct68 F), (69, ct69 F)], ord53, ctOf [], al53⟩
theorem cts53 (F : Nat) : CtsOk Tryd.prog (E53 F) := cts_of (l := [(68, ct68 F), (69, ct69 F)]) (l' := []) rfl rfl ⟨⟨ok68 F, _, Tryd.func68, rfl, rfl⟩, ⟨⟨ok69 F, _, Tryd.func69, rfl, rfl⟩, trivial⟩⟩ trivial
def T53c (F : Nat) (p0 : List UInt8) (p1 : List UInt8) {β : Type} (k : ((List UInt8)) → Option β) : Option β :=
  (bif (decide ((64 : Int) < (p0.length : Int))) then (Option.bind (gstr p0) fun x17 => (Option.bind (T68 F x17) fun z18 => (Option.bind (T69 F z18 (UInt8.ofNat 54)) fun z19 => (Option.bind (gapp z19 p1) fun x20 => (Option.bind (T68 F x20) fun z21 => (Option.bind (T69 F z18 (UInt8.ofNat 92)) fun z22 => (Option.bind (gstr z21) fun x23 => (Option.bind (gapp z22 x23) fun x24 => (Option.bind (T68 F x24) fun z25 => (k z25)))))))))) else (Option.bind (T69 F p0 (UInt8.ofNat 54)) fun z26 => (Option.bind (gapp z26 p1) fun x27 => (Option.bind (T68 F x27) fun z28 => (Option.bind (T69 F p0 (UInt8.ofNat 92)) fun z29 => (Option.bind (gstr z28) fun x30 => (Option.bind (gapp z29 x30) fun x31 => (Option.bind (T68 F x31) fun z32 => (k z32)))))))))
def T53 (F : Nat) (p0 : List UInt8) (p1 : List UInt8) : Option ((List UInt8)) := T53c F p0 p1 some
theorem T53n (F : Nat) (p0 : List UInt8) (p1 : List UInt8) {β : Type} (k : ((List UInt8)) → Option β) : T53c F p0 p1 k = (T53 F p0 p1).bind k := by
  simp only [T53, T53c, Option.bind_assoc, cond_bind, Option.bind_some, elimS_bind]
@[reducible] def cA53 : List Sh := [.str, (.ro .u8)]
@[reducible] def cB53 : List Sh := [.str]
@[reducible] def cT53 : List TSh := []
@[reducible] def cU53 : List TSh := []
def ct53 (F : Nat) : Ct := mkC 0 cA53 cT53 cB53 cU53 (fun x y => T53 F x.1 x.2.1) (fun x y (z : (List UInt8)) => ((z, ()), ()))
theorem eq53 (F : Nat) (x : dens cA53) (y : tdens cT53) : sev (E53 F) 0 [] (bodyOf Tryd.f53) [] (mkSt (rng 2) cA53 cT53 x y) (kFn (E53 F) 0 Tryd.f53.results.toList cB53 cU53 fun p q => some (p, q)) =
    T53c F x.1 x.2.1 (fun z => some ((z, ()), ())) := by kernel_rfl
theorem ok53 (F : Nat) : Sound Tryd.prog cfg 53 (ct53 F) :=
  mkC_ok (E := E53 F) (lp := []) (code := bodyOf Tryd.f53) Tryd.func53 rfl Tryd.ntmps53 rfl rfl cok (cts53 F) mixed trivial (by kernel_rfl) (fun x y k => T53c F x.1 x.2.1 k) (fun x y k => T53n F x.1 x.2.1 k) (eq53 F)
end Go.Proofs.YtjghgfohpihhfaaDoor
/- kinkeep/kinkeepref11.Name: its twin, and that the call does what the twin says. Printed by a program. -/
namespace Go.Proofs.YtjghgfohpihhfaaDoor
open Go.Tw
set_option linter.unusedSimpArgs false
set_option linter.unusedVariables false
def ord24 : Nat → List (Tag × Nat)
  | 5 => [(.p, 0), (.c, 1), (.p, 2), (.p, 3), (.p, 5), (.w, 4), (.w, 6), (.w, 7), (.p, 8), (.p, 9)]
  | _ => []
def al24 : Nat → Option Nat
  | _ => none
def E24 (F : Nat) : Ev := ⟨cfg, 26, ctOf [(52, ct52 F), (45, ct45 F), (53, ct53 F)], ord24, ctOf [], al24⟩
theorem cts24 (F : Nat) : CtsOk Tryd.prog (E24 F) := cts_of (l := [(52, ct52 F), (45, ct45 F), (53, ct53 F)]) (l' := []) rfl rfl ⟨⟨ok52 F, _, Tryd.func52, rfl, rfl⟩, ⟨⟨ok45 F, _, Tryd.func45, rfl, rfl⟩, ⟨⟨ok53 F, _, Tryd.func53, rfl, rfl⟩, trivial⟩⟩⟩ trivial
def T24c (F : Nat) (p0 : List UInt8) (p1 : List UInt8) (p2 : List UInt8) (p3 : List UInt8) (p4 : List UInt8) (p5 : Int) (p6 : List UInt8) {β : Type} (k : ((List UInt8) × Int) → Option β) : Option β :=
  (Option.bind (T52 F p0 p1 p2 p3 p4) fun z5 => (bif (!z5) then (k (([] : List UInt8), (1 : Int))) else (bif (decide (p5 < (0 : Int))) then (k (([] : List UInt8), (1 : Int))) else (bif (decide ((32768 : Int) < (p6.length : Int))) then (k (([] : List UInt8), (2 : Int))) else (Option.bind (T45 F (UInt64.ofInt p5)) fun z6 => (Option.bind (gapp z6 p6) fun x7 => (Option.bind (T53 F p0 x7) fun z8 => (k (z8, (0 : Int))))))))))
def T24 (F : Nat) (p0 : List UInt8) (p1 : List UInt8) (p2 : List UInt8) (p3 : List UInt8) (p4 : List UInt8) (p5 : Int) (p6 : List UInt8) : Option ((List UInt8) × Int) := T24c F p0 p1 p2 p3 p4 p5 p6 some
theorem T24n (F : Nat) (p0 : List UInt8) (p1 : List UInt8) (p2 : List UInt8) (p3 : List UInt8) (p4 : List UInt8) (p5 : Int) (p6 : List UInt8) {β : Type} (k : ((List UInt8) × Int) → Option β) : T24c F p0 p1 p2 p3 p4 p5 p6 k = (T24 F p0 p1 p2 p3 p4 p5 p6).bind k := by
  simp only [T24, T24c, Option.bind_assoc, cond_bind, Option.bind_some, elimS_bind]
@[reducible] def cA24 : List Sh := [(.pr .str (.pr .str (.pr .str (.pr .str (.pr .str .un))))), .i, (.ro .u8)]
@[reducible] def cB24 : List Sh := [.str, .i]
@[reducible] def cT24 : List TSh := []
@[reducible] def cU24 : List TSh := []
def ct24 (F : Nat) : Ct := mkC 0 cA24 cT24 cB24 cU24 (fun x y => T24 F x.1.1 x.1.2.1 x.1.2.2.1 x.1.2.2.2.1 x.1.2.2.2.2.1 x.2.1 x.2.2.1) (fun x y (z : (List UInt8) × Int) => ((z.1, z.2, ()), ()))
theorem eq24 (F : Nat) (x : dens cA24) (y : tdens cT24) : sev (E24 F) 0 [] (bodyOf Tryd.f24) [] (mkSt (rng 3) cA24 cT24 x y) (kFn (E24 F) 0 Tryd.f24.results.toList cB24 cU24 fun p q => some (p, q)) =
    T24c F x.1.1 x.1.2.1 x.1.2.2.1 x.1.2.2.2.1 x.1.2.2.2.2.1 x.2.1 x.2.2.1 (fun z => some ((z.1, z.2, ()), ())) := by kernel_rfl
theorem ok24 (F : Nat) : Sound Tryd.prog cfg 24 (ct24 F) :=
  mkC_ok (E := E24 F) (lp := []) (code := bodyOf Tryd.f24) Tryd.func24 rfl Tryd.ntmps24 rfl rfl cok (cts24 F) mixed trivial (by kernel_rfl) (fun x y k => T24c F x.1.1 x.1.2.1 x.1.2.2.1 x.1.2.2.2.1 x.1.2.2.2.2.1 x.2.1 x.2.2.1 k) (fun x y k => T24n F x.1.1 x.1.2.1 x.1.2.2.1 x.1.2.2.2.1 x.1.2.2.2.2.1 x.2.1 x.2.2.1 k) (eq24 F)
end Go.Proofs.YtjghgfohpihhfaaDoor
/- kinkeep/kinkeepref11.Check: its twin, and that the call does what the twin says. Printed by a program. -/
namespace Go.Proofs.YtjghgfohpihhfaaDoor
open Go.Tw
set_option linter.unusedSimpArgs false
set_option linter.unusedVariables false
def ord26 : Nat → List (Tag × Nat)
  | _ => []
def al26 : Nat → Option Nat
  | _ => none
def E26 (F : Nat) : Ev := ⟨cfg, 18, ctOf [(52, ct52 F), (53, ct53 F)], ord26, ctOf [], al26⟩
theorem cts26 (F : Nat) : CtsOk Tryd.prog (E26 F) := cts_of (l := [(52, ct52 F), (53, ct53 F)]) (l' := []) rfl rfl ⟨⟨ok52 F, _, Tryd.func52, rfl, rfl⟩, ⟨⟨ok53 F, _, Tryd.func53, rfl, rfl⟩, trivial⟩⟩ trivial
def T26c (F : Nat) (p0 : List UInt8) (p1 : List UInt8) (p2 : List UInt8) (p3 : List UInt8) (p4 : List UInt8) (p5 : List UInt8) {β : Type} (k : ((List UInt8) × Int) → Option β) : Option β :=
  (Option.bind (T52 F p0 p1 p2 p3 p4) fun z5 => (bif (!z5) then (k (([] : List UInt8), (1 : Int))) else (bif (decide ((32768 : Int) < (p5.length : Int))) then (k (([] : List UInt8), (2 : Int))) else (Option.bind (T53 F p2 p5) fun z6 => (Option.bind (gstr z6) fun x7 => (Option.bind (gslb x7.length (0 : Int) (16 : Int)) fun x8 => (k (((x7.drop x8.1).take (x8.2 - x8.1)), (0 : Int)))))))))
def T26 (F : Nat) (p0 : List UInt8) (p1 : List UInt8) (p2 : List UInt8) (p3 : List UInt8) (p4 : List UInt8) (p5 : List UInt8) : Option ((List UInt8) × Int) := T26c F p0 p1 p2 p3 p4 p5 some
theorem T26n (F : Nat) (p0 : List UInt8) (p1 : List UInt8) (p2 : List UInt8) (p3 : List UInt8) (p4 : List UInt8) (p5 : List UInt8) {β : Type} (k : ((List UInt8) × Int) → Option β) : T26c F p0 p1 p2 p3 p4 p5 k = (T26 F p0 p1 p2 p3 p4 p5).bind k := by
  simp only [T26, T26c, Option.bind_assoc, cond_bind, Option.bind_some, elimS_bind]
@[reducible] def cA26 : List Sh := [(.pr .str (.pr .str (.pr .str (.pr .str (.pr .str .un))))), (.ro .u8)]
@[reducible] def cB26 : List Sh := [(.ro .u8), .i]
@[reducible] def cT26 : List TSh := []
@[reducible] def cU26 : List TSh := []
def ct26 (F : Nat) : Ct := mkC 0 cA26 cT26 cB26 cU26 (fun x y => T26 F x.1.1 x.1.2.1 x.1.2.2.1 x.1.2.2.2.1 x.1.2.2.2.2.1 x.2.1) (fun x y (z : (List UInt8) × Int) => ((z.1, z.2, ()), ()))
theorem eq26 (F : Nat) (x : dens cA26) (y : tdens cT26) : sev (E26 F) 0 [] (bodyOf Tryd.f26) [] (mkSt (rng 2) cA26 cT26 x y) (kFn (E26 F) 0 Tryd.f26.results.toList cB26 cU26 fun p q => some (p, q)) =
    T26c F x.1.1 x.1.2.1 x.1.2.2.1 x.1.2.2.2.1 x.1.2.2.2.2.1 x.2.1 (fun z => some ((z.1, z.2, ()), ())) := by kernel_rfl
theorem ok26 (F : Nat) : Sound Tryd.prog cfg 26 (ct26 F) :=
  mkC_ok (E := E26 F) (lp := []) (code := bodyOf Tryd.f26) Tryd.func26 rfl Tryd.ntmps26 rfl rfl cok (cts26 F) mixed trivial (by kernel_rfl) (fun x y k => T26c F x.1.1 x.1.2.1 x.1.2.2.1 x.1.2.2.2.1 x.1.2.2.2.2.1 x.2.1 k) (fun x y k => T26n F x.1.1 x.1.2.1 x.1.2.2.1 x.1.2.2.2.1 x.1.2.2.2.2.1 x.2.1 k) (eq26 F)
end Go.Proofs.YtjghgfohpihhfaaDoor
/- kinkeep/kinkeepref07.word: its twin, and that the call does what the twin says. Printed by a program. -/
namespace Go.Proofs.YtjghgfohpihhfaaDoor
open Go.Tw
set_option linter.unusedSimpArgs false
set_option linter.unusedVariables false
def ord88 : Nat → List (Tag × Nat)
  | 1 => [(.p, 0), (.p, 1), (.p, 2), (.p, 3), (.p, 4), (.p, 5), (.p, 6), (.p, 7), (.p, 8), (.p, 9), (.p, 10), (.p, 11), (.p, 12), (.p, 13), (.p, 14), (.p, 15), (.p, 16), (.p, 17), (.p, 18), (.p, 19), (.p, 20), (.p, 21), (.p, 22), (.p, 23), (.p, 24), (.p, 25), (.p, 26), (.p, 27), (.p, 28), (.p, 29)]
  | _ => []
def al88 : Nat → Option Nat
  | _ => none
def E88 (F : Nat) : Ev := ⟨cfg, 34, ctOf [], ord88, ctOf [], al88⟩
theorem cts88 (F : Nat) : CtsOk Tryd.prog (E88 F) := cts_of (l := []) (l' := []) rfl rfl trivial trivial
def T88c (F : Nat) (p0 : List UInt8) (p1 : Int) {β : Type} (k : UInt32 → Option β) : Option β :=
  (Option.bind (ix p0 (w64 ((4 : Int) * p1))) fun x5 => (Option.bind (ix p0 (w64 ((w64 ((4 : Int) * p1)) + (1 : Int)))) fun x6 => (Option.bind (ix p0 (w64 ((w64 ((4 : Int) * p1)) + (2 : Int)))) fun x7 => (Option.bind (ix p0 (w64 ((w64 ((4 : Int) * p1)) + (3 : Int)))) fun x8 => (k ((((x5.toUInt32) ||| (shl32 (x6.toUInt32) ((UInt64.ofNat 8).toNat))) ||| (shl32 (x7.toUInt32) ((UInt64.ofNat 16).toNat))) ||| (shl32 (x8.toUInt32) ((UInt64.ofNat 24).toNat))))))))
def T88 (F : Nat) (p0 : List UInt8) (p1 : Int) : Option (UInt32) := T88c F p0 p1 some
theorem T88n (F : Nat) (p0 : List UInt8) (p1 : Int) {β : Type} (k : UInt32 → Option β) : T88c F p0 p1 k = (T88 F p0 p1).bind k := by
  simp only [T88, T88c, Option.bind_assoc, cond_bind, Option.bind_some, elimS_bind]
@[reducible] def cA88 : List Sh := [.str, .i]
@[reducible] def cB88 : List Sh := [.u32]
@[reducible] def cT88 : List TSh := []
@[reducible] def cU88 : List TSh := []
def ct88 (F : Nat) : Ct := mkC 0 cA88 cT88 cB88 cU88 (fun x y => T88 F x.1 x.2.1) (fun x y (z : UInt32) => ((z, ()), ()))
theorem eq88 (F : Nat) (x : dens cA88) (y : tdens cT88) : sev (E88 F) 0 [] (bodyOf Tryd.f88) [] (mkSt (rng 2) cA88 cT88 x y) (kFn (E88 F) 0 Tryd.f88.results.toList cB88 cU88 fun p q => some (p, q)) =
    T88c F x.1 x.2.1 (fun z => some ((z, ()), ())) := by kernel_rfl
theorem ok88 (F : Nat) : Sound Tryd.prog cfg 88 (ct88 F) :=
  mkC_ok (E := E88 F) (lp := []) (code := bodyOf Tryd.f88) Tryd.func88 rfl Tryd.ntmps88 rfl rfl cok (cts88 F) mixed trivial (by kernel_rfl) (fun x y k => T88c F x.1 x.2.1 k) (fun x y k => T88n F x.1 x.2.1 k) (eq88 F)
end Go.Proofs.YtjghgfohpihhfaaDoor
/- kinkeep/kinkeepref07.rotl: its twin, and that the call does what the twin says. Printed by a program. -/
namespace Go.Proofs.YtjghgfohpihhfaaDoor
open Go.Tw
set_option linter.unusedSimpArgs false
set_option linter.unusedVariables false
def ord95 : Nat → List (Tag × Nat)
  | 1 => [(.p, 0), (.p, 1), (.p, 2), (.p, 3), (.p, 4), (.p, 5), (.p, 6), (.p, 7), (.p, 8)]
  | _ => []
def al95 : Nat → Option Nat
  | _ => none
def E95 (F : Nat) : Ev := ⟨cfg, 13, ctOf [], ord95, ctOf [], al95⟩
theorem cts95 (F : Nat) : CtsOk Tryd.prog (E95 F) := cts_of (l := []) (l' := []) rfl rfl trivial trivial
def T95c (F : Nat) (p0 : UInt32) (p1 : Int) {β : Type} (k : UInt32 → Option β) : Option β :=
  (Option.bind (gnn p1) fun x3 => (Option.bind (gnn (w64 ((32 : Int) - p1))) fun x4 => (k ((shl32 p0 x3) ||| (shr32 p0 x4)))))
def T95 (F : Nat) (p0 : UInt32) (p1 : Int) : Option (UInt32) := T95c F p0 p1 some
theorem T95n (F : Nat) (p0 : UInt32) (p1 : Int) {β : Type} (k : UInt32 → Option β) : T95c F p0 p1 k = (T95 F p0 p1).bind k := by
  simp only [T95, T95c, Option.bind_assoc, cond_bind, Option.bind_some, elimS_bind]
@[reducible] def cA95 : List Sh := [.u32, .i]
@[reducible] def cB95 : List Sh := [.u32]
@[reducible] def cT95 : List TSh := []
@[reducible] def cU95 : List TSh := []
def ct95 (F : Nat) : Ct := mkC 0 cA95 cT95 cB95 cU95 (fun x y => T95 F x.1 x.2.1) (fun x y (z : UInt32) => ((z, ()), ()))
theorem eq95 (F : Nat) (x : dens cA95) (y : tdens cT95) : sev (E95 F) 0 [] (bodyOf Tryd.f95) [] (mkSt (rng 2) cA95 cT95 x y) (kFn (E95 F) 0 Tryd.f95.results.toList cB95 cU95 fun p q => some (p, q)) =
    T95c F x.1 x.2.1 (fun z => some ((z, ()), ())) := by kernel_rfl
theorem ok95 (F : Nat) : Sound Tryd.prog cfg 95 (ct95 F) :=
  mkC_ok (E := E95 F) (lp := []) (code := bodyOf Tryd.f95) Tryd.func95 rfl Tryd.ntmps95 rfl rfl cok (cts95 F) mixed trivial (by kernel_rfl) (fun x y k => T95c F x.1 x.2.1 k) (fun x y k => T95n F x.1 x.2.1 k) (eq95 F)
end Go.Proofs.YtjghgfohpihhfaaDoor
/- kinkeep/kinkeepref07.Quarter: its twin, and that the call does what the twin says. Printed by a program. -/
namespace Go.Proofs.YtjghgfohpihhfaaDoor
open Go.Tw
set_option linter.unusedSimpArgs false
set_option linter.unusedVariables false
def ord89 : Nat → List (Tag × Nat)
  | _ => []
def al89 : Nat → Option Nat
  | _ => none
def E89 (F : Nat) : Ev := ⟨cfg, 44, ctOf [(95, ct95 F)], ord89, ctOf [], al89⟩
theorem cts89 (F : Nat) : CtsOk Tryd.prog (E89 F) := cts_of (l := [(95, ct95 F)]) (l' := []) rfl rfl ⟨⟨ok95 F, _, Tryd.func95, rfl, rfl⟩, trivial⟩ trivial
def T89c (F : Nat) (p0 : UInt32) (p1 : UInt32) (p2 : UInt32) (p3 : UInt32) {β : Type} (k : (UInt32 × UInt32 × UInt32 × UInt32) → Option β) : Option β :=
  (Option.bind (T95 F (p3 ^^^ (p0 + p1)) (16 : Int)) fun z5 => (Option.bind (T95 F (p1 ^^^ (p2 + z5)) (12 : Int)) fun z6 => (Option.bind (T95 F (z5 ^^^ ((p0 + p1) + z6)) (8 : Int)) fun z7 => (Option.bind (T95 F (z6 ^^^ ((p2 + z5) + z7)) (7 : Int)) fun z8 => (k (((p0 + p1) + z6), z8, ((p2 + z5) + z7), z7))))))
def T89 (F : Nat) (p0 : UInt32) (p1 : UInt32) (p2 : UInt32) (p3 : UInt32) : Option (UInt32 × UInt32 × UInt32 × UInt32) := T89c F p0 p1 p2 p3 some
theorem T89n (F : Nat) (p0 : UInt32) (p1 : UInt32) (p2 : UInt32) (p3 : UInt32) {β : Type} (k : (UInt32 × UInt32 × UInt32 × UInt32) → Option β) : T89c F p0 p1 p2 p3 k = (T89 F p0 p1 p2 p3).bind k := by
  simp only [T89, T89c, Option.bind_assoc, cond_bind, Option.bind_some, elimS_bind]
@[reducible] def cA89 : List Sh := [.u32, .u32, .u32, .u32]
@[reducible] def cB89 : List Sh := [.u32, .u32, .u32, .u32]
@[reducible] def cT89 : List TSh := []
@[reducible] def cU89 : List TSh := []
def ct89 (F : Nat) : Ct := mkC 0 cA89 cT89 cB89 cU89 (fun x y => T89 F x.1 x.2.1 x.2.2.1 x.2.2.2.1) (fun x y (z : UInt32 × UInt32 × UInt32 × UInt32) => ((z.1, z.2.1, z.2.2.1, z.2.2.2, ()), ()))
theorem eq89 (F : Nat) (x : dens cA89) (y : tdens cT89) : sev (E89 F) 0 [] (bodyOf Tryd.f89) [] (mkSt (rng 4) cA89 cT89 x y) (kFn (E89 F) 0 Tryd.f89.results.toList cB89 cU89 fun p q => some (p, q)) =
    T89c F x.1 x.2.1 x.2.2.1 x.2.2.2.1 (fun z => some ((z.1, z.2.1, z.2.2.1, z.2.2.2, ()), ())) := by kernel_rfl
theorem ok89 (F : Nat) : Sound Tryd.prog cfg 89 (ct89 F) :=
  mkC_ok (E := E89 F) (lp := []) (code := bodyOf Tryd.f89) Tryd.func89 rfl Tryd.ntmps89 rfl rfl cok (cts89 F) mixed trivial (by kernel_rfl) (fun x y k => T89c F x.1 x.2.1 x.2.2.1 x.2.2.2.1 k) (fun x y k => T89n F x.1 x.2.1 x.2.2.1 x.2.2.2.1 k) (eq89 F)
end Go.Proofs.YtjghgfohpihhfaaDoor
/- kinkeep/kinkeepref07.Block: its twin, and that the call does what the twin says. Printed by a program. -/
namespace Go.Proofs.YtjghgfohpihhfaaDoor
open Go.Tw
set_option linter.unusedSimpArgs false
set_option linter.unusedVariables false
def ord72 : Nat → List (Tag × Nat)
  | 21 => [(.p, 0), (.c, 1), (.p, 2), (.c, 3), (.p, 4), (.c, 5), (.p, 6), (.c, 7), (.p, 8), (.r, 9), (.p, 10), (.r, 11), (.p, 12), (.r, 13), (.p, 14), (.r, 15), (.p, 16), (.r, 17), (.p, 18), (.r, 19), (.p, 20), (.r, 21), (.p, 22), (.r, 23), (.w, 24), (.p, 25), (.p, 26), (.p, 27), (.p, 28), (.p, 29), (.p, 30), (.w, 31), (.p, 32), (.w, 33), (.p, 34), (.w, 35), (.p, 36), (.w, 37)]
  | 27 => [(.p, 0), (.p, 1), (.r, 2), (.p, 3), (.p, 4), (.r, 5), (.p, 6), (.p, 7)]
  | _ => []
def al72 : Nat → Option Nat
  | _ => none
def E72 (F : Nat) : Ev := ⟨cfg, 130, ctOf [(88, ct88 F), (89, ct89 F)], ord72, ctOf [], al72⟩
theorem cts72 (F : Nat) : CtsOk Tryd.prog (E72 F) := cts_of (l := [(88, ct88 F), (89, ct89 F)]) (l' := []) rfl rfl ⟨⟨ok88 F, _, Tryd.func88, rfl, rfl⟩, ⟨⟨ok89 F, _, Tryd.func89, rfl, rfl⟩, trivial⟩⟩ trivial
def L72_7c (F : Nat) (y99 : List UInt8) (y102 : Int) (y103 : Vector UInt32 16) {β : Type} (kA : (Int × (Vector UInt32 16)) → Option β) (kO : ((Vector UInt32 16)) → Option β) : Option β :=
  (bif (decide (y102 < (8 : Int))) then (Option.bind (T88 F y99 y102) fun z106 => (Option.bind (inb 16 (w64 ((4 : Int) + y102))) fun x107 => (kA ((w64 (y102 + (1 : Int))), (Vector.setIfInBounds y103 x107 z106))))) else (kO y103))
def L72_7 (F : Nat) (y99 : List UInt8) (y102 : Int) (y103 : Vector UInt32 16) : Option ((Int × (Vector UInt32 16)) ⊕ ((Vector UInt32 16))) := L72_7c F y99 y102 y103 (fun s => some (.inl s)) (fun z => some (.inr z))
theorem L72_7n (F : Nat) (y99 : List UInt8) (y102 : Int) (y103 : Vector UInt32 16) {β : Type} (kA : (Int × (Vector UInt32 16)) → Option β) (kO : ((Vector UInt32 16)) → Option β) : L72_7c F y99 y102 y103 kA kO = (L72_7 F y99 y102 y103).bind (elimS kA kO) := by
  simp only [L72_7, L72_7c, Option.bind_assoc, cond_bind, Option.bind_some, elimS_l, elimS_r, elimS_bind]
@[reducible] def sA72_7 : List Sh := [.str, .str, .u32, (.pt 0 []), .i]
@[reducible] def sA172_7 : List Sh := [.str, .u32, (.pt 0 [])]
@[reducible] def sT72_7 : List TSh := [.blk 115 (.ar 16 .u32)]
@[reducible] def sT172_7 : List TSh := [.blk 115 (.ar 16 .u32)]
def lc72_7 (F : Nat) : Lc := mkL [0, 1, 2, 8, 9] sA72_7 sT72_7 [1, 2, 8] sA172_7 sT172_7 F (fun x y (s : Int × (Vector UInt32 16)) => L72_7 F x.1 s.1 s.2) (fun x y => (x.2.2.2.2.1, y.1)) (fun x y (z : (Vector UInt32 16)) => ((x.2.1, x.2.2.1, (), ()), (z, ())))
theorem le72_7 (F : Nat) (x : dens sA72_7) (y : tdens sT72_7) (s : Int × (Vector UInt32 16)) : sev (E72 F) 0 [] (cAt (bodyOf Tryd.f72) (0 :: 0 :: [1, 0, 1, 1, 1])) (0 :: 0 :: [1, 0, 1, 1, 1]) (mkSt [0, 1, 2, 8, 9] sA72_7 sT72_7 (x.1, x.2.1, x.2.2.1, (), s.1, ()) (s.2, ())) (kLoop 0 [0, 1, 2, 8, 9] sA72_7 sT72_7 [1, 2, 8] sA172_7 sT172_7 [] [] [] 0 (fun x y => some (.inl (x, y))) (fun x y => some (.inr (.inl (x, y)))) (fun x y => some (.inr (.inr (x, y))))) =
    L72_7c (β := Full sA72_7 sT72_7 sA172_7 sT172_7 [] []) F x.1 s.1 s.2 (fun s => some (.inl ((x.1, x.2.1, x.2.2.1, (), s.1, ()), (s.2, ())))) (fun z => some (.inr (.inl ((x.2.1, x.2.2.1, (), ()), (z, ()))))) := by kernel_rfl
theorem lo72_7 (F : Nat) : LcOk Tryd.prog (E72 F) 0 (lc72_7 F) (cAt (bodyOf Tryd.f72) [1, 0, 1, 1, 1]) :=
  mkL_ok (lp := []) (id := 0) (b := cAt (bodyOf Tryd.f72) (0 :: 0 :: [1, 0, 1, 1, 1])) cok (cts72 F) mixed trivial (by kernel_rfl) (by kernel_rfl) (fun x y s => (x.1, x.2.1, x.2.2.1, (), s.1, ())) (fun x y s => (s.2, ())) (fun x y => rfl) (fun x y => rfl) (fun x y s kA kO => L72_7c F x.1 s.1 s.2 kA kO) (fun x y s kA kO => L72_7n F x.1 s.1 s.2 kA kO) (le72_7 F)
def L72_8c (F : Nat) (y109 : List UInt8) (y110 : Int) (y111 : Vector UInt32 16) {β : Type} (kA : (Int × (Vector UInt32 16)) → Option β) (kO : ((Vector UInt32 16)) → Option β) : Option β :=
  (bif (decide (y110 < (3 : Int))) then (Option.bind (T88 F y109 y110) fun z114 => (Option.bind (inb 16 (w64 ((13 : Int) + y110))) fun x115 => (kA ((w64 (y110 + (1 : Int))), (Vector.setIfInBounds y111 x115 z114))))) else (kO y111))
def L72_8 (F : Nat) (y109 : List UInt8) (y110 : Int) (y111 : Vector UInt32 16) : Option ((Int × (Vector UInt32 16)) ⊕ ((Vector UInt32 16))) := L72_8c F y109 y110 y111 (fun s => some (.inl s)) (fun z => some (.inr z))
theorem L72_8n (F : Nat) (y109 : List UInt8) (y110 : Int) (y111 : Vector UInt32 16) {β : Type} (kA : (Int × (Vector UInt32 16)) → Option β) (kO : ((Vector UInt32 16)) → Option β) : L72_8c F y109 y110 y111 kA kO = (L72_8 F y109 y110 y111).bind (elimS kA kO) := by
  simp only [L72_8, L72_8c, Option.bind_assoc, cond_bind, Option.bind_some, elimS_l, elimS_r, elimS_bind]
@[reducible] def sA72_8 : List Sh := [.str, (.pt 0 []), .i]
@[reducible] def sA172_8 : List Sh := [(.pt 0 [])]
@[reducible] def sT72_8 : List TSh := [.blk 115 (.ar 16 .u32)]
@[reducible] def sT172_8 : List TSh := [.blk 115 (.ar 16 .u32)]
def lc72_8 (F : Nat) : Lc := mkL [1, 8, 10] sA72_8 sT72_8 [8] sA172_8 sT172_8 F (fun x y (s : Int × (Vector UInt32 16)) => L72_8 F x.1 s.1 s.2) (fun x y => (x.2.2.1, y.1)) (fun x y (z : (Vector UInt32 16)) => (((), ()), (z, ())))
theorem le72_8 (F : Nat) (x : dens sA72_8) (y : tdens sT72_8) (s : Int × (Vector UInt32 16)) : sev (E72 F) 0 [] (cAt (bodyOf Tryd.f72) (0 :: 0 :: [1, 0, 1, 1, 1, 1, 1])) (0 :: 0 :: [1, 0, 1, 1, 1, 1, 1]) (mkSt [1, 8, 10] sA72_8 sT72_8 (x.1, (), s.1, ()) (s.2, ())) (kLoop 0 [1, 8, 10] sA72_8 sT72_8 [8] sA172_8 sT172_8 [] [] [] 2 (fun x y => some (.inl (x, y))) (fun x y => some (.inr (.inl (x, y)))) (fun x y => some (.inr (.inr (x, y))))) =
    L72_8c (β := Full sA72_8 sT72_8 sA172_8 sT172_8 [] []) F x.1 s.1 s.2 (fun s => some (.inl ((x.1, (), s.1, ()), (s.2, ())))) (fun z => some (.inr (.inl (((), ()), (z, ()))))) := by kernel_rfl
theorem lo72_8 (F : Nat) : LcOk Tryd.prog (E72 F) 0 (lc72_8 F) (cAt (bodyOf Tryd.f72) [1, 0, 1, 1, 1, 1, 1]) :=
  mkL_ok (lp := []) (id := 2) (b := cAt (bodyOf Tryd.f72) (0 :: 0 :: [1, 0, 1, 1, 1, 1, 1])) cok (cts72 F) mixed trivial (by kernel_rfl) (by kernel_rfl) (fun x y s => (x.1, (), s.1, ())) (fun x y s => (s.2, ())) (fun x y => rfl) (fun x y => rfl) (fun x y s kA kO => L72_8c F x.1 s.1 s.2 kA kO) (fun x y s kA kO => L72_8n F x.1 s.1 s.2 kA kO) (le72_8 F)
def L72_11c (F : Nat) (y130 : Vector (Vector Int 4) 8) (y131 : Int) (y134 : Vector UInt32 16) {β : Type} (kO : (Int × (Vector UInt32 16)) → Option β) : Option β :=
  (Option.bind (vix y130 y131) fun x157 => (Option.bind (vat x157 0) fun x158 => (Option.bind (vat x157 1) fun x159 => (Option.bind (vat x157 2) fun x160 => (Option.bind (vat x157 3) fun x161 => (Option.bind (vat x157 0) fun x162 => (Option.bind (inb 16 x162) fun x163 => (Option.bind (vat y134 x163) fun x164 => (Option.bind (vat x157 1) fun x165 => (Option.bind (inb 16 x165) fun x166 => (Option.bind (vat y134 x166) fun x167 => (Option.bind (vat x157 2) fun x168 => (Option.bind (inb 16 x168) fun x169 => (Option.bind (vat y134 x169) fun x170 => (Option.bind (vat x157 3) fun x171 => (Option.bind (inb 16 x171) fun x172 => (Option.bind (vat y134 x172) fun x173 => (Option.bind (T89 F x164 x167 x170 x173) fun z174 => (Option.bind (inb 16 x158) fun x175 => (Option.bind (inb 16 x159) fun x176 => (Option.bind (inb 16 x160) fun x177 => (Option.bind (inb 16 x161) fun x178 => (kO ((w64 (y131 + (1 : Int))), (Vector.setIfInBounds (Vector.setIfInBounds (Vector.setIfInBounds (Vector.setIfInBounds y134 x175 z174.1) x176 z174.2.1) x177 z174.2.2.1) x178 z174.2.2.2)))))))))))))))))))))))))
def L72_11 (F : Nat) (y130 : Vector (Vector Int 4) 8) (y131 : Int) (y134 : Vector UInt32 16) : Option (Int × (Vector UInt32 16)) := L72_11c F y130 y131 y134 (fun z => some z)
theorem L72_11n (F : Nat) (y130 : Vector (Vector Int 4) 8) (y131 : Int) (y134 : Vector UInt32 16) {β : Type} (kO : (Int × (Vector UInt32 16)) → Option β) : L72_11c F y130 y131 y134 kO = (L72_11 F y130 y131 y134).bind (kO) := by
  simp only [L72_11, L72_11c, Option.bind_assoc, cond_bind, Option.bind_some, elimS_l, elimS_r, elimS_bind]
@[reducible] def sA72_11 : List Sh := [(.pt 0 []), (.pt 1 []), (.pt 2 []), .i, (.ar 8 (.ar 4 .i)), .i]
@[reducible] def sA172_11 : List Sh := [(.pt 0 []), (.pt 1 []), (.pt 2 []), .i, (.ar 8 (.ar 4 .i)), .i]
@[reducible] def sT72_11 : List TSh := [.blk 115 (.ar 16 .u32), .blk 118 (.ar 8 (.ar 4 .i)), .blk 115 (.ar 16 .u32)]
@[reducible] def sT172_11 : List TSh := [.blk 115 (.ar 16 .u32), .blk 118 (.ar 8 (.ar 4 .i)), .blk 115 (.ar 16 .u32)]
def lc72_11 (F : Nat) : Lc := mkJ [8, 11, 12, 13, 64, 65] sA72_11 sT72_11 [8, 11, 12, 13, 64, 65] sA172_11 sT172_11 (fun x y => L72_11 F x.2.2.2.2.1 x.2.2.2.2.2.1 y.2.2.1) (fun x y (z : Int × (Vector UInt32 16)) => (((), (), (), x.2.2.2.1, x.2.2.2.2.1, z.1, ()), (y.1, y.2.1, z.2, ())))
theorem le72_11 (F : Nat) (x : dens sA72_11) (y : tdens sT72_11) : sev (E72 F) 0 [] (cAt (bodyOf Tryd.f72) [1, 1, 0, 0, 1, 0, 0, 1, 0, 0, 1, 0, 1, 1, 1, 1, 1, 1, 1, 1]) [1, 1, 0, 0, 1, 0, 0, 1, 0, 0, 1, 0, 1, 1, 1, 1, 1, 1, 1, 1] (mkSt [8, 11, 12, 13, 64, 65] sA72_11 sT72_11 x y) (kJoin 0 [8, 11, 12, 13, 64, 65] sA172_11 sT172_11 (fun x y => some (x, y))) =
    L72_11c (β := dens sA172_11 × tdens sT172_11) F x.2.2.2.2.1 x.2.2.2.2.2.1 y.2.2.1 (fun z => some (((), (), (), x.2.2.2.1, x.2.2.2.2.1, z.1, ()), (y.1, y.2.1, z.2, ()))) := by kernel_rfl
theorem lo72_11 (F : Nat) : LcOk Tryd.prog (E72 F) 0 (lc72_11 F) (cAt (bodyOf Tryd.f72) [1, 1, 0, 0, 1, 0, 0, 1, 0, 0, 1, 0, 1, 1, 1, 1, 1, 1, 1, 1]) :=
  mkJ_ok (lp := []) cok (cts72 F) mixed trivial (by kernel_rfl) (fun x y kO => L72_11c F x.2.2.2.2.1 x.2.2.2.2.2.1 y.2.2.1 kO) (fun x y kO => L72_11n F x.2.2.2.2.1 x.2.2.2.2.2.1 y.2.2.1 kO) (le72_11 F)
def L72_10c (F : Nat) (y123 : Vector (Vector Int 4) 8) (y124 : Int) (y127 : Vector UInt32 16) {β : Type} (kA : (Int × (Vector UInt32 16)) → Option β) (kO : ((Vector UInt32 16)) → Option β) : Option β :=
  (bif (decide (y124 < (8 : Int))) then (Option.bind (L72_11 F y123 y124 y127) fun z179 => (kA (z179.1, z179.2))) else (kO y127))
def L72_10 (F : Nat) (y123 : Vector (Vector Int 4) 8) (y124 : Int) (y127 : Vector UInt32 16) : Option ((Int × (Vector UInt32 16)) ⊕ ((Vector UInt32 16))) := L72_10c F y123 y124 y127 (fun s => some (.inl s)) (fun z => some (.inr z))
theorem L72_10n (F : Nat) (y123 : Vector (Vector Int 4) 8) (y124 : Int) (y127 : Vector UInt32 16) {β : Type} (kA : (Int × (Vector UInt32 16)) → Option β) (kO : ((Vector UInt32 16)) → Option β) : L72_10c F y123 y124 y127 kA kO = (L72_10 F y123 y124 y127).bind (elimS kA kO) := by
  simp only [L72_10, L72_10c, Option.bind_assoc, cond_bind, Option.bind_some, elimS_l, elimS_r, elimS_bind]
@[reducible] def sA72_10 : List Sh := [(.pt 0 []), (.pt 1 []), (.pt 2 []), .i, (.ar 8 (.ar 4 .i)), .i]
@[reducible] def sA172_10 : List Sh := [(.pt 0 []), (.pt 1 []), (.pt 2 []), .i]
@[reducible] def sT72_10 : List TSh := [.blk 115 (.ar 16 .u32), .blk 118 (.ar 8 (.ar 4 .i)), .blk 115 (.ar 16 .u32)]
@[reducible] def sT172_10 : List TSh := [.blk 115 (.ar 16 .u32), .blk 118 (.ar 8 (.ar 4 .i)), .blk 115 (.ar 16 .u32)]
def lc72_10 (F : Nat) : Lc := mkL [8, 11, 12, 13, 64, 65] sA72_10 sT72_10 [8, 11, 12, 13] sA172_10 sT172_10 F (fun x y (s : Int × (Vector UInt32 16)) => L72_10 F x.2.2.2.2.1 s.1 s.2) (fun x y => (x.2.2.2.2.2.1, y.2.2.1)) (fun x y (z : (Vector UInt32 16)) => (((), (), (), x.2.2.2.1, ()), (y.1, y.2.1, z, ())))
theorem le72_10 (F : Nat) (x : dens sA72_10) (y : tdens sT72_10) (s : Int × (Vector UInt32 16)) : sev (E72 F) 0 [([1, 1, 0, 0, 1, 0, 0, 1, 0, 0, 1, 0, 1, 1, 1, 1, 1, 1, 1, 1], lc72_11 F)] (cAt (bodyOf Tryd.f72) (0 :: 0 :: [1, 0, 0, 1, 0, 0, 1, 0, 1, 1, 1, 1, 1, 1, 1, 1])) (0 :: 0 :: [1, 0, 0, 1, 0, 0, 1, 0, 1, 1, 1, 1, 1, 1, 1, 1]) (mkSt [8, 11, 12, 13, 64, 65] sA72_10 sT72_10 ((), (), (), x.2.2.2.1, x.2.2.2.2.1, s.1, ()) (y.1, y.2.1, s.2, ())) (kLoop 0 [8, 11, 12, 13, 64, 65] sA72_10 sT72_10 [8, 11, 12, 13] sA172_10 sT172_10 [] [] [] 6 (fun x y => some (.inl (x, y))) (fun x y => some (.inr (.inl (x, y)))) (fun x y => some (.inr (.inr (x, y))))) =
    L72_10c (β := Full sA72_10 sT72_10 sA172_10 sT172_10 [] []) F x.2.2.2.2.1 s.1 s.2 (fun s => some (.inl (((), (), (), x.2.2.2.1, x.2.2.2.2.1, s.1, ()), (y.1, y.2.1, s.2, ())))) (fun z => some (.inr (.inl (((), (), (), x.2.2.2.1, ()), (y.1, y.2.1, z, ()))))) := by kernel_rfl
theorem lo72_10 (F : Nat) : LcOk Tryd.prog (E72 F) 0 (lc72_10 F) (cAt (bodyOf Tryd.f72) [1, 0, 0, 1, 0, 0, 1, 0, 1, 1, 1, 1, 1, 1, 1, 1]) :=
  mkL_ok (lp := [([1, 1, 0, 0, 1, 0, 0, 1, 0, 0, 1, 0, 1, 1, 1, 1, 1, 1, 1, 1], lc72_11 F)]) (id := 6) (b := cAt (bodyOf Tryd.f72) (0 :: 0 :: [1, 0, 0, 1, 0, 0, 1, 0, 1, 1, 1, 1, 1, 1, 1, 1])) cok (cts72 F) mixed ⟨lo72_11 F, trivial⟩ (by kernel_rfl) (by kernel_rfl) (fun x y s => ((), (), (), x.2.2.2.1, x.2.2.2.2.1, s.1, ())) (fun x y s => (y.1, y.2.1, s.2, ())) (fun x y => rfl) (fun x y => rfl) (fun x y s kA kO => L72_10c F x.2.2.2.2.1 s.1 s.2 kA kO) (fun x y s kA kO => L72_10n F x.2.2.2.2.1 s.1 s.2 kA kO) (le72_10 F)
def L72_9c (F : Nat) (y119 : Vector (Vector Int 4) 8) (y117 : Int) (y120 : Vector UInt32 16) {β : Type} (kA : (Int × (Vector UInt32 16)) → Option β) (kO : ((Vector UInt32 16)) → Option β) : Option β :=
  (bif (decide (y117 < (10 : Int))) then (Option.bind (iter (fun s => L72_10 F y119 s.1 s.2) F ((0 : Int), y120)) fun z180 => (kA ((w64 (y117 + (1 : Int))), z180))) else (kO y120))
def L72_9 (F : Nat) (y119 : Vector (Vector Int 4) 8) (y117 : Int) (y120 : Vector UInt32 16) : Option ((Int × (Vector UInt32 16)) ⊕ ((Vector UInt32 16))) := L72_9c F y119 y117 y120 (fun s => some (.inl s)) (fun z => some (.inr z))
theorem L72_9n (F : Nat) (y119 : Vector (Vector Int 4) 8) (y117 : Int) (y120 : Vector UInt32 16) {β : Type} (kA : (Int × (Vector UInt32 16)) → Option β) (kO : ((Vector UInt32 16)) → Option β) : L72_9c F y119 y117 y120 kA kO = (L72_9 F y119 y117 y120).bind (elimS kA kO) := by
  simp only [L72_9, L72_9c, Option.bind_assoc, cond_bind, Option.bind_some, elimS_l, elimS_r, elimS_bind]
@[reducible] def sA72_9 : List Sh := [(.pt 0 []), (.pt 1 []), (.pt 2 []), .i]
@[reducible] def sA172_9 : List Sh := [(.pt 0 []), (.pt 1 [])]
@[reducible] def sT72_9 : List TSh := [.blk 115 (.ar 16 .u32), .blk 118 (.ar 8 (.ar 4 .i)), .blk 115 (.ar 16 .u32)]
@[reducible] def sT172_9 : List TSh := [.blk 115 (.ar 16 .u32), .blk 115 (.ar 16 .u32)]
def lc72_9 (F : Nat) : Lc := mkL [8, 11, 12, 13] sA72_9 sT72_9 [8, 12] sA172_9 sT172_9 F (fun x y (s : Int × (Vector UInt32 16)) => L72_9 F y.2.1 s.1 s.2) (fun x y => (x.2.2.2.1, y.2.2.1)) (fun x y (z : (Vector UInt32 16)) => (((), (), ()), (y.1, z, ())))
theorem le72_9 (F : Nat) (x : dens sA72_9) (y : tdens sT72_9) (s : Int × (Vector UInt32 16)) : sev (E72 F) 0 [([1, 0, 0, 1, 0, 0, 1, 0, 1, 1, 1, 1, 1, 1, 1, 1], lc72_10 F)] (cAt (bodyOf Tryd.f72) (0 :: 0 :: [1, 0, 1, 1, 1, 1, 1, 1, 1, 1])) (0 :: 0 :: [1, 0, 1, 1, 1, 1, 1, 1, 1, 1]) (mkSt [8, 11, 12, 13] sA72_9 sT72_9 ((), (), (), s.1, ()) (y.1, y.2.1, s.2, ())) (kLoop 0 [8, 11, 12, 13] sA72_9 sT72_9 [8, 12] sA172_9 sT172_9 [] [] [] 4 (fun x y => some (.inl (x, y))) (fun x y => some (.inr (.inl (x, y)))) (fun x y => some (.inr (.inr (x, y))))) =
    L72_9c (β := Full sA72_9 sT72_9 sA172_9 sT172_9 [] []) F y.2.1 s.1 s.2 (fun s => some (.inl (((), (), (), s.1, ()), (y.1, y.2.1, s.2, ())))) (fun z => some (.inr (.inl (((), (), ()), (y.1, z, ()))))) := by kernel_rfl
theorem lo72_9 (F : Nat) : LcOk Tryd.prog (E72 F) 0 (lc72_9 F) (cAt (bodyOf Tryd.f72) [1, 0, 1, 1, 1, 1, 1, 1, 1, 1]) :=
  mkL_ok (lp := [([1, 0, 0, 1, 0, 0, 1, 0, 1, 1, 1, 1, 1, 1, 1, 1], lc72_10 F)]) (id := 4) (b := cAt (bodyOf Tryd.f72) (0 :: 0 :: [1, 0, 1, 1, 1, 1, 1, 1, 1, 1])) cok (cts72 F) mixed ⟨lo72_10 F, trivial⟩ (by kernel_rfl) (by kernel_rfl) (fun x y s => ((), (), (), s.1, ())) (fun x y s => (y.1, y.2.1, s.2, ())) (fun x y => rfl) (fun x y => rfl) (fun x y s kA kO => L72_9c F y.2.1 s.1 s.2 kA kO) (fun x y s kA kO => L72_9n F y.2.1 s.1 s.2 kA kO) (le72_9 F)
def L72_12c (F : Nat) (y183 : Vector UInt32 16) (y184 : Vector UInt32 16) (y182 : Int) (y185 : List UInt8) {β : Type} (kA : (Int × (List UInt8)) → Option β) (kO : ((List UInt8)) → Option β) : Option β :=
  (bif (decide (y182 < (16 : Int))) then (Option.bind (inb 16 y182) fun x191 => (Option.bind (vat y184 x191) fun x192 => (Option.bind (inb 16 y182) fun x193 => (Option.bind (vat y183 x193) fun x194 => (Option.bind (gapp y185 ([((x192 + x194).toUInt8), ((shr32 (x192 + x194) ((UInt64.ofNat 8).toNat)).toUInt8), ((shr32 (x192 + x194) ((UInt64.ofNat 16).toNat)).toUInt8), ((shr32 (x192 + x194) ((UInt64.ofNat 24).toNat)).toUInt8)] : List UInt8)) fun x195 => (kA ((w64 (y182 + (1 : Int))), x195))))))) else (kO y185))
def L72_12 (F : Nat) (y183 : Vector UInt32 16) (y184 : Vector UInt32 16) (y182 : Int) (y185 : List UInt8) : Option ((Int × (List UInt8)) ⊕ ((List UInt8))) := L72_12c F y183 y184 y182 y185 (fun s => some (.inl s)) (fun z => some (.inr z))
theorem L72_12n (F : Nat) (y183 : Vector UInt32 16) (y184 : Vector UInt32 16) (y182 : Int) (y185 : List UInt8) {β : Type} (kA : (Int × (List UInt8)) → Option β) (kO : ((List UInt8)) → Option β) : L72_12c F y183 y184 y182 y185 kA kO = (L72_12 F y183 y184 y182 y185).bind (elimS kA kO) := by
  simp only [L72_12, L72_12c, Option.bind_assoc, cond_bind, Option.bind_some, elimS_l, elimS_r, elimS_bind]
@[reducible] def sA72_12 : List Sh := [(.pt 0 []), (.pt 1 []), (.rw 2), .i]
@[reducible] def sA172_12 : List Sh := [(.rw 0)]
@[reducible] def sT72_12 : List TSh := [.blk 115 (.ar 16 .u32), .blk 115 (.ar 16 .u32), .row 5 .u8]
@[reducible] def sT172_12 : List TSh := [.row 5 .u8]
def lc72_12 (F : Nat) : Lc := mkL [8, 12, 16, 17] sA72_12 sT72_12 [16] sA172_12 sT172_12 F (fun x y (s : Int × (List UInt8)) => L72_12 F y.1 y.2.1 s.1 s.2) (fun x y => (x.2.2.2.1, y.2.2.1)) (fun x y (z : (List UInt8)) => (((), ()), (z, ())))
theorem le72_12 (F : Nat) (x : dens sA72_12) (y : tdens sT72_12) (s : Int × (List UInt8)) : sev (E72 F) 0 [] (cAt (bodyOf Tryd.f72) (0 :: 0 :: [1, 0, 1, 1, 1, 1, 1, 1, 1, 1, 1, 1])) (0 :: 0 :: [1, 0, 1, 1, 1, 1, 1, 1, 1, 1, 1, 1]) (mkSt [8, 12, 16, 17] sA72_12 sT72_12 ((), (), (), s.1, ()) (y.1, y.2.1, s.2, ())) (kLoop 0 [8, 12, 16, 17] sA72_12 sT72_12 [16] sA172_12 sT172_12 [] [] [] 8 (fun x y => some (.inl (x, y))) (fun x y => some (.inr (.inl (x, y)))) (fun x y => some (.inr (.inr (x, y))))) =
    L72_12c (β := Full sA72_12 sT72_12 sA172_12 sT172_12 [] []) F y.1 y.2.1 s.1 s.2 (fun s => some (.inl (((), (), (), s.1, ()), (y.1, y.2.1, s.2, ())))) (fun z => some (.inr (.inl (((), ()), (z, ()))))) := by kernel_rfl
theorem lo72_12 (F : Nat) : LcOk Tryd.prog (E72 F) 0 (lc72_12 F) (cAt (bodyOf Tryd.f72) [1, 0, 1, 1, 1, 1, 1, 1, 1, 1, 1, 1]) :=
  mkL_ok (lp := []) (id := 8) (b := cAt (bodyOf Tryd.f72) (0 :: 0 :: [1, 0, 1, 1, 1, 1, 1, 1, 1, 1, 1, 1])) cok (cts72 F) mixed trivial (by kernel_rfl) (by kernel_rfl) (fun x y s => ((), (), (), s.1, ())) (fun x y s => (y.1, y.2.1, s.2, ())) (fun x y => rfl) (fun x y => rfl) (fun x y s kA kO => L72_12c F y.1 y.2.1 s.1 s.2 kA kO) (fun x y s kA kO => L72_12n F y.1 y.2.1 s.1 s.2 kA kO) (le72_12 F)
def T72c (F : Nat) (p0 : List UInt8) (p1 : List UInt8) (p2 : UInt32) {β : Type} (k : (Int × (List UInt8)) → Option β) : Option β :=
  (bif ((p0.length : Int) != (32 : Int)) then (k ((1 : Int), ([] : List UInt8))) else (bif ((p1.length : Int) != (12 : Int)) then (k ((1 : Int), ([] : List UInt8))) else (Option.bind (iter (fun s => L72_7 F p0 s.1 s.2) F ((0 : Int), (Vector.setIfInBounds (Vector.setIfInBounds (Vector.setIfInBounds (Vector.setIfInBounds (Vector.replicate 16 (0 : UInt32)) 0 (UInt32.ofNat 1634760805)) 1 (UInt32.ofNat 857760878)) 2 (UInt32.ofNat 2036477234)) 3 (UInt32.ofNat 1797285236)))) fun z108 => (Option.bind (iter (fun s => L72_8 F p1 s.1 s.2) F ((0 : Int), (Vector.setIfInBounds z108 12 p2))) fun z116 => (Option.bind (iter (fun s => L72_9 F (#v[(#v[(0 : Int), (4 : Int), (8 : Int), (12 : Int)] : Vector Int 4), (#v[(1 : Int), (5 : Int), (9 : Int), (13 : Int)] : Vector Int 4), (#v[(2 : Int), (6 : Int), (10 : Int), (14 : Int)] : Vector Int 4), (#v[(3 : Int), (7 : Int), (11 : Int), (15 : Int)] : Vector Int 4), (#v[(0 : Int), (5 : Int), (10 : Int), (15 : Int)] : Vector Int 4), (#v[(1 : Int), (6 : Int), (11 : Int), (12 : Int)] : Vector Int 4), (#v[(2 : Int), (7 : Int), (8 : Int), (13 : Int)] : Vector Int 4), (#v[(3 : Int), (4 : Int), (9 : Int), (14 : Int)] : Vector Int 4)] : Vector (Vector Int 4) 8) s.1 s.2) F ((0 : Int), z116)) fun z181 => (Option.bind (iter (fun s => L72_12 F z116 z181 s.1 s.2) F ((0 : Int), ([] : List UInt8))) fun z196 => (k ((0 : Int), z196))))))))
def T72 (F : Nat) (p0 : List UInt8) (p1 : List UInt8) (p2 : UInt32) : Option (Int × (List UInt8)) := T72c F p0 p1 p2 some
theorem T72n (F : Nat) (p0 : List UInt8) (p1 : List UInt8) (p2 : UInt32) {β : Type} (k : (Int × (List UInt8)) → Option β) : T72c F p0 p1 p2 k = (T72 F p0 p1 p2).bind k := by
  simp only [T72, T72c, Option.bind_assoc, cond_bind, Option.bind_some, elimS_bind]
@[reducible] def cA72 : List Sh := [.str, .str, .u32]
@[reducible] def cB72 : List Sh := [(.rw 0), .i]
@[reducible] def cT72 : List TSh := []
@[reducible] def cU72 : List TSh := [.row 5 .u8]
def ct72 (F : Nat) : Ct := mkC 0 cA72 cT72 cB72 cU72 (fun x y => T72 F x.1 x.2.1 x.2.2.1) (fun x y (z : Int × (List UInt8)) => (((), z.1, ()), (z.2, ())))
theorem eq72 (F : Nat) (x : dens cA72) (y : tdens cT72) : sev (E72 F) 0 [([1, 0, 1, 1, 1], lc72_7 F), ([1, 0, 1, 1, 1, 1, 1], lc72_8 F), ([1, 0, 1, 1, 1, 1, 1, 1, 1, 1], lc72_9 F), ([1, 0, 1, 1, 1, 1, 1, 1, 1, 1, 1, 1], lc72_12 F)] (bodyOf Tryd.f72) [] (mkSt (rng 3) cA72 cT72 x y) (kFn (E72 F) 0 Tryd.f72.results.toList cB72 cU72 fun p q => some (p, q)) =
    T72c F x.1 x.2.1 x.2.2.1 (fun z => some (((), z.1, ()), (z.2, ()))) := by kernel_rfl
theorem ok72 (F : Nat) : Sound Tryd.prog cfg 72 (ct72 F) :=
  mkC_ok (E := E72 F) (lp := [([1, 0, 1, 1, 1], lc72_7 F), ([1, 0, 1, 1, 1, 1, 1], lc72_8 F), ([1, 0, 1, 1, 1, 1, 1, 1, 1, 1], lc72_9 F), ([1, 0, 1, 1, 1, 1, 1, 1, 1, 1, 1, 1], lc72_12 F)]) (code := bodyOf Tryd.f72) Tryd.func72 rfl Tryd.ntmps72 rfl rfl cok (cts72 F) mixed ⟨lo72_7 F, ⟨lo72_8 F, ⟨lo72_9 F, ⟨lo72_12 F, trivial⟩⟩⟩⟩ (by kernel_rfl) (fun x y k => T72c F x.1 x.2.1 x.2.2.1 k) (fun x y k => T72n F x.1 x.2.1 x.2.2.1 k) (eq72 F)
end Go.Proofs.YtjghgfohpihhfaaDoor
/- kinkeep/kinkeepref07.Stream: its twin, and that the call does what the twin says. Printed by a program. -/
namespace Go.Proofs.YtjghgfohpihhfaaDoor
open Go.Tw
set_option linter.unusedSimpArgs false
set_option linter.unusedVariables false
def ord55 : Nat → List (Tag × Nat)
  | _ => []
def al55 : Nat → Option Nat
  | _ => none
def E55 (F : Nat) : Ev := ⟨cfg, 82, ctOf [(72, ct72 F)], ord55, ctOf [], al55⟩
theorem cts55 (F : Nat) : CtsOk Tryd.prog (E55 F) := cts_of (l := [(72, ct72 F)]) (l' := []) rfl rfl ⟨⟨ok72 F, _, Tryd.func72, rfl, rfl⟩, trivial⟩ trivial
def L55_2c (F : Nat) (y18 : List UInt8) (y19 : List UInt8) (y20 : Int) (y21 : Int) (y22 : Int) (y23 : List UInt8) {β : Type} (kA : (Int × (List UInt8)) → Option β) (kO : ((List UInt8)) → Option β) : Option β :=
  (bif (decide (y22 < (w64 (y20 + y21)))) then (Option.bind (T72 F y18 y19 (UInt32.ofInt (w64 (Int.tdiv y22 (64 : Int))))) fun z29 => (Option.bind (gslb z29.2.length (Int.tmod y22 (64 : Int)) (z29.2.length : Int)) fun x30 => (bif (decide ((w64 ((w64 (y20 + y21)) - y22)) < ((x30.2 - x30.1 : Nat) : Int))) then (Option.bind (gslb (x30.2 - x30.1) (0 : Int) (w64 ((w64 (y20 + y21)) - y22))) fun x31 => (Option.bind (gapp y23 ((z29.2.drop (x30.1 + x31.1)).take ((x30.1 + x31.2) - (x30.1 + x31.1)))) fun x32 => (kA ((w64 (y22 + (((x30.1 + x31.2) - (x30.1 + x31.1) : Nat) : Int))), x32)))) else (Option.bind (gapp y23 ((z29.2.drop x30.1).take (x30.2 - x30.1))) fun x33 => (kA ((w64 (y22 + ((x30.2 - x30.1 : Nat) : Int))), x33)))))) else (kO y23))
def L55_2 (F : Nat) (y18 : List UInt8) (y19 : List UInt8) (y20 : Int) (y21 : Int) (y22 : Int) (y23 : List UInt8) : Option ((Int × (List UInt8)) ⊕ ((List UInt8))) := L55_2c F y18 y19 y20 y21 y22 y23 (fun s => some (.inl s)) (fun z => some (.inr z))
theorem L55_2n (F : Nat) (y18 : List UInt8) (y19 : List UInt8) (y20 : Int) (y21 : Int) (y22 : Int) (y23 : List UInt8) {β : Type} (kA : (Int × (List UInt8)) → Option β) (kO : ((List UInt8)) → Option β) : L55_2c F y18 y19 y20 y21 y22 y23 kA kO = (L55_2 F y18 y19 y20 y21 y22 y23).bind (elimS kA kO) := by
  simp only [L55_2, L55_2c, Option.bind_assoc, cond_bind, Option.bind_some, elimS_l, elimS_r, elimS_bind]
@[reducible] def sA55_2 : List Sh := [.str, .str, .i, .i, (.rw 0), .i]
@[reducible] def sA155_2 : List Sh := [(.rw 0)]
@[reducible] def sT55_2 : List TSh := [.row 5 .u8]
@[reducible] def sT155_2 : List TSh := [.row 5 .u8]
def lc55_2 (F : Nat) : Lc := mkL [0, 1, 2, 3, 10, 11] sA55_2 sT55_2 [10] sA155_2 sT155_2 F (fun x y (s : Int × (List UInt8)) => L55_2 F x.1 x.2.1 x.2.2.1 x.2.2.2.1 s.1 s.2) (fun x y => (x.2.2.2.2.2.1, y.1)) (fun x y (z : (List UInt8)) => (((), ()), (z, ())))
theorem le55_2 (F : Nat) (x : dens sA55_2) (y : tdens sT55_2) (s : Int × (List UInt8)) : sev (E55 F) 0 [] (cAt (bodyOf Tryd.f55) (0 :: 0 :: [1, 0, 1, 1, 1, 1])) (0 :: 0 :: [1, 0, 1, 1, 1, 1]) (mkSt [0, 1, 2, 3, 10, 11] sA55_2 sT55_2 (x.1, x.2.1, x.2.2.1, x.2.2.2.1, (), s.1, ()) (s.2, ())) (kLoop 0 [0, 1, 2, 3, 10, 11] sA55_2 sT55_2 [10] sA155_2 sT155_2 [] [] [] 0 (fun x y => some (.inl (x, y))) (fun x y => some (.inr (.inl (x, y)))) (fun x y => some (.inr (.inr (x, y))))) =
    L55_2c (β := Full sA55_2 sT55_2 sA155_2 sT155_2 [] []) F x.1 x.2.1 x.2.2.1 x.2.2.2.1 s.1 s.2 (fun s => some (.inl ((x.1, x.2.1, x.2.2.1, x.2.2.2.1, (), s.1, ()), (s.2, ())))) (fun z => some (.inr (.inl (((), ()), (z, ()))))) := by kernel_rfl
theorem lo55_2 (F : Nat) : LcOk Tryd.prog (E55 F) 0 (lc55_2 F) (cAt (bodyOf Tryd.f55) [1, 0, 1, 1, 1, 1]) :=
  mkL_ok (lp := []) (id := 0) (b := cAt (bodyOf Tryd.f55) (0 :: 0 :: [1, 0, 1, 1, 1, 1])) cok (cts55 F) mixed trivial (by kernel_rfl) (by kernel_rfl) (fun x y s => (x.1, x.2.1, x.2.2.1, x.2.2.2.1, (), s.1, ())) (fun x y s => (s.2, ())) (fun x y => rfl) (fun x y => rfl) (fun x y s kA kO => L55_2c F x.1 x.2.1 x.2.2.1 x.2.2.2.1 s.1 s.2 kA kO) (fun x y s kA kO => L55_2n F x.1 x.2.1 x.2.2.1 x.2.2.2.1 s.1 s.2 kA kO) (le55_2 F)
def T55c (F : Nat) (p0 : List UInt8) (p1 : List UInt8) (p2 : Int) (p3 : Int) {β : Type} (k : (Int × (List UInt8)) → Option β) : Option β :=
  (bif ((p0.length : Int) != (32 : Int)) then (k ((1 : Int), ([] : List UInt8))) else (bif ((p1.length : Int) != (12 : Int)) then (k ((1 : Int), ([] : List UInt8))) else (bif (decide (p2 < (0 : Int))) then (k ((1 : Int), ([] : List UInt8))) else (bif (decide (p3 < (0 : Int))) then (k ((1 : Int), ([] : List UInt8))) else (bif (decide ((1048576 : Int) < p3)) then (k ((2 : Int), ([] : List UInt8))) else (bif (decide ((w64 ((274877906944 : Int) - p3)) < p2)) then (k ((2 : Int), ([] : List UInt8))) else (Option.bind (iter (fun s => L55_2 F p0 p1 p2 p3 s.1 s.2) F (p2, ([] : List UInt8))) fun z34 => (k ((0 : Int), z34)))))))))
def T55 (F : Nat) (p0 : List UInt8) (p1 : List UInt8) (p2 : Int) (p3 : Int) : Option (Int × (List UInt8)) := T55c F p0 p1 p2 p3 some
theorem T55n (F : Nat) (p0 : List UInt8) (p1 : List UInt8) (p2 : Int) (p3 : Int) {β : Type} (k : (Int × (List UInt8)) → Option β) : T55c F p0 p1 p2 p3 k = (T55 F p0 p1 p2 p3).bind k := by
  simp only [T55, T55c, Option.bind_assoc, cond_bind, Option.bind_some, elimS_bind]
@[reducible] def cA55 : List Sh := [.str, .str, .i, .i]
@[reducible] def cB55 : List Sh := [(.rw 0), .i]
@[reducible] def cT55 : List TSh := []
@[reducible] def cU55 : List TSh := [.row 5 .u8]
def ct55 (F : Nat) : Ct := mkC 0 cA55 cT55 cB55 cU55 (fun x y => T55 F x.1 x.2.1 x.2.2.1 x.2.2.2.1) (fun x y (z : Int × (List UInt8)) => (((), z.1, ()), (z.2, ())))
theorem eq55 (F : Nat) (x : dens cA55) (y : tdens cT55) : sev (E55 F) 0 [([1, 0, 1, 1, 1, 1], lc55_2 F)] (bodyOf Tryd.f55) [] (mkSt (rng 4) cA55 cT55 x y) (kFn (E55 F) 0 Tryd.f55.results.toList cB55 cU55 fun p q => some (p, q)) =
    T55c F x.1 x.2.1 x.2.2.1 x.2.2.2.1 (fun z => some (((), z.1, ()), (z.2, ()))) := by kernel_rfl
theorem ok55 (F : Nat) : Sound Tryd.prog cfg 55 (ct55 F) :=
  mkC_ok (E := E55 F) (lp := [([1, 0, 1, 1, 1, 1], lc55_2 F)]) (code := bodyOf Tryd.f55) Tryd.func55 rfl Tryd.ntmps55 rfl rfl cok (cts55 F) mixed ⟨lo55_2 F, trivial⟩ (by kernel_rfl) (fun x y k => T55c F x.1 x.2.1 x.2.2.1 x.2.2.2.1 k) (fun x y k => T55n F x.1 x.2.1 x.2.2.1 x.2.2.2.1 k) (eq55 F)
end Go.Proofs.YtjghgfohpihhfaaDoor
/- kinkeep/kinkeepref11.Stream: its twin, and that the call does what the twin says. Printed by a program. -/
namespace Go.Proofs.YtjghgfohpihhfaaDoor
open Go.Tw
set_option linter.unusedSimpArgs false
set_option linter.unusedVariables false
def ord28 : Nat → List (Tag × Nat)
  | 5 => [(.p, 0), (.r, 1), (.p, 2), (.p, 3), (.p, 4), (.w, 5), (.p, 6), (.p, 7), (.p, 8), (.p, 9)]
  | _ => []
def al28 : Nat → Option Nat
  | _ => none
def E28 (F : Nat) : Ev := ⟨cfg, 30, ctOf [(52, ct52 F), (55, ct55 F)], ord28, ctOf [], al28⟩
theorem cts28 (F : Nat) : CtsOk Tryd.prog (E28 F) := cts_of (l := [(52, ct52 F), (55, ct55 F)]) (l' := []) rfl rfl ⟨⟨ok52 F, _, Tryd.func52, rfl, rfl⟩, ⟨⟨ok55 F, _, Tryd.func55, rfl, rfl⟩, trivial⟩⟩ trivial
def T28c (F : Nat) (p0 : List UInt8) (p1 : List UInt8) (p2 : List UInt8) (p3 : List UInt8) (p4 : List UInt8) (p5 : List UInt8) (p6 : Int) {β : Type} (k : (Int × (List UInt8)) → Option β) : Option β :=
  (Option.bind (T52 F p0 p1 p2 p3 p4) fun z4 => (bif (!z4) then (k ((1 : Int), ([] : List UInt8))) else (bif ((p5.length : Int) != (32 : Int)) then (k ((1 : Int), ([] : List UInt8))) else (bif (decide (p6 < (0 : Int))) then (k ((1 : Int), ([] : List UInt8))) else (bif (decide ((65536 : Int) < p6)) then (k ((2 : Int), ([] : List UInt8))) else (Option.bind (gsl p5 (0 : Int) (12 : Int)) fun x5 => (Option.bind (T55 F p1 x5 (0 : Int) p6) fun z6 => (k (z6.1, z6.2)))))))))
def T28 (F : Nat) (p0 : List UInt8) (p1 : List UInt8) (p2 : List UInt8) (p3 : List UInt8) (p4 : List UInt8) (p5 : List UInt8) (p6 : Int) : Option (Int × (List UInt8)) := T28c F p0 p1 p2 p3 p4 p5 p6 some
theorem T28n (F : Nat) (p0 : List UInt8) (p1 : List UInt8) (p2 : List UInt8) (p3 : List UInt8) (p4 : List UInt8) (p5 : List UInt8) (p6 : Int) {β : Type} (k : (Int × (List UInt8)) → Option β) : T28c F p0 p1 p2 p3 p4 p5 p6 k = (T28 F p0 p1 p2 p3 p4 p5 p6).bind k := by
  simp only [T28, T28c, Option.bind_assoc, cond_bind, Option.bind_some, elimS_bind]
@[reducible] def cA28 : List Sh := [(.pr .str (.pr .str (.pr .str (.pr .str (.pr .str .un))))), .str, .i]
@[reducible] def cB28 : List Sh := [(.rw 0), .i]
@[reducible] def cT28 : List TSh := []
@[reducible] def cU28 : List TSh := [.row 5 .u8]
def ct28 (F : Nat) : Ct := mkC 0 cA28 cT28 cB28 cU28 (fun x y => T28 F x.1.1 x.1.2.1 x.1.2.2.1 x.1.2.2.2.1 x.1.2.2.2.2.1 x.2.1 x.2.2.1) (fun x y (z : Int × (List UInt8)) => (((), z.1, ()), (z.2, ())))
theorem eq28 (F : Nat) (x : dens cA28) (y : tdens cT28) : sev (E28 F) 0 [] (bodyOf Tryd.f28) [] (mkSt (rng 3) cA28 cT28 x y) (kFn (E28 F) 0 Tryd.f28.results.toList cB28 cU28 fun p q => some (p, q)) =
    T28c F x.1.1 x.1.2.1 x.1.2.2.1 x.1.2.2.2.1 x.1.2.2.2.2.1 x.2.1 x.2.2.1 (fun z => some (((), z.1, ()), (z.2, ()))) := by kernel_rfl
theorem ok28 (F : Nat) : Sound Tryd.prog cfg 28 (ct28 F) :=
  mkC_ok (E := E28 F) (lp := []) (code := bodyOf Tryd.f28) Tryd.func28 rfl Tryd.ntmps28 rfl rfl cok (cts28 F) mixed trivial (by kernel_rfl) (fun x y k => T28c F x.1.1 x.1.2.1 x.1.2.2.1 x.1.2.2.2.1 x.1.2.2.2.2.1 x.2.1 x.2.2.1 k) (fun x y k => T28n F x.1.1 x.1.2.1 x.1.2.2.1 x.1.2.2.2.1 x.1.2.2.2.2.1 x.2.1 x.2.2.1 k) (eq28 F)
end Go.Proofs.YtjghgfohpihhfaaDoor
/- kinkeep/kinkeeplaw11.SealNames: its twin, and that the call does what the twin says. Printed by a program. -/
namespace Go.Proofs.YtjghgfohpihhfaaDoor
open Go.Tw
set_option linter.unusedSimpArgs false
set_option linter.unusedVariables false
def ord6 : Nat → List (Tag × Nat)
  | _ => []
def al6 : Nat → Option Nat
  | _ => none
def E6 (F : Nat) : Ev := ⟨cfg, 122, ctOf [(16, ct16 F), (17, ct17 F), (22, ct22 F), (23, ct23 F), (24, ct24 F), (25, ct25 F), (26, ct26 F), (27, ct27 F), (28, ct28 F)], ord6, ctOf [], al6⟩
theorem cts6 (F : Nat) : CtsOk Tryd.prog (E6 F) := cts_of (l := [(16, ct16 F), (17, ct17 F), (22, ct22 F), (23, ct23 F), (24, ct24 F), (25, ct25 F), (26, ct26 F), (27, ct27 F), (28, ct28 F)]) (l' := []) rfl rfl ⟨⟨ok16 F, _, Tryd.func16, rfl, rfl⟩, ⟨⟨ok17 F, _, Tryd.func17, rfl, rfl⟩, ⟨⟨ok22 F, _, Tryd.func22, rfl, rfl⟩, ⟨⟨ok23 F, _, Tryd.func23, rfl, rfl⟩, ⟨⟨ok24 F, _, Tryd.func24, rfl, rfl⟩, ⟨⟨ok25 F, _, Tryd.func25, rfl, rfl⟩, ⟨⟨ok26 F, _, Tryd.func26, rfl, rfl⟩, ⟨⟨ok27 F, _, Tryd.func27, rfl, rfl⟩, ⟨⟨ok28 F, _, Tryd.func28, rfl, rfl⟩, trivial⟩⟩⟩⟩⟩⟩⟩⟩⟩ trivial
def T6c (F : Nat) (p0 : List UInt8) (p1 : List UInt8) (p2 : List UInt8) (p3 : List UInt8) (p4 : List UInt8) (p5 : Int) (p6 : List UInt8) (p7 : List UInt8) (p8 : Int) {β : Type} (k : Bool → Option β) : Option β :=
  (Option.bind (T16 F) fun z23 => (bif (!z23) then (Option.bind (T16 F) fun z24 => (k z24)) else (Option.bind (T17 F ([p6] : List (List UInt8))) fun z25 => (bif (!z25) then (Option.bind (T16 F) fun z26 => (k z26)) else (bif (decide ((100 : Int) < (p7.length : Int))) then (Option.bind (T16 F) fun z27 => (k z27)) else (bif (decide ((400 : Int) < p8)) then (bif (decide (p8 ≤ (65536 : Int))) then (Option.bind (T16 F) fun z28 => (k z28)) else (Option.bind (T22 F p0 p1 p2 p3 p4) fun z29 => (bif (!z29) then (Option.bind (T16 F) fun z30 => (k z30)) else (Option.bind (T23 F p0 p1 p2 p3 p4 p5 p6) fun z31 => (Option.bind (T24 F p0 p1 p2 p3 p4 p5 p6) fun z32 => (Option.bind (T25 F p0 p1 p2 p3 p4 p6) fun z33 => (Option.bind (T26 F p0 p1 p2 p3 p4 p6) fun z34 => (Option.bind (T27 F p0 p1 p2 p3 p4 p7 p8) fun z35 => (Option.bind (T28 F p0 p1 p2 p3 p4 p7 p8) fun z36 => (bif (z31.1 == z32.1) then (bif (z31.2 == z32.2) then (bif (z33.2 == z34.1) then (bif (z33.1 == z34.2) then (bif (z35.2 == z36.2) then (k (z35.1 == z36.1)) else (k false)) else (k false)) else (k false)) else (k false)) else (k false))))))))))) else (Option.bind (T22 F p0 p1 p2 p3 p4) fun z37 => (bif (!z37) then (Option.bind (T16 F) fun z38 => (k z38)) else (Option.bind (T23 F p0 p1 p2 p3 p4 p5 p6) fun z39 => (Option.bind (T24 F p0 p1 p2 p3 p4 p5 p6) fun z40 => (Option.bind (T25 F p0 p1 p2 p3 p4 p6) fun z41 => (Option.bind (T26 F p0 p1 p2 p3 p4 p6) fun z42 => (Option.bind (T27 F p0 p1 p2 p3 p4 p7 p8) fun z43 => (Option.bind (T28 F p0 p1 p2 p3 p4 p7 p8) fun z44 => (bif (z39.1 == z40.1) then (bif (z39.2 == z40.2) then (bif (z41.2 == z42.1) then (bif (z41.1 == z42.2) then (bif (z43.2 == z44.2) then (k (z43.1 == z44.1)) else (k false)) else (k false)) else (k false)) else (k false)) else (k false))))))))))))))))
def T6 (F : Nat) (p0 : List UInt8) (p1 : List UInt8) (p2 : List UInt8) (p3 : List UInt8) (p4 : List UInt8) (p5 : Int) (p6 : List UInt8) (p7 : List UInt8) (p8 : Int) : Option (Bool) := T6c F p0 p1 p2 p3 p4 p5 p6 p7 p8 some
theorem T6n (F : Nat) (p0 : List UInt8) (p1 : List UInt8) (p2 : List UInt8) (p3 : List UInt8) (p4 : List UInt8) (p5 : Int) (p6 : List UInt8) (p7 : List UInt8) (p8 : Int) {β : Type} (k : Bool → Option β) : T6c F p0 p1 p2 p3 p4 p5 p6 p7 p8 k = (T6 F p0 p1 p2 p3 p4 p5 p6 p7 p8).bind k := by
  simp only [T6, T6c, Option.bind_assoc, cond_bind, Option.bind_some, elimS_bind]
@[reducible] def cA6 : List Sh := [(.pr .str (.pr .str (.pr .str (.pr .str (.pr .str .un))))), .i, (.ro .u8), .str, .i]
@[reducible] def cB6 : List Sh := [.bo]
@[reducible] def cT6 : List TSh := []
@[reducible] def cU6 : List TSh := []
def ct6 (F : Nat) : Ct := mkC 0 cA6 cT6 cB6 cU6 (fun x y => T6 F x.1.1 x.1.2.1 x.1.2.2.1 x.1.2.2.2.1 x.1.2.2.2.2.1 x.2.1 x.2.2.1 x.2.2.2.1 x.2.2.2.2.1) (fun x y (z : Bool) => ((z, ()), ()))
theorem eq6 (F : Nat) (x : dens cA6) (y : tdens cT6) : sev (E6 F) 0 [] (bodyOf Tryd.f6) [] (mkSt (rng 5) cA6 cT6 x y) (kFn (E6 F) 0 Tryd.f6.results.toList cB6 cU6 fun p q => some (p, q)) =
    T6c F x.1.1 x.1.2.1 x.1.2.2.1 x.1.2.2.2.1 x.1.2.2.2.2.1 x.2.1 x.2.2.1 x.2.2.2.1 x.2.2.2.2.1 (fun z => some ((z, ()), ())) := by kernel_rfl
theorem ok6 (F : Nat) : Sound Tryd.prog cfg 6 (ct6 F) :=
  mkC_ok (E := E6 F) (lp := []) (code := bodyOf Tryd.f6) Tryd.func6 rfl Tryd.ntmps6 rfl rfl cok (cts6 F) mixed trivial (by kernel_rfl) (fun x y k => T6c F x.1.1 x.1.2.1 x.1.2.2.1 x.1.2.2.2.1 x.1.2.2.2.2.1 x.2.1 x.2.2.1 x.2.2.2.1 x.2.2.2.2.1 k) (fun x y k => T6n F x.1.1 x.1.2.1 x.1.2.2.1 x.1.2.2.2.1 x.1.2.2.2.2.1 x.2.1 x.2.2.1 x.2.2.2.1 x.2.2.2.2.1 k) (eq6 F)
end Go.Proofs.YtjghgfohpihhfaaDoor
/- kinkeep/kinkeepref11.Need: its twin, and that the call does what the twin says. Printed by a program. -/
namespace Go.Proofs.YtjghgfohpihhfaaDoor
open Go.Tw
set_option linter.unusedSimpArgs false
set_option linter.unusedVariables false
def ord43 : Nat → List (Tag × Nat)
  | _ => []
def al43 : Nat → Option Nat
  | _ => none
def E43 (F : Nat) : Ev := ⟨cfg, 10, ctOf [(45, ct45 F)], ord43, ctOf [], al43⟩
theorem cts43 (F : Nat) : CtsOk Tryd.prog (E43 F) := cts_of (l := [(45, ct45 F)]) (l' := []) rfl rfl ⟨⟨ok45 F, _, Tryd.func45, rfl, rfl⟩, trivial⟩ trivial
def T43c (F : Nat) (p0 : Int) {β : Type} (k : Int → Option β) : Option β :=
  (Option.bind (T45 F (UInt64.ofInt p0)) fun z2 => (k (w64 ((w64 ((z2.length : Int) + p0)) + (16 : Int)))))
def T43 (F : Nat) (p0 : Int) : Option (Int) := T43c F p0 some
theorem T43n (F : Nat) (p0 : Int) {β : Type} (k : Int → Option β) : T43c F p0 k = (T43 F p0).bind k := by
  simp only [T43, T43c, Option.bind_assoc, cond_bind, Option.bind_some, elimS_bind]
@[reducible] def cA43 : List Sh := [.i]
@[reducible] def cB43 : List Sh := [.i]
@[reducible] def cT43 : List TSh := []
@[reducible] def cU43 : List TSh := []
def ct43 (F : Nat) : Ct := mkC 0 cA43 cT43 cB43 cU43 (fun x y => T43 F x.1) (fun x y (z : Int) => ((z, ()), ()))
theorem eq43 (F : Nat) (x : dens cA43) (y : tdens cT43) : sev (E43 F) 0 [] (bodyOf Tryd.f43) [] (mkSt (rng 1) cA43 cT43 x y) (kFn (E43 F) 0 Tryd.f43.results.toList cB43 cU43 fun p q => some (p, q)) =
    T43c F x.1 (fun z => some ((z, ()), ())) := by kernel_rfl
theorem ok43 (F : Nat) : Sound Tryd.prog cfg 43 (ct43 F) :=
  mkC_ok (E := E43 F) (lp := []) (code := bodyOf Tryd.f43) Tryd.func43 rfl Tryd.ntmps43 rfl rfl cok (cts43 F) mixed trivial (by kernel_rfl) (fun x y k => T43c F x.1 k) (fun x y k => T43n F x.1 k) (eq43 F)
end Go.Proofs.YtjghgfohpihhfaaDoor
/- kinkeep/kinkeepref11.ClassOf: its twin, and that the call does what the twin says. Printed by a program. -/
namespace Go.Proofs.YtjghgfohpihhfaaDoor
open Go.Tw
set_option linter.unusedSimpArgs false
set_option linter.unusedVariables false
def ord42 : Nat → List (Tag × Nat)
  | _ => []
def al42 : Nat → Option Nat
  | _ => none
def E42 (F : Nat) : Ev := ⟨cfg, 22, ctOf [], ord42, ctOf [], al42⟩
theorem cts42 (F : Nat) : CtsOk Tryd.prog (E42 F) := cts_of (l := []) (l' := []) rfl rfl trivial trivial
def L42_4c (F : Nat) (y12 : Int) (y13 : Int) (y14 : Int) {β : Type} (kA : Int → Option β) (kO : Unit → Option β) (kR : Int → Option β) : Option β :=
  (bif (decide (y14 < (4 : Int))) then (bif (decide (y12 ≤ (w64 (y13 + (w64 ((w64 (Int.tdiv y13 (4 : Int))) * y14)))))) then (kR (w64 (y13 + (w64 ((w64 (Int.tdiv y13 (4 : Int))) * y14))))) else (kA (w64 (y14 + (1 : Int))))) else (kO ()))
def L42_4 (F : Nat) (y12 : Int) (y13 : Int) (y14 : Int) : Option ((Int) ⊕ ((Unit) ⊕ (Int))) := L42_4c F y12 y13 y14 (fun s => some (.inl s)) (fun z => some (.inr (.inl z))) (fun z => some (.inr (.inr z)))
theorem L42_4n (F : Nat) (y12 : Int) (y13 : Int) (y14 : Int) {β : Type} (kA : Int → Option β) (kO : Unit → Option β) (kR : Int → Option β) : L42_4c F y12 y13 y14 kA kO kR = (L42_4 F y12 y13 y14).bind (elimS kA (elimS kO kR)) := by
  simp only [L42_4, L42_4c, Option.bind_assoc, cond_bind, Option.bind_some, elimS_l, elimS_r, elimS_bind]
@[reducible] def sA42_4 : List Sh := [.i, .i, .i]
@[reducible] def sA142_4 : List Sh := [.i, .i]
@[reducible] def sA242_4 : List Sh := [.i]
@[reducible] def sT42_4 : List TSh := []
@[reducible] def sT142_4 : List TSh := []
@[reducible] def sT242_4 : List TSh := []
def lc42_4 (F : Nat) : Lc := mkR [0, 3, 4] sA42_4 sT42_4 [0, 3] sA142_4 sT142_4 [2] sA242_4 sT242_4 F (fun x y (s : Int) => L42_4 F x.1 x.2.1 s) (fun x y => x.2.2.1) (fun x y (z : Unit) => ((x.1, x.2.1, ()), ())) (fun x y (z : Int) => ((z, ()), ()))
theorem le42_4 (F : Nat) (x : dens sA42_4) (y : tdens sT42_4) (s : Int) : sev (E42 F) 0 [] (cAt (bodyOf Tryd.f42) (0 :: 0 :: [1, 0, 0, 0, 0, 1, 1])) (0 :: 0 :: [1, 0, 0, 0, 0, 1, 1]) (mkSt [0, 3, 4] sA42_4 sT42_4 (x.1, x.2.1, s, ()) ()) (kLoop 0 [0, 3, 4] sA42_4 sT42_4 [0, 3] sA142_4 sT142_4 [2] sA242_4 sT242_4 2 (fun x y => some (.inl (x, y))) (fun x y => some (.inr (.inl (x, y)))) (fun x y => some (.inr (.inr (x, y))))) =
    L42_4c (β := Full sA42_4 sT42_4 sA142_4 sT142_4 sA242_4 sT242_4) F x.1 x.2.1 s (fun s => some (.inl ((x.1, x.2.1, s, ()), ()))) (fun z => some (.inr (.inl ((x.1, x.2.1, ()), ())))) (fun z => some (.inr (.inr ((z, ()), ())))) := by kernel_rfl
theorem lo42_4 (F : Nat) : LcOk Tryd.prog (E42 F) 0 (lc42_4 F) (cAt (bodyOf Tryd.f42) [1, 0, 0, 0, 0, 1, 1]) :=
  mkR_ok (lp := []) (id := 2) (b := cAt (bodyOf Tryd.f42) (0 :: 0 :: [1, 0, 0, 0, 0, 1, 1])) cok (cts42 F) mixed trivial (by kernel_rfl) (by kernel_rfl) (fun x y s => (x.1, x.2.1, s, ())) (fun x y s => ()) (fun x y => rfl) (fun x y => rfl) (fun x y s kA kO kR => L42_4c F x.1 x.2.1 s kA kO kR) (fun x y s kA kO kR => L42_4n F x.1 x.2.1 s kA kO kR) (le42_4 F)
def L42_3c (F : Nat) (y9 : Int) (y10 : Int) {β : Type} (kA : Int → Option β) (kR : Int → Option β) : Option β :=
  (Option.bind (iter (fun s => L42_4 F y9 y10 s) F (0 : Int)) fun z15 => elimS (fun z15 => (kA (w64 ((2 : Int) * y10)))) (fun z15 => (kR z15)) z15)
def L42_3 (F : Nat) (y9 : Int) (y10 : Int) : Option ((Int) ⊕ (Int)) := L42_3c F y9 y10 (fun s => some (.inl s)) (fun z => some (.inr z))
theorem L42_3n (F : Nat) (y9 : Int) (y10 : Int) {β : Type} (kA : Int → Option β) (kR : Int → Option β) : L42_3c F y9 y10 kA kR = (L42_3 F y9 y10).bind (elimS kA kR) := by
  simp only [L42_3, L42_3c, Option.bind_assoc, cond_bind, Option.bind_some, elimS_l, elimS_r, elimS_bind]
@[reducible] def sA42_3 : List Sh := [.i, .i]
@[reducible] def sA142_3 : List Sh := []
@[reducible] def sA242_3 : List Sh := [.i]
@[reducible] def sT42_3 : List TSh := []
@[reducible] def sT142_3 : List TSh := []
@[reducible] def sT242_3 : List TSh := []
def lc42_3 (F : Nat) : Lc := mkX [0, 3] sA42_3 sT42_3 [2] sA242_3 sT242_3 F (fun x y (s : Int) => L42_3 F x.1 s) (fun x y => x.2.1) (fun x y (z : Int) => ((z, ()), ()))
theorem le42_3 (F : Nat) (x : dens sA42_3) (y : tdens sT42_3) (s : Int) : sev (E42 F) 0 [([1, 0, 0, 0, 0, 1, 1], lc42_4 F)] (cAt (bodyOf Tryd.f42) (0 :: 0 :: [1, 1])) (0 :: 0 :: [1, 1]) (mkSt [0, 3] sA42_3 sT42_3 (x.1, s, ()) ()) (kLoop 0 [0, 3] sA42_3 sT42_3 [] sA142_3 sT142_3 [2] sA242_3 sT242_3 0 (fun x y => some (.inl (x, y))) (fun x y => some (.inr (.inl (x, y)))) (fun x y => some (.inr (.inr (x, y))))) =
    L42_3c (β := Full sA42_3 sT42_3 sA142_3 sT142_3 sA242_3 sT242_3) F x.1 s (fun s => some (.inl ((x.1, s, ()), ()))) (fun z => some (.inr (.inr ((z, ()), ())))) := by kernel_rfl
theorem lo42_3 (F : Nat) : LcOk Tryd.prog (E42 F) 0 (lc42_3 F) (cAt (bodyOf Tryd.f42) [1, 1]) :=
  mkX_ok (lp := [([1, 0, 0, 0, 0, 1, 1], lc42_4 F)]) (id := 0) (b := cAt (bodyOf Tryd.f42) (0 :: 0 :: [1, 1])) cok (cts42 F) mixed ⟨lo42_4 F, trivial⟩ (by kernel_rfl) (by kernel_rfl) (fun x y s => (x.1, s, ())) (fun x y s => ()) (fun x y => rfl) (fun x y => rfl) (fun x y s kA kR => L42_3c F x.1 s kA kR) (fun x y s kA kR => L42_3n F x.1 s kA kR) (le42_3 F)
def T42c (F : Nat) (p0 : Int) {β : Type} (k : Int → Option β) : Option β :=
  (Option.bind (iter (fun s => L42_3 F p0 s) F (64 : Int)) fun z16 => (k z16))
def T42 (F : Nat) (p0 : Int) : Option (Int) := T42c F p0 some
theorem T42n (F : Nat) (p0 : Int) {β : Type} (k : Int → Option β) : T42c F p0 k = (T42 F p0).bind k := by
  simp only [T42, T42c, Option.bind_assoc, cond_bind, Option.bind_some, elimS_bind]
@[reducible] def cA42 : List Sh := [.i]
@[reducible] def cB42 : List Sh := [.i]
@[reducible] def cT42 : List TSh := []
@[reducible] def cU42 : List TSh := []
def ct42 (F : Nat) : Ct := mkC 0 cA42 cT42 cB42 cU42 (fun x y => T42 F x.1) (fun x y (z : Int) => ((z, ()), ()))
theorem eq42 (F : Nat) (x : dens cA42) (y : tdens cT42) : sev (E42 F) 0 [([1, 1], lc42_3 F)] (bodyOf Tryd.f42) [] (mkSt (rng 1) cA42 cT42 x y) (kFn (E42 F) 0 Tryd.f42.results.toList cB42 cU42 fun p q => some (p, q)) =
    T42c F x.1 (fun z => some ((z, ()), ())) := by kernel_rfl
theorem ok42 (F : Nat) : Sound Tryd.prog cfg 42 (ct42 F) :=
  mkC_ok (E := E42 F) (lp := [([1, 1], lc42_3 F)]) (code := bodyOf Tryd.f42) Tryd.func42 rfl Tryd.ntmps42 rfl rfl cok (cts42 F) mixed ⟨lo42_3 F, trivial⟩ (by kernel_rfl) (fun x y k => T42c F x.1 k) (fun x y k => T42n F x.1 k) (eq42 F)
end Go.Proofs.YtjghgfohpihhfaaDoor
/- kinkeep/kinkeepref11.Class: its twin, and that the call does what the twin says. Printed by a program. -/
namespace Go.Proofs.YtjghgfohpihhfaaDoor
open Go.Tw
set_option linter.unusedSimpArgs false
set_option linter.unusedVariables false
def ord15 : Nat → List (Tag × Nat)
  | _ => []
def al15 : Nat → Option Nat
  | _ => none
def E15 (F : Nat) : Ev := ⟨cfg, 11, ctOf [(43, ct43 F), (42, ct42 F)], ord15, ctOf [], al15⟩
theorem cts15 (F : Nat) : CtsOk Tryd.prog (E15 F) := cts_of (l := [(43, ct43 F), (42, ct42 F)]) (l' := []) rfl rfl ⟨⟨ok43 F, _, Tryd.func43, rfl, rfl⟩, ⟨⟨ok42 F, _, Tryd.func42, rfl, rfl⟩, trivial⟩⟩ trivial
def T15c (F : Nat) (p0 : Int) {β : Type} (k : (Int × Int) → Option β) : Option β :=
  (bif (decide (p0 < (0 : Int))) then (k ((0 : Int), (1 : Int))) else (bif (decide ((32768 : Int) < p0)) then (k ((0 : Int), (2 : Int))) else (Option.bind (T43 F p0) fun z3 => (Option.bind (T42 F z3) fun z4 => (k (z4, (0 : Int)))))))
def T15 (F : Nat) (p0 : Int) : Option (Int × Int) := T15c F p0 some
theorem T15n (F : Nat) (p0 : Int) {β : Type} (k : (Int × Int) → Option β) : T15c F p0 k = (T15 F p0).bind k := by
  simp only [T15, T15c, Option.bind_assoc, cond_bind, Option.bind_some, elimS_bind]
@[reducible] def cA15 : List Sh := [.i]
@[reducible] def cB15 : List Sh := [.i, .i]
@[reducible] def cT15 : List TSh := []
@[reducible] def cU15 : List TSh := []
def ct15 (F : Nat) : Ct := mkC 0 cA15 cT15 cB15 cU15 (fun x y => T15 F x.1) (fun x y (z : Int × Int) => ((z.1, z.2, ()), ()))
theorem eq15 (F : Nat) (x : dens cA15) (y : tdens cT15) : sev (E15 F) 0 [] (bodyOf Tryd.f15) [] (mkSt (rng 1) cA15 cT15 x y) (kFn (E15 F) 0 Tryd.f15.results.toList cB15 cU15 fun p q => some (p, q)) =
    T15c F x.1 (fun z => some ((z.1, z.2, ()), ())) := by kernel_rfl
theorem ok15 (F : Nat) : Sound Tryd.prog cfg 15 (ct15 F) :=
  mkC_ok (E := E15 F) (lp := []) (code := bodyOf Tryd.f15) Tryd.func15 rfl Tryd.ntmps15 rfl rfl cok (cts15 F) mixed trivial (by kernel_rfl) (fun x y k => T15c F x.1 k) (fun x y k => T15n F x.1 k) (eq15 F)
end Go.Proofs.YtjghgfohpihhfaaDoor
/- kinkeep/kinkeepref11.Body: its twin, and that the call does what the twin says. Printed by a program. -/
namespace Go.Proofs.YtjghgfohpihhfaaDoor
open Go.Tw
set_option linter.unusedSimpArgs false
set_option linter.unusedVariables false
def ord19 : Nat → List (Tag × Nat)
  | _ => []
def al19 : Nat → Option Nat
  | _ => none
def E19 (F : Nat) : Ev := ⟨cfg, 38, ctOf [(15, ct15 F), (45, ct45 F)], ord19, ctOf [], al19⟩
theorem cts19 (F : Nat) : CtsOk Tryd.prog (E19 F) := cts_of (l := [(15, ct15 F), (45, ct45 F)]) (l' := []) rfl rfl ⟨⟨ok15 F, _, Tryd.func15, rfl, rfl⟩, ⟨⟨ok45 F, _, Tryd.func45, rfl, rfl⟩, trivial⟩⟩ trivial
def L19_2c (F : Nat) (y15 : Int) (y16 : List UInt8) {β : Type} (kA : ((List UInt8)) → Option β) (kO : ((List UInt8)) → Option β) : Option β :=
  (bif (decide ((y16.length : Int) < (w64 (y15 - (16 : Int))))) then (Option.bind (gapp y16 ([(UInt8.ofNat 0)] : List UInt8)) fun x18 => (kA x18)) else (kO y16))
def L19_2 (F : Nat) (y15 : Int) (y16 : List UInt8) : Option (((List UInt8)) ⊕ ((List UInt8))) := L19_2c F y15 y16 (fun s => some (.inl s)) (fun z => some (.inr z))
theorem L19_2n (F : Nat) (y15 : Int) (y16 : List UInt8) {β : Type} (kA : ((List UInt8)) → Option β) (kO : ((List UInt8)) → Option β) : L19_2c F y15 y16 kA kO = (L19_2 F y15 y16).bind (elimS kA kO) := by
  simp only [L19_2, L19_2c, Option.bind_assoc, cond_bind, Option.bind_some, elimS_l, elimS_r, elimS_bind]
@[reducible] def sA19_2 : List Sh := [(.ro .u8), .i, (.rw 0)]
@[reducible] def sA119_2 : List Sh := [(.ro .u8), (.rw 0)]
@[reducible] def sT19_2 : List TSh := [.row 5 .u8]
@[reducible] def sT119_2 : List TSh := [.row 5 .u8]
def lc19_2 (F : Nat) : Lc := mkL [1, 6, 8] sA19_2 sT19_2 [1, 8] sA119_2 sT119_2 F (fun x y (s : (List UInt8)) => L19_2 F x.2.1 s) (fun x y => y.1) (fun x y (z : (List UInt8)) => ((x.1, (), ()), (z, ())))
theorem le19_2 (F : Nat) (x : dens sA19_2) (y : tdens sT19_2) (s : (List UInt8)) : sev (E19 F) 0 [] (cAt (bodyOf Tryd.f19) (0 :: 0 :: [0, 1, 1, 1, 1, 1])) (0 :: 0 :: [0, 1, 1, 1, 1, 1]) (mkSt [1, 6, 8] sA19_2 sT19_2 (x.1, x.2.1, (), ()) (s, ())) (kLoop 0 [1, 6, 8] sA19_2 sT19_2 [1, 8] sA119_2 sT119_2 [] [] [] 0 (fun x y => some (.inl (x, y))) (fun x y => some (.inr (.inl (x, y)))) (fun x y => some (.inr (.inr (x, y))))) =
    L19_2c (β := Full sA19_2 sT19_2 sA119_2 sT119_2 [] []) F x.2.1 s (fun s => some (.inl ((x.1, x.2.1, (), ()), (s, ())))) (fun z => some (.inr (.inl ((x.1, (), ()), (z, ()))))) := by kernel_rfl
theorem lo19_2 (F : Nat) : LcOk Tryd.prog (E19 F) 0 (lc19_2 F) (cAt (bodyOf Tryd.f19) [0, 1, 1, 1, 1, 1]) :=
  mkL_ok (lp := []) (id := 0) (b := cAt (bodyOf Tryd.f19) (0 :: 0 :: [0, 1, 1, 1, 1, 1])) cok (cts19 F) mixed trivial (by kernel_rfl) (by kernel_rfl) (fun x y s => (x.1, x.2.1, (), ())) (fun x y s => (s, ())) (fun x y => rfl) (fun x y => rfl) (fun x y s kA kO => L19_2c F x.2.1 s kA kO) (fun x y s kA kO => L19_2n F x.2.1 s kA kO) (le19_2 F)
def T19c (F : Nat) (p0 : List UInt8) (p1 : List UInt8) {β : Type} (k : (Int × (List UInt8)) → Option β) : Option β :=
  (bif ((p1.length : Int) != (16 : Int)) then (k ((1 : Int), ([] : List UInt8))) else (Option.bind (T15 F (p0.length : Int)) fun z11 => (bif (z11.2 != (0 : Int)) then (k (z11.2, ([] : List UInt8))) else (Option.bind (T45 F (UInt64.ofInt (p0.length : Int))) fun z12 => (Option.bind (gapp z12 p0) fun x13 => (Option.bind (iter (fun s => L19_2 F z11.1 s) F x13) fun z19 => (Option.bind (gapp z19 p1) fun x20 => (k ((0 : Int), x20)))))))))
def T19 (F : Nat) (p0 : List UInt8) (p1 : List UInt8) : Option (Int × (List UInt8)) := T19c F p0 p1 some
theorem T19n (F : Nat) (p0 : List UInt8) (p1 : List UInt8) {β : Type} (k : (Int × (List UInt8)) → Option β) : T19c F p0 p1 k = (T19 F p0 p1).bind k := by
  simp only [T19, T19c, Option.bind_assoc, cond_bind, Option.bind_some, elimS_bind]
@[reducible] def cA19 : List Sh := [(.ro .u8), (.ro .u8)]
@[reducible] def cB19 : List Sh := [(.rw 0), .i]
@[reducible] def cT19 : List TSh := []
@[reducible] def cU19 : List TSh := [.row 5 .u8]
def ct19 (F : Nat) : Ct := mkC 0 cA19 cT19 cB19 cU19 (fun x y => T19 F x.1 x.2.1) (fun x y (z : Int × (List UInt8)) => (((), z.1, ()), (z.2, ())))
theorem eq19 (F : Nat) (x : dens cA19) (y : tdens cT19) : sev (E19 F) 0 [([0, 1, 1, 1, 1, 1], lc19_2 F)] (bodyOf Tryd.f19) [] (mkSt (rng 2) cA19 cT19 x y) (kFn (E19 F) 0 Tryd.f19.results.toList cB19 cU19 fun p q => some (p, q)) =
    T19c F x.1 x.2.1 (fun z => some (((), z.1, ()), (z.2, ()))) := by kernel_rfl
theorem ok19 (F : Nat) : Sound Tryd.prog cfg 19 (ct19 F) :=
  mkC_ok (E := E19 F) (lp := [([0, 1, 1, 1, 1, 1], lc19_2 F)]) (code := bodyOf Tryd.f19) Tryd.func19 rfl Tryd.ntmps19 rfl rfl cok (cts19 F) mixed ⟨lo19_2 F, trivial⟩ (by kernel_rfl) (fun x y k => T19c F x.1 x.2.1 k) (fun x y k => T19n F x.1 x.2.1 k) (eq19 F)
end Go.Proofs.YtjghgfohpihhfaaDoor
/- kinkeep/kinkeepref07.Xor: its twin, and that the call does what the twin says. Printed by a program. -/
namespace Go.Proofs.YtjghgfohpihhfaaDoor
open Go.Tw
set_option linter.unusedSimpArgs false
set_option linter.unusedVariables false
def ord73 : Nat → List (Tag × Nat)
  | 7 => [(.p, 0), (.p, 1), (.p, 2), (.p, 3), (.r, 4), (.p, 5), (.p, 6), (.p, 7), (.r, 8), (.p, 9), (.w, 10), (.w, 11), (.p, 12)]
  | _ => []
def al73 : Nat → Option Nat
  | _ => none
def E73 (F : Nat) : Ev := ⟨cfg, 33, ctOf [], ord73, ctOf [], al73⟩
theorem cts73 (F : Nat) : CtsOk Tryd.prog (E73 F) := cts_of (l := []) (l' := []) rfl rfl trivial trivial
def L73_2c (F : Nat) (y13 : List UInt8) (y14 : List UInt8) (y15 : Int) (y16 : Int) (y17 : List UInt8) {β : Type} (kA : (Int × (List UInt8)) → Option β) (kO : ((List UInt8)) → Option β) : Option β :=
  (bif (decide (y16 < y15)) then (Option.bind (ix y13 y16) fun x21 => (Option.bind (ix y14 y16) fun x22 => (Option.bind (gapp y17 ([(x21 ^^^ x22)] : List UInt8)) fun x23 => (kA ((w64 (y16 + (1 : Int))), x23))))) else (kO y17))
def L73_2 (F : Nat) (y13 : List UInt8) (y14 : List UInt8) (y15 : Int) (y16 : Int) (y17 : List UInt8) : Option ((Int × (List UInt8)) ⊕ ((List UInt8))) := L73_2c F y13 y14 y15 y16 y17 (fun s => some (.inl s)) (fun z => some (.inr z))
theorem L73_2n (F : Nat) (y13 : List UInt8) (y14 : List UInt8) (y15 : Int) (y16 : Int) (y17 : List UInt8) {β : Type} (kA : (Int × (List UInt8)) → Option β) (kO : ((List UInt8)) → Option β) : L73_2c F y13 y14 y15 y16 y17 kA kO = (L73_2 F y13 y14 y15 y16 y17).bind (elimS kA kO) := by
  simp only [L73_2, L73_2c, Option.bind_assoc, cond_bind, Option.bind_some, elimS_l, elimS_r, elimS_bind]
@[reducible] def sA73_2 : List Sh := [(.ro .u8), (.ro .u8), (.rw 0), .i, .i]
@[reducible] def sA173_2 : List Sh := [(.rw 0)]
@[reducible] def sT73_2 : List TSh := [.row 5 .u8]
@[reducible] def sT173_2 : List TSh := [.row 5 .u8]
def lc73_2 (F : Nat) : Lc := mkL [0, 1, 6, 15, 16] sA73_2 sT73_2 [6] sA173_2 sT173_2 F (fun x y (s : Int × (List UInt8)) => L73_2 F x.1 x.2.1 x.2.2.2.1 s.1 s.2) (fun x y => (x.2.2.2.2.1, y.1)) (fun x y (z : (List UInt8)) => (((), ()), (z, ())))
theorem le73_2 (F : Nat) (x : dens sA73_2) (y : tdens sT73_2) (s : Int × (List UInt8)) : sev (E73 F) 0 [] (cAt (bodyOf Tryd.f73) (0 :: 0 :: [1, 0, 1, 1, 1])) (0 :: 0 :: [1, 0, 1, 1, 1]) (mkSt [0, 1, 6, 15, 16] sA73_2 sT73_2 (x.1, x.2.1, (), x.2.2.2.1, s.1, ()) (s.2, ())) (kLoop 0 [0, 1, 6, 15, 16] sA73_2 sT73_2 [6] sA173_2 sT173_2 [] [] [] 0 (fun x y => some (.inl (x, y))) (fun x y => some (.inr (.inl (x, y)))) (fun x y => some (.inr (.inr (x, y))))) =
    L73_2c (β := Full sA73_2 sT73_2 sA173_2 sT173_2 [] []) F x.1 x.2.1 x.2.2.2.1 s.1 s.2 (fun s => some (.inl ((x.1, x.2.1, (), x.2.2.2.1, s.1, ()), (s.2, ())))) (fun z => some (.inr (.inl (((), ()), (z, ()))))) := by kernel_rfl
theorem lo73_2 (F : Nat) : LcOk Tryd.prog (E73 F) 0 (lc73_2 F) (cAt (bodyOf Tryd.f73) [1, 0, 1, 1, 1]) :=
  mkL_ok (lp := []) (id := 0) (b := cAt (bodyOf Tryd.f73) (0 :: 0 :: [1, 0, 1, 1, 1])) cok (cts73 F) mixed trivial (by kernel_rfl) (by kernel_rfl) (fun x y s => (x.1, x.2.1, (), x.2.2.2.1, s.1, ())) (fun x y s => (s.2, ())) (fun x y => rfl) (fun x y => rfl) (fun x y s kA kO => L73_2c F x.1 x.2.1 x.2.2.2.1 s.1 s.2 kA kO) (fun x y s kA kO => L73_2n F x.1 x.2.1 x.2.2.2.1 s.1 s.2 kA kO) (le73_2 F)
def T73c (F : Nat) (p0 : List UInt8) (p1 : List UInt8) {β : Type} (k : (Int × (List UInt8)) → Option β) : Option β :=
  (bif ((p0.length : Int) != (p1.length : Int)) then (k ((1 : Int), ([] : List UInt8))) else (Option.bind (iter (fun s => L73_2 F p0 p1 (p0.length : Int) s.1 s.2) F ((0 : Int), ([] : List UInt8))) fun z24 => (k ((0 : Int), z24))))
def T73 (F : Nat) (p0 : List UInt8) (p1 : List UInt8) : Option (Int × (List UInt8)) := T73c F p0 p1 some
theorem T73n (F : Nat) (p0 : List UInt8) (p1 : List UInt8) {β : Type} (k : (Int × (List UInt8)) → Option β) : T73c F p0 p1 k = (T73 F p0 p1).bind k := by
  simp only [T73, T73c, Option.bind_assoc, cond_bind, Option.bind_some, elimS_bind]
@[reducible] def cA73 : List Sh := [(.ro .u8), (.ro .u8)]
@[reducible] def cB73 : List Sh := [(.rw 0), .i]
@[reducible] def cT73 : List TSh := []
@[reducible] def cU73 : List TSh := [.row 5 .u8]
def ct73 (F : Nat) : Ct := mkC 0 cA73 cT73 cB73 cU73 (fun x y => T73 F x.1 x.2.1) (fun x y (z : Int × (List UInt8)) => (((), z.1, ()), (z.2, ())))
theorem eq73 (F : Nat) (x : dens cA73) (y : tdens cT73) : sev (E73 F) 0 [([1, 0, 1, 1, 1], lc73_2 F)] (bodyOf Tryd.f73) [] (mkSt (rng 2) cA73 cT73 x y) (kFn (E73 F) 0 Tryd.f73.results.toList cB73 cU73 fun p q => some (p, q)) =
    T73c F x.1 x.2.1 (fun z => some (((), z.1, ()), (z.2, ()))) := by kernel_rfl
theorem ok73 (F : Nat) : Sound Tryd.prog cfg 73 (ct73 F) :=
  mkC_ok (E := E73 F) (lp := [([1, 0, 1, 1, 1], lc73_2 F)]) (code := bodyOf Tryd.f73) Tryd.func73 rfl Tryd.ntmps73 rfl rfl cok (cts73 F) mixed ⟨lo73_2 F, trivial⟩ (by kernel_rfl) (fun x y k => T73c F x.1 x.2.1 k) (fun x y k => T73n F x.1 x.2.1 k) (eq73 F)
end Go.Proofs.YtjghgfohpihhfaaDoor
/- kinkeep/kinkeepref11.Xor: its twin, and that the call does what the twin says. Printed by a program. -/
namespace Go.Proofs.YtjghgfohpihhfaaDoor
open Go.Tw
set_option linter.unusedSimpArgs false
set_option linter.unusedVariables false
def ord58 : Nat → List (Tag × Nat)
  | _ => []
def al58 : Nat → Option Nat
  | _ => none
def E58 (F : Nat) : Ev := ⟨cfg, 14, ctOf [(73, ct73 F)], ord58, ctOf [], al58⟩
theorem cts58 (F : Nat) : CtsOk Tryd.prog (E58 F) := cts_of (l := [(73, ct73 F)]) (l' := []) rfl rfl ⟨⟨ok73 F, _, Tryd.func73, rfl, rfl⟩, trivial⟩ trivial
def T58c (F : Nat) (p0 : List UInt8) (p1 : List UInt8) {β : Type} (k : ((List UInt8)) → Option β) : Option β :=
  (Option.bind (T73 F p0 p1) fun z2 => (k z2.2))
def T58 (F : Nat) (p0 : List UInt8) (p1 : List UInt8) : Option ((List UInt8)) := T58c F p0 p1 some
theorem T58n (F : Nat) (p0 : List UInt8) (p1 : List UInt8) {β : Type} (k : ((List UInt8)) → Option β) : T58c F p0 p1 k = (T58 F p0 p1).bind k := by
  simp only [T58, T58c, Option.bind_assoc, cond_bind, Option.bind_some, elimS_bind]
@[reducible] def cA58 : List Sh := [(.ro .u8), (.ro .u8)]
@[reducible] def cB58 : List Sh := [(.rw 0)]
@[reducible] def cT58 : List TSh := []
@[reducible] def cU58 : List TSh := [.row 5 .u8]
def ct58 (F : Nat) : Ct := mkC 0 cA58 cT58 cB58 cU58 (fun x y => T58 F x.1 x.2.1) (fun x y (z : (List UInt8)) => (((), ()), (z, ())))
theorem eq58 (F : Nat) (x : dens cA58) (y : tdens cT58) : sev (E58 F) 0 [] (bodyOf Tryd.f58) [] (mkSt (rng 2) cA58 cT58 x y) (kFn (E58 F) 0 Tryd.f58.results.toList cB58 cU58 fun p q => some (p, q)) =
    T58c F x.1 x.2.1 (fun z => some (((), ()), (z, ()))) := by kernel_rfl
theorem ok58 (F : Nat) : Sound Tryd.prog cfg 58 (ct58 F) :=
  mkC_ok (E := E58 F) (lp := []) (code := bodyOf Tryd.f58) Tryd.func58 rfl Tryd.ntmps58 rfl rfl cok (cts58 F) mixed trivial (by kernel_rfl) (fun x y k => T58c F x.1 x.2.1 k) (fun x y k => T58n F x.1 x.2.1 k) (eq58 F)
end Go.Proofs.YtjghgfohpihhfaaDoor
/- kinkeep/kinkeepref11.SealWith: its twin, and that the call does what the twin says. Printed by a program. -/
namespace Go.Proofs.YtjghgfohpihhfaaDoor
open Go.Tw
set_option linter.unusedSimpArgs false
set_option linter.unusedVariables false
def ord35 : Nat → List (Tag × Nat)
  | _ => []
def al35 : Nat → Option Nat
  | _ => none
def E35 (F : Nat) : Ev := ⟨cfg, 27, ctOf [(19, ct19 F), (58, ct58 F)], ord35, ctOf [], al35⟩
theorem cts35 (F : Nat) : CtsOk Tryd.prog (E35 F) := cts_of (l := [(19, ct19 F), (58, ct58 F)]) (l' := []) rfl rfl ⟨⟨ok19 F, _, Tryd.func19, rfl, rfl⟩, ⟨⟨ok58 F, _, Tryd.func58, rfl, rfl⟩, trivial⟩⟩ trivial
def T35c (F : Nat) (p0 : List UInt8) (p1 : List UInt8) (p2 : List UInt8) {β : Type} (k : (Int × (List UInt8)) → Option β) : Option β :=
  (Option.bind (T19 F p2 p1) fun z3 => (bif (z3.1 != (0 : Int)) then (k (z3.1, ([] : List UInt8))) else (bif ((p0.length : Int) != (z3.2.length : Int)) then (k ((1 : Int), ([] : List UInt8))) else (Option.bind (T58 F z3.2 p0) fun z4 => (k ((0 : Int), z4))))))
def T35 (F : Nat) (p0 : List UInt8) (p1 : List UInt8) (p2 : List UInt8) : Option (Int × (List UInt8)) := T35c F p0 p1 p2 some
theorem T35n (F : Nat) (p0 : List UInt8) (p1 : List UInt8) (p2 : List UInt8) {β : Type} (k : (Int × (List UInt8)) → Option β) : T35c F p0 p1 p2 k = (T35 F p0 p1 p2).bind k := by
  simp only [T35, T35c, Option.bind_assoc, cond_bind, Option.bind_some, elimS_bind]
@[reducible] def cA35 : List Sh := [(.ro .u8), (.ro .u8), (.ro .u8)]
@[reducible] def cB35 : List Sh := [(.rw 0), .i]
@[reducible] def cT35 : List TSh := []
@[reducible] def cU35 : List TSh := [.row 5 .u8]
def ct35 (F : Nat) : Ct := mkC 0 cA35 cT35 cB35 cU35 (fun x y => T35 F x.1 x.2.1 x.2.2.1) (fun x y (z : Int × (List UInt8)) => (((), z.1, ()), (z.2, ())))
theorem eq35 (F : Nat) (x : dens cA35) (y : tdens cT35) : sev (E35 F) 0 [] (bodyOf Tryd.f35) [] (mkSt (rng 3) cA35 cT35 x y) (kFn (E35 F) 0 Tryd.f35.results.toList cB35 cU35 fun p q => some (p, q)) =
    T35c F x.1 x.2.1 x.2.2.1 (fun z => some (((), z.1, ()), (z.2, ()))) := by kernel_rfl
theorem ok35 (F : Nat) : Sound Tryd.prog cfg 35 (ct35 F) :=
  mkC_ok (E := E35 F) (lp := []) (code := bodyOf Tryd.f35) Tryd.func35 rfl Tryd.ntmps35 rfl rfl cok (cts35 F) mixed trivial (by kernel_rfl) (fun x y k => T35c F x.1 x.2.1 x.2.2.1 k) (fun x y k => T35n F x.1 x.2.1 x.2.2.1 k) (eq35 F)
end Go.Proofs.YtjghgfohpihhfaaDoor
/- kinkeep/kinkeepref11.Seal: its twin, and that the call does what the twin says. Printed by a program. -/
namespace Go.Proofs.YtjghgfohpihhfaaDoor
open Go.Tw
set_option linter.unusedSimpArgs false
set_option linter.unusedVariables false
def ord30 : Nat → List (Tag × Nat)
  | _ => []
def al30 : Nat → Option Nat
  | _ => none
def E30 (F : Nat) : Ev := ⟨cfg, 62, ctOf [(24, ct24 F), (26, ct26 F), (15, ct15 F), (28, ct28 F), (35, ct35 F)], ord30, ctOf [], al30⟩
theorem cts30 (F : Nat) : CtsOk Tryd.prog (E30 F) := cts_of (l := [(24, ct24 F), (26, ct26 F), (15, ct15 F), (28, ct28 F), (35, ct35 F)]) (l' := []) rfl rfl ⟨⟨ok24 F, _, Tryd.func24, rfl, rfl⟩, ⟨⟨ok26 F, _, Tryd.func26, rfl, rfl⟩, ⟨⟨ok15 F, _, Tryd.func15, rfl, rfl⟩, ⟨⟨ok28 F, _, Tryd.func28, rfl, rfl⟩, ⟨⟨ok35 F, _, Tryd.func35, rfl, rfl⟩, trivial⟩⟩⟩⟩⟩ trivial
def T30c (F : Nat) (p0 : List UInt8) (p1 : List UInt8) (p2 : List UInt8) (p3 : List UInt8) (p4 : List UInt8) (p5 : Int) (p6 : List UInt8) {β : Type} (k : ((List UInt8) × Int × Int × Int × (List UInt8)) → Option β) : Option β :=
  (Option.bind (T24 F p0 p1 p2 p3 p4 p5 p6) fun z6 => (bif (z6.2 != (0 : Int)) then (k (([] : List UInt8), (0 : Int), (0 : Int), z6.2, ([] : List UInt8))) else (Option.bind (T26 F p0 p1 p2 p3 p4 p6) fun z7 => (Option.bind (T15 F (p6.length : Int)) fun z8 => (Option.bind (T28 F p0 p1 p2 p3 p4 z6.1 z8.1) fun z9 => (Option.bind (T35 F z9.2 z7.1 p6) fun z10 => (k (z6.1, p5, (p6.length : Int), (0 : Int), z10.2))))))))
def T30 (F : Nat) (p0 : List UInt8) (p1 : List UInt8) (p2 : List UInt8) (p3 : List UInt8) (p4 : List UInt8) (p5 : Int) (p6 : List UInt8) : Option ((List UInt8) × Int × Int × Int × (List UInt8)) := T30c F p0 p1 p2 p3 p4 p5 p6 some
theorem T30n (F : Nat) (p0 : List UInt8) (p1 : List UInt8) (p2 : List UInt8) (p3 : List UInt8) (p4 : List UInt8) (p5 : Int) (p6 : List UInt8) {β : Type} (k : ((List UInt8) × Int × Int × Int × (List UInt8)) → Option β) : T30c F p0 p1 p2 p3 p4 p5 p6 k = (T30 F p0 p1 p2 p3 p4 p5 p6).bind k := by
  simp only [T30, T30c, Option.bind_assoc, cond_bind, Option.bind_some, elimS_bind]
@[reducible] def cA30 : List Sh := [(.pr .str (.pr .str (.pr .str (.pr .str (.pr .str .un))))), .i, (.ro .u8)]
@[reducible] def cB30 : List Sh := [(.pr .str (.pr .i (.pr .i .un))), (.rw 0), .i]
@[reducible] def cT30 : List TSh := []
@[reducible] def cU30 : List TSh := [.row 5 .u8]
def ct30 (F : Nat) : Ct := mkC 0 cA30 cT30 cB30 cU30 (fun x y => T30 F x.1.1 x.1.2.1 x.1.2.2.1 x.1.2.2.2.1 x.1.2.2.2.2.1 x.2.1 x.2.2.1) (fun x y (z : (List UInt8) × Int × Int × Int × (List UInt8)) => (((z.1, z.2.1, z.2.2.1, ()), (), z.2.2.2.1, ()), (z.2.2.2.2, ())))
theorem eq30 (F : Nat) (x : dens cA30) (y : tdens cT30) : sev (E30 F) 0 [] (bodyOf Tryd.f30) [] (mkSt (rng 3) cA30 cT30 x y) (kFn (E30 F) 0 Tryd.f30.results.toList cB30 cU30 fun p q => some (p, q)) =
    T30c F x.1.1 x.1.2.1 x.1.2.2.1 x.1.2.2.2.1 x.1.2.2.2.2.1 x.2.1 x.2.2.1 (fun z => some (((z.1, z.2.1, z.2.2.1, ()), (), z.2.2.2.1, ()), (z.2.2.2.2, ()))) := by kernel_rfl
theorem ok30 (F : Nat) : Sound Tryd.prog cfg 30 (ct30 F) :=
  mkC_ok (E := E30 F) (lp := []) (code := bodyOf Tryd.f30) Tryd.func30 rfl Tryd.ntmps30 rfl rfl cok (cts30 F) mixed trivial (by kernel_rfl) (fun x y k => T30c F x.1.1 x.1.2.1 x.1.2.2.1 x.1.2.2.2.1 x.1.2.2.2.2.1 x.2.1 x.2.2.1 k) (fun x y k => T30n F x.1.1 x.1.2.1 x.1.2.2.1 x.1.2.2.2.1 x.1.2.2.2.2.1 x.2.1 x.2.2.1 k) (eq30 F)
end Go.Proofs.YtjghgfohpihhfaaDoor
/- kinkeep/kinkeeplaw11.SealSeals: its twin, and that the call does what the twin says. Printed by a program. -/
namespace Go.Proofs.YtjghgfohpihhfaaDoor
open Go.Tw
set_option linter.unusedSimpArgs false
set_option linter.unusedVariables false
def ord7 : Nat → List (Tag × Nat)
  | _ => []
def al7 : Nat → Option Nat
  | _ => none
def E7 (F : Nat) : Ev := ⟨cfg, 58, ctOf [(16, ct16 F), (17, ct17 F), (22, ct22 F), (29, ct29 F), (30, ct30 F)], ord7, ctOf [], al7⟩
theorem cts7 (F : Nat) : CtsOk Tryd.prog (E7 F) := cts_of (l := [(16, ct16 F), (17, ct17 F), (22, ct22 F), (29, ct29 F), (30, ct30 F)]) (l' := []) rfl rfl ⟨⟨ok16 F, _, Tryd.func16, rfl, rfl⟩, ⟨⟨ok17 F, _, Tryd.func17, rfl, rfl⟩, ⟨⟨ok22 F, _, Tryd.func22, rfl, rfl⟩, ⟨⟨ok29 F, _, Tryd.func29, rfl, rfl⟩, ⟨⟨ok30 F, _, Tryd.func30, rfl, rfl⟩, trivial⟩⟩⟩⟩⟩ trivial
def T7c (F : Nat) (p0 : List UInt8) (p1 : List UInt8) (p2 : List UInt8) (p3 : List UInt8) (p4 : List UInt8) (p5 : Int) (p6 : List UInt8) {β : Type} (k : Bool → Option β) : Option β :=
  (Option.bind (T16 F) fun z9 => (bif (!z9) then (Option.bind (T16 F) fun z10 => (k z10)) else (Option.bind (T17 F ([p6] : List (List UInt8))) fun z11 => (bif (!z11) then (Option.bind (T16 F) fun z12 => (k z12)) else (Option.bind (T22 F p0 p1 p2 p3 p4) fun z13 => (bif (!z13) then (Option.bind (T16 F) fun z14 => (k z14)) else (Option.bind (T29 F p0 p1 p2 p3 p4 p5 p6) fun z15 => (Option.bind (T30 F p0 p1 p2 p3 p4 p5 p6) fun z16 => (bif (z15.1 == z16.1 && (z15.2.1 == z16.2.1 && (z15.2.2.1 == z16.2.2.1 && true))) then (bif (z15.2.2.2.2 == z16.2.2.2.2) then (k (z15.2.2.2.1 == z16.2.2.2.1)) else (k false)) else (k false))))))))))
def T7 (F : Nat) (p0 : List UInt8) (p1 : List UInt8) (p2 : List UInt8) (p3 : List UInt8) (p4 : List UInt8) (p5 : Int) (p6 : List UInt8) : Option (Bool) := T7c F p0 p1 p2 p3 p4 p5 p6 some
theorem T7n (F : Nat) (p0 : List UInt8) (p1 : List UInt8) (p2 : List UInt8) (p3 : List UInt8) (p4 : List UInt8) (p5 : Int) (p6 : List UInt8) {β : Type} (k : Bool → Option β) : T7c F p0 p1 p2 p3 p4 p5 p6 k = (T7 F p0 p1 p2 p3 p4 p5 p6).bind k := by
  simp only [T7, T7c, Option.bind_assoc, cond_bind, Option.bind_some, elimS_bind]
@[reducible] def cA7 : List Sh := [(.pr .str (.pr .str (.pr .str (.pr .str (.pr .str .un))))), .i, (.ro .u8)]
@[reducible] def cB7 : List Sh := [.bo]
@[reducible] def cT7 : List TSh := []
@[reducible] def cU7 : List TSh := []
def ct7 (F : Nat) : Ct := mkC 0 cA7 cT7 cB7 cU7 (fun x y => T7 F x.1.1 x.1.2.1 x.1.2.2.1 x.1.2.2.2.1 x.1.2.2.2.2.1 x.2.1 x.2.2.1) (fun x y (z : Bool) => ((z, ()), ()))
theorem eq7 (F : Nat) (x : dens cA7) (y : tdens cT7) : sev (E7 F) 0 [] (bodyOf Tryd.f7) [] (mkSt (rng 3) cA7 cT7 x y) (kFn (E7 F) 0 Tryd.f7.results.toList cB7 cU7 fun p q => some (p, q)) =
    T7c F x.1.1 x.1.2.1 x.1.2.2.1 x.1.2.2.2.1 x.1.2.2.2.2.1 x.2.1 x.2.2.1 (fun z => some ((z, ()), ())) := by kernel_rfl
theorem ok7 (F : Nat) : Sound Tryd.prog cfg 7 (ct7 F) :=
  mkC_ok (E := E7 F) (lp := []) (code := bodyOf Tryd.f7) Tryd.func7 rfl Tryd.ntmps7 rfl rfl cok (cts7 F) mixed trivial (by kernel_rfl) (fun x y k => T7c F x.1.1 x.1.2.1 x.1.2.2.1 x.1.2.2.2.1 x.1.2.2.2.2.1 x.2.1 x.2.2.1 k) (fun x y k => T7n F x.1.1 x.1.2.1 x.1.2.2.1 x.1.2.2.2.1 x.1.2.2.2.2.1 x.2.1 x.2.2.1 k) (eq7 F)
end Go.Proofs.YtjghgfohpihhfaaDoor
/- kinkeep/kinkeeplaw11.SealOpens: its twin, and that the call does what the twin says. Printed by a program. -/
namespace Go.Proofs.YtjghgfohpihhfaaDoor
open Go.Tw
set_option linter.unusedSimpArgs false
set_option linter.unusedVariables false
def ord8 : Nat → List (Tag × Nat)
  | 4 => [(.p, 0), (.c, 2), (.p, 3), (.w, 1), (.w, 4), (.p, 5), (.p, 6), (.p, 7), (.p, 8), (.p, 9)]
  | 9 => [(.p, 0), (.c, 2), (.p, 3), (.w, 1), (.w, 4), (.p, 5), (.p, 6), (.p, 7), (.p, 8), (.p, 9)]
  | 14 => [(.p, 0), (.c, 2), (.p, 3), (.w, 1), (.w, 4), (.p, 5), (.p, 6), (.p, 7), (.p, 8), (.p, 9)]
  | 18 => [(.p, 0), (.c, 2), (.p, 3), (.w, 1), (.w, 4), (.p, 5), (.p, 6), (.p, 7), (.p, 8), (.p, 9)]
  | _ => []
def al8 : Nat → Option Nat
  | _ => none
def E8 (F : Nat) : Ev := ⟨cfg, 159, ctOf [(16, ct16 F), (17, ct17 F), (31, ct31 F), (29, ct29 F), (32, ct32 F), (23, ct23 F)], ord8, ctOf [], al8⟩
theorem cts8 (F : Nat) : CtsOk Tryd.prog (E8 F) := cts_of (l := [(16, ct16 F), (17, ct17 F), (31, ct31 F), (29, ct29 F), (32, ct32 F), (23, ct23 F)]) (l' := []) rfl rfl ⟨⟨ok16 F, _, Tryd.func16, rfl, rfl⟩, ⟨⟨ok17 F, _, Tryd.func17, rfl, rfl⟩, ⟨⟨ok31 F, _, Tryd.func31, rfl, rfl⟩, ⟨⟨ok29 F, _, Tryd.func29, rfl, rfl⟩, ⟨⟨ok32 F, _, Tryd.func32, rfl, rfl⟩, ⟨⟨ok23 F, _, Tryd.func23, rfl, rfl⟩, trivial⟩⟩⟩⟩⟩⟩ trivial
def T8c (F : Nat) (p0 : UInt8) (p1 : UInt8) (p2 : Int) (p3 : List UInt8) {β : Type} (k : Bool → Option β) : Option β :=
  (Option.bind (T16 F) fun z27 => (bif (!z27) then (Option.bind (T16 F) fun z28 => (k z28)) else (Option.bind (T17 F ([p3] : List (List UInt8))) fun z29 => (bif (!z29) then (Option.bind (T16 F) fun z30 => (k z30)) else (bif (decide (p2 < (0 : Int))) then (Option.bind (T16 F) fun z31 => (k z31)) else (bif (decide ((1099511627776 : Int) < p2)) then (Option.bind (T16 F) fun z32 => (k z32)) else (Option.bind (T31 F p0) fun z33 => (Option.bind (T29 F z33.1 z33.2.1 z33.2.2.1 z33.2.2.2.1 z33.2.2.2.2 p2 p3) fun z34 => (Option.bind (T31 F p0) fun z35 => (Option.bind (T32 F z35.1 z35.2.1 z35.2.2.1 z35.2.2.2.1 z35.2.2.2.2 z34.1 z34.2.1 z34.2.2.1 z34.2.2.2.2) fun z36 => (bif (z34.2.2.2.1 != (0 : Int)) then (k false) else (bif (z36.2 != (0 : Int)) then (k false) else (bif (z36.1 != p3) then (k false) else (Option.bind (T31 F p0) fun z37 => (Option.bind (T23 F z37.1 z37.2.1 z37.2.2.1 z37.2.2.2.1 z37.2.2.2.2 (w64 (p2 + (1 : Int))) p3) fun z38 => (Option.bind (T31 F p0) fun z39 => (Option.bind (T32 F z39.1 z39.2.1 z39.2.2.1 z39.2.2.2.1 z39.2.2.2.2 z34.1 (w64 (z34.2.1 + (1 : Int))) z34.2.2.1 z34.2.2.2.2) fun z40 => (bif (z38.1 != z34.1) then (bif (z40.2 != (9 : Int)) then (k false) else (bif ((z40.1.length : Int) != (0 : Int)) then (k false) else (Option.bind (T31 F p0) fun z41 => (Option.bind (T32 F z41.1 z41.2.1 z41.2.2.1 z41.2.2.2.1 z41.2.2.2.2 z34.1 (w64 ((w64 (z34.2.1 + (1 : Int))) - (1 : Int))) (w64 (z34.2.2.1 + (1 : Int))) z34.2.2.2.2) fun z42 => (bif (z42.2 == (0 : Int)) then (k false) else (bif ((z42.1.length : Int) != (0 : Int)) then (k false) else (Option.bind (T31 F p1) fun z43 => (Option.bind (T32 F z43.1 z43.2.1 z43.2.2.1 z43.2.2.2.1 z43.2.2.2.2 z34.1 (w64 ((w64 (z34.2.1 + (1 : Int))) - (1 : Int))) (w64 ((w64 (z34.2.2.1 + (1 : Int))) - (1 : Int))) z34.2.2.2.2) fun z44 => (bif (z44.2 == (0 : Int)) then (Option.bind (T31 F p1) fun z45 => (Option.bind (T23 F z45.1 z45.2.1 z45.2.2.1 z45.2.2.2.1 z45.2.2.2.2 p2 z44.1) fun z46 => (k (z46.1 == z34.1)))) else (bif ((z44.1.length : Int) == (0 : Int)) then (k (z44.2 == (9 : Int))) else (k false))))))))))) else (Option.bind (T31 F p0) fun z47 => (Option.bind (T32 F z47.1 z47.2.1 z47.2.2.1 z47.2.2.2.1 z47.2.2.2.2 z34.1 (w64 ((w64 (z34.2.1 + (1 : Int))) - (1 : Int))) (w64 (z34.2.2.1 + (1 : Int))) z34.2.2.2.2) fun z48 => (bif (z48.2 == (0 : Int)) then (k false) else (bif ((z48.1.length : Int) != (0 : Int)) then (k false) else (Option.bind (T31 F p1) fun z49 => (Option.bind (T32 F z49.1 z49.2.1 z49.2.2.1 z49.2.2.2.1 z49.2.2.2.2 z34.1 (w64 ((w64 (z34.2.1 + (1 : Int))) - (1 : Int))) (w64 ((w64 (z34.2.2.1 + (1 : Int))) - (1 : Int))) z34.2.2.2.2) fun z50 => (bif (z50.2 == (0 : Int)) then (Option.bind (T31 F p1) fun z51 => (Option.bind (T23 F z51.1 z51.2.1 z51.2.2.1 z51.2.2.2.1 z51.2.2.2.2 p2 z50.1) fun z52 => (k (z52.1 == z34.1)))) else (bif ((z50.1.length : Int) == (0 : Int)) then (k (z50.2 == (9 : Int))) else (k false)))))))))))))))))))))))))))
def T8 (F : Nat) (p0 : UInt8) (p1 : UInt8) (p2 : Int) (p3 : List UInt8) : Option (Bool) := T8c F p0 p1 p2 p3 some
theorem T8n (F : Nat) (p0 : UInt8) (p1 : UInt8) (p2 : Int) (p3 : List UInt8) {β : Type} (k : Bool → Option β) : T8c F p0 p1 p2 p3 k = (T8 F p0 p1 p2 p3).bind k := by
  simp only [T8, T8c, Option.bind_assoc, cond_bind, Option.bind_some, elimS_bind]
@[reducible] def cA8 : List Sh := [.u8, .u8, .i, (.ro .u8)]
@[reducible] def cB8 : List Sh := [.bo]
@[reducible] def cT8 : List TSh := []
@[reducible] def cU8 : List TSh := []
def ct8 (F : Nat) : Ct := mkC 0 cA8 cT8 cB8 cU8 (fun x y => T8 F x.1 x.2.1 x.2.2.1 x.2.2.2.1) (fun x y (z : Bool) => ((z, ()), ()))
theorem eq8 (F : Nat) (x : dens cA8) (y : tdens cT8) : sev (E8 F) 0 [] (bodyOf Tryd.f8) [] (mkSt (rng 4) cA8 cT8 x y) (kFn (E8 F) 0 Tryd.f8.results.toList cB8 cU8 fun p q => some (p, q)) =
    T8c F x.1 x.2.1 x.2.2.1 x.2.2.2.1 (fun z => some ((z, ()), ())) := by kernel_rfl
theorem ok8 (F : Nat) : Sound Tryd.prog cfg 8 (ct8 F) :=
  mkC_ok (E := E8 F) (lp := []) (code := bodyOf Tryd.f8) Tryd.func8 rfl Tryd.ntmps8 rfl rfl cok (cts8 F) mixed trivial (by kernel_rfl) (fun x y k => T8c F x.1 x.2.1 x.2.2.1 x.2.2.2.1 k) (fun x y k => T8n F x.1 x.2.1 x.2.2.1 x.2.2.2.1 k) (eq8 F)
end Go.Proofs.YtjghgfohpihhfaaDoor
/- kinkeep/kinkeeplaw11.SealRefuses: its twin, and that the call does what the twin says. Printed by a program. -/
namespace Go.Proofs.YtjghgfohpihhfaaDoor
open Go.Tw
set_option linter.unusedSimpArgs false
set_option linter.unusedVariables false
def ord9 : Nat → List (Tag × Nat)
  | 10 => [(.p, 0), (.p, 1), (.p, 2), (.r, 3), (.p, 4), (.p, 5), (.p, 6), (.r, 7), (.p, 8), (.p, 9), (.w, 10)]
  | 12 => [(.p, 0), (.c, 2), (.p, 3), (.w, 1), (.w, 4), (.p, 5), (.p, 6), (.p, 7), (.p, 8), (.p, 9)]
  | _ => []
def al9 : Nat → Option Nat
  | _ => none
def E9 (F : Nat) : Ev := ⟨cfg, 119, ctOf [(16, ct16 F), (17, ct17 F), (31, ct31 F), (29, ct29 F), (32, ct32 F), (23, ct23 F)], ord9, ctOf [], al9⟩
theorem cts9 (F : Nat) : CtsOk Tryd.prog (E9 F) := cts_of (l := [(16, ct16 F), (17, ct17 F), (31, ct31 F), (29, ct29 F), (32, ct32 F), (23, ct23 F)]) (l' := []) rfl rfl ⟨⟨ok16 F, _, Tryd.func16, rfl, rfl⟩, ⟨⟨ok17 F, _, Tryd.func17, rfl, rfl⟩, ⟨⟨ok31 F, _, Tryd.func31, rfl, rfl⟩, ⟨⟨ok29 F, _, Tryd.func29, rfl, rfl⟩, ⟨⟨ok32 F, _, Tryd.func32, rfl, rfl⟩, ⟨⟨ok23 F, _, Tryd.func23, rfl, rfl⟩, trivial⟩⟩⟩⟩⟩⟩ trivial
def L9_2c (F : Nat) (y43 : List UInt8) (y44 : Bool) (y45 : Int) (y49 : List UInt8) {β : Type} (kA : (Bool × Int × (List UInt8)) → Option β) (kO : (Bool × (List UInt8)) → Option β) : Option β :=
  (bif (decide (y45 < (y49.length : Int))) then (bif (decide (y45 < (y43.length : Int))) then (Option.bind (inb y49.length y45) fun x55 => (Option.bind (y49[x55]?) fun x56 => (Option.bind (ix y43 y45) fun x57 => (Option.bind (inb y49.length y45) fun x58 => (bif y44 then (Option.bind (ix y43 y45) fun x59 => (kA ((x59 == (UInt8.ofNat 0)), (w64 (y45 + (1 : Int))), (List.set y49 x58 (x56 ^^^ x57))))) else (kA (false, (w64 (y45 + (1 : Int))), (List.set y49 x58 (x56 ^^^ x57))))))))) else (kO (y44, y49))) else (kO (y44, y49)))
def L9_2 (F : Nat) (y43 : List UInt8) (y44 : Bool) (y45 : Int) (y49 : List UInt8) : Option ((Bool × Int × (List UInt8)) ⊕ (Bool × (List UInt8))) := L9_2c F y43 y44 y45 y49 (fun s => some (.inl s)) (fun z => some (.inr z))
theorem L9_2n (F : Nat) (y43 : List UInt8) (y44 : Bool) (y45 : Int) (y49 : List UInt8) {β : Type} (kA : (Bool × Int × (List UInt8)) → Option β) (kO : (Bool × (List UInt8)) → Option β) : L9_2c F y43 y44 y45 y49 kA kO = (L9_2 F y43 y44 y45 y49).bind (elimS kA kO) := by
  simp only [L9_2, L9_2c, Option.bind_assoc, cond_bind, Option.bind_some, elimS_l, elimS_r, elimS_bind]
@[reducible] def sA9_2 : List Sh := [.u8, .i, (.ro .u8), (.ro .u8), (.pt 0 []), (.rw 1), .bo, .i]
@[reducible] def sAp19_2 : List Sh := [.u8, .i, (.ro .u8), (.pt 0 []), (.rw 1), .bo]
@[reducible] def sT9_2 : List TSh := [.blk 44 (.pr .str (.pr .i (.pr .i .un))), .row 5 .u8]
@[reducible] def sTp19_2 : List TSh := [.blk 44 (.pr .str (.pr .i (.pr .i .un))), .row 5 .u8]
def lc9_2 (F : Nat) : Lc := mkL [0, 1, 2, 3, 9, 10, 12, 13] sA9_2 sT9_2 [0, 1, 2, 9, 10, 12] sAp19_2 sTp19_2 F (fun x y (s : Bool × Int × (List UInt8)) => L9_2 F x.2.2.2.1 s.1 s.2.1 s.2.2) (fun x y => (x.2.2.2.2.2.2.1, x.2.2.2.2.2.2.2.1, y.2.1)) (fun x y (z : Bool × (List UInt8)) => ((x.1, x.2.1, x.2.2.1, (), (), z.1, ()), ((y.1.1, y.1.2.1, y.1.2.2.1, ()), z.2, ())))
theorem le9_2 (F : Nat) (x : dens sA9_2) (y : tdens sT9_2) (s : Bool × Int × (List UInt8)) : sev (E9 F) 0 [] (cAt (bodyOf Tryd.f9) (0 :: 0 :: [1, 0, 1, 1, 1, 1, 1])) (0 :: 0 :: [1, 0, 1, 1, 1, 1, 1]) (mkSt [0, 1, 2, 3, 9, 10, 12, 13] sA9_2 sT9_2 (x.1, x.2.1, x.2.2.1, x.2.2.2.1, (), (), s.1, s.2.1, ()) ((y.1.1, y.1.2.1, y.1.2.2.1, ()), s.2.2, ())) (kLoop 0 [0, 1, 2, 3, 9, 10, 12, 13] sA9_2 sT9_2 [0, 1, 2, 9, 10, 12] sAp19_2 sTp19_2 [] [] [] 0 (fun x y => some (.inl (x, y))) (fun x y => some (.inr (.inl (x, y)))) (fun x y => some (.inr (.inr (x, y))))) =
    L9_2c (β := Full sA9_2 sT9_2 sAp19_2 sTp19_2 [] []) F x.2.2.2.1 s.1 s.2.1 s.2.2 (fun s => some (.inl ((x.1, x.2.1, x.2.2.1, x.2.2.2.1, (), (), s.1, s.2.1, ()), ((y.1.1, y.1.2.1, y.1.2.2.1, ()), s.2.2, ())))) (fun z => some (.inr (.inl ((x.1, x.2.1, x.2.2.1, (), (), z.1, ()), ((y.1.1, y.1.2.1, y.1.2.2.1, ()), z.2, ()))))) := by kernel_rfl
theorem lo9_2 (F : Nat) : LcOk Tryd.prog (E9 F) 0 (lc9_2 F) (cAt (bodyOf Tryd.f9) [1, 0, 1, 1, 1, 1, 1]) :=
  mkL_ok (lp := []) (id := 0) (b := cAt (bodyOf Tryd.f9) (0 :: 0 :: [1, 0, 1, 1, 1, 1, 1])) cok (cts9 F) mixed trivial (by kernel_rfl) (by kernel_rfl) (fun x y s => (x.1, x.2.1, x.2.2.1, x.2.2.2.1, (), (), s.1, s.2.1, ())) (fun x y s => ((y.1.1, y.1.2.1, y.1.2.2.1, ()), s.2.2, ())) (fun x y => rfl) (fun x y => rfl) (fun x y s kA kO => L9_2c F x.2.2.2.1 s.1 s.2.1 s.2.2 kA kO) (fun x y s kA kO => L9_2n F x.2.2.2.1 s.1 s.2.1 s.2.2 kA kO) (le9_2 F)
def T9c (F : Nat) (p0 : UInt8) (p1 : Int) (p2 : List UInt8) (p3 : List UInt8) {β : Type} (k : Bool → Option β) : Option β :=
  (Option.bind (T16 F) fun z33 => (bif (!z33) then (Option.bind (T16 F) fun z34 => (k z34)) else (Option.bind (T17 F ([p2, p3] : List (List UInt8))) fun z35 => (bif (!z35) then (Option.bind (T16 F) fun z36 => (k z36)) else (bif (decide (p1 < (0 : Int))) then (Option.bind (T16 F) fun z37 => (k z37)) else (Option.bind (T31 F p0) fun z38 => (Option.bind (T29 F z38.1 z38.2.1 z38.2.2.1 z38.2.2.2.1 z38.2.2.2.2 p1 p2) fun z39 => (bif (z39.2.2.2.1 != (0 : Int)) then (k false) else (Option.bind (iter (fun s => L9_2 F p3 s.1 s.2.1 s.2.2) F (true, (0 : Int), z39.2.2.2.2)) fun z60 => (Option.bind (T31 F p0) fun z61 => (Option.bind (T32 F z61.1 z61.2.1 z61.2.2.1 z61.2.2.2.1 z61.2.2.2.2 z39.1 z39.2.1 z39.2.2.1 z60.2) fun z62 => (bif z60.1 then (bif (z62.2 == (0 : Int)) then (k (z62.1 == p2)) else (k false)) else (bif (z62.2 != (0 : Int)) then (bif (z62.2 == (9 : Int)) then (k ((z62.1.length : Int) == (0 : Int))) else (k false)) else (Option.bind (T31 F p0) fun z63 => (Option.bind (T23 F z63.1 z63.2.1 z63.2.2.1 z63.2.2.2.1 z63.2.2.2.2 p1 z62.1) fun z64 => (bif (z62.1 != p2) then (k (z64.1 == z39.1)) else (k false)))))))))))))))))
def T9 (F : Nat) (p0 : UInt8) (p1 : Int) (p2 : List UInt8) (p3 : List UInt8) : Option (Bool) := T9c F p0 p1 p2 p3 some
theorem T9n (F : Nat) (p0 : UInt8) (p1 : Int) (p2 : List UInt8) (p3 : List UInt8) {β : Type} (k : Bool → Option β) : T9c F p0 p1 p2 p3 k = (T9 F p0 p1 p2 p3).bind k := by
  simp only [T9, T9c, Option.bind_assoc, cond_bind, Option.bind_some, elimS_bind]
@[reducible] def cA9 : List Sh := [.u8, .i, (.ro .u8), (.ro .u8)]
@[reducible] def cB9 : List Sh := [.bo]
@[reducible] def cT9 : List TSh := []
@[reducible] def cU9 : List TSh := []
def ct9 (F : Nat) : Ct := mkC 0 cA9 cT9 cB9 cU9 (fun x y => T9 F x.1 x.2.1 x.2.2.1 x.2.2.2.1) (fun x y (z : Bool) => ((z, ()), ()))
theorem eq9 (F : Nat) (x : dens cA9) (y : tdens cT9) : sev (E9 F) 0 [([1, 0, 1, 1, 1, 1, 1], lc9_2 F)] (bodyOf Tryd.f9) [] (mkSt (rng 4) cA9 cT9 x y) (kFn (E9 F) 0 Tryd.f9.results.toList cB9 cU9 fun p q => some (p, q)) =
    T9c F x.1 x.2.1 x.2.2.1 x.2.2.2.1 (fun z => some ((z, ()), ())) := by kernel_rfl
theorem ok9 (F : Nat) : Sound Tryd.prog cfg 9 (ct9 F) :=
  mkC_ok (E := E9 F) (lp := [([1, 0, 1, 1, 1, 1, 1], lc9_2 F)]) (code := bodyOf Tryd.f9) Tryd.func9 rfl Tryd.ntmps9 rfl rfl cok (cts9 F) mixed ⟨lo9_2 F, trivial⟩ (by kernel_rfl) (fun x y k => T9c F x.1 x.2.1 x.2.2.1 x.2.2.2.1 k) (fun x y k => T9n F x.1 x.2.1 x.2.2.1 x.2.2.2.1 k) (eq9 F)
end Go.Proofs.YtjghgfohpihhfaaDoor
/- kinkeep/kinkeepref01.number: its twin, and that the call does what the twin says. Printed by a program. -/
namespace Go.Proofs.YtjghgfohpihhfaaDoor
open Go.Tw
set_option linter.unusedSimpArgs false
set_option linter.unusedVariables false
def ord77 : Nat → List (Tag × Nat)
  | 16 => [(.p, 0), (.p, 1), (.p, 2), (.r, 3), (.p, 4), (.p, 5), (.p, 6), (.p, 7), (.p, 8), (.r, 9), (.p, 10)]
  | _ => []
def al77 : Nat → Option Nat
  | _ => none
def E77 (F : Nat) : Ev := ⟨cfg, 75, ctOf [(45, ct45 F)], ord77, ctOf [], al77⟩
theorem cts77 (F : Nat) : CtsOk Tryd.prog (E77 F) := cts_of (l := [(45, ct45 F)]) (l' := []) rfl rfl ⟨⟨ok45 F, _, Tryd.func45, rfl, rfl⟩, trivial⟩ trivial
def L77_5c (F : Nat) (y40 : List UInt8) (y41 : Int) (y43 : UInt64) (y44 : Int) {β : Type} (kA : (UInt64 × Int) → Option β) (kO : UInt64 → Option β) : Option β :=
  (bif (decide ((0 : Int) ≤ y44)) then (Option.bind (ix y40 (w64 (y41 + y44))) fun x46 => (kA (((y43 * (UInt64.ofNat 128)) + ((x46 % (UInt8.ofNat 128)).toUInt64)), (w64 (y44 - (1 : Int)))))) else (kO y43))
def L77_5 (F : Nat) (y40 : List UInt8) (y41 : Int) (y43 : UInt64) (y44 : Int) : Option ((UInt64 × Int) ⊕ (UInt64)) := L77_5c F y40 y41 y43 y44 (fun s => some (.inl s)) (fun z => some (.inr z))
theorem L77_5n (F : Nat) (y40 : List UInt8) (y41 : Int) (y43 : UInt64) (y44 : Int) {β : Type} (kA : (UInt64 × Int) → Option β) (kO : UInt64 → Option β) : L77_5c F y40 y41 y43 y44 kA kO = (L77_5 F y40 y41 y43 y44).bind (elimS kA kO) := by
  simp only [L77_5, L77_5c, Option.bind_assoc, cond_bind, Option.bind_some, elimS_l, elimS_r, elimS_bind]
@[reducible] def sA77_5 : List Sh := [(.ro .u8), .i, .i, .u64, .i]
@[reducible] def sA177_5 : List Sh := [(.ro .u8), .i, .i, .u64]
@[reducible] def sT77_5 : List TSh := []
@[reducible] def sT177_5 : List TSh := []
def lc77_5 (F : Nat) : Lc := mkL [0, 1, 7, 8, 9] sA77_5 sT77_5 [0, 1, 7, 8] sA177_5 sT177_5 F (fun x y (s : UInt64 × Int) => L77_5 F x.1 x.2.1 s.1 s.2) (fun x y => (x.2.2.2.1, x.2.2.2.2.1)) (fun x y (z : UInt64) => ((x.1, x.2.1, x.2.2.1, z, ()), ()))
theorem le77_5 (F : Nat) (x : dens sA77_5) (y : tdens sT77_5) (s : UInt64 × Int) : sev (E77 F) 0 [] (cAt (bodyOf Tryd.f77) (0 :: 0 :: [1, 0, 1, 1, 0, 0, 1, 0, 0, 1, 0, 1])) (0 :: 0 :: [1, 0, 1, 1, 0, 0, 1, 0, 0, 1, 0, 1]) (mkSt [0, 1, 7, 8, 9] sA77_5 sT77_5 (x.1, x.2.1, x.2.2.1, s.1, s.2, ()) ()) (kLoop 0 [0, 1, 7, 8, 9] sA77_5 sT77_5 [0, 1, 7, 8] sA177_5 sT177_5 [] [] [] 2 (fun x y => some (.inl (x, y))) (fun x y => some (.inr (.inl (x, y)))) (fun x y => some (.inr (.inr (x, y))))) =
    L77_5c (β := Full sA77_5 sT77_5 sA177_5 sT177_5 [] []) F x.1 x.2.1 s.1 s.2 (fun s => some (.inl ((x.1, x.2.1, x.2.2.1, s.1, s.2, ()), ()))) (fun z => some (.inr (.inl ((x.1, x.2.1, x.2.2.1, z, ()), ())))) := by kernel_rfl
theorem lo77_5 (F : Nat) : LcOk Tryd.prog (E77 F) 0 (lc77_5 F) (cAt (bodyOf Tryd.f77) [1, 0, 1, 1, 0, 0, 1, 0, 0, 1, 0, 1]) :=
  mkL_ok (lp := []) (id := 2) (b := cAt (bodyOf Tryd.f77) (0 :: 0 :: [1, 0, 1, 1, 0, 0, 1, 0, 0, 1, 0, 1])) cok (cts77 F) mixed trivial (by kernel_rfl) (by kernel_rfl) (fun x y s => (x.1, x.2.1, x.2.2.1, s.1, s.2, ())) (fun x y s => ()) (fun x y => rfl) (fun x y => rfl) (fun x y s kA kO => L77_5c F x.1 x.2.1 s.1 s.2 kA kO) (fun x y s kA kO => L77_5n F x.1 x.2.1 s.1 s.2 kA kO) (le77_5 F)
def L77_6c (F : Nat) (y49 : List UInt8) (y50 : Int) (y51 : Int) (y54 : List UInt8) (y53 : Int) {β : Type} (kA : Int → Option β) (kO : Unit → Option β) (kR : (UInt64 × Int × Bool) → Option β) : Option β :=
  (bif (decide (y53 < y51)) then (Option.bind (inb y54.length y53) fun x58 => (Option.bind (y54[x58]?) fun x59 => (Option.bind (ix y49 (w64 (y50 + y53))) fun x60 => (bif (x59 != x60) then (kR ((UInt64.ofNat 0), (0 : Int), false)) else (kA (w64 (y53 + (1 : Int)))))))) else (kO ()))
def L77_6 (F : Nat) (y49 : List UInt8) (y50 : Int) (y51 : Int) (y54 : List UInt8) (y53 : Int) : Option ((Int) ⊕ ((Unit) ⊕ (UInt64 × Int × Bool))) := L77_6c F y49 y50 y51 y54 y53 (fun s => some (.inl s)) (fun z => some (.inr (.inl z))) (fun z => some (.inr (.inr z)))
theorem L77_6n (F : Nat) (y49 : List UInt8) (y50 : Int) (y51 : Int) (y54 : List UInt8) (y53 : Int) {β : Type} (kA : Int → Option β) (kO : Unit → Option β) (kR : (UInt64 × Int × Bool) → Option β) : L77_6c F y49 y50 y51 y54 y53 kA kO kR = (L77_6 F y49 y50 y51 y54 y53).bind (elimS kA (elimS kO kR)) := by
  simp only [L77_6, L77_6c, Option.bind_assoc, cond_bind, Option.bind_some, elimS_l, elimS_r, elimS_bind]
@[reducible] def sA77_6 : List Sh := [(.ro .u8), .i, .i, .u64, (.rw 0), .i]
@[reducible] def sA177_6 : List Sh := [.i, .i, .u64]
@[reducible] def sA277_6 : List Sh := [.u64, .i, .bo]
@[reducible] def sT77_6 : List TSh := [.row 5 .u8]
@[reducible] def sT177_6 : List TSh := []
@[reducible] def sT277_6 : List TSh := []
def lc77_6 (F : Nat) : Lc := mkR [0, 1, 7, 8, 10, 11] sA77_6 sT77_6 [1, 7, 8] sA177_6 sT177_6 [4, 5, 6] sA277_6 sT277_6 F (fun x y (s : Int) => L77_6 F x.1 x.2.1 x.2.2.1 y.1 s) (fun x y => x.2.2.2.2.2.1) (fun x y (z : Unit) => ((x.2.1, x.2.2.1, x.2.2.2.1, ()), ())) (fun x y (z : UInt64 × Int × Bool) => ((z.1, z.2.1, z.2.2, ()), ()))
theorem le77_6 (F : Nat) (x : dens sA77_6) (y : tdens sT77_6) (s : Int) : sev (E77 F) 0 [] (cAt (bodyOf Tryd.f77) (0 :: 0 :: [1, 0, 1, 1, 1, 1, 1, 0, 0, 1, 0, 0, 1, 0, 1])) (0 :: 0 :: [1, 0, 1, 1, 1, 1, 1, 0, 0, 1, 0, 0, 1, 0, 1]) (mkSt [0, 1, 7, 8, 10, 11] sA77_6 sT77_6 (x.1, x.2.1, x.2.2.1, x.2.2.2.1, (), s, ()) (y.1, ())) (kLoop 0 [0, 1, 7, 8, 10, 11] sA77_6 sT77_6 [1, 7, 8] sA177_6 sT177_6 [4, 5, 6] sA277_6 sT277_6 4 (fun x y => some (.inl (x, y))) (fun x y => some (.inr (.inl (x, y)))) (fun x y => some (.inr (.inr (x, y))))) =
    L77_6c (β := Full sA77_6 sT77_6 sA177_6 sT177_6 sA277_6 sT277_6) F x.1 x.2.1 x.2.2.1 y.1 s (fun s => some (.inl ((x.1, x.2.1, x.2.2.1, x.2.2.2.1, (), s, ()), (y.1, ())))) (fun z => some (.inr (.inl ((x.2.1, x.2.2.1, x.2.2.2.1, ()), ())))) (fun z => some (.inr (.inr ((z.1, z.2.1, z.2.2, ()), ())))) := by kernel_rfl
theorem lo77_6 (F : Nat) : LcOk Tryd.prog (E77 F) 0 (lc77_6 F) (cAt (bodyOf Tryd.f77) [1, 0, 1, 1, 1, 1, 1, 0, 0, 1, 0, 0, 1, 0, 1]) :=
  mkR_ok (lp := []) (id := 4) (b := cAt (bodyOf Tryd.f77) (0 :: 0 :: [1, 0, 1, 1, 1, 1, 1, 0, 0, 1, 0, 0, 1, 0, 1])) cok (cts77 F) mixed trivial (by kernel_rfl) (by kernel_rfl) (fun x y s => (x.1, x.2.1, x.2.2.1, x.2.2.2.1, (), s, ())) (fun x y s => (y.1, ())) (fun x y => rfl) (fun x y => rfl) (fun x y s kA kO kR => L77_6c F x.1 x.2.1 x.2.2.1 y.1 s kA kO kR) (fun x y s kA kO kR => L77_6n F x.1 x.2.1 x.2.2.1 y.1 s kA kO kR) (le77_6 F)
def L77_4c (F : Nat) (y32 : List UInt8) (y33 : Int) (y34 : Int) {β : Type} (kA : Int → Option β) (kO : Unit → Option β) (kR : (UInt64 × Int × Bool) → Option β) : Option β :=
  (bif (decide (y34 ≤ (10 : Int))) then (bif (decide ((w64 (y33 + y34)) ≤ (y32.length : Int))) then (Option.bind (ix y32 (w64 ((w64 (y33 + y34)) - (1 : Int)))) fun x39 => (bif (decide ((UInt8.ofNat 128) ≤ x39)) then (kA (w64 (y34 + (1 : Int)))) else (Option.bind (iter (fun s => L77_5 F y32 y33 s.1 s.2) F ((UInt64.ofNat 0), (w64 (y34 - (1 : Int))))) fun z47 => (Option.bind (T45 F z47) fun z48 => (bif ((z48.length : Int) != y34) then (kR ((UInt64.ofNat 0), (0 : Int), false)) else (Option.bind (iter (fun s => L77_6 F y32 y33 y34 z48 s) F (0 : Int)) fun z61 => elimS (fun z61 => (kR (z47, (w64 (y33 + y34)), true))) (fun z61 => (kR (z61.1, z61.2.1, z61.2.2))) z61)))))) else (kO ())) else (kO ()))
def L77_4 (F : Nat) (y32 : List UInt8) (y33 : Int) (y34 : Int) : Option ((Int) ⊕ ((Unit) ⊕ (UInt64 × Int × Bool))) := L77_4c F y32 y33 y34 (fun s => some (.inl s)) (fun z => some (.inr (.inl z))) (fun z => some (.inr (.inr z)))
theorem L77_4n (F : Nat) (y32 : List UInt8) (y33 : Int) (y34 : Int) {β : Type} (kA : Int → Option β) (kO : Unit → Option β) (kR : (UInt64 × Int × Bool) → Option β) : L77_4c F y32 y33 y34 kA kO kR = (L77_4 F y32 y33 y34).bind (elimS kA (elimS kO kR)) := by
  simp only [L77_4, L77_4c, Option.bind_assoc, cond_bind, Option.bind_some, elimS_l, elimS_r, elimS_bind]
@[reducible] def sA77_4 : List Sh := [(.ro .u8), .i, .i]
@[reducible] def sA177_4 : List Sh := []
@[reducible] def sA277_4 : List Sh := [.u64, .i, .bo]
@[reducible] def sT77_4 : List TSh := []
@[reducible] def sT177_4 : List TSh := []
@[reducible] def sT277_4 : List TSh := []
def lc77_4 (F : Nat) : Lc := mkR [0, 1, 7] sA77_4 sT77_4 [] sA177_4 sT177_4 [4, 5, 6] sA277_4 sT277_4 F (fun x y (s : Int) => L77_4 F x.1 x.2.1 s) (fun x y => x.2.2.1) (fun x y (z : Unit) => ((), ())) (fun x y (z : UInt64 × Int × Bool) => ((z.1, z.2.1, z.2.2, ()), ()))
theorem le77_4 (F : Nat) (x : dens sA77_4) (y : tdens sT77_4) (s : Int) : sev (E77 F) 0 [([1, 0, 1, 1, 0, 0, 1, 0, 0, 1, 0, 1], lc77_5 F), ([1, 0, 1, 1, 1, 1, 1, 0, 0, 1, 0, 0, 1, 0, 1], lc77_6 F)] (cAt (bodyOf Tryd.f77) (0 :: 0 :: [1, 0, 1])) (0 :: 0 :: [1, 0, 1]) (mkSt [0, 1, 7] sA77_4 sT77_4 (x.1, x.2.1, s, ()) ()) (kLoop 0 [0, 1, 7] sA77_4 sT77_4 [] sA177_4 sT177_4 [4, 5, 6] sA277_4 sT277_4 0 (fun x y => some (.inl (x, y))) (fun x y => some (.inr (.inl (x, y)))) (fun x y => some (.inr (.inr (x, y))))) =
    L77_4c (β := Full sA77_4 sT77_4 sA177_4 sT177_4 sA277_4 sT277_4) F x.1 x.2.1 s (fun s => some (.inl ((x.1, x.2.1, s, ()), ()))) (fun z => some (.inr (.inl ((), ())))) (fun z => some (.inr (.inr ((z.1, z.2.1, z.2.2, ()), ())))) := by kernel_rfl
theorem lo77_4 (F : Nat) : LcOk Tryd.prog (E77 F) 0 (lc77_4 F) (cAt (bodyOf Tryd.f77) [1, 0, 1]) :=
  mkR_ok (lp := [([1, 0, 1, 1, 0, 0, 1, 0, 0, 1, 0, 1], lc77_5 F), ([1, 0, 1, 1, 1, 1, 1, 0, 0, 1, 0, 0, 1, 0, 1], lc77_6 F)]) (id := 0) (b := cAt (bodyOf Tryd.f77) (0 :: 0 :: [1, 0, 1])) cok (cts77 F) mixed ⟨lo77_5 F, ⟨lo77_6 F, trivial⟩⟩ (by kernel_rfl) (by kernel_rfl) (fun x y s => (x.1, x.2.1, s, ())) (fun x y s => ()) (fun x y => rfl) (fun x y => rfl) (fun x y s kA kO kR => L77_4c F x.1 x.2.1 s kA kO kR) (fun x y s kA kO kR => L77_4n F x.1 x.2.1 s kA kO kR) (le77_4 F)
def T77c (F : Nat) (p0 : List UInt8) (p1 : Int) {β : Type} (k : (UInt64 × Int × Bool) → Option β) : Option β :=
  (Option.bind (iter (fun s => L77_4 F p0 p1 s) F (1 : Int)) fun z62 => elimS (fun z62 => (k ((UInt64.ofNat 0), (0 : Int), false))) (fun z62 => (k (z62.1, z62.2.1, z62.2.2))) z62)
def T77 (F : Nat) (p0 : List UInt8) (p1 : Int) : Option (UInt64 × Int × Bool) := T77c F p0 p1 some
theorem T77n (F : Nat) (p0 : List UInt8) (p1 : Int) {β : Type} (k : (UInt64 × Int × Bool) → Option β) : T77c F p0 p1 k = (T77 F p0 p1).bind k := by
  simp only [T77, T77c, Option.bind_assoc, cond_bind, Option.bind_some, elimS_bind]
@[reducible] def cA77 : List Sh := [(.ro .u8), .i]
@[reducible] def cB77 : List Sh := [.u64, .i, .bo]
@[reducible] def cT77 : List TSh := []
@[reducible] def cU77 : List TSh := []
def ct77 (F : Nat) : Ct := mkC 0 cA77 cT77 cB77 cU77 (fun x y => T77 F x.1 x.2.1) (fun x y (z : UInt64 × Int × Bool) => ((z.1, z.2.1, z.2.2, ()), ()))
theorem eq77 (F : Nat) (x : dens cA77) (y : tdens cT77) : sev (E77 F) 0 [([1, 0, 1], lc77_4 F)] (bodyOf Tryd.f77) [] (mkSt (rng 2) cA77 cT77 x y) (kFn (E77 F) 0 Tryd.f77.results.toList cB77 cU77 fun p q => some (p, q)) =
    T77c F x.1 x.2.1 (fun z => some ((z.1, z.2.1, z.2.2, ()), ())) := by kernel_rfl
theorem ok77 (F : Nat) : Sound Tryd.prog cfg 77 (ct77 F) :=
  mkC_ok (E := E77 F) (lp := [([1, 0, 1], lc77_4 F)]) (code := bodyOf Tryd.f77) Tryd.func77 rfl Tryd.ntmps77 rfl rfl cok (cts77 F) mixed ⟨lo77_4 F, trivial⟩ (by kernel_rfl) (fun x y k => T77c F x.1 x.2.1 k) (fun x y k => T77n F x.1 x.2.1 k) (eq77 F)
end Go.Proofs.YtjghgfohpihhfaaDoor
/- kinkeep/kinkeepref01.Unzigzag: its twin, and that the call does what the twin says. Printed by a program. -/
namespace Go.Proofs.YtjghgfohpihhfaaDoor
open Go.Tw
set_option linter.unusedSimpArgs false
set_option linter.unusedVariables false
def ord78 : Nat → List (Tag × Nat)
  | _ => []
def al78 : Nat → Option Nat
  | _ => none
def E78 (F : Nat) : Ev := ⟨cfg, 14, ctOf [], ord78, ctOf [], al78⟩
theorem cts78 (F : Nat) : CtsOk Tryd.prog (E78 F) := cts_of (l := []) (l' := []) rfl rfl trivial trivial
def T78c (F : Nat) (p0 : UInt64) {β : Type} (k : Int → Option β) : Option β :=
  (bif ((p0 % (UInt64.ofNat 2)) == (UInt64.ofNat 0)) then (k (w64 ((p0 / (UInt64.ofNat 2)).toNat : Int))) else (k (w64 ((w64 (0 - (w64 ((p0 / (UInt64.ofNat 2)).toNat : Int)))) - (1 : Int)))))
def T78 (F : Nat) (p0 : UInt64) : Option (Int) := T78c F p0 some
theorem T78n (F : Nat) (p0 : UInt64) {β : Type} (k : Int → Option β) : T78c F p0 k = (T78 F p0).bind k := by
  simp only [T78, T78c, Option.bind_assoc, cond_bind, Option.bind_some, elimS_bind]
@[reducible] def cA78 : List Sh := [.u64]
@[reducible] def cB78 : List Sh := [.i]
@[reducible] def cT78 : List TSh := []
@[reducible] def cU78 : List TSh := []
def ct78 (F : Nat) : Ct := mkC 0 cA78 cT78 cB78 cU78 (fun x y => T78 F x.1) (fun x y (z : Int) => ((z, ()), ()))
theorem eq78 (F : Nat) (x : dens cA78) (y : tdens cT78) : sev (E78 F) 0 [] (bodyOf Tryd.f78) [] (mkSt (rng 1) cA78 cT78 x y) (kFn (E78 F) 0 Tryd.f78.results.toList cB78 cU78 fun p q => some (p, q)) =
    T78c F x.1 (fun z => some ((z, ()), ())) := by kernel_rfl
theorem ok78 (F : Nat) : Sound Tryd.prog cfg 78 (ct78 F) :=
  mkC_ok (E := E78 F) (lp := []) (code := bodyOf Tryd.f78) Tryd.func78 rfl Tryd.ntmps78 rfl rfl cok (cts78 F) mixed trivial (by kernel_rfl) (fun x y k => T78c F x.1 k) (fun x y k => T78n F x.1 k) (eq78 F)
end Go.Proofs.YtjghgfohpihhfaaDoor
/- kinkeep/kinkeepref01.read: its twin, and that the call does what the twin says. Printed by a program. -/
namespace Go.Proofs.YtjghgfohpihhfaaDoor
open Go.Tw
set_option linter.unusedSimpArgs false
set_option linter.unusedVariables false
def ord64 : Nat → List (Tag × Nat)
  | _ => []
def al64 : Nat → Option Nat
  | _ => none
def E64 (F : Nat) : Ev := ⟨cfg, 123, ctOf [(77, ct77 F), (78, ct78 F)], ord64, ctOf [], al64⟩
theorem cts64 (F : Nat) : CtsOk Tryd.prog (E64 F) := cts_of (l := [(77, ct77 F), (78, ct78 F)]) (l' := []) rfl rfl ⟨⟨ok77 F, _, Tryd.func77, rfl, rfl⟩, ⟨⟨ok78 F, _, Tryd.func78, rfl, rfl⟩, trivial⟩⟩ trivial
def T64c (F : Nat) (p0 : List UInt8) (p1 : Int) (p2 : Int) (p3 : Int) {β : Type} (k : (UInt64 × Int × Bool × (List UInt8) × Int × Int) → Option β) : Option β :=
  (bif (p2 == (6 : Int)) then (bif (decide ((w64 ((p0.length : Int) - p1)) < (32 : Int))) then (k ((0 : UInt64), (0 : Int), false, ([] : List UInt8), p1, (3 : Int))) else (Option.bind (gsl p0 p1 (w64 (p1 + (32 : Int)))) fun x7 => (k ((0 : UInt64), (0 : Int), false, x7, (w64 (p1 + (32 : Int))), (0 : Int))))) else (bif (p2 == (3 : Int)) then (bif (decide ((p0.length : Int) ≤ p1)) then (k ((0 : UInt64), (0 : Int), false, ([] : List UInt8), p1, (3 : Int))) else (Option.bind (ix p0 p1) fun x8 => (bif (decide ((UInt8.ofNat 1) < x8)) then (k ((0 : UInt64), (0 : Int), false, ([] : List UInt8), p1, (3 : Int))) else (Option.bind (ix p0 p1) fun x9 => (k ((0 : UInt64), (0 : Int), (x9 == (UInt8.ofNat 1)), ([] : List UInt8), (w64 (p1 + (1 : Int))), (0 : Int))))))) else (Option.bind (T77 F p0 p1) fun z10 => (bif (!z10.2.2) then (k ((0 : UInt64), (0 : Int), false, ([] : List UInt8), p1, (3 : Int))) else (bif (p2 == (1 : Int)) then (k (z10.1, (0 : Int), false, ([] : List UInt8), z10.2.1, (0 : Int))) else (bif (p2 == (2 : Int)) then (Option.bind (T78 F z10.1) fun z11 => (k ((0 : UInt64), z11, false, ([] : List UInt8), z10.2.1, (0 : Int)))) else (bif (decide ((UInt64.ofInt (if p3 < (0 : Int) then (0 : Int) else p3)) < z10.1)) then (k ((0 : UInt64), (0 : Int), false, ([] : List UInt8), p1, (2 : Int))) else (bif (p2 == (7 : Int)) then (k ((0 : UInt64), (w64 (z10.1.toNat : Int)), false, ([] : List UInt8), z10.2.1, (0 : Int))) else (bif (decide ((UInt64.ofInt (w64 ((p0.length : Int) - z10.2.1))) < z10.1)) then (k ((0 : UInt64), (0 : Int), false, ([] : List UInt8), p1, (3 : Int))) else (Option.bind (gsl p0 z10.2.1 (w64 (z10.2.1 + (w64 (z10.1.toNat : Int))))) fun x12 => (k ((0 : UInt64), (0 : Int), false, x12, (w64 (z10.2.1 + (w64 (z10.1.toNat : Int)))), (0 : Int)))))))))))))
def T64 (F : Nat) (p0 : List UInt8) (p1 : Int) (p2 : Int) (p3 : Int) : Option (UInt64 × Int × Bool × (List UInt8) × Int × Int) := T64c F p0 p1 p2 p3 some
theorem T64n (F : Nat) (p0 : List UInt8) (p1 : Int) (p2 : Int) (p3 : Int) {β : Type} (k : (UInt64 × Int × Bool × (List UInt8) × Int × Int) → Option β) : T64c F p0 p1 p2 p3 k = (T64 F p0 p1 p2 p3).bind k := by
  simp only [T64, T64c, Option.bind_assoc, cond_bind, Option.bind_some, elimS_bind]
@[reducible] def cA64 : List Sh := [(.ro .u8), .i, .i, .i]
@[reducible] def cB64 : List Sh := [(.pr .i (.pr .u64 (.pr .i (.pr .bo (.pr .str (.pr .i .un)))))), .i, .i]
@[reducible] def cT64 : List TSh := []
@[reducible] def cU64 : List TSh := []
def ct64 (F : Nat) : Ct := mkC 0 cA64 cT64 cB64 cU64 (fun x y => T64 F x.1 x.2.1 x.2.2.1 x.2.2.2.1) (fun x y (z : UInt64 × Int × Bool × (List UInt8) × Int × Int) => (((x.2.2.1, z.1, z.2.1, z.2.2.1, z.2.2.2.1, x.2.2.2.1, ()), z.2.2.2.2.1, z.2.2.2.2.2, ()), ()))
theorem eq64 (F : Nat) (x : dens cA64) (y : tdens cT64) : sev (E64 F) 0 [] (bodyOf Tryd.f64) [] (mkSt (rng 4) cA64 cT64 x y) (kFn (E64 F) 0 Tryd.f64.results.toList cB64 cU64 fun p q => some (p, q)) =
    T64c F x.1 x.2.1 x.2.2.1 x.2.2.2.1 (fun z => some (((x.2.2.1, z.1, z.2.1, z.2.2.1, z.2.2.2.1, x.2.2.2.1, ()), z.2.2.2.2.1, z.2.2.2.2.2, ()), ())) := by kernel_rfl
theorem ok64 (F : Nat) : Sound Tryd.prog cfg 64 (ct64 F) :=
  mkC_ok (E := E64 F) (lp := []) (code := bodyOf Tryd.f64) Tryd.func64 rfl Tryd.ntmps64 rfl rfl cok (cts64 F) mixed trivial (by kernel_rfl) (fun x y k => T64c F x.1 x.2.1 x.2.2.1 x.2.2.2.1 k) (fun x y k => T64n F x.1 x.2.1 x.2.2.1 x.2.2.2.1 k) (eq64 F)
end Go.Proofs.YtjghgfohpihhfaaDoor
/- (*kinkeep/kinkeepref01.Reader).Read: its twin, and that the call does what the twin says. Printed by a program. -/
namespace Go.Proofs.YtjghgfohpihhfaaDoor
open Go.Tw
set_option linter.unusedSimpArgs false
set_option linter.unusedVariables false
def ord49 : Nat → List (Tag × Nat)
  | 7 => [(.p, 0), (.p, 1), (.p, 2), (.c, 3), (.p, 4), (.p, 5), (.p, 6), (.c, 7), (.p, 8), (.p, 9), (.w, 10), (.p, 11), (.p, 12), (.p, 13), (.p, 14), (.w, 15), (.w, 16), (.p, 17), (.p, 18)]
  | _ => []
def al49 : Nat → Option Nat
  | 7 => some 15
  | _ => none
def E49 (F : Nat) : Ev := ⟨cfg, 67, ctOf [(64, ct64 F)], ord49, ctOf [], al49⟩
theorem cts49 (F : Nat) : CtsOk Tryd.prog (E49 F) := cts_of (l := [(64, ct64 F)]) (l' := []) rfl rfl ⟨⟨ok64 F, _, Tryd.func64, rfl, rfl⟩, trivial⟩ trivial
def T49c (F : Nat) (p0 : Int) (p1 : Int) (p2 : List UInt8) (p3 : Int) (p4 : Int) (p5 : Int) {β : Type} (k : (UInt64 × Int × Bool × (List UInt8) × Int × Int × Int) → Option β) : Option β :=
  (bif (p5 != (0 : Int)) then (k ((0 : UInt64), (0 : Int), false, ([] : List UInt8), p3, p4, p5)) else (bif (p0 == (0 : Int)) then (k ((0 : UInt64), (0 : Int), false, ([] : List UInt8), p4, p4, (3 : Int))) else (Option.bind (T64 F p2 p3 p0 p1) fun z2 => (bif (z2.2.2.2.2.2 != (0 : Int)) then (k ((0 : UInt64), (0 : Int), false, ([] : List UInt8), p3, p4, z2.2.2.2.2.2)) else (k (z2.1, z2.2.1, z2.2.2.1, z2.2.2.2.1, z2.2.2.2.2.1, p3, p5))))))
def T49 (F : Nat) (p0 : Int) (p1 : Int) (p2 : List UInt8) (p3 : Int) (p4 : Int) (p5 : Int) : Option (UInt64 × Int × Bool × (List UInt8) × Int × Int × Int) := T49c F p0 p1 p2 p3 p4 p5 some
theorem T49n (F : Nat) (p0 : Int) (p1 : Int) (p2 : List UInt8) (p3 : Int) (p4 : Int) (p5 : Int) {β : Type} (k : (UInt64 × Int × Bool × (List UInt8) × Int × Int × Int) → Option β) : T49c F p0 p1 p2 p3 p4 p5 k = (T49 F p0 p1 p2 p3 p4 p5).bind k := by
  simp only [T49, T49c, Option.bind_assoc, cond_bind, Option.bind_some, elimS_bind]
@[reducible] def cA49 : List Sh := [(.pt 0 []), .i, .i]
@[reducible] def cB49 : List Sh := [(.pr .i (.pr .u64 (.pr .i (.pr .bo (.pr .str (.pr .i .un))))))]
@[reducible] def cT49 : List TSh := [.blk 72 (.pr (.ro .u8) (.pr .i (.pr .i (.pr .i .un))))]
@[reducible] def cU49 : List TSh := [.blk 72 (.pr (.ro .u8) (.pr .i (.pr .i (.pr .i .un))))]
def ct49 (F : Nat) : Ct := mkC 1 cA49 cT49 cB49 cU49 (fun x y => T49 F x.2.1 x.2.2.1 y.1.1 y.1.2.1 y.1.2.2.1 y.1.2.2.2.1) (fun x y (z : UInt64 × Int × Bool × (List UInt8) × Int × Int × Int) => (((x.2.1, z.1, z.2.1, z.2.2.1, z.2.2.2.1, x.2.2.1, ()), ()), ((y.1.1, z.2.2.2.2.1, z.2.2.2.2.2.1, z.2.2.2.2.2.2, ()), ())))
theorem eq49 (F : Nat) (x : dens cA49) (y : tdens cT49) : sev (E49 F) 1 [] (bodyOf Tryd.f49) [] (mkSt (rng 3) cA49 cT49 x y) (kFn (E49 F) 1 Tryd.f49.results.toList cB49 cU49 fun p q => some (p, q)) =
    T49c F x.2.1 x.2.2.1 y.1.1 y.1.2.1 y.1.2.2.1 y.1.2.2.2.1 (fun z => some (((x.2.1, z.1, z.2.1, z.2.2.1, z.2.2.2.1, x.2.2.1, ()), ()), ((y.1.1, z.2.2.2.2.1, z.2.2.2.2.2.1, z.2.2.2.2.2.2, ()), ()))) := by kernel_rfl
theorem ok49 (F : Nat) : Sound Tryd.prog cfg 49 (ct49 F) :=
  mkC_ok (E := E49 F) (lp := []) (code := bodyOf Tryd.f49) Tryd.func49 rfl Tryd.ntmps49 rfl rfl cok (cts49 F) mixed trivial (by kernel_rfl) (fun x y k => T49c F x.2.1 x.2.2.1 y.1.1 y.1.2.1 y.1.2.2.1 y.1.2.2.2.1 k) (fun x y k => T49n F x.2.1 x.2.2.1 y.1.1 y.1.2.1 y.1.2.2.1 y.1.2.2.2.1 k) (eq49 F)
end Go.Proofs.YtjghgfohpihhfaaDoor
/- kinkeep/kinkeepref11.Content: its twin, and that the call does what the twin says. Printed by a program. -/
namespace Go.Proofs.YtjghgfohpihhfaaDoor
open Go.Tw
set_option linter.unusedSimpArgs false
set_option linter.unusedVariables false
def ord21 : Nat → List (Tag × Nat)
  | 5 => [(.p, 1), (.p, 2), (.p, 3), (.p, 4), (.c, 5), (.p, 6), (.p, 7), (.p, 8), (.c, 9), (.p, 10), (.p, 11), (.p, 12), (.p, 13), (.w, 0), (.w, 14), (.p, 15)]
  | _ => []
def al21 : Nat → Option Nat
  | _ => none
def E21 (F : Nat) : Ev := ⟨cfg, 69, ctOf [(49, ct49 F), (43, ct43 F), (19, ct19 F)], ord21, ctOf [], al21⟩
theorem cts21 (F : Nat) : CtsOk Tryd.prog (E21 F) := cts_of (l := [(49, ct49 F), (43, ct43 F), (19, ct19 F)]) (l' := []) rfl rfl ⟨⟨ok49 F, _, Tryd.func49, rfl, rfl⟩, ⟨⟨ok43 F, _, Tryd.func43, rfl, rfl⟩, ⟨⟨ok19 F, _, Tryd.func19, rfl, rfl⟩, trivial⟩⟩⟩ trivial
def T21c (F : Nat) (p0 : List UInt8) {β : Type} (k : (Int × (List UInt8) × (List UInt8)) → Option β) : Option β :=
  (Option.bind (T49 F (1 : Int) (0 : Int) p0 (0 : Int) (0 : Int) (0 : Int)) fun z8 => (bif (z8.2.2.2.2.2.2 != (0 : Int)) then (k ((3 : Int), ([] : List UInt8), ([] : List UInt8))) else (bif (decide ((UInt64.ofNat 32768) < z8.1)) then (k ((3 : Int), ([] : List UInt8), ([] : List UInt8))) else (Option.bind (T43 F (w64 (z8.1.toNat : Int))) fun z9 => (bif (decide ((p0.length : Int) < z9)) then (k ((3 : Int), ([] : List UInt8), ([] : List UInt8))) else (Option.bind (gsl p0 z8.2.2.2.2.1 (w64 (z8.2.2.2.2.1 + (w64 (z8.1.toNat : Int))))) fun x10 => (Option.bind (gapp ([] : List UInt8) x10) fun x11 => (Option.bind (gsl p0 (w64 ((p0.length : Int) - (16 : Int))) (p0.length : Int)) fun x12 => (Option.bind (gapp ([] : List UInt8) x12) fun x13 => (Option.bind (T19 F x11 x13) fun z14 => (bif (z14.2 != p0) then (k ((3 : Int), ([] : List UInt8), ([] : List UInt8))) else (k ((0 : Int), x11, x13)))))))))))))
def T21 (F : Nat) (p0 : List UInt8) : Option (Int × (List UInt8) × (List UInt8)) := T21c F p0 some
theorem T21n (F : Nat) (p0 : List UInt8) {β : Type} (k : (Int × (List UInt8) × (List UInt8)) → Option β) : T21c F p0 k = (T21 F p0).bind k := by
  simp only [T21, T21c, Option.bind_assoc, cond_bind, Option.bind_some, elimS_bind]
@[reducible] def cA21 : List Sh := [(.ro .u8)]
@[reducible] def cB21 : List Sh := [(.rw 0), (.rw 1), .i]
@[reducible] def cT21 : List TSh := []
@[reducible] def cU21 : List TSh := [.row 5 .u8, .row 5 .u8]
def ct21 (F : Nat) : Ct := mkC 0 cA21 cT21 cB21 cU21 (fun x y => T21 F x.1) (fun x y (z : Int × (List UInt8) × (List UInt8)) => (((), (), z.1, ()), (z.2.1, z.2.2, ())))
theorem eq21 (F : Nat) (x : dens cA21) (y : tdens cT21) : sev (E21 F) 0 [] (bodyOf Tryd.f21) [] (mkSt (rng 1) cA21 cT21 x y) (kFn (E21 F) 0 Tryd.f21.results.toList cB21 cU21 fun p q => some (p, q)) =
    T21c F x.1 (fun z => some (((), (), z.1, ()), (z.2.1, z.2.2, ()))) := by kernel_rfl
theorem ok21 (F : Nat) : Sound Tryd.prog cfg 21 (ct21 F) :=
  mkC_ok (E := E21 F) (lp := []) (code := bodyOf Tryd.f21) Tryd.func21 rfl Tryd.ntmps21 rfl rfl cok (cts21 F) mixed trivial (by kernel_rfl) (fun x y k => T21c F x.1 k) (fun x y k => T21n F x.1 k) (eq21 F)
end Go.Proofs.YtjghgfohpihhfaaDoor
/- kinkeep/kinkeepref11.OpenWith: its twin, and that the call does what the twin says. Printed by a program. -/
namespace Go.Proofs.YtjghgfohpihhfaaDoor
open Go.Tw
set_option linter.unusedSimpArgs false
set_option linter.unusedVariables false
def ord38 : Nat → List (Tag × Nat)
  | _ => []
def al38 : Nat → Option Nat
  | _ => none
def E38 (F : Nat) : Ev := ⟨cfg, 19, ctOf [(58, ct58 F), (21, ct21 F)], ord38, ctOf [], al38⟩
theorem cts38 (F : Nat) : CtsOk Tryd.prog (E38 F) := cts_of (l := [(58, ct58 F), (21, ct21 F)]) (l' := []) rfl rfl ⟨⟨ok58 F, _, Tryd.func58, rfl, rfl⟩, ⟨⟨ok21 F, _, Tryd.func21, rfl, rfl⟩, trivial⟩⟩ trivial
def T38c (F : Nat) (p0 : List UInt8) (p1 : List UInt8) {β : Type} (k : (Int × (List UInt8) × (List UInt8)) → Option β) : Option β :=
  (bif ((p0.length : Int) != (p1.length : Int)) then (k ((1 : Int), ([] : List UInt8), ([] : List UInt8))) else (Option.bind (T58 F p0 p1) fun z3 => (Option.bind (T21 F z3) fun z4 => (k (z4.1, z4.2.1, z4.2.2)))))
def T38 (F : Nat) (p0 : List UInt8) (p1 : List UInt8) : Option (Int × (List UInt8) × (List UInt8)) := T38c F p0 p1 some
theorem T38n (F : Nat) (p0 : List UInt8) (p1 : List UInt8) {β : Type} (k : (Int × (List UInt8) × (List UInt8)) → Option β) : T38c F p0 p1 k = (T38 F p0 p1).bind k := by
  simp only [T38, T38c, Option.bind_assoc, cond_bind, Option.bind_some, elimS_bind]
@[reducible] def cA38 : List Sh := [(.ro .u8), (.ro .u8)]
@[reducible] def cB38 : List Sh := [(.rw 0), (.rw 1), .i]
@[reducible] def cT38 : List TSh := []
@[reducible] def cU38 : List TSh := [.row 5 .u8, .row 5 .u8]
def ct38 (F : Nat) : Ct := mkC 0 cA38 cT38 cB38 cU38 (fun x y => T38 F x.1 x.2.1) (fun x y (z : Int × (List UInt8) × (List UInt8)) => (((), (), z.1, ()), (z.2.1, z.2.2, ())))
theorem eq38 (F : Nat) (x : dens cA38) (y : tdens cT38) : sev (E38 F) 0 [] (bodyOf Tryd.f38) [] (mkSt (rng 2) cA38 cT38 x y) (kFn (E38 F) 0 Tryd.f38.results.toList cB38 cU38 fun p q => some (p, q)) =
    T38c F x.1 x.2.1 (fun z => some (((), (), z.1, ()), (z.2.1, z.2.2, ()))) := by kernel_rfl
theorem ok38 (F : Nat) : Sound Tryd.prog cfg 38 (ct38 F) :=
  mkC_ok (E := E38 F) (lp := []) (code := bodyOf Tryd.f38) Tryd.func38 rfl Tryd.ntmps38 rfl rfl cok (cts38 F) mixed trivial (by kernel_rfl) (fun x y k => T38c F x.1 x.2.1 k) (fun x y k => T38n F x.1 x.2.1 k) (eq38 F)
end Go.Proofs.YtjghgfohpihhfaaDoor
/- kinkeep/kinkeepref11.Open: its twin, and that the call does what the twin says. Printed by a program. -/
namespace Go.Proofs.YtjghgfohpihhfaaDoor
open Go.Tw
set_option linter.unusedSimpArgs false
set_option linter.unusedVariables false
def ord33 : Nat → List (Tag × Nat)
  | _ => []
def al33 : Nat → Option Nat
  | _ => none
def E33 (F : Nat) : Ev := ⟨cfg, 98, ctOf [(15, ct15 F), (52, ct52 F), (28, ct28 F), (38, ct38 F), (26, ct26 F), (24, ct24 F)], ord33, ctOf [], al33⟩
theorem cts33 (F : Nat) : CtsOk Tryd.prog (E33 F) := cts_of (l := [(15, ct15 F), (52, ct52 F), (28, ct28 F), (38, ct38 F), (26, ct26 F), (24, ct24 F)]) (l' := []) rfl rfl ⟨⟨ok15 F, _, Tryd.func15, rfl, rfl⟩, ⟨⟨ok52 F, _, Tryd.func52, rfl, rfl⟩, ⟨⟨ok28 F, _, Tryd.func28, rfl, rfl⟩, ⟨⟨ok38 F, _, Tryd.func38, rfl, rfl⟩, ⟨⟨ok26 F, _, Tryd.func26, rfl, rfl⟩, ⟨⟨ok24 F, _, Tryd.func24, rfl, rfl⟩, trivial⟩⟩⟩⟩⟩⟩ trivial
def T33c (F : Nat) (p0 : List UInt8) (p1 : List UInt8) (p2 : List UInt8) (p3 : List UInt8) (p4 : List UInt8) (p5 : List UInt8) (p6 : Int) (p7 : Int) (p8 : List UInt8) {β : Type} (k : ((List UInt8) × Int) → Option β) : Option β :=
  (Option.bind (T15 F p7) fun z7 => (Option.bind (T52 F p0 p1 p2 p3 p4) fun z8 => (bif (!z8) then (k (([] : List UInt8), (1 : Int))) else (bif ((p5.length : Int) != (32 : Int)) then (k (([] : List UInt8), (1 : Int))) else (bif (decide (p6 < (0 : Int))) then (k (([] : List UInt8), (1 : Int))) else (bif (z7.2 != (0 : Int)) then (k (([] : List UInt8), (1 : Int))) else (bif ((p8.length : Int) != z7.1) then (k (([] : List UInt8), (1 : Int))) else (Option.bind (T28 F p0 p1 p2 p3 p4 p5 z7.1) fun z9 => (Option.bind (T38 F z9.2 p8) fun z10 => (bif (z10.1 != (0 : Int)) then (k (([] : List UInt8), (9 : Int))) else (bif ((z10.2.1.length : Int) != p7) then (k (([] : List UInt8), (9 : Int))) else (Option.bind (T26 F p0 p1 p2 p3 p4 z10.2.1) fun z11 => (Option.bind (T24 F p0 p1 p2 p3 p4 p6 z10.2.1) fun z12 => (bif (z11.1 != z10.2.2) then (k (([] : List UInt8), (9 : Int))) else (bif (z12.1 != p5) then (k (([] : List UInt8), (9 : Int))) else (k (z10.2.1, (0 : Int))))))))))))))))))
def T33 (F : Nat) (p0 : List UInt8) (p1 : List UInt8) (p2 : List UInt8) (p3 : List UInt8) (p4 : List UInt8) (p5 : List UInt8) (p6 : Int) (p7 : Int) (p8 : List UInt8) : Option ((List UInt8) × Int) := T33c F p0 p1 p2 p3 p4 p5 p6 p7 p8 some
theorem T33n (F : Nat) (p0 : List UInt8) (p1 : List UInt8) (p2 : List UInt8) (p3 : List UInt8) (p4 : List UInt8) (p5 : List UInt8) (p6 : Int) (p7 : Int) (p8 : List UInt8) {β : Type} (k : ((List UInt8) × Int) → Option β) : T33c F p0 p1 p2 p3 p4 p5 p6 p7 p8 k = (T33 F p0 p1 p2 p3 p4 p5 p6 p7 p8).bind k := by
  simp only [T33, T33c, Option.bind_assoc, cond_bind, Option.bind_some, elimS_bind]
@[reducible] def cA33 : List Sh := [(.pr .str (.pr .str (.pr .str (.pr .str (.pr .str .un))))), (.pr .str (.pr .i (.pr .i .un))), (.ro .u8)]
@[reducible] def cB33 : List Sh := [(.ro .u8), .i]
@[reducible] def cT33 : List TSh := []
@[reducible] def cU33 : List TSh := []
def ct33 (F : Nat) : Ct := mkC 0 cA33 cT33 cB33 cU33 (fun x y => T33 F x.1.1 x.1.2.1 x.1.2.2.1 x.1.2.2.2.1 x.1.2.2.2.2.1 x.2.1.1 x.2.1.2.1 x.2.1.2.2.1 x.2.2.1) (fun x y (z : (List UInt8) × Int) => ((z.1, z.2, ()), ()))
theorem eq33 (F : Nat) (x : dens cA33) (y : tdens cT33) : sev (E33 F) 0 [] (bodyOf Tryd.f33) [] (mkSt (rng 3) cA33 cT33 x y) (kFn (E33 F) 0 Tryd.f33.results.toList cB33 cU33 fun p q => some (p, q)) =
    T33c F x.1.1 x.1.2.1 x.1.2.2.1 x.1.2.2.2.1 x.1.2.2.2.2.1 x.2.1.1 x.2.1.2.1 x.2.1.2.2.1 x.2.2.1 (fun z => some ((z.1, z.2, ()), ())) := by kernel_rfl
theorem ok33 (F : Nat) : Sound Tryd.prog cfg 33 (ct33 F) :=
  mkC_ok (E := E33 F) (lp := []) (code := bodyOf Tryd.f33) Tryd.func33 rfl Tryd.ntmps33 rfl rfl cok (cts33 F) mixed trivial (by kernel_rfl) (fun x y k => T33c F x.1.1 x.1.2.1 x.1.2.2.1 x.1.2.2.2.1 x.1.2.2.2.2.1 x.2.1.1 x.2.1.2.1 x.2.1.2.2.1 x.2.2.1 k) (fun x y k => T33n F x.1.1 x.1.2.1 x.1.2.2.1 x.1.2.2.2.1 x.1.2.2.2.2.1 x.2.1.1 x.2.1.2.1 x.2.1.2.2.1 x.2.2.1 k) (eq33 F)
end Go.Proofs.YtjghgfohpihhfaaDoor
/- kinkeep/kinkeeplaw11.SealOpen: its twin, and that the call does what the twin says. Printed by a program. -/
namespace Go.Proofs.YtjghgfohpihhfaaDoor
open Go.Tw
set_option linter.unusedSimpArgs false
set_option linter.unusedVariables false
def ord10 : Nat → List (Tag × Nat)
  | _ => []
def al10 : Nat → Option Nat
  | _ => none
def E10 (F : Nat) : Ev := ⟨cfg, 55, ctOf [(16, ct16 F), (17, ct17 F), (22, ct22 F), (32, ct32 F), (33, ct33 F)], ord10, ctOf [], al10⟩
theorem cts10 (F : Nat) : CtsOk Tryd.prog (E10 F) := cts_of (l := [(16, ct16 F), (17, ct17 F), (22, ct22 F), (32, ct32 F), (33, ct33 F)]) (l' := []) rfl rfl ⟨⟨ok16 F, _, Tryd.func16, rfl, rfl⟩, ⟨⟨ok17 F, _, Tryd.func17, rfl, rfl⟩, ⟨⟨ok22 F, _, Tryd.func22, rfl, rfl⟩, ⟨⟨ok32 F, _, Tryd.func32, rfl, rfl⟩, ⟨⟨ok33 F, _, Tryd.func33, rfl, rfl⟩, trivial⟩⟩⟩⟩⟩ trivial
def T10c (F : Nat) (p0 : List UInt8) (p1 : List UInt8) (p2 : List UInt8) (p3 : List UInt8) (p4 : List UInt8) (p5 : List UInt8) (p6 : Int) (p7 : Int) (p8 : List UInt8) {β : Type} (k : Bool → Option β) : Option β :=
  (Option.bind (T16 F) fun z10 => (bif (!z10) then (Option.bind (T16 F) fun z11 => (k z11)) else (Option.bind (T17 F ([p8] : List (List UInt8))) fun z12 => (bif (!z12) then (Option.bind (T16 F) fun z13 => (k z13)) else (Option.bind (T22 F p0 p1 p2 p3 p4) fun z14 => (bif (!z14) then (Option.bind (T16 F) fun z15 => (k z15)) else (bif (decide ((100 : Int) < (p5.length : Int))) then (Option.bind (T16 F) fun z16 => (k z16)) else (Option.bind (T32 F p0 p1 p2 p3 p4 p5 p6 p7 p8) fun z17 => (Option.bind (T33 F p0 p1 p2 p3 p4 p5 p6 p7 p8) fun z18 => (bif (z17.1 == z18.1) then (k (z17.2 == z18.2)) else (k false)))))))))))
def T10 (F : Nat) (p0 : List UInt8) (p1 : List UInt8) (p2 : List UInt8) (p3 : List UInt8) (p4 : List UInt8) (p5 : List UInt8) (p6 : Int) (p7 : Int) (p8 : List UInt8) : Option (Bool) := T10c F p0 p1 p2 p3 p4 p5 p6 p7 p8 some
theorem T10n (F : Nat) (p0 : List UInt8) (p1 : List UInt8) (p2 : List UInt8) (p3 : List UInt8) (p4 : List UInt8) (p5 : List UInt8) (p6 : Int) (p7 : Int) (p8 : List UInt8) {β : Type} (k : Bool → Option β) : T10c F p0 p1 p2 p3 p4 p5 p6 p7 p8 k = (T10 F p0 p1 p2 p3 p4 p5 p6 p7 p8).bind k := by
  simp only [T10, T10c, Option.bind_assoc, cond_bind, Option.bind_some, elimS_bind]
@[reducible] def cA10 : List Sh := [(.pr .str (.pr .str (.pr .str (.pr .str (.pr .str .un))))), (.pr .str (.pr .i (.pr .i .un))), (.ro .u8)]
@[reducible] def cB10 : List Sh := [.bo]
@[reducible] def cT10 : List TSh := []
@[reducible] def cU10 : List TSh := []
def ct10 (F : Nat) : Ct := mkC 0 cA10 cT10 cB10 cU10 (fun x y => T10 F x.1.1 x.1.2.1 x.1.2.2.1 x.1.2.2.2.1 x.1.2.2.2.2.1 x.2.1.1 x.2.1.2.1 x.2.1.2.2.1 x.2.2.1) (fun x y (z : Bool) => ((z, ()), ()))
theorem eq10 (F : Nat) (x : dens cA10) (y : tdens cT10) : sev (E10 F) 0 [] (bodyOf Tryd.f10) [] (mkSt (rng 3) cA10 cT10 x y) (kFn (E10 F) 0 Tryd.f10.results.toList cB10 cU10 fun p q => some (p, q)) =
    T10c F x.1.1 x.1.2.1 x.1.2.2.1 x.1.2.2.2.1 x.1.2.2.2.2.1 x.2.1.1 x.2.1.2.1 x.2.1.2.2.1 x.2.2.1 (fun z => some ((z, ()), ())) := by kernel_rfl
theorem ok10 (F : Nat) : Sound Tryd.prog cfg 10 (ct10 F) :=
  mkC_ok (E := E10 F) (lp := []) (code := bodyOf Tryd.f10) Tryd.func10 rfl Tryd.ntmps10 rfl rfl cok (cts10 F) mixed trivial (by kernel_rfl) (fun x y k => T10c F x.1.1 x.1.2.1 x.1.2.2.1 x.1.2.2.2.1 x.1.2.2.2.2.1 x.2.1.1 x.2.1.2.1 x.2.1.2.2.1 x.2.2.1 k) (fun x y k => T10n F x.1.1 x.1.2.1 x.1.2.2.1 x.1.2.2.2.1 x.1.2.2.2.2.1 x.2.1.1 x.2.1.2.1 x.2.1.2.2.1 x.2.2.1 k) (eq10 F)
end Go.Proofs.YtjghgfohpihhfaaDoor
/- kinkeep/seal.Explain: its twin, and that the call does what the twin says. Printed by a program. -/
namespace Go.Proofs.YtjghgfohpihhfaaDoor
open Go.Tw
set_option linter.unusedSimpArgs false
set_option linter.unusedVariables false
end Go.Proofs.YtjghgfohpihhfaaDoor
/- kinkeep/kinkeeplaw11.SealWiths: its twin, and that the call does what the twin says. Printed by a program. -/
namespace Go.Proofs.YtjghgfohpihhfaaDoor
open Go.Tw
set_option linter.unusedSimpArgs false
set_option linter.unusedVariables false
end Go.Proofs.YtjghgfohpihhfaaDoor
/- kinkeep/kinkeeplaw11.SealSecret: its twin, and that the call does what the twin says. Printed by a program. -/
namespace Go.Proofs.YtjghgfohpihhfaaDoor
open Go.Tw
set_option linter.unusedSimpArgs false
set_option linter.unusedVariables false
end Go.Proofs.YtjghgfohpihhfaaDoor
/- kinkeep/kinkeeplaw11.SealBody: its twin, and that the call does what the twin says. Printed by a program. -/
namespace Go.Proofs.YtjghgfohpihhfaaDoor
open Go.Tw
set_option linter.unusedSimpArgs false
set_option linter.unusedVariables false
end Go.Proofs.YtjghgfohpihhfaaDoor
/- kinkeep/seal.Classes: its twin, and that the call does what the twin says. Printed by a program. -/
namespace Go.Proofs.YtjghgfohpihhfaaDoor
open Go.Tw
set_option linter.unusedSimpArgs false
set_option linter.unusedVariables false
end Go.Proofs.YtjghgfohpihhfaaDoor
/- kinkeep/kinkeeplaw11.SealClasses: its twin, and that the call does what the twin says. Printed by a program. -/
namespace Go.Proofs.YtjghgfohpihhfaaDoor
open Go.Tw
set_option linter.unusedSimpArgs false
set_option linter.unusedVariables false
end Go.Proofs.YtjghgfohpihhfaaDoor
/- kinkeep/kinkeeplaw11.SealClass: its twin, and that the call does what the twin says. Printed by a program. -/
namespace Go.Proofs.YtjghgfohpihhfaaDoor
open Go.Tw
set_option linter.unusedSimpArgs false
set_option linter.unusedVariables false
end Go.Proofs.YtjghgfohpihhfaaDoor
/- kinkeep/kinkeeplaw11.SealContent: its twin, and that the call does what the twin says. Printed by a program. -/
namespace Go.Proofs.YtjghgfohpihhfaaDoor
open Go.Tw
set_option linter.unusedSimpArgs false
set_option linter.unusedVariables false
end Go.Proofs.YtjghgfohpihhfaaDoor
