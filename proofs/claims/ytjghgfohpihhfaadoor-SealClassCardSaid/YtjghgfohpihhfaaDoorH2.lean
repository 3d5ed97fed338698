/- (*kinkeep/wire.Reader).number: its twin, and that the call does what the twin says. Printed by a program. -/
import Derived.Test.YtjghgfohpihhfaaDoorH1
namespace Go.Proofs.YtjghgfohpihhfaaDoor
open Go.Tw
set_option linter.unusedSimpArgs false
set_option linter.unusedVariables false
def ord90 : Nat → List (Tag × Nat)
  | 4 => [(.p, 0), (.p, 1), (.p, 2), (.r, 3), (.p, 4), (.p, 5), (.p, 6), (.r, 7), (.p, 8), (.p, 9)]
  | 6 => [(.p, 0), (.p, 1), (.p, 2), (.r, 3), (.p, 4), (.p, 5), (.p, 6), (.r, 7), (.p, 8), (.r, 9), (.p, 10)]
  | _ => []
def E90 (F : Nat) : Ev := ⟨cfg, 62, ctOf [], ord90, ctOf []⟩
theorem cts90 (F : Nat) : CtsOk Tryd.prog (E90 F) := cts_of (l := []) (l' := []) rfl rfl trivial trivial
def L90_2c (F : Nat) (y19 : List UInt8) (y14 : UInt64) (y15 : Int) (y16 : Int) {β : Type} (kA : (UInt64 × Int × Int) → Option β) (kO : Int → Option β) (kR : (UInt64 × Int × Int) → Option β) : Option β :=
  (bif (decide (y15 < (10 : Int))) then (bif (y16 == (y19.length : Int)) then (kR ((UInt64.ofNat 0), (3 : Int), y16)) else (Option.bind (inb y19.length y16) fun x23 => (Option.bind (y19[x23]?) fun x24 => (Option.bind (gnn (w64 ((7 : Int) * y15))) fun x25 => (bif (decide ((UInt8.ofNat 128) ≤ x24)) then (kA ((y14 ||| (shl64 ((x24 &&& (UInt8.ofNat 127)).toUInt64) x25)), (w64 (y15 + (1 : Int))), (w64 (y16 + (1 : Int))))) else (bif (decide ((0 : Int) < y15)) then (bif (x24 == (UInt8.ofNat 0)) then (kR ((UInt64.ofNat 0), (3 : Int), (w64 (y16 + (1 : Int))))) else (bif (y15 == (9 : Int)) then (bif (decide ((UInt8.ofNat 1) < x24)) then (kR ((UInt64.ofNat 0), (3 : Int), (w64 (y16 + (1 : Int))))) else (kR ((y14 ||| (shl64 ((x24 &&& (UInt8.ofNat 127)).toUInt64) x25)), (0 : Int), (w64 (y16 + (1 : Int)))))) else (kR ((y14 ||| (shl64 ((x24 &&& (UInt8.ofNat 127)).toUInt64) x25)), (0 : Int), (w64 (y16 + (1 : Int))))))) else (bif (y15 == (9 : Int)) then (bif (decide ((UInt8.ofNat 1) < x24)) then (kR ((UInt64.ofNat 0), (3 : Int), (w64 (y16 + (1 : Int))))) else (kR ((y14 ||| (shl64 ((x24 &&& (UInt8.ofNat 127)).toUInt64) x25)), (0 : Int), (w64 (y16 + (1 : Int)))))) else (kR ((y14 ||| (shl64 ((x24 &&& (UInt8.ofNat 127)).toUInt64) x25)), (0 : Int), (w64 (y16 + (1 : Int)))))))))))) else (kO y16))
def L90_2 (F : Nat) (y19 : List UInt8) (y14 : UInt64) (y15 : Int) (y16 : Int) : Option ((UInt64 × Int × Int) ⊕ ((Int) ⊕ (UInt64 × Int × Int))) := L90_2c F y19 y14 y15 y16 (fun s => some (.inl s)) (fun z => some (.inr (.inl z))) (fun z => some (.inr (.inr z)))
theorem L90_2n (F : Nat) (y19 : List UInt8) (y14 : UInt64) (y15 : Int) (y16 : Int) {β : Type} (kA : (UInt64 × Int × Int) → Option β) (kO : Int → Option β) (kR : (UInt64 × Int × Int) → Option β) : L90_2c F y19 y14 y15 y16 kA kO kR = (L90_2 F y19 y14 y15 y16).bind (elimS kA (elimS kO kR)) := by
  simp only [L90_2, L90_2c, Option.bind_assoc, cond_bind, Option.bind_some, elimS_l, elimS_r, elimS_bind]
@[reducible] def sA90_2 : List Sh := [(.pt 0 []), .u64, .i]
@[reducible] def sA190_2 : List Sh := []
@[reducible] def sA290_2 : List Sh := [.u64, .i]
@[reducible] def sT90_2 : List TSh := [.blk 82 (.pr (.rw 1) (.pr .i (.pr .i (.pr .i .un)))), .row 5 .u8]
@[reducible] def sT190_2 : List TSh := [.blk 82 (.pr (.rw 1) (.pr .i (.pr .i (.pr .i .un)))), .row 5 .u8]
@[reducible] def sT290_2 : List TSh := [.blk 82 (.pr (.rw 1) (.pr .i (.pr .i (.pr .i .un)))), .row 5 .u8]
def lc90_2 (F : Nat) : Lc := mkR [0, 2, 6] sA90_2 sT90_2 [] sA190_2 sT190_2 [2, 3] sA290_2 sT290_2 F (fun x y (s : UInt64 × Int × Int) => L90_2 F y.2.1 s.1 s.2.1 s.2.2) (fun x y => (x.2.1, x.2.2.1, y.1.2.1)) (fun x y (z : Int) => ((), (((), z, y.1.2.2.1, y.1.2.2.2.1, ()), y.2.1, ()))) (fun x y (z : UInt64 × Int × Int) => ((z.1, z.2.1, ()), (((), z.2.2, y.1.2.2.1, y.1.2.2.2.1, ()), y.2.1, ())))
theorem le90_2 (F : Nat) (x : dens sA90_2) (y : tdens sT90_2) (s : UInt64 × Int × Int) : sev (E90 F) 2 [] (cAt (bodyOf Tryd.f90) (0 :: 0 :: [1, 0, 1])) (0 :: 0 :: [1, 0, 1]) (mkSt [0, 2, 6] sA90_2 sT90_2 ((), s.1, s.2.1, ()) (((), s.2.2, y.1.2.2.1, y.1.2.2.2.1, ()), y.2.1, ())) (kLoop 2 [0, 2, 6] sA90_2 sT90_2 [] sA190_2 sT190_2 [2, 3] sA290_2 sT290_2 0 (fun x y => some (.inl (x, y))) (fun x y => some (.inr (.inl (x, y)))) (fun x y => some (.inr (.inr (x, y))))) =
    L90_2c (β := Full sA90_2 sT90_2 sA190_2 sT190_2 sA290_2 sT290_2) F y.2.1 s.1 s.2.1 s.2.2 (fun s => some (.inl (((), s.1, s.2.1, ()), (((), s.2.2, y.1.2.2.1, y.1.2.2.2.1, ()), y.2.1, ())))) (fun z => some (.inr (.inl ((), (((), z, y.1.2.2.1, y.1.2.2.2.1, ()), y.2.1, ()))))) (fun z => some (.inr (.inr ((z.1, z.2.1, ()), (((), z.2.2, y.1.2.2.1, y.1.2.2.2.1, ()), y.2.1, ()))))) := by kernel_rfl
theorem lo90_2 (F : Nat) : LcOk Tryd.prog (E90 F) 2 (lc90_2 F) (cAt (bodyOf Tryd.f90) [1, 0, 1]) :=
  mkR_ok (lp := []) (id := 0) (b := cAt (bodyOf Tryd.f90) (0 :: 0 :: [1, 0, 1])) cok (cts90 F) mixed trivial (by kernel_rfl) (by kernel_rfl) (fun x y s => ((), s.1, s.2.1, ())) (fun x y s => (((), s.2.2, y.1.2.2.1, y.1.2.2.2.1, ()), y.2.1, ())) (fun x y => rfl) (fun x y => rfl) (fun x y s kA kO kR => L90_2c F y.2.1 s.1 s.2.1 s.2.2 kA kO kR) (fun x y s kA kO kR => L90_2n F y.2.1 s.1 s.2.1 s.2.2 kA kO kR) (le90_2 F)
def T90c (F : Nat) (p0 : Int) (p3 : List UInt8) {β : Type} (k : (UInt64 × Int × Int) → Option β) : Option β :=
  (Option.bind (iter (fun s => L90_2 F p3 s.1 s.2.1 s.2.2) F ((UInt64.ofNat 0), (0 : Int), p0)) fun z26 => elimS (fun z26 => (k ((UInt64.ofNat 0), (3 : Int), z26))) (fun z26 => (k (z26.1, z26.2.1, z26.2.2))) z26)
def T90 (F : Nat) (p0 : Int) (p3 : List UInt8) : Option (UInt64 × Int × Int) := T90c F p0 p3 some
theorem T90n (F : Nat) (p0 : Int) (p3 : List UInt8) {β : Type} (k : (UInt64 × Int × Int) → Option β) : T90c F p0 p3 k = (T90 F p0 p3).bind k := by
  simp only [T90, T90c, Option.bind_assoc, cond_bind, Option.bind_some, elimS_bind]
@[reducible] def cA90 : List Sh := [(.pt 0 [])]
@[reducible] def cB90 : List Sh := [.u64, .i]
@[reducible] def cT90 : List TSh := [.blk 82 (.pr (.rw 1) (.pr .i (.pr .i (.pr .i .un)))), .row 5 .u8]
@[reducible] def cU90 : List TSh := [.blk 82 (.pr (.rw 1) (.pr .i (.pr .i (.pr .i .un)))), .row 5 .u8]
def ct90 (F : Nat) : Ct := mkC 2 cA90 cT90 cB90 cU90 (fun x y => T90 F y.1.2.1 y.2.1) (fun x y (z : UInt64 × Int × Int) => ((z.1, z.2.1, ()), (((), z.2.2, y.1.2.2.1, y.1.2.2.2.1, ()), y.2.1, ())))
theorem eq90 (F : Nat) (x : dens cA90) (y : tdens cT90) : sev (E90 F) 2 [([1, 0, 1], lc90_2 F)] (bodyOf Tryd.f90) [] (mkSt (rng 1) cA90 cT90 x y) (kFn (E90 F) 2 Tryd.f90.results.toList cB90 cU90 fun p q => some (p, q)) =
    T90c F y.1.2.1 y.2.1 (fun z => some ((z.1, z.2.1, ()), (((), z.2.2, y.1.2.2.1, y.1.2.2.2.1, ()), y.2.1, ()))) := by kernel_rfl
theorem ok90 (F : Nat) : Sound Tryd.prog cfg 90 (ct90 F) :=
  mkC_ok (E := E90 F) (lp := [([1, 0, 1], lc90_2 F)]) (code := bodyOf Tryd.f90) Tryd.func90 rfl Tryd.ntmps90 rfl rfl cok (cts90 F) mixed ⟨lo90_2 F, trivial⟩ (by kernel_rfl) (fun x y k => T90c F y.1.2.1 y.2.1 k) (fun x y k => T90n F y.1.2.1 y.2.1 k) (eq90 F)
end Go.Proofs.YtjghgfohpihhfaaDoor
/- (*kinkeep/wire.Reader).limited: its twin, and that the call does what the twin says. Printed by a program. -/
namespace Go.Proofs.YtjghgfohpihhfaaDoor
open Go.Tw
set_option linter.unusedSimpArgs false
set_option linter.unusedVariables false
def ord75 : Nat → List (Tag × Nat)
  | _ => []
def E75 (F : Nat) : Ev := ⟨cfg, 23, ctOf [(90, ct90 F)], ord75, ctOf []⟩
theorem cts75 (F : Nat) : CtsOk Tryd.prog (E75 F) := cts_of (l := [(90, ct90 F)]) (l' := []) rfl rfl ⟨⟨ok90 F, _, Tryd.func90, rfl, rfl⟩, trivial⟩ trivial
def T75c (F : Nat) (p0 : Int) (p1 : Int) (p4 : List UInt8) {β : Type} (k : (Int × Int × Int) → Option β) : Option β :=
  (Option.bind (T90 F p1 p4) fun z2 => (bif (z2.2.1 != (0 : Int)) then (k ((0 : Int), z2.2.1, z2.2.2)) else (bif (decide ((UInt64.ofInt (if p0 < (0 : Int) then (0 : Int) else p0)) < z2.1)) then (k ((0 : Int), (2 : Int), z2.2.2)) else (k ((w64 (z2.1.toNat : Int)), (0 : Int), z2.2.2)))))
def T75 (F : Nat) (p0 : Int) (p1 : Int) (p4 : List UInt8) : Option (Int × Int × Int) := T75c F p0 p1 p4 some
theorem T75n (F : Nat) (p0 : Int) (p1 : Int) (p4 : List UInt8) {β : Type} (k : (Int × Int × Int) → Option β) : T75c F p0 p1 p4 k = (T75 F p0 p1 p4).bind k := by
  simp only [T75, T75c, Option.bind_assoc, cond_bind, Option.bind_some, elimS_bind]
@[reducible] def cA75 : List Sh := [(.pt 0 []), .i]
@[reducible] def cB75 : List Sh := [.i, .i]
@[reducible] def cT75 : List TSh := [.blk 82 (.pr (.rw 1) (.pr .i (.pr .i (.pr .i .un)))), .row 5 .u8]
@[reducible] def cU75 : List TSh := [.blk 82 (.pr (.rw 1) (.pr .i (.pr .i (.pr .i .un)))), .row 5 .u8]
def ct75 (F : Nat) : Ct := mkC 2 cA75 cT75 cB75 cU75 (fun x y => T75 F x.2.1 y.1.2.1 y.2.1) (fun x y (z : Int × Int × Int) => ((z.1, z.2.1, ()), (((), z.2.2, y.1.2.2.1, y.1.2.2.2.1, ()), y.2.1, ())))
theorem eq75 (F : Nat) (x : dens cA75) (y : tdens cT75) : sev (E75 F) 2 [] (bodyOf Tryd.f75) [] (mkSt (rng 2) cA75 cT75 x y) (kFn (E75 F) 2 Tryd.f75.results.toList cB75 cU75 fun p q => some (p, q)) =
    T75c F x.2.1 y.1.2.1 y.2.1 (fun z => some ((z.1, z.2.1, ()), (((), z.2.2, y.1.2.2.1, y.1.2.2.2.1, ()), y.2.1, ()))) := by kernel_rfl
theorem ok75 (F : Nat) : Sound Tryd.prog cfg 75 (ct75 F) :=
  mkC_ok (E := E75 F) (lp := []) (code := bodyOf Tryd.f75) Tryd.func75 rfl Tryd.ntmps75 rfl rfl cok (cts75 F) mixed trivial (by kernel_rfl) (fun x y k => T75c F x.2.1 y.1.2.1 y.2.1 k) (fun x y k => T75n F x.2.1 y.1.2.1 y.2.1 k) (eq75 F)
end Go.Proofs.YtjghgfohpihhfaaDoor
/- (*kinkeep/wire.Reader).take: its twin, and that the call does what the twin says. Printed by a program. -/
namespace Go.Proofs.YtjghgfohpihhfaaDoor
open Go.Tw
set_option linter.unusedSimpArgs false
set_option linter.unusedVariables false
def ord76 : Nat → List (Tag × Nat)
  | 1 => [(.p, 0), (.p, 1), (.p, 2), (.p, 3), (.r, 4), (.p, 5), (.p, 6), (.p, 7), (.p, 8), (.r, 9), (.p, 10), (.p, 11)]
  | 3 => [(.p, 0), (.p, 1), (.p, 2), (.r, 3), (.p, 4), (.p, 5), (.p, 6), (.r, 7), (.p, 8), (.p, 9), (.p, 10), (.r, 11), (.p, 12), (.p, 13), (.p, 14), (.p, 15)]
  | _ => []
def E76 (F : Nat) : Ev := ⟨cfg, 43, ctOf [], ord76, ctOf []⟩
theorem cts76 (F : Nat) : CtsOk Tryd.prog (E76 F) := cts_of (l := []) (l' := []) rfl rfl trivial trivial
def T76c (F : Nat) (p0 : Int) (p1 : Int) (p4 : List UInt8) {β : Type} (k : ((Nat × Nat) × Int × Int) → Option β) : Option β :=
  (bif (decide ((w64 ((p4.length : Int) - p1)) < p0)) then (k ((0, 0), (3 : Int), p1)) else (Option.bind (gslb p4.length p1 (w64 (p1 + p0))) fun x2 => (k ((x2.1, x2.2), (0 : Int), (w64 (p1 + p0))))))
def T76 (F : Nat) (p0 : Int) (p1 : Int) (p4 : List UInt8) : Option ((Nat × Nat) × Int × Int) := T76c F p0 p1 p4 some
theorem T76n (F : Nat) (p0 : Int) (p1 : Int) (p4 : List UInt8) {β : Type} (k : ((Nat × Nat) × Int × Int) → Option β) : T76c F p0 p1 p4 k = (T76 F p0 p1 p4).bind k := by
  simp only [T76, T76c, Option.bind_assoc, cond_bind, Option.bind_some, elimS_bind]
@[reducible] def cA76 : List Sh := [(.pt 0 []), .i]
@[reducible] def cB76 : List Sh := [(.rp 1), .i]
@[reducible] def cT76 : List TSh := [.blk 82 (.pr (.rw 1) (.pr .i (.pr .i (.pr .i .un)))), .row 5 .u8]
@[reducible] def cU76 : List TSh := [.blk 82 (.pr (.rw 1) (.pr .i (.pr .i (.pr .i .un)))), .row 5 .u8]
def ct76 (F : Nat) : Ct := mkC 2 cA76 cT76 cB76 cU76 (fun x y => T76 F x.2.1 y.1.2.1 y.2.1) (fun x y (z : (Nat × Nat) × Int × Int) => ((z.1, z.2.1, ()), (((), z.2.2, y.1.2.2.1, y.1.2.2.2.1, ()), y.2.1, ())))
theorem eq76 (F : Nat) (x : dens cA76) (y : tdens cT76) : sev (E76 F) 2 [] (bodyOf Tryd.f76) [] (mkSt (rng 2) cA76 cT76 x y) (kFn (E76 F) 2 Tryd.f76.results.toList cB76 cU76 fun p q => some (p, q)) =
    T76c F x.2.1 y.1.2.1 y.2.1 (fun z => some ((z.1, z.2.1, ()), (((), z.2.2, y.1.2.2.1, y.1.2.2.2.1, ()), y.2.1, ()))) := by kernel_rfl
theorem ok76 (F : Nat) : Sound Tryd.prog cfg 76 (ct76 F) :=
  mkC_ok (E := E76 F) (lp := []) (code := bodyOf Tryd.f76) Tryd.func76 rfl Tryd.ntmps76 rfl rfl cok (cts76 F) mixed trivial (by kernel_rfl) (fun x y k => T76c F x.2.1 y.1.2.1 y.2.1 k) (fun x y k => T76n F x.2.1 y.1.2.1 y.2.1 k) (eq76 F)
end Go.Proofs.YtjghgfohpihhfaaDoor
/- (*kinkeep/wire.Reader).block: its twin, and that the call does what the twin says. Printed by a program. -/
namespace Go.Proofs.YtjghgfohpihhfaaDoor
open Go.Tw
set_option linter.unusedSimpArgs false
set_option linter.unusedVariables false
def ord63 : Nat → List (Tag × Nat)
  | _ => []
def E63 (F : Nat) : Ev := ⟨cfg, 22, ctOf [(75, ct75 F), (76, ct76 F)], ord63, ctOf []⟩
theorem cts63 (F : Nat) : CtsOk Tryd.prog (E63 F) := cts_of (l := [(75, ct75 F), (76, ct76 F)]) (l' := []) rfl rfl ⟨⟨ok75 F, _, Tryd.func75, rfl, rfl⟩, ⟨⟨ok76 F, _, Tryd.func76, rfl, rfl⟩, trivial⟩⟩ trivial
def T63c (F : Nat) (p0 : Int) (p1 : Int) (p4 : List UInt8) {β : Type} (k : ((Nat × Nat) × Int × Int) → Option β) : Option β :=
  (Option.bind (T75 F p0 p1 p4) fun z3 => (bif (z3.2.1 != (0 : Int)) then (k ((0, 0), z3.2.1, z3.2.2)) else (Option.bind (T76 F z3.1 z3.2.2 p4) fun z4 => (k ((z4.1.1, z4.1.2), z4.2.1, z4.2.2)))))
def T63 (F : Nat) (p0 : Int) (p1 : Int) (p4 : List UInt8) : Option ((Nat × Nat) × Int × Int) := T63c F p0 p1 p4 some
theorem T63n (F : Nat) (p0 : Int) (p1 : Int) (p4 : List UInt8) {β : Type} (k : ((Nat × Nat) × Int × Int) → Option β) : T63c F p0 p1 p4 k = (T63 F p0 p1 p4).bind k := by
  simp only [T63, T63c, Option.bind_assoc, cond_bind, Option.bind_some, elimS_bind]
@[reducible] def cA63 : List Sh := [(.pt 0 []), .i]
@[reducible] def cB63 : List Sh := [(.rp 1), .i]
@[reducible] def cT63 : List TSh := [.blk 82 (.pr (.rw 1) (.pr .i (.pr .i (.pr .i .un)))), .row 5 .u8]
@[reducible] def cU63 : List TSh := [.blk 82 (.pr (.rw 1) (.pr .i (.pr .i (.pr .i .un)))), .row 5 .u8]
def ct63 (F : Nat) : Ct := mkC 2 cA63 cT63 cB63 cU63 (fun x y => T63 F x.2.1 y.1.2.1 y.2.1) (fun x y (z : (Nat × Nat) × Int × Int) => ((z.1, z.2.1, ()), (((), z.2.2, y.1.2.2.1, y.1.2.2.2.1, ()), y.2.1, ())))
theorem eq63 (F : Nat) (x : dens cA63) (y : tdens cT63) : sev (E63 F) 2 [] (bodyOf Tryd.f63) [] (mkSt (rng 2) cA63 cT63 x y) (kFn (E63 F) 2 Tryd.f63.results.toList cB63 cU63 fun p q => some (p, q)) =
    T63c F x.2.1 y.1.2.1 y.2.1 (fun z => some ((z.1, z.2.1, ()), (((), z.2.2, y.1.2.2.1, y.1.2.2.2.1, ()), y.2.1, ()))) := by kernel_rfl
theorem ok63 (F : Nat) : Sound Tryd.prog cfg 63 (ct63 F) :=
  mkC_ok (E := E63 F) (lp := []) (code := bodyOf Tryd.f63) Tryd.func63 rfl Tryd.ntmps63 rfl rfl cok (cts63 F) mixed trivial (by kernel_rfl) (fun x y k => T63c F x.2.1 y.1.2.1 y.2.1 k) (fun x y k => T63n F x.2.1 y.1.2.1 y.2.1 k) (eq63 F)
end Go.Proofs.YtjghgfohpihhfaaDoor
/- (*kinkeep/wire.Reader).Bytes$1: its twin, and that the call does what the twin says. Printed by a program. -/
namespace Go.Proofs.YtjghgfohpihhfaaDoor
open Go.Tw
set_option linter.unusedSimpArgs false
set_option linter.unusedVariables false
def ord62 : Nat → List (Tag × Nat)
  | _ => []
def E62 (F : Nat) : Ev := ⟨cfg, 15, ctOf [(63, ct63 F)], ord62, ctOf []⟩
theorem cts62 (F : Nat) : CtsOk Tryd.prog (E62 F) := cts_of (l := [(63, ct63 F)]) (l' := []) rfl rfl ⟨⟨ok63 F, _, Tryd.func63, rfl, rfl⟩, trivial⟩ trivial
def T62c (F : Nat) (p0 : Int) (p1 : Int) (p4 : List UInt8) {β : Type} (k : (Int × Int × (List UInt8)) → Option β) : Option β :=
  (Option.bind (T63 F p0 p1 p4) fun z3 => (Option.bind (gapp ([] : List UInt8) ((p4.drop z3.1.1).take (z3.1.2 - z3.1.1))) fun x4 => (k (z3.2.1, z3.2.2, x4))))
def T62 (F : Nat) (p0 : Int) (p1 : Int) (p4 : List UInt8) : Option (Int × Int × (List UInt8)) := T62c F p0 p1 p4 some
theorem T62n (F : Nat) (p0 : Int) (p1 : Int) (p4 : List UInt8) {β : Type} (k : (Int × Int × (List UInt8)) → Option β) : T62c F p0 p1 p4 k = (T62 F p0 p1 p4).bind k := by
  simp only [T62, T62c, Option.bind_assoc, cond_bind, Option.bind_some, elimS_bind]
@[reducible] def cA62 : List Sh := [(.pt 0 []), (.re .i)]
@[reducible] def cB62 : List Sh := [(.rw 3), .i]
@[reducible] def cT62 : List TSh := [.blk 67 (.pt 1 []), .blk 82 (.pr (.rw 2) (.pr .i (.pr .i (.pr .i .un)))), .row 5 .u8]
@[reducible] def cU62 : List TSh := [.blk 67 (.pt 1 []), .blk 82 (.pr (.rw 2) (.pr .i (.pr .i (.pr .i .un)))), .row 5 .u8, .row 5 .u8]
def ct62 (F : Nat) : Ct := mkC 3 cA62 cT62 cB62 cU62 (fun x y => T62 F x.2.1 y.2.1.2.1 y.2.2.1) (fun x y (z : Int × Int × (List UInt8)) => (((), z.1, ()), ((), ((), z.2.1, y.2.1.2.2.1, y.2.1.2.2.2.1, ()), y.2.2.1, z.2.2, ())))
theorem eq62 (F : Nat) (x : dens cA62) (y : tdens cT62) : sev (E62 F) 3 [] (bodyOf Tryd.f62) [] (mkSt (rng 2) cA62 cT62 x y) (kFn (E62 F) 3 Tryd.f62.results.toList cB62 cU62 fun p q => some (p, q)) =
    T62c F x.2.1 y.2.1.2.1 y.2.2.1 (fun z => some (((), z.1, ()), ((), ((), z.2.1, y.2.1.2.2.1, y.2.1.2.2.2.1, ()), y.2.2.1, z.2.2, ()))) := by kernel_rfl
theorem ok62 (F : Nat) : Sound Tryd.prog cfg 62 (ct62 F) :=
  mkC_ok (E := E62 F) (lp := []) (code := bodyOf Tryd.f62) Tryd.func62 rfl Tryd.ntmps62 rfl rfl cok (cts62 F) mixed trivial (by kernel_rfl) (fun x y k => T62c F x.2.1 y.2.1.2.1 y.2.2.1 k) (fun x y k => T62n F x.2.1 y.2.1.2.1 y.2.2.1 k) (eq62 F)
end Go.Proofs.YtjghgfohpihhfaaDoor
/- kinkeep/wire.readValue[[]byte]$1: its twin, and that the call does what the twin says. Printed by a program. -/
namespace Go.Proofs.YtjghgfohpihhfaaDoor
open Go.Tw
set_option linter.unusedSimpArgs false
set_option linter.unusedVariables false
def ord74 : Nat → List (Tag × Nat)
  | _ => []
def E74 (F : Nat) : Ev := ⟨cfg, 18, ctOf [], ord74, ctOf []⟩
theorem cts74 (F : Nat) : CtsOk Tryd.prog (E74 F) := cts_of (l := []) (l' := []) rfl rfl trivial trivial
def T74c (F : Nat) (p0 : Int) (p1 : Int) (p3 : Int) (p4 : List UInt8) {β : Type} (k : ((Nat × Nat) × Int) → Option β) : Option β :=
  (bif (p3 != (0 : Int)) then (k ((0, 0), p0)) else (k ((0, p4.length), p1)))
def T74 (F : Nat) (p0 : Int) (p1 : Int) (p3 : Int) (p4 : List UInt8) : Option ((Nat × Nat) × Int) := T74c F p0 p1 p3 p4 some
theorem T74n (F : Nat) (p0 : Int) (p1 : Int) (p3 : Int) (p4 : List UInt8) {β : Type} (k : ((Nat × Nat) × Int) → Option β) : T74c F p0 p1 p3 p4 k = (T74 F p0 p1 p3 p4).bind k := by
  simp only [T74, T74c, Option.bind_assoc, cond_bind, Option.bind_some, elimS_bind]
@[reducible] def cA74 : List Sh := [(.re .i), (.pt 0 []), (.pt 1 [])]
@[reducible] def cB74 : List Sh := []
@[reducible] def cT74 : List TSh := [.blk 67 (.pt 2 []), .blk 27 (.rw 3), .blk 82 (.pr (.rw 4) (.pr .i (.pr .i (.pr .i .un)))), .row 5 .u8, .row 5 .u8]
@[reducible] def cU74 : List TSh := [.blk 67 (.pt 2 []), .blk 27 (.rp 3), .blk 82 (.pr (.rw 4) (.pr .i (.pr .i (.pr .i .un)))), .row 5 .u8, .row 5 .u8]
def ct74 (F : Nat) : Ct := mkC 5 cA74 cT74 cB74 cU74 (fun x y => T74 F x.1 y.2.2.1.2.1 y.2.2.1.2.2.2.1 y.2.2.2.1) (fun x y (z : (Nat × Nat) × Int) => ((), ((), z.1, ((), z.2, x.1, y.2.2.1.2.2.2.1, ()), y.2.2.2.1, y.2.2.2.2.1, ())))
theorem eq74 (F : Nat) (x : dens cA74) (y : tdens cT74) : sev (E74 F) 5 [] (bodyOf Tryd.f74) [] (mkSt (rng 3) cA74 cT74 x y) (kFn (E74 F) 5 Tryd.f74.results.toList cB74 cU74 fun p q => some (p, q)) =
    T74c F x.1 y.2.2.1.2.1 y.2.2.1.2.2.2.1 y.2.2.2.1 (fun z => some ((), ((), z.1, ((), z.2, x.1, y.2.2.1.2.2.2.1, ()), y.2.2.2.1, y.2.2.2.2.1, ()))) := by kernel_rfl
theorem ok74 (F : Nat) : Sound Tryd.prog cfg 74 (ct74 F) :=
  mkC_ok (E := E74 F) (lp := []) (code := bodyOf Tryd.f74) Tryd.func74 rfl Tryd.ntmps74 rfl rfl cok (cts74 F) mixed trivial (by kernel_rfl) (fun x y k => T74c F x.1 y.2.2.1.2.1 y.2.2.1.2.2.2.1 y.2.2.2.1 k) (fun x y k => T74n F x.1 y.2.2.1.2.1 y.2.2.1.2.2.2.1 y.2.2.2.1 k) (eq74 F)
theorem okd74 (F : Nat) : SoundK Tryd.prog cfg true 74 (ct74 F) :=
  mkC_okK (E := E74 F) true (fun _ _ => rfl) (lp := []) (code := bodyOf Tryd.f74) Tryd.func74 rfl Tryd.ntmps74 rfl rfl cok (cts74 F) mixed trivial (by kernel_rfl) (fun x y k => T74c F x.1 y.2.2.1.2.1 y.2.2.1.2.2.2.1 y.2.2.2.1 k) (fun x y k => T74n F x.1 y.2.2.1.2.1 y.2.2.1.2.2.2.1 y.2.2.2.1 k) (eq74 F)
end Go.Proofs.YtjghgfohpihhfaaDoor
/- kinkeep/wire.readValue[[]byte]: its twin, and that the call does what the twin says. Printed by a program. -/
namespace Go.Proofs.YtjghgfohpihhfaaDoor
open Go.Tw
set_option linter.unusedSimpArgs false
set_option linter.unusedVariables false
def ord61 : Nat → List (Tag × Nat)
  | 5 => [(.c, 0), (.p, 1), (.w, 2), (.p, 3), (.p, 4), (.p, 5), (.w, 6), (.p, 7), (.p, 8), (.w, 9)]
  | _ => []
def E61 (F : Nat) : Ev := ⟨cfg, 26, ctOf [(62, ct62 F)], ord61, ctOf [(74, ct74 F)]⟩
theorem cts61 (F : Nat) : CtsOk Tryd.prog (E61 F) := cts_of (l := [(62, ct62 F)]) (l' := [(74, ct74 F)]) rfl rfl ⟨⟨ok62 F, _, Tryd.func62, rfl, rfl⟩, trivial⟩ ⟨⟨okd74 F, _, Tryd.func74, rfl, rfl⟩, trivial⟩
def T61c (F : Nat) (p0 : Int) (p1 : Int) (p2 : Int) (p3 : Int) (p4 : List UInt8) {β : Type} (k : ((List UInt8) × Int × Int × Int) → Option β) : Option β :=
  (bif (p2 != (0 : Int)) then (k (([] : List UInt8), p0, p1, p2)) else (Option.bind (T62 F p3 p0 p4) fun z3 => (Option.bind (T74 F p0 z3.2.1 z3.1 z3.2.2) fun z4 => (k (((z3.2.2.drop z4.1.1).take (z4.1.2 - z4.1.1)), z4.2, p0, z3.1)))))
def T61 (F : Nat) (p0 : Int) (p1 : Int) (p2 : Int) (p3 : Int) (p4 : List UInt8) : Option ((List UInt8) × Int × Int × Int) := T61c F p0 p1 p2 p3 p4 some
theorem T61n (F : Nat) (p0 : Int) (p1 : Int) (p2 : Int) (p3 : Int) (p4 : List UInt8) {β : Type} (k : ((List UInt8) × Int × Int × Int) → Option β) : T61c F p0 p1 p2 p3 p4 k = (T61 F p0 p1 p2 p3 p4).bind k := by
  simp only [T61, T61c, Option.bind_assoc, cond_bind, Option.bind_some, elimS_bind]
@[reducible] def cA61 : List Sh := [(.pt 0 []), (.fn 62 .un (.pr (.pt 1 []) (.pr (.pt 2 []) .un)))]
@[reducible] def cB61 : List Sh := [(.ro .u8)]
@[reducible] def cT61 : List TSh := [.blk 82 (.pr (.rw 3) (.pr .i (.pr .i (.pr .i .un)))), .blk 67 (.pt 0 []), .blk 3 .i, .row 5 .u8]
@[reducible] def cU61 : List TSh := [.blk 82 (.pr (.rw 3) (.pr .i (.pr .i (.pr .i .un)))), .blk 67 (.pt 0 []), .blk 3 .i, .row 5 .u8]
def ct61 (F : Nat) : Ct := mkC 4 cA61 cT61 cB61 cU61 (fun x y => T61 F y.1.2.1 y.1.2.2.1 y.1.2.2.2.1 y.2.2.1 y.2.2.2.1) (fun x y (z : (List UInt8) × Int × Int × Int) => ((z.1, ()), (((), z.2.1, z.2.2.1, z.2.2.2, ()), (), y.2.2.1, y.2.2.2.1, ())))
theorem eq61 (F : Nat) (x : dens cA61) (y : tdens cT61) : sev (E61 F) 4 [] (bodyOf Tryd.f61) [] (mkSt (rng 2) cA61 cT61 x y) (kFn (E61 F) 4 Tryd.f61.results.toList cB61 cU61 fun p q => some (p, q)) =
    T61c F y.1.2.1 y.1.2.2.1 y.1.2.2.2.1 y.2.2.1 y.2.2.2.1 (fun z => some ((z.1, ()), (((), z.2.1, z.2.2.1, z.2.2.2, ()), (), y.2.2.1, y.2.2.2.1, ()))) := by kernel_rfl
theorem ok61 (F : Nat) : Sound Tryd.prog cfg 61 (ct61 F) :=
  mkC_ok (E := E61 F) (lp := []) (code := bodyOf Tryd.f61) Tryd.func61 rfl Tryd.ntmps61 rfl rfl cok (cts61 F) mixed trivial (by kernel_rfl) (fun x y k => T61c F y.1.2.1 y.1.2.2.1 y.1.2.2.2.1 y.2.2.1 y.2.2.2.1 k) (fun x y k => T61n F y.1.2.1 y.1.2.2.1 y.1.2.2.2.1 y.2.2.1 y.2.2.2.1 k) (eq61 F)
end Go.Proofs.YtjghgfohpihhfaaDoor
/- (*kinkeep/wire.Reader).Bytes: its twin, and that the call does what the twin says. Printed by a program. -/
namespace Go.Proofs.YtjghgfohpihhfaaDoor
open Go.Tw
set_option linter.unusedSimpArgs false
set_option linter.unusedVariables false
def ord47 : Nat → List (Tag × Nat)
  | _ => []
def E47 (F : Nat) : Ev := ⟨cfg, 8, ctOf [(61, ct61 F)], ord47, ctOf []⟩
theorem cts47 (F : Nat) : CtsOk Tryd.prog (E47 F) := cts_of (l := [(61, ct61 F)]) (l' := []) rfl rfl ⟨⟨ok61 F, _, Tryd.func61, rfl, rfl⟩, trivial⟩ trivial
def T47c (F : Nat) (p0 : Int) (p1 : Int) (p2 : Int) (p3 : Int) (p4 : List UInt8) {β : Type} (k : ((List UInt8) × Int × Int × Int) → Option β) : Option β :=
  (Option.bind (T61 F p1 p2 p3 p0 p4) fun z2 => (k (z2.1, z2.2.1, z2.2.2.1, z2.2.2.2)))
def T47 (F : Nat) (p0 : Int) (p1 : Int) (p2 : Int) (p3 : Int) (p4 : List UInt8) : Option ((List UInt8) × Int × Int × Int) := T47c F p0 p1 p2 p3 p4 some
theorem T47n (F : Nat) (p0 : Int) (p1 : Int) (p2 : Int) (p3 : Int) (p4 : List UInt8) {β : Type} (k : ((List UInt8) × Int × Int × Int) → Option β) : T47c F p0 p1 p2 p3 p4 k = (T47 F p0 p1 p2 p3 p4).bind k := by
  simp only [T47, T47c, Option.bind_assoc, cond_bind, Option.bind_some, elimS_bind]
@[reducible] def cA47 : List Sh := [(.pt 0 []), .i]
@[reducible] def cB47 : List Sh := [(.ro .u8)]
@[reducible] def cT47 : List TSh := [.blk 82 (.pr (.rw 1) (.pr .i (.pr .i (.pr .i .un)))), .row 5 .u8]
@[reducible] def cU47 : List TSh := [.blk 82 (.pr (.rw 1) (.pr .i (.pr .i (.pr .i .un)))), .row 5 .u8]
def ct47 (F : Nat) : Ct := mkC 2 cA47 cT47 cB47 cU47 (fun x y => T47 F x.2.1 y.1.2.1 y.1.2.2.1 y.1.2.2.2.1 y.2.1) (fun x y (z : (List UInt8) × Int × Int × Int) => ((z.1, ()), (((), z.2.1, z.2.2.1, z.2.2.2, ()), y.2.1, ())))
theorem eq47 (F : Nat) (x : dens cA47) (y : tdens cT47) : sev (E47 F) 2 [] (bodyOf Tryd.f47) [] (mkSt (rng 2) cA47 cT47 x y) (kFn (E47 F) 2 Tryd.f47.results.toList cB47 cU47 fun p q => some (p, q)) =
    T47c F x.2.1 y.1.2.1 y.1.2.2.1 y.1.2.2.2.1 y.2.1 (fun z => some ((z.1, ()), (((), z.2.1, z.2.2.1, z.2.2.2, ()), y.2.1, ()))) := by kernel_rfl
theorem ok47 (F : Nat) : Sound Tryd.prog cfg 47 (ct47 F) :=
  mkC_ok (E := E47 F) (lp := []) (code := bodyOf Tryd.f47) Tryd.func47 rfl Tryd.ntmps47 rfl rfl cok (cts47 F) mixed trivial (by kernel_rfl) (fun x y k => T47c F x.2.1 y.1.2.1 y.1.2.2.1 y.1.2.2.2.1 y.2.1 k) (fun x y k => T47n F x.2.1 y.1.2.1 y.1.2.2.1 y.1.2.2.2.1 y.2.1 k) (eq47 F)
end Go.Proofs.YtjghgfohpihhfaaDoor
/- (*kinkeep/wire.Reader).Left: its twin, and that the call does what the twin says. Printed by a program. -/
namespace Go.Proofs.YtjghgfohpihhfaaDoor
open Go.Tw
set_option linter.unusedSimpArgs false
set_option linter.unusedVariables false
def ord48 : Nat → List (Tag × Nat)
  | 1 => [(.p, 0), (.p, 1), (.p, 2), (.r, 3), (.p, 4), (.p, 5), (.p, 6), (.p, 7), (.r, 8), (.p, 9), (.p, 10)]
  | _ => []
def E48 (F : Nat) : Ev := ⟨cfg, 13, ctOf [], ord48, ctOf []⟩
theorem cts48 (F : Nat) : CtsOk Tryd.prog (E48 F) := cts_of (l := []) (l' := []) rfl rfl trivial trivial
def T48c (F : Nat) (p0 : Int) (p3 : List UInt8) {β : Type} (k : Int → Option β) : Option β :=
  (k (w64 ((p3.length : Int) - p0)))
def T48 (F : Nat) (p0 : Int) (p3 : List UInt8) : Option (Int) := T48c F p0 p3 some
theorem T48n (F : Nat) (p0 : Int) (p3 : List UInt8) {β : Type} (k : Int → Option β) : T48c F p0 p3 k = (T48 F p0 p3).bind k := by
  simp only [T48, T48c, Option.bind_assoc, cond_bind, Option.bind_some, elimS_bind]
@[reducible] def cA48 : List Sh := [(.pt 0 [])]
@[reducible] def cB48 : List Sh := [.i]
@[reducible] def cT48 : List TSh := [.blk 82 (.pr (.rw 1) (.pr .i (.pr .i (.pr .i .un)))), .row 5 .u8]
@[reducible] def cU48 : List TSh := [.blk 82 (.pr (.rw 1) (.pr .i (.pr .i (.pr .i .un)))), .row 5 .u8]
def ct48 (F : Nat) : Ct := mkC 2 cA48 cT48 cB48 cU48 (fun x y => T48 F y.1.2.1 y.2.1) (fun x y (z : Int) => ((z, ()), (((), y.1.2.1, y.1.2.2.1, y.1.2.2.2.1, ()), y.2.1, ())))
theorem eq48 (F : Nat) (x : dens cA48) (y : tdens cT48) : sev (E48 F) 2 [] (bodyOf Tryd.f48) [] (mkSt (rng 1) cA48 cT48 x y) (kFn (E48 F) 2 Tryd.f48.results.toList cB48 cU48 fun p q => some (p, q)) =
    T48c F y.1.2.1 y.2.1 (fun z => some ((z, ()), (((), y.1.2.1, y.1.2.2.1, y.1.2.2.2.1, ()), y.2.1, ()))) := by kernel_rfl
theorem ok48 (F : Nat) : Sound Tryd.prog cfg 48 (ct48 F) :=
  mkC_ok (E := E48 F) (lp := []) (code := bodyOf Tryd.f48) Tryd.func48 rfl Tryd.ntmps48 rfl rfl cok (cts48 F) mixed trivial (by kernel_rfl) (fun x y k => T48c F y.1.2.1 y.2.1 k) (fun x y k => T48n F y.1.2.1 y.2.1 k) (eq48 F)
end Go.Proofs.YtjghgfohpihhfaaDoor
/- kinkeep/seal.Content: its twin, and that the call does what the twin says. Printed by a program. -/
namespace Go.Proofs.YtjghgfohpihhfaaDoor
open Go.Tw
set_option linter.unusedSimpArgs false
set_option linter.unusedVariables false
def ord20 : Nat → List (Tag × Nat)
  | _ => []
def E20 (F : Nat) : Ev := ⟨cfg, 56, ctOf [(46, ct46 F), (47, ct47 F), (48, ct48 F), (14, ct14 F)], ord20, ctOf []⟩
theorem cts20 (F : Nat) : CtsOk Tryd.prog (E20 F) := cts_of (l := [(46, ct46 F), (47, ct47 F), (48, ct48 F), (14, ct14 F)]) (l' := []) rfl rfl ⟨⟨ok46 F, _, Tryd.func46, rfl, rfl⟩, ⟨⟨ok47 F, _, Tryd.func47, rfl, rfl⟩, ⟨⟨ok48 F, _, Tryd.func48, rfl, rfl⟩, ⟨⟨ok14 F, _, Tryd.func14, rfl, rfl⟩, trivial⟩⟩⟩⟩ trivial
def L20_2c (F : Nat) (y27 : List UInt8) (y28 : Int) (y29 : Int) {β : Type} (kA : Int → Option β) (kO : Unit → Option β) (kR : Int → Option β) : Option β :=
  (bif (decide (y29 < y28)) then (Option.bind (ix y27 y29) fun x31 => (bif (x31 != (UInt8.ofNat 0)) then (kR (3 : Int)) else (kA (w64 (y29 + (1 : Int)))))) else (kO ()))
def L20_2 (F : Nat) (y27 : List UInt8) (y28 : Int) (y29 : Int) : Option ((Int) ⊕ ((Unit) ⊕ (Int))) := L20_2c F y27 y28 y29 (fun s => some (.inl s)) (fun z => some (.inr (.inl z))) (fun z => some (.inr (.inr z)))
theorem L20_2n (F : Nat) (y27 : List UInt8) (y28 : Int) (y29 : Int) {β : Type} (kA : Int → Option β) (kO : Unit → Option β) (kR : Int → Option β) : L20_2c F y27 y28 y29 kA kO kR = (L20_2 F y27 y28 y29).bind (elimS kA (elimS kO kR)) := by
  simp only [L20_2, L20_2c, Option.bind_assoc, cond_bind, Option.bind_some, elimS_l, elimS_r, elimS_bind]
@[reducible] def sA20_2 : List Sh := [(.ro .u8), (.ro .u8), .i, (.ro .u8), .i, .i]
@[reducible] def sA120_2 : List Sh := [(.ro .u8), (.ro .u8), .i]
@[reducible] def sA220_2 : List Sh := [.ns, .ns, .i]
@[reducible] def sT20_2 : List TSh := []
@[reducible] def sT120_2 : List TSh := []
@[reducible] def sT220_2 : List TSh := []
def lc20_2 (F : Nat) : Lc := mkR [0, 6, 9, 41, 42, 43] sA20_2 sT20_2 [0, 6, 9] sA120_2 sT120_2 [2, 3, 4] sA220_2 sT220_2 F (fun x y (s : Int) => L20_2 F x.2.2.2.1 x.2.2.2.2.1 s) (fun x y => x.2.2.2.2.2.1) (fun x y (z : Unit) => ((x.1, x.2.1, x.2.2.1, ()), ())) (fun x y (z : Int) => (((), (), z, ()), ()))
theorem le20_2 (F : Nat) (x : dens sA20_2) (y : tdens sT20_2) (s : Int) : sev (E20 F) 0 [] (cAt (bodyOf Tryd.f20) (0 :: 0 :: [1, 0, 1, 1, 1, 1, 1, 1, 1])) (0 :: 0 :: [1, 0, 1, 1, 1, 1, 1, 1, 1]) (mkSt [0, 6, 9, 41, 42, 43] sA20_2 sT20_2 (x.1, x.2.1, x.2.2.1, x.2.2.2.1, x.2.2.2.2.1, s, ()) ()) (kLoop 0 [0, 6, 9, 41, 42, 43] sA20_2 sT20_2 [0, 6, 9] sA120_2 sT120_2 [2, 3, 4] sA220_2 sT220_2 0 (fun x y => some (.inl (x, y))) (fun x y => some (.inr (.inl (x, y)))) (fun x y => some (.inr (.inr (x, y))))) =
    L20_2c (β := Full sA20_2 sT20_2 sA120_2 sT120_2 sA220_2 sT220_2) F x.2.2.2.1 x.2.2.2.2.1 s (fun s => some (.inl ((x.1, x.2.1, x.2.2.1, x.2.2.2.1, x.2.2.2.2.1, s, ()), ()))) (fun z => some (.inr (.inl ((x.1, x.2.1, x.2.2.1, ()), ())))) (fun z => some (.inr (.inr (((), (), z, ()), ())))) := by kernel_rfl
theorem lo20_2 (F : Nat) : LcOk Tryd.prog (E20 F) 0 (lc20_2 F) (cAt (bodyOf Tryd.f20) [1, 0, 1, 1, 1, 1, 1, 1, 1]) :=
  mkR_ok (lp := []) (id := 0) (b := cAt (bodyOf Tryd.f20) (0 :: 0 :: [1, 0, 1, 1, 1, 1, 1, 1, 1])) cok (cts20 F) mixed trivial (by kernel_rfl) (by kernel_rfl) (fun x y s => (x.1, x.2.1, x.2.2.1, x.2.2.2.1, x.2.2.2.2.1, s, ())) (fun x y s => ()) (fun x y => rfl) (fun x y => rfl) (fun x y s kA kO kR => L20_2c F x.2.2.2.1 x.2.2.2.2.1 s kA kO kR) (fun x y s kA kO kR => L20_2n F x.2.2.2.1 x.2.2.2.2.1 s kA kO kR) (le20_2 F)
def T20c (F : Nat) (p0 : List UInt8) {β : Type} (k : ((List UInt8) × Int × (List UInt8)) → Option β) : Option β :=
  (Option.bind (T46 F p0) fun z18 => (Option.bind (T47 F (32768 : Int) z18.1 z18.2.1 z18.2.2.1 z18.2.2.2) fun z19 => (Option.bind (T48 F z19.2.1 z18.2.2.2) fun z20 => (bif (z20 == (p0.length : Int)) then (k (([] : List UInt8), (3 : Int), ([] : List UInt8))) else (Option.bind (T14 F (z19.1.length : Int)) fun z21 => (bif (z21.1 != (p0.length : Int)) then (k (([] : List UInt8), (3 : Int), ([] : List UInt8))) else (Option.bind (T48 F z19.2.1 z18.2.2.2) fun z22 => (Option.bind (gsl p0 (w64 ((p0.length : Int) - z22)) (w64 ((p0.length : Int) - (16 : Int)))) fun x23 => (Option.bind (iter (fun s => L20_2 F x23 (x23.length : Int) s) F (0 : Int)) fun z32 => elimS (fun z32 => (Option.bind (gsl p0 (w64 ((p0.length : Int) - (16 : Int))) (p0.length : Int)) fun x33 => (Option.bind (gapp ([] : List UInt8) x33) fun x34 => (k (z19.1, (0 : Int), x34))))) (fun z32 => (k (([] : List UInt8), z32, ([] : List UInt8)))) z32)))))))))
def T20 (F : Nat) (p0 : List UInt8) : Option ((List UInt8) × Int × (List UInt8)) := T20c F p0 some
theorem T20n (F : Nat) (p0 : List UInt8) {β : Type} (k : ((List UInt8) × Int × (List UInt8)) → Option β) : T20c F p0 k = (T20 F p0).bind k := by
  simp only [T20, T20c, Option.bind_assoc, cond_bind, Option.bind_some, elimS_bind]
@[reducible] def cA20 : List Sh := [(.ro .u8)]
@[reducible] def cB20 : List Sh := [(.ro .u8), (.rw 0), .i]
@[reducible] def cT20 : List TSh := []
@[reducible] def cU20 : List TSh := [.row 5 .u8]
def ct20 (F : Nat) : Ct := mkC 0 cA20 cT20 cB20 cU20 (fun x y => T20 F x.1) (fun x y (z : (List UInt8) × Int × (List UInt8)) => ((z.1, (), z.2.1, ()), (z.2.2, ())))
theorem eq20 (F : Nat) (x : dens cA20) (y : tdens cT20) : sev (E20 F) 0 [([1, 0, 1, 1, 1, 1, 1, 1, 1], lc20_2 F)] (bodyOf Tryd.f20) [] (mkSt (rng 1) cA20 cT20 x y) (kFn (E20 F) 0 Tryd.f20.results.toList cB20 cU20 fun p q => some (p, q)) =
    T20c F x.1 (fun z => some ((z.1, (), z.2.1, ()), (z.2.2, ()))) := by kernel_rfl
theorem ok20 (F : Nat) : Sound Tryd.prog cfg 20 (ct20 F) :=
  mkC_ok (E := E20 F) (lp := [([1, 0, 1, 1, 1, 1, 1, 1, 1], lc20_2 F)]) (code := bodyOf Tryd.f20) Tryd.func20 rfl Tryd.ntmps20 rfl rfl cok (cts20 F) mixed ⟨lo20_2 F, trivial⟩ (by kernel_rfl) (fun x y k => T20c F x.1 k) (fun x y k => T20n F x.1 k) (eq20 F)
end Go.Proofs.YtjghgfohpihhfaaDoor
/- kinkeep/seal.OpenWith: its twin, and that the call does what the twin says. Printed by a program. -/
namespace Go.Proofs.YtjghgfohpihhfaaDoor
open Go.Tw
set_option linter.unusedSimpArgs false
set_option linter.unusedVariables false
def ord37 : Nat → List (Tag × Nat)
  | _ => []
def E37 (F : Nat) : Ev := ⟨cfg, 23, ctOf [(57, ct57 F), (20, ct20 F)], ord37, ctOf []⟩
theorem cts37 (F : Nat) : CtsOk Tryd.prog (E37 F) := cts_of (l := [(57, ct57 F), (20, ct20 F)]) (l' := []) rfl rfl ⟨⟨ok57 F, _, Tryd.func57, rfl, rfl⟩, ⟨⟨ok20 F, _, Tryd.func20, rfl, rfl⟩, trivial⟩⟩ trivial
def T37c (F : Nat) (p0 : List UInt8) (p1 : List UInt8) {β : Type} (k : ((List UInt8) × Int × (List UInt8)) → Option β) : Option β :=
  (Option.bind (T57 F p1 p0) fun z3 => (bif (z3.1 != (0 : Int)) then (k (([] : List UInt8), z3.1, ([] : List UInt8))) else (Option.bind (T20 F z3.2) fun z4 => (k (z4.1, z4.2.1, z4.2.2)))))
def T37 (F : Nat) (p0 : List UInt8) (p1 : List UInt8) : Option ((List UInt8) × Int × (List UInt8)) := T37c F p0 p1 some
theorem T37n (F : Nat) (p0 : List UInt8) (p1 : List UInt8) {β : Type} (k : ((List UInt8) × Int × (List UInt8)) → Option β) : T37c F p0 p1 k = (T37 F p0 p1).bind k := by
  simp only [T37, T37c, Option.bind_assoc, cond_bind, Option.bind_some, elimS_bind]
@[reducible] def cA37 : List Sh := [(.ro .u8), (.ro .u8)]
@[reducible] def cB37 : List Sh := [(.ro .u8), (.rw 0), .i]
@[reducible] def cT37 : List TSh := []
@[reducible] def cU37 : List TSh := [.row 5 .u8]
def ct37 (F : Nat) : Ct := mkC 0 cA37 cT37 cB37 cU37 (fun x y => T37 F x.1 x.2.1) (fun x y (z : (List UInt8) × Int × (List UInt8)) => ((z.1, (), z.2.1, ()), (z.2.2, ())))
theorem eq37 (F : Nat) (x : dens cA37) (y : tdens cT37) : sev (E37 F) 0 [] (bodyOf Tryd.f37) [] (mkSt (rng 2) cA37 cT37 x y) (kFn (E37 F) 0 Tryd.f37.results.toList cB37 cU37 fun p q => some (p, q)) =
    T37c F x.1 x.2.1 (fun z => some ((z.1, (), z.2.1, ()), (z.2.2, ()))) := by kernel_rfl
theorem ok37 (F : Nat) : Sound Tryd.prog cfg 37 (ct37 F) :=
  mkC_ok (E := E37 F) (lp := []) (code := bodyOf Tryd.f37) Tryd.func37 rfl Tryd.ntmps37 rfl rfl cok (cts37 F) mixed trivial (by kernel_rfl) (fun x y k => T37c F x.1 x.2.1 k) (fun x y k => T37n F x.1 x.2.1 k) (eq37 F)
end Go.Proofs.YtjghgfohpihhfaaDoor
/- kinkeep/seal.Open: its twin, and that the call does what the twin says. Printed by a program. -/
namespace Go.Proofs.YtjghgfohpihhfaaDoor
open Go.Tw
set_option linter.unusedSimpArgs false
set_option linter.unusedVariables false
def ord32 : Nat → List (Tag × Nat)
  | _ => []
def E32 (F : Nat) : Ev := ⟨cfg, 98, ctOf [(14, ct14 F), (50, ct50 F), (27, ct27 F), (37, ct37 F), (25, ct25 F), (23, ct23 F)], ord32, ctOf []⟩
theorem cts32 (F : Nat) : CtsOk Tryd.prog (E32 F) := cts_of (l := [(14, ct14 F), (50, ct50 F), (27, ct27 F), (37, ct37 F), (25, ct25 F), (23, ct23 F)]) (l' := []) rfl rfl ⟨⟨ok14 F, _, Tryd.func14, rfl, rfl⟩, ⟨⟨ok50 F, _, Tryd.func50, rfl, rfl⟩, ⟨⟨ok27 F, _, Tryd.func27, rfl, rfl⟩, ⟨⟨ok37 F, _, Tryd.func37, rfl, rfl⟩, ⟨⟨ok25 F, _, Tryd.func25, rfl, rfl⟩, ⟨⟨ok23 F, _, Tryd.func23, rfl, rfl⟩, trivial⟩⟩⟩⟩⟩⟩ trivial
def T32c (F : Nat) (p0 : List UInt8) (p1 : List UInt8) (p2 : List UInt8) (p3 : List UInt8) (p4 : List UInt8) (p5 : List UInt8) (p6 : Int) (p7 : Int) (p8 : List UInt8) {β : Type} (k : ((List UInt8) × Int) → Option β) : Option β :=
  (Option.bind (T14 F p7) fun z7 => (Option.bind (T50 F p0 p1 p2 p3 p4) fun z8 => (bif (!z8) then (k (([] : List UInt8), (1 : Int))) else (bif ((p5.length : Int) != (32 : Int)) then (k (([] : List UInt8), (1 : Int))) else (bif (decide (p6 < (0 : Int))) then (k (([] : List UInt8), (1 : Int))) else (bif (z7.2 != (0 : Int)) then (k (([] : List UInt8), (1 : Int))) else (bif ((p8.length : Int) != z7.1) then (k (([] : List UInt8), (1 : Int))) else (Option.bind (T27 F p0 p1 p2 p3 p4 p5 z7.1) fun z9 => (Option.bind (T37 F z9.2 p8) fun z10 => (bif (z10.2.1 != (0 : Int)) then (k (([] : List UInt8), (9 : Int))) else (bif ((z10.1.length : Int) != p7) then (k (([] : List UInt8), (9 : Int))) else (Option.bind (T25 F p0 p1 p2 p3 p4 z10.1) fun z11 => (Option.bind (T23 F p0 p1 p2 p3 p4 p6 z10.1) fun z12 => (bif (z10.2.2 != z11.2) then (k (([] : List UInt8), (9 : Int))) else (bif (z12.1 != p5) then (k (([] : List UInt8), (9 : Int))) else (k (z10.1, (0 : Int))))))))))))))))))
def T32 (F : Nat) (p0 : List UInt8) (p1 : List UInt8) (p2 : List UInt8) (p3 : List UInt8) (p4 : List UInt8) (p5 : List UInt8) (p6 : Int) (p7 : Int) (p8 : List UInt8) : Option ((List UInt8) × Int) := T32c F p0 p1 p2 p3 p4 p5 p6 p7 p8 some
theorem T32n (F : Nat) (p0 : List UInt8) (p1 : List UInt8) (p2 : List UInt8) (p3 : List UInt8) (p4 : List UInt8) (p5 : List UInt8) (p6 : Int) (p7 : Int) (p8 : List UInt8) {β : Type} (k : ((List UInt8) × Int) → Option β) : T32c F p0 p1 p2 p3 p4 p5 p6 p7 p8 k = (T32 F p0 p1 p2 p3 p4 p5 p6 p7 p8).bind k := by
  simp only [T32, T32c, Option.bind_assoc, cond_bind, Option.bind_some, elimS_bind]
@[reducible] def cA32 : List Sh := [(.pr .str (.pr .str (.pr .str (.pr .str (.pr .str .un))))), (.pr .str (.pr .i (.pr .i .un))), (.ro .u8)]
@[reducible] def cB32 : List Sh := [(.ro .u8), .i]
@[reducible] def cT32 : List TSh := []
@[reducible] def cU32 : List TSh := []
def ct32 (F : Nat) : Ct := mkC 0 cA32 cT32 cB32 cU32 (fun x y => T32 F x.1.1 x.1.2.1 x.1.2.2.1 x.1.2.2.2.1 x.1.2.2.2.2.1 x.2.1.1 x.2.1.2.1 x.2.1.2.2.1 x.2.2.1) (fun x y (z : (List UInt8) × Int) => ((z.1, z.2, ()), ()))
theorem eq32 (F : Nat) (x : dens cA32) (y : tdens cT32) : sev (E32 F) 0 [] (bodyOf Tryd.f32) [] (mkSt (rng 3) cA32 cT32 x y) (kFn (E32 F) 0 Tryd.f32.results.toList cB32 cU32 fun p q => some (p, q)) =
    T32c F x.1.1 x.1.2.1 x.1.2.2.1 x.1.2.2.2.1 x.1.2.2.2.2.1 x.2.1.1 x.2.1.2.1 x.2.1.2.2.1 x.2.2.1 (fun z => some ((z.1, z.2, ()), ())) := by kernel_rfl
theorem ok32 (F : Nat) : Sound Tryd.prog cfg 32 (ct32 F) :=
  mkC_ok (E := E32 F) (lp := []) (code := bodyOf Tryd.f32) Tryd.func32 rfl Tryd.ntmps32 rfl rfl cok (cts32 F) mixed trivial (by kernel_rfl) (fun x y k => T32c F x.1.1 x.1.2.1 x.1.2.2.1 x.1.2.2.2.1 x.1.2.2.2.2.1 x.2.1.1 x.2.1.2.1 x.2.1.2.2.1 x.2.2.1 k) (fun x y k => T32n F x.1.1 x.1.2.1 x.1.2.2.1 x.1.2.2.2.1 x.1.2.2.2.2.1 x.2.1.1 x.2.1.2.1 x.2.1.2.2.1 x.2.2.1 k) (eq32 F)
end Go.Proofs.YtjghgfohpihhfaaDoor
/- kinkeep/kinkeeplaw11.awake: its twin, and that the call does what the twin says. Printed by a program. -/
namespace Go.Proofs.YtjghgfohpihhfaaDoor
open Go.Tw
set_option linter.unusedSimpArgs false
set_option linter.unusedVariables false
def ord16 : Nat → List (Tag × Nat)
  | 5 => [(.c, 1), (.p, 2), (.w, 0), (.w, 3), (.p, 4), (.p, 5), (.p, 6), (.p, 7), (.p, 8)]
  | _ => []
def E16 (F : Nat) : Ev := ⟨cfg, 84, ctOf [(14, ct14 F), (31, ct31 F), (29, ct29 F), (32, ct32 F)], ord16, ctOf []⟩
theorem cts16 (F : Nat) : CtsOk Tryd.prog (E16 F) := cts_of (l := [(14, ct14 F), (31, ct31 F), (29, ct29 F), (32, ct32 F)]) (l' := []) rfl rfl ⟨⟨ok14 F, _, Tryd.func14, rfl, rfl⟩, ⟨⟨ok31 F, _, Tryd.func31, rfl, rfl⟩, ⟨⟨ok29 F, _, Tryd.func29, rfl, rfl⟩, ⟨⟨ok32 F, _, Tryd.func32, rfl, rfl⟩, trivial⟩⟩⟩⟩ trivial
def T16c (F : Nat) {β : Type} (k : Bool → Option β) : Option β :=
  (Option.bind (T14 F (47 : Int)) fun z8 => (Option.bind (T14 F (48 : Int)) fun z9 => (Option.bind (T14 F (32768 : Int)) fun z10 => (Option.bind (T31 F (UInt8.ofNat 0)) fun z11 => (Option.bind (T29 F z11.1 z11.2.1 z11.2.2.1 z11.2.2.2.1 z11.2.2.2.2 (0 : Int) ([(UInt8.ofNat 104), (UInt8.ofNat 105)] : List UInt8)) fun z12 => (Option.bind (T31 F (UInt8.ofNat 0)) fun z13 => (Option.bind (T32 F z13.1 z13.2.1 z13.2.2.1 z13.2.2.2.1 z13.2.2.2.2 z12.1 z12.2.1 z12.2.2.1 z12.2.2.2.2) fun z14 => (bif (z8.1 == (64 : Int)) then (bif (z8.2 == (0 : Int)) then (bif (z9.1 == (80 : Int)) then (bif (z9.2 == (0 : Int)) then (bif (z10.1 == (40960 : Int)) then (bif (z10.2 == (0 : Int)) then (bif (z12.2.2.2.1 == (0 : Int)) then (bif ((z12.2.2.2.2.length : Int) == (64 : Int)) then (bif (z14.2 == (0 : Int)) then (bif (z14.1 == ([104, 105] : List UInt8)) then (k (z12.2.2.1 == (2 : Int))) else (k false)) else (k false)) else (k false)) else (k false)) else (k false)) else (k false)) else (k false)) else (k false)) else (k false)) else (k false)))))))))
def T16 (F : Nat) : Option (Bool) := T16c F some
theorem T16n (F : Nat) {β : Type} (k : Bool → Option β) : T16c F k = (T16 F).bind k := by
  simp only [T16, T16c, Option.bind_assoc, cond_bind, Option.bind_some, elimS_bind]
@[reducible] def cA16 : List Sh := []
@[reducible] def cB16 : List Sh := [.bo]
@[reducible] def cT16 : List TSh := []
@[reducible] def cU16 : List TSh := []
def ct16 (F : Nat) : Ct := mkC 0 cA16 cT16 cB16 cU16 (fun x y => T16 F) (fun x y (z : Bool) => ((z, ()), ()))
theorem eq16 (F : Nat) (x : dens cA16) (y : tdens cT16) : sev (E16 F) 0 [] (bodyOf Tryd.f16) [] (mkSt (rng 0) cA16 cT16 x y) (kFn (E16 F) 0 Tryd.f16.results.toList cB16 cU16 fun p q => some (p, q)) =
    T16c F (fun z => some ((z, ()), ())) := by kernel_rfl
theorem ok16 (F : Nat) : Sound Tryd.prog cfg 16 (ct16 F) :=
  mkC_ok (E := E16 F) (lp := []) (code := bodyOf Tryd.f16) Tryd.func16 rfl Tryd.ntmps16 rfl rfl cok (cts16 F) mixed trivial (by kernel_rfl) (fun x y k => T16c F k) (fun x y k => T16n F k) (eq16 F)
end Go.Proofs.YtjghgfohpihhfaaDoor
/- kinkeep/kinkeeplaw11.SealClass: its twin, and that the call does what the twin says. Printed by a program. -/
namespace Go.Proofs.YtjghgfohpihhfaaDoor
open Go.Tw
set_option linter.unusedSimpArgs false
set_option linter.unusedVariables false
def ord3 : Nat → List (Tag × Nat)
  | _ => []
def E3 (F : Nat) : Ev := ⟨cfg, 28, ctOf [(14, ct14 F), (15, ct15 F), (16, ct16 F)], ord3, ctOf []⟩
theorem cts3 (F : Nat) : CtsOk Tryd.prog (E3 F) := cts_of (l := [(14, ct14 F), (15, ct15 F), (16, ct16 F)]) (l' := []) rfl rfl ⟨⟨ok14 F, _, Tryd.func14, rfl, rfl⟩, ⟨⟨ok15 F, _, Tryd.func15, rfl, rfl⟩, ⟨⟨ok16 F, _, Tryd.func16, rfl, rfl⟩, trivial⟩⟩⟩ trivial
def T3c (F : Nat) (p0 : Int) {β : Type} (k : Bool → Option β) : Option β :=
  (Option.bind (T14 F p0) fun z4 => (Option.bind (T15 F p0) fun z5 => (Option.bind (T16 F) fun z6 => (bif z6 then (bif (z4.1 == z5.1) then (k (z4.2 == z5.2)) else (k false)) else (k false)))))
def T3 (F : Nat) (p0 : Int) : Option (Bool) := T3c F p0 some
theorem T3n (F : Nat) (p0 : Int) {β : Type} (k : Bool → Option β) : T3c F p0 k = (T3 F p0).bind k := by
  simp only [T3, T3c, Option.bind_assoc, cond_bind, Option.bind_some, elimS_bind]
@[reducible] def cA3 : List Sh := [.i]
@[reducible] def cB3 : List Sh := [.bo]
@[reducible] def cT3 : List TSh := []
@[reducible] def cU3 : List TSh := []
def ct3 (F : Nat) : Ct := mkC 0 cA3 cT3 cB3 cU3 (fun x y => T3 F x.1) (fun x y (z : Bool) => ((z, ()), ()))
theorem eq3 (F : Nat) (x : dens cA3) (y : tdens cT3) : sev (E3 F) 0 [] (bodyOf Tryd.f3) [] (mkSt (rng 1) cA3 cT3 x y) (kFn (E3 F) 0 Tryd.f3.results.toList cB3 cU3 fun p q => some (p, q)) =
    T3c F x.1 (fun z => some ((z, ()), ())) := by kernel_rfl
theorem ok3 (F : Nat) : Sound Tryd.prog cfg 3 (ct3 F) :=
  mkC_ok (E := E3 F) (lp := []) (code := bodyOf Tryd.f3) Tryd.func3 rfl Tryd.ntmps3 rfl rfl cok (cts3 F) mixed trivial (by kernel_rfl) (fun x y k => T3c F x.1 k) (fun x y k => T3n F x.1 k) (eq3 F)
end Go.Proofs.YtjghgfohpihhfaaDoor
