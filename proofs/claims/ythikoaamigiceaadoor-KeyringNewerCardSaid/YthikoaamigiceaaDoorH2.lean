/- kinkeep/keyring.validIndex: its twin, and that the call does what the twin says. Printed by a program. -/
import Derived.Test.YthikoaamigiceaaDoorH1
namespace Go.Proofs.YthikoaamigiceaaDoor
open Go.Tw
set_option linter.unusedSimpArgs false
set_option linter.unusedVariables false
def ord39 : Nat → List (Tag × Nat)
  | _ => []
def al39 : Nat → Option Nat
  | _ => none
def ms39 : Nat → Option (List (Option Tag × Nat × List Nat))
  | _ => none
def E39 (F : Nat) : Ev := ⟨cfg, 77, ctOf [(68, ct68 F), (69, ct69 F), (70, ct70 F), (71, ct71 F)], ord39, ctOf [], al39, ms39⟩
theorem cts39 (F : Nat) : CtsOk Tryd.prog (E39 F) := cts_of (l := [(68, ct68 F), (69, ct69 F), (70, ct70 F), (71, ct71 F)]) (l' := []) rfl rfl ⟨⟨ok68 F, _, Tryd.func68, rfl, rfl⟩, ⟨⟨ok69 F, _, Tryd.func69, rfl, rfl⟩, ⟨⟨ok70 F, _, Tryd.func70, rfl, rfl⟩, ⟨⟨ok71 F, _, Tryd.func71, rfl, rfl⟩, trivial⟩⟩⟩⟩ trivial
def L39_4c (F : Nat) (y48 : List Int) (y49 : Int) (y50 : Int) {β : Type} (kA : Int → Option β) (kO : Unit → Option β) (kR : Bool → Option β) : Option β :=
  (bif (decide (y50 < y49)) then (Option.bind (ix y48 y50) fun x59 => (Option.bind (T68 F x59 (0 : Int) (1099511627776 : Int)) fun z60 => (bif (!z60) then (kR false) else (kA (w64 (y50 + (1 : Int))))))) else (kO ()))
def L39_4 (F : Nat) (y48 : List Int) (y49 : Int) (y50 : Int) : Option ((Int) ⊕ ((Unit) ⊕ (Bool))) := L39_4c F y48 y49 y50 (fun s => some (.inl s)) (fun z => some (.inr (.inl z))) (fun z => some (.inr (.inr z)))
theorem L39_4n (F : Nat) (y48 : List Int) (y49 : Int) (y50 : Int) {β : Type} (kA : Int → Option β) (kO : Unit → Option β) (kR : Bool → Option β) : L39_4c F y48 y49 y50 kA kO kR = (L39_4 F y48 y49 y50).bind (elimS kA (elimS kO kR)) := by
  simp only [L39_4, L39_4c, Option.bind_assoc, cond_bind, Option.bind_some, Option.bind_none, elimS_l, elimS_r, elimS_bind]
@[reducible] def sA39_4 : List Sh := [(.pt 0 []), (.ro .i), .i, .i]
@[reducible] def sAp139_4 : List Sh := [(.pt 0 [])]
@[reducible] def sAp239_4 : List Sh := [.bo]
@[reducible] def sT39_4 : List TSh := [.blk 47 (.pr .i (.pr .i (.pr (.ro .i) (.pr (.ro (.pr .i (.pr .i (.pr .i (.pr (.pr .s (.pr .i (.pr .i .un))) (.pr .i (.pr .i (.pr .s (.pr .bo .un))))))))) (.pr (.ro (.pr .s (.pr .i (.pr .i (.pr .i (.pr .i (.pr (.sl (.pr .s (.pr .i (.pr .i .un)))) .un))))))) (.pr (.ro (.pr .s (.pr .i (.pr .i .un)))) .un))))))]
@[reducible] def sTp139_4 : List TSh := [.blk 47 (.pr .i (.pr .i (.pr (.ro .i) (.pr (.ro (.pr .i (.pr .i (.pr .i (.pr (.pr .s (.pr .i (.pr .i .un))) (.pr .i (.pr .i (.pr .s (.pr .bo .un))))))))) (.pr (.ro (.pr .s (.pr .i (.pr .i (.pr .i (.pr .i (.pr (.sl (.pr .s (.pr .i (.pr .i .un)))) .un))))))) (.pr (.ro (.pr .s (.pr .i (.pr .i .un)))) .un))))))]
@[reducible] def sTp239_4 : List TSh := []
def lc39_4 (F : Nat) : Lc := mkR [1, 42, 43, 44] sA39_4 sT39_4 [1] sAp139_4 sTp139_4 [2] sAp239_4 sTp239_4 F (fun x y (s : Int) => L39_4 F x.2.1 x.2.2.1 s) (fun x y => x.2.2.2.1) (fun x y (z : Unit) => (((), ()), ((y.1.1, y.1.2.1, y.1.2.2.1, y.1.2.2.2.1, y.1.2.2.2.2.1, y.1.2.2.2.2.2.1, ()), ()))) (fun x y (z : Bool) => ((z, ()), ()))
theorem le39_4 (F : Nat) (x : dens sA39_4) (y : tdens sT39_4) (s : Int) : sev (E39 F) 0 [] (cAt (bodyOf Tryd.f39) (0 :: 0 :: [1, 0, 1, 1, 1])) (0 :: 0 :: [1, 0, 1, 1, 1]) (mkSt [1, 42, 43, 44] sA39_4 sT39_4 ((), x.2.1, x.2.2.1, s, ()) ((y.1.1, y.1.2.1, y.1.2.2.1, y.1.2.2.2.1, y.1.2.2.2.2.1, y.1.2.2.2.2.2.1, ()), ())) (kLoop 0 [1, 42, 43, 44] sA39_4 sT39_4 [1] sAp139_4 sTp139_4 [2] sAp239_4 sTp239_4 0 (fun x y => some (.inl (x, y))) (fun x y => some (.inr (.inl (x, y)))) (fun x y => some (.inr (.inr (x, y))))) =
    L39_4c (β := Full sA39_4 sT39_4 sAp139_4 sTp139_4 sAp239_4 sTp239_4) F x.2.1 x.2.2.1 s (fun s => some (.inl (((), x.2.1, x.2.2.1, s, ()), ((y.1.1, y.1.2.1, y.1.2.2.1, y.1.2.2.2.1, y.1.2.2.2.2.1, y.1.2.2.2.2.2.1, ()), ())))) (fun z => some (.inr (.inl (((), ()), ((y.1.1, y.1.2.1, y.1.2.2.1, y.1.2.2.2.1, y.1.2.2.2.2.1, y.1.2.2.2.2.2.1, ()), ()))))) (fun z => some (.inr (.inr ((z, ()), ())))) := by kernel_rfl
theorem lo39_4 (F : Nat) : LcOk Tryd.prog (E39 F) 0 (lc39_4 F) (cAt (bodyOf Tryd.f39) [1, 0, 1, 1, 1]) :=
  mkR_ok (lp := []) (id := 0) (b := cAt (bodyOf Tryd.f39) (0 :: 0 :: [1, 0, 1, 1, 1])) cok (cts39 F) mixed trivial (by kernel_rfl) (by kernel_rfl) (fun x y s => ((), x.2.1, x.2.2.1, s, ())) (fun x y s => ((y.1.1, y.1.2.1, y.1.2.2.1, y.1.2.2.2.1, y.1.2.2.2.2.1, y.1.2.2.2.2.2.1, ()), ())) (fun x y => rfl) (fun x y => rfl) (fun x y s kA kO kR => L39_4c F x.2.1 x.2.2.1 s kA kO kR) (fun x y s kA kO kR => L39_4n F x.2.1 x.2.2.1 s kA kO kR) (le39_4 F)
def L39_5c (F : Nat) (y62 : List (Int × Int × Int × ((List UInt8) × Int × Int × Unit) × Int × Int × (List UInt8) × Bool × Unit)) (y63 : Int) (y64 : Int) {β : Type} (kA : Int → Option β) (kO : Unit → Option β) (kR : Bool → Option β) : Option β :=
  (bif (decide (y64 < y63)) then (Option.bind (ix y62 y64) fun x73 => (Option.bind (T69 F x73.1 x73.2.1 x73.2.2.1 x73.2.2.2.1.1 x73.2.2.2.1.2.1 x73.2.2.2.1.2.2.1 x73.2.2.2.2.1 x73.2.2.2.2.2.1 x73.2.2.2.2.2.2.1) fun z74 => (bif (!z74) then (kR false) else (kA (w64 (y64 + (1 : Int))))))) else (kO ()))
def L39_5 (F : Nat) (y62 : List (Int × Int × Int × ((List UInt8) × Int × Int × Unit) × Int × Int × (List UInt8) × Bool × Unit)) (y63 : Int) (y64 : Int) : Option ((Int) ⊕ ((Unit) ⊕ (Bool))) := L39_5c F y62 y63 y64 (fun s => some (.inl s)) (fun z => some (.inr (.inl z))) (fun z => some (.inr (.inr z)))
theorem L39_5n (F : Nat) (y62 : List (Int × Int × Int × ((List UInt8) × Int × Int × Unit) × Int × Int × (List UInt8) × Bool × Unit)) (y63 : Int) (y64 : Int) {β : Type} (kA : Int → Option β) (kO : Unit → Option β) (kR : Bool → Option β) : L39_5c F y62 y63 y64 kA kO kR = (L39_5 F y62 y63 y64).bind (elimS kA (elimS kO kR)) := by
  simp only [L39_5, L39_5c, Option.bind_assoc, cond_bind, Option.bind_some, Option.bind_none, elimS_l, elimS_r, elimS_bind]
@[reducible] def sA39_5 : List Sh := [(.pt 0 []), (.ro (.pr .i (.pr .i (.pr .i (.pr (.pr .s (.pr .i (.pr .i .un))) (.pr .i (.pr .i (.pr .s (.pr .bo .un))))))))), .i, .i]
@[reducible] def sAp139_5 : List Sh := [(.pt 0 [])]
@[reducible] def sAp239_5 : List Sh := [.bo]
@[reducible] def sT39_5 : List TSh := [.blk 47 (.pr .i (.pr .i (.pr (.ro .i) (.pr (.ro (.pr .i (.pr .i (.pr .i (.pr (.pr .s (.pr .i (.pr .i .un))) (.pr .i (.pr .i (.pr .s (.pr .bo .un))))))))) (.pr (.ro (.pr .s (.pr .i (.pr .i (.pr .i (.pr .i (.pr (.sl (.pr .s (.pr .i (.pr .i .un)))) .un))))))) (.pr (.ro (.pr .s (.pr .i (.pr .i .un)))) .un))))))]
@[reducible] def sTp139_5 : List TSh := [.blk 47 (.pr .i (.pr .i (.pr (.ro .i) (.pr (.ro (.pr .i (.pr .i (.pr .i (.pr (.pr .s (.pr .i (.pr .i .un))) (.pr .i (.pr .i (.pr .s (.pr .bo .un))))))))) (.pr (.ro (.pr .s (.pr .i (.pr .i (.pr .i (.pr .i (.pr (.sl (.pr .s (.pr .i (.pr .i .un)))) .un))))))) (.pr (.ro (.pr .s (.pr .i (.pr .i .un)))) .un))))))]
@[reducible] def sTp239_5 : List TSh := []
def lc39_5 (F : Nat) : Lc := mkR [1, 53, 54, 55] sA39_5 sT39_5 [1] sAp139_5 sTp139_5 [2] sAp239_5 sTp239_5 F (fun x y (s : Int) => L39_5 F x.2.1 x.2.2.1 s) (fun x y => x.2.2.2.1) (fun x y (z : Unit) => (((), ()), ((y.1.1, y.1.2.1, y.1.2.2.1, y.1.2.2.2.1, y.1.2.2.2.2.1, y.1.2.2.2.2.2.1, ()), ()))) (fun x y (z : Bool) => ((z, ()), ()))
theorem le39_5 (F : Nat) (x : dens sA39_5) (y : tdens sT39_5) (s : Int) : sev (E39 F) 0 [] (cAt (bodyOf Tryd.f39) (0 :: 0 :: [1, 0, 1, 1, 1, 1])) (0 :: 0 :: [1, 0, 1, 1, 1, 1]) (mkSt [1, 53, 54, 55] sA39_5 sT39_5 ((), x.2.1, x.2.2.1, s, ()) ((y.1.1, y.1.2.1, y.1.2.2.1, y.1.2.2.2.1, y.1.2.2.2.2.1, y.1.2.2.2.2.2.1, ()), ())) (kLoop 0 [1, 53, 54, 55] sA39_5 sT39_5 [1] sAp139_5 sTp139_5 [2] sAp239_5 sTp239_5 2 (fun x y => some (.inl (x, y))) (fun x y => some (.inr (.inl (x, y)))) (fun x y => some (.inr (.inr (x, y))))) =
    L39_5c (β := Full sA39_5 sT39_5 sAp139_5 sTp139_5 sAp239_5 sTp239_5) F x.2.1 x.2.2.1 s (fun s => some (.inl (((), x.2.1, x.2.2.1, s, ()), ((y.1.1, y.1.2.1, y.1.2.2.1, y.1.2.2.2.1, y.1.2.2.2.2.1, y.1.2.2.2.2.2.1, ()), ())))) (fun z => some (.inr (.inl (((), ()), ((y.1.1, y.1.2.1, y.1.2.2.1, y.1.2.2.2.1, y.1.2.2.2.2.1, y.1.2.2.2.2.2.1, ()), ()))))) (fun z => some (.inr (.inr ((z, ()), ())))) := by kernel_rfl
theorem lo39_5 (F : Nat) : LcOk Tryd.prog (E39 F) 0 (lc39_5 F) (cAt (bodyOf Tryd.f39) [1, 0, 1, 1, 1, 1]) :=
  mkR_ok (lp := []) (id := 2) (b := cAt (bodyOf Tryd.f39) (0 :: 0 :: [1, 0, 1, 1, 1, 1])) cok (cts39 F) mixed trivial (by kernel_rfl) (by kernel_rfl) (fun x y s => ((), x.2.1, x.2.2.1, s, ())) (fun x y s => ((y.1.1, y.1.2.1, y.1.2.2.1, y.1.2.2.2.1, y.1.2.2.2.2.1, y.1.2.2.2.2.2.1, ()), ())) (fun x y => rfl) (fun x y => rfl) (fun x y s kA kO kR => L39_5c F x.2.1 x.2.2.1 s kA kO kR) (fun x y s kA kO kR => L39_5n F x.2.1 x.2.2.1 s kA kO kR) (le39_5 F)
def L39_6c (F : Nat) (y76 : List ((List UInt8) × Int × Int × Int × Int × (List ((List UInt8) × Int × Int × Unit)) × Unit)) (y77 : Int) (y78 : Int) {β : Type} (kA : Int → Option β) (kO : Unit → Option β) (kR : Bool → Option β) : Option β :=
  (bif (decide (y78 < y77)) then (Option.bind (ix y76 y78) fun x87 => (Option.bind (T70 F x87.1 x87.2.1 x87.2.2.1 x87.2.2.2.1 x87.2.2.2.2.1 x87.2.2.2.2.2.1) fun z88 => (bif (!z88) then (kR false) else (kA (w64 (y78 + (1 : Int))))))) else (kO ()))
def L39_6 (F : Nat) (y76 : List ((List UInt8) × Int × Int × Int × Int × (List ((List UInt8) × Int × Int × Unit)) × Unit)) (y77 : Int) (y78 : Int) : Option ((Int) ⊕ ((Unit) ⊕ (Bool))) := L39_6c F y76 y77 y78 (fun s => some (.inl s)) (fun z => some (.inr (.inl z))) (fun z => some (.inr (.inr z)))
theorem L39_6n (F : Nat) (y76 : List ((List UInt8) × Int × Int × Int × Int × (List ((List UInt8) × Int × Int × Unit)) × Unit)) (y77 : Int) (y78 : Int) {β : Type} (kA : Int → Option β) (kO : Unit → Option β) (kR : Bool → Option β) : L39_6c F y76 y77 y78 kA kO kR = (L39_6 F y76 y77 y78).bind (elimS kA (elimS kO kR)) := by
  simp only [L39_6, L39_6c, Option.bind_assoc, cond_bind, Option.bind_some, Option.bind_none, elimS_l, elimS_r, elimS_bind]
@[reducible] def sA39_6 : List Sh := [(.pt 0 []), (.ro (.pr .s (.pr .i (.pr .i (.pr .i (.pr .i (.pr (.sl (.pr .s (.pr .i (.pr .i .un)))) .un))))))), .i, .i]
@[reducible] def sAp139_6 : List Sh := [(.pt 0 [])]
@[reducible] def sAp239_6 : List Sh := [.bo]
@[reducible] def sT39_6 : List TSh := [.blk 47 (.pr .i (.pr .i (.pr (.ro .i) (.pr (.ro (.pr .i (.pr .i (.pr .i (.pr (.pr .s (.pr .i (.pr .i .un))) (.pr .i (.pr .i (.pr .s (.pr .bo .un))))))))) (.pr (.ro (.pr .s (.pr .i (.pr .i (.pr .i (.pr .i (.pr (.sl (.pr .s (.pr .i (.pr .i .un)))) .un))))))) (.pr (.ro (.pr .s (.pr .i (.pr .i .un)))) .un))))))]
@[reducible] def sTp139_6 : List TSh := [.blk 47 (.pr .i (.pr .i (.pr (.ro .i) (.pr (.ro (.pr .i (.pr .i (.pr .i (.pr (.pr .s (.pr .i (.pr .i .un))) (.pr .i (.pr .i (.pr .s (.pr .bo .un))))))))) (.pr (.ro (.pr .s (.pr .i (.pr .i (.pr .i (.pr .i (.pr (.sl (.pr .s (.pr .i (.pr .i .un)))) .un))))))) (.pr (.ro (.pr .s (.pr .i (.pr .i .un)))) .un))))))]
@[reducible] def sTp239_6 : List TSh := []
def lc39_6 (F : Nat) : Lc := mkR [1, 64, 65, 66] sA39_6 sT39_6 [1] sAp139_6 sTp139_6 [2] sAp239_6 sTp239_6 F (fun x y (s : Int) => L39_6 F x.2.1 x.2.2.1 s) (fun x y => x.2.2.2.1) (fun x y (z : Unit) => (((), ()), ((y.1.1, y.1.2.1, y.1.2.2.1, y.1.2.2.2.1, y.1.2.2.2.2.1, y.1.2.2.2.2.2.1, ()), ()))) (fun x y (z : Bool) => ((z, ()), ()))
theorem le39_6 (F : Nat) (x : dens sA39_6) (y : tdens sT39_6) (s : Int) : sev (E39 F) 0 [] (cAt (bodyOf Tryd.f39) (0 :: 0 :: [1, 0, 1, 1, 1, 1, 1])) (0 :: 0 :: [1, 0, 1, 1, 1, 1, 1]) (mkSt [1, 64, 65, 66] sA39_6 sT39_6 ((), x.2.1, x.2.2.1, s, ()) ((y.1.1, y.1.2.1, y.1.2.2.1, y.1.2.2.2.1, y.1.2.2.2.2.1, y.1.2.2.2.2.2.1, ()), ())) (kLoop 0 [1, 64, 65, 66] sA39_6 sT39_6 [1] sAp139_6 sTp139_6 [2] sAp239_6 sTp239_6 4 (fun x y => some (.inl (x, y))) (fun x y => some (.inr (.inl (x, y)))) (fun x y => some (.inr (.inr (x, y))))) =
    L39_6c (β := Full sA39_6 sT39_6 sAp139_6 sTp139_6 sAp239_6 sTp239_6) F x.2.1 x.2.2.1 s (fun s => some (.inl (((), x.2.1, x.2.2.1, s, ()), ((y.1.1, y.1.2.1, y.1.2.2.1, y.1.2.2.2.1, y.1.2.2.2.2.1, y.1.2.2.2.2.2.1, ()), ())))) (fun z => some (.inr (.inl (((), ()), ((y.1.1, y.1.2.1, y.1.2.2.1, y.1.2.2.2.1, y.1.2.2.2.2.1, y.1.2.2.2.2.2.1, ()), ()))))) (fun z => some (.inr (.inr ((z, ()), ())))) := by kernel_rfl
theorem lo39_6 (F : Nat) : LcOk Tryd.prog (E39 F) 0 (lc39_6 F) (cAt (bodyOf Tryd.f39) [1, 0, 1, 1, 1, 1, 1]) :=
  mkR_ok (lp := []) (id := 4) (b := cAt (bodyOf Tryd.f39) (0 :: 0 :: [1, 0, 1, 1, 1, 1, 1])) cok (cts39 F) mixed trivial (by kernel_rfl) (by kernel_rfl) (fun x y s => ((), x.2.1, x.2.2.1, s, ())) (fun x y s => ((y.1.1, y.1.2.1, y.1.2.2.1, y.1.2.2.2.1, y.1.2.2.2.2.1, y.1.2.2.2.2.2.1, ()), ())) (fun x y => rfl) (fun x y => rfl) (fun x y s kA kO kR => L39_6c F x.2.1 x.2.2.1 s kA kO kR) (fun x y s kA kO kR => L39_6n F x.2.1 x.2.2.1 s kA kO kR) (le39_6 F)
def T39c (F : Nat) (p0 : Int) (p1 : Int) (p2 : List Int) (p3 : List (Int × Int × Int × ((List UInt8) × Int × Int × Unit) × Int × Int × (List UInt8) × Bool × Unit)) (p4 : List ((List UInt8) × Int × Int × Int × Int × (List ((List UInt8) × Int × Int × Unit)) × Unit)) (p5 : List ((List UInt8) × Int × Int × Unit)) {β : Type} (k : Bool → Option β) : Option β :=
  (Option.bind (T68 F p0 (0 : Int) (1000 : Int)) fun z46 => (bif (!z46) then (k false) else (Option.bind (T68 F p1 (0 : Int) (1000 : Int)) fun z47 => (bif (!z47) then (k false) else (bif (decide ((12 : Int) < (p2.length : Int))) then (k false) else (bif (decide ((4096 : Int) < (p3.length : Int))) then (k false) else (bif (decide ((4096 : Int) < (p4.length : Int))) then (k false) else (bif (decide ((4096 : Int) < (p5.length : Int))) then (k false) else (Option.bind (iter (fun s => L39_4 F p2 (p2.length : Int) s) F (0 : Int)) fun z61 => elimS (fun z61 => (Option.bind (iter (fun s => L39_5 F p3 (p3.length : Int) s) F (0 : Int)) fun z75 => elimS (fun z75 => (Option.bind (iter (fun s => L39_6 F p4 (p4.length : Int) s) F (0 : Int)) fun z89 => elimS (fun z89 => (Option.bind (T71 F p5) fun z90 => (k z90))) (fun z89 => (k z89)) z89)) (fun z75 => (k z75)) z75)) (fun z61 => (k z61)) z61)))))))))
def T39 (F : Nat) (p0 : Int) (p1 : Int) (p2 : List Int) (p3 : List (Int × Int × Int × ((List UInt8) × Int × Int × Unit) × Int × Int × (List UInt8) × Bool × Unit)) (p4 : List ((List UInt8) × Int × Int × Int × Int × (List ((List UInt8) × Int × Int × Unit)) × Unit)) (p5 : List ((List UInt8) × Int × Int × Unit)) : Option (Bool) := T39c F p0 p1 p2 p3 p4 p5 some
theorem T39n (F : Nat) (p0 : Int) (p1 : Int) (p2 : List Int) (p3 : List (Int × Int × Int × ((List UInt8) × Int × Int × Unit) × Int × Int × (List UInt8) × Bool × Unit)) (p4 : List ((List UInt8) × Int × Int × Int × Int × (List ((List UInt8) × Int × Int × Unit)) × Unit)) (p5 : List ((List UInt8) × Int × Int × Unit)) {β : Type} (k : Bool → Option β) : T39c F p0 p1 p2 p3 p4 p5 k = (T39 F p0 p1 p2 p3 p4 p5).bind k := by
  simp only [T39, T39c, Option.bind_assoc, cond_bind, Option.bind_some, Option.bind_none, elimS_bind]
@[reducible] def cA39 : List Sh := [(.pr .i (.pr .i (.pr (.ro .i) (.pr (.ro (.pr .i (.pr .i (.pr .i (.pr (.pr .s (.pr .i (.pr .i .un))) (.pr .i (.pr .i (.pr .s (.pr .bo .un))))))))) (.pr (.ro (.pr .s (.pr .i (.pr .i (.pr .i (.pr .i (.pr (.sl (.pr .s (.pr .i (.pr .i .un)))) .un))))))) (.pr (.ro (.pr .s (.pr .i (.pr .i .un)))) .un))))))]
@[reducible] def cB39 : List Sh := [.bo]
@[reducible] def cT39 : List TSh := []
@[reducible] def cU39 : List TSh := []
def ct39 (F : Nat) : Ct := mkC 0 cA39 cT39 cB39 cU39 (fun x y => T39 F x.1.1 x.1.2.1 x.1.2.2.1 x.1.2.2.2.1 x.1.2.2.2.2.1 x.1.2.2.2.2.2.1) (fun x y (z : Bool) => ((z, ()), ()))
theorem eq39 (F : Nat) (x : dens cA39) (y : tdens cT39) : sev (E39 F) 0 [([1, 0, 1, 1, 1], lc39_4 F), ([1, 0, 1, 1, 1, 1], lc39_5 F), ([1, 0, 1, 1, 1, 1, 1], lc39_6 F)] (bodyOf Tryd.f39) [] (mkSt (rng 1) cA39 cT39 x y) (kFn (E39 F) 0 Tryd.f39.results.toList cB39 cU39 fun p q => some (p, q)) =
    T39c F x.1.1 x.1.2.1 x.1.2.2.1 x.1.2.2.2.1 x.1.2.2.2.2.1 x.1.2.2.2.2.2.1 (fun z => some ((z, ()), ())) := by kernel_rfl
theorem ok39 (F : Nat) : Sound Tryd.prog cfg 39 (ct39 F) :=
  mkC_ok (E := E39 F) (lp := [([1, 0, 1, 1, 1], lc39_4 F), ([1, 0, 1, 1, 1, 1], lc39_5 F), ([1, 0, 1, 1, 1, 1, 1], lc39_6 F)]) (code := bodyOf Tryd.f39) Tryd.func39 rfl Tryd.ntmps39 rfl rfl cok (cts39 F) mixed ⟨lo39_4 F, ⟨lo39_5 F, ⟨lo39_6 F, trivial⟩⟩⟩ (by kernel_rfl) (fun x y k => T39c F x.1.1 x.1.2.1 x.1.2.2.1 x.1.2.2.2.1 x.1.2.2.2.2.1 x.1.2.2.2.2.2.1 k) (fun x y k => T39n F x.1.1 x.1.2.1 x.1.2.2.1 x.1.2.2.2.1 x.1.2.2.2.2.1 x.1.2.2.2.2.2.1 k) (eq39 F)
end Go.Proofs.YthikoaamigiceaaDoor
/- kinkeep/wire.NewWriter: its twin, and that the call does what the twin says. Printed by a program. -/
namespace Go.Proofs.YthikoaamigiceaaDoor
open Go.Tw
set_option linter.unusedSimpArgs false
set_option linter.unusedVariables false
def ord40 : Nat → List (Tag × Nat)
  | _ => []
def al40 : Nat → Option Nat
  | _ => none
def ms40 : Nat → Option (List (Option Tag × Nat × List Nat))
  | _ => none
def E40 (F : Nat) : Ev := ⟨cfg, 3, ctOf [], ord40, ctOf [], al40, ms40⟩
theorem cts40 (F : Nat) : CtsOk Tryd.prog (E40 F) := cts_of (l := []) (l' := []) rfl rfl trivial trivial
def T40c (F : Nat) {β : Type} (k : Int → Option β) : Option β :=
  (k (0 : Int))
def T40 (F : Nat) : Option (Int) := T40c F some
theorem T40n (F : Nat) {β : Type} (k : Int → Option β) : T40c F k = (T40 F).bind k := by
  simp only [T40, T40c, Option.bind_assoc, cond_bind, Option.bind_some, Option.bind_none, elimS_bind]
@[reducible] def cA40 : List Sh := []
@[reducible] def cB40 : List Sh := [(.pt 0 [])]
@[reducible] def cT40 : List TSh := []
@[reducible] def cU40 : List TSh := [.blk 112 (.pr .ns (.pr .i .un))]
def ct40 (F : Nat) : Ct := mkC 0 cA40 cT40 cB40 cU40 (fun x y => T40 F) (fun x y (z : Int) => (((), ()), (((), z, ()), ())))
theorem eq40 (F : Nat) (x : dens cA40) (y : tdens cT40) : sev (E40 F) 0 [] (bodyOf Tryd.f40) [] (mkSt (rng 0) cA40 cT40 x y) (kFn (E40 F) 0 Tryd.f40.results.toList cB40 cU40 fun p q => some (p, q)) =
    T40c F (fun z => some (((), ()), (((), z, ()), ()))) := by kernel_rfl
theorem ok40 (F : Nat) : Sound Tryd.prog cfg 40 (ct40 F) :=
  mkC_ok (E := E40 F) (lp := []) (code := bodyOf Tryd.f40) Tryd.func40 rfl Tryd.ntmps40 rfl rfl cok (cts40 F) mixed trivial (by kernel_rfl) (fun x y k => T40c F k) (fun x y k => T40n F k) (eq40 F)
end Go.Proofs.YthikoaamigiceaaDoor
/- kinkeep/wire.Zigzag: its twin, and that the call does what the twin says. Printed by a program. -/
namespace Go.Proofs.YthikoaamigiceaaDoor
open Go.Tw
set_option linter.unusedSimpArgs false
set_option linter.unusedVariables false
def ord74 : Nat → List (Tag × Nat)
  | _ => []
def al74 : Nat → Option Nat
  | _ => none
def ms74 : Nat → Option (List (Option Tag × Nat × List Nat))
  | _ => none
def E74 (F : Nat) : Ev := ⟨cfg, 14, ctOf [], ord74, ctOf [], al74, ms74⟩
theorem cts74 (F : Nat) : CtsOk Tryd.prog (E74 F) := cts_of (l := []) (l' := []) rfl rfl trivial trivial
def T74c (F : Nat) (p0 : Int) {β : Type} (k : UInt64 → Option β) : Option β :=
  (bif (decide (p0 < (0 : Int))) then (k (((UInt64.ofInt (w64 (0 - (w64 (p0 + (1 : Int)))))) * (UInt64.ofNat 2)) + (UInt64.ofNat 1))) else (k ((UInt64.ofInt p0) * (UInt64.ofNat 2))))
def T74 (F : Nat) (p0 : Int) : Option (UInt64) := T74c F p0 some
theorem T74n (F : Nat) (p0 : Int) {β : Type} (k : UInt64 → Option β) : T74c F p0 k = (T74 F p0).bind k := by
  simp only [T74, T74c, Option.bind_assoc, cond_bind, Option.bind_some, Option.bind_none, elimS_bind]
@[reducible] def cA74 : List Sh := [.i]
@[reducible] def cB74 : List Sh := [.u64]
@[reducible] def cT74 : List TSh := []
@[reducible] def cU74 : List TSh := []
def ct74 (F : Nat) : Ct := mkC 0 cA74 cT74 cB74 cU74 (fun x y => T74 F x.1) (fun x y (z : UInt64) => ((z, ()), ()))
theorem eq74 (F : Nat) (x : dens cA74) (y : tdens cT74) : sev (E74 F) 0 [] (bodyOf Tryd.f74) [] (mkSt (rng 1) cA74 cT74 x y) (kFn (E74 F) 0 Tryd.f74.results.toList cB74 cU74 fun p q => some (p, q)) =
    T74c F x.1 (fun z => some ((z, ()), ())) := by kernel_rfl
theorem ok74 (F : Nat) : Sound Tryd.prog cfg 74 (ct74 F) :=
  mkC_ok (E := E74 F) (lp := []) (code := bodyOf Tryd.f74) Tryd.func74 rfl Tryd.ntmps74 rfl rfl cok (cts74 F) mixed trivial (by kernel_rfl) (fun x y k => T74c F x.1 k) (fun x y k => T74n F x.1 k) (eq74 F)
end Go.Proofs.YthikoaamigiceaaDoor
/- kinkeep/wire.extend: its twin, and that the call does what the twin says. Printed by a program. -/
namespace Go.Proofs.YthikoaamigiceaaDoor
open Go.Tw
set_option linter.unusedSimpArgs false
set_option linter.unusedVariables false
def ord75 : Nat → List (Tag × Nat)
  | _ => []
def al75 : Nat → Option Nat
  | _ => none
def ms75 : Nat → Option (List (Option Tag × Nat × List Nat))
  | _ => none
def E75 (F : Nat) : Ev := ⟨cfg, 20, ctOf [], ord75, ctOf [], al75, ms75⟩
theorem cts75 (F : Nat) : CtsOk Tryd.prog (E75 F) := cts_of (l := []) (l' := []) rfl rfl trivial trivial
def L75_2c (F : Nat) (y7 : UInt64) (y8 : List UInt8) {β : Type} (kA : (UInt64 × (List UInt8)) → Option β) (kO : (UInt64 × (List UInt8)) → Option β) : Option β :=
  (bif (decide ((UInt64.ofNat 128) ≤ y7)) then (Option.bind (gapp y8 ([((y7.toUInt8) ||| (UInt8.ofNat 128))] : List UInt8)) fun x10 => (kA ((shr64 y7 ((UInt64.ofNat 7).toNat)), x10))) else (kO (y7, y8)))
def L75_2 (F : Nat) (y7 : UInt64) (y8 : List UInt8) : Option ((UInt64 × (List UInt8)) ⊕ (UInt64 × (List UInt8))) := L75_2c F y7 y8 (fun s => some (.inl s)) (fun z => some (.inr z))
theorem L75_2n (F : Nat) (y7 : UInt64) (y8 : List UInt8) {β : Type} (kA : (UInt64 × (List UInt8)) → Option β) (kO : (UInt64 × (List UInt8)) → Option β) : L75_2c F y7 y8 kA kO = (L75_2 F y7 y8).bind (elimS kA kO) := by
  simp only [L75_2, L75_2c, Option.bind_assoc, cond_bind, Option.bind_some, Option.bind_none, elimS_l, elimS_r, elimS_bind]
@[reducible] def sA75_2 : List Sh := [(.rw 0), .u64]
@[reducible] def sAp175_2 : List Sh := [(.rw 0), .u64]
@[reducible] def sT75_2 : List TSh := [.row 5 .u8]
@[reducible] def sTp175_2 : List TSh := [.row 5 .u8]
def lc75_2 (F : Nat) : Lc := mkL [0, 1] sA75_2 sT75_2 [0, 1] sAp175_2 sTp175_2 F (fun x y (s : UInt64 × (List UInt8)) => L75_2 F s.1 s.2) (fun x y => (x.2.1, y.1)) (fun x y (z : UInt64 × (List UInt8)) => (((), z.1, ()), (z.2, ())))
theorem le75_2 (F : Nat) (x : dens sA75_2) (y : tdens sT75_2) (s : UInt64 × (List UInt8)) : sev (E75 F) 0 [] (cAt (bodyOf Tryd.f75) (0 :: 0 :: [0, 1])) (0 :: 0 :: [0, 1]) (mkSt [0, 1] sA75_2 sT75_2 ((), s.1, ()) (s.2, ())) (kLoop 0 [0, 1] sA75_2 sT75_2 [0, 1] sAp175_2 sTp175_2 [] [] [] 0 (fun x y => some (.inl (x, y))) (fun x y => some (.inr (.inl (x, y)))) (fun x y => some (.inr (.inr (x, y))))) =
    L75_2c (β := Full sA75_2 sT75_2 sAp175_2 sTp175_2 [] []) F s.1 s.2 (fun s => some (.inl (((), s.1, ()), (s.2, ())))) (fun z => some (.inr (.inl (((), z.1, ()), (z.2, ()))))) := by kernel_rfl
theorem lo75_2 (F : Nat) : LcOk Tryd.prog (E75 F) 0 (lc75_2 F) (cAt (bodyOf Tryd.f75) [0, 1]) :=
  mkL_ok (lp := []) (id := 0) (b := cAt (bodyOf Tryd.f75) (0 :: 0 :: [0, 1])) cok (cts75 F) mixed trivial (by kernel_rfl) (by kernel_rfl) (fun x y s => ((), s.1, ())) (fun x y s => (s.2, ())) (fun x y => rfl) (fun x y => rfl) (fun x y s kA kO => L75_2c F s.1 s.2 kA kO) (fun x y s kA kO => L75_2n F s.1 s.2 kA kO) (le75_2 F)
def T75c (F : Nat) (p0 : UInt64) (p1 : List UInt8) {β : Type} (k : ((List UInt8)) → Option β) : Option β :=
  (Option.bind (iter (fun s => L75_2 F s.1 s.2) F (p0, p1)) fun z11 => (Option.bind (gapp z11.2 ([(z11.1.toUInt8)] : List UInt8)) fun x12 => (k x12)))
def T75 (F : Nat) (p0 : UInt64) (p1 : List UInt8) : Option ((List UInt8)) := T75c F p0 p1 some
theorem T75n (F : Nat) (p0 : UInt64) (p1 : List UInt8) {β : Type} (k : ((List UInt8)) → Option β) : T75c F p0 p1 k = (T75 F p0 p1).bind k := by
  simp only [T75, T75c, Option.bind_assoc, cond_bind, Option.bind_some, Option.bind_none, elimS_bind]
@[reducible] def cA75 : List Sh := [(.rw 0), .u64]
@[reducible] def cB75 : List Sh := [(.rw 0)]
@[reducible] def cT75 : List TSh := [.row 5 .u8]
@[reducible] def cU75 : List TSh := [.row 5 .u8]
def ct75 (F : Nat) : Ct := mkC 0 cA75 cT75 cB75 cU75 (fun x y => T75 F x.2.1 y.1) (fun x y (z : (List UInt8)) => (((), ()), (z, ())))
theorem eq75 (F : Nat) (x : dens cA75) (y : tdens cT75) : sev (E75 F) 0 [([0, 1], lc75_2 F)] (bodyOf Tryd.f75) [] (mkSt (rng 2) cA75 cT75 x y) (kFn (E75 F) 0 Tryd.f75.results.toList cB75 cU75 fun p q => some (p, q)) =
    T75c F x.2.1 y.1 (fun z => some (((), ()), (z, ()))) := by kernel_rfl
theorem ok75 (F : Nat) : Sound Tryd.prog cfg 75 (ct75 F) :=
  mkC_ok (E := E75 F) (lp := [([0, 1], lc75_2 F)]) (code := bodyOf Tryd.f75) Tryd.func75 rfl Tryd.ntmps75 rfl rfl cok (cts75 F) mixed ⟨lo75_2 F, trivial⟩ (by kernel_rfl) (fun x y k => T75c F x.2.1 y.1 k) (fun x y k => T75n F x.2.1 y.1 k) (eq75 F)
end Go.Proofs.YthikoaamigiceaaDoor
/- (*kinkeep/wire.Writer).Uint: its twin, and that the call does what the twin says. Printed by a program. -/
namespace Go.Proofs.YthikoaamigiceaaDoor
open Go.Tw
set_option linter.unusedSimpArgs false
set_option linter.unusedVariables false
def ord73 : Nat → List (Tag × Nat)
  | _ => []
def al73 : Nat → Option Nat
  | _ => none
def ms73 : Nat → Option (List (Option Tag × Nat × List Nat))
  | _ => none
def E73 (F : Nat) : Ev := ⟨cfg, 18, ctOf [(75, ct75 F)], ord73, ctOf [], al73, ms73⟩
theorem cts73 (F : Nat) : CtsOk Tryd.prog (E73 F) := cts_of (l := [(75, ct75 F)]) (l' := []) rfl rfl ⟨⟨ok75 F, _, Tryd.func75, rfl, rfl⟩, trivial⟩ trivial
def T73c (F : Nat) (p0 : UInt64) (p1 : Int) {β : Type} (k : ((List UInt8)) → Option β) : Option β :=
  (bif (p1 == (0 : Int)) then (Option.bind (T75 F p0 ([] : List UInt8)) fun z2 => (k z2)) else (k ([] : List UInt8)))
def T73 (F : Nat) (p0 : UInt64) (p1 : Int) : Option ((List UInt8)) := T73c F p0 p1 some
theorem T73n (F : Nat) (p0 : UInt64) (p1 : Int) {β : Type} (k : ((List UInt8)) → Option β) : T73c F p0 p1 k = (T73 F p0 p1).bind k := by
  simp only [T73, T73c, Option.bind_assoc, cond_bind, Option.bind_some, Option.bind_none, elimS_bind]
@[reducible] def cA73 : List Sh := [(.pt 0 []), .u64]
@[reducible] def cB73 : List Sh := []
@[reducible] def cT73 : List TSh := [.blk 112 (.pr .ns (.pr .i .un))]
@[reducible] def cU73 : List TSh := [.blk 112 (.pr (.rw 1) (.pr .i .un)), .row 5 .u8]
def ct73 (F : Nat) : Ct := mkC 1 cA73 cT73 cB73 cU73 (fun x y => T73 F x.2.1 y.1.2.1) (fun x y (z : (List UInt8)) => ((), (((), y.1.2.1, ()), z, ())))
theorem eq73 (F : Nat) (x : dens cA73) (y : tdens cT73) : sev (E73 F) 1 [] (bodyOf Tryd.f73) [] (mkSt (rng 2) cA73 cT73 x y) (kFn (E73 F) 1 Tryd.f73.results.toList cB73 cU73 fun p q => some (p, q)) =
    T73c F x.2.1 y.1.2.1 (fun z => some ((), (((), y.1.2.1, ()), z, ()))) := by kernel_rfl
theorem ok73 (F : Nat) : Sound Tryd.prog cfg 73 (ct73 F) :=
  mkC_ok (E := E73 F) (lp := []) (code := bodyOf Tryd.f73) Tryd.func73 rfl Tryd.ntmps73 rfl rfl cok (cts73 F) mixed trivial (by kernel_rfl) (fun x y k => T73c F x.2.1 y.1.2.1 k) (fun x y k => T73n F x.2.1 y.1.2.1 k) (eq73 F)
end Go.Proofs.YthikoaamigiceaaDoor
/- (*kinkeep/wire.Writer).Int: its twin, and that the call does what the twin says. Printed by a program. -/
namespace Go.Proofs.YthikoaamigiceaaDoor
open Go.Tw
set_option linter.unusedSimpArgs false
set_option linter.unusedVariables false
def ord44 : Nat → List (Tag × Nat)
  | _ => []
def al44 : Nat → Option Nat
  | _ => none
def ms44 : Nat → Option (List (Option Tag × Nat × List Nat))
  | _ => none
def E44 (F : Nat) : Ev := ⟨cfg, 8, ctOf [(74, ct74 F), (73, ct73 F)], ord44, ctOf [], al44, ms44⟩
theorem cts44 (F : Nat) : CtsOk Tryd.prog (E44 F) := cts_of (l := [(74, ct74 F), (73, ct73 F)]) (l' := []) rfl rfl ⟨⟨ok74 F, _, Tryd.func74, rfl, rfl⟩, ⟨⟨ok73 F, _, Tryd.func73, rfl, rfl⟩, trivial⟩⟩ trivial
def T44c (F : Nat) (p0 : Int) (p1 : Int) {β : Type} (k : ((List UInt8)) → Option β) : Option β :=
  (Option.bind (T74 F p0) fun z3 => (Option.bind (T73 F z3 p1) fun z4 => (k z4)))
def T44 (F : Nat) (p0 : Int) (p1 : Int) : Option ((List UInt8)) := T44c F p0 p1 some
theorem T44n (F : Nat) (p0 : Int) (p1 : Int) {β : Type} (k : ((List UInt8)) → Option β) : T44c F p0 p1 k = (T44 F p0 p1).bind k := by
  simp only [T44, T44c, Option.bind_assoc, cond_bind, Option.bind_some, Option.bind_none, elimS_bind]
@[reducible] def cA44 : List Sh := [(.pt 0 []), .i]
@[reducible] def cB44 : List Sh := []
@[reducible] def cT44 : List TSh := [.blk 112 (.pr .ns (.pr .i .un))]
@[reducible] def cU44 : List TSh := [.blk 112 (.pr (.rw 1) (.pr .i .un)), .row 5 .u8]
def ct44 (F : Nat) : Ct := mkC 1 cA44 cT44 cB44 cU44 (fun x y => T44 F x.2.1 y.1.2.1) (fun x y (z : (List UInt8)) => ((), (((), y.1.2.1, ()), z, ())))
theorem eq44 (F : Nat) (x : dens cA44) (y : tdens cT44) : sev (E44 F) 1 [] (bodyOf Tryd.f44) [] (mkSt (rng 2) cA44 cT44 x y) (kFn (E44 F) 1 Tryd.f44.results.toList cB44 cU44 fun p q => some (p, q)) =
    T44c F x.2.1 y.1.2.1 (fun z => some ((), (((), y.1.2.1, ()), z, ()))) := by kernel_rfl
theorem ok44 (F : Nat) : Sound Tryd.prog cfg 44 (ct44 F) :=
  mkC_ok (E := E44 F) (lp := []) (code := bodyOf Tryd.f44) Tryd.func44 rfl Tryd.ntmps44 rfl rfl cok (cts44 F) mixed trivial (by kernel_rfl) (fun x y k => T44c F x.2.1 y.1.2.1 k) (fun x y k => T44n F x.2.1 y.1.2.1 k) (eq44 F)
end Go.Proofs.YthikoaamigiceaaDoor
/- (*kinkeep/wire.Writer).Uint: its twin, and that the call does what the twin says. Printed by a program. -/
namespace Go.Proofs.YthikoaamigiceaaDoor
open Go.Tw
set_option linter.unusedSimpArgs false
set_option linter.unusedVariables false
def ord73x1 : Nat → List (Tag × Nat)
  | _ => []
def al73x1 : Nat → Option Nat
  | _ => none
def ms73x1 : Nat → Option (List (Option Tag × Nat × List Nat))
  | _ => none
def E73x1 (F : Nat) : Ev := ⟨cfg, 18, ctOf [(75, ct75 F)], ord73x1, ctOf [], al73x1, ms73x1⟩
theorem cts73x1 (F : Nat) : CtsOk Tryd.prog (E73x1 F) := cts_of (l := [(75, ct75 F)]) (l' := []) rfl rfl ⟨⟨ok75 F, _, Tryd.func75, rfl, rfl⟩, trivial⟩ trivial
def T73x1c (F : Nat) (p0 : UInt64) (p1 : Int) (p2 : List UInt8) {β : Type} (k : ((List UInt8)) → Option β) : Option β :=
  (bif (p1 == (0 : Int)) then (Option.bind (T75 F p0 p2) fun z2 => (k z2)) else (k p2))
def T73x1 (F : Nat) (p0 : UInt64) (p1 : Int) (p2 : List UInt8) : Option ((List UInt8)) := T73x1c F p0 p1 p2 some
theorem T73x1n (F : Nat) (p0 : UInt64) (p1 : Int) (p2 : List UInt8) {β : Type} (k : ((List UInt8)) → Option β) : T73x1c F p0 p1 p2 k = (T73x1 F p0 p1 p2).bind k := by
  simp only [T73x1, T73x1c, Option.bind_assoc, cond_bind, Option.bind_some, Option.bind_none, elimS_bind]
@[reducible] def cA73x1 : List Sh := [(.pt 0 []), .u64]
@[reducible] def cB73x1 : List Sh := []
@[reducible] def cT73x1 : List TSh := [.blk 112 (.pr (.rw 1) (.pr .i .un)), .row 5 .u8]
@[reducible] def cU73x1 : List TSh := [.blk 112 (.pr (.rw 1) (.pr .i .un)), .row 5 .u8]
def ct73x1 (F : Nat) : Ct := mkC 1 cA73x1 cT73x1 cB73x1 cU73x1 (fun x y => T73x1 F x.2.1 y.1.2.1 y.2.1) (fun x y (z : (List UInt8)) => ((), (((), y.1.2.1, ()), z, ())))
theorem eq73x1 (F : Nat) (x : dens cA73x1) (y : tdens cT73x1) : sev (E73x1 F) 1 [] (bodyOf Tryd.f73) [] (mkSt (rng 2) cA73x1 cT73x1 x y) (kFn (E73x1 F) 1 Tryd.f73.results.toList cB73x1 cU73x1 fun p q => some (p, q)) =
    T73x1c F x.2.1 y.1.2.1 y.2.1 (fun z => some ((), (((), y.1.2.1, ()), z, ()))) := by kernel_rfl
theorem ok73x1 (F : Nat) : Sound Tryd.prog cfg 73 (ct73x1 F) :=
  mkC_ok (E := E73x1 F) (lp := []) (code := bodyOf Tryd.f73) Tryd.func73 rfl Tryd.ntmps73 rfl rfl cok (cts73x1 F) mixed trivial (by kernel_rfl) (fun x y k => T73x1c F x.2.1 y.1.2.1 y.2.1 k) (fun x y k => T73x1n F x.2.1 y.1.2.1 y.2.1 k) (eq73x1 F)
end Go.Proofs.YthikoaamigiceaaDoor
/- (*kinkeep/wire.Writer).Int: its twin, and that the call does what the twin says. Printed by a program. -/
namespace Go.Proofs.YthikoaamigiceaaDoor
open Go.Tw
set_option linter.unusedSimpArgs false
set_option linter.unusedVariables false
def ord44x1 : Nat → List (Tag × Nat)
  | _ => []
def al44x1 : Nat → Option Nat
  | _ => none
def ms44x1 : Nat → Option (List (Option Tag × Nat × List Nat))
  | _ => none
def E44x1 (F : Nat) : Ev := ⟨cfg, 8, ctOf [(74, ct74 F), (73, ct73x1 F)], ord44x1, ctOf [], al44x1, ms44x1⟩
theorem cts44x1 (F : Nat) : CtsOk Tryd.prog (E44x1 F) := cts_of (l := [(74, ct74 F), (73, ct73x1 F)]) (l' := []) rfl rfl ⟨⟨ok74 F, _, Tryd.func74, rfl, rfl⟩, ⟨⟨ok73x1 F, _, Tryd.func73, rfl, rfl⟩, trivial⟩⟩ trivial
def T44x1c (F : Nat) (p0 : Int) (p1 : Int) (p2 : List UInt8) {β : Type} (k : ((List UInt8)) → Option β) : Option β :=
  (Option.bind (T74 F p0) fun z3 => (Option.bind (T73x1 F z3 p1 p2) fun z4 => (k z4)))
def T44x1 (F : Nat) (p0 : Int) (p1 : Int) (p2 : List UInt8) : Option ((List UInt8)) := T44x1c F p0 p1 p2 some
theorem T44x1n (F : Nat) (p0 : Int) (p1 : Int) (p2 : List UInt8) {β : Type} (k : ((List UInt8)) → Option β) : T44x1c F p0 p1 p2 k = (T44x1 F p0 p1 p2).bind k := by
  simp only [T44x1, T44x1c, Option.bind_assoc, cond_bind, Option.bind_some, Option.bind_none, elimS_bind]
@[reducible] def cA44x1 : List Sh := [(.pt 0 []), .i]
@[reducible] def cB44x1 : List Sh := []
@[reducible] def cT44x1 : List TSh := [.blk 112 (.pr (.rw 1) (.pr .i .un)), .row 5 .u8]
@[reducible] def cU44x1 : List TSh := [.blk 112 (.pr (.rw 2) (.pr .i .un)), .no, .row 5 .u8]
def ct44x1 (F : Nat) : Ct := mkC 2 cA44x1 cT44x1 cB44x1 cU44x1 (fun x y => T44x1 F x.2.1 y.1.2.1 y.2.1) (fun x y (z : (List UInt8)) => ((), (((), y.1.2.1, ()), (), z, ())))
theorem eq44x1 (F : Nat) (x : dens cA44x1) (y : tdens cT44x1) : sev (E44x1 F) 2 [] (bodyOf Tryd.f44) [] (mkSt (rng 2) cA44x1 cT44x1 x y) (kFn (E44x1 F) 2 Tryd.f44.results.toList cB44x1 cU44x1 fun p q => some (p, q)) =
    T44x1c F x.2.1 y.1.2.1 y.2.1 (fun z => some ((), (((), y.1.2.1, ()), (), z, ()))) := by kernel_rfl
theorem ok44x1 (F : Nat) : Sound Tryd.prog cfg 44 (ct44x1 F) :=
  mkC_ok (E := E44x1 F) (lp := []) (code := bodyOf Tryd.f44) Tryd.func44 rfl Tryd.ntmps44 rfl rfl cok (cts44x1 F) mixed trivial (by kernel_rfl) (fun x y k => T44x1c F x.2.1 y.1.2.1 y.2.1 k) (fun x y k => T44x1n F x.2.1 y.1.2.1 y.2.1 k) (eq44x1 F)
end Go.Proofs.YthikoaamigiceaaDoor
/- kinkeep/keyring.writeInts: its twin, and that the call does what the twin says. Printed by a program. -/
namespace Go.Proofs.YthikoaamigiceaaDoor
open Go.Tw
set_option linter.unusedSimpArgs false
set_option linter.unusedVariables false
def ord41 : Nat → List (Tag × Nat)
  | _ => []
def al41 : Nat → Option Nat
  | _ => none
def ms41 : Nat → Option (List (Option Tag × Nat × List Nat))
  | _ => none
def E41 (F : Nat) : Ev := ⟨cfg, 16, ctOf [(44, ct44 F), (44, ct44x1 F)], ord41, ctOf [], al41, ms41⟩
theorem cts41 (F : Nat) : CtsOk Tryd.prog (E41 F) := cts_of (l := [(44, ct44 F), (44, ct44x1 F)]) (l' := []) rfl rfl ⟨⟨ok44 F, _, Tryd.func44, rfl, rfl⟩, ⟨⟨ok44x1 F, _, Tryd.func44, rfl, rfl⟩, trivial⟩⟩ trivial
def L41_2c (F : Nat) (y23 : List Int) (y24 : Int) (y26 : Int) (y25 : Int) (y27 : List UInt8) {β : Type} (kA : (Int × (List UInt8)) → Option β) (kO : ((List UInt8)) → Option β) : Option β :=
  (bif (decide (y25 < y24)) then (Option.bind (ix y23 y25) fun x30 => (Option.bind (T44x1 F x30 y26 y27) fun z31 => (kA ((w64 (y25 + (1 : Int))), z31)))) else (kO y27))
def L41_2 (F : Nat) (y23 : List Int) (y24 : Int) (y26 : Int) (y25 : Int) (y27 : List UInt8) : Option ((Int × (List UInt8)) ⊕ ((List UInt8))) := L41_2c F y23 y24 y26 y25 y27 (fun s => some (.inl s)) (fun z => some (.inr z))
theorem L41_2n (F : Nat) (y23 : List Int) (y24 : Int) (y26 : Int) (y25 : Int) (y27 : List UInt8) {β : Type} (kA : (Int × (List UInt8)) → Option β) (kO : ((List UInt8)) → Option β) : L41_2c F y23 y24 y26 y25 y27 kA kO = (L41_2 F y23 y24 y26 y25 y27).bind (elimS kA kO) := by
  simp only [L41_2, L41_2c, Option.bind_assoc, cond_bind, Option.bind_some, Option.bind_none, elimS_l, elimS_r, elimS_bind]
@[reducible] def sA41_2 : List Sh := [(.pt 0 []), (.ro .i), .i, .i]
@[reducible] def sAp141_2 : List Sh := []
@[reducible] def sT41_2 : List TSh := [.blk 112 (.pr (.rw 1) (.pr .i .un)), .row 5 .u8]
@[reducible] def sTp141_2 : List TSh := [.blk 112 (.pr (.rw 1) (.pr .i .un)), .row 5 .u8]
def lc41_2 (F : Nat) : Lc := mkL [0, 6, 7, 8] sA41_2 sT41_2 [] sAp141_2 sTp141_2 F (fun x y (s : Int × (List UInt8)) => L41_2 F x.2.1 x.2.2.1 y.1.2.1 s.1 s.2) (fun x y => (x.2.2.2.1, y.2.1)) (fun x y (z : (List UInt8)) => ((), (((), y.1.2.1, ()), z, ())))
theorem le41_2 (F : Nat) (x : dens sA41_2) (y : tdens sT41_2) (s : Int × (List UInt8)) : sev (E41 F) 1 [] (cAt (bodyOf Tryd.f41) (0 :: 0 :: [1])) (0 :: 0 :: [1]) (mkSt [0, 6, 7, 8] sA41_2 sT41_2 ((), x.2.1, x.2.2.1, s.1, ()) (((), y.1.2.1, ()), s.2, ())) (kLoop 1 [0, 6, 7, 8] sA41_2 sT41_2 [] sAp141_2 sTp141_2 [] [] [] 0 (fun x y => some (.inl (x, y))) (fun x y => some (.inr (.inl (x, y)))) (fun x y => some (.inr (.inr (x, y))))) =
    L41_2c (β := Full sA41_2 sT41_2 sAp141_2 sTp141_2 [] []) F x.2.1 x.2.2.1 y.1.2.1 s.1 s.2 (fun s => some (.inl (((), x.2.1, x.2.2.1, s.1, ()), (((), y.1.2.1, ()), s.2, ())))) (fun z => some (.inr (.inl ((), (((), y.1.2.1, ()), z, ()))))) := by kernel_rfl
theorem lo41_2 (F : Nat) : LcOk Tryd.prog (E41 F) 1 (lc41_2 F) (cAt (bodyOf Tryd.f41) [1]) :=
  mkL_ok (lp := []) (id := 0) (b := cAt (bodyOf Tryd.f41) (0 :: 0 :: [1])) cok (cts41 F) mixed trivial (by kernel_rfl) (by kernel_rfl) (fun x y s => ((), x.2.1, x.2.2.1, s.1, ())) (fun x y s => (((), y.1.2.1, ()), s.2, ())) (fun x y => rfl) (fun x y => rfl) (fun x y s kA kO => L41_2c F x.2.1 x.2.2.1 y.1.2.1 s.1 s.2 kA kO) (fun x y s kA kO => L41_2n F x.2.1 x.2.2.1 y.1.2.1 s.1 s.2 kA kO) (le41_2 F)
def T41c (F : Nat) (p0 : List Int) (p1 : Int) {β : Type} (k : ((List UInt8)) → Option β) : Option β :=
  (Option.bind (iter (fun s => L41_2 F p0 (p0.length : Int) p1 s.1 s.2) F ((0 : Int), ([] : List UInt8))) fun z32 => (k z32))
def T41 (F : Nat) (p0 : List Int) (p1 : Int) : Option ((List UInt8)) := T41c F p0 p1 some
theorem T41n (F : Nat) (p0 : List Int) (p1 : Int) {β : Type} (k : ((List UInt8)) → Option β) : T41c F p0 p1 k = (T41 F p0 p1).bind k := by
  simp only [T41, T41c, Option.bind_assoc, cond_bind, Option.bind_some, Option.bind_none, elimS_bind]
@[reducible] def cA41 : List Sh := [(.pt 0 []), (.ro .i)]
@[reducible] def cB41 : List Sh := []
@[reducible] def cT41 : List TSh := [.blk 112 (.pr .ns (.pr .i .un))]
@[reducible] def cU41 : List TSh := [.blk 112 (.pr (.rw 1) (.pr .i .un)), .row 5 .u8]
def ct41 (F : Nat) : Ct := mkC 1 cA41 cT41 cB41 cU41 (fun x y => T41 F x.2.1 y.1.2.1) (fun x y (z : (List UInt8)) => ((), (((), y.1.2.1, ()), z, ())))
theorem eq41 (F : Nat) (x : dens cA41) (y : tdens cT41) : sev (E41 F) 1 [([1], lc41_2 F)] (bodyOf Tryd.f41) [] (mkSt (rng 2) cA41 cT41 x y) (kFn (E41 F) 1 Tryd.f41.results.toList cB41 cU41 fun p q => some (p, q)) =
    T41c F x.2.1 y.1.2.1 (fun z => some ((), (((), y.1.2.1, ()), z, ()))) := by kernel_rfl
theorem ok41 (F : Nat) : Sound Tryd.prog cfg 41 (ct41 F) :=
  mkC_ok (E := E41 F) (lp := [([1], lc41_2 F)]) (code := bodyOf Tryd.f41) Tryd.func41 rfl Tryd.ntmps41 rfl rfl cok (cts41 F) mixed ⟨lo41_2 F, trivial⟩ (by kernel_rfl) (fun x y k => T41c F x.2.1 y.1.2.1 k) (fun x y k => T41n F x.2.1 y.1.2.1 k) (eq41 F)
end Go.Proofs.YthikoaamigiceaaDoor
/- (*kinkeep/wire.Writer).Count: its twin, and that the call does what the twin says. Printed by a program. -/
namespace Go.Proofs.YthikoaamigiceaaDoor
open Go.Tw
set_option linter.unusedSimpArgs false
set_option linter.unusedVariables false
def ord72 : Nat → List (Tag × Nat)
  | _ => []
def al72 : Nat → Option Nat
  | _ => none
def ms72 : Nat → Option (List (Option Tag × Nat × List Nat))
  | _ => none
def E72 (F : Nat) : Ev := ⟨cfg, 18, ctOf [(73, ct73x1 F)], ord72, ctOf [], al72, ms72⟩
theorem cts72 (F : Nat) : CtsOk Tryd.prog (E72 F) := cts_of (l := [(73, ct73x1 F)]) (l' := []) rfl rfl ⟨⟨ok73x1 F, _, Tryd.func73, rfl, rfl⟩, trivial⟩ trivial
def T72c (F : Nat) (p0 : Int) (p1 : Int) (p2 : List UInt8) {β : Type} (k : (Int × (List UInt8)) → Option β) : Option β :=
  (bif (p1 != (0 : Int)) then (k (p1, p2)) else (bif (decide (p0 < (0 : Int))) then (k ((1 : Int), p2)) else (Option.bind (T73x1 F (UInt64.ofInt p0) p1 p2) fun z2 => (k (p1, z2)))))
def T72 (F : Nat) (p0 : Int) (p1 : Int) (p2 : List UInt8) : Option (Int × (List UInt8)) := T72c F p0 p1 p2 some
theorem T72n (F : Nat) (p0 : Int) (p1 : Int) (p2 : List UInt8) {β : Type} (k : (Int × (List UInt8)) → Option β) : T72c F p0 p1 p2 k = (T72 F p0 p1 p2).bind k := by
  simp only [T72, T72c, Option.bind_assoc, cond_bind, Option.bind_some, Option.bind_none, elimS_bind]
@[reducible] def cA72 : List Sh := [(.pt 0 []), .i]
@[reducible] def cB72 : List Sh := []
@[reducible] def cT72 : List TSh := [.blk 112 (.pr (.rw 1) (.pr .i .un)), .row 5 .u8]
@[reducible] def cU72 : List TSh := [.blk 112 (.pr (.rw 1) (.pr .i .un)), .row 5 .u8]
def ct72 (F : Nat) : Ct := mkC 1 cA72 cT72 cB72 cU72 (fun x y => T72 F x.2.1 y.1.2.1 y.2.1) (fun x y (z : Int × (List UInt8)) => ((), (((), z.1, ()), z.2, ())))
theorem eq72 (F : Nat) (x : dens cA72) (y : tdens cT72) : sev (E72 F) 1 [] (bodyOf Tryd.f72) [] (mkSt (rng 2) cA72 cT72 x y) (kFn (E72 F) 1 Tryd.f72.results.toList cB72 cU72 fun p q => some (p, q)) =
    T72c F x.2.1 y.1.2.1 y.2.1 (fun z => some ((), (((), z.1, ()), z.2, ()))) := by kernel_rfl
theorem ok72 (F : Nat) : Sound Tryd.prog cfg 72 (ct72 F) :=
  mkC_ok (E := E72 F) (lp := []) (code := bodyOf Tryd.f72) Tryd.func72 rfl Tryd.ntmps72 rfl rfl cok (cts72 F) mixed trivial (by kernel_rfl) (fun x y k => T72c F x.2.1 y.1.2.1 y.2.1 k) (fun x y k => T72n F x.2.1 y.1.2.1 y.2.1 k) (eq72 F)
end Go.Proofs.YthikoaamigiceaaDoor
/- kinkeep/keyring.EncodeIndex$1: its twin, and that the call does what the twin says. Printed by a program. -/
namespace Go.Proofs.YthikoaamigiceaaDoor
open Go.Tw
set_option linter.unusedSimpArgs false
set_option linter.unusedVariables false
def ord43 : Nat → List (Tag × Nat)
  | _ => []
def al43 : Nat → Option Nat
  | _ => none
def ms43 : Nat → Option (List (Option Tag × Nat × List Nat))
  | _ => none
def E43 (F : Nat) : Ev := ⟨cfg, 6, ctOf [(44, ct44x1 F)], ord43, ctOf [], al43, ms43⟩
theorem cts43 (F : Nat) : CtsOk Tryd.prog (E43 F) := cts_of (l := [(44, ct44x1 F)]) (l' := []) rfl rfl ⟨⟨ok44x1 F, _, Tryd.func44, rfl, rfl⟩, trivial⟩ trivial
def T43c (F : Nat) (p0 : Int) (p1 : Int) (p2 : List UInt8) {β : Type} (k : ((List UInt8)) → Option β) : Option β :=
  (Option.bind (T44x1 F p0 p1 p2) fun z2 => (k z2))
def T43 (F : Nat) (p0 : Int) (p1 : Int) (p2 : List UInt8) : Option ((List UInt8)) := T43c F p0 p1 p2 some
theorem T43n (F : Nat) (p0 : Int) (p1 : Int) (p2 : List UInt8) {β : Type} (k : ((List UInt8)) → Option β) : T43c F p0 p1 p2 k = (T43 F p0 p1 p2).bind k := by
  simp only [T43, T43c, Option.bind_assoc, cond_bind, Option.bind_some, Option.bind_none, elimS_bind]
@[reducible] def cA43 : List Sh := [.i, (.pt 0 [])]
@[reducible] def cB43 : List Sh := []
@[reducible] def cT43 : List TSh := [.blk 75 (.pt 1 []), .blk 112 (.pr (.rw 2) (.pr .i .un)), .row 5 .u8]
@[reducible] def cU43 : List TSh := [.blk 75 (.pt 1 []), .blk 112 (.pr (.rw 3) (.pr .i .un)), .no, .row 5 .u8]
def ct43 (F : Nat) : Ct := mkC 3 cA43 cT43 cB43 cU43 (fun x y => T43 F x.1 y.2.1.2.1 y.2.2.1) (fun x y (z : (List UInt8)) => ((), ((), ((), y.2.1.2.1, ()), (), z, ())))
theorem eq43 (F : Nat) (x : dens cA43) (y : tdens cT43) : sev (E43 F) 3 [] (bodyOf Tryd.f43) [] (mkSt (rng 2) cA43 cT43 x y) (kFn (E43 F) 3 Tryd.f43.results.toList cB43 cU43 fun p q => some (p, q)) =
    T43c F x.1 y.2.1.2.1 y.2.2.1 (fun z => some ((), ((), ((), y.2.1.2.1, ()), (), z, ()))) := by kernel_rfl
theorem ok43 (F : Nat) : Sound Tryd.prog cfg 43 (ct43 F) :=
  mkC_ok (E := E43 F) (lp := []) (code := bodyOf Tryd.f43) Tryd.func43 rfl Tryd.ntmps43 rfl rfl cok (cts43 F) mixed trivial (by kernel_rfl) (fun x y k => T43c F x.1 y.2.1.2.1 y.2.2.1 k) (fun x y k => T43n F x.1 y.2.1.2.1 y.2.2.1 k) (eq43 F)
end Go.Proofs.YthikoaamigiceaaDoor
/- kinkeep/keyring.writeList[int]: its twin, and that the call does what the twin says. Printed by a program. -/
namespace Go.Proofs.YthikoaamigiceaaDoor
open Go.Tw
set_option linter.unusedSimpArgs false
set_option linter.unusedVariables false
def ord42 : Nat → List (Tag × Nat)
  | _ => []
def al42 : Nat → Option Nat
  | _ => none
def ms42 : Nat → Option (List (Option Tag × Nat × List Nat))
  | _ => none
def E42 (F : Nat) : Ev := ⟨cfg, 22, ctOf [(72, ct72 F), (43, ct43 F)], ord42, ctOf [], al42, ms42⟩
theorem cts42 (F : Nat) : CtsOk Tryd.prog (E42 F) := cts_of (l := [(72, ct72 F), (43, ct43 F)]) (l' := []) rfl rfl ⟨⟨ok72 F, _, Tryd.func72, rfl, rfl⟩, ⟨⟨ok43 F, _, Tryd.func43, rfl, rfl⟩, trivial⟩⟩ trivial
def L42_2c (F : Nat) (y13 : List Int) (y14 : Int) (y16 : Int) (y15 : Int) (y17 : List UInt8) {β : Type} (kA : (Int × (List UInt8)) → Option β) (kO : ((List UInt8)) → Option β) : Option β :=
  (bif (decide (y15 < y14)) then (Option.bind (ix y13 y15) fun x20 => (Option.bind (T43 F x20 y16 y17) fun z21 => (kA ((w64 (y15 + (1 : Int))), z21)))) else (kO y17))
def L42_2 (F : Nat) (y13 : List Int) (y14 : Int) (y16 : Int) (y15 : Int) (y17 : List UInt8) : Option ((Int × (List UInt8)) ⊕ ((List UInt8))) := L42_2c F y13 y14 y16 y15 y17 (fun s => some (.inl s)) (fun z => some (.inr z))
theorem L42_2n (F : Nat) (y13 : List Int) (y14 : Int) (y16 : Int) (y15 : Int) (y17 : List UInt8) {β : Type} (kA : (Int × (List UInt8)) → Option β) (kO : ((List UInt8)) → Option β) : L42_2c F y13 y14 y16 y15 y17 kA kO = (L42_2 F y13 y14 y16 y15 y17).bind (elimS kA kO) := by
  simp only [L42_2, L42_2c, Option.bind_assoc, cond_bind, Option.bind_some, Option.bind_none, elimS_l, elimS_r, elimS_bind]
@[reducible] def sA42_2 : List Sh := [(.fn 43 .un (.pr (.pt 1 []) .un)), (.ro .i), .i, .i]
@[reducible] def sAp142_2 : List Sh := []
@[reducible] def sT42_2 : List TSh := [.blk 112 (.pr (.rw 3) (.pr .i .un)), .blk 75 (.pt 0 []), .no, .row 5 .u8]
@[reducible] def sTp142_2 : List TSh := [.blk 112 (.pr (.rw 3) (.pr .i .un)), .blk 75 (.pt 0 []), .no, .row 5 .u8]
def lc42_2 (F : Nat) : Lc := mkL [2, 12, 13, 14] sA42_2 sT42_2 [] sAp142_2 sTp142_2 F (fun x y (s : Int × (List UInt8)) => L42_2 F x.2.1 x.2.2.1 y.1.2.1 s.1 s.2) (fun x y => (x.2.2.2.1, y.2.2.2.1)) (fun x y (z : (List UInt8)) => ((), (((), y.1.2.1, ()), (), (), z, ())))
theorem le42_2 (F : Nat) (x : dens sA42_2) (y : tdens sT42_2) (s : Int × (List UInt8)) : sev (E42 F) 3 [] (cAt (bodyOf Tryd.f42) (0 :: 0 :: [1, 1])) (0 :: 0 :: [1, 1]) (mkSt [2, 12, 13, 14] sA42_2 sT42_2 (((), ((), ())), x.2.1, x.2.2.1, s.1, ()) (((), y.1.2.1, ()), (), (), s.2, ())) (kLoop 3 [2, 12, 13, 14] sA42_2 sT42_2 [] sAp142_2 sTp142_2 [] [] [] 0 (fun x y => some (.inl (x, y))) (fun x y => some (.inr (.inl (x, y)))) (fun x y => some (.inr (.inr (x, y))))) =
    L42_2c (β := Full sA42_2 sT42_2 sAp142_2 sTp142_2 [] []) F x.2.1 x.2.2.1 y.1.2.1 s.1 s.2 (fun s => some (.inl ((((), ((), ())), x.2.1, x.2.2.1, s.1, ()), (((), y.1.2.1, ()), (), (), s.2, ())))) (fun z => some (.inr (.inl ((), (((), y.1.2.1, ()), (), (), z, ()))))) := by kernel_rfl
theorem lo42_2 (F : Nat) : LcOk Tryd.prog (E42 F) 3 (lc42_2 F) (cAt (bodyOf Tryd.f42) [1, 1]) :=
  mkL_ok (lp := []) (id := 0) (b := cAt (bodyOf Tryd.f42) (0 :: 0 :: [1, 1])) cok (cts42 F) mixed trivial (by kernel_rfl) (by kernel_rfl) (fun x y s => (((), ((), ())), x.2.1, x.2.2.1, s.1, ())) (fun x y s => (((), y.1.2.1, ()), (), (), s.2, ())) (fun x y => rfl) (fun x y => rfl) (fun x y s kA kO => L42_2c F x.2.1 x.2.2.1 y.1.2.1 s.1 s.2 kA kO) (fun x y s kA kO => L42_2n F x.2.1 x.2.2.1 y.1.2.1 s.1 s.2 kA kO) (le42_2 F)
def T42c (F : Nat) (p0 : List Int) (p1 : Int) (p2 : List UInt8) {β : Type} (k : (Int × (List UInt8)) → Option β) : Option β :=
  (Option.bind (T72 F (p0.length : Int) p1 p2) fun z12 => (Option.bind (iter (fun s => L42_2 F p0 (p0.length : Int) z12.1 s.1 s.2) F ((0 : Int), z12.2)) fun z22 => (k (z12.1, z22))))
def T42 (F : Nat) (p0 : List Int) (p1 : Int) (p2 : List UInt8) : Option (Int × (List UInt8)) := T42c F p0 p1 p2 some
theorem T42n (F : Nat) (p0 : List Int) (p1 : Int) (p2 : List UInt8) {β : Type} (k : (Int × (List UInt8)) → Option β) : T42c F p0 p1 p2 k = (T42 F p0 p1 p2).bind k := by
  simp only [T42, T42c, Option.bind_assoc, cond_bind, Option.bind_some, Option.bind_none, elimS_bind]
@[reducible] def cA42 : List Sh := [(.pt 0 []), (.ro .i), (.fn 43 .un (.pr (.pt 1 []) .un))]
@[reducible] def cB42 : List Sh := []
@[reducible] def cT42 : List TSh := [.blk 112 (.pr (.rw 2) (.pr .i .un)), .blk 75 (.pt 0 []), .row 5 .u8]
@[reducible] def cU42 : List TSh := [.blk 112 (.pr (.rw 3) (.pr .i .un)), .blk 75 (.pt 0 []), .no, .row 5 .u8]
def ct42 (F : Nat) : Ct := mkC 3 cA42 cT42 cB42 cU42 (fun x y => T42 F x.2.1 y.1.2.1 y.2.2.1) (fun x y (z : Int × (List UInt8)) => ((), (((), z.1, ()), (), (), z.2, ())))
theorem eq42 (F : Nat) (x : dens cA42) (y : tdens cT42) : sev (E42 F) 3 [([1, 1], lc42_2 F)] (bodyOf Tryd.f42) [] (mkSt (rng 3) cA42 cT42 x y) (kFn (E42 F) 3 Tryd.f42.results.toList cB42 cU42 fun p q => some (p, q)) =
    T42c F x.2.1 y.1.2.1 y.2.2.1 (fun z => some ((), (((), z.1, ()), (), (), z.2, ()))) := by kernel_rfl
theorem ok42 (F : Nat) : Sound Tryd.prog cfg 42 (ct42 F) :=
  mkC_ok (E := E42 F) (lp := [([1, 1], lc42_2 F)]) (code := bodyOf Tryd.f42) Tryd.func42 rfl Tryd.ntmps42 rfl rfl cok (cts42 F) mixed ⟨lo42_2 F, trivial⟩ (by kernel_rfl) (fun x y k => T42c F x.2.1 y.1.2.1 y.2.2.1 k) (fun x y k => T42n F x.2.1 y.1.2.1 y.2.2.1 k) (eq42 F)
end Go.Proofs.YthikoaamigiceaaDoor
/- kinkeep/keyring.writeInts: its twin, and that the call does what the twin says. Printed by a program. -/
namespace Go.Proofs.YthikoaamigiceaaDoor
open Go.Tw
set_option linter.unusedSimpArgs false
set_option linter.unusedVariables false
def ord41x1 : Nat → List (Tag × Nat)
  | _ => []
def al41x1 : Nat → Option Nat
  | _ => none
def ms41x1 : Nat → Option (List (Option Tag × Nat × List Nat))
  | _ => none
def E41x1 (F : Nat) : Ev := ⟨cfg, 16, ctOf [(44, ct44x1 F)], ord41x1, ctOf [], al41x1, ms41x1⟩
theorem cts41x1 (F : Nat) : CtsOk Tryd.prog (E41x1 F) := cts_of (l := [(44, ct44x1 F)]) (l' := []) rfl rfl ⟨⟨ok44x1 F, _, Tryd.func44, rfl, rfl⟩, trivial⟩ trivial
def L41x1_2c (F : Nat) (y11 : List Int) (y12 : Int) (y14 : Int) (y13 : Int) (y15 : List UInt8) {β : Type} (kA : (Int × (List UInt8)) → Option β) (kO : ((List UInt8)) → Option β) : Option β :=
  (bif (decide (y13 < y12)) then (Option.bind (ix y11 y13) fun x18 => (Option.bind (T44x1 F x18 y14 y15) fun z19 => (kA ((w64 (y13 + (1 : Int))), z19)))) else (kO y15))
def L41x1_2 (F : Nat) (y11 : List Int) (y12 : Int) (y14 : Int) (y13 : Int) (y15 : List UInt8) : Option ((Int × (List UInt8)) ⊕ ((List UInt8))) := L41x1_2c F y11 y12 y14 y13 y15 (fun s => some (.inl s)) (fun z => some (.inr z))
theorem L41x1_2n (F : Nat) (y11 : List Int) (y12 : Int) (y14 : Int) (y13 : Int) (y15 : List UInt8) {β : Type} (kA : (Int × (List UInt8)) → Option β) (kO : ((List UInt8)) → Option β) : L41x1_2c F y11 y12 y14 y13 y15 kA kO = (L41x1_2 F y11 y12 y14 y13 y15).bind (elimS kA kO) := by
  simp only [L41x1_2, L41x1_2c, Option.bind_assoc, cond_bind, Option.bind_some, Option.bind_none, elimS_l, elimS_r, elimS_bind]
@[reducible] def sA41x1_2 : List Sh := [(.pt 0 []), (.ro .i), .i, .i]
@[reducible] def sAp141x1_2 : List Sh := []
@[reducible] def sT41x1_2 : List TSh := [.blk 112 (.pr (.rw 1) (.pr .i .un)), .row 5 .u8]
@[reducible] def sTp141x1_2 : List TSh := [.blk 112 (.pr (.rw 1) (.pr .i .un)), .row 5 .u8]
def lc41x1_2 (F : Nat) : Lc := mkL [0, 6, 7, 8] sA41x1_2 sT41x1_2 [] sAp141x1_2 sTp141x1_2 F (fun x y (s : Int × (List UInt8)) => L41x1_2 F x.2.1 x.2.2.1 y.1.2.1 s.1 s.2) (fun x y => (x.2.2.2.1, y.2.1)) (fun x y (z : (List UInt8)) => ((), (((), y.1.2.1, ()), z, ())))
theorem le41x1_2 (F : Nat) (x : dens sA41x1_2) (y : tdens sT41x1_2) (s : Int × (List UInt8)) : sev (E41x1 F) 1 [] (cAt (bodyOf Tryd.f41) (0 :: 0 :: [1])) (0 :: 0 :: [1]) (mkSt [0, 6, 7, 8] sA41x1_2 sT41x1_2 ((), x.2.1, x.2.2.1, s.1, ()) (((), y.1.2.1, ()), s.2, ())) (kLoop 1 [0, 6, 7, 8] sA41x1_2 sT41x1_2 [] sAp141x1_2 sTp141x1_2 [] [] [] 0 (fun x y => some (.inl (x, y))) (fun x y => some (.inr (.inl (x, y)))) (fun x y => some (.inr (.inr (x, y))))) =
    L41x1_2c (β := Full sA41x1_2 sT41x1_2 sAp141x1_2 sTp141x1_2 [] []) F x.2.1 x.2.2.1 y.1.2.1 s.1 s.2 (fun s => some (.inl (((), x.2.1, x.2.2.1, s.1, ()), (((), y.1.2.1, ()), s.2, ())))) (fun z => some (.inr (.inl ((), (((), y.1.2.1, ()), z, ()))))) := by kernel_rfl
theorem lo41x1_2 (F : Nat) : LcOk Tryd.prog (E41x1 F) 1 (lc41x1_2 F) (cAt (bodyOf Tryd.f41) [1]) :=
  mkL_ok (lp := []) (id := 0) (b := cAt (bodyOf Tryd.f41) (0 :: 0 :: [1])) cok (cts41x1 F) mixed trivial (by kernel_rfl) (by kernel_rfl) (fun x y s => ((), x.2.1, x.2.2.1, s.1, ())) (fun x y s => (((), y.1.2.1, ()), s.2, ())) (fun x y => rfl) (fun x y => rfl) (fun x y s kA kO => L41x1_2c F x.2.1 x.2.2.1 y.1.2.1 s.1 s.2 kA kO) (fun x y s kA kO => L41x1_2n F x.2.1 x.2.2.1 y.1.2.1 s.1 s.2 kA kO) (le41x1_2 F)
def T41x1c (F : Nat) (p0 : List Int) (p1 : Int) (p2 : List UInt8) {β : Type} (k : ((List UInt8)) → Option β) : Option β :=
  (Option.bind (iter (fun s => L41x1_2 F p0 (p0.length : Int) p1 s.1 s.2) F ((0 : Int), p2)) fun z20 => (k z20))
def T41x1 (F : Nat) (p0 : List Int) (p1 : Int) (p2 : List UInt8) : Option ((List UInt8)) := T41x1c F p0 p1 p2 some
theorem T41x1n (F : Nat) (p0 : List Int) (p1 : Int) (p2 : List UInt8) {β : Type} (k : ((List UInt8)) → Option β) : T41x1c F p0 p1 p2 k = (T41x1 F p0 p1 p2).bind k := by
  simp only [T41x1, T41x1c, Option.bind_assoc, cond_bind, Option.bind_some, Option.bind_none, elimS_bind]
@[reducible] def cA41x1 : List Sh := [(.pt 0 []), (.ro .i)]
@[reducible] def cB41x1 : List Sh := []
@[reducible] def cT41x1 : List TSh := [.blk 112 (.pr (.rw 1) (.pr .i .un)), .row 5 .u8]
@[reducible] def cU41x1 : List TSh := [.blk 112 (.pr (.rw 1) (.pr .i .un)), .row 5 .u8]
def ct41x1 (F : Nat) : Ct := mkC 1 cA41x1 cT41x1 cB41x1 cU41x1 (fun x y => T41x1 F x.2.1 y.1.2.1 y.2.1) (fun x y (z : (List UInt8)) => ((), (((), y.1.2.1, ()), z, ())))
theorem eq41x1 (F : Nat) (x : dens cA41x1) (y : tdens cT41x1) : sev (E41x1 F) 1 [([1], lc41x1_2 F)] (bodyOf Tryd.f41) [] (mkSt (rng 2) cA41x1 cT41x1 x y) (kFn (E41x1 F) 1 Tryd.f41.results.toList cB41x1 cU41x1 fun p q => some (p, q)) =
    T41x1c F x.2.1 y.1.2.1 y.2.1 (fun z => some ((), (((), y.1.2.1, ()), z, ()))) := by kernel_rfl
theorem ok41x1 (F : Nat) : Sound Tryd.prog cfg 41 (ct41x1 F) :=
  mkC_ok (E := E41x1 F) (lp := [([1], lc41x1_2 F)]) (code := bodyOf Tryd.f41) Tryd.func41 rfl Tryd.ntmps41 rfl rfl cok (cts41x1 F) mixed ⟨lo41x1_2 F, trivial⟩ (by kernel_rfl) (fun x y k => T41x1c F x.2.1 y.1.2.1 y.2.1 k) (fun x y k => T41x1n F x.2.1 y.1.2.1 y.2.1 k) (eq41x1 F)
end Go.Proofs.YthikoaamigiceaaDoor
/- (*kinkeep/wire.Writer).Sum: its twin, and that the call does what the twin says. Printed by a program. -/
namespace Go.Proofs.YthikoaamigiceaaDoor
open Go.Tw
set_option linter.unusedSimpArgs false
set_option linter.unusedVariables false
def ord53 : Nat → List (Tag × Nat)
  | _ => []
def al53 : Nat → Option Nat
  | _ => none
def ms53 : Nat → Option (List (Option Tag × Nat × List Nat))
  | _ => none
def E53 (F : Nat) : Ev := ⟨cfg, 24, ctOf [], ord53, ctOf [], al53, ms53⟩
theorem cts53 (F : Nat) : CtsOk Tryd.prog (E53 F) := cts_of (l := []) (l' := []) rfl rfl trivial trivial
def T53c (F : Nat) (p0 : List UInt8) (p1 : Int) (p2 : List UInt8) {β : Type} (k : (Int × (List UInt8)) → Option β) : Option β :=
  (bif (p1 != (0 : Int)) then (k (p1, p2)) else (bif ((p0.length : Int) != (32 : Int)) then (k ((1 : Int), p2)) else (Option.bind (gapp p2 p0) fun x2 => (k (p1, x2)))))
def T53 (F : Nat) (p0 : List UInt8) (p1 : Int) (p2 : List UInt8) : Option (Int × (List UInt8)) := T53c F p0 p1 p2 some
theorem T53n (F : Nat) (p0 : List UInt8) (p1 : Int) (p2 : List UInt8) {β : Type} (k : (Int × (List UInt8)) → Option β) : T53c F p0 p1 p2 k = (T53 F p0 p1 p2).bind k := by
  simp only [T53, T53c, Option.bind_assoc, cond_bind, Option.bind_some, Option.bind_none, elimS_bind]
@[reducible] def cA53 : List Sh := [(.pt 0 []), .str]
@[reducible] def cB53 : List Sh := []
@[reducible] def cT53 : List TSh := [.blk 112 (.pr (.rw 1) (.pr .i .un)), .row 5 .u8]
@[reducible] def cU53 : List TSh := [.blk 112 (.pr (.rw 1) (.pr .i .un)), .row 5 .u8]
def ct53 (F : Nat) : Ct := mkC 1 cA53 cT53 cB53 cU53 (fun x y => T53 F x.2.1 y.1.2.1 y.2.1) (fun x y (z : Int × (List UInt8)) => ((), (((), z.1, ()), z.2, ())))
theorem eq53 (F : Nat) (x : dens cA53) (y : tdens cT53) : sev (E53 F) 1 [] (bodyOf Tryd.f53) [] (mkSt (rng 2) cA53 cT53 x y) (kFn (E53 F) 1 Tryd.f53.results.toList cB53 cU53 fun p q => some (p, q)) =
    T53c F x.2.1 y.1.2.1 y.2.1 (fun z => some ((), (((), z.1, ()), z.2, ()))) := by kernel_rfl
theorem ok53 (F : Nat) : Sound Tryd.prog cfg 53 (ct53 F) :=
  mkC_ok (E := E53 F) (lp := []) (code := bodyOf Tryd.f53) Tryd.func53 rfl Tryd.ntmps53 rfl rfl cok (cts53 F) mixed trivial (by kernel_rfl) (fun x y k => T53c F x.2.1 y.1.2.1 y.2.1 k) (fun x y k => T53n F x.2.1 y.1.2.1 y.2.1 k) (eq53 F)
end Go.Proofs.YthikoaamigiceaaDoor
/- kinkeep/keyring.writeRef: its twin, and that the call does what the twin says. Printed by a program. -/
namespace Go.Proofs.YthikoaamigiceaaDoor
open Go.Tw
set_option linter.unusedSimpArgs false
set_option linter.unusedVariables false
def ord47 : Nat → List (Tag × Nat)
  | _ => []
def al47 : Nat → Option Nat
  | _ => none
def ms47 : Nat → Option (List (Option Tag × Nat × List Nat))
  | _ => none
def E47 (F : Nat) : Ev := ⟨cfg, 15, ctOf [(53, ct53 F), (41, ct41x1 F)], ord47, ctOf [], al47, ms47⟩
theorem cts47 (F : Nat) : CtsOk Tryd.prog (E47 F) := cts_of (l := [(53, ct53 F), (41, ct41x1 F)]) (l' := []) rfl rfl ⟨⟨ok53 F, _, Tryd.func53, rfl, rfl⟩, ⟨⟨ok41x1 F, _, Tryd.func41, rfl, rfl⟩, trivial⟩⟩ trivial
def T47c (F : Nat) (p0 : List UInt8) (p1 : Int) (p2 : Int) (p3 : Int) (p4 : List UInt8) {β : Type} (k : (Int × (List UInt8)) → Option β) : Option β :=
  (Option.bind (T53 F p0 p3 p4) fun z3 => (Option.bind (T41x1 F ([p1, p2] : List Int) z3.1 z3.2) fun z4 => (k (z3.1, z4))))
def T47 (F : Nat) (p0 : List UInt8) (p1 : Int) (p2 : Int) (p3 : Int) (p4 : List UInt8) : Option (Int × (List UInt8)) := T47c F p0 p1 p2 p3 p4 some
theorem T47n (F : Nat) (p0 : List UInt8) (p1 : Int) (p2 : Int) (p3 : Int) (p4 : List UInt8) {β : Type} (k : (Int × (List UInt8)) → Option β) : T47c F p0 p1 p2 p3 p4 k = (T47 F p0 p1 p2 p3 p4).bind k := by
  simp only [T47, T47c, Option.bind_assoc, cond_bind, Option.bind_some, Option.bind_none, elimS_bind]
@[reducible] def cA47 : List Sh := [(.pt 0 []), (.pr .str (.pr .i (.pr .i .un)))]
@[reducible] def cB47 : List Sh := []
@[reducible] def cT47 : List TSh := [.blk 112 (.pr (.rw 1) (.pr .i .un)), .row 5 .u8]
@[reducible] def cU47 : List TSh := [.blk 112 (.pr (.rw 2) (.pr .i .un)), .no, .row 5 .u8]
def ct47 (F : Nat) : Ct := mkC 2 cA47 cT47 cB47 cU47 (fun x y => T47 F x.2.1.1 x.2.1.2.1 x.2.1.2.2.1 y.1.2.1 y.2.1) (fun x y (z : Int × (List UInt8)) => ((), (((), z.1, ()), (), z.2, ())))
theorem eq47 (F : Nat) (x : dens cA47) (y : tdens cT47) : sev (E47 F) 2 [] (bodyOf Tryd.f47) [] (mkSt (rng 2) cA47 cT47 x y) (kFn (E47 F) 2 Tryd.f47.results.toList cB47 cU47 fun p q => some (p, q)) =
    T47c F x.2.1.1 x.2.1.2.1 x.2.1.2.2.1 y.1.2.1 y.2.1 (fun z => some ((), (((), z.1, ()), (), z.2, ()))) := by kernel_rfl
theorem ok47 (F : Nat) : Sound Tryd.prog cfg 47 (ct47 F) :=
  mkC_ok (E := E47 F) (lp := []) (code := bodyOf Tryd.f47) Tryd.func47 rfl Tryd.ntmps47 rfl rfl cok (cts47 F) mixed trivial (by kernel_rfl) (fun x y k => T47c F x.2.1.1 x.2.1.2.1 x.2.1.2.2.1 y.1.2.1 y.2.1 k) (fun x y k => T47n F x.2.1.1 x.2.1.2.1 x.2.1.2.2.1 y.1.2.1 y.2.1 k) (eq47 F)
end Go.Proofs.YthikoaamigiceaaDoor
/- (*kinkeep/wire.Writer).Text: its twin, and that the call does what the twin says. Printed by a program. -/
namespace Go.Proofs.YthikoaamigiceaaDoor
open Go.Tw
set_option linter.unusedSimpArgs false
set_option linter.unusedVariables false
def ord48 : Nat → List (Tag × Nat)
  | _ => []
def al48 : Nat → Option Nat
  | _ => none
def ms48 : Nat → Option (List (Option Tag × Nat × List Nat))
  | _ => none
def E48 (F : Nat) : Ev := ⟨cfg, 22, ctOf [(75, ct75 F)], ord48, ctOf [], al48, ms48⟩
theorem cts48 (F : Nat) : CtsOk Tryd.prog (E48 F) := cts_of (l := [(75, ct75 F)]) (l' := []) rfl rfl ⟨⟨ok75 F, _, Tryd.func75, rfl, rfl⟩, trivial⟩ trivial
def T48c (F : Nat) (p0 : List UInt8) (p1 : Int) (p2 : List UInt8) {β : Type} (k : ((List UInt8)) → Option β) : Option β :=
  (bif (p1 == (0 : Int)) then (Option.bind (T75 F (UInt64.ofInt (p0.length : Int)) p2) fun z3 => (Option.bind (gapp z3 p0) fun x4 => (k x4))) else (k p2))
def T48 (F : Nat) (p0 : List UInt8) (p1 : Int) (p2 : List UInt8) : Option ((List UInt8)) := T48c F p0 p1 p2 some
theorem T48n (F : Nat) (p0 : List UInt8) (p1 : Int) (p2 : List UInt8) {β : Type} (k : ((List UInt8)) → Option β) : T48c F p0 p1 p2 k = (T48 F p0 p1 p2).bind k := by
  simp only [T48, T48c, Option.bind_assoc, cond_bind, Option.bind_some, Option.bind_none, elimS_bind]
@[reducible] def cA48 : List Sh := [(.pt 0 []), .str]
@[reducible] def cB48 : List Sh := []
@[reducible] def cT48 : List TSh := [.blk 112 (.pr (.rw 1) (.pr .i .un)), .row 5 .u8]
@[reducible] def cU48 : List TSh := [.blk 112 (.pr (.rw 1) (.pr .i .un)), .row 5 .u8]
def ct48 (F : Nat) : Ct := mkC 1 cA48 cT48 cB48 cU48 (fun x y => T48 F x.2.1 y.1.2.1 y.2.1) (fun x y (z : (List UInt8)) => ((), (((), y.1.2.1, ()), z, ())))
theorem eq48 (F : Nat) (x : dens cA48) (y : tdens cT48) : sev (E48 F) 1 [] (bodyOf Tryd.f48) [] (mkSt (rng 2) cA48 cT48 x y) (kFn (E48 F) 1 Tryd.f48.results.toList cB48 cU48 fun p q => some (p, q)) =
    T48c F x.2.1 y.1.2.1 y.2.1 (fun z => some ((), (((), y.1.2.1, ()), z, ()))) := by kernel_rfl
theorem ok48 (F : Nat) : Sound Tryd.prog cfg 48 (ct48 F) :=
  mkC_ok (E := E48 F) (lp := []) (code := bodyOf Tryd.f48) Tryd.func48 rfl Tryd.ntmps48 rfl rfl cok (cts48 F) mixed trivial (by kernel_rfl) (fun x y k => T48c F x.2.1 y.1.2.1 y.2.1 k) (fun x y k => T48n F x.2.1 y.1.2.1 y.2.1 k) (eq48 F)
end Go.Proofs.YthikoaamigiceaaDoor
/- (*kinkeep/wire.Writer).Bool: its twin, and that the call does what the twin says. Printed by a program. -/
namespace Go.Proofs.YthikoaamigiceaaDoor
open Go.Tw
set_option linter.unusedSimpArgs false
set_option linter.unusedVariables false
def ord49 : Nat → List (Tag × Nat)
  | _ => []
def al49 : Nat → Option Nat
  | _ => none
def ms49 : Nat → Option (List (Option Tag × Nat × List Nat))
  | _ => none
def E49 (F : Nat) : Ev := ⟨cfg, 9, ctOf [(73, ct73x1 F)], ord49, ctOf [], al49, ms49⟩
theorem cts49 (F : Nat) : CtsOk Tryd.prog (E49 F) := cts_of (l := [(73, ct73x1 F)]) (l' := []) rfl rfl ⟨⟨ok73x1 F, _, Tryd.func73, rfl, rfl⟩, trivial⟩ trivial
def T49c (F : Nat) (p0 : Bool) (p1 : Int) (p2 : List UInt8) {β : Type} (k : ((List UInt8)) → Option β) : Option β :=
  (bif p0 then (Option.bind (T73x1 F (UInt64.ofNat 1) p1 p2) fun z3 => (k z3)) else (Option.bind (T73x1 F (UInt64.ofNat 0) p1 p2) fun z4 => (k z4)))
def T49 (F : Nat) (p0 : Bool) (p1 : Int) (p2 : List UInt8) : Option ((List UInt8)) := T49c F p0 p1 p2 some
theorem T49n (F : Nat) (p0 : Bool) (p1 : Int) (p2 : List UInt8) {β : Type} (k : ((List UInt8)) → Option β) : T49c F p0 p1 p2 k = (T49 F p0 p1 p2).bind k := by
  simp only [T49, T49c, Option.bind_assoc, cond_bind, Option.bind_some, Option.bind_none, elimS_bind]
@[reducible] def cA49 : List Sh := [(.pt 0 []), .bo]
@[reducible] def cB49 : List Sh := []
@[reducible] def cT49 : List TSh := [.blk 112 (.pr (.rw 1) (.pr .i .un)), .row 5 .u8]
@[reducible] def cU49 : List TSh := [.blk 112 (.pr (.rw 2) (.pr .i .un)), .no, .row 5 .u8]
def ct49 (F : Nat) : Ct := mkC 2 cA49 cT49 cB49 cU49 (fun x y => T49 F x.2.1 y.1.2.1 y.2.1) (fun x y (z : (List UInt8)) => ((), (((), y.1.2.1, ()), (), z, ())))
theorem eq49 (F : Nat) (x : dens cA49) (y : tdens cT49) : sev (E49 F) 2 [] (bodyOf Tryd.f49) [] (mkSt (rng 2) cA49 cT49 x y) (kFn (E49 F) 2 Tryd.f49.results.toList cB49 cU49 fun p q => some (p, q)) =
    T49c F x.2.1 y.1.2.1 y.2.1 (fun z => some ((), (((), y.1.2.1, ()), (), z, ()))) := by kernel_rfl
theorem ok49 (F : Nat) : Sound Tryd.prog cfg 49 (ct49 F) :=
  mkC_ok (E := E49 F) (lp := []) (code := bodyOf Tryd.f49) Tryd.func49 rfl Tryd.ntmps49 rfl rfl cok (cts49 F) mixed trivial (by kernel_rfl) (fun x y k => T49c F x.2.1 y.1.2.1 y.2.1 k) (fun x y k => T49n F x.2.1 y.1.2.1 y.2.1 k) (eq49 F)
end Go.Proofs.YthikoaamigiceaaDoor
/- kinkeep/keyring.EncodeIndex$2: its twin, and that the call does what the twin says. Printed by a program. -/
namespace Go.Proofs.YthikoaamigiceaaDoor
open Go.Tw
set_option linter.unusedSimpArgs false
set_option linter.unusedVariables false
def ord46 : Nat → List (Tag × Nat)
  | _ => []
def al46 : Nat → Option Nat
  | _ => none
def ms46 : Nat → Option (List (Option Tag × Nat × List Nat))
  | _ => none
def E46 (F : Nat) : Ev := ⟨cfg, 31, ctOf [(41, ct41x1 F), (47, ct47 F), (48, ct48 F), (49, ct49 F)], ord46, ctOf [], al46, ms46⟩
theorem cts46 (F : Nat) : CtsOk Tryd.prog (E46 F) := cts_of (l := [(41, ct41x1 F), (47, ct47 F), (48, ct48 F), (49, ct49 F)]) (l' := []) rfl rfl ⟨⟨ok41x1 F, _, Tryd.func41, rfl, rfl⟩, ⟨⟨ok47 F, _, Tryd.func47, rfl, rfl⟩, ⟨⟨ok48 F, _, Tryd.func48, rfl, rfl⟩, ⟨⟨ok49 F, _, Tryd.func49, rfl, rfl⟩, trivial⟩⟩⟩⟩ trivial
def T46c (F : Nat) (p0 : Int) (p1 : Int) (p2 : Int) (p3 : List UInt8) (p4 : Int) (p5 : Int) (p6 : Int) (p7 : Int) (p8 : List UInt8) (p9 : Bool) (p10 : Int) (p11 : List UInt8) {β : Type} (k : (Int × (List UInt8)) → Option β) : Option β :=
  (Option.bind (T41x1 F ([p0, p1, p2] : List Int) p10 p11) fun z6 => (Option.bind (T47 F p3 p4 p5 p10 z6) fun z7 => (Option.bind (T41x1 F ([p6, p7] : List Int) z7.1 z7.2) fun z8 => (Option.bind (T48 F p8 z7.1 z8) fun z9 => (Option.bind (T49 F p9 z7.1 z9) fun z10 => (k (z7.1, z10)))))))
def T46 (F : Nat) (p0 : Int) (p1 : Int) (p2 : Int) (p3 : List UInt8) (p4 : Int) (p5 : Int) (p6 : Int) (p7 : Int) (p8 : List UInt8) (p9 : Bool) (p10 : Int) (p11 : List UInt8) : Option (Int × (List UInt8)) := T46c F p0 p1 p2 p3 p4 p5 p6 p7 p8 p9 p10 p11 some
theorem T46n (F : Nat) (p0 : Int) (p1 : Int) (p2 : Int) (p3 : List UInt8) (p4 : Int) (p5 : Int) (p6 : Int) (p7 : Int) (p8 : List UInt8) (p9 : Bool) (p10 : Int) (p11 : List UInt8) {β : Type} (k : (Int × (List UInt8)) → Option β) : T46c F p0 p1 p2 p3 p4 p5 p6 p7 p8 p9 p10 p11 k = (T46 F p0 p1 p2 p3 p4 p5 p6 p7 p8 p9 p10 p11).bind k := by
  simp only [T46, T46c, Option.bind_assoc, cond_bind, Option.bind_some, Option.bind_none, elimS_bind]
@[reducible] def cA46 : List Sh := [(.pr .i (.pr .i (.pr .i (.pr (.pr .str (.pr .i (.pr .i .un))) (.pr .i (.pr .i (.pr .str (.pr .bo .un)))))))), (.pt 0 [])]
@[reducible] def cB46 : List Sh := []
@[reducible] def cT46 : List TSh := [.blk 75 (.pt 1 []), .blk 112 (.pr (.rw 2) (.pr .i .un)), .row 5 .u8]
@[reducible] def cU46 : List TSh := [.blk 75 (.pt 1 []), .blk 112 (.pr (.rw 3) (.pr .i .un)), .no, .row 5 .u8]
def ct46 (F : Nat) : Ct := mkC 3 cA46 cT46 cB46 cU46 (fun x y => T46 F x.1.1 x.1.2.1 x.1.2.2.1 x.1.2.2.2.1.1 x.1.2.2.2.1.2.1 x.1.2.2.2.1.2.2.1 x.1.2.2.2.2.1 x.1.2.2.2.2.2.1 x.1.2.2.2.2.2.2.1 x.1.2.2.2.2.2.2.2.1 y.2.1.2.1 y.2.2.1) (fun x y (z : Int × (List UInt8)) => ((), ((), ((), z.1, ()), (), z.2, ())))
theorem eq46 (F : Nat) (x : dens cA46) (y : tdens cT46) : sev (E46 F) 3 [] (bodyOf Tryd.f46) [] (mkSt (rng 2) cA46 cT46 x y) (kFn (E46 F) 3 Tryd.f46.results.toList cB46 cU46 fun p q => some (p, q)) =
    T46c F x.1.1 x.1.2.1 x.1.2.2.1 x.1.2.2.2.1.1 x.1.2.2.2.1.2.1 x.1.2.2.2.1.2.2.1 x.1.2.2.2.2.1 x.1.2.2.2.2.2.1 x.1.2.2.2.2.2.2.1 x.1.2.2.2.2.2.2.2.1 y.2.1.2.1 y.2.2.1 (fun z => some ((), ((), ((), z.1, ()), (), z.2, ()))) := by kernel_rfl
theorem ok46 (F : Nat) : Sound Tryd.prog cfg 46 (ct46 F) :=
  mkC_ok (E := E46 F) (lp := []) (code := bodyOf Tryd.f46) Tryd.func46 rfl Tryd.ntmps46 rfl rfl cok (cts46 F) mixed trivial (by kernel_rfl) (fun x y k => T46c F x.1.1 x.1.2.1 x.1.2.2.1 x.1.2.2.2.1.1 x.1.2.2.2.1.2.1 x.1.2.2.2.1.2.2.1 x.1.2.2.2.2.1 x.1.2.2.2.2.2.1 x.1.2.2.2.2.2.2.1 x.1.2.2.2.2.2.2.2.1 y.2.1.2.1 y.2.2.1 k) (fun x y k => T46n F x.1.1 x.1.2.1 x.1.2.2.1 x.1.2.2.2.1.1 x.1.2.2.2.1.2.1 x.1.2.2.2.1.2.2.1 x.1.2.2.2.2.1 x.1.2.2.2.2.2.1 x.1.2.2.2.2.2.2.1 x.1.2.2.2.2.2.2.2.1 y.2.1.2.1 y.2.2.1 k) (eq46 F)
end Go.Proofs.YthikoaamigiceaaDoor
/- kinkeep/keyring.writeList[kinkeep/api.Snapshot]: its twin, and that the call does what the twin says. Printed by a program. -/
namespace Go.Proofs.YthikoaamigiceaaDoor
open Go.Tw
set_option linter.unusedSimpArgs false
set_option linter.unusedVariables false
def ord45 : Nat → List (Tag × Nat)
  | _ => []
def al45 : Nat → Option Nat
  | _ => none
def ms45 : Nat → Option (List (Option Tag × Nat × List Nat))
  | _ => none
def E45 (F : Nat) : Ev := ⟨cfg, 22, ctOf [(72, ct72 F), (46, ct46 F)], ord45, ctOf [], al45, ms45⟩
theorem cts45 (F : Nat) : CtsOk Tryd.prog (E45 F) := cts_of (l := [(72, ct72 F), (46, ct46 F)]) (l' := []) rfl rfl ⟨⟨ok72 F, _, Tryd.func72, rfl, rfl⟩, ⟨⟨ok46 F, _, Tryd.func46, rfl, rfl⟩, trivial⟩⟩ trivial
def L45_2c (F : Nat) (y13 : List (Int × Int × Int × ((List UInt8) × Int × Int × Unit) × Int × Int × (List UInt8) × Bool × Unit)) (y14 : Int) (y15 : Int) (y16 : Int) (y17 : List UInt8) {β : Type} (kA : (Int × Int × (List UInt8)) → Option β) (kO : (Int × (List UInt8)) → Option β) : Option β :=
  (bif (decide (y15 < y14)) then (Option.bind (ix y13 y15) fun x20 => (Option.bind (T46 F x20.1 x20.2.1 x20.2.2.1 x20.2.2.2.1.1 x20.2.2.2.1.2.1 x20.2.2.2.1.2.2.1 x20.2.2.2.2.1 x20.2.2.2.2.2.1 x20.2.2.2.2.2.2.1 x20.2.2.2.2.2.2.2.1 y16 y17) fun z21 => (kA ((w64 (y15 + (1 : Int))), z21.1, z21.2)))) else (kO (y16, y17)))
def L45_2 (F : Nat) (y13 : List (Int × Int × Int × ((List UInt8) × Int × Int × Unit) × Int × Int × (List UInt8) × Bool × Unit)) (y14 : Int) (y15 : Int) (y16 : Int) (y17 : List UInt8) : Option ((Int × Int × (List UInt8)) ⊕ (Int × (List UInt8))) := L45_2c F y13 y14 y15 y16 y17 (fun s => some (.inl s)) (fun z => some (.inr z))
theorem L45_2n (F : Nat) (y13 : List (Int × Int × Int × ((List UInt8) × Int × Int × Unit) × Int × Int × (List UInt8) × Bool × Unit)) (y14 : Int) (y15 : Int) (y16 : Int) (y17 : List UInt8) {β : Type} (kA : (Int × Int × (List UInt8)) → Option β) (kO : (Int × (List UInt8)) → Option β) : L45_2c F y13 y14 y15 y16 y17 kA kO = (L45_2 F y13 y14 y15 y16 y17).bind (elimS kA kO) := by
  simp only [L45_2, L45_2c, Option.bind_assoc, cond_bind, Option.bind_some, Option.bind_none, elimS_l, elimS_r, elimS_bind]
@[reducible] def sA45_2 : List Sh := [(.fn 46 .un (.pr (.pt 1 []) .un)), (.ro (.pr .i (.pr .i (.pr .i (.pr (.pr .s (.pr .i (.pr .i .un))) (.pr .i (.pr .i (.pr .s (.pr .bo .un))))))))), .i, .i]
@[reducible] def sAp145_2 : List Sh := []
@[reducible] def sT45_2 : List TSh := [.blk 112 (.pr (.rw 3) (.pr .i .un)), .blk 75 (.pt 0 []), .no, .row 5 .u8]
@[reducible] def sTp145_2 : List TSh := [.blk 112 (.pr (.rw 3) (.pr .i .un)), .blk 75 (.pt 0 []), .no, .row 5 .u8]
def lc45_2 (F : Nat) : Lc := mkL [2, 12, 13, 14] sA45_2 sT45_2 [] sAp145_2 sTp145_2 F (fun x y (s : Int × Int × (List UInt8)) => L45_2 F x.2.1 x.2.2.1 s.1 s.2.1 s.2.2) (fun x y => (x.2.2.2.1, y.1.2.1, y.2.2.2.1)) (fun x y (z : Int × (List UInt8)) => ((), (((), z.1, ()), (), (), z.2, ())))
theorem le45_2 (F : Nat) (x : dens sA45_2) (y : tdens sT45_2) (s : Int × Int × (List UInt8)) : sev (E45 F) 3 [] (cAt (bodyOf Tryd.f45) (0 :: 0 :: [1, 1])) (0 :: 0 :: [1, 1]) (mkSt [2, 12, 13, 14] sA45_2 sT45_2 (((), ((), ())), x.2.1, x.2.2.1, s.1, ()) (((), s.2.1, ()), (), (), s.2.2, ())) (kLoop 3 [2, 12, 13, 14] sA45_2 sT45_2 [] sAp145_2 sTp145_2 [] [] [] 0 (fun x y => some (.inl (x, y))) (fun x y => some (.inr (.inl (x, y)))) (fun x y => some (.inr (.inr (x, y))))) =
    L45_2c (β := Full sA45_2 sT45_2 sAp145_2 sTp145_2 [] []) F x.2.1 x.2.2.1 s.1 s.2.1 s.2.2 (fun s => some (.inl ((((), ((), ())), x.2.1, x.2.2.1, s.1, ()), (((), s.2.1, ()), (), (), s.2.2, ())))) (fun z => some (.inr (.inl ((), (((), z.1, ()), (), (), z.2, ()))))) := by kernel_rfl
theorem lo45_2 (F : Nat) : LcOk Tryd.prog (E45 F) 3 (lc45_2 F) (cAt (bodyOf Tryd.f45) [1, 1]) :=
  mkL_ok (lp := []) (id := 0) (b := cAt (bodyOf Tryd.f45) (0 :: 0 :: [1, 1])) cok (cts45 F) mixed trivial (by kernel_rfl) (by kernel_rfl) (fun x y s => (((), ((), ())), x.2.1, x.2.2.1, s.1, ())) (fun x y s => (((), s.2.1, ()), (), (), s.2.2, ())) (fun x y => rfl) (fun x y => rfl) (fun x y s kA kO => L45_2c F x.2.1 x.2.2.1 s.1 s.2.1 s.2.2 kA kO) (fun x y s kA kO => L45_2n F x.2.1 x.2.2.1 s.1 s.2.1 s.2.2 kA kO) (le45_2 F)
def T45c (F : Nat) (p0 : List (Int × Int × Int × ((List UInt8) × Int × Int × Unit) × Int × Int × (List UInt8) × Bool × Unit)) (p1 : Int) (p2 : List UInt8) {β : Type} (k : (Int × (List UInt8)) → Option β) : Option β :=
  (Option.bind (T72 F (p0.length : Int) p1 p2) fun z12 => (Option.bind (iter (fun s => L45_2 F p0 (p0.length : Int) s.1 s.2.1 s.2.2) F ((0 : Int), z12.1, z12.2)) fun z22 => (k (z22.1, z22.2))))
def T45 (F : Nat) (p0 : List (Int × Int × Int × ((List UInt8) × Int × Int × Unit) × Int × Int × (List UInt8) × Bool × Unit)) (p1 : Int) (p2 : List UInt8) : Option (Int × (List UInt8)) := T45c F p0 p1 p2 some
theorem T45n (F : Nat) (p0 : List (Int × Int × Int × ((List UInt8) × Int × Int × Unit) × Int × Int × (List UInt8) × Bool × Unit)) (p1 : Int) (p2 : List UInt8) {β : Type} (k : (Int × (List UInt8)) → Option β) : T45c F p0 p1 p2 k = (T45 F p0 p1 p2).bind k := by
  simp only [T45, T45c, Option.bind_assoc, cond_bind, Option.bind_some, Option.bind_none, elimS_bind]
@[reducible] def cA45 : List Sh := [(.pt 0 []), (.ro (.pr .i (.pr .i (.pr .i (.pr (.pr .s (.pr .i (.pr .i .un))) (.pr .i (.pr .i (.pr .s (.pr .bo .un))))))))), (.fn 46 .un (.pr (.pt 1 []) .un))]
@[reducible] def cB45 : List Sh := []
@[reducible] def cT45 : List TSh := [.blk 112 (.pr (.rw 2) (.pr .i .un)), .blk 75 (.pt 0 []), .row 5 .u8]
@[reducible] def cU45 : List TSh := [.blk 112 (.pr (.rw 3) (.pr .i .un)), .blk 75 (.pt 0 []), .no, .row 5 .u8]
def ct45 (F : Nat) : Ct := mkC 3 cA45 cT45 cB45 cU45 (fun x y => T45 F x.2.1 y.1.2.1 y.2.2.1) (fun x y (z : Int × (List UInt8)) => ((), (((), z.1, ()), (), (), z.2, ())))
theorem eq45 (F : Nat) (x : dens cA45) (y : tdens cT45) : sev (E45 F) 3 [([1, 1], lc45_2 F)] (bodyOf Tryd.f45) [] (mkSt (rng 3) cA45 cT45 x y) (kFn (E45 F) 3 Tryd.f45.results.toList cB45 cU45 fun p q => some (p, q)) =
    T45c F x.2.1 y.1.2.1 y.2.2.1 (fun z => some ((), (((), z.1, ()), (), (), z.2, ()))) := by kernel_rfl
theorem ok45 (F : Nat) : Sound Tryd.prog cfg 45 (ct45 F) :=
  mkC_ok (E := E45 F) (lp := [([1, 1], lc45_2 F)]) (code := bodyOf Tryd.f45) Tryd.func45 rfl Tryd.ntmps45 rfl rfl cok (cts45 F) mixed ⟨lo45_2 F, trivial⟩ (by kernel_rfl) (fun x y k => T45c F x.2.1 y.1.2.1 y.2.2.1 k) (fun x y k => T45n F x.2.1 y.1.2.1 y.2.2.1 k) (eq45 F)
end Go.Proofs.YthikoaamigiceaaDoor
/- kinkeep/keyring.EncodeIndex$3: its twin, and that the call does what the twin says. Printed by a program. -/
namespace Go.Proofs.YthikoaamigiceaaDoor
open Go.Tw
set_option linter.unusedSimpArgs false
set_option linter.unusedVariables false
def ord50 : Nat → List (Tag × Nat)
  | _ => []
def al50 : Nat → Option Nat
  | _ => none
def ms50 : Nat → Option (List (Option Tag × Nat × List Nat))
  | _ => none
def E50 (F : Nat) : Ev := ⟨cfg, 6, ctOf [(47, ct47 F)], ord50, ctOf [], al50, ms50⟩
theorem cts50 (F : Nat) : CtsOk Tryd.prog (E50 F) := cts_of (l := [(47, ct47 F)]) (l' := []) rfl rfl ⟨⟨ok47 F, _, Tryd.func47, rfl, rfl⟩, trivial⟩ trivial
def T50c (F : Nat) (p0 : List UInt8) (p1 : Int) (p2 : Int) (p3 : Int) (p4 : List UInt8) {β : Type} (k : (Int × (List UInt8)) → Option β) : Option β :=
  (Option.bind (T47 F p0 p1 p2 p3 p4) fun z2 => (k (z2.1, z2.2)))
def T50 (F : Nat) (p0 : List UInt8) (p1 : Int) (p2 : Int) (p3 : Int) (p4 : List UInt8) : Option (Int × (List UInt8)) := T50c F p0 p1 p2 p3 p4 some
theorem T50n (F : Nat) (p0 : List UInt8) (p1 : Int) (p2 : Int) (p3 : Int) (p4 : List UInt8) {β : Type} (k : (Int × (List UInt8)) → Option β) : T50c F p0 p1 p2 p3 p4 k = (T50 F p0 p1 p2 p3 p4).bind k := by
  simp only [T50, T50c, Option.bind_assoc, cond_bind, Option.bind_some, Option.bind_none, elimS_bind]
@[reducible] def cA50 : List Sh := [(.pr .str (.pr .i (.pr .i .un))), (.pt 0 [])]
@[reducible] def cB50 : List Sh := []
@[reducible] def cT50 : List TSh := [.blk 75 (.pt 1 []), .blk 112 (.pr (.rw 2) (.pr .i .un)), .row 5 .u8]
@[reducible] def cU50 : List TSh := [.blk 75 (.pt 1 []), .blk 112 (.pr (.rw 3) (.pr .i .un)), .no, .row 5 .u8]
def ct50 (F : Nat) : Ct := mkC 3 cA50 cT50 cB50 cU50 (fun x y => T50 F x.1.1 x.1.2.1 x.1.2.2.1 y.2.1.2.1 y.2.2.1) (fun x y (z : Int × (List UInt8)) => ((), ((), ((), z.1, ()), (), z.2, ())))
theorem eq50 (F : Nat) (x : dens cA50) (y : tdens cT50) : sev (E50 F) 3 [] (bodyOf Tryd.f50) [] (mkSt (rng 2) cA50 cT50 x y) (kFn (E50 F) 3 Tryd.f50.results.toList cB50 cU50 fun p q => some (p, q)) =
    T50c F x.1.1 x.1.2.1 x.1.2.2.1 y.2.1.2.1 y.2.2.1 (fun z => some ((), ((), ((), z.1, ()), (), z.2, ()))) := by kernel_rfl
theorem ok50 (F : Nat) : Sound Tryd.prog cfg 50 (ct50 F) :=
  mkC_ok (E := E50 F) (lp := []) (code := bodyOf Tryd.f50) Tryd.func50 rfl Tryd.ntmps50 rfl rfl cok (cts50 F) mixed trivial (by kernel_rfl) (fun x y k => T50c F x.1.1 x.1.2.1 x.1.2.2.1 y.2.1.2.1 y.2.2.1 k) (fun x y k => T50n F x.1.1 x.1.2.1 x.1.2.2.1 y.2.1.2.1 y.2.2.1 k) (eq50 F)
end Go.Proofs.YthikoaamigiceaaDoor
/- kinkeep/keyring.writeList[kinkeep/api.Ref]: its twin, and that the call does what the twin says. Printed by a program. -/
namespace Go.Proofs.YthikoaamigiceaaDoor
open Go.Tw
set_option linter.unusedSimpArgs false
set_option linter.unusedVariables false
def ord54 : Nat → List (Tag × Nat)
  | _ => []
def al54 : Nat → Option Nat
  | _ => none
def ms54 : Nat → Option (List (Option Tag × Nat × List Nat))
  | _ => none
def E54 (F : Nat) : Ev := ⟨cfg, 22, ctOf [(72, ct72 F), (50, ct50 F)], ord54, ctOf [], al54, ms54⟩
theorem cts54 (F : Nat) : CtsOk Tryd.prog (E54 F) := cts_of (l := [(72, ct72 F), (50, ct50 F)]) (l' := []) rfl rfl ⟨⟨ok72 F, _, Tryd.func72, rfl, rfl⟩, ⟨⟨ok50 F, _, Tryd.func50, rfl, rfl⟩, trivial⟩⟩ trivial
def L54_2c (F : Nat) (y13 : List ((List UInt8) × Int × Int × Unit)) (y14 : Int) (y15 : Int) (y16 : Int) (y17 : List UInt8) {β : Type} (kA : (Int × Int × (List UInt8)) → Option β) (kO : (Int × (List UInt8)) → Option β) : Option β :=
  (bif (decide (y15 < y14)) then (Option.bind (ix y13 y15) fun x20 => (Option.bind (T50 F x20.1 x20.2.1 x20.2.2.1 y16 y17) fun z21 => (kA ((w64 (y15 + (1 : Int))), z21.1, z21.2)))) else (kO (y16, y17)))
def L54_2 (F : Nat) (y13 : List ((List UInt8) × Int × Int × Unit)) (y14 : Int) (y15 : Int) (y16 : Int) (y17 : List UInt8) : Option ((Int × Int × (List UInt8)) ⊕ (Int × (List UInt8))) := L54_2c F y13 y14 y15 y16 y17 (fun s => some (.inl s)) (fun z => some (.inr z))
theorem L54_2n (F : Nat) (y13 : List ((List UInt8) × Int × Int × Unit)) (y14 : Int) (y15 : Int) (y16 : Int) (y17 : List UInt8) {β : Type} (kA : (Int × Int × (List UInt8)) → Option β) (kO : (Int × (List UInt8)) → Option β) : L54_2c F y13 y14 y15 y16 y17 kA kO = (L54_2 F y13 y14 y15 y16 y17).bind (elimS kA kO) := by
  simp only [L54_2, L54_2c, Option.bind_assoc, cond_bind, Option.bind_some, Option.bind_none, elimS_l, elimS_r, elimS_bind]
@[reducible] def sA54_2 : List Sh := [(.fn 50 .un (.pr (.pt 1 []) .un)), (.ro (.pr .s (.pr .i (.pr .i .un)))), .i, .i]
@[reducible] def sAp154_2 : List Sh := []
@[reducible] def sT54_2 : List TSh := [.blk 112 (.pr (.rw 3) (.pr .i .un)), .blk 75 (.pt 0 []), .no, .row 5 .u8]
@[reducible] def sTp154_2 : List TSh := [.blk 112 (.pr (.rw 3) (.pr .i .un)), .blk 75 (.pt 0 []), .no, .row 5 .u8]
def lc54_2 (F : Nat) : Lc := mkL [2, 12, 13, 14] sA54_2 sT54_2 [] sAp154_2 sTp154_2 F (fun x y (s : Int × Int × (List UInt8)) => L54_2 F x.2.1 x.2.2.1 s.1 s.2.1 s.2.2) (fun x y => (x.2.2.2.1, y.1.2.1, y.2.2.2.1)) (fun x y (z : Int × (List UInt8)) => ((), (((), z.1, ()), (), (), z.2, ())))
theorem le54_2 (F : Nat) (x : dens sA54_2) (y : tdens sT54_2) (s : Int × Int × (List UInt8)) : sev (E54 F) 3 [] (cAt (bodyOf Tryd.f54) (0 :: 0 :: [1, 1])) (0 :: 0 :: [1, 1]) (mkSt [2, 12, 13, 14] sA54_2 sT54_2 (((), ((), ())), x.2.1, x.2.2.1, s.1, ()) (((), s.2.1, ()), (), (), s.2.2, ())) (kLoop 3 [2, 12, 13, 14] sA54_2 sT54_2 [] sAp154_2 sTp154_2 [] [] [] 0 (fun x y => some (.inl (x, y))) (fun x y => some (.inr (.inl (x, y)))) (fun x y => some (.inr (.inr (x, y))))) =
    L54_2c (β := Full sA54_2 sT54_2 sAp154_2 sTp154_2 [] []) F x.2.1 x.2.2.1 s.1 s.2.1 s.2.2 (fun s => some (.inl ((((), ((), ())), x.2.1, x.2.2.1, s.1, ()), (((), s.2.1, ()), (), (), s.2.2, ())))) (fun z => some (.inr (.inl ((), (((), z.1, ()), (), (), z.2, ()))))) := by kernel_rfl
theorem lo54_2 (F : Nat) : LcOk Tryd.prog (E54 F) 3 (lc54_2 F) (cAt (bodyOf Tryd.f54) [1, 1]) :=
  mkL_ok (lp := []) (id := 0) (b := cAt (bodyOf Tryd.f54) (0 :: 0 :: [1, 1])) cok (cts54 F) mixed trivial (by kernel_rfl) (by kernel_rfl) (fun x y s => (((), ((), ())), x.2.1, x.2.2.1, s.1, ())) (fun x y s => (((), s.2.1, ()), (), (), s.2.2, ())) (fun x y => rfl) (fun x y => rfl) (fun x y s kA kO => L54_2c F x.2.1 x.2.2.1 s.1 s.2.1 s.2.2 kA kO) (fun x y s kA kO => L54_2n F x.2.1 x.2.2.1 s.1 s.2.1 s.2.2 kA kO) (le54_2 F)
def T54c (F : Nat) (p0 : List ((List UInt8) × Int × Int × Unit)) (p1 : Int) (p2 : List UInt8) {β : Type} (k : (Int × (List UInt8)) → Option β) : Option β :=
  (Option.bind (T72 F (p0.length : Int) p1 p2) fun z12 => (Option.bind (iter (fun s => L54_2 F p0 (p0.length : Int) s.1 s.2.1 s.2.2) F ((0 : Int), z12.1, z12.2)) fun z22 => (k (z22.1, z22.2))))
def T54 (F : Nat) (p0 : List ((List UInt8) × Int × Int × Unit)) (p1 : Int) (p2 : List UInt8) : Option (Int × (List UInt8)) := T54c F p0 p1 p2 some
theorem T54n (F : Nat) (p0 : List ((List UInt8) × Int × Int × Unit)) (p1 : Int) (p2 : List UInt8) {β : Type} (k : (Int × (List UInt8)) → Option β) : T54c F p0 p1 p2 k = (T54 F p0 p1 p2).bind k := by
  simp only [T54, T54c, Option.bind_assoc, cond_bind, Option.bind_some, Option.bind_none, elimS_bind]
@[reducible] def cA54 : List Sh := [(.pt 0 []), (.ro (.pr .s (.pr .i (.pr .i .un)))), (.fn 50 .un (.pr (.pt 1 []) .un))]
@[reducible] def cB54 : List Sh := []
@[reducible] def cT54 : List TSh := [.blk 112 (.pr (.rw 2) (.pr .i .un)), .blk 75 (.pt 0 []), .row 5 .u8]
@[reducible] def cU54 : List TSh := [.blk 112 (.pr (.rw 3) (.pr .i .un)), .blk 75 (.pt 0 []), .no, .row 5 .u8]
def ct54 (F : Nat) : Ct := mkC 3 cA54 cT54 cB54 cU54 (fun x y => T54 F x.2.1 y.1.2.1 y.2.2.1) (fun x y (z : Int × (List UInt8)) => ((), (((), z.1, ()), (), (), z.2, ())))
theorem eq54 (F : Nat) (x : dens cA54) (y : tdens cT54) : sev (E54 F) 3 [([1, 1], lc54_2 F)] (bodyOf Tryd.f54) [] (mkSt (rng 3) cA54 cT54 x y) (kFn (E54 F) 3 Tryd.f54.results.toList cB54 cU54 fun p q => some (p, q)) =
    T54c F x.2.1 y.1.2.1 y.2.2.1 (fun z => some ((), (((), z.1, ()), (), (), z.2, ()))) := by kernel_rfl
theorem ok54 (F : Nat) : Sound Tryd.prog cfg 54 (ct54 F) :=
  mkC_ok (E := E54 F) (lp := [([1, 1], lc54_2 F)]) (code := bodyOf Tryd.f54) Tryd.func54 rfl Tryd.ntmps54 rfl rfl cok (cts54 F) mixed ⟨lo54_2 F, trivial⟩ (by kernel_rfl) (fun x y k => T54c F x.2.1 y.1.2.1 y.2.2.1 k) (fun x y k => T54n F x.2.1 y.1.2.1 y.2.2.1 k) (eq54 F)
end Go.Proofs.YthikoaamigiceaaDoor
/- kinkeep/keyring.EncodeIndex$4: its twin, and that the call does what the twin says. Printed by a program. -/
namespace Go.Proofs.YthikoaamigiceaaDoor
open Go.Tw
set_option linter.unusedSimpArgs false
set_option linter.unusedVariables false
def ord52 : Nat → List (Tag × Nat)
  | _ => []
def al52 : Nat → Option Nat
  | _ => none
def ms52 : Nat → Option (List (Option Tag × Nat × List Nat))
  | _ => none
def E52 (F : Nat) : Ev := ⟨cfg, 24, ctOf [(53, ct53 F), (41, ct41x1 F), (54, ct54 F)], ord52, ctOf [], al52, ms52⟩
theorem cts52 (F : Nat) : CtsOk Tryd.prog (E52 F) := cts_of (l := [(53, ct53 F), (41, ct41x1 F), (54, ct54 F)]) (l' := []) rfl rfl ⟨⟨ok53 F, _, Tryd.func53, rfl, rfl⟩, ⟨⟨ok41x1 F, _, Tryd.func41, rfl, rfl⟩, ⟨⟨ok54 F, _, Tryd.func54, rfl, rfl⟩, trivial⟩⟩⟩ trivial
def T52c (F : Nat) (p0 : List UInt8) (p1 : Int) (p2 : Int) (p3 : Int) (p4 : Int) (p5 : List ((List UInt8) × Int × Int × Unit)) (p6 : Int) (p7 : List UInt8) {β : Type} (k : (Int × (List UInt8)) → Option β) : Option β :=
  (Option.bind (T53 F p0 p6 p7) fun z4 => (Option.bind (T41x1 F ([p1, p2, p3, p4] : List Int) z4.1 z4.2) fun z5 => (Option.bind (T54 F p5 z4.1 z5) fun z6 => (k (z6.1, z6.2)))))
def T52 (F : Nat) (p0 : List UInt8) (p1 : Int) (p2 : Int) (p3 : Int) (p4 : Int) (p5 : List ((List UInt8) × Int × Int × Unit)) (p6 : Int) (p7 : List UInt8) : Option (Int × (List UInt8)) := T52c F p0 p1 p2 p3 p4 p5 p6 p7 some
theorem T52n (F : Nat) (p0 : List UInt8) (p1 : Int) (p2 : Int) (p3 : Int) (p4 : Int) (p5 : List ((List UInt8) × Int × Int × Unit)) (p6 : Int) (p7 : List UInt8) {β : Type} (k : (Int × (List UInt8)) → Option β) : T52c F p0 p1 p2 p3 p4 p5 p6 p7 k = (T52 F p0 p1 p2 p3 p4 p5 p6 p7).bind k := by
  simp only [T52, T52c, Option.bind_assoc, cond_bind, Option.bind_some, Option.bind_none, elimS_bind]
@[reducible] def cA52 : List Sh := [(.pr .str (.pr .i (.pr .i (.pr .i (.pr .i (.pr (.ro (.pr .s (.pr .i (.pr .i .un)))) .un)))))), (.pt 0 []), (.pt 1 [])]
@[reducible] def cB52 : List Sh := []
@[reducible] def cT52 : List TSh := [.blk 75 (.pt 2 []), .blk 89 (.fn 50 .un (.pr (.pt 0 []) .un)), .blk 112 (.pr (.rw 3) (.pr .i .un)), .row 5 .u8]
@[reducible] def cU52 : List TSh := [.blk 75 (.pt 2 []), .blk 89 (.fn 50 .un (.pr (.pt 0 []) .un)), .blk 112 (.pr (.rw 4) (.pr .i .un)), .no, .row 5 .u8]
def ct52 (F : Nat) : Ct := mkC 4 cA52 cT52 cB52 cU52 (fun x y => T52 F x.1.1 x.1.2.1 x.1.2.2.1 x.1.2.2.2.1 x.1.2.2.2.2.1 x.1.2.2.2.2.2.1 y.2.2.1.2.1 y.2.2.2.1) (fun x y (z : Int × (List UInt8)) => ((), ((), ((), ((), ())), ((), z.1, ()), (), z.2, ())))
theorem eq52 (F : Nat) (x : dens cA52) (y : tdens cT52) : sev (E52 F) 4 [] (bodyOf Tryd.f52) [] (mkSt (rng 3) cA52 cT52 x y) (kFn (E52 F) 4 Tryd.f52.results.toList cB52 cU52 fun p q => some (p, q)) =
    T52c F x.1.1 x.1.2.1 x.1.2.2.1 x.1.2.2.2.1 x.1.2.2.2.2.1 x.1.2.2.2.2.2.1 y.2.2.1.2.1 y.2.2.2.1 (fun z => some ((), ((), ((), ((), ())), ((), z.1, ()), (), z.2, ()))) := by kernel_rfl
theorem ok52 (F : Nat) : Sound Tryd.prog cfg 52 (ct52 F) :=
  mkC_ok (E := E52 F) (lp := []) (code := bodyOf Tryd.f52) Tryd.func52 rfl Tryd.ntmps52 rfl rfl cok (cts52 F) mixed trivial (by kernel_rfl) (fun x y k => T52c F x.1.1 x.1.2.1 x.1.2.2.1 x.1.2.2.2.1 x.1.2.2.2.2.1 x.1.2.2.2.2.2.1 y.2.2.1.2.1 y.2.2.2.1 k) (fun x y k => T52n F x.1.1 x.1.2.1 x.1.2.2.1 x.1.2.2.2.1 x.1.2.2.2.2.1 x.1.2.2.2.2.2.1 y.2.2.1.2.1 y.2.2.2.1 k) (eq52 F)
end Go.Proofs.YthikoaamigiceaaDoor
/- kinkeep/keyring.writeList[kinkeep/api.Stripe]: its twin, and that the call does what the twin says. Printed by a program. -/
namespace Go.Proofs.YthikoaamigiceaaDoor
open Go.Tw
set_option linter.unusedSimpArgs false
set_option linter.unusedVariables false
def ord51 : Nat → List (Tag × Nat)
  | _ => []
def al51 : Nat → Option Nat
  | _ => none
def ms51 : Nat → Option (List (Option Tag × Nat × List Nat))
  | _ => none
def E51 (F : Nat) : Ev := ⟨cfg, 22, ctOf [(72, ct72 F), (52, ct52 F)], ord51, ctOf [], al51, ms51⟩
theorem cts51 (F : Nat) : CtsOk Tryd.prog (E51 F) := cts_of (l := [(72, ct72 F), (52, ct52 F)]) (l' := []) rfl rfl ⟨⟨ok72 F, _, Tryd.func72, rfl, rfl⟩, ⟨⟨ok52 F, _, Tryd.func52, rfl, rfl⟩, trivial⟩⟩ trivial
def L51_2c (F : Nat) (y13 : List ((List UInt8) × Int × Int × Int × Int × (List ((List UInt8) × Int × Int × Unit)) × Unit)) (y14 : Int) (y15 : Int) (y16 : Int) (y17 : List UInt8) {β : Type} (kA : (Int × Int × (List UInt8)) → Option β) (kO : (Int × (List UInt8)) → Option β) : Option β :=
  (bif (decide (y15 < y14)) then (Option.bind (ix y13 y15) fun x20 => (Option.bind (T52 F x20.1 x20.2.1 x20.2.2.1 x20.2.2.2.1 x20.2.2.2.2.1 x20.2.2.2.2.2.1 y16 y17) fun z21 => (kA ((w64 (y15 + (1 : Int))), z21.1, z21.2)))) else (kO (y16, y17)))
def L51_2 (F : Nat) (y13 : List ((List UInt8) × Int × Int × Int × Int × (List ((List UInt8) × Int × Int × Unit)) × Unit)) (y14 : Int) (y15 : Int) (y16 : Int) (y17 : List UInt8) : Option ((Int × Int × (List UInt8)) ⊕ (Int × (List UInt8))) := L51_2c F y13 y14 y15 y16 y17 (fun s => some (.inl s)) (fun z => some (.inr z))
theorem L51_2n (F : Nat) (y13 : List ((List UInt8) × Int × Int × Int × Int × (List ((List UInt8) × Int × Int × Unit)) × Unit)) (y14 : Int) (y15 : Int) (y16 : Int) (y17 : List UInt8) {β : Type} (kA : (Int × Int × (List UInt8)) → Option β) (kO : (Int × (List UInt8)) → Option β) : L51_2c F y13 y14 y15 y16 y17 kA kO = (L51_2 F y13 y14 y15 y16 y17).bind (elimS kA kO) := by
  simp only [L51_2, L51_2c, Option.bind_assoc, cond_bind, Option.bind_some, Option.bind_none, elimS_l, elimS_r, elimS_bind]
@[reducible] def sA51_2 : List Sh := [(.fn 52 .un (.pr (.pt 1 []) (.pr (.pt 2 []) .un))), (.ro (.pr .s (.pr .i (.pr .i (.pr .i (.pr .i (.pr (.sl (.pr .s (.pr .i (.pr .i .un)))) .un))))))), .i, .i]
@[reducible] def sAp151_2 : List Sh := []
@[reducible] def sT51_2 : List TSh := [.blk 112 (.pr (.rw 4) (.pr .i .un)), .blk 75 (.pt 0 []), .blk 89 (.fn 50 .un (.pr (.pt 1 []) .un)), .no, .row 5 .u8]
@[reducible] def sTp151_2 : List TSh := [.blk 112 (.pr (.rw 4) (.pr .i .un)), .blk 75 (.pt 0 []), .blk 89 (.fn 50 .un (.pr (.pt 1 []) .un)), .no, .row 5 .u8]
def lc51_2 (F : Nat) : Lc := mkL [2, 12, 13, 14] sA51_2 sT51_2 [] sAp151_2 sTp151_2 F (fun x y (s : Int × Int × (List UInt8)) => L51_2 F x.2.1 x.2.2.1 s.1 s.2.1 s.2.2) (fun x y => (x.2.2.2.1, y.1.2.1, y.2.2.2.2.1)) (fun x y (z : Int × (List UInt8)) => ((), (((), z.1, ()), (), ((), ((), ())), (), z.2, ())))
theorem le51_2 (F : Nat) (x : dens sA51_2) (y : tdens sT51_2) (s : Int × Int × (List UInt8)) : sev (E51 F) 4 [] (cAt (bodyOf Tryd.f51) (0 :: 0 :: [1, 1])) (0 :: 0 :: [1, 1]) (mkSt [2, 12, 13, 14] sA51_2 sT51_2 (((), ((), (), ())), x.2.1, x.2.2.1, s.1, ()) (((), s.2.1, ()), (), ((), ((), ())), (), s.2.2, ())) (kLoop 4 [2, 12, 13, 14] sA51_2 sT51_2 [] sAp151_2 sTp151_2 [] [] [] 0 (fun x y => some (.inl (x, y))) (fun x y => some (.inr (.inl (x, y)))) (fun x y => some (.inr (.inr (x, y))))) =
    L51_2c (β := Full sA51_2 sT51_2 sAp151_2 sTp151_2 [] []) F x.2.1 x.2.2.1 s.1 s.2.1 s.2.2 (fun s => some (.inl ((((), ((), (), ())), x.2.1, x.2.2.1, s.1, ()), (((), s.2.1, ()), (), ((), ((), ())), (), s.2.2, ())))) (fun z => some (.inr (.inl ((), (((), z.1, ()), (), ((), ((), ())), (), z.2, ()))))) := by kernel_rfl
theorem lo51_2 (F : Nat) : LcOk Tryd.prog (E51 F) 4 (lc51_2 F) (cAt (bodyOf Tryd.f51) [1, 1]) :=
  mkL_ok (lp := []) (id := 0) (b := cAt (bodyOf Tryd.f51) (0 :: 0 :: [1, 1])) cok (cts51 F) mixed trivial (by kernel_rfl) (by kernel_rfl) (fun x y s => (((), ((), (), ())), x.2.1, x.2.2.1, s.1, ())) (fun x y s => (((), s.2.1, ()), (), ((), ((), ())), (), s.2.2, ())) (fun x y => rfl) (fun x y => rfl) (fun x y s kA kO => L51_2c F x.2.1 x.2.2.1 s.1 s.2.1 s.2.2 kA kO) (fun x y s kA kO => L51_2n F x.2.1 x.2.2.1 s.1 s.2.1 s.2.2 kA kO) (le51_2 F)
def T51c (F : Nat) (p0 : List ((List UInt8) × Int × Int × Int × Int × (List ((List UInt8) × Int × Int × Unit)) × Unit)) (p1 : Int) (p2 : List UInt8) {β : Type} (k : (Int × (List UInt8)) → Option β) : Option β :=
  (Option.bind (T72 F (p0.length : Int) p1 p2) fun z12 => (Option.bind (iter (fun s => L51_2 F p0 (p0.length : Int) s.1 s.2.1 s.2.2) F ((0 : Int), z12.1, z12.2)) fun z22 => (k (z22.1, z22.2))))
def T51 (F : Nat) (p0 : List ((List UInt8) × Int × Int × Int × Int × (List ((List UInt8) × Int × Int × Unit)) × Unit)) (p1 : Int) (p2 : List UInt8) : Option (Int × (List UInt8)) := T51c F p0 p1 p2 some
theorem T51n (F : Nat) (p0 : List ((List UInt8) × Int × Int × Int × Int × (List ((List UInt8) × Int × Int × Unit)) × Unit)) (p1 : Int) (p2 : List UInt8) {β : Type} (k : (Int × (List UInt8)) → Option β) : T51c F p0 p1 p2 k = (T51 F p0 p1 p2).bind k := by
  simp only [T51, T51c, Option.bind_assoc, cond_bind, Option.bind_some, Option.bind_none, elimS_bind]
@[reducible] def cA51 : List Sh := [(.pt 0 []), (.ro (.pr .s (.pr .i (.pr .i (.pr .i (.pr .i (.pr (.sl (.pr .s (.pr .i (.pr .i .un)))) .un))))))), (.fn 52 .un (.pr (.pt 1 []) (.pr (.pt 2 []) .un)))]
@[reducible] def cB51 : List Sh := []
@[reducible] def cT51 : List TSh := [.blk 112 (.pr (.rw 3) (.pr .i .un)), .blk 75 (.pt 0 []), .blk 89 (.fn 50 .un (.pr (.pt 1 []) .un)), .row 5 .u8]
@[reducible] def cU51 : List TSh := [.blk 112 (.pr (.rw 4) (.pr .i .un)), .blk 75 (.pt 0 []), .blk 89 (.fn 50 .un (.pr (.pt 1 []) .un)), .no, .row 5 .u8]
def ct51 (F : Nat) : Ct := mkC 4 cA51 cT51 cB51 cU51 (fun x y => T51 F x.2.1 y.1.2.1 y.2.2.2.1) (fun x y (z : Int × (List UInt8)) => ((), (((), z.1, ()), (), ((), ((), ())), (), z.2, ())))
theorem eq51 (F : Nat) (x : dens cA51) (y : tdens cT51) : sev (E51 F) 4 [([1, 1], lc51_2 F)] (bodyOf Tryd.f51) [] (mkSt (rng 3) cA51 cT51 x y) (kFn (E51 F) 4 Tryd.f51.results.toList cB51 cU51 fun p q => some (p, q)) =
    T51c F x.2.1 y.1.2.1 y.2.2.2.1 (fun z => some ((), (((), z.1, ()), (), ((), ((), ())), (), z.2, ()))) := by kernel_rfl
theorem ok51 (F : Nat) : Sound Tryd.prog cfg 51 (ct51 F) :=
  mkC_ok (E := E51 F) (lp := [([1, 1], lc51_2 F)]) (code := bodyOf Tryd.f51) Tryd.func51 rfl Tryd.ntmps51 rfl rfl cok (cts51 F) mixed ⟨lo51_2 F, trivial⟩ (by kernel_rfl) (fun x y k => T51c F x.2.1 y.1.2.1 y.2.2.2.1 k) (fun x y k => T51n F x.2.1 y.1.2.1 y.2.2.2.1 k) (eq51 F)
end Go.Proofs.YthikoaamigiceaaDoor
/- (*kinkeep/wire.Writer).Done: its twin, and that the call does what the twin says. Printed by a program. -/
namespace Go.Proofs.YthikoaamigiceaaDoor
open Go.Tw
set_option linter.unusedSimpArgs false
set_option linter.unusedVariables false
def ord55 : Nat → List (Tag × Nat)
  | 2 => [(.p, 0), (.p, 1), (.p, 2), (.r, 3), (.p, 4), (.p, 5)]
  | _ => []
def al55 : Nat → Option Nat
  | _ => none
def ms55 : Nat → Option (List (Option Tag × Nat × List Nat))
  | _ => none
def E55 (F : Nat) : Ev := ⟨cfg, 25, ctOf [], ord55, ctOf [], al55, ms55⟩
theorem cts55 (F : Nat) : CtsOk Tryd.prog (E55 F) := cts_of (l := []) (l' := []) rfl rfl trivial trivial
def T55c (F : Nat) (p0 : Int) (p1 : List UInt8) {β : Type} (k : (Int × (List UInt8)) → Option β) : Option β :=
  (bif (p0 != (0 : Int)) then (k (p0, ([] : List UInt8))) else (bif (decide ((1048576 : Int) < (p1.length : Int))) then (k ((2 : Int), ([] : List UInt8))) else (Option.bind (gapp ([] : List UInt8) p1) fun x2 => (k ((0 : Int), x2)))))
def T55 (F : Nat) (p0 : Int) (p1 : List UInt8) : Option (Int × (List UInt8)) := T55c F p0 p1 some
theorem T55n (F : Nat) (p0 : Int) (p1 : List UInt8) {β : Type} (k : (Int × (List UInt8)) → Option β) : T55c F p0 p1 k = (T55 F p0 p1).bind k := by
  simp only [T55, T55c, Option.bind_assoc, cond_bind, Option.bind_some, Option.bind_none, elimS_bind]
@[reducible] def cA55 : List Sh := [(.pt 0 [])]
@[reducible] def cB55 : List Sh := [(.rw 2), .i]
@[reducible] def cT55 : List TSh := [.blk 112 (.pr (.rw 1) (.pr .i .un)), .row 5 .u8]
@[reducible] def cU55 : List TSh := [.blk 112 (.pr (.rw 1) (.pr .i .un)), .row 5 .u8, .row 5 .u8]
def ct55 (F : Nat) : Ct := mkC 2 cA55 cT55 cB55 cU55 (fun x y => T55 F y.1.2.1 y.2.1) (fun x y (z : Int × (List UInt8)) => (((), z.1, ()), (((), y.1.2.1, ()), y.2.1, z.2, ())))
theorem eq55 (F : Nat) (x : dens cA55) (y : tdens cT55) : sev (E55 F) 2 [] (bodyOf Tryd.f55) [] (mkSt (rng 1) cA55 cT55 x y) (kFn (E55 F) 2 Tryd.f55.results.toList cB55 cU55 fun p q => some (p, q)) =
    T55c F y.1.2.1 y.2.1 (fun z => some (((), z.1, ()), (((), y.1.2.1, ()), y.2.1, z.2, ()))) := by kernel_rfl
theorem ok55 (F : Nat) : Sound Tryd.prog cfg 55 (ct55 F) :=
  mkC_ok (E := E55 F) (lp := []) (code := bodyOf Tryd.f55) Tryd.func55 rfl Tryd.ntmps55 rfl rfl cok (cts55 F) mixed trivial (by kernel_rfl) (fun x y k => T55c F y.1.2.1 y.2.1 k) (fun x y k => T55n F y.1.2.1 y.2.1 k) (eq55 F)
end Go.Proofs.YthikoaamigiceaaDoor
/- kinkeep/keyring.EncodeIndex: its twin, and that the call does what the twin says. Printed by a program. -/
namespace Go.Proofs.YthikoaamigiceaaDoor
open Go.Tw
set_option linter.unusedSimpArgs false
set_option linter.unusedVariables false
def ord25 : Nat → List (Tag × Nat)
  | _ => []
def al25 : Nat → Option Nat
  | _ => none
def ms25 : Nat → Option (List (Option Tag × Nat × List Nat))
  | _ => none
def E25 (F : Nat) : Ev := ⟨cfg, 53, ctOf [(39, ct39 F), (40, ct40 F), (41, ct41 F), (42, ct42 F), (45, ct45 F), (51, ct51 F), (54, ct54 F), (55, ct55 F)], ord25, ctOf [], al25, ms25⟩
theorem cts25 (F : Nat) : CtsOk Tryd.prog (E25 F) := cts_of (l := [(39, ct39 F), (40, ct40 F), (41, ct41 F), (42, ct42 F), (45, ct45 F), (51, ct51 F), (54, ct54 F), (55, ct55 F)]) (l' := []) rfl rfl ⟨⟨ok39 F, _, Tryd.func39, rfl, rfl⟩, ⟨⟨ok40 F, _, Tryd.func40, rfl, rfl⟩, ⟨⟨ok41 F, _, Tryd.func41, rfl, rfl⟩, ⟨⟨ok42 F, _, Tryd.func42, rfl, rfl⟩, ⟨⟨ok45 F, _, Tryd.func45, rfl, rfl⟩, ⟨⟨ok51 F, _, Tryd.func51, rfl, rfl⟩, ⟨⟨ok54 F, _, Tryd.func54, rfl, rfl⟩, ⟨⟨ok55 F, _, Tryd.func55, rfl, rfl⟩, trivial⟩⟩⟩⟩⟩⟩⟩⟩ trivial
def T25c (F : Nat) (p0 : Int) (p1 : Int) (p2 : List Int) (p3 : List (Int × Int × Int × ((List UInt8) × Int × Int × Unit) × Int × Int × (List UInt8) × Bool × Unit)) (p4 : List ((List UInt8) × Int × Int × Int × Int × (List ((List UInt8) × Int × Int × Unit)) × Unit)) (p5 : List ((List UInt8) × Int × Int × Unit)) {β : Type} (k : (Int × (List UInt8)) → Option β) : Option β :=
  (Option.bind (T39 F p0 p1 p2 p3 p4 p5) fun z9 => (bif (!z9) then (k ((1 : Int), ([] : List UInt8))) else (Option.bind (T40 F) fun z10 => (Option.bind (T41 F ([p0, p1] : List Int) z10) fun z11 => (Option.bind (T42 F p2 z10 z11) fun z12 => (Option.bind (T45 F p3 z12.1 z12.2) fun z13 => (Option.bind (T51 F p4 z13.1 z13.2) fun z14 => (Option.bind (T54 F p5 z14.1 z14.2) fun z15 => (Option.bind (T55 F z15.1 z15.2) fun z16 => (bif (z16.1 != (0 : Int)) then (k ((2 : Int), ([] : List UInt8))) else (bif (decide ((1048560 : Int) < (z16.2.length : Int))) then (k ((2 : Int), ([] : List UInt8))) else (k ((0 : Int), z16.2)))))))))))))
def T25 (F : Nat) (p0 : Int) (p1 : Int) (p2 : List Int) (p3 : List (Int × Int × Int × ((List UInt8) × Int × Int × Unit) × Int × Int × (List UInt8) × Bool × Unit)) (p4 : List ((List UInt8) × Int × Int × Int × Int × (List ((List UInt8) × Int × Int × Unit)) × Unit)) (p5 : List ((List UInt8) × Int × Int × Unit)) : Option (Int × (List UInt8)) := T25c F p0 p1 p2 p3 p4 p5 some
theorem T25n (F : Nat) (p0 : Int) (p1 : Int) (p2 : List Int) (p3 : List (Int × Int × Int × ((List UInt8) × Int × Int × Unit) × Int × Int × (List UInt8) × Bool × Unit)) (p4 : List ((List UInt8) × Int × Int × Int × Int × (List ((List UInt8) × Int × Int × Unit)) × Unit)) (p5 : List ((List UInt8) × Int × Int × Unit)) {β : Type} (k : (Int × (List UInt8)) → Option β) : T25c F p0 p1 p2 p3 p4 p5 k = (T25 F p0 p1 p2 p3 p4 p5).bind k := by
  simp only [T25, T25c, Option.bind_assoc, cond_bind, Option.bind_some, Option.bind_none, elimS_bind]
@[reducible] def cA25 : List Sh := [(.pr .i (.pr .i (.pr (.ro .i) (.pr (.ro (.pr .i (.pr .i (.pr .i (.pr (.pr .s (.pr .i (.pr .i .un))) (.pr .i (.pr .i (.pr .s (.pr .bo .un))))))))) (.pr (.ro (.pr .s (.pr .i (.pr .i (.pr .i (.pr .i (.pr (.sl (.pr .s (.pr .i (.pr .i .un)))) .un))))))) (.pr (.ro (.pr .s (.pr .i (.pr .i .un)))) .un))))))]
@[reducible] def cB25 : List Sh := [(.rw 0), .i]
@[reducible] def cT25 : List TSh := []
@[reducible] def cU25 : List TSh := [.row 5 .u8]
def ct25 (F : Nat) : Ct := mkC 0 cA25 cT25 cB25 cU25 (fun x y => T25 F x.1.1 x.1.2.1 x.1.2.2.1 x.1.2.2.2.1 x.1.2.2.2.2.1 x.1.2.2.2.2.2.1) (fun x y (z : Int × (List UInt8)) => (((), z.1, ()), (z.2, ())))
theorem eq25 (F : Nat) (x : dens cA25) (y : tdens cT25) : sev (E25 F) 0 [] (bodyOf Tryd.f25) [] (mkSt (rng 1) cA25 cT25 x y) (kFn (E25 F) 0 Tryd.f25.results.toList cB25 cU25 fun p q => some (p, q)) =
    T25c F x.1.1 x.1.2.1 x.1.2.2.1 x.1.2.2.2.1 x.1.2.2.2.2.1 x.1.2.2.2.2.2.1 (fun z => some (((), z.1, ()), (z.2, ()))) := by kernel_rfl
theorem ok25 (F : Nat) : Sound Tryd.prog cfg 25 (ct25 F) :=
  mkC_ok (E := E25 F) (lp := []) (code := bodyOf Tryd.f25) Tryd.func25 rfl Tryd.ntmps25 rfl rfl cok (cts25 F) mixed trivial (by kernel_rfl) (fun x y k => T25c F x.1.1 x.1.2.1 x.1.2.2.1 x.1.2.2.2.1 x.1.2.2.2.2.1 x.1.2.2.2.2.2.1 k) (fun x y k => T25n F x.1.1 x.1.2.1 x.1.2.2.1 x.1.2.2.2.1 x.1.2.2.2.2.1 x.1.2.2.2.2.2.1 k) (eq25 F)
end Go.Proofs.YthikoaamigiceaaDoor
/- kinkeep/kinkeeplaw31.awake: its twin, and that the call does what the twin says. Printed by a program. -/
namespace Go.Proofs.YthikoaamigiceaaDoor
open Go.Tw
set_option linter.unusedSimpArgs false
set_option linter.unusedVariables false
def ord9 : Nat → List (Tag × Nat)
  | 2 => []
  | 5 => [(.p, 0), (.p, 1), (.p, 2), (.p, 3), (.r, 4), (.p, 5), (.r, 6), (.p, 7), (.p, 8), (.p, 9), (.p, 10), (.r, 11), (.p, 12), (.p, 13), (.p, 14), (.p, 15), (.p, 16), (.p, 17), (.p, 18), (.p, 19), (.p, 20), (.p, 21), (.p, 22), (.p, 23), (.p, 24), (.p, 25), (.p, 26), (.p, 27), (.r, 28), (.p, 29), (.p, 30), (.p, 31), (.p, 32), (.p, 33), (.p, 34), (.c, 35), (.c, 36), (.w, 37), (.p, 38), (.p, 39), (.p, 40), (.p, 41), (.p, 42), (.p, 43), (.p, 44), (.p, 45), (.p, 46), (.p, 47), (.p, 48), (.p, 49), (.p, 50), (.p, 51), (.p, 52), (.p, 53), (.p, 54), (.p, 55), (.p, 56), (.p, 57)]
  | _ => []
def al9 : Nat → Option Nat
  | _ => none
def ms9 : Nat → Option (List (Option Tag × Nat × List Nat))
  | 2 => some [(some .w, 0, [1, 2]), (none, 1, [2]), (none, 2, []), (some .w, 3, []), (some .p, 4, []), (some .p, 5, []), (some .p, 6, []), (some .p, 7, []), (some .p, 8, [])]
  | _ => none
def E9 (F : Nat) : Ev := ⟨cfg, 87, ctOf [(22, ct22 F), (14, ct14 F), (10, ct10 F), (25, ct25 F), (12, ct12 F)], ord9, ctOf [], al9, ms9⟩
theorem cts9 (F : Nat) : CtsOk Tryd.prog (E9 F) := cts_of (l := [(22, ct22 F), (14, ct14 F), (10, ct10 F), (25, ct25 F), (12, ct12 F)]) (l' := []) rfl rfl ⟨⟨ok22 F, _, Tryd.func22, rfl, rfl⟩, ⟨⟨ok14 F, _, Tryd.func14, rfl, rfl⟩, ⟨⟨ok10 F, _, Tryd.func10, rfl, rfl⟩, ⟨⟨ok25 F, _, Tryd.func25, rfl, rfl⟩, ⟨⟨ok12 F, _, Tryd.func12, rfl, rfl⟩, trivial⟩⟩⟩⟩⟩ trivial
def T9c (F : Nat) {β : Type} (k : Bool → Option β) : Option β :=
  (Option.bind (T22 F (UInt8.ofNat 1)) fun z12 => (Option.bind (T14 F z12) fun z13 => (Option.bind (T22 F (UInt8.ofNat 1)) fun z14 => (Option.bind (T10 F z14 (2 : Int) ([(0 : Int), (3 : Int), (5 : Int)] : List Int) (List.replicate 32 (0 : UInt8))) fun z15 => (Option.bind (T25 F (0 : Int) (0 : Int) ([] : List Int) ([] : List (Int × Int × Int × ((List UInt8) × Int × Int × Unit) × Int × Int × (List UInt8) × Bool × Unit)) ([] : List ((List UInt8) × Int × Int × Int × Int × (List ((List UInt8) × Int × Int × Unit)) × Unit)) ([] : List ((List UInt8) × Int × Int × Unit))) fun z16 => (Option.bind (T12 F (1015 : Int)) fun z17 => (bif (z13.2.2.2.2.2 == (0 : Int)) then (bif (z13.1 != z13.2.1) then (bif ((z13.2.2.2.2.1.length : Int) == (32 : Int)) then (bif (z15.1 == (0 : Int)) then (bif ((z15.2.length : Int) == (3 : Int)) then (Option.bind (inb z15.2.length (1 : Int)) fun x18 => (Option.bind (z15.2[x18]?) fun x19 => (bif (x19.1 == (4 : Int)) then (Option.bind (inb z15.2.length (1 : Int)) fun x20 => (Option.bind (z15.2[x20]?) fun x21 => (Option.bind (T22 F (UInt8.ofNat 1)) fun z22 => (bif (x21.2.1 == z22) then (bif (z16.1 == (0 : Int)) then (bif ((z16.2.length : Int) == (6 : Int)) then (bif (z17.1 == (2048 : Int)) then (k (z17.2 == (0 : Int))) else (k false)) else (k false)) else (k false)) else (k false))))) else (k false)))) else (k false)) else (k false)) else (k false)) else (k false)) else (k false))))))))
def T9 (F : Nat) : Option (Bool) := T9c F some
theorem T9n (F : Nat) {β : Type} (k : Bool → Option β) : T9c F k = (T9 F).bind k := by
  simp only [T9, T9c, Option.bind_assoc, cond_bind, Option.bind_some, Option.bind_none, elimS_bind]
@[reducible] def cA9 : List Sh := []
@[reducible] def cB9 : List Sh := [.bo]
@[reducible] def cT9 : List TSh := []
@[reducible] def cU9 : List TSh := []
def ct9 (F : Nat) : Ct := mkC 0 cA9 cT9 cB9 cU9 (fun x y => T9 F) (fun x y (z : Bool) => ((z, ()), ()))
theorem eq9 (F : Nat) (x : dens cA9) (y : tdens cT9) : sev (E9 F) 0 [] (bodyOf Tryd.f9) [] (mkSt (rng 0) cA9 cT9 x y) (kFn (E9 F) 0 Tryd.f9.results.toList cB9 cU9 fun p q => some (p, q)) =
    T9c F (fun z => some ((z, ()), ())) := by kernel_rfl
theorem ok9 (F : Nat) : Sound Tryd.prog cfg 9 (ct9 F) :=
  mkC_ok (E := E9 F) (lp := []) (code := bodyOf Tryd.f9) Tryd.func9 rfl Tryd.ntmps9 rfl rfl cok (cts9 F) mixed trivial (by kernel_rfl) (fun x y k => T9c F k) (fun x y k => T9n F k) (eq9 F)
end Go.Proofs.YthikoaamigiceaaDoor
/- kinkeep/kinkeeplaw31.KeyringClass: its twin, and that the call does what the twin says. Printed by a program. -/
namespace Go.Proofs.YthikoaamigiceaaDoor
open Go.Tw
set_option linter.unusedSimpArgs false
set_option linter.unusedVariables false
def ord4 : Nat → List (Tag × Nat)
  | _ => []
def al4 : Nat → Option Nat
  | _ => none
def ms4 : Nat → Option (List (Option Tag × Nat × List Nat))
  | _ => none
def E4 (F : Nat) : Ev := ⟨cfg, 28, ctOf [(12, ct12 F), (13, ct13 F), (9, ct9 F)], ord4, ctOf [], al4, ms4⟩
theorem cts4 (F : Nat) : CtsOk Tryd.prog (E4 F) := cts_of (l := [(12, ct12 F), (13, ct13 F), (9, ct9 F)]) (l' := []) rfl rfl ⟨⟨ok12 F, _, Tryd.func12, rfl, rfl⟩, ⟨⟨ok13 F, _, Tryd.func13, rfl, rfl⟩, ⟨⟨ok9 F, _, Tryd.func9, rfl, rfl⟩, trivial⟩⟩⟩ trivial
def T4c (F : Nat) (p0 : Int) {β : Type} (k : Bool → Option β) : Option β :=
  (Option.bind (T12 F p0) fun z4 => (Option.bind (T13 F p0) fun z5 => (Option.bind (T9 F) fun z6 => (bif z6 then (bif (z4.1 == z5.1) then (k (z4.2 == z5.2)) else (k false)) else (k false)))))
def T4 (F : Nat) (p0 : Int) : Option (Bool) := T4c F p0 some
theorem T4n (F : Nat) (p0 : Int) {β : Type} (k : Bool → Option β) : T4c F p0 k = (T4 F p0).bind k := by
  simp only [T4, T4c, Option.bind_assoc, cond_bind, Option.bind_some, Option.bind_none, elimS_bind]
@[reducible] def cA4 : List Sh := [.i]
@[reducible] def cB4 : List Sh := [.bo]
@[reducible] def cT4 : List TSh := []
@[reducible] def cU4 : List TSh := []
def ct4 (F : Nat) : Ct := mkC 0 cA4 cT4 cB4 cU4 (fun x y => T4 F x.1) (fun x y (z : Bool) => ((z, ()), ()))
theorem eq4 (F : Nat) (x : dens cA4) (y : tdens cT4) : sev (E4 F) 0 [] (bodyOf Tryd.f4) [] (mkSt (rng 1) cA4 cT4 x y) (kFn (E4 F) 0 Tryd.f4.results.toList cB4 cU4 fun p q => some (p, q)) =
    T4c F x.1 (fun z => some ((z, ()), ())) := by kernel_rfl
theorem ok4 (F : Nat) : Sound Tryd.prog cfg 4 (ct4 F) :=
  mkC_ok (E := E4 F) (lp := []) (code := bodyOf Tryd.f4) Tryd.func4 rfl Tryd.ntmps4 rfl rfl cok (cts4 F) mixed trivial (by kernel_rfl) (fun x y k => T4c F x.1 k) (fun x y k => T4n F x.1 k) (eq4 F)
end Go.Proofs.YthikoaamigiceaaDoor
/- kinkeep/kinkeepref03.Pad: its twin, and that the call does what the twin says. Printed by a program. -/
namespace Go.Proofs.YthikoaamigiceaaDoor
open Go.Tw
set_option linter.unusedSimpArgs false
set_option linter.unusedVariables false
def ord101 : Nat → List (Tag × Nat)
  | _ => []
def al101 : Nat → Option Nat
  | _ => none
def ms101 : Nat → Option (List (Option Tag × Nat × List Nat))
  | _ => none
def E101 (F : Nat) : Ev := ⟨cfg, 35, ctOf [], ord101, ctOf [], al101, ms101⟩
theorem cts101 (F : Nat) : CtsOk Tryd.prog (E101 F) := cts_of (l := []) (l' := []) rfl rfl trivial trivial
def L101_3c (F : Nat) (y19 : List UInt8) {β : Type} (kA : ((List UInt8)) → Option β) (kO : ((List UInt8)) → Option β) : Option β :=
  (bif ((Int.tmod (y19.length : Int) (64 : Int)) != (56 : Int)) then (Option.bind (gapp y19 ([(UInt8.ofNat 0)] : List UInt8)) fun x21 => (kA x21)) else (kO y19))
def L101_3 (F : Nat) (y19 : List UInt8) : Option (((List UInt8)) ⊕ ((List UInt8))) := L101_3c F y19 (fun s => some (.inl s)) (fun z => some (.inr z))
theorem L101_3n (F : Nat) (y19 : List UInt8) {β : Type} (kA : ((List UInt8)) → Option β) (kO : ((List UInt8)) → Option β) : L101_3c F y19 kA kO = (L101_3 F y19).bind (elimS kA kO) := by
  simp only [L101_3, L101_3c, Option.bind_assoc, cond_bind, Option.bind_some, Option.bind_none, elimS_l, elimS_r, elimS_bind]
@[reducible] def sA101_3 : List Sh := [(.ro .u8), (.rw 0)]
@[reducible] def sAp1101_3 : List Sh := [(.ro .u8), (.rw 0)]
@[reducible] def sT101_3 : List TSh := [.row 5 .u8]
@[reducible] def sTp1101_3 : List TSh := [.row 5 .u8]
def lc101_3 (F : Nat) : Lc := mkL [0, 3] sA101_3 sT101_3 [0, 3] sAp1101_3 sTp1101_3 F (fun x y (s : (List UInt8)) => L101_3 F s) (fun x y => y.1) (fun x y (z : (List UInt8)) => ((x.1, (), ()), (z, ())))
theorem le101_3 (F : Nat) (x : dens sA101_3) (y : tdens sT101_3) (s : (List UInt8)) : sev (E101 F) 0 [] (cAt (bodyOf Tryd.f101) (0 :: 0 :: [0, 1, 1])) (0 :: 0 :: [0, 1, 1]) (mkSt [0, 3] sA101_3 sT101_3 (x.1, (), ()) (s, ())) (kLoop 0 [0, 3] sA101_3 sT101_3 [0, 3] sAp1101_3 sTp1101_3 [] [] [] 0 (fun x y => some (.inl (x, y))) (fun x y => some (.inr (.inl (x, y)))) (fun x y => some (.inr (.inr (x, y))))) =
    L101_3c (β := Full sA101_3 sT101_3 sAp1101_3 sTp1101_3 [] []) F s (fun s => some (.inl ((x.1, (), ()), (s, ())))) (fun z => some (.inr (.inl ((x.1, (), ()), (z, ()))))) := by kernel_rfl
theorem lo101_3 (F : Nat) : LcOk Tryd.prog (E101 F) 0 (lc101_3 F) (cAt (bodyOf Tryd.f101) [0, 1, 1]) :=
  mkL_ok (lp := []) (id := 0) (b := cAt (bodyOf Tryd.f101) (0 :: 0 :: [0, 1, 1])) cok (cts101 F) mixed trivial (by kernel_rfl) (by kernel_rfl) (fun x y s => (x.1, (), ())) (fun x y s => (s, ())) (fun x y => rfl) (fun x y => rfl) (fun x y s kA kO => L101_3c F s kA kO) (fun x y s kA kO => L101_3n F s kA kO) (le101_3 F)
def L101_4c (F : Nat) (y23 : UInt64) (y24 : Int) (y25 : List UInt8) {β : Type} (kA : (Int × (List UInt8)) → Option β) (kO : ((List UInt8)) → Option β) : Option β :=
  (bif (decide ((0 : Int) ≤ y24)) then (Option.bind (gnn (w64 ((8 : Int) * y24))) fun x28 => (Option.bind (gapp y25 ([((shr64 y23 x28).toUInt8)] : List UInt8)) fun x29 => (kA ((w64 (y24 - (1 : Int))), x29)))) else (kO y25))
def L101_4 (F : Nat) (y23 : UInt64) (y24 : Int) (y25 : List UInt8) : Option ((Int × (List UInt8)) ⊕ ((List UInt8))) := L101_4c F y23 y24 y25 (fun s => some (.inl s)) (fun z => some (.inr z))
theorem L101_4n (F : Nat) (y23 : UInt64) (y24 : Int) (y25 : List UInt8) {β : Type} (kA : (Int × (List UInt8)) → Option β) (kO : ((List UInt8)) → Option β) : L101_4c F y23 y24 y25 kA kO = (L101_4 F y23 y24 y25).bind (elimS kA kO) := by
  simp only [L101_4, L101_4c, Option.bind_assoc, cond_bind, Option.bind_some, Option.bind_none, elimS_l, elimS_r, elimS_bind]
@[reducible] def sA101_4 : List Sh := [(.rw 0), .u64, .i]
@[reducible] def sAp1101_4 : List Sh := [(.rw 0)]
@[reducible] def sT101_4 : List TSh := [.row 5 .u8]
@[reducible] def sTp1101_4 : List TSh := [.row 5 .u8]
def lc101_4 (F : Nat) : Lc := mkL [3, 4, 5] sA101_4 sT101_4 [3] sAp1101_4 sTp1101_4 F (fun x y (s : Int × (List UInt8)) => L101_4 F x.2.1 s.1 s.2) (fun x y => (x.2.2.1, y.1)) (fun x y (z : (List UInt8)) => (((), ()), (z, ())))
theorem le101_4 (F : Nat) (x : dens sA101_4) (y : tdens sT101_4) (s : Int × (List UInt8)) : sev (E101 F) 0 [] (cAt (bodyOf Tryd.f101) (0 :: 0 :: [1, 0, 1, 1, 1, 1])) (0 :: 0 :: [1, 0, 1, 1, 1, 1]) (mkSt [3, 4, 5] sA101_4 sT101_4 ((), x.2.1, s.1, ()) (s.2, ())) (kLoop 0 [3, 4, 5] sA101_4 sT101_4 [3] sAp1101_4 sTp1101_4 [] [] [] 2 (fun x y => some (.inl (x, y))) (fun x y => some (.inr (.inl (x, y)))) (fun x y => some (.inr (.inr (x, y))))) =
    L101_4c (β := Full sA101_4 sT101_4 sAp1101_4 sTp1101_4 [] []) F x.2.1 s.1 s.2 (fun s => some (.inl (((), x.2.1, s.1, ()), (s.2, ())))) (fun z => some (.inr (.inl (((), ()), (z, ()))))) := by kernel_rfl
theorem lo101_4 (F : Nat) : LcOk Tryd.prog (E101 F) 0 (lc101_4 F) (cAt (bodyOf Tryd.f101) [1, 0, 1, 1, 1, 1]) :=
  mkL_ok (lp := []) (id := 2) (b := cAt (bodyOf Tryd.f101) (0 :: 0 :: [1, 0, 1, 1, 1, 1])) cok (cts101 F) mixed trivial (by kernel_rfl) (by kernel_rfl) (fun x y s => ((), x.2.1, s.1, ())) (fun x y s => (s.2, ())) (fun x y => rfl) (fun x y => rfl) (fun x y s kA kO => L101_4c F x.2.1 s.1 s.2 kA kO) (fun x y s kA kO => L101_4n F x.2.1 s.1 s.2 kA kO) (le101_4 F)
def T101c (F : Nat) (p0 : List UInt8) {β : Type} (k : ((List UInt8)) → Option β) : Option β :=
  (Option.bind (gapp ([] : List UInt8) p0) fun x16 => (Option.bind (gapp x16 ([(UInt8.ofNat 128)] : List UInt8)) fun x17 => (Option.bind (iter (fun s => L101_3 F s) F x17) fun z22 => (Option.bind (iter (fun s => L101_4 F ((UInt64.ofInt (p0.length : Int)) * (UInt64.ofNat 8)) s.1 s.2) F ((7 : Int), z22)) fun z30 => (k z30)))))
def T101 (F : Nat) (p0 : List UInt8) : Option ((List UInt8)) := T101c F p0 some
theorem T101n (F : Nat) (p0 : List UInt8) {β : Type} (k : ((List UInt8)) → Option β) : T101c F p0 k = (T101 F p0).bind k := by
  simp only [T101, T101c, Option.bind_assoc, cond_bind, Option.bind_some, Option.bind_none, elimS_bind]
@[reducible] def cA101 : List Sh := [(.ro .u8)]
@[reducible] def cB101 : List Sh := [(.rw 0)]
@[reducible] def cT101 : List TSh := []
@[reducible] def cU101 : List TSh := [.row 5 .u8]
def ct101 (F : Nat) : Ct := mkC 0 cA101 cT101 cB101 cU101 (fun x y => T101 F x.1) (fun x y (z : (List UInt8)) => (((), ()), (z, ())))
theorem eq101 (F : Nat) (x : dens cA101) (y : tdens cT101) : sev (E101 F) 0 [([0, 1, 1], lc101_3 F), ([1, 0, 1, 1, 1, 1], lc101_4 F)] (bodyOf Tryd.f101) [] (mkSt (rng 1) cA101 cT101 x y) (kFn (E101 F) 0 Tryd.f101.results.toList cB101 cU101 fun p q => some (p, q)) =
    T101c F x.1 (fun z => some (((), ()), (z, ()))) := by kernel_rfl
theorem ok101 (F : Nat) : Sound Tryd.prog cfg 101 (ct101 F) :=
  mkC_ok (E := E101 F) (lp := [([0, 1, 1], lc101_3 F), ([1, 0, 1, 1, 1, 1], lc101_4 F)]) (code := bodyOf Tryd.f101) Tryd.func101 rfl Tryd.ntmps101 rfl rfl cok (cts101 F) mixed ⟨lo101_3 F, ⟨lo101_4 F, trivial⟩⟩ (by kernel_rfl) (fun x y k => T101c F x.1 k) (fun x y k => T101n F x.1 k) (eq101 F)
end Go.Proofs.YthikoaamigiceaaDoor
/- kinkeep/kinkeepref03.constants: its twin, and that the call does what the twin says. Printed by a program. -/
namespace Go.Proofs.YthikoaamigiceaaDoor
open Go.Tw
set_option linter.unusedSimpArgs false
set_option linter.unusedVariables false
def ord111 : Nat → List (Tag × Nat)
  | _ => []
def al111 : Nat → Option Nat
  | _ => none
def ms111 : Nat → Option (List (Option Tag × Nat × List Nat))
  | _ => none
def E111 (F : Nat) : Ev := ⟨cfg, 2, ctOf [], ord111, ctOf [], al111, ms111⟩
theorem cts111 (F : Nat) : CtsOk Tryd.prog (E111 F) := cts_of (l := []) (l' := []) rfl rfl trivial trivial
def T111c (F : Nat) {β : Type} (k : ((Vector UInt32 64)) → Option β) : Option β :=
  (k (#v[(UInt32.ofNat 1116352408), (UInt32.ofNat 1899447441), (UInt32.ofNat 3049323471), (UInt32.ofNat 3921009573), (UInt32.ofNat 961987163), (UInt32.ofNat 1508970993), (UInt32.ofNat 2453635748), (UInt32.ofNat 2870763221), (UInt32.ofNat 3624381080), (UInt32.ofNat 310598401), (UInt32.ofNat 607225278), (UInt32.ofNat 1426881987), (UInt32.ofNat 1925078388), (UInt32.ofNat 2162078206), (UInt32.ofNat 2614888103), (UInt32.ofNat 3248222580), (UInt32.ofNat 3835390401), (UInt32.ofNat 4022224774), (UInt32.ofNat 264347078), (UInt32.ofNat 604807628), (UInt32.ofNat 770255983), (UInt32.ofNat 1249150122), (UInt32.ofNat 1555081692), (UInt32.ofNat 1996064986), (UInt32.ofNat 2554220882), (UInt32.ofNat 2821834349), (UInt32.ofNat 2952996808), (UInt32.ofNat 3210313671), (UInt32.ofNat 3336571891), (UInt32.ofNat 3584528711), (UInt32.ofNat 113926993), (UInt32.ofNat 338241895), (UInt32.ofNat 666307205), (UInt32.ofNat 773529912), (UInt32.ofNat 1294757372), (UInt32.ofNat 1396182291), (UInt32.ofNat 1695183700), (UInt32.ofNat 1986661051), (UInt32.ofNat 2177026350), (UInt32.ofNat 2456956037), (UInt32.ofNat 2730485921), (UInt32.ofNat 2820302411), (UInt32.ofNat 3259730800), (UInt32.ofNat 3345764771), (UInt32.ofNat 3516065817), (UInt32.ofNat 3600352804), (UInt32.ofNat 4094571909), (UInt32.ofNat 275423344), (UInt32.ofNat 430227734), (UInt32.ofNat 506948616), (UInt32.ofNat 659060556), (UInt32.ofNat 883997877), (UInt32.ofNat 958139571), (UInt32.ofNat 1322822218), (UInt32.ofNat 1537002063), (UInt32.ofNat 1747873779), (UInt32.ofNat 1955562222), (UInt32.ofNat 2024104815), (UInt32.ofNat 2227730452), (UInt32.ofNat 2361852424), (UInt32.ofNat 2428436474), (UInt32.ofNat 2756734187), (UInt32.ofNat 3204031479), (UInt32.ofNat 3329325298)] : Vector UInt32 64))
def T111 (F : Nat) : Option ((Vector UInt32 64)) := T111c F some
theorem T111n (F : Nat) {β : Type} (k : ((Vector UInt32 64)) → Option β) : T111c F k = (T111 F).bind k := by
  simp only [T111, T111c, Option.bind_assoc, cond_bind, Option.bind_some, Option.bind_none, elimS_bind]
@[reducible] def cA111 : List Sh := []
@[reducible] def cB111 : List Sh := [(.ar 64 .u32)]
@[reducible] def cT111 : List TSh := []
@[reducible] def cU111 : List TSh := []
def ct111 (F : Nat) : Ct := mkC 0 cA111 cT111 cB111 cU111 (fun x y => T111 F) (fun x y (z : (Vector UInt32 64)) => ((z, ()), ()))
theorem eq111 (F : Nat) (x : dens cA111) (y : tdens cT111) : sev (E111 F) 0 [] (bodyOf Tryd.f111) [] (mkSt (rng 0) cA111 cT111 x y) (kFn (E111 F) 0 Tryd.f111.results.toList cB111 cU111 fun p q => some (p, q)) =
    T111c F (fun z => some ((z, ()), ())) := by kernel_rfl
theorem ok111 (F : Nat) : Sound Tryd.prog cfg 111 (ct111 F) :=
  mkC_ok (E := E111 F) (lp := []) (code := bodyOf Tryd.f111) Tryd.func111 rfl Tryd.ntmps111 rfl rfl cok (cts111 F) mixed trivial (by kernel_rfl) (fun x y k => T111c F k) (fun x y k => T111n F k) (eq111 F)
end Go.Proofs.YthikoaamigiceaaDoor
/- kinkeep/kinkeepref03.rotr: its twin, and that the call does what the twin says. Printed by a program. -/
namespace Go.Proofs.YthikoaamigiceaaDoor
open Go.Tw
set_option linter.unusedSimpArgs false
set_option linter.unusedVariables false
def ord112 : Nat → List (Tag × Nat)
  | 1 => [(.p, 0), (.p, 1), (.p, 2), (.p, 3), (.p, 4), (.p, 5), (.p, 6), (.p, 7), (.p, 8)]
  | _ => []
def al112 : Nat → Option Nat
  | _ => none
def ms112 : Nat → Option (List (Option Tag × Nat × List Nat))
  | _ => none
def E112 (F : Nat) : Ev := ⟨cfg, 13, ctOf [], ord112, ctOf [], al112, ms112⟩
theorem cts112 (F : Nat) : CtsOk Tryd.prog (E112 F) := cts_of (l := []) (l' := []) rfl rfl trivial trivial
def T112c (F : Nat) (p0 : UInt32) (p1 : Int) {β : Type} (k : UInt32 → Option β) : Option β :=
  (Option.bind (gnn p1) fun x3 => (Option.bind (gnn (w64 ((32 : Int) - p1))) fun x4 => (k ((shr32 p0 x3) ||| (shl32 p0 x4)))))
def T112 (F : Nat) (p0 : UInt32) (p1 : Int) : Option (UInt32) := T112c F p0 p1 some
theorem T112n (F : Nat) (p0 : UInt32) (p1 : Int) {β : Type} (k : UInt32 → Option β) : T112c F p0 p1 k = (T112 F p0 p1).bind k := by
  simp only [T112, T112c, Option.bind_assoc, cond_bind, Option.bind_some, Option.bind_none, elimS_bind]
@[reducible] def cA112 : List Sh := [.u32, .i]
@[reducible] def cB112 : List Sh := [.u32]
@[reducible] def cT112 : List TSh := []
@[reducible] def cU112 : List TSh := []
def ct112 (F : Nat) : Ct := mkC 0 cA112 cT112 cB112 cU112 (fun x y => T112 F x.1 x.2.1) (fun x y (z : UInt32) => ((z, ()), ()))
theorem eq112 (F : Nat) (x : dens cA112) (y : tdens cT112) : sev (E112 F) 0 [] (bodyOf Tryd.f112) [] (mkSt (rng 2) cA112 cT112 x y) (kFn (E112 F) 0 Tryd.f112.results.toList cB112 cU112 fun p q => some (p, q)) =
    T112c F x.1 x.2.1 (fun z => some ((z, ()), ())) := by kernel_rfl
theorem ok112 (F : Nat) : Sound Tryd.prog cfg 112 (ct112 F) :=
  mkC_ok (E := E112 F) (lp := []) (code := bodyOf Tryd.f112) Tryd.func112 rfl Tryd.ntmps112 rfl rfl cok (cts112 F) mixed trivial (by kernel_rfl) (fun x y k => T112c F x.1 x.2.1 k) (fun x y k => T112n F x.1 x.2.1 k) (eq112 F)
end Go.Proofs.YthikoaamigiceaaDoor
/- kinkeep/kinkeepref03.Block: its twin, and that the call does what the twin says. Printed by a program. -/
namespace Go.Proofs.YthikoaamigiceaaDoor
open Go.Tw
set_option linter.unusedSimpArgs false
set_option linter.unusedVariables false
def ord102 : Nat → List (Tag × Nat)
  | 6 => [(.p, 0), (.p, 1), (.p, 2), (.p, 3), (.p, 4), (.r, 5), (.p, 6), (.p, 7), (.p, 8), (.p, 9), (.p, 10), (.p, 11), (.p, 12), (.r, 13), (.p, 14), (.p, 15), (.p, 16), (.p, 17), (.p, 18), (.p, 19), (.p, 20), (.p, 21), (.r, 22), (.p, 23), (.p, 24), (.p, 25), (.p, 26), (.p, 27), (.p, 28), (.p, 29), (.p, 30), (.r, 31), (.p, 32), (.p, 33), (.p, 34), (.w, 35)]
  | 10 => [(.p, 0), (.p, 1), (.p, 2), (.r, 3), (.p, 5), (.p, 6), (.p, 7), (.c, 8), (.p, 11), (.p, 12), (.p, 13), (.c, 14), (.p, 15), (.w, 4), (.w, 9), (.p, 10), (.p, 16), (.p, 17)]
  | 11 => [(.p, 0), (.p, 1), (.p, 2), (.r, 3), (.p, 5), (.p, 6), (.p, 7), (.c, 8), (.p, 11), (.p, 12), (.p, 13), (.c, 14), (.p, 15), (.w, 4), (.w, 9), (.p, 10), (.p, 16), (.p, 17)]
  | 12 => [(.p, 0), (.p, 1), (.p, 2), (.p, 3), (.p, 4), (.r, 5), (.p, 6), (.p, 7), (.p, 8), (.p, 9), (.p, 10), (.p, 11), (.r, 12), (.p, 13), (.p, 14), (.w, 15)]
  | 17 => [(.p, 0), (.r, 1), (.p, 2), (.r, 3), (.p, 4), (.r, 5), (.p, 6), (.r, 7), (.p, 8), (.r, 9), (.p, 10), (.r, 11), (.p, 12), (.p, 13), (.p, 14), (.p, 15), (.p, 16), (.p, 17)]
  | 18 => [(.p, 0), (.c, 1), (.p, 2), (.p, 4), (.p, 7), (.p, 11), (.p, 12), (.p, 13), (.p, 14), (.p, 15), (.p, 16), (.p, 17), (.p, 18), (.p, 20), (.p, 21), (.c, 22), (.p, 24), (.p, 25), (.c, 26), (.w, 3), (.w, 5), (.p, 6), (.w, 8), (.p, 9), (.p, 10), (.p, 19), (.p, 23), (.p, 27), (.p, 28)]
  | 24 => [(.p, 0), (.p, 1), (.r, 2), (.p, 3), (.p, 4), (.r, 5), (.p, 6), (.p, 7), (.w, 8)]
  | _ => []
def al102 : Nat → Option Nat
  | _ => none
def ms102 : Nat → Option (List (Option Tag × Nat × List Nat))
  | _ => none
def E102 (F : Nat) : Ev := ⟨cfg, 208, ctOf [(111, ct111 F), (112, ct112 F)], ord102, ctOf [], al102, ms102⟩
theorem cts102 (F : Nat) : CtsOk Tryd.prog (E102 F) := cts_of (l := [(111, ct111 F), (112, ct112 F)]) (l' := []) rfl rfl ⟨⟨ok111 F, _, Tryd.func111, rfl, rfl⟩, ⟨⟨ok112 F, _, Tryd.func112, rfl, rfl⟩, trivial⟩⟩ trivial
def L102_5c (F : Nat) (y126 : List UInt8) (y127 : Int) (y131 : Vector UInt32 64) {β : Type} (kA : (Int × (Vector UInt32 64)) → Option β) (kO : ((Vector UInt32 64)) → Option β) : Option β :=
  (bif (decide (y127 < (16 : Int))) then (Option.bind (ix y126 (w64 ((4 : Int) * y127))) fun x137 => (Option.bind (ix y126 (w64 ((w64 ((4 : Int) * y127)) + (1 : Int)))) fun x138 => (Option.bind (ix y126 (w64 ((w64 ((4 : Int) * y127)) + (2 : Int)))) fun x139 => (Option.bind (ix y126 (w64 ((w64 ((4 : Int) * y127)) + (3 : Int)))) fun x140 => (Option.bind (inb 64 y127) fun x141 => (kA ((w64 (y127 + (1 : Int))), (Vector.setIfInBounds y131 x141 ((((shl32 (x137.toUInt32) ((UInt64.ofNat 24).toNat)) ||| (shl32 (x138.toUInt32) ((UInt64.ofNat 16).toNat))) ||| (shl32 (x139.toUInt32) ((UInt64.ofNat 8).toNat))) ||| (x140.toUInt32)))))))))) else (kO y131))
def L102_5 (F : Nat) (y126 : List UInt8) (y127 : Int) (y131 : Vector UInt32 64) : Option ((Int × (Vector UInt32 64)) ⊕ ((Vector UInt32 64))) := L102_5c F y126 y127 y131 (fun s => some (.inl s)) (fun z => some (.inr z))
theorem L102_5n (F : Nat) (y126 : List UInt8) (y127 : Int) (y131 : Vector UInt32 64) {β : Type} (kA : (Int × (Vector UInt32 64)) → Option β) (kO : ((Vector UInt32 64)) → Option β) : L102_5c F y126 y127 y131 kA kO = (L102_5 F y126 y127 y131).bind (elimS kA kO) := by
  simp only [L102_5, L102_5c, Option.bind_assoc, cond_bind, Option.bind_some, Option.bind_none, elimS_l, elimS_r, elimS_bind]
@[reducible] def sA102_5 : List Sh := [(.ro .u8), (.pt 0 []), (.pt 1 []), (.pt 2 []), (.pt 3 []), .i]
@[reducible] def sAp1102_5 : List Sh := [(.pt 0 []), (.pt 1 []), (.pt 2 []), (.pt 3 [])]
@[reducible] def sT102_5 : List TSh := [.blk 143 (.ar 8 .u32), .blk 143 (.ar 8 .u32), .blk 163 (.ar 64 .u32), .blk 163 (.ar 64 .u32)]
@[reducible] def sTp1102_5 : List TSh := [.blk 143 (.ar 8 .u32), .blk 143 (.ar 8 .u32), .blk 163 (.ar 64 .u32), .blk 163 (.ar 64 .u32)]
def lc102_5 (F : Nat) : Lc := mkL [1, 2, 4, 5, 6, 7] sA102_5 sT102_5 [2, 4, 5, 6] sAp1102_5 sTp1102_5 F (fun x y (s : Int × (Vector UInt32 64)) => L102_5 F x.1 s.1 s.2) (fun x y => (x.2.2.2.2.2.1, y.2.2.2.1)) (fun x y (z : (Vector UInt32 64)) => (((), (), (), (), ()), (y.1, y.2.1, y.2.2.1, z, ())))
theorem le102_5 (F : Nat) (x : dens sA102_5) (y : tdens sT102_5) (s : Int × (Vector UInt32 64)) : sev (E102 F) 0 [] (cAt (bodyOf Tryd.f102) (0 :: 0 :: [1, 0, 1, 1, 1])) (0 :: 0 :: [1, 0, 1, 1, 1]) (mkSt [1, 2, 4, 5, 6, 7] sA102_5 sT102_5 (x.1, (), (), (), (), s.1, ()) (y.1, y.2.1, y.2.2.1, s.2, ())) (kLoop 0 [1, 2, 4, 5, 6, 7] sA102_5 sT102_5 [2, 4, 5, 6] sAp1102_5 sTp1102_5 [] [] [] 0 (fun x y => some (.inl (x, y))) (fun x y => some (.inr (.inl (x, y)))) (fun x y => some (.inr (.inr (x, y))))) =
    L102_5c (β := Full sA102_5 sT102_5 sAp1102_5 sTp1102_5 [] []) F x.1 s.1 s.2 (fun s => some (.inl ((x.1, (), (), (), (), s.1, ()), (y.1, y.2.1, y.2.2.1, s.2, ())))) (fun z => some (.inr (.inl (((), (), (), (), ()), (y.1, y.2.1, y.2.2.1, z, ()))))) := by kernel_rfl
theorem lo102_5 (F : Nat) : LcOk Tryd.prog (E102 F) 0 (lc102_5 F) (cAt (bodyOf Tryd.f102) [1, 0, 1, 1, 1]) :=
  mkL_ok (lp := []) (id := 0) (b := cAt (bodyOf Tryd.f102) (0 :: 0 :: [1, 0, 1, 1, 1])) cok (cts102 F) mixed trivial (by kernel_rfl) (by kernel_rfl) (fun x y s => (x.1, (), (), (), (), s.1, ())) (fun x y s => (y.1, y.2.1, y.2.2.1, s.2, ())) (fun x y => rfl) (fun x y => rfl) (fun x y s kA kO => L102_5c F x.1 s.1 s.2 kA kO) (fun x y s kA kO => L102_5n F x.1 s.1 s.2 kA kO) (le102_5 F)
def L102_6c (F : Nat) (y143 : Int) (y147 : Vector UInt32 64) {β : Type} (kA : (Int × (Vector UInt32 64)) → Option β) (kO : ((Vector UInt32 64)) → Option β) : Option β :=
  (bif (decide (y143 < (64 : Int))) then (Option.bind (inb 64 (w64 (y143 - (15 : Int)))) fun x169 => (Option.bind (vat y147 x169) fun x170 => (Option.bind (inb 64 (w64 (y143 - (15 : Int)))) fun x171 => (Option.bind (vat y147 x171) fun x172 => (Option.bind (inb 64 (w64 (y143 - (15 : Int)))) fun x173 => (Option.bind (vat y147 x173) fun x174 => (Option.bind (T112 F x170 (7 : Int)) fun z175 => (Option.bind (T112 F x172 (18 : Int)) fun z176 => (Option.bind (inb 64 (w64 (y143 - (2 : Int)))) fun x177 => (Option.bind (vat y147 x177) fun x178 => (Option.bind (inb 64 (w64 (y143 - (2 : Int)))) fun x179 => (Option.bind (vat y147 x179) fun x180 => (Option.bind (inb 64 (w64 (y143 - (2 : Int)))) fun x181 => (Option.bind (vat y147 x181) fun x182 => (Option.bind (T112 F x178 (17 : Int)) fun z183 => (Option.bind (T112 F x180 (19 : Int)) fun z184 => (Option.bind (inb 64 (w64 (y143 - (7 : Int)))) fun x185 => (Option.bind (vat y147 x185) fun x186 => (Option.bind (inb 64 (w64 (y143 - (16 : Int)))) fun x187 => (Option.bind (vat y147 x187) fun x188 => (Option.bind (inb 64 y143) fun x189 => (kA ((w64 (y143 + (1 : Int))), (Vector.setIfInBounds y147 x189 (((((z183 ^^^ z184) ^^^ (shr32 x182 ((UInt64.ofNat 10).toNat))) + x186) + ((z175 ^^^ z176) ^^^ (shr32 x174 ((UInt64.ofNat 3).toNat)))) + x188))))))))))))))))))))))))) else (kO y147))
def L102_6 (F : Nat) (y143 : Int) (y147 : Vector UInt32 64) : Option ((Int × (Vector UInt32 64)) ⊕ ((Vector UInt32 64))) := L102_6c F y143 y147 (fun s => some (.inl s)) (fun z => some (.inr z))
theorem L102_6n (F : Nat) (y143 : Int) (y147 : Vector UInt32 64) {β : Type} (kA : (Int × (Vector UInt32 64)) → Option β) (kO : ((Vector UInt32 64)) → Option β) : L102_6c F y143 y147 kA kO = (L102_6 F y143 y147).bind (elimS kA kO) := by
  simp only [L102_6, L102_6c, Option.bind_assoc, cond_bind, Option.bind_some, Option.bind_none, elimS_l, elimS_r, elimS_bind]
@[reducible] def sA102_6 : List Sh := [(.pt 0 []), (.pt 1 []), (.pt 2 []), (.pt 3 []), .i]
@[reducible] def sAp1102_6 : List Sh := [(.pt 0 []), (.pt 1 []), (.pt 2 []), (.pt 3 [])]
@[reducible] def sT102_6 : List TSh := [.blk 143 (.ar 8 .u32), .blk 143 (.ar 8 .u32), .blk 163 (.ar 64 .u32), .blk 163 (.ar 64 .u32)]
@[reducible] def sTp1102_6 : List TSh := [.blk 143 (.ar 8 .u32), .blk 143 (.ar 8 .u32), .blk 163 (.ar 64 .u32), .blk 163 (.ar 64 .u32)]
def lc102_6 (F : Nat) : Lc := mkL [2, 4, 5, 6, 8] sA102_6 sT102_6 [2, 4, 5, 6] sAp1102_6 sTp1102_6 F (fun x y (s : Int × (Vector UInt32 64)) => L102_6 F s.1 s.2) (fun x y => (x.2.2.2.2.1, y.2.2.2.1)) (fun x y (z : (Vector UInt32 64)) => (((), (), (), (), ()), (y.1, y.2.1, y.2.2.1, z, ())))
theorem le102_6 (F : Nat) (x : dens sA102_6) (y : tdens sT102_6) (s : Int × (Vector UInt32 64)) : sev (E102 F) 0 [] (cAt (bodyOf Tryd.f102) (0 :: 0 :: [1, 0, 1, 1, 1, 1])) (0 :: 0 :: [1, 0, 1, 1, 1, 1]) (mkSt [2, 4, 5, 6, 8] sA102_6 sT102_6 ((), (), (), (), s.1, ()) (y.1, y.2.1, y.2.2.1, s.2, ())) (kLoop 0 [2, 4, 5, 6, 8] sA102_6 sT102_6 [2, 4, 5, 6] sAp1102_6 sTp1102_6 [] [] [] 2 (fun x y => some (.inl (x, y))) (fun x y => some (.inr (.inl (x, y)))) (fun x y => some (.inr (.inr (x, y))))) =
    L102_6c (β := Full sA102_6 sT102_6 sAp1102_6 sTp1102_6 [] []) F s.1 s.2 (fun s => some (.inl (((), (), (), (), s.1, ()), (y.1, y.2.1, y.2.2.1, s.2, ())))) (fun z => some (.inr (.inl (((), (), (), (), ()), (y.1, y.2.1, y.2.2.1, z, ()))))) := by kernel_rfl
theorem lo102_6 (F : Nat) : LcOk Tryd.prog (E102 F) 0 (lc102_6 F) (cAt (bodyOf Tryd.f102) [1, 0, 1, 1, 1, 1]) :=
  mkL_ok (lp := []) (id := 2) (b := cAt (bodyOf Tryd.f102) (0 :: 0 :: [1, 0, 1, 1, 1, 1])) cok (cts102 F) mixed trivial (by kernel_rfl) (by kernel_rfl) (fun x y s => ((), (), (), (), s.1, ())) (fun x y s => (y.1, y.2.1, y.2.2.1, s.2, ())) (fun x y => rfl) (fun x y => rfl) (fun x y s kA kO => L102_6c F s.1 s.2 kA kO) (fun x y s kA kO => L102_6n F s.1 s.2 kA kO) (le102_6 F)
def L102_7c (F : Nat) (y194 : Vector UInt32 64) (y195 : Vector UInt32 64) (y191 : Int) (y196 : Vector UInt32 8) {β : Type} (kA : (Int × (Vector UInt32 8)) → Option β) (kO : ((Vector UInt32 8)) → Option β) : Option β :=
  (bif (decide (y191 < (64 : Int))) then (Option.bind (vat y196 0) fun x215 => (Option.bind (vat y196 1) fun x216 => (Option.bind (vat y196 2) fun x217 => (Option.bind (vat y196 4) fun x218 => (Option.bind (vat y196 5) fun x219 => (Option.bind (vat y196 6) fun x220 => (Option.bind (vat y196 7) fun x221 => (Option.bind (inb 64 y191) fun x222 => (Option.bind (vat y194 x222) fun x223 => (Option.bind (inb 64 y191) fun x224 => (Option.bind (vat y195 x224) fun x225 => (Option.bind (T112 F x218 (6 : Int)) fun z226 => (Option.bind (T112 F x218 (11 : Int)) fun z227 => (Option.bind (T112 F x218 (25 : Int)) fun z228 => (Option.bind (T112 F x215 (2 : Int)) fun z229 => (Option.bind (T112 F x215 (13 : Int)) fun z230 => (Option.bind (T112 F x215 (22 : Int)) fun z231 => (Option.bind (vat y196 3) fun x232 => (kA ((w64 (y191 + (1 : Int))), (#v[(((((x221 + ((z226 ^^^ z227) ^^^ z228)) + ((x218 &&& x219) ^^^ ((~~~x218) &&& x220))) + x223) + x225) + (((z229 ^^^ z230) ^^^ z231) + (((x215 &&& x216) ^^^ (x215 &&& x217)) ^^^ (x216 &&& x217)))), x215, x216, x217, (x232 + ((((x221 + ((z226 ^^^ z227) ^^^ z228)) + ((x218 &&& x219) ^^^ ((~~~x218) &&& x220))) + x223) + x225)), x218, x219, x220] : Vector UInt32 8))))))))))))))))))))) else (kO y196))
def L102_7 (F : Nat) (y194 : Vector UInt32 64) (y195 : Vector UInt32 64) (y191 : Int) (y196 : Vector UInt32 8) : Option ((Int × (Vector UInt32 8)) ⊕ ((Vector UInt32 8))) := L102_7c F y194 y195 y191 y196 (fun s => some (.inl s)) (fun z => some (.inr z))
theorem L102_7n (F : Nat) (y194 : Vector UInt32 64) (y195 : Vector UInt32 64) (y191 : Int) (y196 : Vector UInt32 8) {β : Type} (kA : (Int × (Vector UInt32 8)) → Option β) (kO : ((Vector UInt32 8)) → Option β) : L102_7c F y194 y195 y191 y196 kA kO = (L102_7 F y194 y195 y191 y196).bind (elimS kA kO) := by
  simp only [L102_7, L102_7c, Option.bind_assoc, cond_bind, Option.bind_some, Option.bind_none, elimS_l, elimS_r, elimS_bind]
@[reducible] def sA102_7 : List Sh := [(.pt 0 []), (.pt 1 []), (.pt 2 []), (.pt 3 []), (.pt 4 []), .i]
@[reducible] def sAp1102_7 : List Sh := [(.pt 0 []), (.pt 1 []), (.pt 2 [])]
@[reducible] def sT102_7 : List TSh := [.blk 143 (.ar 8 .u32), .blk 143 (.ar 8 .u32), .blk 163 (.ar 64 .u32), .blk 163 (.ar 64 .u32), .blk 143 (.ar 8 .u32)]
@[reducible] def sTp1102_7 : List TSh := [.blk 143 (.ar 8 .u32), .blk 143 (.ar 8 .u32), .blk 143 (.ar 8 .u32)]
def lc102_7 (F : Nat) : Lc := mkL [2, 4, 5, 6, 11, 12] sA102_7 sT102_7 [2, 4, 11] sAp1102_7 sTp1102_7 F (fun x y (s : Int × (Vector UInt32 8)) => L102_7 F y.2.2.1 y.2.2.2.1 s.1 s.2) (fun x y => (x.2.2.2.2.2.1, y.2.2.2.2.1)) (fun x y (z : (Vector UInt32 8)) => (((), (), (), ()), (y.1, y.2.1, z, ())))
theorem le102_7 (F : Nat) (x : dens sA102_7) (y : tdens sT102_7) (s : Int × (Vector UInt32 8)) : sev (E102 F) 0 [] (cAt (bodyOf Tryd.f102) (0 :: 0 :: [1, 0, 1, 1, 1, 1, 1, 1])) (0 :: 0 :: [1, 0, 1, 1, 1, 1, 1, 1]) (mkSt [2, 4, 5, 6, 11, 12] sA102_7 sT102_7 ((), (), (), (), (), s.1, ()) (y.1, y.2.1, y.2.2.1, y.2.2.2.1, s.2, ())) (kLoop 0 [2, 4, 5, 6, 11, 12] sA102_7 sT102_7 [2, 4, 11] sAp1102_7 sTp1102_7 [] [] [] 4 (fun x y => some (.inl (x, y))) (fun x y => some (.inr (.inl (x, y)))) (fun x y => some (.inr (.inr (x, y))))) =
    L102_7c (β := Full sA102_7 sT102_7 sAp1102_7 sTp1102_7 [] []) F y.2.2.1 y.2.2.2.1 s.1 s.2 (fun s => some (.inl (((), (), (), (), (), s.1, ()), (y.1, y.2.1, y.2.2.1, y.2.2.2.1, s.2, ())))) (fun z => some (.inr (.inl (((), (), (), ()), (y.1, y.2.1, z, ()))))) := by kernel_rfl
theorem lo102_7 (F : Nat) : LcOk Tryd.prog (E102 F) 0 (lc102_7 F) (cAt (bodyOf Tryd.f102) [1, 0, 1, 1, 1, 1, 1, 1]) :=
  mkL_ok (lp := []) (id := 4) (b := cAt (bodyOf Tryd.f102) (0 :: 0 :: [1, 0, 1, 1, 1, 1, 1, 1])) cok (cts102 F) mixed trivial (by kernel_rfl) (by kernel_rfl) (fun x y s => ((), (), (), (), (), s.1, ())) (fun x y s => (y.1, y.2.1, y.2.2.1, y.2.2.2.1, s.2, ())) (fun x y => rfl) (fun x y => rfl) (fun x y s kA kO => L102_7c F y.2.2.1 y.2.2.2.1 s.1 s.2 kA kO) (fun x y s kA kO => L102_7n F y.2.2.1 y.2.2.2.1 s.1 s.2 kA kO) (le102_7 F)
def L102_8c (F : Nat) (y235 : Vector UInt32 8) (y234 : Int) (y237 : Vector UInt32 8) {β : Type} (kA : (Int × (Vector UInt32 8)) → Option β) (kO : ((Vector UInt32 8)) → Option β) : Option β :=
  (bif (decide (y234 < (8 : Int))) then (Option.bind (inb 8 y234) fun x243 => (Option.bind (vat y237 x243) fun x244 => (Option.bind (inb 8 y234) fun x245 => (Option.bind (vat y235 x245) fun x246 => (Option.bind (inb 8 y234) fun x247 => (kA ((w64 (y234 + (1 : Int))), (Vector.setIfInBounds y237 x247 (x244 + x246))))))))) else (kO y237))
def L102_8 (F : Nat) (y235 : Vector UInt32 8) (y234 : Int) (y237 : Vector UInt32 8) : Option ((Int × (Vector UInt32 8)) ⊕ ((Vector UInt32 8))) := L102_8c F y235 y234 y237 (fun s => some (.inl s)) (fun z => some (.inr z))
theorem L102_8n (F : Nat) (y235 : Vector UInt32 8) (y234 : Int) (y237 : Vector UInt32 8) {β : Type} (kA : (Int × (Vector UInt32 8)) → Option β) (kO : ((Vector UInt32 8)) → Option β) : L102_8c F y235 y234 y237 kA kO = (L102_8 F y235 y234 y237).bind (elimS kA kO) := by
  simp only [L102_8, L102_8c, Option.bind_assoc, cond_bind, Option.bind_some, Option.bind_none, elimS_l, elimS_r, elimS_bind]
@[reducible] def sA102_8 : List Sh := [(.pt 0 []), (.pt 1 []), (.pt 2 []), .i]
@[reducible] def sAp1102_8 : List Sh := [(.pt 0 []), (.pt 1 [])]
@[reducible] def sT102_8 : List TSh := [.blk 143 (.ar 8 .u32), .blk 143 (.ar 8 .u32), .blk 143 (.ar 8 .u32)]
@[reducible] def sTp1102_8 : List TSh := [.blk 143 (.ar 8 .u32), .blk 143 (.ar 8 .u32)]
def lc102_8 (F : Nat) : Lc := mkL [2, 4, 11, 21] sA102_8 sT102_8 [4, 11] sAp1102_8 sTp1102_8 F (fun x y (s : Int × (Vector UInt32 8)) => L102_8 F y.1 s.1 s.2) (fun x y => (x.2.2.2.1, y.2.2.1)) (fun x y (z : (Vector UInt32 8)) => (((), (), ()), (y.2.1, z, ())))
theorem le102_8 (F : Nat) (x : dens sA102_8) (y : tdens sT102_8) (s : Int × (Vector UInt32 8)) : sev (E102 F) 0 [] (cAt (bodyOf Tryd.f102) (0 :: 0 :: [1, 0, 1, 1, 1, 1, 1, 1, 1])) (0 :: 0 :: [1, 0, 1, 1, 1, 1, 1, 1, 1]) (mkSt [2, 4, 11, 21] sA102_8 sT102_8 ((), (), (), s.1, ()) (y.1, y.2.1, s.2, ())) (kLoop 0 [2, 4, 11, 21] sA102_8 sT102_8 [4, 11] sAp1102_8 sTp1102_8 [] [] [] 6 (fun x y => some (.inl (x, y))) (fun x y => some (.inr (.inl (x, y)))) (fun x y => some (.inr (.inr (x, y))))) =
    L102_8c (β := Full sA102_8 sT102_8 sAp1102_8 sTp1102_8 [] []) F y.1 s.1 s.2 (fun s => some (.inl (((), (), (), s.1, ()), (y.1, y.2.1, s.2, ())))) (fun z => some (.inr (.inl (((), (), ()), (y.2.1, z, ()))))) := by kernel_rfl
theorem lo102_8 (F : Nat) : LcOk Tryd.prog (E102 F) 0 (lc102_8 F) (cAt (bodyOf Tryd.f102) [1, 0, 1, 1, 1, 1, 1, 1, 1]) :=
  mkL_ok (lp := []) (id := 6) (b := cAt (bodyOf Tryd.f102) (0 :: 0 :: [1, 0, 1, 1, 1, 1, 1, 1, 1])) cok (cts102 F) mixed trivial (by kernel_rfl) (by kernel_rfl) (fun x y s => ((), (), (), s.1, ())) (fun x y s => (y.1, y.2.1, s.2, ())) (fun x y => rfl) (fun x y => rfl) (fun x y s kA kO => L102_8c F y.1 s.1 s.2 kA kO) (fun x y s kA kO => L102_8n F y.1 s.1 s.2 kA kO) (le102_8 F)
def T102c (F : Nat) (p0 : Vector UInt32 8) (p1 : List UInt8) {β : Type} (k : ((Vector UInt32 8)) → Option β) : Option β :=
  (Option.bind (T111 F) fun z125 => (Option.bind (iter (fun s => L102_5 F p1 s.1 s.2) F ((0 : Int), (Vector.replicate 64 (0 : UInt32)))) fun z142 => (Option.bind (iter (fun s => L102_6 F s.1 s.2) F ((16 : Int), z142)) fun z190 => (Option.bind (iter (fun s => L102_7 F z125 z190 s.1 s.2) F ((0 : Int), p0)) fun z233 => (Option.bind (iter (fun s => L102_8 F p0 s.1 s.2) F ((0 : Int), z233)) fun z248 => (k z248))))))
def T102 (F : Nat) (p0 : Vector UInt32 8) (p1 : List UInt8) : Option ((Vector UInt32 8)) := T102c F p0 p1 some
theorem T102n (F : Nat) (p0 : Vector UInt32 8) (p1 : List UInt8) {β : Type} (k : ((Vector UInt32 8)) → Option β) : T102c F p0 p1 k = (T102 F p0 p1).bind k := by
  simp only [T102, T102c, Option.bind_assoc, cond_bind, Option.bind_some, Option.bind_none, elimS_bind]
@[reducible] def cA102 : List Sh := [(.ar 8 .u32), (.ro .u8)]
@[reducible] def cB102 : List Sh := [(.ar 8 .u32)]
@[reducible] def cT102 : List TSh := []
@[reducible] def cU102 : List TSh := []
def ct102 (F : Nat) : Ct := mkC 0 cA102 cT102 cB102 cU102 (fun x y => T102 F x.1 x.2.1) (fun x y (z : (Vector UInt32 8)) => ((z, ()), ()))
theorem eq102 (F : Nat) (x : dens cA102) (y : tdens cT102) : sev (E102 F) 0 [([1, 0, 1, 1, 1], lc102_5 F), ([1, 0, 1, 1, 1, 1], lc102_6 F), ([1, 0, 1, 1, 1, 1, 1, 1], lc102_7 F), ([1, 0, 1, 1, 1, 1, 1, 1, 1], lc102_8 F)] (bodyOf Tryd.f102) [] (mkSt (rng 2) cA102 cT102 x y) (kFn (E102 F) 0 Tryd.f102.results.toList cB102 cU102 fun p q => some (p, q)) =
    T102c F x.1 x.2.1 (fun z => some ((z, ()), ())) := by kernel_rfl
theorem ok102 (F : Nat) : Sound Tryd.prog cfg 102 (ct102 F) :=
  mkC_ok (E := E102 F) (lp := [([1, 0, 1, 1, 1], lc102_5 F), ([1, 0, 1, 1, 1, 1], lc102_6 F), ([1, 0, 1, 1, 1, 1, 1, 1], lc102_7 F), ([1, 0, 1, 1, 1, 1, 1, 1, 1], lc102_8 F)]) (code := bodyOf Tryd.f102) Tryd.func102 rfl Tryd.ntmps102 rfl rfl cok (cts102 F) mixed ⟨lo102_5 F, ⟨lo102_6 F, ⟨lo102_7 F, ⟨lo102_8 F, trivial⟩⟩⟩⟩ (by kernel_rfl) (fun x y k => T102c F x.1 x.2.1 k) (fun x y k => T102n F x.1 x.2.1 k) (eq102 F)
end Go.Proofs.YthikoaamigiceaaDoor
/- kinkeep/kinkeepref03.Sum: its twin, and that the call does what the twin says. Printed by a program. -/
namespace Go.Proofs.YthikoaamigiceaaDoor
open Go.Tw
set_option linter.unusedSimpArgs false
set_option linter.unusedVariables false
def ord87 : Nat → List (Tag × Nat)
  | 6 => [(.r, 0), (.p, 1), (.p, 2), (.p, 3), (.p, 4), (.p, 5), (.w, 6), (.w, 7)]
  | 11 => [(.p, 0), (.p, 1), (.p, 2), (.r, 3), (.p, 4), (.p, 5), (.p, 6), (.p, 7), (.r, 8), (.p, 9), (.p, 10), (.p, 11), (.p, 12), (.r, 13), (.p, 14), (.p, 15), (.p, 16), (.p, 17), (.r, 18), (.p, 19), (.w, 20), (.w, 21), (.p, 22)]
  | _ => []
def al87 : Nat → Option Nat
  | _ => none
def ms87 : Nat → Option (List (Option Tag × Nat × List Nat))
  | _ => none
def E87 (F : Nat) : Ev := ⟨cfg, 53, ctOf [(101, ct101 F), (102, ct102 F)], ord87, ctOf [], al87, ms87⟩
theorem cts87 (F : Nat) : CtsOk Tryd.prog (E87 F) := cts_of (l := [(101, ct101 F), (102, ct102 F)]) (l' := []) rfl rfl ⟨⟨ok101 F, _, Tryd.func101, rfl, rfl⟩, ⟨⟨ok102 F, _, Tryd.func102, rfl, rfl⟩, trivial⟩⟩ trivial
def L87_3c (F : Nat) (y35 : List UInt8) (y33 : Int) (y34 : Vector UInt32 8) {β : Type} (kA : (Int × (Vector UInt32 8)) → Option β) (kO : ((Vector UInt32 8)) → Option β) : Option β :=
  (bif (decide (y33 < (y35.length : Int))) then (Option.bind (gslb y35.length y33 (w64 (y33 + (64 : Int)))) fun x38 => (Option.bind (T102 F y34 ((y35.drop x38.1).take (x38.2 - x38.1))) fun z39 => (kA ((w64 (y33 + (64 : Int))), z39)))) else (kO y34))
def L87_3 (F : Nat) (y35 : List UInt8) (y33 : Int) (y34 : Vector UInt32 8) : Option ((Int × (Vector UInt32 8)) ⊕ ((Vector UInt32 8))) := L87_3c F y35 y33 y34 (fun s => some (.inl s)) (fun z => some (.inr z))
theorem L87_3n (F : Nat) (y35 : List UInt8) (y33 : Int) (y34 : Vector UInt32 8) {β : Type} (kA : (Int × (Vector UInt32 8)) → Option β) (kO : ((Vector UInt32 8)) → Option β) : L87_3c F y35 y33 y34 kA kO = (L87_3 F y35 y33 y34).bind (elimS kA kO) := by
  simp only [L87_3, L87_3c, Option.bind_assoc, cond_bind, Option.bind_some, Option.bind_none, elimS_l, elimS_r, elimS_bind]
@[reducible] def sA87_3 : List Sh := [(.pt 0 []), (.rw 1), .i]
@[reducible] def sAp187_3 : List Sh := [(.pt 0 [])]
@[reducible] def sT87_3 : List TSh := [.blk 143 (.ar 8 .u32), .row 5 .u8]
@[reducible] def sTp187_3 : List TSh := [.blk 143 (.ar 8 .u32)]
def lc87_3 (F : Nat) : Lc := mkL [3, 4, 5] sA87_3 sT87_3 [3] sAp187_3 sTp187_3 F (fun x y (s : Int × (Vector UInt32 8)) => L87_3 F y.2.1 s.1 s.2) (fun x y => (x.2.2.1, y.1)) (fun x y (z : (Vector UInt32 8)) => (((), ()), (z, ())))
theorem le87_3 (F : Nat) (x : dens sA87_3) (y : tdens sT87_3) (s : Int × (Vector UInt32 8)) : sev (E87 F) 0 [] (cAt (bodyOf Tryd.f87) (0 :: 0 :: [1, 0, 1, 1, 1])) (0 :: 0 :: [1, 0, 1, 1, 1]) (mkSt [3, 4, 5] sA87_3 sT87_3 ((), (), s.1, ()) (s.2, y.2.1, ())) (kLoop 0 [3, 4, 5] sA87_3 sT87_3 [3] sAp187_3 sTp187_3 [] [] [] 0 (fun x y => some (.inl (x, y))) (fun x y => some (.inr (.inl (x, y)))) (fun x y => some (.inr (.inr (x, y))))) =
    L87_3c (β := Full sA87_3 sT87_3 sAp187_3 sTp187_3 [] []) F y.2.1 s.1 s.2 (fun s => some (.inl (((), (), s.1, ()), (s.2, y.2.1, ())))) (fun z => some (.inr (.inl (((), ()), (z, ()))))) := by kernel_rfl
theorem lo87_3 (F : Nat) : LcOk Tryd.prog (E87 F) 0 (lc87_3 F) (cAt (bodyOf Tryd.f87) [1, 0, 1, 1, 1]) :=
  mkL_ok (lp := []) (id := 0) (b := cAt (bodyOf Tryd.f87) (0 :: 0 :: [1, 0, 1, 1, 1])) cok (cts87 F) mixed trivial (by kernel_rfl) (by kernel_rfl) (fun x y s => ((), (), s.1, ())) (fun x y s => (s.2, y.2.1, ())) (fun x y => rfl) (fun x y => rfl) (fun x y s kA kO => L87_3c F y.2.1 s.1 s.2 kA kO) (fun x y s kA kO => L87_3n F y.2.1 s.1 s.2 kA kO) (le87_3 F)
def L87_4c (F : Nat) (y42 : Vector UInt32 8) (y41 : Int) (y43 : List UInt8) {β : Type} (kA : (Int × (List UInt8)) → Option β) (kO : ((List UInt8)) → Option β) : Option β :=
  (bif (decide (y41 < (8 : Int))) then (Option.bind (inb 8 y41) fun x53 => (Option.bind (vat y42 x53) fun x54 => (Option.bind (inb 8 y41) fun x55 => (Option.bind (vat y42 x55) fun x56 => (Option.bind (inb 8 y41) fun x57 => (Option.bind (vat y42 x57) fun x58 => (Option.bind (inb 8 y41) fun x59 => (Option.bind (vat y42 x59) fun x60 => (Option.bind (gapp y43 ([((shr32 x54 ((UInt64.ofNat 24).toNat)).toUInt8), ((shr32 x56 ((UInt64.ofNat 16).toNat)).toUInt8), ((shr32 x58 ((UInt64.ofNat 8).toNat)).toUInt8), (x60.toUInt8)] : List UInt8)) fun x61 => (kA ((w64 (y41 + (1 : Int))), x61))))))))))) else (kO y43))
def L87_4 (F : Nat) (y42 : Vector UInt32 8) (y41 : Int) (y43 : List UInt8) : Option ((Int × (List UInt8)) ⊕ ((List UInt8))) := L87_4c F y42 y41 y43 (fun s => some (.inl s)) (fun z => some (.inr z))
theorem L87_4n (F : Nat) (y42 : Vector UInt32 8) (y41 : Int) (y43 : List UInt8) {β : Type} (kA : (Int × (List UInt8)) → Option β) (kO : ((List UInt8)) → Option β) : L87_4c F y42 y41 y43 kA kO = (L87_4 F y42 y41 y43).bind (elimS kA kO) := by
  simp only [L87_4, L87_4c, Option.bind_assoc, cond_bind, Option.bind_some, Option.bind_none, elimS_l, elimS_r, elimS_bind]
@[reducible] def sA87_4 : List Sh := [(.pt 0 []), (.rw 1), .i]
@[reducible] def sAp187_4 : List Sh := [(.rw 0)]
@[reducible] def sT87_4 : List TSh := [.blk 143 (.ar 8 .u32), .row 5 .u8]
@[reducible] def sTp187_4 : List TSh := [.row 5 .u8]
def lc87_4 (F : Nat) : Lc := mkL [3, 6, 7] sA87_4 sT87_4 [6] sAp187_4 sTp187_4 F (fun x y (s : Int × (List UInt8)) => L87_4 F y.1 s.1 s.2) (fun x y => (x.2.2.1, y.2.1)) (fun x y (z : (List UInt8)) => (((), ()), (z, ())))
theorem le87_4 (F : Nat) (x : dens sA87_4) (y : tdens sT87_4) (s : Int × (List UInt8)) : sev (E87 F) 0 [] (cAt (bodyOf Tryd.f87) (0 :: 0 :: [1, 0, 1, 1, 1, 1, 1])) (0 :: 0 :: [1, 0, 1, 1, 1, 1, 1]) (mkSt [3, 6, 7] sA87_4 sT87_4 ((), (), s.1, ()) (y.1, s.2, ())) (kLoop 0 [3, 6, 7] sA87_4 sT87_4 [6] sAp187_4 sTp187_4 [] [] [] 2 (fun x y => some (.inl (x, y))) (fun x y => some (.inr (.inl (x, y)))) (fun x y => some (.inr (.inr (x, y))))) =
    L87_4c (β := Full sA87_4 sT87_4 sAp187_4 sTp187_4 [] []) F y.1 s.1 s.2 (fun s => some (.inl (((), (), s.1, ()), (y.1, s.2, ())))) (fun z => some (.inr (.inl (((), ()), (z, ()))))) := by kernel_rfl
theorem lo87_4 (F : Nat) : LcOk Tryd.prog (E87 F) 0 (lc87_4 F) (cAt (bodyOf Tryd.f87) [1, 0, 1, 1, 1, 1, 1]) :=
  mkL_ok (lp := []) (id := 2) (b := cAt (bodyOf Tryd.f87) (0 :: 0 :: [1, 0, 1, 1, 1, 1, 1])) cok (cts87 F) mixed trivial (by kernel_rfl) (by kernel_rfl) (fun x y s => ((), (), s.1, ())) (fun x y s => (y.1, s.2, ())) (fun x y => rfl) (fun x y => rfl) (fun x y s kA kO => L87_4c F y.1 s.1 s.2 kA kO) (fun x y s kA kO => L87_4n F y.1 s.1 s.2 kA kO) (le87_4 F)
def T87c (F : Nat) (p0 : List UInt8) {β : Type} (k : ((List UInt8)) → Option β) : Option β :=
  (Option.bind (T101 F p0) fun z32 => (Option.bind (iter (fun s => L87_3 F z32 s.1 s.2) F ((0 : Int), (#v[(UInt32.ofNat 1779033703), (UInt32.ofNat 3144134277), (UInt32.ofNat 1013904242), (UInt32.ofNat 2773480762), (UInt32.ofNat 1359893119), (UInt32.ofNat 2600822924), (UInt32.ofNat 528734635), (UInt32.ofNat 1541459225)] : Vector UInt32 8))) fun z40 => (Option.bind (iter (fun s => L87_4 F z40 s.1 s.2) F ((0 : Int), ([] : List UInt8))) fun z62 => (k z62))))
def T87 (F : Nat) (p0 : List UInt8) : Option ((List UInt8)) := T87c F p0 some
theorem T87n (F : Nat) (p0 : List UInt8) {β : Type} (k : ((List UInt8)) → Option β) : T87c F p0 k = (T87 F p0).bind k := by
  simp only [T87, T87c, Option.bind_assoc, cond_bind, Option.bind_some, Option.bind_none, elimS_bind]
@[reducible] def cA87 : List Sh := [(.ro .u8)]
@[reducible] def cB87 : List Sh := [.str]
@[reducible] def cT87 : List TSh := []
@[reducible] def cU87 : List TSh := []
def ct87 (F : Nat) : Ct := mkC 0 cA87 cT87 cB87 cU87 (fun x y => T87 F x.1) (fun x y (z : (List UInt8)) => ((z, ()), ()))
theorem eq87 (F : Nat) (x : dens cA87) (y : tdens cT87) : sev (E87 F) 0 [([1, 0, 1, 1, 1], lc87_3 F), ([1, 0, 1, 1, 1, 1, 1], lc87_4 F)] (bodyOf Tryd.f87) [] (mkSt (rng 1) cA87 cT87 x y) (kFn (E87 F) 0 Tryd.f87.results.toList cB87 cU87 fun p q => some (p, q)) =
    T87c F x.1 (fun z => some ((z, ()), ())) := by kernel_rfl
theorem ok87 (F : Nat) : Sound Tryd.prog cfg 87 (ct87 F) :=
  mkC_ok (E := E87 F) (lp := [([1, 0, 1, 1, 1], lc87_3 F), ([1, 0, 1, 1, 1, 1, 1], lc87_4 F)]) (code := bodyOf Tryd.f87) Tryd.func87 rfl Tryd.ntmps87 rfl rfl cok (cts87 F) mixed ⟨lo87_3 F, ⟨lo87_4 F, trivial⟩⟩ (by kernel_rfl) (fun x y k => T87c F x.1 k) (fun x y k => T87n F x.1 k) (eq87 F)
end Go.Proofs.YthikoaamigiceaaDoor
/- kinkeep/kinkeepref05.pad: its twin, and that the call does what the twin says. Printed by a program. -/
namespace Go.Proofs.YthikoaamigiceaaDoor
open Go.Tw
set_option linter.unusedSimpArgs false
set_option linter.unusedVariables false
def ord88 : Nat → List (Tag × Nat)
  | _ => []
def al88 : Nat → Option Nat
  | _ => none
def ms88 : Nat → Option (List (Option Tag × Nat × List Nat))
  | _ => none
def E88 (F : Nat) : Ev := ⟨cfg, 27, ctOf [], ord88, ctOf [], al88, ms88⟩
theorem cts88 (F : Nat) : CtsOk Tryd.prog (E88 F) := cts_of (l := []) (l' := []) rfl rfl trivial trivial
def L88_2c (F : Nat) (y12 : List UInt8) (y13 : UInt8) (y14 : Int) (y15 : List UInt8) {β : Type} (kA : (Int × (List UInt8)) → Option β) (kO : ((List UInt8)) → Option β) : Option β :=
  (bif (decide (y14 < (64 : Int))) then (bif (decide (y14 < (y12.length : Int))) then (Option.bind (ix y12 y14) fun x19 => (Option.bind (gapp y15 ([(x19 ^^^ y13)] : List UInt8)) fun x20 => (kA ((w64 (y14 + (1 : Int))), x20)))) else (Option.bind (gapp y15 ([((UInt8.ofNat 0) ^^^ y13)] : List UInt8)) fun x21 => (kA ((w64 (y14 + (1 : Int))), x21)))) else (kO y15))
def L88_2 (F : Nat) (y12 : List UInt8) (y13 : UInt8) (y14 : Int) (y15 : List UInt8) : Option ((Int × (List UInt8)) ⊕ ((List UInt8))) := L88_2c F y12 y13 y14 y15 (fun s => some (.inl s)) (fun z => some (.inr z))
theorem L88_2n (F : Nat) (y12 : List UInt8) (y13 : UInt8) (y14 : Int) (y15 : List UInt8) {β : Type} (kA : (Int × (List UInt8)) → Option β) (kO : ((List UInt8)) → Option β) : L88_2c F y12 y13 y14 y15 kA kO = (L88_2 F y12 y13 y14 y15).bind (elimS kA kO) := by
  simp only [L88_2, L88_2c, Option.bind_assoc, cond_bind, Option.bind_some, Option.bind_none, elimS_l, elimS_r, elimS_bind]
@[reducible] def sA88_2 : List Sh := [.str, .u8, (.rw 0), .i]
@[reducible] def sAp188_2 : List Sh := [(.rw 0)]
@[reducible] def sT88_2 : List TSh := [.row 5 .u8]
@[reducible] def sTp188_2 : List TSh := [.row 5 .u8]
def lc88_2 (F : Nat) : Lc := mkL [0, 1, 5, 6] sA88_2 sT88_2 [5] sAp188_2 sTp188_2 F (fun x y (s : Int × (List UInt8)) => L88_2 F x.1 x.2.1 s.1 s.2) (fun x y => (x.2.2.2.1, y.1)) (fun x y (z : (List UInt8)) => (((), ()), (z, ())))
theorem le88_2 (F : Nat) (x : dens sA88_2) (y : tdens sT88_2) (s : Int × (List UInt8)) : sev (E88 F) 0 [] (cAt (bodyOf Tryd.f88) (0 :: 0 :: [1, 0, 1, 1])) (0 :: 0 :: [1, 0, 1, 1]) (mkSt [0, 1, 5, 6] sA88_2 sT88_2 (x.1, x.2.1, (), s.1, ()) (s.2, ())) (kLoop 0 [0, 1, 5, 6] sA88_2 sT88_2 [5] sAp188_2 sTp188_2 [] [] [] 0 (fun x y => some (.inl (x, y))) (fun x y => some (.inr (.inl (x, y)))) (fun x y => some (.inr (.inr (x, y))))) =
    L88_2c (β := Full sA88_2 sT88_2 sAp188_2 sTp188_2 [] []) F x.1 x.2.1 s.1 s.2 (fun s => some (.inl ((x.1, x.2.1, (), s.1, ()), (s.2, ())))) (fun z => some (.inr (.inl (((), ()), (z, ()))))) := by kernel_rfl
theorem lo88_2 (F : Nat) : LcOk Tryd.prog (E88 F) 0 (lc88_2 F) (cAt (bodyOf Tryd.f88) [1, 0, 1, 1]) :=
  mkL_ok (lp := []) (id := 0) (b := cAt (bodyOf Tryd.f88) (0 :: 0 :: [1, 0, 1, 1])) cok (cts88 F) mixed trivial (by kernel_rfl) (by kernel_rfl) (fun x y s => (x.1, x.2.1, (), s.1, ())) (fun x y s => (s.2, ())) (fun x y => rfl) (fun x y => rfl) (fun x y s kA kO => L88_2c F x.1 x.2.1 s.1 s.2 kA kO) (fun x y s kA kO => L88_2n F x.1 x.2.1 s.1 s.2 kA kO) (le88_2 F)
def T88c (F : Nat) (p0 : List UInt8) (p1 : UInt8) {β : Type} (k : ((List UInt8)) → Option β) : Option β :=
  (Option.bind (iter (fun s => L88_2 F p0 p1 s.1 s.2) F ((0 : Int), ([] : List UInt8))) fun z22 => (k z22))
def T88 (F : Nat) (p0 : List UInt8) (p1 : UInt8) : Option ((List UInt8)) := T88c F p0 p1 some
theorem T88n (F : Nat) (p0 : List UInt8) (p1 : UInt8) {β : Type} (k : ((List UInt8)) → Option β) : T88c F p0 p1 k = (T88 F p0 p1).bind k := by
  simp only [T88, T88c, Option.bind_assoc, cond_bind, Option.bind_some, Option.bind_none, elimS_bind]
@[reducible] def cA88 : List Sh := [.str, .u8]
@[reducible] def cB88 : List Sh := [(.rw 0)]
@[reducible] def cT88 : List TSh := []
@[reducible] def cU88 : List TSh := [.row 5 .u8]
def ct88 (F : Nat) : Ct := mkC 0 cA88 cT88 cB88 cU88 (fun x y => T88 F x.1 x.2.1) (fun x y (z : (List UInt8)) => (((), ()), (z, ())))
theorem eq88 (F : Nat) (x : dens cA88) (y : tdens cT88) : sev (E88 F) 0 [([1, 0, 1, 1], lc88_2 F)] (bodyOf Tryd.f88) [] (mkSt (rng 2) cA88 cT88 x y) (kFn (E88 F) 0 Tryd.f88.results.toList cB88 cU88 fun p q => some (p, q)) =
    T88c F x.1 x.2.1 (fun z => some (((), ()), (z, ()))) := by kernel_rfl
theorem ok88 (F : Nat) : Sound Tryd.prog cfg 88 (ct88 F) :=
  mkC_ok (E := E88 F) (lp := [([1, 0, 1, 1], lc88_2 F)]) (code := bodyOf Tryd.f88) Tryd.func88 rfl Tryd.ntmps88 rfl rfl cok (cts88 F) mixed ⟨lo88_2 F, trivial⟩ (by kernel_rfl) (fun x y k => T88c F x.1 x.2.1 k) (fun x y k => T88n F x.1 x.2.1 k) (eq88 F)
end Go.Proofs.YthikoaamigiceaaDoor
/- kinkeep/kinkeepref05.Tag: its twin, and that the call does what the twin says. Printed by a program. -/
namespace Go.Proofs.YthikoaamigiceaaDoor
open Go.Tw
set_option linter.unusedSimpArgs false
set_option linter.unusedVariables false
def ord66 : Nat → List (Tag × Nat)
  | _ => []
def al66 : Nat → Option Nat
  | _ => none
def ms66 : Nat → Option (List (Option Tag × Nat × List Nat))
  | _ => none
def E66 (F : Nat) : Ev := ⟨cfg, 23, ctOf [(87, ct87 F), (88, ct88 F)], ord66, ctOf [], al66, ms66⟩
theorem cts66 (F : Nat) : CtsOk Tryd.prog (E66 F) := cts_of (l := [(87, ct87 F), (88, ct88 F)]) (l' := []) rfl rfl ⟨⟨ok87 F, _, Tryd.func87, rfl, rfl⟩, ⟨⟨ok88 F, _, Tryd.func88, rfl, rfl⟩, trivial⟩⟩ trivial
def T66c (F : Nat) (p0 : List UInt8) (p1 : List UInt8) {β : Type} (k : ((List UInt8)) → Option β) : Option β :=
  (bif (decide ((64 : Int) < (p0.length : Int))) then (Option.bind (gstr p0) fun x17 => (Option.bind (T87 F x17) fun z18 => (Option.bind (T88 F z18 (UInt8.ofNat 54)) fun z19 => (Option.bind (gapp z19 p1) fun x20 => (Option.bind (T87 F x20) fun z21 => (Option.bind (T88 F z18 (UInt8.ofNat 92)) fun z22 => (Option.bind (gstr z21) fun x23 => (Option.bind (gapp z22 x23) fun x24 => (Option.bind (T87 F x24) fun z25 => (k z25)))))))))) else (Option.bind (T88 F p0 (UInt8.ofNat 54)) fun z26 => (Option.bind (gapp z26 p1) fun x27 => (Option.bind (T87 F x27) fun z28 => (Option.bind (T88 F p0 (UInt8.ofNat 92)) fun z29 => (Option.bind (gstr z28) fun x30 => (Option.bind (gapp z29 x30) fun x31 => (Option.bind (T87 F x31) fun z32 => (k z32)))))))))
def T66 (F : Nat) (p0 : List UInt8) (p1 : List UInt8) : Option ((List UInt8)) := T66c F p0 p1 some
theorem T66n (F : Nat) (p0 : List UInt8) (p1 : List UInt8) {β : Type} (k : ((List UInt8)) → Option β) : T66c F p0 p1 k = (T66 F p0 p1).bind k := by
  simp only [T66, T66c, Option.bind_assoc, cond_bind, Option.bind_some, Option.bind_none, elimS_bind]
@[reducible] def cA66 : List Sh := [.str, (.ro .u8)]
@[reducible] def cB66 : List Sh := [.str]
@[reducible] def cT66 : List TSh := []
@[reducible] def cU66 : List TSh := []
def ct66 (F : Nat) : Ct := mkC 0 cA66 cT66 cB66 cU66 (fun x y => T66 F x.1 x.2.1) (fun x y (z : (List UInt8)) => ((z, ()), ()))
theorem eq66 (F : Nat) (x : dens cA66) (y : tdens cT66) : sev (E66 F) 0 [] (bodyOf Tryd.f66) [] (mkSt (rng 2) cA66 cT66 x y) (kFn (E66 F) 0 Tryd.f66.results.toList cB66 cU66 fun p q => some (p, q)) =
    T66c F x.1 x.2.1 (fun z => some ((z, ()), ())) := by kernel_rfl
theorem ok66 (F : Nat) : Sound Tryd.prog cfg 66 (ct66 F) :=
  mkC_ok (E := E66 F) (lp := []) (code := bodyOf Tryd.f66) Tryd.func66 rfl Tryd.ntmps66 rfl rfl cok (cts66 F) mixed trivial (by kernel_rfl) (fun x y k => T66c F x.1 x.2.1 k) (fun x y k => T66n F x.1 x.2.1 k) (eq66 F)
end Go.Proofs.YthikoaamigiceaaDoor
/- kinkeep/kinkeepref05.Expand: its twin, and that the call does what the twin says. Printed by a program. -/
namespace Go.Proofs.YthikoaamigiceaaDoor
open Go.Tw
set_option linter.unusedSimpArgs false
set_option linter.unusedVariables false
def ord65 : Nat → List (Tag × Nat)
  | _ => []
def al65 : Nat → Option Nat
  | _ => none
def ms65 : Nat → Option (List (Option Tag × Nat × List Nat))
  | _ => none
def E65 (F : Nat) : Ev := ⟨cfg, 32, ctOf [(66, ct66 F)], ord65, ctOf [], al65, ms65⟩
theorem cts65 (F : Nat) : CtsOk Tryd.prog (E65 F) := cts_of (l := [(66, ct66 F)]) (l' := []) rfl rfl ⟨⟨ok66 F, _, Tryd.func66, rfl, rfl⟩, trivial⟩ trivial
def L65_2c (F : Nat) (y19 : List UInt8) (y20 : List UInt8) (y21 : Int) (y22 : List UInt8) (y23 : List UInt8) (y24 : Int) {β : Type} (kA : ((List UInt8) × (List UInt8) × Int) → Option β) (kO : ((List UInt8)) → Option β) : Option β :=
  (bif (decide ((y22.length : Int) < y21)) then (Option.bind (gcat y23 y20) fun x30 => (Option.bind (gstr x30) fun x31 => (Option.bind (gapp x31 ([(UInt8.ofInt y24)] : List UInt8)) fun x32 => (Option.bind (T66 F y19 x32) fun z33 => (Option.bind (gcat y22 z33) fun x34 => (kA (x34, z33, (w64 (y24 + (1 : Int)))))))))) else (kO y22))
def L65_2 (F : Nat) (y19 : List UInt8) (y20 : List UInt8) (y21 : Int) (y22 : List UInt8) (y23 : List UInt8) (y24 : Int) : Option (((List UInt8) × (List UInt8) × Int) ⊕ ((List UInt8))) := L65_2c F y19 y20 y21 y22 y23 y24 (fun s => some (.inl s)) (fun z => some (.inr z))
theorem L65_2n (F : Nat) (y19 : List UInt8) (y20 : List UInt8) (y21 : Int) (y22 : List UInt8) (y23 : List UInt8) (y24 : Int) {β : Type} (kA : ((List UInt8) × (List UInt8) × Int) → Option β) (kO : ((List UInt8)) → Option β) : L65_2c F y19 y20 y21 y22 y23 y24 kA kO = (L65_2 F y19 y20 y21 y22 y23 y24).bind (elimS kA kO) := by
  simp only [L65_2, L65_2c, Option.bind_assoc, cond_bind, Option.bind_some, Option.bind_none, elimS_l, elimS_r, elimS_bind]
@[reducible] def sA65_2 : List Sh := [.str, .str, .i, .str, .str, .i]
@[reducible] def sAp165_2 : List Sh := [.i, .str]
@[reducible] def sT65_2 : List TSh := []
@[reducible] def sTp165_2 : List TSh := []
def lc65_2 (F : Nat) : Lc := mkL [0, 1, 2, 7, 8, 9] sA65_2 sT65_2 [2, 7] sAp165_2 sTp165_2 F (fun x y (s : (List UInt8) × (List UInt8) × Int) => L65_2 F x.1 x.2.1 x.2.2.1 s.1 s.2.1 s.2.2) (fun x y => (x.2.2.2.1, x.2.2.2.2.1, x.2.2.2.2.2.1)) (fun x y (z : (List UInt8)) => ((x.2.2.1, z, ()), ()))
theorem le65_2 (F : Nat) (x : dens sA65_2) (y : tdens sT65_2) (s : (List UInt8) × (List UInt8) × Int) : sev (E65 F) 0 [] (cAt (bodyOf Tryd.f65) (0 :: 0 :: [1, 0, 1, 1])) (0 :: 0 :: [1, 0, 1, 1]) (mkSt [0, 1, 2, 7, 8, 9] sA65_2 sT65_2 (x.1, x.2.1, x.2.2.1, s.1, s.2.1, s.2.2, ()) ()) (kLoop 0 [0, 1, 2, 7, 8, 9] sA65_2 sT65_2 [2, 7] sAp165_2 sTp165_2 [] [] [] 0 (fun x y => some (.inl (x, y))) (fun x y => some (.inr (.inl (x, y)))) (fun x y => some (.inr (.inr (x, y))))) =
    L65_2c (β := Full sA65_2 sT65_2 sAp165_2 sTp165_2 [] []) F x.1 x.2.1 x.2.2.1 s.1 s.2.1 s.2.2 (fun s => some (.inl ((x.1, x.2.1, x.2.2.1, s.1, s.2.1, s.2.2, ()), ()))) (fun z => some (.inr (.inl ((x.2.2.1, z, ()), ())))) := by kernel_rfl
theorem lo65_2 (F : Nat) : LcOk Tryd.prog (E65 F) 0 (lc65_2 F) (cAt (bodyOf Tryd.f65) [1, 0, 1, 1]) :=
  mkL_ok (lp := []) (id := 0) (b := cAt (bodyOf Tryd.f65) (0 :: 0 :: [1, 0, 1, 1])) cok (cts65 F) mixed trivial (by kernel_rfl) (by kernel_rfl) (fun x y s => (x.1, x.2.1, x.2.2.1, s.1, s.2.1, s.2.2, ())) (fun x y s => ()) (fun x y => rfl) (fun x y => rfl) (fun x y s kA kO => L65_2c F x.1 x.2.1 x.2.2.1 s.1 s.2.1 s.2.2 kA kO) (fun x y s kA kO => L65_2n F x.1 x.2.1 x.2.2.1 s.1 s.2.1 s.2.2 kA kO) (le65_2 F)
def T65c (F : Nat) (p0 : List UInt8) (p1 : List UInt8) (p2 : Int) {β : Type} (k : ((List UInt8)) → Option β) : Option β :=
  (Option.bind (iter (fun s => L65_2 F p0 p1 p2 s.1 s.2.1 s.2.2) F (([] : List UInt8), ([] : List UInt8), (1 : Int))) fun z35 => (Option.bind (gsl z35 (0 : Int) p2) fun x36 => (k x36)))
def T65 (F : Nat) (p0 : List UInt8) (p1 : List UInt8) (p2 : Int) : Option ((List UInt8)) := T65c F p0 p1 p2 some
theorem T65n (F : Nat) (p0 : List UInt8) (p1 : List UInt8) (p2 : Int) {β : Type} (k : ((List UInt8)) → Option β) : T65c F p0 p1 p2 k = (T65 F p0 p1 p2).bind k := by
  simp only [T65, T65c, Option.bind_assoc, cond_bind, Option.bind_some, Option.bind_none, elimS_bind]
@[reducible] def cA65 : List Sh := [.str, .str, .i]
@[reducible] def cB65 : List Sh := [.str]
@[reducible] def cT65 : List TSh := []
@[reducible] def cU65 : List TSh := []
def ct65 (F : Nat) : Ct := mkC 0 cA65 cT65 cB65 cU65 (fun x y => T65 F x.1 x.2.1 x.2.2.1) (fun x y (z : (List UInt8)) => ((z, ()), ()))
theorem eq65 (F : Nat) (x : dens cA65) (y : tdens cT65) : sev (E65 F) 0 [([1, 0, 1, 1], lc65_2 F)] (bodyOf Tryd.f65) [] (mkSt (rng 3) cA65 cT65 x y) (kFn (E65 F) 0 Tryd.f65.results.toList cB65 cU65 fun p q => some (p, q)) =
    T65c F x.1 x.2.1 x.2.2.1 (fun z => some ((z, ()), ())) := by kernel_rfl
theorem ok65 (F : Nat) : Sound Tryd.prog cfg 65 (ct65 F) :=
  mkC_ok (E := E65 F) (lp := [([1, 0, 1, 1], lc65_2 F)]) (code := bodyOf Tryd.f65) Tryd.func65 rfl Tryd.ntmps65 rfl rfl cok (cts65 F) mixed ⟨lo65_2 F, trivial⟩ (by kernel_rfl) (fun x y k => T65c F x.1 x.2.1 x.2.2.1 k) (fun x y k => T65n F x.1 x.2.1 x.2.2.1 k) (eq65 F)
end Go.Proofs.YthikoaamigiceaaDoor
/- kinkeep/kinkeepref05.Derive: its twin, and that the call does what the twin says. Printed by a program. -/
namespace Go.Proofs.YthikoaamigiceaaDoor
open Go.Tw
set_option linter.unusedSimpArgs false
set_option linter.unusedVariables false
def ord32 : Nat → List (Tag × Nat)
  | _ => []
def al32 : Nat → Option Nat
  | _ => none
def ms32 : Nat → Option (List (Option Tag × Nat × List Nat))
  | _ => none
def E32 (F : Nat) : Ev := ⟨cfg, 10, ctOf [(66, ct66 F), (65, ct65 F)], ord32, ctOf [], al32, ms32⟩
theorem cts32 (F : Nat) : CtsOk Tryd.prog (E32 F) := cts_of (l := [(66, ct66 F), (65, ct65 F)]) (l' := []) rfl rfl ⟨⟨ok66 F, _, Tryd.func66, rfl, rfl⟩, ⟨⟨ok65 F, _, Tryd.func65, rfl, rfl⟩, trivial⟩⟩ trivial
def T32c (F : Nat) (p0 : List UInt8) (p1 : List UInt8) {β : Type} (k : ((List UInt8)) → Option β) : Option β :=
  (Option.bind (gstr p0) fun x4 => (Option.bind (T66 F ([] : List UInt8) x4) fun z5 => (Option.bind (T65 F z5 p1 (32 : Int)) fun z6 => (k z6))))
def T32 (F : Nat) (p0 : List UInt8) (p1 : List UInt8) : Option ((List UInt8)) := T32c F p0 p1 some
theorem T32n (F : Nat) (p0 : List UInt8) (p1 : List UInt8) {β : Type} (k : ((List UInt8)) → Option β) : T32c F p0 p1 k = (T32 F p0 p1).bind k := by
  simp only [T32, T32c, Option.bind_assoc, cond_bind, Option.bind_some, Option.bind_none, elimS_bind]
@[reducible] def cA32 : List Sh := [.str, .str]
@[reducible] def cB32 : List Sh := [.str]
@[reducible] def cT32 : List TSh := []
@[reducible] def cU32 : List TSh := []
def ct32 (F : Nat) : Ct := mkC 0 cA32 cT32 cB32 cU32 (fun x y => T32 F x.1 x.2.1) (fun x y (z : (List UInt8)) => ((z, ()), ()))
theorem eq32 (F : Nat) (x : dens cA32) (y : tdens cT32) : sev (E32 F) 0 [] (bodyOf Tryd.f32) [] (mkSt (rng 2) cA32 cT32 x y) (kFn (E32 F) 0 Tryd.f32.results.toList cB32 cU32 fun p q => some (p, q)) =
    T32c F x.1 x.2.1 (fun z => some ((z, ()), ())) := by kernel_rfl
theorem ok32 (F : Nat) : Sound Tryd.prog cfg 32 (ct32 F) :=
  mkC_ok (E := E32 F) (lp := []) (code := bodyOf Tryd.f32) Tryd.func32 rfl Tryd.ntmps32 rfl rfl cok (cts32 F) mixed trivial (by kernel_rfl) (fun x y k => T32c F x.1 x.2.1 k) (fun x y k => T32n F x.1 x.2.1 k) (eq32 F)
end Go.Proofs.YthikoaamigiceaaDoor
/- kinkeep/kinkeepref31.Keys: its twin, and that the call does what the twin says. Printed by a program. -/
namespace Go.Proofs.YthikoaamigiceaaDoor
open Go.Tw
set_option linter.unusedSimpArgs false
set_option linter.unusedVariables false
def ord15 : Nat → List (Tag × Nat)
  | _ => []
def al15 : Nat → Option Nat
  | _ => none
def ms15 : Nat → Option (List (Option Tag × Nat × List Nat))
  | _ => none
def E15 (F : Nat) : Ev := ⟨cfg, 19, ctOf [(32, ct32 F)], ord15, ctOf [], al15, ms15⟩
theorem cts15 (F : Nat) : CtsOk Tryd.prog (E15 F) := cts_of (l := [(32, ct32 F)]) (l' := []) rfl rfl ⟨⟨ok32 F, _, Tryd.func32, rfl, rfl⟩, trivial⟩ trivial
def T15c (F : Nat) (p0 : List UInt8) {β : Type} (k : ((List UInt8) × (List UInt8) × (List UInt8) × (List UInt8) × (List UInt8) × Int) → Option β) : Option β :=
  (bif ((p0.length : Int) != (32 : Int)) then (k (([] : List UInt8), ([] : List UInt8), ([] : List UInt8), ([] : List UInt8), ([] : List UInt8), (1 : Int))) else (Option.bind (T32 F p0 ([110, 97, 109, 101] : List UInt8)) fun z6 => (Option.bind (T32 F p0 ([115, 116, 114, 101, 97, 109] : List UInt8)) fun z7 => (Option.bind (T32 F p0 ([99, 104, 101, 99, 107] : List UInt8)) fun z8 => (Option.bind (T32 F p0 ([105, 110, 100, 101, 120] : List UInt8)) fun z9 => (Option.bind (T32 F p0 ([116, 111, 107, 101, 110] : List UInt8)) fun z10 => (k (z6, z7, z8, z9, z10, (0 : Int)))))))))
def T15 (F : Nat) (p0 : List UInt8) : Option ((List UInt8) × (List UInt8) × (List UInt8) × (List UInt8) × (List UInt8) × Int) := T15c F p0 some
theorem T15n (F : Nat) (p0 : List UInt8) {β : Type} (k : ((List UInt8) × (List UInt8) × (List UInt8) × (List UInt8) × (List UInt8) × Int) → Option β) : T15c F p0 k = (T15 F p0).bind k := by
  simp only [T15, T15c, Option.bind_assoc, cond_bind, Option.bind_some, Option.bind_none, elimS_bind]
@[reducible] def cA15 : List Sh := [.str]
@[reducible] def cB15 : List Sh := [(.pr .str (.pr .str (.pr .str (.pr .str (.pr .str .un))))), .i]
@[reducible] def cT15 : List TSh := []
@[reducible] def cU15 : List TSh := []
def ct15 (F : Nat) : Ct := mkC 0 cA15 cT15 cB15 cU15 (fun x y => T15 F x.1) (fun x y (z : (List UInt8) × (List UInt8) × (List UInt8) × (List UInt8) × (List UInt8) × Int) => (((z.1, z.2.1, z.2.2.1, z.2.2.2.1, z.2.2.2.2.1, ()), z.2.2.2.2.2, ()), ()))
theorem eq15 (F : Nat) (x : dens cA15) (y : tdens cT15) : sev (E15 F) 0 [] (bodyOf Tryd.f15) [] (mkSt (rng 1) cA15 cT15 x y) (kFn (E15 F) 0 Tryd.f15.results.toList cB15 cU15 fun p q => some (p, q)) =
    T15c F x.1 (fun z => some (((z.1, z.2.1, z.2.2.1, z.2.2.2.1, z.2.2.2.2.1, ()), z.2.2.2.2.2, ()), ())) := by kernel_rfl
theorem ok15 (F : Nat) : Sound Tryd.prog cfg 15 (ct15 F) :=
  mkC_ok (E := E15 F) (lp := []) (code := bodyOf Tryd.f15) Tryd.func15 rfl Tryd.ntmps15 rfl rfl cok (cts15 F) mixed trivial (by kernel_rfl) (fun x y k => T15c F x.1 k) (fun x y k => T15n F x.1 k) (eq15 F)
end Go.Proofs.YthikoaamigiceaaDoor
/- kinkeep/keyring.derive: its twin, and that the call does what the twin says. Printed by a program. -/
namespace Go.Proofs.YthikoaamigiceaaDoor
open Go.Tw
set_option linter.unusedSimpArgs false
set_option linter.unusedVariables false
def ord33 : Nat → List (Tag × Nat)
  | _ => []
def al33 : Nat → Option Nat
  | _ => none
def ms33 : Nat → Option (List (Option Tag × Nat × List Nat))
  | _ => none
def E33 (F : Nat) : Ev := ⟨cfg, 17, ctOf [(31, ct31 F)], ord33, ctOf [], al33, ms33⟩
theorem cts33 (F : Nat) : CtsOk Tryd.prog (E33 F) := cts_of (l := [(31, ct31 F)]) (l' := []) rfl rfl ⟨⟨ok31 F, _, Tryd.func31, rfl, rfl⟩, trivial⟩ trivial
def T33c (F : Nat) (p0 : List UInt8) (p1 : List UInt8) {β : Type} (k : ((List UInt8) × Int) → Option β) : Option β :=
  (Option.bind (T31 F p0 p1) fun z2 => (bif (z2.2 != (0 : Int)) then (k (([] : List UInt8), (1 : Int))) else (k (z2.1, (0 : Int)))))
def T33 (F : Nat) (p0 : List UInt8) (p1 : List UInt8) : Option ((List UInt8) × Int) := T33c F p0 p1 some
theorem T33n (F : Nat) (p0 : List UInt8) (p1 : List UInt8) {β : Type} (k : ((List UInt8) × Int) → Option β) : T33c F p0 p1 k = (T33 F p0 p1).bind k := by
  simp only [T33, T33c, Option.bind_assoc, cond_bind, Option.bind_some, Option.bind_none, elimS_bind]
@[reducible] def cA33 : List Sh := [.str, .str]
@[reducible] def cB33 : List Sh := [.str, .i]
@[reducible] def cT33 : List TSh := []
@[reducible] def cU33 : List TSh := []
def ct33 (F : Nat) : Ct := mkC 0 cA33 cT33 cB33 cU33 (fun x y => T33 F x.1 x.2.1) (fun x y (z : (List UInt8) × Int) => ((z.1, z.2, ()), ()))
theorem eq33 (F : Nat) (x : dens cA33) (y : tdens cT33) : sev (E33 F) 0 [] (bodyOf Tryd.f33) [] (mkSt (rng 2) cA33 cT33 x y) (kFn (E33 F) 0 Tryd.f33.results.toList cB33 cU33 fun p q => some (p, q)) =
    T33c F x.1 x.2.1 (fun z => some ((z.1, z.2, ()), ())) := by kernel_rfl
theorem ok33 (F : Nat) : Sound Tryd.prog cfg 33 (ct33 F) :=
  mkC_ok (E := E33 F) (lp := []) (code := bodyOf Tryd.f33) Tryd.func33 rfl Tryd.ntmps33 rfl rfl cok (cts33 F) mixed trivial (by kernel_rfl) (fun x y k => T33c F x.1 x.2.1 k) (fun x y k => T33n F x.1 x.2.1 k) (eq33 F)
end Go.Proofs.YthikoaamigiceaaDoor
/- kinkeep/keyring.Print: its twin, and that the call does what the twin says. Printed by a program. -/
namespace Go.Proofs.YthikoaamigiceaaDoor
open Go.Tw
set_option linter.unusedSimpArgs false
set_option linter.unusedVariables false
def ord16 : Nat → List (Tag × Nat)
  | _ => []
def al16 : Nat → Option Nat
  | _ => none
def ms16 : Nat → Option (List (Option Tag × Nat × List Nat))
  | _ => none
def E16 (F : Nat) : Ev := ⟨cfg, 8, ctOf [(33, ct33 F)], ord16, ctOf [], al16, ms16⟩
theorem cts16 (F : Nat) : CtsOk Tryd.prog (E16 F) := cts_of (l := [(33, ct33 F)]) (l' := []) rfl rfl ⟨⟨ok33 F, _, Tryd.func33, rfl, rfl⟩, trivial⟩ trivial
def T16c (F : Nat) (p0 : List UInt8) {β : Type} (k : ((List UInt8) × Int) → Option β) : Option β :=
  (Option.bind (T33 F p0 ([112, 114, 105, 110, 116] : List UInt8)) fun z2 => (k (z2.1, z2.2)))
def T16 (F : Nat) (p0 : List UInt8) : Option ((List UInt8) × Int) := T16c F p0 some
theorem T16n (F : Nat) (p0 : List UInt8) {β : Type} (k : ((List UInt8) × Int) → Option β) : T16c F p0 k = (T16 F p0).bind k := by
  simp only [T16, T16c, Option.bind_assoc, cond_bind, Option.bind_some, Option.bind_none, elimS_bind]
@[reducible] def cA16 : List Sh := [.str]
@[reducible] def cB16 : List Sh := [.str, .i]
@[reducible] def cT16 : List TSh := []
@[reducible] def cU16 : List TSh := []
def ct16 (F : Nat) : Ct := mkC 0 cA16 cT16 cB16 cU16 (fun x y => T16 F x.1) (fun x y (z : (List UInt8) × Int) => ((z.1, z.2, ()), ()))
theorem eq16 (F : Nat) (x : dens cA16) (y : tdens cT16) : sev (E16 F) 0 [] (bodyOf Tryd.f16) [] (mkSt (rng 1) cA16 cT16 x y) (kFn (E16 F) 0 Tryd.f16.results.toList cB16 cU16 fun p q => some (p, q)) =
    T16c F x.1 (fun z => some ((z.1, z.2, ()), ())) := by kernel_rfl
theorem ok16 (F : Nat) : Sound Tryd.prog cfg 16 (ct16 F) :=
  mkC_ok (E := E16 F) (lp := []) (code := bodyOf Tryd.f16) Tryd.func16 rfl Tryd.ntmps16 rfl rfl cok (cts16 F) mixed trivial (by kernel_rfl) (fun x y k => T16c F x.1 k) (fun x y k => T16n F x.1 k) (eq16 F)
end Go.Proofs.YthikoaamigiceaaDoor
/- kinkeep/kinkeepref31.Print: its twin, and that the call does what the twin says. Printed by a program. -/
namespace Go.Proofs.YthikoaamigiceaaDoor
open Go.Tw
set_option linter.unusedSimpArgs false
set_option linter.unusedVariables false
def ord17 : Nat → List (Tag × Nat)
  | _ => []
def al17 : Nat → Option Nat
  | _ => none
def ms17 : Nat → Option (List (Option Tag × Nat × List Nat))
  | _ => none
def E17 (F : Nat) : Ev := ⟨cfg, 9, ctOf [(32, ct32 F)], ord17, ctOf [], al17, ms17⟩
theorem cts17 (F : Nat) : CtsOk Tryd.prog (E17 F) := cts_of (l := [(32, ct32 F)]) (l' := []) rfl rfl ⟨⟨ok32 F, _, Tryd.func32, rfl, rfl⟩, trivial⟩ trivial
def T17c (F : Nat) (p0 : List UInt8) {β : Type} (k : ((List UInt8) × Int) → Option β) : Option β :=
  (bif ((p0.length : Int) != (32 : Int)) then (k (([] : List UInt8), (1 : Int))) else (Option.bind (T32 F p0 ([112, 114, 105, 110, 116] : List UInt8)) fun z2 => (k (z2, (0 : Int)))))
def T17 (F : Nat) (p0 : List UInt8) : Option ((List UInt8) × Int) := T17c F p0 some
theorem T17n (F : Nat) (p0 : List UInt8) {β : Type} (k : ((List UInt8) × Int) → Option β) : T17c F p0 k = (T17 F p0).bind k := by
  simp only [T17, T17c, Option.bind_assoc, cond_bind, Option.bind_some, Option.bind_none, elimS_bind]
@[reducible] def cA17 : List Sh := [.str]
@[reducible] def cB17 : List Sh := [.str, .i]
@[reducible] def cT17 : List TSh := []
@[reducible] def cU17 : List TSh := []
def ct17 (F : Nat) : Ct := mkC 0 cA17 cT17 cB17 cU17 (fun x y => T17 F x.1) (fun x y (z : (List UInt8) × Int) => ((z.1, z.2, ()), ()))
theorem eq17 (F : Nat) (x : dens cA17) (y : tdens cT17) : sev (E17 F) 0 [] (bodyOf Tryd.f17) [] (mkSt (rng 1) cA17 cT17 x y) (kFn (E17 F) 0 Tryd.f17.results.toList cB17 cU17 fun p q => some (p, q)) =
    T17c F x.1 (fun z => some ((z.1, z.2, ()), ())) := by kernel_rfl
theorem ok17 (F : Nat) : Sound Tryd.prog cfg 17 (ct17 F) :=
  mkC_ok (E := E17 F) (lp := []) (code := bodyOf Tryd.f17) Tryd.func17 rfl Tryd.ntmps17 rfl rfl cok (cts17 F) mixed trivial (by kernel_rfl) (fun x y k => T17c F x.1 k) (fun x y k => T17n F x.1 k) (eq17 F)
end Go.Proofs.YthikoaamigiceaaDoor
/- kinkeep/keyring.Rotate: its twin, and that the call does what the twin says. Printed by a program. -/
namespace Go.Proofs.YthikoaamigiceaaDoor
open Go.Tw
set_option linter.unusedSimpArgs false
set_option linter.unusedVariables false
def ord18 : Nat → List (Tag × Nat)
  | _ => []
def al18 : Nat → Option Nat
  | _ => none
def ms18 : Nat → Option (List (Option Tag × Nat × List Nat))
  | _ => none
def E18 (F : Nat) : Ev := ⟨cfg, 15, ctOf [(33, ct33 F)], ord18, ctOf [], al18, ms18⟩
theorem cts18 (F : Nat) : CtsOk Tryd.prog (E18 F) := cts_of (l := [(33, ct33 F)]) (l' := []) rfl rfl ⟨⟨ok33 F, _, Tryd.func33, rfl, rfl⟩, trivial⟩ trivial
def T18c (F : Nat) (p0 : List UInt8) (p1 : List UInt8) {β : Type} (k : ((List UInt8) × Int) → Option β) : Option β :=
  (bif (decide ((58 : Int) < (p1.length : Int))) then (k (([] : List UInt8), (1 : Int))) else (Option.bind (gcat ([114, 111, 116, 97, 116, 101] : List UInt8) p1) fun x3 => (Option.bind (T33 F p0 x3) fun z4 => (k (z4.1, z4.2)))))
def T18 (F : Nat) (p0 : List UInt8) (p1 : List UInt8) : Option ((List UInt8) × Int) := T18c F p0 p1 some
theorem T18n (F : Nat) (p0 : List UInt8) (p1 : List UInt8) {β : Type} (k : ((List UInt8) × Int) → Option β) : T18c F p0 p1 k = (T18 F p0 p1).bind k := by
  simp only [T18, T18c, Option.bind_assoc, cond_bind, Option.bind_some, Option.bind_none, elimS_bind]
@[reducible] def cA18 : List Sh := [.str, .str]
@[reducible] def cB18 : List Sh := [.str, .i]
@[reducible] def cT18 : List TSh := []
@[reducible] def cU18 : List TSh := []
def ct18 (F : Nat) : Ct := mkC 0 cA18 cT18 cB18 cU18 (fun x y => T18 F x.1 x.2.1) (fun x y (z : (List UInt8) × Int) => ((z.1, z.2, ()), ()))
theorem eq18 (F : Nat) (x : dens cA18) (y : tdens cT18) : sev (E18 F) 0 [] (bodyOf Tryd.f18) [] (mkSt (rng 2) cA18 cT18 x y) (kFn (E18 F) 0 Tryd.f18.results.toList cB18 cU18 fun p q => some (p, q)) =
    T18c F x.1 x.2.1 (fun z => some ((z.1, z.2, ()), ())) := by kernel_rfl
theorem ok18 (F : Nat) : Sound Tryd.prog cfg 18 (ct18 F) :=
  mkC_ok (E := E18 F) (lp := []) (code := bodyOf Tryd.f18) Tryd.func18 rfl Tryd.ntmps18 rfl rfl cok (cts18 F) mixed trivial (by kernel_rfl) (fun x y k => T18c F x.1 x.2.1 k) (fun x y k => T18n F x.1 x.2.1 k) (eq18 F)
end Go.Proofs.YthikoaamigiceaaDoor
/- kinkeep/kinkeepref31.Rotate: its twin, and that the call does what the twin says. Printed by a program. -/
namespace Go.Proofs.YthikoaamigiceaaDoor
open Go.Tw
set_option linter.unusedSimpArgs false
set_option linter.unusedVariables false
def ord19 : Nat → List (Tag × Nat)
  | _ => []
def al19 : Nat → Option Nat
  | _ => none
def ms19 : Nat → Option (List (Option Tag × Nat × List Nat))
  | _ => none
def E19 (F : Nat) : Ev := ⟨cfg, 18, ctOf [(32, ct32 F)], ord19, ctOf [], al19, ms19⟩
theorem cts19 (F : Nat) : CtsOk Tryd.prog (E19 F) := cts_of (l := [(32, ct32 F)]) (l' := []) rfl rfl ⟨⟨ok32 F, _, Tryd.func32, rfl, rfl⟩, trivial⟩ trivial
def T19c (F : Nat) (p0 : List UInt8) (p1 : List UInt8) {β : Type} (k : ((List UInt8) × Int) → Option β) : Option β :=
  (bif ((p0.length : Int) != (32 : Int)) then (k (([] : List UInt8), (1 : Int))) else (bif (decide ((58 : Int) < (p1.length : Int))) then (k (([] : List UInt8), (1 : Int))) else (Option.bind (gcat ([114, 111, 116, 97, 116, 101] : List UInt8) p1) fun x3 => (Option.bind (T32 F p0 x3) fun z4 => (k (z4, (0 : Int)))))))
def T19 (F : Nat) (p0 : List UInt8) (p1 : List UInt8) : Option ((List UInt8) × Int) := T19c F p0 p1 some
theorem T19n (F : Nat) (p0 : List UInt8) (p1 : List UInt8) {β : Type} (k : ((List UInt8) × Int) → Option β) : T19c F p0 p1 k = (T19 F p0 p1).bind k := by
  simp only [T19, T19c, Option.bind_assoc, cond_bind, Option.bind_some, Option.bind_none, elimS_bind]
@[reducible] def cA19 : List Sh := [.str, .str]
@[reducible] def cB19 : List Sh := [.str, .i]
@[reducible] def cT19 : List TSh := []
@[reducible] def cU19 : List TSh := []
def ct19 (F : Nat) : Ct := mkC 0 cA19 cT19 cB19 cU19 (fun x y => T19 F x.1 x.2.1) (fun x y (z : (List UInt8) × Int) => ((z.1, z.2, ()), ()))
theorem eq19 (F : Nat) (x : dens cA19) (y : tdens cT19) : sev (E19 F) 0 [] (bodyOf Tryd.f19) [] (mkSt (rng 2) cA19 cT19 x y) (kFn (E19 F) 0 Tryd.f19.results.toList cB19 cU19 fun p q => some (p, q)) =
    T19c F x.1 x.2.1 (fun z => some ((z.1, z.2, ()), ())) := by kernel_rfl
theorem ok19 (F : Nat) : Sound Tryd.prog cfg 19 (ct19 F) :=
  mkC_ok (E := E19 F) (lp := []) (code := bodyOf Tryd.f19) Tryd.func19 rfl Tryd.ntmps19 rfl rfl cok (cts19 F) mixed trivial (by kernel_rfl) (fun x y k => T19c F x.1 x.2.1 k) (fun x y k => T19n F x.1 x.2.1 k) (eq19 F)
end Go.Proofs.YthikoaamigiceaaDoor
/- kinkeep/kinkeeplaw31.KeyringKeys: its twin, and that the call does what the twin says. Printed by a program. -/
namespace Go.Proofs.YthikoaamigiceaaDoor
open Go.Tw
set_option linter.unusedSimpArgs false
set_option linter.unusedVariables false
def ord5 : Nat → List (Tag × Nat)
  | _ => []
def al5 : Nat → Option Nat
  | _ => none
def ms5 : Nat → Option (List (Option Tag × Nat × List Nat))
  | _ => none
def E5 (F : Nat) : Ev := ⟨cfg, 90, ctOf [(9, ct9 F), (14, ct14 F), (15, ct15 F), (16, ct16 F), (17, ct17 F), (18, ct18 F), (19, ct19 F)], ord5, ctOf [], al5, ms5⟩
theorem cts5 (F : Nat) : CtsOk Tryd.prog (E5 F) := cts_of (l := [(9, ct9 F), (14, ct14 F), (15, ct15 F), (16, ct16 F), (17, ct17 F), (18, ct18 F), (19, ct19 F)]) (l' := []) rfl rfl ⟨⟨ok9 F, _, Tryd.func9, rfl, rfl⟩, ⟨⟨ok14 F, _, Tryd.func14, rfl, rfl⟩, ⟨⟨ok15 F, _, Tryd.func15, rfl, rfl⟩, ⟨⟨ok16 F, _, Tryd.func16, rfl, rfl⟩, ⟨⟨ok17 F, _, Tryd.func17, rfl, rfl⟩, ⟨⟨ok18 F, _, Tryd.func18, rfl, rfl⟩, ⟨⟨ok19 F, _, Tryd.func19, rfl, rfl⟩, trivial⟩⟩⟩⟩⟩⟩⟩ trivial
def T5c (F : Nat) (p0 : List UInt8) (p1 : List UInt8) {β : Type} (k : Bool → Option β) : Option β :=
  (Option.bind (T9 F) fun z11 => (bif (!z11) then (Option.bind (T9 F) fun z12 => (k z12)) else (bif (decide ((100 : Int) < (p0.length : Int))) then (Option.bind (T9 F) fun z13 => (k z13)) else (bif (decide ((100 : Int) < (p1.length : Int))) then (Option.bind (T9 F) fun z14 => (k z14)) else (Option.bind (T14 F p0) fun z15 => (Option.bind (T15 F p0) fun z16 => (Option.bind (T16 F p0) fun z17 => (Option.bind (T17 F p0) fun z18 => (Option.bind (T18 F p0 p1) fun z19 => (Option.bind (T19 F p0 p1) fun z20 => (bif (z15.1 == z16.1 && (z15.2.1 == z16.2.1 && (z15.2.2.1 == z16.2.2.1 && (z15.2.2.2.1 == z16.2.2.2.1 && (z15.2.2.2.2.1 == z16.2.2.2.2.1 && true))))) then (bif (z15.2.2.2.2.2 == z16.2.2.2.2.2) then (bif (z17.1 == z18.1) then (bif (z17.2 == z18.2) then (bif (z19.1 == z20.1) then (k (z19.2 == z20.2)) else (k false)) else (k false)) else (k false)) else (k false)) else (k false))))))))))))
def T5 (F : Nat) (p0 : List UInt8) (p1 : List UInt8) : Option (Bool) := T5c F p0 p1 some
theorem T5n (F : Nat) (p0 : List UInt8) (p1 : List UInt8) {β : Type} (k : Bool → Option β) : T5c F p0 p1 k = (T5 F p0 p1).bind k := by
  simp only [T5, T5c, Option.bind_assoc, cond_bind, Option.bind_some, Option.bind_none, elimS_bind]
@[reducible] def cA5 : List Sh := [.str, .str]
@[reducible] def cB5 : List Sh := [.bo]
@[reducible] def cT5 : List TSh := []
@[reducible] def cU5 : List TSh := []
def ct5 (F : Nat) : Ct := mkC 0 cA5 cT5 cB5 cU5 (fun x y => T5 F x.1 x.2.1) (fun x y (z : Bool) => ((z, ()), ()))
theorem eq5 (F : Nat) (x : dens cA5) (y : tdens cT5) : sev (E5 F) 0 [] (bodyOf Tryd.f5) [] (mkSt (rng 2) cA5 cT5 x y) (kFn (E5 F) 0 Tryd.f5.results.toList cB5 cU5 fun p q => some (p, q)) =
    T5c F x.1 x.2.1 (fun z => some ((z, ()), ())) := by kernel_rfl
theorem ok5 (F : Nat) : Sound Tryd.prog cfg 5 (ct5 F) :=
  mkC_ok (E := E5 F) (lp := []) (code := bodyOf Tryd.f5) Tryd.func5 rfl Tryd.ntmps5 rfl rfl cok (cts5 F) mixed trivial (by kernel_rfl) (fun x y k => T5c F x.1 x.2.1 k) (fun x y k => T5n F x.1 x.2.1 k) (eq5 F)
end Go.Proofs.YthikoaamigiceaaDoor
/- Loops side by side; the block of sha256 is that of the reference. -/
namespace Go.Proofs.YthikoaamigiceaaDoor
open Go.Tw
set_option linter.unusedVariables false
set_option linter.unusedSimpArgs false

theorem it_again {σ ρ : Type} {f : σ → Option (σ ⊕ ρ)} {n : Nat} {s s' : σ} (h : f s = some (.inl s')) : iter f (n + 1) s = iter f n s' := by simp [iter, h]
theorem it_out {σ ρ : Type} {f : σ → Option (σ ⊕ ρ)} {n : Nat} {s : σ} {r : ρ} (h : f s = some (.inr r)) : iter f (n + 1) s = some r := by simp [iter, h]
theorem ix_nat {α : Type} {l : List α} {i : Nat} (h : i < l.length) : ix l ((i : Nat) : Int) = some l[i] := by
  unfold ix; rw [if_pos (by omega)]; simp only [Int.toNat_natCast]; exact List.getElem?_eq_getElem h

theorem iter2 {σ τ ρ ρ' : Type} {f : σ → Option (σ ⊕ ρ)} {g : τ → Option (τ ⊕ ρ')} (R : σ → τ → Prop) (Q : ρ → ρ' → Prop) (μ : σ → Nat)
    (h : ∀ s t, R s t → (∃ s' t', f s = some (.inl s') ∧ g t = some (.inl t') ∧ R s' t' ∧ μ s' < μ s) ∨ (∃ r r', f s = some (.inr r) ∧ g t = some (.inr r') ∧ Q r r')) :
    ∀ (n m : Nat) (s : σ) (t : τ), R s t → μ s < n → μ s < m → ∃ r r', iter f n s = some r ∧ iter g m t = some r' ∧ Q r r'
  | 0, m, s, t, hR, hn, hm => absurd hn (by omega)
  | n + 1, 0, s, t, hR, hn, hm => absurd hm (by omega)
  | n + 1, m + 1, s, t, hR, hn, hm => by
    rcases h s t hR with ⟨s', t', h1, h2, h3, h4⟩ | ⟨r, r', h1, h2, h3⟩
    · rw [it_again h1, it_again h2]
      exact iter2 R Q μ h n m s' t' h3 (by omega) (by omega)
    · exact ⟨r, r', it_out h1, it_out h2, h3⟩

theorem iter1 {σ ρ : Type} {f : σ → Option (σ ⊕ ρ)} (R : σ → Prop) (Q : ρ → Prop) (μ : σ → Nat)
    (h : ∀ s, R s → (∃ s', f s = some (.inl s') ∧ R s' ∧ μ s' < μ s) ∨ (∃ r, f s = some (.inr r) ∧ Q r)) :
    ∀ (n : Nat) (s : σ), R s → μ s < n → ∃ r, iter f n s = some r ∧ Q r
  | 0, s, hR, hn => absurd hn (by omega)
  | n + 1, s, hR, hn => by
    rcases h s hR with ⟨s', h1, h3, h4⟩ | ⟨r, h1, h3⟩
    · rw [it_again h1]
      exact iter1 R Q μ h n s' h3 (by omega)
    · exact ⟨r, it_out h1, h3⟩

theorem iterP {σ τ ρ ρ' : Type} {f : σ → Option (σ ⊕ ρ)} {g : τ → Option (τ ⊕ ρ')} (R : σ → τ → Prop) (Q : σ → ρ' → Prop) (μ : σ → Nat)
    (h : ∀ s t, R s t → (∃ s' t', f s = some (.inl s') ∧ g t = some (.inl t') ∧ R s' t' ∧ μ s' < μ s) ∨ (∃ r', g t = some (.inr r') ∧ Q s r')) :
    ∀ (m : Nat) (s : σ) (t : τ), R s t → μ s < m → ∃ k s' r', k ≤ μ s ∧ iter g m t = some r' ∧ Q s' r' ∧ ∀ n, iter f (n + k) s = iter f n s'
  | 0, s, t, hR, hm => absurd hm (by omega)
  | m + 1, s, t, hR, hm => by
    rcases h s t hR with ⟨s', t', h1, h2, h3, h4⟩ | ⟨r', h1, h2⟩
    · obtain ⟨k, s'', r', a1, a2, a3, a4⟩ := iterP R Q μ h m s' t' h3 (by omega)
      exact ⟨k + 1, s'', r', by omega, (it_again h2).trans a2, a3, fun n => (it_again (n := n + k) h1).trans (a4 n)⟩
    · exact ⟨0, s, r', by omega, it_out h1, h2, fun n => rfl⟩

theorem inb_nat {n i : Nat} (h : i < n) : inb n ((i : Nat) : Int) = some i := by
  unfold inb; rw [if_pos (by omega)]; simp only [Int.toNat_natCast]
theorem vat_nat {α : Type} {n i : Nat} {v : Vector α n} (h : i < n) : vat v i = some v[i] := by
  rw [vat_eq]; exact getElem?_pos v i h
theorem vix_nat {α : Type} {n i : Nat} {v : Vector α n} (h : i < n) : vix v ((i : Nat) : Int) = some v[i] := by
  unfold vix; rw [if_pos (by omega)]; simp only [Int.toNat_natCast]; exact getElem?_pos v i h
theorem gsl_nat {α : Type} {l : List α} {a b : Nat} (h : a ≤ b) (hb : b ≤ l.length) : gsl l ((a : Nat) : Int) ((b : Nat) : Int) = some ((l.drop a).take (b - a)) := by
  unfold gsl; rw [if_pos (by omega)]; simp only [Int.toNat_natCast]
theorem gslb_nat {n a b : Nat} (h : a ≤ b) (hb : b ≤ n) : gslb n ((a : Nat) : Int) ((b : Nat) : Int) = some (a, b) := by
  unfold gslb; rw [if_pos (by omega)]; simp only [Int.toNat_natCast]
theorem ix_dt {p : List UInt8} {a k : Nat} (h : a + k < p.length) (hk : k < 4) : ix ((p.drop a).take 4) ((k : Nat) : Int) = some p[a + k] := by
  rw [ix_nat (by simp; omega)]; simp

def rr (x : UInt32) (k : Nat) : UInt32 := shr32 x k ||| shl32 x (32 - k)
theorem a94_17 (F : Nat) (x : UInt32) : T117 F x (-17) = some (rr x 17) := by
  have e1 : ((UInt64.ofInt (-17)) &&& (UInt64.ofNat 31)).toNat = 15 := by decide +kernel
  have e2 : ((UInt64.ofNat 32) - ((UInt64.ofInt (-17)) &&& (UInt64.ofNat 31))).toNat = 17 := by decide +kernel
  simp only [T117, T117c, e1, e2, rr]
  rw [UInt32.or_comm]
theorem a93_17 (F : Nat) (x : UInt32) : T112 F x 17 = some (rr x 17) := by
  have e1 : gnn (17 : Int) = some 17 := by decide +kernel
  have e2 : gnn (w64 ((32 : Int) - 17)) = some 15 := by decide +kernel
  simp only [T112, T112c, e1, e2, rr, Option.bind_some]
theorem a94_19 (F : Nat) (x : UInt32) : T117 F x (-19) = some (rr x 19) := by
  have e1 : ((UInt64.ofInt (-19)) &&& (UInt64.ofNat 31)).toNat = 13 := by decide +kernel
  have e2 : ((UInt64.ofNat 32) - ((UInt64.ofInt (-19)) &&& (UInt64.ofNat 31))).toNat = 19 := by decide +kernel
  simp only [T117, T117c, e1, e2, rr]
  rw [UInt32.or_comm]
theorem a93_19 (F : Nat) (x : UInt32) : T112 F x 19 = some (rr x 19) := by
  have e1 : gnn (19 : Int) = some 19 := by decide +kernel
  have e2 : gnn (w64 ((32 : Int) - 19)) = some 13 := by decide +kernel
  simp only [T112, T112c, e1, e2, rr, Option.bind_some]
theorem a94_7 (F : Nat) (x : UInt32) : T117 F x (-7) = some (rr x 7) := by
  have e1 : ((UInt64.ofInt (-7)) &&& (UInt64.ofNat 31)).toNat = 25 := by decide +kernel
  have e2 : ((UInt64.ofNat 32) - ((UInt64.ofInt (-7)) &&& (UInt64.ofNat 31))).toNat = 7 := by decide +kernel
  simp only [T117, T117c, e1, e2, rr]
  rw [UInt32.or_comm]
theorem a93_7 (F : Nat) (x : UInt32) : T112 F x 7 = some (rr x 7) := by
  have e1 : gnn (7 : Int) = some 7 := by decide +kernel
  have e2 : gnn (w64 ((32 : Int) - 7)) = some 25 := by decide +kernel
  simp only [T112, T112c, e1, e2, rr, Option.bind_some]
theorem a94_18 (F : Nat) (x : UInt32) : T117 F x (-18) = some (rr x 18) := by
  have e1 : ((UInt64.ofInt (-18)) &&& (UInt64.ofNat 31)).toNat = 14 := by decide +kernel
  have e2 : ((UInt64.ofNat 32) - ((UInt64.ofInt (-18)) &&& (UInt64.ofNat 31))).toNat = 18 := by decide +kernel
  simp only [T117, T117c, e1, e2, rr]
  rw [UInt32.or_comm]
theorem a93_18 (F : Nat) (x : UInt32) : T112 F x 18 = some (rr x 18) := by
  have e1 : gnn (18 : Int) = some 18 := by decide +kernel
  have e2 : gnn (w64 ((32 : Int) - 18)) = some 14 := by decide +kernel
  simp only [T112, T112c, e1, e2, rr, Option.bind_some]
theorem a94_6 (F : Nat) (x : UInt32) : T117 F x (-6) = some (rr x 6) := by
  have e1 : ((UInt64.ofInt (-6)) &&& (UInt64.ofNat 31)).toNat = 26 := by decide +kernel
  have e2 : ((UInt64.ofNat 32) - ((UInt64.ofInt (-6)) &&& (UInt64.ofNat 31))).toNat = 6 := by decide +kernel
  simp only [T117, T117c, e1, e2, rr]
  rw [UInt32.or_comm]
theorem a93_6 (F : Nat) (x : UInt32) : T112 F x 6 = some (rr x 6) := by
  have e1 : gnn (6 : Int) = some 6 := by decide +kernel
  have e2 : gnn (w64 ((32 : Int) - 6)) = some 26 := by decide +kernel
  simp only [T112, T112c, e1, e2, rr, Option.bind_some]
theorem a94_11 (F : Nat) (x : UInt32) : T117 F x (-11) = some (rr x 11) := by
  have e1 : ((UInt64.ofInt (-11)) &&& (UInt64.ofNat 31)).toNat = 21 := by decide +kernel
  have e2 : ((UInt64.ofNat 32) - ((UInt64.ofInt (-11)) &&& (UInt64.ofNat 31))).toNat = 11 := by decide +kernel
  simp only [T117, T117c, e1, e2, rr]
  rw [UInt32.or_comm]
theorem a93_11 (F : Nat) (x : UInt32) : T112 F x 11 = some (rr x 11) := by
  have e1 : gnn (11 : Int) = some 11 := by decide +kernel
  have e2 : gnn (w64 ((32 : Int) - 11)) = some 21 := by decide +kernel
  simp only [T112, T112c, e1, e2, rr, Option.bind_some]
theorem a94_25 (F : Nat) (x : UInt32) : T117 F x (-25) = some (rr x 25) := by
  have e1 : ((UInt64.ofInt (-25)) &&& (UInt64.ofNat 31)).toNat = 7 := by decide +kernel
  have e2 : ((UInt64.ofNat 32) - ((UInt64.ofInt (-25)) &&& (UInt64.ofNat 31))).toNat = 25 := by decide +kernel
  simp only [T117, T117c, e1, e2, rr]
  rw [UInt32.or_comm]
theorem a93_25 (F : Nat) (x : UInt32) : T112 F x 25 = some (rr x 25) := by
  have e1 : gnn (25 : Int) = some 25 := by decide +kernel
  have e2 : gnn (w64 ((32 : Int) - 25)) = some 7 := by decide +kernel
  simp only [T112, T112c, e1, e2, rr, Option.bind_some]
theorem a94_2 (F : Nat) (x : UInt32) : T117 F x (-2) = some (rr x 2) := by
  have e1 : ((UInt64.ofInt (-2)) &&& (UInt64.ofNat 31)).toNat = 30 := by decide +kernel
  have e2 : ((UInt64.ofNat 32) - ((UInt64.ofInt (-2)) &&& (UInt64.ofNat 31))).toNat = 2 := by decide +kernel
  simp only [T117, T117c, e1, e2, rr]
  rw [UInt32.or_comm]
theorem a93_2 (F : Nat) (x : UInt32) : T112 F x 2 = some (rr x 2) := by
  have e1 : gnn (2 : Int) = some 2 := by decide +kernel
  have e2 : gnn (w64 ((32 : Int) - 2)) = some 30 := by decide +kernel
  simp only [T112, T112c, e1, e2, rr, Option.bind_some]
theorem a94_13 (F : Nat) (x : UInt32) : T117 F x (-13) = some (rr x 13) := by
  have e1 : ((UInt64.ofInt (-13)) &&& (UInt64.ofNat 31)).toNat = 19 := by decide +kernel
  have e2 : ((UInt64.ofNat 32) - ((UInt64.ofInt (-13)) &&& (UInt64.ofNat 31))).toNat = 13 := by decide +kernel
  simp only [T117, T117c, e1, e2, rr]
  rw [UInt32.or_comm]
theorem a93_13 (F : Nat) (x : UInt32) : T112 F x 13 = some (rr x 13) := by
  have e1 : gnn (13 : Int) = some 13 := by decide +kernel
  have e2 : gnn (w64 ((32 : Int) - 13)) = some 19 := by decide +kernel
  simp only [T112, T112c, e1, e2, rr, Option.bind_some]
theorem a94_22 (F : Nat) (x : UInt32) : T117 F x (-22) = some (rr x 22) := by
  have e1 : ((UInt64.ofInt (-22)) &&& (UInt64.ofNat 31)).toNat = 10 := by decide +kernel
  have e2 : ((UInt64.ofNat 32) - ((UInt64.ofInt (-22)) &&& (UInt64.ofNat 31))).toNat = 22 := by decide +kernel
  simp only [T117, T117c, e1, e2, rr]
  rw [UInt32.or_comm]
theorem a93_22 (F : Nat) (x : UInt32) : T112 F x 22 = some (rr x 22) := by
  have e1 : gnn (22 : Int) = some 22 := by decide +kernel
  have e2 : gnn (w64 ((32 : Int) - 22)) = some 10 := by decide +kernel
  simp only [T112, T112c, e1, e2, rr, Option.bind_some]

def wd4 (a b c d : UInt8) : UInt32 := (((shl32 (a.toUInt32) ((UInt64.ofNat 24).toNat)) ||| (shl32 (b.toUInt32) ((UInt64.ofNat 16).toNat))) ||| (shl32 (c.toUInt32) ((UInt64.ofNat 8).toNat))) ||| (d.toUInt32)
def sch4 (a b c d : UInt32) : UInt32 := ((((rr a 17 ^^^ rr a 19) ^^^ (shr32 a ((UInt64.ofNat 10).toNat))) + b) + ((rr c 7 ^^^ rr c 18) ^^^ (shr32 c ((UInt64.ofNat 3).toNat)))) + d

theorem s91_lo (F : Nat) {p : List UInt8} (hp : p.length = 64) {i : Nat} (hi : i < 16) (w : Vector UInt32 64) :
    L110x1_4 F p ((i : Nat) : Int) w = some (.inl (((i + 1 : Nat) : Int), w.setIfInBounds i (wd4 p[4 * i] p[4 * i + 1] p[4 * i + 2] p[4 * i + 3]))) := by
  have h1 : (((i : Nat) : Int) < 64) := by omega
  have h2 : (((i : Nat) : Int) < 16) := by omega
  have e1 : w64 ((4 : Int) * ((i : Nat) : Int)) = ((4 * i : Nat) : Int) := by rw [w64_in (by omega) (by omega)]; omega
  have e2 : w64 (((4 * i : Nat) : Int) + 4) = ((4 * i + 4 : Nat) : Int) := by rw [w64_in (by omega) (by omega)]; omega
  have e3 : w64 (((i : Nat) : Int) + 1) = ((i + 1 : Nat) : Int) := by rw [w64_in (by omega) (by omega)]; omega
  have g : gsl p ((4 * i : Nat) : Int) ((4 * i + 4 : Nat) : Int) = some ((p.drop (4 * i)).take 4) := by
    rw [gsl_nat (by omega) (by omega), Nat.add_sub_cancel_left]
  have x0 : ix ((p.drop (4 * i)).take 4) (0 : Int) = some p[4 * i] := ix_dt (k := 0) (by omega) (by omega)
  have x1 : ix ((p.drop (4 * i)).take 4) (1 : Int) = some p[4 * i + 1] := ix_dt (k := 1) (by omega) (by omega)
  have x2 : ix ((p.drop (4 * i)).take 4) (2 : Int) = some p[4 * i + 2] := ix_dt (k := 2) (by omega) (by omega)
  have x3 : ix ((p.drop (4 * i)).take 4) (3 : Int) = some p[4 * i + 3] := ix_dt (k := 3) (by omega) (by omega)
  have n : inb 64 ((i : Nat) : Int) = some i := inb_nat (by omega)
  simp only [L110x1_4, L110x1_4c, h1, h2, decide_true, cond_true, e1, e2, e3, g, x0, x1, x2, x3, n, Option.bind_some, wd4]

theorem s85_lo (F : Nat) {p : List UInt8} (hp : p.length = 64) {i : Nat} (hi : i < 16) (w : Vector UInt32 64) :
    L102_5 F p ((i : Nat) : Int) w = some (.inl (((i + 1 : Nat) : Int), w.setIfInBounds i (wd4 p[4 * i] p[4 * i + 1] p[4 * i + 2] p[4 * i + 3]))) := by
  have h2 : (((i : Nat) : Int) < 16) := by omega
  have e1 : w64 ((4 : Int) * ((i : Nat) : Int)) = ((4 * i : Nat) : Int) := by rw [w64_in (by omega) (by omega)]; omega
  have f1 : w64 (((4 * i : Nat) : Int) + 1) = ((4 * i + 1 : Nat) : Int) := by rw [w64_in (by omega) (by omega)]; omega
  have f2 : w64 (((4 * i : Nat) : Int) + 2) = ((4 * i + 2 : Nat) : Int) := by rw [w64_in (by omega) (by omega)]; omega
  have f3 : w64 (((4 * i : Nat) : Int) + 3) = ((4 * i + 3 : Nat) : Int) := by rw [w64_in (by omega) (by omega)]; omega
  have e3 : w64 (((i : Nat) : Int) + 1) = ((i + 1 : Nat) : Int) := by rw [w64_in (by omega) (by omega)]; omega
  have x0 : ix p ((4 * i : Nat) : Int) = some p[4 * i] := ix_nat (by omega)
  have x1 : ix p ((4 * i + 1 : Nat) : Int) = some p[4 * i + 1] := ix_nat (by omega)
  have x2 : ix p ((4 * i + 2 : Nat) : Int) = some p[4 * i + 2] := ix_nat (by omega)
  have x3 : ix p ((4 * i + 3 : Nat) : Int) = some p[4 * i + 3] := ix_nat (by omega)
  have n : inb 64 ((i : Nat) : Int) = some i := inb_nat (by omega)
  simp only [L102_5, L102_5c, h2, decide_true, cond_true, e1, e3, f1, f2, f3, x0, x1, x2, x3, n, Option.bind_some, wd4]

theorem s91_hi (F : Nat) (p : List UInt8) {i : Nat} (h16 : 16 ≤ i) (hi : i < 64) (w : Vector UInt32 64) :
    L110x1_4 F p ((i : Nat) : Int) w = some (.inl (((i + 1 : Nat) : Int), w.setIfInBounds i (sch4 w[i - 2] w[i - 7] w[i - 15] w[i - 16]))) := by
  have h1 : (((i : Nat) : Int) < 64) := by omega
  have h2 : ¬ (((i : Nat) : Int) < 16) := by omega
  have e3 : w64 (((i : Nat) : Int) + 1) = ((i + 1 : Nat) : Int) := by rw [w64_in (by omega) (by omega)]; omega
  have f1 : w64 (((i : Nat) : Int) - 2) = ((i - 2 : Nat) : Int) := by rw [w64_in (by omega) (by omega)]; omega
  have f2 : w64 (((i : Nat) : Int) - 7) = ((i - 7 : Nat) : Int) := by rw [w64_in (by omega) (by omega)]; omega
  have f3 : w64 (((i : Nat) : Int) - 15) = ((i - 15 : Nat) : Int) := by rw [w64_in (by omega) (by omega)]; omega
  have f4 : w64 (((i : Nat) : Int) - 16) = ((i - 16 : Nat) : Int) := by rw [w64_in (by omega) (by omega)]; omega
  have n : inb 64 ((i : Nat) : Int) = some i := inb_nat (by omega)
  have n1 : inb 64 ((i - 2 : Nat) : Int) = some (i - 2) := inb_nat (by omega)
  have n2 : inb 64 ((i - 7 : Nat) : Int) = some (i - 7) := inb_nat (by omega)
  have n3 : inb 64 ((i - 15 : Nat) : Int) = some (i - 15) := inb_nat (by omega)
  have n4 : inb 64 ((i - 16 : Nat) : Int) = some (i - 16) := inb_nat (by omega)
  have v1 : vat w (i - 2) = some w[i - 2] := vat_nat (by omega)
  have v2 : vat w (i - 7) = some w[i - 7] := vat_nat (by omega)
  have v3 : vat w (i - 15) = some w[i - 15] := vat_nat (by omega)
  have v4 : vat w (i - 16) = some w[i - 16] := vat_nat (by omega)
  simp only [L110x1_4, L110x1_4c, h1, h2, decide_true, decide_false, cond_true, cond_false, e3, f1, f2, f3, f4, n, n1, n2, n3, n4, v1, v2, v3, v4, a94_17, a94_19, a94_7, a94_18, Option.bind_some, sch4]

theorem s85_hi (F : Nat) {i : Nat} (h16 : 16 ≤ i) (hi : i < 64) (w : Vector UInt32 64) :
    L102_6 F ((i : Nat) : Int) w = some (.inl (((i + 1 : Nat) : Int), w.setIfInBounds i (sch4 w[i - 2] w[i - 7] w[i - 15] w[i - 16]))) := by
  have h1 : (((i : Nat) : Int) < 64) := by omega
  have e3 : w64 (((i : Nat) : Int) + 1) = ((i + 1 : Nat) : Int) := by rw [w64_in (by omega) (by omega)]; omega
  have f1 : w64 (((i : Nat) : Int) - 2) = ((i - 2 : Nat) : Int) := by rw [w64_in (by omega) (by omega)]; omega
  have f2 : w64 (((i : Nat) : Int) - 7) = ((i - 7 : Nat) : Int) := by rw [w64_in (by omega) (by omega)]; omega
  have f3 : w64 (((i : Nat) : Int) - 15) = ((i - 15 : Nat) : Int) := by rw [w64_in (by omega) (by omega)]; omega
  have f4 : w64 (((i : Nat) : Int) - 16) = ((i - 16 : Nat) : Int) := by rw [w64_in (by omega) (by omega)]; omega
  have n : inb 64 ((i : Nat) : Int) = some i := inb_nat (by omega)
  have n1 : inb 64 ((i - 2 : Nat) : Int) = some (i - 2) := inb_nat (by omega)
  have n2 : inb 64 ((i - 7 : Nat) : Int) = some (i - 7) := inb_nat (by omega)
  have n3 : inb 64 ((i - 15 : Nat) : Int) = some (i - 15) := inb_nat (by omega)
  have n4 : inb 64 ((i - 16 : Nat) : Int) = some (i - 16) := inb_nat (by omega)
  have v1 : vat w (i - 2) = some w[i - 2] := vat_nat (by omega)
  have v2 : vat w (i - 7) = some w[i - 7] := vat_nat (by omega)
  have v3 : vat w (i - 15) = some w[i - 15] := vat_nat (by omega)
  have v4 : vat w (i - 16) = some w[i - 16] := vat_nat (by omega)
  simp only [L102_6, L102_6c, h1, decide_true, cond_true, e3, f1, f2, f3, f4, n, n1, n2, n3, n4, v1, v2, v3, v4, a93_17, a93_19, a93_7, a93_18, Option.bind_some, sch4]

theorem sched {F : Nat} (hF : 100 < F) {p : List UInt8} (hp : p.length = 64) : ∃ w w0, iter (fun s : Int × Vector UInt32 64 => L110x1_4 F p s.1 s.2) F ((0 : Int), (Vector.replicate 64 (0 : UInt32))) = some w ∧
    iter (fun s : Int × Vector UInt32 64 => L102_5 F p s.1 s.2) F ((0 : Int), (Vector.replicate 64 (0 : UInt32))) = some w0 ∧ iter (fun s : Int × Vector UInt32 64 => L102_6 F s.1 s.2) F ((16 : Int), w0) = some w := by
  obtain ⟨k, s', w0, a1, a2, a3, a4⟩ := iterP (f := fun s : Int × Vector UInt32 64 => L110x1_4 F p s.1 s.2) (g := fun s : Int × Vector UInt32 64 => L102_5 F p s.1 s.2)
    (fun s t => s = t ∧ ∃ i : Nat, s.1 = i ∧ i ≤ 16) (fun s r => s = ((16 : Int), r)) (fun s => 16 - s.1.toNat) (by
      rintro ⟨a, w⟩ t ⟨rfl, i, hi, h16⟩
      simp only at hi
      subst hi
      by_cases h : i < 16
      · exact .inl ⟨_, _, s91_lo F hp h w, s85_lo F hp h w, ⟨rfl, i + 1, rfl, by omega⟩, by simp only [Int.toNat_natCast]; omega⟩
      · obtain rfl : i = 16 := by omega
        exact .inr ⟨w, rfl, rfl⟩) F ((0 : Int), (Vector.replicate 64 (0 : UInt32))) ((0 : Int), (Vector.replicate 64 (0 : UInt32))) ⟨rfl, 0, rfl, by omega⟩ (by simp only [Int.toNat_zero]; omega)
  simp only [Int.toNat_zero, Nat.sub_zero] at a1
  subst a3
  obtain ⟨w, w', b1, b2, b3⟩ := iter2 (f := fun s : Int × Vector UInt32 64 => L110x1_4 F p s.1 s.2) (g := fun s : Int × Vector UInt32 64 => L102_6 F s.1 s.2)
    (fun s t => s = t ∧ ∃ i : Nat, s.1 = i ∧ 16 ≤ i ∧ i ≤ 64) (fun r r' => r = r') (fun s => 64 - s.1.toNat) (by
      rintro ⟨a, w⟩ t ⟨rfl, i, hi, h16, h64⟩
      simp only at hi
      subst hi
      by_cases h : i < 64
      · exact .inl ⟨_, _, s91_hi F p h16 h w, s85_hi F h16 h w, ⟨rfl, i + 1, rfl, by omega, by omega⟩, by simp only [Int.toNat_natCast]; omega⟩
      · obtain rfl : i = 64 := by omega
        exact .inr ⟨w, w, rfl, rfl, rfl⟩) (F - k) F ((16 : Int), w0) ((16 : Int), w0) ⟨rfl, 16, rfl, by omega, by omega⟩ (by have : ((16 : Int)).toNat = 16 := rfl; simp only [this]; omega) (by have : ((16 : Int)).toNat = 16 := rfl; simp only [this]; omega)
  subst b3
  refine ⟨w, w0, ?_, a2, b2⟩
  have := a4 (F - k)
  rw [Nat.sub_add_cancel (by omega)] at this
  rw [this, b1]

/-- The words out of an array's bytes. -/
theorem s91v_lo (F : Nat) (v : Vector UInt8 64) {i : Nat} (hi : i < 16) (w : Vector UInt32 64) :
    L110_4 F v (0, 64) ((i : Nat) : Int) w = some (.inl ((0, 64), ((i + 1 : Nat) : Int), w.setIfInBounds i (wd4 v[4 * i] v[4 * i + 1] v[4 * i + 2] v[4 * i + 3]))) := by
  have h1 : (((i : Nat) : Int) < 64) := by omega
  have h2 : (((i : Nat) : Int) < 16) := by omega
  have e1 : w64 ((4 : Int) * ((i : Nat) : Int)) = ((4 * i : Nat) : Int) := by rw [w64_in (by omega) (by omega)]; omega
  have e2 : w64 (((4 * i : Nat) : Int) + 4) = ((4 * i + 4 : Nat) : Int) := by rw [w64_in (by omega) (by omega)]; omega
  have e3 : w64 (((i : Nat) : Int) + 1) = ((i + 1 : Nat) : Int) := by rw [w64_in (by omega) (by omega)]; omega
  have g : gslb 64 ((4 * i : Nat) : Int) ((4 * i + 4 : Nat) : Int) = some (4 * i, 4 * i + 4) := gslb_nat (by omega) (by omega)
  have m0 : inb 4 (0 : Int) = some 0 := by decide
  have m1 : inb 4 (1 : Int) = some 1 := by decide
  have m2 : inb 4 (2 : Int) = some 2 := by decide
  have m3 : inb 4 (3 : Int) = some 3 := by decide
  have x0 : vat v (4 * i) = some v[4 * i] := vat_nat (by omega)
  have x1 : vat v (4 * i + 1) = some v[4 * i + 1] := vat_nat (by omega)
  have x2 : vat v (4 * i + 2) = some v[4 * i + 2] := vat_nat (by omega)
  have x3 : vat v (4 * i + 3) = some v[4 * i + 3] := vat_nat (by omega)
  have n : inb 64 ((i : Nat) : Int) = some i := inb_nat (by omega)
  simp only [L110_4, L110_4c, h1, h2, decide_true, cond_true, e1, e2, e3, Nat.sub_zero, Nat.zero_add, g, Nat.add_sub_cancel_left, m0, m1, m2, m3, Nat.add_zero, x0, x1, x2, x3, n, Option.bind_some, wd4]

theorem s91v_hi (F : Nat) (v : Vector UInt8 64) {i : Nat} (h16 : 16 ≤ i) (hi : i < 64) (w : Vector UInt32 64) :
    L110_4 F v (0, 64) ((i : Nat) : Int) w = some (.inl ((0, 64), ((i + 1 : Nat) : Int), w.setIfInBounds i (sch4 w[i - 2] w[i - 7] w[i - 15] w[i - 16]))) := by
  have h1 : (((i : Nat) : Int) < 64) := by omega
  have h2 : ¬ (((i : Nat) : Int) < 16) := by omega
  have e3 : w64 (((i : Nat) : Int) + 1) = ((i + 1 : Nat) : Int) := by rw [w64_in (by omega) (by omega)]; omega
  have f1 : w64 (((i : Nat) : Int) - 2) = ((i - 2 : Nat) : Int) := by rw [w64_in (by omega) (by omega)]; omega
  have f2 : w64 (((i : Nat) : Int) - 7) = ((i - 7 : Nat) : Int) := by rw [w64_in (by omega) (by omega)]; omega
  have f3 : w64 (((i : Nat) : Int) - 15) = ((i - 15 : Nat) : Int) := by rw [w64_in (by omega) (by omega)]; omega
  have f4 : w64 (((i : Nat) : Int) - 16) = ((i - 16 : Nat) : Int) := by rw [w64_in (by omega) (by omega)]; omega
  have n : inb 64 ((i : Nat) : Int) = some i := inb_nat (by omega)
  have n1 : inb 64 ((i - 2 : Nat) : Int) = some (i - 2) := inb_nat (by omega)
  have n2 : inb 64 ((i - 7 : Nat) : Int) = some (i - 7) := inb_nat (by omega)
  have n3 : inb 64 ((i - 15 : Nat) : Int) = some (i - 15) := inb_nat (by omega)
  have n4 : inb 64 ((i - 16 : Nat) : Int) = some (i - 16) := inb_nat (by omega)
  have v1 : vat w (i - 2) = some w[i - 2] := vat_nat (by omega)
  have v2 : vat w (i - 7) = some w[i - 7] := vat_nat (by omega)
  have v3 : vat w (i - 15) = some w[i - 15] := vat_nat (by omega)
  have v4 : vat w (i - 16) = some w[i - 16] := vat_nat (by omega)
  simp only [L110_4, L110_4c, h1, h2, decide_true, decide_false, cond_true, cond_false, e3, f1, f2, f3, f4, n, n1, n2, n3, n4, v1, v2, v3, v4, a94_17, a94_19, a94_7, a94_18, Option.bind_some, sch4]

theorem schedv {F : Nat} (hF : 100 < F) (v : Vector UInt8 64) : ∃ w, iter (fun s : (Nat × Nat) × Int × Vector UInt32 64 => L110_4 F v s.1 s.2.1 s.2.2) F ((0, 64), (0 : Int), (Vector.replicate 64 (0 : UInt32))) = some w ∧
    iter (fun s : Int × Vector UInt32 64 => L110x1_4 F v.toList s.1 s.2) F ((0 : Int), (Vector.replicate 64 (0 : UInt32))) = some w := by
  have hl : v.toList.length = 64 := by simp
  obtain ⟨w, w', b1, b2, b3⟩ := iter2 (f := fun s : (Nat × Nat) × Int × Vector UInt32 64 => L110_4 F v s.1 s.2.1 s.2.2) (g := fun s : Int × Vector UInt32 64 => L110x1_4 F v.toList s.1 s.2)
    (fun s t => s = ((0, 64), t.1, t.2) ∧ ∃ i : Nat, t.1 = i ∧ i ≤ 64) (fun r r' => r = r') (fun s => 64 - s.2.1.toNat) (by
      rintro s ⟨a, w⟩ ⟨rfl, i, hi, h64⟩
      simp only at hi
      subst hi
      by_cases h : i < 64
      · by_cases h16 : i < 16
        · have g := s91_lo F hl h16 w
          simp only [Vector.getElem_toList] at g
          exact .inl ⟨_, _, s91v_lo F v h16 w, g, ⟨rfl, i + 1, rfl, by omega⟩, by simp only [Int.toNat_natCast]; omega⟩
        · exact .inl ⟨_, _, s91v_hi F v (by omega) h w, s91_hi F v.toList (by omega) h w, ⟨rfl, i + 1, rfl, by omega⟩, by simp only [Int.toNat_natCast]; omega⟩
      · obtain rfl : i = 64 := by omega
        exact .inr ⟨w, w, rfl, rfl, rfl⟩) F F ((0, 64), (0 : Int), (Vector.replicate 64 (0 : UInt32))) ((0 : Int), (Vector.replicate 64 (0 : UInt32))) ⟨rfl, 0, rfl, by omega⟩ (by simp only [Int.toNat_zero]; omega) (by simp only [Int.toNat_zero]; omega)
  subst b3
  exact ⟨w, b1, b2⟩

/-- A round. -/
def t1 (e f g h k w : UInt32) : UInt32 := (((h + ((rr e 6 ^^^ rr e 11) ^^^ rr e 25)) + ((e &&& f) ^^^ ((~~~e) &&& g))) + k) + w
def t2 (a b c : UInt32) : UInt32 := ((rr a 2 ^^^ rr a 13) ^^^ rr a 22) + (((a &&& b) ^^^ (a &&& c)) ^^^ (b &&& c))

theorem r91 (F : Nat) (w : Vector UInt32 64) (a b c d e f g h : UInt32) {i : Nat} (hi : i < 64) :
    L110x1_5 F w a b c d e f g h ((i : Nat) : Int) = some (.inl (t1 e f g h gv2[i] w[i] + t2 a b c, a, b, c, d + t1 e f g h gv2[i] w[i], e, f, g, ((i + 1 : Nat) : Int))) := by
  have h1 : (((i : Nat) : Int) < 64) := by omega
  have e3 : w64 (((i : Nat) : Int) + 1) = ((i + 1 : Nat) : Int) := by rw [w64_in (by omega) (by omega)]; omega
  have n : inb 64 ((i : Nat) : Int) = some i := inb_nat (by omega)
  have v : vat w i = some w[i] := vat_nat hi
  have x : vix gv2 ((i : Nat) : Int) = some gv2[i] := vix_nat hi
  simp only [L110x1_5, L110x1_5c, h1, decide_true, cond_true, a94_6, a94_11, a94_25, a94_2, a94_13, a94_22, Option.bind_some, x, n, v, e3, t1, t2]
theorem r85 (F : Nat) (w : Vector UInt32 64) (a b c d e f g h : UInt32) {i : Nat} (hi : i < 64) :
    L102_7 F gv2 w ((i : Nat) : Int) #v[a, b, c, d, e, f, g, h] = some (.inl (((i + 1 : Nat) : Int), #v[t1 e f g h gv2[i] w[i] + t2 a b c, a, b, c, d + t1 e f g h gv2[i] w[i], e, f, g])) := by
  have h1 : (((i : Nat) : Int) < 64) := by omega
  have e3 : w64 (((i : Nat) : Int) + 1) = ((i + 1 : Nat) : Int) := by rw [w64_in (by omega) (by omega)]; omega
  have n : inb 64 ((i : Nat) : Int) = some i := inb_nat (by omega)
  have v : vat w i = some w[i] := vat_nat hi
  have x : vat gv2 i = some gv2[i] := vat_nat hi
  have y0 : vat #v[a, b, c, d, e, f, g, h] 0 = some a := rfl
  have y1 : vat #v[a, b, c, d, e, f, g, h] 1 = some b := rfl
  have y2 : vat #v[a, b, c, d, e, f, g, h] 2 = some c := rfl
  have y3 : vat #v[a, b, c, d, e, f, g, h] 3 = some d := rfl
  have y4 : vat #v[a, b, c, d, e, f, g, h] 4 = some e := rfl
  have y5 : vat #v[a, b, c, d, e, f, g, h] 5 = some f := rfl
  have y6 : vat #v[a, b, c, d, e, f, g, h] 6 = some g := rfl
  have y7 : vat #v[a, b, c, d, e, f, g, h] 7 = some h := rfl
  simp only [L102_7, L102_7c, h1, decide_true, cond_true, y0, y1, y2, y3, y4, y5, y6, y7, a93_6, a93_11, a93_25, a93_2, a93_13, a93_22, Option.bind_some, x, n, v, e3, t1, t2]

abbrev O8 := UInt32 × UInt32 × UInt32 × UInt32 × UInt32 × UInt32 × UInt32 × UInt32
abbrev O9 := UInt32 × UInt32 × UInt32 × UInt32 × UInt32 × UInt32 × UInt32 × UInt32 × Int
def v8 (z : O8) : Vector UInt32 8 := #v[z.1, z.2.1, z.2.2.1, z.2.2.2.1, z.2.2.2.2.1, z.2.2.2.2.2.1, z.2.2.2.2.2.2.1, z.2.2.2.2.2.2.2]

theorem rounds {F : Nat} (hF : 100 < F) (w : Vector UInt32 64) (z : O8) : ∃ z' : O8,
    iter (fun s : O9 => L110x1_5 F w s.1 s.2.1 s.2.2.1 s.2.2.2.1 s.2.2.2.2.1 s.2.2.2.2.2.1 s.2.2.2.2.2.2.1 s.2.2.2.2.2.2.2.1 s.2.2.2.2.2.2.2.2) F (z.1, z.2.1, z.2.2.1, z.2.2.2.1, z.2.2.2.2.1, z.2.2.2.2.2.1, z.2.2.2.2.2.2.1, z.2.2.2.2.2.2.2, (0 : Int)) = some z' ∧
    iter (fun s : Int × Vector UInt32 8 => L102_7 F gv2 w s.1 s.2) F ((0 : Int), v8 z) = some (v8 z') := by
  obtain ⟨r, r', b1, b2, b3⟩ := iter2 (f := fun s : O9 => L110x1_5 F w s.1 s.2.1 s.2.2.1 s.2.2.2.1 s.2.2.2.2.1 s.2.2.2.2.2.1 s.2.2.2.2.2.2.1 s.2.2.2.2.2.2.2.1 s.2.2.2.2.2.2.2.2) (g := fun s : Int × Vector UInt32 8 => L102_7 F gv2 w s.1 s.2)
    (fun s t => t = (s.2.2.2.2.2.2.2.2, #v[s.1, s.2.1, s.2.2.1, s.2.2.2.1, s.2.2.2.2.1, s.2.2.2.2.2.1, s.2.2.2.2.2.2.1, s.2.2.2.2.2.2.2.1]) ∧ ∃ i : Nat, s.2.2.2.2.2.2.2.2 = i ∧ i ≤ 64) (fun r r' => r' = v8 r) (fun s => 64 - s.2.2.2.2.2.2.2.2.toNat) (by
      rintro ⟨a, b, c, d, e, f, g, h, j⟩ t ⟨rfl, i, hi, h64⟩
      simp only at hi
      subst hi
      by_cases hi : i < 64
      · exact .inl ⟨_, _, r91 F w a b c d e f g h hi, r85 F w a b c d e f g h hi, ⟨rfl, i + 1, rfl, by omega⟩, by simp only [Int.toNat_natCast]; omega⟩
      · obtain rfl : i = 64 := by omega
        exact .inr ⟨_, _, rfl, rfl, rfl⟩) F F (z.1, z.2.1, z.2.2.1, z.2.2.2.1, z.2.2.2.2.1, z.2.2.2.2.2.1, z.2.2.2.2.2.2.1, z.2.2.2.2.2.2.2, (0 : Int)) ((0 : Int), v8 z) ⟨rfl, 0, rfl, by omega⟩ (by simp only [Int.toNat_zero]; omega) (by simp only [Int.toNat_zero]; omega)
  subst b3
  exact ⟨r, b1, b2⟩
theorem last {F : Nat} (hF : 100 < F) (x p : Vector UInt32 8) : ∃ r, iter (fun s : Int × Vector UInt32 8 => L110x1_6 F x p s.1 s.2) F ((0 : Int), p) = some r ∧ iter (fun s : Int × Vector UInt32 8 => L102_8 F p s.1 s.2) F ((0 : Int), x) = some r := by
  obtain ⟨r, r', b1, b2, b3⟩ := iter2 (f := fun s : Int × Vector UInt32 8 => L110x1_6 F x p s.1 s.2) (g := fun s : Int × Vector UInt32 8 => L102_8 F p s.1 s.2)
    (fun s t => s.1 = t.1 ∧ ∃ i : Nat, s.1 = i ∧ i ≤ 8 ∧ (∀ j (hj : j < 8), j < i → s.2[j] = t.2[j]) ∧ ∀ j (hj : j < 8), i ≤ j → t.2[j] = x[j]) (fun r r' => r = r') (fun s => 8 - s.1.toNat) (by
      rintro ⟨a, u⟩ ⟨a', v⟩ ⟨rfl, i, hi, h8, hu, hv⟩
      simp only at hi hu hv
      subst hi
      by_cases h : i < 8
      · have h1 : (((i : Nat) : Int) < 8) := by omega
        have e3 : w64 (((i : Nat) : Int) + 1) = ((i + 1 : Nat) : Int) := by rw [w64_in (by omega) (by omega)]; omega
        have n : inb 8 ((i : Nat) : Int) = some i := inb_nat h
        have s1 : L110x1_6 F x p ((i : Nat) : Int) u = some (.inl (((i + 1 : Nat) : Int), u.setIfInBounds i (p[i] + x[i]))) := by
          simp only [L110x1_6, L110x1_6c, h1, decide_true, cond_true, vix_nat h, n, vat_nat (v := p) h, Option.bind_some, e3]
        have s2 : L102_8 F p ((i : Nat) : Int) v = some (.inl (((i + 1 : Nat) : Int), v.setIfInBounds i (v[i] + p[i]))) := by
          simp only [L102_8, L102_8c, h1, decide_true, cond_true, n, vat_nat (v := p) h, vat_nat (v := v) h, Option.bind_some, e3]
        refine .inl ⟨_, _, s1, s2, ⟨rfl, i + 1, rfl, by omega, fun j hj hji => ?_, fun j hj hij => ?_⟩, by simp only [Int.toNat_natCast]; omega⟩
        · simp only [Vector.getElem_setIfInBounds]
          by_cases e : i = j
          · subst e
            simp only [if_true]
            rw [hv i hj (Nat.le_refl _), UInt32.add_comm]
          · rw [if_neg e, if_neg e]
            exact hu j hj (by omega)
        · simp only [Vector.getElem_setIfInBounds]
          rw [if_neg (by omega)]
          exact hv j hj (by omega)
      · obtain rfl : i = 8 := by omega
        exact .inr ⟨u, v, rfl, rfl, Vector.ext fun j hj => hu j hj hj⟩) F F ((0 : Int), p) ((0 : Int), x) ⟨rfl, 0, rfl, by omega, fun j hj h0 => absurd h0 (by omega), fun j hj _ => rfl⟩ (by simp only [Int.toNat_zero]; omega) (by simp only [Int.toNat_zero]; omega)
  subst b3
  exact ⟨r, b1, b2⟩

theorem vec8 (v : Vector UInt32 8) : v8 (v[0], v[1], v[2], v[3], v[4], v[5], v[6], v[7]) = v := by
  apply Vector.ext
  intro i hi
  match i, hi with
  | 0, _ => rfl
  | 1, _ => rfl
  | 2, _ => rfl
  | 3, _ => rfl
  | 4, _ => rfl
  | 5, _ => rfl
  | 6, _ => rfl
  | 7, _ => rfl

theorem k92 (F : Nat) : T111 F = some gv2 := rfl

/-- The block. -/
theorem t91 {F : Nat} (hF : 100 < F) {p : List UInt8} (hp : p.length = 64) (h : Vector UInt32 8) : ∃ r, T110x1 F p h = some r ∧ T102 F h p = some r := by
  obtain ⟨w, w0, a1, a2, a3⟩ := sched hF hp
  obtain ⟨z, b1, b2⟩ := rounds hF w (h[0], h[1], h[2], h[3], h[4], h[5], h[6], h[7])
  rw [vec8] at b2
  obtain ⟨r, c1, c2⟩ := last hF (v8 z) h
  refine ⟨r, ?_, ?_⟩
  · simp only [T110x1, T110x1c, a1, Option.bind_some, vat_nat (v := h) (show 0 < 8 by omega), vat_nat (v := h) (show 1 < 8 by omega), vat_nat (v := h) (show 2 < 8 by omega), vat_nat (v := h) (show 3 < 8 by omega), vat_nat (v := h) (show 4 < 8 by omega), vat_nat (v := h) (show 5 < 8 by omega), vat_nat (v := h) (show 6 < 8 by omega), vat_nat (v := h) (show 7 < 8 by omega)]
    simp only [b1, Option.bind_some]
    exact (congrArg (fun o => Option.bind o fun z => some z) c1)
  · simp only [T102, T102c, k92, Option.bind_some, a2, a3, b2, c2]

theorem t91v {F : Nat} (hF : 100 < F) (v : Vector UInt8 64) (h : Vector UInt32 8) : T110 F (0, 64) h v = T110x1 F v.toList h := by
  obtain ⟨w, a1, a2⟩ := schedv hF v
  simp only [T110, T110c, T110x1, T110x1c, a1, a2, Option.bind_some]
  rfl

theorem x82_eq (F : Nat) : T99x1 F = T99 F := rfl
end Go.Proofs.YthikoaamigiceaaDoor
/- sha256, written in parts, is that of the reference. -/
namespace Go.Proofs.YthikoaamigiceaaDoor
open Go.Tw
set_option linter.unusedVariables false
set_option linter.unusedSimpArgs false

def B (F : Nat) (h : Vector UInt32 8) (p : List UInt8) : Vector UInt32 8 := (T102 F h p).getD h
theorem b85 {F : Nat} (hF : 100 < F) {p : List UInt8} (hp : p.length = 64) (h : Vector UInt32 8) : T102 F h p = some (B F h p) := by
  obtain ⟨r, h1, h2⟩ := t91 hF hp h
  simp only [B, h2, Option.getD_some]
theorem b91 {F : Nat} (hF : 100 < F) {p : List UInt8} (hp : p.length = 64) (h : Vector UInt32 8) : T110x1 F p h = some (B F h p) := by
  obtain ⟨r, h1, h2⟩ := t91 hF hp h
  simp only [B, h1, h2, Option.getD_some]
theorem b91v {F : Nat} (hF : 100 < F) (v : Vector UInt8 64) (h : Vector UInt32 8) : T110 F (0, 64) h v = some (B F h v.toList) := by
  rw [t91v hF, b91 hF (by simp)]

def hN (F : Nat) : Nat → List UInt8 → Vector UInt32 8
  | 0, _ => gv1
  | k + 1, m => B F (hN F k m) ((m.drop (64 * k)).take 64)
theorem hN_app (F : Nat) (m x : List UInt8) : ∀ k, 64 * k ≤ m.length → hN F k (m ++ x) = hN F k m
  | 0, _ => rfl
  | k + 1, h => by
    simp only [hN]
    rw [hN_app F m x k (by omega), List.drop_append_of_le_length (by omega), List.take_append_of_le_length (by simp; omega)]

structure Inv (F : Nat) (m : List UInt8) (h : Vector UInt32 8) (b : Vector UInt8 64) (n : Int) : Prop where
  len : n = (m.length : Int)
  words : h = hN F (m.length / 64) m
  rest : b.toList.take (m.length % 64) = m.drop (64 * (m.length / 64))

theorem tmod64 (a : Nat) : Int.tmod ((a : Nat) : Int) 64 = ((a % 64 : Nat) : Int) := by
  rw [Int.tmod_eq_emod_of_nonneg (by omega)]; omega

theorem lp82 {F : Nat} (hF : 100 < F) (M : List UInt8) : ∀ (fuel k : Nat), 64 * k ≤ M.length → (M.length - 64 * k) / 64 < fuel →
    iter (fun s : List UInt8 × Vector UInt32 8 => L99_4 F s.1 s.2) fuel (M.drop (64 * k), hN F k M) = some (M.drop (64 * (M.length / 64)), hN F (M.length / 64) M)
  | 0, k, hk, hf => absurd hf (by omega)
  | fuel + 1, k, hk, hf => by
    by_cases h : 64 ≤ M.length - 64 * k
    · have h1 : ((64 : Int) ≤ ((M.drop (64 * k)).length : Int)) := by simp; omega
      have g1 : gsl (M.drop (64 * k)) (0 : Int) (64 : Int) = some ((M.drop (64 * k)).take 64) := gsl_nat (a := 0) (b := 64) (by omega) (by simp; omega)
      have g2 : gsl (M.drop (64 * k)) (64 : Int) ((M.drop (64 * k)).length : Int) = some (M.drop (64 * (k + 1))) := by
        have := gsl_nat (l := M.drop (64 * k)) (a := 64) (b := (M.drop (64 * k)).length) (by simp; omega) (Nat.le_refl _)
        refine Eq.trans this ?_
        rw [List.take_of_length_le (by simp only [List.length_drop]; omega), List.drop_drop]
        congr 2
      have step : L99_4 F (M.drop (64 * k)) (hN F k M) = some (.inl (M.drop (64 * (k + 1)), hN F (k + 1) M)) := by
        simp only [L99_4, L99_4c, h1, decide_true, cond_true, g1, g2, Option.bind_some, b91 hF (show ((M.drop (64 * k)).take 64).length = 64 by simp; omega), hN]
      refine (it_again (f := fun s : List UInt8 × Vector UInt32 8 => L99_4 F s.1 s.2) (s := (M.drop (64 * k), hN F k M)) step).trans ?_
      exact lp82 hF M fuel (k + 1) (by omega) (by omega)
    · have h1 : ¬ ((64 : Int) ≤ ((M.drop (64 * k)).length : Int)) := by simp; omega
      have hk2 : k = M.length / 64 := by omega
      have step : L99_4 F (M.drop (64 * k)) (hN F k M) = some (.inr (M.drop (64 * k), hN F k M)) := by
        simp only [L99_4, L99_4c, h1, decide_false, cond_false]
      refine (it_out (f := fun s : List UInt8 × Vector UInt32 8 => L99_4 F s.1 s.2) (s := (M.drop (64 * k), hN F k M)) step).trans ?_
      rw [← hk2]

/-- After the first part: the loop and the last copy. -/
theorem tail82 {F : Nat} (hF : 100 < F) (M : List UInt8) (hM : M.length < F) (b : Vector UInt8 64) {k : Nat} (hk : 64 * k ≤ M.length) :
    iter (fun s : List UInt8 × Vector UInt32 8 => L99_4 F s.1 s.2) F (M.drop (64 * k), hN F k M) = some (M.drop (64 * (M.length / 64)), hN F (M.length / 64) M) ∧
    (vspl b 0 (M.drop (64 * (M.length / 64))) (M.drop (64 * (M.length / 64))).length).toList.take (M.length % 64) = M.drop (64 * (M.length / 64)) := by
  refine ⟨lp82 hF M F k hk (by omega), ?_⟩
  have hl : (M.drop (64 * (M.length / 64))).length = M.length % 64 := by simp; omega
  rw [vspl_toList (by omega) (Nat.le_refl _)]
  simp only [splice, List.take_zero, List.nil_append, List.take_length]
  rw [← hl, List.take_append_of_le_length (Nat.le_refl _), List.take_length]

theorem t82 {F : Nat} {m x : List UInt8} {h : Vector UInt32 8} {b : Vector UInt8 64} {n : Int} (hF : 100 + m.length + x.length < F) (hb : m.length + x.length < 1000000000) (hI : Inv F m h b n) :
    ∃ h' b' n', T99 F x h b n = some (h', b', n') ∧ Inv F (m ++ x) h' b' n' := by
  obtain ⟨rfl, rfl, hr⟩ := hI
  have wn : w64 ((m.length : Int) + (x.length : Int)) = ((m ++ x).length : Int) := by rw [w64_in (by omega) (by omega)]; simp
  have g0 : gslb 64 (0 : Int) ((64 : Nat) : Int) = some (0, 64) := gslb_nat (a := 0) (by omega) (by omega)
  have hlen : (m ++ x).length = m.length + x.length := by simp
  by_cases hu : m.length % 64 = 0
  · have d : ¬ ((0 : Int) < ((m.length % 64 : Nat) : Int)) := by omega
    have s3 : L99_3 F x ((m.length % 64 : Nat) : Int) false (hN F (m.length / 64) m) b = some (.inl (x, hN F (m.length / 64) m, b)) := by
      simp only [L99_3, L99_3c, cond_false]
    obtain ⟨q1, q2⟩ := tail82 (F := F) (by omega) (m ++ x) (by omega) b (k := m.length / 64) (by omega)
    have e1 : (m ++ x).drop (64 * (m.length / 64)) = x := by
      rw [show 64 * (m.length / 64) = m.length by omega]; simp
    rw [e1, hN_app F m x _ (by omega)] at q1
    have hmin : Nat.min ((m ++ x).drop (64 * ((m ++ x).length / 64))).length (64 - 0) = ((m ++ x).drop (64 * ((m ++ x).length / 64))).length := Nat.min_eq_left (by simp; omega)
    refine ⟨hN F ((m ++ x).length / 64) (m ++ x), vspl b 0 ((m ++ x).drop (64 * ((m ++ x).length / 64))) ((m ++ x).drop (64 * ((m ++ x).length / 64))).length, ((m ++ x).length : Int), ?_, rfl, rfl, q2⟩
    simp only [T99, T99c, tmod64, d, decide_false, s3, Option.bind_some, elimS, q1, g0, hmin, wn]
  · have d : ((0 : Int) < ((m.length % 64 : Nat) : Int)) := by omega
    have g1 : gslb 64 ((m.length % 64 : Nat) : Int) ((64 : Nat) : Int) = some (m.length % 64, 64) := gslb_nat (by omega) (by omega)
    by_cases hc : x.length < 64 - m.length % 64
    · have hmin : Nat.min x.length (64 - m.length % 64) = x.length := Nat.min_eq_left (by omega)
      have g2 : gsl x (x.length : Int) (x.length : Int) = some [] := by
        rw [gsl_nat (Nat.le_refl _) (Nat.le_refl _)]; simp
      have w : w64 (((m.length % 64 : Nat) : Int) + (x.length : Int)) = ((m.length % 64 + x.length : Nat) : Int) := by rw [w64_in (by omega) (by omega)]; omega
      have d2 : (((m.length % 64 + x.length : Nat) : Int) < 64) := by omega
      have s3 : L99_3 F x ((m.length % 64 : Nat) : Int) true (hN F (m.length / 64) m) b = some (.inr (vspl b (m.length % 64) x x.length)) := by
        simp only [L99_3, L99_3c, cond_true, g1, Option.bind_some, hmin, g2, w, d2, decide_true]
      refine ⟨hN F (m.length / 64) m, vspl b (m.length % 64) x x.length, ((m ++ x).length : Int), ?_, rfl, ?_, ?_⟩
      · simp only [T99, T99c, tmod64, d, decide_true, s3, Option.bind_some, elimS, wn]
      · rw [hlen, show (m.length + x.length) / 64 = m.length / 64 by omega, hN_app F m x _ (by omega)]
      · rw [hlen, show (m.length + x.length) / 64 = m.length / 64 by omega, show (m.length + x.length) % 64 = m.length % 64 + x.length by omega, vspl_toList (by omega) (Nat.le_refl _)]
        simp only [splice, List.take_length]
        rw [hr, List.drop_append_of_le_length (by omega)]
        rw [List.take_append_of_le_length (by simp; omega), List.take_of_length_le (by simp; omega)]
    · have hmin : Nat.min x.length (64 - m.length % 64) = 64 - m.length % 64 := Nat.min_eq_right (by omega)
      have g2 : gsl x ((64 - m.length % 64 : Nat) : Int) (x.length : Int) = some (x.drop (64 - m.length % 64)) := by
        rw [gsl_nat (by omega) (Nat.le_refl _), List.take_of_length_le (by simp)]
      have w : w64 (((m.length % 64 : Nat) : Int) + ((64 - m.length % 64 : Nat) : Int)) = 64 := by rw [w64_in (by omega) (by omega)]; omega
      have d2 : ¬ ((64 : Int) < 64) := by omega
      have hbl : (vspl b (m.length % 64) x (64 - m.length % 64)).toList = ((m ++ x).drop (64 * (m.length / 64))).take 64 := by
        rw [vspl_toList (by omega) (by omega)]
        simp only [splice]
        have hz : b.toList.drop (m.length % 64 + (64 - m.length % 64)) = [] := List.drop_of_length_le (by rw [Vector.length_toList]; omega)
        have hdl : (m.drop (64 * (m.length / 64))).length = m.length % 64 := by rw [List.length_drop]; omega
        rw [hr, hz, List.append_nil, List.drop_append_of_le_length (by omega), List.take_append, List.take_of_length_le (l := m.drop (64 * (m.length / 64))) (by omega), hdl]
      have s3 : L99_3 F x ((m.length % 64 : Nat) : Int) true (hN F (m.length / 64) m) b = some (.inl (x.drop (64 - m.length % 64), hN F (m.length / 64 + 1) (m ++ x), vspl b (m.length % 64) x (64 - m.length % 64))) := by
        simp only [L99_3, L99_3c, cond_true, g1, Option.bind_some, hmin, g2, w, d2, decide_false, cond_false, g0, b91v (show 100 < F by omega), hbl, hN, hN_app F m x (m.length / 64) (by omega)]
      obtain ⟨q1, q2⟩ := tail82 (F := F) (by omega) (m ++ x) (by omega) (vspl b (m.length % 64) x (64 - m.length % 64)) (k := m.length / 64 + 1) (by omega)
      have e1 : (m ++ x).drop (64 * (m.length / 64 + 1)) = x.drop (64 - m.length % 64) := by
        rw [List.drop_append, List.drop_of_length_le (by omega), List.nil_append]
        congr 1; omega
      rw [e1] at q1
      have hmin2 : Nat.min ((m ++ x).drop (64 * ((m ++ x).length / 64))).length (64 - 0) = ((m ++ x).drop (64 * ((m ++ x).length / 64))).length := Nat.min_eq_left (by simp; omega)
      refine ⟨hN F ((m ++ x).length / 64) (m ++ x), vspl (vspl b (m.length % 64) x (64 - m.length % 64)) 0 ((m ++ x).drop (64 * ((m ++ x).length / 64))) ((m ++ x).drop (64 * ((m ++ x).length / 64))).length, ((m ++ x).length : Int), ?_, rfl, rfl, q2⟩
      simp only [T99, T99c, tmod64, d, decide_true, s3, Option.bind_some, elimS, q1, g0, hmin2, wn]

theorem gapp_ok {α : Type} {xs ys : List α} (h : xs.length + ys.length ≤ 1099511627776) : gapp xs ys = some (xs ++ ys) := by unfold gapp; rw [if_pos h]

/-- The padding. -/
theorem padz {F : Nat} {m : List UInt8} (hF : 300 < F) (hb : m.length < 1000000000) (h : Vector UInt32 8) (b : Vector UInt8 64) : ∃ p : List UInt8, p.length ≤ 64 ∧ 1 ≤ p.length ∧ (m.length + p.length) % 64 = 56 ∧
    iter (fun s : List UInt8 => L100_4 F (h, b, (m.length : Int), ()) s) F [(UInt8.ofNat 128)] = some p ∧ iter (fun s : List UInt8 => L101_3 F s) F (m ++ [(UInt8.ofNat 128)]) = some (m ++ p) := by
  obtain ⟨r, r', b1, b2, b3, b4, b5⟩ := iter2 (f := fun s : List UInt8 => L100_4 F (h, b, (m.length : Int), ()) s) (g := fun s : List UInt8 => L101_3 F s)
    (fun s t => t = m ++ s ∧ 1 ≤ s.length ∧ s.length ≤ (119 - m.length % 64) % 64 + 1) (fun r r' => r' = m ++ r ∧ (1 ≤ r.length ∧ r.length ≤ 64) ∧ (m.length + r.length) % 64 = 56) (fun s => 65 - s.length) (by
      rintro s t ⟨rfl, h1, h2⟩
      have w : w64 ((m.length : Int) + (s.length : Int)) = ((m.length + s.length : Nat) : Int) := by rw [w64_in (by omega) (by omega)]; omega
      have hl : ((m ++ s).length : Int) = ((m.length + s.length : Nat) : Int) := by simp
      by_cases hc : (m.length + s.length) % 64 = 56
      · have e : ((((m.length + s.length) % 64 : Nat) : Int) != 56) = false := by rw [hc]; rfl
        refine .inr ⟨s, m ++ s, ?_, ?_, rfl, ⟨h1, by omega⟩, hc⟩
        · simp only [L100_4, L100_4c, w, tmod64, e, cond_false]
        · simp only [L101_3, L101_3c, hl, tmod64, e, cond_false]
      · have e : ((((m.length + s.length) % 64 : Nat) : Int) != 56) = true := by rw [bne_iff_ne]; omega
        refine .inl ⟨s ++ [UInt8.ofNat 0], m ++ s ++ [UInt8.ofNat 0], ?_, ?_, ⟨by simp, by simp, ?_⟩, ?_⟩
        · simp only [L100_4, L100_4c, w, tmod64, e, cond_true, gapp_ok (show s.length + [UInt8.ofNat 0].length ≤ 1099511627776 by simp; omega), Option.bind_some]
        · simp only [L101_3, L101_3c, hl, tmod64, e, cond_true, gapp_ok (show (m ++ s).length + [UInt8.ofNat 0].length ≤ 1099511627776 by simp; omega), Option.bind_some]
        · simp only [List.length_append, List.length_cons, List.length_nil]; omega
        · simp only [List.length_append, List.length_cons, List.length_nil]; omega) F F [(UInt8.ofNat 128)] (m ++ [(UInt8.ofNat 128)]) ⟨rfl, by simp, by simp⟩ (by simp; omega) (by simp; omega)
  subst b3
  exact ⟨r, b4.2, b4.1, b5, b1, b2⟩

theorem padc {F : Nat} {m p : List UInt8} (hF : 300 < F) (hb : m.length < 1000000000) (hp : p.length ≤ 64) (c : UInt64) : ∃ q : List UInt8, q.length = p.length + 8 ∧
    iter (fun s : Int × List UInt8 => L100_5 F c s.1 s.2) F ((56 : Int), p) = some q ∧ iter (fun s : Int × List UInt8 => L101_4 F c s.1 s.2) F ((7 : Int), m ++ p) = some (m ++ q) := by
  obtain ⟨r, r', b1, b2, b3, b4⟩ := iter2 (f := fun s : Int × List UInt8 => L100_5 F c s.1 s.2) (g := fun s : Int × List UInt8 => L101_4 F c s.1 s.2)
    (fun s t => ∃ i : Nat, i ≤ 8 ∧ s.1 = 8 * (i : Int) - 8 ∧ t.1 = (i : Int) - 1 ∧ t.2 = m ++ s.2 ∧ s.2.length + i = p.length + 8) (fun r r' => r' = m ++ r ∧ r.length = p.length + 8) (fun s => (s.1 + 8).toNat) (by
      rintro ⟨a, s⟩ ⟨a', t⟩ ⟨i, h8, h1, h2, h3, h4⟩
      simp only at h1 h2 h3 h4
      subst h1 h2 h3
      cases i with
      | zero =>
        refine .inr ⟨s, m ++ s, ?_, ?_, rfl, by omega⟩
        · have d : ¬ ((0 : Int) ≤ 8 * ((0 : Nat) : Int) - 8) := by omega
          simp only [L100_5, L100_5c, d, decide_false, cond_false]
        · have d : ¬ ((0 : Int) ≤ ((0 : Nat) : Int) - 1) := by omega
          simp only [L101_4, L101_4c, d, decide_false, cond_false]
      | succ i =>
        have e1 : 8 * ((i + 1 : Nat) : Int) - 8 = ((8 * i : Nat) : Int) := by omega
        have e2 : ((i + 1 : Nat) : Int) - 1 = ((i : Nat) : Int) := by omega
        rw [e1, e2]
        have d1 : ((0 : Int) ≤ ((8 * i : Nat) : Int)) := by omega
        have d2 : ((0 : Int) ≤ ((i : Nat) : Int)) := by omega
        have n1 : gnn ((8 * i : Nat) : Int) = some (8 * i) := by unfold gnn; rw [if_pos d1]; simp only [Int.toNat_natCast]
        have w0 : w64 ((8 : Int) * ((i : Nat) : Int)) = ((8 * i : Nat) : Int) := by rw [w64_in (by omega) (by omega)]; omega
        have w1 : w64 (((8 * i : Nat) : Int) - 8) = 8 * (i : Int) - 8 := by rw [w64_in (by omega) (by omega)]; omega
        have w2 : w64 (((i : Nat) : Int) - 1) = (i : Int) - 1 := by rw [w64_in (by omega) (by omega)]
        refine .inl ⟨(8 * (i : Int) - 8, s ++ [(shr64 c (8 * i)).toUInt8]), ((i : Int) - 1, m ++ s ++ [(shr64 c (8 * i)).toUInt8]), ?_, ?_, ⟨i, by omega, rfl, rfl, by simp, by simp; omega⟩, ?_⟩
        · simp only [L100_5, L100_5c, d1, decide_true, cond_true, n1, Option.bind_some, gapp_ok (show s.length + [(shr64 c (8 * i)).toUInt8].length ≤ 1099511627776 by simp; omega), w1]
        · simp only [L101_4, L101_4c, d2, decide_true, cond_true, w0, n1, Option.bind_some, gapp_ok (show (m ++ s).length + [(shr64 c (8 * i)).toUInt8].length ≤ 1099511627776 by simp; omega), w2]
        · simp only; omega) F F ((56 : Int), p) ((7 : Int), m ++ p) ⟨8, by omega, by omega, by omega, rfl, rfl⟩ (by simp only; omega) (by simp only; omega)
  subst b3
  exact ⟨r, b4, b1, b2⟩

theorem outs {F : Nat} (hF : 300 < F) (h : Vector UInt32 8) : ∃ d : List UInt8, d.length = 32 ∧ iter (fun s : Int × List UInt8 => L100_6 F h s.1 s.2) F ((0 : Int), ([] : List UInt8)) = some d ∧ iter (fun s : Int × List UInt8 => L87_4 F h s.1 s.2) F ((0 : Int), ([] : List UInt8)) = some d := by
  obtain ⟨r, r', b1, b2, b3, b4⟩ := iter2 (f := fun s : Int × List UInt8 => L100_6 F h s.1 s.2) (g := fun s : Int × List UInt8 => L87_4 F h s.1 s.2)
    (fun s t => s = t ∧ ∃ i : Nat, s.1 = i ∧ i ≤ 8 ∧ s.2.length = 4 * i) (fun r r' => r' = r ∧ r.length = 32) (fun s => 8 - s.1.toNat) (by
      rintro ⟨a, s⟩ t ⟨rfl, i, hi, h8, hl⟩
      simp only at hi hl
      subst hi
      by_cases hlt : i < 8
      · have h1 : (((i : Nat) : Int) < 8) := by omega
        have e3 : w64 (((i : Nat) : Int) + 1) = ((i + 1 : Nat) : Int) := by rw [w64_in (by omega) (by omega)]; omega
        have n : inb 8 ((i : Nat) : Int) = some i := inb_nat hlt
        have ga : gapp s [((shr32 h[i] ((UInt64.ofNat 24).toNat)).toUInt8), ((shr32 h[i] ((UInt64.ofNat 16).toNat)).toUInt8), ((shr32 h[i] ((UInt64.ofNat 8).toNat)).toUInt8), (h[i].toUInt8)] = some (s ++ [((shr32 h[i] ((UInt64.ofNat 24).toNat)).toUInt8), ((shr32 h[i] ((UInt64.ofNat 16).toNat)).toUInt8), ((shr32 h[i] ((UInt64.ofNat 8).toNat)).toUInt8), (h[i].toUInt8)]) := gapp_ok (by simp [hl]; omega)
        refine .inl ⟨(((i + 1 : Nat) : Int), s ++ [((shr32 h[i] ((UInt64.ofNat 24).toNat)).toUInt8), ((shr32 h[i] ((UInt64.ofNat 16).toNat)).toUInt8), ((shr32 h[i] ((UInt64.ofNat 8).toNat)).toUInt8), (h[i].toUInt8)]), (((i + 1 : Nat) : Int), s ++ [((shr32 h[i] ((UInt64.ofNat 24).toNat)).toUInt8), ((shr32 h[i] ((UInt64.ofNat 16).toNat)).toUInt8), ((shr32 h[i] ((UInt64.ofNat 8).toNat)).toUInt8), (h[i].toUInt8)]), ?_, ?_, ⟨rfl, i + 1, rfl, by omega, ?_⟩, by simp only [Int.toNat_natCast]; omega⟩
        · simp only [L100_6, L100_6c, h1, decide_true, cond_true, vix_nat (v := h) hlt, Option.bind_some, ga, e3]
        · simp only [L87_4, L87_4c, h1, decide_true, cond_true, n, vat_nat (v := h) hlt, Option.bind_some, ga, e3]
        · simp [hl]; omega
      · obtain rfl : i = 8 := by omega
        exact .inr ⟨s, s, rfl, rfl, rfl, hl⟩) F F ((0 : Int), ([] : List UInt8)) ((0 : Int), ([] : List UInt8)) ⟨rfl, 0, rfl, by omega, rfl⟩ (by simp only [Int.toNat_zero]; omega) (by simp only [Int.toNat_zero]; omega)
  subst b3
  exact ⟨r', b4, b1, b2⟩

theorem lp68 {F : Nat} (hF : 100 < F) {M : List UInt8} {K : Nat} (hM : M.length = 64 * K) (hb : M.length < 2000000000) : ∀ (j fuel k : Nat), k + j = K → j < fuel →
    iter (fun s : Int × Vector UInt32 8 => L87_3 F M s.1 s.2) fuel (((64 * k : Nat) : Int), hN F k M) = some (hN F K M)
  | j, 0, k, hk, hf => absurd hf (by omega)
  | 0, fuel + 1, k, hk, hf => by
    have h1 : ¬ (((64 * k : Nat) : Int) < (M.length : Int)) := by omega
    obtain rfl : k = K := by omega
    have step : L87_3 F M ((64 * k : Nat) : Int) (hN F k M) = some (.inr (hN F k M)) := by
      simp only [L87_3, L87_3c, h1, decide_false, cond_false]
    exact it_out (f := fun s : Int × Vector UInt32 8 => L87_3 F M s.1 s.2) (s := (((64 * k : Nat) : Int), hN F k M)) step
  | j + 1, fuel + 1, k, hk, hf => by
    have h1 : (((64 * k : Nat) : Int) < (M.length : Int)) := by omega
    have w : w64 (((64 * k : Nat) : Int) + 64) = ((64 * (k + 1) : Nat) : Int) := by rw [w64_in (by omega) (by omega)]; omega
    have g : gslb M.length ((64 * k : Nat) : Int) ((64 * (k + 1) : Nat) : Int) = some (64 * k, 64 * (k + 1)) := gslb_nat (by omega) (by omega)
    have e : 64 * (k + 1) - 64 * k = 64 := by omega
    have step : L87_3 F M ((64 * k : Nat) : Int) (hN F k M) = some (.inl (((64 * (k + 1) : Nat) : Int), hN F (k + 1) M)) := by
      simp only [L87_3, L87_3c, h1, decide_true, cond_true, w, g, Option.bind_some, e, b85 hF (show ((M.drop (64 * k)).take 64).length = 64 by simp; omega), hN]
    refine (it_again (f := fun s : Int × Vector UInt32 8 => L87_3 F M s.1 s.2) (s := (((64 * k : Nat) : Int), hN F k M)) step).trans ?_
    exact lp68 hF hM hb j fuel (k + 1) (by omega) (by omega)

/-- The sum of a state is the reference's sum of its bytes. -/
theorem sum_eq {F : Nat} {m : List UInt8} {h : Vector UInt32 8} {b : Vector UInt8 64} {n : Int} (hF : 400 + m.length < F) (hb : m.length < 100000000) (hI : Inv F m h b n) :
    ∃ d, T100 F (h, b, n, ()) = some d ∧ T87 F m = some d ∧ d.length = 32 := by
  have hn := hI.len
  subst hn
  obtain ⟨p, p1, p2, p3, p4, p5⟩ := padz (F := F) (m := m) (by omega) (by omega) h b
  obtain ⟨q, q1, q2, q3⟩ := padc (F := F) (m := m) (p := p) (by omega) (by omega) p1 ((UInt64.ofInt (m.length : Int)) * (UInt64.ofNat 8))
  obtain ⟨h', b', n', t1, t2⟩ := t82 (x := q) (by omega) (by omega) hI
  obtain ⟨d, d1, d2, d3⟩ := outs (F := F) (by omega) h'
  have g0 : gmake (0 : UInt8) (0 : Int) (32 : Int) = some [] := by decide +kernel
  have hl : (m ++ q).length = m.length + q.length := by simp
  have hK : (m ++ q).length = 64 * ((m ++ q).length / 64) := by omega
  have l := lp68 (F := F) (by omega) hK (by omega) ((m ++ q).length / 64) F 0 (by omega) (by omega)
  rw [← t2.words] at l
  refine ⟨d, ?_, ?_, d1⟩
  · simp only [T100, T100c, p4, Option.bind_some, q2, t1, g0, d2]
  · have ga : gapp ([] : List UInt8) m = some m := by rw [gapp_ok (by simp; omega)]; rfl
    have gb : gapp m [UInt8.ofNat 128] = some (m ++ [UInt8.ofNat 128]) := gapp_ok (by simp; omega)
    have h84 : T101 F m = some (m ++ q) := by
      simp only [T101, T101c, ga, gb, Option.bind_some, p5, q3]
    simp only [T87, T87c, h84, Option.bind_some]
    refine Eq.trans (congrArg (fun o => Option.bind o _) l) ?_
    simp only [Option.bind_some, d3]

theorem inv0 (F : Nat) : Inv F [] gv1 (Vector.replicate 64 (0 : UInt8)) 0 := ⟨rfl, rfl, rfl⟩

theorem t79 {F : Nat} {ls : List (List UInt8)} (hF : 400 + ls.flatten.length + ls.length < F) (hb : ls.flatten.length < 100000000) (hl : ls.length < 1000) : ∃ d, T96 F ls = some d ∧ T87 F ls.flatten = some d ∧ d.length = 32 := by
  obtain ⟨r, b1, b2⟩ := iter1 (f := fun s : Int × Vector UInt32 8 × Vector UInt8 64 × Int => L96_2 F ls (ls.length : Int) s.1 s.2.1 s.2.2.1 s.2.2.2)
    (fun s => ∃ i : Nat, s.1 = i ∧ i ≤ ls.length ∧ Inv F (ls.take i).flatten s.2.1 s.2.2.1 s.2.2.2) (fun r => Inv F ls.flatten r.1 r.2.1 r.2.2) (fun s => ls.length - s.1.toNat) (by
      rintro ⟨a, h, b, n⟩ ⟨i, hi, hil, hI⟩
      simp only at hi hI
      subst hi
      by_cases hlt : i < ls.length
      · have h1 : (((i : Nat) : Int) < (ls.length : Int)) := by omega
        have e3 : w64 (((i : Nat) : Int) + 1) = ((i + 1 : Nat) : Int) := by rw [w64_in (by omega) (by omega)]; omega
        have hs : (ls.take (i + 1)).flatten = (ls.take i).flatten ++ ls[i] := by
          rw [List.take_succ_eq_append_getElem hlt, List.flatten_append]; simp
        have hle : (ls.take (i + 1)).flatten.length ≤ ls.flatten.length := by
          conv => rhs; rw [← List.take_append_drop (i + 1) ls, List.flatten_append, List.length_append]
          omega
        rw [hs, List.length_append] at hle
        have gs : gstr ls[i] = some ls[i] := by unfold gstr; rw [if_pos (by omega)]
        obtain ⟨h', b', n', t1, t2⟩ := t82 (x := ls[i]) (by omega) (by omega) hI
        refine .inl ⟨(((i + 1 : Nat) : Int), h', b', n'), ?_, ⟨i + 1, rfl, by omega, ?_⟩, by simp only [Int.toNat_natCast]; omega⟩
        · simp only [L96_2, L96_2c, h1, decide_true, cond_true, ix_nat hlt, Option.bind_some, gs, t1, e3]
        · rw [hs]; exact t2
      · obtain rfl : i = ls.length := by omega
        have h1 : ¬ (((ls.length : Nat) : Int) < (ls.length : Int)) := by omega
        rw [List.take_length] at hI
        refine .inr ⟨(h, b, n), ?_, hI⟩
        simp only [L96_2, L96_2c, h1, decide_false, cond_false]) F ((0 : Int), gv1, Vector.replicate 64 (0 : UInt8), (0 : Int)) ⟨0, rfl, by omega, inv0 F⟩ (by simp only [Int.toNat_zero]; omega)
  obtain ⟨d, d1, d2, d3⟩ := sum_eq (by omega) hb b2
  refine ⟨d, ?_, d2, d3⟩
  simp only [T96, T96c, T98, T98c, Option.bind_some, b1, d1]

/-- The keys of hmac. -/
def xk (k : List UInt8) (x : UInt8) : List UInt8 := (k ++ List.replicate (64 - k.length) 0).map (fun y => y ^^^ x)
theorem xk_len {k : List UInt8} (h : k.length ≤ 64) (x : UInt8) : (xk k x).length = 64 := by simp [xk]; omega

theorem t80 {F : Nat} (hF : 400 < F) (x : UInt8) (v : Vector UInt8 64) : ∃ r, T97 F x v = some r ∧ r.toList = v.toList.map (fun y => y ^^^ x) := by
  obtain ⟨r, b1, b2⟩ := iter1 (f := fun s : Int × Vector UInt8 64 => L97_2 F x v s.1 s.2)
    (fun s => ∃ i : Nat, s.1 = i ∧ i ≤ 64 ∧ ∀ j (hj : j < 64), j < i → s.2[j] = v[j] ^^^ x) (fun r => r.toList = v.toList.map (fun y => y ^^^ x)) (fun s => 64 - s.1.toNat) (by
      rintro ⟨a, u⟩ ⟨i, hi, h64, hu⟩
      simp only at hi hu
      subst hi
      by_cases h : i < 64
      · have h1 : (((i : Nat) : Int) < 64) := by omega
        have e3 : w64 (((i : Nat) : Int) + 1) = ((i + 1 : Nat) : Int) := by rw [w64_in (by omega) (by omega)]; omega
        have n : inb 64 ((i : Nat) : Int) = some i := inb_nat h
        refine .inl ⟨(((i + 1 : Nat) : Int), u.setIfInBounds i (v[i] ^^^ x)), ?_, ⟨i + 1, rfl, by omega, fun j hj hji => ?_⟩, by simp only [Int.toNat_natCast]; omega⟩
        · simp only [L97_2, L97_2c, h1, decide_true, cond_true, vix_nat (v := v) h, n, Option.bind_some, e3]
        · simp only [Vector.getElem_setIfInBounds]
          by_cases e : i = j
          · subst e; simp only [if_true]
          · rw [if_neg e]; exact hu j hj (by omega)
      · obtain rfl : i = 64 := by omega
        refine .inr ⟨u, rfl, ?_⟩
        apply List.ext_getElem (by simp)
        intro j h1 h2
        simp only [Vector.getElem_toList, List.getElem_map]
        have hj : j < 64 := by simpa using h1
        exact hu j hj hj) F ((0 : Int), Vector.replicate 64 (0 : UInt8)) ⟨0, rfl, by omega, fun j hj h0 => absurd h0 (by omega)⟩ (by simp only [Int.toNat_zero]; omega)
  exact ⟨r, by simp only [T97, T97c, b1, Option.bind_some], b2⟩

theorem filled {k : List UInt8} (h : k.length ≤ 64) : (vspl (Vector.replicate 64 (0 : UInt8)) 0 k k.length).toList = k ++ List.replicate (64 - k.length) 0 := by
  rw [vspl_toList (by omega) (Nat.le_refl _), Vector.toList_replicate]
  simp only [splice, List.take_zero, List.nil_append, List.take_length, Nat.zero_add, List.drop_replicate]

theorem t69 {F : Nat} (hF : 400 < F) {k : List UInt8} (hk : k.length ≤ 64) (x : UInt8) : T88 F k x = some (xk k x) := by
  obtain ⟨r, b1, b2⟩ := iter1 (f := fun s : Int × List UInt8 => L88_2 F k x s.1 s.2)
    (fun s => ∃ i : Nat, s.1 = i ∧ i ≤ 64 ∧ s.2 = (xk k x).take i) (fun r => r = xk k x) (fun s => 64 - s.1.toNat) (by
      rintro ⟨a, u⟩ ⟨i, hi, h64, hu⟩
      simp only at hi hu
      subst hi hu
      have xl := xk_len hk x
      by_cases h : i < 64
      · have h1 : (((i : Nat) : Int) < 64) := by omega
        have e3 : w64 (((i : Nat) : Int) + 1) = ((i + 1 : Nat) : Int) := by rw [w64_in (by omega) (by omega)]; omega
        have hs : (xk k x).take (i + 1) = (xk k x).take i ++ [(xk k x)[i]] := List.take_succ_eq_append_getElem (by omega)
        have ga : gapp ((xk k x).take i) [(xk k x)[i]] = some ((xk k x).take (i + 1)) := by rw [gapp_ok (by simp; omega), hs]
        refine .inl ⟨(((i + 1 : Nat) : Int), (xk k x).take (i + 1)), ?_, ⟨i + 1, rfl, by omega, rfl⟩, by simp only [Int.toNat_natCast]; omega⟩
        by_cases hik : i < k.length
        · have h2 : (((i : Nat) : Int) < (k.length : Int)) := by omega
          have hx : (xk k x)[i] = k[i] ^^^ x := by simp [xk, List.getElem_append, hik]
          rw [hx] at ga
          simp only [L88_2, L88_2c, h1, h2, decide_true, cond_true, ix_nat hik, Option.bind_some, ga, e3]
        · have h2 : ¬ (((i : Nat) : Int) < (k.length : Int)) := by omega
          have hx : (xk k x)[i] = (UInt8.ofNat 0) ^^^ x := by simp [xk, List.getElem_append, hik]
          rw [hx] at ga
          simp only [L88_2, L88_2c, h1, h2, decide_true, decide_false, cond_true, cond_false, Option.bind_some, ga, e3]
      · obtain rfl : i = 64 := by omega
        exact .inr ⟨(xk k x).take 64, rfl, List.take_of_length_le (by omega)⟩) F ((0 : Int), ([] : List UInt8)) ⟨0, rfl, by omega, by simp⟩ (by simp only [Int.toNat_zero]; omega)
  subst b2
  simp only [T88, T88c, b1, Option.bind_some]

/-- The state after the key. -/
theorem start65 {F : Nat} (hF : 2000 < F) {k : List UInt8} (hk : k.length ≤ 64) : ∃ o i h b n, T97 F 92 (vspl (Vector.replicate 64 (0 : UInt8)) 0 k (Nat.min k.length (64 - 0))) = some o ∧ T97 F 54 (vspl (Vector.replicate 64 (0 : UInt8)) 0 k (Nat.min k.length (64 - 0))) = some i ∧
    T99x1 F ((i.toList.drop 0).take (64 - 0)) gv1 (Vector.replicate 64 (0 : UInt8)) 0 = some (h, b, n) ∧ Inv F (xk k 54) h b n ∧ o.toList = xk k 92 := by
  have hmin : Nat.min k.length (64 - 0) = k.length := Nat.min_eq_left (by omega)
  rw [hmin]
  obtain ⟨o, o1, o2⟩ := t80 (F := F) (by omega) 92 (vspl (Vector.replicate 64 (0 : UInt8)) 0 k k.length)
  obtain ⟨i, i1, i2⟩ := t80 (F := F) (by omega) 54 (vspl (Vector.replicate 64 (0 : UInt8)) 0 k k.length)
  rw [filled hk] at o2 i2
  have xl := xk_len hk 54
  obtain ⟨h, b, n, t1, t2⟩ := t82 (F := F) (m := []) (x := xk k 54) (by simp only [List.length_nil]; omega) (by simp only [List.length_nil]; omega) (inv0 F)
  rw [List.nil_append] at t2
  refine ⟨o, i, h, b, n, o1, i1, ?_, t2, o2⟩
  rw [i2, x82_eq]
  have e : (((k ++ List.replicate (64 - k.length) 0).map (fun y => y ^^^ (54 : UInt8))).drop 0).take (64 - 0) = xk k 54 := by
    rw [List.drop_zero, List.take_of_length_le (by simp; omega)]; rfl
  rw [e, t1]

theorem v0_0 : vix gv0 (0 : Int) = some 54 := rfl
theorem v0_1 : vix gv0 (1 : Int) = some 92 := rfl

/-- Tags. -/
theorem tag_eq {F : Nat} {k d : List UInt8} (hF : 2000 + k.length + d.length < F) (hk : k.length < 10000000) (hd : d.length < 10000000) : ∃ t, T86 F k d = some t ∧ T66 F k d = some t ∧ t.length = 32 := by
  have g0 : gslb 64 (0 : Int) ((64 : Nat) : Int) = some (0, 64) := gslb_nat (a := 0) (by omega) (by omega)
  have key : ∀ k' : List UInt8, k'.length ≤ 64 → ∃ h b n o t inner, (T97 F 92 (vspl (Vector.replicate 64 (0 : UInt8)) 0 k' (Nat.min k'.length (64 - 0))) = some o ∧ ∃ i, T97 F 54 (vspl (Vector.replicate 64 (0 : UInt8)) 0 k' (Nat.min k'.length (64 - 0))) = some i ∧
      T99x1 F ((i.toList.drop 0).take (64 - 0)) gv1 (Vector.replicate 64 (0 : UInt8)) 0 = some (h, b, n)) ∧ (∃ z, T84 F d h b n = some z ∧ T85 F z.1 z.2.1 z.2.2 o = some t) ∧
      T87 F (xk k' 54 ++ d) = some inner ∧ inner.length = 32 ∧ T87 F (xk k' 92 ++ inner) = some t ∧ t.length = 32 := by
    intro k' hk'
    obtain ⟨o, i, h, b, n, o1, i1, s1, s2, s3⟩ := start65 (F := F) (by omega) hk'
    have xl := xk_len hk' 54
    have xl2 := xk_len hk' 92
    obtain ⟨h2, b2, n2, u1, u2⟩ := t82 (F := F) (x := d) (by omega) (by omega) s2
    obtain ⟨inner, v1, v2, v3⟩ := sum_eq (F := F) (by simp only [List.length_append]; omega) (by simp only [List.length_append]; omega) u2
    obtain ⟨t, w1, w2, w3⟩ := t79 (F := F) (ls := [xk k' 92, inner]) (by simp only [List.flatten_cons, List.flatten_nil, List.length_append, List.length_cons, List.length_nil]; omega) (by simp only [List.flatten_cons, List.flatten_nil, List.length_append, List.length_nil]; omega) (by simp)
    have hfl : [xk k' 92, inner].flatten = xk k' 92 ++ inner := by simp
    rw [hfl] at w2
    refine ⟨h, b, n, o, t, inner, ⟨o1, i, i1, s1⟩, ⟨(h2, b2, n2), ?_, ?_⟩, v2, v3, w2, w3⟩
    · simp only [T84, T84c, x82_eq, u1, Option.bind_some]
    · have e : (o.toList.drop 0).take (64 - 0) = xk k' 92 := by rw [s3, List.drop_zero, List.take_of_length_le (by omega)]
      simp only [T85, T85c, g0, Option.bind_some, v1, e, w1]
  by_cases hlong : 64 < k.length
  · have h1 : ((64 : Int) < (k.length : Int)) := by omega
    obtain ⟨k', a1, a2, a3⟩ := t79 (F := F) (ls := [k]) (by simp; omega) (by simp; omega) (by simp)
    have hfl : [k].flatten = k := by simp
    rw [hfl] at a2
    obtain ⟨h, b, n, o, t, inner, ⟨o1, i, i1, s1⟩, ⟨z, z1, z2⟩, c1, c2, c3, c4⟩ := key k' (by omega)
    have xl := xk_len (k := k') (by omega) 54
    have xl2 := xk_len (k := k') (by omega) 92
    have h65 : T83 F k = some (h, b, n, o) := by
      simp only [T83, T83c, h1, decide_true, cond_true, a1, Option.bind_some, g0, v0_0, v0_1, T98, T98c, o1, i1, s1]
    refine ⟨t, ?_, ?_, c4⟩
    · simp only [T86, T86c, h65, Option.bind_some, z1, z2]
    · have gs : gstr k = some k := by unfold gstr; rw [if_pos (by omega)]
      have gi : gstr inner = some inner := by unfold gstr; rw [if_pos (by omega)]
      have q1 : T88 F k' (UInt8.ofNat 54) = some (xk k' 54) := t69 (by omega) (by omega) _
      have q2 : T88 F k' (UInt8.ofNat 92) = some (xk k' 92) := t69 (by omega) (by omega) _
      simp only [T66, T66c, h1, decide_true, cond_true, gs, Option.bind_some, a2, q1, q2, gapp_ok (show (xk k' 54).length + d.length ≤ 1099511627776 by omega), c1, gi, gapp_ok (show (xk k' 92).length + inner.length ≤ 1099511627776 by omega), c3]
  · have h1 : ¬ ((64 : Int) < (k.length : Int)) := by omega
    obtain ⟨h, b, n, o, t, inner, ⟨o1, i, i1, s1⟩, ⟨z, z1, z2⟩, c1, c2, c3, c4⟩ := key k (by omega)
    have xl := xk_len (k := k) (by omega) 54
    have xl2 := xk_len (k := k) (by omega) 92
    have h65 : T83 F k = some (h, b, n, o) := by
      simp only [T83, T83c, h1, decide_false, cond_false, Option.bind_some, g0, v0_0, v0_1, T98, T98c, o1, i1, s1]
    refine ⟨t, ?_, ?_, c4⟩
    · simp only [T86, T86c, h65, Option.bind_some, z1, z2]
    · have gi : gstr inner = some inner := by unfold gstr; rw [if_pos (by omega)]
      have q1 : T88 F k (UInt8.ofNat 54) = some (xk k 54) := t69 (by omega) (by omega) _
      have q2 : T88 F k (UInt8.ofNat 92) = some (xk k 92) := t69 (by omega) (by omega) _
      simp only [T66, T66c, h1, decide_false, cond_false, Option.bind_some, q1, q2, gapp_ok (show (xk k 54).length + d.length ≤ 1099511627776 by omega), c1, gi, gapp_ok (show (xk k 92).length + inner.length ≤ 1099511627776 by omega), c3]
end Go.Proofs.YthikoaamigiceaaDoor
/- kinkeep/keyring.at: its twin, and that the call does what the twin says. Printed by a program. -/
namespace Go.Proofs.YthikoaamigiceaaDoor
open Go.Tw
set_option linter.unusedSimpArgs false
set_option linter.unusedVariables false
def ord34 : Nat → List (Tag × Nat)
  | _ => []
def al34 : Nat → Option Nat
  | _ => none
def ms34 : Nat → Option (List (Option Tag × Nat × List Nat))
  | _ => none
def E34 (F : Nat) : Ev := ⟨cfg, 13, ctOf [], ord34, ctOf [], al34, ms34⟩
theorem cts34 (F : Nat) : CtsOk Tryd.prog (E34 F) := cts_of (l := []) (l' := []) rfl rfl trivial trivial
def T34c (F : Nat) (p0 : List Int) (p1 : Int) {β : Type} (k : Int → Option β) : Option β :=
  (bif (decide (p1 < (p0.length : Int))) then (Option.bind (ix p0 p1) fun x2 => (k x2)) else (k (0 : Int)))
def T34 (F : Nat) (p0 : List Int) (p1 : Int) : Option (Int) := T34c F p0 p1 some
theorem T34n (F : Nat) (p0 : List Int) (p1 : Int) {β : Type} (k : Int → Option β) : T34c F p0 p1 k = (T34 F p0 p1).bind k := by
  simp only [T34, T34c, Option.bind_assoc, cond_bind, Option.bind_some, Option.bind_none, elimS_bind]
@[reducible] def cA34 : List Sh := [(.ro .i), .i]
@[reducible] def cB34 : List Sh := [.i]
@[reducible] def cT34 : List TSh := []
@[reducible] def cU34 : List TSh := []
def ct34 (F : Nat) : Ct := mkC 0 cA34 cT34 cB34 cU34 (fun x y => T34 F x.1 x.2.1) (fun x y (z : Int) => ((z, ()), ()))
theorem eq34 (F : Nat) (x : dens cA34) (y : tdens cT34) : sev (E34 F) 0 [] (bodyOf Tryd.f34) [] (mkSt (rng 2) cA34 cT34 x y) (kFn (E34 F) 0 Tryd.f34.results.toList cB34 cU34 fun p q => some (p, q)) =
    T34c F x.1 x.2.1 (fun z => some ((z, ()), ())) := by kernel_rfl
theorem ok34 (F : Nat) : Sound Tryd.prog cfg 34 (ct34 F) :=
  mkC_ok (E := E34 F) (lp := []) (code := bodyOf Tryd.f34) Tryd.func34 rfl Tryd.ntmps34 rfl rfl cok (cts34 F) mixed trivial (by kernel_rfl) (fun x y k => T34c F x.1 x.2.1 k) (fun x y k => T34n F x.1 x.2.1 k) (eq34 F)
end Go.Proofs.YthikoaamigiceaaDoor
/- kinkeep/keyring.Newer: its twin, and that the call does what the twin says. Printed by a program. -/
namespace Go.Proofs.YthikoaamigiceaaDoor
open Go.Tw
set_option linter.unusedSimpArgs false
set_option linter.unusedVariables false
def ord20 : Nat → List (Tag × Nat)
  | 6 => [(.p, 0), (.r, 1), (.p, 2), (.p, 4), (.c, 5), (.p, 6), (.w, 3), (.w, 7), (.p, 8)]
  | _ => []
def al20 : Nat → Option Nat
  | _ => none
def ms20 : Nat → Option (List (Option Tag × Nat × List Nat))
  | _ => none
def E20 (F : Nat) : Ev := ⟨cfg, 38, ctOf [(34, ct34 F)], ord20, ctOf [], al20, ms20⟩
theorem cts20 (F : Nat) : CtsOk Tryd.prog (E20 F) := cts_of (l := [(34, ct34 F)]) (l' := []) rfl rfl ⟨⟨ok34 F, _, Tryd.func34, rfl, rfl⟩, trivial⟩ trivial
def L20_2c (F : Nat) (y20 : Int) (y24 : List Int) (y30 : List Int) (y21 : Int) {β : Type} (kA : Int → Option β) (kO : Unit → Option β) (kR : Bool → Option β) : Option β :=
  (bif (decide (y21 < y20)) then (Option.bind (T34 F y30 y21) fun z36 => (Option.bind (T34 F y24 y21) fun z37 => (bif (decide (z37 < z36)) then (kR false) else (kA (w64 (y21 + (1 : Int))))))) else (kO ()))
def L20_2 (F : Nat) (y20 : Int) (y24 : List Int) (y30 : List Int) (y21 : Int) : Option ((Int) ⊕ ((Unit) ⊕ (Bool))) := L20_2c F y20 y24 y30 y21 (fun s => some (.inl s)) (fun z => some (.inr (.inl z))) (fun z => some (.inr (.inr z)))
theorem L20_2n (F : Nat) (y20 : Int) (y24 : List Int) (y30 : List Int) (y21 : Int) {β : Type} (kA : Int → Option β) (kO : Unit → Option β) (kR : Bool → Option β) : L20_2c F y20 y24 y30 y21 kA kO kR = (L20_2 F y20 y24 y30 y21).bind (elimS kA (elimS kO kR)) := by
  simp only [L20_2, L20_2c, Option.bind_assoc, cond_bind, Option.bind_some, Option.bind_none, elimS_l, elimS_r, elimS_bind]
@[reducible] def sA20_2 : List Sh := [(.pt 0 []), (.pt 1 []), .i, .i]
@[reducible] def sAp120_2 : List Sh := []
@[reducible] def sAp220_2 : List Sh := [.bo]
@[reducible] def sT20_2 : List TSh := [.blk 47 (.pr .i (.pr .i (.pr (.ro .i) (.pr (.ro (.pr .i (.pr .i (.pr .i (.pr (.pr .s (.pr .i (.pr .i .un))) (.pr .i (.pr .i (.pr .s (.pr .bo .un))))))))) (.pr (.ro (.pr .s (.pr .i (.pr .i (.pr .i (.pr .i (.pr (.sl (.pr .s (.pr .i (.pr .i .un)))) .un))))))) (.pr (.ro (.pr .s (.pr .i (.pr .i .un)))) .un)))))), .blk 47 (.pr .i (.pr .i (.pr (.ro .i) (.pr (.ro (.pr .i (.pr .i (.pr .i (.pr (.pr .s (.pr .i (.pr .i .un))) (.pr .i (.pr .i (.pr .s (.pr .bo .un))))))))) (.pr (.ro (.pr .s (.pr .i (.pr .i (.pr .i (.pr .i (.pr (.sl (.pr .s (.pr .i (.pr .i .un)))) .un))))))) (.pr (.ro (.pr .s (.pr .i (.pr .i .un)))) .un))))))]
@[reducible] def sTp120_2 : List TSh := []
@[reducible] def sTp220_2 : List TSh := []
def lc20_2 (F : Nat) : Lc := mkR [2, 3, 24, 25] sA20_2 sT20_2 [] sAp120_2 sTp120_2 [4] sAp220_2 sTp220_2 F (fun x y (s : Int) => L20_2 F x.2.2.1 y.1.2.2.1 y.2.1.2.2.1 s) (fun x y => x.2.2.2.1) (fun x y (z : Unit) => ((), ())) (fun x y (z : Bool) => ((z, ()), ()))
theorem le20_2 (F : Nat) (x : dens sA20_2) (y : tdens sT20_2) (s : Int) : sev (E20 F) 0 [] (cAt (bodyOf Tryd.f20) (0 :: 0 :: [1, 0, 1, 1])) (0 :: 0 :: [1, 0, 1, 1]) (mkSt [2, 3, 24, 25] sA20_2 sT20_2 ((), (), x.2.2.1, s, ()) ((y.1.1, y.1.2.1, y.1.2.2.1, y.1.2.2.2.1, y.1.2.2.2.2.1, y.1.2.2.2.2.2.1, ()), (y.2.1.1, y.2.1.2.1, y.2.1.2.2.1, y.2.1.2.2.2.1, y.2.1.2.2.2.2.1, y.2.1.2.2.2.2.2.1, ()), ())) (kLoop 0 [2, 3, 24, 25] sA20_2 sT20_2 [] sAp120_2 sTp120_2 [4] sAp220_2 sTp220_2 0 (fun x y => some (.inl (x, y))) (fun x y => some (.inr (.inl (x, y)))) (fun x y => some (.inr (.inr (x, y))))) =
    L20_2c (β := Full sA20_2 sT20_2 sAp120_2 sTp120_2 sAp220_2 sTp220_2) F x.2.2.1 y.1.2.2.1 y.2.1.2.2.1 s (fun s => some (.inl (((), (), x.2.2.1, s, ()), ((y.1.1, y.1.2.1, y.1.2.2.1, y.1.2.2.2.1, y.1.2.2.2.2.1, y.1.2.2.2.2.2.1, ()), (y.2.1.1, y.2.1.2.1, y.2.1.2.2.1, y.2.1.2.2.2.1, y.2.1.2.2.2.2.1, y.2.1.2.2.2.2.2.1, ()), ())))) (fun z => some (.inr (.inl ((), ())))) (fun z => some (.inr (.inr ((z, ()), ())))) := by kernel_rfl
theorem lo20_2 (F : Nat) : LcOk Tryd.prog (E20 F) 0 (lc20_2 F) (cAt (bodyOf Tryd.f20) [1, 0, 1, 1]) :=
  mkR_ok (lp := []) (id := 0) (b := cAt (bodyOf Tryd.f20) (0 :: 0 :: [1, 0, 1, 1])) cok (cts20 F) mixed trivial (by kernel_rfl) (by kernel_rfl) (fun x y s => ((), (), x.2.2.1, s, ())) (fun x y s => ((y.1.1, y.1.2.1, y.1.2.2.1, y.1.2.2.2.1, y.1.2.2.2.2.1, y.1.2.2.2.2.2.1, ()), (y.2.1.1, y.2.1.2.1, y.2.1.2.2.1, y.2.1.2.2.2.1, y.2.1.2.2.2.2.1, y.2.1.2.2.2.2.2.1, ()), ())) (fun x y => rfl) (fun x y => rfl) (fun x y s kA kO kR => L20_2c F x.2.2.1 y.1.2.2.1 y.2.1.2.2.1 s kA kO kR) (fun x y s kA kO kR => L20_2n F x.2.2.1 y.1.2.2.1 y.2.1.2.2.1 s kA kO kR) (le20_2 F)
def T20c (F : Nat) (p0 : Int) (p1 : Int) (p2 : List Int) (p6 : Int) (p7 : Int) (p8 : List Int) {β : Type} (k : Bool → Option β) : Option β :=
  (bif (p0 != p6) then (k false) else (bif (decide (p1 < p7)) then (k false) else (Option.bind (iter (fun s => L20_2 F (if (p2.length : Int) < (p8.length : Int) then (p8.length : Int) else (p2.length : Int)) p2 p8 s) F (0 : Int)) fun z38 => elimS (fun z38 => (k true)) (fun z38 => (k z38)) z38)))
def T20 (F : Nat) (p0 : Int) (p1 : Int) (p2 : List Int) (p6 : Int) (p7 : Int) (p8 : List Int) : Option (Bool) := T20c F p0 p1 p2 p6 p7 p8 some
theorem T20n (F : Nat) (p0 : Int) (p1 : Int) (p2 : List Int) (p6 : Int) (p7 : Int) (p8 : List Int) {β : Type} (k : Bool → Option β) : T20c F p0 p1 p2 p6 p7 p8 k = (T20 F p0 p1 p2 p6 p7 p8).bind k := by
  simp only [T20, T20c, Option.bind_assoc, cond_bind, Option.bind_some, Option.bind_none, elimS_bind]
@[reducible] def cA20 : List Sh := [(.pr .i (.pr .i (.pr (.ro .i) (.pr (.ro (.pr .i (.pr .i (.pr .i (.pr (.pr .s (.pr .i (.pr .i .un))) (.pr .i (.pr .i (.pr .s (.pr .bo .un))))))))) (.pr (.ro (.pr .s (.pr .i (.pr .i (.pr .i (.pr .i (.pr (.sl (.pr .s (.pr .i (.pr .i .un)))) .un))))))) (.pr (.ro (.pr .s (.pr .i (.pr .i .un)))) .un)))))), (.pr .i (.pr .i (.pr (.ro .i) (.pr (.ro (.pr .i (.pr .i (.pr .i (.pr (.pr .s (.pr .i (.pr .i .un))) (.pr .i (.pr .i (.pr .s (.pr .bo .un))))))))) (.pr (.ro (.pr .s (.pr .i (.pr .i (.pr .i (.pr .i (.pr (.sl (.pr .s (.pr .i (.pr .i .un)))) .un))))))) (.pr (.ro (.pr .s (.pr .i (.pr .i .un)))) .un))))))]
@[reducible] def cB20 : List Sh := [.bo]
@[reducible] def cT20 : List TSh := []
@[reducible] def cU20 : List TSh := []
def ct20 (F : Nat) : Ct := mkC 0 cA20 cT20 cB20 cU20 (fun x y => T20 F x.1.1 x.1.2.1 x.1.2.2.1 x.2.1.1 x.2.1.2.1 x.2.1.2.2.1) (fun x y (z : Bool) => ((z, ()), ()))
theorem eq20 (F : Nat) (x : dens cA20) (y : tdens cT20) : sev (E20 F) 0 [([1, 0, 1, 1], lc20_2 F)] (bodyOf Tryd.f20) [] (mkSt (rng 2) cA20 cT20 x y) (kFn (E20 F) 0 Tryd.f20.results.toList cB20 cU20 fun p q => some (p, q)) =
    T20c F x.1.1 x.1.2.1 x.1.2.2.1 x.2.1.1 x.2.1.2.1 x.2.1.2.2.1 (fun z => some ((z, ()), ())) := by kernel_rfl
theorem ok20 (F : Nat) : Sound Tryd.prog cfg 20 (ct20 F) :=
  mkC_ok (E := E20 F) (lp := [([1, 0, 1, 1], lc20_2 F)]) (code := bodyOf Tryd.f20) Tryd.func20 rfl Tryd.ntmps20 rfl rfl cok (cts20 F) mixed ⟨lo20_2 F, trivial⟩ (by kernel_rfl) (fun x y k => T20c F x.1.1 x.1.2.1 x.1.2.2.1 x.2.1.1 x.2.1.2.1 x.2.1.2.2.1 k) (fun x y k => T20n F x.1.1 x.1.2.1 x.1.2.2.1 x.2.1.1 x.2.1.2.1 x.2.1.2.2.1 k) (eq20 F)
end Go.Proofs.YthikoaamigiceaaDoor
/- kinkeep/kinkeepref31.at: its twin, and that the call does what the twin says. Printed by a program. -/
namespace Go.Proofs.YthikoaamigiceaaDoor
open Go.Tw
set_option linter.unusedSimpArgs false
set_option linter.unusedVariables false
def ord35 : Nat → List (Tag × Nat)
  | _ => []
def al35 : Nat → Option Nat
  | _ => none
def ms35 : Nat → Option (List (Option Tag × Nat × List Nat))
  | _ => none
def E35 (F : Nat) : Ev := ⟨cfg, 13, ctOf [], ord35, ctOf [], al35, ms35⟩
theorem cts35 (F : Nat) : CtsOk Tryd.prog (E35 F) := cts_of (l := []) (l' := []) rfl rfl trivial trivial
def T35c (F : Nat) (p0 : List Int) (p1 : Int) {β : Type} (k : Int → Option β) : Option β :=
  (bif (decide (p1 < (p0.length : Int))) then (Option.bind (ix p0 p1) fun x2 => (k x2)) else (k (0 : Int)))
def T35 (F : Nat) (p0 : List Int) (p1 : Int) : Option (Int) := T35c F p0 p1 some
theorem T35n (F : Nat) (p0 : List Int) (p1 : Int) {β : Type} (k : Int → Option β) : T35c F p0 p1 k = (T35 F p0 p1).bind k := by
  simp only [T35, T35c, Option.bind_assoc, cond_bind, Option.bind_some, Option.bind_none, elimS_bind]
@[reducible] def cA35 : List Sh := [(.ro .i), .i]
@[reducible] def cB35 : List Sh := [.i]
@[reducible] def cT35 : List TSh := []
@[reducible] def cU35 : List TSh := []
def ct35 (F : Nat) : Ct := mkC 0 cA35 cT35 cB35 cU35 (fun x y => T35 F x.1 x.2.1) (fun x y (z : Int) => ((z, ()), ()))
theorem eq35 (F : Nat) (x : dens cA35) (y : tdens cT35) : sev (E35 F) 0 [] (bodyOf Tryd.f35) [] (mkSt (rng 2) cA35 cT35 x y) (kFn (E35 F) 0 Tryd.f35.results.toList cB35 cU35 fun p q => some (p, q)) =
    T35c F x.1 x.2.1 (fun z => some ((z, ()), ())) := by kernel_rfl
theorem ok35 (F : Nat) : Sound Tryd.prog cfg 35 (ct35 F) :=
  mkC_ok (E := E35 F) (lp := []) (code := bodyOf Tryd.f35) Tryd.func35 rfl Tryd.ntmps35 rfl rfl cok (cts35 F) mixed trivial (by kernel_rfl) (fun x y k => T35c F x.1 x.2.1 k) (fun x y k => T35n F x.1 x.2.1 k) (eq35 F)
end Go.Proofs.YthikoaamigiceaaDoor
/- kinkeep/kinkeepref31.Newer: its twin, and that the call does what the twin says. Printed by a program. -/
namespace Go.Proofs.YthikoaamigiceaaDoor
open Go.Tw
set_option linter.unusedSimpArgs false
set_option linter.unusedVariables false
def ord21 : Nat → List (Tag × Nat)
  | 6 => [(.p, 0), (.r, 1), (.p, 2), (.p, 4), (.c, 5), (.p, 6), (.w, 3), (.w, 7), (.p, 8)]
  | _ => []
def al21 : Nat → Option Nat
  | _ => none
def ms21 : Nat → Option (List (Option Tag × Nat × List Nat))
  | _ => none
def E21 (F : Nat) : Ev := ⟨cfg, 41, ctOf [(35, ct35 F)], ord21, ctOf [], al21, ms21⟩
theorem cts21 (F : Nat) : CtsOk Tryd.prog (E21 F) := cts_of (l := [(35, ct35 F)]) (l' := []) rfl rfl ⟨⟨ok35 F, _, Tryd.func35, rfl, rfl⟩, trivial⟩ trivial
def L21_2c (F : Nat) (y26 : List Int) (y32 : List Int) (y23 : Int) {β : Type} (kA : Int → Option β) (kO : Unit → Option β) (kR : Bool → Option β) : Option β :=
  (bif (decide (y23 < (y26.length : Int))) then (Option.bind (T35 F y32 y23) fun z40 => (Option.bind (T35 F y26 y23) fun z41 => (bif (decide (z41 < z40)) then (kR false) else (kA (w64 (y23 + (1 : Int))))))) else (bif (decide (y23 < (y32.length : Int))) then (Option.bind (T35 F y32 y23) fun z42 => (Option.bind (T35 F y26 y23) fun z43 => (bif (decide (z43 < z42)) then (kR false) else (kA (w64 (y23 + (1 : Int))))))) else (kO ())))
def L21_2 (F : Nat) (y26 : List Int) (y32 : List Int) (y23 : Int) : Option ((Int) ⊕ ((Unit) ⊕ (Bool))) := L21_2c F y26 y32 y23 (fun s => some (.inl s)) (fun z => some (.inr (.inl z))) (fun z => some (.inr (.inr z)))
theorem L21_2n (F : Nat) (y26 : List Int) (y32 : List Int) (y23 : Int) {β : Type} (kA : Int → Option β) (kO : Unit → Option β) (kR : Bool → Option β) : L21_2c F y26 y32 y23 kA kO kR = (L21_2 F y26 y32 y23).bind (elimS kA (elimS kO kR)) := by
  simp only [L21_2, L21_2c, Option.bind_assoc, cond_bind, Option.bind_some, Option.bind_none, elimS_l, elimS_r, elimS_bind]
@[reducible] def sA21_2 : List Sh := [(.pt 0 []), (.pt 1 []), .i]
@[reducible] def sAp121_2 : List Sh := []
@[reducible] def sAp221_2 : List Sh := [.bo]
@[reducible] def sT21_2 : List TSh := [.blk 47 (.pr .i (.pr .i (.pr (.ro .i) (.pr (.ro (.pr .i (.pr .i (.pr .i (.pr (.pr .s (.pr .i (.pr .i .un))) (.pr .i (.pr .i (.pr .s (.pr .bo .un))))))))) (.pr (.ro (.pr .s (.pr .i (.pr .i (.pr .i (.pr .i (.pr (.sl (.pr .s (.pr .i (.pr .i .un)))) .un))))))) (.pr (.ro (.pr .s (.pr .i (.pr .i .un)))) .un)))))), .blk 47 (.pr .i (.pr .i (.pr (.ro .i) (.pr (.ro (.pr .i (.pr .i (.pr .i (.pr (.pr .s (.pr .i (.pr .i .un))) (.pr .i (.pr .i (.pr .s (.pr .bo .un))))))))) (.pr (.ro (.pr .s (.pr .i (.pr .i (.pr .i (.pr .i (.pr (.sl (.pr .s (.pr .i (.pr .i .un)))) .un))))))) (.pr (.ro (.pr .s (.pr .i (.pr .i .un)))) .un))))))]
@[reducible] def sTp121_2 : List TSh := []
@[reducible] def sTp221_2 : List TSh := []
def lc21_2 (F : Nat) : Lc := mkR [2, 3, 5] sA21_2 sT21_2 [] sAp121_2 sTp121_2 [4] sAp221_2 sTp221_2 F (fun x y (s : Int) => L21_2 F y.1.2.2.1 y.2.1.2.2.1 s) (fun x y => x.2.2.1) (fun x y (z : Unit) => ((), ())) (fun x y (z : Bool) => ((z, ()), ()))
theorem le21_2 (F : Nat) (x : dens sA21_2) (y : tdens sT21_2) (s : Int) : sev (E21 F) 0 [] (cAt (bodyOf Tryd.f21) (0 :: 0 :: [1, 0, 1, 1])) (0 :: 0 :: [1, 0, 1, 1]) (mkSt [2, 3, 5] sA21_2 sT21_2 ((), (), s, ()) ((y.1.1, y.1.2.1, y.1.2.2.1, y.1.2.2.2.1, y.1.2.2.2.2.1, y.1.2.2.2.2.2.1, ()), (y.2.1.1, y.2.1.2.1, y.2.1.2.2.1, y.2.1.2.2.2.1, y.2.1.2.2.2.2.1, y.2.1.2.2.2.2.2.1, ()), ())) (kLoop 0 [2, 3, 5] sA21_2 sT21_2 [] sAp121_2 sTp121_2 [4] sAp221_2 sTp221_2 0 (fun x y => some (.inl (x, y))) (fun x y => some (.inr (.inl (x, y)))) (fun x y => some (.inr (.inr (x, y))))) =
    L21_2c (β := Full sA21_2 sT21_2 sAp121_2 sTp121_2 sAp221_2 sTp221_2) F y.1.2.2.1 y.2.1.2.2.1 s (fun s => some (.inl (((), (), s, ()), ((y.1.1, y.1.2.1, y.1.2.2.1, y.1.2.2.2.1, y.1.2.2.2.2.1, y.1.2.2.2.2.2.1, ()), (y.2.1.1, y.2.1.2.1, y.2.1.2.2.1, y.2.1.2.2.2.1, y.2.1.2.2.2.2.1, y.2.1.2.2.2.2.2.1, ()), ())))) (fun z => some (.inr (.inl ((), ())))) (fun z => some (.inr (.inr ((z, ()), ())))) := by kernel_rfl
theorem lo21_2 (F : Nat) : LcOk Tryd.prog (E21 F) 0 (lc21_2 F) (cAt (bodyOf Tryd.f21) [1, 0, 1, 1]) :=
  mkR_ok (lp := []) (id := 0) (b := cAt (bodyOf Tryd.f21) (0 :: 0 :: [1, 0, 1, 1])) cok (cts21 F) mixed trivial (by kernel_rfl) (by kernel_rfl) (fun x y s => ((), (), s, ())) (fun x y s => ((y.1.1, y.1.2.1, y.1.2.2.1, y.1.2.2.2.1, y.1.2.2.2.2.1, y.1.2.2.2.2.2.1, ()), (y.2.1.1, y.2.1.2.1, y.2.1.2.2.1, y.2.1.2.2.2.1, y.2.1.2.2.2.2.1, y.2.1.2.2.2.2.2.1, ()), ())) (fun x y => rfl) (fun x y => rfl) (fun x y s kA kO kR => L21_2c F y.1.2.2.1 y.2.1.2.2.1 s kA kO kR) (fun x y s kA kO kR => L21_2n F y.1.2.2.1 y.2.1.2.2.1 s kA kO kR) (le21_2 F)
def T21c (F : Nat) (p0 : Int) (p1 : Int) (p2 : List Int) (p6 : Int) (p7 : Int) (p8 : List Int) {β : Type} (k : Bool → Option β) : Option β :=
  (bif (p0 != p6) then (k false) else (bif (decide (p1 < p7)) then (k false) else (Option.bind (iter (fun s => L21_2 F p2 p8 s) F (0 : Int)) fun z44 => elimS (fun z44 => (k true)) (fun z44 => (k z44)) z44)))
def T21 (F : Nat) (p0 : Int) (p1 : Int) (p2 : List Int) (p6 : Int) (p7 : Int) (p8 : List Int) : Option (Bool) := T21c F p0 p1 p2 p6 p7 p8 some
theorem T21n (F : Nat) (p0 : Int) (p1 : Int) (p2 : List Int) (p6 : Int) (p7 : Int) (p8 : List Int) {β : Type} (k : Bool → Option β) : T21c F p0 p1 p2 p6 p7 p8 k = (T21 F p0 p1 p2 p6 p7 p8).bind k := by
  simp only [T21, T21c, Option.bind_assoc, cond_bind, Option.bind_some, Option.bind_none, elimS_bind]
@[reducible] def cA21 : List Sh := [(.pr .i (.pr .i (.pr (.ro .i) (.pr (.ro (.pr .i (.pr .i (.pr .i (.pr (.pr .s (.pr .i (.pr .i .un))) (.pr .i (.pr .i (.pr .s (.pr .bo .un))))))))) (.pr (.ro (.pr .s (.pr .i (.pr .i (.pr .i (.pr .i (.pr (.sl (.pr .s (.pr .i (.pr .i .un)))) .un))))))) (.pr (.ro (.pr .s (.pr .i (.pr .i .un)))) .un)))))), (.pr .i (.pr .i (.pr (.ro .i) (.pr (.ro (.pr .i (.pr .i (.pr .i (.pr (.pr .s (.pr .i (.pr .i .un))) (.pr .i (.pr .i (.pr .s (.pr .bo .un))))))))) (.pr (.ro (.pr .s (.pr .i (.pr .i (.pr .i (.pr .i (.pr (.sl (.pr .s (.pr .i (.pr .i .un)))) .un))))))) (.pr (.ro (.pr .s (.pr .i (.pr .i .un)))) .un))))))]
@[reducible] def cB21 : List Sh := [.bo]
@[reducible] def cT21 : List TSh := []
@[reducible] def cU21 : List TSh := []
def ct21 (F : Nat) : Ct := mkC 0 cA21 cT21 cB21 cU21 (fun x y => T21 F x.1.1 x.1.2.1 x.1.2.2.1 x.2.1.1 x.2.1.2.1 x.2.1.2.2.1) (fun x y (z : Bool) => ((z, ()), ()))
theorem eq21 (F : Nat) (x : dens cA21) (y : tdens cT21) : sev (E21 F) 0 [([1, 0, 1, 1], lc21_2 F)] (bodyOf Tryd.f21) [] (mkSt (rng 2) cA21 cT21 x y) (kFn (E21 F) 0 Tryd.f21.results.toList cB21 cU21 fun p q => some (p, q)) =
    T21c F x.1.1 x.1.2.1 x.1.2.2.1 x.2.1.1 x.2.1.2.1 x.2.1.2.2.1 (fun z => some ((z, ()), ())) := by kernel_rfl
theorem ok21 (F : Nat) : Sound Tryd.prog cfg 21 (ct21 F) :=
  mkC_ok (E := E21 F) (lp := [([1, 0, 1, 1], lc21_2 F)]) (code := bodyOf Tryd.f21) Tryd.func21 rfl Tryd.ntmps21 rfl rfl cok (cts21 F) mixed ⟨lo21_2 F, trivial⟩ (by kernel_rfl) (fun x y k => T21c F x.1.1 x.1.2.1 x.1.2.2.1 x.2.1.1 x.2.1.2.1 x.2.1.2.2.1 k) (fun x y k => T21n F x.1.1 x.1.2.1 x.1.2.2.1 x.2.1.1 x.2.1.2.1 x.2.1.2.2.1 k) (eq21 F)
end Go.Proofs.YthikoaamigiceaaDoor
