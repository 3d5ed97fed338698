/- kinkeep/keyring.validIndex: its twin, and that the call does what the twin says. Printed by a program. -/
import Derived.Test.YthikoaamigiceaaDoorH1
namespace Go.Proofs.YthikoaamigiceaaDoor
open Go.Tw
set_option linter.unusedSimpArgs false
set_option linter.unusedVariables false
def ord39 : Nat → List (Tag × Nat)
  | _ => []
def al39 : Nat → Option Nat
  | _ => none
def ms39 : Nat → Option (List (Option Tag × Nat × List Nat))
  | _ => none
def E39 (F : Nat) : Ev := ⟨cfg, 77, ctOf [(68, ct68 F), (69, ct69 F), (70, ct70 F), (71, ct71 F)], ord39, ctOf [], al39, ms39⟩
theorem cts39 (F : Nat) : CtsOk Tryd.prog (E39 F) := cts_of (l := [(68, ct68 F), (69, ct69 F), (70, ct70 F), (71, ct71 F)]) (l' := []) rfl rfl ⟨⟨ok68 F, _, Tryd.func68, rfl, rfl⟩, ⟨⟨ok69 F, _, Tryd.func69, rfl, rfl⟩, ⟨⟨ok70 F, _, Tryd.func70, rfl, rfl⟩, ⟨⟨ok71 F, _, Tryd.func71, rfl, rfl⟩, trivial⟩⟩⟩⟩ trivial
def L39_4c (F : Nat) (y48 : List Int) (y49 : Int) (y50 : Int) {β : Type} (kA : Int → Option β) (kO : Unit → Option β) (kR : Bool → Option β) : Option β :=
  (bif (decide (y50 < y49)) then (Option.bind (ix y48 y50) fun x59 => (Option.bind (T68 F x59 (0 : Int) (1099511627776 : Int)) fun z60 => (bif (!z60) then (kR false) else (kA (w64 (y50 + (1 : Int))))))) else (kO ()))
def L39_4 (F : Nat) (y48 : List Int) (y49 : Int) (y50 : Int) : Option ((Int) ⊕ ((Unit) ⊕ (Bool))) := L39_4c F y48 y49 y50 (fun s => some (.inl s)) (fun z => some (.inr (.inl z))) (fun z => some (.inr (.inr z)))
theorem L39_4n (F : Nat) (y48 : List Int) (y49 : Int) (y50 : Int) {β : Type} (kA : Int → Option β) (kO : Unit → Option β) (kR : Bool → Option β) : L39_4c F y48 y49 y50 kA kO kR = (L39_4 F y48 y49 y50).bind (elimS kA (elimS kO kR)) := by
  simp only [L39_4, L39_4c, Option.bind_assoc, cond_bind, Option.bind_some, Option.bind_none, elimS_l, elimS_r, elimS_bind]
@[reducible] def sA39_4 : List Sh := [(.pt 0 []), (.ro .i), .i, .i]
@[reducible] def sAp139_4 : List Sh := [(.pt 0 [])]
@[reducible] def sAp239_4 : List Sh := [.bo]
@[reducible] def sT39_4 : List TSh := [.blk 47 (.pr .i (.pr .i (.pr (.ro .i) (.pr (.ro (.pr .i (.pr .i (.pr .i (.pr (.pr .s (.pr .i (.pr .i .un))) (.pr .i (.pr .i (.pr .s (.pr .bo .un))))))))) (.pr (.ro (.pr .s (.pr .i (.pr .i (.pr .i (.pr .i (.pr (.sl (.pr .s (.pr .i (.pr .i .un)))) .un))))))) (.pr (.ro (.pr .s (.pr .i (.pr .i .un)))) .un))))))]
@[reducible] def sTp139_4 : List TSh := [.blk 47 (.pr .i (.pr .i (.pr (.ro .i) (.pr (.ro (.pr .i (.pr .i (.pr .i (.pr (.pr .s (.pr .i (.pr .i .un))) (.pr .i (.pr .i (.pr .s (.pr .bo .un))))))))) (.pr (.ro (.pr .s (.pr .i (.pr .i (.pr .i (.pr .i (.pr (.sl (.pr .s (.pr .i (.pr .i .un)))) .un))))))) (.pr (.ro (.pr .s (.pr .i (.pr .i .un)))) .un))))))]
@[reducible] def sTp239_4 : List TSh := []
def lc39_4 (F : Nat) : Lc := mkR [1, 42, 43, 44] sA39_4 sT39_4 [1] sAp139_4 sTp139_4 [2] sAp239_4 sTp239_4 F (fun x y (s : Int) => L39_4 F x.2.1 x.2.2.1 s) (fun x y => x.2.2.2.1) (fun x y (z : Unit) => (((), ()), ((y.1.1, y.1.2.1, y.1.2.2.1, y.1.2.2.2.1, y.1.2.2.2.2.1, y.1.2.2.2.2.2.1, ()), ()))) (fun x y (z : Bool) => ((z, ()), ()))
theorem le39_4 (F : Nat) (x : dens sA39_4) (y : tdens sT39_4) (s : Int) : sev (E39 F) 0 [] (cAt (bodyOf Tryd.f39) (0 :: 0 :: [1, 0, 1, 1, 1])) (0 :: 0 :: [1, 0, 1, 1, 1]) (mkSt [1, 42, 43, 44] sA39_4 sT39_4 ((), x.2.1, x.2.2.1, s, ()) ((y.1.1, y.1.2.1, y.1.2.2.1, y.1.2.2.2.1, y.1.2.2.2.2.1, y.1.2.2.2.2.2.1, ()), ())) (kLoop 0 [1, 42, 43, 44] sA39_4 sT39_4 [1] sAp139_4 sTp139_4 [2] sAp239_4 sTp239_4 0 (fun x y => some (.inl (x, y))) (fun x y => some (.inr (.inl (x, y)))) (fun x y => some (.inr (.inr (x, y))))) =
    L39_4c (β := Full sA39_4 sT39_4 sAp139_4 sTp139_4 sAp239_4 sTp239_4) F x.2.1 x.2.2.1 s (fun s => some (.inl (((), x.2.1, x.2.2.1, s, ()), ((y.1.1, y.1.2.1, y.1.2.2.1, y.1.2.2.2.1, y.1.2.2.2.2.1, y.1.2.2.2.2.2.1, ()), ())))) (fun z => some (.inr (.inl (((), ()), ((y.1.1, y.1.2.1, y.1.2.2.1, y.1.2.2.2.1, y.1.2.2.2.2.1, y.1.2.2.2.2.2.1, ()), ()))))) (fun z => some (.inr (.inr ((z, ()), ())))) := by kernel_rfl
theorem lo39_4 (F : Nat) : LcOk Tryd.prog (E39 F) 0 (lc39_4 F) (cAt (bodyOf Tryd.f39) [1, 0, 1, 1, 1]) :=
  mkR_ok (lp := []) (id := 0) (b := cAt (bodyOf Tryd.f39) (0 :: 0 :: [1, 0, 1, 1, 1])) cok (cts39 F) mixed trivial (by kernel_rfl) (by kernel_rfl) (fun x y s => ((), x.2.1, x.2.2.1, s, ())) (fun x y s => ((y.1.1, y.1.2.1, y.1.2.2.1, y.1.2.2.2.1, y.1.2.2.2.2.1, y.1.2.2.2.2.2.1, ()), ())) (fun x y => rfl) (fun x y => rfl) (fun x y s kA kO kR => L39_4c F x.2.1 x.2.2.1 s kA kO kR) (fun x y s kA kO kR => L39_4n F x.2.1 x.2.2.1 s kA kO kR) (le39_4 F)
def L39_5c (F : Nat) (y62 : List (Int × Int × Int × ((List UInt8) × Int × Int × Unit) × Int × Int × (List UInt8) × Bool × Unit)) (y63 : Int) (y64 : Int) {β : Type} (kA : Int → Option β) (kO : Unit → Option β) (kR : Bool → Option β) : Option β :=
  (bif (decide (y64 < y63)) then (Option.bind (ix y62 y64) fun x73 => (Option.bind (T69 F x73.1 x73.2.1 x73.2.2.1 x73.2.2.2.1.1 x73.2.2.2.1.2.1 x73.2.2.2.1.2.2.1 x73.2.2.2.2.1 x73.2.2.2.2.2.1 x73.2.2.2.2.2.2.1) fun z74 => (bif (!z74) then (kR false) else (kA (w64 (y64 + (1 : Int))))))) else (kO ()))
def L39_5 (F : Nat) (y62 : List (Int × Int × Int × ((List UInt8) × Int × Int × Unit) × Int × Int × (List UInt8) × Bool × Unit)) (y63 : Int) (y64 : Int) : Option ((Int) ⊕ ((Unit) ⊕ (Bool))) := L39_5c F y62 y63 y64 (fun s => some (.inl s)) (fun z => some (.inr (.inl z))) (fun z => some (.inr (.inr z)))
theorem L39_5n (F : Nat) (y62 : List (Int × Int × Int × ((List UInt8) × Int × Int × Unit) × Int × Int × (List UInt8) × Bool × Unit)) (y63 : Int) (y64 : Int) {β : Type} (kA : Int → Option β) (kO : Unit → Option β) (kR : Bool → Option β) : L39_5c F y62 y63 y64 kA kO kR = (L39_5 F y62 y63 y64).bind (elimS kA (elimS kO kR)) := by
  simp only [L39_5, L39_5c, Option.bind_assoc, cond_bind, Option.bind_some, Option.bind_none, elimS_l, elimS_r, elimS_bind]
@[reducible] def sA39_5 : List Sh := [(.pt 0 []), (.ro (.pr .i (.pr .i (.pr .i (.pr (.pr .s (.pr .i (.pr .i .un))) (.pr .i (.pr .i (.pr .s (.pr .bo .un))))))))), .i, .i]
@[reducible] def sAp139_5 : List Sh := [(.pt 0 [])]
@[reducible] def sAp239_5 : List Sh := [.bo]
@[reducible] def sT39_5 : List TSh := [.blk 47 (.pr .i (.pr .i (.pr (.ro .i) (.pr (.ro (.pr .i (.pr .i (.pr .i (.pr (.pr .s (.pr .i (.pr .i .un))) (.pr .i (.pr .i (.pr .s (.pr .bo .un))))))))) (.pr (.ro (.pr .s (.pr .i (.pr .i (.pr .i (.pr .i (.pr (.sl (.pr .s (.pr .i (.pr .i .un)))) .un))))))) (.pr (.ro (.pr .s (.pr .i (.pr .i .un)))) .un))))))]
@[reducible] def sTp139_5 : List TSh := [.blk 47 (.pr .i (.pr .i (.pr (.ro .i) (.pr (.ro (.pr .i (.pr .i (.pr .i (.pr (.pr .s (.pr .i (.pr .i .un))) (.pr .i (.pr .i (.pr .s (.pr .bo .un))))))))) (.pr (.ro (.pr .s (.pr .i (.pr .i (.pr .i (.pr .i (.pr (.sl (.pr .s (.pr .i (.pr .i .un)))) .un))))))) (.pr (.ro (.pr .s (.pr .i (.pr .i .un)))) .un))))))]
@[reducible] def sTp239_5 : List TSh := []
def lc39_5 (F : Nat) : Lc := mkR [1, 53, 54, 55] sA39_5 sT39_5 [1] sAp139_5 sTp139_5 [2] sAp239_5 sTp239_5 F (fun x y (s : Int) => L39_5 F x.2.1 x.2.2.1 s) (fun x y => x.2.2.2.1) (fun x y (z : Unit) => (((), ()), ((y.1.1, y.1.2.1, y.1.2.2.1, y.1.2.2.2.1, y.1.2.2.2.2.1, y.1.2.2.2.2.2.1, ()), ()))) (fun x y (z : Bool) => ((z, ()), ()))
theorem le39_5 (F : Nat) (x : dens sA39_5) (y : tdens sT39_5) (s : Int) : sev (E39 F) 0 [] (cAt (bodyOf Tryd.f39) (0 :: 0 :: [1, 0, 1, 1, 1, 1])) (0 :: 0 :: [1, 0, 1, 1, 1, 1]) (mkSt [1, 53, 54, 55] sA39_5 sT39_5 ((), x.2.1, x.2.2.1, s, ()) ((y.1.1, y.1.2.1, y.1.2.2.1, y.1.2.2.2.1, y.1.2.2.2.2.1, y.1.2.2.2.2.2.1, ()), ())) (kLoop 0 [1, 53, 54, 55] sA39_5 sT39_5 [1] sAp139_5 sTp139_5 [2] sAp239_5 sTp239_5 2 (fun x y => some (.inl (x, y))) (fun x y => some (.inr (.inl (x, y)))) (fun x y => some (.inr (.inr (x, y))))) =
    L39_5c (β := Full sA39_5 sT39_5 sAp139_5 sTp139_5 sAp239_5 sTp239_5) F x.2.1 x.2.2.1 s (fun s => some (.inl (((), x.2.1, x.2.2.1, s, ()), ((y.1.1, y.1.2.1, y.1.2.2.1, y.1.2.2.2.1, y.1.2.2.2.2.1, y.1.2.2.2.2.2.1, ()), ())))) (fun z => some (.inr (.inl (((), ()), ((y.1.1, y.1.2.1, y.1.2.2.1, y.1.2.2.2.1, y.1.2.2.2.2.1, y.1.2.2.2.2.2.1, ()), ()))))) (fun z => some (.inr (.inr ((z, ()), ())))) := by kernel_rfl
theorem lo39_5 (F : Nat) : LcOk Tryd.prog (E39 F) 0 (lc39_5 F) (cAt (bodyOf Tryd.f39) [1, 0, 1, 1, 1, 1]) :=
  mkR_ok (lp := []) (id := 2) (b := cAt (bodyOf Tryd.f39) (0 :: 0 :: [1, 0, 1, 1, 1, 1])) cok (cts39 F) mixed trivial (by kernel_rfl) (by kernel_rfl) (fun x y s => ((), x.2.1, x.2.2.1, s, ())) (fun x y s => ((y.1.1, y.1.2.1, y.1.2.2.1, y.1.2.2.2.1, y.1.2.2.2.2.1, y.1.2.2.2.2.2.1, ()), ())) (fun x y => rfl) (fun x y => rfl) (fun x y s kA kO kR => L39_5c F x.2.1 x.2.2.1 s kA kO kR) (fun x y s kA kO kR => L39_5n F x.2.1 x.2.2.1 s kA kO kR) (le39_5 F)
def L39_6c (F : Nat) (y76 : List ((List UInt8) × Int × Int × Int × Int × (List ((List UInt8) × Int × Int × Unit)) × Unit)) (y77 : Int) (y78 : Int) {β : Type} (kA : Int → Option β) (kO : Unit → Option β) (kR : Bool → Option β) : Option β :=
  (bif (decide (y78 < y77)) then (Option.bind (ix y76 y78) fun x87 => (Option.bind (T70 F x87.1 x87.2.1 x87.2.2.1 x87.2.2.2.1 x87.2.2.2.2.1 x87.2.2.2.2.2.1) fun z88 => (bif (!z88) then (kR false) else (kA (w64 (y78 + (1 : Int))))))) else (kO ()))
def L39_6 (F : Nat) (y76 : List ((List UInt8) × Int × Int × Int × Int × (List ((List UInt8) × Int × Int × Unit)) × Unit)) (y77 : Int) (y78 : Int) : Option ((Int) ⊕ ((Unit) ⊕ (Bool))) := L39_6c F y76 y77 y78 (fun s => some (.inl s)) (fun z => some (.inr (.inl z))) (fun z => some (.inr (.inr z)))
theorem L39_6n (F : Nat) (y76 : List ((List UInt8) × Int × Int × Int × Int × (List ((List UInt8) × Int × Int × Unit)) × Unit)) (y77 : Int) (y78 : Int) {β : Type} (kA : Int → Option β) (kO : Unit → Option β) (kR : Bool → Option β) : L39_6c F y76 y77 y78 kA kO kR = (L39_6 F y76 y77 y78).bind (elimS kA (elimS kO kR)) := by
  simp only [L39_6, L39_6c, Option.bind_assoc, cond_bind, Option.bind_some, Option.bind_none, elimS_l, elimS_r, elimS_bind]
@[reducible] def sA39_6 : List Sh := [(.pt 0 []), (.ro (.pr .s (.pr .i (.pr .i (.pr .i (.pr .i (.pr (.sl (.pr .s (.pr .i (.pr .i .un)))) .un))))))), .i, .i]
@[reducible] def sAp139_6 : List Sh := [(.pt 0 [])]
@[reducible] def sAp239_6 : List Sh := [.bo]
@[reducible] def sT39_6 : List TSh := [.blk 47 (.pr .i (.pr .i (.pr (.ro .i) (.pr (.ro (.pr .i (.pr .i (.pr .i (.pr (.pr .s (.pr .i (.pr .i .un))) (.pr .i (.pr .i (.pr .s (.pr .bo .un))))))))) (.pr (.ro (.pr .s (.pr .i (.pr .i (.pr .i (.pr .i (.pr (.sl (.pr .s (.pr .i (.pr .i .un)))) .un))))))) (.pr (.ro (.pr .s (.pr .i (.pr .i .un)))) .un))))))]
@[reducible] def sTp139_6 : List TSh := [.blk 47 (.pr .i (.pr .i (.pr (.ro .i) (.pr (.ro (.pr .i (.pr .i (.pr .i (.pr (.pr .s (.pr .i (.pr .i .un))) (.pr .i (.pr .i (.pr .s (.pr .bo .un))))))))) (.pr (.ro (.pr .s (.pr .i (.pr .i (.pr .i (.pr .i (.pr (.sl (.pr .s (.pr .i (.pr .i .un)))) .un))))))) (.pr (.ro (.pr .s (.pr .i (.pr .i .un)))) .un))))))]
@[reducible] def sTp239_6 : List TSh := []
def lc39_6 (F : Nat) : Lc := mkR [1, 64, 65, 66] sA39_6 sT39_6 [1] sAp139_6 sTp139_6 [2] sAp239_6 sTp239_6 F (fun x y (s : Int) => L39_6 F x.2.1 x.2.2.1 s) (fun x y => x.2.2.2.1) (fun x y (z : Unit) => (((), ()), ((y.1.1, y.1.2.1, y.1.2.2.1, y.1.2.2.2.1, y.1.2.2.2.2.1, y.1.2.2.2.2.2.1, ()), ()))) (fun x y (z : Bool) => ((z, ()), ()))
theorem le39_6 (F : Nat) (x : dens sA39_6) (y : tdens sT39_6) (s : Int) : sev (E39 F) 0 [] (cAt (bodyOf Tryd.f39) (0 :: 0 :: [1, 0, 1, 1, 1, 1, 1])) (0 :: 0 :: [1, 0, 1, 1, 1, 1, 1]) (mkSt [1, 64, 65, 66] sA39_6 sT39_6 ((), x.2.1, x.2.2.1, s, ()) ((y.1.1, y.1.2.1, y.1.2.2.1, y.1.2.2.2.1, y.1.2.2.2.2.1, y.1.2.2.2.2.2.1, ()), ())) (kLoop 0 [1, 64, 65, 66] sA39_6 sT39_6 [1] sAp139_6 sTp139_6 [2] sAp239_6 sTp239_6 4 (fun x y => some (.inl (x, y))) (fun x y => some (.inr (.inl (x, y)))) (fun x y => some (.inr (.inr (x, y))))) =
    L39_6c (β := Full sA39_6 sT39_6 sAp139_6 sTp139_6 sAp239_6 sTp239_6) F x.2.1 x.2.2.1 s (fun s => some (.inl (((), x.2.1, x.2.2.1, s, ()), ((y.1.1, y.1.2.1, y.1.2.2.1, y.1.2.2.2.1, y.1.2.2.2.2.1, y.1.2.2.2.2.2.1, ()), ())))) (fun z => some (.inr (.inl (((), ()), ((y.1.1, y.1.2.1, y.1.2.2.1, y.1.2.2.2.1, y.1.2.2.2.2.1, y.1.2.2.2.2.2.1, ()), ()))))) (fun z => some (.inr (.inr ((z, ()), ())))) := by kernel_rfl
theorem lo39_6 (F : Nat) : LcOk Tryd.prog (E39 F) 0 (lc39_6 F) (cAt (bodyOf Tryd.f39) [1, 0, 1, 1, 1, 1, 1]) :=
  mkR_ok (lp := []) (id := 4) (b := cAt (bodyOf Tryd.f39) (0 :: 0 :: [1, 0, 1, 1, 1, 1, 1])) cok (cts39 F) mixed trivial (by kernel_rfl) (by kernel_rfl) (fun x y s => ((), x.2.1, x.2.2.1, s, ())) (fun x y s => ((y.1.1, y.1.2.1, y.1.2.2.1, y.1.2.2.2.1, y.1.2.2.2.2.1, y.1.2.2.2.2.2.1, ()), ())) (fun x y => rfl) (fun x y => rfl) (fun x y s kA kO kR => L39_6c F x.2.1 x.2.2.1 s kA kO kR) (fun x y s kA kO kR => L39_6n F x.2.1 x.2.2.1 s kA kO kR) (le39_6 F)
def T39c (F : Nat) (p0 : Int) (p1 : Int) (p2 : List Int) (p3 : List (Int × Int × Int × ((List UInt8) × Int × Int × Unit) × Int × Int × (List UInt8) × Bool × Unit)) (p4 : List ((List UInt8) × Int × Int × Int × Int × (List ((List UInt8) × Int × Int × Unit)) × Unit)) (p5 : List ((List UInt8) × Int × Int × Unit)) {β : Type} (k : Bool → Option β) : Option β :=
  (Option.bind (T68 F p0 (0 : Int) (1000 : Int)) fun z46 => (bif (!z46) then (k false) else (Option.bind (T68 F p1 (0 : Int) (1000 : Int)) fun z47 => (bif (!z47) then (k false) else (bif (decide ((12 : Int) < (p2.length : Int))) then (k false) else (bif (decide ((4096 : Int) < (p3.length : Int))) then (k false) else (bif (decide ((4096 : Int) < (p4.length : Int))) then (k false) else (bif (decide ((4096 : Int) < (p5.length : Int))) then (k false) else (Option.bind (iter (fun s => L39_4 F p2 (p2.length : Int) s) F (0 : Int)) fun z61 => elimS (fun z61 => (Option.bind (iter (fun s => L39_5 F p3 (p3.length : Int) s) F (0 : Int)) fun z75 => elimS (fun z75 => (Option.bind (iter (fun s => L39_6 F p4 (p4.length : Int) s) F (0 : Int)) fun z89 => elimS (fun z89 => (Option.bind (T71 F p5) fun z90 => (k z90))) (fun z89 => (k z89)) z89)) (fun z75 => (k z75)) z75)) (fun z61 => (k z61)) z61)))))))))
def T39 (F : Nat) (p0 : Int) (p1 : Int) (p2 : List Int) (p3 : List (Int × Int × Int × ((List UInt8) × Int × Int × Unit) × Int × Int × (List UInt8) × Bool × Unit)) (p4 : List ((List UInt8) × Int × Int × Int × Int × (List ((List UInt8) × Int × Int × Unit)) × Unit)) (p5 : List ((List UInt8) × Int × Int × Unit)) : Option (Bool) := T39c F p0 p1 p2 p3 p4 p5 some
theorem T39n (F : Nat) (p0 : Int) (p1 : Int) (p2 : List Int) (p3 : List (Int × Int × Int × ((List UInt8) × Int × Int × Unit) × Int × Int × (List UInt8) × Bool × Unit)) (p4 : List ((List UInt8) × Int × Int × Int × Int × (List ((List UInt8) × Int × Int × Unit)) × Unit)) (p5 : List ((List UInt8) × Int × Int × Unit)) {β : Type} (k : Bool → Option β) : T39c F p0 p1 p2 p3 p4 p5 k = (T39 F p0 p1 p2 p3 p4 p5).bind k := by
  simp only [T39, T39c, Option.bind_assoc, cond_bind, Option.bind_some, Option.bind_none, elimS_bind]
@[reducible] def cA39 : List Sh := [(.pr .i (.pr .i (.pr (.ro .i) (.pr (.ro (.pr .i (.pr .i (.pr .i (.pr (.pr .s (.pr .i (.pr .i .un))) (.pr .i (.pr .i (.pr .s (.pr .bo .un))))))))) (.pr (.ro (.pr .s (.pr .i (.pr .i (.pr .i (.pr .i (.pr (.sl (.pr .s (.pr .i (.pr .i .un)))) .un))))))) (.pr (.ro (.pr .s (.pr .i (.pr .i .un)))) .un))))))]
@[reducible] def cB39 : List Sh := [.bo]
@[reducible] def cT39 : List TSh := []
@[reducible] def cU39 : List TSh := []
def ct39 (F : Nat) : Ct := mkC 0 cA39 cT39 cB39 cU39 (fun x y => T39 F x.1.1 x.1.2.1 x.1.2.2.1 x.1.2.2.2.1 x.1.2.2.2.2.1 x.1.2.2.2.2.2.1) (fun x y (z : Bool) => ((z, ()), ()))
theorem eq39 (F : Nat) (x : dens cA39) (y : tdens cT39) : sev (E39 F) 0 [([1, 0, 1, 1, 1], lc39_4 F), ([1, 0, 1, 1, 1, 1], lc39_5 F), ([1, 0, 1, 1, 1, 1, 1], lc39_6 F)] (bodyOf Tryd.f39) [] (mkSt (rng 1) cA39 cT39 x y) (kFn (E39 F) 0 Tryd.f39.results.toList cB39 cU39 fun p q => some (p, q)) =
    T39c F x.1.1 x.1.2.1 x.1.2.2.1 x.1.2.2.2.1 x.1.2.2.2.2.1 x.1.2.2.2.2.2.1 (fun z => some ((z, ()), ())) := by kernel_rfl
theorem ok39 (F : Nat) : Sound Tryd.prog cfg 39 (ct39 F) :=
  mkC_ok (E := E39 F) (lp := [([1, 0, 1, 1, 1], lc39_4 F), ([1, 0, 1, 1, 1, 1], lc39_5 F), ([1, 0, 1, 1, 1, 1, 1], lc39_6 F)]) (code := bodyOf Tryd.f39) Tryd.func39 rfl Tryd.ntmps39 rfl rfl cok (cts39 F) mixed ⟨lo39_4 F, ⟨lo39_5 F, ⟨lo39_6 F, trivial⟩⟩⟩ (by kernel_rfl) (fun x y k => T39c F x.1.1 x.1.2.1 x.1.2.2.1 x.1.2.2.2.1 x.1.2.2.2.2.1 x.1.2.2.2.2.2.1 k) (fun x y k => T39n F x.1.1 x.1.2.1 x.1.2.2.1 x.1.2.2.2.1 x.1.2.2.2.2.1 x.1.2.2.2.2.2.1 k) (eq39 F)
end Go.Proofs.YthikoaamigiceaaDoor
/- kinkeep/wire.NewWriter: its twin, and that the call does what the twin says. Printed by a program. -/
namespace Go.Proofs.YthikoaamigiceaaDoor
open Go.Tw
set_option linter.unusedSimpArgs false
set_option linter.unusedVariables false
def ord40 : Nat → List (Tag × Nat)
  | _ => []
def al40 : Nat → Option Nat
  | _ => none
def ms40 : Nat → Option (List (Option Tag × Nat × List Nat))
  | _ => none
def E40 (F : Nat) : Ev := ⟨cfg, 3, ctOf [], ord40, ctOf [], al40, ms40⟩
theorem cts40 (F : Nat) : CtsOk Tryd.prog (E40 F) := cts_of (l := []) (l' := []) rfl rfl trivial trivial
def T40c (F : Nat) {β : Type} (k : Int → Option β) : Option β :=
  (k (0 : Int))
def T40 (F : Nat) : Option (Int) := T40c F some
theorem T40n (F : Nat) {β : Type} (k : Int → Option β) : T40c F k = (T40 F).bind k := by
  simp only [T40, T40c, Option.bind_assoc, cond_bind, Option.bind_some, Option.bind_none, elimS_bind]
@[reducible] def cA40 : List Sh := []
@[reducible] def cB40 : List Sh := [(.pt 0 [])]
@[reducible] def cT40 : List TSh := []
@[reducible] def cU40 : List TSh := [.blk 112 (.pr .ns (.pr .i .un))]
def ct40 (F : Nat) : Ct := mkC 0 cA40 cT40 cB40 cU40 (fun x y => T40 F) (fun x y (z : Int) => (((), ()), (((), z, ()), ())))
theorem eq40 (F : Nat) (x : dens cA40) (y : tdens cT40) : sev (E40 F) 0 [] (bodyOf Tryd.f40) [] (mkSt (rng 0) cA40 cT40 x y) (kFn (E40 F) 0 Tryd.f40.results.toList cB40 cU40 fun p q => some (p, q)) =
    T40c F (fun z => some (((), ()), (((), z, ()), ()))) := by kernel_rfl
theorem ok40 (F : Nat) : Sound Tryd.prog cfg 40 (ct40 F) :=
  mkC_ok (E := E40 F) (lp := []) (code := bodyOf Tryd.f40) Tryd.func40 rfl Tryd.ntmps40 rfl rfl cok (cts40 F) mixed trivial (by kernel_rfl) (fun x y k => T40c F k) (fun x y k => T40n F k) (eq40 F)
end Go.Proofs.YthikoaamigiceaaDoor
/- kinkeep/wire.Zigzag: its twin, and that the call does what the twin says. Printed by a program. -/
namespace Go.Proofs.YthikoaamigiceaaDoor
open Go.Tw
set_option linter.unusedSimpArgs false
set_option linter.unusedVariables false
def ord74 : Nat → List (Tag × Nat)
  | _ => []
def al74 : Nat → Option Nat
  | _ => none
def ms74 : Nat → Option (List (Option Tag × Nat × List Nat))
  | _ => none
def E74 (F : Nat) : Ev := ⟨cfg, 14, ctOf [], ord74, ctOf [], al74, ms74⟩
theorem cts74 (F : Nat) : CtsOk Tryd.prog (E74 F) := cts_of (l := []) (l' := []) rfl rfl trivial trivial
def T74c (F : Nat) (p0 : Int) {β : Type} (k : UInt64 → Option β) : Option β :=
  (bif (decide (p0 < (0 : Int))) then (k (((UInt64.ofInt (w64 (0 - (w64 (p0 + (1 : Int)))))) * (UInt64.ofNat 2)) + (UInt64.ofNat 1))) else (k ((UInt64.ofInt p0) * (UInt64.ofNat 2))))
def T74 (F : Nat) (p0 : Int) : Option (UInt64) := T74c F p0 some
theorem T74n (F : Nat) (p0 : Int) {β : Type} (k : UInt64 → Option β) : T74c F p0 k = (T74 F p0).bind k := by
  simp only [T74, T74c, Option.bind_assoc, cond_bind, Option.bind_some, Option.bind_none, elimS_bind]
@[reducible] def cA74 : List Sh := [.i]
@[reducible] def cB74 : List Sh := [.u64]
@[reducible] def cT74 : List TSh := []
@[reducible] def cU74 : List TSh := []
def ct74 (F : Nat) : Ct := mkC 0 cA74 cT74 cB74 cU74 (fun x y => T74 F x.1) (fun x y (z : UInt64) => ((z, ()), ()))
theorem eq74 (F : Nat) (x : dens cA74) (y : tdens cT74) : sev (E74 F) 0 [] (bodyOf Tryd.f74) [] (mkSt (rng 1) cA74 cT74 x y) (kFn (E74 F) 0 Tryd.f74.results.toList cB74 cU74 fun p q => some (p, q)) =
    T74c F x.1 (fun z => some ((z, ()), ())) := by kernel_rfl
theorem ok74 (F : Nat) : Sound Tryd.prog cfg 74 (ct74 F) :=
  mkC_ok (E := E74 F) (lp := []) (code := bodyOf Tryd.f74) Tryd.func74 rfl Tryd.ntmps74 rfl rfl cok (cts74 F) mixed trivial (by kernel_rfl) (fun x y k => T74c F x.1 k) (fun x y k => T74n F x.1 k) (eq74 F)
end Go.Proofs.YthikoaamigiceaaDoor
/- kinkeep/wire.extend: its twin, and that the call does what the twin says. Printed by a program. -/
namespace Go.Proofs.YthikoaamigiceaaDoor
open Go.Tw
set_option linter.unusedSimpArgs false
set_option linter.unusedVariables false
def ord75 : Nat → List (Tag × Nat)
  | _ => []
def al75 : Nat → Option Nat
  | _ => none
def ms75 : Nat → Option (List (Option Tag × Nat × List Nat))
  | _ => none
def E75 (F : Nat) : Ev := ⟨cfg, 20, ctOf [], ord75, ctOf [], al75, ms75⟩
theorem cts75 (F : Nat) : CtsOk Tryd.prog (E75 F) := cts_of (l := []) (l' := []) rfl rfl trivial trivial
def L75_2c (F : Nat) (y7 : UInt64) (y8 : List UInt8) {β : Type} (kA : (UInt64 × (List UInt8)) → Option β) (kO : (UInt64 × (List UInt8)) → Option β) : Option β :=
  (bif (decide ((UInt64.ofNat 128) ≤ y7)) then (Option.bind (gapp y8 ([((y7.toUInt8) ||| (UInt8.ofNat 128))] : List UInt8)) fun x10 => (kA ((shr64 y7 ((UInt64.ofNat 7).toNat)), x10))) else (kO (y7, y8)))
def L75_2 (F : Nat) (y7 : UInt64) (y8 : List UInt8) : Option ((UInt64 × (List UInt8)) ⊕ (UInt64 × (List UInt8))) := L75_2c F y7 y8 (fun s => some (.inl s)) (fun z => some (.inr z))
theorem L75_2n (F : Nat) (y7 : UInt64) (y8 : List UInt8) {β : Type} (kA : (UInt64 × (List UInt8)) → Option β) (kO : (UInt64 × (List UInt8)) → Option β) : L75_2c F y7 y8 kA kO = (L75_2 F y7 y8).bind (elimS kA kO) := by
  simp only [L75_2, L75_2c, Option.bind_assoc, cond_bind, Option.bind_some, Option.bind_none, elimS_l, elimS_r, elimS_bind]
@[reducible] def sA75_2 : List Sh := [(.rw 0), .u64]
@[reducible] def sAp175_2 : List Sh := [(.rw 0), .u64]
@[reducible] def sT75_2 : List TSh := [.row 5 .u8]
@[reducible] def sTp175_2 : List TSh := [.row 5 .u8]
def lc75_2 (F : Nat) : Lc := mkL [0, 1] sA75_2 sT75_2 [0, 1] sAp175_2 sTp175_2 F (fun x y (s : UInt64 × (List UInt8)) => L75_2 F s.1 s.2) (fun x y => (x.2.1, y.1)) (fun x y (z : UInt64 × (List UInt8)) => (((), z.1, ()), (z.2, ())))
theorem le75_2 (F : Nat) (x : dens sA75_2) (y : tdens sT75_2) (s : UInt64 × (List UInt8)) : sev (E75 F) 0 [] (cAt (bodyOf Tryd.f75) (0 :: 0 :: [0, 1])) (0 :: 0 :: [0, 1]) (mkSt [0, 1] sA75_2 sT75_2 ((), s.1, ()) (s.2, ())) (kLoop 0 [0, 1] sA75_2 sT75_2 [0, 1] sAp175_2 sTp175_2 [] [] [] 0 (fun x y => some (.inl (x, y))) (fun x y => some (.inr (.inl (x, y)))) (fun x y => some (.inr (.inr (x, y))))) =
    L75_2c (β := Full sA75_2 sT75_2 sAp175_2 sTp175_2 [] []) F s.1 s.2 (fun s => some (.inl (((), s.1, ()), (s.2, ())))) (fun z => some (.inr (.inl (((), z.1, ()), (z.2, ()))))) := by kernel_rfl
theorem lo75_2 (F : Nat) : LcOk Tryd.prog (E75 F) 0 (lc75_2 F) (cAt (bodyOf Tryd.f75) [0, 1]) :=
  mkL_ok (lp := []) (id := 0) (b := cAt (bodyOf Tryd.f75) (0 :: 0 :: [0, 1])) cok (cts75 F) mixed trivial (by kernel_rfl) (by kernel_rfl) (fun x y s => ((), s.1, ())) (fun x y s => (s.2, ())) (fun x y => rfl) (fun x y => rfl) (fun x y s kA kO => L75_2c F s.1 s.2 kA kO) (fun x y s kA kO => L75_2n F s.1 s.2 kA kO) (le75_2 F)
def T75c (F : Nat) (p0 : UInt64) (p1 : List UInt8) {β : Type} (k : ((List UInt8)) → Option β) : Option β :=
  (Option.bind (iter (fun s => L75_2 F s.1 s.2) F (p0, p1)) fun z11 => (Option.bind (gapp z11.2 ([(z11.1.toUInt8)] : List UInt8)) fun x12 => (k x12)))
def T75 (F : Nat) (p0 : UInt64) (p1 : List UInt8) : Option ((List UInt8)) := T75c F p0 p1 some
theorem T75n (F : Nat) (p0 : UInt64) (p1 : List UInt8) {β : Type} (k : ((List UInt8)) → Option β) : T75c F p0 p1 k = (T75 F p0 p1).bind k := by
  simp only [T75, T75c, Option.bind_assoc, cond_bind, Option.bind_some, Option.bind_none, elimS_bind]
@[reducible] def cA75 : List Sh := [(.rw 0), .u64]
@[reducible] def cB75 : List Sh := [(.rw 0)]
@[reducible] def cT75 : List TSh := [.row 5 .u8]
@[reducible] def cU75 : List TSh := [.row 5 .u8]
def ct75 (F : Nat) : Ct := mkC 0 cA75 cT75 cB75 cU75 (fun x y => T75 F x.2.1 y.1) (fun x y (z : (List UInt8)) => (((), ()), (z, ())))
theorem eq75 (F : Nat) (x : dens cA75) (y : tdens cT75) : sev (E75 F) 0 [([0, 1], lc75_2 F)] (bodyOf Tryd.f75) [] (mkSt (rng 2) cA75 cT75 x y) (kFn (E75 F) 0 Tryd.f75.results.toList cB75 cU75 fun p q => some (p, q)) =
    T75c F x.2.1 y.1 (fun z => some (((), ()), (z, ()))) := by kernel_rfl
theorem ok75 (F : Nat) : Sound Tryd.prog cfg 75 (ct75 F) :=
  mkC_ok (E := E75 F) (lp := [([0, 1], lc75_2 F)]) (code := bodyOf Tryd.f75) Tryd.func75 rfl Tryd.ntmps75 rfl rfl cok (cts75 F) mixed ⟨lo75_2 F, trivial⟩ (by kernel_rfl) (fun x y k => T75c F x.2.1 y.1 k) (fun x y k => T75n F x.2.1 y.1 k) (eq75 F)
end Go.Proofs.YthikoaamigiceaaDoor
/- (*kinkeep/wire.Writer).Uint: its twin, and that the call does what the twin says. Printed by a program. -/
namespace Go.Proofs.YthikoaamigiceaaDoor
open Go.Tw
set_option linter.unusedSimpArgs false
set_option linter.unusedVariables false
def ord73 : Nat → List (Tag × Nat)
  | _ => []
def al73 : Nat → Option Nat
  | _ => none
def ms73 : Nat → Option (List (Option Tag × Nat × List Nat))
  | _ => none
def E73 (F : Nat) : Ev := ⟨cfg, 18, ctOf [(75, ct75 F)], ord73, ctOf [], al73, ms73⟩
theorem cts73 (F : Nat) : CtsOk Tryd.prog (E73 F) := cts_of (l := [(75, ct75 F)]) (l' := []) rfl rfl ⟨⟨ok75 F, _, Tryd.func75, rfl, rfl⟩, trivial⟩ trivial
def T73c (F : Nat) (p0 : UInt64) (p1 : Int) {β : Type} (k : ((List UInt8)) → Option β) : Option β :=
  (bif (p1 == (0 : Int)) then (Option.bind (T75 F p0 ([] : List UInt8)) fun z2 => (k z2)) else (k ([] : List UInt8)))
def T73 (F : Nat) (p0 : UInt64) (p1 : Int) : Option ((List UInt8)) := T73c F p0 p1 some
theorem T73n (F : Nat) (p0 : UInt64) (p1 : Int) {β : Type} (k : ((List UInt8)) → Option β) : T73c F p0 p1 k = (T73 F p0 p1).bind k := by
  simp only [T73, T73c, Option.bind_assoc, cond_bind, Option.bind_some, Option.bind_none, elimS_bind]
@[reducible] def cA73 : List Sh := [(.pt 0 []), .u64]
@[reducible] def cB73 : List Sh := []
@[reducible] def cT73 : List TSh := [.blk 112 (.pr .ns (.pr .i .un))]
@[reducible] def cU73 : List TSh := [.blk 112 (.pr (.rw 1) (.pr .i .un)), .row 5 .u8]
def ct73 (F : Nat) : Ct := mkC 1 cA73 cT73 cB73 cU73 (fun x y => T73 F x.2.1 y.1.2.1) (fun x y (z : (List UInt8)) => ((), (((), y.1.2.1, ()), z, ())))
theorem eq73 (F : Nat) (x : dens cA73) (y : tdens cT73) : sev (E73 F) 1 [] (bodyOf Tryd.f73) [] (mkSt (rng 2) cA73 cT73 x y) (kFn (E73 F) 1 Tryd.f73.results.toList cB73 cU73 fun p q => some (p, q)) =
    T73c F x.2.1 y.1.2.1 (fun z => some ((), (((), y.1.2.1, ()), z, ()))) := by kernel_rfl
theorem ok73 (F : Nat) : Sound Tryd.prog cfg 73 (ct73 F) :=
  mkC_ok (E := E73 F) (lp := []) (code := bodyOf Tryd.f73) Tryd.func73 rfl Tryd.ntmps73 rfl rfl cok (cts73 F) mixed trivial (by kernel_rfl) (fun x y k => T73c F x.2.1 y.1.2.1 k) (fun x y k => T73n F x.2.1 y.1.2.1 k) (eq73 F)
end Go.Proofs.YthikoaamigiceaaDoor
/- (*kinkeep/wire.Writer).Int: its twin, and that the call does what the twin says. Printed by a program. -/
namespace Go.Proofs.YthikoaamigiceaaDoor
open Go.Tw
set_option linter.unusedSimpArgs false
set_option linter.unusedVariables false
def ord44 : Nat → List (Tag × Nat)
  | _ => []
def al44 : Nat → Option Nat
  | _ => none
def ms44 : Nat → Option (List (Option Tag × Nat × List Nat))
  | _ => none
def E44 (F : Nat) : Ev := ⟨cfg, 8, ctOf [(74, ct74 F), (73, ct73 F)], ord44, ctOf [], al44, ms44⟩
theorem cts44 (F : Nat) : CtsOk Tryd.prog (E44 F) := cts_of (l := [(74, ct74 F), (73, ct73 F)]) (l' := []) rfl rfl ⟨⟨ok74 F, _, Tryd.func74, rfl, rfl⟩, ⟨⟨ok73 F, _, Tryd.func73, rfl, rfl⟩, trivial⟩⟩ trivial
def T44c (F : Nat) (p0 : Int) (p1 : Int) {β : Type} (k : ((List UInt8)) → Option β) : Option β :=
  (Option.bind (T74 F p0) fun z3 => (Option.bind (T73 F z3 p1) fun z4 => (k z4)))
def T44 (F : Nat) (p0 : Int) (p1 : Int) : Option ((List UInt8)) := T44c F p0 p1 some
theorem T44n (F : Nat) (p0 : Int) (p1 : Int) {β : Type} (k : ((List UInt8)) → Option β) : T44c F p0 p1 k = (T44 F p0 p1).bind k := by
  simp only [T44, T44c, Option.bind_assoc, cond_bind, Option.bind_some, Option.bind_none, elimS_bind]
@[reducible] def cA44 : List Sh := [(.pt 0 []), .i]
@[reducible] def cB44 : List Sh := []
@[reducible] def cT44 : List TSh := [.blk 112 (.pr .ns (.pr .i .un))]
@[reducible] def cU44 : List TSh := [.blk 112 (.pr (.rw 1) (.pr .i .un)), .row 5 .u8]
def ct44 (F : Nat) : Ct := mkC 1 cA44 cT44 cB44 cU44 (fun x y => T44 F x.2.1 y.1.2.1) (fun x y (z : (List UInt8)) => ((), (((), y.1.2.1, ()), z, ())))
theorem eq44 (F : Nat) (x : dens cA44) (y : tdens cT44) : sev (E44 F) 1 [] (bodyOf Tryd.f44) [] (mkSt (rng 2) cA44 cT44 x y) (kFn (E44 F) 1 Tryd.f44.results.toList cB44 cU44 fun p q => some (p, q)) =
    T44c F x.2.1 y.1.2.1 (fun z => some ((), (((), y.1.2.1, ()), z, ()))) := by kernel_rfl
theorem ok44 (F : Nat) : Sound Tryd.prog cfg 44 (ct44 F) :=
  mkC_ok (E := E44 F) (lp := []) (code := bodyOf Tryd.f44) Tryd.func44 rfl Tryd.ntmps44 rfl rfl cok (cts44 F) mixed trivial (by kernel_rfl) (fun x y k => T44c F x.2.1 y.1.2.1 k) (fun x y k => T44n F x.2.1 y.1.2.1 k) (eq44 F)
end Go.Proofs.YthikoaamigiceaaDoor
/- (*kinkeep/wire.Writer).Uint: its twin, and that the call does what the twin says. Printed by a program. -/
namespace Go.Proofs.YthikoaamigiceaaDoor
open Go.Tw
set_option linter.unusedSimpArgs false
set_option linter.unusedVariables false
def ord73x1 : Nat → List (Tag × Nat)
  | _ => []
def al73x1 : Nat → Option Nat
  | _ => none
def ms73x1 : Nat → Option (List (Option Tag × Nat × List Nat))
  | _ => none
def E73x1 (F : Nat) : Ev := ⟨cfg, 18, ctOf [(75, ct75 F)], ord73x1, ctOf [], al73x1, ms73x1⟩
theorem cts73x1 (F : Nat) : CtsOk Tryd.prog (E73x1 F) := cts_of (l := [(75, ct75 F)]) (l' := []) rfl rfl ⟨⟨ok75 F, _, Tryd.func75, rfl, rfl⟩, trivial⟩ trivial
def T73x1c (F : Nat) (p0 : UInt64) (p1 : Int) (p2 : List UInt8) {β : Type} (k : ((List UInt8)) → Option β) : Option β :=
  (bif (p1 == (0 : Int)) then (Option.bind (T75 F p0 p2) fun z2 => (k z2)) else (k p2))
def T73x1 (F : Nat) (p0 : UInt64) (p1 : Int) (p2 : List UInt8) : Option ((List UInt8)) := T73x1c F p0 p1 p2 some
theorem T73x1n (F : Nat) (p0 : UInt64) (p1 : Int) (p2 : List UInt8) {β : Type} (k : ((List UInt8)) → Option β) : T73x1c F p0 p1 p2 k = (T73x1 F p0 p1 p2).bind k := by
  simp only [T73x1, T73x1c, Option.bind_assoc, cond_bind, Option.bind_some, Option.bind_none, elimS_bind]
@[reducible] def cA73x1 : List Sh := [(.pt 0 []), .u64]
@[reducible] def cB73x1 : List Sh := []
@[reducible] def cT73x1 : List TSh := [.blk 112 (.pr (.rw 1) (.pr .i .un)), .row 5 .u8]
@[reducible] def cU73x1 : List TSh := [.blk 112 (.pr (.rw 1) (.pr .i .un)), .row 5 .u8]
def ct73x1 (F : Nat) : Ct := mkC 1 cA73x1 cT73x1 cB73x1 cU73x1 (fun x y => T73x1 F x.2.1 y.1.2.1 y.2.1) (fun x y (z : (List UInt8)) => ((), (((), y.1.2.1, ()), z, ())))
theorem eq73x1 (F : Nat) (x : dens cA73x1) (y : tdens cT73x1) : sev (E73x1 F) 1 [] (bodyOf Tryd.f73) [] (mkSt (rng 2) cA73x1 cT73x1 x y) (kFn (E73x1 F) 1 Tryd.f73.results.toList cB73x1 cU73x1 fun p q => some (p, q)) =
    T73x1c F x.2.1 y.1.2.1 y.2.1 (fun z => some ((), (((), y.1.2.1, ()), z, ()))) := by kernel_rfl
theorem ok73x1 (F : Nat) : Sound Tryd.prog cfg 73 (ct73x1 F) :=
  mkC_ok (E := E73x1 F) (lp := []) (code := bodyOf Tryd.f73) Tryd.func73 rfl Tryd.ntmps73 rfl rfl cok (cts73x1 F) mixed trivial (by kernel_rfl) (fun x y k => T73x1c F x.2.1 y.1.2.1 y.2.1 k) (fun x y k => T73x1n F x.2.1 y.1.2.1 y.2.1 k) (eq73x1 F)
end Go.Proofs.YthikoaamigiceaaDoor
/- (*kinkeep/wire.Writer).Int: its twin, and that the call does what the twin says. Printed by a program. -/
namespace Go.Proofs.YthikoaamigiceaaDoor
open Go.Tw
set_option linter.unusedSimpArgs false
set_option linter.unusedVariables false
def ord44x1 : Nat → List (Tag × Nat)
  | _ => []
def al44x1 : Nat → Option Nat
  | _ => none
def ms44x1 : Nat → Option (List (Option Tag × Nat × List Nat))
  | _ => none
def E44x1 (F : Nat) : Ev := ⟨cfg, 8, ctOf [(74, ct74 F), (73, ct73x1 F)], ord44x1, ctOf [], al44x1, ms44x1⟩
theorem cts44x1 (F : Nat) : CtsOk Tryd.prog (E44x1 F) := cts_of (l := [(74, ct74 F), (73, ct73x1 F)]) (l' := []) rfl rfl ⟨⟨ok74 F, _, Tryd.func74, rfl, rfl⟩, ⟨⟨ok73x1 F, _, Tryd.func73, rfl, rfl⟩, trivial⟩⟩ trivial
def T44x1c (F : Nat) (p0 : Int) (p1 : Int) (p2 : List UInt8) {β : Type} (k : ((List UInt8)) → Option β) : Option β :=
  (Option.bind (T74 F p0) fun z3 => (Option.bind (T73x1 F z3 p1 p2) fun z4 => (k z4)))
def T44x1 (F : Nat) (p0 : Int) (p1 : Int) (p2 : List UInt8) : Option ((List UInt8)) := T44x1c F p0 p1 p2 some
theorem T44x1n (F : Nat) (p0 : Int) (p1 : Int) (p2 : List UInt8) {β : Type} (k : ((List UInt8)) → Option β) : T44x1c F p0 p1 p2 k = (T44x1 F p0 p1 p2).bind k := by
  simp only [T44x1, T44x1c, Option.bind_assoc, cond_bind, Option.bind_some, Option.bind_none, elimS_bind]
@[reducible] def cA44x1 : List Sh := [(.pt 0 []), .i]
@[reducible] def cB44x1 : List Sh := []
@[reducible] def cT44x1 : List TSh := [.blk 112 (.pr (.rw 1) (.pr .i .un)), .row 5 .u8]
@[reducible] def cU44x1 : List TSh := [.blk 112 (.pr (.rw 2) (.pr .i .un)), .no, .row 5 .u8]
def ct44x1 (F : Nat) : Ct := mkC 2 cA44x1 cT44x1 cB44x1 cU44x1 (fun x y => T44x1 F x.2.1 y.1.2.1 y.2.1) (fun x y (z : (List UInt8)) => ((), (((), y.1.2.1, ()), (), z, ())))
theorem eq44x1 (F : Nat) (x : dens cA44x1) (y : tdens cT44x1) : sev (E44x1 F) 2 [] (bodyOf Tryd.f44) [] (mkSt (rng 2) cA44x1 cT44x1 x y) (kFn (E44x1 F) 2 Tryd.f44.results.toList cB44x1 cU44x1 fun p q => some (p, q)) =
    T44x1c F x.2.1 y.1.2.1 y.2.1 (fun z => some ((), (((), y.1.2.1, ()), (), z, ()))) := by kernel_rfl
theorem ok44x1 (F : Nat) : Sound Tryd.prog cfg 44 (ct44x1 F) :=
  mkC_ok (E := E44x1 F) (lp := []) (code := bodyOf Tryd.f44) Tryd.func44 rfl Tryd.ntmps44 rfl rfl cok (cts44x1 F) mixed trivial (by kernel_rfl) (fun x y k => T44x1c F x.2.1 y.1.2.1 y.2.1 k) (fun x y k => T44x1n F x.2.1 y.1.2.1 y.2.1 k) (eq44x1 F)
end Go.Proofs.YthikoaamigiceaaDoor
/- kinkeep/keyring.writeInts: its twin, and that the call does what the twin says. Printed by a program. -/
namespace Go.Proofs.YthikoaamigiceaaDoor
open Go.Tw
set_option linter.unusedSimpArgs false
set_option linter.unusedVariables false
def ord41 : Nat → List (Tag × Nat)
  | _ => []
def al41 : Nat → Option Nat
  | _ => none
def ms41 : Nat → Option (List (Option Tag × Nat × List Nat))
  | _ => none
def E41 (F : Nat) : Ev := ⟨cfg, 16, ctOf [(44, ct44 F), (44, ct44x1 F)], ord41, ctOf [], al41, ms41⟩
theorem cts41 (F : Nat) : CtsOk Tryd.prog (E41 F) := cts_of (l := [(44, ct44 F), (44, ct44x1 F)]) (l' := []) rfl rfl ⟨⟨ok44 F, _, Tryd.func44, rfl, rfl⟩, ⟨⟨ok44x1 F, _, Tryd.func44, rfl, rfl⟩, trivial⟩⟩ trivial
def L41_2c (F : Nat) (y23 : List Int) (y24 : Int) (y26 : Int) (y25 : Int) (y27 : List UInt8) {β : Type} (kA : (Int × (List UInt8)) → Option β) (kO : ((List UInt8)) → Option β) : Option β :=
  (bif (decide (y25 < y24)) then (Option.bind (ix y23 y25) fun x30 => (Option.bind (T44x1 F x30 y26 y27) fun z31 => (kA ((w64 (y25 + (1 : Int))), z31)))) else (kO y27))
def L41_2 (F : Nat) (y23 : List Int) (y24 : Int) (y26 : Int) (y25 : Int) (y27 : List UInt8) : Option ((Int × (List UInt8)) ⊕ ((List UInt8))) := L41_2c F y23 y24 y26 y25 y27 (fun s => some (.inl s)) (fun z => some (.inr z))
theorem L41_2n (F : Nat) (y23 : List Int) (y24 : Int) (y26 : Int) (y25 : Int) (y27 : List UInt8) {β : Type} (kA : (Int × (List UInt8)) → Option β) (kO : ((List UInt8)) → Option β) : L41_2c F y23 y24 y26 y25 y27 kA kO = (L41_2 F y23 y24 y26 y25 y27).bind (elimS kA kO) := by
  simp only [L41_2, L41_2c, Option.bind_assoc, cond_bind, Option.bind_some, Option.bind_none, elimS_l, elimS_r, elimS_bind]
@[reducible] def sA41_2 : List Sh := [(.pt 0 []), (.ro .i), .i, .i]
@[reducible] def sAp141_2 : List Sh := []
@[reducible] def sT41_2 : List TSh := [.blk 112 (.pr (.rw 1) (.pr .i .un)), .row 5 .u8]
@[reducible] def sTp141_2 : List TSh := [.blk 112 (.pr (.rw 1) (.pr .i .un)), .row 5 .u8]
def lc41_2 (F : Nat) : Lc := mkL [0, 6, 7, 8] sA41_2 sT41_2 [] sAp141_2 sTp141_2 F (fun x y (s : Int × (List UInt8)) => L41_2 F x.2.1 x.2.2.1 y.1.2.1 s.1 s.2) (fun x y => (x.2.2.2.1, y.2.1)) (fun x y (z : (List UInt8)) => ((), (((), y.1.2.1, ()), z, ())))
theorem le41_2 (F : Nat) (x : dens sA41_2) (y : tdens sT41_2) (s : Int × (List UInt8)) : sev (E41 F) 1 [] (cAt (bodyOf Tryd.f41) (0 :: 0 :: [1])) (0 :: 0 :: [1]) (mkSt [0, 6, 7, 8] sA41_2 sT41_2 ((), x.2.1, x.2.2.1, s.1, ()) (((), y.1.2.1, ()), s.2, ())) (kLoop 1 [0, 6, 7, 8] sA41_2 sT41_2 [] sAp141_2 sTp141_2 [] [] [] 0 (fun x y => some (.inl (x, y))) (fun x y => some (.inr (.inl (x, y)))) (fun x y => some (.inr (.inr (x, y))))) =
    L41_2c (β := Full sA41_2 sT41_2 sAp141_2 sTp141_2 [] []) F x.2.1 x.2.2.1 y.1.2.1 s.1 s.2 (fun s => some (.inl (((), x.2.1, x.2.2.1, s.1, ()), (((), y.1.2.1, ()), s.2, ())))) (fun z => some (.inr (.inl ((), (((), y.1.2.1, ()), z, ()))))) := by kernel_rfl
theorem lo41_2 (F : Nat) : LcOk Tryd.prog (E41 F) 1 (lc41_2 F) (cAt (bodyOf Tryd.f41) [1]) :=
  mkL_ok (lp := []) (id := 0) (b := cAt (bodyOf Tryd.f41) (0 :: 0 :: [1])) cok (cts41 F) mixed trivial (by kernel_rfl) (by kernel_rfl) (fun x y s => ((), x.2.1, x.2.2.1, s.1, ())) (fun x y s => (((), y.1.2.1, ()), s.2, ())) (fun x y => rfl) (fun x y => rfl) (fun x y s kA kO => L41_2c F x.2.1 x.2.2.1 y.1.2.1 s.1 s.2 kA kO) (fun x y s kA kO => L41_2n F x.2.1 x.2.2.1 y.1.2.1 s.1 s.2 kA kO) (le41_2 F)
def T41c (F : Nat) (p0 : List Int) (p1 : Int) {β : Type} (k : ((List UInt8)) → Option β) : Option β :=
  (Option.bind (iter (fun s => L41_2 F p0 (p0.length : Int) p1 s.1 s.2) F ((0 : Int), ([] : List UInt8))) fun z32 => (k z32))
def T41 (F : Nat) (p0 : List Int) (p1 : Int) : Option ((List UInt8)) := T41c F p0 p1 some
theorem T41n (F : Nat) (p0 : List Int) (p1 : Int) {β : Type} (k : ((List UInt8)) → Option β) : T41c F p0 p1 k = (T41 F p0 p1).bind k := by
  simp only [T41, T41c, Option.bind_assoc, cond_bind, Option.bind_some, Option.bind_none, elimS_bind]
@[reducible] def cA41 : List Sh := [(.pt 0 []), (.ro .i)]
@[reducible] def cB41 : List Sh := []
@[reducible] def cT41 : List TSh := [.blk 112 (.pr .ns (.pr .i .un))]
@[reducible] def cU41 : List TSh := [.blk 112 (.pr (.rw 1) (.pr .i .un)), .row 5 .u8]
def ct41 (F : Nat) : Ct := mkC 1 cA41 cT41 cB41 cU41 (fun x y => T41 F x.2.1 y.1.2.1) (fun x y (z : (List UInt8)) => ((), (((), y.1.2.1, ()), z, ())))
theorem eq41 (F : Nat) (x : dens cA41) (y : tdens cT41) : sev (E41 F) 1 [([1], lc41_2 F)] (bodyOf Tryd.f41) [] (mkSt (rng 2) cA41 cT41 x y) (kFn (E41 F) 1 Tryd.f41.results.toList cB41 cU41 fun p q => some (p, q)) =
    T41c F x.2.1 y.1.2.1 (fun z => some ((), (((), y.1.2.1, ()), z, ()))) := by kernel_rfl
theorem ok41 (F : Nat) : Sound Tryd.prog cfg 41 (ct41 F) :=
  mkC_ok (E := E41 F) (lp := [([1], lc41_2 F)]) (code := bodyOf Tryd.f41) Tryd.func41 rfl Tryd.ntmps41 rfl rfl cok (cts41 F) mixed ⟨lo41_2 F, trivial⟩ (by kernel_rfl) (fun x y k => T41c F x.2.1 y.1.2.1 k) (fun x y k => T41n F x.2.1 y.1.2.1 k) (eq41 F)
end Go.Proofs.YthikoaamigiceaaDoor
/- (*kinkeep/wire.Writer).Count: its twin, and that the call does what the twin says. Printed by a program. -/
namespace Go.Proofs.YthikoaamigiceaaDoor
open Go.Tw
set_option linter.unusedSimpArgs false
set_option linter.unusedVariables false
def ord72 : Nat → List (Tag × Nat)
  | _ => []
def al72 : Nat → Option Nat
  | _ => none
def ms72 : Nat → Option (List (Option Tag × Nat × List Nat))
  | _ => none
def E72 (F : Nat) : Ev := ⟨cfg, 18, ctOf [(73, ct73x1 F)], ord72, ctOf [], al72, ms72⟩
theorem cts72 (F : Nat) : CtsOk Tryd.prog (E72 F) := cts_of (l := [(73, ct73x1 F)]) (l' := []) rfl rfl ⟨⟨ok73x1 F, _, Tryd.func73, rfl, rfl⟩, trivial⟩ trivial
def T72c (F : Nat) (p0 : Int) (p1 : Int) (p2 : List UInt8) {β : Type} (k : (Int × (List UInt8)) → Option β) : Option β :=
  (bif (p1 != (0 : Int)) then (k (p1, p2)) else (bif (decide (p0 < (0 : Int))) then (k ((1 : Int), p2)) else (Option.bind (T73x1 F (UInt64.ofInt p0) p1 p2) fun z2 => (k (p1, z2)))))
def T72 (F : Nat) (p0 : Int) (p1 : Int) (p2 : List UInt8) : Option (Int × (List UInt8)) := T72c F p0 p1 p2 some
theorem T72n (F : Nat) (p0 : Int) (p1 : Int) (p2 : List UInt8) {β : Type} (k : (Int × (List UInt8)) → Option β) : T72c F p0 p1 p2 k = (T72 F p0 p1 p2).bind k := by
  simp only [T72, T72c, Option.bind_assoc, cond_bind, Option.bind_some, Option.bind_none, elimS_bind]
@[reducible] def cA72 : List Sh := [(.pt 0 []), .i]
@[reducible] def cB72 : List Sh := []
@[reducible] def cT72 : List TSh := [.blk 112 (.pr (.rw 1) (.pr .i .un)), .row 5 .u8]
@[reducible] def cU72 : List TSh := [.blk 112 (.pr (.rw 1) (.pr .i .un)), .row 5 .u8]
def ct72 (F : Nat) : Ct := mkC 1 cA72 cT72 cB72 cU72 (fun x y => T72 F x.2.1 y.1.2.1 y.2.1) (fun x y (z : Int × (List UInt8)) => ((), (((), z.1, ()), z.2, ())))
theorem eq72 (F : Nat) (x : dens cA72) (y : tdens cT72) : sev (E72 F) 1 [] (bodyOf Tryd.f72) [] (mkSt (rng 2) cA72 cT72 x y) (kFn (E72 F) 1 Tryd.f72.results.toList cB72 cU72 fun p q => some (p, q)) =
    T72c F x.2.1 y.1.2.1 y.2.1 (fun z => some ((), (((), z.1, ()), z.2, ()))) := by kernel_rfl
theorem ok72 (F : Nat) : Sound Tryd.prog cfg 72 (ct72 F) :=
  mkC_ok (E := E72 F) (lp := []) (code := bodyOf Tryd.f72) Tryd.func72 rfl Tryd.ntmps72 rfl rfl cok (cts72 F) mixed trivial (by kernel_rfl) (fun x y k => T72c F x.2.1 y.1.2.1 y.2.1 k) (fun x y k => T72n F x.2.1 y.1.2.1 y.2.1 k) (eq72 F)
end Go.Proofs.YthikoaamigiceaaDoor
/- kinkeep/keyring.EncodeIndex$1: its twin, and that the call does what the twin says. Printed by a program. -/
namespace Go.Proofs.YthikoaamigiceaaDoor
open Go.Tw
set_option linter.unusedSimpArgs false
set_option linter.unusedVariables false
def ord43 : Nat → List (Tag × Nat)
  | _ => []
def al43 : Nat → Option Nat
  | _ => none
def ms43 : Nat → Option (List (Option Tag × Nat × List Nat))
  | _ => none
def E43 (F : Nat) : Ev := ⟨cfg, 6, ctOf [(44, ct44x1 F)], ord43, ctOf [], al43, ms43⟩
theorem cts43 (F : Nat) : CtsOk Tryd.prog (E43 F) := cts_of (l := [(44, ct44x1 F)]) (l' := []) rfl rfl ⟨⟨ok44x1 F, _, Tryd.func44, rfl, rfl⟩, trivial⟩ trivial
def T43c (F : Nat) (p0 : Int) (p1 : Int) (p2 : List UInt8) {β : Type} (k : ((List UInt8)) → Option β) : Option β :=
  (Option.bind (T44x1 F p0 p1 p2) fun z2 => (k z2))
def T43 (F : Nat) (p0 : Int) (p1 : Int) (p2 : List UInt8) : Option ((List UInt8)) := T43c F p0 p1 p2 some
theorem T43n (F : Nat) (p0 : Int) (p1 : Int) (p2 : List UInt8) {β : Type} (k : ((List UInt8)) → Option β) : T43c F p0 p1 p2 k = (T43 F p0 p1 p2).bind k := by
  simp only [T43, T43c, Option.bind_assoc, cond_bind, Option.bind_some, Option.bind_none, elimS_bind]
@[reducible] def cA43 : List Sh := [.i, (.pt 0 [])]
@[reducible] def cB43 : List Sh := []
@[reducible] def cT43 : List TSh := [.blk 75 (.pt 1 []), .blk 112 (.pr (.rw 2) (.pr .i .un)), .row 5 .u8]
@[reducible] def cU43 : List TSh := [.blk 75 (.pt 1 []), .blk 112 (.pr (.rw 3) (.pr .i .un)), .no, .row 5 .u8]
def ct43 (F : Nat) : Ct := mkC 3 cA43 cT43 cB43 cU43 (fun x y => T43 F x.1 y.2.1.2.1 y.2.2.1) (fun x y (z : (List UInt8)) => ((), ((), ((), y.2.1.2.1, ()), (), z, ())))
theorem eq43 (F : Nat) (x : dens cA43) (y : tdens cT43) : sev (E43 F) 3 [] (bodyOf Tryd.f43) [] (mkSt (rng 2) cA43 cT43 x y) (kFn (E43 F) 3 Tryd.f43.results.toList cB43 cU43 fun p q => some (p, q)) =
    T43c F x.1 y.2.1.2.1 y.2.2.1 (fun z => some ((), ((), ((), y.2.1.2.1, ()), (), z, ()))) := by kernel_rfl
theorem ok43 (F : Nat) : Sound Tryd.prog cfg 43 (ct43 F) :=
  mkC_ok (E := E43 F) (lp := []) (code := bodyOf Tryd.f43) Tryd.func43 rfl Tryd.ntmps43 rfl rfl cok (cts43 F) mixed trivial (by kernel_rfl) (fun x y k => T43c F x.1 y.2.1.2.1 y.2.2.1 k) (fun x y k => T43n F x.1 y.2.1.2.1 y.2.2.1 k) (eq43 F)
end Go.Proofs.YthikoaamigiceaaDoor
/- kinkeep/keyring.writeList[int]: its twin, and that the call does what the twin says. Printed by a program. -/
namespace Go.Proofs.YthikoaamigiceaaDoor
open Go.Tw
set_option linter.unusedSimpArgs false
set_option linter.unusedVariables false
def ord42 : Nat → List (Tag × Nat)
  | _ => []
def al42 : Nat → Option Nat
  | _ => none
def ms42 : Nat → Option (List (Option Tag × Nat × List Nat))
  | _ => none
def E42 (F : Nat) : Ev := ⟨cfg, 22, ctOf [(72, ct72 F), (43, ct43 F)], ord42, ctOf [], al42, ms42⟩
theorem cts42 (F : Nat) : CtsOk Tryd.prog (E42 F) := cts_of (l := [(72, ct72 F), (43, ct43 F)]) (l' := []) rfl rfl ⟨⟨ok72 F, _, Tryd.func72, rfl, rfl⟩, ⟨⟨ok43 F, _, Tryd.func43, rfl, rfl⟩, trivial⟩⟩ trivial
def L42_2c (F : Nat) (y13 : List Int) (y14 : Int) (y16 : Int) (y15 : Int) (y17 : List UInt8) {β : Type} (kA : (Int × (List UInt8)) → Option β) (kO : ((List UInt8)) → Option β) : Option β :=
  (bif (decide (y15 < y14)) then (Option.bind (ix y13 y15) fun x20 => (Option.bind (T43 F x20 y16 y17) fun z21 => (kA ((w64 (y15 + (1 : Int))), z21)))) else (kO y17))
def L42_2 (F : Nat) (y13 : List Int) (y14 : Int) (y16 : Int) (y15 : Int) (y17 : List UInt8) : Option ((Int × (List UInt8)) ⊕ ((List UInt8))) := L42_2c F y13 y14 y16 y15 y17 (fun s => some (.inl s)) (fun z => some (.inr z))
theorem L42_2n (F : Nat) (y13 : List Int) (y14 : Int) (y16 : Int) (y15 : Int) (y17 : List UInt8) {β : Type} (kA : (Int × (List UInt8)) → Option β) (kO : ((List UInt8)) → Option β) : L42_2c F y13 y14 y16 y15 y17 kA kO = (L42_2 F y13 y14 y16 y15 y17).bind (elimS kA kO) := by
  simp only [L42_2, L42_2c, Option.bind_assoc, cond_bind, Option.bind_some, Option.bind_none, elimS_l, elimS_r, elimS_bind]
@[reducible] def sA42_2 : List Sh := [(.fn 43 .un (.pr (.pt 1 []) .un)), (.ro .i), .i, .i]
@[reducible] def sAp142_2 : List Sh := []
@[reducible] def sT42_2 : List TSh := [.blk 112 (.pr (.rw 3) (.pr .i .un)), .blk 75 (.pt 0 []), .no, .row 5 .u8]
@[reducible] def sTp142_2 : List TSh := [.blk 112 (.pr (.rw 3) (.pr .i .un)), .blk 75 (.pt 0 []), .no, .row 5 .u8]
def lc42_2 (F : Nat) : Lc := mkL [2, 12, 13, 14] sA42_2 sT42_2 [] sAp142_2 sTp142_2 F (fun x y (s : Int × (List UInt8)) => L42_2 F x.2.1 x.2.2.1 y.1.2.1 s.1 s.2) (fun x y => (x.2.2.2.1, y.2.2.2.1)) (fun x y (z : (List UInt8)) => ((), (((), y.1.2.1, ()), (), (), z, ())))
theorem le42_2 (F : Nat) (x : dens sA42_2) (y : tdens sT42_2) (s : Int × (List UInt8)) : sev (E42 F) 3 [] (cAt (bodyOf Tryd.f42) (0 :: 0 :: [1, 1])) (0 :: 0 :: [1, 1]) (mkSt [2, 12, 13, 14] sA42_2 sT42_2 (((), ((), ())), x.2.1, x.2.2.1, s.1, ()) (((), y.1.2.1, ()), (), (), s.2, ())) (kLoop 3 [2, 12, 13, 14] sA42_2 sT42_2 [] sAp142_2 sTp142_2 [] [] [] 0 (fun x y => some (.inl (x, y))) (fun x y => some (.inr (.inl (x, y)))) (fun x y => some (.inr (.inr (x, y))))) =
    L42_2c (β := Full sA42_2 sT42_2 sAp142_2 sTp142_2 [] []) F x.2.1 x.2.2.1 y.1.2.1 s.1 s.2 (fun s => some (.inl ((((), ((), ())), x.2.1, x.2.2.1, s.1, ()), (((), y.1.2.1, ()), (), (), s.2, ())))) (fun z => some (.inr (.inl ((), (((), y.1.2.1, ()), (), (), z, ()))))) := by kernel_rfl
theorem lo42_2 (F : Nat) : LcOk Tryd.prog (E42 F) 3 (lc42_2 F) (cAt (bodyOf Tryd.f42) [1, 1]) :=
  mkL_ok (lp := []) (id := 0) (b := cAt (bodyOf Tryd.f42) (0 :: 0 :: [1, 1])) cok (cts42 F) mixed trivial (by kernel_rfl) (by kernel_rfl) (fun x y s => (((), ((), ())), x.2.1, x.2.2.1, s.1, ())) (fun x y s => (((), y.1.2.1, ()), (), (), s.2, ())) (fun x y => rfl) (fun x y => rfl) (fun x y s kA kO => L42_2c F x.2.1 x.2.2.1 y.1.2.1 s.1 s.2 kA kO) (fun x y s kA kO => L42_2n F x.2.1 x.2.2.1 y.1.2.1 s.1 s.2 kA kO) (le42_2 F)
def T42c (F : Nat) (p0 : List Int) (p1 : Int) (p2 : List UInt8) {β : Type} (k : (Int × (List UInt8)) → Option β) : Option β :=
  (Option.bind (T72 F (p0.length : Int) p1 p2) fun z12 => (Option.bind (iter (fun s => L42_2 F p0 (p0.length : Int) z12.1 s.1 s.2) F ((0 : Int), z12.2)) fun z22 => (k (z12.1, z22))))
def T42 (F : Nat) (p0 : List Int) (p1 : Int) (p2 : List UInt8) : Option (Int × (List UInt8)) := T42c F p0 p1 p2 some
theorem T42n (F : Nat) (p0 : List Int) (p1 : Int) (p2 : List UInt8) {β : Type} (k : (Int × (List UInt8)) → Option β) : T42c F p0 p1 p2 k = (T42 F p0 p1 p2).bind k := by
  simp only [T42, T42c, Option.bind_assoc, cond_bind, Option.bind_some, Option.bind_none, elimS_bind]
@[reducible] def cA42 : List Sh := [(.pt 0 []), (.ro .i), (.fn 43 .un (.pr (.pt 1 []) .un))]
@[reducible] def cB42 : List Sh := []
@[reducible] def cT42 : List TSh := [.blk 112 (.pr (.rw 2) (.pr .i .un)), .blk 75 (.pt 0 []), .row 5 .u8]
@[reducible] def cU42 : List TSh := [.blk 112 (.pr (.rw 3) (.pr .i .un)), .blk 75 (.pt 0 []), .no, .row 5 .u8]
def ct42 (F : Nat) : Ct := mkC 3 cA42 cT42 cB42 cU42 (fun x y => T42 F x.2.1 y.1.2.1 y.2.2.1) (fun x y (z : Int × (List UInt8)) => ((), (((), z.1, ()), (), (), z.2, ())))
theorem eq42 (F : Nat) (x : dens cA42) (y : tdens cT42) : sev (E42 F) 3 [([1, 1], lc42_2 F)] (bodyOf Tryd.f42) [] (mkSt (rng 3) cA42 cT42 x y) (kFn (E42 F) 3 Tryd.f42.results.toList cB42 cU42 fun p q => some (p, q)) =
    T42c F x.2.1 y.1.2.1 y.2.2.1 (fun z => some ((), (((), z.1, ()), (), (), z.2, ()))) := by kernel_rfl
theorem ok42 (F : Nat) : Sound Tryd.prog cfg 42 (ct42 F) :=
  mkC_ok (E := E42 F) (lp := [([1, 1], lc42_2 F)]) (code := bodyOf Tryd.f42) Tryd.func42 rfl Tryd.ntmps42 rfl rfl cok (cts42 F) mixed ⟨lo42_2 F, trivial⟩ (by kernel_rfl) (fun x y k => T42c F x.2.1 y.1.2.1 y.2.2.1 k) (fun x y k => T42n F x.2.1 y.1.2.1 y.2.2.1 k) (eq42 F)
end Go.Proofs.YthikoaamigiceaaDoor
/- kinkeep/keyring.writeInts: its twin, and that the call does what the twin says. Printed by a program. -/
namespace Go.Proofs.YthikoaamigiceaaDoor
open Go.Tw
set_option linter.unusedSimpArgs false
set_option linter.unusedVariables false
def ord41x1 : Nat → List (Tag × Nat)
  | _ => []
def al41x1 : Nat → Option Nat
  | _ => none
def ms41x1 : Nat → Option (List (Option Tag × Nat × List Nat))
  | _ => none
def E41x1 (F : Nat) : Ev := ⟨cfg, 16, ctOf [(44, ct44x1 F)], ord41x1, ctOf [], al41x1, ms41x1⟩
theorem cts41x1 (F : Nat) : CtsOk Tryd.prog (E41x1 F) := cts_of (l := [(44, ct44x1 F)]) (l' := []) rfl rfl ⟨⟨ok44x1 F, _, Tryd.func44, rfl, rfl⟩, trivial⟩ trivial
def L41x1_2c (F : Nat) (y11 : List Int) (y12 : Int) (y14 : Int) (y13 : Int) (y15 : List UInt8) {β : Type} (kA : (Int × (List UInt8)) → Option β) (kO : ((List UInt8)) → Option β) : Option β :=
  (bif (decide (y13 < y12)) then (Option.bind (ix y11 y13) fun x18 => (Option.bind (T44x1 F x18 y14 y15) fun z19 => (kA ((w64 (y13 + (1 : Int))), z19)))) else (kO y15))
def L41x1_2 (F : Nat) (y11 : List Int) (y12 : Int) (y14 : Int) (y13 : Int) (y15 : List UInt8) : Option ((Int × (List UInt8)) ⊕ ((List UInt8))) := L41x1_2c F y11 y12 y14 y13 y15 (fun s => some (.inl s)) (fun z => some (.inr z))
theorem L41x1_2n (F : Nat) (y11 : List Int) (y12 : Int) (y14 : Int) (y13 : Int) (y15 : List UInt8) {β : Type} (kA : (Int × (List UInt8)) → Option β) (kO : ((List UInt8)) → Option β) : L41x1_2c F y11 y12 y14 y13 y15 kA kO = (L41x1_2 F y11 y12 y14 y13 y15).bind (elimS kA kO) := by
  simp only [L41x1_2, L41x1_2c, Option.bind_assoc, cond_bind, Option.bind_some, Option.bind_none, elimS_l, elimS_r, elimS_bind]
@[reducible] def sA41x1_2 : List Sh := [(.pt 0 []), (.ro .i), .i, .i]
@[reducible] def sAp141x1_2 : List Sh := []
@[reducible] def sT41x1_2 : List TSh := [.blk 112 (.pr (.rw 1) (.pr .i .un)), .row 5 .u8]
@[reducible] def sTp141x1_2 : List TSh := [.blk 112 (.pr (.rw 1) (.pr .i .un)), .row 5 .u8]
def lc41x1_2 (F : Nat) : Lc := mkL [0, 6, 7, 8] sA41x1_2 sT41x1_2 [] sAp141x1_2 sTp141x1_2 F (fun x y (s : Int × (List UInt8)) => L41x1_2 F x.2.1 x.2.2.1 y.1.2.1 s.1 s.2) (fun x y => (x.2.2.2.1, y.2.1)) (fun x y (z : (List UInt8)) => ((), (((), y.1.2.1, ()), z, ())))
theorem le41x1_2 (F : Nat) (x : dens sA41x1_2) (y : tdens sT41x1_2) (s : Int × (List UInt8)) : sev (E41x1 F) 1 [] (cAt (bodyOf Tryd.f41) (0 :: 0 :: [1])) (0 :: 0 :: [1]) (mkSt [0, 6, 7, 8] sA41x1_2 sT41x1_2 ((), x.2.1, x.2.2.1, s.1, ()) (((), y.1.2.1, ()), s.2, ())) (kLoop 1 [0, 6, 7, 8] sA41x1_2 sT41x1_2 [] sAp141x1_2 sTp141x1_2 [] [] [] 0 (fun x y => some (.inl (x, y))) (fun x y => some (.inr (.inl (x, y)))) (fun x y => some (.inr (.inr (x, y))))) =
    L41x1_2c (β := Full sA41x1_2 sT41x1_2 sAp141x1_2 sTp141x1_2 [] []) F x.2.1 x.2.2.1 y.1.2.1 s.1 s.2 (fun s => some (.inl (((), x.2.1, x.2.2.1, s.1, ()), (((), y.1.2.1, ()), s.2, ())))) (fun z => some (.inr (.inl ((), (((), y.1.2.1, ()), z, ()))))) := by kernel_rfl
theorem lo41x1_2 (F : Nat) : LcOk Tryd.prog (E41x1 F) 1 (lc41x1_2 F) (cAt (bodyOf Tryd.f41) [1]) :=
  mkL_ok (lp := []) (id := 0) (b := cAt (bodyOf Tryd.f41) (0 :: 0 :: [1])) cok (cts41x1 F) mixed trivial (by kernel_rfl) (by kernel_rfl) (fun x y s => ((), x.2.1, x.2.2.1, s.1, ())) (fun x y s => (((), y.1.2.1, ()), s.2, ())) (fun x y => rfl) (fun x y => rfl) (fun x y s kA kO => L41x1_2c F x.2.1 x.2.2.1 y.1.2.1 s.1 s.2 kA kO) (fun x y s kA kO => L41x1_2n F x.2.1 x.2.2.1 y.1.2.1 s.1 s.2 kA kO) (le41x1_2 F)
def T41x1c (F : Nat) (p0 : List Int) (p1 : Int) (p2 : List UInt8) {β : Type} (k : ((List UInt8)) → Option β) : Option β :=
  (Option.bind (iter (fun s => L41x1_2 F p0 (p0.length : Int) p1 s.1 s.2) F ((0 : Int), p2)) fun z20 => (k z20))
def T41x1 (F : Nat) (p0 : List Int) (p1 : Int) (p2 : List UInt8) : Option ((List UInt8)) := T41x1c F p0 p1 p2 some
theorem T41x1n (F : Nat) (p0 : List Int) (p1 : Int) (p2 : List UInt8) {β : Type} (k : ((List UInt8)) → Option β) : T41x1c F p0 p1 p2 k = (T41x1 F p0 p1 p2).bind k := by
  simp only [T41x1, T41x1c, Option.bind_assoc, cond_bind, Option.bind_some, Option.bind_none, elimS_bind]
@[reducible] def cA41x1 : List Sh := [(.pt 0 []), (.ro .i)]
@[reducible] def cB41x1 : List Sh := []
@[reducible] def cT41x1 : List TSh := [.blk 112 (.pr (.rw 1) (.pr .i .un)), .row 5 .u8]
@[reducible] def cU41x1 : List TSh := [.blk 112 (.pr (.rw 1) (.pr .i .un)), .row 5 .u8]
def ct41x1 (F : Nat) : Ct := mkC 1 cA41x1 cT41x1 cB41x1 cU41x1 (fun x y => T41x1 F x.2.1 y.1.2.1 y.2.1) (fun x y (z : (List UInt8)) => ((), (((), y.1.2.1, ()), z, ())))
theorem eq41x1 (F : Nat) (x : dens cA41x1) (y : tdens cT41x1) : sev (E41x1 F) 1 [([1], lc41x1_2 F)] (bodyOf Tryd.f41) [] (mkSt (rng 2) cA41x1 cT41x1 x y) (kFn (E41x1 F) 1 Tryd.f41.results.toList cB41x1 cU41x1 fun p q => some (p, q)) =
    T41x1c F x.2.1 y.1.2.1 y.2.1 (fun z => some ((), (((), y.1.2.1, ()), z, ()))) := by kernel_rfl
theorem ok41x1 (F : Nat) : Sound Tryd.prog cfg 41 (ct41x1 F) :=
  mkC_ok (E := E41x1 F) (lp := [([1], lc41x1_2 F)]) (code := bodyOf Tryd.f41) Tryd.func41 rfl Tryd.ntmps41 rfl rfl cok (cts41x1 F) mixed ⟨lo41x1_2 F, trivial⟩ (by kernel_rfl) (fun x y k => T41x1c F x.2.1 y.1.2.1 y.2.1 k) (fun x y k => T41x1n F x.2.1 y.1.2.1 y.2.1 k) (eq41x1 F)
end Go.Proofs.YthikoaamigiceaaDoor
/- (*kinkeep/wire.Writer).Sum: its twin, and that the call does what the twin says. Printed by a program. -/
namespace Go.Proofs.YthikoaamigiceaaDoor
open Go.Tw
set_option linter.unusedSimpArgs false
set_option linter.unusedVariables false
def ord53 : Nat → List (Tag × Nat)
  | _ => []
def al53 : Nat → Option Nat
  | _ => none
def ms53 : Nat → Option (List (Option Tag × Nat × List Nat))
  | _ => none
def E53 (F : Nat) : Ev := ⟨cfg, 24, ctOf [], ord53, ctOf [], al53, ms53⟩
theorem cts53 (F : Nat) : CtsOk Tryd.prog (E53 F) := cts_of (l := []) (l' := []) rfl rfl trivial trivial
def T53c (F : Nat) (p0 : List UInt8) (p1 : Int) (p2 : List UInt8) {β : Type} (k : (Int × (List UInt8)) → Option β) : Option β :=
  (bif (p1 != (0 : Int)) then (k (p1, p2)) else (bif ((p0.length : Int) != (32 : Int)) then (k ((1 : Int), p2)) else (Option.bind (gapp p2 p0) fun x2 => (k (p1, x2)))))
def T53 (F : Nat) (p0 : List UInt8) (p1 : Int) (p2 : List UInt8) : Option (Int × (List UInt8)) := T53c F p0 p1 p2 some
theorem T53n (F : Nat) (p0 : List UInt8) (p1 : Int) (p2 : List UInt8) {β : Type} (k : (Int × (List UInt8)) → Option β) : T53c F p0 p1 p2 k = (T53 F p0 p1 p2).bind k := by
  simp only [T53, T53c, Option.bind_assoc, cond_bind, Option.bind_some, Option.bind_none, elimS_bind]
@[reducible] def cA53 : List Sh := [(.pt 0 []), .str]
@[reducible] def cB53 : List Sh := []
@[reducible] def cT53 : List TSh := [.blk 112 (.pr (.rw 1) (.pr .i .un)), .row 5 .u8]
@[reducible] def cU53 : List TSh := [.blk 112 (.pr (.rw 1) (.pr .i .un)), .row 5 .u8]
def ct53 (F : Nat) : Ct := mkC 1 cA53 cT53 cB53 cU53 (fun x y => T53 F x.2.1 y.1.2.1 y.2.1) (fun x y (z : Int × (List UInt8)) => ((), (((), z.1, ()), z.2, ())))
theorem eq53 (F : Nat) (x : dens cA53) (y : tdens cT53) : sev (E53 F) 1 [] (bodyOf Tryd.f53) [] (mkSt (rng 2) cA53 cT53 x y) (kFn (E53 F) 1 Tryd.f53.results.toList cB53 cU53 fun p q => some (p, q)) =
    T53c F x.2.1 y.1.2.1 y.2.1 (fun z => some ((), (((), z.1, ()), z.2, ()))) := by kernel_rfl
theorem ok53 (F : Nat) : Sound Tryd.prog cfg 53 (ct53 F) :=
  mkC_ok (E := E53 F) (lp := []) (code := bodyOf Tryd.f53) Tryd.func53 rfl Tryd.ntmps53 rfl rfl cok (cts53 F) mixed trivial (by kernel_rfl) (fun x y k => T53c F x.2.1 y.1.2.1 y.2.1 k) (fun x y k => T53n F x.2.1 y.1.2.1 y.2.1 k) (eq53 F)
end Go.Proofs.YthikoaamigiceaaDoor
/- kinkeep/keyring.writeRef: its twin, and that the call does what the twin says. Printed by a program. -/
namespace Go.Proofs.YthikoaamigiceaaDoor
open Go.Tw
set_option linter.unusedSimpArgs false
set_option linter.unusedVariables false
def ord47 : Nat → List (Tag × Nat)
  | _ => []
def al47 : Nat → Option Nat
  | _ => none
def ms47 : Nat → Option (List (Option Tag × Nat × List Nat))
  | _ => none
def E47 (F : Nat) : Ev := ⟨cfg, 15, ctOf [(53, ct53 F), (41, ct41x1 F)], ord47, ctOf [], al47, ms47⟩
theorem cts47 (F : Nat) : CtsOk Tryd.prog (E47 F) := cts_of (l := [(53, ct53 F), (41, ct41x1 F)]) (l' := []) rfl rfl ⟨⟨ok53 F, _, Tryd.func53, rfl, rfl⟩, ⟨⟨ok41x1 F, _, Tryd.func41, rfl, rfl⟩, trivial⟩⟩ trivial
def T47c (F : Nat) (p0 : List UInt8) (p1 : Int) (p2 : Int) (p3 : Int) (p4 : List UInt8) {β : Type} (k : (Int × (List UInt8)) → Option β) : Option β :=
  (Option.bind (T53 F p0 p3 p4) fun z3 => (Option.bind (T41x1 F ([p1, p2] : List Int) z3.1 z3.2) fun z4 => (k (z3.1, z4))))
def T47 (F : Nat) (p0 : List UInt8) (p1 : Int) (p2 : Int) (p3 : Int) (p4 : List UInt8) : Option (Int × (List UInt8)) := T47c F p0 p1 p2 p3 p4 some
theorem T47n (F : Nat) (p0 : List UInt8) (p1 : Int) (p2 : Int) (p3 : Int) (p4 : List UInt8) {β : Type} (k : (Int × (List UInt8)) → Option β) : T47c F p0 p1 p2 p3 p4 k = (T47 F p0 p1 p2 p3 p4).bind k := by
  simp only [T47, T47c, Option.bind_assoc, cond_bind, Option.bind_some, Option.bind_none, elimS_bind]
@[reducible] def cA47 : List Sh := [(.pt 0 []), (.pr .str (.pr .i (.pr .i .un)))]
@[reducible] def cB47 : List Sh := []
@[reducible] def cT47 : List TSh := [.blk 112 (.pr (.rw 1) (.pr .i .un)), .row 5 .u8]
@[reducible] def cU47 : List TSh := [.blk 112 (.pr (.rw 2) (.pr .i .un)), .no, .row 5 .u8]
def ct47 (F : Nat) : Ct := mkC 2 cA47 cT47 cB47 cU47 (fun x y => T47 F x.2.1.1 x.2.1.2.1 x.2.1.2.2.1 y.1.2.1 y.2.1) (fun x y (z : Int × (List UInt8)) => ((), (((), z.1, ()), (), z.2, ())))
theorem eq47 (F : Nat) (x : dens cA47) (y : tdens cT47) : sev (E47 F) 2 [] (bodyOf Tryd.f47) [] (mkSt (rng 2) cA47 cT47 x y) (kFn (E47 F) 2 Tryd.f47.results.toList cB47 cU47 fun p q => some (p, q)) =
    T47c F x.2.1.1 x.2.1.2.1 x.2.1.2.2.1 y.1.2.1 y.2.1 (fun z => some ((), (((), z.1, ()), (), z.2, ()))) := by kernel_rfl
theorem ok47 (F : Nat) : Sound Tryd.prog cfg 47 (ct47 F) :=
  mkC_ok (E := E47 F) (lp := []) (code := bodyOf Tryd.f47) Tryd.func47 rfl Tryd.ntmps47 rfl rfl cok (cts47 F) mixed trivial (by kernel_rfl) (fun x y k => T47c F x.2.1.1 x.2.1.2.1 x.2.1.2.2.1 y.1.2.1 y.2.1 k) (fun x y k => T47n F x.2.1.1 x.2.1.2.1 x.2.1.2.2.1 y.1.2.1 y.2.1 k) (eq47 F)
end Go.Proofs.YthikoaamigiceaaDoor
/- (*kinkeep/wire.Writer).Text: its twin, and that the call does what the twin says. Printed by a program. -/
namespace Go.Proofs.YthikoaamigiceaaDoor
open Go.Tw
set_option linter.unusedSimpArgs false
set_option linter.unusedVariables false
def ord48 : Nat → List (Tag × Nat)
  | _ => []
def al48 : Nat → Option Nat
  | _ => none
def ms48 : Nat → Option (List (Option Tag × Nat × List Nat))
  | _ => none
def E48 (F : Nat) : Ev := ⟨cfg, 22, ctOf [(75, ct75 F)], ord48, ctOf [], al48, ms48⟩
theorem cts48 (F : Nat) : CtsOk Tryd.prog (E48 F) := cts_of (l := [(75, ct75 F)]) (l' := []) rfl rfl ⟨⟨ok75 F, _, Tryd.func75, rfl, rfl⟩, trivial⟩ trivial
def T48c (F : Nat) (p0 : List UInt8) (p1 : Int) (p2 : List UInt8) {β : Type} (k : ((List UInt8)) → Option β) : Option β :=
  (bif (p1 == (0 : Int)) then (Option.bind (T75 F (UInt64.ofInt (p0.length : Int)) p2) fun z3 => (Option.bind (gapp z3 p0) fun x4 => (k x4))) else (k p2))
def T48 (F : Nat) (p0 : List UInt8) (p1 : Int) (p2 : List UInt8) : Option ((List UInt8)) := T48c F p0 p1 p2 some
theorem T48n (F : Nat) (p0 : List UInt8) (p1 : Int) (p2 : List UInt8) {β : Type} (k : ((List UInt8)) → Option β) : T48c F p0 p1 p2 k = (T48 F p0 p1 p2).bind k := by
  simp only [T48, T48c, Option.bind_assoc, cond_bind, Option.bind_some, Option.bind_none, elimS_bind]
@[reducible] def cA48 : List Sh := [(.pt 0 []), .str]
@[reducible] def cB48 : List Sh := []
@[reducible] def cT48 : List TSh := [.blk 112 (.pr (.rw 1) (.pr .i .un)), .row 5 .u8]
@[reducible] def cU48 : List TSh := [.blk 112 (.pr (.rw 1) (.pr .i .un)), .row 5 .u8]
def ct48 (F : Nat) : Ct := mkC 1 cA48 cT48 cB48 cU48 (fun x y => T48 F x.2.1 y.1.2.1 y.2.1) (fun x y (z : (List UInt8)) => ((), (((), y.1.2.1, ()), z, ())))
theorem eq48 (F : Nat) (x : dens cA48) (y : tdens cT48) : sev (E48 F) 1 [] (bodyOf Tryd.f48) [] (mkSt (rng 2) cA48 cT48 x y) (kFn (E48 F) 1 Tryd.f48.results.toList cB48 cU48 fun p q => some (p, q)) =
    T48c F x.2.1 y.1.2.1 y.2.1 (fun z => some ((), (((), y.1.2.1, ()), z, ()))) := by kernel_rfl
theorem ok48 (F : Nat) : Sound Tryd.prog cfg 48 (ct48 F) :=
  mkC_ok (E := E48 F) (lp := []) (code := bodyOf Tryd.f48) Tryd.func48 rfl Tryd.ntmps48 rfl rfl cok (cts48 F) mixed trivial (by kernel_rfl) (fun x y k => T48c F x.2.1 y.1.2.1 y.2.1 k) (fun x y k => T48n F x.2.1 y.1.2.1 y.2.1 k) (eq48 F)
end Go.Proofs.YthikoaamigiceaaDoor
/- (*kinkeep/wire.Writer).Bool: its twin, and that the call does what the twin says. Printed by a program. -/
namespace Go.Proofs.YthikoaamigiceaaDoor
open Go.Tw
set_option linter.unusedSimpArgs false
set_option linter.unusedVariables false
def ord49 : Nat → List (Tag × Nat)
  | _ => []
def al49 : Nat → Option Nat
  | _ => none
def ms49 : Nat → Option (List (Option Tag × Nat × List Nat))
  | _ => none
def E49 (F : Nat) : Ev := ⟨cfg, 9, ctOf [(73, ct73x1 F)], ord49, ctOf [], al49, ms49⟩
theorem cts49 (F : Nat) : CtsOk Tryd.prog (E49 F) := cts_of (l := [(73, ct73x1 F)]) (l' := []) rfl rfl ⟨⟨ok73x1 F, _, Tryd.func73, rfl, rfl⟩, trivial⟩ trivial
def T49c (F : Nat) (p0 : Bool) (p1 : Int) (p2 : List UInt8) {β : Type} (k : ((List UInt8)) → Option β) : Option β :=
  (bif p0 then (Option.bind (T73x1 F (UInt64.ofNat 1) p1 p2) fun z3 => (k z3)) else (Option.bind (T73x1 F (UInt64.ofNat 0) p1 p2) fun z4 => (k z4)))
def T49 (F : Nat) (p0 : Bool) (p1 : Int) (p2 : List UInt8) : Option ((List UInt8)) := T49c F p0 p1 p2 some
theorem T49n (F : Nat) (p0 : Bool) (p1 : Int) (p2 : List UInt8) {β : Type} (k : ((List UInt8)) → Option β) : T49c F p0 p1 p2 k = (T49 F p0 p1 p2).bind k := by
  simp only [T49, T49c, Option.bind_assoc, cond_bind, Option.bind_some, Option.bind_none, elimS_bind]
@[reducible] def cA49 : List Sh := [(.pt 0 []), .bo]
@[reducible] def cB49 : List Sh := []
@[reducible] def cT49 : List TSh := [.blk 112 (.pr (.rw 1) (.pr .i .un)), .row 5 .u8]
@[reducible] def cU49 : List TSh := [.blk 112 (.pr (.rw 2) (.pr .i .un)), .no, .row 5 .u8]
def ct49 (F : Nat) : Ct := mkC 2 cA49 cT49 cB49 cU49 (fun x y => T49 F x.2.1 y.1.2.1 y.2.1) (fun x y (z : (List UInt8)) => ((), (((), y.1.2.1, ()), (), z, ())))
theorem eq49 (F : Nat) (x : dens cA49) (y : tdens cT49) : sev (E49 F) 2 [] (bodyOf Tryd.f49) [] (mkSt (rng 2) cA49 cT49 x y) (kFn (E49 F) 2 Tryd.f49.results.toList cB49 cU49 fun p q => some (p, q)) =
    T49c F x.2.1 y.1.2.1 y.2.1 (fun z => some ((), (((), y.1.2.1, ()), (), z, ()))) := by kernel_rfl
theorem ok49 (F : Nat) : Sound Tryd.prog cfg 49 (ct49 F) :=
  mkC_ok (E := E49 F) (lp := []) (code := bodyOf Tryd.f49) Tryd.func49 rfl Tryd.ntmps49 rfl rfl cok (cts49 F) mixed trivial (by kernel_rfl) (fun x y k => T49c F x.2.1 y.1.2.1 y.2.1 k) (fun x y k => T49n F x.2.1 y.1.2.1 y.2.1 k) (eq49 F)
end Go.Proofs.YthikoaamigiceaaDoor
/- kinkeep/keyring.EncodeIndex$2: its twin, and that the call does what the twin says. Printed by a program. -/
namespace Go.Proofs.YthikoaamigiceaaDoor
open Go.Tw
set_option linter.unusedSimpArgs false
set_option linter.unusedVariables false
def ord46 : Nat → List (Tag × Nat)
  | _ => []
def al46 : Nat → Option Nat
  | _ => none
def ms46 : Nat → Option (List (Option Tag × Nat × List Nat))
  | _ => none
def E46 (F : Nat) : Ev := ⟨cfg, 31, ctOf [(41, ct41x1 F), (47, ct47 F), (48, ct48 F), (49, ct49 F)], ord46, ctOf [], al46, ms46⟩
theorem cts46 (F : Nat) : CtsOk Tryd.prog (E46 F) := cts_of (l := [(41, ct41x1 F), (47, ct47 F), (48, ct48 F), (49, ct49 F)]) (l' := []) rfl rfl ⟨⟨ok41x1 F, _, Tryd.func41, rfl, rfl⟩, ⟨⟨ok47 F, _, Tryd.func47, rfl, rfl⟩, ⟨⟨ok48 F, _, Tryd.func48, rfl, rfl⟩, ⟨⟨ok49 F, _, Tryd.func49, rfl, rfl⟩, trivial⟩⟩⟩⟩ trivial
def T46c (F : Nat) (p0 : Int) (p1 : Int) (p2 : Int) (p3 : List UInt8) (p4 : Int) (p5 : Int) (p6 : Int) (p7 : Int) (p8 : List UInt8) (p9 : Bool) (p10 : Int) (p11 : List UInt8) {β : Type} (k : (Int × (List UInt8)) → Option β) : Option β :=
  (Option.bind (T41x1 F ([p0, p1, p2] : List Int) p10 p11) fun z6 => (Option.bind (T47 F p3 p4 p5 p10 z6) fun z7 => (Option.bind (T41x1 F ([p6, p7] : List Int) z7.1 z7.2) fun z8 => (Option.bind (T48 F p8 z7.1 z8) fun z9 => (Option.bind (T49 F p9 z7.1 z9) fun z10 => (k (z7.1, z10)))))))
def T46 (F : Nat) (p0 : Int) (p1 : Int) (p2 : Int) (p3 : List UInt8) (p4 : Int) (p5 : Int) (p6 : Int) (p7 : Int) (p8 : List UInt8) (p9 : Bool) (p10 : Int) (p11 : List UInt8) : Option (Int × (List UInt8)) := T46c F p0 p1 p2 p3 p4 p5 p6 p7 p8 p9 p10 p11 some
theorem T46n (F : Nat) (p0 : Int) (p1 : Int) (p2 : Int) (p3 : List UInt8) (p4 : Int) (p5 : Int) (p6 : Int) (p7 : Int) (p8 : List UInt8) (p9 : Bool) (p10 : Int) (p11 : List UInt8) {β : Type} (k : (Int × (List UInt8)) → Option β) : T46c F p0 p1 p2 p3 p4 p5 p6 p7 p8 p9 p10 p11 k = (T46 F p0 p1 p2 p3 p4 p5 p6 p7 p8 p9 p10 p11).bind k := by
  simp only [T46, T46c, Option.bind_assoc, cond_bind, Option.bind_some, Option.bind_none, elimS_bind]
@[reducible] def cA46 : List Sh := [(.pr .i (.pr .i (.pr .i (.pr (.pr .str (.pr .i (.pr .i .un))) (.pr .i (.pr .i (.pr .str (.pr .bo .un)))))))), (.pt 0 [])]
@[reducible] def cB46 : List Sh := []
@[reducible] def cT46 : List TSh := [.blk 75 (.pt 1 []), .blk 112 (.pr (.rw 2) (.pr .i .un)), .row 5 .u8]
@[reducible] def cU46 : List TSh := [.blk 75 (.pt 1 []), .blk 112 (.pr (.rw 3) (.pr .i .un)), .no, .row 5 .u8]
def ct46 (F : Nat) : Ct := mkC 3 cA46 cT46 cB46 cU46 (fun x y => T46 F x.1.1 x.1.2.1 x.1.2.2.1 x.1.2.2.2.1.1 x.1.2.2.2.1.2.1 x.1.2.2.2.1.2.2.1 x.1.2.2.2.2.1 x.1.2.2.2.2.2.1 x.1.2.2.2.2.2.2.1 x.1.2.2.2.2.2.2.2.1 y.2.1.2.1 y.2.2.1) (fun x y (z : Int × (List UInt8)) => ((), ((), ((), z.1, ()), (), z.2, ())))
theorem eq46 (F : Nat) (x : dens cA46) (y : tdens cT46) : sev (E46 F) 3 [] (bodyOf Tryd.f46) [] (mkSt (rng 2) cA46 cT46 x y) (kFn (E46 F) 3 Tryd.f46.results.toList cB46 cU46 fun p q => some (p, q)) =
    T46c F x.1.1 x.1.2.1 x.1.2.2.1 x.1.2.2.2.1.1 x.1.2.2.2.1.2.1 x.1.2.2.2.1.2.2.1 x.1.2.2.2.2.1 x.1.2.2.2.2.2.1 x.1.2.2.2.2.2.2.1 x.1.2.2.2.2.2.2.2.1 y.2.1.2.1 y.2.2.1 (fun z => some ((), ((), ((), z.1, ()), (), z.2, ()))) := by kernel_rfl
theorem ok46 (F : Nat) : Sound Tryd.prog cfg 46 (ct46 F) :=
  mkC_ok (E := E46 F) (lp := []) (code := bodyOf Tryd.f46) Tryd.func46 rfl Tryd.ntmps46 rfl rfl cok (cts46 F) mixed trivial (by kernel_rfl) (fun x y k => T46c F x.1.1 x.1.2.1 x.1.2.2.1 x.1.2.2.2.1.1 x.1.2.2.2.1.2.1 x.1.2.2.2.1.2.2.1 x.1.2.2.2.2.1 x.1.2.2.2.2.2.1 x.1.2.2.2.2.2.2.1 x.1.2.2.2.2.2.2.2.1 y.2.1.2.1 y.2.2.1 k) (fun x y k => T46n F x.1.1 x.1.2.1 x.1.2.2.1 x.1.2.2.2.1.1 x.1.2.2.2.1.2.1 x.1.2.2.2.1.2.2.1 x.1.2.2.2.2.1 x.1.2.2.2.2.2.1 x.1.2.2.2.2.2.2.1 x.1.2.2.2.2.2.2.2.1 y.2.1.2.1 y.2.2.1 k) (eq46 F)
end Go.Proofs.YthikoaamigiceaaDoor
/- kinkeep/keyring.writeList[kinkeep/api.Snapshot]: its twin, and that the call does what the twin says. Printed by a program. -/
namespace Go.Proofs.YthikoaamigiceaaDoor
open Go.Tw
set_option linter.unusedSimpArgs false
set_option linter.unusedVariables false
def ord45 : Nat → List (Tag × Nat)
  | _ => []
def al45 : Nat → Option Nat
  | _ => none
def ms45 : Nat → Option (List (Option Tag × Nat × List Nat))
  | _ => none
def E45 (F : Nat) : Ev := ⟨cfg, 22, ctOf [(72, ct72 F), (46, ct46 F)], ord45, ctOf [], al45, ms45⟩
theorem cts45 (F : Nat) : CtsOk Tryd.prog (E45 F) := cts_of (l := [(72, ct72 F), (46, ct46 F)]) (l' := []) rfl rfl ⟨⟨ok72 F, _, Tryd.func72, rfl, rfl⟩, ⟨⟨ok46 F, _, Tryd.func46, rfl, rfl⟩, trivial⟩⟩ trivial
def L45_2c (F : Nat) (y13 : List (Int × Int × Int × ((List UInt8) × Int × Int × Unit) × Int × Int × (List UInt8) × Bool × Unit)) (y14 : Int) (y15 : Int) (y16 : Int) (y17 : List UInt8) {β : Type} (kA : (Int × Int × (List UInt8)) → Option β) (kO : (Int × (List UInt8)) → Option β) : Option β :=
  (bif (decide (y15 < y14)) then (Option.bind (ix y13 y15) fun x20 => (Option.bind (T46 F x20.1 x20.2.1 x20.2.2.1 x20.2.2.2.1.1 x20.2.2.2.1.2.1 x20.2.2.2.1.2.2.1 x20.2.2.2.2.1 x20.2.2.2.2.2.1 x20.2.2.2.2.2.2.1 x20.2.2.2.2.2.2.2.1 y16 y17) fun z21 => (kA ((w64 (y15 + (1 : Int))), z21.1, z21.2)))) else (kO (y16, y17)))
def L45_2 (F : Nat) (y13 : List (Int × Int × Int × ((List UInt8) × Int × Int × Unit) × Int × Int × (List UInt8) × Bool × Unit)) (y14 : Int) (y15 : Int) (y16 : Int) (y17 : List UInt8) : Option ((Int × Int × (List UInt8)) ⊕ (Int × (List UInt8))) := L45_2c F y13 y14 y15 y16 y17 (fun s => some (.inl s)) (fun z => some (.inr z))
theorem L45_2n (F : Nat) (y13 : List (Int × Int × Int × ((List UInt8) × Int × Int × Unit) × Int × Int × (List UInt8) × Bool × Unit)) (y14 : Int) (y15 : Int) (y16 : Int) (y17 : List UInt8) {β : Type} (kA : (Int × Int × (List UInt8)) → Option β) (kO : (Int × (List UInt8)) → Option β) : L45_2c F y13 y14 y15 y16 y17 kA kO = (L45_2 F y13 y14 y15 y16 y17).bind (elimS kA kO) := by
  simp only [L45_2, L45_2c, Option.bind_assoc, cond_bind, Option.bind_some, Option.bind_none, elimS_l, elimS_r, elimS_bind]
@[reducible] def sA45_2 : List Sh := [(.fn 46 .un (.pr (.pt 1 []) .un)), (.ro (.pr .i (.pr .i (.pr .i (.pr (.pr .s (.pr .i (.pr .i .un))) (.pr .i (.pr .i (.pr .s (.pr .bo .un))))))))), .i, .i]
@[reducible] def sAp145_2 : List Sh := []
@[reducible] def sT45_2 : List TSh := [.blk 112 (.pr (.rw 3) (.pr .i .un)), .blk 75 (.pt 0 []), .no, .row 5 .u8]
@[reducible] def sTp145_2 : List TSh := [.blk 112 (.pr (.rw 3) (.pr .i .un)), .blk 75 (.pt 0 []), .no, .row 5 .u8]
def lc45_2 (F : Nat) : Lc := mkL [2, 12, 13, 14] sA45_2 sT45_2 [] sAp145_2 sTp145_2 F (fun x y (s : Int × Int × (List UInt8)) => L45_2 F x.2.1 x.2.2.1 s.1 s.2.1 s.2.2) (fun x y => (x.2.2.2.1, y.1.2.1, y.2.2.2.1)) (fun x y (z : Int × (List UInt8)) => ((), (((), z.1, ()), (), (), z.2, ())))
theorem le45_2 (F : Nat) (x : dens sA45_2) (y : tdens sT45_2) (s : Int × Int × (List UInt8)) : sev (E45 F) 3 [] (cAt (bodyOf Tryd.f45) (0 :: 0 :: [1, 1])) (0 :: 0 :: [1, 1]) (mkSt [2, 12, 13, 14] sA45_2 sT45_2 (((), ((), ())), x.2.1, x.2.2.1, s.1, ()) (((), s.2.1, ()), (), (), s.2.2, ())) (kLoop 3 [2, 12, 13, 14] sA45_2 sT45_2 [] sAp145_2 sTp145_2 [] [] [] 0 (fun x y => some (.inl (x, y))) (fun x y => some (.inr (.inl (x, y)))) (fun x y => some (.inr (.inr (x, y))))) =
    L45_2c (β := Full sA45_2 sT45_2 sAp145_2 sTp145_2 [] []) F x.2.1 x.2.2.1 s.1 s.2.1 s.2.2 (fun s => some (.inl ((((), ((), ())), x.2.1, x.2.2.1, s.1, ()), (((), s.2.1, ()), (), (), s.2.2, ())))) (fun z => some (.inr (.inl ((), (((), z.1, ()), (), (), z.2, ()))))) := by kernel_rfl
theorem lo45_2 (F : Nat) : LcOk Tryd.prog (E45 F) 3 (lc45_2 F) (cAt (bodyOf Tryd.f45) [1, 1]) :=
  mkL_ok (lp := []) (id := 0) (b := cAt (bodyOf Tryd.f45) (0 :: 0 :: [1, 1])) cok (cts45 F) mixed trivial (by kernel_rfl) (by kernel_rfl) (fun x y s => (((), ((), ())), x.2.1, x.2.2.1, s.1, ())) (fun x y s => (((), s.2.1, ()), (), (), s.2.2, ())) (fun x y => rfl) (fun x y => rfl) (fun x y s kA kO => L45_2c F x.2.1 x.2.2.1 s.1 s.2.1 s.2.2 kA kO) (fun x y s kA kO => L45_2n F x.2.1 x.2.2.1 s.1 s.2.1 s.2.2 kA kO) (le45_2 F)
def T45c (F : Nat) (p0 : List (Int × Int × Int × ((List UInt8) × Int × Int × Unit) × Int × Int × (List UInt8) × Bool × Unit)) (p1 : Int) (p2 : List UInt8) {β : Type} (k : (Int × (List UInt8)) → Option β) : Option β :=
  (Option.bind (T72 F (p0.length : Int) p1 p2) fun z12 => (Option.bind (iter (fun s => L45_2 F p0 (p0.length : Int) s.1 s.2.1 s.2.2) F ((0 : Int), z12.1, z12.2)) fun z22 => (k (z22.1, z22.2))))
def T45 (F : Nat) (p0 : List (Int × Int × Int × ((List UInt8) × Int × Int × Unit) × Int × Int × (List UInt8) × Bool × Unit)) (p1 : Int) (p2 : List UInt8) : Option (Int × (List UInt8)) := T45c F p0 p1 p2 some
theorem T45n (F : Nat) (p0 : List (Int × Int × Int × ((List UInt8) × Int × Int × Unit) × Int × Int × (List UInt8) × Bool × Unit)) (p1 : Int) (p2 : List UInt8) {β : Type} (k : (Int × (List UInt8)) → Option β) : T45c F p0 p1 p2 k = (T45 F p0 p1 p2).bind k := by
  simp only [T45, T45c, Option.bind_assoc, cond_bind, Option.bind_some, Option.bind_none, elimS_bind]
@[reducible] def cA45 : List Sh := [(.pt 0 []), (.ro (.pr .i (.pr .i (.pr .i (.pr (.pr .s (.pr .i (.pr .i .un))) (.pr .i (.pr .i (.pr .s (.pr .bo .un))))))))), (.fn 46 .un (.pr (.pt 1 []) .un))]
@[reducible] def cB45 : List Sh := []
@[reducible] def cT45 : List TSh := [.blk 112 (.pr (.rw 2) (.pr .i .un)), .blk 75 (.pt 0 []), .row 5 .u8]
@[reducible] def cU45 : List TSh := [.blk 112 (.pr (.rw 3) (.pr .i .un)), .blk 75 (.pt 0 []), .no, .row 5 .u8]
def ct45 (F : Nat) : Ct := mkC 3 cA45 cT45 cB45 cU45 (fun x y => T45 F x.2.1 y.1.2.1 y.2.2.1) (fun x y (z : Int × (List UInt8)) => ((), (((), z.1, ()), (), (), z.2, ())))
theorem eq45 (F : Nat) (x : dens cA45) (y : tdens cT45) : sev (E45 F) 3 [([1, 1], lc45_2 F)] (bodyOf Tryd.f45) [] (mkSt (rng 3) cA45 cT45 x y) (kFn (E45 F) 3 Tryd.f45.results.toList cB45 cU45 fun p q => some (p, q)) =
    T45c F x.2.1 y.1.2.1 y.2.2.1 (fun z => some ((), (((), z.1, ()), (), (), z.2, ()))) := by kernel_rfl
theorem ok45 (F : Nat) : Sound Tryd.prog cfg 45 (ct45 F) :=
  mkC_ok (E := E45 F) (lp := [([1, 1], lc45_2 F)]) (code := bodyOf Tryd.f45) Tryd.func45 rfl Tryd.ntmps45 rfl rfl cok (cts45 F) mixed ⟨lo45_2 F, trivial⟩ (by kernel_rfl) (fun x y k => T45c F x.2.1 y.1.2.1 y.2.2.1 k) (fun x y k => T45n F x.2.1 y.1.2.1 y.2.2.1 k) (eq45 F)
end Go.Proofs.YthikoaamigiceaaDoor
/- kinkeep/keyring.EncodeIndex$3: its twin, and that the call does what the twin says. Printed by a program. -/
namespace Go.Proofs.YthikoaamigiceaaDoor
open Go.Tw
set_option linter.unusedSimpArgs false
set_option linter.unusedVariables false
def ord50 : Nat → List (Tag × Nat)
  | _ => []
def al50 : Nat → Option Nat
  | _ => none
def ms50 : Nat → Option (List (Option Tag × Nat × List Nat))
  | _ => none
def E50 (F : Nat) : Ev := ⟨cfg, 6, ctOf [(47, ct47 F)], ord50, ctOf [], al50, ms50⟩
theorem cts50 (F : Nat) : CtsOk Tryd.prog (E50 F) := cts_of (l := [(47, ct47 F)]) (l' := []) rfl rfl ⟨⟨ok47 F, _, Tryd.func47, rfl, rfl⟩, trivial⟩ trivial
def T50c (F : Nat) (p0 : List UInt8) (p1 : Int) (p2 : Int) (p3 : Int) (p4 : List UInt8) {β : Type} (k : (Int × (List UInt8)) → Option β) : Option β :=
  (Option.bind (T47 F p0 p1 p2 p3 p4) fun z2 => (k (z2.1, z2.2)))
def T50 (F : Nat) (p0 : List UInt8) (p1 : Int) (p2 : Int) (p3 : Int) (p4 : List UInt8) : Option (Int × (List UInt8)) := T50c F p0 p1 p2 p3 p4 some
theorem T50n (F : Nat) (p0 : List UInt8) (p1 : Int) (p2 : Int) (p3 : Int) (p4 : List UInt8) {β : Type} (k : (Int × (List UInt8)) → Option β) : T50c F p0 p1 p2 p3 p4 k = (T50 F p0 p1 p2 p3 p4).bind k := by
  simp only [T50, T50c, Option.bind_assoc, cond_bind, Option.bind_some, Option.bind_none, elimS_bind]
@[reducible] def cA50 : List Sh := [(.pr .str (.pr .i (.pr .i .un))), (.pt 0 [])]
@[reducible] def cB50 : List Sh := []
@[reducible] def cT50 : List TSh := [.blk 75 (.pt 1 []), .blk 112 (.pr (.rw 2) (.pr .i .un)), .row 5 .u8]
@[reducible] def cU50 : List TSh := [.blk 75 (.pt 1 []), .blk 112 (.pr (.rw 3) (.pr .i .un)), .no, .row 5 .u8]
def ct50 (F : Nat) : Ct := mkC 3 cA50 cT50 cB50 cU50 (fun x y => T50 F x.1.1 x.1.2.1 x.1.2.2.1 y.2.1.2.1 y.2.2.1) (fun x y (z : Int × (List UInt8)) => ((), ((), ((), z.1, ()), (), z.2, ())))
theorem eq50 (F : Nat) (x : dens cA50) (y : tdens cT50) : sev (E50 F) 3 [] (bodyOf Tryd.f50) [] (mkSt (rng 2) cA50 cT50 x y) (kFn (E50 F) 3 Tryd.f50.results.toList cB50 cU50 fun p q => some (p, q)) =
    T50c F x.1.1 x.1.2.1 x.1.2.2.1 y.2.1.2.1 y.2.2.1 (fun z => some ((), ((), ((), z.1, ()), (), z.2, ()))) := by kernel_rfl
theorem ok50 (F : Nat) : Sound Tryd.prog cfg 50 (ct50 F) :=
  mkC_ok (E := E50 F) (lp := []) (code := bodyOf Tryd.f50) Tryd.func50 rfl Tryd.ntmps50 rfl rfl cok (cts50 F) mixed trivial (by kernel_rfl) (fun x y k => T50c F x.1.1 x.1.2.1 x.1.2.2.1 y.2.1.2.1 y.2.2.1 k) (fun x y k => T50n F x.1.1 x.1.2.1 x.1.2.2.1 y.2.1.2.1 y.2.2.1 k) (eq50 F)
end Go.Proofs.YthikoaamigiceaaDoor
/- kinkeep/keyring.writeList[kinkeep/api.Ref]: its twin, and that the call does what the twin says. Printed by a program. -/
namespace Go.Proofs.YthikoaamigiceaaDoor
open Go.Tw
set_option linter.unusedSimpArgs false
set_option linter.unusedVariables false
def ord54 : Nat → List (Tag × Nat)
  | _ => []
def al54 : Nat → Option Nat
  | _ => none
def ms54 : Nat → Option (List (Option Tag × Nat × List Nat))
  | _ => none
def E54 (F : Nat) : Ev := ⟨cfg, 22, ctOf [(72, ct72 F), (50, ct50 F)], ord54, ctOf [], al54, ms54⟩
theorem cts54 (F : Nat) : CtsOk Tryd.prog (E54 F) := cts_of (l := [(72, ct72 F), (50, ct50 F)]) (l' := []) rfl rfl ⟨⟨ok72 F, _, Tryd.func72, rfl, rfl⟩, ⟨⟨ok50 F, _, Tryd.func50, rfl, rfl⟩, trivial⟩⟩ trivial
def L54_2c (F : Nat) (y13 : List ((List UInt8) × Int × Int × Unit)) (y14 : Int) (y15 : Int) (y16 : Int) (y17 : List UInt8) {β : Type} (kA : (Int × Int × (List UInt8)) → Option β) (kO : (Int × (List UInt8)) → Option β) : Option β :=
  (bif (decide (y15 < y14)) then (Option.bind (ix y13 y15) fun x20 => (Option.bind (T50 F x20.1 x20.2.1 x20.2.2.1 y16 y17) fun z21 => (kA ((w64 (y15 + (1 : Int))), z21.1, z21.2)))) else (kO (y16, y17)))
def L54_2 (F : Nat) (y13 : List ((List UInt8) × Int × Int × Unit)) (y14 : Int) (y15 : Int) (y16 : Int) (y17 : List UInt8) : Option ((Int × Int × (List UInt8)) ⊕ (Int × (List UInt8))) := L54_2c F y13 y14 y15 y16 y17 (fun s => some (.inl s)) (fun z => some (.inr z))
theorem L54_2n (F : Nat) (y13 : List ((List UInt8) × Int × Int × Unit)) (y14 : Int) (y15 : Int) (y16 : Int) (y17 : List UInt8) {β : Type} (kA : (Int × Int × (List UInt8)) → Option β) (kO : (Int × (List UInt8)) → Option β) : L54_2c F y13 y14 y15 y16 y17 kA kO = (L54_2 F y13 y14 y15 y16 y17).bind (elimS kA kO) := by
  simp only [L54_2, L54_2c, Option.bind_assoc, cond_bind, Option.bind_some, Option.bind_none, elimS_l, elimS_r, elimS_bind]
@[reducible] def sA54_2 : List Sh := [(.fn 50 .un (.pr (.pt 1 []) .un)), (.ro (.pr .s (.pr .i (.pr .i .un)))), .i, .i]
@[reducible] def sAp154_2 : List Sh := []
@[reducible] def sT54_2 : List TSh := [.blk 112 (.pr (.rw 3) (.pr .i .un)), .blk 75 (.pt 0 []), .no, .row 5 .u8]
@[reducible] def sTp154_2 : List TSh := [.blk 112 (.pr (.rw 3) (.pr .i .un)), .blk 75 (.pt 0 []), .no, .row 5 .u8]
def lc54_2 (F : Nat) : Lc := mkL [2, 12, 13, 14] sA54_2 sT54_2 [] sAp154_2 sTp154_2 F (fun x y (s : Int × Int × (List UInt8)) => L54_2 F x.2.1 x.2.2.1 s.1 s.2.1 s.2.2) (fun x y => (x.2.2.2.1, y.1.2.1, y.2.2.2.1)) (fun x y (z : Int × (List UInt8)) => ((), (((), z.1, ()), (), (), z.2, ())))
theorem le54_2 (F : Nat) (x : dens sA54_2) (y : tdens sT54_2) (s : Int × Int × (List UInt8)) : sev (E54 F) 3 [] (cAt (bodyOf Tryd.f54) (0 :: 0 :: [1, 1])) (0 :: 0 :: [1, 1]) (mkSt [2, 12, 13, 14] sA54_2 sT54_2 (((), ((), ())), x.2.1, x.2.2.1, s.1, ()) (((), s.2.1, ()), (), (), s.2.2, ())) (kLoop 3 [2, 12, 13, 14] sA54_2 sT54_2 [] sAp154_2 sTp154_2 [] [] [] 0 (fun x y => some (.inl (x, y))) (fun x y => some (.inr (.inl (x, y)))) (fun x y => some (.inr (.inr (x, y))))) =
    L54_2c (β := Full sA54_2 sT54_2 sAp154_2 sTp154_2 [] []) F x.2.1 x.2.2.1 s.1 s.2.1 s.2.2 (fun s => some (.inl ((((), ((), ())), x.2.1, x.2.2.1, s.1, ()), (((), s.2.1, ()), (), (), s.2.2, ())))) (fun z => some (.inr (.inl ((), (((), z.1, ()), (), (), z.2, ()))))) := by kernel_rfl
theorem lo54_2 (F : Nat) : LcOk Tryd.prog (E54 F) 3 (lc54_2 F) (cAt (bodyOf Tryd.f54) [1, 1]) :=
  mkL_ok (lp := []) (id := 0) (b := cAt (bodyOf Tryd.f54) (0 :: 0 :: [1, 1])) cok (cts54 F) mixed trivial (by kernel_rfl) (by kernel_rfl) (fun x y s => (((), ((), ())), x.2.1, x.2.2.1, s.1, ())) (fun x y s => (((), s.2.1, ()), (), (), s.2.2, ())) (fun x y => rfl) (fun x y => rfl) (fun x y s kA kO => L54_2c F x.2.1 x.2.2.1 s.1 s.2.1 s.2.2 kA kO) (fun x y s kA kO => L54_2n F x.2.1 x.2.2.1 s.1 s.2.1 s.2.2 kA kO) (le54_2 F)
def T54c (F : Nat) (p0 : List ((List UInt8) × Int × Int × Unit)) (p1 : Int) (p2 : List UInt8) {β : Type} (k : (Int × (List UInt8)) → Option β) : Option β :=
  (Option.bind (T72 F (p0.length : Int) p1 p2) fun z12 => (Option.bind (iter (fun s => L54_2 F p0 (p0.length : Int) s.1 s.2.1 s.2.2) F ((0 : Int), z12.1, z12.2)) fun z22 => (k (z22.1, z22.2))))
def T54 (F : Nat) (p0 : List ((List UInt8) × Int × Int × Unit)) (p1 : Int) (p2 : List UInt8) : Option (Int × (List UInt8)) := T54c F p0 p1 p2 some
theorem T54n (F : Nat) (p0 : List ((List UInt8) × Int × Int × Unit)) (p1 : Int) (p2 : List UInt8) {β : Type} (k : (Int × (List UInt8)) → Option β) : T54c F p0 p1 p2 k = (T54 F p0 p1 p2).bind k := by
  simp only [T54, T54c, Option.bind_assoc, cond_bind, Option.bind_some, Option.bind_none, elimS_bind]
@[reducible] def cA54 : List Sh := [(.pt 0 []), (.ro (.pr .s (.pr .i (.pr .i .un)))), (.fn 50 .un (.pr (.pt 1 []) .un))]
@[reducible] def cB54 : List Sh := []
@[reducible] def cT54 : List TSh := [.blk 112 (.pr (.rw 2) (.pr .i .un)), .blk 75 (.pt 0 []), .row 5 .u8]
@[reducible] def cU54 : List TSh := [.blk 112 (.pr (.rw 3) (.pr .i .un)), .blk 75 (.pt 0 []), .no, .row 5 .u8]
def ct54 (F : Nat) : Ct := mkC 3 cA54 cT54 cB54 cU54 (fun x y => T54 F x.2.1 y.1.2.1 y.2.2.1) (fun x y (z : Int × (List UInt8)) => ((), (((), z.1, ()), (), (), z.2, ())))
theorem eq54 (F : Nat) (x : dens cA54) (y : tdens cT54) : sev (E54 F) 3 [([1, 1], lc54_2 F)] (bodyOf Tryd.f54) [] (mkSt (rng 3) cA54 cT54 x y) (kFn (E54 F) 3 Tryd.f54.results.toList cB54 cU54 fun p q => some (p, q)) =
    T54c F x.2.1 y.1.2.1 y.2.2.1 (fun z => some ((), (((), z.1, ()), (), (), z.2, ()))) := by kernel_rfl
theorem ok54 (F : Nat) : Sound Tryd.prog cfg 54 (ct54 F) :=
  mkC_ok (E := E54 F) (lp := [([1, 1], lc54_2 F)]) (code := bodyOf Tryd.f54) Tryd.func54 rfl Tryd.ntmps54 rfl rfl cok (cts54 F) mixed ⟨lo54_2 F, trivial⟩ (by kernel_rfl) (fun x y k => T54c F x.2.1 y.1.2.1 y.2.2.1 k) (fun x y k => T54n F x.2.1 y.1.2.1 y.2.2.1 k) (eq54 F)
end Go.Proofs.YthikoaamigiceaaDoor
/- kinkeep/keyring.EncodeIndex$4: its twin, and that the call does what the twin says. Printed by a program. -/
namespace Go.Proofs.YthikoaamigiceaaDoor
open Go.Tw
set_option linter.unusedSimpArgs false
set_option linter.unusedVariables false
def ord52 : Nat → List (Tag × Nat)
  | _ => []
def al52 : Nat → Option Nat
  | _ => none
def ms52 : Nat → Option (List (Option Tag × Nat × List Nat))
  | _ => none
def E52 (F : Nat) : Ev := ⟨cfg, 24, ctOf [(53, ct53 F), (41, ct41x1 F), (54, ct54 F)], ord52, ctOf [], al52, ms52⟩
theorem cts52 (F : Nat) : CtsOk Tryd.prog (E52 F) := cts_of (l := [(53, ct53 F), (41, ct41x1 F), (54, ct54 F)]) (l' := []) rfl rfl ⟨⟨ok53 F, _, Tryd.func53, rfl, rfl⟩, ⟨⟨ok41x1 F, _, Tryd.func41, rfl, rfl⟩, ⟨⟨ok54 F, _, Tryd.func54, rfl, rfl⟩, trivial⟩⟩⟩ trivial
def T52c (F : Nat) (p0 : List UInt8) (p1 : Int) (p2 : Int) (p3 : Int) (p4 : Int) (p5 : List ((List UInt8) × Int × Int × Unit)) (p6 : Int) (p7 : List UInt8) {β : Type} (k : (Int × (List UInt8)) → Option β) : Option β :=
  (Option.bind (T53 F p0 p6 p7) fun z4 => (Option.bind (T41x1 F ([p1, p2, p3, p4] : List Int) z4.1 z4.2) fun z5 => (Option.bind (T54 F p5 z4.1 z5) fun z6 => (k (z6.1, z6.2)))))
def T52 (F : Nat) (p0 : List UInt8) (p1 : Int) (p2 : Int) (p3 : Int) (p4 : Int) (p5 : List ((List UInt8) × Int × Int × Unit)) (p6 : Int) (p7 : List UInt8) : Option (Int × (List UInt8)) := T52c F p0 p1 p2 p3 p4 p5 p6 p7 some
theorem T52n (F : Nat) (p0 : List UInt8) (p1 : Int) (p2 : Int) (p3 : Int) (p4 : Int) (p5 : List ((List UInt8) × Int × Int × Unit)) (p6 : Int) (p7 : List UInt8) {β : Type} (k : (Int × (List UInt8)) → Option β) : T52c F p0 p1 p2 p3 p4 p5 p6 p7 k = (T52 F p0 p1 p2 p3 p4 p5 p6 p7).bind k := by
  simp only [T52, T52c, Option.bind_assoc, cond_bind, Option.bind_some, Option.bind_none, elimS_bind]
@[reducible] def cA52 : List Sh := [(.pr .str (.pr .i (.pr .i (.pr .i (.pr .i (.pr (.ro (.pr .s (.pr .i (.pr .i .un)))) .un)))))), (.pt 0 []), (.pt 1 [])]
@[reducible] def cB52 : List Sh := []
@[reducible] def cT52 : List TSh := [.blk 75 (.pt 2 []), .blk 89 (.fn 50 .un (.pr (.pt 0 []) .un)), .blk 112 (.pr (.rw 3) (.pr .i .un)), .row 5 .u8]
@[reducible] def cU52 : List TSh := [.blk 75 (.pt 2 []), .blk 89 (.fn 50 .un (.pr (.pt 0 []) .un)), .blk 112 (.pr (.rw 4) (.pr .i .un)), .no, .row 5 .u8]
def ct52 (F : Nat) : Ct := mkC 4 cA52 cT52 cB52 cU52 (fun x y => T52 F x.1.1 x.1.2.1 x.1.2.2.1 x.1.2.2.2.1 x.1.2.2.2.2.1 x.1.2.2.2.2.2.1 y.2.2.1.2.1 y.2.2.2.1) (fun x y (z : Int × (List UInt8)) => ((), ((), ((), ((), ())), ((), z.1, ()), (), z.2, ())))
theorem eq52 (F : Nat) (x : dens cA52) (y : tdens cT52) : sev (E52 F) 4 [] (bodyOf Tryd.f52) [] (mkSt (rng 3) cA52 cT52 x y) (kFn (E52 F) 4 Tryd.f52.results.toList cB52 cU52 fun p q => some (p, q)) =
    T52c F x.1.1 x.1.2.1 x.1.2.2.1 x.1.2.2.2.1 x.1.2.2.2.2.1 x.1.2.2.2.2.2.1 y.2.2.1.2.1 y.2.2.2.1 (fun z => some ((), ((), ((), ((), ())), ((), z.1, ()), (), z.2, ()))) := by kernel_rfl
theorem ok52 (F : Nat) : Sound Tryd.prog cfg 52 (ct52 F) :=
  mkC_ok (E := E52 F) (lp := []) (code := bodyOf Tryd.f52) Tryd.func52 rfl Tryd.ntmps52 rfl rfl cok (cts52 F) mixed trivial (by kernel_rfl) (fun x y k => T52c F x.1.1 x.1.2.1 x.1.2.2.1 x.1.2.2.2.1 x.1.2.2.2.2.1 x.1.2.2.2.2.2.1 y.2.2.1.2.1 y.2.2.2.1 k) (fun x y k => T52n F x.1.1 x.1.2.1 x.1.2.2.1 x.1.2.2.2.1 x.1.2.2.2.2.1 x.1.2.2.2.2.2.1 y.2.2.1.2.1 y.2.2.2.1 k) (eq52 F)
end Go.Proofs.YthikoaamigiceaaDoor
/- kinkeep/keyring.writeList[kinkeep/api.Stripe]: its twin, and that the call does what the twin says. Printed by a program. -/
namespace Go.Proofs.YthikoaamigiceaaDoor
open Go.Tw
set_option linter.unusedSimpArgs false
set_option linter.unusedVariables false
def ord51 : Nat → List (Tag × Nat)
  | _ => []
def al51 : Nat → Option Nat
  | _ => none
def ms51 : Nat → Option (List (Option Tag × Nat × List Nat))
  | _ => none
def E51 (F : Nat) : Ev := ⟨cfg, 22, ctOf [(72, ct72 F), (52, ct52 F)], ord51, ctOf [], al51, ms51⟩
theorem cts51 (F : Nat) : CtsOk Tryd.prog (E51 F) := cts_of (l := [(72, ct72 F), (52, ct52 F)]) (l' := []) rfl rfl ⟨⟨ok72 F, _, Tryd.func72, rfl, rfl⟩, ⟨⟨ok52 F, _, Tryd.func52, rfl, rfl⟩, trivial⟩⟩ trivial
def L51_2c (F : Nat) (y13 : List ((List UInt8) × Int × Int × Int × Int × (List ((List UInt8) × Int × Int × Unit)) × Unit)) (y14 : Int) (y15 : Int) (y16 : Int) (y17 : List UInt8) {β : Type} (kA : (Int × Int × (List UInt8)) → Option β) (kO : (Int × (List UInt8)) → Option β) : Option β :=
  (bif (decide (y15 < y14)) then (Option.bind (ix y13 y15) fun x20 => (Option.bind (T52 F x20.1 x20.2.1 x20.2.2.1 x20.2.2.2.1 x20.2.2.2.2.1 x20.2.2.2.2.2.1 y16 y17) fun z21 => (kA ((w64 (y15 + (1 : Int))), z21.1, z21.2)))) else (kO (y16, y17)))
def L51_2 (F : Nat) (y13 : List ((List UInt8) × Int × Int × Int × Int × (List ((List UInt8) × Int × Int × Unit)) × Unit)) (y14 : Int) (y15 : Int) (y16 : Int) (y17 : List UInt8) : Option ((Int × Int × (List UInt8)) ⊕ (Int × (List UInt8))) := L51_2c F y13 y14 y15 y16 y17 (fun s => some (.inl s)) (fun z => some (.inr z))
theorem L51_2n (F : Nat) (y13 : List ((List UInt8) × Int × Int × Int × Int × (List ((List UInt8) × Int × Int × Unit)) × Unit)) (y14 : Int) (y15 : Int) (y16 : Int) (y17 : List UInt8) {β : Type} (kA : (Int × Int × (List UInt8)) → Option β) (kO : (Int × (List UInt8)) → Option β) : L51_2c F y13 y14 y15 y16 y17 kA kO = (L51_2 F y13 y14 y15 y16 y17).bind (elimS kA kO) := by
  simp only [L51_2, L51_2c, Option.bind_assoc, cond_bind, Option.bind_some, Option.bind_none, elimS_l, elimS_r, elimS_bind]
@[reducible] def sA51_2 : List Sh := [(.fn 52 .un (.pr (.pt 1 []) (.pr (.pt 2 []) .un))), (.ro (.pr .s (.pr .i (.pr .i (.pr .i (.pr .i (.pr (.sl (.pr .s (.pr .i (.pr .i .un)))) .un))))))), .i, .i]
@[reducible] def sAp151_2 : List Sh := []
@[reducible] def sT51_2 : List TSh := [.blk 112 (.pr (.rw 4) (.pr .i .un)), .blk 75 (.pt 0 []), .blk 89 (.fn 50 .un (.pr (.pt 1 []) .un)), .no, .row 5 .u8]
@[reducible] def sTp151_2 : List TSh := [.blk 112 (.pr (.rw 4) (.pr .i .un)), .blk 75 (.pt 0 []), .blk 89 (.fn 50 .un (.pr (.pt 1 []) .un)), .no, .row 5 .u8]
def lc51_2 (F : Nat) : Lc := mkL [2, 12, 13, 14] sA51_2 sT51_2 [] sAp151_2 sTp151_2 F (fun x y (s : Int × Int × (List UInt8)) => L51_2 F x.2.1 x.2.2.1 s.1 s.2.1 s.2.2) (fun x y => (x.2.2.2.1, y.1.2.1, y.2.2.2.2.1)) (fun x y (z : Int × (List UInt8)) => ((), (((), z.1, ()), (), ((), ((), ())), (), z.2, ())))
theorem le51_2 (F : Nat) (x : dens sA51_2) (y : tdens sT51_2) (s : Int × Int × (List UInt8)) : sev (E51 F) 4 [] (cAt (bodyOf Tryd.f51) (0 :: 0 :: [1, 1])) (0 :: 0 :: [1, 1]) (mkSt [2, 12, 13, 14] sA51_2 sT51_2 (((), ((), (), ())), x.2.1, x.2.2.1, s.1, ()) (((), s.2.1, ()), (), ((), ((), ())), (), s.2.2, ())) (kLoop 4 [2, 12, 13, 14] sA51_2 sT51_2 [] sAp151_2 sTp151_2 [] [] [] 0 (fun x y => some (.inl (x, y))) (fun x y => some (.inr (.inl (x, y)))) (fun x y => some (.inr (.inr (x, y))))) =
    L51_2c (β := Full sA51_2 sT51_2 sAp151_2 sTp151_2 [] []) F x.2.1 x.2.2.1 s.1 s.2.1 s.2.2 (fun s => some (.inl ((((), ((), (), ())), x.2.1, x.2.2.1, s.1, ()), (((), s.2.1, ()), (), ((), ((), ())), (), s.2.2, ())))) (fun z => some (.inr (.inl ((), (((), z.1, ()), (), ((), ((), ())), (), z.2, ()))))) := by kernel_rfl
theorem lo51_2 (F : Nat) : LcOk Tryd.prog (E51 F) 4 (lc51_2 F) (cAt (bodyOf Tryd.f51) [1, 1]) :=
  mkL_ok (lp := []) (id := 0) (b := cAt (bodyOf Tryd.f51) (0 :: 0 :: [1, 1])) cok (cts51 F) mixed trivial (by kernel_rfl) (by kernel_rfl) (fun x y s => (((), ((), (), ())), x.2.1, x.2.2.1, s.1, ())) (fun x y s => (((), s.2.1, ()), (), ((), ((), ())), (), s.2.2, ())) (fun x y => rfl) (fun x y => rfl) (fun x y s kA kO => L51_2c F x.2.1 x.2.2.1 s.1 s.2.1 s.2.2 kA kO) (fun x y s kA kO => L51_2n F x.2.1 x.2.2.1 s.1 s.2.1 s.2.2 kA kO) (le51_2 F)
def T51c (F : Nat) (p0 : List ((List UInt8) × Int × Int × Int × Int × (List ((List UInt8) × Int × Int × Unit)) × Unit)) (p1 : Int) (p2 : List UInt8) {β : Type} (k : (Int × (List UInt8)) → Option β) : Option β :=
  (Option.bind (T72 F (p0.length : Int) p1 p2) fun z12 => (Option.bind (iter (fun s => L51_2 F p0 (p0.length : Int) s.1 s.2.1 s.2.2) F ((0 : Int), z12.1, z12.2)) fun z22 => (k (z22.1, z22.2))))
def T51 (F : Nat) (p0 : List ((List UInt8) × Int × Int × Int × Int × (List ((List UInt8) × Int × Int × Unit)) × Unit)) (p1 : Int) (p2 : List UInt8) : Option (Int × (List UInt8)) := T51c F p0 p1 p2 some
theorem T51n (F : Nat) (p0 : List ((List UInt8) × Int × Int × Int × Int × (List ((List UInt8) × Int × Int × Unit)) × Unit)) (p1 : Int) (p2 : List UInt8) {β : Type} (k : (Int × (List UInt8)) → Option β) : T51c F p0 p1 p2 k = (T51 F p0 p1 p2).bind k := by
  simp only [T51, T51c, Option.bind_assoc, cond_bind, Option.bind_some, Option.bind_none, elimS_bind]
@[reducible] def cA51 : List Sh := [(.pt 0 []), (.ro (.pr .s (.pr .i (.pr .i (.pr .i (.pr .i (.pr (.sl (.pr .s (.pr .i (.pr .i .un)))) .un))))))), (.fn 52 .un (.pr (.pt 1 []) (.pr (.pt 2 []) .un)))]
@[reducible] def cB51 : List Sh := []
@[reducible] def cT51 : List TSh := [.blk 112 (.pr (.rw 3) (.pr .i .un)), .blk 75 (.pt 0 []), .blk 89 (.fn 50 .un (.pr (.pt 1 []) .un)), .row 5 .u8]
@[reducible] def cU51 : List TSh := [.blk 112 (.pr (.rw 4) (.pr .i .un)), .blk 75 (.pt 0 []), .blk 89 (.fn 50 .un (.pr (.pt 1 []) .un)), .no, .row 5 .u8]
def ct51 (F : Nat) : Ct := mkC 4 cA51 cT51 cB51 cU51 (fun x y => T51 F x.2.1 y.1.2.1 y.2.2.2.1) (fun x y (z : Int × (List UInt8)) => ((), (((), z.1, ()), (), ((), ((), ())), (), z.2, ())))
theorem eq51 (F : Nat) (x : dens cA51) (y : tdens cT51) : sev (E51 F) 4 [([1, 1], lc51_2 F)] (bodyOf Tryd.f51) [] (mkSt (rng 3) cA51 cT51 x y) (kFn (E51 F) 4 Tryd.f51.results.toList cB51 cU51 fun p q => some (p, q)) =
    T51c F x.2.1 y.1.2.1 y.2.2.2.1 (fun z => some ((), (((), z.1, ()), (), ((), ((), ())), (), z.2, ()))) := by kernel_rfl
theorem ok51 (F : Nat) : Sound Tryd.prog cfg 51 (ct51 F) :=
  mkC_ok (E := E51 F) (lp := [([1, 1], lc51_2 F)]) (code := bodyOf Tryd.f51) Tryd.func51 rfl Tryd.ntmps51 rfl rfl cok (cts51 F) mixed ⟨lo51_2 F, trivial⟩ (by kernel_rfl) (fun x y k => T51c F x.2.1 y.1.2.1 y.2.2.2.1 k) (fun x y k => T51n F x.2.1 y.1.2.1 y.2.2.2.1 k) (eq51 F)
end Go.Proofs.YthikoaamigiceaaDoor
/- (*kinkeep/wire.Writer).Done: its twin, and that the call does what the twin says. Printed by a program. -/
namespace Go.Proofs.YthikoaamigiceaaDoor
open Go.Tw
set_option linter.unusedSimpArgs false
set_option linter.unusedVariables false
def ord55 : Nat → List (Tag × Nat)
  | 2 => [(.p, 0), (.p, 1), (.p, 2), (.r, 3), (.p, 4), (.p, 5)]
  | _ => []
def al55 : Nat → Option Nat
  | _ => none
def ms55 : Nat → Option (List (Option Tag × Nat × List Nat))
  | _ => none
def E55 (F : Nat) : Ev := ⟨cfg, 25, ctOf [], ord55, ctOf [], al55, ms55⟩
theorem cts55 (F : Nat) : CtsOk Tryd.prog (E55 F) := cts_of (l := []) (l' := []) rfl rfl trivial trivial
def T55c (F : Nat) (p0 : Int) (p1 : List UInt8) {β : Type} (k : (Int × (List UInt8)) → Option β) : Option β :=
  (bif (p0 != (0 : Int)) then (k (p0, ([] : List UInt8))) else (bif (decide ((1048576 : Int) < (p1.length : Int))) then (k ((2 : Int), ([] : List UInt8))) else (Option.bind (gapp ([] : List UInt8) p1) fun x2 => (k ((0 : Int), x2)))))
def T55 (F : Nat) (p0 : Int) (p1 : List UInt8) : Option (Int × (List UInt8)) := T55c F p0 p1 some
theorem T55n (F : Nat) (p0 : Int) (p1 : List UInt8) {β : Type} (k : (Int × (List UInt8)) → Option β) : T55c F p0 p1 k = (T55 F p0 p1).bind k := by
  simp only [T55, T55c, Option.bind_assoc, cond_bind, Option.bind_some, Option.bind_none, elimS_bind]
@[reducible] def cA55 : List Sh := [(.pt 0 [])]
@[reducible] def cB55 : List Sh := [(.rw 2), .i]
@[reducible] def cT55 : List TSh := [.blk 112 (.pr (.rw 1) (.pr .i .un)), .row 5 .u8]
@[reducible] def cU55 : List TSh := [.blk 112 (.pr (.rw 1) (.pr .i .un)), .row 5 .u8, .row 5 .u8]
def ct55 (F : Nat) : Ct := mkC 2 cA55 cT55 cB55 cU55 (fun x y => T55 F y.1.2.1 y.2.1) (fun x y (z : Int × (List UInt8)) => (((), z.1, ()), (((), y.1.2.1, ()), y.2.1, z.2, ())))
theorem eq55 (F : Nat) (x : dens cA55) (y : tdens cT55) : sev (E55 F) 2 [] (bodyOf Tryd.f55) [] (mkSt (rng 1) cA55 cT55 x y) (kFn (E55 F) 2 Tryd.f55.results.toList cB55 cU55 fun p q => some (p, q)) =
    T55c F y.1.2.1 y.2.1 (fun z => some (((), z.1, ()), (((), y.1.2.1, ()), y.2.1, z.2, ()))) := by kernel_rfl
theorem ok55 (F : Nat) : Sound Tryd.prog cfg 55 (ct55 F) :=
  mkC_ok (E := E55 F) (lp := []) (code := bodyOf Tryd.f55) Tryd.func55 rfl Tryd.ntmps55 rfl rfl cok (cts55 F) mixed trivial (by kernel_rfl) (fun x y k => T55c F y.1.2.1 y.2.1 k) (fun x y k => T55n F y.1.2.1 y.2.1 k) (eq55 F)
end Go.Proofs.YthikoaamigiceaaDoor
/- kinkeep/keyring.EncodeIndex: its twin, and that the call does what the twin says. Printed by a program. -/
namespace Go.Proofs.YthikoaamigiceaaDoor
open Go.Tw
set_option linter.unusedSimpArgs false
set_option linter.unusedVariables false
def ord25 : Nat → List (Tag × Nat)
  | _ => []
def al25 : Nat → Option Nat
  | _ => none
def ms25 : Nat → Option (List (Option Tag × Nat × List Nat))
  | _ => none
def E25 (F : Nat) : Ev := ⟨cfg, 53, ctOf [(39, ct39 F), (40, ct40 F), (41, ct41 F), (42, ct42 F), (45, ct45 F), (51, ct51 F), (54, ct54 F), (55, ct55 F)], ord25, ctOf [], al25, ms25⟩
theorem cts25 (F : Nat) : CtsOk Tryd.prog (E25 F) := cts_of (l := [(39, ct39 F), (40, ct40 F), (41, ct41 F), (42, ct42 F), (45, ct45 F), (51, ct51 F), (54, ct54 F), (55, ct55 F)]) (l' := []) rfl rfl ⟨⟨ok39 F, _, Tryd.func39, rfl, rfl⟩, ⟨⟨ok40 F, _, Tryd.func40, rfl, rfl⟩, ⟨⟨ok41 F, _, Tryd.func41, rfl, rfl⟩, ⟨⟨ok42 F, _, Tryd.func42, rfl, rfl⟩, ⟨⟨ok45 F, _, Tryd.func45, rfl, rfl⟩, ⟨⟨ok51 F, _, Tryd.func51, rfl, rfl⟩, ⟨⟨ok54 F, _, Tryd.func54, rfl, rfl⟩, ⟨⟨ok55 F, _, Tryd.func55, rfl, rfl⟩, trivial⟩⟩⟩⟩⟩⟩⟩⟩ trivial
def T25c (F : Nat) (p0 : Int) (p1 : Int) (p2 : List Int) (p3 : List (Int × Int × Int × ((List UInt8) × Int × Int × Unit) × Int × Int × (List UInt8) × Bool × Unit)) (p4 : List ((List UInt8) × Int × Int × Int × Int × (List ((List UInt8) × Int × Int × Unit)) × Unit)) (p5 : List ((List UInt8) × Int × Int × Unit)) {β : Type} (k : (Int × (List UInt8)) → Option β) : Option β :=
  (Option.bind (T39 F p0 p1 p2 p3 p4 p5) fun z9 => (bif (!z9) then (k ((1 : Int), ([] : List UInt8))) else (Option.bind (T40 F) fun z10 => (Option.bind (T41 F ([p0, p1] : List Int) z10) fun z11 => (Option.bind (T42 F p2 z10 z11) fun z12 => (Option.bind (T45 F p3 z12.1 z12.2) fun z13 => (Option.bind (T51 F p4 z13.1 z13.2) fun z14 => (Option.bind (T54 F p5 z14.1 z14.2) fun z15 => (Option.bind (T55 F z15.1 z15.2) fun z16 => (bif (z16.1 != (0 : Int)) then (k ((2 : Int), ([] : List UInt8))) else (bif (decide ((1048560 : Int) < (z16.2.length : Int))) then (k ((2 : Int), ([] : List UInt8))) else (k ((0 : Int), z16.2)))))))))))))
def T25 (F : Nat) (p0 : Int) (p1 : Int) (p2 : List Int) (p3 : List (Int × Int × Int × ((List UInt8) × Int × Int × Unit) × Int × Int × (List UInt8) × Bool × Unit)) (p4 : List ((List UInt8) × Int × Int × Int × Int × (List ((List UInt8) × Int × Int × Unit)) × Unit)) (p5 : List ((List UInt8) × Int × Int × Unit)) : Option (Int × (List UInt8)) := T25c F p0 p1 p2 p3 p4 p5 some
theorem T25n (F : Nat) (p0 : Int) (p1 : Int) (p2 : List Int) (p3 : List (Int × Int × Int × ((List UInt8) × Int × Int × Unit) × Int × Int × (List UInt8) × Bool × Unit)) (p4 : List ((List UInt8) × Int × Int × Int × Int × (List ((List UInt8) × Int × Int × Unit)) × Unit)) (p5 : List ((List UInt8) × Int × Int × Unit)) {β : Type} (k : (Int × (List UInt8)) → Option β) : T25c F p0 p1 p2 p3 p4 p5 k = (T25 F p0 p1 p2 p3 p4 p5).bind k := by
  simp only [T25, T25c, Option.bind_assoc, cond_bind, Option.bind_some, Option.bind_none, elimS_bind]
@[reducible] def cA25 : List Sh := [(.pr .i (.pr .i (.pr (.ro .i) (.pr (.ro (.pr .i (.pr .i (.pr .i (.pr (.pr .s (.pr .i (.pr .i .un))) (.pr .i (.pr .i (.pr .s (.pr .bo .un))))))))) (.pr (.ro (.pr .s (.pr .i (.pr .i (.pr .i (.pr .i (.pr (.sl (.pr .s (.pr .i (.pr .i .un)))) .un))))))) (.pr (.ro (.pr .s (.pr .i (.pr .i .un)))) .un))))))]
@[reducible] def cB25 : List Sh := [(.rw 0), .i]
@[reducible] def cT25 : List TSh := []
@[reducible] def cU25 : List TSh := [.row 5 .u8]
def ct25 (F : Nat) : Ct := mkC 0 cA25 cT25 cB25 cU25 (fun x y => T25 F x.1.1 x.1.2.1 x.1.2.2.1 x.1.2.2.2.1 x.1.2.2.2.2.1 x.1.2.2.2.2.2.1) (fun x y (z : Int × (List UInt8)) => (((), z.1, ()), (z.2, ())))
theorem eq25 (F : Nat) (x : dens cA25) (y : tdens cT25) : sev (E25 F) 0 [] (bodyOf Tryd.f25) [] (mkSt (rng 1) cA25 cT25 x y) (kFn (E25 F) 0 Tryd.f25.results.toList cB25 cU25 fun p q => some (p, q)) =
    T25c F x.1.1 x.1.2.1 x.1.2.2.1 x.1.2.2.2.1 x.1.2.2.2.2.1 x.1.2.2.2.2.2.1 (fun z => some (((), z.1, ()), (z.2, ()))) := by kernel_rfl
theorem ok25 (F : Nat) : Sound Tryd.prog cfg 25 (ct25 F) :=
  mkC_ok (E := E25 F) (lp := []) (code := bodyOf Tryd.f25) Tryd.func25 rfl Tryd.ntmps25 rfl rfl cok (cts25 F) mixed trivial (by kernel_rfl) (fun x y k => T25c F x.1.1 x.1.2.1 x.1.2.2.1 x.1.2.2.2.1 x.1.2.2.2.2.1 x.1.2.2.2.2.2.1 k) (fun x y k => T25n F x.1.1 x.1.2.1 x.1.2.2.1 x.1.2.2.2.1 x.1.2.2.2.2.1 x.1.2.2.2.2.2.1 k) (eq25 F)
end Go.Proofs.YthikoaamigiceaaDoor
/- kinkeep/keyring.IndexClass: its twin, and that the call does what the twin says. Printed by a program. -/
namespace Go.Proofs.YthikoaamigiceaaDoor
open Go.Tw
set_option linter.unusedSimpArgs false
set_option linter.unusedVariables false
def ord12 : Nat → List (Tag × Nat)
  | _ => []
def al12 : Nat → Option Nat
  | _ => none
def ms12 : Nat → Option (List (Option Tag × Nat × List Nat))
  | _ => none
def E12 (F : Nat) : Ev := ⟨cfg, 16, ctOf [], ord12, ctOf [], al12, ms12⟩
theorem cts12 (F : Nat) : CtsOk Tryd.prog (E12 F) := cts_of (l := []) (l' := []) rfl rfl trivial trivial
def L12_2c (F : Nat) (y4 : Int) (y5 : Int) {β : Type} (kA : Int → Option β) (kO : Int → Option β) : Option β :=
  (bif (decide (y5 < (w64 (y4 + (10 : Int))))) then (kA (w64 (y5 * (2 : Int)))) else (kO y5))
def L12_2 (F : Nat) (y4 : Int) (y5 : Int) : Option ((Int) ⊕ (Int)) := L12_2c F y4 y5 (fun s => some (.inl s)) (fun z => some (.inr z))
theorem L12_2n (F : Nat) (y4 : Int) (y5 : Int) {β : Type} (kA : Int → Option β) (kO : Int → Option β) : L12_2c F y4 y5 kA kO = (L12_2 F y4 y5).bind (elimS kA kO) := by
  simp only [L12_2, L12_2c, Option.bind_assoc, cond_bind, Option.bind_some, Option.bind_none, elimS_l, elimS_r, elimS_bind]
@[reducible] def sA12_2 : List Sh := [.i, .i]
@[reducible] def sAp112_2 : List Sh := [.i]
@[reducible] def sT12_2 : List TSh := []
@[reducible] def sTp112_2 : List TSh := []
def lc12_2 (F : Nat) : Lc := mkL [0, 4] sA12_2 sT12_2 [4] sAp112_2 sTp112_2 F (fun x y (s : Int) => L12_2 F x.1 s) (fun x y => x.2.1) (fun x y (z : Int) => ((z, ()), ()))
theorem le12_2 (F : Nat) (x : dens sA12_2) (y : tdens sT12_2) (s : Int) : sev (E12 F) 0 [] (cAt (bodyOf Tryd.f12) (0 :: 0 :: [0, 1, 1, 1, 1])) (0 :: 0 :: [0, 1, 1, 1, 1]) (mkSt [0, 4] sA12_2 sT12_2 (x.1, s, ()) ()) (kLoop 0 [0, 4] sA12_2 sT12_2 [4] sAp112_2 sTp112_2 [] [] [] 0 (fun x y => some (.inl (x, y))) (fun x y => some (.inr (.inl (x, y)))) (fun x y => some (.inr (.inr (x, y))))) =
    L12_2c (β := Full sA12_2 sT12_2 sAp112_2 sTp112_2 [] []) F x.1 s (fun s => some (.inl ((x.1, s, ()), ()))) (fun z => some (.inr (.inl ((z, ()), ())))) := by kernel_rfl
theorem lo12_2 (F : Nat) : LcOk Tryd.prog (E12 F) 0 (lc12_2 F) (cAt (bodyOf Tryd.f12) [0, 1, 1, 1, 1]) :=
  mkL_ok (lp := []) (id := 0) (b := cAt (bodyOf Tryd.f12) (0 :: 0 :: [0, 1, 1, 1, 1])) cok (cts12 F) mixed trivial (by kernel_rfl) (by kernel_rfl) (fun x y s => (x.1, s, ())) (fun x y s => ()) (fun x y => rfl) (fun x y => rfl) (fun x y s kA kO => L12_2c F x.1 s kA kO) (fun x y s kA kO => L12_2n F x.1 s kA kO) (le12_2 F)
def T12c (F : Nat) (p0 : Int) {β : Type} (k : (Int × Int) → Option β) : Option β :=
  (bif (decide (p0 < (0 : Int))) then (k ((0 : Int), (1 : Int))) else (bif (decide ((1048560 : Int) < p0)) then (k ((0 : Int), (2 : Int))) else (Option.bind (iter (fun s => L12_2 F p0 s) F (1024 : Int)) fun z6 => (k (z6, (0 : Int))))))
def T12 (F : Nat) (p0 : Int) : Option (Int × Int) := T12c F p0 some
theorem T12n (F : Nat) (p0 : Int) {β : Type} (k : (Int × Int) → Option β) : T12c F p0 k = (T12 F p0).bind k := by
  simp only [T12, T12c, Option.bind_assoc, cond_bind, Option.bind_some, Option.bind_none, elimS_bind]
@[reducible] def cA12 : List Sh := [.i]
@[reducible] def cB12 : List Sh := [.i, .i]
@[reducible] def cT12 : List TSh := []
@[reducible] def cU12 : List TSh := []
def ct12 (F : Nat) : Ct := mkC 0 cA12 cT12 cB12 cU12 (fun x y => T12 F x.1) (fun x y (z : Int × Int) => ((z.1, z.2, ()), ()))
theorem eq12 (F : Nat) (x : dens cA12) (y : tdens cT12) : sev (E12 F) 0 [([0, 1, 1, 1, 1], lc12_2 F)] (bodyOf Tryd.f12) [] (mkSt (rng 1) cA12 cT12 x y) (kFn (E12 F) 0 Tryd.f12.results.toList cB12 cU12 fun p q => some (p, q)) =
    T12c F x.1 (fun z => some ((z.1, z.2, ()), ())) := by kernel_rfl
theorem ok12 (F : Nat) : Sound Tryd.prog cfg 12 (ct12 F) :=
  mkC_ok (E := E12 F) (lp := [([0, 1, 1, 1, 1], lc12_2 F)]) (code := bodyOf Tryd.f12) Tryd.func12 rfl Tryd.ntmps12 rfl rfl cok (cts12 F) mixed ⟨lo12_2 F, trivial⟩ (by kernel_rfl) (fun x y k => T12c F x.1 k) (fun x y k => T12n F x.1 k) (eq12 F)
end Go.Proofs.YthikoaamigiceaaDoor
/- kinkeep/kinkeeplaw31.awake: its twin, and that the call does what the twin says. Printed by a program. -/
namespace Go.Proofs.YthikoaamigiceaaDoor
open Go.Tw
set_option linter.unusedSimpArgs false
set_option linter.unusedVariables false
def ord9 : Nat → List (Tag × Nat)
  | 2 => []
  | 5 => [(.p, 0), (.p, 1), (.p, 2), (.p, 3), (.r, 4), (.p, 5), (.r, 6), (.p, 7), (.p, 8), (.p, 9), (.p, 10), (.r, 11), (.p, 12), (.p, 13), (.p, 14), (.p, 15), (.p, 16), (.p, 17), (.p, 18), (.p, 19), (.p, 20), (.p, 21), (.p, 22), (.p, 23), (.p, 24), (.p, 25), (.p, 26), (.p, 27), (.r, 28), (.p, 29), (.p, 30), (.p, 31), (.p, 32), (.p, 33), (.p, 34), (.c, 35), (.c, 36), (.w, 37), (.p, 38), (.p, 39), (.p, 40), (.p, 41), (.p, 42), (.p, 43), (.p, 44), (.p, 45), (.p, 46), (.p, 47), (.p, 48), (.p, 49), (.p, 50), (.p, 51), (.p, 52), (.p, 53), (.p, 54), (.p, 55), (.p, 56), (.p, 57)]
  | _ => []
def al9 : Nat → Option Nat
  | _ => none
def ms9 : Nat → Option (List (Option Tag × Nat × List Nat))
  | 2 => some [(some .w, 0, [1, 2]), (none, 1, [2]), (none, 2, []), (some .w, 3, []), (some .p, 4, []), (some .p, 5, []), (some .p, 6, []), (some .p, 7, []), (some .p, 8, [])]
  | _ => none
def E9 (F : Nat) : Ev := ⟨cfg, 87, ctOf [(22, ct22 F), (14, ct14 F), (10, ct10 F), (25, ct25 F), (12, ct12 F)], ord9, ctOf [], al9, ms9⟩
theorem cts9 (F : Nat) : CtsOk Tryd.prog (E9 F) := cts_of (l := [(22, ct22 F), (14, ct14 F), (10, ct10 F), (25, ct25 F), (12, ct12 F)]) (l' := []) rfl rfl ⟨⟨ok22 F, _, Tryd.func22, rfl, rfl⟩, ⟨⟨ok14 F, _, Tryd.func14, rfl, rfl⟩, ⟨⟨ok10 F, _, Tryd.func10, rfl, rfl⟩, ⟨⟨ok25 F, _, Tryd.func25, rfl, rfl⟩, ⟨⟨ok12 F, _, Tryd.func12, rfl, rfl⟩, trivial⟩⟩⟩⟩⟩ trivial
def T9c (F : Nat) {β : Type} (k : Bool → Option β) : Option β :=
  (Option.bind (T22 F (UInt8.ofNat 1)) fun z12 => (Option.bind (T14 F z12) fun z13 => (Option.bind (T22 F (UInt8.ofNat 1)) fun z14 => (Option.bind (T10 F z14 (2 : Int) ([(0 : Int), (3 : Int), (5 : Int)] : List Int) (List.replicate 32 (0 : UInt8))) fun z15 => (Option.bind (T25 F (0 : Int) (0 : Int) ([] : List Int) ([] : List (Int × Int × Int × ((List UInt8) × Int × Int × Unit) × Int × Int × (List UInt8) × Bool × Unit)) ([] : List ((List UInt8) × Int × Int × Int × Int × (List ((List UInt8) × Int × Int × Unit)) × Unit)) ([] : List ((List UInt8) × Int × Int × Unit))) fun z16 => (Option.bind (T12 F (1015 : Int)) fun z17 => (bif (z13.2.2.2.2.2 == (0 : Int)) then (bif (z13.1 != z13.2.1) then (bif ((z13.2.2.2.2.1.length : Int) == (32 : Int)) then (bif (z15.1 == (0 : Int)) then (bif ((z15.2.length : Int) == (3 : Int)) then (Option.bind (inb z15.2.length (1 : Int)) fun x18 => (Option.bind (z15.2[x18]?) fun x19 => (bif (x19.1 == (4 : Int)) then (Option.bind (inb z15.2.length (1 : Int)) fun x20 => (Option.bind (z15.2[x20]?) fun x21 => (Option.bind (T22 F (UInt8.ofNat 1)) fun z22 => (bif (x21.2.1 == z22) then (bif (z16.1 == (0 : Int)) then (bif ((z16.2.length : Int) == (6 : Int)) then (bif (z17.1 == (2048 : Int)) then (k (z17.2 == (0 : Int))) else (k false)) else (k false)) else (k false)) else (k false))))) else (k false)))) else (k false)) else (k false)) else (k false)) else (k false)) else (k false))))))))
def T9 (F : Nat) : Option (Bool) := T9c F some
theorem T9n (F : Nat) {β : Type} (k : Bool → Option β) : T9c F k = (T9 F).bind k := by
  simp only [T9, T9c, Option.bind_assoc, cond_bind, Option.bind_some, Option.bind_none, elimS_bind]
@[reducible] def cA9 : List Sh := []
@[reducible] def cB9 : List Sh := [.bo]
@[reducible] def cT9 : List TSh := []
@[reducible] def cU9 : List TSh := []
def ct9 (F : Nat) : Ct := mkC 0 cA9 cT9 cB9 cU9 (fun x y => T9 F) (fun x y (z : Bool) => ((z, ()), ()))
theorem eq9 (F : Nat) (x : dens cA9) (y : tdens cT9) : sev (E9 F) 0 [] (bodyOf Tryd.f9) [] (mkSt (rng 0) cA9 cT9 x y) (kFn (E9 F) 0 Tryd.f9.results.toList cB9 cU9 fun p q => some (p, q)) =
    T9c F (fun z => some ((z, ()), ())) := by kernel_rfl
theorem ok9 (F : Nat) : Sound Tryd.prog cfg 9 (ct9 F) :=
  mkC_ok (E := E9 F) (lp := []) (code := bodyOf Tryd.f9) Tryd.func9 rfl Tryd.ntmps9 rfl rfl cok (cts9 F) mixed trivial (by kernel_rfl) (fun x y k => T9c F k) (fun x y k => T9n F k) (eq9 F)
end Go.Proofs.YthikoaamigiceaaDoor
/- kinkeep/keyring.at: its twin, and that the call does what the twin says. Printed by a program. -/
namespace Go.Proofs.YthikoaamigiceaaDoor
open Go.Tw
set_option linter.unusedSimpArgs false
set_option linter.unusedVariables false
def ord34 : Nat → List (Tag × Nat)
  | _ => []
def al34 : Nat → Option Nat
  | _ => none
def ms34 : Nat → Option (List (Option Tag × Nat × List Nat))
  | _ => none
def E34 (F : Nat) : Ev := ⟨cfg, 13, ctOf [], ord34, ctOf [], al34, ms34⟩
theorem cts34 (F : Nat) : CtsOk Tryd.prog (E34 F) := cts_of (l := []) (l' := []) rfl rfl trivial trivial
def T34c (F : Nat) (p0 : List Int) (p1 : Int) {β : Type} (k : Int → Option β) : Option β :=
  (bif (decide (p1 < (p0.length : Int))) then (Option.bind (ix p0 p1) fun x2 => (k x2)) else (k (0 : Int)))
def T34 (F : Nat) (p0 : List Int) (p1 : Int) : Option (Int) := T34c F p0 p1 some
theorem T34n (F : Nat) (p0 : List Int) (p1 : Int) {β : Type} (k : Int → Option β) : T34c F p0 p1 k = (T34 F p0 p1).bind k := by
  simp only [T34, T34c, Option.bind_assoc, cond_bind, Option.bind_some, Option.bind_none, elimS_bind]
@[reducible] def cA34 : List Sh := [(.ro .i), .i]
@[reducible] def cB34 : List Sh := [.i]
@[reducible] def cT34 : List TSh := []
@[reducible] def cU34 : List TSh := []
def ct34 (F : Nat) : Ct := mkC 0 cA34 cT34 cB34 cU34 (fun x y => T34 F x.1 x.2.1) (fun x y (z : Int) => ((z, ()), ()))
theorem eq34 (F : Nat) (x : dens cA34) (y : tdens cT34) : sev (E34 F) 0 [] (bodyOf Tryd.f34) [] (mkSt (rng 2) cA34 cT34 x y) (kFn (E34 F) 0 Tryd.f34.results.toList cB34 cU34 fun p q => some (p, q)) =
    T34c F x.1 x.2.1 (fun z => some ((z, ()), ())) := by kernel_rfl
theorem ok34 (F : Nat) : Sound Tryd.prog cfg 34 (ct34 F) :=
  mkC_ok (E := E34 F) (lp := []) (code := bodyOf Tryd.f34) Tryd.func34 rfl Tryd.ntmps34 rfl rfl cok (cts34 F) mixed trivial (by kernel_rfl) (fun x y k => T34c F x.1 x.2.1 k) (fun x y k => T34n F x.1 x.2.1 k) (eq34 F)
end Go.Proofs.YthikoaamigiceaaDoor
/- kinkeep/keyring.Newer: its twin, and that the call does what the twin says. Printed by a program. -/
namespace Go.Proofs.YthikoaamigiceaaDoor
open Go.Tw
set_option linter.unusedSimpArgs false
set_option linter.unusedVariables false
def ord20 : Nat → List (Tag × Nat)
  | 6 => [(.p, 0), (.r, 1), (.p, 2), (.p, 4), (.c, 5), (.p, 6), (.w, 3), (.w, 7), (.p, 8)]
  | _ => []
def al20 : Nat → Option Nat
  | _ => none
def ms20 : Nat → Option (List (Option Tag × Nat × List Nat))
  | _ => none
def E20 (F : Nat) : Ev := ⟨cfg, 38, ctOf [(34, ct34 F)], ord20, ctOf [], al20, ms20⟩
theorem cts20 (F : Nat) : CtsOk Tryd.prog (E20 F) := cts_of (l := [(34, ct34 F)]) (l' := []) rfl rfl ⟨⟨ok34 F, _, Tryd.func34, rfl, rfl⟩, trivial⟩ trivial
def L20_2c (F : Nat) (y20 : Int) (y24 : List Int) (y30 : List Int) (y21 : Int) {β : Type} (kA : Int → Option β) (kO : Unit → Option β) (kR : Bool → Option β) : Option β :=
  (bif (decide (y21 < y20)) then (Option.bind (T34 F y30 y21) fun z36 => (Option.bind (T34 F y24 y21) fun z37 => (bif (decide (z37 < z36)) then (kR false) else (kA (w64 (y21 + (1 : Int))))))) else (kO ()))
def L20_2 (F : Nat) (y20 : Int) (y24 : List Int) (y30 : List Int) (y21 : Int) : Option ((Int) ⊕ ((Unit) ⊕ (Bool))) := L20_2c F y20 y24 y30 y21 (fun s => some (.inl s)) (fun z => some (.inr (.inl z))) (fun z => some (.inr (.inr z)))
theorem L20_2n (F : Nat) (y20 : Int) (y24 : List Int) (y30 : List Int) (y21 : Int) {β : Type} (kA : Int → Option β) (kO : Unit → Option β) (kR : Bool → Option β) : L20_2c F y20 y24 y30 y21 kA kO kR = (L20_2 F y20 y24 y30 y21).bind (elimS kA (elimS kO kR)) := by
  simp only [L20_2, L20_2c, Option.bind_assoc, cond_bind, Option.bind_some, Option.bind_none, elimS_l, elimS_r, elimS_bind]
@[reducible] def sA20_2 : List Sh := [(.pt 0 []), (.pt 1 []), .i, .i]
@[reducible] def sAp120_2 : List Sh := []
@[reducible] def sAp220_2 : List Sh := [.bo]
@[reducible] def sT20_2 : List TSh := [.blk 47 (.pr .i (.pr .i (.pr (.ro .i) (.pr (.ro (.pr .i (.pr .i (.pr .i (.pr (.pr .s (.pr .i (.pr .i .un))) (.pr .i (.pr .i (.pr .s (.pr .bo .un))))))))) (.pr (.ro (.pr .s (.pr .i (.pr .i (.pr .i (.pr .i (.pr (.sl (.pr .s (.pr .i (.pr .i .un)))) .un))))))) (.pr (.ro (.pr .s (.pr .i (.pr .i .un)))) .un)))))), .blk 47 (.pr .i (.pr .i (.pr (.ro .i) (.pr (.ro (.pr .i (.pr .i (.pr .i (.pr (.pr .s (.pr .i (.pr .i .un))) (.pr .i (.pr .i (.pr .s (.pr .bo .un))))))))) (.pr (.ro (.pr .s (.pr .i (.pr .i (.pr .i (.pr .i (.pr (.sl (.pr .s (.pr .i (.pr .i .un)))) .un))))))) (.pr (.ro (.pr .s (.pr .i (.pr .i .un)))) .un))))))]
@[reducible] def sTp120_2 : List TSh := []
@[reducible] def sTp220_2 : List TSh := []
def lc20_2 (F : Nat) : Lc := mkR [2, 3, 24, 25] sA20_2 sT20_2 [] sAp120_2 sTp120_2 [4] sAp220_2 sTp220_2 F (fun x y (s : Int) => L20_2 F x.2.2.1 y.1.2.2.1 y.2.1.2.2.1 s) (fun x y => x.2.2.2.1) (fun x y (z : Unit) => ((), ())) (fun x y (z : Bool) => ((z, ()), ()))
theorem le20_2 (F : Nat) (x : dens sA20_2) (y : tdens sT20_2) (s : Int) : sev (E20 F) 0 [] (cAt (bodyOf Tryd.f20) (0 :: 0 :: [1, 0, 1, 1])) (0 :: 0 :: [1, 0, 1, 1]) (mkSt [2, 3, 24, 25] sA20_2 sT20_2 ((), (), x.2.2.1, s, ()) ((y.1.1, y.1.2.1, y.1.2.2.1, y.1.2.2.2.1, y.1.2.2.2.2.1, y.1.2.2.2.2.2.1, ()), (y.2.1.1, y.2.1.2.1, y.2.1.2.2.1, y.2.1.2.2.2.1, y.2.1.2.2.2.2.1, y.2.1.2.2.2.2.2.1, ()), ())) (kLoop 0 [2, 3, 24, 25] sA20_2 sT20_2 [] sAp120_2 sTp120_2 [4] sAp220_2 sTp220_2 0 (fun x y => some (.inl (x, y))) (fun x y => some (.inr (.inl (x, y)))) (fun x y => some (.inr (.inr (x, y))))) =
    L20_2c (β := Full sA20_2 sT20_2 sAp120_2 sTp120_2 sAp220_2 sTp220_2) F x.2.2.1 y.1.2.2.1 y.2.1.2.2.1 s (fun s => some (.inl (((), (), x.2.2.1, s, ()), ((y.1.1, y.1.2.1, y.1.2.2.1, y.1.2.2.2.1, y.1.2.2.2.2.1, y.1.2.2.2.2.2.1, ()), (y.2.1.1, y.2.1.2.1, y.2.1.2.2.1, y.2.1.2.2.2.1, y.2.1.2.2.2.2.1, y.2.1.2.2.2.2.2.1, ()), ())))) (fun z => some (.inr (.inl ((), ())))) (fun z => some (.inr (.inr ((z, ()), ())))) := by kernel_rfl
theorem lo20_2 (F : Nat) : LcOk Tryd.prog (E20 F) 0 (lc20_2 F) (cAt (bodyOf Tryd.f20) [1, 0, 1, 1]) :=
  mkR_ok (lp := []) (id := 0) (b := cAt (bodyOf Tryd.f20) (0 :: 0 :: [1, 0, 1, 1])) cok (cts20 F) mixed trivial (by kernel_rfl) (by kernel_rfl) (fun x y s => ((), (), x.2.2.1, s, ())) (fun x y s => ((y.1.1, y.1.2.1, y.1.2.2.1, y.1.2.2.2.1, y.1.2.2.2.2.1, y.1.2.2.2.2.2.1, ()), (y.2.1.1, y.2.1.2.1, y.2.1.2.2.1, y.2.1.2.2.2.1, y.2.1.2.2.2.2.1, y.2.1.2.2.2.2.2.1, ()), ())) (fun x y => rfl) (fun x y => rfl) (fun x y s kA kO kR => L20_2c F x.2.2.1 y.1.2.2.1 y.2.1.2.2.1 s kA kO kR) (fun x y s kA kO kR => L20_2n F x.2.2.1 y.1.2.2.1 y.2.1.2.2.1 s kA kO kR) (le20_2 F)
def T20c (F : Nat) (p0 : Int) (p1 : Int) (p2 : List Int) (p6 : Int) (p7 : Int) (p8 : List Int) {β : Type} (k : Bool → Option β) : Option β :=
  (bif (p0 != p6) then (k false) else (bif (decide (p1 < p7)) then (k false) else (Option.bind (iter (fun s => L20_2 F (if (p2.length : Int) < (p8.length : Int) then (p8.length : Int) else (p2.length : Int)) p2 p8 s) F (0 : Int)) fun z38 => elimS (fun z38 => (k true)) (fun z38 => (k z38)) z38)))
def T20 (F : Nat) (p0 : Int) (p1 : Int) (p2 : List Int) (p6 : Int) (p7 : Int) (p8 : List Int) : Option (Bool) := T20c F p0 p1 p2 p6 p7 p8 some
theorem T20n (F : Nat) (p0 : Int) (p1 : Int) (p2 : List Int) (p6 : Int) (p7 : Int) (p8 : List Int) {β : Type} (k : Bool → Option β) : T20c F p0 p1 p2 p6 p7 p8 k = (T20 F p0 p1 p2 p6 p7 p8).bind k := by
  simp only [T20, T20c, Option.bind_assoc, cond_bind, Option.bind_some, Option.bind_none, elimS_bind]
@[reducible] def cA20 : List Sh := [(.pr .i (.pr .i (.pr (.ro .i) (.pr (.ro (.pr .i (.pr .i (.pr .i (.pr (.pr .s (.pr .i (.pr .i .un))) (.pr .i (.pr .i (.pr .s (.pr .bo .un))))))))) (.pr (.ro (.pr .s (.pr .i (.pr .i (.pr .i (.pr .i (.pr (.sl (.pr .s (.pr .i (.pr .i .un)))) .un))))))) (.pr (.ro (.pr .s (.pr .i (.pr .i .un)))) .un)))))), (.pr .i (.pr .i (.pr (.ro .i) (.pr (.ro (.pr .i (.pr .i (.pr .i (.pr (.pr .s (.pr .i (.pr .i .un))) (.pr .i (.pr .i (.pr .s (.pr .bo .un))))))))) (.pr (.ro (.pr .s (.pr .i (.pr .i (.pr .i (.pr .i (.pr (.sl (.pr .s (.pr .i (.pr .i .un)))) .un))))))) (.pr (.ro (.pr .s (.pr .i (.pr .i .un)))) .un))))))]
@[reducible] def cB20 : List Sh := [.bo]
@[reducible] def cT20 : List TSh := []
@[reducible] def cU20 : List TSh := []
def ct20 (F : Nat) : Ct := mkC 0 cA20 cT20 cB20 cU20 (fun x y => T20 F x.1.1 x.1.2.1 x.1.2.2.1 x.2.1.1 x.2.1.2.1 x.2.1.2.2.1) (fun x y (z : Bool) => ((z, ()), ()))
theorem eq20 (F : Nat) (x : dens cA20) (y : tdens cT20) : sev (E20 F) 0 [([1, 0, 1, 1], lc20_2 F)] (bodyOf Tryd.f20) [] (mkSt (rng 2) cA20 cT20 x y) (kFn (E20 F) 0 Tryd.f20.results.toList cB20 cU20 fun p q => some (p, q)) =
    T20c F x.1.1 x.1.2.1 x.1.2.2.1 x.2.1.1 x.2.1.2.1 x.2.1.2.2.1 (fun z => some ((z, ()), ())) := by kernel_rfl
theorem ok20 (F : Nat) : Sound Tryd.prog cfg 20 (ct20 F) :=
  mkC_ok (E := E20 F) (lp := [([1, 0, 1, 1], lc20_2 F)]) (code := bodyOf Tryd.f20) Tryd.func20 rfl Tryd.ntmps20 rfl rfl cok (cts20 F) mixed ⟨lo20_2 F, trivial⟩ (by kernel_rfl) (fun x y k => T20c F x.1.1 x.1.2.1 x.1.2.2.1 x.2.1.1 x.2.1.2.1 x.2.1.2.2.1 k) (fun x y k => T20n F x.1.1 x.1.2.1 x.1.2.2.1 x.2.1.1 x.2.1.2.1 x.2.1.2.2.1 k) (eq20 F)
end Go.Proofs.YthikoaamigiceaaDoor
/- kinkeep/kinkeepref31.at: its twin, and that the call does what the twin says. Printed by a program. -/
namespace Go.Proofs.YthikoaamigiceaaDoor
open Go.Tw
set_option linter.unusedSimpArgs false
set_option linter.unusedVariables false
def ord35 : Nat → List (Tag × Nat)
  | _ => []
def al35 : Nat → Option Nat
  | _ => none
def ms35 : Nat → Option (List (Option Tag × Nat × List Nat))
  | _ => none
def E35 (F : Nat) : Ev := ⟨cfg, 13, ctOf [], ord35, ctOf [], al35, ms35⟩
theorem cts35 (F : Nat) : CtsOk Tryd.prog (E35 F) := cts_of (l := []) (l' := []) rfl rfl trivial trivial
def T35c (F : Nat) (p0 : List Int) (p1 : Int) {β : Type} (k : Int → Option β) : Option β :=
  (bif (decide (p1 < (p0.length : Int))) then (Option.bind (ix p0 p1) fun x2 => (k x2)) else (k (0 : Int)))
def T35 (F : Nat) (p0 : List Int) (p1 : Int) : Option (Int) := T35c F p0 p1 some
theorem T35n (F : Nat) (p0 : List Int) (p1 : Int) {β : Type} (k : Int → Option β) : T35c F p0 p1 k = (T35 F p0 p1).bind k := by
  simp only [T35, T35c, Option.bind_assoc, cond_bind, Option.bind_some, Option.bind_none, elimS_bind]
@[reducible] def cA35 : List Sh := [(.ro .i), .i]
@[reducible] def cB35 : List Sh := [.i]
@[reducible] def cT35 : List TSh := []
@[reducible] def cU35 : List TSh := []
def ct35 (F : Nat) : Ct := mkC 0 cA35 cT35 cB35 cU35 (fun x y => T35 F x.1 x.2.1) (fun x y (z : Int) => ((z, ()), ()))
theorem eq35 (F : Nat) (x : dens cA35) (y : tdens cT35) : sev (E35 F) 0 [] (bodyOf Tryd.f35) [] (mkSt (rng 2) cA35 cT35 x y) (kFn (E35 F) 0 Tryd.f35.results.toList cB35 cU35 fun p q => some (p, q)) =
    T35c F x.1 x.2.1 (fun z => some ((z, ()), ())) := by kernel_rfl
theorem ok35 (F : Nat) : Sound Tryd.prog cfg 35 (ct35 F) :=
  mkC_ok (E := E35 F) (lp := []) (code := bodyOf Tryd.f35) Tryd.func35 rfl Tryd.ntmps35 rfl rfl cok (cts35 F) mixed trivial (by kernel_rfl) (fun x y k => T35c F x.1 x.2.1 k) (fun x y k => T35n F x.1 x.2.1 k) (eq35 F)
end Go.Proofs.YthikoaamigiceaaDoor
/- kinkeep/kinkeepref31.Newer: its twin, and that the call does what the twin says. Printed by a program. -/
namespace Go.Proofs.YthikoaamigiceaaDoor
open Go.Tw
set_option linter.unusedSimpArgs false
set_option linter.unusedVariables false
def ord21 : Nat → List (Tag × Nat)
  | 6 => [(.p, 0), (.r, 1), (.p, 2), (.p, 4), (.c, 5), (.p, 6), (.w, 3), (.w, 7), (.p, 8)]
  | _ => []
def al21 : Nat → Option Nat
  | _ => none
def ms21 : Nat → Option (List (Option Tag × Nat × List Nat))
  | _ => none
def E21 (F : Nat) : Ev := ⟨cfg, 41, ctOf [(35, ct35 F)], ord21, ctOf [], al21, ms21⟩
theorem cts21 (F : Nat) : CtsOk Tryd.prog (E21 F) := cts_of (l := [(35, ct35 F)]) (l' := []) rfl rfl ⟨⟨ok35 F, _, Tryd.func35, rfl, rfl⟩, trivial⟩ trivial
def L21_2c (F : Nat) (y26 : List Int) (y32 : List Int) (y23 : Int) {β : Type} (kA : Int → Option β) (kO : Unit → Option β) (kR : Bool → Option β) : Option β :=
  (bif (decide (y23 < (y26.length : Int))) then (Option.bind (T35 F y32 y23) fun z40 => (Option.bind (T35 F y26 y23) fun z41 => (bif (decide (z41 < z40)) then (kR false) else (kA (w64 (y23 + (1 : Int))))))) else (bif (decide (y23 < (y32.length : Int))) then (Option.bind (T35 F y32 y23) fun z42 => (Option.bind (T35 F y26 y23) fun z43 => (bif (decide (z43 < z42)) then (kR false) else (kA (w64 (y23 + (1 : Int))))))) else (kO ())))
def L21_2 (F : Nat) (y26 : List Int) (y32 : List Int) (y23 : Int) : Option ((Int) ⊕ ((Unit) ⊕ (Bool))) := L21_2c F y26 y32 y23 (fun s => some (.inl s)) (fun z => some (.inr (.inl z))) (fun z => some (.inr (.inr z)))
theorem L21_2n (F : Nat) (y26 : List Int) (y32 : List Int) (y23 : Int) {β : Type} (kA : Int → Option β) (kO : Unit → Option β) (kR : Bool → Option β) : L21_2c F y26 y32 y23 kA kO kR = (L21_2 F y26 y32 y23).bind (elimS kA (elimS kO kR)) := by
  simp only [L21_2, L21_2c, Option.bind_assoc, cond_bind, Option.bind_some, Option.bind_none, elimS_l, elimS_r, elimS_bind]
@[reducible] def sA21_2 : List Sh := [(.pt 0 []), (.pt 1 []), .i]
@[reducible] def sAp121_2 : List Sh := []
@[reducible] def sAp221_2 : List Sh := [.bo]
@[reducible] def sT21_2 : List TSh := [.blk 47 (.pr .i (.pr .i (.pr (.ro .i) (.pr (.ro (.pr .i (.pr .i (.pr .i (.pr (.pr .s (.pr .i (.pr .i .un))) (.pr .i (.pr .i (.pr .s (.pr .bo .un))))))))) (.pr (.ro (.pr .s (.pr .i (.pr .i (.pr .i (.pr .i (.pr (.sl (.pr .s (.pr .i (.pr .i .un)))) .un))))))) (.pr (.ro (.pr .s (.pr .i (.pr .i .un)))) .un)))))), .blk 47 (.pr .i (.pr .i (.pr (.ro .i) (.pr (.ro (.pr .i (.pr .i (.pr .i (.pr (.pr .s (.pr .i (.pr .i .un))) (.pr .i (.pr .i (.pr .s (.pr .bo .un))))))))) (.pr (.ro (.pr .s (.pr .i (.pr .i (.pr .i (.pr .i (.pr (.sl (.pr .s (.pr .i (.pr .i .un)))) .un))))))) (.pr (.ro (.pr .s (.pr .i (.pr .i .un)))) .un))))))]
@[reducible] def sTp121_2 : List TSh := []
@[reducible] def sTp221_2 : List TSh := []
def lc21_2 (F : Nat) : Lc := mkR [2, 3, 5] sA21_2 sT21_2 [] sAp121_2 sTp121_2 [4] sAp221_2 sTp221_2 F (fun x y (s : Int) => L21_2 F y.1.2.2.1 y.2.1.2.2.1 s) (fun x y => x.2.2.1) (fun x y (z : Unit) => ((), ())) (fun x y (z : Bool) => ((z, ()), ()))
theorem le21_2 (F : Nat) (x : dens sA21_2) (y : tdens sT21_2) (s : Int) : sev (E21 F) 0 [] (cAt (bodyOf Tryd.f21) (0 :: 0 :: [1, 0, 1, 1])) (0 :: 0 :: [1, 0, 1, 1]) (mkSt [2, 3, 5] sA21_2 sT21_2 ((), (), s, ()) ((y.1.1, y.1.2.1, y.1.2.2.1, y.1.2.2.2.1, y.1.2.2.2.2.1, y.1.2.2.2.2.2.1, ()), (y.2.1.1, y.2.1.2.1, y.2.1.2.2.1, y.2.1.2.2.2.1, y.2.1.2.2.2.2.1, y.2.1.2.2.2.2.2.1, ()), ())) (kLoop 0 [2, 3, 5] sA21_2 sT21_2 [] sAp121_2 sTp121_2 [4] sAp221_2 sTp221_2 0 (fun x y => some (.inl (x, y))) (fun x y => some (.inr (.inl (x, y)))) (fun x y => some (.inr (.inr (x, y))))) =
    L21_2c (β := Full sA21_2 sT21_2 sAp121_2 sTp121_2 sAp221_2 sTp221_2) F y.1.2.2.1 y.2.1.2.2.1 s (fun s => some (.inl (((), (), s, ()), ((y.1.1, y.1.2.1, y.1.2.2.1, y.1.2.2.2.1, y.1.2.2.2.2.1, y.1.2.2.2.2.2.1, ()), (y.2.1.1, y.2.1.2.1, y.2.1.2.2.1, y.2.1.2.2.2.1, y.2.1.2.2.2.2.1, y.2.1.2.2.2.2.2.1, ()), ())))) (fun z => some (.inr (.inl ((), ())))) (fun z => some (.inr (.inr ((z, ()), ())))) := by kernel_rfl
theorem lo21_2 (F : Nat) : LcOk Tryd.prog (E21 F) 0 (lc21_2 F) (cAt (bodyOf Tryd.f21) [1, 0, 1, 1]) :=
  mkR_ok (lp := []) (id := 0) (b := cAt (bodyOf Tryd.f21) (0 :: 0 :: [1, 0, 1, 1])) cok (cts21 F) mixed trivial (by kernel_rfl) (by kernel_rfl) (fun x y s => ((), (), s, ())) (fun x y s => ((y.1.1, y.1.2.1, y.1.2.2.1, y.1.2.2.2.1, y.1.2.2.2.2.1, y.1.2.2.2.2.2.1, ()), (y.2.1.1, y.2.1.2.1, y.2.1.2.2.1, y.2.1.2.2.2.1, y.2.1.2.2.2.2.1, y.2.1.2.2.2.2.2.1, ()), ())) (fun x y => rfl) (fun x y => rfl) (fun x y s kA kO kR => L21_2c F y.1.2.2.1 y.2.1.2.2.1 s kA kO kR) (fun x y s kA kO kR => L21_2n F y.1.2.2.1 y.2.1.2.2.1 s kA kO kR) (le21_2 F)
def T21c (F : Nat) (p0 : Int) (p1 : Int) (p2 : List Int) (p6 : Int) (p7 : Int) (p8 : List Int) {β : Type} (k : Bool → Option β) : Option β :=
  (bif (p0 != p6) then (k false) else (bif (decide (p1 < p7)) then (k false) else (Option.bind (iter (fun s => L21_2 F p2 p8 s) F (0 : Int)) fun z44 => elimS (fun z44 => (k true)) (fun z44 => (k z44)) z44)))
def T21 (F : Nat) (p0 : Int) (p1 : Int) (p2 : List Int) (p6 : Int) (p7 : Int) (p8 : List Int) : Option (Bool) := T21c F p0 p1 p2 p6 p7 p8 some
theorem T21n (F : Nat) (p0 : Int) (p1 : Int) (p2 : List Int) (p6 : Int) (p7 : Int) (p8 : List Int) {β : Type} (k : Bool → Option β) : T21c F p0 p1 p2 p6 p7 p8 k = (T21 F p0 p1 p2 p6 p7 p8).bind k := by
  simp only [T21, T21c, Option.bind_assoc, cond_bind, Option.bind_some, Option.bind_none, elimS_bind]
@[reducible] def cA21 : List Sh := [(.pr .i (.pr .i (.pr (.ro .i) (.pr (.ro (.pr .i (.pr .i (.pr .i (.pr (.pr .s (.pr .i (.pr .i .un))) (.pr .i (.pr .i (.pr .s (.pr .bo .un))))))))) (.pr (.ro (.pr .s (.pr .i (.pr .i (.pr .i (.pr .i (.pr (.sl (.pr .s (.pr .i (.pr .i .un)))) .un))))))) (.pr (.ro (.pr .s (.pr .i (.pr .i .un)))) .un)))))), (.pr .i (.pr .i (.pr (.ro .i) (.pr (.ro (.pr .i (.pr .i (.pr .i (.pr (.pr .s (.pr .i (.pr .i .un))) (.pr .i (.pr .i (.pr .s (.pr .bo .un))))))))) (.pr (.ro (.pr .s (.pr .i (.pr .i (.pr .i (.pr .i (.pr (.sl (.pr .s (.pr .i (.pr .i .un)))) .un))))))) (.pr (.ro (.pr .s (.pr .i (.pr .i .un)))) .un))))))]
@[reducible] def cB21 : List Sh := [.bo]
@[reducible] def cT21 : List TSh := []
@[reducible] def cU21 : List TSh := []
def ct21 (F : Nat) : Ct := mkC 0 cA21 cT21 cB21 cU21 (fun x y => T21 F x.1.1 x.1.2.1 x.1.2.2.1 x.2.1.1 x.2.1.2.1 x.2.1.2.2.1) (fun x y (z : Bool) => ((z, ()), ()))
theorem eq21 (F : Nat) (x : dens cA21) (y : tdens cT21) : sev (E21 F) 0 [([1, 0, 1, 1], lc21_2 F)] (bodyOf Tryd.f21) [] (mkSt (rng 2) cA21 cT21 x y) (kFn (E21 F) 0 Tryd.f21.results.toList cB21 cU21 fun p q => some (p, q)) =
    T21c F x.1.1 x.1.2.1 x.1.2.2.1 x.2.1.1 x.2.1.2.1 x.2.1.2.2.1 (fun z => some ((z, ()), ())) := by kernel_rfl
theorem ok21 (F : Nat) : Sound Tryd.prog cfg 21 (ct21 F) :=
  mkC_ok (E := E21 F) (lp := [([1, 0, 1, 1], lc21_2 F)]) (code := bodyOf Tryd.f21) Tryd.func21 rfl Tryd.ntmps21 rfl rfl cok (cts21 F) mixed ⟨lo21_2 F, trivial⟩ (by kernel_rfl) (fun x y k => T21c F x.1.1 x.1.2.1 x.1.2.2.1 x.2.1.1 x.2.1.2.1 x.2.1.2.2.1 k) (fun x y k => T21n F x.1.1 x.1.2.1 x.1.2.2.1 x.2.1.1 x.2.1.2.1 x.2.1.2.2.1 k) (eq21 F)
end Go.Proofs.YthikoaamigiceaaDoor
/- kinkeep/kinkeeplaw31.KeyringNewer: its twin, and that the call does what the twin says. Printed by a program. -/
namespace Go.Proofs.YthikoaamigiceaaDoor
open Go.Tw
set_option linter.unusedSimpArgs false
set_option linter.unusedVariables false
def ord6 : Nat → List (Tag × Nat)
  | 3 => [(.r, 0), (.r, 1), (.c, 3), (.c, 4), (.w, 2), (.w, 5), (.p, 6), (.p, 7)]
  | _ => []
def al6 : Nat → Option Nat
  | _ => none
def ms6 : Nat → Option (List (Option Tag × Nat × List Nat))
  | _ => none
def E6 (F : Nat) : Ev := ⟨cfg, 27, ctOf [(9, ct9 F), (20, ct20 F), (21, ct21 F)], ord6, ctOf [], al6, ms6⟩
theorem cts6 (F : Nat) : CtsOk Tryd.prog (E6 F) := cts_of (l := [(9, ct9 F), (20, ct20 F), (21, ct21 F)]) (l' := []) rfl rfl ⟨⟨ok9 F, _, Tryd.func9, rfl, rfl⟩, ⟨⟨ok20 F, _, Tryd.func20, rfl, rfl⟩, ⟨⟨ok21 F, _, Tryd.func21, rfl, rfl⟩, trivial⟩⟩⟩ trivial
def T6c (F : Nat) (p0 : Int) (p1 : Int) (p2 : List Int) (p6 : Int) (p7 : Int) (p8 : List Int) {β : Type} (k : Bool → Option β) : Option β :=
  (Option.bind (T9 F) fun z7 => (bif (!z7) then (Option.bind (T9 F) fun z8 => (k z8)) else (bif (decide ((20 : Int) < (p2.length : Int))) then (Option.bind (T9 F) fun z9 => (k z9)) else (bif (decide ((20 : Int) < (p8.length : Int))) then (Option.bind (T9 F) fun z10 => (k z10)) else (Option.bind (T20 F p0 p1 p2 p6 p7 p8) fun z11 => (Option.bind (T21 F p0 p1 p2 p6 p7 p8) fun z12 => (k (z11 == z12))))))))
def T6 (F : Nat) (p0 : Int) (p1 : Int) (p2 : List Int) (p6 : Int) (p7 : Int) (p8 : List Int) : Option (Bool) := T6c F p0 p1 p2 p6 p7 p8 some
theorem T6n (F : Nat) (p0 : Int) (p1 : Int) (p2 : List Int) (p6 : Int) (p7 : Int) (p8 : List Int) {β : Type} (k : Bool → Option β) : T6c F p0 p1 p2 p6 p7 p8 k = (T6 F p0 p1 p2 p6 p7 p8).bind k := by
  simp only [T6, T6c, Option.bind_assoc, cond_bind, Option.bind_some, Option.bind_none, elimS_bind]
@[reducible] def cA6 : List Sh := [(.pr .i (.pr .i (.pr (.ro .i) (.pr (.ro (.pr .i (.pr .i (.pr .i (.pr (.pr .s (.pr .i (.pr .i .un))) (.pr .i (.pr .i (.pr .s (.pr .bo .un))))))))) (.pr (.ro (.pr .s (.pr .i (.pr .i (.pr .i (.pr .i (.pr (.sl (.pr .s (.pr .i (.pr .i .un)))) .un))))))) (.pr (.ro (.pr .s (.pr .i (.pr .i .un)))) .un)))))), (.pr .i (.pr .i (.pr (.ro .i) (.pr (.ro (.pr .i (.pr .i (.pr .i (.pr (.pr .s (.pr .i (.pr .i .un))) (.pr .i (.pr .i (.pr .s (.pr .bo .un))))))))) (.pr (.ro (.pr .s (.pr .i (.pr .i (.pr .i (.pr .i (.pr (.sl (.pr .s (.pr .i (.pr .i .un)))) .un))))))) (.pr (.ro (.pr .s (.pr .i (.pr .i .un)))) .un))))))]
@[reducible] def cB6 : List Sh := [.bo]
@[reducible] def cT6 : List TSh := []
@[reducible] def cU6 : List TSh := []
def ct6 (F : Nat) : Ct := mkC 0 cA6 cT6 cB6 cU6 (fun x y => T6 F x.1.1 x.1.2.1 x.1.2.2.1 x.2.1.1 x.2.1.2.1 x.2.1.2.2.1) (fun x y (z : Bool) => ((z, ()), ()))
theorem eq6 (F : Nat) (x : dens cA6) (y : tdens cT6) : sev (E6 F) 0 [] (bodyOf Tryd.f6) [] (mkSt (rng 2) cA6 cT6 x y) (kFn (E6 F) 0 Tryd.f6.results.toList cB6 cU6 fun p q => some (p, q)) =
    T6c F x.1.1 x.1.2.1 x.1.2.2.1 x.2.1.1 x.2.1.2.1 x.2.1.2.2.1 (fun z => some ((z, ()), ())) := by kernel_rfl
theorem ok6 (F : Nat) : Sound Tryd.prog cfg 6 (ct6 F) :=
  mkC_ok (E := E6 F) (lp := []) (code := bodyOf Tryd.f6) Tryd.func6 rfl Tryd.ntmps6 rfl rfl cok (cts6 F) mixed trivial (by kernel_rfl) (fun x y k => T6c F x.1.1 x.1.2.1 x.1.2.2.1 x.2.1.1 x.2.1.2.1 x.2.1.2.2.1 k) (fun x y k => T6n F x.1.1 x.1.2.1 x.1.2.2.1 x.2.1.1 x.2.1.2.1 x.2.1.2.2.1 k) (eq6 F)
end Go.Proofs.YthikoaamigiceaaDoor
/- kinkeep/kinkeeplaw31.KeyringOrders: its twin, and that the call does what the twin says. Printed by a program. -/
namespace Go.Proofs.YthikoaamigiceaaDoor
open Go.Tw
set_option linter.unusedSimpArgs false
set_option linter.unusedVariables false
def ord7 : Nat → List (Tag × Nat)
  | _ => []
def al7 : Nat → Option Nat
  | _ => none
def ms7 : Nat → Option (List (Option Tag × Nat × List Nat))
  | _ => none
def E7 (F : Nat) : Ev := ⟨cfg, 48, ctOf [(9, ct9 F), (20, ct20 F)], ord7, ctOf [], al7, ms7⟩
theorem cts7 (F : Nat) : CtsOk Tryd.prog (E7 F) := cts_of (l := [(9, ct9 F), (20, ct20 F)]) (l' := []) rfl rfl ⟨⟨ok9 F, _, Tryd.func9, rfl, rfl⟩, ⟨⟨ok20 F, _, Tryd.func20, rfl, rfl⟩, trivial⟩⟩ trivial
def T7c (F : Nat) (p0 : Int) (p1 : Int) (p2 : List Int) (p6 : Int) (p7 : Int) (p8 : List Int) (p12 : Int) (p13 : Int) (p14 : List Int) {β : Type} (k : Bool → Option β) : Option β :=
  (Option.bind (T9 F) fun z10 => (bif (!z10) then (Option.bind (T9 F) fun z11 => (k z11)) else (bif (decide ((20 : Int) < (p2.length : Int))) then (Option.bind (T9 F) fun z12 => (k z12)) else (bif (decide ((20 : Int) < (p8.length : Int))) then (Option.bind (T9 F) fun z13 => (k z13)) else (bif (decide ((20 : Int) < (p14.length : Int))) then (Option.bind (T9 F) fun z14 => (k z14)) else (Option.bind (T20 F p0 p1 p2 p0 p1 p2) fun z15 => (bif z15 then (Option.bind (T20 F p0 p1 p2 p6 p7 p8) fun z16 => (bif (!z16) then (k true) else (Option.bind (T20 F p6 p7 p8 p12 p13 p14) fun z17 => (bif (!z17) then (k true) else (Option.bind (T20 F p0 p1 p2 p12 p13 p14) fun z18 => (k z18)))))) else (k false))))))))
def T7 (F : Nat) (p0 : Int) (p1 : Int) (p2 : List Int) (p6 : Int) (p7 : Int) (p8 : List Int) (p12 : Int) (p13 : Int) (p14 : List Int) : Option (Bool) := T7c F p0 p1 p2 p6 p7 p8 p12 p13 p14 some
theorem T7n (F : Nat) (p0 : Int) (p1 : Int) (p2 : List Int) (p6 : Int) (p7 : Int) (p8 : List Int) (p12 : Int) (p13 : Int) (p14 : List Int) {β : Type} (k : Bool → Option β) : T7c F p0 p1 p2 p6 p7 p8 p12 p13 p14 k = (T7 F p0 p1 p2 p6 p7 p8 p12 p13 p14).bind k := by
  simp only [T7, T7c, Option.bind_assoc, cond_bind, Option.bind_some, Option.bind_none, elimS_bind]
@[reducible] def cA7 : List Sh := [(.pr .i (.pr .i (.pr (.ro .i) (.pr (.ro (.pr .i (.pr .i (.pr .i (.pr (.pr .s (.pr .i (.pr .i .un))) (.pr .i (.pr .i (.pr .s (.pr .bo .un))))))))) (.pr (.ro (.pr .s (.pr .i (.pr .i (.pr .i (.pr .i (.pr (.sl (.pr .s (.pr .i (.pr .i .un)))) .un))))))) (.pr (.ro (.pr .s (.pr .i (.pr .i .un)))) .un)))))), (.pr .i (.pr .i (.pr (.ro .i) (.pr (.ro (.pr .i (.pr .i (.pr .i (.pr (.pr .s (.pr .i (.pr .i .un))) (.pr .i (.pr .i (.pr .s (.pr .bo .un))))))))) (.pr (.ro (.pr .s (.pr .i (.pr .i (.pr .i (.pr .i (.pr (.sl (.pr .s (.pr .i (.pr .i .un)))) .un))))))) (.pr (.ro (.pr .s (.pr .i (.pr .i .un)))) .un)))))), (.pr .i (.pr .i (.pr (.ro .i) (.pr (.ro (.pr .i (.pr .i (.pr .i (.pr (.pr .s (.pr .i (.pr .i .un))) (.pr .i (.pr .i (.pr .s (.pr .bo .un))))))))) (.pr (.ro (.pr .s (.pr .i (.pr .i (.pr .i (.pr .i (.pr (.sl (.pr .s (.pr .i (.pr .i .un)))) .un))))))) (.pr (.ro (.pr .s (.pr .i (.pr .i .un)))) .un))))))]
@[reducible] def cB7 : List Sh := [.bo]
@[reducible] def cT7 : List TSh := []
@[reducible] def cU7 : List TSh := []
def ct7 (F : Nat) : Ct := mkC 0 cA7 cT7 cB7 cU7 (fun x y => T7 F x.1.1 x.1.2.1 x.1.2.2.1 x.2.1.1 x.2.1.2.1 x.2.1.2.2.1 x.2.2.1.1 x.2.2.1.2.1 x.2.2.1.2.2.1) (fun x y (z : Bool) => ((z, ()), ()))
theorem eq7 (F : Nat) (x : dens cA7) (y : tdens cT7) : sev (E7 F) 0 [] (bodyOf Tryd.f7) [] (mkSt (rng 3) cA7 cT7 x y) (kFn (E7 F) 0 Tryd.f7.results.toList cB7 cU7 fun p q => some (p, q)) =
    T7c F x.1.1 x.1.2.1 x.1.2.2.1 x.2.1.1 x.2.1.2.1 x.2.1.2.2.1 x.2.2.1.1 x.2.2.1.2.1 x.2.2.1.2.2.1 (fun z => some ((z, ()), ())) := by kernel_rfl
theorem ok7 (F : Nat) : Sound Tryd.prog cfg 7 (ct7 F) :=
  mkC_ok (E := E7 F) (lp := []) (code := bodyOf Tryd.f7) Tryd.func7 rfl Tryd.ntmps7 rfl rfl cok (cts7 F) mixed trivial (by kernel_rfl) (fun x y k => T7c F x.1.1 x.1.2.1 x.1.2.2.1 x.2.1.1 x.2.1.2.1 x.2.1.2.2.1 x.2.2.1.1 x.2.2.1.2.1 x.2.2.1.2.2.1 k) (fun x y k => T7n F x.1.1 x.1.2.1 x.1.2.2.1 x.2.1.1 x.2.1.2.1 x.2.1.2.2.1 x.2.2.1.1 x.2.2.1.2.1 x.2.2.1.2.2.1 k) (eq7 F)
end Go.Proofs.YthikoaamigiceaaDoor
/- kinkeep/kinkeepref31.IndexClass: its twin, and that the call does what the twin says. Printed by a program. -/
namespace Go.Proofs.YthikoaamigiceaaDoor
open Go.Tw
set_option linter.unusedSimpArgs false
set_option linter.unusedVariables false
end Go.Proofs.YthikoaamigiceaaDoor
/- kinkeep/kinkeeplaw31.KeyringClass: its twin, and that the call does what the twin says. Printed by a program. -/
namespace Go.Proofs.YthikoaamigiceaaDoor
open Go.Tw
set_option linter.unusedSimpArgs false
set_option linter.unusedVariables false
end Go.Proofs.YthikoaamigiceaaDoor
