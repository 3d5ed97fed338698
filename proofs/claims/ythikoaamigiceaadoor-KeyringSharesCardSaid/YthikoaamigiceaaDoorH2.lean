/- kinkeep/keyring.validIndex: its twin, and that the call does what the twin says. Printed by a program. -/
import Derived.Test.YthikoaamigiceaaDoorH1
namespace Go.Proofs.YthikoaamigiceaaDoor
open Go.Tw
set_option linter.unusedSimpArgs false
set_option linter.unusedVariables false
def ord39 : Nat → List (Tag × Nat)
  | _ => []
def al39 : Nat → Option Nat
  | _ => none
def ms39 : Nat → Option (List (Option Tag × Nat × List Nat))
  | _ => none
def E39 (F : Nat) : Ev := ⟨cfg, 77, ctOf [(68, ct68 F), (69, ct69 F), (70, ct70 F), (71, ct71 F)], ord39, ctOf [], al39, ms39⟩
theorem cts39 (F : Nat) : CtsOk Tryd.prog (E39 F) := cts_of (l := [(68, ct68 F), (69, ct69 F), (70, ct70 F), (71, ct71 F)]) (l' := []) rfl rfl ⟨⟨ok68 F, _, Tryd.func68, rfl, rfl⟩, ⟨⟨ok69 F, _, Tryd.func69, rfl, rfl⟩, ⟨⟨ok70 F, _, Tryd.func70, rfl, rfl⟩, ⟨⟨ok71 F, _, Tryd.func71, rfl, rfl⟩, trivial⟩⟩⟩⟩ trivial
def L39_4c (F : Nat) (y48 : List Int) (y49 : Int) (y50 : Int) {β : Type} (kA : Int → Option β) (kO : Unit → Option β) (kR : Bool → Option β) : Option β :=
  (bif (decide (y50 < y49)) then (Option.bind (ix y48 y50) fun x59 => (Option.bind (T68 F x59 (0 : Int) (1099511627776 : Int)) fun z60 => (bif (!z60) then (kR false) else (kA (w64 (y50 + (1 : Int))))))) else (kO ()))
def L39_4 (F : Nat) (y48 : List Int) (y49 : Int) (y50 : Int) : Option ((Int) ⊕ ((Unit) ⊕ (Bool))) := L39_4c F y48 y49 y50 (fun s => some (.inl s)) (fun z => some (.inr (.inl z))) (fun z => some (.inr (.inr z)))
theorem L39_4n (F : Nat) (y48 : List Int) (y49 : Int) (y50 : Int) {β : Type} (kA : Int → Option β) (kO : Unit → Option β) (kR : Bool → Option β) : L39_4c F y48 y49 y50 kA kO kR = (L39_4 F y48 y49 y50).bind (elimS kA (elimS kO kR)) := by
  simp only [L39_4, L39_4c, Option.bind_assoc, cond_bind, Option.bind_some, Option.bind_none, elimS_l, elimS_r, elimS_bind]
@[reducible] def sA39_4 : List Sh := [(.pt 0 []), (.ro .i), .i, .i]
@[reducible] def sAp139_4 : List Sh := [(.pt 0 [])]
@[reducible] def sAp239_4 : List Sh := [.bo]
@[reducible] def sT39_4 : List TSh := [.blk 47 (.pr .i (.pr .i (.pr (.ro .i) (.pr (.ro (.pr .i (.pr .i (.pr .i (.pr (.pr .s (.pr .i (.pr .i .un))) (.pr .i (.pr .i (.pr .s (.pr .bo .un))))))))) (.pr (.ro (.pr .s (.pr .i (.pr .i (.pr .i (.pr .i (.pr (.sl (.pr .s (.pr .i (.pr .i .un)))) .un))))))) (.pr (.ro (.pr .s (.pr .i (.pr .i .un)))) .un))))))]
@[reducible] def sTp139_4 : List TSh := [.blk 47 (.pr .i (.pr .i (.pr (.ro .i) (.pr (.ro (.pr .i (.pr .i (.pr .i (.pr (.pr .s (.pr .i (.pr .i .un))) (.pr .i (.pr .i (.pr .s (.pr .bo .un))))))))) (.pr (.ro (.pr .s (.pr .i (.pr .i (.pr .i (.pr .i (.pr (.sl (.pr .s (.pr .i (.pr .i .un)))) .un))))))) (.pr (.ro (.pr .s (.pr .i (.pr .i .un)))) .un))))))]
@[reducible] def sTp239_4 : List TSh := []
def lc39_4 (F : Nat) : Lc := mkR [1, 42, 43, 44] sA39_4 sT39_4 [1] sAp139_4 sTp139_4 [2] sAp239_4 sTp239_4 F (fun x y (s : Int) => L39_4 F x.2.1 x.2.2.1 s) (fun x y => x.2.2.2.1) (fun x y (z : Unit) => (((), ()), ((y.1.1, y.1.2.1, y.1.2.2.1, y.1.2.2.2.1, y.1.2.2.2.2.1, y.1.2.2.2.2.2.1, ()), ()))) (fun x y (z : Bool) => ((z, ()), ()))
theorem le39_4 (F : Nat) (x : dens sA39_4) (y : tdens sT39_4) (s : Int) : sev (E39 F) 0 [] (cAt (bodyOf Tryd.f39) (0 :: 0 :: [1, 0, 1, 1, 1])) (0 :: 0 :: [1, 0, 1, 1, 1]) (mkSt [1, 42, 43, 44] sA39_4 sT39_4 ((), x.2.1, x.2.2.1, s, ()) ((y.1.1, y.1.2.1, y.1.2.2.1, y.1.2.2.2.1, y.1.2.2.2.2.1, y.1.2.2.2.2.2.1, ()), ())) (kLoop 0 [1, 42, 43, 44] sA39_4 sT39_4 [1] sAp139_4 sTp139_4 [2] sAp239_4 sTp239_4 0 (fun x y => some (.inl (x, y))) (fun x y => some (.inr (.inl (x, y)))) (fun x y => some (.inr (.inr (x, y))))) =
    L39_4c (β := Full sA39_4 sT39_4 sAp139_4 sTp139_4 sAp239_4 sTp239_4) F x.2.1 x.2.2.1 s (fun s => some (.inl (((), x.2.1, x.2.2.1, s, ()), ((y.1.1, y.1.2.1, y.1.2.2.1, y.1.2.2.2.1, y.1.2.2.2.2.1, y.1.2.2.2.2.2.1, ()), ())))) (fun z => some (.inr (.inl (((), ()), ((y.1.1, y.1.2.1, y.1.2.2.1, y.1.2.2.2.1, y.1.2.2.2.2.1, y.1.2.2.2.2.2.1, ()), ()))))) (fun z => some (.inr (.inr ((z, ()), ())))) := by kernel_rfl
theorem lo39_4 (F : Nat) : LcOk Tryd.prog (E39 F) 0 (lc39_4 F) (cAt (bodyOf Tryd.f39) [1, 0, 1, 1, 1]) :=
  mkR_ok (lp := []) (id := 0) (b := cAt (bodyOf Tryd.f39) (0 :: 0 :: [1, 0, 1, 1, 1])) cok (cts39 F) mixed trivial (by kernel_rfl) (by kernel_rfl) (fun x y s => ((), x.2.1, x.2.2.1, s, ())) (fun x y s => ((y.1.1, y.1.2.1, y.1.2.2.1, y.1.2.2.2.1, y.1.2.2.2.2.1, y.1.2.2.2.2.2.1, ()), ())) (fun x y => rfl) (fun x y => rfl) (fun x y s kA kO kR => L39_4c F x.2.1 x.2.2.1 s kA kO kR) (fun x y s kA kO kR => L39_4n F x.2.1 x.2.2.1 s kA kO kR) (le39_4 F)
def L39_5c (F : Nat) (y62 : List (Int × Int × Int × ((List UInt8) × Int × Int × Unit) × Int × Int × (List UInt8) × Bool × Unit)) (y63 : Int) (y64 : Int) {β : Type} (kA : Int → Option β) (kO : Unit → Option β) (kR : Bool → Option β) : Option β :=
  (bif (decide (y64 < y63)) then (Option.bind (ix y62 y64) fun x73 => (Option.bind (T69 F x73.1 x73.2.1 x73.2.2.1 x73.2.2.2.1.1 x73.2.2.2.1.2.1 x73.2.2.2.1.2.2.1 x73.2.2.2.2.1 x73.2.2.2.2.2.1 x73.2.2.2.2.2.2.1) fun z74 => (bif (!z74) then (kR false) else (kA (w64 (y64 + (1 : Int))))))) else (kO ()))
def L39_5 (F : Nat) (y62 : List (Int × Int × Int × ((List UInt8) × Int × Int × Unit) × Int × Int × (List UInt8) × Bool × Unit)) (y63 : Int) (y64 : Int) : Option ((Int) ⊕ ((Unit) ⊕ (Bool))) := L39_5c F y62 y63 y64 (fun s => some (.inl s)) (fun z => some (.inr (.inl z))) (fun z => some (.inr (.inr z)))
theorem L39_5n (F : Nat) (y62 : List (Int × Int × Int × ((List UInt8) × Int × Int × Unit) × Int × Int × (List UInt8) × Bool × Unit)) (y63 : Int) (y64 : Int) {β : Type} (kA : Int → Option β) (kO : Unit → Option β) (kR : Bool → Option β) : L39_5c F y62 y63 y64 kA kO kR = (L39_5 F y62 y63 y64).bind (elimS kA (elimS kO kR)) := by
  simp only [L39_5, L39_5c, Option.bind_assoc, cond_bind, Option.bind_some, Option.bind_none, elimS_l, elimS_r, elimS_bind]
@[reducible] def sA39_5 : List Sh := [(.pt 0 []), (.ro (.pr .i (.pr .i (.pr .i (.pr (.pr .s (.pr .i (.pr .i .un))) (.pr .i (.pr .i (.pr .s (.pr .bo .un))))))))), .i, .i]
@[reducible] def sAp139_5 : List Sh := [(.pt 0 [])]
@[reducible] def sAp239_5 : List Sh := [.bo]
@[reducible] def sT39_5 : List TSh := [.blk 47 (.pr .i (.pr .i (.pr (.ro .i) (.pr (.ro (.pr .i (.pr .i (.pr .i (.pr (.pr .s (.pr .i (.pr .i .un))) (.pr .i (.pr .i (.pr .s (.pr .bo .un))))))))) (.pr (.ro (.pr .s (.pr .i (.pr .i (.pr .i (.pr .i (.pr (.sl (.pr .s (.pr .i (.pr .i .un)))) .un))))))) (.pr (.ro (.pr .s (.pr .i (.pr .i .un)))) .un))))))]
@[reducible] def sTp139_5 : List TSh := [.blk 47 (.pr .i (.pr .i (.pr (.ro .i) (.pr (.ro (.pr .i (.pr .i (.pr .i (.pr (.pr .s (.pr .i (.pr .i .un))) (.pr .i (.pr .i (.pr .s (.pr .bo .un))))))))) (.pr (.ro (.pr .s (.pr .i (.pr .i (.pr .i (.pr .i (.pr (.sl (.pr .s (.pr .i (.pr .i .un)))) .un))))))) (.pr (.ro (.pr .s (.pr .i (.pr .i .un)))) .un))))))]
@[reducible] def sTp239_5 : List TSh := []
def lc39_5 (F : Nat) : Lc := mkR [1, 53, 54, 55] sA39_5 sT39_5 [1] sAp139_5 sTp139_5 [2] sAp239_5 sTp239_5 F (fun x y (s : Int) => L39_5 F x.2.1 x.2.2.1 s) (fun x y => x.2.2.2.1) (fun x y (z : Unit) => (((), ()), ((y.1.1, y.1.2.1, y.1.2.2.1, y.1.2.2.2.1, y.1.2.2.2.2.1, y.1.2.2.2.2.2.1, ()), ()))) (fun x y (z : Bool) => ((z, ()), ()))
theorem le39_5 (F : Nat) (x : dens sA39_5) (y : tdens sT39_5) (s : Int) : sev (E39 F) 0 [] (cAt (bodyOf Tryd.f39) (0 :: 0 :: [1, 0, 1, 1, 1, 1])) (0 :: 0 :: [1, 0, 1, 1, 1, 1]) (mkSt [1, 53, 54, 55] sA39_5 sT39_5 ((), x.2.1, x.2.2.1, s, ()) ((y.1.1, y.1.2.1, y.1.2.2.1, y.1.2.2.2.1, y.1.2.2.2.2.1, y.1.2.2.2.2.2.1, ()), ())) (kLoop 0 [1, 53, 54, 55] sA39_5 sT39_5 [1] sAp139_5 sTp139_5 [2] sAp239_5 sTp239_5 2 (fun x y => some (.inl (x, y))) (fun x y => some (.inr (.inl (x, y)))) (fun x y => some (.inr (.inr (x, y))))) =
    L39_5c (β := Full sA39_5 sT39_5 sAp139_5 sTp139_5 sAp239_5 sTp239_5) F x.2.1 x.2.2.1 s (fun s => some (.inl (((), x.2.1, x.2.2.1, s, ()), ((y.1.1, y.1.2.1, y.1.2.2.1, y.1.2.2.2.1, y.1.2.2.2.2.1, y.1.2.2.2.2.2.1, ()), ())))) (fun z => some (.inr (.inl (((), ()), ((y.1.1, y.1.2.1, y.1.2.2.1, y.1.2.2.2.1, y.1.2.2.2.2.1, y.1.2.2.2.2.2.1, ()), ()))))) (fun z => some (.inr (.inr ((z, ()), ())))) := by kernel_rfl
theorem lo39_5 (F : Nat) : LcOk Tryd.prog (E39 F) 0 (lc39_5 F) (cAt (bodyOf Tryd.f39) [1, 0, 1, 1, 1, 1]) :=
  mkR_ok (lp := []) (id := 2) (b := cAt (bodyOf Tryd.f39) (0 :: 0 :: [1, 0, 1, 1, 1, 1])) cok (cts39 F) mixed trivial (by kernel_rfl) (by kernel_rfl) (fun x y s => ((), x.2.1, x.2.2.1, s, ())) (fun x y s => ((y.1.1, y.1.2.1, y.1.2.2.1, y.1.2.2.2.1, y.1.2.2.2.2.1, y.1.2.2.2.2.2.1, ()), ())) (fun x y => rfl) (fun x y => rfl) (fun x y s kA kO kR => L39_5c F x.2.1 x.2.2.1 s kA kO kR) (fun x y s kA kO kR => L39_5n F x.2.1 x.2.2.1 s kA kO kR) (le39_5 F)
def L39_6c (F : Nat) (y76 : List ((List UInt8) × Int × Int × Int × Int × (List ((List UInt8) × Int × Int × Unit)) × Unit)) (y77 : Int) (y78 : Int) {β : Type} (kA : Int → Option β) (kO : Unit → Option β) (kR : Bool → Option β) : Option β :=
  (bif (decide (y78 < y77)) then (Option.bind (ix y76 y78) fun x87 => (Option.bind (T70 F x87.1 x87.2.1 x87.2.2.1 x87.2.2.2.1 x87.2.2.2.2.1 x87.2.2.2.2.2.1) fun z88 => (bif (!z88) then (kR false) else (kA (w64 (y78 + (1 : Int))))))) else (kO ()))
def L39_6 (F : Nat) (y76 : List ((List UInt8) × Int × Int × Int × Int × (List ((List UInt8) × Int × Int × Unit)) × Unit)) (y77 : Int) (y78 : Int) : Option ((Int) ⊕ ((Unit) ⊕ (Bool))) := L39_6c F y76 y77 y78 (fun s => some (.inl s)) (fun z => some (.inr (.inl z))) (fun z => some (.inr (.inr z)))
theorem L39_6n (F : Nat) (y76 : List ((List UInt8) × Int × Int × Int × Int × (List ((List UInt8) × Int × Int × Unit)) × Unit)) (y77 : Int) (y78 : Int) {β : Type} (kA : Int → Option β) (kO : Unit → Option β) (kR : Bool → Option β) : L39_6c F y76 y77 y78 kA kO kR = (L39_6 F y76 y77 y78).bind (elimS kA (elimS kO kR)) := by
  simp only [L39_6, L39_6c, Option.bind_assoc, cond_bind, Option.bind_some, Option.bind_none, elimS_l, elimS_r, elimS_bind]
@[reducible] def sA39_6 : List Sh := [(.pt 0 []), (.ro (.pr .s (.pr .i (.pr .i (.pr .i (.pr .i (.pr (.sl (.pr .s (.pr .i (.pr .i .un)))) .un))))))), .i, .i]
@[reducible] def sAp139_6 : List Sh := [(.pt 0 [])]
@[reducible] def sAp239_6 : List Sh := [.bo]
@[reducible] def sT39_6 : List TSh := [.blk 47 (.pr .i (.pr .i (.pr (.ro .i) (.pr (.ro (.pr .i (.pr .i (.pr .i (.pr (.pr .s (.pr .i (.pr .i .un))) (.pr .i (.pr .i (.pr .s (.pr .bo .un))))))))) (.pr (.ro (.pr .s (.pr .i (.pr .i (.pr .i (.pr .i (.pr (.sl (.pr .s (.pr .i (.pr .i .un)))) .un))))))) (.pr (.ro (.pr .s (.pr .i (.pr .i .un)))) .un))))))]
@[reducible] def sTp139_6 : List TSh := [.blk 47 (.pr .i (.pr .i (.pr (.ro .i) (.pr (.ro (.pr .i (.pr .i (.pr .i (.pr (.pr .s (.pr .i (.pr .i .un))) (.pr .i (.pr .i (.pr .s (.pr .bo .un))))))))) (.pr (.ro (.pr .s (.pr .i (.pr .i (.pr .i (.pr .i (.pr (.sl (.pr .s (.pr .i (.pr .i .un)))) .un))))))) (.pr (.ro (.pr .s (.pr .i (.pr .i .un)))) .un))))))]
@[reducible] def sTp239_6 : List TSh := []
def lc39_6 (F : Nat) : Lc := mkR [1, 64, 65, 66] sA39_6 sT39_6 [1] sAp139_6 sTp139_6 [2] sAp239_6 sTp239_6 F (fun x y (s : Int) => L39_6 F x.2.1 x.2.2.1 s) (fun x y => x.2.2.2.1) (fun x y (z : Unit) => (((), ()), ((y.1.1, y.1.2.1, y.1.2.2.1, y.1.2.2.2.1, y.1.2.2.2.2.1, y.1.2.2.2.2.2.1, ()), ()))) (fun x y (z : Bool) => ((z, ()), ()))
theorem le39_6 (F : Nat) (x : dens sA39_6) (y : tdens sT39_6) (s : Int) : sev (E39 F) 0 [] (cAt (bodyOf Tryd.f39) (0 :: 0 :: [1, 0, 1, 1, 1, 1, 1])) (0 :: 0 :: [1, 0, 1, 1, 1, 1, 1]) (mkSt [1, 64, 65, 66] sA39_6 sT39_6 ((), x.2.1, x.2.2.1, s, ()) ((y.1.1, y.1.2.1, y.1.2.2.1, y.1.2.2.2.1, y.1.2.2.2.2.1, y.1.2.2.2.2.2.1, ()), ())) (kLoop 0 [1, 64, 65, 66] sA39_6 sT39_6 [1] sAp139_6 sTp139_6 [2] sAp239_6 sTp239_6 4 (fun x y => some (.inl (x, y))) (fun x y => some (.inr (.inl (x, y)))) (fun x y => some (.inr (.inr (x, y))))) =
    L39_6c (β := Full sA39_6 sT39_6 sAp139_6 sTp139_6 sAp239_6 sTp239_6) F x.2.1 x.2.2.1 s (fun s => some (.inl (((), x.2.1, x.2.2.1, s, ()), ((y.1.1, y.1.2.1, y.1.2.2.1, y.1.2.2.2.1, y.1.2.2.2.2.1, y.1.2.2.2.2.2.1, ()), ())))) (fun z => some (.inr (.inl (((), ()), ((y.1.1, y.1.2.1, y.1.2.2.1, y.1.2.2.2.1, y.1.2.2.2.2.1, y.1.2.2.2.2.2.1, ()), ()))))) (fun z => some (.inr (.inr ((z, ()), ())))) := by kernel_rfl
theorem lo39_6 (F : Nat) : LcOk Tryd.prog (E39 F) 0 (lc39_6 F) (cAt (bodyOf Tryd.f39) [1, 0, 1, 1, 1, 1, 1]) :=
  mkR_ok (lp := []) (id := 4) (b := cAt (bodyOf Tryd.f39) (0 :: 0 :: [1, 0, 1, 1, 1, 1, 1])) cok (cts39 F) mixed trivial (by kernel_rfl) (by kernel_rfl) (fun x y s => ((), x.2.1, x.2.2.1, s, ())) (fun x y s => ((y.1.1, y.1.2.1, y.1.2.2.1, y.1.2.2.2.1, y.1.2.2.2.2.1, y.1.2.2.2.2.2.1, ()), ())) (fun x y => rfl) (fun x y => rfl) (fun x y s kA kO kR => L39_6c F x.2.1 x.2.2.1 s kA kO kR) (fun x y s kA kO kR => L39_6n F x.2.1 x.2.2.1 s kA kO kR) (le39_6 F)
def T39c (F : Nat) (p0 : Int) (p1 : Int) (p2 : List Int) (p3 : List (Int × Int × Int × ((List UInt8) × Int × Int × Unit) × Int × Int × (List UInt8) × Bool × Unit)) (p4 : List ((List UInt8) × Int × Int × Int × Int × (List ((List UInt8) × Int × Int × Unit)) × Unit)) (p5 : List ((List UInt8) × Int × Int × Unit)) {β : Type} (k : Bool → Option β) : Option β :=
  (Option.bind (T68 F p0 (0 : Int) (1000 : Int)) fun z46 => (bif (!z46) then (k false) else (Option.bind (T68 F p1 (0 : Int) (1000 : Int)) fun z47 => (bif (!z47) then (k false) else (bif (decide ((12 : Int) < (p2.length : Int))) then (k false) else (bif (decide ((4096 : Int) < (p3.length : Int))) then (k false) else (bif (decide ((4096 : Int) < (p4.length : Int))) then (k false) else (bif (decide ((4096 : Int) < (p5.length : Int))) then (k false) else (Option.bind (iter (fun s => L39_4 F p2 (p2.length : Int) s) F (0 : Int)) fun z61 => elimS (fun z61 => (Option.bind (iter (fun s => L39_5 F p3 (p3.length : Int) s) F (0 : Int)) fun z75 => elimS (fun z75 => (Option.bind (iter (fun s => L39_6 F p4 (p4.length : Int) s) F (0 : Int)) fun z89 => elimS (fun z89 => (Option.bind (T71 F p5) fun z90 => (k z90))) (fun z89 => (k z89)) z89)) (fun z75 => (k z75)) z75)) (fun z61 => (k z61)) z61)))))))))
def T39 (F : Nat) (p0 : Int) (p1 : Int) (p2 : List Int) (p3 : List (Int × Int × Int × ((List UInt8) × Int × Int × Unit) × Int × Int × (List UInt8) × Bool × Unit)) (p4 : List ((List UInt8) × Int × Int × Int × Int × (List ((List UInt8) × Int × Int × Unit)) × Unit)) (p5 : List ((List UInt8) × Int × Int × Unit)) : Option (Bool) := T39c F p0 p1 p2 p3 p4 p5 some
theorem T39n (F : Nat) (p0 : Int) (p1 : Int) (p2 : List Int) (p3 : List (Int × Int × Int × ((List UInt8) × Int × Int × Unit) × Int × Int × (List UInt8) × Bool × Unit)) (p4 : List ((List UInt8) × Int × Int × Int × Int × (List ((List UInt8) × Int × Int × Unit)) × Unit)) (p5 : List ((List UInt8) × Int × Int × Unit)) {β : Type} (k : Bool → Option β) : T39c F p0 p1 p2 p3 p4 p5 k = (T39 F p0 p1 p2 p3 p4 p5).bind k := by
  simp only [T39, T39c, Option.bind_assoc, cond_bind, Option.bind_some, Option.bind_none, elimS_bind]
@[reducible] def cA39 : List Sh := [(.pr .i (.pr .i (.pr (.ro .i) (.pr (.ro (.pr .i (.pr .i (.pr .i (.pr (.pr .s (.pr .i (.pr .i .un))) (.pr .i (.pr .i (.pr .s (.pr .bo .un))))))))) (.pr (.ro (.pr .s (.pr .i (.pr .i (.pr .i (.pr .i (.pr (.sl (.pr .s (.pr .i (.pr .i .un)))) .un))))))) (.pr (.ro (.pr .s (.pr .i (.pr .i .un)))) .un))))))]
@[reducible] def cB39 : List Sh := [.bo]
@[reducible] def cT39 : List TSh := []
@[reducible] def cU39 : List TSh := []
def ct39 (F : Nat) : Ct := mkC 0 cA39 cT39 cB39 cU39 (fun x y => T39 F x.1.1 x.1.2.1 x.1.2.2.1 x.1.2.2.2.1 x.1.2.2.2.2.1 x.1.2.2.2.2.2.1) (fun x y (z : Bool) => ((z, ()), ()))
theorem eq39 (F : Nat) (x : dens cA39) (y : tdens cT39) : sev (E39 F) 0 [([1, 0, 1, 1, 1], lc39_4 F), ([1, 0, 1, 1, 1, 1], lc39_5 F), ([1, 0, 1, 1, 1, 1, 1], lc39_6 F)] (bodyOf Tryd.f39) [] (mkSt (rng 1) cA39 cT39 x y) (kFn (E39 F) 0 Tryd.f39.results.toList cB39 cU39 fun p q => some (p, q)) =
    T39c F x.1.1 x.1.2.1 x.1.2.2.1 x.1.2.2.2.1 x.1.2.2.2.2.1 x.1.2.2.2.2.2.1 (fun z => some ((z, ()), ())) := by kernel_rfl
theorem ok39 (F : Nat) : Sound Tryd.prog cfg 39 (ct39 F) :=
  mkC_ok (E := E39 F) (lp := [([1, 0, 1, 1, 1], lc39_4 F), ([1, 0, 1, 1, 1, 1], lc39_5 F), ([1, 0, 1, 1, 1, 1, 1], lc39_6 F)]) (code := bodyOf Tryd.f39) Tryd.func39 rfl Tryd.ntmps39 rfl rfl cok (cts39 F) mixed ⟨lo39_4 F, ⟨lo39_5 F, ⟨lo39_6 F, trivial⟩⟩⟩ (by kernel_rfl) (fun x y k => T39c F x.1.1 x.1.2.1 x.1.2.2.1 x.1.2.2.2.1 x.1.2.2.2.2.1 x.1.2.2.2.2.2.1 k) (fun x y k => T39n F x.1.1 x.1.2.1 x.1.2.2.1 x.1.2.2.2.1 x.1.2.2.2.2.1 x.1.2.2.2.2.2.1 k) (eq39 F)
end Go.Proofs.YthikoaamigiceaaDoor
/- kinkeep/wire.NewWriter: its twin, and that the call does what the twin says. Printed by a program. -/
namespace Go.Proofs.YthikoaamigiceaaDoor
open Go.Tw
set_option linter.unusedSimpArgs false
set_option linter.unusedVariables false
def ord40 : Nat → List (Tag × Nat)
  | _ => []
def al40 : Nat → Option Nat
  | _ => none
def ms40 : Nat → Option (List (Option Tag × Nat × List Nat))
  | _ => none
def E40 (F : Nat) : Ev := ⟨cfg, 3, ctOf [], ord40, ctOf [], al40, ms40⟩
theorem cts40 (F : Nat) : CtsOk Tryd.prog (E40 F) := cts_of (l := []) (l' := []) rfl rfl trivial trivial
def T40c (F : Nat) {β : Type} (k : Int → Option β) : Option β :=
  (k (0 : Int))
def T40 (F : Nat) : Option (Int) := T40c F some
theorem T40n (F : Nat) {β : Type} (k : Int → Option β) : T40c F k = (T40 F).bind k := by
  simp only [T40, T40c, Option.bind_assoc, cond_bind, Option.bind_some, Option.bind_none, elimS_bind]
@[reducible] def cA40 : List Sh := []
@[reducible] def cB40 : List Sh := [(.pt 0 [])]
@[reducible] def cT40 : List TSh := []
@[reducible] def cU40 : List TSh := [.blk 112 (.pr .ns (.pr .i .un))]
def ct40 (F : Nat) : Ct := mkC 0 cA40 cT40 cB40 cU40 (fun x y => T40 F) (fun x y (z : Int) => (((), ()), (((), z, ()), ())))
theorem eq40 (F : Nat) (x : dens cA40) (y : tdens cT40) : sev (E40 F) 0 [] (bodyOf Tryd.f40) [] (mkSt (rng 0) cA40 cT40 x y) (kFn (E40 F) 0 Tryd.f40.results.toList cB40 cU40 fun p q => some (p, q)) =
    T40c F (fun z => some (((), ()), (((), z, ()), ()))) := by kernel_rfl
theorem ok40 (F : Nat) : Sound Tryd.prog cfg 40 (ct40 F) :=
  mkC_ok (E := E40 F) (lp := []) (code := bodyOf Tryd.f40) Tryd.func40 rfl Tryd.ntmps40 rfl rfl cok (cts40 F) mixed trivial (by kernel_rfl) (fun x y k => T40c F k) (fun x y k => T40n F k) (eq40 F)
end Go.Proofs.YthikoaamigiceaaDoor
/- kinkeep/wire.Zigzag: its twin, and that the call does what the twin says. Printed by a program. -/
namespace Go.Proofs.YthikoaamigiceaaDoor
open Go.Tw
set_option linter.unusedSimpArgs false
set_option linter.unusedVariables false
def ord74 : Nat → List (Tag × Nat)
  | _ => []
def al74 : Nat → Option Nat
  | _ => none
def ms74 : Nat → Option (List (Option Tag × Nat × List Nat))
  | _ => none
def E74 (F : Nat) : Ev := ⟨cfg, 14, ctOf [], ord74, ctOf [], al74, ms74⟩
theorem cts74 (F : Nat) : CtsOk Tryd.prog (E74 F) := cts_of (l := []) (l' := []) rfl rfl trivial trivial
def T74c (F : Nat) (p0 : Int) {β : Type} (k : UInt64 → Option β) : Option β :=
  (bif (decide (p0 < (0 : Int))) then (k (((UInt64.ofInt (w64 (0 - (w64 (p0 + (1 : Int)))))) * (UInt64.ofNat 2)) + (UInt64.ofNat 1))) else (k ((UInt64.ofInt p0) * (UInt64.ofNat 2))))
def T74 (F : Nat) (p0 : Int) : Option (UInt64) := T74c F p0 some
theorem T74n (F : Nat) (p0 : Int) {β : Type} (k : UInt64 → Option β) : T74c F p0 k = (T74 F p0).bind k := by
  simp only [T74, T74c, Option.bind_assoc, cond_bind, Option.bind_some, Option.bind_none, elimS_bind]
@[reducible] def cA74 : List Sh := [.i]
@[reducible] def cB74 : List Sh := [.u64]
@[reducible] def cT74 : List TSh := []
@[reducible] def cU74 : List TSh := []
def ct74 (F : Nat) : Ct := mkC 0 cA74 cT74 cB74 cU74 (fun x y => T74 F x.1) (fun x y (z : UInt64) => ((z, ()), ()))
theorem eq74 (F : Nat) (x : dens cA74) (y : tdens cT74) : sev (E74 F) 0 [] (bodyOf Tryd.f74) [] (mkSt (rng 1) cA74 cT74 x y) (kFn (E74 F) 0 Tryd.f74.results.toList cB74 cU74 fun p q => some (p, q)) =
    T74c F x.1 (fun z => some ((z, ()), ())) := by kernel_rfl
theorem ok74 (F : Nat) : Sound Tryd.prog cfg 74 (ct74 F) :=
  mkC_ok (E := E74 F) (lp := []) (code := bodyOf Tryd.f74) Tryd.func74 rfl Tryd.ntmps74 rfl rfl cok (cts74 F) mixed trivial (by kernel_rfl) (fun x y k => T74c F x.1 k) (fun x y k => T74n F x.1 k) (eq74 F)
end Go.Proofs.YthikoaamigiceaaDoor
/- kinkeep/wire.extend: its twin, and that the call does what the twin says. Printed by a program. -/
namespace Go.Proofs.YthikoaamigiceaaDoor
open Go.Tw
set_option linter.unusedSimpArgs false
set_option linter.unusedVariables false
def ord75 : Nat → List (Tag × Nat)
  | _ => []
def al75 : Nat → Option Nat
  | _ => none
def ms75 : Nat → Option (List (Option Tag × Nat × List Nat))
  | _ => none
def E75 (F : Nat) : Ev := ⟨cfg, 20, ctOf [], ord75, ctOf [], al75, ms75⟩
theorem cts75 (F : Nat) : CtsOk Tryd.prog (E75 F) := cts_of (l := []) (l' := []) rfl rfl trivial trivial
def L75_2c (F : Nat) (y7 : UInt64) (y8 : List UInt8) {β : Type} (kA : (UInt64 × (List UInt8)) → Option β) (kO : (UInt64 × (List UInt8)) → Option β) : Option β :=
  (bif (decide ((UInt64.ofNat 128) ≤ y7)) then (Option.bind (gapp y8 ([((y7.toUInt8) ||| (UInt8.ofNat 128))] : List UInt8)) fun x10 => (kA ((shr64 y7 ((UInt64.ofNat 7).toNat)), x10))) else (kO (y7, y8)))
def L75_2 (F : Nat) (y7 : UInt64) (y8 : List UInt8) : Option ((UInt64 × (List UInt8)) ⊕ (UInt64 × (List UInt8))) := L75_2c F y7 y8 (fun s => some (.inl s)) (fun z => some (.inr z))
theorem L75_2n (F : Nat) (y7 : UInt64) (y8 : List UInt8) {β : Type} (kA : (UInt64 × (List UInt8)) → Option β) (kO : (UInt64 × (List UInt8)) → Option β) : L75_2c F y7 y8 kA kO = (L75_2 F y7 y8).bind (elimS kA kO) := by
  simp only [L75_2, L75_2c, Option.bind_assoc, cond_bind, Option.bind_some, Option.bind_none, elimS_l, elimS_r, elimS_bind]
@[reducible] def sA75_2 : List Sh := [(.rw 0), .u64]
@[reducible] def sAp175_2 : List Sh := [(.rw 0), .u64]
@[reducible] def sT75_2 : List TSh := [.row 5 .u8]
@[reducible] def sTp175_2 : List TSh := [.row 5 .u8]
def lc75_2 (F : Nat) : Lc := mkL [0, 1] sA75_2 sT75_2 [0, 1] sAp175_2 sTp175_2 F (fun x y (s : UInt64 × (List UInt8)) => L75_2 F s.1 s.2) (fun x y => (x.2.1, y.1)) (fun x y (z : UInt64 × (List UInt8)) => (((), z.1, ()), (z.2, ())))
theorem le75_2 (F : Nat) (x : dens sA75_2) (y : tdens sT75_2) (s : UInt64 × (List UInt8)) : sev (E75 F) 0 [] (cAt (bodyOf Tryd.f75) (0 :: 0 :: [0, 1])) (0 :: 0 :: [0, 1]) (mkSt [0, 1] sA75_2 sT75_2 ((), s.1, ()) (s.2, ())) (kLoop 0 [0, 1] sA75_2 sT75_2 [0, 1] sAp175_2 sTp175_2 [] [] [] 0 (fun x y => some (.inl (x, y))) (fun x y => some (.inr (.inl (x, y)))) (fun x y => some (.inr (.inr (x, y))))) =
    L75_2c (β := Full sA75_2 sT75_2 sAp175_2 sTp175_2 [] []) F s.1 s.2 (fun s => some (.inl (((), s.1, ()), (s.2, ())))) (fun z => some (.inr (.inl (((), z.1, ()), (z.2, ()))))) := by kernel_rfl
theorem lo75_2 (F : Nat) : LcOk Tryd.prog (E75 F) 0 (lc75_2 F) (cAt (bodyOf Tryd.f75) [0, 1]) :=
  mkL_ok (lp := []) (id := 0) (b := cAt (bodyOf Tryd.f75) (0 :: 0 :: [0, 1])) cok (cts75 F) mixed trivial (by kernel_rfl) (by kernel_rfl) (fun x y s => ((), s.1, ())) (fun x y s => (s.2, ())) (fun x y => rfl) (fun x y => rfl) (fun x y s kA kO => L75_2c F s.1 s.2 kA kO) (fun x y s kA kO => L75_2n F s.1 s.2 kA kO) (le75_2 F)
def T75c (F : Nat) (p0 : UInt64) (p1 : List UInt8) {β : Type} (k : ((List UInt8)) → Option β) : Option β :=
  (Option.bind (iter (fun s => L75_2 F s.1 s.2) F (p0, p1)) fun z11 => (Option.bind (gapp z11.2 ([(z11.1.toUInt8)] : List UInt8)) fun x12 => (k x12)))
def T75 (F : Nat) (p0 : UInt64) (p1 : List UInt8) : Option ((List UInt8)) := T75c F p0 p1 some
theorem T75n (F : Nat) (p0 : UInt64) (p1 : List UInt8) {β : Type} (k : ((List UInt8)) → Option β) : T75c F p0 p1 k = (T75 F p0 p1).bind k := by
  simp only [T75, T75c, Option.bind_assoc, cond_bind, Option.bind_some, Option.bind_none, elimS_bind]
@[reducible] def cA75 : List Sh := [(.rw 0), .u64]
@[reducible] def cB75 : List Sh := [(.rw 0)]
@[reducible] def cT75 : List TSh := [.row 5 .u8]
@[reducible] def cU75 : List TSh := [.row 5 .u8]
def ct75 (F : Nat) : Ct := mkC 0 cA75 cT75 cB75 cU75 (fun x y => T75 F x.2.1 y.1) (fun x y (z : (List UInt8)) => (((), ()), (z, ())))
theorem eq75 (F : Nat) (x : dens cA75) (y : tdens cT75) : sev (E75 F) 0 [([0, 1], lc75_2 F)] (bodyOf Tryd.f75) [] (mkSt (rng 2) cA75 cT75 x y) (kFn (E75 F) 0 Tryd.f75.results.toList cB75 cU75 fun p q => some (p, q)) =
    T75c F x.2.1 y.1 (fun z => some (((), ()), (z, ()))) := by kernel_rfl
theorem ok75 (F : Nat) : Sound Tryd.prog cfg 75 (ct75 F) :=
  mkC_ok (E := E75 F) (lp := [([0, 1], lc75_2 F)]) (code := bodyOf Tryd.f75) Tryd.func75 rfl Tryd.ntmps75 rfl rfl cok (cts75 F) mixed ⟨lo75_2 F, trivial⟩ (by kernel_rfl) (fun x y k => T75c F x.2.1 y.1 k) (fun x y k => T75n F x.2.1 y.1 k) (eq75 F)
end Go.Proofs.YthikoaamigiceaaDoor
/- (*kinkeep/wire.Writer).Uint: its twin, and that the call does what the twin says. Printed by a program. -/
namespace Go.Proofs.YthikoaamigiceaaDoor
open Go.Tw
set_option linter.unusedSimpArgs false
set_option linter.unusedVariables false
def ord73 : Nat → List (Tag × Nat)
  | _ => []
def al73 : Nat → Option Nat
  | _ => none
def ms73 : Nat → Option (List (Option Tag × Nat × List Nat))
  | _ => none
def E73 (F : Nat) : Ev := ⟨cfg, 18, ctOf [(75, ct75 F)], ord73, ctOf [], al73, ms73⟩
theorem cts73 (F : Nat) : CtsOk Tryd.prog (E73 F) := cts_of (l := [(75, ct75 F)]) (l' := []) rfl rfl ⟨⟨ok75 F, _, Tryd.func75, rfl, rfl⟩, trivial⟩ trivial
def T73c (F : Nat) (p0 : UInt64) (p1 : Int) {β : Type} (k : ((List UInt8)) → Option β) : Option β :=
  (bif (p1 == (0 : Int)) then (Option.bind (T75 F p0 ([] : List UInt8)) fun z2 => (k z2)) else (k ([] : List UInt8)))
def T73 (F : Nat) (p0 : UInt64) (p1 : Int) : Option ((List UInt8)) := T73c F p0 p1 some
theorem T73n (F : Nat) (p0 : UInt64) (p1 : Int) {β : Type} (k : ((List UInt8)) → Option β) : T73c F p0 p1 k = (T73 F p0 p1).bind k := by
  simp only [T73, T73c, Option.bind_assoc, cond_bind, Option.bind_some, Option.bind_none, elimS_bind]
@[reducible] def cA73 : List Sh := [(.pt 0 []), .u64]
@[reducible] def cB73 : List Sh := []
@[reducible] def cT73 : List TSh := [.blk 112 (.pr .ns (.pr .i .un))]
@[reducible] def cU73 : List TSh := [.blk 112 (.pr (.rw 1) (.pr .i .un)), .row 5 .u8]
def ct73 (F : Nat) : Ct := mkC 1 cA73 cT73 cB73 cU73 (fun x y => T73 F x.2.1 y.1.2.1) (fun x y (z : (List UInt8)) => ((), (((), y.1.2.1, ()), z, ())))
theorem eq73 (F : Nat) (x : dens cA73) (y : tdens cT73) : sev (E73 F) 1 [] (bodyOf Tryd.f73) [] (mkSt (rng 2) cA73 cT73 x y) (kFn (E73 F) 1 Tryd.f73.results.toList cB73 cU73 fun p q => some (p, q)) =
    T73c F x.2.1 y.1.2.1 (fun z => some ((), (((), y.1.2.1, ()), z, ()))) := by kernel_rfl
theorem ok73 (F : Nat) : Sound Tryd.prog cfg 73 (ct73 F) :=
  mkC_ok (E := E73 F) (lp := []) (code := bodyOf Tryd.f73) Tryd.func73 rfl Tryd.ntmps73 rfl rfl cok (cts73 F) mixed trivial (by kernel_rfl) (fun x y k => T73c F x.2.1 y.1.2.1 k) (fun x y k => T73n F x.2.1 y.1.2.1 k) (eq73 F)
end Go.Proofs.YthikoaamigiceaaDoor
/- (*kinkeep/wire.Writer).Int: its twin, and that the call does what the twin says. Printed by a program. -/
namespace Go.Proofs.YthikoaamigiceaaDoor
open Go.Tw
set_option linter.unusedSimpArgs false
set_option linter.unusedVariables false
def ord44 : Nat → List (Tag × Nat)
  | _ => []
def al44 : Nat → Option Nat
  | _ => none
def ms44 : Nat → Option (List (Option Tag × Nat × List Nat))
  | _ => none
def E44 (F : Nat) : Ev := ⟨cfg, 8, ctOf [(74, ct74 F), (73, ct73 F)], ord44, ctOf [], al44, ms44⟩
theorem cts44 (F : Nat) : CtsOk Tryd.prog (E44 F) := cts_of (l := [(74, ct74 F), (73, ct73 F)]) (l' := []) rfl rfl ⟨⟨ok74 F, _, Tryd.func74, rfl, rfl⟩, ⟨⟨ok73 F, _, Tryd.func73, rfl, rfl⟩, trivial⟩⟩ trivial
def T44c (F : Nat) (p0 : Int) (p1 : Int) {β : Type} (k : ((List UInt8)) → Option β) : Option β :=
  (Option.bind (T74 F p0) fun z3 => (Option.bind (T73 F z3 p1) fun z4 => (k z4)))
def T44 (F : Nat) (p0 : Int) (p1 : Int) : Option ((List UInt8)) := T44c F p0 p1 some
theorem T44n (F : Nat) (p0 : Int) (p1 : Int) {β : Type} (k : ((List UInt8)) → Option β) : T44c F p0 p1 k = (T44 F p0 p1).bind k := by
  simp only [T44, T44c, Option.bind_assoc, cond_bind, Option.bind_some, Option.bind_none, elimS_bind]
@[reducible] def cA44 : List Sh := [(.pt 0 []), .i]
@[reducible] def cB44 : List Sh := []
@[reducible] def cT44 : List TSh := [.blk 112 (.pr .ns (.pr .i .un))]
@[reducible] def cU44 : List TSh := [.blk 112 (.pr (.rw 1) (.pr .i .un)), .row 5 .u8]
def ct44 (F : Nat) : Ct := mkC 1 cA44 cT44 cB44 cU44 (fun x y => T44 F x.2.1 y.1.2.1) (fun x y (z : (List UInt8)) => ((), (((), y.1.2.1, ()), z, ())))
theorem eq44 (F : Nat) (x : dens cA44) (y : tdens cT44) : sev (E44 F) 1 [] (bodyOf Tryd.f44) [] (mkSt (rng 2) cA44 cT44 x y) (kFn (E44 F) 1 Tryd.f44.results.toList cB44 cU44 fun p q => some (p, q)) =
    T44c F x.2.1 y.1.2.1 (fun z => some ((), (((), y.1.2.1, ()), z, ()))) := by kernel_rfl
theorem ok44 (F : Nat) : Sound Tryd.prog cfg 44 (ct44 F) :=
  mkC_ok (E := E44 F) (lp := []) (code := bodyOf Tryd.f44) Tryd.func44 rfl Tryd.ntmps44 rfl rfl cok (cts44 F) mixed trivial (by kernel_rfl) (fun x y k => T44c F x.2.1 y.1.2.1 k) (fun x y k => T44n F x.2.1 y.1.2.1 k) (eq44 F)
end Go.Proofs.YthikoaamigiceaaDoor
/- (*kinkeep/wire.Writer).Uint: its twin, and that the call does what the twin says. Printed by a program. -/
namespace Go.Proofs.YthikoaamigiceaaDoor
open Go.Tw
set_option linter.unusedSimpArgs false
set_option linter.unusedVariables false
def ord73x1 : Nat → List (Tag × Nat)
  | _ => []
def al73x1 : Nat → Option Nat
  | _ => none
def ms73x1 : Nat → Option (List (Option Tag × Nat × List Nat))
  | _ => none
def E73x1 (F : Nat) : Ev := ⟨cfg, 18, ctOf [(75, ct75 F)], ord73x1, ctOf [], al73x1, ms73x1⟩
theorem cts73x1 (F : Nat) : CtsOk Tryd.prog (E73x1 F) := cts_of (l := [(75, ct75 F)]) (l' := []) rfl rfl ⟨⟨ok75 F, _, Tryd.func75, rfl, rfl⟩, trivial⟩ trivial
def T73x1c (F : Nat) (p0 : UInt64) (p1 : Int) (p2 : List UInt8) {β : Type} (k : ((List UInt8)) → Option β) : Option β :=
  (bif (p1 == (0 : Int)) then (Option.bind (T75 F p0 p2) fun z2 => (k z2)) else (k p2))
def T73x1 (F : Nat) (p0 : UInt64) (p1 : Int) (p2 : List UInt8) : Option ((List UInt8)) := T73x1c F p0 p1 p2 some
theorem T73x1n (F : Nat) (p0 : UInt64) (p1 : Int) (p2 : List UInt8) {β : Type} (k : ((List UInt8)) → Option β) : T73x1c F p0 p1 p2 k = (T73x1 F p0 p1 p2).bind k := by
  simp only [T73x1, T73x1c, Option.bind_assoc, cond_bind, Option.bind_some, Option.bind_none, elimS_bind]
@[reducible] def cA73x1 : List Sh := [(.pt 0 []), .u64]
@[reducible] def cB73x1 : List Sh := []
@[reducible] def cT73x1 : List TSh := [.blk 112 (.pr (.rw 1) (.pr .i .un)), .row 5 .u8]
@[reducible] def cU73x1 : List TSh := [.blk 112 (.pr (.rw 1) (.pr .i .un)), .row 5 .u8]
def ct73x1 (F : Nat) : Ct := mkC 1 cA73x1 cT73x1 cB73x1 cU73x1 (fun x y => T73x1 F x.2.1 y.1.2.1 y.2.1) (fun x y (z : (List UInt8)) => ((), (((), y.1.2.1, ()), z, ())))
theorem eq73x1 (F : Nat) (x : dens cA73x1) (y : tdens cT73x1) : sev (E73x1 F) 1 [] (bodyOf Tryd.f73) [] (mkSt (rng 2) cA73x1 cT73x1 x y) (kFn (E73x1 F) 1 Tryd.f73.results.toList cB73x1 cU73x1 fun p q => some (p, q)) =
    T73x1c F x.2.1 y.1.2.1 y.2.1 (fun z => some ((), (((), y.1.2.1, ()), z, ()))) := by kernel_rfl
theorem ok73x1 (F : Nat) : Sound Tryd.prog cfg 73 (ct73x1 F) :=
  mkC_ok (E := E73x1 F) (lp := []) (code := bodyOf Tryd.f73) Tryd.func73 rfl Tryd.ntmps73 rfl rfl cok (cts73x1 F) mixed trivial (by kernel_rfl) (fun x y k => T73x1c F x.2.1 y.1.2.1 y.2.1 k) (fun x y k => T73x1n F x.2.1 y.1.2.1 y.2.1 k) (eq73x1 F)
end Go.Proofs.YthikoaamigiceaaDoor
/- (*kinkeep/wire.Writer).Int: its twin, and that the call does what the twin says. Printed by a program. -/
namespace Go.Proofs.YthikoaamigiceaaDoor
open Go.Tw
set_option linter.unusedSimpArgs false
set_option linter.unusedVariables false
def ord44x1 : Nat → List (Tag × Nat)
  | _ => []
def al44x1 : Nat → Option Nat
  | _ => none
def ms44x1 : Nat → Option (List (Option Tag × Nat × List Nat))
  | _ => none
def E44x1 (F : Nat) : Ev := ⟨cfg, 8, ctOf [(74, ct74 F), (73, ct73x1 F)], ord44x1, ctOf [], al44x1, ms44x1⟩
theorem cts44x1 (F : Nat) : CtsOk Tryd.prog (E44x1 F) := cts_of (l := [(74, ct74 F), (73, ct73x1 F)]) (l' := []) rfl rfl ⟨⟨ok74 F, _, Tryd.func74, rfl, rfl⟩, ⟨⟨ok73x1 F, _, Tryd.func73, rfl, rfl⟩, trivial⟩⟩ trivial
def T44x1c (F : Nat) (p0 : Int) (p1 : Int) (p2 : List UInt8) {β : Type} (k : ((List UInt8)) → Option β) : Option β :=
  (Option.bind (T74 F p0) fun z3 => (Option.bind (T73x1 F z3 p1 p2) fun z4 => (k z4)))
def T44x1 (F : Nat) (p0 : Int) (p1 : Int) (p2 : List UInt8) : Option ((List UInt8)) := T44x1c F p0 p1 p2 some
theorem T44x1n (F : Nat) (p0 : Int) (p1 : Int) (p2 : List UInt8) {β : Type} (k : ((List UInt8)) → Option β) : T44x1c F p0 p1 p2 k = (T44x1 F p0 p1 p2).bind k := by
  simp only [T44x1, T44x1c, Option.bind_assoc, cond_bind, Option.bind_some, Option.bind_none, elimS_bind]
@[reducible] def cA44x1 : List Sh := [(.pt 0 []), .i]
@[reducible] def cB44x1 : List Sh := []
@[reducible] def cT44x1 : List TSh := [.blk 112 (.pr (.rw 1) (.pr .i .un)), .row 5 .u8]
@[reducible] def cU44x1 : List TSh := [.blk 112 (.pr (.rw 2) (.pr .i .un)), .no, .row 5 .u8]
def ct44x1 (F : Nat) : Ct := mkC 2 cA44x1 cT44x1 cB44x1 cU44x1 (fun x y => T44x1 F x.2.1 y.1.2.1 y.2.1) (fun x y (z : (List UInt8)) => ((), (((), y.1.2.1, ()), (), z, ())))
theorem eq44x1 (F : Nat) (x : dens cA44x1) (y : tdens cT44x1) : sev (E44x1 F) 2 [] (bodyOf Tryd.f44) [] (mkSt (rng 2) cA44x1 cT44x1 x y) (kFn (E44x1 F) 2 Tryd.f44.results.toList cB44x1 cU44x1 fun p q => some (p, q)) =
    T44x1c F x.2.1 y.1.2.1 y.2.1 (fun z => some ((), (((), y.1.2.1, ()), (), z, ()))) := by kernel_rfl
theorem ok44x1 (F : Nat) : Sound Tryd.prog cfg 44 (ct44x1 F) :=
  mkC_ok (E := E44x1 F) (lp := []) (code := bodyOf Tryd.f44) Tryd.func44 rfl Tryd.ntmps44 rfl rfl cok (cts44x1 F) mixed trivial (by kernel_rfl) (fun x y k => T44x1c F x.2.1 y.1.2.1 y.2.1 k) (fun x y k => T44x1n F x.2.1 y.1.2.1 y.2.1 k) (eq44x1 F)
end Go.Proofs.YthikoaamigiceaaDoor
/- kinkeep/keyring.writeInts: its twin, and that the call does what the twin says. Printed by a program. -/
namespace Go.Proofs.YthikoaamigiceaaDoor
open Go.Tw
set_option linter.unusedSimpArgs false
set_option linter.unusedVariables false
def ord41 : Nat → List (Tag × Nat)
  | _ => []
def al41 : Nat → Option Nat
  | _ => none
def ms41 : Nat → Option (List (Option Tag × Nat × List Nat))
  | _ => none
def E41 (F : Nat) : Ev := ⟨cfg, 16, ctOf [(44, ct44 F), (44, ct44x1 F)], ord41, ctOf [], al41, ms41⟩
theorem cts41 (F : Nat) : CtsOk Tryd.prog (E41 F) := cts_of (l := [(44, ct44 F), (44, ct44x1 F)]) (l' := []) rfl rfl ⟨⟨ok44 F, _, Tryd.func44, rfl, rfl⟩, ⟨⟨ok44x1 F, _, Tryd.func44, rfl, rfl⟩, trivial⟩⟩ trivial
def L41_2c (F : Nat) (y23 : List Int) (y24 : Int) (y26 : Int) (y25 : Int) (y27 : List UInt8) {β : Type} (kA : (Int × (List UInt8)) → Option β) (kO : ((List UInt8)) → Option β) : Option β :=
  (bif (decide (y25 < y24)) then (Option.bind (ix y23 y25) fun x30 => (Option.bind (T44x1 F x30 y26 y27) fun z31 => (kA ((w64 (y25 + (1 : Int))), z31)))) else (kO y27))
def L41_2 (F : Nat) (y23 : List Int) (y24 : Int) (y26 : Int) (y25 : Int) (y27 : List UInt8) : Option ((Int × (List UInt8)) ⊕ ((List UInt8))) := L41_2c F y23 y24 y26 y25 y27 (fun s => some (.inl s)) (fun z => some (.inr z))
theorem L41_2n (F : Nat) (y23 : List Int) (y24 : Int) (y26 : Int) (y25 : Int) (y27 : List UInt8) {β : Type} (kA : (Int × (List UInt8)) → Option β) (kO : ((List UInt8)) → Option β) : L41_2c F y23 y24 y26 y25 y27 kA kO = (L41_2 F y23 y24 y26 y25 y27).bind (elimS kA kO) := by
  simp only [L41_2, L41_2c, Option.bind_assoc, cond_bind, Option.bind_some, Option.bind_none, elimS_l, elimS_r, elimS_bind]
@[reducible] def sA41_2 : List Sh := [(.pt 0 []), (.ro .i), .i, .i]
@[reducible] def sAp141_2 : List Sh := []
@[reducible] def sT41_2 : List TSh := [.blk 112 (.pr (.rw 1) (.pr .i .un)), .row 5 .u8]
@[reducible] def sTp141_2 : List TSh := [.blk 112 (.pr (.rw 1) (.pr .i .un)), .row 5 .u8]
def lc41_2 (F : Nat) : Lc := mkL [0, 6, 7, 8] sA41_2 sT41_2 [] sAp141_2 sTp141_2 F (fun x y (s : Int × (List UInt8)) => L41_2 F x.2.1 x.2.2.1 y.1.2.1 s.1 s.2) (fun x y => (x.2.2.2.1, y.2.1)) (fun x y (z : (List UInt8)) => ((), (((), y.1.2.1, ()), z, ())))
theorem le41_2 (F : Nat) (x : dens sA41_2) (y : tdens sT41_2) (s : Int × (List UInt8)) : sev (E41 F) 1 [] (cAt (bodyOf Tryd.f41) (0 :: 0 :: [1])) (0 :: 0 :: [1]) (mkSt [0, 6, 7, 8] sA41_2 sT41_2 ((), x.2.1, x.2.2.1, s.1, ()) (((), y.1.2.1, ()), s.2, ())) (kLoop 1 [0, 6, 7, 8] sA41_2 sT41_2 [] sAp141_2 sTp141_2 [] [] [] 0 (fun x y => some (.inl (x, y))) (fun x y => some (.inr (.inl (x, y)))) (fun x y => some (.inr (.inr (x, y))))) =
    L41_2c (β := Full sA41_2 sT41_2 sAp141_2 sTp141_2 [] []) F x.2.1 x.2.2.1 y.1.2.1 s.1 s.2 (fun s => some (.inl (((), x.2.1, x.2.2.1, s.1, ()), (((), y.1.2.1, ()), s.2, ())))) (fun z => some (.inr (.inl ((), (((), y.1.2.1, ()), z, ()))))) := by kernel_rfl
theorem lo41_2 (F : Nat) : LcOk Tryd.prog (E41 F) 1 (lc41_2 F) (cAt (bodyOf Tryd.f41) [1]) :=
  mkL_ok (lp := []) (id := 0) (b := cAt (bodyOf Tryd.f41) (0 :: 0 :: [1])) cok (cts41 F) mixed trivial (by kernel_rfl) (by kernel_rfl) (fun x y s => ((), x.2.1, x.2.2.1, s.1, ())) (fun x y s => (((), y.1.2.1, ()), s.2, ())) (fun x y => rfl) (fun x y => rfl) (fun x y s kA kO => L41_2c F x.2.1 x.2.2.1 y.1.2.1 s.1 s.2 kA kO) (fun x y s kA kO => L41_2n F x.2.1 x.2.2.1 y.1.2.1 s.1 s.2 kA kO) (le41_2 F)
def T41c (F : Nat) (p0 : List Int) (p1 : Int) {β : Type} (k : ((List UInt8)) → Option β) : Option β :=
  (Option.bind (iter (fun s => L41_2 F p0 (p0.length : Int) p1 s.1 s.2) F ((0 : Int), ([] : List UInt8))) fun z32 => (k z32))
def T41 (F : Nat) (p0 : List Int) (p1 : Int) : Option ((List UInt8)) := T41c F p0 p1 some
theorem T41n (F : Nat) (p0 : List Int) (p1 : Int) {β : Type} (k : ((List UInt8)) → Option β) : T41c F p0 p1 k = (T41 F p0 p1).bind k := by
  simp only [T41, T41c, Option.bind_assoc, cond_bind, Option.bind_some, Option.bind_none, elimS_bind]
@[reducible] def cA41 : List Sh := [(.pt 0 []), (.ro .i)]
@[reducible] def cB41 : List Sh := []
@[reducible] def cT41 : List TSh := [.blk 112 (.pr .ns (.pr .i .un))]
@[reducible] def cU41 : List TSh := [.blk 112 (.pr (.rw 1) (.pr .i .un)), .row 5 .u8]
def ct41 (F : Nat) : Ct := mkC 1 cA41 cT41 cB41 cU41 (fun x y => T41 F x.2.1 y.1.2.1) (fun x y (z : (List UInt8)) => ((), (((), y.1.2.1, ()), z, ())))
theorem eq41 (F : Nat) (x : dens cA41) (y : tdens cT41) : sev (E41 F) 1 [([1], lc41_2 F)] (bodyOf Tryd.f41) [] (mkSt (rng 2) cA41 cT41 x y) (kFn (E41 F) 1 Tryd.f41.results.toList cB41 cU41 fun p q => some (p, q)) =
    T41c F x.2.1 y.1.2.1 (fun z => some ((), (((), y.1.2.1, ()), z, ()))) := by kernel_rfl
theorem ok41 (F : Nat) : Sound Tryd.prog cfg 41 (ct41 F) :=
  mkC_ok (E := E41 F) (lp := [([1], lc41_2 F)]) (code := bodyOf Tryd.f41) Tryd.func41 rfl Tryd.ntmps41 rfl rfl cok (cts41 F) mixed ⟨lo41_2 F, trivial⟩ (by kernel_rfl) (fun x y k => T41c F x.2.1 y.1.2.1 k) (fun x y k => T41n F x.2.1 y.1.2.1 k) (eq41 F)
end Go.Proofs.YthikoaamigiceaaDoor
/- (*kinkeep/wire.Writer).Count: its twin, and that the call does what the twin says. Printed by a program. -/
namespace Go.Proofs.YthikoaamigiceaaDoor
open Go.Tw
set_option linter.unusedSimpArgs false
set_option linter.unusedVariables false
def ord72 : Nat → List (Tag × Nat)
  | _ => []
def al72 : Nat → Option Nat
  | _ => none
def ms72 : Nat → Option (List (Option Tag × Nat × List Nat))
  | _ => none
def E72 (F : Nat) : Ev := ⟨cfg, 18, ctOf [(73, ct73x1 F)], ord72, ctOf [], al72, ms72⟩
theorem cts72 (F : Nat) : CtsOk Tryd.prog (E72 F) := cts_of (l := [(73, ct73x1 F)]) (l' := []) rfl rfl ⟨⟨ok73x1 F, _, Tryd.func73, rfl, rfl⟩, trivial⟩ trivial
def T72c (F : Nat) (p0 : Int) (p1 : Int) (p2 : List UInt8) {β : Type} (k : (Int × (List UInt8)) → Option β) : Option β :=
  (bif (p1 != (0 : Int)) then (k (p1, p2)) else (bif (decide (p0 < (0 : Int))) then (k ((1 : Int), p2)) else (Option.bind (T73x1 F (UInt64.ofInt p0) p1 p2) fun z2 => (k (p1, z2)))))
def T72 (F : Nat) (p0 : Int) (p1 : Int) (p2 : List UInt8) : Option (Int × (List UInt8)) := T72c F p0 p1 p2 some
theorem T72n (F : Nat) (p0 : Int) (p1 : Int) (p2 : List UInt8) {β : Type} (k : (Int × (List UInt8)) → Option β) : T72c F p0 p1 p2 k = (T72 F p0 p1 p2).bind k := by
  simp only [T72, T72c, Option.bind_assoc, cond_bind, Option.bind_some, Option.bind_none, elimS_bind]
@[reducible] def cA72 : List Sh := [(.pt 0 []), .i]
@[reducible] def cB72 : List Sh := []
@[reducible] def cT72 : List TSh := [.blk 112 (.pr (.rw 1) (.pr .i .un)), .row 5 .u8]
@[reducible] def cU72 : List TSh := [.blk 112 (.pr (.rw 1) (.pr .i .un)), .row 5 .u8]
def ct72 (F : Nat) : Ct := mkC 1 cA72 cT72 cB72 cU72 (fun x y => T72 F x.2.1 y.1.2.1 y.2.1) (fun x y (z : Int × (List UInt8)) => ((), (((), z.1, ()), z.2, ())))
theorem eq72 (F : Nat) (x : dens cA72) (y : tdens cT72) : sev (E72 F) 1 [] (bodyOf Tryd.f72) [] (mkSt (rng 2) cA72 cT72 x y) (kFn (E72 F) 1 Tryd.f72.results.toList cB72 cU72 fun p q => some (p, q)) =
    T72c F x.2.1 y.1.2.1 y.2.1 (fun z => some ((), (((), z.1, ()), z.2, ()))) := by kernel_rfl
theorem ok72 (F : Nat) : Sound Tryd.prog cfg 72 (ct72 F) :=
  mkC_ok (E := E72 F) (lp := []) (code := bodyOf Tryd.f72) Tryd.func72 rfl Tryd.ntmps72 rfl rfl cok (cts72 F) mixed trivial (by kernel_rfl) (fun x y k => T72c F x.2.1 y.1.2.1 y.2.1 k) (fun x y k => T72n F x.2.1 y.1.2.1 y.2.1 k) (eq72 F)
end Go.Proofs.YthikoaamigiceaaDoor
/- kinkeep/keyring.EncodeIndex$1: its twin, and that the call does what the twin says. Printed by a program. -/
namespace Go.Proofs.YthikoaamigiceaaDoor
open Go.Tw
set_option linter.unusedSimpArgs false
set_option linter.unusedVariables false
def ord43 : Nat → List (Tag × Nat)
  | _ => []
def al43 : Nat → Option Nat
  | _ => none
def ms43 : Nat → Option (List (Option Tag × Nat × List Nat))
  | _ => none
def E43 (F : Nat) : Ev := ⟨cfg, 6, ctOf [(44, ct44x1 F)], ord43, ctOf [], al43, ms43⟩
theorem cts43 (F : Nat) : CtsOk Tryd.prog (E43 F) := cts_of (l := [(44, ct44x1 F)]) (l' := []) rfl rfl ⟨⟨ok44x1 F, _, Tryd.func44, rfl, rfl⟩, trivial⟩ trivial
def T43c (F : Nat) (p0 : Int) (p1 : Int) (p2 : List UInt8) {β : Type} (k : ((List UInt8)) → Option β) : Option β :=
  (Option.bind (T44x1 F p0 p1 p2) fun z2 => (k z2))
def T43 (F : Nat) (p0 : Int) (p1 : Int) (p2 : List UInt8) : Option ((List UInt8)) := T43c F p0 p1 p2 some
theorem T43n (F : Nat) (p0 : Int) (p1 : Int) (p2 : List UInt8) {β : Type} (k : ((List UInt8)) → Option β) : T43c F p0 p1 p2 k = (T43 F p0 p1 p2).bind k := by
  simp only [T43, T43c, Option.bind_assoc, cond_bind, Option.bind_some, Option.bind_none, elimS_bind]
@[reducible] def cA43 : List Sh := [.i, (.pt 0 [])]
@[reducible] def cB43 : List Sh := []
@[reducible] def cT43 : List TSh := [.blk 75 (.pt 1 []), .blk 112 (.pr (.rw 2) (.pr .i .un)), .row 5 .u8]
@[reducible] def cU43 : List TSh := [.blk 75 (.pt 1 []), .blk 112 (.pr (.rw 3) (.pr .i .un)), .no, .row 5 .u8]
def ct43 (F : Nat) : Ct := mkC 3 cA43 cT43 cB43 cU43 (fun x y => T43 F x.1 y.2.1.2.1 y.2.2.1) (fun x y (z : (List UInt8)) => ((), ((), ((), y.2.1.2.1, ()), (), z, ())))
theorem eq43 (F : Nat) (x : dens cA43) (y : tdens cT43) : sev (E43 F) 3 [] (bodyOf Tryd.f43) [] (mkSt (rng 2) cA43 cT43 x y) (kFn (E43 F) 3 Tryd.f43.results.toList cB43 cU43 fun p q => some (p, q)) =
    T43c F x.1 y.2.1.2.1 y.2.2.1 (fun z => some ((), ((), ((), y.2.1.2.1, ()), (), z, ()))) := by kernel_rfl
theorem ok43 (F : Nat) : Sound Tryd.prog cfg 43 (ct43 F) :=
  mkC_ok (E := E43 F) (lp := []) (code := bodyOf Tryd.f43) Tryd.func43 rfl Tryd.ntmps43 rfl rfl cok (cts43 F) mixed trivial (by kernel_rfl) (fun x y k => T43c F x.1 y.2.1.2.1 y.2.2.1 k) (fun x y k => T43n F x.1 y.2.1.2.1 y.2.2.1 k) (eq43 F)
end Go.Proofs.YthikoaamigiceaaDoor
/- kinkeep/keyring.writeList[int]: its twin, and that the call does what the twin says. Printed by a program. -/
namespace Go.Proofs.YthikoaamigiceaaDoor
open Go.Tw
set_option linter.unusedSimpArgs false
set_option linter.unusedVariables false
def ord42 : Nat → List (Tag × Nat)
  | _ => []
def al42 : Nat → Option Nat
  | _ => none
def ms42 : Nat → Option (List (Option Tag × Nat × List Nat))
  | _ => none
def E42 (F : Nat) : Ev := ⟨cfg, 22, ctOf [(72, ct72 F), (43, ct43 F)], ord42, ctOf [], al42, ms42⟩
theorem cts42 (F : Nat) : CtsOk Tryd.prog (E42 F) := cts_of (l := [(72, ct72 F), (43, ct43 F)]) (l' := []) rfl rfl ⟨⟨ok72 F, _, Tryd.func72, rfl, rfl⟩, ⟨⟨ok43 F, _, Tryd.func43, rfl, rfl⟩, trivial⟩⟩ trivial
def L42_2c (F : Nat) (y13 : List Int) (y14 : Int) (y16 : Int) (y15 : Int) (y17 : List UInt8) {β : Type} (kA : (Int × (List UInt8)) → Option β) (kO : ((List UInt8)) → Option β) : Option β :=
  (bif (decide (y15 < y14)) then (Option.bind (ix y13 y15) fun x20 => (Option.bind (T43 F x20 y16 y17) fun z21 => (kA ((w64 (y15 + (1 : Int))), z21)))) else (kO y17))
def L42_2 (F : Nat) (y13 : List Int) (y14 : Int) (y16 : Int) (y15 : Int) (y17 : List UInt8) : Option ((Int × (List UInt8)) ⊕ ((List UInt8))) := L42_2c F y13 y14 y16 y15 y17 (fun s => some (.inl s)) (fun z => some (.inr z))
theorem L42_2n (F : Nat) (y13 : List Int) (y14 : Int) (y16 : Int) (y15 : Int) (y17 : List UInt8) {β : Type} (kA : (Int × (List UInt8)) → Option β) (kO : ((List UInt8)) → Option β) : L42_2c F y13 y14 y16 y15 y17 kA kO = (L42_2 F y13 y14 y16 y15 y17).bind (elimS kA kO) := by
  simp only [L42_2, L42_2c, Option.bind_assoc, cond_bind, Option.bind_some, Option.bind_none, elimS_l, elimS_r, elimS_bind]
@[reducible] def sA42_2 : List Sh := [(.fn 43 .un (.pr (.pt 1 []) .un)), (.ro .i), .i, .i]
@[reducible] def sAp142_2 : List Sh := []
@[reducible] def sT42_2 : List TSh := [.blk 112 (.pr (.rw 3) (.pr .i .un)), .blk 75 (.pt 0 []), .no, .row 5 .u8]
@[reducible] def sTp142_2 : List TSh := [.blk 112 (.pr (.rw 3) (.pr .i .un)), .blk 75 (.pt 0 []), .no, .row 5 .u8]
def lc42_2 (F : Nat) : Lc := mkL [2, 12, 13, 14] sA42_2 sT42_2 [] sAp142_2 sTp142_2 F (fun x y (s : Int × (List UInt8)) => L42_2 F x.2.1 x.2.2.1 y.1.2.1 s.1 s.2) (fun x y => (x.2.2.2.1, y.2.2.2.1)) (fun x y (z : (List UInt8)) => ((), (((), y.1.2.1, ()), (), (), z, ())))
theorem le42_2 (F : Nat) (x : dens sA42_2) (y : tdens sT42_2) (s : Int × (List UInt8)) : sev (E42 F) 3 [] (cAt (bodyOf Tryd.f42) (0 :: 0 :: [1, 1])) (0 :: 0 :: [1, 1]) (mkSt [2, 12, 13, 14] sA42_2 sT42_2 (((), ((), ())), x.2.1, x.2.2.1, s.1, ()) (((), y.1.2.1, ()), (), (), s.2, ())) (kLoop 3 [2, 12, 13, 14] sA42_2 sT42_2 [] sAp142_2 sTp142_2 [] [] [] 0 (fun x y => some (.inl (x, y))) (fun x y => some (.inr (.inl (x, y)))) (fun x y => some (.inr (.inr (x, y))))) =
    L42_2c (β := Full sA42_2 sT42_2 sAp142_2 sTp142_2 [] []) F x.2.1 x.2.2.1 y.1.2.1 s.1 s.2 (fun s => some (.inl ((((), ((), ())), x.2.1, x.2.2.1, s.1, ()), (((), y.1.2.1, ()), (), (), s.2, ())))) (fun z => some (.inr (.inl ((), (((), y.1.2.1, ()), (), (), z, ()))))) := by kernel_rfl
theorem lo42_2 (F : Nat) : LcOk Tryd.prog (E42 F) 3 (lc42_2 F) (cAt (bodyOf Tryd.f42) [1, 1]) :=
  mkL_ok (lp := []) (id := 0) (b := cAt (bodyOf Tryd.f42) (0 :: 0 :: [1, 1])) cok (cts42 F) mixed trivial (by kernel_rfl) (by kernel_rfl) (fun x y s => (((), ((), ())), x.2.1, x.2.2.1, s.1, ())) (fun x y s => (((), y.1.2.1, ()), (), (), s.2, ())) (fun x y => rfl) (fun x y => rfl) (fun x y s kA kO => L42_2c F x.2.1 x.2.2.1 y.1.2.1 s.1 s.2 kA kO) (fun x y s kA kO => L42_2n F x.2.1 x.2.2.1 y.1.2.1 s.1 s.2 kA kO) (le42_2 F)
def T42c (F : Nat) (p0 : List Int) (p1 : Int) (p2 : List UInt8) {β : Type} (k : (Int × (List UInt8)) → Option β) : Option β :=
  (Option.bind (T72 F (p0.length : Int) p1 p2) fun z12 => (Option.bind (iter (fun s => L42_2 F p0 (p0.length : Int) z12.1 s.1 s.2) F ((0 : Int), z12.2)) fun z22 => (k (z12.1, z22))))
def T42 (F : Nat) (p0 : List Int) (p1 : Int) (p2 : List UInt8) : Option (Int × (List UInt8)) := T42c F p0 p1 p2 some
theorem T42n (F : Nat) (p0 : List Int) (p1 : Int) (p2 : List UInt8) {β : Type} (k : (Int × (List UInt8)) → Option β) : T42c F p0 p1 p2 k = (T42 F p0 p1 p2).bind k := by
  simp only [T42, T42c, Option.bind_assoc, cond_bind, Option.bind_some, Option.bind_none, elimS_bind]
@[reducible] def cA42 : List Sh := [(.pt 0 []), (.ro .i), (.fn 43 .un (.pr (.pt 1 []) .un))]
@[reducible] def cB42 : List Sh := []
@[reducible] def cT42 : List TSh := [.blk 112 (.pr (.rw 2) (.pr .i .un)), .blk 75 (.pt 0 []), .row 5 .u8]
@[reducible] def cU42 : List TSh := [.blk 112 (.pr (.rw 3) (.pr .i .un)), .blk 75 (.pt 0 []), .no, .row 5 .u8]
def ct42 (F : Nat) : Ct := mkC 3 cA42 cT42 cB42 cU42 (fun x y => T42 F x.2.1 y.1.2.1 y.2.2.1) (fun x y (z : Int × (List UInt8)) => ((), (((), z.1, ()), (), (), z.2, ())))
theorem eq42 (F : Nat) (x : dens cA42) (y : tdens cT42) : sev (E42 F) 3 [([1, 1], lc42_2 F)] (bodyOf Tryd.f42) [] (mkSt (rng 3) cA42 cT42 x y) (kFn (E42 F) 3 Tryd.f42.results.toList cB42 cU42 fun p q => some (p, q)) =
    T42c F x.2.1 y.1.2.1 y.2.2.1 (fun z => some ((), (((), z.1, ()), (), (), z.2, ()))) := by kernel_rfl
theorem ok42 (F : Nat) : Sound Tryd.prog cfg 42 (ct42 F) :=
  mkC_ok (E := E42 F) (lp := [([1, 1], lc42_2 F)]) (code := bodyOf Tryd.f42) Tryd.func42 rfl Tryd.ntmps42 rfl rfl cok (cts42 F) mixed ⟨lo42_2 F, trivial⟩ (by kernel_rfl) (fun x y k => T42c F x.2.1 y.1.2.1 y.2.2.1 k) (fun x y k => T42n F x.2.1 y.1.2.1 y.2.2.1 k) (eq42 F)
end Go.Proofs.YthikoaamigiceaaDoor
/- kinkeep/keyring.writeInts: its twin, and that the call does what the twin says. Printed by a program. -/
namespace Go.Proofs.YthikoaamigiceaaDoor
open Go.Tw
set_option linter.unusedSimpArgs false
set_option linter.unusedVariables false
def ord41x1 : Nat → List (Tag × Nat)
  | _ => []
def al41x1 : Nat → Option Nat
  | _ => none
def ms41x1 : Nat → Option (List (Option Tag × Nat × List Nat))
  | _ => none
def E41x1 (F : Nat) : Ev := ⟨cfg, 16, ctOf [(44, ct44x1 F)], ord41x1, ctOf [], al41x1, ms41x1⟩
theorem cts41x1 (F : Nat) : CtsOk Tryd.prog (E41x1 F) := cts_of (l := [(44, ct44x1 F)]) (l' := []) rfl rfl ⟨⟨ok44x1 F, _, Tryd.func44, rfl, rfl⟩, trivial⟩ trivial
def L41x1_2c (F : Nat) (y11 : List Int) (y12 : Int) (y14 : Int) (y13 : Int) (y15 : List UInt8) {β : Type} (kA : (Int × (List UInt8)) → Option β) (kO : ((List UInt8)) → Option β) : Option β :=
  (bif (decide (y13 < y12)) then (Option.bind (ix y11 y13) fun x18 => (Option.bind (T44x1 F x18 y14 y15) fun z19 => (kA ((w64 (y13 + (1 : Int))), z19)))) else (kO y15))
def L41x1_2 (F : Nat) (y11 : List Int) (y12 : Int) (y14 : Int) (y13 : Int) (y15 : List UInt8) : Option ((Int × (List UInt8)) ⊕ ((List UInt8))) := L41x1_2c F y11 y12 y14 y13 y15 (fun s => some (.inl s)) (fun z => some (.inr z))
theorem L41x1_2n (F : Nat) (y11 : List Int) (y12 : Int) (y14 : Int) (y13 : Int) (y15 : List UInt8) {β : Type} (kA : (Int × (List UInt8)) → Option β) (kO : ((List UInt8)) → Option β) : L41x1_2c F y11 y12 y14 y13 y15 kA kO = (L41x1_2 F y11 y12 y14 y13 y15).bind (elimS kA kO) := by
  simp only [L41x1_2, L41x1_2c, Option.bind_assoc, cond_bind, Option.bind_some, Option.bind_none, elimS_l, elimS_r, elimS_bind]
@[reducible] def sA41x1_2 : List Sh := [(.pt 0 []), (.ro .i), .i, .i]
@[reducible] def sAp141x1_2 : List Sh := []
@[reducible] def sT41x1_2 : List TSh := [.blk 112 (.pr (.rw 1) (.pr .i .un)), .row 5 .u8]
@[reducible] def sTp141x1_2 : List TSh := [.blk 112 (.pr (.rw 1) (.pr .i .un)), .row 5 .u8]
def lc41x1_2 (F : Nat) : Lc := mkL [0, 6, 7, 8] sA41x1_2 sT41x1_2 [] sAp141x1_2 sTp141x1_2 F (fun x y (s : Int × (List UInt8)) => L41x1_2 F x.2.1 x.2.2.1 y.1.2.1 s.1 s.2) (fun x y => (x.2.2.2.1, y.2.1)) (fun x y (z : (List UInt8)) => ((), (((), y.1.2.1, ()), z, ())))
theorem le41x1_2 (F : Nat) (x : dens sA41x1_2) (y : tdens sT41x1_2) (s : Int × (List UInt8)) : sev (E41x1 F) 1 [] (cAt (bodyOf Tryd.f41) (0 :: 0 :: [1])) (0 :: 0 :: [1]) (mkSt [0, 6, 7, 8] sA41x1_2 sT41x1_2 ((), x.2.1, x.2.2.1, s.1, ()) (((), y.1.2.1, ()), s.2, ())) (kLoop 1 [0, 6, 7, 8] sA41x1_2 sT41x1_2 [] sAp141x1_2 sTp141x1_2 [] [] [] 0 (fun x y => some (.inl (x, y))) (fun x y => some (.inr (.inl (x, y)))) (fun x y => some (.inr (.inr (x, y))))) =
    L41x1_2c (β := Full sA41x1_2 sT41x1_2 sAp141x1_2 sTp141x1_2 [] []) F x.2.1 x.2.2.1 y.1.2.1 s.1 s.2 (fun s => some (.inl (((), x.2.1, x.2.2.1, s.1, ()), (((), y.1.2.1, ()), s.2, ())))) (fun z => some (.inr (.inl ((), (((), y.1.2.1, ()), z, ()))))) := by kernel_rfl
theorem lo41x1_2 (F : Nat) : LcOk Tryd.prog (E41x1 F) 1 (lc41x1_2 F) (cAt (bodyOf Tryd.f41) [1]) :=
  mkL_ok (lp := []) (id := 0) (b := cAt (bodyOf Tryd.f41) (0 :: 0 :: [1])) cok (cts41x1 F) mixed trivial (by kernel_rfl) (by kernel_rfl) (fun x y s => ((), x.2.1, x.2.2.1, s.1, ())) (fun x y s => (((), y.1.2.1, ()), s.2, ())) (fun x y => rfl) (fun x y => rfl) (fun x y s kA kO => L41x1_2c F x.2.1 x.2.2.1 y.1.2.1 s.1 s.2 kA kO) (fun x y s kA kO => L41x1_2n F x.2.1 x.2.2.1 y.1.2.1 s.1 s.2 kA kO) (le41x1_2 F)
def T41x1c (F : Nat) (p0 : List Int) (p1 : Int) (p2 : List UInt8) {β : Type} (k : ((List UInt8)) → Option β) : Option β :=
  (Option.bind (iter (fun s => L41x1_2 F p0 (p0.length : Int) p1 s.1 s.2) F ((0 : Int), p2)) fun z20 => (k z20))
def T41x1 (F : Nat) (p0 : List Int) (p1 : Int) (p2 : List UInt8) : Option ((List UInt8)) := T41x1c F p0 p1 p2 some
theorem T41x1n (F : Nat) (p0 : List Int) (p1 : Int) (p2 : List UInt8) {β : Type} (k : ((List UInt8)) → Option β) : T41x1c F p0 p1 p2 k = (T41x1 F p0 p1 p2).bind k := by
  simp only [T41x1, T41x1c, Option.bind_assoc, cond_bind, Option.bind_some, Option.bind_none, elimS_bind]
@[reducible] def cA41x1 : List Sh := [(.pt 0 []), (.ro .i)]
@[reducible] def cB41x1 : List Sh := []
@[reducible] def cT41x1 : List TSh := [.blk 112 (.pr (.rw 1) (.pr .i .un)), .row 5 .u8]
@[reducible] def cU41x1 : List TSh := [.blk 112 (.pr (.rw 1) (.pr .i .un)), .row 5 .u8]
def ct41x1 (F : Nat) : Ct := mkC 1 cA41x1 cT41x1 cB41x1 cU41x1 (fun x y => T41x1 F x.2.1 y.1.2.1 y.2.1) (fun x y (z : (List UInt8)) => ((), (((), y.1.2.1, ()), z, ())))
theorem eq41x1 (F : Nat) (x : dens cA41x1) (y : tdens cT41x1) : sev (E41x1 F) 1 [([1], lc41x1_2 F)] (bodyOf Tryd.f41) [] (mkSt (rng 2) cA41x1 cT41x1 x y) (kFn (E41x1 F) 1 Tryd.f41.results.toList cB41x1 cU41x1 fun p q => some (p, q)) =
    T41x1c F x.2.1 y.1.2.1 y.2.1 (fun z => some ((), (((), y.1.2.1, ()), z, ()))) := by kernel_rfl
theorem ok41x1 (F : Nat) : Sound Tryd.prog cfg 41 (ct41x1 F) :=
  mkC_ok (E := E41x1 F) (lp := [([1], lc41x1_2 F)]) (code := bodyOf Tryd.f41) Tryd.func41 rfl Tryd.ntmps41 rfl rfl cok (cts41x1 F) mixed ⟨lo41x1_2 F, trivial⟩ (by kernel_rfl) (fun x y k => T41x1c F x.2.1 y.1.2.1 y.2.1 k) (fun x y k => T41x1n F x.2.1 y.1.2.1 y.2.1 k) (eq41x1 F)
end Go.Proofs.YthikoaamigiceaaDoor
/- (*kinkeep/wire.Writer).Sum: its twin, and that the call does what the twin says. Printed by a program. -/
namespace Go.Proofs.YthikoaamigiceaaDoor
open Go.Tw
set_option linter.unusedSimpArgs false
set_option linter.unusedVariables false
def ord53 : Nat → List (Tag × Nat)
  | _ => []
def al53 : Nat → Option Nat
  | _ => none
def ms53 : Nat → Option (List (Option Tag × Nat × List Nat))
  | _ => none
def E53 (F : Nat) : Ev := ⟨cfg, 24, ctOf [], ord53, ctOf [], al53, ms53⟩
theorem cts53 (F : Nat) : CtsOk Tryd.prog (E53 F) := cts_of (l := []) (l' := []) rfl rfl trivial trivial
def T53c (F : Nat) (p0 : List UInt8) (p1 : Int) (p2 : List UInt8) {β : Type} (k : (Int × (List UInt8)) → Option β) : Option β :=
  (bif (p1 != (0 : Int)) then (k (p1, p2)) else (bif ((p0.length : Int) != (32 : Int)) then (k ((1 : Int), p2)) else (Option.bind (gapp p2 p0) fun x2 => (k (p1, x2)))))
def T53 (F : Nat) (p0 : List UInt8) (p1 : Int) (p2 : List UInt8) : Option (Int × (List UInt8)) := T53c F p0 p1 p2 some
theorem T53n (F : Nat) (p0 : List UInt8) (p1 : Int) (p2 : List UInt8) {β : Type} (k : (Int × (List UInt8)) → Option β) : T53c F p0 p1 p2 k = (T53 F p0 p1 p2).bind k := by
  simp only [T53, T53c, Option.bind_assoc, cond_bind, Option.bind_some, Option.bind_none, elimS_bind]
@[reducible] def cA53 : List Sh := [(.pt 0 []), .str]
@[reducible] def cB53 : List Sh := []
@[reducible] def cT53 : List TSh := [.blk 112 (.pr (.rw 1) (.pr .i .un)), .row 5 .u8]
@[reducible] def cU53 : List TSh := [.blk 112 (.pr (.rw 1) (.pr .i .un)), .row 5 .u8]
def ct53 (F : Nat) : Ct := mkC 1 cA53 cT53 cB53 cU53 (fun x y => T53 F x.2.1 y.1.2.1 y.2.1) (fun x y (z : Int × (List UInt8)) => ((), (((), z.1, ()), z.2, ())))
theorem eq53 (F : Nat) (x : dens cA53) (y : tdens cT53) : sev (E53 F) 1 [] (bodyOf Tryd.f53) [] (mkSt (rng 2) cA53 cT53 x y) (kFn (E53 F) 1 Tryd.f53.results.toList cB53 cU53 fun p q => some (p, q)) =
    T53c F x.2.1 y.1.2.1 y.2.1 (fun z => some ((), (((), z.1, ()), z.2, ()))) := by kernel_rfl
theorem ok53 (F : Nat) : Sound Tryd.prog cfg 53 (ct53 F) :=
  mkC_ok (E := E53 F) (lp := []) (code := bodyOf Tryd.f53) Tryd.func53 rfl Tryd.ntmps53 rfl rfl cok (cts53 F) mixed trivial (by kernel_rfl) (fun x y k => T53c F x.2.1 y.1.2.1 y.2.1 k) (fun x y k => T53n F x.2.1 y.1.2.1 y.2.1 k) (eq53 F)
end Go.Proofs.YthikoaamigiceaaDoor
/- kinkeep/keyring.writeRef: its twin, and that the call does what the twin says. Printed by a program. -/
namespace Go.Proofs.YthikoaamigiceaaDoor
open Go.Tw
set_option linter.unusedSimpArgs false
set_option linter.unusedVariables false
def ord47 : Nat → List (Tag × Nat)
  | _ => []
def al47 : Nat → Option Nat
  | _ => none
def ms47 : Nat → Option (List (Option Tag × Nat × List Nat))
  | _ => none
def E47 (F : Nat) : Ev := ⟨cfg, 15, ctOf [(53, ct53 F), (41, ct41x1 F)], ord47, ctOf [], al47, ms47⟩
theorem cts47 (F : Nat) : CtsOk Tryd.prog (E47 F) := cts_of (l := [(53, ct53 F), (41, ct41x1 F)]) (l' := []) rfl rfl ⟨⟨ok53 F, _, Tryd.func53, rfl, rfl⟩, ⟨⟨ok41x1 F, _, Tryd.func41, rfl, rfl⟩, trivial⟩⟩ trivial
def T47c (F : Nat) (p0 : List UInt8) (p1 : Int) (p2 : Int) (p3 : Int) (p4 : List UInt8) {β : Type} (k : (Int × (List UInt8)) → Option β) : Option β :=
  (Option.bind (T53 F p0 p3 p4) fun z3 => (Option.bind (T41x1 F ([p1, p2] : List Int) z3.1 z3.2) fun z4 => (k (z3.1, z4))))
def T47 (F : Nat) (p0 : List UInt8) (p1 : Int) (p2 : Int) (p3 : Int) (p4 : List UInt8) : Option (Int × (List UInt8)) := T47c F p0 p1 p2 p3 p4 some
theorem T47n (F : Nat) (p0 : List UInt8) (p1 : Int) (p2 : Int) (p3 : Int) (p4 : List UInt8) {β : Type} (k : (Int × (List UInt8)) → Option β) : T47c F p0 p1 p2 p3 p4 k = (T47 F p0 p1 p2 p3 p4).bind k := by
  simp only [T47, T47c, Option.bind_assoc, cond_bind, Option.bind_some, Option.bind_none, elimS_bind]
@[reducible] def cA47 : List Sh := [(.pt 0 []), (.pr .str (.pr .i (.pr .i .un)))]
@[reducible] def cB47 : List Sh := []
@[reducible] def cT47 : List TSh := [.blk 112 (.pr (.rw 1) (.pr .i .un)), .row 5 .u8]
@[reducible] def cU47 : List TSh := [.blk 112 (.pr (.rw 2) (.pr .i .un)), .no, .row 5 .u8]
def ct47 (F : Nat) : Ct := mkC 2 cA47 cT47 cB47 cU47 (fun x y => T47 F x.2.1.1 x.2.1.2.1 x.2.1.2.2.1 y.1.2.1 y.2.1) (fun x y (z : Int × (List UInt8)) => ((), (((), z.1, ()), (), z.2, ())))
theorem eq47 (F : Nat) (x : dens cA47) (y : tdens cT47) : sev (E47 F) 2 [] (bodyOf Tryd.f47) [] (mkSt (rng 2) cA47 cT47 x y) (kFn (E47 F) 2 Tryd.f47.results.toList cB47 cU47 fun p q => some (p, q)) =
    T47c F x.2.1.1 x.2.1.2.1 x.2.1.2.2.1 y.1.2.1 y.2.1 (fun z => some ((), (((), z.1, ()), (), z.2, ()))) := by kernel_rfl
theorem ok47 (F : Nat) : Sound Tryd.prog cfg 47 (ct47 F) :=
  mkC_ok (E := E47 F) (lp := []) (code := bodyOf Tryd.f47) Tryd.func47 rfl Tryd.ntmps47 rfl rfl cok (cts47 F) mixed trivial (by kernel_rfl) (fun x y k => T47c F x.2.1.1 x.2.1.2.1 x.2.1.2.2.1 y.1.2.1 y.2.1 k) (fun x y k => T47n F x.2.1.1 x.2.1.2.1 x.2.1.2.2.1 y.1.2.1 y.2.1 k) (eq47 F)
end Go.Proofs.YthikoaamigiceaaDoor
/- (*kinkeep/wire.Writer).Text: its twin, and that the call does what the twin says. Printed by a program. -/
namespace Go.Proofs.YthikoaamigiceaaDoor
open Go.Tw
set_option linter.unusedSimpArgs false
set_option linter.unusedVariables false
def ord48 : Nat → List (Tag × Nat)
  | _ => []
def al48 : Nat → Option Nat
  | _ => none
def ms48 : Nat → Option (List (Option Tag × Nat × List Nat))
  | _ => none
def E48 (F : Nat) : Ev := ⟨cfg, 22, ctOf [(75, ct75 F)], ord48, ctOf [], al48, ms48⟩
theorem cts48 (F : Nat) : CtsOk Tryd.prog (E48 F) := cts_of (l := [(75, ct75 F)]) (l' := []) rfl rfl ⟨⟨ok75 F, _, Tryd.func75, rfl, rfl⟩, trivial⟩ trivial
def T48c (F : Nat) (p0 : List UInt8) (p1 : Int) (p2 : List UInt8) {β : Type} (k : ((List UInt8)) → Option β) : Option β :=
  (bif (p1 == (0 : Int)) then (Option.bind (T75 F (UInt64.ofInt (p0.length : Int)) p2) fun z3 => (Option.bind (gapp z3 p0) fun x4 => (k x4))) else (k p2))
def T48 (F : Nat) (p0 : List UInt8) (p1 : Int) (p2 : List UInt8) : Option ((List UInt8)) := T48c F p0 p1 p2 some
theorem T48n (F : Nat) (p0 : List UInt8) (p1 : Int) (p2 : List UInt8) {β : Type} (k : ((List UInt8)) → Option β) : T48c F p0 p1 p2 k = (T48 F p0 p1 p2).bind k := by
  simp only [T48, T48c, Option.bind_assoc, cond_bind, Option.bind_some, Option.bind_none, elimS_bind]
@[reducible] def cA48 : List Sh := [(.pt 0 []), .str]
@[reducible] def cB48 : List Sh := []
@[reducible] def cT48 : List TSh := [.blk 112 (.pr (.rw 1) (.pr .i .un)), .row 5 .u8]
@[reducible] def cU48 : List TSh := [.blk 112 (.pr (.rw 1) (.pr .i .un)), .row 5 .u8]
def ct48 (F : Nat) : Ct := mkC 1 cA48 cT48 cB48 cU48 (fun x y => T48 F x.2.1 y.1.2.1 y.2.1) (fun x y (z : (List UInt8)) => ((), (((), y.1.2.1, ()), z, ())))
theorem eq48 (F : Nat) (x : dens cA48) (y : tdens cT48) : sev (E48 F) 1 [] (bodyOf Tryd.f48) [] (mkSt (rng 2) cA48 cT48 x y) (kFn (E48 F) 1 Tryd.f48.results.toList cB48 cU48 fun p q => some (p, q)) =
    T48c F x.2.1 y.1.2.1 y.2.1 (fun z => some ((), (((), y.1.2.1, ()), z, ()))) := by kernel_rfl
theorem ok48 (F : Nat) : Sound Tryd.prog cfg 48 (ct48 F) :=
  mkC_ok (E := E48 F) (lp := []) (code := bodyOf Tryd.f48) Tryd.func48 rfl Tryd.ntmps48 rfl rfl cok (cts48 F) mixed trivial (by kernel_rfl) (fun x y k => T48c F x.2.1 y.1.2.1 y.2.1 k) (fun x y k => T48n F x.2.1 y.1.2.1 y.2.1 k) (eq48 F)
end Go.Proofs.YthikoaamigiceaaDoor
/- (*kinkeep/wire.Writer).Bool: its twin, and that the call does what the twin says. Printed by a program. -/
namespace Go.Proofs.YthikoaamigiceaaDoor
open Go.Tw
set_option linter.unusedSimpArgs false
set_option linter.unusedVariables false
def ord49 : Nat → List (Tag × Nat)
  | _ => []
def al49 : Nat → Option Nat
  | _ => none
def ms49 : Nat → Option (List (Option Tag × Nat × List Nat))
  | _ => none
def E49 (F : Nat) : Ev := ⟨cfg, 9, ctOf [(73, ct73x1 F)], ord49, ctOf [], al49, ms49⟩
theorem cts49 (F : Nat) : CtsOk Tryd.prog (E49 F) := cts_of (l := [(73, ct73x1 F)]) (l' := []) rfl rfl ⟨⟨ok73x1 F, _, Tryd.func73, rfl, rfl⟩, trivial⟩ trivial
def T49c (F : Nat) (p0 : Bool) (p1 : Int) (p2 : List UInt8) {β : Type} (k : ((List UInt8)) → Option β) : Option β :=
  (bif p0 then (Option.bind (T73x1 F (UInt64.ofNat 1) p1 p2) fun z3 => (k z3)) else (Option.bind (T73x1 F (UInt64.ofNat 0) p1 p2) fun z4 => (k z4)))
def T49 (F : Nat) (p0 : Bool) (p1 : Int) (p2 : List UInt8) : Option ((List UInt8)) := T49c F p0 p1 p2 some
theorem T49n (F : Nat) (p0 : Bool) (p1 : Int) (p2 : List UInt8) {β : Type} (k : ((List UInt8)) → Option β) : T49c F p0 p1 p2 k = (T49 F p0 p1 p2).bind k := by
  simp only [T49, T49c, Option.bind_assoc, cond_bind, Option.bind_some, Option.bind_none, elimS_bind]
@[reducible] def cA49 : List Sh := [(.pt 0 []), .bo]
@[reducible] def cB49 : List Sh := []
@[reducible] def cT49 : List TSh := [.blk 112 (.pr (.rw 1) (.pr .i .un)), .row 5 .u8]
@[reducible] def cU49 : List TSh := [.blk 112 (.pr (.rw 2) (.pr .i .un)), .no, .row 5 .u8]
def ct49 (F : Nat) : Ct := mkC 2 cA49 cT49 cB49 cU49 (fun x y => T49 F x.2.1 y.1.2.1 y.2.1) (fun x y (z : (List UInt8)) => ((), (((), y.1.2.1, ()), (), z, ())))
theorem eq49 (F : Nat) (x : dens cA49) (y : tdens cT49) : sev (E49 F) 2 [] (bodyOf Tryd.f49) [] (mkSt (rng 2) cA49 cT49 x y) (kFn (E49 F) 2 Tryd.f49.results.toList cB49 cU49 fun p q => some (p, q)) =
    T49c F x.2.1 y.1.2.1 y.2.1 (fun z => some ((), (((), y.1.2.1, ()), (), z, ()))) := by kernel_rfl
theorem ok49 (F : Nat) : Sound Tryd.prog cfg 49 (ct49 F) :=
  mkC_ok (E := E49 F) (lp := []) (code := bodyOf Tryd.f49) Tryd.func49 rfl Tryd.ntmps49 rfl rfl cok (cts49 F) mixed trivial (by kernel_rfl) (fun x y k => T49c F x.2.1 y.1.2.1 y.2.1 k) (fun x y k => T49n F x.2.1 y.1.2.1 y.2.1 k) (eq49 F)
end Go.Proofs.YthikoaamigiceaaDoor
/- kinkeep/keyring.EncodeIndex$2: its twin, and that the call does what the twin says. Printed by a program. -/
namespace Go.Proofs.YthikoaamigiceaaDoor
open Go.Tw
set_option linter.unusedSimpArgs false
set_option linter.unusedVariables false
def ord46 : Nat → List (Tag × Nat)
  | _ => []
def al46 : Nat → Option Nat
  | _ => none
def ms46 : Nat → Option (List (Option Tag × Nat × List Nat))
  | _ => none
def E46 (F : Nat) : Ev := ⟨cfg, 31, ctOf [(41, ct41x1 F), (47, ct47 F), (48, ct48 F), (49, ct49 F)], ord46, ctOf [], al46, ms46⟩
theorem cts46 (F : Nat) : CtsOk Tryd.prog (E46 F) := cts_of (l := [(41, ct41x1 F), (47, ct47 F), (48, ct48 F), (49, ct49 F)]) (l' := []) rfl rfl ⟨⟨ok41x1 F, _, Tryd.func41, rfl, rfl⟩, ⟨⟨ok47 F, _, Tryd.func47, rfl, rfl⟩, ⟨⟨ok48 F, _, Tryd.func48, rfl, rfl⟩, ⟨⟨ok49 F, _, Tryd.func49, rfl, rfl⟩, trivial⟩⟩⟩⟩ trivial
def T46c (F : Nat) (p0 : Int) (p1 : Int) (p2 : Int) (p3 : List UInt8) (p4 : Int) (p5 : Int) (p6 : Int) (p7 : Int) (p8 : List UInt8) (p9 : Bool) (p10 : Int) (p11 : List UInt8) {β : Type} (k : (Int × (List UInt8)) → Option β) : Option β :=
  (Option.bind (T41x1 F ([p0, p1, p2] : List Int) p10 p11) fun z6 => (Option.bind (T47 F p3 p4 p5 p10 z6) fun z7 => (Option.bind (T41x1 F ([p6, p7] : List Int) z7.1 z7.2) fun z8 => (Option.bind (T48 F p8 z7.1 z8) fun z9 => (Option.bind (T49 F p9 z7.1 z9) fun z10 => (k (z7.1, z10)))))))
def T46 (F : Nat) (p0 : Int) (p1 : Int) (p2 : Int) (p3 : List UInt8) (p4 : Int) (p5 : Int) (p6 : Int) (p7 : Int) (p8 : List UInt8) (p9 : Bool) (p10 : Int) (p11 : List UInt8) : Option (Int × (List UInt8)) := T46c F p0 p1 p2 p3 p4 p5 p6 p7 p8 p9 p10 p11 some
theorem T46n (F : Nat) (p0 : Int) (p1 : Int) (p2 : Int) (p3 : List UInt8) (p4 : Int) (p5 : Int) (p6 : Int) (p7 : Int) (p8 : List UInt8) (p9 : Bool) (p10 : Int) (p11 : List UInt8) {β : Type} (k : (Int × (List UInt8)) → Option β) : T46c F p0 p1 p2 p3 p4 p5 p6 p7 p8 p9 p10 p11 k = (T46 F p0 p1 p2 p3 p4 p5 p6 p7 p8 p9 p10 p11).bind k := by
  simp only [T46, T46c, Option.bind_assoc, cond_bind, Option.bind_some, Option.bind_none, elimS_bind]
@[reducible] def cA46 : List Sh := [(.pr .i (.pr .i (.pr .i (.pr (.pr .str (.pr .i (.pr .i .un))) (.pr .i (.pr .i (.pr .str (.pr .bo .un)))))))), (.pt 0 [])]
@[reducible] def cB46 : List Sh := []
@[reducible] def cT46 : List TSh := [.blk 75 (.pt 1 []), .blk 112 (.pr (.rw 2) (.pr .i .un)), .row 5 .u8]
@[reducible] def cU46 : List TSh := [.blk 75 (.pt 1 []), .blk 112 (.pr (.rw 3) (.pr .i .un)), .no, .row 5 .u8]
def ct46 (F : Nat) : Ct := mkC 3 cA46 cT46 cB46 cU46 (fun x y => T46 F x.1.1 x.1.2.1 x.1.2.2.1 x.1.2.2.2.1.1 x.1.2.2.2.1.2.1 x.1.2.2.2.1.2.2.1 x.1.2.2.2.2.1 x.1.2.2.2.2.2.1 x.1.2.2.2.2.2.2.1 x.1.2.2.2.2.2.2.2.1 y.2.1.2.1 y.2.2.1) (fun x y (z : Int × (List UInt8)) => ((), ((), ((), z.1, ()), (), z.2, ())))
theorem eq46 (F : Nat) (x : dens cA46) (y : tdens cT46) : sev (E46 F) 3 [] (bodyOf Tryd.f46) [] (mkSt (rng 2) cA46 cT46 x y) (kFn (E46 F) 3 Tryd.f46.results.toList cB46 cU46 fun p q => some (p, q)) =
    T46c F x.1.1 x.1.2.1 x.1.2.2.1 x.1.2.2.2.1.1 x.1.2.2.2.1.2.1 x.1.2.2.2.1.2.2.1 x.1.2.2.2.2.1 x.1.2.2.2.2.2.1 x.1.2.2.2.2.2.2.1 x.1.2.2.2.2.2.2.2.1 y.2.1.2.1 y.2.2.1 (fun z => some ((), ((), ((), z.1, ()), (), z.2, ()))) := by kernel_rfl
theorem ok46 (F : Nat) : Sound Tryd.prog cfg 46 (ct46 F) :=
  mkC_ok (E := E46 F) (lp := []) (code := bodyOf Tryd.f46) Tryd.func46 rfl Tryd.ntmps46 rfl rfl cok (cts46 F) mixed trivial (by kernel_rfl) (fun x y k => T46c F x.1.1 x.1.2.1 x.1.2.2.1 x.1.2.2.2.1.1 x.1.2.2.2.1.2.1 x.1.2.2.2.1.2.2.1 x.1.2.2.2.2.1 x.1.2.2.2.2.2.1 x.1.2.2.2.2.2.2.1 x.1.2.2.2.2.2.2.2.1 y.2.1.2.1 y.2.2.1 k) (fun x y k => T46n F x.1.1 x.1.2.1 x.1.2.2.1 x.1.2.2.2.1.1 x.1.2.2.2.1.2.1 x.1.2.2.2.1.2.2.1 x.1.2.2.2.2.1 x.1.2.2.2.2.2.1 x.1.2.2.2.2.2.2.1 x.1.2.2.2.2.2.2.2.1 y.2.1.2.1 y.2.2.1 k) (eq46 F)
end Go.Proofs.YthikoaamigiceaaDoor
/- kinkeep/keyring.writeList[kinkeep/api.Snapshot]: its twin, and that the call does what the twin says. Printed by a program. -/
namespace Go.Proofs.YthikoaamigiceaaDoor
open Go.Tw
set_option linter.unusedSimpArgs false
set_option linter.unusedVariables false
def ord45 : Nat → List (Tag × Nat)
  | _ => []
def al45 : Nat → Option Nat
  | _ => none
def ms45 : Nat → Option (List (Option Tag × Nat × List Nat))
  | _ => none
def E45 (F : Nat) : Ev := ⟨cfg, 22, ctOf [(72, ct72 F), (46, ct46 F)], ord45, ctOf [], al45, ms45⟩
theorem cts45 (F : Nat) : CtsOk Tryd.prog (E45 F) := cts_of (l := [(72, ct72 F), (46, ct46 F)]) (l' := []) rfl rfl ⟨⟨ok72 F, _, Tryd.func72, rfl, rfl⟩, ⟨⟨ok46 F, _, Tryd.func46, rfl, rfl⟩, trivial⟩⟩ trivial
def L45_2c (F : Nat) (y13 : List (Int × Int × Int × ((List UInt8) × Int × Int × Unit) × Int × Int × (List UInt8) × Bool × Unit)) (y14 : Int) (y15 : Int) (y16 : Int) (y17 : List UInt8) {β : Type} (kA : (Int × Int × (List UInt8)) → Option β) (kO : (Int × (List UInt8)) → Option β) : Option β :=
  (bif (decide (y15 < y14)) then (Option.bind (ix y13 y15) fun x20 => (Option.bind (T46 F x20.1 x20.2.1 x20.2.2.1 x20.2.2.2.1.1 x20.2.2.2.1.2.1 x20.2.2.2.1.2.2.1 x20.2.2.2.2.1 x20.2.2.2.2.2.1 x20.2.2.2.2.2.2.1 x20.2.2.2.2.2.2.2.1 y16 y17) fun z21 => (kA ((w64 (y15 + (1 : Int))), z21.1, z21.2)))) else (kO (y16, y17)))
def L45_2 (F : Nat) (y13 : List (Int × Int × Int × ((List UInt8) × Int × Int × Unit) × Int × Int × (List UInt8) × Bool × Unit)) (y14 : Int) (y15 : Int) (y16 : Int) (y17 : List UInt8) : Option ((Int × Int × (List UInt8)) ⊕ (Int × (List UInt8))) := L45_2c F y13 y14 y15 y16 y17 (fun s => some (.inl s)) (fun z => some (.inr z))
theorem L45_2n (F : Nat) (y13 : List (Int × Int × Int × ((List UInt8) × Int × Int × Unit) × Int × Int × (List UInt8) × Bool × Unit)) (y14 : Int) (y15 : Int) (y16 : Int) (y17 : List UInt8) {β : Type} (kA : (Int × Int × (List UInt8)) → Option β) (kO : (Int × (List UInt8)) → Option β) : L45_2c F y13 y14 y15 y16 y17 kA kO = (L45_2 F y13 y14 y15 y16 y17).bind (elimS kA kO) := by
  simp only [L45_2, L45_2c, Option.bind_assoc, cond_bind, Option.bind_some, Option.bind_none, elimS_l, elimS_r, elimS_bind]
@[reducible] def sA45_2 : List Sh := [(.fn 46 .un (.pr (.pt 1 []) .un)), (.ro (.pr .i (.pr .i (.pr .i (.pr (.pr .s (.pr .i (.pr .i .un))) (.pr .i (.pr .i (.pr .s (.pr .bo .un))))))))), .i, .i]
@[reducible] def sAp145_2 : List Sh := []
@[reducible] def sT45_2 : List TSh := [.blk 112 (.pr (.rw 3) (.pr .i .un)), .blk 75 (.pt 0 []), .no, .row 5 .u8]
@[reducible] def sTp145_2 : List TSh := [.blk 112 (.pr (.rw 3) (.pr .i .un)), .blk 75 (.pt 0 []), .no, .row 5 .u8]
def lc45_2 (F : Nat) : Lc := mkL [2, 12, 13, 14] sA45_2 sT45_2 [] sAp145_2 sTp145_2 F (fun x y (s : Int × Int × (List UInt8)) => L45_2 F x.2.1 x.2.2.1 s.1 s.2.1 s.2.2) (fun x y => (x.2.2.2.1, y.1.2.1, y.2.2.2.1)) (fun x y (z : Int × (List UInt8)) => ((), (((), z.1, ()), (), (), z.2, ())))
theorem le45_2 (F : Nat) (x : dens sA45_2) (y : tdens sT45_2) (s : Int × Int × (List UInt8)) : sev (E45 F) 3 [] (cAt (bodyOf Tryd.f45) (0 :: 0 :: [1, 1])) (0 :: 0 :: [1, 1]) (mkSt [2, 12, 13, 14] sA45_2 sT45_2 (((), ((), ())), x.2.1, x.2.2.1, s.1, ()) (((), s.2.1, ()), (), (), s.2.2, ())) (kLoop 3 [2, 12, 13, 14] sA45_2 sT45_2 [] sAp145_2 sTp145_2 [] [] [] 0 (fun x y => some (.inl (x, y))) (fun x y => some (.inr (.inl (x, y)))) (fun x y => some (.inr (.inr (x, y))))) =
    L45_2c (β := Full sA45_2 sT45_2 sAp145_2 sTp145_2 [] []) F x.2.1 x.2.2.1 s.1 s.2.1 s.2.2 (fun s => some (.inl ((((), ((), ())), x.2.1, x.2.2.1, s.1, ()), (((), s.2.1, ()), (), (), s.2.2, ())))) (fun z => some (.inr (.inl ((), (((), z.1, ()), (), (), z.2, ()))))) := by kernel_rfl
theorem lo45_2 (F : Nat) : LcOk Tryd.prog (E45 F) 3 (lc45_2 F) (cAt (bodyOf Tryd.f45) [1, 1]) :=
  mkL_ok (lp := []) (id := 0) (b := cAt (bodyOf Tryd.f45) (0 :: 0 :: [1, 1])) cok (cts45 F) mixed trivial (by kernel_rfl) (by kernel_rfl) (fun x y s => (((), ((), ())), x.2.1, x.2.2.1, s.1, ())) (fun x y s => (((), s.2.1, ()), (), (), s.2.2, ())) (fun x y => rfl) (fun x y => rfl) (fun x y s kA kO => L45_2c F x.2.1 x.2.2.1 s.1 s.2.1 s.2.2 kA kO) (fun x y s kA kO => L45_2n F x.2.1 x.2.2.1 s.1 s.2.1 s.2.2 kA kO) (le45_2 F)
def T45c (F : Nat) (p0 : List (Int × Int × Int × ((List UInt8) × Int × Int × Unit) × Int × Int × (List UInt8) × Bool × Unit)) (p1 : Int) (p2 : List UInt8) {β : Type} (k : (Int × (List UInt8)) → Option β) : Option β :=
  (Option.bind (T72 F (p0.length : Int) p1 p2) fun z12 => (Option.bind (iter (fun s => L45_2 F p0 (p0.length : Int) s.1 s.2.1 s.2.2) F ((0 : Int), z12.1, z12.2)) fun z22 => (k (z22.1, z22.2))))
def T45 (F : Nat) (p0 : List (Int × Int × Int × ((List UInt8) × Int × Int × Unit) × Int × Int × (List UInt8) × Bool × Unit)) (p1 : Int) (p2 : List UInt8) : Option (Int × (List UInt8)) := T45c F p0 p1 p2 some
theorem T45n (F : Nat) (p0 : List (Int × Int × Int × ((List UInt8) × Int × Int × Unit) × Int × Int × (List UInt8) × Bool × Unit)) (p1 : Int) (p2 : List UInt8) {β : Type} (k : (Int × (List UInt8)) → Option β) : T45c F p0 p1 p2 k = (T45 F p0 p1 p2).bind k := by
  simp only [T45, T45c, Option.bind_assoc, cond_bind, Option.bind_some, Option.bind_none, elimS_bind]
@[reducible] def cA45 : List Sh := [(.pt 0 []), (.ro (.pr .i (.pr .i (.pr .i (.pr (.pr .s (.pr .i (.pr .i .un))) (.pr .i (.pr .i (.pr .s (.pr .bo .un))))))))), (.fn 46 .un (.pr (.pt 1 []) .un))]
@[reducible] def cB45 : List Sh := []
@[reducible] def cT45 : List TSh := [.blk 112 (.pr (.rw 2) (.pr .i .un)), .blk 75 (.pt 0 []), .row 5 .u8]
@[reducible] def cU45 : List TSh := [.blk 112 (.pr (.rw 3) (.pr .i .un)), .blk 75 (.pt 0 []), .no, .row 5 .u8]
def ct45 (F : Nat) : Ct := mkC 3 cA45 cT45 cB45 cU45 (fun x y => T45 F x.2.1 y.1.2.1 y.2.2.1) (fun x y (z : Int × (List UInt8)) => ((), (((), z.1, ()), (), (), z.2, ())))
theorem eq45 (F : Nat) (x : dens cA45) (y : tdens cT45) : sev (E45 F) 3 [([1, 1], lc45_2 F)] (bodyOf Tryd.f45) [] (mkSt (rng 3) cA45 cT45 x y) (kFn (E45 F) 3 Tryd.f45.results.toList cB45 cU45 fun p q => some (p, q)) =
    T45c F x.2.1 y.1.2.1 y.2.2.1 (fun z => some ((), (((), z.1, ()), (), (), z.2, ()))) := by kernel_rfl
theorem ok45 (F : Nat) : Sound Tryd.prog cfg 45 (ct45 F) :=
  mkC_ok (E := E45 F) (lp := [([1, 1], lc45_2 F)]) (code := bodyOf Tryd.f45) Tryd.func45 rfl Tryd.ntmps45 rfl rfl cok (cts45 F) mixed ⟨lo45_2 F, trivial⟩ (by kernel_rfl) (fun x y k => T45c F x.2.1 y.1.2.1 y.2.2.1 k) (fun x y k => T45n F x.2.1 y.1.2.1 y.2.2.1 k) (eq45 F)
end Go.Proofs.YthikoaamigiceaaDoor
/- kinkeep/keyring.EncodeIndex$3: its twin, and that the call does what the twin says. Printed by a program. -/
namespace Go.Proofs.YthikoaamigiceaaDoor
open Go.Tw
set_option linter.unusedSimpArgs false
set_option linter.unusedVariables false
def ord50 : Nat → List (Tag × Nat)
  | _ => []
def al50 : Nat → Option Nat
  | _ => none
def ms50 : Nat → Option (List (Option Tag × Nat × List Nat))
  | _ => none
def E50 (F : Nat) : Ev := ⟨cfg, 6, ctOf [(47, ct47 F)], ord50, ctOf [], al50, ms50⟩
theorem cts50 (F : Nat) : CtsOk Tryd.prog (E50 F) := cts_of (l := [(47, ct47 F)]) (l' := []) rfl rfl ⟨⟨ok47 F, _, Tryd.func47, rfl, rfl⟩, trivial⟩ trivial
def T50c (F : Nat) (p0 : List UInt8) (p1 : Int) (p2 : Int) (p3 : Int) (p4 : List UInt8) {β : Type} (k : (Int × (List UInt8)) → Option β) : Option β :=
  (Option.bind (T47 F p0 p1 p2 p3 p4) fun z2 => (k (z2.1, z2.2)))
def T50 (F : Nat) (p0 : List UInt8) (p1 : Int) (p2 : Int) (p3 : Int) (p4 : List UInt8) : Option (Int × (List UInt8)) := T50c F p0 p1 p2 p3 p4 some
theorem T50n (F : Nat) (p0 : List UInt8) (p1 : Int) (p2 : Int) (p3 : Int) (p4 : List UInt8) {β : Type} (k : (Int × (List UInt8)) → Option β) : T50c F p0 p1 p2 p3 p4 k = (T50 F p0 p1 p2 p3 p4).bind k := by
  simp only [T50, T50c, Option.bind_assoc, cond_bind, Option.bind_some, Option.bind_none, elimS_bind]
@[reducible] def cA50 : List Sh := [(.pr .str (.pr .i (.pr .i .un))), (.pt 0 [])]
@[reducible] def cB50 : List Sh := []
@[reducible] def cT50 : List TSh := [.blk 75 (.pt 1 []), .blk 112 (.pr (.rw 2) (.pr .i .un)), .row 5 .u8]
@[reducible] def cU50 : List TSh := [.blk 75 (.pt 1 []), .blk 112 (.pr (.rw 3) (.pr .i .un)), .no, .row 5 .u8]
def ct50 (F : Nat) : Ct := mkC 3 cA50 cT50 cB50 cU50 (fun x y => T50 F x.1.1 x.1.2.1 x.1.2.2.1 y.2.1.2.1 y.2.2.1) (fun x y (z : Int × (List UInt8)) => ((), ((), ((), z.1, ()), (), z.2, ())))
theorem eq50 (F : Nat) (x : dens cA50) (y : tdens cT50) : sev (E50 F) 3 [] (bodyOf Tryd.f50) [] (mkSt (rng 2) cA50 cT50 x y) (kFn (E50 F) 3 Tryd.f50.results.toList cB50 cU50 fun p q => some (p, q)) =
    T50c F x.1.1 x.1.2.1 x.1.2.2.1 y.2.1.2.1 y.2.2.1 (fun z => some ((), ((), ((), z.1, ()), (), z.2, ()))) := by kernel_rfl
theorem ok50 (F : Nat) : Sound Tryd.prog cfg 50 (ct50 F) :=
  mkC_ok (E := E50 F) (lp := []) (code := bodyOf Tryd.f50) Tryd.func50 rfl Tryd.ntmps50 rfl rfl cok (cts50 F) mixed trivial (by kernel_rfl) (fun x y k => T50c F x.1.1 x.1.2.1 x.1.2.2.1 y.2.1.2.1 y.2.2.1 k) (fun x y k => T50n F x.1.1 x.1.2.1 x.1.2.2.1 y.2.1.2.1 y.2.2.1 k) (eq50 F)
end Go.Proofs.YthikoaamigiceaaDoor
/- kinkeep/keyring.writeList[kinkeep/api.Ref]: its twin, and that the call does what the twin says. Printed by a program. -/
namespace Go.Proofs.YthikoaamigiceaaDoor
open Go.Tw
set_option linter.unusedSimpArgs false
set_option linter.unusedVariables false
def ord54 : Nat → List (Tag × Nat)
  | _ => []
def al54 : Nat → Option Nat
  | _ => none
def ms54 : Nat → Option (List (Option Tag × Nat × List Nat))
  | _ => none
def E54 (F : Nat) : Ev := ⟨cfg, 22, ctOf [(72, ct72 F), (50, ct50 F)], ord54, ctOf [], al54, ms54⟩
theorem cts54 (F : Nat) : CtsOk Tryd.prog (E54 F) := cts_of (l := [(72, ct72 F), (50, ct50 F)]) (l' := []) rfl rfl ⟨⟨ok72 F, _, Tryd.func72, rfl, rfl⟩, ⟨⟨ok50 F, _, Tryd.func50, rfl, rfl⟩, trivial⟩⟩ trivial
def L54_2c (F : Nat) (y13 : List ((List UInt8) × Int × Int × Unit)) (y14 : Int) (y15 : Int) (y16 : Int) (y17 : List UInt8) {β : Type} (kA : (Int × Int × (List UInt8)) → Option β) (kO : (Int × (List UInt8)) → Option β) : Option β :=
  (bif (decide (y15 < y14)) then (Option.bind (ix y13 y15) fun x20 => (Option.bind (T50 F x20.1 x20.2.1 x20.2.2.1 y16 y17) fun z21 => (kA ((w64 (y15 + (1 : Int))), z21.1, z21.2)))) else (kO (y16, y17)))
def L54_2 (F : Nat) (y13 : List ((List UInt8) × Int × Int × Unit)) (y14 : Int) (y15 : Int) (y16 : Int) (y17 : List UInt8) : Option ((Int × Int × (List UInt8)) ⊕ (Int × (List UInt8))) := L54_2c F y13 y14 y15 y16 y17 (fun s => some (.inl s)) (fun z => some (.inr z))
theorem L54_2n (F : Nat) (y13 : List ((List UInt8) × Int × Int × Unit)) (y14 : Int) (y15 : Int) (y16 : Int) (y17 : List UInt8) {β : Type} (kA : (Int × Int × (List UInt8)) → Option β) (kO : (Int × (List UInt8)) → Option β) : L54_2c F y13 y14 y15 y16 y17 kA kO = (L54_2 F y13 y14 y15 y16 y17).bind (elimS kA kO) := by
  simp only [L54_2, L54_2c, Option.bind_assoc, cond_bind, Option.bind_some, Option.bind_none, elimS_l, elimS_r, elimS_bind]
@[reducible] def sA54_2 : List Sh := [(.fn 50 .un (.pr (.pt 1 []) .un)), (.ro (.pr .s (.pr .i (.pr .i .un)))), .i, .i]
@[reducible] def sAp154_2 : List Sh := []
@[reducible] def sT54_2 : List TSh := [.blk 112 (.pr (.rw 3) (.pr .i .un)), .blk 75 (.pt 0 []), .no, .row 5 .u8]
@[reducible] def sTp154_2 : List TSh := [.blk 112 (.pr (.rw 3) (.pr .i .un)), .blk 75 (.pt 0 []), .no, .row 5 .u8]
def lc54_2 (F : Nat) : Lc := mkL [2, 12, 13, 14] sA54_2 sT54_2 [] sAp154_2 sTp154_2 F (fun x y (s : Int × Int × (List UInt8)) => L54_2 F x.2.1 x.2.2.1 s.1 s.2.1 s.2.2) (fun x y => (x.2.2.2.1, y.1.2.1, y.2.2.2.1)) (fun x y (z : Int × (List UInt8)) => ((), (((), z.1, ()), (), (), z.2, ())))
theorem le54_2 (F : Nat) (x : dens sA54_2) (y : tdens sT54_2) (s : Int × Int × (List UInt8)) : sev (E54 F) 3 [] (cAt (bodyOf Tryd.f54) (0 :: 0 :: [1, 1])) (0 :: 0 :: [1, 1]) (mkSt [2, 12, 13, 14] sA54_2 sT54_2 (((), ((), ())), x.2.1, x.2.2.1, s.1, ()) (((), s.2.1, ()), (), (), s.2.2, ())) (kLoop 3 [2, 12, 13, 14] sA54_2 sT54_2 [] sAp154_2 sTp154_2 [] [] [] 0 (fun x y => some (.inl (x, y))) (fun x y => some (.inr (.inl (x, y)))) (fun x y => some (.inr (.inr (x, y))))) =
    L54_2c (β := Full sA54_2 sT54_2 sAp154_2 sTp154_2 [] []) F x.2.1 x.2.2.1 s.1 s.2.1 s.2.2 (fun s => some (.inl ((((), ((), ())), x.2.1, x.2.2.1, s.1, ()), (((), s.2.1, ()), (), (), s.2.2, ())))) (fun z => some (.inr (.inl ((), (((), z.1, ()), (), (), z.2, ()))))) := by kernel_rfl
theorem lo54_2 (F : Nat) : LcOk Tryd.prog (E54 F) 3 (lc54_2 F) (cAt (bodyOf Tryd.f54) [1, 1]) :=
  mkL_ok (lp := []) (id := 0) (b := cAt (bodyOf Tryd.f54) (0 :: 0 :: [1, 1])) cok (cts54 F) mixed trivial (by kernel_rfl) (by kernel_rfl) (fun x y s => (((), ((), ())), x.2.1, x.2.2.1, s.1, ())) (fun x y s => (((), s.2.1, ()), (), (), s.2.2, ())) (fun x y => rfl) (fun x y => rfl) (fun x y s kA kO => L54_2c F x.2.1 x.2.2.1 s.1 s.2.1 s.2.2 kA kO) (fun x y s kA kO => L54_2n F x.2.1 x.2.2.1 s.1 s.2.1 s.2.2 kA kO) (le54_2 F)
def T54c (F : Nat) (p0 : List ((List UInt8) × Int × Int × Unit)) (p1 : Int) (p2 : List UInt8) {β : Type} (k : (Int × (List UInt8)) → Option β) : Option β :=
  (Option.bind (T72 F (p0.length : Int) p1 p2) fun z12 => (Option.bind (iter (fun s => L54_2 F p0 (p0.length : Int) s.1 s.2.1 s.2.2) F ((0 : Int), z12.1, z12.2)) fun z22 => (k (z22.1, z22.2))))
def T54 (F : Nat) (p0 : List ((List UInt8) × Int × Int × Unit)) (p1 : Int) (p2 : List UInt8) : Option (Int × (List UInt8)) := T54c F p0 p1 p2 some
theorem T54n (F : Nat) (p0 : List ((List UInt8) × Int × Int × Unit)) (p1 : Int) (p2 : List UInt8) {β : Type} (k : (Int × (List UInt8)) → Option β) : T54c F p0 p1 p2 k = (T54 F p0 p1 p2).bind k := by
  simp only [T54, T54c, Option.bind_assoc, cond_bind, Option.bind_some, Option.bind_none, elimS_bind]
@[reducible] def cA54 : List Sh := [(.pt 0 []), (.ro (.pr .s (.pr .i (.pr .i .un)))), (.fn 50 .un (.pr (.pt 1 []) .un))]
@[reducible] def cB54 : List Sh := []
@[reducible] def cT54 : List TSh := [.blk 112 (.pr (.rw 2) (.pr .i .un)), .blk 75 (.pt 0 []), .row 5 .u8]
@[reducible] def cU54 : List TSh := [.blk 112 (.pr (.rw 3) (.pr .i .un)), .blk 75 (.pt 0 []), .no, .row 5 .u8]
def ct54 (F : Nat) : Ct := mkC 3 cA54 cT54 cB54 cU54 (fun x y => T54 F x.2.1 y.1.2.1 y.2.2.1) (fun x y (z : Int × (List UInt8)) => ((), (((), z.1, ()), (), (), z.2, ())))
theorem eq54 (F : Nat) (x : dens cA54) (y : tdens cT54) : sev (E54 F) 3 [([1, 1], lc54_2 F)] (bodyOf Tryd.f54) [] (mkSt (rng 3) cA54 cT54 x y) (kFn (E54 F) 3 Tryd.f54.results.toList cB54 cU54 fun p q => some (p, q)) =
    T54c F x.2.1 y.1.2.1 y.2.2.1 (fun z => some ((), (((), z.1, ()), (), (), z.2, ()))) := by kernel_rfl
theorem ok54 (F : Nat) : Sound Tryd.prog cfg 54 (ct54 F) :=
  mkC_ok (E := E54 F) (lp := [([1, 1], lc54_2 F)]) (code := bodyOf Tryd.f54) Tryd.func54 rfl Tryd.ntmps54 rfl rfl cok (cts54 F) mixed ⟨lo54_2 F, trivial⟩ (by kernel_rfl) (fun x y k => T54c F x.2.1 y.1.2.1 y.2.2.1 k) (fun x y k => T54n F x.2.1 y.1.2.1 y.2.2.1 k) (eq54 F)
end Go.Proofs.YthikoaamigiceaaDoor
/- kinkeep/keyring.EncodeIndex$4: its twin, and that the call does what the twin says. Printed by a program. -/
namespace Go.Proofs.YthikoaamigiceaaDoor
open Go.Tw
set_option linter.unusedSimpArgs false
set_option linter.unusedVariables false
def ord52 : Nat → List (Tag × Nat)
  | _ => []
def al52 : Nat → Option Nat
  | _ => none
def ms52 : Nat → Option (List (Option Tag × Nat × List Nat))
  | _ => none
def E52 (F : Nat) : Ev := ⟨cfg, 24, ctOf [(53, ct53 F), (41, ct41x1 F), (54, ct54 F)], ord52, ctOf [], al52, ms52⟩
theorem cts52 (F : Nat) : CtsOk Tryd.prog (E52 F) := cts_of (l := [(53, ct53 F), (41, ct41x1 F), (54, ct54 F)]) (l' := []) rfl rfl ⟨⟨ok53 F, _, Tryd.func53, rfl, rfl⟩, ⟨⟨ok41x1 F, _, Tryd.func41, rfl, rfl⟩, ⟨⟨ok54 F, _, Tryd.func54, rfl, rfl⟩, trivial⟩⟩⟩ trivial
def T52c (F : Nat) (p0 : List UInt8) (p1 : Int) (p2 : Int) (p3 : Int) (p4 : Int) (p5 : List ((List UInt8) × Int × Int × Unit)) (p6 : Int) (p7 : List UInt8) {β : Type} (k : (Int × (List UInt8)) → Option β) : Option β :=
  (Option.bind (T53 F p0 p6 p7) fun z4 => (Option.bind (T41x1 F ([p1, p2, p3, p4] : List Int) z4.1 z4.2) fun z5 => (Option.bind (T54 F p5 z4.1 z5) fun z6 => (k (z6.1, z6.2)))))
def T52 (F : Nat) (p0 : List UInt8) (p1 : Int) (p2 : Int) (p3 : Int) (p4 : Int) (p5 : List ((List UInt8) × Int × Int × Unit)) (p6 : Int) (p7 : List UInt8) : Option (Int × (List UInt8)) := T52c F p0 p1 p2 p3 p4 p5 p6 p7 some
theorem T52n (F : Nat) (p0 : List UInt8) (p1 : Int) (p2 : Int) (p3 : Int) (p4 : Int) (p5 : List ((List UInt8) × Int × Int × Unit)) (p6 : Int) (p7 : List UInt8) {β : Type} (k : (Int × (List UInt8)) → Option β) : T52c F p0 p1 p2 p3 p4 p5 p6 p7 k = (T52 F p0 p1 p2 p3 p4 p5 p6 p7).bind k := by
  simp only [T52, T52c, Option.bind_assoc, cond_bind, Option.bind_some, Option.bind_none, elimS_bind]
@[reducible] def cA52 : List Sh := [(.pr .str (.pr .i (.pr .i (.pr .i (.pr .i (.pr (.ro (.pr .s (.pr .i (.pr .i .un)))) .un)))))), (.pt 0 []), (.pt 1 [])]
@[reducible] def cB52 : List Sh := []
@[reducible] def cT52 : List TSh := [.blk 75 (.pt 2 []), .blk 89 (.fn 50 .un (.pr (.pt 0 []) .un)), .blk 112 (.pr (.rw 3) (.pr .i .un)), .row 5 .u8]
@[reducible] def cU52 : List TSh := [.blk 75 (.pt 2 []), .blk 89 (.fn 50 .un (.pr (.pt 0 []) .un)), .blk 112 (.pr (.rw 4) (.pr .i .un)), .no, .row 5 .u8]
def ct52 (F : Nat) : Ct := mkC 4 cA52 cT52 cB52 cU52 (fun x y => T52 F x.1.1 x.1.2.1 x.1.2.2.1 x.1.2.2.2.1 x.1.2.2.2.2.1 x.1.2.2.2.2.2.1 y.2.2.1.2.1 y.2.2.2.1) (fun x y (z : Int × (List UInt8)) => ((), ((), ((), ((), ())), ((), z.1, ()), (), z.2, ())))
theorem eq52 (F : Nat) (x : dens cA52) (y : tdens cT52) : sev (E52 F) 4 [] (bodyOf Tryd.f52) [] (mkSt (rng 3) cA52 cT52 x y) (kFn (E52 F) 4 Tryd.f52.results.toList cB52 cU52 fun p q => some (p, q)) =
    T52c F x.1.1 x.1.2.1 x.1.2.2.1 x.1.2.2.2.1 x.1.2.2.2.2.1 x.1.2.2.2.2.2.1 y.2.2.1.2.1 y.2.2.2.1 (fun z => some ((), ((), ((), ((), ())), ((), z.1, ()), (), z.2, ()))) := by kernel_rfl
theorem ok52 (F : Nat) : Sound Tryd.prog cfg 52 (ct52 F) :=
  mkC_ok (E := E52 F) (lp := []) (code := bodyOf Tryd.f52) Tryd.func52 rfl Tryd.ntmps52 rfl rfl cok (cts52 F) mixed trivial (by kernel_rfl) (fun x y k => T52c F x.1.1 x.1.2.1 x.1.2.2.1 x.1.2.2.2.1 x.1.2.2.2.2.1 x.1.2.2.2.2.2.1 y.2.2.1.2.1 y.2.2.2.1 k) (fun x y k => T52n F x.1.1 x.1.2.1 x.1.2.2.1 x.1.2.2.2.1 x.1.2.2.2.2.1 x.1.2.2.2.2.2.1 y.2.2.1.2.1 y.2.2.2.1 k) (eq52 F)
end Go.Proofs.YthikoaamigiceaaDoor
/- kinkeep/keyring.writeList[kinkeep/api.Stripe]: its twin, and that the call does what the twin says. Printed by a program. -/
namespace Go.Proofs.YthikoaamigiceaaDoor
open Go.Tw
set_option linter.unusedSimpArgs false
set_option linter.unusedVariables false
def ord51 : Nat → List (Tag × Nat)
  | _ => []
def al51 : Nat → Option Nat
  | _ => none
def ms51 : Nat → Option (List (Option Tag × Nat × List Nat))
  | _ => none
def E51 (F : Nat) : Ev := ⟨cfg, 22, ctOf [(72, ct72 F), (52, ct52 F)], ord51, ctOf [], al51, ms51⟩
theorem cts51 (F : Nat) : CtsOk Tryd.prog (E51 F) := cts_of (l := [(72, ct72 F), (52, ct52 F)]) (l' := []) rfl rfl ⟨⟨ok72 F, _, Tryd.func72, rfl, rfl⟩, ⟨⟨ok52 F, _, Tryd.func52, rfl, rfl⟩, trivial⟩⟩ trivial
def L51_2c (F : Nat) (y13 : List ((List UInt8) × Int × Int × Int × Int × (List ((List UInt8) × Int × Int × Unit)) × Unit)) (y14 : Int) (y15 : Int) (y16 : Int) (y17 : List UInt8) {β : Type} (kA : (Int × Int × (List UInt8)) → Option β) (kO : (Int × (List UInt8)) → Option β) : Option β :=
  (bif (decide (y15 < y14)) then (Option.bind (ix y13 y15) fun x20 => (Option.bind (T52 F x20.1 x20.2.1 x20.2.2.1 x20.2.2.2.1 x20.2.2.2.2.1 x20.2.2.2.2.2.1 y16 y17) fun z21 => (kA ((w64 (y15 + (1 : Int))), z21.1, z21.2)))) else (kO (y16, y17)))
def L51_2 (F : Nat) (y13 : List ((List UInt8) × Int × Int × Int × Int × (List ((List UInt8) × Int × Int × Unit)) × Unit)) (y14 : Int) (y15 : Int) (y16 : Int) (y17 : List UInt8) : Option ((Int × Int × (List UInt8)) ⊕ (Int × (List UInt8))) := L51_2c F y13 y14 y15 y16 y17 (fun s => some (.inl s)) (fun z => some (.inr z))
theorem L51_2n (F : Nat) (y13 : List ((List UInt8) × Int × Int × Int × Int × (List ((List UInt8) × Int × Int × Unit)) × Unit)) (y14 : Int) (y15 : Int) (y16 : Int) (y17 : List UInt8) {β : Type} (kA : (Int × Int × (List UInt8)) → Option β) (kO : (Int × (List UInt8)) → Option β) : L51_2c F y13 y14 y15 y16 y17 kA kO = (L51_2 F y13 y14 y15 y16 y17).bind (elimS kA kO) := by
  simp only [L51_2, L51_2c, Option.bind_assoc, cond_bind, Option.bind_some, Option.bind_none, elimS_l, elimS_r, elimS_bind]
@[reducible] def sA51_2 : List Sh := [(.fn 52 .un (.pr (.pt 1 []) (.pr (.pt 2 []) .un))), (.ro (.pr .s (.pr .i (.pr .i (.pr .i (.pr .i (.pr (.sl (.pr .s (.pr .i (.pr .i .un)))) .un))))))), .i, .i]
@[reducible] def sAp151_2 : List Sh := []
@[reducible] def sT51_2 : List TSh := [.blk 112 (.pr (.rw 4) (.pr .i .un)), .blk 75 (.pt 0 []), .blk 89 (.fn 50 .un (.pr (.pt 1 []) .un)), .no, .row 5 .u8]
@[reducible] def sTp151_2 : List TSh := [.blk 112 (.pr (.rw 4) (.pr .i .un)), .blk 75 (.pt 0 []), .blk 89 (.fn 50 .un (.pr (.pt 1 []) .un)), .no, .row 5 .u8]
def lc51_2 (F : Nat) : Lc := mkL [2, 12, 13, 14] sA51_2 sT51_2 [] sAp151_2 sTp151_2 F (fun x y (s : Int × Int × (List UInt8)) => L51_2 F x.2.1 x.2.2.1 s.1 s.2.1 s.2.2) (fun x y => (x.2.2.2.1, y.1.2.1, y.2.2.2.2.1)) (fun x y (z : Int × (List UInt8)) => ((), (((), z.1, ()), (), ((), ((), ())), (), z.2, ())))
theorem le51_2 (F : Nat) (x : dens sA51_2) (y : tdens sT51_2) (s : Int × Int × (List UInt8)) : sev (E51 F) 4 [] (cAt (bodyOf Tryd.f51) (0 :: 0 :: [1, 1])) (0 :: 0 :: [1, 1]) (mkSt [2, 12, 13, 14] sA51_2 sT51_2 (((), ((), (), ())), x.2.1, x.2.2.1, s.1, ()) (((), s.2.1, ()), (), ((), ((), ())), (), s.2.2, ())) (kLoop 4 [2, 12, 13, 14] sA51_2 sT51_2 [] sAp151_2 sTp151_2 [] [] [] 0 (fun x y => some (.inl (x, y))) (fun x y => some (.inr (.inl (x, y)))) (fun x y => some (.inr (.inr (x, y))))) =
    L51_2c (β := Full sA51_2 sT51_2 sAp151_2 sTp151_2 [] []) F x.2.1 x.2.2.1 s.1 s.2.1 s.2.2 (fun s => some (.inl ((((), ((), (), ())), x.2.1, x.2.2.1, s.1, ()), (((), s.2.1, ()), (), ((), ((), ())), (), s.2.2, ())))) (fun z => some (.inr (.inl ((), (((), z.1, ()), (), ((), ((), ())), (), z.2, ()))))) := by kernel_rfl
theorem lo51_2 (F : Nat) : LcOk Tryd.prog (E51 F) 4 (lc51_2 F) (cAt (bodyOf Tryd.f51) [1, 1]) :=
  mkL_ok (lp := []) (id := 0) (b := cAt (bodyOf Tryd.f51) (0 :: 0 :: [1, 1])) cok (cts51 F) mixed trivial (by kernel_rfl) (by kernel_rfl) (fun x y s => (((), ((), (), ())), x.2.1, x.2.2.1, s.1, ())) (fun x y s => (((), s.2.1, ()), (), ((), ((), ())), (), s.2.2, ())) (fun x y => rfl) (fun x y => rfl) (fun x y s kA kO => L51_2c F x.2.1 x.2.2.1 s.1 s.2.1 s.2.2 kA kO) (fun x y s kA kO => L51_2n F x.2.1 x.2.2.1 s.1 s.2.1 s.2.2 kA kO) (le51_2 F)
def T51c (F : Nat) (p0 : List ((List UInt8) × Int × Int × Int × Int × (List ((List UInt8) × Int × Int × Unit)) × Unit)) (p1 : Int) (p2 : List UInt8) {β : Type} (k : (Int × (List UInt8)) → Option β) : Option β :=
  (Option.bind (T72 F (p0.length : Int) p1 p2) fun z12 => (Option.bind (iter (fun s => L51_2 F p0 (p0.length : Int) s.1 s.2.1 s.2.2) F ((0 : Int), z12.1, z12.2)) fun z22 => (k (z22.1, z22.2))))
def T51 (F : Nat) (p0 : List ((List UInt8) × Int × Int × Int × Int × (List ((List UInt8) × Int × Int × Unit)) × Unit)) (p1 : Int) (p2 : List UInt8) : Option (Int × (List UInt8)) := T51c F p0 p1 p2 some
theorem T51n (F : Nat) (p0 : List ((List UInt8) × Int × Int × Int × Int × (List ((List UInt8) × Int × Int × Unit)) × Unit)) (p1 : Int) (p2 : List UInt8) {β : Type} (k : (Int × (List UInt8)) → Option β) : T51c F p0 p1 p2 k = (T51 F p0 p1 p2).bind k := by
  simp only [T51, T51c, Option.bind_assoc, cond_bind, Option.bind_some, Option.bind_none, elimS_bind]
@[reducible] def cA51 : List Sh := [(.pt 0 []), (.ro (.pr .s (.pr .i (.pr .i (.pr .i (.pr .i (.pr (.sl (.pr .s (.pr .i (.pr .i .un)))) .un))))))), (.fn 52 .un (.pr (.pt 1 []) (.pr (.pt 2 []) .un)))]
@[reducible] def cB51 : List Sh := []
@[reducible] def cT51 : List TSh := [.blk 112 (.pr (.rw 3) (.pr .i .un)), .blk 75 (.pt 0 []), .blk 89 (.fn 50 .un (.pr (.pt 1 []) .un)), .row 5 .u8]
@[reducible] def cU51 : List TSh := [.blk 112 (.pr (.rw 4) (.pr .i .un)), .blk 75 (.pt 0 []), .blk 89 (.fn 50 .un (.pr (.pt 1 []) .un)), .no, .row 5 .u8]
def ct51 (F : Nat) : Ct := mkC 4 cA51 cT51 cB51 cU51 (fun x y => T51 F x.2.1 y.1.2.1 y.2.2.2.1) (fun x y (z : Int × (List UInt8)) => ((), (((), z.1, ()), (), ((), ((), ())), (), z.2, ())))
theorem eq51 (F : Nat) (x : dens cA51) (y : tdens cT51) : sev (E51 F) 4 [([1, 1], lc51_2 F)] (bodyOf Tryd.f51) [] (mkSt (rng 3) cA51 cT51 x y) (kFn (E51 F) 4 Tryd.f51.results.toList cB51 cU51 fun p q => some (p, q)) =
    T51c F x.2.1 y.1.2.1 y.2.2.2.1 (fun z => some ((), (((), z.1, ()), (), ((), ((), ())), (), z.2, ()))) := by kernel_rfl
theorem ok51 (F : Nat) : Sound Tryd.prog cfg 51 (ct51 F) :=
  mkC_ok (E := E51 F) (lp := [([1, 1], lc51_2 F)]) (code := bodyOf Tryd.f51) Tryd.func51 rfl Tryd.ntmps51 rfl rfl cok (cts51 F) mixed ⟨lo51_2 F, trivial⟩ (by kernel_rfl) (fun x y k => T51c F x.2.1 y.1.2.1 y.2.2.2.1 k) (fun x y k => T51n F x.2.1 y.1.2.1 y.2.2.2.1 k) (eq51 F)
end Go.Proofs.YthikoaamigiceaaDoor
/- (*kinkeep/wire.Writer).Done: its twin, and that the call does what the twin says. Printed by a program. -/
namespace Go.Proofs.YthikoaamigiceaaDoor
open Go.Tw
set_option linter.unusedSimpArgs false
set_option linter.unusedVariables false
def ord55 : Nat → List (Tag × Nat)
  | 2 => [(.p, 0), (.p, 1), (.p, 2), (.r, 3), (.p, 4), (.p, 5)]
  | _ => []
def al55 : Nat → Option Nat
  | _ => none
def ms55 : Nat → Option (List (Option Tag × Nat × List Nat))
  | _ => none
def E55 (F : Nat) : Ev := ⟨cfg, 25, ctOf [], ord55, ctOf [], al55, ms55⟩
theorem cts55 (F : Nat) : CtsOk Tryd.prog (E55 F) := cts_of (l := []) (l' := []) rfl rfl trivial trivial
def T55c (F : Nat) (p0 : Int) (p1 : List UInt8) {β : Type} (k : (Int × (List UInt8)) → Option β) : Option β :=
  (bif (p0 != (0 : Int)) then (k (p0, ([] : List UInt8))) else (bif (decide ((1048576 : Int) < (p1.length : Int))) then (k ((2 : Int), ([] : List UInt8))) else (Option.bind (gapp ([] : List UInt8) p1) fun x2 => (k ((0 : Int), x2)))))
def T55 (F : Nat) (p0 : Int) (p1 : List UInt8) : Option (Int × (List UInt8)) := T55c F p0 p1 some
theorem T55n (F : Nat) (p0 : Int) (p1 : List UInt8) {β : Type} (k : (Int × (List UInt8)) → Option β) : T55c F p0 p1 k = (T55 F p0 p1).bind k := by
  simp only [T55, T55c, Option.bind_assoc, cond_bind, Option.bind_some, Option.bind_none, elimS_bind]
@[reducible] def cA55 : List Sh := [(.pt 0 [])]
@[reducible] def cB55 : List Sh := [(.rw 2), .i]
@[reducible] def cT55 : List TSh := [.blk 112 (.pr (.rw 1) (.pr .i .un)), .row 5 .u8]
@[reducible] def cU55 : List TSh := [.blk 112 (.pr (.rw 1) (.pr .i .un)), .row 5 .u8, .row 5 .u8]
def ct55 (F : Nat) : Ct := mkC 2 cA55 cT55 cB55 cU55 (fun x y => T55 F y.1.2.1 y.2.1) (fun x y (z : Int × (List UInt8)) => (((), z.1, ()), (((), y.1.2.1, ()), y.2.1, z.2, ())))
theorem eq55 (F : Nat) (x : dens cA55) (y : tdens cT55) : sev (E55 F) 2 [] (bodyOf Tryd.f55) [] (mkSt (rng 1) cA55 cT55 x y) (kFn (E55 F) 2 Tryd.f55.results.toList cB55 cU55 fun p q => some (p, q)) =
    T55c F y.1.2.1 y.2.1 (fun z => some (((), z.1, ()), (((), y.1.2.1, ()), y.2.1, z.2, ()))) := by kernel_rfl
theorem ok55 (F : Nat) : Sound Tryd.prog cfg 55 (ct55 F) :=
  mkC_ok (E := E55 F) (lp := []) (code := bodyOf Tryd.f55) Tryd.func55 rfl Tryd.ntmps55 rfl rfl cok (cts55 F) mixed trivial (by kernel_rfl) (fun x y k => T55c F y.1.2.1 y.2.1 k) (fun x y k => T55n F y.1.2.1 y.2.1 k) (eq55 F)
end Go.Proofs.YthikoaamigiceaaDoor
/- kinkeep/keyring.EncodeIndex: its twin, and that the call does what the twin says. Printed by a program. -/
namespace Go.Proofs.YthikoaamigiceaaDoor
open Go.Tw
set_option linter.unusedSimpArgs false
set_option linter.unusedVariables false
def ord25 : Nat → List (Tag × Nat)
  | _ => []
def al25 : Nat → Option Nat
  | _ => none
def ms25 : Nat → Option (List (Option Tag × Nat × List Nat))
  | _ => none
def E25 (F : Nat) : Ev := ⟨cfg, 53, ctOf [(39, ct39 F), (40, ct40 F), (41, ct41 F), (42, ct42 F), (45, ct45 F), (51, ct51 F), (54, ct54 F), (55, ct55 F)], ord25, ctOf [], al25, ms25⟩
theorem cts25 (F : Nat) : CtsOk Tryd.prog (E25 F) := cts_of (l := [(39, ct39 F), (40, ct40 F), (41, ct41 F), (42, ct42 F), (45, ct45 F), (51, ct51 F), (54, ct54 F), (55, ct55 F)]) (l' := []) rfl rfl ⟨⟨ok39 F, _, Tryd.func39, rfl, rfl⟩, ⟨⟨ok40 F, _, Tryd.func40, rfl, rfl⟩, ⟨⟨ok41 F, _, Tryd.func41, rfl, rfl⟩, ⟨⟨ok42 F, _, Tryd.func42, rfl, rfl⟩, ⟨⟨ok45 F, _, Tryd.func45, rfl, rfl⟩, ⟨⟨ok51 F, _, Tryd.func51, rfl, rfl⟩, ⟨⟨ok54 F, _, Tryd.func54, rfl, rfl⟩, ⟨⟨ok55 F, _, Tryd.func55, rfl, rfl⟩, trivial⟩⟩⟩⟩⟩⟩⟩⟩ trivial
def T25c (F : Nat) (p0 : Int) (p1 : Int) (p2 : List Int) (p3 : List (Int × Int × Int × ((List UInt8) × Int × Int × Unit) × Int × Int × (List UInt8) × Bool × Unit)) (p4 : List ((List UInt8) × Int × Int × Int × Int × (List ((List UInt8) × Int × Int × Unit)) × Unit)) (p5 : List ((List UInt8) × Int × Int × Unit)) {β : Type} (k : (Int × (List UInt8)) → Option β) : Option β :=
  (Option.bind (T39 F p0 p1 p2 p3 p4 p5) fun z9 => (bif (!z9) then (k ((1 : Int), ([] : List UInt8))) else (Option.bind (T40 F) fun z10 => (Option.bind (T41 F ([p0, p1] : List Int) z10) fun z11 => (Option.bind (T42 F p2 z10 z11) fun z12 => (Option.bind (T45 F p3 z12.1 z12.2) fun z13 => (Option.bind (T51 F p4 z13.1 z13.2) fun z14 => (Option.bind (T54 F p5 z14.1 z14.2) fun z15 => (Option.bind (T55 F z15.1 z15.2) fun z16 => (bif (z16.1 != (0 : Int)) then (k ((2 : Int), ([] : List UInt8))) else (bif (decide ((1048560 : Int) < (z16.2.length : Int))) then (k ((2 : Int), ([] : List UInt8))) else (k ((0 : Int), z16.2)))))))))))))
def T25 (F : Nat) (p0 : Int) (p1 : Int) (p2 : List Int) (p3 : List (Int × Int × Int × ((List UInt8) × Int × Int × Unit) × Int × Int × (List UInt8) × Bool × Unit)) (p4 : List ((List UInt8) × Int × Int × Int × Int × (List ((List UInt8) × Int × Int × Unit)) × Unit)) (p5 : List ((List UInt8) × Int × Int × Unit)) : Option (Int × (List UInt8)) := T25c F p0 p1 p2 p3 p4 p5 some
theorem T25n (F : Nat) (p0 : Int) (p1 : Int) (p2 : List Int) (p3 : List (Int × Int × Int × ((List UInt8) × Int × Int × Unit) × Int × Int × (List UInt8) × Bool × Unit)) (p4 : List ((List UInt8) × Int × Int × Int × Int × (List ((List UInt8) × Int × Int × Unit)) × Unit)) (p5 : List ((List UInt8) × Int × Int × Unit)) {β : Type} (k : (Int × (List UInt8)) → Option β) : T25c F p0 p1 p2 p3 p4 p5 k = (T25 F p0 p1 p2 p3 p4 p5).bind k := by
  simp only [T25, T25c, Option.bind_assoc, cond_bind, Option.bind_some, Option.bind_none, elimS_bind]
@[reducible] def cA25 : List Sh := [(.pr .i (.pr .i (.pr (.ro .i) (.pr (.ro (.pr .i (.pr .i (.pr .i (.pr (.pr .s (.pr .i (.pr .i .un))) (.pr .i (.pr .i (.pr .s (.pr .bo .un))))))))) (.pr (.ro (.pr .s (.pr .i (.pr .i (.pr .i (.pr .i (.pr (.sl (.pr .s (.pr .i (.pr .i .un)))) .un))))))) (.pr (.ro (.pr .s (.pr .i (.pr .i .un)))) .un))))))]
@[reducible] def cB25 : List Sh := [(.rw 0), .i]
@[reducible] def cT25 : List TSh := []
@[reducible] def cU25 : List TSh := [.row 5 .u8]
def ct25 (F : Nat) : Ct := mkC 0 cA25 cT25 cB25 cU25 (fun x y => T25 F x.1.1 x.1.2.1 x.1.2.2.1 x.1.2.2.2.1 x.1.2.2.2.2.1 x.1.2.2.2.2.2.1) (fun x y (z : Int × (List UInt8)) => (((), z.1, ()), (z.2, ())))
theorem eq25 (F : Nat) (x : dens cA25) (y : tdens cT25) : sev (E25 F) 0 [] (bodyOf Tryd.f25) [] (mkSt (rng 1) cA25 cT25 x y) (kFn (E25 F) 0 Tryd.f25.results.toList cB25 cU25 fun p q => some (p, q)) =
    T25c F x.1.1 x.1.2.1 x.1.2.2.1 x.1.2.2.2.1 x.1.2.2.2.2.1 x.1.2.2.2.2.2.1 (fun z => some (((), z.1, ()), (z.2, ()))) := by kernel_rfl
theorem ok25 (F : Nat) : Sound Tryd.prog cfg 25 (ct25 F) :=
  mkC_ok (E := E25 F) (lp := []) (code := bodyOf Tryd.f25) Tryd.func25 rfl Tryd.ntmps25 rfl rfl cok (cts25 F) mixed trivial (by kernel_rfl) (fun x y k => T25c F x.1.1 x.1.2.1 x.1.2.2.1 x.1.2.2.2.1 x.1.2.2.2.2.1 x.1.2.2.2.2.2.1 k) (fun x y k => T25n F x.1.1 x.1.2.1 x.1.2.2.1 x.1.2.2.2.1 x.1.2.2.2.2.1 x.1.2.2.2.2.2.1 k) (eq25 F)
end Go.Proofs.YthikoaamigiceaaDoor
/- kinkeep/keyring.IndexClass: its twin, and that the call does what the twin says. Printed by a program. -/
namespace Go.Proofs.YthikoaamigiceaaDoor
open Go.Tw
set_option linter.unusedSimpArgs false
set_option linter.unusedVariables false
def ord12 : Nat → List (Tag × Nat)
  | _ => []
def al12 : Nat → Option Nat
  | _ => none
def ms12 : Nat → Option (List (Option Tag × Nat × List Nat))
  | _ => none
def E12 (F : Nat) : Ev := ⟨cfg, 16, ctOf [], ord12, ctOf [], al12, ms12⟩
theorem cts12 (F : Nat) : CtsOk Tryd.prog (E12 F) := cts_of (l := []) (l' := []) rfl rfl trivial trivial
def L12_2c (F : Nat) (y4 : Int) (y5 : Int) {β : Type} (kA : Int → Option β) (kO : Int → Option β) : Option β :=
  (bif (decide (y5 < (w64 (y4 + (10 : Int))))) then (kA (w64 (y5 * (2 : Int)))) else (kO y5))
def L12_2 (F : Nat) (y4 : Int) (y5 : Int) : Option ((Int) ⊕ (Int)) := L12_2c F y4 y5 (fun s => some (.inl s)) (fun z => some (.inr z))
theorem L12_2n (F : Nat) (y4 : Int) (y5 : Int) {β : Type} (kA : Int → Option β) (kO : Int → Option β) : L12_2c F y4 y5 kA kO = (L12_2 F y4 y5).bind (elimS kA kO) := by
  simp only [L12_2, L12_2c, Option.bind_assoc, cond_bind, Option.bind_some, Option.bind_none, elimS_l, elimS_r, elimS_bind]
@[reducible] def sA12_2 : List Sh := [.i, .i]
@[reducible] def sAp112_2 : List Sh := [.i]
@[reducible] def sT12_2 : List TSh := []
@[reducible] def sTp112_2 : List TSh := []
def lc12_2 (F : Nat) : Lc := mkL [0, 4] sA12_2 sT12_2 [4] sAp112_2 sTp112_2 F (fun x y (s : Int) => L12_2 F x.1 s) (fun x y => x.2.1) (fun x y (z : Int) => ((z, ()), ()))
theorem le12_2 (F : Nat) (x : dens sA12_2) (y : tdens sT12_2) (s : Int) : sev (E12 F) 0 [] (cAt (bodyOf Tryd.f12) (0 :: 0 :: [0, 1, 1, 1, 1])) (0 :: 0 :: [0, 1, 1, 1, 1]) (mkSt [0, 4] sA12_2 sT12_2 (x.1, s, ()) ()) (kLoop 0 [0, 4] sA12_2 sT12_2 [4] sAp112_2 sTp112_2 [] [] [] 0 (fun x y => some (.inl (x, y))) (fun x y => some (.inr (.inl (x, y)))) (fun x y => some (.inr (.inr (x, y))))) =
    L12_2c (β := Full sA12_2 sT12_2 sAp112_2 sTp112_2 [] []) F x.1 s (fun s => some (.inl ((x.1, s, ()), ()))) (fun z => some (.inr (.inl ((z, ()), ())))) := by kernel_rfl
theorem lo12_2 (F : Nat) : LcOk Tryd.prog (E12 F) 0 (lc12_2 F) (cAt (bodyOf Tryd.f12) [0, 1, 1, 1, 1]) :=
  mkL_ok (lp := []) (id := 0) (b := cAt (bodyOf Tryd.f12) (0 :: 0 :: [0, 1, 1, 1, 1])) cok (cts12 F) mixed trivial (by kernel_rfl) (by kernel_rfl) (fun x y s => (x.1, s, ())) (fun x y s => ()) (fun x y => rfl) (fun x y => rfl) (fun x y s kA kO => L12_2c F x.1 s kA kO) (fun x y s kA kO => L12_2n F x.1 s kA kO) (le12_2 F)
def T12c (F : Nat) (p0 : Int) {β : Type} (k : (Int × Int) → Option β) : Option β :=
  (bif (decide (p0 < (0 : Int))) then (k ((0 : Int), (1 : Int))) else (bif (decide ((1048560 : Int) < p0)) then (k ((0 : Int), (2 : Int))) else (Option.bind (iter (fun s => L12_2 F p0 s) F (1024 : Int)) fun z6 => (k (z6, (0 : Int))))))
def T12 (F : Nat) (p0 : Int) : Option (Int × Int) := T12c F p0 some
theorem T12n (F : Nat) (p0 : Int) {β : Type} (k : (Int × Int) → Option β) : T12c F p0 k = (T12 F p0).bind k := by
  simp only [T12, T12c, Option.bind_assoc, cond_bind, Option.bind_some, Option.bind_none, elimS_bind]
@[reducible] def cA12 : List Sh := [.i]
@[reducible] def cB12 : List Sh := [.i, .i]
@[reducible] def cT12 : List TSh := []
@[reducible] def cU12 : List TSh := []
def ct12 (F : Nat) : Ct := mkC 0 cA12 cT12 cB12 cU12 (fun x y => T12 F x.1) (fun x y (z : Int × Int) => ((z.1, z.2, ()), ()))
theorem eq12 (F : Nat) (x : dens cA12) (y : tdens cT12) : sev (E12 F) 0 [([0, 1, 1, 1, 1], lc12_2 F)] (bodyOf Tryd.f12) [] (mkSt (rng 1) cA12 cT12 x y) (kFn (E12 F) 0 Tryd.f12.results.toList cB12 cU12 fun p q => some (p, q)) =
    T12c F x.1 (fun z => some ((z.1, z.2, ()), ())) := by kernel_rfl
theorem ok12 (F : Nat) : Sound Tryd.prog cfg 12 (ct12 F) :=
  mkC_ok (E := E12 F) (lp := [([0, 1, 1, 1, 1], lc12_2 F)]) (code := bodyOf Tryd.f12) Tryd.func12 rfl Tryd.ntmps12 rfl rfl cok (cts12 F) mixed ⟨lo12_2 F, trivial⟩ (by kernel_rfl) (fun x y k => T12c F x.1 k) (fun x y k => T12n F x.1 k) (eq12 F)
end Go.Proofs.YthikoaamigiceaaDoor
/- kinkeep/kinkeeplaw31.awake: its twin, and that the call does what the twin says. Printed by a program. -/
namespace Go.Proofs.YthikoaamigiceaaDoor
open Go.Tw
set_option linter.unusedSimpArgs false
set_option linter.unusedVariables false
def ord9 : Nat → List (Tag × Nat)
  | 2 => []
  | 5 => [(.p, 0), (.p, 1), (.p, 2), (.p, 3), (.r, 4), (.p, 5), (.r, 6), (.p, 7), (.p, 8), (.p, 9), (.p, 10), (.r, 11), (.p, 12), (.p, 13), (.p, 14), (.p, 15), (.p, 16), (.p, 17), (.p, 18), (.p, 19), (.p, 20), (.p, 21), (.p, 22), (.p, 23), (.p, 24), (.p, 25), (.p, 26), (.p, 27), (.r, 28), (.p, 29), (.p, 30), (.p, 31), (.p, 32), (.p, 33), (.p, 34), (.c, 35), (.c, 36), (.w, 37), (.p, 38), (.p, 39), (.p, 40), (.p, 41), (.p, 42), (.p, 43), (.p, 44), (.p, 45), (.p, 46), (.p, 47), (.p, 48), (.p, 49), (.p, 50), (.p, 51), (.p, 52), (.p, 53), (.p, 54), (.p, 55), (.p, 56), (.p, 57)]
  | _ => []
def al9 : Nat → Option Nat
  | _ => none
def ms9 : Nat → Option (List (Option Tag × Nat × List Nat))
  | 2 => some [(some .w, 0, [1, 2]), (none, 1, [2]), (none, 2, []), (some .w, 3, []), (some .p, 4, []), (some .p, 5, []), (some .p, 6, []), (some .p, 7, []), (some .p, 8, [])]
  | _ => none
def E9 (F : Nat) : Ev := ⟨cfg, 87, ctOf [(22, ct22 F), (14, ct14 F), (10, ct10 F), (25, ct25 F), (12, ct12 F)], ord9, ctOf [], al9, ms9⟩
theorem cts9 (F : Nat) : CtsOk Tryd.prog (E9 F) := cts_of (l := [(22, ct22 F), (14, ct14 F), (10, ct10 F), (25, ct25 F), (12, ct12 F)]) (l' := []) rfl rfl ⟨⟨ok22 F, _, Tryd.func22, rfl, rfl⟩, ⟨⟨ok14 F, _, Tryd.func14, rfl, rfl⟩, ⟨⟨ok10 F, _, Tryd.func10, rfl, rfl⟩, ⟨⟨ok25 F, _, Tryd.func25, rfl, rfl⟩, ⟨⟨ok12 F, _, Tryd.func12, rfl, rfl⟩, trivial⟩⟩⟩⟩⟩ trivial
def T9c (F : Nat) {β : Type} (k : Bool → Option β) : Option β :=
  (Option.bind (T22 F (UInt8.ofNat 1)) fun z12 => (Option.bind (T14 F z12) fun z13 => (Option.bind (T22 F (UInt8.ofNat 1)) fun z14 => (Option.bind (T10 F z14 (2 : Int) ([(0 : Int), (3 : Int), (5 : Int)] : List Int) (List.replicate 32 (0 : UInt8))) fun z15 => (Option.bind (T25 F (0 : Int) (0 : Int) ([] : List Int) ([] : List (Int × Int × Int × ((List UInt8) × Int × Int × Unit) × Int × Int × (List UInt8) × Bool × Unit)) ([] : List ((List UInt8) × Int × Int × Int × Int × (List ((List UInt8) × Int × Int × Unit)) × Unit)) ([] : List ((List UInt8) × Int × Int × Unit))) fun z16 => (Option.bind (T12 F (1015 : Int)) fun z17 => (bif (z13.2.2.2.2.2 == (0 : Int)) then (bif (z13.1 != z13.2.1) then (bif ((z13.2.2.2.2.1.length : Int) == (32 : Int)) then (bif (z15.1 == (0 : Int)) then (bif ((z15.2.length : Int) == (3 : Int)) then (Option.bind (inb z15.2.length (1 : Int)) fun x18 => (Option.bind (z15.2[x18]?) fun x19 => (bif (x19.1 == (4 : Int)) then (Option.bind (inb z15.2.length (1 : Int)) fun x20 => (Option.bind (z15.2[x20]?) fun x21 => (Option.bind (T22 F (UInt8.ofNat 1)) fun z22 => (bif (x21.2.1 == z22) then (bif (z16.1 == (0 : Int)) then (bif ((z16.2.length : Int) == (6 : Int)) then (bif (z17.1 == (2048 : Int)) then (k (z17.2 == (0 : Int))) else (k false)) else (k false)) else (k false)) else (k false))))) else (k false)))) else (k false)) else (k false)) else (k false)) else (k false)) else (k false))))))))
def T9 (F : Nat) : Option (Bool) := T9c F some
theorem T9n (F : Nat) {β : Type} (k : Bool → Option β) : T9c F k = (T9 F).bind k := by
  simp only [T9, T9c, Option.bind_assoc, cond_bind, Option.bind_some, Option.bind_none, elimS_bind]
@[reducible] def cA9 : List Sh := []
@[reducible] def cB9 : List Sh := [.bo]
@[reducible] def cT9 : List TSh := []
@[reducible] def cU9 : List TSh := []
def ct9 (F : Nat) : Ct := mkC 0 cA9 cT9 cB9 cU9 (fun x y => T9 F) (fun x y (z : Bool) => ((z, ()), ()))
theorem eq9 (F : Nat) (x : dens cA9) (y : tdens cT9) : sev (E9 F) 0 [] (bodyOf Tryd.f9) [] (mkSt (rng 0) cA9 cT9 x y) (kFn (E9 F) 0 Tryd.f9.results.toList cB9 cU9 fun p q => some (p, q)) =
    T9c F (fun z => some ((z, ()), ())) := by kernel_rfl
theorem ok9 (F : Nat) : Sound Tryd.prog cfg 9 (ct9 F) :=
  mkC_ok (E := E9 F) (lp := []) (code := bodyOf Tryd.f9) Tryd.func9 rfl Tryd.ntmps9 rfl rfl cok (cts9 F) mixed trivial (by kernel_rfl) (fun x y k => T9c F k) (fun x y k => T9n F k) (eq9 F)
end Go.Proofs.YthikoaamigiceaaDoor
/- kinkeep/kinkeepref31.distinct: its twin, and that the call does what the twin says. Printed by a program. -/
namespace Go.Proofs.YthikoaamigiceaaDoor
open Go.Tw
set_option linter.unusedSimpArgs false
set_option linter.unusedVariables false
def ord29 : Nat → List (Tag × Nat)
  | _ => []
def al29 : Nat → Option Nat
  | _ => none
def ms29 : Nat → Option (List (Option Tag × Nat × List Nat))
  | _ => none
def E29 (F : Nat) : Ev := ⟨cfg, 39, ctOf [], ord29, ctOf [], al29, ms29⟩
theorem cts29 (F : Nat) : CtsOk Tryd.prog (E29 F) := cts_of (l := []) (l' := []) rfl rfl trivial trivial
def L29_4c (F : Nat) (y40 : Int) (y44 : List Int) (y45 : Int) (y46 : Int) {β : Type} (kA : Int → Option β) (kO : Unit → Option β) (kR : Bool → Option β) : Option β :=
  (bif (decide (y46 < y45)) then (Option.bind (ix y44 y46) fun x48 => (bif (y40 == x48) then (kR false) else (kA (w64 (y46 + (1 : Int)))))) else (kO ()))
def L29_4 (F : Nat) (y40 : Int) (y44 : List Int) (y45 : Int) (y46 : Int) : Option ((Int) ⊕ ((Unit) ⊕ (Bool))) := L29_4c F y40 y44 y45 y46 (fun s => some (.inl s)) (fun z => some (.inr (.inl z))) (fun z => some (.inr (.inr z)))
theorem L29_4n (F : Nat) (y40 : Int) (y44 : List Int) (y45 : Int) (y46 : Int) {β : Type} (kA : Int → Option β) (kO : Unit → Option β) (kR : Bool → Option β) : L29_4c F y40 y44 y45 y46 kA kO kR = (L29_4 F y40 y44 y45 y46).bind (elimS kA (elimS kO kR)) := by
  simp only [L29_4, L29_4c, Option.bind_assoc, cond_bind, Option.bind_some, Option.bind_none, elimS_l, elimS_r, elimS_bind]
@[reducible] def sA29_4 : List Sh := [(.ro .i), .i, .i, .i, (.ro .i), .i, .i, (.ro .i), .i, .i]
@[reducible] def sAp129_4 : List Sh := [(.ro .i), .i, .i, (.ro .i), .i, .i]
@[reducible] def sAp229_4 : List Sh := [.bo]
@[reducible] def sT29_4 : List TSh := []
@[reducible] def sTp129_4 : List TSh := []
@[reducible] def sTp229_4 : List TSh := []
def lc29_4 (F : Nat) : Lc := mkR [0, 1, 2, 8, 11, 12, 13, 28, 29, 30] sA29_4 sT29_4 [0, 1, 2, 11, 12, 13] sAp129_4 sTp129_4 [6] sAp229_4 sTp229_4 F (fun x y (s : Int) => L29_4 F x.2.2.2.1 x.2.2.2.2.2.2.2.1 x.2.2.2.2.2.2.2.2.1 s) (fun x y => x.2.2.2.2.2.2.2.2.2.1) (fun x y (z : Unit) => ((x.1, x.2.1, x.2.2.1, x.2.2.2.2.1, x.2.2.2.2.2.1, x.2.2.2.2.2.2.1, ()), ())) (fun x y (z : Bool) => ((z, ()), ()))
theorem le29_4 (F : Nat) (x : dens sA29_4) (y : tdens sT29_4) (s : Int) : sev (E29 F) 0 [] (cAt (bodyOf Tryd.f29) (0 :: 0 :: [1, 1, 1, 0, 0, 1, 1, 0, 0, 1, 0, 1])) (0 :: 0 :: [1, 1, 1, 0, 0, 1, 1, 0, 0, 1, 0, 1]) (mkSt [0, 1, 2, 8, 11, 12, 13, 28, 29, 30] sA29_4 sT29_4 (x.1, x.2.1, x.2.2.1, x.2.2.2.1, x.2.2.2.2.1, x.2.2.2.2.2.1, x.2.2.2.2.2.2.1, x.2.2.2.2.2.2.2.1, x.2.2.2.2.2.2.2.2.1, s, ()) ()) (kLoop 0 [0, 1, 2, 8, 11, 12, 13, 28, 29, 30] sA29_4 sT29_4 [0, 1, 2, 11, 12, 13] sAp129_4 sTp129_4 [6] sAp229_4 sTp229_4 2 (fun x y => some (.inl (x, y))) (fun x y => some (.inr (.inl (x, y)))) (fun x y => some (.inr (.inr (x, y))))) =
    L29_4c (β := Full sA29_4 sT29_4 sAp129_4 sTp129_4 sAp229_4 sTp229_4) F x.2.2.2.1 x.2.2.2.2.2.2.2.1 x.2.2.2.2.2.2.2.2.1 s (fun s => some (.inl ((x.1, x.2.1, x.2.2.1, x.2.2.2.1, x.2.2.2.2.1, x.2.2.2.2.2.1, x.2.2.2.2.2.2.1, x.2.2.2.2.2.2.2.1, x.2.2.2.2.2.2.2.2.1, s, ()), ()))) (fun z => some (.inr (.inl ((x.1, x.2.1, x.2.2.1, x.2.2.2.2.1, x.2.2.2.2.2.1, x.2.2.2.2.2.2.1, ()), ())))) (fun z => some (.inr (.inr ((z, ()), ())))) := by kernel_rfl
theorem lo29_4 (F : Nat) : LcOk Tryd.prog (E29 F) 0 (lc29_4 F) (cAt (bodyOf Tryd.f29) [1, 1, 1, 0, 0, 1, 1, 0, 0, 1, 0, 1]) :=
  mkR_ok (lp := []) (id := 2) (b := cAt (bodyOf Tryd.f29) (0 :: 0 :: [1, 1, 1, 0, 0, 1, 1, 0, 0, 1, 0, 1])) cok (cts29 F) mixed trivial (by kernel_rfl) (by kernel_rfl) (fun x y s => (x.1, x.2.1, x.2.2.1, x.2.2.2.1, x.2.2.2.2.1, x.2.2.2.2.2.1, x.2.2.2.2.2.2.1, x.2.2.2.2.2.2.2.1, x.2.2.2.2.2.2.2.2.1, s, ())) (fun x y s => ()) (fun x y => rfl) (fun x y => rfl) (fun x y s kA kO kR => L29_4c F x.2.2.2.1 x.2.2.2.2.2.2.2.1 x.2.2.2.2.2.2.2.2.1 s kA kO kR) (fun x y s kA kO kR => L29_4n F x.2.2.2.1 x.2.2.2.2.2.2.2.1 x.2.2.2.2.2.2.2.2.1 s kA kO kR) (le29_4 F)
def L29_3c (F : Nat) (y26 : List Int) (y27 : Int) (y28 : Int) (y29 : List Int) (y30 : Int) (y31 : Int) {β : Type} (kA : Int → Option β) (kO : Unit → Option β) (kR : Bool → Option β) : Option β :=
  (bif (decide (y31 < y30)) then (Option.bind (ix y29 y31) fun x35 => (bif (decide (x35 < y27)) then (kR false) else (bif (decide (y28 < x35)) then (kR false) else (Option.bind (gsl y26 (0 : Int) y31) fun x36 => (Option.bind (iter (fun s => L29_4 F x35 x36 (x36.length : Int) s) F (0 : Int)) fun z49 => elimS (fun z49 => (kA (w64 (y31 + (1 : Int))))) (fun z49 => (kR z49)) z49))))) else (kO ()))
def L29_3 (F : Nat) (y26 : List Int) (y27 : Int) (y28 : Int) (y29 : List Int) (y30 : Int) (y31 : Int) : Option ((Int) ⊕ ((Unit) ⊕ (Bool))) := L29_3c F y26 y27 y28 y29 y30 y31 (fun s => some (.inl s)) (fun z => some (.inr (.inl z))) (fun z => some (.inr (.inr z)))
theorem L29_3n (F : Nat) (y26 : List Int) (y27 : Int) (y28 : Int) (y29 : List Int) (y30 : Int) (y31 : Int) {β : Type} (kA : Int → Option β) (kO : Unit → Option β) (kR : Bool → Option β) : L29_3c F y26 y27 y28 y29 y30 y31 kA kO kR = (L29_3 F y26 y27 y28 y29 y30 y31).bind (elimS kA (elimS kO kR)) := by
  simp only [L29_3, L29_3c, Option.bind_assoc, cond_bind, Option.bind_some, Option.bind_none, elimS_l, elimS_r, elimS_bind]
@[reducible] def sA29_3 : List Sh := [(.ro .i), .i, .i, (.ro .i), .i, .i]
@[reducible] def sAp129_3 : List Sh := []
@[reducible] def sAp229_3 : List Sh := [.bo]
@[reducible] def sT29_3 : List TSh := []
@[reducible] def sTp129_3 : List TSh := []
@[reducible] def sTp229_3 : List TSh := []
def lc29_3 (F : Nat) : Lc := mkR [0, 1, 2, 11, 12, 13] sA29_3 sT29_3 [] sAp129_3 sTp129_3 [6] sAp229_3 sTp229_3 F (fun x y (s : Int) => L29_3 F x.1 x.2.1 x.2.2.1 x.2.2.2.1 x.2.2.2.2.1 s) (fun x y => x.2.2.2.2.2.1) (fun x y (z : Unit) => ((), ())) (fun x y (z : Bool) => ((z, ()), ()))
theorem le29_3 (F : Nat) (x : dens sA29_3) (y : tdens sT29_3) (s : Int) : sev (E29 F) 0 [([1, 1, 1, 0, 0, 1, 1, 0, 0, 1, 0, 1], lc29_4 F)] (cAt (bodyOf Tryd.f29) (0 :: 0 :: [1, 0, 1])) (0 :: 0 :: [1, 0, 1]) (mkSt [0, 1, 2, 11, 12, 13] sA29_3 sT29_3 (x.1, x.2.1, x.2.2.1, x.2.2.2.1, x.2.2.2.2.1, s, ()) ()) (kLoop 0 [0, 1, 2, 11, 12, 13] sA29_3 sT29_3 [] sAp129_3 sTp129_3 [6] sAp229_3 sTp229_3 0 (fun x y => some (.inl (x, y))) (fun x y => some (.inr (.inl (x, y)))) (fun x y => some (.inr (.inr (x, y))))) =
    L29_3c (β := Full sA29_3 sT29_3 sAp129_3 sTp129_3 sAp229_3 sTp229_3) F x.1 x.2.1 x.2.2.1 x.2.2.2.1 x.2.2.2.2.1 s (fun s => some (.inl ((x.1, x.2.1, x.2.2.1, x.2.2.2.1, x.2.2.2.2.1, s, ()), ()))) (fun z => some (.inr (.inl ((), ())))) (fun z => some (.inr (.inr ((z, ()), ())))) := by kernel_rfl
theorem lo29_3 (F : Nat) : LcOk Tryd.prog (E29 F) 0 (lc29_3 F) (cAt (bodyOf Tryd.f29) [1, 0, 1]) :=
  mkR_ok (lp := [([1, 1, 1, 0, 0, 1, 1, 0, 0, 1, 0, 1], lc29_4 F)]) (id := 0) (b := cAt (bodyOf Tryd.f29) (0 :: 0 :: [1, 0, 1])) cok (cts29 F) mixed ⟨lo29_4 F, trivial⟩ (by kernel_rfl) (by kernel_rfl) (fun x y s => (x.1, x.2.1, x.2.2.1, x.2.2.2.1, x.2.2.2.2.1, s, ())) (fun x y s => ()) (fun x y => rfl) (fun x y => rfl) (fun x y s kA kO kR => L29_3c F x.1 x.2.1 x.2.2.1 x.2.2.2.1 x.2.2.2.2.1 s kA kO kR) (fun x y s kA kO kR => L29_3n F x.1 x.2.1 x.2.2.1 x.2.2.2.1 x.2.2.2.2.1 s kA kO kR) (le29_3 F)
def T29c (F : Nat) (p0 : List Int) (p1 : Int) (p2 : Int) {β : Type} (k : Bool → Option β) : Option β :=
  (Option.bind (iter (fun s => L29_3 F p0 p1 p2 p0 (p0.length : Int) s) F (0 : Int)) fun z50 => elimS (fun z50 => (k true)) (fun z50 => (k z50)) z50)
def T29 (F : Nat) (p0 : List Int) (p1 : Int) (p2 : Int) : Option (Bool) := T29c F p0 p1 p2 some
theorem T29n (F : Nat) (p0 : List Int) (p1 : Int) (p2 : Int) {β : Type} (k : Bool → Option β) : T29c F p0 p1 p2 k = (T29 F p0 p1 p2).bind k := by
  simp only [T29, T29c, Option.bind_assoc, cond_bind, Option.bind_some, Option.bind_none, elimS_bind]
@[reducible] def cA29 : List Sh := [(.ro .i), .i, .i]
@[reducible] def cB29 : List Sh := [.bo]
@[reducible] def cT29 : List TSh := []
@[reducible] def cU29 : List TSh := []
def ct29 (F : Nat) : Ct := mkC 0 cA29 cT29 cB29 cU29 (fun x y => T29 F x.1 x.2.1 x.2.2.1) (fun x y (z : Bool) => ((z, ()), ()))
theorem eq29 (F : Nat) (x : dens cA29) (y : tdens cT29) : sev (E29 F) 0 [([1, 0, 1], lc29_3 F)] (bodyOf Tryd.f29) [] (mkSt (rng 3) cA29 cT29 x y) (kFn (E29 F) 0 Tryd.f29.results.toList cB29 cU29 fun p q => some (p, q)) =
    T29c F x.1 x.2.1 x.2.2.1 (fun z => some ((z, ()), ())) := by kernel_rfl
theorem ok29 (F : Nat) : Sound Tryd.prog cfg 29 (ct29 F) :=
  mkC_ok (E := E29 F) (lp := [([1, 0, 1], lc29_3 F)]) (code := bodyOf Tryd.f29) Tryd.func29 rfl Tryd.ntmps29 rfl rfl cok (cts29 F) mixed ⟨lo29_3 F, trivial⟩ (by kernel_rfl) (fun x y k => T29c F x.1 x.2.1 x.2.2.1 k) (fun x y k => T29n F x.1 x.2.1 x.2.2.1 k) (eq29 F)
end Go.Proofs.YthikoaamigiceaaDoor
/- kinkeep/kinkeepref02.Mul: its twin, and that the call does what the twin says. Printed by a program. -/
namespace Go.Proofs.YthikoaamigiceaaDoor
open Go.Tw
set_option linter.unusedSimpArgs false
set_option linter.unusedVariables false
def ord81 : Nat → List (Tag × Nat)
  | _ => []
def al81 : Nat → Option Nat
  | _ => none
def ms81 : Nat → Option (List (Option Tag × Nat × List Nat))
  | _ => none
def E81 (F : Nat) : Ev := ⟨cfg, 25, ctOf [], ord81, ctOf [], al81, ms81⟩
theorem cts81 (F : Nat) : CtsOk Tryd.prog (E81 F) := cts_of (l := []) (l' := []) rfl rfl trivial trivial
def L81_2c (F : Nat) (y5 : UInt8) (y6 : UInt8) (y7 : UInt8) {β : Type} (kA : (UInt8 × UInt8 × UInt8) → Option β) (kO : UInt8 → Option β) : Option β :=
  (bif (y6 != (UInt8.ofNat 0)) then (bif ((y6 % (UInt8.ofNat 2)) == (UInt8.ofNat 1)) then (bif (decide ((UInt8.ofNat 128) ≤ y5)) then (kA (((shl8 y5 ((UInt64.ofNat 1).toNat)) ^^^ (UInt8.ofNat 29)), (y6 / (UInt8.ofNat 2)), (y7 ^^^ y5))) else (kA ((shl8 y5 ((UInt64.ofNat 1).toNat)), (y6 / (UInt8.ofNat 2)), (y7 ^^^ y5)))) else (bif (decide ((UInt8.ofNat 128) ≤ y5)) then (kA (((shl8 y5 ((UInt64.ofNat 1).toNat)) ^^^ (UInt8.ofNat 29)), (y6 / (UInt8.ofNat 2)), y7)) else (kA ((shl8 y5 ((UInt64.ofNat 1).toNat)), (y6 / (UInt8.ofNat 2)), y7)))) else (kO y7))
def L81_2 (F : Nat) (y5 : UInt8) (y6 : UInt8) (y7 : UInt8) : Option ((UInt8 × UInt8 × UInt8) ⊕ (UInt8)) := L81_2c F y5 y6 y7 (fun s => some (.inl s)) (fun z => some (.inr z))
theorem L81_2n (F : Nat) (y5 : UInt8) (y6 : UInt8) (y7 : UInt8) {β : Type} (kA : (UInt8 × UInt8 × UInt8) → Option β) (kO : UInt8 → Option β) : L81_2c F y5 y6 y7 kA kO = (L81_2 F y5 y6 y7).bind (elimS kA kO) := by
  simp only [L81_2, L81_2c, Option.bind_assoc, cond_bind, Option.bind_some, Option.bind_none, elimS_l, elimS_r, elimS_bind]
@[reducible] def sA81_2 : List Sh := [.u8, .u8, .u8]
@[reducible] def sAp181_2 : List Sh := [.u8]
@[reducible] def sT81_2 : List TSh := []
@[reducible] def sTp181_2 : List TSh := []
def lc81_2 (F : Nat) : Lc := mkL [0, 1, 5] sA81_2 sT81_2 [5] sAp181_2 sTp181_2 F (fun x y (s : UInt8 × UInt8 × UInt8) => L81_2 F s.1 s.2.1 s.2.2) (fun x y => (x.1, x.2.1, x.2.2.1)) (fun x y (z : UInt8) => ((z, ()), ()))
theorem le81_2 (F : Nat) (x : dens sA81_2) (y : tdens sT81_2) (s : UInt8 × UInt8 × UInt8) : sev (E81 F) 0 [] (cAt (bodyOf Tryd.f81) (0 :: 0 :: [0, 1, 1])) (0 :: 0 :: [0, 1, 1]) (mkSt [0, 1, 5] sA81_2 sT81_2 (s.1, s.2.1, s.2.2, ()) ()) (kLoop 0 [0, 1, 5] sA81_2 sT81_2 [5] sAp181_2 sTp181_2 [] [] [] 0 (fun x y => some (.inl (x, y))) (fun x y => some (.inr (.inl (x, y)))) (fun x y => some (.inr (.inr (x, y))))) =
    L81_2c (β := Full sA81_2 sT81_2 sAp181_2 sTp181_2 [] []) F s.1 s.2.1 s.2.2 (fun s => some (.inl ((s.1, s.2.1, s.2.2, ()), ()))) (fun z => some (.inr (.inl ((z, ()), ())))) := by kernel_rfl
theorem lo81_2 (F : Nat) : LcOk Tryd.prog (E81 F) 0 (lc81_2 F) (cAt (bodyOf Tryd.f81) [0, 1, 1]) :=
  mkL_ok (lp := []) (id := 0) (b := cAt (bodyOf Tryd.f81) (0 :: 0 :: [0, 1, 1])) cok (cts81 F) mixed trivial (by kernel_rfl) (by kernel_rfl) (fun x y s => (s.1, s.2.1, s.2.2, ())) (fun x y s => ()) (fun x y => rfl) (fun x y => rfl) (fun x y s kA kO => L81_2c F s.1 s.2.1 s.2.2 kA kO) (fun x y s kA kO => L81_2n F s.1 s.2.1 s.2.2 kA kO) (le81_2 F)
def T81c (F : Nat) (p0 : UInt8) (p1 : UInt8) {β : Type} (k : UInt8 → Option β) : Option β :=
  (Option.bind (iter (fun s => L81_2 F s.1 s.2.1 s.2.2) F (p0, p1, (UInt8.ofNat 0))) fun z8 => (k z8))
def T81 (F : Nat) (p0 : UInt8) (p1 : UInt8) : Option (UInt8) := T81c F p0 p1 some
theorem T81n (F : Nat) (p0 : UInt8) (p1 : UInt8) {β : Type} (k : UInt8 → Option β) : T81c F p0 p1 k = (T81 F p0 p1).bind k := by
  simp only [T81, T81c, Option.bind_assoc, cond_bind, Option.bind_some, Option.bind_none, elimS_bind]
@[reducible] def cA81 : List Sh := [.u8, .u8]
@[reducible] def cB81 : List Sh := [.u8]
@[reducible] def cT81 : List TSh := []
@[reducible] def cU81 : List TSh := []
def ct81 (F : Nat) : Ct := mkC 0 cA81 cT81 cB81 cU81 (fun x y => T81 F x.1 x.2.1) (fun x y (z : UInt8) => ((z, ()), ()))
theorem eq81 (F : Nat) (x : dens cA81) (y : tdens cT81) : sev (E81 F) 0 [([0, 1, 1], lc81_2 F)] (bodyOf Tryd.f81) [] (mkSt (rng 2) cA81 cT81 x y) (kFn (E81 F) 0 Tryd.f81.results.toList cB81 cU81 fun p q => some (p, q)) =
    T81c F x.1 x.2.1 (fun z => some ((z, ()), ())) := by kernel_rfl
theorem ok81 (F : Nat) : Sound Tryd.prog cfg 81 (ct81 F) :=
  mkC_ok (E := E81 F) (lp := [([0, 1, 1], lc81_2 F)]) (code := bodyOf Tryd.f81) Tryd.func81 rfl Tryd.ntmps81 rfl rfl cok (cts81 F) mixed ⟨lo81_2 F, trivial⟩ (by kernel_rfl) (fun x y k => T81c F x.1 x.2.1 k) (fun x y k => T81n F x.1 x.2.1 k) (eq81 F)
end Go.Proofs.YthikoaamigiceaaDoor
/- kinkeep/kinkeepref02.Pow: its twin, and that the call does what the twin says. Printed by a program. -/
namespace Go.Proofs.YthikoaamigiceaaDoor
open Go.Tw
set_option linter.unusedSimpArgs false
set_option linter.unusedVariables false
def ord82 : Nat → List (Tag × Nat)
  | _ => []
def al82 : Nat → Option Nat
  | _ => none
def ms82 : Nat → Option (List (Option Tag × Nat × List Nat))
  | _ => none
def E82 (F : Nat) : Ev := ⟨cfg, 22, ctOf [(81, ct81 F)], ord82, ctOf [], al82, ms82⟩
theorem cts82 (F : Nat) : CtsOk Tryd.prog (E82 F) := cts_of (l := [(81, ct81 F)]) (l' := []) rfl rfl ⟨⟨ok81 F, _, Tryd.func81, rfl, rfl⟩, trivial⟩ trivial
def L82_2c (F : Nat) (y7 : UInt8) (y8 : Int) (y9 : UInt8) {β : Type} (kA : (Int × UInt8) → Option β) (kO : UInt8 → Option β) : Option β :=
  (bif (decide ((0 : Int) < y8)) then (Option.bind (T81 F y9 y7) fun z11 => (kA ((w64 (y8 - (1 : Int))), z11))) else (kO y9))
def L82_2 (F : Nat) (y7 : UInt8) (y8 : Int) (y9 : UInt8) : Option ((Int × UInt8) ⊕ (UInt8)) := L82_2c F y7 y8 y9 (fun s => some (.inl s)) (fun z => some (.inr z))
theorem L82_2n (F : Nat) (y7 : UInt8) (y8 : Int) (y9 : UInt8) {β : Type} (kA : (Int × UInt8) → Option β) (kO : UInt8 → Option β) : L82_2c F y7 y8 y9 kA kO = (L82_2 F y7 y8 y9).bind (elimS kA kO) := by
  simp only [L82_2, L82_2c, Option.bind_assoc, cond_bind, Option.bind_some, Option.bind_none, elimS_l, elimS_r, elimS_bind]
@[reducible] def sA82_2 : List Sh := [.u8, .i, .u8]
@[reducible] def sAp182_2 : List Sh := [.u8]
@[reducible] def sT82_2 : List TSh := []
@[reducible] def sTp182_2 : List TSh := []
def lc82_2 (F : Nat) : Lc := mkL [0, 1, 5] sA82_2 sT82_2 [5] sAp182_2 sTp182_2 F (fun x y (s : Int × UInt8) => L82_2 F x.1 s.1 s.2) (fun x y => (x.2.1, x.2.2.1)) (fun x y (z : UInt8) => ((z, ()), ()))
theorem le82_2 (F : Nat) (x : dens sA82_2) (y : tdens sT82_2) (s : Int × UInt8) : sev (E82 F) 0 [] (cAt (bodyOf Tryd.f82) (0 :: 0 :: [1, 0, 1, 1, 1])) (0 :: 0 :: [1, 0, 1, 1, 1]) (mkSt [0, 1, 5] sA82_2 sT82_2 (x.1, s.1, s.2, ()) ()) (kLoop 0 [0, 1, 5] sA82_2 sT82_2 [5] sAp182_2 sTp182_2 [] [] [] 0 (fun x y => some (.inl (x, y))) (fun x y => some (.inr (.inl (x, y)))) (fun x y => some (.inr (.inr (x, y))))) =
    L82_2c (β := Full sA82_2 sT82_2 sAp182_2 sTp182_2 [] []) F x.1 s.1 s.2 (fun s => some (.inl ((x.1, s.1, s.2, ()), ()))) (fun z => some (.inr (.inl ((z, ()), ())))) := by kernel_rfl
theorem lo82_2 (F : Nat) : LcOk Tryd.prog (E82 F) 0 (lc82_2 F) (cAt (bodyOf Tryd.f82) [1, 0, 1, 1, 1]) :=
  mkL_ok (lp := []) (id := 0) (b := cAt (bodyOf Tryd.f82) (0 :: 0 :: [1, 0, 1, 1, 1])) cok (cts82 F) mixed trivial (by kernel_rfl) (by kernel_rfl) (fun x y s => (x.1, s.1, s.2, ())) (fun x y s => ()) (fun x y => rfl) (fun x y => rfl) (fun x y s kA kO => L82_2c F x.1 s.1 s.2 kA kO) (fun x y s kA kO => L82_2n F x.1 s.1 s.2 kA kO) (le82_2 F)
def T82c (F : Nat) (p0 : UInt8) (p1 : Int) {β : Type} (k : UInt8 → Option β) : Option β :=
  (bif (p0 == (UInt8.ofNat 0)) then (bif (p1 == (0 : Int)) then (k (UInt8.ofNat 1)) else (k (UInt8.ofNat 0))) else (Option.bind (iter (fun s => L82_2 F p0 s.1 s.2) F ((Int.tmod (w64 ((Int.tmod p1 (255 : Int)) + (255 : Int))) (255 : Int)), (UInt8.ofNat 1))) fun z12 => (k z12)))
def T82 (F : Nat) (p0 : UInt8) (p1 : Int) : Option (UInt8) := T82c F p0 p1 some
theorem T82n (F : Nat) (p0 : UInt8) (p1 : Int) {β : Type} (k : UInt8 → Option β) : T82c F p0 p1 k = (T82 F p0 p1).bind k := by
  simp only [T82, T82c, Option.bind_assoc, cond_bind, Option.bind_some, Option.bind_none, elimS_bind]
@[reducible] def cA82 : List Sh := [.u8, .i]
@[reducible] def cB82 : List Sh := [.u8]
@[reducible] def cT82 : List TSh := []
@[reducible] def cU82 : List TSh := []
def ct82 (F : Nat) : Ct := mkC 0 cA82 cT82 cB82 cU82 (fun x y => T82 F x.1 x.2.1) (fun x y (z : UInt8) => ((z, ()), ()))
theorem eq82 (F : Nat) (x : dens cA82) (y : tdens cT82) : sev (E82 F) 0 [([1, 0, 1, 1, 1], lc82_2 F)] (bodyOf Tryd.f82) [] (mkSt (rng 2) cA82 cT82 x y) (kFn (E82 F) 0 Tryd.f82.results.toList cB82 cU82 fun p q => some (p, q)) =
    T82c F x.1 x.2.1 (fun z => some ((z, ()), ())) := by kernel_rfl
theorem ok82 (F : Nat) : Sound Tryd.prog cfg 82 (ct82 F) :=
  mkC_ok (E := E82 F) (lp := [([1, 0, 1, 1, 1], lc82_2 F)]) (code := bodyOf Tryd.f82) Tryd.func82 rfl Tryd.ntmps82 rfl rfl cok (cts82 F) mixed ⟨lo82_2 F, trivial⟩ (by kernel_rfl) (fun x y k => T82c F x.1 x.2.1 k) (fun x y k => T82n F x.1 x.2.1 k) (eq82 F)
end Go.Proofs.YthikoaamigiceaaDoor
/- kinkeep/kinkeepref06.Eval: its twin, and that the call does what the twin says. Printed by a program. -/
namespace Go.Proofs.YthikoaamigiceaaDoor
open Go.Tw
set_option linter.unusedSimpArgs false
set_option linter.unusedVariables false
def ord62 : Nat → List (Tag × Nat)
  | 5 => [(.p, 0), (.p, 1), (.p, 2), (.p, 3), (.c, 4), (.p, 5), (.p, 6), (.w, 7), (.w, 8), (.p, 9), (.p, 10)]
  | _ => []
def al62 : Nat → Option Nat
  | _ => none
def ms62 : Nat → Option (List (Option Tag × Nat × List Nat))
  | _ => none
def E62 (F : Nat) : Ev := ⟨cfg, 24, ctOf [(82, ct82 F), (81, ct81 F)], ord62, ctOf [], al62, ms62⟩
theorem cts62 (F : Nat) : CtsOk Tryd.prog (E62 F) := cts_of (l := [(82, ct82 F), (81, ct81 F)]) (l' := []) rfl rfl ⟨⟨ok82 F, _, Tryd.func82, rfl, rfl⟩, ⟨⟨ok81 F, _, Tryd.func81, rfl, rfl⟩, trivial⟩⟩ trivial
def L62_2c (F : Nat) (y13 : List UInt8) (y14 : UInt8) (y16 : Int) (y15 : UInt8) (y17 : Int) {β : Type} (kA : (UInt8 × Int) → Option β) (kO : UInt8 → Option β) : Option β :=
  (bif (decide (y17 < y16)) then (Option.bind (ix y13 y17) fun x21 => (Option.bind (T82 F y14 y17) fun z22 => (Option.bind (T81 F x21 z22) fun z23 => (kA ((y15 ^^^ z23), (w64 (y17 + (1 : Int)))))))) else (kO y15))
def L62_2 (F : Nat) (y13 : List UInt8) (y14 : UInt8) (y16 : Int) (y15 : UInt8) (y17 : Int) : Option ((UInt8 × Int) ⊕ (UInt8)) := L62_2c F y13 y14 y16 y15 y17 (fun s => some (.inl s)) (fun z => some (.inr z))
theorem L62_2n (F : Nat) (y13 : List UInt8) (y14 : UInt8) (y16 : Int) (y15 : UInt8) (y17 : Int) {β : Type} (kA : (UInt8 × Int) → Option β) (kO : UInt8 → Option β) : L62_2c F y13 y14 y16 y15 y17 kA kO = (L62_2 F y13 y14 y16 y15 y17).bind (elimS kA kO) := by
  simp only [L62_2, L62_2c, Option.bind_assoc, cond_bind, Option.bind_some, Option.bind_none, elimS_l, elimS_r, elimS_bind]
@[reducible] def sA62_2 : List Sh := [(.ro .u8), .u8, .u8, .i, .i]
@[reducible] def sAp162_2 : List Sh := [.u8]
@[reducible] def sT62_2 : List TSh := []
@[reducible] def sTp162_2 : List TSh := []
def lc62_2 (F : Nat) : Lc := mkL [0, 1, 5, 8, 9] sA62_2 sT62_2 [5] sAp162_2 sTp162_2 F (fun x y (s : UInt8 × Int) => L62_2 F x.1 x.2.1 x.2.2.2.1 s.1 s.2) (fun x y => (x.2.2.1, x.2.2.2.2.1)) (fun x y (z : UInt8) => ((z, ()), ()))
theorem le62_2 (F : Nat) (x : dens sA62_2) (y : tdens sT62_2) (s : UInt8 × Int) : sev (E62 F) 0 [] (cAt (bodyOf Tryd.f62) (0 :: 0 :: [1, 0, 1, 1])) (0 :: 0 :: [1, 0, 1, 1]) (mkSt [0, 1, 5, 8, 9] sA62_2 sT62_2 (x.1, x.2.1, s.1, x.2.2.2.1, s.2, ()) ()) (kLoop 0 [0, 1, 5, 8, 9] sA62_2 sT62_2 [5] sAp162_2 sTp162_2 [] [] [] 0 (fun x y => some (.inl (x, y))) (fun x y => some (.inr (.inl (x, y)))) (fun x y => some (.inr (.inr (x, y))))) =
    L62_2c (β := Full sA62_2 sT62_2 sAp162_2 sTp162_2 [] []) F x.1 x.2.1 x.2.2.2.1 s.1 s.2 (fun s => some (.inl ((x.1, x.2.1, s.1, x.2.2.2.1, s.2, ()), ()))) (fun z => some (.inr (.inl ((z, ()), ())))) := by kernel_rfl
theorem lo62_2 (F : Nat) : LcOk Tryd.prog (E62 F) 0 (lc62_2 F) (cAt (bodyOf Tryd.f62) [1, 0, 1, 1]) :=
  mkL_ok (lp := []) (id := 0) (b := cAt (bodyOf Tryd.f62) (0 :: 0 :: [1, 0, 1, 1])) cok (cts62 F) mixed trivial (by kernel_rfl) (by kernel_rfl) (fun x y s => (x.1, x.2.1, s.1, x.2.2.2.1, s.2, ())) (fun x y s => ()) (fun x y => rfl) (fun x y => rfl) (fun x y s kA kO => L62_2c F x.1 x.2.1 x.2.2.2.1 s.1 s.2 kA kO) (fun x y s kA kO => L62_2n F x.1 x.2.1 x.2.2.2.1 s.1 s.2 kA kO) (le62_2 F)
def T62c (F : Nat) (p0 : List UInt8) (p1 : UInt8) {β : Type} (k : UInt8 → Option β) : Option β :=
  (Option.bind (iter (fun s => L62_2 F p0 p1 (p0.length : Int) s.1 s.2) F ((UInt8.ofNat 0), (0 : Int))) fun z24 => (k z24))
def T62 (F : Nat) (p0 : List UInt8) (p1 : UInt8) : Option (UInt8) := T62c F p0 p1 some
theorem T62n (F : Nat) (p0 : List UInt8) (p1 : UInt8) {β : Type} (k : UInt8 → Option β) : T62c F p0 p1 k = (T62 F p0 p1).bind k := by
  simp only [T62, T62c, Option.bind_assoc, cond_bind, Option.bind_some, Option.bind_none, elimS_bind]
@[reducible] def cA62 : List Sh := [(.ro .u8), .u8]
@[reducible] def cB62 : List Sh := [.u8]
@[reducible] def cT62 : List TSh := []
@[reducible] def cU62 : List TSh := []
def ct62 (F : Nat) : Ct := mkC 0 cA62 cT62 cB62 cU62 (fun x y => T62 F x.1 x.2.1) (fun x y (z : UInt8) => ((z, ()), ()))
theorem eq62 (F : Nat) (x : dens cA62) (y : tdens cT62) : sev (E62 F) 0 [([1, 0, 1, 1], lc62_2 F)] (bodyOf Tryd.f62) [] (mkSt (rng 2) cA62 cT62 x y) (kFn (E62 F) 0 Tryd.f62.results.toList cB62 cU62 fun p q => some (p, q)) =
    T62c F x.1 x.2.1 (fun z => some ((z, ()), ())) := by kernel_rfl
theorem ok62 (F : Nat) : Sound Tryd.prog cfg 62 (ct62 F) :=
  mkC_ok (E := E62 F) (lp := [([1, 0, 1, 1], lc62_2 F)]) (code := bodyOf Tryd.f62) Tryd.func62 rfl Tryd.ntmps62 rfl rfl cok (cts62 F) mixed ⟨lo62_2 F, trivial⟩ (by kernel_rfl) (fun x y k => T62c F x.1 x.2.1 k) (fun x y k => T62n F x.1 x.2.1 k) (eq62 F)
end Go.Proofs.YthikoaamigiceaaDoor
/- kinkeep/kinkeepref10.Share: its twin, and that the call does what the twin says. Printed by a program. -/
namespace Go.Proofs.YthikoaamigiceaaDoor
open Go.Tw
set_option linter.unusedSimpArgs false
set_option linter.unusedVariables false
def ord30 : Nat → List (Tag × Nat)
  | 11 => [(.p, 0), (.c, 1), (.p, 2), (.p, 3), (.p, 4), (.w, 5), (.w, 6), (.w, 7), (.p, 8), (.b, 9)]
  | _ => []
def al30 : Nat → Option Nat
  | _ => none
def ms30 : Nat → Option (List (Option Tag × Nat × List Nat))
  | _ => none
def E30 (F : Nat) : Ev := ⟨cfg, 49, ctOf [(62, ct62 F)], ord30, ctOf [], al30, ms30⟩
theorem cts30 (F : Nat) : CtsOk Tryd.prog (E30 F) := cts_of (l := [(62, ct62 F)]) (l' := []) rfl rfl ⟨⟨ok62 F, _, Tryd.func62, rfl, rfl⟩, trivial⟩ trivial
def L30_5c (F : Nat) (y93 : Int) (y96 : List (List UInt8)) (y97 : Int) (y98 : Int) (y101 : List UInt8) {β : Type} (kA : (Int × (List UInt8)) → Option β) (kO : ((List UInt8)) → Option β) : Option β :=
  (bif (decide (y98 < y97)) then (Option.bind (ix y96 y98) fun x106 => (Option.bind (ix x106 y93) fun x107 => (Option.bind (gapp y101 ([x107] : List UInt8)) fun x108 => (kA ((w64 (y98 + (1 : Int))), x108))))) else (kO y101))
def L30_5 (F : Nat) (y93 : Int) (y96 : List (List UInt8)) (y97 : Int) (y98 : Int) (y101 : List UInt8) : Option ((Int × (List UInt8)) ⊕ ((List UInt8))) := L30_5c F y93 y96 y97 y98 y101 (fun s => some (.inl s)) (fun z => some (.inr z))
theorem L30_5n (F : Nat) (y93 : Int) (y96 : List (List UInt8)) (y97 : Int) (y98 : Int) (y101 : List UInt8) {β : Type} (kA : (Int × (List UInt8)) → Option β) (kO : ((List UInt8)) → Option β) : L30_5c F y93 y96 y97 y98 y101 kA kO = (L30_5 F y93 y96 y97 y98 y101).bind (elimS kA kO) := by
  simp only [L30_5, L30_5c, Option.bind_assoc, cond_bind, Option.bind_some, Option.bind_none, elimS_l, elimS_r, elimS_bind]
@[reducible] def sA30_5 : List Sh := [(.ro .u8), (.ro (.sl .u8)), .i, (.pt 0 []), (.pt 1 []), .i, (.rw 2), .i, .i, (.ro (.sl .u8)), .i, .i]
@[reducible] def sAp130_5 : List Sh := [(.ro .u8), (.ro (.sl .u8)), .i, (.pt 0 []), (.pt 1 []), (.rw 2), .i, .i]
@[reducible] def sT30_5 : List TSh := [.blk 30 (.pr .i (.pr .ns .un)), .blk 30 (.pr .i (.pr (.rw 3) .un)), .row 5 .u8, .row 5 .u8]
@[reducible] def sTp130_5 : List TSh := [.blk 30 (.pr .i (.pr .ns .un)), .blk 30 (.pr .i (.pr (.rw 3) .un)), .row 5 .u8, .row 5 .u8]
def lc30_5 (F : Nat) : Lc := mkL [0, 1, 2, 6, 7, 8, 9, 15, 16, 24, 25, 26] sA30_5 sT30_5 [0, 1, 2, 6, 7, 9, 15, 16] sAp130_5 sTp130_5 F (fun x y (s : Int × (List UInt8)) => L30_5 F x.2.2.2.2.2.1 x.2.2.2.2.2.2.2.2.2.1 x.2.2.2.2.2.2.2.2.2.2.1 s.1 s.2) (fun x y => (x.2.2.2.2.2.2.2.2.2.2.2.1, y.2.2.1)) (fun x y (z : (List UInt8)) => ((x.1, x.2.1, x.2.2.1, (), (), (), x.2.2.2.2.2.2.2.1, x.2.2.2.2.2.2.2.2.1, ()), ((y.1.1, (), ()), (y.2.1.1, (), ()), z, y.2.2.2.1, ())))
theorem le30_5 (F : Nat) (x : dens sA30_5) (y : tdens sT30_5) (s : Int × (List UInt8)) : sev (E30 F) 0 [] (cAt (bodyOf Tryd.f30) (0 :: 0 :: [1, 0, 1, 1, 0, 0, 1, 1, 0, 0, 1, 0, 1, 1])) (0 :: 0 :: [1, 0, 1, 1, 0, 0, 1, 1, 0, 0, 1, 0, 1, 1]) (mkSt [0, 1, 2, 6, 7, 8, 9, 15, 16, 24, 25, 26] sA30_5 sT30_5 (x.1, x.2.1, x.2.2.1, (), (), x.2.2.2.2.2.1, (), x.2.2.2.2.2.2.2.1, x.2.2.2.2.2.2.2.2.1, x.2.2.2.2.2.2.2.2.2.1, x.2.2.2.2.2.2.2.2.2.2.1, s.1, ()) ((y.1.1, (), ()), (y.2.1.1, (), ()), s.2, y.2.2.2.1, ())) (kLoop 0 [0, 1, 2, 6, 7, 8, 9, 15, 16, 24, 25, 26] sA30_5 sT30_5 [0, 1, 2, 6, 7, 9, 15, 16] sAp130_5 sTp130_5 [] [] [] 2 (fun x y => some (.inl (x, y))) (fun x y => some (.inr (.inl (x, y)))) (fun x y => some (.inr (.inr (x, y))))) =
    L30_5c (β := Full sA30_5 sT30_5 sAp130_5 sTp130_5 [] []) F x.2.2.2.2.2.1 x.2.2.2.2.2.2.2.2.2.1 x.2.2.2.2.2.2.2.2.2.2.1 s.1 s.2 (fun s => some (.inl ((x.1, x.2.1, x.2.2.1, (), (), x.2.2.2.2.2.1, (), x.2.2.2.2.2.2.2.1, x.2.2.2.2.2.2.2.2.1, x.2.2.2.2.2.2.2.2.2.1, x.2.2.2.2.2.2.2.2.2.2.1, s.1, ()), ((y.1.1, (), ()), (y.2.1.1, (), ()), s.2, y.2.2.2.1, ())))) (fun z => some (.inr (.inl ((x.1, x.2.1, x.2.2.1, (), (), (), x.2.2.2.2.2.2.2.1, x.2.2.2.2.2.2.2.2.1, ()), ((y.1.1, (), ()), (y.2.1.1, (), ()), z, y.2.2.2.1, ()))))) := by kernel_rfl
theorem lo30_5 (F : Nat) : LcOk Tryd.prog (E30 F) 0 (lc30_5 F) (cAt (bodyOf Tryd.f30) [1, 0, 1, 1, 0, 0, 1, 1, 0, 0, 1, 0, 1, 1]) :=
  mkL_ok (lp := []) (id := 2) (b := cAt (bodyOf Tryd.f30) (0 :: 0 :: [1, 0, 1, 1, 0, 0, 1, 1, 0, 0, 1, 0, 1, 1])) cok (cts30 F) mixed trivial (by kernel_rfl) (by kernel_rfl) (fun x y s => (x.1, x.2.1, x.2.2.1, (), (), x.2.2.2.2.2.1, (), x.2.2.2.2.2.2.2.1, x.2.2.2.2.2.2.2.2.1, x.2.2.2.2.2.2.2.2.2.1, x.2.2.2.2.2.2.2.2.2.2.1, s.1, ())) (fun x y s => ((y.1.1, (), ()), (y.2.1.1, (), ()), s.2, y.2.2.2.1, ())) (fun x y => rfl) (fun x y => rfl) (fun x y s kA kO => L30_5c F x.2.2.2.2.2.1 x.2.2.2.2.2.2.2.2.2.1 x.2.2.2.2.2.2.2.2.2.2.1 s.1 s.2 kA kO) (fun x y s kA kO => L30_5n F x.2.2.2.2.2.1 x.2.2.2.2.2.2.2.2.2.1 x.2.2.2.2.2.2.2.2.2.2.1 s.1 s.2 kA kO) (le30_5 F)
def L30_4c (F : Nat) (y77 : List UInt8) (y78 : List (List UInt8)) (y79 : Int) (y80 : Int) (y81 : Int) (y84 : List UInt8) {β : Type} (kA : (Int × (List UInt8)) → Option β) (kO : ((List UInt8)) → Option β) : Option β :=
  (bif (decide (y81 < y80)) then (Option.bind (ix y77 y81) fun x89 => (Option.bind (iter (fun s => L30_5 F y81 y78 (y78.length : Int) s.1 s.2) F ((0 : Int), ([x89] : List UInt8))) fun z109 => (Option.bind (T62 F z109 (UInt8.ofInt y79)) fun z110 => (Option.bind (gapp y84 ([z110] : List UInt8)) fun x111 => (kA ((w64 (y81 + (1 : Int))), x111)))))) else (kO y84))
def L30_4 (F : Nat) (y77 : List UInt8) (y78 : List (List UInt8)) (y79 : Int) (y80 : Int) (y81 : Int) (y84 : List UInt8) : Option ((Int × (List UInt8)) ⊕ ((List UInt8))) := L30_4c F y77 y78 y79 y80 y81 y84 (fun s => some (.inl s)) (fun z => some (.inr z))
theorem L30_4n (F : Nat) (y77 : List UInt8) (y78 : List (List UInt8)) (y79 : Int) (y80 : Int) (y81 : Int) (y84 : List UInt8) {β : Type} (kA : (Int × (List UInt8)) → Option β) (kO : ((List UInt8)) → Option β) : L30_4c F y77 y78 y79 y80 y81 y84 kA kO = (L30_4 F y77 y78 y79 y80 y81 y84).bind (elimS kA kO) := by
  simp only [L30_4, L30_4c, Option.bind_assoc, cond_bind, Option.bind_some, Option.bind_none, elimS_l, elimS_r, elimS_bind]
@[reducible] def sA30_4 : List Sh := [(.ro .u8), (.ro (.sl .u8)), .i, (.pt 0 []), (.pt 1 []), .i, .i]
@[reducible] def sAp130_4 : List Sh := [(.pt 0 []), (.pt 1 [])]
@[reducible] def sT30_4 : List TSh := [.blk 30 (.pr .i (.pr .ns .un)), .blk 30 (.pr .i (.pr (.rw 2) .un)), .row 5 .u8]
@[reducible] def sTp130_4 : List TSh := [.blk 30 (.pr .i (.pr .ns .un)), .blk 30 (.pr .i (.pr (.rw 2) .un)), .row 5 .u8]
def lc30_4 (F : Nat) : Lc := mkL [0, 1, 2, 6, 7, 15, 16] sA30_4 sT30_4 [6, 7] sAp130_4 sTp130_4 F (fun x y (s : Int × (List UInt8)) => L30_4 F x.1 x.2.1 x.2.2.1 x.2.2.2.2.2.1 s.1 s.2) (fun x y => (x.2.2.2.2.2.2.1, y.2.2.1)) (fun x y (z : (List UInt8)) => (((), (), ()), ((y.1.1, (), ()), (y.2.1.1, (), ()), z, ())))
theorem le30_4 (F : Nat) (x : dens sA30_4) (y : tdens sT30_4) (s : Int × (List UInt8)) : sev (E30 F) 0 [([1, 0, 1, 1, 0, 0, 1, 1, 0, 0, 1, 0, 1, 1], lc30_5 F)] (cAt (bodyOf Tryd.f30) (0 :: 0 :: [1, 0, 1, 1])) (0 :: 0 :: [1, 0, 1, 1]) (mkSt [0, 1, 2, 6, 7, 15, 16] sA30_4 sT30_4 (x.1, x.2.1, x.2.2.1, (), (), x.2.2.2.2.2.1, s.1, ()) ((y.1.1, (), ()), (y.2.1.1, (), ()), s.2, ())) (kLoop 0 [0, 1, 2, 6, 7, 15, 16] sA30_4 sT30_4 [6, 7] sAp130_4 sTp130_4 [] [] [] 0 (fun x y => some (.inl (x, y))) (fun x y => some (.inr (.inl (x, y)))) (fun x y => some (.inr (.inr (x, y))))) =
    L30_4c (β := Full sA30_4 sT30_4 sAp130_4 sTp130_4 [] []) F x.1 x.2.1 x.2.2.1 x.2.2.2.2.2.1 s.1 s.2 (fun s => some (.inl ((x.1, x.2.1, x.2.2.1, (), (), x.2.2.2.2.2.1, s.1, ()), ((y.1.1, (), ()), (y.2.1.1, (), ()), s.2, ())))) (fun z => some (.inr (.inl (((), (), ()), ((y.1.1, (), ()), (y.2.1.1, (), ()), z, ()))))) := by kernel_rfl
theorem lo30_4 (F : Nat) : LcOk Tryd.prog (E30 F) 0 (lc30_4 F) (cAt (bodyOf Tryd.f30) [1, 0, 1, 1]) :=
  mkL_ok (lp := [([1, 0, 1, 1, 0, 0, 1, 1, 0, 0, 1, 0, 1, 1], lc30_5 F)]) (id := 0) (b := cAt (bodyOf Tryd.f30) (0 :: 0 :: [1, 0, 1, 1])) cok (cts30 F) mixed ⟨lo30_5 F, trivial⟩ (by kernel_rfl) (by kernel_rfl) (fun x y s => (x.1, x.2.1, x.2.2.1, (), (), x.2.2.2.2.2.1, s.1, ())) (fun x y s => ((y.1.1, (), ()), (y.2.1.1, (), ()), s.2, ())) (fun x y => rfl) (fun x y => rfl) (fun x y s kA kO => L30_4c F x.1 x.2.1 x.2.2.1 x.2.2.2.2.2.1 s.1 s.2 kA kO) (fun x y s kA kO => L30_4n F x.1 x.2.1 x.2.2.1 x.2.2.2.2.2.1 s.1 s.2 kA kO) (le30_4 F)
def T30c (F : Nat) (p0 : List UInt8) (p1 : List (List UInt8)) (p2 : Int) {β : Type} (k : ((List UInt8)) → Option β) : Option β :=
  (Option.bind (iter (fun s => L30_4 F p0 p1 p2 (p0.length : Int) s.1 s.2) F ((0 : Int), ([] : List UInt8))) fun z112 => (k z112))
def T30 (F : Nat) (p0 : List UInt8) (p1 : List (List UInt8)) (p2 : Int) : Option ((List UInt8)) := T30c F p0 p1 p2 some
theorem T30n (F : Nat) (p0 : List UInt8) (p1 : List (List UInt8)) (p2 : Int) {β : Type} (k : ((List UInt8)) → Option β) : T30c F p0 p1 p2 k = (T30 F p0 p1 p2).bind k := by
  simp only [T30, T30c, Option.bind_assoc, cond_bind, Option.bind_some, Option.bind_none, elimS_bind]
@[reducible] def cA30 : List Sh := [(.ro .u8), (.ro (.sl .u8)), .i]
@[reducible] def cB30 : List Sh := [(.pr .i (.pr (.rw 0) .un))]
@[reducible] def cT30 : List TSh := []
@[reducible] def cU30 : List TSh := [.row 5 .u8]
def ct30 (F : Nat) : Ct := mkC 0 cA30 cT30 cB30 cU30 (fun x y => T30 F x.1 x.2.1 x.2.2.1) (fun x y (z : (List UInt8)) => (((x.2.2.1, (), ()), ()), (z, ())))
theorem eq30 (F : Nat) (x : dens cA30) (y : tdens cT30) : sev (E30 F) 0 [([1, 0, 1, 1], lc30_4 F)] (bodyOf Tryd.f30) [] (mkSt (rng 3) cA30 cT30 x y) (kFn (E30 F) 0 Tryd.f30.results.toList cB30 cU30 fun p q => some (p, q)) =
    T30c F x.1 x.2.1 x.2.2.1 (fun z => some (((x.2.2.1, (), ()), ()), (z, ()))) := by kernel_rfl
theorem ok30 (F : Nat) : Sound Tryd.prog cfg 30 (ct30 F) :=
  mkC_ok (E := E30 F) (lp := [([1, 0, 1, 1], lc30_4 F)]) (code := bodyOf Tryd.f30) Tryd.func30 rfl Tryd.ntmps30 rfl rfl cok (cts30 F) mixed ⟨lo30_4 F, trivial⟩ (by kernel_rfl) (fun x y k => T30c F x.1 x.2.1 x.2.2.1 k) (fun x y k => T30n F x.1 x.2.1 x.2.2.1 k) (eq30 F)
end Go.Proofs.YthikoaamigiceaaDoor
/- kinkeep/kinkeepref31.Shares: its twin, and that the call does what the twin says. Printed by a program. -/
namespace Go.Proofs.YthikoaamigiceaaDoor
open Go.Tw
set_option linter.unusedSimpArgs false
set_option linter.unusedVariables false
def ord11 : Nat → List (Tag × Nat)
  | _ => []
def al11 : Nat → Option Nat
  | _ => none
def ms11 : Nat → Option (List (Option Tag × Nat × List Nat))
  | _ => none
def E11 (F : Nat) : Ev := ⟨cfg, 80, ctOf [(29, ct29 F), (30, ct30 F)], ord11, ctOf [], al11, ms11⟩
theorem cts11 (F : Nat) : CtsOk Tryd.prog (E11 F) := cts_of (l := [(29, ct29 F), (30, ct30 F)]) (l' := []) rfl rfl ⟨⟨ok29 F, _, Tryd.func29, rfl, rfl⟩, ⟨⟨ok30 F, _, Tryd.func30, rfl, rfl⟩, trivial⟩⟩ trivial
def L11_3c (F : Nat) (y30 : Int) (y32 : List UInt8) (y33 : Int) (y34 : List (List UInt8)) {β : Type} (kA : (Int × (List (List UInt8))) → Option β) (kO : ((List (List UInt8))) → Option β) : Option β :=
  (bif (decide (y33 < (w64 (y30 - (1 : Int))))) then (Option.bind (gsl y32 (w64 ((32 : Int) * y33)) (w64 ((w64 ((32 : Int) * y33)) + (32 : Int)))) fun x37 => (Option.bind (gapp y34 ([x37] : List (List UInt8))) fun x38 => (kA ((w64 (y33 + (1 : Int))), x38)))) else (kO y34))
def L11_3 (F : Nat) (y30 : Int) (y32 : List UInt8) (y33 : Int) (y34 : List (List UInt8)) : Option ((Int × (List (List UInt8))) ⊕ ((List (List UInt8)))) := L11_3c F y30 y32 y33 y34 (fun s => some (.inl s)) (fun z => some (.inr z))
theorem L11_3n (F : Nat) (y30 : Int) (y32 : List UInt8) (y33 : Int) (y34 : List (List UInt8)) {β : Type} (kA : (Int × (List (List UInt8))) → Option β) (kO : ((List (List UInt8))) → Option β) : L11_3c F y30 y32 y33 y34 kA kO = (L11_3 F y30 y32 y33 y34).bind (elimS kA kO) := by
  simp only [L11_3, L11_3c, Option.bind_assoc, cond_bind, Option.bind_some, Option.bind_none, elimS_l, elimS_r, elimS_bind]
@[reducible] def sA11_3 : List Sh := [.str, .i, (.ro .i), (.ro .u8), (.rw 0), .i]
@[reducible] def sAp111_3 : List Sh := [.str, (.ro .i), (.rw 0)]
@[reducible] def sT11_3 : List TSh := [.row 23 (.sl .u8)]
@[reducible] def sTp111_3 : List TSh := [.row 23 (.sl .u8)]
def lc11_3 (F : Nat) : Lc := mkL [0, 1, 2, 3, 10, 11] sA11_3 sT11_3 [0, 2, 10] sAp111_3 sTp111_3 F (fun x y (s : Int × (List (List UInt8))) => L11_3 F x.2.1 x.2.2.2.1 s.1 s.2) (fun x y => (x.2.2.2.2.2.1, y.1)) (fun x y (z : (List (List UInt8))) => ((x.1, x.2.2.1, (), ()), (z, ())))
theorem le11_3 (F : Nat) (x : dens sA11_3) (y : tdens sT11_3) (s : Int × (List (List UInt8))) : sev (E11 F) 0 [] (cAt (bodyOf Tryd.f11) (0 :: 0 :: [1, 0, 1, 1, 1])) (0 :: 0 :: [1, 0, 1, 1, 1]) (mkSt [0, 1, 2, 3, 10, 11] sA11_3 sT11_3 (x.1, x.2.1, x.2.2.1, x.2.2.2.1, (), s.1, ()) (s.2, ())) (kLoop 0 [0, 1, 2, 3, 10, 11] sA11_3 sT11_3 [0, 2, 10] sAp111_3 sTp111_3 [] [] [] 0 (fun x y => some (.inl (x, y))) (fun x y => some (.inr (.inl (x, y)))) (fun x y => some (.inr (.inr (x, y))))) =
    L11_3c (β := Full sA11_3 sT11_3 sAp111_3 sTp111_3 [] []) F x.2.1 x.2.2.2.1 s.1 s.2 (fun s => some (.inl ((x.1, x.2.1, x.2.2.1, x.2.2.2.1, (), s.1, ()), (s.2, ())))) (fun z => some (.inr (.inl ((x.1, x.2.2.1, (), ()), (z, ()))))) := by kernel_rfl
theorem lo11_3 (F : Nat) : LcOk Tryd.prog (E11 F) 0 (lc11_3 F) (cAt (bodyOf Tryd.f11) [1, 0, 1, 1, 1]) :=
  mkL_ok (lp := []) (id := 0) (b := cAt (bodyOf Tryd.f11) (0 :: 0 :: [1, 0, 1, 1, 1])) cok (cts11 F) mixed trivial (by kernel_rfl) (by kernel_rfl) (fun x y s => (x.1, x.2.1, x.2.2.1, x.2.2.2.1, (), s.1, ())) (fun x y s => (s.2, ())) (fun x y => rfl) (fun x y => rfl) (fun x y s kA kO => L11_3c F x.2.1 x.2.2.2.1 s.1 s.2 kA kO) (fun x y s kA kO => L11_3n F x.2.1 x.2.2.2.1 s.1 s.2 kA kO) (le11_3 F)
def L11_4c (F : Nat) (y40 : List UInt8) (y41 : List Int) (y42 : Int) (y44 : List (List UInt8)) (y43 : Int) (y45 : List (Int × (List UInt8) × Unit)) {β : Type} (kA : (Int × (List (Int × (List UInt8) × Unit))) → Option β) (kO : ((List (Int × (List UInt8) × Unit))) → Option β) : Option β :=
  (bif (decide (y43 < y42)) then (Option.bind (ix y41 y43) fun x50 => (Option.bind (gstr y40) fun x51 => (Option.bind (T30 F x51 y44 (w64 (x50 + (1 : Int)))) fun z52 => (Option.bind (gapp y45 ([((w64 (x50 + (1 : Int))), z52, ())] : List (Int × (List UInt8) × Unit))) fun x53 => (kA ((w64 (y43 + (1 : Int))), x53)))))) else (kO y45))
def L11_4 (F : Nat) (y40 : List UInt8) (y41 : List Int) (y42 : Int) (y44 : List (List UInt8)) (y43 : Int) (y45 : List (Int × (List UInt8) × Unit)) : Option ((Int × (List (Int × (List UInt8) × Unit))) ⊕ ((List (Int × (List UInt8) × Unit)))) := L11_4c F y40 y41 y42 y44 y43 y45 (fun s => some (.inl s)) (fun z => some (.inr z))
theorem L11_4n (F : Nat) (y40 : List UInt8) (y41 : List Int) (y42 : Int) (y44 : List (List UInt8)) (y43 : Int) (y45 : List (Int × (List UInt8) × Unit)) {β : Type} (kA : (Int × (List (Int × (List UInt8) × Unit))) → Option β) (kO : ((List (Int × (List UInt8) × Unit))) → Option β) : L11_4c F y40 y41 y42 y44 y43 y45 kA kO = (L11_4 F y40 y41 y42 y44 y43 y45).bind (elimS kA kO) := by
  simp only [L11_4, L11_4c, Option.bind_assoc, cond_bind, Option.bind_some, Option.bind_none, elimS_l, elimS_r, elimS_bind]
@[reducible] def sA11_4 : List Sh := [.str, (.rw 0), (.rw 1), (.ro .i), .i, .i]
@[reducible] def sAp111_4 : List Sh := [(.rw 0)]
@[reducible] def sT11_4 : List TSh := [.row 23 (.sl .u8), .row 30 (.pr .i (.pr (.sl .u8) .un))]
@[reducible] def sTp111_4 : List TSh := [.row 30 (.pr .i (.pr (.sl .u8) .un))]
def lc11_4 (F : Nat) : Lc := mkL [0, 10, 12, 63, 64, 65] sA11_4 sT11_4 [12] sAp111_4 sTp111_4 F (fun x y (s : Int × (List (Int × (List UInt8) × Unit))) => L11_4 F x.1 x.2.2.2.1 x.2.2.2.2.1 y.1 s.1 s.2) (fun x y => (x.2.2.2.2.2.1, y.2.1)) (fun x y (z : (List (Int × (List UInt8) × Unit))) => (((), ()), (z, ())))
theorem le11_4 (F : Nat) (x : dens sA11_4) (y : tdens sT11_4) (s : Int × (List (Int × (List UInt8) × Unit))) : sev (E11 F) 0 [] (cAt (bodyOf Tryd.f11) (0 :: 0 :: [1, 0, 1, 1, 1, 1, 1])) (0 :: 0 :: [1, 0, 1, 1, 1, 1, 1]) (mkSt [0, 10, 12, 63, 64, 65] sA11_4 sT11_4 (x.1, (), (), x.2.2.2.1, x.2.2.2.2.1, s.1, ()) (y.1, s.2, ())) (kLoop 0 [0, 10, 12, 63, 64, 65] sA11_4 sT11_4 [12] sAp111_4 sTp111_4 [] [] [] 2 (fun x y => some (.inl (x, y))) (fun x y => some (.inr (.inl (x, y)))) (fun x y => some (.inr (.inr (x, y))))) =
    L11_4c (β := Full sA11_4 sT11_4 sAp111_4 sTp111_4 [] []) F x.1 x.2.2.2.1 x.2.2.2.2.1 y.1 s.1 s.2 (fun s => some (.inl ((x.1, (), (), x.2.2.2.1, x.2.2.2.2.1, s.1, ()), (y.1, s.2, ())))) (fun z => some (.inr (.inl (((), ()), (z, ()))))) := by kernel_rfl
theorem lo11_4 (F : Nat) : LcOk Tryd.prog (E11 F) 0 (lc11_4 F) (cAt (bodyOf Tryd.f11) [1, 0, 1, 1, 1, 1, 1]) :=
  mkL_ok (lp := []) (id := 2) (b := cAt (bodyOf Tryd.f11) (0 :: 0 :: [1, 0, 1, 1, 1, 1, 1])) cok (cts11 F) mixed trivial (by kernel_rfl) (by kernel_rfl) (fun x y s => (x.1, (), (), x.2.2.2.1, x.2.2.2.2.1, s.1, ())) (fun x y s => (y.1, s.2, ())) (fun x y => rfl) (fun x y => rfl) (fun x y s kA kO => L11_4c F x.1 x.2.2.2.1 x.2.2.2.2.1 y.1 s.1 s.2 kA kO) (fun x y s kA kO => L11_4n F x.1 x.2.2.2.1 x.2.2.2.2.1 y.1 s.1 s.2 kA kO) (le11_4 F)
def T11c (F : Nat) (p0 : List UInt8) (p1 : Int) (p2 : List Int) (p3 : List UInt8) {β : Type} (k : (Int × (List (Int × (List UInt8) × Unit))) → Option β) : Option β :=
  (bif ((p0.length : Int) != (32 : Int)) then (k ((1 : Int), ([] : List (Int × (List UInt8) × Unit)))) else (bif (decide (p1 < (1 : Int))) then (k ((1 : Int), ([] : List (Int × (List UInt8) × Unit)))) else (bif (decide ((12 : Int) < p1)) then (k ((1 : Int), ([] : List (Int × (List UInt8) × Unit)))) else (Option.bind (T29 F p2 (0 : Int) (11 : Int)) fun z28 => (bif (!z28) then (k ((1 : Int), ([] : List (Int × (List UInt8) × Unit)))) else (bif (decide ((p2.length : Int) < p1)) then (k ((1 : Int), ([] : List (Int × (List UInt8) × Unit)))) else (bif ((p3.length : Int) != (w64 ((32 : Int) * (w64 (p1 - (1 : Int)))))) then (k ((1 : Int), ([] : List (Int × (List UInt8) × Unit)))) else (Option.bind (iter (fun s => L11_3 F p1 p3 s.1 s.2) F ((0 : Int), ([] : List (List UInt8)))) fun z39 => (Option.bind (iter (fun s => L11_4 F p0 p2 (p2.length : Int) z39 s.1 s.2) F ((0 : Int), ([] : List (Int × (List UInt8) × Unit)))) fun z54 => (k ((0 : Int), z54)))))))))))
def T11 (F : Nat) (p0 : List UInt8) (p1 : Int) (p2 : List Int) (p3 : List UInt8) : Option (Int × (List (Int × (List UInt8) × Unit))) := T11c F p0 p1 p2 p3 some
theorem T11n (F : Nat) (p0 : List UInt8) (p1 : Int) (p2 : List Int) (p3 : List UInt8) {β : Type} (k : (Int × (List (Int × (List UInt8) × Unit))) → Option β) : T11c F p0 p1 p2 p3 k = (T11 F p0 p1 p2 p3).bind k := by
  simp only [T11, T11c, Option.bind_assoc, cond_bind, Option.bind_some, Option.bind_none, elimS_bind]
@[reducible] def cA11 : List Sh := [.str, .i, (.ro .i), (.ro .u8)]
@[reducible] def cB11 : List Sh := [(.rw 0), .i]
@[reducible] def cT11 : List TSh := []
@[reducible] def cU11 : List TSh := [.row 30 (.pr .i (.pr (.sl .u8) .un))]
def ct11 (F : Nat) : Ct := mkC 0 cA11 cT11 cB11 cU11 (fun x y => T11 F x.1 x.2.1 x.2.2.1 x.2.2.2.1) (fun x y (z : Int × (List (Int × (List UInt8) × Unit))) => (((), z.1, ()), (z.2, ())))
theorem eq11 (F : Nat) (x : dens cA11) (y : tdens cT11) : sev (E11 F) 0 [([1, 0, 1, 1, 1], lc11_3 F), ([1, 0, 1, 1, 1, 1, 1], lc11_4 F)] (bodyOf Tryd.f11) [] (mkSt (rng 4) cA11 cT11 x y) (kFn (E11 F) 0 Tryd.f11.results.toList cB11 cU11 fun p q => some (p, q)) =
    T11c F x.1 x.2.1 x.2.2.1 x.2.2.2.1 (fun z => some (((), z.1, ()), (z.2, ()))) := by kernel_rfl
theorem ok11 (F : Nat) : Sound Tryd.prog cfg 11 (ct11 F) :=
  mkC_ok (E := E11 F) (lp := [([1, 0, 1, 1, 1], lc11_3 F), ([1, 0, 1, 1, 1, 1, 1], lc11_4 F)]) (code := bodyOf Tryd.f11) Tryd.func11 rfl Tryd.ntmps11 rfl rfl cok (cts11 F) mixed ⟨lo11_3 F, ⟨lo11_4 F, trivial⟩⟩ (by kernel_rfl) (fun x y k => T11c F x.1 x.2.1 x.2.2.1 x.2.2.2.1 k) (fun x y k => T11n F x.1 x.2.1 x.2.2.1 x.2.2.2.1 k) (eq11 F)
end Go.Proofs.YthikoaamigiceaaDoor
/- kinkeep/kinkeeplaw31.KeyringShares: its twin, and that the call does what the twin says. Printed by a program. -/
namespace Go.Proofs.YthikoaamigiceaaDoor
open Go.Tw
set_option linter.unusedSimpArgs false
set_option linter.unusedVariables false
def ord3 : Nat → List (Tag × Nat)
  | 10 => [(.p, 0), (.p, 1), (.p, 2), (.p, 3), (.r, 4), (.p, 5), (.p, 6), (.p, 7), (.p, 8), (.r, 9), (.p, 10), (.p, 11), (.p, 12), (.p, 13), (.p, 14), (.p, 15), (.r, 16), (.r, 17), (.p, 18), (.p, 19), (.p, 20), (.p, 21), (.r, 22), (.r, 23), (.p, 24), (.p, 25)]
  | _ => []
def al3 : Nat → Option Nat
  | _ => none
def ms3 : Nat → Option (List (Option Tag × Nat × List Nat))
  | _ => none
def E3 (F : Nat) : Ev := ⟨cfg, 90, ctOf [(9, ct9 F), (10, ct10 F), (11, ct11 F)], ord3, ctOf [], al3, ms3⟩
theorem cts3 (F : Nat) : CtsOk Tryd.prog (E3 F) := cts_of (l := [(9, ct9 F), (10, ct10 F), (11, ct11 F)]) (l' := []) rfl rfl ⟨⟨ok9 F, _, Tryd.func9, rfl, rfl⟩, ⟨⟨ok10 F, _, Tryd.func10, rfl, rfl⟩, ⟨⟨ok11 F, _, Tryd.func11, rfl, rfl⟩, trivial⟩⟩⟩ trivial
def L3_2c (F : Nat) (y36 : Int) (y38 : List (Int × (List UInt8) × Unit)) (y39 : List (Int × (List UInt8) × Unit)) (y37 : Int) {β : Type} (kA : Int → Option β) (kO : Unit → Option β) (kR : Bool → Option β) : Option β :=
  (bif (decide (y37 < y36)) then (Option.bind (inb y38.length y37) fun x48 => (Option.bind (y38[x48]?) fun x49 => (Option.bind (inb y39.length y37) fun x50 => (Option.bind (y39[x50]?) fun x51 => (bif (x49.1 != x51.1) then (kR false) else (Option.bind (inb y38.length y37) fun x52 => (Option.bind (y38[x52]?) fun x53 => (Option.bind (inb y39.length y37) fun x54 => (Option.bind (y39[x54]?) fun x55 => (bif (x53.2.1 != x55.2.1) then (kR false) else (kA (w64 (y37 + (1 : Int)))))))))))))) else (kO ()))
def L3_2 (F : Nat) (y36 : Int) (y38 : List (Int × (List UInt8) × Unit)) (y39 : List (Int × (List UInt8) × Unit)) (y37 : Int) : Option ((Int) ⊕ ((Unit) ⊕ (Bool))) := L3_2c F y36 y38 y39 y37 (fun s => some (.inl s)) (fun z => some (.inr (.inl z))) (fun z => some (.inr (.inr z)))
theorem L3_2n (F : Nat) (y36 : Int) (y38 : List (Int × (List UInt8) × Unit)) (y39 : List (Int × (List UInt8) × Unit)) (y37 : Int) {β : Type} (kA : Int → Option β) (kO : Unit → Option β) (kR : Bool → Option β) : L3_2c F y36 y38 y39 y37 kA kO kR = (L3_2 F y36 y38 y39 y37).bind (elimS kA (elimS kO kR)) := by
  simp only [L3_2, L3_2c, Option.bind_assoc, cond_bind, Option.bind_some, Option.bind_none, elimS_l, elimS_r, elimS_bind]
@[reducible] def sA3_2 : List Sh := [(.rw 0), (.rw 1), .i, .i]
@[reducible] def sAp13_2 : List Sh := []
@[reducible] def sAp23_2 : List Sh := [.bo]
@[reducible] def sT3_2 : List TSh := [.row 30 (.pr .i (.pr (.sl .u8) .un)), .row 30 (.pr .i (.pr (.sl .u8) .un))]
@[reducible] def sTp13_2 : List TSh := []
@[reducible] def sTp23_2 : List TSh := []
def lc3_2 (F : Nat) : Lc := mkR [9, 11, 59, 60] sA3_2 sT3_2 [] sAp13_2 sTp13_2 [8] sAp23_2 sTp23_2 F (fun x y (s : Int) => L3_2 F x.2.2.1 y.1 y.2.1 s) (fun x y => x.2.2.2.1) (fun x y (z : Unit) => ((), ())) (fun x y (z : Bool) => ((z, ()), ()))
theorem le3_2 (F : Nat) (x : dens sA3_2) (y : tdens sT3_2) (s : Int) : sev (E3 F) 0 [] (cAt (bodyOf Tryd.f3) (0 :: 0 :: [1, 0, 1, 1, 1, 1, 1])) (0 :: 0 :: [1, 0, 1, 1, 1, 1, 1]) (mkSt [9, 11, 59, 60] sA3_2 sT3_2 ((), (), x.2.2.1, s, ()) (y.1, y.2.1, ())) (kLoop 0 [9, 11, 59, 60] sA3_2 sT3_2 [] sAp13_2 sTp13_2 [8] sAp23_2 sTp23_2 0 (fun x y => some (.inl (x, y))) (fun x y => some (.inr (.inl (x, y)))) (fun x y => some (.inr (.inr (x, y))))) =
    L3_2c (β := Full sA3_2 sT3_2 sAp13_2 sTp13_2 sAp23_2 sTp23_2) F x.2.2.1 y.1 y.2.1 s (fun s => some (.inl (((), (), x.2.2.1, s, ()), (y.1, y.2.1, ())))) (fun z => some (.inr (.inl ((), ())))) (fun z => some (.inr (.inr ((z, ()), ())))) := by kernel_rfl
theorem lo3_2 (F : Nat) : LcOk Tryd.prog (E3 F) 0 (lc3_2 F) (cAt (bodyOf Tryd.f3) [1, 0, 1, 1, 1, 1, 1]) :=
  mkR_ok (lp := []) (id := 0) (b := cAt (bodyOf Tryd.f3) (0 :: 0 :: [1, 0, 1, 1, 1, 1, 1])) cok (cts3 F) mixed trivial (by kernel_rfl) (by kernel_rfl) (fun x y s => ((), (), x.2.2.1, s, ())) (fun x y s => (y.1, y.2.1, ())) (fun x y => rfl) (fun x y => rfl) (fun x y s kA kO kR => L3_2c F x.2.2.1 y.1 y.2.1 s kA kO kR) (fun x y s kA kO kR => L3_2n F x.2.2.1 y.1 y.2.1 s kA kO kR) (le3_2 F)
def T3c (F : Nat) (p0 : List UInt8) (p1 : Int) (p2 : List Int) (p3 : List UInt8) {β : Type} (k : Bool → Option β) : Option β :=
  (Option.bind (T9 F) fun z29 => (bif (!z29) then (Option.bind (T9 F) fun z30 => (k z30)) else (bif (decide ((100 : Int) < (p0.length : Int))) then (Option.bind (T9 F) fun z31 => (k z31)) else (bif (decide ((20 : Int) < (p2.length : Int))) then (Option.bind (T9 F) fun z32 => (k z32)) else (bif (decide ((400 : Int) < (p3.length : Int))) then (Option.bind (T9 F) fun z33 => (k z33)) else (Option.bind (T10 F p0 p1 p2 p3) fun z34 => (Option.bind (T11 F p0 p1 p2 p3) fun z35 => (bif (z34.1 != z35.1) then (k false) else (bif ((z34.2.length : Int) != (z35.2.length : Int)) then (k false) else (Option.bind (iter (fun s => L3_2 F (z34.2.length : Int) z34.2 z35.2 s) F (0 : Int)) fun z56 => elimS (fun z56 => (k true)) (fun z56 => (k z56)) z56))))))))))
def T3 (F : Nat) (p0 : List UInt8) (p1 : Int) (p2 : List Int) (p3 : List UInt8) : Option (Bool) := T3c F p0 p1 p2 p3 some
theorem T3n (F : Nat) (p0 : List UInt8) (p1 : Int) (p2 : List Int) (p3 : List UInt8) {β : Type} (k : Bool → Option β) : T3c F p0 p1 p2 p3 k = (T3 F p0 p1 p2 p3).bind k := by
  simp only [T3, T3c, Option.bind_assoc, cond_bind, Option.bind_some, Option.bind_none, elimS_bind]
@[reducible] def cA3 : List Sh := [.str, .i, (.ro .i), (.ro .u8)]
@[reducible] def cB3 : List Sh := [.bo]
@[reducible] def cT3 : List TSh := []
@[reducible] def cU3 : List TSh := []
def ct3 (F : Nat) : Ct := mkC 0 cA3 cT3 cB3 cU3 (fun x y => T3 F x.1 x.2.1 x.2.2.1 x.2.2.2.1) (fun x y (z : Bool) => ((z, ()), ()))
theorem eq3 (F : Nat) (x : dens cA3) (y : tdens cT3) : sev (E3 F) 0 [([1, 0, 1, 1, 1, 1, 1], lc3_2 F)] (bodyOf Tryd.f3) [] (mkSt (rng 4) cA3 cT3 x y) (kFn (E3 F) 0 Tryd.f3.results.toList cB3 cU3 fun p q => some (p, q)) =
    T3c F x.1 x.2.1 x.2.2.1 x.2.2.2.1 (fun z => some ((z, ()), ())) := by kernel_rfl
theorem ok3 (F : Nat) : Sound Tryd.prog cfg 3 (ct3 F) :=
  mkC_ok (E := E3 F) (lp := [([1, 0, 1, 1, 1, 1, 1], lc3_2 F)]) (code := bodyOf Tryd.f3) Tryd.func3 rfl Tryd.ntmps3 rfl rfl cok (cts3 F) mixed ⟨lo3_2 F, trivial⟩ (by kernel_rfl) (fun x y k => T3c F x.1 x.2.1 x.2.2.1 x.2.2.2.1 k) (fun x y k => T3n F x.1 x.2.1 x.2.2.1 x.2.2.2.1 k) (eq3 F)
end Go.Proofs.YthikoaamigiceaaDoor
/- The field of 256 elements. No program is in it. -/
namespace Go.Tw
set_option linter.unusedSimpArgs false
/-- Doubling in the field of 256 elements. -/
def gd (x : UInt8) : UInt8 := bif (x &&& 128) != 0 then (x <<< 1) ^^^ 29 else x <<< 1
def bit0 (b a : UInt8) : UInt8 := bif (b &&& 1) == 1 then a else 0
/-- The product by the bits of the second factor. -/
def gml : Nat → UInt8 → UInt8 → UInt8
  | 0, _, _ => 0
  | n + 1, a, b => bit0 b a ^^^ gml n (gd a) (b >>> 1)
def gm (a b : UInt8) : UInt8 := gml 8 a b

theorem allU {p : UInt8 → Prop} (h : ∀ i : _root_.Fin 256, p (UInt8.ofNat i.val)) (x : UInt8) : p x := by
  have := h ⟨x.toNat, x.toNat_lt⟩
  simpa using this
theorem lo1 (b : UInt8) : b &&& 1 = 0 ∨ b &&& 1 = 1 := allU (p := fun b => b &&& 1 = 0 ∨ b &&& 1 = 1) (by decide +kernel) b
theorem hi1 (b : UInt8) : b &&& 128 = 0 ∨ b &&& 128 = 128 := allU (p := fun b => b &&& 128 = 0 ∨ b &&& 128 = 128) (by decide +kernel) b
theorem and_xor (a b c : UInt8) : (a ^^^ b) &&& c = (a &&& c) ^^^ (b &&& c) := by
  apply UInt8.toBitVec_inj.1
  simp only [UInt8.toBitVec_and, UInt8.toBitVec_xor]
  ext i hi
  simp [Bool.and_xor_distrib_right]
theorem shr_xor (a b : UInt8) : (a ^^^ b) >>> 1 = (a >>> 1) ^^^ (b >>> 1) := by
  apply UInt8.toBitVec_inj.1
  simp only [UInt8.toBitVec_shiftRight, UInt8.toBitVec_xor]
  ext i hi
  simp
theorem shl_xor (a b : UInt8) : (a ^^^ b) <<< 1 = (a <<< 1) ^^^ (b <<< 1) := by
  apply UInt8.toBitVec_inj.1
  simp only [UInt8.toBitVec_shiftLeft, UInt8.toBitVec_xor]
  ext i hi
  simp [Bool.and_xor_distrib_left]
theorem xz (a : UInt8) : a ^^^ 0 = a := by simp
theorem zx (a : UInt8) : 0 ^^^ a = a := by simp
theorem xx (a : UInt8) : a ^^^ a = 0 := by simp
theorem gd_xor (a b : UInt8) : gd (a ^^^ b) = gd a ^^^ gd b := by
  have e1 : ((0 : UInt8) != 0) = false := rfl
  have e2 : ((128 : UInt8) != 0) = true := rfl
  have e3 : ((128 ^^^ 128 : UInt8) != 0) = false := rfl
  have e4 : ((0 ^^^ 128 : UInt8) != 0) = true := rfl
  have e5 : ((128 ^^^ 0 : UInt8) != 0) = true := rfl
  have e6 : ((0 ^^^ 0 : UInt8) != 0) = false := rfl
  unfold gd
  rw [and_xor, shl_xor]
  rcases hi1 a with ha | ha <;> rcases hi1 b with hb | hb <;> rw [ha, hb] <;> simp only [e1, e2, e3, e4, e5, e6, cond_true, cond_false]
  · rw [UInt8.xor_assoc]
  · rw [UInt8.xor_assoc, UInt8.xor_assoc, UInt8.xor_comm (b <<< (1 : UInt8)) (29 : UInt8)]
  · have : ((a <<< (1 : UInt8)) ^^^ (29 : UInt8)) ^^^ ((b <<< (1 : UInt8)) ^^^ (29 : UInt8)) = ((a <<< (1 : UInt8)) ^^^ (b <<< (1 : UInt8))) ^^^ ((29 : UInt8) ^^^ 29) := by ac_rfl
    rw [this, xx, xz]
theorem bit0_xor (b c a : UInt8) : bit0 (b ^^^ c) a = bit0 b a ^^^ bit0 c a := by
  have e1 : ((0 : UInt8) == 1) = false := rfl
  have e2 : ((1 : UInt8) == 1) = true := rfl
  have e3 : ((1 ^^^ 1 : UInt8) == 1) = false := rfl
  have e4 : ((0 ^^^ 1 : UInt8) == 1) = true := rfl
  have e5 : ((1 ^^^ 0 : UInt8) == 1) = true := rfl
  have e6 : ((0 ^^^ 0 : UInt8) == 1) = false := rfl
  unfold bit0
  rw [and_xor]
  rcases lo1 b with hb | hb <;> rcases lo1 c with hc | hc <;> rw [hb, hc] <;> simp only [e1, e2, e3, e4, e5, e6, cond_true, cond_false, xx, xz, zx]
theorem bit0_add (b a c : UInt8) : bit0 b (a ^^^ c) = bit0 b a ^^^ bit0 b c := by
  unfold bit0
  cases (b &&& 1) == 1
  · simp only [cond_false, xx]
  · rfl
theorem gml_right : ∀ (n : Nat) (a b c : UInt8), gml n a (b ^^^ c) = gml n a b ^^^ gml n a c
  | 0, a, b, c => by simp only [gml, xx]
  | n + 1, a, b, c => by
    simp only [gml, bit0_xor, shr_xor, gml_right n]
    ac_rfl
theorem gml_left : ∀ (n : Nat) (a b c : UInt8), gml n (a ^^^ b) c = gml n a c ^^^ gml n b c
  | 0, a, b, c => by simp only [gml, xx]
  | n + 1, a, b, c => by
    simp only [gml, bit0_add, gd_xor, gml_left n]
    ac_rfl
theorem gm_right (a b c : UInt8) : gm a (b ^^^ c) = gm a b ^^^ gm a c := gml_right 8 a b c
theorem gm_left (a b c : UInt8) : gm (a ^^^ b) c = gm a c ^^^ gm b c := gml_left 8 a b c

def pick1 (b m : UInt8) : UInt8 := bif (b &&& m) != 0 then m else 0
theorem bits8 (b : UInt8) : b = pick1 b 1 ^^^ (pick1 b 2 ^^^ (pick1 b 4 ^^^ (pick1 b 8 ^^^ (pick1 b 16 ^^^ (pick1 b 32 ^^^ (pick1 b 64 ^^^ pick1 b 128)))))) :=
  allU (p := fun b => b = pick1 b 1 ^^^ (pick1 b 2 ^^^ (pick1 b 4 ^^^ (pick1 b 8 ^^^ (pick1 b 16 ^^^ (pick1 b 32 ^^^ (pick1 b 64 ^^^ pick1 b 128))))))) (by decide +kernel) b
def Lin (f : UInt8 → UInt8) : Prop := ∀ x y, f (x ^^^ y) = f x ^^^ f y
theorem Lin.zero {f : UInt8 → UInt8} (h : Lin f) : f 0 = 0 := by
  have := h 0 0
  rw [xx, xx] at this
  exact this
theorem Lin.pick {f : UInt8 → UInt8} (h : Lin f) (b m : UInt8) : f (pick1 b m) = bif (b &&& m) != 0 then f m else 0 := by
  unfold pick1
  cases (b &&& m) != 0
  · exact h.zero
  · rfl
/-- Two additive functions that agree at the eight bits are one. -/
theorem Lin.ext {f g : UInt8 → UInt8} (hf : Lin f) (hg : Lin g) (h : ∀ i : _root_.Fin 8, f (1 <<< UInt8.ofNat i.val) = g (1 <<< UInt8.ofNat i.val)) (x : UInt8) : f x = g x := by
  have h0 : f 1 = g 1 := h 0
  have h1 : f 2 = g 2 := h 1
  have h2 : f 4 = g 4 := h 2
  have h3 : f 8 = g 8 := h 3
  have h4 : f 16 = g 16 := h 4
  have h5 : f 32 = g 32 := h 5
  have h6 : f 64 = g 64 := h 6
  have h7 : f 128 = g 128 := h 7
  have e := bits8 x
  generalize hb : x = b at e ⊢
  rw [e]
  simp only [hf _ _, hg _ _, hf.pick, hg.pick, h0, h1, h2, h3, h4, h5, h6, h7]
theorem gm_linR (a : UInt8) : Lin (gm a) := gm_right a
theorem gm_linL (c : UInt8) : Lin (fun a => gm a c) := fun a b => gm_left a b c
theorem gm_comm (a b : UInt8) : gm a b = gm b a := by
  refine Lin.ext (f := gm a) (g := fun b => gm b a) (gm_linR a) (gm_linL a) (fun i => ?_) b
  refine Lin.ext (f := fun a => gm a (1 <<< UInt8.ofNat i.val)) (g := fun a => gm (1 <<< UInt8.ofNat i.val) a) (gm_linL _) (gm_linR _) (fun j => ?_) a
  revert i j
  decide
theorem gm_assoc (a b c : UInt8) : gm (gm a b) c = gm a (gm b c) := by
  refine Lin.ext (f := fun c => gm (gm a b) c) (g := fun c => gm a (gm b c)) (gm_linR _) (fun x y => by simp only [gm_right]) (fun i => ?_) c
  refine Lin.ext (f := fun b => gm (gm a b) (1 <<< UInt8.ofNat i.val)) (g := fun b => gm a (gm b (1 <<< UInt8.ofNat i.val))) (fun x y => by simp only [gm_right, gm_left]) (fun x y => by simp only [gm_right, gm_left]) (fun j => ?_) b
  refine Lin.ext (f := fun a => gm (gm a (1 <<< UInt8.ofNat j.val)) (1 <<< UInt8.ofNat i.val)) (g := fun a => gm a (gm (1 <<< UInt8.ofNat j.val) (1 <<< UInt8.ofNat i.val))) (fun x y => by simp only [gm_left]) (fun x y => by simp only [gm_left]) (fun k => ?_) a
  revert i j k
  decide +kernel
theorem zero_gm (a : UInt8) : gm 0 a = 0 := (gm_linL a).zero
theorem gm_one (a : UInt8) : gm a 1 = a := by
  refine Lin.ext (f := fun a => gm a 1) (g := fun a => a) (gm_linL 1) (fun x y => rfl) (fun i => ?_) a
  revert i
  decide
end Go.Tw
/- kinkeep/kinkeepref03.Pad: its twin, and that the call does what the twin says. Printed by a program. -/
namespace Go.Proofs.YthikoaamigiceaaDoor
open Go.Tw
set_option linter.unusedSimpArgs false
set_option linter.unusedVariables false
end Go.Proofs.YthikoaamigiceaaDoor
/- kinkeep/kinkeepref03.constants: its twin, and that the call does what the twin says. Printed by a program. -/
namespace Go.Proofs.YthikoaamigiceaaDoor
open Go.Tw
set_option linter.unusedSimpArgs false
set_option linter.unusedVariables false
end Go.Proofs.YthikoaamigiceaaDoor
/- kinkeep/kinkeepref03.rotr: its twin, and that the call does what the twin says. Printed by a program. -/
namespace Go.Proofs.YthikoaamigiceaaDoor
open Go.Tw
set_option linter.unusedSimpArgs false
set_option linter.unusedVariables false
def T112c (F : Nat) (p0 : UInt32) (p1 : Int) {β : Type} (k : UInt32 → Option β) : Option β :=
  (Option.bind (gnn p1) fun x3 => (Option.bind (gnn (w64 ((32 : Int) - p1))) fun x4 => (k ((shr32 p0 x3) ||| (shl32 p0 x4)))))
def T112 (F : Nat) (p0 : UInt32) (p1 : Int) : Option (UInt32) := T112c F p0 p1 some
end Go.Proofs.YthikoaamigiceaaDoor
/- kinkeep/kinkeepref03.Block: its twin, and that the call does what the twin says. Printed by a program. -/
namespace Go.Proofs.YthikoaamigiceaaDoor
open Go.Tw
set_option linter.unusedSimpArgs false
set_option linter.unusedVariables false
def L102_7c (F : Nat) (y194 : Vector UInt32 64) (y195 : Vector UInt32 64) (y191 : Int) (y196 : Vector UInt32 8) {β : Type} (kA : (Int × (Vector UInt32 8)) → Option β) (kO : ((Vector UInt32 8)) → Option β) : Option β :=
  (bif (decide (y191 < (64 : Int))) then (Option.bind (vat y196 0) fun x215 => (Option.bind (vat y196 1) fun x216 => (Option.bind (vat y196 2) fun x217 => (Option.bind (vat y196 4) fun x218 => (Option.bind (vat y196 5) fun x219 => (Option.bind (vat y196 6) fun x220 => (Option.bind (vat y196 7) fun x221 => (Option.bind (inb 64 y191) fun x222 => (Option.bind (vat y194 x222) fun x223 => (Option.bind (inb 64 y191) fun x224 => (Option.bind (vat y195 x224) fun x225 => (Option.bind (T112 F x218 (6 : Int)) fun z226 => (Option.bind (T112 F x218 (11 : Int)) fun z227 => (Option.bind (T112 F x218 (25 : Int)) fun z228 => (Option.bind (T112 F x215 (2 : Int)) fun z229 => (Option.bind (T112 F x215 (13 : Int)) fun z230 => (Option.bind (T112 F x215 (22 : Int)) fun z231 => (Option.bind (vat y196 3) fun x232 => (kA ((w64 (y191 + (1 : Int))), (#v[(((((x221 + ((z226 ^^^ z227) ^^^ z228)) + ((x218 &&& x219) ^^^ ((~~~x218) &&& x220))) + x223) + x225) + (((z229 ^^^ z230) ^^^ z231) + (((x215 &&& x216) ^^^ (x215 &&& x217)) ^^^ (x216 &&& x217)))), x215, x216, x217, (x232 + ((((x221 + ((z226 ^^^ z227) ^^^ z228)) + ((x218 &&& x219) ^^^ ((~~~x218) &&& x220))) + x223) + x225)), x218, x219, x220] : Vector UInt32 8))))))))))))))))))))) else (kO y196))
def L102_7 (F : Nat) (y194 : Vector UInt32 64) (y195 : Vector UInt32 64) (y191 : Int) (y196 : Vector UInt32 8) : Option ((Int × (Vector UInt32 8)) ⊕ ((Vector UInt32 8))) := L102_7c F y194 y195 y191 y196 (fun s => some (.inl s)) (fun z => some (.inr z))
def L102_8c (F : Nat) (y235 : Vector UInt32 8) (y234 : Int) (y237 : Vector UInt32 8) {β : Type} (kA : (Int × (Vector UInt32 8)) → Option β) (kO : ((Vector UInt32 8)) → Option β) : Option β :=
  (bif (decide (y234 < (8 : Int))) then (Option.bind (inb 8 y234) fun x243 => (Option.bind (vat y237 x243) fun x244 => (Option.bind (inb 8 y234) fun x245 => (Option.bind (vat y235 x245) fun x246 => (Option.bind (inb 8 y234) fun x247 => (kA ((w64 (y234 + (1 : Int))), (Vector.setIfInBounds y237 x247 (x244 + x246))))))))) else (kO y237))
def L102_8 (F : Nat) (y235 : Vector UInt32 8) (y234 : Int) (y237 : Vector UInt32 8) : Option ((Int × (Vector UInt32 8)) ⊕ ((Vector UInt32 8))) := L102_8c F y235 y234 y237 (fun s => some (.inl s)) (fun z => some (.inr z))
end Go.Proofs.YthikoaamigiceaaDoor
/- kinkeep/kinkeepref03.Sum: its twin, and that the call does what the twin says. Printed by a program. -/
namespace Go.Proofs.YthikoaamigiceaaDoor
open Go.Tw
set_option linter.unusedSimpArgs false
set_option linter.unusedVariables false
end Go.Proofs.YthikoaamigiceaaDoor
/- kinkeep/kinkeepref05.pad: its twin, and that the call does what the twin says. Printed by a program. -/
namespace Go.Proofs.YthikoaamigiceaaDoor
open Go.Tw
set_option linter.unusedSimpArgs false
set_option linter.unusedVariables false
end Go.Proofs.YthikoaamigiceaaDoor
/- kinkeep/kinkeepref05.Tag: its twin, and that the call does what the twin says. Printed by a program. -/
namespace Go.Proofs.YthikoaamigiceaaDoor
open Go.Tw
set_option linter.unusedSimpArgs false
set_option linter.unusedVariables false
end Go.Proofs.YthikoaamigiceaaDoor
/- Loops side by side; the block of sha256 is that of the reference. -/
namespace Go.Proofs.YthikoaamigiceaaDoor
open Go.Tw
set_option linter.unusedVariables false
set_option linter.unusedSimpArgs false

theorem it_again {σ ρ : Type} {f : σ → Option (σ ⊕ ρ)} {n : Nat} {s s' : σ} (h : f s = some (.inl s')) : iter f (n + 1) s = iter f n s' := by simp [iter, h]
theorem it_out {σ ρ : Type} {f : σ → Option (σ ⊕ ρ)} {n : Nat} {s : σ} {r : ρ} (h : f s = some (.inr r)) : iter f (n + 1) s = some r := by simp [iter, h]
theorem ix_nat {α : Type} {l : List α} {i : Nat} (h : i < l.length) : ix l ((i : Nat) : Int) = some l[i] := by
  unfold ix; rw [if_pos (by omega)]; simp only [Int.toNat_natCast]; exact List.getElem?_eq_getElem h

theorem iter2 {σ τ ρ ρ' : Type} {f : σ → Option (σ ⊕ ρ)} {g : τ → Option (τ ⊕ ρ')} (R : σ → τ → Prop) (Q : ρ → ρ' → Prop) (μ : σ → Nat)
    (h : ∀ s t, R s t → (∃ s' t', f s = some (.inl s') ∧ g t = some (.inl t') ∧ R s' t' ∧ μ s' < μ s) ∨ (∃ r r', f s = some (.inr r) ∧ g t = some (.inr r') ∧ Q r r')) :
    ∀ (n m : Nat) (s : σ) (t : τ), R s t → μ s < n → μ s < m → ∃ r r', iter f n s = some r ∧ iter g m t = some r' ∧ Q r r'
  | 0, m, s, t, hR, hn, hm => absurd hn (by omega)
  | n + 1, 0, s, t, hR, hn, hm => absurd hm (by omega)
  | n + 1, m + 1, s, t, hR, hn, hm => by
    rcases h s t hR with ⟨s', t', h1, h2, h3, h4⟩ | ⟨r, r', h1, h2, h3⟩
    · rw [it_again h1, it_again h2]
      exact iter2 R Q μ h n m s' t' h3 (by omega) (by omega)
    · exact ⟨r, r', it_out h1, it_out h2, h3⟩

theorem iter1 {σ ρ : Type} {f : σ → Option (σ ⊕ ρ)} (R : σ → Prop) (Q : ρ → Prop) (μ : σ → Nat)
    (h : ∀ s, R s → (∃ s', f s = some (.inl s') ∧ R s' ∧ μ s' < μ s) ∨ (∃ r, f s = some (.inr r) ∧ Q r)) :
    ∀ (n : Nat) (s : σ), R s → μ s < n → ∃ r, iter f n s = some r ∧ Q r
  | 0, s, hR, hn => absurd hn (by omega)
  | n + 1, s, hR, hn => by
    rcases h s hR with ⟨s', h1, h3, h4⟩ | ⟨r, h1, h3⟩
    · rw [it_again h1]
      exact iter1 R Q μ h n s' h3 (by omega)
    · exact ⟨r, it_out h1, h3⟩

theorem inb_nat {n i : Nat} (h : i < n) : inb n ((i : Nat) : Int) = some i := by
  unfold inb; rw [if_pos (by omega)]; simp only [Int.toNat_natCast]
theorem vat_nat {α : Type} {n i : Nat} {v : Vector α n} (h : i < n) : vat v i = some v[i] := by
  rw [vat_eq]; exact getElem?_pos v i h
theorem vix_nat {α : Type} {n i : Nat} {v : Vector α n} (h : i < n) : vix v ((i : Nat) : Int) = some v[i] := by
  unfold vix; rw [if_pos (by omega)]; simp only [Int.toNat_natCast]; exact getElem?_pos v i h
theorem gsl_nat {α : Type} {l : List α} {a b : Nat} (h : a ≤ b) (hb : b ≤ l.length) : gsl l ((a : Nat) : Int) ((b : Nat) : Int) = some ((l.drop a).take (b - a)) := by
  unfold gsl; rw [if_pos (by omega)]; simp only [Int.toNat_natCast]
def rr (x : UInt32) (k : Nat) : UInt32 := shr32 x k ||| shl32 x (32 - k)
theorem a94_6 (F : Nat) (x : UInt32) : T117 F x (-6) = some (rr x 6) := by
  have e1 : ((UInt64.ofInt (-6)) &&& (UInt64.ofNat 31)).toNat = 26 := by decide +kernel
  have e2 : ((UInt64.ofNat 32) - ((UInt64.ofInt (-6)) &&& (UInt64.ofNat 31))).toNat = 6 := by decide +kernel
  simp only [T117, T117c, e1, e2, rr]
  rw [UInt32.or_comm]
theorem a93_6 (F : Nat) (x : UInt32) : T112 F x 6 = some (rr x 6) := by
  have e1 : gnn (6 : Int) = some 6 := by decide +kernel
  have e2 : gnn (w64 ((32 : Int) - 6)) = some 26 := by decide +kernel
  simp only [T112, T112c, e1, e2, rr, Option.bind_some]
theorem a94_11 (F : Nat) (x : UInt32) : T117 F x (-11) = some (rr x 11) := by
  have e1 : ((UInt64.ofInt (-11)) &&& (UInt64.ofNat 31)).toNat = 21 := by decide +kernel
  have e2 : ((UInt64.ofNat 32) - ((UInt64.ofInt (-11)) &&& (UInt64.ofNat 31))).toNat = 11 := by decide +kernel
  simp only [T117, T117c, e1, e2, rr]
  rw [UInt32.or_comm]
theorem a93_11 (F : Nat) (x : UInt32) : T112 F x 11 = some (rr x 11) := by
  have e1 : gnn (11 : Int) = some 11 := by decide +kernel
  have e2 : gnn (w64 ((32 : Int) - 11)) = some 21 := by decide +kernel
  simp only [T112, T112c, e1, e2, rr, Option.bind_some]
theorem a94_25 (F : Nat) (x : UInt32) : T117 F x (-25) = some (rr x 25) := by
  have e1 : ((UInt64.ofInt (-25)) &&& (UInt64.ofNat 31)).toNat = 7 := by decide +kernel
  have e2 : ((UInt64.ofNat 32) - ((UInt64.ofInt (-25)) &&& (UInt64.ofNat 31))).toNat = 25 := by decide +kernel
  simp only [T117, T117c, e1, e2, rr]
  rw [UInt32.or_comm]
theorem a93_25 (F : Nat) (x : UInt32) : T112 F x 25 = some (rr x 25) := by
  have e1 : gnn (25 : Int) = some 25 := by decide +kernel
  have e2 : gnn (w64 ((32 : Int) - 25)) = some 7 := by decide +kernel
  simp only [T112, T112c, e1, e2, rr, Option.bind_some]
theorem a94_2 (F : Nat) (x : UInt32) : T117 F x (-2) = some (rr x 2) := by
  have e1 : ((UInt64.ofInt (-2)) &&& (UInt64.ofNat 31)).toNat = 30 := by decide +kernel
  have e2 : ((UInt64.ofNat 32) - ((UInt64.ofInt (-2)) &&& (UInt64.ofNat 31))).toNat = 2 := by decide +kernel
  simp only [T117, T117c, e1, e2, rr]
  rw [UInt32.or_comm]
theorem a93_2 (F : Nat) (x : UInt32) : T112 F x 2 = some (rr x 2) := by
  have e1 : gnn (2 : Int) = some 2 := by decide +kernel
  have e2 : gnn (w64 ((32 : Int) - 2)) = some 30 := by decide +kernel
  simp only [T112, T112c, e1, e2, rr, Option.bind_some]
theorem a94_13 (F : Nat) (x : UInt32) : T117 F x (-13) = some (rr x 13) := by
  have e1 : ((UInt64.ofInt (-13)) &&& (UInt64.ofNat 31)).toNat = 19 := by decide +kernel
  have e2 : ((UInt64.ofNat 32) - ((UInt64.ofInt (-13)) &&& (UInt64.ofNat 31))).toNat = 13 := by decide +kernel
  simp only [T117, T117c, e1, e2, rr]
  rw [UInt32.or_comm]
theorem a93_13 (F : Nat) (x : UInt32) : T112 F x 13 = some (rr x 13) := by
  have e1 : gnn (13 : Int) = some 13 := by decide +kernel
  have e2 : gnn (w64 ((32 : Int) - 13)) = some 19 := by decide +kernel
  simp only [T112, T112c, e1, e2, rr, Option.bind_some]
theorem a94_22 (F : Nat) (x : UInt32) : T117 F x (-22) = some (rr x 22) := by
  have e1 : ((UInt64.ofInt (-22)) &&& (UInt64.ofNat 31)).toNat = 10 := by decide +kernel
  have e2 : ((UInt64.ofNat 32) - ((UInt64.ofInt (-22)) &&& (UInt64.ofNat 31))).toNat = 22 := by decide +kernel
  simp only [T117, T117c, e1, e2, rr]
  rw [UInt32.or_comm]
theorem a93_22 (F : Nat) (x : UInt32) : T112 F x 22 = some (rr x 22) := by
  have e1 : gnn (22 : Int) = some 22 := by decide +kernel
  have e2 : gnn (w64 ((32 : Int) - 22)) = some 10 := by decide +kernel
  simp only [T112, T112c, e1, e2, rr, Option.bind_some]

/-- A round. -/
def t1 (e f g h k w : UInt32) : UInt32 := (((h + ((rr e 6 ^^^ rr e 11) ^^^ rr e 25)) + ((e &&& f) ^^^ ((~~~e) &&& g))) + k) + w
def t2 (a b c : UInt32) : UInt32 := ((rr a 2 ^^^ rr a 13) ^^^ rr a 22) + (((a &&& b) ^^^ (a &&& c)) ^^^ (b &&& c))

theorem r91 (F : Nat) (w : Vector UInt32 64) (a b c d e f g h : UInt32) {i : Nat} (hi : i < 64) :
    L110x1_5 F w a b c d e f g h ((i : Nat) : Int) = some (.inl (t1 e f g h gv2[i] w[i] + t2 a b c, a, b, c, d + t1 e f g h gv2[i] w[i], e, f, g, ((i + 1 : Nat) : Int))) := by
  have h1 : (((i : Nat) : Int) < 64) := by omega
  have e3 : w64 (((i : Nat) : Int) + 1) = ((i + 1 : Nat) : Int) := by rw [w64_in (by omega) (by omega)]; omega
  have n : inb 64 ((i : Nat) : Int) = some i := inb_nat (by omega)
  have v : vat w i = some w[i] := vat_nat hi
  have x : vix gv2 ((i : Nat) : Int) = some gv2[i] := vix_nat hi
  simp only [L110x1_5, L110x1_5c, h1, decide_true, cond_true, a94_6, a94_11, a94_25, a94_2, a94_13, a94_22, Option.bind_some, x, n, v, e3, t1, t2]
theorem r85 (F : Nat) (w : Vector UInt32 64) (a b c d e f g h : UInt32) {i : Nat} (hi : i < 64) :
    L102_7 F gv2 w ((i : Nat) : Int) #v[a, b, c, d, e, f, g, h] = some (.inl (((i + 1 : Nat) : Int), #v[t1 e f g h gv2[i] w[i] + t2 a b c, a, b, c, d + t1 e f g h gv2[i] w[i], e, f, g])) := by
  have h1 : (((i : Nat) : Int) < 64) := by omega
  have e3 : w64 (((i : Nat) : Int) + 1) = ((i + 1 : Nat) : Int) := by rw [w64_in (by omega) (by omega)]; omega
  have n : inb 64 ((i : Nat) : Int) = some i := inb_nat (by omega)
  have v : vat w i = some w[i] := vat_nat hi
  have x : vat gv2 i = some gv2[i] := vat_nat hi
  have y0 : vat #v[a, b, c, d, e, f, g, h] 0 = some a := rfl
  have y1 : vat #v[a, b, c, d, e, f, g, h] 1 = some b := rfl
  have y2 : vat #v[a, b, c, d, e, f, g, h] 2 = some c := rfl
  have y3 : vat #v[a, b, c, d, e, f, g, h] 3 = some d := rfl
  have y4 : vat #v[a, b, c, d, e, f, g, h] 4 = some e := rfl
  have y5 : vat #v[a, b, c, d, e, f, g, h] 5 = some f := rfl
  have y6 : vat #v[a, b, c, d, e, f, g, h] 6 = some g := rfl
  have y7 : vat #v[a, b, c, d, e, f, g, h] 7 = some h := rfl
  simp only [L102_7, L102_7c, h1, decide_true, cond_true, y0, y1, y2, y3, y4, y5, y6, y7, a93_6, a93_11, a93_25, a93_2, a93_13, a93_22, Option.bind_some, x, n, v, e3, t1, t2]

abbrev O8 := UInt32 × UInt32 × UInt32 × UInt32 × UInt32 × UInt32 × UInt32 × UInt32
abbrev O9 := UInt32 × UInt32 × UInt32 × UInt32 × UInt32 × UInt32 × UInt32 × UInt32 × Int
def v8 (z : O8) : Vector UInt32 8 := #v[z.1, z.2.1, z.2.2.1, z.2.2.2.1, z.2.2.2.2.1, z.2.2.2.2.2.1, z.2.2.2.2.2.2.1, z.2.2.2.2.2.2.2]

theorem rounds {F : Nat} (hF : 100 < F) (w : Vector UInt32 64) (z : O8) : ∃ z' : O8,
    iter (fun s : O9 => L110x1_5 F w s.1 s.2.1 s.2.2.1 s.2.2.2.1 s.2.2.2.2.1 s.2.2.2.2.2.1 s.2.2.2.2.2.2.1 s.2.2.2.2.2.2.2.1 s.2.2.2.2.2.2.2.2) F (z.1, z.2.1, z.2.2.1, z.2.2.2.1, z.2.2.2.2.1, z.2.2.2.2.2.1, z.2.2.2.2.2.2.1, z.2.2.2.2.2.2.2, (0 : Int)) = some z' ∧
    iter (fun s : Int × Vector UInt32 8 => L102_7 F gv2 w s.1 s.2) F ((0 : Int), v8 z) = some (v8 z') := by
  obtain ⟨r, r', b1, b2, b3⟩ := iter2 (f := fun s : O9 => L110x1_5 F w s.1 s.2.1 s.2.2.1 s.2.2.2.1 s.2.2.2.2.1 s.2.2.2.2.2.1 s.2.2.2.2.2.2.1 s.2.2.2.2.2.2.2.1 s.2.2.2.2.2.2.2.2) (g := fun s : Int × Vector UInt32 8 => L102_7 F gv2 w s.1 s.2)
    (fun s t => t = (s.2.2.2.2.2.2.2.2, #v[s.1, s.2.1, s.2.2.1, s.2.2.2.1, s.2.2.2.2.1, s.2.2.2.2.2.1, s.2.2.2.2.2.2.1, s.2.2.2.2.2.2.2.1]) ∧ ∃ i : Nat, s.2.2.2.2.2.2.2.2 = i ∧ i ≤ 64) (fun r r' => r' = v8 r) (fun s => 64 - s.2.2.2.2.2.2.2.2.toNat) (by
      rintro ⟨a, b, c, d, e, f, g, h, j⟩ t ⟨rfl, i, hi, h64⟩
      simp only at hi
      subst hi
      by_cases hi : i < 64
      · exact .inl ⟨_, _, r91 F w a b c d e f g h hi, r85 F w a b c d e f g h hi, ⟨rfl, i + 1, rfl, by omega⟩, by simp only [Int.toNat_natCast]; omega⟩
      · obtain rfl : i = 64 := by omega
        exact .inr ⟨_, _, rfl, rfl, rfl⟩) F F (z.1, z.2.1, z.2.2.1, z.2.2.2.1, z.2.2.2.2.1, z.2.2.2.2.2.1, z.2.2.2.2.2.2.1, z.2.2.2.2.2.2.2, (0 : Int)) ((0 : Int), v8 z) ⟨rfl, 0, rfl, by omega⟩ (by simp only [Int.toNat_zero]; omega) (by simp only [Int.toNat_zero]; omega)
  subst b3
  exact ⟨r, b1, b2⟩
theorem last {F : Nat} (hF : 100 < F) (x p : Vector UInt32 8) : ∃ r, iter (fun s : Int × Vector UInt32 8 => L110x1_6 F x p s.1 s.2) F ((0 : Int), p) = some r ∧ iter (fun s : Int × Vector UInt32 8 => L102_8 F p s.1 s.2) F ((0 : Int), x) = some r := by
  obtain ⟨r, r', b1, b2, b3⟩ := iter2 (f := fun s : Int × Vector UInt32 8 => L110x1_6 F x p s.1 s.2) (g := fun s : Int × Vector UInt32 8 => L102_8 F p s.1 s.2)
    (fun s t => s.1 = t.1 ∧ ∃ i : Nat, s.1 = i ∧ i ≤ 8 ∧ (∀ j (hj : j < 8), j < i → s.2[j] = t.2[j]) ∧ ∀ j (hj : j < 8), i ≤ j → t.2[j] = x[j]) (fun r r' => r = r') (fun s => 8 - s.1.toNat) (by
      rintro ⟨a, u⟩ ⟨a', v⟩ ⟨rfl, i, hi, h8, hu, hv⟩
      simp only at hi hu hv
      subst hi
      by_cases h : i < 8
      · have h1 : (((i : Nat) : Int) < 8) := by omega
        have e3 : w64 (((i : Nat) : Int) + 1) = ((i + 1 : Nat) : Int) := by rw [w64_in (by omega) (by omega)]; omega
        have n : inb 8 ((i : Nat) : Int) = some i := inb_nat h
        have s1 : L110x1_6 F x p ((i : Nat) : Int) u = some (.inl (((i + 1 : Nat) : Int), u.setIfInBounds i (p[i] + x[i]))) := by
          simp only [L110x1_6, L110x1_6c, h1, decide_true, cond_true, vix_nat h, n, vat_nat (v := p) h, Option.bind_some, e3]
        have s2 : L102_8 F p ((i : Nat) : Int) v = some (.inl (((i + 1 : Nat) : Int), v.setIfInBounds i (v[i] + p[i]))) := by
          simp only [L102_8, L102_8c, h1, decide_true, cond_true, n, vat_nat (v := p) h, vat_nat (v := v) h, Option.bind_some, e3]
        refine .inl ⟨_, _, s1, s2, ⟨rfl, i + 1, rfl, by omega, fun j hj hji => ?_, fun j hj hij => ?_⟩, by simp only [Int.toNat_natCast]; omega⟩
        · simp only [Vector.getElem_setIfInBounds]
          by_cases e : i = j
          · subst e
            simp only [if_true]
            rw [hv i hj (Nat.le_refl _), UInt32.add_comm]
          · rw [if_neg e, if_neg e]
            exact hu j hj (by omega)
        · simp only [Vector.getElem_setIfInBounds]
          rw [if_neg (by omega)]
          exact hv j hj (by omega)
      · obtain rfl : i = 8 := by omega
        exact .inr ⟨u, v, rfl, rfl, Vector.ext fun j hj => hu j hj hj⟩) F F ((0 : Int), p) ((0 : Int), x) ⟨rfl, 0, rfl, by omega, fun j hj h0 => absurd h0 (by omega), fun j hj _ => rfl⟩ (by simp only [Int.toNat_zero]; omega) (by simp only [Int.toNat_zero]; omega)
  subst b3
  exact ⟨r, b1, b2⟩

end Go.Proofs.YthikoaamigiceaaDoor
/- kinkeep/kinkeepref31.IndexClass: its twin, and that the call does what the twin says. Printed by a program. -/
namespace Go.Proofs.YthikoaamigiceaaDoor
open Go.Tw
set_option linter.unusedSimpArgs false
set_option linter.unusedVariables false
end Go.Proofs.YthikoaamigiceaaDoor
/- kinkeep/kinkeeplaw31.KeyringClass: its twin, and that the call does what the twin says. Printed by a program. -/
namespace Go.Proofs.YthikoaamigiceaaDoor
open Go.Tw
set_option linter.unusedSimpArgs false
set_option linter.unusedVariables false
end Go.Proofs.YthikoaamigiceaaDoor
