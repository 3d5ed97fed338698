/- kinkeep/kinkeeplaw31.KeyringNewer: its twin, and that the call does what the twin says. Printed by a program. -/
import Derived.Test.YthikoaamigiceaaDoorH2
namespace Go.Proofs.YthikoaamigiceaaDoor
open Go.Tw
set_option linter.unusedSimpArgs false
set_option linter.unusedVariables false
def ord6 : Nat → List (Tag × Nat)
  | 3 => [(.r, 0), (.r, 1), (.c, 3), (.c, 4), (.w, 2), (.w, 5), (.p, 6), (.p, 7)]
  | _ => []
def al6 : Nat → Option Nat
  | _ => none
def ms6 : Nat → Option (List (Option Tag × Nat × List Nat))
  | _ => none
def E6 (F : Nat) : Ev := ⟨cfg, 27, ctOf [(9, ct9 F), (20, ct20 F), (21, ct21 F)], ord6, ctOf [], al6, ms6⟩
theorem cts6 (F : Nat) : CtsOk Tryd.prog (E6 F) := cts_of (l := [(9, ct9 F), (20, ct20 F), (21, ct21 F)]) (l' := []) rfl rfl ⟨⟨ok9 F, _, Tryd.func9, rfl, rfl⟩, ⟨⟨ok20 F, _, Tryd.func20, rfl, rfl⟩, ⟨⟨ok21 F, _, Tryd.func21, rfl, rfl⟩, trivial⟩⟩⟩ trivial
def T6c (F : Nat) (p0 : Int) (p1 : Int) (p2 : List Int) (p6 : Int) (p7 : Int) (p8 : List Int) {β : Type} (k : Bool → Option β) : Option β :=
  (Option.bind (T9 F) fun z7 => (bif (!z7) then (Option.bind (T9 F) fun z8 => (k z8)) else (bif (decide ((20 : Int) < (p2.length : Int))) then (Option.bind (T9 F) fun z9 => (k z9)) else (bif (decide ((20 : Int) < (p8.length : Int))) then (Option.bind (T9 F) fun z10 => (k z10)) else (Option.bind (T20 F p0 p1 p2 p6 p7 p8) fun z11 => (Option.bind (T21 F p0 p1 p2 p6 p7 p8) fun z12 => (k (z11 == z12))))))))
def T6 (F : Nat) (p0 : Int) (p1 : Int) (p2 : List Int) (p6 : Int) (p7 : Int) (p8 : List Int) : Option (Bool) := T6c F p0 p1 p2 p6 p7 p8 some
theorem T6n (F : Nat) (p0 : Int) (p1 : Int) (p2 : List Int) (p6 : Int) (p7 : Int) (p8 : List Int) {β : Type} (k : Bool → Option β) : T6c F p0 p1 p2 p6 p7 p8 k = (T6 F p0 p1 p2 p6 p7 p8).bind k := by
  simp only [T6, T6c, Option.bind_assoc, cond_bind, Option.bind_some, Option.bind_none, elimS_bind]
@[reducible] def cA6 : List Sh := [(.pr .i (.pr .i (.pr (.ro .i) (.pr (.ro (.pr .i (.pr .i (.pr .i (.pr (.pr .s (.pr .i (.pr .i .un))) (.pr .i (.pr .i (.pr .s (.pr .bo .un))))))))) (.pr (.ro (.pr .s (.pr .i (.pr .i (.pr .i (.pr .i (.pr (.sl (.pr .s (.pr .i (.pr .i .un)))) .un))))))) (.pr (.ro (.pr .s (.pr .i (.pr .i .un)))) .un)))))), (.pr .i (.pr .i (.pr (.ro .i) (.pr (.ro (.pr .i (.pr .i (.pr .i (.pr (.pr .s (.pr .i (.pr .i .un))) (.pr .i (.pr .i (.pr .s (.pr .bo .un))))))))) (.pr (.ro (.pr .s (.pr .i (.pr .i (.pr .i (.pr .i (.pr (.sl (.pr .s (.pr .i (.pr .i .un)))) .un))))))) (.pr (.ro (.pr .s (.pr .i (.pr .i .un)))) .un))))))]
@[reducible] def cB6 : List Sh := [.bo]
@[reducible] def cT6 : List TSh := []
@[reducible] def cU6 : List TSh := []
def ct6 (F : Nat) : Ct := mkC 0 cA6 cT6 cB6 cU6 (fun x y => T6 F x.1.1 x.1.2.1 x.1.2.2.1 x.2.1.1 x.2.1.2.1 x.2.1.2.2.1) (fun x y (z : Bool) => ((z, ()), ()))
theorem eq6 (F : Nat) (x : dens cA6) (y : tdens cT6) : sev (E6 F) 0 [] (bodyOf Tryd.f6) [] (mkSt (rng 2) cA6 cT6 x y) (kFn (E6 F) 0 Tryd.f6.results.toList cB6 cU6 fun p q => some (p, q)) =
    T6c F x.1.1 x.1.2.1 x.1.2.2.1 x.2.1.1 x.2.1.2.1 x.2.1.2.2.1 (fun z => some ((z, ()), ())) := by kernel_rfl
theorem ok6 (F : Nat) : Sound Tryd.prog cfg 6 (ct6 F) :=
  mkC_ok (E := E6 F) (lp := []) (code := bodyOf Tryd.f6) Tryd.func6 rfl Tryd.ntmps6 rfl rfl cok (cts6 F) mixed trivial (by kernel_rfl) (fun x y k => T6c F x.1.1 x.1.2.1 x.1.2.2.1 x.2.1.1 x.2.1.2.1 x.2.1.2.2.1 k) (fun x y k => T6n F x.1.1 x.1.2.1 x.1.2.2.1 x.2.1.1 x.2.1.2.1 x.2.1.2.2.1 k) (eq6 F)
end Go.Proofs.YthikoaamigiceaaDoor
/- kinkeep/kinkeeplaw31.KeyringOrders: its twin, and that the call does what the twin says. Printed by a program. -/
namespace Go.Proofs.YthikoaamigiceaaDoor
open Go.Tw
set_option linter.unusedSimpArgs false
set_option linter.unusedVariables false
def ord7 : Nat → List (Tag × Nat)
  | _ => []
def al7 : Nat → Option Nat
  | _ => none
def ms7 : Nat → Option (List (Option Tag × Nat × List Nat))
  | _ => none
def E7 (F : Nat) : Ev := ⟨cfg, 48, ctOf [(9, ct9 F), (20, ct20 F)], ord7, ctOf [], al7, ms7⟩
theorem cts7 (F : Nat) : CtsOk Tryd.prog (E7 F) := cts_of (l := [(9, ct9 F), (20, ct20 F)]) (l' := []) rfl rfl ⟨⟨ok9 F, _, Tryd.func9, rfl, rfl⟩, ⟨⟨ok20 F, _, Tryd.func20, rfl, rfl⟩, trivial⟩⟩ trivial
def T7c (F : Nat) (p0 : Int) (p1 : Int) (p2 : List Int) (p6 : Int) (p7 : Int) (p8 : List Int) (p12 : Int) (p13 : Int) (p14 : List Int) {β : Type} (k : Bool → Option β) : Option β :=
  (Option.bind (T9 F) fun z10 => (bif (!z10) then (Option.bind (T9 F) fun z11 => (k z11)) else (bif (decide ((20 : Int) < (p2.length : Int))) then (Option.bind (T9 F) fun z12 => (k z12)) else (bif (decide ((20 : Int) < (p8.length : Int))) then (Option.bind (T9 F) fun z13 => (k z13)) else (bif (decide ((20 : Int) < (p14.length : Int))) then (Option.bind (T9 F) fun z14 => (k z14)) else (Option.bind (T20 F p0 p1 p2 p0 p1 p2) fun z15 => (bif z15 then (Option.bind (T20 F p0 p1 p2 p6 p7 p8) fun z16 => (bif (!z16) then (k true) else (Option.bind (T20 F p6 p7 p8 p12 p13 p14) fun z17 => (bif (!z17) then (k true) else (Option.bind (T20 F p0 p1 p2 p12 p13 p14) fun z18 => (k z18)))))) else (k false))))))))
def T7 (F : Nat) (p0 : Int) (p1 : Int) (p2 : List Int) (p6 : Int) (p7 : Int) (p8 : List Int) (p12 : Int) (p13 : Int) (p14 : List Int) : Option (Bool) := T7c F p0 p1 p2 p6 p7 p8 p12 p13 p14 some
theorem T7n (F : Nat) (p0 : Int) (p1 : Int) (p2 : List Int) (p6 : Int) (p7 : Int) (p8 : List Int) (p12 : Int) (p13 : Int) (p14 : List Int) {β : Type} (k : Bool → Option β) : T7c F p0 p1 p2 p6 p7 p8 p12 p13 p14 k = (T7 F p0 p1 p2 p6 p7 p8 p12 p13 p14).bind k := by
  simp only [T7, T7c, Option.bind_assoc, cond_bind, Option.bind_some, Option.bind_none, elimS_bind]
@[reducible] def cA7 : List Sh := [(.pr .i (.pr .i (.pr (.ro .i) (.pr (.ro (.pr .i (.pr .i (.pr .i (.pr (.pr .s (.pr .i (.pr .i .un))) (.pr .i (.pr .i (.pr .s (.pr .bo .un))))))))) (.pr (.ro (.pr .s (.pr .i (.pr .i (.pr .i (.pr .i (.pr (.sl (.pr .s (.pr .i (.pr .i .un)))) .un))))))) (.pr (.ro (.pr .s (.pr .i (.pr .i .un)))) .un)))))), (.pr .i (.pr .i (.pr (.ro .i) (.pr (.ro (.pr .i (.pr .i (.pr .i (.pr (.pr .s (.pr .i (.pr .i .un))) (.pr .i (.pr .i (.pr .s (.pr .bo .un))))))))) (.pr (.ro (.pr .s (.pr .i (.pr .i (.pr .i (.pr .i (.pr (.sl (.pr .s (.pr .i (.pr .i .un)))) .un))))))) (.pr (.ro (.pr .s (.pr .i (.pr .i .un)))) .un)))))), (.pr .i (.pr .i (.pr (.ro .i) (.pr (.ro (.pr .i (.pr .i (.pr .i (.pr (.pr .s (.pr .i (.pr .i .un))) (.pr .i (.pr .i (.pr .s (.pr .bo .un))))))))) (.pr (.ro (.pr .s (.pr .i (.pr .i (.pr .i (.pr .i (.pr (.sl (.pr .s (.pr .i (.pr .i .un)))) .un))))))) (.pr (.ro (.pr .s (.pr .i (.pr .i .un)))) .un))))))]
@[reducible] def cB7 : List Sh := [.bo]
@[reducible] def cT7 : List TSh := []
@[reducible] def cU7 : List TSh := []
def ct7 (F : Nat) : Ct := mkC 0 cA7 cT7 cB7 cU7 (fun x y => T7 F x.1.1 x.1.2.1 x.1.2.2.1 x.2.1.1 x.2.1.2.1 x.2.1.2.2.1 x.2.2.1.1 x.2.2.1.2.1 x.2.2.1.2.2.1) (fun x y (z : Bool) => ((z, ()), ()))
theorem eq7 (F : Nat) (x : dens cA7) (y : tdens cT7) : sev (E7 F) 0 [] (bodyOf Tryd.f7) [] (mkSt (rng 3) cA7 cT7 x y) (kFn (E7 F) 0 Tryd.f7.results.toList cB7 cU7 fun p q => some (p, q)) =
    T7c F x.1.1 x.1.2.1 x.1.2.2.1 x.2.1.1 x.2.1.2.1 x.2.1.2.2.1 x.2.2.1.1 x.2.2.1.2.1 x.2.2.1.2.2.1 (fun z => some ((z, ()), ())) := by kernel_rfl
theorem ok7 (F : Nat) : Sound Tryd.prog cfg 7 (ct7 F) :=
  mkC_ok (E := E7 F) (lp := []) (code := bodyOf Tryd.f7) Tryd.func7 rfl Tryd.ntmps7 rfl rfl cok (cts7 F) mixed trivial (by kernel_rfl) (fun x y k => T7c F x.1.1 x.1.2.1 x.1.2.2.1 x.2.1.1 x.2.1.2.1 x.2.1.2.2.1 x.2.2.1.1 x.2.2.1.2.1 x.2.2.1.2.2.1 k) (fun x y k => T7n F x.1.1 x.1.2.1 x.1.2.2.1 x.2.1.1 x.2.1.2.1 x.2.1.2.2.1 x.2.2.1.1 x.2.2.1.2.1 x.2.2.1.2.2.1 k) (eq7 F)
end Go.Proofs.YthikoaamigiceaaDoor
