/- kinkeep/gf256.MulAdd: its twin, and that the call does what the twin says. Printed by a program. -/
import Derived.RangeFuncWrites
import Derived.RangeFuncLeaves
import Derived.RangeFuncCalls
import Derived.OrdersIn
import Derived.TacticsIn
import Derived.RangeFuncBox
import Derived.Shelf.Abstract
import Derived.WalkKit
import Derived.OwnWalkIn
import Derived.TacticsInMore
import Derived.LoopNIn
import Derived.LoopIn
import Derived.Test.YthikoaamigiceaaDoorProg
import Derived.Test.YthikoaamigiceaaDoorH1
namespace Go.Proofs.YthikoaamigiceaaDoor
open Go.Tw
set_option linter.unusedSimpArgs false
set_option linter.unusedVariables false
def ord79 : Nat → List (Tag × Nat)
  | _ => []
def al79 : Nat → Option Nat
  | _ => none
def ms79 : Nat → Option (List (Option Tag × Nat × List Nat))
  | _ => none
def E79 (F : Nat) : Ev := ⟨cfg, 35, ctOf [(95, ct95 F)], ord79, ctOf [], al79, ms79⟩
theorem cts79 (F : Nat) : CtsOk Tryd.prog (E79 F) := cts_of (l := [(95, ct95 F)]) (l' := []) rfl rfl ⟨⟨ok95 F, _, Tryd.func95, rfl, rfl⟩, trivial⟩ trivial
def L79_2c (F : Nat) (y16 : List UInt8) (y17 : Int) (y18 : Int) (y19 : List UInt8) {β : Type} (kA : (Int × (List UInt8)) → Option β) (kO : ((List UInt8)) → Option β) : Option β :=
  (bif (decide (y18 < y17)) then (Option.bind (ix y16 y18) fun x24 => (Option.bind (inb y19.length y18) fun x25 => (Option.bind (y19[x25]?) fun x26 => (Option.bind (inb y19.length y18) fun x27 => (kA ((w64 (y18 + (1 : Int))), (List.set y19 x27 (x26 ^^^ x24)))))))) else (kO y19))
def L79_2 (F : Nat) (y16 : List UInt8) (y17 : Int) (y18 : Int) (y19 : List UInt8) : Option ((Int × (List UInt8)) ⊕ ((List UInt8))) := L79_2c F y16 y17 y18 y19 (fun s => some (.inl s)) (fun z => some (.inr z))
theorem L79_2n (F : Nat) (y16 : List UInt8) (y17 : Int) (y18 : Int) (y19 : List UInt8) {β : Type} (kA : (Int × (List UInt8)) → Option β) (kO : ((List UInt8)) → Option β) : L79_2c F y16 y17 y18 y19 kA kO = (L79_2 F y16 y17 y18 y19).bind (elimS kA kO) := by
  simp only [L79_2, L79_2c, Option.bind_assoc, cond_bind, Option.bind_some, Option.bind_none, elimS_l, elimS_r, elimS_bind]
@[reducible] def sA79_2 : List Sh := [(.rw 0), (.ro .u8), .i, .i]
@[reducible] def sAp179_2 : List Sh := [(.rw 0)]
@[reducible] def sT79_2 : List TSh := [.row 5 .u8]
@[reducible] def sTp179_2 : List TSh := [.row 5 .u8]
def lc79_2 (F : Nat) : Lc := mkL [8, 19, 20, 21] sA79_2 sT79_2 [8] sAp179_2 sTp179_2 F (fun x y (s : Int × (List UInt8)) => L79_2 F x.2.1 x.2.2.1 s.1 s.2) (fun x y => (x.2.2.2.1, y.1)) (fun x y (z : (List UInt8)) => (((), ()), (z, ())))
theorem le79_2 (F : Nat) (x : dens sA79_2) (y : tdens sT79_2) (s : Int × (List UInt8)) : sev (E79 F) 0 [] (cAt (bodyOf Tryd.f79) (0 :: 0 :: [1, 0, 1, 1, 1])) (0 :: 0 :: [1, 0, 1, 1, 1]) (mkSt [8, 19, 20, 21] sA79_2 sT79_2 ((), x.2.1, x.2.2.1, s.1, ()) (s.2, ())) (kLoop 0 [8, 19, 20, 21] sA79_2 sT79_2 [8] sAp179_2 sTp179_2 [] [] [] 0 (fun x y => some (.inl (x, y))) (fun x y => some (.inr (.inl (x, y)))) (fun x y => some (.inr (.inr (x, y))))) =
    L79_2c (β := Full sA79_2 sT79_2 sAp179_2 sTp179_2 [] []) F x.2.1 x.2.2.1 s.1 s.2 (fun s => some (.inl (((), x.2.1, x.2.2.1, s.1, ()), (s.2, ())))) (fun z => some (.inr (.inl (((), ()), (z, ()))))) := by kernel_rfl
theorem lo79_2 (F : Nat) : LcOk Tryd.prog (E79 F) 0 (lc79_2 F) (cAt (bodyOf Tryd.f79) [1, 0, 1, 1, 1]) :=
  mkL_ok (lp := []) (id := 0) (b := cAt (bodyOf Tryd.f79) (0 :: 0 :: [1, 0, 1, 1, 1])) cok (cts79 F) mixed trivial (by kernel_rfl) (by kernel_rfl) (fun x y s => ((), x.2.1, x.2.2.1, s.1, ())) (fun x y s => (s.2, ())) (fun x y => rfl) (fun x y => rfl) (fun x y s kA kO => L79_2c F x.2.1 x.2.2.1 s.1 s.2 kA kO) (fun x y s kA kO => L79_2n F x.2.1 x.2.2.1 s.1 s.2 kA kO) (le79_2 F)
def T79c (F : Nat) (p0 : List UInt8) (p1 : List UInt8) (p2 : UInt8) {β : Type} (k : (Int × (List UInt8)) → Option β) : Option β :=
  (bif ((p0.length : Int) != (p1.length : Int)) then (k ((1 : Int), ([] : List UInt8))) else (Option.bind (T95 F p1 p2) fun z15 => (Option.bind (iter (fun s => L79_2 F p0 (p0.length : Int) s.1 s.2) F ((0 : Int), z15)) fun z28 => (k ((0 : Int), z28)))))
def T79 (F : Nat) (p0 : List UInt8) (p1 : List UInt8) (p2 : UInt8) : Option (Int × (List UInt8)) := T79c F p0 p1 p2 some
theorem T79n (F : Nat) (p0 : List UInt8) (p1 : List UInt8) (p2 : UInt8) {β : Type} (k : (Int × (List UInt8)) → Option β) : T79c F p0 p1 p2 k = (T79 F p0 p1 p2).bind k := by
  simp only [T79, T79c, Option.bind_assoc, cond_bind, Option.bind_some, Option.bind_none, elimS_bind]
@[reducible] def cA79 : List Sh := [(.ro .u8), (.ro .u8), .u8]
@[reducible] def cB79 : List Sh := [(.rw 0), .i]
@[reducible] def cT79 : List TSh := []
@[reducible] def cU79 : List TSh := [.row 5 .u8]
def ct79 (F : Nat) : Ct := mkC 0 cA79 cT79 cB79 cU79 (fun x y => T79 F x.1 x.2.1 x.2.2.1) (fun x y (z : Int × (List UInt8)) => (((), z.1, ()), (z.2, ())))
theorem eq79 (F : Nat) (x : dens cA79) (y : tdens cT79) : sev (E79 F) 0 [([1, 0, 1, 1, 1], lc79_2 F)] (bodyOf Tryd.f79) [] (mkSt (rng 3) cA79 cT79 x y) (kFn (E79 F) 0 Tryd.f79.results.toList cB79 cU79 fun p q => some (p, q)) =
    T79c F x.1 x.2.1 x.2.2.1 (fun z => some (((), z.1, ()), (z.2, ()))) := by kernel_rfl
theorem ok79 (F : Nat) : Sound Tryd.prog cfg 79 (ct79 F) :=
  mkC_ok (E := E79 F) (lp := [([1, 0, 1, 1, 1], lc79_2 F)]) (code := bodyOf Tryd.f79) Tryd.func79 rfl Tryd.ntmps79 rfl rfl cok (cts79 F) mixed ⟨lo79_2 F, trivial⟩ (by kernel_rfl) (fun x y k => T79c F x.1 x.2.1 x.2.2.1 k) (fun x y k => T79n F x.1 x.2.1 x.2.2.1 k) (eq79 F)
end Go.Proofs.YthikoaamigiceaaDoor
/- Ranges over functions: the rounds, the marks, the functions that hold them. No program is in it. -/
namespace Go.Tw
set_option linter.unusedSimpArgs false
set_option linter.unusedVariables false
section
variable {P : Program} {E : Ev}

/-- The marks at a function's end. -/
def runM {β : Type} (k : Tbl → Option β) : List IV → Tbl → Option β
  | [], tb => k tb
  | v :: r, tb => match v with
    | .pt id [] => match nth tb id with
      | some .mk => runM k r (tb.set id .no)
      | _ => none
    | _ => none
def kFnM {β : Type} (E : Ev) (m : Nat) (rs : List ResultVar) (B : List Sh) (U : List TSh) (k : dens B → tdens U → Option β) : Exit → St → Option β := fun e st => match e with
  | .normal => runM (fun tb => match resS E.c st.env tb rs with
    | some vs => uni false B U (rng m) vs tb fun x y _ => k x y
    | none => none) st.df st.tb
  | .ret => runM (fun tb => match resS E.c st.env tb rs with
    | some vs => uni false B U (rng m) vs tb fun x y _ => k x y
    | none => none) st.df st.tb
  | _ => none

theorem kept_putObj (w : World) (r : Nat) (o : Obj) : Kept (fun b => b = r) w (w.putObj r o) :=
  ⟨rfl, rfl, rfl, by simp, fun k _ hk => World.putObj_heap_other hk⟩

theorem leaves_okM {β : Type} {fn : Func} {tmps : Array Value} {Q : Value → World → Prop} {k : Tbl → Option β} {r : β} {O0 : Own} {ρ0 : List Hd} {w0 : World}
    (hK : ∀ tb w O ρ, k tb = some r → Gm O ρ tb w → GO E.c O → Stp (fun _ => True) O0 ρ0 w0 O ρ w → ∃ v, (results fn tmps).run P w = .ok v w ∧ Q v w) : ∀ (df : List IV) (ds : List Deferred) (tb : Tbl) (w : World) (O : Own) (ρ : List Hd), runM k df tb = some r → DR O ρ df ds → Gm O ρ tb w → GO E.c O → Stp (fun _ => True) O0 ρ0 w0 O ρ w →
      LeavesInM Fence.wide 0 P fn tmps (Ret Q) ds .returning w
  | [], ds, tb, w, O, ρ, e, hD, hM, hG, hS => by
    simp only [DR] at hD
    subst hD
    obtain ⟨v, h1, h2⟩ := hK tb w O ρ e hM hG hS
    exact ⟨v, h1, h2⟩
  | v :: df, ds, tb, w, O, ρ, e, hD, hM, hG, hS => by
    simp only [runM] at e
    split at e <;> first | (cases e; done) | skip
    rename_i id
    split at e <;> first | (cases e; done) | skip
    rename_i hb
    rcases hD with ⟨fv, first, cap, r', rfl, hR, hD⟩ | ⟨id', h, r', he, h1, rfl, hD⟩
    · obtain ⟨h, off, _, _, h3⟩ := hR; cases h3
    · cases he
      rw [nth_eq] at hb
      obtain ⟨h', h2, h3, h4⟩ := hM.th _ _ hb
      rw [h1] at h2; cases h2
      obtain ⟨g1, g2⟩ := hM.set (x' := .no) (w' := w.putObj h.b (.deferred none)) (List.getElem?_eq_some_iff.1 hb).1 ((kept_putObj w h.b _).wide (fun b e => by subst e; exact h3)) trivial
      refine ⟨by simp, .inl ⟨h.b, _, rfl, run_takeDeferred h4, ?_⟩⟩
      exact leaves_okM hK df r' _ _ O ρ e hD g1 hG (hS.trans (g2.weak (fun _ _ => trivial)))

/-- A function with ranges over functions does what its contract says. -/
theorem fn_okM {f : FuncId} {fn : Func} {code : Code} {ct : Ct} {lp : List (List Nat × Lc)} (hf : P.funcs[f]? = some fn) (hb : fn.body = some code) (hn : fn.ntmps = E.n) (hl : Nat.ble ct.A.length E.n = true) (hmT : Nat.ble ct.m ct.T.length = true) (hc : COk P E.c) (hct : CtsOk P E) (hmx : P.follows .mixedOrders = true) (hlp : AllLc P E ct.m code lp) (ho : ordAll E code = true)
    (h : ∀ x y p q, ct.run _ x y (fun p q => some (p, q)) = some (p, q) → sev E ct.m lp code [] (mkSt (rng ct.A.length) ct.A ct.T x y) (kFnM E ct.m fn.results.toList ct.B ct.U fun p q => some (p, q)) = some (p, q)) : SoundK P E.c false f ct := by
  intro x y p q hrun O ρ w cs hG hM hR
  have hmT : ct.m ≤ ct.T.length := by simpa using hmT
  have hm : (ρ.take ct.m).length = ct.m := by rw [List.length_take, hM.len, encTs_len]; omega
  have hvl : ∀ {vs : List IV} {cs : List (List Value)}, RL O ρ vs cs → (vals vs cs).length = vs.length := by
    intro vs
    induction vs with
    | nil => intro cs h; simp [vals]
    | cons v vs ih => intro cs h; obtain ⟨c0, r, rfl, h1, h2⟩ := h; simp [vals, ih h2]
  have hlen : (vals (encs ct.A x) cs).length = ct.A.length := by rw [hvl hR, encs_len]
  have hl' : ct.A.length ≤ E.n := by simpa using hl
  let Q : Value → World → Prop := fun v w' => ∃ O' ρ' ds, Gm O' ρ' (encTs ct.U q) w' ∧ Stp (fun _ => True) O (ρ.take ct.m) w O' ρ' w' ∧ RL O' ρ' (encs ct.B p) ds ∧ v = resV (encs ct.B p) ds
  have hG0 : G E O (ρ.take ct.m) w (mkSt (rng ct.A.length) ct.A ct.T x y) { tmps := (vals (encs ct.A x) cs).toArray ++ Array.replicate (fn.ntmps - (vals (encs ct.A x) cs).toArray.size) undef, defers := [] } w := by
    rw [hn]
    refine ⟨O, ρ, ⟨FI.of (by simp [hlen]; omega) hR (fun i t v hi hv => ?_), rfl⟩, hM, hG, ⟨Pre.tk _ _, fun _ _ h => h, fun _ _ h => h, fun _ _ _ h _ => h, Kept.refl _ _⟩⟩
    have hi' := (List.getElem?_eq_some_iff.1 hi).1
    rw [rng, rngF_len] at hi'
    rw [rng_get hi'] at hi; cases hi
    rw [Array.getElem?_append_left (by simp [hlen, hi'])]
    simpa using hv
  have leaf : ∀ {st' : St} {a' : Act} {w' : World}, (runM (fun tb => match resS E.c st'.env tb fn.results.toList with
      | some vs => uni false ct.B ct.U (rng ct.m) vs tb fun x y _ => some (x, y)
      | none => none) st'.df st'.tb) = some (p, q) → G E O (ρ.take ct.m) w st' a' w' → LeavesInM Fence.wide 0 P fn a'.tmps (Ret Q) a'.defers .returning w' := by
    intro st' a' w' h1 h2
    obtain ⟨O1, ρ1, hF1, hM1, hG1, hS1⟩ := h2
    refine leaves_okM (E := E) (O0 := O1) (ρ0 := ρ1) (w0 := w') ?_ st'.df a'.defers st'.tb w' O1 ρ1 h1 hF1.2 hM1 hG1 (.refl _ _ _ _)
    · intro tb w2 O2 ρ2 hu hM2 hG2 hS2
      have hF2 := hF1.1.mono hS2.im hS2.pre
      have hS1 : Stp (fun _ => True) O (ρ.take ct.m) w O2 ρ2 w2 := hS1.trans hS2
      split at hu <;> first | (cases hu; done) | skip
      rename_i vs hvs
      obtain ⟨ds, hR1, hrl⟩ := resS_ok (P := P) hc hF2 hM2 hvs
      have hle : ct.m ≤ tb.length := by
        rw [← hM2.len, ← hm]
        rcases Nat.lt_or_ge ρ2.length (ρ.take ct.m).length with h' | h'
        · have h1 : (ρ.take ct.m)[ρ2.length]? = some (ρ.take ct.m)[ρ2.length] := List.getElem?_eq_getElem h'
          have := hS1.pre _ _ h1
          simp at this
        · exact h'
      obtain ⟨p', q', u', O', ρ', hk, U⟩ := uni_ok hu hM2 hR1 (rng_nodup _) (fun i hi => Nat.lt_of_lt_of_le (rng_mem hi) hle)
      cases hk
      obtain ⟨more, hbd⟩ := U.gh.bd
      have hb' : ∀ i, i < (ρ.take ct.m).length → u'.bd[i]? = some i := fun i hi => by
        rw [hm] at hi
        rw [hbd]
        show (rng ct.m ++ more)[i]? = some i
        rw [List.getElem?_append_left (by rw [rng, rngF_len]; exact hi)]; exact rng_get hi
      have hS2 := (hS1.trans (U.gh.stp.weak (fun _ _ => trivial))).oc (lt := u'.lt) hb'
      refine ⟨_, results_run hrl, _, _, ds, U.gm, hS2, U.rl, ?_⟩
      show resL (vals vs ds) = resL (vals (encs ct.B p) ds)
      rw [vals_sz U.sz]
  have hwp : code.wp P (QL (fun a w => LeavesInM Fence.wide 0 P fn a.tmps (Ret Q) a.defers .returning w) (fun _ _ _ => False) (fun a w => LeavesInM Fence.wide 0 P fn a.tmps (Ret Q) a.defers .returning w)) { tmps := (vals (encs ct.A x) cs).toArray ++ Array.replicate (fn.ntmps - (vals (encs ct.A x) cs).toArray.size) undef, defers := [] } w := by
    refine sev_ok hc hct hmx hm hlp code [] _ _ _ _ _ _ _ rfl ho (h x y p q hrun) hG0 (fun e st' a' w' h1 h2 => ?_)
    cases e with
    | normal => exact leaf h1 h2
    | ret => exact leaf h1 h2
    | exit j => cases h1
    | goto j => cases h1
    | panic ch => cases h1
    | outgrown => cases h1
  have := callsIn_of_wp_marks (F := Fence.wide) (n := 0) hf hb trivial (R := Ret Q) (wpIn_wide.2 (wp_mono hwp fun e a w q => by
    cases e <;> first | exact q | exact q.elim)) rfl
  exact callsIn_wide.1 this

theorem mkC_okM {τ : Type} {m : Nat} {A : List Sh} {T : List TSh} {B : List Sh} {U : List TSh} {t : dens A → tdens T → Option τ} {e : dens A → tdens T → τ → dens B × tdens U} {f : FuncId} {fn : Func} {code : Code} {lp : List (List Nat × Lc)} (hf : P.funcs[f]? = some fn) (hb : fn.body = some code) (hn : fn.ntmps = E.n) (hl : Nat.ble A.length E.n = true) (hmT : Nat.ble m T.length = true) (hc : COk P E.c) (hct : CtsOk P E) (hmx : P.follows .mixedOrders = true)
    (hlp : AllLc P E m code lp) (ho : ordAll E code = true) (g : dens A → tdens T → (τ → Option (dens B × tdens U)) → Option (dens B × tdens U)) (hnat : ∀ x y k, g x y k = (t x y).bind k)
    (heq : ∀ x y, sev E m lp code [] (mkSt (rng A.length) A T x y) (kFnM E m fn.results.toList B U fun p q => some (p, q)) = g x y (fun z => some (e x y z))) : Sound P E.c f (mkC m A T B U t e) := by
  refine fn_okM (ct := mkC m A T B U t e) hf hb hn hl hmT hc hct hmx hlp ho (fun (x : dens A) (y : tdens T) p q h => ?_)
  obtain ⟨z, h1, h2⟩ := bindS h
  have h3 := heq x y
  rw [hnat, h1] at h3
  rw [← h2]; exact h3

/- ## rounds -/
def noDef : List Oper → Bool
  | [] => true
  | o :: r => (match o.op with
    | .defer _ => false
    | _ => true) && noDef r

theorem noDef_mem : ∀ {l : List Oper}, noDef l = true → ∀ o ∈ l, ∀ c, o.op ≠ .defer c
  | [], _, o, hm, _ => by cases hm
  | x :: l, h, o, hm, c => by
    simp only [noDef, Bool.and_eq_true] at h
    rcases List.mem_cons.1 hm with e | hm
    · subst e
      intro e2
      have h1 := h.1
      rw [e2] at h1
      cases h1
    · exact noDef_mem h.2 o hm c

theorem op_in {l n : Nat} {o : Oper} {a : Act} {w : World} {K : Act → World → Prop} {Q : Exit → Act → World → Prop} (hd : ∀ c, o.op ≠ .defer c) (h : o.wp P a w K Q) : o.wpIn (Fence.wide.inRound l) n P a w K Q := by
  refine ⟨fun _ _ => trivial, ?_⟩
  rw [Oper.semAt_eq _ _ _ hd]
  unfold Oper.wp at h
  generalize (execOp a.eval o).run P w = r at *
  cases r with
  | ok x w' =>
    cases x <;> simp only [Oper.upon, Oper.uponIn] at h ⊢ <;> first | exact h | exact h.elim | skip
    · exact ⟨fun e => by simp [Fence.wide] at e, (callsIn_wide.2 h).inRound l⟩
    · exact ⟨fun e => by simp [Fence.wide] at e, fun c cs _ => let ⟨v, w', r, s⟩ := h c cs; ⟨v, w', r, stepsIn_wide.2 s⟩⟩
  | halt x w' => cases x <;> simp only [Oper.upon, Oper.uponIn] at h ⊢ <;> first | exact h | exact h.elim

theorem list_in {l n : Nat} {ops : Array Oper} {N : Act → World → Prop} : ∀ (L : List Oper), (∀ o ∈ L, ∀ c, o.op ≠ .defer c) → ∀ (a : Act) (w : World), wpList P ops (Qn N) L a w → wpListIn (Fence.wide.inRound l) n P ops (Qn N) L a w
  | [], _, _, _, h => h
  | o :: L, hd, a, w, h => by
    unfold wpList at h
    unfold wpListIn
    split
    · rename_i hw
      rw [if_pos hw] at h
      rcases h with h | ⟨_, a0, w0, hlets⟩
      · exact op_in (hd o (by simp)) (Oper.wp_mono (fun a w h => list_in L (fun o ho => hd o (by simp [ho])) a w h) h)
      · exact hlets.elim
    · rename_i hw
      rw [if_neg hw] at h
      exact ⟨fun _ _ => trivial, list_in L (fun o ho => hd o (by simp [ho])) _ _ h⟩

theorem any_in {l n : Nat} {ops : Array Oper} {N : Act → World → Prop} (hd : ∀ (i : Nat) o, ops[i]? = some o → ∀ c, o.op ≠ .defer c) : ∀ (fuel : Nat) (listed : Array Bool) (a : Act) (w : World), wpAny P .any ops (Qn N) fuel listed a w → wpAnyIn (Fence.wide.inRound l) n P .any ops (Qn N) fuel listed a w
  | 0, _, _, _, h => h
  | fuel + 1, listed, a, w, h => by
    refine ⟨h.1, fun i hi => ?_⟩
    have h1 := h.2 i hi
    unfold wpOp at h1
    unfold wpOpIn
    cases ho : ops[i]? with
    | none => simp only [ho] at h1; exact any_in hd fuel _ _ _ h1
    | some o =>
      simp only [ho] at h1
      simp only
      split
      · rename_i hw
        rw [if_pos hw] at h1
        rcases h1 with h1 | ⟨_, a0, w0, hlets⟩
        · exact op_in (hd i o ho) (Oper.wp_mono (fun a w h => any_in hd fuel _ a w h) h1)
        · exact hlets.elim
      · rename_i hw
        rw [if_neg hw] at h1
        exact ⟨fun _ _ => trivial, any_in hd fuel _ _ _ h1⟩

theorem RegOk.wpIn {id l n : Nat} {ops : Array Oper} {N : Act → World → Prop} {X : Nat → Act → World → Prop} {Y : Act → World → Prop} {a : Act} {w : World} (hnd : noDef ops.toList = true) : ∀ {draw : Bool}, RegOk P ops N a w draw → (Code.region id ops draw).wpIn (Fence.wide.inRound l) n P (QL N X Y) a w
  | false, h => by
    have e : ops.toList.toArray = ops := by simp
    have h' : wpList P ops.toList.toArray (Qn N) ops.toList a w := by rw [e]; exact h
    have h1 := wpIn_region_lit (id := id) (l := ops.toList) (list_in (l := l) (n := n) ops.toList (noDef_mem hnd) a w h')
    have h2 := wpIn_mono (Q' := QL N X Y) h1 (fun e a w q => by cases e <;> first | exact q | exact q.elim)
    simpa using h2
  | true, h => wpIn_mono (wpIn_region_any h.1 (any_in (l := l) (n := n) (fun i o ho => noDef_mem hnd o (by simpa using Array.mem_of_getElem? ho)) _ _ _ _ h.2)) (fun e a w q => by cases e <;> first | exact q | exact q.elim)

/-- Code of a round: no call is put off in it. -/
def noDefC : Code → Bool
  | .region _ ops _ => noDef ops.toList
  | .seq a b => noDefC a && noDefC b
  | .cond _ a b => noDefC a && noDefC b
  | .block _ c => noDefC c
  | .loop _ => false
  | _ => true

theorem sevR_ok {β : Type} {l n m : Nat} {O0 : Own} {ρ0 : List Hd} {w0 : World} {r : β} (hc : COk P E.c) (hct : CtsOk P E) (hmx : P.follows .mixedOrders = true) :
    ∀ (c : Code) (p : List Nat) (st : St) (k : Exit → St → Option β) (N : Act → World → Prop) (X : Nat → Act → World → Prop) (a : Act) (w : World), ordAll E c = true → noDefC c = true → sev E m [] c p st k = some r → G E O0 ρ0 w0 st a w →
      (∀ e st' a' w', k e st' = some r → G E O0 ρ0 w0 st' a' w' → QL N X (fun _ _ => False) e a' w') → c.wpIn (Fence.wide.inRound l) n P (QL N X (fun _ _ => False)) a w := by
  intro c
  induction c with
  | skip => intro p st k N X a w ho hn e hG hK; exact wpIn_skip (hK .normal st a w e hG)
  | exit j => intro p st k N X a w ho hn e hG hK; exact wpIn_exit (hK (.exit j) st a w e hG)
  | ret => intro p st k N X a w ho hn e hG hK; exact (hK .ret st a w e hG : False).elim
  | seq x y ihx ihy =>
    intro p st k N X a w ho hn e hG hK
    simp only [ordAll, noDefC, Bool.and_eq_true] at ho hn
    simp only [sev, look] at e
    refine wpIn_seq (wpIn_mono (ihx (0 :: p) st _ (fun a w => y.wpIn (Fence.wide.inRound l) n P (QL N X (fun _ _ => False)) a w) X a w ho.1 hn.1 e hG (fun e st' a' w' h1 h2 => ?_)) (fun e a w q => ?_))
    · cases e with
      | normal => exact ihy (1 :: p) st' k N X a' w' ho.2 hn.2 h1 h2 hK
      | exit j => exact hK (.exit j) st' a' w' h1 h2
      | ret => exact hK .ret st' a' w' h1 h2
      | goto j => exact (hK (.goto j) st' a' w' h1 h2 : False).elim
      | panic ch => exact (hK (.panic ch) st' a' w' h1 h2 : False).elim
      | outgrown => exact (hK .outgrown st' a' w' h1 h2 : False).elim
    · cases e <;> exact q
  | region id ops draw =>
    intro p st k N X a w ho hn e hG hK
    obtain ⟨O, ρ, hF, hM, hGO, hS⟩ := hG
    refine RegOk.wpIn hn (evR_reg hc hct (fun hd => ?_) e hF hM hGO (fun st' a' w' O' ρ' h1 h2 h3 h4 h5 => hK .normal st' a' w' h1 ⟨O', ρ', h2, h3, h4, hS.trans h5⟩))
    subst hd
    exact ⟨hmx, ho⟩
  | cond x y z ihy ihz =>
    intro p st k N X a w ho hn e hG hK
    simp only [ordAll, noDefC, Bool.and_eq_true] at ho hn
    simp only [sev, look] at e
    split at e <;> first | (cases e; done) | skip
    rename_i g hx
    obtain ⟨O, ρ, ⟨⟨le, hl, hER⟩, hD⟩, hM, hGO, hS⟩ := hG
    have hev : a.eval x = _ := opd_val hl (iopd_o hER hGO hx).1
    refine wpIn_cond_split (t := g) hev (fun hg => ?_) (fun hg => ?_)
    · subst hg; exact ihy (0 :: p) st k N X a w ho.1 hn.1 e ⟨O, ρ, ⟨⟨le, hl, hER⟩, hD⟩, hM, hGO, hS⟩ hK
    · subst hg; exact ihz (1 :: p) st k N X a w ho.2 hn.2 e ⟨O, ρ, ⟨⟨le, hl, hER⟩, hD⟩, hM, hGO, hS⟩ hK
  | block id b ih =>
    intro p st k N X a w ho hn e hG hK
    simp only [ordAll] at ho
    simp only [noDefC] at hn
    simp only [sev, look] at e
    refine wpIn_block (wpIn_mono (ih (0 :: p) st _ N (fun j a w => if j = id then N a w else X j a w) a w ho hn e hG (fun e st' a' w' h1 h2 => ?_)) (fun e a w q => ?_))
    · cases e with
      | normal => exact hK .normal st' a' w' h1 h2
      | exit j =>
        simp only at h1
        show if j = id then N a' w' else X j a' w'
        split at h1
        · rename_i hj; rw [if_pos (Nat.eq_of_beq_eq_true hj)]; exact hK .normal st' a' w' h1 h2
        · rename_i hj; rw [if_neg (Nat.ne_of_beq_eq_false hj)]; exact hK (.exit j) st' a' w' h1 h2
      | ret => exact hK .ret st' a' w' h1 h2
      | goto j => exact (hK (.goto j) st' a' w' h1 h2 : False).elim
      | panic ch => exact (hK (.panic ch) st' a' w' h1 h2 : False).elim
      | outgrown => exact (hK .outgrown st' a' w' h1 h2 : False).elim
    · cases e with
      | exit j =>
        show if j = id then _ else _
        have q : if j = id then N a w else X j a w := q
        split
        · rename_i hj; rw [if_pos hj] at q; exact q
        · rename_i hj; rw [if_neg hj] at q; exact q
      | _ => exact q
  | loop b ih => intro p st k N X a w ho hn e hG hK; simp [noDefC] at hn
  | rangeFunc g ps as b iha ihb => intro p st k N X a w ho hn e hG hK; simp [sev, look] at e
  | _ => intro p st k N X a w ho hn e hG hK; simp [sev] at e
end
end Go.Tw
/- A range over a function, its rounds counted: what the body does in each round, and what the function that is ranged over does with it. No program is in it. -/
namespace Go.Tw
set_option linter.unusedSimpArgs false
set_option linter.unusedVariables false
open Go.RowKit
section
variable {P : Program} {E : Ev}

/-- The loop's own two blocks: the put-off calls of its rounds at D, its record behind it. -/
def RecOk (D : Nat) (r : Loop) (W : World) : Prop := W.heap[D + 1]? = some (.loop r) ∧ W.heap[D]? = some (.deferred (some []))

theorem RecOk.put {D : Nat} {r r' : Loop} {W : World} (h : RecOk D r W) : RecOk D r' (W.putObj (D + 1) (.loop r')) :=
  ⟨World.putObj_heap_same (Array.getElem?_eq_some_iff.1 h.1).1, (World.putObj_heap_other (by omega)).trans h.2⟩

/-- A function that is ranged over: it asks for N rounds, with the values u 0, u 1, .., and returns. Rd: what it reads. -/
def Iter (P : Program) (gf : Nat) (lb : Array Value) (N : Nat) (u : Nat → Array Value) (Rd : World → Prop) : Prop :=
  ∀ (l : Nat) (Jr : Nat → World → Prop), (∀ k W, Jr k W → Rd W) → (∀ k W d, Jr k W → Jr k { W with drawn := d }) → (∀ k W, k < N → Jr k W → YieldAt Fence.wide 0 P l (u k) W (fun e W' => e = .returned (.bool true) ∧ Jr (k + 1) W')) → ∀ W, Jr 0 W →
    CallsIn Fence.wide 1 P gf (#[.func (.yield l) #[] #[]] ++ lb) W (fun e W' => (∃ v, e = .returned v) ∧ Jr N W')

theorem rf_law {g : Operand} {ps : Array Tmp} {assign body : Code} {a : Act} {w : World} {K : Act → World → Prop} {X : Nat → Act → World → Prop} {Y : Act → World → Prop} {gf : Nat} {lb : Array Value}
    (hg : a.eval g = .func (.func gf) #[] lb) (eg : ∀ args w, (callFunc gf args).run P w = .ok (.enter gf args) w) {N : Nat} {u : Nat → Array Value} {Rd : World → Prop} (hit : Iter P gf lb N u Rd) (hu : ∀ k, k < N → (u k).size = ps.size)
    (J : Nat → World → Prop) (a₁ : Nat → Act) (hJr : ∀ k W, J k W → Rd W) (hJd : ∀ k W d, J k W → J k { W with drawn := d })
    (hJ0 : ∀ r : Loop, J 0 ((w.alloc (.deferred (some []))).alloc (.loop r)))
    (hJp : ∀ k W (r r' : Loop), J k W → RecOk w.heap.size r W → J k (W.putObj (w.heap.size + 1) (.loop r')))
    (has : ∀ (l k : Nat) (W : World) (K' : Act → World → Prop), k < N → K' (a₁ k) W → assign.wpIn (Fence.wide.inRound l) 0 P (Exit.then K' (fun _ _ _ => False)) { tmps := (ps.zip (u k)).foldl (fun t (p, v) => t.setIfInBounds p v) a.tmps, defers := [] } W)
    (hbody : ∀ (l k : Nat) (W : World) (r : Loop), k < N → J k W → RecOk w.heap.size r W → body.wpIn (Fence.wide.inRound l) 0 P (QL (fun _ W' => J (k + 1) W' ∧ RecOk w.heap.size r W') (fun _ _ _ => False) (fun _ _ => False)) (a₁ k) W)
    (hdone : ∀ W, J N W → W.heap[w.heap.size]? = some (.deferred (some [])) → K { a with defers := { target := .collected w.heap.size, args := #[] } :: a.defers } W) :
    (Code.rangeFunc g ps assign body).wp P (QL K X Y) a w := by
  refine (wpIn_wide (n := 2)).1 (wpIn_rangeFunc ?_)
  intro fn hfn
  let rc : Loop := { state := .ready, pending := none, fn := fn, tmps := a.tmps, params := ps, assign := assign, body := body, defers := w.heap.size }
  let W1 : World := (w.alloc (.deferred (some []))).alloc (.loop rc)
  have hR1 : RecOk w.heap.size rc W1 := by
    constructor
    · have := World.alloc_heap_new (w.alloc (.deferred (some []))) (.loop rc)
      rw [World.size_alloc] at this
      exact this
    · exact (Below.heap_alloc _ _ _ (by simp)).trans (World.alloc_heap_new w _)
  refine ⟨w.heap.size + 1, [{ target := .collected w.heap.size, args := #[] }], W1, { target := .fn (.func gf) lb, args := #[.func (.yield (w.heap.size + 1)) #[] #[]] }, W1, gf, #[.func (.yield (w.heap.size + 1)) #[] #[]] ++ lb, W1,
    run_enterLoop_outer _ _ _ _ _, ?_, fun _ _ => trivial, ?_, fun _ => by omega, ?_⟩
  · simp only [resolve, rangeCall, hg]
    simp [go_sem]
  · simp [invoke, go_sem, eg]
  · refine (hit (w.heap.size + 1) (fun k W => J k W ∧ RecOk w.heap.size rc W) (fun k W h => hJr k W h.1) (fun k W d h => ⟨hJd k W d h.1, h.2⟩) ?_ W1 ⟨hJ0 rc, hR1⟩).mono ?_
    · rintro k W hk ⟨hj, hr⟩
      refine ⟨fn, _, assign, body, run_yield (P := P) hr.1 (hu k hk), roundIn_of_wpIn hfn (has _ k W _ hk ⟨_, run_beginRound hr.1 rfl, ?_⟩)⟩
      refine wpIn_mono (hbody _ k _ { rc with state := .busy } hk (hJp k W rc _ hj hr) hr.put) ?_
      rintro e a3 W3 hq
      cases e with
      | normal =>
        obtain ⟨h1, h2⟩ := hq
        exact ⟨_, _, run_endRound (P := P) none h2.1, rfl, hJp _ _ _ _ h1 h2, h2.put⟩
      | _ => exact hq.elim
    · rintro e W' ⟨⟨v, rfl⟩, h1, h2⟩
      exact ⟨none, _, run_endLoop (P := P) h2.1 (by simp [rc]), hdone _ (hJp _ _ _ _ h1 h2) ((World.putObj_heap_other (by omega)).trans h2.2)⟩

/- ## in terms of things -/
/-- A block becomes one that nobody changes any more. -/
theorem Gm.frzB {O : Own} {ρ : List Hd} {tb : Tbl} {w : World} {id ty : Nat} {v : IV} (hM : Gm O ρ tb w) (hb : tb[id]? = some (.blk ty v)) :
    ∃ O' h cs, ρ[id]? = some h ∧ O' h.b = .im cs ∧ R O' ρ false v cs ∧ Gm O' ρ (tb.set id .no) w ∧ Stp (· = id) O ρ w O' ρ w := by
  obtain ⟨h, cs, h1, h2, h3, h4, h5⟩ := hM.th _ _ hb
  have hid := (List.getElem?_eq_some_iff.1 hb).1
  have hle : O.le (fun b => bif Nat.beq h.b b then .im cs else O b) := fun b all e => by
    cases e' : Nat.beq h.b b with
    | true => have := Nat.eq_of_beq_eq_true e'; subst this; rw [h2] at e; cases e
    | false => simp only [e', cond_false]; exact e
  have hst := hM.step (M := (· = id)) (O' := fun b => bif Nat.beq h.b b then .im cs else O b) (ρ' := ρ) (tb' := tb.set id .no) (w' := w) (Kept.refl _ _) (fun b hbl hn => ?_) (fun b hbl => ?_) (fun b all e => ?_) (.refl _) (by simp [hM.len]) (fun j x hx => ?_)
  · exact ⟨_, h, cs, h1, by simp, R.mono hle (.refl _) h4, hst.1, hst.2⟩
  · cases e' : Nat.beq h.b b with
    | true => have := Nat.eq_of_beq_eq_true e'; subst this; exact absurd h2 (hn id rfl)
    | false => rfl
  · cases e' : Nat.beq h.b b with
    | true => have := Nat.eq_of_beq_eq_true e'; subst this; have := h5.lt; omega
    | false => exact hM.lt b hbl
  · cases e' : Nat.beq h.b b with
    | true =>
      have := Nat.eq_of_beq_eq_true e'; subst this
      simp only [e', cond_true] at e
      cases e
      obtain ⟨fz, h6, _⟩ := h5
      exact .inr ⟨ty, fz, h6⟩
    | false => simp only [e', cond_false] at e; exact .inl e
  · rw [List.getElem?_set] at hx
    split at hx
    · cases hx; exact .inr trivial
    · rename_i hj; exact .inl ⟨hx, fun e => hj e.symm⟩

def dropB : List Nat → Tbl → Tbl
  | [], tb => tb
  | j :: r, tb => dropB r (tb.set j .no)

/-- The boxes: what they hold, for good. -/
def BxOk (O : Own) (ρ : List Hd) (tb : Tbl) (bx : List Nat) : Prop := ∀ j ∈ bx, ∀ ty v, tb[j]? = some (.blk ty v) → ∃ h cs, ρ[j]? = some h ∧ O h.b = .im cs ∧ R O ρ false v cs

def allBlk (tb : Tbl) : List Nat → Bool
  | [] => true
  | j :: r => (match nth tb j with
    | some (.blk _ _) => true
    | _ => false) && (match idx r j with
    | none => true
    | some _ => false) && allBlk tb r

theorem dropB_ok : ∀ (bx : List Nat) {O : Own} {ρ : List Hd} {tb : Tbl} {w : World}, allBlk tb bx = true → Gm O ρ tb w → ∃ O', Gm O' ρ (dropB bx tb) w ∧ Stp (fun _ => True) O ρ w O' ρ w ∧ BxOk O' ρ tb bx
  | [], O, ρ, tb, w, _, hM => ⟨O, hM, .refl _ _ _ _, fun j hj => by cases hj⟩
  | j :: bx, O, ρ, tb, w, hB, hM => by
    simp only [allBlk, Bool.and_eq_true] at hB
    obtain ⟨⟨h1, h2⟩, h3⟩ := hB
    split at h1 <;> first | (cases h1; done) | skip
    rename_i ty v hb
    split at h2 <;> first | (cases h2; done) | skip
    rename_i hni
    rw [nth_eq] at hb
    obtain ⟨O1, h, cs, g1, g2, g3, g4, g5⟩ := hM.frzB hb
    have hne : ∀ i ∈ bx, i ≠ j := fun i hi e => by subst e; exact idx_none hni hi
    have hsame : ∀ i, i ≠ j → (tb.set j .no)[i]? = tb[i]? := fun i hi => by rw [List.getElem?_set, if_neg (Ne.symm hi)]
    have hB' : ∀ l : List Nat, (∀ i ∈ l, i ≠ j) → allBlk tb l = true → allBlk (tb.set j .no) l = true := by
      intro l
      induction l with
      | nil => intro _ _; rfl
      | cons i l ih =>
        intro hl h
        simp only [allBlk, Bool.and_eq_true] at h ⊢
        refine ⟨⟨?_, h.1.2⟩, ih (fun i hi => hl i (by simp [hi])) h.2⟩
        rw [nth_eq, hsame i (hl i (by simp)), ← nth_eq]; exact h.1.1
    obtain ⟨O2, k1, k2, k3⟩ := dropB_ok bx (hB' bx hne h3) g4
    refine ⟨O2, k1, (g5.weak (fun _ _ => trivial)).trans k2, fun i hi ty' v' hv' => ?_⟩
    rcases List.mem_cons.1 hi with rfl | hi
    · rw [hb] at hv'; cases hv'
      exact ⟨h, cs, g1, k2.im _ _ g2, R.mono k2.im k2.pre g3⟩
    · exact k3 i hi ty' v' (by rw [hsame i (hne i hi)]; exact hv')

theorem SR.ofR {O : Own} {ρ : List Hd} {v : IV} {c : List Value} (hv : ∀ ch, v ≠ .tu ch) (h : R O ρ false v c) : ∃ sv, SR O ρ v sv ∧ sv.val = (bif v.agg then .agg c.toArray else c.headD (.bool false)) := by
  have one : v.agg = false → ∃ u, c = [u] := fun hg => by
    have hl := R.length h
    have hz : v.sz.size = 1 := by cases v <;> first | rfl | cases hg
    rw [hz] at hl
    match c, hl with
    | [u], _ => exact ⟨u, rfl⟩
  cases v with
  | o x => obtain ⟨rfl, h2⟩ := h; exact ⟨.o x, ⟨x, rfl, rfl, h2⟩, rfl⟩
  | un => simp only [R] at h; subst h; exact ⟨.o (.v (.agg #[])), ⟨_, rfl, rfl⟩, rfl⟩
  | pr a b => exact ⟨.o (.v (.agg c.toArray)), ⟨_, rfl, c, rfl, h⟩, rfl⟩
  | ar n t xs => exact ⟨.o (.v (.agg c.toArray)), ⟨_, rfl, c, rfl, h⟩, rfl⟩
  | tu ch => exact absurd rfl (hv ch)
  | _ => obtain ⟨u, rfl⟩ := one rfl; exact ⟨.o (.v u), ⟨_, rfl, u, rfl, h⟩, rfl⟩

/-- Slots get values, one after the other. -/
def putA : List Nat → List Value → Act → Act
  | p :: ps, v :: vs, a => putA ps vs (a.put (some p) v)
  | _, _, a => a
def putI : List Nat → List IV → IEnv → IEnv
  | p :: ps, v :: vs, il => putI ps vs ((p, v) :: il)
  | _, _, il => il
def noTu : List IV → Bool
  | [] => true
  | v :: r => (match v with
    | .tu _ => false
    | _ => true) && noTu r
def allLt (n : Nat) : List Nat → Bool
  | [] => true
  | p :: r => Nat.blt p n && allLt n r

theorem putA_ok {n : Nat} {O : Own} {ρ : List Hd} : ∀ {ps : List Nat} {vs : List IV} {cs : List (List Value)} {a : Act} {il : IEnv}, allLt n ps = true → noTu vs = true → RL O ρ vs cs → FI n a il O ρ → FI n (putA ps (vals vs cs) a) (putI ps vs il) O ρ
  | [], vs, cs, a, il, _, _, _, h => by cases vs <;> cases cs <;> exact h
  | p :: ps, [], cs, a, il, _, _, hR, h => by simp only [RL] at hR; subst hR; exact h
  | p :: ps, v :: vs, cs, a, il, hl, hn, hR, h => by
    obtain ⟨c, r, rfl, h1, h2⟩ := hR
    simp only [allLt, noTu, Bool.and_eq_true] at hl hn
    obtain ⟨sv, g1, g2⟩ := SR.ofR (fun ch e => by subst e; simp at hn) h1
    have := h.put hl.1 g1
    rw [g2] at this
    exact putA_ok (ps := ps) (vs := vs) (cs := r) hl.2 hn.2 h2 this

theorem putA_defers : ∀ (ps : List Nat) (vs : List Value) (a : Act), (putA ps vs a).defers = a.defers
  | [], vs, a => by cases vs <;> rfl
  | p :: ps, [], a => rfl
  | p :: ps, v :: vs, a => by simp only [putA]; rw [putA_defers ps vs]; rfl
theorem putA_tmps : ∀ (ps : List Nat) (vs : List Value) (a : Act), (putA ps vs a).tmps = (ps.zip vs).foldl (fun t x => t.setIfInBounds x.1 x.2) a.tmps
  | [], vs, a => by cases vs <;> rfl
  | p :: ps, [], a => rfl
  | p :: ps, v :: vs, a => by simp only [putA, List.zip_cons_cons, List.foldl_cons]; rw [putA_tmps ps vs]; rfl

/-- A state is read anew; what is kept of who has what. -/
theorem uniS_ok2 {β : Type} {m : Nat} {sl : List Nat} {A : List Sh} {T : List TSh} {st : St} {k : dens A → tdens T → Option β} {r : β} {a : Act} {w w0 : World} {O O0 : Own} {ρ ρ0 : List Hd} (hm : ρ0.length = m) (e : uniS m sl A T st k = some r)
    (hF : FS E.n a st O ρ) (hM : Gm O ρ st.tb w) (hG : GO E.c O) (hS : Stp (fun _ => True) O0 ρ0 w0 O ρ w) :
    ∃ x y O' ρ', k x y = some r ∧ O.le O' ∧ (∀ b, b < w.heap.size → O b = .no → O' b = .no) ∧ FS E.n a (mkSt sl A T x y) O' ρ' ∧ Gm O' ρ' (encTs T y) w ∧ GO E.c O' ∧ Stp (fun _ => True) O0 ρ0 w0 O' ρ' w := by
  unfold uniS at e
  split at e <;> first | (cases e; done) | skip
  rename_i vs hvs hdf
  obtain ⟨cs, hR, hlen, hslots⟩ := pickS_ok hF.1 hvs
  have hle : m ≤ st.tb.length := by
    rw [← hM.len, ← hm]
    rcases Nat.lt_or_ge ρ.length ρ0.length with h' | h'
    · have h1 : ρ0[ρ.length]? = some ρ0[ρ.length] := by simp [h']
      have := hS.pre _ _ h1
      simp at this
    · exact h'
  obtain ⟨x, y, u', O', ρ', hk, U⟩ := uni_ok e hM hR (rng_nodup m) (fun i hi => Nat.lt_of_lt_of_le (rng_mem hi) hle)
  obtain ⟨more, hbd⟩ := U.gh.bd
  have hb : ∀ i, i < ρ0.length → u'.bd[i]? = some i := fun i hi => by
    rw [hm] at hi
    rw [hbd]
    show (rng m ++ more)[i]? = some i
    rw [List.getElem?_append_left (by rw [rng, rngF_len]; exact hi)]; exact rng_get hi
  have hS2 := (hS.trans (U.gh.stp.weak (fun _ _ => trivial))).oc (lt := u'.lt) hb
  obtain ⟨⟨l, hl, _⟩, hD⟩ := hF
  rw [hdf] at hD
  have hle2 := U.gh.stp.im.trans (Oc_le u'.bd u'.lt O' w)
  refine ⟨x, y, _, _, hk, hle2, fun b hbl h => ?_, ⟨?_, hD⟩, U.gm, hG.mono hle2, hS2⟩
  · have := U.gh.stp.no b hbl h
    simp only [Oc, this]
  · exact FI.of hl.size U.rl (fun i t v hi hv => hslots i t v hi (by rw [← vals_sz U.sz]; exact hv))

def rfold {σ ε : Type} (f : σ → ε → Option σ) : List ε → σ → Option σ
  | [], s => some s
  | e :: r, s => (f s e).bind (rfold f r)

theorem rfold_app {σ ε : Type} {f : σ → ε → Option σ} : ∀ (l r : List ε) (s : σ), rfold f (l ++ r) s = (rfold f l s).bind (rfold f r)
  | [], r, s => rfl
  | e :: l, r, s => by
    simp only [List.cons_append, rfold]
    cases f s e with
    | none => rfl
    | some s' => simp only [Option.bind_some]; exact rfold_app l r s'

/-- The rounds' twin. -/
def mkF (gt gf : Nat) (cap : Sh) (s1 : List Nat) (A0 A1 : List Sh) (T T1 : List TSh) {ε : Type} (els : dens (.fn gf .un cap :: A0) → tdens T → List ε) (init : dens (.fn gf .un cap :: A0) → tdens T → dens A1 × tdens T1)
    (ok : dens (.fn gf .un cap :: A0) → tdens T → Bool) (f : dens (.fn gf .un cap :: A0) → tdens T → dens A1 × tdens T1 → ε → Option (dens A1 × tdens T1)) : Lc where
  s0 := gt :: s1
  A := .fn gf .un cap :: A0
  T := T
  s1 := s1
  A1 := A1
  T1 := T1
  s2 := []
  A2 := []
  T2 := []
  rf := true
  run := fun _ x y k1 _ => (bif ok x y then rfold (f x y) (els x y) (init x y) else none).bind fun s => k1 s.1 s.2
  nat := fun _ x y k1 k2 r h => by
    obtain ⟨z, h1, h2⟩ := bindS h
    exact .inl ⟨_, _, by rw [h1]; rfl, h2⟩
/-- The end of a round. -/
def kRd (m : Nat) (s1 : List Nat) (A1 : List Sh) (T1 : List TSh) (vs : List IV) : Exit → St → Option (dens A1 × tdens T1) := fun e st => match e with
  | .normal => uniS m s1 A1 T1 ⟨zipS s1 vs, st.tb, []⟩ fun x y => some (x, y)
  | _ => none

theorem Gm.other {O : Own} {ρ : List Hd} {T : List TSh} {y : tdens T} {w w' : World} (hM : Gm O ρ (encTs T y) w) (hs : w.heap.size ≤ w'.heap.size) (hb : ∀ b, b < w.heap.size → O b ≠ .no → w'.heap[b]? = w.heap[b]?) : Gm O ρ (encTs T y) w' := by
  have hlow : ∀ b, O b ≠ .no → b < w.heap.size := fun b h => by
    rcases Nat.lt_or_ge b w.heap.size with h' | h'
    · exact h'
    · exact absurd (hM.lt b h') h
  have same : ∀ b, O b ≠ .no → w'.heap[b]? = w.heap[b]? := fun b h => hb b (hlow b h) h
  refine ⟨fun b all e => ?_, fun b h => hM.lt b (Nat.le_trans hs h), hM.len, fun j x hx => ?_⟩
  · obtain ⟨ty, fz, h1⟩ := hM.im b all e
    exact ⟨ty, fz, by rw [same b (by rw [e]; simp)]; exact h1⟩
  · have old := hM.th j x hx
    have nomk : ∀ (T : List TSh) (y : tdens T) (j : Nat), (encTs T y)[j]? ≠ some .mk := by
      intro T
      induction T with
      | nil => intro y j h; simp [encTs] at h
      | cons s T ih =>
        intro y j h
        cases j with
        | zero => simp only [encTs, List.getElem?_cons_zero, Option.some.injEq] at h; cases s <;> simp [encT] at h
        | succ j => simp only [encTs, List.getElem?_cons_succ] at h; exact ih y.2 j h
    cases x with
    | blk ty v =>
      obtain ⟨h, cs, h3, h4, h5, h6, h7⟩ := old
      exact ⟨h, cs, h3, h4, h5, h6, h7.same (same _ (by rw [h4]; simp))⟩
    | row E t xs =>
      obtain ⟨h, es, h3, h4, h5, h6, h7⟩ := old
      exact ⟨h, es, h3, h4, h5, h6, Rs.same (r := .row E t.size h.v xs.length es) (fun b hbb => same b (by rw [h5 b hbb]; simp)) h7⟩
    | fz t xs => exact old
    | no => trivial
    | mk => exact absurd hx (nomk T y j)

/-- Shapes that name no thing. -/
def Sh.fr : Sh → Bool
  | .i => true
  | .u8 => true
  | .u32 => true
  | .u64 => true
  | .bo => true
  | .str => true
  | .ro _ => true
  | .un => true
  | .ar _ _ => true
  | .pr a b => a.fr && b.fr
  | _ => false
theorem R_fr {O O' : Own} {ρ ρ' : List Hd} (hO : O.le O') : ∀ {s : Sh}, s.fr = true → ∀ {x : s.den} {c : List Value}, R O ρ false (enc s x) c → R O' ρ' false (enc s x) c := by
  intro s
  induction s with
  | pr a b iha ihb =>
    intro h x c hR
    simp only [Sh.fr, Bool.and_eq_true] at h
    obtain ⟨c1, c2, rfl, h1, h2⟩ := hR
    exact ⟨c1, c2, rfl, iha h.1 h1, ihb h.2 h2⟩
  | ro t => intro h x c hR; exact TR.mono (t := .sl t) hO hR
  | ar n t => intro h x c hR; exact TR.mono (t := .ar n t) hO hR
  | un => intro h x c hR; exact hR
  | i => intro h x c hR; exact hR
  | u8 => intro h x c hR; exact hR
  | u32 => intro h x c hR; exact hR
  | u64 => intro h x c hR; exact hR
  | bo => intro h x c hR; exact hR
  | str => intro h x c hR; exact hR
  | _ => intro h; simp [Sh.fr] at h
def allFr : List Sh → Bool
  | [] => true
  | s :: r => s.fr && allFr r
theorem RL_fr {O O' : Own} {ρ ρ' : List Hd} (hO : O.le O') : ∀ {A : List Sh}, allFr A = true → ∀ {x : dens A} {cs : List (List Value)}, RL O ρ (encs A x) cs → RL O' ρ' (encs A x) cs
  | [], _, x, cs, h => h
  | s :: A, hA, x, cs, h => by
    simp only [allFr, Bool.and_eq_true] at hA
    obtain ⟨c, r, rfl, h1, h2⟩ := h
    exact ⟨c, r, rfl, R_fr hO hA.1 h1, RL_fr hO hA.2 h2⟩

/-- The block of the put-off calls is taken in. -/
theorem Gm.adoptM {O : Own} {ρ : List Hd} {tb : Tbl} {w : World} {b0 : Nat} (hM : Gm O ρ tb w) (hO : O b0 = .no) (hb : w.heap[b0]? = some (.deferred (some []))) :
    Gm (fun b => bif Nat.beq b0 b then .th tb.length else O b) (ρ ++ [⟨b0, .nil, .bool false⟩]) (tb ++ [.mk]) w ∧ O.le (fun b => bif Nat.beq b0 b then .th tb.length else O b) := by
  have hlt : b0 < w.heap.size := (Array.getElem?_eq_some_iff.1 hb).1
  have hle : O.le (fun b => bif Nat.beq b0 b then .th tb.length else O b) := fun b all e => by
    cases e' : Nat.beq b0 b with
    | true => have := Nat.eq_of_beq_eq_true e'; subst this; rw [hO] at e; cases e
    | false => simp only [e', cond_false]; exact e
  refine ⟨⟨fun b all e => ?_, fun b hb' => ?_, by simp [hM.len], fun j x hx => ?_⟩, hle⟩
  · cases e' : Nat.beq b0 b with
    | true => rw [e'] at e; cases e
    | false => rw [e'] at e; exact hM.im b all e
  · cases e' : Nat.beq b0 b with
    | true => have := Nat.eq_of_beq_eq_true e'; omega
    | false => exact hM.lt b hb'
  · rcases Nat.lt_or_ge j tb.length with hj | hj
    · rw [List.getElem?_append_left hj] at hx
      have old := hM.th j x hx
      have ne : ∀ b, O b = .th j → (bif Nat.beq b0 b then .th tb.length else O b) = .th j := fun b e => by
        cases e' : Nat.beq b0 b with
        | true => have := Nat.eq_of_beq_eq_true e'; subst this; rw [hO] at e; cases e
        | false => exact e
      cases x with
      | blk ty v =>
        obtain ⟨h, cs, h3, h4, h5, h6, h7⟩ := old
        exact ⟨h, cs, Pre.app _ _ _ _ h3, ne _ h4, h5, R.mono hle (.app _ _) h6, h7⟩
      | row E t xs =>
        obtain ⟨h, es, h3, h4, h5, h6, h7⟩ := old
        exact ⟨h, es, Pre.app _ _ _ _ h3, h4, fun b hbb => ne _ (h5 b hbb), h6.mono (fun _ _ => TR.mono hle), h7⟩
      | fz t xs =>
        obtain ⟨h, h3, h4, h5⟩ := old
        exact ⟨h, Pre.app _ _ _ _ h3, h4, TR.mono hle h5⟩
      | no => trivial
      | mk =>
        obtain ⟨h, h3, h4, h5⟩ := old
        exact ⟨h, Pre.app _ _ _ _ h3, ne _ h4, h5⟩
    · have : j = tb.length := by
        have := (List.getElem?_eq_some_iff.1 hx).1
        simp at this; omega
      subst this
      rw [List.getElem?_append_right (Nat.le_refl _)] at hx
      simp at hx; subst hx
      exact ⟨⟨b0, .nil, .bool false⟩, by rw [← hM.len]; simp, by simp, hb⟩

/-- What holds between two rounds. -/
def Jk (E : Ev) (O0 : Own) (ρ0 : List Hd) (w0 : World) (D : Nat) (O1 : Own) (ρ1 : List Hd) (a : Act) (s1 : List Nat) (A1 : List Sh) (T1 : List TSh) (S : Nat → Option (dens A1 × tdens T1)) (k : Nat) (W : World) : Prop :=
  ∃ s, S k = some s ∧ ∃ O ρ, O1.le O ∧ O D = .no ∧ O (D + 1) = .no ∧ D + 1 < W.heap.size ∧ FS E.n a (mkSt s1 A1 T1 s.1 s.2) O ρ ∧ Gm O ρ (encTs T1 s.2) W ∧ GO E.c O ∧ Stp (fun _ => True) O0 ρ0 w0 O ρ W

theorem rf_ok {m : Nat} {root : Code} {p pb : List Nat} {gt gf ida d s_ : Nat} {cap : Sh} {ps : Array Tmp} {oa : Oper} {body : Code} {s1 : List Nat} {A0 A1 Ae : List Sh} {T T1 : List TSh} {bx : List Nat}
    {els : dens (.fn gf .un cap :: A0) → tdens T → List (dens Ae)} {init : dens (.fn gf .un cap :: A0) → tdens T → dens A1 × tdens T1} {ok : dens (.fn gf .un cap :: A0) → tdens T → Bool} {f : dens (.fn gf .un cap :: A0) → tdens T → dens A1 × tdens T1 → dens Ae → Option (dens A1 × tdens T1)} {ve : dens Ae → IV}
    (hc : COk P E.c) (hct : CtsOk P E) (hmx : P.follows .mixedOrders = true) (hcode : cAt root p = .rangeFunc (.tmp gt) ps (.region ida #[oa] false) body) (hoa : oa.op = .assign (.tmp s_)) (hod : oa.dst = some d) (hog : oa.guard = none)
    (hord : ordAll E body = true) (hnd : noDefC body = true) (hbx : ∀ y, allBlk (encTs T y) bx = true) (hini : ∀ x y, uniS m s1 A1 T1 ⟨zipS s1 (encs A0 x.2), dropB bx (encTs T y), []⟩ (fun p q => some (p, q)) = some (init x y)) (hgt : idx s1 gt = none) (hps : ps.size = Ae.length) (hfr : allFr Ae = true)
    (hlt : allLt E.n ps.toList = true) (hdlt : Nat.blt d E.n = true) (hnt : ∀ el, noTu (encs Ae el) = true) (hve : ∀ el il, geti (putI ps.toList (encs Ae el) il) s_ = some (ve el))
    (eg : ∀ args w, (callFunc gf args).run P w = .ok (.enter gf args) w)
    (hit : ∀ x y O ρ lb, ok x y = true → R O ρ true (enc cap x.1.2) lb → BxOk O ρ (encTs T y) bx → ∃ u : Nat → Array Value, (∀ k el, (els x y)[k]? = some el → ∃ cs, RL O ρ (encs Ae el) cs ∧ u k = (vals (encs Ae el) cs).toArray) ∧
      Iter P gf lb.toArray (els x y).length u (fun W => ∀ b all, O b = .im all → ∃ ty fz, W.heap[b]? = some (.cells all.toArray ty fz)))
    (heq : ∀ x y st el, sev E m [] body pb ⟨(d, ve el) :: putI ps.toList (encs Ae el) (zipS s1 (encs A1 st.1)), encTs T1 st.2, []⟩ (kRd m s1 A1 T1 (encs A1 st.1)) = f x y st el) :
    LcOkM P E m (mkF gt gf cap s1 A0 A1 T T1 els init ok f) (cAt root p) := by
  intro O0 ρ0 w0 hm x y p' q' hrun a w hG
  have hrun : (bif ok x y then rfold (f x y) (els x y) (init x y) else none).bind (fun s => some (Sum.inl (s.1, s.2))) = some (Sum.inl (p', q')) := hrun
  obtain ⟨sN, hfold, hsN⟩ := bindS hrun
  have hok : ok x y = true := by
    cases h : ok x y with
    | true => rfl
    | false => rw [h] at hfold; cases hfold
  rw [hok] at hfold
  simp only [cond_true] at hfold
  have hsN : (sN.1, sN.2) = (p', q') := by
    have := Option.some.inj hsN
    exact Sum.inl.inj this
  have hG : G E O0 ρ0 w0 (mkSt (gt :: s1) (.fn gf .un cap :: A0) T x y) a w := hG
  obtain ⟨O, ρ, ⟨⟨l, hl, hER⟩, hD⟩, hM, hGO, hS⟩ := hG
  have hM : Gm O ρ (encTs T y) w := hM
  have hdef : a.defers = [] := hD
  -- the function value
  have hER : ER O ρ ((gt, .fn gf .un (enc cap x.1.2)) :: zipS s1 (encs A0 x.2)) l := hER
  obtain ⟨sv, hsv, y0, rfl, u0, rfl, hR0⟩ := hER.get (t := gt) (v := .fn gf .un (enc cap x.1.2)) (by simp [geti])
  obtain ⟨xs, lb, hcs, hxs, hlb⟩ := hR0
  simp only [List.cons.injEq, and_true] at hcs
  simp only [R] at hxs
  subst hxs hcs
  have hev : a.eval (.tmp gt) = .func (.func gf) #[] lb.toArray := hl.eval hsv
  -- the boxes are frozen
  obtain ⟨O1, hM1, hS1, hbxo⟩ := dropB_ok bx (hbx y) hM
  have hlb1 : R O1 ρ true (enc cap x.1.2) lb := R.mono hS1.im hS1.pre hlb
  obtain ⟨u, hu, hiter⟩ := hit x y O1 ρ lb hok hlb1 hbxo
  -- the frame without the function value
  have hF1 : FI E.n a (zipS s1 (encs A0 x.2)) O1 ρ := by
    have hfi : FI E.n a ((gt, .fn gf .un (enc cap x.1.2)) :: zipS s1 (encs A0 x.2)) O ρ := ⟨l, hl, hER⟩
    have hfi := hfi.mono hS1.im hS1.pre
    obtain ⟨l', hl', hER'⟩ := hfi
    cases l' with
    | nil => exact hER'.elim
    | cons z l' =>
      obtain ⟨t0, x0⟩ := z
      obtain ⟨rfl, _, h3⟩ := hER'
      refine ⟨l', ⟨hl'.defers, hl'.size, fun t v hv => hl'.has t v ?_⟩, h3⟩
      have hne : gt ≠ t := fun e => by
        subst e
        have hk : ∀ {sl : List Nat} {vs : List IV} {l' : Env}, ER O1 ρ (zipS sl vs) l' → idx sl gt = none → get? l' gt = none := by
          intro sl
          induction sl with
          | nil => intro vs l' h _; cases l' with
            | nil => rfl
            | cons _ _ => simp [zipS, ER] at h
          | cons t1 sl ih =>
            intro vs l' h hi
            cases vs with
            | nil => cases l' with
              | nil => rfl
              | cons _ _ => simp [zipS, ER] at h
            | cons v1 vs =>
              cases l' with
              | nil => simp [zipS, ER] at h
              | cons z l' =>
                obtain ⟨t2, x2⟩ := z
                obtain ⟨rfl, _, h4⟩ := h
                simp only [idx] at hi
                split at hi
                · cases hi
                · rename_i hb
                  split at hi
                  · cases hi
                  · rename_i hi2
                    simp only [get?, hb, cond_false]
                    exact ih h4 hi2
        rw [hk h3 hgt] at hv
        cases hv
      simp only [get?]
      have hb : Nat.beq gt t = false := by
        cases hb : Nat.beq gt t with
        | true => exact absurd (Nat.eq_of_beq_eq_true hb) hne
        | false => rfl
      rw [hb]
      exact hv
  rw [hcode]
  have hw0 : w0.heap.size ≤ w.heap.size := hS.kept.size
  -- what is left is numbered anew
  obtain ⟨p1, q1, O1', ρ1', hk1, hle1, _, hFS1, hGm1, hGO1, hS1'⟩ := uniS_ok2 (E := E) hm (hini x y) (a := a) (O := O1) (ρ := ρ) ⟨hF1, hD⟩ hM1 (hGO.mono hS1.im) (hS.trans hS1)
  have hk1 : (p1, q1) = init x y := Option.some.inj hk1
  let S : Nat → Option (dens A1 × tdens T1) := fun k => rfold (f x y) ((els x y).take k) (init x y)
  have hSs : ∀ k el, (els x y)[k]? = some el → S (k + 1) = (S k).bind fun s => f x y s el := by
    intro k el hk
    have hlt : k < (els x y).length := (List.getElem?_eq_some_iff.1 hk).1
    have e1 : (els x y).take (k + 1) = (els x y).take k ++ [el] := by
      rw [List.take_add_one, hk]; rfl
    show rfold _ _ _ = _
    rw [e1, rfold_app]
    show _ = (rfold (f x y) ((els x y).take k) (init x y)).bind _
    congr 1
    funext s
    simp only [rfold]
    cases f x y s el <;> rfl
  have hSN : S (els x y).length = some sN := by
    show rfold _ ((els x y).take (els x y).length) _ = _
    rw [List.take_length]; exact hfold
  have hSall : ∀ k, k ≤ (els x y).length → ∃ s, S k = some s := by
    intro k hk
    have e1 : els x y = (els x y).take k ++ (els x y).drop k := (List.take_append_drop k _).symm
    have h2 := hfold
    rw [e1, rfold_app] at h2
    obtain ⟨s, h3, _⟩ := bindS h2
    exact ⟨s, h3⟩
  let A0 : Nat → Act := fun k => putA ps.toList (u k).toList { tmps := a.tmps, defers := [] }
  have hA0 : ∀ k, ({ tmps := (ps.zip (u k)).foldl (fun t (p, v) => t.setIfInBounds p v) a.tmps, defers := [] } : Act) = A0 k := by
    intro k
    have h1 := putA_tmps ps.toList (u k).toList { tmps := a.tmps, defers := [] }
    have h2 := putA_defers ps.toList (u k).toList { tmps := a.tmps, defers := [] }
    show _ = putA ps.toList (u k).toList { tmps := a.tmps, defers := [] }
    generalize putA ps.toList (u k).toList { tmps := a.tmps, defers := [] } = B at h1 h2
    obtain ⟨bt, bd⟩ := B
    simp only at h1 h2
    subst h1 h2
    congr 1
    rw [← Array.foldl_toList, Array.toList_zip]
  refine rf_law (w := w) hev eg hiter (fun k hk => ?_) (Jk E O0 ρ0 w0 w.heap.size O1 ρ a s1 A1 T1 S) (fun k => (A0 k).put (some d) ((A0 k).eval (.tmp s_))) ?_ ?_ ?_ ?_ ?_ ?_ ?_
  · obtain ⟨cs, h1, h2⟩ := hu k _ (List.getElem?_eq_getElem hk)
    have hvl : ∀ {vs : List IV} {cs : List (List Value)}, RL O1 ρ vs cs → (vals vs cs).length = vs.length := by
      intro vs
      induction vs with
      | nil => intro cs h; simp [vals]
      | cons v vs ih => intro cs h; obtain ⟨c0, r, rfl, h1, h2⟩ := h; simp [vals, ih h2]
    rw [h2, List.size_toArray, hvl h1, encs_len, hps]
  · -- what the function reads
    rintro k W ⟨s, _, O2, ρ2, hle, _, _, _, _, hM2, _, _⟩ b all hb
    exact hM2.im b all (hle b all hb)
  · -- what is drawn
    rintro k W dr ⟨s, h1, O2, ρ2, hle, hn1, hn2, hsz, hF2, hM2, hG2, hS2⟩
    refine ⟨s, h1, O2, ρ2, hle, hn1, hn2, hsz, hF2, hM2.other (Nat.le_refl _) (fun _ _ _ => rfl), hG2, ?_⟩
    exact ⟨hS2.pre, hS2.im, hS2.no, hS2.own, ⟨hS2.kept.os, hS2.kept.tape, hS2.kept.output, hS2.kept.size, hS2.kept.block⟩⟩
  · -- at the start
    intro rc
    refine ⟨init x y, rfl, O1', ρ1', hle1, hGm1.lt _ (Nat.le_refl _), hGm1.lt _ (by omega), by simp, by rw [← hk1]; exact hFS1, ?_, hGO1, ?_⟩
    · rw [← hk1]
      refine hGm1.other (by simp; omega) (fun b hb _ => ?_)
      exact (Below.heap_alloc _ _ _ (by simp; omega)).trans (Below.heap_alloc _ _ _ hb)
    · have hk : Kept none1 w ((w.alloc (.deferred (some []))).alloc (.loop rc)) := ⟨rfl, rfl, rfl, by simp; omega, fun b hb _ => (Below.heap_alloc _ _ _ (by simp; omega)).trans (Below.heap_alloc _ _ _ hb)⟩
      exact hS1'.trans ⟨.refl _, .refl _, fun _ _ h => h, fun _ _ _ h _ => h, hk.wide (fun _ h => h.elim)⟩
  · -- the record changes
    rintro k W r r' ⟨s, h1, O2, ρ2, hle, hn1, hn2, hsz, hF2, hM2, hG2, hS2⟩ hrec
    refine ⟨s, h1, O2, ρ2, hle, hn1, hn2, by simpa using hsz, hF2, ?_, hG2, ?_⟩
    · refine hM2.other (by simp) (fun b hb hno => World.putObj_heap_other (fun e => ?_))
      rw [e] at hno; exact hno hn2
    · refine ⟨hS2.pre, hS2.im, hS2.no, hS2.own, ⟨hS2.kept.os, hS2.kept.tape, hS2.kept.output, by simpa using hS2.kept.size, fun b hb hne => ?_⟩⟩
      rw [World.putObj_heap_other (by omega)]
      exact hS2.kept.block b hb hne
  · -- the assignment
    intro ll k W K' hk hK'
    rw [hA0]
    have h1 : wpListIn (Fence.wide.inRound ll) 0 P #[oa] (Exit.then K' (fun _ _ _ => False)) [oa] (A0 k) W := by
      unfold wpListIn
      rw [if_pos (by simp [Region.wanted, hog])]
      refine ⟨fun _ _ => trivial, ?_⟩
      rw [Oper.semAt_eq _ _ _ (fun c e => by rw [hoa] at e; cases e)]
      simp only [execOp, hoa, Sem.run_pure, Sem.run_bind, Result.andThen_ok, Oper.uponIn, hod]
      exact hK'
    exact wpIn_region_lit (l := [oa]) h1
  · -- a round
    rintro ll k W r hk ⟨s, h1, O2, ρ2, hle, hn1, hn2, hsz, hF2, hM2, hG2, hS2⟩ hrec
    have hel : (els x y)[k]? = some (els x y)[k] := List.getElem?_eq_getElem hk
    obtain ⟨cs, hR, huk⟩ := hu k _ hel
    obtain ⟨sk, hsk⟩ := hSall (k + 1) (by omega)
    have hf : f x y s (els x y)[k] = some sk := by
      have := hSs k _ hel
      rw [h1, hsk] at this
      exact this.symm
    have hsev := heq x y s (els x y)[k]
    rw [hf] at hsev
    have hFI : FI E.n (A0 k) (putI ps.toList (encs Ae (els x y)[k]) (zipS s1 (encs A1 s.1))) O2 ρ2 := by
      have h0 : FI E.n { tmps := a.tmps, defers := [] } (zipS s1 (encs A1 s.1)) O2 ρ2 := hF2.1
      have h3 := putA_ok hlt (hnt _) (RL_fr (ρ' := ρ2) hle hfr hR) h0
      show FI E.n (putA ps.toList (u k).toList { tmps := a.tmps, defers := [] }) _ O2 ρ2
      rw [huk]
      exact h3
    have hFI2 : FI E.n ((A0 k).put (some d) ((A0 k).eval (.tmp s_))) ((d, ve (els x y)[k]) :: putI ps.toList (encs Ae (els x y)[k]) (zipS s1 (encs A1 s.1))) O2 ρ2 := by
      have hFI' := hFI
      obtain ⟨lx, hlx, hERx⟩ := hFI'
      obtain ⟨xv, hxv, hSR⟩ := hERx.get (hve (els x y)[k] (zipS s1 (encs A1 s.1)))
      have he : (A0 k).eval (.tmp s_) = xv.val := hlx.eval hxv
      rw [he]
      exact hFI.put hdlt hSR
    have hdf : ((A0 k).put (some d) ((A0 k).eval (.tmp s_))).defers = [] := by
      rw [put_defers]
      exact putA_defers _ _ _
    have hG' : G E O2 ρ2 W ⟨(d, ve (els x y)[k]) :: putI ps.toList (encs Ae (els x y)[k]) (zipS s1 (encs A1 s.1)), encTs T1 s.2, []⟩ ((A0 k).put (some d) ((A0 k).eval (.tmp s_))) W :=
      ⟨O2, ρ2, ⟨hFI2, hdf⟩, hM2, hG2, .refl _ _ _ _⟩
    refine sevR_ok (l := ll) (n := 0) (m := m) hc hct hmx body pb _ _ _ _ _ _ hord hnd hsev hG' (fun e st' a' W' h2 h3 => ?_)
    cases e with
    | normal =>
      obtain ⟨O3, ρ3, _, hM3, hG3, hS3⟩ := h3
      obtain ⟨x', y', O4, ρ4, hk4, hle4, hno4, hF4, hM4, hG4, hS4⟩ := uniS_ok2 (E := E) hm h2 (a := a) (O := O3) (ρ := ρ3) ⟨FI.mono hS3.im hS3.pre hF2.1, hD⟩ hM3 hG3 (hS2.trans hS3)
      have hk4 : (x', y') = sk := Option.some.inj hk4
      subst hk4
      have hsz' := hS3.kept.size
      have d1 := hS3.no w.heap.size (by omega) hn1
      have d2 := hS3.no (w.heap.size + 1) (by omega) hn2
      refine ⟨⟨(x', y'), hsk, O4, ρ4, hle.trans (hS3.im.trans hle4), hno4 _ (by omega) d1, hno4 _ (by omega) d2, by omega, hF4, hM4, hG4, hS4⟩, ?_, ?_⟩
      · rw [hS3.kept.block (w.heap.size + 1) (by omega) (fun ⟨id, _, e⟩ => by rw [hn2] at e; cases e)]; exact hrec.1
      · rw [hS3.kept.block w.heap.size (by omega) (fun ⟨id, _, e⟩ => by rw [hn1] at e; cases e)]; exact hrec.2
    | exit j => cases h2
    | ret => cases h2
    | goto j => cases h2
    | panic ch => cases h2
    | outgrown => cases h2
  · -- behind the loop
    rintro W ⟨s, h1, O2, ρ2, hle, hn1, hn2, hsz, hF2, hM2, hG2, hS2⟩ hdefb
    have hs : s = (p', q') := by
      have h1 : S (els x y).length = some s := h1
      rw [hSN] at h1
      rw [← Option.some.inj h1, ← hsN]
    subst hs
    obtain ⟨g1, g2⟩ := hM2.adoptM hn1 hdefb
    refine ⟨_, _, ⟨FI.mono g2 (.app _ _) hF2.1, ?_⟩, g1, hG2.mono g2, ?_⟩
    · have hlen : (encTs T1 q').length = ρ2.length := hM2.len.symm
      refine .inr ⟨(encTs T1 q').length, ⟨w.heap.size, .nil, .bool false⟩, [], rfl, ?_, ?_, rfl⟩
      · rw [hlen]; simp
      · show _ :: a.defers = _
        rw [hdef]
    · refine ⟨hS2.pre.trans (.app _ _), hS2.im.trans g2, fun b hb h => ?_, fun b id hb h hn => absurd trivial hn, hS2.kept⟩
      have hne : Nat.beq w.heap.size b = false := by
        cases e' : Nat.beq w.heap.size b with
        | true => have := Nat.eq_of_beq_eq_true e'; omega
        | false => rfl
      simp only [hne, cond_false]
      exact hS2.no b hb h

/- ## as it is printed -/
def rfBody : Code → Code
  | .rangeFunc _ _ _ b => b
  | c => c
def rfParts : Code → Option (Nat × List Nat × Nat × Nat × Nat)
  | .rangeFunc g ps as _ => match g, as with
    | .tmp gt, .region ida ops draw => match draw, ops.toList with
      | false, [oa] => match oa.op, oa.dst, oa.guard with
        | .assign (.tmp s), some d, none => some (gt, ps.toList, ida, d, s)
        | _, _, _ => none
      | _, _ => none
    | _, _ => none
  | _ => none
theorem rfParts_ok {c : Code} {gt ida d s : Nat} {ps : List Nat} (h : rfParts c = some (gt, ps, ida, d, s)) :
    ∃ oa, c = .rangeFunc (.tmp gt) ps.toArray (.region ida #[oa] false) (rfBody c) ∧ oa.op = .assign (.tmp s) ∧ oa.dst = some d ∧ oa.guard = none := by
  unfold rfParts at h
  split at h <;> first | (cases h; done) | skip
  rename_i g ps' as b
  split at h <;> first | (cases h; done) | skip
  rename_i gt' ida' ops draw
  split at h <;> first | (cases h; done) | skip
  rename_i oa hops
  split at h <;> first | (cases h; done) | skip
  rename_i s' d' h1 h2 h3
  cases h
  refine ⟨oa, ?_, h1, h2, h3⟩
  have : ops = #[oa] := by
    apply Array.ext'
    simpa using hops
  subst this
  simp [rfBody]
theorem rf_okP {m : Nat} {root : Code} {p : List Nat} {gt gf ida d s_ : Nat} {cap : Sh} {ps : List Nat} {s1 : List Nat} {A0 A1 Ae : List Sh} {T T1 : List TSh} {bx : List Nat}
    {els : dens (.fn gf .un cap :: A0) → tdens T → List (dens Ae)} {init : dens (.fn gf .un cap :: A0) → tdens T → dens A1 × tdens T1} {ok : dens (.fn gf .un cap :: A0) → tdens T → Bool} {f : dens (.fn gf .un cap :: A0) → tdens T → dens A1 × tdens T1 → dens Ae → Option (dens A1 × tdens T1)} {ve : dens Ae → IV}
    (hc : COk P E.c) (hct : CtsOk P E) (hmx : P.follows .mixedOrders = true) (hparts : rfParts (cAt root p) = some (gt, ps, ida, d, s_))
    (hord : ordAll E (rfBody (cAt root p)) = true) (hnd : noDefC (rfBody (cAt root p)) = true) (hbx : ∀ y, allBlk (encTs T y) bx = true) (hini : ∀ x y, uniS m s1 A1 T1 ⟨zipS s1 (encs A0 x.2), dropB bx (encTs T y), []⟩ (fun p q => some (p, q)) = some (init x y)) (hgt : idx s1 gt = none) (hps : ps.length = Ae.length) (hfr : allFr Ae = true)
    (hlt : allLt E.n ps = true) (hdlt : Nat.blt d E.n = true) (hnt : ∀ el, noTu (encs Ae el) = true) (hve : ∀ el il, geti (putI ps (encs Ae el) il) s_ = some (ve el))
    (eg : ∀ args w, (callFunc gf args).run P w = .ok (.enter gf args) w)
    (hit : ∀ x y O ρ lb, ok x y = true → R O ρ true (enc cap x.1.2) lb → BxOk O ρ (encTs T y) bx → ∃ u : Nat → Array Value, (∀ k el, (els x y)[k]? = some el → ∃ cs, RL O ρ (encs Ae el) cs ∧ u k = (vals (encs Ae el) cs).toArray) ∧
      Iter P gf lb.toArray (els x y).length u (fun W => ∀ b all, O b = .im all → ∃ ty fz, W.heap[b]? = some (.cells all.toArray ty fz)))
    (heq : ∀ x y st el, sev E m [] (rfBody (cAt root p)) [] ⟨(d, ve el) :: putI ps (encs Ae el) (zipS s1 (encs A1 st.1)), encTs T1 st.2, []⟩ (kRd m s1 A1 T1 (encs A1 st.1)) = f x y st el) :
    LcOkM P E m (mkF gt gf cap s1 A0 A1 T T1 els init ok f) (cAt root p) := by
  obtain ⟨oa, h1, h2, h3, h4⟩ := rfParts_ok hparts
  exact rf_ok (ps := ps.toArray) (ve := ve) (bx := bx) hc hct hmx h1 h2 h3 h4 hord hnd hbx hini hgt (by simpa using hps) hfr (by simpa using hlt) hdlt hnt (by simpa using hve) eg hit (by simpa using heq)
end
end Go.Tw
/- slices.Backward's closure: its rounds. -/
namespace Go.Proofs.YthikoaamigiceaaDoor
open Go.RowKit Go.Shelf Go.Tw
attribute [local go_sem] Oper.semAt_some
set_option linter.unusedSimpArgs false
set_option linter.unusedVariables false

set_option maxRecDepth 100000 in
set_option maxHeartbeats 4000000 in
theorem back1_in (l bs b off len cap : Nat) (es : Nat → Value) (hreach : len ≤ 1099511627776) (Jr : Nat → World → Prop)
    (hrd : ∀ k W, Jr k W → W.cell? ⟨bs, 0, none⟩ = some (.slice (some ⟨b, off, none⟩) len cap) ∧ ∀ j, j < len → W.cell? ⟨b, off + j, none⟩ = some (es j))
    (hY : ∀ k W, k < len → Jr k W → YieldAt Fence.wide 0 Tryd.prog l #[.int .i64 ((len : Int) - 1 - k), es (len - 1 - k)] W (fun e W' => e = .returned (.bool true) ∧ Jr (k + 1) W'))
    (W : World) (h0 : Jr 0 W) :
    CallsIn Fence.wide 1 Tryd.prog 94 #[.func (.yield l) #[] #[], .pointer (some ⟨bs, 0, none⟩)] W (fun e W' => (∃ v, e = .returned v) ∧ Jr len W') := by
  refine callsIn_of_wp Tryd.func94 rfl trivial ?_ rfl
  simp only [Tryd.ntmps94, List.size_toArray, List.length_cons, List.length_nil, Nat.reduceAdd, Nat.reduceSub, Array.replicate_succ, Array.replicate_zero, List.push_toArray, List.append_toArray, List.nil_append, List.cons_append]
  have hbs := (hrd 0 W h0).1
  gi_wp2
  gi_loopw [3] (fun i wr => ∃ k : Nat, k ≤ len ∧ i = .int .i64 ((len : Int) - 1 - k) ∧ Jr k wr)
    (fun i _ => (intOf i + 1).toNat)
  case atStart => exact ⟨0, Nat.zero_le _, by simp, h0⟩
  case round =>
    obtain ⟨k, hk, rfl, hJs⟩ := hrel
    obtain ⟨hbs2, hcx⟩ := hrd k wr hJs
    by_cases hlt : k < len
    · obtain ⟨fn, tmps, assign, body, hy, hR⟩ := hY k wr hlt hJs
      have hge : (0 : Int) ≤ (len : Int) - 1 - k := by omega
      have hlt2 : (len : Int) - 1 - k < len := by omega
      have htn : ((len : Int) - 1 - k).toNat = len - 1 - k := by omega
      have hcx' := hcx (len - 1 - k) (by omega)
      gi_wp2
      refine hR.mono ?_
      rintro e W3 ⟨rfl, hJ3⟩
      gi_wp2
      go_roundw
      case rel => exact ⟨k + 1, by omega, by congr 1; omega, hJ3⟩
      case measure => simp [intOf]; omega
    · obtain rfl : k = len := by omega
      have hneg : ¬ ((k : Int) - 1 - k ≥ 0) := by omega
      gi_wp2
      go_end0
      exact ⟨⟨_, rfl⟩, hJs⟩

set_option maxRecDepth 100000 in
set_option maxHeartbeats 4000000 in
theorem back1_nil (l bs cap : Nat) (bo : Option Addr) (Jr : Nat → World → Prop) (hrd : ∀ k W, Jr k W → W.cell? ⟨bs, 0, none⟩ = some (.slice bo 0 cap)) (W : World) (h0 : Jr 0 W) :
    CallsIn Fence.wide 1 Tryd.prog 94 #[.func (.yield l) #[] #[], .pointer (some ⟨bs, 0, none⟩)] W (fun e W' => (∃ v, e = .returned v) ∧ Jr 0 W') := by
  refine callsIn_of_wp Tryd.func94 rfl trivial ?_ rfl
  simp only [Tryd.ntmps94, List.size_toArray, List.length_cons, List.length_nil, Nat.reduceAdd, Nat.reduceSub, Array.replicate_succ, Array.replicate_zero, List.push_toArray, List.append_toArray, List.nil_append, List.cons_append]
  have hbs := hrd 0 W h0
  gi_wp2
  gi_loopw [3] (fun i wr => i = .int .i64 (-1) ∧ Jr 0 wr) (fun i _ => 1)
  case atStart => exact ⟨rfl, h0⟩
  case round =>
    obtain ⟨rfl, hJs⟩ := hrel
    gi_wp2
    go_end0
    exact ⟨⟨_, rfl⟩, hJs⟩

/-- A list from its end, with the places. -/
def backE (xs : List (List UInt8)) : List (Int × List UInt8 × Unit) := (List.range xs.length).map fun (k : Nat) => ((xs.length : Int) - 1 - (k : Int), xs.getD (xs.length - 1 - k) [], ())

theorem it_back {O : Go.Tw.Own} {ρ : List Hd} {bs : Nat} {xs : List (List UInt8)} {sv : Value} (hO : O bs = .im [sv]) (hT : TR O (.sl (.sl .u8)) xs [sv]) (hlen : xs.length ≤ 1099511627776) :
    ∃ u : Nat → Array Value, (∀ k el, (backE xs)[k]? = some el → ∃ cs, RL O ρ (encs [.i, .ro .u8] el) cs ∧ u k = (vals (encs [.i, .ro .u8] el) cs).toArray) ∧
      Iter Tryd.prog 94 #[vP bs 0] (backE xs).length u (fun W => ∀ b all, O b = .im all → ∃ ty fz, W.heap[b]? = some (.cells all.toArray ty fz)) := by
  have hcl : (backE xs).length = xs.length := by simp [backE]
  have hcell : ∀ {b : Nat} {v : Value}, O b = .im [v] → ∀ W : World, (∀ b all, O b = .im all → ∃ ty fz, W.heap[b]? = some (.cells all.toArray ty fz)) → W.cell? ⟨b, 0, none⟩ = some v := by
    intro b v hb W hW
    obtain ⟨ty, fz, h⟩ := hW b _ hb
    simp [World.cell?, h]
  obtain ⟨v', es, hv, hL, hS⟩ := hT
  cases hv
  have hel := LR.length (fun _ _ => TR.length (t := .sl .u8)) hL
  have hel : es.length = xs.length := by simpa [Ty.size] using hel
  rcases hS with ⟨h0, bo, c, rfl⟩ | ⟨b, off, cap, rfl, hcap, hI⟩
  · refine ⟨fun _ => #[], fun k el hk => ?_, ?_⟩
    · have := (List.getElem?_eq_some_iff.1 hk).1; omega
    · intro l Jr hrd hdr hY W hj
      rw [hcl, h0]
      exact back1_nil l bs c bo Jr (fun k W h => hcell hO W (hrd k W h)) W hj
  · have hget : ∀ j, j < xs.length → es[j]? = some (es.getD j (.bool false)) := fun j hj => by
      have : j < es.length := by omega
      simp [this]
    refine ⟨fun k => #[.int .i64 ((xs.length : Int) - 1 - k), es.getD (xs.length - 1 - k) (.bool false)], fun k el hk => ?_, ?_⟩
    · have hkl := (List.getElem?_eq_some_iff.1 hk).1
      rw [hcl] at hkl
      have hk' := hk
      simp only [backE, List.getElem?_map, Option.map_eq_some_iff] at hk'
      obtain ⟨k', h1, rfl⟩ := hk'
      have hkk : k' = k := by
        obtain ⟨h2, h3⟩ := List.getElem?_eq_some_iff.1 h1
        rw [List.getElem_range] at h3
        exact h3.symm
      subst hkk
      have hj : xs.length - 1 - k' < xs.length := by omega
      have hx : xs[xs.length - 1 - k']? = some (xs.getD (xs.length - 1 - k') []) := by simp [hj]
      have h2 := LR.get (k := 1) (fun _ _ => TR.length (t := .sl .u8)) hL hx
      rw [Nat.mul_one] at h2
      have h3 : (es.drop (xs.length - 1 - k')).take 1 = [es.getD (xs.length - 1 - k') (.bool false)] := by
        have hj2 : xs.length - 1 - k' < es.length := by omega
        generalize xs.length - 1 - k' = i at hj2
        rw [List.drop_eq_getElem_cons hj2, List.take_succ_cons, List.take_zero, List.getD_eq_getElem?_getD, List.getElem?_eq_getElem hj2]
        rfl
      rw [h3] at h2
      exact ⟨[[vI ((xs.length : Int) - 1 - k')], [es.getD (xs.length - 1 - k') (.bool false)]], ⟨_, _, rfl, ⟨rfl, rfl⟩, _, _, rfl, h2, rfl⟩, rfl⟩
    · intro l Jr hrd hdr hY W hj
      rw [hcl] at hY ⊢
      refine back1_in l bs b off xs.length cap (fun j => es.getD j (.bool false)) hlen Jr (fun k W h => ⟨hcell hO W (hrd k W h), fun j hjl => ?_⟩) hY W hj
      obtain ⟨all, g1, g2⟩ := hI
      obtain ⟨ty, fz, g3⟩ := hrd k W h b all g1
      have g4 := g2 j _ (hget j hjl)
      simp [World.cell?, g3, g4]

def okBack (xs : List (List UInt8)) : Bool := decide (xs.length ≤ 1099511627776)
theorem hit_back {O : Go.Tw.Own} {ρ : List Hd} {lb : List Value} {tb : Tbl} {j1 t1 : Nat} {xs : List (List UInt8)} (h : R O ρ true (.pr (.pt j1 []) .un) lb) (hb : BxOk O ρ tb [j1]) (h1 : tb[j1]? = some (.blk t1 (.ro (.sl .u8) xs))) (hok : okBack xs = true) :
    ∃ u : Nat → Array Value, (∀ k el, (backE xs)[k]? = some el → ∃ cs, RL O ρ (encs [.i, .ro .u8] el) cs ∧ u k = (vals (encs [.i, .ro .u8] el) cs).toArray) ∧
      Iter Tryd.prog 94 lb.toArray (backE xs).length u (fun W => ∀ b all, O b = .im all → ∃ ty fz, W.heap[b]? = some (.cells all.toArray ty fz)) := by
  have n3 : xs.length ≤ 1099511627776 := by simpa [okBack] using hok
  obtain ⟨x1, r1, rfl, g1, g3⟩ := h
  simp only [R] at g3
  subst g3
  obtain ⟨hd1, off1, e1, e2, e3⟩ := g1
  simp only [List.cons.injEq, and_true] at e3
  subst e3
  have z1 : off1 = 0 := by cases hd1.z <;> simp [Sz.off] at e2 <;> exact e2.symm
  subst z1
  obtain ⟨k1, c1, q1, q2, q3⟩ := hb j1 (by simp) _ _ h1
  rw [e1] at q1; cases q1
  have q3 : TR O (.sl (.sl .u8)) xs c1 := q3
  obtain ⟨sv, es, rfl, q7⟩ := q3
  exact it_back q2 ⟨sv, es, rfl, q7⟩ n3
end Go.Proofs.YthikoaamigiceaaDoor
/- kinkeep/shamir.evaluator$1: its twin, and that the call does what the twin says. Printed by a program. -/
namespace Go.Proofs.YthikoaamigiceaaDoor
open Go.Tw
set_option linter.unusedSimpArgs false
set_option linter.unusedVariables false
def ord77 : Nat → List (Tag × Nat)
  | _ => []
def al77 : Nat → Option Nat
  | _ => none
def ms77 : Nat → Option (List (Option Tag × Nat × List Nat))
  | _ => none
def E77 (F : Nat) : Ev := ⟨cfg, 25, ctOf [(78, ct78 F), (79, ct79 F)], ord77, ctOf [], al77, ms77⟩
theorem cts77 (F : Nat) : CtsOk Tryd.prog (E77 F) := cts_of (l := [(78, ct78 F), (79, ct79 F)]) (l' := []) rfl rfl ⟨⟨ok78 F, _, Tryd.func78, rfl, rfl⟩, ⟨⟨ok79 F, _, Tryd.func79, rfl, rfl⟩, trivial⟩⟩ trivial
@[reducible] def rA77_2 : List Sh := [(.pt 1 []), (.pt 2 [])]
@[reducible] def rB77_2 : List Sh := [(.pt 0 []), (.pt 1 [])]
@[reducible] def rZ77_2 : List Sh := [.i, (.ro .u8)]
@[reducible] def rT77_2 : List TSh := [.blk 57 (.ro (.sl .u8)), .blk 3 .i, .blk 23 (.rw 3), .row 5 .u8]
@[reducible] def rU77_2 : List TSh := [.blk 3 .i, .blk 23 (.rw 2), .row 5 .u8]
def L77_2 (F : Nat) (y14 : Int) (y15 : List UInt8) (e17 : List UInt8) : Option (dens rB77_2 × tdens rU77_2) :=
  (Option.bind (T79 F e17 y15 (UInt8.ofInt y14)) fun z19 => some (((), (), ()), (y14, (), z19.2, ())))
def R77_2 (F : Nat) (x : dens (.fn 94 .un (.pr (.pt 0 []) .un) :: rA77_2)) (y : tdens rT77_2) : Option (dens rB77_2 × tdens rU77_2) := bif okBack y.1 then rfold ((fun (x : dens (.fn 94 .un (.pr (.pt 0 []) .un) :: rA77_2)) (y : tdens rT77_2) (s : dens rB77_2 × tdens rU77_2) (e : dens rZ77_2) => L77_2 F s.2.1 s.2.2.2.1 e.2.1) x y) (backE y.1) ((((), (), ()), (y.2.1, (), y.2.2.2.1, ())) : dens rB77_2 × tdens rU77_2) else none
def lc77_2 (F : Nat) : Lc := mkF 13 94 (.pr (.pt 0 []) .un) [2, 4] rA77_2 rB77_2 rT77_2 rU77_2 (ε := dens rZ77_2) (fun x y => backE y.1) (fun x y => (((), (), ()), (y.2.1, (), y.2.2.2.1, ()))) (fun x y => okBack y.1) (fun x y s e => L77_2 F s.2.1 s.2.2.2.1 e.2.1)
theorem le77_2 (F : Nat) (x : dens (.fn 94 .un (.pr (.pt 0 []) .un) :: rA77_2)) (y : tdens rT77_2) (s : dens rB77_2 × tdens rU77_2) (e : dens rZ77_2) : sev (E77 F) 0 [] (rfBody (cAt (bodyOf Tryd.f77) [0, 1, 0, 1, 1])) [] ⟨(6, .ro .u8 e.2.1) :: putI [14, 15] (encs rZ77_2 e) (zipS [2, 4] (encs rB77_2 s.1)), encTs rU77_2 s.2, []⟩ (kRd 0 [2, 4] rB77_2 rU77_2 (encs rB77_2 s.1)) = (fun x y s e => L77_2 F s.2.1 s.2.2.2.1 e.2.1) x y s e := by kernel_rfl
theorem li77_2 (x : dens (.fn 94 .un (.pr (.pt 0 []) .un) :: rA77_2)) (y : tdens rT77_2) : uniS 0 [2, 4] rB77_2 rU77_2 ⟨zipS [2, 4] (encs rA77_2 x.2), dropB [0] (encTs rT77_2 y), []⟩ (fun p q => some (p, q)) = some (((), (), ()), (y.2.1, (), y.2.2.2.1, ())) := by kernel_rfl
theorem lo77_2 (F : Nat) : LcOkM Tryd.prog (E77 F) 0 (lc77_2 F) (cAt (bodyOf Tryd.f77) [0, 1, 0, 1, 1]) :=
  rf_okP (ida := 3) (d := 6) (s_ := 15) (ps := [14, 15]) (Ae := rZ77_2) (bx := [0]) (ve := fun e => .ro .u8 e.2.1) cok (cts77 F) mixed (by kernel_rfl) (by kernel_rfl) (by kernel_rfl) (fun y => rfl) (li77_2) rfl rfl rfl rfl rfl (fun e => rfl) (fun e il => rfl) (fun args w => by kernel_rfl)
    (fun x y O ρ lb hok h hb => hit_back h hb rfl hok) (le77_2 F)
def T77c (F : Nat) (p0 : Int) (p1 : List (List UInt8)) {β : Type} (k : ((List UInt8)) → Option β) : Option β :=
  (Option.bind (ix p1 (0 : Int)) fun x11 => (Option.bind (gmake (0 : UInt8) (x11.length : Int) (x11.length : Int)) fun x12 => (Option.bind (T78 F) fun z13 => (Option.bind (R77_2 F (((), ((), ())), (), (), ()) (p1, p0, (), x12, ())) fun z20 => (k z20.2.2.2.1)))))
def T77 (F : Nat) (p0 : Int) (p1 : List (List UInt8)) : Option ((List UInt8)) := T77c F p0 p1 some
theorem T77n (F : Nat) (p0 : Int) (p1 : List (List UInt8)) {β : Type} (k : ((List UInt8)) → Option β) : T77c F p0 p1 k = (T77 F p0 p1).bind k := by
  simp only [T77, T77c, Option.bind_assoc, cond_bind, Option.bind_some, Option.bind_none, elimS_bind]
@[reducible] def cA77 : List Sh := [.i, (.re (.sl (.sl .u8)))]
@[reducible] def cB77 : List Sh := [(.rw 0)]
@[reducible] def cT77 : List TSh := []
@[reducible] def cU77 : List TSh := [.row 5 .u8]
def ct77 (F : Nat) : Ct := mkC 0 cA77 cT77 cB77 cU77 (fun x y => T77 F x.1 x.2.1) (fun x y (z : (List UInt8)) => (((), ()), (z, ())))
theorem eq77 (F : Nat) (x : dens cA77) (y : tdens cT77) : sev (E77 F) 0 [([0, 1, 0, 1, 1], lc77_2 F)] (bodyOf Tryd.f77) [] (mkSt (rng 2) cA77 cT77 x y) (kFnM (E77 F) 0 Tryd.f77.results.toList cB77 cU77 fun p q => some (p, q)) =
    T77c F x.1 x.2.1 (fun z => some (((), ()), (z, ()))) := by kernel_rfl
theorem ok77 (F : Nat) : Sound Tryd.prog cfg 77 (ct77 F) :=
  mkC_okM (E := E77 F) (lp := [([0, 1, 0, 1, 1], lc77_2 F)]) (code := bodyOf Tryd.f77) Tryd.func77 rfl Tryd.ntmps77 rfl rfl cok (cts77 F) mixed ⟨lo77_2 F, trivial⟩ (by kernel_rfl) (fun x y k => T77c F x.1 x.2.1 k) (fun x y k => T77n F x.1 x.2.1 k) (eq77 F)
end Go.Proofs.YthikoaamigiceaaDoor
/- kinkeep/shamir.Split: its twin, and that the call does what the twin says. Printed by a program. -/
namespace Go.Proofs.YthikoaamigiceaaDoor
open Go.Tw
set_option linter.unusedSimpArgs false
set_option linter.unusedVariables false
def ord28 : Nat → List (Tag × Nat)
  | _ => []
def al28 : Nat → Option Nat
  | _ => none
def ms28 : Nat → Option (List (Option Tag × Nat × List Nat))
  | _ => none
def E28 (F : Nat) : Ev := ⟨cfg, 50, ctOf [(58, ct58 F), (59, ct59 F), (61, ct61 F), (60, ct60 F), (77, ct77 F)], ord28, ctOf [], al28, ms28⟩
theorem cts28 (F : Nat) : CtsOk Tryd.prog (E28 F) := cts_of (l := [(58, ct58 F), (59, ct59 F), (61, ct61 F), (60, ct60 F), (77, ct77 F)]) (l' := []) rfl rfl ⟨⟨ok58 F, _, Tryd.func58, rfl, rfl⟩, ⟨⟨ok59 F, _, Tryd.func59, rfl, rfl⟩, ⟨⟨ok61 F, _, Tryd.func61, rfl, rfl⟩, ⟨⟨ok60 F, _, Tryd.func60, rfl, rfl⟩, ⟨⟨ok77 F, _, Tryd.func77, rfl, rfl⟩, trivial⟩⟩⟩⟩⟩ trivial
def L28_2c (F : Nat) (y23 : List Int) (y24 : Int) (y26 : List (List UInt8)) (y25 : Int) (y27 : List (Int × (List UInt8) × Unit)) {β : Type} (kA : (Int × (List (Int × (List UInt8) × Unit))) → Option β) (kO : ((List (Int × (List UInt8) × Unit))) → Option β) : Option β :=
  (bif (decide (y25 < y24)) then (Option.bind (ix y23 y25) fun x31 => (Option.bind (T77 F x31 y26) fun z32 => (Option.bind (gapp y27 ([(x31, z32, ())] : List (Int × (List UInt8) × Unit))) fun x33 => (kA ((w64 (y25 + (1 : Int))), x33))))) else (kO y27))
def L28_2 (F : Nat) (y23 : List Int) (y24 : Int) (y26 : List (List UInt8)) (y25 : Int) (y27 : List (Int × (List UInt8) × Unit)) : Option ((Int × (List (Int × (List UInt8) × Unit))) ⊕ ((List (Int × (List UInt8) × Unit)))) := L28_2c F y23 y24 y26 y25 y27 (fun s => some (.inl s)) (fun z => some (.inr z))
theorem L28_2n (F : Nat) (y23 : List Int) (y24 : Int) (y26 : List (List UInt8)) (y25 : Int) (y27 : List (Int × (List UInt8) × Unit)) {β : Type} (kA : (Int × (List (Int × (List UInt8) × Unit))) → Option β) (kO : ((List (Int × (List UInt8) × Unit))) → Option β) : L28_2c F y23 y24 y26 y25 y27 kA kO = (L28_2 F y23 y24 y26 y25 y27).bind (elimS kA kO) := by
  simp only [L28_2, L28_2c, Option.bind_assoc, cond_bind, Option.bind_some, Option.bind_none, elimS_l, elimS_r, elimS_bind]
@[reducible] def sA28_2 : List Sh := [(.fn 77 .un (.pr (.pt 0 []) .un)), (.rw 1), (.ro .i), .i, .i]
@[reducible] def sAp128_2 : List Sh := [(.rw 0)]
@[reducible] def sT28_2 : List TSh := [.blk 57 (.ro (.sl .u8)), .row 30 (.pr .i (.pr (.sl .u8) .un))]
@[reducible] def sTp128_2 : List TSh := [.row 30 (.pr .i (.pr (.sl .u8) .un))]
def lc28_2 (F : Nat) : Lc := mkL [8, 9, 34, 35, 36] sA28_2 sT28_2 [9] sAp128_2 sTp128_2 F (fun x y (s : Int × (List (Int × (List UInt8) × Unit))) => L28_2 F x.2.2.1 x.2.2.2.1 y.1 s.1 s.2) (fun x y => (x.2.2.2.2.1, y.2.1)) (fun x y (z : (List (Int × (List UInt8) × Unit))) => (((), ()), (z, ())))
theorem le28_2 (F : Nat) (x : dens sA28_2) (y : tdens sT28_2) (s : Int × (List (Int × (List UInt8) × Unit))) : sev (E28 F) 0 [] (cAt (bodyOf Tryd.f28) (0 :: 0 :: [1, 0, 1, 1, 1, 1, 1])) (0 :: 0 :: [1, 0, 1, 1, 1, 1, 1]) (mkSt [8, 9, 34, 35, 36] sA28_2 sT28_2 (((), ((), ())), (), x.2.2.1, x.2.2.2.1, s.1, ()) (y.1, s.2, ())) (kLoop 0 [8, 9, 34, 35, 36] sA28_2 sT28_2 [9] sAp128_2 sTp128_2 [] [] [] 0 (fun x y => some (.inl (x, y))) (fun x y => some (.inr (.inl (x, y)))) (fun x y => some (.inr (.inr (x, y))))) =
    L28_2c (β := Full sA28_2 sT28_2 sAp128_2 sTp128_2 [] []) F x.2.2.1 x.2.2.2.1 y.1 s.1 s.2 (fun s => some (.inl ((((), ((), ())), (), x.2.2.1, x.2.2.2.1, s.1, ()), (y.1, s.2, ())))) (fun z => some (.inr (.inl (((), ()), (z, ()))))) := by kernel_rfl
theorem lo28_2 (F : Nat) : LcOk Tryd.prog (E28 F) 0 (lc28_2 F) (cAt (bodyOf Tryd.f28) [1, 0, 1, 1, 1, 1, 1]) :=
  mkL_ok (lp := []) (id := 0) (b := cAt (bodyOf Tryd.f28) (0 :: 0 :: [1, 0, 1, 1, 1, 1, 1])) cok (cts28 F) mixed trivial (by kernel_rfl) (by kernel_rfl) (fun x y s => (((), ((), ())), (), x.2.2.1, x.2.2.2.1, s.1, ())) (fun x y s => (y.1, s.2, ())) (fun x y => rfl) (fun x y => rfl) (fun x y s kA kO => L28_2c F x.2.2.1 x.2.2.2.1 y.1 s.1 s.2 kA kO) (fun x y s kA kO => L28_2n F x.2.2.1 x.2.2.2.1 y.1 s.1 s.2 kA kO) (le28_2 F)
def T28c (F : Nat) (p0 : List UInt8) (p1 : List (List UInt8)) (p2 : List Int) {β : Type} (k : (Int × (List (Int × (List UInt8) × Unit))) → Option β) : Option β :=
  (Option.bind (T58 F p1 (p0.length : Int)) fun z18 => (bif (!z18) then (k ((1 : Int), ([] : List (Int × (List UInt8) × Unit)))) else (Option.bind (T59 F p2) fun z19 => (bif (!z19) then (k ((1 : Int), ([] : List (Int × (List UInt8) × Unit)))) else (bif (decide ((1024 : Int) < (p0.length : Int))) then (k ((2 : Int), ([] : List (Int × (List UInt8) × Unit)))) else (Option.bind (T61 F ([([p0] : List (List UInt8)), p1] : List (List (List UInt8)))) fun z20 => (Option.bind (T60 F) fun z21 => (Option.bind (gmake ((0 : Int), ([] : List UInt8), ()) (0 : Int) (p2.length : Int)) fun x22 => (Option.bind (iter (fun s => L28_2 F p2 (p2.length : Int) z20 s.1 s.2) F ((0 : Int), x22)) fun z34 => (k ((0 : Int), z34)))))))))))
def T28 (F : Nat) (p0 : List UInt8) (p1 : List (List UInt8)) (p2 : List Int) : Option (Int × (List (Int × (List UInt8) × Unit))) := T28c F p0 p1 p2 some
theorem T28n (F : Nat) (p0 : List UInt8) (p1 : List (List UInt8)) (p2 : List Int) {β : Type} (k : (Int × (List (Int × (List UInt8) × Unit))) → Option β) : T28c F p0 p1 p2 k = (T28 F p0 p1 p2).bind k := by
  simp only [T28, T28c, Option.bind_assoc, cond_bind, Option.bind_some, Option.bind_none, elimS_bind]
@[reducible] def cA28 : List Sh := [(.ro .u8), (.ro (.sl .u8)), (.ro .i)]
@[reducible] def cB28 : List Sh := [(.rw 0), .i]
@[reducible] def cT28 : List TSh := []
@[reducible] def cU28 : List TSh := [.row 30 (.pr .i (.pr (.sl .u8) .un))]
def ct28 (F : Nat) : Ct := mkC 0 cA28 cT28 cB28 cU28 (fun x y => T28 F x.1 x.2.1 x.2.2.1) (fun x y (z : Int × (List (Int × (List UInt8) × Unit))) => (((), z.1, ()), (z.2, ())))
theorem eq28 (F : Nat) (x : dens cA28) (y : tdens cT28) : sev (E28 F) 0 [([1, 0, 1, 1, 1, 1, 1], lc28_2 F)] (bodyOf Tryd.f28) [] (mkSt (rng 3) cA28 cT28 x y) (kFn (E28 F) 0 Tryd.f28.results.toList cB28 cU28 fun p q => some (p, q)) =
    T28c F x.1 x.2.1 x.2.2.1 (fun z => some (((), z.1, ()), (z.2, ()))) := by kernel_rfl
theorem ok28 (F : Nat) : Sound Tryd.prog cfg 28 (ct28 F) :=
  mkC_ok (E := E28 F) (lp := [([1, 0, 1, 1, 1, 1, 1], lc28_2 F)]) (code := bodyOf Tryd.f28) Tryd.func28 rfl Tryd.ntmps28 rfl rfl cok (cts28 F) mixed ⟨lo28_2 F, trivial⟩ (by kernel_rfl) (fun x y k => T28c F x.1 x.2.1 x.2.2.1 k) (fun x y k => T28n F x.1 x.2.1 x.2.2.1 k) (eq28 F)
end Go.Proofs.YthikoaamigiceaaDoor
/- slices.Chunk's closure: its rounds. -/
namespace Go.Proofs.YthikoaamigiceaaDoor
open Go.RowKit Go.Shelf Go.Tw
attribute [local go_sem] Oper.semAt_some
set_option linter.unusedSimpArgs false
set_option linter.unusedVariables false

set_option maxRecDepth 100000 in
set_option maxHeartbeats 4000000 in
theorem chunk1_in (l bs bn b off len cap n : Nat) (hn : 1 ≤ n) (hn2 : n ≤ 1000000) (hcap : len ≤ cap) (hreach : len ≤ 1099511627776) (Jr : Nat → World → Prop)
    (hdr : ∀ k W d, Jr k W → Jr k { W with drawn := d }) (hrd : ∀ k W, Jr k W → W.cell? ⟨bs, 0, none⟩ = some (.slice (some ⟨b, off, none⟩) len cap) ∧ W.cell? ⟨bn, 0, none⟩ = some (.int .i64 n))
    (hY : ∀ k W, k * n < len → Jr k W → YieldAt Fence.wide 0 Tryd.prog l #[.slice (some ⟨b, off + k * n, none⟩) (min n (len - k * n)) (min n (len - k * n))] W (fun e W' => e = .returned (.bool true) ∧ Jr (k + 1) W'))
    (W : World) (h0 : Jr 0 W) :
    CallsIn Fence.wide 1 Tryd.prog 57 #[.func (.yield l) #[] #[], .pointer (some ⟨bs, 0, none⟩), .pointer (some ⟨bn, 0, none⟩)] W (fun e W' => (∃ v, e = .returned v) ∧ ∃ k, len ≤ k * n ∧ k * n < len + n ∧ Jr k W') := by
  refine callsIn_of_wp Tryd.func57 rfl trivial ?_ rfl
  simp only [Tryd.ntmps57, List.size_toArray, List.length_cons, List.length_nil, Nat.reduceAdd, Nat.reduceSub, Array.replicate_succ, Array.replicate_zero, List.push_toArray, List.append_toArray, List.nil_append, List.cons_append]
  gi_wp2
  gi_loopw [4] (fun i wr => ∃ k : Nat, k * n < len + n ∧ i = .int .i64 ((k * n : Nat) : Int) ∧ Jr k wr)
    (fun i _ => (len + n - (intOf i).toNat))
  case atStart => exact ⟨0, by omega, by simp, h0⟩
  case round =>
    obtain ⟨k, hk, rfl, hJs⟩ := hrel
    obtain ⟨hbs2, hbn2⟩ := hrd k wr hJs
    have hnext : (k + 1) * n = k * n + n := by rw [Nat.add_mul]; omega
    have hYk := fun W => hY k W
    generalize hq : k * n = q at *
    by_cases hlt : q < len
    · have hJd : Jr k wr.drew := hdr k wr (wr.drawn + 1) hJs
      obtain ⟨hbs3, hbn3⟩ := hrd k wr.drew hJd
      obtain ⟨fn, tmps, assign, body, hy, hR⟩ := hYk wr.drew hlt hJd
      have hlt' : (q : Int) < (len : Int) := by omega
      have hg2 : (0 : Int) ≤ (q : Int) := by omega
      have hm1 : min n (len - q) ≤ len - q := by omega
      have hm2 : (if len - q < n then ((len - q : Nat) : Int) else (n : Int)) = ((min n (len - q) : Nat) : Int) := by
        split <;> omega
      generalize hm : min n (len - q) = m at *
      have hqc : ¬ cap = q := by omega
      have hql : q ≤ len := by omega
      gi_wp2
      rename_i K1 hK1 K0 hK0
      refine wpIn_mono (Q := QL K0 (fun _ _ _ => False) (fun _ _ => False)) (wpIn_wide.2 (c_draw [(.r, 0), (.r, 1), (.p, 2), (.p, 3), (.p, 4), (.p, 5), (.p, 6)] (fun _ => True) mixed (by kernel_rfl) rfl trivial ?_)) (fun e a w q => by cases e <;> first | exact q | exact q.elim)
      refine ⟨.int .i64 n, YAt.mk rfl (by simp [execOp, go_sem, Act.eval, hbn2]), ?_⟩
      refine ⟨.slice (some ⟨b, off, none⟩) len cap, YAt.mk rfl (by simp [execOp, go_sem, Act.eval, Act.put, hbs2]), ?_⟩
      refine ⟨.int .i64 (q : Int), fun w => YAt.mk rfl (by simp [execOp, go_sem, Act.eval, Act.put]), ?_⟩
      refine ⟨.slice (some ⟨b, off + q, none⟩) (len - q) (cap - q), fun w => YAt.mk rfl (by simp [execOp, go_sem, Act.eval, Act.put, hqc, hql]), ?_⟩
      refine ⟨.int .i64 ((len - q : Nat) : Int), fun w => YAt.mk rfl (by simp [execOp, go_sem, Act.eval, Act.put]), ?_⟩
      refine ⟨.int .i64 (m : Int), fun w => YAt.mk rfl (by simp [execOp, go_sem, Act.eval, Act.put]; exact hm2), ?_⟩
      refine ⟨.int .i64 (m : Int), fun w => YAt.mk rfl (by simp [execOp, go_sem, Act.eval, Act.put]), ?_⟩
      refine hK0 _ _ ?_
      simp only [Act.put]
      gi_wp2
      refine hR.mono ?_
      rintro e W3 ⟨rfl, hJ3⟩
      obtain ⟨hbs4, hbn4⟩ := hrd (k + 1) W3 hJ3
      gi_wp2
      go_roundw
      case rel => exact ⟨k + 1, by omega, by rw [hnext]; congr 1, hJ3⟩
      case measure => simp [intOf]; omega
    · have hge : ¬ ((q : Int) < (len : Int)) := by omega
      gi_wp2
      go_end0
      exact ⟨⟨_, rfl⟩, k, by omega, by omega, hJs⟩

set_option maxRecDepth 100000 in
set_option maxHeartbeats 4000000 in
theorem chunk1_nil (l bs cap : Nat) (p2 : Value) (bo : Option Addr) (Jr : Nat → World → Prop) (hrd : ∀ k W, Jr k W → W.cell? ⟨bs, 0, none⟩ = some (.slice bo 0 cap)) (W : World) (h0 : Jr 0 W) :
    CallsIn Fence.wide 1 Tryd.prog 57 #[.func (.yield l) #[] #[], .pointer (some ⟨bs, 0, none⟩), p2] W (fun e W' => (∃ v, e = .returned v) ∧ Jr 0 W') := by
  refine callsIn_of_wp Tryd.func57 rfl trivial ?_ rfl
  simp only [Tryd.ntmps57, List.size_toArray, List.length_cons, List.length_nil, Nat.reduceAdd, Nat.reduceSub, Array.replicate_succ, Array.replicate_zero, List.push_toArray, List.append_toArray, List.nil_append, List.cons_append]
  gi_wp2
  gi_loopw [4] (fun i wr => i = .int .i64 0 ∧ Jr 0 wr) (fun i _ => 1)
  case atStart => exact ⟨rfl, h0⟩
  case round =>
    obtain ⟨rfl, hJs⟩ := hrel
    have hbs2 := hrd 0 wr hJs
    gi_wp2
    go_end0
    exact ⟨⟨_, rfl⟩, hJs⟩

/-- The parts of a list. -/
def chunkE (n : Nat) (xs : List UInt8) : List (List UInt8 × Unit) := (List.range ((xs.length + n - 1) / n)).map fun k => ((xs.drop (k * n)).take n, ())

theorem it_chunk {O : Go.Tw.Own} {ρ : List Hd} {bs bn n : Nat} {xs : List UInt8} {sv : Value} (hO : O bs = .im [sv]) (hT : TR O (.sl .u8) xs [sv]) (hOn : O bn = .im [vI n]) (hn : 1 ≤ n) (hn2 : n ≤ 1000000) (hlen : xs.length ≤ 1099511627776) :
    ∃ u : Nat → Array Value, (∀ k el, (chunkE n xs)[k]? = some el → ∃ cs, RL O ρ (encs [.ro .u8] el) cs ∧ u k = (vals (encs [.ro .u8] el) cs).toArray) ∧
      Iter Tryd.prog 57 #[vP bs 0, vP bn 0] (chunkE n xs).length u (fun W => ∀ b all, O b = .im all → ∃ ty fz, W.heap[b]? = some (.cells all.toArray ty fz)) := by
  have hcl : (chunkE n xs).length = (xs.length + n - 1) / n := by simp [chunkE]
  have hcell : ∀ {b : Nat} {v : Value}, O b = .im [v] → ∀ W : World, (∀ b all, O b = .im all → ∃ ty fz, W.heap[b]? = some (.cells all.toArray ty fz)) → W.cell? ⟨b, 0, none⟩ = some v := by
    intro b v hb W hW
    obtain ⟨ty, fz, h⟩ := hW b _ hb
    simp [World.cell?, h]
  obtain ⟨v', es, hv, hL, hS⟩ := hT
  cases hv
  have hel := LR.length (fun _ _ => TR.length) hL
  rcases hS with ⟨h0, bo, c, rfl⟩ | ⟨b, off, cap, rfl, hcap, hI⟩
  · have hx0 : xs = [] := List.length_eq_zero_iff.1 h0
    subst hx0
    have hN : (chunkE n []).length = 0 := by rw [hcl]; exact Nat.div_eq_of_lt (by simp; omega)
    refine ⟨fun _ => #[], fun k el hk => ?_, ?_⟩
    · have := (List.getElem?_eq_some_iff.1 hk).1; omega
    · intro l Jr hrd hdr hY W h0
      rw [hN]
      exact chunk1_nil l bs c (vP bn 0) bo Jr (fun k W h => hcell hO W (hrd k W h)) W h0
  · refine ⟨fun k => #[.slice (some ⟨b, off + k * n, none⟩) (min n (xs.length - k * n)) (min n (xs.length - k * n))], fun k el hk => ?_, ?_⟩
    · have hk' := hk
      simp only [chunkE, List.getElem?_map, Option.map_eq_some_iff] at hk'
      obtain ⟨k', h1, rfl⟩ := hk'
      have hkk : k' = k := by
        obtain ⟨h2, h3⟩ := List.getElem?_eq_some_iff.1 h1
        rw [List.getElem_range] at h3
        exact h3.symm
      subst hkk
      have hl : ((xs.drop (k' * n)).take n).length = min n (xs.length - k' * n) := by simp
      refine ⟨[[.slice (some ⟨b, off + k' * n, none⟩) (min n (xs.length - k' * n)) (min n (xs.length - k' * n))]], ⟨_, _, rfl, ?_, rfl⟩, rfl⟩
      have h2 := (LR.split (k := 1) (fun _ _ => TR.length (t := .u8)) (k' * n) hL).2
      have h3 := (LR.split (k := 1) (fun _ _ => TR.length (t := .u8)) n h2).1
      refine ⟨_, _, rfl, h3, .inr ⟨b, off + k' * n, min n (xs.length - k' * n), by rw [hl], by rw [hl]; exact Nat.le_refl _, ?_⟩⟩
      obtain ⟨all, g1, g2⟩ := hI
      refine ⟨all, g1, fun j c hj => ?_⟩
      rw [Nat.mul_one, Nat.mul_one] at hj
      have hj2 : (es.drop (k' * n))[j]? = some c := by
        rw [List.getElem?_take] at hj
        split at hj
        · exact hj
        · cases hj
      rw [List.getElem?_drop] at hj2
      rw [Nat.add_assoc]
      exact g2 _ c hj2
    · intro l Jr hrd hdr hY W h0
      have hlt : ∀ k, k * n < xs.length → k < (chunkE n xs).length := by
        intro k hk
        rw [hcl]
        have : k + 1 ≤ (xs.length + n - 1) / n := by
          rw [Nat.le_div_iff_mul_le (by omega), Nat.add_mul]; omega
        omega
      refine (chunk1_in l bs bn b off xs.length cap n hn hn2 hcap hlen Jr hdr (fun k W h => ⟨hcell hO W (hrd k W h), hcell hOn W (hrd k W h)⟩) (fun k W hk hj => hY k W (hlt k hk) hj) W h0).mono ?_
      rintro e W' ⟨hv, k, hk1, hk2, hj⟩
      refine ⟨hv, ?_⟩
      have : k = (chunkE n xs).length := by
        rw [hcl]
        symm
        apply Nat.div_eq_of_lt_le
        · omega
        · rw [Nat.add_mul]; omega
      rw [← this]; exact hj

def okChunk (n : Int) (xs : List UInt8) : Bool := decide (1 ≤ n) && (decide (n ≤ 1000000) && decide (xs.length ≤ 1099511627776))
theorem hit_chunk {O : Go.Tw.Own} {ρ : List Hd} {lb : List Value} {tb : Tbl} {j1 j2 t1 t2 : Nat} {xs : List UInt8} {n : Int} (h : R O ρ true (.pr (.pt j1 []) (.pr (.pt j2 []) .un)) lb) (hb : BxOk O ρ tb [j1, j2]) (h1 : tb[j1]? = some (.blk t1 (.ro .u8 xs))) (h2 : tb[j2]? = some (.blk t2 (.o (.i n)))) (hok : okChunk n xs = true) :
    ∃ u : Nat → Array Value, (∀ k el, (chunkE n.toNat xs)[k]? = some el → ∃ cs, RL O ρ (encs [.ro .u8] el) cs ∧ u k = (vals (encs [.ro .u8] el) cs).toArray) ∧
      Iter Tryd.prog 57 lb.toArray (chunkE n.toNat xs).length u (fun W => ∀ b all, O b = .im all → ∃ ty fz, W.heap[b]? = some (.cells all.toArray ty fz)) := by
  simp only [okChunk, Bool.and_eq_true, decide_eq_true_eq] at hok
  obtain ⟨n1, n2, n3⟩ := hok
  obtain ⟨x1, r1, rfl, g1, x2, r2, rfl, g2, g3⟩ := h
  simp only [R] at g3
  subst g3
  obtain ⟨hd1, off1, e1, e2, e3⟩ := g1
  obtain ⟨hd2, off2, e4, e5, e6⟩ := g2
  simp only [List.cons.injEq, and_true] at e3 e6
  subst e3 e6
  have z1 : off1 = 0 := by cases hd1.z <;> simp [Sz.off] at e2 <;> exact e2.symm
  have z2 : off2 = 0 := by cases hd2.z <;> simp [Sz.off] at e5 <;> exact e5.symm
  subst z1 z2
  obtain ⟨k1, c1, q1, q2, q3⟩ := hb j1 (by simp) _ _ h1
  obtain ⟨k2, c2, q4, q5, q6⟩ := hb j2 (by simp) _ _ h2
  rw [e1] at q1; cases q1
  rw [e4] at q4; cases q4
  obtain ⟨rfl, _⟩ := q6
  have q3 : TR O (.sl .u8) xs c1 := q3
  obtain ⟨sv, es, rfl, q7⟩ := q3
  have hn : (n.toNat : Int) = n := Int.toNat_of_nonneg (by omega)
  exact it_chunk (n := n.toNat) q2 ⟨sv, es, rfl, q7⟩ (by rw [q5]; show Ow.im [vI n] = _; rw [hn]) (by omega) (by omega) n3
end Go.Proofs.YthikoaamigiceaaDoor
/- kinkeep/keyring.Shares: its twin, and that the call does what the twin says. Printed by a program. -/
namespace Go.Proofs.YthikoaamigiceaaDoor
open Go.Tw
set_option linter.unusedSimpArgs false
set_option linter.unusedVariables false
def ord10 : Nat → List (Tag × Nat)
  | _ => []
def al10 : Nat → Option Nat
  | _ => none
def ms10 : Nat → Option (List (Option Tag × Nat × List Nat))
  | _ => none
def E10 (F : Nat) : Ev := ⟨cfg, 78, ctOf [(26, ct26 F), (27, ct27 F), (28, ct28 F)], ord10, ctOf [], al10, ms10⟩
theorem cts10 (F : Nat) : CtsOk Tryd.prog (E10 F) := cts_of (l := [(26, ct26 F), (27, ct27 F), (28, ct28 F)]) (l' := []) rfl rfl ⟨⟨ok26 F, _, Tryd.func26, rfl, rfl⟩, ⟨⟨ok27 F, _, Tryd.func27, rfl, rfl⟩, ⟨⟨ok28 F, _, Tryd.func28, rfl, rfl⟩, trivial⟩⟩⟩ trivial
def L10_3c (F : Nat) (y56 : List Int) (y58 : List Int) (y59 : Int) (y60 : Int) (y61 : List Int) {β : Type} (kA : (Int × (List Int)) → Option β) (kO : ((List Int)) → Option β) (kR : Int → Option β) : Option β :=
  (bif (decide (y60 < y59)) then (Option.bind (ix y58 y60) fun x66 => (bif (decide (x66 < (0 : Int))) then (kR (1 : Int)) else (bif (decide ((12 : Int) ≤ x66)) then (kR (1 : Int)) else (Option.bind (gsl y56 (0 : Int) y60) fun x67 => (Option.bind (T26 F x67 x66) fun z68 => (bif z68 then (kR (1 : Int)) else (Option.bind (gapp y61 ([(w64 (x66 + (1 : Int)))] : List Int)) fun x69 => (kA ((w64 (y60 + (1 : Int))), x69))))))))) else (kO y61))
def L10_3 (F : Nat) (y56 : List Int) (y58 : List Int) (y59 : Int) (y60 : Int) (y61 : List Int) : Option ((Int × (List Int)) ⊕ (((List Int)) ⊕ (Int))) := L10_3c F y56 y58 y59 y60 y61 (fun s => some (.inl s)) (fun z => some (.inr (.inl z))) (fun z => some (.inr (.inr z)))
theorem L10_3n (F : Nat) (y56 : List Int) (y58 : List Int) (y59 : Int) (y60 : Int) (y61 : List Int) {β : Type} (kA : (Int × (List Int)) → Option β) (kO : ((List Int)) → Option β) (kR : Int → Option β) : L10_3c F y56 y58 y59 y60 y61 kA kO kR = (L10_3 F y56 y58 y59 y60 y61).bind (elimS kA (elimS kO kR)) := by
  simp only [L10_3, L10_3c, Option.bind_assoc, cond_bind, Option.bind_some, Option.bind_none, elimS_l, elimS_r, elimS_bind]
@[reducible] def sA10_3 : List Sh := [.str, .i, (.ro .i), (.ro .u8), (.rw 0), (.ro .i), .i, .i]
@[reducible] def sAp110_3 : List Sh := [.str, .i, (.ro .i), (.ro .u8), (.rw 0)]
@[reducible] def sAp210_3 : List Sh := [.ns, .i]
@[reducible] def sT10_3 : List TSh := [.row 3 .i]
@[reducible] def sTp110_3 : List TSh := [.row 3 .i]
@[reducible] def sTp210_3 : List TSh := []
def lc10_3 (F : Nat) : Lc := mkR [0, 1, 2, 3, 10, 26, 27, 28] sA10_3 sT10_3 [0, 1, 2, 3, 10] sAp110_3 sTp110_3 [8, 9] sAp210_3 sTp210_3 F (fun x y (s : Int × (List Int)) => L10_3 F x.2.2.1 x.2.2.2.2.2.1 x.2.2.2.2.2.2.1 s.1 s.2) (fun x y => (x.2.2.2.2.2.2.2.1, y.1)) (fun x y (z : (List Int)) => ((x.1, x.2.1, x.2.2.1, x.2.2.2.1, (), ()), (z, ()))) (fun x y (z : Int) => (((), z, ()), ()))
theorem le10_3 (F : Nat) (x : dens sA10_3) (y : tdens sT10_3) (s : Int × (List Int)) : sev (E10 F) 0 [] (cAt (bodyOf Tryd.f10) (0 :: 0 :: [1, 0, 1, 1, 1])) (0 :: 0 :: [1, 0, 1, 1, 1]) (mkSt [0, 1, 2, 3, 10, 26, 27, 28] sA10_3 sT10_3 (x.1, x.2.1, x.2.2.1, x.2.2.2.1, (), x.2.2.2.2.2.1, x.2.2.2.2.2.2.1, s.1, ()) (s.2, ())) (kLoop 0 [0, 1, 2, 3, 10, 26, 27, 28] sA10_3 sT10_3 [0, 1, 2, 3, 10] sAp110_3 sTp110_3 [8, 9] sAp210_3 sTp210_3 0 (fun x y => some (.inl (x, y))) (fun x y => some (.inr (.inl (x, y)))) (fun x y => some (.inr (.inr (x, y))))) =
    L10_3c (β := Full sA10_3 sT10_3 sAp110_3 sTp110_3 sAp210_3 sTp210_3) F x.2.2.1 x.2.2.2.2.2.1 x.2.2.2.2.2.2.1 s.1 s.2 (fun s => some (.inl ((x.1, x.2.1, x.2.2.1, x.2.2.2.1, (), x.2.2.2.2.2.1, x.2.2.2.2.2.2.1, s.1, ()), (s.2, ())))) (fun z => some (.inr (.inl ((x.1, x.2.1, x.2.2.1, x.2.2.2.1, (), ()), (z, ()))))) (fun z => some (.inr (.inr (((), z, ()), ())))) := by kernel_rfl
theorem lo10_3 (F : Nat) : LcOk Tryd.prog (E10 F) 0 (lc10_3 F) (cAt (bodyOf Tryd.f10) [1, 0, 1, 1, 1]) :=
  mkR_ok (lp := []) (id := 0) (b := cAt (bodyOf Tryd.f10) (0 :: 0 :: [1, 0, 1, 1, 1])) cok (cts10 F) mixed trivial (by kernel_rfl) (by kernel_rfl) (fun x y s => (x.1, x.2.1, x.2.2.1, x.2.2.2.1, (), x.2.2.2.2.2.1, x.2.2.2.2.2.2.1, s.1, ())) (fun x y s => (s.2, ())) (fun x y => rfl) (fun x y => rfl) (fun x y s kA kO kR => L10_3c F x.2.2.1 x.2.2.2.2.2.1 x.2.2.2.2.2.2.1 s.1 s.2 kA kO kR) (fun x y s kA kO kR => L10_3n F x.2.2.1 x.2.2.2.2.2.1 x.2.2.2.2.2.2.1 s.1 s.2 kA kO kR) (le10_3 F)
@[reducible] def rA10_4 : List Sh := [.str, (.rw 2), (.pt 3 [])]
@[reducible] def rB10_4 : List Sh := [.str, (.rw 0), (.pt 1 [])]
@[reducible] def rZ10_4 : List Sh := [(.ro .u8)]
@[reducible] def rT10_4 : List TSh := [.blk 23 (.ro .u8), .blk 3 .i, .row 3 .i, .blk 57 .ns]
@[reducible] def rU10_4 : List TSh := [.row 3 .i, .blk 57 (.rw 2), .row 23 (.sl .u8)]
def L10_4 (F : Nat) (y76 : List UInt8) (y77 : List Int) (y78 : List (List UInt8)) (e79 : List UInt8) : Option (dens rB10_4 × tdens rU10_4) :=
  (Option.bind (gapp y78 ([e79] : List (List UInt8))) fun x81 => some ((y76, (), (), ()), (y77, (), x81, ())))
def R10_4 (F : Nat) (x : dens (.fn 57 .un (.pr (.pt 0 []) (.pr (.pt 1 []) .un)) :: rA10_4)) (y : tdens rT10_4) : Option (dens rB10_4 × tdens rU10_4) := bif okChunk (y.2.1) y.1 then rfold ((fun (x : dens (.fn 57 .un (.pr (.pt 0 []) (.pr (.pt 1 []) .un)) :: rA10_4)) (y : tdens rT10_4) (s : dens rB10_4 × tdens rU10_4) (e : dens rZ10_4) => L10_4 F s.1.1 s.2.1 s.2.2.2.1 e.1) x y) (chunkE (y.2.1).toNat y.1) (((x.2.1, (), (), ()), (y.2.2.1, (), ([] : List (List UInt8)), ())) : dens rB10_4 × tdens rU10_4) else none
def lc10_4 (F : Nat) : Lc := mkF 65 57 (.pr (.pt 0 []) (.pr (.pt 1 []) .un)) [0, 10, 13] rA10_4 rB10_4 rT10_4 rU10_4 (ε := dens rZ10_4) (fun x y => chunkE (y.2.1).toNat y.1) (fun x y => ((x.2.1, (), (), ()), (y.2.2.1, (), ([] : List (List UInt8)), ()))) (fun x y => okChunk (y.2.1) y.1) (fun x y s e => L10_4 F s.1.1 s.2.1 s.2.2.2.1 e.1)
theorem le10_4 (F : Nat) (x : dens (.fn 57 .un (.pr (.pt 0 []) (.pr (.pt 1 []) .un)) :: rA10_4)) (y : tdens rT10_4) (s : dens rB10_4 × tdens rU10_4) (e : dens rZ10_4) : sev (E10 F) 0 [] (rfBody (cAt (bodyOf Tryd.f10) [0, 1, 0, 1, 1, 1, 1, 1, 1])) [] ⟨(14, .ro .u8 e.1) :: putI [66] (encs rZ10_4 e) (zipS [0, 10, 13] (encs rB10_4 s.1)), encTs rU10_4 s.2, []⟩ (kRd 0 [0, 10, 13] rB10_4 rU10_4 (encs rB10_4 s.1)) = (fun x y s e => L10_4 F s.1.1 s.2.1 s.2.2.2.1 e.1) x y s e := by kernel_rfl
theorem li10_4 (x : dens (.fn 57 .un (.pr (.pt 0 []) (.pr (.pt 1 []) .un)) :: rA10_4)) (y : tdens rT10_4) : uniS 0 [0, 10, 13] rB10_4 rU10_4 ⟨zipS [0, 10, 13] (encs rA10_4 x.2), dropB [0, 1] (encTs rT10_4 y), []⟩ (fun p q => some (p, q)) = some ((x.2.1, (), (), ()), (y.2.2.1, (), ([] : List (List UInt8)), ())) := by kernel_rfl
theorem lo10_4 (F : Nat) : LcOkM Tryd.prog (E10 F) 0 (lc10_4 F) (cAt (bodyOf Tryd.f10) [0, 1, 0, 1, 1, 1, 1, 1, 1]) :=
  rf_okP (ida := 15) (d := 14) (s_ := 66) (ps := [66]) (Ae := rZ10_4) (bx := [0, 1]) (ve := fun e => .ro .u8 e.1) cok (cts10 F) mixed (by kernel_rfl) (by kernel_rfl) (by kernel_rfl) (fun y => rfl) (li10_4) rfl rfl rfl rfl rfl (fun e => rfl) (fun e il => rfl) (fun args w => by kernel_rfl)
    (fun x y O ρ lb hok h hb => hit_chunk h hb rfl rfl hok) (le10_4 F)
def T10c (F : Nat) (p0 : List UInt8) (p1 : Int) (p2 : List Int) (p3 : List UInt8) {β : Type} (k : (Int × (List (Int × (List UInt8) × Unit))) → Option β) : Option β :=
  (bif ((p0.length : Int) != (32 : Int)) then (k ((1 : Int), ([] : List (Int × (List UInt8) × Unit)))) else (bif (decide (p1 < (1 : Int))) then (k ((1 : Int), ([] : List (Int × (List UInt8) × Unit)))) else (bif (decide ((12 : Int) < p1)) then (k ((1 : Int), ([] : List (Int × (List UInt8) × Unit)))) else (Option.bind (iter (fun s => L10_3 F p2 p2 (p2.length : Int) s.1 s.2) F ((0 : Int), ([] : List Int))) fun z70 => elimS (fun z70 => (bif (decide ((p2.length : Int) < p1)) then (k ((1 : Int), ([] : List (Int × (List UInt8) × Unit)))) else (bif ((p3.length : Int) != (w64 ((32 : Int) * (w64 (p1 - (1 : Int)))))) then (k ((1 : Int), ([] : List (Int × (List UInt8) × Unit)))) else (Option.bind (T27 F (32 : Int)) fun z71 => (Option.bind (R10_4 F (((), ((), (), ())), p0, (), (), ()) (p3, (32 : Int), z70, (), ())) fun z82 => (Option.bind (gstr z82.1.1) fun x83 => (Option.bind (T28 F x83 z82.2.2.2.1 z82.2.1) fun z84 => (k (z84.1, z84.2))))))))) (fun z70 => (k (z70, ([] : List (Int × (List UInt8) × Unit))))) z70))))
def T10 (F : Nat) (p0 : List UInt8) (p1 : Int) (p2 : List Int) (p3 : List UInt8) : Option (Int × (List (Int × (List UInt8) × Unit))) := T10c F p0 p1 p2 p3 some
theorem T10n (F : Nat) (p0 : List UInt8) (p1 : Int) (p2 : List Int) (p3 : List UInt8) {β : Type} (k : (Int × (List (Int × (List UInt8) × Unit))) → Option β) : T10c F p0 p1 p2 p3 k = (T10 F p0 p1 p2 p3).bind k := by
  simp only [T10, T10c, Option.bind_assoc, cond_bind, Option.bind_some, Option.bind_none, elimS_bind]
@[reducible] def cA10 : List Sh := [.str, .i, (.ro .i), (.ro .u8)]
@[reducible] def cB10 : List Sh := [(.rw 0), .i]
@[reducible] def cT10 : List TSh := []
@[reducible] def cU10 : List TSh := [.row 30 (.pr .i (.pr (.sl .u8) .un))]
def ct10 (F : Nat) : Ct := mkC 0 cA10 cT10 cB10 cU10 (fun x y => T10 F x.1 x.2.1 x.2.2.1 x.2.2.2.1) (fun x y (z : Int × (List (Int × (List UInt8) × Unit))) => (((), z.1, ()), (z.2, ())))
theorem eq10 (F : Nat) (x : dens cA10) (y : tdens cT10) : sev (E10 F) 0 [([1, 0, 1, 1, 1], lc10_3 F), ([0, 1, 0, 1, 1, 1, 1, 1, 1], lc10_4 F)] (bodyOf Tryd.f10) [] (mkSt (rng 4) cA10 cT10 x y) (kFnM (E10 F) 0 Tryd.f10.results.toList cB10 cU10 fun p q => some (p, q)) =
    T10c F x.1 x.2.1 x.2.2.1 x.2.2.2.1 (fun z => some (((), z.1, ()), (z.2, ()))) := by kernel_rfl
theorem ok10 (F : Nat) : Sound Tryd.prog cfg 10 (ct10 F) :=
  mkC_okM (E := E10 F) (lp := [([1, 0, 1, 1, 1], lc10_3 F), ([0, 1, 0, 1, 1, 1, 1, 1, 1], lc10_4 F)]) (code := bodyOf Tryd.f10) Tryd.func10 rfl Tryd.ntmps10 rfl rfl cok (cts10 F) mixed ⟨lo10_3 F, ⟨lo10_4 F, trivial⟩⟩ (by kernel_rfl) (fun x y k => T10c F x.1 x.2.1 x.2.2.1 x.2.2.2.1 k) (fun x y k => T10n F x.1 x.2.1 x.2.2.1 x.2.2.2.1 k) (eq10 F)
end Go.Proofs.YthikoaamigiceaaDoor
/- kinkeep/keyring.within: its twin, and that the call does what the twin says. Printed by a program. -/
namespace Go.Proofs.YthikoaamigiceaaDoor
open Go.Tw
set_option linter.unusedSimpArgs false
set_option linter.unusedVariables false
def ord68 : Nat → List (Tag × Nat)
  | _ => []
def al68 : Nat → Option Nat
  | _ => none
def ms68 : Nat → Option (List (Option Tag × Nat × List Nat))
  | _ => none
def E68 (F : Nat) : Ev := ⟨cfg, 15, ctOf [], ord68, ctOf [], al68, ms68⟩
theorem cts68 (F : Nat) : CtsOk Tryd.prog (E68 F) := cts_of (l := []) (l' := []) rfl rfl trivial trivial
def T68c (F : Nat) (p0 : Int) (p1 : Int) (p2 : Int) {β : Type} (k : Bool → Option β) : Option β :=
  (bif (decide (p1 ≤ p0)) then (k (decide (p0 ≤ p2))) else (k false))
def T68 (F : Nat) (p0 : Int) (p1 : Int) (p2 : Int) : Option (Bool) := T68c F p0 p1 p2 some
theorem T68n (F : Nat) (p0 : Int) (p1 : Int) (p2 : Int) {β : Type} (k : Bool → Option β) : T68c F p0 p1 p2 k = (T68 F p0 p1 p2).bind k := by
  simp only [T68, T68c, Option.bind_assoc, cond_bind, Option.bind_some, Option.bind_none, elimS_bind]
@[reducible] def cA68 : List Sh := [.i, .i, .i]
@[reducible] def cB68 : List Sh := [.bo]
@[reducible] def cT68 : List TSh := []
@[reducible] def cU68 : List TSh := []
def ct68 (F : Nat) : Ct := mkC 0 cA68 cT68 cB68 cU68 (fun x y => T68 F x.1 x.2.1 x.2.2.1) (fun x y (z : Bool) => ((z, ()), ()))
theorem eq68 (F : Nat) (x : dens cA68) (y : tdens cT68) : sev (E68 F) 0 [] (bodyOf Tryd.f68) [] (mkSt (rng 3) cA68 cT68 x y) (kFn (E68 F) 0 Tryd.f68.results.toList cB68 cU68 fun p q => some (p, q)) =
    T68c F x.1 x.2.1 x.2.2.1 (fun z => some ((z, ()), ())) := by kernel_rfl
theorem ok68 (F : Nat) : Sound Tryd.prog cfg 68 (ct68 F) :=
  mkC_ok (E := E68 F) (lp := []) (code := bodyOf Tryd.f68) Tryd.func68 rfl Tryd.ntmps68 rfl rfl cok (cts68 F) mixed trivial (by kernel_rfl) (fun x y k => T68c F x.1 x.2.1 x.2.2.1 k) (fun x y k => T68n F x.1 x.2.1 x.2.2.1 k) (eq68 F)
end Go.Proofs.YthikoaamigiceaaDoor
/- kinkeep/keyring.validRef: its twin, and that the call does what the twin says. Printed by a program. -/
namespace Go.Proofs.YthikoaamigiceaaDoor
open Go.Tw
set_option linter.unusedSimpArgs false
set_option linter.unusedVariables false
def ord91 : Nat → List (Tag × Nat)
  | _ => []
def al91 : Nat → Option Nat
  | _ => none
def ms91 : Nat → Option (List (Option Tag × Nat × List Nat))
  | _ => none
def E91 (F : Nat) : Ev := ⟨cfg, 17, ctOf [(68, ct68 F)], ord91, ctOf [], al91, ms91⟩
theorem cts91 (F : Nat) : CtsOk Tryd.prog (E91 F) := cts_of (l := [(68, ct68 F)]) (l' := []) rfl rfl ⟨⟨ok68 F, _, Tryd.func68, rfl, rfl⟩, trivial⟩ trivial
def T91c (F : Nat) (p0 : List UInt8) (p1 : Int) (p2 : Int) {β : Type} (k : Bool → Option β) : Option β :=
  (bif ((p0.length : Int) == (32 : Int)) then (Option.bind (T68 F p1 (0 : Int) (1099511627776 : Int)) fun z3 => (bif z3 then (Option.bind (T68 F p2 (0 : Int) (32768 : Int)) fun z4 => (k z4)) else (k false))) else (k false))
def T91 (F : Nat) (p0 : List UInt8) (p1 : Int) (p2 : Int) : Option (Bool) := T91c F p0 p1 p2 some
theorem T91n (F : Nat) (p0 : List UInt8) (p1 : Int) (p2 : Int) {β : Type} (k : Bool → Option β) : T91c F p0 p1 p2 k = (T91 F p0 p1 p2).bind k := by
  simp only [T91, T91c, Option.bind_assoc, cond_bind, Option.bind_some, Option.bind_none, elimS_bind]
@[reducible] def cA91 : List Sh := [(.pr .str (.pr .i (.pr .i .un)))]
@[reducible] def cB91 : List Sh := [.bo]
@[reducible] def cT91 : List TSh := []
@[reducible] def cU91 : List TSh := []
def ct91 (F : Nat) : Ct := mkC 0 cA91 cT91 cB91 cU91 (fun x y => T91 F x.1.1 x.1.2.1 x.1.2.2.1) (fun x y (z : Bool) => ((z, ()), ()))
theorem eq91 (F : Nat) (x : dens cA91) (y : tdens cT91) : sev (E91 F) 0 [] (bodyOf Tryd.f91) [] (mkSt (rng 1) cA91 cT91 x y) (kFn (E91 F) 0 Tryd.f91.results.toList cB91 cU91 fun p q => some (p, q)) =
    T91c F x.1.1 x.1.2.1 x.1.2.2.1 (fun z => some ((z, ()), ())) := by kernel_rfl
theorem ok91 (F : Nat) : Sound Tryd.prog cfg 91 (ct91 F) :=
  mkC_ok (E := E91 F) (lp := []) (code := bodyOf Tryd.f91) Tryd.func91 rfl Tryd.ntmps91 rfl rfl cok (cts91 F) mixed trivial (by kernel_rfl) (fun x y k => T91c F x.1.1 x.1.2.1 x.1.2.2.1 k) (fun x y k => T91n F x.1.1 x.1.2.1 x.1.2.2.1 k) (eq91 F)
end Go.Proofs.YthikoaamigiceaaDoor
/- kinkeep/keyring.validSnapshot: its twin, and that the call does what the twin says. Printed by a program. -/
namespace Go.Proofs.YthikoaamigiceaaDoor
open Go.Tw
set_option linter.unusedSimpArgs false
set_option linter.unusedVariables false
def ord69 : Nat → List (Tag × Nat)
  | _ => []
def al69 : Nat → Option Nat
  | _ => none
def ms69 : Nat → Option (List (Option Tag × Nat × List Nat))
  | _ => none
def E69 (F : Nat) : Ev := ⟨cfg, 44, ctOf [(68, ct68 F), (91, ct91 F)], ord69, ctOf [], al69, ms69⟩
theorem cts69 (F : Nat) : CtsOk Tryd.prog (E69 F) := cts_of (l := [(68, ct68 F), (91, ct91 F)]) (l' := []) rfl rfl ⟨⟨ok68 F, _, Tryd.func68, rfl, rfl⟩, ⟨⟨ok91 F, _, Tryd.func91, rfl, rfl⟩, trivial⟩⟩ trivial
def T69c (F : Nat) (p0 : Int) (p1 : Int) (p2 : Int) (p3 : List UInt8) (p4 : Int) (p5 : Int) (p6 : Int) (p7 : Int) (p8 : List UInt8) {β : Type} (k : Bool → Option β) : Option β :=
  (Option.bind (T68 F p0 (0 : Int) (11 : Int)) fun z7 => (bif (!z7) then (k false) else (Option.bind (T68 F p1 (1 : Int) (1099511627776 : Int)) fun z8 => (bif (!z8) then (k false) else (Option.bind (T68 F p2 (0 : Int) (999999 : Int)) fun z9 => (bif (!z9) then (k false) else (Option.bind (T68 F p6 (0 : Int) (1099511627776 : Int)) fun z10 => (bif (!z10) then (k false) else (Option.bind (T68 F p7 (0 : Int) (1099511627776 : Int)) fun z11 => (bif (!z11) then (k false) else (Option.bind (T91 F p3 p4 p5) fun z12 => (bif z12 then (bif ((p8.length : Int) == (0 : Int)) then (k true) else (k ((p8.length : Int) == (32 : Int)))) else (k false)))))))))))))
def T69 (F : Nat) (p0 : Int) (p1 : Int) (p2 : Int) (p3 : List UInt8) (p4 : Int) (p5 : Int) (p6 : Int) (p7 : Int) (p8 : List UInt8) : Option (Bool) := T69c F p0 p1 p2 p3 p4 p5 p6 p7 p8 some
theorem T69n (F : Nat) (p0 : Int) (p1 : Int) (p2 : Int) (p3 : List UInt8) (p4 : Int) (p5 : Int) (p6 : Int) (p7 : Int) (p8 : List UInt8) {β : Type} (k : Bool → Option β) : T69c F p0 p1 p2 p3 p4 p5 p6 p7 p8 k = (T69 F p0 p1 p2 p3 p4 p5 p6 p7 p8).bind k := by
  simp only [T69, T69c, Option.bind_assoc, cond_bind, Option.bind_some, Option.bind_none, elimS_bind]
@[reducible] def cA69 : List Sh := [(.pr .i (.pr .i (.pr .i (.pr (.pr .str (.pr .i (.pr .i .un))) (.pr .i (.pr .i (.pr .str (.pr .bo .un))))))))]
@[reducible] def cB69 : List Sh := [.bo]
@[reducible] def cT69 : List TSh := []
@[reducible] def cU69 : List TSh := []
def ct69 (F : Nat) : Ct := mkC 0 cA69 cT69 cB69 cU69 (fun x y => T69 F x.1.1 x.1.2.1 x.1.2.2.1 x.1.2.2.2.1.1 x.1.2.2.2.1.2.1 x.1.2.2.2.1.2.2.1 x.1.2.2.2.2.1 x.1.2.2.2.2.2.1 x.1.2.2.2.2.2.2.1) (fun x y (z : Bool) => ((z, ()), ()))
theorem eq69 (F : Nat) (x : dens cA69) (y : tdens cT69) : sev (E69 F) 0 [] (bodyOf Tryd.f69) [] (mkSt (rng 1) cA69 cT69 x y) (kFn (E69 F) 0 Tryd.f69.results.toList cB69 cU69 fun p q => some (p, q)) =
    T69c F x.1.1 x.1.2.1 x.1.2.2.1 x.1.2.2.2.1.1 x.1.2.2.2.1.2.1 x.1.2.2.2.1.2.2.1 x.1.2.2.2.2.1 x.1.2.2.2.2.2.1 x.1.2.2.2.2.2.2.1 (fun z => some ((z, ()), ())) := by kernel_rfl
theorem ok69 (F : Nat) : Sound Tryd.prog cfg 69 (ct69 F) :=
  mkC_ok (E := E69 F) (lp := []) (code := bodyOf Tryd.f69) Tryd.func69 rfl Tryd.ntmps69 rfl rfl cok (cts69 F) mixed trivial (by kernel_rfl) (fun x y k => T69c F x.1.1 x.1.2.1 x.1.2.2.1 x.1.2.2.2.1.1 x.1.2.2.2.1.2.1 x.1.2.2.2.1.2.2.1 x.1.2.2.2.2.1 x.1.2.2.2.2.2.1 x.1.2.2.2.2.2.2.1 k) (fun x y k => T69n F x.1.1 x.1.2.1 x.1.2.2.1 x.1.2.2.2.1.1 x.1.2.2.2.1.2.1 x.1.2.2.2.1.2.2.1 x.1.2.2.2.2.1 x.1.2.2.2.2.2.1 x.1.2.2.2.2.2.2.1 k) (eq69 F)
end Go.Proofs.YthikoaamigiceaaDoor
/- kinkeep/keyring.validRefs$1: its twin, and that the call does what the twin says. Printed by a program. -/
namespace Go.Proofs.YthikoaamigiceaaDoor
open Go.Tw
set_option linter.unusedSimpArgs false
set_option linter.unusedVariables false
def ord93 : Nat → List (Tag × Nat)
  | _ => []
def al93 : Nat → Option Nat
  | _ => none
def ms93 : Nat → Option (List (Option Tag × Nat × List Nat))
  | _ => none
def E93 (F : Nat) : Ev := ⟨cfg, 6, ctOf [(91, ct91 F)], ord93, ctOf [], al93, ms93⟩
theorem cts93 (F : Nat) : CtsOk Tryd.prog (E93 F) := cts_of (l := [(91, ct91 F)]) (l' := []) rfl rfl ⟨⟨ok91 F, _, Tryd.func91, rfl, rfl⟩, trivial⟩ trivial
def T93c (F : Nat) (p0 : List UInt8) (p1 : Int) (p2 : Int) {β : Type} (k : Bool → Option β) : Option β :=
  (Option.bind (T91 F p0 p1 p2) fun z2 => (k (!z2)))
def T93 (F : Nat) (p0 : List UInt8) (p1 : Int) (p2 : Int) : Option (Bool) := T93c F p0 p1 p2 some
theorem T93n (F : Nat) (p0 : List UInt8) (p1 : Int) (p2 : Int) {β : Type} (k : Bool → Option β) : T93c F p0 p1 p2 k = (T93 F p0 p1 p2).bind k := by
  simp only [T93, T93c, Option.bind_assoc, cond_bind, Option.bind_some, Option.bind_none, elimS_bind]
@[reducible] def cA93 : List Sh := [(.pr .str (.pr .i (.pr .i .un)))]
@[reducible] def cB93 : List Sh := [.bo]
@[reducible] def cT93 : List TSh := []
@[reducible] def cU93 : List TSh := []
def ct93 (F : Nat) : Ct := mkC 0 cA93 cT93 cB93 cU93 (fun x y => T93 F x.1.1 x.1.2.1 x.1.2.2.1) (fun x y (z : Bool) => ((z, ()), ()))
theorem eq93 (F : Nat) (x : dens cA93) (y : tdens cT93) : sev (E93 F) 0 [] (bodyOf Tryd.f93) [] (mkSt (rng 1) cA93 cT93 x y) (kFn (E93 F) 0 Tryd.f93.results.toList cB93 cU93 fun p q => some (p, q)) =
    T93c F x.1.1 x.1.2.1 x.1.2.2.1 (fun z => some ((z, ()), ())) := by kernel_rfl
theorem ok93 (F : Nat) : Sound Tryd.prog cfg 93 (ct93 F) :=
  mkC_ok (E := E93 F) (lp := []) (code := bodyOf Tryd.f93) Tryd.func93 rfl Tryd.ntmps93 rfl rfl cok (cts93 F) mixed trivial (by kernel_rfl) (fun x y k => T93c F x.1.1 x.1.2.1 x.1.2.2.1 k) (fun x y k => T93n F x.1.1 x.1.2.1 x.1.2.2.1 k) (eq93 F)
end Go.Proofs.YthikoaamigiceaaDoor
/- slices.IndexFunc[[]kinkeep/api.Ref,kinkeep/api.Ref]: its twin, and that the call does what the twin says. Printed by a program. -/
namespace Go.Proofs.YthikoaamigiceaaDoor
open Go.Tw
set_option linter.unusedSimpArgs false
set_option linter.unusedVariables false
def ord108 : Nat → List (Tag × Nat)
  | _ => []
def al108 : Nat → Option Nat
  | _ => none
def ms108 : Nat → Option (List (Option Tag × Nat × List Nat))
  | _ => none
def E108 (F : Nat) : Ev := ⟨cfg, 19, ctOf [(93, ct93 F)], ord108, ctOf [], al108, ms108⟩
theorem cts108 (F : Nat) : CtsOk Tryd.prog (E108 F) := cts_of (l := [(93, ct93 F)]) (l' := []) rfl rfl ⟨⟨ok93 F, _, Tryd.func93, rfl, rfl⟩, trivial⟩ trivial
def L108_2c (F : Nat) (y9 : List ((List UInt8) × Int × Int × Unit)) (y10 : Int) (y11 : Int) {β : Type} (kA : Int → Option β) (kO : Unit → Option β) (kR : Int → Option β) : Option β :=
  (bif (decide (y11 < y10)) then (Option.bind (ix y9 y11) fun x14 => (Option.bind (T93 F x14.1 x14.2.1 x14.2.2.1) fun z15 => (bif z15 then (kR y11) else (kA (w64 (y11 + (1 : Int))))))) else (kO ()))
def L108_2 (F : Nat) (y9 : List ((List UInt8) × Int × Int × Unit)) (y10 : Int) (y11 : Int) : Option ((Int) ⊕ ((Unit) ⊕ (Int))) := L108_2c F y9 y10 y11 (fun s => some (.inl s)) (fun z => some (.inr (.inl z))) (fun z => some (.inr (.inr z)))
theorem L108_2n (F : Nat) (y9 : List ((List UInt8) × Int × Int × Unit)) (y10 : Int) (y11 : Int) {β : Type} (kA : Int → Option β) (kO : Unit → Option β) (kR : Int → Option β) : L108_2c F y9 y10 y11 kA kO kR = (L108_2 F y9 y10 y11).bind (elimS kA (elimS kO kR)) := by
  simp only [L108_2, L108_2c, Option.bind_assoc, cond_bind, Option.bind_some, Option.bind_none, elimS_l, elimS_r, elimS_bind]
@[reducible] def sA108_2 : List Sh := [(.ro (.pr .s (.pr .i (.pr .i .un)))), (.fn 93 .un .un), .i, .i]
@[reducible] def sAp1108_2 : List Sh := []
@[reducible] def sAp2108_2 : List Sh := [.i]
@[reducible] def sT108_2 : List TSh := []
@[reducible] def sTp1108_2 : List TSh := []
@[reducible] def sTp2108_2 : List TSh := []
def lc108_2 (F : Nat) : Lc := mkR [0, 1, 7, 8] sA108_2 sT108_2 [] sAp1108_2 sTp1108_2 [4] sAp2108_2 sTp2108_2 F (fun x y (s : Int) => L108_2 F x.1 x.2.2.1 s) (fun x y => x.2.2.2.1) (fun x y (z : Unit) => ((), ())) (fun x y (z : Int) => ((z, ()), ()))
theorem le108_2 (F : Nat) (x : dens sA108_2) (y : tdens sT108_2) (s : Int) : sev (E108 F) 0 [] (cAt (bodyOf Tryd.f108) (0 :: 0 :: [1, 0, 1])) (0 :: 0 :: [1, 0, 1]) (mkSt [0, 1, 7, 8] sA108_2 sT108_2 (x.1, ((), ()), x.2.2.1, s, ()) ()) (kLoop 0 [0, 1, 7, 8] sA108_2 sT108_2 [] sAp1108_2 sTp1108_2 [4] sAp2108_2 sTp2108_2 0 (fun x y => some (.inl (x, y))) (fun x y => some (.inr (.inl (x, y)))) (fun x y => some (.inr (.inr (x, y))))) =
    L108_2c (β := Full sA108_2 sT108_2 sAp1108_2 sTp1108_2 sAp2108_2 sTp2108_2) F x.1 x.2.2.1 s (fun s => some (.inl ((x.1, ((), ()), x.2.2.1, s, ()), ()))) (fun z => some (.inr (.inl ((), ())))) (fun z => some (.inr (.inr ((z, ()), ())))) := by kernel_rfl
theorem lo108_2 (F : Nat) : LcOk Tryd.prog (E108 F) 0 (lc108_2 F) (cAt (bodyOf Tryd.f108) [1, 0, 1]) :=
  mkR_ok (lp := []) (id := 0) (b := cAt (bodyOf Tryd.f108) (0 :: 0 :: [1, 0, 1])) cok (cts108 F) mixed trivial (by kernel_rfl) (by kernel_rfl) (fun x y s => (x.1, ((), ()), x.2.2.1, s, ())) (fun x y s => ()) (fun x y => rfl) (fun x y => rfl) (fun x y s kA kO kR => L108_2c F x.1 x.2.2.1 s kA kO kR) (fun x y s kA kO kR => L108_2n F x.1 x.2.2.1 s kA kO kR) (le108_2 F)
def T108c (F : Nat) (p0 : List ((List UInt8) × Int × Int × Unit)) {β : Type} (k : Int → Option β) : Option β :=
  (Option.bind (iter (fun s => L108_2 F p0 (p0.length : Int) s) F (0 : Int)) fun z16 => elimS (fun z16 => (k (-1 : Int))) (fun z16 => (k z16)) z16)
def T108 (F : Nat) (p0 : List ((List UInt8) × Int × Int × Unit)) : Option (Int) := T108c F p0 some
theorem T108n (F : Nat) (p0 : List ((List UInt8) × Int × Int × Unit)) {β : Type} (k : Int → Option β) : T108c F p0 k = (T108 F p0).bind k := by
  simp only [T108, T108c, Option.bind_assoc, cond_bind, Option.bind_some, Option.bind_none, elimS_bind]
@[reducible] def cA108 : List Sh := [(.ro (.pr .s (.pr .i (.pr .i .un)))), (.fn 93 .un .un)]
@[reducible] def cB108 : List Sh := [.i]
@[reducible] def cT108 : List TSh := []
@[reducible] def cU108 : List TSh := []
def ct108 (F : Nat) : Ct := mkC 0 cA108 cT108 cB108 cU108 (fun x y => T108 F x.1) (fun x y (z : Int) => ((z, ()), ()))
theorem eq108 (F : Nat) (x : dens cA108) (y : tdens cT108) : sev (E108 F) 0 [([1, 0, 1], lc108_2 F)] (bodyOf Tryd.f108) [] (mkSt (rng 2) cA108 cT108 x y) (kFn (E108 F) 0 Tryd.f108.results.toList cB108 cU108 fun p q => some (p, q)) =
    T108c F x.1 (fun z => some ((z, ()), ())) := by kernel_rfl
theorem ok108 (F : Nat) : Sound Tryd.prog cfg 108 (ct108 F) :=
  mkC_ok (E := E108 F) (lp := [([1, 0, 1], lc108_2 F)]) (code := bodyOf Tryd.f108) Tryd.func108 rfl Tryd.ntmps108 rfl rfl cok (cts108 F) mixed ⟨lo108_2 F, trivial⟩ (by kernel_rfl) (fun x y k => T108c F x.1 k) (fun x y k => T108n F x.1 k) (eq108 F)
end Go.Proofs.YthikoaamigiceaaDoor
/- slices.ContainsFunc[[]kinkeep/api.Ref,kinkeep/api.Ref]: its twin, and that the call does what the twin says. Printed by a program. -/
namespace Go.Proofs.YthikoaamigiceaaDoor
open Go.Tw
set_option linter.unusedSimpArgs false
set_option linter.unusedVariables false
def ord92 : Nat → List (Tag × Nat)
  | _ => []
def al92 : Nat → Option Nat
  | _ => none
def ms92 : Nat → Option (List (Option Tag × Nat × List Nat))
  | _ => none
def E92 (F : Nat) : Ev := ⟨cfg, 9, ctOf [(108, ct108 F)], ord92, ctOf [], al92, ms92⟩
theorem cts92 (F : Nat) : CtsOk Tryd.prog (E92 F) := cts_of (l := [(108, ct108 F)]) (l' := []) rfl rfl ⟨⟨ok108 F, _, Tryd.func108, rfl, rfl⟩, trivial⟩ trivial
def T92c (F : Nat) (p0 : List ((List UInt8) × Int × Int × Unit)) {β : Type} (k : Bool → Option β) : Option β :=
  (Option.bind (T108 F p0) fun z2 => (k (decide ((0 : Int) ≤ z2))))
def T92 (F : Nat) (p0 : List ((List UInt8) × Int × Int × Unit)) : Option (Bool) := T92c F p0 some
theorem T92n (F : Nat) (p0 : List ((List UInt8) × Int × Int × Unit)) {β : Type} (k : Bool → Option β) : T92c F p0 k = (T92 F p0).bind k := by
  simp only [T92, T92c, Option.bind_assoc, cond_bind, Option.bind_some, Option.bind_none, elimS_bind]
@[reducible] def cA92 : List Sh := [(.ro (.pr .s (.pr .i (.pr .i .un)))), (.fn 93 .un .un)]
@[reducible] def cB92 : List Sh := [.bo]
@[reducible] def cT92 : List TSh := []
@[reducible] def cU92 : List TSh := []
def ct92 (F : Nat) : Ct := mkC 0 cA92 cT92 cB92 cU92 (fun x y => T92 F x.1) (fun x y (z : Bool) => ((z, ()), ()))
theorem eq92 (F : Nat) (x : dens cA92) (y : tdens cT92) : sev (E92 F) 0 [] (bodyOf Tryd.f92) [] (mkSt (rng 2) cA92 cT92 x y) (kFn (E92 F) 0 Tryd.f92.results.toList cB92 cU92 fun p q => some (p, q)) =
    T92c F x.1 (fun z => some ((z, ()), ())) := by kernel_rfl
theorem ok92 (F : Nat) : Sound Tryd.prog cfg 92 (ct92 F) :=
  mkC_ok (E := E92 F) (lp := []) (code := bodyOf Tryd.f92) Tryd.func92 rfl Tryd.ntmps92 rfl rfl cok (cts92 F) mixed trivial (by kernel_rfl) (fun x y k => T92c F x.1 k) (fun x y k => T92n F x.1 k) (eq92 F)
end Go.Proofs.YthikoaamigiceaaDoor
/- kinkeep/keyring.validRefs: its twin, and that the call does what the twin says. Printed by a program. -/
namespace Go.Proofs.YthikoaamigiceaaDoor
open Go.Tw
set_option linter.unusedSimpArgs false
set_option linter.unusedVariables false
def ord71 : Nat → List (Tag × Nat)
  | _ => []
def al71 : Nat → Option Nat
  | _ => none
def ms71 : Nat → Option (List (Option Tag × Nat × List Nat))
  | _ => none
def E71 (F : Nat) : Ev := ⟨cfg, 6, ctOf [(92, ct92 F)], ord71, ctOf [], al71, ms71⟩
theorem cts71 (F : Nat) : CtsOk Tryd.prog (E71 F) := cts_of (l := [(92, ct92 F)]) (l' := []) rfl rfl ⟨⟨ok92 F, _, Tryd.func92, rfl, rfl⟩, trivial⟩ trivial
def T71c (F : Nat) (p0 : List ((List UInt8) × Int × Int × Unit)) {β : Type} (k : Bool → Option β) : Option β :=
  (Option.bind (T92 F p0) fun z2 => (k (!z2)))
def T71 (F : Nat) (p0 : List ((List UInt8) × Int × Int × Unit)) : Option (Bool) := T71c F p0 some
theorem T71n (F : Nat) (p0 : List ((List UInt8) × Int × Int × Unit)) {β : Type} (k : Bool → Option β) : T71c F p0 k = (T71 F p0).bind k := by
  simp only [T71, T71c, Option.bind_assoc, cond_bind, Option.bind_some, Option.bind_none, elimS_bind]
@[reducible] def cA71 : List Sh := [(.ro (.pr .s (.pr .i (.pr .i .un))))]
@[reducible] def cB71 : List Sh := [.bo]
@[reducible] def cT71 : List TSh := []
@[reducible] def cU71 : List TSh := []
def ct71 (F : Nat) : Ct := mkC 0 cA71 cT71 cB71 cU71 (fun x y => T71 F x.1) (fun x y (z : Bool) => ((z, ()), ()))
theorem eq71 (F : Nat) (x : dens cA71) (y : tdens cT71) : sev (E71 F) 0 [] (bodyOf Tryd.f71) [] (mkSt (rng 1) cA71 cT71 x y) (kFn (E71 F) 0 Tryd.f71.results.toList cB71 cU71 fun p q => some (p, q)) =
    T71c F x.1 (fun z => some ((z, ()), ())) := by kernel_rfl
theorem ok71 (F : Nat) : Sound Tryd.prog cfg 71 (ct71 F) :=
  mkC_ok (E := E71 F) (lp := []) (code := bodyOf Tryd.f71) Tryd.func71 rfl Tryd.ntmps71 rfl rfl cok (cts71 F) mixed trivial (by kernel_rfl) (fun x y k => T71c F x.1 k) (fun x y k => T71n F x.1 k) (eq71 F)
end Go.Proofs.YthikoaamigiceaaDoor
/- kinkeep/keyring.validStripe: its twin, and that the call does what the twin says. Printed by a program. -/
namespace Go.Proofs.YthikoaamigiceaaDoor
open Go.Tw
set_option linter.unusedSimpArgs false
set_option linter.unusedVariables false
def ord70 : Nat → List (Tag × Nat)
  | _ => []
def al70 : Nat → Option Nat
  | _ => none
def ms70 : Nat → Option (List (Option Tag × Nat × List Nat))
  | _ => none
def E70 (F : Nat) : Ev := ⟨cfg, 38, ctOf [(68, ct68 F), (71, ct71 F)], ord70, ctOf [], al70, ms70⟩
theorem cts70 (F : Nat) : CtsOk Tryd.prog (E70 F) := cts_of (l := [(68, ct68 F), (71, ct71 F)]) (l' := []) rfl rfl ⟨⟨ok68 F, _, Tryd.func68, rfl, rfl⟩, ⟨⟨ok71 F, _, Tryd.func71, rfl, rfl⟩, trivial⟩⟩ trivial
def T70c (F : Nat) (p0 : List UInt8) (p1 : Int) (p2 : Int) (p3 : Int) (p4 : Int) (p5 : List ((List UInt8) × Int × Int × Unit)) {β : Type} (k : Bool → Option β) : Option β :=
  (bif ((p0.length : Int) != (32 : Int)) then (k false) else (Option.bind (T68 F p1 (0 : Int) (1000 : Int)) fun z6 => (bif (!z6) then (k false) else (Option.bind (T68 F p2 (1 : Int) (65536 : Int)) fun z7 => (bif (!z7) then (k false) else (Option.bind (T68 F p3 (1 : Int) (8 : Int)) fun z8 => (bif (!z8) then (k false) else (Option.bind (T68 F p4 (1 : Int) (16 : Int)) fun z9 => (bif (!z9) then (k false) else (bif (decide ((p5.length : Int) ≤ (8 : Int))) then (Option.bind (T71 F p5) fun z10 => (k z10)) else (k false)))))))))))
def T70 (F : Nat) (p0 : List UInt8) (p1 : Int) (p2 : Int) (p3 : Int) (p4 : Int) (p5 : List ((List UInt8) × Int × Int × Unit)) : Option (Bool) := T70c F p0 p1 p2 p3 p4 p5 some
theorem T70n (F : Nat) (p0 : List UInt8) (p1 : Int) (p2 : Int) (p3 : Int) (p4 : Int) (p5 : List ((List UInt8) × Int × Int × Unit)) {β : Type} (k : Bool → Option β) : T70c F p0 p1 p2 p3 p4 p5 k = (T70 F p0 p1 p2 p3 p4 p5).bind k := by
  simp only [T70, T70c, Option.bind_assoc, cond_bind, Option.bind_some, Option.bind_none, elimS_bind]
@[reducible] def cA70 : List Sh := [(.pr .str (.pr .i (.pr .i (.pr .i (.pr .i (.pr (.ro (.pr .s (.pr .i (.pr .i .un)))) .un))))))]
@[reducible] def cB70 : List Sh := [.bo]
@[reducible] def cT70 : List TSh := []
@[reducible] def cU70 : List TSh := []
def ct70 (F : Nat) : Ct := mkC 0 cA70 cT70 cB70 cU70 (fun x y => T70 F x.1.1 x.1.2.1 x.1.2.2.1 x.1.2.2.2.1 x.1.2.2.2.2.1 x.1.2.2.2.2.2.1) (fun x y (z : Bool) => ((z, ()), ()))
theorem eq70 (F : Nat) (x : dens cA70) (y : tdens cT70) : sev (E70 F) 0 [] (bodyOf Tryd.f70) [] (mkSt (rng 1) cA70 cT70 x y) (kFn (E70 F) 0 Tryd.f70.results.toList cB70 cU70 fun p q => some (p, q)) =
    T70c F x.1.1 x.1.2.1 x.1.2.2.1 x.1.2.2.2.1 x.1.2.2.2.2.1 x.1.2.2.2.2.2.1 (fun z => some ((z, ()), ())) := by kernel_rfl
theorem ok70 (F : Nat) : Sound Tryd.prog cfg 70 (ct70 F) :=
  mkC_ok (E := E70 F) (lp := []) (code := bodyOf Tryd.f70) Tryd.func70 rfl Tryd.ntmps70 rfl rfl cok (cts70 F) mixed trivial (by kernel_rfl) (fun x y k => T70c F x.1.1 x.1.2.1 x.1.2.2.1 x.1.2.2.2.1 x.1.2.2.2.2.1 x.1.2.2.2.2.2.1 k) (fun x y k => T70n F x.1.1 x.1.2.1 x.1.2.2.1 x.1.2.2.2.1 x.1.2.2.2.2.1 x.1.2.2.2.2.2.1 k) (eq70 F)
end Go.Proofs.YthikoaamigiceaaDoor
/- kinkeep/keyring.validIndex: its twin, and that the call does what the twin says. Printed by a program. -/
namespace Go.Proofs.YthikoaamigiceaaDoor
open Go.Tw
set_option linter.unusedSimpArgs false
set_option linter.unusedVariables false
def ord39 : Nat → List (Tag × Nat)
  | _ => []
def al39 : Nat → Option Nat
  | _ => none
def ms39 : Nat → Option (List (Option Tag × Nat × List Nat))
  | _ => none
def E39 (F : Nat) : Ev := ⟨cfg, 77, ctOf [(68, ct68 F), (69, ct69 F), (70, ct70 F), (71, ct71 F)], ord39, ctOf [], al39, ms39⟩
theorem cts39 (F : Nat) : CtsOk Tryd.prog (E39 F) := cts_of (l := [(68, ct68 F), (69, ct69 F), (70, ct70 F), (71, ct71 F)]) (l' := []) rfl rfl ⟨⟨ok68 F, _, Tryd.func68, rfl, rfl⟩, ⟨⟨ok69 F, _, Tryd.func69, rfl, rfl⟩, ⟨⟨ok70 F, _, Tryd.func70, rfl, rfl⟩, ⟨⟨ok71 F, _, Tryd.func71, rfl, rfl⟩, trivial⟩⟩⟩⟩ trivial
def L39_4c (F : Nat) (y48 : List Int) (y49 : Int) (y50 : Int) {β : Type} (kA : Int → Option β) (kO : Unit → Option β) (kR : Bool → Option β) : Option β :=
  (bif (decide (y50 < y49)) then (Option.bind (ix y48 y50) fun x59 => (Option.bind (T68 F x59 (0 : Int) (1099511627776 : Int)) fun z60 => (bif (!z60) then (kR false) else (kA (w64 (y50 + (1 : Int))))))) else (kO ()))
def L39_4 (F : Nat) (y48 : List Int) (y49 : Int) (y50 : Int) : Option ((Int) ⊕ ((Unit) ⊕ (Bool))) := L39_4c F y48 y49 y50 (fun s => some (.inl s)) (fun z => some (.inr (.inl z))) (fun z => some (.inr (.inr z)))
theorem L39_4n (F : Nat) (y48 : List Int) (y49 : Int) (y50 : Int) {β : Type} (kA : Int → Option β) (kO : Unit → Option β) (kR : Bool → Option β) : L39_4c F y48 y49 y50 kA kO kR = (L39_4 F y48 y49 y50).bind (elimS kA (elimS kO kR)) := by
  simp only [L39_4, L39_4c, Option.bind_assoc, cond_bind, Option.bind_some, Option.bind_none, elimS_l, elimS_r, elimS_bind]
@[reducible] def sA39_4 : List Sh := [(.pt 0 []), (.ro .i), .i, .i]
@[reducible] def sAp139_4 : List Sh := [(.pt 0 [])]
@[reducible] def sAp239_4 : List Sh := [.bo]
@[reducible] def sT39_4 : List TSh := [.blk 47 (.pr .i (.pr .i (.pr (.ro .i) (.pr (.ro (.pr .i (.pr .i (.pr .i (.pr (.pr .s (.pr .i (.pr .i .un))) (.pr .i (.pr .i (.pr .s (.pr .bo .un))))))))) (.pr (.ro (.pr .s (.pr .i (.pr .i (.pr .i (.pr .i (.pr (.sl (.pr .s (.pr .i (.pr .i .un)))) .un))))))) (.pr (.ro (.pr .s (.pr .i (.pr .i .un)))) .un))))))]
@[reducible] def sTp139_4 : List TSh := [.blk 47 (.pr .i (.pr .i (.pr (.ro .i) (.pr (.ro (.pr .i (.pr .i (.pr .i (.pr (.pr .s (.pr .i (.pr .i .un))) (.pr .i (.pr .i (.pr .s (.pr .bo .un))))))))) (.pr (.ro (.pr .s (.pr .i (.pr .i (.pr .i (.pr .i (.pr (.sl (.pr .s (.pr .i (.pr .i .un)))) .un))))))) (.pr (.ro (.pr .s (.pr .i (.pr .i .un)))) .un))))))]
@[reducible] def sTp239_4 : List TSh := []
def lc39_4 (F : Nat) : Lc := mkR [1, 42, 43, 44] sA39_4 sT39_4 [1] sAp139_4 sTp139_4 [2] sAp239_4 sTp239_4 F (fun x y (s : Int) => L39_4 F x.2.1 x.2.2.1 s) (fun x y => x.2.2.2.1) (fun x y (z : Unit) => (((), ()), ((y.1.1, y.1.2.1, y.1.2.2.1, y.1.2.2.2.1, y.1.2.2.2.2.1, y.1.2.2.2.2.2.1, ()), ()))) (fun x y (z : Bool) => ((z, ()), ()))
theorem le39_4 (F : Nat) (x : dens sA39_4) (y : tdens sT39_4) (s : Int) : sev (E39 F) 0 [] (cAt (bodyOf Tryd.f39) (0 :: 0 :: [1, 0, 1, 1, 1])) (0 :: 0 :: [1, 0, 1, 1, 1]) (mkSt [1, 42, 43, 44] sA39_4 sT39_4 ((), x.2.1, x.2.2.1, s, ()) ((y.1.1, y.1.2.1, y.1.2.2.1, y.1.2.2.2.1, y.1.2.2.2.2.1, y.1.2.2.2.2.2.1, ()), ())) (kLoop 0 [1, 42, 43, 44] sA39_4 sT39_4 [1] sAp139_4 sTp139_4 [2] sAp239_4 sTp239_4 0 (fun x y => some (.inl (x, y))) (fun x y => some (.inr (.inl (x, y)))) (fun x y => some (.inr (.inr (x, y))))) =
    L39_4c (β := Full sA39_4 sT39_4 sAp139_4 sTp139_4 sAp239_4 sTp239_4) F x.2.1 x.2.2.1 s (fun s => some (.inl (((), x.2.1, x.2.2.1, s, ()), ((y.1.1, y.1.2.1, y.1.2.2.1, y.1.2.2.2.1, y.1.2.2.2.2.1, y.1.2.2.2.2.2.1, ()), ())))) (fun z => some (.inr (.inl (((), ()), ((y.1.1, y.1.2.1, y.1.2.2.1, y.1.2.2.2.1, y.1.2.2.2.2.1, y.1.2.2.2.2.2.1, ()), ()))))) (fun z => some (.inr (.inr ((z, ()), ())))) := by kernel_rfl
theorem lo39_4 (F : Nat) : LcOk Tryd.prog (E39 F) 0 (lc39_4 F) (cAt (bodyOf Tryd.f39) [1, 0, 1, 1, 1]) :=
  mkR_ok (lp := []) (id := 0) (b := cAt (bodyOf Tryd.f39) (0 :: 0 :: [1, 0, 1, 1, 1])) cok (cts39 F) mixed trivial (by kernel_rfl) (by kernel_rfl) (fun x y s => ((), x.2.1, x.2.2.1, s, ())) (fun x y s => ((y.1.1, y.1.2.1, y.1.2.2.1, y.1.2.2.2.1, y.1.2.2.2.2.1, y.1.2.2.2.2.2.1, ()), ())) (fun x y => rfl) (fun x y => rfl) (fun x y s kA kO kR => L39_4c F x.2.1 x.2.2.1 s kA kO kR) (fun x y s kA kO kR => L39_4n F x.2.1 x.2.2.1 s kA kO kR) (le39_4 F)
def L39_5c (F : Nat) (y62 : List (Int × Int × Int × ((List UInt8) × Int × Int × Unit) × Int × Int × (List UInt8) × Bool × Unit)) (y63 : Int) (y64 : Int) {β : Type} (kA : Int → Option β) (kO : Unit → Option β) (kR : Bool → Option β) : Option β :=
  (bif (decide (y64 < y63)) then (Option.bind (ix y62 y64) fun x73 => (Option.bind (T69 F x73.1 x73.2.1 x73.2.2.1 x73.2.2.2.1.1 x73.2.2.2.1.2.1 x73.2.2.2.1.2.2.1 x73.2.2.2.2.1 x73.2.2.2.2.2.1 x73.2.2.2.2.2.2.1) fun z74 => (bif (!z74) then (kR false) else (kA (w64 (y64 + (1 : Int))))))) else (kO ()))
def L39_5 (F : Nat) (y62 : List (Int × Int × Int × ((List UInt8) × Int × Int × Unit) × Int × Int × (List UInt8) × Bool × Unit)) (y63 : Int) (y64 : Int) : Option ((Int) ⊕ ((Unit) ⊕ (Bool))) := L39_5c F y62 y63 y64 (fun s => some (.inl s)) (fun z => some (.inr (.inl z))) (fun z => some (.inr (.inr z)))
theorem L39_5n (F : Nat) (y62 : List (Int × Int × Int × ((List UInt8) × Int × Int × Unit) × Int × Int × (List UInt8) × Bool × Unit)) (y63 : Int) (y64 : Int) {β : Type} (kA : Int → Option β) (kO : Unit → Option β) (kR : Bool → Option β) : L39_5c F y62 y63 y64 kA kO kR = (L39_5 F y62 y63 y64).bind (elimS kA (elimS kO kR)) := by
  simp only [L39_5, L39_5c, Option.bind_assoc, cond_bind, Option.bind_some, Option.bind_none, elimS_l, elimS_r, elimS_bind]
@[reducible] def sA39_5 : List Sh := [(.pt 0 []), (.ro (.pr .i (.pr .i (.pr .i (.pr (.pr .s (.pr .i (.pr .i .un))) (.pr .i (.pr .i (.pr .s (.pr .bo .un))))))))), .i, .i]
@[reducible] def sAp139_5 : List Sh := [(.pt 0 [])]
@[reducible] def sAp239_5 : List Sh := [.bo]
@[reducible] def sT39_5 : List TSh := [.blk 47 (.pr .i (.pr .i (.pr (.ro .i) (.pr (.ro (.pr .i (.pr .i (.pr .i (.pr (.pr .s (.pr .i (.pr .i .un))) (.pr .i (.pr .i (.pr .s (.pr .bo .un))))))))) (.pr (.ro (.pr .s (.pr .i (.pr .i (.pr .i (.pr .i (.pr (.sl (.pr .s (.pr .i (.pr .i .un)))) .un))))))) (.pr (.ro (.pr .s (.pr .i (.pr .i .un)))) .un))))))]
@[reducible] def sTp139_5 : List TSh := [.blk 47 (.pr .i (.pr .i (.pr (.ro .i) (.pr (.ro (.pr .i (.pr .i (.pr .i (.pr (.pr .s (.pr .i (.pr .i .un))) (.pr .i (.pr .i (.pr .s (.pr .bo .un))))))))) (.pr (.ro (.pr .s (.pr .i (.pr .i (.pr .i (.pr .i (.pr (.sl (.pr .s (.pr .i (.pr .i .un)))) .un))))))) (.pr (.ro (.pr .s (.pr .i (.pr .i .un)))) .un))))))]
@[reducible] def sTp239_5 : List TSh := []
def lc39_5 (F : Nat) : Lc := mkR [1, 53, 54, 55] sA39_5 sT39_5 [1] sAp139_5 sTp139_5 [2] sAp239_5 sTp239_5 F (fun x y (s : Int) => L39_5 F x.2.1 x.2.2.1 s) (fun x y => x.2.2.2.1) (fun x y (z : Unit) => (((), ()), ((y.1.1, y.1.2.1, y.1.2.2.1, y.1.2.2.2.1, y.1.2.2.2.2.1, y.1.2.2.2.2.2.1, ()), ()))) (fun x y (z : Bool) => ((z, ()), ()))
theorem le39_5 (F : Nat) (x : dens sA39_5) (y : tdens sT39_5) (s : Int) : sev (E39 F) 0 [] (cAt (bodyOf Tryd.f39) (0 :: 0 :: [1, 0, 1, 1, 1, 1])) (0 :: 0 :: [1, 0, 1, 1, 1, 1]) (mkSt [1, 53, 54, 55] sA39_5 sT39_5 ((), x.2.1, x.2.2.1, s, ()) ((y.1.1, y.1.2.1, y.1.2.2.1, y.1.2.2.2.1, y.1.2.2.2.2.1, y.1.2.2.2.2.2.1, ()), ())) (kLoop 0 [1, 53, 54, 55] sA39_5 sT39_5 [1] sAp139_5 sTp139_5 [2] sAp239_5 sTp239_5 2 (fun x y => some (.inl (x, y))) (fun x y => some (.inr (.inl (x, y)))) (fun x y => some (.inr (.inr (x, y))))) =
    L39_5c (β := Full sA39_5 sT39_5 sAp139_5 sTp139_5 sAp239_5 sTp239_5) F x.2.1 x.2.2.1 s (fun s => some (.inl (((), x.2.1, x.2.2.1, s, ()), ((y.1.1, y.1.2.1, y.1.2.2.1, y.1.2.2.2.1, y.1.2.2.2.2.1, y.1.2.2.2.2.2.1, ()), ())))) (fun z => some (.inr (.inl (((), ()), ((y.1.1, y.1.2.1, y.1.2.2.1, y.1.2.2.2.1, y.1.2.2.2.2.1, y.1.2.2.2.2.2.1, ()), ()))))) (fun z => some (.inr (.inr ((z, ()), ())))) := by kernel_rfl
theorem lo39_5 (F : Nat) : LcOk Tryd.prog (E39 F) 0 (lc39_5 F) (cAt (bodyOf Tryd.f39) [1, 0, 1, 1, 1, 1]) :=
  mkR_ok (lp := []) (id := 2) (b := cAt (bodyOf Tryd.f39) (0 :: 0 :: [1, 0, 1, 1, 1, 1])) cok (cts39 F) mixed trivial (by kernel_rfl) (by kernel_rfl) (fun x y s => ((), x.2.1, x.2.2.1, s, ())) (fun x y s => ((y.1.1, y.1.2.1, y.1.2.2.1, y.1.2.2.2.1, y.1.2.2.2.2.1, y.1.2.2.2.2.2.1, ()), ())) (fun x y => rfl) (fun x y => rfl) (fun x y s kA kO kR => L39_5c F x.2.1 x.2.2.1 s kA kO kR) (fun x y s kA kO kR => L39_5n F x.2.1 x.2.2.1 s kA kO kR) (le39_5 F)
def L39_6c (F : Nat) (y76 : List ((List UInt8) × Int × Int × Int × Int × (List ((List UInt8) × Int × Int × Unit)) × Unit)) (y77 : Int) (y78 : Int) {β : Type} (kA : Int → Option β) (kO : Unit → Option β) (kR : Bool → Option β) : Option β :=
  (bif (decide (y78 < y77)) then (Option.bind (ix y76 y78) fun x87 => (Option.bind (T70 F x87.1 x87.2.1 x87.2.2.1 x87.2.2.2.1 x87.2.2.2.2.1 x87.2.2.2.2.2.1) fun z88 => (bif (!z88) then (kR false) else (kA (w64 (y78 + (1 : Int))))))) else (kO ()))
def L39_6 (F : Nat) (y76 : List ((List UInt8) × Int × Int × Int × Int × (List ((List UInt8) × Int × Int × Unit)) × Unit)) (y77 : Int) (y78 : Int) : Option ((Int) ⊕ ((Unit) ⊕ (Bool))) := L39_6c F y76 y77 y78 (fun s => some (.inl s)) (fun z => some (.inr (.inl z))) (fun z => some (.inr (.inr z)))
theorem L39_6n (F : Nat) (y76 : List ((List UInt8) × Int × Int × Int × Int × (List ((List UInt8) × Int × Int × Unit)) × Unit)) (y77 : Int) (y78 : Int) {β : Type} (kA : Int → Option β) (kO : Unit → Option β) (kR : Bool → Option β) : L39_6c F y76 y77 y78 kA kO kR = (L39_6 F y76 y77 y78).bind (elimS kA (elimS kO kR)) := by
  simp only [L39_6, L39_6c, Option.bind_assoc, cond_bind, Option.bind_some, Option.bind_none, elimS_l, elimS_r, elimS_bind]
@[reducible] def sA39_6 : List Sh := [(.pt 0 []), (.ro (.pr .s (.pr .i (.pr .i (.pr .i (.pr .i (.pr (.sl (.pr .s (.pr .i (.pr .i .un)))) .un))))))), .i, .i]
@[reducible] def sAp139_6 : List Sh := [(.pt 0 [])]
@[reducible] def sAp239_6 : List Sh := [.bo]
@[reducible] def sT39_6 : List TSh := [.blk 47 (.pr .i (.pr .i (.pr (.ro .i) (.pr (.ro (.pr .i (.pr .i (.pr .i (.pr (.pr .s (.pr .i (.pr .i .un))) (.pr .i (.pr .i (.pr .s (.pr .bo .un))))))))) (.pr (.ro (.pr .s (.pr .i (.pr .i (.pr .i (.pr .i (.pr (.sl (.pr .s (.pr .i (.pr .i .un)))) .un))))))) (.pr (.ro (.pr .s (.pr .i (.pr .i .un)))) .un))))))]
@[reducible] def sTp139_6 : List TSh := [.blk 47 (.pr .i (.pr .i (.pr (.ro .i) (.pr (.ro (.pr .i (.pr .i (.pr .i (.pr (.pr .s (.pr .i (.pr .i .un))) (.pr .i (.pr .i (.pr .s (.pr .bo .un))))))))) (.pr (.ro (.pr .s (.pr .i (.pr .i (.pr .i (.pr .i (.pr (.sl (.pr .s (.pr .i (.pr .i .un)))) .un))))))) (.pr (.ro (.pr .s (.pr .i (.pr .i .un)))) .un))))))]
@[reducible] def sTp239_6 : List TSh := []
def lc39_6 (F : Nat) : Lc := mkR [1, 64, 65, 66] sA39_6 sT39_6 [1] sAp139_6 sTp139_6 [2] sAp239_6 sTp239_6 F (fun x y (s : Int) => L39_6 F x.2.1 x.2.2.1 s) (fun x y => x.2.2.2.1) (fun x y (z : Unit) => (((), ()), ((y.1.1, y.1.2.1, y.1.2.2.1, y.1.2.2.2.1, y.1.2.2.2.2.1, y.1.2.2.2.2.2.1, ()), ()))) (fun x y (z : Bool) => ((z, ()), ()))
theorem le39_6 (F : Nat) (x : dens sA39_6) (y : tdens sT39_6) (s : Int) : sev (E39 F) 0 [] (cAt (bodyOf Tryd.f39) (0 :: 0 :: [1, 0, 1, 1, 1, 1, 1])) (0 :: 0 :: [1, 0, 1, 1, 1, 1, 1]) (mkSt [1, 64, 65, 66] sA39_6 sT39_6 ((), x.2.1, x.2.2.1, s, ()) ((y.1.1, y.1.2.1, y.1.2.2.1, y.1.2.2.2.1, y.1.2.2.2.2.1, y.1.2.2.2.2.2.1, ()), ())) (kLoop 0 [1, 64, 65, 66] sA39_6 sT39_6 [1] sAp139_6 sTp139_6 [2] sAp239_6 sTp239_6 4 (fun x y => some (.inl (x, y))) (fun x y => some (.inr (.inl (x, y)))) (fun x y => some (.inr (.inr (x, y))))) =
    L39_6c (β := Full sA39_6 sT39_6 sAp139_6 sTp139_6 sAp239_6 sTp239_6) F x.2.1 x.2.2.1 s (fun s => some (.inl (((), x.2.1, x.2.2.1, s, ()), ((y.1.1, y.1.2.1, y.1.2.2.1, y.1.2.2.2.1, y.1.2.2.2.2.1, y.1.2.2.2.2.2.1, ()), ())))) (fun z => some (.inr (.inl (((), ()), ((y.1.1, y.1.2.1, y.1.2.2.1, y.1.2.2.2.1, y.1.2.2.2.2.1, y.1.2.2.2.2.2.1, ()), ()))))) (fun z => some (.inr (.inr ((z, ()), ())))) := by kernel_rfl
theorem lo39_6 (F : Nat) : LcOk Tryd.prog (E39 F) 0 (lc39_6 F) (cAt (bodyOf Tryd.f39) [1, 0, 1, 1, 1, 1, 1]) :=
  mkR_ok (lp := []) (id := 4) (b := cAt (bodyOf Tryd.f39) (0 :: 0 :: [1, 0, 1, 1, 1, 1, 1])) cok (cts39 F) mixed trivial (by kernel_rfl) (by kernel_rfl) (fun x y s => ((), x.2.1, x.2.2.1, s, ())) (fun x y s => ((y.1.1, y.1.2.1, y.1.2.2.1, y.1.2.2.2.1, y.1.2.2.2.2.1, y.1.2.2.2.2.2.1, ()), ())) (fun x y => rfl) (fun x y => rfl) (fun x y s kA kO kR => L39_6c F x.2.1 x.2.2.1 s kA kO kR) (fun x y s kA kO kR => L39_6n F x.2.1 x.2.2.1 s kA kO kR) (le39_6 F)
def T39c (F : Nat) (p0 : Int) (p1 : Int) (p2 : List Int) (p3 : List (Int × Int × Int × ((List UInt8) × Int × Int × Unit) × Int × Int × (List UInt8) × Bool × Unit)) (p4 : List ((List UInt8) × Int × Int × Int × Int × (List ((List UInt8) × Int × Int × Unit)) × Unit)) (p5 : List ((List UInt8) × Int × Int × Unit)) {β : Type} (k : Bool → Option β) : Option β :=
  (Option.bind (T68 F p0 (0 : Int) (1000 : Int)) fun z46 => (bif (!z46) then (k false) else (Option.bind (T68 F p1 (0 : Int) (1000 : Int)) fun z47 => (bif (!z47) then (k false) else (bif (decide ((12 : Int) < (p2.length : Int))) then (k false) else (bif (decide ((4096 : Int) < (p3.length : Int))) then (k false) else (bif (decide ((4096 : Int) < (p4.length : Int))) then (k false) else (bif (decide ((4096 : Int) < (p5.length : Int))) then (k false) else (Option.bind (iter (fun s => L39_4 F p2 (p2.length : Int) s) F (0 : Int)) fun z61 => elimS (fun z61 => (Option.bind (iter (fun s => L39_5 F p3 (p3.length : Int) s) F (0 : Int)) fun z75 => elimS (fun z75 => (Option.bind (iter (fun s => L39_6 F p4 (p4.length : Int) s) F (0 : Int)) fun z89 => elimS (fun z89 => (Option.bind (T71 F p5) fun z90 => (k z90))) (fun z89 => (k z89)) z89)) (fun z75 => (k z75)) z75)) (fun z61 => (k z61)) z61)))))))))
def T39 (F : Nat) (p0 : Int) (p1 : Int) (p2 : List Int) (p3 : List (Int × Int × Int × ((List UInt8) × Int × Int × Unit) × Int × Int × (List UInt8) × Bool × Unit)) (p4 : List ((List UInt8) × Int × Int × Int × Int × (List ((List UInt8) × Int × Int × Unit)) × Unit)) (p5 : List ((List UInt8) × Int × Int × Unit)) : Option (Bool) := T39c F p0 p1 p2 p3 p4 p5 some
theorem T39n (F : Nat) (p0 : Int) (p1 : Int) (p2 : List Int) (p3 : List (Int × Int × Int × ((List UInt8) × Int × Int × Unit) × Int × Int × (List UInt8) × Bool × Unit)) (p4 : List ((List UInt8) × Int × Int × Int × Int × (List ((List UInt8) × Int × Int × Unit)) × Unit)) (p5 : List ((List UInt8) × Int × Int × Unit)) {β : Type} (k : Bool → Option β) : T39c F p0 p1 p2 p3 p4 p5 k = (T39 F p0 p1 p2 p3 p4 p5).bind k := by
  simp only [T39, T39c, Option.bind_assoc, cond_bind, Option.bind_some, Option.bind_none, elimS_bind]
@[reducible] def cA39 : List Sh := [(.pr .i (.pr .i (.pr (.ro .i) (.pr (.ro (.pr .i (.pr .i (.pr .i (.pr (.pr .s (.pr .i (.pr .i .un))) (.pr .i (.pr .i (.pr .s (.pr .bo .un))))))))) (.pr (.ro (.pr .s (.pr .i (.pr .i (.pr .i (.pr .i (.pr (.sl (.pr .s (.pr .i (.pr .i .un)))) .un))))))) (.pr (.ro (.pr .s (.pr .i (.pr .i .un)))) .un))))))]
@[reducible] def cB39 : List Sh := [.bo]
@[reducible] def cT39 : List TSh := []
@[reducible] def cU39 : List TSh := []
def ct39 (F : Nat) : Ct := mkC 0 cA39 cT39 cB39 cU39 (fun x y => T39 F x.1.1 x.1.2.1 x.1.2.2.1 x.1.2.2.2.1 x.1.2.2.2.2.1 x.1.2.2.2.2.2.1) (fun x y (z : Bool) => ((z, ()), ()))
theorem eq39 (F : Nat) (x : dens cA39) (y : tdens cT39) : sev (E39 F) 0 [([1, 0, 1, 1, 1], lc39_4 F), ([1, 0, 1, 1, 1, 1], lc39_5 F), ([1, 0, 1, 1, 1, 1, 1], lc39_6 F)] (bodyOf Tryd.f39) [] (mkSt (rng 1) cA39 cT39 x y) (kFn (E39 F) 0 Tryd.f39.results.toList cB39 cU39 fun p q => some (p, q)) =
    T39c F x.1.1 x.1.2.1 x.1.2.2.1 x.1.2.2.2.1 x.1.2.2.2.2.1 x.1.2.2.2.2.2.1 (fun z => some ((z, ()), ())) := by kernel_rfl
theorem ok39 (F : Nat) : Sound Tryd.prog cfg 39 (ct39 F) :=
  mkC_ok (E := E39 F) (lp := [([1, 0, 1, 1, 1], lc39_4 F), ([1, 0, 1, 1, 1, 1], lc39_5 F), ([1, 0, 1, 1, 1, 1, 1], lc39_6 F)]) (code := bodyOf Tryd.f39) Tryd.func39 rfl Tryd.ntmps39 rfl rfl cok (cts39 F) mixed ⟨lo39_4 F, ⟨lo39_5 F, ⟨lo39_6 F, trivial⟩⟩⟩ (by kernel_rfl) (fun x y k => T39c F x.1.1 x.1.2.1 x.1.2.2.1 x.1.2.2.2.1 x.1.2.2.2.2.1 x.1.2.2.2.2.2.1 k) (fun x y k => T39n F x.1.1 x.1.2.1 x.1.2.2.1 x.1.2.2.2.1 x.1.2.2.2.2.1 x.1.2.2.2.2.2.1 k) (eq39 F)
end Go.Proofs.YthikoaamigiceaaDoor
/- kinkeep/wire.NewWriter: its twin, and that the call does what the twin says. Printed by a program. -/
namespace Go.Proofs.YthikoaamigiceaaDoor
open Go.Tw
set_option linter.unusedSimpArgs false
set_option linter.unusedVariables false
def ord40 : Nat → List (Tag × Nat)
  | _ => []
def al40 : Nat → Option Nat
  | _ => none
def ms40 : Nat → Option (List (Option Tag × Nat × List Nat))
  | _ => none
def E40 (F : Nat) : Ev := ⟨cfg, 3, ctOf [], ord40, ctOf [], al40, ms40⟩
theorem cts40 (F : Nat) : CtsOk Tryd.prog (E40 F) := cts_of (l := []) (l' := []) rfl rfl trivial trivial
def T40c (F : Nat) {β : Type} (k : Int → Option β) : Option β :=
  (k (0 : Int))
def T40 (F : Nat) : Option (Int) := T40c F some
theorem T40n (F : Nat) {β : Type} (k : Int → Option β) : T40c F k = (T40 F).bind k := by
  simp only [T40, T40c, Option.bind_assoc, cond_bind, Option.bind_some, Option.bind_none, elimS_bind]
@[reducible] def cA40 : List Sh := []
@[reducible] def cB40 : List Sh := [(.pt 0 [])]
@[reducible] def cT40 : List TSh := []
@[reducible] def cU40 : List TSh := [.blk 112 (.pr .ns (.pr .i .un))]
def ct40 (F : Nat) : Ct := mkC 0 cA40 cT40 cB40 cU40 (fun x y => T40 F) (fun x y (z : Int) => (((), ()), (((), z, ()), ())))
theorem eq40 (F : Nat) (x : dens cA40) (y : tdens cT40) : sev (E40 F) 0 [] (bodyOf Tryd.f40) [] (mkSt (rng 0) cA40 cT40 x y) (kFn (E40 F) 0 Tryd.f40.results.toList cB40 cU40 fun p q => some (p, q)) =
    T40c F (fun z => some (((), ()), (((), z, ()), ()))) := by kernel_rfl
theorem ok40 (F : Nat) : Sound Tryd.prog cfg 40 (ct40 F) :=
  mkC_ok (E := E40 F) (lp := []) (code := bodyOf Tryd.f40) Tryd.func40 rfl Tryd.ntmps40 rfl rfl cok (cts40 F) mixed trivial (by kernel_rfl) (fun x y k => T40c F k) (fun x y k => T40n F k) (eq40 F)
end Go.Proofs.YthikoaamigiceaaDoor
/- kinkeep/wire.Zigzag: its twin, and that the call does what the twin says. Printed by a program. -/
namespace Go.Proofs.YthikoaamigiceaaDoor
open Go.Tw
set_option linter.unusedSimpArgs false
set_option linter.unusedVariables false
def ord74 : Nat → List (Tag × Nat)
  | _ => []
def al74 : Nat → Option Nat
  | _ => none
def ms74 : Nat → Option (List (Option Tag × Nat × List Nat))
  | _ => none
def E74 (F : Nat) : Ev := ⟨cfg, 14, ctOf [], ord74, ctOf [], al74, ms74⟩
theorem cts74 (F : Nat) : CtsOk Tryd.prog (E74 F) := cts_of (l := []) (l' := []) rfl rfl trivial trivial
def T74c (F : Nat) (p0 : Int) {β : Type} (k : UInt64 → Option β) : Option β :=
  (bif (decide (p0 < (0 : Int))) then (k (((UInt64.ofInt (w64 (0 - (w64 (p0 + (1 : Int)))))) * (UInt64.ofNat 2)) + (UInt64.ofNat 1))) else (k ((UInt64.ofInt p0) * (UInt64.ofNat 2))))
def T74 (F : Nat) (p0 : Int) : Option (UInt64) := T74c F p0 some
theorem T74n (F : Nat) (p0 : Int) {β : Type} (k : UInt64 → Option β) : T74c F p0 k = (T74 F p0).bind k := by
  simp only [T74, T74c, Option.bind_assoc, cond_bind, Option.bind_some, Option.bind_none, elimS_bind]
@[reducible] def cA74 : List Sh := [.i]
@[reducible] def cB74 : List Sh := [.u64]
@[reducible] def cT74 : List TSh := []
@[reducible] def cU74 : List TSh := []
def ct74 (F : Nat) : Ct := mkC 0 cA74 cT74 cB74 cU74 (fun x y => T74 F x.1) (fun x y (z : UInt64) => ((z, ()), ()))
theorem eq74 (F : Nat) (x : dens cA74) (y : tdens cT74) : sev (E74 F) 0 [] (bodyOf Tryd.f74) [] (mkSt (rng 1) cA74 cT74 x y) (kFn (E74 F) 0 Tryd.f74.results.toList cB74 cU74 fun p q => some (p, q)) =
    T74c F x.1 (fun z => some ((z, ()), ())) := by kernel_rfl
theorem ok74 (F : Nat) : Sound Tryd.prog cfg 74 (ct74 F) :=
  mkC_ok (E := E74 F) (lp := []) (code := bodyOf Tryd.f74) Tryd.func74 rfl Tryd.ntmps74 rfl rfl cok (cts74 F) mixed trivial (by kernel_rfl) (fun x y k => T74c F x.1 k) (fun x y k => T74n F x.1 k) (eq74 F)
end Go.Proofs.YthikoaamigiceaaDoor
/- kinkeep/wire.extend: its twin, and that the call does what the twin says. Printed by a program. -/
namespace Go.Proofs.YthikoaamigiceaaDoor
open Go.Tw
set_option linter.unusedSimpArgs false
set_option linter.unusedVariables false
def ord75 : Nat → List (Tag × Nat)
  | _ => []
def al75 : Nat → Option Nat
  | _ => none
def ms75 : Nat → Option (List (Option Tag × Nat × List Nat))
  | _ => none
def E75 (F : Nat) : Ev := ⟨cfg, 20, ctOf [], ord75, ctOf [], al75, ms75⟩
theorem cts75 (F : Nat) : CtsOk Tryd.prog (E75 F) := cts_of (l := []) (l' := []) rfl rfl trivial trivial
def L75_2c (F : Nat) (y7 : UInt64) (y8 : List UInt8) {β : Type} (kA : (UInt64 × (List UInt8)) → Option β) (kO : (UInt64 × (List UInt8)) → Option β) : Option β :=
  (bif (decide ((UInt64.ofNat 128) ≤ y7)) then (Option.bind (gapp y8 ([((y7.toUInt8) ||| (UInt8.ofNat 128))] : List UInt8)) fun x10 => (kA ((shr64 y7 ((UInt64.ofNat 7).toNat)), x10))) else (kO (y7, y8)))
def L75_2 (F : Nat) (y7 : UInt64) (y8 : List UInt8) : Option ((UInt64 × (List UInt8)) ⊕ (UInt64 × (List UInt8))) := L75_2c F y7 y8 (fun s => some (.inl s)) (fun z => some (.inr z))
theorem L75_2n (F : Nat) (y7 : UInt64) (y8 : List UInt8) {β : Type} (kA : (UInt64 × (List UInt8)) → Option β) (kO : (UInt64 × (List UInt8)) → Option β) : L75_2c F y7 y8 kA kO = (L75_2 F y7 y8).bind (elimS kA kO) := by
  simp only [L75_2, L75_2c, Option.bind_assoc, cond_bind, Option.bind_some, Option.bind_none, elimS_l, elimS_r, elimS_bind]
@[reducible] def sA75_2 : List Sh := [(.rw 0), .u64]
@[reducible] def sAp175_2 : List Sh := [(.rw 0), .u64]
@[reducible] def sT75_2 : List TSh := [.row 5 .u8]
@[reducible] def sTp175_2 : List TSh := [.row 5 .u8]
def lc75_2 (F : Nat) : Lc := mkL [0, 1] sA75_2 sT75_2 [0, 1] sAp175_2 sTp175_2 F (fun x y (s : UInt64 × (List UInt8)) => L75_2 F s.1 s.2) (fun x y => (x.2.1, y.1)) (fun x y (z : UInt64 × (List UInt8)) => (((), z.1, ()), (z.2, ())))
theorem le75_2 (F : Nat) (x : dens sA75_2) (y : tdens sT75_2) (s : UInt64 × (List UInt8)) : sev (E75 F) 0 [] (cAt (bodyOf Tryd.f75) (0 :: 0 :: [0, 1])) (0 :: 0 :: [0, 1]) (mkSt [0, 1] sA75_2 sT75_2 ((), s.1, ()) (s.2, ())) (kLoop 0 [0, 1] sA75_2 sT75_2 [0, 1] sAp175_2 sTp175_2 [] [] [] 0 (fun x y => some (.inl (x, y))) (fun x y => some (.inr (.inl (x, y)))) (fun x y => some (.inr (.inr (x, y))))) =
    L75_2c (β := Full sA75_2 sT75_2 sAp175_2 sTp175_2 [] []) F s.1 s.2 (fun s => some (.inl (((), s.1, ()), (s.2, ())))) (fun z => some (.inr (.inl (((), z.1, ()), (z.2, ()))))) := by kernel_rfl
theorem lo75_2 (F : Nat) : LcOk Tryd.prog (E75 F) 0 (lc75_2 F) (cAt (bodyOf Tryd.f75) [0, 1]) :=
  mkL_ok (lp := []) (id := 0) (b := cAt (bodyOf Tryd.f75) (0 :: 0 :: [0, 1])) cok (cts75 F) mixed trivial (by kernel_rfl) (by kernel_rfl) (fun x y s => ((), s.1, ())) (fun x y s => (s.2, ())) (fun x y => rfl) (fun x y => rfl) (fun x y s kA kO => L75_2c F s.1 s.2 kA kO) (fun x y s kA kO => L75_2n F s.1 s.2 kA kO) (le75_2 F)
def T75c (F : Nat) (p0 : UInt64) (p1 : List UInt8) {β : Type} (k : ((List UInt8)) → Option β) : Option β :=
  (Option.bind (iter (fun s => L75_2 F s.1 s.2) F (p0, p1)) fun z11 => (Option.bind (gapp z11.2 ([(z11.1.toUInt8)] : List UInt8)) fun x12 => (k x12)))
def T75 (F : Nat) (p0 : UInt64) (p1 : List UInt8) : Option ((List UInt8)) := T75c F p0 p1 some
theorem T75n (F : Nat) (p0 : UInt64) (p1 : List UInt8) {β : Type} (k : ((List UInt8)) → Option β) : T75c F p0 p1 k = (T75 F p0 p1).bind k := by
  simp only [T75, T75c, Option.bind_assoc, cond_bind, Option.bind_some, Option.bind_none, elimS_bind]
@[reducible] def cA75 : List Sh := [(.rw 0), .u64]
@[reducible] def cB75 : List Sh := [(.rw 0)]
@[reducible] def cT75 : List TSh := [.row 5 .u8]
@[reducible] def cU75 : List TSh := [.row 5 .u8]
def ct75 (F : Nat) : Ct := mkC 0 cA75 cT75 cB75 cU75 (fun x y => T75 F x.2.1 y.1) (fun x y (z : (List UInt8)) => (((), ()), (z, ())))
theorem eq75 (F : Nat) (x : dens cA75) (y : tdens cT75) : sev (E75 F) 0 [([0, 1], lc75_2 F)] (bodyOf Tryd.f75) [] (mkSt (rng 2) cA75 cT75 x y) (kFn (E75 F) 0 Tryd.f75.results.toList cB75 cU75 fun p q => some (p, q)) =
    T75c F x.2.1 y.1 (fun z => some (((), ()), (z, ()))) := by kernel_rfl
theorem ok75 (F : Nat) : Sound Tryd.prog cfg 75 (ct75 F) :=
  mkC_ok (E := E75 F) (lp := [([0, 1], lc75_2 F)]) (code := bodyOf Tryd.f75) Tryd.func75 rfl Tryd.ntmps75 rfl rfl cok (cts75 F) mixed ⟨lo75_2 F, trivial⟩ (by kernel_rfl) (fun x y k => T75c F x.2.1 y.1 k) (fun x y k => T75n F x.2.1 y.1 k) (eq75 F)
end Go.Proofs.YthikoaamigiceaaDoor
/- (*kinkeep/wire.Writer).Uint: its twin, and that the call does what the twin says. Printed by a program. -/
namespace Go.Proofs.YthikoaamigiceaaDoor
open Go.Tw
set_option linter.unusedSimpArgs false
set_option linter.unusedVariables false
def ord73 : Nat → List (Tag × Nat)
  | _ => []
def al73 : Nat → Option Nat
  | _ => none
def ms73 : Nat → Option (List (Option Tag × Nat × List Nat))
  | _ => none
def E73 (F : Nat) : Ev := ⟨cfg, 18, ctOf [(75, ct75 F)], ord73, ctOf [], al73, ms73⟩
theorem cts73 (F : Nat) : CtsOk Tryd.prog (E73 F) := cts_of (l := [(75, ct75 F)]) (l' := []) rfl rfl ⟨⟨ok75 F, _, Tryd.func75, rfl, rfl⟩, trivial⟩ trivial
def T73c (F : Nat) (p0 : UInt64) (p1 : Int) {β : Type} (k : ((List UInt8)) → Option β) : Option β :=
  (bif (p1 == (0 : Int)) then (Option.bind (T75 F p0 ([] : List UInt8)) fun z2 => (k z2)) else (k ([] : List UInt8)))
def T73 (F : Nat) (p0 : UInt64) (p1 : Int) : Option ((List UInt8)) := T73c F p0 p1 some
theorem T73n (F : Nat) (p0 : UInt64) (p1 : Int) {β : Type} (k : ((List UInt8)) → Option β) : T73c F p0 p1 k = (T73 F p0 p1).bind k := by
  simp only [T73, T73c, Option.bind_assoc, cond_bind, Option.bind_some, Option.bind_none, elimS_bind]
@[reducible] def cA73 : List Sh := [(.pt 0 []), .u64]
@[reducible] def cB73 : List Sh := []
@[reducible] def cT73 : List TSh := [.blk 112 (.pr .ns (.pr .i .un))]
@[reducible] def cU73 : List TSh := [.blk 112 (.pr (.rw 1) (.pr .i .un)), .row 5 .u8]
def ct73 (F : Nat) : Ct := mkC 1 cA73 cT73 cB73 cU73 (fun x y => T73 F x.2.1 y.1.2.1) (fun x y (z : (List UInt8)) => ((), (((), y.1.2.1, ()), z, ())))
theorem eq73 (F : Nat) (x : dens cA73) (y : tdens cT73) : sev (E73 F) 1 [] (bodyOf Tryd.f73) [] (mkSt (rng 2) cA73 cT73 x y) (kFn (E73 F) 1 Tryd.f73.results.toList cB73 cU73 fun p q => some (p, q)) =
    T73c F x.2.1 y.1.2.1 (fun z => some ((), (((), y.1.2.1, ()), z, ()))) := by kernel_rfl
theorem ok73 (F : Nat) : Sound Tryd.prog cfg 73 (ct73 F) :=
  mkC_ok (E := E73 F) (lp := []) (code := bodyOf Tryd.f73) Tryd.func73 rfl Tryd.ntmps73 rfl rfl cok (cts73 F) mixed trivial (by kernel_rfl) (fun x y k => T73c F x.2.1 y.1.2.1 k) (fun x y k => T73n F x.2.1 y.1.2.1 k) (eq73 F)
end Go.Proofs.YthikoaamigiceaaDoor
/- (*kinkeep/wire.Writer).Int: its twin, and that the call does what the twin says. Printed by a program. -/
namespace Go.Proofs.YthikoaamigiceaaDoor
open Go.Tw
set_option linter.unusedSimpArgs false
set_option linter.unusedVariables false
def ord44 : Nat → List (Tag × Nat)
  | _ => []
def al44 : Nat → Option Nat
  | _ => none
def ms44 : Nat → Option (List (Option Tag × Nat × List Nat))
  | _ => none
def E44 (F : Nat) : Ev := ⟨cfg, 8, ctOf [(74, ct74 F), (73, ct73 F)], ord44, ctOf [], al44, ms44⟩
theorem cts44 (F : Nat) : CtsOk Tryd.prog (E44 F) := cts_of (l := [(74, ct74 F), (73, ct73 F)]) (l' := []) rfl rfl ⟨⟨ok74 F, _, Tryd.func74, rfl, rfl⟩, ⟨⟨ok73 F, _, Tryd.func73, rfl, rfl⟩, trivial⟩⟩ trivial
def T44c (F : Nat) (p0 : Int) (p1 : Int) {β : Type} (k : ((List UInt8)) → Option β) : Option β :=
  (Option.bind (T74 F p0) fun z3 => (Option.bind (T73 F z3 p1) fun z4 => (k z4)))
def T44 (F : Nat) (p0 : Int) (p1 : Int) : Option ((List UInt8)) := T44c F p0 p1 some
theorem T44n (F : Nat) (p0 : Int) (p1 : Int) {β : Type} (k : ((List UInt8)) → Option β) : T44c F p0 p1 k = (T44 F p0 p1).bind k := by
  simp only [T44, T44c, Option.bind_assoc, cond_bind, Option.bind_some, Option.bind_none, elimS_bind]
@[reducible] def cA44 : List Sh := [(.pt 0 []), .i]
@[reducible] def cB44 : List Sh := []
@[reducible] def cT44 : List TSh := [.blk 112 (.pr .ns (.pr .i .un))]
@[reducible] def cU44 : List TSh := [.blk 112 (.pr (.rw 1) (.pr .i .un)), .row 5 .u8]
def ct44 (F : Nat) : Ct := mkC 1 cA44 cT44 cB44 cU44 (fun x y => T44 F x.2.1 y.1.2.1) (fun x y (z : (List UInt8)) => ((), (((), y.1.2.1, ()), z, ())))
theorem eq44 (F : Nat) (x : dens cA44) (y : tdens cT44) : sev (E44 F) 1 [] (bodyOf Tryd.f44) [] (mkSt (rng 2) cA44 cT44 x y) (kFn (E44 F) 1 Tryd.f44.results.toList cB44 cU44 fun p q => some (p, q)) =
    T44c F x.2.1 y.1.2.1 (fun z => some ((), (((), y.1.2.1, ()), z, ()))) := by kernel_rfl
theorem ok44 (F : Nat) : Sound Tryd.prog cfg 44 (ct44 F) :=
  mkC_ok (E := E44 F) (lp := []) (code := bodyOf Tryd.f44) Tryd.func44 rfl Tryd.ntmps44 rfl rfl cok (cts44 F) mixed trivial (by kernel_rfl) (fun x y k => T44c F x.2.1 y.1.2.1 k) (fun x y k => T44n F x.2.1 y.1.2.1 k) (eq44 F)
end Go.Proofs.YthikoaamigiceaaDoor
/- (*kinkeep/wire.Writer).Uint: its twin, and that the call does what the twin says. Printed by a program. -/
namespace Go.Proofs.YthikoaamigiceaaDoor
open Go.Tw
set_option linter.unusedSimpArgs false
set_option linter.unusedVariables false
def ord73x1 : Nat → List (Tag × Nat)
  | _ => []
def al73x1 : Nat → Option Nat
  | _ => none
def ms73x1 : Nat → Option (List (Option Tag × Nat × List Nat))
  | _ => none
def E73x1 (F : Nat) : Ev := ⟨cfg, 18, ctOf [(75, ct75 F)], ord73x1, ctOf [], al73x1, ms73x1⟩
theorem cts73x1 (F : Nat) : CtsOk Tryd.prog (E73x1 F) := cts_of (l := [(75, ct75 F)]) (l' := []) rfl rfl ⟨⟨ok75 F, _, Tryd.func75, rfl, rfl⟩, trivial⟩ trivial
def T73x1c (F : Nat) (p0 : UInt64) (p1 : Int) (p2 : List UInt8) {β : Type} (k : ((List UInt8)) → Option β) : Option β :=
  (bif (p1 == (0 : Int)) then (Option.bind (T75 F p0 p2) fun z2 => (k z2)) else (k p2))
def T73x1 (F : Nat) (p0 : UInt64) (p1 : Int) (p2 : List UInt8) : Option ((List UInt8)) := T73x1c F p0 p1 p2 some
theorem T73x1n (F : Nat) (p0 : UInt64) (p1 : Int) (p2 : List UInt8) {β : Type} (k : ((List UInt8)) → Option β) : T73x1c F p0 p1 p2 k = (T73x1 F p0 p1 p2).bind k := by
  simp only [T73x1, T73x1c, Option.bind_assoc, cond_bind, Option.bind_some, Option.bind_none, elimS_bind]
@[reducible] def cA73x1 : List Sh := [(.pt 0 []), .u64]
@[reducible] def cB73x1 : List Sh := []
@[reducible] def cT73x1 : List TSh := [.blk 112 (.pr (.rw 1) (.pr .i .un)), .row 5 .u8]
@[reducible] def cU73x1 : List TSh := [.blk 112 (.pr (.rw 1) (.pr .i .un)), .row 5 .u8]
def ct73x1 (F : Nat) : Ct := mkC 1 cA73x1 cT73x1 cB73x1 cU73x1 (fun x y => T73x1 F x.2.1 y.1.2.1 y.2.1) (fun x y (z : (List UInt8)) => ((), (((), y.1.2.1, ()), z, ())))
theorem eq73x1 (F : Nat) (x : dens cA73x1) (y : tdens cT73x1) : sev (E73x1 F) 1 [] (bodyOf Tryd.f73) [] (mkSt (rng 2) cA73x1 cT73x1 x y) (kFn (E73x1 F) 1 Tryd.f73.results.toList cB73x1 cU73x1 fun p q => some (p, q)) =
    T73x1c F x.2.1 y.1.2.1 y.2.1 (fun z => some ((), (((), y.1.2.1, ()), z, ()))) := by kernel_rfl
theorem ok73x1 (F : Nat) : Sound Tryd.prog cfg 73 (ct73x1 F) :=
  mkC_ok (E := E73x1 F) (lp := []) (code := bodyOf Tryd.f73) Tryd.func73 rfl Tryd.ntmps73 rfl rfl cok (cts73x1 F) mixed trivial (by kernel_rfl) (fun x y k => T73x1c F x.2.1 y.1.2.1 y.2.1 k) (fun x y k => T73x1n F x.2.1 y.1.2.1 y.2.1 k) (eq73x1 F)
end Go.Proofs.YthikoaamigiceaaDoor
/- (*kinkeep/wire.Writer).Int: its twin, and that the call does what the twin says. Printed by a program. -/
namespace Go.Proofs.YthikoaamigiceaaDoor
open Go.Tw
set_option linter.unusedSimpArgs false
set_option linter.unusedVariables false
def ord44x1 : Nat → List (Tag × Nat)
  | _ => []
def al44x1 : Nat → Option Nat
  | _ => none
def ms44x1 : Nat → Option (List (Option Tag × Nat × List Nat))
  | _ => none
def E44x1 (F : Nat) : Ev := ⟨cfg, 8, ctOf [(74, ct74 F), (73, ct73x1 F)], ord44x1, ctOf [], al44x1, ms44x1⟩
theorem cts44x1 (F : Nat) : CtsOk Tryd.prog (E44x1 F) := cts_of (l := [(74, ct74 F), (73, ct73x1 F)]) (l' := []) rfl rfl ⟨⟨ok74 F, _, Tryd.func74, rfl, rfl⟩, ⟨⟨ok73x1 F, _, Tryd.func73, rfl, rfl⟩, trivial⟩⟩ trivial
def T44x1c (F : Nat) (p0 : Int) (p1 : Int) (p2 : List UInt8) {β : Type} (k : ((List UInt8)) → Option β) : Option β :=
  (Option.bind (T74 F p0) fun z3 => (Option.bind (T73x1 F z3 p1 p2) fun z4 => (k z4)))
def T44x1 (F : Nat) (p0 : Int) (p1 : Int) (p2 : List UInt8) : Option ((List UInt8)) := T44x1c F p0 p1 p2 some
theorem T44x1n (F : Nat) (p0 : Int) (p1 : Int) (p2 : List UInt8) {β : Type} (k : ((List UInt8)) → Option β) : T44x1c F p0 p1 p2 k = (T44x1 F p0 p1 p2).bind k := by
  simp only [T44x1, T44x1c, Option.bind_assoc, cond_bind, Option.bind_some, Option.bind_none, elimS_bind]
@[reducible] def cA44x1 : List Sh := [(.pt 0 []), .i]
@[reducible] def cB44x1 : List Sh := []
@[reducible] def cT44x1 : List TSh := [.blk 112 (.pr (.rw 1) (.pr .i .un)), .row 5 .u8]
@[reducible] def cU44x1 : List TSh := [.blk 112 (.pr (.rw 2) (.pr .i .un)), .no, .row 5 .u8]
def ct44x1 (F : Nat) : Ct := mkC 2 cA44x1 cT44x1 cB44x1 cU44x1 (fun x y => T44x1 F x.2.1 y.1.2.1 y.2.1) (fun x y (z : (List UInt8)) => ((), (((), y.1.2.1, ()), (), z, ())))
theorem eq44x1 (F : Nat) (x : dens cA44x1) (y : tdens cT44x1) : sev (E44x1 F) 2 [] (bodyOf Tryd.f44) [] (mkSt (rng 2) cA44x1 cT44x1 x y) (kFn (E44x1 F) 2 Tryd.f44.results.toList cB44x1 cU44x1 fun p q => some (p, q)) =
    T44x1c F x.2.1 y.1.2.1 y.2.1 (fun z => some ((), (((), y.1.2.1, ()), (), z, ()))) := by kernel_rfl
theorem ok44x1 (F : Nat) : Sound Tryd.prog cfg 44 (ct44x1 F) :=
  mkC_ok (E := E44x1 F) (lp := []) (code := bodyOf Tryd.f44) Tryd.func44 rfl Tryd.ntmps44 rfl rfl cok (cts44x1 F) mixed trivial (by kernel_rfl) (fun x y k => T44x1c F x.2.1 y.1.2.1 y.2.1 k) (fun x y k => T44x1n F x.2.1 y.1.2.1 y.2.1 k) (eq44x1 F)
end Go.Proofs.YthikoaamigiceaaDoor
/- kinkeep/keyring.writeInts: its twin, and that the call does what the twin says. Printed by a program. -/
namespace Go.Proofs.YthikoaamigiceaaDoor
open Go.Tw
set_option linter.unusedSimpArgs false
set_option linter.unusedVariables false
def ord41 : Nat → List (Tag × Nat)
  | _ => []
def al41 : Nat → Option Nat
  | _ => none
def ms41 : Nat → Option (List (Option Tag × Nat × List Nat))
  | _ => none
def E41 (F : Nat) : Ev := ⟨cfg, 16, ctOf [(44, ct44 F), (44, ct44x1 F)], ord41, ctOf [], al41, ms41⟩
theorem cts41 (F : Nat) : CtsOk Tryd.prog (E41 F) := cts_of (l := [(44, ct44 F), (44, ct44x1 F)]) (l' := []) rfl rfl ⟨⟨ok44 F, _, Tryd.func44, rfl, rfl⟩, ⟨⟨ok44x1 F, _, Tryd.func44, rfl, rfl⟩, trivial⟩⟩ trivial
def L41_2c (F : Nat) (y23 : List Int) (y24 : Int) (y26 : Int) (y25 : Int) (y27 : List UInt8) {β : Type} (kA : (Int × (List UInt8)) → Option β) (kO : ((List UInt8)) → Option β) : Option β :=
  (bif (decide (y25 < y24)) then (Option.bind (ix y23 y25) fun x30 => (Option.bind (T44x1 F x30 y26 y27) fun z31 => (kA ((w64 (y25 + (1 : Int))), z31)))) else (kO y27))
def L41_2 (F : Nat) (y23 : List Int) (y24 : Int) (y26 : Int) (y25 : Int) (y27 : List UInt8) : Option ((Int × (List UInt8)) ⊕ ((List UInt8))) := L41_2c F y23 y24 y26 y25 y27 (fun s => some (.inl s)) (fun z => some (.inr z))
theorem L41_2n (F : Nat) (y23 : List Int) (y24 : Int) (y26 : Int) (y25 : Int) (y27 : List UInt8) {β : Type} (kA : (Int × (List UInt8)) → Option β) (kO : ((List UInt8)) → Option β) : L41_2c F y23 y24 y26 y25 y27 kA kO = (L41_2 F y23 y24 y26 y25 y27).bind (elimS kA kO) := by
  simp only [L41_2, L41_2c, Option.bind_assoc, cond_bind, Option.bind_some, Option.bind_none, elimS_l, elimS_r, elimS_bind]
@[reducible] def sA41_2 : List Sh := [(.pt 0 []), (.ro .i), .i, .i]
@[reducible] def sAp141_2 : List Sh := []
@[reducible] def sT41_2 : List TSh := [.blk 112 (.pr (.rw 1) (.pr .i .un)), .row 5 .u8]
@[reducible] def sTp141_2 : List TSh := [.blk 112 (.pr (.rw 1) (.pr .i .un)), .row 5 .u8]
def lc41_2 (F : Nat) : Lc := mkL [0, 6, 7, 8] sA41_2 sT41_2 [] sAp141_2 sTp141_2 F (fun x y (s : Int × (List UInt8)) => L41_2 F x.2.1 x.2.2.1 y.1.2.1 s.1 s.2) (fun x y => (x.2.2.2.1, y.2.1)) (fun x y (z : (List UInt8)) => ((), (((), y.1.2.1, ()), z, ())))
theorem le41_2 (F : Nat) (x : dens sA41_2) (y : tdens sT41_2) (s : Int × (List UInt8)) : sev (E41 F) 1 [] (cAt (bodyOf Tryd.f41) (0 :: 0 :: [1])) (0 :: 0 :: [1]) (mkSt [0, 6, 7, 8] sA41_2 sT41_2 ((), x.2.1, x.2.2.1, s.1, ()) (((), y.1.2.1, ()), s.2, ())) (kLoop 1 [0, 6, 7, 8] sA41_2 sT41_2 [] sAp141_2 sTp141_2 [] [] [] 0 (fun x y => some (.inl (x, y))) (fun x y => some (.inr (.inl (x, y)))) (fun x y => some (.inr (.inr (x, y))))) =
    L41_2c (β := Full sA41_2 sT41_2 sAp141_2 sTp141_2 [] []) F x.2.1 x.2.2.1 y.1.2.1 s.1 s.2 (fun s => some (.inl (((), x.2.1, x.2.2.1, s.1, ()), (((), y.1.2.1, ()), s.2, ())))) (fun z => some (.inr (.inl ((), (((), y.1.2.1, ()), z, ()))))) := by kernel_rfl
theorem lo41_2 (F : Nat) : LcOk Tryd.prog (E41 F) 1 (lc41_2 F) (cAt (bodyOf Tryd.f41) [1]) :=
  mkL_ok (lp := []) (id := 0) (b := cAt (bodyOf Tryd.f41) (0 :: 0 :: [1])) cok (cts41 F) mixed trivial (by kernel_rfl) (by kernel_rfl) (fun x y s => ((), x.2.1, x.2.2.1, s.1, ())) (fun x y s => (((), y.1.2.1, ()), s.2, ())) (fun x y => rfl) (fun x y => rfl) (fun x y s kA kO => L41_2c F x.2.1 x.2.2.1 y.1.2.1 s.1 s.2 kA kO) (fun x y s kA kO => L41_2n F x.2.1 x.2.2.1 y.1.2.1 s.1 s.2 kA kO) (le41_2 F)
def T41c (F : Nat) (p0 : List Int) (p1 : Int) {β : Type} (k : ((List UInt8)) → Option β) : Option β :=
  (Option.bind (iter (fun s => L41_2 F p0 (p0.length : Int) p1 s.1 s.2) F ((0 : Int), ([] : List UInt8))) fun z32 => (k z32))
def T41 (F : Nat) (p0 : List Int) (p1 : Int) : Option ((List UInt8)) := T41c F p0 p1 some
theorem T41n (F : Nat) (p0 : List Int) (p1 : Int) {β : Type} (k : ((List UInt8)) → Option β) : T41c F p0 p1 k = (T41 F p0 p1).bind k := by
  simp only [T41, T41c, Option.bind_assoc, cond_bind, Option.bind_some, Option.bind_none, elimS_bind]
@[reducible] def cA41 : List Sh := [(.pt 0 []), (.ro .i)]
@[reducible] def cB41 : List Sh := []
@[reducible] def cT41 : List TSh := [.blk 112 (.pr .ns (.pr .i .un))]
@[reducible] def cU41 : List TSh := [.blk 112 (.pr (.rw 1) (.pr .i .un)), .row 5 .u8]
def ct41 (F : Nat) : Ct := mkC 1 cA41 cT41 cB41 cU41 (fun x y => T41 F x.2.1 y.1.2.1) (fun x y (z : (List UInt8)) => ((), (((), y.1.2.1, ()), z, ())))
theorem eq41 (F : Nat) (x : dens cA41) (y : tdens cT41) : sev (E41 F) 1 [([1], lc41_2 F)] (bodyOf Tryd.f41) [] (mkSt (rng 2) cA41 cT41 x y) (kFn (E41 F) 1 Tryd.f41.results.toList cB41 cU41 fun p q => some (p, q)) =
    T41c F x.2.1 y.1.2.1 (fun z => some ((), (((), y.1.2.1, ()), z, ()))) := by kernel_rfl
theorem ok41 (F : Nat) : Sound Tryd.prog cfg 41 (ct41 F) :=
  mkC_ok (E := E41 F) (lp := [([1], lc41_2 F)]) (code := bodyOf Tryd.f41) Tryd.func41 rfl Tryd.ntmps41 rfl rfl cok (cts41 F) mixed ⟨lo41_2 F, trivial⟩ (by kernel_rfl) (fun x y k => T41c F x.2.1 y.1.2.1 k) (fun x y k => T41n F x.2.1 y.1.2.1 k) (eq41 F)
end Go.Proofs.YthikoaamigiceaaDoor
/- (*kinkeep/wire.Writer).Count: its twin, and that the call does what the twin says. Printed by a program. -/
namespace Go.Proofs.YthikoaamigiceaaDoor
open Go.Tw
set_option linter.unusedSimpArgs false
set_option linter.unusedVariables false
def ord72 : Nat → List (Tag × Nat)
  | _ => []
def al72 : Nat → Option Nat
  | _ => none
def ms72 : Nat → Option (List (Option Tag × Nat × List Nat))
  | _ => none
def E72 (F : Nat) : Ev := ⟨cfg, 18, ctOf [(73, ct73x1 F)], ord72, ctOf [], al72, ms72⟩
theorem cts72 (F : Nat) : CtsOk Tryd.prog (E72 F) := cts_of (l := [(73, ct73x1 F)]) (l' := []) rfl rfl ⟨⟨ok73x1 F, _, Tryd.func73, rfl, rfl⟩, trivial⟩ trivial
def T72c (F : Nat) (p0 : Int) (p1 : Int) (p2 : List UInt8) {β : Type} (k : (Int × (List UInt8)) → Option β) : Option β :=
  (bif (p1 != (0 : Int)) then (k (p1, p2)) else (bif (decide (p0 < (0 : Int))) then (k ((1 : Int), p2)) else (Option.bind (T73x1 F (UInt64.ofInt p0) p1 p2) fun z2 => (k (p1, z2)))))
def T72 (F : Nat) (p0 : Int) (p1 : Int) (p2 : List UInt8) : Option (Int × (List UInt8)) := T72c F p0 p1 p2 some
theorem T72n (F : Nat) (p0 : Int) (p1 : Int) (p2 : List UInt8) {β : Type} (k : (Int × (List UInt8)) → Option β) : T72c F p0 p1 p2 k = (T72 F p0 p1 p2).bind k := by
  simp only [T72, T72c, Option.bind_assoc, cond_bind, Option.bind_some, Option.bind_none, elimS_bind]
@[reducible] def cA72 : List Sh := [(.pt 0 []), .i]
@[reducible] def cB72 : List Sh := []
@[reducible] def cT72 : List TSh := [.blk 112 (.pr (.rw 1) (.pr .i .un)), .row 5 .u8]
@[reducible] def cU72 : List TSh := [.blk 112 (.pr (.rw 1) (.pr .i .un)), .row 5 .u8]
def ct72 (F : Nat) : Ct := mkC 1 cA72 cT72 cB72 cU72 (fun x y => T72 F x.2.1 y.1.2.1 y.2.1) (fun x y (z : Int × (List UInt8)) => ((), (((), z.1, ()), z.2, ())))
theorem eq72 (F : Nat) (x : dens cA72) (y : tdens cT72) : sev (E72 F) 1 [] (bodyOf Tryd.f72) [] (mkSt (rng 2) cA72 cT72 x y) (kFn (E72 F) 1 Tryd.f72.results.toList cB72 cU72 fun p q => some (p, q)) =
    T72c F x.2.1 y.1.2.1 y.2.1 (fun z => some ((), (((), z.1, ()), z.2, ()))) := by kernel_rfl
theorem ok72 (F : Nat) : Sound Tryd.prog cfg 72 (ct72 F) :=
  mkC_ok (E := E72 F) (lp := []) (code := bodyOf Tryd.f72) Tryd.func72 rfl Tryd.ntmps72 rfl rfl cok (cts72 F) mixed trivial (by kernel_rfl) (fun x y k => T72c F x.2.1 y.1.2.1 y.2.1 k) (fun x y k => T72n F x.2.1 y.1.2.1 y.2.1 k) (eq72 F)
end Go.Proofs.YthikoaamigiceaaDoor
/- kinkeep/keyring.EncodeIndex$1: its twin, and that the call does what the twin says. Printed by a program. -/
namespace Go.Proofs.YthikoaamigiceaaDoor
open Go.Tw
set_option linter.unusedSimpArgs false
set_option linter.unusedVariables false
def ord43 : Nat → List (Tag × Nat)
  | _ => []
def al43 : Nat → Option Nat
  | _ => none
def ms43 : Nat → Option (List (Option Tag × Nat × List Nat))
  | _ => none
def E43 (F : Nat) : Ev := ⟨cfg, 6, ctOf [(44, ct44x1 F)], ord43, ctOf [], al43, ms43⟩
theorem cts43 (F : Nat) : CtsOk Tryd.prog (E43 F) := cts_of (l := [(44, ct44x1 F)]) (l' := []) rfl rfl ⟨⟨ok44x1 F, _, Tryd.func44, rfl, rfl⟩, trivial⟩ trivial
def T43c (F : Nat) (p0 : Int) (p1 : Int) (p2 : List UInt8) {β : Type} (k : ((List UInt8)) → Option β) : Option β :=
  (Option.bind (T44x1 F p0 p1 p2) fun z2 => (k z2))
def T43 (F : Nat) (p0 : Int) (p1 : Int) (p2 : List UInt8) : Option ((List UInt8)) := T43c F p0 p1 p2 some
theorem T43n (F : Nat) (p0 : Int) (p1 : Int) (p2 : List UInt8) {β : Type} (k : ((List UInt8)) → Option β) : T43c F p0 p1 p2 k = (T43 F p0 p1 p2).bind k := by
  simp only [T43, T43c, Option.bind_assoc, cond_bind, Option.bind_some, Option.bind_none, elimS_bind]
@[reducible] def cA43 : List Sh := [.i, (.pt 0 [])]
@[reducible] def cB43 : List Sh := []
@[reducible] def cT43 : List TSh := [.blk 75 (.pt 1 []), .blk 112 (.pr (.rw 2) (.pr .i .un)), .row 5 .u8]
@[reducible] def cU43 : List TSh := [.blk 75 (.pt 1 []), .blk 112 (.pr (.rw 3) (.pr .i .un)), .no, .row 5 .u8]
def ct43 (F : Nat) : Ct := mkC 3 cA43 cT43 cB43 cU43 (fun x y => T43 F x.1 y.2.1.2.1 y.2.2.1) (fun x y (z : (List UInt8)) => ((), ((), ((), y.2.1.2.1, ()), (), z, ())))
theorem eq43 (F : Nat) (x : dens cA43) (y : tdens cT43) : sev (E43 F) 3 [] (bodyOf Tryd.f43) [] (mkSt (rng 2) cA43 cT43 x y) (kFn (E43 F) 3 Tryd.f43.results.toList cB43 cU43 fun p q => some (p, q)) =
    T43c F x.1 y.2.1.2.1 y.2.2.1 (fun z => some ((), ((), ((), y.2.1.2.1, ()), (), z, ()))) := by kernel_rfl
theorem ok43 (F : Nat) : Sound Tryd.prog cfg 43 (ct43 F) :=
  mkC_ok (E := E43 F) (lp := []) (code := bodyOf Tryd.f43) Tryd.func43 rfl Tryd.ntmps43 rfl rfl cok (cts43 F) mixed trivial (by kernel_rfl) (fun x y k => T43c F x.1 y.2.1.2.1 y.2.2.1 k) (fun x y k => T43n F x.1 y.2.1.2.1 y.2.2.1 k) (eq43 F)
end Go.Proofs.YthikoaamigiceaaDoor
/- kinkeep/keyring.writeList[int]: its twin, and that the call does what the twin says. Printed by a program. -/
namespace Go.Proofs.YthikoaamigiceaaDoor
open Go.Tw
set_option linter.unusedSimpArgs false
set_option linter.unusedVariables false
def ord42 : Nat → List (Tag × Nat)
  | _ => []
def al42 : Nat → Option Nat
  | _ => none
def ms42 : Nat → Option (List (Option Tag × Nat × List Nat))
  | _ => none
def E42 (F : Nat) : Ev := ⟨cfg, 22, ctOf [(72, ct72 F), (43, ct43 F)], ord42, ctOf [], al42, ms42⟩
theorem cts42 (F : Nat) : CtsOk Tryd.prog (E42 F) := cts_of (l := [(72, ct72 F), (43, ct43 F)]) (l' := []) rfl rfl ⟨⟨ok72 F, _, Tryd.func72, rfl, rfl⟩, ⟨⟨ok43 F, _, Tryd.func43, rfl, rfl⟩, trivial⟩⟩ trivial
def L42_2c (F : Nat) (y13 : List Int) (y14 : Int) (y16 : Int) (y15 : Int) (y17 : List UInt8) {β : Type} (kA : (Int × (List UInt8)) → Option β) (kO : ((List UInt8)) → Option β) : Option β :=
  (bif (decide (y15 < y14)) then (Option.bind (ix y13 y15) fun x20 => (Option.bind (T43 F x20 y16 y17) fun z21 => (kA ((w64 (y15 + (1 : Int))), z21)))) else (kO y17))
def L42_2 (F : Nat) (y13 : List Int) (y14 : Int) (y16 : Int) (y15 : Int) (y17 : List UInt8) : Option ((Int × (List UInt8)) ⊕ ((List UInt8))) := L42_2c F y13 y14 y16 y15 y17 (fun s => some (.inl s)) (fun z => some (.inr z))
theorem L42_2n (F : Nat) (y13 : List Int) (y14 : Int) (y16 : Int) (y15 : Int) (y17 : List UInt8) {β : Type} (kA : (Int × (List UInt8)) → Option β) (kO : ((List UInt8)) → Option β) : L42_2c F y13 y14 y16 y15 y17 kA kO = (L42_2 F y13 y14 y16 y15 y17).bind (elimS kA kO) := by
  simp only [L42_2, L42_2c, Option.bind_assoc, cond_bind, Option.bind_some, Option.bind_none, elimS_l, elimS_r, elimS_bind]
@[reducible] def sA42_2 : List Sh := [(.fn 43 .un (.pr (.pt 1 []) .un)), (.ro .i), .i, .i]
@[reducible] def sAp142_2 : List Sh := []
@[reducible] def sT42_2 : List TSh := [.blk 112 (.pr (.rw 3) (.pr .i .un)), .blk 75 (.pt 0 []), .no, .row 5 .u8]
@[reducible] def sTp142_2 : List TSh := [.blk 112 (.pr (.rw 3) (.pr .i .un)), .blk 75 (.pt 0 []), .no, .row 5 .u8]
def lc42_2 (F : Nat) : Lc := mkL [2, 12, 13, 14] sA42_2 sT42_2 [] sAp142_2 sTp142_2 F (fun x y (s : Int × (List UInt8)) => L42_2 F x.2.1 x.2.2.1 y.1.2.1 s.1 s.2) (fun x y => (x.2.2.2.1, y.2.2.2.1)) (fun x y (z : (List UInt8)) => ((), (((), y.1.2.1, ()), (), (), z, ())))
theorem le42_2 (F : Nat) (x : dens sA42_2) (y : tdens sT42_2) (s : Int × (List UInt8)) : sev (E42 F) 3 [] (cAt (bodyOf Tryd.f42) (0 :: 0 :: [1, 1])) (0 :: 0 :: [1, 1]) (mkSt [2, 12, 13, 14] sA42_2 sT42_2 (((), ((), ())), x.2.1, x.2.2.1, s.1, ()) (((), y.1.2.1, ()), (), (), s.2, ())) (kLoop 3 [2, 12, 13, 14] sA42_2 sT42_2 [] sAp142_2 sTp142_2 [] [] [] 0 (fun x y => some (.inl (x, y))) (fun x y => some (.inr (.inl (x, y)))) (fun x y => some (.inr (.inr (x, y))))) =
    L42_2c (β := Full sA42_2 sT42_2 sAp142_2 sTp142_2 [] []) F x.2.1 x.2.2.1 y.1.2.1 s.1 s.2 (fun s => some (.inl ((((), ((), ())), x.2.1, x.2.2.1, s.1, ()), (((), y.1.2.1, ()), (), (), s.2, ())))) (fun z => some (.inr (.inl ((), (((), y.1.2.1, ()), (), (), z, ()))))) := by kernel_rfl
theorem lo42_2 (F : Nat) : LcOk Tryd.prog (E42 F) 3 (lc42_2 F) (cAt (bodyOf Tryd.f42) [1, 1]) :=
  mkL_ok (lp := []) (id := 0) (b := cAt (bodyOf Tryd.f42) (0 :: 0 :: [1, 1])) cok (cts42 F) mixed trivial (by kernel_rfl) (by kernel_rfl) (fun x y s => (((), ((), ())), x.2.1, x.2.2.1, s.1, ())) (fun x y s => (((), y.1.2.1, ()), (), (), s.2, ())) (fun x y => rfl) (fun x y => rfl) (fun x y s kA kO => L42_2c F x.2.1 x.2.2.1 y.1.2.1 s.1 s.2 kA kO) (fun x y s kA kO => L42_2n F x.2.1 x.2.2.1 y.1.2.1 s.1 s.2 kA kO) (le42_2 F)
def T42c (F : Nat) (p0 : List Int) (p1 : Int) (p2 : List UInt8) {β : Type} (k : (Int × (List UInt8)) → Option β) : Option β :=
  (Option.bind (T72 F (p0.length : Int) p1 p2) fun z12 => (Option.bind (iter (fun s => L42_2 F p0 (p0.length : Int) z12.1 s.1 s.2) F ((0 : Int), z12.2)) fun z22 => (k (z12.1, z22))))
def T42 (F : Nat) (p0 : List Int) (p1 : Int) (p2 : List UInt8) : Option (Int × (List UInt8)) := T42c F p0 p1 p2 some
theorem T42n (F : Nat) (p0 : List Int) (p1 : Int) (p2 : List UInt8) {β : Type} (k : (Int × (List UInt8)) → Option β) : T42c F p0 p1 p2 k = (T42 F p0 p1 p2).bind k := by
  simp only [T42, T42c, Option.bind_assoc, cond_bind, Option.bind_some, Option.bind_none, elimS_bind]
@[reducible] def cA42 : List Sh := [(.pt 0 []), (.ro .i), (.fn 43 .un (.pr (.pt 1 []) .un))]
@[reducible] def cB42 : List Sh := []
@[reducible] def cT42 : List TSh := [.blk 112 (.pr (.rw 2) (.pr .i .un)), .blk 75 (.pt 0 []), .row 5 .u8]
@[reducible] def cU42 : List TSh := [.blk 112 (.pr (.rw 3) (.pr .i .un)), .blk 75 (.pt 0 []), .no, .row 5 .u8]
def ct42 (F : Nat) : Ct := mkC 3 cA42 cT42 cB42 cU42 (fun x y => T42 F x.2.1 y.1.2.1 y.2.2.1) (fun x y (z : Int × (List UInt8)) => ((), (((), z.1, ()), (), (), z.2, ())))
theorem eq42 (F : Nat) (x : dens cA42) (y : tdens cT42) : sev (E42 F) 3 [([1, 1], lc42_2 F)] (bodyOf Tryd.f42) [] (mkSt (rng 3) cA42 cT42 x y) (kFn (E42 F) 3 Tryd.f42.results.toList cB42 cU42 fun p q => some (p, q)) =
    T42c F x.2.1 y.1.2.1 y.2.2.1 (fun z => some ((), (((), z.1, ()), (), (), z.2, ()))) := by kernel_rfl
theorem ok42 (F : Nat) : Sound Tryd.prog cfg 42 (ct42 F) :=
  mkC_ok (E := E42 F) (lp := [([1, 1], lc42_2 F)]) (code := bodyOf Tryd.f42) Tryd.func42 rfl Tryd.ntmps42 rfl rfl cok (cts42 F) mixed ⟨lo42_2 F, trivial⟩ (by kernel_rfl) (fun x y k => T42c F x.2.1 y.1.2.1 y.2.2.1 k) (fun x y k => T42n F x.2.1 y.1.2.1 y.2.2.1 k) (eq42 F)
end Go.Proofs.YthikoaamigiceaaDoor
/- kinkeep/keyring.writeInts: its twin, and that the call does what the twin says. Printed by a program. -/
namespace Go.Proofs.YthikoaamigiceaaDoor
open Go.Tw
set_option linter.unusedSimpArgs false
set_option linter.unusedVariables false
def ord41x1 : Nat → List (Tag × Nat)
  | _ => []
def al41x1 : Nat → Option Nat
  | _ => none
def ms41x1 : Nat → Option (List (Option Tag × Nat × List Nat))
  | _ => none
def E41x1 (F : Nat) : Ev := ⟨cfg, 16, ctOf [(44, ct44x1 F)], ord41x1, ctOf [], al41x1, ms41x1⟩
theorem cts41x1 (F : Nat) : CtsOk Tryd.prog (E41x1 F) := cts_of (l := [(44, ct44x1 F)]) (l' := []) rfl rfl ⟨⟨ok44x1 F, _, Tryd.func44, rfl, rfl⟩, trivial⟩ trivial
def L41x1_2c (F : Nat) (y11 : List Int) (y12 : Int) (y14 : Int) (y13 : Int) (y15 : List UInt8) {β : Type} (kA : (Int × (List UInt8)) → Option β) (kO : ((List UInt8)) → Option β) : Option β :=
  (bif (decide (y13 < y12)) then (Option.bind (ix y11 y13) fun x18 => (Option.bind (T44x1 F x18 y14 y15) fun z19 => (kA ((w64 (y13 + (1 : Int))), z19)))) else (kO y15))
def L41x1_2 (F : Nat) (y11 : List Int) (y12 : Int) (y14 : Int) (y13 : Int) (y15 : List UInt8) : Option ((Int × (List UInt8)) ⊕ ((List UInt8))) := L41x1_2c F y11 y12 y14 y13 y15 (fun s => some (.inl s)) (fun z => some (.inr z))
theorem L41x1_2n (F : Nat) (y11 : List Int) (y12 : Int) (y14 : Int) (y13 : Int) (y15 : List UInt8) {β : Type} (kA : (Int × (List UInt8)) → Option β) (kO : ((List UInt8)) → Option β) : L41x1_2c F y11 y12 y14 y13 y15 kA kO = (L41x1_2 F y11 y12 y14 y13 y15).bind (elimS kA kO) := by
  simp only [L41x1_2, L41x1_2c, Option.bind_assoc, cond_bind, Option.bind_some, Option.bind_none, elimS_l, elimS_r, elimS_bind]
@[reducible] def sA41x1_2 : List Sh := [(.pt 0 []), (.ro .i), .i, .i]
@[reducible] def sAp141x1_2 : List Sh := []
@[reducible] def sT41x1_2 : List TSh := [.blk 112 (.pr (.rw 1) (.pr .i .un)), .row 5 .u8]
@[reducible] def sTp141x1_2 : List TSh := [.blk 112 (.pr (.rw 1) (.pr .i .un)), .row 5 .u8]
def lc41x1_2 (F : Nat) : Lc := mkL [0, 6, 7, 8] sA41x1_2 sT41x1_2 [] sAp141x1_2 sTp141x1_2 F (fun x y (s : Int × (List UInt8)) => L41x1_2 F x.2.1 x.2.2.1 y.1.2.1 s.1 s.2) (fun x y => (x.2.2.2.1, y.2.1)) (fun x y (z : (List UInt8)) => ((), (((), y.1.2.1, ()), z, ())))
theorem le41x1_2 (F : Nat) (x : dens sA41x1_2) (y : tdens sT41x1_2) (s : Int × (List UInt8)) : sev (E41x1 F) 1 [] (cAt (bodyOf Tryd.f41) (0 :: 0 :: [1])) (0 :: 0 :: [1]) (mkSt [0, 6, 7, 8] sA41x1_2 sT41x1_2 ((), x.2.1, x.2.2.1, s.1, ()) (((), y.1.2.1, ()), s.2, ())) (kLoop 1 [0, 6, 7, 8] sA41x1_2 sT41x1_2 [] sAp141x1_2 sTp141x1_2 [] [] [] 0 (fun x y => some (.inl (x, y))) (fun x y => some (.inr (.inl (x, y)))) (fun x y => some (.inr (.inr (x, y))))) =
    L41x1_2c (β := Full sA41x1_2 sT41x1_2 sAp141x1_2 sTp141x1_2 [] []) F x.2.1 x.2.2.1 y.1.2.1 s.1 s.2 (fun s => some (.inl (((), x.2.1, x.2.2.1, s.1, ()), (((), y.1.2.1, ()), s.2, ())))) (fun z => some (.inr (.inl ((), (((), y.1.2.1, ()), z, ()))))) := by kernel_rfl
theorem lo41x1_2 (F : Nat) : LcOk Tryd.prog (E41x1 F) 1 (lc41x1_2 F) (cAt (bodyOf Tryd.f41) [1]) :=
  mkL_ok (lp := []) (id := 0) (b := cAt (bodyOf Tryd.f41) (0 :: 0 :: [1])) cok (cts41x1 F) mixed trivial (by kernel_rfl) (by kernel_rfl) (fun x y s => ((), x.2.1, x.2.2.1, s.1, ())) (fun x y s => (((), y.1.2.1, ()), s.2, ())) (fun x y => rfl) (fun x y => rfl) (fun x y s kA kO => L41x1_2c F x.2.1 x.2.2.1 y.1.2.1 s.1 s.2 kA kO) (fun x y s kA kO => L41x1_2n F x.2.1 x.2.2.1 y.1.2.1 s.1 s.2 kA kO) (le41x1_2 F)
def T41x1c (F : Nat) (p0 : List Int) (p1 : Int) (p2 : List UInt8) {β : Type} (k : ((List UInt8)) → Option β) : Option β :=
  (Option.bind (iter (fun s => L41x1_2 F p0 (p0.length : Int) p1 s.1 s.2) F ((0 : Int), p2)) fun z20 => (k z20))
def T41x1 (F : Nat) (p0 : List Int) (p1 : Int) (p2 : List UInt8) : Option ((List UInt8)) := T41x1c F p0 p1 p2 some
theorem T41x1n (F : Nat) (p0 : List Int) (p1 : Int) (p2 : List UInt8) {β : Type} (k : ((List UInt8)) → Option β) : T41x1c F p0 p1 p2 k = (T41x1 F p0 p1 p2).bind k := by
  simp only [T41x1, T41x1c, Option.bind_assoc, cond_bind, Option.bind_some, Option.bind_none, elimS_bind]
@[reducible] def cA41x1 : List Sh := [(.pt 0 []), (.ro .i)]
@[reducible] def cB41x1 : List Sh := []
@[reducible] def cT41x1 : List TSh := [.blk 112 (.pr (.rw 1) (.pr .i .un)), .row 5 .u8]
@[reducible] def cU41x1 : List TSh := [.blk 112 (.pr (.rw 1) (.pr .i .un)), .row 5 .u8]
def ct41x1 (F : Nat) : Ct := mkC 1 cA41x1 cT41x1 cB41x1 cU41x1 (fun x y => T41x1 F x.2.1 y.1.2.1 y.2.1) (fun x y (z : (List UInt8)) => ((), (((), y.1.2.1, ()), z, ())))
theorem eq41x1 (F : Nat) (x : dens cA41x1) (y : tdens cT41x1) : sev (E41x1 F) 1 [([1], lc41x1_2 F)] (bodyOf Tryd.f41) [] (mkSt (rng 2) cA41x1 cT41x1 x y) (kFn (E41x1 F) 1 Tryd.f41.results.toList cB41x1 cU41x1 fun p q => some (p, q)) =
    T41x1c F x.2.1 y.1.2.1 y.2.1 (fun z => some ((), (((), y.1.2.1, ()), z, ()))) := by kernel_rfl
theorem ok41x1 (F : Nat) : Sound Tryd.prog cfg 41 (ct41x1 F) :=
  mkC_ok (E := E41x1 F) (lp := [([1], lc41x1_2 F)]) (code := bodyOf Tryd.f41) Tryd.func41 rfl Tryd.ntmps41 rfl rfl cok (cts41x1 F) mixed ⟨lo41x1_2 F, trivial⟩ (by kernel_rfl) (fun x y k => T41x1c F x.2.1 y.1.2.1 y.2.1 k) (fun x y k => T41x1n F x.2.1 y.1.2.1 y.2.1 k) (eq41x1 F)
end Go.Proofs.YthikoaamigiceaaDoor
/- (*kinkeep/wire.Writer).Sum: its twin, and that the call does what the twin says. Printed by a program. -/
namespace Go.Proofs.YthikoaamigiceaaDoor
open Go.Tw
set_option linter.unusedSimpArgs false
set_option linter.unusedVariables false
def ord53 : Nat → List (Tag × Nat)
  | _ => []
def al53 : Nat → Option Nat
  | _ => none
def ms53 : Nat → Option (List (Option Tag × Nat × List Nat))
  | _ => none
def E53 (F : Nat) : Ev := ⟨cfg, 24, ctOf [], ord53, ctOf [], al53, ms53⟩
theorem cts53 (F : Nat) : CtsOk Tryd.prog (E53 F) := cts_of (l := []) (l' := []) rfl rfl trivial trivial
def T53c (F : Nat) (p0 : List UInt8) (p1 : Int) (p2 : List UInt8) {β : Type} (k : (Int × (List UInt8)) → Option β) : Option β :=
  (bif (p1 != (0 : Int)) then (k (p1, p2)) else (bif ((p0.length : Int) != (32 : Int)) then (k ((1 : Int), p2)) else (Option.bind (gapp p2 p0) fun x2 => (k (p1, x2)))))
def T53 (F : Nat) (p0 : List UInt8) (p1 : Int) (p2 : List UInt8) : Option (Int × (List UInt8)) := T53c F p0 p1 p2 some
theorem T53n (F : Nat) (p0 : List UInt8) (p1 : Int) (p2 : List UInt8) {β : Type} (k : (Int × (List UInt8)) → Option β) : T53c F p0 p1 p2 k = (T53 F p0 p1 p2).bind k := by
  simp only [T53, T53c, Option.bind_assoc, cond_bind, Option.bind_some, Option.bind_none, elimS_bind]
@[reducible] def cA53 : List Sh := [(.pt 0 []), .str]
@[reducible] def cB53 : List Sh := []
@[reducible] def cT53 : List TSh := [.blk 112 (.pr (.rw 1) (.pr .i .un)), .row 5 .u8]
@[reducible] def cU53 : List TSh := [.blk 112 (.pr (.rw 1) (.pr .i .un)), .row 5 .u8]
def ct53 (F : Nat) : Ct := mkC 1 cA53 cT53 cB53 cU53 (fun x y => T53 F x.2.1 y.1.2.1 y.2.1) (fun x y (z : Int × (List UInt8)) => ((), (((), z.1, ()), z.2, ())))
theorem eq53 (F : Nat) (x : dens cA53) (y : tdens cT53) : sev (E53 F) 1 [] (bodyOf Tryd.f53) [] (mkSt (rng 2) cA53 cT53 x y) (kFn (E53 F) 1 Tryd.f53.results.toList cB53 cU53 fun p q => some (p, q)) =
    T53c F x.2.1 y.1.2.1 y.2.1 (fun z => some ((), (((), z.1, ()), z.2, ()))) := by kernel_rfl
theorem ok53 (F : Nat) : Sound Tryd.prog cfg 53 (ct53 F) :=
  mkC_ok (E := E53 F) (lp := []) (code := bodyOf Tryd.f53) Tryd.func53 rfl Tryd.ntmps53 rfl rfl cok (cts53 F) mixed trivial (by kernel_rfl) (fun x y k => T53c F x.2.1 y.1.2.1 y.2.1 k) (fun x y k => T53n F x.2.1 y.1.2.1 y.2.1 k) (eq53 F)
end Go.Proofs.YthikoaamigiceaaDoor
/- kinkeep/keyring.writeRef: its twin, and that the call does what the twin says. Printed by a program. -/
namespace Go.Proofs.YthikoaamigiceaaDoor
open Go.Tw
set_option linter.unusedSimpArgs false
set_option linter.unusedVariables false
def ord47 : Nat → List (Tag × Nat)
  | _ => []
def al47 : Nat → Option Nat
  | _ => none
def ms47 : Nat → Option (List (Option Tag × Nat × List Nat))
  | _ => none
def E47 (F : Nat) : Ev := ⟨cfg, 15, ctOf [(53, ct53 F), (41, ct41x1 F)], ord47, ctOf [], al47, ms47⟩
theorem cts47 (F : Nat) : CtsOk Tryd.prog (E47 F) := cts_of (l := [(53, ct53 F), (41, ct41x1 F)]) (l' := []) rfl rfl ⟨⟨ok53 F, _, Tryd.func53, rfl, rfl⟩, ⟨⟨ok41x1 F, _, Tryd.func41, rfl, rfl⟩, trivial⟩⟩ trivial
def T47c (F : Nat) (p0 : List UInt8) (p1 : Int) (p2 : Int) (p3 : Int) (p4 : List UInt8) {β : Type} (k : (Int × (List UInt8)) → Option β) : Option β :=
  (Option.bind (T53 F p0 p3 p4) fun z3 => (Option.bind (T41x1 F ([p1, p2] : List Int) z3.1 z3.2) fun z4 => (k (z3.1, z4))))
def T47 (F : Nat) (p0 : List UInt8) (p1 : Int) (p2 : Int) (p3 : Int) (p4 : List UInt8) : Option (Int × (List UInt8)) := T47c F p0 p1 p2 p3 p4 some
theorem T47n (F : Nat) (p0 : List UInt8) (p1 : Int) (p2 : Int) (p3 : Int) (p4 : List UInt8) {β : Type} (k : (Int × (List UInt8)) → Option β) : T47c F p0 p1 p2 p3 p4 k = (T47 F p0 p1 p2 p3 p4).bind k := by
  simp only [T47, T47c, Option.bind_assoc, cond_bind, Option.bind_some, Option.bind_none, elimS_bind]
@[reducible] def cA47 : List Sh := [(.pt 0 []), (.pr .str (.pr .i (.pr .i .un)))]
@[reducible] def cB47 : List Sh := []
@[reducible] def cT47 : List TSh := [.blk 112 (.pr (.rw 1) (.pr .i .un)), .row 5 .u8]
@[reducible] def cU47 : List TSh := [.blk 112 (.pr (.rw 2) (.pr .i .un)), .no, .row 5 .u8]
def ct47 (F : Nat) : Ct := mkC 2 cA47 cT47 cB47 cU47 (fun x y => T47 F x.2.1.1 x.2.1.2.1 x.2.1.2.2.1 y.1.2.1 y.2.1) (fun x y (z : Int × (List UInt8)) => ((), (((), z.1, ()), (), z.2, ())))
theorem eq47 (F : Nat) (x : dens cA47) (y : tdens cT47) : sev (E47 F) 2 [] (bodyOf Tryd.f47) [] (mkSt (rng 2) cA47 cT47 x y) (kFn (E47 F) 2 Tryd.f47.results.toList cB47 cU47 fun p q => some (p, q)) =
    T47c F x.2.1.1 x.2.1.2.1 x.2.1.2.2.1 y.1.2.1 y.2.1 (fun z => some ((), (((), z.1, ()), (), z.2, ()))) := by kernel_rfl
theorem ok47 (F : Nat) : Sound Tryd.prog cfg 47 (ct47 F) :=
  mkC_ok (E := E47 F) (lp := []) (code := bodyOf Tryd.f47) Tryd.func47 rfl Tryd.ntmps47 rfl rfl cok (cts47 F) mixed trivial (by kernel_rfl) (fun x y k => T47c F x.2.1.1 x.2.1.2.1 x.2.1.2.2.1 y.1.2.1 y.2.1 k) (fun x y k => T47n F x.2.1.1 x.2.1.2.1 x.2.1.2.2.1 y.1.2.1 y.2.1 k) (eq47 F)
end Go.Proofs.YthikoaamigiceaaDoor
/- (*kinkeep/wire.Writer).Text: its twin, and that the call does what the twin says. Printed by a program. -/
namespace Go.Proofs.YthikoaamigiceaaDoor
open Go.Tw
set_option linter.unusedSimpArgs false
set_option linter.unusedVariables false
def ord48 : Nat → List (Tag × Nat)
  | _ => []
def al48 : Nat → Option Nat
  | _ => none
def ms48 : Nat → Option (List (Option Tag × Nat × List Nat))
  | _ => none
def E48 (F : Nat) : Ev := ⟨cfg, 22, ctOf [(75, ct75 F)], ord48, ctOf [], al48, ms48⟩
theorem cts48 (F : Nat) : CtsOk Tryd.prog (E48 F) := cts_of (l := [(75, ct75 F)]) (l' := []) rfl rfl ⟨⟨ok75 F, _, Tryd.func75, rfl, rfl⟩, trivial⟩ trivial
def T48c (F : Nat) (p0 : List UInt8) (p1 : Int) (p2 : List UInt8) {β : Type} (k : ((List UInt8)) → Option β) : Option β :=
  (bif (p1 == (0 : Int)) then (Option.bind (T75 F (UInt64.ofInt (p0.length : Int)) p2) fun z3 => (Option.bind (gapp z3 p0) fun x4 => (k x4))) else (k p2))
def T48 (F : Nat) (p0 : List UInt8) (p1 : Int) (p2 : List UInt8) : Option ((List UInt8)) := T48c F p0 p1 p2 some
theorem T48n (F : Nat) (p0 : List UInt8) (p1 : Int) (p2 : List UInt8) {β : Type} (k : ((List UInt8)) → Option β) : T48c F p0 p1 p2 k = (T48 F p0 p1 p2).bind k := by
  simp only [T48, T48c, Option.bind_assoc, cond_bind, Option.bind_some, Option.bind_none, elimS_bind]
@[reducible] def cA48 : List Sh := [(.pt 0 []), .str]
@[reducible] def cB48 : List Sh := []
@[reducible] def cT48 : List TSh := [.blk 112 (.pr (.rw 1) (.pr .i .un)), .row 5 .u8]
@[reducible] def cU48 : List TSh := [.blk 112 (.pr (.rw 1) (.pr .i .un)), .row 5 .u8]
def ct48 (F : Nat) : Ct := mkC 1 cA48 cT48 cB48 cU48 (fun x y => T48 F x.2.1 y.1.2.1 y.2.1) (fun x y (z : (List UInt8)) => ((), (((), y.1.2.1, ()), z, ())))
theorem eq48 (F : Nat) (x : dens cA48) (y : tdens cT48) : sev (E48 F) 1 [] (bodyOf Tryd.f48) [] (mkSt (rng 2) cA48 cT48 x y) (kFn (E48 F) 1 Tryd.f48.results.toList cB48 cU48 fun p q => some (p, q)) =
    T48c F x.2.1 y.1.2.1 y.2.1 (fun z => some ((), (((), y.1.2.1, ()), z, ()))) := by kernel_rfl
theorem ok48 (F : Nat) : Sound Tryd.prog cfg 48 (ct48 F) :=
  mkC_ok (E := E48 F) (lp := []) (code := bodyOf Tryd.f48) Tryd.func48 rfl Tryd.ntmps48 rfl rfl cok (cts48 F) mixed trivial (by kernel_rfl) (fun x y k => T48c F x.2.1 y.1.2.1 y.2.1 k) (fun x y k => T48n F x.2.1 y.1.2.1 y.2.1 k) (eq48 F)
end Go.Proofs.YthikoaamigiceaaDoor
/- (*kinkeep/wire.Writer).Bool: its twin, and that the call does what the twin says. Printed by a program. -/
namespace Go.Proofs.YthikoaamigiceaaDoor
open Go.Tw
set_option linter.unusedSimpArgs false
set_option linter.unusedVariables false
def ord49 : Nat → List (Tag × Nat)
  | _ => []
def al49 : Nat → Option Nat
  | _ => none
def ms49 : Nat → Option (List (Option Tag × Nat × List Nat))
  | _ => none
def E49 (F : Nat) : Ev := ⟨cfg, 9, ctOf [(73, ct73x1 F)], ord49, ctOf [], al49, ms49⟩
theorem cts49 (F : Nat) : CtsOk Tryd.prog (E49 F) := cts_of (l := [(73, ct73x1 F)]) (l' := []) rfl rfl ⟨⟨ok73x1 F, _, Tryd.func73, rfl, rfl⟩, trivial⟩ trivial
def T49c (F : Nat) (p0 : Bool) (p1 : Int) (p2 : List UInt8) {β : Type} (k : ((List UInt8)) → Option β) : Option β :=
  (bif p0 then (Option.bind (T73x1 F (UInt64.ofNat 1) p1 p2) fun z3 => (k z3)) else (Option.bind (T73x1 F (UInt64.ofNat 0) p1 p2) fun z4 => (k z4)))
def T49 (F : Nat) (p0 : Bool) (p1 : Int) (p2 : List UInt8) : Option ((List UInt8)) := T49c F p0 p1 p2 some
theorem T49n (F : Nat) (p0 : Bool) (p1 : Int) (p2 : List UInt8) {β : Type} (k : ((List UInt8)) → Option β) : T49c F p0 p1 p2 k = (T49 F p0 p1 p2).bind k := by
  simp only [T49, T49c, Option.bind_assoc, cond_bind, Option.bind_some, Option.bind_none, elimS_bind]
@[reducible] def cA49 : List Sh := [(.pt 0 []), .bo]
@[reducible] def cB49 : List Sh := []
@[reducible] def cT49 : List TSh := [.blk 112 (.pr (.rw 1) (.pr .i .un)), .row 5 .u8]
@[reducible] def cU49 : List TSh := [.blk 112 (.pr (.rw 2) (.pr .i .un)), .no, .row 5 .u8]
def ct49 (F : Nat) : Ct := mkC 2 cA49 cT49 cB49 cU49 (fun x y => T49 F x.2.1 y.1.2.1 y.2.1) (fun x y (z : (List UInt8)) => ((), (((), y.1.2.1, ()), (), z, ())))
theorem eq49 (F : Nat) (x : dens cA49) (y : tdens cT49) : sev (E49 F) 2 [] (bodyOf Tryd.f49) [] (mkSt (rng 2) cA49 cT49 x y) (kFn (E49 F) 2 Tryd.f49.results.toList cB49 cU49 fun p q => some (p, q)) =
    T49c F x.2.1 y.1.2.1 y.2.1 (fun z => some ((), (((), y.1.2.1, ()), (), z, ()))) := by kernel_rfl
theorem ok49 (F : Nat) : Sound Tryd.prog cfg 49 (ct49 F) :=
  mkC_ok (E := E49 F) (lp := []) (code := bodyOf Tryd.f49) Tryd.func49 rfl Tryd.ntmps49 rfl rfl cok (cts49 F) mixed trivial (by kernel_rfl) (fun x y k => T49c F x.2.1 y.1.2.1 y.2.1 k) (fun x y k => T49n F x.2.1 y.1.2.1 y.2.1 k) (eq49 F)
end Go.Proofs.YthikoaamigiceaaDoor
/- kinkeep/keyring.EncodeIndex$2: its twin, and that the call does what the twin says. Printed by a program. -/
namespace Go.Proofs.YthikoaamigiceaaDoor
open Go.Tw
set_option linter.unusedSimpArgs false
set_option linter.unusedVariables false
def ord46 : Nat → List (Tag × Nat)
  | _ => []
def al46 : Nat → Option Nat
  | _ => none
def ms46 : Nat → Option (List (Option Tag × Nat × List Nat))
  | _ => none
def E46 (F : Nat) : Ev := ⟨cfg, 31, ctOf [(41, ct41x1 F), (47, ct47 F), (48, ct48 F), (49, ct49 F)], ord46, ctOf [], al46, ms46⟩
theorem cts46 (F : Nat) : CtsOk Tryd.prog (E46 F) := cts_of (l := [(41, ct41x1 F), (47, ct47 F), (48, ct48 F), (49, ct49 F)]) (l' := []) rfl rfl ⟨⟨ok41x1 F, _, Tryd.func41, rfl, rfl⟩, ⟨⟨ok47 F, _, Tryd.func47, rfl, rfl⟩, ⟨⟨ok48 F, _, Tryd.func48, rfl, rfl⟩, ⟨⟨ok49 F, _, Tryd.func49, rfl, rfl⟩, trivial⟩⟩⟩⟩ trivial
def T46c (F : Nat) (p0 : Int) (p1 : Int) (p2 : Int) (p3 : List UInt8) (p4 : Int) (p5 : Int) (p6 : Int) (p7 : Int) (p8 : List UInt8) (p9 : Bool) (p10 : Int) (p11 : List UInt8) {β : Type} (k : (Int × (List UInt8)) → Option β) : Option β :=
  (Option.bind (T41x1 F ([p0, p1, p2] : List Int) p10 p11) fun z6 => (Option.bind (T47 F p3 p4 p5 p10 z6) fun z7 => (Option.bind (T41x1 F ([p6, p7] : List Int) z7.1 z7.2) fun z8 => (Option.bind (T48 F p8 z7.1 z8) fun z9 => (Option.bind (T49 F p9 z7.1 z9) fun z10 => (k (z7.1, z10)))))))
def T46 (F : Nat) (p0 : Int) (p1 : Int) (p2 : Int) (p3 : List UInt8) (p4 : Int) (p5 : Int) (p6 : Int) (p7 : Int) (p8 : List UInt8) (p9 : Bool) (p10 : Int) (p11 : List UInt8) : Option (Int × (List UInt8)) := T46c F p0 p1 p2 p3 p4 p5 p6 p7 p8 p9 p10 p11 some
theorem T46n (F : Nat) (p0 : Int) (p1 : Int) (p2 : Int) (p3 : List UInt8) (p4 : Int) (p5 : Int) (p6 : Int) (p7 : Int) (p8 : List UInt8) (p9 : Bool) (p10 : Int) (p11 : List UInt8) {β : Type} (k : (Int × (List UInt8)) → Option β) : T46c F p0 p1 p2 p3 p4 p5 p6 p7 p8 p9 p10 p11 k = (T46 F p0 p1 p2 p3 p4 p5 p6 p7 p8 p9 p10 p11).bind k := by
  simp only [T46, T46c, Option.bind_assoc, cond_bind, Option.bind_some, Option.bind_none, elimS_bind]
@[reducible] def cA46 : List Sh := [(.pr .i (.pr .i (.pr .i (.pr (.pr .str (.pr .i (.pr .i .un))) (.pr .i (.pr .i (.pr .str (.pr .bo .un)))))))), (.pt 0 [])]
@[reducible] def cB46 : List Sh := []
@[reducible] def cT46 : List TSh := [.blk 75 (.pt 1 []), .blk 112 (.pr (.rw 2) (.pr .i .un)), .row 5 .u8]
@[reducible] def cU46 : List TSh := [.blk 75 (.pt 1 []), .blk 112 (.pr (.rw 3) (.pr .i .un)), .no, .row 5 .u8]
def ct46 (F : Nat) : Ct := mkC 3 cA46 cT46 cB46 cU46 (fun x y => T46 F x.1.1 x.1.2.1 x.1.2.2.1 x.1.2.2.2.1.1 x.1.2.2.2.1.2.1 x.1.2.2.2.1.2.2.1 x.1.2.2.2.2.1 x.1.2.2.2.2.2.1 x.1.2.2.2.2.2.2.1 x.1.2.2.2.2.2.2.2.1 y.2.1.2.1 y.2.2.1) (fun x y (z : Int × (List UInt8)) => ((), ((), ((), z.1, ()), (), z.2, ())))
theorem eq46 (F : Nat) (x : dens cA46) (y : tdens cT46) : sev (E46 F) 3 [] (bodyOf Tryd.f46) [] (mkSt (rng 2) cA46 cT46 x y) (kFn (E46 F) 3 Tryd.f46.results.toList cB46 cU46 fun p q => some (p, q)) =
    T46c F x.1.1 x.1.2.1 x.1.2.2.1 x.1.2.2.2.1.1 x.1.2.2.2.1.2.1 x.1.2.2.2.1.2.2.1 x.1.2.2.2.2.1 x.1.2.2.2.2.2.1 x.1.2.2.2.2.2.2.1 x.1.2.2.2.2.2.2.2.1 y.2.1.2.1 y.2.2.1 (fun z => some ((), ((), ((), z.1, ()), (), z.2, ()))) := by kernel_rfl
theorem ok46 (F : Nat) : Sound Tryd.prog cfg 46 (ct46 F) :=
  mkC_ok (E := E46 F) (lp := []) (code := bodyOf Tryd.f46) Tryd.func46 rfl Tryd.ntmps46 rfl rfl cok (cts46 F) mixed trivial (by kernel_rfl) (fun x y k => T46c F x.1.1 x.1.2.1 x.1.2.2.1 x.1.2.2.2.1.1 x.1.2.2.2.1.2.1 x.1.2.2.2.1.2.2.1 x.1.2.2.2.2.1 x.1.2.2.2.2.2.1 x.1.2.2.2.2.2.2.1 x.1.2.2.2.2.2.2.2.1 y.2.1.2.1 y.2.2.1 k) (fun x y k => T46n F x.1.1 x.1.2.1 x.1.2.2.1 x.1.2.2.2.1.1 x.1.2.2.2.1.2.1 x.1.2.2.2.1.2.2.1 x.1.2.2.2.2.1 x.1.2.2.2.2.2.1 x.1.2.2.2.2.2.2.1 x.1.2.2.2.2.2.2.2.1 y.2.1.2.1 y.2.2.1 k) (eq46 F)
end Go.Proofs.YthikoaamigiceaaDoor
/- kinkeep/keyring.writeList[kinkeep/api.Snapshot]: its twin, and that the call does what the twin says. Printed by a program. -/
namespace Go.Proofs.YthikoaamigiceaaDoor
open Go.Tw
set_option linter.unusedSimpArgs false
set_option linter.unusedVariables false
def ord45 : Nat → List (Tag × Nat)
  | _ => []
def al45 : Nat → Option Nat
  | _ => none
def ms45 : Nat → Option (List (Option Tag × Nat × List Nat))
  | _ => none
def E45 (F : Nat) : Ev := ⟨cfg, 22, ctOf [(72, ct72 F), (46, ct46 F)], ord45, ctOf [], al45, ms45⟩
theorem cts45 (F : Nat) : CtsOk Tryd.prog (E45 F) := cts_of (l := [(72, ct72 F), (46, ct46 F)]) (l' := []) rfl rfl ⟨⟨ok72 F, _, Tryd.func72, rfl, rfl⟩, ⟨⟨ok46 F, _, Tryd.func46, rfl, rfl⟩, trivial⟩⟩ trivial
def L45_2c (F : Nat) (y13 : List (Int × Int × Int × ((List UInt8) × Int × Int × Unit) × Int × Int × (List UInt8) × Bool × Unit)) (y14 : Int) (y15 : Int) (y16 : Int) (y17 : List UInt8) {β : Type} (kA : (Int × Int × (List UInt8)) → Option β) (kO : (Int × (List UInt8)) → Option β) : Option β :=
  (bif (decide (y15 < y14)) then (Option.bind (ix y13 y15) fun x20 => (Option.bind (T46 F x20.1 x20.2.1 x20.2.2.1 x20.2.2.2.1.1 x20.2.2.2.1.2.1 x20.2.2.2.1.2.2.1 x20.2.2.2.2.1 x20.2.2.2.2.2.1 x20.2.2.2.2.2.2.1 x20.2.2.2.2.2.2.2.1 y16 y17) fun z21 => (kA ((w64 (y15 + (1 : Int))), z21.1, z21.2)))) else (kO (y16, y17)))
def L45_2 (F : Nat) (y13 : List (Int × Int × Int × ((List UInt8) × Int × Int × Unit) × Int × Int × (List UInt8) × Bool × Unit)) (y14 : Int) (y15 : Int) (y16 : Int) (y17 : List UInt8) : Option ((Int × Int × (List UInt8)) ⊕ (Int × (List UInt8))) := L45_2c F y13 y14 y15 y16 y17 (fun s => some (.inl s)) (fun z => some (.inr z))
theorem L45_2n (F : Nat) (y13 : List (Int × Int × Int × ((List UInt8) × Int × Int × Unit) × Int × Int × (List UInt8) × Bool × Unit)) (y14 : Int) (y15 : Int) (y16 : Int) (y17 : List UInt8) {β : Type} (kA : (Int × Int × (List UInt8)) → Option β) (kO : (Int × (List UInt8)) → Option β) : L45_2c F y13 y14 y15 y16 y17 kA kO = (L45_2 F y13 y14 y15 y16 y17).bind (elimS kA kO) := by
  simp only [L45_2, L45_2c, Option.bind_assoc, cond_bind, Option.bind_some, Option.bind_none, elimS_l, elimS_r, elimS_bind]
@[reducible] def sA45_2 : List Sh := [(.fn 46 .un (.pr (.pt 1 []) .un)), (.ro (.pr .i (.pr .i (.pr .i (.pr (.pr .s (.pr .i (.pr .i .un))) (.pr .i (.pr .i (.pr .s (.pr .bo .un))))))))), .i, .i]
@[reducible] def sAp145_2 : List Sh := []
@[reducible] def sT45_2 : List TSh := [.blk 112 (.pr (.rw 3) (.pr .i .un)), .blk 75 (.pt 0 []), .no, .row 5 .u8]
@[reducible] def sTp145_2 : List TSh := [.blk 112 (.pr (.rw 3) (.pr .i .un)), .blk 75 (.pt 0 []), .no, .row 5 .u8]
def lc45_2 (F : Nat) : Lc := mkL [2, 12, 13, 14] sA45_2 sT45_2 [] sAp145_2 sTp145_2 F (fun x y (s : Int × Int × (List UInt8)) => L45_2 F x.2.1 x.2.2.1 s.1 s.2.1 s.2.2) (fun x y => (x.2.2.2.1, y.1.2.1, y.2.2.2.1)) (fun x y (z : Int × (List UInt8)) => ((), (((), z.1, ()), (), (), z.2, ())))
theorem le45_2 (F : Nat) (x : dens sA45_2) (y : tdens sT45_2) (s : Int × Int × (List UInt8)) : sev (E45 F) 3 [] (cAt (bodyOf Tryd.f45) (0 :: 0 :: [1, 1])) (0 :: 0 :: [1, 1]) (mkSt [2, 12, 13, 14] sA45_2 sT45_2 (((), ((), ())), x.2.1, x.2.2.1, s.1, ()) (((), s.2.1, ()), (), (), s.2.2, ())) (kLoop 3 [2, 12, 13, 14] sA45_2 sT45_2 [] sAp145_2 sTp145_2 [] [] [] 0 (fun x y => some (.inl (x, y))) (fun x y => some (.inr (.inl (x, y)))) (fun x y => some (.inr (.inr (x, y))))) =
    L45_2c (β := Full sA45_2 sT45_2 sAp145_2 sTp145_2 [] []) F x.2.1 x.2.2.1 s.1 s.2.1 s.2.2 (fun s => some (.inl ((((), ((), ())), x.2.1, x.2.2.1, s.1, ()), (((), s.2.1, ()), (), (), s.2.2, ())))) (fun z => some (.inr (.inl ((), (((), z.1, ()), (), (), z.2, ()))))) := by kernel_rfl
theorem lo45_2 (F : Nat) : LcOk Tryd.prog (E45 F) 3 (lc45_2 F) (cAt (bodyOf Tryd.f45) [1, 1]) :=
  mkL_ok (lp := []) (id := 0) (b := cAt (bodyOf Tryd.f45) (0 :: 0 :: [1, 1])) cok (cts45 F) mixed trivial (by kernel_rfl) (by kernel_rfl) (fun x y s => (((), ((), ())), x.2.1, x.2.2.1, s.1, ())) (fun x y s => (((), s.2.1, ()), (), (), s.2.2, ())) (fun x y => rfl) (fun x y => rfl) (fun x y s kA kO => L45_2c F x.2.1 x.2.2.1 s.1 s.2.1 s.2.2 kA kO) (fun x y s kA kO => L45_2n F x.2.1 x.2.2.1 s.1 s.2.1 s.2.2 kA kO) (le45_2 F)
def T45c (F : Nat) (p0 : List (Int × Int × Int × ((List UInt8) × Int × Int × Unit) × Int × Int × (List UInt8) × Bool × Unit)) (p1 : Int) (p2 : List UInt8) {β : Type} (k : (Int × (List UInt8)) → Option β) : Option β :=
  (Option.bind (T72 F (p0.length : Int) p1 p2) fun z12 => (Option.bind (iter (fun s => L45_2 F p0 (p0.length : Int) s.1 s.2.1 s.2.2) F ((0 : Int), z12.1, z12.2)) fun z22 => (k (z22.1, z22.2))))
def T45 (F : Nat) (p0 : List (Int × Int × Int × ((List UInt8) × Int × Int × Unit) × Int × Int × (List UInt8) × Bool × Unit)) (p1 : Int) (p2 : List UInt8) : Option (Int × (List UInt8)) := T45c F p0 p1 p2 some
theorem T45n (F : Nat) (p0 : List (Int × Int × Int × ((List UInt8) × Int × Int × Unit) × Int × Int × (List UInt8) × Bool × Unit)) (p1 : Int) (p2 : List UInt8) {β : Type} (k : (Int × (List UInt8)) → Option β) : T45c F p0 p1 p2 k = (T45 F p0 p1 p2).bind k := by
  simp only [T45, T45c, Option.bind_assoc, cond_bind, Option.bind_some, Option.bind_none, elimS_bind]
@[reducible] def cA45 : List Sh := [(.pt 0 []), (.ro (.pr .i (.pr .i (.pr .i (.pr (.pr .s (.pr .i (.pr .i .un))) (.pr .i (.pr .i (.pr .s (.pr .bo .un))))))))), (.fn 46 .un (.pr (.pt 1 []) .un))]
@[reducible] def cB45 : List Sh := []
@[reducible] def cT45 : List TSh := [.blk 112 (.pr (.rw 2) (.pr .i .un)), .blk 75 (.pt 0 []), .row 5 .u8]
@[reducible] def cU45 : List TSh := [.blk 112 (.pr (.rw 3) (.pr .i .un)), .blk 75 (.pt 0 []), .no, .row 5 .u8]
def ct45 (F : Nat) : Ct := mkC 3 cA45 cT45 cB45 cU45 (fun x y => T45 F x.2.1 y.1.2.1 y.2.2.1) (fun x y (z : Int × (List UInt8)) => ((), (((), z.1, ()), (), (), z.2, ())))
theorem eq45 (F : Nat) (x : dens cA45) (y : tdens cT45) : sev (E45 F) 3 [([1, 1], lc45_2 F)] (bodyOf Tryd.f45) [] (mkSt (rng 3) cA45 cT45 x y) (kFn (E45 F) 3 Tryd.f45.results.toList cB45 cU45 fun p q => some (p, q)) =
    T45c F x.2.1 y.1.2.1 y.2.2.1 (fun z => some ((), (((), z.1, ()), (), (), z.2, ()))) := by kernel_rfl
theorem ok45 (F : Nat) : Sound Tryd.prog cfg 45 (ct45 F) :=
  mkC_ok (E := E45 F) (lp := [([1, 1], lc45_2 F)]) (code := bodyOf Tryd.f45) Tryd.func45 rfl Tryd.ntmps45 rfl rfl cok (cts45 F) mixed ⟨lo45_2 F, trivial⟩ (by kernel_rfl) (fun x y k => T45c F x.2.1 y.1.2.1 y.2.2.1 k) (fun x y k => T45n F x.2.1 y.1.2.1 y.2.2.1 k) (eq45 F)
end Go.Proofs.YthikoaamigiceaaDoor
/- kinkeep/keyring.EncodeIndex$3: its twin, and that the call does what the twin says. Printed by a program. -/
namespace Go.Proofs.YthikoaamigiceaaDoor
open Go.Tw
set_option linter.unusedSimpArgs false
set_option linter.unusedVariables false
def ord50 : Nat → List (Tag × Nat)
  | _ => []
def al50 : Nat → Option Nat
  | _ => none
def ms50 : Nat → Option (List (Option Tag × Nat × List Nat))
  | _ => none
def E50 (F : Nat) : Ev := ⟨cfg, 6, ctOf [(47, ct47 F)], ord50, ctOf [], al50, ms50⟩
theorem cts50 (F : Nat) : CtsOk Tryd.prog (E50 F) := cts_of (l := [(47, ct47 F)]) (l' := []) rfl rfl ⟨⟨ok47 F, _, Tryd.func47, rfl, rfl⟩, trivial⟩ trivial
def T50c (F : Nat) (p0 : List UInt8) (p1 : Int) (p2 : Int) (p3 : Int) (p4 : List UInt8) {β : Type} (k : (Int × (List UInt8)) → Option β) : Option β :=
  (Option.bind (T47 F p0 p1 p2 p3 p4) fun z2 => (k (z2.1, z2.2)))
def T50 (F : Nat) (p0 : List UInt8) (p1 : Int) (p2 : Int) (p3 : Int) (p4 : List UInt8) : Option (Int × (List UInt8)) := T50c F p0 p1 p2 p3 p4 some
theorem T50n (F : Nat) (p0 : List UInt8) (p1 : Int) (p2 : Int) (p3 : Int) (p4 : List UInt8) {β : Type} (k : (Int × (List UInt8)) → Option β) : T50c F p0 p1 p2 p3 p4 k = (T50 F p0 p1 p2 p3 p4).bind k := by
  simp only [T50, T50c, Option.bind_assoc, cond_bind, Option.bind_some, Option.bind_none, elimS_bind]
@[reducible] def cA50 : List Sh := [(.pr .str (.pr .i (.pr .i .un))), (.pt 0 [])]
@[reducible] def cB50 : List Sh := []
@[reducible] def cT50 : List TSh := [.blk 75 (.pt 1 []), .blk 112 (.pr (.rw 2) (.pr .i .un)), .row 5 .u8]
@[reducible] def cU50 : List TSh := [.blk 75 (.pt 1 []), .blk 112 (.pr (.rw 3) (.pr .i .un)), .no, .row 5 .u8]
def ct50 (F : Nat) : Ct := mkC 3 cA50 cT50 cB50 cU50 (fun x y => T50 F x.1.1 x.1.2.1 x.1.2.2.1 y.2.1.2.1 y.2.2.1) (fun x y (z : Int × (List UInt8)) => ((), ((), ((), z.1, ()), (), z.2, ())))
theorem eq50 (F : Nat) (x : dens cA50) (y : tdens cT50) : sev (E50 F) 3 [] (bodyOf Tryd.f50) [] (mkSt (rng 2) cA50 cT50 x y) (kFn (E50 F) 3 Tryd.f50.results.toList cB50 cU50 fun p q => some (p, q)) =
    T50c F x.1.1 x.1.2.1 x.1.2.2.1 y.2.1.2.1 y.2.2.1 (fun z => some ((), ((), ((), z.1, ()), (), z.2, ()))) := by kernel_rfl
theorem ok50 (F : Nat) : Sound Tryd.prog cfg 50 (ct50 F) :=
  mkC_ok (E := E50 F) (lp := []) (code := bodyOf Tryd.f50) Tryd.func50 rfl Tryd.ntmps50 rfl rfl cok (cts50 F) mixed trivial (by kernel_rfl) (fun x y k => T50c F x.1.1 x.1.2.1 x.1.2.2.1 y.2.1.2.1 y.2.2.1 k) (fun x y k => T50n F x.1.1 x.1.2.1 x.1.2.2.1 y.2.1.2.1 y.2.2.1 k) (eq50 F)
end Go.Proofs.YthikoaamigiceaaDoor
/- kinkeep/keyring.writeList[kinkeep/api.Ref]: its twin, and that the call does what the twin says. Printed by a program. -/
namespace Go.Proofs.YthikoaamigiceaaDoor
open Go.Tw
set_option linter.unusedSimpArgs false
set_option linter.unusedVariables false
def ord54 : Nat → List (Tag × Nat)
  | _ => []
def al54 : Nat → Option Nat
  | _ => none
def ms54 : Nat → Option (List (Option Tag × Nat × List Nat))
  | _ => none
def E54 (F : Nat) : Ev := ⟨cfg, 22, ctOf [(72, ct72 F), (50, ct50 F)], ord54, ctOf [], al54, ms54⟩
theorem cts54 (F : Nat) : CtsOk Tryd.prog (E54 F) := cts_of (l := [(72, ct72 F), (50, ct50 F)]) (l' := []) rfl rfl ⟨⟨ok72 F, _, Tryd.func72, rfl, rfl⟩, ⟨⟨ok50 F, _, Tryd.func50, rfl, rfl⟩, trivial⟩⟩ trivial
def L54_2c (F : Nat) (y13 : List ((List UInt8) × Int × Int × Unit)) (y14 : Int) (y15 : Int) (y16 : Int) (y17 : List UInt8) {β : Type} (kA : (Int × Int × (List UInt8)) → Option β) (kO : (Int × (List UInt8)) → Option β) : Option β :=
  (bif (decide (y15 < y14)) then (Option.bind (ix y13 y15) fun x20 => (Option.bind (T50 F x20.1 x20.2.1 x20.2.2.1 y16 y17) fun z21 => (kA ((w64 (y15 + (1 : Int))), z21.1, z21.2)))) else (kO (y16, y17)))
def L54_2 (F : Nat) (y13 : List ((List UInt8) × Int × Int × Unit)) (y14 : Int) (y15 : Int) (y16 : Int) (y17 : List UInt8) : Option ((Int × Int × (List UInt8)) ⊕ (Int × (List UInt8))) := L54_2c F y13 y14 y15 y16 y17 (fun s => some (.inl s)) (fun z => some (.inr z))
theorem L54_2n (F : Nat) (y13 : List ((List UInt8) × Int × Int × Unit)) (y14 : Int) (y15 : Int) (y16 : Int) (y17 : List UInt8) {β : Type} (kA : (Int × Int × (List UInt8)) → Option β) (kO : (Int × (List UInt8)) → Option β) : L54_2c F y13 y14 y15 y16 y17 kA kO = (L54_2 F y13 y14 y15 y16 y17).bind (elimS kA kO) := by
  simp only [L54_2, L54_2c, Option.bind_assoc, cond_bind, Option.bind_some, Option.bind_none, elimS_l, elimS_r, elimS_bind]
@[reducible] def sA54_2 : List Sh := [(.fn 50 .un (.pr (.pt 1 []) .un)), (.ro (.pr .s (.pr .i (.pr .i .un)))), .i, .i]
@[reducible] def sAp154_2 : List Sh := []
@[reducible] def sT54_2 : List TSh := [.blk 112 (.pr (.rw 3) (.pr .i .un)), .blk 75 (.pt 0 []), .no, .row 5 .u8]
@[reducible] def sTp154_2 : List TSh := [.blk 112 (.pr (.rw 3) (.pr .i .un)), .blk 75 (.pt 0 []), .no, .row 5 .u8]
def lc54_2 (F : Nat) : Lc := mkL [2, 12, 13, 14] sA54_2 sT54_2 [] sAp154_2 sTp154_2 F (fun x y (s : Int × Int × (List UInt8)) => L54_2 F x.2.1 x.2.2.1 s.1 s.2.1 s.2.2) (fun x y => (x.2.2.2.1, y.1.2.1, y.2.2.2.1)) (fun x y (z : Int × (List UInt8)) => ((), (((), z.1, ()), (), (), z.2, ())))
theorem le54_2 (F : Nat) (x : dens sA54_2) (y : tdens sT54_2) (s : Int × Int × (List UInt8)) : sev (E54 F) 3 [] (cAt (bodyOf Tryd.f54) (0 :: 0 :: [1, 1])) (0 :: 0 :: [1, 1]) (mkSt [2, 12, 13, 14] sA54_2 sT54_2 (((), ((), ())), x.2.1, x.2.2.1, s.1, ()) (((), s.2.1, ()), (), (), s.2.2, ())) (kLoop 3 [2, 12, 13, 14] sA54_2 sT54_2 [] sAp154_2 sTp154_2 [] [] [] 0 (fun x y => some (.inl (x, y))) (fun x y => some (.inr (.inl (x, y)))) (fun x y => some (.inr (.inr (x, y))))) =
    L54_2c (β := Full sA54_2 sT54_2 sAp154_2 sTp154_2 [] []) F x.2.1 x.2.2.1 s.1 s.2.1 s.2.2 (fun s => some (.inl ((((), ((), ())), x.2.1, x.2.2.1, s.1, ()), (((), s.2.1, ()), (), (), s.2.2, ())))) (fun z => some (.inr (.inl ((), (((), z.1, ()), (), (), z.2, ()))))) := by kernel_rfl
theorem lo54_2 (F : Nat) : LcOk Tryd.prog (E54 F) 3 (lc54_2 F) (cAt (bodyOf Tryd.f54) [1, 1]) :=
  mkL_ok (lp := []) (id := 0) (b := cAt (bodyOf Tryd.f54) (0 :: 0 :: [1, 1])) cok (cts54 F) mixed trivial (by kernel_rfl) (by kernel_rfl) (fun x y s => (((), ((), ())), x.2.1, x.2.2.1, s.1, ())) (fun x y s => (((), s.2.1, ()), (), (), s.2.2, ())) (fun x y => rfl) (fun x y => rfl) (fun x y s kA kO => L54_2c F x.2.1 x.2.2.1 s.1 s.2.1 s.2.2 kA kO) (fun x y s kA kO => L54_2n F x.2.1 x.2.2.1 s.1 s.2.1 s.2.2 kA kO) (le54_2 F)
def T54c (F : Nat) (p0 : List ((List UInt8) × Int × Int × Unit)) (p1 : Int) (p2 : List UInt8) {β : Type} (k : (Int × (List UInt8)) → Option β) : Option β :=
  (Option.bind (T72 F (p0.length : Int) p1 p2) fun z12 => (Option.bind (iter (fun s => L54_2 F p0 (p0.length : Int) s.1 s.2.1 s.2.2) F ((0 : Int), z12.1, z12.2)) fun z22 => (k (z22.1, z22.2))))
def T54 (F : Nat) (p0 : List ((List UInt8) × Int × Int × Unit)) (p1 : Int) (p2 : List UInt8) : Option (Int × (List UInt8)) := T54c F p0 p1 p2 some
theorem T54n (F : Nat) (p0 : List ((List UInt8) × Int × Int × Unit)) (p1 : Int) (p2 : List UInt8) {β : Type} (k : (Int × (List UInt8)) → Option β) : T54c F p0 p1 p2 k = (T54 F p0 p1 p2).bind k := by
  simp only [T54, T54c, Option.bind_assoc, cond_bind, Option.bind_some, Option.bind_none, elimS_bind]
@[reducible] def cA54 : List Sh := [(.pt 0 []), (.ro (.pr .s (.pr .i (.pr .i .un)))), (.fn 50 .un (.pr (.pt 1 []) .un))]
@[reducible] def cB54 : List Sh := []
@[reducible] def cT54 : List TSh := [.blk 112 (.pr (.rw 2) (.pr .i .un)), .blk 75 (.pt 0 []), .row 5 .u8]
@[reducible] def cU54 : List TSh := [.blk 112 (.pr (.rw 3) (.pr .i .un)), .blk 75 (.pt 0 []), .no, .row 5 .u8]
def ct54 (F : Nat) : Ct := mkC 3 cA54 cT54 cB54 cU54 (fun x y => T54 F x.2.1 y.1.2.1 y.2.2.1) (fun x y (z : Int × (List UInt8)) => ((), (((), z.1, ()), (), (), z.2, ())))
theorem eq54 (F : Nat) (x : dens cA54) (y : tdens cT54) : sev (E54 F) 3 [([1, 1], lc54_2 F)] (bodyOf Tryd.f54) [] (mkSt (rng 3) cA54 cT54 x y) (kFn (E54 F) 3 Tryd.f54.results.toList cB54 cU54 fun p q => some (p, q)) =
    T54c F x.2.1 y.1.2.1 y.2.2.1 (fun z => some ((), (((), z.1, ()), (), (), z.2, ()))) := by kernel_rfl
theorem ok54 (F : Nat) : Sound Tryd.prog cfg 54 (ct54 F) :=
  mkC_ok (E := E54 F) (lp := [([1, 1], lc54_2 F)]) (code := bodyOf Tryd.f54) Tryd.func54 rfl Tryd.ntmps54 rfl rfl cok (cts54 F) mixed ⟨lo54_2 F, trivial⟩ (by kernel_rfl) (fun x y k => T54c F x.2.1 y.1.2.1 y.2.2.1 k) (fun x y k => T54n F x.2.1 y.1.2.1 y.2.2.1 k) (eq54 F)
end Go.Proofs.YthikoaamigiceaaDoor
/- kinkeep/keyring.EncodeIndex$4: its twin, and that the call does what the twin says. Printed by a program. -/
namespace Go.Proofs.YthikoaamigiceaaDoor
open Go.Tw
set_option linter.unusedSimpArgs false
set_option linter.unusedVariables false
def ord52 : Nat → List (Tag × Nat)
  | _ => []
def al52 : Nat → Option Nat
  | _ => none
def ms52 : Nat → Option (List (Option Tag × Nat × List Nat))
  | _ => none
def E52 (F : Nat) : Ev := ⟨cfg, 24, ctOf [(53, ct53 F), (41, ct41x1 F), (54, ct54 F)], ord52, ctOf [], al52, ms52⟩
theorem cts52 (F : Nat) : CtsOk Tryd.prog (E52 F) := cts_of (l := [(53, ct53 F), (41, ct41x1 F), (54, ct54 F)]) (l' := []) rfl rfl ⟨⟨ok53 F, _, Tryd.func53, rfl, rfl⟩, ⟨⟨ok41x1 F, _, Tryd.func41, rfl, rfl⟩, ⟨⟨ok54 F, _, Tryd.func54, rfl, rfl⟩, trivial⟩⟩⟩ trivial
def T52c (F : Nat) (p0 : List UInt8) (p1 : Int) (p2 : Int) (p3 : Int) (p4 : Int) (p5 : List ((List UInt8) × Int × Int × Unit)) (p6 : Int) (p7 : List UInt8) {β : Type} (k : (Int × (List UInt8)) → Option β) : Option β :=
  (Option.bind (T53 F p0 p6 p7) fun z4 => (Option.bind (T41x1 F ([p1, p2, p3, p4] : List Int) z4.1 z4.2) fun z5 => (Option.bind (T54 F p5 z4.1 z5) fun z6 => (k (z6.1, z6.2)))))
def T52 (F : Nat) (p0 : List UInt8) (p1 : Int) (p2 : Int) (p3 : Int) (p4 : Int) (p5 : List ((List UInt8) × Int × Int × Unit)) (p6 : Int) (p7 : List UInt8) : Option (Int × (List UInt8)) := T52c F p0 p1 p2 p3 p4 p5 p6 p7 some
theorem T52n (F : Nat) (p0 : List UInt8) (p1 : Int) (p2 : Int) (p3 : Int) (p4 : Int) (p5 : List ((List UInt8) × Int × Int × Unit)) (p6 : Int) (p7 : List UInt8) {β : Type} (k : (Int × (List UInt8)) → Option β) : T52c F p0 p1 p2 p3 p4 p5 p6 p7 k = (T52 F p0 p1 p2 p3 p4 p5 p6 p7).bind k := by
  simp only [T52, T52c, Option.bind_assoc, cond_bind, Option.bind_some, Option.bind_none, elimS_bind]
@[reducible] def cA52 : List Sh := [(.pr .str (.pr .i (.pr .i (.pr .i (.pr .i (.pr (.ro (.pr .s (.pr .i (.pr .i .un)))) .un)))))), (.pt 0 []), (.pt 1 [])]
@[reducible] def cB52 : List Sh := []
@[reducible] def cT52 : List TSh := [.blk 75 (.pt 2 []), .blk 89 (.fn 50 .un (.pr (.pt 0 []) .un)), .blk 112 (.pr (.rw 3) (.pr .i .un)), .row 5 .u8]
@[reducible] def cU52 : List TSh := [.blk 75 (.pt 2 []), .blk 89 (.fn 50 .un (.pr (.pt 0 []) .un)), .blk 112 (.pr (.rw 4) (.pr .i .un)), .no, .row 5 .u8]
def ct52 (F : Nat) : Ct := mkC 4 cA52 cT52 cB52 cU52 (fun x y => T52 F x.1.1 x.1.2.1 x.1.2.2.1 x.1.2.2.2.1 x.1.2.2.2.2.1 x.1.2.2.2.2.2.1 y.2.2.1.2.1 y.2.2.2.1) (fun x y (z : Int × (List UInt8)) => ((), ((), ((), ((), ())), ((), z.1, ()), (), z.2, ())))
theorem eq52 (F : Nat) (x : dens cA52) (y : tdens cT52) : sev (E52 F) 4 [] (bodyOf Tryd.f52) [] (mkSt (rng 3) cA52 cT52 x y) (kFn (E52 F) 4 Tryd.f52.results.toList cB52 cU52 fun p q => some (p, q)) =
    T52c F x.1.1 x.1.2.1 x.1.2.2.1 x.1.2.2.2.1 x.1.2.2.2.2.1 x.1.2.2.2.2.2.1 y.2.2.1.2.1 y.2.2.2.1 (fun z => some ((), ((), ((), ((), ())), ((), z.1, ()), (), z.2, ()))) := by kernel_rfl
theorem ok52 (F : Nat) : Sound Tryd.prog cfg 52 (ct52 F) :=
  mkC_ok (E := E52 F) (lp := []) (code := bodyOf Tryd.f52) Tryd.func52 rfl Tryd.ntmps52 rfl rfl cok (cts52 F) mixed trivial (by kernel_rfl) (fun x y k => T52c F x.1.1 x.1.2.1 x.1.2.2.1 x.1.2.2.2.1 x.1.2.2.2.2.1 x.1.2.2.2.2.2.1 y.2.2.1.2.1 y.2.2.2.1 k) (fun x y k => T52n F x.1.1 x.1.2.1 x.1.2.2.1 x.1.2.2.2.1 x.1.2.2.2.2.1 x.1.2.2.2.2.2.1 y.2.2.1.2.1 y.2.2.2.1 k) (eq52 F)
end Go.Proofs.YthikoaamigiceaaDoor
/- kinkeep/keyring.writeList[kinkeep/api.Stripe]: its twin, and that the call does what the twin says. Printed by a program. -/
namespace Go.Proofs.YthikoaamigiceaaDoor
open Go.Tw
set_option linter.unusedSimpArgs false
set_option linter.unusedVariables false
def ord51 : Nat → List (Tag × Nat)
  | _ => []
def al51 : Nat → Option Nat
  | _ => none
def ms51 : Nat → Option (List (Option Tag × Nat × List Nat))
  | _ => none
def E51 (F : Nat) : Ev := ⟨cfg, 22, ctOf [(72, ct72 F), (52, ct52 F)], ord51, ctOf [], al51, ms51⟩
theorem cts51 (F : Nat) : CtsOk Tryd.prog (E51 F) := cts_of (l := [(72, ct72 F), (52, ct52 F)]) (l' := []) rfl rfl ⟨⟨ok72 F, _, Tryd.func72, rfl, rfl⟩, ⟨⟨ok52 F, _, Tryd.func52, rfl, rfl⟩, trivial⟩⟩ trivial
def L51_2c (F : Nat) (y13 : List ((List UInt8) × Int × Int × Int × Int × (List ((List UInt8) × Int × Int × Unit)) × Unit)) (y14 : Int) (y15 : Int) (y16 : Int) (y17 : List UInt8) {β : Type} (kA : (Int × Int × (List UInt8)) → Option β) (kO : (Int × (List UInt8)) → Option β) : Option β :=
  (bif (decide (y15 < y14)) then (Option.bind (ix y13 y15) fun x20 => (Option.bind (T52 F x20.1 x20.2.1 x20.2.2.1 x20.2.2.2.1 x20.2.2.2.2.1 x20.2.2.2.2.2.1 y16 y17) fun z21 => (kA ((w64 (y15 + (1 : Int))), z21.1, z21.2)))) else (kO (y16, y17)))
def L51_2 (F : Nat) (y13 : List ((List UInt8) × Int × Int × Int × Int × (List ((List UInt8) × Int × Int × Unit)) × Unit)) (y14 : Int) (y15 : Int) (y16 : Int) (y17 : List UInt8) : Option ((Int × Int × (List UInt8)) ⊕ (Int × (List UInt8))) := L51_2c F y13 y14 y15 y16 y17 (fun s => some (.inl s)) (fun z => some (.inr z))
theorem L51_2n (F : Nat) (y13 : List ((List UInt8) × Int × Int × Int × Int × (List ((List UInt8) × Int × Int × Unit)) × Unit)) (y14 : Int) (y15 : Int) (y16 : Int) (y17 : List UInt8) {β : Type} (kA : (Int × Int × (List UInt8)) → Option β) (kO : (Int × (List UInt8)) → Option β) : L51_2c F y13 y14 y15 y16 y17 kA kO = (L51_2 F y13 y14 y15 y16 y17).bind (elimS kA kO) := by
  simp only [L51_2, L51_2c, Option.bind_assoc, cond_bind, Option.bind_some, Option.bind_none, elimS_l, elimS_r, elimS_bind]
@[reducible] def sA51_2 : List Sh := [(.fn 52 .un (.pr (.pt 1 []) (.pr (.pt 2 []) .un))), (.ro (.pr .s (.pr .i (.pr .i (.pr .i (.pr .i (.pr (.sl (.pr .s (.pr .i (.pr .i .un)))) .un))))))), .i, .i]
@[reducible] def sAp151_2 : List Sh := []
@[reducible] def sT51_2 : List TSh := [.blk 112 (.pr (.rw 4) (.pr .i .un)), .blk 75 (.pt 0 []), .blk 89 (.fn 50 .un (.pr (.pt 1 []) .un)), .no, .row 5 .u8]
@[reducible] def sTp151_2 : List TSh := [.blk 112 (.pr (.rw 4) (.pr .i .un)), .blk 75 (.pt 0 []), .blk 89 (.fn 50 .un (.pr (.pt 1 []) .un)), .no, .row 5 .u8]
def lc51_2 (F : Nat) : Lc := mkL [2, 12, 13, 14] sA51_2 sT51_2 [] sAp151_2 sTp151_2 F (fun x y (s : Int × Int × (List UInt8)) => L51_2 F x.2.1 x.2.2.1 s.1 s.2.1 s.2.2) (fun x y => (x.2.2.2.1, y.1.2.1, y.2.2.2.2.1)) (fun x y (z : Int × (List UInt8)) => ((), (((), z.1, ()), (), ((), ((), ())), (), z.2, ())))
theorem le51_2 (F : Nat) (x : dens sA51_2) (y : tdens sT51_2) (s : Int × Int × (List UInt8)) : sev (E51 F) 4 [] (cAt (bodyOf Tryd.f51) (0 :: 0 :: [1, 1])) (0 :: 0 :: [1, 1]) (mkSt [2, 12, 13, 14] sA51_2 sT51_2 (((), ((), (), ())), x.2.1, x.2.2.1, s.1, ()) (((), s.2.1, ()), (), ((), ((), ())), (), s.2.2, ())) (kLoop 4 [2, 12, 13, 14] sA51_2 sT51_2 [] sAp151_2 sTp151_2 [] [] [] 0 (fun x y => some (.inl (x, y))) (fun x y => some (.inr (.inl (x, y)))) (fun x y => some (.inr (.inr (x, y))))) =
    L51_2c (β := Full sA51_2 sT51_2 sAp151_2 sTp151_2 [] []) F x.2.1 x.2.2.1 s.1 s.2.1 s.2.2 (fun s => some (.inl ((((), ((), (), ())), x.2.1, x.2.2.1, s.1, ()), (((), s.2.1, ()), (), ((), ((), ())), (), s.2.2, ())))) (fun z => some (.inr (.inl ((), (((), z.1, ()), (), ((), ((), ())), (), z.2, ()))))) := by kernel_rfl
theorem lo51_2 (F : Nat) : LcOk Tryd.prog (E51 F) 4 (lc51_2 F) (cAt (bodyOf Tryd.f51) [1, 1]) :=
  mkL_ok (lp := []) (id := 0) (b := cAt (bodyOf Tryd.f51) (0 :: 0 :: [1, 1])) cok (cts51 F) mixed trivial (by kernel_rfl) (by kernel_rfl) (fun x y s => (((), ((), (), ())), x.2.1, x.2.2.1, s.1, ())) (fun x y s => (((), s.2.1, ()), (), ((), ((), ())), (), s.2.2, ())) (fun x y => rfl) (fun x y => rfl) (fun x y s kA kO => L51_2c F x.2.1 x.2.2.1 s.1 s.2.1 s.2.2 kA kO) (fun x y s kA kO => L51_2n F x.2.1 x.2.2.1 s.1 s.2.1 s.2.2 kA kO) (le51_2 F)
def T51c (F : Nat) (p0 : List ((List UInt8) × Int × Int × Int × Int × (List ((List UInt8) × Int × Int × Unit)) × Unit)) (p1 : Int) (p2 : List UInt8) {β : Type} (k : (Int × (List UInt8)) → Option β) : Option β :=
  (Option.bind (T72 F (p0.length : Int) p1 p2) fun z12 => (Option.bind (iter (fun s => L51_2 F p0 (p0.length : Int) s.1 s.2.1 s.2.2) F ((0 : Int), z12.1, z12.2)) fun z22 => (k (z22.1, z22.2))))
def T51 (F : Nat) (p0 : List ((List UInt8) × Int × Int × Int × Int × (List ((List UInt8) × Int × Int × Unit)) × Unit)) (p1 : Int) (p2 : List UInt8) : Option (Int × (List UInt8)) := T51c F p0 p1 p2 some
theorem T51n (F : Nat) (p0 : List ((List UInt8) × Int × Int × Int × Int × (List ((List UInt8) × Int × Int × Unit)) × Unit)) (p1 : Int) (p2 : List UInt8) {β : Type} (k : (Int × (List UInt8)) → Option β) : T51c F p0 p1 p2 k = (T51 F p0 p1 p2).bind k := by
  simp only [T51, T51c, Option.bind_assoc, cond_bind, Option.bind_some, Option.bind_none, elimS_bind]
@[reducible] def cA51 : List Sh := [(.pt 0 []), (.ro (.pr .s (.pr .i (.pr .i (.pr .i (.pr .i (.pr (.sl (.pr .s (.pr .i (.pr .i .un)))) .un))))))), (.fn 52 .un (.pr (.pt 1 []) (.pr (.pt 2 []) .un)))]
@[reducible] def cB51 : List Sh := []
@[reducible] def cT51 : List TSh := [.blk 112 (.pr (.rw 3) (.pr .i .un)), .blk 75 (.pt 0 []), .blk 89 (.fn 50 .un (.pr (.pt 1 []) .un)), .row 5 .u8]
@[reducible] def cU51 : List TSh := [.blk 112 (.pr (.rw 4) (.pr .i .un)), .blk 75 (.pt 0 []), .blk 89 (.fn 50 .un (.pr (.pt 1 []) .un)), .no, .row 5 .u8]
def ct51 (F : Nat) : Ct := mkC 4 cA51 cT51 cB51 cU51 (fun x y => T51 F x.2.1 y.1.2.1 y.2.2.2.1) (fun x y (z : Int × (List UInt8)) => ((), (((), z.1, ()), (), ((), ((), ())), (), z.2, ())))
theorem eq51 (F : Nat) (x : dens cA51) (y : tdens cT51) : sev (E51 F) 4 [([1, 1], lc51_2 F)] (bodyOf Tryd.f51) [] (mkSt (rng 3) cA51 cT51 x y) (kFn (E51 F) 4 Tryd.f51.results.toList cB51 cU51 fun p q => some (p, q)) =
    T51c F x.2.1 y.1.2.1 y.2.2.2.1 (fun z => some ((), (((), z.1, ()), (), ((), ((), ())), (), z.2, ()))) := by kernel_rfl
theorem ok51 (F : Nat) : Sound Tryd.prog cfg 51 (ct51 F) :=
  mkC_ok (E := E51 F) (lp := [([1, 1], lc51_2 F)]) (code := bodyOf Tryd.f51) Tryd.func51 rfl Tryd.ntmps51 rfl rfl cok (cts51 F) mixed ⟨lo51_2 F, trivial⟩ (by kernel_rfl) (fun x y k => T51c F x.2.1 y.1.2.1 y.2.2.2.1 k) (fun x y k => T51n F x.2.1 y.1.2.1 y.2.2.2.1 k) (eq51 F)
end Go.Proofs.YthikoaamigiceaaDoor
/- (*kinkeep/wire.Writer).Done: its twin, and that the call does what the twin says. Printed by a program. -/
namespace Go.Proofs.YthikoaamigiceaaDoor
open Go.Tw
set_option linter.unusedSimpArgs false
set_option linter.unusedVariables false
def ord55 : Nat → List (Tag × Nat)
  | 2 => [(.p, 0), (.p, 1), (.p, 2), (.r, 3), (.p, 4), (.p, 5)]
  | _ => []
def al55 : Nat → Option Nat
  | _ => none
def ms55 : Nat → Option (List (Option Tag × Nat × List Nat))
  | _ => none
def E55 (F : Nat) : Ev := ⟨cfg, 25, ctOf [], ord55, ctOf [], al55, ms55⟩
theorem cts55 (F : Nat) : CtsOk Tryd.prog (E55 F) := cts_of (l := []) (l' := []) rfl rfl trivial trivial
def T55c (F : Nat) (p0 : Int) (p1 : List UInt8) {β : Type} (k : (Int × (List UInt8)) → Option β) : Option β :=
  (bif (p0 != (0 : Int)) then (k (p0, ([] : List UInt8))) else (bif (decide ((1048576 : Int) < (p1.length : Int))) then (k ((2 : Int), ([] : List UInt8))) else (Option.bind (gapp ([] : List UInt8) p1) fun x2 => (k ((0 : Int), x2)))))
def T55 (F : Nat) (p0 : Int) (p1 : List UInt8) : Option (Int × (List UInt8)) := T55c F p0 p1 some
theorem T55n (F : Nat) (p0 : Int) (p1 : List UInt8) {β : Type} (k : (Int × (List UInt8)) → Option β) : T55c F p0 p1 k = (T55 F p0 p1).bind k := by
  simp only [T55, T55c, Option.bind_assoc, cond_bind, Option.bind_some, Option.bind_none, elimS_bind]
@[reducible] def cA55 : List Sh := [(.pt 0 [])]
@[reducible] def cB55 : List Sh := [(.rw 2), .i]
@[reducible] def cT55 : List TSh := [.blk 112 (.pr (.rw 1) (.pr .i .un)), .row 5 .u8]
@[reducible] def cU55 : List TSh := [.blk 112 (.pr (.rw 1) (.pr .i .un)), .row 5 .u8, .row 5 .u8]
def ct55 (F : Nat) : Ct := mkC 2 cA55 cT55 cB55 cU55 (fun x y => T55 F y.1.2.1 y.2.1) (fun x y (z : Int × (List UInt8)) => (((), z.1, ()), (((), y.1.2.1, ()), y.2.1, z.2, ())))
theorem eq55 (F : Nat) (x : dens cA55) (y : tdens cT55) : sev (E55 F) 2 [] (bodyOf Tryd.f55) [] (mkSt (rng 1) cA55 cT55 x y) (kFn (E55 F) 2 Tryd.f55.results.toList cB55 cU55 fun p q => some (p, q)) =
    T55c F y.1.2.1 y.2.1 (fun z => some (((), z.1, ()), (((), y.1.2.1, ()), y.2.1, z.2, ()))) := by kernel_rfl
theorem ok55 (F : Nat) : Sound Tryd.prog cfg 55 (ct55 F) :=
  mkC_ok (E := E55 F) (lp := []) (code := bodyOf Tryd.f55) Tryd.func55 rfl Tryd.ntmps55 rfl rfl cok (cts55 F) mixed trivial (by kernel_rfl) (fun x y k => T55c F y.1.2.1 y.2.1 k) (fun x y k => T55n F y.1.2.1 y.2.1 k) (eq55 F)
end Go.Proofs.YthikoaamigiceaaDoor
/- kinkeep/keyring.EncodeIndex: its twin, and that the call does what the twin says. Printed by a program. -/
namespace Go.Proofs.YthikoaamigiceaaDoor
open Go.Tw
set_option linter.unusedSimpArgs false
set_option linter.unusedVariables false
def ord25 : Nat → List (Tag × Nat)
  | _ => []
def al25 : Nat → Option Nat
  | _ => none
def ms25 : Nat → Option (List (Option Tag × Nat × List Nat))
  | _ => none
def E25 (F : Nat) : Ev := ⟨cfg, 53, ctOf [(39, ct39 F), (40, ct40 F), (41, ct41 F), (42, ct42 F), (45, ct45 F), (51, ct51 F), (54, ct54 F), (55, ct55 F)], ord25, ctOf [], al25, ms25⟩
theorem cts25 (F : Nat) : CtsOk Tryd.prog (E25 F) := cts_of (l := [(39, ct39 F), (40, ct40 F), (41, ct41 F), (42, ct42 F), (45, ct45 F), (51, ct51 F), (54, ct54 F), (55, ct55 F)]) (l' := []) rfl rfl ⟨⟨ok39 F, _, Tryd.func39, rfl, rfl⟩, ⟨⟨ok40 F, _, Tryd.func40, rfl, rfl⟩, ⟨⟨ok41 F, _, Tryd.func41, rfl, rfl⟩, ⟨⟨ok42 F, _, Tryd.func42, rfl, rfl⟩, ⟨⟨ok45 F, _, Tryd.func45, rfl, rfl⟩, ⟨⟨ok51 F, _, Tryd.func51, rfl, rfl⟩, ⟨⟨ok54 F, _, Tryd.func54, rfl, rfl⟩, ⟨⟨ok55 F, _, Tryd.func55, rfl, rfl⟩, trivial⟩⟩⟩⟩⟩⟩⟩⟩ trivial
def T25c (F : Nat) (p0 : Int) (p1 : Int) (p2 : List Int) (p3 : List (Int × Int × Int × ((List UInt8) × Int × Int × Unit) × Int × Int × (List UInt8) × Bool × Unit)) (p4 : List ((List UInt8) × Int × Int × Int × Int × (List ((List UInt8) × Int × Int × Unit)) × Unit)) (p5 : List ((List UInt8) × Int × Int × Unit)) {β : Type} (k : (Int × (List UInt8)) → Option β) : Option β :=
  (Option.bind (T39 F p0 p1 p2 p3 p4 p5) fun z9 => (bif (!z9) then (k ((1 : Int), ([] : List UInt8))) else (Option.bind (T40 F) fun z10 => (Option.bind (T41 F ([p0, p1] : List Int) z10) fun z11 => (Option.bind (T42 F p2 z10 z11) fun z12 => (Option.bind (T45 F p3 z12.1 z12.2) fun z13 => (Option.bind (T51 F p4 z13.1 z13.2) fun z14 => (Option.bind (T54 F p5 z14.1 z14.2) fun z15 => (Option.bind (T55 F z15.1 z15.2) fun z16 => (bif (z16.1 != (0 : Int)) then (k ((2 : Int), ([] : List UInt8))) else (bif (decide ((1048560 : Int) < (z16.2.length : Int))) then (k ((2 : Int), ([] : List UInt8))) else (k ((0 : Int), z16.2)))))))))))))
def T25 (F : Nat) (p0 : Int) (p1 : Int) (p2 : List Int) (p3 : List (Int × Int × Int × ((List UInt8) × Int × Int × Unit) × Int × Int × (List UInt8) × Bool × Unit)) (p4 : List ((List UInt8) × Int × Int × Int × Int × (List ((List UInt8) × Int × Int × Unit)) × Unit)) (p5 : List ((List UInt8) × Int × Int × Unit)) : Option (Int × (List UInt8)) := T25c F p0 p1 p2 p3 p4 p5 some
theorem T25n (F : Nat) (p0 : Int) (p1 : Int) (p2 : List Int) (p3 : List (Int × Int × Int × ((List UInt8) × Int × Int × Unit) × Int × Int × (List UInt8) × Bool × Unit)) (p4 : List ((List UInt8) × Int × Int × Int × Int × (List ((List UInt8) × Int × Int × Unit)) × Unit)) (p5 : List ((List UInt8) × Int × Int × Unit)) {β : Type} (k : (Int × (List UInt8)) → Option β) : T25c F p0 p1 p2 p3 p4 p5 k = (T25 F p0 p1 p2 p3 p4 p5).bind k := by
  simp only [T25, T25c, Option.bind_assoc, cond_bind, Option.bind_some, Option.bind_none, elimS_bind]
@[reducible] def cA25 : List Sh := [(.pr .i (.pr .i (.pr (.ro .i) (.pr (.ro (.pr .i (.pr .i (.pr .i (.pr (.pr .s (.pr .i (.pr .i .un))) (.pr .i (.pr .i (.pr .s (.pr .bo .un))))))))) (.pr (.ro (.pr .s (.pr .i (.pr .i (.pr .i (.pr .i (.pr (.sl (.pr .s (.pr .i (.pr .i .un)))) .un))))))) (.pr (.ro (.pr .s (.pr .i (.pr .i .un)))) .un))))))]
@[reducible] def cB25 : List Sh := [(.rw 0), .i]
@[reducible] def cT25 : List TSh := []
@[reducible] def cU25 : List TSh := [.row 5 .u8]
def ct25 (F : Nat) : Ct := mkC 0 cA25 cT25 cB25 cU25 (fun x y => T25 F x.1.1 x.1.2.1 x.1.2.2.1 x.1.2.2.2.1 x.1.2.2.2.2.1 x.1.2.2.2.2.2.1) (fun x y (z : Int × (List UInt8)) => (((), z.1, ()), (z.2, ())))
theorem eq25 (F : Nat) (x : dens cA25) (y : tdens cT25) : sev (E25 F) 0 [] (bodyOf Tryd.f25) [] (mkSt (rng 1) cA25 cT25 x y) (kFn (E25 F) 0 Tryd.f25.results.toList cB25 cU25 fun p q => some (p, q)) =
    T25c F x.1.1 x.1.2.1 x.1.2.2.1 x.1.2.2.2.1 x.1.2.2.2.2.1 x.1.2.2.2.2.2.1 (fun z => some (((), z.1, ()), (z.2, ()))) := by kernel_rfl
theorem ok25 (F : Nat) : Sound Tryd.prog cfg 25 (ct25 F) :=
  mkC_ok (E := E25 F) (lp := []) (code := bodyOf Tryd.f25) Tryd.func25 rfl Tryd.ntmps25 rfl rfl cok (cts25 F) mixed trivial (by kernel_rfl) (fun x y k => T25c F x.1.1 x.1.2.1 x.1.2.2.1 x.1.2.2.2.1 x.1.2.2.2.2.1 x.1.2.2.2.2.2.1 k) (fun x y k => T25n F x.1.1 x.1.2.1 x.1.2.2.1 x.1.2.2.2.1 x.1.2.2.2.2.1 x.1.2.2.2.2.2.1 k) (eq25 F)
end Go.Proofs.YthikoaamigiceaaDoor
/- kinkeep/kinkeeplaw31.awake: its twin, and that the call does what the twin says. Printed by a program. -/
namespace Go.Proofs.YthikoaamigiceaaDoor
open Go.Tw
set_option linter.unusedSimpArgs false
set_option linter.unusedVariables false
def ord9 : Nat → List (Tag × Nat)
  | 2 => []
  | 5 => [(.p, 0), (.p, 1), (.p, 2), (.p, 3), (.r, 4), (.p, 5), (.r, 6), (.p, 7), (.p, 8), (.p, 9), (.p, 10), (.r, 11), (.p, 12), (.p, 13), (.p, 14), (.p, 15), (.p, 16), (.p, 17), (.p, 18), (.p, 19), (.p, 20), (.p, 21), (.p, 22), (.p, 23), (.p, 24), (.p, 25), (.p, 26), (.p, 27), (.r, 28), (.p, 29), (.p, 30), (.p, 31), (.p, 32), (.p, 33), (.p, 34), (.c, 35), (.c, 36), (.w, 37), (.p, 38), (.p, 39), (.p, 40), (.p, 41), (.p, 42), (.p, 43), (.p, 44), (.p, 45), (.p, 46), (.p, 47), (.p, 48), (.p, 49), (.p, 50), (.p, 51), (.p, 52), (.p, 53), (.p, 54), (.p, 55), (.p, 56), (.p, 57)]
  | _ => []
def al9 : Nat → Option Nat
  | _ => none
def ms9 : Nat → Option (List (Option Tag × Nat × List Nat))
  | 2 => some [(some .w, 0, [1, 2]), (none, 1, [2]), (none, 2, []), (some .w, 3, []), (some .p, 4, []), (some .p, 5, []), (some .p, 6, []), (some .p, 7, []), (some .p, 8, [])]
  | _ => none
def E9 (F : Nat) : Ev := ⟨cfg, 87, ctOf [(22, ct22 F), (14, ct14 F), (10, ct10 F), (25, ct25 F), (12, ct12 F)], ord9, ctOf [], al9, ms9⟩
theorem cts9 (F : Nat) : CtsOk Tryd.prog (E9 F) := cts_of (l := [(22, ct22 F), (14, ct14 F), (10, ct10 F), (25, ct25 F), (12, ct12 F)]) (l' := []) rfl rfl ⟨⟨ok22 F, _, Tryd.func22, rfl, rfl⟩, ⟨⟨ok14 F, _, Tryd.func14, rfl, rfl⟩, ⟨⟨ok10 F, _, Tryd.func10, rfl, rfl⟩, ⟨⟨ok25 F, _, Tryd.func25, rfl, rfl⟩, ⟨⟨ok12 F, _, Tryd.func12, rfl, rfl⟩, trivial⟩⟩⟩⟩⟩ trivial
def T9c (F : Nat) {β : Type} (k : Bool → Option β) : Option β :=
  (Option.bind (T22 F (UInt8.ofNat 1)) fun z12 => (Option.bind (T14 F z12) fun z13 => (Option.bind (T22 F (UInt8.ofNat 1)) fun z14 => (Option.bind (T10 F z14 (2 : Int) ([(0 : Int), (3 : Int), (5 : Int)] : List Int) (List.replicate 32 (0 : UInt8))) fun z15 => (Option.bind (T25 F (0 : Int) (0 : Int) ([] : List Int) ([] : List (Int × Int × Int × ((List UInt8) × Int × Int × Unit) × Int × Int × (List UInt8) × Bool × Unit)) ([] : List ((List UInt8) × Int × Int × Int × Int × (List ((List UInt8) × Int × Int × Unit)) × Unit)) ([] : List ((List UInt8) × Int × Int × Unit))) fun z16 => (Option.bind (T12 F (1015 : Int)) fun z17 => (bif (z13.2.2.2.2.2 == (0 : Int)) then (bif (z13.1 != z13.2.1) then (bif ((z13.2.2.2.2.1.length : Int) == (32 : Int)) then (bif (z15.1 == (0 : Int)) then (bif ((z15.2.length : Int) == (3 : Int)) then (Option.bind (inb z15.2.length (1 : Int)) fun x18 => (Option.bind (z15.2[x18]?) fun x19 => (bif (x19.1 == (4 : Int)) then (Option.bind (inb z15.2.length (1 : Int)) fun x20 => (Option.bind (z15.2[x20]?) fun x21 => (Option.bind (T22 F (UInt8.ofNat 1)) fun z22 => (bif (x21.2.1 == z22) then (bif (z16.1 == (0 : Int)) then (bif ((z16.2.length : Int) == (6 : Int)) then (bif (z17.1 == (2048 : Int)) then (k (z17.2 == (0 : Int))) else (k false)) else (k false)) else (k false)) else (k false))))) else (k false)))) else (k false)) else (k false)) else (k false)) else (k false)) else (k false))))))))
def T9 (F : Nat) : Option (Bool) := T9c F some
theorem T9n (F : Nat) {β : Type} (k : Bool → Option β) : T9c F k = (T9 F).bind k := by
  simp only [T9, T9c, Option.bind_assoc, cond_bind, Option.bind_some, Option.bind_none, elimS_bind]
@[reducible] def cA9 : List Sh := []
@[reducible] def cB9 : List Sh := [.bo]
@[reducible] def cT9 : List TSh := []
@[reducible] def cU9 : List TSh := []
def ct9 (F : Nat) : Ct := mkC 0 cA9 cT9 cB9 cU9 (fun x y => T9 F) (fun x y (z : Bool) => ((z, ()), ()))
theorem eq9 (F : Nat) (x : dens cA9) (y : tdens cT9) : sev (E9 F) 0 [] (bodyOf Tryd.f9) [] (mkSt (rng 0) cA9 cT9 x y) (kFn (E9 F) 0 Tryd.f9.results.toList cB9 cU9 fun p q => some (p, q)) =
    T9c F (fun z => some ((z, ()), ())) := by kernel_rfl
theorem ok9 (F : Nat) : Sound Tryd.prog cfg 9 (ct9 F) :=
  mkC_ok (E := E9 F) (lp := []) (code := bodyOf Tryd.f9) Tryd.func9 rfl Tryd.ntmps9 rfl rfl cok (cts9 F) mixed trivial (by kernel_rfl) (fun x y k => T9c F k) (fun x y k => T9n F k) (eq9 F)
end Go.Proofs.YthikoaamigiceaaDoor
/- kinkeep/kinkeeplaw31.KeyringClass: its twin, and that the call does what the twin says. Printed by a program. -/
namespace Go.Proofs.YthikoaamigiceaaDoor
open Go.Tw
set_option linter.unusedSimpArgs false
set_option linter.unusedVariables false
def ord4 : Nat → List (Tag × Nat)
  | _ => []
def al4 : Nat → Option Nat
  | _ => none
def ms4 : Nat → Option (List (Option Tag × Nat × List Nat))
  | _ => none
def E4 (F : Nat) : Ev := ⟨cfg, 28, ctOf [(12, ct12 F), (13, ct13 F), (9, ct9 F)], ord4, ctOf [], al4, ms4⟩
theorem cts4 (F : Nat) : CtsOk Tryd.prog (E4 F) := cts_of (l := [(12, ct12 F), (13, ct13 F), (9, ct9 F)]) (l' := []) rfl rfl ⟨⟨ok12 F, _, Tryd.func12, rfl, rfl⟩, ⟨⟨ok13 F, _, Tryd.func13, rfl, rfl⟩, ⟨⟨ok9 F, _, Tryd.func9, rfl, rfl⟩, trivial⟩⟩⟩ trivial
def T4c (F : Nat) (p0 : Int) {β : Type} (k : Bool → Option β) : Option β :=
  (Option.bind (T12 F p0) fun z4 => (Option.bind (T13 F p0) fun z5 => (Option.bind (T9 F) fun z6 => (bif z6 then (bif (z4.1 == z5.1) then (k (z4.2 == z5.2)) else (k false)) else (k false)))))
def T4 (F : Nat) (p0 : Int) : Option (Bool) := T4c F p0 some
theorem T4n (F : Nat) (p0 : Int) {β : Type} (k : Bool → Option β) : T4c F p0 k = (T4 F p0).bind k := by
  simp only [T4, T4c, Option.bind_assoc, cond_bind, Option.bind_some, Option.bind_none, elimS_bind]
@[reducible] def cA4 : List Sh := [.i]
@[reducible] def cB4 : List Sh := [.bo]
@[reducible] def cT4 : List TSh := []
@[reducible] def cU4 : List TSh := []
def ct4 (F : Nat) : Ct := mkC 0 cA4 cT4 cB4 cU4 (fun x y => T4 F x.1) (fun x y (z : Bool) => ((z, ()), ()))
theorem eq4 (F : Nat) (x : dens cA4) (y : tdens cT4) : sev (E4 F) 0 [] (bodyOf Tryd.f4) [] (mkSt (rng 1) cA4 cT4 x y) (kFn (E4 F) 0 Tryd.f4.results.toList cB4 cU4 fun p q => some (p, q)) =
    T4c F x.1 (fun z => some ((z, ()), ())) := by kernel_rfl
theorem ok4 (F : Nat) : Sound Tryd.prog cfg 4 (ct4 F) :=
  mkC_ok (E := E4 F) (lp := []) (code := bodyOf Tryd.f4) Tryd.func4 rfl Tryd.ntmps4 rfl rfl cok (cts4 F) mixed trivial (by kernel_rfl) (fun x y k => T4c F x.1 k) (fun x y k => T4n F x.1 k) (eq4 F)
end Go.Proofs.YthikoaamigiceaaDoor
