/- The evaluator of operations that touch no memory: a list of them is walked in one step. No program is in it. -/
import Derived.Test.YtoglnkhchifeiaaCore2
namespace Go.Tw
set_option linter.unusedSimpArgs false
set_option linter.unusedVariables false

/-- Two tables of a program's types. -/
structure TOk (P : Program) (T : Nat → Option TypeDesc) (Z : Nat → Option Nat) : Prop where
  desc : ∀ t d, T t = some d → P.underlying t = some d
  size : ∀ t n, Z t = some n → ∀ w, (sizeOf t).run P w = .ok n w

def nthS : List S0 → Nat → Option S0
  | [], _ => none
  | x :: _, 0 => some x
  | _ :: xs, k + 1 => nthS xs k

theorem nthS_eq : ∀ (l : List S0) (k : Nat), nthS l k = l[k]?
  | [], k => by simp [nthS]
  | o :: os, 0 => by simp [nthS]
  | o :: os, k + 1 => by simp only [nthS]; rw [nthS_eq os k]; simp

def lenV : TypeDesc → SV → Option SV
  | .string, .o (.s s) => some (.o (.i s.length))
  | .slice _, .o (.v (.slice _ n _)) => some (.o (.i n))
  | .array n _, _ => some (.o (.i n))
  | _, _ => none

def binV (T : Nat → Option TypeDesc) (op : BinOp) (t : Nat) : SV → SV → Option SV
  | .o (.b x), .o (.b y) => match T t with
    | some .bool => (bopB op x y).map .o
    | _ => none
  | .o x, .o y => (bop op x y).map .o
  | _, _ => none

def convV : TypeDesc → SV → Option SV
  | .int k, .o x => (conv k x).map .o
  | _, _ => none

def idxV (Z : Nat → Option Nat) (len : Nat) (e : Nat) (b o : Nat) : SV → Option SV
  | .o (.i (.ofNat i)) => bif Nat.blt i len then (match Z e with
      | some s => some (.o (.v (.pointer (some ⟨b, o + i * s, none⟩))))
      | none => none) else none
  | _ => none

def lenC (T : Nat → Option TypeDesc) (l : Env) : List Operand → List TypeId → Option SV
  | [x], [t] => match T t, opd l x with
    | some d, some x => lenV d x
    | _, _ => none
  | _, _ => none

def stepV (T : Nat → Option TypeDesc) (Z : Nat → Option Nat) (l : Env) : Op → Option SV
  | .move x => opd l x
  | .assign x => opd l x
  | .pick c a b => match opd l c with
    | some (.o (.b true)) => opd l a
    | some (.o (.b false)) => opd l b
    | _ => none
  | .binOp op t x y _ => match opd l x, opd l y with
    | some x, some y => binV T op t x y
    | _, _ => none
  | .unOp op _ x => match opd l x with
    | some (.o x) => (uop op x).map .o
    | _ => none
  | .convert src dst x => match T src, T dst, opd l x with
    | some _, some d, some x => convV d x
    | _, _, _ => none
  | .extract t i => match opd l t with
    | some (.t xs) => (nthS xs i).map .o
    | _ => none
  | .call c => match c.callee with
    | .builtin .len => lenC T l c.args.toList c.argTypes.toList
    | _ => none
  | .indexAddr t x i => match T t, opd l x, opd l i with
    | some (.array len e), some (.o (.v (.pointer (some ⟨b, o, none⟩)))), some i => idxV Z len e b o i
    | _, _, _ => none
  | _ => none

theorem size_mk (l : List UInt8) : (ByteArray.mk l.toArray).size = l.length := by show l.toArray.size = _; simp

theorem add_zero (a : Addr) (h : a.spot = none) (n : Nat) : a.add n = ⟨a.block, a.off + n, none⟩ := by
  unfold Addr.add
  split
  · rename_i h0; subst h0; cases a; simp at h; subst h; rfl
  · rfl

theorem stepV_run {P : Program} {T : Nat → Option TypeDesc} {Z : Nat → Option Nat} (hT : TOk P T Z) {n : Nat} {a : Act} {l : Env} (h : Fr n a l) {o : Oper} {v : SV} (e : stepV T Z l o.op = some v) (w : World) :
    (execOp a.eval o).run P w = .ok (.value v.val) w := by
  obtain ⟨dst, op, ty, pos, af, g⟩ := o
  simp only at e
  cases op <;> simp only [stepV] at e <;> try (cases e; done)
  case move x => simp [execOp, opd_val h e]
  case assign x => simp [execOp, opd_val h e]
  case pick c x y =>
    split at e
    · rename_i hc; simp [execOp, opd_val h hc, opd_val h e, asBool]
    · rename_i hc; simp [execOp, opd_val h hc, opd_val h e, asBool]
    · cases e
  case binOp op t x y t' =>
    split at e
    case h_2 => cases e
    rename_i x' y' hx hy
    have key : (eqGuard op t x y x'.val y'.val).run P w = .ok () w ∧ (binOp op t x'.val y'.val).run P w = .ok v.val w := by
      unfold binV at e
      split at e
      · split at e
        · rename_i hb
          simp only [Option.map_eq_some_iff] at e
          obtain ⟨z, hz, rfl⟩ := e
          exact ⟨eqGuard_run (by simp [SV.val, S0.val]) (by simp [SV.val, S0.val]), bopB_run (hT.desc _ _ hb) hz⟩
        · cases e
      · rename_i x y _
        simp only [Option.map_eq_some_iff] at e
        obtain ⟨z, hz, rfl⟩ := e
        unfold bop at hz
        split at hz
        · split at hz
          · rename_i hc
            refine ⟨?_, sop_run hc hz⟩
            cases op <;> first | (simp only [sop] at hz; cases hz; done) | skip
            · simp [eqGuard]
            · simp [eqGuard]
          · cases hz
        · split at hz
          · exact ⟨eqGuard_run (by simp [SV.val, S0.val]) (by simp [SV.val, S0.val]), bopI_run hz⟩
          · exact ⟨eqGuard_run (by simp [SV.val, S0.val]) (by simp [SV.val, S0.val]), bop8_run hz⟩
          · exact ⟨eqGuard_run (by simp [SV.val, S0.val]) (by simp [SV.val, S0.val]), bop32_run hz⟩
          · exact ⟨eqGuard_run (by simp [SV.val, S0.val]) (by simp [SV.val, S0.val]), bop64_run hz⟩
          · exact ⟨eqGuard_run (by simp [SV.val, S0.val]) (by simp [SV.val, S0.val]), bopS_run hz⟩
          · cases hz
      · cases e
    simp only [execOp, opd_val h hx, opd_val h hy]
    simp [key.1, key.2]
  case unOp op t x =>
    split at e
    case h_2 => cases e
    rename_i x' hx
    simp only [Option.map_eq_some_iff] at e
    obtain ⟨z, hz, rfl⟩ := e
    simp only [execOp, opd_val h hx]
    simp [SV.val, uop_run hz]
  case convert src dst x =>
    split at e
    case h_2 => cases e
    rename_i d0 d x' h0 h1 hx
    unfold convV at e
    split at e
    case h_2 => cases e
    rename_i k y
    simp only [Option.map_eq_some_iff] at e
    obtain ⟨z, hz, rfl⟩ := e
    obtain ⟨j, m, h2, h3⟩ := conv_val hz
    have h4 : (SV.o y).val = .int j m := h2
    simp only [execOp, opd_val h hx, h4]
    have : (convert src dst (.int j m)).run P w = .ok z.val w := by
      rw [h3]
      unfold convert
      simp [run_underlying (hT.desc _ _ h0), run_underlying (hT.desc _ _ h1), Conv.intToInt]
    simp [this]
  case extract t i =>
    split at e
    case h_2 => cases e
    rename_i xs hx
    simp only [Option.map_eq_some_iff] at e
    obtain ⟨z, hz, rfl⟩ := e
    rw [nthS_eq] at hz
    simp only [execOp, opd_val h hx]
    simp [SV.val, Instr.extract, hz]
  case call c =>
    obtain ⟨callee, args, ts⟩ := c
    simp only at e
    split at e
    case h_2 => cases e
    unfold lenC at e
    split at e
    case h_2 => cases e
    rename_i x t ha hts
    split at e
    case h_2 => cases e
    rename_i d x' hd hx
    have ha' : args = #[x] := by rw [← Array.toArray_toList (xs := args), ha]
    have ht' : ts = #[t] := by rw [← Array.toArray_toList (xs := ts), hts]
    subst ha' ht'
    have : (Builtin.len_ #[t] ty #[x'.val]).run P w = .ok v.val w := by
      unfold lenV at e
      split at e <;> first | (cases e; done) | skip
      all_goals (simp only [Option.some.injEq] at e; subst e)
      · simp [Builtin.len_, run_underlying (hT.desc _ _ hd), goInt, SV.val, S0.val, size_mk]
      · simp [Builtin.len_, run_underlying (hT.desc _ _ hd), goInt, SV.val, S0.val]
      · simp [Builtin.len_, run_underlying (hT.desc _ _ hd), goInt, SV.val, S0.val]
    simp [execOp, resolve, invoke, builtin, opd_val h hx, this]
  case indexAddr t x i =>
    split at e
    case h_2 => cases e
    rename_i len el b o i' hd hx hi
    unfold idxV at e
    split at e
    case h_2 => cases e
    rename_i k
    cases hb : Nat.blt k len with
    | false => simp [hb] at e
    | true =>
      simp only [hb, cond_true] at e
      split at e
      case h_2 => cases e
      rename_i s hs
      simp only [Option.some.injEq] at e; subst e
      have hk : k < len := by simpa [Nat.blt_eq] using hb
      have hk2 : ((Int.ofNat k) : Int) < (len : Int) := by simpa using hk
      have hk0 : (0 : Int) ≤ Int.ofNat k := Int.natCast_nonneg k
      simp only [execOp, opd_val h hx, opd_val h hi]
      have : (Instr.indexAt t (.pointer (some ⟨b, o, none⟩)) (.int .i64 (k : Int))).run P w = .ok (.pointer (some ⟨b, o + k * s, none⟩)) w := by
        unfold Instr.indexAt
        have h0 : (0 : Int) ≤ (k : Int) := by omega
        have h1 : (k : Int) < (len : Int) := by exact_mod_cast hk
        simp [asIntOf, run_underlying (hT.desc _ _ hd), Instr.sureAddr, hT.size _ _ hs, hk, add_zero]
      simp [SV.val, S0.val, this]

/-- k operations that touch no memory. -/
def pev (T : Nat → Option TypeDesc) (Z : Nat → Option Nat) (n : Nat) (ops : List Oper) : Nat → List (Tag × Oper) → Env → Option (Env × List (Tag × Oper))
  | 0, L, l => some (l, L)
  | _ + 1, [], _ => none
  | k + 1, (_, o) :: L, l => match o.dst with
    | none => none
    | some d => bif Nat.blt d n then (match o.guard with
      | none => match stepV T Z l o.op with
        | some v => pev T Z n ops k L ((d, v) :: l)
        | none => none
      | some (j, want) => match (nthO ops j).bind (·.dst) with
        | none => none
        | some dj => match get? l dj with
          | some (.o (.b true)) => (match want with
            | true => match stepV T Z l o.op with
              | some v => pev T Z n ops k L ((d, v) :: l)
              | none => none
            | false => pev T Z n ops k L ((d, .t []) :: l))
          | some (.o (.b false)) => (match want with
            | false => match stepV T Z l o.op with
              | some v => pev T Z n ops k L ((d, v) :: l)
              | none => none
            | true => pev T Z n ops k L ((d, .t []) :: l))
          | some (.t []) => pev T Z n ops k L ((d, .t []) :: l)
          | _ => none) else none

theorem YAt.mk {P : Program} {ops : Array Oper} {w : World} {o : Oper} {v : Value} {a : Act} (h1 : Region.wanted o (yielded ops a.tmps) = true) (h2 : (execOp a.eval o).run P w = .ok (.value v) w) : YAt P ops w o v a := .inl ⟨h1, h2⟩
theorem YAt.skip {P : Program} {ops : Array Oper} {w : World} {o : Oper} {a : Act} (h1 : Region.wanted o (yielded ops a.tmps) = false) : YAt P ops w o undef a := .inr ⟨h1, rfl⟩

theorem yields_of {n : Nat} {a : Act} {l : Env} (h : Fr n a l) {ops : List Oper} {j dj : Nat} {v : SV} (hj : (nthO ops j).bind (·.dst) = some dj) (hg : get? l dj = some v) :
    yielded ops.toArray a.tmps j = match v.val with | .bool b => some b | _ => none := by
  unfold yielded
  rw [← nthO_eq, hj]
  simp [h.has dj v hg]
  cases v.val <;> rfl

section
variable {P : Program} {C : World → Prop} {K : Act → World → Prop} {a : Act} {w : World}

theorem sq_value {ops : Array Oper} {t : Tag} {o : Oper} {L : List (Tag × Oper)} {v : Value} (hC : C w) (hy : ∀ w, YAt P ops w o v a) (k : Sq P ops C K L (a.put o.dst v) w) : Sq P ops C K ((t, o) :: L) a w := by
  cases t with
  | p => exact ⟨v, hy, k⟩
  | r => exact ⟨v, hy w, k⟩
  | c => exact ⟨v, fun w _ => hy w, k⟩
  | w => exact (hy w).upon (K := fun a w => C w ∧ Sq P ops C K L a w) ⟨hC, k⟩

theorem sq_pev {T : Nat → Option TypeDesc} {Z : Nat → Option Nat} (hT : TOk P T Z) {n : Nat} {ops : List Oper} (hC : C w) : ∀ (k : Nat) (L : List (Tag × Oper)) (l : Env) (a : Act) {l' : Env} {L' : List (Tag × Oper)}, Fr n a l →
    pev T Z n ops k L l = some (l', L') → (∀ a', Fr n a' l' → Sq P ops.toArray C K L' a' w) → Sq P ops.toArray C K L a w
  | 0, L, l, a, l', L', h, e, kk => by
    simp only [pev, Option.some.injEq, Prod.mk.injEq] at e
    obtain ⟨rfl, rfl⟩ := e
    exact kk a h
  | _ + 1, [], l, a, l', L', h, e, kk => by simp [pev] at e
  | k + 1, (t, o) :: L, l, a, l', L', h, e, kk => by
    unfold pev at e
    split at e
    · cases e
    · rename_i d hd
      cases hb : Nat.blt d n with
      | false => simp [hb] at e
      | true =>
        simp only [hb, cond_true] at e
        have go : ∀ v, (∀ w, YAt P ops.toArray w o v.val a) → pev T Z n ops k L ((d, v) :: l) = some (l', L') → Sq P ops.toArray C K ((t, o) :: L) a w := fun v hy e =>
          sq_value hC hy (by rw [hd]; exact sq_pev hT hC k L _ _ (h.put hb v) e kk)
        split at e
        · rename_i hg
          split at e
          · rename_i v hv
            exact go v (fun w => YAt.mk (by simp [Region.wanted, hg]) (stepV_run hT h hv w)) e
          · cases e
        · rename_i j want hg
          split at e
          · cases e
          · rename_i dj hdj
            have wv : ∀ (x : SV), get? l dj = some x → Region.wanted o (yielded ops.toArray a.tmps) = ((match x.val with | .bool b => some b | _ => none) == some want) := fun x hx => by
              simp only [Region.wanted, hg, yields_of h hdj hx]
            split at e
            · rename_i hx
              split at e
              · split at e
                · rename_i v hv
                  exact go v (fun w => YAt.mk (by rw [wv _ hx]; rfl) (stepV_run hT h hv w)) e
                · cases e
              · exact go (.t []) (fun w => YAt.skip (by rw [wv _ hx]; rfl)) e
            · rename_i hx
              split at e
              · split at e
                · rename_i v hv
                  exact go v (fun w => YAt.mk (by rw [wv _ hx]; rfl) (stepV_run hT h hv w)) e
                · cases e
              · exact go (.t []) (fun w => YAt.skip (by rw [wv _ hx]; rfl)) e
            · rename_i hx
              exact go (.t []) (fun w => YAt.skip (by rw [wv _ hx]; rfl)) e
            · cases e

/-- One operation by its run, whatever the world. -/
theorem sq_run {n : Nat} {ops : Array Oper} {l : Env} {t : Tag} {o : Oper} {L : List (Tag × Oper)} {d : Nat} {v : SV} (h : Fr n a l) (hC : C w) (hd : o.dst = some d) (hn : Nat.blt d n = true) (hg : o.guard = none)
    (hr : ∀ w, (execOp a.eval o).run P w = .ok (.value v.val) w) (k : ∀ a', Fr n a' ((d, v) :: l) → Sq P ops C K L a' w) : Sq P ops C K ((t, o) :: L) a w :=
  sq_value hC (fun w => YAt.mk (by simp [Region.wanted, hg]) (hr w)) (by rw [hd]; exact k _ (h.put hn v))

theorem sq_nil {ops : Array Oper} (k : K a w) : Sq P ops C K [] a w := k

/-- The list of operations is cut in two; between them only what the middle says is known. -/
theorem sq_cut {ops : Array Oper} {L : List (Tag × Oper)} (M : Act → World → Prop) (k : Nat) (h : Sq P ops C (fun a w => C w ∧ M a w) (L.take k) a w) (h2 : ∀ a w, C w → M a w → Sq P ops C K (L.drop k) a w) : Sq P ops C K L a w := by
  have key : ∀ (X Y : List (Tag × Oper)) (a : Act) (w : World), (∀ a w, C w → M a w → Sq P ops C K Y a w) → Sq P ops C (fun a w => C w ∧ M a w) X a w → Sq P ops C K (X ++ Y) a w := by
    intro X
    induction X with
    | nil => intro Y a w h2 h; exact h2 a w h.1 h.2
    | cons x X ih =>
      intro Y a w h2 h
      obtain ⟨t, o⟩ := x
      cases t with
      | p => obtain ⟨v, h3, h4⟩ := h; exact ⟨v, h3, ih Y _ _ h2 h4⟩
      | r => obtain ⟨v, h3, h4⟩ := h; exact ⟨v, h3, ih Y _ _ h2 h4⟩
      | c => obtain ⟨v, h3, h4⟩ := h; exact ⟨v, h3, ih Y _ _ h2 h4⟩
      | w =>
        show opO P ops _ o _ a w
        have h' : opO P ops _ o _ a w := h
        unfold opO at *
        split
        · rename_i hw
          rw [if_pos hw] at h'
          have h3 := Oper.wp_mono (K' := fun a w => C w ∧ Sq P ops C K (X ++ Y) a w) (fun a w h => ⟨h.1, ih Y a w h2 h.2⟩) h'
          unfold Oper.wp at h3 ⊢
          generalize (execOp a.eval o).run P w = r at h3 ⊢
          cases r with
          | ok n w' =>
            cases n <;> simp only [Oper.upon] at h3 ⊢ <;> first
              | exact h3
              | exact Calls.mono h3 (fun e w'' he => by cases e <;> first | exact he | exact he.elim | (obtain ⟨_, _, hx⟩ := he; exact hx.elim))
          | halt x w' => cases x <;> simp only [Oper.upon] at h3 ⊢ <;> exact h3
        · rename_i hw
          rw [if_neg hw] at h'
          exact ⟨h'.1, ih Y _ _ h2 h'.2⟩
  have := key (L.take k) (L.drop k) a w h2 h
  rwa [List.take_append_drop] at this
end

/-- The result condition of a body. -/
def Fin (P : Program) (fn : Func) (R : Value → World → Prop) (a : Act) (w : World) : Prop := a.defers = [] ∧ ∃ v, (results fn a.tmps).run P w = .ok v w ∧ R v w

theorem enter {P : Program} {f : FuncId} {fn : Func} {c : Code} {args : Array Value} {w : World} {R : Value → World → Prop} {n : Nat} (vs : List SV)
    (hf : P.funcs[f]? = some fn) (hb : fn.body = some c) (hn : fn.ntmps = n) (ha : args = (vs.map SV.val).toArray) (hl : Nat.ble vs.length n = true)
    (h : ∀ a, Fr n a (start 0 vs) → c.wp P (QL (Fin P fn R) (fun _ _ _ => False) (Fin P fn R)) a w) : Calls P f args w (Ret R) :=
  calls_of hf hb hn (h _ (Fr.start vs args ha hl))

theorem fin_one {P : Program} {fn : Func} {R : Value → World → Prop} {n : Nat} {a : Act} {l : Env} {w : World} (h : Fr n a l) {t : Nat} {v : SV} (hr : fn.results = #[.tmp t]) (e : get? l t = some v) (k : R v.val w) : Fin P fn R a w :=
  ⟨h.defers, _, res_one h hr e, k⟩
theorem fin_two {P : Program} {fn : Func} {R : Value → World → Prop} {n : Nat} {a : Act} {l : Env} {w : World} (h : Fr n a l) {t u : Nat} {v x : SV} (hr : fn.results = #[.tmp t, .tmp u]) (e : get? l t = some v) (e' : get? l u = some x)
    (k : R (.tuple #[v.val, x.val]) w) : Fin P fn R a w := ⟨h.defers, _, res_two h hr e e', k⟩
theorem fin_three {P : Program} {fn : Func} {R : Value → World → Prop} {n : Nat} {a : Act} {l : Env} {w : World} (h : Fr n a l) {t u s : Nat} {v x y : SV} (hr : fn.results = #[.tmp t, .tmp u, .tmp s]) (e : get? l t = some v) (e' : get? l u = some x)
    (e'' : get? l s = some y) (k : R (.tuple #[v.val, x.val, y.val]) w) : Fin P fn R a w := ⟨h.defers, _, res_three h hr e e' e'', k⟩
theorem fin_four {P : Program} {fn : Func} {R : Value → World → Prop} {n : Nat} {a : Act} {l : Env} {w : World} (h : Fr n a l) {t u s r : Nat} {v x y z : SV} (hr : fn.results = #[.tmp t, .tmp u, .tmp s, .tmp r]) (e : get? l t = some v) (e' : get? l u = some x)
    (e'' : get? l s = some y) (e3 : get? l r = some z) (k : R (.tuple #[v.val, x.val, y.val, z.val]) w) : Fin P fn R a w := ⟨h.defers, _, res_four h hr e e' e'' e3, k⟩
theorem fin_none {P : Program} {fn : Func} {R : Value → World → Prop} {n : Nat} {a : Act} {l : Env} {w : World} (h : Fr n a l) (hr : fn.results = #[]) (k : R (.tuple #[]) w) : Fin P fn R a w := ⟨h.defers, _, res_none hr, k⟩

theorem sq_p {P : Program} {C : World → Prop} {K : Act → World → Prop} {T : Nat → Option TypeDesc} {Z : Nat → Option Nat} {n : Nat} {ops : List Oper} {a : Act} {w : World} {l l' : Env} {L L' : List (Tag × Oper)} (h : Fr n a l) (k : Nat) (hT : TOk P T Z) (hC : C w)
    (e : pev T Z n ops k L l = some (l', L')) (kk : ∀ a', Fr n a' l' → Sq P ops.toArray C K L' a' w) : Sq P ops.toArray C K L a w := sq_pev hT hC k L l a h e kk
end Go.Tw
