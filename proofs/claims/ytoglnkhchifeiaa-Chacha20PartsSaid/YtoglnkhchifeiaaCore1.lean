/- The core of the walks: scalars with their types, frames as association lists, control rules, and the theorem that a region which draws its order may be walked in one order. No program is in it; no condition. -/
import Derived.Orders
import Derived.Tactics
import Derived.KernelRfl
import Derived.Below
namespace Go.Tw
set_option linter.unusedSimpArgs false
set_option linter.unusedVariables false

inductive S0 where
  | i (n : Int)
  | u8 (x : UInt8)
  | u32 (x : UInt32)
  | u64 (x : UInt64)
  | b (x : Bool)
  | s (l : List UInt8)
  | v (x : Value)

@[reducible] def S0.val : S0 → Value
  | .i n => .int .i64 n
  | .u8 x => .int .u8 x.toNat
  | .u32 x => .int .u32 x.toNat
  | .u64 x => .int .u64 x.toNat
  | .b x => .bool x
  | .s l => .string ⟨l.toArray⟩
  | .v x => x

inductive SV where
  | o (x : S0)
  | t (xs : List S0)
  | a (xs : List S0)

@[reducible] def SV.val : SV → Value
  | .o x => x.val
  | .t xs => .tuple (xs.map S0.val).toArray
  | .a xs => .agg (xs.map S0.val).toArray

abbrev Env := List (Nat × SV)

def get? : Env → Nat → Option SV
  | [], _ => none
  | (s, v) :: r, t => bif Nat.beq s t then some v else get? r t

structure Fr (n : Nat) (a : Act) (l : Env) : Prop where
  defers : a.defers = []
  size : a.tmps.size = n
  has : ∀ t v, get? l t = some v → a.tmps[t]? = some v.val

theorem Fr.put {n : Nat} {a : Act} {l : Env} (h : Fr n a l) {d : Nat} (hd : Nat.blt d n = true) (v : SV) : Fr n (a.put (some d) v.val) ((d, v) :: l) := by
  have hd' : d < n := by simpa [Nat.blt_eq] using hd
  refine ⟨h.defers, by simp [Act.put, h.size], fun t u hu => ?_⟩
  simp only [get?] at hu
  cases hb : Nat.beq d t with
  | true =>
    have := Nat.eq_of_beq_eq_true hb
    subst this
    simp [hb] at hu
    subst hu
    simp [Act.put, h.size, hd']
  | false =>
    simp [hb] at hu
    have hne : d ≠ t := Nat.ne_of_beq_eq_false hb
    simp only [Act.put]
    rw [Array.getElem?_setIfInBounds_ne hne]
    exact h.has t u hu

theorem Fr.put_none {n : Nat} {a : Act} {l : Env} (h : Fr n a l) (v : Value) : Fr n (a.put none v) l := h

/-- Keep only the slots of a list. -/
def keep (l : Env) : List Nat → Env
  | [] => []
  | t :: ts => match get? l t with
    | some v => (t, v) :: keep l ts
    | none => keep l ts

theorem get?_keep {l : Env} {t : Nat} {v : SV} : ∀ (ts : List Nat), get? (keep l ts) t = some v → get? l t = some v
  | [], h => by simp [keep, get?] at h
  | u :: ts, h => by
    unfold keep at h
    split at h
    · rename_i x hx
      simp only [get?] at h
      cases hb : Nat.beq u t with
      | true =>
        have := Nat.eq_of_beq_eq_true hb
        subst this
        simp [hb] at h
        rw [hx, h]
      | false => simp [hb] at h; exact get?_keep ts h
    · exact get?_keep ts h

theorem Fr.keep {n : Nat} {a : Act} {l : Env} (h : Fr n a l) (ts : List Nat) : Fr n a (keep l ts) :=
  ⟨h.defers, h.size, fun t v hv => h.has t v (get?_keep ts hv)⟩

theorem Fr.eval {n : Nat} {a : Act} {l : Env} (h : Fr n a l) {t : Nat} {v : SV} (e : get? l t = some v) : a.eval (.tmp t) = v.val := by
  have := h.has t v e
  simp [Act.eval, this]

/-- The frame at a call. -/
def start : Nat → List SV → Env
  | _, [] => []
  | k, v :: vs => (k, v) :: start (k + 1) vs

theorem get?_start {t : Nat} {v : SV} : ∀ (vs : List SV) (k : Nat), get? (start k vs) t = some v → k ≤ t ∧ vs[t - k]? = some v
  | [], _, h => by simp [start, get?] at h
  | u :: vs, k, h => by
    simp only [start, get?] at h
    cases hb : Nat.beq k t with
    | true =>
      have := Nat.eq_of_beq_eq_true hb
      subst this
      simp [hb] at h
      simp [h]
    | false =>
      simp [hb] at h
      have hne : k ≠ t := Nat.ne_of_beq_eq_false hb
      obtain ⟨h1, h2⟩ := get?_start vs (k + 1) h
      refine ⟨by omega, ?_⟩
      rw [show t - k = (t - (k + 1)) + 1 from by omega]
      simpa using h2

theorem Fr.start {n : Nat} (vs : List SV) (args : Array Value) (ha : args = (vs.map SV.val).toArray) (hn : Nat.ble vs.length n = true) :
    Fr n { tmps := args ++ Array.replicate (n - args.size) undef, defers := [] } (Tw.start 0 vs) := by
  have hn' : vs.length ≤ n := by simpa using hn
  subst ha
  refine ⟨rfl, by simp; omega, fun t v hv => ?_⟩
  obtain ⟨_, h2⟩ := get?_start vs 0 hv
  simp only [Nat.sub_zero] at h2
  have hlt : t < vs.length := (List.getElem?_eq_some_iff.1 h2).1
  rw [Array.getElem?_append_left (by simpa using hlt)]
  simp [h2]

/-- The results that count: normal end, a jump out of a block, a return. Panics and the rest do not happen. -/
def QL (N : Act → World → Prop) (E : Nat → Act → World → Prop) (R : Act → World → Prop) : Exit → Act → World → Prop
  | .normal, a, w => N a w
  | .exit k, a, w => E k a w
  | .ret, a, w => R a w
  | _, _, _ => False

section control
variable {P : Program} {N : Act → World → Prop} {E : Nat → Act → World → Prop} {R : Act → World → Prop} {a : Act} {w : World}

theorem c_seq {x y : Code} (h : x.wp P (QL (fun a w => y.wp P (QL N E R) a w) E R) a w) : (Code.seq x y).wp P (QL N E R) a w :=
  wp_seq (wp_mono h fun e a w q => by cases e <;> exact q)

theorem c_block {k : Nat} {c : Code} (h : c.wp P (QL N (fun j a w => if j = k then N a w else E j a w) R) a w) : (Code.block k c).wp P (QL N E R) a w :=
  wp_block (wp_mono h fun e a w q => by
    cases e with
    | exit j =>
      simp only [QL] at q
      simp only [Exit.inBlock]
      split
      · rename_i he; rw [if_pos he] at q; exact q
      · rename_i he; rw [if_neg he] at q; exact q
    | _ => exact q)

theorem c_skip (h : N a w) : Code.skip.wp P (QL N E R) a w := wp_skip h
theorem c_exit {k : Nat} (h : E k a w) : (Code.exit k).wp P (QL N E R) a w := wp_exit h
theorem c_ret (h : R a w) : Code.ret.wp P (QL N E R) a w := wp_ret h
theorem c_cond {c : Operand} {x y : Code} {n : Nat} {l : Env} {t : Nat} {b : Bool} (h : Fr n a l) (hc : c = .tmp t) (e : get? l t = some (.o (.b b)))
    (hx : b = true → x.wp P (QL N E R) a w) (hy : b = false → y.wp P (QL N E R) a w) : (Code.cond c x y).wp P (QL N E R) a w := by
  subst hc
  exact wp_cond_split (t := b) (h.eval e) hx hy

theorem c_mono {c : Code} {N' : Act → World → Prop} {E' : Nat → Act → World → Prop} {R' : Act → World → Prop} (h : c.wp P (QL N E R) a w)
    (hN : ∀ a w, N a w → N' a w) (hE : ∀ k a w, E k a w → E' k a w) (hR : ∀ a w, R a w → R' a w) : c.wp P (QL N' E' R') a w :=
  wp_mono h fun e a w q => by
    cases e with
    | normal => exact hN _ _ q
    | exit k => exact hE _ _ _ q
    | ret => exact hR _ _ q
    | _ => exact q

/-- A loop by its twin: the body's twin gives the next state (inl) or the way out (inr). -/
def iter {σ ρ : Type} (f : σ → Option (σ ⊕ ρ)) : Nat → σ → Option ρ
  | 0, _ => none
  | k + 1, s => (f s).bind fun r => match r with
    | .inl s' => iter f k s'
    | .inr r => some r

theorem c_loop {σ ρ : Type} {c : Code} (f : σ → Option (σ ⊕ ρ)) (I : σ → Act → World → Prop) (O : ρ → Exit → Act → World → Prop) {N : Act → World → Prop} {E : Nat → Act → World → Prop} {R : Act → World → Prop}
    (step : ∀ s a w, I s a w → ∀ r, f s = some r → c.wp P (QL (fun a w => ∃ s', r = .inl s' ∧ I s' a w) (fun k a w => ∃ x, r = .inr x ∧ O x (.exit k) a w) (fun a w => ∃ x, r = .inr x ∧ O x .ret a w)) a w)
    {x : ρ} (hE : ∀ k a w, O x (.exit k) a w → E k a w) (hR : ∀ a w, O x .ret a w → R a w) :
    ∀ (fuel : Nat) (s : σ) (a : Act) (w : World), I s a w → iter f fuel s = some x → (Code.loop c).wp P (QL N E R) a w := by
  have key : ∀ (fuel : Nat) (s : σ) (a : Act) (w : World), I s a w → iter f fuel s = some x → ∀ (b : Frame) (k : List Item) (cs : List Frame),
      ∃ e a' w', QL N E R e a' w' ∧ Arrives P (lone (b.at a (.code c :: .inLoop c :: k)) cs w) b k cs e a' w' := by
    intro fuel
    induction fuel with
    | zero => intro s a w _ h; simp [iter] at h
    | succ fuel ih =>
      intro s a w hI h b k cs
      simp only [iter, Option.bind_eq_some_iff] at h
      obtain ⟨r, hr, h⟩ := h
      obtain ⟨e, a₁, w₁, hq, harr⟩ := step s a w hI r hr b (.inLoop c :: k) cs
      cases e with
      | normal =>
        obtain ⟨s', rfl, hI'⟩ := hq
        obtain ⟨e₂, a₂, w₂, hq₂, harr₂⟩ := ih s' a₁ w₁ hI' h b k cs
        exact ⟨e₂, a₂, w₂, hq₂, .of_steps (Steps.trans harr (.one step_inLoop)) harr₂⟩
      | exit j =>
        obtain ⟨y, rfl, hO⟩ := hq
        simp only [Option.some.injEq] at h
        subst h
        exact ⟨.exit j, a₁, w₁, hE _ _ _ hO, .pass (x := .inLoop c) rfl (fun _ _ => .inl (by simp)) harr⟩
      | ret =>
        obtain ⟨y, rfl, hO⟩ := hq
        simp only [Option.some.injEq] at h
        subst h
        exact ⟨.ret, a₁, w₁, hR _ _ hO, .pass (x := .inLoop c) rfl (fun _ _ => .inl (by simp)) harr⟩
      | goto j => exact hq.elim
      | panic ch => exact hq.elim
      | outgrown => exact hq.elim
  intro fuel s a w hI h b k cs
  obtain ⟨e, a', w', hq, harr⟩ := key fuel s a w hI h b k cs
  exact ⟨e, a', w', hq, .of_steps (.one step_loop) harr⟩
end control

/-- What a call must come to: it returns a value. -/
def Ret (R : Value → World → Prop) : Ending → World → Prop
  | .returned v, w => R v w
  | _, _ => False

theorem calls_of {P : Program} {f : FuncId} {fn : Func} {c : Code} {args : Array Value} {w : World} {R : Value → World → Prop}
    (hf : P.funcs[f]? = some fn) (hb : fn.body = some c) {n : Nat} (hn : fn.ntmps = n)
    (h : c.wp P (QL (fun a w => a.defers = [] ∧ ∃ v, (results fn a.tmps).run P w = .ok v w ∧ R v w) (fun _ _ _ => False) (fun a w => a.defers = [] ∧ ∃ v, (results fn a.tmps).run P w = .ok v w ∧ R v w))
      { tmps := args ++ Array.replicate (n - args.size) undef, defers := [] } w) : Calls P f args w (Ret R) := by
  subst hn
  exact calls_of_wp hf hb (wp_mono h fun e a w q => by cases e <;> first | exact q | exact q.elim)

/-- The results of a function, read off its frame. -/
def resOf (l : Env) : List ResultVar → Option (List SV)
  | [] => some []
  | .tmp t :: r => match get? l t, resOf l r with
    | some v, some vs => some (v :: vs)
    | _, _ => none
  | _ :: _ => none

theorem res_one {P : Program} {fn : Func} {n : Nat} {a : Act} {l : Env} {w : World} (h : Fr n a l) {t : Nat} {v : SV} (hr : fn.results = #[.tmp t]) (e : get? l t = some v) :
    (results fn a.tmps).run P w = .ok v.val w := by
  have := h.has t v e
  rw [results_tmp hr]; simp [this]

theorem res_two {P : Program} {fn : Func} {n : Nat} {a : Act} {l : Env} {w : World} (h : Fr n a l) {t u : Nat} {v x : SV} (hr : fn.results = #[.tmp t, .tmp u]) (e : get? l t = some v) (e' : get? l u = some x) :
    (results fn a.tmps).run P w = .ok (.tuple #[v.val, x.val]) w := by
  have h1 := h.has t v e
  have h2 := h.has u x e'
  rw [results_tmp2 hr]; simp [h1, h2]

theorem res_none {P : Program} {fn : Func} {a : Act} {w : World} (hr : fn.results = #[]) : (results fn a.tmps).run P w = .ok (.tuple #[]) w := results_none hr _ _ _

theorem res_three {P : Program} {fn : Func} {n : Nat} {a : Act} {l : Env} {w : World} (h : Fr n a l) {t u s : Nat} {v x y : SV} (hr : fn.results = #[.tmp t, .tmp u, .tmp s]) (e : get? l t = some v) (e' : get? l u = some x)
    (e'' : get? l s = some y) : (results fn a.tmps).run P w = .ok (.tuple #[v.val, x.val, y.val]) w := by
  have h1 := h.has t v e
  have h2 := h.has u x e'
  have h3 := h.has s y e''
  simp [results, hr, h1, h2, h3]

theorem res_four {P : Program} {fn : Func} {n : Nat} {a : Act} {l : Env} {w : World} (h : Fr n a l) {t u s r : Nat} {v x y z : SV} (hr : fn.results = #[.tmp t, .tmp u, .tmp s, .tmp r]) (e : get? l t = some v) (e' : get? l u = some x)
    (e'' : get? l s = some y) (e3 : get? l r = some z) : (results fn a.tmps).run P w = .ok (.tuple #[v.val, x.val, y.val, z.val]) w := by
  have h1 := h.has t v e
  have h2 := h.has u x e'
  have h3 := h.has s y e''
  have h4 := h.has r z e3
  simp [results, hr, h1, h2, h3, h4]

/- ## Regions -/

inductive Tag where
  | p
  | r
  | c
  | w
  deriving DecidableEq

/-- In the world w the operation yields v and leaves the world. -/
def YAt (P : Program) (ops : Array Oper) (w : World) (o : Oper) (v : Value) (a : Act) : Prop :=
  (Region.wanted o (yielded ops a.tmps) = true ∧ (execOp a.eval o).run P w = .ok (.value v) w) ∨
  (Region.wanted o (yielded ops a.tmps) = false ∧ v = undef)

def opO (P : Program) (ops : Array Oper) (Q : Exit → Act → World → Prop) (o : Oper) (K : Act → World → Prop) (a : Act) (w : World) : Prop :=
  if Region.wanted o (yielded ops a.tmps) then o.wp P a w K Q else K (a.put o.dst undef) w

/-- The walk of a list of operations. p: the value hangs on no world; r: it hangs on this one; c: it is one in all worlds of the class; w: it may change the world. -/
def Sq (P : Program) (ops : Array Oper) (C : World → Prop) (K : Act → World → Prop) : List (Tag × Oper) → Act → World → Prop
  | [], a, w => K a w
  | (.p, o) :: r, a, w => ∃ v, (∀ w, YAt P ops w o v a) ∧ Sq P ops C K r (a.put o.dst v) w
  | (.r, o) :: r, a, w => ∃ v, YAt P ops w o v a ∧ Sq P ops C K r (a.put o.dst v) w
  | (.c, o) :: r, a, w => ∃ v, (∀ w, C w → YAt P ops w o v a) ∧ Sq P ops C K r (a.put o.dst v) w
  | (.w, o) :: r, a, w => opO P ops (QL K (fun _ _ _ => False) (fun _ _ => False)) o (fun a w => C w ∧ Sq P ops C K r a w) a w

/-- No cause but the normal one. -/
def Qn (K : Act → World → Prop) : Exit → Act → World → Prop := QL K (fun _ _ _ => False) (fun _ _ => False)

theorem YAt.upon {P : Program} {ops : Array Oper} {w : World} {o : Oper} {v : Value} {a : Act} {K : Act → World → Prop} {Q : Exit → Act → World → Prop} (h : YAt P ops w o v a) (k : K (a.put o.dst v) w) :
    if Region.wanted o (yielded ops a.tmps) then o.wp P a w K Q else K (a.put o.dst undef) w := by
  rcases h with ⟨h1, h2⟩ | ⟨h1, rfl⟩
  · rw [if_pos h1]; simp only [Oper.wp, h2, Oper.upon]; exact k
  · rw [if_neg (by simp [h1])]; exact k

def zipT : List Tag → List Oper → List (Tag × Oper)
  | t :: ts, o :: os => (t, o) :: zipT ts os
  | _, _ => []

def allW : List Oper → List (Tag × Oper)
  | [] => []
  | o :: os => (.w, o) :: allW os

theorem plain_list {P : Program} {ops : Array Oper} {C : World → Prop} {K : Act → World → Prop} : ∀ (l : List Oper) (a : Act) (w : World), Sq P ops C K (allW l) a w → wpList P ops (Qn K) l a w
  | [], _, _, h => h
  | o :: l, a, w, h => by
    simp only [allW, Sq, opO] at h
    unfold wpList
    split
    · rename_i hw
      rw [if_pos hw] at h
      exact .inl (Oper.wp_mono (fun a w h => plain_list l a w h.2) h)
    · rename_i hw
      rw [if_neg hw] at h
      exact plain_list l _ _ h.2

theorem wp_of_norm {P : Program} {c : Code} {K : Act → World → Prop} {E : Nat → Act → World → Prop} {R : Act → World → Prop} {a : Act} {w : World} (h : c.wp P (Qn K) a w) : c.wp P (QL K E R) a w :=
  wp_mono h fun e a w q => by cases e <;> first | exact q | exact q.elim

/-- A region in the text's order. -/
theorem c_plain {P : Program} {id : Nat} {l : List Oper} {K : Act → World → Prop} {E : Nat → Act → World → Prop} {R : Act → World → Prop} {a : Act} {w : World}
    (h : Sq P l.toArray (fun _ => True) K (allW l) a w) : (Code.region id l.toArray false).wp P (QL K E R) a w :=
  wp_of_norm (wp_region_lit (plain_list l a w h))

/- ### a region that draws -/
section draw
variable {P : Program} {ops : Array Oper} {C : World → Prop} {K : Act → World → Prop}

/-- Whatever order is picked; every world on the way is of the class; the operations of Z leave the world. -/
def AnyC (P : Program) (ops : Array Oper) (C : World → Prop) (Z : Nat → Bool) (K : Act → World → Prop) : Nat → Array Bool → Act → World → Prop
  | 0, listed, a, w => C w ∧ Region.ready .any ops listed = [] ∧ K a w
  | fuel + 1, listed, a, w =>
    C w ∧ (Region.ready .any ops listed = [] → K a w) ∧
    ∀ i ∈ Region.ready .any ops listed, wpOp P ops (Qn K) i (fun a' w' => (Z i = true → w' = w) ∧ AnyC P ops C Z K fuel (listed.setIfInBounds i true) a' w') a w

theorem AnyC.any {Z : Nat → Bool} : ∀ {fuel : Nat} {listed : Array Bool} {a : Act} {w : World}, AnyC P ops C Z K fuel listed a w → wpAny P .any ops (Qn K) fuel listed a w
  | 0, _, _, _, h => ⟨h.2.1, h.2.2⟩
  | _ + 1, _, _, _, h => ⟨h.2.1, fun i hi => wpOp_mono (fun _ _ h => h.2.any) (h.2.2 i hi)⟩

theorem YAt.of_same {w : World} {o : Oper} {v : Value} {a a' : Act} (hy : YAt P ops w o v a) (he : execOp a'.eval o = execOp a.eval o)
    (hw : Region.wanted o (yielded ops a'.tmps) = Region.wanted o (yielded ops a.tmps)) : YAt P ops w o v a' := by
  unfold YAt at *
  rw [he, hw]
  exact hy

theorem YAt.wpOp {i : Nat} {o : Oper} {v : Value} {a : Act} {w : World} {Q : Exit → Act → World → Prop} (hi : ops[i]? = some o) (hy : YAt P ops w o v a) {K : Act → World → Prop} (h : K (a.put o.dst v) w) : wpOp P ops Q i K a w := by
  unfold Go.wpOp
  simp only [hi]
  rcases hy with ⟨hw, hv⟩ | ⟨hw, rfl⟩
  · simp only [hw, if_true, Oper.wp, hv, Oper.upon]; exact .inl h
  · simp only [hw, Bool.false_eq_true, if_false]; exact h

/-- Operation j, apart from i: whether i's value is already in its slot makes no difference to it. S: what is known of i's yield (it hangs on the frame only through what i looks at). -/
theorem op_put {S : Act → Prop} {j : Nat} {oi oj : Oper} {v : Value} (hj : ops[j]? = some oj) (hap : oi.apart ops oj = true)
    (hsj : ∀ cs b, oj.op ≠ .select cs b) {Kn : Act → World → Prop} {K : Act → World → Prop} {a : Act} {w : World}
    (hS : ∀ a', (∀ t, t ∈ oi.looksAt ops → a'.tmps[t]? = a.tmps[t]?) → S a') (h : wpOp P ops (Qn Kn) j K (a.put oi.dst v) w) :
    wpOp P ops (Qn Kn) j (fun a' w' => S a' ∧ K (a'.put oi.dst v) w') a w := by
  obtain ⟨h1, h2, h3⟩ := Oper.apart_spec hap
  have keepS : ∀ (x : Act) u, (∀ t, x.tmps[t]? = a.tmps[t]?) → S (x.put oj.dst u) := fun x u hx => hS _ fun t ht => by
    cases hd : oj.dst with
    | none => exact hx t
    | some d =>
      have hne : d ≠ t := fun e => h3 d hd (e ▸ ht)
      simp only [Act.put]
      rw [Array.getElem?_setIfInBounds_ne hne]; exact hx t
  unfold wpOp at *
  simp only [hj] at *
  rw [wanted_put oj a oi.dst v h1] at h
  split
  · rename_i hw
    simp only [hw, if_true] at h
    rcases h with h | ⟨hasks, a0, w0, hlets⟩
    case inr => exact hlets.elim
    refine .inl ?_
    unfold Oper.wp at *
    rw [execOp_put oj hsj a oi.dst v h1] at h
    generalize (execOp a.eval oj).run P w = r at *
    cases r with
    | ok n w' =>
      cases n <;> simp only [Oper.upon] at h ⊢
      case value u => exact ⟨keepS a u fun _ => rfl, by rw [← Act.put_comm a v u h2]; exact h⟩
      case skip => exact ⟨keepS a _ fun _ => rfl, by rw [← Act.put_comm a v undef h2]; exact h⟩
      case defer d =>
        refine ⟨keepS _ _ fun _ => rfl, ?_⟩
        rw [← Act.put_comm _ v undef h2, ← Act.put_defers]
        exact h
      case enter f args =>
        refine Calls.mono h fun e w'' he => ?_
        cases e with
        | returned u => exact ⟨keepS a u fun _ => rfl, by rw [← Act.put_comm a v u h2]; exact he⟩
        | panicked c => exact he
        | outgrown => exact he
      case row row args => exact Rows.mono h fun u w'' he => ⟨keepS a u fun _ => rfl, by rw [← Act.put_comm a v u h2]; exact he⟩
    | halt x w' =>
      cases x <;> simp only [Oper.upon] at h ⊢
      case panic u => exact h
  · rename_i hw
    simp only [hw] at h
    exact ⟨keepS a _ fun _ => rfl, by rw [← Act.put_comm a v undef h2]; exact h⟩

theorem YAt.frame {w : World} {o : Oper} {v : Value} {a a' : Act} (hs : ∀ cs b, o.op ≠ .select cs b) (hy : YAt P ops w o v a) (h : ∀ t, t ∈ o.looksAt ops → a'.tmps[t]? = a.tmps[t]?) : YAt P ops w o v a' := by
  refine hy.of_same (execOp_congr o hs fun x hx => ?_) ?_
  · cases x with
    | tmp t =>
      have := h t (List.mem_append_left _ (List.mem_filterMap.2 ⟨.tmp t, by simpa using hx, rfl⟩))
      simp [Act.eval, this]
    | _ => rfl
  · unfold Region.wanted
    cases hg : o.guard with
    | none => rfl
    | some gw =>
      obtain ⟨g, want⟩ := gw
      have hy : yielded ops a'.tmps g = yielded ops a.tmps g := by
        unfold yielded
        cases ht : (ops[g]?).bind (·.dst) with
        | none => rfl
        | some t =>
          have := h t (by simp [Oper.looksAt, hg, ht])
          simp [this]
      simp only [hy]

theorem not_waits {i : Nat} {oj : Oper} {listed : Array Bool} (hi : listed.getD i true = false) (hall : ∀ e ∈ oj.after, Region.binds .any e = true → listed.getD e.on false = true) :
    ∀ e ∈ oj.after, Region.binds .any e = true → e.on ≠ i := fun e he hb heq => by
  have h1 := hall e he hb
  rw [heq] at h1
  rcases Nat.lt_or_ge i listed.size with h' | h'
  · simp [h'] at hi h1; rw [hi] at h1; cases h1
  · simp [Array.getElem?_eq_none h'] at h1

/-- An operation that yields v in every world of a class (r: 'this world alone', where whatever may come before it leaves the world; c: the class of the walk) may come first. D: what waits for it. -/
theorem first_op {Z : Nat → Bool} {C' : World → Prop} {D : Nat → Prop} {i : Nat} {oi : Oper} {v : Value} (hi : ops[i]? = some oi) (hsel : ∀ (j : Nat) (o : Oper) cs b, ops[j]? = some o → o.op ≠ .select cs b)
    (hD : ∀ j oj, D j → ops[j]? = some oj → ∃ e ∈ oj.after, Region.binds .any e = true ∧ (e.on = i ∨ D e.on)) :
    ∀ (fuel : Nat) (listed : Array Bool) (a : Act) (w : World),
      (∀ j oj, ops[j]? = some oj → j ≠ i → listed.getD j true = false → (∀ e ∈ oj.after, Region.binds .any e = true → e.on ≠ i) → oi.apart ops oj = true) →
      (∀ j, D j → listed.getD j false = false) →
      (∀ j oj, ops[j]? = some oj → j ≠ i → ¬ D j → listed.getD j true = false → ∀ w w' : World, (Z j = true → w' = w) → C w' → C' w → C' w') →
      i ∈ Region.ready .any ops listed → C' w → (∀ w, C' w → YAt P ops w oi v a) →
      AnyC P ops C Z K fuel (listed.setIfInBounds i true) (a.put oi.dst v) w → AnyC P ops C Z K (fuel + 1) listed a w := by
  intro fuel
  induction fuel with
  | zero =>
    intro listed a w _ _ _ hr hc hy H
    refine ⟨H.1, fun h => (by rw [h] at hr; cases hr), fun j hj => ?_⟩
    by_cases hji : j = i
    · subst hji; exact (hy w hc).wpOp hi ⟨fun _ => rfl, H⟩
    · have := ready_mono hj hji
      rw [H.2.1] at this
      cases this
  | succ fuel ih =>
    intro listed a w hfree hDl hst hr hc hy H
    refine ⟨H.1, fun h => (by rw [h] at hr; cases hr), fun j hj => ?_⟩
    by_cases hji : j = i
    · subst hji; exact (hy w hc).wpOp hi ⟨fun _ => rfl, H⟩
    · have h1 := H.2.2 j (ready_mono hj hji)
      obtain ⟨hjun, oj, hoj, hall⟩ := mem_ready.1 hj
      have hun := (mem_ready.1 hr).1
      have hnot := not_waits (i := i) hun hall
      have hnD : ¬ D j := fun hd => by
        obtain ⟨e, he, hb, h⟩ := hD j oj hd hoj
        rcases h with h | h
        · exact hnot e he hb h
        · have := hall e he hb
          rw [hDl _ h] at this
          cases this
      have h2 := op_put (S := fun a' => ∀ w, C' w → YAt P ops w oi v a') hoj (hfree j oj hoj hji hjun hnot) (fun cs b => hsel j oj cs b hoj)
        (fun a' ha' w' hw' => (hy w' hw').frame (fun cs b => hsel i oi cs b hi) ha') h1
      have hfree' : ∀ k ok, ops[k]? = some ok → k ≠ i → (listed.setIfInBounds j true).getD k true = false →
          (∀ e ∈ ok.after, Region.binds .any e = true → e.on ≠ i) → oi.apart ops ok = true := fun k ok hk hki hun hno => by
        refine hfree k ok hk hki ?_ hno
        by_cases hjk : j = k
        · subst hjk; exact hjun
        · rw [getD_set_ne true hjk] at hun; exact hun
      have hDl' : ∀ k, D k → (listed.setIfInBounds j true).getD k false = false := fun k hk => by
        have : j ≠ k := fun e => hnD (e ▸ hk)
        rw [getD_set_ne false this]; exact hDl k hk
      have hst' : ∀ k ok, ops[k]? = some ok → k ≠ i → ¬ D k → (listed.setIfInBounds j true).getD k true = false → ∀ w w' : World, (Z k = true → w' = w) → C w' → C' w → C' w' := fun k ok hok hk hkD hun => by
        refine hst k ok hok hk hkD ?_
        by_cases hjk : j = k
        · subst hjk; exact hjun
        · rw [getD_set_ne true hjk] at hun; exact hun
      refine wpOp_mono (fun a' w' h3 => ?_) h2
      obtain ⟨h3, h4, h5⟩ := h3
      rw [Array.setIfInBounds_comm _ _ (Ne.symm hji)] at h5
      refine ⟨h4, ih (listed.setIfInBounds j true) a' w' hfree' hDl' hst' (ready_mono hr (Ne.symm hji)) ?_ h3 h5⟩
      exact hst j oj hoj hji hnD hjun w w' h4 (by cases fuel <;> exact h5.1) hc

/- the order, checked by evaluation -/
def nthO : List Oper → Nat → Option Oper
  | [], _ => none
  | o :: _, 0 => some o
  | _ :: os, k + 1 => nthO os k

theorem nthO_eq : ∀ (l : List Oper) (k : Nat), nthO l k = l.toArray[k]?
  | [], k => by simp [nthO]
  | o :: os, 0 => by simp [nthO]
  | o :: os, k + 1 => by simp only [nthO]; rw [nthO_eq os k]; simp

def lateOf (ops : Array Oper) (i : Nat) : List Nat :=
  (List.range ops.size).foldl (fun D j => if ((ops[j]?).map fun o => o.after.any fun e => Region.binds .any e && (e.on == i || D.contains e.on)).getD false then j :: D else D) []

def lateOk (ops : Array Oper) (i : Nat) (D : List Nat) : Bool :=
  D.all fun j => match ops[j]? with
    | some o => o.after.any fun e => Region.binds .any e && (e.on == i || D.contains e.on)
    | none => true

def isW : List (Tag × Nat) → Nat → Bool
  | [], _ => false
  | (t, i) :: r, j => (t == .w && i == j) || isW r j

def okOrd (ops : Array Oper) (Z : Nat → Bool) : List (Tag × Nat) → Array Bool → Bool
  | [], listed => (Region.ready .any ops listed).isEmpty
  | (t, i) :: r, listed =>
    (Region.ready .any ops listed).contains i &&
    (match t with
     | .w => (Region.ready .any ops listed).length == 1
     | .r => Region.free .any ops listed i && Z i && lateOk ops i (lateOf ops i) && ((lateOf ops i).all fun j => !listed.getD j false) &&
        ((List.range ops.size).all fun j => j == i || (lateOf ops i).contains j || listed.getD j true || Z j)
     | _ => Region.free .any ops listed i && Z i) &&
    okOrd ops Z r (listed.setIfInBounds i true)

def pick (l : List Oper) : List (Tag × Nat) → Option (List (Tag × Oper))
  | [] => some []
  | (t, i) :: r => match nthO l i, pick l r with
    | some o, some os => some ((t, o) :: os)
    | _, _ => none

theorem any_of_sq {l : List Oper} {Z : Nat → Bool} (hsel : Region.noSelect l.toArray = true) : ∀ (π : List (Tag × Nat)) (L : List (Tag × Oper)) (listed : Array Bool) (a : Act) (w : World), pick l π = some L → (∀ t i, (t, i) ∈ π → t = .w → Z i = false) →
    okOrd l.toArray Z π listed = true → C w → Sq P l.toArray C K L a w → AnyC P l.toArray C Z K π.length listed a w
  | [], L, listed, a, w, hp, _, hB, hC, h => by
    simp only [pick, Option.some.injEq] at hp
    subst hp
    exact ⟨hC, by simpa [okOrd] using hB, h⟩
  | (t, i) :: π, L, listed, a, w, hp, hZ, hB, hC, h => by
    simp only [pick] at hp
    split at hp
    case h_2 => cases hp
    rename_i o os ho hos
    simp only [Option.some.injEq] at hp
    subst hp
    have hi : l.toArray[i]? = some o := by rw [← nthO_eq]; exact ho
    simp only [okOrd, Bool.and_eq_true] at hB
    obtain ⟨⟨hr, ht⟩, hB'⟩ := hB
    have hr' : i ∈ Region.ready .any l.toArray listed := by simpa using hr
    have hZ' : ∀ t i, (t, i) ∈ π → t = .w → Z i = false := fun t i hm => hZ t i (List.mem_cons_of_mem _ hm)
    cases t with
    | w =>
      simp only [Sq, opO] at h
      refine ⟨hC, fun h0 => (by rw [h0] at hr'; cases hr'), fun j hj => ?_⟩
      have hlen : (Region.ready .any l.toArray listed).length = 1 := by simpa using ht
      obtain ⟨x, hx⟩ := List.length_eq_one_iff.1 hlen
      rw [hx] at hr' hj
      have hji : j = i := by simp at hr' hj; omega
      subst hji
      have hzf : Z j = false := hZ .w j (List.mem_cons_self ..) rfl
      unfold wpOp
      simp only [hi]
      split
      · rename_i hw
        rw [if_pos hw] at h
        exact .inl (Oper.wp_mono (fun a' w' h' => ⟨fun e => by simp [hzf] at e, any_of_sq hsel π os _ a' w' hos hZ' hB' h'.1 h'.2⟩) h)
      · rename_i hw
        rw [if_neg hw] at h
        exact ⟨fun e => by simp [hzf] at e, any_of_sq hsel π os _ _ _ hos hZ' hB' h.1 h.2⟩
    | p =>
      simp only [Sq] at h
      obtain ⟨v, hy, h⟩ := h
      simp only [Bool.and_eq_true] at ht
      exact first_op (C' := fun _ => True) (D := fun _ => False) hi (Region.noSelect_spec hsel) (fun _ _ h => h.elim) π.length listed a w (Region.free_spec hi ht.1) (fun _ h => h.elim) (fun _ _ _ _ _ _ _ _ _ _ _ => trivial) hr' trivial (fun w _ => hy w)
        (any_of_sq hsel π os _ _ _ hos hZ' hB' hC h)
    | c =>
      simp only [Sq] at h
      obtain ⟨v, hy, h⟩ := h
      simp only [Bool.and_eq_true] at ht
      exact first_op (C' := C) (D := fun _ => False) hi (Region.noSelect_spec hsel) (fun _ _ h => h.elim) π.length listed a w (Region.free_spec hi ht.1) (fun _ h => h.elim) (fun _ _ _ _ _ _ _ _ _ h _ => h) hr' hC hy
        (any_of_sq hsel π os _ _ _ hos hZ' hB' hC h)
    | r =>
      simp only [Sq] at h
      obtain ⟨v, hy, h⟩ := h
      simp only [Bool.and_eq_true] at ht
      obtain ⟨⟨⟨⟨hf, hz⟩, hl⟩, hl2⟩, hl3⟩ := ht
      refine first_op (C' := fun w' => w' = w) (D := fun j => j ∈ lateOf l.toArray i) hi (Region.noSelect_spec hsel) ?_ π.length listed a w (Region.free_spec hi hf) ?_ ?_ hr' rfl (fun w' e => by rw [e]; exact hy)
        (any_of_sq hsel π os _ _ _ hos hZ' hB' hC h)
      · intro j oj hj hoj
        have := List.all_eq_true.1 hl j hj
        simp only [hoj] at this
        obtain ⟨e, he, hb⟩ := Array.any_eq_true'.1 this
        simp only [Bool.and_eq_true, Bool.or_eq_true, beq_iff_eq, List.contains_iff_mem] at hb
        exact ⟨e, he, hb.1, hb.2⟩
      · intro j hj
        have := List.all_eq_true.1 hl2 j hj
        simpa using this
      · intro j oj hoj hji hjD hun w1 w2 hz12 _ e
        have := List.all_eq_true.1 hl3 j (List.mem_range.2 (Array.getElem?_eq_some_iff.1 hoj).1)
        simp only [Bool.or_eq_true, beq_iff_eq, List.contains_iff_mem, hji, hjD, hun, Bool.false_eq_true, false_or] at this
        rw [hz12 this, e]

theorem isW_of : ∀ (π : List (Tag × Nat)) (i : Nat), (Tag.w, i) ∈ π → isW π i = true
  | [], _, h => by cases h
  | (t, j) :: r, i, h => by
    simp only [isW, Bool.or_eq_true, Bool.and_eq_true, beq_iff_eq]
    rcases List.mem_cons.1 h with h | h
    · cases h; exact .inl ⟨rfl, rfl⟩
    · exact .inr (isW_of r i h)

def okAll (l : List Oper) (π : List (Tag × Nat)) : Bool :=
  Region.noSelect l.toArray && (π.length == l.length) && okOrd l.toArray (fun j => !isW π j) π (Array.replicate l.length false)

/-- A region that draws its order, walked in one order. -/
theorem c_draw {id : Nat} {l : List Oper} (π : List (Tag × Nat)) {L : List (Tag × Oper)} {E : Nat → Act → World → Prop} {R : Act → World → Prop} {a : Act} {w : World} (C : World → Prop) (hm : P.follows .mixedOrders = true) (hB : okAll l π = true)
    (hp : pick l π = some L) (hC : C { w with drawn := w.drawn + 1 }) (h : Sq P l.toArray C K L a { w with drawn := w.drawn + 1 }) : (Code.region id l.toArray true).wp P (QL K E R) a w := by
  simp only [okAll, Bool.and_eq_true, beq_iff_eq] at hB
  obtain ⟨⟨hs, hl⟩, ho⟩ := hB
  refine wp_of_norm (wp_region_any hm ?_)
  have := (any_of_sq hs π L _ a _ hp (fun t i hm ht => by subst ht; simp [isW_of π i hm]) ho hC h).any
  rw [hl] at this
  simpa using this
end draw
end Go.Tw
