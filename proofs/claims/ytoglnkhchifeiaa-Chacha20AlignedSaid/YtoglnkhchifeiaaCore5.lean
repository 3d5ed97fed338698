/- The operations on memory, as rules of a walk. No program is in it. -/
import Derived.Test.YtoglnkhchifeiaaCore4
namespace Go.Tw
set_option linter.unusedSimpArgs false
set_option linter.unusedVariables false

abbrev vI (x : Int) : Value := .int .i64 x
abbrev vU8 (x : UInt8) : Value := .int .u8 x.toNat
abbrev vU32 (x : UInt32) : Value := .int .u32 x.toNat
abbrev vU64 (x : UInt64) : Value := .int .u64 x.toNat
abbrev vB (x : Bool) : Value := .bool x
abbrev vS (x : List UInt8) : Value := .string ⟨x.toArray⟩
abbrev vP (b o : Nat) : Value := .pointer (some ⟨b, o, none⟩)
abbrev sP (b o : Nat) : SV := .o (.v (.pointer (some ⟨b, o, none⟩)))

def vec {α : Type} {n : Nat} (f : α → Value) (xs : Vector α n) : List Value := xs.toList.map f
theorem vec_len {α : Type} {n : Nat} (f : α → Value) (xs : Vector α n) : (vec f xs).length = n := by simp [vec]
theorem vec_get {α : Type} {n : Nat} {f : α → Value} {xs : Vector α n} {i : Nat} {x : α} (h : xs[i]? = some x) : (vec f xs)[i]? = some (f x) := by
  simp [vec, Vector.getElem?_toList, h]
theorem vec_set {α : Type} {n : Nat} {f : α → Value} {xs : Vector α n} {i : Nat} {x : α} : (vec f xs).set i (f x) = vec f (xs.setIfInBounds i x) := by
  simp [vec, Vector.toList_setIfInBounds, List.map_set]
theorem vec_rep {α : Type} {n : Nat} {f : α → Value} {x : α} : vec f (Vector.replicate n x) = List.replicate n (f x) := by simp [vec]
theorem map_get {α : Type} {f : α → Value} {xs : List α} {i : Nat} {x : α} (h : xs[i]? = some x) : (xs.map f)[i]? = some (f x) := by simp [h]

/-- An element by an int. -/
def ix {α : Type} (xs : List α) (i : Int) : Option α := if 0 ≤ i then xs[i.toNat]? else none
def vix {α : Type} {n : Nat} (xs : Vector α n) (i : Int) : Option α := if 0 ≤ i then xs[i.toNat]? else none
theorem ix_some {α : Type} {xs : List α} {i : Int} {x : α} (h : ix xs i = some x) : 0 ≤ i ∧ xs[i.toNat]? = some x ∧ i.toNat < xs.length ∧ i < xs.length := by
  unfold ix at h
  split at h
  · have := (List.getElem?_eq_some_iff.1 h).1
    exact ⟨by assumption, h, this, by omega⟩
  · cases h
theorem vix_some {α : Type} {n : Nat} {xs : Vector α n} {i : Int} {x : α} (h : vix xs i = some x) : 0 ≤ i ∧ xs[i.toNat]? = some x ∧ i.toNat < n ∧ i < n := by
  unfold vix at h
  split at h
  · have : i.toNat < n := by
      rcases Nat.lt_or_ge i.toNat n with h' | h'
      · exact h'
      · simp [Vector.getElem?_eq_none h'] at h
    exact ⟨by assumption, h, this, by omega⟩
  · cases h

/-- The zero values of types. -/
def ZOk (P : Program) (V : Nat → Option Value) : Prop := ∀ t v, V t = some v → ∀ w, (zeroValue t).run P w = .ok v w

/-- A slice type's element: its cells and bytes, and that it has a zero. -/
structure EOk (P : Program) (t e k bytes : Nat) (z : Value) : Prop where
  slice : P.underlying t = some (.slice e)
  info : ∃ i, P.info? e = some i ∧ i.size = k ∧ i.bytes = bytes ∧ i.zero = some z
  cells : z.cells.size = k
  pos : 0 < k

/-- Is the operation asked for, where its guard is decided? -/
def gOk (ops : List Oper) (l : Env) (o : Oper) : Bool :=
  match o.guard with
  | none => true
  | some (j, want) => match (nthO ops j).bind (·.dst) with
    | none => false
    | some dj => match get? l dj with
      | some (.o (.b true)) => want
      | some (.o (.b false)) => !want
      | _ => false

theorem gOk_wanted {n : Nat} {a : Act} {l : Env} {ops : List Oper} {o : Oper} (h : Fr n a l) (hg : gOk ops l o = true) : Region.wanted o (yielded ops.toArray a.tmps) = true := by
  unfold gOk at hg
  split at hg
  · rename_i h0; simp [Region.wanted, h0]
  · rename_i j want h0
    split at hg
    · cases hg
    · rename_i dj hdj
      split at hg
      · rename_i hx
        simp only [Region.wanted, h0, yields_of h hdj hx]; subst hg; rfl
      · rename_i hx
        simp only [Region.wanted, h0, yields_of h hdj hx]; cases want <;> simp_all
      · cases hg

section sq
variable {P : Program} {C : World → Prop} {K : Act → World → Prop} {n : Nat} {ops : List Oper} {a : Act} {w : World} {l : Env} {t : Tag} {o : Oper} {L : List (Tag × Oper)} {d : Nat} {v : SV}

theorem sq_r (h : Fr n a l) (ht : t = .r ∨ t = .w) (hC : C w) (hg : gOk ops l o = true) (hd : o.dst = some d) (hn : Nat.blt d n = true) (hr : (execOp a.eval o).run P w = .ok (.value v.val) w)
    (k : ∀ a', Fr n a' ((d, v) :: l) → Sq P ops.toArray C K L a' w) : Sq P ops.toArray C K ((t, o) :: L) a w := by
  have hy := YAt.mk (gOk_wanted h hg) hr
  have k' := k _ (h.put hn v)
  rw [← hd] at k'
  rcases ht with rfl | rfl
  · exact ⟨_, hy, k'⟩
  · exact hy.upon (K := fun a w => C w ∧ Sq P ops.toArray C K L a w) ⟨hC, k'⟩

theorem sq_c (h : Fr n a l) (hg : gOk ops l o = true) (hd : o.dst = some d) (hn : Nat.blt d n = true) (hr : ∀ w, C w → (execOp a.eval o).run P w = .ok (.value v.val) w)
    (k : ∀ a', Fr n a' ((d, v) :: l) → Sq P ops.toArray C K L a' w) : Sq P ops.toArray C K ((.c, o) :: L) a w := by
  have k' := k _ (h.put hn v)
  rw [← hd] at k'
  exact ⟨_, fun w hw => YAt.mk (gOk_wanted h hg) (hr w hw), k'⟩

theorem sq_w {w' : World} (h : Fr n a l) (hg : gOk ops l o = true) (hd : o.dst = some d) (hn : Nat.blt d n = true) (hr : (execOp a.eval o).run P w = .ok (.value v.val) w')
    (hC : C w') (k : ∀ a', Fr n a' ((d, v) :: l) → Sq P ops.toArray C K L a' w') : Sq P ops.toArray C K ((.w, o) :: L) a w := by
  have k' := k _ (h.put hn v)
  rw [← hd] at k'
  show opO _ _ _ _ _ _ _
  unfold opO
  rw [if_pos (gOk_wanted h hg)]
  simp only [Oper.wp, hr, Oper.upon]
  exact ⟨hC, k'⟩

theorem sq_s {w' : World} (h : Fr n a l) (hg : gOk ops l o = true) (hd : o.dst = none) (hr : (execOp a.eval o).run P w = .ok .skip w')
    (hC : C w') (k : ∀ a', Fr n a' l → Sq P ops.toArray C K L a' w') : Sq P ops.toArray C K ((.w, o) :: L) a w := by
  show opO _ _ _ _ _ _ _
  unfold opO
  rw [if_pos (gOk_wanted h hg)]
  simp only [Oper.wp, hr, Oper.upon, hd]
  exact ⟨hC, k _ h⟩

def opds (l : Env) : List Operand → Option (List SV)
  | [] => some []
  | x :: xs => match opd l x, opds l xs with
    | some v, some vs => some (v :: vs)
    | _, _ => none

theorem opds_val (h : Fr n a l) : ∀ {xs : List Operand} {vs : List SV}, opds l xs = some vs → xs.map a.eval = vs.map SV.val
  | [], vs, e => by simp [opds] at e; subst e; rfl
  | x :: xs, vs, e => by
    simp only [opds] at e
    split at e
    case h_2 => cases e
    rename_i v vs' h1 h2
    simp only [Option.some.injEq] at e; subst e
    simp [opd_val h h1, opds_val h h2]

/-- A call of a function of the program: R, what it is known to come to. -/
theorem sq_call {f : FuncId} {fn : Func} {args : List Operand} {ts : Array TypeId} {vs : List SV} {R : Value → World → Prop} (h : Fr n a l) (hg : gOk ops l o = true) (ho : o.op = .call ⟨.value (.func f), args.toArray, ts⟩)
    (hf : P.funcs[f]? = some fn) (hb : fn.body.isSome = true) (hnm : (fn.name == "runtime.NumGoroutine") = false)
    (ha : opds l args = some vs) (hc : Calls P f (vs.map SV.val).toArray w (Ret R))
    (k : ∀ v w', R v w' → C w' ∧ Sq P ops.toArray C K L (a.put o.dst v) w') : Sq P ops.toArray C K ((.w, o) :: L) a w := by
  show opO _ _ _ _ _ _ _
  unfold opO
  rw [if_pos (gOk_wanted h hg)]
  have hargs : args.toArray.map a.eval = (vs.map SV.val).toArray := by
    rw [List.map_toArray, opds_val h ha]
  have hnm' : ¬ fn.name = "runtime.NumGoroutine" := by simpa using hnm
  have hb' : ¬ fn.body = none := by intro e; simp [e] at hb
  have hr : (execOp a.eval o).run P w = .ok (.enter f (vs.map SV.val).toArray) w := by
    simp only [execOp, ho, resolve, hargs, Act.eval, Deferred.ofValue]
    simp [invoke, callFunc, hf, hnm', hb']
  simp only [Oper.wp, hr, Oper.upon]
  refine hc.mono fun e w' he => ?_
  cases e with
  | returned v => exact k v w' he
  | panicked c => exact he.elim
  | outgrown => exact he.elim

theorem fr_put {v' : Value} (h : Fr n a l) (hd : o.dst = some d) (hn : Nat.blt d n = true) (hv : v' = v.val) : Fr n (a.put o.dst v') ((d, v) :: l) := by
  rw [hd, hv]; exact h.put hn v
end sq

/- ### runs -/
section runs
variable {P : Program} {T : Nat → Option TypeDesc} {Z : Nat → Option Nat} {V : Nat → Option Value} {n : Nat} {a : Act} {w : World} {l : Env} {o : Oper}

def aggD : TypeDesc → Bool
  | .struct _ => true
  | .array _ _ => true
  | _ => false

theorem run_isAgg {t : TypeId} {d : TypeDesc} (hd : P.underlying t = some d) : (isAgg t).run P w = .ok (aggD d) w := by
  unfold isAgg
  simp only [Sem.run_bind, run_underlying hd, Result.andThen_ok]
  cases d <;> rfl

/-- A load of one cell. -/
theorem r_load (hT : TOk P T Z) (h : Fr n a l) {ty : TypeId} {x : Operand} {b off : Nat} {cs : List Value} {bt : TypeId} {dd : TypeDesc} {u : Value} (ho : o.op = .load ty x) (hx : opd l x = some (sP b off)) (hd : T ty = some dd) (hg : aggD dd = false)
    (hb : Blk w b cs bt) (hc : cs[off]? = some u) : (execOp a.eval o).run P w = .ok (.value u) w := by
  simp only [execOp, ho, opd_val h hx]
  simp [Instr.loadAt, Instr.sureAddr, loadVar, run_isAgg (hT.desc _ _ hd), hg, hb.cell, hc]

/-- A load of a struct or an array. -/
theorem r_loadA (hT : TOk P T Z) (h : Fr n a l) {ty : TypeId} {x : Operand} {b off k : Nat} {cs us : List Value} {bt : TypeId} {dd : TypeDesc} (ho : o.op = .load ty x) (hx : opd l x = some (sP b off)) (hd : T ty = some dd) (hg : aggD dd = true) (hz : Z ty = some k)
    (hb : Blk w b cs bt) (hl : us.length = k) (hc : (cs.drop off).take k = us) : (execOp a.eval o).run P w = .ok (.value (.agg us.toArray)) w := by
  simp only [execOp, ho, opd_val h hx]
  have hload : (loadCells ⟨b, off, none⟩ us.length).run P w = .ok us.toArray w := run_loadCells_list (P := P) w ⟨b, off, none⟩ us (fun j u hj => by
    rw [add_zero _ rfl, hb.cell]
    subst hc
    rw [List.getElem?_take] at hj
    split at hj
    · simpa using hj
    · cases hj)
  subst hl
  simp [Instr.loadAt, Instr.sureAddr, loadVar, run_isAgg (hT.desc _ _ hd), hg, hT.size _ _ hz, hload]

/-- A store of one cell. -/
theorem r_store (hT : TOk P T Z) (h : Fr n a l) {ty : TypeId} {x y : Operand} {b off : Nat} {cs : List Value} {bt : TypeId} {u : SV} (ho : o.op = .store ty x y) (hx : opd l x = some (sP b off)) (hy : opd l y = some u) (hz : Z ty = some 1)
    (h1 : u.val.oneCell' = true) (hb : Blk w b cs bt) (hc : off < cs.length) : (execOp a.eval o).run P w = .ok .skip (w.setRow b (cs.set off u.val).toArray) := by
  have hcells : u.val.cells = #[u.val] := by cases hu : u.val <;> simp_all [Value.cells, Value.oneCell']
  simp only [execOp, ho, opd_val h hx, opd_val h hy]
  have hst := run_storeCells (P := P) [u.val] off 0 cs w hb (by simp; omega) (by simpa using h1)
  have e : cs.take (off + 0) ++ [u.val] ++ cs.drop (off + 0 + [u.val].length) = cs.set off u.val := by
    simp only [Nat.add_zero, List.length_singleton]
    rw [List.set_eq_take_append_cons_drop, if_pos hc]; simp
  rw [e] at hst
  simp [Instr.storeAt, Instr.sureAddr, storeVar, hcells, hT.size _ _ hz, hst]

/-- A store of a struct or an array. -/
theorem r_storeA (hT : TOk P T Z) (h : Fr n a l) {ty : TypeId} {x y : Operand} {b off k : Nat} {cs us : List Value} {bt : TypeId} {u : SV} (ho : o.op = .store ty x y) (hx : opd l x = some (sP b off)) (hy : opd l y = some u) (hu : u.val = .agg us.toArray) (hz : Z ty = some k) (hk : us.length = k)
    (h1 : ∀ v ∈ us, v.oneCell' = true) (hb : Blk w b cs bt) (hc : off + us.length ≤ cs.length) : (execOp a.eval o).run P w = .ok .skip (w.setRow b (cs.take off ++ us ++ cs.drop (off + us.length)).toArray) := by
  simp only [execOp, ho, opd_val h hx, opd_val h hy, hu]
  have hst := run_storeCells (P := P) us off 0 cs w hb (by simpa using hc) h1
  simp only [Nat.add_zero] at hst
  subst hk
  simp [Instr.storeAt, Instr.sureAddr, storeVar, Value.cells, hT.size _ _ hz, hst]

/-- A new variable. -/
theorem r_alloc (hV : ZOk P V) {ty : TypeId} {z : Value} {cs : List Value} (ho : o.op = .alloc ty) (hz : V ty = some z) (hcs : z.cells = cs.toArray) :
    (execOp a.eval o).run P w = .ok (.value (vP w.heap.size 0)) { w with heap := w.heap.push (.cells cs.toArray ty) } := by
  simp only [execOp, ho]
  simp [Instr.alloc, hV _ _ hz w, newVar, hcs, run_newRow]

theorem r_box (h : Fr n a l) {ty : TypeId} {x : Operand} {u : SV} {cs : List Value} (ho : o.op = .box ty x) (hx : opd l x = some u) (hcs : u.val.cells = cs.toArray) :
    (execOp a.eval o).run P w = .ok (.value (vP w.heap.size 0)) { w with heap := w.heap.push (.cells cs.toArray ty) } := by
  simp only [execOp, ho, opd_val h hx]
  simp [Instr.box, newVar, hcs, run_newRow]

/-- The address of an element of an array, the index being checked. -/
theorem r_idxArr (hT : TOk P T Z) (h : Fr n a l) {ty e : TypeId} {x i : Operand} {b off len k : Nat} {m : Int} (ho : o.op = .indexAddr ty x i) (hx : opd l x = some (sP b off)) (hi : opd l i = some (.o (.i m))) (hd : T ty = some (.array len e)) (hz : Z e = some k)
    (h0 : 0 ≤ m) (h1 : m < len) (w : World) : (execOp a.eval o).run P w = .ok (.value (vP b (off + m.toNat * k))) w := by
  simp only [execOp, ho, opd_val h hx, opd_val h hi]
  simp [Instr.indexAt, asIntOf, run_underlying (hT.desc _ _ hd), Instr.sureAddr, hT.size _ _ hz, h0, h1, add_zero]

/-- Building an array or a struct. -/
def partsV (l : Env) : List (Nat × Operand) → Option (List (Nat × Value))
  | [] => some []
  | (i, x) :: r => match opd l x, partsV l r with
    | some v, some vs => some ((i, v.val) :: vs)
    | _, _ => none

theorem partsV_val (h : Fr n a l) : ∀ {xs : List (Nat × Operand)} {vs : List (Nat × Value)}, partsV l xs = some vs → xs.map (fun (i, x) => (i, a.eval x)) = vs
  | [], vs, e => by simp [partsV] at e; subst e; rfl
  | (i, x) :: xs, vs, e => by
    simp only [partsV] at e
    split at e
    case h_2 => cases e
    rename_i v vs' h1 h2
    simp only [Option.some.injEq] at e; subst e
    simp [opd_val h h1, partsV_val h h2]

theorem r_build (h : Fr n a l) {ty : TypeId} {ps : List (Nat × Operand)} {vs : List (Nat × Value)} {u : Value} (ho : o.op = .build ty ps.toArray) (hp : partsV l ps = some vs) (hb : ∀ w, (Instr.build ty vs.toArray).run P w = .ok u w) (w : World) :
    (execOp a.eval o).run P w = .ok (.value u) w := by
  simp only [execOp, ho, List.map_toArray, partsV_val h hp]
  simp [hb]

/-- An element of an array value. -/
theorem r_index (hT : TOk P T Z) (h : Fr n a l) {ty e : TypeId} {x i : Operand} {len : Nat} {cs : List Value} {m : Int} {dd : TypeDesc} {u : Value} (ho : o.op = .index ty x i) (hx : opd l x = some (.o (.v (.agg cs.toArray)))) (hi : opd l i = some (.o (.i m))) (hd : T ty = some (.array len e)) (hz : Z e = some 1)
    (he : T e = some dd) (hg : aggD dd = false) (h0 : 0 ≤ m) (h1 : m < len) (hc : cs[m.toNat]? = some u) (w : World) : (execOp a.eval o).run P w = .ok (.value u) w := by
  simp only [execOp, ho, opd_val h hx, opd_val h hi]
  simp [Instr.index, asIntOf, run_underlying (hT.desc _ _ hd), hT.size _ _ hz, h0, h1, part, run_isAgg (hT.desc _ _ he), hg, hc]

/-- An element of an array value, an array or a struct itself. -/
theorem r_indexA (hT : TOk P T Z) (h : Fr n a l) {ty e : TypeId} {x i : Operand} {len k : Nat} {cs us : List Value} {m : Int} {dd : TypeDesc} (ho : o.op = .index ty x i) (hx : opd l x = some (.o (.v (.agg cs.toArray)))) (hi : opd l i = some (.o (.i m))) (hd : T ty = some (.array len e)) (hz : Z e = some k)
    (he : T e = some dd) (hg : aggD dd = true) (h0 : 0 ≤ m) (h1 : m < len) (hc : (cs.drop (m.toNat * k)).take k = us) (w : World) : (execOp a.eval o).run P w = .ok (.value (.agg us.toArray)) w := by
  simp only [execOp, ho, opd_val h hx, opd_val h hi]
  simp [Instr.index, asIntOf, run_underlying (hT.desc _ _ hd), hT.size _ _ hz, h0, h1, part, run_isAgg (hT.desc _ _ he), hg, hc]

/-- A byte of a string. -/
theorem r_indexS (hT : TOk P T Z) (h : Fr n a l) {ty : TypeId} {x i : Operand} {s : List UInt8} {m : Int} {c : UInt8} (ho : o.op = .index ty x i) (hx : opd l x = some (.o (.s s))) (hi : opd l i = some (.o (.i m))) (hd : T ty = some .string)
    (hc : ix s m = some c) (w : World) : (execOp a.eval o).run P w = .ok (.value (vU8 c)) w := by
  obtain ⟨h0, h1, h2, h3⟩ := ix_some hc
  simp only [execOp, ho, opd_val h hx, opd_val h hi]
  have : (ByteArray.mk s.toArray)[m.toNat]? = some c := by
    show (if h : m.toNat < s.toArray.size then some (s.toArray[m.toNat]) else none) = some c
    have hsz : m.toNat < s.toArray.size := by simpa using h2
    rw [dif_pos hsz]
    have := (List.getElem?_eq_some_iff.1 h1).2
    simpa using this
  simp [Instr.index, asIntOf, run_underlying (hT.desc _ _ hd), h0, this]
end runs
end Go.Tw
