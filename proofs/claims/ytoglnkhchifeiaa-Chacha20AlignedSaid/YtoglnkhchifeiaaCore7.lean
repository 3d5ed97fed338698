/- Slices, continued: slicing, copy, conversions, literals. No program is in it. -/
import Derived.Test.YtoglnkhchifeiaaCore6
import Derived.Laws.BytesString
namespace Go.Tw
set_option linter.unusedSimpArgs false
set_option linter.unusedVariables false
section
variable {P : Program} {T : Nat → Option TypeDesc} {Z : Nat → Option Nat} {V : Nat → Option Value} {n : Nat} {a : Act} {w : World} {l : Env} {o : Oper}

/-- A bound of a slice expression: none stands for its default. -/
def bnd (l : Env) : Option Operand → Int → Option Int
  | none, dflt => some dflt
  | some x, _ => match opd l x with
    | some (.o (.i m)) => some m
    | _ => none

theorem run_bound {m : Int} {y : Nat} {code : BoundsCode} (h0 : 0 ≤ m) (h1 : m ≤ (y : Int)) (w : World) : (Instr.sliceBound (vI m) y code).run P w = .ok m.toNat w := by
  unfold Instr.sliceBound
  simp only [asIntOf, Sem.run_bind, Sem.run_pure, Result.andThen_ok]
  rw [if_pos ⟨h0, h1⟩]; rfl

theorem run_bounds (h : Fr n a l) {lo hi : Option Operand} {i j : Int} {isS : Bool} {len cap : Nat} (hlo : bnd l lo 0 = some i) (hhi : bnd l hi len = some j) (h0 : 0 ≤ i) (h1 : i ≤ j) (h2 : j ≤ len) (h3 : len ≤ cap) (w : World) :
    (Instr.sliceBounds isS len cap (lo.map a.eval) (hi.map a.eval) none).run P w = .ok (i.toNat, j.toNat, cap) w := by
  have hj : (match hi.map a.eval with | some v => Instr.sliceBound v cap (if isS then .sliceAcap else .sliceAlen) | none => pure len : Sem Nat).run P w = .ok j.toNat w := by
    cases hi with
    | none => simp only [bnd, Option.some.injEq] at hhi; subst hhi; rfl
    | some x =>
      simp only [bnd] at hhi
      split at hhi
      case h_2 => cases hhi
      rename_i m' hx
      simp only [Option.some.injEq] at hhi; subst hhi
      have : m' ≤ (cap : Int) := by omega
      have h0' : 0 ≤ m' := by omega
      simp only [Option.map_some, opd_val h hx]
      exact run_bound h0' this w
  have hi' : (match lo.map a.eval with | some v => Instr.sliceBound v j.toNat .sliceB | none => pure 0 : Sem Nat).run P w = .ok i.toNat w := by
    cases lo with
    | none => simp only [bnd, Option.some.injEq] at hlo; subst hlo; rfl
    | some x =>
      simp only [bnd] at hlo
      split at hlo
      case h_2 => cases hlo
      rename_i m' hx
      simp only [Option.some.injEq] at hlo; subst hlo
      have : m' ≤ ((j.toNat : Nat) : Int) := by omega
      simp only [Option.map_some, opd_val h hx]
      exact run_bound h0 this w
  unfold Instr.sliceBounds
  cases hh : hi.map a.eval with
  | none => rw [hh] at hj; cases hl : lo.map a.eval with
    | none => rw [hl] at hi'; simp_all [Sem.run, pure]
    | some u => rw [hl] at hi'; simp_all [Sem.run, pure]
  | some v => rw [hh] at hj; cases hl : lo.map a.eval with
    | none => rw [hl] at hi'; simp_all [Sem.run, pure]
    | some u => rw [hl] at hi'; simp_all [Sem.run, pure]

/-- x[lo:hi] of a slice, within its length. -/
theorem r_slice (hT : TOk P T Z) (h : Fr n a l) {ty e : TypeId} {x : Operand} {lo hi : Option Operand} {k m : Nat} {i j : Int} {v : Value} {cs : List Value} (ho : o.op = .slice ty x lo hi none) (hx : opd l x = some (.o (.v v))) (hd : T ty = some (.slice e)) (hz : Z e = some k) (hr : Rd w k v m cs)
    (hlo : bnd l lo 0 = some i) (hhi : bnd l hi m = some j) (h0 : 0 ≤ i) (h1 : i ≤ j) (h2 : j ≤ m) (w' : World) : (execOp a.eval o).run P w' = .ok (.value (sl k v i.toNat j.toNat)) w' := by
  obtain ⟨b, c, rfl, _, hc⟩ := hr.shape
  have hc : m ≤ c := by
    rcases hc with hc | hc
    · omega
    · exact hc
  simp only [execOp, ho, opd_val h hx]
  have hb := run_bounds (P := P) (isS := true) (cap := c) h hlo hhi h0 h1 h2 hc w'
  have : (Instr.slice ty (.slice b m c) (lo.map a.eval) (hi.map a.eval) none).run P w' = .ok (sl k (.slice b m c) i.toNat j.toNat) w' := by
    unfold Instr.slice
    simp only [Sem.run_bind, run_underlying (hT.desc _ _ hd), Result.andThen_ok, hb, hT.size _ _ hz]
    rfl
  simp [Instr.sliceAt, run_underlying (hT.desc _ _ hd), this]

/-- s[lo:hi] of a string. -/
theorem r_sliceS (hT : TOk P T Z) (h : Fr n a l) {ty : TypeId} {x : Operand} {lo hi : Option Operand} {i j : Int} {s : List UInt8} (ho : o.op = .slice ty x lo hi none) (hx : opd l x = some (.o (.s s))) (hd : T ty = some .string)
    (hlo : bnd l lo 0 = some i) (hhi : bnd l hi s.length = some j) (h0 : 0 ≤ i) (h1 : i ≤ j) (h2 : j ≤ s.length) (w' : World) : (execOp a.eval o).run P w' = .ok (.value (vS ((s.drop i.toNat).take (j.toNat - i.toNat)))) w' := by
  simp only [execOp, ho, opd_val h hx]
  have hb := run_bounds (P := P) (isS := false) (cap := s.length) h hlo hhi h0 h1 h2 (Nat.le_refl _) w'
  have he : (ByteArray.mk s.toArray).extract i.toNat j.toNat = ⟨((s.drop i.toNat).take (j.toNat - i.toNat)).toArray⟩ := by
    apply ByteArray.ext
    simp [ByteArray.data_extract]
  have : (Instr.slice ty (vS s) (lo.map a.eval) (hi.map a.eval) none).run P w' = .ok (vS ((s.drop i.toNat).take (j.toNat - i.toNat))) w' := by
    unfold Instr.slice
    simp only [Sem.run_bind, run_underlying (hT.desc _ _ hd), Result.andThen_ok, size_mk, hb]
    simp [he, hb, size_mk]
  simp [Instr.sliceAt, run_underlying (hT.desc _ _ hd), this]

/-- string(b). -/
theorem r_b2s (hT : TOk P T Z) (h : Fr n a l) {src dst e : TypeId} {x : Operand} {v : Value} {m : Nat} {xs : List UInt8} (ho : o.op = .convert src dst x) (hx : opd l x = some (.o (.v v))) (hs : T src = some (.slice e)) (he : T e = some (.int .u8)) (hd : T dst = some .string)
    (hr : Rd w 1 v m (xs.map vU8)) : (execOp a.eval o).run P w = .ok (.value (vS xs)) w := by
  have key : (Conv.bytesToString v).run P w = .ok (vS xs) w := by
    have hr' := hr
    obtain ⟨hl, h2⟩ := hr'
    rcases h2 with ⟨hm, b, c, rfl⟩ | ⟨b, off, cap, all, ty, fz, rfl, h0, h3, h4⟩
    · have : xs = [] := List.eq_nil_of_length_eq_zero (by simp at hl; omega)
      subst this
      cases b with
      | none => simp [Conv.bytesToString]; rfl
      | some b =>
        have := run_bytesToString (P := P) w b 0 c [] (by simp [loadCells, loadCellsFrom])
        rw [this]; rfl
    · have hml : m = (xs.map vU8).length := by simpa using hl.symm
      have hlc := run_loadCells_list (P := P) w ⟨b, off, none⟩ (xs.map vU8) (hr.cell rfl).2
      have := run_bytesToString (P := P) w ⟨b, off, none⟩ m cap (xs.map fun x => ((x.toNat : Nat) : Int)) (by rw [hml, List.map_map]; exact hlc)
      rw [this]
      congr 2
      have fold : ∀ (ys : List UInt8) (s : ByteArray), (ys.map fun x => ((x.toNat : Nat) : Int)).foldl (fun r n => r.push (UInt8.ofNat n.toNat)) s = ⟨s.data ++ ys.toArray⟩ := by
        intro ys
        induction ys with
        | nil => intro s; simp
        | cons y ys ih =>
          intro s
          simp only [List.map_cons, List.foldl_cons]
          rw [ih]
          apply ByteArray.ext
          simp [ByteArray.push]
      rw [fold]
      show ByteArray.mk (#[] ++ xs.toArray) = _
      simp
  simp only [execOp, ho, opd_val h hx]
  have hcv : (convert src dst v).run P w = .ok (vS xs) w := by
    obtain ⟨b, c, rfl, _⟩ := hr.shape
    unfold convert
    simp [run_underlying (hT.desc _ _ hs), run_underlying (hT.desc _ _ hd), run_underlying (hT.desc _ _ he), key]
  simp [hcv]

theorem modify_push (hp : Array Obj) (f : Obj → Obj) (x : Obj) : (hp.push x).modify hp.size f = hp.push (f x) := by
  apply Array.ext
  · simp
  · intro k h1 h2
    simp only [Array.getElem_modify]
    split
    · rename_i hk; subst hk; simp
    · rename_i hk
      simp at h1
      have : k < hp.size := by omega
      simp [Array.getElem_push, this]

theorem shape_new (w : World) (c : Array Value) (e : TypeId) (fz : Nat × Nat) : ({ w with heap := w.heap.push (.cells c e fz) } : World).shape? w.heap.size = some (e, c.size) := by simp [World.shape?]

theorem freeze_new (w : World) (c : Array Value) (e : TypeId) (m : Nat) : ({ w with heap := w.heap.push (.cells c e) } : World).freeze ⟨w.heap.size, m, none⟩ 1 = { w with heap := w.heap.push (.cells c e (m, m + 1)) } := by
  simp [World.freeze, modify_push]

theorem run_s2b (e : TypeId) (s : List UInt8) : ∃ c : Array Value, c = (s.map vU8 ++ List.replicate (grownCap w s.length 0 e - s.length) (vU8 0)).toArray ∧
    (Conv.stringToBytes e ⟨s.toArray⟩).run P w = .ok (.slice (some ⟨w.heap.size, 0, none⟩) s.length (grownCap w s.length 0 e)) { w with drawn := w.drawn + 1, heap := w.heap.push (.cells c e (c.size, c.size + 1)) } := by
  refine ⟨_, rfl, ?_⟩
  have harr : (ByteArray.mk s.toArray).data.map (fun b => Value.int .u8 (b.toNat : Int)) ++ Array.replicate (grownCap w s.length 0 e - s.length) (.int .u8 0) = (s.map vU8 ++ List.replicate (grownCap w s.length 0 e - s.length) (vU8 0)).toArray := by simp
  have hgc : (Question.appendCap s.length 0 e).cut (w.tape w.drawn (Question.appendCap s.length 0 e)) = grownCap w s.length 0 e := rfl
  unfold Conv.stringToBytes
  simp only [Sem.run_bind, size_mk, choose, Sem.run, Question.forced, Bool.false_eq_true, if_false, hgc, Result.andThen_ok, harr]
  generalize (s.map vU8 ++ List.replicate (grownCap w s.length 0 e - s.length) (vU8 0)).toArray = c
  have h1 := shape_new { w with drawn := w.drawn + 1 } c e (0, 0)
  have h2 := freeze_new { w with drawn := w.drawn + 1 } c e c.size
  simp only [newRow, newObj, Sem.run_bind, Sem.run, Result.andThen_ok, pure, markStringish, shape, freeze]
  rw [h1]
  simp only [Sem.run]
  rw [h2]
  rfl

/-- []byte(s). -/
theorem r_s2b (hT : TOk P T Z) (h : Fr n a l) {src dst e : TypeId} {x : Operand} {s : List UInt8} (ho : o.op = .convert src dst x) (hx : opd l x = some (.o (.s s))) (hs : T src = some .string) (hd : T dst = some (.slice e)) (he : T e = some (.int .u8)) (hl : s.length ≤ maxLen) :
    ∃ v w', (execOp a.eval o).run P w = .ok (.value v) w' ∧ Row w' e 1 v s.length (s.map vU8) ∧ Kept none1 w w' ∧ ∀ b, blockOf v b → w.heap.size ≤ b := by
  have hcap := grownCap_ge w s.length 0 e
  have hcm := grownCap_le_maxLen w s.length 0 e hl
  obtain ⟨c, hc, hrun⟩ := run_s2b (P := P) (w := w) e s
  have hsz : (s.map vU8 ++ List.replicate (grownCap w s.length 0 e - s.length) (vU8 0)).length = grownCap w s.length 0 e := by simp; omega
  have hcs : c.size = grownCap w s.length 0 e := by rw [hc]; simpa using hsz
  refine ⟨_, { w with drawn := w.drawn + 1, heap := w.heap.push (.cells c e (c.size, c.size + 1)) }, ?_, ⟨by simp, .inr ⟨w.heap.size, _, List.replicate (grownCap w s.length 0 e - s.length) (vU8 0), rfl, hcap, ⟨(c.size, c.size + 1), ?_, fun o ho => by rw [hsz] at ho; rw [hcs]; simp; omega⟩, by rw [hsz]; simp, hcm⟩⟩, ⟨rfl, rfl, rfl, by simp, fun k hk _ => ?_⟩, fun b hb => by cases hb; exact Nat.le_refl _⟩
  rotate_left
  · rw [← hc]; exact heap_new { w with drawn := w.drawn + 1 } _
  · simp [Array.getElem?_push, show k ≠ w.heap.size by omega]
  simp only [execOp, ho, opd_val h hx]
  have : (convert src dst (SV.o (S0.s s)).val).run P w = .ok (.slice (some ⟨w.heap.size, 0, none⟩) s.length (grownCap w s.length 0 e)) { w with drawn := w.drawn + 1, heap := w.heap.push (.cells c e (c.size, c.size + 1)) } := by
    unfold convert
    simp only [Sem.run_bind, run_underlying (hT.desc _ _ hs), run_underlying (hT.desc _ _ hd), run_underlying (hT.desc _ _ he), Result.andThen_ok]
    exact hrun
  rw [Sem.run_bind, this]; rfl

/-- x + y of strings. -/
theorem r_cat (h : Fr n a l) {t t' : TypeId} {x y : Operand} {p q : List UInt8} (ho : o.op = .binOp .add t x y t') (hx : opd l x = some (.o (.s p))) (hy : opd l y = some (.o (.s q))) (hl : ((p.length + q.length : Nat) : Int) ≤ 9223372036854775807) (w : World) :
    (execOp a.eval o).run P w = .ok (.value (vS (p ++ q))) w := by
  simp only [execOp, ho, opd_val h hx, opd_val h hy]
  have h1 : (eqGuard .add t x y (SV.o (S0.s p)).val (SV.o (S0.s q)).val).run P w = .ok () w := by simp [eqGuard]
  have h2 : (binOp .add t (SV.o (S0.s p)).val (SV.o (S0.s q)).val).run P w = .ok (vS (p ++ q)) w := by
    have hmax : IntKind.i64.max = 9223372036854775807 := rfl
    have hc : ¬ (((p.length + q.length : Nat) : Int) > IntKind.i64.max) := by rw [hmax]; omega
    have happ : (ByteArray.mk p.toArray ++ ByteArray.mk q.toArray) = ⟨(p ++ q).toArray⟩ := by apply ByteArray.ext; simp [ByteArray.data_append]
    simp only [SV.val, S0.val, binOp, Op.stringOp, size_mk]
    rw [if_neg hc, happ]; rfl
  simp [h1, h2]

/-- A shift by an int that is not negative. -/
theorem r_shift (h : Fr n a l) {op : BinOp} {t t' : TypeId} {x y : Operand} {p z : S0} {m : Int} (ho : o.op = .binOp op t x y t') (hx : opd l x = some (.o p)) (hy : opd l y = some (.o (.i m))) (h0 : 0 ≤ m) (hz : sop op p m.toNat = some z) (w : World) :
    (execOp a.eval o).run P w = .ok (.value z.val) w := by
  simp only [execOp, ho, opd_val h hx, opd_val h hy]
  have hc : cnt (.i m) = some m.toNat := by
    obtain ⟨k, rfl⟩ := Int.eq_ofNat_of_zero_le h0
    rfl
  have h2 : (binOp op t (SV.o p).val (SV.o (.i m)).val).run P w = .ok z.val w := sop_run hc hz
  have h1 : (eqGuard op t x y (SV.o p).val (SV.o (.i m)).val).run P w = .ok () w := by
    cases op <;> first | (simp only [sop] at hz; cases hz; done) | skip
    · simp [eqGuard]
    · simp [eqGuard]
  simp [h1, h2]

/-- The parts of a slice literal, all of them, in order. -/
def numbered : Nat → List Value → List (Nat × Value)
  | _, [] => []
  | k, v :: vs => (k, v) :: numbered (k + 1) vs

theorem fill_numbered : ∀ (vs : List Value) (k : Nat) (cs : List Value), (∀ v ∈ vs, v.oneCell' = true) → k + vs.length ≤ cs.length →
    Instr.fill (fun i => some (i * 1, 1)) cs.toArray (numbered k vs) = some (cs.take k ++ vs ++ cs.drop (k + vs.length)).toArray
  | [], k, cs, _, _ => by simp [numbered, Instr.fill]
  | v :: vs, k, cs, h1, hl => by
    have hv : v.cells = #[v] := by have := h1 v (by simp); cases v <;> simp_all [Value.cells, Value.oneCell']
    simp only [List.length_cons] at hl
    have hk : k < cs.length := by omega
    simp only [numbered, Instr.fill, hv]
    have c : ((#[v] : Array Value).size ≠ 1 || decide (k * 1 + (#[v] : Array Value).size > cs.toArray.size)) = false := by simp; omega
    simp only [c, Bool.false_eq_true, if_false]
    have e : (#[v] : Array Value).zipIdx.foldl (fun cs (p : Value × Nat) => cs.setIfInBounds (k * 1 + p.2) p.1) cs.toArray = (cs.set k v).toArray := by simp
    have ih := fill_numbered vs (k + 1) (cs.set k v) (fun x hx => h1 x (by simp [hx])) (by simp; omega)
    have e2 := list_seg_step cs k v vs (by omega)
    rw [← e] at ih
    rw [show (fun cs (x : Value × Nat) => match x with | (c, j) => cs.setIfInBounds (k * 1 + j) c) = (fun (cs : Array Value) (p : Value × Nat) => cs.setIfInBounds (k * 1 + p.2) p.1) from rfl, ih]
    rw [e2]
    simp

/-- A slice literal of scalars. -/
theorem r_lit (h : Fr n a l) {ty e bytes len : Nat} {z : Value} {ps : List (Nat × Operand)} {us : List Value} (he : EOk P ty e 1 bytes z) (ho : o.op = .buildSlice ty len ps.toArray) (hp : partsV l ps = some (numbered 0 us)) (hl : us.length = len) (hb : len ≤ 16777216) (h1 : ∀ u ∈ us, u.oneCell' = true) :
    ∃ v w', (execOp a.eval o).run P w = .ok (.value v) w' ∧ Row w' e 1 v len us ∧ Kept none1 w w' ∧ ∀ b, blockOf v b → w.heap.size ≤ b := by
  obtain ⟨f, hf, hk, hbt, hz⟩ := he.info
  subst hl
  refine ⟨.slice (some ⟨w.heap.size, 0, none⟩) us.length us.length, { w with heap := w.heap.push (.cells us.toArray e) }, ?_, ⟨by simp, .inr ⟨w.heap.size, us.length, [], rfl, Nat.le_refl _, by simpa using blk_new e us, by simp, by simp only [maxLen]; omega⟩⟩, kept_alloc w _, fun b hb => by cases hb; exact Nat.le_refl _⟩
  simp only [execOp, ho, List.map_toArray, partsV_val h hp]
  have c0 : ¬ (us.length * 1 > 2 ^ 24) := by omega
  by_cases h0 : us.length = 0
  · have : us = [] := List.eq_nil_of_length_eq_zero h0
    subst this
    have e0 : Array.range 0 = #[] := rfl
    simp [Instr.buildSlice, run_underlying he.slice, sizeOf, typeInfo, hf, hk, numbered, Instr.fill, newRow, newObj, Sem.run, pure, e0]
  · have hfill := fill_numbered us 0 (List.replicate us.length z) h1 (by simp)
    have hz1 : z.cells.size = 1 := he.cells
    obtain ⟨q, hq⟩ : ∃ q, z.cells = #[q] := by
      obtain ⟨q, hq⟩ := Array.size_eq_one_iff.1 hz1
      exact ⟨q, hq⟩
    have hrow : (Array.range us.length).map (fun x => z.cells[x % z.cells.size]!) = (List.replicate us.length q).toArray := by
      apply Array.ext
      · simp
      · intro k h2 h3; simp [hq, Nat.mod_one]
    have hfill := fill_numbered us 0 (List.replicate us.length q) h1 (by simp)
    have hd : List.take 0 (List.replicate us.length q) ++ us ++ List.drop (0 + us.length) (List.replicate us.length q) = us := by simp
    rw [hd] at hfill
    simp [Instr.buildSlice, run_underlying he.slice, sizeOf, typeInfo, hf, hk, hrow, zeroValue, hz, h0, newRow, newObj, Sem.run, pure]
    have hfill' : Instr.fill (fun i => some (i, 1)) (Array.replicate us.length q) (numbered 0 us) = some us.toArray := by simpa using hfill
    rw [if_neg (by omega), hfill']
    rfl

/-- copy into a part of an owned slice of scalars. -/
theorem r_copy (h : Fr n a l) {ty ty2 e bytes : Nat} {z v x : Value} {m len lo hi : Nat} {xs ys : List Value} {A B : Operand} (he : EOk P ty e 1 bytes z) (ho : o.op = .call ⟨.builtin .copy, #[A, B], #[ty, ty2]⟩) (hA : opd l A = some (.o (.v (sl 1 v lo hi)))) (hB : opd l B = some (.o (.v x)))
    (hr : Row w e 1 v len xs) (hlo : lo ≤ hi) (hhi : hi ≤ len) (hx : Rd w 1 x m ys) (h1 : ∀ u ∈ ys, u.oneCell' = true) :
    ∃ w', (execOp a.eval o).run P w = .ok (.value (vI (Nat.min m (hi - lo)))) w' ∧ Row w' e 1 v len (xs.take lo ++ ys.take (Nat.min m (hi - lo)) ++ xs.drop (lo + Nat.min m (hi - lo))) ∧ Kept (Rs.foot (.row e 1 v len xs)) w w' := by
  obtain ⟨f, hf, hk, hb, hz⟩ := he.info
  obtain ⟨hl, h2⟩ := hr
  have hyl : ys.length = m := by simpa using hx.1
  have hxl : xs.length = len := by simpa using hl
  have hfc := run_first (P := P) hx (Nat.min m (hi - lo)) (Nat.min_le_left ..)
  rw [Nat.mul_one] at hfc
  have hmn : Nat.min m (hi - lo) ≤ hi - lo := Nat.min_le_right ..
  have hmm : Nat.min m (hi - lo) ≤ m := Nat.min_le_left ..
  generalize hc : Nat.min m (hi - lo) = c at *
  have hlc : (ys.take c).length = c := by rw [List.length_take, hyl]; exact Nat.min_eq_left hmm
  have hlen : (xs.take lo ++ ys.take c ++ xs.drop (lo + c)).length = xs.length := by simp [hlc]; omega
  rcases h2 with ⟨rfl, hn⟩ | ⟨b, cap, sp, rfl, hnc, hbk, hcap, hm⟩
  · have hc0 : c = 0 := by omega
    have hlo0 : lo = 0 := by omega
    subst hc0 hlo0
    refine ⟨w, ?_, ⟨by simpa using hl, .inl ⟨rfl, hn⟩⟩, Kept.refl _ _⟩
    have hAe := opd_val h hA
    simp only [SV.val, S0.val, sl, Option.map_none, ite_self] at hAe
    have hrun : (Builtin.copy_ #[ty, ty2] o.type #[.slice none (hi - 0) (0 - 0), x]).run P w = .ok (vI 0) w := by
      unfold Builtin.copy_
      simp [run_underlying he.slice, lenOf_rd hx, sizeOf, typeInfo, hf, hk]
      rw [show Nat.min m hi = 0 from by simpa using hc]
      simp [hfc, goInt]
    simp only [Nat.sub_zero, Nat.sub_self] at hrun
    have hBe : a.eval B = x := opd_val h hB
    simp [execOp, ho, resolve, invoke, builtin, hAe, hBe, hrun]
  · have hst := run_storeCells (P := P) (ys.take c) lo 0 (xs ++ sp) w hbk (by simp; omega) (fun u hu => h1 u (List.mem_of_mem_take hu))
    have e1 : (xs ++ sp).take (lo + 0) ++ ys.take c ++ (xs ++ sp).drop (lo + 0 + (ys.take c).length) = (xs.take lo ++ ys.take c ++ xs.drop (lo + c)) ++ sp := by
      rw [hlc, Nat.add_zero, List.take_append_of_le_length (by omega), List.drop_append_of_le_length (by omega)]; simp
    rw [e1] at hst
    refine ⟨w.setRow b (xs.take lo ++ ys.take c ++ xs.drop (lo + c) ++ sp).toArray, ?_, ⟨by rw [hlen]; exact hl, .inr ⟨b, cap, sp, rfl, hnc, hbk.setRow (by simp at hlen ⊢; omega), by simp at hlen hcap ⊢; omega, hm⟩⟩, kept_setRow b _⟩
    have hAe := opd_val h hA
    simp only [SV.val, S0.val, sl, Option.map_some] at hAe
    have hrun : (Builtin.copy_ #[ty, ty2] o.type #[.slice (if cap = lo then some ⟨b, 0, none⟩ else some ((⟨b, 0, none⟩ : Addr).add (lo * 1))) (hi - lo) (cap - lo), x]).run P w = .ok (vI c) (w.setRow b (xs.take lo ++ ys.take c ++ xs.drop (lo + c) ++ sp).toArray) := by
      by_cases hcl : cap = lo
      · have hc0 : c = 0 := by omega
        subst hc0
        rw [if_pos hcl]
        have hid : w.setRow b (xs.take lo ++ ys.take 0 ++ xs.drop (lo + 0) ++ sp).toArray = w := by
          obtain ⟨fz, h3, _⟩ := hbk
          simp only [List.take_zero, List.append_nil, Nat.add_zero, List.take_append_drop]
          exact setRow_self w b _ e fz h3
        rw [hid]
        unfold Builtin.copy_
        simp [run_underlying he.slice, lenOf_rd hx, sizeOf, typeInfo, hf, hk]
        rw [show Nat.min m (hi - lo) = 0 from hc]
        simp [hfc, goInt, storeCells]
      · rw [if_neg hcl, add_zero _ rfl]
        unfold Builtin.copy_
        simp [run_underlying he.slice, lenOf_rd hx, sizeOf, typeInfo, hf, hk]
        rw [show Nat.min m (hi - lo) = c from hc]
        simp [hfc, hst, goInt]
    simp only [Nat.mul_one] at hrun hAe
    have hBe : a.eval B = x := opd_val h hB
    simp [execOp, ho, resolve, invoke, builtin, hAe, hBe, hrun]
end
end Go.Tw
