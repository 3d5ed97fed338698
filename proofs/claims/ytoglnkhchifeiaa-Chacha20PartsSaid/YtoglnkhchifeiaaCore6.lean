/- Slices: make, literals, append, copy, slicing, conversions, elements; as facts on runs. No program is in it. -/
import Derived.Test.YtoglnkhchifeiaaCore5
import Derived.Laws.Append
namespace Go.Tw
set_option linter.unusedSimpArgs false
set_option linter.unusedVariables false

def eaddr (k : Nat) : Value → Nat → Value
  | .slice (some a) _ _, i => .pointer (some (a.add (i * k)))
  | _, _ => .pointer none

section
variable {P : Program} {T : Nat → Option TypeDesc} {Z : Nat → Option Nat} {V : Nat → Option Value} {n : Nat} {a : Act} {w : World} {l : Env} {o : Oper}

theorem Rd.shape {k : Nat} {v : Value} {m : Nat} {cs : List Value} (h : Rd w k v m cs) : ∃ b c, v = .slice b m c ∧ (b = none → m = 0) ∧ (m = 0 ∨ m ≤ c) := by
  obtain ⟨_, h2⟩ := h
  rcases h2 with ⟨rfl, b, c, rfl⟩ | ⟨b, off, cap, all, ty, fz, rfl, h0, _⟩
  · exact ⟨b, c, rfl, fun _ => rfl, .inl rfl⟩
  · exact ⟨some ⟨b, off, none⟩, cap, rfl, fun e => by simp at e, .inr h0⟩

/-- The length of a slice. -/
theorem r_len (hT : TOk P T Z) (h : Fr n a l) {e ty : TypeId} {x : Operand} {k m : Nat} {v : Value} {cs : List Value} {ts : Array TypeId} (ho : o.op = .call ⟨.builtin .len, #[x], ts⟩) (hts : ts = #[ty]) (hd : T ty = some (.slice e)) (hx : opd l x = some (.o (.v v))) (hr : Rd w k v m cs) (w' : World) :
    (execOp a.eval o).run P w' = .ok (.value (vI m)) w' := by
  obtain ⟨b, c, rfl, _⟩ := hr.shape
  subst hts
  simp [execOp, ho, resolve, invoke, builtin, opd_val h hx, Builtin.len_, run_underlying (hT.desc _ _ hd), goInt]

/-- The address of an element of a slice, the index being checked. -/
theorem r_idxSl (hT : TOk P T Z) (h : Fr n a l) {ty e : TypeId} {x i : Operand} {k len : Nat} {m : Int} {v : Value} {cs : List Value} (ho : o.op = .indexAddr ty x i) (hx : opd l x = some (.o (.v v))) (hi : opd l i = some (.o (.i m))) (hd : T ty = some (.slice e)) (hz : Z e = some k)
    (hr : Rd w k v len cs) (h0 : 0 ≤ m) (h1 : m < len) (w' : World) : (execOp a.eval o).run P w' = .ok (.value (eaddr k v m.toNat)) w' := by
  obtain ⟨b, c, rfl, hb, _⟩ := hr.shape
  cases b with
  | none => have := hb rfl; omega
  | some b =>
    simp only [execOp, ho, opd_val h hx, opd_val h hi]
    simp [Instr.indexAt, asIntOf, run_underlying (hT.desc _ _ hd), hT.size _ _ hz, h0, h1, eaddr]

/-- A load through such an address, one cell. -/
theorem r_loadE (hT : TOk P T Z) (h : Fr n a l) {ty : TypeId} {x : Operand} {k len i : Nat} {v : Value} {cs : List Value} {dd : TypeDesc} {u : Value} (ho : o.op = .load ty x) (hx : opd l x = some (.o (.v (eaddr k v i)))) (hd : T ty = some dd) (hg : aggD dd = false)
    (hr : Rd w k v len cs) (hc : cs[i * k]? = some u) : (execOp a.eval o).run P w = .ok (.value u) w := by
  obtain ⟨b, c, rfl, hb, _⟩ := hr.shape
  cases b with
  | none =>
    have hlen := hr.1
    rw [hb rfl] at hlen
    have : cs = [] := List.eq_nil_of_length_eq_zero (by simpa using hlen)
    subst this; simp at hc
  | some b =>
    have := (hr.cell rfl).2 _ _ hc
    simp only [execOp, ho, opd_val h hx, eaddr]
    simp [Instr.loadAt, Instr.sureAddr, loadVar, run_isAgg (hT.desc _ _ hd), hg, this]

/-- A store through such an address into an owned slice of cells. -/
theorem r_storeE (hT : TOk P T Z) (h : Fr n a l) {ty : TypeId} {x y : Operand} {E len i : Nat} {v : Value} {cs : List Value} {u : SV} (ho : o.op = .store ty x y) (hx : opd l x = some (.o (.v (eaddr 1 v i)))) (hy : opd l y = some u) (hz : Z ty = some 1) (h1 : u.val.oneCell' = true)
    (hr : Row w E 1 v len cs) (hi : i < len) : ∃ w', (execOp a.eval o).run P w = .ok .skip w' ∧ Row w' E 1 v len (cs.set i u.val) ∧ Kept (Rs.foot (.row E 1 v len cs)) w w' := by
  obtain ⟨hl, h2⟩ := hr
  rcases h2 with ⟨rfl, hn⟩ | ⟨b, cap, sp, rfl, hnc, hb, hcap, hm⟩
  · omega
  · have hil : i < cs.length := by rw [hl]; simpa using hi
    have hcells : u.val.cells = #[u.val] := by cases hu : u.val <;> simp_all [Value.cells, Value.oneCell']
    have hst := run_storeCells (P := P) [u.val] i 0 (cs ++ sp) w hb (by simp; omega) (by simpa using h1)
    have e : (cs ++ sp).take (i + 0) ++ [u.val] ++ (cs ++ sp).drop (i + 0 + [u.val].length) = cs.set i u.val ++ sp := by
      simp only [Nat.add_zero, List.length_singleton]
      have := List.set_eq_take_append_cons_drop (l := cs ++ sp) (i := i) (a := u.val)
      rw [if_pos (by simp; omega)] at this
      rw [← List.set_append_left _ _ hil, this]; simp
    rw [e] at hst
    refine ⟨_, ?_, ⟨by simpa using hl, .inr ⟨b, cap, sp, rfl, hnc, hb.setRow (by simp), by simpa using hcap, hm⟩⟩, kept_setRow b _⟩
    simp only [execOp, ho, opd_val h hx, opd_val h hy, eaddr]
    rw [add_zero _ rfl]
    simp [Instr.storeAt, Instr.sureAddr, storeVar, hcells, hT.size _ _ hz, hst]

/-- make of a slice of scalars. -/
theorem r_make (h : Fr n a l) {ty e bytes : Nat} {z : Value} {x y : Operand} {i j : Int} (he : EOk P ty e 1 bytes z) (h1 : z.oneCell' = true) (ho : o.op = .makeSlice ty x y) (hx : opd l x = some (.o (.i i))) (hy : opd l y = some (.o (.i j)))
    (hi : 0 ≤ i) (hij : i ≤ j) (hj : j ≤ 4611686018427387904) (hbt : bytes * j ≤ 281474976710656) :
    ∃ v w', (execOp a.eval o).run P w = .ok (.value v) w' ∧ Row w' e 1 v i.toNat (List.replicate i.toNat z) ∧ Kept none1 w w' ∧ ∀ b, blockOf v b → w.heap.size ≤ b := by
  obtain ⟨f, hf, hk, hb, hz⟩ := he.info
  have hwi : IntKind.i64.wrap i = i := w64_in (by omega) (by omega)
  have hwj : IntKind.i64.wrap j = j := w64_in (by omega) (by omega)
  have hcells : z.cells = #[z] := by cases z <;> simp_all [Value.cells, Value.oneCell']
  have hrow : (Array.range (j.toNat * 1)).map (fun x => z.cells[x % z.cells.size]!) = (List.replicate j.toNat z).toArray := by
    apply Array.ext
    · simp
    · intro k h2 h3; simp [hcells, Nat.mod_one]
  refine ⟨.slice (some ⟨w.heap.size, 0, none⟩) i.toNat j.toNat, { w with heap := w.heap.push (.cells (List.replicate j.toNat z).toArray e) }, ?_, ⟨by simp, .inr ⟨w.heap.size, j.toNat, List.replicate (j.toNat - i.toNat) z, rfl, by omega, ?_, ?_, ?_⟩⟩, kept_alloc w _, fun b hb => by cases hb; exact Nat.le_refl _⟩
  · simp only [execOp, ho, opd_val h hx, opd_val h hy]
    have c1 : ¬ (j < 0) := by omega
    have c2 : ¬ ((bytes : Int) * j > 281474976710656) := by omega
    have c3 : ¬ (i < 0) := by omega
    have c4 : ¬ (i > j) := by omega
    by_cases hj0 : j.toNat = 0
    · have hj1 : j ≤ 0 := by omega
      simp [Instr.makeSlice, run_underlying he.slice, asInt, asIntOf, typeInfo, hf, hb, hwi, hwj, c1, c2, c3, c4, sizeOf, hj0, newRow, newObj]
      have e0 : Array.range 0 = #[] := rfl
      simp [Sem.run, e0]
    · have hj1 : ¬ j ≤ 0 := by omega
      have hrow' : Array.map (fun x => z.cells[x % z.cells.size]!) (Array.range j.toNat) = Array.replicate j.toNat z := by simpa using hrow
      simp [Instr.makeSlice, run_underlying he.slice, asInt, asIntOf, typeInfo, hf, hb, hwi, hwj, c1, c2, c3, c4, sizeOf, hk, hj0, newRow, newObj, zeroValue, hz, hrow']
      simp [Sem.run]
  · rw [List.replicate_append_replicate, show i.toNat + (j.toNat - i.toNat) = j.toNat from by omega]
    exact blk_new e _
  · simp; omega
  · simp only [maxLen]; omega

/-- append to an owned slice. x: what is appended, whose cells are ys. -/
theorem run_append {ty1 ty2 e k bytes rt : Nat} {z v x : Value} {m len : Nat} {xs ys : List Value} {d2 : TypeDesc} (he : EOk P ty1 e k bytes z) (h2 : P.underlying ty2 = some d2) (hd2 : ∀ q, d2 ≠ .int q)
    (hr : Row w e k v len xs) (hlen : ∀ w : World, (Builtin.lenOf x).run P w = .ok m w) (hys : ys.length = m * k) (hx : ∀ w' : World, w'.heap = w.heap → (Builtin.firstCells k m x).run P w' = .ok ys.toArray w') (h1 : ∀ u ∈ ys, u.oneCell' = true)
    (h63 : len + m ≤ maxLen) (hbt : (len + m) * bytes ≤ 140737488355328) :
    ∃ v' w', (Builtin.append_ #[ty1, ty2] rt #[v, x]).run P w = .ok v' w' ∧ Row w' e k v' (len + m) (xs ++ ys) ∧ Kept (blockOf v) w w' ∧ ∀ b, blockOf v' b → blockOf v b ∨ w.heap.size ≤ b := by
  obtain ⟨f, hf, hk, hb, hz⟩ := he.info
  subst hk hb
  have hzeros : (do pure ((← underlying ty2) matches .int _) : Sem Bool).run P w = .ok false w := by
    simp only [Sem.run_bind, run_underlying h2, Result.andThen_ok]
    cases d2 <;> first | rfl | exact absurd rfl (hd2 _)
  have hsmall : len + m ≤ 9223372036854775807 := by simp only [maxLen] at h63; omega
  have hL : (xs ++ ys).length = (len + m) * f.size := by rw [List.length_append, hr.1, hys, Nat.add_mul]
  have grow : ∀ (old : Nat) (hold : old < len + m) (bs : Option Addr), v = .slice bs len old → (∀ w' : World, w'.heap = w.heap → (Builtin.firstCells f.size len v).run P w' = .ok xs.toArray w') →
      ∃ v' w', (Builtin.append_ #[ty1, ty2] rt #[v, x]).run P w = .ok v' w' ∧ Row w' e f.size v' (len + m) (xs ++ ys) ∧ Kept (blockOf v) w w' ∧ ∀ b, blockOf v' b → blockOf v b ∨ w.heap.size ≤ b := by
    intro old hold bs hv hfo
    have hge := grownCap_ge w (len + m) old e
    have hcm : grownCap w (len + m) old e ≤ maxLen := grownCap_le_maxLen w (len + m) old e h63
    have hn : ¬ (len + m ≤ old) := by omega
    have h63' : ¬ (9223372036854775807 < ((len : Int) + (m : Int))) := by omega
    have h48' : ¬ (281474976710656 < Builtin.nextslicecap (len + m) old * f.bytes) := by have := growslice_fits (need := len + m) hold hbt; omega
    have hf1 := hx w.drew rfl
    have hf2 := hfo w.drew rfl
    refine ⟨.slice (some ⟨w.heap.size, 0, none⟩) (len + m) (grownCap w (len + m) old e), w.drew.alloc (.cells (xs.toArray ++ ys.toArray ++ Builtin.zeroCells z.cells (grownCap w (len + m) old e - (len + m))) e), ?_, ⟨hL, .inr ⟨w.heap.size, _, (Builtin.zeroCells z.cells (grownCap w (len + m) old e - (len + m))).toList, rfl, hge, ?_, ?_, hcm⟩⟩, ?_, fun b hb => by cases hb; exact .inr (Nat.le_refl _)⟩
    · subst hv
      simp only [Sem.run_bind, run_underlying h2, Result.andThen_ok] at hzeros
      have hm : (match d2 with | .int _ => true | _ => false) = false := by cases d2 <;> first | rfl | exact absurd rfl (hd2 _)
      have hroom : ∀ (q : Nat) (w : World), (askRoom q).run P w = .ok () w := fun q w => by unfold askRoom; split <;> rfl
      simp [Builtin.append_, run_underlying he.slice, run_underlying h2, hm, sizeOf, typeInfo, zeroValue, hf, hz, hlen, hn, h63', h48', Question.forced, hf1, hf2, newRow, grownCap, hroom]
      rw [← Array.append_assoc]; congr 3; simp
    · have := blk_new (w := w.drew) e (xs ++ ys ++ (Builtin.zeroCells z.cells (grownCap w (len + m) old e - (len + m))).toList)
      have e3 : (xs ++ ys ++ (Builtin.zeroCells z.cells (grownCap w (len + m) old e - (len + m))).toList).toArray = xs.toArray ++ ys.toArray ++ Builtin.zeroCells z.cells (grownCap w (len + m) old e - (len + m)) := by simp
      rw [e3] at this
      exact this
    · simp only [List.length_append, Array.length_toList, size_zeroCells, he.cells, hr.1, hys, ← Nat.add_mul]
      congr 1; omega
    · exact ⟨rfl, rfl, rfl, by simp, fun k hk _ => heap_alloc_old w.drew _ k hk⟩
  have hr0 := hr
  obtain ⟨hl, hr2⟩ := hr
  rcases hr2 with ⟨rfl, rfl⟩ | ⟨b, cap, sp, rfl, hnc, hbk, hcap, hcm⟩
  · have hx0 : xs = [] := List.eq_nil_of_length_eq_zero (by simpa using hl)
    subst hx0
    by_cases hm0 : m = 0
    · subst hm0
      have hy0 : ys = [] := List.eq_nil_of_length_eq_zero (by simpa using hys)
      subst hy0
      have hm : (match d2 with | .int _ => true | _ => false) = false := by cases d2 <;> first | rfl | exact absurd rfl (hd2 _)
      refine ⟨.slice none 0 0, w, ?_, ⟨by simp, .inl ⟨rfl, rfl⟩⟩, Kept.refl _ _, fun b hb => .inl hb⟩
      simp [Builtin.append_, run_underlying he.slice, run_underlying h2, hm, sizeOf, typeInfo, hf, hlen, hx w rfl]
    · exact grow 0 (by omega) none rfl (fun w' _ => by simp [Builtin.firstCells])
  · by_cases hroom : len + m ≤ cap
    · have hm : (match d2 with | .int _ => true | _ => false) = false := by cases d2 <;> first | rfl | exact absurd rfl (hd2 _)
      have hfit : len * f.size + 0 + ys.length ≤ (xs ++ sp).length := by rw [hcap, hys, Nat.add_zero, ← Nat.add_mul]; exact Nat.mul_le_mul_right _ hroom
      have hst := run_storeCells (P := P) ys (len * f.size) 0 (xs ++ sp) w hbk hfit h1
      have e1 : (xs ++ sp).take (len * f.size + 0) ++ ys ++ (xs ++ sp).drop (len * f.size + 0 + ys.length) = (xs ++ ys) ++ sp.drop ys.length := by
        simp only [Nat.add_zero, ← hl]
        rw [List.take_left, List.drop_append, List.drop_of_length_le (by omega), Nat.add_sub_cancel_left, List.nil_append]
      rw [e1] at hst
      refine ⟨.slice (some ⟨b, 0, none⟩) (len + m) cap, _, ?_, ⟨hL, .inr ⟨b, cap, sp.drop ys.length, rfl, hroom, hbk.setRow ?_, ?_, hcm⟩⟩, kept_setRow b _, fun x hx => .inl hx⟩
      · simp [Builtin.append_, run_underlying he.slice, run_underlying h2, hm, sizeOf, typeInfo, hf, hlen, hroom, hx w rfl, add_zero, hst]
      · simp at hfit ⊢; omega
      · rw [← hcap]; simp at hfit ⊢; omega
    · refine grow cap (by omega) (some ⟨b, 0, none⟩) rfl (fun w' hw' => ?_)
      have := run_first (P := P) (w := w') (Rd.same hr0.rd (fun b _ _ => by rw [hw'])) len (Nat.le_refl _)
      rw [this, List.take_of_length_le (by rw [hl]; exact Nat.le_refl _)]

theorem lenOf_rd {k : Nat} {x : Value} {m : Nat} {ys : List Value} (h : Rd w k x m ys) (w' : World) : (Builtin.lenOf x).run P w' = .ok m w' := by
  obtain ⟨b, c, rfl, _⟩ := h.shape
  simp [Builtin.lenOf]

theorem first_rd {k : Nat} {x : Value} {m : Nat} {ys : List Value} (h : Rd w k x m ys) (w' : World) (hw : w'.heap = w.heap) : (Builtin.firstCells k m x).run P w' = .ok ys.toArray w' := by
  have := run_first (P := P) (w := w') (Rd.same h (fun b _ _ => by rw [hw])) m (Nat.le_refl _)
  rw [this, List.take_of_length_le (by rw [h.1]; exact Nat.le_refl _)]

theorem first_str (s : List UInt8) (w' : World) : (Builtin.firstCells 1 s.length (vS s)).run P w' = .ok (s.map vU8).toArray w' := by
  have : ((ByteArray.mk s.toArray).extract 0 s.length).data = s.toArray := by
    have h1 : (ByteArray.mk s.toArray).extract 0 s.length = ByteArray.mk s.toArray := by
      apply ByteArray.ext
      simp [ByteArray.data_extract]
    rw [h1]
  simp [Builtin.firstCells, this]

/-- append of a slice. -/
theorem r_append (h : Fr n a l) {ty ty2 e k bytes : Nat} {z v x : Value} {m len : Nat} {xs ys : List Value} {A B : Operand} (he : EOk P ty e k bytes z) (h2 : P.underlying ty2 = some (.slice e)) (ho : o.op = .call ⟨.builtin .append, #[A, B], #[ty, ty2]⟩) (hA : opd l A = some (.o (.v v))) (hB : opd l B = some (.o (.v x)))
    (hr : Row w e k v len xs) (hx : Rd w k x m ys) (h1 : ∀ u ∈ ys, u.oneCell' = true) (h63 : len + m ≤ maxLen) (hbt : (len + m) * bytes ≤ 140737488355328) :
    ∃ v' w', (execOp a.eval o).run P w = .ok (.value v') w' ∧ Row w' e k v' (len + m) (xs ++ ys) ∧ Kept (blockOf v) w w' ∧ ∀ b, blockOf v' b → blockOf v b ∨ w.heap.size ≤ b := by
  obtain ⟨v', w', h3, h4⟩ := run_append (rt := o.type) he h2 (fun _ e => by cases e) hr (lenOf_rd hx) hx.1 (first_rd hx) h1 h63 hbt
  refine ⟨v', w', ?_, h4⟩
  simp [execOp, ho, resolve, invoke, builtin, opd_val h hA, opd_val h hB, h3]

/-- append of a string. -/
theorem r_appendS (h : Fr n a l) {ty ty2 e bytes : Nat} {z v : Value} {len : Nat} {xs : List Value} {s : List UInt8} {A B : Operand} (he : EOk P ty e 1 bytes z) (h2 : P.underlying ty2 = some .string) (ho : o.op = .call ⟨.builtin .append, #[A, B], #[ty, ty2]⟩) (hA : opd l A = some (.o (.v v))) (hB : opd l B = some (.o (.s s)))
    (hr : Row w e 1 v len xs) (h63 : len + s.length ≤ maxLen) (hbt : (len + s.length) * bytes ≤ 140737488355328) :
    ∃ v' w', (execOp a.eval o).run P w = .ok (.value v') w' ∧ Row w' e 1 v' (len + s.length) (xs ++ s.map vU8) ∧ Kept (blockOf v) w w' ∧ ∀ b, blockOf v' b → blockOf v b ∨ w.heap.size ≤ b := by
  obtain ⟨v', w', h3, h4⟩ := run_append (rt := o.type) (x := vS s) (m := s.length) (ys := s.map vU8) he h2 (fun _ e => by cases e) hr (fun w' => by simp [Builtin.lenOf, size_mk]) (by simp) (fun w' _ => first_str s w') (by simp [Value.oneCell']) h63 hbt
  refine ⟨v', w', ?_, h4⟩
  simp [execOp, ho, resolve, invoke, builtin, opd_val h hA, opd_val h hB, h3]

/-- A part of a slice. -/
def sl (k : Nat) (v : Value) (lo hi : Nat) : Value :=
  match v with
  | .slice b _ c => .slice (if c = lo then b else b.map (·.add (lo * k))) (hi - lo) (c - lo)
  | v => v

theorem Rd.sl {k : Nat} {v : Value} {m : Nat} {cs : List Value} (h : Rd w k v m cs) {lo hi : Nat} (h1 : lo ≤ hi) (h2 : hi ≤ m) : Rd w k (sl k v lo hi) (hi - lo) ((cs.drop (lo * k)).take ((hi - lo) * k)) := by
  obtain ⟨hl, h3⟩ := h
  have hlen : ((cs.drop (lo * k)).take ((hi - lo) * k)).length = (hi - lo) * k := by
    rw [List.length_take, List.length_drop, hl, ← Nat.sub_mul]
    exact Nat.min_eq_left (Nat.mul_le_mul_right _ (by omega))
  refine ⟨hlen, ?_⟩
  rcases h3 with ⟨hm, b, c, rfl⟩ | ⟨b, off, cap, all, ty, fz, rfl, h0, h4, h5⟩
  · have hh : hi - lo = 0 := by omega
    exact .inl ⟨hh, (if c = lo then b else b.map (·.add (lo * k))), c - lo, by simp only [Tw.sl, hh]⟩
  · by_cases hc : cap = lo
    · refine .inr ⟨b, off, cap - lo, all, ty, fz, by simp [Tw.sl, hc], by omega, h4, fun j c hj => ?_⟩
      have := (List.getElem?_eq_some_iff.1 hj).1
      rw [hlen, show hi - lo = 0 from by omega] at this
      omega
    · refine .inr ⟨b, off + lo * k, cap - lo, all, ty, fz, by simp [Tw.sl, hc, add_zero], by omega, h4, fun j c hj => ?_⟩
      rw [List.getElem?_take] at hj
      split at hj
      · rw [List.getElem?_drop] at hj
        rw [Nat.add_assoc]; exact h5 _ _ hj
      · cases hj
end
end Go.Tw
