/- The rules of a walk with what is known of the memory. No program is in it. -/
import Derived.Test.YtoglnkhchifeiaaCore7
namespace Go.Tw
set_option linter.unusedSimpArgs false
set_option linter.unusedVariables false
section
variable {P : Program} {T : Nat → Option TypeDesc} {Z : Nat → Option Nat} {V : Nat → Option Value} {C : World → Prop} {K : Act → World → Prop} {n : Nat} {ops : List Oper} {a : Act} {w w0 : World} {Lent S : Nat → Prop} {L : List Rs} {l : Env} {t : Tag} {o : Oper} {R : List (Tag × Oper)} {d : Nat}

/-- An operation whose value hangs on no world. -/
theorem sq_v {v : SV} (h : Fr n a l) (hC : C w) (hr : ∀ w, (execOp a.eval o).run P w = .ok (.value v.val) w) (hg : gOk ops l o = true) (hd : o.dst = some d) (hn : Nat.blt d n = true)
    (k : ∀ a', Fr n a' ((d, v) :: l) → Sq P ops.toArray C K R a' w) : Sq P ops.toArray C K ((t, o) :: R) a w :=
  sq_value hC (fun w => YAt.mk (gOk_wanted h hg) (hr w)) (by rw [hd]; exact k _ (h.put hn v))

theorem m_alloc (H : HA w0 Lent S w L) (h : Fr n a l) (hV : ZOk P V) {ty : TypeId} {z : Value} {cs : List Value} (ho : o.op = .alloc ty) (hz : V ty = some z) (hcs : z.cells = cs.toArray) (hg : gOk ops l o = true) (hd : o.dst = some d) (hn : Nat.blt d n = true)
    (hC : ∀ b w', HA w0 Lent S w' (snocR L (.blk b cs ty)) → C w')
    (k : ∀ b w' a', HA w0 Lent S w' (snocR L (.blk b cs ty)) → Fr n a' ((d, sP b 0) :: l) → Sq P ops.toArray C K R a' w') : Sq P ops.toArray C K ((.w, o) :: R) a w := by
  have H' := H.new (r := .blk w.heap.size cs ty) (kept_alloc w _) (blk_new ty cs) (fun b hb => by cases hb; exact Nat.le_refl _) rfl
  exact sq_w (v := sP w.heap.size 0) h hg hd hn (r_alloc hV ho hz hcs) (hC _ _ H') (fun a' h' => k _ _ a' H' h')

theorem m_box (H : HA w0 Lent S w L) (h : Fr n a l) {ty : TypeId} {x : Operand} {u : SV} {cs : List Value} (ho : o.op = .box ty x) (hx : opd l x = some u) (hcs : u.val.cells = cs.toArray) (hg : gOk ops l o = true) (hd : o.dst = some d) (hn : Nat.blt d n = true)
    (hC : ∀ b w', HA w0 Lent S w' (snocR L (.blk b cs ty)) → C w')
    (k : ∀ b w' a', HA w0 Lent S w' (snocR L (.blk b cs ty)) → Fr n a' ((d, sP b 0) :: l) → Sq P ops.toArray C K R a' w') : Sq P ops.toArray C K ((.w, o) :: R) a w := by
  have H' := H.new (r := .blk w.heap.size cs ty) (kept_alloc w _) (blk_new ty cs) (fun b hb => by cases hb; exact Nat.le_refl _) rfl
  exact sq_w (v := sP w.heap.size 0) h hg hd hn (r_box h ho hx hcs) (hC _ _ H') (fun a' h' => k _ _ a' H' h')

/-- One cell of a block of the call's own has been stored. -/
theorem m_store (H : HA w0 Lent S w L) (h : Fr n a l) (hT : TOk P T Z) {ty : TypeId} {x y : Operand} {b off i : Nat} {cs cs' : List Value} {bt : TypeId} {u : SV} (ho : o.op = .store ty x y) (hx : opd l x = some (sP b off)) (hy : opd l y = some u) (hz : Z ty = some 1) (h1 : u.val.oneCell' = true)
    (hi : nthR L i = some (.blk b cs bt)) (hc : off < cs.length) (he : cs.set off u.val = cs') (hg : gOk ops l o = true) (hd : o.dst = none)
    (hC : ∀ w', HA w0 Lent S w' (setR L i (.blk b cs' bt)) → C w')
    (k : ∀ w' a', HA w0 Lent S w' (setR L i (.blk b cs' bt)) → Fr n a' l → Sq P ops.toArray C K R a' w') : Sq P ops.toArray C K ((.w, o) :: R) a w := by
  have hb : Blk w b cs bt := H.at hi
  have H' := H.upd hi (r' := .blk b cs' bt) (w' := w.setRow b (cs.set off u.val).toArray) (kept_setRow b _) (by subst he; exact hb.setRow (by simp)) (fun _ e => .inl e) rfl rfl
  exact sq_s h hg hd (r_store hT h ho hx hy hz h1 hb hc) (hC _ H') (fun a' h' => k _ a' H' h')

theorem m_storeL (H : HA w0 Lent S w L) (h : Fr n a l) (hT : TOk P T Z) {ty : TypeId} {x y : Operand} {b off i : Nat} {cs cs' : List Value} {bt : TypeId} {u : SV} (ho : o.op = .store ty x y) (hx : opd l x = some (sP b off)) (hy : opd l y = some u) (hz : Z ty = some 1) (h1 : u.val.oneCell' = true)
    (hi : nthR L i = some (.lb b cs bt)) (hc : off < cs.length) (he : cs.set off u.val = cs') (hg : gOk ops l o = true) (hd : o.dst = none)
    (hC : ∀ w', HA w0 Lent Lent w' (setR L i (.lb b cs' bt)) → C w')
    (k : ∀ w' a', HA w0 Lent Lent w' (setR L i (.lb b cs' bt)) → Fr n a' l → Sq P ops.toArray C K R a' w') : Sq P ops.toArray C K ((.w, o) :: R) a w := by
  have hb : Blk w b cs bt := H.at hi
  have H' := H.updL hi (r' := .lb b cs' bt) (w' := w.setRow b (cs.set off u.val).toArray) (kept_setRow b _) (by subst he; exact hb.setRow (by simp)) (fun _ e => e) rfl rfl
  exact sq_s h hg hd (r_store hT h ho hx hy hz h1 hb hc) (hC _ H') (fun a' h' => k _ a' H' h')

theorem m_storeA (H : HA w0 Lent S w L) (h : Fr n a l) (hT : TOk P T Z) {ty : TypeId} {x y : Operand} {b off i j : Nat} {cs cs' us : List Value} {bt : TypeId} {u : SV} (ho : o.op = .store ty x y) (hx : opd l x = some (sP b off)) (hy : opd l y = some u) (hu : u.val = .agg us.toArray) (hz : Z ty = some j) (hj : us.length = j)
    (h1 : ∀ v ∈ us, v.oneCell' = true) (hi : nthR L i = some (.blk b cs bt)) (hc : off + us.length ≤ cs.length) (he : cs.take off ++ us ++ cs.drop (off + us.length) = cs') (hg : gOk ops l o = true) (hd : o.dst = none)
    (hC : ∀ w', HA w0 Lent S w' (setR L i (.blk b cs' bt)) → C w')
    (k : ∀ w' a', HA w0 Lent S w' (setR L i (.blk b cs' bt)) → Fr n a' l → Sq P ops.toArray C K R a' w') : Sq P ops.toArray C K ((.w, o) :: R) a w := by
  have hb : Blk w b cs bt := H.at hi
  have H' := H.upd hi (r' := .blk b cs' bt) (w' := w.setRow b (cs.take off ++ us ++ cs.drop (off + us.length)).toArray) (kept_setRow b _) (by subst he; exact hb.setRow (by simp; omega)) (fun _ e => .inl e) rfl rfl
  exact sq_s h hg hd (r_storeA hT h ho hx hy hu hz hj h1 hb hc) (hC _ H') (fun a' h' => k _ a' H' h')

/-- A store into an element of an owned slice of cells. -/
theorem m_storeE (H : HA w0 Lent S w L) (h : Fr n a l) (hT : TOk P T Z) {ty : TypeId} {x y : Operand} {E len i j : Nat} {v : Value} {cs : List Value} {u : SV} (ho : o.op = .store ty x y) (hx : opd l x = some (.o (.v (eaddr 1 v j)))) (hy : opd l y = some u) (hz : Z ty = some 1) (h1 : u.val.oneCell' = true)
    (hi : nthR L i = some (.row E 1 v len cs)) (hj : j < len) (hg : gOk ops l o = true) (hd : o.dst = none)
    (hC : ∀ w', HA w0 Lent S w' (setR L i (.row E 1 v len (cs.set j u.val))) → C w')
    (k : ∀ w' a', HA w0 Lent S w' (setR L i (.row E 1 v len (cs.set j u.val))) → Fr n a' l → Sq P ops.toArray C K R a' w') : Sq P ops.toArray C K ((.w, o) :: R) a w := by
  obtain ⟨w', hr, hrow, hk⟩ := r_storeE (P := P) hT h ho hx hy hz h1 (H.at hi) hj
  have H' := H.upd hi (r' := .row E 1 v len (cs.set j u.val)) hk hrow (fun _ e => .inl e) rfl rfl
  exact sq_s h hg hd hr (hC _ H') (fun a' h' => k _ a' H' h')

theorem m_make (H : HA w0 Lent S w L) (h : Fr n a l) {ty e bytes : Nat} {z : Value} {x y : Operand} {i j : Int} (he : EOk P ty e 1 bytes z) (h1 : z.oneCell' = true) (ho : o.op = .makeSlice ty x y) (hx : opd l x = some (.o (.i i))) (hy : opd l y = some (.o (.i j)))
    (hi : 0 ≤ i) (hij : i ≤ j) (hj : j ≤ 4611686018427387904) (hbt : bytes * j ≤ 281474976710656) (hg : gOk ops l o = true) (hd : o.dst = some d) (hn : Nat.blt d n = true)
    (hC : ∀ v w', HA w0 Lent S w' (snocR L (.row e 1 v i.toNat (List.replicate i.toNat z))) → C w')
    (k : ∀ v w' a', HA w0 Lent S w' (snocR L (.row e 1 v i.toNat (List.replicate i.toNat z))) → Fr n a' ((d, .o (.v v)) :: l) → Sq P ops.toArray C K R a' w') : Sq P ops.toArray C K ((.w, o) :: R) a w := by
  obtain ⟨v, w', hr, hrow, hk, hf⟩ := r_make (P := P) (w := w) h he h1 ho hx hy hi hij hj hbt
  have H' := H.new (r := .row e 1 v i.toNat (List.replicate i.toNat z)) hk hrow hf rfl
  exact sq_w (v := .o (.v v)) h hg hd hn hr (hC _ _ H') (fun a' h' => k _ _ a' H' h')

theorem m_lit (H : HA w0 Lent S w L) (h : Fr n a l) {ty e bytes len : Nat} {z : Value} {ps : List (Nat × Operand)} {us : List Value} (he : EOk P ty e 1 bytes z) (ho : o.op = .buildSlice ty len ps.toArray) (hp : partsV l ps = some (numbered 0 us)) (hl : us.length = len) (hb : len ≤ 16777216) (h1 : ∀ u ∈ us, u.oneCell' = true)
    (hg : gOk ops l o = true) (hd : o.dst = some d) (hn : Nat.blt d n = true)
    (hC : ∀ v w', HA w0 Lent S w' (snocR L (.row e 1 v len us)) → C w')
    (k : ∀ v w' a', HA w0 Lent S w' (snocR L (.row e 1 v len us)) → Fr n a' ((d, .o (.v v)) :: l) → Sq P ops.toArray C K R a' w') : Sq P ops.toArray C K ((.w, o) :: R) a w := by
  obtain ⟨v, w', hr, hrow, hk, hf⟩ := r_lit (P := P) (w := w) h he ho hp hl hb h1
  have H' := H.new (r := .row e 1 v len us) hk hrow hf rfl
  exact sq_w (v := .o (.v v)) h hg hd hn hr (hC _ _ H') (fun a' h' => k _ _ a' H' h')

theorem m_s2b (H : HA w0 Lent S w L) (h : Fr n a l) (hT : TOk P T Z) {src dst e : TypeId} {x : Operand} {s : List UInt8} (ho : o.op = .convert src dst x) (hx : opd l x = some (.o (.s s))) (hs : T src = some .string) (hds : T dst = some (.slice e)) (he : T e = some (.int .u8)) (hl : s.length ≤ maxLen)
    (hg : gOk ops l o = true) (hd : o.dst = some d) (hn : Nat.blt d n = true)
    (hC : ∀ v w', HA w0 Lent S w' (snocR L (.row e 1 v s.length (s.map vU8))) → C w')
    (k : ∀ v w' a', HA w0 Lent S w' (snocR L (.row e 1 v s.length (s.map vU8))) → Fr n a' ((d, .o (.v v)) :: l) → Sq P ops.toArray C K R a' w') : Sq P ops.toArray C K ((.w, o) :: R) a w := by
  obtain ⟨v, w', hr, hrow, hk, hf⟩ := r_s2b (P := P) (w := w) hT h ho hx hs hds he hl
  have H' := H.new (r := .row e 1 v s.length (s.map vU8)) hk hrow hf rfl
  exact sq_w (v := .o (.v v)) h hg hd hn hr (hC _ _ H') (fun a' h' => k _ _ a' H' h')

/-- append of a slice to an owned one. -/
theorem m_append (H : HA w0 Lent S w L) (h : Fr n a l) {ty ty2 e bytes i j : Nat} {z v x : Value} {m len : Nat} {xs ys : List Value} {A B : Operand} (he : EOk P ty e j bytes z) (h2 : P.underlying ty2 = some (.slice e)) (ho : o.op = .call ⟨.builtin .append, #[A, B], #[ty, ty2]⟩) (hA : opd l A = some (.o (.v v))) (hB : opd l B = some (.o (.v x)))
    (hi : nthR L i = some (.row e j v len xs)) (hx : Rd w j x m ys) (h1 : ∀ u ∈ ys, u.oneCell' = true) (h63 : len + m ≤ maxLen) (hbt : (len + m) * bytes ≤ 140737488355328) (hg : gOk ops l o = true) (hd : o.dst = some d) (hn : Nat.blt d n = true)
    (hC : ∀ v' w', HA w0 Lent S w' (setR L i (.row e j v' (len + m) (xs ++ ys))) → C w')
    (k : ∀ v' w' a', HA w0 Lent S w' (setR L i (.row e j v' (len + m) (xs ++ ys))) → Fr n a' ((d, .o (.v v')) :: l) → Sq P ops.toArray C K R a' w') : Sq P ops.toArray C K ((.w, o) :: R) a w := by
  obtain ⟨v', w', hr, hrow, hk, hf⟩ := r_append (P := P) h he h2 ho hA hB (H.at hi) hx h1 h63 hbt
  have H' := H.upd hi (r' := .row e j v' (len + m) (xs ++ ys)) hk hrow hf rfl rfl
  exact sq_w (v := .o (.v v')) h hg hd hn hr (hC _ _ H') (fun a' h' => k _ _ a' H' h')

theorem m_appendS (H : HA w0 Lent S w L) (h : Fr n a l) {ty ty2 e bytes i : Nat} {z v : Value} {len : Nat} {xs : List Value} {s : List UInt8} {A B : Operand} (he : EOk P ty e 1 bytes z) (h2 : P.underlying ty2 = some .string) (ho : o.op = .call ⟨.builtin .append, #[A, B], #[ty, ty2]⟩) (hA : opd l A = some (.o (.v v))) (hB : opd l B = some (.o (.s s)))
    (hi : nthR L i = some (.row e 1 v len xs)) (h63 : len + s.length ≤ maxLen) (hbt : (len + s.length) * bytes ≤ 140737488355328) (hg : gOk ops l o = true) (hd : o.dst = some d) (hn : Nat.blt d n = true)
    (hC : ∀ v' w', HA w0 Lent S w' (setR L i (.row e 1 v' (len + s.length) (xs ++ s.map vU8))) → C w')
    (k : ∀ v' w' a', HA w0 Lent S w' (setR L i (.row e 1 v' (len + s.length) (xs ++ s.map vU8))) → Fr n a' ((d, .o (.v v')) :: l) → Sq P ops.toArray C K R a' w') : Sq P ops.toArray C K ((.w, o) :: R) a w := by
  obtain ⟨v', w', hr, hrow, hk, hf⟩ := r_appendS (P := P) h he h2 ho hA hB (H.at hi) h63 hbt
  have H' := H.upd hi (r' := .row e 1 v' (len + s.length) (xs ++ s.map vU8)) hk hrow hf rfl rfl
  exact sq_w (v := .o (.v v')) h hg hd hn hr (hC _ _ H') (fun a' h' => k _ _ a' H' h')

/-- copy into a part of an owned slice. -/
theorem m_copy (H : HA w0 Lent S w L) (h : Fr n a l) {ty ty2 e bytes i : Nat} {z v x : Value} {m len lo hi : Nat} {xs ys : List Value} {A B : Operand} (he : EOk P ty e 1 bytes z) (ho : o.op = .call ⟨.builtin .copy, #[A, B], #[ty, ty2]⟩) (hA : opd l A = some (.o (.v (sl 1 v lo hi)))) (hB : opd l B = some (.o (.v x)))
    (hr0 : nthR L i = some (.row e 1 v len xs)) (hlo : lo ≤ hi) (hhi : hi ≤ len) (hx : Rd w 1 x m ys) (h1 : ∀ u ∈ ys, u.oneCell' = true) (hg : gOk ops l o = true) (hd : o.dst = some d) (hn : Nat.blt d n = true)
    (hC : ∀ w', HA w0 Lent S w' (setR L i (.row e 1 v len (xs.take lo ++ ys.take (Nat.min m (hi - lo)) ++ xs.drop (lo + Nat.min m (hi - lo))))) → C w')
    (k : ∀ w' a', HA w0 Lent S w' (setR L i (.row e 1 v len (xs.take lo ++ ys.take (Nat.min m (hi - lo)) ++ xs.drop (lo + Nat.min m (hi - lo))))) → Fr n a' ((d, .o (.i (Nat.min m (hi - lo)))) :: l) → Sq P ops.toArray C K R a' w') : Sq P ops.toArray C K ((.w, o) :: R) a w := by
  obtain ⟨w', hr, hrow, hk⟩ := r_copy (P := P) h he ho hA hB (H.at hr0) hlo hhi hx h1
  have H' := H.upd hr0 (r' := .row e 1 v len (xs.take lo ++ ys.take (Nat.min m (hi - lo)) ++ xs.drop (lo + Nat.min m (hi - lo)))) hk hrow (fun _ e => .inl e) rfl rfl
  exact sq_w (v := .o (.i (Nat.min m (hi - lo)))) h hg hd hn hr (hC _ H') (fun a' h' => k _ a' H' h')
end
end Go.Tw
