/- The runs in the form that the printed walks use. No program is in it. -/
import Derived.Test.YtoglnkhchifeiaaCore9
namespace Go.Tw
set_option linter.unusedSimpArgs false
set_option linter.unusedVariables false
theorem vec_const {α : Type} {n : Nat} {f : α → Value} {xs : Vector α n} {o : Nat} (i : Nat) (h : i < n) (ho : o = i) : (vec f xs)[o]? = some (f (xs[i]'h)) := by subst ho; simp [vec, h]
theorem vec_all {α : Type} {n : Nat} {f : α → Value} {xs : Vector α n} : ((vec f xs).drop 0).take n = vec f xs := by
  rw [List.drop_zero, List.take_of_length_le (by rw [vec_len]; exact Nat.le_refl _)]
theorem vec_setc {α : Type} {n : Nat} {f : α → Value} {xs ys : Vector α n} {x : α} {o : Nat} (i : Nat) (ho : o = i) (h : some (xs.setIfInBounds i x) = some ys) : (vec f xs).set o (f x) = vec f ys := by
  subst ho; rw [vec_set]; exact congrArg _ (Option.some.inj h)
theorem vec_setj {α : Type} {n : Nat} {f : α → Value} {xs ys : Vector α n} {x : α} {j : Nat} (h : some (xs.setIfInBounds j x) = some ys) : (vec f xs).set (0 + j * 1) (f x) = vec f ys := vec_setc j (by omega) h
theorem vec_lt {α : Type} {n : Nat} {f : α → Value} {xs : Vector α n} {i : Int} {j : Nat} (h : inb n i = some j) : 0 + j * 1 < (vec f xs).length := by
  have := inb_some h; rw [vec_len]; omega
theorem vec_ltc {α : Type} {n : Nat} {f : α → Value} {xs : Vector α n} {o : Nat} (h : o < n) : o < (vec f xs).length := by rw [vec_len]; exact h
theorem stA {us cs : List Value} (h : us.length = cs.length) : cs.take 0 ++ us ++ cs.drop (0 + us.length) = us := by
  rw [Nat.zero_add, h]; simp
def vec2 {α : Type} {n m : Nat} (f : α → Value) (xs : Vector (Vector α m) n) : List Value := xs.toList.flatMap fun r => vec f r
theorem vec2_len {α : Type} {n m : Nat} (f : α → Value) (xs : Vector (Vector α m) n) : (vec2 f xs).length = n * m := by
  have : ∀ l : List (Vector α m), (l.flatMap fun r => vec f r).length = l.length * m := by
    intro l; induction l with
    | nil => simp
    | cons x l ih => rw [List.flatMap_cons, List.length_append, ih, vec_len, List.length_cons, Nat.add_mul]; omega
  rw [vec2, this]; simp
theorem vec2_all {α : Type} {n m k : Nat} {f : α → Value} {xs : Vector (Vector α m) n} (hk : k = n * m) : ((vec2 f xs).drop 0).take k = vec2 f xs := by
  rw [List.drop_zero, List.take_of_length_le (by rw [vec2_len, hk]; exact Nat.le_refl _)]
theorem vec2_get {α : Type} {n m : Nat} {f : α → Value} {xs : Vector (Vector α m) n} {i : Nat} {r : Vector α m} (h : xs[i]? = some r) : ((vec2 f xs).drop (i * m)).take m = vec f r := by
  have key : ∀ (l : List (Vector α m)) (i : Nat), l[i]? = some r → ((l.flatMap fun r => vec f r).drop (i * m)).take m = vec f r := by
    intro l
    induction l with
    | nil => intro i h; simp at h
    | cons x l ih =>
      intro i h
      cases i with
      | zero =>
        simp at h; subst h
        rw [Nat.zero_mul, List.drop_zero, List.flatMap_cons, List.take_append_of_le_length (by rw [vec_len]; exact Nat.le_refl _), List.take_of_length_le (by rw [vec_len]; exact Nat.le_refl _)]
      | succ i =>
        simp at h
        rw [List.flatMap_cons, Nat.succ_mul, Nat.add_comm, ← List.drop_drop, List.drop_append_of_le_length (by rw [vec_len]; exact Nat.le_refl _)]
        have e0 : List.drop m (vec f x) = [] := List.drop_of_length_le (by rw [vec_len]; exact Nat.le_refl _)
        rw [e0, List.nil_append]
        exact ih i h
  exact key _ _ (by simpa [Vector.getElem?_toList] using h)
theorem one_vec2 {α : Type} {n m : Nat} {f : α → Value} (hf : ∀ x, (f x).oneCell' = true) (xs : Vector (Vector α m) n) : ∀ u ∈ vec2 f xs, u.oneCell' = true := by
  intro u hu; obtain ⟨r, _, h⟩ := List.mem_flatMap.1 hu; exact one_vec hf r u h

theorem sq_fr {P : Program} {C : World → Prop} {K : Act → World → Prop} {n : Nat} {ops : Array Oper} {a : Act} {w : World} {l : Env} {R : List (Tag × Oper)} {dst : Option Tmp} {d : Nat} {v : SV} {v' : Value} (h : Fr n a l) (hd : dst = some d) (hn : Nat.blt d n = true) (hv : v' = v.val)
    (k : ∀ a', Fr n a' ((d, v) :: l) → Sq P ops C K R a' w) : Sq P ops C K R (a.put dst v') w := by
  subst hd hv; exact k _ (h.put hn v)

theorem enterW {P : Program} {f : FuncId} {fn : Func} {c : Code} {args : Array Value} {w0 : World} {R : Value → World → Prop} {n : Nat} (vs : List SV)
    (hf : P.funcs[f]? = some fn) (hb : fn.body = some c) (hn : fn.ntmps = n) (ha : args = (vs.map SV.val).toArray) (hl : Nat.ble vs.length n = true)
    (h : ∀ a w, HA w0 none1 none1 w [] → Fr n a (start 0 vs) → c.wp P (QL (Fin P fn R) (fun _ _ _ => False) (Fin P fn R)) a w) : Calls P f args w0 (Ret R) :=
  enter vs hf hb hn ha hl fun a h' => h a w0 (HA.start w0) h'

section
variable {P : Program} {T : Nat → Option TypeDesc} {Z : Nat → Option Nat} {n : Nat} {a : Act} {w : World} {l : Env} {o : Oper}

theorem j_idxArr (hT : TOk P T Z) (h : Fr n a l) {ty e : TypeId} {x i : Operand} {b off len k j : Nat} {m : Int} (hj : inb len m = some j) (ho : o.op = .indexAddr ty x i) (hx : opd l x = some (sP b off)) (hi : opd l i = some (.o (.i m))) (hd : T ty = some (.array len e)) (hz : Z e = some k) (w : World) :
    (execOp a.eval o).run P w = .ok (.value (vP b (off + j * k))) w := by
  obtain ⟨h0, h1, rfl, _⟩ := inb_some hj
  exact r_idxArr hT h ho hx hi hd hz h0 h1 w

theorem j_idxSl (hT : TOk P T Z) (h : Fr n a l) {ty e : TypeId} {x i : Operand} {k len j : Nat} {m : Int} {v : Value} {cs : List Value} (hj : inb len m = some j) (hr : Rd w k v len cs) (ho : o.op = .indexAddr ty x i) (hx : opd l x = some (.o (.v v))) (hi : opd l i = some (.o (.i m))) (hd : T ty = some (.slice e)) (hz : Z e = some k) (w' : World) :
    (execOp a.eval o).run P w' = .ok (.value (eaddr k v j)) w' := by
  obtain ⟨h0, h1, rfl, _⟩ := inb_some hj
  exact r_idxSl hT h ho hx hi hd hz hr h0 h1 w'

theorem j_index (hT : TOk P T Z) (h : Fr n a l) {α : Type} {f : α → Value} {len : Nat} {xs : Vector α len} {u : α} {ty e : TypeId} {x i : Operand} {m : Int} {dd : TypeDesc} (hj : vix xs m = some u) (ho : o.op = .index ty x i) (hx : opd l x = some (.o (.v (.agg (vec f xs).toArray)))) (hi : opd l i = some (.o (.i m))) (hd : T ty = some (.array len e)) (hz : Z e = some 1)
    (he : T e = some dd) (hg : aggD dd = false) (w : World) : (execOp a.eval o).run P w = .ok (.value (f u)) w := by
  obtain ⟨h0, h1, _, h3⟩ := vix_some hj
  exact r_index hT h ho hx hi hd hz he hg h0 h3 (vec_get h1) w

theorem j_indexA (hT : TOk P T Z) (h : Fr n a l) {α : Type} {f : α → Value} {len k : Nat} {xs : Vector (Vector α k) len} {u : Vector α k} {ty e : TypeId} {x i : Operand} {m : Int} {dd : TypeDesc} (hj : vix xs m = some u) (ho : o.op = .index ty x i) (hx : opd l x = some (.o (.v (.agg (vec2 f xs).toArray)))) (hi : opd l i = some (.o (.i m))) (hd : T ty = some (.array len e)) (hz : Z e = some k)
    (he : T e = some dd) (hg : aggD dd = true) (w : World) : (execOp a.eval o).run P w = .ok (.value (.agg (vec f u).toArray)) w := by
  obtain ⟨h0, h1, _, h3⟩ := vix_some hj
  exact r_indexA hT h ho hx hi hd hz he hg h0 h3 (vec2_get h1) w

theorem j_slice (hT : TOk P T Z) (h : Fr n a l) {α : Type} {f : α → Value} {xs r : List α} {ty e : TypeId} {x : Operand} {lo hi : Option Operand} {i j : Int} {v : Value} (hg : gsl xs i j = some r) (hr : TRd w f v xs) (ho : o.op = .slice ty x lo hi none) (hx : opd l x = some (.o (.v v))) (hd : T ty = some (.slice e)) (hz : Z e = some 1)
    (hlo : bnd l lo 0 = some i) (hhi : bnd l hi xs.length = some j) (w' : World) : (execOp a.eval o).run P w' = .ok (.value (sl 1 v i.toNat j.toNat)) w' := by
  obtain ⟨h0, h1, h2, _⟩ := gsl_some hg
  exact r_slice hT h ho hx hd hz hr hlo hhi h0 h1 h2 w'

theorem j_sliceS (hT : TOk P T Z) (h : Fr n a l) {s r : List UInt8} {ty : TypeId} {x : Operand} {lo hi : Option Operand} {i j : Int} (hg : gsl s i j = some r) (ho : o.op = .slice ty x lo hi none) (hx : opd l x = some (.o (.s s))) (hd : T ty = some .string)
    (hlo : bnd l lo 0 = some i) (hhi : bnd l hi s.length = some j) (w' : World) : (execOp a.eval o).run P w' = .ok (.value (vS r)) w' := by
  obtain ⟨h0, h1, h2, rfl⟩ := gsl_some hg
  exact r_sliceS hT h ho hx hd hlo hhi h0 h1 h2 w'

theorem j_cat (h : Fr n a l) {t t' : TypeId} {x y : Operand} {p q r : List UInt8} (hg : gcat p q = some r) (ho : o.op = .binOp .add t x y t') (hx : opd l x = some (.o (.s p))) (hy : opd l y = some (.o (.s q))) (w : World) : (execOp a.eval o).run P w = .ok (.value (vS r)) w := by
  obtain ⟨h0, rfl⟩ := gcat_some hg
  exact r_cat h ho hx hy (by omega) w

theorem j_shift (h : Fr n a l) {op : BinOp} {t t' : TypeId} {x y : Operand} {p z : S0} {m : Int} {k : Nat} (hg : gnn m = some k) (ho : o.op = .binOp op t x y t') (hx : opd l x = some (.o p)) (hy : opd l y = some (.o (.i m))) (hz : sop op p k = some z) (w : World) :
    (execOp a.eval o).run P w = .ok (.value z.val) w := by
  obtain ⟨h0, rfl⟩ := gnn_some hg
  exact r_shift h ho hx hy h0 hz w

theorem eaddr_loadE (hT : TOk P T Z) (h : Fr n a l) {α : Type} {f : α → Value} {xs : List α} {u : α} {ty : TypeId} {x : Operand} {i : Nat} {v : Value} {dd : TypeDesc} (hc : xs[i]? = some u) (hr : TRd w f v xs) (ho : o.op = .load ty x) (hx : opd l x = some (.o (.v (eaddr 1 v i)))) (hd : T ty = some dd) (hg : aggD dd = false) :
    (execOp a.eval o).run P w = .ok (.value (f u)) w := r_loadE hT h ho hx hd hg hr (get_map hc)
end
end Go.Tw
