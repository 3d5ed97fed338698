/- The evaluator of operations that read no memory, continued: elements, slices, building. No program is in it. -/
import Derived.Defers
import Derived.Test.YthikoaamigiceaaDoorK1
namespace Go.Tw
set_option linter.unusedSimpArgs false
set_option linter.unusedVariables false

def reAr : IV → Option ((m : Nat) × (t : Ty) × Vector t.den m)
  | .re (.ar m t) xs => some ⟨m, t, xs⟩
  | _ => none

theorem reAr_ok {v : IV} {y : (m : Nat) × (t : Ty) × Vector t.den m} (h : reAr v = some y) : v = .re (.ar y.1 y.2.1) y.2.2 := by
  unfold reAr at h
  split at h
  · simp only [Option.some.injEq] at h; subst h; rfl
  · cases h

def gslb (n : Nat) (i j : Int) : Option (Nat × Nat) := if 0 ≤ i ∧ i ≤ j ∧ j ≤ n then some (i.toNat, j.toNat) else none
theorem gslb_some {n : Nat} {i j : Int} {y : Nat × Nat} (h : gslb n i j = some y) : 0 ≤ i ∧ i ≤ j ∧ j ≤ n ∧ y = (i.toNat, j.toNat) := by
  unfold gslb at h
  split at h
  · rename_i h'; simp only [Option.some.injEq] at h; exact ⟨h'.1, h'.2.1, h'.2.2, h.symm⟩
  · cases h

section
variable {P : Program} {c : Cfg} {n : Nat} {a : Act} {l : Env} {il : IEnv} {O : Own} {ρ : List Hd} {tb : Tbl} {w0 : World} {o : Oper}

/-- The address of an element of an array at a path of a block. -/
def iaB {β : Type} (k : IV → Option β) (id : Nat) (p : List Nat) (m : Nat) (i : Operand) (iv : Int) : Option β :=
  match litN i with
  | some j => match Nat.blt j m with
    | true => k (.pt id (p ++ [j]))
    | false => none
  | none => (inb m iv).bind fun j => k (.pt id (p ++ [j]))

/-- The elements' number and size at a path. -/
def arAt (tb : Tbl) (id : Nat) (p : List Nat) (m s : Nat) : Bool :=
  match nth tb id with
  | some (.blk _ v) => match v.sz.subz p with
    | some (.ar m' z) => Nat.beq m m' && Nat.beq s z.size
    | _ => false
  | _ => false

def pIA0 {β : Type} (c : Cfg) (il : IEnv) (tb : Tbl) (k : IV → Option β) (t : Nat) (x i : Operand) : Option β :=
  match c.D t, iopd c il x, iopd c il i with
  | some (.array m e), some (.pt id p), some (.o (.i iv)) => match c.Z e with
    | some s => match arAt tb id p m s with
      | true => iaB k id p m i iv
      | false => none
    | none => none
  | some (.array m e), some v, some (.o (.i iv)) => match reAr v, c.Z e with
    | some ⟨m', t', xs⟩, some s => match Nat.beq m m', Nat.beq s t'.size with
      | true, true => (vix xs iv).bind fun x => k (.re t' x)
      | _, _ => none
    | _, _ => none
  | some (.slice e), some (.ro t' xs), some (.o (.i iv)) => match c.Z e with
    | some s => match Nat.beq s t'.size with
      | true => (ix xs iv).bind fun x => k (.re t' x)
      | false => none
    | none => none
  | some (.slice e), some (.rw id), some (.o (.i iv)) => match c.Z e, nth tb id with
    | some s, some (.row _ t' xs) => match Nat.beq s t'.size with
      | true => (inb xs.length iv).bind fun j => k (.el id j [])
      | false => none
    | some s, some (.fz t' xs) => match Nat.beq s t'.size with
      | true => (ix xs iv).bind fun x => k (.re t' x)
      | false => none
    | _, _ => none
  | some (.slice e), some (.rp id lo hi), some (.o (.i iv)) => match c.Z e, nth tb id with
    | some s, some (.row _ t' xs) => match Nat.beq s t'.size with
      | true => (inb (hi - lo) iv).bind fun j => k (.el id (lo + j) [])
      | false => none
    | _, _ => none
  | some (.slice e), some (.ap id p lo hi), some (.o (.i iv)) => match c.Z e, nth tb id with
    | some s, some (.blk _ v) => match v.sz.subz p with
      | some (.ar m' z) => match Nat.beq s z.size with
        | true => (inb (hi - lo) iv).bind fun j => k (.pt id (p ++ [lo + j]))
        | false => none
      | _ => none
    | _, _ => none
  | _, _, _ => none

theorem run_IAa (hc : COk P c) {t e s m : Nat} {x i : Operand} {ad : Addr} {iv : Int} (ho : o.op = .indexAddr t x i) (hd : c.D t = some (.array m e)) (hz : c.Z e = some s) (hx : a.eval x = .pointer (some ad)) (hi : a.eval i = vI iv) (h0 : 0 ≤ iv) (h1 : iv < m) (w : World) :
    (execOp a.eval o).run P w = .ok (.value (.pointer (some (ad.add (iv.toNat * s))))) w := by
  simp only [execOp, ho, hx, hi]
  simp [Instr.indexAt, asIntOf, run_underlying (hc.tok.desc _ _ hd), Instr.sureAddr, hc.tok.size _ _ hz, h0, h1]

theorem run_IAs (hc : COk P c) {t e s m cp : Nat} {x i : Operand} {ad : Addr} {iv : Int} (ho : o.op = .indexAddr t x i) (hd : c.D t = some (.slice e)) (hz : c.Z e = some s) (hx : a.eval x = .slice (some ad) m cp) (hi : a.eval i = vI iv) (h0 : 0 ≤ iv) (h1 : iv < m) (w : World) :
    (execOp a.eval o).run P w = .ok (.value (.pointer (some (ad.add (iv.toNat * s))))) w := by
  simp only [execOp, ho, hx, hi]
  simp [Instr.indexAt, asIntOf, run_underlying (hc.tok.desc _ _ hd), hc.tok.size _ _ hz, h0, h1]

theorem subz_sub {z z' : Sz} {p : List Nat} {off : Nat} (h : z.off p = some off) (k : z.subz p = some z') : z.sub p = some z' := (Sz.off_app (q := []) h k).2

/-- The address of element j of an array at a path. -/
theorem off_el {z z' : Sz} {p : List Nat} {off m j : Nat} (h : z.off p = some off) (k : z.subz p = some (.ar m z')) (hj : j < m) : z.off (p ++ [j]) = some (off + j * z'.size) := by
  rw [(Sz.off_app (q := [j]) h k).1]
  simp only [Sz.off, hj, if_true]
  cases z' <;> rfl

theorem pIA0_ok {β : Type} {k : IV → Option β} {r : β} (hc : COk P c) (hF : Fr n a l) (hE : ER O ρ il l) (hG : GO c O) (hM : Gm O ρ tb w0) {t : Nat} {x i : Operand} (ho : o.op = .indexAddr t x i) (e : pIA0 c il tb k t x i = some r) : POk P a o O ρ k r := by
  have ipt : ∀ {iv : Int}, iopd c il i = some (.o (.i iv)) → a.eval i = vI iv := fun h => opd_val hF (iopd_o hE hG h).1
  have re_sl : ∀ {e' s : Nat} {t' : Ty} {xs : List t'.den} {iv : Int} {u : Value}, c.D t = some (.slice e') → c.Z e' = some s → Nat.beq s t'.size = true → a.eval x = u → TR O (.sl t') xs [u] → iopd c il i = some (.o (.i iv)) →
      ((ix xs iv).bind fun x => k (.re t' x)) = some r → POk P a o O ρ k r := by
    intro e' s t' xs iv u hd hz hs hu hT hi e
    obtain ⟨y, hy, e⟩ := bindS e
    obtain ⟨h0, h1, h2, h3⟩ := ix_some hy
    have hs := Nat.eq_of_beq_eq_true hs
    obtain ⟨u', es, hcs, hL, hS⟩ := hT
    cases hcs
    rcases hS with ⟨h4, _⟩ | ⟨b, off, cp, rfl, h4, hI⟩
    · omega
    · have hr := run_IAs hc ho hd hz hu (ipt hi) h0 h3
      rw [add_zero _ rfl, hs] at hr
      exact POk.one (v := .re t' y) ⟨b, _, _, rfl, LR.get (fun _ _ => TR.length) hL h1, hI.part _ _⟩ rfl (by simp) hr e
  unfold pIA0 at e
  split at e
  · -- an array in a block
    rename_i m e' id p iv hd hx hi
    split at e <;> first | (cases e; done) | skip
    rename_i s hz
    split at e <;> first | (cases e; done) | skip
    rename_i hat
    unfold arAt at hat
    split at hat <;> first | (cases hat; done) | skip
    rename_i ty v hb
    split at hat <;> first | (cases hat; done) | skip
    rename_i m' z hsz
    simp only [Bool.and_eq_true] at hat
    have hm := Nat.eq_of_beq_eq_true hat.1
    have hs := Nat.eq_of_beq_eq_true hat.2
    subst hm hs
    obtain ⟨u, hu, ⟨h, off, h1, h2, h3⟩, _⟩ := iopd_1 hE hG hx rfl (by simp) hF
    cases h3
    rw [nth_eq] at hb
    obtain ⟨h', cs, h4, _, h5, _⟩ := hM.th _ _ hb
    rw [h1] at h4; cases h4
    rw [← h5] at hsz
    have fin : ∀ j : Nat, iv = (j : Int) → j < m → k (.pt id (p ++ [j])) = some r → POk P a o O ρ k r := by
      intro j hj hjm e'
      subst hj
      have hr := run_IAa hc ho hd hz hu (ipt hi) (by omega) (by omega)
      rw [add_zero _ rfl] at hr
      simp only [Int.toNat_natCast] at hr
      exact POk.one (v := .pt id (p ++ [j])) ⟨h, _, h1, off_el h2 hsz hjm, rfl⟩ rfl (by simp) hr e'
    unfold iaB at e
    split at e
    · rename_i j hl
      have := litN_ok hl
      subst this
      simp only [iopd, iconst, lift, S0.sc, Option.some.injEq, IV.o.injEq, S0.i.injEq] at hi
      split at e <;> first | (cases e; done) | skip
      rename_i hjm
      exact fin j hi.symm (by simpa [Nat.blt_eq] using hjm) e
    · obtain ⟨j, hj, e⟩ := bindS e
      obtain ⟨h6, h7, h8, h9⟩ := inb_some hj
      exact fin j (by omega) h9 e
  · rename_i m e' v iv _ hd hx hi
    split at e <;> first | (cases e; done) | skip
    rename_i m' t' xs s hre hz
    split at e <;> first | (cases e; done) | skip
    rename_i hm hs
    have hm := Nat.eq_of_beq_eq_true hm
    have hs := Nat.eq_of_beq_eq_true hs
    subst hm hs
    rw [reAr_ok hre] at hx
    obtain ⟨y, hy, e⟩ := bindS e
    obtain ⟨h6, h7, h8, h9⟩ := vix_some hy
    obtain ⟨u, hu, ⟨b, off, cs, h1, h2, h3⟩, _⟩ := iopd_1 hE hG hx rfl (by simp) hF
    cases h1
    have hr := run_IAa hc ho hd hz hu (ipt hi) h6 h9
    rw [add_zero _ rfl] at hr
    exact POk.one (v := .re t' y) ⟨b, _, _, rfl, LR.get (fun _ _ => TR.length) h2 (by rw [Vector.getElem?_toList]; exact h7), h3.part _ _⟩ rfl (by simp) hr e
  · rename_i e' t' xs iv hd hx hi
    split at e <;> first | (cases e; done) | skip
    rename_i s hz
    split at e <;> first | (cases e; done) | skip
    rename_i hs
    obtain ⟨u, hu, h, _⟩ := iopd_1 hE hG hx rfl (by simp) hF
    exact re_sl hd hz hs hu h hi e
  · rename_i e' id iv hd hx hi
    obtain ⟨u, hu, ⟨h, h1, h2, _⟩, _⟩ := iopd_1 hE hG hx rfl (by simp) hF
    cases h2
    split at e <;> first | (cases e; done) | skip
    · rename_i s E t' xs hz hb
      split at e <;> first | (cases e; done) | skip
      rename_i hs
      have hs := Nat.eq_of_beq_eq_true hs
      subst hs
      rw [nth_eq] at hb
      obtain ⟨h', es, h4, h5, _, _, hrow⟩ := hM.th _ _ hb
      rw [h1] at h4; cases h4
      obtain ⟨j, hj, e⟩ := bindS e
      obtain ⟨h6, h7, h8, h9⟩ := inb_some hj
      obtain ⟨b, cp, hv, hn, _⟩ := hrow.rd.shape
      cases b with
      | none => have := hn rfl; omega
      | some ad =>
        have hr := run_IAs hc ho hd hz (hu.trans hv) (ipt hi) h6 h7
        rw [h8] at hr
        refine POk.one (v := .el id j []) ⟨h, 0, ad, _, cp, h1, by rw [h5]; cases t'.sz <;> rfl, hv, h9, ?_⟩ rfl (by simp) hr e
        rw [h5, Ty.sz_size, Nat.add_zero]
    · rename_i s t' xs hz hb
      split at e <;> first | (cases e; done) | skip
      rename_i hs
      rw [nth_eq] at hb
      obtain ⟨h', h4, h5, hT⟩ := hM.th _ _ hb
      rw [h1] at h4; cases h4
      exact re_sl hd hz hs hu hT hi e
  · rename_i e' id lo hi' iv hd hx hi
    obtain ⟨u, hu, ⟨h, u', h1, h2, hp⟩, _⟩ := iopd_1 hE hG hx rfl (by simp) hF
    cases h2
    split at e <;> first | (cases e; done) | skip
    rename_i s E t' xs hz hb
    split at e <;> first | (cases e; done) | skip
    rename_i hs
    have hs := Nat.eq_of_beq_eq_true hs
    subst hs
    rw [nth_eq] at hb
    obtain ⟨h', es, h4, h5, _, _, hrow⟩ := hM.th _ _ hb
    rw [h1] at h4; cases h4
    obtain ⟨j, hj, e⟩ := bindS e
    obtain ⟨h6, h7, h8, h9⟩ := inb_some hj
    obtain ⟨b, nn, cp, b', cp', hv, rfl, hlo, hhi, hor⟩ := hp
    rcases hor with hor | ⟨ad, rfl, rfl, hcap⟩
    · omega
    · have hr := run_IAs hc ho hd hz hu (ipt hi) h6 h7
      have hsp := hrow.spot _ _ _ hv
      rw [h8, add_add _ hsp, h5, Ty.sz_size, ← Nat.add_mul] at hr
      refine POk.one (v := .el id (lo + j) []) ⟨h, 0, ad, _, cp, h1, by rw [h5]; cases t'.sz <;> rfl, hv, by omega, ?_⟩ rfl (by simp) hr e
      rw [h5, Ty.sz_size, Nat.add_zero]
  · rename_i e' id p lo hi' iv hd hx hi
    obtain ⟨u, hu, ⟨h, off, m, z, h1, h2, h3, u', hcs, hp⟩, _⟩ := iopd_1 hE hG hx rfl (by simp) hF
    cases hcs
    split at e <;> first | (cases e; done) | skip
    rename_i s ty v hz hb
    split at e <;> first | (cases e; done) | skip
    rename_i m' z' hsz
    split at e <;> first | (cases e; done) | skip
    rename_i hs
    have hs := Nat.eq_of_beq_eq_true hs
    subst hs
    rw [nth_eq] at hb
    obtain ⟨h', cs, h4, _, h5, _⟩ := hM.th _ _ hb
    rw [h1] at h4; cases h4
    rw [← h5] at hsz
    have hsub := subz_sub h2 hsz
    rw [h3] at hsub
    cases hsub
    obtain ⟨j, hj, e⟩ := bindS e
    obtain ⟨h6, h7, h8, h9⟩ := inb_some hj
    obtain ⟨b, nn, cp, b', cp', hv, rfl, hlo, hhi, hor⟩ := hp
    cases hv
    rcases hor with hor | ⟨ad, hb', rfl, hcap⟩
    · omega
    · cases hb'
      have hr := run_IAs hc ho hd hz hu (ipt hi) h6 h7
      rw [h8, add_add _ rfl, ← Nat.add_mul, add_zero _ rfl] at hr
      exact POk.one (v := .pt id (p ++ [lo + j])) ⟨h, _, h1, off_el h2 hsz (by omega), rfl⟩ rfl (by simp) hr e
  · cases e

/-- The address of an element; the index may be a byte. -/
def pIA {β : Type} (c : Cfg) (il : IEnv) (tb : Tbl) (k : IV → Option β) (t : Nat) (x i : Operand) : Option β :=
  match iopd c il i with
  | some (.o (.u8 q)) => match c.D t, iopd c il x with
    | some (.array m e), some v => match reAr v, c.Z e with
      | some ⟨m', t', xs⟩, some s => match Nat.beq m m', Nat.beq s t'.size with
        | true, true => (vix xs (q.toNat : Int)).bind fun x => k (.re t' x)
        | _, _ => none
      | _, _ => none
    | _, _ => none
  | some (.o (.i iv)) => match iopd c il x with
    | some (.ps id n) => match c.D t, inb n iv with
      | some (.slice e), some j => match c.Z e with
        | some s => match Nat.beq s 1 with
          | true => k (.pt id [j])
          | false => none
        | none => none
      | _, _ => none
    | _ => pIA0 c il tb k t x i
  | _ => none

theorem ones_off : ∀ {n j : Nat}, j < n → (ones n).off [j] = some j
  | n + 1, 0, _ => rfl
  | n + 1, j + 1, h => by
    have := ones_off (n := n) (j := j) (by omega)
    simp only [ones, Sz.off, this, Option.map_some, Sz.size]
    congr 1
    omega

theorem run_IAa8 (hc : COk P c) {t e s m : Nat} {x i : Operand} {ad : Addr} {q : UInt8} (ho : o.op = .indexAddr t x i) (hd : c.D t = some (.array m e)) (hz : c.Z e = some s) (hx : a.eval x = .pointer (some ad)) (hi : a.eval i = vU8 q) (h1 : (q.toNat : Int) < m) (w : World) :
    (execOp a.eval o).run P w = .ok (.value (.pointer (some (ad.add (q.toNat * s))))) w := by
  simp only [execOp, ho, hx, hi]
  have h0 : (0 : Int) ≤ (q.toNat : Int) := by omega
  simp [Instr.indexAt, asIntOf, vU8, run_underlying (hc.tok.desc _ _ hd), Instr.sureAddr, hc.tok.size _ _ hz, h0, h1]
  omega

theorem pIA_ok {β : Type} {k : IV → Option β} {r : β} (hc : COk P c) (hF : Fr n a l) (hE : ER O ρ il l) (hG : GO c O) (hM : Gm O ρ tb w0) {t : Nat} {x i : Operand} (ho : o.op = .indexAddr t x i) (e : pIA c il tb k t x i = some r) : POk P a o O ρ k r := by
  unfold pIA at e
  split at e <;> first | (cases e; done) | skip
  · rename_i q hi
    split at e <;> first | (cases e; done) | skip
    rename_i m e' v hd hx
    split at e <;> first | (cases e; done) | skip
    rename_i m' t' xs s hre hz
    split at e <;> first | (cases e; done) | skip
    rename_i hm hs
    have hm := Nat.eq_of_beq_eq_true hm
    have hs := Nat.eq_of_beq_eq_true hs
    subst hm hs
    rw [reAr_ok hre] at hx
    obtain ⟨y, hy, e⟩ := bindS e
    obtain ⟨h6, h7, h8, h9⟩ := vix_some hy
    obtain ⟨u, hu, ⟨b, off, cs, h1, h2, h3⟩, _⟩ := iopd_1 hE hG hx rfl (by simp) hF
    cases h1
    have hr := run_IAa8 hc ho hd hz hu (opd_val hF (iopd_o hE hG hi).1) h9
    rw [add_zero _ rfl] at hr
    rw [Int.toNat_natCast] at h7
    exact POk.one (v := .re t' y) ⟨b, _, _, rfl, LR.get (fun _ _ => TR.length) h2 (by rw [Vector.getElem?_toList]; exact h7), h3.part _ _⟩ rfl (by simp) hr e
  · rename_i iv hi
    split at e
    · rename_i id n hx
      split at e <;> first | (cases e; done) | skip
      rename_i e' j hd hj
      split at e <;> first | (cases e; done) | skip
      rename_i s hz
      split at e <;> first | (cases e; done) | skip
      rename_i hs
      have hs := Nat.eq_of_beq_eq_true hs
      subst hs
      obtain ⟨h6, h7, h8, h9⟩ := inb_some hj
      obtain ⟨u, hu, ⟨h, h1, h2, h3⟩, _⟩ := iopd_1 hE hG hx rfl (by simp) hF
      cases h3
      have hr := run_IAs hc ho hd hz hu (opd_val hF (iopd_o hE hG hi).1) h6 h7
      rw [add_zero _ rfl, h8, Nat.mul_one, Nat.zero_add] at hr
      exact POk.one (v := .pt id [j]) ⟨h, j, h1, by rw [h2]; exact ones_off h9, rfl⟩ rfl (by simp) hr e
    · exact pIA0_ok hc hF hE hG hM ho e

/- elements of strings and array values -/
def Ty.agg : Ty → Bool
  | .un => true
  | .pr _ _ => true
  | .ar _ _ => true
  | _ => false

theorem ofP_agg : ∀ {t : Ty} {x : t.den}, (ofP t x).agg = t.agg := by intro t x; cases t <;> rfl

def pIx {β : Type} (c : Cfg) (il : IEnv) (k : IV → Option β) (t : Nat) (x i : Operand) : Option β :=
  match c.D t, iopd c il x, iopd c il i with
  | some .string, some (.o (.s s)), some (.o (.i iv)) => (ix s iv).bind fun y => k (.o (.u8 y))
  | some (.array m e), some (.ar m' t' xs), some (.o (.i iv)) => match c.Z e, c.D e with
    | some s, some d => match Nat.beq m m', Nat.beq s t'.size, aggD d, t'.agg with
      | true, true, true, true => (vix xs iv).bind fun y => k (ofP t' y)
      | true, true, false, false => (vix xs iv).bind fun y => k (ofP t' y)
      | _, _, _, _ => none
    | _, _ => none
  | _, _, _ => none

theorem pIx_ok {β : Type} {k : IV → Option β} {r : β} (hc : COk P c) (hF : Fr n a l) (hE : ER O ρ il l) (hG : GO c O) {t : Nat} {x i : Operand} (ho : o.op = .index t x i) (e : pIx c il k t x i = some r) : POk P a o O ρ k r := by
  unfold pIx at e
  split at e
  · rename_i s iv hd hx hi
    obtain ⟨y, hy, e⟩ := bindS e
    exact POk.sc (x := .u8 y) rfl (r_indexS hc.tok hF ho (iopd_o hE hG hx).1 (iopd_o hE hG hi).1 hd hy) e
  · rename_i m e' m' t' xs iv hd hx hi
    split at e <;> first | (cases e; done) | skip
    rename_i s d hz hde
    obtain ⟨cs, h1, h2⟩ := iopd_agg hE hG hx rfl
    have hi' := (iopd_o hE hG hi).1
    split at e <;> first | (cases e; done) | skip
    · rename_i hm hs hag hta
      have hm := Nat.eq_of_beq_eq_true hm
      have hs := Nat.eq_of_beq_eq_true hs
      subst hm hs
      obtain ⟨y, hy, e⟩ := bindS e
      obtain ⟨h6, h7, h8, h9⟩ := vix_some hy
      have hg := LR.get (fun _ _ => TR.length) h2 (j := iv.toNat) (by rw [Vector.getElem?_toList]; exact h7)
      exact POk.agg (ofP_R hg) (by rw [ofP_agg]; exact hta) (r_indexA hc.tok hF ho h1 hi' hd hz hde hag h6 h9 rfl) e
    · rename_i hm hs hag hta
      have hm := Nat.eq_of_beq_eq_true hm
      have hs := Nat.eq_of_beq_eq_true hs
      subst hm hs
      obtain ⟨y, hy, e⟩ := bindS e
      obtain ⟨h6, h7, h8, h9⟩ := vix_some hy
      have hg := LR.get (fun _ _ => TR.length) h2 (j := iv.toNat) (by rw [Vector.getElem?_toList]; exact h7)
      have h1s : t'.size = 1 := by cases t' <;> first | rfl | (simp [Ty.agg] at hta)
      have hl := LR.length (fun _ _ => TR.length (t := t')) h2
      rw [h1s] at hg hz hl
      simp only [Vector.length_toList, Nat.mul_one] at hl hg
      have hlt : iv.toNat < cs.length := by omega
      have e1 : (cs.drop iv.toNat).take 1 = [cs[iv.toNat]] := by rw [List.drop_eq_getElem_cons hlt]; rfl
      rw [e1] at hg
      refine POk.any (ofP_R hg) ?_ e
      rw [ofP_agg, hta]
      exact r_index hc.tok hF ho h1 hi' hd hz hde hag h6 h9 (by simp [hlt])
  · cases e

/- slicing -/
def bndI (c : Cfg) (il : IEnv) : Option Operand → Int → Option Int
  | none, dflt => some dflt
  | some x, _ => match iopd c il x with
    | some (.o (.i m)) => some m
    | _ => none

theorem bndI_ok (hE : ER O ρ il l) (hG : GO c O) {x : Option Operand} {d m : Int} (h : bndI c il x d = some m) : bnd l x d = some m := by
  cases x with
  | none => exact h
  | some x =>
    simp only [bndI] at h
    split at h
    · rename_i q hx
      simp only [Option.some.injEq] at h; subst h
      simp only [bnd, (iopd_o hE hG hx).1]
    · cases h

def pSl {β : Type} (c : Cfg) (il : IEnv) (tb : Tbl) (k : IV → Option β) (t : Nat) (x : Operand) (lo hi : Option Operand) : Option β :=
  match c.D t, iopd c il x with
  | some .string, some (.o (.s s)) => match bndI c il lo 0, bndI c il hi s.length with
    | some i, some j => (gsl s i j).bind fun y => k (.o (.s y))
    | _, _ => none
  | some (.slice e), some (.ro t' xs) => match c.Z e, bndI c il lo 0, bndI c il hi xs.length with
    | some s, some i, some j => match Nat.beq s t'.size with
      | true => (gsl xs i j).bind fun y => k (.ro t' y)
      | false => none
    | _, _, _ => none
  | some (.slice e), some (.rw id) => match nth tb id, c.Z e with
    | some (.row _ t' xs), some s => match bndI c il lo 0, bndI c il hi xs.length, Nat.beq s t'.size with
      | some i, some j, true => (gslb xs.length i j).bind fun y => k (.rp id y.1 y.2)
      | _, _, _ => none
    | some (.fz t' xs), some s => match bndI c il lo 0, bndI c il hi xs.length, Nat.beq s t'.size with
      | some i, some j, true => (gsl xs i j).bind fun y => k (.ro t' y)
      | _, _, _ => none
    | _, _ => none
  | some (.slice e), some (.rp id l0 h0) => match nth tb id, c.Z e with
    | some (.row _ t' xs), some s => match bndI c il lo 0, bndI c il hi ((h0 - l0 : Nat) : Int), Nat.beq s t'.size with
      | some i, some j, true => (gslb (h0 - l0) i j).bind fun y => k (.rp id (l0 + y.1) (l0 + y.2))
      | _, _, _ => none
    | _, _ => none
  | some (.slice e), some (.ap id p l0 h0) => match nth tb id, c.Z e with
    | some (.blk _ v), some s => match v.sz.subz p with
      | some (.ar m' z) => match bndI c il lo 0, bndI c il hi ((h0 - l0 : Nat) : Int), Nat.beq s z.size with
        | some i, some j, true => (gslb (h0 - l0) i j).bind fun y => k (.ap id p (l0 + y.1) (l0 + y.2))
        | _, _, _ => none
      | _ => none
    | _, _ => none
  | some (.array m e), some (.pt id p) => match c.Z e with
    | some s => match bndI c il lo 0, bndI c il hi m, arAt tb id p m s with
      | some i, some j, true => (gslb m i j).bind fun y => k (.ap id p y.1 y.2)
      | _, _, _ => none
    | none => none
  | _, _ => none

theorem run_slice (hc : COk P c) (hF : Fr n a l) {t e s m cp : Nat} {x : Operand} {lo hi : Option Operand} {b : Option Addr} {i j : Int} (ho : o.op = .slice t x lo hi none) (hd : c.D t = some (.slice e)) (hz : c.Z e = some s) (hx : a.eval x = .slice b m cp) (hcp : m ≤ cp)
    (hlo : bnd l lo 0 = some i) (hhi : bnd l hi m = some j) (h0 : 0 ≤ i) (h1 : i ≤ j) (h2 : j ≤ m) (w : World) : (execOp a.eval o).run P w = .ok (.value (sl s (.slice b m cp) i.toNat j.toNat)) w := by
  simp only [execOp, ho, hx]
  have hb := run_bounds (P := P) (isS := true) (cap := cp) hF hlo hhi h0 h1 h2 hcp w
  have : (Instr.slice t (.slice b m cp) (lo.map a.eval) (hi.map a.eval) none).run P w = .ok (sl s (.slice b m cp) i.toNat j.toNat) w := by
    unfold Instr.slice
    simp only [Sem.run_bind, run_underlying (hc.tok.desc _ _ hd), Result.andThen_ok, hb, hc.tok.size _ _ hz]
    rfl
  simp [Instr.sliceAt, run_underlying (hc.tok.desc _ _ hd), this]

theorem Part.of_sl {s : Nat} {b : Option Addr} {m cp i j : Nat} (hb : b = none → m = 0) (hcp : m ≤ cp) (h1 : i ≤ j) (h2 : j ≤ m) : Part s (.slice b m cp) i j (sl s (.slice b m cp) i j) := by
  refine ⟨b, m, cp, _, _, rfl, rfl, h1, h2, ?_⟩
  by_cases hij : j = i
  · exact .inl hij
  · refine .inr ?_
    cases b with
    | none => have := hb rfl; omega
    | some ad => exact ⟨ad, rfl, by rw [if_neg (by omega)]; rfl, by omega⟩

theorem Part.sub {s : Nat} {v : Value} {lo hi i j : Nat} {b' : Option Addr} {m' c' : Nat} (hsp : spot0 v) (h : Part s v lo hi (.slice b' m' c')) (h1 : i ≤ j) (h2 : j ≤ hi - lo) : Part s v (lo + i) (lo + j) (sl s (.slice b' m' c') i j) := by
  obtain ⟨b, n, c, b2, c2, rfl, h4, h5, h6, h7⟩ := h
  cases h4
  refine ⟨b, n, c, (if c' = i then b' else b'.map (·.add (i * s))), c' - i, rfl, ?_, by omega, by omega, ?_⟩
  · simp only [sl]; congr 1; omega
  · by_cases hij : j = i
    · exact .inl (by omega)
    · rcases h7 with h7 | ⟨ad, rfl, rfl, h8⟩
      · omega
      · refine .inr ⟨ad, rfl, ?_, by omega⟩
        rw [if_neg (by omega)]
        simp only [Option.map_some, add_add _ (hsp _ _ _ rfl), ← Nat.add_mul]

theorem slAt_cap {nn : Nat} {es : List Value} {b : Option Addr} {m cp : Nat} (h : SlAt O nn es (.slice b m cp)) : m = nn ∧ m ≤ cp := by
  rcases h with ⟨h1, b', c', h2⟩ | ⟨b', off, cap, h2, h3, _⟩ <;> cases h2
  · exact ⟨h1.symm, by omega⟩
  · exact ⟨rfl, h3⟩

theorem slAt_shape {nn : Nat} {es : List Value} {v : Value} (h : SlAt O nn es v) : ∃ b cp, v = .slice b nn cp := by
  rcases h with ⟨rfl, b, cp, rfl⟩ | ⟨b, off, cp, rfl, _⟩ <;> exact ⟨_, _, rfl⟩

theorem pSl_ok {β : Type} {k : IV → Option β} {r : β} (hc : COk P c) (hF : Fr n a l) (hE : ER O ρ il l) (hG : GO c O) (hM : Gm O ρ tb w0) {t : Nat} {x : Operand} {lo hi : Option Operand} (ho : o.op = .slice t x lo hi none) (e : pSl c il tb k t x lo hi = some r) : POk P a o O ρ k r := by
  have ro_sl : ∀ {e' s : Nat} {t' : Ty} {xs : List t'.den} {i j : Int} {u : Value}, c.D t = some (.slice e') → c.Z e' = some s → Nat.beq s t'.size = true → a.eval x = u → TR O (.sl t') xs [u] → bndI c il lo 0 = some i → bndI c il hi xs.length = some j →
      ((gsl xs i j).bind fun y => k (.ro t' y)) = some r → POk P a o O ρ k r := by
    intro e' s t' xs i j u hd hz hs hu hT hlo hhi e
    have hs := Nat.eq_of_beq_eq_true hs
    subst hs
    obtain ⟨y, hy, e⟩ := bindS e
    obtain ⟨h0, h1, h2, rfl⟩ := gsl_some hy
    obtain ⟨u', es, hcs, hL, hS⟩ := hT
    cases hcs
    obtain ⟨b, cp, rfl⟩ := slAt_shape hS
    have hr := run_slice hc hF ho hd hz hu (slAt_cap hS).2 (bndI_ok hE hG hlo) (bndI_ok hE hG hhi) h0 h1 h2
    have hp := TR.slice (lo := i.toNat) (hi := j.toNat) (show TR O (.sl t') xs [.slice b xs.length cp] from ⟨_, es, rfl, hL, hS⟩) (by omega) (by omega)
    exact POk.one (v := .ro t' _) hp rfl (by simp) hr e
  unfold pSl at e
  split at e
  · rename_i s hd hx
    split at e <;> first | (cases e; done) | skip
    rename_i i j hlo hhi
    obtain ⟨y, hy, e⟩ := bindS e
    obtain ⟨h0, h1, h2, rfl⟩ := gsl_some hy
    exact POk.sc (x := .s _) rfl (r_sliceS hc.tok hF ho (iopd_o hE hG hx).1 hd (bndI_ok hE hG hlo) (bndI_ok hE hG hhi) h0 h1 h2) e
  · rename_i e' t' xs hd hx
    split at e <;> first | (cases e; done) | skip
    rename_i s i j hz hlo hhi
    split at e <;> first | (cases e; done) | skip
    rename_i hs
    obtain ⟨u, hu, h, _⟩ := iopd_1 hE hG hx rfl (by simp) hF
    exact ro_sl hd hz hs hu h hlo hhi e
  · rename_i e' id hd hx
    obtain ⟨u, hu, ⟨h, h1, h2, _⟩, _⟩ := iopd_1 hE hG hx rfl (by simp) hF
    cases h2
    split at e <;> first | (cases e; done) | skip
    · rename_i E t' xs s hb hz
      split at e <;> first | (cases e; done) | skip
      rename_i i j hlo hhi hs
      have hs := Nat.eq_of_beq_eq_true hs
      subst hs
      rw [nth_eq] at hb
      obtain ⟨h', es, h4, h5, _, _, hrow⟩ := hM.th _ _ hb
      rw [h1] at h4; cases h4
      obtain ⟨y, hy, e⟩ := bindS e
      obtain ⟨h6, h7, h8, rfl⟩ := gslb_some hy
      obtain ⟨b, cp, hv, hn, hcp⟩ := hrow.rd.shape
      have hcp' : xs.length ≤ cp := by rcases hcp with hcp | hcp <;> omega
      have hr := run_slice hc hF ho hd hz (hu.trans hv) hcp' (bndI_ok hE hG hlo) (bndI_ok hE hG hhi) h6 h7 h8
      refine POk.one (v := .rp id i.toNat j.toNat) ⟨h, _, h1, rfl, ?_⟩ rfl (by simp) hr e
      rw [h5, Ty.sz_size, hv]
      exact Part.of_sl hn hcp' (by omega) (by omega)
    · rename_i t' xs s hb hz
      split at e <;> first | (cases e; done) | skip
      rename_i i j hlo hhi hs
      rw [nth_eq] at hb
      obtain ⟨h', h4, h5, hT⟩ := hM.th _ _ hb
      rw [h1] at h4; cases h4
      exact ro_sl hd hz hs hu hT hlo hhi e
  · rename_i e' id l0 h0 hd hx
    obtain ⟨u, hu, ⟨h, u', h1, h2, hp⟩, _⟩ := iopd_1 hE hG hx rfl (by simp) hF
    cases h2
    split at e <;> first | (cases e; done) | skip
    rename_i E t' xs s hb hz
    split at e <;> first | (cases e; done) | skip
    rename_i i j hlo hhi hs
    have hs := Nat.eq_of_beq_eq_true hs
    subst hs
    rw [nth_eq] at hb
    obtain ⟨h', es, h4, h5, _, _, hrow⟩ := hM.th _ _ hb
    rw [h1] at h4; cases h4
    obtain ⟨y, hy, e⟩ := bindS e
    obtain ⟨h6, h7, h8, rfl⟩ := gslb_some hy
    have hp' := hp
    obtain ⟨b, nn, cp, b', cp', hv, rfl, hle, hhi', hor⟩ := hp'
    have hcp' : h0 - l0 ≤ cp' := by rcases hor with hor | ⟨_, _, _, hor⟩ <;> omega
    have hr := run_slice hc hF ho hd hz hu hcp' (bndI_ok hE hG hlo) (bndI_ok hE hG hhi) h6 h7 h8
    rw [h5, Ty.sz_size] at hp
    refine POk.one (v := .rp id (l0 + i.toNat) (l0 + j.toNat)) ⟨h, _, h1, rfl, ?_⟩ rfl (by simp) hr e
    rw [h5, Ty.sz_size]
    exact hp.sub hrow.spot (by omega) (by omega)
  · rename_i e' id p l0 h0 hd hx
    obtain ⟨u, hu, ⟨h, off, m, z, h1, h2, h3, u', hcs, hp⟩, _⟩ := iopd_1 hE hG hx rfl (by simp) hF
    cases hcs
    split at e <;> first | (cases e; done) | skip
    rename_i ty v s hb hz
    split at e <;> first | (cases e; done) | skip
    rename_i m' z' hsz
    split at e <;> first | (cases e; done) | skip
    rename_i i j hlo hhi hs
    have hs := Nat.eq_of_beq_eq_true hs
    subst hs
    rw [nth_eq] at hb
    obtain ⟨h', cs, h4, _, h5, _⟩ := hM.th _ _ hb
    rw [h1] at h4; cases h4
    rw [← h5] at hsz
    have hsub := subz_sub h2 hsz
    rw [h3] at hsub
    cases hsub
    obtain ⟨y, hy, e⟩ := bindS e
    obtain ⟨h6, h7, h8, rfl⟩ := gslb_some hy
    have hp' := hp
    obtain ⟨b, nn, cp, b', cp', hv, rfl, hle, hhi', hor⟩ := hp'
    have hcp' : h0 - l0 ≤ cp' := by rcases hor with hor | ⟨_, _, _, hor⟩ <;> omega
    have hr := run_slice hc hF ho hd hz hu hcp' (bndI_ok hE hG hlo) (bndI_ok hE hG hhi) h6 h7 h8
    exact POk.one (v := .ap id p (l0 + i.toNat) (l0 + j.toNat)) ⟨h, off, m, z, h1, h2, h3, _, rfl, hp.sub (fun _ _ _ e => by cases e; rfl) (by omega) (by omega)⟩ rfl (by simp) hr e
  · rename_i m e' id p hd hx
    split at e <;> first | (cases e; done) | skip
    rename_i s hz
    split at e <;> first | (cases e; done) | skip
    rename_i i j hlo hhi hat
    unfold arAt at hat
    split at hat <;> first | (cases hat; done) | skip
    rename_i ty v hb
    split at hat <;> first | (cases hat; done) | skip
    rename_i m' z hsz
    simp only [Bool.and_eq_true] at hat
    have hm := Nat.eq_of_beq_eq_true hat.1
    have hs := Nat.eq_of_beq_eq_true hat.2
    subst hm hs
    obtain ⟨u, hu, ⟨h, off, h1, h2, h3⟩, y0, hy0, hyv⟩ := iopd_1 hE hG hx rfl (by simp) hF
    cases h3
    rw [nth_eq] at hb
    obtain ⟨h', cs, h4, _, h5, _⟩ := hM.th _ _ hb
    rw [h1] at h4; cases h4
    rw [← h5] at hsz
    obtain ⟨y, hy, e⟩ := bindS e
    obtain ⟨h6, h7, h8, rfl⟩ := gslb_some hy
    have hy0' : y0 = .v (vP h.b off) := by cases y0 <;> simp_all [S0.val]
    subst hy0'
    have hr := r_sliceArr hc.tok hF ho hy0 hd hz (bndI_ok hE hG hlo) (bndI_ok hE hG hhi) h6 h7 h8
    exact POk.one (v := .ap id p i.toNat j.toNat) ⟨h, off, m, z, h1, h2, subz_sub h2 hsz, _, rfl, Part.of_sl (fun e => by cases e) (Nat.le_refl _) (by omega) (by omega)⟩ rfl (by simp) hr e
  · cases e
end
end Go.Tw
/- Building, loading, and strings of bytes, on ideal values. No program is in it. -/
namespace Go.Tw
set_option linter.unusedSimpArgs false
set_option linter.unusedVariables false

section
variable {P : Program} {c : Cfg} {n : Nat} {a : Act} {l : Env} {il : IEnv} {O : Own} {ρ : List Hd} {tb : Tbl} {w0 : World} {o : Oper}

/- ## building -/
def iparts (c : Cfg) (il : IEnv) : List (Nat × Operand) → Option (List (Nat × IV))
  | [] => some []
  | (i, x) :: r => match iopd c il x, iparts c il r with
    | some (.tu _), _ => none
    | some v, some vs => some ((i, v) :: vs)
    | _, _ => none

/-- The values of the parts. -/
def PaR (O : Own) (ρ : List Hd) : List (Nat × IV) → List (Nat × Value) → Prop
  | [], ys => ys = []
  | (i, v) :: r, ys => ∃ x rest cs, ys = (i, x) :: rest ∧ x.cells = cs.toArray ∧ R O ρ false v cs ∧ PaR O ρ r rest

theorem iopd_cells (hF : Fr n a l) (hE : ER O ρ il l) (hG : GO c O) {x : Operand} {v : IV} (e : iopd c il x = some v) (ht : ∀ ch, v ≠ .tu ch) : ∃ cs, (a.eval x).cells = cs.toArray ∧ R O ρ false v cs ∧ (v.agg = true → a.eval x = .agg cs.toArray) ∧ (v.agg = false → cs = [a.eval x]) := by
  obtain ⟨sv, h1, h2⟩ := iopd_ok hE hG e
  have hy : ∃ y, sv = .o y ∧ S0R O ρ v y := by
    cases v <;> first | exact h2 | exact absurd rfl (ht _)
  obtain ⟨y, rfl, h3⟩ := hy
  obtain ⟨cs, h4, h5, h6, h7⟩ := h3.cells
  rw [opd_val hF h1]
  exact ⟨cs, h4, h5, h6, h7⟩

theorem iparts_ok (hF : Fr n a l) (hE : ER O ρ il l) (hG : GO c O) : ∀ {ps : List (Nat × Operand)} {vs : List (Nat × IV)}, iparts c il ps = some vs → PaR O ρ vs (ps.map fun (i, x) => (i, a.eval x))
  | [], vs, e => by simp only [iparts, Option.some.injEq] at e; subst e; rfl
  | (i, x) :: ps, vs, e => by
    simp only [iparts] at e
    split at e <;> first | (cases e; done) | skip
    rename_i v vs' hn hx hps
    simp only [Option.some.injEq] at e; subst e
    obtain ⟨cs, h1, h2, _⟩ := iopd_cells hF hE hG hx (fun ch e => hn ch (by rw [e]))
    exact ⟨_, _, cs, rfl, h1, h2, iparts_ok hF hE hG hps⟩

def bldS (c : Cfg) (fs : List Field) : List (Nat × IV) → IV → Option IV
  | [], v => some v
  | (i, u) :: r, v => match fld v i, nth fs i with
    | some (q, old), some f => match Nat.beq q f.offset, old.sz.beq u.sz, c.Z f.type with
      | true, true, some z => match Nat.beq z u.sz.size, setF v i u with
        | true, some v' => bldS c fs r v'
        | _, _ => none
      | _, _, _ => none
    | _, _ => none

theorem fill_put {place : Nat → Option (Nat × Nat)} {i off k : Nat} {v : Value} {us cs : List Value} {rest : List (Nat × Value)} {out : Array Value} (hp : place i = some (off, k)) (hv : v.cells = us.toArray) (hk : us.length = k) (hl : off + us.length ≤ cs.length)
    (h : Instr.fill place (spl cs off us).toArray rest = some out) : Instr.fill place cs.toArray ((i, v) :: rest) = some out := by
  have hfold := fold_put off us 0 cs (by omega)
  unfold Instr.fill
  simp only [hp, hv]
  rw [if_neg (by simp; omega)]
  have e : us.toArray.zipIdx = (us.zipIdx 0).toArray := by simp
  rw [e, List.foldl_toArray' _ _ _ (by simp)]
  rw [hfold]
  exact h

theorem bldS_ok {fs : Array Field} {pl : Array (Nat × Nat)} (hpl : ∀ (i : Nat) (f : Field), fs[i]? = some f → ∃ z, pl[i]? = some (f.offset, z) ∧ c.Z f.type = some z) : ∀ {ps : List (Nat × IV)} {ys : List (Nat × Value)} {v v' : IV} {cs : List Value}, bldS c fs.toList ps v = some v' → PaR O ρ ps ys → R O ρ false v cs →
    ∃ cs', Instr.fill (pl[·]?) cs.toArray ys = some cs'.toArray ∧ R O ρ false v' cs' ∧ v'.sz = v.sz
  | [], ys, v, v', cs, e, h, hR => by
    simp only [bldS, Option.some.injEq] at e; subst e
    simp only [PaR] at h; subst h
    exact ⟨cs, rfl, hR, rfl⟩
  | (i, u) :: ps, ys, v, v', cs, e, h, hR => by
    obtain ⟨x, rest, us, rfl, h1, h2, h3⟩ := h
    simp only [bldS] at e
    split at e <;> first | (cases e; done) | skip
    rename_i q old f hq hf
    split at e <;> first | (cases e; done) | skip
    rename_i z hbq hsz hz
    split at e <;> first | (cases e; done) | skip
    rename_i v1 hbz hset
    have hq' := Nat.eq_of_beq_eq_true hbq
    have hz' := Nat.eq_of_beq_eq_true hbz
    have hsz' := Sz.eq_of_beq hsz
    rw [nth_eq] at hf
    obtain ⟨z', h4, h5⟩ := hpl i f (by simpa using hf)
    rw [hz] at h5; cases h5
    have hul := R.length h2
    obtain ⟨_, h6, _⟩ := fld_R hq hR
    obtain ⟨h7, h8⟩ := setF_R hq hset hsz'.symm hR h2
    obtain ⟨cs', h9, h10, h11⟩ := bldS_ok hpl e h3 h7
    refine ⟨cs', fill_put (off := q) (k := z) (by rw [h4, hq']) h1 (by rw [hul, hz']) (by rw [hul, ← hsz']; exact h6) h9, h10, h11.trans h8⟩

def bldA (m : Nat) (t : Ty) : List (Nat × IV) → Vector t.den m → Option (Vector t.den m)
  | [], xs => some xs
  | (i, u) :: r, xs => match Nat.blt i m, toP t u with
    | true, some x => bldA m t r (xs.setIfInBounds i x)
    | _, _ => none

theorem bldA_ok {m : Nat} {t : Ty} : ∀ {ps : List (Nat × IV)} {ys : List (Nat × Value)} {xs xs' : Vector t.den m} {cs : List Value}, bldA m t ps xs = some xs' → PaR O ρ ps ys → R O ρ false (.ar m t xs) cs →
    ∃ cs', Instr.fill (fun i => some (i * t.size, t.size)) cs.toArray ys = some cs'.toArray ∧ R O ρ false (.ar m t xs') cs'
  | [], ys, xs, xs', cs, e, h, hR => by
    simp only [bldA, Option.some.injEq] at e; subst e
    simp only [PaR] at h; subst h
    exact ⟨cs, rfl, hR⟩
  | (i, u) :: ps, ys, xs, xs', cs, e, h, hR => by
    obtain ⟨x, rest, us, rfl, h1, h2, h3⟩ := h
    simp only [bldA] at e
    split at e <;> first | (cases e; done) | skip
    rename_i y hlt hy
    have hlt : i < m := by simpa [Nat.blt_eq] using hlt
    have hT := toP_R hy h2
    have hul := TR.length hT
    have hl := LR.length (fun _ _ => TR.length (t := t)) hR
    simp only [Vector.length_toList] at hl
    have hjn : i * t.size + t.size ≤ m * t.size := by
      have := Nat.mul_le_mul_right t.size (show i + 1 ≤ m by omega)
      rw [Nat.add_mul] at this; omega
    have hset := LR.set (fun _ _ => TR.length) hR (j := i) (by simpa using hlt) hT
    have hR' : R O ρ false (.ar m t (xs.setIfInBounds i y)) (spl cs (i * t.size) us) := by
      show LR _ _ _
      rw [Vector.toList_setIfInBounds]
      simp only [spl, hul]; exact hset
    obtain ⟨cs', h9, h10⟩ := bldA_ok e h3 hR'
    exact ⟨cs', fill_put (off := i * t.size) (k := t.size) rfl h1 hul (by omega) h9, h10⟩

def pBld {β : Type} (c : Cfg) (il : IEnv) (k : IV → Option β) (t : Nat) (ps : List (Nat × Operand)) : Option β :=
  match c.D t, c.I t, iparts c il ps with
  | some (.struct fs), some z, some vs => match bldS c fs.toList vs z with
    | some v => match v.agg with
      | true => k v
      | false => none
    | none => none
  | some (.array _ e), some (.ar m t' xs), some vs => match c.Z e with
    | some s => match Nat.beq s t'.size, bldA m t' vs xs with
      | true, some ys => k (.ar m t' ys)
      | _, _ => none
    | none => none
  | _, _, _ => none

theorem pBld_ok {β : Type} {k : IV → Option β} {r : β} (hc : COk P c) (hF : Fr n a l) (hE : ER O ρ il l) (hG : GO c O) {t : Nat} {ps : Array (Nat × Operand)} (ho : o.op = .build t ps) (e : pBld c il k t ps.toList = some r) : POk P a o O ρ k r := by
  unfold pBld at e
  split at e <;> first | (cases e; done) | skip
  · rename_i fs z vs hd hI hps
    split at e <;> first | (cases e; done) | skip
    rename_i v hv
    split at e <;> first | (cases e; done) | skip
    rename_i hag
    obtain ⟨zv, zc, h1, h2, h3⟩ := hc.zero _ _ hI
    obtain ⟨pl, h4, h5⟩ := hc.places _ _ hd
    obtain ⟨cs', h6, h7, _⟩ := bldS_ok h5 hv (iparts_ok hF hE hG hps) (h3 O ρ)
    refine POk.agg h7 hag (fun w => ?_) e
    simp only [execOp, ho]
    have : (Instr.build t (ps.map fun (i, x) => (i, a.eval x))).run P w = .ok (.agg cs'.toArray) w := by
      unfold Instr.build
      simp only [Sem.run_bind, h1 w, Result.andThen_ok, run_underlying (hc.tok.desc _ _ hd), h2]
      simp only [Sem.run_bind, h4 w, Result.andThen_ok, Array.toList_map]
      rw [h6]; rfl
    simp [this]
  · rename_i m0 el m t' xs vs hd hI hps
    split at e <;> first | (cases e; done) | skip
    rename_i s hz
    split at e <;> first | (cases e; done) | skip
    rename_i ys hs hys
    have hs := Nat.eq_of_beq_eq_true hs
    subst hs
    obtain ⟨zv, zc, h1, h2, h3⟩ := hc.zero _ _ hI
    obtain ⟨cs', h6, h7⟩ := bldA_ok hys (iparts_ok hF hE hG hps) (h3 O ρ)
    refine POk.agg h7 rfl (fun w => ?_) e
    simp only [execOp, ho]
    have : (Instr.build t (ps.map fun (i, x) => (i, a.eval x))).run P w = .ok (.agg cs'.toArray) w := by
      unfold Instr.build
      simp only [Sem.run_bind, h1 w, Result.andThen_ok, run_underlying (hc.tok.desc _ _ hd), h2, hc.tok.size _ _ hz, Array.toList_map]
      rw [h6]; rfl
    simp [this]

/- ## all operations that read no memory -/
def pOp {β : Type} (c : Cfg) (il : IEnv) (tb : Tbl) (k : IV → Option β) : Op → Option β
  | .move x => match iopd c il x with
    | some v => k v
    | none => none
  | .assign x => match iopd c il x with
    | some v => k v
    | none => none
  | .pick g x y => match iopd c il g with
    | some (.o (.b g)) => match g with
      | true => match iopd c il x with
        | some v => k v
        | none => none
      | false => match iopd c il y with
        | some v => k v
        | none => none
    | _ => none
  | .binOp op t x y _ => pBin c il k op t x y
  | .unOp op _ x => pUn c il k op x
  | .convert src dst x => pConv c il k src dst x
  | .extract x i => pExt c il k x i
  | .call cl => match cl.callee with
    | .builtin b => pCall c il tb k b cl.args.toList cl.argTypes.toList
    | _ => none
  | .fieldAddr t x i => pFA c il tb k t x i
  | .field t x i => pFld c il k t x i
  | .indexAddr t x i => pIA c il tb k t x i
  | .index t x i => pIx c il k t x i
  | .slice t x lo hi none => pSl c il tb k t x lo hi
  | .makeFunc fn first captured => pMF c il k fn first.toList captured.toList
  | .nilCheck x => pNC c il k x
  | .build t ps => pBld c il k t ps.toList
  | _ => none

theorem pOp_ok {β : Type} {k : IV → Option β} {r : β} (hc : COk P c) (hF : Fr n a l) (hE : ER O ρ il l) (hG : GO c O) (hM : Gm O ρ tb w0) (e : pOp c il tb k o.op = some r) : POk P a o O ρ k r := by
  have mv : ∀ {x : Operand}, (∀ w, (execOp a.eval o).run P w = .ok (.value (a.eval x)) w) → (match iopd c il x with | some v => k v | none => none) = some r → POk P a o O ρ k r := by
    intro x hr e
    split at e
    · rename_i v hx
      obtain ⟨sv, h1, h2⟩ := iopd_ok hE hG hx
      exact ⟨v, sv, h2, by rw [← opd_val hF h1]; exact hr, e⟩
    · cases e
  cases ho : o.op <;> rw [ho] at e <;> simp only [pOp] at e <;> first | (cases e; done) | skip
  case move x => exact mv (fun w => by simp [execOp, ho]) e
  case assign x => exact mv (fun w => by simp [execOp, ho]) e
  case pick g x y =>
    split at e <;> first | (cases e; done) | skip
    rename_i g' hg
    have h1 := opd_val hF (iopd_o hE hG hg).1
    cases g' with
    | true => exact mv (x := x) (fun w => by simp [execOp, ho, h1, asBool]) e
    | false => exact mv (x := y) (fun w => by simp [execOp, ho, h1, asBool]) e
  case binOp => exact pBin_ok hc hF hE hG ho e
  case unOp => exact pUn_ok hc hF hE hG ho e
  case convert => exact pConv_ok hc hF hE hG ho e
  case extract => exact pExt_ok hc hF hE hG ho e
  case call cl =>
    obtain ⟨callee, args, ts⟩ := cl
    simp only at e
    split at e <;> first | (cases e; done) | skip
    exact pCall_ok hc hF hE hG hM ho e
  case fieldAddr => exact pFA_ok hc hF hE hG hM ho e
  case field => exact pFld_ok hc hF hE hG ho e
  case indexAddr => exact pIA_ok hc hF hE hG hM ho e
  case index => exact pIx_ok hc hF hE hG ho e
  case slice t x lo hi mx =>
    cases mx with
    | none => exact pSl_ok hc hF hE hG hM ho e
    | some y => cases e
  case makeFunc => exact pMF_ok hF hE hG ho e
  case nilCheck => exact pNC_ok hF hE hG ho e
  case build => exact pBld_ok hc hF hE hG ho e

/- ## reading -/
/-- Another world in which what these things hold, and what nobody changes, is as in this one. -/
def Sm (ids : List Nat) (O : Own) (w w' : World) : Prop := ∀ b, ((∃ id, id ∈ ids ∧ O b = .th id) ∨ ∃ all, O b = .im all) → w'.heap[b]? = w.heap[b]?

theorem Sm.refl (ids : List Nat) (O : Own) (w : World) : Sm ids O w w := fun _ _ => rfl

/-- A value is yielded in all worlds like this one, and what follows comes to r. -/
def ROk {β : Type} (P : Program) (a : Act) (o : Oper) (O : Own) (ρ : List Hd) (ids : List Nat) (w : World) (k : IV → Option β) (r : β) : Prop :=
  ∃ v x, SR O ρ v x ∧ (∀ w', Sm ids O w w' → (execOp a.eval o).run P w' = .ok (.value x.val) w') ∧ k v = some r

theorem ROk.any {β : Type} {k : IV → Option β} {r : β} {v : IV} {cs : List Value} {ids : List Nat} (h : R O ρ false v cs) (hr : ∀ w', Sm ids O w0 w' → (execOp a.eval o).run P w' = .ok (.value (bif v.agg then .agg cs.toArray else cs.headD (.bool false))) w') (hk : k v = some r) : ROk P a o O ρ ids w0 k r := by
  cases hv : v.agg with
  | true => rw [hv] at hr; exact ⟨v, .o (.v (.agg cs.toArray)), .of_S0 (S0R.of_agg hv h), hr, hk⟩
  | false =>
    rw [hv] at hr
    have hl := R.length h
    have hz : v.sz.size = 1 := by cases v <;> simp [IV.agg] at hv <;> rfl
    rw [hz] at hl
    obtain ⟨u, rfl⟩ := List.length_eq_one_iff.1 hl
    by_cases ho : ∃ x, v = .o x
    · obtain ⟨x, rfl⟩ := ho
      obtain ⟨h1, h2⟩ := h
      cases h1
      exact ⟨.o x, .o x, ⟨x, rfl, rfl, h2⟩, hr, hk⟩
    · refine ⟨v, .o (.v u), .of_S0 ?_, hr, hk⟩
      cases v <;> simp [IV.agg] at hv
      case o x => exact absurd ⟨x, rfl⟩ ho
      all_goals exact ⟨u, rfl, h⟩

/-- The value fits the type that is loaded or stored. -/
def fits (c : Cfg) (t : Nat) (u : IV) : Bool :=
  match c.D t with
  | some d => match aggD d, u.agg with
    | true, true => match c.Z t with
      | some z => Nat.beq z u.sz.size
      | none => false
    | false, false => true
    | _, _ => false
  | none => false

theorem run_load (hc : COk P c) {t : Nat} {x : Operand} {ad : Addr} {u : IV} {us : List Value} {w : World} (ho : o.op = .load t x) (hx : a.eval x = .pointer (some ad)) (hf : fits c t u = true) (hR : R O ρ false u us) (hcell : ∀ j y, us[j]? = some y → w.cell? (ad.add j) = some y) :
    (execOp a.eval o).run P w = .ok (.value (bif u.agg then .agg us.toArray else us.headD (.bool false))) w := by
  unfold fits at hf
  split at hf <;> first | (cases hf; done) | skip
  rename_i d hd
  have hl := R.length hR
  simp only [execOp, ho, hx]
  split at hf <;> first | (cases hf; done) | skip
  · rename_i hg hu
    split at hf <;> first | (cases hf; done) | skip
    rename_i z hz
    have hz' := Nat.eq_of_beq_eq_true hf
    have hload : (loadCells ad us.length).run P w = .ok us.toArray w := run_loadCells_list (P := P) w ad us hcell
    rw [hl, ← hz'] at hload
    simp [Instr.loadAt, Instr.sureAddr, loadVar, run_isAgg (hc.tok.desc _ _ hd), hg, hc.tok.size _ _ hz, hload, hu]
  · rename_i hg hu
    have h1 : u.sz.size = 1 := by cases u <;> simp [IV.agg] at hu <;> rfl
    rw [h1] at hl
    obtain ⟨y, rfl⟩ := List.length_eq_one_iff.1 hl
    have := hcell 0 y rfl
    have e0 : ad.add 0 = ad := by unfold Addr.add; simp
    rw [e0] at this
    simp [Instr.loadAt, Instr.sureAddr, loadVar, run_isAgg (hc.tok.desc _ _ hd), hg, this, hu]

def kF {β : Type} (c : Cfg) (t : Nat) (k : IV → Option β) (u : IV) : Option β :=
  match fits c t u with
  | true => k u
  | false => none

def rLd {β : Type} (c : Cfg) (il : IEnv) (tb : Tbl) (k : IV → Option β) (t : Nat) (x : Operand) : Option β :=
  match iopd c il x with
  | some (.pt id p) => match nth tb id with
    | some (.blk _ v) => getP (kF c t k) p v
    | _ => none
  | some (.el id j p) => match nth tb id with
    | some (.row _ t' xs) => (xs[j]?).bind fun y => getP (kF c t k) p (ofP t' y)
    | _ => none
  | some (.re t' y) => kF c t k (ofP t' y)
  | _ => none

/-- The things that are read. -/
def idsV : IV → List Nat
  | .pt id _ => [id]
  | .el id _ _ => [id]
  | .rw id => [id]
  | .rp id _ _ => [id]
  | .ap id _ _ _ => [id]
  | _ => []

theorem kF_ok {β : Type} {t : Nat} {k : IV → Option β} {u : IV} {r : β} (h : kF c t k u = some r) : fits c t u = true ∧ k u = some r := by
  unfold kF at h; split at h
  · exact ⟨by assumption, h⟩
  · cases h

theorem rLd_ok {β : Type} {k : IV → Option β} {r : β} (hc : COk P c) (hF : Fr n a l) (hE : ER O ρ il l) (hG : GO c O) (hM : Gm O ρ tb w0) {t : Nat} {x : Operand} (ho : o.op = .load t x) (e : rLd c il tb k t x = some r) {v : IV} (hv : iopd c il x = some v) : ROk P a o O ρ (idsV v) w0 k r := by
  unfold rLd at e
  split at e <;> first | (cases e; done) | skip
  · rename_i id p hx
    rw [hv] at hx; cases hx
    split at e <;> first | (cases e; done) | skip
    rename_i ty v hb
    rw [nth_eq] at hb
    obtain ⟨h, cs, h1, h2, h3, h4, h5⟩ := hM.th _ _ hb
    obtain ⟨u, hu, ⟨h', off, h6, h7, h8⟩, _⟩ := iopd_1 hE hG hv rfl (by simp) hF
    cases h8
    rw [h1] at h6; cases h6
    rw [h3] at h7
    obtain ⟨u, hk, h9, h10, _⟩ := getP_R e h4 h7
    obtain ⟨hf, hk⟩ := kF_ok hk
    refine ROk.any h9 (fun w' hS => run_load hc ho hu hf h9 (fun j y hj => ?_)) hk
    have hb' := h5.same (hS h.b (.inl ⟨id, by simp [idsV], h2⟩))
    rw [add_zero _ rfl, hb'.cell]
    rw [List.getElem?_take] at hj
    split at hj
    · simpa using hj
    · cases hj
  · rename_i id j p hx
    rw [hv] at hx; cases hx
    split at e <;> first | (cases e; done) | skip
    rename_i E t' xs hb
    rw [nth_eq] at hb
    obtain ⟨h, es, h1, h2, h3, h4, h5⟩ := hM.th _ _ hb
    obtain ⟨y, hy, e⟩ := bindS e
    obtain ⟨u, hu, ⟨h', off, ad, nn, cp, h6, h7, h8, h9, h10⟩, _⟩ := iopd_1 hE hG hv rfl (by simp) hF
    cases h10
    rw [h1] at h6; cases h6
    have hT := LR.get (fun _ _ => TR.length) h4 hy
    obtain ⟨u, hk, h11, h12, _⟩ := getP_R e (ofP_R (ρ := ρ) hT) (by rw [ofP_sz, ← h2]; exact h7)
    obtain ⟨hf, hk⟩ := kF_ok hk
    have hsp := h5.spot _ _ _ h8
    refine ROk.any h11 (fun w' hS => run_load hc ho hu hf h11 (fun q z hq => ?_)) hk
    have hrd : Rd w' t'.size h.v xs.length es := h5.rd.same (fun b _ hb => hS b (.inl ⟨id, by simp [idsV], h3 b hb⟩))
    have hcell := (hrd.cell h8).2
    rw [add_add _ hsp, h2, Ty.sz_size]
    have hq' : es[j * t'.size + off + q]? = some z := by
      rw [List.getElem?_take] at hq
      split at hq
      · rw [List.getElem?_drop, List.getElem?_take] at hq
        split at hq
        · rw [List.getElem?_drop] at hq; rw [Nat.add_assoc]; exact hq
        · cases hq
      · cases hq
    exact hcell _ _ hq'
  · rename_i t' y hx
    rw [hv] at hx; cases hx
    obtain ⟨hf, hk⟩ := kF_ok e
    obtain ⟨u, hu, ⟨b, off, cs, h1, h2, all, h3, h4⟩, _⟩ := iopd_1 hE hG hv rfl (by simp) hF
    cases h1
    refine ROk.any (ofP_R h2) (fun w' hS => run_load hc ho hu hf (ofP_R (ρ := ρ) h2) (fun j z hj => ?_)) hk
    obtain ⟨ty, fz, h5⟩ := hM.im b all h3
    rw [← hS b (.inr ⟨all, h3⟩)] at h5
    rw [add_zero _ rfl]
    simp [World.cell?, h5, h4 j z hj]

/- ### what a slice holds -/
def castR {t t' : Ty} : Option (PLift (t' = t)) → List t'.den → Option (List t.den)
  | some h, xs => some (castL (a := .sl t') (b := .sl t) (congrArg Ty.sl h.down) xs)
  | none, _ => none

theorem castR_ok {t t' : Ty} {q : Option (PLift (t' = t))} {xs : List t'.den} {ys : List t.den} (h : castR q xs = some ys) : ∃ e : t' = t, ys = castL (a := .sl t') (b := .sl t) (congrArg Ty.sl e) xs := by
  cases q with
  | none => cases h
  | some p => simp only [castR, Option.some.injEq] at h; exact ⟨p.down, h.symm⟩

def cont {β : Type} (t : Ty) (tb : Tbl) (v : IV) (k : List t.den → Option β) : Option β :=
  match v with
  | .ro t' xs => match castR (Ty.eq? t' t) xs with
    | some xs => k xs
    | none => none
  | .rw id => match nth tb id with
    | some (.row _ t' xs) => match castR (Ty.eq? t' t) xs with
      | some xs => k xs
      | none => none
    | some (.fz t' xs) => match castR (Ty.eq? t' t) xs with
      | some xs => k xs
      | none => none
    | _ => none
  | .rp id lo hi => match nth tb id with
    | some (.row _ t' xs) => match castR (Ty.eq? t' t) xs with
      | some xs => k ((xs.drop lo).take (hi - lo))
      | none => none
    | _ => none
  | .ap id p lo hi => match nth tb id with
    | some (.blk _ v) => getP (fun u => match u with
      | .ar _ t' xs => match castR (Ty.eq? t' t) xs.toList with
        | some xs => k ((xs.drop lo).take (hi - lo))
        | none => none
      | _ => none) p v
    | _ => none
  | .o (.v (.slice none 0 0)) => k []
  | _ => none

/-- A part of what can be read can be read. -/
theorem Rd.part {w : World} {s : Nat} {v u : Value} {m lo hi : Nat} {cs : List Value} (h : Rd w s v m cs) (hsp : spot0 v) (hp : Part s v lo hi u) : Rd w s u (hi - lo) ((cs.drop (lo * s)).take ((hi - lo) * s)) := by
  obtain ⟨b, n, cp, b', cp', rfl, rfl, h1, h2, h3⟩ := hp
  obtain ⟨hl, h4⟩ := h
  have hm : n = m := by rcases h4 with ⟨rfl, b2, c2, e⟩ | ⟨b2, off, cap, all, ty, fz, e, _⟩ <;> cases e <;> rfl
  subst hm
  have hlen : ((cs.drop (lo * s)).take ((hi - lo) * s)).length = (hi - lo) * s := by
    rw [List.length_take, List.length_drop, hl, ← Nat.sub_mul]
    exact Nat.min_eq_left (Nat.mul_le_mul_right _ (by omega))
  refine ⟨hlen, ?_⟩
  rcases h3 with h3 | ⟨ad, rfl, rfl, h5⟩
  · exact .inl ⟨by omega, _, _, by rw [show hi - lo = 0 from by omega]⟩
  · have hs := hsp _ _ _ rfl
    rw [add_zero _ hs]
    rcases h4 with ⟨h6, b2, c2, e⟩ | ⟨b2, off, cap, all, ty, fz, e, h0, h7, h8⟩
    · exact .inl ⟨by omega, _, _, by rw [show hi - lo = 0 from by omega]⟩
    · cases e
      refine .inr ⟨b2, off + lo * s, cp', all, ty, fz, rfl, h5, h7, fun j c hj => ?_⟩
      rw [List.getElem?_take] at hj
      split at hj
      · rw [List.getElem?_drop] at hj; rw [Nat.add_assoc]; exact h8 _ _ hj
      · cases hj

theorem cont_ok {β : Type} {t : Ty} {v : IV} {k : List t.den → Option β} {r : β} (hM : Gm O ρ tb w0) {u : Value} (e : cont t tb v k = some r) (h : R O ρ false v [u]) : ∃ xs es, k xs = some r ∧ LR (TR O t) xs es ∧ (∀ w', Sm (idsV v) O w0 w' → Rd w' t.size u xs.length es) ∧ ∀ b, xs.length ≠ 0 → blockOf u b → (∃ id, id ∈ idsV v ∧ O b = .th id) ∨ ∃ all, O b = .im all := by
  have imw : ∀ {ids w'}, Sm ids O w0 w' → ∀ b all, O b = .im all → ∃ ty fz, w'.heap[b]? = some (.cells all.toArray ty fz) := fun hS b all hb => by
    obtain ⟨ty, fz, h5⟩ := hM.im b all hb
    exact ⟨ty, fz, by rw [hS b (.inr ⟨all, hb⟩)]; exact h5⟩
  have im : ∀ {ids : List Nat} {t' : Ty} {xs : List t'.den} {ys : List t.den} {u : Value}, castR (Ty.eq? t' t) xs = some ys → k ys = some r → TR O (.sl t') xs [u] → ∃ xs es, k xs = some r ∧ LR (TR O t) xs es ∧ (∀ w', Sm ids O w0 w' → Rd w' t.size u xs.length es) ∧ ∀ b, xs.length ≠ 0 → blockOf u b → (∃ id, id ∈ ids ∧ O b = .th id) ∨ ∃ all, O b = .im all := by
    intro ids t' xs ys u hc hk hT
    obtain ⟨rfl, rfl⟩ := castR_ok hc
    obtain ⟨u', es, hu, hL, hS⟩ := hT
    cases hu
    refine ⟨_, es, hk, hL, fun w' hw => hS.rd (imw hw) (LR.length (fun _ _ => TR.length) hL), fun b hn hb => ?_⟩
    rcases hS with ⟨h0, _⟩ | ⟨b', off, cap, rfl, _, all, h1, _⟩
    · exact absurd h0 hn
    · cases hb; exact .inr ⟨all, h1⟩
  unfold cont at e
  split at e
  · split at e <;> first | (cases e; done) | skip
    rename_i hcast; exact im hcast e h
  · rename_i id
    obtain ⟨h0, h1, h2, _⟩ := h
    cases h2
    split at e <;> first | (cases e; done) | skip
    · rename_i E t' xs hb
      split at e <;> first | (cases e; done) | skip
      rename_i ys hcast
      obtain ⟨rfl, rfl⟩ := castR_ok hcast
      rw [nth_eq] at hb
      obtain ⟨h', es, h4, h5, h6, h7, h8⟩ := hM.th _ _ hb
      rw [h1] at h4; cases h4
      exact ⟨_, es, e, h7, fun w' hS => h8.rd.same (fun b _ hb => hS b (.inl ⟨id, by simp [idsV], h6 b hb⟩)), fun b _ hb => .inl ⟨id, by simp [idsV], h6 b hb⟩⟩
    · rename_i t' xs hb
      split at e <;> first | (cases e; done) | skip
      rename_i ys hcast
      rw [nth_eq] at hb
      obtain ⟨h', h4, h5, h6⟩ := hM.th _ _ hb
      rw [h1] at h4; cases h4
      exact im hcast e h6
  · rename_i id lo hi
    obtain ⟨h0, u', h1, h2, hp⟩ := h
    cases h2
    split at e <;> first | (cases e; done) | skip
    rename_i E t' xs hb
    split at e <;> first | (cases e; done) | skip
    rename_i ys hcast
    obtain ⟨rfl, rfl⟩ := castR_ok hcast
    rw [nth_eq] at hb
    obtain ⟨h', es, h4, h5, h6, h7, h8⟩ := hM.th _ _ hb
    rw [h1] at h4; cases h4
    rw [h5, Ty.sz_size] at hp
    have hlen : ((ys.drop lo).take (hi - lo)).length = hi - lo := by
      obtain ⟨b, n, cp, b', cp', hv, rfl, h9, h10, _⟩ := hp
      have := (h8.rd.shape)
      obtain ⟨b2, c2, e2, _⟩ := this
      rw [hv] at e2; cases e2
      rw [List.length_take, List.length_drop]; omega
    refine ⟨_, _, e, ((h7.split (fun _ _ => TR.length) lo).2.split (fun _ _ => TR.length) (hi - lo)).1, fun w' hS => ?_, fun b hn hb => .inl ⟨id, by simp [idsV], h6 b ?_⟩⟩
    rotate_left
    · have hn' : hi - lo ≠ 0 := by rw [← hlen]; exact hn
      obtain ⟨b0, n0, cp, b', cp', hv, rfl, h9, h10, hor⟩ := hp
      rcases hor with hor | ⟨ad, rfl, rfl, _⟩
      · omega
      · rw [hv]
        have : (ad.add (lo * t'.size)).block = ad.block := by unfold Addr.add; split <;> rfl
        simp only [blockOf, this] at hb; exact hb
    have hrd : Rd w' t'.size h0.v ys.length es := h8.rd.same (fun b _ hb => hS b (.inl ⟨id, by simp [idsV], h6 b hb⟩))
    have := hrd.part h8.spot hp
    rw [hlen]; exact this
  · rename_i id p lo hi
    obtain ⟨h0, off, m, z, h1, h2, h3, u', hcs, hp⟩ := h
    cases hcs
    split at e <;> first | (cases e; done) | skip
    rename_i ty v hb
    rw [nth_eq] at hb
    obtain ⟨h', cs, h4, h5, h6, h7, h8⟩ := hM.th _ _ hb
    rw [h1] at h4; cases h4
    rw [h6] at h2 h3
    obtain ⟨q, hk, h9, h10, h11⟩ := getP_R e h7 h2
    split at hk <;> first | (cases hk; done) | skip
    rename_i m' t' xs
    split at hk <;> first | (cases hk; done) | skip
    rename_i ys hcast
    obtain ⟨rfl, rfl⟩ := castR_ok hcast
    rw [h3] at h11
    cases h11
    rw [Ty.sz_size] at hp
    have hLR : LR (TR O t') xs.toList ((cs.drop off).take (m * t'.size)) := by
      have := h9
      simp only [IV.sz, Sz.size, Ty.sz_size] at this
      exact this
    have hrd : ∀ w', Sm (idsV (.ap id p lo hi)) O w0 w' → Rd w' t'.size (.slice (some ⟨h0.b, off, none⟩) m m) m ((cs.drop off).take (m * t'.size)) := by
      intro w' hS
      have hbk := h8.same (hS h0.b (.inl ⟨id, by simp [idsV], h5⟩))
      obtain ⟨fz, hh, _⟩ := hbk
      refine ⟨by have := LR.length (fun _ _ => TR.length (t := t')) hLR; simpa using this, .inr ⟨h0.b, off, m, _, _, fz, rfl, Nat.le_refl _, hh, fun j c hj => ?_⟩⟩
      rw [List.getElem?_take] at hj
      split at hj
      · rw [List.getElem?_drop] at hj; simpa using hj
      · cases hj
    have hlen : ((xs.toList.drop lo).take (hi - lo)).length = hi - lo := by
      obtain ⟨b, n, cp, b', cp', hv, rfl, h9, h10, _⟩ := hp
      cases hv
      rw [List.length_take, List.length_drop, Vector.length_toList]; omega
    refine ⟨_, _, hk, ((hLR.split (fun _ _ => TR.length) lo).2.split (fun _ _ => TR.length) (hi - lo)).1, fun w' hS => ?_, fun b hn hb => .inl ⟨id, by simp [idsV], ?_⟩⟩
    rotate_left
    · have hn' : hi - lo ≠ 0 := by
        intro h0
        have : ((xs.toList.drop lo).take (hi - lo)).length ≠ 0 := hn
        rw [hlen] at this; exact this h0
      obtain ⟨b0, n0, cp, b', cp', hv, rfl, h9, h10, hor⟩ := hp
      cases hv
      rcases hor with hor | ⟨ad, hb2, rfl, _⟩
      · omega
      · cases hb2
        have : ((⟨h0.b, off, none⟩ : Addr).add (lo * t'.size)).block = h0.b := by unfold Addr.add; split <;> rfl
        simp only [blockOf, this] at hb; subst hb; exact h5
    have := (hrd w' hS).part (fun _ _ _ e => by cases e; rfl) hp
    simp only [castL] at hlen ⊢
    rw [hlen]; exact this
  · obtain ⟨h1, _⟩ := h
    cases h1
    exact ⟨[], [], e, rfl, fun w' _ => ⟨by simp, .inl ⟨rfl, none, 0, rfl⟩⟩, fun b hn _ => absurd rfl hn⟩
  · cases e

theorem LR_u8 : ∀ {xs : List UInt8} {es : List Value}, LR (TR O .u8) xs es → es = xs.map vU8
  | [], es, h => h
  | x :: xs, es, h => by
    obtain ⟨c, d, rfl, h1, h2⟩ := h
    rw [LR_u8 h2, h1]; rfl

def rB2S {β : Type} (c : Cfg) (il : IEnv) (tb : Tbl) (k : IV → Option β) (src dst : Nat) (x : Operand) : Option β :=
  match c.D src, c.D dst, iopd c il x with
  | some (.slice e), some .string, some v => match c.D e, v.agg with
    | some (.int .u8), false => cont .u8 tb v fun xs => k (.o (.s xs))
    | _, _ => none
  | _, _, _ => none

theorem rB2S_ok {β : Type} {k : IV → Option β} {r : β} (hc : COk P c) (hF : Fr n a l) (hE : ER O ρ il l) (hG : GO c O) (hM : Gm O ρ tb w0) {src dst : Nat} {x : Operand} (ho : o.op = .convert src dst x) (e : rB2S c il tb k src dst x = some r) {v : IV} (hv : iopd c il x = some v) : ROk P a o O ρ (idsV v) w0 k r := by
  unfold rB2S at e
  split at e <;> first | (cases e; done) | skip
  rename_i el v' hs hd hx
  rw [hv] at hx; cases hx
  split at e <;> first | (cases e; done) | skip
  rename_i he hag
  have ht : ∀ ch, v ≠ .tu ch := fun ch ee => by subst ee; simp [cont] at e
  obtain ⟨u, hu, hR, y, hy, hyu⟩ := iopd_1 hE hG hv hag ht hF
  obtain ⟨xs, es, hk, hL, hrd, _⟩ := cont_ok hM e hR
  have hes := LR_u8 hL
  subst hes
  refine ⟨.o (.s xs), .o (.s xs), ⟨_, rfl, rfl, rfl⟩, fun w' hS => ?_, hk⟩
  have hr := hrd w' hS
  obtain ⟨b, cp, hsh, _⟩ := hr.shape
  have hy' : y = .v (.slice b xs.length cp) := by cases y <;> simp_all [S0.val]
  rw [hy'] at hy
  rw [hsh] at hr
  exact r_b2s hc.tok hF ho hy hs he hd hr

def rOp {β : Type} (c : Cfg) (il : IEnv) (tb : Tbl) (k : IV → Option β) : Op → Option β
  | .load t x => rLd c il tb k t x
  | .convert src dst x => rB2S c il tb k src dst x
  | _ => none

/-- The things that a reading operation reads. -/
def rIds (c : Cfg) (il : IEnv) : Op → Option (List Nat)
  | .load _ x => match iopd c il x with
    | some v => some (idsV v)
    | none => none
  | .convert _ _ x => match iopd c il x with
    | some v => some (idsV v)
    | none => none
  | _ => none

theorem rOp_ok {β : Type} {k : IV → Option β} {r : β} (hc : COk P c) (hF : Fr n a l) (hE : ER O ρ il l) (hG : GO c O) (hM : Gm O ρ tb w0) (e : rOp c il tb k o.op = some r) {ids : List Nat} (hi : rIds c il o.op = some ids) : ROk P a o O ρ ids w0 k r := by
  cases ho : o.op <;> rw [ho] at e hi <;> simp only [rOp] at e <;> first | (cases e; done) | skip
  case load t x =>
    simp only [rIds] at hi
    split at hi <;> first | (cases hi; done) | skip
    rename_i v hv
    simp only [Option.some.injEq] at hi; subst hi
    exact rLd_ok hc hF hE hG hM ho e hv
  case convert src dst x =>
    simp only [rIds] at hi
    split at hi <;> first | (cases hi; done) | skip
    rename_i v hv
    simp only [Option.some.injEq] at hi; subst hi
    exact rB2S_ok hc hF hE hG hM ho e hv
end
end Go.Tw
/- Operations that change memory, on ideal values. No program is in it. -/
namespace Go.Tw
set_option linter.unusedSimpArgs false
set_option linter.unusedVariables false

section
variable {P : Program} {c : Cfg} {n : Nat} {a : Act} {l : Env} {il : IEnv} {O : Own} {ρ : List Hd} {tb : Tbl} {w : World} {o : Oper}

/-- A step: the things of M may change or go; others stay; new ones come. -/
theorem Gm.step {M : Nat → Prop} {O' : Own} {ρ' : List Hd} {tb' : Tbl} {w' : World} (hM : Gm O ρ tb w) (hk : Kept (fun b => ∃ i, M i ∧ O b = .th i) w w') (hO : ∀ b, b < w.heap.size → (∀ i, M i → O b ≠ .th i) → O' b = O b)
    (hlt : ∀ b, w'.heap.size ≤ b → O' b = .no) (him : ∀ b all, O' b = .im all → O b = .im all ∨ ∃ ty fz, w'.heap[b]? = some (.cells all.toArray ty fz)) (hρ : Pre ρ ρ') (hl : ρ'.length = tb'.length)
    (ht : ∀ j x, tb'[j]? = some x → (tb[j]? = some x ∧ ¬ M j) ∨ Holds O' ρ' w' j x) : Gm O' ρ' tb' w' ∧ Stp M O ρ w O' ρ' w' := by
  have hlow : ∀ b, O b ≠ .no → b < w.heap.size := fun b h => by
    rcases Nat.lt_or_ge b w.heap.size with h' | h'
    · exact h'
    · exact absurd (hM.lt b h') h
  have hle : O.le O' := fun b all e => by
    rw [hO b (hlow b (by rw [e]; simp)) (fun i _ h => by rw [e] at h; cases h)]; exact e
  refine ⟨⟨fun b all e => ?_, hlt, hl, fun j x hx => ?_⟩, ⟨hρ, hle, fun b hb e => ?_, fun b id hb e hn => ?_, hk⟩⟩
  · rcases him b all e with h | h
    · obtain ⟨ty, fz, h1⟩ := hM.im b all h
      refine ⟨ty, fz, ?_⟩
      rw [hk.block b (hlow b (by rw [h]; simp)) (fun ⟨i, _, h'⟩ => by rw [h] at h'; cases h')]; exact h1
    · exact h
  · rcases ht j x hx with ⟨h1, h2⟩ | h1
    · have old := hM.th j x h1
      cases x with
      | blk ty v =>
        obtain ⟨h, cs, h3, h4, h5, h6, h7⟩ := old
        have hb : ∀ i, M i → O h.b ≠ .th i := fun i hi e => by rw [h4] at e; cases e; exact h2 hi
        refine ⟨h, cs, hρ _ _ h3, by rw [hO _ h7.lt hb]; exact h4, h5, R.mono hle hρ h6, h7.same (hk.block _ h7.lt (fun ⟨i, hi, e⟩ => hb i hi e))⟩
      | row E t xs =>
        obtain ⟨h, es, h3, h4, h5, h6, h7⟩ := old
        have hb : ∀ b, blockOf h.v b → ∀ i, M i → O b ≠ .th i := fun b hbb i hi e => by rw [h5 b hbb] at e; cases e; exact h2 hi
        have hlt' : ∀ b, blockOf h.v b → b < w.heap.size := fun b hbb => hlow b (by rw [h5 b hbb]; simp)
        refine ⟨h, es, hρ _ _ h3, h4, fun b hbb => by rw [hO b (hlt' b hbb) (hb b hbb)]; exact h5 b hbb, h6.mono (fun _ _ => TR.mono hle), ?_⟩
        exact Rs.same (r := .row E t.size h.v xs.length es) (fun b hbb => hk.block b (hlt' b hbb) (fun ⟨i, hi, e⟩ => hb b hbb i hi e)) h7
      | fz t xs =>
        obtain ⟨h, h3, h4, h5⟩ := old
        exact ⟨h, hρ _ _ h3, h4, TR.mono hle h5⟩
      | no => trivial
      | mk =>
        obtain ⟨h, h3, h4, h5⟩ := old
        have hb : ∀ i, M i → O h.b ≠ .th i := fun i hi e => by rw [h4] at e; cases e; exact h2 hi
        have hlt' : h.b < w.heap.size := hlow _ (by rw [h4]; simp)
        exact ⟨h, hρ _ _ h3, by rw [hO _ hlt' hb]; exact h4, by rw [hk.block _ hlt' (fun ⟨i, hi, e⟩ => hb i hi e)]; exact h5⟩
    · exact h1
  · rw [hO b hb (fun i _ h => by rw [e] at h; cases h)]; exact e
  · rw [hO b hb (fun i hi h => by rw [e] at h; cases h; exact hn hi)]; exact e

theorem Kept.wide {S S' : Nat → Prop} {w w' : World} (h : Kept S w w') (hS : ∀ b, S b → S' b) : Kept S' w w' :=
  ⟨h.os, h.tape, h.output, h.size, fun b hb hn => h.block b hb (fun e => hn (hS b e))⟩

/-- A thing of the table has changed; its place has not. -/
theorem Gm.set {id : Nat} {x' : Thing} {w' : World} (hM : Gm O ρ tb w) (hi : id < tb.length) (hk : Kept (fun b => O b = .th id) w w') (h' : Holds O ρ w' id x') : Gm O ρ (tb.set id x') w' ∧ Stp (· = id) O ρ w O ρ w' := by
  refine hM.step (M := (· = id)) (hk.wide fun b e => ⟨id, rfl, e⟩) (fun _ _ _ => rfl) (fun b hb => hM.lt b (Nat.le_trans hk.size hb)) (fun b all e => .inl e) (.refl _) (by simp [hM.len]) (fun j x hx => ?_)
  rw [List.getElem?_set] at hx
  split at hx
  · rename_i e; subst e; first | (rw [if_pos hi] at hx; cases hx; exact .inr h') | (cases hx; exact .inr h')
  · rename_i e; exact .inl ⟨hx, fun h => e h.symm⟩

/-- A new thing. S: the blocks that it takes. -/
theorem Gm.new {w' : World} {h : Hd} {x : Thing} (S : Nat → Bool) (hM : Gm O ρ tb w) (hk : Kept none1 w w') (hS : ∀ b, S b = true → w.heap.size ≤ b ∧ b < w'.heap.size) (h' : Holds (fun b => bif S b then .th tb.length else O b) (ρ ++ [h]) w' tb.length x) :
    Gm (fun b => bif S b then .th tb.length else O b) (ρ ++ [h]) (tb ++ [x]) w' ∧ Stp (fun _ => False) O ρ w (fun b => bif S b then .th tb.length else O b) (ρ ++ [h]) w' := by
  refine hM.step (M := fun _ => False) (hk.wide fun b e => e.elim) (fun b hb _ => ?_) (fun b hb => ?_) (fun b all e => ?_) (.app _ _) (by simp [hM.len]) (fun j y hy => ?_)
  · cases e : S b with
    | true => have := (hS b e).1; omega
    | false => rfl
  · cases e : S b with
    | true => have := (hS b e).2; omega
    | false => exact hM.lt b (Nat.le_trans hk.size hb)
  · cases e' : S b with
    | true => rw [e'] at e; cases e
    | false => rw [e'] at e; exact .inl e
  · rcases Nat.lt_or_ge j tb.length with hj | hj
    · rw [List.getElem?_append_left hj] at hy; exact .inl ⟨hy, fun h => h⟩
    · have : j = tb.length := by
        have := (List.getElem?_eq_some_iff.1 hy).1
        simp at this; omega
      subst this
      rw [List.getElem?_append_right (Nat.le_refl _)] at hy
      simp at hy; subst hy
      exact .inr h'

/-- What a change comes to. -/
def WOk {β : Type} (P : Program) (a : Act) (o : Oper) (O : Own) (ρ : List Hd) (w : World) (M : Nat → Prop) (k : Option IV → Tbl → Option β) (r : β) : Prop :=
  ∃ v x tb' O' ρ' w', (match v with
    | some v => SR O' ρ' v x ∧ (execOp a.eval o).run P w = .ok (.value x.val) w'
    | none => (execOp a.eval o).run P w = .ok .skip w') ∧ Gm O' ρ' tb' w' ∧ Stp M O ρ w O' ρ' w' ∧ k v tb' = some r

/-- The block of a slice. -/
def blkB : Value → Nat → Bool
  | .slice (some ad) _ _, b => Nat.beq ad.block b
  | _, _ => false

theorem blkB_of {v : Value} {b : Nat} (h : blkB v b = true) : blockOf v b := by
  unfold blkB at h
  split at h
  · exact Nat.eq_of_beq_eq_true h
  · cases h
theorem of_blkB {v : Value} {b m cp : Nat} {ad : Option Addr} (hv : v = .slice ad m cp) (h : blockOf v b) : blkB v b = true := by
  subst hv
  cases ad with
  | none => exact h.elim
  | some ad => simp only [blockOf] at h; subst h; simp [blkB]

theorem Row.isSl {w : World} {E q : Nat} {v : Value} {m : Nat} {cs : List Value} (h : Row w E q v m cs) : isSl v = true := by
  obtain ⟨_, h2⟩ := h
  rcases h2 with ⟨rfl, _⟩ | ⟨b, cap, sp, rfl, _⟩ <;> rfl

theorem Row.blt {w : World} {E q : Nat} {v : Value} {m : Nat} {cs : List Value} (h : Row w E q v m cs) {b : Nat} (hb : blockOf v b) : b < w.heap.size := Rs.lt (r := .row E q v m cs) h b hb

/-- A new row. -/
theorem new_row {β : Type} {k : Option IV → Tbl → Option β} {r : β} {E : Nat} {t : Ty} {xs : List t.den} {es : List Value} {v : Value} {w' : World} (hM : Gm O ρ tb w) (hr : (execOp a.eval o).run P w = .ok (.value v) w') (hk : Kept none1 w w') (hrow : Row w' E t.size v xs.length es) (hb : ∀ b, blockOf v b → w.heap.size ≤ b) (hL : LR (TR O t) xs es)
    (e : k (some (.rw tb.length)) (tb ++ [.row E t xs]) = some r) : WOk P a o O ρ w (fun _ => False) k r := by
  have hsl := hrow.isSl
  have hle : O.le (fun b => bif blkB v b then .th tb.length else O b) := fun b all e => by
    cases e' : blkB v b with
    | true => have := hb b (blkB_of e'); rw [hM.lt b this] at e; cases e
    | false => simp only [e', cond_false]; exact e
  obtain ⟨h1, h2⟩ := hM.new (h := ⟨0, t.sz, v⟩) (x := .row E t xs) (blkB v) hk (fun b hbb => ⟨hb b (blkB_of hbb), hrow.blt (blkB_of hbb)⟩)
    ⟨⟨0, t.sz, v⟩, es, by rw [← hM.len]; simp, rfl, fun b hbb => by
      obtain ⟨q, m, cp, hv⟩ : ∃ q m cp, v = .slice q m cp := by cases v <;> first | exact ⟨_, _, _, rfl⟩ | cases hsl
      simp [of_blkB hv hbb], hL.mono (fun _ _ => TR.mono hle), hrow⟩
  exact ⟨some (.rw tb.length), .o (.v v), _, _, _, w', ⟨.of_S0 (v := .rw tb.length) ⟨v, rfl, ⟨0, t.sz, v⟩, by rw [← hM.len]; simp, rfl, hsl⟩, hr⟩, h1, h2, e⟩

/-- A new variable. -/
theorem new_blk {β : Type} {k : Option IV → Tbl → Option β} {r : β} {ty : Nat} {v : IV} {cs : List Value} (hM : Gm O ρ tb w) (hr : (execOp a.eval o).run P w = .ok (.value (vP w.heap.size 0)) { w with heap := w.heap.push (.cells cs.toArray ty) }) (hR : R O ρ false v cs)
    (e : k (some (.pt tb.length [])) (tb ++ [.blk ty v]) = some r) : WOk P a o O ρ w (fun _ => False) k r := by
  have hle : O.le (fun b => bif Nat.beq w.heap.size b then .th tb.length else O b) := fun b all e => by
    cases e' : Nat.beq w.heap.size b with
    | true => have := Nat.eq_of_beq_eq_true e'; rw [hM.lt b (by omega)] at e; cases e
    | false => simp only [e', cond_false]; exact e
  have hat : (ρ ++ [(⟨w.heap.size, v.sz, .bool false⟩ : Hd)])[tb.length]? = some ⟨w.heap.size, v.sz, .bool false⟩ := by rw [← hM.len]; simp
  obtain ⟨h1, h2⟩ := hM.new (h := ⟨w.heap.size, v.sz, .bool false⟩) (x := .blk ty v) (Nat.beq w.heap.size) (kept_alloc w (.cells cs.toArray ty)) (fun b hbb => by have := Nat.eq_of_beq_eq_true hbb; subst this; simp)
    ⟨_, cs, hat, by simp, rfl, R.mono hle (.app _ _) hR, blk_new ty cs⟩
  exact ⟨some (.pt tb.length []), .o (.v (vP w.heap.size 0)), _, _, _, _, ⟨.of_S0 (v := .pt tb.length []) ⟨_, rfl, _, 0, hat, by cases v.sz <;> rfl, rfl⟩, hr⟩, h1, h2, e⟩

/- ## new variables -/
def wAl {β : Type} (c : Cfg) (tb : Tbl) (k : Option IV → Tbl → Option β) (t : Nat) : Option β :=
  match c.I t with
  | some v => k (some (.pt tb.length [])) (tb ++ [.blk t v])
  | none => none

theorem wAl_ok {β : Type} {k : Option IV → Tbl → Option β} {r : β} (hc : COk P c) (hM : Gm O ρ tb w) {t : Nat} (ho : o.op = .alloc t) (e : wAl c tb k t = some r) : WOk P a o O ρ w (fun _ => False) k r := by
  unfold wAl at e
  split at e <;> first | (cases e; done) | skip
  rename_i v hv
  obtain ⟨z, cs, h1, h2, h3⟩ := hc.zero _ _ hv
  refine new_blk hM ?_ (h3 O ρ) e
  simp only [execOp, ho]
  simp [Instr.alloc, h1 w, newVar, h2, run_newRow]

def wBox {β : Type} (c : Cfg) (il : IEnv) (tb : Tbl) (k : Option IV → Tbl → Option β) (t : Nat) (x : Operand) : Option β :=
  match iopd c il x with
  | some (.tu _) => none
  | some v => k (some (.pt tb.length [])) (tb ++ [.blk t v])
  | none => none

theorem wBox_ok {β : Type} {k : Option IV → Tbl → Option β} {r : β} (hF : Fr n a l) (hE : ER O ρ il l) (hG : GO c O) (hM : Gm O ρ tb w) {t : Nat} {x : Operand} (ho : o.op = .box t x) (e : wBox c il tb k t x = some r) : WOk P a o O ρ w (fun _ => False) k r := by
  unfold wBox at e
  split at e <;> first | (cases e; done) | skip
  rename_i v hn hx
  obtain ⟨cs, h1, h2, _⟩ := iopd_cells hF hE hG hx (fun ch e => hn ch e)
  refine new_blk hM ?_ h2 e
  simp only [execOp, ho]
  simp [Instr.box, newVar, h1, run_newRow]

/- ## stores -/
def sizeIs (c : Cfg) (t : Nat) (u : IV) : Bool :=
  match c.Z t with
  | some z => Nat.beq z u.sz.size
  | none => false

def wSt {β : Type} (c : Cfg) (il : IEnv) (tb : Tbl) (k : Option IV → Tbl → Option β) (t : Nat) (x y : Operand) : Option β :=
  match iopd c il y with
  | some (.tu _) => none
  | some new => match sizeIs c t new with
    | true => match iopd c il x with
      | some (.pt id p) => match nth tb id with
        | some (.blk ty v) => setP new p v fun v' => k none (tb.set id (.blk ty v'))
        | _ => none
      | some (.el id j p) => match nth tb id with
        | some (.row E t' xs) => match p with
          | [] => match toP t' new with
            | some u => k none (tb.set id (.row E t' (xs.set j u)))
            | none => none
          | p => (xs[j]?).bind fun u => setP new p (ofP t' u) fun v' => match toP t' v' with
            | some u => k none (tb.set id (.row E t' (xs.set j u)))
            | none => none
        | _ => none
      | _ => none
    | false => none
  | none => none

theorem run_store' (hc : COk P c) {t : Nat} {x y : Operand} {b off : Nat} {us cs : List Value} {ty : TypeId} (ho : o.op = .store t x y) (hx : a.eval x = vP b off) (hy : (a.eval y).cells = us.toArray) (hz : c.Z t = some us.length) (h1 : ∀ v ∈ us, v.oneCell' = true) (hb : Blk w b cs ty) (hl : off + us.length ≤ cs.length) :
    (execOp a.eval o).run P w = .ok .skip (w.setRow b (spl cs off us).toArray) := by
  have hst := run_storeCells (P := P) us off 0 cs w hb (by simpa using hl) h1
  simp only [Nat.add_zero] at hst
  simp only [execOp, ho, hx]
  simp [Instr.storeAt, Instr.sureAddr, storeVar, hy, hc.tok.size _ _ hz, hst, spl]

theorem spl_app {es sp us : List Value} {q : Nat} (h : q + us.length ≤ es.length) : spl (es ++ sp) q us = spl es q us ++ sp := by
  simp only [spl]
  rw [List.take_append_of_le_length (by omega), List.drop_append_of_le_length (by omega)]; simp

theorem wSt_ok {β : Type} {k : Option IV → Tbl → Option β} {r : β} (hc : COk P c) (hF : Fr n a l) (hE : ER O ρ il l) (hG : GO c O) (hM : Gm O ρ tb w) {t : Nat} {x y : Operand} (ho : o.op = .store t x y) (e : wSt c il tb k t x y = some r) {v : IV} (hv : iopd c il x = some v) : WOk P a o O ρ w (· ∈ idsV v) k r := by
  unfold wSt at e
  split at e <;> first | (cases e; done) | skip
  rename_i new hn hy
  split at e <;> first | (cases e; done) | skip
  rename_i hs
  obtain ⟨us, hy1, hy2, _⟩ := iopd_cells hF hE hG hy (fun ch e => hn ch e)
  have hul := R.length hy2
  have hz : c.Z t = some us.length := by
    unfold sizeIs at hs
    split at hs <;> first | (cases hs; done) | skip
    rename_i z hz; rw [hz, Nat.eq_of_beq_eq_true hs, hul]
  have h1c := R.one hy2
  split at e <;> first | (cases e; done) | skip
  · rename_i id p hx
    rw [hv] at hx; cases hx
    split at e <;> first | (cases e; done) | skip
    rename_i ty v hb
    rw [nth_eq] at hb
    obtain ⟨h, cs, h1, h2, h3, h4, h5⟩ := hM.th _ _ hb
    obtain ⟨u, hu, ⟨h', off, h6, h7, h8⟩, _⟩ := iopd_1 hE hG hv rfl (by simp) hF
    cases h8
    rw [h1] at h6; cases h6
    rw [h3] at h7
    obtain ⟨v', hk, h9, h10, h11⟩ := setP_R hy2 e h4 h7
    obtain ⟨hG1, hG2⟩ := hM.set (x' := .blk ty v') (List.getElem?_eq_some_iff.1 hb).1 ((kept_setRow h.b (spl cs off us).toArray).wide (fun b e => by subst e; exact h2))
      ⟨h, _, h1, h2, by rw [h3, h11], h9, h5.setRow (spl_len h10)⟩
    exact ⟨none, .t [], _, _, _, _, run_store' hc ho hu hy1 hz h1c h5 h10, hG1, hG2.weak (fun i e => by subst e; simp [idsV]), hk⟩
  · rename_i id j p hx
    rw [hv] at hx; cases hx
    split at e <;> first | (cases e; done) | skip
    rename_i E t' xs hb
    rw [nth_eq] at hb
    obtain ⟨h, es, h1, h2, h3, h4, h5⟩ := hM.th _ _ hb
    obtain ⟨u, hu, ⟨h', off, ad, nn, cp, h6, h7, h8, h9, h10⟩, _⟩ := iopd_1 hE hG hv rfl (by simp) hF
    cases h10
    rw [h1] at h6; cases h6
    have h5' := h5
    obtain ⟨hl5, hr5⟩ := h5'
    rcases hr5 with ⟨hnil, _⟩ | ⟨b, cap, sp, hv5, hnc, hblk, hcap, hmax⟩
    · rw [hnil] at h8; cases h8
    rw [hv5] at h8; cases h8
    have hown : O b = .th id := h3 b (by rw [hv5]; rfl)
    have hjn : j * t'.size + t'.size ≤ es.length := by
      rw [hl5]
      have := Nat.mul_le_mul_right t'.size (show j + 1 ≤ xs.length by omega)
      rw [Nat.add_mul] at this; omega
    rw [add_zero _ rfl, Nat.zero_add, h2, Ty.sz_size] at hu
    -- the store, given the new element and its cells
    have fin : ∀ (u' : t'.den), TR O t' u' (spl ((es.drop (j * t'.size)).take t'.size) off us) → off + us.length ≤ t'.size → k none (tb.set id (.row E t' (xs.set j u'))) = some r → WOk P a o O ρ w (· ∈ idsV (.el id j p)) k r := by
      intro u' hT hoff hk
      have hst := run_store' hc ho hu hy1 hz h1c hblk (by rw [List.length_append]; omega)
      rw [spl_app (by omega)] at hst
      have hset := LR.set (fun _ _ => TR.length) h4 (j := j) h9 hT
      have hspl : es.take (j * t'.size) ++ spl ((es.drop (j * t'.size)).take t'.size) off us ++ es.drop (j * t'.size + t'.size) = spl es (j * t'.size + off) us := by
        rw [← spl_spl hoff hjn]
        have hl : (spl ((es.drop (j * t'.size)).take t'.size) off us).length = t'.size := TR.length hT
        generalize spl ((es.drop (j * t'.size)).take t'.size) off us = q at hl
        simp only [spl, hl]
      rw [hspl] at hset
      have hlen : (spl es (j * t'.size + off) us).length = es.length := spl_len (by omega)
      obtain ⟨hG1, hG2⟩ := hM.set (x' := .row E t' (xs.set j u')) (List.getElem?_eq_some_iff.1 hb).1 ((kept_setRow b (spl es (j * t'.size + off) us ++ sp).toArray).wide (fun b' e => by subst e; exact hown))
        ⟨h, _, h1, h2, h3, hset, by rw [hlen, List.length_set]; exact hl5, .inr ⟨b, _, sp, by rw [hv5, List.length_set], by rw [List.length_set]; exact hnc, hblk.setRow (by simp [hlen]), by rw [← hcap]; simp [hlen], hmax⟩⟩
      exact ⟨none, .t [], _, _, _, _, hst, hG1, hG2.weak (fun i e => by subst e; simp [idsV]), hk⟩
    split at e
    · split at e <;> first | (cases e; done) | skip
      rename_i u' hu'
      have hT := toP_R hu' hy2
      have hoff : off = 0 := by
        have : h.z.off [] = some 0 := by cases h.z <;> rfl
        rw [this] at h7; cases h7; rfl
      subst hoff
      have hul' := TR.length hT
      have hsp : spl ((es.drop (j * t'.size)).take t'.size) 0 us = us := by
        have : ((es.drop (j * t'.size)).take t'.size).length = t'.size := by rw [List.length_take, List.length_drop]; omega
        simp only [spl, List.take_zero, List.nil_append]
        rw [List.drop_of_length_le (by omega), List.append_nil]
      exact fin u' (by rw [hsp]; exact hT) (by omega) e
    · obtain ⟨y', hy', e⟩ := bindS e
      have hT := LR.get (fun _ _ => TR.length) h4 hy'
      obtain ⟨v', hk, h11, h12, _⟩ := setP_R hy2 e (ofP_R (ρ := ρ) hT) (by rw [ofP_sz, ← h2]; exact h7)
      split at hk <;> first | (cases hk; done) | skip
      rename_i u' hu'
      have hl2 : ((es.drop (j * t'.size)).take t'.size).length = t'.size := by rw [List.length_take, List.length_drop]; omega
      rw [hl2] at h12
      exact fin u' (toP_R hu' h11) h12 hk
end
end Go.Tw
/- Operations that change memory, continued: make, literals, append, copy, bytes of strings. No program is in it. -/
namespace Go.Tw
set_option linter.unusedSimpArgs false
set_option linter.unusedVariables false

theorem flat_rep_get (zc : List Value) : ∀ (m p : Nat), p < m * zc.length → (List.replicate m zc).flatten[p]? = zc[p % zc.length]?
  | 0, p, h => by simp at h
  | m + 1, p, h => by
    rw [List.replicate_succ, List.flatten_cons]
    rcases Nat.lt_or_ge p zc.length with h' | h'
    · rw [List.getElem?_append_left h', Nat.mod_eq_of_lt h']
    · rw [List.getElem?_append_right h', flat_rep_get zc m (p - zc.length) (by rw [Nat.add_mul] at h; omega), Nat.mod_eq_sub_mod h']

theorem range_rep (zc : List Value) (hz : 0 < zc.length) (m : Nat) : (Array.range (m * zc.length)).map (fun x => zc.toArray[x % zc.toArray.size]!) = (List.replicate m zc).flatten.toArray := by
  have hl : (List.replicate m zc).flatten.length = m * zc.length := by simp [List.length_flatten]
  apply Array.ext
  · simp [hl]
  · intro p h1 h2
    have hp : p < m * zc.length := by simpa using h1
    have hmod : p % zc.length < zc.length := Nat.mod_lt _ hz
    have e := flat_rep_get zc m p hp
    have h3 : p < (List.replicate m zc).flatten.length := by rw [hl]; exact hp
    rw [List.getElem?_eq_getElem h3, List.getElem?_eq_getElem hmod] at e
    simp only [Array.getElem_map, Array.getElem_range, List.size_toArray, List.getElem_toArray]
    rw [Option.some.inj e]
    simp [hmod]

section
variable {P : Program} {c : Cfg} {n : Nat} {a : Act} {l : Env} {il : IEnv} {O : Own} {ρ : List Hd} {tb : Tbl} {w : World} {o : Oper}

theorem run_makeG {ty e s bytes : Nat} {z : Value} {zc : List Value} {x y : Operand} {i j : Int} (he : EOk P ty e s bytes z) (hzc : z.cells = zc.toArray) (ho : o.op = .makeSlice ty x y) (hx : a.eval x = vI i) (hy : a.eval y = vI j)
    (hi : 0 ≤ i) (hij : i ≤ j) (hj : j ≤ 4611686018427387904) (hbt : bytes * j ≤ 281474976710656) :
    ∃ v w', (execOp a.eval o).run P w = .ok (.value v) w' ∧ Row w' e s v i.toNat (List.replicate i.toNat zc).flatten ∧ Kept none1 w w' ∧ ∀ b, blockOf v b → w.heap.size ≤ b := by
  obtain ⟨f, hf, hk, hb, hz⟩ := he.info
  have hsz : zc.length = s := by have := he.cells; rw [hzc] at this; simpa using this
  have hpos := he.pos
  have hwi : IntKind.i64.wrap i = i := w64_in (by omega) (by omega)
  have hwj : IntKind.i64.wrap j = j := w64_in (by omega) (by omega)
  have hrow := range_rep zc (by omega) j.toNat
  rw [hsz] at hrow
  have hfl : ∀ m, (List.replicate m zc).flatten.length = m * s := fun m => by simp [List.length_flatten, hsz]
  refine ⟨.slice (some ⟨w.heap.size, 0, none⟩) i.toNat j.toNat, { w with heap := w.heap.push (.cells (List.replicate j.toNat zc).flatten.toArray e) }, ?_, ⟨hfl _, .inr ⟨w.heap.size, j.toNat, (List.replicate (j.toNat - i.toNat) zc).flatten, rfl, by omega, ?_, ?_, ?_⟩⟩, kept_alloc w _, fun b hb => by cases hb; exact Nat.le_refl _⟩
  · simp only [execOp, ho, hx, hy]
    have c1 : ¬ (j < 0) := by omega
    have c2 : ¬ ((bytes : Int) * j > 281474976710656) := by omega
    have c3 : ¬ (i < 0) := by omega
    have c4 : ¬ (i > j) := by omega
    have hroom : ∀ (q : Nat) (w : World), (askRoom q).run P w = .ok () w := fun q w => by unfold askRoom; split <;> rfl
    by_cases hj0 : j.toNat = 0
    · have hj1 : j ≤ 0 := by omega
      simp [Instr.makeSlice, run_underlying he.slice, asInt, asIntOf, typeInfo, hf, hb, hwi, hwj, c1, c2, c3, c4, sizeOf, hk, hj0, newRow, newObj, hroom]
      have e0 : Array.range 0 = #[] := rfl
      simp [Sem.run, e0]
    · have hj1 : ¬ (j.toNat * s = 0) := by
        intro h
        rcases Nat.mul_eq_zero.1 h with h | h <;> omega
      have hrow' : Array.map (fun x => z.cells[x % z.cells.size]!) (Array.range (j.toNat * s)) = (List.replicate j.toNat zc).flatten.toArray := by rw [hzc]; rw [← hrow]
      simp [Instr.makeSlice, run_underlying he.slice, asInt, asIntOf, typeInfo, hf, hb, hwi, hwj, c1, c2, c3, c4, sizeOf, hk, hj1, newRow, newObj, zeroValue, hz, hrow', hroom]
      simp [Sem.run]
  · have e1 : (List.replicate i.toNat zc).flatten ++ (List.replicate (j.toNat - i.toNat) zc).flatten = (List.replicate j.toNat zc).flatten := by
      rw [← List.flatten_append, List.replicate_append_replicate, show i.toNat + (j.toNat - i.toNat) = j.toNat from by omega]
    rw [e1]
    exact blk_new e _
  · rw [List.length_append, hfl, hfl, ← Nat.add_mul]; congr 1; omega
  · simp only [maxLen]; omega

def wMk {β : Type} (c : Cfg) (il : IEnv) (tb : Tbl) (k : Option IV → Tbl → Option β) (ty : Nat) (x y : Operand) : Option β :=
  match c.D ty with
  | some (.slice e) => match c.E e, iopd c il x, iopd c il y with
    | some t, some (.o (.i i)), some (.o (.i j)) => (gmake t.zero i j).bind fun xs => k (some (.rw tb.length)) (tb ++ [.row e t xs])
    | _, _, _ => none
  | _ => none

theorem wMk_ok {β : Type} {k : Option IV → Tbl → Option β} {r : β} (hc : COk P c) (hF : Fr n a l) (hE : ER O ρ il l) (hG : GO c O) (hM : Gm O ρ tb w) {ty : Nat} {x y : Operand} (ho : o.op = .makeSlice ty x y) (e : wMk c il tb k ty x y = some r) : WOk P a o O ρ w (fun _ => False) k r := by
  unfold wMk at e
  split at e <;> first | (cases e; done) | skip
  rename_i el hd
  split at e <;> first | (cases e; done) | skip
  rename_i t i j ht hx hy
  obtain ⟨xs, hxs, e⟩ := bindS e
  obtain ⟨h0, h1, h2, rfl⟩ := gmake_some hxs
  obtain ⟨bytes, z, zc, h3, h4, h5, h6⟩ := hc.elem _ _ _ hd ht
  have hb' : (bytes : Int) * j ≤ 281474976710656 := by
    have : (bytes : Int) ≤ 128 := by omega
    have : (bytes : Int) * j ≤ 128 * j := Int.mul_le_mul_of_nonneg_right this (by omega)
    omega
  obtain ⟨v, w', h7, h8, h9, h10⟩ := run_makeG (P := P) (w := w) h3 h5 ho (opd_val hF (iopd_o hE hG hx).1) (opd_val hF (iopd_o hE hG hy).1) h0 h1 (by omega) hb'
  refine new_row hM h7 h9 (by simpa using h8) h10 (LR.replicate (h6 O) _) e

/- ## literals -/
/-- A row is given up. -/
theorem Gm.frz {id E : Nat} {t : Ty} {xs : List t.den} {tb : Tbl} (hM : Gm O ρ tb w) (hb : tb[id]? = some (.row E t xs)) : ∃ O' h, ρ[id]? = some h ∧ Gm O' ρ (tb.set id (.fz t xs)) w ∧ Stp (· = id) O ρ w O' ρ w ∧ TR O' (.sl t) xs [h.v] ∧ (∀ b j, j ≠ id → O b = .th j → O' b = .th j) ∧ h.z = t.sz := by
  obtain ⟨h, es, h1, h2, h3, h4, h5⟩ := hM.th _ _ hb
  have hsl := h5.isSl
  obtain ⟨q, m, cp, hv⟩ : ∃ q m cp, h.v = .slice q m cp := by cases hv : h.v <;> first | exact ⟨_, _, _, rfl⟩ | (rw [hv] at hsl; cases hsl)
  have hid := (List.getElem?_eq_some_iff.1 hb).1
  have h5' := h5
  obtain ⟨hl, h6⟩ := h5'
  rcases h6 with ⟨hn, h0⟩ | ⟨b, cap, sp, hv', hnc, hblk, hcap, hmx⟩
  · have hx : xs = [] := List.eq_nil_of_length_eq_zero h0
    have hT : TR O (.sl t) xs [h.v] := by subst hx; rw [hn]; exact ⟨_, [], rfl, rfl, .inl ⟨rfl, none, 0, rfl⟩⟩
    obtain ⟨g1, g2⟩ := hM.set (x' := .fz t xs) hid (Kept.refl _ w) ⟨h, h1, h2, hT⟩
    exact ⟨O, h, h1, g1, g2, hT, fun _ _ _ e => e, h2⟩
  · have hown : O b = .th id := h3 b (by rw [hv']; rfl)
    obtain ⟨fz, hh, _⟩ := hblk
    have hle : O.le (fun b' => bif Nat.beq b b' then .im (es ++ sp) else O b') := fun b' all e => by
      cases e' : Nat.beq b b' with
      | true => have := Nat.eq_of_beq_eq_true e'; subst this; rw [hown] at e; cases e
      | false => simp only [e', cond_false]; exact e
    have hT : TR (fun b' => bif Nat.beq b b' then .im (es ++ sp) else O b') (.sl t) xs [h.v] := by
      refine ⟨_, es, rfl, h4.mono (fun _ _ => TR.mono hle), .inr ⟨b, 0, cap, hv', hnc, es ++ sp, by simp, fun j c hj => ?_⟩⟩
      rw [Nat.zero_add, List.getElem?_append_left (List.getElem?_eq_some_iff.1 hj).1]; exact hj
    have hoth : ∀ b' j, j ≠ id → O b' = .th j → (bif Nat.beq b b' then Ow.im (es ++ sp) else O b') = .th j := fun b' j hj e => by
      cases e' : Nat.beq b b' with
      | true => have := Nat.eq_of_beq_eq_true e'; subst this; rw [hown] at e; cases e; exact absurd rfl hj
      | false => exact e
    obtain ⟨g1, g2⟩ := hM.step (M := (· = id)) (O' := fun b' => bif Nat.beq b b' then .im (es ++ sp) else O b') (ρ' := ρ) (tb' := tb.set id (.fz t xs)) (w' := w) (Kept.refl _ _)
      (fun b' _ hn => by
        cases e' : Nat.beq b b' with
        | true => have := Nat.eq_of_beq_eq_true e'; subst this; exact absurd hown (hn id rfl)
        | false => rfl)
      (fun b' hb' => by
        cases e' : Nat.beq b b' with
        | true => have := Nat.eq_of_beq_eq_true e'; subst this; rw [hM.lt _ hb'] at hown; cases hown
        | false => exact hM.lt b' hb')
      (fun b' all e => by
        cases e' : Nat.beq b b' with
        | true => have := Nat.eq_of_beq_eq_true e'; subst this; simp only [e', cond_true, Ow.im.injEq] at e; subst e; exact .inr ⟨_, _, hh⟩
        | false => simp only [e', cond_false] at e; exact .inl e)
      (.refl _) (by simp [hM.len]) (fun j x hx => by
        rw [List.getElem?_set] at hx
        split at hx
        · rename_i e; subst e
          have : x = .fz t xs := by first | (rw [if_pos hid] at hx; cases hx; rfl) | (cases hx; rfl)
          subst this; exact .inr ⟨h, h1, h2, hT⟩
        · rename_i e; exact .inl ⟨hx, fun h => e h.symm⟩)
    exact ⟨_, h, h1, g1, g2, hT, hoth, h2⟩

/-- The rows of a value are frozen. -/
def frzIV : IV → Tbl → Option Tbl
  | .rw id, tb => match nth tb id with
    | some (.row _ t xs) => some (tb.set id (.fz t xs))
    | some (.fz _ _) => some tb
    | _ => none
  | .pr a b, tb => match frzIV a tb with
    | some tb => frzIV b tb
    | none => none
  | _, tb => some tb
def frzL : List (Nat × IV) → Tbl → Option Tbl
  | [], tb => some tb
  | (_, v) :: r, tb => match frzIV v tb with
    | some tb => frzL r tb
    | none => none
def idsD : IV → List Nat
  | .rw id => [id]
  | .pr a b => idsD a ++ idsD b
  | _ => []
def idsL : List (Nat × IV) → List Nat
  | [] => []
  | (_, v) :: r => idsD v ++ idsL r
def litIds (c : Cfg) (il : IEnv) (ps : List (Nat × Operand)) : List Nat := match iparts c il ps with
  | some vs => idsL vs
  | none => []

theorem frzIV_ok : ∀ {v : IV} {tb tb' : Tbl} {O : Own} {ρ : List Hd} {w : World}, frzIV v tb = some tb' → Gm O ρ tb w → ∃ O', Gm O' ρ tb' w ∧ Stp (· ∈ idsD v) O ρ w O' ρ w ∧ tb'.length = tb.length := by
  intro v
  induction v with
  | rw id =>
    intro tb tb' O ρ w e hM
    simp only [frzIV] at e
    split at e <;> first | (cases e; done) | skip
    · rename_i E t xs hb
      rw [nth_eq] at hb
      cases e
      obtain ⟨O', h, h1, g1, g2, _⟩ := hM.frz hb
      exact ⟨O', g1, g2.weak (fun i e => by subst e; simp [idsD]), by simp⟩
    · cases e; exact ⟨O, hM, .refl _ _ _ _, rfl⟩
  | pr a b iha ihb =>
    intro tb tb' O ρ w e hM
    simp only [frzIV] at e
    split at e <;> first | (cases e; done) | skip
    rename_i tb1 h1
    obtain ⟨O1, g1, g2, g3⟩ := iha h1 hM
    obtain ⟨O2, k1, k2, k3⟩ := ihb e g1
    exact ⟨O2, k1, (g2.weak (fun i h => by simp [idsD, h])).trans (k2.weak (fun i h => by simp [idsD, h])), k3.trans g3⟩
  | _ => intro tb tb' O ρ w e hM; simp only [frzIV, Option.some.injEq] at e; subst e; exact ⟨O, hM, .refl _ _ _ _, rfl⟩

theorem frzL_ok : ∀ {vs : List (Nat × IV)} {tb tb' : Tbl} {O : Own} {ρ : List Hd} {w : World}, frzL vs tb = some tb' → Gm O ρ tb w → ∃ O', Gm O' ρ tb' w ∧ Stp (· ∈ idsL vs) O ρ w O' ρ w ∧ tb'.length = tb.length
  | [], tb, tb', O, ρ, w, e, hM => by simp only [frzL, Option.some.injEq] at e; subst e; exact ⟨O, hM, .refl _ _ _ _, rfl⟩
  | (i, v) :: r, tb, tb', O, ρ, w, e, hM => by
    simp only [frzL] at e
    split at e <;> first | (cases e; done) | skip
    rename_i tb1 h1
    obtain ⟨O1, g1, g2, g3⟩ := frzIV_ok h1 hM
    obtain ⟨O2, k1, k2, k3⟩ := frzL_ok e g1
    exact ⟨O2, k1, (g2.weak (fun i h => by simp [idsL, h])).trans (k2.weak (fun i h => by simp [idsL, h])), k3.trans g3⟩

/-- A value as pure data; rows that are frozen are read. -/
def toPT (tb : Tbl) : (t : Ty) → IV → Option t.den
  | .sl t, v => match v with
    | .rw id => match nth tb id with
      | some (.fz t' xs) => castR (Ty.eq? t' t) xs
      | _ => none
    | v => v.asSl t
  | .pr a b, v => match v with
    | .pr x y => match toPT tb a x, toPT tb b y with
      | some x, some y => some (x, y)
      | _, _ => none
    | _ => none
  | .i, v => v.asI
  | .u8, v => v.asU8
  | .u32, v => v.asU32
  | .u64, v => v.asU64
  | .bo, v => v.asB
  | .s, v => v.asS
  | .un, v => match v with
    | .un => some ()
    | _ => none
  | .ar n t, v => v.asAr n t

theorem toPT_R {tb : Tbl} {w : World} (hM : Gm O ρ tb w) : ∀ {t : Ty} {v : IV} {x : t.den} {cs : List Value}, toPT tb t v = some x → R O ρ false v cs → TR O t x cs := by
  intro t
  induction t with
  | sl t ih =>
    intro v x cs e h
    cases v <;> first | exact toP_R (t := .sl t) e h | skip
    rename_i id
    simp only [toPT] at e
    split at e <;> first | (cases e; done) | skip
    rename_i t' xs hb
    obtain ⟨e1, he1⟩ := castR_ok e
    subst e1
    have he1 : x = xs := he1
    subst he1
    rw [nth_eq] at hb
    obtain ⟨h', h1, h2, h3⟩ := hM.th _ _ hb
    obtain ⟨h0, h4, h5, _⟩ := h
    rw [h1] at h4; cases h4
    subst h5
    exact h3
  | pr a b iha ihb =>
    intro v x cs e h
    cases v <;> simp only [toPT] at e <;> first | (cases e; done) | skip
    split at e <;> first | (cases e; done) | skip
    rename_i x1 y1 h1 h2
    cases e
    obtain ⟨c, d, rfl, h3, h4⟩ := h
    exact ⟨c, d, rfl, iha h1 h3, ihb h2 h4⟩
  | i => intro v x cs e h; exact toP_R (t := .i) e h
  | u8 => intro v x cs e h; exact toP_R (t := .u8) e h
  | u32 => intro v x cs e h; exact toP_R (t := .u32) e h
  | u64 => intro v x cs e h; exact toP_R (t := .u64) e h
  | bo => intro v x cs e h; exact toP_R (t := .bo) e h
  | s => intro v x cs e h; exact toP_R (t := .s) e h
  | un => intro v x cs e h; exact toP_R (t := .un) e h
  | ar n t _ => intro v x cs e h; exact toP_R (t := .ar n t) e h

def numb (tb : Tbl) (t : Ty) : Nat → List (Nat × IV) → Option (List t.den)
  | _, [] => some []
  | q, (i, u) :: r => match Nat.beq i q, toPT tb t u, numb tb t (q + 1) r with
    | true, some x, some xs => some (x :: xs)
    | _, _, _ => none

theorem PaR.mono {O O' : Own} {ρ ρ' : List Hd} (hO : O.le O') (hρ : Pre ρ ρ') : ∀ {ps : List (Nat × IV)} {ys : List (Nat × Value)}, PaR O ρ ps ys → PaR O' ρ' ps ys
  | [], ys, h => h
  | (i, v) :: r, ys, h => by
    obtain ⟨x, rest, cs, rfl, h1, h2, h3⟩ := h
    exact ⟨x, rest, cs, rfl, h1, R.mono hO hρ h2, PaR.mono hO hρ h3⟩

theorem WOk.pre {β : Type} {P : Program} {a : Act} {o : Oper} {O O1 : Own} {ρ ρ1 : List Hd} {w : World} {M M1 : Nat → Prop} {k : Option IV → Tbl → Option β} {r : β} (h : Stp M O ρ w O1 ρ1 w) (hk : WOk P a o O1 ρ1 w M1 k r) (hm : ∀ i, M1 i → M i) : WOk P a o O ρ w M k r := by
  obtain ⟨v, x, tb', O', ρ', w', h1, h2, h3, h4⟩ := hk
  exact ⟨v, x, tb', O', ρ', w', h1, h2, h.trans (h3.weak hm), h4⟩

theorem spl_next {cs us vs : List Value} {q : Nat} (h : q + us.length + vs.length ≤ cs.length) : spl (spl cs q us) (q + us.length) vs = spl cs q (us ++ vs) := by
  have hA : (cs.take q ++ us).length = q + us.length := by rw [List.length_append, List.length_take]; omega
  have e1 : spl cs q us = (cs.take q ++ us) ++ cs.drop (q + us.length) := rfl
  have e2 : spl (spl cs q us) (q + us.length) vs = (cs.take q ++ us) ++ vs ++ (cs.drop (q + us.length)).drop vs.length := by
    rw [e1]
    unfold spl
    rw [← hA, List.take_left, List.drop_length_add_append]
  rw [e2, List.drop_drop]
  simp [spl, Nat.add_assoc]

theorem numb_ok {tb : Tbl} {w : World} (hM : Gm O ρ tb w) {t : Ty} : ∀ {ps : List (Nat × IV)} {ys : List (Nat × Value)} {q : Nat} {xs : List t.den}, numb tb t q ps = some xs → PaR O ρ ps ys → xs.length = ps.length ∧ ∃ es, LR (TR O t) xs es ∧ ∀ cs : List Value, (q + ps.length) * t.size ≤ cs.length →
    Instr.fill (fun i => some (i * t.size, t.size)) cs.toArray ys = some (spl cs (q * t.size) es).toArray
  | [], ys, q, xs, e, h => by
    simp only [numb, Option.some.injEq] at e; subst e
    simp only [PaR] at h; subst h
    exact ⟨rfl, [], rfl, fun cs _ => by simp [Instr.fill, spl]⟩
  | (i, u) :: ps, ys, q, xs, e, h => by
    obtain ⟨x, rest, us, rfl, h1, h2, h3⟩ := h
    simp only [numb] at e
    split at e <;> first | (cases e; done) | skip
    rename_i y ys' hiq hy hys
    simp only [Option.some.injEq] at e; subst e
    have hiq := Nat.eq_of_beq_eq_true hiq
    subst hiq
    have hT := toPT_R hM hy h2
    have hul := TR.length hT
    obtain ⟨hl, es, h4, h5⟩ := numb_ok hM hys h3
    have hel := LR.length (fun _ _ => TR.length) h4
    refine ⟨by simp [hl], us ++ es, ⟨us, es, rfl, hT, h4⟩, fun cs hcs => ?_⟩
    simp only [List.length_cons] at hcs
    have hb : i * t.size + t.size + ps.length * t.size ≤ cs.length := by
      have : (i + (ps.length + 1)) * t.size = i * t.size + t.size + ps.length * t.size := by rw [Nat.add_mul, Nat.add_mul]; omega
      omega
    refine fill_put (off := i * t.size) (k := t.size) rfl h1 hul (by omega) ?_
    have hle : (spl cs (i * t.size) us).length = cs.length := spl_len (by omega)
    rw [h5 _ (by rw [hle, Nat.add_mul, Nat.add_mul]; omega)]
    rw [show (i + 1) * t.size = i * t.size + us.length from by rw [Nat.add_mul, hul]; omega]
    rw [spl_next (by rw [hel, hl]; omega)]

/-- Values of one cell each, numbered, as one block. -/
def chn : Nat → List (Nat × IV) → Option IV
  | _, [] => some .un
  | q, (i, u) :: r => match Nat.beq i q, u.sz, chn (q + 1) r with
    | true, .one, some v => some (.pr u v)
    | _, _, _ => none

theorem chn_ok : ∀ {ps : List (Nat × IV)} {ys : List (Nat × Value)} {q : Nat} {v : IV}, chn q ps = some v → PaR O ρ ps ys → v.sz = ones ps.length ∧ ∃ es, R O ρ false v es ∧ es.length = ps.length ∧ ∀ cs : List Value, q + ps.length ≤ cs.length →
    Instr.fill (fun i => some (i * 1, 1)) cs.toArray ys = some (spl cs q es).toArray
  | [], ys, q, v, e, h => by
    simp only [chn, Option.some.injEq] at e; subst e
    simp only [PaR] at h; subst h
    exact ⟨rfl, [], rfl, rfl, fun cs _ => by simp [Instr.fill, spl]⟩
  | (i, u) :: ps, ys, q, v, e, h => by
    obtain ⟨x, rest, us, rfl, h1, h2, h3⟩ := h
    simp only [chn] at e
    split at e <;> first | (cases e; done) | skip
    rename_i v' hiq hsz hv'
    simp only [Option.some.injEq] at e; subst e
    have hiq := Nat.eq_of_beq_eq_true hiq
    subst hiq
    have hul : us.length = 1 := by rw [R.length h2, hsz]; rfl
    obtain ⟨hl, es, h4, h5, h6⟩ := chn_ok hv' h3
    refine ⟨by simp [IV.sz, ones, hsz, hl], us ++ es, ⟨us, es, rfl, h2, h4⟩, by simp [hul, h5]; omega, fun cs hcs => ?_⟩
    simp only [List.length_cons] at hcs
    refine fill_put (off := i * 1) (k := 1) rfl h1 hul (by omega) ?_
    have hle : (spl cs (i * 1) us).length = cs.length := spl_len (by omega)
    rw [h6 _ (by rw [hle]; omega)]
    rw [show i + 1 = i * 1 + us.length from by rw [hul]; omega]
    rw [spl_next (by rw [h5]; omega), Nat.mul_one]

def wLit {β : Type} (c : Cfg) (il : IEnv) (tb : Tbl) (k : Option IV → Tbl → Option β) (ty len : Nat) (ps : List (Nat × Operand)) : Option β :=
  match c.D ty with
  | some (.slice e) => match c.E e, iparts c il ps with
    | some t, some vs => match frzL vs tb with
      | some tb1 => match Nat.beq vs.length len, Nat.ble (len * t.size) 16777216, numb tb1 t 0 vs with
        | true, true, some xs => k (some (.rw tb1.length)) (tb1 ++ [.row e t xs])
        | _, _, _ => none
      | none => none
    | none, some vs => match c.W e, Nat.beq vs.length len, Nat.ble len 1000, chn 0 vs with
      | true, true, true, some v => k (some (.ps tb.length len)) (tb ++ [.blk e v])
      | _, _, _, _ => none
    | _, _ => none
  | _ => none

theorem wLit_ok {β : Type} {k : Option IV → Tbl → Option β} {r : β} (hc : COk P c) (hF : Fr n a l) (hE : ER O ρ il l) (hG : GO c O) (hM : Gm O ρ tb w) {ty len : Nat} {ps : Array (Nat × Operand)} (ho : o.op = .buildSlice ty len ps) (e : wLit c il tb k ty len ps.toList = some r) : WOk P a o O ρ w (· ∈ litIds c il ps.toList) k r := by
  unfold wLit at e
  split at e <;> first | (cases e; done) | skip
  rename_i el hd
  split at e <;> first | (cases e; done) | skip
  · rename_i t vs ht hps
    split at e <;> first | (cases e; done) | skip
    rename_i tb1 hfz
    split at e <;> first | (cases e; done) | skip
    rename_i xs hlen hle hxs
    obtain ⟨O1, hM1, hS1, hl1⟩ := frzL_ok hfz hM
    have hids : litIds c il ps.toList = idsL vs := by simp [litIds, hps]
    rw [hids]
    refine WOk.pre hS1 (M1 := fun _ => False) ?_ (fun _ h => h.elim)
    have hlen := Nat.eq_of_beq_eq_true hlen
    have hle : len * t.size ≤ 16777216 := by simpa using hle
    obtain ⟨bytes, z, zc, h3, h4, h5, h6⟩ := hc.elem _ _ _ hd ht
    obtain ⟨f, hf, hk, hbt, hz⟩ := h3.info
    have hsz : zc.length = t.size := by have := h3.cells; rw [h5] at this; simpa using this
    have hpos := h3.pos
    obtain ⟨hxl, es, h7, h8⟩ := numb_ok hM1 hxs (PaR.mono hS1.im hS1.pre (iparts_ok hF hE hG hps))
    have hel := LR.length (fun _ _ => TR.length) h7
    have hfl : ∀ m, (List.replicate m zc).flatten.length = m * t.size := fun m => by simp [List.length_flatten, hsz]
    have hfill := h8 (List.replicate len zc).flatten (by rw [hfl, Nat.zero_add, hlen]; exact Nat.le_refl _)
    have hes : spl (List.replicate len zc).flatten (0 * t.size) es = es := by
      simp only [spl, Nat.zero_mul, List.take_zero, List.nil_append]
      rw [List.drop_of_length_le (by rw [hfl, hel, hxl, hlen]; omega), List.append_nil]
    rw [hes] at hfill
    have hrow := range_rep zc (by omega) len
    rw [hsz] at hrow
    have hxl' : xs.length = len := hxl.trans hlen
    have hpos1 : len ≤ len * t.size := by
      have := Nat.mul_le_mul_left len hpos
      simpa using this
    refine new_row (v := .slice (some ⟨w.heap.size, 0, none⟩) len len) (w' := { w with heap := w.heap.push (.cells es.toArray el) }) hM1 ?_ (kept_alloc w _) ⟨hel, .inr ⟨w.heap.size, len, [], by rw [hxl'], by omega, by simpa using blk_new el es, by simp [hel, hxl'], by simp only [maxLen]; omega⟩⟩
      (fun b hb => by cases hb; exact Nat.le_refl _) h7 e
    simp only [execOp, ho]
    have c0 : ¬ (len * t.size > 2 ^ 24) := by omega
    have hps' : (ps.map fun (i, x) => (i, a.eval x)).toList = ps.toList.map fun (i, x) => (i, a.eval x) := by simp
    have hrun : (Instr.buildSlice ty len (ps.map fun (i, x) => (i, a.eval x))).run P w = .ok (.slice (some ⟨w.heap.size, 0, none⟩) len len) { w with heap := w.heap.push (.cells es.toArray el) } := by
      by_cases h0 : len * t.size = 0
      · have hl0 : len = 0 := by omega
        subst hl0
        have e0 : Array.range 0 = #[] := rfl
        have hfill' : Instr.fill (fun i => some (i * t.size, t.size)) #[] (ps.toList.map fun (i, x) => (i, a.eval x)) = some es.toArray := by simpa using hfill
        unfold Instr.buildSlice
        simp only [Sem.run_bind, run_underlying h3.slice, Result.andThen_ok, sizeOf, typeInfo, Sem.run, hf, hk, hps', Nat.zero_mul, e0]
        simp [Sem.run, newRow, newObj, pure, hf, hk, e0, hfill', hps']
      · have hrow' : Array.map (fun x => z.cells[x % z.cells.size]!) (Array.range (len * t.size)) = (List.replicate len zc).flatten.toArray := by rw [h5]; rw [← hrow]
        have hs := hc.tok.size
        unfold Instr.buildSlice
        simp [run_underlying h3.slice, sizeOf, typeInfo, hf, hk, zeroValue, hz, h0, c0, newRow, newObj, pure, Sem.run, hps']
        have hfill' : Instr.fill (fun i => some (i * t.size, t.size)) (List.replicate len zc).flatten.toArray (ps.toList.map fun x => (x.fst, a.eval x.snd)) = some es.toArray := hfill
        rw [hrow', hfill']
        rfl
    simp [hrun]
  · rename_i vs ht hps
    split at e <;> first | (cases e; done) | skip
    rename_i v hw hlen hle hch
    have hlen := Nat.eq_of_beq_eq_true hlen
    have hle : len ≤ 1000 := by simpa using hle
    obtain ⟨bytes, z, h3⟩ := hc.one _ _ hd hw
    obtain ⟨f, hf, hk, hbt, hz⟩ := h3.info
    obtain ⟨zc, hzc⟩ : ∃ zc, z.cells = #[zc] := by
      have := h3.cells
      obtain ⟨l⟩ : ∃ l, z.cells = ⟨l⟩ := ⟨z.cells.toList, by simp⟩
      rename_i hl
      rw [hl] at this
      match l, this with
      | [x], _ => exact ⟨x, hl⟩
      | [], h => simp at h
      | _ :: _ :: _, h => simp at h
    obtain ⟨hsz, es, h4, h5, h6⟩ := chn_ok hch (iparts_ok hF hE hG hps)
    have hfill := h6 (List.replicate len zc) (by simp; omega)
    have hes : spl (List.replicate len zc) 0 es = es := by
      simp only [spl, List.take_zero, List.nil_append]
      rw [List.drop_of_length_le (by simp; omega), List.append_nil]
    rw [hes] at hfill
    have hle' : O.le (fun b => bif Nat.beq w.heap.size b then .th tb.length else O b) := fun b all e => by
      cases e' : Nat.beq w.heap.size b with
      | true => have := Nat.eq_of_beq_eq_true e'; rw [hM.lt b (by omega)] at e; cases e
      | false => simp only [e', cond_false]; exact e
    have hat : (ρ ++ [(⟨w.heap.size, v.sz, .bool false⟩ : Hd)])[tb.length]? = some ⟨w.heap.size, v.sz, .bool false⟩ := by rw [← hM.len]; simp
    obtain ⟨g1, g2⟩ := hM.new (h := ⟨w.heap.size, v.sz, .bool false⟩) (x := .blk el v) (Nat.beq w.heap.size) (kept_alloc w (.cells es.toArray el)) (fun b hbb => by have := Nat.eq_of_beq_eq_true hbb; subst this; simp)
      ⟨_, es, hat, by simp, rfl, R.mono hle' (.app _ _) h4, blk_new el es⟩
    refine ⟨some (.ps tb.length len), .o (.v (.slice (some ⟨w.heap.size, 0, none⟩) len len)), _, _, _, _, ⟨.of_S0 (v := .ps tb.length len) ⟨_, rfl, _, hat, by rw [hsz, hlen], rfl⟩, ?_⟩, g1, g2.weak (fun _ h => h.elim), e⟩
    simp only [execOp, ho]
    have hps' : (ps.map fun (i, x) => (i, a.eval x)).toList = ps.toList.map fun (i, x) => (i, a.eval x) := by simp
    have c0 : ¬ (len * 1 > 2 ^ 24) := by omega
    have hrun : (Instr.buildSlice ty len (ps.map fun (i, x) => (i, a.eval x))).run P w = .ok (.slice (some ⟨w.heap.size, 0, none⟩) len len) { w with heap := w.heap.push (.cells es.toArray el) } := by
      have hrow : Array.map (fun x => z.cells[x % z.cells.size]!) (Array.range len) = (List.replicate len zc).toArray := by
        rw [hzc]
        apply Array.ext'
        rw [Array.toList_map]
        apply List.ext_getElem
        · simp
        · intro i h1 h2; simp [Nat.mod_one]
      by_cases h0 : len = 0
      · subst h0
        have hes0 : es = [] := List.length_eq_zero_iff.1 (by omega)
        subst hes0
        have e0 : Array.range 0 = #[] := rfl
        have hfill' : Instr.fill (fun i => some (i * 1, 1)) #[] (ps.toList.map fun (i, x) => (i, a.eval x)) = some #[] := by simpa using hfill
        unfold Instr.buildSlice
        simp only [Sem.run_bind, run_underlying h3.slice, Result.andThen_ok, sizeOf, typeInfo, Sem.run, hf, hk, hps', Nat.zero_mul, e0]
        simp [Sem.run, newRow, newObj, pure, hf, hk, e0, hps']
        have hfill2 : Instr.fill (fun i => some (i, 1)) #[] (List.map (fun x => (x.fst, a.eval x.snd)) ps.toList) = some #[] := by
          have := hfill'
          simp only [Nat.mul_one] at this
          exact this
        rw [hfill2]
        rfl
      · unfold Instr.buildSlice
        have c1 : ¬ (16777216 < len) := by omega
        simp [run_underlying h3.slice, sizeOf, typeInfo, hf, hk, zeroValue, hz, h0, c0, c1, newRow, newObj, pure, Sem.run, hps']
        have hfill' : Instr.fill (fun i => some (i, 1)) (List.replicate len zc).toArray (ps.toList.map fun x => (x.fst, a.eval x.snd)) = some es.toArray := by
          have := hfill
          simp only [Nat.mul_one] at this
          exact this
        rw [hrow, hfill']
        rfl
    simp [hrun]

/- ## what is copied or appended -/
def srcI {β : Type} (c : Cfg) (il : IEnv) (tb : Tbl) (t : Ty) (ty2 : Nat) (B : Operand) (k : List t.den → Option β) : Option β :=
  match c.D ty2, iopd c il B with
  | some .string, some (.o (.s s)) => match castR (Ty.eq? .u8 t) s with
    | some ys => k ys
    | none => none
  | some (.slice _), some v => match v.agg with
    | false => cont t tb v k
    | true => none
  | _, _ => none

theorem LR_map_u8 : ∀ (xs : List UInt8), LR (TR O .u8) xs (xs.map vU8)
  | [] => rfl
  | x :: xs => ⟨[vU8 x], xs.map vU8, rfl, rfl, LR_map_u8 xs⟩

theorem first_str' (s : List UInt8) (m : Nat) (w' : World) : (Builtin.firstCells 1 m (vS s)).run P w' = .ok ((s.map vU8).take m).toArray w' := by
  have hx : ((ByteArray.mk s.toArray).extract 0 m).data = (s.take m).toArray := by simp [ByteArray.data_extract]
  simp only [Builtin.firstCells, hx]
  simp [List.map_take]

theorem srcI_ok {β : Type} {t : Ty} {ty2 : Nat} {B : Operand} {k : List t.den → Option β} {r : β} (hc : COk P c) (hF : Fr n a l) (hE : ER O ρ il l) (hG : GO c O) (hM : Gm O ρ tb w) (e : srcI c il tb t ty2 B k = some r) :
    ∃ ys es d2, k ys = some r ∧ LR (TR O t) ys es ∧ P.underlying ty2 = some d2 ∧ (∀ q, d2 ≠ .int q) ∧ (∀ w' : World, (Builtin.lenOf (a.eval B)).run P w' = .ok ys.length w') ∧ ∀ w' : World, w'.heap = w.heap → ∀ m, m ≤ ys.length → (Builtin.firstCells t.size m (a.eval B)).run P w' = .ok (es.take (m * t.size)).toArray w' := by
  unfold srcI at e
  split at e <;> first | (cases e; done) | skip
  · rename_i s hd hB
    split at e <;> first | (cases e; done) | skip
    rename_i ys hcast
    have hv := opd_val hF (iopd_o hE hG hB).1
    obtain ⟨e1, rfl⟩ := castR_ok hcast
    subst e1
    refine ⟨_, s.map vU8, _, e, LR_map_u8 s, hc.tok.desc _ _ hd, (fun q h => by cases h), fun w' => ?_, fun w' _ m hm => ?_⟩
    · rw [hv]; simp [Builtin.lenOf, SV.val, S0.val, size_mk, castL]
    · rw [hv]
      have := first_str' (P := P) s m w'
      simpa [Ty.size] using this
  · rename_i el v hd hB
    split at e <;> first | (cases e; done) | skip
    rename_i hag
    have ht : ∀ ch, v ≠ .tu ch := fun ch ee => by subst ee; simp [cont] at e
    obtain ⟨u, hu, hR, _⟩ := iopd_1 hE hG hB hag ht hF
    obtain ⟨xs, es, hk, hL, hrd, _⟩ := cont_ok hM e hR
    have hr := hrd w (Sm.refl _ _ _)
    refine ⟨xs, es, _, hk, hL, hc.tok.desc _ _ hd, (fun q h => by cases h), fun w' => ?_, fun w' hw m hm => ?_⟩
    · rw [hu]; exact lenOf_rd hr w'
    · rw [hu]
      exact run_first (P := P) (w := w') (Rd.same hr (fun b _ _ => by rw [hw])) m hm

def wApp {β : Type} (c : Cfg) (il : IEnv) (tb : Tbl) (k : Option IV → Tbl → Option β) (ty ty2 : Nat) (A B : Operand) : Option β :=
  match c.D ty with
  | some (.slice e) => match c.E e with
    | some t => match iopd c il A with
      | some (.rw id) => match nth tb id with
        | some (.row E t' xs) => match Nat.beq E e, castR (Ty.eq? t' t) xs with
          | true, some xs => srcI c il tb t ty2 B fun ys => (gapp xs ys).bind fun zs => k (some (.rw tb.length)) (tb.set id .no ++ [.row e t zs])
          | _, _ => none
        | _ => none
      | some v => match v.asNil with
        | true => srcI c il tb t ty2 B fun ys => (gapp [] ys).bind fun zs => k (some (.rw tb.length)) (tb ++ [.row e t zs])
        | false => none
      | none => none
    | none => none
  | _ => none

theorem run_app' {ty ty2 e s bytes : Nat} {z v : Value} {m len : Nat} {xs ys : List Value} {d2 : TypeDesc} {A B : Operand} (he : EOk P ty e s bytes z) (h2 : P.underlying ty2 = some d2) (hd2 : ∀ q, d2 ≠ .int q) (ho : o.op = .call ⟨.builtin .append, #[A, B], #[ty, ty2]⟩) (hA : a.eval A = v)
    (hr : Row w e s v len xs) (hlen : ∀ w : World, (Builtin.lenOf (a.eval B)).run P w = .ok m w) (hys : ys.length = m * s) (hx : ∀ w' : World, w'.heap = w.heap → (Builtin.firstCells s m (a.eval B)).run P w' = .ok ys.toArray w') (h1 : ∀ u ∈ ys, u.oneCell' = true)
    (h63 : len + m ≤ maxLen) (hbt : (len + m) * bytes ≤ 140737488355328) :
    ∃ v' w', (execOp a.eval o).run P w = .ok (.value v') w' ∧ Row w' e s v' (len + m) (xs ++ ys) ∧ Kept (blockOf v) w w' ∧ ∀ b, blockOf v' b → blockOf v b ∨ w.heap.size ≤ b := by
  obtain ⟨v', w', h3, h4⟩ := run_append (rt := o.type) he h2 hd2 hr hlen hys hx h1 h63 hbt
  refine ⟨v', w', ?_, h4⟩
  simp [execOp, ho, resolve, invoke, builtin, hA, h3]

/-- The row id has grown into a new row. -/
theorem grown {β : Type} {k : Option IV → Tbl → Option β} {r : β} {id E : Nat} {t : Ty} {zs : List t.den} {es : List Value} {h : Hd} {v' : Value} {w' : World} {x0 : Thing} (hM : Gm O ρ tb w) (hid : tb[id]? = some x0) (hown : ∀ b, blockOf h.v b → O b = .th id) (hr : (execOp a.eval o).run P w = .ok (.value v') w') (hk : Kept (blockOf h.v) w w')
    (hrow : Row w' E t.size v' zs.length es) (hb : ∀ b, blockOf v' b → blockOf h.v b ∨ w.heap.size ≤ b) (hL : LR (TR O t) zs es) (e : k (some (.rw tb.length)) (tb.set id .no ++ [.row E t zs]) = some r) : WOk P a o O ρ w (· = id) k r := by
  have hsl := hrow.isSl
  obtain ⟨q, m, cp, hv'⟩ : ∃ q m cp, v' = .slice q m cp := by cases v' <;> first | exact ⟨_, _, _, rfl⟩ | cases hsl
  have hat : (ρ ++ [(⟨0, t.sz, v'⟩ : Hd)])[tb.length]? = some ⟨0, t.sz, v'⟩ := by rw [← hM.len]; simp
  have hlen : (tb.set id Thing.no ++ [Thing.row E t zs]).length = tb.length + 1 := by simp
  have hnew : ∀ b, blkB v' b = true → O b = .th id ∨ w.heap.size ≤ b := fun b hb' => by
    rcases hb b (blkB_of hb') with h1 | h1
    · exact .inl (hown b h1)
    · exact .inr h1
  have hle : O.le (fun b => bif blkB v' b then .th tb.length else O b) := fun b all e => by
    cases e' : blkB v' b with
    | true =>
      rcases hnew b e' with h1 | h1
      · rw [h1] at e; cases e
      · rw [hM.lt b h1] at e; cases e
    | false => simp only [e', cond_false]; exact e
  obtain ⟨h1, h2⟩ := hM.step (M := (· = id)) (O' := fun b => bif blkB v' b then .th tb.length else O b) (ρ' := ρ ++ [⟨0, t.sz, v'⟩]) (tb' := tb.set id .no ++ [.row E t zs]) (w' := w') (hk.wide fun b hb' => ⟨id, rfl, hown b hb'⟩)
    (fun b hb' hn => by
      cases e' : blkB v' b with
      | true =>
        rcases hnew b e' with h1 | h1
        · exact absurd h1 (hn id rfl)
        · omega
      | false => rfl)
    (fun b hb' => by
      cases e' : blkB v' b with
      | true => have := hrow.blt (blkB_of e'); omega
      | false => exact hM.lt b (Nat.le_trans hk.size hb'))
    (fun b all e => by
      cases e' : blkB v' b with
      | true => simp only [e', cond_true] at e; cases e
      | false => simp only [e', cond_false] at e; exact .inl e)
    (.app _ _) (by simp [hM.len]) (fun j x hx => by
      rcases Nat.lt_or_ge j tb.length with hj | hj
      · rw [List.getElem?_append_left (by simpa using hj), List.getElem?_set] at hx
        split at hx
        · rename_i e'; subst e'
          have : x = .no := by
            first
              | (rw [if_pos hj] at hx; cases hx; rfl)
              | (cases hx; rfl)
          subst this; exact .inr trivial
        · rename_i e'; exact .inl ⟨hx, fun h => e' h.symm⟩
      · have : j = tb.length := by
          have := (List.getElem?_eq_some_iff.1 hx).1
          rw [hlen] at this; omega
        subst this
        rw [List.getElem?_append_right (by simp)] at hx
        simp at hx; subst hx
        exact .inr ⟨_, es, hat, rfl, fun b hbb => by simp [of_blkB hv' hbb], hL.mono (fun _ _ => TR.mono hle), hrow⟩)
  exact ⟨some (.rw tb.length), .o (.v v'), _, _, _, w', ⟨.of_S0 (v := .rw tb.length) ⟨v', rfl, ⟨0, t.sz, v'⟩, hat, rfl, hsl⟩, hr⟩, h1, h2, e⟩

theorem wApp_ok {β : Type} {k : Option IV → Tbl → Option β} {r : β} (hc : COk P c) (hF : Fr n a l) (hE : ER O ρ il l) (hG : GO c O) (hM : Gm O ρ tb w) {ty ty2 : Nat} {A B : Operand} (ho : o.op = .call ⟨.builtin .append, #[A, B], #[ty, ty2]⟩) (e : wApp c il tb k ty ty2 A B = some r) {v : IV} (hv : iopd c il A = some v) : WOk P a o O ρ w (· ∈ idsV v) k r := by
  unfold wApp at e
  split at e <;> first | (cases e; done) | skip
  rename_i el hd
  split at e <;> first | (cases e; done) | skip
  rename_i t ht
  obtain ⟨bytes, z, zc, h3, h4, h5, h6⟩ := hc.elem _ _ _ hd ht
  have bnd : ∀ q : Nat, q ≤ 1099511627776 → q ≤ maxLen ∧ q * bytes ≤ 140737488355328 := fun q hq => by
    refine ⟨by simp only [maxLen]; omega, ?_⟩
    have := Nat.mul_le_mul hq h4
    omega
  split at e <;> first | (cases e; done) | skip
  · rename_i id hA
    rw [hv] at hA; cases hA
    split at e <;> first | (cases e; done) | skip
    rename_i E t' xs hb
    split at e <;> first | (cases e; done) | skip
    rename_i xs' hE' hcast
    obtain ⟨e1, he1⟩ := castR_ok hcast
    subst e1
    have he1 : xs' = xs := he1
    subst he1
    have hE' := Nat.eq_of_beq_eq_true hE'
    subst hE'
    rw [nth_eq] at hb
    obtain ⟨h, es, h7, h8, h9, h10, h11⟩ := hM.th _ _ hb
    obtain ⟨u, hu, ⟨h', h12, h13, _⟩, _⟩ := iopd_1 hE hG hv rfl (by simp) hF
    cases h13
    rw [h7] at h12; cases h12
    obtain ⟨ys, fs, d2, hk, hL, hu2, hd2, hlen, hfirst⟩ := srcI_ok hc hF hE hG hM e
    obtain ⟨zs, hz, hk⟩ := bindS hk
    obtain ⟨h14, rfl⟩ := gapp_some hz
    have hfl := LR.length (fun _ _ => TR.length) hL
    obtain ⟨v', w', h15, h16, h17, h18⟩ := run_app' (P := P) (w := w) (m := ys.length) (ys := fs) h3 hu2 hd2 ho hu h11 hlen hfl (fun w' hw => by
      have := hfirst w' hw ys.length (Nat.le_refl _)
      rw [List.take_of_length_le (by omega)] at this; exact this) (LR.one (fun _ _ => TR.one) hL) (bnd _ h14).1 (bnd _ h14).2
    have hwk := grown (zs := xs' ++ ys) hM hb h9 h15 h17 (by rw [List.length_append]; exact h16) h18 (h10.append hL) hk
    obtain ⟨v, x, tb', O', ρ', w2, g1, g2, g3, g4⟩ := hwk
    exact ⟨v, x, tb', O', ρ', w2, g1, g2, g3.weak (fun i e => by subst e; simp [idsV]), g4⟩
  · rename_i v0 _ hA
    rw [hv] at hA; cases hA
    split at e <;> first | (cases e; done) | skip
    rename_i hnil
    have hvn := asNil_eq hnil
    subst hvn
    have hu := opd_val hF (iopd_o hE hG hv).1
    obtain ⟨ys, fs, d2, hk, hL, hu2, hd2, hlen, hfirst⟩ := srcI_ok hc hF hE hG hM e
    obtain ⟨zs, hz, hk⟩ := bindS hk
    obtain ⟨h14, rfl⟩ := gapp_some hz
    have hfl := LR.length (fun _ _ => TR.length) hL
    simp only [List.length_nil, Nat.zero_add] at h14
    obtain ⟨v', w', h15, h16, h17, h18⟩ := run_app' (P := P) (w := w) (len := 0) (xs := []) (m := ys.length) (ys := fs) h3 hu2 hd2 ho hu ⟨by simp, .inl ⟨rfl, rfl⟩⟩ hlen hfl (fun w' hw => by
      have := hfirst w' hw ys.length (Nat.le_refl _)
      rw [List.take_of_length_le (by omega)] at this; exact this) (LR.one (fun _ _ => TR.one) hL) (by have := (bnd _ h14).1; omega) (by have := (bnd _ h14).2; simpa using this)
    have hwk := new_row (xs := [] ++ ys) hM h15 (h17.wide (fun b hb => hb.elim)) (by simpa using h16) (fun b hb => (h18 b hb).elim (fun h => h.elim) (fun h => h)) (by simpa using hL) hk
    obtain ⟨v, x, tb', O', ρ', w2, g1, g2, g3, g4⟩ := hwk
    exact ⟨v, x, tb', O', ρ', w2, g1, g2, g3.weak (fun i e => e.elim), g4⟩

/- ## []byte(s) -/
def wS2B {β : Type} (c : Cfg) (il : IEnv) (tb : Tbl) (k : Option IV → Tbl → Option β) (src dst : Nat) (x : Operand) : Option β :=
  match c.D src, c.D dst, iopd c il x with
  | some .string, some (.slice e), some (.o (.s s)) => match c.D e with
    | some (.int .u8) => (gstr s).bind fun xs => k (some (.rw tb.length)) (tb ++ [.row e .u8 xs])
    | _ => none
  | _, _, _ => none

theorem wS2B_ok {β : Type} {k : Option IV → Tbl → Option β} {r : β} (hc : COk P c) (hF : Fr n a l) (hE : ER O ρ il l) (hG : GO c O) (hM : Gm O ρ tb w) {src dst : Nat} {x : Operand} (ho : o.op = .convert src dst x) (e : wS2B c il tb k src dst x = some r) : WOk P a o O ρ w (fun _ => False) k r := by
  unfold wS2B at e
  split at e <;> first | (cases e; done) | skip
  rename_i el s hs hd hx
  split at e <;> first | (cases e; done) | skip
  rename_i he
  obtain ⟨xs, hz, e⟩ := bindS e
  obtain ⟨h1, rfl⟩ := gstr_some hz
  obtain ⟨v, w', h2, h3, h4, h5⟩ := r_s2b (P := P) (w := w) hc.tok hF ho (iopd_o hE hG hx).1 hs hd he (by simp only [maxLen]; omega)
  exact new_row (t := .u8) hM h2 h4 h3 h5 (LR_map_u8 _) e
end
end Go.Tw
/- copy, and all operations that change memory but calls. No program is in it. -/
namespace Go.Tw
set_option linter.unusedSimpArgs false
set_option linter.unusedVariables false
section
variable {P : Program} {c : Cfg} {n : Nat} {a : Act} {l : Env} {il : IEnv} {O : Own} {ρ : List Hd} {tb : Tbl} {w : World} {o : Oper}

theorem ofSlAt {O₂ : Own} {s n : Nat} {es : List Value} {v : Value} (h : Rd w s v n es) (hb : ∀ b a ty fz, n ≠ 0 → blockOf v b → w.heap[b]? = some (.cells a ty fz) → O₂ b = .im a.toList) : SlAt O₂ n es v := by
  obtain ⟨hl, h2⟩ := h
  rcases h2 with h2 | ⟨b, off, cap, all, ty, fz, rfl, h0, h3, h4⟩
  · exact .inl h2
  · by_cases hn : n = 0
    · subst hn; exact .inl ⟨rfl, _, _, rfl⟩
    · have h6 := hb b _ _ _ hn rfl h3
      exact .inr ⟨b, off, cap, rfl, h0, _, h6, fun j c hj => by simpa using h4 j c hj⟩

theorem run_copyG (hc : COk P c) {ty ty2 e s q m : Nat} {A B : Operand} {b' : Option Addr} {c' : Nat} {ys : List Value} {w' : World} (ho : o.op = .call ⟨.builtin .copy, #[A, B], #[ty, ty2]⟩) (hd : c.D ty = some (.slice e)) (hz : c.Z e = some s) (hA : a.eval A = .slice b' m c') (hlen : (Builtin.lenOf (a.eval B)).run P w = .ok q w)
    (hf : (Builtin.firstCells s (Nat.min q m) (a.eval B)).run P w = .ok ys.toArray w) (hst : ∀ ad, b' = some ad → (storeCells ad ys).run P w = .ok () w') (hn : b' = none → w' = w) : (execOp a.eval o).run P w = .ok (.value (vI (Nat.min q m : Nat))) w' := by
  have hrun : (Builtin.copy_ #[ty, ty2] o.type #[.slice b' m c', a.eval B]).run P w = .ok (vI (Nat.min q m : Nat)) w' := by
    unfold Builtin.copy_
    cases b' with
    | none =>
      have := hn rfl; subst this
      simp [run_underlying (hc.tok.desc _ _ hd), hlen, hc.tok.size _ _ hz, goInt, hf]
    | some ad =>
      have := hst ad rfl
      simp [run_underlying (hc.tok.desc _ _ hd), hlen, hc.tok.size _ _ hz, goInt, hf, this]
  simp [execOp, ho, resolve, invoke, builtin, hA, hrun]

def wCp {β : Type} (c : Cfg) (il : IEnv) (tb : Tbl) (k : Option IV → Tbl → Option β) (ty ty2 : Nat) (A B : Operand) : Option β :=
  match c.D ty with
  | some (.slice e) => match c.Z e, iopd c il A with
    | some s, some (.rw id) => match nth tb id with
      | some (.row E t xs) => match Nat.beq s t.size with
        | true => srcI c il tb t ty2 B fun ys => k (some (.o (.i (Nat.min ys.length xs.length : Nat)))) (tb.set id (.row E t (splice xs 0 ys (Nat.min ys.length xs.length))))
        | false => none
      | _ => none
    | some s, some (.rp id lo hi) => match nth tb id with
      | some (.row E t xs) => match Nat.beq s t.size with
        | true => srcI c il tb t ty2 B fun ys => k (some (.o (.i (Nat.min ys.length (hi - lo) : Nat)))) (tb.set id (.row E t (splice xs lo ys (Nat.min ys.length (hi - lo)))))
        | false => none
      | _ => none
    | some s, some (.ap id p lo hi) => match nth tb id with
      | some (.blk bt v) => getP (fun u => match u with
        | .ar m t xs => match Nat.beq s t.size with
          | true => srcI c il tb t ty2 B fun ys => setP (.ar m t (vspl xs lo ys (Nat.min ys.length (hi - lo)))) p v fun v' => k (some (.o (.i (Nat.min ys.length (hi - lo) : Nat)))) (tb.set id (.blk bt v'))
          | false => none
        | _ => none) p v
      | _ => none
    | _, _ => none
  | _ => none

theorem LR.splice {α : Type} {R : α → List Value → Prop} {s : Nat} (hR : ∀ x c, R x c → c.length = s) {xs ys : List α} {es fs : List Value} (h : LR R xs es) (k : LR R ys fs) {lo q : Nat} : LR R (splice xs lo ys q) (es.take (lo * s) ++ fs.take (q * s) ++ es.drop ((lo + q) * s)) :=
  ((h.split hR lo).1.append (k.split hR q).1).append (h.split hR (lo + q)).2

theorem wCp_ok {β : Type} {k : Option IV → Tbl → Option β} {r : β} (hc : COk P c) (hF : Fr n a l) (hE : ER O ρ il l) (hG : GO c O) (hM : Gm O ρ tb w) {ty ty2 : Nat} {A B : Operand} (ho : o.op = .call ⟨.builtin .copy, #[A, B], #[ty, ty2]⟩) (e : wCp c il tb k ty ty2 A B = some r) {v : IV} (hv : iopd c il A = some v) : WOk P a o O ρ w (· ∈ idsV v) k r := by
  unfold wCp at e
  split at e <;> first | (cases e; done) | skip
  rename_i el hd
  -- into a row
  have torow : ∀ {s id E lo hi : Nat} {t : Ty} {xs : List t.den} {u : Value} {h : Hd}, c.Z el = some s → Nat.beq s t.size = true → tb[id]? = some (.row E t xs) → ρ[id]? = some h → a.eval A = u → Part t.size h.v lo hi u →
      (srcI c il tb t ty2 B fun ys => k (some (.o (.i (Nat.min ys.length (hi - lo) : Nat)))) (tb.set id (.row E t (splice xs lo ys (Nat.min ys.length (hi - lo)))))) = some r → WOk P a o O ρ w (· = id) k r := by
    intro s id E lo hi t xs u h hz hs hb hρ hu hp e
    have hs := Nat.eq_of_beq_eq_true hs
    subst hs
    obtain ⟨h', es, h7, h8, h9, h10, h11⟩ := hM.th _ _ hb
    rw [hρ] at h7; cases h7
    obtain ⟨ys, fs, d2, hk, hL, hu2, hd2, hlen, hfirst⟩ := srcI_ok hc hF hE hG hM e
    have hfl := LR.length (fun _ _ => TR.length) hL
    have hcy : Nat.min ys.length (hi - lo) ≤ ys.length := Nat.min_le_left ..
    have hch : Nat.min ys.length (hi - lo) ≤ hi - lo := Nat.min_le_right ..
    have hff := hfirst w rfl _ hcy
    have hLs := h10.splice (fun _ _ => TR.length) hL (lo := lo) (q := Nat.min ys.length (hi - lo))
    have h11' := h11
    obtain ⟨hl11, hr11⟩ := h11'
    obtain ⟨b, nn, cp, b', cp', hv0, hu0, hlo, hhi, hor⟩ := hp
    subst hu0
    have hnn : nn = xs.length := by
      obtain ⟨b2, c2, e2, _⟩ := h11.rd.shape
      rw [hv0] at e2; cases e2; rfl
    subst hnn
    have hfcl : (fs.take (Nat.min ys.length (hi - lo) * t.size)).length = Nat.min ys.length (hi - lo) * t.size := by
      rw [List.length_take, hfl]; exact Nat.min_eq_left (Nat.mul_le_mul_right _ hcy)
    have hspl : spl es (lo * t.size) (fs.take (Nat.min ys.length (hi - lo) * t.size)) = es.take (lo * t.size) ++ fs.take (Nat.min ys.length (hi - lo) * t.size) ++ es.drop ((lo + Nat.min ys.length (hi - lo)) * t.size) := by
      simp only [spl, hfcl, Nat.add_mul]
    have hsl : (splice xs lo ys (Nat.min ys.length (hi - lo))).length = xs.length := by
      simp only [splice, List.length_append, List.length_take, List.length_drop]
      generalize hq : Nat.min ys.length (hi - lo) = q at *
      omega
    have hle : lo * t.size + (fs.take (Nat.min ys.length (hi - lo) * t.size)).length ≤ es.length := by
      rw [hfcl, hl11, ← Nat.add_mul]
      exact Nat.mul_le_mul_right _ (by clear hr11 hor hv0 h9; omega)
    rcases hr11 with ⟨hnil, hn0⟩ | ⟨b2, cap, sp, hv5, hnc, hblk, hcap, hmax⟩
    · -- nothing is there
      have hx0 : xs = [] := List.eq_nil_of_length_eq_zero hn0
      subst hx0
      have hv0' := hv0
      rw [hnil] at hv0'
      injection hv0' with e1 e2 e3
      subst e1 e3
      simp only [List.length_nil] at hhi
      have hlo0 : lo = 0 := by omega
      have hhi0 : hi = 0 := by omega
      subst hlo0 hhi0
      have hc0 : Nat.min ys.length (0 - 0) = 0 := by simp
      have hf0 : fs.take (Nat.min ys.length (0 - 0) * t.size) = [] := by rw [hc0]; simp
      rw [hf0] at hff
      have hrun := run_copyG (P := P) (w' := w) hc ho hd hz hu (hlen w) hff (fun ad _ => rfl) (fun _ => rfl)
      refine ⟨some (.o (.i (Nat.min ys.length (0 - 0) : Nat))), .o (.i (Nat.min ys.length (0 - 0) : Nat)), _, O, ρ, w, ⟨⟨_, rfl, rfl, rfl⟩, hrun⟩, ?_, .refl _ _ _ _, hk⟩
      have hid := (List.getElem?_eq_some_iff.1 hb).1
      obtain ⟨g1, g2⟩ := hM.set (x' := .row E t (splice ([] : List t.den) 0 ys (Nat.min ys.length (0 - 0)))) hid (Kept.refl _ w) ⟨h, [], hρ, h8, h9, by rw [hc0]; simp [splice]; rfl, by rw [hc0]; simp [splice], .inl ⟨hv0, by rw [hc0]; simp [splice]⟩⟩
      exact g1
    · rw [hv5] at hv0; cases hv0
      have hown : O b2 = .th id := h9 b2 (by rw [hv5]; rfl)
      have hle2 : lo * t.size + (fs.take (Nat.min ys.length (hi - lo) * t.size)).length ≤ (es ++ sp).length := by rw [List.length_append]; omega
      have hone : ∀ u ∈ fs.take (Nat.min ys.length (hi - lo) * t.size), u.oneCell' = true := fun u hu => LR.one (fun _ _ => TR.one) hL u (List.mem_of_mem_take hu)
      have hst := run_storeCells (P := P) _ (lo * t.size) 0 (es ++ sp) w hblk (by simpa using hle2) hone
      simp only [Nat.add_zero] at hst
      have hst2 : (storeCells ⟨b2, lo * t.size, none⟩ (fs.take (Nat.min ys.length (hi - lo) * t.size))).run P w = .ok () (w.setRow b2 (spl es (lo * t.size) (fs.take (Nat.min ys.length (hi - lo) * t.size)) ++ sp).toArray) := by
        rw [← spl_app hle]; exact hst
      have hrun : (execOp a.eval o).run P w = .ok (.value (vI (Nat.min ys.length (hi - lo) : Nat))) (w.setRow b2 (spl es (lo * t.size) (fs.take (Nat.min ys.length (hi - lo) * t.size)) ++ sp).toArray) := by
        refine run_copyG (P := P) hc ho hd hz hu (hlen w) hff (fun ad hb' => ?_) (fun hb' => ?_)
        · rcases hor with hor | ⟨ad', h1, h2, _⟩
          · -- an empty part
            have hc0 : Nat.min ys.length (hi - lo) = 0 := by omega
            have hf0 : fs.take (Nat.min ys.length (hi - lo) * t.size) = [] := by rw [hc0]; simp
            rw [hf0]
            have hid : w.setRow b2 (spl es (lo * t.size) [] ++ sp).toArray = w := by
              obtain ⟨fz, h3, _⟩ := hblk
              have : spl es (lo * t.size) [] = es := by simp [spl]
              rw [this]; exact setRow_self w b2 _ E fz h3
            rw [hid]; rfl
          · cases h1
            rw [hb'] at h2
            cases h2
            rw [add_zero _ rfl, Nat.zero_add]; exact hst2
        · have hc0 : Nat.min ys.length (hi - lo) = 0 := by
            rcases hor with hor | ⟨ad', _, h2, _⟩
            · omega
            · rw [hb'] at h2; cases h2
          have hf0 : fs.take (Nat.min ys.length (hi - lo) * t.size) = [] := by rw [hc0]; simp
          rw [hf0]
          obtain ⟨fz, h3, _⟩ := hblk
          have : spl es (lo * t.size) [] = es := by simp [spl]
          rw [this]; exact setRow_self w b2 _ E fz h3
      have hlen2 : (spl es (lo * t.size) (fs.take (Nat.min ys.length (hi - lo) * t.size))).length = es.length := spl_len hle
      rw [← hspl] at hLs
      obtain ⟨g1, g2⟩ := hM.set (x' := .row E t (splice xs lo ys (Nat.min ys.length (hi - lo)))) (List.getElem?_eq_some_iff.1 hb).1 ((kept_setRow b2 _).wide (fun b' e => by subst e; exact hown))
        ⟨h, _, hρ, h8, h9, hLs, by rw [hlen2, hsl]; exact hl11, .inr ⟨b2, _, sp, by rw [hv5, hsl], by rw [hsl]; exact hnc, hblk.setRow (by simp [hlen2]), by rw [← hcap]; simp [hlen2], hmax⟩⟩
      exact ⟨some (.o (.i (Nat.min ys.length (hi - lo) : Nat))), .o (.i (Nat.min ys.length (hi - lo) : Nat)), _, O, ρ, _, ⟨⟨_, rfl, rfl, rfl⟩, hrun⟩, g1, g2, hk⟩
  split at e <;> first | (cases e; done) | skip
  · rename_i s id hz hA
    rw [hv] at hA; cases hA
    split at e <;> first | (cases e; done) | skip
    rename_i E t xs hb
    split at e <;> first | (cases e; done) | skip
    rename_i hs
    obtain ⟨u, hu, ⟨h, h12, h13, _⟩, _⟩ := iopd_1 hE hG hv rfl (by simp) hF
    cases h13
    rw [nth_eq] at hb
    have hp : Part t.size h.v 0 xs.length h.v := by
      obtain ⟨h', es, h7, h8, h9, h10, h11⟩ := hM.th _ _ hb
      rw [h12] at h7; cases h7
      obtain ⟨b, cp, e2, hn, hcp⟩ := h11.rd.shape
      rw [e2]
      refine ⟨b, _, cp, b, cp, rfl, by simp, by omega, by omega, ?_⟩
      by_cases h0 : xs.length = 0
      · exact .inl h0
      · refine .inr ?_
        cases b with
        | none => exact absurd (hn rfl) h0
        | some ad => exact ⟨ad, rfl, by rw [Nat.zero_mul]; simp [Addr.add], by omega⟩
    have := torow (lo := 0) (hi := xs.length) hz hs hb h12 hu hp e
    obtain ⟨v, x, tb', O', ρ', w2, g1, g2, g3, g4⟩ := this
    exact ⟨v, x, tb', O', ρ', w2, g1, g2, g3.weak (fun i e => by subst e; simp [idsV]), g4⟩
  · rename_i s id lo hi hz hA
    rw [hv] at hA; cases hA
    split at e <;> first | (cases e; done) | skip
    rename_i E t xs hb
    split at e <;> first | (cases e; done) | skip
    rename_i hs
    obtain ⟨u, hu, ⟨h, u', h12, h13, hp⟩, _⟩ := iopd_1 hE hG hv rfl (by simp) hF
    cases h13
    rw [nth_eq] at hb
    have hp' : Part t.size h.v lo hi u := by
      obtain ⟨h', es, h7, h8, _⟩ := hM.th _ _ hb
      rw [h12] at h7; cases h7
      rw [h8, Ty.sz_size] at hp; exact hp
    have := torow hz hs hb h12 hu hp' e
    obtain ⟨v, x, tb', O', ρ', w2, g1, g2, g3, g4⟩ := this
    exact ⟨v, x, tb', O', ρ', w2, g1, g2, g3.weak (fun i e => by subst e; simp [idsV]), g4⟩
  · rename_i s id p lo hi hz hA
    rw [hv] at hA; cases hA
    split at e <;> first | (cases e; done) | skip
    rename_i bt v hb
    rw [nth_eq] at hb
    obtain ⟨u, hu, ⟨h, off, m, z, h1, h2, h3, u', hcs, hp⟩, _⟩ := iopd_1 hE hG hv rfl (by simp) hF
    cases hcs
    obtain ⟨h', cs, h4, h5, h6, h7, h8⟩ := hM.th _ _ hb
    rw [h1] at h4; cases h4
    rw [h6] at h2 h3
    obtain ⟨q, hk, h9, h10, h11⟩ := getP_R e h7 h2
    split at hk <;> first | (cases hk; done) | skip
    rename_i m' t xs
    rw [h3] at h11; cases h11
    split at hk <;> first | (cases hk; done) | skip
    rename_i hs
    have hs := Nat.eq_of_beq_eq_true hs
    subst hs
    rw [Ty.sz_size] at hp
    obtain ⟨ys, fs, d2, hk, hL, hu2, hd2, hlen, hfirst⟩ := srcI_ok hc hF hE hG hM hk
    have hfl := LR.length (fun _ _ => TR.length) hL
    have hcy : Nat.min ys.length (hi - lo) ≤ ys.length := Nat.min_le_left ..
    have hch : Nat.min ys.length (hi - lo) ≤ hi - lo := Nat.min_le_right ..
    have hff := hfirst w rfl _ hcy
    obtain ⟨b, nn, cp, b', cp', hv0, hu0, hlo, hhi, hor⟩ := hp
    cases hv0
    subst hu0
    simp only [IV.sz, Sz.size, Ty.sz_size] at h9 h10
    have h9' : LR (TR O t) xs.toList ((cs.drop off).take (m * t.size)) := h9
    have hLs := h9'.splice (fun _ _ => TR.length) hL (lo := lo) (q := Nat.min ys.length (hi - lo))
    have hfcl : (fs.take (Nat.min ys.length (hi - lo) * t.size)).length = Nat.min ys.length (hi - lo) * t.size := by
      rw [List.length_take, hfl]; exact Nat.min_eq_left (Nat.mul_le_mul_right _ hcy)
    have hb1 : lo * t.size + Nat.min ys.length (hi - lo) * t.size ≤ m * t.size := by
      rw [← Nat.add_mul]; exact Nat.mul_le_mul_right _ (by omega)
    have hnew : R O ρ false (.ar m t (vspl xs lo ys (Nat.min ys.length (hi - lo)))) (spl ((cs.drop off).take (m * t.size)) (lo * t.size) (fs.take (Nat.min ys.length (hi - lo) * t.size))) := by
      show LR _ _ _
      rw [vspl_toList (by omega) hcy]
      simp only [spl, hfcl, ← Nat.add_mul]; exact hLs
    obtain ⟨v', hk, h12, h13, h14⟩ := setP_R hnew hk h7 h2
    have hml : ((cs.drop off).take (m * t.size)).length = m * t.size := by rw [List.length_take, List.length_drop]; omega
    rw [spl_spl (by rw [hfcl]; exact hb1) h10] at h12
    have hone : ∀ u ∈ fs.take (Nat.min ys.length (hi - lo) * t.size), u.oneCell' = true := fun u hu => LR.one (fun _ _ => TR.one) hL u (List.mem_of_mem_take hu)
    have hle : off + lo * t.size + (fs.take (Nat.min ys.length (hi - lo) * t.size)).length ≤ cs.length := by rw [hfcl]; omega
    have hst := run_storeCells (P := P) _ (off + lo * t.size) 0 cs w h8 (by simpa using hle) hone
    simp only [Nat.add_zero] at hst
    have hrun : (execOp a.eval o).run P w = .ok (.value (vI (Nat.min ys.length (hi - lo) : Nat))) (w.setRow h.b (spl cs (off + lo * t.size) (fs.take (Nat.min ys.length (hi - lo) * t.size))).toArray) := by
      have empty : Nat.min ys.length (hi - lo) = 0 → w.setRow h.b (spl cs (off + lo * t.size) (fs.take (Nat.min ys.length (hi - lo) * t.size))).toArray = w ∧ fs.take (Nat.min ys.length (hi - lo) * t.size) = [] := fun h0 => by
        have hf0 : fs.take (Nat.min ys.length (hi - lo) * t.size) = [] := by rw [h0]; simp
        refine ⟨?_, hf0⟩
        rw [hf0]
        obtain ⟨fz, hh, _⟩ := h8
        have : spl cs (off + lo * t.size) [] = cs := by simp [spl]
        rw [this]; exact setRow_self w h.b _ bt fz hh
      refine run_copyG (P := P) hc ho hd hz hu (hlen w) hff (fun ad hb' => ?_) (fun hb' => ?_)
      · rcases hor with hor | ⟨ad', e1, e2, _⟩
        · obtain ⟨e3, e4⟩ := empty (by omega)
          rw [e3, e4]; rfl
        · cases e1
          rw [hb'] at e2; cases e2
          rw [add_zero _ rfl]; exact hst
      · refine (empty ?_).1
        rcases hor with hor | ⟨ad', _, e2, _⟩
        · omega
        · rw [hb'] at e2; cases e2
    obtain ⟨g1, g2⟩ := hM.set (x' := .blk bt v') (List.getElem?_eq_some_iff.1 hb).1 ((kept_setRow h.b _).wide (fun b' e => by subst e; exact h5))
      ⟨h, _, h1, h5, by rw [h6, h14], h12, h8.setRow (spl_len hle)⟩
    exact ⟨some (.o (.i (Nat.min ys.length (hi - lo) : Nat))), .o (.i (Nat.min ys.length (hi - lo) : Nat)), _, O, ρ, _, ⟨⟨_, rfl, rfl, rfl⟩, hrun⟩, g1, g2.weak (fun i e => by subst e; simp [idsV]), hk⟩

/-- A block that nobody changes is marked anew. -/
theorem Gm.mark {w' : World} {b : Nat} {all : List Value} (hM : Gm O ρ tb w) (hO : O b = .im all) (hs : w'.heap.size = w.heap.size) (hoth : ∀ b', b' ≠ b → w'.heap[b']? = w.heap[b']?) (hb : ∃ ty fz, w'.heap[b]? = some (.cells all.toArray ty fz)) : Gm O ρ tb w' := by
  refine ⟨fun b' all' e => ?_, fun b' h => hM.lt b' (hs ▸ h), hM.len, fun j x hx => ?_⟩
  · by_cases h : b' = b
    · subst h; rw [hO] at e; cases e; exact hb
    · rw [hoth b' h]; exact hM.im b' all' e
  · have old := hM.th j x hx
    cases x with
    | blk ty v =>
      obtain ⟨h, cs, h3, h4, h5, h6, h7⟩ := old
      exact ⟨h, cs, h3, h4, h5, h6, h7.same (hoth _ (fun e => by rw [e, hO] at h4; cases h4))⟩
    | row E t xs =>
      obtain ⟨h, es, h3, h4, h5, h6, h7⟩ := old
      exact ⟨h, es, h3, h4, h5, h6, Rs.same (r := .row E t.size h.v xs.length es) (fun b' hbb => hoth _ (fun e => by have := h5 b' hbb; rw [e, hO] at this; cases this)) h7⟩
    | fz t xs => exact old
    | no => trivial
    | mk =>
      obtain ⟨h, h3, h4, h5⟩ := old
      exact ⟨h, h3, h4, by rw [hoth _ (fun e => by rw [e, hO] at h4; cases h4)]; exact h5⟩

/-- []byte of a constant text: the translator lays a row and converts it to its own type. It is given up. -/
def wS2S {β : Type} (c : Cfg) (il : IEnv) (tb : Tbl) (k : Option IV → Tbl → Option β) (src dst : Nat) (x : Operand) : Option β :=
  match c.D src, Nat.beq src dst, iopd c il x with
  | some (.slice e), true, some (.rw id) => match c.D e, nth tb id with
    | some (.int .u8), some (.row E t xs) => match xs with
      | [] => none
      | x :: xs => k (some (.rw id)) (tb.set id (.fz t (x :: xs)))
    | _, _ => none
  | _, _, _ => none

theorem wS2S_ok {β : Type} {k : Option IV → Tbl → Option β} {r : β} (hc : COk P c) (hF : Fr n a l) (hE : ER O ρ il l) (hG : GO c O) (hM : Gm O ρ tb w) {src dst : Nat} {x : Operand} (ho : o.op = .convert src dst x) (e : wS2S c il tb k src dst x = some r) {v : IV} (hv : iopd c il x = some v) : WOk P a o O ρ w (· ∈ idsV v) k r := by
  unfold wS2S at e
  split at e <;> first | (cases e; done) | skip
  rename_i el id hd hsd hx
  have hsd := Nat.eq_of_beq_eq_true hsd
  subst hsd
  rw [hv] at hx; cases hx
  split at e <;> first | (cases e; done) | skip
  rename_i E t xs he hb
  split at e <;> first | (cases e; done) | skip
  rename_i x0 xs
  rw [nth_eq] at hb
  obtain ⟨sv, hy, hSR⟩ := iopd_ok hE hG hv
  have hSR0 := hSR
  obtain ⟨y0, rfl, u, rfl, hR⟩ := hSR
  have hu : a.eval x = u := opd_val hF hy
  obtain ⟨O', h, h1, g1, g2, g3, g4, g5⟩ := hM.frz hb
  obtain ⟨h', es, h1', h2, h3, h4, h5⟩ := hM.th _ _ hb
  rw [h1] at h1'; cases h1'
  have hR' := hR
  obtain ⟨h'', k1, k2, _⟩ := hR'
  rw [h1] at k1; cases k1
  simp only [List.cons.injEq, and_true] at k2
  obtain ⟨hl, h6⟩ := h5
  rcases h6 with ⟨_, h0⟩ | ⟨b, cap, sp, hv', hnc, ⟨fz, hh, hfz⟩, hcap, hmx⟩
  · simp at h0
  have hblt : b < w.heap.size := (Array.getElem?_eq_some_iff.1 hh).1
  have hshape : w.shape? b = some (E, (es ++ sp).length) := by simp [World.shape?, hh]
  have hOb : O' b = .im (es ++ sp) := by
    obtain ⟨u2, es2, e1, e2, e3⟩ := g3
    simp only [List.cons.injEq, and_true] at e1
    subst e1
    rcases e3 with ⟨e3, _⟩ | ⟨b2, off, cp, e3, _, all, e4, _⟩
    · simp at e3
    · rw [hv'] at e3; cases e3
      obtain ⟨ty2, fz2, hh2⟩ := g1.im b all e4
      rw [hh] at hh2
      injection hh2 with hh2
      injection hh2 with hh2
      rw [e4]; simpa using (congrArg Array.toList hh2).symm
  have hfr : ∀ m : Nat, ∃ fz', (w.freeze ⟨b, m, none⟩ 1).heap = w.heap.modify b (fun _ => .cells (es ++ sp).toArray E fz') := fun m => by
    refine ⟨if fz.1 == fz.2 then (m, m + 1) else (min fz.1 m, max fz.2 (m + 1)), ?_⟩
    unfold World.freeze
    rw [if_neg (by decide)]
    apply Array.ext
    · simp
    · intro i h1 h2
      simp only [Array.getElem_modify]
      by_cases hi : b = i
      · subst hi
        have : w.heap[b]'hblt = .cells (es ++ sp).toArray E fz := by
          rw [Array.getElem?_eq_getElem hblt] at hh; injection hh
        simp [this]
      · simp [hi]
  obtain ⟨fz', hfr⟩ := hfr (es ++ sp).length
  have hrun : (execOp a.eval o).run P w = .ok (.value (SV.o (.v u)).val) (w.freeze ⟨b, (es ++ sp).length, none⟩ 1) := by
    simp only [execOp, ho, hu]
    have hyv : (SV.o (.v u)).val = u := rfl
    rw [hyv, k2, hv']
    have : (convert src src (.slice (some ⟨b, 0, none⟩) (x0 :: xs).length cap)).run P w = .ok (.slice (some ⟨b, 0, none⟩) (x0 :: xs).length cap) (w.freeze ⟨b, (es ++ sp).length, none⟩ 1) := by
      simp [convert, run_underlying (hc.tok.desc _ _ hd), run_underlying (hc.tok.desc _ _ he), markStringish, hshape]
    simp only [Sem.run_bind, this, Result.andThen_ok]
    rfl
  have hoth : ∀ b', b' ≠ b → (w.freeze ⟨b, (es ++ sp).length, none⟩ 1).heap[b']? = w.heap[b']? := fun b' hb' => by
    rw [hfr, Array.getElem?_modify]; simp [Ne.symm hb']
  refine ⟨some (.rw id), .o (.v u), _, O', ρ, _, ⟨SR.mono g2.im g2.pre hSR0, hrun⟩, g1.mark hOb (by rw [hfr]; simp) hoth ⟨E, fz', by rw [hfr, Array.getElem?_modify]; simp [hh]⟩, ?_, e⟩
  · refine ⟨g2.pre, g2.im, g2.no, fun b' j hb' ho' hn => g2.own b' j hb' ho' (fun e => hn (by subst e; simp [idsV])), ⟨rfl, rfl, rfl, by rw [hfr]; simp, fun b' hb' hn => hoth b' (fun e => hn ⟨id, by simp [idsV], by rw [e]; exact h3 b (by rw [hv']; rfl)⟩)⟩⟩

def wConv {β : Type} (c : Cfg) (il : IEnv) (tb : Tbl) (k : Option IV → Tbl → Option β) (src dst : Nat) (x : Operand) : Option β :=
  match c.D src with
  | some (.slice _) => wS2S c il tb k src dst x
  | _ => wS2B c il tb k src dst x

/- ## all of them -/
def wOp {β : Type} (c : Cfg) (il : IEnv) (tb : Tbl) (k : Option IV → Tbl → Option β) : Op → Option β
  | .alloc t => wAl c tb k t
  | .box t x => wBox c il tb k t x
  | .store t x y => wSt c il tb k t x y
  | .makeSlice t x y => wMk c il tb k t x y
  | .buildSlice t len ps => wLit c il tb k t len ps.toList
  | .convert src dst x => wConv c il tb k src dst x
  | .call cl => match cl.callee, cl.args.toList, cl.argTypes.toList with
    | .builtin .append, [A, B], [ty, ty2] => wApp c il tb k ty ty2 A B
    | .builtin .copy, [A, B], [ty, ty2] => wCp c il tb k ty ty2 A B
    | _, _, _ => none
  | _ => none

/-- The things that an operation may change. -/
def wIds (c : Cfg) (il : IEnv) : Op → List Nat
  | .buildSlice _ _ ps => litIds c il ps.toList
  | .store _ x _ => match iopd c il x with
    | some v => idsV v
    | none => []
  | .convert _ _ x => match iopd c il x with
    | some v => idsV v
    | none => []
  | .call cl => match cl.args.toList with
    | A :: _ => match iopd c il A with
      | some v => idsV v
      | none => []
    | [] => []
  | _ => []

theorem WOk.weak {β : Type} {k : Option IV → Tbl → Option β} {r : β} {M M' : Nat → Prop} (h : ∀ i, M i → M' i) (H : WOk P a o O ρ w M k r) : WOk P a o O ρ w M' k r := by
  obtain ⟨v, x, tb', O', ρ', w2, g1, g2, g3, g4⟩ := H
  exact ⟨v, x, tb', O', ρ', w2, g1, g2, g3.weak h, g4⟩

theorem wOp_ok {β : Type} {k : Option IV → Tbl → Option β} {r : β} (hc : COk P c) (hF : Fr n a l) (hE : ER O ρ il l) (hG : GO c O) (hM : Gm O ρ tb w) (e : wOp c il tb k o.op = some r) : WOk P a o O ρ w (· ∈ wIds c il o.op) k r := by
  cases ho : o.op <;> rw [ho] at e <;> simp only [wOp] at e <;> first | (cases e; done) | skip
  case alloc t => exact (wAl_ok hc hM ho e).weak (fun _ h => h.elim)
  case box t x => exact (wBox_ok hF hE hG hM ho e).weak (fun _ h => h.elim)
  case store t x y =>
    cases hx : iopd c il x with
    | none => exfalso; unfold wSt at e; simp only [hx] at e; split at e <;> first | (cases e; done) | skip; split at e <;> cases e
    | some v => have := wSt_ok hc hF hE hG hM ho e hx; simpa only [wIds, hx] using this
  case makeSlice t x y => exact (wMk_ok hc hF hE hG hM ho e).weak (fun _ h => h.elim)
  case buildSlice t len ps => exact wLit_ok hc hF hE hG hM ho e
  case convert src dst x =>
    unfold wConv at e
    split at e
    · cases hx : iopd c il x with
      | none => exfalso; unfold wS2S at e; simp only [hx] at e; split at e <;> first | (cases e; done) | (rename_i h; cases h)
      | some v => have := wS2S_ok hc hF hE hG hM ho e hx; simpa only [wIds, hx] using this
    · exact (wS2B_ok hc hF hE hG hM ho e).weak (fun _ h => h.elim)
  case call cl =>
    obtain ⟨callee, args, ts⟩ := cl
    simp only at e
    split at e <;> first | (cases e; done) | skip
    · rename_i A B ty ty2 ha hts
      have ha := arr_of_toList ha
      have hts := arr_of_toList hts
      subst ha hts
      cases hx : iopd c il A with
      | none => exfalso; unfold wApp at e; simp only [hx] at e; split at e <;> first | (cases e; done) | skip; split at e <;> cases e
      | some v => have := wApp_ok hc hF hE hG hM ho e hx; simpa only [wIds, hx] using this
    · rename_i A B ty ty2 ha hts
      have ha := arr_of_toList ha
      have hts := arr_of_toList hts
      subst ha hts
      cases hx : iopd c il A with
      | none => exfalso; unfold wCp at e; simp only [hx] at e; split at e <;> first | (cases e; done) | skip; split at e <;> first | (cases e; done) | (rename_i h; cases h)
      | some v => have := wCp_ok hc hF hE hG hM ho e hx; simpa only [wIds, hx] using this
end
end Go.Tw
/- Shapes: what values and tables look like, their leaves, and how a state is read as one of a shape. No program is in it. -/
namespace Go.Tw
set_option linter.unusedSimpArgs false
set_option linter.unusedVariables false

inductive Sh where
  | i
  | u8
  | u32
  | u64
  | bo
  | str
  | ns
  | np
  | nf
  | ro (t : Ty)
  | rw (j : Nat)
  | rp (j : Nat)
  | pt (j : Nat) (p : List Nat)
  | ap (j : Nat) (p : List Nat)
  | fn (f : Nat) (a c : Sh)
  | un
  | pr (a b : Sh)
  | ar (n : Nat) (t : Ty)
  | ud
  | re (t : Ty)

@[reducible] def Sh.den : Sh → Type
  | .i => Int
  | .u8 => UInt8
  | .u32 => UInt32
  | .u64 => UInt64
  | .bo => Bool
  | .str => List UInt8
  | .ro t => List t.den
  | .rp _ => Nat × Nat
  | .ap _ _ => Nat × Nat
  | .fn _ a c => a.den × c.den
  | .pr a b => a.den × b.den
  | .ar n t => Vector t.den n
  | .re t => t.den
  | .ns => Unit
  | .np => Unit
  | .nf => Unit
  | .rw _ => Unit
  | .pt _ _ => Unit
  | .un => Unit
  | .ud => Unit

def enc : (s : Sh) → s.den → IV
  | .i, x => .o (.i x)
  | .u8, x => .o (.u8 x)
  | .u32, x => .o (.u32 x)
  | .u64, x => .o (.u64 x)
  | .bo, x => .o (.b x)
  | .str, x => .o (.s x)
  | .ns, _ => .o (.v (.slice none 0 0))
  | .np, _ => .o (.v (.pointer none))
  | .nf, _ => .o (.v .nilFunc)
  | .ro t, x => .ro t x
  | .rw j, _ => .rw j
  | .rp j, x => .rp j x.1 x.2
  | .pt j p, _ => .pt j p
  | .ap j p, x => .ap j p x.1 x.2
  | .fn f a c, x => .fn f (enc a x.1) (enc c x.2)
  | .un, _ => .un
  | .pr a b, x => .pr (enc a x.1) (enc b x.2)
  | .ar n t, x => .ar n t x
  | .ud, _ => .ud
  | .re t, x => .re t x

inductive TSh where
  | blk (ty : TypeId) (s : Sh)
  | row (E : TypeId) (t : Ty)
  | fz (t : Ty)
  | no

@[reducible] def TSh.den : TSh → Type
  | .blk _ s => s.den
  | .row _ t => List t.den
  | .fz t => List t.den
  | .no => Unit

def encT : (s : TSh) → s.den → Thing
  | .blk ty s, x => .blk ty (enc s x)
  | .row E t, x => .row E t x
  | .fz t, x => .fz t x
  | .no, _ => .no

@[reducible] def dens : List Sh → Type
  | [] => Unit
  | s :: r => s.den × dens r

@[reducible] def tdens : List TSh → Type
  | [] => Unit
  | s :: r => s.den × tdens r

def encs : (ss : List Sh) → dens ss → List IV
  | [], _ => []
  | s :: r, x => enc s x.1 :: encs r x.2

def encTs : (ss : List TSh) → tdens ss → Tbl
  | [], _ => []
  | s :: r, x => encT s x.1 :: encTs r x.2

theorem encs_len : ∀ {ss : List Sh} {x : dens ss}, (encs ss x).length = ss.length
  | [], _ => rfl
  | _ :: _, _ => by simp [encs, encs_len]
theorem encTs_len : ∀ {ss : List TSh} {x : tdens ss}, (encTs ss x).length = ss.length
  | [], _ => rfl
  | _ :: _, _ => by simp [encTs, encTs_len]

/-- Where a reading stands: which thing of the table each number of the shape stands for; the table; what is lent. -/
structure Un where
  bd : List Nat
  tb : Tbl
  lt : List Nat

def idx : List Nat → Nat → Option Nat
  | [], _ => none
  | x :: r, i => match Nat.beq x i with
    | true => some 0
    | false => match idx r i with
      | some j => some (j + 1)
      | none => none

theorem idx_some : ∀ {l : List Nat} {i j : Nat}, idx l i = some j → l[j]? = some i
  | [], i, j, h => by simp [idx] at h
  | x :: r, i, j, h => by
    simp only [idx] at h
    split at h
    · rename_i e; cases h; simp [Nat.eq_of_beq_eq_true e]
    · split at h
      · rename_i k hk; cases h; simpa using idx_some hk
      · cases h

theorem idx_none : ∀ {l : List Nat} {i : Nat}, idx l i = none → i ∉ l
  | [], i, h => by simp
  | x :: r, i, h => by
    simp only [idx] at h
    split at h
    · cases h
    · rename_i e
      split at h
      · cases h
      · rename_i hn
        have := idx_none hn
        simp only [List.mem_cons, not_or]
        exact ⟨fun hh => by subst hh; simp at e, this⟩

theorem idx_of_get : ∀ {l : List Nat} {i j : Nat}, l.Nodup → l[j]? = some i → idx l i = some j
  | [], i, j, _, h => by simp at h
  | x :: r, i, 0, _, h => by simp at h; subst h; simp [idx]
  | x :: r, i, j + 1, hn, h => by
    simp at h
    rw [List.nodup_cons] at hn
    have hne : x ≠ i := fun e => hn.1 (by subst e; exact List.mem_of_getElem? h)
    have hb : Nat.beq x i = false := by
      cases hb : Nat.beq x i with
      | false => rfl
      | true => exact absurd (Nat.eq_of_beq_eq_true hb) hne
    simp only [idx, hb, idx_of_get hn.2 h]

/-- Number j of the shape stands for id. -/
def bindU {β : Type} (j id : Nat) (u : Un) (k : Un → Option β) : Option β :=
  match nth u.bd j with
  | some id' => match Nat.beq id' id with
    | true => k u
    | false => none
  | none => match Nat.beq j u.bd.length, idx u.bd id with
    | true, none => match nth u.tb id with
      | some _ => k { u with bd := u.bd ++ [id] }
      | none => none
    | _, _ => none

def eqL : List Nat → List Nat → Bool
  | [], [] => true
  | x :: r, y :: q => Nat.beq x y && eqL r q
  | _, _ => false

theorem eqL_eq : ∀ {a b : List Nat}, eqL a b = true → a = b
  | [], [], _ => rfl
  | [], _ :: _, h => by simp [eqL] at h
  | _ :: _, [], h => by simp [eqL] at h
  | x :: r, y :: q, h => by
    simp only [eqL, Bool.and_eq_true] at h
    rw [Nat.eq_of_beq_eq_true h.1, eqL_eq h.2]

/-- A row of the table becomes one that nobody changes. -/
def freeze {β : Type} (t : Ty) (id : Nat) (u : Un) (k : List t.den → Un → Option β) : Option β :=
  match nth u.tb id with
  | some (.row _ t' xs) => match castR (Ty.eq? t' t) xs, idx u.bd id with
    | some xs, none => k xs { u with tb := u.tb.set id (.fz t xs) }
    | _, _ => none
  | some (.fz t' xs) => match castR (Ty.eq? t' t) xs with
    | some xs => k xs u
    | none => none
  | _ => none

/-- The value as one of a shape. md: slices may be lent (true), or must be given up (false). -/
def uV {β : Type} (md : Bool) (ts : List TSh) : (s : Sh) → IV → Un → (s.den → Un → Option β) → Option β
  | .i, v, u, k => match v.asI with
    | some x => k x u
    | none => none
  | .u8, v, u, k => match v.asU8 with
    | some x => k x u
    | none => none
  | .u32, v, u, k => match v.asU32 with
    | some x => k x u
    | none => none
  | .u64, v, u, k => match v.asU64 with
    | some x => k x u
    | none => none
  | .bo, v, u, k => match v.asB with
    | some x => k x u
    | none => none
  | .str, v, u, k => match v.asS with
    | some x => k x u
    | none => none
  | .ns, v, u, k => match v.asNil with
    | true => k () u
    | false => none
  | .np, v, u, k => match v with
    | .o (.v (.pointer none)) => k () u
    | _ => none
  | .nf, v, u, k => match v with
    | .o (.v .nilFunc) => k () u
    | _ => none
  | .re t, v, u, k => match v with
    | .re t' x => match toP t (ofP t' x) with
      | some y => k y u
      | none => none
    | .pt id p => match md with
      | true => match nth u.tb id with
        | some (.blk _ v0) => getP (fun z => match toP t z with
          | some y => k y { u with lt := id :: u.lt }
          | none => none) p v0
        | _ => none
      | false => none
    | _ => none
  | .ro t, v, u, k => match md with
    | true => match v with
      | .ro t' xs => match castR (Ty.eq? t' t) xs with
        | some xs => k xs u
        | none => none
      | v => match v.agg with
        | false => cont t u.tb v fun xs => k xs { u with lt := idsV v ++ u.lt }
        | true => none
    | false => match v with
      | .ro t' xs => match castR (Ty.eq? t' t) xs with
        | some xs => k xs u
        | none => none
      | .rw id => freeze t id u k
      | .rp id lo hi => freeze t id u fun xs u => k ((xs.drop lo).take (hi - lo)) u
      | v => match v.asNil with
        | true => k [] u
        | false => none
  | .rw j, v, u, k => match v with
    | .rw id => bindU j id u (k ())
    | v => match v.asNil, nth ts j with
      | true, some (.row E t) => bindU j u.tb.length { u with tb := u.tb ++ [.row E t []] } (k ())
      | _, _ => none
  | .rp j, v, u, k => match v with
    | .rp id lo hi => bindU j id u (k (lo, hi))
    | .rw id => match nth u.tb id with
      | some (.row _ _ xs) => bindU j id u (k (0, xs.length))
      | _ => none
    | v => match v.asNil, nth u.bd j with
      | true, some id => match nth u.tb id with
        | some (.row _ _ xs) => bindU j id u (k (0, 0))
        | _ => none
      | _, _ => none
  | .pt j p, v, u, k => match v with
    | .pt id p' => match eqL p' p with
      | true => bindU j id u (k ())
      | false => none
    | _ => none
  | .ap j p, v, u, k => match v with
    | .ap id p' lo hi => match eqL p' p with
      | true => bindU j id u (k (lo, hi))
      | false => none
    | _ => none
  | .fn f a c, v, u, k => match v with
    | .fn f' a' c' => match Nat.beq f f' with
      | true => uV md ts a a' u fun x u => uV md ts c c' u fun y u => k (x, y) u
      | false => none
    | _ => none
  | .un, v, u, k => match v with
    | .un => k () u
    | _ => none
  | .pr a b, v, u, k => match v with
    | .pr a' b' => uV md ts a a' u fun x u => uV md ts b b' u fun y u => k (x, y) u
    | _ => none
  | .ar n t, v, u, k => match v.asAr n t with
    | some xs => k xs u
    | none => none
  | .ud, v, u, k => match v.agg with
    | true => none
    | false => k () u

def uVs {β : Type} (md : Bool) (ts : List TSh) : (ss : List Sh) → List IV → Un → (dens ss → Un → Option β) → Option β
  | [], [], u, k => k () u
  | s :: r, v :: vs, u, k => uV md ts s v u fun x u => uVs md ts r vs u fun y u => k (x, y) u
  | _, _, _, _ => none

def uT {β : Type} (md : Bool) (ts : List TSh) (s : TSh) (x : Thing) (u : Un) (k : s.den → Un → Option β) : Option β :=
  match s with
  | .blk ty s => match x with
    | .blk ty' v => match Nat.beq ty ty' with
      | true => uV md ts s v u k
      | false => none
    | _ => none
  | .row E t => match x with
    | .row E' t' xs => match Nat.beq E E', castR (Ty.eq? t' t) xs with
      | true, some xs => k xs u
      | _, _ => none
    | _ => none
  | .fz t => match x with
    | .fz t' xs => match castR (Ty.eq? t' t) xs with
      | some xs => k xs u
      | none => none
    | _ => none
  | .no => k () u

/-- The things of the table, from number j on. -/
def uTs {β : Type} (md : Bool) (ts : List TSh) : (j : Nat) → (ss : List TSh) → Un → (tdens ss → Un → Option β) → Option β
  | _, [], u, k => k () u
  | j, s :: r, u, k => match nth u.bd j with
    | some id => match nth u.tb id with
      | some x => uT md ts s x u fun x u => uTs md ts (j + 1) r u fun y u => k (x, y) u
      | none => none
    | none => none

def apart : List Nat → List Nat → Bool
  | [], _ => true
  | x :: r, l => match idx l x with
    | none => apart r l
    | some _ => false

theorem apart_ok : ∀ {a b : List Nat}, apart a b = true → ∀ i, i ∈ a → i ∉ b
  | [], b, _, i, h => by simp at h
  | x :: r, b, e, i, h => by
    simp only [apart] at e
    split at e
    · rename_i hn
      rcases List.mem_cons.1 h with h | h
      · subst h; exact idx_none hn
      · exact apart_ok e i h
    · cases e

/-- A state as one of a shape: bd, the things that have their numbers already. -/
def uni {β : Type} (md : Bool) (ss : List Sh) (ts : List TSh) (bd : List Nat) (vs : List IV) (tb : Tbl) (k : dens ss → tdens ts → Un → Option β) : Option β :=
  uVs md ts ss vs ⟨bd, tb, []⟩ fun x u => uTs md ts 0 ts u fun y u =>
    match Nat.beq u.bd.length ts.length, apart u.lt u.bd with
    | true, true => k x y u
    | _, _ => none

/- ## what it means -/
section
variable {O : Own} {ρ : List Hd} {w : World}

/-- The owners as the shape counts them. -/
def Oc (bd lt : List Nat) (O : Own) (w : World) : Own := fun b => match O b with
  | .im all => .im all
  | .no => .no
  | .th id => match idx bd id with
    | some j => .th j
    | none => match idx lt id with
      | some _ => match w.heap[b]? with
        | some (.cells a _ _) => .im a.toList
        | _ => .no
      | none => .no

/-- The places as the shape counts them. -/
def Mt (bd : List Nat) (ρ ρ₂ : List Hd) : Prop := ∀ (j id : Nat) (h : Hd), bd[j]? = some id → ρ[id]? = some h → ρ₂[j]? = some h

/-- Some steps of a reading: the world stays. -/
structure Gh (M : Nat → Prop) (O : Own) (ρ : List Hd) (u : Un) (O' : Own) (ρ' : List Hd) (u' : Un) (w : World) : Prop where
  gm : Gm O' ρ' u'.tb w
  stp : Stp M O ρ w O' ρ' w
  bd : ∃ more, u'.bd = u.bd ++ more
  lt : ∀ i, i ∈ u.lt → i ∈ u'.lt
  nd : u.bd.Nodup → u'.bd.Nodup
  own : ∀ b id, id ∈ u.bd → O b = .th id → O' b = .th id
  in_ : (∀ i, i ∈ u.bd → i < u.tb.length) → ∀ i, i ∈ u'.bd → i < u'.tb.length
  len : u.tb.length ≤ u'.tb.length

theorem Gh.refl {M : Nat → Prop} {u : Un} (h : Gm O ρ u.tb w) : Gh M O ρ u O ρ u w :=
  ⟨h, .refl _ _ _ _, ⟨[], by simp⟩, fun _ h => h, fun h => h, fun _ _ _ h => h, fun h => h, Nat.le_refl _⟩

theorem Gh.trans {M : Nat → Prop} {O1 O2 : Own} {ρ1 ρ2 : List Hd} {u u1 u2 : Un} (h : Gh M O ρ u O1 ρ1 u1 w) (k : Gh M O1 ρ1 u1 O2 ρ2 u2 w) : Gh M O ρ u O2 ρ2 u2 w := by
  obtain ⟨m1, e1⟩ := h.bd
  obtain ⟨m2, e2⟩ := k.bd
  exact ⟨k.gm, h.stp.trans k.stp, ⟨m1 ++ m2, by rw [e2, e1, List.append_assoc]⟩, fun i hi => k.lt i (h.lt i hi), fun hn => k.nd (h.nd hn),
    fun b id hi e => k.own b id (by rw [e1]; exact List.mem_append_left _ hi) (h.own b id hi e), fun hh => k.in_ (h.in_ hh), Nat.le_trans h.len k.len⟩

/-- The owners later, seen by the shape's numbers, know all that is known now. -/
structure Fut (u' : Un) (O' : Own) (ρ' : List Hd) (w : World) (O₂ : Own) (ρ₂ : List Hd) : Prop where
  le : O'.le O₂
  mt : Mt u'.bd ρ' ρ₂
  lent : ∀ b id a ty fz, id ∈ u'.lt → O' b = .th id → w.heap[b]? = some (.cells a ty fz) → O₂ b = .im a.toList

theorem Fut.back {M : Nat → Prop} {O1 : Own} {ρ1 : List Hd} {u u1 : Un} {O₂ : Own} {ρ₂ : List Hd} (g : Gh M O ρ u O1 ρ1 u1 w) (hl : ∀ b id, id ∈ u.lt → O b = .th id → O1 b = .th id) (F : Fut u1 O1 ρ1 w O₂ ρ₂) : Fut u O ρ w O₂ ρ₂ := by
  obtain ⟨m, e⟩ := g.bd
  refine ⟨g.stp.im.trans F.le, fun j id h hj hh => F.mt j id h ?_ (g.stp.pre _ _ hh), fun b id a ty fz hi ho => F.lent b id a ty fz (g.lt id hi) (hl b id hi ho)⟩
  rw [e, List.getElem?_append_left (List.getElem?_eq_some_iff.1 hj).1]; exact hj
end
end Go.Tw
/- A state that is read as one of a shape stands for what the shape says. No program is in it. -/
namespace Go.Tw
set_option linter.unusedSimpArgs false
set_option linter.unusedVariables false
section
variable {O : Own} {ρ : List Hd} {w : World} {md : Bool} {ts : List TSh}

theorem bindU_ok {β : Type} {M : Nat → Prop} {j id : Nat} {u : Un} {k : Un → Option β} {r : β} (e : bindU j id u k = some r) (hM : Gm O ρ u.tb w) (hid : id < u.tb.length) :
    ∃ u', k u' = some r ∧ Gh M O ρ u O ρ u' w ∧ u'.bd[j]? = some id ∧ u'.lt = u.lt ∧ u'.tb = u.tb := by
  unfold bindU at e
  split at e
  · rename_i id' hj
    rw [nth_eq] at hj
    split at e <;> first | (cases e; done) | skip
    rename_i hb
    have := Nat.eq_of_beq_eq_true hb
    subst this
    exact ⟨u, e, .refl hM, hj, rfl, rfl⟩
  · rename_i hj
    split at e <;> first | (cases e; done) | skip
    rename_i hjl hidx
    have hjl := Nat.eq_of_beq_eq_true hjl
    split at e <;> first | (cases e; done) | skip
    have hni := idx_none hidx
    refine ⟨_, e, ⟨hM, .refl _ _ _ _, ⟨[id], rfl⟩, fun _ h => h, fun hn => ?_, fun _ _ _ h => h, fun hh i hi => ?_, Nat.le_refl _⟩, by subst hjl; simp, rfl, rfl⟩
    · rw [List.nodup_append]
      exact ⟨hn, by simp, fun a ha b hb => by simp at hb; subst hb; intro e; subst e; exact hni ha⟩
    · rcases List.mem_append.1 hi with hi | hi
      · exact hh i hi
      · simp at hi; subst hi; exact hid

theorem freeze_ok {β : Type} {t : Ty} {id : Nat} {u : Un} {k : List t.den → Un → Option β} {r : β} (e : freeze t id u k = some r) (hM : Gm O ρ u.tb w) : ∃ xs u' O' h, k xs u' = some r ∧ Gh (fun _ => True) O ρ u O' ρ u' w ∧ u'.lt = u.lt ∧ ρ[id]? = some h ∧ TR O' (.sl t) xs [h.v] ∧ h.z = t.sz := by
  unfold freeze at e
  split at e <;> first | (cases e; done) | skip
  · rename_i E t' xs hb
    split at e <;> first | (cases e; done) | skip
    rename_i xs' hcast hidx
    obtain ⟨e1, he1⟩ := castR_ok hcast
    subst e1
    have he1 : xs' = xs := he1
    subst he1
    rw [nth_eq] at hb
    obtain ⟨O', h, h1, g1, g2, hT, hoth, hz⟩ := hM.frz hb
    have hni := idx_none hidx
    refine ⟨xs', _, O', h, e, ⟨g1, g2.weak (fun _ _ => trivial), ⟨[], by simp⟩, fun _ h => h, fun h => h, fun b j hj e => hoth b j (fun ee => by subst ee; exact hni hj) e, fun hh i hi => by simpa using hh i hi, by simp⟩, rfl, h1, hT, hz⟩
  · rename_i t' xs hb
    split at e <;> first | (cases e; done) | skip
    rename_i xs' hcast
    obtain ⟨e1, he1⟩ := castR_ok hcast
    subst e1
    have he1 : xs' = xs := he1
    subst he1
    rw [nth_eq] at hb
    obtain ⟨h, h1, h2, hT⟩ := hM.th _ _ hb
    exact ⟨xs', u, O, h, e, .refl hM, rfl, h1, hT, h2⟩

/-- What a reading of a value comes to. -/
def UOk {β : Type} (O : Own) (ρ : List Hd) (w : World) (md : Bool) (s : Sh) (v : IV) (u : Un) (ch : Bool) (cs : List Value) (k : s.den → Un → Option β) (r : β) : Prop :=
  ∃ x u' O' ρ', k x u' = some r ∧ Gh (fun _ => md = false) O ρ u O' ρ' u' w ∧ (md = false → u'.lt = u.lt) ∧ (enc s x).sz = v.sz ∧ ∀ O₂ ρ₂, Fut u' O' ρ' w O₂ ρ₂ → R O₂ ρ₂ ch (enc s x) cs

theorem UOk.stay {β : Type} {s : Sh} {v : IV} {u : Un} {ch : Bool} {cs : List Value} {k : s.den → Un → Option β} {r : β} (x : s.den) (hM : Gm O ρ u.tb w) (hk : k x u = some r) (hz : (enc s x).sz = v.sz) (h : ∀ O₂ ρ₂, Fut u O ρ w O₂ ρ₂ → R O₂ ρ₂ ch (enc s x) cs) : UOk O ρ w md s v u ch cs k r :=
  ⟨x, u, O, ρ, hk, .refl hM, fun _ => rfl, hz, h⟩

theorem R.true_of {v : IV} {cs : List Value} (h : R O ρ true v cs) : v = .un ∨ ∃ a b, v = .pr a b := by
  cases v <;> first | exact .inl rfl | exact .inr ⟨_, _, rfl⟩ | exact h.elim

theorem agg_of_sz {v u : IV} (h : v.sz = u.sz) : v.agg = u.agg := by cases v <;> cases u <;> first | rfl | (simp [IV.sz] at h)

theorem bd_ρ {u u' : Un} {M : Nat → Prop} {O' : Own} {ρ' : List Hd} (g : Gh M O ρ u O' ρ' u' w) {j id : Nat} (h : u.bd[j]? = some id) : u'.bd[j]? = some id := by
  obtain ⟨m, e⟩ := g.bd
  rw [e, List.getElem?_append_left (List.getElem?_eq_some_iff.1 h).1]; exact h

theorem lent_own {O1 O2 : Own} {ρ1 ρ2 : List Hd} {u1 u2 : Un} (g1 : Gm O1 ρ1 u1.tb w) (g2 : Gh (fun _ => md = false) O1 ρ1 u1 O2 ρ2 u2 w) (hmd : md = false → u1.lt = []) : ∀ b id, id ∈ u1.lt → O1 b = .th id → O2 b = .th id := by
  intro b id hi ho
  cases md with
  | true => exact g2.stp.own b id (by
      rcases Nat.lt_or_ge b w.heap.size with h' | h'
      · exact h'
      · rw [g1.lt b h'] at ho; cases ho) ho (fun h => by cases h)
  | false => rw [hmd rfl] at hi; simp at hi

theorem uV_ok {β : Type} : ∀ {s : Sh} {v : IV} {u : Un} {k : s.den → Un → Option β} {r : β} {ch : Bool} {cs : List Value} {O : Own} {ρ : List Hd}, uV md ts s v u k = some r → Gm O ρ u.tb w → R O ρ ch v cs → (md = false → u.lt = []) → UOk O ρ w md s v u ch cs k r := by
  have notch : ∀ {v : IV} {ch : Bool} {cs : List Value} {O : Own} {ρ : List Hd}, R O ρ ch v cs → (v = .un → False) → (∀ a b, v = .pr a b → False) → ch = false := fun {v ch cs O ρ} h h1 h2 => by
    cases ch with
    | false => rfl
    | true =>
      rcases R.true_of h with h | ⟨a, b, h⟩
      · exact (h1 h).elim
      · exact (h2 a b h).elim
  intro s
  induction s with
  | i =>
    intro v u k r ch cs O ρ e hM hR hmd
    simp only [uV] at e
    split at e <;> first | (cases e; done) | skip
    rename_i x hx
    have hv := as_o.1 x hx
    subst hv
    exact UOk.stay x hM e rfl (fun O₂ ρ₂ _ => by cases ch <;> exact hR)
  | u8 =>
    intro v u k r ch cs O ρ e hM hR hmd
    simp only [uV] at e
    split at e <;> first | (cases e; done) | skip
    rename_i x hx
    have hv := as_o.2.1 x hx
    subst hv
    exact UOk.stay x hM e rfl (fun O₂ ρ₂ _ => by cases ch <;> exact hR)
  | u32 =>
    intro v u k r ch cs O ρ e hM hR hmd
    simp only [uV] at e
    split at e <;> first | (cases e; done) | skip
    rename_i x hx
    have hv := as_o.2.2.1 x hx
    subst hv
    exact UOk.stay x hM e rfl (fun O₂ ρ₂ _ => by cases ch <;> exact hR)
  | u64 =>
    intro v u k r ch cs O ρ e hM hR hmd
    simp only [uV] at e
    split at e <;> first | (cases e; done) | skip
    rename_i x hx
    have hv := as_o.2.2.2.1 x hx
    subst hv
    exact UOk.stay x hM e rfl (fun O₂ ρ₂ _ => by cases ch <;> exact hR)
  | bo =>
    intro v u k r ch cs O ρ e hM hR hmd
    simp only [uV] at e
    split at e <;> first | (cases e; done) | skip
    rename_i x hx
    have hv := as_o.2.2.2.2.1 x hx
    subst hv
    exact UOk.stay x hM e rfl (fun O₂ ρ₂ _ => by cases ch <;> exact hR)
  | str =>
    intro v u k r ch cs O ρ e hM hR hmd
    simp only [uV] at e
    split at e <;> first | (cases e; done) | skip
    rename_i x hx
    have hv := as_o.2.2.2.2.2 x hx
    subst hv
    exact UOk.stay x hM e rfl (fun O₂ ρ₂ _ => by cases ch <;> exact hR)
  | ns =>
    intro v u k r ch cs O ρ e hM hR hmd
    simp only [uV] at e
    split at e <;> first | (cases e; done) | skip
    rename_i hx
    have hv := asNil_eq hx
    subst hv
    exact UOk.stay () hM e rfl (fun O₂ ρ₂ _ => by cases ch <;> exact hR)
  | np =>
    intro v u k r ch cs O ρ e hM hR hmd
    simp only [uV] at e
    split at e <;> first | (cases e; done) | skip
    exact UOk.stay () hM e rfl (fun O₂ ρ₂ _ => by cases ch <;> exact hR)
  | nf =>
    intro v u k r ch cs O ρ e hM hR hmd
    simp only [uV] at e
    split at e <;> first | (cases e; done) | skip
    exact UOk.stay () hM e rfl (fun O₂ ρ₂ _ => by cases ch <;> exact hR)
  | re t =>
    intro v u k r ch cs O ρ e hM hR hmd
    simp only [uV] at e
    split at e <;> first | (cases e; done) | skip
    · rename_i t' x
      have hch := notch hR (by simp) (by simp)
      subst hch
      split at e <;> first | (cases e; done) | skip
      rename_i y hy
      obtain ⟨b, off, c, rfl, h2, all, h3, h4⟩ := hR
      exact UOk.stay y hM e rfl (fun O₂ ρ₂ F => ⟨b, off, c, rfl, TR.mono F.le (toP_R hy (ofP_R (ρ := ρ) h2)), all, F.le _ _ h3, h4⟩)
    · rename_i id p
      have hch := notch hR (by simp) (by simp)
      subst hch
      split at e <;> first | (cases e; done) | skip
      split at e <;> first | (cases e; done) | skip
      rename_i bt v0 hb
      rw [nth_eq] at hb
      obtain ⟨h, off, h1, h2, rfl⟩ := hR
      obtain ⟨h', cs0, h4, h5, h6, h7, h8⟩ := hM.th _ _ hb
      rw [h1] at h4; cases h4
      rw [h6] at h2
      obtain ⟨z, hk, h9, h10, h11⟩ := getP_R e h7 h2
      split at hk <;> first | (cases hk; done) | skip
      rename_i y hy
      refine ⟨y, _, O, ρ, hk, ⟨hM, .refl _ _ _ _, ⟨[], by simp⟩, fun i hi => List.mem_cons_of_mem _ hi, fun h => h, fun _ _ _ h => h, fun h => h, Nat.le_refl _⟩, (fun h => by cases h), rfl, fun O₂ ρ₂ F => ?_⟩
      obtain ⟨fz, hh, _⟩ := h8
      refine ⟨h.b, off, _, rfl, TR.mono F.le (toP_R hy h9), cs0, by simpa using F.lent h.b id _ _ _ (List.mem_cons_self ..) h5 hh, fun j c hj => ?_⟩
      rw [List.getElem?_take] at hj
      split at hj
      · rw [List.getElem?_drop] at hj; exact hj
      · cases hj
  | ro t =>
    intro v u k r ch cs O ρ e hM hR hmd
    simp only [uV] at e
    have isro : ∀ {t' : Ty} {xs : List t'.den}, v = .ro t' xs → (match castR (Ty.eq? t' t) xs with | some xs => k xs u | none => none) = some r → UOk O ρ w md (.ro t) v u ch cs k r := by
      clear e
      intro t' xs hv e
      subst hv
      have hch := notch hR (by simp) (by simp)
      subst hch
      split at e <;> first | (cases e; done) | skip
      rename_i xs' hcast
      obtain ⟨e1, he1⟩ := castR_ok hcast
      subst e1
      have he1 : xs' = xs := he1
      subst he1
      exact UOk.stay xs' hM e rfl (fun O₂ ρ₂ F => TR.mono F.le hR)
    split at e
    · -- lent
      split at e
      · exact isro rfl e
      · rename_i hnr
        split at e <;> first | (cases e; done) | skip
        rename_i hag
        have hch := notch hR (fun h => by subst h; simp [IV.agg] at hag) (fun a b h => by subst h; simp [IV.agg] at hag)
        subst hch
        have hl := R.length hR
        have hz : v.sz.size = 1 := by cases v <;> simp [IV.agg] at hag <;> rfl
        rw [hz] at hl
        obtain ⟨y, rfl⟩ := List.length_eq_one_iff.1 hl
        obtain ⟨xs, es, hk, hL, hrd, hown⟩ := cont_ok hM e hR
        refine ⟨xs, _, O, ρ, hk, ⟨hM, .refl _ _ _ _, ⟨[], by simp⟩, fun i hi => List.mem_append_right _ hi, fun h => h, fun _ _ _ h => h, fun h => h, Nat.le_refl _⟩, (fun h => by cases h), ?_, fun O₂ ρ₂ F => ?_⟩
        · show Sz.one = v.sz
          cases v <;> first | rfl | (simp [IV.agg] at hag)
        · have hr := hrd w (Sm.refl _ _ _)
          refine ⟨y, es, rfl, hL.mono (fun _ _ => TR.mono F.le), ofSlAt hr (fun b a ty fz hn hb hh => ?_)⟩
          rcases hown b hn hb with ⟨id, hi, ho⟩ | ⟨all, ho⟩
          · exact F.lent b id a ty fz (List.mem_append_left _ hi) ho hh
          · obtain ⟨ty', fz', hh'⟩ := hM.im b all ho
            rw [hh] at hh'; cases hh'
            simpa using F.le b all ho
    · -- given up
      split at e
      · exact isro rfl e
      · rename_i id
        have hch := notch hR (by simp) (by simp)
        subst hch
        obtain ⟨h0, h1, rfl, _⟩ := hR
        obtain ⟨xs, u', O', h, hk, g, hlt, h2, hT, hz⟩ := freeze_ok e hM
        rw [h1] at h2; cases h2
        exact ⟨xs, u', O', ρ, hk, ⟨g.gm, g.stp.weak (fun _ _ => rfl), g.bd, g.lt, g.nd, g.own, g.in_, g.len⟩, fun _ => hlt, rfl, fun O₂ ρ₂ F => TR.mono F.le hT⟩
      · rename_i id lo hi
        have hch := notch hR (by simp) (by simp)
        subst hch
        obtain ⟨h0, y, h1, rfl, hp⟩ := hR
        obtain ⟨xs, u', O', h, hk, g, hlt, h2, hT, hz⟩ := freeze_ok e hM
        rw [h1] at h2; cases h2
        refine ⟨_, u', O', ρ, hk, ⟨g.gm, g.stp.weak (fun _ _ => rfl), g.bd, g.lt, g.nd, g.own, g.in_, g.len⟩, fun _ => hlt, rfl, fun O₂ ρ₂ F => ?_⟩
        have hT2 := TR.mono F.le hT
        obtain ⟨v', es, hv', hL, hS⟩ := hT2
        cases hv'
        rw [hz, Ty.sz_size] at hp
        obtain ⟨b, n, cp, b', cp', hv, rfl, hlo, hhi, hor⟩ := hp
        have hn : n = xs.length := by
          obtain ⟨b2, cp2, e2⟩ := slAt_shape hS
          rw [hv] at e2; cases e2; rfl
        subst hn
        have hlen : ((xs.drop lo).take (hi - lo)).length = hi - lo := by rw [List.length_take, List.length_drop]; omega
        refine ⟨_, _, rfl, ((hL.split (fun _ _ => TR.length) lo).2.split (fun _ _ => TR.length) (hi - lo)).1, ?_⟩
        rw [hlen]
        rcases hor with hor | ⟨ad, rfl, rfl, hc⟩
        · exact .inl ⟨by omega, _, _, by rw [show hi - lo = 0 from by omega]⟩
        · rw [hv] at hS
          rcases hS with ⟨h0', _⟩ | ⟨b2, off, cap, e2, _, hI⟩
          · exact .inl ⟨by omega, _, _, by rw [show hi - lo = 0 from by omega]⟩
          · cases e2
            rw [add_zero _ rfl]
            exact .inr ⟨b2, off + lo * t.size, cp', rfl, hc, hI.part _ _⟩
      · split at e <;> first | (cases e; done) | skip
        rename_i hn
        have hv := asNil_eq hn
        subst hv
        have hch := notch hR (by simp) (by simp)
        subst hch
        exact UOk.stay [] hM e rfl (fun O₂ ρ₂ F => by obtain ⟨rfl, _⟩ := hR; exact ⟨_, [], rfl, rfl, .inl ⟨rfl, none, 0, rfl⟩⟩)
  | rw j =>
    intro v u k r ch cs O ρ e hM hR hmd
    simp only [uV] at e
    split at e
    · rename_i id
      have hch := notch hR (by simp) (by simp)
      subst hch
      obtain ⟨h, h1, rfl, h3⟩ := hR
      have hid : id < u.tb.length := by rw [← hM.len]; exact (List.getElem?_eq_some_iff.1 h1).1
      obtain ⟨u', hk, g, hj, hlt, htb⟩ := bindU_ok (M := fun _ => md = false) e hM hid
      exact ⟨(), u', O, ρ, hk, g, fun _ => hlt, rfl, fun O₂ ρ₂ F => ⟨h, F.mt j id h hj h1, rfl, h3⟩⟩
    · rename_i hnr
      split at e <;> first | (cases e; done) | skip
      rename_i E t hn ht
      have hv := asNil_eq hn
      subst hv
      have hch := notch hR (by simp) (by simp)
      subst hch
      obtain ⟨rfl, _⟩ := hR
      have hnew := hM.new (h := ⟨0, t.sz, .slice none 0 0⟩) (x := .row E t []) (fun _ => false) (Kept.refl _ w) (fun b hb => by cases hb)
        ⟨⟨0, t.sz, .slice none 0 0⟩, [], by rw [← hM.len]; simp, rfl, fun b hb => hb.elim, rfl, ⟨by simp, .inl ⟨rfl, rfl⟩⟩⟩
      have g1 : Gm O (ρ ++ [⟨0, t.sz, .slice none 0 0⟩]) (u.tb ++ [.row E t []]) w := hnew.1
      have g2 : Stp (fun _ => False) O ρ w O (ρ ++ [⟨0, t.sz, .slice none 0 0⟩]) w := hnew.2
      obtain ⟨u', hk, g, hj, hlt, htb⟩ := bindU_ok (M := fun _ => md = false) e g1 (by simp)
      have g0 : Gh (fun _ => md = false) O ρ u O (ρ ++ [⟨0, t.sz, .slice none 0 0⟩]) { u with tb := u.tb ++ [.row E t []] } w :=
        ⟨g1, g2.weak (fun _ h => h.elim), ⟨[], by simp⟩, fun _ h => h, fun h => h, fun _ _ _ h => h, fun hh i hi => by have := hh i hi; simp; omega, by simp⟩
      refine ⟨(), u', O, _, hk, g0.trans g, fun _ => hlt, rfl, fun O₂ ρ₂ F => ⟨⟨0, t.sz, .slice none 0 0⟩, F.mt j _ _ hj (by rw [← hM.len]; simp), rfl, rfl⟩⟩
  | rp j =>
    intro v u k r ch cs O ρ e hM hR hmd
    simp only [uV] at e
    split at e <;> first | (cases e; done) | skip
    · rename_i id lo hi
      have hch := notch hR (by simp) (by simp)
      subst hch
      obtain ⟨h, y, h1, rfl, h3⟩ := hR
      have hid : id < u.tb.length := by rw [← hM.len]; exact (List.getElem?_eq_some_iff.1 h1).1
      obtain ⟨u', hk, g, hj, hlt, htb⟩ := bindU_ok (M := fun _ => md = false) e hM hid
      exact ⟨(lo, hi), u', O, ρ, hk, g, fun _ => hlt, rfl, fun O₂ ρ₂ F => ⟨h, y, F.mt j id h hj h1, rfl, h3⟩⟩
    · rename_i id
      have hch := notch hR (by simp) (by simp)
      subst hch
      obtain ⟨h, h1, rfl, h3⟩ := hR
      split at e <;> first | (cases e; done) | skip
      rename_i E t xs hb
      rw [nth_eq] at hb
      have hid : id < u.tb.length := (List.getElem?_eq_some_iff.1 hb).1
      obtain ⟨h', es, h4, h5, h6, h7, h8⟩ := hM.th _ _ hb
      rw [h1] at h4; cases h4
      obtain ⟨u', hk, g, hj, hlt, htb⟩ := bindU_ok (M := fun _ => md = false) e hM hid
      refine ⟨(0, xs.length), u', O, ρ, hk, g, fun _ => hlt, rfl, fun O₂ ρ₂ F => ⟨h, _, F.mt j id h hj h1, rfl, ?_⟩⟩
      obtain ⟨b, cp, e2, hn, hcp⟩ := h8.rd.shape
      rw [e2]
      refine ⟨b, _, cp, b, cp, rfl, by simp, by omega, by omega, ?_⟩
      by_cases h0 : xs.length = 0
      · exact .inl h0
      · refine .inr ?_
        cases b with
        | none => exact absurd (hn rfl) h0
        | some ad => exact ⟨ad, rfl, by rw [Nat.zero_mul]; simp [Addr.add], by omega⟩
    · split at e <;> first | (cases e; done) | skip
      rename_i id hnil hbd
      have hv := asNil_eq hnil
      subst hv
      have hch := notch hR (by simp) (by simp)
      subst hch
      obtain ⟨rfl, _⟩ := hR
      split at e <;> first | (cases e; done) | skip
      rename_i E t xs hb
      rw [nth_eq] at hb
      have hid : id < u.tb.length := (List.getElem?_eq_some_iff.1 hb).1
      obtain ⟨h, es, h4, h5, h6, h7, h8⟩ := hM.th _ _ hb
      obtain ⟨u', hk, g, hj, hlt, htb⟩ := bindU_ok (M := fun _ => md = false) e hM hid
      refine ⟨(0, 0), u', O, ρ, hk, g, fun _ => hlt, rfl, fun O₂ ρ₂ F => ⟨h, _, F.mt j id h hj h4, rfl, ?_⟩⟩
      obtain ⟨b, cp, e2, hn, hcp⟩ := h8.rd.shape
      exact ⟨b, _, cp, none, 0, e2, rfl, Nat.le_refl _, Nat.zero_le _, .inl rfl⟩
  | pt j p =>
    intro v u k r ch cs O ρ e hM hR hmd
    simp only [uV] at e
    split at e <;> first | (cases e; done) | skip
    rename_i id p'
    split at e <;> first | (cases e; done) | skip
    rename_i hp
    have := eqL_eq hp
    subst this
    have hch := notch hR (by simp) (by simp)
    subst hch
    obtain ⟨h, off, h1, h2, h3⟩ := hR
    have hid : id < u.tb.length := by rw [← hM.len]; exact (List.getElem?_eq_some_iff.1 h1).1
    obtain ⟨u', hk, g, hj, hlt, htb⟩ := bindU_ok (M := fun _ => md = false) e hM hid
    exact ⟨(), u', O, ρ, hk, g, fun _ => hlt, rfl, fun O₂ ρ₂ F => ⟨h, off, F.mt j id h hj h1, h2, h3⟩⟩
  | ap j p =>
    intro v u k r ch cs O ρ e hM hR hmd
    simp only [uV] at e
    split at e <;> first | (cases e; done) | skip
    rename_i id p' lo hi
    split at e <;> first | (cases e; done) | skip
    rename_i hp
    have := eqL_eq hp
    subst this
    have hch := notch hR (by simp) (by simp)
    subst hch
    obtain ⟨h, off, n, z, h1, h2⟩ := hR
    have hid : id < u.tb.length := by rw [← hM.len]; exact (List.getElem?_eq_some_iff.1 h1).1
    obtain ⟨u', hk, g, hj, hlt, htb⟩ := bindU_ok (M := fun _ => md = false) e hM hid
    exact ⟨(lo, hi), u', O, ρ, hk, g, fun _ => hlt, rfl, fun O₂ ρ₂ F => ⟨h, off, n, z, F.mt j id h hj h1, h2⟩⟩
  | fn f a c iha ihc =>
    intro v u k r ch cs O ρ e hM hR hmd
    simp only [uV] at e
    split at e <;> first | (cases e; done) | skip
    rename_i f' a' c'
    split at e <;> first | (cases e; done) | skip
    rename_i hf
    have := Nat.eq_of_beq_eq_true hf
    subst this
    have hch := notch hR (by simp) (by simp)
    subst hch
    obtain ⟨xs, ys, rfl, h2, h3⟩ := hR
    obtain ⟨x, u1, O1, ρ1, e1, g1, l1, z1, F1⟩ := iha e hM h2 hmd
    have hmd1 : md = false → u1.lt = [] := fun h => (l1 h).trans (hmd h)
    obtain ⟨y, u2, O2, ρ2, e2, g2, l2, z2, F2⟩ := ihc e1 g1.gm (R.mono g1.stp.im g1.stp.pre h3) hmd1
    exact ⟨(x, y), u2, O2, ρ2, e2, g1.trans g2, fun h => (l2 h).trans (l1 h), rfl, fun O₂ ρ₂ F => ⟨xs, ys, rfl, F1 O₂ ρ₂ (F.back g2 (lent_own g1.gm g2 hmd1)), F2 O₂ ρ₂ F⟩⟩
  | un =>
    intro v u k r ch cs O ρ e hM hR hmd
    simp only [uV] at e
    split at e <;> first | (cases e; done) | skip
    exact UOk.stay () hM e rfl (fun O₂ ρ₂ _ => by cases ch <;> exact hR)
  | pr a b iha ihb =>
    intro v u k r ch cs O ρ e hM hR hmd
    simp only [uV] at e
    split at e <;> first | (cases e; done) | skip
    rename_i a' b'
    cases ch with
    | true =>
      obtain ⟨x0, rest, rfl, h2, h3⟩ := hR
      cases hag : a'.agg with
      | true =>
        rw [hag] at h2
        obtain ⟨c0, rfl, h2⟩ := h2
        obtain ⟨x, u1, O1, ρ1, e1, g1, l1, z1, F1⟩ := iha e hM h2 hmd
        have hmd1 : md = false → u1.lt = [] := fun h => (l1 h).trans (hmd h)
        obtain ⟨y, u2, O2, ρ2, e2, g2, l2, z2, F2⟩ := ihb e1 g1.gm (R.mono g1.stp.im g1.stp.pre h3) hmd1
        refine ⟨(x, y), u2, O2, ρ2, e2, g1.trans g2, fun h => (l2 h).trans (l1 h), by simp only [enc, IV.sz, z1, z2], fun O₂ ρ₂ F => ⟨_, rest, rfl, ?_, F2 O₂ ρ₂ F⟩⟩
        rw [agg_of_sz z1, hag]
        exact ⟨c0, rfl, F1 O₂ ρ₂ (F.back g2 (lent_own g1.gm g2 hmd1))⟩
      | false =>
        rw [hag] at h2
        have h2 : R O ρ false a' [x0] := h2
        obtain ⟨x, u1, O1, ρ1, e1, g1, l1, z1, F1⟩ := iha e hM h2 hmd
        have hmd1 : md = false → u1.lt = [] := fun h => (l1 h).trans (hmd h)
        obtain ⟨y, u2, O2, ρ2, e2, g2, l2, z2, F2⟩ := ihb e1 g1.gm (R.mono g1.stp.im g1.stp.pre h3) hmd1
        refine ⟨(x, y), u2, O2, ρ2, e2, g1.trans g2, fun h => (l2 h).trans (l1 h), by simp only [enc, IV.sz, z1, z2], fun O₂ ρ₂ F => ⟨_, rest, rfl, ?_, F2 O₂ ρ₂ F⟩⟩
        rw [agg_of_sz z1, hag]
        exact F1 O₂ ρ₂ (F.back g2 (lent_own g1.gm g2 hmd1))
    | false =>
      obtain ⟨c0, d0, rfl, h2, h3⟩ := hR
      obtain ⟨x, u1, O1, ρ1, e1, g1, l1, z1, F1⟩ := iha e hM h2 hmd
      have hmd1 : md = false → u1.lt = [] := fun h => (l1 h).trans (hmd h)
      obtain ⟨y, u2, O2, ρ2, e2, g2, l2, z2, F2⟩ := ihb e1 g1.gm (R.mono g1.stp.im g1.stp.pre h3) hmd1
      exact ⟨(x, y), u2, O2, ρ2, e2, g1.trans g2, fun h => (l2 h).trans (l1 h), by simp only [enc, IV.sz, z1, z2], fun O₂ ρ₂ F => ⟨c0, d0, rfl, F1 O₂ ρ₂ (F.back g2 (lent_own g1.gm g2 hmd1)), F2 O₂ ρ₂ F⟩⟩
  | ar n t =>
    intro v u k r ch cs O ρ e hM hR hmd
    simp only [uV] at e
    split at e <;> first | (cases e; done) | skip
    rename_i xs hx
    have hagg : ∃ m t' ys, v = .ar m t' ys ∧ ∃ h : Ty.ar m t' = Ty.ar n t, castL h ys = xs := by
      unfold IV.asAr at hx
      split at hx
      · rename_i m t' ys
        split at hx
        · rename_i p _
          simp only [Option.some.injEq] at hx
          exact ⟨m, t', ys, rfl, p.down, hx⟩
        · cases hx
      · cases hx
    obtain ⟨m, t', ys, rfl, h, hxs⟩ := hagg
    have hch := notch hR (by simp) (by simp)
    subst hch
    cases h
    have hxs : ys = xs := hxs
    subst hxs
    exact UOk.stay _ hM e rfl (fun O₂ ρ₂ F => TR.mono (t := .ar n t) F.le hR)
  | ud =>
    intro v u k r ch cs O ρ e hM hR hmd
    simp only [uV] at e
    split at e <;> first | (cases e; done) | skip
    rename_i hag
    have hch := notch hR (fun h => by subst h; simp [IV.agg] at hag) (fun a b h => by subst h; simp [IV.agg] at hag)
    subst hch
    have hl := R.length hR
    have hz : v.sz = .one := by cases v <;> simp [IV.agg] at hag <;> rfl
    rw [hz] at hl
    obtain ⟨y, rfl⟩ := List.length_eq_one_iff.1 hl
    exact UOk.stay () hM e hz.symm (fun O₂ ρ₂ _ => ⟨y, rfl, R.one hR y (by simp)⟩)
end
end Go.Tw
/- A whole state that is read as one of a shape. No program is in it. -/
namespace Go.Tw
set_option linter.unusedSimpArgs false
set_option linter.unusedVariables false
section
variable {O : Own} {ρ : List Hd} {w : World} {md : Bool} {ts : List TSh}

/-- Values and their cells. -/
def RL (O : Own) (ρ : List Hd) : List IV → List (List Value) → Prop
  | [], cs => cs = []
  | v :: vs, cs => ∃ c r, cs = c :: r ∧ R O ρ false v c ∧ RL O ρ vs r

theorem RL.mono {O' : Own} {ρ' : List Hd} (hO : O.le O') (hρ : Pre ρ ρ') : ∀ {vs : List IV} {cs : List (List Value)}, RL O ρ vs cs → RL O' ρ' vs cs
  | [], cs, h => h
  | v :: vs, cs, h => by obtain ⟨c, r, h1, h2, h3⟩ := h; exact ⟨c, r, h1, R.mono hO hρ h2, RL.mono hO hρ h3⟩

def szs (vs : List IV) : List Sz := vs.map IV.sz

theorem uVs_ok {β : Type} : ∀ {ss : List Sh} {vs : List IV} {u : Un} {k : dens ss → Un → Option β} {r : β} {cs : List (List Value)} {O : Own} {ρ : List Hd}, uVs md ts ss vs u k = some r → Gm O ρ u.tb w → RL O ρ vs cs → (md = false → u.lt = []) →
    ∃ x u' O' ρ', k x u' = some r ∧ Gh (fun _ => md = false) O ρ u O' ρ' u' w ∧ (md = false → u'.lt = u.lt) ∧ szs (encs ss x) = szs vs ∧ ∀ O₂ ρ₂, Fut u' O' ρ' w O₂ ρ₂ → RL O₂ ρ₂ (encs ss x) cs
  | [], [], u, k, r, cs, O, ρ, e, hM, h, hmd => ⟨(), u, O, ρ, e, .refl hM, fun _ => rfl, rfl, fun _ _ _ => h⟩
  | [], _ :: _, u, k, r, cs, O, ρ, e, hM, h, hmd => by simp [uVs] at e
  | _ :: _, [], u, k, r, cs, O, ρ, e, hM, h, hmd => by simp [uVs] at e
  | s :: ss, v :: vs, u, k, r, cs, O, ρ, e, hM, h, hmd => by
    simp only [uVs] at e
    obtain ⟨c, rest, rfl, h1, h2⟩ := h
    obtain ⟨x, u1, O1, ρ1, e1, g1, l1, z1, F1⟩ := uV_ok e hM h1 hmd
    have hmd1 : md = false → u1.lt = [] := fun h => (l1 h).trans (hmd h)
    obtain ⟨y, u2, O2, ρ2, e2, g2, l2, z2, F2⟩ := uVs_ok e1 g1.gm (h2.mono g1.stp.im g1.stp.pre) hmd1
    exact ⟨(x, y), u2, O2, ρ2, e2, g1.trans g2, fun h => (l2 h).trans (l1 h), by simp only [szs, encs, List.map_cons, z1] at z2 ⊢; rw [z2],
      fun O₂ ρ₂ F => ⟨c, rest, rfl, F1 O₂ ρ₂ (F.back g2 (lent_own g1.gm g2 hmd1)), F2 O₂ ρ₂ F⟩⟩

/-- And who owns what. -/
structure Fut2 (u' : Un) (O' : Own) (ρ' : List Hd) (w : World) (O₂ : Own) (ρ₂ : List Hd) : Prop extends Fut u' O' ρ' w O₂ ρ₂ where
  own : ∀ b j id, u'.bd[j]? = some id → O' b = .th id → O₂ b = .th j

theorem Fut2.back {M : Nat → Prop} {O1 : Own} {ρ1 : List Hd} {u u1 : Un} {O₂ : Own} {ρ₂ : List Hd} (g : Gh M O ρ u O1 ρ1 u1 w) (hl : ∀ b id, id ∈ u.lt → O b = .th id → O1 b = .th id) (F : Fut2 u1 O1 ρ1 w O₂ ρ₂) : Fut2 u O ρ w O₂ ρ₂ :=
  ⟨F.toFut.back g hl, fun b j id hj ho => F.own b j id (bd_ρ g hj) (g.own b id (List.mem_of_getElem? hj) ho)⟩

theorem uT_ok {β : Type} {s : TSh} {x : Thing} {u : Un} {k : s.den → Un → Option β} {r : β} {j id : Nat} (e : uT md ts s x u k = some r) (hM : Gm O ρ u.tb w) (hj : u.bd[j]? = some id) (hx : u.tb[id]? = some x) (hmd : md = false → u.lt = []) :
    ∃ y u' O' ρ', k y u' = some r ∧ Gh (fun _ => md = false) O ρ u O' ρ' u' w ∧ (md = false → u'.lt = u.lt) ∧ ∀ O₂ ρ₂, Fut2 u' O' ρ' w O₂ ρ₂ → Holds O₂ ρ₂ w j (encT s y) := by
  have hold := hM.th _ _ hx
  cases s with
  | blk ty s =>
    simp only [uT] at e
    split at e <;> first | (cases e; done) | skip
    rename_i ty' v
    split at e <;> first | (cases e; done) | skip
    rename_i hty
    have := Nat.eq_of_beq_eq_true hty
    subst this
    obtain ⟨h, cs, h1, h2, h3, h4, h5⟩ := hold
    obtain ⟨y, u1, O1, ρ1, e1, g1, l1, z1, F1⟩ := uV_ok e hM h4 hmd
    refine ⟨y, u1, O1, ρ1, e1, g1, l1, fun O₂ ρ₂ F => ⟨h, cs, F.mt j id h (bd_ρ g1 hj) (g1.stp.pre _ _ h1), F.own h.b j id (bd_ρ g1 hj) (g1.own h.b id (List.mem_of_getElem? hj) h2), by rw [h3, z1], F1 O₂ ρ₂ F.toFut, h5⟩⟩
  | row E t =>
    simp only [uT] at e
    split at e <;> first | (cases e; done) | skip
    rename_i E' t' xs
    split at e <;> first | (cases e; done) | skip
    rename_i xs' hE hcast
    have := Nat.eq_of_beq_eq_true hE
    subst this
    obtain ⟨e1, he1⟩ := castR_ok hcast
    subst e1
    have he1 : xs' = xs := he1
    subst he1
    obtain ⟨h, es, h1, h2, h3, h4, h5⟩ := hold
    exact ⟨xs', u, O, ρ, e, .refl hM, fun _ => rfl, fun O₂ ρ₂ F => ⟨h, es, F.mt j id h hj h1, h2, fun b hb => F.own b j id hj (h3 b hb), h4.mono (fun _ _ => TR.mono F.le), h5⟩⟩
  | fz t =>
    simp only [uT] at e
    split at e <;> first | (cases e; done) | skip
    rename_i t' xs
    split at e <;> first | (cases e; done) | skip
    rename_i xs' hcast
    obtain ⟨e1, he1⟩ := castR_ok hcast
    subst e1
    have he1 : xs' = xs := he1
    subst he1
    obtain ⟨h, h1, h2, h3⟩ := hold
    exact ⟨xs', u, O, ρ, e, .refl hM, fun _ => rfl, fun O₂ ρ₂ F => ⟨h, F.mt j id h hj h1, h2, TR.mono F.le h3⟩⟩
  | no => exact ⟨(), u, O, ρ, e, .refl hM, fun _ => rfl, fun _ _ _ => trivial⟩

theorem uTs_ok {β : Type} : ∀ {ss : List TSh} {j : Nat} {u : Un} {k : tdens ss → Un → Option β} {r : β} {O : Own} {ρ : List Hd}, uTs md ts j ss u k = some r → Gm O ρ u.tb w → (md = false → u.lt = []) →
    ∃ y u' O' ρ', k y u' = some r ∧ Gh (fun _ => md = false) O ρ u O' ρ' u' w ∧ (md = false → u'.lt = u.lt) ∧ ∀ O₂ ρ₂, Fut2 u' O' ρ' w O₂ ρ₂ → ∀ q x, (encTs ss y)[q]? = some x → Holds O₂ ρ₂ w (j + q) x
  | [], j, u, k, r, O, ρ, e, hM, hmd => ⟨(), u, O, ρ, e, .refl hM, fun _ => rfl, fun _ _ _ q x h => by simp [encTs] at h⟩
  | s :: ss, j, u, k, r, O, ρ, e, hM, hmd => by
    simp only [uTs] at e
    split at e <;> first | (cases e; done) | skip
    rename_i id hj
    split at e <;> first | (cases e; done) | skip
    rename_i x hx
    rw [nth_eq] at hj hx
    obtain ⟨y, u1, O1, ρ1, e1, g1, l1, F1⟩ := uT_ok e hM hj hx hmd
    have hmd1 : md = false → u1.lt = [] := fun h => (l1 h).trans (hmd h)
    obtain ⟨z, u2, O2, ρ2, e2, g2, l2, F2⟩ := uTs_ok e1 g1.gm hmd1
    refine ⟨(y, z), u2, O2, ρ2, e2, g1.trans g2, fun h => (l2 h).trans (l1 h), fun O₂ ρ₂ F q x' hq => ?_⟩
    cases q with
    | zero =>
      simp [encTs] at hq; subst hq
      exact F1 O₂ ρ₂ (F.back g2 (lent_own g1.gm g2 hmd1))
    | succ q =>
      have := F2 O₂ ρ₂ F q x' (by simpa [encTs] using hq)
      rw [show j + (q + 1) = j + 1 + q from by omega]; exact this

/-- The places of the things of a shape. -/
def rc (bd : List Nat) (ρ : List Hd) : List Hd := bd.map fun id => ρ.getD id ⟨0, .nil, .bool false⟩

theorem rc_mt (bd : List Nat) (ρ : List Hd) : Mt bd ρ (rc bd ρ) := fun j id h hj hh => by
  simp [rc, hj, List.getD_eq_getElem?_getD, hh]

theorem Oc_le (bd lt : List Nat) (O : Own) (w : World) : O.le (Oc bd lt O w) := fun b all e => by simp only [Oc, e]

/-- What a reading of a state comes to. -/
structure Uni (O : Own) (ρ : List Hd) (tb : Tbl) (bd : List Nat) (w : World) (md : Bool) (ss : List Sh) (ts : List TSh) (cs : List (List Value)) (vs : List IV) (x : dens ss) (y : tdens ts) (u' : Un) (O' : Own) (ρ' : List Hd) : Prop where
  gh : Gh (fun _ => md = false) O ρ ⟨bd, tb, []⟩ O' ρ' u' w
  lt : md = false → u'.lt = []
  gm : Gm (Oc u'.bd u'.lt O' w) (rc u'.bd ρ') (encTs ts y) w
  rl : RL (Oc u'.bd u'.lt O' w) (rc u'.bd ρ') (encs ss x) cs
  sz : szs (encs ss x) = szs vs
  len : u'.bd.length = ts.length
  nd : u'.bd.Nodup
  apart : ∀ i, i ∈ u'.lt → i ∉ u'.bd
  in_ : ∀ i, i ∈ u'.bd → i < u'.tb.length

theorem uni_ok {β : Type} {ss : List Sh} {bd : List Nat} {vs : List IV} {tb : Tbl} {k : dens ss → tdens ts → Un → Option β} {r : β} {cs : List (List Value)} (e : uni md ss ts bd vs tb k = some r) (hM : Gm O ρ tb w) (hR : RL O ρ vs cs) (hnd : bd.Nodup) (hbd : ∀ i, i ∈ bd → i < tb.length) :
    ∃ x y u' O' ρ', k x y u' = some r ∧ Uni O ρ tb bd w md ss ts cs vs x y u' O' ρ' := by
  unfold uni at e
  obtain ⟨x, u1, O1, ρ1, e1, g1, l1, z1, F1⟩ := uVs_ok e hM hR (fun _ => rfl)
  have hmd1 : md = false → u1.lt = [] := fun h => (l1 h)
  obtain ⟨y, u2, O2, ρ2, e2, g2, l2, F2⟩ := uTs_ok e1 g1.gm hmd1
  split at e2 <;> first | (cases e2; done) | skip
  rename_i hlen hap
  have hlen := Nat.eq_of_beq_eq_true hlen
  have g := g1.trans g2
  have hnd2 := g.nd hnd
  have hap' := apart_ok hap
  have hF : Fut2 u2 O2 ρ2 w (Oc u2.bd u2.lt O2 w) (rc u2.bd ρ2) := by
    refine ⟨⟨Oc_le _ _ _ _, rc_mt _ _, fun b id a ty fz hi ho hh => ?_⟩, fun b j id hj ho => ?_⟩
    · have hn : idx u2.bd id = none := by
        cases hi2 : idx u2.bd id with
        | none => rfl
        | some j => exact absurd (List.mem_of_getElem? (idx_some hi2)) (hap' id hi)
      have hs : ∃ j, idx u2.lt id = some j := by
        cases hi2 : idx u2.lt id with
        | none => exact absurd hi (idx_none hi2)
        | some j => exact ⟨j, rfl⟩
      obtain ⟨j, hj⟩ := hs
      simp only [Oc, ho, hn, hj, hh]
    · simp only [Oc, ho, idx_of_get hnd2 hj]
  refine ⟨x, y, u2, O2, ρ2, e2, g, fun h => (l2 h).trans (hmd1 h), ⟨fun b all hb => ?_, fun b hb => ?_, ?_, fun j t ht => ?_⟩, F1 _ _ (hF.toFut.back g2 (lent_own g1.gm g2 hmd1)), z1, hlen, hnd2, hap', g.in_ hbd⟩
  · simp only [Oc] at hb
    split at hb
    · rename_i all' ho; cases hb; exact g2.gm.im b all ho
    · cases hb
    · rename_i id ho
      split at hb
      · cases hb
      · split at hb
        · split at hb
          · rename_i a ty fz hh; cases hb; exact ⟨ty, fz, by simpa using hh⟩
          · cases hb
        · cases hb
  · simp only [Oc, g2.gm.lt b hb]
  · simp [rc, hlen, encTs_len]
  · have := F2 _ _ hF j t ht
    simpa using this

/-- The steps since the entry of a call, seen by the shape's numbers. -/
theorem Stp.oc {O0 O' : Own} {ρ0 ρ' : List Hd} {w0 w : World} {bd lt : List Nat} (h : Stp (fun _ => True) O0 ρ0 w0 O' ρ' w) (hb : ∀ i, i < ρ0.length → bd[i]? = some i) : Stp (fun _ => True) O0 ρ0 w0 (Oc bd lt O' w) (rc bd ρ') w := by
  refine ⟨fun i x hx => ?_, h.im.trans (Oc_le _ _ _ _), fun b hb' e => ?_, fun b id _ _ hn => absurd trivial hn, h.kept⟩
  · exact rc_mt bd ρ' i i x (hb i (List.getElem?_eq_some_iff.1 hx).1) (h.pre _ _ hx)
  · simp only [Oc, h.no b hb' e]
end
end Go.Tw
/- Contracts of functions, and calls. No program is in it. -/
namespace Go.Tw
set_option linter.unusedSimpArgs false
set_option linter.unusedVariables false

/-- A contract: the shapes of the arguments and of the table ahead (A, T) and behind (B, U), and the twin. m: so many of the things come back; those behind are given up. -/
structure Ct where
  m : Nat
  A : List Sh
  T : List TSh
  B : List Sh
  U : List TSh
  run : (β : Type) → dens A → tdens T → (dens B → tdens U → Option β) → Option β
  nat : ∀ (β : Type) x y (k : dens B → tdens U → Option β) r, run β x y k = some r → ∃ p q, run _ x y (fun p q => some (p, q)) = some (p, q) ∧ k p q = some r

/-- The values with these cells. -/
def vals : List IV → List (List Value) → List Value
  | v :: vs, c :: cs => (bif v.agg then .agg c.toArray else c.headD (.bool false)) :: vals vs cs
  | _, _ => []

theorem vals_sz : ∀ {vs us : List IV} {cs : List (List Value)}, szs vs = szs us → vals vs cs = vals us cs
  | [], [], cs, _ => rfl
  | [], _ :: _, cs, h => by simp [szs] at h
  | _ :: _, [], cs, h => by simp [szs] at h
  | v :: vs, u :: us, [], h => rfl
  | v :: vs, u :: us, c :: cs, h => by
    simp only [szs, List.map_cons, List.cons.injEq] at h
    simp only [vals, agg_of_sz h.1, vals_sz (vs := vs) (us := us) (cs := cs) h.2]

def resV (vs : List IV) (ds : List (List Value)) : Value :=
  match vals vs ds with
  | [x] => x
  | l => .tuple l.toArray

/-- A call; d: one that was put off. -/
def CallK (P : Program) (d : Bool) (f : FuncId) (args : Array Value) (w : World) (Q : Value → World → Prop) : Prop :=
  match d with
  | false => Calls P f args w (Ret Q)
  | true => CallsD P f args .returning w (fun e u w' => u = .returning ∧ Ret Q e w')

theorem CallK.mono {P : Program} {d : Bool} {f : FuncId} {args : Array Value} {w : World} {Q Q' : Value → World → Prop} (h : CallK P d f args w Q) (hq : ∀ v w', Q v w' → Q' v w') : CallK P d f args w Q' := by
  cases d with
  | false =>
    refine Calls.mono (show Calls P f args w (Ret Q) from h) fun e w' he => ?_
    cases e with
    | returned v => exact hq v w' he
    | panicked _ => exact he
    | outgrown => exact he
  | true =>
    refine CallsD.mono (show CallsD P f args .returning w (fun e u w' => u = .returning ∧ Ret Q e w') from h) fun e u w' he => ?_
    obtain ⟨h1, he⟩ := he
    refine ⟨h1, ?_⟩
    cases e with
    | returned v => exact hq v w' he
    | panicked _ => exact he
    | outgrown => exact he

/-- The contract holds of the function. -/
def SoundK (P : Program) (c : Cfg) (d : Bool) (f : FuncId) (ct : Ct) : Prop :=
  ∀ x y p q, ct.run _ x y (fun p q => some (p, q)) = some (p, q) → ∀ (O : Own) (ρ : List Hd) (w : World) (cs : List (List Value)), GO c O → Gm O ρ (encTs ct.T y) w → RL O ρ (encs ct.A x) cs →
    CallK P d f (vals (encs ct.A x) cs).toArray w (fun v w' => ∃ O' ρ' ds, Gm O' ρ' (encTs ct.U q) w' ∧ Stp (fun _ => True) O (ρ.take ct.m) w O' ρ' w' ∧ RL O' ρ' (encs ct.B p) ds ∧ v = resV (encs ct.B p) ds)

abbrev Sound (P : Program) (c : Cfg) (f : FuncId) (ct : Ct) : Prop := SoundK P c false f ct

/- ## numbers changed back -/
def ren (g : Nat → Nat) : IV → IV
  | .rw id => .rw (g id)
  | .rp id lo hi => .rp (g id) lo hi
  | .pt id p => .pt (g id) p
  | .el id j p => .el (g id) j p
  | .ap id p lo hi => .ap (g id) p lo hi
  | .fn f a c => .fn f (ren g a) (ren g c)
  | .pr a b => .pr (ren g a) (ren g b)
  | .tu a => .tu (ren g a)
  | v => v

def renT (g : Nat → Nat) : Thing → Thing
  | .blk ty v => .blk ty (ren g v)
  | x => x

theorem ren_sz (g : Nat → Nat) : ∀ v : IV, (ren g v).sz = v.sz := by
  intro v
  induction v with
  | pr a b iha ihb => simp only [ren, IV.sz, iha, ihb]
  | _ => rfl

/-- No slice of memory that nobody changes in it. -/
def Sh.nr : Sh → Bool
  | .ro _ => false
  | .re _ => false
  | .fn _ a c => a.nr && c.nr
  | .pr a b => a.nr && b.nr
  | .ar _ t => t.flat
  | _ => true

def TSh.nr : TSh → Bool
  | .blk _ s => s.nr
  | .row _ t => t.flat
  | .fz _ => false
  | .no => true

theorem ren_R {O O2 : Own} {ρ ρ2 : List Hd} {g : Nat → Nat} (hρ : ∀ j h, ρ[j]? = some h → ρ2[g j]? = some h) : ∀ {s : Sh} {x : s.den} {ch : Bool} {cs : List Value}, (O.le O2 ∨ s.nr = true) → R O ρ ch (enc s x) cs → R O2 ρ2 ch (ren g (enc s x)) cs := by
  intro s
  induction s with
  | ro t =>
    intro x ch cs hle h
    rcases hle with hle | hle
    · cases ch <;> first | exact h.elim | exact TR.mono hle h
    · cases hle
  | re t =>
    intro x ch cs hle h
    rcases hle with hle | hle
    · cases ch <;> first | exact h.elim | (obtain ⟨b, off, c, h1, h2, all, h3, h4⟩ := h; exact ⟨b, off, c, h1, TR.mono hle h2, all, hle _ _ h3, h4⟩)
    · cases hle
  | rw j => intro x ch cs hle h; cases ch <;> first | exact h.elim | (obtain ⟨y, h1, h2⟩ := h; exact ⟨y, hρ _ _ h1, h2⟩)
  | rp j => intro x ch cs hle h; cases ch <;> first | exact h.elim | (obtain ⟨y, z, h1, h2⟩ := h; exact ⟨y, z, hρ _ _ h1, h2⟩)
  | pt j p => intro x ch cs hle h; cases ch <;> first | exact h.elim | (obtain ⟨y, z, h1, h2⟩ := h; exact ⟨y, z, hρ _ _ h1, h2⟩)
  | ap j p => intro x ch cs hle h; cases ch <;> first | exact h.elim | (obtain ⟨y, z, n, q, h1, h2⟩ := h; exact ⟨y, z, n, q, hρ _ _ h1, h2⟩)
  | fn f a c iha ihc =>
    intro x ch cs hle h
    have ha : O.le O2 ∨ a.nr = true := hle.imp_right (fun h => by simp only [Sh.nr, Bool.and_eq_true] at h; exact h.1)
    have hc : O.le O2 ∨ c.nr = true := hle.imp_right (fun h => by simp only [Sh.nr, Bool.and_eq_true] at h; exact h.2)
    cases ch <;> first | exact h.elim | (obtain ⟨xs, ys, h1, h2, h3⟩ := h; exact ⟨xs, ys, h1, iha ha h2, ihc hc h3⟩)
  | pr a b iha ihb =>
    intro x ch cs hle h
    have ha : O.le O2 ∨ a.nr = true := hle.imp_right (fun h => by simp only [Sh.nr, Bool.and_eq_true] at h; exact h.1)
    have hb : O.le O2 ∨ b.nr = true := hle.imp_right (fun h => by simp only [Sh.nr, Bool.and_eq_true] at h; exact h.2)
    cases ch with
    | true =>
      obtain ⟨y, r, h1, h2, h3⟩ := h
      refine ⟨y, r, h1, ?_, ihb hb h3⟩
      rw [agg_of_sz (ren_sz g (enc a x.1))]
      cases hg : (enc a x.1).agg with
      | true => rw [hg] at h2; obtain ⟨c0, h4, h5⟩ := h2; exact ⟨c0, h4, iha ha h5⟩
      | false => rw [hg] at h2; exact iha ha h2
    | false => obtain ⟨c0, d0, h1, h2, h3⟩ := h; exact ⟨c0, d0, h1, iha ha h2, ihb hb h3⟩
  | ar n t =>
    intro x ch cs hle h
    rcases hle with hle | hle
    · cases ch <;> first | exact h.elim | exact TR.mono (t := .ar n t) hle h
    · cases ch <;> first | exact h.elim | exact TR.flat (t := .ar n t) hle h
  | _ => intro x ch cs hle h; cases ch <;> exact h

def gb (bd : List Nat) (n : Nat) (j : Nat) : Nat :=
  match nth bd j with
  | some id => id
  | none => n + (j - bd.length)

/-- The things that came back are put where they were. -/
def putAll : Tbl → List Nat → Tbl → Tbl
  | tb, id :: ids, x :: xs => putAll (tb.set id x) ids xs
  | tb, _, _ => tb

theorem putAll_len : ∀ {ids : List Nat} {tb xs : Tbl}, (putAll tb ids xs).length = tb.length
  | [], tb, xs => by simp [putAll]
  | _ :: _, tb, [] => by simp [putAll]
  | id :: ids, tb, x :: xs => by simp only [putAll]; rw [putAll_len]; simp

theorem putAll_out : ∀ {ids : List Nat} {tb xs : Tbl} {j : Nat}, j ∉ ids → (putAll tb ids xs)[j]? = tb[j]?
  | [], tb, xs, j, _ => by simp [putAll]
  | _ :: _, tb, [], j, _ => by simp [putAll]
  | id :: ids, tb, x :: xs, j, h => by
    simp only [List.mem_cons, not_or] at h
    simp only [putAll]
    rw [putAll_out h.2, List.getElem?_set_ne (Ne.symm h.1)]

theorem putAll_in : ∀ {ids : List Nat} {tb xs : Tbl} {i j : Nat}, ids.Nodup → ids[i]? = some j → j < tb.length → i < xs.length → (putAll tb ids xs)[j]? = xs[i]?
  | [], tb, xs, i, j, _, h, _, _ => by simp at h
  | id :: ids, tb, [], i, j, _, _, _, h => by simp at h
  | id :: ids, tb, x :: xs, 0, j, hn, h, hj, hi => by
    simp at h; subst h
    rw [List.nodup_cons] at hn
    simp only [putAll]
    rw [putAll_out hn.1]
    simp [hj]
  | id :: ids, tb, x :: xs, i + 1, j, hn, h, hj, hi => by
    rw [List.nodup_cons] at hn
    simp only [putAll]
    rw [putAll_in hn.2 (by simpa using h) (by simpa using hj) (by simpa using hi)]; simp

/-- Lent rows that stay lent for ever. -/
def frzAll : Tbl → List Nat → Option Tbl
  | tb, [] => some tb
  | tb, id :: ids => match nth tb id with
    | some (.row _ t xs) => frzAll (tb.set id (.fz t xs)) ids
    | some (.fz _ _) => frzAll tb ids
    | _ => none

def chainOf : List IV → IV
  | [] => .un
  | v :: vs => .pr v (chainOf vs)

def resI : List IV → IV
  | [v] => v
  | l => .tu (chainOf l)

def isNil {α : Type} : List α → Bool
  | [] => true
  | _ => false

/-- Nothing that comes back can be a part of what was lent. -/
def safe (ct : Ct) (lt : List Nat) : Bool := isNil lt || (ct.B.all Sh.nr && ct.U.all TSh.nr)

/-- The table behind a call. -/
def tbB (m : Nat) (bd : List Nat) (tb1 : Tbl) (us : Tbl) (n : Nat) : Tbl :=
  putAll tb1 bd ((us.take m).map (renT (gb (bd.take m) n)) ++ List.replicate (bd.length - m) .no) ++ (us.drop m).map (renT (gb (bd.take m) n))

def callF {β : Type} (ct : Ct) (vs : List IV) (tb : Tbl) (k : Option IV → Tbl → List Nat → Option β) : Option β :=
  uni true ct.A ct.T [] vs tb fun x y u => match Nat.ble ct.m ct.U.length && Nat.ble ct.m u.bd.length with
    | true => match safe ct u.lt with
      | true => ct.run _ x y fun p q =>
        k (some (resI ((encs ct.B p).map (ren (gb (u.bd.take ct.m) u.tb.length))))) (tbB ct.m u.bd u.tb (encTs ct.U q) u.tb.length) u.bd
      | false => match frzAll u.tb u.lt with
        | some tb1 => ct.run _ x y fun p q =>
          k (some (resI ((encs ct.B p).map (ren (gb (u.bd.take ct.m) u.tb.length))))) (tbB ct.m u.bd tb1 (encTs ct.U q) u.tb.length) (u.bd ++ u.lt)
        | none => none
    | false => none

section
variable {P : Program} {c : Cfg} {O : Own} {ρ : List Hd} {w : World}

theorem frzAll_len : ∀ {ids : List Nat} {tb tb1 : Tbl}, frzAll tb ids = some tb1 → tb1.length = tb.length
  | [], tb, tb1, h => by simp [frzAll] at h; simp [h]
  | id :: ids, tb, tb1, h => by
    simp only [frzAll] at h
    split at h
    · rw [frzAll_len h]; simp
    · exact frzAll_len h
    · cases h

/-- What becomes of each thing. -/
theorem frzAll_get : ∀ {ids : List Nat} {tb tb1 : Tbl} {j : Nat} {x : Thing}, frzAll tb ids = some tb1 → tb1[j]? = some x → (tb[j]? = some x ∧ (j ∈ ids → ∃ t xs, x = .fz t xs)) ∨ (j ∈ ids ∧ ∃ E t xs, tb[j]? = some (.row E t xs) ∧ x = .fz t xs)
  | [], tb, tb1, j, x, h, hx => by simp [frzAll] at h; subst h; exact .inl ⟨hx, fun h => by simp at h⟩
  | id :: ids, tb, tb1, j, x, h, hx => by
    simp only [frzAll] at h
    split at h
    · rename_i E t xs hb
      rw [nth_eq] at hb
      have hid := (List.getElem?_eq_some_iff.1 hb).1
      rcases frzAll_get h hx with ⟨h1, h2⟩ | ⟨h1, E', t', xs', h2, h3⟩
      · rw [List.getElem?_set] at h1
        split at h1
        · rename_i e; subst e
          have : x = .fz t xs := by first | (rw [if_pos hid] at h1; cases h1; rfl) | (cases h1; rfl)
          exact .inr ⟨by simp, E, t, xs, hb, this⟩
        · rename_i e
          refine .inl ⟨h1, fun hj => ?_⟩
          rcases List.mem_cons.1 hj with hj | hj
          · exact absurd hj.symm e
          · exact h2 hj
      · rw [List.getElem?_set] at h2
        split at h2
        · rename_i e; subst e
          exfalso
          first
            | (rw [if_pos hid] at h2; cases h2)
            | cases h2
        · exact .inr ⟨by simp [h1], E', t', xs', h2, h3⟩
    · rename_i t xs hb
      rw [nth_eq] at hb
      rcases frzAll_get h hx with ⟨h1, h2⟩ | ⟨h1, E', t', xs', h2, h3⟩
      · refine .inl ⟨h1, fun hj => ?_⟩
        rcases List.mem_cons.1 hj with hj | hj
        · subst hj; rw [hb] at h1; cases h1; exact ⟨_, _, rfl⟩
        · exact h2 hj
      · exact .inr ⟨by simp [h1], E', t', xs', h2, h3⟩
    · cases h

theorem RL.ren {O2 : Own} {ρ2 : List Hd} {g : Nat → Nat} (hρ : ∀ j h, ρ[j]? = some h → ρ2[g j]? = some h) : ∀ {ss : List Sh} {x : dens ss} {cs : List (List Value)}, (O.le O2 ∨ ss.all Sh.nr = true) → RL O ρ (encs ss x) cs → RL O2 ρ2 ((encs ss x).map (ren g)) cs
  | [], x, cs, hle, h => h
  | s :: ss, x, cs, hle, h => by
    obtain ⟨c0, r, h1, h2, h3⟩ := h
    refine ⟨c0, r, h1, ren_R hρ (hle.imp_right (fun h => by simp only [List.all_cons, Bool.and_eq_true] at h; exact h.1)) h2, RL.ren hρ (hle.imp_right (fun h => by simp only [List.all_cons, Bool.and_eq_true] at h; exact h.2)) h3⟩

theorem szs_ren (g : Nat → Nat) : ∀ vs : List IV, szs (vs.map (ren g)) = szs vs
  | [] => rfl
  | v :: vs => by simp only [szs, List.map_cons, ren_sz] ; have := szs_ren g vs; simp only [szs] at this; rw [this]

/-- Results as one value. -/
theorem res_SR : ∀ {vs : List IV} {ds : List (List Value)}, RL O ρ vs ds → ∃ x : SV, SR O ρ (resI vs) x ∧ x.val = resV vs ds := by
  have one : ∀ {v : IV} {c : List Value}, R O ρ false v c → ∃ y : S0, S0R O ρ v y ∧ y.val = (bif v.agg then .agg c.toArray else c.headD (.bool false)) := by
    intro v c h
    cases hv : v.agg with
    | true => exact ⟨_, S0R.of_agg hv h, rfl⟩
    | false =>
      have hl := R.length h
      have hz : v.sz.size = 1 := by cases v <;> simp [IV.agg] at hv <;> rfl
      rw [hz] at hl
      obtain ⟨u, rfl⟩ := List.length_eq_one_iff.1 hl
      by_cases ho : ∃ x, v = .o x
      · obtain ⟨x, rfl⟩ := ho
        obtain ⟨h1, h2⟩ := h
        cases h1
        exact ⟨x, ⟨rfl, h2⟩, rfl⟩
      · refine ⟨.v u, ?_, rfl⟩
        cases v <;> simp [IV.agg] at hv
        case o x => exact absurd ⟨x, rfl⟩ ho
        all_goals exact ⟨u, rfl, h⟩
  have many : ∀ {vs : List IV} {ds : List (List Value)}, RL O ρ vs ds → ∃ xs : List S0, TuR O ρ (chainOf vs) xs ∧ xs.map S0.val = vals vs ds := by
    intro vs
    induction vs with
    | nil => intro ds h; exact ⟨[], rfl, by simp [vals]⟩
    | cons v vs ih =>
      intro ds h
      obtain ⟨c0, r, rfl, h1, h2⟩ := h
      obtain ⟨y, h3, h4⟩ := one h1
      obtain ⟨xs, h5, h6⟩ := ih h2
      exact ⟨y :: xs, ⟨y, xs, rfl, h3, h5⟩, by simp [vals, h4, h6]⟩
  intro vs ds h
  match vs, ds, h with
  | [v], ds, h =>
    obtain ⟨c0, r, rfl, h1, h2⟩ := h
    simp only [RL] at h2; subst h2
    obtain ⟨y, h3, h4⟩ := one h1
    exact ⟨.o y, .of_S0 h3, by simp only [SV.val, h4, resV, vals]⟩
  | [], ds, h =>
    simp only [RL] at h; subst h
    exact ⟨.t [], ⟨[], rfl, rfl⟩, by simp [SV.val, resV, vals]⟩
  | v :: u :: vs, ds, h =>
    obtain ⟨xs, h5, h6⟩ := many h
    refine ⟨.t xs, ⟨xs, rfl, h5⟩, ?_⟩
    obtain ⟨c0, r, rfl, h1, c1, r1, rfl, h2, h3⟩ := h
    simp only [SV.val, h6, resV, vals]

/-- What a call comes to. -/
def COk' {β : Type} (P : Program) (d : Bool) (c : Cfg) (O : Own) (ρ : List Hd) (w : World) (f : FuncId) (xs : List Value) (k : Option IV → Tbl → List Nat → Option β) (r : β) : Prop :=
  ∃ v tb' mu, k (some v) tb' mu = some r ∧ CallK P d f xs.toArray w (fun x w' => ∃ O' ρ' sv, x = sv.val ∧ SR O' ρ' v sv ∧ Gm O' ρ' tb' w' ∧ Stp (· ∈ mu) O ρ w O' ρ' w')

theorem callF_ok {β : Type} {d : Bool} {ct : Ct} {f : FuncId} {vs : List IV} {tb : Tbl} {k : Option IV → Tbl → List Nat → Option β} {r : β} {cs : List (List Value)} (hS : SoundK P c d f ct) (e : callF ct vs tb k = some r) (hG : GO c O) (hM : Gm O ρ tb w) (hR : RL O ρ vs cs) : COk' P d c O ρ w f (vals vs cs) k r := by
  unfold callF at e
  obtain ⟨x, y, u, O1, ρ1, e, U⟩ := uni_ok e hM hR List.nodup_nil (by simp)
  split at e <;> first | (cases e; done) | skip
  rename_i hle
  simp only [Bool.and_eq_true, Nat.ble_eq] at hle
  obtain ⟨hle, hmb⟩ := hle
  -- what both ways share
  have key : ∀ (fz : Bool) (tb1 : Tbl) (p : dens ct.B) (q : tdens ct.U), (fz = false → tb1 = u.tb ∧ safe ct u.lt = true) → (fz = true → frzAll u.tb u.lt = some tb1) → ct.run _ x y (fun p q => some (p, q)) = some (p, q) →
      CallK P d f (vals vs cs).toArray w (fun z w' => ∃ O' ρ' sv, z = sv.val ∧ SR O' ρ' (resI ((encs ct.B p).map (ren (gb (u.bd.take ct.m) u.tb.length)))) sv ∧
        Gm O' ρ' (tbB ct.m u.bd tb1 (encTs ct.U q) u.tb.length) w' ∧ Stp (· ∈ u.bd ++ (bif fz then u.lt else [])) O ρ w O' ρ' w') := by
    intro fz tb1 p q hfz0 hfz1 hrun
    have hGO : GO c (Oc u.bd u.lt O1 w) := hG.mono (U.gh.stp.im.trans (Oc_le _ _ _ _))
    have hcall := hS x y p q hrun _ _ w cs hGO U.gm U.rl
    rw [vals_sz U.sz] at hcall
    refine hcall.mono fun z w' he => ?_
    · obtain ⟨Oq, ρq, ds, gq, sq, rq, rfl⟩ := he
      -- lengths
      have hn : ρ1.length = u.tb.length := U.gh.gm.len
      have hm : ρq.length = ct.U.length := by rw [gq.len, encTs_len]
      have htb1 : tb1.length = u.tb.length := by
        cases fz with
        | false => rw [(hfz0 rfl).1]
        | true => exact frzAll_len (hfz1 rfl)
      -- blocks that were not given to the call
      have hkeep : ∀ b, b < w.heap.size → (∀ j, Oc u.bd u.lt O1 w b ≠ .th j) → w'.heap[b]? = w.heap[b]? := fun b hb hn => sq.kept.block b hb (fun ⟨j, _, e⟩ => hn j e)
      have hlow : ∀ b, O1 b ≠ .no → b < w.heap.size := fun b h => by
        rcases Nat.lt_or_ge b w.heap.size with h' | h'
        · exact h'
        · exact absurd (U.gh.gm.lt b h') h
      let g := gb (u.bd.take ct.m) u.tb.length
      have htk : (u.bd.take ct.m).length = ct.m := by rw [List.length_take]; omega
      let rl : Ow → Ow := fun o => match o with
        | .th j => .th (g j)
        | o => o
      let O2 : Own := fun b => if b < w.heap.size then (match O1 b with
        | .im all => .im all
        | .no => .no
        | .th id => match idx u.bd id with
          | some _ => rl (Oq b)
          | none => bif fz then (match idx u.lt id with
            | some _ => Oc u.bd u.lt O1 w b
            | none => .th id) else .th id) else rl (Oq b)
      let ρ2 := ρ1 ++ ρq.drop ct.m
      have hρ : ∀ j h, ρq[j]? = some h → ρ2[g j]? = some h := by
        intro j h hj
        show (ρ1 ++ ρq.drop ct.m)[gb (u.bd.take ct.m) u.tb.length j]? = some h
        unfold gb
        split
        · rename_i id hid
          rw [nth_eq, List.getElem?_take] at hid
          have hjm : j < ct.m := by
            rcases Nat.lt_or_ge j ct.m with h | h
            · exact h
            · rw [if_neg (by omega)] at hid; cases hid
          rw [if_pos hjm] at hid
          have hlt := U.in_ id (List.mem_of_getElem? hid)
          have hid1 : id < ρ1.length := by rw [hn]; exact hlt
          have h2 : ((rc u.bd ρ1).take ct.m)[j]? = some (ρ1[id]) := by
            rw [List.getElem?_take, if_pos hjm]
            simp [rc, hid, List.getD_eq_getElem?_getD, hid1]
          have := sq.pre j _ h2
          rw [hj] at this; cases this
          rw [List.getElem?_append_left hid1]; simp [hid1]
        · rename_i hid
          rw [nth_eq] at hid
          have hjm : ct.m ≤ j := by rw [List.getElem?_eq_none_iff, htk] at hid; exact hid
          rw [htk, List.getElem?_append_right (by omega), hn]
          rw [show u.tb.length + (j - ct.m) - u.tb.length = j - ct.m from by omega, List.getElem?_drop, show ct.m + (j - ct.m) = j from by omega]
          exact hj
      have hle1 : O1.le O2 := fun b all hb => by
        show (if b < w.heap.size then _ else _) = _
        rw [if_pos (hlow b (by rw [hb]; simp))]; simp only [hb]
      -- a block's owner in the call
      have back : ∀ b, b < w.heap.size → (∃ all, O1 b = .im all ∧ Oq b = .im all) ∨ (∃ id j, O1 b = .th id ∧ idx u.bd id = some j) ∨ (∃ id k all, O1 b = .th id ∧ idx u.bd id = none ∧ idx u.lt id = some k ∧ Oc u.bd u.lt O1 w b = .im all ∧ Oq b = .im all) ∨ (Oq b = .no ∧ ∀ all, O1 b ≠ .im all) := by
        intro b hb
        cases ho : O1 b with
        | im all => exact .inl ⟨all, rfl, sq.im b all (by simp only [Oc, ho])⟩
        | no => exact .inr (.inr (.inr ⟨sq.no b hb (by simp only [Oc, ho]), by simp⟩))
        | th id =>
          cases hi : idx u.bd id with
          | some j => exact .inr (.inl ⟨id, j, rfl, hi⟩)
          | none =>
            cases hl : idx u.lt id with
            | none => exact .inr (.inr (.inr ⟨sq.no b hb (by simp only [Oc, ho, hi, hl]), by simp⟩))
            | some k =>
              cases hh : w.heap[b]? with
              | none => exact .inr (.inr (.inr ⟨sq.no b hb (by simp only [Oc, ho, hi, hl, hh]), by simp⟩))
              | some ob =>
                cases ob with
                | cells a ty fzz =>
                  have : Oc u.bd u.lt O1 w b = .im a.toList := by simp only [Oc, ho, hi, hl, hh]
                  exact .inr (.inr (.inl ⟨id, k, a.toList, rfl, hi, hl, this, sq.im b _ this⟩))
                | _ => exact .inr (.inr (.inr ⟨sq.no b hb (by simp only [Oc, ho, hi, hl, hh]), by simp⟩))
      have hown : ∀ b i, Oq b = .th i → O2 b = .th (g i) := by
        intro b i hb
        show (if b < w.heap.size then _ else _) = _
        by_cases hbs : b < w.heap.size
        · rw [if_pos hbs]
          rcases back b hbs with ⟨all, _, h⟩ | ⟨id, j, ho, hi⟩ | ⟨_, _, _, _, _, _, _, h⟩ | ⟨h, _⟩
          · rw [h] at hb; cases hb
          · simp only [ho, hi, hb, rl]
          · rw [h] at hb; cases hb
          · rw [h] at hb; cases hb
        · rw [if_neg hbs]; simp only [hb, rl]
      have hinc : Oq.le O2 ∨ (ct.B.all Sh.nr = true ∧ ct.U.all TSh.nr = true) := by
        have yes : (fz = true ∨ u.lt = []) → Oq.le O2 := by
          intro hor b all hb
          show (if b < w.heap.size then _ else _) = _
          by_cases hbs : b < w.heap.size
          · rw [if_pos hbs]
            rcases back b hbs with ⟨all', h1, h⟩ | ⟨id, j, ho, hi⟩ | ⟨id, kk, all', h1, h2, h3, h4, h5⟩ | ⟨h, _⟩
            · rw [h] at hb; cases hb; simp only [h1]
            · simp only [ho, hi, hb, rl]
            · rcases hor with hor | hor
              · subst hor
                rw [h5] at hb; cases hb
                simp only [h1, h2, h3, h4, cond_true]
              · rw [hor] at h3; simp [idx] at h3
            · rw [h] at hb; cases hb
          · rw [if_neg hbs]; simp only [hb, rl]
        cases fz with
        | true => exact .inl (yes (.inl rfl))
        | false =>
          have := (hfz0 rfl).2
          simp only [safe, Bool.or_eq_true, Bool.and_eq_true] at this
          rcases this with h | h
          · exact .inl (yes (.inr (by cases hl : u.lt with | nil => rfl | cons _ _ => rw [hl] at h; cases h)))
          · exact .inr h
      -- a thing that came back
      have hthing : ∀ i t, (encTs ct.U q)[i]? = some t → Holds O2 ρ2 w' (g i) (renT g t) := by
        intro i t ht
        have hold := gq.th i t ht
        have hsh : ∃ s : TSh, ∃ z : s.den, t = encT s z ∧ (Oq.le O2 ∨ s.nr = true) := by
          have gen : ∀ (ss : List TSh) (z : tdens ss) (i : Nat), (Oq.le O2 ∨ ss.all TSh.nr = true) → (encTs ss z)[i]? = some t → ∃ s : TSh, ∃ z : s.den, t = encT s z ∧ (Oq.le O2 ∨ s.nr = true) := by
            intro ss
            induction ss with
            | nil => intro z i _ h; simp [encTs] at h
            | cons s ss ih =>
              intro z i hn h
              cases i with
              | zero => simp [encTs] at h; exact ⟨s, z.1, h.symm, hn.imp_right (fun h => by simp only [List.all_cons, Bool.and_eq_true] at h; exact h.1)⟩
              | succ i => exact ih z.2 i (hn.imp_right (fun h => by simp only [List.all_cons, Bool.and_eq_true] at h; exact h.2)) (by simpa [encTs] using h)
          exact gen ct.U q i (hinc.imp_right (·.2)) ht
        obtain ⟨s, z, rfl, hnr⟩ := hsh
        cases s with
        | blk ty s =>
          obtain ⟨h, c0, h1, h2, h3, h4, h5⟩ := hold
          exact ⟨h, c0, hρ _ _ h1, hown _ _ h2, by rw [ren_sz]; exact h3, ren_R hρ hnr h4, h5⟩
        | row E t =>
          obtain ⟨h, es, h1, h2, h3, h4, h5⟩ := hold
          refine ⟨h, es, hρ _ _ h1, h2, fun b hb => hown _ _ (h3 b hb), h4.mono (fun _ _ hT => ?_), h5⟩
          rcases hnr with hnr | hnr
          · exact TR.mono hnr hT
          · exact TR.flat hnr hT
        | fz t =>
          obtain ⟨h, h1, h2, h3⟩ := hold
          refine ⟨h, hρ _ _ h1, h2, ?_⟩
          rcases hnr with hnr | hnr
          · exact TR.mono hnr h3
          · cases hnr
        | no => trivial
      have gm2 : Gm O2 ρ2 (tbB ct.m u.bd tb1 (encTs ct.U q) u.tb.length) w' := by
        show Gm O2 ρ2 (putAll tb1 u.bd (((encTs ct.U q).take ct.m).map (renT g) ++ List.replicate (u.bd.length - ct.m) .no) ++ ((encTs ct.U q).drop ct.m).map (renT g)) w'
        refine ⟨fun b all hb => ?_, fun b hb => ?_, ?_, fun j t ht => ?_⟩
        · have hb : (if b < w.heap.size then _ else _) = Ow.im all := hb
          by_cases hbs : b < w.heap.size
          · rw [if_pos hbs] at hb
            cases ho : O1 b with
            | im all' =>
              simp only [ho] at hb; cases hb
              obtain ⟨ty, fzz, hh⟩ := U.gh.gm.im b all ho
              exact ⟨ty, fzz, by rw [hkeep b hbs (fun j h => by simp only [Oc, ho] at h; cases h)]; exact hh⟩
            | no => simp only [ho] at hb; cases hb
            | th id =>
              simp only [ho] at hb
              split at hb
              · simp only [rl] at hb
                split at hb
                · cases hb
                · exact gq.im b all hb
              · cases fz with
                | false => cases hb
                | true =>
                  simp only [cond_true] at hb
                  split at hb
                  · obtain ⟨ty, fzz, hh⟩ := U.gm.im b all hb
                    exact ⟨ty, fzz, by rw [hkeep b hbs (fun j h => by rw [hb] at h; cases h)]; exact hh⟩
                  · cases hb
          · rw [if_neg hbs] at hb
            simp only [rl] at hb
            split at hb
            · cases hb
            · exact gq.im b all hb
        · show (if b < w.heap.size then _ else _) = _
          rw [if_neg (by have := sq.kept.size; omega)]
          simp only [gq.lt b hb, rl]
        · show (ρ1 ++ ρq.drop ct.m).length = _
          simp only [List.length_append, putAll_len, List.length_map, List.length_drop, encTs_len, hn, hm, htb1]
        · rcases Nat.lt_or_ge j u.tb.length with hj | hj
          · rw [List.getElem?_append_left (by rw [putAll_len, htb1]; exact hj)] at ht
            cases hi : idx u.bd j with
            | some i =>
              have hbi := idx_some hi
              have hil : i < u.bd.length := (List.getElem?_eq_some_iff.1 hbi).1
              rw [putAll_in U.nd hbi (by rw [htb1]; exact hj) (by simp [encTs_len]; omega)] at ht
              have hml : (((encTs ct.U q).take ct.m).map (renT g)).length = ct.m := by simp [encTs_len]; omega
              rcases Nat.lt_or_ge i ct.m with him | him
              · rw [List.getElem?_append_left (by rw [hml]; exact him)] at ht
                simp only [List.getElem?_map, Option.map_eq_some_iff] at ht
                obtain ⟨t0, ht0, rfl⟩ := ht
                rw [List.getElem?_take] at ht0
                rw [if_pos him] at ht0
                have := hthing i t0 ht0
                have hg : g i = j := by show gb _ _ _ = _; unfold gb; rw [nth_eq, List.getElem?_take, if_pos him, hbi]
                rw [hg] at this; exact this
              · rw [List.getElem?_append_right (by rw [hml]; exact him)] at ht
                have := (List.mem_replicate.1 (List.mem_of_getElem? ht)).2
                subst this; trivial
            | none =>
              have hnb := idx_none hi
              rw [putAll_out hnb] at ht
              -- untouched
              have stays : ∀ t, u.tb[j]? = some t → (fz = true → j ∈ u.lt → ∃ t' xs, t = .fz t' xs) → Holds O2 ρ2 w' j t := by
                intro t ht0 hnf
                have hold := U.gh.gm.th j t ht0
                have nofr : ∀ b, O1 b = .th j → (∀ t' xs, t ≠ .fz t' xs) → O2 b = .th j ∧ w'.heap[b]? = w.heap[b]? := by
                  intro b hb hne
                  have hbs := hlow b (by rw [hb]; simp)
                  refine ⟨?_, hkeep b hbs (fun jj h => ?_)⟩
                  · show (if b < w.heap.size then _ else _) = _
                    rw [if_pos hbs]
                    simp only [hb, hi]
                    cases fz with
                    | false => rfl
                    | true =>
                      simp only [cond_true]
                      split
                      · rename_i kk hk
                        obtain ⟨t', xs, e⟩ := hnf rfl (List.mem_of_getElem? (idx_some hk))
                        exact absurd e (hne t' xs)
                      · rfl
                  · simp only [Oc, hb, hi] at h
                    split at h
                    · split at h <;> cases h
                    · cases h
                cases t with
                | blk ty v =>
                  obtain ⟨h, c0, h1, h2, h3, h4, h5⟩ := hold
                  obtain ⟨n1, n2⟩ := nofr h.b h2 (by simp)
                  exact ⟨h, c0, Pre.app _ _ _ _ h1, n1, h3, R.mono hle1 (Pre.app _ _) h4, h5.same n2⟩
                | row E t =>
                  obtain ⟨h, es, h1, h2, h3, h4, h5⟩ := hold
                  exact ⟨h, es, Pre.app _ _ _ _ h1, h2, fun b hb => (nofr b (h3 b hb) (by simp)).1, h4.mono (fun _ _ => TR.mono hle1), Rs.same (r := .row E t.size h.v _ es) (fun b hb => (nofr b (h3 b hb) (by simp)).2) h5⟩
                | fz t xs =>
                  obtain ⟨h, h1, h2, h3⟩ := hold
                  exact ⟨h, Pre.app _ _ _ _ h1, h2, TR.mono hle1 h3⟩
                | no => trivial
                | mk =>
                  obtain ⟨h, h1, h2, h3⟩ := hold
                  obtain ⟨n1, n2⟩ := nofr h.b h2 (by simp)
                  exact ⟨h, Pre.app _ _ _ _ h1, n1, by rw [n2]; exact h3⟩
              cases fz with
              | false =>
                rw [(hfz0 rfl).1] at ht
                exact stays t ht (fun h => by cases h)
              | true =>
                rcases frzAll_get (hfz1 rfl) ht with ⟨h1, h2⟩ | ⟨h1, E, t', xs, h2, rfl⟩
                · exact stays t h1 (fun _ hj => h2 hj)
                · obtain ⟨h, es, h3, h4, h5, h6, h7⟩ := U.gh.gm.th j _ h2
                  refine ⟨h, Pre.app _ _ _ _ h3, h4, ?_⟩
                  refine ⟨h.v, es, rfl, h6.mono (fun _ _ => TR.mono hle1), ofSlAt h7.rd (fun b a ty fzz hn0 hb hh => ?_)⟩
                  have ho := h5 b hb
                  have hbs := hlow b (by rw [ho]; simp)
                  show (if b < w.heap.size then _ else _) = _
                  rw [if_pos hbs]
                  have hs : ∃ kk, idx u.lt j = some kk := by
                    cases hk : idx u.lt j with
                    | none => exact absurd h1 (idx_none hk)
                    | some kk => exact ⟨kk, rfl⟩
                  obtain ⟨kk, hk⟩ := hs
                  simp only [ho, hi, hk, cond_true, Oc, hh]
          · have hlen : (putAll tb1 u.bd (((encTs ct.U q).take ct.m).map (renT g) ++ List.replicate (u.bd.length - ct.m) .no)).length = u.tb.length := by rw [putAll_len, htb1]
            rw [List.getElem?_append_right (by rw [hlen]; exact hj), hlen] at ht
            simp only [List.getElem?_map, Option.map_eq_some_iff, List.getElem?_drop] at ht
            obtain ⟨t0, ht0, rfl⟩ := ht
            have := hthing _ t0 ht0
            have hg : g (ct.m + (j - u.tb.length)) = j := by
              show gb _ _ _ = _
              unfold gb
              rw [nth_eq, List.getElem?_eq_none (by rw [htk]; omega)]
              simp only [htk]; omega
            rw [hg] at this; exact this
      have stp2 : Stp (· ∈ u.bd ++ (bif fz then u.lt else [])) O1 ρ1 w O2 ρ2 w' := by
        refine ⟨Pre.app _ _, hle1, fun b hb ho => ?_, fun b id hb ho hni => ?_, sq.kept.wide fun b ⟨j, _, ho⟩ => ?_⟩
        · show (if b < w.heap.size then _ else _) = _
          rw [if_pos hb]; simp only [ho]
        · show (if b < w.heap.size then _ else _) = _
          rw [if_pos hb]
          simp only [List.mem_append, not_or] at hni
          have h1 : idx u.bd id = none := by
            cases hi : idx u.bd id with
            | none => rfl
            | some j => exact absurd (List.mem_of_getElem? (idx_some hi)) hni.1
          simp only [ho, h1]
          cases fz with
          | false => rfl
          | true =>
            have h2 : idx u.lt id = none := by
              cases hi : idx u.lt id with
              | none => rfl
              | some j => exact absurd (List.mem_of_getElem? (idx_some hi)) hni.2
            simp only [h2, cond_true]
        · cases h1 : O1 b with
          | im all => simp only [Oc, h1] at ho; cases ho
          | no => simp only [Oc, h1] at ho; cases ho
          | th id =>
            cases hi : idx u.bd id with
            | some j' => exact ⟨id, List.mem_append_left _ (List.mem_of_getElem? (idx_some hi)), rfl⟩
            | none =>
              simp only [Oc, h1, hi] at ho
              split at ho
              · split at ho <;> cases ho
              · cases ho
      have hrl : RL O2 ρ2 ((encs ct.B p).map (ren g)) ds := RL.ren hρ (hinc.imp_right (·.1)) rq
      obtain ⟨sv, hsv, hval⟩ := res_SR hrl
      refine ⟨O2, ρ2, sv, ?_, hsv, gm2, (U.gh.stp.weak (fun _ h => by cases h)).trans stp2⟩
      rw [hval]
      simp only [resV, vals_sz (szs_ren g (encs ct.B p))]
  split at e
  · rename_i hsafe
    obtain ⟨p, q, hrun, hk⟩ := ct.nat _ x y _ r e
    refine ⟨_, _, _, hk, (key false u.tb p q (fun _ => ⟨rfl, hsafe⟩) (fun h => by cases h) hrun).mono fun z w' he => ?_⟩
    obtain ⟨O', ρ', sv, h1, h2, h3, h4⟩ := he
    exact ⟨O', ρ', sv, h1, h2, h3, h4.weak (fun i hi => by simpa using hi)⟩
  · split at e <;> first | (cases e; done) | skip
    rename_i tb1 hf
    obtain ⟨p, q, hrun, hk⟩ := ct.nat _ x y _ r e
    refine ⟨_, _, _, hk, (key true tb1 p q (fun h => by cases h) (fun _ => hf) hrun).mono fun z w' he => ?_⟩
    obtain ⟨O', ρ', sv, h1, h2, h3, h4⟩ := he
    exact ⟨O', ρ', sv, h1, h2, h3, h4.weak (fun i hi => by simpa using hi)⟩
end
end Go.Tw
