/- The core: ideal values and the evaluator. -/
import Derived.Defers
import Derived.Test.YthikoaamigiceaaGreatDoorRK1
namespace Go.Tw
set_option linter.unusedSimpArgs false
set_option linter.unusedVariables false
theorem flat_rep_get (zc:List Value):∀ (m p:Nat),p < m * zc.length->(List.replicate m zc).flatten[p]? = zc[p % zc.length]?
 | 0,p,h=>by simp at h
 | m + 1,p,h=>by
  rw [List.replicate_succ,List.flatten_cons]
  rcases Nat.lt_or_ge p zc.length with h' | h'
  ·rw [List.getElem?_append_left h',Nat.mod_eq_of_lt h']
  ·rw [List.getElem?_append_right h',flat_rep_get zc m (p - zc.length) (by rw [Nat.add_mul] at h;omega),Nat.mod_eq_sub_mod h']
theorem range_rep (zc:List Value) (hz:0 < zc.length) (m:Nat):(Array.range (m * zc.length)).map (fun x=>zc.toArray[x % zc.toArray.size]!)=(List.replicate m zc).flatten.toArray:=by
 have hl:(List.replicate m zc).flatten.length=m * zc.length:=by simp [List.length_flatten]
 apply Array.ext
 ·simp [hl]
 ·intro p h1 h2
  have hp:p < m * zc.length:=by simpa using h1
  have hmod:p % zc.length < zc.length:=Nat.mod_lt _ hz
  have e:=flat_rep_get zc m p hp
  have h3:p < (List.replicate m zc).flatten.length:=by rw [hl];exact hp
  rw [List.getElem?_eq_getElem h3,List.getElem?_eq_getElem hmod] at e
  simp only [Array.getElem_map,Array.getElem_range,List.size_toArray,List.getElem_toArray]
  rw [Option.some.inj e]
  simp [hmod]
section
variable {P:Program} {c:Cfg} {n:Nat} {a:Act} {l:Env} {il:IEnv} {O:Own} {ρ:List Hd} {tb:Tbl} {w:World} {o:Oper}
theorem run_makeG {ty e s bytes:Nat} {z:Value} {zc:List Value} {x y:Operand} {i j:Int} (he:EOk P ty e s bytes z) (hzc:z.cells=zc.toArray) (ho:o.op=.makeSlice ty x y) (hx:a.eval x=vI i) (hy:a.eval y=vI j)
  (hi:0≤i) (hij:i≤j) (hj:j≤4611686018427387904) (hbt:bytes * j≤281474976710656) :
  ∃ v w',(execOp a.eval o).run P w=.ok (.value v) w'∧Row w' e s v i.toNat (List.replicate i.toNat zc).flatten∧Kept none1 w w'∧∀ b,blockOf v b->w.heap.size≤b:=by
 obtain ⟨f,hf,hk,hb,hz⟩:=he.info
 have hsz:zc.length=s:=by have:=he.cells;rw [hzc] at this;simpa using this
 have hpos:=he.pos
 have hwi:IntKind.i64.wrap i=i:=w64_in (by omega) (by omega)
 have hwj:IntKind.i64.wrap j=j:=w64_in (by omega) (by omega)
 have hrow:=range_rep zc (by omega) j.toNat
 rw [hsz] at hrow
 have hfl:∀ m,(List.replicate m zc).flatten.length=m * s:=fun m=>by simp [List.length_flatten,hsz]
 refine ⟨.slice (some ⟨w.heap.size,0,none⟩) i.toNat j.toNat,{ w with heap:=w.heap.push (.cells (List.replicate j.toNat zc).flatten.toArray e) },?_,⟨hfl _,.inr ⟨w.heap.size,j.toNat,(List.replicate (j.toNat - i.toNat) zc).flatten,rfl,by omega,?_,?_,?_⟩⟩,kept_alloc w _,fun b hb=>by cases hb;exact Nat.le_refl _⟩
 ·simp only [execOp,ho,hx,hy]
  have c1:¬ (j < 0):=by omega
  have c2:¬ ((bytes:Int) * j > 281474976710656):=by omega
  have c3:¬ (i < 0):=by omega
  have c4:¬ (i > j):=by omega
  have hroom:∀ (q:Nat) (w:World),(askRoom q).run P w=.ok () w:=fun q w=>by unfold askRoom;split<;>rfl
  by_cases hj0:j.toNat=0
  ·have hj1:j≤0:=by omega
   simp [Instr.makeSlice,run_underlying he.slice,asInt,asIntOf,typeInfo,hf,hb,hwi,hwj,c1,c2,c3,c4,sizeOf,hk,hj0,newRow,newObj,hroom]
   have e0:Array.range 0 = #[]:=rfl
   simp [Sem.run,e0]
  ·have hj1:¬ (j.toNat * s=0):=by
    intro h
    rcases Nat.mul_eq_zero.1 h with h | h<;>omega
   have hrow':Array.map (fun x=>z.cells[x % z.cells.size]!) (Array.range (j.toNat * s))=(List.replicate j.toNat zc).flatten.toArray:=by rw [hzc];rw [← hrow]
   simp [Instr.makeSlice,run_underlying he.slice,asInt,asIntOf,typeInfo,hf,hb,hwi,hwj,c1,c2,c3,c4,sizeOf,hk,hj1,newRow,newObj,zeroValue,hz,hrow',hroom]
   simp [Sem.run]
 ·have e1:(List.replicate i.toNat zc).flatten ++ (List.replicate (j.toNat - i.toNat) zc).flatten=(List.replicate j.toNat zc).flatten:=by
   rw [← List.flatten_append,List.replicate_append_replicate,show i.toNat + (j.toNat - i.toNat)=j.toNat from by omega]
  rw [e1]
  exact blk_new e _
 ·rw [List.length_append,hfl,hfl,← Nat.add_mul];congr 1;omega
 ·simp only [maxLen];omega
def wMk {β:Type} (c:Cfg) (il:IEnv) (tb:Tbl) (k:Option IV->Tbl->Option β) (ty:Nat) (x y:Operand):Option β:=
 match c.D ty with
 | some (.slice e)=>match c.E e,iopd c il x,iopd c il y with
  | some t,some (.o (.i i)),some (.o (.i j))=>(gmake t.zero i j).bind fun xs=>k (some (.rw tb.length)) (tb ++ [.row e t xs])
  | _,_,_=>none
 | _=>none
theorem wMk_ok {β:Type} {k:Option IV->Tbl->Option β} {r:β} (hc:COk P c) (hF:Fr n a l) (hE:ER O ρ il l) (hG:GO c O) (hM:Gm O ρ tb w) {ty:Nat} {x y:Operand} (ho:o.op=.makeSlice ty x y) (e:wMk c il tb k ty x y=some r):WOk P a o O ρ w (fun _=>False) k r:=by
 unfold wMk at e
 split at e<;>first | (cases e;done) | skip
 rename_i el hd
 split at e<;>first | (cases e;done) | skip
 rename_i t i j ht hx hy
 obtain ⟨xs,hxs,e⟩:=bindS e
 obtain ⟨h0,h1,h2,rfl⟩:=gmake_some hxs
 obtain ⟨bytes,z,zc,h3,h4,h5,h6⟩:=hc.elem _ _ _ hd ht
 have hb':(bytes:Int) * j≤281474976710656:=by
  have:(bytes:Int)≤128:=by omega
  have:(bytes:Int) * j≤128 * j:=Int.mul_le_mul_of_nonneg_right this (by omega)
  omega
 obtain ⟨v,w',h7,h8,h9,h10⟩:=run_makeG (P:=P) (w:=w) h3 h5 ho (opd_val hF (iopd_o hE hG hx).1) (opd_val hF (iopd_o hE hG hy).1) h0 h1 (by omega) hb'
 refine new_row hM h7 h9 (by simpa using h8) h10 (LR.replicate (h6 O) _) e
theorem Gm.frz {id E:Nat} {t:Ty} {xs:List t.den} {tb:Tbl} (hM:Gm O ρ tb w) (hb:tb[id]? = some (.row E t xs)):∃ O' h,ρ[id]? = some h∧Gm O' ρ (tb.set id (.fz t xs)) w∧Stp (· = id) O ρ w O' ρ w∧TR O' (.sl t) xs [h.v]∧(∀ b j,j ≠ id->O b=.th j->O' b=.th j)∧h.z=t.sz:=by
 obtain ⟨h,es,h1,h2,h3,h4,h5⟩:=hM.th _ _ hb
 have hsl:=h5.isSl
 obtain ⟨q,m,cp,hv⟩:∃ q m cp,h.v=.slice q m cp:=by cases hv:h.v<;>first | exact ⟨_,_,_,rfl⟩ | (rw [hv] at hsl;cases hsl)
 have hid:=(List.getElem?_eq_some_iff.1 hb).1
 have h5':=h5
 obtain ⟨hl,h6⟩:=h5'
 rcases h6 with ⟨hn,h0⟩ | ⟨b,cap,sp,hv',hnc,hblk,hcap,hmx⟩
 ·have hx:xs=[]:=List.eq_nil_of_length_eq_zero h0
  have hT:TR O (.sl t) xs [h.v]:=by subst hx;rw [hn];exact ⟨_,[],rfl,rfl,.inl ⟨rfl,none,0,rfl⟩⟩
  obtain ⟨g1,g2⟩:=hM.set (x':=.fz t xs) hid (Kept.refl _ w) ⟨h,h1,h2,hT⟩
  exact ⟨O,h,h1,g1,g2,hT,fun _ _ _ e=>e,h2⟩
 ·have hown:O b=.th id:=h3 b (by rw [hv'];rfl)
  obtain ⟨fz,hh,_⟩:=hblk
  have hle:O.le (fun b'=>bif Nat.beq b b' then .im (es ++ sp) else O b'):=fun b' all e=>by
   cases e':Nat.beq b b' with
   | true=>have:=Nat.eq_of_beq_eq_true e';subst this;rw [hown] at e;cases e
   | false=>simp only [e',cond_false];exact e
  have hT:TR (fun b'=>bif Nat.beq b b' then .im (es ++ sp) else O b') (.sl t) xs [h.v]:=by
   refine ⟨_,es,rfl,h4.mono (fun _ _=>TR.mono hle),.inr ⟨b,0,cap,hv',hnc,es ++ sp,by simp,fun j c hj=>?_⟩⟩
   rw [Nat.zero_add,List.getElem?_append_left (List.getElem?_eq_some_iff.1 hj).1];exact hj
  have hoth:∀ b' j,j ≠ id->O b'=.th j->(bif Nat.beq b b' then Ow.im (es ++ sp) else O b')=.th j:=fun b' j hj e=>by
   cases e':Nat.beq b b' with
   | true=>have:=Nat.eq_of_beq_eq_true e';subst this;rw [hown] at e;cases e;exact absurd rfl hj
   | false=>exact e
  obtain ⟨g1,g2⟩:=hM.step (M:=(· = id)) (O':=fun b'=>bif Nat.beq b b' then .im (es ++ sp) else O b') (ρ':=ρ) (tb':=tb.set id (.fz t xs)) (w':=w) (Kept.refl _ _)
   (fun b' _ hn=>by
    cases e':Nat.beq b b' with
    | true=>have:=Nat.eq_of_beq_eq_true e';subst this;exact absurd hown (hn id rfl)
    | false=>rfl)
   (fun b' hb'=>by
    cases e':Nat.beq b b' with
    | true=>have:=Nat.eq_of_beq_eq_true e';subst this;rw [hM.lt _ hb'] at hown;cases hown
    | false=>exact hM.lt b' hb')
   (fun b' all e=>by
    cases e':Nat.beq b b' with
    | true=>have:=Nat.eq_of_beq_eq_true e';subst this;simp only [e',cond_true,Ow.im.injEq] at e;subst e;exact .inr ⟨_,_,hh⟩
    | false=>simp only [e',cond_false] at e;exact .inl e)
   (.refl _) (by simp [hM.len]) (fun j x hx=>by
    rw [List.getElem?_set] at hx
    split at hx
    ·rename_i e;subst e
     have:x=.fz t xs:=by first | (rw [if_pos hid] at hx;cases hx;rfl) | (cases hx;rfl)
     subst this;exact .inr ⟨h,h1,h2,hT⟩
    ·rename_i e;exact .inl ⟨hx,fun h=>e h.symm⟩)
  exact ⟨_,h,h1,g1,g2,hT,hoth,h2⟩
def frzIV:IV->Tbl->Option Tbl
 | .rw id,tb=>match nth tb id with
  | some (.row _ t xs)=>some (tb.set id (.fz t xs))
  | some (.fz _ _)=>some tb
  | _=>none
 | .pr a b,tb=>match frzIV a tb with
  | some tb=>frzIV b tb
  | none=>none
 | _,tb=>some tb
def frzL:List (Nat×IV)->Tbl->Option Tbl
 | [],tb=>some tb
 | (_,v) :: r,tb=>match frzIV v tb with
  | some tb=>frzL r tb
  | none=>none
def idsD:IV->List Nat
 | .rw id=>[id]
 | .pr a b=>idsD a ++ idsD b
 | _=>[]
def idsL:List (Nat×IV)->List Nat
 | []=>[]
 | (_,v) :: r=>idsD v ++ idsL r
def litIds (c:Cfg) (il:IEnv) (ps:List (Nat×Operand)):List Nat:=match iparts c il ps with
 | some vs=>idsL vs
 | none=>[]
theorem frzIV_ok:∀ {v:IV} {tb tb':Tbl} {O:Own} {ρ:List Hd} {w:World},frzIV v tb=some tb'->Gm O ρ tb w->∃ O',Gm O' ρ tb' w∧Stp (· ∈ idsD v) O ρ w O' ρ w∧tb'.length=tb.length:=by
 intro v
 induction v with
 | rw id=>
  intro tb tb' O ρ w e hM
  simp only [frzIV] at e
  split at e<;>first | (cases e;done) | skip
  ·rename_i E t xs hb
   rw [nth_eq] at hb
   cases e
   obtain ⟨O',h,h1,g1,g2,_⟩:=hM.frz hb
   exact ⟨O',g1,g2.weak (fun i e=>by subst e;simp [idsD]),by simp⟩
  ·cases e;exact ⟨O,hM,.refl _ _ _ _,rfl⟩
 | pr a b iha ihb=>
  intro tb tb' O ρ w e hM
  simp only [frzIV] at e
  split at e<;>first | (cases e;done) | skip
  rename_i tb1 h1
  obtain ⟨O1,g1,g2,g3⟩:=iha h1 hM
  obtain ⟨O2,k1,k2,k3⟩:=ihb e g1
  exact ⟨O2,k1,(g2.weak (fun i h=>by simp [idsD,h])).trans (k2.weak (fun i h=>by simp [idsD,h])),k3.trans g3⟩
 | _=>intro tb tb' O ρ w e hM;simp only [frzIV,Option.some.injEq] at e;subst e;exact ⟨O,hM,.refl _ _ _ _,rfl⟩
theorem frzL_ok:∀ {vs:List (Nat×IV)} {tb tb':Tbl} {O:Own} {ρ:List Hd} {w:World},frzL vs tb=some tb'->Gm O ρ tb w->∃ O',Gm O' ρ tb' w∧Stp (· ∈ idsL vs) O ρ w O' ρ w∧tb'.length=tb.length
 | [],tb,tb',O,ρ,w,e,hM=>by simp only [frzL,Option.some.injEq] at e;subst e;exact ⟨O,hM,.refl _ _ _ _,rfl⟩
 | (i,v) :: r,tb,tb',O,ρ,w,e,hM=>by
  simp only [frzL] at e
  split at e<;>first | (cases e;done) | skip
  rename_i tb1 h1
  obtain ⟨O1,g1,g2,g3⟩:=frzIV_ok h1 hM
  obtain ⟨O2,k1,k2,k3⟩:=frzL_ok e g1
  exact ⟨O2,k1,(g2.weak (fun i h=>by simp [idsL,h])).trans (k2.weak (fun i h=>by simp [idsL,h])),k3.trans g3⟩
def toPT (tb:Tbl):(t:Ty)->IV->Option t.den
 | .sl t,v=>match v with
  | .rw id=>match nth tb id with
   | some (.fz t' xs)=>castR (Ty.eq? t' t) xs
   | _=>none
  | v=>v.asSl t
 | .pr a b,v=>match v with
  | .pr x y=>match toPT tb a x,toPT tb b y with
   | some x,some y=>some (x,y)
   | _,_=>none
  | _=>none
 | .i,v=>v.asI
 | .u8,v=>v.asU8
 | .u32,v=>v.asU32
 | .u64,v=>v.asU64
 | .bo,v=>v.asB
 | .s,v=>v.asS
 | .un,v=>match v with
  | .un=>some ()
  | _=>none
 | .ar n t,v=>v.asAr n t
theorem toPT_R {tb:Tbl} {w:World} (hM:Gm O ρ tb w):∀ {t:Ty} {v:IV} {x:t.den} {cs:List Value},toPT tb t v=some x->R O ρ false v cs->TR O t x cs:=by
 intro t
 induction t with
 | sl t ih=>
  intro v x cs e h
  cases v<;>first | exact toP_R (t:=.sl t) e h | skip
  rename_i id
  simp only [toPT] at e
  split at e<;>first | (cases e;done) | skip
  rename_i t' xs hb
  obtain ⟨e1,he1⟩:=castR_ok e
  subst e1
  have he1:x=xs:=he1
  subst he1
  rw [nth_eq] at hb
  obtain ⟨h',h1,h2,h3⟩:=hM.th _ _ hb
  obtain ⟨h0,h4,h5,_⟩:=h
  rw [h1] at h4;cases h4
  subst h5
  exact h3
 | pr a b iha ihb=>
  intro v x cs e h
  cases v<;>simp only [toPT] at e<;>first | (cases e;done) | skip
  split at e<;>first | (cases e;done) | skip
  rename_i x1 y1 h1 h2
  cases e
  obtain ⟨c,d,rfl,h3,h4⟩:=h
  exact ⟨c,d,rfl,iha h1 h3,ihb h2 h4⟩
 | i=>intro v x cs e h;exact toP_R (t:=.i) e h
 | u8=>intro v x cs e h;exact toP_R (t:=.u8) e h
 | u32=>intro v x cs e h;exact toP_R (t:=.u32) e h
 | u64=>intro v x cs e h;exact toP_R (t:=.u64) e h
 | bo=>intro v x cs e h;exact toP_R (t:=.bo) e h
 | s=>intro v x cs e h;exact toP_R (t:=.s) e h
 | un=>intro v x cs e h;exact toP_R (t:=.un) e h
 | ar n t _=>intro v x cs e h;exact toP_R (t:=.ar n t) e h
def numb (tb:Tbl) (t:Ty):Nat->List (Nat×IV)->Option (List t.den)
 | _,[]=>some []
 | q,(i,u) :: r=>match Nat.beq i q,toPT tb t u,numb tb t (q + 1) r with
  | true,some x,some xs=>some (x :: xs)
  | _,_,_=>none
theorem PaR.mono {O O':Own} {ρ ρ':List Hd} (hO:O.le O') (hρ:Pre ρ ρ'):∀ {ps:List (Nat×IV)} {ys:List (Nat×Value)},PaR O ρ ps ys->PaR O' ρ' ps ys
 | [],ys,h=>h
 | (i,v) :: r,ys,h=>by
  obtain ⟨x,rest,cs,rfl,h1,h2,h3⟩:=h
  exact ⟨x,rest,cs,rfl,h1,R.mono hO hρ h2,PaR.mono hO hρ h3⟩
theorem WOk.pre {β:Type} {P:Program} {a:Act} {o:Oper} {O O1:Own} {ρ ρ1:List Hd} {w:World} {M M1:Nat->Prop} {k:Option IV->Tbl->Option β} {r:β} (h:Stp M O ρ w O1 ρ1 w) (hk:WOk P a o O1 ρ1 w M1 k r) (hm:∀ i,M1 i->M i):WOk P a o O ρ w M k r:=by
 obtain ⟨v,x,tb',O',ρ',w',h1,h2,h3,h4⟩:=hk
 exact ⟨v,x,tb',O',ρ',w',h1,h2,h.trans (h3.weak hm),h4⟩
theorem spl_next {cs us vs:List Value} {q:Nat} (h:q + us.length + vs.length≤cs.length):spl (spl cs q us) (q + us.length) vs=spl cs q (us ++ vs):=by
 have hA:(cs.take q ++ us).length=q + us.length:=by rw [List.length_append,List.length_take];omega
 have e1:spl cs q us=(cs.take q ++ us) ++ cs.drop (q + us.length):=rfl
 have e2:spl (spl cs q us) (q + us.length) vs=(cs.take q ++ us) ++ vs ++ (cs.drop (q + us.length)).drop vs.length:=by
  rw [e1]
  unfold spl
  rw [← hA,List.take_left,List.drop_length_add_append]
 rw [e2,List.drop_drop]
 simp [spl,Nat.add_assoc]
theorem numb_ok {tb:Tbl} {w:World} (hM:Gm O ρ tb w) {t:Ty}:∀ {ps:List (Nat×IV)} {ys:List (Nat×Value)} {q:Nat} {xs:List t.den},numb tb t q ps=some xs->PaR O ρ ps ys->xs.length=ps.length∧∃ es,LR (TR O t) xs es∧∀ cs:List Value,(q + ps.length) * t.size≤cs.length ->
  Instr.fill (fun i=>some (i * t.size,t.size)) cs.toArray ys=some (spl cs (q * t.size) es).toArray
 | [],ys,q,xs,e,h=>by
  simp only [numb,Option.some.injEq] at e;subst e
  simp only [PaR] at h;subst h
  exact ⟨rfl,[],rfl,fun cs _=>by simp [Instr.fill,spl]⟩
 | (i,u) :: ps,ys,q,xs,e,h=>by
  obtain ⟨x,rest,us,rfl,h1,h2,h3⟩:=h
  simp only [numb] at e
  split at e<;>first | (cases e;done) | skip
  rename_i y ys' hiq hy hys
  simp only [Option.some.injEq] at e;subst e
  have hiq:=Nat.eq_of_beq_eq_true hiq
  subst hiq
  have hT:=toPT_R hM hy h2
  have hul:=TR.length hT
  obtain ⟨hl,es,h4,h5⟩:=numb_ok hM hys h3
  have hel:=LR.length (fun _ _=>TR.length) h4
  refine ⟨by simp [hl],us ++ es,⟨us,es,rfl,hT,h4⟩,fun cs hcs=>?_⟩
  simp only [List.length_cons] at hcs
  have hb:i * t.size + t.size + ps.length * t.size≤cs.length:=by
   have:(i + (ps.length + 1)) * t.size=i * t.size + t.size + ps.length * t.size:=by rw [Nat.add_mul,Nat.add_mul];omega
   omega
  refine fill_put (off:=i * t.size) (k:=t.size) rfl h1 hul (by omega) ?_
  have hle:(spl cs (i * t.size) us).length=cs.length:=spl_len (by omega)
  rw [h5 _ (by rw [hle,Nat.add_mul,Nat.add_mul];omega)]
  rw [show (i + 1) * t.size=i * t.size + us.length from by rw [Nat.add_mul,hul];omega]
  rw [spl_next (by rw [hel,hl];omega)]
def chn:Nat->List (Nat×IV)->Option IV
 | _,[]=>some .un
 | q,(i,u) :: r=>match Nat.beq i q,u.sz,chn (q + 1) r with
  | true,.one,some v=>some (.pr u v)
  | _,_,_=>none
theorem chn_ok:∀ {ps:List (Nat×IV)} {ys:List (Nat×Value)} {q:Nat} {v:IV},chn q ps=some v->PaR O ρ ps ys->v.sz=ones ps.length∧∃ es,R O ρ false v es∧es.length=ps.length∧∀ cs:List Value,q + ps.length≤cs.length ->
  Instr.fill (fun i=>some (i * 1,1)) cs.toArray ys=some (spl cs q es).toArray
 | [],ys,q,v,e,h=>by
  simp only [chn,Option.some.injEq] at e;subst e
  simp only [PaR] at h;subst h
  exact ⟨rfl,[],rfl,rfl,fun cs _=>by simp [Instr.fill,spl]⟩
 | (i,u) :: ps,ys,q,v,e,h=>by
  obtain ⟨x,rest,us,rfl,h1,h2,h3⟩:=h
  simp only [chn] at e
  split at e<;>first | (cases e;done) | skip
  rename_i v' hiq hsz hv'
  simp only [Option.some.injEq] at e;subst e
  have hiq:=Nat.eq_of_beq_eq_true hiq
  subst hiq
  have hul:us.length=1:=by rw [R.length h2,hsz];rfl
  obtain ⟨hl,es,h4,h5,h6⟩:=chn_ok hv' h3
  refine ⟨by simp [IV.sz,ones,hsz,hl],us ++ es,⟨us,es,rfl,h2,h4⟩,by simp [hul,h5];omega,fun cs hcs=>?_⟩
  simp only [List.length_cons] at hcs
  refine fill_put (off:=i * 1) (k:=1) rfl h1 hul (by omega) ?_
  have hle:(spl cs (i * 1) us).length=cs.length:=spl_len (by omega)
  rw [h6 _ (by rw [hle];omega)]
  rw [show i + 1=i * 1 + us.length from by rw [hul];omega]
  rw [spl_next (by rw [h5];omega),Nat.mul_one]
def wLit {β:Type} (c:Cfg) (il:IEnv) (tb:Tbl) (k:Option IV->Tbl->Option β) (ty len:Nat) (ps:List (Nat×Operand)):Option β:=
 match c.D ty with
 | some (.slice e)=>match c.E e,iparts c il ps with
  | some t,some vs=>match frzL vs tb with
   | some tb1=>match Nat.beq vs.length len,Nat.ble (len * t.size) 16777216,numb tb1 t 0 vs with
    | true,true,some xs=>k (some (.rw tb1.length)) (tb1 ++ [.row e t xs])
    | _,_,_=>none
   | none=>none
  | none,some vs=>match c.W e,Nat.beq vs.length len,Nat.ble len 1000,chn 0 vs with
   | true,true,true,some v=>k (some (.ps tb.length len)) (tb ++ [.blk e v])
   | _,_,_,_=>none
  | _,_=>none
 | _=>none
theorem wLit_ok {β:Type} {k:Option IV->Tbl->Option β} {r:β} (hc:COk P c) (hF:Fr n a l) (hE:ER O ρ il l) (hG:GO c O) (hM:Gm O ρ tb w) {ty len:Nat} {ps:Array (Nat×Operand)} (ho:o.op=.buildSlice ty len ps) (e:wLit c il tb k ty len ps.toList=some r):WOk P a o O ρ w (· ∈ litIds c il ps.toList) k r:=by
 unfold wLit at e
 split at e<;>first | (cases e;done) | skip
 rename_i el hd
 split at e<;>first | (cases e;done) | skip
 ·rename_i t vs ht hps
  split at e<;>first | (cases e;done) | skip
  rename_i tb1 hfz
  split at e<;>first | (cases e;done) | skip
  rename_i xs hlen hle hxs
  obtain ⟨O1,hM1,hS1,hl1⟩:=frzL_ok hfz hM
  have hids:litIds c il ps.toList=idsL vs:=by simp [litIds,hps]
  rw [hids]
  refine WOk.pre hS1 (M1:=fun _=>False) ?_ (fun _ h=>h.elim)
  have hlen:=Nat.eq_of_beq_eq_true hlen
  have hle:len * t.size≤16777216:=by simpa using hle
  obtain ⟨bytes,z,zc,h3,h4,h5,h6⟩:=hc.elem _ _ _ hd ht
  obtain ⟨f,hf,hk,hbt,hz⟩:=h3.info
  have hsz:zc.length=t.size:=by have:=h3.cells;rw [h5] at this;simpa using this
  have hpos:=h3.pos
  obtain ⟨hxl,es,h7,h8⟩:=numb_ok hM1 hxs (PaR.mono hS1.im hS1.pre (iparts_ok hF hE hG hps))
  have hel:=LR.length (fun _ _=>TR.length) h7
  have hfl:∀ m,(List.replicate m zc).flatten.length=m * t.size:=fun m=>by simp [List.length_flatten,hsz]
  have hfill:=h8 (List.replicate len zc).flatten (by rw [hfl,Nat.zero_add,hlen];exact Nat.le_refl _)
  have hes:spl (List.replicate len zc).flatten (0 * t.size) es=es:=by
   simp only [spl,Nat.zero_mul,List.take_zero,List.nil_append]
   rw [List.drop_of_length_le (by rw [hfl,hel,hxl,hlen];omega),List.append_nil]
  rw [hes] at hfill
  have hrow:=range_rep zc (by omega) len
  rw [hsz] at hrow
  have hxl':xs.length=len:=hxl.trans hlen
  have hpos1:len≤len * t.size:=by
   have:=Nat.mul_le_mul_left len hpos
   simpa using this
  refine new_row (v:=.slice (some ⟨w.heap.size,0,none⟩) len len) (w':={ w with heap:=w.heap.push (.cells es.toArray el) }) hM1 ?_ (kept_alloc w _) ⟨hel,.inr ⟨w.heap.size,len,[],by rw [hxl'],by omega,by simpa using blk_new el es,by simp [hel,hxl'],by simp only [maxLen];omega⟩⟩
   (fun b hb=>by cases hb;exact Nat.le_refl _) h7 e
  simp only [execOp,ho]
  have c0:¬ (len * t.size > 2 ^ 24):=by omega
  have hps':(ps.map fun (i,x)=>(i,a.eval x)).toList=ps.toList.map fun (i,x)=>(i,a.eval x):=by simp
  have hrun:(Instr.buildSlice ty len (ps.map fun (i,x)=>(i,a.eval x))).run P w=.ok (.slice (some ⟨w.heap.size,0,none⟩) len len) { w with heap:=w.heap.push (.cells es.toArray el) }:=by
   by_cases h0:len * t.size=0
   ·have hl0:len=0:=by omega
    subst hl0
    have e0:Array.range 0 = #[]:=rfl
    have hfill':Instr.fill (fun i=>some (i * t.size,t.size)) #[] (ps.toList.map fun (i,x)=>(i,a.eval x))=some es.toArray:=by simpa using hfill
    unfold Instr.buildSlice
    simp only [Sem.run_bind,run_underlying h3.slice,Result.andThen_ok,sizeOf,typeInfo,Sem.run,hf,hk,hps',Nat.zero_mul,e0]
    simp [Sem.run,newRow,newObj,pure,hf,hk,e0,hfill',hps']
   ·have hrow':Array.map (fun x=>z.cells[x % z.cells.size]!) (Array.range (len * t.size))=(List.replicate len zc).flatten.toArray:=by rw [h5];rw [← hrow]
    have hs:=hc.tok.size
    unfold Instr.buildSlice
    simp [run_underlying h3.slice,sizeOf,typeInfo,hf,hk,zeroValue,hz,h0,c0,newRow,newObj,pure,Sem.run,hps']
    have hfill':Instr.fill (fun i=>some (i * t.size,t.size)) (List.replicate len zc).flatten.toArray (ps.toList.map fun x=>(x.fst,a.eval x.snd))=some es.toArray:=hfill
    rw [hrow',hfill']
    rfl
  simp [hrun]
 ·rename_i vs ht hps
  split at e<;>first | (cases e;done) | skip
  rename_i v hw hlen hle hch
  have hlen:=Nat.eq_of_beq_eq_true hlen
  have hle:len≤1000:=by simpa using hle
  obtain ⟨bytes,z,h3⟩:=hc.one _ _ hd hw
  obtain ⟨f,hf,hk,hbt,hz⟩:=h3.info
  obtain ⟨zc,hzc⟩:∃ zc,z.cells = #[zc]:=by
   have:=h3.cells
   obtain ⟨l⟩:∃ l,z.cells=⟨l⟩:=⟨z.cells.toList,by simp⟩
   rename_i hl
   rw [hl] at this
   match l,this with
   | [x],_=>exact ⟨x,hl⟩
   | [],h=>simp at h
   | _ :: _ :: _,h=>simp at h
  obtain ⟨hsz,es,h4,h5,h6⟩:=chn_ok hch (iparts_ok hF hE hG hps)
  have hfill:=h6 (List.replicate len zc) (by simp;omega)
  have hes:spl (List.replicate len zc) 0 es=es:=by
   simp only [spl,List.take_zero,List.nil_append]
   rw [List.drop_of_length_le (by simp;omega),List.append_nil]
  rw [hes] at hfill
  have hle':O.le (fun b=>bif Nat.beq w.heap.size b then .th tb.length else O b):=fun b all e=>by
   cases e':Nat.beq w.heap.size b with
   | true=>have:=Nat.eq_of_beq_eq_true e';rw [hM.lt b (by omega)] at e;cases e
   | false=>simp only [e',cond_false];exact e
  have hat:(ρ ++ [(⟨w.heap.size,v.sz,.bool false⟩:Hd)])[tb.length]? = some ⟨w.heap.size,v.sz,.bool false⟩:=by rw [← hM.len];simp
  obtain ⟨g1,g2⟩:=hM.new (h:=⟨w.heap.size,v.sz,.bool false⟩) (x:=.blk el v) (Nat.beq w.heap.size) (kept_alloc w (.cells es.toArray el)) (fun b hbb=>by have:=Nat.eq_of_beq_eq_true hbb;subst this;simp)
   ⟨_,es,hat,by simp,rfl,R.mono hle' (.app _ _) h4,blk_new el es⟩
  refine ⟨some (.ps tb.length len),.o (.v (.slice (some ⟨w.heap.size,0,none⟩) len len)),_,_,_,_,⟨.of_S0 (v:=.ps tb.length len) ⟨_,rfl,_,hat,by rw [hsz,hlen],rfl⟩,?_⟩,g1,g2.weak (fun _ h=>h.elim),e⟩
  simp only [execOp,ho]
  have hps':(ps.map fun (i,x)=>(i,a.eval x)).toList=ps.toList.map fun (i,x)=>(i,a.eval x):=by simp
  have c0:¬ (len * 1 > 2 ^ 24):=by omega
  have hrun:(Instr.buildSlice ty len (ps.map fun (i,x)=>(i,a.eval x))).run P w=.ok (.slice (some ⟨w.heap.size,0,none⟩) len len) { w with heap:=w.heap.push (.cells es.toArray el) }:=by
   have hrow:Array.map (fun x=>z.cells[x % z.cells.size]!) (Array.range len)=(List.replicate len zc).toArray:=by
    rw [hzc]
    apply Array.ext'
    rw [Array.toList_map]
    apply List.ext_getElem
    ·simp
    ·intro i h1 h2;simp [Nat.mod_one]
   by_cases h0:len=0
   ·subst h0
    have hes0:es=[]:=List.length_eq_zero_iff.1 (by omega)
    subst hes0
    have e0:Array.range 0 = #[]:=rfl
    have hfill':Instr.fill (fun i=>some (i * 1,1)) #[] (ps.toList.map fun (i,x)=>(i,a.eval x))=some #[]:=by simpa using hfill
    unfold Instr.buildSlice
    simp only [Sem.run_bind,run_underlying h3.slice,Result.andThen_ok,sizeOf,typeInfo,Sem.run,hf,hk,hps',Nat.zero_mul,e0]
    simp [Sem.run,newRow,newObj,pure,hf,hk,e0,hps']
    have hfill2:Instr.fill (fun i=>some (i,1)) #[] (List.map (fun x=>(x.fst,a.eval x.snd)) ps.toList)=some #[]:=by
     have:=hfill'
     simp only [Nat.mul_one] at this
     exact this
    rw [hfill2]
    rfl
   ·unfold Instr.buildSlice
    have c1:¬ (16777216 < len):=by omega
    simp [run_underlying h3.slice,sizeOf,typeInfo,hf,hk,zeroValue,hz,h0,c0,c1,newRow,newObj,pure,Sem.run,hps']
    have hfill':Instr.fill (fun i=>some (i,1)) (List.replicate len zc).toArray (ps.toList.map fun x=>(x.fst,a.eval x.snd))=some es.toArray:=by
     have:=hfill
     simp only [Nat.mul_one] at this
     exact this
    rw [hrow,hfill']
    rfl
  simp [hrun]
def srcI {β:Type} (c:Cfg) (il:IEnv) (tb:Tbl) (t:Ty) (ty2:Nat) (B:Operand) (k:List t.den->Option β):Option β:=
 match c.D ty2,iopd c il B with
 | some .string,some (.o (.s s))=>match castR (Ty.eq? .u8 t) s with
  | some ys=>k ys
  | none=>none
 | some (.slice _),some v=>match v.agg with
  | false=>cont t tb v k
  | true=>none
 | _,_=>none
theorem LR_map_u8:∀ (xs:List UInt8),LR (TR O .u8) xs (xs.map vU8)
 | []=>rfl
 | x :: xs=>⟨[vU8 x],xs.map vU8,rfl,rfl,LR_map_u8 xs⟩
theorem first_str' (s:List UInt8) (m:Nat) (w':World):(Builtin.firstCells 1 m (vS s)).run P w'=.ok ((s.map vU8).take m).toArray w':=by
 have hx:((ByteArray.mk s.toArray).extract 0 m).data=(s.take m).toArray:=by simp [ByteArray.data_extract]
 simp only [Builtin.firstCells,hx]
 simp [List.map_take]
theorem srcI_ok {β:Type} {t:Ty} {ty2:Nat} {B:Operand} {k:List t.den->Option β} {r:β} (hc:COk P c) (hF:Fr n a l) (hE:ER O ρ il l) (hG:GO c O) (hM:Gm O ρ tb w) (e:srcI c il tb t ty2 B k=some r) :
  ∃ ys es d2,k ys=some r∧LR (TR O t) ys es∧P.underlying ty2=some d2∧(∀ q,d2 ≠ .int q)∧(∀ w':World,(Builtin.lenOf (a.eval B)).run P w'=.ok ys.length w')∧∀ w':World,w'.heap=w.heap->∀ m,m≤ys.length->(Builtin.firstCells t.size m (a.eval B)).run P w'=.ok (es.take (m * t.size)).toArray w':=by
 unfold srcI at e
 split at e<;>first | (cases e;done) | skip
 ·rename_i s hd hB
  split at e<;>first | (cases e;done) | skip
  rename_i ys hcast
  have hv:=opd_val hF (iopd_o hE hG hB).1
  obtain ⟨e1,rfl⟩:=castR_ok hcast
  subst e1
  refine ⟨_,s.map vU8,_,e,LR_map_u8 s,hc.tok.desc _ _ hd,(fun q h=>by cases h),fun w'=>?_,fun w' _ m hm=>?_⟩
  ·rw [hv];simp [Builtin.lenOf,SV.val,S0.val,size_mk,castL]
  ·rw [hv]
   have:=first_str' (P:=P) s m w'
   simpa [Ty.size] using this
 ·rename_i el v hd hB
  split at e<;>first | (cases e;done) | skip
  rename_i hag
  have ht:∀ ch,v ≠ .tu ch:=fun ch ee=>by subst ee;simp [cont] at e
  obtain ⟨u,hu,hR,_⟩:=iopd_1 hE hG hB hag ht hF
  obtain ⟨xs,es,hk,hL,hrd,_⟩:=cont_ok hM e hR
  have hr:=hrd w (Sm.refl _ _ _)
  refine ⟨xs,es,_,hk,hL,hc.tok.desc _ _ hd,(fun q h=>by cases h),fun w'=>?_,fun w' hw m hm=>?_⟩
  ·rw [hu];exact lenOf_rd hr w'
  ·rw [hu]
   exact run_first (P:=P) (w:=w') (Rd.same hr (fun b _ _=>by rw [hw])) m hm
def wApp1 {β:Type} (c:Cfg) (il:IEnv) (tb:Tbl) (k:Option IV->Tbl->Option β) (ty ty2:Nat) (A B:Operand):Option β:=
 match c.D ty with
 | some (.slice e)=>match c.E e with
  | some t=>match iopd c il A with
   | some (.rw id)=>match nth tb id with
    | some (.row E t' xs)=>match Nat.beq E e,castR (Ty.eq? t' t) xs with
     | true,some xs=>srcI c il tb t ty2 B fun ys=>(gapp xs ys).bind fun zs=>k (some (.rw tb.length)) (tb.set id .no ++ [.row e t zs])
     | _,_=>none
    | _=>none
   | some v=>match v.asNil with
    | true=>srcI c il tb t ty2 B fun ys=>(gapp [] ys).bind fun zs=>k (some (.rw tb.length)) (tb ++ [.row e t zs])
    | false=>none
   | none=>none
  | none=>none
 | _=>none
theorem run_app' {ty ty2 e s bytes:Nat} {z v:Value} {m len:Nat} {xs ys:List Value} {d2:TypeDesc} {A B:Operand} (he:EOk P ty e s bytes z) (h2:P.underlying ty2=some d2) (hd2:∀ q,d2 ≠ .int q) (ho:o.op=.call ⟨.builtin .append,#[A,B],#[ty,ty2]⟩) (hA:a.eval A=v)
  (hr:Row w e s v len xs) (hlen:∀ w:World,(Builtin.lenOf (a.eval B)).run P w=.ok m w) (hys:ys.length=m * s) (hx:∀ w':World,w'.heap=w.heap->(Builtin.firstCells s m (a.eval B)).run P w'=.ok ys.toArray w') (h1:∀ u ∈ ys,u.oneCell'=true)
  (h63:len + m≤maxLen) (hbt:(len + m) * bytes≤140737488355328) :
  ∃ v' w',(execOp a.eval o).run P w=.ok (.value v') w'∧Row w' e s v' (len + m) (xs ++ ys)∧Kept (blockOf v) w w'∧∀ b,blockOf v' b->blockOf v b∨w.heap.size≤b:=by
 obtain ⟨v',w',h3,h4⟩:=run_append (rt:=o.type) he h2 hd2 hr hlen hys hx h1 h63 hbt
 refine ⟨v',w',?_,h4⟩
 simp [execOp,ho,resolve,invoke,builtin,hA,h3]
theorem zeroCells_rep {z:Value} {zc:List Value} (hz:z.cells=zc.toArray) (hp:0 < zc.length) (m:Nat):Builtin.zeroCells z.cells m=(List.replicate m zc).flatten.toArray:=by
 have:=range_rep zc hp m
 rw [hz]
 unfold Builtin.zeroCells
 simpa using this
theorem run_appendZ {ty1 ty2 e k bytes rt:Nat} {z v:Value} {zc:List Value} {m len:Nat} {xs:List Value} (he:EOk P ty1 e k bytes z) (hzc:z.cells=zc.toArray) (h2:P.underlying ty2=some (.int .i64))
  (hr:Row w e k v len xs) (h1:∀ u ∈ zc,u.oneCell'=true) (h63:len + m≤maxLen) (hbt:(len + m) * bytes≤140737488355328) :
  ∃ v' w',(Builtin.append_ #[ty1,ty2] rt #[v,.int .i64 (m:Int)]).run P w=.ok v' w'∧Row w' e k v' (len + m) (xs ++ (List.replicate m zc).flatten)∧Kept (blockOf v) w w'∧∀ b,blockOf v' b->blockOf v b∨w.heap.size≤b:=by
 obtain ⟨f,hf,hk,hb,hz⟩:=he.info
 have hpos:0 < k:=he.pos
 have hzl:zc.length=k:=by have:=he.cells;rw [hzc] at this;simpa using this
 obtain ⟨ys,hys0⟩:∃ ys,ys=(List.replicate m zc).flatten:=⟨_,rfl⟩
 have hzr:Builtin.zeroCells z.cells m=ys.toArray:=by rw [hys0];exact zeroCells_rep hzc (by omega) m
 have hys:ys.length=m * k:=by rw [hys0];simp [List.length_flatten,hzl]
 have hy1:∀ u ∈ ys,u.oneCell'=true:=by
  intro u hu
  rw [hys0] at hu
  obtain ⟨l,hl,hu⟩:=List.mem_flatten.1 hu
  rw [(List.mem_replicate.1 hl).2] at hu
  exact h1 u hu
 rw [← hys0]
 subst hk hb
 have hsmall:len + m≤9223372036854775807:=by simp only [maxLen] at h63;omega
 have hwm:IntKind.i64.wrap (m:Int)=m:=w64_in (by omega) (by omega)
 have hmneg:¬ ((m:Int) < 0):=by omega
 have hmb:¬ (281474976710656 < (m:Int) * (f.bytes:Int)):=by
  have:m * f.bytes≤(len + m) * f.bytes:=Nat.mul_le_mul_right _ (by omega)
  have h3:((m * f.bytes:Nat):Int)=(m:Int) * (f.bytes:Int):=by simp
  omega
 have hL:(xs ++ ys).length=(len + m) * f.size:=by rw [List.length_append,hr.1,hys,Nat.add_mul]
 have hroomA:∀ (q:Nat) (w:World),(askRoom q).run P w=.ok () w:=fun q w=>by unfold askRoom;split<;>rfl
 have grow:∀ (old:Nat) (hold:old < len + m) (bs:Option Addr),0 < m->v=.slice bs len old->(∀ w':World,w'.heap=w.heap->(Builtin.firstCells f.size len v).run P w'=.ok xs.toArray w') ->
   ∃ v' w',(Builtin.append_ #[ty1,ty2] rt #[v,.int .i64 (m:Int)]).run P w=.ok v' w'∧Row w' e f.size v' (len + m) (xs ++ ys)∧Kept (blockOf v) w w'∧∀ b,blockOf v' b->blockOf v b∨w.heap.size≤b:=by
  intro old hold bs hm hv hfo
  have hge:=grownCap_ge w (len + m) old e
  have hcm:grownCap w (len + m) old e≤maxLen:=grownCap_le_maxLen w (len + m) old e h63
  have hn:¬ (len + m≤old):=by omega
  have h63':¬ (9223372036854775807 < ((len:Int) + (m:Int))):=by omega
  have h48':¬ (281474976710656 < Builtin.nextslicecap (len + m) old * f.bytes):=by have:=growslice_fits (need:=len + m) hold hbt;omega
  have hf2:=hfo w.drew rfl
  have hms:¬ (m * f.size=0):=by
   intro h
   rcases Nat.mul_eq_zero.1 h with h | h<;>omega
  have hm0:¬ (m=0):=by omega
  have hs0:¬ (f.size=0):=by omega
  refine ⟨.slice (some ⟨w.heap.size,0,none⟩) (len + m) (grownCap w (len + m) old e),w.drew.alloc (.cells (xs.toArray ++ ys.toArray ++ Builtin.zeroCells z.cells (grownCap w (len + m) old e - (len + m))) e),?_,⟨hL,.inr ⟨w.heap.size,_,(Builtin.zeroCells z.cells (grownCap w (len + m) old e - (len + m))).toList,rfl,hge,?_,?_,hcm⟩⟩,?_,fun b hb=>by cases hb;exact .inr (Nat.le_refl _)⟩
  ·subst hv
   simp [Builtin.append_,run_underlying he.slice,run_underlying h2,sizeOf,typeInfo,zeroValue,hf,hz,asInt,asIntOf,hwm,hmneg,hmb,hn,h63',h48',Question.forced,hm0,hs0,hf2,newRow,grownCap,hroomA,hzr]
   rw [if_neg hms,← Array.append_assoc];congr 3;simp
  ·have:=blk_new (w:=w.drew) e (xs ++ ys ++ (Builtin.zeroCells z.cells (grownCap w (len + m) old e - (len + m))).toList)
   have e3:(xs ++ ys ++ (Builtin.zeroCells z.cells (grownCap w (len + m) old e - (len + m))).toList).toArray=xs.toArray ++ ys.toArray ++ Builtin.zeroCells z.cells (grownCap w (len + m) old e - (len + m)):=by simp
   rw [e3] at this
   exact this
  ·simp only [List.length_append,Array.length_toList,size_zeroCells,he.cells,hr.1,hys,← Nat.add_mul]
   congr 1;omega
  ·exact ⟨rfl,rfl,rfl,by simp,fun k hk _=>@heap_alloc_old w.drew _ k (by simpa using hk)⟩
 have hr0:=hr
 obtain ⟨hl,hr2⟩:=hr
 by_cases hm0:m=0
 ·subst hm0
  have hy0:ys=[]:=List.eq_nil_of_length_eq_zero (by simpa using hys)
  subst hy0
  obtain ⟨b,c,hv,hlc⟩:∃ b c,v=.slice b len c∧len≤c:=by
   rcases hr2 with ⟨rfl,rfl⟩ | ⟨b,cap,sp,rfl,hnc,_⟩
   ·exact ⟨_,_,rfl,Nat.le_refl _⟩
   ·exact ⟨_,_,rfl,hnc⟩
  refine ⟨v,w,?_,by simpa using hr0,Kept.refl _ _,fun b hb=>.inl hb⟩
  subst hv
  have hs0:¬ (f.size=0):=by omega
  have hw0:IntKind.i64.wrap (0:Int)=0:=w64_in (by omega) (by omega)
  cases b<;>simp [Builtin.append_,run_underlying he.slice,run_underlying h2,sizeOf,typeInfo,hf,asInt,asIntOf,hw0,hlc,storeCells]
 rcases hr2 with ⟨rfl,rfl⟩ | ⟨b,cap,sp,rfl,hnc,hbk,hcap,hcm⟩
 ·have hx0:xs=[]:=List.eq_nil_of_length_eq_zero (by simpa using hl)
  subst hx0
  exact grow 0 (by omega) none (by omega) rfl (fun w' _=>by simp [Builtin.firstCells])
 ·by_cases hroom:len + m≤cap
  ·have hfit:len * f.size + 0 + ys.length≤(xs ++ sp).length:=by rw [hcap,hys,Nat.add_zero,← Nat.add_mul];exact Nat.mul_le_mul_right _ hroom
   have hst:=run_storeCells (P:=P) ys (len * f.size) 0 (xs ++ sp) w hbk hfit hy1
   have e1:(xs ++ sp).take (len * f.size + 0) ++ ys ++ (xs ++ sp).drop (len * f.size + 0 + ys.length)=(xs ++ ys) ++ sp.drop ys.length:=by
    simp only [Nat.add_zero,← hl]
    rw [List.take_left,List.drop_append,List.drop_of_length_le (by omega),Nat.add_sub_cancel_left,List.nil_append]
   rw [e1] at hst
   have hs0:¬ (f.size=0):=by omega
   refine ⟨.slice (some ⟨b,0,none⟩) (len + m) cap,_,?_,⟨hL,.inr ⟨b,cap,sp.drop ys.length,rfl,hroom,hbk.setRow ?_,?_,hcm⟩⟩,kept_setRow b _,fun x hx=>.inl hx⟩
   ·have hms:¬ (m * f.size=0):=by
     intro h
     rcases Nat.mul_eq_zero.1 h with h | h<;>omega
    simp [Builtin.append_,run_underlying he.slice,run_underlying h2,sizeOf,typeInfo,zeroValue,hf,hz,asInt,asIntOf,hwm,hmneg,hmb,hroom,hm0,hs0,hzr,add_zero,hst]
    exact fun h=>absurd h hms
   ·simp at hfit ⊢;omega
   ·rw [← hcap];simp at hfit ⊢;omega
  ·refine grow cap (by omega) (some ⟨b,0,none⟩) (by omega) rfl (fun w' hw'=>?_)
   have:=run_first (P:=P) (w:=w') (Rd.same hr0.rd (fun b _ _=>by rw [hw'])) len (Nat.le_refl _)
   rw [this,List.take_of_length_le (by rw [hl];exact Nat.le_refl _)]
theorem grown {β:Type} {k:Option IV->Tbl->Option β} {r:β} {id E:Nat} {t:Ty} {zs:List t.den} {es:List Value} {h:Hd} {v':Value} {w':World} {x0:Thing} (hM:Gm O ρ tb w) (hid:tb[id]? = some x0) (hown:∀ b,blockOf h.v b->O b=.th id) (hr:(execOp a.eval o).run P w=.ok (.value v') w') (hk:Kept (blockOf h.v) w w')
  (hrow:Row w' E t.size v' zs.length es) (hb:∀ b,blockOf v' b->blockOf h.v b∨w.heap.size≤b) (hL:LR (TR O t) zs es) (e:k (some (.rw tb.length)) (tb.set id .no ++ [.row E t zs])=some r):WOk P a o O ρ w (· = id) k r:=by
 have hsl:=hrow.isSl
 obtain ⟨q,m,cp,hv'⟩:∃ q m cp,v'=.slice q m cp:=by cases v'<;>first | exact ⟨_,_,_,rfl⟩ | cases hsl
 have hat:(ρ ++ [(⟨0,t.sz,v'⟩:Hd)])[tb.length]? = some ⟨0,t.sz,v'⟩:=by rw [← hM.len];simp
 have hlen:(tb.set id Thing.no ++ [Thing.row E t zs]).length=tb.length + 1:=by simp
 have hnew:∀ b,blkB v' b=true->O b=.th id∨w.heap.size≤b:=fun b hb'=>by
  rcases hb b (blkB_of hb') with h1 | h1
  ·exact .inl (hown b h1)
  ·exact .inr h1
 have hle:O.le (fun b=>bif blkB v' b then .th tb.length else O b):=fun b all e=>by
  cases e':blkB v' b with
  | true=>
   rcases hnew b e' with h1 | h1
   ·rw [h1] at e;cases e
   ·rw [hM.lt b h1] at e;cases e
  | false=>simp only [e',cond_false];exact e
 obtain ⟨h1,h2⟩:=hM.step (M:=(· = id)) (O':=fun b=>bif blkB v' b then .th tb.length else O b) (ρ':=ρ ++ [⟨0,t.sz,v'⟩]) (tb':=tb.set id .no ++ [.row E t zs]) (w':=w') (hk.wide fun b hb'=>⟨id,rfl,hown b hb'⟩)
  (fun b hb' hn=>by
   cases e':blkB v' b with
   | true=>
    rcases hnew b e' with h1 | h1
    ·exact absurd h1 (hn id rfl)
    ·omega
   | false=>rfl)
  (fun b hb'=>by
   cases e':blkB v' b with
   | true=>have:=hrow.blt (blkB_of e');omega
   | false=>exact hM.lt b (Nat.le_trans hk.size hb'))
  (fun b all e=>by
   cases e':blkB v' b with
   | true=>simp only [e',cond_true] at e;cases e
   | false=>simp only [e',cond_false] at e;exact .inl e)
  (.app _ _) (by simp [hM.len]) (fun j x hx=>by
   rcases Nat.lt_or_ge j tb.length with hj | hj
   ·rw [List.getElem?_append_left (by simpa using hj),List.getElem?_set] at hx
    split at hx
    ·rename_i e';subst e'
     have:x=.no:=by
      first
       | (rw [if_pos hj] at hx;cases hx;rfl)
       | (cases hx;rfl)
     subst this;exact .inr trivial
    ·rename_i e';exact .inl ⟨hx,fun h=>e' h.symm⟩
   ·have:j=tb.length:=by
     have:=(List.getElem?_eq_some_iff.1 hx).1
     rw [hlen] at this;omega
    subst this
    rw [List.getElem?_append_right (by simp)] at hx
    simp at hx;subst hx
    exact .inr ⟨_,es,hat,rfl,fun b hbb=>by simp [of_blkB hv' hbb],hL.mono (fun _ _=>TR.mono hle),hrow⟩)
 exact ⟨some (.rw tb.length),.o (.v v'),_,_,_,w',⟨.of_S0 (v:=.rw tb.length) ⟨v',rfl,⟨0,t.sz,v'⟩,hat,rfl,hsl⟩,hr⟩,h1,h2,e⟩
theorem wApp1_ok {β:Type} {k:Option IV->Tbl->Option β} {r:β} (hc:COk P c) (hF:Fr n a l) (hE:ER O ρ il l) (hG:GO c O) (hM:Gm O ρ tb w) {ty ty2:Nat} {A B:Operand} (ho:o.op=.call ⟨.builtin .append,#[A,B],#[ty,ty2]⟩) (e:wApp1 c il tb k ty ty2 A B=some r) {v:IV} (hv:iopd c il A=some v):WOk P a o O ρ w (· ∈ idsV v) k r:=by
 unfold wApp1 at e
 split at e<;>first | (cases e;done) | skip
 rename_i el hd
 split at e<;>first | (cases e;done) | skip
 rename_i t ht
 obtain ⟨bytes,z,zc,h3,h4,h5,h6⟩:=hc.elem _ _ _ hd ht
 have bnd:∀ q:Nat,q≤1099511627776->q≤maxLen∧q * bytes≤140737488355328:=fun q hq=>by
  refine ⟨by simp only [maxLen];omega,?_⟩
  have:=Nat.mul_le_mul hq h4
  omega
 split at e<;>first | (cases e;done) | skip
 ·rename_i id hA
  rw [hv] at hA;cases hA
  split at e<;>first | (cases e;done) | skip
  rename_i E t' xs hb
  split at e<;>first | (cases e;done) | skip
  rename_i xs' hE' hcast
  obtain ⟨e1,he1⟩:=castR_ok hcast
  subst e1
  have he1:xs'=xs:=he1
  subst he1
  have hE':=Nat.eq_of_beq_eq_true hE'
  subst hE'
  rw [nth_eq] at hb
  obtain ⟨h,es,h7,h8,h9,h10,h11⟩:=hM.th _ _ hb
  obtain ⟨u,hu,⟨h',h12,h13,_⟩,_⟩:=iopd_1 hE hG hv rfl (by simp) hF
  cases h13
  rw [h7] at h12;cases h12
  obtain ⟨ys,fs,d2,hk,hL,hu2,hd2,hlen,hfirst⟩:=srcI_ok hc hF hE hG hM e
  obtain ⟨zs,hz,hk⟩:=bindS hk
  obtain ⟨h14,rfl⟩:=gapp_some hz
  have hfl:=LR.length (fun _ _=>TR.length) hL
  obtain ⟨v',w',h15,h16,h17,h18⟩:=run_app' (P:=P) (w:=w) (m:=ys.length) (ys:=fs) h3 hu2 hd2 ho hu h11 hlen hfl (fun w' hw=>by
   have:=hfirst w' hw ys.length (Nat.le_refl _)
   rw [List.take_of_length_le (by omega)] at this;exact this) (LR.one (fun _ _=>TR.one) hL) (bnd _ h14).1 (bnd _ h14).2
  have hwk:=grown (zs:=xs' ++ ys) hM hb h9 h15 h17 (by rw [List.length_append];exact h16) h18 (h10.append hL) hk
  obtain ⟨v,x,tb',O',ρ',w2,g1,g2,g3,g4⟩:=hwk
  exact ⟨v,x,tb',O',ρ',w2,g1,g2,g3.weak (fun i e=>by subst e;simp [idsV]),g4⟩
 ·rename_i v0 _ hA
  rw [hv] at hA;cases hA
  split at e<;>first | (cases e;done) | skip
  rename_i hnil
  have hvn:=asNil_eq hnil
  subst hvn
  have hu:=opd_val hF (iopd_o hE hG hv).1
  obtain ⟨ys,fs,d2,hk,hL,hu2,hd2,hlen,hfirst⟩:=srcI_ok hc hF hE hG hM e
  obtain ⟨zs,hz,hk⟩:=bindS hk
  obtain ⟨h14,rfl⟩:=gapp_some hz
  have hfl:=LR.length (fun _ _=>TR.length) hL
  simp only [List.length_nil,Nat.zero_add] at h14
  obtain ⟨v',w',h15,h16,h17,h18⟩:=run_app' (P:=P) (w:=w) (len:=0) (xs:=[]) (m:=ys.length) (ys:=fs) h3 hu2 hd2 ho hu ⟨by simp,.inl ⟨rfl,rfl⟩⟩ hlen hfl (fun w' hw=>by
   have:=hfirst w' hw ys.length (Nat.le_refl _)
   rw [List.take_of_length_le (by omega)] at this;exact this) (LR.one (fun _ _=>TR.one) hL) (by have:=(bnd _ h14).1;omega) (by have:=(bnd _ h14).2;simpa using this)
  have hwk:=new_row (xs:=[] ++ ys) hM h15 (h17.wide (fun b hb=>hb.elim)) (by simpa using h16) (fun b hb=>(h18 b hb).elim (fun h=>h.elim) (fun h=>h)) (by simpa using hL) hk
  obtain ⟨v,x,tb',O',ρ',w2,g1,g2,g3,g4⟩:=hwk
  exact ⟨v,x,tb',O',ρ',w2,g1,g2,g3.weak (fun i e=>e.elim),g4⟩
def wAppZ {β:Type} (c:Cfg) (il:IEnv) (tb:Tbl) (k:Option IV->Tbl->Option β) (ty:Nat) (A B:Operand):Option β:=
 match c.D ty with
 | some (.slice e)=>match c.E e,iopd c il B with
  | some t,some (.o (.i m))=>match iopd c il A with
   | some (.rw id)=>match nth tb id with
    | some (.row E t' xs)=>match Nat.beq E e,castR (Ty.eq? t' t) xs with
     | true,some xs=>(gnn m).bind fun q=>(gapp xs (List.replicate q t.zero)).bind fun zs=>k (some (.rw tb.length)) (tb.set id .no ++ [.row e t zs])
     | _,_=>none
    | _=>none
   | some v=>match v.asNil with
    | true=>(gnn m).bind fun q=>(gapp [] (List.replicate q t.zero)).bind fun zs=>k (some (.rw tb.length)) (tb ++ [.row e t zs])
    | false=>none
   | none=>none
  | _,_=>none
 | _=>none
def wApp {β:Type} (c:Cfg) (il:IEnv) (tb:Tbl) (k:Option IV->Tbl->Option β) (ty ty2:Nat) (A B:Operand):Option β:=
 match c.D ty2 with
 | some (.int .i64)=>wAppZ c il tb k ty A B
 | _=>wApp1 c il tb k ty ty2 A B
theorem wAppZ_ok {β:Type} {k:Option IV->Tbl->Option β} {r:β} (hc:COk P c) (hF:Fr n a l) (hE:ER O ρ il l) (hG:GO c O) (hM:Gm O ρ tb w) {ty ty2:Nat} {A B:Operand} (ho:o.op=.call ⟨.builtin .append,#[A,B],#[ty,ty2]⟩) (h2:P.underlying ty2=some (.int .i64)) (e:wAppZ c il tb k ty A B=some r) {v:IV} (hv:iopd c il A=some v):WOk P a o O ρ w (· ∈ idsV v) k r:=by
 unfold wAppZ at e
 split at e<;>first | (cases e;done) | skip
 rename_i el hd
 split at e<;>first | (cases e;done) | skip
 rename_i t m ht hB
 obtain ⟨bytes,z,zc,h3,h4,h5,h6⟩:=hc.elem _ _ _ hd ht
 have bnd:∀ q:Nat,q≤1099511627776->q≤maxLen∧q * bytes≤140737488355328:=fun q hq=>by
  refine ⟨by simp only [maxLen];omega,?_⟩
  have:=Nat.mul_le_mul hq h4
  omega
 have hBv:=opd_val hF (iopd_o hE hG hB).1
 have hz1:∀ u ∈ zc,u.oneCell'=true:=TR.one (h6 O)
 have run:∀ {v:Value} {len q:Nat} {xs:List Value},a.eval A=v->Row w el t.size v len xs->m=(q:Int)->len + q≤1099511627776->∃ v' w',(execOp a.eval o).run P w=.ok (.value v') w'∧Row w' el t.size v' (len + q) (xs ++ (List.replicate q zc).flatten)∧Kept (blockOf v) w w'∧∀ b,blockOf v' b->blockOf v b∨w.heap.size≤b:=by
  intro v len q xs hA hr hm hq
  obtain ⟨v',w',g1,g2⟩:=run_appendZ (rt:=o.type) (m:=q) h3 h5 h2 hr hz1 (bnd _ hq).1 (bnd _ hq).2
  refine ⟨v',w',?_,g2⟩
  have hBv':a.eval B=.int .i64 (q:Int):=by rw [hBv,← hm]
  simp [execOp,ho,resolve,invoke,builtin,hA,hBv',g1]
 split at e<;>first | (cases e;done) | skip
 ·rename_i id hA
  rw [hv] at hA;cases hA
  split at e<;>first | (cases e;done) | skip
  rename_i E t' xs hb
  split at e<;>first | (cases e;done) | skip
  rename_i xs' hE' hcast
  obtain ⟨e1,he1⟩:=castR_ok hcast
  subst e1
  have he1:xs'=xs:=he1
  subst he1
  have hE':=Nat.eq_of_beq_eq_true hE'
  subst hE'
  rw [nth_eq] at hb
  obtain ⟨h,es,h7,h8,h9,h10,h11⟩:=hM.th _ _ hb
  obtain ⟨u,hu,⟨h',h12,h13,_⟩,_⟩:=iopd_1 hE hG hv rfl (by simp) hF
  cases h13
  rw [h7] at h12;cases h12
  obtain ⟨q,hq,e⟩:=bindS e
  obtain ⟨zs,hz,hk⟩:=bindS e
  obtain ⟨h14,rfl⟩:=gapp_some hz
  simp only [List.length_replicate] at h14
  obtain ⟨v',w',h15,h16,h17,h18⟩:=run hu h11 (by have:=gnn_some hq;omega) h14
  have hwk:=grown (zs:=xs' ++ List.replicate q t'.zero) hM hb h9 h15 h17 (by rw [List.length_append,List.length_replicate];exact h16) h18 (h10.append (LR.replicate (h6 O) q)) hk
  obtain ⟨v,x,tb',O',ρ',w2,g1,g2,g3,g4⟩:=hwk
  exact ⟨v,x,tb',O',ρ',w2,g1,g2,g3.weak (fun i e=>by subst e;simp [idsV]),g4⟩
 ·rename_i v0 _ hA
  rw [hv] at hA;cases hA
  split at e<;>first | (cases e;done) | skip
  rename_i hnil
  have hvn:=asNil_eq hnil
  subst hvn
  have hu:=opd_val hF (iopd_o hE hG hv).1
  obtain ⟨q,hq,e⟩:=bindS e
  obtain ⟨zs,hz,hk⟩:=bindS e
  obtain ⟨h14,rfl⟩:=gapp_some hz
  simp only [List.length_replicate,List.length_nil,Nat.zero_add] at h14
  obtain ⟨v',w',h15,h16,h17,h18⟩:=run (len:=0) (q:=q) (xs:=[]) hu ⟨by simp,.inl ⟨rfl,rfl⟩⟩ (by have:=gnn_some hq;omega) (by omega)
  have hwk:=new_row (xs:=[] ++ List.replicate q t.zero) hM h15 (h17.wide (fun b hb=>hb.elim)) (by simpa using h16) (fun b hb=>(h18 b hb).elim (fun h=>h.elim) (fun h=>h)) (by simpa using LR.replicate (h6 O) q) hk
  obtain ⟨v,x,tb',O',ρ',w2,g1,g2,g3,g4⟩:=hwk
  exact ⟨v,x,tb',O',ρ',w2,g1,g2,g3.weak (fun i e=>e.elim),g4⟩
theorem wApp_ok {β:Type} {k:Option IV->Tbl->Option β} {r:β} (hc:COk P c) (hF:Fr n a l) (hE:ER O ρ il l) (hG:GO c O) (hM:Gm O ρ tb w) {ty ty2:Nat} {A B:Operand} (ho:o.op=.call ⟨.builtin .append,#[A,B],#[ty,ty2]⟩) (e:wApp c il tb k ty ty2 A B=some r) {v:IV} (hv:iopd c il A=some v):WOk P a o O ρ w (· ∈ idsV v) k r:=by
 unfold wApp at e
 split at e
 ·rename_i h2
  exact wAppZ_ok hc hF hE hG hM ho (hc.tok.desc _ _ h2) e hv
 ·exact wApp1_ok hc hF hE hG hM ho e hv
theorem wApp_none {β:Type} {k:Option IV->Tbl->Option β} {r:β} {ty ty2:Nat} {A B:Operand} (e:wApp c il tb k ty ty2 A B=some r) (hx:iopd c il A=none):False:=by
 unfold wApp at e
 split at e
 ·unfold wAppZ at e;simp only [hx] at e
  split at e<;>first | (cases e;done) | skip
  split at e<;>cases e
 ·unfold wApp1 at e;simp only [hx] at e
  split at e<;>first | (cases e;done) | skip
  split at e<;>cases e
def wS2B {β:Type} (c:Cfg) (il:IEnv) (tb:Tbl) (k:Option IV->Tbl->Option β) (src dst:Nat) (x:Operand):Option β:=
 match c.D src,c.D dst,iopd c il x with
 | some .string,some (.slice e),some (.o (.s s))=>match c.D e with
  | some (.int .u8)=>(gstr s).bind fun xs=>k (some (.rw tb.length)) (tb ++ [.row e .u8 xs])
  | _=>none
 | _,_,_=>none
theorem wS2B_ok {β:Type} {k:Option IV->Tbl->Option β} {r:β} (hc:COk P c) (hF:Fr n a l) (hE:ER O ρ il l) (hG:GO c O) (hM:Gm O ρ tb w) {src dst:Nat} {x:Operand} (ho:o.op=.convert src dst x) (e:wS2B c il tb k src dst x=some r):WOk P a o O ρ w (fun _=>False) k r:=by
 unfold wS2B at e
 split at e<;>first | (cases e;done) | skip
 rename_i el s hs hd hx
 split at e<;>first | (cases e;done) | skip
 rename_i he
 obtain ⟨xs,hz,e⟩:=bindS e
 obtain ⟨h1,rfl⟩:=gstr_some hz
 obtain ⟨v,w',h2,h3,h4,h5⟩:=r_s2b (P:=P) (w:=w) hc.tok hF ho (iopd_o hE hG hx).1 hs hd he (by simp only [maxLen];omega)
 exact new_row (t:=.u8) hM h2 h4 h3 h5 (LR_map_u8 _) e
end
end Go.Tw
namespace Go.Tw
set_option linter.unusedSimpArgs false
set_option linter.unusedVariables false
section
variable {P:Program} {c:Cfg} {n:Nat} {a:Act} {l:Env} {il:IEnv} {O:Own} {ρ:List Hd} {tb:Tbl} {w:World} {o:Oper}
def setMap (w:World) (b:Nat) (es:List MapEntry):World:={ w with heap:=w.heap.setIfInBounds b (.map es.toArray es.length) }
theorem kept_setMap (w:World) (b:Nat) (es:List MapEntry):Kept (fun b'=>b'=b) w (setMap w b es):=
 ⟨rfl,rfl,rfl,by simp [setMap],fun b' hb hn=>by simp [setMap,Array.getElem?_setIfInBounds,Ne.symm hn]⟩
theorem get_setMap {w:World} {b:Nat} {es:List MapEntry} {x:Obj} (h:w.heap[b]? = some x):(setMap w b es).heap[b]? = some (.map es.toArray es.toArray.size):=by
 have hlt:b < w.heap.size:=(Array.getElem?_eq_some_iff.1 h).1
 simp [setMap,hlt]
theorem modify_set {es:Array MapEntry} {j:Nat} {e:MapEntry} (f:MapEntry->MapEntry) (h:es[j]? = some e):(es.modify j f)=(es.toList.set j (f e)).toArray:=by
 obtain ⟨hj,he⟩:=Array.getElem?_eq_some_iff.1 h
 apply Array.ext_getElem?
 intro i
 simp only [Array.getElem?_modify,List.getElem?_toArray,List.getElem?_set,Array.getElem?_toList,Array.length_toList]
 by_cases hi:j=i
 ·subst hi;simp [hj,he]
 ·simp [hi]
theorem push_arr (es:Array MapEntry) (e:MapEntry):(es.toList ++ [e]).toArray=es.push e:=by
 apply Array.toList_inj.1;simp
def wMM {β:Type} (c:Cfg) (il:IEnv) (tb:Tbl) (k:Option IV->Tbl->Option β) (t:Nat) (h:Option Operand):Option β:=
 match c.M t with
 | some (kt,vt)=>match h with
  | none=>k (some (.mp tb.length)) (tb ++ [.mp kt vt []])
  | some x=>match iopd c il x with
   | some (.o (.i _))=>k (some (.mp tb.length)) (tb ++ [.mp kt vt []])
   | _=>none
 | none=>none
theorem new_map {β:Type} {k:Option IV->Tbl->Option β} {r:β} {kt vt:Ty} (hM:Gm O ρ tb w) (hr:(execOp a.eval o).run P w=.ok (.value (.map (some w.heap.size))) { w with heap:=w.heap.push (.map #[] 0) })
  (e:k (some (.mp tb.length)) (tb ++ [.mp kt vt []])=some r):WOk P a o O ρ w (fun _=>False) k r:=by
 have hat:(ρ ++ [(⟨w.heap.size,.nil,.bool false⟩:Hd)])[tb.length]? = some ⟨w.heap.size,.nil,.bool false⟩:=by rw [← hM.len];simp
 obtain ⟨h1,h2⟩:=hM.new (h:=⟨w.heap.size,.nil,.bool false⟩) (x:=.mp kt vt []) (Nat.beq w.heap.size) (kept_alloc w (.map #[] 0)) (fun b hbb=>by have:=Nat.eq_of_beq_eq_true hbb;subst this;simp)
  ⟨_,#[],hat,by simp,by simp,rfl⟩
 exact ⟨some (.mp tb.length),.o (.v (.map (some w.heap.size))),_,_,_,_,⟨.of_S0 (v:=.mp tb.length) ⟨_,rfl,_,hat,rfl⟩,hr⟩,h1,h2,e⟩
theorem wMM_ok {β:Type} {k:Option IV->Tbl->Option β} {r:β} (hc:COk P c) (hF:Fr n a l) (hE:ER O ρ il l) (hG:GO c O) (hM:Gm O ρ tb w) {t:Nat} {h:Option Operand} (ho:o.op=.makeMap t h) (e:wMM c il tb k t h=some r):WOk P a o O ρ w (fun _=>False) k r:=by
 unfold wMM at e
 split at e<;>first | (cases e;done) | skip
 rename_i kt vt hm
 obtain ⟨kk,ee,d,z,g1,g2,g3,g4,g5⟩:=hc.maps _ _ _ hm
 split at e
 ·refine new_map hM ?_ e
  simp only [execOp,ho]
  simp [Instr.makeMap,newObj,Sem.run]
 ·split at e<;>first | (cases e;done) | skip
  rename_i x _ m hx
  refine new_map hM ?_ e
  have hv:=opd_val hF (iopd_o hE hG hx).1
  have ha:(asInt (SV.o (S0.i m)).val).run P w=.ok m w:=rfl
  simp only [execOp,ho]
  simp only [Option.map_some,hv]
  have:(Instr.makeMap t (some (SV.o (S0.i m)).val)).run P w=.ok (.map (some w.heap.size)) { w with heap:=w.heap.push (.map #[] 0) }:=by
   unfold Instr.makeMap
   simp only [Sem.run_bind,run_underlying g1,Result.andThen_ok,ha]
   rfl
  simp [this]
def bsame:Bool->Bool->Bool
 | true,true=>true
 | false,false=>true
 | _,_=>false
theorem bsame_eq:∀ {a b:Bool},bsame a b=true->a=b
 | true,true,_=>rfl
 | false,false,_=>rfl
 | true,false,h=>by cases h
 | false,true,h=>by cases h
def wMU {β:Type} (c:Cfg) (il:IEnv) (tb:Tbl) (k:Option IV->Tbl->Option β) (t:Nat) (m x y:Operand):Option β:=
 match c.M t,iopd c il m,iopd c il x,iopd c il y with
 | some (kt,vt),some (.mp id),some v,some u=>match v.agg,bsame u.agg vt.agg,nth tb id with
  | false,true,some (.mp kt' vt' l)=>match castM (Ty.eq? kt' kt) (Ty.eq? vt' vt) l,toP kt v,toP vt u with
   | some l,some q,some y=>k none (tb.set id (.mp kt vt (mpt kt l q y)))
   | _,_,_=>none
  | _,_,_=>none
 | _,_,_,_=>none
theorem toP_nt {t:Ty} {v:IV} {x:t.den} (h:toP t v=some x):∀ ch,v ≠ .tu ch:=fun ch ee=>by
 subst ee;cases t<;>simp [toP,IV.asI,IV.asU8,IV.asU32,IV.asU64,IV.asB,IV.asS,IV.asSl,IV.asAr,IV.asNil] at h
theorem wMU_ok {β:Type} {k:Option IV->Tbl->Option β} {r:β} (hc:COk P c) (hF:Fr n a l) (hE:ER O ρ il l) (hG:GO c O) (hM:Gm O ρ tb w) {t:Nat} {m x y:Operand} (ho:o.op=.mapUpdate t m x y) (e:wMU c il tb k t m x y=some r) {v:IV} (hv:iopd c il m=some v):WOk P a o O ρ w (· ∈ idsV v) k r:=by
 unfold wMU at e
 split at e<;>first | (cases e;done) | skip
 rename_i kt vt id vx vy hm hx hxx hyy
 rw [hv] at hx;cases hx
 split at e<;>first | (cases e;done) | skip
 rename_i kt' vt' l hag hbg hb
 split at e<;>first | (cases e;done) | skip
 rename_i l' q yv hcast hq hyv
 obtain ⟨e1,e2,he1⟩:=castM_ok hcast
 subst e1 e2
 have he1:l'=l:=he1
 subst he1
 rw [nth_eq] at hb
 obtain ⟨h,es,h1,h2,h3,h4⟩:=hM.th _ _ hb
 obtain ⟨kk,ee,d,z,g1,g2,g3,g4,g5⟩:=hc.maps _ _ _ hm
 obtain ⟨u,hu,⟨h',h6,h7⟩,_⟩:=iopd_1 hE hG hv rfl (by simp) hF
 cases h7
 rw [h1] at h6;cases h6
 obtain ⟨uk,huk,hRk,_⟩:=iopd_1 hE hG hxx hag (toP_nt hq) hF
 have hT:=toP_R hq hRk
 obtain ⟨cs,hy1,hy2,hy3,hy4⟩:=iopd_cells hF hE hG hyy (toP_nt hyv)
 have hV:=VR.of hyv (bsame_eq hbg) hy2 hy3 hy4
 obtain ⟨hk,_⟩:=keq_ok g3 hT hT
 have hlen:=h4.length
 obtain ⟨es',hrun,hMR⟩:∃ es':List MapEntry,(execOp a.eval o).run P w=.ok .skip (setMap w h.b es')∧MR O kt' vt' 0 (mpt kt' l' q yv) es':=by
  rcases MR.find g3 hT 0 h4 with ⟨a1,a2,a3,a4⟩ | ⟨j,e',v',a1,a2,a3,a4,a5,a6,a7,a8,a9⟩
  ·refine ⟨es.toList ++ [⟨uk,a.eval y,es.size⟩],?_,by rw [a4];exact h4.push hT hV _ (by rw [← hlen];simp)⟩
   simp only [execOp,ho,hu,huk]
   have hmu:(Instr.mapUpdate t (.map (some h.b)) uk (a.eval y)).run P w=.ok () (setMap w h.b (es.toList ++ [⟨uk,a.eval y,es.size⟩])):=by
    have:(setMap w h.b (es.toList ++ [⟨uk,a.eval y,es.size⟩]))={ w with heap:=w.heap.setIfInBounds h.b (.map (es.push ⟨uk,a.eval y,es.size⟩) (es.size + 1)) }:=by
     unfold setMap;rw [push_arr];simp
    rw [this]
    simp [Instr.mapUpdate,run_underlying g1,MapKept.run_getObj_map h3,MapKept.run_checkKey g2 hk,MapKept.run_findKey g2 a1,MapKept.run_setObj_map _ h3,Result.andThen]
   simp [hmu]
  ·have a2':es[j]? = some e':=by simpa using a2
   refine ⟨es.toList.set j ⟨uk,a.eval y,e'.born⟩,?_,by rw [a9];exact MR.set hT hV h4 _ (by omega)⟩
   simp only [execOp,ho,hu,huk]
   have hmu:(Instr.mapUpdate t (.map (some h.b)) uk (a.eval y)).run P w=.ok () (setMap w h.b (es.toList.set j ⟨uk,a.eval y,e'.born⟩)):=by
    have:(setMap w h.b (es.toList.set j ⟨uk,a.eval y,e'.born⟩))={ w with heap:=w.heap.setIfInBounds h.b (.map (es.modify j fun e=>{ e with key:=uk,val:=a.eval y }) es.size) }:=by
     unfold setMap;rw [modify_set _ a2'];simp
    rw [this]
    simp [Instr.mapUpdate,run_underlying g1,MapKept.run_getObj_map h3,MapKept.run_checkKey g2 hk,MapKept.run_findKey g2 a1,MapKept.run_setObj_map _ h3,a2',a3,MapKept.run_keyThatStays hk,Result.andThen]
   simp [hmu]
 obtain ⟨hG1,hG2⟩:=hM.set (x':=.mp kt' vt' (mpt kt' l' q yv)) (List.getElem?_eq_some_iff.1 hb).1 ((kept_setMap w h.b es').wide (fun b e=>by subst e;exact h2))
  ⟨h,es'.toArray,h1,h2,get_setMap h3,by simpa using hMR⟩
 exact ⟨none,.t [],_,_,_,_,hrun,hG1,hG2.weak (fun i e=>by subst e;simp [idsV]),e⟩
def wME {β:Type} (c:Cfg) (il:IEnv) (tb:Tbl) (k:Option IV->Tbl->Option β) (t:Nat) (m x:Operand):Option β:=
 match c.M t,iopd c il m,iopd c il x with
 | some (kt,vt),some (.mp id),some v=>match v.agg,nth tb id with
  | false,some (.mp kt' vt' l)=>match castM (Ty.eq? kt' kt) (Ty.eq? vt' vt) l,toP kt v with
   | some l,some q=>k (some (.tu (.pr (ofP vt (mgd kt l q vt.zero)) (.pr (.o (.i (mix kt l q:Nat))) .un)))) (tb.set id (.mp kt vt (men kt l q vt.zero)))
   | _,_=>none
  | _,_=>none
 | _,_,_=>none
theorem wME_ok {β:Type} {k:Option IV->Tbl->Option β} {r:β} (hc:COk P c) (hF:Fr n a l) (hE:ER O ρ il l) (hG:GO c O) (hM:Gm O ρ tb w) {t:Nat} {m x:Operand} (ho:o.op=.mapEntry t m x) (e:wME c il tb k t m x=some r) {v:IV} (hv:iopd c il m=some v):WOk P a o O ρ w (· ∈ idsV v) k r:=by
 unfold wME at e
 split at e<;>first | (cases e;done) | skip
 rename_i kt vt id vx hm hx hxx
 rw [hv] at hx;cases hx
 split at e<;>first | (cases e;done) | skip
 rename_i kt' vt' l hag hb
 split at e<;>first | (cases e;done) | skip
 rename_i l' q hcast hq
 obtain ⟨e1,e2,he1⟩:=castM_ok hcast
 subst e1 e2
 have he1:l'=l:=he1
 subst he1
 rw [nth_eq] at hb
 obtain ⟨h,es,h1,h2,h3,h4⟩:=hM.th _ _ hb
 obtain ⟨kk,ee,d,z,g1,g2,g3,g4,g5⟩:=hc.maps _ _ _ hm
 obtain ⟨u,hu,⟨h',h6,h7⟩,_⟩:=iopd_1 hE hG hv rfl (by simp) hF
 cases h7
 rw [h1] at h6;cases h6
 obtain ⟨uk,huk,hRk,_⟩:=iopd_1 hE hG hxx hag (toP_nt hq) hF
 have hT:=toP_R hq hRk
 obtain ⟨hk,_⟩:=keq_ok g3 hT hT
 have hlen:=h4.length
 obtain ⟨es',val,hV,hrun,hMR⟩:∃ (es':List MapEntry) (val:Value),VR O vt' (mgd kt' l' q vt'.zero) val∧(execOp a.eval o).run P w=.ok (.value (.tuple #[val,.int .i64 (mix kt' l' q:Nat)])) (setMap w h.b es')∧MR O kt' vt' 0 (men kt' l' q vt'.zero) es':=by
  rcases MR.find g3 hT 0 h4 with ⟨a1,a2,a3,a4⟩ | ⟨j,e',v',a1,a2,a3,a4,a5,a6,a7,a8,a9⟩
  ·have hz:VR O vt' (mgd kt' l' q vt'.zero) z:=by simp only [mgd,a2,Option.getD_none];exact g5 O
   refine ⟨es.toList ++ [⟨uk,z,es.size⟩],z,hz,?_,by rw [men,a4];exact h4.push hT hz _ (by rw [← hlen];simp)⟩
   simp only [execOp,ho,hu,huk]
   have hmu:(Instr.mapEntry t (.map (some h.b)) uk).run P w=.ok (.tuple #[z,.int .i64 (mix kt' l' q:Nat)]) (setMap w h.b (es.toList ++ [⟨uk,z,es.size⟩])):=by
    have:(setMap w h.b (es.toList ++ [⟨uk,z,es.size⟩]))={ w with heap:=w.heap.setIfInBounds h.b (.map (es.push ⟨uk,z,es.size⟩) (es.size + 1)) }:=by
     unfold setMap;rw [push_arr];simp
    have hes:es.size=l'.length:=by rw [← hlen];simp
    rw [this]
    simp [Instr.mapEntry,run_underlying g1,MapKept.run_getObj_map h3,MapKept.run_checkKey g2 hk,MapKept.run_findKey g2 a1,MapKept.run_setObj_map _ h3,Result.andThen,g4 w,a3,hes,goInt]
   simp [hmu]
  ·have a2':es[j]? = some e':=by simpa using a2
   have hz:VR O vt' (mgd kt' l' q vt'.zero) e'.val:=by simp only [mgd,a6,Option.getD_some];exact a4
   refine ⟨es.toList.set j ⟨uk,e'.val,e'.born⟩,e'.val,hz,?_,by rw [men,a9];exact MR.set hT hz h4 _ (by omega)⟩
   simp only [execOp,ho,hu,huk]
   have hmu:(Instr.mapEntry t (.map (some h.b)) uk).run P w=.ok (.tuple #[e'.val,.int .i64 (mix kt' l' q:Nat)]) (setMap w h.b (es.toList.set j ⟨uk,e'.val,e'.born⟩)):=by
    have:(setMap w h.b (es.toList.set j ⟨uk,e'.val,e'.born⟩))={ w with heap:=w.heap.setIfInBounds h.b (.map (es.modify j fun e=>{ e with key:=uk }) es.size) }:=by
     unfold setMap;rw [modify_set _ a2'];simp
    rw [this]
    simp [Instr.mapEntry,run_underlying g1,MapKept.run_getObj_map h3,MapKept.run_checkKey g2 hk,MapKept.run_findKey g2 a1,MapKept.run_setObj_map _ h3,a2',a3,MapKept.run_keyThatStays hk,Result.andThen,a5,a7,goInt]
   simp [hmu]
 obtain ⟨hG1,hG2⟩:=hM.set (x':=.mp kt' vt' (men kt' l' q vt'.zero)) (List.getElem?_eq_some_iff.1 hb).1 ((kept_setMap w h.b es').wide (fun b e=>by subst e;exact h2))
  ⟨h,es'.toArray,h1,h2,get_setMap h3,by simpa using hMR⟩
 obtain ⟨cs,hR,hve⟩:=hV.cells (ρ:=ρ)
 obtain ⟨x0,hx0,hx1⟩:=S0R.of_R ofP_nt hR
 refine ⟨some (.tu (.pr (ofP vt' (mgd kt' l' q vt'.zero)) (.pr (.o (.i (mix kt' l' q:Nat))) .un))),.t [x0,.i (mix kt' l' q:Nat)],_,_,_,_,⟨⟨_,rfl,x0,_,rfl,hx0,.i (mix kt' l' q:Nat),[],rfl,⟨rfl,rfl⟩,rfl⟩,?_⟩,hG1,hG2.weak (fun i e=>by subst e;simp [idsV]),e⟩
 rw [hrun]
 have:(SV.t [x0,.i (mix kt' l' q:Nat)]).val=.tuple #[val,.int .i64 (mix kt' l' q:Nat)]:=by simp [SV.val,S0.val,hx1,hve]
 rw [this]
def wES {β:Type} (c:Cfg) (il:IEnv) (tb:Tbl) (k:Option IV->Tbl->Option β) (m x y:Operand):Option β:=
 match iopd c il m,iopd c il x,iopd c il y with
 | some (.mp id),some (.o (.i s)),some u=>match nth tb id with
  | some (.mp kt vt l)=>match bsame u.agg vt.agg,toP vt u with
   | true,some y=>(mes l s y).bind fun l'=>k none (tb.set id (.mp kt vt l'))
   | _,_=>none
  | _=>none
 | _,_,_=>none
theorem find_born {O:Own} {kt vt:Ty}:∀ {q:Nat} {l:List (kt.den×vt.den)} {es:List MapEntry},MR O kt vt q l es->∀ j,j < l.length->es.findIdx? (fun e=>(e.born:Int) == ((q + j:Nat):Int))=some j
 | _,[],_,_,j,hj=>by simp at hj
 | q,(_,_) :: l,_,⟨e,r,h1,h2,h3,h4,h5⟩,j,hj=>by
  subst h1
  rw [List.findIdx?_cons]
  cases j with
  | zero=>simp [h2]
  | succ j=>
   have:=find_born h5 j (by simpa using hj)
   have hne:((e.born:Int) == ((q + (j + 1):Nat):Int))=false:=by
    rw [h2];simp;omega
   have e1:((q + (j + 1):Nat):Int)=((q + 1 + j:Nat):Int):=by omega
   rw [e1] at hne
   rw [e1,hne]
   simp only [cond_false,Bool.false_eq_true,if_false,this,Option.map_some]
theorem wES_ok {β:Type} {k:Option IV->Tbl->Option β} {r:β} (hc:COk P c) (hF:Fr n a l) (hE:ER O ρ il l) (hG:GO c O) (hM:Gm O ρ tb w) {t:Nat} {m x y:Operand} (ho:o.op=.entryStore t m x y) (e:wES c il tb k m x y=some r) {v:IV} (hv:iopd c il m=some v):WOk P a o O ρ w (· ∈ idsV v) k r:=by
 unfold wES at e
 split at e<;>first | (cases e;done) | skip
 rename_i id s vy hx hxx hyy
 rw [hv] at hx;cases hx
 split at e<;>first | (cases e;done) | skip
 rename_i kt vt l hb
 split at e<;>first | (cases e;done) | skip
 rename_i yv hbg hyv
 obtain ⟨l',hmes,e⟩:=bindS e
 rw [nth_eq] at hb
 obtain ⟨h,es,h1,h2,h3,h4⟩:=hM.th _ _ hb
 obtain ⟨u,hu,⟨h',h6,h7⟩,_⟩:=iopd_1 hE hG hv rfl (by simp) hF
 cases h7
 rw [h1] at h6;cases h6
 have hs:=opd_val hF (iopd_o hE hG hxx).1
 obtain ⟨cs,hy1,hy2,hy3,hy4⟩:=iopd_cells hF hE hG hyy (toP_nt hyv)
 have hV:=VR.of hyv (bsame_eq hbg) hy2 hy3 hy4
 unfold mes at hmes
 cases hs0:decide (0≤s) with
 | false=>rw [hs0] at hmes;cases hmes
 | true=>
  rw [hs0] at hmes
  simp only [cond_true] at hmes
  obtain ⟨e0,he0,hmes⟩:=bindS hmes
  simp only [Option.some.injEq] at hmes
  subst hmes
  have hs0:=of_decide_eq_true hs0
  obtain ⟨e',g1,g2,g3,g4⟩:=h4.get he0
  have g1':es[s.toNat]? = some e':=by simpa using g1
  have hlt:s.toNat < l.length:=(List.getElem?_eq_some_iff.1 he0).1
  have hfind:es.findIdx? (fun e=>(e.born:Int) == s)=some s.toNat:=by
   have:=find_born h4 s.toNat hlt
   rw [show ((0 + s.toNat:Nat):Int)=s from by omega] at this
   rw [← this]
   obtain ⟨L⟩:=es
   simp
  have hrun:(execOp a.eval o).run P w=.ok .skip (setMap w h.b (es.toList.set s.toNat ⟨e'.key,a.eval y,e'.born⟩)):=by
   simp only [execOp,ho,hu,hs]
   have hmu:(Instr.entryStore t (.map (some h.b)) (S0.i s).val (a.eval y)).run P w=.ok () (setMap w h.b (es.toList.set s.toNat ⟨e'.key,a.eval y,e'.born⟩)):=by
    have:(setMap w h.b (es.toList.set s.toNat ⟨e'.key,a.eval y,e'.born⟩))={ w with heap:=w.heap.setIfInBounds h.b (.map (es.modify s.toNat fun e=>{ e with val:=a.eval y }) es.size) }:=by
     unfold setMap;rw [modify_set _ g1'];simp
    rw [this]
    have ha:(asInt (S0.i s).val).run P w=.ok s w:=rfl
    simp only [Instr.entryStore,Sem.run_bind,MapKept.run_getObj_map h3,Result.andThen_ok,ha,hfind,MapKept.run_setObj_map _ h3]
   simp [hmu]
  obtain ⟨hG1,hG2⟩:=hM.set (x':=.mp kt vt (l.set s.toNat (e0.1,yv))) (List.getElem?_eq_some_iff.1 hb).1 ((kept_setMap w h.b _).wide (fun b e=>by subst e;exact h2))
   ⟨h,(es.toList.set s.toNat ⟨e'.key,a.eval y,e'.born⟩).toArray,h1,h2,get_setMap h3,by simpa using MR.set g3 hV h4 e'.born (by omega)⟩
  exact ⟨none,.t [],_,_,_,_,hrun,hG1,hG2.weak (fun i e=>by subst e;simp [idsV]),e⟩
end
end Go.Tw
namespace Go.Tw
set_option linter.unusedSimpArgs false
set_option linter.unusedVariables false
section
variable {P:Program} {c:Cfg} {n:Nat} {a:Act} {l:Env} {il:IEnv} {O:Own} {ρ:List Hd} {tb:Tbl} {w:World} {o:Oper}
theorem ofSlAt {O₂:Own} {s n:Nat} {es:List Value} {v:Value} (h:Rd w s v n es) (hb:∀ b a ty fz,n ≠ 0->blockOf v b->w.heap[b]? = some (.cells a ty fz)->O₂ b=.im a.toList):SlAt O₂ n es v:=by
 obtain ⟨hl,h2⟩:=h
 rcases h2 with h2 | ⟨b,off,cap,all,ty,fz,rfl,h0,h3,h4⟩
 ·exact .inl h2
 ·by_cases hn:n=0
  ·subst hn;exact .inl ⟨rfl,_,_,rfl⟩
  ·have h6:=hb b _ _ _ hn rfl h3
   exact .inr ⟨b,off,cap,rfl,h0,_,h6,fun j c hj=>by simpa using h4 j c hj⟩
theorem run_copyG (hc:COk P c) {ty ty2 e s q m:Nat} {A B:Operand} {b':Option Addr} {c':Nat} {ys:List Value} {w':World} (ho:o.op=.call ⟨.builtin .copy,#[A,B],#[ty,ty2]⟩) (hd:c.D ty=some (.slice e)) (hz:c.Z e=some s) (hA:a.eval A=.slice b' m c') (hlen:(Builtin.lenOf (a.eval B)).run P w=.ok q w)
  (hf:(Builtin.firstCells s (Nat.min q m) (a.eval B)).run P w=.ok ys.toArray w) (hst:∀ ad,b'=some ad->(storeCells ad ys).run P w=.ok () w') (hn:b'=none->w'=w):(execOp a.eval o).run P w=.ok (.value (vI (Nat.min q m:Nat))) w':=by
 have hrun:(Builtin.copy_ #[ty,ty2] o.type #[.slice b' m c',a.eval B]).run P w=.ok (vI (Nat.min q m:Nat)) w':=by
  unfold Builtin.copy_
  cases b' with
  | none=>
   have:=hn rfl;subst this
   simp [run_underlying (hc.tok.desc _ _ hd),hlen,hc.tok.size _ _ hz,goInt,hf]
  | some ad=>
   have:=hst ad rfl
   simp [run_underlying (hc.tok.desc _ _ hd),hlen,hc.tok.size _ _ hz,goInt,hf,this]
 simp [execOp,ho,resolve,invoke,builtin,hA,hrun]
def wCp {β:Type} (c:Cfg) (il:IEnv) (tb:Tbl) (k:Option IV->Tbl->Option β) (ty ty2:Nat) (A B:Operand):Option β:=
 match c.D ty with
 | some (.slice e)=>match c.Z e,iopd c il A with
  | some s,some (.rw id)=>match nth tb id with
   | some (.row E t xs)=>match Nat.beq s t.size with
    | true=>srcI c il tb t ty2 B fun ys=>k (some (.o (.i (Nat.min ys.length xs.length:Nat)))) (tb.set id (.row E t (splice xs 0 ys (Nat.min ys.length xs.length))))
    | false=>none
   | _=>none
  | some s,some (.rp id lo hi)=>match nth tb id with
   | some (.row E t xs)=>match Nat.beq s t.size with
    | true=>srcI c il tb t ty2 B fun ys=>k (some (.o (.i (Nat.min ys.length (hi - lo):Nat)))) (tb.set id (.row E t (splice xs lo ys (Nat.min ys.length (hi - lo)))))
    | false=>none
   | _=>none
  | some s,some (.ap id p lo hi)=>match nth tb id with
   | some (.blk bt v)=>getP (fun u=>match u with
    | .ar m t xs=>match Nat.beq s t.size with
     | true=>srcI c il tb t ty2 B fun ys=>setP (.ar m t (vspl xs lo ys (Nat.min ys.length (hi - lo)))) p v fun v'=>k (some (.o (.i (Nat.min ys.length (hi - lo):Nat)))) (tb.set id (.blk bt v'))
     | false=>none
    | _=>none) p v
   | _=>none
  | _,_=>none
 | _=>none
theorem LR.splice {α:Type} {R:α->List Value->Prop} {s:Nat} (hR:∀ x c,R x c->c.length=s) {xs ys:List α} {es fs:List Value} (h:LR R xs es) (k:LR R ys fs) {lo q:Nat}:LR R (splice xs lo ys q) (es.take (lo * s) ++ fs.take (q * s) ++ es.drop ((lo + q) * s)):=
 ((h.split hR lo).1.append (k.split hR q).1).append (h.split hR (lo + q)).2
theorem wCp_ok {β:Type} {k:Option IV->Tbl->Option β} {r:β} (hc:COk P c) (hF:Fr n a l) (hE:ER O ρ il l) (hG:GO c O) (hM:Gm O ρ tb w) {ty ty2:Nat} {A B:Operand} (ho:o.op=.call ⟨.builtin .copy,#[A,B],#[ty,ty2]⟩) (e:wCp c il tb k ty ty2 A B=some r) {v:IV} (hv:iopd c il A=some v):WOk P a o O ρ w (· ∈ idsV v) k r:=by
 unfold wCp at e
 split at e<;>first | (cases e;done) | skip
 rename_i el hd
 have torow:∀ {s id E lo hi:Nat} {t:Ty} {xs:List t.den} {u:Value} {h:Hd},c.Z el=some s->Nat.beq s t.size=true->tb[id]? = some (.row E t xs)->ρ[id]? = some h->a.eval A=u->Part t.size h.v lo hi u ->
   (srcI c il tb t ty2 B fun ys=>k (some (.o (.i (Nat.min ys.length (hi - lo):Nat)))) (tb.set id (.row E t (splice xs lo ys (Nat.min ys.length (hi - lo))))))=some r->WOk P a o O ρ w (· = id) k r:=by
  intro s id E lo hi t xs u h hz hs hb hρ hu hp e
  have hs:=Nat.eq_of_beq_eq_true hs
  subst hs
  obtain ⟨h',es,h7,h8,h9,h10,h11⟩:=hM.th _ _ hb
  rw [hρ] at h7;cases h7
  obtain ⟨ys,fs,d2,hk,hL,hu2,hd2,hlen,hfirst⟩:=srcI_ok hc hF hE hG hM e
  have hfl:=LR.length (fun _ _=>TR.length) hL
  have hcy:Nat.min ys.length (hi - lo)≤ys.length:=Nat.min_le_left ..
  have hch:Nat.min ys.length (hi - lo)≤hi - lo:=Nat.min_le_right ..
  have hff:=hfirst w rfl _ hcy
  have hLs:=h10.splice (fun _ _=>TR.length) hL (lo:=lo) (q:=Nat.min ys.length (hi - lo))
  have h11':=h11
  obtain ⟨hl11,hr11⟩:=h11'
  obtain ⟨b,nn,cp,b',cp',hv0,hu0,hlo,hhi,hor⟩:=hp
  subst hu0
  have hnn:nn=xs.length:=by
   obtain ⟨b2,c2,e2,_⟩:=h11.rd.shape
   rw [hv0] at e2;cases e2;rfl
  subst hnn
  have hfcl:(fs.take (Nat.min ys.length (hi - lo) * t.size)).length=Nat.min ys.length (hi - lo) * t.size:=by
   rw [List.length_take,hfl];exact Nat.min_eq_left (Nat.mul_le_mul_right _ hcy)
  have hspl:spl es (lo * t.size) (fs.take (Nat.min ys.length (hi - lo) * t.size))=es.take (lo * t.size) ++ fs.take (Nat.min ys.length (hi - lo) * t.size) ++ es.drop ((lo + Nat.min ys.length (hi - lo)) * t.size):=by
   simp only [spl,hfcl,Nat.add_mul]
  have hsl:(splice xs lo ys (Nat.min ys.length (hi - lo))).length=xs.length:=by
   simp only [splice,List.length_append,List.length_take,List.length_drop]
   generalize hq:Nat.min ys.length (hi - lo)=q at *
   omega
  have hle:lo * t.size + (fs.take (Nat.min ys.length (hi - lo) * t.size)).length≤es.length:=by
   rw [hfcl,hl11,← Nat.add_mul]
   exact Nat.mul_le_mul_right _ (by clear hr11 hor hv0 h9;omega)
  rcases hr11 with ⟨hnil,hn0⟩ | ⟨b2,cap,sp,hv5,hnc,hblk,hcap,hmax⟩
  ·
   have hx0:xs=[]:=List.eq_nil_of_length_eq_zero hn0
   subst hx0
   have hv0':=hv0
   rw [hnil] at hv0'
   injection hv0' with e1 e2 e3
   subst e1 e3
   simp only [List.length_nil] at hhi
   have hlo0:lo=0:=by omega
   have hhi0:hi=0:=by omega
   subst hlo0 hhi0
   have hc0:Nat.min ys.length (0 - 0)=0:=by simp
   have hf0:fs.take (Nat.min ys.length (0 - 0) * t.size)=[]:=by rw [hc0];simp
   rw [hf0] at hff
   have hrun:=run_copyG (P:=P) (w':=w) hc ho hd hz hu (hlen w) hff (fun ad _=>rfl) (fun _=>rfl)
   refine ⟨some (.o (.i (Nat.min ys.length (0 - 0):Nat))),.o (.i (Nat.min ys.length (0 - 0):Nat)),_,O,ρ,w,⟨⟨_,rfl,rfl,rfl⟩,hrun⟩,?_,.refl _ _ _ _,hk⟩
   have hid:=(List.getElem?_eq_some_iff.1 hb).1
   obtain ⟨g1,g2⟩:=hM.set (x':=.row E t (splice ([]:List t.den) 0 ys (Nat.min ys.length (0 - 0)))) hid (Kept.refl _ w) ⟨h,[],hρ,h8,h9,by rw [hc0];simp [splice];rfl,by rw [hc0];simp [splice],.inl ⟨hv0,by rw [hc0];simp [splice]⟩⟩
   exact g1
  ·rw [hv5] at hv0;cases hv0
   have hown:O b2=.th id:=h9 b2 (by rw [hv5];rfl)
   have hle2:lo * t.size + (fs.take (Nat.min ys.length (hi - lo) * t.size)).length≤(es ++ sp).length:=by rw [List.length_append];omega
   have hone:∀ u ∈ fs.take (Nat.min ys.length (hi - lo) * t.size),u.oneCell'=true:=fun u hu=>LR.one (fun _ _=>TR.one) hL u (List.mem_of_mem_take hu)
   have hst:=run_storeCells (P:=P) _ (lo * t.size) 0 (es ++ sp) w hblk (by simpa using hle2) hone
   simp only [Nat.add_zero] at hst
   have hst2:(storeCells ⟨b2,lo * t.size,none⟩ (fs.take (Nat.min ys.length (hi - lo) * t.size))).run P w=.ok () (w.setRow b2 (spl es (lo * t.size) (fs.take (Nat.min ys.length (hi - lo) * t.size)) ++ sp).toArray):=by
    rw [← spl_app hle];exact hst
   have hrun:(execOp a.eval o).run P w=.ok (.value (vI (Nat.min ys.length (hi - lo):Nat))) (w.setRow b2 (spl es (lo * t.size) (fs.take (Nat.min ys.length (hi - lo) * t.size)) ++ sp).toArray):=by
    refine run_copyG (P:=P) hc ho hd hz hu (hlen w) hff (fun ad hb'=>?_) (fun hb'=>?_)
    ·rcases hor with hor | ⟨ad',h1,h2,_⟩
     ·
      have hc0:Nat.min ys.length (hi - lo)=0:=by omega
      have hf0:fs.take (Nat.min ys.length (hi - lo) * t.size)=[]:=by rw [hc0];simp
      rw [hf0]
      have hid:w.setRow b2 (spl es (lo * t.size) [] ++ sp).toArray=w:=by
       obtain ⟨fz,h3,_⟩:=hblk
       have:spl es (lo * t.size) []=es:=by simp [spl]
       rw [this];exact setRow_self w b2 _ E fz h3
      rw [hid];rfl
     ·cases h1
      rw [hb'] at h2
      cases h2
      rw [add_zero _ rfl,Nat.zero_add];exact hst2
    ·have hc0:Nat.min ys.length (hi - lo)=0:=by
      rcases hor with hor | ⟨ad',_,h2,_⟩
      ·omega
      ·rw [hb'] at h2;cases h2
     have hf0:fs.take (Nat.min ys.length (hi - lo) * t.size)=[]:=by rw [hc0];simp
     rw [hf0]
     obtain ⟨fz,h3,_⟩:=hblk
     have:spl es (lo * t.size) []=es:=by simp [spl]
     rw [this];exact setRow_self w b2 _ E fz h3
   have hlen2:(spl es (lo * t.size) (fs.take (Nat.min ys.length (hi - lo) * t.size))).length=es.length:=spl_len hle
   rw [← hspl] at hLs
   obtain ⟨g1,g2⟩:=hM.set (x':=.row E t (splice xs lo ys (Nat.min ys.length (hi - lo)))) (List.getElem?_eq_some_iff.1 hb).1 ((kept_setRow b2 _).wide (fun b' e=>by subst e;exact hown))
    ⟨h,_,hρ,h8,h9,hLs,by rw [hlen2,hsl];exact hl11,.inr ⟨b2,_,sp,by rw [hv5,hsl],by rw [hsl];exact hnc,hblk.setRow (by simp [hlen2]),by rw [← hcap];simp [hlen2],hmax⟩⟩
   exact ⟨some (.o (.i (Nat.min ys.length (hi - lo):Nat))),.o (.i (Nat.min ys.length (hi - lo):Nat)),_,O,ρ,_,⟨⟨_,rfl,rfl,rfl⟩,hrun⟩,g1,g2,hk⟩
 split at e<;>first | (cases e;done) | skip
 ·rename_i s id hz hA
  rw [hv] at hA;cases hA
  split at e<;>first | (cases e;done) | skip
  rename_i E t xs hb
  split at e<;>first | (cases e;done) | skip
  rename_i hs
  obtain ⟨u,hu,⟨h,h12,h13,_⟩,_⟩:=iopd_1 hE hG hv rfl (by simp) hF
  cases h13
  rw [nth_eq] at hb
  have hp:Part t.size h.v 0 xs.length h.v:=by
   obtain ⟨h',es,h7,h8,h9,h10,h11⟩:=hM.th _ _ hb
   rw [h12] at h7;cases h7
   obtain ⟨b,cp,e2,hn,hcp⟩:=h11.rd.shape
   rw [e2]
   refine ⟨b,_,cp,b,cp,rfl,by simp,by omega,by omega,?_⟩
   by_cases h0:xs.length=0
   ·exact .inl h0
   ·refine .inr ?_
    cases b with
    | none=>exact absurd (hn rfl) h0
    | some ad=>exact ⟨ad,rfl,by rw [Nat.zero_mul];simp [Addr.add],by omega⟩
  have:=torow (lo:=0) (hi:=xs.length) hz hs hb h12 hu hp e
  obtain ⟨v,x,tb',O',ρ',w2,g1,g2,g3,g4⟩:=this
  exact ⟨v,x,tb',O',ρ',w2,g1,g2,g3.weak (fun i e=>by subst e;simp [idsV]),g4⟩
 ·rename_i s id lo hi hz hA
  rw [hv] at hA;cases hA
  split at e<;>first | (cases e;done) | skip
  rename_i E t xs hb
  split at e<;>first | (cases e;done) | skip
  rename_i hs
  obtain ⟨u,hu,⟨h,u',h12,h13,hp⟩,_⟩:=iopd_1 hE hG hv rfl (by simp) hF
  cases h13
  rw [nth_eq] at hb
  have hp':Part t.size h.v lo hi u:=by
   obtain ⟨h',es,h7,h8,_⟩:=hM.th _ _ hb
   rw [h12] at h7;cases h7
   rw [h8,Ty.sz_size] at hp;exact hp
  have:=torow hz hs hb h12 hu hp' e
  obtain ⟨v,x,tb',O',ρ',w2,g1,g2,g3,g4⟩:=this
  exact ⟨v,x,tb',O',ρ',w2,g1,g2,g3.weak (fun i e=>by subst e;simp [idsV]),g4⟩
 ·rename_i s id p lo hi hz hA
  rw [hv] at hA;cases hA
  split at e<;>first | (cases e;done) | skip
  rename_i bt v hb
  rw [nth_eq] at hb
  obtain ⟨u,hu,⟨h,off,m,z,h1,h2,h3,u',hcs,hp⟩,_⟩:=iopd_1 hE hG hv rfl (by simp) hF
  cases hcs
  obtain ⟨h',cs,h4,h5,h6,h7,h8⟩:=hM.th _ _ hb
  rw [h1] at h4;cases h4
  rw [h6] at h2 h3
  obtain ⟨q,hk,h9,h10,h11⟩:=getP_R e h7 h2
  split at hk<;>first | (cases hk;done) | skip
  rename_i m' t xs
  rw [h3] at h11;cases h11
  split at hk<;>first | (cases hk;done) | skip
  rename_i hs
  have hs:=Nat.eq_of_beq_eq_true hs
  subst hs
  rw [Ty.sz_size] at hp
  obtain ⟨ys,fs,d2,hk,hL,hu2,hd2,hlen,hfirst⟩:=srcI_ok hc hF hE hG hM hk
  have hfl:=LR.length (fun _ _=>TR.length) hL
  have hcy:Nat.min ys.length (hi - lo)≤ys.length:=Nat.min_le_left ..
  have hch:Nat.min ys.length (hi - lo)≤hi - lo:=Nat.min_le_right ..
  have hff:=hfirst w rfl _ hcy
  obtain ⟨b,nn,cp,b',cp',hv0,hu0,hlo,hhi,hor⟩:=hp
  cases hv0
  subst hu0
  simp only [IV.sz,Sz.size,Ty.sz_size] at h9 h10
  have h9':LR (TR O t) xs.toList ((cs.drop off).take (m * t.size)):=h9
  have hLs:=h9'.splice (fun _ _=>TR.length) hL (lo:=lo) (q:=Nat.min ys.length (hi - lo))
  have hfcl:(fs.take (Nat.min ys.length (hi - lo) * t.size)).length=Nat.min ys.length (hi - lo) * t.size:=by
   rw [List.length_take,hfl];exact Nat.min_eq_left (Nat.mul_le_mul_right _ hcy)
  have hb1:lo * t.size + Nat.min ys.length (hi - lo) * t.size≤m * t.size:=by
   rw [← Nat.add_mul];exact Nat.mul_le_mul_right _ (by omega)
  have hnew:R O ρ false (.ar m t (vspl xs lo ys (Nat.min ys.length (hi - lo)))) (spl ((cs.drop off).take (m * t.size)) (lo * t.size) (fs.take (Nat.min ys.length (hi - lo) * t.size))):=by
   show LR _ _ _
   rw [vspl_toList (by omega) hcy]
   simp only [spl,hfcl,← Nat.add_mul];exact hLs
  obtain ⟨v',hk,h12,h13,h14⟩:=setP_R hnew hk h7 h2
  have hml:((cs.drop off).take (m * t.size)).length=m * t.size:=by rw [List.length_take,List.length_drop];omega
  rw [spl_spl (by rw [hfcl];exact hb1) h10] at h12
  have hone:∀ u ∈ fs.take (Nat.min ys.length (hi - lo) * t.size),u.oneCell'=true:=fun u hu=>LR.one (fun _ _=>TR.one) hL u (List.mem_of_mem_take hu)
  have hle:off + lo * t.size + (fs.take (Nat.min ys.length (hi - lo) * t.size)).length≤cs.length:=by rw [hfcl];omega
  have hst:=run_storeCells (P:=P) _ (off + lo * t.size) 0 cs w h8 (by simpa using hle) hone
  simp only [Nat.add_zero] at hst
  have hrun:(execOp a.eval o).run P w=.ok (.value (vI (Nat.min ys.length (hi - lo):Nat))) (w.setRow h.b (spl cs (off + lo * t.size) (fs.take (Nat.min ys.length (hi - lo) * t.size))).toArray):=by
   have empty:Nat.min ys.length (hi - lo)=0->w.setRow h.b (spl cs (off + lo * t.size) (fs.take (Nat.min ys.length (hi - lo) * t.size))).toArray=w∧fs.take (Nat.min ys.length (hi - lo) * t.size)=[]:=fun h0=>by
    have hf0:fs.take (Nat.min ys.length (hi - lo) * t.size)=[]:=by rw [h0];simp
    refine ⟨?_,hf0⟩
    rw [hf0]
    obtain ⟨fz,hh,_⟩:=h8
    have:spl cs (off + lo * t.size) []=cs:=by simp [spl]
    rw [this];exact setRow_self w h.b _ bt fz hh
   refine run_copyG (P:=P) hc ho hd hz hu (hlen w) hff (fun ad hb'=>?_) (fun hb'=>?_)
   ·rcases hor with hor | ⟨ad',e1,e2,_⟩
    ·obtain ⟨e3,e4⟩:=empty (by omega)
     rw [e3,e4];rfl
    ·cases e1
     rw [hb'] at e2;cases e2
     rw [add_zero _ rfl];exact hst
   ·refine (empty ?_).1
    rcases hor with hor | ⟨ad',_,e2,_⟩
    ·omega
    ·rw [hb'] at e2;cases e2
  obtain ⟨g1,g2⟩:=hM.set (x':=.blk bt v') (List.getElem?_eq_some_iff.1 hb).1 ((kept_setRow h.b _).wide (fun b' e=>by subst e;exact h5))
   ⟨h,_,h1,h5,by rw [h6,h14],h12,h8.setRow (spl_len hle)⟩
  exact ⟨some (.o (.i (Nat.min ys.length (hi - lo):Nat))),.o (.i (Nat.min ys.length (hi - lo):Nat)),_,O,ρ,_,⟨⟨_,rfl,rfl,rfl⟩,hrun⟩,g1,g2.weak (fun i e=>by subst e;simp [idsV]),hk⟩
theorem Gm.mark {w':World} {b:Nat} {all:List Value} (hM:Gm O ρ tb w) (hO:O b=.im all) (hs:w'.heap.size=w.heap.size) (hoth:∀ b',b' ≠ b->w'.heap[b']? = w.heap[b']?) (hb:∃ ty fz,w'.heap[b]? = some (.cells all.toArray ty fz)):Gm O ρ tb w':=by
 refine ⟨fun b' all' e=>?_,fun b' h=>hM.lt b' (hs ▸ h),hM.len,fun j x hx=>?_⟩
 ·by_cases h:b'=b
  ·subst h;rw [hO] at e;cases e;exact hb
  ·rw [hoth b' h];exact hM.im b' all' e
 ·have old:=hM.th j x hx
  cases x with
  | blk ty v=>
   obtain ⟨h,cs,h3,h4,h5,h6,h7⟩:=old
   exact ⟨h,cs,h3,h4,h5,h6,h7.same (hoth _ (fun e=>by rw [e,hO] at h4;cases h4))⟩
  | row E t xs=>
   obtain ⟨h,es,h3,h4,h5,h6,h7⟩:=old
   exact ⟨h,es,h3,h4,h5,h6,Rs.same (r:=.row E t.size h.v xs.length es) (fun b' hbb=>hoth _ (fun e=>by have:=h5 b' hbb;rw [e,hO] at this;cases this)) h7⟩
  | fz t xs=>exact old
  | no=>trivial
  | mk=>
   obtain ⟨h,h3,h4,h5⟩:=old
   exact ⟨h,h3,h4,by rw [hoth _ (fun e=>by rw [e,hO] at h4;cases h4)];exact h5⟩
  | mp kt vt l=>
   obtain ⟨h,es,h3,h4,h5,h6⟩:=old
   exact ⟨h,es,h3,h4,by rw [hoth _ (fun e=>by rw [e,hO] at h4;cases h4)];exact h5,h6⟩
def wS2S {β:Type} (c:Cfg) (il:IEnv) (tb:Tbl) (k:Option IV->Tbl->Option β) (src dst:Nat) (x:Operand):Option β:=
 match c.D src,Nat.beq src dst,iopd c il x with
 | some (.slice e),true,some (.rw id)=>match c.D e,nth tb id with
  | some (.int .u8),some (.row E t xs)=>match xs with
   | []=>none
   | x :: xs=>k (some (.rw id)) (tb.set id (.fz t (x :: xs)))
  | _,_=>none
 | _,_,_=>none
theorem wS2S_ok {β:Type} {k:Option IV->Tbl->Option β} {r:β} (hc:COk P c) (hF:Fr n a l) (hE:ER O ρ il l) (hG:GO c O) (hM:Gm O ρ tb w) {src dst:Nat} {x:Operand} (ho:o.op=.convert src dst x) (e:wS2S c il tb k src dst x=some r) {v:IV} (hv:iopd c il x=some v):WOk P a o O ρ w (· ∈ idsV v) k r:=by
 unfold wS2S at e
 split at e<;>first | (cases e;done) | skip
 rename_i el id hd hsd hx
 have hsd:=Nat.eq_of_beq_eq_true hsd
 subst hsd
 rw [hv] at hx;cases hx
 split at e<;>first | (cases e;done) | skip
 rename_i E t xs he hb
 split at e<;>first | (cases e;done) | skip
 rename_i x0 xs
 rw [nth_eq] at hb
 obtain ⟨sv,hy,hSR⟩:=iopd_ok hE hG hv
 have hSR0:=hSR
 obtain ⟨y0,rfl,u,rfl,hR⟩:=hSR
 have hu:a.eval x=u:=opd_val hF hy
 obtain ⟨O',h,h1,g1,g2,g3,g4,g5⟩:=hM.frz hb
 obtain ⟨h',es,h1',h2,h3,h4,h5⟩:=hM.th _ _ hb
 rw [h1] at h1';cases h1'
 have hR':=hR
 obtain ⟨h'',k1,k2,_⟩:=hR'
 rw [h1] at k1;cases k1
 simp only [List.cons.injEq,and_true] at k2
 obtain ⟨hl,h6⟩:=h5
 rcases h6 with ⟨_,h0⟩ | ⟨b,cap,sp,hv',hnc,⟨fz,hh,hfz⟩,hcap,hmx⟩
 ·simp at h0
 have hblt:b < w.heap.size:=(Array.getElem?_eq_some_iff.1 hh).1
 have hshape:w.shape? b=some (E,(es ++ sp).length):=by simp [World.shape?,hh]
 have hOb:O' b=.im (es ++ sp):=by
  obtain ⟨u2,es2,e1,e2,e3⟩:=g3
  simp only [List.cons.injEq,and_true] at e1
  subst e1
  rcases e3 with ⟨e3,_⟩ | ⟨b2,off,cp,e3,_,all,e4,_⟩
  ·simp at e3
  ·rw [hv'] at e3;cases e3
   obtain ⟨ty2,fz2,hh2⟩:=g1.im b all e4
   rw [hh] at hh2
   injection hh2 with hh2
   injection hh2 with hh2
   rw [e4];simpa using (congrArg Array.toList hh2).symm
 have hfr:∀ m:Nat,∃ fz',(w.freeze ⟨b,m,none⟩ 1).heap=w.heap.modify b (fun _=>.cells (es ++ sp).toArray E fz'):=fun m=>by
  refine ⟨if fz.1 == fz.2 then (m,m + 1) else (min fz.1 m,max fz.2 (m + 1)),?_⟩
  unfold World.freeze
  rw [if_neg (by decide)]
  apply Array.ext
  ·simp
  ·intro i h1 h2
   simp only [Array.getElem_modify]
   by_cases hi:b=i
   ·subst hi
    have:w.heap[b]'hblt=.cells (es ++ sp).toArray E fz:=by
     rw [Array.getElem?_eq_getElem hblt] at hh;injection hh
    simp [this]
   ·simp [hi]
 obtain ⟨fz',hfr⟩:=hfr (es ++ sp).length
 have hrun:(execOp a.eval o).run P w=.ok (.value (SV.o (.v u)).val) (w.freeze ⟨b,(es ++ sp).length,none⟩ 1):=by
  simp only [execOp,ho,hu]
  have hyv:(SV.o (.v u)).val=u:=rfl
  rw [hyv,k2,hv']
  have:(convert src src (.slice (some ⟨b,0,none⟩) (x0 :: xs).length cap)).run P w=.ok (.slice (some ⟨b,0,none⟩) (x0 :: xs).length cap) (w.freeze ⟨b,(es ++ sp).length,none⟩ 1):=by
   simp [convert,run_underlying (hc.tok.desc _ _ hd),run_underlying (hc.tok.desc _ _ he),markStringish,hshape]
  simp only [Sem.run_bind,this,Result.andThen_ok]
  rfl
 have hoth:∀ b',b' ≠ b->(w.freeze ⟨b,(es ++ sp).length,none⟩ 1).heap[b']? = w.heap[b']?:=fun b' hb'=>by
  rw [hfr,Array.getElem?_modify];simp [Ne.symm hb']
 refine ⟨some (.rw id),.o (.v u),_,O',ρ,_,⟨SR.mono g2.im g2.pre hSR0,hrun⟩,g1.mark hOb (by rw [hfr];simp) hoth ⟨E,fz',by rw [hfr,Array.getElem?_modify];simp [hh]⟩,?_,e⟩
 ·refine ⟨g2.pre,g2.im,g2.no,fun b' j hb' ho' hn=>g2.own b' j hb' ho' (fun e=>hn (by subst e;simp [idsV])),⟨rfl,rfl,rfl,by rw [hfr];simp,fun b' hb' hn=>hoth b' (fun e=>hn ⟨id,by simp [idsV],by rw [e];exact h3 b (by rw [hv'];rfl)⟩)⟩⟩
def wConv {β:Type} (c:Cfg) (il:IEnv) (tb:Tbl) (k:Option IV->Tbl->Option β) (src dst:Nat) (x:Operand):Option β:=
 match c.D src with
 | some (.slice _)=>wS2S c il tb k src dst x
 | _=>wS2B c il tb k src dst x
def wOp {β:Type} (c:Cfg) (il:IEnv) (tb:Tbl) (k:Option IV->Tbl->Option β):Op->Option β
 | .alloc t=>wAl c tb k t
 | .box t x=>wBox c il tb k t x
 | .store t x y=>wSt c il tb k t x y
 | .makeSlice t x y=>wMk c il tb k t x y
 | .buildSlice t len ps=>wLit c il tb k t len ps.toList
 | .convert src dst x=>wConv c il tb k src dst x
 | .call cl=>match cl.callee,cl.args.toList,cl.argTypes.toList with
  | .builtin .append,[A,B],[ty,ty2]=>wApp c il tb k ty ty2 A B
  | .builtin .copy,[A,B],[ty,ty2]=>wCp c il tb k ty ty2 A B
  | _,_,_=>none
 | .makeMap t h=>wMM c il tb k t h
 | .mapUpdate t m x y=>wMU c il tb k t m x y
 | .mapEntry t m x=>wME c il tb k t m x
 | .entryStore _ m x y=>wES c il tb k m x y
 | _=>none
def wIds (c:Cfg) (il:IEnv):Op->List Nat
 | .buildSlice _ _ ps=>litIds c il ps.toList
 | .store _ x _=>match iopd c il x with
  | some v=>idsV v
  | none=>[]
 | .convert _ _ x=>match iopd c il x with
  | some v=>idsV v
  | none=>[]
 | .mapUpdate _ x _ _=>match iopd c il x with
  | some v=>idsV v
  | none=>[]
 | .mapEntry _ x _=>match iopd c il x with
  | some v=>idsV v
  | none=>[]
 | .entryStore _ x _ _=>match iopd c il x with
  | some v=>idsV v
  | none=>[]
 | .call cl=>match cl.args.toList with
  | A :: _=>match iopd c il A with
   | some v=>idsV v
   | none=>[]
  | []=>[]
 | _=>[]
theorem WOk.weak {β:Type} {k:Option IV->Tbl->Option β} {r:β} {M M':Nat->Prop} (h:∀ i,M i->M' i) (H:WOk P a o O ρ w M k r):WOk P a o O ρ w M' k r:=by
 obtain ⟨v,x,tb',O',ρ',w2,g1,g2,g3,g4⟩:=H
 exact ⟨v,x,tb',O',ρ',w2,g1,g2,g3.weak h,g4⟩
theorem wOp_ok {β:Type} {k:Option IV->Tbl->Option β} {r:β} (hc:COk P c) (hF:Fr n a l) (hE:ER O ρ il l) (hG:GO c O) (hM:Gm O ρ tb w) (e:wOp c il tb k o.op=some r):WOk P a o O ρ w (· ∈ wIds c il o.op) k r:=by
 cases ho:o.op<;>rw [ho] at e<;>simp only [wOp] at e<;>first | (cases e;done) | skip
 case alloc t=>exact (wAl_ok hc hM ho e).weak (fun _ h=>h.elim)
 case box t x=>exact (wBox_ok hF hE hG hM ho e).weak (fun _ h=>h.elim)
 case store t x y=>
  cases hx:iopd c il x with
  | none=>exfalso;unfold wSt at e;simp only [hx] at e;split at e<;>first | (cases e;done) | skip;split at e<;>cases e
  | some v=>have:=wSt_ok hc hF hE hG hM ho e hx;simpa only [wIds,hx] using this
 case makeMap t h=>exact (wMM_ok hc hF hE hG hM ho e).weak (fun _ h=>h.elim)
 case mapUpdate t m x y=>
  cases hx:iopd c il m with
  | none=>exfalso;unfold wMU at e;simp only [hx] at e;split at e<;>first | (cases e;done) | (rename_i h _ _;cases h)
  | some v=>have:=wMU_ok hc hF hE hG hM ho e hx;simpa only [wIds,hx] using this
 case mapEntry t m x=>
  cases hx:iopd c il m with
  | none=>exfalso;unfold wME at e;simp only [hx] at e;split at e<;>first | (cases e;done) | (rename_i h _;cases h)
  | some v=>have:=wME_ok hc hF hE hG hM ho e hx;simpa only [wIds,hx] using this
 case entryStore t m x y=>
  cases hx:iopd c il m with
  | none=>exfalso;unfold wES at e;simp only [hx] at e;first | (cases e;done) | (split at e<;>first | (cases e;done) | (rename_i h _ _;cases h))
  | some v=>have:=wES_ok hc hF hE hG hM ho e hx;simpa only [wIds,hx] using this
 case makeSlice t x y=>exact (wMk_ok hc hF hE hG hM ho e).weak (fun _ h=>h.elim)
 case buildSlice t len ps=>exact wLit_ok hc hF hE hG hM ho e
 case convert src dst x=>
  unfold wConv at e
  split at e
  ·cases hx:iopd c il x with
   | none=>exfalso;unfold wS2S at e;simp only [hx] at e;split at e<;>first | (cases e;done) | (rename_i h;cases h)
   | some v=>have:=wS2S_ok hc hF hE hG hM ho e hx;simpa only [wIds,hx] using this
  ·exact (wS2B_ok hc hF hE hG hM ho e).weak (fun _ h=>h.elim)
 case call cl=>
  obtain ⟨callee,args,ts⟩:=cl
  simp only at e
  split at e<;>first | (cases e;done) | skip
  ·rename_i A B ty ty2 ha hts
   have ha:=arr_of_toList ha
   have hts:=arr_of_toList hts
   subst ha hts
   cases hx:iopd c il A with
   | none=>exact (wApp_none e hx).elim
   | some v=>have:=wApp_ok hc hF hE hG hM ho e hx;simpa only [wIds,hx] using this
  ·rename_i A B ty ty2 ha hts
   have ha:=arr_of_toList ha
   have hts:=arr_of_toList hts
   subst ha hts
   cases hx:iopd c il A with
   | none=>exfalso;unfold wCp at e;simp only [hx] at e;split at e<;>first | (cases e;done) | skip;split at e<;>first | (cases e;done) | (rename_i h;cases h)
   | some v=>have:=wCp_ok hc hF hE hG hM ho e hx;simpa only [wIds,hx] using this
end
end Go.Tw
namespace Go.Tw
set_option linter.unusedSimpArgs false
set_option linter.unusedVariables false
inductive Sh where
 | i
 | u8
 | u32
 | u64
 | bo
 | str
 | ns
 | np
 | nf
 | ro (t:Ty)
 | rw (j:Nat)
 | rp (j:Nat)
 | pt (j:Nat) (p:List Nat)
 | ps (j n:Nat)
 | ap (j:Nat) (p:List Nat)
 | fn (f:Nat) (a c:Sh)
 | un
 | pr (a b:Sh)
 | ar (n:Nat) (t:Ty)
 | ud
 | re (t:Ty)
 | mp (j:Nat)
 | nn
 | rn (t:Ty)
abbrev Sh.den:Sh->Type
 | .i=>Int
 | .u8=>UInt8
 | .u32=>UInt32
 | .u64=>UInt64
 | .bo=>Bool
 | .str=>List UInt8
 | .ro t=>List t.den
 | .rp _=>Nat×Nat
 | .ap _ _=>Nat×Nat
 | .fn _ a c=>a.den×c.den
 | .pr a b=>a.den×b.den
 | .ar n t=>Vector t.den n
 | .re t=>t.den
 | .ns=>Unit
 | .np=>Unit
 | .nf=>Unit
 | .rw _=>Unit
 | .pt _ _=>Unit
 | .ps _ _=>Unit
 | .mp _=>Unit
 | .nn=>Unit
 | .rn t=>List t.den
 | .un=>Unit
 | .ud=>Unit
def enc:(s:Sh)->s.den->IV
 | .i,x=>.o (.i x)
 | .u8,x=>.o (.u8 x)
 | .u32,x=>.o (.u32 x)
 | .u64,x=>.o (.u64 x)
 | .bo,x=>.o (.b x)
 | .str,x=>.o (.s x)
 | .ns,_=>.o (.v (.slice none 0 0))
 | .np,_=>.o (.v (.pointer none))
 | .nf,_=>.o (.v .nilFunc)
 | .ro t,x=>.ro t x
 | .rw j,_=>.rw j
 | .rp j,x=>.rp j x.1 x.2
 | .pt j p,_=>.pt j p
 | .ps j n,_=>.ps j n
 | .ap j p,x=>.ap j p x.1 x.2
 | .fn f a c,x=>.fn f (enc a x.1) (enc c x.2)
 | .un,_=>.un
 | .pr a b,x=>.pr (enc a x.1) (enc b x.2)
 | .ar n t,x=>.ar n t x
 | .ud,_=>.ud
 | .re t,x=>.re t x
 | .mp j,_=>.mp j
 | .nn,_=>.nn
 | .rn t,x=>.rn t x
inductive TSh where
 | blk (ty:TypeId) (s:Sh)
 | row (E:TypeId) (t:Ty)
 | fz (t:Ty)
 | no
 | mp (kt vt:Ty)
abbrev TSh.den:TSh->Type
 | .blk _ s=>s.den
 | .row _ t=>List t.den
 | .fz t=>List t.den
 | .no=>Unit
 | .mp kt vt=>List (kt.den×vt.den)
def encT:(s:TSh)->s.den->Thing
 | .blk ty s,x=>.blk ty (enc s x)
 | .row E t,x=>.row E t x
 | .fz t,x=>.fz t x
 | .no,_=>.no
 | .mp kt vt,x=>.mp kt vt x
abbrev dens:List Sh->Type
 | []=>Unit
 | s :: r=>s.den×dens r
abbrev tdens:List TSh->Type
 | []=>Unit
 | s :: r=>s.den×tdens r
def encs:(ss:List Sh)->dens ss->List IV
 | [],_=>[]
 | s :: r,x=>enc s x.1 :: encs r x.2
def encTs:(ss:List TSh)->tdens ss->Tbl
 | [],_=>[]
 | s :: r,x=>encT s x.1 :: encTs r x.2
theorem encs_len:∀ {ss:List Sh} {x:dens ss},(encs ss x).length=ss.length
 | [],_=>rfl
 | _ :: _,_=>by simp [encs,encs_len]
theorem encTs_len:∀ {ss:List TSh} {x:tdens ss},(encTs ss x).length=ss.length
 | [],_=>rfl
 | _ :: _,_=>by simp [encTs,encTs_len]
structure Un where
 bd:List Nat
 tb:Tbl
 lt:List Nat
def idx:List Nat->Nat->Option Nat
 | [],_=>none
 | x :: r,i=>match Nat.beq x i with
  | true=>some 0
  | false=>match idx r i with
   | some j=>some (j + 1)
   | none=>none
theorem idx_some:∀ {l:List Nat} {i j:Nat},idx l i=some j->l[j]? = some i
 | [],i,j,h=>by simp [idx] at h
 | x :: r,i,j,h=>by
  simp only [idx] at h
  split at h
  ·rename_i e;cases h;simp [Nat.eq_of_beq_eq_true e]
  ·split at h
   ·rename_i k hk;cases h;simpa using idx_some hk
   ·cases h
theorem idx_none:∀ {l:List Nat} {i:Nat},idx l i=none->i ∉ l
 | [],i,h=>by simp
 | x :: r,i,h=>by
  simp only [idx] at h
  split at h
  ·cases h
  ·rename_i e
   split at h
   ·cases h
   ·rename_i hn
    have:=idx_none hn
    simp only [List.mem_cons,not_or]
    exact ⟨fun hh=>by subst hh;simp at e,this⟩
theorem idx_of_get:∀ {l:List Nat} {i j:Nat},l.Nodup->l[j]? = some i->idx l i=some j
 | [],i,j,_,h=>by simp at h
 | x :: r,i,0,_,h=>by simp at h;subst h;simp [idx]
 | x :: r,i,j + 1,hn,h=>by
  simp at h
  rw [List.nodup_cons] at hn
  have hne:x ≠ i:=fun e=>hn.1 (by subst e;exact List.mem_of_getElem? h)
  have hb:Nat.beq x i=false:=by
   cases hb:Nat.beq x i with
   | false=>rfl
   | true=>exact absurd (Nat.eq_of_beq_eq_true hb) hne
  simp only [idx,hb,idx_of_get hn.2 h]
def bindU {β:Type} (j id:Nat) (u:Un) (k:Un->Option β):Option β:=
 match nth u.bd j with
 | some id'=>match Nat.beq id' id with
  | true=>k u
  | false=>none
 | none=>match Nat.beq j u.bd.length,idx u.bd id with
  | true,none=>match nth u.tb id with
   | some _=>k { u with bd:=u.bd ++ [id] }
   | none=>none
  | _,_=>none
def eqL:List Nat->List Nat->Bool
 | [],[]=>true
 | x :: r,y :: q=>Nat.beq x y && eqL r q
 | _,_=>false
theorem eqL_eq:∀ {a b:List Nat},eqL a b=true->a=b
 | [],[],_=>rfl
 | [],_ :: _,h=>by simp [eqL] at h
 | _ :: _,[],h=>by simp [eqL] at h
 | x :: r,y :: q,h=>by
  simp only [eqL,Bool.and_eq_true] at h
  rw [Nat.eq_of_beq_eq_true h.1,eqL_eq h.2]
def freeze {β:Type} (t:Ty) (id:Nat) (u:Un) (k:List t.den->Un->Option β):Option β:=
 match nth u.tb id with
 | some (.row _ t' xs)=>match castR (Ty.eq? t' t) xs,idx u.bd id with
  | some xs,none=>k xs { u with tb:=u.tb.set id (.fz t xs) }
  | _,_=>none
 | some (.fz t' xs)=>match castR (Ty.eq? t' t) xs with
  | some xs=>k xs u
  | none=>none
 | _=>none
def uV {β:Type} (md:Bool) (ts:List TSh):(s:Sh)->IV->Un->(s.den->Un->Option β)->Option β
 | .i,v,u,k=>match v.asI with
  | some x=>k x u
  | none=>none
 | .u8,v,u,k=>match v.asU8 with
  | some x=>k x u
  | none=>none
 | .u32,v,u,k=>match v.asU32 with
  | some x=>k x u
  | none=>none
 | .u64,v,u,k=>match v.asU64 with
  | some x=>k x u
  | none=>none
 | .bo,v,u,k=>match v.asB with
  | some x=>k x u
  | none=>none
 | .str,v,u,k=>match v.asS with
  | some x=>k x u
  | none=>none
 | .ns,v,u,k=>match v.asNil with
  | true=>k () u
  | false=>none
 | .np,v,u,k=>match v with
  | .o (.v (.pointer none))=>k () u
  | _=>none
 | .nf,v,u,k=>match v with
  | .o (.v .nilFunc)=>k () u
  | _=>none
 | .re t,v,u,k=>match v with
  | .re t' x=>match toP t (ofP t' x) with
   | some y=>k y u
   | none=>none
  | .pt id p=>match md with
   | true=>match nth u.tb id with
    | some (.blk _ v0)=>getP (fun z=>match toP t z with
     | some y=>k y { u with lt:=id :: u.lt }
     | none=>none) p v0
    | _=>none
   | false=>none
  | _=>none
 | .ro t,v,u,k=>match md with
  | true=>match v with
   | .ro t' xs=>match castR (Ty.eq? t' t) xs with
    | some xs=>k xs u
    | none=>none
   | v=>match v.agg with
    | false=>cont t u.tb v fun xs=>k xs { u with lt:=idsV v ++ u.lt }
    | true=>none
  | false=>match v with
   | .ro t' xs=>match castR (Ty.eq? t' t) xs with
    | some xs=>k xs u
    | none=>none
   | .rw id=>freeze t id u k
   | .rp id lo hi=>freeze t id u fun xs u=>k ((xs.drop lo).take (hi - lo)) u
   | v=>match v.asNil with
    | true=>k [] u
    | false=>none
 | .rw j,v,u,k=>match v with
  | .rw id=>bindU j id u (k ())
  | v=>match v.asNil,nth ts j with
   | true,some (.row E t)=>bindU j u.tb.length { u with tb:=u.tb ++ [.row E t []] } (k ())
   | _,_=>none
 | .rp j,v,u,k=>match v with
  | .rp id lo hi=>bindU j id u (k (lo,hi))
  | .rw id=>match nth u.tb id with
   | some (.row _ _ xs)=>bindU j id u (k (0,xs.length))
   | _=>none
  | v=>match v.asNil,nth u.bd j with
   | true,some id=>match nth u.tb id with
    | some (.row _ _ xs)=>bindU j id u (k (0,0))
    | _=>none
   | _,_=>none
 | .ps j n,v,u,k=>match v with
  | .ps id n'=>match Nat.beq n n' with
   | true=>bindU j id u (k ())
   | false=>none
  | _=>none
 | .nn,v,u,k=>match v with
  | .nn=>k () u
  | _=>none
 | .rn t,v,u,k=>match v with
  | .rn t' xs=>match castR (Ty.eq? t' t) xs with
   | some xs=>k xs u
   | none=>none
  | _=>none
 | .mp j,v,u,k=>match v with
  | .mp id=>bindU j id u (k ())
  | _=>none
 | .pt j p,v,u,k=>match v with
  | .pt id p'=>match eqL p' p with
   | true=>bindU j id u (k ())
   | false=>none
  | _=>none
 | .ap j p,v,u,k=>match v with
  | .ap id p' lo hi=>match eqL p' p with
   | true=>bindU j id u (k (lo,hi))
   | false=>none
  | _=>none
 | .fn f a c,v,u,k=>match v with
  | .fn f' a' c'=>match Nat.beq f f' with
   | true=>uV md ts a a' u fun x u=>uV md ts c c' u fun y u=>k (x,y) u
   | false=>none
  | _=>none
 | .un,v,u,k=>match v with
  | .un=>k () u
  | _=>none
 | .pr a b,v,u,k=>match v with
  | .pr a' b'=>uV md ts a a' u fun x u=>uV md ts b b' u fun y u=>k (x,y) u
  | _=>none
 | .ar n t,v,u,k=>match v.asAr n t with
  | some xs=>k xs u
  | none=>none
 | .ud,v,u,k=>match v.agg with
  | true=>none
  | false=>k () u
def uVs {β:Type} (md:Bool) (ts:List TSh):(ss:List Sh)->List IV->Un->(dens ss->Un->Option β)->Option β
 | [],[],u,k=>k () u
 | s :: r,v :: vs,u,k=>uV md ts s v u fun x u=>uVs md ts r vs u fun y u=>k (x,y) u
 | _,_,_,_=>none
def uT {β:Type} (md:Bool) (ts:List TSh) (s:TSh) (x:Thing) (u:Un) (k:s.den->Un->Option β):Option β:=
 match s with
 | .blk ty s=>match x with
  | .blk ty' v=>match Nat.beq ty ty' with
   | true=>uV md ts s v u k
   | false=>none
  | _=>none
 | .row E t=>match x with
  | .row E' t' xs=>match Nat.beq E E',castR (Ty.eq? t' t) xs with
   | true,some xs=>k xs u
   | _,_=>none
  | _=>none
 | .fz t=>match x with
  | .fz t' xs=>match castR (Ty.eq? t' t) xs with
   | some xs=>k xs u
   | none=>none
  | _=>none
 | .no=>k () u
 | .mp kt vt=>match x with
  | .mp kt' vt' xs=>match castM (Ty.eq? kt' kt) (Ty.eq? vt' vt) xs with
   | some xs=>k xs u
   | none=>none
  | _=>none
def uTs {β:Type} (md:Bool) (ts:List TSh):(j:Nat)->(ss:List TSh)->Un->(tdens ss->Un->Option β)->Option β
 | _,[],u,k=>k () u
 | j,s :: r,u,k=>match nth u.bd j with
  | some id=>match nth u.tb id with
   | some x=>uT md ts s x u fun x u=>uTs md ts (j + 1) r u fun y u=>k (x,y) u
   | none=>none
  | none=>none
def apart:List Nat->List Nat->Bool
 | [],_=>true
 | x :: r,l=>match idx l x with
  | none=>apart r l
  | some _=>false
theorem apart_ok:∀ {a b:List Nat},apart a b=true->∀ i,i ∈ a->i ∉ b
 | [],b,_,i,h=>by simp at h
 | x :: r,b,e,i,h=>by
  simp only [apart] at e
  split at e
  ·rename_i hn
   rcases List.mem_cons.1 h with h | h
   ·subst h;exact idx_none hn
   ·exact apart_ok e i h
  ·cases e
def uni {β:Type} (md:Bool) (ss:List Sh) (ts:List TSh) (bd:List Nat) (vs:List IV) (tb:Tbl) (k:dens ss->tdens ts->Un->Option β):Option β:=
 uVs md ts ss vs ⟨bd,tb,[]⟩ fun x u=>uTs md ts 0 ts u fun y u=>
  match Nat.beq u.bd.length ts.length,apart u.lt u.bd with
  | true,true=>k x y u
  | _,_=>none
section
variable {O:Own} {ρ:List Hd} {w:World}
def Oc (bd lt:List Nat) (O:Own) (w:World):Own:=fun b=>match O b with
 | .im all=>.im all
 | .no=>.no
 | .th id=>match idx bd id with
  | some j=>.th j
  | none=>match idx lt id with
   | some _=>match w.heap[b]? with
    | some (.cells a _ _)=>.im a.toList
    | _=>.no
   | none=>.no
def Mt (bd:List Nat) (ρ ρ₂:List Hd):Prop:=∀ (j id:Nat) (h:Hd),bd[j]? = some id->ρ[id]? = some h->ρ₂[j]? = some h
structure Gh (M:Nat->Prop) (O:Own) (ρ:List Hd) (u:Un) (O':Own) (ρ':List Hd) (u':Un) (w:World):Prop where
 gm:Gm O' ρ' u'.tb w
 stp:Stp M O ρ w O' ρ' w
 bd:∃ more,u'.bd=u.bd ++ more
 lt:∀ i,i ∈ u.lt->i ∈ u'.lt
 nd:u.bd.Nodup->u'.bd.Nodup
 own:∀ b id,id ∈ u.bd->O b=.th id->O' b=.th id
 in_:(∀ i,i ∈ u.bd->i < u.tb.length)->∀ i,i ∈ u'.bd->i < u'.tb.length
 len:u.tb.length≤u'.tb.length
theorem Gh.refl {M:Nat->Prop} {u:Un} (h:Gm O ρ u.tb w):Gh M O ρ u O ρ u w:=
 ⟨h,.refl _ _ _ _,⟨[],by simp⟩,fun _ h=>h,fun h=>h,fun _ _ _ h=>h,fun h=>h,Nat.le_refl _⟩
theorem Gh.trans {M:Nat->Prop} {O1 O2:Own} {ρ1 ρ2:List Hd} {u u1 u2:Un} (h:Gh M O ρ u O1 ρ1 u1 w) (k:Gh M O1 ρ1 u1 O2 ρ2 u2 w):Gh M O ρ u O2 ρ2 u2 w:=by
 obtain ⟨m1,e1⟩:=h.bd
 obtain ⟨m2,e2⟩:=k.bd
 exact ⟨k.gm,h.stp.trans k.stp,⟨m1 ++ m2,by rw [e2,e1,List.append_assoc]⟩,fun i hi=>k.lt i (h.lt i hi),fun hn=>k.nd (h.nd hn),
  fun b id hi e=>k.own b id (by rw [e1];exact List.mem_append_left _ hi) (h.own b id hi e),fun hh=>k.in_ (h.in_ hh),Nat.le_trans h.len k.len⟩
structure Fut (u':Un) (O':Own) (ρ':List Hd) (w:World) (O₂:Own) (ρ₂:List Hd):Prop where
 le:O'.le O₂
 mt:Mt u'.bd ρ' ρ₂
 lent:∀ b id a ty fz,id ∈ u'.lt->O' b=.th id->w.heap[b]? = some (.cells a ty fz)->O₂ b=.im a.toList
theorem Fut.back {M:Nat->Prop} {O1:Own} {ρ1:List Hd} {u u1:Un} {O₂:Own} {ρ₂:List Hd} (g:Gh M O ρ u O1 ρ1 u1 w) (hl:∀ b id,id ∈ u.lt->O b=.th id->O1 b=.th id) (F:Fut u1 O1 ρ1 w O₂ ρ₂):Fut u O ρ w O₂ ρ₂:=by
 obtain ⟨m,e⟩:=g.bd
 refine ⟨g.stp.im.trans F.le,fun j id h hj hh=>F.mt j id h ?_ (g.stp.pre _ _ hh),fun b id a ty fz hi ho=>F.lent b id a ty fz (g.lt id hi) (hl b id hi ho)⟩
 rw [e,List.getElem?_append_left (List.getElem?_eq_some_iff.1 hj).1];exact hj
end
end Go.Tw
namespace Go.Tw
set_option linter.unusedSimpArgs false
set_option linter.unusedVariables false
section
variable {O:Own} {ρ:List Hd} {w:World} {md:Bool} {ts:List TSh}
theorem bindU_ok {β:Type} {M:Nat->Prop} {j id:Nat} {u:Un} {k:Un->Option β} {r:β} (e:bindU j id u k=some r) (hM:Gm O ρ u.tb w) (hid:id < u.tb.length) :
  ∃ u',k u'=some r∧Gh M O ρ u O ρ u' w∧u'.bd[j]? = some id∧u'.lt=u.lt∧u'.tb=u.tb:=by
 unfold bindU at e
 split at e
 ·rename_i id' hj
  rw [nth_eq] at hj
  split at e<;>first | (cases e;done) | skip
  rename_i hb
  have:=Nat.eq_of_beq_eq_true hb
  subst this
  exact ⟨u,e,.refl hM,hj,rfl,rfl⟩
 ·rename_i hj
  split at e<;>first | (cases e;done) | skip
  rename_i hjl hidx
  have hjl:=Nat.eq_of_beq_eq_true hjl
  split at e<;>first | (cases e;done) | skip
  have hni:=idx_none hidx
  refine ⟨_,e,⟨hM,.refl _ _ _ _,⟨[id],rfl⟩,fun _ h=>h,fun hn=>?_,fun _ _ _ h=>h,fun hh i hi=>?_,Nat.le_refl _⟩,by subst hjl;simp,rfl,rfl⟩
  ·rw [List.nodup_append]
   exact ⟨hn,by simp,fun a ha b hb=>by simp at hb;subst hb;intro e;subst e;exact hni ha⟩
  ·rcases List.mem_append.1 hi with hi | hi
   ·exact hh i hi
   ·simp at hi;subst hi;exact hid
theorem freeze_ok {β:Type} {t:Ty} {id:Nat} {u:Un} {k:List t.den->Un->Option β} {r:β} (e:freeze t id u k=some r) (hM:Gm O ρ u.tb w):∃ xs u' O' h,k xs u'=some r∧Gh (fun _=>True) O ρ u O' ρ u' w∧u'.lt=u.lt∧ρ[id]? = some h∧TR O' (.sl t) xs [h.v]∧h.z=t.sz:=by
 unfold freeze at e
 split at e<;>first | (cases e;done) | skip
 ·rename_i E t' xs hb
  split at e<;>first | (cases e;done) | skip
  rename_i xs' hcast hidx
  obtain ⟨e1,he1⟩:=castR_ok hcast
  subst e1
  have he1:xs'=xs:=he1
  subst he1
  rw [nth_eq] at hb
  obtain ⟨O',h,h1,g1,g2,hT,hoth,hz⟩:=hM.frz hb
  have hni:=idx_none hidx
  refine ⟨xs',_,O',h,e,⟨g1,g2.weak (fun _ _=>trivial),⟨[],by simp⟩,fun _ h=>h,fun h=>h,fun b j hj e=>hoth b j (fun ee=>by subst ee;exact hni hj) e,fun hh i hi=>by simpa using hh i hi,by simp⟩,rfl,h1,hT,hz⟩
 ·rename_i t' xs hb
  split at e<;>first | (cases e;done) | skip
  rename_i xs' hcast
  obtain ⟨e1,he1⟩:=castR_ok hcast
  subst e1
  have he1:xs'=xs:=he1
  subst he1
  rw [nth_eq] at hb
  obtain ⟨h,h1,h2,hT⟩:=hM.th _ _ hb
  exact ⟨xs',u,O,h,e,.refl hM,rfl,h1,hT,h2⟩
def UOk {β:Type} (O:Own) (ρ:List Hd) (w:World) (md:Bool) (s:Sh) (v:IV) (u:Un) (ch:Bool) (cs:List Value) (k:s.den->Un->Option β) (r:β):Prop:=
 ∃ x u' O' ρ',k x u'=some r∧Gh (fun _=>md=false) O ρ u O' ρ' u' w∧(md=false->u'.lt=u.lt)∧(enc s x).sz=v.sz∧∀ O₂ ρ₂,Fut u' O' ρ' w O₂ ρ₂->R O₂ ρ₂ ch (enc s x) cs
theorem UOk.stay {β:Type} {s:Sh} {v:IV} {u:Un} {ch:Bool} {cs:List Value} {k:s.den->Un->Option β} {r:β} (x:s.den) (hM:Gm O ρ u.tb w) (hk:k x u=some r) (hz:(enc s x).sz=v.sz) (h:∀ O₂ ρ₂,Fut u O ρ w O₂ ρ₂->R O₂ ρ₂ ch (enc s x) cs):UOk O ρ w md s v u ch cs k r:=
 ⟨x,u,O,ρ,hk,.refl hM,fun _=>rfl,hz,h⟩
theorem R.true_of {v:IV} {cs:List Value} (h:R O ρ true v cs):v=.un∨∃ a b,v=.pr a b:=by
 cases v<;>first | exact .inl rfl | exact .inr ⟨_,_,rfl⟩ | exact h.elim
theorem agg_of_sz {v u:IV} (h:v.sz=u.sz):v.agg=u.agg:=by cases v<;>cases u<;>first | rfl | (simp [IV.sz] at h)
theorem bd_ρ {u u':Un} {M:Nat->Prop} {O':Own} {ρ':List Hd} (g:Gh M O ρ u O' ρ' u' w) {j id:Nat} (h:u.bd[j]? = some id):u'.bd[j]? = some id:=by
 obtain ⟨m,e⟩:=g.bd
 rw [e,List.getElem?_append_left (List.getElem?_eq_some_iff.1 h).1];exact h
theorem lent_own {O1 O2:Own} {ρ1 ρ2:List Hd} {u1 u2:Un} (g1:Gm O1 ρ1 u1.tb w) (g2:Gh (fun _=>md=false) O1 ρ1 u1 O2 ρ2 u2 w) (hmd:md=false->u1.lt=[]):∀ b id,id ∈ u1.lt->O1 b=.th id->O2 b=.th id:=by
 intro b id hi ho
 cases md with
 | true=>exact g2.stp.own b id (by
   rcases Nat.lt_or_ge b w.heap.size with h' | h'
   ·exact h'
   ·rw [g1.lt b h'] at ho;cases ho) ho (fun h=>by cases h)
 | false=>rw [hmd rfl] at hi;simp at hi
theorem uV_ok {β:Type}:∀ {s:Sh} {v:IV} {u:Un} {k:s.den->Un->Option β} {r:β} {ch:Bool} {cs:List Value} {O:Own} {ρ:List Hd},uV md ts s v u k=some r->Gm O ρ u.tb w->R O ρ ch v cs->(md=false->u.lt=[])->UOk O ρ w md s v u ch cs k r:=by
 have notch:∀ {v:IV} {ch:Bool} {cs:List Value} {O:Own} {ρ:List Hd},R O ρ ch v cs->(v=.un->False)->(∀ a b,v=.pr a b->False)->ch=false:=fun {v ch cs O ρ} h h1 h2=>by
  cases ch with
  | false=>rfl
  | true=>
   rcases R.true_of h with h | ⟨a,b,h⟩
   ·exact (h1 h).elim
   ·exact (h2 a b h).elim
 intro s
 induction s with
 | i=>
  intro v u k r ch cs O ρ e hM hR hmd
  simp only [uV] at e
  split at e<;>first | (cases e;done) | skip
  rename_i x hx
  have hv:=as_o.1 x hx
  subst hv
  exact UOk.stay x hM e rfl (fun O₂ ρ₂ _=>by cases ch<;>exact hR)
 | u8=>
  intro v u k r ch cs O ρ e hM hR hmd
  simp only [uV] at e
  split at e<;>first | (cases e;done) | skip
  rename_i x hx
  have hv:=as_o.2.1 x hx
  subst hv
  exact UOk.stay x hM e rfl (fun O₂ ρ₂ _=>by cases ch<;>exact hR)
 | u32=>
  intro v u k r ch cs O ρ e hM hR hmd
  simp only [uV] at e
  split at e<;>first | (cases e;done) | skip
  rename_i x hx
  have hv:=as_o.2.2.1 x hx
  subst hv
  exact UOk.stay x hM e rfl (fun O₂ ρ₂ _=>by cases ch<;>exact hR)
 | u64=>
  intro v u k r ch cs O ρ e hM hR hmd
  simp only [uV] at e
  split at e<;>first | (cases e;done) | skip
  rename_i x hx
  have hv:=as_o.2.2.2.1 x hx
  subst hv
  exact UOk.stay x hM e rfl (fun O₂ ρ₂ _=>by cases ch<;>exact hR)
 | bo=>
  intro v u k r ch cs O ρ e hM hR hmd
  simp only [uV] at e
  split at e<;>first | (cases e;done) | skip
  rename_i x hx
  have hv:=as_o.2.2.2.2.1 x hx
  subst hv
  exact UOk.stay x hM e rfl (fun O₂ ρ₂ _=>by cases ch<;>exact hR)
 | str=>
  intro v u k r ch cs O ρ e hM hR hmd
  simp only [uV] at e
  split at e<;>first | (cases e;done) | skip
  rename_i x hx
  have hv:=as_o.2.2.2.2.2 x hx
  subst hv
  exact UOk.stay x hM e rfl (fun O₂ ρ₂ _=>by cases ch<;>exact hR)
 | ns=>
  intro v u k r ch cs O ρ e hM hR hmd
  simp only [uV] at e
  split at e<;>first | (cases e;done) | skip
  rename_i hx
  have hv:=asNil_eq hx
  subst hv
  exact UOk.stay () hM e rfl (fun O₂ ρ₂ _=>by cases ch<;>exact hR)
 | np=>
  intro v u k r ch cs O ρ e hM hR hmd
  simp only [uV] at e
  split at e<;>first | (cases e;done) | skip
  exact UOk.stay () hM e rfl (fun O₂ ρ₂ _=>by cases ch<;>exact hR)
 | nf=>
  intro v u k r ch cs O ρ e hM hR hmd
  simp only [uV] at e
  split at e<;>first | (cases e;done) | skip
  exact UOk.stay () hM e rfl (fun O₂ ρ₂ _=>by cases ch<;>exact hR)
 | re t=>
  intro v u k r ch cs O ρ e hM hR hmd
  simp only [uV] at e
  split at e<;>first | (cases e;done) | skip
  ·rename_i t' x
   have hch:=notch hR (by simp) (by simp)
   subst hch
   split at e<;>first | (cases e;done) | skip
   rename_i y hy
   obtain ⟨b,off,c,rfl,h2,all,h3,h4⟩:=hR
   exact UOk.stay y hM e rfl (fun O₂ ρ₂ F=>⟨b,off,c,rfl,TR.mono F.le (toP_R hy (ofP_R (ρ:=ρ) h2)),all,F.le _ _ h3,h4⟩)
  ·rename_i id p
   have hch:=notch hR (by simp) (by simp)
   subst hch
   split at e<;>first | (cases e;done) | skip
   split at e<;>first | (cases e;done) | skip
   rename_i bt v0 hb
   rw [nth_eq] at hb
   obtain ⟨h,off,h1,h2,rfl⟩:=hR
   obtain ⟨h',cs0,h4,h5,h6,h7,h8⟩:=hM.th _ _ hb
   rw [h1] at h4;cases h4
   rw [h6] at h2
   obtain ⟨z,hk,h9,h10,h11⟩:=getP_R e h7 h2
   split at hk<;>first | (cases hk;done) | skip
   rename_i y hy
   refine ⟨y,_,O,ρ,hk,⟨hM,.refl _ _ _ _,⟨[],by simp⟩,fun i hi=>List.mem_cons_of_mem _ hi,fun h=>h,fun _ _ _ h=>h,fun h=>h,Nat.le_refl _⟩,(fun h=>by cases h),rfl,fun O₂ ρ₂ F=>?_⟩
   obtain ⟨fz,hh,_⟩:=h8
   refine ⟨h.b,off,_,rfl,TR.mono F.le (toP_R hy h9),cs0,by simpa using F.lent h.b id _ _ _ (List.mem_cons_self ..) h5 hh,fun j c hj=>?_⟩
   rw [List.getElem?_take] at hj
   split at hj
   ·rw [List.getElem?_drop] at hj;exact hj
   ·cases hj
 | ro t=>
  intro v u k r ch cs O ρ e hM hR hmd
  simp only [uV] at e
  have isro:∀ {t':Ty} {xs:List t'.den},v=.ro t' xs->(match castR (Ty.eq? t' t) xs with | some xs=>k xs u | none=>none)=some r->UOk O ρ w md (.ro t) v u ch cs k r:=by
   clear e
   intro t' xs hv e
   subst hv
   have hch:=notch hR (by simp) (by simp)
   subst hch
   split at e<;>first | (cases e;done) | skip
   rename_i xs' hcast
   obtain ⟨e1,he1⟩:=castR_ok hcast
   subst e1
   have he1:xs'=xs:=he1
   subst he1
   exact UOk.stay xs' hM e rfl (fun O₂ ρ₂ F=>TR.mono F.le hR)
  split at e
  ·
   split at e
   ·exact isro rfl e
   ·rename_i hnr
    split at e<;>first | (cases e;done) | skip
    rename_i hag
    have hch:=notch hR (fun h=>by subst h;simp [IV.agg] at hag) (fun a b h=>by subst h;simp [IV.agg] at hag)
    subst hch
    have hl:=R.length hR
    have hz:v.sz.size=1:=by cases v<;>simp [IV.agg] at hag<;>rfl
    rw [hz] at hl
    obtain ⟨y,rfl⟩:=List.length_eq_one_iff.1 hl
    obtain ⟨xs,es,hk,hL,hrd,hown⟩:=cont_ok hM e hR
    refine ⟨xs,_,O,ρ,hk,⟨hM,.refl _ _ _ _,⟨[],by simp⟩,fun i hi=>List.mem_append_right _ hi,fun h=>h,fun _ _ _ h=>h,fun h=>h,Nat.le_refl _⟩,(fun h=>by cases h),?_,fun O₂ ρ₂ F=>?_⟩
    ·show Sz.one=v.sz
     cases v<;>first | rfl | (simp [IV.agg] at hag)
    ·have hr:=hrd w (Sm.refl _ _ _)
     refine ⟨y,es,rfl,hL.mono (fun _ _=>TR.mono F.le),ofSlAt hr (fun b a ty fz hn hb hh=>?_)⟩
     rcases hown b hn hb with ⟨id,hi,ho⟩ | ⟨all,ho⟩
     ·exact F.lent b id a ty fz (List.mem_append_left _ hi) ho hh
     ·obtain ⟨ty',fz',hh'⟩:=hM.im b all ho
      rw [hh] at hh';cases hh'
      simpa using F.le b all ho
  ·
   split at e
   ·exact isro rfl e
   ·rename_i id
    have hch:=notch hR (by simp) (by simp)
    subst hch
    obtain ⟨h0,h1,rfl,_⟩:=hR
    obtain ⟨xs,u',O',h,hk,g,hlt,h2,hT,hz⟩:=freeze_ok e hM
    rw [h1] at h2;cases h2
    exact ⟨xs,u',O',ρ,hk,⟨g.gm,g.stp.weak (fun _ _=>rfl),g.bd,g.lt,g.nd,g.own,g.in_,g.len⟩,fun _=>hlt,rfl,fun O₂ ρ₂ F=>TR.mono F.le hT⟩
   ·rename_i id lo hi
    have hch:=notch hR (by simp) (by simp)
    subst hch
    obtain ⟨h0,y,h1,rfl,hp⟩:=hR
    obtain ⟨xs,u',O',h,hk,g,hlt,h2,hT,hz⟩:=freeze_ok e hM
    rw [h1] at h2;cases h2
    refine ⟨_,u',O',ρ,hk,⟨g.gm,g.stp.weak (fun _ _=>rfl),g.bd,g.lt,g.nd,g.own,g.in_,g.len⟩,fun _=>hlt,rfl,fun O₂ ρ₂ F=>?_⟩
    have hT2:=TR.mono F.le hT
    obtain ⟨v',es,hv',hL,hS⟩:=hT2
    cases hv'
    rw [hz,Ty.sz_size] at hp
    obtain ⟨b,n,cp,b',cp',hv,rfl,hlo,hhi,hor⟩:=hp
    have hn:n=xs.length:=by
     obtain ⟨b2,cp2,e2⟩:=slAt_shape hS
     rw [hv] at e2;cases e2;rfl
    subst hn
    have hlen:((xs.drop lo).take (hi - lo)).length=hi - lo:=by rw [List.length_take,List.length_drop];omega
    refine ⟨_,_,rfl,((hL.split (fun _ _=>TR.length) lo).2.split (fun _ _=>TR.length) (hi - lo)).1,?_⟩
    rw [hlen]
    rcases hor with hor | ⟨ad,rfl,rfl,hc⟩
    ·exact .inl ⟨by omega,_,_,by rw [show hi - lo=0 from by omega]⟩
    ·rw [hv] at hS
     rcases hS with ⟨h0',_⟩ | ⟨b2,off,cap,e2,_,hI⟩
     ·exact .inl ⟨by omega,_,_,by rw [show hi - lo=0 from by omega]⟩
     ·cases e2
      rw [add_zero _ rfl]
      exact .inr ⟨b2,off + lo * t.size,cp',rfl,hc,hI.part _ _⟩
   ·split at e<;>first | (cases e;done) | skip
    rename_i hn
    have hv:=asNil_eq hn
    subst hv
    have hch:=notch hR (by simp) (by simp)
    subst hch
    exact UOk.stay [] hM e rfl (fun O₂ ρ₂ F=>by obtain ⟨rfl,_⟩:=hR;exact ⟨_,[],rfl,rfl,.inl ⟨rfl,none,0,rfl⟩⟩)
 | rw j=>
  intro v u k r ch cs O ρ e hM hR hmd
  simp only [uV] at e
  split at e
  ·rename_i id
   have hch:=notch hR (by simp) (by simp)
   subst hch
   obtain ⟨h,h1,rfl,h3⟩:=hR
   have hid:id < u.tb.length:=by rw [← hM.len];exact (List.getElem?_eq_some_iff.1 h1).1
   obtain ⟨u',hk,g,hj,hlt,htb⟩:=bindU_ok (M:=fun _=>md=false) e hM hid
   exact ⟨(),u',O,ρ,hk,g,fun _=>hlt,rfl,fun O₂ ρ₂ F=>⟨h,F.mt j id h hj h1,rfl,h3⟩⟩
  ·rename_i hnr
   split at e<;>first | (cases e;done) | skip
   rename_i E t hn ht
   have hv:=asNil_eq hn
   subst hv
   have hch:=notch hR (by simp) (by simp)
   subst hch
   obtain ⟨rfl,_⟩:=hR
   have hnew:=hM.new (h:=⟨0,t.sz,.slice none 0 0⟩) (x:=.row E t []) (fun _=>false) (Kept.refl _ w) (fun b hb=>by cases hb)
    ⟨⟨0,t.sz,.slice none 0 0⟩,[],by rw [← hM.len];simp,rfl,fun b hb=>hb.elim,rfl,⟨by simp,.inl ⟨rfl,rfl⟩⟩⟩
   have g1:Gm O (ρ ++ [⟨0,t.sz,.slice none 0 0⟩]) (u.tb ++ [.row E t []]) w:=hnew.1
   have g2:Stp (fun _=>False) O ρ w O (ρ ++ [⟨0,t.sz,.slice none 0 0⟩]) w:=hnew.2
   obtain ⟨u',hk,g,hj,hlt,htb⟩:=bindU_ok (M:=fun _=>md=false) e g1 (by simp)
   have g0:Gh (fun _=>md=false) O ρ u O (ρ ++ [⟨0,t.sz,.slice none 0 0⟩]) { u with tb:=u.tb ++ [.row E t []] } w:=
    ⟨g1,g2.weak (fun _ h=>h.elim),⟨[],by simp⟩,fun _ h=>h,fun h=>h,fun _ _ _ h=>h,fun hh i hi=>by have:=hh i hi;simp;omega,by simp⟩
   refine ⟨(),u',O,_,hk,g0.trans g,fun _=>hlt,rfl,fun O₂ ρ₂ F=>⟨⟨0,t.sz,.slice none 0 0⟩,F.mt j _ _ hj (by rw [← hM.len];simp),rfl,rfl⟩⟩
 | rp j=>
  intro v u k r ch cs O ρ e hM hR hmd
  simp only [uV] at e
  split at e<;>first | (cases e;done) | skip
  ·rename_i id lo hi
   have hch:=notch hR (by simp) (by simp)
   subst hch
   obtain ⟨h,y,h1,rfl,h3⟩:=hR
   have hid:id < u.tb.length:=by rw [← hM.len];exact (List.getElem?_eq_some_iff.1 h1).1
   obtain ⟨u',hk,g,hj,hlt,htb⟩:=bindU_ok (M:=fun _=>md=false) e hM hid
   exact ⟨(lo,hi),u',O,ρ,hk,g,fun _=>hlt,rfl,fun O₂ ρ₂ F=>⟨h,y,F.mt j id h hj h1,rfl,h3⟩⟩
  ·rename_i id
   have hch:=notch hR (by simp) (by simp)
   subst hch
   obtain ⟨h,h1,rfl,h3⟩:=hR
   split at e<;>first | (cases e;done) | skip
   rename_i E t xs hb
   rw [nth_eq] at hb
   have hid:id < u.tb.length:=(List.getElem?_eq_some_iff.1 hb).1
   obtain ⟨h',es,h4,h5,h6,h7,h8⟩:=hM.th _ _ hb
   rw [h1] at h4;cases h4
   obtain ⟨u',hk,g,hj,hlt,htb⟩:=bindU_ok (M:=fun _=>md=false) e hM hid
   refine ⟨(0,xs.length),u',O,ρ,hk,g,fun _=>hlt,rfl,fun O₂ ρ₂ F=>⟨h,_,F.mt j id h hj h1,rfl,?_⟩⟩
   obtain ⟨b,cp,e2,hn,hcp⟩:=h8.rd.shape
   rw [e2]
   refine ⟨b,_,cp,b,cp,rfl,by simp,by omega,by omega,?_⟩
   by_cases h0:xs.length=0
   ·exact .inl h0
   ·refine .inr ?_
    cases b with
    | none=>exact absurd (hn rfl) h0
    | some ad=>exact ⟨ad,rfl,by rw [Nat.zero_mul];simp [Addr.add],by omega⟩
  ·split at e<;>first | (cases e;done) | skip
   rename_i id hnil hbd
   have hv:=asNil_eq hnil
   subst hv
   have hch:=notch hR (by simp) (by simp)
   subst hch
   obtain ⟨rfl,_⟩:=hR
   split at e<;>first | (cases e;done) | skip
   rename_i E t xs hb
   rw [nth_eq] at hb
   have hid:id < u.tb.length:=(List.getElem?_eq_some_iff.1 hb).1
   obtain ⟨h,es,h4,h5,h6,h7,h8⟩:=hM.th _ _ hb
   obtain ⟨u',hk,g,hj,hlt,htb⟩:=bindU_ok (M:=fun _=>md=false) e hM hid
   refine ⟨(0,0),u',O,ρ,hk,g,fun _=>hlt,rfl,fun O₂ ρ₂ F=>⟨h,_,F.mt j id h hj h4,rfl,?_⟩⟩
   obtain ⟨b,cp,e2,hn,hcp⟩:=h8.rd.shape
   exact ⟨b,_,cp,none,0,e2,rfl,Nat.le_refl _,Nat.zero_le _,.inl rfl⟩
 | nn=>
  intro v u k r ch cs O ρ e hM hR hmd
  simp only [uV] at e
  split at e<;>first | (cases e;done) | skip
  exact UOk.stay () hM e rfl (fun O₂ ρ₂ F=>by cases ch<;>exact hR)
 | rn t=>
  intro v u k r ch cs O ρ e hM hR hmd
  simp only [uV] at e
  split at e<;>first | (cases e;done) | skip
  rename_i t' xs
  split at e<;>first | (cases e;done) | skip
  rename_i xs' hcast
  obtain ⟨e1,he1⟩:=castR_ok hcast
  subst e1
  have he1:xs'=xs:=he1
  subst he1
  exact UOk.stay xs' hM e rfl (fun O₂ ρ₂ F=>by cases ch<;>first | exact hR.elim | exact ⟨TR.mono F.le hR.1,hR.2⟩)
 | mp j=>
  intro v u k r ch cs O ρ e hM hR hmd
  simp only [uV] at e
  split at e<;>first | (cases e;done) | skip
  rename_i id
  have hch:=notch hR (by simp) (by simp)
  subst hch
  obtain ⟨h,h1,h2⟩:=hR
  have hid:id < u.tb.length:=by rw [← hM.len];exact (List.getElem?_eq_some_iff.1 h1).1
  obtain ⟨u',hk,g,hj,hlt,htb⟩:=bindU_ok (M:=fun _=>md=false) e hM hid
  exact ⟨(),u',O,ρ,hk,g,fun _=>hlt,rfl,fun O₂ ρ₂ F=>⟨h,F.mt j id h hj h1,h2⟩⟩
 | ps j n=>
  intro v u k r ch cs O ρ e hM hR hmd
  simp only [uV] at e
  split at e<;>first | (cases e;done) | skip
  rename_i id n'
  split at e<;>first | (cases e;done) | skip
  rename_i hp
  have:=Nat.eq_of_beq_eq_true hp
  subst this
  have hch:=notch hR (by simp) (by simp)
  subst hch
  obtain ⟨h,h1,h2,h3⟩:=hR
  have hid:id < u.tb.length:=by rw [← hM.len];exact (List.getElem?_eq_some_iff.1 h1).1
  obtain ⟨u',hk,g,hj,hlt,htb⟩:=bindU_ok (M:=fun _=>md=false) e hM hid
  exact ⟨(),u',O,ρ,hk,g,fun _=>hlt,rfl,fun O₂ ρ₂ F=>⟨h,F.mt j id h hj h1,h2,h3⟩⟩
 | pt j p=>
  intro v u k r ch cs O ρ e hM hR hmd
  simp only [uV] at e
  split at e<;>first | (cases e;done) | skip
  rename_i id p'
  split at e<;>first | (cases e;done) | skip
  rename_i hp
  have:=eqL_eq hp
  subst this
  have hch:=notch hR (by simp) (by simp)
  subst hch
  obtain ⟨h,off,h1,h2,h3⟩:=hR
  have hid:id < u.tb.length:=by rw [← hM.len];exact (List.getElem?_eq_some_iff.1 h1).1
  obtain ⟨u',hk,g,hj,hlt,htb⟩:=bindU_ok (M:=fun _=>md=false) e hM hid
  exact ⟨(),u',O,ρ,hk,g,fun _=>hlt,rfl,fun O₂ ρ₂ F=>⟨h,off,F.mt j id h hj h1,h2,h3⟩⟩
 | ap j p=>
  intro v u k r ch cs O ρ e hM hR hmd
  simp only [uV] at e
  split at e<;>first | (cases e;done) | skip
  rename_i id p' lo hi
  split at e<;>first | (cases e;done) | skip
  rename_i hp
  have:=eqL_eq hp
  subst this
  have hch:=notch hR (by simp) (by simp)
  subst hch
  obtain ⟨h,off,n,z,h1,h2⟩:=hR
  have hid:id < u.tb.length:=by rw [← hM.len];exact (List.getElem?_eq_some_iff.1 h1).1
  obtain ⟨u',hk,g,hj,hlt,htb⟩:=bindU_ok (M:=fun _=>md=false) e hM hid
  exact ⟨(lo,hi),u',O,ρ,hk,g,fun _=>hlt,rfl,fun O₂ ρ₂ F=>⟨h,off,n,z,F.mt j id h hj h1,h2⟩⟩
 | fn f a c iha ihc=>
  intro v u k r ch cs O ρ e hM hR hmd
  simp only [uV] at e
  split at e<;>first | (cases e;done) | skip
  rename_i f' a' c'
  split at e<;>first | (cases e;done) | skip
  rename_i hf
  have:=Nat.eq_of_beq_eq_true hf
  subst this
  have hch:=notch hR (by simp) (by simp)
  subst hch
  obtain ⟨xs,ys,rfl,h2,h3⟩:=hR
  obtain ⟨x,u1,O1,ρ1,e1,g1,l1,z1,F1⟩:=iha e hM h2 hmd
  have hmd1:md=false->u1.lt=[]:=fun h=>(l1 h).trans (hmd h)
  obtain ⟨y,u2,O2,ρ2,e2,g2,l2,z2,F2⟩:=ihc e1 g1.gm (R.mono g1.stp.im g1.stp.pre h3) hmd1
  exact ⟨(x,y),u2,O2,ρ2,e2,g1.trans g2,fun h=>(l2 h).trans (l1 h),rfl,fun O₂ ρ₂ F=>⟨xs,ys,rfl,F1 O₂ ρ₂ (F.back g2 (lent_own g1.gm g2 hmd1)),F2 O₂ ρ₂ F⟩⟩
 | un=>
  intro v u k r ch cs O ρ e hM hR hmd
  simp only [uV] at e
  split at e<;>first | (cases e;done) | skip
  exact UOk.stay () hM e rfl (fun O₂ ρ₂ _=>by cases ch<;>exact hR)
 | pr a b iha ihb=>
  intro v u k r ch cs O ρ e hM hR hmd
  simp only [uV] at e
  split at e<;>first | (cases e;done) | skip
  rename_i a' b'
  cases ch with
  | true=>
   obtain ⟨x0,rest,rfl,h2,h3⟩:=hR
   cases hag:a'.agg with
   | true=>
    rw [hag] at h2
    obtain ⟨c0,rfl,h2⟩:=h2
    obtain ⟨x,u1,O1,ρ1,e1,g1,l1,z1,F1⟩:=iha e hM h2 hmd
    have hmd1:md=false->u1.lt=[]:=fun h=>(l1 h).trans (hmd h)
    obtain ⟨y,u2,O2,ρ2,e2,g2,l2,z2,F2⟩:=ihb e1 g1.gm (R.mono g1.stp.im g1.stp.pre h3) hmd1
    refine ⟨(x,y),u2,O2,ρ2,e2,g1.trans g2,fun h=>(l2 h).trans (l1 h),by simp only [enc,IV.sz,z1,z2],fun O₂ ρ₂ F=>⟨_,rest,rfl,?_,F2 O₂ ρ₂ F⟩⟩
    rw [agg_of_sz z1,hag]
    exact ⟨c0,rfl,F1 O₂ ρ₂ (F.back g2 (lent_own g1.gm g2 hmd1))⟩
   | false=>
    rw [hag] at h2
    have h2:R O ρ false a' [x0]:=h2
    obtain ⟨x,u1,O1,ρ1,e1,g1,l1,z1,F1⟩:=iha e hM h2 hmd
    have hmd1:md=false->u1.lt=[]:=fun h=>(l1 h).trans (hmd h)
    obtain ⟨y,u2,O2,ρ2,e2,g2,l2,z2,F2⟩:=ihb e1 g1.gm (R.mono g1.stp.im g1.stp.pre h3) hmd1
    refine ⟨(x,y),u2,O2,ρ2,e2,g1.trans g2,fun h=>(l2 h).trans (l1 h),by simp only [enc,IV.sz,z1,z2],fun O₂ ρ₂ F=>⟨_,rest,rfl,?_,F2 O₂ ρ₂ F⟩⟩
    rw [agg_of_sz z1,hag]
    exact F1 O₂ ρ₂ (F.back g2 (lent_own g1.gm g2 hmd1))
  | false=>
   obtain ⟨c0,d0,rfl,h2,h3⟩:=hR
   obtain ⟨x,u1,O1,ρ1,e1,g1,l1,z1,F1⟩:=iha e hM h2 hmd
   have hmd1:md=false->u1.lt=[]:=fun h=>(l1 h).trans (hmd h)
   obtain ⟨y,u2,O2,ρ2,e2,g2,l2,z2,F2⟩:=ihb e1 g1.gm (R.mono g1.stp.im g1.stp.pre h3) hmd1
   exact ⟨(x,y),u2,O2,ρ2,e2,g1.trans g2,fun h=>(l2 h).trans (l1 h),by simp only [enc,IV.sz,z1,z2],fun O₂ ρ₂ F=>⟨c0,d0,rfl,F1 O₂ ρ₂ (F.back g2 (lent_own g1.gm g2 hmd1)),F2 O₂ ρ₂ F⟩⟩
 | ar n t=>
  intro v u k r ch cs O ρ e hM hR hmd
  simp only [uV] at e
  split at e<;>first | (cases e;done) | skip
  rename_i xs hx
  have hagg:∃ m t' ys,v=.ar m t' ys∧∃ h:Ty.ar m t'=Ty.ar n t,castL h ys=xs:=by
   unfold IV.asAr at hx
   split at hx
   ·rename_i m t' ys
    split at hx
    ·rename_i p _
     simp only [Option.some.injEq] at hx
     exact ⟨m,t',ys,rfl,p.down,hx⟩
    ·cases hx
   ·cases hx
  obtain ⟨m,t',ys,rfl,h,hxs⟩:=hagg
  have hch:=notch hR (by simp) (by simp)
  subst hch
  cases h
  have hxs:ys=xs:=hxs
  subst hxs
  exact UOk.stay _ hM e rfl (fun O₂ ρ₂ F=>TR.mono (t:=.ar n t) F.le hR)
 | ud=>
  intro v u k r ch cs O ρ e hM hR hmd
  simp only [uV] at e
  split at e<;>first | (cases e;done) | skip
  rename_i hag
  have hch:=notch hR (fun h=>by subst h;simp [IV.agg] at hag) (fun a b h=>by subst h;simp [IV.agg] at hag)
  subst hch
  have hl:=R.length hR
  have hz:v.sz=.one:=by cases v<;>simp [IV.agg] at hag<;>rfl
  rw [hz] at hl
  obtain ⟨y,rfl⟩:=List.length_eq_one_iff.1 hl
  exact UOk.stay () hM e hz.symm (fun O₂ ρ₂ _=>⟨y,rfl,R.one hR y (by simp)⟩)
end
end Go.Tw
namespace Go.Tw
set_option linter.unusedSimpArgs false
set_option linter.unusedVariables false
section
variable {O:Own} {ρ:List Hd} {w:World} {md:Bool} {ts:List TSh}
def RL (O:Own) (ρ:List Hd):List IV->List (List Value)->Prop
 | [],cs=>cs=[]
 | v :: vs,cs=>∃ c r,cs=c :: r∧R O ρ false v c∧RL O ρ vs r
theorem RL.mono {O':Own} {ρ':List Hd} (hO:O.le O') (hρ:Pre ρ ρ'):∀ {vs:List IV} {cs:List (List Value)},RL O ρ vs cs->RL O' ρ' vs cs
 | [],cs,h=>h
 | v :: vs,cs,h=>by obtain ⟨c,r,h1,h2,h3⟩:=h;exact ⟨c,r,h1,R.mono hO hρ h2,RL.mono hO hρ h3⟩
def szs (vs:List IV):List Sz:=vs.map IV.sz
theorem uVs_ok {β:Type}:∀ {ss:List Sh} {vs:List IV} {u:Un} {k:dens ss->Un->Option β} {r:β} {cs:List (List Value)} {O:Own} {ρ:List Hd},uVs md ts ss vs u k=some r->Gm O ρ u.tb w->RL O ρ vs cs->(md=false->u.lt=[]) ->
  ∃ x u' O' ρ',k x u'=some r∧Gh (fun _=>md=false) O ρ u O' ρ' u' w∧(md=false->u'.lt=u.lt)∧szs (encs ss x)=szs vs∧∀ O₂ ρ₂,Fut u' O' ρ' w O₂ ρ₂->RL O₂ ρ₂ (encs ss x) cs
 | [],[],u,k,r,cs,O,ρ,e,hM,h,hmd=>⟨(),u,O,ρ,e,.refl hM,fun _=>rfl,rfl,fun _ _ _=>h⟩
 | [],_ :: _,u,k,r,cs,O,ρ,e,hM,h,hmd=>by simp [uVs] at e
 | _ :: _,[],u,k,r,cs,O,ρ,e,hM,h,hmd=>by simp [uVs] at e
 | s :: ss,v :: vs,u,k,r,cs,O,ρ,e,hM,h,hmd=>by
  simp only [uVs] at e
  obtain ⟨c,rest,rfl,h1,h2⟩:=h
  obtain ⟨x,u1,O1,ρ1,e1,g1,l1,z1,F1⟩:=uV_ok e hM h1 hmd
  have hmd1:md=false->u1.lt=[]:=fun h=>(l1 h).trans (hmd h)
  obtain ⟨y,u2,O2,ρ2,e2,g2,l2,z2,F2⟩:=uVs_ok e1 g1.gm (h2.mono g1.stp.im g1.stp.pre) hmd1
  exact ⟨(x,y),u2,O2,ρ2,e2,g1.trans g2,fun h=>(l2 h).trans (l1 h),by simp only [szs,encs,List.map_cons,z1] at z2 ⊢;rw [z2],
   fun O₂ ρ₂ F=>⟨c,rest,rfl,F1 O₂ ρ₂ (F.back g2 (lent_own g1.gm g2 hmd1)),F2 O₂ ρ₂ F⟩⟩
structure Fut2 (u':Un) (O':Own) (ρ':List Hd) (w:World) (O₂:Own) (ρ₂:List Hd):Prop extends Fut u' O' ρ' w O₂ ρ₂ where
 own:∀ b j id,u'.bd[j]? = some id->O' b=.th id->O₂ b=.th j
theorem Fut2.back {M:Nat->Prop} {O1:Own} {ρ1:List Hd} {u u1:Un} {O₂:Own} {ρ₂:List Hd} (g:Gh M O ρ u O1 ρ1 u1 w) (hl:∀ b id,id ∈ u.lt->O b=.th id->O1 b=.th id) (F:Fut2 u1 O1 ρ1 w O₂ ρ₂):Fut2 u O ρ w O₂ ρ₂:=
 ⟨F.toFut.back g hl,fun b j id hj ho=>F.own b j id (bd_ρ g hj) (g.own b id (List.mem_of_getElem? hj) ho)⟩
theorem uT_ok {β:Type} {s:TSh} {x:Thing} {u:Un} {k:s.den->Un->Option β} {r:β} {j id:Nat} (e:uT md ts s x u k=some r) (hM:Gm O ρ u.tb w) (hj:u.bd[j]? = some id) (hx:u.tb[id]? = some x) (hmd:md=false->u.lt=[]) :
  ∃ y u' O' ρ',k y u'=some r∧Gh (fun _=>md=false) O ρ u O' ρ' u' w∧(md=false->u'.lt=u.lt)∧∀ O₂ ρ₂,Fut2 u' O' ρ' w O₂ ρ₂->Holds O₂ ρ₂ w j (encT s y):=by
 have hold:=hM.th _ _ hx
 cases s with
 | blk ty s=>
  simp only [uT] at e
  split at e<;>first | (cases e;done) | skip
  rename_i ty' v
  split at e<;>first | (cases e;done) | skip
  rename_i hty
  have:=Nat.eq_of_beq_eq_true hty
  subst this
  obtain ⟨h,cs,h1,h2,h3,h4,h5⟩:=hold
  obtain ⟨y,u1,O1,ρ1,e1,g1,l1,z1,F1⟩:=uV_ok e hM h4 hmd
  refine ⟨y,u1,O1,ρ1,e1,g1,l1,fun O₂ ρ₂ F=>⟨h,cs,F.mt j id h (bd_ρ g1 hj) (g1.stp.pre _ _ h1),F.own h.b j id (bd_ρ g1 hj) (g1.own h.b id (List.mem_of_getElem? hj) h2),by rw [h3,z1],F1 O₂ ρ₂ F.toFut,h5⟩⟩
 | row E t=>
  simp only [uT] at e
  split at e<;>first | (cases e;done) | skip
  rename_i E' t' xs
  split at e<;>first | (cases e;done) | skip
  rename_i xs' hE hcast
  have:=Nat.eq_of_beq_eq_true hE
  subst this
  obtain ⟨e1,he1⟩:=castR_ok hcast
  subst e1
  have he1:xs'=xs:=he1
  subst he1
  obtain ⟨h,es,h1,h2,h3,h4,h5⟩:=hold
  exact ⟨xs',u,O,ρ,e,.refl hM,fun _=>rfl,fun O₂ ρ₂ F=>⟨h,es,F.mt j id h hj h1,h2,fun b hb=>F.own b j id hj (h3 b hb),h4.mono (fun _ _=>TR.mono F.le),h5⟩⟩
 | fz t=>
  simp only [uT] at e
  split at e<;>first | (cases e;done) | skip
  rename_i t' xs
  split at e<;>first | (cases e;done) | skip
  rename_i xs' hcast
  obtain ⟨e1,he1⟩:=castR_ok hcast
  subst e1
  have he1:xs'=xs:=he1
  subst he1
  obtain ⟨h,h1,h2,h3⟩:=hold
  exact ⟨xs',u,O,ρ,e,.refl hM,fun _=>rfl,fun O₂ ρ₂ F=>⟨h,F.mt j id h hj h1,h2,TR.mono F.le h3⟩⟩
 | no=>exact ⟨(),u,O,ρ,e,.refl hM,fun _=>rfl,fun _ _ _=>trivial⟩
 | mp kt vt=>
  simp only [uT] at e
  split at e<;>first | (cases e;done) | skip
  rename_i kt' vt' xs
  split at e<;>first | (cases e;done) | skip
  rename_i xs' hcast
  obtain ⟨e1,e2,he1⟩:=castM_ok hcast
  subst e1 e2
  have he1:xs'=xs:=he1
  subst he1
  obtain ⟨h,es,h1,h2,h3,h4⟩:=hold
  exact ⟨xs',u,O,ρ,e,.refl hM,fun _=>rfl,fun O₂ ρ₂ F=>⟨h,es,F.mt j id h hj h1,F.own h.b j id hj h2,h3,h4.mono F.le⟩⟩
theorem uTs_ok {β:Type}:∀ {ss:List TSh} {j:Nat} {u:Un} {k:tdens ss->Un->Option β} {r:β} {O:Own} {ρ:List Hd},uTs md ts j ss u k=some r->Gm O ρ u.tb w->(md=false->u.lt=[]) ->
  ∃ y u' O' ρ',k y u'=some r∧Gh (fun _=>md=false) O ρ u O' ρ' u' w∧(md=false->u'.lt=u.lt)∧∀ O₂ ρ₂,Fut2 u' O' ρ' w O₂ ρ₂->∀ q x,(encTs ss y)[q]? = some x->Holds O₂ ρ₂ w (j + q) x
 | [],j,u,k,r,O,ρ,e,hM,hmd=>⟨(),u,O,ρ,e,.refl hM,fun _=>rfl,fun _ _ _ q x h=>by simp [encTs] at h⟩
 | s :: ss,j,u,k,r,O,ρ,e,hM,hmd=>by
  simp only [uTs] at e
  split at e<;>first | (cases e;done) | skip
  rename_i id hj
  split at e<;>first | (cases e;done) | skip
  rename_i x hx
  rw [nth_eq] at hj hx
  obtain ⟨y,u1,O1,ρ1,e1,g1,l1,F1⟩:=uT_ok e hM hj hx hmd
  have hmd1:md=false->u1.lt=[]:=fun h=>(l1 h).trans (hmd h)
  obtain ⟨z,u2,O2,ρ2,e2,g2,l2,F2⟩:=uTs_ok e1 g1.gm hmd1
  refine ⟨(y,z),u2,O2,ρ2,e2,g1.trans g2,fun h=>(l2 h).trans (l1 h),fun O₂ ρ₂ F q x' hq=>?_⟩
  cases q with
  | zero=>
   simp [encTs] at hq;subst hq
   exact F1 O₂ ρ₂ (F.back g2 (lent_own g1.gm g2 hmd1))
  | succ q=>
   have:=F2 O₂ ρ₂ F q x' (by simpa [encTs] using hq)
   rw [show j + (q + 1)=j + 1 + q from by omega];exact this
def rc (bd:List Nat) (ρ:List Hd):List Hd:=bd.map fun id=>ρ.getD id ⟨0,.nil,.bool false⟩
theorem rc_mt (bd:List Nat) (ρ:List Hd):Mt bd ρ (rc bd ρ):=fun j id h hj hh=>by
 simp [rc,hj,List.getD_eq_getElem?_getD,hh]
theorem Oc_le (bd lt:List Nat) (O:Own) (w:World):O.le (Oc bd lt O w):=fun b all e=>by simp only [Oc,e]
structure Uni (O:Own) (ρ:List Hd) (tb:Tbl) (bd:List Nat) (w:World) (md:Bool) (ss:List Sh) (ts:List TSh) (cs:List (List Value)) (vs:List IV) (x:dens ss) (y:tdens ts) (u':Un) (O':Own) (ρ':List Hd):Prop where
 gh:Gh (fun _=>md=false) O ρ ⟨bd,tb,[]⟩ O' ρ' u' w
 lt:md=false->u'.lt=[]
 gm:Gm (Oc u'.bd u'.lt O' w) (rc u'.bd ρ') (encTs ts y) w
 rl:RL (Oc u'.bd u'.lt O' w) (rc u'.bd ρ') (encs ss x) cs
 sz:szs (encs ss x)=szs vs
 len:u'.bd.length=ts.length
 nd:u'.bd.Nodup
 apart:∀ i,i ∈ u'.lt->i ∉ u'.bd
 in_:∀ i,i ∈ u'.bd->i < u'.tb.length
theorem uni_ok {β:Type} {ss:List Sh} {bd:List Nat} {vs:List IV} {tb:Tbl} {k:dens ss->tdens ts->Un->Option β} {r:β} {cs:List (List Value)} (e:uni md ss ts bd vs tb k=some r) (hM:Gm O ρ tb w) (hR:RL O ρ vs cs) (hnd:bd.Nodup) (hbd:∀ i,i ∈ bd->i < tb.length) :
  ∃ x y u' O' ρ',k x y u'=some r∧Uni O ρ tb bd w md ss ts cs vs x y u' O' ρ':=by
 unfold uni at e
 obtain ⟨x,u1,O1,ρ1,e1,g1,l1,z1,F1⟩:=uVs_ok e hM hR (fun _=>rfl)
 have hmd1:md=false->u1.lt=[]:=fun h=>(l1 h)
 obtain ⟨y,u2,O2,ρ2,e2,g2,l2,F2⟩:=uTs_ok e1 g1.gm hmd1
 split at e2<;>first | (cases e2;done) | skip
 rename_i hlen hap
 have hlen:=Nat.eq_of_beq_eq_true hlen
 have g:=g1.trans g2
 have hnd2:=g.nd hnd
 have hap':=apart_ok hap
 have hF:Fut2 u2 O2 ρ2 w (Oc u2.bd u2.lt O2 w) (rc u2.bd ρ2):=by
  refine ⟨⟨Oc_le _ _ _ _,rc_mt _ _,fun b id a ty fz hi ho hh=>?_⟩,fun b j id hj ho=>?_⟩
  ·have hn:idx u2.bd id=none:=by
    cases hi2:idx u2.bd id with
    | none=>rfl
    | some j=>exact absurd (List.mem_of_getElem? (idx_some hi2)) (hap' id hi)
   have hs:∃ j,idx u2.lt id=some j:=by
    cases hi2:idx u2.lt id with
    | none=>exact absurd hi (idx_none hi2)
    | some j=>exact ⟨j,rfl⟩
   obtain ⟨j,hj⟩:=hs
   simp only [Oc,ho,hn,hj,hh]
  ·simp only [Oc,ho,idx_of_get hnd2 hj]
 refine ⟨x,y,u2,O2,ρ2,e2,g,fun h=>(l2 h).trans (hmd1 h),⟨fun b all hb=>?_,fun b hb=>?_,?_,fun j t ht=>?_⟩,F1 _ _ (hF.toFut.back g2 (lent_own g1.gm g2 hmd1)),z1,hlen,hnd2,hap',g.in_ hbd⟩
 ·simp only [Oc] at hb
  split at hb
  ·rename_i all' ho;cases hb;exact g2.gm.im b all ho
  ·cases hb
  ·rename_i id ho
   split at hb
   ·cases hb
   ·split at hb
    ·split at hb
     ·rename_i a ty fz hh;cases hb;exact ⟨ty,fz,by simpa using hh⟩
     ·cases hb
    ·cases hb
 ·simp only [Oc,g2.gm.lt b hb]
 ·simp [rc,hlen,encTs_len]
 ·have:=F2 _ _ hF j t ht
  simpa using this
theorem Stp.oc {O0 O':Own} {ρ0 ρ':List Hd} {w0 w:World} {bd lt:List Nat} (h:Stp (fun _=>True) O0 ρ0 w0 O' ρ' w) (hb:∀ i,i < ρ0.length->bd[i]? = some i):Stp (fun _=>True) O0 ρ0 w0 (Oc bd lt O' w) (rc bd ρ') w:=by
 refine ⟨fun i x hx=>?_,h.im.trans (Oc_le _ _ _ _),fun b hb' e=>?_,fun b id _ _ hn=>absurd trivial hn,h.kept⟩
 ·exact rc_mt bd ρ' i i x (hb i (List.getElem?_eq_some_iff.1 hx).1) (h.pre _ _ hx)
 ·simp only [Oc,h.no b hb' e]
end
end Go.Tw
namespace Go.Tw
set_option linter.unusedSimpArgs false
set_option linter.unusedVariables false
structure Ct where
 m:Nat
 A:List Sh
 T:List TSh
 B:List Sh
 U:List TSh
 run:(β:Type)->dens A->tdens T->(dens B->tdens U->Option β)->Option β
 nat:∀ (β:Type) x y (k:dens B->tdens U->Option β) r,run β x y k=some r->∃ p q,run _ x y (fun p q=>some (p,q))=some (p,q)∧k p q=some r
def vals:List IV->List (List Value)->List Value
 | v :: vs,c :: cs=>(bif v.agg then .agg c.toArray else c.headD (.bool false)) :: vals vs cs
 | _,_=>[]
theorem vals_sz:∀ {vs us:List IV} {cs:List (List Value)},szs vs=szs us->vals vs cs=vals us cs
 | [],[],cs,_=>rfl
 | [],_ :: _,cs,h=>by simp [szs] at h
 | _ :: _,[],cs,h=>by simp [szs] at h
 | v :: vs,u :: us,[],h=>rfl
 | v :: vs,u :: us,c :: cs,h=>by
  simp only [szs,List.map_cons,List.cons.injEq] at h
  simp only [vals,agg_of_sz h.1,vals_sz (vs:=vs) (us:=us) (cs:=cs) h.2]
def resV (vs:List IV) (ds:List (List Value)):Value:=
 match vals vs ds with
 | [x]=>x
 | l=>.tuple l.toArray
def CallK (P:Program) (d:Bool) (f:FuncId) (args:Array Value) (w:World) (Q:Value->World->Prop):Prop:=
 match d with
 | false=>Calls P f args w (Ret Q)
 | true=>CallsD P f args .returning w (fun e u w'=>u=.returning∧Ret Q e w')
theorem CallK.mono {P:Program} {d:Bool} {f:FuncId} {args:Array Value} {w:World} {Q Q':Value->World->Prop} (h:CallK P d f args w Q) (hq:∀ v w',Q v w'->Q' v w'):CallK P d f args w Q':=by
 cases d with
 | false=>
  refine Calls.mono (show Calls P f args w (Ret Q) from h) fun e w' he=>?_
  cases e with
  | returned v=>exact hq v w' he
  | panicked _=>exact he
  | outgrown=>exact he
 | true=>
  refine CallsD.mono (show CallsD P f args .returning w (fun e u w'=>u=.returning∧Ret Q e w') from h) fun e u w' he=>?_
  obtain ⟨h1,he⟩:=he
  refine ⟨h1,?_⟩
  cases e with
  | returned v=>exact hq v w' he
  | panicked _=>exact he
  | outgrown=>exact he
def SoundK (P:Program) (c:Cfg) (d:Bool) (f:FuncId) (ct:Ct):Prop:=
 ∀ x y p q,ct.run _ x y (fun p q=>some (p,q))=some (p,q)->∀ (O:Own) (ρ:List Hd) (w:World) (cs:List (List Value)),GO c O->Gm O ρ (encTs ct.T y) w->RL O ρ (encs ct.A x) cs ->
  CallK P d f (vals (encs ct.A x) cs).toArray w (fun v w'=>∃ O' ρ' ds,Gm O' ρ' (encTs ct.U q) w'∧Stp (fun _=>True) O (ρ.take ct.m) w O' ρ' w'∧RL O' ρ' (encs ct.B p) ds∧v=resV (encs ct.B p) ds)
abbrev Sound (P:Program) (c:Cfg) (f:FuncId) (ct:Ct):Prop:=SoundK P c false f ct
def ren (g:Nat->Nat):IV->IV
 | .rw id=>.rw (g id)
 | .rp id lo hi=>.rp (g id) lo hi
 | .pt id p=>.pt (g id) p
 | .el id j p=>.el (g id) j p
 | .ap id p lo hi=>.ap (g id) p lo hi
 | .ps id n=>.ps (g id) n
 | .mp id=>.mp (g id)
 | .fn f a c=>.fn f (ren g a) (ren g c)
 | .pr a b=>.pr (ren g a) (ren g b)
 | .tu a=>.tu (ren g a)
 | v=>v
def renT (g:Nat->Nat):Thing->Thing
 | .blk ty v=>.blk ty (ren g v)
 | x=>x
theorem ren_sz (g:Nat->Nat):∀ v:IV,(ren g v).sz=v.sz:=by
 intro v
 induction v with
 | pr a b iha ihb=>simp only [ren,IV.sz,iha,ihb]
 | _=>rfl
theorem VR.flat {O O':Own} {t:Ty} {x:t.den} {v:Value} (hf:t.flat=true) (H:VR O t x v):VR O' t x v:=by
 unfold VR at *
 cases e:t.agg with
 | true=>rw [e] at H;obtain ⟨cs,h1,h2⟩:=H;exact ⟨cs,h1,TR.flat hf h2⟩
 | false=>rw [e] at H;exact TR.flat hf H
theorem MR.flat {O O':Own} {kt vt:Ty} (hk:kt.flat=true) (hv:vt.flat=true):∀ {q:Nat} {l:List (kt.den×vt.den)} {es:List MapEntry},MR O kt vt q l es->MR O' kt vt q l es
 | _,[],_,H=>H
 | _,(_,_) :: _,_,⟨e,r,h1,h2,h3,h4,h5⟩=>⟨e,r,h1,h2,TR.flat hk h3,h4.flat hv,MR.flat hk hv h5⟩
def Sh.nr:Sh->Bool
 | .ro _=>false
 | .rn _=>false
 | .re _=>false
 | .fn _ a c=>a.nr && c.nr
 | .pr a b=>a.nr && b.nr
 | .ar _ t=>t.flat
 | _=>true
def TSh.nr:TSh->Bool
 | .blk _ s=>s.nr
 | .row _ t=>t.flat
 | .fz _=>false
 | .no=>true
 | .mp kt vt=>kt.flat && vt.flat
theorem ren_R {O O2:Own} {ρ ρ2:List Hd} {g:Nat->Nat} (hρ:∀ j h,ρ[j]? = some h->ρ2[g j]? = some h):∀ {s:Sh} {x:s.den} {ch:Bool} {cs:List Value},(O.le O2∨s.nr=true)->R O ρ ch (enc s x) cs->R O2 ρ2 ch (ren g (enc s x)) cs:=by
 intro s
 induction s with
 | ro t=>
  intro x ch cs hle h
  rcases hle with hle | hle
  ·cases ch<;>first | exact h.elim | exact TR.mono hle h
  ·cases hle
 | rn t=>
  intro x ch cs hle h
  rcases hle with hle | hle
  ·cases ch<;>first | exact h.elim | exact ⟨TR.mono hle h.1,h.2⟩
  ·cases hle
 | re t=>
  intro x ch cs hle h
  rcases hle with hle | hle
  ·cases ch<;>first | exact h.elim | (obtain ⟨b,off,c,h1,h2,all,h3,h4⟩:=h;exact ⟨b,off,c,h1,TR.mono hle h2,all,hle _ _ h3,h4⟩)
  ·cases hle
 | rw j=>intro x ch cs hle h;cases ch<;>first | exact h.elim | (obtain ⟨y,h1,h2⟩:=h;exact ⟨y,hρ _ _ h1,h2⟩)
 | rp j=>intro x ch cs hle h;cases ch<;>first | exact h.elim | (obtain ⟨y,z,h1,h2⟩:=h;exact ⟨y,z,hρ _ _ h1,h2⟩)
 | pt j p=>intro x ch cs hle h;cases ch<;>first | exact h.elim | (obtain ⟨y,z,h1,h2⟩:=h;exact ⟨y,z,hρ _ _ h1,h2⟩)
 | mp j=>intro x ch cs hle h;cases ch<;>first | exact h.elim | (obtain ⟨y,h1,h2⟩:=h;exact ⟨y,hρ _ _ h1,h2⟩)
 | ps j n=>intro x ch cs hle h;cases ch<;>first | exact h.elim | (obtain ⟨y,h1,h2⟩:=h;exact ⟨y,hρ _ _ h1,h2⟩)
 | ap j p=>intro x ch cs hle h;cases ch<;>first | exact h.elim | (obtain ⟨y,z,n,q,h1,h2⟩:=h;exact ⟨y,z,n,q,hρ _ _ h1,h2⟩)
 | fn f a c iha ihc=>
  intro x ch cs hle h
  have ha:O.le O2∨a.nr=true:=hle.imp_right (fun h=>by simp only [Sh.nr,Bool.and_eq_true] at h;exact h.1)
  have hc:O.le O2∨c.nr=true:=hle.imp_right (fun h=>by simp only [Sh.nr,Bool.and_eq_true] at h;exact h.2)
  cases ch<;>first | exact h.elim | (obtain ⟨xs,ys,h1,h2,h3⟩:=h;exact ⟨xs,ys,h1,iha ha h2,ihc hc h3⟩)
 | pr a b iha ihb=>
  intro x ch cs hle h
  have ha:O.le O2∨a.nr=true:=hle.imp_right (fun h=>by simp only [Sh.nr,Bool.and_eq_true] at h;exact h.1)
  have hb:O.le O2∨b.nr=true:=hle.imp_right (fun h=>by simp only [Sh.nr,Bool.and_eq_true] at h;exact h.2)
  cases ch with
  | true=>
   obtain ⟨y,r,h1,h2,h3⟩:=h
   refine ⟨y,r,h1,?_,ihb hb h3⟩
   rw [agg_of_sz (ren_sz g (enc a x.1))]
   cases hg:(enc a x.1).agg with
   | true=>rw [hg] at h2;obtain ⟨c0,h4,h5⟩:=h2;exact ⟨c0,h4,iha ha h5⟩
   | false=>rw [hg] at h2;exact iha ha h2
  | false=>obtain ⟨c0,d0,h1,h2,h3⟩:=h;exact ⟨c0,d0,h1,iha ha h2,ihb hb h3⟩
 | ar n t=>
  intro x ch cs hle h
  rcases hle with hle | hle
  ·cases ch<;>first | exact h.elim | exact TR.mono (t:=.ar n t) hle h
  ·cases ch<;>first | exact h.elim | exact TR.flat (t:=.ar n t) hle h
 | _=>intro x ch cs hle h;cases ch<;>exact h
def gb (bd:List Nat) (n:Nat) (j:Nat):Nat:=
 match nth bd j with
 | some id=>id
 | none=>n + (j - bd.length)
def putAll:Tbl->List Nat->Tbl->Tbl
 | tb,id :: ids,x :: xs=>putAll (tb.set id x) ids xs
 | tb,_,_=>tb
theorem putAll_len:∀ {ids:List Nat} {tb xs:Tbl},(putAll tb ids xs).length=tb.length
 | [],tb,xs=>by simp [putAll]
 | _ :: _,tb,[]=>by simp [putAll]
 | id :: ids,tb,x :: xs=>by simp only [putAll];rw [putAll_len];simp
theorem putAll_out:∀ {ids:List Nat} {tb xs:Tbl} {j:Nat},j ∉ ids->(putAll tb ids xs)[j]? = tb[j]?
 | [],tb,xs,j,_=>by simp [putAll]
 | _ :: _,tb,[],j,_=>by simp [putAll]
 | id :: ids,tb,x :: xs,j,h=>by
  simp only [List.mem_cons,not_or] at h
  simp only [putAll]
  rw [putAll_out h.2,List.getElem?_set_ne (Ne.symm h.1)]
theorem putAll_in:∀ {ids:List Nat} {tb xs:Tbl} {i j:Nat},ids.Nodup->ids[i]? = some j->j < tb.length->i < xs.length->(putAll tb ids xs)[j]? = xs[i]?
 | [],tb,xs,i,j,_,h,_,_=>by simp at h
 | id :: ids,tb,[],i,j,_,_,_,h=>by simp at h
 | id :: ids,tb,x :: xs,0,j,hn,h,hj,hi=>by
  simp at h;subst h
  rw [List.nodup_cons] at hn
  simp only [putAll]
  rw [putAll_out hn.1]
  simp [hj]
 | id :: ids,tb,x :: xs,i + 1,j,hn,h,hj,hi=>by
  rw [List.nodup_cons] at hn
  simp only [putAll]
  rw [putAll_in hn.2 (by simpa using h) (by simpa using hj) (by simpa using hi)];simp
def frzAll:Tbl->List Nat->Option Tbl
 | tb,[]=>some tb
 | tb,id :: ids=>match nth tb id with
  | some (.row _ t xs)=>frzAll (tb.set id (.fz t xs)) ids
  | some (.fz _ _)=>frzAll tb ids
  | _=>none
def chainOf:List IV->IV
 | []=>.un
 | v :: vs=>.pr v (chainOf vs)
def resI:List IV->IV
 | [v]=>v
 | l=>.tu (chainOf l)
def isNil {α:Type}:List α->Bool
 | []=>true
 | _=>false
def safe (ct:Ct) (lt:List Nat):Bool:=isNil lt || (ct.B.all Sh.nr && ct.U.all TSh.nr)
def tbB (m:Nat) (bd:List Nat) (tb1:Tbl) (us:Tbl) (n:Nat):Tbl:=
 putAll tb1 bd ((us.take m).map (renT (gb (bd.take m) n)) ++ List.replicate (bd.length - m) .no) ++ (us.drop m).map (renT (gb (bd.take m) n))
def callF {β:Type} (ct:Ct) (vs:List IV) (tb:Tbl) (k:Option IV->Tbl->List Nat->Option β):Option β:=
 uni true ct.A ct.T [] vs tb fun x y u=>match Nat.ble ct.m ct.U.length && Nat.ble ct.m u.bd.length with
  | true=>match safe ct u.lt with
   | true=>ct.run _ x y fun p q=>
    k (some (resI ((encs ct.B p).map (ren (gb (u.bd.take ct.m) u.tb.length))))) (tbB ct.m u.bd u.tb (encTs ct.U q) u.tb.length) u.bd
   | false=>match frzAll u.tb u.lt with
    | some tb1=>ct.run _ x y fun p q=>
     k (some (resI ((encs ct.B p).map (ren (gb (u.bd.take ct.m) u.tb.length))))) (tbB ct.m u.bd tb1 (encTs ct.U q) u.tb.length) (u.bd ++ u.lt)
    | none=>none
  | false=>none
section
variable {P:Program} {c:Cfg} {O:Own} {ρ:List Hd} {w:World}
theorem frzAll_len:∀ {ids:List Nat} {tb tb1:Tbl},frzAll tb ids=some tb1->tb1.length=tb.length
 | [],tb,tb1,h=>by simp [frzAll] at h;simp [h]
 | id :: ids,tb,tb1,h=>by
  simp only [frzAll] at h
  split at h
  ·rw [frzAll_len h];simp
  ·exact frzAll_len h
  ·cases h
theorem frzAll_get:∀ {ids:List Nat} {tb tb1:Tbl} {j:Nat} {x:Thing},frzAll tb ids=some tb1->tb1[j]? = some x->(tb[j]? = some x∧(j ∈ ids->∃ t xs,x=.fz t xs))∨(j ∈ ids∧∃ E t xs,tb[j]? = some (.row E t xs)∧x=.fz t xs)
 | [],tb,tb1,j,x,h,hx=>by simp [frzAll] at h;subst h;exact .inl ⟨hx,fun h=>by simp at h⟩
 | id :: ids,tb,tb1,j,x,h,hx=>by
  simp only [frzAll] at h
  split at h
  ·rename_i E t xs hb
   rw [nth_eq] at hb
   have hid:=(List.getElem?_eq_some_iff.1 hb).1
   rcases frzAll_get h hx with ⟨h1,h2⟩ | ⟨h1,E',t',xs',h2,h3⟩
   ·rw [List.getElem?_set] at h1
    split at h1
    ·rename_i e;subst e
     have:x=.fz t xs:=by first | (rw [if_pos hid] at h1;cases h1;rfl) | (cases h1;rfl)
     exact .inr ⟨by simp,E,t,xs,hb,this⟩
    ·rename_i e
     refine .inl ⟨h1,fun hj=>?_⟩
     rcases List.mem_cons.1 hj with hj | hj
     ·exact absurd hj.symm e
     ·exact h2 hj
   ·rw [List.getElem?_set] at h2
    split at h2
    ·rename_i e;subst e
     exfalso
     first
      | (rw [if_pos hid] at h2;cases h2)
      | cases h2
    ·exact .inr ⟨by simp [h1],E',t',xs',h2,h3⟩
  ·rename_i t xs hb
   rw [nth_eq] at hb
   rcases frzAll_get h hx with ⟨h1,h2⟩ | ⟨h1,E',t',xs',h2,h3⟩
   ·refine .inl ⟨h1,fun hj=>?_⟩
    rcases List.mem_cons.1 hj with hj | hj
    ·subst hj;rw [hb] at h1;cases h1;exact ⟨_,_,rfl⟩
    ·exact h2 hj
   ·exact .inr ⟨by simp [h1],E',t',xs',h2,h3⟩
  ·cases h
theorem RL.ren {O2:Own} {ρ2:List Hd} {g:Nat->Nat} (hρ:∀ j h,ρ[j]? = some h->ρ2[g j]? = some h):∀ {ss:List Sh} {x:dens ss} {cs:List (List Value)},(O.le O2∨ss.all Sh.nr=true)->RL O ρ (encs ss x) cs->RL O2 ρ2 ((encs ss x).map (ren g)) cs
 | [],x,cs,hle,h=>h
 | s :: ss,x,cs,hle,h=>by
  obtain ⟨c0,r,h1,h2,h3⟩:=h
  refine ⟨c0,r,h1,ren_R hρ (hle.imp_right (fun h=>by simp only [List.all_cons,Bool.and_eq_true] at h;exact h.1)) h2,RL.ren hρ (hle.imp_right (fun h=>by simp only [List.all_cons,Bool.and_eq_true] at h;exact h.2)) h3⟩
theorem szs_ren (g:Nat->Nat):∀ vs:List IV,szs (vs.map (ren g))=szs vs
 | []=>rfl
 | v :: vs=>by simp only [szs,List.map_cons,ren_sz] ; have:=szs_ren g vs;simp only [szs] at this;rw [this]
theorem res_SR:∀ {vs:List IV} {ds:List (List Value)},RL O ρ vs ds->∃ x:SV,SR O ρ (resI vs) x∧x.val=resV vs ds:=by
 have one:∀ {v:IV} {c:List Value},R O ρ false v c->∃ y:S0,S0R O ρ v y∧y.val=(bif v.agg then .agg c.toArray else c.headD (.bool false)):=by
  intro v c h
  cases hv:v.agg with
  | true=>exact ⟨_,S0R.of_agg hv h,rfl⟩
  | false=>
   have hl:=R.length h
   have hz:v.sz.size=1:=by cases v<;>simp [IV.agg] at hv<;>rfl
   rw [hz] at hl
   obtain ⟨u,rfl⟩:=List.length_eq_one_iff.1 hl
   by_cases ho:∃ x,v=.o x
   ·obtain ⟨x,rfl⟩:=ho
    obtain ⟨h1,h2⟩:=h
    cases h1
    exact ⟨x,⟨rfl,h2⟩,rfl⟩
   ·refine ⟨.v u,?_,rfl⟩
    cases v<;>simp [IV.agg] at hv
    case o x=>exact absurd ⟨x,rfl⟩ ho
    all_goals exact ⟨u,rfl,h⟩
 have many:∀ {vs:List IV} {ds:List (List Value)},RL O ρ vs ds->∃ xs:List S0,TuR O ρ (chainOf vs) xs∧xs.map S0.val=vals vs ds:=by
  intro vs
  induction vs with
  | nil=>intro ds h;exact ⟨[],rfl,by simp [vals]⟩
  | cons v vs ih=>
   intro ds h
   obtain ⟨c0,r,rfl,h1,h2⟩:=h
   obtain ⟨y,h3,h4⟩:=one h1
   obtain ⟨xs,h5,h6⟩:=ih h2
   exact ⟨y :: xs,⟨y,xs,rfl,h3,h5⟩,by simp [vals,h4,h6]⟩
 intro vs ds h
 match vs,ds,h with
 | [v],ds,h=>
  obtain ⟨c0,r,rfl,h1,h2⟩:=h
  simp only [RL] at h2;subst h2
  obtain ⟨y,h3,h4⟩:=one h1
  exact ⟨.o y,.of_S0 h3,by simp only [SV.val,h4,resV,vals]⟩
 | [],ds,h=>
  simp only [RL] at h;subst h
  exact ⟨.t [],⟨[],rfl,rfl⟩,by simp [SV.val,resV,vals]⟩
 | v :: u :: vs,ds,h=>
  obtain ⟨xs,h5,h6⟩:=many h
  refine ⟨.t xs,⟨xs,rfl,h5⟩,?_⟩
  obtain ⟨c0,r,rfl,h1,c1,r1,rfl,h2,h3⟩:=h
  simp only [SV.val,h6,resV,vals]
def COk' {β:Type} (P:Program) (d:Bool) (c:Cfg) (O:Own) (ρ:List Hd) (w:World) (f:FuncId) (xs:List Value) (k:Option IV->Tbl->List Nat->Option β) (r:β):Prop:=
 ∃ v tb' mu,k (some v) tb' mu=some r∧CallK P d f xs.toArray w (fun x w'=>∃ O' ρ' sv,x=sv.val∧SR O' ρ' v sv∧Gm O' ρ' tb' w'∧Stp (· ∈ mu) O ρ w O' ρ' w')
theorem callF_ok {β:Type} {d:Bool} {ct:Ct} {f:FuncId} {vs:List IV} {tb:Tbl} {k:Option IV->Tbl->List Nat->Option β} {r:β} {cs:List (List Value)} (hS:SoundK P c d f ct) (e:callF ct vs tb k=some r) (hG:GO c O) (hM:Gm O ρ tb w) (hR:RL O ρ vs cs):COk' P d c O ρ w f (vals vs cs) k r:=by
 unfold callF at e
 obtain ⟨x,y,u,O1,ρ1,e,U⟩:=uni_ok e hM hR List.nodup_nil (by simp)
 split at e<;>first | (cases e;done) | skip
 rename_i hle
 simp only [Bool.and_eq_true,Nat.ble_eq] at hle
 obtain ⟨hle,hmb⟩:=hle
 have key:∀ (fz:Bool) (tb1:Tbl) (p:dens ct.B) (q:tdens ct.U),(fz=false->tb1=u.tb∧safe ct u.lt=true)->(fz=true->frzAll u.tb u.lt=some tb1)->ct.run _ x y (fun p q=>some (p,q))=some (p,q) ->
   CallK P d f (vals vs cs).toArray w (fun z w'=>∃ O' ρ' sv,z=sv.val∧SR O' ρ' (resI ((encs ct.B p).map (ren (gb (u.bd.take ct.m) u.tb.length)))) sv ∧
    Gm O' ρ' (tbB ct.m u.bd tb1 (encTs ct.U q) u.tb.length) w'∧Stp (· ∈ u.bd ++ (bif fz then u.lt else [])) O ρ w O' ρ' w'):=by
  intro fz tb1 p q hfz0 hfz1 hrun
  have hGO:GO c (Oc u.bd u.lt O1 w):=hG.mono (U.gh.stp.im.trans (Oc_le _ _ _ _))
  have hcall:=hS x y p q hrun _ _ w cs hGO U.gm U.rl
  rw [vals_sz U.sz] at hcall
  refine hcall.mono fun z w' he=>?_
  ·obtain ⟨Oq,ρq,ds,gq,sq,rq,rfl⟩:=he
   have hn:ρ1.length=u.tb.length:=U.gh.gm.len
   have hm:ρq.length=ct.U.length:=by rw [gq.len,encTs_len]
   have htb1:tb1.length=u.tb.length:=by
    cases fz with
    | false=>rw [(hfz0 rfl).1]
    | true=>exact frzAll_len (hfz1 rfl)
   have hkeep:∀ b,b < w.heap.size->(∀ j,Oc u.bd u.lt O1 w b ≠ .th j)->w'.heap[b]? = w.heap[b]?:=fun b hb hn=>sq.kept.block b hb (fun ⟨j,_,e⟩=>hn j e)
   have hlow:∀ b,O1 b ≠ .no->b < w.heap.size:=fun b h=>by
    rcases Nat.lt_or_ge b w.heap.size with h' | h'
    ·exact h'
    ·exact absurd (U.gh.gm.lt b h') h
   let g:=gb (u.bd.take ct.m) u.tb.length
   have htk:(u.bd.take ct.m).length=ct.m:=by rw [List.length_take];omega
   let rl:Ow->Ow:=fun o=>match o with
    | .th j=>.th (g j)
    | o=>o
   let O2:Own:=fun b=>if b < w.heap.size then (match O1 b with
    | .im all=>.im all
    | .no=>.no
    | .th id=>match idx u.bd id with
     | some _=>rl (Oq b)
     | none=>bif fz then (match idx u.lt id with
      | some _=>Oc u.bd u.lt O1 w b
      | none=>.th id) else .th id) else rl (Oq b)
   let ρ2:=ρ1 ++ ρq.drop ct.m
   have hρ:∀ j h,ρq[j]? = some h->ρ2[g j]? = some h:=by
    intro j h hj
    show (ρ1 ++ ρq.drop ct.m)[gb (u.bd.take ct.m) u.tb.length j]? = some h
    unfold gb
    split
    ·rename_i id hid
     rw [nth_eq,List.getElem?_take] at hid
     have hjm:j < ct.m:=by
      rcases Nat.lt_or_ge j ct.m with h | h
      ·exact h
      ·rw [if_neg (by omega)] at hid;cases hid
     rw [if_pos hjm] at hid
     have hlt:=U.in_ id (List.mem_of_getElem? hid)
     have hid1:id < ρ1.length:=by rw [hn];exact hlt
     have h2:((rc u.bd ρ1).take ct.m)[j]? = some (ρ1[id]):=by
      rw [List.getElem?_take,if_pos hjm]
      simp [rc,hid,List.getD_eq_getElem?_getD,hid1]
     have:=sq.pre j _ h2
     rw [hj] at this;cases this
     rw [List.getElem?_append_left hid1];simp [hid1]
    ·rename_i hid
     rw [nth_eq] at hid
     have hjm:ct.m≤j:=by rw [List.getElem?_eq_none_iff,htk] at hid;exact hid
     rw [htk,List.getElem?_append_right (by omega),hn]
     rw [show u.tb.length + (j - ct.m) - u.tb.length=j - ct.m from by omega,List.getElem?_drop,show ct.m + (j - ct.m)=j from by omega]
     exact hj
   have hle1:O1.le O2:=fun b all hb=>by
    show (if b < w.heap.size then _ else _)=_
    rw [if_pos (hlow b (by rw [hb];simp))];simp only [hb]
   have back:∀ b,b < w.heap.size->(∃ all,O1 b=.im all∧Oq b=.im all)∨(∃ id j,O1 b=.th id∧idx u.bd id=some j)∨(∃ id k all,O1 b=.th id∧idx u.bd id=none∧idx u.lt id=some k∧Oc u.bd u.lt O1 w b=.im all∧Oq b=.im all)∨(Oq b=.no∧∀ all,O1 b ≠ .im all):=by
    intro b hb
    cases ho:O1 b with
    | im all=>exact .inl ⟨all,rfl,sq.im b all (by simp only [Oc,ho])⟩
    | no=>exact .inr (.inr (.inr ⟨sq.no b hb (by simp only [Oc,ho]),by simp⟩))
    | th id=>
     cases hi:idx u.bd id with
     | some j=>exact .inr (.inl ⟨id,j,rfl,hi⟩)
     | none=>
      cases hl:idx u.lt id with
      | none=>exact .inr (.inr (.inr ⟨sq.no b hb (by simp only [Oc,ho,hi,hl]),by simp⟩))
      | some k=>
       cases hh:w.heap[b]? with
       | none=>exact .inr (.inr (.inr ⟨sq.no b hb (by simp only [Oc,ho,hi,hl,hh]),by simp⟩))
       | some ob=>
        cases ob with
        | cells a ty fzz=>
         have:Oc u.bd u.lt O1 w b=.im a.toList:=by simp only [Oc,ho,hi,hl,hh]
         exact .inr (.inr (.inl ⟨id,k,a.toList,rfl,hi,hl,this,sq.im b _ this⟩))
        | _=>exact .inr (.inr (.inr ⟨sq.no b hb (by simp only [Oc,ho,hi,hl,hh]),by simp⟩))
   have hown:∀ b i,Oq b=.th i->O2 b=.th (g i):=by
    intro b i hb
    show (if b < w.heap.size then _ else _)=_
    by_cases hbs:b < w.heap.size
    ·rw [if_pos hbs]
     rcases back b hbs with ⟨all,_,h⟩ | ⟨id,j,ho,hi⟩ | ⟨_,_,_,_,_,_,_,h⟩ | ⟨h,_⟩
     ·rw [h] at hb;cases hb
     ·simp only [ho,hi,hb,rl]
     ·rw [h] at hb;cases hb
     ·rw [h] at hb;cases hb
    ·rw [if_neg hbs];simp only [hb,rl]
   have hinc:Oq.le O2∨(ct.B.all Sh.nr=true∧ct.U.all TSh.nr=true):=by
    have yes:(fz=true∨u.lt=[])->Oq.le O2:=by
     intro hor b all hb
     show (if b < w.heap.size then _ else _)=_
     by_cases hbs:b < w.heap.size
     ·rw [if_pos hbs]
      rcases back b hbs with ⟨all',h1,h⟩ | ⟨id,j,ho,hi⟩ | ⟨id,kk,all',h1,h2,h3,h4,h5⟩ | ⟨h,_⟩
      ·rw [h] at hb;cases hb;simp only [h1]
      ·simp only [ho,hi,hb,rl]
      ·rcases hor with hor | hor
       ·subst hor
        rw [h5] at hb;cases hb
        simp only [h1,h2,h3,h4,cond_true]
       ·rw [hor] at h3;simp [idx] at h3
      ·rw [h] at hb;cases hb
     ·rw [if_neg hbs];simp only [hb,rl]
    cases fz with
    | true=>exact .inl (yes (.inl rfl))
    | false=>
     have:=(hfz0 rfl).2
     simp only [safe,Bool.or_eq_true,Bool.and_eq_true] at this
     rcases this with h | h
     ·exact .inl (yes (.inr (by cases hl:u.lt with | nil=>rfl | cons _ _=>rw [hl] at h;cases h)))
     ·exact .inr h
   have hthing:∀ i t,(encTs ct.U q)[i]? = some t->Holds O2 ρ2 w' (g i) (renT g t):=by
    intro i t ht
    have hold:=gq.th i t ht
    have hsh:∃ s:TSh,∃ z:s.den,t=encT s z∧(Oq.le O2∨s.nr=true):=by
     have gen:∀ (ss:List TSh) (z:tdens ss) (i:Nat),(Oq.le O2∨ss.all TSh.nr=true)->(encTs ss z)[i]? = some t->∃ s:TSh,∃ z:s.den,t=encT s z∧(Oq.le O2∨s.nr=true):=by
      intro ss
      induction ss with
      | nil=>intro z i _ h;simp [encTs] at h
      | cons s ss ih=>
       intro z i hn h
       cases i with
       | zero=>simp [encTs] at h;exact ⟨s,z.1,h.symm,hn.imp_right (fun h=>by simp only [List.all_cons,Bool.and_eq_true] at h;exact h.1)⟩
       | succ i=>exact ih z.2 i (hn.imp_right (fun h=>by simp only [List.all_cons,Bool.and_eq_true] at h;exact h.2)) (by simpa [encTs] using h)
     exact gen ct.U q i (hinc.imp_right (·.2)) ht
    obtain ⟨s,z,rfl,hnr⟩:=hsh
    cases s with
    | blk ty s=>
     obtain ⟨h,c0,h1,h2,h3,h4,h5⟩:=hold
     exact ⟨h,c0,hρ _ _ h1,hown _ _ h2,by rw [ren_sz];exact h3,ren_R hρ hnr h4,h5⟩
    | row E t=>
     obtain ⟨h,es,h1,h2,h3,h4,h5⟩:=hold
     refine ⟨h,es,hρ _ _ h1,h2,fun b hb=>hown _ _ (h3 b hb),h4.mono (fun _ _ hT=>?_),h5⟩
     rcases hnr with hnr | hnr
     ·exact TR.mono hnr hT
     ·exact TR.flat hnr hT
    | fz t=>
     obtain ⟨h,h1,h2,h3⟩:=hold
     refine ⟨h,hρ _ _ h1,h2,?_⟩
     rcases hnr with hnr | hnr
     ·exact TR.mono hnr h3
     ·cases hnr
    | no=>trivial
    | mp kt vt=>
     obtain ⟨h,es,h1,h2,h3,h4⟩:=hold
     refine ⟨h,es,hρ _ _ h1,hown _ _ h2,h3,?_⟩
     rcases hnr with hnr | hnr
     ·exact h4.mono hnr
     ·simp only [TSh.nr,Bool.and_eq_true] at hnr
      exact h4.flat hnr.1 hnr.2
   have gm2:Gm O2 ρ2 (tbB ct.m u.bd tb1 (encTs ct.U q) u.tb.length) w':=by
    show Gm O2 ρ2 (putAll tb1 u.bd (((encTs ct.U q).take ct.m).map (renT g) ++ List.replicate (u.bd.length - ct.m) .no) ++ ((encTs ct.U q).drop ct.m).map (renT g)) w'
    refine ⟨fun b all hb=>?_,fun b hb=>?_,?_,fun j t ht=>?_⟩
    ·have hb:(if b < w.heap.size then _ else _)=Ow.im all:=hb
     by_cases hbs:b < w.heap.size
     ·rw [if_pos hbs] at hb
      cases ho:O1 b with
      | im all'=>
       simp only [ho] at hb;cases hb
       obtain ⟨ty,fzz,hh⟩:=U.gh.gm.im b all ho
       exact ⟨ty,fzz,by rw [hkeep b hbs (fun j h=>by simp only [Oc,ho] at h;cases h)];exact hh⟩
      | no=>simp only [ho] at hb;cases hb
      | th id=>
       simp only [ho] at hb
       split at hb
       ·simp only [rl] at hb
        split at hb
        ·cases hb
        ·exact gq.im b all hb
       ·cases fz with
        | false=>cases hb
        | true=>
         simp only [cond_true] at hb
         split at hb
         ·obtain ⟨ty,fzz,hh⟩:=U.gm.im b all hb
          exact ⟨ty,fzz,by rw [hkeep b hbs (fun j h=>by rw [hb] at h;cases h)];exact hh⟩
         ·cases hb
     ·rw [if_neg hbs] at hb
      simp only [rl] at hb
      split at hb
      ·cases hb
      ·exact gq.im b all hb
    ·show (if b < w.heap.size then _ else _)=_
     rw [if_neg (by have:=sq.kept.size;omega)]
     simp only [gq.lt b hb,rl]
    ·show (ρ1 ++ ρq.drop ct.m).length=_
     simp only [List.length_append,putAll_len,List.length_map,List.length_drop,encTs_len,hn,hm,htb1]
    ·rcases Nat.lt_or_ge j u.tb.length with hj | hj
     ·rw [List.getElem?_append_left (by rw [putAll_len,htb1];exact hj)] at ht
      cases hi:idx u.bd j with
      | some i=>
       have hbi:=idx_some hi
       have hil:i < u.bd.length:=(List.getElem?_eq_some_iff.1 hbi).1
       rw [putAll_in U.nd hbi (by rw [htb1];exact hj) (by simp [encTs_len];omega)] at ht
       have hml:(((encTs ct.U q).take ct.m).map (renT g)).length=ct.m:=by simp [encTs_len];omega
       rcases Nat.lt_or_ge i ct.m with him | him
       ·rw [List.getElem?_append_left (by rw [hml];exact him)] at ht
        simp only [List.getElem?_map,Option.map_eq_some_iff] at ht
        obtain ⟨t0,ht0,rfl⟩:=ht
        rw [List.getElem?_take] at ht0
        rw [if_pos him] at ht0
        have:=hthing i t0 ht0
        have hg:g i=j:=by show gb _ _ _=_;unfold gb;rw [nth_eq,List.getElem?_take,if_pos him,hbi]
        rw [hg] at this;exact this
       ·rw [List.getElem?_append_right (by rw [hml];exact him)] at ht
        have:=(List.mem_replicate.1 (List.mem_of_getElem? ht)).2
        subst this;trivial
      | none=>
       have hnb:=idx_none hi
       rw [putAll_out hnb] at ht
       have stays:∀ t,u.tb[j]? = some t->(fz=true->j ∈ u.lt->∃ t' xs,t=.fz t' xs)->Holds O2 ρ2 w' j t:=by
        intro t ht0 hnf
        have hold:=U.gh.gm.th j t ht0
        have nofr:∀ b,O1 b=.th j->(∀ t' xs,t ≠ .fz t' xs)->O2 b=.th j∧w'.heap[b]? = w.heap[b]?:=by
         intro b hb hne
         have hbs:=hlow b (by rw [hb];simp)
         refine ⟨?_,hkeep b hbs (fun jj h=>?_)⟩
         ·show (if b < w.heap.size then _ else _)=_
          rw [if_pos hbs]
          simp only [hb,hi]
          cases fz with
          | false=>rfl
          | true=>
           simp only [cond_true]
           split
           ·rename_i kk hk
            obtain ⟨t',xs,e⟩:=hnf rfl (List.mem_of_getElem? (idx_some hk))
            exact absurd e (hne t' xs)
           ·rfl
         ·simp only [Oc,hb,hi] at h
          split at h
          ·split at h<;>cases h
          ·cases h
        cases t with
        | blk ty v=>
         obtain ⟨h,c0,h1,h2,h3,h4,h5⟩:=hold
         obtain ⟨n1,n2⟩:=nofr h.b h2 (by simp)
         exact ⟨h,c0,Pre.app _ _ _ _ h1,n1,h3,R.mono hle1 (Pre.app _ _) h4,h5.same n2⟩
        | row E t=>
         obtain ⟨h,es,h1,h2,h3,h4,h5⟩:=hold
         exact ⟨h,es,Pre.app _ _ _ _ h1,h2,fun b hb=>(nofr b (h3 b hb) (by simp)).1,h4.mono (fun _ _=>TR.mono hle1),Rs.same (r:=.row E t.size h.v _ es) (fun b hb=>(nofr b (h3 b hb) (by simp)).2) h5⟩
        | fz t xs=>
         obtain ⟨h,h1,h2,h3⟩:=hold
         exact ⟨h,Pre.app _ _ _ _ h1,h2,TR.mono hle1 h3⟩
        | no=>trivial
        | mk=>
         obtain ⟨h,h1,h2,h3⟩:=hold
         obtain ⟨n1,n2⟩:=nofr h.b h2 (by simp)
         exact ⟨h,Pre.app _ _ _ _ h1,n1,by rw [n2];exact h3⟩
        | mp kt vt l=>
         obtain ⟨h,es,h1,h2,h3,h4⟩:=hold
         obtain ⟨n1,n2⟩:=nofr h.b h2 (by simp)
         exact ⟨h,es,Pre.app _ _ _ _ h1,n1,by rw [n2];exact h3,h4.mono hle1⟩
       cases fz with
       | false=>
        rw [(hfz0 rfl).1] at ht
        exact stays t ht (fun h=>by cases h)
       | true=>
        rcases frzAll_get (hfz1 rfl) ht with ⟨h1,h2⟩ | ⟨h1,E,t',xs,h2,rfl⟩
        ·exact stays t h1 (fun _ hj=>h2 hj)
        ·obtain ⟨h,es,h3,h4,h5,h6,h7⟩:=U.gh.gm.th j _ h2
         refine ⟨h,Pre.app _ _ _ _ h3,h4,?_⟩
         refine ⟨h.v,es,rfl,h6.mono (fun _ _=>TR.mono hle1),ofSlAt h7.rd (fun b a ty fzz hn0 hb hh=>?_)⟩
         have ho:=h5 b hb
         have hbs:=hlow b (by rw [ho];simp)
         show (if b < w.heap.size then _ else _)=_
         rw [if_pos hbs]
         have hs:∃ kk,idx u.lt j=some kk:=by
          cases hk:idx u.lt j with
          | none=>exact absurd h1 (idx_none hk)
          | some kk=>exact ⟨kk,rfl⟩
         obtain ⟨kk,hk⟩:=hs
         simp only [ho,hi,hk,cond_true,Oc,hh]
     ·have hlen:(putAll tb1 u.bd (((encTs ct.U q).take ct.m).map (renT g) ++ List.replicate (u.bd.length - ct.m) .no)).length=u.tb.length:=by rw [putAll_len,htb1]
      rw [List.getElem?_append_right (by rw [hlen];exact hj),hlen] at ht
      simp only [List.getElem?_map,Option.map_eq_some_iff,List.getElem?_drop] at ht
      obtain ⟨t0,ht0,rfl⟩:=ht
      have:=hthing _ t0 ht0
      have hg:g (ct.m + (j - u.tb.length))=j:=by
       show gb _ _ _=_
       unfold gb
       rw [nth_eq,List.getElem?_eq_none (by rw [htk];omega)]
       simp only [htk];omega
      rw [hg] at this;exact this
   have stp2:Stp (· ∈ u.bd ++ (bif fz then u.lt else [])) O1 ρ1 w O2 ρ2 w':=by
    refine ⟨Pre.app _ _,hle1,fun b hb ho=>?_,fun b id hb ho hni=>?_,sq.kept.wide fun b ⟨j,_,ho⟩=>?_⟩
    ·show (if b < w.heap.size then _ else _)=_
     rw [if_pos hb];simp only [ho]
    ·show (if b < w.heap.size then _ else _)=_
     rw [if_pos hb]
     simp only [List.mem_append,not_or] at hni
     have h1:idx u.bd id=none:=by
      cases hi:idx u.bd id with
      | none=>rfl
      | some j=>exact absurd (List.mem_of_getElem? (idx_some hi)) hni.1
     simp only [ho,h1]
     cases fz with
     | false=>rfl
     | true=>
      have h2:idx u.lt id=none:=by
       cases hi:idx u.lt id with
       | none=>rfl
       | some j=>exact absurd (List.mem_of_getElem? (idx_some hi)) hni.2
      simp only [h2,cond_true]
    ·cases h1:O1 b with
     | im all=>simp only [Oc,h1] at ho;cases ho
     | no=>simp only [Oc,h1] at ho;cases ho
     | th id=>
      cases hi:idx u.bd id with
      | some j'=>exact ⟨id,List.mem_append_left _ (List.mem_of_getElem? (idx_some hi)),rfl⟩
      | none=>
       simp only [Oc,h1,hi] at ho
       split at ho
       ·split at ho<;>cases ho
       ·cases ho
   have hrl:RL O2 ρ2 ((encs ct.B p).map (ren g)) ds:=RL.ren hρ (hinc.imp_right (·.1)) rq
   obtain ⟨sv,hsv,hval⟩:=res_SR hrl
   refine ⟨O2,ρ2,sv,?_,hsv,gm2,(U.gh.stp.weak (fun _ h=>by cases h)).trans stp2⟩
   rw [hval]
   simp only [resV,vals_sz (szs_ren g (encs ct.B p))]
 split at e
 ·rename_i hsafe
  obtain ⟨p,q,hrun,hk⟩:=ct.nat _ x y _ r e
  refine ⟨_,_,_,hk,(key false u.tb p q (fun _=>⟨rfl,hsafe⟩) (fun h=>by cases h) hrun).mono fun z w' he=>?_⟩
  obtain ⟨O',ρ',sv,h1,h2,h3,h4⟩:=he
  exact ⟨O',ρ',sv,h1,h2,h3,h4.weak (fun i hi=>by simpa using hi)⟩
 ·split at e<;>first | (cases e;done) | skip
  rename_i tb1 hf
  obtain ⟨p,q,hrun,hk⟩:=ct.nat _ x y _ r e
  refine ⟨_,_,_,hk,(key true tb1 p q (fun h=>by cases h) (fun _=>hf) hrun).mono fun z w' he=>?_⟩
  obtain ⟨O',ρ',sv,h1,h2,h3,h4⟩:=he
  exact ⟨O',ρ',sv,h1,h2,h3,h4.weak (fun i hi=>by simpa using hi)⟩
end
end Go.Tw
namespace Go.Tw
set_option linter.unusedSimpArgs false
set_option linter.unusedVariables false
structure St where
 env:IEnv
 tb:Tbl
 df:List IV
structure Ev where
 c:Cfg
 n:Nat
 ct:Nat->List Ct
 ord:Nat->List (Tag×Nat)
 cd:Nat->List Ct
 al:Nat->Option Nat
 ms:Nat->Option (List (Option Tag×Nat×List Nat)):=fun _=>none
inductive Cl where
 | p
 | r
 | w
 | call
 | d
def clOf (c:Cfg):Op->Cl
 | .load _ _=>.r
 | .convert src dst _=>match c.D src,c.D dst with
  | some .string,some (.slice _)=>.w
  | some (.slice _),some (.slice _)=>.w
  | some (.slice _),some .string=>.r
  | _,_=>.p
 | .store _ _ _=>.w
 | .alloc _=>.w
 | .box _ _=>.w
 | .makeSlice _ _ _=>.w
 | .buildSlice _ _ _=>.w
 | .call cl=>match cl.callee with
  | .builtin .append=>.w
  | .builtin .copy=>.w
  | .builtin _=>.p
  | _=>.call
 | .defer _=>.d
 | .lookup _ _ _ _=>.r
 | .makeMap _ _=>.w
 | .mapUpdate _ _ _ _=>.w
 | .mapEntry _ _ _=>.w
 | .entryStore _ _ _ _=>.w
 | _=>.p
def unch:IV->Option (List IV)
 | .un=>some []
 | .pr a b=>match unch b with
  | some l=>some (a :: l)
  | none=>none
 | _=>none
def iopds (c:Cfg) (il:IEnv):List Operand->Option (List IV)
 | []=>some []
 | x :: xs=>match iopd c il x,iopds c il xs with
  | some (.tu _),_=>none
  | some v,some vs=>some (v :: vs)
  | _,_=>none
def pickCt (vs:List IV) (tb:Tbl):List Ct->Option Ct
 | []=>none
 | [ct]=>some ct
 | ct :: r=>match uni true ct.A ct.T [] vs tb (fun _ _ _=>some ()) with
  | some _=>some ct
  | none=>pickCt vs tb r
def cOp {β:Type} (E:Ev) (il:IEnv) (tb:Tbl) (k:Option IV->Tbl->List Nat->Option β):Op->Option β
 | .call cl=>match cl.callee with
  | .value x=>match iopd E.c il x with
   | some (.fn f a cc)=>match unch a,iopds E.c il cl.args.toList,unch cc with
    | some l1,some l2,some l3=>match pickCt (l1 ++ (l2 ++ l3)) tb (E.ct f) with
     | some ct=>callF ct (l1 ++ (l2 ++ l3)) tb k
     | none=>none
    | _,_,_=>none
   | _=>none
  | _=>none
 | _=>none
def putE (E:Ev) (d:Option Nat) (v:IV) (il:IEnv):Option IEnv:=
 match d with
 | none=>some il
 | some d=>match Nat.blt d E.n with
  | true=>some ((d,v) :: il)
  | false=>none
def exec {β:Type} (E:Ev) (t:Tag) (o:Oper) (cr:List Nat) (st:St) (k:List Nat->St->Option β):Option β:=
 match clOf E.c o.op with
 | .p=>pOp E.c st.env st.tb (fun v=>match putE E o.dst v st.env with
  | some il=>k cr ⟨il,st.tb,st.df⟩
  | none=>none) o.op
 | .r=>match t,rIds E.c st.env o.op with
  | .p,_=>none
  | .c,some ids=>rOp E.c st.env st.tb (fun v=>match putE E o.dst v st.env with
   | some il=>k (ids ++ cr) ⟨il,st.tb,st.df⟩
   | none=>none) o.op
  | _,some _=>rOp E.c st.env st.tb (fun v=>match putE E o.dst v st.env with
   | some il=>k cr ⟨il,st.tb,st.df⟩
   | none=>none) o.op
  | _,none=>none
 | .w=>match t,apart (wIds E.c st.env o.op) cr with
  | .w,true=>wOp E.c st.env st.tb (fun v tb=>match v with
   | some v=>match putE E o.dst v st.env with
    | some il=>k cr ⟨il,tb,st.df⟩
    | none=>none
   | none=>match o.dst with
    | none=>k cr ⟨st.env,tb,st.df⟩
    | some _=>none) o.op
  | .b,_=>wOp E.c st.env st.tb (fun v tb=>match v with
   | some v=>match putE E o.dst v st.env with
    | some il=>k [] ⟨il,tb,st.df⟩
    | none=>none
   | none=>match o.dst with
    | none=>k [] ⟨st.env,tb,st.df⟩
    | some _=>none) o.op
  | _,_=>none
 | .call=>match t with
  | .w=>cOp E st.env st.tb (fun v tb mu=>match apart mu cr,v with
   | true,some v=>match putE E o.dst v st.env with
    | some il=>k cr ⟨il,tb,st.df⟩
    | none=>none
   | _,_=>none) o.op
  | .b=>cOp E st.env st.tb (fun v tb _=>match v with
   | some v=>match putE E o.dst v st.env with
    | some il=>k [] ⟨il,tb,st.df⟩
    | none=>none
   | none=>none) o.op
  | _=>none
 | .d=>match t,o.op,o.dst with
  | .w,.defer cl,none=>match cl.callee,cl.args.toList with
   | .value x,[]=>match iopd E.c st.env x with
    | some (.fn f a cc)=>k cr ⟨st.env,st.tb,.fn f a cc :: st.df⟩
    | _=>none
   | _,_=>none
  | _,_,_=>none
def stepL {β:Type} (E:Ev) (ops:List Oper) (t:Tag) (o:Oper) (cr:List Nat) (st:St) (k:List Nat->St->Option β):Option β:=
 match o.guard with
 | none=>exec E t o cr st k
 | some (j,want)=>match (nthO ops j).bind (·.dst) with
  | none=>none
  | some dj=>match geti st.env dj with
   | some (.o (.b g))=>match g with
    | true=>match want with
     | true=>exec E t o cr ⟨(dj,.o (.b true)) :: st.env,st.tb,st.df⟩ k
     | false=>match putE E o.dst (.tu .un) ((dj,.o (.b true)) :: st.env) with
      | some il=>k cr ⟨il,st.tb,st.df⟩
      | none=>none
    | false=>match want with
     | false=>exec E t o cr ⟨(dj,.o (.b false)) :: st.env,st.tb,st.df⟩ k
     | true=>match putE E o.dst (.tu .un) ((dj,.o (.b false)) :: st.env) with
      | some il=>k cr ⟨il,st.tb,st.df⟩
      | none=>none
   | some (.tu .un)=>match putE E o.dst (.tu .un) st.env with
    | some il=>k cr ⟨il,st.tb,st.df⟩
    | none=>none
   | _=>none
def evL {β:Type} (E:Ev) (ops:List Oper) (k:St->Option β):List (Tag×Oper)->List Nat->St->Option β
 | [],_,st=>k st
 | (t,o) :: L,cr,st=>stepL E ops t o cr st (evL E ops k L)
def cutAt (i:Nat):List (Tag×Nat)->Option (List (Tag×Nat)×List (Tag×Nat))
 | []=>none
 | (t,j) :: r=>match Nat.beq i j with
  | true=>match t with
   | .w=>some ([],r)
   | _=>none
  | false=>match cutAt i r with
   | some (x,y)=>some ((t,j) :: x,y)
   | none=>none
def chg (c:Cfg) (o:Op):Bool:=match clOf c o with
 | .w=>true
 | .call=>true
 | .d=>true
 | _=>false
def preOk (c:Cfg) (d:Nat):List (Tag×Oper)->Bool
 | []=>true
 | (t,o) :: r=>(match o.dst with
  | some d'=>!(Nat.beq d' d)
  | none=>true) && (match t with
  | .w=>chg c o.op && (match o.guard with
   | none=>true
   | some _=>false)
  | _=>true) && preOk c d r
def alOp (o:Oper):Option (Nat×Nat):=match o.op,o.dst,o.guard with
 | .alloc t,some d,none=>some (t,d)
 | _,_,_=>none
def early (E:Ev) (ops:List Oper) (π:List (Tag×Nat)) (ia:Nat) (st:St):Bool:=
 match nthO ops ia,cutAt ia π with
 | some oa,some (x,y)=>match alOp oa,pick ops x with
  | some (t,d),some L=>match E.c.I t,geti st.env d with
   | some _,none=>Nat.blt d E.n && preOk E.c d L
   | _,_=>false
  | _,_=>false
 | _,_=>false
def numP (t:Ty):Nat->List (Nat×IV)->Option (List t.den)
 | _,[]=>some []
 | q,(i,u) :: r=>match Nat.beq i q,toP t u,numP t (q + 1) r with
  | true,some x,some xs=>some (x :: xs)
  | _,_,_=>none
def frV (c:Cfg) (il:IEnv):Op->Option Thing
 | .alloc t=>match c.I t with
  | some v=>some (.blk t v)
  | none=>none
 | .makeSlice ty x y=>match c.D ty with
  | some (.slice e)=>match c.E e,iopd c il x,iopd c il y with
   | some t,some (.o (.i i)),some (.o (.i j))=>match gmake t.zero i j with
    | some xs=>some (.row e t xs)
    | none=>none
   | _,_,_=>none
  | _=>none
 | .buildSlice ty len ps=>match c.D ty with
  | some (.slice e)=>match c.E e,iparts c il ps.toList with
   | some t,some vs=>match Nat.beq vs.length len,Nat.ble (len * t.size) 16777216,numP t 0 vs with
    | true,true,some xs=>some (.row e t xs)
    | _,_,_=>none
   | _,_=>none
  | _=>none
 | _=>none
def ivF (n:Nat):Thing->IV
 | .blk _ _=>.pt n []
 | _=>.rw n
abbrev Itm:=Option Tag×Nat×List Nat
def frOp (o:Oper):Option Nat:=match o.guard,o.dst with
 | none,some d=>some d
 | _,_=>none
def usesF:Op->List Operand
 | .makeSlice _ x y=>[x,y]
 | .buildSlice _ _ ps=>ps.toList.map (·.2)
 | _=>[]
def slotOf:Operand->Option Nat
 | .tmp t=>some t
 | _=>none
def noSlot (d:Nat) (l:List Operand):Bool:=l.all fun x=>match slotOf x with
 | some t=>!(Nat.beq d t)
 | none=>true
def frB (E:Ev) (il:IEnv) (ops:List Oper) (j:Nat):Bool:=match nthO ops j with
 | some o=>match frOp o,frV E.c il o.op with
  | some d,some _=>match geti il d with
   | none=>Nat.blt d E.n && noSlot d (usesF o.op)
   | some _=>false
  | _,_=>false
 | none=>false
def allB (f:Nat->Bool):List Nat->Bool
 | []=>true
 | x :: r=>f x && allB f r
theorem allB_mem {f:Nat->Bool}:∀ {l:List Nat},allB f l=true->∀ j ∈ l,f j=true
 | [],_,j,h=>by cases h
 | x :: l,h,j,hj=>by
  simp only [allB,Bool.and_eq_true] at h
  rcases List.mem_cons.1 hj with rfl | hj
  ·exact h.1
  ·exact allB_mem h.2 j hj
def noG (o:Oper):Bool:=match o.guard with
 | none=>true
 | some _=>false
def evM {β:Type} (E:Ev) (ops:List Oper) (k:St->Option β):List Itm->List Nat->St->Option β
 | [],_,st=>k st
 | (t,i,fs) :: L,cr,st=>match nthO ops i,allB (frB E st.env ops) fs with
  | some o,true=>match isNil fs || (chg E.c o.op && noG o) with
   | false=>none
   | true=>match t with
    | some t=>stepL E ops t o cr st (evM E ops k L)
    | none=>match frOp o,frV E.c st.env o.op with
     | some d,some th=>match Nat.blt d E.n with
      | true=>evM E ops k L cr ⟨(d,ivF st.tb.length th) :: st.env,st.tb ++ [th],st.df⟩
      | false=>none
     | _,_=>none
  | _,_=>none
def evR {β:Type} (E:Ev) (id:Nat) (ops:List Oper) (draw:Bool) (st:St) (k:St->Option β):Option β:=
 match draw with
 | false=>evL E ops k (allW ops) [] st
 | true=>match E.ms id with
   | some π=>evM E ops k π [] st
   | none=>match pick ops (E.ord id) with
  | some L=>match E.al id with
   | none=>evL E ops k L [] st
   | some ia=>match early E ops (E.ord id) ia st with
    | true=>evL E ops k L [] st
    | false=>none
  | none=>none
def Sx (P:Program) (ops:Array Oper):(World->Prop)->(Act->World->Prop)->List (Tag×Oper)->Act->World->Prop
 | _,K,[],a,w=>K a w
 | C,K,(.p,o) :: r,a,w=>∃ v,(∀ w,YAt P ops w o v a)∧Sx P ops C K r (a.put o.dst v) w
 | C,K,(.r,o) :: r,a,w=>∃ v,YAt P ops w o v a∧Sx P ops C K r (a.put o.dst v) w
 | C,K,(.c,o) :: r,a,w=>∃ v,(∀ w,C w->YAt P ops w o v a)∧Sx P ops C K r (a.put o.dst v) w
 | C,K,(.w,o) :: r,a,w=>opO P ops (QL K (fun _ _ _=>False) (fun _ _=>False)) o (fun a w=>∃ C':World->Prop,(∀ w,C' w->C w)∧C' w∧Sx P ops C' K r a w) a w
 | C,K,(.b,o) :: r,a,w=>opO P ops (QL K (fun _ _ _=>False) (fun _ _=>False)) o (fun a w=>∃ C':World->Prop,C' w∧Sx P ops C' K r a w) a w
def StepX (P:Program) (ops:Array Oper) (K:Act->World->Prop) (S:(World->Prop)->Act->World->Prop) (C:World->Prop):Tag->Oper->Act->World->Prop
 | .p,o,a,w=>∃ v,(∀ w,YAt P ops w o v a)∧S C (a.put o.dst v) w
 | .r,o,a,w=>∃ v,YAt P ops w o v a∧S C (a.put o.dst v) w
 | .c,o,a,w=>∃ v,(∀ w,C w->YAt P ops w o v a)∧S C (a.put o.dst v) w
 | .w,o,a,w=>opO P ops (QL K (fun _ _ _=>False) (fun _ _=>False)) o (fun a w=>∃ C':World->Prop,(∀ w,C' w->C w)∧C' w∧S C' a w) a w
 | .b,o,a,w=>opO P ops (QL K (fun _ _ _=>False) (fun _ _=>False)) o (fun a w=>∃ C':World->Prop,C' w∧S C' a w) a w
theorem StepX.sx {P:Program} {ops:Array Oper} {K:Act->World->Prop} {C:World->Prop} {t:Tag} {o:Oper} {L:List (Tag×Oper)} {a:Act} {w:World} (h:StepX P ops K (fun C a w=>Sx P ops C K L a w) C t o a w):Sx P ops C K ((t,o) :: L) a w:=by
 cases t<;>exact h
theorem stepx_value {P:Program} {K:Act->World->Prop} {S:(World->Prop)->Act->World->Prop} {a:Act} {w:World} {C:World->Prop} {ops:Array Oper} {t:Tag} {o:Oper} {v:Value} (hC:C w) (hy:∀ w,YAt P ops w o v a) (k:S C (a.put o.dst v) w):StepX P ops K S C t o a w:=by
 cases t with
 | p=>exact ⟨v,hy,k⟩
 | r=>exact ⟨v,hy w,k⟩
 | c=>exact ⟨v,fun w _=>hy w,k⟩
 | w=>exact (hy w).upon (K:=fun a w=>∃ C':World->Prop,(∀ w,C' w->C w)∧C' w∧S C' a w) ⟨C,fun _ h=>h,hC,k⟩
 | b=>exact (hy w).upon (K:=fun a w=>∃ C':World->Prop,C' w∧S C' a w) ⟨C,hC,k⟩
def SxP (P:Program) (ops:Array Oper) (K:Act->World->Prop) (oa:Oper) (post:List (Tag×Oper)):List (Tag×Oper)->(World->Prop)->Act->World->Prop
 | [],C,a,w=>Sx P ops C K ((.w,oa) :: post) a w
 | (t,o) :: r,C,a,w=>StepX P ops K (SxP P ops K oa post r) C t o a w ∧
  (t=.w->opO P ops (QL K (fun _ _ _=>False) (fun _ _=>False)) oa (fun a w=>∃ C':World->Prop,(∀ w,C' w->C w)∧C' w∧Sx P ops C' K ((t,o) :: r ++ post) a w) a w)
def SxN (P:Program) (ops:Array Oper) (K:Act->World->Prop) (L:List (Tag×Oper)) (C:World->Prop) (a:Act) (w:World):Prop:=∃ C':World->Prop,(∀ w,C' w->C w)∧C' w∧Sx P ops C' K L a w
theorem StepX.sxn {P:Program} {ops:Array Oper} {K:Act->World->Prop} {C:World->Prop} {t:Tag} {o:Oper} {L:List (Tag×Oper)} {a:Act} {w:World} (hC:C w) (h:StepX P ops K (SxN P ops K L) C t o a w):SxN P ops K ((t,o) :: L) C a w:=by
 cases t with
 | p=>obtain ⟨v,h1,C',h2,h3,h4⟩:=h;exact ⟨C',h2,h3,v,h1,h4⟩
 | r=>obtain ⟨v,h1,C',h2,h3,h4⟩:=h;exact ⟨C',h2,h3,v,h1,h4⟩
 | c=>obtain ⟨v,h1,C',h2,h3,h4⟩:=h;exact ⟨C',h2,h3,v,fun w hw=>h1 w (h2 w hw),h4⟩
 | w=>
  refine ⟨C,fun _ h=>h,hC,?_⟩
  simp only [StepX,opO] at h
  simp only [Sx,opO]
  split
  ·rename_i hw
   rw [if_pos hw] at h
   exact Oper.wp_mono (fun a w ⟨C',h1,h2,C2,h3,h4,h5⟩=>⟨C2,fun w hw=>h1 w (h3 w hw),h4,h5⟩) h
  ·rename_i hw
   rw [if_neg hw] at h
   obtain ⟨C',h1,h2,C2,h3,h4,h5⟩:=h
   exact ⟨C2,fun w hw=>h1 w (h3 w hw),h4,h5⟩
 | b=>
  refine ⟨C,fun _ h=>h,hC,?_⟩
  simp only [StepX,opO] at h
  simp only [Sx,opO]
  split
  ·rename_i hw
   rw [if_pos hw] at h
   exact Oper.wp_mono (fun a w ⟨C',h2,C2,h3,h4,h5⟩=>⟨C2,h4,h5⟩) h
  ·rename_i hw
   rw [if_neg hw] at h
   obtain ⟨C',h2,C2,h3,h4,h5⟩:=h
   exact ⟨C2,h4,h5⟩
theorem sx_plain {P:Program} {ops:Array Oper} {K:Act->World->Prop}:∀ (C:World->Prop) (l:List Oper) (a:Act) (w:World),Sx P ops C K (allW l) a w->wpList P ops (Qn K) l a w
 | _,[],_,_,h=>h
 | C,o :: l,a,w,h=>by
  simp only [allW,Sx,opO] at h
  unfold wpList
  split
  ·rename_i hw
   rw [if_pos hw] at h
   exact .inl (Oper.wp_mono (fun a w ⟨C',_,_,h⟩=>sx_plain C' l a w h) h)
  ·rename_i hw
   rw [if_neg hw] at h
   obtain ⟨C',_,_,h⟩:=h
   exact sx_plain C' l _ _ h
theorem AnyC.wide {P:Program} {ops:Array Oper} {C C':Array Bool->World->Prop} {K:Act->World->Prop} {Z:Nat->Bool} (hC:∀ L w,C' L w->C L w):∀ {fuel:Nat} {listed:Array Bool} {a:Act} {w:World},AnyC P ops C' Z K fuel listed a w->AnyC P ops C Z K fuel listed a w
 | 0,_,_,_,h=>⟨hC _ _ h.1,h.2.1,h.2.2⟩
 | _ + 1,_,_,_,h=>⟨hC _ _ h.1,h.2.1,fun i hi=>wpOp_mono (fun _ _ h=>⟨h.1,AnyC.wide hC h.2⟩) (h.2.2 i hi)⟩
theorem getD_set_up {L:Array Bool} {i k:Nat} (h:L.getD i false=true):(L.setIfInBounds k true).getD i false=true:=by
 by_cases hki:k=i
 ·subst hki
  rcases Nat.lt_or_ge k L.size with h' | h'
  ·simp [h']
  ·simp [Array.getElem?_eq_none h'] at h
 ·rw [getD_set_ne false hki];exact h
theorem AnyC.wideB {P:Program} {ops:Array Oper} {C C':Array Bool->World->Prop} {K:Act->World->Prop} {Z:Nat->Bool} {i0:Nat} (hC:∀ L w,L.getD i0 false=true->C' L w->C L w):∀ {fuel:Nat} {listed:Array Bool} {a:Act} {w:World},listed.getD i0 false=true->AnyC P ops C' Z K fuel listed a w->AnyC P ops C Z K fuel listed a w
 | 0,_,_,_,hl,h=>⟨hC _ _ hl h.1,h.2.1,h.2.2⟩
 | _ + 1,_,_,_,hl,h=>⟨hC _ _ hl h.1,h.2.1,fun i hi=>wpOp_mono (fun _ _ h=>⟨h.1,AnyC.wideB hC (getD_set_up hl) h.2⟩) (h.2.2 i hi)⟩
def CB (π:List (Tag×Nat)) (C:World->Prop) (L:Array Bool) (w:World):Prop:=(∀ i,(Tag.b,i) ∈ π->L.getD i false=false)->C w
theorem CB.cons {π:List (Tag×Nat)} {C C':World->Prop} {x:Tag×Nat} (hC:∀ w,C' w->C w):∀ L w,CB π C' L w->CB (x :: π) C L w:=fun L w h hb=>hC w (h fun i hi=>hb i (List.mem_cons_of_mem _ hi))
theorem CB.mono {π:List (Tag×Nat)} {C C':World->Prop} (hC:∀ w,C' w->C w):∀ L w,CB π C' L w->CB π C L w:=fun L w h hb=>hC w (h hb)
theorem CB.down {π:List (Tag×Nat)} {C:World->Prop} {Z:Nat->Bool} {i:Nat} (hz:Z i=true) (hZ:∀ t k,(t,k) ∈ π->t=.w∨t=.b->Z k=false):∀ L w,CB π C (L.setIfInBounds i true) w->CB π C L w:=fun L w h hb=>h fun k hk=>by
 have hne:i ≠ k:=fun e=>by
  have:=hZ .b k hk (.inr rfl)
  rw [← e,hz] at this
  cases this
 rw [getD_set_ne false hne];exact hb k hk
theorem first_c {P:Program} {K:Act->World->Prop} {l:List Oper} {Z:Nat->Bool} {π:List (Tag×Nat)} {C:World->Prop} {i:Nat} {o:Oper} {v:Value} {fuel:Nat} {listed:Array Bool} {a:Act} {w:World} (hsel:Region.noSelect l.toArray=true) (hi:l.toArray[i]? = some o) (hf:Region.free .any l.toArray listed i=true) (hz:Z i=true) (hZ:∀ t k,(t,k) ∈ (Tag.c,i) :: π->t=.w∨t=.b->Z k=false) (hB:cOkB l.toArray listed i π=true)
  (hr:i ∈ Region.ready .any l.toArray listed) (hC:C w) (hy:∀ w,C w->YAt P l.toArray w o v a) (H:AnyC P l.toArray (CB π C) Z K fuel (listed.setIfInBounds i true) (a.put o.dst v) w):AnyC P l.toArray (CB ((.c,i) :: π) C) Z K (fuel + 1) listed a w:=by
 have H':=AnyC.wide (CB.cons (x:=(.c,i)) (fun _ h=>h)) H
 simp only [cOkB,Bool.or_eq_true,Bool.and_eq_true] at hB
 rcases hB with hB | ⟨⟨hl,hl2⟩,hl3⟩
 ·refine first_op (C':=C) (D:=fun _=>False) hi (Region.noSelect_spec hsel) (fun _ _ h=>h.elim) (CB.down hz hZ) fuel listed a w (Region.free_spec hi hf) (fun _ h=>h.elim) (fun _ _ _ _ _ _ L _ w' _ _ h _=>h fun k hk=>?_) hr hC hy H'
  rcases List.mem_cons.1 hk with hk | hk
  ·cases hk
  ·have:=List.all_eq_true.1 hB _ hk
   simp at this
 ·refine first_op (C':=C) (D:=fun j=>j ∈ lateOf l.toArray i) hi (Region.noSelect_spec hsel) ?_ (CB.down hz hZ) fuel listed a w (Region.free_spec hi hf) ?_ (fun _ _ _ _ _ _ L _ w' hL _ h _=>h fun k hk=>?_) hr hC hy H'
  ·intro j oj hj hoj
   have:=List.all_eq_true.1 hl j hj
   simp only [hoj] at this
   obtain ⟨e,he,hb⟩:=Array.any_eq_true'.1 this
   simp only [Bool.and_eq_true,Bool.or_eq_true,beq_iff_eq,List.contains_iff_mem] at hb
   exact ⟨e,he,hb.1,hb.2⟩
  ·intro j hj
   have:=List.all_eq_true.1 hl2 j hj
   simpa using this
  ·rcases List.mem_cons.1 hk with hk | hk
   ·cases hk
   ·have:=List.all_eq_true.1 hl3 _ hk
    simp at this
    exact hL k this
theorem any_of_sx {P:Program} {K:Act->World->Prop} {l:List Oper} {Z:Nat->Bool} (hsel:Region.noSelect l.toArray=true):∀ (π:List (Tag×Nat)) (C:World->Prop) (L:List (Tag×Oper)) (listed:Array Bool) (a:Act) (w:World),pick l π=some L->(∀ t i,(t,i) ∈ π->t=.w∨t=.b->Z i=false) ->
  okOrd l.toArray Z π listed=true->C w->Sx P l.toArray C K L a w->AnyC P l.toArray (CB π C) Z K π.length listed a w
 | [],C,L,listed,a,w,hp,_,hB,hC,h=>by
  simp only [pick,Option.some.injEq] at hp
  subst hp
  exact ⟨fun _=>hC,by simpa [okOrd] using hB,h⟩
 | (t,i) :: π,C,L,listed,a,w,hp,hZ,hB,hC,h=>by
  simp only [pick] at hp
  split at hp
  case h_2=>cases hp
  rename_i o os ho hos
  simp only [Option.some.injEq] at hp
  subst hp
  have hi:l.toArray[i]? = some o:=by rw [← nthO_eq];exact ho
  simp only [okOrd,Bool.and_eq_true] at hB
  obtain ⟨⟨hr,ht⟩,hB'⟩:=hB
  have hr':i ∈ Region.ready .any l.toArray listed:=by simpa using hr
  have hZ':∀ t i,(t,i) ∈ π->t=.w∨t=.b->Z i=false:=fun t i hm=>hZ t i (List.mem_cons_of_mem _ hm)
  cases t with
  | w=>
   simp only [Sx,opO] at h
   refine ⟨fun _=>hC,fun h0=>(by rw [h0] at hr';cases hr'),fun j hj=>?_⟩
   have hlen:(Region.ready .any l.toArray listed).length=1:=by simpa using ht
   obtain ⟨x,hx⟩:=List.length_eq_one_iff.1 hlen
   rw [hx] at hr' hj
   have hji:j=i:=by simp at hr' hj;omega
   subst hji
   have hzf:Z j=false:=hZ .w j (List.mem_cons_self ..) (.inl rfl)
   unfold wpOp
   simp only [hi]
   split
   ·rename_i hw
    rw [if_pos hw] at h
    exact .inl (Oper.wp_mono (fun a' w' ⟨C',h1,h2,h3⟩=>⟨fun e=>by simp [hzf] at e,AnyC.wide (CB.cons h1) (any_of_sx hsel π C' os _ a' w' hos hZ' hB' h2 h3)⟩) h)
   ·rename_i hw
    rw [if_neg hw] at h
    obtain ⟨C',h1,h2,h3⟩:=h
    exact ⟨fun e=>by simp [hzf] at e,AnyC.wide (CB.cons h1) (any_of_sx hsel π C' os _ _ _ hos hZ' hB' h2 h3)⟩
  | b=>
   simp only [Sx,opO] at h
   refine ⟨fun _=>hC,fun h0=>(by rw [h0] at hr';cases hr'),fun j hj=>?_⟩
   have hlen:(Region.ready .any l.toArray listed).length=1:=by simpa using ht
   obtain ⟨x,hx⟩:=List.length_eq_one_iff.1 hlen
   rw [hx] at hr' hj
   have hji:j=i:=by simp at hr' hj;omega
   subst hji
   have hzf:Z j=false:=hZ .b j (List.mem_cons_self ..) (.inr rfl)
   have hset:(listed.setIfInBounds j true).getD j false=true:=by
    have hun:=(mem_ready.1 (hx ▸ hr')).1
    rcases Nat.lt_or_ge j listed.size with h' | h'
    ·simp [h']
    ·simp [Array.getElem?_eq_none h'] at hun
   have hup:∀ {C':World->Prop} (L:Array Bool) (w:World),L.getD j false=true->CB π C' L w->CB ((.b,j) :: π) C L w:=fun L w hl _ hb=>by
    have:=hb j (List.mem_cons_self ..)
    rw [hl] at this
    cases this
   unfold wpOp
   simp only [hi]
   split
   ·rename_i hw
    rw [if_pos hw] at h
    exact .inl (Oper.wp_mono (fun a' w' ⟨C',h2,h3⟩=>⟨fun e=>by simp [hzf] at e,AnyC.wideB hup hset (any_of_sx hsel π C' os _ a' w' hos hZ' hB' h2 h3)⟩) h)
   ·rename_i hw
    rw [if_neg hw] at h
    obtain ⟨C',h2,h3⟩:=h
    exact ⟨fun e=>by simp [hzf] at e,AnyC.wideB hup hset (any_of_sx hsel π C' os _ _ _ hos hZ' hB' h2 h3)⟩
  | p=>
   simp only [Sx] at h
   obtain ⟨v,hy,h⟩:=h
   simp only [Bool.and_eq_true] at ht
   exact first_op (C':=fun _=>True) (D:=fun _=>False) hi (Region.noSelect_spec hsel) (fun _ _ h=>h.elim) (CB.down ht.2 hZ) π.length listed a w (Region.free_spec hi ht.1) (fun _ h=>h.elim) (fun _ _ _ _ _ _ _ _ _ _ _ _ _=>trivial) hr' trivial (fun w _=>hy w)
    (AnyC.wide (CB.cons (fun _ h=>h)) (any_of_sx hsel π C os _ _ _ hos hZ' hB' hC h))
  | c=>
   simp only [Sx] at h
   obtain ⟨v,hy,h⟩:=h
   simp only [Bool.and_eq_true] at ht
   exact first_c hsel hi ht.1.1 ht.1.2 hZ ht.2 hr' hC hy (any_of_sx hsel π C os _ _ _ hos hZ' hB' hC h)
  | r=>
   simp only [Sx] at h
   obtain ⟨v,hy,h⟩:=h
   simp only [Bool.and_eq_true] at ht
   obtain ⟨⟨⟨⟨hf,hz⟩,hl⟩,hl2⟩,hl3⟩:=ht
   refine first_op (C':=fun w'=>w'=w) (D:=fun j=>j ∈ lateOf l.toArray i) hi (Region.noSelect_spec hsel) ?_ (CB.down hz hZ) π.length listed a w (Region.free_spec hi hf) ?_ ?_ hr' rfl (fun w' e=>by rw [e];exact hy)
    (AnyC.wide (CB.cons (fun _ h=>h)) (any_of_sx hsel π C os _ _ _ hos hZ' hB' hC h))
   ·intro j oj hj hoj
    have:=List.all_eq_true.1 hl j hj
    simp only [hoj] at this
    obtain ⟨e,he,hb⟩:=Array.any_eq_true'.1 this
    simp only [Bool.and_eq_true,Bool.or_eq_true,beq_iff_eq,List.contains_iff_mem] at hb
    exact ⟨e,he,hb.1,hb.2⟩
   ·intro j hj
    have:=List.all_eq_true.1 hl2 j hj
    simpa using this
   ·intro j oj hoj hji hjD hun _ w1 w2 _ hz12 _ e
    have:=List.all_eq_true.1 hl3 j (List.mem_range.2 (Array.getElem?_eq_some_iff.1 hoj).1)
    simp only [Bool.or_eq_true,beq_iff_eq,List.contains_iff_mem,hji,hjD,hun,Bool.false_eq_true,false_or] at this
    rw [hz12 this,e]
def okP (ops:Array Oper) (Z:Nat->Bool) (ia:Nat) (post:List (Tag×Nat)):List (Tag×Nat)->Array Bool->Bool
 | [],listed=>okOrd ops Z ((.w,ia) :: post) listed
 | (t,i) :: r,listed=>
  (Region.ready .any ops listed).contains i &&
  (match t with
     | .w=>(Region.ready .any ops listed).all (fun j=>j == i || j == ia) && okOrd ops Z ((t,i) :: r ++ post) (listed.setIfInBounds ia true)
     | .c=>Region.free .any ops listed i && Z i && cOkB ops listed i (r ++ post)
     | .p=>Region.free .any ops listed i && Z i
     | .b=>false
     | .r=>false) &&
  okP ops Z ia post r (listed.setIfInBounds i true)
theorem pick_app {l:List Oper}:∀ {x y:List (Tag×Nat)} {X Y:List (Tag×Oper)},pick l x=some X->pick l y=some Y->pick l (x ++ y)=some (X ++ Y)
 | [],y,X,Y,h1,h2=>by simp only [pick,Option.some.injEq] at h1;subst h1;exact h2
 | (t,i) :: x,y,X,Y,h1,h2=>by
  simp only [pick] at h1
  split at h1
  case h_2=>cases h1
  rename_i o os ho hos
  cases h1
  simp only [List.cons_append,pick,ho,pick_app hos h2]
theorem any_of_sxp {P:Program} {K:Act->World->Prop} {l:List Oper} {Z:Nat->Bool} {ia:Nat} {oa:Oper} (hsel:Region.noSelect l.toArray=true) (hia:nthO l ia=some oa) (hza:Z ia=false) {post:List (Tag×Nat)} {Lp:List (Tag×Oper)} (hpost:pick l post=some Lp):∀ (π:List (Tag×Nat)) (C:World->Prop) (L:List (Tag×Oper)) (listed:Array Bool) (a:Act) (w:World),pick l π=some L->(∀ t i,(t,i) ∈ π ++ post->t=.w∨t=.b->Z i=false) ->
  okP l.toArray Z ia post π listed=true->C w->SxP P l.toArray K oa Lp L C a w->AnyC P l.toArray (CB (π ++ post) C) Z K (π.length + 1 + post.length) listed a w
 | [],C,L,listed,a,w,hp,hZ,hB,hC,h=>by
  simp only [pick,Option.some.injEq] at hp
  subst hp
  have:=any_of_sx hsel ((.w,ia) :: post) C ((.w,oa) :: Lp) listed a w (by simp [pick,hia,hpost]) (fun t i hm ht=>by
   rcases List.mem_cons.1 hm with hm | hm
   ·cases hm;exact hza
   ·exact hZ t i (by simpa using hm) ht) hB hC h
  have:=AnyC.wide (C:=CB ([] ++ post) C) (fun L w h hb=>h fun i hi=>by
   rcases List.mem_cons.1 hi with hi | hi
   ·cases hi
   ·exact hb i (by simpa using hi)) this
  simpa [Nat.add_comm] using this
 | (t,i) :: π,C,L,listed,a,w,hp,hZ,hB,hC,h=>by
  simp only [pick] at hp
  split at hp
  case h_2=>cases hp
  rename_i o os ho hos
  simp only [Option.some.injEq] at hp
  subst hp
  have hi:l.toArray[i]? = some o:=by rw [← nthO_eq];exact ho
  have hia':l.toArray[ia]? = some oa:=by rw [← nthO_eq];exact hia
  simp only [okP,Bool.and_eq_true] at hB
  obtain ⟨⟨hr,ht⟩,hB'⟩:=hB
  have hr':i ∈ Region.ready .any l.toArray listed:=by simpa using hr
  have hZ':∀ t i,(t,i) ∈ π ++ post->t=.w∨t=.b->Z i=false:=fun t i hm=>hZ t i (List.mem_cons_of_mem _ hm)
  have ih:=any_of_sxp (P:=P) (K:=K) hsel hia hza hpost π
  obtain ⟨h,halt⟩:=h
  have hlen:((t,i) :: π).length + 1 + post.length=(π.length + 1 + post.length) + 1:=by simp;omega
  rw [hlen]
  cases t with
  | w=>
   simp only [StepX,opO] at h
   have halt:=halt rfl
   simp only [opO] at halt
   simp only [Bool.and_eq_true] at ht
   refine ⟨fun _=>hC,fun h0=>(by rw [h0] at hr';cases hr'),fun j hj=>?_⟩
   have hj2:=List.all_eq_true.1 ht.1 j hj
   simp only [Bool.or_eq_true,beq_iff_eq] at hj2
   by_cases hji:j=i
   ·subst hji
    have hzf:Z j=false:=hZ .w j (List.mem_cons_self ..) (.inl rfl)
    unfold wpOp
    simp only [hi]
    split
    ·rename_i hw
     rw [if_pos hw] at h
     exact .inl (Oper.wp_mono (fun a' w' ⟨C',h1,h2,h3⟩=>⟨fun e=>by simp [hzf] at e,AnyC.wide (CB.cons h1) (ih C' os _ a' w' hos hZ' hB' h2 h3)⟩) h)
    ·rename_i hw
     rw [if_neg hw] at h
     obtain ⟨C',h1,h2,h3⟩:=h
     exact ⟨fun e=>by simp [hzf] at e,AnyC.wide (CB.cons h1) (ih C' os _ _ _ hos hZ' hB' h2 h3)⟩
   ·have hja:j=ia:=by rcases hj2 with h' | h';exact absurd h' hji;exact h'
    subst hja
    have go:∀ C' a' w',C' w'->Sx P l.toArray C' K ((.w,o) :: os ++ Lp) a' w'->AnyC P l.toArray (CB ((.w,i) :: π ++ post) C') Z K (π.length + 1 + post.length) (listed.setIfInBounds j true) a' w':=fun C' a' w' h2 h3=>by
     have:=any_of_sx hsel ((.w,i) :: π ++ post) C' ((.w,o) :: os ++ Lp) (listed.setIfInBounds j true) a' w' (pick_app (x:=(.w,i) :: π) (X:=(.w,o) :: os) (by simp [pick,ho,hos]) hpost) (fun t k hm ht=>hZ t k (by simpa using hm) ht) ht.2 h2 h3
     have e:((Tag.w,i) :: π ++ post).length=π.length + 1 + post.length:=by simp;omega
     rw [e] at this
     exact this
    unfold wpOp
    simp only [hia']
    split
    ·rename_i hw
     rw [if_pos hw] at halt
     exact .inl (Oper.wp_mono (fun a' w' ⟨C',h1,h2,h3⟩=>⟨fun e=>by simp [hza] at e,AnyC.wide (CB.mono h1) (go C' a' w' h2 h3)⟩) halt)
    ·rename_i hw
     rw [if_neg hw] at halt
     obtain ⟨C',h1,h2,h3⟩:=halt
     exact ⟨fun e=>by simp [hza] at e,AnyC.wide (CB.mono h1) (go C' _ _ h2 h3)⟩
  | p=>
   obtain ⟨v,hy,h⟩:=h
   simp only [Bool.and_eq_true] at ht
   exact first_op (C':=fun _=>True) (D:=fun _=>False) hi (Region.noSelect_spec hsel) (fun _ _ h=>h.elim) (CB.down ht.2 hZ) _ listed a w (Region.free_spec hi ht.1) (fun _ h=>h.elim) (fun _ _ _ _ _ _ _ _ _ _ _ _ _=>trivial) hr' trivial (fun w _=>hy w)
    (AnyC.wide (CB.cons (fun _ h=>h)) (ih C os _ _ _ hos hZ' hB' hC h))
  | c=>
   obtain ⟨v,hy,h⟩:=h
   simp only [Bool.and_eq_true] at ht
   exact first_c hsel hi ht.1.1 ht.1.2 hZ ht.2 hr' hC hy (ih C os _ _ _ hos hZ' hB' hC h)
  | b=>cases ht
  | r=>cases ht
def okAllP (l:List Oper) (ia:Nat) (x y:List (Tag×Nat)):Bool:=
 Region.noSelect l.toArray && (x.length + 1 + y.length == l.length) && okP l.toArray (fun j=>!isW (x ++ (.w,ia) :: y) j) ia y x (Array.replicate l.length false)
theorem isW_app {t0:Tag} (h0:t0=.w∨t0=.b) {x y:List (Tag×Nat)} {i j:Nat} (h:(t0,i) ∈ x ++ y):isW (x ++ (.w,j) :: y) i=true:=by
 refine isW_of h0 _ _ ?_
 rcases List.mem_append.1 h with h | h
 ·exact List.mem_append_left _ h
 ·exact List.mem_append_right _ (List.mem_cons_of_mem _ h)
theorem a_drawP {P:Program} {K:Act->World->Prop} {l:List Oper} (x y:List (Tag×Nat)) {ia:Nat} {oa:Oper} {Lx Ly:List (Tag×Oper)} {a:Act} {w:World} (C:World->Prop) (hB:okAllP l ia x y=true)
  (hia:nthO l ia=some oa) (hx:pick l x=some Lx) (hy:pick l y=some Ly) (hC:C { w with drawn:=w.drawn + 1 }) (h:SxP P l.toArray K oa Ly Lx C a { w with drawn:=w.drawn + 1 }):wpAny P .any l.toArray (Qn K) l.toArray.size (Array.replicate l.toArray.size false) a { w with drawn:=w.drawn + 1 }:=by
 simp only [okAllP,Bool.and_eq_true,beq_iff_eq] at hB
 obtain ⟨⟨hs,hl⟩,ho⟩:=hB
 have hza:(fun j=>!isW (x ++ (.w,ia) :: y) j) ia=false:=by
  have:isW (x ++ (.w,ia) :: y) ia=true:=isW_of (.inl rfl) _ _ (List.mem_append_right _ (List.mem_cons_self ..))
  simp [this]
 have:=(any_of_sxp hs hia hza hy x C Lx _ a _ hx (fun t i hm ht=>by simp [isW_app ht hm]) ho hC h).any
 rw [hl] at this
 simpa using this
theorem a_drawX {P:Program} {K:Act->World->Prop} {l:List Oper} (π:List (Tag×Nat)) {L:List (Tag×Oper)} {a:Act} {w:World} (C:World->Prop) (hB:okAll l π=true)
  (hp:pick l π=some L) (hC:C { w with drawn:=w.drawn + 1 }) (h:Sx P l.toArray C K L a { w with drawn:=w.drawn + 1 }):wpAny P .any l.toArray (Qn K) l.toArray.size (Array.replicate l.toArray.size false) a { w with drawn:=w.drawn + 1 }:=by
 simp only [okAll,Bool.and_eq_true,beq_iff_eq] at hB
 obtain ⟨⟨hs,hl⟩,ho⟩:=hB
 have:=(any_of_sx hs π C L _ a _ hp (fun t i hm ht=>by simp [isW_of ht π i hm]) ho hC h).any
 rw [hl] at this
 simpa using this
section
variable {P:Program}
def CtsOk (P:Program) (E:Ev):Prop:=(∀ f ct,ct ∈ E.ct f->Sound P E.c f ct∧∃ fn,P.funcs[f]? = some fn∧fn.body.isSome=true∧(fn.name == "runtime.NumGoroutine")=false) ∧
 ∀ f ct,ct ∈ E.cd f->SoundK P E.c true f ct∧∃ fn,P.funcs[f]? = some fn∧fn.body.isSome=true∧(fn.name == "runtime.NumGoroutine")=false
def FS (n:Nat) (a:Act) (st:St) (O:Own) (ρ:List Hd):Prop:=FI n a st.env O ρ∧DR O ρ st.df a.defers
def Cls (CR:List Nat) (O:Own) (w w':World):Prop:=Kept (fun b=>O b=.no∨∃ id,id ∉ CR∧O b=.th id) w w'
structure Stq (M:Nat->Prop) (O:Own) (ρ:List Hd) (w:World) (O':Own) (ρ':List Hd) (w':World):Prop where
 pre:Pre ρ ρ'
 im:O.le O'
 own:∀ b id,b < w.heap.size->O b=.th id->¬ M id->O' b=.th id
 kept:Kept (fun b=>O b=.no∨∃ id,M id∧O b=.th id) w w'
theorem Stp.q {M:Nat->Prop} {O O':Own} {ρ ρ':List Hd} {w w':World} (h:Stp M O ρ w O' ρ' w'):Stq M O ρ w O' ρ' w':=
 ⟨h.pre,h.im,h.own,h.kept.wide (fun _ e=>.inr e)⟩
theorem Stq.refl (M:Nat->Prop) (O:Own) (ρ:List Hd) (w:World):Stq M O ρ w O ρ w:=(Stp.refl M O ρ w).q
theorem Stq.weak {M M':Nat->Prop} (hM:∀ i,M i->M' i) {O O':Own} {ρ ρ':List Hd} {w w':World} (h:Stq M O ρ w O' ρ' w'):Stq M' O ρ w O' ρ' w':=
 ⟨h.pre,h.im,fun b id hb e hn=>h.own b id hb e (fun m=>hn (hM id m)),h.kept.wide (fun b e=>e.imp (fun h=>h) (fun ⟨id,m,e⟩=>⟨id,hM id m,e⟩))⟩
theorem Stq.trans {M:Nat->Prop} {O O' O'':Own} {ρ ρ' ρ'':List Hd} {w w' w'':World} (h:Stq M O ρ w O' ρ' w') (k:Stq M O' ρ' w' O'' ρ'' w''):Stq M O ρ w O'' ρ'' w'':=by
 refine ⟨h.pre.trans k.pre,h.im.trans k.im,fun b id hb e hM=>k.own b id (Nat.lt_of_lt_of_le hb h.kept.size) (h.own b id hb e hM) hM,?_⟩
 refine h.kept.trans k.kept fun b hb hn=>?_
 cases e0:O b with
 | no=>exact .inl rfl
 | im all=>
  have:=h.im b all e0
  rcases hn with hn | ⟨id,_,hn⟩<;>(rw [this] at hn;cases hn)
 | th j=>
  by_cases hj:M j
  ·exact .inr ⟨j,hj,rfl⟩
  ·have:=h.own b j hb e0 hj
   rcases hn with hn | ⟨id,hM,hn⟩
   ·rw [this] at hn;cases hn
   ·rw [this] at hn;cases hn;exact absurd hM hj
variable {E:Ev} {ops:List Oper} {K:Act->World->Prop}
theorem putE_ok {d:Option Nat} {v:IV} {il il':IEnv} {O:Own} {ρ:List Hd} {a:Act} {x:SV} (e:putE E d v il=some il') (h:FI E.n a il O ρ) (hv:SR O ρ v x):FI E.n (a.put d x.val) il' O ρ:=by
 unfold putE at e
 split at e
 ·cases e;exact h
 ·split at e
  ·rename_i hd;cases e;exact h.put hd hv
  ·cases e
theorem putE_undef {d:Option Nat} {il il':IEnv} {O:Own} {ρ:List Hd} {a:Act} (e:putE E d (.tu .un) il=some il') (h:FI E.n a il O ρ):FI E.n (a.put d undef) il' O ρ:=
 putE_ok (x:=.t []) e h ⟨[],rfl,rfl⟩
theorem pickCt_mem {vs:List IV} {tb:Tbl}:∀ {l:List Ct} {ct:Ct},pickCt vs tb l=some ct->ct ∈ l
 | [],ct,h=>by simp [pickCt] at h
 | [x],ct,h=>by simp [pickCt] at h;simp [h]
 | x :: y :: r,ct,h=>by
  simp only [pickCt] at h
  split at h
  ·cases h;simp
  ·exact List.mem_cons_of_mem _ (pickCt_mem (l:=y :: r) h)
theorem unch_ok {O:Own} {ρ:List Hd}:∀ {v:IV} {l:List IV} {xs:List Value},unch v=some l->R O ρ true v xs->∃ cs,RL O ρ l cs∧xs=vals l cs:=by
 intro v
 induction v with
 | un=>intro l xs e h;simp only [unch,Option.some.injEq] at e;subst e;simp only [R] at h;subst h;exact ⟨[],rfl,rfl⟩
 | pr a b iha ihb=>
  intro l xs e h
  simp only [unch] at e
  split at e<;>first | (cases e;done) | skip
  rename_i l' hl
  cases e
  obtain ⟨x,r,rfl,h2,h3⟩:=h
  obtain ⟨cs,h4,rfl⟩:=ihb hl h3
  cases hg:a.agg with
  | true=>
   rw [hg] at h2
   obtain ⟨c0,rfl,h2⟩:=h2
   exact ⟨c0 :: cs,⟨c0,cs,rfl,h2,h4⟩,by simp [vals,hg]⟩
  | false=>
   rw [hg] at h2
   exact ⟨[x] :: cs,⟨[x],cs,rfl,h2,h4⟩,by simp [vals,hg]⟩
 | _=>intro l xs e;simp [unch] at e
theorem iopds_ok {c:Cfg} {n:Nat} {a:Act} {l:Env} {il:IEnv} {O:Own} {ρ:List Hd} (hF:Fr n a l) (hE:ER O ρ il l) (hG:GO c O):∀ {xs:List Operand} {vs:List IV},iopds c il xs=some vs->∃ cs,RL O ρ vs cs∧xs.map a.eval=vals vs cs
 | [],vs,e=>by simp only [iopds,Option.some.injEq] at e;subst e;exact ⟨[],rfl,rfl⟩
 | x :: xs,vs,e=>by
  simp only [iopds] at e
  split at e<;>first | (cases e;done) | skip
  rename_i v vs' hn hx hxs
  cases e
  obtain ⟨cs,h1,h2,h3,h4⟩:=iopd_cells hF hE hG hx (fun ch e=>hn ch (by rw [e]))
  obtain ⟨ds,h5,h6⟩:=iopds_ok hF hE hG hxs
  refine ⟨cs :: ds,⟨cs,ds,rfl,h2,h5⟩,?_⟩
  simp only [List.map_cons,vals,h6]
  cases hg:v.agg with
  | true=>rw [h3 hg];rfl
  | false=>rw [h4 hg];simp
theorem RL.append {O:Own} {ρ:List Hd}:∀ {vs us:List IV} {cs ds:List (List Value)},RL O ρ vs cs->RL O ρ us ds->RL O ρ (vs ++ us) (cs ++ ds)∧vals (vs ++ us) (cs ++ ds)=vals vs cs ++ vals us ds
 | [],us,cs,ds,h,k=>by simp only [RL] at h;subst h;exact ⟨k,rfl⟩
 | v :: vs,us,cs,ds,h,k=>by
  obtain ⟨c0,r,rfl,h1,h2⟩:=h
  obtain ⟨h3,h4⟩:=RL.append h2 k
  exact ⟨⟨c0,r ++ ds,rfl,h1,h3⟩,by simp [vals,h4]⟩
theorem cOp_ok {β:Type} {a:Act} {l:Env} {il:IEnv} {O:Own} {ρ:List Hd} {tb:Tbl} {w:World} {o:Oper} {k:Option IV->Tbl->List Nat->Option β} {r:β} (hct:CtsOk P E) (hF:Fr E.n a l) (hE:ER O ρ il l) (hG:GO E.c O) (hM:Gm O ρ tb w) (e:cOp E il tb k o.op=some r) :
  ∃ f xs,(execOp a.eval o).run P w=.ok (.enter f xs) w∧∃ v tb' mu,k (some v) tb' mu=some r∧Calls P f xs w (Ret fun x w'=>∃ O' ρ' sv,x=sv.val∧SR O' ρ' v sv∧Gm O' ρ' tb' w'∧Stp (· ∈ mu) O ρ w O' ρ' w'):=by
 cases ho:o.op<;>rw [ho] at e<;>simp only [cOp] at e<;>first | (cases e;done) | skip
 rename_i cl
 obtain ⟨callee,args,ats⟩:=cl
 simp only at e
 split at e<;>first | (cases e;done) | skip
 rename_i x
 split at e<;>first | (cases e;done) | skip
 rename_i f av cv hx
 split at e<;>first | (cases e;done) | skip
 rename_i l1 l2 l3 h1 h2 h3
 split at e<;>first | (cases e;done) | skip
 rename_i ct hp
 obtain ⟨hS,fn,hf,hb,hnm⟩:=hct.1 f ct (pickCt_mem hp)
 obtain ⟨u,hu,⟨xs,ys,hcs,hxs,hys⟩,_⟩:=iopd_1 hE hG hx rfl (by simp) hF
 cases hcs
 obtain ⟨c1,r1,rfl⟩:=unch_ok h1 hxs
 obtain ⟨c2,r2,e2⟩:=iopds_ok hF hE hG h2
 obtain ⟨c3,r3,rfl⟩:=unch_ok h3 hys
 obtain ⟨r23,v23⟩:=RL.append r2 r3
 obtain ⟨rall,vall⟩:=RL.append r1 r23
 obtain ⟨v,tb',mu,hk,hcall⟩:=callF_ok hS e hG hM rall
 rw [vall,v23] at hcall
 refine ⟨f,_,?_,v,tb',mu,hk,hcall⟩
 have hnm':¬ fn.name = "runtime.NumGoroutine" := by simpa using hnm
 have hb':¬ fn.body=none:=by intro e;simp [e] at hb
 have hargs:args.map a.eval=(vals l2 c2).toArray:=by
  rw [← e2,← Array.toList_map]
 simp only [execOp,ho,resolve,hu,Deferred.ofValue,hargs]
 simp [invoke,callFunc,hf,hnm',hb']
theorem want_none {o:Oper} {a:Act} (h:o.guard=none):Region.wanted o (yielded ops.toArray a.tmps)=true:=by simp [Region.wanted,h]
theorem Sm.of_cls {CR ids:List Nat} {O:Own} {ρ:List Hd} {tb:Tbl} {w w':World} (hM:Gm O ρ tb w) (h:Cls CR O w w') (hi:∀ i,i ∈ ids->i ∈ CR):Sm ids O w w':=by
 intro b hb
 have hlow:O b ≠ .no->b < w.heap.size:=fun h=>by
  rcases Nat.lt_or_ge b w.heap.size with h' | h'
  ·exact h'
  ·exact absurd (hM.lt b h') h
 rcases hb with ⟨id,h1,h2⟩ | ⟨all,h2⟩
 ·refine h.block b (hlow (by rw [h2];simp)) (fun hn=>?_)
  rcases hn with e | ⟨j,hj,e⟩
  ·rw [h2] at e;cases e
  ·rw [h2] at e;cases e;exact hj (hi id h1)
 ·refine h.block b (hlow (by rw [h2];simp)) (fun hn=>?_)
  rcases hn with e | ⟨j,hj,e⟩<;>(rw [h2] at e;cases e)
theorem exec_ok {β:Type} {t:Tag} {o:Oper} {cr:List Nat} {st:St} {k:List Nat->St->Option β} {r:β} {a:Act} {O O0:Own} {ρ ρ0:List Hd} {w w0:World} {S:(World->Prop)->Act->World->Prop} {Inv:Array Value->IEnv->Prop} {Cp:World->Prop} (hc:COk P E.c) (hct:CtsOk P E) (hG:GO E.c O) (e:exec E t o cr st k=some r)
  (hF:FS E.n a st O ρ) (hM:Gm O ρ st.tb w) (hw:Region.wanted o (yielded ops.toArray a.tmps)=true) (hst:∀ O' ρ' w',Stq (· ∉ cr) O ρ w O' ρ' w'->Cp w') (hS:Stp (fun _=>True) O0 ρ0 w0 O ρ w)
  (hI:Inv a.tmps st.env) (hIp:∀ (x:Value) v il',putE E o.dst v st.env=some il'->Inv (a.put o.dst x).tmps il')
  (next:∀ (Cp':World->Prop) cr' st' a' w' O' ρ',k cr' st'=some r->FS E.n a' st' O' ρ'->Gm O' ρ' st'.tb w'->GO E.c O'->(∀ O'' ρ'' w'',Stq (· ∉ cr') O' ρ' w' O'' ρ'' w''->Cp' w'')->Stp (fun _=>True) O0 ρ0 w0 O' ρ' w'->Inv a'.tmps st'.env ->
   ∃ CR,(∀ i,i ∈ cr'->i ∈ CR)∧S (fun w''=>Cp' w''∧Cls CR O' w' w'') a' w') :
  ∃ CR,(∀ i,i ∈ cr->i ∈ CR)∧(chg E.c o.op=true->CR=cr)∧StepX P ops.toArray K S (fun w'=>Cp w'∧Cls CR O w w') t o a w:=by
 obtain ⟨⟨l,hl,hER⟩,hD⟩:=hF
 have hae:({ a with defers:=[] }:Act).eval=a.eval:=rfl
 have clsw:∀ CR,Cp w∧Cls CR O w w:=fun CR=>⟨hst _ _ _ (.refl _ _ _ _),Kept.refl _ _⟩
 have after:∀ {M:Nat->Prop} {st':St} {a':Act} {w':World} {O':Own} {ρ':List Hd},Stp M O ρ w O' ρ' w'->(∀ i,M i->i ∉ cr)->k cr st'=some r->FS E.n a' st' O' ρ'->Gm O' ρ' st'.tb w'->Inv a'.tmps st'.env ->
   ∃ C':World->Prop,(∀ w'',C' w''->Cp w''∧Cls cr O w w'')∧C' w'∧S C' a' w':=by
  intro M st' a' w' O' ρ' hS' hMc hk ⟨hF',hD'⟩ hM' hI'
  have hS2:Stp (· ∉ cr) O ρ w O' ρ' w':=hS'.weak hMc
  obtain ⟨CR,h1,h3⟩:=next (fun w''=>Cp w''∧Cls cr O w w'') cr st' a' w' O' ρ' hk ⟨hF',hD'⟩ hM' (hG.mono hS'.im) (fun O'' ρ'' w'' h=>⟨hst _ _ _ (hS2.q.trans h),(hS2.q.trans h).kept⟩) (hS.trans (hS'.weak (fun _ _=>trivial))) hI'
  exact ⟨_,fun w'' h=>h.1,⟨⟨hst _ _ _ hS2.q,hS2.q.kept⟩,Kept.refl _ _⟩,h3⟩
 have afterB:∀ {M:Nat->Prop} {st':St} {a':Act} {w':World} {O':Own} {ρ':List Hd},Stp M O ρ w O' ρ' w'->k [] st'=some r->FS E.n a' st' O' ρ'->Gm O' ρ' st'.tb w'->Inv a'.tmps st'.env ->
   ∃ C':World->Prop,C' w'∧S C' a' w':=by
  intro M st' a' w' O' ρ' hS' hk hF' hM' hI'
  obtain ⟨CR,h1,h3⟩:=next (fun _=>True) [] st' a' w' O' ρ' hk hF' hM' (hG.mono hS'.im) (fun O'' ρ'' w'' h=>trivial) (hS.trans (hS'.weak (fun _ _=>trivial))) hI'
  exact ⟨_,⟨trivial,Kept.refl _ _⟩,h3⟩
 unfold exec at e
 split at e
 ·
  rename_i hcl
  obtain ⟨v,x,hv,hr,hk⟩:=pOp_ok hc hl hER hG hM e
  rw [hae] at hr
  try dsimp only at hk
  split at hk<;>first | (cases hk;done) | skip
  rename_i il' hil
  obtain ⟨CR,h1,h3⟩:=next Cp cr ⟨il',st.tb,st.df⟩ (a.put o.dst x.val) w O ρ hk ⟨putE_ok hil ⟨l,hl,hER⟩ hv,by rw [put_defers];exact hD⟩ hM hG hst hS (hIp x.val v il' hil)
  exact ⟨CR,h1,fun hc=>by simp [chg,hcl] at hc,stepx_value (clsw CR) (fun w=>YAt.mk hw (hr w)) h3⟩
 ·
  rename_i hcl
  split at e<;>first | (cases e;done) | skip
  ·rename_i ids hids
   obtain ⟨v,x,hv,hr,hk⟩:=rOp_ok hc hl hER hG hM e hids
   rw [hae] at hr
   try dsimp only at hk
   split at hk<;>first | (cases hk;done) | skip
   rename_i il' hil
   obtain ⟨CR,h1,h3⟩:=next Cp (ids ++ cr) ⟨il',st.tb,st.df⟩ (a.put o.dst x.val) w O ρ hk ⟨putE_ok hil ⟨l,hl,hER⟩ hv,by rw [put_defers];exact hD⟩ hM hG (fun O' ρ' w' h=>hst O' ρ' w' (h.weak (fun i hi hc=>hi (List.mem_append_right _ hc)))) hS (hIp x.val v il' hil)
   refine ⟨CR,fun i hi=>h1 i (List.mem_append_right _ hi),fun hc=>by simp [chg,hcl] at hc,x.val,fun w' hw'=>YAt.mk hw (hr w' (Sm.of_cls hM hw'.2 (fun i hi=>h1 i (List.mem_append_left _ hi)))),h3⟩
  ·rename_i tg _ _ ids hnp hnc hids
   obtain ⟨v,x,hv,hr,hk⟩:=rOp_ok hc hl hER hG hM e hids
   rw [hae] at hr
   try dsimp only at hk
   split at hk<;>first | (cases hk;done) | skip
   rename_i il' hil
   obtain ⟨CR,h1,h3⟩:=next Cp cr ⟨il',st.tb,st.df⟩ (a.put o.dst x.val) w O ρ hk ⟨putE_ok hil ⟨l,hl,hER⟩ hv,by rw [put_defers];exact hD⟩ hM hG hst hS (hIp x.val v il' hil)
   have hy:=YAt.mk (v:=x.val) hw (hr w (Sm.refl _ _ _))
   refine ⟨CR,h1,fun hc=>by simp [chg,hcl] at hc,?_⟩
   cases tg with
   | p=>exact (hnp rfl).elim
   | c=>exact (hnc rfl).elim
   | r=>exact ⟨_,hy,h3⟩
   | w=>exact hy.upon (K:=fun a w'=>∃ C':World->Prop,(∀ w'',C' w''->Cp w''∧Cls CR O w w'')∧C' w'∧S C' a w') ⟨_,fun _ h=>h,clsw CR,h3⟩
   | b=>exact hy.upon (K:=fun a w'=>∃ C':World->Prop,C' w'∧S C' a w') ⟨_,clsw CR,h3⟩
 ·
  split at e<;>first | (cases e;done) | skip
  ·rename_i hap
   obtain ⟨v,x,tb',O',ρ',w',hrun,hM',hS',hk⟩:=wOp_ok hc hl hER hG hM e
   have hF':FI E.n a st.env O' ρ':=FI.mono hS'.im hS'.pre ⟨l,hl,hER⟩
   have hD':=hD.mono hS'.im hS'.pre
   cases v with
   | some v=>
    obtain ⟨hv,hrun⟩:=hrun
    rw [hae] at hrun
    simp only at hk
    try dsimp only at hk
    split at hk<;>first | (cases hk;done) | skip
    rename_i il' hil
    refine ⟨cr,fun _ h=>h,fun _=>rfl,?_⟩
    show opO _ _ _ _ _ _ _
    unfold opO
    rw [if_pos hw]
    simp only [Oper.wp,hrun,Oper.upon]
    exact after (st':=⟨il',tb',st.df⟩) hS' (fun i hi=>apart_ok hap i hi) hk ⟨putE_ok hil hF' hv,by rw [put_defers];exact hD'⟩ hM' (hIp x.val v il' hil)
   | none=>
    simp only at hk
    try dsimp only at hk
    split at hk<;>first | (cases hk;done) | skip
    rename_i hd
    have hrun:(execOp a.eval o).run P w=.ok .skip w':=hrun
    refine ⟨cr,fun _ h=>h,fun _=>rfl,?_⟩
    show opO _ _ _ _ _ _ _
    unfold opO
    rw [if_pos hw]
    simp only [Oper.wp,hrun,Oper.upon,hd]
    exact after (st':=⟨st.env,tb',st.df⟩) hS' (fun i hi=>apart_ok hap i hi) hk ⟨hF',hD'⟩ hM' hI
  ·obtain ⟨v,x,tb',O',ρ',w',hrun,hM',hS',hk⟩:=wOp_ok hc hl hER hG hM e
   have hF':FI E.n a st.env O' ρ':=FI.mono hS'.im hS'.pre ⟨l,hl,hER⟩
   have hD':=hD.mono hS'.im hS'.pre
   cases v with
   | some v=>
    obtain ⟨hv,hrun⟩:=hrun
    rw [hae] at hrun
    simp only at hk
    try dsimp only at hk
    split at hk<;>first | (cases hk;done) | skip
    rename_i il' hil
    refine ⟨cr,fun _ h=>h,fun _=>rfl,?_⟩
    show opO _ _ _ _ _ _ _
    unfold opO
    rw [if_pos hw]
    simp only [Oper.wp,hrun,Oper.upon]
    exact afterB (st':=⟨il',tb',st.df⟩) hS' hk ⟨putE_ok hil hF' hv,by rw [put_defers];exact hD'⟩ hM' (hIp x.val v il' hil)
   | none=>
    simp only at hk
    try dsimp only at hk
    split at hk<;>first | (cases hk;done) | skip
    rename_i hd
    have hrun:(execOp a.eval o).run P w=.ok .skip w':=hrun
    refine ⟨cr,fun _ h=>h,fun _=>rfl,?_⟩
    show opO _ _ _ _ _ _ _
    unfold opO
    rw [if_pos hw]
    simp only [Oper.wp,hrun,Oper.upon,hd]
    exact afterB (st':=⟨st.env,tb',st.df⟩) hS' hk ⟨hF',hD'⟩ hM' hI
 ·
  split at e<;>first | (cases e;done) | skip
  ·obtain ⟨f,xs,hrun,v,tb',mu,hk,hcall⟩:=cOp_ok hct hl hER hG hM e
   rw [hae] at hrun
   try dsimp only at hk
   split at hk<;>first | (cases hk;done) | skip
   rename_i v' hap hv'
   cases hv'
   try dsimp only at hk
   split at hk<;>first | (cases hk;done) | skip
   rename_i il' hil
   refine ⟨cr,fun _ h=>h,fun _=>rfl,?_⟩
   show opO _ _ _ _ _ _ _
   unfold opO
   rw [if_pos hw]
   simp only [Oper.wp,hrun,Oper.upon]
   refine hcall.mono fun en w' he=>?_
   cases en with
   | returned x=>
    obtain ⟨O',ρ',sv,rfl,h2,h3,h4⟩:=he
    exact after (st':=⟨il',tb',st.df⟩) h4 (fun i hi=>apart_ok hap i hi) hk ⟨putE_ok hil (FI.mono h4.im h4.pre ⟨l,hl,hER⟩) h2,by rw [put_defers];exact hD.mono h4.im h4.pre⟩ h3 (hIp sv.val _ il' hil)
   | panicked _=>exact he.elim
   | outgrown=>exact he.elim
  ·obtain ⟨f,xs,hrun,v,tb',mu,hk,hcall⟩:=cOp_ok hct hl hER hG hM e
   rw [hae] at hrun
   try dsimp only at hk
   split at hk<;>first | (cases hk;done) | skip
   rename_i il' hil
   refine ⟨cr,fun _ h=>h,fun _=>rfl,?_⟩
   show opO _ _ _ _ _ _ _
   unfold opO
   rw [if_pos hw]
   simp only [Oper.wp,hrun,Oper.upon]
   refine hcall.mono fun en w' he=>?_
   cases en with
   | returned x=>
    obtain ⟨O',ρ',sv,rfl,h2,h3,h4⟩:=he
    exact afterB (st':=⟨il',tb',st.df⟩) h4 hk ⟨putE_ok hil (FI.mono h4.im h4.pre ⟨l,hl,hER⟩) h2,by rw [put_defers];exact hD.mono h4.im h4.pre⟩ h3 (hIp sv.val _ il' hil)
   | panicked _=>exact he.elim
   | outgrown=>exact he.elim
 ·
  split at e<;>first | (cases e;done) | skip
  rename_i cl ho hd
  split at e<;>first | (cases e;done) | skip
  rename_i x hcal hargs
  split at e<;>first | (cases e;done) | skip
  rename_i f av cv hx
  obtain ⟨u,hu,hR,_⟩:=iopd_1 hER hG hx rfl (by simp) hl
  have hR':=hR
  obtain ⟨xs,ys,hcs,hxs,hys⟩:=hR'
  simp only [List.cons.injEq,and_true] at hcs
  subst hcs
  obtain ⟨callee,args,ats⟩:=cl
  simp only at hcal hargs
  subst hcal
  have hargs:=arr_of_toList hargs
  subst hargs
  have hu':a.eval x=_:=hu
  have hrun:(execOp a.eval o).run P w=.ok (.defer ⟨.fn (.func f) ys.toArray,xs.toArray⟩) w:=by
   simp only [execOp,ho,resolve,hu',Deferred.ofValue]
   simp
  refine ⟨cr,fun _ h=>h,fun _=>rfl,?_⟩
  show opO _ _ _ _ _ _ _
  unfold opO
  rw [if_pos hw]
  simp only [Oper.wp,hrun,Oper.upon,hd]
  exact after (M:=fun _=>False) (st':=⟨st.env,st.tb,.fn f av cv :: st.df⟩) (.refl _ _ _ _) (fun _ h=>h.elim) e ⟨⟨l,hl,hER⟩,.inl ⟨_,_,_,_,rfl,hR,hD⟩⟩ hM hI
theorem FI.lit {n:Nat} {a:Act} {il:IEnv} {O:Own} {ρ:List Hd} {d:Nat} {g:Bool} (h:FI n a il O ρ) (hd:geti il d=some (.o (.b g))):FI n a ((d,.o (.b g)) :: il) O ρ:=by
 obtain ⟨l,h1,h2⟩:=h
 obtain ⟨x,h3,h4⟩:=h2.get hd
 refine ⟨(d,x) :: l,⟨h1.defers,h1.size,fun t v hv=>?_⟩,rfl,h4,h2⟩
 simp only [get?] at hv
 cases hb:Nat.beq d t with
 | true=>rw [hb] at hv;cases hv;rw [← Nat.eq_of_beq_eq_true hb];exact h1.has d x h3
 | false=>rw [hb] at hv;exact h1.has t v hv
theorem yields_b {n:Nat} {a:Act} {il:IEnv} {O:Own} {ρ:List Hd} {j dj:Nat} {g:Bool} (h:FI n a il O ρ) (hj:(nthO ops j).bind (·.dst)=some dj) (hg:geti il dj=some (.o (.b g))):yielded ops.toArray a.tmps j=some g:=by
 obtain ⟨l,h1,h2⟩:=h
 obtain ⟨x,h3,y,rfl,rfl,_⟩:=h2.get hg
 rw [yields_of h1 hj h3]
theorem yields_u {n:Nat} {a:Act} {il:IEnv} {O:Own} {ρ:List Hd} {j dj:Nat} (h:FI n a il O ρ) (hj:(nthO ops j).bind (·.dst)=some dj) (hg:geti il dj=some (.tu .un)):yielded ops.toArray a.tmps j=none:=by
 obtain ⟨l,h1,h2⟩:=h
 obtain ⟨x,h3,xs,rfl,hx⟩:=h2.get hg
 rw [yields_of h1 hj h3]
theorem geti_lit {il:IEnv} {d dj:Nat} {g:Bool} (h:geti il d=none) (hj:geti il dj=some (.o (.b g))):geti ((dj,.o (.b g)) :: il) d=none:=by
 simp only [geti]
 cases hb:Nat.beq dj d with
 | true=>rw [Nat.eq_of_beq_eq_true hb,h] at hj;cases hj
 | false=>exact h
theorem stepL_ok {β:Type} {t:Tag} {o:Oper} {cr:List Nat} {st:St} {k:List Nat->St->Option β} {r:β} {a:Act} {O O0:Own} {ρ ρ0:List Hd} {w w0:World} {S:(World->Prop)->Act->World->Prop} {Inv:Array Value->IEnv->Prop} {Cp:World->Prop} (hc:COk P E.c) (hct:CtsOk P E) (hG:GO E.c O) (e:stepL E ops t o cr st k=some r)
  (hF:FS E.n a st O ρ) (hM:Gm O ρ st.tb w) (hst:∀ O' ρ' w',Stq (· ∉ cr) O ρ w O' ρ' w'->Cp w') (hS:Stp (fun _=>True) O0 ρ0 w0 O ρ w)
  (hI:Inv a.tmps st.env) (hIl:∀ dj g,geti st.env dj=some (.o (.b g))->Inv a.tmps ((dj,.o (.b g)) :: st.env)) (hIp:∀ il,Inv a.tmps il->∀ (x:Value) v il',putE E o.dst v il=some il'->Inv (a.put o.dst x).tmps il')
  (next:∀ (Cp':World->Prop) cr' st' a' w' O' ρ',k cr' st'=some r->FS E.n a' st' O' ρ'->Gm O' ρ' st'.tb w'->GO E.c O'->(∀ O'' ρ'' w'',Stq (· ∉ cr') O' ρ' w' O'' ρ'' w''->Cp' w'')->Stp (fun _=>True) O0 ρ0 w0 O' ρ' w'->Inv a'.tmps st'.env ->
   ∃ CR,(∀ i,i ∈ cr'->i ∈ CR)∧S (fun w''=>Cp' w''∧Cls CR O' w' w'') a' w') :
  ∃ CR,(∀ i,i ∈ cr->i ∈ CR)∧(chg E.c o.op=true->o.guard=none->CR=cr)∧StepX P ops.toArray K S (fun w'=>Cp w'∧Cls CR O w w') t o a w:=by
 have skip:∀ {il il':IEnv},o.guard ≠ none->Region.wanted o (yielded ops.toArray a.tmps)=false->FI E.n a il O ρ->Inv a.tmps il->putE E o.dst (.tu .un) il=some il'->k cr ⟨il',st.tb,st.df⟩=some r ->
   ∃ CR,(∀ i,i ∈ cr->i ∈ CR)∧(chg E.c o.op=true->o.guard=none->CR=cr)∧StepX P ops.toArray K S (fun w'=>Cp w'∧Cls CR O w w') t o a w:=by
  intro il il' hgn hw hF' hI' hil e
  obtain ⟨CR,h1,h3⟩:=next Cp cr ⟨il',st.tb,st.df⟩ (a.put o.dst undef) w O ρ e ⟨putE_undef hil hF',by rw [put_defers];exact hF.2⟩ hM hG hst hS (hIp il hI' _ _ il' hil)
  exact ⟨CR,h1,fun _ h=>absurd h hgn,stepx_value ⟨hst _ _ _ (.refl _ _ _ _),Kept.refl _ _⟩ (fun w=>YAt.skip hw) h3⟩
 have one:∀ {il:IEnv},exec E t o cr ⟨il,st.tb,st.df⟩ k=some r->FI E.n a il O ρ->Region.wanted o (yielded ops.toArray a.tmps)=true->Inv a.tmps il ->
   ∃ CR,(∀ i,i ∈ cr->i ∈ CR)∧(chg E.c o.op=true->o.guard=none->CR=cr)∧StepX P ops.toArray K S (fun w'=>Cp w'∧Cls CR O w w') t o a w:=by
  intro il e hF' hw hI'
  obtain ⟨CR,h1,h2,h3⟩:=exec_ok (st:=⟨il,st.tb,st.df⟩) hc hct hG e ⟨hF',hF.2⟩ hM hw hst hS hI' (hIp il hI') next
  exact ⟨CR,h1,fun h _=>h2 h,h3⟩
 unfold stepL at e
 split at e
 ·rename_i hg
  exact one e hF.1 (want_none hg) hI
 ·rename_i j want hg
  have hgn:o.guard ≠ none:=by rw [hg];simp
  split at e<;>first | (cases e;done) | skip
  rename_i dj hdj
  split at e<;>first | (cases e;done) | skip
  ·rename_i g hgv
   have hy:=yields_b hF.1 hdj hgv
   cases g with
   | true=>
    cases want with
    | true=>exact one e (hF.1.lit hgv) (by simp [Region.wanted,hg,hy]) (hIl _ _ hgv)
    | false=>
     simp only at e
     split at e<;>first | (cases e;done) | skip
     rename_i il' hil
     exact skip hgn (by simp [Region.wanted,hg,hy]) (hF.1.lit hgv) (hIl _ _ hgv) hil e
   | false=>
    cases want with
    | false=>exact one e (hF.1.lit hgv) (by simp [Region.wanted,hg,hy]) (hIl _ _ hgv)
    | true=>
     simp only at e
     split at e<;>first | (cases e;done) | skip
     rename_i il' hil
     exact skip hgn (by simp [Region.wanted,hg,hy]) (hF.1.lit hgv) (hIl _ _ hgv) hil e
  ·rename_i hgv
   have hy:=yields_u hF.1 hdj hgv
   split at e<;>first | (cases e;done) | skip
   rename_i il' hil
   exact skip hgn (by simp [Region.wanted,hg,hy]) hF.1 hI hil e
theorem evL_ok {β:Type} {k:St->Option β} {r:β} {O0:Own} {ρ0:List Hd} {w0:World} (hc:COk P E.c) (hct:CtsOk P E)
  (hK:∀ st a w O ρ,k st=some r->FS E.n a st O ρ->Gm O ρ st.tb w->GO E.c O->Stp (fun _=>True) O0 ρ0 w0 O ρ w->K a w):∀ (L:List (Tag×Oper)) (Cp:World->Prop) (cr:List Nat) (st:St) (a:Act) (O:Own) (ρ:List Hd) (w:World),evL E ops k L cr st=some r->FS E.n a st O ρ->Gm O ρ st.tb w->GO E.c O ->
   (∀ O' ρ' w',Stq (· ∉ cr) O ρ w O' ρ' w'->Cp w')->Stp (fun _=>True) O0 ρ0 w0 O ρ w->∃ CR,(∀ i,i ∈ cr->i ∈ CR)∧Sx P ops.toArray (fun w'=>Cp w'∧Cls CR O w w') K L a w
 | [],Cp,cr,st,a,O,ρ,w,e,hF,hM,hG,hst,hS=>⟨cr,fun _ h=>h,hK st a w O ρ e hF hM hG hS⟩
 | (t,o) :: L,Cp,cr,st,a,O,ρ,w,e,hF,hM,hG,hst,hS=>by
  obtain ⟨CR,h1,_,h3⟩:=stepL_ok (K:=K) (S:=fun C a w=>Sx P ops.toArray C K L a w) (Inv:=fun _ _=>True) hc hct hG e hF hM hst hS trivial (fun _ _ _=>trivial) (fun _ _ _ _ _ _=>trivial)
   (fun Cp' cr' st' a' w' O' ρ' e hF hM hG h1 h2 _=>evL_ok hc hct hK L Cp' cr' st' a' O' ρ' w' e hF hM hG h1 h2)
  exact ⟨CR,h1,h3.sx⟩
theorem FI.other {n:Nat} {a:Act} {il:IEnv} {O:Own} {ρ:List Hd} {d:Nat} {x:Value} (h:FI n a il O ρ) (hd:geti il d=none):FI n (a.put (some d) x) il O ρ:=by
 obtain ⟨l,h1,h2⟩:=h
 have hn:∀ {il:IEnv} {l:Env},ER O ρ il l->geti il d=none->get? l d=none:=by
  intro il
  induction il with
  | nil=>intro l h _;cases l with
   | nil=>rfl
   | cons _ _=>exact h.elim
  | cons y r ih=>
   intro l h e
   cases l with
   | nil=>exact h.elim
   | cons z r'=>
    obtain ⟨s,v⟩:=y
    obtain ⟨s',v'⟩:=z
    obtain ⟨rfl,_,h4⟩:=h
    simp only [geti] at e
    simp only [get?]
    cases hb:Nat.beq s d with
    | true=>rw [hb] at e;cases e
    | false=>rw [hb] at e;exact ih h4 e
 refine ⟨l,⟨h1.defers,?_,fun t v hv=>?_⟩,h2⟩
 ·have:=h1.size;simpa [Act.put] using this
 ·have hne:d ≠ t:=fun e=>by subst e;rw [hn h2 hd] at hv;cases hv
  have:=h1.has t v hv
  simp only [Act.put]
  rw [Array.getElem?_setIfInBounds_ne hne]
  exact this
theorem Gm.adopt {O:Own} {ρ:List Hd} {tb:Tbl} {w:World} {b0 ty:Nat} {v:IV} {cs:List Value} (hM:Gm O ρ tb w) (hO:O b0=.no) (hb:Blk w b0 cs ty) (hR:∀ O ρ,R O ρ false v cs) :
  Gm (fun b=>bif Nat.beq b0 b then .th tb.length else O b) (ρ ++ [⟨b0,v.sz,.bool false⟩]) (tb ++ [.blk ty v]) w∧O.le (fun b=>bif Nat.beq b0 b then .th tb.length else O b):=by
 have hlt:b0 < w.heap.size:=hb.lt
 have hle:O.le (fun b=>bif Nat.beq b0 b then .th tb.length else O b):=fun b all e=>by
  cases e':Nat.beq b0 b with
  | true=>have:=Nat.eq_of_beq_eq_true e';subst this;rw [hO] at e;cases e
  | false=>simp only [e',cond_false];exact e
 refine ⟨⟨fun b all e=>?_,fun b hb'=>?_,by simp [hM.len],fun j x hx=>?_⟩,hle⟩
 ·cases e':Nat.beq b0 b with
  | true=>rw [e'] at e;cases e
  | false=>rw [e'] at e;exact hM.im b all e
 ·cases e':Nat.beq b0 b with
  | true=>have:=Nat.eq_of_beq_eq_true e';omega
  | false=>exact hM.lt b hb'
 ·rcases Nat.lt_or_ge j tb.length with hj | hj
  ·rw [List.getElem?_append_left hj] at hx
   have old:=hM.th j x hx
   have ne:∀ b,O b=.th j->(bif Nat.beq b0 b then .th tb.length else O b)=.th j:=fun b e=>by
    cases e':Nat.beq b0 b with
    | true=>have:=Nat.eq_of_beq_eq_true e';subst this;rw [hO] at e;cases e
    | false=>exact e
   cases x with
   | blk ty v=>
    obtain ⟨h,cs,h3,h4,h5,h6,h7⟩:=old
    exact ⟨h,cs,Pre.app _ _ _ _ h3,ne _ h4,h5,R.mono hle (.app _ _) h6,h7⟩
   | row E t xs=>
    obtain ⟨h,es,h3,h4,h5,h6,h7⟩:=old
    exact ⟨h,es,Pre.app _ _ _ _ h3,h4,fun b hbb=>ne _ (h5 b hbb),h6.mono (fun _ _=>TR.mono hle),h7⟩
   | fz t xs=>
    obtain ⟨h,h3,h4,h5⟩:=old
    exact ⟨h,Pre.app _ _ _ _ h3,h4,TR.mono hle h5⟩
   | no=>trivial
   | mk=>
    obtain ⟨h,h3,h4,h5⟩:=old
    exact ⟨h,Pre.app _ _ _ _ h3,ne _ h4,h5⟩
   | mp kt vt l=>
    obtain ⟨h,es,h3,h4,h5,h6⟩:=old
    exact ⟨h,es,Pre.app _ _ _ _ h3,ne _ h4,h5,h6.mono hle⟩
  ·have:j=tb.length:=by
    have:=(List.getElem?_eq_some_iff.1 hx).1
    simp at this;omega
   subst this
   rw [List.getElem?_append_right (Nat.le_refl _)] at hx
   simp at hx;subst hx
   exact ⟨⟨b0,v.sz,.bool false⟩,cs,by rw [← hM.len];simp,by simp,rfl,hR _ _,hb⟩
theorem preOk_cons {c:Cfg} {d:Nat} {t:Tag} {o:Oper} {L:List (Tag×Oper)} (h:preOk c d ((t,o) :: L)=true):(∀ d',o.dst=some d'->d' ≠ d)∧(t=.w->chg c o.op=true∧o.guard=none)∧preOk c d L=true:=by
 simp only [preOk,Bool.and_eq_true] at h
 obtain ⟨⟨h1,h2⟩,h3⟩:=h
 refine ⟨fun d' e hd=>?_,fun e=>?_,h3⟩
 ·rw [e] at h1;subst hd;simp at h1
 ·subst e
  simp only [Bool.and_eq_true] at h2
  refine ⟨h2.1,?_⟩
  cases hg:o.guard with
  | none=>rfl
  | some _=>rw [hg] at h2;simp at h2
theorem geti_put {d:Nat} {o:Oper} {v:IV} {il il':IEnv} (hd:∀ d',o.dst=some d'->d' ≠ d) (h:geti il d=none) (e:putE E o.dst v il=some il'):geti il' d=none:=by
 unfold putE at e
 split at e
 ·cases e;exact h
 ·rename_i d' hd'
  split at e
  ·cases e
   simp only [geti]
   cases hb:Nat.beq d' d with
   | true=>exact absurd (Nat.eq_of_beq_eq_true hb) (hd d' hd')
   | false=>exact h
  ·cases e
theorem tmps_put {d:Nat} {o:Oper} {x y:Value} {a:Act} (hd:∀ d',o.dst=some d'->d' ≠ d) (h:a.tmps[d]? = some y):(a.put o.dst x).tmps[d]? = some y:=by
 cases ho:o.dst with
 | none=>exact h
 | some d'=>
  simp only [Act.put]
  rw [Array.getElem?_setIfInBounds_ne (hd d' ho)]
  exact h
theorem alOp_spec {o:Oper} {t d:Nat} (h:alOp o=some (t,d)):o.op=.alloc t∧o.dst=some d∧o.guard=none:=by
 unfold alOp at h
 split at h<;>first | (cases h;done) | skip
 rename_i h1 h2 h3
 cases h
 exact ⟨h1,h2,h3⟩
theorem evE_ok {β:Type} {k:St->Option β} {r:β} {O0 Oa:Own} {ρ0 ρa:List Hd} {w0 wa:World} {oa:Oper} {ta d b0:Nat} {cs:List Value} {va:IV} {post:List (Tag×Oper)} (hc:COk P E.c) (hct:CtsOk P E)
  (hK:∀ st a w O ρ,k st=some r->FS E.n a st O ρ->Gm O ρ st.tb w->GO E.c O->Stp (fun _=>True) O0 ρ0 w0 O ρ w->K a w)
  (hoa:alOp oa=some (ta,d)) (hva:E.c.I ta=some va) (hR:∀ O ρ,R O ρ false va cs) (hS0:Stp (fun _=>True) O0 ρ0 w0 Oa ρa wa) (hb0:w0.heap.size≤b0) (hbO:Oa b0=.no) (hbB:Blk wa b0 cs ta) :
  ∀ (L:List (Tag×Oper)) (Cp:World->Prop) (cr:List Nat) (st:St) (a:Act) (O:Own) (ρ:List Hd) (w:World),evL E ops k (L ++ (.w,oa) :: post) cr st=some r->preOk E.c d L=true->FS E.n a st O ρ->Gm O ρ st.tb w->GO E.c O ->
   (∀ O' ρ' w',Stq (· ∉ cr) O ρ w O' ρ' w'->Cp w')->Stp (fun _=>True) Oa ρa wa O ρ w->a.tmps[d]? = some (vP b0 0)∧geti st.env d=none->∃ CR,(∀ i,i ∈ cr->i ∈ CR)∧SxN P ops.toArray K (L ++ post) (fun w'=>Cp w'∧Cls CR O w w') a w
 | [],Cp,cr,st,a,O,ρ,w,e,_,hF,hM,hG,hst,hS,hI=>by
  obtain ⟨ho,hd,hg⟩:=alOp_spec hoa
  have hlt:b0 < wa.heap.size:=hbB.lt
  have hO:O b0=.no:=hS.no b0 hlt hbO
  have hB:Blk w b0 cs ta:=hbB.same (hS.kept.block b0 hlt (fun ⟨id,_,h⟩=>by rw [hbO] at h;cases h))
  obtain ⟨hM2,hle⟩:=hM.adopt hO hB hR
  simp only [List.nil_append,evL,stepL,hg] at e
  unfold exec at e
  simp only [ho,clOf,wIds,apart,wOp,wAl,hva,hd,putE] at e
  split at e<;>first | (cases e;done) | skip
  rename_i il' hil
  split at hil<;>first | (cases hil;done) | skip
  rename_i hdn
  cases hil
  have hpre:Pre ρ (ρ ++ [⟨b0,va.sz,.bool false⟩]):=.app _ _
  have hq:Stq (· ∉ cr) O ρ w (fun b=>bif Nat.beq b0 b then .th st.tb.length else O b) (ρ ++ [⟨b0,va.sz,.bool false⟩]) w:=by
   refine ⟨hpre,hle,fun b id _ h _=>?_,Kept.refl _ _⟩
   cases e':Nat.beq b0 b with
   | true=>have:=Nat.eq_of_beq_eq_true e';subst this;rw [hO] at h;cases h
   | false=>exact h
  have hs0:=hS0.trans hS
  have hS2:Stp (fun _=>True) O0 ρ0 w0 (fun b=>bif Nat.beq b0 b then .th st.tb.length else O b) (ρ ++ [⟨b0,va.sz,.bool false⟩]) w:=by
   refine ⟨hs0.pre.trans hpre,hs0.im.trans hle,fun b hb h=>?_,fun b id hb h hn=>absurd trivial hn,hs0.kept⟩
   cases e':Nat.beq b0 b with
   | true=>have:=Nat.eq_of_beq_eq_true e';omega
   | false=>exact hs0.no b hb h
  have hF2:FS E.n a ⟨(d,.pt st.tb.length []) :: st.env,st.tb ++ [.blk ta va],st.df⟩ (fun b=>bif Nat.beq b0 b then .th st.tb.length else O b) (ρ ++ [⟨b0,va.sz,.bool false⟩]):=by
   refine ⟨?_,hF.2.mono hle hpre⟩
   obtain ⟨l,h1,h2⟩:=hF.1
   refine ⟨(d,.o (.v (vP b0 0))) :: l,⟨h1.defers,h1.size,fun t u hu=>?_⟩,rfl,?_,h2.mono hle hpre⟩
   ·simp only [get?] at hu
    cases hb:Nat.beq d t with
    | true=>rw [hb] at hu;cases hu;rw [← Nat.eq_of_beq_eq_true hb];exact hI.1
    | false=>rw [hb] at hu;exact h1.has t u hu
   ·exact .of_S0 (v:=.pt st.tb.length []) ⟨_,rfl,⟨b0,va.sz,.bool false⟩,0,by rw [← hM.len];simp,by cases va.sz<;>rfl,rfl⟩
  obtain ⟨CR,h1,h2⟩:=evL_ok (K:=K) hc hct hK post Cp cr _ a _ _ w e hF2 hM2 (hG.mono hle) (fun O' ρ' w' h=>hst _ _ _ (hq.trans h)) hS2
  refine ⟨cr,fun _ h=>h,_,fun w' h=>⟨h.1,h.2.wide (fun b hb=>?_)⟩,⟨hst _ _ _ (.refl _ _ _ _),Kept.refl _ _⟩,h2⟩
  cases e':Nat.beq b0 b with
  | true=>have:=Nat.eq_of_beq_eq_true e';subst this;exact .inl hO
  | false=>
   simp only [e',cond_false] at hb
   exact hb.imp (fun h=>h) (fun ⟨id,hn,h⟩=>⟨id,fun hc=>hn (h1 id hc),h⟩)
 | (t,o) :: L,Cp,cr,st,a,O,ρ,w,e,hp,hF,hM,hG,hst,hS,hI=>by
  obtain ⟨p1,p2,p3⟩:=preOk_cons hp
  obtain ⟨CR,h1,_,h3⟩:=stepL_ok (K:=K) (S:=SxN P ops.toArray K (L ++ post)) (Inv:=fun tm il=>tm[d]? = some (vP b0 0)∧geti il d=none) hc hct hG e hF hM hst hS hI (fun dj g h=>⟨hI.1,geti_lit hI.2 h⟩) (fun il hi x v il' h=>⟨tmps_put p1 hi.1,geti_put p1 hi.2 h⟩)
   (fun Cp' cr' st' a' w' O' ρ' e hF hM hG h1 h2 h3=>evE_ok hc hct hK hoa hva hR hS0 hb0 hbO hbB L Cp' cr' st' a' O' ρ' w' e p3 hF hM hG h1 h2 h3)
  exact ⟨CR,h1,h3.sxn ⟨hst _ _ _ (.refl _ _ _ _),Kept.refl _ _⟩⟩
theorem evP_ok {β:Type} {k:St->Option β} {r:β} {O0:Own} {ρ0:List Hd} {w0:World} {oa:Oper} {ta d:Nat} {va:IV} {post:List (Tag×Oper)} (hc:COk P E.c) (hct:CtsOk P E)
  (hK:∀ st a w O ρ,k st=some r->FS E.n a st O ρ->Gm O ρ st.tb w->GO E.c O->Stp (fun _=>True) O0 ρ0 w0 O ρ w->K a w)
  (hoa:alOp oa=some (ta,d)) (hva:E.c.I ta=some va) (hdn:Nat.blt d E.n=true) :
  ∀ (L:List (Tag×Oper)) (Cp:World->Prop) (cr:List Nat) (st:St) (a:Act) (O:Own) (ρ:List Hd) (w:World),evL E ops k (L ++ (.w,oa) :: post) cr st=some r->preOk E.c d L=true->FS E.n a st O ρ->Gm O ρ st.tb w->GO E.c O ->
   (∀ O' ρ' w',Stq (· ∉ cr) O ρ w O' ρ' w'->Cp w')->Stp (fun _=>True) O0 ρ0 w0 O ρ w->geti st.env d=none->∃ CR,(∀ i,i ∈ cr->i ∈ CR)∧SxP P ops.toArray K oa post L (fun w'=>Cp w'∧Cls CR O w w') a w
 | [],Cp,cr,st,a,O,ρ,w,e,_,hF,hM,hG,hst,hS,hI=>evL_ok hc hct hK _ Cp cr st a O ρ w e hF hM hG hst hS
 | (t,o) :: L,Cp,cr,st,a,O,ρ,w,e,hp,hF,hM,hG,hst,hS,hI=>by
  obtain ⟨p1,p2,p3⟩:=preOk_cons hp
  obtain ⟨CR,h1,h2,h3⟩:=stepL_ok (K:=K) (S:=SxP P ops.toArray K oa post L) (Inv:=fun _ il=>geti il d=none) hc hct hG e hF hM hst hS hI (fun dj g h=>geti_lit hI h) (fun il hi x v il' h=>geti_put p1 hi h)
   (fun Cp' cr' st' a' w' O' ρ' e hF hM hG h1 h2 h3=>evP_ok hc hct hK hoa hva hdn L Cp' cr' st' a' O' ρ' w' e p3 hF hM hG h1 h2 h3)
  refine ⟨CR,h1,h3,fun ht=>?_⟩
  obtain ⟨q1,q2⟩:=p2 ht
  obtain rfl:=h2 q1 q2
  obtain ⟨ho,hd,hg⟩:=alOp_spec hoa
  obtain ⟨z,cs,z1,z2,z3⟩:=hc.zero _ _ hva
  have hrun:(execOp a.eval oa).run P w=.ok (.value (vP w.heap.size 0)) { w with heap:=w.heap.push (.cells cs.toArray ta) }:=by
   simp only [execOp,ho]
   simp [Instr.alloc,z1 w,newVar,z2,run_newRow]
  have hk:Kept none1 w { w with heap:=w.heap.push (.cells cs.toArray ta) }:=kept_alloc w _
  have hs1:∀ M:Nat->Prop,Stp M O ρ w O ρ { w with heap:=w.heap.push (.cells cs.toArray ta) }:=fun M=>⟨.refl _,.refl _,fun _ _ h=>h,fun _ _ _ h _=>h,hk.wide (fun _ h=>h.elim)⟩
  have hM1:Gm O ρ st.tb { w with heap:=w.heap.push (.cells cs.toArray ta) }:=
   (hM.step (M:=fun _=>False) (O':=O) (ρ':=ρ) (tb':=st.tb) (hk.wide (fun _ h=>h.elim)) (fun _ _ _=>rfl) (fun b hb=>hM.lt b (Nat.le_trans hk.size hb)) (fun b all h=>.inl h) (.refl _) hM.len (fun j x hx=>.inl ⟨hx,fun h=>h⟩)).1
  have hF1:FS E.n (a.put (some d) (vP w.heap.size 0)) st O ρ:=⟨hF.1.other hI,by rw [put_defers];exact hF.2⟩
  have hsz:(a.put (some d) (vP w.heap.size 0)).tmps[d]? = some (vP w.heap.size 0):=by
   obtain ⟨l,hl,_⟩:=hF.1
   have h1:a.tmps.size=E.n:=hl.size
   have h2:d < E.n:=by simpa [Nat.blt_eq] using hdn
   simp [Act.put,h1,h2]
  obtain ⟨CR2,g1,C',g2,g3,g4⟩:=evE_ok (K:=K) (post:=post) (O0:=O0) (ρ0:=ρ0) (w0:=w0) hc hct hK hoa hva z3 (hS.trans (hs1 _)) hS.kept.size (hM.lt _ (Nat.le_refl _)) (blk_new ta cs) ((t,o) :: L) (fun w''=>Cp w''∧Cls CR O w w'') CR st (a.put (some d) (vP w.heap.size 0)) O ρ _ e hp hF1 hM1 hG
   (fun O' ρ' w' h=>⟨hst _ _ _ ((hs1 _).q.trans h),((hs1 _).q.trans h).kept⟩) (.refl _ _ _ _) ⟨hsz,hI⟩
  unfold opO
  rw [if_pos (want_none hg)]
  simp only [Oper.wp,hrun,Oper.upon,hd]
  exact ⟨C',fun w' h=>(g2 w' h).1,g3,g4⟩
theorem cutAt_spec {i:Nat}:∀ {π x y:List (Tag×Nat)},cutAt i π=some (x,y)->π=x ++ (.w,i) :: y
 | [],x,y,h=>by simp [cutAt] at h
 | (t,j) :: r,x,y,h=>by
  simp only [cutAt] at h
  split at h
  ·rename_i hb
   have:=Nat.eq_of_beq_eq_true hb
   subst this
   split at h
   ·cases h;rfl
   ·cases h
  ·split at h
   ·rename_i x' y' hr
    cases h
    rw [cutAt_spec hr];rfl
   ·cases h
theorem pick_split {l:List Oper} {y:List (Tag×Nat)} {i:Nat} {oa:Oper} (hi:nthO l i=some oa):∀ {x:List (Tag×Nat)} {X L:List (Tag×Oper)},pick l x=some X->pick l (x ++ (.w,i) :: y)=some L->∃ Y,pick l y=some Y∧L=X ++ (.w,oa) :: Y
 | [],X,L,h1,h2=>by
  simp only [pick,Option.some.injEq] at h1;subst h1
  simp only [List.nil_append,pick,hi] at h2
  split at h2<;>first | (cases h2;done) | skip
  rename_i o os ho hos
  cases h2;cases ho
  exact ⟨os,hos,rfl⟩
 | (t,j) :: x,X,L,h1,h2=>by
  simp only [pick] at h1
  split at h1<;>first | (cases h1;done) | skip
  rename_i o os ho hos
  cases h1
  simp only [List.cons_append,pick,ho] at h2
  split at h2<;>first | (cases h2;done) | skip
  rename_i o2 os2 ho2 hos2
  cases h2;cases ho2
  obtain ⟨Y,h3,rfl⟩:=pick_split hi hos hos2
  exact ⟨Y,h3,rfl⟩
end
theorem numP_ok {O:Own} {ρ:List Hd} {t:Ty}:∀ {ps:List (Nat×IV)} {ys:List (Nat×Value)} {q:Nat} {xs:List t.den},numP t q ps=some xs->PaR O ρ ps ys->xs.length=ps.length∧∃ es,LR (TR O t) xs es∧∀ cs:List Value,(q + ps.length) * t.size≤cs.length ->
  Instr.fill (fun i=>some (i * t.size,t.size)) cs.toArray ys=some (spl cs (q * t.size) es).toArray
 | [],ys,q,xs,e,h=>by
  simp only [numP,Option.some.injEq] at e;subst e
  simp only [PaR] at h;subst h
  exact ⟨rfl,[],rfl,fun cs _=>by simp [Instr.fill,spl]⟩
 | (i,u) :: ps,ys,q,xs,e,h=>by
  obtain ⟨x,rest,us,rfl,h1,h2,h3⟩:=h
  simp only [numP] at e
  split at e<;>first | (cases e;done) | skip
  rename_i y ys' hiq hy hys
  simp only [Option.some.injEq] at e;subst e
  have hiq:=Nat.eq_of_beq_eq_true hiq
  subst hiq
  have hT:=toP_R hy h2
  have hul:=TR.length hT
  obtain ⟨hl,es,h4,h5⟩:=numP_ok hys h3
  have hel:=LR.length (fun _ _=>TR.length) h4
  refine ⟨by simp [hl],us ++ es,⟨us,es,rfl,hT,h4⟩,fun cs hcs=>?_⟩
  simp only [List.length_cons] at hcs
  have hb:i * t.size + t.size + ps.length * t.size≤cs.length:=by
   have:(i + (ps.length + 1)) * t.size=i * t.size + t.size + ps.length * t.size:=by rw [Nat.add_mul,Nat.add_mul];omega
   omega
  refine fill_put (off:=i * t.size) (k:=t.size) rfl h1 hul (by omega) ?_
  have hle:(spl cs (i * t.size) us).length=cs.length:=spl_len (by omega)
  rw [h5 _ (by rw [hle,Nat.add_mul,Nat.add_mul];omega)]
  rw [show (i + 1) * t.size=i * t.size + us.length from by rw [Nat.add_mul,hul];omega]
  rw [spl_next (by rw [hel,hl];omega)]
def atB:Option (Nat×Nat)->Nat->Value
 | none,b=>vP b 0
 | some (m,c),b=>.slice (some ⟨b,0,none⟩) m c
theorem atB_inj:∀ {g g':Option (Nat×Nat)} {n:Nat},atB g n=atB g' n->g=g'
 | none,none,n,_=>rfl
 | none,some (m,c),n,h=>by simp [atB] at h
 | some (m,c),none,n,h=>by simp [atB] at h
 | some (m,c),some (m',c'),n,h=>by simp [atB] at h;simp [h]
def FreshX (P:Program) (X:Sem Next) (g:Option (Nat×Nat)) (cs:List Value) (ty:Nat):Prop:=
 ∀ w:World,X.run P w=.ok (.value (atB g w.heap.size)) { w with heap:=w.heap.push (.cells cs.toArray ty) }
theorem Gm.adoptR {O:Own} {ρ:List Hd} {tb:Tbl} {w:World} {b0 E cp:Nat} {t:Ty} {xs:List t.den} {es sp:List Value} (hM:Gm O ρ tb w) (hO:O b0=.no) (hb:Blk w b0 (es ++ sp) E) (hL:LR (TR O t) xs es)
  (hm:xs.length≤cp) (hl:(es ++ sp).length=cp * t.size) (hcp:cp≤maxLen) :
  Gm (fun b=>bif Nat.beq b0 b then .th tb.length else O b) (ρ ++ [⟨0,t.sz,.slice (some ⟨b0,0,none⟩) xs.length cp⟩]) (tb ++ [.row E t xs]) w∧O.le (fun b=>bif Nat.beq b0 b then .th tb.length else O b):=by
 have hlt:b0 < w.heap.size:=hb.lt
 have hle:O.le (fun b=>bif Nat.beq b0 b then .th tb.length else O b):=fun b all e=>by
  cases e':Nat.beq b0 b with
  | true=>have:=Nat.eq_of_beq_eq_true e';subst this;rw [hO] at e;cases e
  | false=>simp only [e',cond_false];exact e
 refine ⟨⟨fun b all e=>?_,fun b hb'=>?_,by simp [hM.len],fun j x hx=>?_⟩,hle⟩
 ·cases e':Nat.beq b0 b with
  | true=>rw [e'] at e;cases e
  | false=>rw [e'] at e;exact hM.im b all e
 ·cases e':Nat.beq b0 b with
  | true=>have:=Nat.eq_of_beq_eq_true e';omega
  | false=>exact hM.lt b hb'
 ·rcases Nat.lt_or_ge j tb.length with hj | hj
  ·rw [List.getElem?_append_left hj] at hx
   have old:=hM.th j x hx
   have ne:∀ b,O b=.th j->(bif Nat.beq b0 b then .th tb.length else O b)=.th j:=fun b e=>by
    cases e':Nat.beq b0 b with
    | true=>have:=Nat.eq_of_beq_eq_true e';subst this;rw [hO] at e;cases e
    | false=>exact e
   cases x with
   | blk ty v=>
    obtain ⟨h,cs,h3,h4,h5,h6,h7⟩:=old
    exact ⟨h,cs,Pre.app _ _ _ _ h3,ne _ h4,h5,R.mono hle (.app _ _) h6,h7⟩
   | row E t xs=>
    obtain ⟨h,es,h3,h4,h5,h6,h7⟩:=old
    exact ⟨h,es,Pre.app _ _ _ _ h3,h4,fun b hbb=>ne _ (h5 b hbb),h6.mono (fun _ _=>TR.mono hle),h7⟩
   | fz t xs=>
    obtain ⟨h,h3,h4,h5⟩:=old
    exact ⟨h,Pre.app _ _ _ _ h3,h4,TR.mono hle h5⟩
   | no=>trivial
   | mk=>
    obtain ⟨h,h3,h4,h5⟩:=old
    exact ⟨h,Pre.app _ _ _ _ h3,ne _ h4,h5⟩
   | mp kt vt l=>
    obtain ⟨h,es,h3,h4,h5,h6⟩:=old
    exact ⟨h,es,Pre.app _ _ _ _ h3,ne _ h4,h5,h6.mono hle⟩
  ·have:j=tb.length:=by
    have:=(List.getElem?_eq_some_iff.1 hx).1
    simp at this;omega
   subst this
   rw [List.getElem?_append_right (Nat.le_refl _)] at hx
   simp at hx;subst hx
   have hel:=LR.length (fun _ _=>TR.length) hL
   refine ⟨⟨0,t.sz,.slice (some ⟨b0,0,none⟩) xs.length cp⟩,es,by rw [← hM.len];simp,rfl,fun b hbb=>?_,hL.mono (fun _ _=>TR.mono hle),hel,.inr ⟨b0,cp,sp,rfl,hm,hb,hl,hcp⟩⟩
   simp only [blockOf] at hbb
   subst hbb
   simp
section
variable {P:Program} {c:Cfg} {n:Nat} {a:Act} {l:Env} {il:IEnv} {O:Own} {ρ:List Hd} {tb:Tbl} {w:World} {o:Oper}
theorem run_makeX {ty e s bytes:Nat} {z:Value} {zc:List Value} {x y:Operand} {i j:Int} (he:EOk P ty e s bytes z) (hzc:z.cells=zc.toArray) (ho:o.op=.makeSlice ty x y) (hx:a.eval x=vI i) (hy:a.eval y=vI j)
  (hi:0≤i) (hij:i≤j) (hj:j≤4611686018427387904) (hbt:bytes * j≤281474976710656):FreshX P (execOp a.eval o) (some (i.toNat,j.toNat)) (List.replicate j.toNat zc).flatten e:=by
 intro w
 obtain ⟨f,hf,hk,hb,hz⟩:=he.info
 have hsz:zc.length=s:=by have:=he.cells;rw [hzc] at this;simpa using this
 have hpos:=he.pos
 have hwi:IntKind.i64.wrap i=i:=w64_in (by omega) (by omega)
 have hwj:IntKind.i64.wrap j=j:=w64_in (by omega) (by omega)
 have hrow:=range_rep zc (by omega) j.toNat
 rw [hsz] at hrow
 simp only [execOp,ho,hx,hy]
 have c1:¬ (j < 0):=by omega
 have c2:¬ ((bytes:Int) * j > 281474976710656):=by omega
 have c3:¬ (i < 0):=by omega
 have c4:¬ (i > j):=by omega
 have hroom:∀ (q:Nat) (w:World),(askRoom q).run P w=.ok () w:=fun q w=>by unfold askRoom;split<;>rfl
 by_cases hj0:j.toNat=0
 ·have hj1:j≤0:=by omega
  simp [Instr.makeSlice,run_underlying he.slice,asInt,asIntOf,typeInfo,hf,hb,hwi,hwj,c1,c2,c3,c4,sizeOf,hk,hj0,newRow,newObj,hroom,atB]
  have e0:Array.range 0 = #[]:=rfl
  simp [Sem.run,e0]
 ·have hj1:¬ (j.toNat * s=0):=by
   intro h
   rcases Nat.mul_eq_zero.1 h with h | h<;>omega
  have hrow':Array.map (fun x=>z.cells[x % z.cells.size]!) (Array.range (j.toNat * s))=(List.replicate j.toNat zc).flatten.toArray:=by rw [hzc];rw [← hrow]
  simp [Instr.makeSlice,run_underlying he.slice,asInt,asIntOf,typeInfo,hf,hb,hwi,hwj,c1,c2,c3,c4,sizeOf,hk,hj1,newRow,newObj,zeroValue,hz,hrow',hroom,atB]
  simp [Sem.run]
theorem frV_ok {th:Thing} (hc:COk P c) (hF:Fr n a l) (hE:ER O ρ il l) (hG:GO c O) (h:frV c il o.op=some th) :
  ∃ g cs ty,FreshX P (execOp a.eval o) g cs ty∧∀ (O':Own) (ρ':List Hd) (tb':Tbl) (w':World) (b0:Nat),O.le O'->Pre ρ ρ'->Gm O' ρ' tb' w'->O' b0=.no->Blk w' b0 cs ty ->
   ∃ hd,Gm (fun b=>bif Nat.beq b0 b then .th tb'.length else O' b) (ρ' ++ [hd]) (tb' ++ [th]) w'∧O'.le (fun b=>bif Nat.beq b0 b then .th tb'.length else O' b) ∧
    SR (fun b=>bif Nat.beq b0 b then .th tb'.length else O' b) (ρ' ++ [hd]) (ivF tb'.length th) (.o (.v (atB g b0))):=by
 unfold frV at h
 split at h
 ·rename_i t ho
  split at h<;>first | (cases h;done) | skip
  rename_i v hv
  cases h
  obtain ⟨z,cs,h1,h2,h3⟩:=hc.zero _ _ hv
  refine ⟨none,cs,t,fun w=>?_,fun O' ρ' tb' w' b0 hle hpre hM hO hb=>?_⟩
  ·simp only [execOp,ho]
   simp [Instr.alloc,h1 w,newVar,h2,run_newRow,atB]
  ·obtain ⟨g1,g2⟩:=hM.adopt hO hb h3
   exact ⟨_,g1,g2,.of_S0 (v:=.pt tb'.length []) ⟨_,rfl,⟨b0,v.sz,.bool false⟩,0,by rw [← hM.len];simp,by cases v.sz<;>rfl,rfl⟩⟩
 ·rename_i ty x y ho
  split at h<;>first | (cases h;done) | skip
  rename_i el hd
  split at h<;>first | (cases h;done) | skip
  rename_i t i j ht hx hy
  split at h<;>first | (cases h;done) | skip
  rename_i xs hxs
  cases h
  obtain ⟨h0,h1,h2,rfl⟩:=gmake_some hxs
  obtain ⟨bytes,z,zc,h3,h4,h5,h6⟩:=hc.elem _ _ _ hd ht
  have hb':(bytes:Int) * j≤281474976710656:=by
   have:(bytes:Int)≤128:=by omega
   have:(bytes:Int) * j≤128 * j:=Int.mul_le_mul_of_nonneg_right this (by omega)
   omega
  have hsz:zc.length=t.size:=by have:=h3.cells;rw [h5] at this;simpa using this
  have hfl:∀ m,(List.replicate m zc).flatten.length=m * t.size:=fun m=>by simp [List.length_flatten,hsz]
  refine ⟨some (i.toNat,j.toNat),_,el,run_makeX h3 h5 ho (opd_val hF (iopd_o hE hG hx).1) (opd_val hF (iopd_o hE hG hy).1) h0 h1 (by omega) hb',fun O' ρ' tb' w' b0 hle hpre hM hO hb=>?_⟩
  have e1:(List.replicate i.toNat zc).flatten ++ (List.replicate (j.toNat - i.toNat) zc).flatten=(List.replicate j.toNat zc).flatten:=by
   rw [← List.flatten_append,List.replicate_append_replicate,show i.toNat + (j.toNat - i.toNat)=j.toNat from by omega]
  rw [← e1] at hb
  obtain ⟨g1,g2⟩:=hM.adoptR (t:=t) (xs:=List.replicate i.toNat t.zero) (cp:=j.toNat) hO hb (LR.replicate (h6 O') _) (by simp;omega) (by rw [e1,hfl]) (by simp only [maxLen];omega)
  refine ⟨_,g1,g2,.of_S0 (v:=.rw tb'.length) ⟨_,rfl,⟨0,t.sz,.slice (some ⟨b0,0,none⟩) (List.replicate i.toNat t.zero).length j.toNat⟩,by rw [← hM.len];simp,by simp [atB],rfl⟩⟩
 ·rename_i ty len ps ho
  split at h<;>first | (cases h;done) | skip
  rename_i el hd
  split at h<;>first | (cases h;done) | skip
  rename_i t vs ht hps
  split at h<;>first | (cases h;done) | skip
  rename_i xs hlen hle hxs
  cases h
  have hlen:=Nat.eq_of_beq_eq_true hlen
  have hle:len * t.size≤16777216:=by simpa using hle
  obtain ⟨bytes,z,zc,h3,h4,h5,h6⟩:=hc.elem _ _ _ hd ht
  obtain ⟨f,hf,hk,hbt,hz⟩:=h3.info
  have hsz:zc.length=t.size:=by have:=h3.cells;rw [h5] at this;simpa using this
  have hpos:=h3.pos
  obtain ⟨hxl,es,h7,h8⟩:=numP_ok hxs (iparts_ok hF hE hG hps)
  have hel:=LR.length (fun _ _=>TR.length) h7
  have hfl:∀ m,(List.replicate m zc).flatten.length=m * t.size:=fun m=>by simp [List.length_flatten,hsz]
  have hfill:=h8 (List.replicate len zc).flatten (by rw [hfl,Nat.zero_add,hlen];exact Nat.le_refl _)
  have hes:spl (List.replicate len zc).flatten (0 * t.size) es=es:=by
   simp only [spl,Nat.zero_mul,List.take_zero,List.nil_append]
   rw [List.drop_of_length_le (by rw [hfl,hel,hxl,hlen];omega),List.append_nil]
  rw [hes] at hfill
  have hrow:=range_rep zc (by omega) len
  rw [hsz] at hrow
  have hxl':xs.length=len:=hxl.trans hlen
  have hpos1:len≤len * t.size:=by
   have:=Nat.mul_le_mul_left len hpos
   simpa using this
  refine ⟨some (len,len),es,el,fun w=>?_,fun O' ρ' tb' w' b0 hle' hpre hM hO hb=>?_⟩
  ·simp only [execOp,ho]
   have c0:¬ (len * t.size > 2 ^ 24):=by omega
   have hps':(ps.map fun (i,x)=>(i,a.eval x)).toList=ps.toList.map fun (i,x)=>(i,a.eval x):=by simp
   have hrun:(Instr.buildSlice ty len (ps.map fun (i,x)=>(i,a.eval x))).run P w=.ok (.slice (some ⟨w.heap.size,0,none⟩) len len) { w with heap:=w.heap.push (.cells es.toArray el) }:=by
    by_cases h0:len * t.size=0
    ·have hl0:len=0:=by omega
     subst hl0
     have e0:Array.range 0 = #[]:=rfl
     have hfill':Instr.fill (fun i=>some (i * t.size,t.size)) #[] (ps.toList.map fun (i,x)=>(i,a.eval x))=some es.toArray:=by simpa using hfill
     unfold Instr.buildSlice
     simp only [Sem.run_bind,run_underlying h3.slice,Result.andThen_ok,sizeOf,typeInfo,Sem.run,hf,hk,hps',Nat.zero_mul,e0]
     simp [Sem.run,newRow,newObj,pure,hf,hk,e0,hfill',hps']
    ·have hrow':Array.map (fun x=>z.cells[x % z.cells.size]!) (Array.range (len * t.size))=(List.replicate len zc).flatten.toArray:=by rw [h5];rw [← hrow]
     have hs:=hc.tok.size
     unfold Instr.buildSlice
     simp [run_underlying h3.slice,sizeOf,typeInfo,hf,hk,zeroValue,hz,h0,c0,newRow,newObj,pure,Sem.run,hps']
     have hfill':Instr.fill (fun i=>some (i * t.size,t.size)) (List.replicate len zc).flatten.toArray (ps.toList.map fun x=>(x.fst,a.eval x.snd))=some es.toArray:=hfill
     rw [hrow',hfill']
     rfl
   simp [hrun,atB]
  ·have hb2:Blk w' b0 (es ++ []) el:=by simpa using hb
   obtain ⟨g1,g2⟩:=hM.adoptR (t:=t) (xs:=xs) (cp:=len) hO hb2 (h7.mono (fun _ _=>TR.mono hle')) (by omega) (by simp [hel,hxl']) (by simp only [maxLen];omega)
   refine ⟨_,g1,g2,.of_S0 (v:=.rw tb'.length) ⟨_,rfl,⟨0,t.sz,.slice (some ⟨b0,0,none⟩) xs.length len⟩,by rw [← hM.len];simp,by simp [atB,hxl'],rfl⟩⟩
 ·cases h
end
def dl (i:Nat):List Nat->List Nat
 | []=>[]
 | j :: D=>bif Nat.beq i j then dl i D else j :: dl i D
theorem dl_mem {i j:Nat}:∀ {D:List Nat},j ∈ dl i D->j ∈ D∧j ≠ i
 | [],h=>by cases h
 | x :: D,h=>by
  simp only [dl] at h
  cases hb:Nat.beq i x with
  | true=>rw [hb] at h;exact ⟨List.mem_cons_of_mem _ (dl_mem h).1,(dl_mem h).2⟩
  | false=>
   rw [hb] at h
   rcases List.mem_cons.1 h with rfl | h
   ·refine ⟨List.mem_cons_self ..,fun e=>?_⟩
    subst e;simp at hb
   ·exact ⟨List.mem_cons_of_mem _ (dl_mem h).1,(dl_mem h).2⟩
def SxM (P:Program) (l:List Oper) (K:Act->World->Prop):Nat->List Nat->List Itm->(World->Prop)->Act->World->Prop
 | 0,_,_,_,_,_=>False
 | _ + 1,_,[],_,a,w=>K a w
 | n + 1,D,(t,i,fs) :: L,C,a,w=>
  (i ∈ D->∃ C':World->Prop,(∀ w,C' w->C w)∧C' w∧SxM P l K n (dl i D) L C' a w) ∧
  (i ∉ D->∃ o,nthO l i=some o∧StepX P l.toArray K (SxM P l K n D L) C (t.getD .w) o a w ∧
   (t.getD .w=.w->∀ j ∈ fs,j ∉ D->∃ oj,nthO l j=some oj∧opO P l.toArray (QL K (fun _ _ _=>False) (fun _ _=>False)) oj (fun a w=>∃ C':World->Prop,(∀ w,C' w->C w)∧C' w∧SxM P l K n (j :: D) ((t,i,fs) :: L) C' a w) a w))
def apD (ops:List Oper) (i:Nat):List Nat->Bool
 | []=>true
 | j :: D=>(match nthO ops i,nthO ops j with
  | some oi,some oj=>match oi.dst,oj.dst with
   | some d,some d'=>!(Nat.beq d d') && noSlot d (usesF oj.op)
   | _,_=>true
  | _,_=>false) && apD ops i D
def leftN (D:List Nat):List Itm->Nat
 | []=>0
 | (_,i,_) :: L=>(bif D.contains i then 0 else 1) + leftN D L
def tg (L:List Itm):List (Tag×Nat):=L.map fun x=>(x.1.getD .w,x.2.1)
def okM (ops:List Oper) (Z:Nat->Bool):Nat->List Nat->List Itm->Array Bool->Bool
 | 0,_,_,_=>false
 | _ + 1,_,[],listed=>(Region.ready .any ops.toArray listed).isEmpty
 | n + 1,D,(t,i,fs) :: L,listed=>match D.contains i with
  | true=>(match t with
   | none=>true
   | some _=>false) && apD ops i (dl i D) && Nat.beq (leftN (dl i D) L) (leftN D L) && okM ops Z n (dl i D) L listed
  | false=>(Region.ready .any ops.toArray listed).contains i && apD ops i D &&
   (match t.getD .w with
    | .w=>!(Z i) && ((Region.ready .any ops.toArray listed).all (fun j=>j == i || (fs.contains j && !(D.contains j)))) &&
     allB (fun j=>D.contains j || (!(Z j) && apD ops j D && Nat.beq (leftN (j :: D) ((t,i,fs) :: L)) (leftN D L) && okM ops Z n (j :: D) ((t,i,fs) :: L) (listed.setIfInBounds j true))) fs
    | .c=>Region.free .any ops.toArray listed i && Z i && cOkB ops.toArray listed i (tg L)
    | .p=>Region.free .any ops.toArray listed i && Z i
    | .r=>Region.free .any ops.toArray listed i && Z i && lateOk ops.toArray i (lateOf ops.toArray i) && ((lateOf ops.toArray i).all fun j=>!listed.getD j false) && ((List.range ops.toArray.size).all fun j=>j == i || (lateOf ops.toArray i).contains j || listed.getD j true || Z j)
    | .b=>!(Z i) && ((Region.ready .any ops.toArray listed).all fun j=>j == i)) && okM ops Z n D L (listed.setIfInBounds i true)
theorem any_of_sxm {P:Program} {K:Act->World->Prop} {l:List Oper} {Z:Nat->Bool} (hsel:Region.noSelect l.toArray=true):∀ (n:Nat) (D:List Nat) (L:List Itm) (C:World->Prop) (listed:Array Bool) (a:Act) (w:World),(∀ t k,(t,k) ∈ tg L->t=.w∨t=.b->Z k=false)->okM l Z n D L listed=true->C w->SxM P l K n D L C a w ->
  AnyC P l.toArray (CB (tg L) C) Z K (leftN D L) listed a w
 | 0,D,L,C,listed,a,w,hZ,hB,hC,h=>h.elim
 | n + 1,D,[],C,listed,a,w,hZ,hB,hC,h=>⟨fun _=>hC,by simpa [okM] using hB,h⟩
 | n + 1,D,(t,i,fs) :: L,C,listed,a,w,hZ,hB,hC,h=>by
  have etg:tg ((t,i,fs) :: L)=(t.getD .w,i) :: tg L:=rfl
  have hZ':∀ t k,(t,k) ∈ tg L->t=.w∨t=.b->Z k=false:=fun t k hm=>hZ t k (by rw [etg];exact List.mem_cons_of_mem _ hm)
  simp only [okM] at hB
  cases hDi:D.contains i with
  | true=>
   rw [hDi] at hB
   simp only [Bool.and_eq_true] at hB
   obtain ⟨C',h1,h2,h3⟩:=h.1 (by simpa using hDi)
   have:=any_of_sxm hsel n (dl i D) L C' listed a w hZ' hB.2 h2 h3
   rw [Nat.eq_of_beq_eq_true hB.1.2] at this
   simp only [leftN,hDi,cond_true,Nat.zero_add]
   exact AnyC.wide (CB.cons (fun w hw=>h1 w hw)) this
  | false=>
   rw [hDi] at hB
   simp only [Bool.and_eq_true] at hB
   obtain ⟨⟨⟨hr,_⟩,ht⟩,hB'⟩:=hB
   have hr':i ∈ Region.ready .any l.toArray listed:=by simpa using hr
   obtain ⟨o,ho,hstep,hearly⟩:=h.2 (by simpa using hDi)
   have hi:l.toArray[i]? = some o:=by rw [← nthO_eq];exact ho
   simp only [leftN,hDi,cond_false]
   rw [Nat.add_comm]
   have ih:=any_of_sxm (P:=P) (K:=K) (Z:=Z) hsel n
   cases htt:t.getD .w with
   | w=>
    rw [htt] at ht hstep hearly
    simp only [StepX,opO] at hstep
    simp only [Bool.and_eq_true] at ht
    have hzf:Z i=false:=by simpa using ht.1.1
    refine ⟨fun _=>hC,fun h0=>(by rw [h0] at hr';cases hr'),fun j hj=>?_⟩
    have hj2:=List.all_eq_true.1 ht.1.2 j hj
    simp only [Bool.or_eq_true,beq_iff_eq,Bool.and_eq_true] at hj2
    by_cases hji:j=i
    ·subst hji
     unfold wpOp
     simp only [hi]
     split
     ·rename_i hw
      rw [if_pos hw] at hstep
      exact .inl (Oper.wp_mono (fun a' w' ⟨C',h1,h2,h3⟩=>⟨fun e=>by simp [hzf] at e,AnyC.wide (CB.cons (fun w hw=>h1 w hw)) (ih D L C' _ a' w' hZ' hB' h2 h3)⟩) hstep)
     ·rename_i hw
      rw [if_neg hw] at hstep
      obtain ⟨C',h1,h2,h3⟩:=hstep
      exact ⟨fun e=>by simp [hzf] at e,AnyC.wide (CB.cons (fun w hw=>h1 w hw)) (ih D L C' _ _ _ hZ' hB' h2 h3)⟩
    ·obtain ⟨hjf,hjD⟩:fs.contains j=true∧(!D.contains j)=true:=by
      rcases hj2 with h' | h'
      ·exact absurd h' hji
      ·exact h'
     have hjf:j ∈ fs:=by simpa using hjf
     have hjD':D.contains j=false:=by simpa using hjD
     obtain ⟨oj,hoj,hrun⟩:=hearly rfl j hjf (by simpa using hjD')
     have hoj':l.toArray[j]? = some oj:=by rw [← nthO_eq];exact hoj
     have hok:=allB_mem ht.2 j hjf
     simp only [hjD',Bool.false_or,Bool.and_eq_true] at hok
     obtain ⟨⟨⟨hzj,_⟩,hn⟩,hok⟩:=hok
     have hzj:Z j=false:=by simpa using hzj
     have hn:=Nat.eq_of_beq_eq_true hn
     have go:∀ C' a' w',C' w'->SxM P l K n (j :: D) ((t,i,fs) :: L) C' a' w'->AnyC P l.toArray (CB (tg ((t,i,fs) :: L)) C') Z K (leftN D L) (listed.setIfInBounds j true) a' w':=fun C' a' w' h2 h3=>by
      have:=ih (j :: D) ((t,i,fs) :: L) C' (listed.setIfInBounds j true) a' w' hZ hok h2 h3
      rw [hn] at this
      exact this
     simp only [opO] at hrun
     unfold wpOp
     simp only [hoj']
     split
     ·rename_i hw
      rw [if_pos hw] at hrun
      exact .inl (Oper.wp_mono (fun a' w' ⟨C',h1,h2,h3⟩=>⟨fun e=>by simp [hzj] at e,AnyC.wide (CB.mono (fun w hw=>h1 w hw)) (go C' a' w' h2 h3)⟩) hrun)
     ·rename_i hw
      rw [if_neg hw] at hrun
      obtain ⟨C',h1,h2,h3⟩:=hrun
      exact ⟨fun e=>by simp [hzj] at e,AnyC.wide (CB.mono (fun w hw=>h1 w hw)) (go C' _ _ h2 h3)⟩
   | p=>
    rw [htt] at ht hstep
    obtain ⟨v,hy,h⟩:=hstep
    simp only [Bool.and_eq_true] at ht
    exact first_op (C':=fun _=>True) (D:=fun _=>False) hi (Region.noSelect_spec hsel) (fun _ _ h=>h.elim) (CB.down ht.2 hZ) _ listed a w (Region.free_spec hi ht.1) (fun _ h=>h.elim) (fun _ _ _ _ _ _ _ _ _ _ _ _ _=>trivial) hr' trivial (fun w _=>hy w)
     (AnyC.wide (CB.cons (fun _ h=>h)) (ih D L C _ _ _ hZ' hB' hC h))
   | c=>
    rw [htt] at ht hstep
    obtain ⟨v,hy,h⟩:=hstep
    simp only [Bool.and_eq_true] at ht
    rw [etg,htt] at hZ ⊢
    exact first_c hsel hi ht.1.1 ht.1.2 hZ ht.2 hr' hC hy (ih D L C _ _ _ hZ' hB' hC h)
   | r=>
    rw [htt] at ht hstep
    obtain ⟨v,hy,h⟩:=hstep
    simp only [Bool.and_eq_true] at ht
    obtain ⟨⟨⟨⟨hf,hz⟩,hl⟩,hl2⟩,hl3⟩:=ht
    refine first_op (C':=fun w'=>w'=w) (D:=fun j=>j ∈ lateOf l.toArray i) hi (Region.noSelect_spec hsel) ?_ (CB.down hz hZ) _ listed a w (Region.free_spec hi hf) ?_ ?_ hr' rfl (fun w' e=>by rw [e];exact hy)
     (AnyC.wide (CB.cons (fun _ h=>h)) (ih D L C _ _ _ hZ' hB' hC h))
    ·intro j oj hj hoj
     have:=List.all_eq_true.1 hl j hj
     simp only [hoj] at this
     obtain ⟨e,he,hb⟩:=Array.any_eq_true'.1 this
     simp only [Bool.and_eq_true,Bool.or_eq_true,beq_iff_eq,List.contains_iff_mem] at hb
     exact ⟨e,he,hb.1,hb.2⟩
    ·intro j hj
     have:=List.all_eq_true.1 hl2 j hj
     simpa using this
    ·intro j oj hoj hji hjD hun _ w1 w2 _ hz12 _ e
     have:=List.all_eq_true.1 hl3 j (List.mem_range.2 (Array.getElem?_eq_some_iff.1 hoj).1)
     simp only [Bool.or_eq_true,beq_iff_eq,List.contains_iff_mem,hji,hjD,hun,Bool.false_eq_true,false_or] at this
     rw [hz12 this,e]
   | b=>
    rw [htt] at ht hstep
    simp only [StepX,opO] at hstep
    simp only [Bool.and_eq_true] at ht
    have hzf:Z i=false:=by simpa using ht.1
    rw [etg,htt]
    refine ⟨fun _=>hC,fun h0=>(by rw [h0] at hr';cases hr'),fun j hj=>?_⟩
    have hji:j=i:=by
     have:=List.all_eq_true.1 ht.2 j hj
     simpa using this
    subst hji
    have hset:(listed.setIfInBounds j true).getD j false=true:=by
     have hun:=(mem_ready.1 hr').1
     rcases Nat.lt_or_ge j listed.size with h' | h'
     ·simp [h']
     ·simp [Array.getElem?_eq_none h'] at hun
    have hup:∀ {C':World->Prop} (L':Array Bool) (w:World),L'.getD j false=true->CB (tg L) C' L' w->CB ((.b,j) :: tg L) C L' w:=fun L' w hl _ hb=>by
     have:=hb j (List.mem_cons_self ..)
     rw [hl] at this
     cases this
    unfold wpOp
    simp only [hi]
    split
    ·rename_i hw
     rw [if_pos hw] at hstep
     exact .inl (Oper.wp_mono (fun a' w' ⟨C',h2,h3⟩=>⟨fun e=>by simp [hzf] at e,AnyC.wideB hup hset (ih D L C' _ a' w' hZ' hB' h2 h3)⟩) hstep)
    ·rename_i hw
     rw [if_neg hw] at hstep
     obtain ⟨C',h2,h3⟩:=hstep
     exact ⟨fun e=>by simp [hzf] at e,AnyC.wideB hup hset (ih D L C' _ _ _ hZ' hB' h2 h3)⟩
def okAllM (l:List Oper) (π:List Itm):Bool:=
 Region.noSelect l.toArray && Nat.beq (leftN [] π) l.length && okM l (fun j=>!(π.any fun x=>(match x.1.getD .w with
  | .w=>true
  | .b=>true
  | _=>false) && Nat.beq x.2.1 j)) (2 * l.length + 2) [] π (Array.replicate l.length false)
theorem a_drawM {P:Program} {K:Act->World->Prop} {l:List Oper} (π:List Itm) {a:Act} {w:World} (C:World->Prop) (hB:okAllM l π=true)
  (hC:C { w with drawn:=w.drawn + 1 }) (h:SxM P l K (2 * l.length + 2) [] π C a { w with drawn:=w.drawn + 1 }):wpAny P .any l.toArray (Qn K) l.toArray.size (Array.replicate l.toArray.size false) a { w with drawn:=w.drawn + 1 }:=by
 simp only [okAllM,Bool.and_eq_true] at hB
 obtain ⟨⟨hs,hl⟩,ho⟩:=hB
 have hZ:∀ t k,(t,k) ∈ tg π->t=.w∨t=.b->(fun j=>!(π.any fun x=>(match x.1.getD .w with
  | .w=>true
  | .b=>true
  | _=>false) && Nat.beq x.2.1 j)) k=false:=fun t k hm ht=>by
  obtain ⟨x,hx,he⟩:=List.mem_map.1 hm
  cases he
  have:(π.any fun y=>(match y.1.getD .w with
   | .w=>true
   | .b=>true
   | _=>false) && Nat.beq y.2.1 x.2.1)=true:=List.any_eq_true.2 ⟨x,hx,by rcases ht with h | h<;>rw [h]<;>simp⟩
  simp [this]
 have:=(any_of_sxm hs _ [] π C _ a _ hZ ho hC h).any
 rw [Nat.eq_of_beq_eq_true hl] at this
 simpa using this
def frK:Op->Bool
 | .alloc _=>true
 | .makeSlice _ _ _=>true
 | .buildSlice _ _ _=>true
 | _=>false
theorem frV_K {c:Cfg} {il:IEnv} {o:Op} {th:Thing} (h:frV c il o=some th):frK o=true:=by
 unfold frV at h
 split at h<;>first | rfl | cases h
theorem frOp_spec {o:Oper} {d:Nat} (h:frOp o=some d):o.dst=some d∧o.guard=none:=by
 unfold frOp at h
 split at h<;>first | (cases h;done) | skip
 rename_i h1 h2
 cases h
 exact ⟨h2,h1⟩
theorem exec_uses {a a':Act} {o:Oper} (hk:frK o.op=true) (h:∀ x ∈ usesF o.op,a.eval x=a'.eval x):execOp a.eval o=execOp a'.eval o:=by
 cases ho:o.op with
 | alloc t=>simp only [execOp,ho]
 | makeSlice t x y=>
  rw [ho] at h
  have h1:=h x (by simp [usesF])
  have h2:=h y (by simp [usesF])
  simp only [execOp,ho,h1,h2]
 | buildSlice t n ps=>
  rw [ho] at h
  have h1:(ps.map fun (i,x)=>(i,a.eval x))=ps.map fun (i,x)=>(i,a'.eval x):=by
   apply Array.map_congr_left
   rintro ⟨i,x⟩ hm
   simp only [h x (by simp only [usesF];exact List.mem_map.2 ⟨(i,x),by simpa using hm,rfl⟩)]
  simp only [execOp,ho]
  rw [h1]
 | _=>rw [ho] at hk;cases hk
theorem eval_put {a:Act} {d:Nat} {v:Value} {x:Operand} (h:slotOf x ≠ some d):(a.put (some d) v).eval x=a.eval x:=by
 cases x with
 | tmp t=>
  have:d ≠ t:=fun e=>h (by rw [e];rfl)
  simp only [Act.eval,Act.put,Array.getD_eq_getD_getElem?]
  rw [Array.getElem?_setIfInBounds_ne this]
 | _=>rfl
def recT (P:Program) (ops:List Oper) (bf:Nat->Nat) (gf:Nat->Option (Nat×Nat)) (cf:Nat->List Value) (tf:Nat->Nat) (j:Nat) (tm:Array Value) (il:IEnv):Prop:=
 ∃ oj d,nthO ops j=some oj∧frOp oj=some d∧frK oj.op=true∧FreshX P (execOp (Act.eval ⟨tm,[]⟩) oj) (gf j) (cf j) (tf j)∧tm[d]? = some (atB (gf j) (bf j))∧geti il d=none
def recW (bf:Nat->Nat) (cf:Nat->List Value) (tf:Nat->Nat) (n0:Nat) (j:Nat) (O:Own) (w:World):Prop:=O (bf j)=.no∧n0≤bf j∧Blk w (bf j) (cf j) (tf j)
def Dn (P:Program) (ops:List Oper) (n0:Nat) (D:List Nat) (tm:Array Value) (il:IEnv) (O:Own) (w:World):Prop:=
 ∃ bf gf cf tf,(∀ j ∈ D,recT P ops bf gf cf tf j tm il)∧(∀ j ∈ D,recW bf cf tf n0 j O w)∧∀ i ∈ D,∀ j ∈ D,bf i=bf j->i=j
theorem noSlot_mem {d:Nat} {l:List Operand} (h:noSlot d l=true):∀ x ∈ l,slotOf x ≠ some d:=fun x hx e=>by
 have:=List.all_eq_true.1 h x hx
 simp [e] at this
theorem apD_mem {ops:List Oper} {i:Nat}:∀ {D:List Nat},apD ops i D=true->∀ j ∈ D,∀ oi oj,nthO ops i=some oi->nthO ops j=some oj->∀ d d',oi.dst=some d->oj.dst=some d'->d ≠ d'∧∀ x ∈ usesF oj.op,slotOf x ≠ some d
 | [],_,j,hj,_,_,_,_,_,_,_,_=>by cases hj
 | k :: D,h,j,hj,oi,oj,hi,hoj,d,d',h1,h2=>by
  simp only [apD,Bool.and_eq_true] at h
  rcases List.mem_cons.1 hj with rfl | hj
  ·have h:=h.1
   simp only [hi,hoj,h1,h2,Bool.and_eq_true] at h
   exact ⟨fun e=>by subst e;simp at h,noSlot_mem h.2⟩
  ·exact apD_mem h.2 j hj oi oj hi hoj d d' h1 h2
theorem recT_put {P:Program} {ops:List Oper} {bf:Nat->Nat} {gf:Nat->Option (Nat×Nat)} {cf:Nat->List Value} {tf:Nat->Nat} {D:List Nat} {i:Nat} {o:Oper} {E:Ev} (hap:apD ops i D=true) (ho:nthO ops i=some o) {a:Act} {il il':IEnv} (h:∀ j ∈ D,recT P ops bf gf cf tf j a.tmps il)
  (x:Value) (v:IV) (e:putE E o.dst v il=some il'):∀ j ∈ D,recT P ops bf gf cf tf j (a.put o.dst x).tmps il':=by
 intro j hj
 obtain ⟨oj,d,h1,h2,h3,h4,h5,h6⟩:=h j hj
 obtain ⟨hd,hg⟩:=frOp_spec h2
 cases hod:o.dst with
 | none=>
  rw [hod] at e
  simp only [putE,Option.some.injEq] at e
  subst e
  exact ⟨oj,d,h1,h2,h3,h4,h5,h6⟩
 | some d0=>
  obtain ⟨n1,n2⟩:=apD_mem hap j hj o oj ho h1 d0 d hod hd
  rw [hod] at e
  refine ⟨oj,d,h1,h2,h3,?_,?_,?_⟩
  ·have:=exec_uses (a:=⟨(a.put (some d0) x).tmps,[]⟩) (a':=⟨a.tmps,[]⟩) h3 (fun y hy=>(eval_put (a:=⟨a.tmps,[]⟩) (v:=x) (n2 y hy)))
   rw [this];exact h4
  ·simp only [Act.put]
   rw [Array.getElem?_setIfInBounds_ne n1];exact h5
  ·exact geti_put (o:=o) (fun d' hd'=>by rw [hod] at hd';cases hd';exact n1) h6 (by rw [hod];exact e)
theorem recT_lit {P:Program} {ops:List Oper} {bf:Nat->Nat} {gf:Nat->Option (Nat×Nat)} {cf:Nat->List Value} {tf:Nat->Nat} {D:List Nat} {tm:Array Value} {il:IEnv} (h:∀ j ∈ D,recT P ops bf gf cf tf j tm il) {dj:Nat} {g:Bool} (hg:geti il dj=some (.o (.b g))):∀ j ∈ D,recT P ops bf gf cf tf j tm ((dj,.o (.b g)) :: il):=by
 intro j hj
 obtain ⟨oj,d,h1,h2,h3,h4,h5,h6⟩:=h j hj
 exact ⟨oj,d,h1,h2,h3,h4,h5,geti_lit h6 hg⟩
theorem recW_stp {bf:Nat->Nat} {cf:Nat->List Value} {tf:Nat->Nat} {n0 j:Nat} {O O':Own} {ρ ρ':List Hd} {w w':World} {M:Nat->Prop} (h:recW bf cf tf n0 j O w) (hS:Stp M O ρ w O' ρ' w'):recW bf cf tf n0 j O' w':=by
 obtain ⟨h1,h2,h3⟩:=h
 exact ⟨hS.no _ h3.lt h1,h2,h3.same (hS.kept.block _ h3.lt (fun ⟨id,_,e⟩=>by rw [h1] at e;cases e))⟩
section
variable {P:Program} {E:Ev} {ops:List Oper} {K:Act->World->Prop}
theorem early_ok {n0:Nat} {D:List Nat} {st:St} {a:Act} {O:Own} {ρ:List Hd} {w:World} {j:Nat} (hc:COk P E.c) (hF:FS E.n a st O ρ) (hM:Gm O ρ st.tb w) (hG:GO E.c O) (hn0:n0≤w.heap.size) (hD:Dn P ops n0 D a.tmps st.env O w) (hb:frB E st.env ops j=true) (hjD:j ∉ D) (hap:apD ops j D=true) :
  ∃ oj v w',nthO ops j=some oj∧oj.guard=none∧(execOp a.eval oj).run P w=.ok (.value v) w'∧FS E.n (a.put oj.dst v) st O ρ∧Gm O ρ st.tb w'∧Stp (fun _=>False) O ρ w O ρ w'∧Dn P ops n0 (j :: D) (a.put oj.dst v).tmps st.env O w':=by
 unfold frB at hb
 split at hb<;>first | (cases hb;done) | skip
 rename_i o ho
 split at hb<;>first | (cases hb;done) | skip
 rename_i d th hfd hth
 split at hb<;>first | (cases hb;done) | skip
 rename_i hgd
 obtain ⟨hod,hg⟩:=frOp_spec hfd
 simp only [Bool.and_eq_true] at hb
 have hdn:d < E.n:=by simpa [Nat.blt_eq] using hb.1
 have hself:=noSlot_mem hb.2
 obtain ⟨l,hFr,hER⟩:=hF.1
 obtain ⟨g,cs,ty,hX,_⟩:=frV_ok (a:={ a with defers:=[] }) (P:=P) hc hFr hER hG hth
 have hX':FreshX P (execOp a.eval o) g cs ty:=hX
 have hrun:=hX' w
 have hk:Kept none1 w { w with heap:=w.heap.push (.cells cs.toArray ty) }:=kept_alloc w _
 have hS:Stp (fun _=>False) O ρ w O ρ { w with heap:=w.heap.push (.cells cs.toArray ty) }:=⟨.refl _,.refl _,fun _ _ h=>h,fun _ _ _ h _=>h,hk.wide (fun _ h=>h.elim)⟩
 have hM1:Gm O ρ st.tb { w with heap:=w.heap.push (.cells cs.toArray ty) }:=
  (hM.step (M:=fun _=>False) (O':=O) (ρ':=ρ) (tb':=st.tb) (hk.wide (fun _ h=>h.elim)) (fun _ _ _=>rfl) (fun b hb=>hM.lt b (Nat.le_trans hk.size hb)) (fun b all h=>.inl h) (.refl _) hM.len (fun j x hx=>.inl ⟨hx,fun h=>h⟩)).1
 refine ⟨o,_,_,ho,hg,hrun,?_,hM1,hS,?_⟩
 ·rw [hod];exact ⟨hF.1.other hgd,by rw [put_defers];exact hF.2⟩
 ·obtain ⟨bf,gf,cf,tf,h1,h2,h3⟩:=hD
  have up:∀ {α:Type} (f:Nat->α) (x:α) (k:Nat),k ∈ D->(bif Nat.beq j k then x else f k)=f k:=fun f x k hk=>by
   cases hb:Nat.beq j k with
   | true=>have:=Nat.eq_of_beq_eq_true hb;subst this;exact absurd hk hjD
   | false=>rfl
  have hjj:Nat.beq j j=true:=by simp
  refine ⟨fun k=>bif Nat.beq j k then w.heap.size else bf k,fun k=>bif Nat.beq j k then g else gf k,fun k=>bif Nat.beq j k then cs else cf k,fun k=>bif Nat.beq j k then ty else tf k,fun k hk=>?_,fun k hk=>?_,fun i hi k hk e=>?_⟩
  ·rcases List.mem_cons.1 hk with rfl | hk
   ·refine ⟨o,d,ho,hfd,frV_K hth,?_,?_,hgd⟩
    ·simp only [hjj,cond_true]
     have:=exec_uses (a:=⟨(a.put o.dst (atB g w.heap.size)).tmps,[]⟩) (a':=a) (o:=o) (frV_K hth) (fun y hy=>by
      rw [hod]
      exact eval_put (a:=a) (v:=atB g w.heap.size) (hself y hy))
     rw [this];exact hX'
    ·simp only [hjj,cond_true]
     have hs:a.tmps.size=E.n:=hFr.size
     rw [hod]
     simp [Act.put,hs,hdn]
   ·obtain ⟨oj,d',g1,g2,g3,g4,g5,g6⟩:=h1 k hk
    obtain ⟨hd',_⟩:=frOp_spec g2
    obtain ⟨n1,n2⟩:=apD_mem hap k hk o oj ho g1 d d' hod hd'
    refine ⟨oj,d',g1,g2,g3,?_,?_,g6⟩
    ·simp only [up gf g k hk,up cf cs k hk,up tf ty k hk]
     have:=exec_uses (a:=⟨(a.put o.dst (atB g w.heap.size)).tmps,[]⟩) (a':=⟨a.tmps,[]⟩) (o:=oj) g3 (fun y hy=>by
      rw [hod]
      exact eval_put (a:=⟨a.tmps,[]⟩) (v:=atB g w.heap.size) (n2 y hy))
     rw [this];exact g4
    ·simp only [up gf g k hk,up bf w.heap.size k hk]
     rw [hod]
     simp only [Act.put]
     rw [Array.getElem?_setIfInBounds_ne n1];exact g5
  ·rcases List.mem_cons.1 hk with rfl | hk
   ·simp only [recW,hjj,cond_true]
    exact ⟨hM.lt _ (Nat.le_refl _),hn0,blk_new ty cs⟩
   ·have:=recW_stp (h2 k hk) hS
    simp only [recW,up bf w.heap.size k hk,up cf cs k hk,up tf ty k hk]
    exact this
  ·have old:∀ k ∈ D,bf k ≠ w.heap.size:=fun k hk e=>by
    have:=(h2 k hk).2.2.lt
    omega
   rcases List.mem_cons.1 hi with hi1 | hi1<;>rcases List.mem_cons.1 hk with hk1 | hk1
   ·rw [hi1,hk1]
   ·rw [hi1] at e ⊢
    simp only [hjj,cond_true,up bf w.heap.size k hk1] at e
    exact absurd e.symm (old k hk1)
   ·rw [hk1] at e ⊢
    simp only [hjj,cond_true,up bf w.heap.size i hi1] at e
    exact absurd e (old i hi1)
   ·simp only [up bf w.heap.size i hi1,up bf w.heap.size k hk1] at e
    exact h3 i hi1 k hk1 e
end
section
variable {P:Program} {E:Ev} {ops:List Oper} {K:Act->World->Prop}
theorem evM_ok {β:Type} {k:St->Option β} {r:β} {Z:Nat->Bool} {O0:Own} {ρ0:List Hd} {w0:World} (hc:COk P E.c) (hct:CtsOk P E)
  (hK:∀ st a w O ρ,k st=some r->FS E.n a st O ρ->Gm O ρ st.tb w->GO E.c O->Stp (fun _=>True) O0 ρ0 w0 O ρ w->K a w) :
  ∀ (n:Nat) (D:List Nat) (L:List Itm) (listed:Array Bool) (Cp:World->Prop) (cr:List Nat) (st:St) (a:Act) (O:Own) (ρ:List Hd) (w:World),okM ops Z n D L listed=true->evM E ops k L cr st=some r->FS E.n a st O ρ->Gm O ρ st.tb w->GO E.c O ->
   (∀ O' ρ' w',Stq (· ∉ cr) O ρ w O' ρ' w'->Cp w')->Stp (fun _=>True) O0 ρ0 w0 O ρ w->Dn P ops w0.heap.size D a.tmps st.env O w->∃ CR,(∀ i,i ∈ cr->i ∈ CR)∧SxM P ops K n D L (fun w'=>Cp w'∧Cls CR O w w') a w
 | 0,D,L,listed,Cp,cr,st,a,O,ρ,w,hB,e,hF,hM,hG,hst,hS,hD=>by simp [okM] at hB
 | n + 1,D,[],listed,Cp,cr,st,a,O,ρ,w,hB,e,hF,hM,hG,hst,hS,hD=>⟨cr,fun _ h=>h,hK st a w O ρ e hF hM hG hS⟩
 | n + 1,D,(t,i,fs) :: L,listed,Cp,cr,st,a,O,ρ,w,hB,e,hF,hM,hG,hst,hS,hD=>by
  have ih:=evM_ok (k:=k) (r:=r) (Z:=Z) hc hct hK n
  have e0:=e
  simp only [okM] at hB
  simp only [evM] at e
  split at e<;>first | (cases e;done) | skip
  rename_i o ho hfs
  split at e<;>first | (cases e;done) | skip
  rename_i hchg
  cases hDi:D.contains i with
  | true=>
   have hi:i ∈ D:=by simpa using hDi
   rw [hDi] at hB
   simp only [Bool.and_eq_true] at hB
   obtain ⟨⟨⟨ht,hap⟩,_⟩,hB'⟩:=hB
   cases t with
   | some t=>cases ht
   | none=>
   obtain ⟨bf,gf,cf,tf,h1,h2,h3⟩:=hD
   obtain ⟨oi,d,q1,q2,q3,q4,q5,q6⟩:=h1 i hi
   rw [ho] at q1;cases q1
   obtain ⟨hod,hg⟩:=frOp_spec q2
   rw [q2] at e
   simp only at e
   split at e<;>first | (cases e;done) | skip
   rename_i d1 th hd1 hth
   cases hd1
   split at e<;>first | (cases e;done) | skip
   rename_i hdn
   obtain ⟨l,hFr,hER⟩:=hF.1
   obtain ⟨g,cs,ty,hX,had⟩:=frV_ok (a:={ a with defers:=[] }) (P:=P) hc hFr hER hG hth
   have same:=(q4 w).symm.trans (hX w)
   simp only [Result.ok.injEq,Next.value.injEq] at same
   obtain ⟨s1,s2⟩:=same
   have s1:=atB_inj s1
   have s3:=congrArg World.heap s2
   simp only [Array.push_eq_push,Obj.cells.injEq,and_true] at s3
   obtain ⟨s4,s5⟩:=s3
   have s4:cf i=cs:=by simpa using congrArg Array.toList s4
   obtain ⟨hO,hn0,hb⟩:=h2 i hi
   rw [s4,s5] at hb
   obtain ⟨hd,g1,g2,g3⟩:=had O ρ st.tb w (bf i) (.refl _) (.refl _) hM hO hb
   have hpre:Pre ρ (ρ ++ [hd]):=.app _ _
   have hq:Stq (· ∉ cr) O ρ w (fun b=>bif Nat.beq (bf i) b then .th st.tb.length else O b) (ρ ++ [hd]) w:=by
    refine ⟨hpre,g2,fun b id _ h _=>?_,Kept.refl _ _⟩
    cases e':Nat.beq (bf i) b with
    | true=>have:=Nat.eq_of_beq_eq_true e';subst this;rw [hO] at h;cases h
    | false=>exact h
   have hS2:Stp (fun _=>True) O0 ρ0 w0 (fun b=>bif Nat.beq (bf i) b then .th st.tb.length else O b) (ρ ++ [hd]) w:=by
    refine ⟨hS.pre.trans hpre,hS.im.trans g2,fun b hb h=>?_,fun b id hb h hn=>absurd trivial hn,hS.kept⟩
    cases e':Nat.beq (bf i) b with
    | true=>have:=Nat.eq_of_beq_eq_true e';omega
    | false=>exact hS.no b hb h
   have hF2:FS E.n a ⟨(d,ivF st.tb.length th) :: st.env,st.tb ++ [th],st.df⟩ (fun b=>bif Nat.beq (bf i) b then .th st.tb.length else O b) (ρ ++ [hd]):=by
    refine ⟨⟨(d,.o (.v (atB g (bf i)))) :: l,⟨hFr.defers,hFr.size,fun t u hu=>?_⟩,rfl,g3,hER.mono g2 hpre⟩,hF.2.mono g2 hpre⟩
    simp only [get?] at hu
    cases hb:Nat.beq d t with
    | true=>rw [hb] at hu;cases hu;rw [← Nat.eq_of_beq_eq_true hb,← s1];exact q5
    | false=>rw [hb] at hu;exact hFr.has t u hu
   have hDn:Dn P ops w0.heap.size (dl i D) a.tmps ((d,ivF st.tb.length th) :: st.env) (fun b=>bif Nat.beq (bf i) b then .th st.tb.length else O b) w:=by
    refine ⟨bf,gf,cf,tf,fun j hj=>?_,fun j hj=>?_,fun x hx y hy e=>h3 x (dl_mem hx).1 y (dl_mem hy).1 e⟩
    ·obtain ⟨oj,d',r1,r2,r3,r4,r5,r6⟩:=h1 j (dl_mem hj).1
     obtain ⟨n1,_⟩:=apD_mem hap j hj o oj ho r1 d d' hod (frOp_spec r2).1
     refine ⟨oj,d',r1,r2,r3,r4,r5,?_⟩
     simp only [geti]
     cases hb:Nat.beq d d' with
     | true=>exact absurd (Nat.eq_of_beq_eq_true hb) n1
     | false=>exact r6
    ·obtain ⟨u1,u2,u3⟩:=h2 j (dl_mem hj).1
     refine ⟨?_,u2,u3⟩
     cases e':Nat.beq (bf i) (bf j) with
     | true=>exact absurd (h3 i hi j (dl_mem hj).1 (Nat.eq_of_beq_eq_true e')).symm (dl_mem hj).2
     | false=>simp only [e',cond_false];exact u1
   obtain ⟨CR,k1,k2⟩:=ih (dl i D) L listed Cp cr _ a _ _ w hB' e hF2 g1 (hG.mono g2) (fun O' ρ' w' h=>hst _ _ _ (hq.trans h)) hS2 hDn
   refine ⟨cr,fun _ h=>h,fun _=>⟨_,fun w' h=>⟨h.1,h.2.wide (fun b hb=>?_)⟩,⟨hst _ _ _ (.refl _ _ _ _),Kept.refl _ _⟩,k2⟩,fun hn=>absurd hi hn⟩
   cases e':Nat.beq (bf i) b with
   | true=>have:=Nat.eq_of_beq_eq_true e';subst this;exact .inl hO
   | false=>
    simp only [e',cond_false] at hb
    exact hb.imp (fun h=>h) (fun ⟨id,hn,h⟩=>⟨id,fun hc=>hn (k1 id hc),h⟩)
  | false=>
   have hi:i ∉ D:=by simpa using hDi
   rw [hDi] at hB
   simp only [Bool.and_eq_true] at hB
   obtain ⟨⟨⟨hr,hap⟩,ht⟩,hB'⟩:=hB
   have hearly:t.getD .w=.w->∀ j ∈ fs,j ∉ D->∃ oj,nthO ops j=some oj∧opO P ops.toArray (QL K (fun _ _ _=>False) (fun _ _=>False)) oj (fun a' w'=>∃ C':World->Prop,(∀ w'',C' w''->(Cp w''∧Cls cr O w w''))∧C' w'∧SxM P ops K n (j :: D) ((t,i,fs) :: L) C' a' w') a w:=by
    intro htw j hj hjD
    rw [htw] at ht
    simp only [Bool.and_eq_true] at ht
    have hok:=allB_mem ht.2 j hj
    have hjD':D.contains j=false:=by simpa using hjD
    simp only [hjD',Bool.false_or,Bool.and_eq_true] at hok
    obtain ⟨⟨⟨_,hapj⟩,_⟩,hok⟩:=hok
    obtain ⟨oj,v,w',b1,b2,b3,b4,b5,b6,b7⟩:=early_ok hc hF hM hG hS.kept.size hD (allB_mem hfs j hj) hjD hapj
    have hq:Stq (· ∉ cr) O ρ w O ρ w':=(b6.weak (fun _ h=>h.elim)).q
    obtain ⟨CR2,c1,c2⟩:=ih (j :: D) ((t,i,fs) :: L) _ (fun w''=>Cp w''∧Cls cr O w w'') cr st (a.put oj.dst v) O ρ w' hok e0 b4 b5 hG (fun O' ρ' w'' h=>⟨hst _ _ _ (hq.trans h),(hq.trans h).kept⟩) (hS.trans (b6.weak (fun _ h=>h.elim))) b7
    refine ⟨oj,b1,?_⟩
    unfold opO
    rw [if_pos (want_none b2)]
    simp only [Oper.wp,b3,Oper.upon]
    exact ⟨_,fun w'' h=>h.1,⟨⟨hst _ _ _ hq,hq.kept⟩,Kept.refl _ _⟩,c2⟩
   cases t with
   | none=>
    simp only at e
    split at e<;>first | (cases e;done) | skip
    rename_i d th hfd hth
    split at e<;>first | (cases e;done) | skip
    rename_i hdn
    obtain ⟨hod,hg⟩:=frOp_spec hfd
    obtain ⟨l,hFr,hER⟩:=hF.1
    obtain ⟨g,cs,ty,hX,had⟩:=frV_ok (a:={ a with defers:=[] }) (P:=P) hc hFr hER hG hth
    have hX:FreshX P (execOp a.eval o) g cs ty:=hX
    have hrun:=hX w
    have hk:Kept none1 w { w with heap:=w.heap.push (.cells cs.toArray ty) }:=kept_alloc w _
    have hS1:Stp (fun _=>False) O ρ w O ρ { w with heap:=w.heap.push (.cells cs.toArray ty) }:=⟨.refl _,.refl _,fun _ _ h=>h,fun _ _ _ h _=>h,hk.wide (fun _ h=>h.elim)⟩
    have hM1:Gm O ρ st.tb { w with heap:=w.heap.push (.cells cs.toArray ty) }:=
     (hM.step (M:=fun _=>False) (O':=O) (ρ':=ρ) (tb':=st.tb) (hk.wide (fun _ h=>h.elim)) (fun _ _ _=>rfl) (fun b hb=>hM.lt b (Nat.le_trans hk.size hb)) (fun b all h=>.inl h) (.refl _) hM.len (fun j x hx=>.inl ⟨hx,fun h=>h⟩)).1
    have hO:O w.heap.size=.no:=hM.lt _ (Nat.le_refl _)
    obtain ⟨hd,g1,g2,g3⟩:=had O ρ st.tb _ w.heap.size (.refl _) (.refl _) hM1 hO (blk_new ty cs)
    have hpre:Pre ρ (ρ ++ [hd]):=.app _ _
    have hq:Stq (· ∉ cr) O ρ w (fun b=>bif Nat.beq w.heap.size b then .th st.tb.length else O b) (ρ ++ [hd]) { w with heap:=w.heap.push (.cells cs.toArray ty) }:=by
     refine ⟨hpre,g2,fun b id _ h _=>?_,hk.wide (fun _ h=>h.elim)⟩
     cases e':Nat.beq w.heap.size b with
     | true=>have:=Nat.eq_of_beq_eq_true e';subst this;rw [hO] at h;cases h
     | false=>exact h
    have hS2:Stp (fun _=>True) O0 ρ0 w0 (fun b=>bif Nat.beq w.heap.size b then .th st.tb.length else O b) (ρ ++ [hd]) { w with heap:=w.heap.push (.cells cs.toArray ty) }:=by
     have hs0:=hS.trans (hS1.weak (M':=fun _=>True) (fun _ h=>h.elim))
     refine ⟨hs0.pre.trans hpre,hs0.im.trans g2,fun b hb h=>?_,fun b id hb h hn=>absurd trivial hn,hs0.kept⟩
     have hsz:=hS.kept.size
     cases e':Nat.beq w.heap.size b with
     | true=>have:=Nat.eq_of_beq_eq_true e';omega
     | false=>exact hs0.no b hb h
    have hF2:FS E.n (a.put o.dst (atB g w.heap.size)) ⟨(d,ivF st.tb.length th) :: st.env,st.tb ++ [th],st.df⟩ (fun b=>bif Nat.beq w.heap.size b then .th st.tb.length else O b) (ρ ++ [hd]):=by
     rw [hod]
     exact ⟨(hF.1.mono g2 hpre).put hdn g3,by rw [put_defers];exact hF.2.mono g2 hpre⟩
    have hDn:Dn P ops w0.heap.size D (a.put o.dst (atB g w.heap.size)).tmps ((d,ivF st.tb.length th) :: st.env) (fun b=>bif Nat.beq w.heap.size b then .th st.tb.length else O b) { w with heap:=w.heap.push (.cells cs.toArray ty) }:=by
     obtain ⟨bf,gf,cf,tf,h1,h2,h3⟩:=hD
     refine ⟨bf,gf,cf,tf,recT_put (E:=E) hap ho h1 _ (ivF st.tb.length th) (by rw [hod];simp only [putE,hdn]),fun j hj=>?_,h3⟩
     have hlt:=(h2 j hj).2.2.lt
     obtain ⟨u1,u2,u3⟩:=recW_stp (h2 j hj) hS1
     refine ⟨?_,u2,u3⟩
     cases e':Nat.beq w.heap.size (bf j) with
     | true=>have:=Nat.eq_of_beq_eq_true e';omega
     | false=>simp only [e',cond_false];exact u1
    obtain ⟨CR,k1,k2⟩:=ih D L _ Cp cr _ _ _ _ _ hB' e hF2 g1 (hG.mono g2) (fun O' ρ' w' h=>hst _ _ _ (hq.trans h)) hS2 hDn
    refine ⟨cr,fun _ h=>h,fun h=>absurd h hi,fun _=>⟨o,ho,?_,hearly⟩⟩
    simp only [Option.getD_none,StepX]
    unfold opO
    rw [if_pos (want_none hg)]
    simp only [Oper.wp,hrun,Oper.upon]
    refine ⟨_,fun w' h=>⟨h.1,?_⟩,⟨hst _ _ _ hq,Kept.refl _ _⟩,k2⟩
    have hk2:=h.2
    refine Kept.trans (S:=fun b=>O b=.no∨∃ id,id ∉ cr∧O b=.th id) (hk.wide (fun _ h=>h.elim)) hk2 (fun b _ hb=>?_)
    cases e':Nat.beq w.heap.size b with
    | true=>have:=Nat.eq_of_beq_eq_true e';subst this;exact .inl hO
    | false=>
     simp only [e',cond_false] at hb
     exact hb.imp (fun h=>h) (fun ⟨id,hn,h⟩=>⟨id,fun hc=>hn (k1 id hc),h⟩)
   | some t=>
    obtain ⟨bf,gf,cf,tf,h1,h2,h3⟩:=hD
    obtain ⟨CR,p1,p2,p3⟩:=stepL_ok (K:=K) (S:=SxM P ops K n D L) (Inv:=fun tm il=>∀ j ∈ D,recT P ops bf gf cf tf j tm il) (O0:=O) (ρ0:=ρ) (w0:=w) hc hct hG e hF hM hst (.refl _ _ _ _) h1 (fun dj g h=>recT_lit h1 h) (fun il hi x v il' h=>recT_put hap ho hi x v h)
     (fun Cp' cr' st' a' w' O' ρ' e' hF' hM' hG' hst' hS' hI'=>ih D L _ Cp' cr' st' a' O' ρ' w' hB' e' hF' hM' hG' hst' (hS.trans hS') ⟨bf,gf,cf,tf,hI',fun j hj=>recW_stp (h2 j hj) hS',h3⟩)
    cases fs with
    | nil=>exact ⟨CR,p1,fun h=>absurd h hi,fun _=>⟨o,ho,p3,fun _ j hj=>by cases hj⟩⟩
    | cons f fs=>
     simp only [isNil,Bool.false_or,Bool.and_eq_true] at hchg
     obtain rfl:=p2 hchg.1 (by
      have:=hchg.2
      unfold noG at this
      split at this
      ·assumption
      ·cases this)
     exact ⟨CR,p1,fun h=>absurd h hi,fun _=>⟨o,ho,p3,hearly⟩⟩
end
section
variable {P:Program} {E:Ev} {ops:List Oper} {K:Act->World->Prop}
def ordB (E:Ev) (id:Nat) (l:List Oper):Bool:=match E.ms id with
 | some π=>okAllM l π
 | none=>match E.al id with
  | none=>okAll l (E.ord id)
  | some ia=>match cutAt ia (E.ord id) with
   | some (x,y)=>okAllP l ia x y
   | none=>false
def OrdOk (P:Program) (E:Ev) (id:Nat) (ops:Array Oper) (draw:Bool):Prop:=draw=true->P.follows .mixedOrders=true∧ordB E id ops.toList=true
def RegOk (P:Program) (ops:Array Oper) (N:Act->World->Prop) (a:Act) (w:World):Bool->Prop
 | false=>wpList P ops (Qn N) ops.toList a w
 | true=>P.follows .mixedOrders=true∧wpAny P .any ops (Qn N) ops.size (Array.replicate ops.size false) a { w with drawn:=w.drawn + 1 }
theorem evR_reg {β:Type} {id:Nat} {opa:Array Oper} {draw:Bool} {st:St} {k:St->Option β} {r:β} {a:Act} {O:Own} {ρ:List Hd} {w:World} {N:Act->World->Prop} (hc:COk P E.c) (hct:CtsOk P E) (hor:OrdOk P E id opa draw)
  (e:evR E id opa.toList draw st k=some r) (hF:FS E.n a st O ρ) (hM:Gm O ρ st.tb w) (hG:GO E.c O)
  (hK:∀ st' a' w' O' ρ',k st'=some r->FS E.n a' st' O' ρ'->Gm O' ρ' st'.tb w'->GO E.c O'->Stp (fun _=>True) O ρ w O' ρ' w'->N a' w'):RegOk P opa N a w draw:=by
 unfold evR at e
 split at e
 ·obtain ⟨CR,_,h⟩:=evL_ok (P:=P) (K:=N) (O0:=O) (ρ0:=ρ) (w0:=w) hc hct (fun st a w O ρ h1 h2 h3 h4 h5=>hK st a w O ρ h1 h2 h3 h4 h5) _ (fun _=>True) [] st a O ρ w e hF hM hG (fun _ _ _ _=>trivial) (.refl _ _ _ _)
  exact sx_plain _ _ a w h
 ·obtain ⟨hm,hok⟩:=hor rfl
  have hdr:=kept_drew w
  have hM':Gm O ρ st.tb { w with drawn:=w.drawn + 1 }:=by
   have:=(hM.step (M:=fun _=>False) (O':=O) (ρ':=ρ) (tb':=st.tb) (w':={ w with drawn:=w.drawn + 1 }) (hdr.wide (fun _ h=>h.elim)) (fun _ _ _=>rfl) (fun b hb=>hM.lt b hb) (fun b all h=>.inl h) (.refl _) hM.len (fun j x hx=>.inl ⟨hx,fun h=>h⟩)).1
   exact this
  have hS0:Stp (fun _=>True) O ρ w O ρ { w with drawn:=w.drawn + 1 }:=⟨.refl _,.refl _,fun _ _ h=>h,fun _ _ _ h _=>h,hdr.wide (fun _ h=>h.elim)⟩
  have hK':∀ st a w' O' ρ',k st=some r->FS E.n a st O' ρ'->Gm O' ρ' st.tb w'->GO E.c O'->Stp (fun _=>True) O ρ { w with drawn:=w.drawn + 1 } O' ρ' w'->N a w':=fun st a w' O' ρ' h1 h2 h3 h4 h5=>hK st a w' O' ρ' h1 h2 h3 h4 (hS0.trans h5)
  unfold ordB at hok
  split at e
  ·rename_i π hms
   simp only [hms] at hok
   have hok2:=hok
   simp only [okAllM,Bool.and_eq_true] at hok2
   obtain ⟨CR,_,h⟩:=evM_ok (P:=P) (K:=N) (O0:=O) (ρ0:=ρ) (w0:={ w with drawn:=w.drawn + 1 }) hc hct hK' _ [] π _ (fun _=>True) [] st a O ρ _ hok2.2 e hF hM' hG (fun _ _ _ _=>trivial) (.refl _ _ _ _) ⟨fun _=>0,fun _=>none,fun _=>[],fun _=>0,fun _ h=>by (cases h),fun _ h=>by (cases h),fun _ h=>by (cases h)⟩
   have:=a_drawM (P:=P) (K:=N) π _ hok ⟨trivial,Kept.refl _ _⟩ h
   exact ⟨hm,by simpa using this⟩
  rename_i hms
  simp only [hms] at hok
  split at e<;>first | (cases e;done) | skip
  rename_i L hL
  split at e
  ·rename_i hal
   rw [hal] at hok
   obtain ⟨CR,_,h⟩:=evL_ok (P:=P) (K:=N) (O0:=O) (ρ0:=ρ) (w0:={ w with drawn:=w.drawn + 1 }) hc hct hK' L (fun _=>True) [] st a O ρ _ e hF hM' hG (fun _ _ _ _=>trivial) (.refl _ _ _ _)
   have:=a_drawX (P:=P) (K:=N) (E.ord id) _ hok hL ⟨trivial,Kept.refl _ _⟩ h
   exact ⟨hm,by simpa using this⟩
  ·rename_i ia hal
   rw [hal] at hok
   split at e<;>first | (cases e;done) | skip
   rename_i hea
   unfold early at hea
   split at hea<;>first | (cases hea;done) | skip
   rename_i oa x y hoa hcut
   split at hea<;>first | (cases hea;done) | skip
   rename_i ta d Lx hal2 hLx
   split at hea<;>first | (cases hea;done) | skip
   rename_i va hva hgd
   simp only [Bool.and_eq_true] at hea
   simp only [hcut] at hok
   rw [cutAt_spec hcut] at hL
   obtain ⟨Ly,hLy,rfl⟩:=pick_split hoa hLx hL
   obtain ⟨CR,_,h⟩:=evP_ok (P:=P) (K:=N) (O0:=O) (ρ0:=ρ) (w0:={ w with drawn:=w.drawn + 1 }) hc hct hK' hal2 hva hea.1 Lx (fun _=>True) [] st a O ρ _ e hea.2 hF hM' hG (fun _ _ _ _=>trivial) (.refl _ _ _ _) hgd
   have:=a_drawP (P:=P) (K:=N) x y _ hok hoa hLx hLy ⟨trivial,Kept.refl _ _⟩ h
   exact ⟨hm,by simpa using this⟩
theorem RegOk.wp {id:Nat} {ops:Array Oper} {N:Act->World->Prop} {X:Nat->Act->World->Prop} {Y:Act->World->Prop} {a:Act} {w:World}:∀ {draw:Bool},RegOk P ops N a w draw->(Code.region id ops draw).wp P (QL N X Y) a w
 | false,h=>by
  have:=wp_of_norm (E:=X) (R:=Y) (wp_region_lit (id:=id) (l:=ops.toList) h)
  simpa using this
 | true,h=>wp_of_norm (wp_region_any h.1 h.2)
theorem evR_ok {β:Type} {id:Nat} {opa:Array Oper} {draw:Bool} {st:St} {k:St->Option β} {r:β} {a:Act} {O:Own} {ρ:List Hd} {w:World} {N:Act->World->Prop} {X:Nat->Act->World->Prop} {Y:Act->World->Prop} (hc:COk P E.c) (hct:CtsOk P E) (hor:OrdOk P E id opa draw)
  (e:evR E id opa.toList draw st k=some r) (hF:FS E.n a st O ρ) (hM:Gm O ρ st.tb w) (hG:GO E.c O)
  (hK:∀ st' a' w' O' ρ',k st'=some r->FS E.n a' st' O' ρ'->Gm O' ρ' st'.tb w'->GO E.c O'->Stp (fun _=>True) O ρ w O' ρ' w'->N a' w'):(Code.region id opa draw).wp P (QL N X Y) a w:=
 (evR_reg hc hct hor e hF hM hG hK).wp
end
end Go.Tw
