/- The core: ideal values and the evaluator. -/
import Derived.Test.YthikoaamigiceaaGreatDoorRK2
namespace Go.Tw
set_option linter.unusedSimpArgs false
set_option linter.unusedVariables false
structure Lc where
 s0:List Nat
 A:List Sh
 T:List TSh
 s1:List Nat
 A1:List Sh
 T1:List TSh
 s2:List Nat
 A2:List Sh
 T2:List TSh
 rf:Bool:=false
 run:(β:Type)->dens A->tdens T->(dens A1->tdens T1->Option β)->(dens A2->tdens T2->Option β)->Option β
 nat:∀ (β:Type) x y k1 k2 (r:β),run β x y k1 k2=some r ->
  (∃ p q,run ((dens A1×tdens T1) ⊕ (dens A2×tdens T2)) x y (fun p q=>some (.inl (p,q))) (fun p q=>some (.inr (p,q)))=some (.inl (p,q))∧k1 p q=some r) ∨
  (∃ p q,run ((dens A1×tdens T1) ⊕ (dens A2×tdens T2)) x y (fun p q=>some (.inl (p,q))) (fun p q=>some (.inr (p,q)))=some (.inr (p,q))∧k2 p q=some r)
def rngF:Nat->Nat->List Nat
 | _,0=>[]
 | j,m + 1=>j :: rngF (j + 1) m
def rng (m:Nat):List Nat:=rngF 0 m
def pickS (il:IEnv):List Nat->Option (List IV)
 | []=>some []
 | t :: ts=>match geti il t,pickS il ts with
  | some (.tu _),_=>none
  | some v,some vs=>some (v :: vs)
  | _,_=>none
def zipS:List Nat->List IV->IEnv
 | t :: ts,v :: vs=>(t,v) :: zipS ts vs
 | _,_=>[]
def mkSt (sl:List Nat) (A:List Sh) (T:List TSh) (x:dens A) (y:tdens T):St:=⟨zipS sl (encs A x),encTs T y,[]⟩
def uniS {β:Type} (m:Nat) (sl:List Nat) (A:List Sh) (T:List TSh) (st:St) (k:dens A->tdens T->Option β):Option β:=
 match pickS st.env sl,st.df with
 | some vs,[]=>uni false A T (rng m) vs st.tb fun x y _=>k x y
 | _,_=>none
def look:List (List Nat×Lc)->List Nat->Option Lc
 | [],_=>none
 | (q,L) :: r,p=>match eqL q p with
  | true=>some L
  | false=>look r p
def frag {β:Type} (m:Nat) (L:Lc) (st:St) (k:Exit->St->Option β):Option β:=
 match L.rf with
 | true=>none
 | false=>uniS m L.s0 L.A L.T st fun x y=>L.run β x y (fun p q=>k .normal (mkSt L.s1 L.A1 L.T1 p q)) (fun p q=>k .ret (mkSt L.s2 L.A2 L.T2 p q))
def mark (st:St):St:=⟨st.env,st.tb ++ [.mk],.pt st.tb.length [] :: st.df⟩
def fragM {β:Type} (m:Nat) (L:Lc) (st:St) (k:Exit->St->Option β):Option β:=
 match L.rf with
 | false=>none
 | true=>uniS m L.s0 L.A L.T st fun x y=>L.run β x y (fun p q=>k .normal (mark (mkSt L.s1 L.A1 L.T1 p q))) (fun _ _=>none)
def loopN {β:Type} (f:St->(Exit->St->Option β)->Option β):Nat->St->(Exit->St->Option β)->Option β
 | 0,_,_=>none
 | n + 1,st,k=>f st fun e st=>match e with
  | .normal=>loopN f n st k
  | e=>k e st
def sev {β:Type} (E:Ev) (m:Nat) (lp:List (List Nat×Lc)):Code->List Nat->St->(Exit->St->Option β)->Option β
 | .skip,_,st,k=>k .normal st
 | .exit j,_,st,k=>k (.exit j) st
 | .ret,_,st,k=>k .ret st
 | .seq a b,p,st,k=>match look lp p with
  | some L=>frag m L st k
  | none=>sev E m lp a (0 :: p) st fun e st=>match e with
   | .normal=>sev E m lp b (1 :: p) st k
   | e=>k e st
 | .region id ops draw,_,st,k=>evR E id ops.toList draw st (k .normal)
 | .cond x a b,p,st,k=>match look lp p with
  | some L=>frag m L st k
  | none=>match iopd E.c st.env x with
   | some (.o (.b g))=>match g with
    | true=>sev E m lp a (0 :: p) st k
    | false=>sev E m lp b (1 :: p) st k
   | _=>none
 | .block id c,p,st,k=>match look lp p with
  | some L=>frag m L st k
  | none=>sev E m lp c (0 :: p) st fun e st=>match e with
   | .exit j=>match Nat.beq j id with
    | true=>k .normal st
    | false=>k (.exit j) st
   | e=>k e st
 | .loop c,p,st,k=>loopN (sev E m lp c (0 :: p)) 64 st k
 | .rangeFunc _ _ _ _,p,st,k=>match look lp p with
  | some L=>fragM m L st k
  | none=>none
 | _,_,_,_=>none
def cAt:Code->List Nat->Code
 | c,[]=>c
 | c,i :: p=>match cAt c p,i with
  | .seq a _,0=>a
  | .seq _ b,_=>b
  | .cond _ a _,0=>a
  | .cond _ _ b,_=>b
  | .block _ c,_=>c
  | .loop c,_=>c
  | c,_=>c
def ordAll (E:Ev):Code->Bool
 | .region id ops draw=>match draw with
  | true=>ordB E id ops.toList
  | false=>true
 | .seq a b=>ordAll E a && ordAll E b
 | .cond _ a b=>ordAll E a && ordAll E b
 | .block _ c=>ordAll E c
 | .loop c=>ordAll E c
 | _=>true
section
variable {P:Program} {E:Ev}
def G (E:Ev) (O0:Own) (ρ0:List Hd) (w0:World) (st:St) (a:Act) (w:World):Prop:=
 ∃ O ρ,FS E.n a st O ρ∧Gm O ρ st.tb w∧GO E.c O∧Stp (fun _=>True) O0 ρ0 w0 O ρ w
def LcOk (P:Program) (E:Ev) (m:Nat) (L:Lc) (c:Code):Prop:=
 ∀ (O0:Own) (ρ0:List Hd) (w0:World),ρ0.length=m->∀ x y z,L.run ((dens L.A1×tdens L.T1) ⊕ (dens L.A2×tdens L.T2)) x y (fun p q=>some (.inl (p,q))) (fun p q=>some (.inr (p,q)))=some z->∀ a w,G E O0 ρ0 w0 (mkSt L.s0 L.A L.T x y) a w ->
  c.wp P (QL (fun a w=>∃ p q,z=.inl (p,q)∧G E O0 ρ0 w0 (mkSt L.s1 L.A1 L.T1 p q) a w) (fun _ _ _=>False) (fun a w=>∃ p q,z=.inr (p,q)∧G E O0 ρ0 w0 (mkSt L.s2 L.A2 L.T2 p q) a w)) a w
def LcOkM (P:Program) (E:Ev) (m:Nat) (L:Lc) (c:Code):Prop:=
 ∀ (O0:Own) (ρ0:List Hd) (w0:World),ρ0.length=m->∀ x y p q,L.run ((dens L.A1×tdens L.T1) ⊕ (dens L.A2×tdens L.T2)) x y (fun p q=>some (.inl (p,q))) (fun p q=>some (.inr (p,q)))=some (.inl (p,q))->∀ a w,G E O0 ρ0 w0 (mkSt L.s0 L.A L.T x y) a w ->
  c.wp P (QL (fun a w=>G E O0 ρ0 w0 (mark (mkSt L.s1 L.A1 L.T1 p q)) a w) (fun _ _ _=>False) (fun _ _=>False)) a w
def LcAny (P:Program) (E:Ev) (m:Nat) (L:Lc) (c:Code):Bool->Prop
 | false=>LcOk P E m L c
 | true=>LcOkM P E m L c
def AllLc (P:Program) (E:Ev) (m:Nat) (root:Code):List (List Nat×Lc)->Prop
 | []=>True
 | (p,L) :: r=>LcAny P E m L (cAt root p) L.rf∧AllLc P E m root r
theorem AllLc.get {m:Nat} {root:Code}:∀ {lp:List (List Nat×Lc)} {p:List Nat} {L:Lc},AllLc P E m root lp->look lp p=some L->LcAny P E m L (cAt root p) L.rf
 | [],p,L,_,e=>by simp [look] at e
 | (q,M) :: r,p,L,h,e=>by
  simp only [look] at e
  split at e
  ·rename_i hq;cases e;have:=eqL_eq hq;subst this;exact h.1
  ·exact AllLc.get h.2 e
theorem rngF_get:∀ (m j i:Nat),i < m->(rngF j m)[i]? = some (j + i)
 | 0,j,i,h=>by omega
 | m + 1,j,0,h=>by simp [rngF]
 | m + 1,j,i + 1,h=>by
  simp only [rngF,List.getElem?_cons_succ]
  rw [rngF_get m (j + 1) i (by omega)];congr 1;omega
theorem rngF_len:∀ (m j:Nat),(rngF j m).length=m
 | 0,j=>rfl
 | m + 1,j=>by simp [rngF,rngF_len m]
theorem rng_get {m i:Nat} (h:i < m):(rng m)[i]? = some i:=by rw [rng,rngF_get m 0 i h];simp
theorem rng_mem {m i:Nat} (h:i ∈ rng m):i < m:=by
 obtain ⟨j,hj⟩:=List.mem_iff_getElem?.1 h
 have hl:=(List.getElem?_eq_some_iff.1 hj).1
 rw [rng,rngF_len] at hl
 rw [rng_get hl] at hj;cases hj;exact hl
theorem rngF_mem:∀ {m j i:Nat},i ∈ rngF j m->j≤i
 | 0,j,i,h=>by simp [rngF] at h
 | m + 1,j,i,h=>by
  simp only [rngF,List.mem_cons] at h
  rcases h with h | h
  ·omega
  ·have:=rngF_mem h;omega
theorem rngF_nodup:∀ (m j:Nat),(rngF j m).Nodup
 | 0,j=>by simp [rngF]
 | m + 1,j=>by
  simp only [rngF,List.nodup_cons]
  exact ⟨fun h=>by have:=rngF_mem h;omega,rngF_nodup m (j + 1)⟩
theorem rng_nodup (m:Nat):(rng m).Nodup:=rngF_nodup m 0
theorem pickS_ok {n:Nat} {a:Act} {il:IEnv} {O:Own} {ρ:List Hd} (h:FI n a il O ρ):∀ {sl:List Nat} {vs:List IV},pickS il sl=some vs->∃ cs,RL O ρ vs cs∧sl.length=vs.length∧∀ (i t:Nat) (x:Value),sl[i]? = some t->(vals vs cs)[i]? = some x->a.tmps[t]? = some x
 | [],vs,e=>by simp only [pickS,Option.some.injEq] at e;subst e;exact ⟨[],rfl,rfl,fun i t x h=>by simp at h⟩
 | t :: ts,vs,e=>by
  simp only [pickS] at e
  split at e<;>first | (cases e;done) | skip
  rename_i v vs' hn ht hts
  cases e
  obtain ⟨cs,h1,h2,h3⟩:=pickS_ok h hts
  obtain ⟨l,hl,hE⟩:=h
  obtain ⟨sv,hsv,hSR⟩:=hE.get ht
  have hy:∃ y,sv=.o y∧S0R O ρ v y:=by
   cases v<;>first | exact hSR | exact absurd rfl (hn _)
  obtain ⟨y,rfl,hS⟩:=hy
  obtain ⟨c0,h4,h5,h6,h7⟩:=hS.cells
  refine ⟨c0 :: cs,⟨c0,cs,rfl,h5,h1⟩,by simp [h2],fun i t' x hi hx=>?_⟩
  cases i with
  | zero=>
   simp at hi;subst hi
   simp [vals] at hx;subst hx
   have:a.tmps[t]? = _:=hl.has t _ hsv
   rw [this]
   simp only [SV.val]
   cases hg:v.agg with
   | true=>rw [h6 hg];rfl
   | false=>rw [h7 hg];simp
  | succ i=>exact h3 i t' x (by simpa using hi) (by simpa [vals] using hx)
theorem FI.of {n:Nat} {a:Act} {O:Own} {ρ:List Hd} (hz:a.tmps.size=n):∀ {sl:List Nat} {vs:List IV} {cs:List (List Value)},RL O ρ vs cs->(∀ (i t:Nat) (x:Value),sl[i]? = some t->(vals vs cs)[i]? = some x->a.tmps[t]? = some x)->FI n a (zipS sl vs) O ρ
 | [],vs,cs,_,_=>⟨[],⟨rfl,hz,fun t v h=>by simp [get?] at h⟩,by simp [zipS,ER]⟩
 | _ :: _,[],cs,_,_=>⟨[],⟨rfl,hz,fun t v h=>by simp [get?] at h⟩,by simp [zipS,ER]⟩
 | t :: sl,v :: vs,cs,h,hx=>by
  obtain ⟨c0,r,rfl,h1,h2⟩:=h
  obtain ⟨l,hl,hE⟩:=FI.of (sl:=sl) hz h2 (fun i t' x hi hxx=>hx (i + 1) t' x (by simpa using hi) (by simpa [vals] using hxx))
  obtain ⟨sv,hsv,hval⟩:=res_SR (vs:=[v]) (ds:=[c0]) ⟨c0,[],rfl,h1,rfl⟩
  refine ⟨(t,sv) :: l,⟨rfl,hz,fun t' u hu=>?_⟩,rfl,hsv,hE⟩
  simp only [get?] at hu
  cases hb:Nat.beq t t' with
  | true=>
   rw [hb] at hu;cases hu
   rw [← Nat.eq_of_beq_eq_true hb,hval]
   exact hx 0 t _ (by simp) (by simp [vals,resV])
  | false=>rw [hb] at hu;exact hl.has t' u hu
theorem uniS_ok {β:Type} {m:Nat} {sl:List Nat} {A:List Sh} {T:List TSh} {st:St} {k:dens A->tdens T->Option β} {r:β} {a:Act} {w w0:World} {O0:Own} {ρ0:List Hd} (hm:ρ0.length=m) (e:uniS m sl A T st k=some r) (h:G E O0 ρ0 w0 st a w) :
  ∃ x y,k x y=some r∧G E O0 ρ0 w0 (mkSt sl A T x y) a w:=by
 obtain ⟨O,ρ,hF,hM,hG,hS⟩:=h
 unfold uniS at e
 split at e<;>first | (cases e;done) | skip
 rename_i vs hvs hdf
 obtain ⟨cs,hR,hlen,hslots⟩:=pickS_ok hF.1 hvs
 have hle:m≤st.tb.length:=by
  rw [← hM.len,← hm]
  rcases Nat.lt_or_ge ρ.length ρ0.length with h' | h'
  ·have h1:ρ0[ρ.length]? = some ρ0[ρ.length]:=by simp [h']
   have:=hS.pre _ _ h1
   simp at this
  ·exact h'
 obtain ⟨x,y,u',O',ρ',hk,U⟩:=uni_ok e hM hR (rng_nodup m) (fun i hi=>Nat.lt_of_lt_of_le (rng_mem hi) hle)
 obtain ⟨more,hbd⟩:=U.gh.bd
 have hb:∀ i,i < ρ0.length->u'.bd[i]? = some i:=fun i hi=>by
  rw [hm] at hi
  rw [hbd]
  show (rng m ++ more)[i]? = some i
  rw [List.getElem?_append_left (by rw [rng,rngF_len];exact hi)];exact rng_get hi
 have hS2:=(hS.trans (U.gh.stp.weak (fun _ _=>trivial))).oc (lt:=u'.lt) hb
 obtain ⟨⟨l,hl,_⟩,hD⟩:=hF
 rw [hdf] at hD
 refine ⟨x,y,hk,_,_,?_,U.gm,hG.mono (U.gh.stp.im.trans (Oc_le _ _ _ _)),hS2⟩
 refine ⟨?_,hD⟩
 exact FI.of hl.size U.rl (fun i t v hi hv=>hslots i t v hi (by rw [← vals_sz U.sz];exact hv))
theorem cAt_seq0 {root:Code} {p:List Nat} {a b:Code} (h:cAt root p=.seq a b):cAt root (0 :: p)=a:=by simp [cAt,h]
theorem cAt_seq1 {root:Code} {p:List Nat} {a b:Code} (h:cAt root p=.seq a b):cAt root (1 :: p)=b:=by simp [cAt,h]
theorem cAt_cond0 {root:Code} {p:List Nat} {x:Operand} {a b:Code} (h:cAt root p=.cond x a b):cAt root (0 :: p)=a:=by simp [cAt,h]
theorem cAt_cond1 {root:Code} {p:List Nat} {x:Operand} {a b:Code} (h:cAt root p=.cond x a b):cAt root (1 :: p)=b:=by simp [cAt,h]
theorem cAt_loop {root:Code} {p:List Nat} {a:Code} (h:cAt root p=.loop a):cAt root (0 :: p)=a:=by simp [cAt,h]
theorem cAt_block {root:Code} {p:List Nat} {id:Nat} {a:Code} (h:cAt root p=.block id a):cAt root (0 :: p)=a:=by simp [cAt,h]
theorem sev_ok {β:Type} {m:Nat} {lp:List (List Nat×Lc)} {root:Code} {O0:Own} {ρ0:List Hd} {w0:World} {r:β} (hc:COk P E.c) (hct:CtsOk P E) (hmx:P.follows .mixedOrders=true) (hm:ρ0.length=m) (hlp:AllLc P E m root lp) :
  ∀ (c:Code) (p:List Nat) (st:St) (k:Exit->St->Option β) (N:Act->World->Prop) (X:Nat->Act->World->Prop) (Y:Act->World->Prop) (a:Act) (w:World),cAt root p=c->ordAll E c=true->sev E m lp c p st k=some r->G E O0 ρ0 w0 st a w ->
   (∀ e st' a' w',k e st'=some r->G E O0 ρ0 w0 st' a' w'->QL N X Y e a' w')->c.wp P (QL N X Y) a w:=by
 have fr:∀ {L:Lc} {c:Code} {st:St} {k:Exit->St->Option β} {N:Act->World->Prop} {X:Nat->Act->World->Prop} {Y:Act->World->Prop} {a:Act} {w:World},LcAny P E m L c L.rf->frag m L st k=some r->G E O0 ρ0 w0 st a w ->
   (∀ e st' a' w',k e st'=some r->G E O0 ρ0 w0 st' a' w'->QL N X Y e a' w')->c.wp P (QL N X Y) a w:=by
  intro L c st k N X Y a w hL e hG hK
  unfold frag at e
  split at e<;>first | (cases e;done) | skip
  rename_i hrf
  rw [hrf] at hL
  have hL:LcOk P E m L c:=hL
  obtain ⟨x,y,hk,hG'⟩:=uniS_ok hm e hG
  rcases L.nat _ x y _ _ r hk with ⟨p,q,h1,h2⟩ | ⟨p,q,h1,h2⟩
  ·refine c_mono (hL O0 ρ0 w0 hm x y _ h1 a w hG') (fun a w h=>?_) (fun _ _ _ h=>h.elim) (fun a w h=>?_)
   ·obtain ⟨p',q',e',h⟩:=h;cases e';exact hK .normal _ _ _ h2 h
   ·obtain ⟨p',q',e',h⟩:=h;cases e'
  ·refine c_mono (hL O0 ρ0 w0 hm x y _ h1 a w hG') (fun a w h=>?_) (fun _ _ _ h=>h.elim) (fun a w h=>?_)
   ·obtain ⟨p',q',e',h⟩:=h;cases e'
   ·obtain ⟨p',q',e',h⟩:=h;cases e';exact hK .ret _ _ _ h2 h
 intro c
 induction c with
 | skip=>intro p st k N X Y a w hp ho e hG hK;exact c_skip (hK .normal st a w e hG)
 | exit j=>intro p st k N X Y a w hp ho e hG hK;exact c_exit (hK (.exit j) st a w e hG)
 | ret=>intro p st k N X Y a w hp ho e hG hK;exact c_ret (hK .ret st a w e hG)
 | seq x y ihx ihy=>
  intro p st k N X Y a w hp ho e hG hK
  simp only [ordAll,Bool.and_eq_true] at ho
  simp only [sev] at e
  split at e
  ·rename_i L hL
   have:=hlp.get hL
   rw [hp] at this
   exact fr this e hG hK
  refine c_seq (ihx (0 :: p) st _ _ X Y a w (cAt_seq0 hp) ho.1 e hG (fun e st' a' w' h1 h2=>?_))
  cases e with
  | normal=>exact ihy (1 :: p) st' k N X Y a' w' (cAt_seq1 hp) ho.2 h1 h2 hK
  | exit j=>exact hK (.exit j) st' a' w' h1 h2
  | ret=>exact hK .ret st' a' w' h1 h2
  | goto j=>exact (hK (.goto j) st' a' w' h1 h2:False).elim
  | panic ch=>exact (hK (.panic ch) st' a' w' h1 h2:False).elim
  | outgrown=>exact (hK .outgrown st' a' w' h1 h2:False).elim
 | region id ops draw=>
  intro p st k N X Y a w hp ho e hG hK
  obtain ⟨O,ρ,hF,hM,hGO,hS⟩:=hG
  refine evR_ok hc hct (fun hd=>?_) e hF hM hGO (fun st' a' w' O' ρ' h1 h2 h3 h4 h5=>hK .normal st' a' w' h1 ⟨O',ρ',h2,h3,h4,hS.trans h5⟩)
  subst hd
  exact ⟨hmx,ho⟩
 | cond x y z ihy ihz=>
  intro p st k N X Y a w hp ho e hG hK
  simp only [ordAll,Bool.and_eq_true] at ho
  simp only [sev] at e
  split at e
  ·rename_i L hL
   have:=hlp.get hL
   rw [hp] at this
   exact fr this e hG hK
  ·split at e<;>first | (cases e;done) | skip
   rename_i g hx
   obtain ⟨O,ρ,⟨⟨l,hl,hER⟩,hD⟩,hM,hGO,hS⟩:=hG
   have hev:a.eval x=_:=opd_val hl (iopd_o hER hGO hx).1
   refine wp_cond_split (t:=g) hev (fun hg=>?_) (fun hg=>?_)
   ·subst hg;exact ihy (0 :: p) st k N X Y a w (cAt_cond0 hp) ho.1 e ⟨O,ρ,⟨⟨l,hl,hER⟩,hD⟩,hM,hGO,hS⟩ hK
   ·subst hg;exact ihz (1 :: p) st k N X Y a w (cAt_cond1 hp) ho.2 e ⟨O,ρ,⟨⟨l,hl,hER⟩,hD⟩,hM,hGO,hS⟩ hK
 | block id b ih=>
  intro p st k N X Y a w hp ho e hG hK
  simp only [ordAll] at ho
  simp only [sev] at e
  split at e
  ·rename_i L hL
   have:=hlp.get hL
   rw [hp] at this
   exact fr this e hG hK
  ·refine c_block (ih (0 :: p) st _ _ _ Y a w (cAt_block hp) ho e hG (fun e st' a' w' h1 h2=>?_))
   cases e with
   | normal=>exact hK .normal st' a' w' h1 h2
   | exit j=>
    simp only at h1
    show if j=id then N a' w' else X j a' w'
    split at h1
    ·rename_i hj;rw [if_pos (Nat.eq_of_beq_eq_true hj)];exact hK .normal st' a' w' h1 h2
    ·rename_i hj;rw [if_neg (Nat.ne_of_beq_eq_false hj)];exact hK (.exit j) st' a' w' h1 h2
   | ret=>exact hK .ret st' a' w' h1 h2
   | goto j=>exact (hK (.goto j) st' a' w' h1 h2:False).elim
   | panic ch=>exact (hK (.panic ch) st' a' w' h1 h2:False).elim
   | outgrown=>exact (hK .outgrown st' a' w' h1 h2:False).elim
 | loop b ih=>
  intro p st k N X Y a w hp ho e hG hK
  simp only [ordAll] at ho
  simp only [sev] at e
  refine c_rounds (fun n a w=>∃ st,loopN (sev E m lp b (0 :: p)) n st k=some r∧G E O0 ρ0 w0 st a w) ?_ ?_ 64 a w ⟨st,e,hG⟩
  ·rintro a w ⟨st,e,_⟩;simp [loopN] at e
  ·rintro n a w ⟨st,e,hG⟩
   simp only [loopN] at e
   refine ih (0 :: p) st _ _ X Y a w (cAt_loop hp) ho e hG (fun e st' a' w' h1 h2=>?_)
   cases e with
   | normal=>exact ⟨st',h1,h2⟩
   | exit j=>exact hK (.exit j) st' a' w' h1 h2
   | ret=>exact hK .ret st' a' w' h1 h2
   | goto j=>exact (hK (.goto j) st' a' w' h1 h2:False).elim
   | panic ch=>exact (hK (.panic ch) st' a' w' h1 h2:False).elim
   | outgrown=>exact (hK .outgrown st' a' w' h1 h2:False).elim
 | rangeFunc g ps as b iha ihb=>
  intro p st k N X Y a w hp ho e hG hK
  simp only [sev] at e
  split at e<;>first | (cases e;done) | skip
  rename_i L hL
  have hLc:=hlp.get hL
  rw [hp] at hLc
  unfold fragM at e
  split at e<;>first | (cases e;done) | skip
  rename_i hrf
  rw [hrf] at hLc
  have hLc:LcOkM P E m L (.rangeFunc g ps as b):=hLc
  obtain ⟨x,y,hk,hG'⟩:=uniS_ok hm e hG
  rcases L.nat _ x y _ _ r hk with ⟨p',q',h1,h2⟩ | ⟨p',q',h1,h2⟩
  ·exact c_mono (hLc O0 ρ0 w0 hm x y p' q' h1 a w hG') (fun a w h=>hK .normal _ _ _ h2 h) (fun _ _ _ h=>h.elim) (fun _ _ h=>h.elim)
  ·cases h2
 | _=>intro p st k N X Y a w hp ho e hG hK;simp [sev] at e
abbrev Full (A:List Sh) (T:List TSh) (A1:List Sh) (T1:List TSh) (A2:List Sh) (T2:List TSh):Type:=(dens A×tdens T) ⊕ ((dens A1×tdens T1) ⊕ (dens A2×tdens T2))
def kLoop {β:Type} (m:Nat) (s0:List Nat) (A:List Sh) (T:List TSh) (s1:List Nat) (A1:List Sh) (T1:List TSh) (s2:List Nat) (A2:List Sh) (T2:List TSh) (id:Nat) (again:dens A->tdens T->Option β) (out:dens A1->tdens T1->Option β) (ret:dens A2->tdens T2->Option β):Exit->St->Option β:=fun e st=>match e with
 | .normal=>uniS m s0 A T st again
 | .exit j=>match Nat.beq j id with
  | true=>uniS m s1 A1 T1 st out
  | false=>none
 | .ret=>uniS m s2 A2 T2 st ret
 | _=>none
theorem lc_loop {σ τ1 τ2:Type} {m:Nat} {lp:List (List Nat×Lc)} {root b:Code} {p:List Nat} {id:Nat} (s0:List Nat) (A:List Sh) (T:List TSh) (s1:List Nat) (A1:List Sh) (T1:List TSh) (s2:List Nat) (A2:List Sh) (T2:List TSh) (hc:COk P E.c) (hct:CtsOk P E) (hmx:P.follows .mixedOrders=true) (hlp:AllLc P E m root lp) (hp:cAt root p=b) (ho:ordAll E b=true)
  (f:σ->Option (σ ⊕ (τ1 ⊕ τ2))) (eA:σ->dens A) (eT:σ->tdens T) (e1:τ1->dens A1×tdens T1) (e2:τ2->dens A2×tdens T2)
  (hb:∀ s r,f s=some r->sev E m lp b p (mkSt s0 A T (eA s) (eT s)) (kLoop (β:=Full A T A1 T1 A2 T2) m s0 A T s1 A1 T1 s2 A2 T2 id (fun x y=>some (.inl (x,y))) (fun x y=>some (.inr (.inl (x,y)))) (fun x y=>some (.inr (.inr (x,y))))) =
   some (match r with | .inl s=>.inl (eA s,eT s) | .inr (.inl z)=>.inr (.inl (e1 z)) | .inr (.inr z)=>.inr (.inr (e2 z))))
  {O0:Own} {ρ0:List Hd} {w0:World} (hm:ρ0.length=m) {fuel:Nat} {i0:σ} {z:τ1 ⊕ τ2} (hz:iter f fuel i0=some z) {a:Act} {w:World} (hG:G E O0 ρ0 w0 (mkSt s0 A T (eA i0) (eT i0)) a w) :
  (Code.block id (.loop b)).wp P (QL (fun a w=>∃ t,z=.inl t∧G E O0 ρ0 w0 (mkSt s1 A1 T1 (e1 t).1 (e1 t).2) a w) (fun _ _ _=>False) (fun a w=>∃ t,z=.inr t∧G E O0 ρ0 w0 (mkSt s2 A2 T2 (e2 t).1 (e2 t).2) a w)) a w:=by
 refine c_block (c_loop f (fun s a w=>G E O0 ρ0 w0 (mkSt s0 A T (eA s) (eT s)) a w)
  (fun z e a w=>match z with
   | .inl t=>e=.exit id∧G E O0 ρ0 w0 (mkSt s1 A1 T1 (e1 t).1 (e1 t).2) a w
   | .inr t=>e=.ret∧G E O0 ρ0 w0 (mkSt s2 A2 T2 (e2 t).1 (e2 t).2) a w) ?_ (x:=z) ?_ ?_ fuel i0 a w hG hz)
 ·intro s a w hG r hr
  refine sev_ok hc hct hmx hm hlp b p _ _ _ _ _ a w hp ho (hb s r hr) hG (fun e st' a' w' h1 h2=>?_)
  cases e with
  | normal=>
   obtain ⟨x,y,h3,h4⟩:=uniS_ok hm h1 h2
   simp only [Option.some.injEq] at h3
   show ∃ s',r=.inl s'∧_
   cases r with
   | inl s'=>simp only [Sum.inl.injEq,Prod.mk.injEq] at h3;obtain ⟨rfl,rfl⟩:=h3;exact ⟨s',rfl,h4⟩
   | inr t=>cases t<;>cases h3
  | exit j=>
   simp only [kLoop] at h1
   split at h1
   ·rename_i hj
    have:=Nat.eq_of_beq_eq_true hj
    subst this
    obtain ⟨x,y,h3,h4⟩:=uniS_ok hm h1 h2
    simp only [Option.some.injEq] at h3
    show ∃ x,r=.inr x∧_
    cases r with
    | inl s'=>cases h3
    | inr t=>
     cases t with
     | inl t=>simp only [Sum.inr.injEq,Sum.inl.injEq] at h3;refine ⟨.inl t,rfl,rfl,?_⟩;rw [← h3];exact h4
     | inr t=>cases h3
   ·cases h1
  | ret=>
   obtain ⟨x,y,h3,h4⟩:=uniS_ok hm h1 h2
   simp only [Option.some.injEq] at h3
   show ∃ x,r=.inr x∧_
   cases r with
   | inl s'=>cases h3
   | inr t=>
    cases t with
    | inl t=>cases h3
    | inr t=>simp only [Sum.inr.injEq] at h3;refine ⟨.inr t,rfl,rfl,?_⟩;rw [← h3];exact h4
  | goto j=>cases h1
  | panic ch=>cases h1
  | outgrown=>cases h1
 ·intro k a w h
  cases z with
  | inl t=>obtain ⟨rfl',h⟩:=h;cases rfl';show if id=id then _ else _;rw [if_pos rfl];exact ⟨t,rfl,h⟩
  | inr t=>obtain ⟨h,_⟩:=h;cases h
 ·intro a w h
  cases z with
  | inl t=>obtain ⟨h,_⟩:=h;cases h
  | inr t=>exact ⟨t,rfl,h.2⟩
def resS (c:Cfg) (il:IEnv) (tb:Tbl):List ResultVar->Option (List IV)
 | []=>some []
 | .tmp t :: r=>match geti il t,resS c il tb r with
  | some (.tu _),_=>none
  | some v,some vs=>some (v :: vs)
  | _,_=>none
 | .cell t ty :: r=>match geti il t,resS c il tb r with
  | some (.pt id []),some vs=>match nth tb id with
   | some (.blk _ v)=>match fits c ty v with
    | true=>some (v :: vs)
    | false=>none
   | _=>none
  | _,_=>none
def runD {β:Type} (E:Ev) (k:Tbl->Option β):List IV->Tbl->Option β
 | [],tb=>k tb
 | .fn f a cc :: r,tb=>match unch a,unch cc with
  | some l1,some l3=>match pickCt (l1 ++ l3) tb (E.cd f) with
   | some ct=>callF ct (l1 ++ l3) tb fun _ tb _=>runD E k r tb
   | none=>none
  | _,_=>none
 | _,_=>none
def kFn {β:Type} (E:Ev) (m:Nat) (rs:List ResultVar) (B:List Sh) (U:List TSh) (k:dens B->tdens U->Option β):Exit->St->Option β:=fun e st=>match e with
 | .normal=>runD E (fun tb=>match resS E.c st.env tb rs with
  | some vs=>uni false B U (rng m) vs tb fun x y _=>k x y
  | none=>none) st.df st.tb
 | .ret=>runD E (fun tb=>match resS E.c st.env tb rs with
  | some vs=>uni false B U (rng m) vs tb fun x y _=>k x y
  | none=>none) st.df st.tb
 | _=>none
def resF (tmps:Array Value):ResultVar->Sem Value
 | .tmp t=>pure (tmps.getD t undef)
 | .cell a t=>do loadVar t (← asAddr (tmps.getD a undef))
theorem run_loadVar {c:Cfg} (hc:COk P c) {O:Own} {ρ:List Hd} {t:Nat} {ad:Addr} {u:IV} {us:List Value} {w:World} (hf:fits c t u=true) (hR:R O ρ false u us) (hcell:∀ j y,us[j]? = some y->w.cell? (ad.add j)=some y) :
  (loadVar t ad).run P w=.ok (bif u.agg then .agg us.toArray else us.headD (.bool false)) w:=by
 unfold fits at hf
 split at hf<;>first | (cases hf;done) | skip
 rename_i d hd
 have hl:=R.length hR
 split at hf<;>first | (cases hf;done) | skip
 ·rename_i hg hu
  split at hf<;>first | (cases hf;done) | skip
  rename_i z hz
  have hz':=Nat.eq_of_beq_eq_true hf
  have hload:(loadCells ad us.length).run P w=.ok us.toArray w:=run_loadCells_list (P:=P) w ad us hcell
  rw [hl,← hz'] at hload
  simp [loadVar,run_isAgg (hc.tok.desc _ _ hd),hg,hc.tok.size _ _ hz,hload,hu]
 ·rename_i hg hu
  have h1:u.sz.size=1:=by cases u<;>simp [IV.agg] at hu<;>rfl
  rw [h1] at hl
  obtain ⟨y,rfl⟩:=List.length_eq_one_iff.1 hl
  have:=hcell 0 y rfl
  have e0:ad.add 0=ad:=by unfold Addr.add;simp
  rw [e0] at this
  simp [loadVar,run_isAgg (hc.tok.desc _ _ hd),hg,this,hu]
def RunL (P:Program) (w:World):List (Sem Value)->List Value->Prop
 | [],xs=>xs=[]
 | f :: fs,xs=>∃ x r,xs=x :: r∧f.run P w=.ok x w∧RunL P w fs r
theorem mapM_run {α:Type} {w:World} (f:α->Sem Value):∀ {l:List α} {xs:List Value},RunL P w (l.map f) xs->(l.mapM f).run P w=.ok xs w
 | [],xs,h=>by simp only [List.map_nil,RunL] at h;subst h;rfl
 | a :: l,xs,h=>by
  obtain ⟨x,r,rfl,h1,h2⟩:=h
  simp only [List.mapM_cons,Sem.run_bind,h1,mapM_run f h2,Result.andThen_ok]
  rfl
theorem resS_ok {c:Cfg} {n:Nat} {a:Act} {il:IEnv} {tb:Tbl} {O:Own} {ρ:List Hd} {w:World} (hc:COk P c) (h:FI n a il O ρ) (hM:Gm O ρ tb w):∀ {rs:List ResultVar} {vs:List IV},resS c il tb rs=some vs->∃ cs,RL O ρ vs cs∧RunL P w (rs.map (resF a.tmps)) (vals vs cs)
 | [],vs,e=>by simp only [resS,Option.some.injEq] at e;subst e;exact ⟨[],rfl,rfl⟩
 | .tmp t :: r,vs,e=>by
  simp only [resS] at e
  split at e<;>first | (cases e;done) | skip
  rename_i v vs' hn ht hts
  cases e
  obtain ⟨cs,h1,h2⟩:=resS_ok hc h hM hts
  obtain ⟨l,hl,hE⟩:=h
  obtain ⟨sv,hsv,hSR⟩:=hE.get ht
  have hy:∃ y,sv=.o y∧S0R O ρ v y:=by
   cases v<;>first | exact hSR | exact absurd rfl (hn _)
  obtain ⟨y,rfl,hS⟩:=hy
  obtain ⟨c0,h4,h5,h6,h7⟩:=hS.cells
  refine ⟨c0 :: cs,⟨c0,cs,rfl,h5,h1⟩,_,_,rfl,?_,h2⟩
  have:a.tmps[t]? = _:=hl.has t _ hsv
  simp only [resF,Sem.run_pure,Array.getD_eq_getD_getElem?,this,Option.getD_some,SV.val]
  cases hg:v.agg with
  | true=>rw [h6 hg];rfl
  | false=>rw [h7 hg];simp
 | .cell t ty :: r,vs,e=>by
  simp only [resS] at e
  split at e<;>first | (cases e;done) | skip
  rename_i id vs' ht hts
  split at e<;>first | (cases e;done) | skip
  rename_i bt v hb
  split at e<;>first | (cases e;done) | skip
  rename_i hf
  cases e
  obtain ⟨cs,h1,h2⟩:=resS_ok hc h hM hts
  obtain ⟨l,hl,hE⟩:=h
  obtain ⟨sv,hsv,y,rfl,u,rfl,hd,off,h3,h4,h5⟩:=hE.get ht
  cases h5
  rw [nth_eq] at hb
  obtain ⟨hd',c0,h6,h7,h8,h9,h10⟩:=hM.th _ _ hb
  rw [h3] at h6;cases h6
  have hoff:off=0:=by
   have:hd.z.off []=some 0:=by cases hd.z<;>rfl
   rw [this] at h4;cases h4;rfl
  subst hoff
  refine ⟨c0 :: cs,⟨c0,cs,rfl,h9,h1⟩,_,_,rfl,?_,h2⟩
  have:a.tmps[t]? = _:=hl.has t _ hsv
  have hrun:=run_loadVar (P:=P) (w:=w) (ad:=⟨hd.b,0,none⟩) hc hf h9 (fun j z hj=>by rw [add_zero _ rfl,Nat.zero_add,h10.cell];exact hj)
  simp only [resF,Array.getD_eq_getD_getElem?,this,Option.getD_some,SV.val,S0.val,asAddr,Sem.run_bind,Sem.run_pure,Result.andThen_ok]
  exact hrun
def resL:List Value->Value
 | [x]=>x
 | l=>.tuple l.toArray
theorem results_run {fn:Func} {a:Act} {w:World} {xs:List Value} (h:RunL P w (fn.results.toList.map (resF a.tmps)) xs):(results fn a.tmps).run P w=.ok (resL xs) w:=by
 have hm:(fn.results.mapM (resF a.tmps)).run P w=.ok xs.toArray w:=by
  have:=mapM_run (P:=P) (w:=w) (resF a.tmps) h
  rw [Array.mapM_eq_mapM_toList]
  simp [this]
 have hres:results fn a.tmps=(do
   let vs ← fn.results.mapM (resF a.tmps)
   pure (if h:vs.size=1 then vs[0] else .tuple vs)):=by
  unfold results;congr 1;first | done | (congr 1;funext rv;cases rv<;>rfl)
 rw [hres]
 simp only [Sem.run_bind,hm,Result.andThen_ok,Sem.run_pure]
 match xs,hm with
 | [],_=>rfl
 | [x],_=>rfl
 | x :: y :: r,_=>simp [resL]
theorem Pre.tk (m:Nat) (ρ:List Hd):Pre (ρ.take m) ρ:=fun i h e=>by
 rw [List.getElem?_take] at e
 split at e
 ·exact e
 ·cases e
theorem leaves_ok {β:Type} {fn:Func} {tmps:Array Value} {Q:Value->World->Prop} {k:Tbl->Option β} {r:β} (hct:CtsOk P E) {O0:Own} {ρ0:List Hd} {w0:World}
  (hK:∀ tb w O ρ,k tb=some r->Gm O ρ tb w->GO E.c O->Stp (fun _=>True) O0 ρ0 w0 O ρ w->∃ v,(results fn tmps).run P w=.ok v w∧Q v w):∀ (df:List IV) (ds:List Deferred) (tb:Tbl) (w:World) (O:Own) (ρ:List Hd),runD E k df tb=some r->DR O ρ df ds->Gm O ρ tb w->GO E.c O->Stp (fun _=>True) O0 ρ0 w0 O ρ w->Leaves P fn tmps (Ret Q) ds .returning w
 | [],ds,tb,w,O,ρ,e,hD,hM,hG,hS=>by
  simp only [DR] at hD
  subst hD
  obtain ⟨v,h1,h2⟩:=hK tb w O ρ e hM hG hS
  exact ⟨v,h1,h2⟩
 | v :: df,ds,tb,w,O,ρ,e,hD,hM,hG,hS=>by
  rcases hD with ⟨fv,first,cap,r',rfl,hR,hD⟩ | ⟨id,h,r',rfl,_⟩
  rotate_left
  ·simp [runD] at e
  cases v<;>simp only [runD] at e<;>first | (cases e;done) | skip
  rename_i f av cv
  split at e<;>first | (cases e;done) | skip
  rename_i l1 l3 h1 h3
  split at e<;>first | (cases e;done) | skip
  rename_i ct hp
  obtain ⟨hSd,fn',hf,hb,hnm⟩:=hct.2 f ct (pickCt_mem hp)
  obtain ⟨xs,ys,hcs,hxs,hys⟩:=hR
  simp only [List.cons.injEq,and_true,Value.func.injEq] at hcs
  obtain ⟨rfl,rfl,rfl⟩:=hcs
  obtain ⟨c1,r1,rfl⟩:=unch_ok h1 hxs
  obtain ⟨c3,r3,rfl⟩:=unch_ok h3 hys
  obtain ⟨rall,vall⟩:=RL.append r1 r3
  obtain ⟨v,tb',mu,hk,hcall⟩:=callF_ok hSd e hG hM rall
  rw [vall] at hcall
  have hcall:CallsD P f _ .returning w _:=hcall
  have hnm':¬ fn'.name = "runtime.NumGoroutine" := by simpa using hnm
  have hb':¬ fn'.body=none:=by intro e;simp [e] at hb
  refine leaves_cons (by simp) (f:=f) (args:=((vals l1 c1) ++ (vals l3 c3)).toArray) (by simp [invoke,callFunc,hf,hnm',hb']) (hcall.mono fun en u w' he=>?_)
  obtain ⟨hu,he⟩:=he
  subst hu
  cases en with
  | returned z=>
   obtain ⟨O',ρ',sv,g1,g2,g3,g4⟩:=he
   exact leaves_ok hct hK df r' tb' w' O' ρ' hk (hD.mono g4.im g4.pre) g3 (hG.mono g4.im) (hS.trans (g4.weak (fun _ _=>trivial)))
  | panicked _=>exact he.elim
  | outgrown=>exact he.elim
theorem fn_okK (d:Bool) {f:FuncId} {fn:Func} {code:Code} {ct:Ct} {lp:List (List Nat×Lc)} (hf:P.funcs[f]? = some fn) (hb:fn.body=some code) (hn:fn.ntmps=E.n) (hl:Nat.ble ct.A.length E.n=true) (hmT:Nat.ble ct.m ct.T.length=true) (hc:COk P E.c) (hct:CtsOk P E) (hmx:P.follows .mixedOrders=true) (hlp:AllLc P E ct.m code lp) (ho:ordAll E code=true) (hcd:d=true->∀ f,E.cd f=[])
  (h:∀ x y p q,ct.run _ x y (fun p q=>some (p,q))=some (p,q)->sev E ct.m lp code [] (mkSt (rng ct.A.length) ct.A ct.T x y) (kFn E ct.m fn.results.toList ct.B ct.U fun p q=>some (p,q))=some (p,q)):SoundK P E.c d f ct:=by
 intro x y p q hrun O ρ w cs hG hM hR
 have hmT:ct.m≤ct.T.length:=by simpa using hmT
 have hm:(ρ.take ct.m).length=ct.m:=by rw [List.length_take,hM.len,encTs_len];omega
 have hvl:∀ {vs:List IV} {cs:List (List Value)},RL O ρ vs cs->(vals vs cs).length=vs.length:=by
  intro vs
  induction vs with
  | nil=>intro cs h;simp [vals]
  | cons v vs ih=>intro cs h;obtain ⟨c0,r,rfl,h1,h2⟩:=h;simp [vals,ih h2]
 have hlen:(vals (encs ct.A x) cs).length=ct.A.length:=by rw [hvl hR,encs_len]
 have hl':ct.A.length≤E.n:=by simpa using hl
 let Q:Value->World->Prop:=fun v w'=>∃ O' ρ' ds,Gm O' ρ' (encTs ct.U q) w'∧Stp (fun _=>True) O (ρ.take ct.m) w O' ρ' w'∧RL O' ρ' (encs ct.B p) ds∧v=resV (encs ct.B p) ds
 have hG0:G E O (ρ.take ct.m) w (mkSt (rng ct.A.length) ct.A ct.T x y) { tmps:=(vals (encs ct.A x) cs).toArray ++ Array.replicate (fn.ntmps - (vals (encs ct.A x) cs).toArray.size) undef,defers:=[] } w:=by
  rw [hn]
  refine ⟨O,ρ,⟨FI.of (by simp [hlen];omega) hR (fun i t v hi hv=>?_),rfl⟩,hM,hG,⟨Pre.tk _ _,fun _ _ h=>h,fun _ _ h=>h,fun _ _ _ h _=>h,Kept.refl _ _⟩⟩
  have hi':=(List.getElem?_eq_some_iff.1 hi).1
  rw [rng,rngF_len] at hi'
  rw [rng_get hi'] at hi;cases hi
  rw [Array.getElem?_append_left (by simp [hlen,hi'])]
  simpa using hv
 have leaf:∀ {st':St} {a':Act} {w':World},(runD E (fun tb=>match resS E.c st'.env tb fn.results.toList with
   | some vs=>uni false ct.B ct.U (rng ct.m) vs tb fun x y _=>some (x,y)
   | none=>none) st'.df st'.tb)=some (p,q)->G E O (ρ.take ct.m) w st' a' w'->Leaves P fn a'.tmps (Ret Q) a'.defers .returning w'∧(d=true->a'.defers=[]):=by
  intro st' a' w' h1 h2
  obtain ⟨O1,ρ1,hF1,hM1,hG1,hS1⟩:=h2
  refine ⟨leaves_ok hct (O0:=O1) (ρ0:=ρ1) (w0:=w') ?_ st'.df a'.defers st'.tb w' O1 ρ1 h1 hF1.2 hM1 hG1 (.refl _ _ _ _),fun hd=>?_⟩
  ·intro tb w2 O2 ρ2 hu hM2 hG2 hS2
   have hF2:=hF1.1.mono hS2.im hS2.pre
   have hS1:Stp (fun _=>True) O (ρ.take ct.m) w O2 ρ2 w2:=hS1.trans hS2
   split at hu<;>first | (cases hu;done) | skip
   rename_i vs hvs
   obtain ⟨ds,hR1,hrl⟩:=resS_ok (P:=P) hc hF2 hM2 hvs
   have hle:ct.m≤tb.length:=by
    rw [← hM2.len,← hm]
    rcases Nat.lt_or_ge ρ2.length (ρ.take ct.m).length with h' | h'
    ·have h1:(ρ.take ct.m)[ρ2.length]? = some (ρ.take ct.m)[ρ2.length]:=List.getElem?_eq_getElem h'
     have:=hS1.pre _ _ h1
     simp at this
    ·exact h'
   obtain ⟨p',q',u',O',ρ',hk,U⟩:=uni_ok hu hM2 hR1 (rng_nodup _) (fun i hi=>Nat.lt_of_lt_of_le (rng_mem hi) hle)
   cases hk
   obtain ⟨more,hbd⟩:=U.gh.bd
   have hb':∀ i,i < (ρ.take ct.m).length->u'.bd[i]? = some i:=fun i hi=>by
    rw [hm] at hi
    rw [hbd]
    show (rng ct.m ++ more)[i]? = some i
    rw [List.getElem?_append_left (by rw [rng,rngF_len];exact hi)];exact rng_get hi
   have hS2:=(hS1.trans (U.gh.stp.weak (fun _ _=>trivial))).oc (lt:=u'.lt) hb'
   refine ⟨_,results_run hrl,_,_,ds,U.gm,hS2,U.rl,?_⟩
   show resL (vals vs ds)=resL (vals (encs ct.B p) ds)
   rw [vals_sz U.sz]
  ·have hD:=hF1.2
   cases hdf:st'.df with
   | nil=>rw [hdf] at hD;exact hD
   | cons v r=>
    rw [hdf] at h1
    exfalso
    cases v<;>simp only [runD] at h1<;>first | (cases h1;done) | skip
    split at h1<;>first | (cases h1;done) | skip
    rw [hcd hd] at h1
    simp [pickCt] at h1
 have hwp:code.wp P (QL (fun a w=>Leaves P fn a.tmps (Ret Q) a.defers .returning w∧(d=true->a.defers=[])) (fun _ _ _=>False) (fun a w=>Leaves P fn a.tmps (Ret Q) a.defers .returning w∧(d=true->a.defers=[]))) { tmps:=(vals (encs ct.A x) cs).toArray ++ Array.replicate (fn.ntmps - (vals (encs ct.A x) cs).toArray.size) undef,defers:=[] } w:=by
  refine sev_ok hc hct hmx hm hlp code [] _ _ _ _ _ _ _ rfl ho (h x y p q hrun) hG0 (fun e st' a' w' h1 h2=>?_)
  cases e with
  | normal=>exact leaf h1 h2
  | ret=>exact leaf h1 h2
  | exit j=>cases h1
  | goto j=>cases h1
  | panic ch=>cases h1
  | outgrown=>cases h1
 cases d with
 | false=>
  refine calls_of_wp_defers hf hb (wp_mono hwp fun e a w q=>?_)
  cases e<;>first | exact q.1 | exact q.elim
 | true=>
  have:=callsD_of_wp (u:=.returning) (R:=Ret Q) hf hb (wp_mono hwp fun e a w q=>?_)
  ·exact this
  ·cases e with
   | normal=>
    obtain ⟨q1,q2⟩:=q
    have q2:=q2 rfl
    rw [q2] at q1
    exact ⟨q2,q1⟩
   | ret=>
    obtain ⟨q1,q2⟩:=q
    have q2:=q2 rfl
    rw [q2] at q1
    exact ⟨q2,q1⟩
   | _=>exact q.elim
end
end Go.Tw
namespace Go.Tw
set_option linter.unusedSimpArgs false
set_option linter.unusedVariables false
def mkC (m:Nat) (A:List Sh) (T:List TSh) (B:List Sh) (U:List TSh) {τ:Type} (t:dens A->tdens T->Option τ) (e:dens A->tdens T->τ->dens B×tdens U):Ct where
 m:=m
 A:=A
 T:=T
 B:=B
 U:=U
 run:=fun _ x y k=>(t x y).bind fun z=>k (e x y z).1 (e x y z).2
 nat:=fun _ x y k r h=>by
  obtain ⟨z,h1,h2⟩:=bindS h
  exact ⟨_,_,by rw [h1];rfl,h2⟩
def mkL (s0:List Nat) (A:List Sh) (T:List TSh) (s1:List Nat) (A1:List Sh) (T1:List TSh) {σ τ:Type} (F:Nat) (f:dens A->tdens T->σ->Option (σ ⊕ τ)) (init:dens A->tdens T->σ) (e1:dens A->tdens T->τ->dens A1×tdens T1):Lc where
 s0:=s0
 A:=A
 T:=T
 s1:=s1
 A1:=A1
 T1:=T1
 s2:=[]
 A2:=[]
 T2:=[]
 run:=fun _ x y k1 _=>(iter (f x y) F (init x y)).bind fun z=>k1 (e1 x y z).1 (e1 x y z).2
 nat:=fun _ x y k1 k2 r h=>by
  obtain ⟨z,h1,h2⟩:=bindS h
  exact .inl ⟨_,_,by rw [h1];rfl,h2⟩
def mkR (s0:List Nat) (A:List Sh) (T:List TSh) (s1:List Nat) (A1:List Sh) (T1:List TSh) (s2:List Nat) (A2:List Sh) (T2:List TSh) {σ τ1 τ2:Type} (F:Nat) (f:dens A->tdens T->σ->Option (σ ⊕ (τ1 ⊕ τ2))) (init:dens A->tdens T->σ) (e1:dens A->tdens T->τ1->dens A1×tdens T1) (e2:dens A->tdens T->τ2->dens A2×tdens T2):Lc where
 s0:=s0
 A:=A
 T:=T
 s1:=s1
 A1:=A1
 T1:=T1
 s2:=s2
 A2:=A2
 T2:=T2
 run:=fun _ x y k1 k2=>(iter (f x y) F (init x y)).bind fun z=>match z with
  | .inl z=>k1 (e1 x y z).1 (e1 x y z).2
  | .inr z=>k2 (e2 x y z).1 (e2 x y z).2
 nat:=fun _ x y k1 k2 r h=>by
  obtain ⟨z,h1,h2⟩:=bindS h
  cases z with
  | inl z=>exact .inl ⟨_,_,by rw [h1];rfl,h2⟩
  | inr z=>exact .inr ⟨_,_,by rw [h1];rfl,h2⟩
def elimS {σ τ β:Type} (a:σ->Option β) (b:τ->Option β):σ ⊕ τ->Option β
 | .inl x=>a x
 | .inr x=>b x
section
variable {P:Program} {E:Ev}
theorem mkR_ok {σ τ1 τ2:Type} {s0:List Nat} {A:List Sh} {T:List TSh} {s1:List Nat} {A1:List Sh} {T1:List TSh} {s2:List Nat} {A2:List Sh} {T2:List TSh} {F:Nat} {f:dens A->tdens T->σ->Option (σ ⊕ (τ1 ⊕ τ2))} {init:dens A->tdens T->σ} {e1:dens A->tdens T->τ1->dens A1×tdens T1} {e2:dens A->tdens T->τ2->dens A2×tdens T2} {m:Nat} {lp:List (List Nat×Lc)} {root b:Code} {p:List Nat} {id:Nat}
  (hc:COk P E.c) (hct:CtsOk P E) (hmx:P.follows .mixedOrders=true) (hlp:AllLc P E m root lp) (ho:ordAll E (cAt root (0 :: 0 :: p))=true) (hcode:cAt root p=.block id (.loop b))
  (eA:dens A->tdens T->σ->dens A) (eT:dens A->tdens T->σ->tdens T) (hiA:∀ x y,eA x y (init x y)=x) (hiT:∀ x y,eT x y (init x y)=y)
  (g:dens A->tdens T->σ->(σ->Option (Full A T A1 T1 A2 T2))->(τ1->Option (Full A T A1 T1 A2 T2))->(τ2->Option (Full A T A1 T1 A2 T2))->Option (Full A T A1 T1 A2 T2))
  (hnat:∀ x y s kA kO kR,g x y s kA kO kR=(f x y s).bind (elimS kA (elimS kO kR)))
  (heq:∀ x y s,sev E m lp (cAt root (0 :: 0 :: p)) (0 :: 0 :: p) (mkSt s0 A T (eA x y s) (eT x y s)) (kLoop m s0 A T s1 A1 T1 s2 A2 T2 id (fun x y=>some (.inl (x,y))) (fun x y=>some (.inr (.inl (x,y)))) (fun x y=>some (.inr (.inr (x,y))))) =
   g x y s (fun s=>some (.inl (eA x y s,eT x y s))) (fun z=>some (.inr (.inl (e1 x y z)))) (fun z=>some (.inr (.inr (e2 x y z))))):LcOk P E m (mkR s0 A T s1 A1 T1 s2 A2 T2 F f init e1 e2) (cAt root p):=by
 have hb0:cAt root (0 :: 0 :: p)=b:=by simp [cAt,hcode]
 intro O0 ρ0 w0 hm (x:dens A) (y:tdens T) z hz a w hG
 obtain ⟨t,ht,hz⟩:=bindS hz
 rw [hcode]
 have hG':G E O0 ρ0 w0 (mkSt s0 A T (eA x y (init x y)) (eT x y (init x y))) a w:=by rw [hiA,hiT];exact hG
 have:=lc_loop (P:=P) (E:=E) (root:=root) (b:=b) (p:=0 :: 0 :: p) (id:=id) (lp:=lp) s0 A T s1 A1 T1 s2 A2 T2 hc hct hmx hlp hb0 (by rw [← hb0];exact ho) (f x y) (eA x y) (eT x y) (e1 x y) (e2 x y) (fun s r hr=>by
   have h1:=heq x y s
   rw [hnat,hr,hb0] at h1
   rw [h1]
   cases r with
   | inl s=>rfl
   | inr r=>cases r<;>rfl) hm ht hG'
 cases t with
 | inl t=>
  cases hz
  refine c_mono this (fun a w h=>?_) (fun _ _ _ h=>h) (fun a w h=>?_)
  ·obtain ⟨t',e,h⟩:=h;cases e;exact ⟨_,_,rfl,h⟩
  ·obtain ⟨t',e,h⟩:=h;cases e
 | inr t=>
  cases hz
  refine c_mono this (fun a w h=>?_) (fun _ _ _ h=>h) (fun a w h=>?_)
  ·obtain ⟨t',e,h⟩:=h;cases e
  ·obtain ⟨t',e,h⟩:=h;cases e;exact ⟨_,_,rfl,h⟩
theorem mkL_ok {σ τ:Type} {s0:List Nat} {A:List Sh} {T:List TSh} {s1:List Nat} {A1:List Sh} {T1:List TSh} {F:Nat} {f:dens A->tdens T->σ->Option (σ ⊕ τ)} {init:dens A->tdens T->σ} {e1:dens A->tdens T->τ->dens A1×tdens T1} {m:Nat} {lp:List (List Nat×Lc)} {root b:Code} {p:List Nat} {id:Nat}
  (hc:COk P E.c) (hct:CtsOk P E) (hmx:P.follows .mixedOrders=true) (hlp:AllLc P E m root lp) (ho:ordAll E (cAt root (0 :: 0 :: p))=true) (hcode:cAt root p=.block id (.loop b))
  (eA:dens A->tdens T->σ->dens A) (eT:dens A->tdens T->σ->tdens T) (hiA:∀ x y,eA x y (init x y)=x) (hiT:∀ x y,eT x y (init x y)=y)
  (g:dens A->tdens T->σ->(σ->Option (Full A T A1 T1 [] []))->(τ->Option (Full A T A1 T1 [] []))->Option (Full A T A1 T1 [] []))
  (hnat:∀ x y s kA kO,g x y s kA kO=(f x y s).bind (elimS kA kO))
  (heq:∀ x y s,sev E m lp (cAt root (0 :: 0 :: p)) (0 :: 0 :: p) (mkSt s0 A T (eA x y s) (eT x y s)) (kLoop m s0 A T s1 A1 T1 [] [] [] id (fun x y=>some (.inl (x,y))) (fun x y=>some (.inr (.inl (x,y)))) (fun x y=>some (.inr (.inr (x,y))))) =
   g x y s (fun s=>some (.inl (eA x y s,eT x y s))) (fun z=>some (.inr (.inl (e1 x y z))))):LcOk P E m (mkL s0 A T s1 A1 T1 F f init e1) (cAt root p):=by
 have hb0:cAt root (0 :: 0 :: p)=b:=by simp [cAt,hcode]
 intro O0 ρ0 w0 hm (x:dens A) (y:tdens T) z hz a w hG
 obtain ⟨t,ht,hz⟩:=bindS hz
 cases hz
 rw [hcode]
 let f':σ->Option (σ ⊕ (τ ⊕ Empty)):=fun s=>(f x y s).map fun r=>match r with
  | .inl s=>.inl s
  | .inr t=>.inr (.inl t)
 have hit:∀ (n:Nat) (s:σ) (t:τ),iter (f x y) n s=some t->iter f' n s=some (.inl t):=by
  intro n
  induction n with
  | zero=>intro s t h;simp [iter] at h
  | succ n ih=>
   intro s t h
   simp only [iter,Option.bind_eq_some_iff] at h ⊢
   obtain ⟨r,hr,h⟩:=h
   refine ⟨_,by show (f x y s).map _=_;rw [hr];rfl,?_⟩
   cases r with
   | inl s'=>exact ih s' t h
   | inr t'=>simp only [Option.some.injEq] at h;subst h;rfl
 have hG':G E O0 ρ0 w0 (mkSt s0 A T (eA x y (init x y)) (eT x y (init x y))) a w:=by rw [hiA,hiT];exact hG
 have:=lc_loop (P:=P) (E:=E) (root:=root) (b:=b) (p:=0 :: 0 :: p) (id:=id) (lp:=lp) s0 A T s1 A1 T1 [] [] [] hc hct hmx hlp hb0 (by rw [← hb0];exact ho) f' (eA x y) (eT x y) (e1 x y) (fun e:Empty=>nomatch e) (fun s r hr=>by
   have hr:(f x y s).map _=some r:=hr
   simp only [Option.map_eq_some_iff] at hr
   obtain ⟨r0,hr0,rfl⟩:=hr
   have h1:=heq x y s
   rw [hnat,hr0,hb0] at h1
   rw [h1]
   cases r0<;>rfl) hm (hit F _ t ht) hG'
 refine c_mono this (fun a w h=>?_) (fun _ _ _ h=>h) (fun a w h=>?_)
 ·obtain ⟨t',e,h⟩:=h;cases e;exact ⟨_,_,rfl,h⟩
 ·obtain ⟨t',e,h⟩:=h;cases t'
def ctOf:List (Nat×Ct)->Nat->List Ct
 | [],_=>[]
 | (g,ct) :: r,f=>match Nat.beq g f with
  | true=>ct :: ctOf r f
  | false=>ctOf r f
def AllCt (P:Program) (c:Cfg) (d:Bool):List (Nat×Ct)->Prop
 | []=>True
 | (f,ct) :: r=>(SoundK P c d f ct∧∃ fn,P.funcs[f]? = some fn∧fn.body.isSome=true∧(fn.name == "runtime.NumGoroutine")=false)∧AllCt P c d r
theorem AllCt.ok {c:Cfg} {d:Bool}:∀ {l:List (Nat×Ct)} {f:Nat} {ct:Ct},AllCt P c d l->ct ∈ ctOf l f->SoundK P c d f ct∧∃ fn,P.funcs[f]? = some fn∧fn.body.isSome=true∧(fn.name == "runtime.NumGoroutine")=false
 | [],f,ct,_,h=>by simp [ctOf] at h
 | (g,c0) :: r,f,ct,h,hm=>by
  simp only [ctOf] at hm
  split at hm
  ·rename_i hg
   have:=Nat.eq_of_beq_eq_true hg
   subst this
   rcases List.mem_cons.1 hm with hm | hm
   ·subst hm;exact h.1
   ·exact AllCt.ok h.2 hm
  ·exact AllCt.ok h.2 hm
theorem cts_of {E:Ev} {l l':List (Nat×Ct)} (he:E.ct=ctOf l) (he':E.cd=ctOf l') (h:AllCt P E.c false l) (h':AllCt P E.c true l'):CtsOk P E:=⟨fun f ct hm=>by
 rw [he] at hm;exact AllCt.ok h hm,fun f ct hm=>by
 rw [he'] at hm;exact AllCt.ok h' hm⟩
theorem mkC_okK (d:Bool) (hcd:d=true->∀ f,E.cd f=[]) {τ:Type} {m:Nat} {A:List Sh} {T:List TSh} {B:List Sh} {U:List TSh} {t:dens A->tdens T->Option τ} {e:dens A->tdens T->τ->dens B×tdens U} {f:FuncId} {fn:Func} {code:Code} {lp:List (List Nat×Lc)} (hf:P.funcs[f]? = some fn) (hb:fn.body=some code) (hn:fn.ntmps=E.n) (hl:Nat.ble A.length E.n=true) (hmT:Nat.ble m T.length=true) (hc:COk P E.c) (hct:CtsOk P E) (hmx:P.follows .mixedOrders=true)
  (hlp:AllLc P E m code lp) (ho:ordAll E code=true) (g:dens A->tdens T->(τ->Option (dens B×tdens U))->Option (dens B×tdens U)) (hnat:∀ x y k,g x y k=(t x y).bind k)
  (heq:∀ x y,sev E m lp code [] (mkSt (rng A.length) A T x y) (kFn E m fn.results.toList B U fun p q=>some (p,q))=g x y (fun z=>some (e x y z))):SoundK P E.c d f (mkC m A T B U t e):=by
 refine fn_okK d (ct:=mkC m A T B U t e) hf hb hn hl hmT hc hct hmx hlp ho hcd (fun (x:dens A) (y:tdens T) p q h=>?_)
 obtain ⟨z,h1,h2⟩:=bindS h
 have h3:=heq x y
 rw [hnat,h1] at h3
 rw [← h2];exact h3
theorem mkC_ok {τ:Type} {m:Nat} {A:List Sh} {T:List TSh} {B:List Sh} {U:List TSh} {t:dens A->tdens T->Option τ} {e:dens A->tdens T->τ->dens B×tdens U} {f:FuncId} {fn:Func} {code:Code} {lp:List (List Nat×Lc)} (hf:P.funcs[f]? = some fn) (hb:fn.body=some code) (hn:fn.ntmps=E.n) (hl:Nat.ble A.length E.n=true) (hmT:Nat.ble m T.length=true) (hc:COk P E.c) (hct:CtsOk P E) (hmx:P.follows .mixedOrders=true)
  (hlp:AllLc P E m code lp) (ho:ordAll E code=true) (g:dens A->tdens T->(τ->Option (dens B×tdens U))->Option (dens B×tdens U)) (hnat:∀ x y k,g x y k=(t x y).bind k)
  (heq:∀ x y,sev E m lp code [] (mkSt (rng A.length) A T x y) (kFn E m fn.results.toList B U fun p q=>some (p,q))=g x y (fun z=>some (e x y z))):Sound P E.c f (mkC m A T B U t e):=
 mkC_okK false (fun h=>by cases h) hf hb hn hl hmT hc hct hmx hlp ho g hnat heq
theorem cond_bind {α β:Type} (c:Bool) (x y:Option α) (f:α->Option β):(bif c then x else y).bind f=bif c then x.bind f else y.bind f:=by cases c<;>rfl
theorem elimS_l {σ τ β:Type} (a:σ->Option β) (b:τ->Option β) (x:σ):elimS a b (.inl x)=a x:=rfl
theorem elimS_r {σ τ β:Type} (a:σ->Option β) (b:τ->Option β) (x:τ):elimS a b (.inr x)=b x:=rfl
end
end Go.Tw
namespace Go.Tw
set_option linter.unusedSimpArgs false
set_option linter.unusedVariables false
def Ty.zc:Ty->List Value
 | .i=>[vI 0]
 | .u8=>[vU8 0]
 | .u32=>[vU32 0]
 | .u64=>[vU64 0]
 | .bo=>[vB false]
 | .s=>[vS []]
 | .un=>[]
 | .sl _=>[.slice none 0 0]
 | .pr a b=>a.zc ++ b.zc
 | .ar n t=>(List.replicate n t.zc).flatten
theorem TR_zero {O:Own}:∀ t:Ty,TR O t t.zero t.zc:=by
 intro t
 induction t with
 | pr a b iha ihb=>exact ⟨_,_,rfl,iha,ihb⟩
 | sl t ih=>exact ⟨_,[],rfl,rfl,.inl ⟨rfl,none,0,rfl⟩⟩
 | ar n t ih=>
  show LR _ _ _
  simp only [Ty.zero,Ty.zc,Vector.toList_replicate]
  exact LR.replicate ih n
 | _=>rfl
inductive ZD where
 | t (ty:Ty)
 | v (x:Value)
 | un
 | pr (a b:ZD)
def ZD.iv:ZD->IV
 | .t ty=>ofP ty ty.zero
 | .v x=>.o (.v x)
 | .un=>.un
 | .pr a b=>.pr a.iv b.iv
def ZD.cs:ZD->List Value
 | .t ty=>ty.zc
 | .v x=>[x]
 | .un=>[]
 | .pr a b=>a.cs ++ b.cs
def ZD.ok:ZD->Bool
 | .v x=>x.oneCell'
 | .pr a b=>a.ok && b.ok
 | _=>true
theorem ZD.R:∀ (d:ZD),d.ok=true->∀ (O:Own) (ρ:List Hd),Tw.R O ρ false d.iv d.cs
 | .t ty,_,O,ρ=>ofP_R (TR_zero ty)
 | .v x,h,O,ρ=>⟨rfl,h⟩
 | .un,_,O,ρ=>rfl
 | .pr a b,h,O,ρ=>by
  simp only [ZD.ok,Bool.and_eq_true] at h
  exact ⟨_,_,rfl,ZD.R a h.1 O ρ,ZD.R b h.2 O ρ⟩
theorem zero_of {P:Program} {t:Nat} {d:ZD} {z:Value} (h:∀ w,(zeroValue t).run P w=.ok z w) (hz:z.cells=d.cs.toArray) (hd:d.ok=true):∃ z cs,(∀ w,(zeroValue t).run P w=.ok z w)∧z.cells=cs.toArray∧∀ O ρ,R O ρ false d.iv cs:=
 ⟨z,d.cs,h,hz,d.R hd⟩
theorem elem_of {P:Program} {t e b:Nat} {ty:Ty} {z:Value} (h:EOk P t e ty.size b z) (hb:b≤128) (hz:z.cells=ty.zc.toArray):∃ bytes z zc,EOk P t e ty.size bytes z∧bytes≤128∧z.cells=zc.toArray∧∀ O,TR O ty ty.zero zc:=
 ⟨b,z,ty.zc,h,hb,hz,fun O=>TR_zero ty⟩
def placesB (Z:Nat->Option Nat):List Field->List (Nat×Nat)->Bool
 | [],[]=>true
 | f :: fs,(o,z) :: r=>Nat.beq f.offset o && (match Z f.type with | some z'=>Nat.beq z' z | none=>false) && placesB Z fs r
 | _,_=>false
theorem placesB_ok {Z:Nat->Option Nat}:∀ {fs:List Field} {pl:List (Nat×Nat)},placesB Z fs pl=true->∀ (i:Nat) (f:Field),fs[i]? = some f->∃ z,pl[i]? = some (f.offset,z)∧Z f.type=some z
 | [],pl,_,i,f,h=>by simp at h
 | g :: fs,[],h,i,f,_=>by simp [placesB] at h
 | g :: fs,(o,z) :: r,h,i,f,hf=>by
  simp only [placesB,Bool.and_eq_true] at h
  obtain ⟨⟨h1,h2⟩,h3⟩:=h
  cases i with
  | zero=>
   simp at hf;subst hf
   split at h2
   ·rename_i z' hz
    exact ⟨z,by simp [Nat.eq_of_beq_eq_true h1],by rw [hz,Nat.eq_of_beq_eq_true h2]⟩
   ·cases h2
  | succ i=>
   obtain ⟨z',h4,h5⟩:=placesB_ok h3 i f (by simpa using hf)
   exact ⟨z',by simpa using h4,h5⟩
theorem places_of {P:Program} {Z:Nat->Option Nat} {fs:Array Field} (pl:Array (Nat×Nat)) (h:∀ w,(fs.mapM (m:=Sem) fun f=>do pure (f.offset,← sizeOf f.type)).run P w=.ok pl w) (hb:placesB Z fs.toList pl.toList=true) :
  ∃ pl:Array (Nat×Nat),(∀ w,(fs.mapM (m:=Sem) fun f=>do pure (f.offset,← sizeOf f.type)).run P w=.ok pl w)∧∀ (i:Nat) (f:Field),fs[i]? = some f->∃ z,pl[i]? = some (f.offset,z)∧Z f.type=some z:=
 ⟨pl,h,fun i f hf=>by
  obtain ⟨z,h1,h2⟩:=placesB_ok hb i f (by simpa using hf)
  exact ⟨z,by simpa using h1,h2⟩⟩
theorem elimS_bind {σ τ α β:Type} (a:σ->Option α) (b:τ->Option α) (z:σ ⊕ τ) (f:α->Option β):(elimS a b z).bind f=elimS (fun x=>(a x).bind f) (fun x=>(b x).bind f) z:=by cases z<;>rfl
def mkK (s0:List Nat) (A:List Sh) (T:List TSh) (s1:List Nat) (A1:List Sh) (T1:List TSh) (s2:List Nat) (A2:List Sh) (T2:List TSh) {τ1 τ2:Type} (t:dens A->tdens T->Option (τ1 ⊕ τ2)) (e1:dens A->tdens T->τ1->dens A1×tdens T1) (e2:dens A->tdens T->τ2->dens A2×tdens T2):Lc where
 s0:=s0
 A:=A
 T:=T
 s1:=s1
 A1:=A1
 T1:=T1
 s2:=s2
 A2:=A2
 T2:=T2
 run:=fun _ x y k1 k2=>(t x y).bind fun z=>match z with
  | .inl z=>k1 (e1 x y z).1 (e1 x y z).2
  | .inr z=>k2 (e2 x y z).1 (e2 x y z).2
 nat:=fun _ x y k1 k2 r h=>by
  obtain ⟨z,h1,h2⟩:=bindS h
  cases z with
  | inl z=>exact .inl ⟨_,_,by rw [h1];rfl,h2⟩
  | inr z=>exact .inr ⟨_,_,by rw [h1];rfl,h2⟩
def kJoinR {β:Type} (m:Nat) (s1:List Nat) (A1:List Sh) (T1:List TSh) (s2:List Nat) (A2:List Sh) (T2:List TSh) (out:dens A1->tdens T1->Option β) (ret:dens A2->tdens T2->Option β):Exit->St->Option β:=fun e st=>match e with
 | .normal=>uniS m s1 A1 T1 st out
 | .ret=>uniS m s2 A2 T2 st ret
 | _=>none
section
variable {P:Program} {E:Ev}
theorem mkK_ok {τ1 τ2:Type} {s0:List Nat} {A:List Sh} {T:List TSh} {s1:List Nat} {A1:List Sh} {T1:List TSh} {s2:List Nat} {A2:List Sh} {T2:List TSh} {t:dens A->tdens T->Option (τ1 ⊕ τ2)} {e1:dens A->tdens T->τ1->dens A1×tdens T1} {e2:dens A->tdens T->τ2->dens A2×tdens T2} {m:Nat} {lp:List (List Nat×Lc)} {root:Code} {p:List Nat}
  (hc:COk P E.c) (hct:CtsOk P E) (hmx:P.follows .mixedOrders=true) (hlp:AllLc P E m root lp) (ho:ordAll E (cAt root p)=true)
  (g:dens A->tdens T->(τ1->Option ((dens A1×tdens T1) ⊕ (dens A2×tdens T2)))->(τ2->Option ((dens A1×tdens T1) ⊕ (dens A2×tdens T2)))->Option ((dens A1×tdens T1) ⊕ (dens A2×tdens T2))) (hnat:∀ x y kO kR,g x y kO kR=(t x y).bind (elimS kO kR))
  (heq:∀ x y,sev E m lp (cAt root p) p (mkSt s0 A T x y) (kJoinR m s1 A1 T1 s2 A2 T2 (fun x y=>some (.inl (x,y))) (fun x y=>some (.inr (x,y))))=g x y (fun z=>some (.inl (e1 x y z))) (fun z=>some (.inr (e2 x y z)))):LcOk P E m (mkK s0 A T s1 A1 T1 s2 A2 T2 t e1 e2) (cAt root p):=by
 intro O0 ρ0 w0 hm (x:dens A) (y:tdens T) z hz a w hG
 obtain ⟨u,hu,hz⟩:=bindS hz
 have h1:=heq x y
 rw [hnat,hu] at h1
 cases u with
 | inl u=>
  cases hz
  refine sev_ok hc hct hmx hm hlp (cAt root p) p _ _ _ _ _ a w rfl ho h1 hG (fun e st' a' w' h2 h3=>?_)
  cases e with
  | normal=>
   obtain ⟨x',y',h4,h5⟩:=uniS_ok hm h2 h3
   simp only [Option.some.injEq,Sum.inl.injEq] at h4
   refine ⟨_,_,rfl,?_⟩
   rw [← h4];exact h5
  | ret=>obtain ⟨x',y',h4,h5⟩:=uniS_ok hm h2 h3;cases h4
  | exit j=>cases h2
  | goto j=>cases h2
  | panic ch=>cases h2
  | outgrown=>cases h2
 | inr u=>
  cases hz
  refine sev_ok hc hct hmx hm hlp (cAt root p) p _ _ _ _ _ a w rfl ho h1 hG (fun e st' a' w' h2 h3=>?_)
  cases e with
  | normal=>obtain ⟨x',y',h4,h5⟩:=uniS_ok hm h2 h3;cases h4
  | ret=>
   obtain ⟨x',y',h4,h5⟩:=uniS_ok hm h2 h3
   simp only [Option.some.injEq,Sum.inr.injEq] at h4
   refine ⟨_,_,rfl,?_⟩
   rw [← h4];exact h5
  | exit j=>cases h2
  | goto j=>cases h2
  | panic ch=>cases h2
  | outgrown=>cases h2
end
section
variable {P:Program} {E:Ev}
end
theorem names_of {l:List Field} (h:(l.all fun f=>f.name != "_")=true):∀ f ∈ l,f.name ≠ "_" := fun f hf=>by
 simpa using List.all_eq_true.1 h f hf
end Go.Tw
namespace Go.Tw
set_option linter.unusedSimpArgs false
set_option linter.unusedVariables false
theorem clone_ok {P:Program} {c:Cfg} {f:FuncId} {E:Nat} {t:Ty} (T0:Option (List t.den)) (T1:List t.den->Option (List t.den))
  (h0:Sound P c f (mkC 0 [.nn] [] [.rw 0] [.row E t] (fun _ _=>T0) (fun _ _ z=>(((),()),(z,())))))
  (h1:Sound P c f (mkC 0 [.rn t] [] [.rw 0] [.row E t] (fun x _=>T1 x.1) (fun _ _ z=>(((),()),(z,()))))) (he:T0=T1 []) :
  Sound P c f (mkC 0 [.ro t] [] [.rw 0] [.row E t] (fun x _=>T1 x.1) (fun _ _ z=>(((),()),(z,())))):=by
 intro x y p q hrun O ρ w cs hG hM hR
 obtain ⟨c0,r,rfl,hv,hr⟩:=hR
 have hr:r=[]:=hr
 subst hr
 have hv':TR O (.sl t) x.1 c0:=hv
 obtain ⟨u,es,hc0,hL,hS⟩:=hv'
 have key:(∃ cc,u=.slice none 0 cc∧x.1=[])∨∃ a n cc,u=.slice (some a) n cc:=by
  rcases hS with ⟨hz,b,cc,rfl⟩ | ⟨b,off,cap,rfl,_⟩
  ·cases b with
   | none=>exact .inl ⟨cc,rfl,List.eq_nil_of_length_eq_zero hz⟩
   | some a=>exact .inr ⟨a,0,cc,rfl⟩
  ·exact .inr ⟨_,_,_,rfl⟩
 rcases key with ⟨cc,hu,hx⟩ | ⟨a,n,cc,hu⟩
 ·have hrun':(mkC 0 [.nn] [] [.rw 0] [.row E t] (fun _ _=>T0) (fun _ _ z=>(((),()),(z,())))).run _ ((),()) () (fun p q=>some (p,q))=some (p,q):=by
   rw [← hrun]
   show (T0.bind _)=(T1 x.1).bind _
   rw [he,hx];rfl
  exact h0 ((),()) () p q hrun' O ρ w [c0] hG hM ⟨c0,[],rfl,⟨cc,by rw [hc0,hu]⟩,rfl⟩
 ·have hrun':(mkC 0 [.rn t] [] [.rw 0] [.row E t] (fun x _=>T1 x.1) (fun _ _ z=>(((),()),(z,())))).run _ (x.1,()) () (fun p q=>some (p,q))=some (p,q):=hrun
  exact h1 (x.1,()) () p q hrun' O ρ w [c0] hG hM ⟨c0,[],rfl,⟨hv,a,n,cc,by rw [hc0,hu]⟩,rfl⟩
theorem sound_fuel {P:Program} {c:Cfg} {f:FuncId} {m:Nat} {A B:List Sh} {T U:List TSh} {τ:Type} {e:dens A->tdens T->τ->dens B×tdens U} (G:dens A->tdens T->Nat) (t:Nat->dens A->tdens T->Option τ)
  (h:∀ F,Sound P c f (mkC m A T B U (t F) e)):Sound P c f (mkC m A T B U (fun x y=>t (G x y) x y) e):=fun x y p q hr=>h (G x y) x y p q hr
end Go.Tw
