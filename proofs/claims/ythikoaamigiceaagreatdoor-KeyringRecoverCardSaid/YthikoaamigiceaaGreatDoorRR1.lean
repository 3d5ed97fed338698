/- Ranges over functions, and functions of the library. -/
import Derived.Lib.LaidTab
import Derived.Lib.ItoaNum
import Derived.Lib.Repeat
import Derived.Lib.Split
import Derived.Lib.SplitLaws
import Derived.Below
import Derived.Sort.Grow
import Derived.Deep.Draws
import Derived.RangeFuncWrites
import Derived.RangeFuncLeaves
import Derived.RangeFuncCalls
import Derived.OrdersIn
import Derived.TacticsIn
import Derived.Test.YthikoaamigiceaaGreatDoorRK3
namespace Go.Tw
open Go.RowKit Go.Sort
set_option linter.unusedSimpArgs false
set_option linter.unusedVariables false
end Go.Tw
namespace Go.Tw
set_option linter.unusedSimpArgs false
set_option linter.unusedVariables false
section
variable {P:Program} {E:Ev}
def runM {β:Type} (k:Tbl->Option β):List IV->Tbl->Option β
 | [],tb=>k tb
 | v :: r,tb=>match v with
  | .pt id []=>match nth tb id with
   | some .mk=>runM k r (tb.set id .no)
   | _=>none
  | _=>none
def kFnM {β:Type} (E:Ev) (m:Nat) (rs:List ResultVar) (B:List Sh) (U:List TSh) (k:dens B->tdens U->Option β):Exit->St->Option β:=fun e st=>match e with
 | .normal=>runM (fun tb=>match resS E.c st.env tb rs with
  | some vs=>uni false B U (rng m) vs tb fun x y _=>k x y
  | none=>none) st.df st.tb
 | .ret=>runM (fun tb=>match resS E.c st.env tb rs with
  | some vs=>uni false B U (rng m) vs tb fun x y _=>k x y
  | none=>none) st.df st.tb
 | _=>none
theorem kept_putObj (w:World) (r:Nat) (o:Obj):Kept (fun b=>b=r) w (w.putObj r o):=
 ⟨rfl,rfl,rfl,by simp,fun k _ hk=>World.putObj_heap_other hk⟩
theorem leaves_okM {β:Type} {fn:Func} {tmps:Array Value} {Q:Value->World->Prop} {k:Tbl->Option β} {r:β} {O0:Own} {ρ0:List Hd} {w0:World}
  (hK:∀ tb w O ρ,k tb=some r->Gm O ρ tb w->GO E.c O->Stp (fun _=>True) O0 ρ0 w0 O ρ w->∃ v,(results fn tmps).run P w=.ok v w∧Q v w):∀ (df:List IV) (ds:List Deferred) (tb:Tbl) (w:World) (O:Own) (ρ:List Hd),runM k df tb=some r->DR O ρ df ds->Gm O ρ tb w->GO E.c O->Stp (fun _=>True) O0 ρ0 w0 O ρ w ->
   LeavesInM Fence.wide 0 P fn tmps (Ret Q) ds .returning w
 | [],ds,tb,w,O,ρ,e,hD,hM,hG,hS=>by
  simp only [DR] at hD
  subst hD
  obtain ⟨v,h1,h2⟩:=hK tb w O ρ e hM hG hS
  exact ⟨v,h1,h2⟩
 | v :: df,ds,tb,w,O,ρ,e,hD,hM,hG,hS=>by
  simp only [runM] at e
  split at e<;>first | (cases e;done) | skip
  rename_i id
  split at e<;>first | (cases e;done) | skip
  rename_i hb
  rcases hD with ⟨fv,first,cap,r',rfl,hR,hD⟩ | ⟨id',h,r',he,h1,rfl,hD⟩
  ·obtain ⟨h,off,_,_,h3⟩:=hR;cases h3
  ·cases he
   rw [nth_eq] at hb
   obtain ⟨h',h2,h3,h4⟩:=hM.th _ _ hb
   rw [h1] at h2;cases h2
   obtain ⟨g1,g2⟩:=hM.set (x':=.no) (w':=w.putObj h.b (.deferred none)) (List.getElem?_eq_some_iff.1 hb).1 ((kept_putObj w h.b _).wide (fun b e=>by subst e;exact h3)) trivial
   refine ⟨by simp,.inl ⟨h.b,_,rfl,run_takeDeferred h4,?_⟩⟩
   exact leaves_okM hK df r' _ _ O ρ e hD g1 hG (hS.trans (g2.weak (fun _ _=>trivial)))
theorem fn_okM {f:FuncId} {fn:Func} {code:Code} {ct:Ct} {lp:List (List Nat×Lc)} (hf:P.funcs[f]? = some fn) (hb:fn.body=some code) (hn:fn.ntmps=E.n) (hl:Nat.ble ct.A.length E.n=true) (hmT:Nat.ble ct.m ct.T.length=true) (hc:COk P E.c) (hct:CtsOk P E) (hmx:P.follows .mixedOrders=true) (hlp:AllLc P E ct.m code lp) (ho:ordAll E code=true)
  (h:∀ x y p q,ct.run _ x y (fun p q=>some (p,q))=some (p,q)->sev E ct.m lp code [] (mkSt (rng ct.A.length) ct.A ct.T x y) (kFnM E ct.m fn.results.toList ct.B ct.U fun p q=>some (p,q))=some (p,q)):SoundK P E.c false f ct:=by
 intro x y p q hrun O ρ w cs hG hM hR
 have hmT:ct.m≤ct.T.length:=by simpa using hmT
 have hm:(ρ.take ct.m).length=ct.m:=by rw [List.length_take,hM.len,encTs_len];omega
 have hvl:∀ {vs:List IV} {cs:List (List Value)},RL O ρ vs cs->(vals vs cs).length=vs.length:=by
  intro vs
  induction vs with
  | nil=>intro cs h;simp [vals]
  | cons v vs ih=>intro cs h;obtain ⟨c0,r,rfl,h1,h2⟩:=h;simp [vals,ih h2]
 have hlen:(vals (encs ct.A x) cs).length=ct.A.length:=by rw [hvl hR,encs_len]
 have hl':ct.A.length≤E.n:=by simpa using hl
 let Q:Value->World->Prop:=fun v w'=>∃ O' ρ' ds,Gm O' ρ' (encTs ct.U q) w'∧Stp (fun _=>True) O (ρ.take ct.m) w O' ρ' w'∧RL O' ρ' (encs ct.B p) ds∧v=resV (encs ct.B p) ds
 have hG0:G E O (ρ.take ct.m) w (mkSt (rng ct.A.length) ct.A ct.T x y) { tmps:=(vals (encs ct.A x) cs).toArray ++ Array.replicate (fn.ntmps - (vals (encs ct.A x) cs).toArray.size) undef,defers:=[] } w:=by
  rw [hn]
  refine ⟨O,ρ,⟨FI.of (by simp [hlen];omega) hR (fun i t v hi hv=>?_),rfl⟩,hM,hG,⟨Pre.tk _ _,fun _ _ h=>h,fun _ _ h=>h,fun _ _ _ h _=>h,Kept.refl _ _⟩⟩
  have hi':=(List.getElem?_eq_some_iff.1 hi).1
  rw [rng,rngF_len] at hi'
  rw [rng_get hi'] at hi;cases hi
  rw [Array.getElem?_append_left (by simp [hlen,hi'])]
  simpa using hv
 have leaf:∀ {st':St} {a':Act} {w':World},(runM (fun tb=>match resS E.c st'.env tb fn.results.toList with
   | some vs=>uni false ct.B ct.U (rng ct.m) vs tb fun x y _=>some (x,y)
   | none=>none) st'.df st'.tb)=some (p,q)->G E O (ρ.take ct.m) w st' a' w'->LeavesInM Fence.wide 0 P fn a'.tmps (Ret Q) a'.defers .returning w':=by
  intro st' a' w' h1 h2
  obtain ⟨O1,ρ1,hF1,hM1,hG1,hS1⟩:=h2
  refine leaves_okM (E:=E) (O0:=O1) (ρ0:=ρ1) (w0:=w') ?_ st'.df a'.defers st'.tb w' O1 ρ1 h1 hF1.2 hM1 hG1 (.refl _ _ _ _)
  ·intro tb w2 O2 ρ2 hu hM2 hG2 hS2
   have hF2:=hF1.1.mono hS2.im hS2.pre
   have hS1:Stp (fun _=>True) O (ρ.take ct.m) w O2 ρ2 w2:=hS1.trans hS2
   split at hu<;>first | (cases hu;done) | skip
   rename_i vs hvs
   obtain ⟨ds,hR1,hrl⟩:=resS_ok (P:=P) hc hF2 hM2 hvs
   have hle:ct.m≤tb.length:=by
    rw [← hM2.len,← hm]
    rcases Nat.lt_or_ge ρ2.length (ρ.take ct.m).length with h' | h'
    ·have h1:(ρ.take ct.m)[ρ2.length]? = some (ρ.take ct.m)[ρ2.length]:=List.getElem?_eq_getElem h'
     have:=hS1.pre _ _ h1
     simp at this
    ·exact h'
   obtain ⟨p',q',u',O',ρ',hk,U⟩:=uni_ok hu hM2 hR1 (rng_nodup _) (fun i hi=>Nat.lt_of_lt_of_le (rng_mem hi) hle)
   cases hk
   obtain ⟨more,hbd⟩:=U.gh.bd
   have hb':∀ i,i < (ρ.take ct.m).length->u'.bd[i]? = some i:=fun i hi=>by
    rw [hm] at hi
    rw [hbd]
    show (rng ct.m ++ more)[i]? = some i
    rw [List.getElem?_append_left (by rw [rng,rngF_len];exact hi)];exact rng_get hi
   have hS2:=(hS1.trans (U.gh.stp.weak (fun _ _=>trivial))).oc (lt:=u'.lt) hb'
   refine ⟨_,results_run hrl,_,_,ds,U.gm,hS2,U.rl,?_⟩
   show resL (vals vs ds)=resL (vals (encs ct.B p) ds)
   rw [vals_sz U.sz]
 have hwp:code.wp P (QL (fun a w=>LeavesInM Fence.wide 0 P fn a.tmps (Ret Q) a.defers .returning w) (fun _ _ _=>False) (fun a w=>LeavesInM Fence.wide 0 P fn a.tmps (Ret Q) a.defers .returning w)) { tmps:=(vals (encs ct.A x) cs).toArray ++ Array.replicate (fn.ntmps - (vals (encs ct.A x) cs).toArray.size) undef,defers:=[] } w:=by
  refine sev_ok hc hct hmx hm hlp code [] _ _ _ _ _ _ _ rfl ho (h x y p q hrun) hG0 (fun e st' a' w' h1 h2=>?_)
  cases e with
  | normal=>exact leaf h1 h2
  | ret=>exact leaf h1 h2
  | exit j=>cases h1
  | goto j=>cases h1
  | panic ch=>cases h1
  | outgrown=>cases h1
 have:=callsIn_of_wp_marks (F:=Fence.wide) (n:=0) hf hb trivial (R:=Ret Q) (wpIn_wide.2 (wp_mono hwp fun e a w q=>by
  cases e<;>first | exact q | exact q.elim)) rfl
 exact callsIn_wide.1 this
theorem mkC_okM {τ:Type} {m:Nat} {A:List Sh} {T:List TSh} {B:List Sh} {U:List TSh} {t:dens A->tdens T->Option τ} {e:dens A->tdens T->τ->dens B×tdens U} {f:FuncId} {fn:Func} {code:Code} {lp:List (List Nat×Lc)} (hf:P.funcs[f]? = some fn) (hb:fn.body=some code) (hn:fn.ntmps=E.n) (hl:Nat.ble A.length E.n=true) (hmT:Nat.ble m T.length=true) (hc:COk P E.c) (hct:CtsOk P E) (hmx:P.follows .mixedOrders=true)
  (hlp:AllLc P E m code lp) (ho:ordAll E code=true) (g:dens A->tdens T->(τ->Option (dens B×tdens U))->Option (dens B×tdens U)) (hnat:∀ x y k,g x y k=(t x y).bind k)
  (heq:∀ x y,sev E m lp code [] (mkSt (rng A.length) A T x y) (kFnM E m fn.results.toList B U fun p q=>some (p,q))=g x y (fun z=>some (e x y z))):Sound P E.c f (mkC m A T B U t e):=by
 refine fn_okM (ct:=mkC m A T B U t e) hf hb hn hl hmT hc hct hmx hlp ho (fun (x:dens A) (y:tdens T) p q h=>?_)
 obtain ⟨z,h1,h2⟩:=bindS h
 have h3:=heq x y
 rw [hnat,h1] at h3
 rw [← h2];exact h3
def noDef:List Oper->Bool
 | []=>true
 | o :: r=>(match o.op with
  | .defer _=>false
  | _=>true) && noDef r
theorem noDef_mem:∀ {l:List Oper},noDef l=true->∀ o ∈ l,∀ c,o.op ≠ .defer c
 | [],_,o,hm,_=>by cases hm
 | x :: l,h,o,hm,c=>by
  simp only [noDef,Bool.and_eq_true] at h
  rcases List.mem_cons.1 hm with e | hm
  ·subst e
   intro e2
   have h1:=h.1
   rw [e2] at h1
   cases h1
  ·exact noDef_mem h.2 o hm c
theorem op_in {l n:Nat} {o:Oper} {a:Act} {w:World} {K:Act->World->Prop} {Q:Exit->Act->World->Prop} (hd:∀ c,o.op ≠ .defer c) (h:o.wp P a w K Q):o.wpIn (Fence.wide.inRound l) n P a w K Q:=by
 refine ⟨fun _ _=>trivial,?_⟩
 rw [Oper.semAt_eq _ _ _ hd]
 unfold Oper.wp at h
 generalize (execOp a.eval o).run P w=r at *
 cases r with
 | ok x w'=>
  cases x<;>simp only [Oper.upon,Oper.uponIn] at h ⊢<;>first | exact h | exact h.elim | skip
  ·exact ⟨fun e=>by simp [Fence.wide] at e,(callsIn_wide.2 h).inRound l⟩
  ·exact ⟨fun e=>by simp [Fence.wide] at e,fun c cs _=>let ⟨v,w',r,s⟩:=h c cs;⟨v,w',r,stepsIn_wide.2 s⟩⟩
 | halt x w'=>cases x<;>simp only [Oper.upon,Oper.uponIn] at h ⊢<;>first | exact h | exact h.elim
theorem list_in {l n:Nat} {ops:Array Oper} {N:Act->World->Prop}:∀ (L:List Oper),(∀ o ∈ L,∀ c,o.op ≠ .defer c)->∀ (a:Act) (w:World),wpList P ops (Qn N) L a w->wpListIn (Fence.wide.inRound l) n P ops (Qn N) L a w
 | [],_,_,_,h=>h
 | o :: L,hd,a,w,h=>by
  unfold wpList at h
  unfold wpListIn
  split
  ·rename_i hw
   rw [if_pos hw] at h
   rcases h with h | ⟨_,a0,w0,hlets⟩
   ·exact op_in (hd o (by simp)) (Oper.wp_mono (fun a w h=>list_in L (fun o ho=>hd o (by simp [ho])) a w h) h)
   ·exact hlets.elim
  ·rename_i hw
   rw [if_neg hw] at h
   exact ⟨fun _ _=>trivial,list_in L (fun o ho=>hd o (by simp [ho])) _ _ h⟩
theorem any_in {l n:Nat} {ops:Array Oper} {N:Act->World->Prop} (hd:∀ (i:Nat) o,ops[i]? = some o->∀ c,o.op ≠ .defer c):∀ (fuel:Nat) (listed:Array Bool) (a:Act) (w:World),wpAny P .any ops (Qn N) fuel listed a w->wpAnyIn (Fence.wide.inRound l) n P .any ops (Qn N) fuel listed a w
 | 0,_,_,_,h=>h
 | fuel + 1,listed,a,w,h=>by
  refine ⟨h.1,fun i hi=>?_⟩
  have h1:=h.2 i hi
  unfold wpOp at h1
  unfold wpOpIn
  cases ho:ops[i]? with
  | none=>simp only [ho] at h1;exact any_in hd fuel _ _ _ h1
  | some o=>
   simp only [ho] at h1
   simp only
   split
   ·rename_i hw
    rw [if_pos hw] at h1
    rcases h1 with h1 | ⟨_,a0,w0,hlets⟩
    ·exact op_in (hd i o ho) (Oper.wp_mono (fun a w h=>any_in hd fuel _ a w h) h1)
    ·exact hlets.elim
   ·rename_i hw
    rw [if_neg hw] at h1
    exact ⟨fun _ _=>trivial,any_in hd fuel _ _ _ h1⟩
theorem RegOk.wpIn {id l n:Nat} {ops:Array Oper} {N:Act->World->Prop} {X:Nat->Act->World->Prop} {Y:Act->World->Prop} {a:Act} {w:World} (hnd:noDef ops.toList=true):∀ {draw:Bool},RegOk P ops N a w draw->(Code.region id ops draw).wpIn (Fence.wide.inRound l) n P (QL N X Y) a w
 | false,h=>by
  have e:ops.toList.toArray=ops:=by simp
  have h':wpList P ops.toList.toArray (Qn N) ops.toList a w:=by rw [e];exact h
  have h1:=wpIn_region_lit (id:=id) (l:=ops.toList) (list_in (l:=l) (n:=n) ops.toList (noDef_mem hnd) a w h')
  have h2:=wpIn_mono (Q':=QL N X Y) h1 (fun e a w q=>by cases e<;>first | exact q | exact q.elim)
  simpa using h2
 | true,h=>wpIn_mono (wpIn_region_any h.1 (any_in (l:=l) (n:=n) (fun i o ho=>noDef_mem hnd o (by simpa using Array.mem_of_getElem? ho)) _ _ _ _ h.2)) (fun e a w q=>by cases e<;>first | exact q | exact q.elim)
def noDefC:Code->Bool
 | .region _ ops _=>noDef ops.toList
 | .seq a b=>noDefC a && noDefC b
 | .cond _ a b=>noDefC a && noDefC b
 | .block _ c=>noDefC c
 | .loop _=>false
 | _=>true
theorem sevR_ok {β:Type} {l n m:Nat} {O0:Own} {ρ0:List Hd} {w0:World} {r:β} (hc:COk P E.c) (hct:CtsOk P E) (hmx:P.follows .mixedOrders=true) :
  ∀ (c:Code) (p:List Nat) (st:St) (k:Exit->St->Option β) (N:Act->World->Prop) (X:Nat->Act->World->Prop) (a:Act) (w:World),ordAll E c=true->noDefC c=true->sev E m [] c p st k=some r->G E O0 ρ0 w0 st a w ->
   (∀ e st' a' w',k e st'=some r->G E O0 ρ0 w0 st' a' w'->QL N X (fun _ _=>False) e a' w')->c.wpIn (Fence.wide.inRound l) n P (QL N X (fun _ _=>False)) a w:=by
 intro c
 induction c with
 | skip=>intro p st k N X a w ho hn e hG hK;exact wpIn_skip (hK .normal st a w e hG)
 | exit j=>intro p st k N X a w ho hn e hG hK;exact wpIn_exit (hK (.exit j) st a w e hG)
 | ret=>intro p st k N X a w ho hn e hG hK;exact (hK .ret st a w e hG:False).elim
 | seq x y ihx ihy=>
  intro p st k N X a w ho hn e hG hK
  simp only [ordAll,noDefC,Bool.and_eq_true] at ho hn
  simp only [sev,look] at e
  refine wpIn_seq (wpIn_mono (ihx (0 :: p) st _ (fun a w=>y.wpIn (Fence.wide.inRound l) n P (QL N X (fun _ _=>False)) a w) X a w ho.1 hn.1 e hG (fun e st' a' w' h1 h2=>?_)) (fun e a w q=>?_))
  ·cases e with
   | normal=>exact ihy (1 :: p) st' k N X a' w' ho.2 hn.2 h1 h2 hK
   | exit j=>exact hK (.exit j) st' a' w' h1 h2
   | ret=>exact hK .ret st' a' w' h1 h2
   | goto j=>exact (hK (.goto j) st' a' w' h1 h2:False).elim
   | panic ch=>exact (hK (.panic ch) st' a' w' h1 h2:False).elim
   | outgrown=>exact (hK .outgrown st' a' w' h1 h2:False).elim
  ·cases e<;>exact q
 | region id ops draw=>
  intro p st k N X a w ho hn e hG hK
  obtain ⟨O,ρ,hF,hM,hGO,hS⟩:=hG
  refine RegOk.wpIn hn (evR_reg hc hct (fun hd=>?_) e hF hM hGO (fun st' a' w' O' ρ' h1 h2 h3 h4 h5=>hK .normal st' a' w' h1 ⟨O',ρ',h2,h3,h4,hS.trans h5⟩))
  subst hd
  exact ⟨hmx,ho⟩
 | cond x y z ihy ihz=>
  intro p st k N X a w ho hn e hG hK
  simp only [ordAll,noDefC,Bool.and_eq_true] at ho hn
  simp only [sev,look] at e
  split at e<;>first | (cases e;done) | skip
  rename_i g hx
  obtain ⟨O,ρ,⟨⟨le,hl,hER⟩,hD⟩,hM,hGO,hS⟩:=hG
  have hev:a.eval x=_:=opd_val hl (iopd_o hER hGO hx).1
  refine wpIn_cond_split (t:=g) hev (fun hg=>?_) (fun hg=>?_)
  ·subst hg;exact ihy (0 :: p) st k N X a w ho.1 hn.1 e ⟨O,ρ,⟨⟨le,hl,hER⟩,hD⟩,hM,hGO,hS⟩ hK
  ·subst hg;exact ihz (1 :: p) st k N X a w ho.2 hn.2 e ⟨O,ρ,⟨⟨le,hl,hER⟩,hD⟩,hM,hGO,hS⟩ hK
 | block id b ih=>
  intro p st k N X a w ho hn e hG hK
  simp only [ordAll] at ho
  simp only [noDefC] at hn
  simp only [sev,look] at e
  refine wpIn_block (wpIn_mono (ih (0 :: p) st _ N (fun j a w=>if j=id then N a w else X j a w) a w ho hn e hG (fun e st' a' w' h1 h2=>?_)) (fun e a w q=>?_))
  ·cases e with
   | normal=>exact hK .normal st' a' w' h1 h2
   | exit j=>
    simp only at h1
    show if j=id then N a' w' else X j a' w'
    split at h1
    ·rename_i hj;rw [if_pos (Nat.eq_of_beq_eq_true hj)];exact hK .normal st' a' w' h1 h2
    ·rename_i hj;rw [if_neg (Nat.ne_of_beq_eq_false hj)];exact hK (.exit j) st' a' w' h1 h2
   | ret=>exact hK .ret st' a' w' h1 h2
   | goto j=>exact (hK (.goto j) st' a' w' h1 h2:False).elim
   | panic ch=>exact (hK (.panic ch) st' a' w' h1 h2:False).elim
   | outgrown=>exact (hK .outgrown st' a' w' h1 h2:False).elim
  ·cases e with
   | exit j=>
    show if j=id then _ else _
    have q:if j=id then N a w else X j a w:=q
    split
    ·rename_i hj;rw [if_pos hj] at q;exact q
    ·rename_i hj;rw [if_neg hj] at q;exact q
   | _=>exact q
 | loop b ih=>intro p st k N X a w ho hn e hG hK;simp [noDefC] at hn
 | rangeFunc g ps asg b iha ihb=>intro p st k N X a w ho hn e hG hK;simp [sev,look] at e
 | _=>intro p st k N X a w ho hn e hG hK;simp [sev] at e
end
end Go.Tw
namespace Go.Tw
open Go.RowKit
set_option linter.unusedSimpArgs false
set_option linter.unusedVariables false
section
variable {P:Program} {E:Ev}
def RecOk (D:Nat) (r:Loop) (W:World):Prop:=W.heap[D + 1]? = some (.loop r)∧W.heap[D]? = some (.deferred (some []))
theorem RecOk.put {D:Nat} {r r':Loop} {W:World} (h:RecOk D r W):RecOk D r' (W.putObj (D + 1) (.loop r')):=
 ⟨World.putObj_heap_same (Array.getElem?_eq_some_iff.1 h.1).1,(World.putObj_heap_other (by omega)).trans h.2⟩
def Iter (P:Program) (gf:Nat) (lb:Array Value) (N:Nat) (u:Nat->Array Value) (Rd:World->Prop):Prop:=
 ∀ (l:Nat) (Jr:Nat->World->Prop),(∀ k W,Jr k W->Rd W)->(∀ k W d,Jr k W->Jr k { W with drawn:=d })->(∀ k W,k < N->Jr k W->YieldAt Fence.wide 0 P l (u k) W (fun e W'=>e=.returned (.bool true)∧Jr (k + 1) W'))->∀ W,Jr 0 W ->
  CallsIn Fence.wide 1 P gf (#[.func (.yield l) #[] #[]] ++ lb) W (fun e W'=>(∃ v,e=.returned v)∧Jr N W')
theorem rf_law {g:Operand} {ps:Array Tmp} {assign body:Code} {a:Act} {w:World} {K:Act->World->Prop} {X:Nat->Act->World->Prop} {Y:Act->World->Prop} {gf:Nat} {lb:Array Value}
  (hg:a.eval g=.func (.func gf) #[] lb) (eg:∀ args w,(callFunc gf args).run P w=.ok (.enter gf args) w) {N:Nat} {u:Nat->Array Value} {Rd:World->Prop} (hit:Iter P gf lb N u Rd) (hu:∀ k,k < N->(u k).size=ps.size)
  (J:Nat->World->Prop) (a₁:Nat->Act) (hJr:∀ k W,J k W->Rd W) (hJd:∀ k W d,J k W->J k { W with drawn:=d })
  (hJ0:∀ r:Loop,J 0 ((w.alloc (.deferred (some []))).alloc (.loop r)))
  (hJp:∀ k W (r r':Loop),J k W->RecOk w.heap.size r W->J k (W.putObj (w.heap.size + 1) (.loop r')))
  (has:∀ (l k:Nat) (W:World) (K':Act->World->Prop),k < N->K' (a₁ k) W->assign.wpIn (Fence.wide.inRound l) 0 P (Exit.then K' (fun _ _ _=>False)) { tmps:=(ps.zip (u k)).foldl (fun t (p,v)=>t.setIfInBounds p v) a.tmps,defers:=[] } W)
  (hbody:∀ (l k:Nat) (W:World) (r:Loop),k < N->J k W->RecOk w.heap.size r W->body.wpIn (Fence.wide.inRound l) 0 P (QL (fun _ W'=>J (k + 1) W'∧RecOk w.heap.size r W') (fun _ _ _=>False) (fun _ _=>False)) (a₁ k) W)
  (hdone:∀ W,J N W->W.heap[w.heap.size]? = some (.deferred (some []))->K { a with defers:={ target:=.collected w.heap.size,args:=#[] } :: a.defers } W) :
  (Code.rangeFunc g ps assign body).wp P (QL K X Y) a w:=by
 refine (wpIn_wide (n:=2)).1 (wpIn_rangeFunc ?_)
 intro fn hfn
 let rc:Loop:={ state:=.ready,pending:=none,fn:=fn,tmps:=a.tmps,params:=ps,assign:=assign,body:=body,defers:=w.heap.size }
 let W1:World:=(w.alloc (.deferred (some []))).alloc (.loop rc)
 have hR1:RecOk w.heap.size rc W1:=by
  constructor
  ·have:=World.alloc_heap_new (w.alloc (.deferred (some []))) (.loop rc)
   rw [World.size_alloc] at this
   exact this
  ·exact (Below.heap_alloc _ _ _ (by simp)).trans (World.alloc_heap_new w _)
 refine ⟨w.heap.size + 1,[{ target:=.collected w.heap.size,args:=#[] }],W1,{ target:=.fn (.func gf) lb,args:=#[.func (.yield (w.heap.size + 1)) #[] #[]] },W1,gf,#[.func (.yield (w.heap.size + 1)) #[] #[]] ++ lb,W1,
  run_enterLoop_outer _ _ _ _ _,?_,fun _ _=>trivial,?_,fun _=>by omega,?_⟩
 ·simp only [resolve,rangeCall,hg]
  simp [go_sem]
 ·simp [invoke,go_sem,eg]
 ·refine (hit (w.heap.size + 1) (fun k W=>J k W∧RecOk w.heap.size rc W) (fun k W h=>hJr k W h.1) (fun k W d h=>⟨hJd k W d h.1,h.2⟩) ?_ W1 ⟨hJ0 rc,hR1⟩).mono ?_
  ·rintro k W hk ⟨hj,hr⟩
   refine ⟨fn,_,assign,body,run_yield (P:=P) hr.1 (hu k hk),roundIn_of_wpIn hfn (has _ k W _ hk ⟨_,run_beginRound hr.1 rfl,?_⟩)⟩
   refine wpIn_mono (hbody _ k _ { rc with state:=.busy } hk (hJp k W rc _ hj hr) hr.put) ?_
   rintro e a3 W3 hq
   cases e with
   | normal=>
    obtain ⟨h1,h2⟩:=hq
    exact ⟨_,_,run_endRound (P:=P) none h2.1,rfl,hJp _ _ _ _ h1 h2,h2.put⟩
   | _=>exact hq.elim
  ·rintro e W' ⟨⟨v,rfl⟩,h1,h2⟩
   exact ⟨none,_,run_endLoop (P:=P) h2.1 (by simp [rc]),hdone _ (hJp _ _ _ _ h1 h2) ((World.putObj_heap_other (by omega)).trans h2.2)⟩
theorem Gm.frzB {O:Own} {ρ:List Hd} {tb:Tbl} {w:World} {id ty:Nat} {v:IV} (hM:Gm O ρ tb w) (hb:tb[id]? = some (.blk ty v)) :
  ∃ O' h cs,ρ[id]? = some h∧O' h.b=.im cs∧R O' ρ false v cs∧Gm O' ρ (tb.set id .no) w∧Stp (· = id) O ρ w O' ρ w:=by
 obtain ⟨h,cs,h1,h2,h3,h4,h5⟩:=hM.th _ _ hb
 have hid:=(List.getElem?_eq_some_iff.1 hb).1
 have hle:O.le (fun b=>bif Nat.beq h.b b then .im cs else O b):=fun b all e=>by
  cases e':Nat.beq h.b b with
  | true=>have:=Nat.eq_of_beq_eq_true e';subst this;rw [h2] at e;cases e
  | false=>simp only [e',cond_false];exact e
 have hst:=hM.step (M:=(· = id)) (O':=fun b=>bif Nat.beq h.b b then .im cs else O b) (ρ':=ρ) (tb':=tb.set id .no) (w':=w) (Kept.refl _ _) (fun b hbl hn=>?_) (fun b hbl=>?_) (fun b all e=>?_) (.refl _) (by simp [hM.len]) (fun j x hx=>?_)
 ·exact ⟨_,h,cs,h1,by simp,R.mono hle (.refl _) h4,hst.1,hst.2⟩
 ·cases e':Nat.beq h.b b with
  | true=>have:=Nat.eq_of_beq_eq_true e';subst this;exact absurd h2 (hn id rfl)
  | false=>rfl
 ·cases e':Nat.beq h.b b with
  | true=>have:=Nat.eq_of_beq_eq_true e';subst this;have:=h5.lt;omega
  | false=>exact hM.lt b hbl
 ·cases e':Nat.beq h.b b with
  | true=>
   have:=Nat.eq_of_beq_eq_true e';subst this
   simp only [e',cond_true] at e
   cases e
   obtain ⟨fz,h6,_⟩:=h5
   exact .inr ⟨ty,fz,h6⟩
  | false=>simp only [e',cond_false] at e;exact .inl e
 ·rw [List.getElem?_set] at hx
  split at hx
  ·cases hx;exact .inr trivial
  ·rename_i hj;exact .inl ⟨hx,fun e=>hj e.symm⟩
def dropB:List Nat->Tbl->Tbl
 | [],tb=>tb
 | j :: r,tb=>dropB r (tb.set j .no)
def BxOk (O:Own) (ρ:List Hd) (tb:Tbl) (bx:List Nat):Prop:=∀ j ∈ bx,∀ ty v,tb[j]? = some (.blk ty v)->∃ h cs,ρ[j]? = some h∧O h.b=.im cs∧R O ρ false v cs
def allBlk (tb:Tbl):List Nat->Bool
 | []=>true
 | j :: r=>(match nth tb j with
  | some (.blk _ _)=>true
  | _=>false) && (match idx r j with
  | none=>true
  | some _=>false) && allBlk tb r
theorem dropB_ok:∀ (bx:List Nat) {O:Own} {ρ:List Hd} {tb:Tbl} {w:World},allBlk tb bx=true->Gm O ρ tb w->∃ O',Gm O' ρ (dropB bx tb) w∧Stp (fun _=>True) O ρ w O' ρ w∧BxOk O' ρ tb bx
 | [],O,ρ,tb,w,_,hM=>⟨O,hM,.refl _ _ _ _,fun j hj=>by cases hj⟩
 | j :: bx,O,ρ,tb,w,hB,hM=>by
  simp only [allBlk,Bool.and_eq_true] at hB
  obtain ⟨⟨h1,h2⟩,h3⟩:=hB
  split at h1<;>first | (cases h1;done) | skip
  rename_i ty v hb
  split at h2<;>first | (cases h2;done) | skip
  rename_i hni
  rw [nth_eq] at hb
  obtain ⟨O1,h,cs,g1,g2,g3,g4,g5⟩:=hM.frzB hb
  have hne:∀ i ∈ bx,i ≠ j:=fun i hi e=>by subst e;exact idx_none hni hi
  have hsame:∀ i,i ≠ j->(tb.set j .no)[i]? = tb[i]?:=fun i hi=>by rw [List.getElem?_set,if_neg (Ne.symm hi)]
  have hB':∀ l:List Nat,(∀ i ∈ l,i ≠ j)->allBlk tb l=true->allBlk (tb.set j .no) l=true:=by
   intro l
   induction l with
   | nil=>intro _ _;rfl
   | cons i l ih=>
    intro hl h
    simp only [allBlk,Bool.and_eq_true] at h ⊢
    refine ⟨⟨?_,h.1.2⟩,ih (fun i hi=>hl i (by simp [hi])) h.2⟩
    rw [nth_eq,hsame i (hl i (by simp)),← nth_eq];exact h.1.1
  obtain ⟨O2,k1,k2,k3⟩:=dropB_ok bx (hB' bx hne h3) g4
  refine ⟨O2,k1,(g5.weak (fun _ _=>trivial)).trans k2,fun i hi ty' v' hv'=>?_⟩
  rcases List.mem_cons.1 hi with rfl | hi
  ·rw [hb] at hv';cases hv'
   exact ⟨h,cs,g1,k2.im _ _ g2,R.mono k2.im k2.pre g3⟩
  ·exact k3 i hi ty' v' (by rw [hsame i (hne i hi)];exact hv')
theorem SR.ofR {O:Own} {ρ:List Hd} {v:IV} {c:List Value} (hv:∀ ch,v ≠ .tu ch) (h:R O ρ false v c):∃ sv,SR O ρ v sv∧sv.val=(bif v.agg then .agg c.toArray else c.headD (.bool false)):=by
 have one:v.agg=false->∃ u,c=[u]:=fun hg=>by
  have hl:=R.length h
  have hz:v.sz.size=1:=by cases v<;>first | rfl | cases hg
  rw [hz] at hl
  match c,hl with
  | [u],_=>exact ⟨u,rfl⟩
 cases v with
 | o x=>obtain ⟨rfl,h2⟩:=h;exact ⟨.o x,⟨x,rfl,rfl,h2⟩,rfl⟩
 | un=>simp only [R] at h;subst h;exact ⟨.o (.v (.agg #[])),⟨_,rfl,rfl⟩,rfl⟩
 | pr a b=>exact ⟨.o (.v (.agg c.toArray)),⟨_,rfl,c,rfl,h⟩,rfl⟩
 | ar n t xs=>exact ⟨.o (.v (.agg c.toArray)),⟨_,rfl,c,rfl,h⟩,rfl⟩
 | tu ch=>exact absurd rfl (hv ch)
 | _=>obtain ⟨u,rfl⟩:=one rfl;exact ⟨.o (.v u),⟨_,rfl,u,rfl,h⟩,rfl⟩
def putA:List Nat->List Value->Act->Act
 | p :: ps,v :: vs,a=>putA ps vs (a.put (some p) v)
 | _,_,a=>a
def putI:List Nat->List IV->IEnv->IEnv
 | p :: ps,v :: vs,il=>putI ps vs ((p,v) :: il)
 | _,_,il=>il
def noTu:List IV->Bool
 | []=>true
 | v :: r=>(match v with
  | .tu _=>false
  | _=>true) && noTu r
def allLt (n:Nat):List Nat->Bool
 | []=>true
 | p :: r=>Nat.blt p n && allLt n r
theorem putA_ok {n:Nat} {O:Own} {ρ:List Hd}:∀ {ps:List Nat} {vs:List IV} {cs:List (List Value)} {a:Act} {il:IEnv},allLt n ps=true->noTu vs=true->RL O ρ vs cs->FI n a il O ρ->FI n (putA ps (vals vs cs) a) (putI ps vs il) O ρ
 | [],vs,cs,a,il,_,_,_,h=>by cases vs<;>cases cs<;>exact h
 | p :: ps,[],cs,a,il,_,_,hR,h=>by simp only [RL] at hR;subst hR;exact h
 | p :: ps,v :: vs,cs,a,il,hl,hn,hR,h=>by
  obtain ⟨c,r,rfl,h1,h2⟩:=hR
  simp only [allLt,noTu,Bool.and_eq_true] at hl hn
  obtain ⟨sv,g1,g2⟩:=SR.ofR (fun ch e=>by subst e;simp at hn) h1
  have:=h.put hl.1 g1
  rw [g2] at this
  exact putA_ok (ps:=ps) (vs:=vs) (cs:=r) hl.2 hn.2 h2 this
theorem putA_defers:∀ (ps:List Nat) (vs:List Value) (a:Act),(putA ps vs a).defers=a.defers
 | [],vs,a=>by cases vs<;>rfl
 | p :: ps,[],a=>rfl
 | p :: ps,v :: vs,a=>by simp only [putA];rw [putA_defers ps vs];rfl
theorem putA_tmps:∀ (ps:List Nat) (vs:List Value) (a:Act),(putA ps vs a).tmps=(ps.zip vs).foldl (fun t x=>t.setIfInBounds x.1 x.2) a.tmps
 | [],vs,a=>by cases vs<;>rfl
 | p :: ps,[],a=>rfl
 | p :: ps,v :: vs,a=>by simp only [putA,List.zip_cons_cons,List.foldl_cons];rw [putA_tmps ps vs];rfl
theorem uniS_ok2 {β:Type} {m:Nat} {sl:List Nat} {A:List Sh} {T:List TSh} {st:St} {k:dens A->tdens T->Option β} {r:β} {a:Act} {w w0:World} {O O0:Own} {ρ ρ0:List Hd} (hm:ρ0.length=m) (e:uniS m sl A T st k=some r)
  (hF:FS E.n a st O ρ) (hM:Gm O ρ st.tb w) (hG:GO E.c O) (hS:Stp (fun _=>True) O0 ρ0 w0 O ρ w) :
  ∃ x y O' ρ',k x y=some r∧O.le O'∧(∀ b,b < w.heap.size->O b=.no->O' b=.no)∧FS E.n a (mkSt sl A T x y) O' ρ'∧Gm O' ρ' (encTs T y) w∧GO E.c O'∧Stp (fun _=>True) O0 ρ0 w0 O' ρ' w:=by
 unfold uniS at e
 split at e<;>first | (cases e;done) | skip
 rename_i vs hvs hdf
 obtain ⟨cs,hR,hlen,hslots⟩:=pickS_ok hF.1 hvs
 have hle:m≤st.tb.length:=by
  rw [← hM.len,← hm]
  rcases Nat.lt_or_ge ρ.length ρ0.length with h' | h'
  ·have h1:ρ0[ρ.length]? = some ρ0[ρ.length]:=by simp [h']
   have:=hS.pre _ _ h1
   simp at this
  ·exact h'
 obtain ⟨x,y,u',O',ρ',hk,U⟩:=uni_ok e hM hR (rng_nodup m) (fun i hi=>Nat.lt_of_lt_of_le (rng_mem hi) hle)
 obtain ⟨more,hbd⟩:=U.gh.bd
 have hb:∀ i,i < ρ0.length->u'.bd[i]? = some i:=fun i hi=>by
  rw [hm] at hi
  rw [hbd]
  show (rng m ++ more)[i]? = some i
  rw [List.getElem?_append_left (by rw [rng,rngF_len];exact hi)];exact rng_get hi
 have hS2:=(hS.trans (U.gh.stp.weak (fun _ _=>trivial))).oc (lt:=u'.lt) hb
 obtain ⟨⟨l,hl,_⟩,hD⟩:=hF
 rw [hdf] at hD
 have hle2:=U.gh.stp.im.trans (Oc_le u'.bd u'.lt O' w)
 refine ⟨x,y,_,_,hk,hle2,fun b hbl h=>?_,⟨?_,hD⟩,U.gm,hG.mono hle2,hS2⟩
 ·have:=U.gh.stp.no b hbl h
  simp only [Oc,this]
 ·exact FI.of hl.size U.rl (fun i t v hi hv=>hslots i t v hi (by rw [← vals_sz U.sz];exact hv))
def rfold {σ ε:Type} (f:σ->ε->Option σ):List ε->σ->Option σ
 | [],s=>some s
 | e :: r,s=>(f s e).bind (rfold f r)
theorem rfold_app {σ ε:Type} {f:σ->ε->Option σ}:∀ (l r:List ε) (s:σ),rfold f (l ++ r) s=(rfold f l s).bind (rfold f r)
 | [],r,s=>rfl
 | e :: l,r,s=>by
  simp only [List.cons_append,rfold]
  cases f s e with
  | none=>rfl
  | some s'=>simp only [Option.bind_some];exact rfold_app l r s'
def mkF (gt gf:Nat) (cap:Sh) (s1:List Nat) (A0 A1:List Sh) (T T1:List TSh) {ε:Type} (els:dens (.fn gf .un cap :: A0)->tdens T->List ε) (init:dens (.fn gf .un cap :: A0)->tdens T->dens A1×tdens T1)
  (ok:dens (.fn gf .un cap :: A0)->tdens T->Bool) (f:dens (.fn gf .un cap :: A0)->tdens T->dens A1×tdens T1->ε->Option (dens A1×tdens T1)):Lc where
 s0:=gt :: s1
 A:=.fn gf .un cap :: A0
 T:=T
 s1:=s1
 A1:=A1
 T1:=T1
 s2:=[]
 A2:=[]
 T2:=[]
 rf:=true
 run:=fun _ x y k1 _=>(bif ok x y then rfold (f x y) (els x y) (init x y) else none).bind fun s=>k1 s.1 s.2
 nat:=fun _ x y k1 k2 r h=>by
  obtain ⟨z,h1,h2⟩:=bindS h
  exact .inl ⟨_,_,by rw [h1];rfl,h2⟩
def kRd (m:Nat) (s1:List Nat) (A1:List Sh) (T1:List TSh) (vs:List IV):Exit->St->Option (dens A1×tdens T1):=fun e st=>match e with
 | .normal=>uniS m s1 A1 T1 ⟨zipS s1 vs,st.tb,[]⟩ fun x y=>some (x,y)
 | _=>none
theorem Gm.other {O:Own} {ρ:List Hd} {T:List TSh} {y:tdens T} {w w':World} (hM:Gm O ρ (encTs T y) w) (hs:w.heap.size≤w'.heap.size) (hb:∀ b,b < w.heap.size->O b ≠ .no->w'.heap[b]? = w.heap[b]?):Gm O ρ (encTs T y) w':=by
 have hlow:∀ b,O b ≠ .no->b < w.heap.size:=fun b h=>by
  rcases Nat.lt_or_ge b w.heap.size with h' | h'
  ·exact h'
  ·exact absurd (hM.lt b h') h
 have same:∀ b,O b ≠ .no->w'.heap[b]? = w.heap[b]?:=fun b h=>hb b (hlow b h) h
 refine ⟨fun b all e=>?_,fun b h=>hM.lt b (Nat.le_trans hs h),hM.len,fun j x hx=>?_⟩
 ·obtain ⟨ty,fz,h1⟩:=hM.im b all e
  exact ⟨ty,fz,by rw [same b (by rw [e];simp)];exact h1⟩
 ·have old:=hM.th j x hx
  have nomk:∀ (T:List TSh) (y:tdens T) (j:Nat),(encTs T y)[j]? ≠ some .mk:=by
   intro T
   induction T with
   | nil=>intro y j h;simp [encTs] at h
   | cons s T ih=>
    intro y j h
    cases j with
    | zero=>simp only [encTs,List.getElem?_cons_zero,Option.some.injEq] at h;cases s<;>simp [encT] at h
    | succ j=>simp only [encTs,List.getElem?_cons_succ] at h;exact ih y.2 j h
  cases x with
  | blk ty v=>
   obtain ⟨h,cs,h3,h4,h5,h6,h7⟩:=old
   exact ⟨h,cs,h3,h4,h5,h6,h7.same (same _ (by rw [h4];simp))⟩
  | row E t xs=>
   obtain ⟨h,es,h3,h4,h5,h6,h7⟩:=old
   exact ⟨h,es,h3,h4,h5,h6,Rs.same (r:=.row E t.size h.v xs.length es) (fun b hbb=>same b (by rw [h5 b hbb];simp)) h7⟩
  | fz t xs=>exact old
  | no=>trivial
  | mk=>exact absurd hx (nomk T y j)
  | mp kt vt l=>
   obtain ⟨h,es,h3,h4,h5,h6⟩:=old
   exact ⟨h,es,h3,h4,by rw [same _ (by rw [h4];simp)];exact h5,h6⟩
def Sh.fr:Sh->Bool
 | .i=>true
 | .u8=>true
 | .u32=>true
 | .u64=>true
 | .bo=>true
 | .str=>true
 | .ro _=>true
 | .un=>true
 | .ar _ _=>true
 | .pr a b=>a.fr && b.fr
 | _=>false
theorem R_fr {O O':Own} {ρ ρ':List Hd} (hO:O.le O'):∀ {s:Sh},s.fr=true->∀ {x:s.den} {c:List Value},R O ρ false (enc s x) c->R O' ρ' false (enc s x) c:=by
 intro s
 induction s with
 | pr a b iha ihb=>
  intro h x c hR
  simp only [Sh.fr,Bool.and_eq_true] at h
  obtain ⟨c1,c2,rfl,h1,h2⟩:=hR
  exact ⟨c1,c2,rfl,iha h.1 h1,ihb h.2 h2⟩
 | ro t=>intro h x c hR;exact TR.mono (t:=.sl t) hO hR
 | ar n t=>intro h x c hR;exact TR.mono (t:=.ar n t) hO hR
 | un=>intro h x c hR;exact hR
 | i=>intro h x c hR;exact hR
 | u8=>intro h x c hR;exact hR
 | u32=>intro h x c hR;exact hR
 | u64=>intro h x c hR;exact hR
 | bo=>intro h x c hR;exact hR
 | str=>intro h x c hR;exact hR
 | _=>intro h;simp [Sh.fr] at h
def allFr:List Sh->Bool
 | []=>true
 | s :: r=>s.fr && allFr r
theorem RL_fr {O O':Own} {ρ ρ':List Hd} (hO:O.le O'):∀ {A:List Sh},allFr A=true->∀ {x:dens A} {cs:List (List Value)},RL O ρ (encs A x) cs->RL O' ρ' (encs A x) cs
 | [],_,x,cs,h=>h
 | s :: A,hA,x,cs,h=>by
  simp only [allFr,Bool.and_eq_true] at hA
  obtain ⟨c,r,rfl,h1,h2⟩:=h
  exact ⟨c,r,rfl,R_fr hO hA.1 h1,RL_fr hO hA.2 h2⟩
theorem Gm.adoptM {O:Own} {ρ:List Hd} {tb:Tbl} {w:World} {b0:Nat} (hM:Gm O ρ tb w) (hO:O b0=.no) (hb:w.heap[b0]? = some (.deferred (some []))) :
  Gm (fun b=>bif Nat.beq b0 b then .th tb.length else O b) (ρ ++ [⟨b0,.nil,.bool false⟩]) (tb ++ [.mk]) w∧O.le (fun b=>bif Nat.beq b0 b then .th tb.length else O b):=by
 have hlt:b0 < w.heap.size:=(Array.getElem?_eq_some_iff.1 hb).1
 have hle:O.le (fun b=>bif Nat.beq b0 b then .th tb.length else O b):=fun b all e=>by
  cases e':Nat.beq b0 b with
  | true=>have:=Nat.eq_of_beq_eq_true e';subst this;rw [hO] at e;cases e
  | false=>simp only [e',cond_false];exact e
 refine ⟨⟨fun b all e=>?_,fun b hb'=>?_,by simp [hM.len],fun j x hx=>?_⟩,hle⟩
 ·cases e':Nat.beq b0 b with
  | true=>rw [e'] at e;cases e
  | false=>rw [e'] at e;exact hM.im b all e
 ·cases e':Nat.beq b0 b with
  | true=>have:=Nat.eq_of_beq_eq_true e';omega
  | false=>exact hM.lt b hb'
 ·rcases Nat.lt_or_ge j tb.length with hj | hj
  ·rw [List.getElem?_append_left hj] at hx
   have old:=hM.th j x hx
   have ne:∀ b,O b=.th j->(bif Nat.beq b0 b then .th tb.length else O b)=.th j:=fun b e=>by
    cases e':Nat.beq b0 b with
    | true=>have:=Nat.eq_of_beq_eq_true e';subst this;rw [hO] at e;cases e
    | false=>exact e
   cases x with
   | blk ty v=>
    obtain ⟨h,cs,h3,h4,h5,h6,h7⟩:=old
    exact ⟨h,cs,Pre.app _ _ _ _ h3,ne _ h4,h5,R.mono hle (.app _ _) h6,h7⟩
   | row E t xs=>
    obtain ⟨h,es,h3,h4,h5,h6,h7⟩:=old
    exact ⟨h,es,Pre.app _ _ _ _ h3,h4,fun b hbb=>ne _ (h5 b hbb),h6.mono (fun _ _=>TR.mono hle),h7⟩
   | fz t xs=>
    obtain ⟨h,h3,h4,h5⟩:=old
    exact ⟨h,Pre.app _ _ _ _ h3,h4,TR.mono hle h5⟩
   | no=>trivial
   | mk=>
    obtain ⟨h,h3,h4,h5⟩:=old
    exact ⟨h,Pre.app _ _ _ _ h3,ne _ h4,h5⟩
   | mp kt vt l=>
    obtain ⟨h,es,h3,h4,h5,h6⟩:=old
    exact ⟨h,es,Pre.app _ _ _ _ h3,ne _ h4,h5,h6.mono hle⟩
  ·have:j=tb.length:=by
    have:=(List.getElem?_eq_some_iff.1 hx).1
    simp at this;omega
   subst this
   rw [List.getElem?_append_right (Nat.le_refl _)] at hx
   simp at hx;subst hx
   exact ⟨⟨b0,.nil,.bool false⟩,by rw [← hM.len];simp,by simp,hb⟩
def Jk (E:Ev) (O0:Own) (ρ0:List Hd) (w0:World) (D:Nat) (O1:Own) (ρ1:List Hd) (a:Act) (s1:List Nat) (A1:List Sh) (T1:List TSh) (S:Nat->Option (dens A1×tdens T1)) (k:Nat) (W:World):Prop:=
 ∃ s,S k=some s∧∃ O ρ,O1.le O∧O D=.no∧O (D + 1)=.no∧D + 1 < W.heap.size∧FS E.n a (mkSt s1 A1 T1 s.1 s.2) O ρ∧Gm O ρ (encTs T1 s.2) W∧GO E.c O∧Stp (fun _=>True) O0 ρ0 w0 O ρ W
theorem rf_ok {m:Nat} {root:Code} {p pb:List Nat} {gt gf ida d s_:Nat} {cap:Sh} {ps:Array Tmp} {oa:Oper} {body:Code} {s1:List Nat} {A0 A1 Ae:List Sh} {T T1:List TSh} {bx:List Nat}
  {els:dens (.fn gf .un cap :: A0)->tdens T->List (dens Ae)} {init:dens (.fn gf .un cap :: A0)->tdens T->dens A1×tdens T1} {ok:dens (.fn gf .un cap :: A0)->tdens T->Bool} {f:dens (.fn gf .un cap :: A0)->tdens T->dens A1×tdens T1->dens Ae->Option (dens A1×tdens T1)} {ve:dens Ae->IV}
  (hc:COk P E.c) (hct:CtsOk P E) (hmx:P.follows .mixedOrders=true) (hcode:cAt root p=.rangeFunc (.tmp gt) ps (.region ida #[oa] false) body) (hoa:oa.op=.assign (.tmp s_)) (hod:oa.dst=some d) (hog:oa.guard=none)
  (hord:ordAll E body=true) (hnd:noDefC body=true) (hbx:∀ y,allBlk (encTs T y) bx=true) (hini:∀ x y,uniS m s1 A1 T1 ⟨zipS s1 (encs A0 x.2),dropB bx (encTs T y),[]⟩ (fun p q=>some (p,q))=some (init x y)) (hgt:idx s1 gt=none) (hps:ps.size=Ae.length) (hfr:allFr Ae=true)
  (hlt:allLt E.n ps.toList=true) (hdlt:Nat.blt d E.n=true) (hnt:∀ el,noTu (encs Ae el)=true) (hve:∀ el il,geti (putI ps.toList (encs Ae el) il) s_=some (ve el))
  (eg:∀ args w,(callFunc gf args).run P w=.ok (.enter gf args) w)
  (hit:∀ x y O ρ lb,ok x y=true->R O ρ true (enc cap x.1.2) lb->BxOk O ρ (encTs T y) bx->∃ u:Nat->Array Value,(∀ k el,(els x y)[k]? = some el->∃ cs,RL O ρ (encs Ae el) cs∧u k=(vals (encs Ae el) cs).toArray) ∧
   Iter P gf lb.toArray (els x y).length u (fun W=>∀ b all,O b=.im all->∃ ty fz,W.heap[b]? = some (.cells all.toArray ty fz)))
  (heq:∀ x y st el,sev E m [] body pb ⟨(d,ve el) :: putI ps.toList (encs Ae el) (zipS s1 (encs A1 st.1)),encTs T1 st.2,[]⟩ (kRd m s1 A1 T1 (encs A1 st.1))=f x y st el) :
  LcOkM P E m (mkF gt gf cap s1 A0 A1 T T1 els init ok f) (cAt root p):=by
 intro O0 ρ0 w0 hm x y p' q' hrun a w hG
 have hrun:(bif ok x y then rfold (f x y) (els x y) (init x y) else none).bind (fun s=>some (Sum.inl (s.1,s.2)))=some (Sum.inl (p',q')):=hrun
 obtain ⟨sN,hfold,hsN⟩:=bindS hrun
 have hok:ok x y=true:=by
  cases h:ok x y with
  | true=>rfl
  | false=>rw [h] at hfold;cases hfold
 rw [hok] at hfold
 simp only [cond_true] at hfold
 have hsN:(sN.1,sN.2)=(p',q'):=by
  have:=Option.some.inj hsN
  exact Sum.inl.inj this
 have hG:G E O0 ρ0 w0 (mkSt (gt :: s1) (.fn gf .un cap :: A0) T x y) a w:=hG
 obtain ⟨O,ρ,⟨⟨l,hl,hER⟩,hD⟩,hM,hGO,hS⟩:=hG
 have hM:Gm O ρ (encTs T y) w:=hM
 have hdef:a.defers=[]:=hD
 have hER:ER O ρ ((gt,.fn gf .un (enc cap x.1.2)) :: zipS s1 (encs A0 x.2)) l:=hER
 obtain ⟨sv,hsv,y0,rfl,u0,rfl,hR0⟩:=hER.get (t:=gt) (v:=.fn gf .un (enc cap x.1.2)) (by simp [geti])
 obtain ⟨xs,lb,hcs,hxs,hlb⟩:=hR0
 simp only [List.cons.injEq,and_true] at hcs
 simp only [R] at hxs
 subst hxs hcs
 have hev:a.eval (.tmp gt)=.func (.func gf) #[] lb.toArray:=hl.eval hsv
 obtain ⟨O1,hM1,hS1,hbxo⟩:=dropB_ok bx (hbx y) hM
 have hlb1:R O1 ρ true (enc cap x.1.2) lb:=R.mono hS1.im hS1.pre hlb
 obtain ⟨u,hu,hiter⟩:=hit x y O1 ρ lb hok hlb1 hbxo
 have hF1:FI E.n a (zipS s1 (encs A0 x.2)) O1 ρ:=by
  have hfi:FI E.n a ((gt,.fn gf .un (enc cap x.1.2)) :: zipS s1 (encs A0 x.2)) O ρ:=⟨l,hl,hER⟩
  have hfi:=hfi.mono hS1.im hS1.pre
  obtain ⟨l',hl',hER'⟩:=hfi
  cases l' with
  | nil=>exact hER'.elim
  | cons z l'=>
   obtain ⟨t0,x0⟩:=z
   obtain ⟨rfl,_,h3⟩:=hER'
   refine ⟨l',⟨hl'.defers,hl'.size,fun t v hv=>hl'.has t v ?_⟩,h3⟩
   have hne:gt ≠ t:=fun e=>by
    subst e
    have hk:∀ {sl:List Nat} {vs:List IV} {l':Env},ER O1 ρ (zipS sl vs) l'->idx sl gt=none->get? l' gt=none:=by
     intro sl
     induction sl with
     | nil=>intro vs l' h _;cases l' with
      | nil=>rfl
      | cons _ _=>simp [zipS,ER] at h
     | cons t1 sl ih=>
      intro vs l' h hi
      cases vs with
      | nil=>cases l' with
       | nil=>rfl
       | cons _ _=>simp [zipS,ER] at h
      | cons v1 vs=>
       cases l' with
       | nil=>simp [zipS,ER] at h
       | cons z l'=>
        obtain ⟨t2,x2⟩:=z
        obtain ⟨rfl,_,h4⟩:=h
        simp only [idx] at hi
        split at hi
        ·cases hi
        ·rename_i hb
         split at hi
         ·cases hi
         ·rename_i hi2
          simp only [get?,hb,cond_false]
          exact ih h4 hi2
    rw [hk h3 hgt] at hv
    cases hv
   simp only [get?]
   have hb:Nat.beq gt t=false:=by
    cases hb:Nat.beq gt t with
    | true=>exact absurd (Nat.eq_of_beq_eq_true hb) hne
    | false=>rfl
   rw [hb]
   exact hv
 rw [hcode]
 have hw0:w0.heap.size≤w.heap.size:=hS.kept.size
 obtain ⟨p1,q1,O1',ρ1',hk1,hle1,_,hFS1,hGm1,hGO1,hS1'⟩:=uniS_ok2 (E:=E) hm (hini x y) (a:=a) (O:=O1) (ρ:=ρ) ⟨hF1,hD⟩ hM1 (hGO.mono hS1.im) (hS.trans hS1)
 have hk1:(p1,q1)=init x y:=Option.some.inj hk1
 let S:Nat->Option (dens A1×tdens T1):=fun k=>rfold (f x y) ((els x y).take k) (init x y)
 have hSs:∀ k el,(els x y)[k]? = some el->S (k + 1)=(S k).bind fun s=>f x y s el:=by
  intro k el hk
  have hlt:k < (els x y).length:=(List.getElem?_eq_some_iff.1 hk).1
  have e1:(els x y).take (k + 1)=(els x y).take k ++ [el]:=by
   rw [List.take_add_one,hk];rfl
  show rfold _ _ _=_
  rw [e1,rfold_app]
  show _=(rfold (f x y) ((els x y).take k) (init x y)).bind _
  congr 1
  funext s
  simp only [rfold]
  cases f x y s el<;>rfl
 have hSN:S (els x y).length=some sN:=by
  show rfold _ ((els x y).take (els x y).length) _=_
  rw [List.take_length];exact hfold
 have hSall:∀ k,k≤(els x y).length->∃ s,S k=some s:=by
  intro k hk
  have e1:els x y=(els x y).take k ++ (els x y).drop k:=(List.take_append_drop k _).symm
  have h2:=hfold
  rw [e1,rfold_app] at h2
  obtain ⟨s,h3,_⟩:=bindS h2
  exact ⟨s,h3⟩
 let A0:Nat->Act:=fun k=>putA ps.toList (u k).toList { tmps:=a.tmps,defers:=[] }
 have hA0:∀ k,({ tmps:=(ps.zip (u k)).foldl (fun t (p,v)=>t.setIfInBounds p v) a.tmps,defers:=[] }:Act)=A0 k:=by
  intro k
  have h1:=putA_tmps ps.toList (u k).toList { tmps:=a.tmps,defers:=[] }
  have h2:=putA_defers ps.toList (u k).toList { tmps:=a.tmps,defers:=[] }
  show _=putA ps.toList (u k).toList { tmps:=a.tmps,defers:=[] }
  generalize putA ps.toList (u k).toList { tmps:=a.tmps,defers:=[] }=B at h1 h2
  obtain ⟨bt,bd⟩:=B
  simp only at h1 h2
  subst h1 h2
  congr 1
  rw [← Array.foldl_toList,Array.toList_zip]
 refine rf_law (w:=w) hev eg hiter (fun k hk=>?_) (Jk E O0 ρ0 w0 w.heap.size O1 ρ a s1 A1 T1 S) (fun k=>(A0 k).put (some d) ((A0 k).eval (.tmp s_))) ?_ ?_ ?_ ?_ ?_ ?_ ?_
 ·obtain ⟨cs,h1,h2⟩:=hu k _ (List.getElem?_eq_getElem hk)
  have hvl:∀ {vs:List IV} {cs:List (List Value)},RL O1 ρ vs cs->(vals vs cs).length=vs.length:=by
   intro vs
   induction vs with
   | nil=>intro cs h;simp [vals]
   | cons v vs ih=>intro cs h;obtain ⟨c0,r,rfl,h1,h2⟩:=h;simp [vals,ih h2]
  rw [h2,List.size_toArray,hvl h1,encs_len,hps]
 ·
  rintro k W ⟨s,_,O2,ρ2,hle,_,_,_,_,hM2,_,_⟩ b all hb
  exact hM2.im b all (hle b all hb)
 ·
  rintro k W dr ⟨s,h1,O2,ρ2,hle,hn1,hn2,hsz,hF2,hM2,hG2,hS2⟩
  refine ⟨s,h1,O2,ρ2,hle,hn1,hn2,hsz,hF2,hM2.other (Nat.le_refl _) (fun _ _ _=>rfl),hG2,?_⟩
  exact ⟨hS2.pre,hS2.im,hS2.no,hS2.own,⟨hS2.kept.os,hS2.kept.tape,hS2.kept.output,hS2.kept.size,hS2.kept.block⟩⟩
 ·
  intro rc
  refine ⟨init x y,rfl,O1',ρ1',hle1,hGm1.lt _ (Nat.le_refl _),hGm1.lt _ (by omega),by simp,by rw [← hk1];exact hFS1,?_,hGO1,?_⟩
  ·rw [← hk1]
   refine hGm1.other (by simp;omega) (fun b hb _=>?_)
   exact (Below.heap_alloc _ _ _ (by simp;omega)).trans (Below.heap_alloc _ _ _ hb)
  ·have hk:Kept none1 w ((w.alloc (.deferred (some []))).alloc (.loop rc)):=⟨rfl,rfl,rfl,by simp;omega,fun b hb _=>(Below.heap_alloc _ _ _ (by simp;omega)).trans (Below.heap_alloc _ _ _ hb)⟩
   exact hS1'.trans ⟨.refl _,.refl _,fun _ _ h=>h,fun _ _ _ h _=>h,hk.wide (fun _ h=>h.elim)⟩
 ·
  rintro k W r r' ⟨s,h1,O2,ρ2,hle,hn1,hn2,hsz,hF2,hM2,hG2,hS2⟩ hrec
  refine ⟨s,h1,O2,ρ2,hle,hn1,hn2,by simpa using hsz,hF2,?_,hG2,?_⟩
  ·refine hM2.other (by simp) (fun b hb hno=>World.putObj_heap_other (fun e=>?_))
   rw [e] at hno;exact hno hn2
  ·refine ⟨hS2.pre,hS2.im,hS2.no,hS2.own,⟨hS2.kept.os,hS2.kept.tape,hS2.kept.output,by simpa using hS2.kept.size,fun b hb hne=>?_⟩⟩
   rw [World.putObj_heap_other (by omega)]
   exact hS2.kept.block b hb hne
 ·
  intro ll k W K' hk hK'
  rw [hA0]
  have h1:wpListIn (Fence.wide.inRound ll) 0 P #[oa] (Exit.then K' (fun _ _ _=>False)) [oa] (A0 k) W:=by
   unfold wpListIn
   rw [if_pos (by simp [Region.wanted,hog])]
   refine ⟨fun _ _=>trivial,?_⟩
   rw [Oper.semAt_eq _ _ _ (fun c e=>by rw [hoa] at e;cases e)]
   simp only [execOp,hoa,Sem.run_pure,Sem.run_bind,Result.andThen_ok,Oper.uponIn,hod]
   exact hK'
  exact wpIn_region_lit (l:=[oa]) h1
 ·
  rintro ll k W r hk ⟨s,h1,O2,ρ2,hle,hn1,hn2,hsz,hF2,hM2,hG2,hS2⟩ hrec
  have hel:(els x y)[k]? = some (els x y)[k]:=List.getElem?_eq_getElem hk
  obtain ⟨cs,hR,huk⟩:=hu k _ hel
  obtain ⟨sk,hsk⟩:=hSall (k + 1) (by omega)
  have hf:f x y s (els x y)[k]=some sk:=by
   have:=hSs k _ hel
   rw [h1,hsk] at this
   exact this.symm
  have hsev:=heq x y s (els x y)[k]
  rw [hf] at hsev
  have hFI:FI E.n (A0 k) (putI ps.toList (encs Ae (els x y)[k]) (zipS s1 (encs A1 s.1))) O2 ρ2:=by
   have h0:FI E.n { tmps:=a.tmps,defers:=[] } (zipS s1 (encs A1 s.1)) O2 ρ2:=hF2.1
   have h3:=putA_ok hlt (hnt _) (RL_fr (ρ':=ρ2) hle hfr hR) h0
   show FI E.n (putA ps.toList (u k).toList { tmps:=a.tmps,defers:=[] }) _ O2 ρ2
   rw [huk]
   exact h3
  have hFI2:FI E.n ((A0 k).put (some d) ((A0 k).eval (.tmp s_))) ((d,ve (els x y)[k]) :: putI ps.toList (encs Ae (els x y)[k]) (zipS s1 (encs A1 s.1))) O2 ρ2:=by
   have hFI':=hFI
   obtain ⟨lx,hlx,hERx⟩:=hFI'
   obtain ⟨xv,hxv,hSR⟩:=hERx.get (hve (els x y)[k] (zipS s1 (encs A1 s.1)))
   have he:(A0 k).eval (.tmp s_)=xv.val:=hlx.eval hxv
   rw [he]
   exact hFI.put hdlt hSR
  have hdf:((A0 k).put (some d) ((A0 k).eval (.tmp s_))).defers=[]:=by
   rw [put_defers]
   exact putA_defers _ _ _
  have hG':G E O2 ρ2 W ⟨(d,ve (els x y)[k]) :: putI ps.toList (encs Ae (els x y)[k]) (zipS s1 (encs A1 s.1)),encTs T1 s.2,[]⟩ ((A0 k).put (some d) ((A0 k).eval (.tmp s_))) W:=
   ⟨O2,ρ2,⟨hFI2,hdf⟩,hM2,hG2,.refl _ _ _ _⟩
  refine sevR_ok (l:=ll) (n:=0) (m:=m) hc hct hmx body pb _ _ _ _ _ _ hord hnd hsev hG' (fun e st' a' W' h2 h3=>?_)
  cases e with
  | normal=>
   obtain ⟨O3,ρ3,_,hM3,hG3,hS3⟩:=h3
   obtain ⟨x',y',O4,ρ4,hk4,hle4,hno4,hF4,hM4,hG4,hS4⟩:=uniS_ok2 (E:=E) hm h2 (a:=a) (O:=O3) (ρ:=ρ3) ⟨FI.mono hS3.im hS3.pre hF2.1,hD⟩ hM3 hG3 (hS2.trans hS3)
   have hk4:(x',y')=sk:=Option.some.inj hk4
   subst hk4
   have hsz':=hS3.kept.size
   have d1:=hS3.no w.heap.size (by omega) hn1
   have d2:=hS3.no (w.heap.size + 1) (by omega) hn2
   refine ⟨⟨(x',y'),hsk,O4,ρ4,hle.trans (hS3.im.trans hle4),hno4 _ (by omega) d1,hno4 _ (by omega) d2,by omega,hF4,hM4,hG4,hS4⟩,?_,?_⟩
   ·rw [hS3.kept.block (w.heap.size + 1) (by omega) (fun ⟨id,_,e⟩=>by rw [hn2] at e;cases e)];exact hrec.1
   ·rw [hS3.kept.block w.heap.size (by omega) (fun ⟨id,_,e⟩=>by rw [hn1] at e;cases e)];exact hrec.2
  | exit j=>cases h2
  | ret=>cases h2
  | goto j=>cases h2
  | panic ch=>cases h2
  | outgrown=>cases h2
 ·
  rintro W ⟨s,h1,O2,ρ2,hle,hn1,hn2,hsz,hF2,hM2,hG2,hS2⟩ hdefb
  have hs:s=(p',q'):=by
   have h1:S (els x y).length=some s:=h1
   rw [hSN] at h1
   rw [← Option.some.inj h1,← hsN]
  subst hs
  obtain ⟨g1,g2⟩:=hM2.adoptM hn1 hdefb
  refine ⟨_,_,⟨FI.mono g2 (.app _ _) hF2.1,?_⟩,g1,hG2.mono g2,?_⟩
  ·have hlen:(encTs T1 q').length=ρ2.length:=hM2.len.symm
   refine .inr ⟨(encTs T1 q').length,⟨w.heap.size,.nil,.bool false⟩,[],rfl,?_,?_,rfl⟩
   ·rw [hlen];simp
   ·show _ :: a.defers=_
    rw [hdef]
  ·refine ⟨hS2.pre.trans (.app _ _),hS2.im.trans g2,fun b hb h=>?_,fun b id hb h hn=>absurd trivial hn,hS2.kept⟩
   have hne:Nat.beq w.heap.size b=false:=by
    cases e':Nat.beq w.heap.size b with
    | true=>have:=Nat.eq_of_beq_eq_true e';omega
    | false=>rfl
   simp only [hne,cond_false]
   exact hS2.no b hb h
def rfBody:Code->Code
 | .rangeFunc _ _ _ b=>b
 | c=>c
def rfParts:Code->Option (Nat×List Nat×Nat×Nat×Nat)
 | .rangeFunc g ps asg _=>match g,asg with
  | .tmp gt,.region ida ops draw=>match draw,ops.toList with
   | false,[oa]=>match oa.op,oa.dst,oa.guard with
    | .assign (.tmp s),some d,none=>some (gt,ps.toList,ida,d,s)
    | _,_,_=>none
   | _,_=>none
  | _,_=>none
 | _=>none
theorem rfParts_ok {c:Code} {gt ida d s:Nat} {ps:List Nat} (h:rfParts c=some (gt,ps,ida,d,s)) :
  ∃ oa,c=.rangeFunc (.tmp gt) ps.toArray (.region ida #[oa] false) (rfBody c)∧oa.op=.assign (.tmp s)∧oa.dst=some d∧oa.guard=none:=by
 unfold rfParts at h
 split at h<;>first | (cases h;done) | skip
 rename_i g ps' asg b
 split at h<;>first | (cases h;done) | skip
 rename_i gt' ida' ops draw
 split at h<;>first | (cases h;done) | skip
 rename_i oa hops
 split at h<;>first | (cases h;done) | skip
 rename_i s' d' h1 h2 h3
 cases h
 refine ⟨oa,?_,h1,h2,h3⟩
 have:ops = #[oa]:=by
  apply Array.ext'
  simpa using hops
 subst this
 simp [rfBody]
theorem rf_okP {m:Nat} {root:Code} {p:List Nat} {gt gf ida d s_:Nat} {cap:Sh} {ps:List Nat} {s1:List Nat} {A0 A1 Ae:List Sh} {T T1:List TSh} {bx:List Nat}
  {els:dens (.fn gf .un cap :: A0)->tdens T->List (dens Ae)} {init:dens (.fn gf .un cap :: A0)->tdens T->dens A1×tdens T1} {ok:dens (.fn gf .un cap :: A0)->tdens T->Bool} {f:dens (.fn gf .un cap :: A0)->tdens T->dens A1×tdens T1->dens Ae->Option (dens A1×tdens T1)} {ve:dens Ae->IV}
  (hc:COk P E.c) (hct:CtsOk P E) (hmx:P.follows .mixedOrders=true) (hparts:rfParts (cAt root p)=some (gt,ps,ida,d,s_))
  (hord:ordAll E (rfBody (cAt root p))=true) (hnd:noDefC (rfBody (cAt root p))=true) (hbx:∀ y,allBlk (encTs T y) bx=true) (hini:∀ x y,uniS m s1 A1 T1 ⟨zipS s1 (encs A0 x.2),dropB bx (encTs T y),[]⟩ (fun p q=>some (p,q))=some (init x y)) (hgt:idx s1 gt=none) (hps:ps.length=Ae.length) (hfr:allFr Ae=true)
  (hlt:allLt E.n ps=true) (hdlt:Nat.blt d E.n=true) (hnt:∀ el,noTu (encs Ae el)=true) (hve:∀ el il,geti (putI ps (encs Ae el) il) s_=some (ve el))
  (eg:∀ args w,(callFunc gf args).run P w=.ok (.enter gf args) w)
  (hit:∀ x y O ρ lb,ok x y=true->R O ρ true (enc cap x.1.2) lb->BxOk O ρ (encTs T y) bx->∃ u:Nat->Array Value,(∀ k el,(els x y)[k]? = some el->∃ cs,RL O ρ (encs Ae el) cs∧u k=(vals (encs Ae el) cs).toArray) ∧
   Iter P gf lb.toArray (els x y).length u (fun W=>∀ b all,O b=.im all->∃ ty fz,W.heap[b]? = some (.cells all.toArray ty fz)))
  (heq:∀ x y st el,sev E m [] (rfBody (cAt root p)) [] ⟨(d,ve el) :: putI ps (encs Ae el) (zipS s1 (encs A1 st.1)),encTs T1 st.2,[]⟩ (kRd m s1 A1 T1 (encs A1 st.1))=f x y st el) :
  LcOkM P E m (mkF gt gf cap s1 A0 A1 T T1 els init ok f) (cAt root p):=by
 obtain ⟨oa,h1,h2,h3,h4⟩:=rfParts_ok hparts
 exact rf_ok (ps:=ps.toArray) (ve:=ve) (bx:=bx) hc hct hmx h1 h2 h3 h4 hord hnd hbx hini hgt (by simpa using hps) hfr (by simpa using hlt) hdlt hnt (by simpa using hve) eg hit (by simpa using heq)
end
end Go.Tw
