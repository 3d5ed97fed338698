/- The core: ideal values and the evaluator. -/
import Derived.Lib.Bytealg
import Derived.Laws.Externs
import Derived.RangeFuncBox
import Derived.Laws.Unary
import Derived.RangeFuncLeaves
import Derived.OwnWalkIn
import Derived.TacticsInMore
import Derived.Test.YtiahcmabcbpcpaaGreatDoormK3
set_option linter.unusedSimpArgs false
set_option linter.unusedVariables false
namespace Go.Tw
def cC (f:Func):Code:=match f.body with
 | some c=>c
 | none=>.skip
def TP (s:List UInt8) (b:UInt8):Int:=(Lib.countByte s b:Nat)
section
variable {P:Program} {f:FuncId} {fn:Func} (hf:P.funcs[f]? = some fn) (hname:(fn.name == "runtime.NumGoroutine")=false) (hb:fn.body.isNone=true) (hn:Extern.findNext fn=none)
include hf hname hb hn
theorem aq5 (he:Extern.find fn=some Extern.BytealgCount.count) (s:List UInt8) (b:UInt8) (w:World):(callFunc f #[vS s,di b]).run P w=.ok (.value (vI (TP s b))) w:=by
 rw [run_callFunc_extern hf hname hb hn he]
 have:=Lib.run_countString (P:=P) ⟨s.toArray⟩ (b.toNat:Int) w
 rw [show #[vS s,di b] = #[Value.string ⟨s.toArray⟩,Value.int .u8 (b.toNat:Int)] from rfl,this]
 simp [Result.andThen,TP]
theorem ahO (he:Extern.find fn=some Extern.BytealgIndexByte.indexByte) (s:List UInt8) (b:UInt8) (w:World):(callFunc f #[vS s,di b]).run P w=.ok (.value (vI (Lib.indexByte s b))) w:=by
 rw [run_callFunc_extern hf hname hb hn he]
 have:=Lib.run_indexByteString (P:=P) ⟨s.toArray⟩ (b.toNat:Int) w
 rw [show #[vS s,di b] = #[Value.string ⟨s.toArray⟩,Value.int .u8 (b.toNat:Int)] from rfl,this]
 simp [Result.andThen]
end
structure qH (P:Program) (c:aF):Prop where
 ck:aN P c
 mx:P.follows .mixedOrders=true
structure Bn (P:Program) (c:aF) where
 f:Nat
 ct:Ct
 ok:Sound P c f ct
 en:∃ fn,P.funcs[f]? = some fn∧fn.body.isSome=true∧(fn.name == "runtime.NumGoroutine")=false
def xV {P:Program} {c:aF}:List (Bn P c)->List (Nat×Ct)
 | []=>[]
 | b :: r=>(b.f,b.ct) :: xV r
theorem Sn {P:Program} {c c':aF} (h:∀ f ct,Sound P c f ct->Sound P c' f ct):∀ l:List (Bn P c),jI P c' false (xV l)
 | []=>trivial
 | b :: r=>⟨⟨h _ _ b.ok,b.en⟩,Sn h r⟩
def ev {P:Program} {c0:aF} (c:aF) (n:Nat) (l:List (Bn P c0)) (o:Nat->List (Tag×Nat)) (al:Nat->Option Nat) (ms:Nat->Option (List hU)):Ev:=⟨c,n,dM (xV l),o,fun _=>[],al,ms,fun _=>none⟩
theorem ai {P:Program} {c0 c:aF} {n:Nat} {l:List (Bn P c0)} {o:Nat->List (Tag×Nat)} {al:Nat->Option Nat} {ms:Nat->Option (List hU)} (h:∀ f ct,Sound P c0 f ct->Sound P c f ct:=by intro _ _ h;exact h):bS P (ev c n l o al ms):=
 kD (l:=xV l) (l':=[]) rfl rfl (Sn h l) trivial
structure Lb (P:Program) (E:Ev) (m:Nat) (root:Code) where
 p:List Nat
 lc:Lc
 ok:GK P E m lc (bh root p) lc.rf
section
variable {P:Program} {E:Ev} {m:Nat} {root:Code}
def tq:List (Lb P E m root)->List (List Nat×Lc)
 | []=>[]
 | b :: r=>(b.p,b.lc) :: tq r
theorem yp:∀ l:List (Lb P E m root),jO P E m root (tq l)
 | []=>trivial
 | b :: r=>⟨b.ok,yp r⟩
def aq {c:aF} {f:Nat} {fn:Func} {τ:Type} (hs:qH P E.c) (hf:P.funcs[f]? = some fn) (hct:bS P E) (m:Nat) (lp:List (Lb P E m (cC fn))) (A:List Sh) (T:List aK) (B:List Sh) (U:List aK)
  (e:au A->ax T->τ->au B×ax U) (g:au A->ax T->(β:Type)->(τ->Option β)->Option β) (fW:∀ x y β k,g x y β k=(g x y τ some).bind k)
  (ho:cA E (cC fn)=true) (heq:∀ x y,cj E m (tq lp) (cC fn) [] (dN (b_ A.length) A T x y) (tX E m fn.results.toList B U fun p q=>some (p,q))=g x y _ (fun z=>some (e x y z)))
  (hb:fn.body=some (cC fn):=by rfl) (hn:fn.ntmps=E.n:=by rfl) (hnm:(fn.name == "runtime.NumGoroutine")=false:=by rfl) (hl:Nat.ble A.length E.n=true:=by rfl) (qE:Nat.ble m T.length=true:=by rfl)
  (hS:Sound P E.c f (cu m A T B U (fun x y=>g x y τ some) e)->Sound P c f (cu m A T B U (fun x y=>g x y τ some) e):=by intro h;exact h):Bn P c:=
 ⟨f,cu m A T B U (fun x y=>g x y τ some) e,hS (ov hf hb hn hl qE hs.ck hct hs.mx (yp lp) ho (fun x y k=>g x y _ k) (fun x y k=>fW x y _ k) heq),_,hf,by rw [hb];rfl,hnm⟩
def bH {σ τ:Type} (hs:qH P E.c) (hct:bS P E) (lp:List (Lb P E m root)) (p:List Nat) (id:Nat) (s0:List Nat) (A:List Sh) (T:List aK) (s1:List Nat) (A1:List Sh) (T1:List aK) (F:Nat)
  (eA:au A->ax T->σ->au A) (eT:au A->ax T->σ->ax T) (init:au A->ax T->σ) (e1:au A->ax T->τ->au A1×ax T1)
  (g:au A->ax T->σ->(β:Type)->(σ->Option β)->(τ->Option β)->Option β) (fW:∀ x y s β kA kO,g x y s β kA kO=(g x y s (σ ⊕ τ) (fun s=>some (.inl s)) fun z=>some (.inr z)).bind (bz kA kO))
  (ho:cA E (bh root (0 :: 0 :: p))=true) (oE:bh root p=.block id (.loop (bh root (0 :: 0 :: p))))
  (heq:∀ x y s,cj E m (tq lp) (bh root (0 :: 0 :: p)) (0 :: 0 :: p) (dN s0 A T (eA x y s) (eT x y s)) (wQ m s0 A T s1 A1 T1 [] [] [] id (fun x y=>some (.inl (x,y))) (fun x y=>some (.inr (.inl (x,y)))) (fun x y=>some (.inr (.inr (x,y))))) =
   g x y s (Full A T A1 T1 [] []) (fun s=>some (.inl (eA x y s,eT x y s))) (fun z=>some (.inr (.inl (e1 x y z)))))
  (uU:∀ x y,eA x y (init x y)=x:=by intro _ _;rfl) (ua:∀ x y,eT x y (init x y)=y:=by intro _ _;rfl):Lb P E m root:=
 ⟨p,XG s0 A T s1 A1 T1 F (fun x y s=>g x y s _ (fun s=>some (.inl s)) fun z=>some (.inr z)) init e1,asA hs.ck hct hs.mx (yp lp) ho oE eA eT uU ua (fun x y s kA kO=>g x y s _ kA kO) (fun x y s kA kO=>fW x y s _ kA kO) heq⟩
def gH {σ fj fi:Type} (hs:qH P E.c) (hct:bS P E) (lp:List (Lb P E m root)) (p:List Nat) (id:Nat) (s0:List Nat) (A:List Sh) (T:List aK) (s1:List Nat) (A1:List Sh) (T1:List aK) (s2:List Nat) (A2:List Sh) (T2:List aK) (F:Nat)
  (eA:au A->ax T->σ->au A) (eT:au A->ax T->σ->ax T) (init:au A->ax T->σ) (e1:au A->ax T->fj->au A1×ax T1) (e2:au A->ax T->fi->au A2×ax T2)
  (g:au A->ax T->σ->(β:Type)->(σ->Option β)->(fj->Option β)->(fi->Option β)->Option β) (fW:∀ x y s β kA kO kR,g x y s β kA kO kR=(g x y s (σ ⊕ (fj ⊕ fi)) (fun s=>some (.inl s)) (fun z=>some (.inr (.inl z))) fun z=>some (.inr (.inr z))).bind (bz kA (bz kO kR)))
  (ho:cA E (bh root (0 :: 0 :: p))=true) (oE:bh root p=.block id (.loop (bh root (0 :: 0 :: p))))
  (heq:∀ x y s,cj E m (tq lp) (bh root (0 :: 0 :: p)) (0 :: 0 :: p) (dN s0 A T (eA x y s) (eT x y s)) (wQ m s0 A T s1 A1 T1 s2 A2 T2 id (fun x y=>some (.inl (x,y))) (fun x y=>some (.inr (.inl (x,y)))) (fun x y=>some (.inr (.inr (x,y))))) =
   g x y s (Full A T A1 T1 A2 T2) (fun s=>some (.inl (eA x y s,eT x y s))) (fun z=>some (.inr (.inl (e1 x y z)))) (fun z=>some (.inr (.inr (e2 x y z)))))
  (uU:∀ x y,eA x y (init x y)=x:=by intro _ _;rfl) (ua:∀ x y,eT x y (init x y)=y:=by intro _ _;rfl):Lb P E m root:=
 ⟨p,IS s0 A T s1 A1 T1 s2 A2 T2 F (fun x y s=>g x y s _ (fun s=>some (.inl s)) (fun z=>some (.inr (.inl z))) fun z=>some (.inr (.inr z))) init e1 e2,SH hs.ck hct hs.mx (yp lp) ho oE eA eT uU ua (fun x y s kA kO kR=>g x y s _ kA kO kR) (fun x y s kA kO kR=>fW x y s _ kA kO kR) heq⟩
def SI {τ:Type} (hs:qH P E.c) (hct:bS P E) (lp:List (Lb P E m root)) (p:List Nat) (s0:List Nat) (A:List Sh) (T:List aK) (s1:List Nat) (A1:List Sh) (T1:List aK)
  (e1:au A->ax T->τ->au A1×ax T1) (g:au A->ax T->(β:Type)->(τ->Option β)->Option β) (fW:∀ x y β k,g x y β k=(g x y τ some).bind k)
  (ho:cA E (bh root p)=true) (heq:∀ x y,cj E m (tq lp) (bh root p) p (dN s0 A T x y) (aaP m s1 A1 T1 (fun x y=>some (x,y)))=g x y _ (fun z=>some (e1 x y z))):Lb P E m root:=
 ⟨p,Xa s0 A T s1 A1 T1 (fun x y=>g x y τ some) e1,anc hs.ck hct hs.mx (yp lp) ho (fun x y k=>g x y _ k) (fun x y k=>fW x y _ k) heq⟩
def Vn {fj fi:Type} (hs:qH P E.c) (hct:bS P E) (lp:List (Lb P E m root)) (p:List Nat) (s0:List Nat) (A:List Sh) (T:List aK) (s1:List Nat) (A1:List Sh) (T1:List aK) (s2:List Nat) (A2:List Sh) (T2:List aK)
  (e1:au A->ax T->fj->au A1×ax T1) (e2:au A->ax T->fi->au A2×ax T2) (g:au A->ax T->(β:Type)->(fj->Option β)->(fi->Option β)->Option β) (fW:∀ x y β kO kR,g x y β kO kR=(g x y (fj ⊕ fi) (fun z=>some (.inl z)) fun z=>some (.inr z)).bind (bz kO kR))
  (ho:cA E (bh root p)=true) (heq:∀ x y,cj E m (tq lp) (bh root p) p (dN s0 A T x y) (abR m s1 A1 T1 s2 A2 T2 (fun x y=>some (.inl (x,y))) (fun x y=>some (.inr (x,y))))=g x y ((au A1×ax T1) ⊕ (au A2×ax T2)) (fun z=>some (.inl (e1 x y z))) (fun z=>some (.inr (e2 x y z)))):Lb P E m root:=
 ⟨p,Nd s0 A T s1 A1 T1 s2 A2 T2 (fun x y=>g x y _ (fun z=>some (.inl z)) fun z=>some (.inr z)) e1 e2,Xx hs.ck hct hs.mx (yp lp) ho (fun x y kO kR=>g x y _ kO kR) (fun x y kO kR=>fW x y _ kO kR) heq⟩
end
end Go.Tw
namespace Go.Tw
open Go.RowKit
attribute [local go_sem] Oper.semAt_some
section
variable {P:Program} {E:Ev}
theorem Gm.Fg {O:Own} {ρ:List Hd} {tb:aj} {w w':World} (hM:Gm O ρ tb w) (hs:w.heap.size≤w'.heap.size) (hb:∀ b,b < w.heap.size->O b ≠ .no->w'.heap[b]? = w.heap[b]?):Gm O ρ tb w':=by
 have eu:∀ b,O b ≠ .no->b < w.heap.size:=fun b h=>by
  rcases Nat.lt_or_ge b w.heap.size with h' | h'
  ·exact h'
  ·exact absurd (hM.lt b h') h
 have same:∀ b,O b ≠ .no->w'.heap[b]? = w.heap[b]?:=fun b h=>hb b (eu b h) h
 refine ⟨fun b all e=>?_,fun b h=>hM.lt b (Nat.le_trans hs h),hM.len,fun j x hx=>?_⟩
 ·obtain ⟨ty,fz,h1⟩:=hM.im b all e
  exact ⟨ty,fz,by rw [same b (by rw [e];simp)];exact h1⟩
 ·have old:=hM.th j x hx
  cases x with
  | blk ty v=>
   obtain ⟨h,cs,h3,h4,h5,h6,h7⟩:=old
   exact ⟨h,cs,h3,h4,h5,h6,h7.same (same _ (by rw [h4];simp))⟩
  | row E t xs=>
   obtain ⟨h,es,h3,h4,h5,h6,h7⟩:=old
   exact ⟨h,es,h3,h4,h5,h6,Rs.same (r:=.row E t.size h.v xs.length es) (fun b aB=>same b (by rw [h5 b aB];simp)) h7⟩
  | fz t xs=>exact old
  | no=>trivial
  | ob o0=>
   obtain ⟨h,h3,h4,h5⟩:=old
   exact ⟨h,h3,h4,by rw [same _ (by rw [h4];simp)];exact h5⟩
  | mp kt vt l=>
   obtain ⟨h,es,h3,h4,h5,h6⟩:=old
   exact ⟨h,es,h3,h4,by rw [same _ (by rw [h4];simp)];exact h5,h6⟩
  | it n seen=>
   obtain ⟨h,h3,h4,bm,h5,h7⟩:=old
   exact ⟨h,h3,h4,bm,h5,by rw [same _ (by rw [h4];simp)];exact h7⟩
  | rr E Ei t rows out=>
   obtain ⟨h,es,h3,h4,h5,h6,h7,h8⟩:=old
   exact ⟨h,es,h3,h4,h5,Rs.same (r:=.row E 1 h.v out.length es) (fun b aB=>same b (by rw [h5 b aB];simp)) h6,h7,h8.frame (fun _ _ h=>h) (fun b aB=>⟨aB,same b (by rw [aB];simp)⟩)⟩
theorem Gm.afo {O:Own} {ρ:List Hd} {tb:aj} {w:World} (hd:Hd) (hM:Gm O ρ tb w):Gm O (ρ ++ [hd]) (tb ++ [.no]) w:=by
 refine ⟨hM.im,hM.lt,by simp [hM.len],fun j x hx=>?_⟩
 ·rcases Nat.lt_or_ge j tb.length with hj | hj
  ·rw [List.getElem?_append_left hj] at hx
   have old:=hM.th j x hx
   cases x with
   | blk ty v=>
    obtain ⟨h,cs,h3,h4,h5,h6,h7⟩:=old
    exact ⟨h,cs,dR _ h3,id h4,h5,R.mono (.refl _) (.app _ _) h6,h7⟩
   | row E t xs=>
    obtain ⟨h,es,h3,h4,h5,h6,h7⟩:=old
    exact ⟨h,es,dR _ h3,h4,fun b aB=>id (h5 b aB),h6.mono (fun _ _=>TR.mono (.refl _)),h7⟩
   | fz t xs=>
    obtain ⟨h,h3,h4,h5⟩:=old
    exact ⟨h,dR _ h3,h4,TR.mono (.refl _) h5⟩
   | no=>trivial
   | ob o0=>
    obtain ⟨h,h3,h4,h5⟩:=old
    exact ⟨h,dR _ h3,id h4,h5⟩
   | mp kt vt l=>
    obtain ⟨h,es,h3,h4,h5,h6⟩:=old
    exact ⟨h,es,dR _ h3,id h4,h5,h6.mono (.refl _)⟩
   | it n seen=>
    obtain ⟨h,h3,h4,bm,h5,h7⟩:=old
    exact ⟨h,dR _ h3,id h4,bm,h5,h7⟩
   | rr E Ei t rows out=>
    obtain ⟨h,es,h3,h4,h5,h6,h7,h8⟩:=old
    exact ⟨h,es,dR _ h3,h4,fun b aB=>id (h5 b aB),h6,h7,h8.frame (fun _ _=>TR.mono (.refl _)) (fun b aB=>⟨id aB,rfl⟩)⟩
  ·have:j=tb.length:=by
    have:=(aM hx).1
    simp at this;omega
   subst this
   rw [List.getElem?_append_right (Nat.le_refl _)] at hx
   simp at hx;subst hx
   trivial
def vi:List Nat->List Nat->Bool
 | [],[]=>true
 | a :: r,b :: s=>match Nat.beq a b with
  | true=>vi r s
  | false=>false
 | _,_=>false
theorem W7:∀ {p q:List Nat},vi p q=true->p=q
 | [],[],_=>rfl
 | a :: r,b :: s,h=>by
  simp only [vi] at h
  split at h
  ·rename_i hb;rw [ay hb,W7 h]
  ·cases h
 | [],_ :: _,h=>by simp [vi] at h
 | _ :: _,[],h=>by simp [vi] at h
def jw {β:Type} (E:Ev) (m:Nat) (q:List Nat) (H:St->(Exit->St->Option β)->Option β):Code->List Nat->St->(Exit->St->Option β)->Option β
 | .seq x y,p,st,k=>jw E m q H x (0 :: p) st fun e st=>match e with
  | .normal=>jw E m q H y (1 :: p) st k
  | e=>k e st
 | .block id c,p,st,k=>jw E m q H c (0 :: p) st fun e st=>match e with
  | .exit j=>match Nat.beq j id with
   | true=>k .normal st
   | false=>k (.exit j) st
  | e=>k e st
 | .loop c,p,st,k=>oZ (jw E m q H c (0 :: p)) (st.env.map (·.1)) 4000 st k
 | c,p,st,k=>match vi p q with
  | true=>H st k
  | false=>cj E m [] c [] st k
theorem Xn {β:Type} {m:Nat} {q:List Nat} {H:St->(Exit->St->Option β)->Option β} {root:Code} {O0:Own} {aG:List Hd} {w0:World} {r:β} (hc:aN P E.c) (hct:bS P E) (dF:P.follows .mixedOrders=true) (hm:aG.length=m)
  (hH:∀ (st:St) (k:Exit->St->Option β) (N:Act->World->Prop) (X:Nat->Act->World->Prop) (Y:Act->World->Prop) (a:Act) (w:World),H st k=some r->G E O0 aG w0 st a w->(∀ e ak a' w',k e ak=some r->G E O0 aG w0 ak a' w'->QL N X Y e a' w')->(bh root q).wp P (QL N X Y) a w) :
  ∀ (c:Code) (p:List Nat) (st:St) (k:Exit->St->Option β) (N:Act->World->Prop) (X:Nat->Act->World->Prop) (Y:Act->World->Prop) (a:Act) (w:World),bh root p=c->cA E c=true->jw E m q H c p st k=some r->G E O0 aG w0 st a w ->
   (∀ e ak a' w',k e ak=some r->G E O0 aG w0 ak a' w'->QL N X Y e a' w')->c.wp P (QL N X Y) a w:=by
 have leaf:∀ {c:Code} {p:List Nat} {st:St} {k:Exit->St->Option β} {N:Act->World->Prop} {X:Nat->Act->World->Prop} {Y:Act->World->Prop} {a:Act} {w:World},bh root p=c->cA E c=true->(match vi p q with
   | true=>H st k
   | false=>cj E m [] c [] st k)=some r->G E O0 aG w0 st a w ->
   (∀ e ak a' w',k e ak=some r->G E O0 aG w0 ak a' w'->QL N X Y e a' w')->c.wp P (QL N X Y) a w:=by
  intro c p st k N X Y a w hp ho e hG hK
  split at e
  ·rename_i h
   have h1:=W7 h
   subst h1
   rw [← hp]
   exact hH st k N X Y a w e hG hK
  ·exact sN hc hct dF hm (lp:=[]) (root:=c) trivial c [] st k N X Y a w rfl ho e hG hK
 intro c
 induction c with
 | seq x y sZ mS=>
  intro p st k N X Y a w hp ho e hG hK
  simp only [cA,Bool.and_eq_true] at ho
  simp only [jw] at e
  refine TD (sZ (0 :: p) st _ _ X Y a w (ab4 hp) ho.1 e hG (fun e ak a' w' h1 h2=>?_))
  cases e with
  | normal=>exact mS (1 :: p) ak k N X Y a' w' (acf hp) ho.2 h1 h2 hK
  | exit j=>exact hK (.exit j) ak a' w' h1 h2
  | ret=>exact hK .ret ak a' w' h1 h2
  | goto j=>exact (hK (.goto j) ak a' w' h1 h2:False).elim
  | panic ch=>exact (hK (.panic ch) ak a' w' h1 h2:False).elim
  | outgrown=>exact (hK .outgrown ak a' w' h1 h2:False).elim
 | block id b ih=>
  intro p st k N X Y a w hp ho e hG hK
  simp only [cA] at ho
  simp only [jw] at e
  refine Ps (ih (0 :: p) st _ _ _ Y a w (aau hp) ho e hG (fun e ak a' w' h1 h2=>?_))
  cases e with
  | normal=>exact hK .normal ak a' w' h1 h2
  | exit j=>
   simp only at h1
   show if j=id then N a' w' else X j a' w'
   split at h1
   ·rename_i hj;rw [if_pos (ay hj)];exact hK .normal ak a' w' h1 h2
   ·rename_i hj;rw [if_neg (Nat.ne_of_beq_eq_false hj)];exact hK (.exit j) ak a' w' h1 h2
  | ret=>exact hK .ret ak a' w' h1 h2
  | goto j=>exact (hK (.goto j) ak a' w' h1 h2:False).elim
  | panic ch=>exact (hK (.panic ch) ak a' w' h1 h2:False).elim
  | outgrown=>exact (hK .outgrown ak a' w' h1 h2:False).elim
 | loop b ih=>
  intro p st k N X Y a w hp ho e hG hK
  simp only [cA] at ho
  simp only [jw] at e
  generalize st.env.map (·.1)=ks at e
  refine UW (fun n a w=>∃ st,oZ (jw E m q H b (0 :: p)) ks n st k=some r∧G E O0 aG w0 st a w) ?_ ?_ 4000 a w ⟨st,e,hG⟩
  ·rintro a w ⟨st,e,_⟩;simp [oZ] at e
  ·rintro n a w ⟨st,e,hG⟩
   simp only [oZ] at e
   refine ih (0 :: p) st _ _ X Y a w (XJ hp) ho e hG (fun e ak a' w' h1 h2=>?_)
   cases e with
   | normal=>
    obtain ⟨O1,bQ,⟨f1,f2⟩,f3⟩:=h2
    exact ⟨⟨uS ak.env ks,ak.tb,ak.df⟩,h1,O1,bQ,⟨f1.keep ks,f2⟩,f3⟩
   | exit j=>exact hK (.exit j) ak a' w' h1 h2
   | ret=>exact hK .ret ak a' w' h1 h2
   | goto j=>exact (hK (.goto j) ak a' w' h1 h2:False).elim
   | panic ch=>exact (hK (.panic ch) ak a' w' h1 h2:False).elim
   | outgrown=>exact (hK .outgrown ak a' w' h1 h2:False).elim
 | _=>intro p st k N X Y a w hp ho e hG hK;exact leaf hp ho e hG hK
def adR (E:Ev) (rs:List ResultVar):Exit->St->Option (IV×aj):=fun e st=>match e with
 | .normal=>zk (fun tb=>match iR E.c st.env tb rs with
  | some vs=>some (lB vs,tb)
  | none=>none) st.df st.tb
 | .ret=>zk (fun tb=>match iR E.c st.env tb rs with
  | some vs=>some (lB vs,tb)
  | none=>none) st.df st.tb
 | _=>none
def Md (E:Ev) (SV:Nat->St->(Exit->St->Option (IV×aj))->Option (IV×aj)) (rs:List ResultVar):jf:=fun _ vs tb k=>match Nat.ble vs.length E.n with
 | true=>match SV tb.length ⟨jv (b_ vs.length) vs,tb,[]⟩ (adR E rs) with
  | some z=>k (some z.1) z.2 (b_ tb.length)
  | none=>none
 | false=>none
theorem arh {SV:Nat->St->(Exit->St->Option (IV×aj))->Option (IV×aj)} {f:FuncId} {fn:Func} {code:Code} (hf:P.funcs[f]? = some fn) (hb:fn.body=some code) (hn:fn.ntmps=E.n) (hc:aN P E.c) (hct:bS P E) (dF:P.follows .mixedOrders=true)
  (hSV:∀ {m:Nat} {O0:Own} {aG:List Hd} {w0:World} {r:IV×aj},aG.length=m->∀ (st:St) (k:Exit->St->Option (IV×aj)) (N:Act->World->Prop) (X:Nat->Act->World->Prop) (Y:Act->World->Prop) (a:Act) (w:World),SV m st k=some r->G E O0 aG w0 st a w ->
   (∀ e ak a' w',k e ak=some r->G E O0 aG w0 ak a' w'->QL N X Y e a' w')->code.wp P (QL N X Y) a w):pH P E.c f (Md E SV fn.results.toList):=by
 intro β vs tb k r O ρ w cs e hG hM hR
 unfold Md at e
 split at e<;>first | (cases e;done) | skip
 rename_i hle
 split at e<;>first | (cases e;done) | skip
 rename_i z hz
 have hle:vs.length≤E.n:=by simpa using hle
 have hvl:∀ {vs:List IV} {cs:List (List Value)},RL O ρ vs cs->(aO vs cs).length=vs.length:=by
  intro vs
  induction vs with
  | nil=>intro cs h;simp [aO]
  | cons v vs ih=>intro cs h;obtain ⟨c0,r,rfl,h1,h2⟩:=h;simp [aO,ih h2]
 have hlen:(aO vs cs).length=vs.length:=hvl hR
 have hm:ρ.length=tb.length:=hM.len
 let Q:Value->World->Prop:=fun x w'=>∃ O' ρ' sv,x=sv.val∧SR O' ρ' z.1 sv∧Gm O' ρ' z.2 w'∧aR (· ∈ b_ tb.length) O ρ w O' ρ' w'
 let D:Nat->Bool:=fun b=>match O b with
  | .th id=>Nat.ble tb.length id
  | _=>false
 let O0:Own:=fun b=>bif D b then .no else O b
 have hD:∀ b,D b=true->∃ id,O b=.th id∧tb.length≤id:=fun b h=>by
  simp only [D] at h
  split at h
  ·rename_i id e;exact ⟨id,e,by simpa using h⟩
  ·cases h
 have gl:∀ b,D b=false->O0 b=O b:=fun b h=>by simp only [O0,h,cond_false]
 have jM:∀ b,D b=true->O0 b=.no:=fun b h=>by simp only [O0,h,cond_true]
 have n7:∀ b id,O b=.th id->D b=Nat.ble tb.length id:=fun b id h=>by simp only [D,h]
 have hin:∀ b id,O0 b=.th id->O b=.th id∧id ∈ b_ tb.length:=fun b id h=>by
  cases hd:D b with
  | true=>rw [jM b hd] at h;cases h
  | false=>
   rw [gl b hd] at h
   have:=n7 b id h
   rw [hd] at this
   exact ⟨h,ZJ (Nat.lt_of_not_le fun h=>by rw [Nat.ble_eq_true_of_le h] at this;cases this)⟩
 have eu:∀ b,O b ≠ .no->b < w.heap.size:=fun b h=>by
  rcases Nat.lt_or_ge b w.heap.size with h' | h'
  ·exact h'
  ·exact absurd (hM.lt b h') h
 have lV:∀ b all,O b=.im all->O0 b=.im all:=fun b all e=>by rw [gl b (by simp only [D,e])];exact e
 have Ac:Gm O0 ρ tb w:=(hM.step (M:=fun i=>tb.length≤i) (O':=O0) (ρ':=ρ) (aL:=tb) (w':=w) (.refl _ _) (fun b _ h=>by
   cases hd:D b with
   | true=>obtain ⟨id,e,h1⟩:=hD b hd;exact absurd e (h id h1)
   | false=>exact gl b hd) (fun b hb=>by
   cases hd:D b with
   | true=>exact jM b hd
   | false=>rw [gl b hd];exact hM.lt b hb) (fun b all e=>by
   cases hd:D b with
   | true=>rw [jM b hd] at e;cases e
   | false=>rw [gl b hd] at e;exact .inl e) (.refl _) hM.len (fun j x hx=>.inl ⟨hx,by have:=(aM hx).1;omega⟩)).1
 have hJ:GO E.c O0:=hG.mono lV
 have pQ:RL O0 ρ vs cs:=hR.mono lV (.refl _)
 have pV:G E O0 ρ w ⟨jv (b_ vs.length) vs,tb,[]⟩ { tmps:=(aO vs cs).toArray ++ Array.replicate (fn.ntmps - (aO vs cs).toArray.size) undef,defers:=[] } w:=by
  rw [hn]
  refine ⟨O0,ρ,⟨FI.of (by simp [hlen];omega) pQ (fun i t v hi hv=>?_),rfl⟩,Ac,hJ,.refl _ _ _ _⟩
  have hi':=(aM hi).1
  rw [b_,n_] at hi'
  rw [nH hi'] at hi;cases hi
  rw [Array.getElem?_append_left (by simp [hlen,hi'])]
  simpa using hv
 have leaf:∀ {ak:St} {a':Act} {w':World},(zk (fun tb=>match iR E.c ak.env tb fn.results.toList with
   | some vs=>some (lB vs,tb)
   | none=>none) ak.df ak.tb)=some z->G E O0 ρ w ak a' w'->LeavesInM Fence.wide 0 P fn a'.tmps (eJ Q) a'.defers .returning w':=by
  intro ak a' w' h1 h2
  obtain ⟨O1,bQ,jA,fD,dX,gR⟩:=h2
  refine ace (E:=E) (O0:=O1) (aG:=bQ) (w0:=w') ?_ ak.df a'.defers ak.tb w' O1 bQ h1 jA.2 fD dX (.refl _ _ _ _)
  intro k7 w2 O2 br hu fm ei c_
  have kz:=jA.1.mono c_.im c_.pre
  have hS:aR (fun _=>True) O0 ρ w O2 br w2:=gR.trans c_
  split at hu<;>first | (cases hu;done) | skip
  rename_i us hvs
  cases hu
  obtain ⟨ds,ji,hrl⟩:=vl (P:=P) hc kz fm hvs
  obtain ⟨sv,f7,hval⟩:=xB ji
  let O3:Own:=fun b=>bif D b then O b else O2 b
  have e0:∀ b,D b=false->O3 b=O2 b:=fun b h=>by simp only [O3,h,cond_false]
  have e1:∀ b,D b=true->O3 b=O b:=fun b h=>by simp only [O3,h,cond_true]
  have XO:w.heap.size≤w2.heap.size:=hS.kept.size
  have sy:∀ b,D b=true->b < w.heap.size:=fun b h=>by obtain ⟨id,e,_⟩:=hD b h;exact eu b (by rw [e];simp)
  have e2:∀ b,D b=true->O2 b=.no:=fun b h=>hS.no b (sy b h) (jM b h)
  have uI:∀ b all,O2 b=.im all->O3 b=.im all:=fun b all e=>by
   cases hd:D b with
   | true=>rw [e2 b hd] at e;cases e
   | false=>rw [e0 b hd];exact e
  have rL:Gm O3 br k7 w2:=fm.more (fun b h=>by
   cases hd:D b with
   | true=>exact absurd (e2 b hd) h
   | false=>exact e0 b hd) (fun b hb=>by
   cases hd:D b with
   | true=>have:=sy b hd;omega
   | false=>rw [e0 b hd];exact fm.lt b hb) (fun b all e=>by
   cases hd:D b with
   | true=>rw [e1 b hd] at e;obtain ⟨id,h,_⟩:=hD b hd;rw [h] at e;cases e
   | false=>rw [e0 b hd] at e;exact e)
  refine ⟨_,ye hrl,O3,br,sv,?_,f7.mono uI (.refl _),rL,⟨hS.pre,fun b all e=>uI b all (hS.im b all (lV b all e)),fun b hb e=>?_,fun b id hb ho hn=>?_,hS.kept.wide fun b ⟨id,_,h⟩=>⟨id,(hin b id h).2,(hin b id h).1⟩⟩⟩
  ·rw [hval];rfl
  ·have hd:D b=false:=by simp only [D,e]
   rw [e0 b hd];exact hS.no b hb (by rw [gl b hd];exact e)
  ·cases hd:D b with
   | true=>rw [e1 b hd];exact ho
   | false=>exact absurd (hin b id (by rw [gl b hd];exact ho)).2 hn
 refine ⟨z.1,z.2,_,e,?_⟩
 have hwp:code.wp P (QL (fun a w=>LeavesInM Fence.wide 0 P fn a.tmps (eJ Q) a.defers .returning w) (fun _ _ _=>False) (fun a w=>LeavesInM Fence.wide 0 P fn a.tmps (eJ Q) a.defers .returning w)) { tmps:=(aO vs cs).toArray ++ Array.replicate (fn.ntmps - (aO vs cs).toArray.size) undef,defers:=[] } w:=by
  refine hSV hm _ _ _ _ _ _ _ hz pV (fun e ak a' w' h1 h2=>?_)
  cases e with
  | normal=>exact leaf h1 h2
  | ret=>exact leaf h1 h2
  | exit j=>cases h1
  | goto j=>cases h1
  | panic ch=>cases h1
  | outgrown=>cases h1
 have:=callsIn_of_wp_marks (F:=Fence.wide) (n:=0) hf hb trivial (R:=eJ Q) (wpIn_wide.2 (wp_mono hwp fun e a w q=>by
  cases e<;>first | exact q | exact q.elim)) rfl
 exact callsIn_wide.1 this
theorem UM {a:Act} {d t:Nat} {v:Value} (h:d ≠ t):(a.put (some d) v).eval (.tmp t)=a.eval (.tmp t):=by
 simp only [Act.put,Act.eval,Array.getD_eq_getD_getElem?,Array.getElem?_setIfInBounds_ne h]
theorem Gi {a:Act} {d:Nat} {v:Value} (h:d < a.tmps.size):(a.put (some d) v).eval (.tmp d)=v:=by
 simp [Act.put,Act.eval,Array.getD_eq_getD_getElem?,h]
theorem TI {a:Act} {d:Nat} {v:Value}:(a.put (some d) v).tmps.size=a.tmps.size:=by simp [Act.put]
theorem aet {pP l y0 sv d1 d2 d3 d4:Nat} {o1 o2 o3 o4:Oper} {ats:Array TypeId} {a:Act} {w:World} {v:Value} {N:Act->World->Prop} {X:Nat->Act->World->Prop} {Y:Act->World->Prop} {Q:World->Prop}
  (h1:o1.op=.move (.tmp y0)∧o1.dst=some d1∧o1.guard=none) (h2:o2.op=.move (.tmp sv)∧o2.dst=some d2∧o2.guard=none)
  (h3:o3.op=.call { callee:=.value (.tmp d1),args:=#[.tmp d2],argTypes:=ats }∧o3.dst=some d3∧o3.guard=none) (h4:∃ t,o4.op=.unOp .not t (.tmp d3)∧o4.dst=some d4∧o4.guard=none)
  (hy:a.eval (.tmp y0)=.func (.yield l) #[] #[]) (hv:a.eval (.tmp sv)=v) (n1:d1 < a.tmps.size) (n2:d2 < a.tmps.size) (n3:d3 < a.tmps.size) (hne:d1 ≠ sv∧d1 ≠ d2)
  (hY:YieldAt Fence.wide 0 P l #[v] w (fun e W'=>e=.returned (.bool true)∧Q W'))
  (hK:∀ W',Q W'->N ((((a.put (some d1) (.func (.yield l) #[] #[])).put (some d2) v).put (some d3) (.bool true)).put (some d4) (.bool false)) W') :
  (Code.region pP #[o1,o2,o3,o4] false).wp P (QL N X Y) a w:=by
 obtain ⟨a1,a2,a3⟩:=h1
 obtain ⟨b1,b2,b3⟩:=h2
 obtain ⟨c1,c2,c3⟩:=h3
 obtain ⟨t,e1,e2,e3⟩:=h4
 refine (wpIn_wide (n:=1)).1 (wpIn_region_lit (l:=[o1,o2,o3,o4]) ?_)
 have k1:(a.put (some d1) (.func (.yield l) #[] #[])).eval (.tmp sv)=v:=(UM hne.1).trans hv
 have k2:((a.put (some d1) (.func (.yield l) #[] #[])).put (some d2) v).eval (.tmp d1)=.func (.yield l) #[] #[]:=(UM (Ne.symm hne.2)).trans (Gi n1)
 have k3:((a.put (some d1) (.func (.yield l) #[] #[])).put (some d2) v).eval (.tmp d2)=v:=Gi (by rw [TI];exact n2)
 have k4:(((a.put (some d1) (.func (.yield l) #[] #[])).put (some d2) v).put (some d3) (.bool true)).eval (.tmp d3)=.bool true:=Gi (by rw [TI,TI];exact n3)
 refine wpListIn_plain a3 fun K1 hK1=>?_
 refine ⟨fun _ _=>trivial,?_⟩
 rw [Oper.semAt_eq _ _ _ (fun c e=>by rw [a1] at e;cases e)]
 simp only [execOp,a1,Sem.run_pure,Sem.run_bind,Result.andThen_ok,Oper.uponIn,a2,hy]
 refine hK1 _ _ ?_
 refine wpListIn_plain b3 fun K2 OU=>?_
 refine ⟨fun _ _=>trivial,?_⟩
 rw [Oper.semAt_eq _ _ _ (fun c e=>by rw [b1] at e;cases e)]
 simp only [execOp,b1,Sem.run_pure,Sem.run_bind,Result.andThen_ok,Oper.uponIn,b2,k1]
 refine OU _ _ ?_
 refine wpListIn_plain c3 fun K3 hK3=>?_
 refine ⟨fun _ _=>trivial,?_⟩
 obtain ⟨fn,tmps,assign,body,hy1,hR⟩:=hY
 have ajG:∀ ev:Operand->Value,ev (.tmp d1)=.func (.yield l) #[] #[]->ev (.tmp d2)=v->(o3.semAt Fence.wide.round ev).run P w=.ok (.round l fn tmps assign body) w:=by
  intro ev g1 g2
  simp [Oper.semAt,execOp,c1,go_sem,resolve,g1,g2,invoke,hy1]
 rw [ajG _ k2 k3]
 refine ⟨fun _=>by omega,hR.mono ?_⟩
 rintro e W' ⟨rfl,hQ⟩
 show K3 _ _
 rw [c2]
 refine hK3 _ _ ?_
 refine wpListIn_plain e3 fun K4 hK4=>?_
 refine ⟨fun _ _=>trivial,?_⟩
 rw [Oper.semAt_eq _ _ _ (fun c e=>by rw [e1] at e;cases e)]
 have hnot:∀ ev:Operand->Value,ev (.tmp d3)=.bool true->(execOp ev o4).run P W'=.ok (.value (.bool false)) W':=by
  intro ev g1
  simp [execOp,e1,g1,go_sem]
 rw [hnot _ k4]
 show K4 _ _
 rw [e2]
 refine hK4 _ _ ?_
 exact hK _ hQ
def yH {β:Type} (E:Ev) (m:Nat) (body:Code) (d jg:Nat) (aei:aE) (yi sv d1 d2 d3 d4:Nat):St->(Exit->St->Option β)->Option β:=fun st k=>match dn st.env 0,dn st.env sv with
 | some (.yv id),some (.o x)=>match Nat.beq id yi with
  | true=>cj E m [] body [] ⟨(d,.o x) :: (jg,.o x) :: aei,st.tb,[]⟩ fun e ak=>match e with
   | .normal=>k .normal ⟨(d4,.o (.b false)) :: (d3,.o (.b true)) :: (d2,.o x) :: (d1,.ud) :: st.env,ak.tb,st.df⟩
   | _=>none
  | false=>none
 | _,_=>none
def zo:Exit->Bool
 | .normal=>true
 | .ret=>true
 | _=>false
def R3 {β:Type} (E E2:Ev) (gt gf:Nat) (sQ body:Code) (q:List Nat) (d jg sv d1 d2 d3 d4:Nat):St->(Exit->St->Option β)->Option β:=fun st k=>match dn st.env gt,st.df with
 | some (.fn f .un cap),[]=>match Nat.beq f gf,ni cap with
  | true,some l=>match Nat.ble (l.length + 1) E2.n with
   | true=>jw E2 (st.tb.length + 1) q (yH E (st.tb.length + 1) body d jg st.env st.tb.length sv d1 d2 d3 d4) sQ [] ⟨jv (b_ (l.length + 1)) (.yv st.tb.length :: l),st.tb ++ [.no],[]⟩ fun e XZ=>match zo e,XZ.df with
    | true,[]=>k .normal (mark ⟨st.env,XZ.tb,[]⟩)
    | _,_=>none
   | false=>none
  | _,_=>none
 | _,_=>none
theorem alS {β:Type} {E2:Ev} {gt gf oI d jg pP sv d1 d2 d3 d4:Nat} {rP:Func} {sQ body:Code} {oa o1 o2 o3 o4:Oper} {ats:Array TypeId} {q:List Nat} {O0:Own} {aG:List Hd} {w0:World} {r:β}
  (hc:aN P E.c) (hct:bS P E) (ana:bS P E2) (lD:E2.c=E.c) (dF:P.follows .mixedOrders=true)
  (jW:oa.op=.assign (.tmp jg)∧oa.dst=some d∧oa.guard=none)
  (hf:P.funcs[gf]? = some rP) (hb:rP.body=some sQ) (hn:rP.ntmps=E2.n) (hres:rP.results = #[]) (eg:∀ args w,(callFunc gf args).run P w=.ok (.enter gf args) w)
  (ho:cA E body=true) (pi:j6 body=true) (mb:cA E2 sQ=true) (hq:bh sQ q=.region pP #[o1,o2,o3,o4] false)
  (h1:o1.op=.move (.tmp 0)∧o1.dst=some d1∧o1.guard=none) (h2:o2.op=.move (.tmp sv)∧o2.dst=some d2∧o2.guard=none)
  (h3:o3.op=.call { callee:=.value (.tmp d1),args:=#[.tmp d2],argTypes:=ats }∧o3.dst=some d3∧o3.guard=none) (h4:∃ t,o4.op=.unOp .not t (.tmp d3)∧o4.dst=some d4∧o4.guard=none)
  (Q5:Nat.blt d E.n=true) (iT:Nat.blt jg E.n=true) (n1:Nat.blt d1 E2.n=true) (n2:Nat.blt d2 E2.n=true) (n3:Nat.blt d3 E2.n=true) (n4:Nat.blt d4 E2.n=true) (hne:d1 ≠ sv∧d1 ≠ d2)
  (st:St) (k:Exit->St->Option β) (N:Act->World->Prop) (X:Nat->Act->World->Prop) (Y:Act->World->Prop) (a:Act) (w:World) (e:R3 E E2 gt gf sQ body q d jg sv d1 d2 d3 d4 st k=some r) (hG:G E O0 aG w0 st a w)
  (hK:∀ e ak a' w',k e ak=some r->G E O0 aG w0 ak a' w'->QL N X Y e a' w') :
  (Code.rangeFunc (.tmp gt) #[jg] (.region oI #[oa] false) body).wp P (QL N X Y) a w:=by
 unfold R3 at e
 split at e<;>first | (cases e;done) | skip
 rename_i f cap hgt hdf
 split at e<;>first | (cases e;done) | skip
 rename_i ls P0 hls
 have P0:=ay P0
 subst P0
 split at e<;>first | (cases e;done) | skip
 rename_i hle
 have hle:ls.length + 1≤E2.n:=Nat.le_of_ble_eq_true hle
 obtain ⟨env,tb,df⟩:=st
 simp only at hgt hdf e
 subst hdf
 obtain ⟨O,ρ,⟨⟨l,hl,c9⟩,hD⟩,hM,jn,hS⟩:=hG
 have hM:Gm O ρ tb w:=hM
 have aeO:a.defers=[]:=hD
 obtain ⟨sw,f7,y0,rfl,u0,rfl,pQ⟩:=c9.get hgt
 obtain ⟨xs,lb,hcs,hxs,hlb⟩:=pQ
 simp only [List.cons.injEq,and_true] at hcs
 simp only [R] at hxs
 subst hxs hcs
 have ajq:a.eval (.tmp gt)=.func (.func f) #[] lb.toArray:=hl.eval f7
 obtain ⟨cs,hRL,rfl⟩:=CV hls hlb
 have hw0:w0.heap.size≤w.heap.size:=hS.kept.size
 refine (wpIn_wide (n:=2)).1 (wpIn_rangeFunc ?_)
 intro fn hfn
 let yl:Value:=.func (.yield (w.heap.size + 1)) #[] #[]
 let rc:Loop:={ state:=.ready,pending:=none,fn:=fn,tmps:=a.tmps,params:=#[jg],assign:=.region oI #[oa] false,body:=body,defers:=w.heap.size }
 let W1:World:=(w.alloc (.deferred (some []))).alloc (.loop rc)
 have ji:Xy w.heap.size rc W1:=by
  constructor
  ·have:=World.alloc_heap_new (w.alloc (.deferred (some []))) (.loop rc)
   rw [World.size_alloc] at this
   exact this
  ·exact (Below.heap_alloc _ _ _ (by simp)).trans (World.alloc_heap_new w _)
 have ald:W1.heap.size=w.heap.size + 2:=by simp [W1]
 have fD:Gm O (ρ ++ [⟨0,.nil,yl,[]⟩]) (tb ++ [.no]) W1:=(hM.Fg (w':=W1) (by rw [ald];omega) (fun b hb _=>(Below.heap_alloc _ _ _ (by simp;omega)).trans (Below.heap_alloc _ _ _ hb))).afo _
 have Dg:O w.heap.size=.no:=hM.lt _ (Nat.le_refl _)
 have hn2:O (w.heap.size + 1)=.no:=hM.lt _ (by omega)
 have gu:Kept ja w W1:=⟨rfl,rfl,rfl,by omega,fun b hb _=>(Below.heap_alloc _ _ _ (by simp;omega)).trans (Below.heap_alloc _ _ _ hb)⟩
 have gR:aR (fun _=>True) O0 aG w0 O (ρ ++ [⟨0,.nil,yl,[]⟩]) W1:=hS.trans ⟨.app _ _,.refl _,fun _ _ h=>h,fun _ _ _ h _=>h,gu.wide (fun _ h=>h.elim)⟩
 have hm:(ρ ++ [(⟨0,.nil,yl,[]⟩:Hd)]).length=tb.length + 1:=by simp [hM.len]
 let J:World->Prop:=fun W=>∃ O' ρ' aL,k .normal (mark ⟨env,aL,[]⟩)=some r∧Gm O' ρ' aL W∧GO E.c O'∧aR (fun _=>True) O (ρ ++ [⟨0,.nil,yl,[]⟩]) W1 O' ρ' W
 have ach:∀ {O':Own} {ρ':List Hd} {W:World},aR (fun _=>True) O (ρ ++ [⟨0,.nil,yl,[]⟩]) W1 O' ρ' W->Xy w.heap.size rc W∧O' w.heap.size=.no∧O' (w.heap.size + 1)=.no∧w.heap.size + 2≤W.heap.size:=by
  intro O' ρ' W h
  refine ⟨⟨?_,?_⟩,h.no _ (by omega) Dg,h.no _ (by omega) hn2,by have:=h.kept.size;omega⟩
  ·rw [h.kept.block _ (by omega) (fun ⟨id,_,e⟩=>by rw [hn2] at e;cases e)];exact ji.1
  ·rw [h.kept.block _ (by omega) (fun ⟨id,_,e⟩=>by rw [Dg] at e;cases e)];exact ji.2
 have i7:CallsIn Fence.wide 1 P f (#[yl] ++ (aO ls cs).toArray) W1 (fun e W'=>(∃ v,e=.returned v)∧J W'):=by
  have aav:RL O (ρ ++ [⟨0,.nil,yl,[]⟩]) (.yv tb.length :: ls) ([yl] :: cs):=⟨_,_,rfl,⟨⟨0,.nil,yl,[]⟩,by rw [← hM.len];simp,rfl,rfl⟩,hRL.mono (.refl _) (.app _ _)⟩
  have hvl:∀ {vs:List IV} {cs:List (List Value)},RL O (ρ ++ [⟨0,.nil,yl,[]⟩]) vs cs->(aO vs cs).length=vs.length:=by
   intro vs
   induction vs with
   | nil=>intro cs h;simp [aO]
   | cons v vs ih=>intro cs h;obtain ⟨c0,r,rfl,h1,h2⟩:=h;simp [aO,ih h2]
  have hlen:=hvl aav
  have atr:#[yl] ++ (aO ls cs).toArray=(aO (.yv tb.length :: ls) ([yl] :: cs)).toArray:=by simp [aO,IV.agg]
  rw [atr]
  refine callsIn_of_wp hf hb trivial (wpIn_wide.2 ?_) rfl
  have pV:G E2 O (ρ ++ [⟨0,.nil,yl,[]⟩]) W1 ⟨jv (b_ (ls.length + 1)) (.yv tb.length :: ls),tb ++ [.no],[]⟩ { tmps:=(aO (.yv tb.length :: ls) ([yl] :: cs)).toArray ++ Array.replicate (rP.ntmps - (aO (.yv tb.length :: ls) ([yl] :: cs)).toArray.size) undef,defers:=[] } W1:=by
   rw [hn]
   refine ⟨O,_,⟨FI.of (n:=E2.n) (by have h9:=hlen;simp only [List.length_cons] at h9;simp [h9];exact Nat.add_sub_cancel' hle) aav (fun i t v hi hv=>?_),rfl⟩,fD,by rw [lD];exact jn,.refl _ _ _ _⟩
   have hi':=(aM hi).1
   rw [b_,n_] at hi'
   rw [nH hi'] at hi;cases hi
   rw [Array.getElem?_append_left (by rw [List.size_toArray,hlen];exact hi')]
   simpa using hv
  refine wp_mono (Xn (E:=E2) (by rw [lD];exact hc) ana dF hm ?_ sQ [] _ _ (fun a' w'=>bodyPost P rP (fun e W'=>(∃ v,e=.returned v)∧J W') .normal a' w') (fun _ _ _=>False) (fun a' w'=>bodyPost P rP (fun e W'=>(∃ v,e=.returned v)∧J W') .normal a' w') _ _ rfl mb e pV ?_) (fun e a w q=>by cases e<;>first | exact q | exact q.elim)
  ·
   rintro ⟨KN,k7,DW⟩ k2 N2 X2 Y2 a2 W e2 ⟨O2,br,⟨⟨l2,dh,OI⟩,Mz⟩,fm,Mw,c_⟩ OU
   unfold yH at e2
   simp only at e2
   split at e2<;>first | (cases e2;done) | skip
   rename_i id x h0 hx
   split at e2<;>first | (cases e2;done) | skip
   rename_i hid
   have hid:=ay hid
   subst hid
   obtain ⟨yQ,g1,g2,g3⟩:=ach c_
   have hy:a2.eval (.tmp 0)=.func (.yield (w.heap.size + 1)) #[] #[]:=by
    obtain ⟨s0,q0,y1,rfl,u1,rfl,hd,q1,q2,_⟩:=OI.get h0
    obtain ⟨m,q3⟩:=c_.pre tb.length ⟨0,.nil,yl,[]⟩ (by rw [← hM.len];simp)
    rw [q3] at q1
    cases q1
    simp only [List.cons.injEq,and_true] at q2
    have e5:a2.eval (.tmp 0)=_:=dh.eval q0
    rw [e5]
    exact q2.symm ▸ rfl
   obtain ⟨s0,q0,y1,rfl,rfl,hone⟩:=OI.get hx
   have L8:∀ {O:Own} {ρ:List Hd},SR O ρ (.o y1) (.o y1):=⟨y1,rfl,rfl,hone⟩
   have Ya:∀ {O:Own} {ρ:List Hd} (b:Bool),SR O ρ (.o (.b b)) (.o (.b b)):=fun b=>⟨_,rfl,rfl,rfl⟩
   have srU:∀ {O:Own} {ρ:List Hd},SR O ρ .ud (.o (.v (.func (.yield (w.heap.size + 1)) #[] #[]))):=⟨_,rfl,_,rfl,_,rfl,rfl⟩
   have hv:a2.eval (.tmp sv)=y1.val:=dh.eval q0
   have lt:∀ {i n:Nat},Nat.blt i n=true->i < n:=fun h=>by simpa [Nat.blt_eq] using h
   rw [hq]
   refine aet (y0:=0) (sv:=sv) (l:=w.heap.size + 1) h1 h2 h3 h4 hy hv (by rw [dh.size];exact lt n1) (by rw [dh.size];exact lt n2) (by rw [dh.size];exact lt n3) hne
    (Q:=fun W'=>∃ O3 kT qR,k2 .normal ⟨(d4,.o (.b false)) :: (d3,.o (.b true)) :: (d2,.o y1) :: (d1,.ud) :: KN,qR,DW⟩=some r∧Gm O3 kT qR W'∧GO E.c O3∧aR (fun _=>True) O2 br W O3 kT W') ?_ ?_
   ·
    refine ⟨fn,_,.region oI #[oa] false,body,run_yield (P:=P) yQ.1 (by simp [rc]),roundIn_of_wpIn hfn ?_⟩
    have hz:(rc.params.zip #[y1.val]).foldl (fun t (p,v)=>t.setIfInBounds p v) rc.tmps=a.tmps.setIfInBounds jg y1.val:=by simp [rc]
    rw [hz]
    let A0:Act:=({ tmps:=a.tmps,defers:=[] }:Act).put (some jg) y1.val
    have hA:A0.eval (.tmp jg)=y1.val:=Gi (by show jg < a.tmps.size;have:=hl.size;simp only at this;rw [this];exact lt iT)
    refine wpIn_region_lit (l:=[oa]) ?_
    refine wpListIn_plain jW.2.2 fun K hK=>?_
    refine ⟨fun _ _=>trivial,?_⟩
    rw [Oper.semAt_eq _ _ _ (fun c e=>by rw [jW.1] at e;cases e)]
    simp only [execOp,jW.1,Sem.run_pure,Sem.run_bind,Result.andThen_ok,Oper.uponIn,jW.2.1]
    refine hK _ _ ?_
    show ∃ w₂,_
    refine ⟨_,run_beginRound yQ.1 rfl,?_⟩
    show body.wpIn _ _ _ _ (A0.put (some d) (A0.eval (.tmp jg))) _
    rw [hA]
    let W2:World:=W.putObj (w.heap.size + 1) (.loop { rc with state:=.busy })
    have ei:G E O2 br W2 ⟨(d,.o y1) :: (jg,.o y1) :: env,k7,[]⟩ (A0.put (some d) y1.val) W2:=by
     refine ⟨O2,br,⟨FI.put (x:=.o y1) (FI.put (x:=.o y1) (FI.mono c_.im (Pre.trans (.app _ _) c_.pre) ⟨l,hl,c9⟩) iT L8) Q5 L8,rfl⟩,?_,by rw [← lD];exact Mw,.refl _ _ _ _⟩
     exact fm.Fg (by simp [W2]) (fun b hb hno=>World.putObj_heap_other (fun e=>by rw [e] at hno;exact hno g2))
    refine wpIn_mono (afv (l:=w.heap.size + 1) (n:=0) hc hct dF body [] _ _ (fun _ W3=>∃ O3 kT qR,k2 .normal ⟨(d4,.o (.b false)) :: (d3,.o (.b true)) :: (d2,.o y1) :: (d1,.ud) :: KN,qR,DW⟩=some r∧Gm O3 kT qR W3∧GO E.c O3∧aR (fun _=>True) O2 br W2 O3 kT W3) (fun _ _ _=>False) _ _ ho pi e2 ei (fun e ak a' W' q1 q2=>?_)) ?_
    ·cases e with
     | normal=>obtain ⟨O3,kT,_,q3,q4,q5⟩:=q2;exact ⟨O3,kT,ak.tb,q1,q3,q4,q5⟩
     | _=>cases q1
    ·rintro e a3 W3 XA
     cases e with
     | normal=>
      obtain ⟨O3,kT,qR,q1,q3,q4,q5⟩:=XA
      have atZ:W2.heap.size=W.heap.size:=by simp [W2]
      have d1':=q5.no w.heap.size (by omega) g1
      have d2':=q5.no (w.heap.size + 1) (by omega) g2
      have dw:W3.heap[w.heap.size + 1]? = some (.loop { rc with state:=.busy }):=by
       rw [q5.kept.block (w.heap.size + 1) (by omega) (fun ⟨id,_,e⟩=>by rw [g2] at e;cases e)]
       exact World.putObj_heap_same (by omega)
      have hb3:(W3.putObj (w.heap.size + 1) (.loop rc)).heap[w.heap.size + 1]? = some (.loop rc):=World.putObj_heap_same (Array.getElem?_eq_some_iff.1 dw).1
      refine ⟨_,_,run_endRound (P:=P) none dw,rfl,O3,kT,qR,q1,?_,q4,?_⟩
      ·exact q3.Fg (by simp) (fun b hb hno=>World.putObj_heap_other (fun e=>by rw [e] at hno;exact hno d2'))
      ·refine ⟨q5.pre,q5.im,fun b hb=>q5.no b (by omega),fun _ _ _ _ hn=>absurd trivial hn,⟨q5.kept.os,q5.kept.tape,q5.kept.output,by have:=q5.kept.size;simp;omega,fun b hb hne=>?_⟩⟩
       by_cases eb:b=w.heap.size + 1
       ·subst eb;exact hb3.trans yQ.1.symm
       ·rw [World.putObj_heap_other eb,q5.kept.block b (by omega) hne]
        exact World.putObj_heap_other eb
     | _=>exact XA.elim
   ·
    rintro W' ⟨O3,kT,qR,q1,q3,q4,q5⟩
    refine OU .normal _ _ _ q1 ⟨O3,kT,⟨?_,?_⟩,q3,by rw [lD];exact q4,c_.trans q5⟩
    ·have hF:FI E2.n a2 KN O3 kT:=FI.mono q5.im q5.pre ⟨l2,dh,OI⟩
     exact FI.put (x:=.o (.b false)) (FI.put (x:=.o (.b true)) (FI.put (x:=.o y1) (FI.put (x:=.o (.v (.func (.yield (w.heap.size + 1)) #[] #[]))) hF n1 srU) n2 L8) n3 (Ya true)) n4 (Ya false)
    ·exact DR.mono q5.im q5.pre Mz
  ·rintro e1 ⟨KN,k7,DW⟩ a2 W e2 ⟨O2,br,⟨_,Mz⟩,fm,Mw,c_⟩
   have hend:zo e1=true∧DW=[]∧k .normal (mark ⟨env,k7,[]⟩)=some r:=by
    simp only at e2
    cases hb:zo e1 with
    | false=>rw [hb] at e2;cases e2
    | true=>cases DW with
     | nil=>rw [hb] at e2;exact ⟨rfl,rfl,e2⟩
     | cons x xs=>rw [hb] at e2;cases e2
   obtain ⟨g1,rfl,g3⟩:=hend
   have hpost:bodyPost P rP (fun e W'=>(∃ v,e=.returned v)∧J W') .normal a2 W:=by
    refine ⟨Mz,_,ye (xs:=[]) (by rw [hres];exact rfl),⟨_,rfl⟩,O2,br,k7,g3,fm,by rw [← lD];exact Mw,c_⟩
   cases e1<;>first | exact hpost | cases g1
 refine ⟨w.heap.size + 1,[{ target:=.collected w.heap.size,args:=#[] }],W1,{ target:=.fn (.func f) (aO ls cs).toArray,args:=#[yl] },W1,f,#[yl] ++ (aO ls cs).toArray,W1,
  run_enterLoop_outer _ _ _ _ _,?_,fun _ _=>trivial,?_,fun _=>by omega,?_⟩
 ·simp only [resolve,rangeCall,ajq]
  simp [go_sem,yl]
 ·simp [invoke,go_sem,eg]
 ·refine i7.mono ?_
  rintro e' W' ⟨⟨v,rfl⟩,O',ρ',aL,hk,iw,hJ,eC⟩
  obtain ⟨yQ,g1,g2,g3⟩:=ach eC
  refine ⟨none,_,run_endLoop (P:=P) yQ.1 (by simp [rc]),?_⟩
  refine hK .normal _ _ _ hk ?_
  have fm:Gm O' ρ' aL (W'.putObj (w.heap.size + 1) (.loop { rc with state:=.exhausted })):=iw.Fg (by simp) (fun b hb hno=>World.putObj_heap_other (fun e=>by rw [e] at hno;exact hno g2))
  obtain ⟨m1,m2⟩:=fm.afB g1 ((World.putObj_heap_other (by omega)).trans yQ.2)
  refine ⟨_,_,⟨FI.mono m2 (.app _ _) (FI.mono eC.im (Pre.trans (.app _ _) eC.pre) ⟨l,hl,c9⟩),?_⟩,m1,hJ.mono m2,?_⟩
  ·refine .inr ⟨aL.length,⟨w.heap.size,.nil,.bool false,[]⟩,[],rfl,?_,?_,rfl⟩
   ·rw [← iw.len];simp
   ·show _ :: a.defers=_
    rw [aeO]
  ·have h5:=gR.trans eC
   refine ⟨h5.pre.trans (.app _ _),h5.im.trans m2,fun b hb h=>?_,fun b id hb h hn=>absurd trivial hn,⟨h5.kept.os,h5.kept.tape,h5.kept.output,by simpa using h5.kept.size,fun b hb hne=>?_⟩⟩
   ·have hne:Nat.beq w.heap.size b=false:=by
     cases e':Nat.beq w.heap.size b with
     | true=>have:=ay e';omega
     | false=>rfl
    simp only [hne,cond_false]
    exact h5.no b hb h
   ·rw [World.putObj_heap_other (by omega)]
    exact h5.kept.block b hb hne
def YG:Code->Option (Nat×(Nat×Nat)×(Nat×Nat)×(Nat×Nat×Nat)×(Nat×Nat))
 | .region pP ops draw=>match draw,ops.toList with
  | false,[o1,o2,o3,o4]=>match o1.op,o1.dst,o1.guard,o2.op,o2.dst,o2.guard with
   | .move (.tmp a0),some d1,none,.move (.tmp sv),some d2,none=>match o3.op,o3.dst,o3.guard,o4.op,o4.dst,o4.guard with
    | .call cl,some d3,none,.unOp .not _ (.tmp e3),some d4,none=>match cl.callee,cl.args.toList with
     | .value (.tmp c1),[.tmp c2]=>some (pP,(a0,d1),(sv,d2),(c1,c2,d3),(e3,d4))
     | _,_=>none
    | _,_,_,_,_,_=>none
   | _,_,_,_,_,_=>none
  | _,_=>none
 | _=>none
theorem aoK {c:Code} {pP sv d1 d2 d3 d4:Nat} (h:YG c=some (pP,(0,d1),(sv,d2),(d1,d2,d3),(d3,d4))) :
  ∃ o1 o2 o3 o4 ats,c=.region pP #[o1,o2,o3,o4] false∧(o1.op=.move (.tmp 0)∧o1.dst=some d1∧o1.guard=none)∧(o2.op=.move (.tmp sv)∧o2.dst=some d2∧o2.guard=none) ∧
   (o3.op=.call { callee:=.value (.tmp d1),args:=#[.tmp d2],argTypes:=ats }∧o3.dst=some d3∧o3.guard=none)∧(∃ t,o4.op=.unOp .not t (.tmp d3)∧o4.dst=some d4∧o4.guard=none):=by
 unfold YG at h
 split at h<;>first | (cases h;done) | skip
 split at h<;>first | (cases h;done) | skip
 rename_i ops dr ls o1 o2 o3 o4 N6
 split at h<;>first | (cases h;done) | skip
 rename_i k1 k2 k3 k4 k5 k6
 split at h<;>first | (cases h;done) | skip
 rename_i cl _ _ _ _ m1 m2 m3 m4 m5 m6
 split at h<;>first | (cases h;done) | skip
 rename_i n1 n2
 simp only [az,Prod.mk.injEq] at h
 obtain ⟨rfl,⟨rfl,rfl⟩,⟨rfl,rfl⟩,⟨rfl,rfl,rfl⟩,⟨rfl,rfl⟩⟩:=h
 obtain ⟨ce,as,at_⟩:=cl
 simp only at n1 n2
 subst n1
 have e1:as = #[.tmp _]:=Array.toList_inj.1 n2
 have e2:ops = #[o1,o2,o3,o4]:=Array.toList_inj.1 N6
 subst e1 e2
 exact ⟨o1,o2,o3,o4,at_,rfl,⟨k1,k2,k3⟩,⟨k4,k5,k6⟩,⟨m1,m2,m3⟩,⟨_,m4,m5,m6⟩⟩
end
end Go.Tw
namespace Go.Tw
open Go.RowKit
section
def yf:aj->Bool
 | []=>true
 | .rr _ _ _ _ _ :: _=>false
 | _ :: r=>yf r
theorem aaD:∀ {tb:aj} {j:Nat} {E Ei:TypeId} {t:Ty} {rows:List (Option (List t.den))} {out:List Nat},yf tb=true->tb[j]? = some (.rr E Ei t rows out)->False
 | [],j,_,_,_,_,_,_,e=>by simp at e
 | x :: tb,0,_,_,_,_,_,h,e=>by simp at e;subst e;simp [yf] at h
 | x :: tb,j + 1,_,_,_,_,_,h,e=>by
  simp at e
  refine aaD (tb:=tb) (j:=j) ?_ e
  cases x<;>first | exact h | (simp [yf] at h)
theorem Gm.ak6 {O:Own} {ρ:List Hd} {tb:aj} {w:World} {M:Nat->Prop} {O':Own} {ρ':List Hd} {aL:aj} {w':World} (hM:Gm O ρ tb w) (hk:Kept (fun b=>∃ i,M i∧O b=.th i) w w') (hO:∀ b,b < w.heap.size->(∀ i,M i->O b ≠ .th i)->O' b=O b)
  (hlt:∀ b,w'.heap.size≤b->O' b=.no) (iS:∀ b all,O' b=.im all->O b=.im all∨∃ ty fz,w'.heap[b]? = some (.cells all.toArray ty fz)) (hρ:Pre ρ ρ') (Pz:yf tb=true) (hl:ρ'.length=aL.length)
  (ht:∀ j x,aL[j]? = some x->(tb[j]? = some x∧¬ M j)∨Holds O' ρ' w' j x):Gm O' ρ' aL w'∧aR M O ρ w O' ρ' w':=by
 have eu:∀ b,O b ≠ .no->b < w.heap.size:=fun b h=>by
  rcases Nat.lt_or_ge b w.heap.size with h' | h'
  ·exact h'
  ·exact absurd (hM.lt b h') h
 have hle:O.le O':=fun b all e=>by
  rw [hO b (eu b (by rw [e];simp)) (fun i _ h=>by rw [e] at h;cases h)];exact e
 refine ⟨⟨fun b all e=>?_,hlt,hl,fun j x hx=>?_⟩,⟨hρ,hle,fun b hb e=>?_,fun b id hb e hn=>?_,hk⟩⟩
 ·rcases iS b all e with h | h
  ·obtain ⟨ty,fz,h1⟩:=hM.im b all h
   refine ⟨ty,fz,?_⟩
   rw [hk.block b (eu b (by rw [h];simp)) (fun ⟨i,_,h'⟩=>by rw [h] at h';cases h')];exact h1
  ·exact h
 ·rcases ht j x hx with ⟨h1,h2⟩ | h1
  ·have old:=hM.th j x h1
   cases x with
   | blk ty v=>
    obtain ⟨h,cs,h3,h4,h5,h6,h7⟩:=old
    have hb:∀ i,M i->O h.b ≠ .th i:=fun i hi e=>by rw [h4] at e;cases e;exact h2 hi
    obtain ⟨mm,hm⟩:=hρ _ _ h3
    refine ⟨_,cs,hm,by rw [hO _ h7.lt hb];exact h4,h5,R.mono hle hρ h6,h7.same (hk.block _ h7.lt (fun ⟨i,hi,e⟩=>hb i hi e))⟩
   | row E t xs=>
    obtain ⟨h,es,h3,h4,h5,h6,h7⟩:=old
    have hb:∀ b,aZ h.v b->∀ i,M i->O b ≠ .th i:=fun b aB i hi e=>by rw [h5 b aB] at e;cases e;exact h2 hi
    have hlt':∀ b,aZ h.v b->b < w.heap.size:=fun b aB=>eu b (by rw [h5 b aB];simp)
    obtain ⟨mm,hm⟩:=hρ _ _ h3
    refine ⟨_,es,hm,h4,fun b aB=>by rw [hO b (hlt' b aB) (hb b aB)];exact h5 b aB,h6.mono (fun _ _=>TR.mono hle),?_⟩
    exact Rs.same (r:=.row E t.size h.v xs.length es) (fun b aB=>hk.block b (hlt' b aB) (fun ⟨i,hi,e⟩=>hb b aB i hi e)) h7
   | fz t xs=>
    obtain ⟨h,h3,h4,h5⟩:=old
    obtain ⟨mm,hm⟩:=hρ _ _ h3
    exact ⟨_,hm,h4,TR.mono hle h5⟩
   | no=>trivial
   | ob o0=>
    obtain ⟨h,h3,h4,h5⟩:=old
    have hb:∀ i,M i->O h.b ≠ .th i:=fun i hi e=>by rw [h4] at e;cases e;exact h2 hi
    have hlt':h.b < w.heap.size:=eu _ (by rw [h4];simp)
    obtain ⟨mm,hm⟩:=hρ _ _ h3
    exact ⟨_,hm,by rw [hO _ hlt' hb];exact h4,by rw [hk.block _ hlt' (fun ⟨i,hi,e⟩=>hb i hi e)];exact h5⟩
   | mp kt vt l=>
    obtain ⟨h,es,h3,h4,h5,h6⟩:=old
    have hb:∀ i,M i->O h.b ≠ .th i:=fun i hi e=>by rw [h4] at e;cases e;exact h2 hi
    have hlt':h.b < w.heap.size:=eu _ (by rw [h4];simp)
    obtain ⟨mm,hm⟩:=hρ _ _ h3
    exact ⟨_,es,hm,by rw [hO _ hlt' hb];exact h4,by rw [hk.block _ hlt' (fun ⟨i,hi,e⟩=>hb i hi e)];exact h5,h6.mono hle⟩
   | it n seen=>
    obtain ⟨h,h3,h4,bm,h5,h7⟩:=old
    have hb:∀ i,M i->O h.b ≠ .th i:=fun i hi e=>by rw [h4] at e;cases e;exact h2 hi
    have hlt':h.b < w.heap.size:=eu _ (by rw [h4];simp)
    obtain ⟨mm,hm⟩:=hρ _ _ h3
    exact ⟨_,hm,by rw [hO _ hlt' hb];exact h4,bm,h5,by rw [hk.block _ hlt' (fun ⟨i,hi,e⟩=>hb i hi e)];exact h7⟩
   | rr E Ei t rows out=>exact (aaD Pz h1).elim
  ·exact h1
 ·rw [hO b hb (fun i _ h=>by rw [e] at h;cases h)];exact e
 ·rw [hO b hb (fun i hi h=>by rw [e] at h;cases h;exact hn hi)];exact e
variable {P:Program} {E:Ev}
def N3 (E:Ev) (code:Code) (rs:List ResultVar):jf:=fun _ vs tb k=>match Nat.ble vs.length E.n,yf tb with
 | true,true=>match cj E tb.length [] code [] ⟨jv (b_ vs.length) vs,tb.map fun _=>.no,[]⟩ (ZK E rs) with
  | some z=>k (some z.1) (tb ++ z.2.drop tb.length) []
  | none=>none
 | _,_=>none
theorem aqR {f:FuncId} {fn:Func} {code:Code} (hf:P.funcs[f]? = some fn) (hb:fn.body=some code) (hn:fn.ntmps=E.n) (hc:aN P E.c) (hct:bS P E) (dF:P.follows .mixedOrders=true) (ho:cA E code=true):pH P E.c f (N3 E code fn.results.toList):=by
 intro β vs tb k r O ρ w cs e hG hM hR
 unfold N3 at e
 split at e<;>first | (cases e;done) | skip
 rename_i hle Pz
 split at e<;>first | (cases e;done) | skip
 rename_i z hz
 have hle:vs.length≤E.n:=by simpa using hle
 have hvl:∀ {vs:List IV} {cs:List (List Value)},RL O ρ vs cs->(aO vs cs).length=vs.length:=by
  intro vs
  induction vs with
  | nil=>intro cs h;simp [aO]
  | cons v vs ih=>intro cs h;obtain ⟨c0,r,rfl,h1,h2⟩:=h;simp [aO,ih h2]
 have hlen:(aO vs cs).length=vs.length:=hvl hR
 have hm:ρ.length=tb.length:=hM.len
 let Q:Value->World->Prop:=fun x w'=>∃ O' ρ' sv,x=sv.val∧SR O' ρ' z.1 sv∧Gm O' ρ' (tb ++ z.2.drop tb.length) w'∧aR (· ∈ ([]:List Nat)) O ρ w O' ρ' w'
 let D:Nat->Bool:=fun b=>match O b with
  | .th _=>true
  | _=>false
 let O0:Own:=fun b=>bif D b then .no else O b
 have hD:∀ b,D b=true->∃ id,O b=.th id:=fun b h=>by
  simp only [D] at h
  split at h
  ·rename_i id e;exact ⟨id,e⟩
  ·cases h
 have gl:∀ b,D b=false->O0 b=O b:=fun b h=>by simp only [O0,h,cond_false]
 have jM:∀ b,D b=true->O0 b=.no:=fun b h=>by simp only [O0,h,cond_true]
 have n7:∀ b id,O b=.th id->D b=true:=fun b id h=>by simp only [D,h]
 have hno:∀ b id,O0 b ≠ .th id:=fun b id h=>by
  cases hd:D b with
  | true=>rw [jM b hd] at h;cases h
  | false=>rw [gl b hd] at h;rw [n7 b id h] at hd;cases hd
 have eu:∀ b,O b ≠ .no->b < w.heap.size:=fun b h=>by
  rcases Nat.lt_or_ge b w.heap.size with h' | h'
  ·exact h'
  ·exact absurd (hM.lt b h') h
 have lV:∀ b all,O b=.im all->O0 b=.im all:=fun b all e=>by rw [gl b (by simp only [D,e])];exact e
 have Ac:Gm O0 ρ (tb.map fun _=>.no) w:=by
  refine ⟨fun b all e=>?_,fun b hb=>?_,by simp [hM.len],fun j x hx=>?_⟩
  ·cases hd:D b with
   | true=>rw [jM b hd] at e;cases e
   | false=>rw [gl b hd] at e;exact hM.im b all e
  ·cases hd:D b with
   | true=>exact jM b hd
   | false=>rw [gl b hd];exact hM.lt b hb
  ·rw [List.getElem?_map] at hx
   cases h:tb[j]? with
   | none=>rw [h] at hx;cases hx
   | some y=>rw [h] at hx;cases hx;trivial
 have hJ:GO E.c O0:=hG.mono lV
 have pQ:RL O0 ρ vs cs:=hR.mono lV (.refl _)
 have pV:G E O0 ρ w ⟨jv (b_ vs.length) vs,tb.map fun _=>.no,[]⟩ { tmps:=(aO vs cs).toArray ++ Array.replicate (fn.ntmps - (aO vs cs).toArray.size) undef,defers:=[] } w:=by
  rw [hn]
  refine ⟨O0,ρ,⟨FI.of (by simp [hlen];omega) pQ (fun i t v hi hv=>?_),rfl⟩,Ac,hJ,.refl _ _ _ _⟩
  have hi':=(aM hi).1
  rw [b_,n_] at hi'
  rw [nH hi'] at hi;cases hi
  rw [Array.getElem?_append_left (by simp [hlen,hi'])]
  simpa using hv
 have leaf:∀ {ak:St} {a':Act} {w':World},(kZ E (fun tb=>match iR E.c ak.env tb fn.results.toList with
   | some vs=>some (lB vs,tb)
   | none=>none) ak.df ak.tb)=some z->G E O0 ρ w ak a' w'->Leaves P fn a'.tmps (eJ Q) a'.defers .returning w':=by
  intro ak a' w' h1 h2
  obtain ⟨O1,bQ,jA,fD,dX,gR⟩:=h2
  refine Gg hct (O0:=O1) (aG:=bQ) (w0:=w') ?_ ak.df a'.defers ak.tb w' O1 bQ h1 jA.2 fD dX (.refl _ _ _ _)
  intro k7 w2 O2 br hu fm ei c_
  have kz:=jA.1.mono c_.im c_.pre
  have hS:aR (fun _=>True) O0 ρ w O2 br w2:=gR.trans c_
  split at hu<;>first | (cases hu;done) | skip
  rename_i us hvs
  cases hu
  obtain ⟨ds,ji,hrl⟩:=vl (P:=P) hc kz fm hvs
  obtain ⟨sv,f7,hval⟩:=xB ji
  let O3:Own:=fun b=>bif D b then O b else O2 b
  have e0:∀ b,D b=false->O3 b=O2 b:=fun b h=>by simp only [O3,h,cond_false]
  have e1:∀ b,D b=true->O3 b=O b:=fun b h=>by simp only [O3,h,cond_true]
  have XO:w.heap.size≤w2.heap.size:=hS.kept.size
  have sy:∀ b,D b=true->b < w.heap.size:=fun b h=>by obtain ⟨id,e⟩:=hD b h;exact eu b (by rw [e];simp)
  have e2:∀ b,D b=true->O2 b=.no:=fun b h=>hS.no b (sy b h) (jM b h)
  have uI:∀ b all,O2 b=.im all->O3 b=.im all:=fun b all e=>by
   cases hd:D b with
   | true=>rw [e2 b hd] at e;cases e
   | false=>rw [e0 b hd];exact e
  have rL:Gm O3 br k7 w2:=fm.more (fun b h=>by
   cases hd:D b with
   | true=>exact absurd (e2 b hd) h
   | false=>exact e0 b hd) (fun b hb=>by
   cases hd:D b with
   | true=>have:=sy b hd;omega
   | false=>rw [e0 b hd];exact fm.lt b hb) (fun b all e=>by
   cases hd:D b with
   | true=>rw [e1 b hd] at e;obtain ⟨id,h⟩:=hD b hd;rw [h] at e;cases e
   | false=>rw [e0 b hd] at e;exact e)
  have Jd:tb.length≤k7.length:=by
   rw [← fm.len,← hM.len]
   rcases Nat.lt_or_ge br.length ρ.length with h' | h'
   ·have h1:ρ[br.length]? = some ρ[br.length]:=List.getElem?_eq_getElem h'
    obtain ⟨l,h2⟩:=hS.pre _ _ h1
    have:=(aM h2).1
    omega
   ·exact h'
  obtain ⟨hM4,hS4⟩:=hM.ak6 (M:=fun i=>i ∈ ([]:List Nat)) (O':=O3) (ρ':=br) (aL:=tb ++ k7.drop tb.length) (w':=w2)
   ⟨hS.kept.os,hS.kept.tape,hS.kept.output,hS.kept.size,fun b hb _=>hS.kept.block b hb (fun ⟨id,_,h⟩=>hno b id h)⟩
   (fun b hb _=>by
    cases hd:D b with
    | true=>exact e1 b hd
    | false=>
     rw [e0 b hd]
     cases ho:O b with
     | no=>exact hS.no b hb (by rw [gl b hd];exact ho)
     | im all=>exact hS.im b all (lV b all ho)
     | th id=>rw [n7 b id ho] at hd;cases hd)
   rL.lt (fun b all e=>.inr (rL.im b all e)) hS.pre Pz (by rw [rL.len];simp;omega) (fun j x hx=>by
    rcases Nat.lt_or_ge j tb.length with hj | hj
    ·rw [List.getElem?_append_left hj] at hx;exact .inl ⟨hx,by simp⟩
    ·rw [List.getElem?_append_right hj,List.getElem?_drop] at hx
     rw [Nat.add_sub_cancel' hj] at hx
     exact .inr (rL.th j x hx))
  exact ⟨_,ye hrl,O3,br,sv,by rw [hval];rfl,f7.mono uI (.refl _),hM4,hS4⟩
 refine ⟨z.1,_,_,e,?_⟩
 have hwp:code.wp P (QL (fun a w=>Leaves P fn a.tmps (eJ Q) a.defers .returning w) (fun _ _ _=>False) (fun a w=>Leaves P fn a.tmps (eJ Q) a.defers .returning w)) { tmps:=(aO vs cs).toArray ++ Array.replicate (fn.ntmps - (aO vs cs).toArray.size) undef,defers:=[] } w:=by
  refine sN (m:=tb.length) hc hct dF hm (lp:=[]) trivial code [] _ _ _ _ _ _ _ rfl ho hz pV (fun e ak a' w' h1 h2=>?_)
  cases e with
  | normal=>exact leaf h1 h2
  | ret=>exact leaf h1 h2
  | exit j=>cases h1
  | goto j=>cases h1
  | panic ch=>cases h1
  | outgrown=>cases h1
 refine calls_of_wp_defers hf hb (wp_mono hwp fun e a w q=>?_)
 cases e<;>first | exact q | exact q.elim
end
end Go.Tw
namespace Go.Tw
open Go.RowKit
section
variable {P:Program} {E:Ev}
def wI {β:Type} (E:Ev) (tb:aj) (k:aE->Option β):List Oper->aE->Option β
 | [],il=>k il
 | o :: L,il=>match o.guard with
  | some _=>none
  | none=>match Gw E.c o.op with
   | .p=>Jo E.c il tb (fun v=>match e_ E o.dst v il with
    | some il=>wI E tb k L il
    | none=>none) o.op
   | .r=>match yu E.c il o.op with
    | some _=>Bc E.c il tb (fun v=>match e_ E o.dst v il with
     | some il=>wI E tb k L il
     | none=>none) o.op
    | none=>none
   | _=>none
theorem abz {β:Type} {tb:aj} {k:aE->Option β} {r:β} {ops:Array Oper} {O:Own} {ρ:List Hd} {w:World} {Q:Exit->Act->World->Prop} (hc:aN P E.c) (hM:Gm O ρ tb w) (hG:GO E.c O) :
  ∀ (L:List Oper) (il:aE) (a:Act),wI E tb k L il=some r->FI E.n a il O ρ->a.defers=[]->(∀ bp a',k bp=some r->FI E.n a' bp O ρ->a'.defers=[]->Q .normal a' w)->wpList P ops Q L a w
 | [],il,a,e,hF,hd,hK=>hK il a e hF hd
 | o :: L,il,a,e,hF,hd,hK=>by
  simp only [wI] at e
  split at e<;>first | (cases e;done) | skip
  rename_i hg
  unfold wpList
  rw [if_pos (by simp [Region.wanted,hg])]
  refine .inl ?_
  have S4:=hF
  obtain ⟨l,hl,c9⟩:=hF
  have rY:({ a with defers:=[] }:Act).eval=a.eval:=rfl
  have fin:∀ {v:IV} {x:SV},SR O ρ v x->(execOp a.eval o).run P w=.ok (.value x.val) w->(match e_ E o.dst v il with
    | some il=>wI E tb k L il
    | none=>none)=some r->o.wp P a w (wpList P ops Q L) Q:=by
   intro v x hv hr e
   split at e<;>first | (cases e;done) | skip
   rename_i bp hp
   unfold Oper.wp
   rw [hr]
   exact abz hc hM hG L bp _ e (oG hp S4 hv) (by rw [put_defers];exact hd) hK
  split at e<;>first | (cases e;done) | skip
  ·obtain ⟨v,x,hv,hr,e⟩:=abY (P:=P) hc hl c9 hG hM e
   exact fin hv (hr w) e
  ·split at e<;>first | (cases e;done) | skip
   rename_i ids hi
   obtain ⟨v,x,hv,hr,e⟩:=PG (P:=P) hc hl c9 hG hM e hi
   exact fin hv (hr w (.refl _ _ _)) e
def vV {β:Type} (E:Ev) (tb:aj):Code->aE->(Exit->aE->Option β)->Option β
 | .skip,il,k=>k .normal il
 | .ret,il,k=>k .ret il
 | .seq a b,il,k=>vV E tb a il fun e il=>match e with
  | .normal=>vV E tb b il k
  | e=>k e il
 | .region _ ops draw,il,k=>match draw with
  | false=>wI E tb (k .normal) ops.toList il
  | true=>none
 | _,_,_=>none
theorem ade {β:Type} {tb:aj} {r:β} {O:Own} {ρ:List Hd} {w:World} (hc:aN P E.c) (hM:Gm O ρ tb w) (hG:GO E.c O) :
  ∀ (c:Code) (il:aE) (k:Exit->aE->Option β) (N:Act->World->Prop) (X:Nat->Act->World->Prop) (Y:Act->World->Prop) (a:Act),vV E tb c il k=some r->FI E.n a il O ρ->a.defers=[] ->
   (∀ e bp a',k e bp=some r->FI E.n a' bp O ρ->a'.defers=[]->QL N X Y e a' w)->c.wp P (QL N X Y) a w:=by
 intro c
 induction c with
 | skip=>intro il k N X Y a e hF hd hK;exact X1 (hK .normal il a e hF hd)
 | ret=>intro il k N X Y a e hF hd hK;exact aao (hK .ret il a e hF hd)
 | seq x y sZ mS=>
  intro il k N X Y a e hF hd hK
  simp only [vV] at e
  refine TD ?_
  have:=sZ il _ (fun a w'=>w'=w∧y.wp P (QL N X Y) a w) X Y a e hF hd (fun e bp a' h1 h2 h3=>?_)
  ·exact wp_mono this (fun e a w q=>by cases e<;>first | exact (q.1 ▸ q.2) | exact q)
  ·cases e with
   | normal=>exact ⟨rfl,mS bp k N X Y a' h1 h2 h3 hK⟩
   | exit j=>exact hK (.exit j) bp a' h1 h2 h3
   | ret=>exact hK .ret bp a' h1 h2 h3
   | goto j=>exact (hK (.goto j) bp a' h1 h2 h3:False).elim
   | panic ch=>exact (hK (.panic ch) bp a' h1 h2 h3:False).elim
   | outgrown=>exact (hK .outgrown bp a' h1 h2 h3:False).elim
 | region id ops draw=>
  intro il k N X Y a e hF hd hK
  simp only [vV] at e
  split at e<;>first | (cases e;done) | skip
  exact uf.wp (draw:=false) (abz hc hM hG ops.toList il a e hF hd (fun bp a' h1 h2 h3=>hK .normal bp a' h1 h2 h3))
 | _=>intro il k N X Y a e hF hd hK;simp [vV] at e
def kP (E:Ev) (tb:aj) (rs:List ResultVar):Exit->aE->Option IV:=fun e il=>match zo e with
 | true=>match iR E.c il tb rs with
  | some vs=>some (lB vs)
  | none=>none
 | false=>none
def QS (E:Ev) (code:Code) (rs:List ResultVar):jf:=fun _ vs tb k=>match Nat.ble vs.length E.n with
 | true=>match vV E tb code (jv (b_ vs.length) vs) (kP E tb rs) with
  | some v=>k (some v) tb []
  | none=>none
 | false=>none
theorem apX {f:FuncId} {fn:Func} {code:Code} (hf:P.funcs[f]? = some fn) (hb:fn.body=some code) (hn:fn.ntmps=E.n) (hc:aN P E.c):pH P E.c f (QS E code fn.results.toList):=by
 intro β vs tb k r O ρ w cs e hG hM hR
 unfold QS at e
 split at e<;>first | (cases e;done) | skip
 rename_i hle
 split at e<;>first | (cases e;done) | skip
 rename_i z hz
 have hle:vs.length≤E.n:=by simpa using hle
 have hvl:∀ {vs:List IV} {cs:List (List Value)},RL O ρ vs cs->(aO vs cs).length=vs.length:=by
  intro vs
  induction vs with
  | nil=>intro cs h;simp [aO]
  | cons v vs ih=>intro cs h;obtain ⟨c0,r,rfl,h1,h2⟩:=h;simp [aO,ih h2]
 have hlen:(aO vs cs).length=vs.length:=hvl hR
 let Q:Value->World->Prop:=fun x w'=>∃ O' ρ' sv,x=sv.val∧SR O' ρ' z sv∧Gm O' ρ' tb w'∧aR (· ∈ ([]:List Nat)) O ρ w O' ρ' w'
 have S4:FI E.n { tmps:=(aO vs cs).toArray ++ Array.replicate (fn.ntmps - (aO vs cs).toArray.size) undef,defers:=[] } (jv (b_ vs.length) vs) O ρ:=by
  rw [hn]
  refine FI.of (by simp [hlen];omega) hR (fun i t v hi hv=>?_)
  have hi':=(aM hi).1
  rw [b_,n_] at hi'
  rw [nH hi'] at hi;cases hi
  rw [Array.getElem?_append_left (by simp [hlen,hi'])]
  simpa using hv
 refine ⟨z,_,_,e,?_⟩
 have hwp:=ade (P:=P) (w:=w) hc hM hG code _ _ (fun a w'=>bodyPost P fn (eJ Q) .normal a w') (fun _ _ _=>False) (fun a w'=>bodyPost P fn (eJ Q) .normal a w') _ hz S4 rfl (fun e bp a' h1 h2 h3=>?_)
 ·exact calls_of_wp hf hb (wp_mono hwp fun e a w q=>by cases e<;>first | exact q | exact q.elim)
 ·have post:zo e=true->bodyPost P fn (eJ Q) .normal a' w:=by
   intro he
   unfold kP at h1
   rw [he] at h1
   simp only at h1
   split at h1<;>first | (cases h1;done) | skip
   rename_i us hvs
   cases h1
   obtain ⟨ds,ji,hrl⟩:=vl (P:=P) hc h2 hM hvs
   obtain ⟨sv,f7,hval⟩:=xB ji
   exact ⟨h3,_,ye hrl,O,ρ,sv,by rw [hval];rfl,f7,hM,.refl _ _ _ _⟩
  cases he:zo e with
  | true=>cases e<;>first | exact post he | cases he
  | false=>unfold kP at h1;rw [he] at h1;cases h1
end
end Go.Tw
