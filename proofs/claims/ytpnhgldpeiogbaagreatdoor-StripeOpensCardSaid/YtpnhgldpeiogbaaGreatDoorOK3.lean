/- The core: ideal values and the evaluator. -/
import Derived.Scope
import Derived.Test.YtpnhgldpeiogbaaGreatDoorOK2
namespace Go.Tw
set_option linter.unusedSimpArgs false
set_option linter.unusedVariables false
structure St where
 env:IEnv
 tb:Tbl
 df:List IV
structure Ev where
 c:Cfg
 n:Nat
 ct:Nat->List Ct
 ord:Nat->List (Tag×Nat)
 cd:Nat->List Ct
 al:Nat->Option Nat
 ms:Nat->Option (List (Option Tag×Nat×List Nat)):=fun _=>none
inductive Cl where
 | p
 | r
 | w
 | call
 | d
def clOf (c:Cfg):Op->Cl
 | .load _ _=>.r
 | .convert src dst _=>match c.D src,c.D dst with
  | some .string,some (.slice _)=>.w
  | some (.slice _),some (.slice _)=>.w
  | some (.slice _),some .string=>.r
  | _,_=>.p
 | .store _ _ _=>.w
 | .alloc _=>.w
 | .box _ _=>.w
 | .makeSlice _ _ _=>.w
 | .buildSlice _ _ _=>.w
 | .call cl=>match cl.callee with
  | .builtin .append=>.w
  | .builtin .copy=>.w
  | .builtin _=>.p
  | _=>.call
 | .defer _=>.d
 | .lookup _ _ _ _=>.r
 | .makeMap _ _=>.w
 | .mapUpdate _ _ _ _=>.w
 | .mapEntry _ _ _=>.w
 | .entryStore _ _ _ _=>.w
 | .range _ _=>.w
 | .entry _=>.w
 | _=>.p
def unch:IV->Option (List IV)
 | .un=>some []
 | .pr a b=>match unch b with
  | some l=>some (a :: l)
  | none=>none
 | _=>none
def iopds (c:Cfg) (il:IEnv):List Operand->Option (List IV)
 | []=>some []
 | x :: xs=>match iopd c il x,iopds c il xs with
  | some (.tu _),_=>none
  | some v,some vs=>some (v :: vs)
  | _,_=>none
def pickCt (vs:List IV) (tb:Tbl):List Ct->Option Ct
 | []=>none
 | [ct]=>some ct
 | ct :: r=>match uni true ct.A ct.T [] vs tb (fun _ _ _=>some ()) with
  | some _=>some ct
  | none=>pickCt vs tb r
def cOp {β:Type} (E:Ev) (il:IEnv) (tb:Tbl) (k:Option IV->Tbl->List Nat->Option β):Op->Option β
 | .call cl=>match cl.callee with
  | .value x=>match iopd E.c il x with
   | some (.fn f a cc)=>match unch a,iopds E.c il cl.args.toList,unch cc with
    | some l1,some l2,some l3=>match pickCt (l1 ++ (l2 ++ l3)) tb (E.ct f) with
     | some ct=>callF ct (l1 ++ (l2 ++ l3)) tb k
     | none=>none
    | _,_,_=>none
   | _=>none
  | _=>none
 | _=>none
def putE (E:Ev) (d:Option Nat) (v:IV) (il:IEnv):Option IEnv:=
 match d with
 | none=>some il
 | some d=>match Nat.blt d E.n with
  | true=>some ((d,v) :: il)
  | false=>none
def exec {β:Type} (E:Ev) (t:Tag) (o:Oper) (cr:List Nat) (st:St) (k:List Nat->St->Option β):Option β:=
 match clOf E.c o.op with
 | .p=>pOp E.c st.env st.tb (fun v=>match putE E o.dst v st.env with
  | some il=>k cr ⟨il,st.tb,st.df⟩
  | none=>none) o.op
 | .r=>match t,rIds E.c st.env o.op with
  | .p,_=>none
  | .c,some ids=>rOp E.c st.env st.tb (fun v=>match putE E o.dst v st.env with
   | some il=>k (ids ++ cr) ⟨il,st.tb,st.df⟩
   | none=>none) o.op
  | _,some _=>rOp E.c st.env st.tb (fun v=>match putE E o.dst v st.env with
   | some il=>k cr ⟨il,st.tb,st.df⟩
   | none=>none) o.op
  | _,none=>none
 | .w=>match t,apart (wIds E.c st.env o.op) cr with
  | .w,true=>wOp E.c st.env st.tb (fun v tb=>match v with
   | some v=>match putE E o.dst v st.env with
    | some il=>k cr ⟨il,tb,st.df⟩
    | none=>none
   | none=>match o.dst with
    | none=>k cr ⟨st.env,tb,st.df⟩
    | some _=>none) o.op
  | .b,_=>wOp E.c st.env st.tb (fun v tb=>match v with
   | some v=>match putE E o.dst v st.env with
    | some il=>k [] ⟨il,tb,st.df⟩
    | none=>none
   | none=>match o.dst with
    | none=>k [] ⟨st.env,tb,st.df⟩
    | some _=>none) o.op
  | _,_=>none
 | .call=>match t with
  | .w=>cOp E st.env st.tb (fun v tb mu=>match apart mu cr,v with
   | true,some v=>match putE E o.dst v st.env with
    | some il=>k cr ⟨il,tb,st.df⟩
    | none=>none
   | _,_=>none) o.op
  | .b=>cOp E st.env st.tb (fun v tb _=>match v with
   | some v=>match putE E o.dst v st.env with
    | some il=>k [] ⟨il,tb,st.df⟩
    | none=>none
   | none=>none) o.op
  | _=>none
 | .d=>match t,o.op,o.dst with
  | .w,.defer cl,none=>match cl.callee,cl.args.toList with
   | .value x,[]=>match iopd E.c st.env x with
    | some (.fn f a cc)=>k cr ⟨st.env,st.tb,.fn f a cc :: st.df⟩
    | _=>none
   | _,_=>none
  | _,_,_=>none
def stepL {β:Type} (E:Ev) (ops:List Oper) (t:Tag) (o:Oper) (cr:List Nat) (st:St) (k:List Nat->St->Option β):Option β:=
 match o.guard with
 | none=>exec E t o cr st k
 | some (j,want)=>match (nthO ops j).bind (·.dst) with
  | none=>none
  | some dj=>match geti st.env dj with
   | some (.o (.b g))=>match g with
    | true=>match want with
     | true=>exec E t o cr ⟨(dj,.o (.b true)) :: st.env,st.tb,st.df⟩ k
     | false=>match putE E o.dst (.tu .un) ((dj,.o (.b true)) :: st.env) with
      | some il=>k cr ⟨il,st.tb,st.df⟩
      | none=>none
    | false=>match want with
     | false=>exec E t o cr ⟨(dj,.o (.b false)) :: st.env,st.tb,st.df⟩ k
     | true=>match putE E o.dst (.tu .un) ((dj,.o (.b false)) :: st.env) with
      | some il=>k cr ⟨il,st.tb,st.df⟩
      | none=>none
   | some (.tu .un)=>match putE E o.dst (.tu .un) st.env with
    | some il=>k cr ⟨il,st.tb,st.df⟩
    | none=>none
   | _=>none
def evL {β:Type} (E:Ev) (ops:List Oper) (k:St->Option β):List (Tag×Oper)->List Nat->St->Option β
 | [],_,st=>k st
 | (t,o) :: L,cr,st=>stepL E ops t o cr st (evL E ops k L)
def cutAt (i:Nat):List (Tag×Nat)->Option (List (Tag×Nat)×List (Tag×Nat))
 | []=>none
 | (t,j) :: r=>match Nat.beq i j with
  | true=>match t with
   | .w=>some ([],r)
   | _=>none
  | false=>match cutAt i r with
   | some (x,y)=>some ((t,j) :: x,y)
   | none=>none
def chg (c:Cfg) (o:Op):Bool:=match clOf c o with
 | .w=>true
 | .call=>true
 | .d=>true
 | _=>false
def preOk (c:Cfg) (d:Nat):List (Tag×Oper)->Bool
 | []=>true
 | (t,o) :: r=>(match o.dst with
  | some d'=>!(Nat.beq d' d)
  | none=>true) && (match t with
  | .w=>chg c o.op && (match o.guard with
   | none=>true
   | some _=>false)
  | _=>true) && preOk c d r
def alOp (o:Oper):Option (Nat×Nat):=match o.op,o.dst,o.guard with
 | .alloc t,some d,none=>some (t,d)
 | _,_,_=>none
def early (E:Ev) (ops:List Oper) (π:List (Tag×Nat)) (ia:Nat) (st:St):Bool:=
 match nthO ops ia,cutAt ia π with
 | some oa,some (x,y)=>match alOp oa,pick ops x with
  | some (t,d),some L=>match E.c.I t,geti st.env d with
   | some _,none=>Nat.blt d E.n && preOk E.c d L
   | _,_=>false
  | _,_=>false
 | _,_=>false
def numP (t:Ty):Nat->List (Nat×IV)->Option (List t.den)
 | _,[]=>some []
 | q,(i,u) :: r=>match Nat.beq i q,toP t u,numP t (q + 1) r with
  | true,some x,some xs=>some (x :: xs)
  | _,_,_=>none
def frV (c:Cfg) (il:IEnv):Op->Option Thing
 | .alloc t=>match c.I t with
  | some v=>some (.blk t v)
  | none=>none
 | .makeSlice ty x y=>match c.D ty with
  | some (.slice e)=>match c.E e,iopd c il x,iopd c il y with
   | some t,some (.o (.i i)),some (.o (.i j))=>match gmake t.zero i j with
    | some xs=>some (.row e t xs)
    | none=>none
   | _,_,_=>none
  | _=>none
 | .buildSlice ty len ps=>match c.D ty with
  | some (.slice e)=>match c.E e,iparts c il ps.toList with
   | some t,some vs=>match Nat.beq vs.length len,Nat.ble (len * t.size) 16777216,numP t 0 vs with
    | true,true,some xs=>some (.row e t xs)
    | _,_,_=>none
   | _,_=>none
  | _=>none
 | _=>none
def ivF (n:Nat):Thing->IV
 | .blk _ _=>.pt n []
 | _=>.rw n
abbrev Itm:=Option Tag×Nat×List Nat
def frOp (o:Oper):Option Nat:=match o.guard,o.dst with
 | none,some d=>some d
 | _,_=>none
def usesF:Op->List Operand
 | .makeSlice _ x y=>[x,y]
 | .buildSlice _ _ ps=>ps.toList.map (·.2)
 | _=>[]
def slotOf:Operand->Option Nat
 | .tmp t=>some t
 | _=>none
def noSlot (d:Nat) (l:List Operand):Bool:=l.all fun x=>match slotOf x with
 | some t=>!(Nat.beq d t)
 | none=>true
def frB (E:Ev) (il:IEnv) (ops:List Oper) (j:Nat):Bool:=match nthO ops j with
 | some o=>match frOp o,frV E.c il o.op with
  | some d,some _=>match geti il d with
   | none=>Nat.blt d E.n && noSlot d (usesF o.op)
   | some _=>false
  | _,_=>false
 | none=>false
def allB (f:Nat->Bool):List Nat->Bool
 | []=>true
 | x :: r=>f x && allB f r
theorem allB_mem {f:Nat->Bool}:∀ {l:List Nat},allB f l=true->∀ j ∈ l,f j=true
 | [],_,j,h=>by cases h
 | x :: l,h,j,hj=>by
  simp only [allB,Bool.and_eq_true] at h
  rcases List.mem_cons.1 hj with rfl | hj
  ·exact h.1
  ·exact allB_mem h.2 j hj
def noG (o:Oper):Bool:=match o.guard with
 | none=>true
 | some _=>false
def evM {β:Type} (E:Ev) (ops:List Oper) (k:St->Option β):List Itm->List Nat->St->Option β
 | [],_,st=>k st
 | (t,i,fs) :: L,cr,st=>match nthO ops i,allB (frB E st.env ops) fs with
  | some o,true=>match isNil fs || (chg E.c o.op && noG o) with
   | false=>none
   | true=>match t with
    | some t=>stepL E ops t o cr st (evM E ops k L)
    | none=>match frOp o,frV E.c st.env o.op with
     | some d,some th=>match Nat.blt d E.n with
      | true=>evM E ops k L cr ⟨(d,ivF st.tb.length th) :: st.env,st.tb ++ [th],st.df⟩
      | false=>none
     | _,_=>none
  | _,_=>none
def evR {β:Type} (E:Ev) (id:Nat) (ops:List Oper) (draw:Bool) (st:St) (k:St->Option β):Option β:=
 match draw with
 | false=>evL E ops k (allW ops) [] st
 | true=>match E.ms id with
   | some π=>evM E ops k π [] st
   | none=>match pick ops (E.ord id) with
  | some L=>match E.al id with
   | none=>evL E ops k L [] st
   | some ia=>match early E ops (E.ord id) ia st with
    | true=>evL E ops k L [] st
    | false=>none
  | none=>none
def Sx (P:Program) (ops:Array Oper):(World->Prop)->(Act->World->Prop)->List (Tag×Oper)->Act->World->Prop
 | _,K,[],a,w=>K a w
 | C,K,(.p,o) :: r,a,w=>∃ v,(∀ w,YAt P ops w o v a)∧Sx P ops C K r (a.put o.dst v) w
 | C,K,(.r,o) :: r,a,w=>∃ v,YAt P ops w o v a∧Sx P ops C K r (a.put o.dst v) w
 | C,K,(.c,o) :: r,a,w=>∃ v,(∀ w,C w->YAt P ops w o v a)∧Sx P ops C K r (a.put o.dst v) w
 | C,K,(.w,o) :: r,a,w=>opO P ops (QL K (fun _ _ _=>False) (fun _ _=>False)) o (fun a w=>∃ C':World->Prop,(∀ w,C' w->C w)∧C' w∧Sx P ops C' K r a w) a w
 | C,K,(.b,o) :: r,a,w=>opO P ops (QL K (fun _ _ _=>False) (fun _ _=>False)) o (fun a w=>∃ C':World->Prop,C' w∧Sx P ops C' K r a w) a w
def StepX (P:Program) (ops:Array Oper) (K:Act->World->Prop) (S:(World->Prop)->Act->World->Prop) (C:World->Prop):Tag->Oper->Act->World->Prop
 | .p,o,a,w=>∃ v,(∀ w,YAt P ops w o v a)∧S C (a.put o.dst v) w
 | .r,o,a,w=>∃ v,YAt P ops w o v a∧S C (a.put o.dst v) w
 | .c,o,a,w=>∃ v,(∀ w,C w->YAt P ops w o v a)∧S C (a.put o.dst v) w
 | .w,o,a,w=>opO P ops (QL K (fun _ _ _=>False) (fun _ _=>False)) o (fun a w=>∃ C':World->Prop,(∀ w,C' w->C w)∧C' w∧S C' a w) a w
 | .b,o,a,w=>opO P ops (QL K (fun _ _ _=>False) (fun _ _=>False)) o (fun a w=>∃ C':World->Prop,C' w∧S C' a w) a w
theorem StepX.sx {P:Program} {ops:Array Oper} {K:Act->World->Prop} {C:World->Prop} {t:Tag} {o:Oper} {L:List (Tag×Oper)} {a:Act} {w:World} (h:StepX P ops K (fun C a w=>Sx P ops C K L a w) C t o a w):Sx P ops C K ((t,o) :: L) a w:=by
 cases t<;>exact h
theorem stepx_value {P:Program} {K:Act->World->Prop} {S:(World->Prop)->Act->World->Prop} {a:Act} {w:World} {C:World->Prop} {ops:Array Oper} {t:Tag} {o:Oper} {v:Value} (hC:C w) (hy:∀ w,YAt P ops w o v a) (k:S C (a.put o.dst v) w):StepX P ops K S C t o a w:=by
 cases t with
 | p=>exact ⟨v,hy,k⟩
 | r=>exact ⟨v,hy w,k⟩
 | c=>exact ⟨v,fun w _=>hy w,k⟩
 | w=>exact (hy w).upon (K:=fun a w=>∃ C':World->Prop,(∀ w,C' w->C w)∧C' w∧S C' a w) ⟨C,fun _ h=>h,hC,k⟩
 | b=>exact (hy w).upon (K:=fun a w=>∃ C':World->Prop,C' w∧S C' a w) ⟨C,hC,k⟩
def SxP (P:Program) (ops:Array Oper) (K:Act->World->Prop) (oa:Oper) (post:List (Tag×Oper)):List (Tag×Oper)->(World->Prop)->Act->World->Prop
 | [],C,a,w=>Sx P ops C K ((.w,oa) :: post) a w
 | (t,o) :: r,C,a,w=>StepX P ops K (SxP P ops K oa post r) C t o a w ∧
  (t=.w->opO P ops (QL K (fun _ _ _=>False) (fun _ _=>False)) oa (fun a w=>∃ C':World->Prop,(∀ w,C' w->C w)∧C' w∧Sx P ops C' K ((t,o) :: r ++ post) a w) a w)
def SxN (P:Program) (ops:Array Oper) (K:Act->World->Prop) (L:List (Tag×Oper)) (C:World->Prop) (a:Act) (w:World):Prop:=∃ C':World->Prop,(∀ w,C' w->C w)∧C' w∧Sx P ops C' K L a w
theorem StepX.sxn {P:Program} {ops:Array Oper} {K:Act->World->Prop} {C:World->Prop} {t:Tag} {o:Oper} {L:List (Tag×Oper)} {a:Act} {w:World} (hC:C w) (h:StepX P ops K (SxN P ops K L) C t o a w):SxN P ops K ((t,o) :: L) C a w:=by
 cases t with
 | p=>obtain ⟨v,h1,C',h2,h3,h4⟩:=h;exact ⟨C',h2,h3,v,h1,h4⟩
 | r=>obtain ⟨v,h1,C',h2,h3,h4⟩:=h;exact ⟨C',h2,h3,v,h1,h4⟩
 | c=>obtain ⟨v,h1,C',h2,h3,h4⟩:=h;exact ⟨C',h2,h3,v,fun w hw=>h1 w (h2 w hw),h4⟩
 | w=>
  refine ⟨C,fun _ h=>h,hC,?_⟩
  simp only [StepX,opO] at h
  simp only [Sx,opO]
  split
  ·rename_i hw
   rw [if_pos hw] at h
   exact Oper.wp_mono (fun a w ⟨C',h1,h2,C2,h3,h4,h5⟩=>⟨C2,fun w hw=>h1 w (h3 w hw),h4,h5⟩) h
  ·rename_i hw
   rw [if_neg hw] at h
   obtain ⟨C',h1,h2,C2,h3,h4,h5⟩:=h
   exact ⟨C2,fun w hw=>h1 w (h3 w hw),h4,h5⟩
 | b=>
  refine ⟨C,fun _ h=>h,hC,?_⟩
  simp only [StepX,opO] at h
  simp only [Sx,opO]
  split
  ·rename_i hw
   rw [if_pos hw] at h
   exact Oper.wp_mono (fun a w ⟨C',h2,C2,h3,h4,h5⟩=>⟨C2,h4,h5⟩) h
  ·rename_i hw
   rw [if_neg hw] at h
   obtain ⟨C',h2,C2,h3,h4,h5⟩:=h
   exact ⟨C2,h4,h5⟩
theorem sx_plain {P:Program} {ops:Array Oper} {K:Act->World->Prop}:∀ (C:World->Prop) (l:List Oper) (a:Act) (w:World),Sx P ops C K (allW l) a w->wpList P ops (Qn K) l a w
 | _,[],_,_,h=>h
 | C,o :: l,a,w,h=>by
  simp only [allW,Sx,opO] at h
  unfold wpList
  split
  ·rename_i hw
   rw [if_pos hw] at h
   exact .inl (Oper.wp_mono (fun a w ⟨C',_,_,h⟩=>sx_plain C' l a w h) h)
  ·rename_i hw
   rw [if_neg hw] at h
   obtain ⟨C',_,_,h⟩:=h
   exact sx_plain C' l _ _ h
theorem AnyC.wide {P:Program} {ops:Array Oper} {C C':Array Bool->World->Prop} {K:Act->World->Prop} {Z:Nat->Bool} (hC:∀ L w,C' L w->C L w):∀ {fuel:Nat} {listed:Array Bool} {a:Act} {w:World},AnyC P ops C' Z K fuel listed a w->AnyC P ops C Z K fuel listed a w
 | 0,_,_,_,h=>⟨hC _ _ h.1,h.2.1,h.2.2⟩
 | _ + 1,_,_,_,h=>⟨hC _ _ h.1,h.2.1,fun i hi=>wpOp_mono (fun _ _ h=>⟨h.1,AnyC.wide hC h.2⟩) (h.2.2 i hi)⟩
theorem getD_set_up {L:Array Bool} {i k:Nat} (h:L.getD i false=true):(L.setIfInBounds k true).getD i false=true:=by
 by_cases hki:k=i
 ·subst hki
  rcases Nat.lt_or_ge k L.size with h' | h'
  ·simp [h']
  ·simp [Array.getElem?_eq_none h'] at h
 ·rw [getD_set_ne false hki];exact h
theorem AnyC.wideB {P:Program} {ops:Array Oper} {C C':Array Bool->World->Prop} {K:Act->World->Prop} {Z:Nat->Bool} {i0:Nat} (hC:∀ L w,L.getD i0 false=true->C' L w->C L w):∀ {fuel:Nat} {listed:Array Bool} {a:Act} {w:World},listed.getD i0 false=true->AnyC P ops C' Z K fuel listed a w->AnyC P ops C Z K fuel listed a w
 | 0,_,_,_,hl,h=>⟨hC _ _ hl h.1,h.2.1,h.2.2⟩
 | _ + 1,_,_,_,hl,h=>⟨hC _ _ hl h.1,h.2.1,fun i hi=>wpOp_mono (fun _ _ h=>⟨h.1,AnyC.wideB hC (getD_set_up hl) h.2⟩) (h.2.2 i hi)⟩
def CB (π:List (Tag×Nat)) (C:World->Prop) (L:Array Bool) (w:World):Prop:=(∀ i,(Tag.b,i) ∈ π->L.getD i false=false)->C w
theorem CB.cons {π:List (Tag×Nat)} {C C':World->Prop} {x:Tag×Nat} (hC:∀ w,C' w->C w):∀ L w,CB π C' L w->CB (x :: π) C L w:=fun L w h hb=>hC w (h fun i hi=>hb i (List.mem_cons_of_mem _ hi))
theorem CB.mono {π:List (Tag×Nat)} {C C':World->Prop} (hC:∀ w,C' w->C w):∀ L w,CB π C' L w->CB π C L w:=fun L w h hb=>hC w (h hb)
theorem CB.down {π:List (Tag×Nat)} {C:World->Prop} {Z:Nat->Bool} {i:Nat} (hz:Z i=true) (hZ:∀ t k,(t,k) ∈ π->t=.w∨t=.b->Z k=false):∀ L w,CB π C (L.setIfInBounds i true) w->CB π C L w:=fun L w h hb=>h fun k hk=>by
 have hne:i ≠ k:=fun e=>by
  have:=hZ .b k hk (.inr rfl)
  rw [← e,hz] at this
  cases this
 rw [getD_set_ne false hne];exact hb k hk
theorem first_c {P:Program} {K:Act->World->Prop} {l:List Oper} {Z:Nat->Bool} {π:List (Tag×Nat)} {C:World->Prop} {i:Nat} {o:Oper} {v:Value} {fuel:Nat} {listed:Array Bool} {a:Act} {w:World} (hsel:Region.noSelect l.toArray=true) (hi:l.toArray[i]? = some o) (hf:Region.free .any l.toArray listed i=true) (hz:Z i=true) (hZ:∀ t k,(t,k) ∈ (Tag.c,i) :: π->t=.w∨t=.b->Z k=false) (hB:cOkB l.toArray listed i π=true)
  (hr:i ∈ Region.ready .any l.toArray listed) (hC:C w) (hy:∀ w,C w->YAt P l.toArray w o v a) (H:AnyC P l.toArray (CB π C) Z K fuel (listed.setIfInBounds i true) (a.put o.dst v) w):AnyC P l.toArray (CB ((.c,i) :: π) C) Z K (fuel + 1) listed a w:=by
 have H':=AnyC.wide (CB.cons (x:=(.c,i)) (fun _ h=>h)) H
 simp only [cOkB,Bool.or_eq_true,Bool.and_eq_true] at hB
 rcases hB with hB | ⟨⟨hl,hl2⟩,hl3⟩
 ·refine first_op (C':=C) (D:=fun _=>False) hi (Region.noSelect_spec hsel) (fun _ _ h=>h.elim) (CB.down hz hZ) fuel listed a w (Region.free_spec hi hf) (fun _ h=>h.elim) (fun _ _ _ _ _ _ L _ w' _ _ h _=>h fun k hk=>?_) hr hC hy H'
  rcases List.mem_cons.1 hk with hk | hk
  ·cases hk
  ·have:=List.all_eq_true.1 hB _ hk
   simp at this
 ·refine first_op (C':=C) (D:=fun j=>j ∈ lateOf l.toArray i) hi (Region.noSelect_spec hsel) ?_ (CB.down hz hZ) fuel listed a w (Region.free_spec hi hf) ?_ (fun _ _ _ _ _ _ L _ w' hL _ h _=>h fun k hk=>?_) hr hC hy H'
  ·intro j oj hj hoj
   have:=List.all_eq_true.1 hl j hj
   simp only [hoj] at this
   obtain ⟨e,he,hb⟩:=Array.any_eq_true'.1 this
   simp only [Bool.and_eq_true,Bool.or_eq_true,beq_iff_eq,List.contains_iff_mem] at hb
   exact ⟨e,he,hb.1,hb.2⟩
  ·intro j hj
   have:=List.all_eq_true.1 hl2 j hj
   simpa using this
  ·rcases List.mem_cons.1 hk with hk | hk
   ·cases hk
   ·have:=List.all_eq_true.1 hl3 _ hk
    simp at this
    exact hL k this
theorem any_of_sx {P:Program} {K:Act->World->Prop} {l:List Oper} {Z:Nat->Bool} (hsel:Region.noSelect l.toArray=true):∀ (π:List (Tag×Nat)) (C:World->Prop) (L:List (Tag×Oper)) (listed:Array Bool) (a:Act) (w:World),pick l π=some L->(∀ t i,(t,i) ∈ π->t=.w∨t=.b->Z i=false) ->
  okOrd l.toArray Z π listed=true->C w->Sx P l.toArray C K L a w->AnyC P l.toArray (CB π C) Z K π.length listed a w
 | [],C,L,listed,a,w,hp,_,hB,hC,h=>by
  simp only [pick,Option.some.injEq] at hp
  subst hp
  exact ⟨fun _=>hC,by simpa [okOrd] using hB,h⟩
 | (t,i) :: π,C,L,listed,a,w,hp,hZ,hB,hC,h=>by
  simp only [pick] at hp
  split at hp
  case h_2=>cases hp
  rename_i o os ho hos
  simp only [Option.some.injEq] at hp
  subst hp
  have hi:l.toArray[i]? = some o:=by rw [← nthO_eq];exact ho
  simp only [okOrd,Bool.and_eq_true] at hB
  obtain ⟨⟨hr,ht⟩,hB'⟩:=hB
  have hr':i ∈ Region.ready .any l.toArray listed:=by simpa using hr
  have hZ':∀ t i,(t,i) ∈ π->t=.w∨t=.b->Z i=false:=fun t i hm=>hZ t i (List.mem_cons_of_mem _ hm)
  cases t with
  | w=>
   simp only [Sx,opO] at h
   refine ⟨fun _=>hC,fun h0=>(by rw [h0] at hr';cases hr'),fun j hj=>?_⟩
   have hlen:(Region.ready .any l.toArray listed).length=1:=by simpa using ht
   obtain ⟨x,hx⟩:=List.length_eq_one_iff.1 hlen
   rw [hx] at hr' hj
   have hji:j=i:=by simp at hr' hj;omega
   subst hji
   have hzf:Z j=false:=hZ .w j (List.mem_cons_self ..) (.inl rfl)
   unfold wpOp
   simp only [hi]
   split
   ·rename_i hw
    rw [if_pos hw] at h
    exact .inl (Oper.wp_mono (fun a' w' ⟨C',h1,h2,h3⟩=>⟨fun e=>by simp [hzf] at e,AnyC.wide (CB.cons h1) (any_of_sx hsel π C' os _ a' w' hos hZ' hB' h2 h3)⟩) h)
   ·rename_i hw
    rw [if_neg hw] at h
    obtain ⟨C',h1,h2,h3⟩:=h
    exact ⟨fun e=>by simp [hzf] at e,AnyC.wide (CB.cons h1) (any_of_sx hsel π C' os _ _ _ hos hZ' hB' h2 h3)⟩
  | b=>
   simp only [Sx,opO] at h
   refine ⟨fun _=>hC,fun h0=>(by rw [h0] at hr';cases hr'),fun j hj=>?_⟩
   have hlen:(Region.ready .any l.toArray listed).length=1:=by simpa using ht
   obtain ⟨x,hx⟩:=List.length_eq_one_iff.1 hlen
   rw [hx] at hr' hj
   have hji:j=i:=by simp at hr' hj;omega
   subst hji
   have hzf:Z j=false:=hZ .b j (List.mem_cons_self ..) (.inr rfl)
   have hset:(listed.setIfInBounds j true).getD j false=true:=by
    have hun:=(mem_ready.1 (hx ▸ hr')).1
    rcases Nat.lt_or_ge j listed.size with h' | h'
    ·simp [h']
    ·simp [Array.getElem?_eq_none h'] at hun
   have hup:∀ {C':World->Prop} (L:Array Bool) (w:World),L.getD j false=true->CB π C' L w->CB ((.b,j) :: π) C L w:=fun L w hl _ hb=>by
    have:=hb j (List.mem_cons_self ..)
    rw [hl] at this
    cases this
   unfold wpOp
   simp only [hi]
   split
   ·rename_i hw
    rw [if_pos hw] at h
    exact .inl (Oper.wp_mono (fun a' w' ⟨C',h2,h3⟩=>⟨fun e=>by simp [hzf] at e,AnyC.wideB hup hset (any_of_sx hsel π C' os _ a' w' hos hZ' hB' h2 h3)⟩) h)
   ·rename_i hw
    rw [if_neg hw] at h
    obtain ⟨C',h2,h3⟩:=h
    exact ⟨fun e=>by simp [hzf] at e,AnyC.wideB hup hset (any_of_sx hsel π C' os _ _ _ hos hZ' hB' h2 h3)⟩
  | p=>
   simp only [Sx] at h
   obtain ⟨v,hy,h⟩:=h
   simp only [Bool.and_eq_true] at ht
   exact first_op (C':=fun _=>True) (D:=fun _=>False) hi (Region.noSelect_spec hsel) (fun _ _ h=>h.elim) (CB.down ht.2 hZ) π.length listed a w (Region.free_spec hi ht.1) (fun _ h=>h.elim) (fun _ _ _ _ _ _ _ _ _ _ _ _ _=>trivial) hr' trivial (fun w _=>hy w)
    (AnyC.wide (CB.cons (fun _ h=>h)) (any_of_sx hsel π C os _ _ _ hos hZ' hB' hC h))
  | c=>
   simp only [Sx] at h
   obtain ⟨v,hy,h⟩:=h
   simp only [Bool.and_eq_true] at ht
   exact first_c hsel hi ht.1.1 ht.1.2 hZ ht.2 hr' hC hy (any_of_sx hsel π C os _ _ _ hos hZ' hB' hC h)
  | r=>
   simp only [Sx] at h
   obtain ⟨v,hy,h⟩:=h
   simp only [Bool.and_eq_true] at ht
   obtain ⟨⟨⟨⟨hf,hz⟩,hl⟩,hl2⟩,hl3⟩:=ht
   refine first_op (C':=fun w'=>w'=w) (D:=fun j=>j ∈ lateOf l.toArray i) hi (Region.noSelect_spec hsel) ?_ (CB.down hz hZ) π.length listed a w (Region.free_spec hi hf) ?_ ?_ hr' rfl (fun w' e=>by rw [e];exact hy)
    (AnyC.wide (CB.cons (fun _ h=>h)) (any_of_sx hsel π C os _ _ _ hos hZ' hB' hC h))
   ·intro j oj hj hoj
    have:=List.all_eq_true.1 hl j hj
    simp only [hoj] at this
    obtain ⟨e,he,hb⟩:=Array.any_eq_true'.1 this
    simp only [Bool.and_eq_true,Bool.or_eq_true,beq_iff_eq,List.contains_iff_mem] at hb
    exact ⟨e,he,hb.1,hb.2⟩
   ·intro j hj
    have:=List.all_eq_true.1 hl2 j hj
    simpa using this
   ·intro j oj hoj hji hjD hun _ w1 w2 _ hz12 _ e
    have:=List.all_eq_true.1 hl3 j (List.mem_range.2 (Array.getElem?_eq_some_iff.1 hoj).1)
    simp only [Bool.or_eq_true,beq_iff_eq,List.contains_iff_mem,hji,hjD,hun,Bool.false_eq_true,false_or] at this
    rw [hz12 this,e]
def okP (ops:Array Oper) (Z:Nat->Bool) (ia:Nat) (post:List (Tag×Nat)):List (Tag×Nat)->Array Bool->Bool
 | [],listed=>okOrd ops Z ((.w,ia) :: post) listed
 | (t,i) :: r,listed=>
  (Region.ready .any ops listed).contains i &&
  (match t with
     | .w=>(Region.ready .any ops listed).all (fun j=>j == i || j == ia) && okOrd ops Z ((t,i) :: r ++ post) (listed.setIfInBounds ia true)
     | .c=>Region.free .any ops listed i && Z i && cOkB ops listed i (r ++ post)
     | .p=>Region.free .any ops listed i && Z i
     | .b=>false
     | .r=>false) &&
  okP ops Z ia post r (listed.setIfInBounds i true)
theorem pick_app {l:List Oper}:∀ {x y:List (Tag×Nat)} {X Y:List (Tag×Oper)},pick l x=some X->pick l y=some Y->pick l (x ++ y)=some (X ++ Y)
 | [],y,X,Y,h1,h2=>by simp only [pick,Option.some.injEq] at h1;subst h1;exact h2
 | (t,i) :: x,y,X,Y,h1,h2=>by
  simp only [pick] at h1
  split at h1
  case h_2=>cases h1
  rename_i o os ho hos
  cases h1
  simp only [List.cons_append,pick,ho,pick_app hos h2]
theorem any_of_sxp {P:Program} {K:Act->World->Prop} {l:List Oper} {Z:Nat->Bool} {ia:Nat} {oa:Oper} (hsel:Region.noSelect l.toArray=true) (hia:nthO l ia=some oa) (hza:Z ia=false) {post:List (Tag×Nat)} {Lp:List (Tag×Oper)} (hpost:pick l post=some Lp):∀ (π:List (Tag×Nat)) (C:World->Prop) (L:List (Tag×Oper)) (listed:Array Bool) (a:Act) (w:World),pick l π=some L->(∀ t i,(t,i) ∈ π ++ post->t=.w∨t=.b->Z i=false) ->
  okP l.toArray Z ia post π listed=true->C w->SxP P l.toArray K oa Lp L C a w->AnyC P l.toArray (CB (π ++ post) C) Z K (π.length + 1 + post.length) listed a w
 | [],C,L,listed,a,w,hp,hZ,hB,hC,h=>by
  simp only [pick,Option.some.injEq] at hp
  subst hp
  have:=any_of_sx hsel ((.w,ia) :: post) C ((.w,oa) :: Lp) listed a w (by simp [pick,hia,hpost]) (fun t i hm ht=>by
   rcases List.mem_cons.1 hm with hm | hm
   ·cases hm;exact hza
   ·exact hZ t i (by simpa using hm) ht) hB hC h
  have:=AnyC.wide (C:=CB ([] ++ post) C) (fun L w h hb=>h fun i hi=>by
   rcases List.mem_cons.1 hi with hi | hi
   ·cases hi
   ·exact hb i (by simpa using hi)) this
  simpa [Nat.add_comm] using this
 | (t,i) :: π,C,L,listed,a,w,hp,hZ,hB,hC,h=>by
  simp only [pick] at hp
  split at hp
  case h_2=>cases hp
  rename_i o os ho hos
  simp only [Option.some.injEq] at hp
  subst hp
  have hi:l.toArray[i]? = some o:=by rw [← nthO_eq];exact ho
  have hia':l.toArray[ia]? = some oa:=by rw [← nthO_eq];exact hia
  simp only [okP,Bool.and_eq_true] at hB
  obtain ⟨⟨hr,ht⟩,hB'⟩:=hB
  have hr':i ∈ Region.ready .any l.toArray listed:=by simpa using hr
  have hZ':∀ t i,(t,i) ∈ π ++ post->t=.w∨t=.b->Z i=false:=fun t i hm=>hZ t i (List.mem_cons_of_mem _ hm)
  have ih:=any_of_sxp (P:=P) (K:=K) hsel hia hza hpost π
  obtain ⟨h,halt⟩:=h
  have hlen:((t,i) :: π).length + 1 + post.length=(π.length + 1 + post.length) + 1:=by simp;omega
  rw [hlen]
  cases t with
  | w=>
   simp only [StepX,opO] at h
   have halt:=halt rfl
   simp only [opO] at halt
   simp only [Bool.and_eq_true] at ht
   refine ⟨fun _=>hC,fun h0=>(by rw [h0] at hr';cases hr'),fun j hj=>?_⟩
   have hj2:=List.all_eq_true.1 ht.1 j hj
   simp only [Bool.or_eq_true,beq_iff_eq] at hj2
   by_cases hji:j=i
   ·subst hji
    have hzf:Z j=false:=hZ .w j (List.mem_cons_self ..) (.inl rfl)
    unfold wpOp
    simp only [hi]
    split
    ·rename_i hw
     rw [if_pos hw] at h
     exact .inl (Oper.wp_mono (fun a' w' ⟨C',h1,h2,h3⟩=>⟨fun e=>by simp [hzf] at e,AnyC.wide (CB.cons h1) (ih C' os _ a' w' hos hZ' hB' h2 h3)⟩) h)
    ·rename_i hw
     rw [if_neg hw] at h
     obtain ⟨C',h1,h2,h3⟩:=h
     exact ⟨fun e=>by simp [hzf] at e,AnyC.wide (CB.cons h1) (ih C' os _ _ _ hos hZ' hB' h2 h3)⟩
   ·have hja:j=ia:=by rcases hj2 with h' | h';exact absurd h' hji;exact h'
    subst hja
    have go:∀ C' a' w',C' w'->Sx P l.toArray C' K ((.w,o) :: os ++ Lp) a' w'->AnyC P l.toArray (CB ((.w,i) :: π ++ post) C') Z K (π.length + 1 + post.length) (listed.setIfInBounds j true) a' w':=fun C' a' w' h2 h3=>by
     have:=any_of_sx hsel ((.w,i) :: π ++ post) C' ((.w,o) :: os ++ Lp) (listed.setIfInBounds j true) a' w' (pick_app (x:=(.w,i) :: π) (X:=(.w,o) :: os) (by simp [pick,ho,hos]) hpost) (fun t k hm ht=>hZ t k (by simpa using hm) ht) ht.2 h2 h3
     have e:((Tag.w,i) :: π ++ post).length=π.length + 1 + post.length:=by simp;omega
     rw [e] at this
     exact this
    unfold wpOp
    simp only [hia']
    split
    ·rename_i hw
     rw [if_pos hw] at halt
     exact .inl (Oper.wp_mono (fun a' w' ⟨C',h1,h2,h3⟩=>⟨fun e=>by simp [hza] at e,AnyC.wide (CB.mono h1) (go C' a' w' h2 h3)⟩) halt)
    ·rename_i hw
     rw [if_neg hw] at halt
     obtain ⟨C',h1,h2,h3⟩:=halt
     exact ⟨fun e=>by simp [hza] at e,AnyC.wide (CB.mono h1) (go C' _ _ h2 h3)⟩
  | p=>
   obtain ⟨v,hy,h⟩:=h
   simp only [Bool.and_eq_true] at ht
   exact first_op (C':=fun _=>True) (D:=fun _=>False) hi (Region.noSelect_spec hsel) (fun _ _ h=>h.elim) (CB.down ht.2 hZ) _ listed a w (Region.free_spec hi ht.1) (fun _ h=>h.elim) (fun _ _ _ _ _ _ _ _ _ _ _ _ _=>trivial) hr' trivial (fun w _=>hy w)
    (AnyC.wide (CB.cons (fun _ h=>h)) (ih C os _ _ _ hos hZ' hB' hC h))
  | c=>
   obtain ⟨v,hy,h⟩:=h
   simp only [Bool.and_eq_true] at ht
   exact first_c hsel hi ht.1.1 ht.1.2 hZ ht.2 hr' hC hy (ih C os _ _ _ hos hZ' hB' hC h)
  | b=>cases ht
  | r=>cases ht
def okAllP (l:List Oper) (ia:Nat) (x y:List (Tag×Nat)):Bool:=
 Region.noSelect l.toArray && (x.length + 1 + y.length == l.length) && okP l.toArray (fun j=>!isW (x ++ (.w,ia) :: y) j) ia y x (Array.replicate l.length false)
theorem isW_app {t0:Tag} (h0:t0=.w∨t0=.b) {x y:List (Tag×Nat)} {i j:Nat} (h:(t0,i) ∈ x ++ y):isW (x ++ (.w,j) :: y) i=true:=by
 refine isW_of h0 _ _ ?_
 rcases List.mem_append.1 h with h | h
 ·exact List.mem_append_left _ h
 ·exact List.mem_append_right _ (List.mem_cons_of_mem _ h)
theorem a_drawP {P:Program} {K:Act->World->Prop} {l:List Oper} (x y:List (Tag×Nat)) {ia:Nat} {oa:Oper} {Lx Ly:List (Tag×Oper)} {a:Act} {w:World} (C:World->Prop) (hB:okAllP l ia x y=true)
  (hia:nthO l ia=some oa) (hx:pick l x=some Lx) (hy:pick l y=some Ly) (hC:C { w with drawn:=w.drawn + 1 }) (h:SxP P l.toArray K oa Ly Lx C a { w with drawn:=w.drawn + 1 }):wpAny P .any l.toArray (Qn K) l.toArray.size (Array.replicate l.toArray.size false) a { w with drawn:=w.drawn + 1 }:=by
 simp only [okAllP,Bool.and_eq_true,beq_iff_eq] at hB
 obtain ⟨⟨hs,hl⟩,ho⟩:=hB
 have hza:(fun j=>!isW (x ++ (.w,ia) :: y) j) ia=false:=by
  have:isW (x ++ (.w,ia) :: y) ia=true:=isW_of (.inl rfl) _ _ (List.mem_append_right _ (List.mem_cons_self ..))
  simp [this]
 have:=(any_of_sxp hs hia hza hy x C Lx _ a _ hx (fun t i hm ht=>by simp [isW_app ht hm]) ho hC h).any
 rw [hl] at this
 simpa using this
theorem a_drawX {P:Program} {K:Act->World->Prop} {l:List Oper} (π:List (Tag×Nat)) {L:List (Tag×Oper)} {a:Act} {w:World} (C:World->Prop) (hB:okAll l π=true)
  (hp:pick l π=some L) (hC:C { w with drawn:=w.drawn + 1 }) (h:Sx P l.toArray C K L a { w with drawn:=w.drawn + 1 }):wpAny P .any l.toArray (Qn K) l.toArray.size (Array.replicate l.toArray.size false) a { w with drawn:=w.drawn + 1 }:=by
 simp only [okAll,Bool.and_eq_true,beq_iff_eq] at hB
 obtain ⟨⟨hs,hl⟩,ho⟩:=hB
 have:=(any_of_sx hs π C L _ a _ hp (fun t i hm ht=>by simp [isW_of ht π i hm]) ho hC h).any
 rw [hl] at this
 simpa using this
section
variable {P:Program}
def CtsOk (P:Program) (E:Ev):Prop:=(∀ f ct,ct ∈ E.ct f->Sound P E.c f ct∧∃ fn,P.funcs[f]? = some fn∧fn.body.isSome=true∧(fn.name == "runtime.NumGoroutine")=false) ∧
 ∀ f ct,ct ∈ E.cd f->SoundK P E.c true f ct∧∃ fn,P.funcs[f]? = some fn∧fn.body.isSome=true∧(fn.name == "runtime.NumGoroutine")=false
def FS (n:Nat) (a:Act) (st:St) (O:Own) (ρ:List Hd):Prop:=FI n a st.env O ρ∧DR O ρ st.df a.defers
def Cls (CR:List Nat) (O:Own) (w w':World):Prop:=Kept (fun b=>O b=.no∨∃ id,id ∉ CR∧O b=.th id) w w'
structure Stq (M:Nat->Prop) (O:Own) (ρ:List Hd) (w:World) (O':Own) (ρ':List Hd) (w':World):Prop where
 pre:Pre ρ ρ'
 im:O.le O'
 own:∀ b id,b < w.heap.size->O b=.th id->¬ M id->O' b=.th id
 kept:Kept (fun b=>O b=.no∨∃ id,M id∧O b=.th id) w w'
theorem Stp.q {M:Nat->Prop} {O O':Own} {ρ ρ':List Hd} {w w':World} (h:Stp M O ρ w O' ρ' w'):Stq M O ρ w O' ρ' w':=
 ⟨h.pre,h.im,h.own,h.kept.wide (fun _ e=>.inr e)⟩
theorem Stq.refl (M:Nat->Prop) (O:Own) (ρ:List Hd) (w:World):Stq M O ρ w O ρ w:=(Stp.refl M O ρ w).q
theorem Stq.weak {M M':Nat->Prop} (hM:∀ i,M i->M' i) {O O':Own} {ρ ρ':List Hd} {w w':World} (h:Stq M O ρ w O' ρ' w'):Stq M' O ρ w O' ρ' w':=
 ⟨h.pre,h.im,fun b id hb e hn=>h.own b id hb e (fun m=>hn (hM id m)),h.kept.wide (fun b e=>e.imp (fun h=>h) (fun ⟨id,m,e⟩=>⟨id,hM id m,e⟩))⟩
theorem Stq.trans {M:Nat->Prop} {O O' O'':Own} {ρ ρ' ρ'':List Hd} {w w' w'':World} (h:Stq M O ρ w O' ρ' w') (k:Stq M O' ρ' w' O'' ρ'' w''):Stq M O ρ w O'' ρ'' w'':=by
 refine ⟨h.pre.trans k.pre,h.im.trans k.im,fun b id hb e hM=>k.own b id (Nat.lt_of_lt_of_le hb h.kept.size) (h.own b id hb e hM) hM,?_⟩
 refine h.kept.trans k.kept fun b hb hn=>?_
 cases e0:O b with
 | no=>exact .inl rfl
 | im all=>
  have:=h.im b all e0
  rcases hn with hn | ⟨id,_,hn⟩<;>(rw [this] at hn;cases hn)
 | th j=>
  by_cases hj:M j
  ·exact .inr ⟨j,hj,rfl⟩
  ·have:=h.own b j hb e0 hj
   rcases hn with hn | ⟨id,hM,hn⟩
   ·rw [this] at hn;cases hn
   ·rw [this] at hn;cases hn;exact absurd hM hj
variable {E:Ev} {ops:List Oper} {K:Act->World->Prop}
theorem putE_ok {d:Option Nat} {v:IV} {il il':IEnv} {O:Own} {ρ:List Hd} {a:Act} {x:SV} (e:putE E d v il=some il') (h:FI E.n a il O ρ) (hv:SR O ρ v x):FI E.n (a.put d x.val) il' O ρ:=by
 unfold putE at e
 split at e
 ·cases e;exact h
 ·split at e
  ·rename_i hd;cases e;exact h.put hd hv
  ·cases e
theorem putE_undef {d:Option Nat} {il il':IEnv} {O:Own} {ρ:List Hd} {a:Act} (e:putE E d (.tu .un) il=some il') (h:FI E.n a il O ρ):FI E.n (a.put d undef) il' O ρ:=
 putE_ok (x:=.t []) e h ⟨[],rfl,rfl⟩
theorem pickCt_mem {vs:List IV} {tb:Tbl}:∀ {l:List Ct} {ct:Ct},pickCt vs tb l=some ct->ct ∈ l
 | [],ct,h=>by simp [pickCt] at h
 | [x],ct,h=>by simp [pickCt] at h;simp [h]
 | x :: y :: r,ct,h=>by
  simp only [pickCt] at h
  split at h
  ·cases h;simp
  ·exact List.mem_cons_of_mem _ (pickCt_mem (l:=y :: r) h)
theorem unch_ok {O:Own} {ρ:List Hd}:∀ {v:IV} {l:List IV} {xs:List Value},unch v=some l->R O ρ true v xs->∃ cs,RL O ρ l cs∧xs=vals l cs:=by
 intro v
 induction v with
 | un=>intro l xs e h;simp only [unch,Option.some.injEq] at e;subst e;simp only [R] at h;subst h;exact ⟨[],rfl,rfl⟩
 | pr a b iha ihb=>
  intro l xs e h
  simp only [unch] at e
  split at e<;>first | (cases e;done) | skip
  rename_i l' hl
  cases e
  obtain ⟨x,r,rfl,h2,h3⟩:=h
  obtain ⟨cs,h4,rfl⟩:=ihb hl h3
  cases hg:a.agg with
  | true=>
   rw [hg] at h2
   obtain ⟨c0,rfl,h2⟩:=h2
   exact ⟨c0 :: cs,⟨c0,cs,rfl,h2,h4⟩,by simp [vals,hg]⟩
  | false=>
   rw [hg] at h2
   exact ⟨[x] :: cs,⟨[x],cs,rfl,h2,h4⟩,by simp [vals,hg]⟩
 | _=>intro l xs e;simp [unch] at e
theorem iopds_ok {c:Cfg} {n:Nat} {a:Act} {l:Env} {il:IEnv} {O:Own} {ρ:List Hd} (hF:Fr n a l) (hE:ER O ρ il l) (hG:GO c O):∀ {xs:List Operand} {vs:List IV},iopds c il xs=some vs->∃ cs,RL O ρ vs cs∧xs.map a.eval=vals vs cs
 | [],vs,e=>by simp only [iopds,Option.some.injEq] at e;subst e;exact ⟨[],rfl,rfl⟩
 | x :: xs,vs,e=>by
  simp only [iopds] at e
  split at e<;>first | (cases e;done) | skip
  rename_i v vs' hn hx hxs
  cases e
  obtain ⟨cs,h1,h2,h3,h4⟩:=iopd_cells hF hE hG hx (fun ch e=>hn ch (by rw [e]))
  obtain ⟨ds,h5,h6⟩:=iopds_ok hF hE hG hxs
  refine ⟨cs :: ds,⟨cs,ds,rfl,h2,h5⟩,?_⟩
  simp only [List.map_cons,vals,h6]
  cases hg:v.agg with
  | true=>rw [h3 hg];rfl
  | false=>rw [h4 hg];simp
theorem RL.append {O:Own} {ρ:List Hd}:∀ {vs us:List IV} {cs ds:List (List Value)},RL O ρ vs cs->RL O ρ us ds->RL O ρ (vs ++ us) (cs ++ ds)∧vals (vs ++ us) (cs ++ ds)=vals vs cs ++ vals us ds
 | [],us,cs,ds,h,k=>by simp only [RL] at h;subst h;exact ⟨k,rfl⟩
 | v :: vs,us,cs,ds,h,k=>by
  obtain ⟨c0,r,rfl,h1,h2⟩:=h
  obtain ⟨h3,h4⟩:=RL.append h2 k
  exact ⟨⟨c0,r ++ ds,rfl,h1,h3⟩,by simp [vals,h4]⟩
theorem cOp_ok {β:Type} {a:Act} {l:Env} {il:IEnv} {O:Own} {ρ:List Hd} {tb:Tbl} {w:World} {o:Oper} {k:Option IV->Tbl->List Nat->Option β} {r:β} (hct:CtsOk P E) (hF:Fr E.n a l) (hE:ER O ρ il l) (hG:GO E.c O) (hM:Gm O ρ tb w) (e:cOp E il tb k o.op=some r) :
  ∃ f xs,(execOp a.eval o).run P w=.ok (.enter f xs) w∧∃ v tb' mu,k (some v) tb' mu=some r∧Calls P f xs w (Ret fun x w'=>∃ O' ρ' sv,x=sv.val∧SR O' ρ' v sv∧Gm O' ρ' tb' w'∧Stp (· ∈ mu) O ρ w O' ρ' w'):=by
 cases ho:o.op<;>rw [ho] at e<;>simp only [cOp] at e<;>first | (cases e;done) | skip
 rename_i cl
 obtain ⟨callee,args,ats⟩:=cl
 simp only at e
 split at e<;>first | (cases e;done) | skip
 rename_i x
 split at e<;>first | (cases e;done) | skip
 rename_i f av cv hx
 split at e<;>first | (cases e;done) | skip
 rename_i l1 l2 l3 h1 h2 h3
 split at e<;>first | (cases e;done) | skip
 rename_i ct hp
 obtain ⟨hS,fn,hf,hb,hnm⟩:=hct.1 f ct (pickCt_mem hp)
 obtain ⟨u,hu,⟨xs,ys,hcs,hxs,hys⟩,_⟩:=iopd_1 hE hG hx rfl (by simp) hF
 cases hcs
 obtain ⟨c1,r1,rfl⟩:=unch_ok h1 hxs
 obtain ⟨c2,r2,e2⟩:=iopds_ok hF hE hG h2
 obtain ⟨c3,r3,rfl⟩:=unch_ok h3 hys
 obtain ⟨r23,v23⟩:=RL.append r2 r3
 obtain ⟨rall,vall⟩:=RL.append r1 r23
 obtain ⟨v,tb',mu,hk,hcall⟩:=callF_ok hS e hG hM rall
 rw [vall,v23] at hcall
 refine ⟨f,_,?_,v,tb',mu,hk,hcall⟩
 have hnm':¬ fn.name = "runtime.NumGoroutine" := by simpa using hnm
 have hb':¬ fn.body=none:=by intro e;simp [e] at hb
 have hargs:args.map a.eval=(vals l2 c2).toArray:=by
  rw [← e2,← Array.toList_map]
 simp only [execOp,ho,resolve,hu,Deferred.ofValue,hargs]
 simp [invoke,callFunc,hf,hnm',hb']
theorem want_none {o:Oper} {a:Act} (h:o.guard=none):Region.wanted o (yielded ops.toArray a.tmps)=true:=by simp [Region.wanted,h]
theorem Sm.of_cls {CR ids:List Nat} {O:Own} {ρ:List Hd} {tb:Tbl} {w w':World} (hM:Gm O ρ tb w) (h:Cls CR O w w') (hi:∀ i,i ∈ ids->i ∈ CR):Sm ids O w w':=by
 intro b hb
 have hlow:O b ≠ .no->b < w.heap.size:=fun h=>by
  rcases Nat.lt_or_ge b w.heap.size with h' | h'
  ·exact h'
  ·exact absurd (hM.lt b h') h
 rcases hb with ⟨id,h1,h2⟩ | ⟨all,h2⟩
 ·refine h.block b (hlow (by rw [h2];simp)) (fun hn=>?_)
  rcases hn with e | ⟨j,hj,e⟩
  ·rw [h2] at e;cases e
  ·rw [h2] at e;cases e;exact hj (hi id h1)
 ·refine h.block b (hlow (by rw [h2];simp)) (fun hn=>?_)
  rcases hn with e | ⟨j,hj,e⟩<;>(rw [h2] at e;cases e)
theorem exec_ok {β:Type} {t:Tag} {o:Oper} {cr:List Nat} {st:St} {k:List Nat->St->Option β} {r:β} {a:Act} {O O0:Own} {ρ ρ0:List Hd} {w w0:World} {S:(World->Prop)->Act->World->Prop} {Inv:Array Value->IEnv->Prop} {Cp:World->Prop} (hc:COk P E.c) (hct:CtsOk P E) (hG:GO E.c O) (e:exec E t o cr st k=some r)
  (hF:FS E.n a st O ρ) (hM:Gm O ρ st.tb w) (hw:Region.wanted o (yielded ops.toArray a.tmps)=true) (hst:∀ O' ρ' w',Stq (· ∉ cr) O ρ w O' ρ' w'->Cp w') (hS:Stp (fun _=>True) O0 ρ0 w0 O ρ w)
  (hI:Inv a.tmps st.env) (hIp:∀ (x:Value) v il',putE E o.dst v st.env=some il'->Inv (a.put o.dst x).tmps il')
  (next:∀ (Cp':World->Prop) cr' st' a' w' O' ρ',k cr' st'=some r->FS E.n a' st' O' ρ'->Gm O' ρ' st'.tb w'->GO E.c O'->(∀ O'' ρ'' w'',Stq (· ∉ cr') O' ρ' w' O'' ρ'' w''->Cp' w'')->Stp (fun _=>True) O0 ρ0 w0 O' ρ' w'->Inv a'.tmps st'.env ->
   ∃ CR,(∀ i,i ∈ cr'->i ∈ CR)∧S (fun w''=>Cp' w''∧Cls CR O' w' w'') a' w') :
  ∃ CR,(∀ i,i ∈ cr->i ∈ CR)∧(chg E.c o.op=true->CR=cr)∧StepX P ops.toArray K S (fun w'=>Cp w'∧Cls CR O w w') t o a w:=by
 obtain ⟨⟨l,hl,hER⟩,hD⟩:=hF
 have hae:({ a with defers:=[] }:Act).eval=a.eval:=rfl
 have clsw:∀ CR,Cp w∧Cls CR O w w:=fun CR=>⟨hst _ _ _ (.refl _ _ _ _),Kept.refl _ _⟩
 have after:∀ {M:Nat->Prop} {st':St} {a':Act} {w':World} {O':Own} {ρ':List Hd},Stp M O ρ w O' ρ' w'->(∀ i,M i->i ∉ cr)->k cr st'=some r->FS E.n a' st' O' ρ'->Gm O' ρ' st'.tb w'->Inv a'.tmps st'.env ->
   ∃ C':World->Prop,(∀ w'',C' w''->Cp w''∧Cls cr O w w'')∧C' w'∧S C' a' w':=by
  intro M st' a' w' O' ρ' hS' hMc hk ⟨hF',hD'⟩ hM' hI'
  have hS2:Stp (· ∉ cr) O ρ w O' ρ' w':=hS'.weak hMc
  obtain ⟨CR,h1,h3⟩:=next (fun w''=>Cp w''∧Cls cr O w w'') cr st' a' w' O' ρ' hk ⟨hF',hD'⟩ hM' (hG.mono hS'.im) (fun O'' ρ'' w'' h=>⟨hst _ _ _ (hS2.q.trans h),(hS2.q.trans h).kept⟩) (hS.trans (hS'.weak (fun _ _=>trivial))) hI'
  exact ⟨_,fun w'' h=>h.1,⟨⟨hst _ _ _ hS2.q,hS2.q.kept⟩,Kept.refl _ _⟩,h3⟩
 have afterB:∀ {M:Nat->Prop} {st':St} {a':Act} {w':World} {O':Own} {ρ':List Hd},Stp M O ρ w O' ρ' w'->k [] st'=some r->FS E.n a' st' O' ρ'->Gm O' ρ' st'.tb w'->Inv a'.tmps st'.env ->
   ∃ C':World->Prop,C' w'∧S C' a' w':=by
  intro M st' a' w' O' ρ' hS' hk hF' hM' hI'
  obtain ⟨CR,h1,h3⟩:=next (fun _=>True) [] st' a' w' O' ρ' hk hF' hM' (hG.mono hS'.im) (fun O'' ρ'' w'' h=>trivial) (hS.trans (hS'.weak (fun _ _=>trivial))) hI'
  exact ⟨_,⟨trivial,Kept.refl _ _⟩,h3⟩
 unfold exec at e
 split at e
 ·
  rename_i hcl
  obtain ⟨v,x,hv,hr,hk⟩:=pOp_ok hc hl hER hG hM e
  rw [hae] at hr
  try dsimp only at hk
  split at hk<;>first | (cases hk;done) | skip
  rename_i il' hil
  obtain ⟨CR,h1,h3⟩:=next Cp cr ⟨il',st.tb,st.df⟩ (a.put o.dst x.val) w O ρ hk ⟨putE_ok hil ⟨l,hl,hER⟩ hv,by rw [put_defers];exact hD⟩ hM hG hst hS (hIp x.val v il' hil)
  exact ⟨CR,h1,fun hc=>by simp [chg,hcl] at hc,stepx_value (clsw CR) (fun w=>YAt.mk hw (hr w)) h3⟩
 ·
  rename_i hcl
  split at e<;>first | (cases e;done) | skip
  ·rename_i ids hids
   obtain ⟨v,x,hv,hr,hk⟩:=rOp_ok hc hl hER hG hM e hids
   rw [hae] at hr
   try dsimp only at hk
   split at hk<;>first | (cases hk;done) | skip
   rename_i il' hil
   obtain ⟨CR,h1,h3⟩:=next Cp (ids ++ cr) ⟨il',st.tb,st.df⟩ (a.put o.dst x.val) w O ρ hk ⟨putE_ok hil ⟨l,hl,hER⟩ hv,by rw [put_defers];exact hD⟩ hM hG (fun O' ρ' w' h=>hst O' ρ' w' (h.weak (fun i hi hc=>hi (List.mem_append_right _ hc)))) hS (hIp x.val v il' hil)
   refine ⟨CR,fun i hi=>h1 i (List.mem_append_right _ hi),fun hc=>by simp [chg,hcl] at hc,x.val,fun w' hw'=>YAt.mk hw (hr w' (Sm.of_cls hM hw'.2 (fun i hi=>h1 i (List.mem_append_left _ hi)))),h3⟩
  ·rename_i tg _ _ ids hnp hnc hids
   obtain ⟨v,x,hv,hr,hk⟩:=rOp_ok hc hl hER hG hM e hids
   rw [hae] at hr
   try dsimp only at hk
   split at hk<;>first | (cases hk;done) | skip
   rename_i il' hil
   obtain ⟨CR,h1,h3⟩:=next Cp cr ⟨il',st.tb,st.df⟩ (a.put o.dst x.val) w O ρ hk ⟨putE_ok hil ⟨l,hl,hER⟩ hv,by rw [put_defers];exact hD⟩ hM hG hst hS (hIp x.val v il' hil)
   have hy:=YAt.mk (v:=x.val) hw (hr w (Sm.refl _ _ _))
   refine ⟨CR,h1,fun hc=>by simp [chg,hcl] at hc,?_⟩
   cases tg with
   | p=>exact (hnp rfl).elim
   | c=>exact (hnc rfl).elim
   | r=>exact ⟨_,hy,h3⟩
   | w=>exact hy.upon (K:=fun a w'=>∃ C':World->Prop,(∀ w'',C' w''->Cp w''∧Cls CR O w w'')∧C' w'∧S C' a w') ⟨_,fun _ h=>h,clsw CR,h3⟩
   | b=>exact hy.upon (K:=fun a w'=>∃ C':World->Prop,C' w'∧S C' a w') ⟨_,clsw CR,h3⟩
 ·
  split at e<;>first | (cases e;done) | skip
  ·rename_i hap
   obtain ⟨v,x,tb',O',ρ',w',hrun,hM',hS',hk⟩:=wOp_ok hc hl hER hG hM e
   have hF':FI E.n a st.env O' ρ':=FI.mono hS'.im hS'.pre ⟨l,hl,hER⟩
   have hD':=hD.mono hS'.im hS'.pre
   cases v with
   | some v=>
    obtain ⟨hv,hrun⟩:=hrun
    rw [hae] at hrun
    simp only at hk
    try dsimp only at hk
    split at hk<;>first | (cases hk;done) | skip
    rename_i il' hil
    refine ⟨cr,fun _ h=>h,fun _=>rfl,?_⟩
    show opO _ _ _ _ _ _ _
    unfold opO
    rw [if_pos hw]
    simp only [Oper.wp,hrun,Oper.upon]
    exact after (st':=⟨il',tb',st.df⟩) hS' (fun i hi=>apart_ok hap i hi) hk ⟨putE_ok hil hF' hv,by rw [put_defers];exact hD'⟩ hM' (hIp x.val v il' hil)
   | none=>
    simp only at hk
    try dsimp only at hk
    split at hk<;>first | (cases hk;done) | skip
    rename_i hd
    have hrun:(execOp a.eval o).run P w=.ok .skip w':=hrun
    refine ⟨cr,fun _ h=>h,fun _=>rfl,?_⟩
    show opO _ _ _ _ _ _ _
    unfold opO
    rw [if_pos hw]
    simp only [Oper.wp,hrun,Oper.upon,hd]
    exact after (st':=⟨st.env,tb',st.df⟩) hS' (fun i hi=>apart_ok hap i hi) hk ⟨hF',hD'⟩ hM' hI
  ·obtain ⟨v,x,tb',O',ρ',w',hrun,hM',hS',hk⟩:=wOp_ok hc hl hER hG hM e
   have hF':FI E.n a st.env O' ρ':=FI.mono hS'.im hS'.pre ⟨l,hl,hER⟩
   have hD':=hD.mono hS'.im hS'.pre
   cases v with
   | some v=>
    obtain ⟨hv,hrun⟩:=hrun
    rw [hae] at hrun
    simp only at hk
    try dsimp only at hk
    split at hk<;>first | (cases hk;done) | skip
    rename_i il' hil
    refine ⟨cr,fun _ h=>h,fun _=>rfl,?_⟩
    show opO _ _ _ _ _ _ _
    unfold opO
    rw [if_pos hw]
    simp only [Oper.wp,hrun,Oper.upon]
    exact afterB (st':=⟨il',tb',st.df⟩) hS' hk ⟨putE_ok hil hF' hv,by rw [put_defers];exact hD'⟩ hM' (hIp x.val v il' hil)
   | none=>
    simp only at hk
    try dsimp only at hk
    split at hk<;>first | (cases hk;done) | skip
    rename_i hd
    have hrun:(execOp a.eval o).run P w=.ok .skip w':=hrun
    refine ⟨cr,fun _ h=>h,fun _=>rfl,?_⟩
    show opO _ _ _ _ _ _ _
    unfold opO
    rw [if_pos hw]
    simp only [Oper.wp,hrun,Oper.upon,hd]
    exact afterB (st':=⟨st.env,tb',st.df⟩) hS' hk ⟨hF',hD'⟩ hM' hI
 ·
  split at e<;>first | (cases e;done) | skip
  ·obtain ⟨f,xs,hrun,v,tb',mu,hk,hcall⟩:=cOp_ok hct hl hER hG hM e
   rw [hae] at hrun
   try dsimp only at hk
   split at hk<;>first | (cases hk;done) | skip
   rename_i v' hap hv'
   cases hv'
   try dsimp only at hk
   split at hk<;>first | (cases hk;done) | skip
   rename_i il' hil
   refine ⟨cr,fun _ h=>h,fun _=>rfl,?_⟩
   show opO _ _ _ _ _ _ _
   unfold opO
   rw [if_pos hw]
   simp only [Oper.wp,hrun,Oper.upon]
   refine hcall.mono fun en w' he=>?_
   cases en with
   | returned x=>
    obtain ⟨O',ρ',sv,rfl,h2,h3,h4⟩:=he
    exact after (st':=⟨il',tb',st.df⟩) h4 (fun i hi=>apart_ok hap i hi) hk ⟨putE_ok hil (FI.mono h4.im h4.pre ⟨l,hl,hER⟩) h2,by rw [put_defers];exact hD.mono h4.im h4.pre⟩ h3 (hIp sv.val _ il' hil)
   | panicked _=>exact he.elim
   | outgrown=>exact he.elim
  ·obtain ⟨f,xs,hrun,v,tb',mu,hk,hcall⟩:=cOp_ok hct hl hER hG hM e
   rw [hae] at hrun
   try dsimp only at hk
   split at hk<;>first | (cases hk;done) | skip
   rename_i il' hil
   refine ⟨cr,fun _ h=>h,fun _=>rfl,?_⟩
   show opO _ _ _ _ _ _ _
   unfold opO
   rw [if_pos hw]
   simp only [Oper.wp,hrun,Oper.upon]
   refine hcall.mono fun en w' he=>?_
   cases en with
   | returned x=>
    obtain ⟨O',ρ',sv,rfl,h2,h3,h4⟩:=he
    exact afterB (st':=⟨il',tb',st.df⟩) h4 hk ⟨putE_ok hil (FI.mono h4.im h4.pre ⟨l,hl,hER⟩) h2,by rw [put_defers];exact hD.mono h4.im h4.pre⟩ h3 (hIp sv.val _ il' hil)
   | panicked _=>exact he.elim
   | outgrown=>exact he.elim
 ·
  split at e<;>first | (cases e;done) | skip
  rename_i cl ho hd
  split at e<;>first | (cases e;done) | skip
  rename_i x hcal hargs
  split at e<;>first | (cases e;done) | skip
  rename_i f av cv hx
  obtain ⟨u,hu,hR,_⟩:=iopd_1 hER hG hx rfl (by simp) hl
  have hR':=hR
  obtain ⟨xs,ys,hcs,hxs,hys⟩:=hR'
  simp only [List.cons.injEq,and_true] at hcs
  subst hcs
  obtain ⟨callee,args,ats⟩:=cl
  simp only at hcal hargs
  subst hcal
  have hargs:=arr_of_toList hargs
  subst hargs
  have hu':a.eval x=_:=hu
  have hrun:(execOp a.eval o).run P w=.ok (.defer ⟨.fn (.func f) ys.toArray,xs.toArray⟩) w:=by
   simp only [execOp,ho,resolve,hu',Deferred.ofValue]
   simp
  refine ⟨cr,fun _ h=>h,fun _=>rfl,?_⟩
  show opO _ _ _ _ _ _ _
  unfold opO
  rw [if_pos hw]
  simp only [Oper.wp,hrun,Oper.upon,hd]
  exact after (M:=fun _=>False) (st':=⟨st.env,st.tb,.fn f av cv :: st.df⟩) (.refl _ _ _ _) (fun _ h=>h.elim) e ⟨⟨l,hl,hER⟩,.inl ⟨_,_,_,_,rfl,hR,hD⟩⟩ hM hI
theorem FI.lit {n:Nat} {a:Act} {il:IEnv} {O:Own} {ρ:List Hd} {d:Nat} {g:Bool} (h:FI n a il O ρ) (hd:geti il d=some (.o (.b g))):FI n a ((d,.o (.b g)) :: il) O ρ:=by
 obtain ⟨l,h1,h2⟩:=h
 obtain ⟨x,h3,h4⟩:=h2.get hd
 refine ⟨(d,x) :: l,⟨h1.defers,h1.size,fun t v hv=>?_⟩,rfl,h4,h2⟩
 simp only [get?] at hv
 cases hb:Nat.beq d t with
 | true=>rw [hb] at hv;cases hv;rw [← Nat.eq_of_beq_eq_true hb];exact h1.has d x h3
 | false=>rw [hb] at hv;exact h1.has t v hv
theorem yields_b {n:Nat} {a:Act} {il:IEnv} {O:Own} {ρ:List Hd} {j dj:Nat} {g:Bool} (h:FI n a il O ρ) (hj:(nthO ops j).bind (·.dst)=some dj) (hg:geti il dj=some (.o (.b g))):yielded ops.toArray a.tmps j=some g:=by
 obtain ⟨l,h1,h2⟩:=h
 obtain ⟨x,h3,y,rfl,rfl,_⟩:=h2.get hg
 rw [yields_of h1 hj h3]
theorem yields_u {n:Nat} {a:Act} {il:IEnv} {O:Own} {ρ:List Hd} {j dj:Nat} (h:FI n a il O ρ) (hj:(nthO ops j).bind (·.dst)=some dj) (hg:geti il dj=some (.tu .un)):yielded ops.toArray a.tmps j=none:=by
 obtain ⟨l,h1,h2⟩:=h
 obtain ⟨x,h3,xs,rfl,hx⟩:=h2.get hg
 rw [yields_of h1 hj h3]
theorem geti_lit {il:IEnv} {d dj:Nat} {g:Bool} (h:geti il d=none) (hj:geti il dj=some (.o (.b g))):geti ((dj,.o (.b g)) :: il) d=none:=by
 simp only [geti]
 cases hb:Nat.beq dj d with
 | true=>rw [Nat.eq_of_beq_eq_true hb,h] at hj;cases hj
 | false=>exact h
theorem stepL_ok {β:Type} {t:Tag} {o:Oper} {cr:List Nat} {st:St} {k:List Nat->St->Option β} {r:β} {a:Act} {O O0:Own} {ρ ρ0:List Hd} {w w0:World} {S:(World->Prop)->Act->World->Prop} {Inv:Array Value->IEnv->Prop} {Cp:World->Prop} (hc:COk P E.c) (hct:CtsOk P E) (hG:GO E.c O) (e:stepL E ops t o cr st k=some r)
  (hF:FS E.n a st O ρ) (hM:Gm O ρ st.tb w) (hst:∀ O' ρ' w',Stq (· ∉ cr) O ρ w O' ρ' w'->Cp w') (hS:Stp (fun _=>True) O0 ρ0 w0 O ρ w)
  (hI:Inv a.tmps st.env) (hIl:∀ dj g,geti st.env dj=some (.o (.b g))->Inv a.tmps ((dj,.o (.b g)) :: st.env)) (hIp:∀ il,Inv a.tmps il->∀ (x:Value) v il',putE E o.dst v il=some il'->Inv (a.put o.dst x).tmps il')
  (next:∀ (Cp':World->Prop) cr' st' a' w' O' ρ',k cr' st'=some r->FS E.n a' st' O' ρ'->Gm O' ρ' st'.tb w'->GO E.c O'->(∀ O'' ρ'' w'',Stq (· ∉ cr') O' ρ' w' O'' ρ'' w''->Cp' w'')->Stp (fun _=>True) O0 ρ0 w0 O' ρ' w'->Inv a'.tmps st'.env ->
   ∃ CR,(∀ i,i ∈ cr'->i ∈ CR)∧S (fun w''=>Cp' w''∧Cls CR O' w' w'') a' w') :
  ∃ CR,(∀ i,i ∈ cr->i ∈ CR)∧(chg E.c o.op=true->o.guard=none->CR=cr)∧StepX P ops.toArray K S (fun w'=>Cp w'∧Cls CR O w w') t o a w:=by
 have skip:∀ {il il':IEnv},o.guard ≠ none->Region.wanted o (yielded ops.toArray a.tmps)=false->FI E.n a il O ρ->Inv a.tmps il->putE E o.dst (.tu .un) il=some il'->k cr ⟨il',st.tb,st.df⟩=some r ->
   ∃ CR,(∀ i,i ∈ cr->i ∈ CR)∧(chg E.c o.op=true->o.guard=none->CR=cr)∧StepX P ops.toArray K S (fun w'=>Cp w'∧Cls CR O w w') t o a w:=by
  intro il il' hgn hw hF' hI' hil e
  obtain ⟨CR,h1,h3⟩:=next Cp cr ⟨il',st.tb,st.df⟩ (a.put o.dst undef) w O ρ e ⟨putE_undef hil hF',by rw [put_defers];exact hF.2⟩ hM hG hst hS (hIp il hI' _ _ il' hil)
  exact ⟨CR,h1,fun _ h=>absurd h hgn,stepx_value ⟨hst _ _ _ (.refl _ _ _ _),Kept.refl _ _⟩ (fun w=>YAt.skip hw) h3⟩
 have one:∀ {il:IEnv},exec E t o cr ⟨il,st.tb,st.df⟩ k=some r->FI E.n a il O ρ->Region.wanted o (yielded ops.toArray a.tmps)=true->Inv a.tmps il ->
   ∃ CR,(∀ i,i ∈ cr->i ∈ CR)∧(chg E.c o.op=true->o.guard=none->CR=cr)∧StepX P ops.toArray K S (fun w'=>Cp w'∧Cls CR O w w') t o a w:=by
  intro il e hF' hw hI'
  obtain ⟨CR,h1,h2,h3⟩:=exec_ok (st:=⟨il,st.tb,st.df⟩) hc hct hG e ⟨hF',hF.2⟩ hM hw hst hS hI' (hIp il hI') next
  exact ⟨CR,h1,fun h _=>h2 h,h3⟩
 unfold stepL at e
 split at e
 ·rename_i hg
  exact one e hF.1 (want_none hg) hI
 ·rename_i j want hg
  have hgn:o.guard ≠ none:=by rw [hg];simp
  split at e<;>first | (cases e;done) | skip
  rename_i dj hdj
  split at e<;>first | (cases e;done) | skip
  ·rename_i g hgv
   have hy:=yields_b hF.1 hdj hgv
   cases g with
   | true=>
    cases want with
    | true=>exact one e (hF.1.lit hgv) (by simp [Region.wanted,hg,hy]) (hIl _ _ hgv)
    | false=>
     simp only at e
     split at e<;>first | (cases e;done) | skip
     rename_i il' hil
     exact skip hgn (by simp [Region.wanted,hg,hy]) (hF.1.lit hgv) (hIl _ _ hgv) hil e
   | false=>
    cases want with
    | false=>exact one e (hF.1.lit hgv) (by simp [Region.wanted,hg,hy]) (hIl _ _ hgv)
    | true=>
     simp only at e
     split at e<;>first | (cases e;done) | skip
     rename_i il' hil
     exact skip hgn (by simp [Region.wanted,hg,hy]) (hF.1.lit hgv) (hIl _ _ hgv) hil e
  ·rename_i hgv
   have hy:=yields_u hF.1 hdj hgv
   split at e<;>first | (cases e;done) | skip
   rename_i il' hil
   exact skip hgn (by simp [Region.wanted,hg,hy]) hF.1 hI hil e
theorem evL_ok {β:Type} {k:St->Option β} {r:β} {O0:Own} {ρ0:List Hd} {w0:World} (hc:COk P E.c) (hct:CtsOk P E)
  (hK:∀ st a w O ρ,k st=some r->FS E.n a st O ρ->Gm O ρ st.tb w->GO E.c O->Stp (fun _=>True) O0 ρ0 w0 O ρ w->K a w):∀ (L:List (Tag×Oper)) (Cp:World->Prop) (cr:List Nat) (st:St) (a:Act) (O:Own) (ρ:List Hd) (w:World),evL E ops k L cr st=some r->FS E.n a st O ρ->Gm O ρ st.tb w->GO E.c O ->
   (∀ O' ρ' w',Stq (· ∉ cr) O ρ w O' ρ' w'->Cp w')->Stp (fun _=>True) O0 ρ0 w0 O ρ w->∃ CR,(∀ i,i ∈ cr->i ∈ CR)∧Sx P ops.toArray (fun w'=>Cp w'∧Cls CR O w w') K L a w
 | [],Cp,cr,st,a,O,ρ,w,e,hF,hM,hG,hst,hS=>⟨cr,fun _ h=>h,hK st a w O ρ e hF hM hG hS⟩
 | (t,o) :: L,Cp,cr,st,a,O,ρ,w,e,hF,hM,hG,hst,hS=>by
  obtain ⟨CR,h1,_,h3⟩:=stepL_ok (K:=K) (S:=fun C a w=>Sx P ops.toArray C K L a w) (Inv:=fun _ _=>True) hc hct hG e hF hM hst hS trivial (fun _ _ _=>trivial) (fun _ _ _ _ _ _=>trivial)
   (fun Cp' cr' st' a' w' O' ρ' e hF hM hG h1 h2 _=>evL_ok hc hct hK L Cp' cr' st' a' O' ρ' w' e hF hM hG h1 h2)
  exact ⟨CR,h1,h3.sx⟩
theorem FI.other {n:Nat} {a:Act} {il:IEnv} {O:Own} {ρ:List Hd} {d:Nat} {x:Value} (h:FI n a il O ρ) (hd:geti il d=none):FI n (a.put (some d) x) il O ρ:=by
 obtain ⟨l,h1,h2⟩:=h
 have hn:∀ {il:IEnv} {l:Env},ER O ρ il l->geti il d=none->get? l d=none:=by
  intro il
  induction il with
  | nil=>intro l h _;cases l with
   | nil=>rfl
   | cons _ _=>exact h.elim
  | cons y r ih=>
   intro l h e
   cases l with
   | nil=>exact h.elim
   | cons z r'=>
    obtain ⟨s,v⟩:=y
    obtain ⟨s',v'⟩:=z
    obtain ⟨rfl,_,h4⟩:=h
    simp only [geti] at e
    simp only [get?]
    cases hb:Nat.beq s d with
    | true=>rw [hb] at e;cases e
    | false=>rw [hb] at e;exact ih h4 e
 refine ⟨l,⟨h1.defers,?_,fun t v hv=>?_⟩,h2⟩
 ·have:=h1.size;simpa [Act.put] using this
 ·have hne:d ≠ t:=fun e=>by subst e;rw [hn h2 hd] at hv;cases hv
  have:=h1.has t v hv
  simp only [Act.put]
  rw [Array.getElem?_setIfInBounds_ne hne]
  exact this
theorem Gm.adopt {O:Own} {ρ:List Hd} {tb:Tbl} {w:World} {b0 ty:Nat} {v:IV} {cs:List Value} (hM:Gm O ρ tb w) (hO:O b0=.no) (hb:Blk w b0 cs ty) (hR:∀ O ρ,R O ρ false v cs) :
  Gm (fun b=>bif Nat.beq b0 b then .th tb.length else O b) (ρ ++ [⟨b0,v.sz,.bool false,[]⟩]) (tb ++ [.blk ty v]) w∧O.le (fun b=>bif Nat.beq b0 b then .th tb.length else O b):=by
 have hlt:b0 < w.heap.size:=hb.lt
 have hle:O.le (fun b=>bif Nat.beq b0 b then .th tb.length else O b):=fun b all e=>by
  cases e':Nat.beq b0 b with
  | true=>have:=Nat.eq_of_beq_eq_true e';subst this;rw [hO] at e;cases e
  | false=>simp only [e',cond_false];exact e
 refine ⟨⟨fun b all e=>?_,fun b hb'=>?_,by simp [hM.len],fun j x hx=>?_⟩,hle⟩
 ·cases e':Nat.beq b0 b with
  | true=>rw [e'] at e;cases e
  | false=>rw [e'] at e;exact hM.im b all e
 ·cases e':Nat.beq b0 b with
  | true=>have:=Nat.eq_of_beq_eq_true e';omega
  | false=>exact hM.lt b hb'
 ·rcases Nat.lt_or_ge j tb.length with hj | hj
  ·rw [List.getElem?_append_left hj] at hx
   have old:=hM.th j x hx
   have ne:∀ b,O b=.th j->(bif Nat.beq b0 b then .th tb.length else O b)=.th j:=fun b e=>by
    cases e':Nat.beq b0 b with
    | true=>have:=Nat.eq_of_beq_eq_true e';subst this;rw [hO] at e;cases e
    | false=>exact e
   cases x with
   | blk ty v=>
    obtain ⟨h,cs,h3,h4,h5,h6,h7⟩:=old
    exact ⟨h,cs,app_at _ h3,ne _ h4,h5,R.mono hle (.app _ _) h6,h7⟩
   | row E t xs=>
    obtain ⟨h,es,h3,h4,h5,h6,h7⟩:=old
    exact ⟨h,es,app_at _ h3,h4,fun b hbb=>ne _ (h5 b hbb),h6.mono (fun _ _=>TR.mono hle),h7⟩
   | fz t xs=>
    obtain ⟨h,h3,h4,h5⟩:=old
    exact ⟨h,app_at _ h3,h4,TR.mono hle h5⟩
   | no=>trivial
   | mk=>
    obtain ⟨h,h3,h4,h5⟩:=old
    exact ⟨h,app_at _ h3,ne _ h4,h5⟩
   | mp kt vt l=>
    obtain ⟨h,es,h3,h4,h5,h6⟩:=old
    exact ⟨h,es,app_at _ h3,ne _ h4,h5,h6.mono hle⟩
   | it n seen=>
    obtain ⟨h,h3,h4,bm,h5,h7⟩:=old
    exact ⟨h,app_at _ h3,ne _ h4,bm,h5,h7⟩
   | rr E Ei t rows out=>
    obtain ⟨h,es,h3,h4,h5,h6,h7,h8⟩:=old
    exact ⟨h,es,app_at _ h3,h4,fun b hbb=>ne _ (h5 b hbb),h6,h7,h8.frame (fun _ _=>TR.mono hle) (fun b hbb=>⟨ne _ hbb,rfl⟩)⟩
  ·have:j=tb.length:=by
    have:=(List.getElem?_eq_some_iff.1 hx).1
    simp at this;omega
   subst this
   rw [List.getElem?_append_right (Nat.le_refl _)] at hx
   simp at hx;subst hx
   exact ⟨⟨b0,v.sz,.bool false,[]⟩,cs,by rw [← hM.len];simp,by simp,rfl,hR _ _,hb⟩
theorem preOk_cons {c:Cfg} {d:Nat} {t:Tag} {o:Oper} {L:List (Tag×Oper)} (h:preOk c d ((t,o) :: L)=true):(∀ d',o.dst=some d'->d' ≠ d)∧(t=.w->chg c o.op=true∧o.guard=none)∧preOk c d L=true:=by
 simp only [preOk,Bool.and_eq_true] at h
 obtain ⟨⟨h1,h2⟩,h3⟩:=h
 refine ⟨fun d' e hd=>?_,fun e=>?_,h3⟩
 ·rw [e] at h1;subst hd;simp at h1
 ·subst e
  simp only [Bool.and_eq_true] at h2
  refine ⟨h2.1,?_⟩
  cases hg:o.guard with
  | none=>rfl
  | some _=>rw [hg] at h2;simp at h2
theorem geti_put {d:Nat} {o:Oper} {v:IV} {il il':IEnv} (hd:∀ d',o.dst=some d'->d' ≠ d) (h:geti il d=none) (e:putE E o.dst v il=some il'):geti il' d=none:=by
 unfold putE at e
 split at e
 ·cases e;exact h
 ·rename_i d' hd'
  split at e
  ·cases e
   simp only [geti]
   cases hb:Nat.beq d' d with
   | true=>exact absurd (Nat.eq_of_beq_eq_true hb) (hd d' hd')
   | false=>exact h
  ·cases e
theorem tmps_put {d:Nat} {o:Oper} {x y:Value} {a:Act} (hd:∀ d',o.dst=some d'->d' ≠ d) (h:a.tmps[d]? = some y):(a.put o.dst x).tmps[d]? = some y:=by
 cases ho:o.dst with
 | none=>exact h
 | some d'=>
  simp only [Act.put]
  rw [Array.getElem?_setIfInBounds_ne (hd d' ho)]
  exact h
theorem alOp_spec {o:Oper} {t d:Nat} (h:alOp o=some (t,d)):o.op=.alloc t∧o.dst=some d∧o.guard=none:=by
 unfold alOp at h
 split at h<;>first | (cases h;done) | skip
 rename_i h1 h2 h3
 cases h
 exact ⟨h1,h2,h3⟩
theorem evE_ok {β:Type} {k:St->Option β} {r:β} {O0 Oa:Own} {ρ0 ρa:List Hd} {w0 wa:World} {oa:Oper} {ta d b0:Nat} {cs:List Value} {va:IV} {post:List (Tag×Oper)} (hc:COk P E.c) (hct:CtsOk P E)
  (hK:∀ st a w O ρ,k st=some r->FS E.n a st O ρ->Gm O ρ st.tb w->GO E.c O->Stp (fun _=>True) O0 ρ0 w0 O ρ w->K a w)
  (hoa:alOp oa=some (ta,d)) (hva:E.c.I ta=some va) (hR:∀ O ρ,R O ρ false va cs) (hS0:Stp (fun _=>True) O0 ρ0 w0 Oa ρa wa) (hb0:w0.heap.size≤b0) (hbO:Oa b0=.no) (hbB:Blk wa b0 cs ta) :
  ∀ (L:List (Tag×Oper)) (Cp:World->Prop) (cr:List Nat) (st:St) (a:Act) (O:Own) (ρ:List Hd) (w:World),evL E ops k (L ++ (.w,oa) :: post) cr st=some r->preOk E.c d L=true->FS E.n a st O ρ->Gm O ρ st.tb w->GO E.c O ->
   (∀ O' ρ' w',Stq (· ∉ cr) O ρ w O' ρ' w'->Cp w')->Stp (fun _=>True) Oa ρa wa O ρ w->a.tmps[d]? = some (vP b0 0)∧geti st.env d=none->∃ CR,(∀ i,i ∈ cr->i ∈ CR)∧SxN P ops.toArray K (L ++ post) (fun w'=>Cp w'∧Cls CR O w w') a w
 | [],Cp,cr,st,a,O,ρ,w,e,_,hF,hM,hG,hst,hS,hI=>by
  obtain ⟨ho,hd,hg⟩:=alOp_spec hoa
  have hlt:b0 < wa.heap.size:=hbB.lt
  have hO:O b0=.no:=hS.no b0 hlt hbO
  have hB:Blk w b0 cs ta:=hbB.same (hS.kept.block b0 hlt (fun ⟨id,_,h⟩=>by rw [hbO] at h;cases h))
  obtain ⟨hM2,hle⟩:=hM.adopt hO hB hR
  simp only [List.nil_append,evL,stepL,hg] at e
  unfold exec at e
  simp only [ho,clOf,wIds,apart,wOp,wAl,hva,hd,putE] at e
  split at e<;>first | (cases e;done) | skip
  rename_i il' hil
  split at hil<;>first | (cases hil;done) | skip
  rename_i hdn
  cases hil
  have hpre:Pre ρ (ρ ++ [⟨b0,va.sz,.bool false,[]⟩]):=.app _ _
  have hq:Stq (· ∉ cr) O ρ w (fun b=>bif Nat.beq b0 b then .th st.tb.length else O b) (ρ ++ [⟨b0,va.sz,.bool false,[]⟩]) w:=by
   refine ⟨hpre,hle,fun b id _ h _=>?_,Kept.refl _ _⟩
   cases e':Nat.beq b0 b with
   | true=>have:=Nat.eq_of_beq_eq_true e';subst this;rw [hO] at h;cases h
   | false=>exact h
  have hs0:=hS0.trans hS
  have hS2:Stp (fun _=>True) O0 ρ0 w0 (fun b=>bif Nat.beq b0 b then .th st.tb.length else O b) (ρ ++ [⟨b0,va.sz,.bool false,[]⟩]) w:=by
   refine ⟨hs0.pre.trans hpre,hs0.im.trans hle,fun b hb h=>?_,fun b id hb h hn=>absurd trivial hn,hs0.kept⟩
   cases e':Nat.beq b0 b with
   | true=>have:=Nat.eq_of_beq_eq_true e';omega
   | false=>exact hs0.no b hb h
  have hF2:FS E.n a ⟨(d,.pt st.tb.length []) :: st.env,st.tb ++ [.blk ta va],st.df⟩ (fun b=>bif Nat.beq b0 b then .th st.tb.length else O b) (ρ ++ [⟨b0,va.sz,.bool false,[]⟩]):=by
   refine ⟨?_,hF.2.mono hle hpre⟩
   obtain ⟨l,h1,h2⟩:=hF.1
   refine ⟨(d,.o (.v (vP b0 0))) :: l,⟨h1.defers,h1.size,fun t u hu=>?_⟩,rfl,?_,h2.mono hle hpre⟩
   ·simp only [get?] at hu
    cases hb:Nat.beq d t with
    | true=>rw [hb] at hu;cases hu;rw [← Nat.eq_of_beq_eq_true hb];exact hI.1
    | false=>rw [hb] at hu;exact h1.has t u hu
   ·exact .of_S0 (v:=.pt st.tb.length []) ⟨_,rfl,⟨b0,va.sz,.bool false,[]⟩,0,by rw [← hM.len];simp,by cases va.sz<;>rfl,rfl⟩
  obtain ⟨CR,h1,h2⟩:=evL_ok (K:=K) hc hct hK post Cp cr _ a _ _ w e hF2 hM2 (hG.mono hle) (fun O' ρ' w' h=>hst _ _ _ (hq.trans h)) hS2
  refine ⟨cr,fun _ h=>h,_,fun w' h=>⟨h.1,h.2.wide (fun b hb=>?_)⟩,⟨hst _ _ _ (.refl _ _ _ _),Kept.refl _ _⟩,h2⟩
  cases e':Nat.beq b0 b with
  | true=>have:=Nat.eq_of_beq_eq_true e';subst this;exact .inl hO
  | false=>
   simp only [e',cond_false] at hb
   exact hb.imp (fun h=>h) (fun ⟨id,hn,h⟩=>⟨id,fun hc=>hn (h1 id hc),h⟩)
 | (t,o) :: L,Cp,cr,st,a,O,ρ,w,e,hp,hF,hM,hG,hst,hS,hI=>by
  obtain ⟨p1,p2,p3⟩:=preOk_cons hp
  obtain ⟨CR,h1,_,h3⟩:=stepL_ok (K:=K) (S:=SxN P ops.toArray K (L ++ post)) (Inv:=fun tm il=>tm[d]? = some (vP b0 0)∧geti il d=none) hc hct hG e hF hM hst hS hI (fun dj g h=>⟨hI.1,geti_lit hI.2 h⟩) (fun il hi x v il' h=>⟨tmps_put p1 hi.1,geti_put p1 hi.2 h⟩)
   (fun Cp' cr' st' a' w' O' ρ' e hF hM hG h1 h2 h3=>evE_ok hc hct hK hoa hva hR hS0 hb0 hbO hbB L Cp' cr' st' a' O' ρ' w' e p3 hF hM hG h1 h2 h3)
  exact ⟨CR,h1,h3.sxn ⟨hst _ _ _ (.refl _ _ _ _),Kept.refl _ _⟩⟩
theorem evP_ok {β:Type} {k:St->Option β} {r:β} {O0:Own} {ρ0:List Hd} {w0:World} {oa:Oper} {ta d:Nat} {va:IV} {post:List (Tag×Oper)} (hc:COk P E.c) (hct:CtsOk P E)
  (hK:∀ st a w O ρ,k st=some r->FS E.n a st O ρ->Gm O ρ st.tb w->GO E.c O->Stp (fun _=>True) O0 ρ0 w0 O ρ w->K a w)
  (hoa:alOp oa=some (ta,d)) (hva:E.c.I ta=some va) (hdn:Nat.blt d E.n=true) :
  ∀ (L:List (Tag×Oper)) (Cp:World->Prop) (cr:List Nat) (st:St) (a:Act) (O:Own) (ρ:List Hd) (w:World),evL E ops k (L ++ (.w,oa) :: post) cr st=some r->preOk E.c d L=true->FS E.n a st O ρ->Gm O ρ st.tb w->GO E.c O ->
   (∀ O' ρ' w',Stq (· ∉ cr) O ρ w O' ρ' w'->Cp w')->Stp (fun _=>True) O0 ρ0 w0 O ρ w->geti st.env d=none->∃ CR,(∀ i,i ∈ cr->i ∈ CR)∧SxP P ops.toArray K oa post L (fun w'=>Cp w'∧Cls CR O w w') a w
 | [],Cp,cr,st,a,O,ρ,w,e,_,hF,hM,hG,hst,hS,hI=>evL_ok hc hct hK _ Cp cr st a O ρ w e hF hM hG hst hS
 | (t,o) :: L,Cp,cr,st,a,O,ρ,w,e,hp,hF,hM,hG,hst,hS,hI=>by
  obtain ⟨p1,p2,p3⟩:=preOk_cons hp
  obtain ⟨CR,h1,h2,h3⟩:=stepL_ok (K:=K) (S:=SxP P ops.toArray K oa post L) (Inv:=fun _ il=>geti il d=none) hc hct hG e hF hM hst hS hI (fun dj g h=>geti_lit hI h) (fun il hi x v il' h=>geti_put p1 hi h)
   (fun Cp' cr' st' a' w' O' ρ' e hF hM hG h1 h2 h3=>evP_ok hc hct hK hoa hva hdn L Cp' cr' st' a' O' ρ' w' e p3 hF hM hG h1 h2 h3)
  refine ⟨CR,h1,h3,fun ht=>?_⟩
  obtain ⟨q1,q2⟩:=p2 ht
  obtain rfl:=h2 q1 q2
  obtain ⟨ho,hd,hg⟩:=alOp_spec hoa
  obtain ⟨z,cs,z1,z2,z3⟩:=hc.zero _ _ hva
  have hrun:(execOp a.eval oa).run P w=.ok (.value (vP w.heap.size 0)) { w with heap:=w.heap.push (.cells cs.toArray ta) }:=by
   simp only [execOp,ho]
   simp [Instr.alloc,z1 w,newVar,z2,run_newRow]
  have hk:Kept none1 w { w with heap:=w.heap.push (.cells cs.toArray ta) }:=kept_alloc w _
  have hs1:∀ M:Nat->Prop,Stp M O ρ w O ρ { w with heap:=w.heap.push (.cells cs.toArray ta) }:=fun M=>⟨.refl _,.refl _,fun _ _ h=>h,fun _ _ _ h _=>h,hk.wide (fun _ h=>h.elim)⟩
  have hM1:Gm O ρ st.tb { w with heap:=w.heap.push (.cells cs.toArray ta) }:=
   (hM.step (M:=fun _=>False) (O':=O) (ρ':=ρ) (tb':=st.tb) (hk.wide (fun _ h=>h.elim)) (fun _ _ _=>rfl) (fun b hb=>hM.lt b (Nat.le_trans hk.size hb)) (fun b all h=>.inl h) (.refl _) hM.len (fun j x hx=>.inl ⟨hx,fun h=>h⟩)).1
  have hF1:FS E.n (a.put (some d) (vP w.heap.size 0)) st O ρ:=⟨hF.1.other hI,by rw [put_defers];exact hF.2⟩
  have hsz:(a.put (some d) (vP w.heap.size 0)).tmps[d]? = some (vP w.heap.size 0):=by
   obtain ⟨l,hl,_⟩:=hF.1
   have h1:a.tmps.size=E.n:=hl.size
   have h2:d < E.n:=by simpa [Nat.blt_eq] using hdn
   simp [Act.put,h1,h2]
  obtain ⟨CR2,g1,C',g2,g3,g4⟩:=evE_ok (K:=K) (post:=post) (O0:=O0) (ρ0:=ρ0) (w0:=w0) hc hct hK hoa hva z3 (hS.trans (hs1 _)) hS.kept.size (hM.lt _ (Nat.le_refl _)) (blk_new ta cs) ((t,o) :: L) (fun w''=>Cp w''∧Cls CR O w w'') CR st (a.put (some d) (vP w.heap.size 0)) O ρ _ e hp hF1 hM1 hG
   (fun O' ρ' w' h=>⟨hst _ _ _ ((hs1 _).q.trans h),((hs1 _).q.trans h).kept⟩) (.refl _ _ _ _) ⟨hsz,hI⟩
  unfold opO
  rw [if_pos (want_none hg)]
  simp only [Oper.wp,hrun,Oper.upon,hd]
  exact ⟨C',fun w' h=>(g2 w' h).1,g3,g4⟩
theorem cutAt_spec {i:Nat}:∀ {π x y:List (Tag×Nat)},cutAt i π=some (x,y)->π=x ++ (.w,i) :: y
 | [],x,y,h=>by simp [cutAt] at h
 | (t,j) :: r,x,y,h=>by
  simp only [cutAt] at h
  split at h
  ·rename_i hb
   have:=Nat.eq_of_beq_eq_true hb
   subst this
   split at h
   ·cases h;rfl
   ·cases h
  ·split at h
   ·rename_i x' y' hr
    cases h
    rw [cutAt_spec hr];rfl
   ·cases h
theorem pick_split {l:List Oper} {y:List (Tag×Nat)} {i:Nat} {oa:Oper} (hi:nthO l i=some oa):∀ {x:List (Tag×Nat)} {X L:List (Tag×Oper)},pick l x=some X->pick l (x ++ (.w,i) :: y)=some L->∃ Y,pick l y=some Y∧L=X ++ (.w,oa) :: Y
 | [],X,L,h1,h2=>by
  simp only [pick,Option.some.injEq] at h1;subst h1
  simp only [List.nil_append,pick,hi] at h2
  split at h2<;>first | (cases h2;done) | skip
  rename_i o os ho hos
  cases h2;cases ho
  exact ⟨os,hos,rfl⟩
 | (t,j) :: x,X,L,h1,h2=>by
  simp only [pick] at h1
  split at h1<;>first | (cases h1;done) | skip
  rename_i o os ho hos
  cases h1
  simp only [List.cons_append,pick,ho] at h2
  split at h2<;>first | (cases h2;done) | skip
  rename_i o2 os2 ho2 hos2
  cases h2;cases ho2
  obtain ⟨Y,h3,rfl⟩:=pick_split hi hos hos2
  exact ⟨Y,h3,rfl⟩
end
theorem numP_ok {O:Own} {ρ:List Hd} {t:Ty}:∀ {ps:List (Nat×IV)} {ys:List (Nat×Value)} {q:Nat} {xs:List t.den},numP t q ps=some xs->PaR O ρ ps ys->xs.length=ps.length∧∃ es,LR (TR O t) xs es∧∀ cs:List Value,(q + ps.length) * t.size≤cs.length ->
  Instr.fill (fun i=>some (i * t.size,t.size)) cs.toArray ys=some (spl cs (q * t.size) es).toArray
 | [],ys,q,xs,e,h=>by
  simp only [numP,Option.some.injEq] at e;subst e
  simp only [PaR] at h;subst h
  exact ⟨rfl,[],rfl,fun cs _=>by simp [Instr.fill,spl]⟩
 | (i,u) :: ps,ys,q,xs,e,h=>by
  obtain ⟨x,rest,us,rfl,h1,h2,h3⟩:=h
  simp only [numP] at e
  split at e<;>first | (cases e;done) | skip
  rename_i y ys' hiq hy hys
  simp only [Option.some.injEq] at e;subst e
  have hiq:=Nat.eq_of_beq_eq_true hiq
  subst hiq
  have hT:=toP_R hy h2
  have hul:=TR.length hT
  obtain ⟨hl,es,h4,h5⟩:=numP_ok hys h3
  have hel:=LR.length (fun _ _=>TR.length) h4
  refine ⟨by simp [hl],us ++ es,⟨us,es,rfl,hT,h4⟩,fun cs hcs=>?_⟩
  simp only [List.length_cons] at hcs
  have hb:i * t.size + t.size + ps.length * t.size≤cs.length:=by
   have:(i + (ps.length + 1)) * t.size=i * t.size + t.size + ps.length * t.size:=by rw [Nat.add_mul,Nat.add_mul];omega
   omega
  refine fill_put (off:=i * t.size) (k:=t.size) rfl h1 hul (by omega) ?_
  have hle:(spl cs (i * t.size) us).length=cs.length:=spl_len (by omega)
  rw [h5 _ (by rw [hle,Nat.add_mul,Nat.add_mul];omega)]
  rw [show (i + 1) * t.size=i * t.size + us.length from by rw [Nat.add_mul,hul];omega]
  rw [spl_next (by rw [hel,hl];omega)]
def atB:Option (Nat×Nat)->Nat->Value
 | none,b=>vP b 0
 | some (m,c),b=>.slice (some ⟨b,0,none⟩) m c
theorem atB_inj:∀ {g g':Option (Nat×Nat)} {n:Nat},atB g n=atB g' n->g=g'
 | none,none,n,_=>rfl
 | none,some (m,c),n,h=>by simp [atB] at h
 | some (m,c),none,n,h=>by simp [atB] at h
 | some (m,c),some (m',c'),n,h=>by simp [atB] at h;simp [h]
def FreshX (P:Program) (X:Sem Next) (g:Option (Nat×Nat)) (cs:List Value) (ty:Nat):Prop:=
 ∀ w:World,X.run P w=.ok (.value (atB g w.heap.size)) { w with heap:=w.heap.push (.cells cs.toArray ty) }
theorem Gm.adoptR {O:Own} {ρ:List Hd} {tb:Tbl} {w:World} {b0 E cp:Nat} {t:Ty} {xs:List t.den} {es sp:List Value} (hM:Gm O ρ tb w) (hO:O b0=.no) (hb:Blk w b0 (es ++ sp) E) (hL:LR (TR O t) xs es)
  (hm:xs.length≤cp) (hl:(es ++ sp).length=cp * t.size) (hcp:cp≤maxLen) :
  Gm (fun b=>bif Nat.beq b0 b then .th tb.length else O b) (ρ ++ [⟨0,t.sz,.slice (some ⟨b0,0,none⟩) xs.length cp,[]⟩]) (tb ++ [.row E t xs]) w∧O.le (fun b=>bif Nat.beq b0 b then .th tb.length else O b):=by
 have hlt:b0 < w.heap.size:=hb.lt
 have hle:O.le (fun b=>bif Nat.beq b0 b then .th tb.length else O b):=fun b all e=>by
  cases e':Nat.beq b0 b with
  | true=>have:=Nat.eq_of_beq_eq_true e';subst this;rw [hO] at e;cases e
  | false=>simp only [e',cond_false];exact e
 refine ⟨⟨fun b all e=>?_,fun b hb'=>?_,by simp [hM.len],fun j x hx=>?_⟩,hle⟩
 ·cases e':Nat.beq b0 b with
  | true=>rw [e'] at e;cases e
  | false=>rw [e'] at e;exact hM.im b all e
 ·cases e':Nat.beq b0 b with
  | true=>have:=Nat.eq_of_beq_eq_true e';omega
  | false=>exact hM.lt b hb'
 ·rcases Nat.lt_or_ge j tb.length with hj | hj
  ·rw [List.getElem?_append_left hj] at hx
   have old:=hM.th j x hx
   have ne:∀ b,O b=.th j->(bif Nat.beq b0 b then .th tb.length else O b)=.th j:=fun b e=>by
    cases e':Nat.beq b0 b with
    | true=>have:=Nat.eq_of_beq_eq_true e';subst this;rw [hO] at e;cases e
    | false=>exact e
   cases x with
   | blk ty v=>
    obtain ⟨h,cs,h3,h4,h5,h6,h7⟩:=old
    exact ⟨h,cs,app_at _ h3,ne _ h4,h5,R.mono hle (.app _ _) h6,h7⟩
   | row E t xs=>
    obtain ⟨h,es,h3,h4,h5,h6,h7⟩:=old
    exact ⟨h,es,app_at _ h3,h4,fun b hbb=>ne _ (h5 b hbb),h6.mono (fun _ _=>TR.mono hle),h7⟩
   | fz t xs=>
    obtain ⟨h,h3,h4,h5⟩:=old
    exact ⟨h,app_at _ h3,h4,TR.mono hle h5⟩
   | no=>trivial
   | mk=>
    obtain ⟨h,h3,h4,h5⟩:=old
    exact ⟨h,app_at _ h3,ne _ h4,h5⟩
   | mp kt vt l=>
    obtain ⟨h,es,h3,h4,h5,h6⟩:=old
    exact ⟨h,es,app_at _ h3,ne _ h4,h5,h6.mono hle⟩
   | it n seen=>
    obtain ⟨h,h3,h4,bm,h5,h7⟩:=old
    exact ⟨h,app_at _ h3,ne _ h4,bm,h5,h7⟩
   | rr E Ei t rows out=>
    obtain ⟨h,es,h3,h4,h5,h6,h7,h8⟩:=old
    exact ⟨h,es,app_at _ h3,h4,fun b hbb=>ne _ (h5 b hbb),h6,h7,h8.frame (fun _ _=>TR.mono hle) (fun b hbb=>⟨ne _ hbb,rfl⟩)⟩
  ·have:j=tb.length:=by
    have:=(List.getElem?_eq_some_iff.1 hx).1
    simp at this;omega
   subst this
   rw [List.getElem?_append_right (Nat.le_refl _)] at hx
   simp at hx;subst hx
   have hel:=LR.length (fun _ _=>TR.length) hL
   refine ⟨⟨0,t.sz,.slice (some ⟨b0,0,none⟩) xs.length cp,[]⟩,es,by rw [← hM.len];simp,rfl,fun b hbb=>?_,hL.mono (fun _ _=>TR.mono hle),hel,.inr ⟨b0,cp,sp,rfl,hm,hb,hl,hcp⟩⟩
   simp only [blockOf] at hbb
   subst hbb
   simp
section
variable {P:Program} {c:Cfg} {n:Nat} {a:Act} {l:Env} {il:IEnv} {O:Own} {ρ:List Hd} {tb:Tbl} {w:World} {o:Oper}
theorem run_makeX {ty e s bytes:Nat} {z:Value} {zc:List Value} {x y:Operand} {i j:Int} (he:EOk P ty e s bytes z) (hzc:z.cells=zc.toArray) (ho:o.op=.makeSlice ty x y) (hx:a.eval x=vI i) (hy:a.eval y=vI j)
  (hi:0≤i) (hij:i≤j) (hj:j≤4611686018427387904) (hbt:bytes * j≤281474976710656):FreshX P (execOp a.eval o) (some (i.toNat,j.toNat)) (List.replicate j.toNat zc).flatten e:=by
 intro w
 obtain ⟨f,hf,hk,hb,hz⟩:=he.info
 have hsz:zc.length=s:=by have:=he.cells;rw [hzc] at this;simpa using this
 have hpos:=he.pos
 have hwi:IntKind.i64.wrap i=i:=w64_in (by omega) (by omega)
 have hwj:IntKind.i64.wrap j=j:=w64_in (by omega) (by omega)
 have hrow:=range_rep zc (by omega) j.toNat
 rw [hsz] at hrow
 simp only [execOp,ho,hx,hy]
 have c1:¬ (j < 0):=by omega
 have c2:¬ ((bytes:Int) * j > 281474976710656):=by omega
 have c3:¬ (i < 0):=by omega
 have c4:¬ (i > j):=by omega
 have hroom:∀ (q:Nat) (w:World),(askRoom q).run P w=.ok () w:=fun q w=>by unfold askRoom;split<;>rfl
 by_cases hj0:j.toNat=0
 ·have hj1:j≤0:=by omega
  simp [Instr.makeSlice,run_underlying he.slice,asInt,asIntOf,typeInfo,hf,hb,hwi,hwj,c1,c2,c3,c4,sizeOf,hk,hj0,newRow,newObj,hroom,atB]
  have e0:Array.range 0 = #[]:=rfl
  simp [Sem.run,e0]
 ·have hj1:¬ (j.toNat * s=0):=by
   intro h
   rcases Nat.mul_eq_zero.1 h with h | h<;>omega
  have hrow':Array.map (fun x=>z.cells[x % z.cells.size]!) (Array.range (j.toNat * s))=(List.replicate j.toNat zc).flatten.toArray:=by rw [hzc];rw [← hrow]
  simp [Instr.makeSlice,run_underlying he.slice,asInt,asIntOf,typeInfo,hf,hb,hwi,hwj,c1,c2,c3,c4,sizeOf,hk,hj1,newRow,newObj,zeroValue,hz,hrow',hroom,atB]
  simp [Sem.run]
theorem frV_ok {th:Thing} (hc:COk P c) (hF:Fr n a l) (hE:ER O ρ il l) (hG:GO c O) (h:frV c il o.op=some th) :
  ∃ g cs ty,FreshX P (execOp a.eval o) g cs ty∧∀ (O':Own) (ρ':List Hd) (tb':Tbl) (w':World) (b0:Nat),O.le O'->Pre ρ ρ'->Gm O' ρ' tb' w'->O' b0=.no->Blk w' b0 cs ty ->
   ∃ hd,Gm (fun b=>bif Nat.beq b0 b then .th tb'.length else O' b) (ρ' ++ [hd]) (tb' ++ [th]) w'∧O'.le (fun b=>bif Nat.beq b0 b then .th tb'.length else O' b) ∧
    SR (fun b=>bif Nat.beq b0 b then .th tb'.length else O' b) (ρ' ++ [hd]) (ivF tb'.length th) (.o (.v (atB g b0))):=by
 unfold frV at h
 split at h
 ·rename_i t ho
  split at h<;>first | (cases h;done) | skip
  rename_i v hv
  cases h
  obtain ⟨z,cs,h1,h2,h3⟩:=hc.zero _ _ hv
  refine ⟨none,cs,t,fun w=>?_,fun O' ρ' tb' w' b0 hle hpre hM hO hb=>?_⟩
  ·simp only [execOp,ho]
   simp [Instr.alloc,h1 w,newVar,h2,run_newRow,atB]
  ·obtain ⟨g1,g2⟩:=hM.adopt hO hb h3
   exact ⟨_,g1,g2,.of_S0 (v:=.pt tb'.length []) ⟨_,rfl,⟨b0,v.sz,.bool false,[]⟩,0,by rw [← hM.len];simp,by cases v.sz<;>rfl,rfl⟩⟩
 ·rename_i ty x y ho
  split at h<;>first | (cases h;done) | skip
  rename_i el hd
  split at h<;>first | (cases h;done) | skip
  rename_i t i j ht hx hy
  split at h<;>first | (cases h;done) | skip
  rename_i xs hxs
  cases h
  obtain ⟨h0,h1,h2,rfl⟩:=gmake_some hxs
  obtain ⟨bytes,z,zc,h3,h4,h5,h6⟩:=hc.elem _ _ _ hd ht
  have hb':(bytes:Int) * j≤281474976710656:=by
   have:(bytes:Int)≤128:=by omega
   have:(bytes:Int) * j≤128 * j:=Int.mul_le_mul_of_nonneg_right this (by omega)
   omega
  have hsz:zc.length=t.size:=by have:=h3.cells;rw [h5] at this;simpa using this
  have hfl:∀ m,(List.replicate m zc).flatten.length=m * t.size:=fun m=>by simp [List.length_flatten,hsz]
  refine ⟨some (i.toNat,j.toNat),_,el,run_makeX h3 h5 ho (opd_val hF (iopd_o hE hG hx).1) (opd_val hF (iopd_o hE hG hy).1) h0 h1 (by omega) hb',fun O' ρ' tb' w' b0 hle hpre hM hO hb=>?_⟩
  have e1:(List.replicate i.toNat zc).flatten ++ (List.replicate (j.toNat - i.toNat) zc).flatten=(List.replicate j.toNat zc).flatten:=by
   rw [← List.flatten_append,List.replicate_append_replicate,show i.toNat + (j.toNat - i.toNat)=j.toNat from by omega]
  rw [← e1] at hb
  obtain ⟨g1,g2⟩:=hM.adoptR (t:=t) (xs:=List.replicate i.toNat t.zero) (cp:=j.toNat) hO hb (LR.replicate (h6 O') _) (by simp;omega) (by rw [e1,hfl]) (by simp only [maxLen];omega)
  refine ⟨_,g1,g2,.of_S0 (v:=.rw tb'.length) ⟨_,rfl,⟨0,t.sz,.slice (some ⟨b0,0,none⟩) (List.replicate i.toNat t.zero).length j.toNat,[]⟩,by rw [← hM.len];simp,by simp [atB],rfl⟩⟩
 ·rename_i ty len ps ho
  split at h<;>first | (cases h;done) | skip
  rename_i el hd
  split at h<;>first | (cases h;done) | skip
  rename_i t vs ht hps
  split at h<;>first | (cases h;done) | skip
  rename_i xs hlen hle hxs
  cases h
  have hlen:=Nat.eq_of_beq_eq_true hlen
  have hle:len * t.size≤16777216:=by simpa using hle
  obtain ⟨bytes,z,zc,h3,h4,h5,h6⟩:=hc.elem _ _ _ hd ht
  obtain ⟨f,hf,hk,hbt,hz⟩:=h3.info
  have hsz:zc.length=t.size:=by have:=h3.cells;rw [h5] at this;simpa using this
  have hpos:=h3.pos
  obtain ⟨hxl,es,h7,h8⟩:=numP_ok hxs (iparts_ok hF hE hG hps)
  have hel:=LR.length (fun _ _=>TR.length) h7
  have hfl:∀ m,(List.replicate m zc).flatten.length=m * t.size:=fun m=>by simp [List.length_flatten,hsz]
  have hfill:=h8 (List.replicate len zc).flatten (by rw [hfl,Nat.zero_add,hlen];exact Nat.le_refl _)
  have hes:spl (List.replicate len zc).flatten (0 * t.size) es=es:=by
   simp only [spl,Nat.zero_mul,List.take_zero,List.nil_append]
   rw [List.drop_of_length_le (by rw [hfl,hel,hxl,hlen];omega),List.append_nil]
  rw [hes] at hfill
  have hrow:=range_rep zc (by omega) len
  rw [hsz] at hrow
  have hxl':xs.length=len:=hxl.trans hlen
  have hpos1:len≤len * t.size:=by
   have:=Nat.mul_le_mul_left len hpos
   simpa using this
  refine ⟨some (len,len),es,el,fun w=>?_,fun O' ρ' tb' w' b0 hle' hpre hM hO hb=>?_⟩
  ·simp only [execOp,ho]
   have c0:¬ (len * t.size > 2 ^ 24):=by omega
   have hps':(ps.map fun (i,x)=>(i,a.eval x)).toList=ps.toList.map fun (i,x)=>(i,a.eval x):=by simp
   have hrun:(Instr.buildSlice ty len (ps.map fun (i,x)=>(i,a.eval x))).run P w=.ok (.slice (some ⟨w.heap.size,0,none⟩) len len) { w with heap:=w.heap.push (.cells es.toArray el) }:=by
    by_cases h0:len * t.size=0
    ·have hl0:len=0:=by omega
     subst hl0
     have e0:Array.range 0 = #[]:=rfl
     have hfill':Instr.fill (fun i=>some (i * t.size,t.size)) #[] (ps.toList.map fun (i,x)=>(i,a.eval x))=some es.toArray:=by simpa using hfill
     unfold Instr.buildSlice
     simp only [Sem.run_bind,run_underlying h3.slice,Result.andThen_ok,sizeOf,typeInfo,Sem.run,hf,hk,hps',Nat.zero_mul,e0]
     simp [Sem.run,newRow,newObj,pure,hf,hk,e0,hfill',hps']
    ·have hrow':Array.map (fun x=>z.cells[x % z.cells.size]!) (Array.range (len * t.size))=(List.replicate len zc).flatten.toArray:=by rw [h5];rw [← hrow]
     have hs:=hc.tok.size
     unfold Instr.buildSlice
     simp [run_underlying h3.slice,sizeOf,typeInfo,hf,hk,zeroValue,hz,h0,c0,newRow,newObj,pure,Sem.run,hps']
     have hfill':Instr.fill (fun i=>some (i * t.size,t.size)) (List.replicate len zc).flatten.toArray (ps.toList.map fun x=>(x.fst,a.eval x.snd))=some es.toArray:=hfill
     rw [hrow',hfill']
     rfl
   simp [hrun,atB]
  ·have hb2:Blk w' b0 (es ++ []) el:=by simpa using hb
   obtain ⟨g1,g2⟩:=hM.adoptR (t:=t) (xs:=xs) (cp:=len) hO hb2 (h7.mono (fun _ _=>TR.mono hle')) (by omega) (by simp [hel,hxl']) (by simp only [maxLen];omega)
   refine ⟨_,g1,g2,.of_S0 (v:=.rw tb'.length) ⟨_,rfl,⟨0,t.sz,.slice (some ⟨b0,0,none⟩) xs.length len,[]⟩,by rw [← hM.len];simp,by simp [atB,hxl'],rfl⟩⟩
 ·cases h
end
def dl (i:Nat):List Nat->List Nat
 | []=>[]
 | j :: D=>bif Nat.beq i j then dl i D else j :: dl i D
theorem dl_mem {i j:Nat}:∀ {D:List Nat},j ∈ dl i D->j ∈ D∧j ≠ i
 | [],h=>by cases h
 | x :: D,h=>by
  simp only [dl] at h
  cases hb:Nat.beq i x with
  | true=>rw [hb] at h;exact ⟨List.mem_cons_of_mem _ (dl_mem h).1,(dl_mem h).2⟩
  | false=>
   rw [hb] at h
   rcases List.mem_cons.1 h with rfl | h
   ·refine ⟨List.mem_cons_self ..,fun e=>?_⟩
    subst e;simp at hb
   ·exact ⟨List.mem_cons_of_mem _ (dl_mem h).1,(dl_mem h).2⟩
def SxM (P:Program) (l:List Oper) (K:Act->World->Prop):Nat->List Nat->List Itm->(World->Prop)->Act->World->Prop
 | 0,_,_,_,_,_=>False
 | _ + 1,_,[],_,a,w=>K a w
 | n + 1,D,(t,i,fs) :: L,C,a,w=>
  (i ∈ D->∃ C':World->Prop,(∀ w,C' w->C w)∧C' w∧SxM P l K n (dl i D) L C' a w) ∧
  (i ∉ D->∃ o,nthO l i=some o∧StepX P l.toArray K (SxM P l K n D L) C (t.getD .w) o a w ∧
   (t.getD .w=.w->∀ j ∈ fs,j ∉ D->∃ oj,nthO l j=some oj∧opO P l.toArray (QL K (fun _ _ _=>False) (fun _ _=>False)) oj (fun a w=>∃ C':World->Prop,(∀ w,C' w->C w)∧C' w∧SxM P l K n (j :: D) ((t,i,fs) :: L) C' a w) a w))
def apD (ops:List Oper) (i:Nat):List Nat->Bool
 | []=>true
 | j :: D=>(match nthO ops i,nthO ops j with
  | some oi,some oj=>match oi.dst,oj.dst with
   | some d,some d'=>!(Nat.beq d d') && noSlot d (usesF oj.op)
   | _,_=>true
  | _,_=>false) && apD ops i D
def leftN (D:List Nat):List Itm->Nat
 | []=>0
 | (_,i,_) :: L=>(bif D.contains i then 0 else 1) + leftN D L
def tg (L:List Itm):List (Tag×Nat):=L.map fun x=>(x.1.getD .w,x.2.1)
def okM (ops:List Oper) (Z:Nat->Bool):Nat->List Nat->List Itm->Array Bool->Bool
 | 0,_,_,_=>false
 | _ + 1,_,[],listed=>(Region.ready .any ops.toArray listed).isEmpty
 | n + 1,D,(t,i,fs) :: L,listed=>match D.contains i with
  | true=>(match t with
   | none=>true
   | some _=>false) && apD ops i (dl i D) && Nat.beq (leftN (dl i D) L) (leftN D L) && okM ops Z n (dl i D) L listed
  | false=>(Region.ready .any ops.toArray listed).contains i && apD ops i D &&
   (match t.getD .w with
    | .w=>!(Z i) && ((Region.ready .any ops.toArray listed).all (fun j=>j == i || (fs.contains j && !(D.contains j)))) &&
     allB (fun j=>D.contains j || (!(Z j) && apD ops j D && Nat.beq (leftN (j :: D) ((t,i,fs) :: L)) (leftN D L) && okM ops Z n (j :: D) ((t,i,fs) :: L) (listed.setIfInBounds j true))) fs
    | .c=>Region.free .any ops.toArray listed i && Z i && cOkB ops.toArray listed i (tg L)
    | .p=>Region.free .any ops.toArray listed i && Z i
    | .r=>Region.free .any ops.toArray listed i && Z i && lateOk ops.toArray i (lateOf ops.toArray i) && ((lateOf ops.toArray i).all fun j=>!listed.getD j false) && ((List.range ops.toArray.size).all fun j=>j == i || (lateOf ops.toArray i).contains j || listed.getD j true || Z j)
    | .b=>!(Z i) && ((Region.ready .any ops.toArray listed).all fun j=>j == i)) && okM ops Z n D L (listed.setIfInBounds i true)
theorem any_of_sxm {P:Program} {K:Act->World->Prop} {l:List Oper} {Z:Nat->Bool} (hsel:Region.noSelect l.toArray=true):∀ (n:Nat) (D:List Nat) (L:List Itm) (C:World->Prop) (listed:Array Bool) (a:Act) (w:World),(∀ t k,(t,k) ∈ tg L->t=.w∨t=.b->Z k=false)->okM l Z n D L listed=true->C w->SxM P l K n D L C a w ->
  AnyC P l.toArray (CB (tg L) C) Z K (leftN D L) listed a w
 | 0,D,L,C,listed,a,w,hZ,hB,hC,h=>h.elim
 | n + 1,D,[],C,listed,a,w,hZ,hB,hC,h=>⟨fun _=>hC,by simpa [okM] using hB,h⟩
 | n + 1,D,(t,i,fs) :: L,C,listed,a,w,hZ,hB,hC,h=>by
  have etg:tg ((t,i,fs) :: L)=(t.getD .w,i) :: tg L:=rfl
  have hZ':∀ t k,(t,k) ∈ tg L->t=.w∨t=.b->Z k=false:=fun t k hm=>hZ t k (by rw [etg];exact List.mem_cons_of_mem _ hm)
  simp only [okM] at hB
  cases hDi:D.contains i with
  | true=>
   rw [hDi] at hB
   simp only [Bool.and_eq_true] at hB
   obtain ⟨C',h1,h2,h3⟩:=h.1 (by simpa using hDi)
   have:=any_of_sxm hsel n (dl i D) L C' listed a w hZ' hB.2 h2 h3
   rw [Nat.eq_of_beq_eq_true hB.1.2] at this
   simp only [leftN,hDi,cond_true,Nat.zero_add]
   exact AnyC.wide (CB.cons (fun w hw=>h1 w hw)) this
  | false=>
   rw [hDi] at hB
   simp only [Bool.and_eq_true] at hB
   obtain ⟨⟨⟨hr,_⟩,ht⟩,hB'⟩:=hB
   have hr':i ∈ Region.ready .any l.toArray listed:=by simpa using hr
   obtain ⟨o,ho,hstep,hearly⟩:=h.2 (by simpa using hDi)
   have hi:l.toArray[i]? = some o:=by rw [← nthO_eq];exact ho
   simp only [leftN,hDi,cond_false]
   rw [Nat.add_comm]
   have ih:=any_of_sxm (P:=P) (K:=K) (Z:=Z) hsel n
   cases htt:t.getD .w with
   | w=>
    rw [htt] at ht hstep hearly
    simp only [StepX,opO] at hstep
    simp only [Bool.and_eq_true] at ht
    have hzf:Z i=false:=by simpa using ht.1.1
    refine ⟨fun _=>hC,fun h0=>(by rw [h0] at hr';cases hr'),fun j hj=>?_⟩
    have hj2:=List.all_eq_true.1 ht.1.2 j hj
    simp only [Bool.or_eq_true,beq_iff_eq,Bool.and_eq_true] at hj2
    by_cases hji:j=i
    ·subst hji
     unfold wpOp
     simp only [hi]
     split
     ·rename_i hw
      rw [if_pos hw] at hstep
      exact .inl (Oper.wp_mono (fun a' w' ⟨C',h1,h2,h3⟩=>⟨fun e=>by simp [hzf] at e,AnyC.wide (CB.cons (fun w hw=>h1 w hw)) (ih D L C' _ a' w' hZ' hB' h2 h3)⟩) hstep)
     ·rename_i hw
      rw [if_neg hw] at hstep
      obtain ⟨C',h1,h2,h3⟩:=hstep
      exact ⟨fun e=>by simp [hzf] at e,AnyC.wide (CB.cons (fun w hw=>h1 w hw)) (ih D L C' _ _ _ hZ' hB' h2 h3)⟩
    ·obtain ⟨hjf,hjD⟩:fs.contains j=true∧(!D.contains j)=true:=by
      rcases hj2 with h' | h'
      ·exact absurd h' hji
      ·exact h'
     have hjf:j ∈ fs:=by simpa using hjf
     have hjD':D.contains j=false:=by simpa using hjD
     obtain ⟨oj,hoj,hrun⟩:=hearly rfl j hjf (by simpa using hjD')
     have hoj':l.toArray[j]? = some oj:=by rw [← nthO_eq];exact hoj
     have hok:=allB_mem ht.2 j hjf
     simp only [hjD',Bool.false_or,Bool.and_eq_true] at hok
     obtain ⟨⟨⟨hzj,_⟩,hn⟩,hok⟩:=hok
     have hzj:Z j=false:=by simpa using hzj
     have hn:=Nat.eq_of_beq_eq_true hn
     have go:∀ C' a' w',C' w'->SxM P l K n (j :: D) ((t,i,fs) :: L) C' a' w'->AnyC P l.toArray (CB (tg ((t,i,fs) :: L)) C') Z K (leftN D L) (listed.setIfInBounds j true) a' w':=fun C' a' w' h2 h3=>by
      have:=ih (j :: D) ((t,i,fs) :: L) C' (listed.setIfInBounds j true) a' w' hZ hok h2 h3
      rw [hn] at this
      exact this
     simp only [opO] at hrun
     unfold wpOp
     simp only [hoj']
     split
     ·rename_i hw
      rw [if_pos hw] at hrun
      exact .inl (Oper.wp_mono (fun a' w' ⟨C',h1,h2,h3⟩=>⟨fun e=>by simp [hzj] at e,AnyC.wide (CB.mono (fun w hw=>h1 w hw)) (go C' a' w' h2 h3)⟩) hrun)
     ·rename_i hw
      rw [if_neg hw] at hrun
      obtain ⟨C',h1,h2,h3⟩:=hrun
      exact ⟨fun e=>by simp [hzj] at e,AnyC.wide (CB.mono (fun w hw=>h1 w hw)) (go C' _ _ h2 h3)⟩
   | p=>
    rw [htt] at ht hstep
    obtain ⟨v,hy,h⟩:=hstep
    simp only [Bool.and_eq_true] at ht
    exact first_op (C':=fun _=>True) (D:=fun _=>False) hi (Region.noSelect_spec hsel) (fun _ _ h=>h.elim) (CB.down ht.2 hZ) _ listed a w (Region.free_spec hi ht.1) (fun _ h=>h.elim) (fun _ _ _ _ _ _ _ _ _ _ _ _ _=>trivial) hr' trivial (fun w _=>hy w)
     (AnyC.wide (CB.cons (fun _ h=>h)) (ih D L C _ _ _ hZ' hB' hC h))
   | c=>
    rw [htt] at ht hstep
    obtain ⟨v,hy,h⟩:=hstep
    simp only [Bool.and_eq_true] at ht
    rw [etg,htt] at hZ ⊢
    exact first_c hsel hi ht.1.1 ht.1.2 hZ ht.2 hr' hC hy (ih D L C _ _ _ hZ' hB' hC h)
   | r=>
    rw [htt] at ht hstep
    obtain ⟨v,hy,h⟩:=hstep
    simp only [Bool.and_eq_true] at ht
    obtain ⟨⟨⟨⟨hf,hz⟩,hl⟩,hl2⟩,hl3⟩:=ht
    refine first_op (C':=fun w'=>w'=w) (D:=fun j=>j ∈ lateOf l.toArray i) hi (Region.noSelect_spec hsel) ?_ (CB.down hz hZ) _ listed a w (Region.free_spec hi hf) ?_ ?_ hr' rfl (fun w' e=>by rw [e];exact hy)
     (AnyC.wide (CB.cons (fun _ h=>h)) (ih D L C _ _ _ hZ' hB' hC h))
    ·intro j oj hj hoj
     have:=List.all_eq_true.1 hl j hj
     simp only [hoj] at this
     obtain ⟨e,he,hb⟩:=Array.any_eq_true'.1 this
     simp only [Bool.and_eq_true,Bool.or_eq_true,beq_iff_eq,List.contains_iff_mem] at hb
     exact ⟨e,he,hb.1,hb.2⟩
    ·intro j hj
     have:=List.all_eq_true.1 hl2 j hj
     simpa using this
    ·intro j oj hoj hji hjD hun _ w1 w2 _ hz12 _ e
     have:=List.all_eq_true.1 hl3 j (List.mem_range.2 (Array.getElem?_eq_some_iff.1 hoj).1)
     simp only [Bool.or_eq_true,beq_iff_eq,List.contains_iff_mem,hji,hjD,hun,Bool.false_eq_true,false_or] at this
     rw [hz12 this,e]
   | b=>
    rw [htt] at ht hstep
    simp only [StepX,opO] at hstep
    simp only [Bool.and_eq_true] at ht
    have hzf:Z i=false:=by simpa using ht.1
    rw [etg,htt]
    refine ⟨fun _=>hC,fun h0=>(by rw [h0] at hr';cases hr'),fun j hj=>?_⟩
    have hji:j=i:=by
     have:=List.all_eq_true.1 ht.2 j hj
     simpa using this
    subst hji
    have hset:(listed.setIfInBounds j true).getD j false=true:=by
     have hun:=(mem_ready.1 hr').1
     rcases Nat.lt_or_ge j listed.size with h' | h'
     ·simp [h']
     ·simp [Array.getElem?_eq_none h'] at hun
    have hup:∀ {C':World->Prop} (L':Array Bool) (w:World),L'.getD j false=true->CB (tg L) C' L' w->CB ((.b,j) :: tg L) C L' w:=fun L' w hl _ hb=>by
     have:=hb j (List.mem_cons_self ..)
     rw [hl] at this
     cases this
    unfold wpOp
    simp only [hi]
    split
    ·rename_i hw
     rw [if_pos hw] at hstep
     exact .inl (Oper.wp_mono (fun a' w' ⟨C',h2,h3⟩=>⟨fun e=>by simp [hzf] at e,AnyC.wideB hup hset (ih D L C' _ a' w' hZ' hB' h2 h3)⟩) hstep)
    ·rename_i hw
     rw [if_neg hw] at hstep
     obtain ⟨C',h2,h3⟩:=hstep
     exact ⟨fun e=>by simp [hzf] at e,AnyC.wideB hup hset (ih D L C' _ _ _ hZ' hB' h2 h3)⟩
def okAllM (l:List Oper) (π:List Itm):Bool:=
 Region.noSelect l.toArray && Nat.beq (leftN [] π) l.length && okM l (fun j=>!(π.any fun x=>(match x.1.getD .w with
  | .w=>true
  | .b=>true
  | _=>false) && Nat.beq x.2.1 j)) (2 * l.length + 2) [] π (Array.replicate l.length false)
theorem a_drawM {P:Program} {K:Act->World->Prop} {l:List Oper} (π:List Itm) {a:Act} {w:World} (C:World->Prop) (hB:okAllM l π=true)
  (hC:C { w with drawn:=w.drawn + 1 }) (h:SxM P l K (2 * l.length + 2) [] π C a { w with drawn:=w.drawn + 1 }):wpAny P .any l.toArray (Qn K) l.toArray.size (Array.replicate l.toArray.size false) a { w with drawn:=w.drawn + 1 }:=by
 simp only [okAllM,Bool.and_eq_true] at hB
 obtain ⟨⟨hs,hl⟩,ho⟩:=hB
 have hZ:∀ t k,(t,k) ∈ tg π->t=.w∨t=.b->(fun j=>!(π.any fun x=>(match x.1.getD .w with
  | .w=>true
  | .b=>true
  | _=>false) && Nat.beq x.2.1 j)) k=false:=fun t k hm ht=>by
  obtain ⟨x,hx,he⟩:=List.mem_map.1 hm
  cases he
  have:(π.any fun y=>(match y.1.getD .w with
   | .w=>true
   | .b=>true
   | _=>false) && Nat.beq y.2.1 x.2.1)=true:=List.any_eq_true.2 ⟨x,hx,by rcases ht with h | h<;>rw [h]<;>simp⟩
  simp [this]
 have:=(any_of_sxm hs _ [] π C _ a _ hZ ho hC h).any
 rw [Nat.eq_of_beq_eq_true hl] at this
 simpa using this
def frK:Op->Bool
 | .alloc _=>true
 | .makeSlice _ _ _=>true
 | .buildSlice _ _ _=>true
 | _=>false
theorem frV_K {c:Cfg} {il:IEnv} {o:Op} {th:Thing} (h:frV c il o=some th):frK o=true:=by
 unfold frV at h
 split at h<;>first | rfl | cases h
theorem frOp_spec {o:Oper} {d:Nat} (h:frOp o=some d):o.dst=some d∧o.guard=none:=by
 unfold frOp at h
 split at h<;>first | (cases h;done) | skip
 rename_i h1 h2
 cases h
 exact ⟨h2,h1⟩
theorem exec_uses {a a':Act} {o:Oper} (hk:frK o.op=true) (h:∀ x ∈ usesF o.op,a.eval x=a'.eval x):execOp a.eval o=execOp a'.eval o:=by
 cases ho:o.op with
 | alloc t=>simp only [execOp,ho]
 | makeSlice t x y=>
  rw [ho] at h
  have h1:=h x (by simp [usesF])
  have h2:=h y (by simp [usesF])
  simp only [execOp,ho,h1,h2]
 | buildSlice t n ps=>
  rw [ho] at h
  have h1:(ps.map fun (i,x)=>(i,a.eval x))=ps.map fun (i,x)=>(i,a'.eval x):=by
   apply Array.map_congr_left
   rintro ⟨i,x⟩ hm
   simp only [h x (by simp only [usesF];exact List.mem_map.2 ⟨(i,x),by simpa using hm,rfl⟩)]
  simp only [execOp,ho]
  rw [h1]
 | _=>rw [ho] at hk;cases hk
theorem eval_put {a:Act} {d:Nat} {v:Value} {x:Operand} (h:slotOf x ≠ some d):(a.put (some d) v).eval x=a.eval x:=by
 cases x with
 | tmp t=>
  have:d ≠ t:=fun e=>h (by rw [e];rfl)
  simp only [Act.eval,Act.put,Array.getD_eq_getD_getElem?]
  rw [Array.getElem?_setIfInBounds_ne this]
 | _=>rfl
def recT (P:Program) (ops:List Oper) (bf:Nat->Nat) (gf:Nat->Option (Nat×Nat)) (cf:Nat->List Value) (tf:Nat->Nat) (j:Nat) (tm:Array Value) (il:IEnv):Prop:=
 ∃ oj d,nthO ops j=some oj∧frOp oj=some d∧frK oj.op=true∧FreshX P (execOp (Act.eval ⟨tm,[]⟩) oj) (gf j) (cf j) (tf j)∧tm[d]? = some (atB (gf j) (bf j))∧geti il d=none
def recW (bf:Nat->Nat) (cf:Nat->List Value) (tf:Nat->Nat) (n0:Nat) (j:Nat) (O:Own) (w:World):Prop:=O (bf j)=.no∧n0≤bf j∧Blk w (bf j) (cf j) (tf j)
def Dn (P:Program) (ops:List Oper) (n0:Nat) (D:List Nat) (tm:Array Value) (il:IEnv) (O:Own) (w:World):Prop:=
 ∃ bf gf cf tf,(∀ j ∈ D,recT P ops bf gf cf tf j tm il)∧(∀ j ∈ D,recW bf cf tf n0 j O w)∧∀ i ∈ D,∀ j ∈ D,bf i=bf j->i=j
theorem noSlot_mem {d:Nat} {l:List Operand} (h:noSlot d l=true):∀ x ∈ l,slotOf x ≠ some d:=fun x hx e=>by
 have:=List.all_eq_true.1 h x hx
 simp [e] at this
theorem apD_mem {ops:List Oper} {i:Nat}:∀ {D:List Nat},apD ops i D=true->∀ j ∈ D,∀ oi oj,nthO ops i=some oi->nthO ops j=some oj->∀ d d',oi.dst=some d->oj.dst=some d'->d ≠ d'∧∀ x ∈ usesF oj.op,slotOf x ≠ some d
 | [],_,j,hj,_,_,_,_,_,_,_,_=>by cases hj
 | k :: D,h,j,hj,oi,oj,hi,hoj,d,d',h1,h2=>by
  simp only [apD,Bool.and_eq_true] at h
  rcases List.mem_cons.1 hj with rfl | hj
  ·have h:=h.1
   simp only [hi,hoj,h1,h2,Bool.and_eq_true] at h
   exact ⟨fun e=>by subst e;simp at h,noSlot_mem h.2⟩
  ·exact apD_mem h.2 j hj oi oj hi hoj d d' h1 h2
theorem recT_put {P:Program} {ops:List Oper} {bf:Nat->Nat} {gf:Nat->Option (Nat×Nat)} {cf:Nat->List Value} {tf:Nat->Nat} {D:List Nat} {i:Nat} {o:Oper} {E:Ev} (hap:apD ops i D=true) (ho:nthO ops i=some o) {a:Act} {il il':IEnv} (h:∀ j ∈ D,recT P ops bf gf cf tf j a.tmps il)
  (x:Value) (v:IV) (e:putE E o.dst v il=some il'):∀ j ∈ D,recT P ops bf gf cf tf j (a.put o.dst x).tmps il':=by
 intro j hj
 obtain ⟨oj,d,h1,h2,h3,h4,h5,h6⟩:=h j hj
 obtain ⟨hd,hg⟩:=frOp_spec h2
 cases hod:o.dst with
 | none=>
  rw [hod] at e
  simp only [putE,Option.some.injEq] at e
  subst e
  exact ⟨oj,d,h1,h2,h3,h4,h5,h6⟩
 | some d0=>
  obtain ⟨n1,n2⟩:=apD_mem hap j hj o oj ho h1 d0 d hod hd
  rw [hod] at e
  refine ⟨oj,d,h1,h2,h3,?_,?_,?_⟩
  ·have:=exec_uses (a:=⟨(a.put (some d0) x).tmps,[]⟩) (a':=⟨a.tmps,[]⟩) h3 (fun y hy=>(eval_put (a:=⟨a.tmps,[]⟩) (v:=x) (n2 y hy)))
   rw [this];exact h4
  ·simp only [Act.put]
   rw [Array.getElem?_setIfInBounds_ne n1];exact h5
  ·exact geti_put (o:=o) (fun d' hd'=>by rw [hod] at hd';cases hd';exact n1) h6 (by rw [hod];exact e)
theorem recT_lit {P:Program} {ops:List Oper} {bf:Nat->Nat} {gf:Nat->Option (Nat×Nat)} {cf:Nat->List Value} {tf:Nat->Nat} {D:List Nat} {tm:Array Value} {il:IEnv} (h:∀ j ∈ D,recT P ops bf gf cf tf j tm il) {dj:Nat} {g:Bool} (hg:geti il dj=some (.o (.b g))):∀ j ∈ D,recT P ops bf gf cf tf j tm ((dj,.o (.b g)) :: il):=by
 intro j hj
 obtain ⟨oj,d,h1,h2,h3,h4,h5,h6⟩:=h j hj
 exact ⟨oj,d,h1,h2,h3,h4,h5,geti_lit h6 hg⟩
theorem recW_stp {bf:Nat->Nat} {cf:Nat->List Value} {tf:Nat->Nat} {n0 j:Nat} {O O':Own} {ρ ρ':List Hd} {w w':World} {M:Nat->Prop} (h:recW bf cf tf n0 j O w) (hS:Stp M O ρ w O' ρ' w'):recW bf cf tf n0 j O' w':=by
 obtain ⟨h1,h2,h3⟩:=h
 exact ⟨hS.no _ h3.lt h1,h2,h3.same (hS.kept.block _ h3.lt (fun ⟨id,_,e⟩=>by rw [h1] at e;cases e))⟩
section
variable {P:Program} {E:Ev} {ops:List Oper} {K:Act->World->Prop}
theorem early_ok {n0:Nat} {D:List Nat} {st:St} {a:Act} {O:Own} {ρ:List Hd} {w:World} {j:Nat} (hc:COk P E.c) (hF:FS E.n a st O ρ) (hM:Gm O ρ st.tb w) (hG:GO E.c O) (hn0:n0≤w.heap.size) (hD:Dn P ops n0 D a.tmps st.env O w) (hb:frB E st.env ops j=true) (hjD:j ∉ D) (hap:apD ops j D=true) :
  ∃ oj v w',nthO ops j=some oj∧oj.guard=none∧(execOp a.eval oj).run P w=.ok (.value v) w'∧FS E.n (a.put oj.dst v) st O ρ∧Gm O ρ st.tb w'∧Stp (fun _=>False) O ρ w O ρ w'∧Dn P ops n0 (j :: D) (a.put oj.dst v).tmps st.env O w':=by
 unfold frB at hb
 split at hb<;>first | (cases hb;done) | skip
 rename_i o ho
 split at hb<;>first | (cases hb;done) | skip
 rename_i d th hfd hth
 split at hb<;>first | (cases hb;done) | skip
 rename_i hgd
 obtain ⟨hod,hg⟩:=frOp_spec hfd
 simp only [Bool.and_eq_true] at hb
 have hdn:d < E.n:=by simpa [Nat.blt_eq] using hb.1
 have hself:=noSlot_mem hb.2
 obtain ⟨l,hFr,hER⟩:=hF.1
 obtain ⟨g,cs,ty,hX,_⟩:=frV_ok (a:={ a with defers:=[] }) (P:=P) hc hFr hER hG hth
 have hX':FreshX P (execOp a.eval o) g cs ty:=hX
 have hrun:=hX' w
 have hk:Kept none1 w { w with heap:=w.heap.push (.cells cs.toArray ty) }:=kept_alloc w _
 have hS:Stp (fun _=>False) O ρ w O ρ { w with heap:=w.heap.push (.cells cs.toArray ty) }:=⟨.refl _,.refl _,fun _ _ h=>h,fun _ _ _ h _=>h,hk.wide (fun _ h=>h.elim)⟩
 have hM1:Gm O ρ st.tb { w with heap:=w.heap.push (.cells cs.toArray ty) }:=
  (hM.step (M:=fun _=>False) (O':=O) (ρ':=ρ) (tb':=st.tb) (hk.wide (fun _ h=>h.elim)) (fun _ _ _=>rfl) (fun b hb=>hM.lt b (Nat.le_trans hk.size hb)) (fun b all h=>.inl h) (.refl _) hM.len (fun j x hx=>.inl ⟨hx,fun h=>h⟩)).1
 refine ⟨o,_,_,ho,hg,hrun,?_,hM1,hS,?_⟩
 ·rw [hod];exact ⟨hF.1.other hgd,by rw [put_defers];exact hF.2⟩
 ·obtain ⟨bf,gf,cf,tf,h1,h2,h3⟩:=hD
  have up:∀ {α:Type} (f:Nat->α) (x:α) (k:Nat),k ∈ D->(bif Nat.beq j k then x else f k)=f k:=fun f x k hk=>by
   cases hb:Nat.beq j k with
   | true=>have:=Nat.eq_of_beq_eq_true hb;subst this;exact absurd hk hjD
   | false=>rfl
  have hjj:Nat.beq j j=true:=by simp
  refine ⟨fun k=>bif Nat.beq j k then w.heap.size else bf k,fun k=>bif Nat.beq j k then g else gf k,fun k=>bif Nat.beq j k then cs else cf k,fun k=>bif Nat.beq j k then ty else tf k,fun k hk=>?_,fun k hk=>?_,fun i hi k hk e=>?_⟩
  ·rcases List.mem_cons.1 hk with rfl | hk
   ·refine ⟨o,d,ho,hfd,frV_K hth,?_,?_,hgd⟩
    ·simp only [hjj,cond_true]
     have:=exec_uses (a:=⟨(a.put o.dst (atB g w.heap.size)).tmps,[]⟩) (a':=a) (o:=o) (frV_K hth) (fun y hy=>by
      rw [hod]
      exact eval_put (a:=a) (v:=atB g w.heap.size) (hself y hy))
     rw [this];exact hX'
    ·simp only [hjj,cond_true]
     have hs:a.tmps.size=E.n:=hFr.size
     rw [hod]
     simp [Act.put,hs,hdn]
   ·obtain ⟨oj,d',g1,g2,g3,g4,g5,g6⟩:=h1 k hk
    obtain ⟨hd',_⟩:=frOp_spec g2
    obtain ⟨n1,n2⟩:=apD_mem hap k hk o oj ho g1 d d' hod hd'
    refine ⟨oj,d',g1,g2,g3,?_,?_,g6⟩
    ·simp only [up gf g k hk,up cf cs k hk,up tf ty k hk]
     have:=exec_uses (a:=⟨(a.put o.dst (atB g w.heap.size)).tmps,[]⟩) (a':=⟨a.tmps,[]⟩) (o:=oj) g3 (fun y hy=>by
      rw [hod]
      exact eval_put (a:=⟨a.tmps,[]⟩) (v:=atB g w.heap.size) (n2 y hy))
     rw [this];exact g4
    ·simp only [up gf g k hk,up bf w.heap.size k hk]
     rw [hod]
     simp only [Act.put]
     rw [Array.getElem?_setIfInBounds_ne n1];exact g5
  ·rcases List.mem_cons.1 hk with rfl | hk
   ·simp only [recW,hjj,cond_true]
    exact ⟨hM.lt _ (Nat.le_refl _),hn0,blk_new ty cs⟩
   ·have:=recW_stp (h2 k hk) hS
    simp only [recW,up bf w.heap.size k hk,up cf cs k hk,up tf ty k hk]
    exact this
  ·have old:∀ k ∈ D,bf k ≠ w.heap.size:=fun k hk e=>by
    have:=(h2 k hk).2.2.lt
    omega
   rcases List.mem_cons.1 hi with hi1 | hi1<;>rcases List.mem_cons.1 hk with hk1 | hk1
   ·rw [hi1,hk1]
   ·rw [hi1] at e ⊢
    simp only [hjj,cond_true,up bf w.heap.size k hk1] at e
    exact absurd e.symm (old k hk1)
   ·rw [hk1] at e ⊢
    simp only [hjj,cond_true,up bf w.heap.size i hi1] at e
    exact absurd e (old i hi1)
   ·simp only [up bf w.heap.size i hi1,up bf w.heap.size k hk1] at e
    exact h3 i hi1 k hk1 e
end
section
variable {P:Program} {E:Ev} {ops:List Oper} {K:Act->World->Prop}
theorem evM_ok {β:Type} {k:St->Option β} {r:β} {Z:Nat->Bool} {O0:Own} {ρ0:List Hd} {w0:World} (hc:COk P E.c) (hct:CtsOk P E)
  (hK:∀ st a w O ρ,k st=some r->FS E.n a st O ρ->Gm O ρ st.tb w->GO E.c O->Stp (fun _=>True) O0 ρ0 w0 O ρ w->K a w) :
  ∀ (n:Nat) (D:List Nat) (L:List Itm) (listed:Array Bool) (Cp:World->Prop) (cr:List Nat) (st:St) (a:Act) (O:Own) (ρ:List Hd) (w:World),okM ops Z n D L listed=true->evM E ops k L cr st=some r->FS E.n a st O ρ->Gm O ρ st.tb w->GO E.c O ->
   (∀ O' ρ' w',Stq (· ∉ cr) O ρ w O' ρ' w'->Cp w')->Stp (fun _=>True) O0 ρ0 w0 O ρ w->Dn P ops w0.heap.size D a.tmps st.env O w->∃ CR,(∀ i,i ∈ cr->i ∈ CR)∧SxM P ops K n D L (fun w'=>Cp w'∧Cls CR O w w') a w
 | 0,D,L,listed,Cp,cr,st,a,O,ρ,w,hB,e,hF,hM,hG,hst,hS,hD=>by simp [okM] at hB
 | n + 1,D,[],listed,Cp,cr,st,a,O,ρ,w,hB,e,hF,hM,hG,hst,hS,hD=>⟨cr,fun _ h=>h,hK st a w O ρ e hF hM hG hS⟩
 | n + 1,D,(t,i,fs) :: L,listed,Cp,cr,st,a,O,ρ,w,hB,e,hF,hM,hG,hst,hS,hD=>by
  have ih:=evM_ok (k:=k) (r:=r) (Z:=Z) hc hct hK n
  have e0:=e
  simp only [okM] at hB
  simp only [evM] at e
  split at e<;>first | (cases e;done) | skip
  rename_i o ho hfs
  split at e<;>first | (cases e;done) | skip
  rename_i hchg
  cases hDi:D.contains i with
  | true=>
   have hi:i ∈ D:=by simpa using hDi
   rw [hDi] at hB
   simp only [Bool.and_eq_true] at hB
   obtain ⟨⟨⟨ht,hap⟩,_⟩,hB'⟩:=hB
   cases t with
   | some t=>cases ht
   | none=>
   obtain ⟨bf,gf,cf,tf,h1,h2,h3⟩:=hD
   obtain ⟨oi,d,q1,q2,q3,q4,q5,q6⟩:=h1 i hi
   rw [ho] at q1;cases q1
   obtain ⟨hod,hg⟩:=frOp_spec q2
   rw [q2] at e
   simp only at e
   split at e<;>first | (cases e;done) | skip
   rename_i d1 th hd1 hth
   cases hd1
   split at e<;>first | (cases e;done) | skip
   rename_i hdn
   obtain ⟨l,hFr,hER⟩:=hF.1
   obtain ⟨g,cs,ty,hX,had⟩:=frV_ok (a:={ a with defers:=[] }) (P:=P) hc hFr hER hG hth
   have same:=(q4 w).symm.trans (hX w)
   simp only [Result.ok.injEq,Next.value.injEq] at same
   obtain ⟨s1,s2⟩:=same
   have s1:=atB_inj s1
   have s3:=congrArg World.heap s2
   simp only [Array.push_eq_push,Obj.cells.injEq,and_true] at s3
   obtain ⟨s4,s5⟩:=s3
   have s4:cf i=cs:=by simpa using congrArg Array.toList s4
   obtain ⟨hO,hn0,hb⟩:=h2 i hi
   rw [s4,s5] at hb
   obtain ⟨hd,g1,g2,g3⟩:=had O ρ st.tb w (bf i) (.refl _) (.refl _) hM hO hb
   have hpre:Pre ρ (ρ ++ [hd]):=.app _ _
   have hq:Stq (· ∉ cr) O ρ w (fun b=>bif Nat.beq (bf i) b then .th st.tb.length else O b) (ρ ++ [hd]) w:=by
    refine ⟨hpre,g2,fun b id _ h _=>?_,Kept.refl _ _⟩
    cases e':Nat.beq (bf i) b with
    | true=>have:=Nat.eq_of_beq_eq_true e';subst this;rw [hO] at h;cases h
    | false=>exact h
   have hS2:Stp (fun _=>True) O0 ρ0 w0 (fun b=>bif Nat.beq (bf i) b then .th st.tb.length else O b) (ρ ++ [hd]) w:=by
    refine ⟨hS.pre.trans hpre,hS.im.trans g2,fun b hb h=>?_,fun b id hb h hn=>absurd trivial hn,hS.kept⟩
    cases e':Nat.beq (bf i) b with
    | true=>have:=Nat.eq_of_beq_eq_true e';omega
    | false=>exact hS.no b hb h
   have hF2:FS E.n a ⟨(d,ivF st.tb.length th) :: st.env,st.tb ++ [th],st.df⟩ (fun b=>bif Nat.beq (bf i) b then .th st.tb.length else O b) (ρ ++ [hd]):=by
    refine ⟨⟨(d,.o (.v (atB g (bf i)))) :: l,⟨hFr.defers,hFr.size,fun t u hu=>?_⟩,rfl,g3,hER.mono g2 hpre⟩,hF.2.mono g2 hpre⟩
    simp only [get?] at hu
    cases hb:Nat.beq d t with
    | true=>rw [hb] at hu;cases hu;rw [← Nat.eq_of_beq_eq_true hb,← s1];exact q5
    | false=>rw [hb] at hu;exact hFr.has t u hu
   have hDn:Dn P ops w0.heap.size (dl i D) a.tmps ((d,ivF st.tb.length th) :: st.env) (fun b=>bif Nat.beq (bf i) b then .th st.tb.length else O b) w:=by
    refine ⟨bf,gf,cf,tf,fun j hj=>?_,fun j hj=>?_,fun x hx y hy e=>h3 x (dl_mem hx).1 y (dl_mem hy).1 e⟩
    ·obtain ⟨oj,d',r1,r2,r3,r4,r5,r6⟩:=h1 j (dl_mem hj).1
     obtain ⟨n1,_⟩:=apD_mem hap j hj o oj ho r1 d d' hod (frOp_spec r2).1
     refine ⟨oj,d',r1,r2,r3,r4,r5,?_⟩
     simp only [geti]
     cases hb:Nat.beq d d' with
     | true=>exact absurd (Nat.eq_of_beq_eq_true hb) n1
     | false=>exact r6
    ·obtain ⟨u1,u2,u3⟩:=h2 j (dl_mem hj).1
     refine ⟨?_,u2,u3⟩
     cases e':Nat.beq (bf i) (bf j) with
     | true=>exact absurd (h3 i hi j (dl_mem hj).1 (Nat.eq_of_beq_eq_true e')).symm (dl_mem hj).2
     | false=>simp only [e',cond_false];exact u1
   obtain ⟨CR,k1,k2⟩:=ih (dl i D) L listed Cp cr _ a _ _ w hB' e hF2 g1 (hG.mono g2) (fun O' ρ' w' h=>hst _ _ _ (hq.trans h)) hS2 hDn
   refine ⟨cr,fun _ h=>h,fun _=>⟨_,fun w' h=>⟨h.1,h.2.wide (fun b hb=>?_)⟩,⟨hst _ _ _ (.refl _ _ _ _),Kept.refl _ _⟩,k2⟩,fun hn=>absurd hi hn⟩
   cases e':Nat.beq (bf i) b with
   | true=>have:=Nat.eq_of_beq_eq_true e';subst this;exact .inl hO
   | false=>
    simp only [e',cond_false] at hb
    exact hb.imp (fun h=>h) (fun ⟨id,hn,h⟩=>⟨id,fun hc=>hn (k1 id hc),h⟩)
  | false=>
   have hi:i ∉ D:=by simpa using hDi
   rw [hDi] at hB
   simp only [Bool.and_eq_true] at hB
   obtain ⟨⟨⟨hr,hap⟩,ht⟩,hB'⟩:=hB
   have hearly:t.getD .w=.w->∀ j ∈ fs,j ∉ D->∃ oj,nthO ops j=some oj∧opO P ops.toArray (QL K (fun _ _ _=>False) (fun _ _=>False)) oj (fun a' w'=>∃ C':World->Prop,(∀ w'',C' w''->(Cp w''∧Cls cr O w w''))∧C' w'∧SxM P ops K n (j :: D) ((t,i,fs) :: L) C' a' w') a w:=by
    intro htw j hj hjD
    rw [htw] at ht
    simp only [Bool.and_eq_true] at ht
    have hok:=allB_mem ht.2 j hj
    have hjD':D.contains j=false:=by simpa using hjD
    simp only [hjD',Bool.false_or,Bool.and_eq_true] at hok
    obtain ⟨⟨⟨_,hapj⟩,_⟩,hok⟩:=hok
    obtain ⟨oj,v,w',b1,b2,b3,b4,b5,b6,b7⟩:=early_ok hc hF hM hG hS.kept.size hD (allB_mem hfs j hj) hjD hapj
    have hq:Stq (· ∉ cr) O ρ w O ρ w':=(b6.weak (fun _ h=>h.elim)).q
    obtain ⟨CR2,c1,c2⟩:=ih (j :: D) ((t,i,fs) :: L) _ (fun w''=>Cp w''∧Cls cr O w w'') cr st (a.put oj.dst v) O ρ w' hok e0 b4 b5 hG (fun O' ρ' w'' h=>⟨hst _ _ _ (hq.trans h),(hq.trans h).kept⟩) (hS.trans (b6.weak (fun _ h=>h.elim))) b7
    refine ⟨oj,b1,?_⟩
    unfold opO
    rw [if_pos (want_none b2)]
    simp only [Oper.wp,b3,Oper.upon]
    exact ⟨_,fun w'' h=>h.1,⟨⟨hst _ _ _ hq,hq.kept⟩,Kept.refl _ _⟩,c2⟩
   cases t with
   | none=>
    simp only at e
    split at e<;>first | (cases e;done) | skip
    rename_i d th hfd hth
    split at e<;>first | (cases e;done) | skip
    rename_i hdn
    obtain ⟨hod,hg⟩:=frOp_spec hfd
    obtain ⟨l,hFr,hER⟩:=hF.1
    obtain ⟨g,cs,ty,hX,had⟩:=frV_ok (a:={ a with defers:=[] }) (P:=P) hc hFr hER hG hth
    have hX:FreshX P (execOp a.eval o) g cs ty:=hX
    have hrun:=hX w
    have hk:Kept none1 w { w with heap:=w.heap.push (.cells cs.toArray ty) }:=kept_alloc w _
    have hS1:Stp (fun _=>False) O ρ w O ρ { w with heap:=w.heap.push (.cells cs.toArray ty) }:=⟨.refl _,.refl _,fun _ _ h=>h,fun _ _ _ h _=>h,hk.wide (fun _ h=>h.elim)⟩
    have hM1:Gm O ρ st.tb { w with heap:=w.heap.push (.cells cs.toArray ty) }:=
     (hM.step (M:=fun _=>False) (O':=O) (ρ':=ρ) (tb':=st.tb) (hk.wide (fun _ h=>h.elim)) (fun _ _ _=>rfl) (fun b hb=>hM.lt b (Nat.le_trans hk.size hb)) (fun b all h=>.inl h) (.refl _) hM.len (fun j x hx=>.inl ⟨hx,fun h=>h⟩)).1
    have hO:O w.heap.size=.no:=hM.lt _ (Nat.le_refl _)
    obtain ⟨hd,g1,g2,g3⟩:=had O ρ st.tb _ w.heap.size (.refl _) (.refl _) hM1 hO (blk_new ty cs)
    have hpre:Pre ρ (ρ ++ [hd]):=.app _ _
    have hq:Stq (· ∉ cr) O ρ w (fun b=>bif Nat.beq w.heap.size b then .th st.tb.length else O b) (ρ ++ [hd]) { w with heap:=w.heap.push (.cells cs.toArray ty) }:=by
     refine ⟨hpre,g2,fun b id _ h _=>?_,hk.wide (fun _ h=>h.elim)⟩
     cases e':Nat.beq w.heap.size b with
     | true=>have:=Nat.eq_of_beq_eq_true e';subst this;rw [hO] at h;cases h
     | false=>exact h
    have hS2:Stp (fun _=>True) O0 ρ0 w0 (fun b=>bif Nat.beq w.heap.size b then .th st.tb.length else O b) (ρ ++ [hd]) { w with heap:=w.heap.push (.cells cs.toArray ty) }:=by
     have hs0:=hS.trans (hS1.weak (M':=fun _=>True) (fun _ h=>h.elim))
     refine ⟨hs0.pre.trans hpre,hs0.im.trans g2,fun b hb h=>?_,fun b id hb h hn=>absurd trivial hn,hs0.kept⟩
     have hsz:=hS.kept.size
     cases e':Nat.beq w.heap.size b with
     | true=>have:=Nat.eq_of_beq_eq_true e';omega
     | false=>exact hs0.no b hb h
    have hF2:FS E.n (a.put o.dst (atB g w.heap.size)) ⟨(d,ivF st.tb.length th) :: st.env,st.tb ++ [th],st.df⟩ (fun b=>bif Nat.beq w.heap.size b then .th st.tb.length else O b) (ρ ++ [hd]):=by
     rw [hod]
     exact ⟨(hF.1.mono g2 hpre).put hdn g3,by rw [put_defers];exact hF.2.mono g2 hpre⟩
    have hDn:Dn P ops w0.heap.size D (a.put o.dst (atB g w.heap.size)).tmps ((d,ivF st.tb.length th) :: st.env) (fun b=>bif Nat.beq w.heap.size b then .th st.tb.length else O b) { w with heap:=w.heap.push (.cells cs.toArray ty) }:=by
     obtain ⟨bf,gf,cf,tf,h1,h2,h3⟩:=hD
     refine ⟨bf,gf,cf,tf,recT_put (E:=E) hap ho h1 _ (ivF st.tb.length th) (by rw [hod];simp only [putE,hdn]),fun j hj=>?_,h3⟩
     have hlt:=(h2 j hj).2.2.lt
     obtain ⟨u1,u2,u3⟩:=recW_stp (h2 j hj) hS1
     refine ⟨?_,u2,u3⟩
     cases e':Nat.beq w.heap.size (bf j) with
     | true=>have:=Nat.eq_of_beq_eq_true e';omega
     | false=>simp only [e',cond_false];exact u1
    obtain ⟨CR,k1,k2⟩:=ih D L _ Cp cr _ _ _ _ _ hB' e hF2 g1 (hG.mono g2) (fun O' ρ' w' h=>hst _ _ _ (hq.trans h)) hS2 hDn
    refine ⟨cr,fun _ h=>h,fun h=>absurd h hi,fun _=>⟨o,ho,?_,hearly⟩⟩
    simp only [Option.getD_none,StepX]
    unfold opO
    rw [if_pos (want_none hg)]
    simp only [Oper.wp,hrun,Oper.upon]
    refine ⟨_,fun w' h=>⟨h.1,?_⟩,⟨hst _ _ _ hq,Kept.refl _ _⟩,k2⟩
    have hk2:=h.2
    refine Kept.trans (S:=fun b=>O b=.no∨∃ id,id ∉ cr∧O b=.th id) (hk.wide (fun _ h=>h.elim)) hk2 (fun b _ hb=>?_)
    cases e':Nat.beq w.heap.size b with
    | true=>have:=Nat.eq_of_beq_eq_true e';subst this;exact .inl hO
    | false=>
     simp only [e',cond_false] at hb
     exact hb.imp (fun h=>h) (fun ⟨id,hn,h⟩=>⟨id,fun hc=>hn (k1 id hc),h⟩)
   | some t=>
    obtain ⟨bf,gf,cf,tf,h1,h2,h3⟩:=hD
    obtain ⟨CR,p1,p2,p3⟩:=stepL_ok (K:=K) (S:=SxM P ops K n D L) (Inv:=fun tm il=>∀ j ∈ D,recT P ops bf gf cf tf j tm il) (O0:=O) (ρ0:=ρ) (w0:=w) hc hct hG e hF hM hst (.refl _ _ _ _) h1 (fun dj g h=>recT_lit h1 h) (fun il hi x v il' h=>recT_put hap ho hi x v h)
     (fun Cp' cr' st' a' w' O' ρ' e' hF' hM' hG' hst' hS' hI'=>ih D L _ Cp' cr' st' a' O' ρ' w' hB' e' hF' hM' hG' hst' (hS.trans hS') ⟨bf,gf,cf,tf,hI',fun j hj=>recW_stp (h2 j hj) hS',h3⟩)
    cases fs with
    | nil=>exact ⟨CR,p1,fun h=>absurd h hi,fun _=>⟨o,ho,p3,fun _ j hj=>by cases hj⟩⟩
    | cons f fs=>
     simp only [isNil,Bool.false_or,Bool.and_eq_true] at hchg
     obtain rfl:=p2 hchg.1 (by
      have:=hchg.2
      unfold noG at this
      split at this
      ·assumption
      ·cases this)
     exact ⟨CR,p1,fun h=>absurd h hi,fun _=>⟨o,ho,p3,hearly⟩⟩
end
section
variable {P:Program} {E:Ev} {ops:List Oper} {K:Act->World->Prop}
def ordB (E:Ev) (id:Nat) (l:List Oper):Bool:=match E.ms id with
 | some π=>okAllM l π
 | none=>match E.al id with
  | none=>okAll l (E.ord id)
  | some ia=>match cutAt ia (E.ord id) with
   | some (x,y)=>okAllP l ia x y
   | none=>false
def OrdOk (P:Program) (E:Ev) (id:Nat) (ops:Array Oper) (draw:Bool):Prop:=draw=true->P.follows .mixedOrders=true∧ordB E id ops.toList=true
def RegOk (P:Program) (ops:Array Oper) (N:Act->World->Prop) (a:Act) (w:World):Bool->Prop
 | false=>wpList P ops (Qn N) ops.toList a w
 | true=>P.follows .mixedOrders=true∧wpAny P .any ops (Qn N) ops.size (Array.replicate ops.size false) a { w with drawn:=w.drawn + 1 }
theorem evR_reg {β:Type} {id:Nat} {opa:Array Oper} {draw:Bool} {st:St} {k:St->Option β} {r:β} {a:Act} {O:Own} {ρ:List Hd} {w:World} {N:Act->World->Prop} (hc:COk P E.c) (hct:CtsOk P E) (hor:OrdOk P E id opa draw)
  (e:evR E id opa.toList draw st k=some r) (hF:FS E.n a st O ρ) (hM:Gm O ρ st.tb w) (hG:GO E.c O)
  (hK:∀ st' a' w' O' ρ',k st'=some r->FS E.n a' st' O' ρ'->Gm O' ρ' st'.tb w'->GO E.c O'->Stp (fun _=>True) O ρ w O' ρ' w'->N a' w'):RegOk P opa N a w draw:=by
 unfold evR at e
 split at e
 ·obtain ⟨CR,_,h⟩:=evL_ok (P:=P) (K:=N) (O0:=O) (ρ0:=ρ) (w0:=w) hc hct (fun st a w O ρ h1 h2 h3 h4 h5=>hK st a w O ρ h1 h2 h3 h4 h5) _ (fun _=>True) [] st a O ρ w e hF hM hG (fun _ _ _ _=>trivial) (.refl _ _ _ _)
  exact sx_plain _ _ a w h
 ·obtain ⟨hm,hok⟩:=hor rfl
  have hdr:=kept_drew w
  have hM':Gm O ρ st.tb { w with drawn:=w.drawn + 1 }:=by
   have:=(hM.step (M:=fun _=>False) (O':=O) (ρ':=ρ) (tb':=st.tb) (w':={ w with drawn:=w.drawn + 1 }) (hdr.wide (fun _ h=>h.elim)) (fun _ _ _=>rfl) (fun b hb=>hM.lt b hb) (fun b all h=>.inl h) (.refl _) hM.len (fun j x hx=>.inl ⟨hx,fun h=>h⟩)).1
   exact this
  have hS0:Stp (fun _=>True) O ρ w O ρ { w with drawn:=w.drawn + 1 }:=⟨.refl _,.refl _,fun _ _ h=>h,fun _ _ _ h _=>h,hdr.wide (fun _ h=>h.elim)⟩
  have hK':∀ st a w' O' ρ',k st=some r->FS E.n a st O' ρ'->Gm O' ρ' st.tb w'->GO E.c O'->Stp (fun _=>True) O ρ { w with drawn:=w.drawn + 1 } O' ρ' w'->N a w':=fun st a w' O' ρ' h1 h2 h3 h4 h5=>hK st a w' O' ρ' h1 h2 h3 h4 (hS0.trans h5)
  unfold ordB at hok
  split at e
  ·rename_i π hms
   simp only [hms] at hok
   have hok2:=hok
   simp only [okAllM,Bool.and_eq_true] at hok2
   obtain ⟨CR,_,h⟩:=evM_ok (P:=P) (K:=N) (O0:=O) (ρ0:=ρ) (w0:={ w with drawn:=w.drawn + 1 }) hc hct hK' _ [] π _ (fun _=>True) [] st a O ρ _ hok2.2 e hF hM' hG (fun _ _ _ _=>trivial) (.refl _ _ _ _) ⟨fun _=>0,fun _=>none,fun _=>[],fun _=>0,fun _ h=>by (cases h),fun _ h=>by (cases h),fun _ h=>by (cases h)⟩
   have:=a_drawM (P:=P) (K:=N) π _ hok ⟨trivial,Kept.refl _ _⟩ h
   exact ⟨hm,by simpa using this⟩
  rename_i hms
  simp only [hms] at hok
  split at e<;>first | (cases e;done) | skip
  rename_i L hL
  split at e
  ·rename_i hal
   rw [hal] at hok
   obtain ⟨CR,_,h⟩:=evL_ok (P:=P) (K:=N) (O0:=O) (ρ0:=ρ) (w0:={ w with drawn:=w.drawn + 1 }) hc hct hK' L (fun _=>True) [] st a O ρ _ e hF hM' hG (fun _ _ _ _=>trivial) (.refl _ _ _ _)
   have:=a_drawX (P:=P) (K:=N) (E.ord id) _ hok hL ⟨trivial,Kept.refl _ _⟩ h
   exact ⟨hm,by simpa using this⟩
  ·rename_i ia hal
   rw [hal] at hok
   split at e<;>first | (cases e;done) | skip
   rename_i hea
   unfold early at hea
   split at hea<;>first | (cases hea;done) | skip
   rename_i oa x y hoa hcut
   split at hea<;>first | (cases hea;done) | skip
   rename_i ta d Lx hal2 hLx
   split at hea<;>first | (cases hea;done) | skip
   rename_i va hva hgd
   simp only [Bool.and_eq_true] at hea
   simp only [hcut] at hok
   rw [cutAt_spec hcut] at hL
   obtain ⟨Ly,hLy,rfl⟩:=pick_split hoa hLx hL
   obtain ⟨CR,_,h⟩:=evP_ok (P:=P) (K:=N) (O0:=O) (ρ0:=ρ) (w0:={ w with drawn:=w.drawn + 1 }) hc hct hK' hal2 hva hea.1 Lx (fun _=>True) [] st a O ρ _ e hea.2 hF hM' hG (fun _ _ _ _=>trivial) (.refl _ _ _ _) hgd
   have:=a_drawP (P:=P) (K:=N) x y _ hok hoa hLx hLy ⟨trivial,Kept.refl _ _⟩ h
   exact ⟨hm,by simpa using this⟩
theorem RegOk.wp {id:Nat} {ops:Array Oper} {N:Act->World->Prop} {X:Nat->Act->World->Prop} {Y:Act->World->Prop} {a:Act} {w:World}:∀ {draw:Bool},RegOk P ops N a w draw->(Code.region id ops draw).wp P (QL N X Y) a w
 | false,h=>by
  have:=wp_of_norm (E:=X) (R:=Y) (wp_region_lit (id:=id) (l:=ops.toList) h)
  simpa using this
 | true,h=>wp_of_norm (wp_region_any h.1 h.2)
theorem evR_ok {β:Type} {id:Nat} {opa:Array Oper} {draw:Bool} {st:St} {k:St->Option β} {r:β} {a:Act} {O:Own} {ρ:List Hd} {w:World} {N:Act->World->Prop} {X:Nat->Act->World->Prop} {Y:Act->World->Prop} (hc:COk P E.c) (hct:CtsOk P E) (hor:OrdOk P E id opa draw)
  (e:evR E id opa.toList draw st k=some r) (hF:FS E.n a st O ρ) (hM:Gm O ρ st.tb w) (hG:GO E.c O)
  (hK:∀ st' a' w' O' ρ',k st'=some r->FS E.n a' st' O' ρ'->Gm O' ρ' st'.tb w'->GO E.c O'->Stp (fun _=>True) O ρ w O' ρ' w'->N a' w'):(Code.region id opa draw).wp P (QL N X Y) a w:=
 (evR_reg hc hct hor e hF hM hG hK).wp
end
end Go.Tw
namespace Go.Tw
set_option linter.unusedSimpArgs false
set_option linter.unusedVariables false
structure Lc where
 s0:List Nat
 A:List Sh
 T:List TSh
 s1:List Nat
 A1:List Sh
 T1:List TSh
 s2:List Nat
 A2:List Sh
 T2:List TSh
 rf:Bool:=false
 run:(β:Type)->dens A->tdens T->(dens A1->tdens T1->Option β)->(dens A2->tdens T2->Option β)->Option β
 nat:∀ (β:Type) x y k1 k2 (r:β),run β x y k1 k2=some r ->
  (∃ p q,run ((dens A1×tdens T1) ⊕ (dens A2×tdens T2)) x y (fun p q=>some (.inl (p,q))) (fun p q=>some (.inr (p,q)))=some (.inl (p,q))∧k1 p q=some r) ∨
  (∃ p q,run ((dens A1×tdens T1) ⊕ (dens A2×tdens T2)) x y (fun p q=>some (.inl (p,q))) (fun p q=>some (.inr (p,q)))=some (.inr (p,q))∧k2 p q=some r)
def rngF:Nat->Nat->List Nat
 | _,0=>[]
 | j,m + 1=>j :: rngF (j + 1) m
def rng (m:Nat):List Nat:=rngF 0 m
def pickS (il:IEnv):List Nat->Option (List IV)
 | []=>some []
 | t :: ts=>match geti il t,pickS il ts with
  | some (.tu _),_=>none
  | some v,some vs=>some (v :: vs)
  | _,_=>none
def zipS:List Nat->List IV->IEnv
 | t :: ts,v :: vs=>(t,v) :: zipS ts vs
 | _,_=>[]
def mkSt (sl:List Nat) (A:List Sh) (T:List TSh) (x:dens A) (y:tdens T):St:=⟨zipS sl (encs A x),encTs T y,[]⟩
def uniS {β:Type} (m:Nat) (sl:List Nat) (A:List Sh) (T:List TSh) (st:St) (k:dens A->tdens T->Option β):Option β:=
 match pickS st.env sl,st.df with
 | some vs,[]=>uni false A T (rng m) vs st.tb fun x y _=>k x y
 | _,_=>none
def look:List (List Nat×Lc)->List Nat->Option Lc
 | [],_=>none
 | (q,L) :: r,p=>match eqL q p with
  | true=>some L
  | false=>look r p
def frag {β:Type} (m:Nat) (L:Lc) (st:St) (k:Exit->St->Option β):Option β:=
 match L.rf with
 | true=>none
 | false=>uniS m L.s0 L.A L.T st fun x y=>L.run β x y (fun p q=>k .normal (mkSt L.s1 L.A1 L.T1 p q)) (fun p q=>k .ret (mkSt L.s2 L.A2 L.T2 p q))
def mark (st:St):St:=⟨st.env,st.tb ++ [.mk],.pt st.tb.length [] :: st.df⟩
def fragM {β:Type} (m:Nat) (L:Lc) (st:St) (k:Exit->St->Option β):Option β:=
 match L.rf with
 | false=>none
 | true=>uniS m L.s0 L.A L.T st fun x y=>L.run β x y (fun p q=>k .normal (mark (mkSt L.s1 L.A1 L.T1 p q))) (fun _ _=>none)
def loopN {β:Type} (f:St->(Exit->St->Option β)->Option β):Nat->St->(Exit->St->Option β)->Option β
 | 0,_,_=>none
 | n + 1,st,k=>f st fun e st=>match e with
  | .normal=>loopN f n st k
  | e=>k e st
def sev {β:Type} (E:Ev) (m:Nat) (lp:List (List Nat×Lc)):Code->List Nat->St->(Exit->St->Option β)->Option β
 | .skip,_,st,k=>k .normal st
 | .exit j,_,st,k=>k (.exit j) st
 | .ret,_,st,k=>k .ret st
 | .seq a b,p,st,k=>match look lp p with
  | some L=>frag m L st k
  | none=>sev E m lp a (0 :: p) st fun e st=>match e with
   | .normal=>sev E m lp b (1 :: p) st k
   | e=>k e st
 | .region id ops draw,_,st,k=>evR E id ops.toList draw st (k .normal)
 | .cond x a b,p,st,k=>match look lp p with
  | some L=>frag m L st k
  | none=>match iopd E.c st.env x with
   | some (.o (.b g))=>match g with
    | true=>sev E m lp a (0 :: p) st k
    | false=>sev E m lp b (1 :: p) st k
   | _=>none
 | .block id c,p,st,k=>match look lp p with
  | some L=>frag m L st k
  | none=>sev E m lp c (0 :: p) st fun e st=>match e with
   | .exit j=>match Nat.beq j id with
    | true=>k .normal st
    | false=>k (.exit j) st
   | e=>k e st
 | .loop c,p,st,k=>loopN (sev E m lp c (0 :: p)) 64 st k
 | .scope c,p,st,k=>sev E m lp c (0 :: p) st fun e st=>match e with
  | .goto _=>none
  | e=>k e st
 | .label _,_,st,k=>k .normal st
 | .rangeFunc _ _ _ _,p,st,k=>match look lp p with
  | some L=>fragM m L st k
  | none=>none
 | _,_,_,_=>none
def cAt:Code->List Nat->Code
 | c,[]=>c
 | c,i :: p=>match cAt c p,i with
  | .seq a _,0=>a
  | .seq _ b,_=>b
  | .cond _ a _,0=>a
  | .cond _ _ b,_=>b
  | .block _ c,_=>c
  | .loop c,_=>c
  | .scope c,_=>c
  | c,_=>c
def ordAll (E:Ev):Code->Bool
 | .region id ops draw=>match draw with
  | true=>ordB E id ops.toList
  | false=>true
 | .seq a b=>ordAll E a && ordAll E b
 | .cond _ a b=>ordAll E a && ordAll E b
 | .block _ c=>ordAll E c
 | .loop c=>ordAll E c
 | .scope c=>ordAll E c
 | _=>true
section
variable {P:Program} {E:Ev}
def G (E:Ev) (O0:Own) (ρ0:List Hd) (w0:World) (st:St) (a:Act) (w:World):Prop:=
 ∃ O ρ,FS E.n a st O ρ∧Gm O ρ st.tb w∧GO E.c O∧Stp (fun _=>True) O0 ρ0 w0 O ρ w
def LcOk (P:Program) (E:Ev) (m:Nat) (L:Lc) (c:Code):Prop:=
 ∀ (O0:Own) (ρ0:List Hd) (w0:World),ρ0.length=m->∀ x y z,L.run ((dens L.A1×tdens L.T1) ⊕ (dens L.A2×tdens L.T2)) x y (fun p q=>some (.inl (p,q))) (fun p q=>some (.inr (p,q)))=some z->∀ a w,G E O0 ρ0 w0 (mkSt L.s0 L.A L.T x y) a w ->
  c.wp P (QL (fun a w=>∃ p q,z=.inl (p,q)∧G E O0 ρ0 w0 (mkSt L.s1 L.A1 L.T1 p q) a w) (fun _ _ _=>False) (fun a w=>∃ p q,z=.inr (p,q)∧G E O0 ρ0 w0 (mkSt L.s2 L.A2 L.T2 p q) a w)) a w
def LcOkM (P:Program) (E:Ev) (m:Nat) (L:Lc) (c:Code):Prop:=
 ∀ (O0:Own) (ρ0:List Hd) (w0:World),ρ0.length=m->∀ x y p q,L.run ((dens L.A1×tdens L.T1) ⊕ (dens L.A2×tdens L.T2)) x y (fun p q=>some (.inl (p,q))) (fun p q=>some (.inr (p,q)))=some (.inl (p,q))->∀ a w,G E O0 ρ0 w0 (mkSt L.s0 L.A L.T x y) a w ->
  c.wp P (QL (fun a w=>G E O0 ρ0 w0 (mark (mkSt L.s1 L.A1 L.T1 p q)) a w) (fun _ _ _=>False) (fun _ _=>False)) a w
def LcAny (P:Program) (E:Ev) (m:Nat) (L:Lc) (c:Code):Bool->Prop
 | false=>LcOk P E m L c
 | true=>LcOkM P E m L c
def AllLc (P:Program) (E:Ev) (m:Nat) (root:Code):List (List Nat×Lc)->Prop
 | []=>True
 | (p,L) :: r=>LcAny P E m L (cAt root p) L.rf∧AllLc P E m root r
theorem AllLc.get {m:Nat} {root:Code}:∀ {lp:List (List Nat×Lc)} {p:List Nat} {L:Lc},AllLc P E m root lp->look lp p=some L->LcAny P E m L (cAt root p) L.rf
 | [],p,L,_,e=>by simp [look] at e
 | (q,M) :: r,p,L,h,e=>by
  simp only [look] at e
  split at e
  ·rename_i hq;cases e;have:=eqL_eq hq;subst this;exact h.1
  ·exact AllLc.get h.2 e
theorem rngF_get:∀ (m j i:Nat),i < m->(rngF j m)[i]? = some (j + i)
 | 0,j,i,h=>by omega
 | m + 1,j,0,h=>by simp [rngF]
 | m + 1,j,i + 1,h=>by
  simp only [rngF,List.getElem?_cons_succ]
  rw [rngF_get m (j + 1) i (by omega)];congr 1;omega
theorem rngF_len:∀ (m j:Nat),(rngF j m).length=m
 | 0,j=>rfl
 | m + 1,j=>by simp [rngF,rngF_len m]
theorem rng_get {m i:Nat} (h:i < m):(rng m)[i]? = some i:=by rw [rng,rngF_get m 0 i h];simp
theorem rng_mem {m i:Nat} (h:i ∈ rng m):i < m:=by
 obtain ⟨j,hj⟩:=List.mem_iff_getElem?.1 h
 have hl:=(List.getElem?_eq_some_iff.1 hj).1
 rw [rng,rngF_len] at hl
 rw [rng_get hl] at hj;cases hj;exact hl
theorem rngF_mem:∀ {m j i:Nat},i ∈ rngF j m->j≤i
 | 0,j,i,h=>by simp [rngF] at h
 | m + 1,j,i,h=>by
  simp only [rngF,List.mem_cons] at h
  rcases h with h | h
  ·omega
  ·have:=rngF_mem h;omega
theorem rngF_nodup:∀ (m j:Nat),(rngF j m).Nodup
 | 0,j=>by simp [rngF]
 | m + 1,j=>by
  simp only [rngF,List.nodup_cons]
  exact ⟨fun h=>by have:=rngF_mem h;omega,rngF_nodup m (j + 1)⟩
theorem rng_nodup (m:Nat):(rng m).Nodup:=rngF_nodup m 0
theorem pickS_ok {n:Nat} {a:Act} {il:IEnv} {O:Own} {ρ:List Hd} (h:FI n a il O ρ):∀ {sl:List Nat} {vs:List IV},pickS il sl=some vs->∃ cs,RL O ρ vs cs∧sl.length=vs.length∧∀ (i t:Nat) (x:Value),sl[i]? = some t->(vals vs cs)[i]? = some x->a.tmps[t]? = some x
 | [],vs,e=>by simp only [pickS,Option.some.injEq] at e;subst e;exact ⟨[],rfl,rfl,fun i t x h=>by simp at h⟩
 | t :: ts,vs,e=>by
  simp only [pickS] at e
  split at e<;>first | (cases e;done) | skip
  rename_i v vs' hn ht hts
  cases e
  obtain ⟨cs,h1,h2,h3⟩:=pickS_ok h hts
  obtain ⟨l,hl,hE⟩:=h
  obtain ⟨sv,hsv,hSR⟩:=hE.get ht
  have hy:∃ y,sv=.o y∧S0R O ρ v y:=by
   cases v<;>first | exact hSR | exact absurd rfl (hn _)
  obtain ⟨y,rfl,hS⟩:=hy
  obtain ⟨c0,h4,h5,h6,h7⟩:=hS.cells
  refine ⟨c0 :: cs,⟨c0,cs,rfl,h5,h1⟩,by simp [h2],fun i t' x hi hx=>?_⟩
  cases i with
  | zero=>
   simp at hi;subst hi
   simp [vals] at hx;subst hx
   have:a.tmps[t]? = _:=hl.has t _ hsv
   rw [this]
   simp only [SV.val]
   cases hg:v.agg with
   | true=>rw [h6 hg];rfl
   | false=>rw [h7 hg];simp
  | succ i=>exact h3 i t' x (by simpa using hi) (by simpa [vals] using hx)
theorem FI.of {n:Nat} {a:Act} {O:Own} {ρ:List Hd} (hz:a.tmps.size=n):∀ {sl:List Nat} {vs:List IV} {cs:List (List Value)},RL O ρ vs cs->(∀ (i t:Nat) (x:Value),sl[i]? = some t->(vals vs cs)[i]? = some x->a.tmps[t]? = some x)->FI n a (zipS sl vs) O ρ
 | [],vs,cs,_,_=>⟨[],⟨rfl,hz,fun t v h=>by simp [get?] at h⟩,by simp [zipS,ER]⟩
 | _ :: _,[],cs,_,_=>⟨[],⟨rfl,hz,fun t v h=>by simp [get?] at h⟩,by simp [zipS,ER]⟩
 | t :: sl,v :: vs,cs,h,hx=>by
  obtain ⟨c0,r,rfl,h1,h2⟩:=h
  obtain ⟨l,hl,hE⟩:=FI.of (sl:=sl) hz h2 (fun i t' x hi hxx=>hx (i + 1) t' x (by simpa using hi) (by simpa [vals] using hxx))
  obtain ⟨sv,hsv,hval⟩:=res_SR (vs:=[v]) (ds:=[c0]) ⟨c0,[],rfl,h1,rfl⟩
  refine ⟨(t,sv) :: l,⟨rfl,hz,fun t' u hu=>?_⟩,rfl,hsv,hE⟩
  simp only [get?] at hu
  cases hb:Nat.beq t t' with
  | true=>
   rw [hb] at hu;cases hu
   rw [← Nat.eq_of_beq_eq_true hb,hval]
   exact hx 0 t _ (by simp) (by simp [vals,resV])
  | false=>rw [hb] at hu;exact hl.has t' u hu
theorem uniS_ok {β:Type} {m:Nat} {sl:List Nat} {A:List Sh} {T:List TSh} {st:St} {k:dens A->tdens T->Option β} {r:β} {a:Act} {w w0:World} {O0:Own} {ρ0:List Hd} (hm:ρ0.length=m) (e:uniS m sl A T st k=some r) (h:G E O0 ρ0 w0 st a w) :
  ∃ x y,k x y=some r∧G E O0 ρ0 w0 (mkSt sl A T x y) a w:=by
 obtain ⟨O,ρ,hF,hM,hG,hS⟩:=h
 unfold uniS at e
 split at e<;>first | (cases e;done) | skip
 rename_i vs hvs hdf
 obtain ⟨cs,hR,hlen,hslots⟩:=pickS_ok hF.1 hvs
 have hle:m≤st.tb.length:=by
  rw [← hM.len,← hm]
  rcases Nat.lt_or_ge ρ.length ρ0.length with h' | h'
  ·have h1:ρ0[ρ.length]? = some ρ0[ρ.length]:=by simp [h']
   have:=hS.pre _ _ h1
   simp at this
  ·exact h'
 obtain ⟨x,y,u',O',ρ',hk,U⟩:=uni_ok e hM hR (rng_nodup m) (fun i hi=>Nat.lt_of_lt_of_le (rng_mem hi) hle)
 obtain ⟨more,hbd⟩:=U.gh.bd
 have hb:∀ i,i < ρ0.length->u'.bd[i]? = some i:=fun i hi=>by
  rw [hm] at hi
  rw [hbd]
  show (rng m ++ more)[i]? = some i
  rw [List.getElem?_append_left (by rw [rng,rngF_len];exact hi)];exact rng_get hi
 have hS2:=(hS.trans (U.gh.stp.weak (fun _ _=>trivial))).oc (lt:=u'.lt) hb
 obtain ⟨⟨l,hl,_⟩,hD⟩:=hF
 rw [hdf] at hD
 refine ⟨x,y,hk,_,_,?_,U.gm,hG.mono (U.gh.stp.im.trans (Oc_le _ _ _ _)),hS2⟩
 refine ⟨?_,hD⟩
 exact FI.of hl.size U.rl (fun i t v hi hv=>hslots i t v hi (by rw [← vals_sz U.sz];exact hv))
theorem cAt_seq0 {root:Code} {p:List Nat} {a b:Code} (h:cAt root p=.seq a b):cAt root (0 :: p)=a:=by simp [cAt,h]
theorem cAt_seq1 {root:Code} {p:List Nat} {a b:Code} (h:cAt root p=.seq a b):cAt root (1 :: p)=b:=by simp [cAt,h]
theorem cAt_cond0 {root:Code} {p:List Nat} {x:Operand} {a b:Code} (h:cAt root p=.cond x a b):cAt root (0 :: p)=a:=by simp [cAt,h]
theorem cAt_cond1 {root:Code} {p:List Nat} {x:Operand} {a b:Code} (h:cAt root p=.cond x a b):cAt root (1 :: p)=b:=by simp [cAt,h]
theorem cAt_scope {root:Code} {p:List Nat} {a:Code} (h:cAt root p=.scope a):cAt root (0 :: p)=a:=by simp [cAt,h]
theorem cAt_loop {root:Code} {p:List Nat} {a:Code} (h:cAt root p=.loop a):cAt root (0 :: p)=a:=by simp [cAt,h]
theorem cAt_block {root:Code} {p:List Nat} {id:Nat} {a:Code} (h:cAt root p=.block id a):cAt root (0 :: p)=a:=by simp [cAt,h]
theorem sev_ok {β:Type} {m:Nat} {lp:List (List Nat×Lc)} {root:Code} {O0:Own} {ρ0:List Hd} {w0:World} {r:β} (hc:COk P E.c) (hct:CtsOk P E) (hmx:P.follows .mixedOrders=true) (hm:ρ0.length=m) (hlp:AllLc P E m root lp) :
  ∀ (c:Code) (p:List Nat) (st:St) (k:Exit->St->Option β) (N:Act->World->Prop) (X:Nat->Act->World->Prop) (Y:Act->World->Prop) (a:Act) (w:World),cAt root p=c->ordAll E c=true->sev E m lp c p st k=some r->G E O0 ρ0 w0 st a w ->
   (∀ e st' a' w',k e st'=some r->G E O0 ρ0 w0 st' a' w'->QL N X Y e a' w')->c.wp P (QL N X Y) a w:=by
 have fr:∀ {L:Lc} {c:Code} {st:St} {k:Exit->St->Option β} {N:Act->World->Prop} {X:Nat->Act->World->Prop} {Y:Act->World->Prop} {a:Act} {w:World},LcAny P E m L c L.rf->frag m L st k=some r->G E O0 ρ0 w0 st a w ->
   (∀ e st' a' w',k e st'=some r->G E O0 ρ0 w0 st' a' w'->QL N X Y e a' w')->c.wp P (QL N X Y) a w:=by
  intro L c st k N X Y a w hL e hG hK
  unfold frag at e
  split at e<;>first | (cases e;done) | skip
  rename_i hrf
  rw [hrf] at hL
  have hL:LcOk P E m L c:=hL
  obtain ⟨x,y,hk,hG'⟩:=uniS_ok hm e hG
  rcases L.nat _ x y _ _ r hk with ⟨p,q,h1,h2⟩ | ⟨p,q,h1,h2⟩
  ·refine c_mono (hL O0 ρ0 w0 hm x y _ h1 a w hG') (fun a w h=>?_) (fun _ _ _ h=>h.elim) (fun a w h=>?_)
   ·obtain ⟨p',q',e',h⟩:=h;cases e';exact hK .normal _ _ _ h2 h
   ·obtain ⟨p',q',e',h⟩:=h;cases e'
  ·refine c_mono (hL O0 ρ0 w0 hm x y _ h1 a w hG') (fun a w h=>?_) (fun _ _ _ h=>h.elim) (fun a w h=>?_)
   ·obtain ⟨p',q',e',h⟩:=h;cases e'
   ·obtain ⟨p',q',e',h⟩:=h;cases e';exact hK .ret _ _ _ h2 h
 intro c
 induction c with
 | skip=>intro p st k N X Y a w hp ho e hG hK;exact c_skip (hK .normal st a w e hG)
 | exit j=>intro p st k N X Y a w hp ho e hG hK;exact c_exit (hK (.exit j) st a w e hG)
 | ret=>intro p st k N X Y a w hp ho e hG hK;exact c_ret (hK .ret st a w e hG)
 | seq x y ihx ihy=>
  intro p st k N X Y a w hp ho e hG hK
  simp only [ordAll,Bool.and_eq_true] at ho
  simp only [sev] at e
  split at e
  ·rename_i L hL
   have:=hlp.get hL
   rw [hp] at this
   exact fr this e hG hK
  refine c_seq (ihx (0 :: p) st _ _ X Y a w (cAt_seq0 hp) ho.1 e hG (fun e st' a' w' h1 h2=>?_))
  cases e with
  | normal=>exact ihy (1 :: p) st' k N X Y a' w' (cAt_seq1 hp) ho.2 h1 h2 hK
  | exit j=>exact hK (.exit j) st' a' w' h1 h2
  | ret=>exact hK .ret st' a' w' h1 h2
  | goto j=>exact (hK (.goto j) st' a' w' h1 h2:False).elim
  | panic ch=>exact (hK (.panic ch) st' a' w' h1 h2:False).elim
  | outgrown=>exact (hK .outgrown st' a' w' h1 h2:False).elim
 | region id ops draw=>
  intro p st k N X Y a w hp ho e hG hK
  obtain ⟨O,ρ,hF,hM,hGO,hS⟩:=hG
  refine evR_ok hc hct (fun hd=>?_) e hF hM hGO (fun st' a' w' O' ρ' h1 h2 h3 h4 h5=>hK .normal st' a' w' h1 ⟨O',ρ',h2,h3,h4,hS.trans h5⟩)
  subst hd
  exact ⟨hmx,ho⟩
 | cond x y z ihy ihz=>
  intro p st k N X Y a w hp ho e hG hK
  simp only [ordAll,Bool.and_eq_true] at ho
  simp only [sev] at e
  split at e
  ·rename_i L hL
   have:=hlp.get hL
   rw [hp] at this
   exact fr this e hG hK
  ·split at e<;>first | (cases e;done) | skip
   rename_i g hx
   obtain ⟨O,ρ,⟨⟨l,hl,hER⟩,hD⟩,hM,hGO,hS⟩:=hG
   have hev:a.eval x=_:=opd_val hl (iopd_o hER hGO hx).1
   refine wp_cond_split (t:=g) hev (fun hg=>?_) (fun hg=>?_)
   ·subst hg;exact ihy (0 :: p) st k N X Y a w (cAt_cond0 hp) ho.1 e ⟨O,ρ,⟨⟨l,hl,hER⟩,hD⟩,hM,hGO,hS⟩ hK
   ·subst hg;exact ihz (1 :: p) st k N X Y a w (cAt_cond1 hp) ho.2 e ⟨O,ρ,⟨⟨l,hl,hER⟩,hD⟩,hM,hGO,hS⟩ hK
 | block id b ih=>
  intro p st k N X Y a w hp ho e hG hK
  simp only [ordAll] at ho
  simp only [sev] at e
  split at e
  ·rename_i L hL
   have:=hlp.get hL
   rw [hp] at this
   exact fr this e hG hK
  ·refine c_block (ih (0 :: p) st _ _ _ Y a w (cAt_block hp) ho e hG (fun e st' a' w' h1 h2=>?_))
   cases e with
   | normal=>exact hK .normal st' a' w' h1 h2
   | exit j=>
    simp only at h1
    show if j=id then N a' w' else X j a' w'
    split at h1
    ·rename_i hj;rw [if_pos (Nat.eq_of_beq_eq_true hj)];exact hK .normal st' a' w' h1 h2
    ·rename_i hj;rw [if_neg (Nat.ne_of_beq_eq_false hj)];exact hK (.exit j) st' a' w' h1 h2
   | ret=>exact hK .ret st' a' w' h1 h2
   | goto j=>exact (hK (.goto j) st' a' w' h1 h2:False).elim
   | panic ch=>exact (hK (.panic ch) st' a' w' h1 h2:False).elim
   | outgrown=>exact (hK .outgrown st' a' w' h1 h2:False).elim
 | loop b ih=>
  intro p st k N X Y a w hp ho e hG hK
  simp only [ordAll] at ho
  simp only [sev] at e
  refine c_rounds (fun n a w=>∃ st,loopN (sev E m lp b (0 :: p)) n st k=some r∧G E O0 ρ0 w0 st a w) ?_ ?_ 64 a w ⟨st,e,hG⟩
  ·rintro a w ⟨st,e,_⟩;simp [loopN] at e
  ·rintro n a w ⟨st,e,hG⟩
   simp only [loopN] at e
   refine ih (0 :: p) st _ _ X Y a w (cAt_loop hp) ho e hG (fun e st' a' w' h1 h2=>?_)
   cases e with
   | normal=>exact ⟨st',h1,h2⟩
   | exit j=>exact hK (.exit j) st' a' w' h1 h2
   | ret=>exact hK .ret st' a' w' h1 h2
   | goto j=>exact (hK (.goto j) st' a' w' h1 h2:False).elim
   | panic ch=>exact (hK (.panic ch) st' a' w' h1 h2:False).elim
   | outgrown=>exact (hK .outgrown st' a' w' h1 h2:False).elim
 | rangeFunc g ps as b iha ihb=>
  intro p st k N X Y a w hp ho e hG hK
  simp only [sev] at e
  split at e<;>first | (cases e;done) | skip
  rename_i L hL
  have hLc:=hlp.get hL
  rw [hp] at hLc
  unfold fragM at e
  split at e<;>first | (cases e;done) | skip
  rename_i hrf
  rw [hrf] at hLc
  have hLc:LcOkM P E m L (.rangeFunc g ps as b):=hLc
  obtain ⟨x,y,hk,hG'⟩:=uniS_ok hm e hG
  rcases L.nat _ x y _ _ r hk with ⟨p',q',h1,h2⟩ | ⟨p',q',h1,h2⟩
  ·exact c_mono (hLc O0 ρ0 w0 hm x y p' q' h1 a w hG') (fun a w h=>hK .normal _ _ _ h2 h) (fun _ _ _ h=>h.elim) (fun _ _ h=>h.elim)
  ·cases h2
 | label l=>intro p st k N X Y a w hp ho e hG hK;exact wp_label (hK .normal st a w e hG)
 | scope x ih=>
  intro p st k N X Y a w hp ho e hG hK
  simp only [ordAll] at ho
  simp only [sev] at e
  refine wp_scope_straight (wp_mono (ih (0 :: p) st _ N X Y a w (cAt_scope hp) ho e hG (fun e st' a' w' h1 h2=>?_)) fun e a w q=>?_)
  ·cases e with
   | goto j=>cases h1
   | _=>exact hK _ st' a' w' h1 h2
  ·cases e<;>first | exact q | exact q.elim
 | _=>intro p st k N X Y a w hp ho e hG hK;simp [sev] at e
abbrev Full (A:List Sh) (T:List TSh) (A1:List Sh) (T1:List TSh) (A2:List Sh) (T2:List TSh):Type:=(dens A×tdens T) ⊕ ((dens A1×tdens T1) ⊕ (dens A2×tdens T2))
def kLoop {β:Type} (m:Nat) (s0:List Nat) (A:List Sh) (T:List TSh) (s1:List Nat) (A1:List Sh) (T1:List TSh) (s2:List Nat) (A2:List Sh) (T2:List TSh) (id:Nat) (again:dens A->tdens T->Option β) (out:dens A1->tdens T1->Option β) (ret:dens A2->tdens T2->Option β):Exit->St->Option β:=fun e st=>match e with
 | .normal=>uniS m s0 A T st again
 | .exit j=>match Nat.beq j id with
  | true=>uniS m s1 A1 T1 st out
  | false=>none
 | .ret=>uniS m s2 A2 T2 st ret
 | _=>none
theorem lc_loop {σ τ1 τ2:Type} {m:Nat} {lp:List (List Nat×Lc)} {root b:Code} {p:List Nat} {id:Nat} (s0:List Nat) (A:List Sh) (T:List TSh) (s1:List Nat) (A1:List Sh) (T1:List TSh) (s2:List Nat) (A2:List Sh) (T2:List TSh) (hc:COk P E.c) (hct:CtsOk P E) (hmx:P.follows .mixedOrders=true) (hlp:AllLc P E m root lp) (hp:cAt root p=b) (ho:ordAll E b=true)
  (f:σ->Option (σ ⊕ (τ1 ⊕ τ2))) (eA:σ->dens A) (eT:σ->tdens T) (e1:τ1->dens A1×tdens T1) (e2:τ2->dens A2×tdens T2)
  (hb:∀ s r,f s=some r->sev E m lp b p (mkSt s0 A T (eA s) (eT s)) (kLoop (β:=Full A T A1 T1 A2 T2) m s0 A T s1 A1 T1 s2 A2 T2 id (fun x y=>some (.inl (x,y))) (fun x y=>some (.inr (.inl (x,y)))) (fun x y=>some (.inr (.inr (x,y))))) =
   some (match r with | .inl s=>.inl (eA s,eT s) | .inr (.inl z)=>.inr (.inl (e1 z)) | .inr (.inr z)=>.inr (.inr (e2 z))))
  {O0:Own} {ρ0:List Hd} {w0:World} (hm:ρ0.length=m) {fuel:Nat} {i0:σ} {z:τ1 ⊕ τ2} (hz:iter f fuel i0=some z) {a:Act} {w:World} (hG:G E O0 ρ0 w0 (mkSt s0 A T (eA i0) (eT i0)) a w) :
  (Code.block id (.loop b)).wp P (QL (fun a w=>∃ t,z=.inl t∧G E O0 ρ0 w0 (mkSt s1 A1 T1 (e1 t).1 (e1 t).2) a w) (fun _ _ _=>False) (fun a w=>∃ t,z=.inr t∧G E O0 ρ0 w0 (mkSt s2 A2 T2 (e2 t).1 (e2 t).2) a w)) a w:=by
 refine c_block (c_loop f (fun s a w=>G E O0 ρ0 w0 (mkSt s0 A T (eA s) (eT s)) a w)
  (fun z e a w=>match z with
   | .inl t=>e=.exit id∧G E O0 ρ0 w0 (mkSt s1 A1 T1 (e1 t).1 (e1 t).2) a w
   | .inr t=>e=.ret∧G E O0 ρ0 w0 (mkSt s2 A2 T2 (e2 t).1 (e2 t).2) a w) ?_ (x:=z) ?_ ?_ fuel i0 a w hG hz)
 ·intro s a w hG r hr
  refine sev_ok hc hct hmx hm hlp b p _ _ _ _ _ a w hp ho (hb s r hr) hG (fun e st' a' w' h1 h2=>?_)
  cases e with
  | normal=>
   obtain ⟨x,y,h3,h4⟩:=uniS_ok hm h1 h2
   simp only [Option.some.injEq] at h3
   show ∃ s',r=.inl s'∧_
   cases r with
   | inl s'=>simp only [Sum.inl.injEq,Prod.mk.injEq] at h3;obtain ⟨rfl,rfl⟩:=h3;exact ⟨s',rfl,h4⟩
   | inr t=>cases t<;>cases h3
  | exit j=>
   simp only [kLoop] at h1
   split at h1
   ·rename_i hj
    have:=Nat.eq_of_beq_eq_true hj
    subst this
    obtain ⟨x,y,h3,h4⟩:=uniS_ok hm h1 h2
    simp only [Option.some.injEq] at h3
    show ∃ x,r=.inr x∧_
    cases r with
    | inl s'=>cases h3
    | inr t=>
     cases t with
     | inl t=>simp only [Sum.inr.injEq,Sum.inl.injEq] at h3;refine ⟨.inl t,rfl,rfl,?_⟩;rw [← h3];exact h4
     | inr t=>cases h3
   ·cases h1
  | ret=>
   obtain ⟨x,y,h3,h4⟩:=uniS_ok hm h1 h2
   simp only [Option.some.injEq] at h3
   show ∃ x,r=.inr x∧_
   cases r with
   | inl s'=>cases h3
   | inr t=>
    cases t with
    | inl t=>cases h3
    | inr t=>simp only [Sum.inr.injEq] at h3;refine ⟨.inr t,rfl,rfl,?_⟩;rw [← h3];exact h4
  | goto j=>cases h1
  | panic ch=>cases h1
  | outgrown=>cases h1
 ·intro k a w h
  cases z with
  | inl t=>obtain ⟨rfl',h⟩:=h;cases rfl';show if id=id then _ else _;rw [if_pos rfl];exact ⟨t,rfl,h⟩
  | inr t=>obtain ⟨h,_⟩:=h;cases h
 ·intro a w h
  cases z with
  | inl t=>obtain ⟨h,_⟩:=h;cases h
  | inr t=>exact ⟨t,rfl,h.2⟩
def resS (c:Cfg) (il:IEnv) (tb:Tbl):List ResultVar->Option (List IV)
 | []=>some []
 | .tmp t :: r=>match geti il t,resS c il tb r with
  | some (.tu _),_=>none
  | some v,some vs=>some (v :: vs)
  | _,_=>none
 | .cell t ty :: r=>match geti il t,resS c il tb r with
  | some (.pt id []),some vs=>match nth tb id with
   | some (.blk _ v)=>match fits c ty v with
    | true=>some (v :: vs)
    | false=>none
   | _=>none
  | _,_=>none
def runD {β:Type} (E:Ev) (k:Tbl->Option β):List IV->Tbl->Option β
 | [],tb=>k tb
 | .fn f a cc :: r,tb=>match unch a,unch cc with
  | some l1,some l3=>match pickCt (l1 ++ l3) tb (E.cd f) with
   | some ct=>callF ct (l1 ++ l3) tb fun _ tb _=>runD E k r tb
   | none=>none
  | _,_=>none
 | _,_=>none
def kFn {β:Type} (E:Ev) (m:Nat) (rs:List ResultVar) (B:List Sh) (U:List TSh) (k:dens B->tdens U->Option β):Exit->St->Option β:=fun e st=>match e with
 | .normal=>runD E (fun tb=>match resS E.c st.env tb rs with
  | some vs=>uni false B U (rng m) vs tb fun x y _=>k x y
  | none=>none) st.df st.tb
 | .ret=>runD E (fun tb=>match resS E.c st.env tb rs with
  | some vs=>uni false B U (rng m) vs tb fun x y _=>k x y
  | none=>none) st.df st.tb
 | _=>none
def resF (tmps:Array Value):ResultVar->Sem Value
 | .tmp t=>pure (tmps.getD t undef)
 | .cell a t=>do loadVar t (← asAddr (tmps.getD a undef))
theorem run_loadVar {c:Cfg} (hc:COk P c) {O:Own} {ρ:List Hd} {t:Nat} {ad:Addr} {u:IV} {us:List Value} {w:World} (hf:fits c t u=true) (hR:R O ρ false u us) (hcell:∀ j y,us[j]? = some y->w.cell? (ad.add j)=some y) :
  (loadVar t ad).run P w=.ok (bif u.agg then .agg us.toArray else us.headD (.bool false)) w:=by
 unfold fits at hf
 split at hf<;>first | (cases hf;done) | skip
 rename_i d hd
 have hl:=R.length hR
 split at hf<;>first | (cases hf;done) | skip
 ·rename_i hg hu
  split at hf<;>first | (cases hf;done) | skip
  rename_i z hz
  have hz':=Nat.eq_of_beq_eq_true hf
  have hload:(loadCells ad us.length).run P w=.ok us.toArray w:=run_loadCells_list (P:=P) w ad us hcell
  rw [hl,← hz'] at hload
  simp [loadVar,run_isAgg (hc.tok.desc _ _ hd),hg,hc.tok.size _ _ hz,hload,hu]
 ·rename_i hg hu
  have h1:u.sz.size=1:=by cases u<;>simp [IV.agg] at hu<;>rfl
  rw [h1] at hl
  obtain ⟨y,rfl⟩:=List.length_eq_one_iff.1 hl
  have:=hcell 0 y rfl
  have e0:ad.add 0=ad:=by unfold Addr.add;simp
  rw [e0] at this
  simp [loadVar,run_isAgg (hc.tok.desc _ _ hd),hg,this,hu]
def RunL (P:Program) (w:World):List (Sem Value)->List Value->Prop
 | [],xs=>xs=[]
 | f :: fs,xs=>∃ x r,xs=x :: r∧f.run P w=.ok x w∧RunL P w fs r
theorem mapM_run {α:Type} {w:World} (f:α->Sem Value):∀ {l:List α} {xs:List Value},RunL P w (l.map f) xs->(l.mapM f).run P w=.ok xs w
 | [],xs,h=>by simp only [List.map_nil,RunL] at h;subst h;rfl
 | a :: l,xs,h=>by
  obtain ⟨x,r,rfl,h1,h2⟩:=h
  simp only [List.mapM_cons,Sem.run_bind,h1,mapM_run f h2,Result.andThen_ok]
  rfl
theorem resS_ok {c:Cfg} {n:Nat} {a:Act} {il:IEnv} {tb:Tbl} {O:Own} {ρ:List Hd} {w:World} (hc:COk P c) (h:FI n a il O ρ) (hM:Gm O ρ tb w):∀ {rs:List ResultVar} {vs:List IV},resS c il tb rs=some vs->∃ cs,RL O ρ vs cs∧RunL P w (rs.map (resF a.tmps)) (vals vs cs)
 | [],vs,e=>by simp only [resS,Option.some.injEq] at e;subst e;exact ⟨[],rfl,rfl⟩
 | .tmp t :: r,vs,e=>by
  simp only [resS] at e
  split at e<;>first | (cases e;done) | skip
  rename_i v vs' hn ht hts
  cases e
  obtain ⟨cs,h1,h2⟩:=resS_ok hc h hM hts
  obtain ⟨l,hl,hE⟩:=h
  obtain ⟨sv,hsv,hSR⟩:=hE.get ht
  have hy:∃ y,sv=.o y∧S0R O ρ v y:=by
   cases v<;>first | exact hSR | exact absurd rfl (hn _)
  obtain ⟨y,rfl,hS⟩:=hy
  obtain ⟨c0,h4,h5,h6,h7⟩:=hS.cells
  refine ⟨c0 :: cs,⟨c0,cs,rfl,h5,h1⟩,_,_,rfl,?_,h2⟩
  have:a.tmps[t]? = _:=hl.has t _ hsv
  simp only [resF,Sem.run_pure,Array.getD_eq_getD_getElem?,this,Option.getD_some,SV.val]
  cases hg:v.agg with
  | true=>rw [h6 hg];rfl
  | false=>rw [h7 hg];simp
 | .cell t ty :: r,vs,e=>by
  simp only [resS] at e
  split at e<;>first | (cases e;done) | skip
  rename_i id vs' ht hts
  split at e<;>first | (cases e;done) | skip
  rename_i bt v hb
  split at e<;>first | (cases e;done) | skip
  rename_i hf
  cases e
  obtain ⟨cs,h1,h2⟩:=resS_ok hc h hM hts
  obtain ⟨l,hl,hE⟩:=h
  obtain ⟨sv,hsv,y,rfl,u,rfl,hd,off,h3,h4,h5⟩:=hE.get ht
  cases h5
  rw [nth_eq] at hb
  obtain ⟨hd',c0,h6,h7,h8,h9,h10⟩:=hM.th _ _ hb
  rw [h3] at h6;cases h6
  have hoff:off=0:=by
   have:hd.z.off []=some 0:=by cases hd.z<;>rfl
   rw [this] at h4;cases h4;rfl
  subst hoff
  refine ⟨c0 :: cs,⟨c0,cs,rfl,h9,h1⟩,_,_,rfl,?_,h2⟩
  have:a.tmps[t]? = _:=hl.has t _ hsv
  have hrun:=run_loadVar (P:=P) (w:=w) (ad:=⟨hd.b,0,none⟩) hc hf h9 (fun j z hj=>by rw [add_zero _ rfl,Nat.zero_add,h10.cell];exact hj)
  simp only [resF,Array.getD_eq_getD_getElem?,this,Option.getD_some,SV.val,S0.val,asAddr,Sem.run_bind,Sem.run_pure,Result.andThen_ok]
  exact hrun
def resL:List Value->Value
 | [x]=>x
 | l=>.tuple l.toArray
theorem results_run {fn:Func} {a:Act} {w:World} {xs:List Value} (h:RunL P w (fn.results.toList.map (resF a.tmps)) xs):(results fn a.tmps).run P w=.ok (resL xs) w:=by
 have hm:(fn.results.mapM (resF a.tmps)).run P w=.ok xs.toArray w:=by
  have:=mapM_run (P:=P) (w:=w) (resF a.tmps) h
  rw [Array.mapM_eq_mapM_toList]
  simp [this]
 have hres:results fn a.tmps=(do
   let vs ← fn.results.mapM (resF a.tmps)
   pure (if h:vs.size=1 then vs[0] else .tuple vs)):=by
  unfold results;congr 1;first | done | (congr 1;funext rv;cases rv<;>rfl)
 rw [hres]
 simp only [Sem.run_bind,hm,Result.andThen_ok,Sem.run_pure]
 match xs,hm with
 | [],_=>rfl
 | [x],_=>rfl
 | x :: y :: r,_=>simp [resL]
theorem Pre.tk (m:Nat) (ρ:List Hd):Pre (ρ.take m) ρ:=fun i h e=>by
 rw [List.getElem?_take] at e
 split at e
 ·exact ⟨[],by rw [h.more_nil];exact e⟩
 ·cases e
theorem leaves_ok {β:Type} {fn:Func} {tmps:Array Value} {Q:Value->World->Prop} {k:Tbl->Option β} {r:β} (hct:CtsOk P E) {O0:Own} {ρ0:List Hd} {w0:World}
  (hK:∀ tb w O ρ,k tb=some r->Gm O ρ tb w->GO E.c O->Stp (fun _=>True) O0 ρ0 w0 O ρ w->∃ v,(results fn tmps).run P w=.ok v w∧Q v w):∀ (df:List IV) (ds:List Deferred) (tb:Tbl) (w:World) (O:Own) (ρ:List Hd),runD E k df tb=some r->DR O ρ df ds->Gm O ρ tb w->GO E.c O->Stp (fun _=>True) O0 ρ0 w0 O ρ w->Leaves P fn tmps (Ret Q) ds .returning w
 | [],ds,tb,w,O,ρ,e,hD,hM,hG,hS=>by
  simp only [DR] at hD
  subst hD
  obtain ⟨v,h1,h2⟩:=hK tb w O ρ e hM hG hS
  exact ⟨v,h1,h2⟩
 | v :: df,ds,tb,w,O,ρ,e,hD,hM,hG,hS=>by
  rcases hD with ⟨fv,first,cap,r',rfl,hR,hD⟩ | ⟨id,h,r',rfl,_⟩
  rotate_left
  ·simp [runD] at e
  cases v<;>simp only [runD] at e<;>first | (cases e;done) | skip
  rename_i f av cv
  split at e<;>first | (cases e;done) | skip
  rename_i l1 l3 h1 h3
  split at e<;>first | (cases e;done) | skip
  rename_i ct hp
  obtain ⟨hSd,fn',hf,hb,hnm⟩:=hct.2 f ct (pickCt_mem hp)
  obtain ⟨xs,ys,hcs,hxs,hys⟩:=hR
  simp only [List.cons.injEq,and_true,Value.func.injEq] at hcs
  obtain ⟨rfl,rfl,rfl⟩:=hcs
  obtain ⟨c1,r1,rfl⟩:=unch_ok h1 hxs
  obtain ⟨c3,r3,rfl⟩:=unch_ok h3 hys
  obtain ⟨rall,vall⟩:=RL.append r1 r3
  obtain ⟨v,tb',mu,hk,hcall⟩:=callF_ok hSd e hG hM rall
  rw [vall] at hcall
  have hcall:CallsD P f _ .returning w _:=hcall
  have hnm':¬ fn'.name = "runtime.NumGoroutine" := by simpa using hnm
  have hb':¬ fn'.body=none:=by intro e;simp [e] at hb
  refine leaves_cons (by simp) (f:=f) (args:=((vals l1 c1) ++ (vals l3 c3)).toArray) (by simp [invoke,callFunc,hf,hnm',hb']) (hcall.mono fun en u w' he=>?_)
  obtain ⟨hu,he⟩:=he
  subst hu
  cases en with
  | returned z=>
   obtain ⟨O',ρ',sv,g1,g2,g3,g4⟩:=he
   exact leaves_ok hct hK df r' tb' w' O' ρ' hk (hD.mono g4.im g4.pre) g3 (hG.mono g4.im) (hS.trans (g4.weak (fun _ _=>trivial)))
  | panicked _=>exact he.elim
  | outgrown=>exact he.elim
theorem fn_okK (d:Bool) {f:FuncId} {fn:Func} {code:Code} {ct:Ct} {lp:List (List Nat×Lc)} (hf:P.funcs[f]? = some fn) (hb:fn.body=some code) (hn:fn.ntmps=E.n) (hl:Nat.ble ct.A.length E.n=true) (hmT:Nat.ble ct.m ct.T.length=true) (hc:COk P E.c) (hct:CtsOk P E) (hmx:P.follows .mixedOrders=true) (hlp:AllLc P E ct.m code lp) (ho:ordAll E code=true) (hcd:d=true->∀ f,E.cd f=[])
  (h:∀ x y p q,ct.run _ x y (fun p q=>some (p,q))=some (p,q)->sev E ct.m lp code [] (mkSt (rng ct.A.length) ct.A ct.T x y) (kFn E ct.m fn.results.toList ct.B ct.U fun p q=>some (p,q))=some (p,q)):SoundK P E.c d f ct:=by
 intro x y p q hrun O ρ w cs hG hM hR
 have hmT:ct.m≤ct.T.length:=by simpa using hmT
 have hm:(ρ.take ct.m).length=ct.m:=by rw [List.length_take,hM.len,encTs_len];omega
 have hvl:∀ {vs:List IV} {cs:List (List Value)},RL O ρ vs cs->(vals vs cs).length=vs.length:=by
  intro vs
  induction vs with
  | nil=>intro cs h;simp [vals]
  | cons v vs ih=>intro cs h;obtain ⟨c0,r,rfl,h1,h2⟩:=h;simp [vals,ih h2]
 have hlen:(vals (encs ct.A x) cs).length=ct.A.length:=by rw [hvl hR,encs_len]
 have hl':ct.A.length≤E.n:=by simpa using hl
 let Q:Value->World->Prop:=fun v w'=>∃ O' ρ' ds,Gm O' ρ' (encTs ct.U q) w'∧Stp (fun _=>True) O (ρ.take ct.m) w O' ρ' w'∧RL O' ρ' (encs ct.B p) ds∧v=resV (encs ct.B p) ds
 have hG0:G E O (ρ.take ct.m) w (mkSt (rng ct.A.length) ct.A ct.T x y) { tmps:=(vals (encs ct.A x) cs).toArray ++ Array.replicate (fn.ntmps - (vals (encs ct.A x) cs).toArray.size) undef,defers:=[] } w:=by
  rw [hn]
  refine ⟨O,ρ,⟨FI.of (by simp [hlen];omega) hR (fun i t v hi hv=>?_),rfl⟩,hM,hG,⟨Pre.tk _ _,fun _ _ h=>h,fun _ _ h=>h,fun _ _ _ h _=>h,Kept.refl _ _⟩⟩
  have hi':=(List.getElem?_eq_some_iff.1 hi).1
  rw [rng,rngF_len] at hi'
  rw [rng_get hi'] at hi;cases hi
  rw [Array.getElem?_append_left (by simp [hlen,hi'])]
  simpa using hv
 have leaf:∀ {st':St} {a':Act} {w':World},(runD E (fun tb=>match resS E.c st'.env tb fn.results.toList with
   | some vs=>uni false ct.B ct.U (rng ct.m) vs tb fun x y _=>some (x,y)
   | none=>none) st'.df st'.tb)=some (p,q)->G E O (ρ.take ct.m) w st' a' w'->Leaves P fn a'.tmps (Ret Q) a'.defers .returning w'∧(d=true->a'.defers=[]):=by
  intro st' a' w' h1 h2
  obtain ⟨O1,ρ1,hF1,hM1,hG1,hS1⟩:=h2
  refine ⟨leaves_ok hct (O0:=O1) (ρ0:=ρ1) (w0:=w') ?_ st'.df a'.defers st'.tb w' O1 ρ1 h1 hF1.2 hM1 hG1 (.refl _ _ _ _),fun hd=>?_⟩
  ·intro tb w2 O2 ρ2 hu hM2 hG2 hS2
   have hF2:=hF1.1.mono hS2.im hS2.pre
   have hS1:Stp (fun _=>True) O (ρ.take ct.m) w O2 ρ2 w2:=hS1.trans hS2
   split at hu<;>first | (cases hu;done) | skip
   rename_i vs hvs
   obtain ⟨ds,hR1,hrl⟩:=resS_ok (P:=P) hc hF2 hM2 hvs
   have hle:ct.m≤tb.length:=by
    rw [← hM2.len,← hm]
    rcases Nat.lt_or_ge ρ2.length (ρ.take ct.m).length with h' | h'
    ·have h1:(ρ.take ct.m)[ρ2.length]? = some (ρ.take ct.m)[ρ2.length]:=List.getElem?_eq_getElem h'
     have:=hS1.pre _ _ h1
     simp at this
    ·exact h'
   obtain ⟨p',q',u',O',ρ',hk,U⟩:=uni_ok hu hM2 hR1 (rng_nodup _) (fun i hi=>Nat.lt_of_lt_of_le (rng_mem hi) hle)
   cases hk
   obtain ⟨more,hbd⟩:=U.gh.bd
   have hb':∀ i,i < (ρ.take ct.m).length->u'.bd[i]? = some i:=fun i hi=>by
    rw [hm] at hi
    rw [hbd]
    show (rng ct.m ++ more)[i]? = some i
    rw [List.getElem?_append_left (by rw [rng,rngF_len];exact hi)];exact rng_get hi
   have hS2:=(hS1.trans (U.gh.stp.weak (fun _ _=>trivial))).oc (lt:=u'.lt) hb'
   refine ⟨_,results_run hrl,_,_,ds,U.gm,hS2,U.rl,?_⟩
   show resL (vals vs ds)=resL (vals (encs ct.B p) ds)
   rw [vals_sz U.sz]
  ·have hD:=hF1.2
   cases hdf:st'.df with
   | nil=>rw [hdf] at hD;exact hD
   | cons v r=>
    rw [hdf] at h1
    exfalso
    cases v<;>simp only [runD] at h1<;>first | (cases h1;done) | skip
    split at h1<;>first | (cases h1;done) | skip
    rw [hcd hd] at h1
    simp [pickCt] at h1
 have hwp:code.wp P (QL (fun a w=>Leaves P fn a.tmps (Ret Q) a.defers .returning w∧(d=true->a.defers=[])) (fun _ _ _=>False) (fun a w=>Leaves P fn a.tmps (Ret Q) a.defers .returning w∧(d=true->a.defers=[]))) { tmps:=(vals (encs ct.A x) cs).toArray ++ Array.replicate (fn.ntmps - (vals (encs ct.A x) cs).toArray.size) undef,defers:=[] } w:=by
  refine sev_ok hc hct hmx hm hlp code [] _ _ _ _ _ _ _ rfl ho (h x y p q hrun) hG0 (fun e st' a' w' h1 h2=>?_)
  cases e with
  | normal=>exact leaf h1 h2
  | ret=>exact leaf h1 h2
  | exit j=>cases h1
  | goto j=>cases h1
  | panic ch=>cases h1
  | outgrown=>cases h1
 cases d with
 | false=>
  refine calls_of_wp_defers hf hb (wp_mono hwp fun e a w q=>?_)
  cases e<;>first | exact q.1 | exact q.elim
 | true=>
  have:=callsD_of_wp (u:=.returning) (R:=Ret Q) hf hb (wp_mono hwp fun e a w q=>?_)
  ·exact this
  ·cases e with
   | normal=>
    obtain ⟨q1,q2⟩:=q
    have q2:=q2 rfl
    rw [q2] at q1
    exact ⟨q2,q1⟩
   | ret=>
    obtain ⟨q1,q2⟩:=q
    have q2:=q2 rfl
    rw [q2] at q1
    exact ⟨q2,q1⟩
   | _=>exact q.elim
end
end Go.Tw
namespace Go.Tw
set_option linter.unusedSimpArgs false
set_option linter.unusedVariables false
def mkC (m:Nat) (A:List Sh) (T:List TSh) (B:List Sh) (U:List TSh) {τ:Type} (t:dens A->tdens T->Option τ) (e:dens A->tdens T->τ->dens B×tdens U):Ct where
 m:=m
 A:=A
 T:=T
 B:=B
 U:=U
 run:=fun _ x y k=>(t x y).bind fun z=>k (e x y z).1 (e x y z).2
 nat:=fun _ x y k r h=>by
  obtain ⟨z,h1,h2⟩:=bindS h
  exact ⟨_,_,by rw [h1];rfl,h2⟩
def mkL (s0:List Nat) (A:List Sh) (T:List TSh) (s1:List Nat) (A1:List Sh) (T1:List TSh) {σ τ:Type} (F:Nat) (f:dens A->tdens T->σ->Option (σ ⊕ τ)) (init:dens A->tdens T->σ) (e1:dens A->tdens T->τ->dens A1×tdens T1):Lc where
 s0:=s0
 A:=A
 T:=T
 s1:=s1
 A1:=A1
 T1:=T1
 s2:=[]
 A2:=[]
 T2:=[]
 run:=fun _ x y k1 _=>(iter (f x y) F (init x y)).bind fun z=>k1 (e1 x y z).1 (e1 x y z).2
 nat:=fun _ x y k1 k2 r h=>by
  obtain ⟨z,h1,h2⟩:=bindS h
  exact .inl ⟨_,_,by rw [h1];rfl,h2⟩
def mkR (s0:List Nat) (A:List Sh) (T:List TSh) (s1:List Nat) (A1:List Sh) (T1:List TSh) (s2:List Nat) (A2:List Sh) (T2:List TSh) {σ τ1 τ2:Type} (F:Nat) (f:dens A->tdens T->σ->Option (σ ⊕ (τ1 ⊕ τ2))) (init:dens A->tdens T->σ) (e1:dens A->tdens T->τ1->dens A1×tdens T1) (e2:dens A->tdens T->τ2->dens A2×tdens T2):Lc where
 s0:=s0
 A:=A
 T:=T
 s1:=s1
 A1:=A1
 T1:=T1
 s2:=s2
 A2:=A2
 T2:=T2
 run:=fun _ x y k1 k2=>(iter (f x y) F (init x y)).bind fun z=>match z with
  | .inl z=>k1 (e1 x y z).1 (e1 x y z).2
  | .inr z=>k2 (e2 x y z).1 (e2 x y z).2
 nat:=fun _ x y k1 k2 r h=>by
  obtain ⟨z,h1,h2⟩:=bindS h
  cases z with
  | inl z=>exact .inl ⟨_,_,by rw [h1];rfl,h2⟩
  | inr z=>exact .inr ⟨_,_,by rw [h1];rfl,h2⟩
def mkJ (s0:List Nat) (A:List Sh) (T:List TSh) (s1:List Nat) (A1:List Sh) (T1:List TSh) {τ:Type} (t:dens A->tdens T->Option τ) (e1:dens A->tdens T->τ->dens A1×tdens T1):Lc where
 s0:=s0
 A:=A
 T:=T
 s1:=s1
 A1:=A1
 T1:=T1
 s2:=[]
 A2:=[]
 T2:=[]
 run:=fun _ x y k1 _=>(t x y).bind fun z=>k1 (e1 x y z).1 (e1 x y z).2
 nat:=fun _ x y k1 k2 r h=>by
  obtain ⟨z,h1,h2⟩:=bindS h
  exact .inl ⟨_,_,by rw [h1];rfl,h2⟩
def elimS {σ τ β:Type} (a:σ->Option β) (b:τ->Option β):σ ⊕ τ->Option β
 | .inl x=>a x
 | .inr x=>b x
def kJoin {β:Type} (m:Nat) (s1:List Nat) (A1:List Sh) (T1:List TSh) (out:dens A1->tdens T1->Option β):Exit->St->Option β:=fun e st=>match e with
 | .normal=>uniS m s1 A1 T1 st out
 | _=>none
section
variable {P:Program} {E:Ev}
theorem mkR_ok {σ τ1 τ2:Type} {s0:List Nat} {A:List Sh} {T:List TSh} {s1:List Nat} {A1:List Sh} {T1:List TSh} {s2:List Nat} {A2:List Sh} {T2:List TSh} {F:Nat} {f:dens A->tdens T->σ->Option (σ ⊕ (τ1 ⊕ τ2))} {init:dens A->tdens T->σ} {e1:dens A->tdens T->τ1->dens A1×tdens T1} {e2:dens A->tdens T->τ2->dens A2×tdens T2} {m:Nat} {lp:List (List Nat×Lc)} {root b:Code} {p:List Nat} {id:Nat}
  (hc:COk P E.c) (hct:CtsOk P E) (hmx:P.follows .mixedOrders=true) (hlp:AllLc P E m root lp) (ho:ordAll E (cAt root (0 :: 0 :: p))=true) (hcode:cAt root p=.block id (.loop b))
  (eA:dens A->tdens T->σ->dens A) (eT:dens A->tdens T->σ->tdens T) (hiA:∀ x y,eA x y (init x y)=x) (hiT:∀ x y,eT x y (init x y)=y)
  (g:dens A->tdens T->σ->(σ->Option (Full A T A1 T1 A2 T2))->(τ1->Option (Full A T A1 T1 A2 T2))->(τ2->Option (Full A T A1 T1 A2 T2))->Option (Full A T A1 T1 A2 T2))
  (hnat:∀ x y s kA kO kR,g x y s kA kO kR=(f x y s).bind (elimS kA (elimS kO kR)))
  (heq:∀ x y s,sev E m lp (cAt root (0 :: 0 :: p)) (0 :: 0 :: p) (mkSt s0 A T (eA x y s) (eT x y s)) (kLoop m s0 A T s1 A1 T1 s2 A2 T2 id (fun x y=>some (.inl (x,y))) (fun x y=>some (.inr (.inl (x,y)))) (fun x y=>some (.inr (.inr (x,y))))) =
   g x y s (fun s=>some (.inl (eA x y s,eT x y s))) (fun z=>some (.inr (.inl (e1 x y z)))) (fun z=>some (.inr (.inr (e2 x y z))))):LcOk P E m (mkR s0 A T s1 A1 T1 s2 A2 T2 F f init e1 e2) (cAt root p):=by
 have hb0:cAt root (0 :: 0 :: p)=b:=by simp [cAt,hcode]
 intro O0 ρ0 w0 hm (x:dens A) (y:tdens T) z hz a w hG
 obtain ⟨t,ht,hz⟩:=bindS hz
 rw [hcode]
 have hG':G E O0 ρ0 w0 (mkSt s0 A T (eA x y (init x y)) (eT x y (init x y))) a w:=by rw [hiA,hiT];exact hG
 have:=lc_loop (P:=P) (E:=E) (root:=root) (b:=b) (p:=0 :: 0 :: p) (id:=id) (lp:=lp) s0 A T s1 A1 T1 s2 A2 T2 hc hct hmx hlp hb0 (by rw [← hb0];exact ho) (f x y) (eA x y) (eT x y) (e1 x y) (e2 x y) (fun s r hr=>by
   have h1:=heq x y s
   rw [hnat,hr,hb0] at h1
   rw [h1]
   cases r with
   | inl s=>rfl
   | inr r=>cases r<;>rfl) hm ht hG'
 cases t with
 | inl t=>
  cases hz
  refine c_mono this (fun a w h=>?_) (fun _ _ _ h=>h) (fun a w h=>?_)
  ·obtain ⟨t',e,h⟩:=h;cases e;exact ⟨_,_,rfl,h⟩
  ·obtain ⟨t',e,h⟩:=h;cases e
 | inr t=>
  cases hz
  refine c_mono this (fun a w h=>?_) (fun _ _ _ h=>h) (fun a w h=>?_)
  ·obtain ⟨t',e,h⟩:=h;cases e
  ·obtain ⟨t',e,h⟩:=h;cases e;exact ⟨_,_,rfl,h⟩
theorem mkL_ok {σ τ:Type} {s0:List Nat} {A:List Sh} {T:List TSh} {s1:List Nat} {A1:List Sh} {T1:List TSh} {F:Nat} {f:dens A->tdens T->σ->Option (σ ⊕ τ)} {init:dens A->tdens T->σ} {e1:dens A->tdens T->τ->dens A1×tdens T1} {m:Nat} {lp:List (List Nat×Lc)} {root b:Code} {p:List Nat} {id:Nat}
  (hc:COk P E.c) (hct:CtsOk P E) (hmx:P.follows .mixedOrders=true) (hlp:AllLc P E m root lp) (ho:ordAll E (cAt root (0 :: 0 :: p))=true) (hcode:cAt root p=.block id (.loop b))
  (eA:dens A->tdens T->σ->dens A) (eT:dens A->tdens T->σ->tdens T) (hiA:∀ x y,eA x y (init x y)=x) (hiT:∀ x y,eT x y (init x y)=y)
  (g:dens A->tdens T->σ->(σ->Option (Full A T A1 T1 [] []))->(τ->Option (Full A T A1 T1 [] []))->Option (Full A T A1 T1 [] []))
  (hnat:∀ x y s kA kO,g x y s kA kO=(f x y s).bind (elimS kA kO))
  (heq:∀ x y s,sev E m lp (cAt root (0 :: 0 :: p)) (0 :: 0 :: p) (mkSt s0 A T (eA x y s) (eT x y s)) (kLoop m s0 A T s1 A1 T1 [] [] [] id (fun x y=>some (.inl (x,y))) (fun x y=>some (.inr (.inl (x,y)))) (fun x y=>some (.inr (.inr (x,y))))) =
   g x y s (fun s=>some (.inl (eA x y s,eT x y s))) (fun z=>some (.inr (.inl (e1 x y z))))):LcOk P E m (mkL s0 A T s1 A1 T1 F f init e1) (cAt root p):=by
 have hb0:cAt root (0 :: 0 :: p)=b:=by simp [cAt,hcode]
 intro O0 ρ0 w0 hm (x:dens A) (y:tdens T) z hz a w hG
 obtain ⟨t,ht,hz⟩:=bindS hz
 cases hz
 rw [hcode]
 let f':σ->Option (σ ⊕ (τ ⊕ Empty)):=fun s=>(f x y s).map fun r=>match r with
  | .inl s=>.inl s
  | .inr t=>.inr (.inl t)
 have hit:∀ (n:Nat) (s:σ) (t:τ),iter (f x y) n s=some t->iter f' n s=some (.inl t):=by
  intro n
  induction n with
  | zero=>intro s t h;simp [iter] at h
  | succ n ih=>
   intro s t h
   simp only [iter,Option.bind_eq_some_iff] at h ⊢
   obtain ⟨r,hr,h⟩:=h
   refine ⟨_,by show (f x y s).map _=_;rw [hr];rfl,?_⟩
   cases r with
   | inl s'=>exact ih s' t h
   | inr t'=>simp only [Option.some.injEq] at h;subst h;rfl
 have hG':G E O0 ρ0 w0 (mkSt s0 A T (eA x y (init x y)) (eT x y (init x y))) a w:=by rw [hiA,hiT];exact hG
 have:=lc_loop (P:=P) (E:=E) (root:=root) (b:=b) (p:=0 :: 0 :: p) (id:=id) (lp:=lp) s0 A T s1 A1 T1 [] [] [] hc hct hmx hlp hb0 (by rw [← hb0];exact ho) f' (eA x y) (eT x y) (e1 x y) (fun e:Empty=>nomatch e) (fun s r hr=>by
   have hr:(f x y s).map _=some r:=hr
   simp only [Option.map_eq_some_iff] at hr
   obtain ⟨r0,hr0,rfl⟩:=hr
   have h1:=heq x y s
   rw [hnat,hr0,hb0] at h1
   rw [h1]
   cases r0<;>rfl) hm (hit F _ t ht) hG'
 refine c_mono this (fun a w h=>?_) (fun _ _ _ h=>h) (fun a w h=>?_)
 ·obtain ⟨t',e,h⟩:=h;cases e;exact ⟨_,_,rfl,h⟩
 ·obtain ⟨t',e,h⟩:=h;cases t'
theorem mkJ_ok {τ:Type} {s0:List Nat} {A:List Sh} {T:List TSh} {s1:List Nat} {A1:List Sh} {T1:List TSh} {t:dens A->tdens T->Option τ} {e1:dens A->tdens T->τ->dens A1×tdens T1} {m:Nat} {lp:List (List Nat×Lc)} {root:Code} {p:List Nat}
  (hc:COk P E.c) (hct:CtsOk P E) (hmx:P.follows .mixedOrders=true) (hlp:AllLc P E m root lp) (ho:ordAll E (cAt root p)=true)
  (g:dens A->tdens T->(τ->Option (dens A1×tdens T1))->Option (dens A1×tdens T1)) (hnat:∀ x y k,g x y k=(t x y).bind k)
  (heq:∀ x y,sev E m lp (cAt root p) p (mkSt s0 A T x y) (kJoin m s1 A1 T1 (fun x y=>some (x,y)))=g x y (fun z=>some (e1 x y z))):LcOk P E m (mkJ s0 A T s1 A1 T1 t e1) (cAt root p):=by
 intro O0 ρ0 w0 hm (x:dens A) (y:tdens T) z hz a w hG
 obtain ⟨u,hu,hz⟩:=bindS hz
 cases hz
 have h1:=heq x y
 rw [hnat,hu] at h1
 refine sev_ok hc hct hmx hm hlp (cAt root p) p _ _ _ _ _ a w rfl ho h1 hG (fun e st' a' w' h2 h3=>?_)
 cases e with
 | normal=>
  obtain ⟨x',y',h4,h5⟩:=uniS_ok hm h2 h3
  simp only [Option.some.injEq] at h4
  refine ⟨_,_,rfl,?_⟩
  rw [← h4];exact h5
 | exit j=>cases h2
 | ret=>cases h2
 | goto j=>cases h2
 | panic ch=>cases h2
 | outgrown=>cases h2
def ctOf:List (Nat×Ct)->Nat->List Ct
 | [],_=>[]
 | (g,ct) :: r,f=>match Nat.beq g f with
  | true=>ct :: ctOf r f
  | false=>ctOf r f
def AllCt (P:Program) (c:Cfg) (d:Bool):List (Nat×Ct)->Prop
 | []=>True
 | (f,ct) :: r=>(SoundK P c d f ct∧∃ fn,P.funcs[f]? = some fn∧fn.body.isSome=true∧(fn.name == "runtime.NumGoroutine")=false)∧AllCt P c d r
theorem AllCt.ok {c:Cfg} {d:Bool}:∀ {l:List (Nat×Ct)} {f:Nat} {ct:Ct},AllCt P c d l->ct ∈ ctOf l f->SoundK P c d f ct∧∃ fn,P.funcs[f]? = some fn∧fn.body.isSome=true∧(fn.name == "runtime.NumGoroutine")=false
 | [],f,ct,_,h=>by simp [ctOf] at h
 | (g,c0) :: r,f,ct,h,hm=>by
  simp only [ctOf] at hm
  split at hm
  ·rename_i hg
   have:=Nat.eq_of_beq_eq_true hg
   subst this
   rcases List.mem_cons.1 hm with hm | hm
   ·subst hm;exact h.1
   ·exact AllCt.ok h.2 hm
  ·exact AllCt.ok h.2 hm
theorem cts_of {E:Ev} {l l':List (Nat×Ct)} (he:E.ct=ctOf l) (he':E.cd=ctOf l') (h:AllCt P E.c false l) (h':AllCt P E.c true l'):CtsOk P E:=⟨fun f ct hm=>by
 rw [he] at hm;exact AllCt.ok h hm,fun f ct hm=>by
 rw [he'] at hm;exact AllCt.ok h' hm⟩
theorem mkC_okK (d:Bool) (hcd:d=true->∀ f,E.cd f=[]) {τ:Type} {m:Nat} {A:List Sh} {T:List TSh} {B:List Sh} {U:List TSh} {t:dens A->tdens T->Option τ} {e:dens A->tdens T->τ->dens B×tdens U} {f:FuncId} {fn:Func} {code:Code} {lp:List (List Nat×Lc)} (hf:P.funcs[f]? = some fn) (hb:fn.body=some code) (hn:fn.ntmps=E.n) (hl:Nat.ble A.length E.n=true) (hmT:Nat.ble m T.length=true) (hc:COk P E.c) (hct:CtsOk P E) (hmx:P.follows .mixedOrders=true)
  (hlp:AllLc P E m code lp) (ho:ordAll E code=true) (g:dens A->tdens T->(τ->Option (dens B×tdens U))->Option (dens B×tdens U)) (hnat:∀ x y k,g x y k=(t x y).bind k)
  (heq:∀ x y,sev E m lp code [] (mkSt (rng A.length) A T x y) (kFn E m fn.results.toList B U fun p q=>some (p,q))=g x y (fun z=>some (e x y z))):SoundK P E.c d f (mkC m A T B U t e):=by
 refine fn_okK d (ct:=mkC m A T B U t e) hf hb hn hl hmT hc hct hmx hlp ho hcd (fun (x:dens A) (y:tdens T) p q h=>?_)
 obtain ⟨z,h1,h2⟩:=bindS h
 have h3:=heq x y
 rw [hnat,h1] at h3
 rw [← h2];exact h3
theorem mkC_ok {τ:Type} {m:Nat} {A:List Sh} {T:List TSh} {B:List Sh} {U:List TSh} {t:dens A->tdens T->Option τ} {e:dens A->tdens T->τ->dens B×tdens U} {f:FuncId} {fn:Func} {code:Code} {lp:List (List Nat×Lc)} (hf:P.funcs[f]? = some fn) (hb:fn.body=some code) (hn:fn.ntmps=E.n) (hl:Nat.ble A.length E.n=true) (hmT:Nat.ble m T.length=true) (hc:COk P E.c) (hct:CtsOk P E) (hmx:P.follows .mixedOrders=true)
  (hlp:AllLc P E m code lp) (ho:ordAll E code=true) (g:dens A->tdens T->(τ->Option (dens B×tdens U))->Option (dens B×tdens U)) (hnat:∀ x y k,g x y k=(t x y).bind k)
  (heq:∀ x y,sev E m lp code [] (mkSt (rng A.length) A T x y) (kFn E m fn.results.toList B U fun p q=>some (p,q))=g x y (fun z=>some (e x y z))):Sound P E.c f (mkC m A T B U t e):=
 mkC_okK false (fun h=>by cases h) hf hb hn hl hmT hc hct hmx hlp ho g hnat heq
theorem cond_bind {α β:Type} (c:Bool) (x y:Option α) (f:α->Option β):(bif c then x else y).bind f=bif c then x.bind f else y.bind f:=by cases c<;>rfl
theorem elimS_l {σ τ β:Type} (a:σ->Option β) (b:τ->Option β) (x:σ):elimS a b (.inl x)=a x:=rfl
theorem elimS_r {σ τ β:Type} (a:σ->Option β) (b:τ->Option β) (x:τ):elimS a b (.inr x)=b x:=rfl
end
end Go.Tw
namespace Go.Tw
set_option linter.unusedSimpArgs false
set_option linter.unusedVariables false
def Ty.zc:Ty->List Value
 | .i=>[vI 0]
 | .u8=>[vU8 0]
 | .u32=>[vU32 0]
 | .u64=>[vU64 0]
 | .bo=>[vB false]
 | .s=>[vS []]
 | .un=>[]
 | .sl _=>[.slice none 0 0]
 | .pr a b=>a.zc ++ b.zc
 | .ar n t=>(List.replicate n t.zc).flatten
theorem TR_zero {O:Own}:∀ t:Ty,TR O t t.zero t.zc:=by
 intro t
 induction t with
 | pr a b iha ihb=>exact ⟨_,_,rfl,iha,ihb⟩
 | sl t ih=>exact ⟨_,[],rfl,rfl,.inl ⟨rfl,none,0,rfl⟩⟩
 | ar n t ih=>
  show LR _ _ _
  simp only [Ty.zero,Ty.zc,Vector.toList_replicate]
  exact LR.replicate ih n
 | _=>rfl
inductive ZD where
 | t (ty:Ty)
 | v (x:Value)
 | un
 | pr (a b:ZD)
def ZD.iv:ZD->IV
 | .t ty=>ofP ty ty.zero
 | .v x=>.o (.v x)
 | .un=>.un
 | .pr a b=>.pr a.iv b.iv
def ZD.cs:ZD->List Value
 | .t ty=>ty.zc
 | .v x=>[x]
 | .un=>[]
 | .pr a b=>a.cs ++ b.cs
def ZD.ok:ZD->Bool
 | .v x=>x.oneCell'
 | .pr a b=>a.ok && b.ok
 | _=>true
theorem ZD.R:∀ (d:ZD),d.ok=true->∀ (O:Own) (ρ:List Hd),Tw.R O ρ false d.iv d.cs
 | .t ty,_,O,ρ=>ofP_R (TR_zero ty)
 | .v x,h,O,ρ=>⟨rfl,h⟩
 | .un,_,O,ρ=>rfl
 | .pr a b,h,O,ρ=>by
  simp only [ZD.ok,Bool.and_eq_true] at h
  exact ⟨_,_,rfl,ZD.R a h.1 O ρ,ZD.R b h.2 O ρ⟩
theorem zero_of {P:Program} {t:Nat} {d:ZD} {z:Value} (h:∀ w,(zeroValue t).run P w=.ok z w) (hz:z.cells=d.cs.toArray) (hd:d.ok=true):∃ z cs,(∀ w,(zeroValue t).run P w=.ok z w)∧z.cells=cs.toArray∧∀ O ρ,R O ρ false d.iv cs:=
 ⟨z,d.cs,h,hz,d.R hd⟩
theorem elem_of {P:Program} {t e b:Nat} {ty:Ty} {z:Value} (h:EOk P t e ty.size b z) (hb:b≤128) (hz:z.cells=ty.zc.toArray):∃ bytes z zc,EOk P t e ty.size bytes z∧bytes≤128∧z.cells=zc.toArray∧∀ O,TR O ty ty.zero zc:=
 ⟨b,z,ty.zc,h,hb,hz,fun O=>TR_zero ty⟩
def placesB (Z:Nat->Option Nat):List Field->List (Nat×Nat)->Bool
 | [],[]=>true
 | f :: fs,(o,z) :: r=>Nat.beq f.offset o && (match Z f.type with | some z'=>Nat.beq z' z | none=>false) && placesB Z fs r
 | _,_=>false
theorem placesB_ok {Z:Nat->Option Nat}:∀ {fs:List Field} {pl:List (Nat×Nat)},placesB Z fs pl=true->∀ (i:Nat) (f:Field),fs[i]? = some f->∃ z,pl[i]? = some (f.offset,z)∧Z f.type=some z
 | [],pl,_,i,f,h=>by simp at h
 | g :: fs,[],h,i,f,_=>by simp [placesB] at h
 | g :: fs,(o,z) :: r,h,i,f,hf=>by
  simp only [placesB,Bool.and_eq_true] at h
  obtain ⟨⟨h1,h2⟩,h3⟩:=h
  cases i with
  | zero=>
   simp at hf;subst hf
   split at h2
   ·rename_i z' hz
    exact ⟨z,by simp [Nat.eq_of_beq_eq_true h1],by rw [hz,Nat.eq_of_beq_eq_true h2]⟩
   ·cases h2
  | succ i=>
   obtain ⟨z',h4,h5⟩:=placesB_ok h3 i f (by simpa using hf)
   exact ⟨z',by simpa using h4,h5⟩
theorem places_of {P:Program} {Z:Nat->Option Nat} {fs:Array Field} (pl:Array (Nat×Nat)) (h:∀ w,(fs.mapM (m:=Sem) fun f=>do pure (f.offset,← sizeOf f.type)).run P w=.ok pl w) (hb:placesB Z fs.toList pl.toList=true) :
  ∃ pl:Array (Nat×Nat),(∀ w,(fs.mapM (m:=Sem) fun f=>do pure (f.offset,← sizeOf f.type)).run P w=.ok pl w)∧∀ (i:Nat) (f:Field),fs[i]? = some f->∃ z,pl[i]? = some (f.offset,z)∧Z f.type=some z:=
 ⟨pl,h,fun i f hf=>by
  obtain ⟨z,h1,h2⟩:=placesB_ok hb i f (by simpa using hf)
  exact ⟨z,by simpa using h1,h2⟩⟩
theorem elimS_bind {σ τ α β:Type} (a:σ->Option α) (b:τ->Option α) (z:σ ⊕ τ) (f:α->Option β):(elimS a b z).bind f=elimS (fun x=>(a x).bind f) (fun x=>(b x).bind f) z:=by cases z<;>rfl
def mkK (s0:List Nat) (A:List Sh) (T:List TSh) (s1:List Nat) (A1:List Sh) (T1:List TSh) (s2:List Nat) (A2:List Sh) (T2:List TSh) {τ1 τ2:Type} (t:dens A->tdens T->Option (τ1 ⊕ τ2)) (e1:dens A->tdens T->τ1->dens A1×tdens T1) (e2:dens A->tdens T->τ2->dens A2×tdens T2):Lc where
 s0:=s0
 A:=A
 T:=T
 s1:=s1
 A1:=A1
 T1:=T1
 s2:=s2
 A2:=A2
 T2:=T2
 run:=fun _ x y k1 k2=>(t x y).bind fun z=>match z with
  | .inl z=>k1 (e1 x y z).1 (e1 x y z).2
  | .inr z=>k2 (e2 x y z).1 (e2 x y z).2
 nat:=fun _ x y k1 k2 r h=>by
  obtain ⟨z,h1,h2⟩:=bindS h
  cases z with
  | inl z=>exact .inl ⟨_,_,by rw [h1];rfl,h2⟩
  | inr z=>exact .inr ⟨_,_,by rw [h1];rfl,h2⟩
def kJoinR {β:Type} (m:Nat) (s1:List Nat) (A1:List Sh) (T1:List TSh) (s2:List Nat) (A2:List Sh) (T2:List TSh) (out:dens A1->tdens T1->Option β) (ret:dens A2->tdens T2->Option β):Exit->St->Option β:=fun e st=>match e with
 | .normal=>uniS m s1 A1 T1 st out
 | .ret=>uniS m s2 A2 T2 st ret
 | _=>none
section
variable {P:Program} {E:Ev}
theorem mkK_ok {τ1 τ2:Type} {s0:List Nat} {A:List Sh} {T:List TSh} {s1:List Nat} {A1:List Sh} {T1:List TSh} {s2:List Nat} {A2:List Sh} {T2:List TSh} {t:dens A->tdens T->Option (τ1 ⊕ τ2)} {e1:dens A->tdens T->τ1->dens A1×tdens T1} {e2:dens A->tdens T->τ2->dens A2×tdens T2} {m:Nat} {lp:List (List Nat×Lc)} {root:Code} {p:List Nat}
  (hc:COk P E.c) (hct:CtsOk P E) (hmx:P.follows .mixedOrders=true) (hlp:AllLc P E m root lp) (ho:ordAll E (cAt root p)=true)
  (g:dens A->tdens T->(τ1->Option ((dens A1×tdens T1) ⊕ (dens A2×tdens T2)))->(τ2->Option ((dens A1×tdens T1) ⊕ (dens A2×tdens T2)))->Option ((dens A1×tdens T1) ⊕ (dens A2×tdens T2))) (hnat:∀ x y kO kR,g x y kO kR=(t x y).bind (elimS kO kR))
  (heq:∀ x y,sev E m lp (cAt root p) p (mkSt s0 A T x y) (kJoinR m s1 A1 T1 s2 A2 T2 (fun x y=>some (.inl (x,y))) (fun x y=>some (.inr (x,y))))=g x y (fun z=>some (.inl (e1 x y z))) (fun z=>some (.inr (e2 x y z)))):LcOk P E m (mkK s0 A T s1 A1 T1 s2 A2 T2 t e1 e2) (cAt root p):=by
 intro O0 ρ0 w0 hm (x:dens A) (y:tdens T) z hz a w hG
 obtain ⟨u,hu,hz⟩:=bindS hz
 have h1:=heq x y
 rw [hnat,hu] at h1
 cases u with
 | inl u=>
  cases hz
  refine sev_ok hc hct hmx hm hlp (cAt root p) p _ _ _ _ _ a w rfl ho h1 hG (fun e st' a' w' h2 h3=>?_)
  cases e with
  | normal=>
   obtain ⟨x',y',h4,h5⟩:=uniS_ok hm h2 h3
   simp only [Option.some.injEq,Sum.inl.injEq] at h4
   refine ⟨_,_,rfl,?_⟩
   rw [← h4];exact h5
  | ret=>obtain ⟨x',y',h4,h5⟩:=uniS_ok hm h2 h3;cases h4
  | exit j=>cases h2
  | goto j=>cases h2
  | panic ch=>cases h2
  | outgrown=>cases h2
 | inr u=>
  cases hz
  refine sev_ok hc hct hmx hm hlp (cAt root p) p _ _ _ _ _ a w rfl ho h1 hG (fun e st' a' w' h2 h3=>?_)
  cases e with
  | normal=>obtain ⟨x',y',h4,h5⟩:=uniS_ok hm h2 h3;cases h4
  | ret=>
   obtain ⟨x',y',h4,h5⟩:=uniS_ok hm h2 h3
   simp only [Option.some.injEq,Sum.inr.injEq] at h4
   refine ⟨_,_,rfl,?_⟩
   rw [← h4];exact h5
  | exit j=>cases h2
  | goto j=>cases h2
  | panic ch=>cases h2
  | outgrown=>cases h2
end
section
variable {P:Program} {E:Ev}
end
theorem names_of {l:List Field} (h:(l.all fun f=>f.name != "_")=true):∀ f ∈ l,f.name ≠ "_" := fun f hf=>by
 simpa using List.all_eq_true.1 h f hf
def vzero:Ty->Option Value
 | .i=>some (.int .i64 0)
 | .u8=>some (.int .u8 0)
 | .u32=>some (.int .u32 0)
 | .u64=>some (.int .u64 0)
 | .bo=>some (.bool false)
 | .s=>some (.string ⟨#[]⟩)
 | .sl _=>some (.slice none 0 0)
 | _=>none
theorem vzero_ok {t:Ty} {z:Value} (h:vzero t=some z):∀ O,VR O t t.zero z:=by
 intro O
 cases t<;>simp only [vzero,Option.some.injEq] at h<;>first | (cases h;done) | skip
 all_goals subst h
 case sl t=>exact ⟨_,[],rfl,rfl,.inl ⟨rfl,_,_,rfl⟩⟩
 all_goals rfl
end Go.Tw
namespace Go.Tw
set_option linter.unusedSimpArgs false
set_option linter.unusedVariables false
theorem clone_ok {P:Program} {c:Cfg} {f:FuncId} {E:Nat} {t:Ty} (T0:Option (List t.den)) (T1:List t.den->Option (List t.den))
  (h0:Sound P c f (mkC 0 [.nn] [] [.rw 0] [.row E t] (fun _ _=>T0) (fun _ _ z=>(((),()),(z,())))))
  (h1:Sound P c f (mkC 0 [.rn t] [] [.rw 0] [.row E t] (fun x _=>T1 x.1) (fun _ _ z=>(((),()),(z,()))))) (he:T0=T1 []) :
  Sound P c f (mkC 0 [.ro t] [] [.rw 0] [.row E t] (fun x _=>T1 x.1) (fun _ _ z=>(((),()),(z,())))):=by
 intro x y p q hrun O ρ w cs hG hM hR
 obtain ⟨c0,r,rfl,hv,hr⟩:=hR
 have hr:r=[]:=hr
 subst hr
 have hv':TR O (.sl t) x.1 c0:=hv
 obtain ⟨u,es,hc0,hL,hS⟩:=hv'
 have key:(∃ cc,u=.slice none 0 cc∧x.1=[])∨∃ a n cc,u=.slice (some a) n cc:=by
  rcases hS with ⟨hz,b,cc,rfl⟩ | ⟨b,off,cap,rfl,_⟩
  ·cases b with
   | none=>exact .inl ⟨cc,rfl,List.eq_nil_of_length_eq_zero hz⟩
   | some a=>exact .inr ⟨a,0,cc,rfl⟩
  ·exact .inr ⟨_,_,_,rfl⟩
 rcases key with ⟨cc,hu,hx⟩ | ⟨a,n,cc,hu⟩
 ·have hrun':(mkC 0 [.nn] [] [.rw 0] [.row E t] (fun _ _=>T0) (fun _ _ z=>(((),()),(z,())))).run _ ((),()) () (fun p q=>some (p,q))=some (p,q):=by
   rw [← hrun]
   show (T0.bind _)=(T1 x.1).bind _
   rw [he,hx];rfl
  exact h0 ((),()) () p q hrun' O ρ w [c0] hG hM ⟨c0,[],rfl,⟨cc,by rw [hc0,hu]⟩,rfl⟩
 ·have hrun':(mkC 0 [.rn t] [] [.rw 0] [.row E t] (fun x _=>T1 x.1) (fun _ _ z=>(((),()),(z,())))).run _ (x.1,()) () (fun p q=>some (p,q))=some (p,q):=hrun
  exact h1 (x.1,()) () p q hrun' O ρ w [c0] hG hM ⟨c0,[],rfl,⟨hv,a,n,cc,by rw [hc0,hu]⟩,rfl⟩
end Go.Tw
namespace Go.Tw
set_option linter.unusedSimpArgs false
set_option linter.unusedVariables false
def mfold {σ:Type} (f:σ->Nat->Option σ):List Nat->σ->Option σ
 | [],s=>some s
 | q :: l,s=>(f s q).bind (mfold f l)
theorem mfold_append {σ:Type} (f:σ->Nat->Option σ):∀ (l l':List Nat) (s:σ),mfold f (l ++ l') s=(mfold f l s).bind (mfold f l')
 | [],l',s=>rfl
 | q :: l,l',s=>by
  simp only [List.cons_append,mfold,Option.bind_assoc]
  congr 1
  funext s'
  exact mfold_append f l l' s'
theorem mfold_perm {σ:Type} {f:σ->Nat->Option σ} (h:∀ s p q,(f s p).bind (f · q)=(f s q).bind (f · p)):∀ {l l':List Nat},l.Perm l'->∀ s,mfold f l s=mfold f l' s:=by
 intro l l' hp
 induction hp with
 | nil=>intro s;rfl
 | cons x _ ih=>intro s;simp only [mfold];congr 1;funext s';exact ih s'
 | swap x y l=>
  intro s
  simp only [mfold]
  rw [← Option.bind_assoc,← Option.bind_assoc,h s y x]
 | trans _ _ ih1 ih2=>intro s;rw [ih1,ih2]
def mkM (s0:List Nat) (A:List Sh) (T:List TSh) (s1:List Nat) (A1:List Sh) (T1:List TSh) {σ:Type} (itL:tdens T->Nat×List Nat) (mpN:tdens T->Nat) (f:dens A->tdens T->σ->Nat->Option σ) (init:dens A->tdens T->σ) (e1:dens A->tdens T->σ->dens A1×tdens T1):Lc where
 s0:=s0
 A:=A
 T:=T
 s1:=s1
 A1:=A1
 T1:=T1
 s2:=[]
 A2:=[]
 T2:=[]
 run:=fun _ x y k1 _=>bif Nat.beq (itL y).1 (mpN y) && isNil (itL y).2 then (mfold (f x y) (List.range (mpN y)) (init x y)).bind fun z=>k1 (e1 x y z).1 (e1 x y z).2 else none
 nat:=fun _ x y k1 k2 r h=>by
  cases hb:Nat.beq (itL y).1 (mpN y) && isNil (itL y).2 with
  | false=>rw [hb] at h;cases h
  | true=>
   rw [hb] at h
   obtain ⟨z,h1,h2⟩:=bindS h
   exact .inl ⟨_,_,by simp only [h1];rfl,h2⟩
section
variable {P:Program} {E:Ev}
theorem rest_perm {n:Nat} {l:List Nat} (hn:l.Nodup) (hl:∀ q ∈ l,q < n):(l ++ (List.range n).filter (fun q=>!l.contains q)).Perm (List.range n):=by
 refine (List.perm_ext_iff_of_nodup ?_ List.nodup_range).2 fun a=>?_
 ·rw [List.nodup_append]
  refine ⟨hn,List.nodup_range.filter _,fun a ha b hb e=>?_⟩
  subst e
  simp at hb
  exact hb.2 ha
 ·simp only [List.mem_append,List.mem_filter,List.mem_range,Bool.not_eq_true',List.contains_eq_mem,decide_eq_false_iff_not]
  exact ⟨fun h=>h.elim (hl a) (·.1),fun h=>(Classical.em (a ∈ l)).imp id (⟨h,·⟩)⟩
theorem nodup_rev {l:List Nat} (h:l.Nodup):l.reverse.Nodup:=(List.reverse_perm l).symm.nodup h
theorem nodup_le {n:Nat} {l:List Nat} (hn:l.Nodup) (hl:∀ q ∈ l,q < n):l.length≤n:=by
 have:=(rest_perm hn hl).length_eq
 simp at this
 omega
theorem mr_ok {σ:Type} {s0:List Nat} {A:List Sh} {T:List TSh} {s1:List Nat} {A1:List Sh} {T1:List TSh} {itL:tdens T->Nat×List Nat} {mpN:tdens T->Nat} {f:dens A->tdens T->σ->Nat->Option σ} {init:dens A->tdens T->σ} {e1:dens A->tdens T->σ->dens A1×tdens T1} {m:Nat} {lp:List (List Nat×Lc)} {root rest:Code} {p:List Nat} {id rid ti d1 d2:Nat} {o1 o2:Oper}
  (hc:COk P E.c) (hct:CtsOk P E) (hmx:P.follows .mixedOrders=true) (hlp:AllLc P E m root lp) (ho:ordAll E (cAt root (1 :: 0 :: 0 :: p))=true)
  (hcode:cAt root p=.block id (.loop (.seq (.region rid #[o1,o2] false) rest)))
  (ho1:o1.op=.next (.tmp ti) false) (hg1:o1.guard=none) (hd1:o1.dst=some d1) (ho2:o2.op=.extract (.tmp d1) 0) (hg2:o2.guard=none) (hd2:o2.dst=some d2)
  (hn1:Nat.blt d1 E.n=true) (hn2:Nat.blt d2 E.n=true)
  (jt jm:Nat) (eA:dens A->tdens T->σ->dens A) (eT:dens A->tdens T->σ->Nat×List Nat->tdens T)
  (hiA:∀ x y,eA x y (init x y)=x) (hiT:∀ x y,eT x y (init x y) (itL y)=y)
  (hti:∀ x y s,geti (zipS s0 (encs A (eA x y s))) ti=some (.it jt jm)) (hf1:∀ x y s,geti (zipS s0 (encs A (eA x y s))) d1=none)
  (hjt:∀ x y s L,nth (encTs T (eT x y s L)) jt=some (.it L.1 L.2))
  (hjm:∀ x y s L,∃ kt vt l,nth (encTs T (eT x y s L)) jm=some (.mp kt vt l)∧l.length=mpN y)
  (hset:∀ x y s (n q:Nat) (seen:List Nat),(encTs T (eT x y s ((itL y).1,seen))).set jt (.it (itL y).1 (q :: seen))=encTs T (eT x y s ((itL y).1,q :: seen)))
  (hcomm:∀ x y s p q,(f x y s p).bind (f x y · q)=(f x y s q).bind (f x y · p))
  (g:dens A->tdens T->σ->Nat->(σ->Option (Full A T A1 T1 [] []))->Option (Full A T A1 T1 [] []))
  (hnat:∀ x y s q k,g x y s q k=(f x y s q).bind k)
  (heqT:∀ x y s q (seen:List Nat),sev E m lp (cAt root (1 :: 0 :: 0 :: p)) (1 :: 0 :: 0 :: p) ⟨(d2,.o (.b true)) :: zipS s0 (encs A (eA x y s)),encTs T (eT x y s ((itL y).1,q :: seen)),[]⟩ (kLoop m s0 A T s1 A1 T1 [] [] [] id (fun x y=>some (.inl (x,y))) (fun x y=>some (.inr (.inl (x,y)))) (fun x y=>some (.inr (.inr (x,y))))) =
   g x y s q (fun s=>some (.inl (eA x y s,eT x y s ((itL y).1,q :: seen)))))
  (heqF:∀ x y s (seen:List Nat),sev E m lp (cAt root (1 :: 0 :: 0 :: p)) (1 :: 0 :: 0 :: p) ⟨(d2,.o (.b false)) :: zipS s0 (encs A (eA x y s)),encTs T (eT x y s ((itL y).1,seen)),[]⟩ (kLoop (β:=Full A T A1 T1 [] []) m s0 A T s1 A1 T1 [] [] [] id (fun x y=>some (.inl (x,y))) (fun x y=>some (.inr (.inl (x,y)))) (fun x y=>some (.inr (.inr (x,y)))))=some (.inr (.inl (e1 x y s)))) :
  LcOk P E m (mkM s0 A T s1 A1 T1 itL mpN f init e1) (cAt root p):=by
 intro O0 ρ0 w0 hm (x:dens A) (y:tdens T) z hz a w hG
 have hz:(bif Nat.beq (itL y).1 (mpN y) && isNil (itL y).2 then (mfold (f x y) (List.range (mpN y)) (init x y)).bind fun z=>some (Sum.inl ((e1 x y z).1,(e1 x y z).2)) else none)=some z:=hz
 cases hb:Nat.beq (itL y).1 (mpN y) && isNil (itL y).2 with
 | false=>rw [hb] at hz;cases hz
 | true=>
 rw [hb] at hz
 simp only [Bool.and_eq_true] at hb
 have hN:=Nat.eq_of_beq_eq_true hb.1
 have hnil:(itL y).2=[]:=by
  cases h:(itL y).2 with
  | nil=>rfl
  | cons _ _=>rw [h] at hb;cases hb.2
 obtain ⟨zz,hzz,hz⟩:=bindS hz
 cases hz
 have hrest:cAt root (1 :: 0 :: 0 :: p)=rest:=by simp [cAt,hcode]
 rw [hcode]
 let J:Nat->Act->World->Prop:=fun k a w=>∃ (s:σ) (seen:List Nat),k + seen.length=mpN y + 1∧seen.Nodup∧(∀ q ∈ seen,q < mpN y)∧mfold (f x y) seen.reverse (init x y)=some s∧G E O0 ρ0 w0 ⟨zipS s0 (encs A (eA x y s)),encTs T (eT x y s ((itL y).1,seen)),[]⟩ a w
 have h0:∀ a w,¬ J 0 a w:=by
  rintro a w ⟨s,seen,h1,h2,h3,_⟩
  have:=nodup_le h2 h3
  omega
 have hinit:J (mpN y + 1) a w:=⟨init x y,[],rfl,List.nodup_nil,fun q h=>by simp at h,rfl,by
  have:((itL y).1,([]:List Nat))=itL y:=by rw [← hnil]
  rw [this,hiA,hiT];exact hG⟩
 refine c_block (c_rounds J h0 (fun k a w hJ=>?_) (mpN y + 1) a w hinit)
 obtain ⟨s,seen,hk,hnd,hlt,hfold,hG⟩:=hJ
 obtain ⟨O,ρ,hFS,hM,hGO,hS⟩:=hG
 have hFS':=hFS
 obtain ⟨⟨l,hl,hER⟩,hD⟩:=hFS'
 obtain ⟨h,g1,g2,bm,g3,g4⟩:=hM.th jt _ (by rw [← nth_eq];exact hjt x y s _)
 obtain ⟨kt,vt,ml,hml,hmn⟩:=hjm x y s ((itL y).1,seen)
 obtain ⟨hm',es,k1,k2,k3,k4⟩:=hM.th jm _ (by rw [← nth_eq];exact hml)
 have hti':=hti x y s
 obtain ⟨sv,hsv,hSR⟩:=hER.get hti'
 obtain ⟨yv,rfl,u,rfl,hgen⟩:=hSR
 obtain ⟨h2,hm2,r1,r2,r3,r4⟩:=hgen
 cases r4
 rw [g1] at r1;cases r1
 rw [k1] at r2;cases r2
 rw [g3] at r3;cases r3
 have hev:a.eval (.tmp ti)=.pointer (some ⟨h.b,0,none⟩):=hl.eval hsv
 have hsz:es.size=mpN y:=by rw [← hmn,← k4.len];simp
 have hold:∀ e ∈ es.toList,e.born < (itL y).1:=fun e he=>by
  obtain ⟨i,hi⟩:=List.mem_iff_getElem?.1 he
  have:=k4.born hi
  have hil:=(List.getElem?_eq_some_iff.1 hi).1
  simp at hil
  omega
 have cut:∀ {X:Nat->Act->World->Prop} {Y:Act->World->Prop} (b:Bool) (v:Value) (w1:World) (st:St),(execOp a.eval o1).run P w=.ok (.value v) w1->(∀ vs,v=.tuple vs->vs[0]? = some (.bool b))->(∃ vs,v=.tuple vs) ->
   (∀ a',FI E.n a' ((d2,.o (.b b)) :: zipS s0 (encs A (eA x y s))) O ρ->a'.defers=a.defers->rest.wp P (QL (J k) X Y) a' w1) ->
   (Code.seq (.region rid #[o1,o2] false) rest).wp P (QL (J k) X Y) a w:=by
  intro X Y b v w1 st hrun hv0 ⟨vs,hvs⟩ hgo
  refine c_seq (wp_region_lit (l:=[o1,o2]) (wpList_plain hg1 fun K hK=>?_))
  unfold Oper.wp
  simp only [hrun,Result.andThen_ok]
  refine hK _ _ (wpList_plain hg2 fun K2 hK2=>?_)
  unfold Oper.wp
  subst hvs
  have e1':(a.put o1.dst (.tuple vs)).eval (.tmp d1)=.tuple vs:=by
   have:FI E.n a (zipS s0 (encs A (eA x y s))) O ρ:=⟨l,hl,hER⟩
   rw [hd1]
   have hb:d1 < a.tmps.size:=by rw [show a.tmps.size=E.n from hl.size];simpa [Nat.blt_eq] using hn1
   simp [Act.eval,Act.put,hb]
  have hx2:(execOp (a.put o1.dst (.tuple vs)).eval o2).run P w1=.ok (.value (.bool b)) w1:=by
   have:=hv0 vs rfl
   simp [execOp,ho2,e1',Instr.extract,this]
  simp only [hx2,Result.andThen_ok]
  refine hK2 _ _ (hgo _ ?_ ?_)
  ·rw [hd1,hd2]
   have f1:FI E.n (a.put (some d1) (.tuple vs)) (zipS s0 (encs A (eA x y s))) O ρ:=FI.other ⟨l,hl,hER⟩ (hf1 x y s)
   exact f1.put hn2 (v:=.o (.b b)) (x:=.o (.b b)) ⟨_,rfl,rfl,rfl⟩
  ·rw [put_defers,put_defers]
 have hr:w.heap[h.b]? = some (.mapIter (some hm'.b) (itL y).1 seen.reverse.toArray (itL y).1):=g4
 have stay:∀ {w1:World} {O1:Own} {ρ1:List Hd} {st1:St} {a':Act} , G E O0 ρ0 w0 st1 a' w1->G E O0 ρ0 w0 st1 a' w1:=fun h=>h
 have ofD:∀ {a':Act} {b:Bool},FI E.n a' ((d2,.o (.b b)) :: zipS s0 (encs A (eA x y s))) O ρ->a'.defers=a.defers->∀ tb,FS E.n a' ⟨(d2,.o (.b b)) :: zipS s0 (encs A (eA x y s)),tb,[]⟩ O ρ:=fun h1 h2 tb=>⟨h1,by
  show DR O ρ [] _
  rw [h2];exact hD⟩
 rcases run_next_at (P:=P) w o1.type h.b hm'.b (itL y).1 (itL y).1 seen.reverse.toArray es es.size hr k3 hold (Nat.le_refl _) with ⟨hl0,hrun⟩ | ⟨ent,hent,w1,hw1,hrun⟩
 ·
  have hall:∀ q,q < mpN y->q ∈ seen:=fun q hq=>by
   rcases Classical.em (q ∈ seen) with h' | h'
   ·exact h'
   exfalso
   have hqs:q < es.size:=by omega
   have hb:=k4.born (List.getElem?_eq_getElem (l:=es.toList) (i:=q) (by simpa using hqs))
   have:es.toList[q]'(by simpa using hqs) ∈ (leftOf es seen.reverse.toArray).toList:=by
    unfold leftOf
    simp only [Array.toList_filter,List.mem_filter,List.getElem_mem,true_and,hb]
    simpa using h'
   have h1:=List.length_pos_of_mem this
   rw [Array.length_toList] at h1
   omega
  have hperm:seen.reverse.Perm (List.range (mpN y)):=(List.perm_ext_iff_of_nodup (nodup_rev hnd) List.nodup_range).2 fun q=>by
   simp only [List.mem_reverse,List.mem_range];exact ⟨hlt q,hall q⟩
  have hs:s=zz:=by
   have:=mfold_perm (hcomm x y) hperm (init x y)
   rw [hfold,hzz] at this
   exact Option.some.inj this
  refine cut false (.tuple #[.bool false]) w ⟨[],[],[]⟩ (by simp only [execOp,ho1,hev];simp [hrun]) (fun vs e=>by cases e;rfl) ⟨_,rfl⟩ (fun a' hF' hd'=>?_)
  refine sev_ok hc hct hmx hm hlp rest (1 :: 0 :: 0 :: p) _ _ _ _ _ a' w hrest (by rw [← hrest];exact ho) (by rw [← hrest];exact heqF x y s seen) ⟨O,ρ,ofD hF' hd' _,hM,hGO,hS⟩ (fun e st' a2 w2 h1 h2=>?_)
  cases e with
  | normal=>
   obtain ⟨x',y',h3,h4⟩:=uniS_ok hm h1 h2
   cases h3
  | exit j=>
   simp only [kLoop] at h1
   split at h1
   ·rename_i hj
    have hj:=Nat.eq_of_beq_eq_true hj
    subst hj
    obtain ⟨x',y',h3,h4⟩:=uniS_ok hm h1 h2
    simp only [Option.some.injEq,Sum.inr.injEq,Sum.inl.injEq] at h3
    show if j=j then _ else _
    rw [if_pos rfl]
    refine ⟨_,_,rfl,?_⟩
    rw [← hs,← h3];exact h4
   ·cases h1
  | ret=>
   obtain ⟨x',y',h3,h4⟩:=uniS_ok hm h1 h2
   cases h3
  | goto j=>cases h1
  | panic ch=>cases h1
  | outgrown=>cases h1
 ·
  obtain ⟨q,hq⟩:=List.mem_iff_getElem?.1 (show ent ∈ es.toList from by
   unfold leftOf at hent
   simp only [Array.toList_filter,List.mem_filter] at hent
   exact hent.1)
  have hqb:ent.born=q:=by have:=k4.born hq;omega
  have hqn:q < mpN y:=by have:=(List.getElem?_eq_some_iff.1 hq).1;simp at this;omega
  have hqs:q ∉ seen:=by
   unfold leftOf at hent
   simp only [Array.toList_filter,List.mem_filter,hqb] at hent
   have:=hent.2
   simpa using this
  have hnd':(q :: seen).Nodup:=List.nodup_cons.2 ⟨hqs,hnd⟩
  have hlt':∀ q' ∈ q :: seen,q' < mpN y:=fun q' hq'=>by
   rcases List.mem_cons.1 hq' with rfl | hq'
   ·exact hqn
   ·exact hlt q' hq'
  have hperm:=rest_perm (n:=mpN y) (l:=(q :: seen).reverse) (nodup_rev hnd') (fun q' hq'=>hlt' q' (List.mem_reverse.1 hq'))
  have hall:=mfold_perm (hcomm x y) hperm (init x y)
  rw [hzz,mfold_append,List.reverse_cons,mfold_append,hfold] at hall
  obtain ⟨s',hs',_⟩:=bindS hall
  have hs':f x y s q=some s':=by
   simp only [mfold,Option.bind_some] at hs'
   cases hfq:f x y s q with
   | none=>rw [hfq] at hs';cases hs'
   | some s2=>rw [hfq] at hs';simpa [mfold] using hs'
  have hfold':mfold (f x y) (q :: seen).reverse (init x y)=some s':=by
   rw [List.reverse_cons,mfold_append,hfold];simp [mfold,hs']
  obtain ⟨w2,hw2⟩:∃ w2,w2=ChangeMaps.setBlock w1 h.b (.mapIter (some hm'.b) (itL y).1 (seen.reverse.toArray.push ent.born) es.size):=⟨_,rfl⟩
  have hkept:Kept (fun b=>O b=.th jt) w w2:=by
   have hh:w1.heap=w.heap∧w1.os=w.os∧w1.tape=w.tape∧w1.output=w.output:=by rcases hw1 with rfl | rfl<;>exact ⟨rfl,rfl,rfl,rfl⟩
   obtain ⟨e1',e2',e3',e4'⟩:=hh
   rw [hw2]
   refine ⟨e2',e3',e4',by simp [ChangeMaps.setBlock,e1'],fun b hb hn=>?_⟩
   have hne:h.b ≠ b:=fun e=>hn (by rw [← e];exact g2)
   simp [ChangeMaps.setBlock,e1',hne]
  have hhold:Holds O ρ w2 jt (.it (itL y).1 (q :: seen)):=⟨h,g1,g2,hm'.b,g3,by
   have hh:w1.heap=w.heap:=by rcases hw1 with rfl | rfl<;>rfl
   have hbl:h.b < w.heap.size:=(Array.getElem?_eq_some_iff.1 hr).1
   have hsn:es.size=(itL y).1:=by omega
   rw [hw2]
   simp [ChangeMaps.setBlock,hh,hbl,hqb,hsn]⟩
  obtain ⟨hM',hS'⟩:=hM.set (id:=jt) (x':=.it (itL y).1 (q :: seen)) (by
   have:=hjt x y s ((itL y).1,seen)
   rw [nth_eq] at this
   exact (List.getElem?_eq_some_iff.1 this).1) hkept hhold
  have htb:(encTs T (eT x y s ((itL y).1,seen))).set jt (.it (itL y).1 (q :: seen))=encTs T (eT x y s ((itL y).1,q :: seen)):=hset x y s 0 q seen
  refine cut true (.tuple #[.bool true,ent.key,ent.val]) w2 ⟨[],[],[]⟩ (by simp only [execOp,ho1,hev];rw [hw2];simp [hrun]) (fun vs e=>by cases e;rfl) ⟨_,rfl⟩ (fun a' hF' hd'=>?_)
  have hsev:=heqT x y s q seen
  rw [hnat,hs'] at hsev
  rw [htb] at hM'
  refine sev_ok hc hct hmx hm hlp rest (1 :: 0 :: 0 :: p) _ _ _ _ _ a' w2 hrest (by rw [← hrest];exact ho) (by rw [← hrest];exact hsev) ⟨O,ρ,ofD hF' hd' _,hM',hGO,hS.trans (hS'.weak (fun _ _=>trivial))⟩ (fun e st' a2 w3 h1 h2=>?_)
  cases e with
  | normal=>
   obtain ⟨x',y',h3,h4⟩:=uniS_ok hm h1 h2
   simp only [Option.bind_some,Option.some.injEq,Sum.inl.injEq,Prod.mk.injEq] at h3
   obtain ⟨rfl,rfl⟩:=h3
   exact ⟨s',q :: seen,by simp only [List.length_cons];omega,hnd',hlt',hfold',h4⟩
  | exit j=>
   simp only [kLoop] at h1
   split at h1
   ·obtain ⟨x',y',h3,h4⟩:=uniS_ok hm h1 h2
    cases h3
   ·cases h1
  | ret=>
   obtain ⟨x',y',h3,h4⟩:=uniS_ok hm h1 h2
   cases h3
  | goto j=>cases h1
  | panic ch=>cases h1
  | outgrown=>cases h1
end
theorem comm_add {f:Int->Nat->Option Int} (g:Nat->Option Int) (h:∀ s q,f s q=(g q).bind fun v=>some (w64 (s + v))):∀ s p q,(f s p).bind (f · q)=(f s q).bind (f · p):=by
 intro s p q
 simp only [h,Option.bind_assoc,Option.bind_some]
 cases hp:g p with
 | none=>cases hq:g q<;>simp
 | some a=>
  cases hq:g q with
  | none=>simp
  | some b=>
   simp only [Option.bind_some,Option.some.injEq]
   have e:∀ x y:Int,w64 (w64 x + y)=w64 (x + y):=fun x y=>by simp only [w64_eq];split<;>split<;>(try split)<;>omega
   rw [e,e];congr 1;omega
end Go.Tw
