/- The core: ideal values and the evaluator. -/
import Derived.Maps.RangeRun
import Derived.Test.YtiahcmabcbpcpaaGreatDoormK1
set_option linter.unusedSimpArgs false
set_option linter.unusedVariables false
namespace Go.Tw
section
variable {P:Program} {c:aF} {n:Nat} {a:Act} {l:Env} {il:aE} {O:Own} {ρ:List Hd} {tb:aj} {w0:World} {o:Oper}
def oR (c:aF) (il:aE):List (Nat×Operand)->Option (List (Nat×IV))
 | []=>some []
 | (i,x) :: r=>match aC c il x,oR c il r with
  | some (.tu _),_=>none
  | some v,some vs=>some ((i,v) :: vs)
  | _,_=>none
def gN (O:Own) (ρ:List Hd):List (Nat×IV)->List (Nat×Value)->Prop
 | [],ys=>ys=[]
 | (i,v) :: r,ys=>∃ x rest cs,ys=(i,x) :: rest∧x.cells=cs.toArray∧R O ρ false v cs∧gN O ρ r rest
theorem nK (hF:Fr n a l) (hE:ER O ρ il l) (hG:GO c O) {x:Operand} {v:IV} (e:aC c il x=some v) (ht:∀ ch,v ≠ .tu ch):∃ cs,(a.eval x).cells=cs.toArray∧R O ρ false v cs∧(v.agg=true->a.eval x=.agg cs.toArray)∧(v.agg=false->cs=[a.eval x]):=by
 obtain ⟨sv,h1,h2⟩:=qF hE hG e
 have hy:∃ y,sv=.o y∧eB O ρ v y:=by
  cases v<;>first | exact h2 | exact absurd rfl (ht _)
 obtain ⟨y,rfl,h3⟩:=hy
 obtain ⟨cs,h4,h5,h6,h7⟩:=h3.cells
 rw [aW hF h1]
 exact ⟨cs,h4,h5,h6,h7⟩
theorem rM (hF:Fr n a l) (hE:ER O ρ il l) (hG:GO c O):∀ {ps:List (Nat×Operand)} {vs:List (Nat×IV)},oR c il ps=some vs->gN O ρ vs (ps.map fun (i,x)=>(i,a.eval x))
 | [],vs,e=>by simp only [oR,az] at e;subst e;rfl
 | (i,x) :: ps,vs,e=>by
  simp only [oR] at e
  split at e<;>first | (cases e;done) | skip
  rename_i v vs' hn hx hps
  simp only [az] at e;subst e
  obtain ⟨cs,h1,h2,_⟩:=nK hF hE hG hx (fun ch e=>hn ch (by rw [e]))
  exact ⟨_,_,cs,rfl,h1,h2,rM hF hE hG hps⟩
def DK (c:aF) (fs:List Field):List (Nat×IV)->IV->Option IV
 | [],v=>some v
 | (i,u) :: r,v=>match iE v i,nth fs i with
  | some (q,old),some f=>match Nat.beq q f.offset,old.sz.beq u.sz,c.Z f.type with
   | true,true,some z=>match Nat.beq z u.sz.size,sY v i u with
    | true,some v'=>DK c fs r v'
    | _,_=>none
   | _,_,_=>none
  | _,_=>none
theorem xP {place:Nat->Option (Nat×Nat)} {i off k:Nat} {v:Value} {us cs:List Value} {rest:List (Nat×Value)} {out:Array Value} (hp:place i=some (off,k)) (hv:v.cells=us.toArray) (hk:us.length=k) (hl:off + us.length≤cs.length)
  (h:Instr.fill place (aI cs off us).toArray rest=some out):Instr.fill place cs.toArray ((i,v) :: rest)=some out:=by
 have akK:=aby off us 0 cs (by omega)
 unfold Instr.fill
 simp only [hp,hv]
 rw [if_neg (by simp;omega)]
 have e:us.toArray.zipIdx=(us.zipIdx 0).toArray:=by simp
 rw [e,List.foldl_toArray' _ _ _ (by simp)]
 rw [akK]
 exact h
theorem We {fs:Array Field} {pl:Array (Nat×Nat)} (iT:∀ (i:Nat) (f:Field),fs[i]? = some f->∃ z,pl[i]? = some (f.offset,z)∧c.Z f.type=some z):∀ {ps:List (Nat×IV)} {ys:List (Nat×Value)} {v v':IV} {cs:List Value},DK c fs.toList ps v=some v'->gN O ρ ps ys->R O ρ false v cs ->
  ∃ cs',Instr.fill (pl[·]?) cs.toArray ys=some cs'.toArray∧R O ρ false v' cs'∧v'.sz=v.sz
 | [],ys,v,v',cs,e,h,hR=>by
  simp only [DK,az] at e;subst e
  simp only [gN] at h;subst h
  exact ⟨cs,rfl,hR,rfl⟩
 | (i,u) :: ps,ys,v,v',cs,e,h,hR=>by
  obtain ⟨x,rest,us,rfl,h1,h2,h3⟩:=h
  simp only [DK] at e
  split at e<;>first | (cases e;done) | skip
  rename_i q old f hq hf
  split at e<;>first | (cases e;done) | skip
  rename_i z oT hsz hz
  split at e<;>first | (cases e;done) | skip
  rename_i v1 hbz gy
  have jU:=ay oT
  have kf:=ay hbz
  have Yc:=Sz.eq_of_beq hsz
  rw [aS] at hf
  obtain ⟨z',h4,h5⟩:=iT i f (by simpa using hf)
  rw [hz] at h5;cases h5
  have gP:=R.length h2
  obtain ⟨_,h6,_⟩:=JI hq hR
  obtain ⟨h7,h8⟩:=UH hq gy Yc.symm hR h2
  obtain ⟨cs',h9,h10,h11⟩:=We iT e h3 h7
  refine ⟨cs',xP (off:=q) (k:=z) (by rw [h4,jU]) h1 (by rw [gP,kf]) (by rw [gP,← Yc];exact h6) h9,h10,h11.trans h8⟩
def zF (m:Nat) (t:Ty):List (Nat×IV)->Vector t.den m->Option (Vector t.den m)
 | [],xs=>some xs
 | (i,u) :: r,xs=>match Nat.blt i m,eD t u with
  | true,some x=>zF m t r (xs.setIfInBounds i x)
  | _,_=>none
theorem YY {m:Nat} {t:Ty}:∀ {ps:List (Nat×IV)} {ys:List (Nat×Value)} {xs xs':Vector t.den m} {cs:List Value},zF m t ps xs=some xs'->gN O ρ ps ys->R O ρ false (.ar m t xs) cs ->
  ∃ cs',Instr.fill (fun i=>some (i * t.size,t.size)) cs.toArray ys=some cs'.toArray∧R O ρ false (.ar m t xs') cs'
 | [],ys,xs,xs',cs,e,h,hR=>by
  simp only [zF,az] at e;subst e
  simp only [gN] at h;subst h
  exact ⟨cs,rfl,hR⟩
 | (i,u) :: ps,ys,xs,xs',cs,e,h,hR=>by
  obtain ⟨x,rest,us,rfl,h1,h2,h3⟩:=h
  simp only [zF] at e
  split at e<;>first | (cases e;done) | skip
  rename_i y hlt hy
  have hlt:i < m:=by simpa [Nat.blt_eq] using hlt
  have hT:=fN hy h2
  have gP:=TR.length hT
  have hl:=LR.length (fun _ _=>TR.length (t:=t)) hR
  simp only [Vector.length_toList] at hl
  have hjn:i * t.size + t.size≤m * t.size:=by
   have:=Nat.mul_le_mul_right t.size (show i + 1≤m by omega)
   rw [Nat.add_mul] at this;omega
  have gy:=LR.set (fun _ _=>TR.length) hR (j:=i) (by simpa using hlt) hT
  have AM:R O ρ false (.ar m t (xs.setIfInBounds i y)) (aI cs (i * t.size) us):=by
   show LR _ _ _
   rw [Vector.toList_setIfInBounds]
   simp only [aI,gP];exact gy
  obtain ⟨cs',h9,h10⟩:=YY e h3 AM
  exact ⟨cs',xP (off:=i * t.size) (k:=t.size) rfl h1 gP (by omega) h9,h10⟩
def TG {β:Type} (c:aF) (il:aE) (k:IV->Option β) (t:Nat) (ps:List (Nat×Operand)):Option β:=
 match c.D t,c.I t,oR c il ps with
 | some (.struct fs),some z,some vs=>match DK c fs.toList vs z with
  | some v=>match v.agg with
   | true=>k v
   | false=>none
  | none=>none
 | some (.array _ e),some (.ar m t' xs),some vs=>match c.Z e with
  | some s=>match Nat.beq s t'.size,zF m t' vs xs with
   | true,some ys=>k (.ar m t' ys)
   | _,_=>none
  | none=>none
 | _,_,_=>none
theorem ajo {β:Type} {k:IV->Option β} {r:β} (hc:aN P c) (hF:Fr n a l) (hE:ER O ρ il l) (hG:GO c O) {t:Nat} {ps:Array (Nat×Operand)} (ho:o.op=.build t ps) (e:TG c il k t ps.toList=some r):aV P a o O ρ k r:=by
 unfold TG at e
 split at e<;>first | (cases e;done) | skip
 ·rename_i fs z vs hd hI hps
  split at e<;>first | (cases e;done) | skip
  rename_i v hv
  split at e<;>first | (cases e;done) | skip
  rename_i hag
  obtain ⟨zv,zc,h1,h2,h3⟩:=hc.zero _ _ hI
  obtain ⟨pl,h4,h5⟩:=hc.places _ _ hd
  obtain ⟨cs',h6,h7,_⟩:=We h5 hv (rM hF hE hG hps) (h3 O ρ)
  refine aV.agg h7 hag (fun w=>?_) e
  simp only [execOp,ho]
  have:(Instr.build t (ps.map fun (i,x)=>(i,a.eval x))).run P w=.ok (.agg cs'.toArray) w:=by
   unfold Instr.build
   simp only [Sem.run_bind,h1 w,Result.andThen_ok,run_underlying (hc.tok.desc _ _ hd),h2]
   simp only [Sem.run_bind,h4 w,Result.andThen_ok,Array.toList_map]
   rw [h6];rfl
  simp [this]
 ·rename_i m0 el m t' xs vs hd hI hps
  split at e<;>first | (cases e;done) | skip
  rename_i s hz
  split at e<;>first | (cases e;done) | skip
  rename_i ys hs hys
  have hs:=ay hs
  subst hs
  obtain ⟨zv,zc,h1,h2,h3⟩:=hc.zero _ _ hI
  obtain ⟨cs',h6,h7⟩:=YY hys (rM hF hE hG hps) (h3 O ρ)
  refine aV.agg h7 rfl (fun w=>?_) e
  simp only [execOp,ho]
  have:(Instr.build t (ps.map fun (i,x)=>(i,a.eval x))).run P w=.ok (.agg cs'.toArray) w:=by
   unfold Instr.build
   simp only [Sem.run_bind,h1 w,Result.andThen_ok,run_underlying (hc.tok.desc _ _ hd),h2,hc.tok.size _ _ hz,Array.toList_map]
   rw [h6];rfl
  simp [this]
def Ma {β:Type} (c:aF) (il:aE) (k:IV->Option β) (x:Operand) (args:List Operand):Option β:=
 match x,args with
 | .func f,[y,z]=>match c.N f,aC c il y,aC c il z with
  | some g,some (.o (.s s)),some (.o (.u8 b))=>k (.o (.i (g s b)))
  | _,_,_=>none
 | _,_=>none
theorem ahf {β:Type} {k:IV->Option β} {r:β} (hc:aN P c) (hF:Fr n a l) (hE:ER O ρ il l) (hG:GO c O) {x:Operand} {xs:Array Operand} {ts:Array TypeId} (ho:o.op=.call ⟨.value x,xs,ts⟩) (e:Ma c il k x xs.toList=some r):aV P a o O ρ k r:=by
 unfold Ma at e
 split at e<;>first | (cases e;done) | skip
 rename_i f y z hxs
 have hxs:=lE hxs
 subst hxs
 split at e<;>first | (cases e;done) | skip
 rename_i g s b hN hy hz
 have h1:=aW hF (b8 hE hG hy).1
 have h2:=aW hF (b8 hE hG hz).1
 refine aV.sc (x:=.i (g s b)) rfl (fun w=>?_) e
 have hn:=hc.alp f g hN s b w
 have hm:List.map a.eval [y,z]=[vS s,di b]:=by
  rw [List.map_cons,List.map_cons,h1,h2];rfl
 have hx:a.eval (.func f)=.func (.func f) #[] #[]:=rfl
 have hr:(execOp a.eval o).run P w=(callFunc f (List.map a.eval [y,z]).toArray).run P w:=by
  simp only [execOp,ho,resolve,hx,Deferred.ofValue,List.map_toArray]
  simp [invoke]
 rw [hr,hm]
 exact hn
def Jo {β:Type} (c:aF) (il:aE) (tb:aj) (k:IV->Option β):Op->Option β
 | .move x=>match aC c il x with
  | some v=>k v
  | none=>none
 | .assign x=>match aC c il x with
  | some v=>k v
  | none=>none
 | .pick g x y=>match aC c il g with
  | some (.o (.b g))=>match g with
   | true=>match aC c il x with
    | some v=>k v
    | none=>none
   | false=>match aC c il y with
    | some v=>k v
    | none=>none
  | _=>none
 | .binOp op t x y _=>Px c il k op t x y
 | .unOp op _ x=>SE c il k op x
 | .convert src dst x=>Tx c il k src dst x
 | .extract x i=>Ol c il k x i
 | .call cl=>match cl.callee with
  | .builtin b=>ND c il tb k b cl.args.toList cl.argTypes.toList
  | .value x=>Ma c il k x cl.args.toList
  | _=>none
 | .fieldAddr t x i=>Sq c il tb k t x i
 | .field t x i=>MI c il k t x i
 | .indexAddr t x i=>S6 c il tb k t x i
 | .index t x i=>OH c il k t x i
 | .slice t x lo hi none=>NT c il tb k t x lo hi
 | .makeFunc fn first captured=>Q2 c il k fn first.toList captured.toList
 | .nilCheck x=>L9 c il k x
 | .build t ps=>TG c il k t ps.toList
 | _=>none
theorem abY {β:Type} {k:IV->Option β} {r:β} (hc:aN P c) (hF:Fr n a l) (hE:ER O ρ il l) (hG:GO c O) (hM:Gm O ρ tb w0) (e:Jo c il tb k o.op=some r):aV P a o O ρ k r:=by
 have mv:∀ {x:Operand},(∀ w,(execOp a.eval o).run P w=.ok (.value (a.eval x)) w)->(match aC c il x with | some v=>k v | none=>none)=some r->aV P a o O ρ k r:=by
  intro x hr e
  split at e
  ·rename_i v hx
   obtain ⟨sv,h1,h2⟩:=qF hE hG hx
   exact ⟨v,sv,h2,by rw [← aW hF h1];exact hr,e⟩
  ·cases e
 cases ho:o.op<;>rw [ho] at e<;>simp only [Jo] at e<;>first | (cases e;done) | skip
 case move x=>exact mv (fun w=>by simp [execOp,ho]) e
 case assign x=>exact mv (fun w=>by simp [execOp,ho]) e
 case pick g x y=>
  split at e<;>first | (cases e;done) | skip
  rename_i g' hg
  have h1:=aW hF (b8 hE hG hg).1
  cases g' with
  | true=>exact mv (x:=x) (fun w=>by simp [execOp,ho,h1,asBool]) e
  | false=>exact mv (x:=y) (fun w=>by simp [execOp,ho,h1,asBool]) e
 case binOp=>exact aje hc hF hE hG ho e
 case unOp=>exact aos hc hF hE hG ho e
 case convert=>exact asY hc hF hE hG ho e
 case extract=>exact apS hc hF hE hG ho e
 case call cl=>
  obtain ⟨callee,args,ts⟩:=cl
  simp only at e
  split at e
  ·exact aft hc hF hE hG hM ho e
  ·exact ahf hc hF hE hG ho e
  ·cases e
 case fieldAddr=>exact ai6 hc hF hE hG hM ho e
 case field=>exact afY hc hF hE hG ho e
 case indexAddr=>exact als hc hF hE hG hM ho e
 case index=>exact ajj hc hF hE hG ho e
 case slice t x lo hi mx=>
  cases mx with
  | none=>exact anE hc hF hE hG hM ho e
  | some y=>cases e
 case makeFunc=>exact aiV hF hE hG ho e
 case nilCheck=>exact acJ hF hE hG ho e
 case build=>exact ajo hc hF hE hG ho e
def Sm (ids:List Nat) (O:Own) (w w':World):Prop:=∀ b,((∃ id,id ∈ ids∧O b=.th id)∨∃ all,O b=.im all)->w'.heap[b]? = w.heap[b]?
theorem Sm.refl (ids:List Nat) (O:Own) (w:World):Sm ids O w w:=fun _ _=>rfl
def kM {β:Type} (P:Program) (a:Act) (o:Oper) (O:Own) (ρ:List Hd) (ids:List Nat) (w:World) (k:IV->Option β) (r:β):Prop:=
 ∃ v x,SR O ρ v x∧(∀ w',Sm ids O w w'->(execOp a.eval o).run P w'=.ok (.value x.val) w')∧k v=some r
theorem kM.any {β:Type} {k:IV->Option β} {r:β} {v:IV} {cs:List Value} {ids:List Nat} (h:R O ρ false v cs) (hr:∀ w',Sm ids O w0 w'->(execOp a.eval o).run P w'=.ok (.value (bif v.agg then .agg cs.toArray else cs.headD (.bool false))) w') (hk:k v=some r):kM P a o O ρ ids w0 k r:=by
 cases hv:v.agg with
 | true=>rw [hv] at hr;exact ⟨v,.o (.v (.agg cs.toArray)),.fS (eB.Ag hv h),hr,hk⟩
 | false=>
  rw [hv] at hr
  have hl:=R.length h
  have hz:v.sz.size=1:=by cases v<;>simp [IV.agg] at hv<;>rfl
  rw [hz] at hl
  obtain ⟨u,rfl⟩:=List.length_eq_one_iff.1 hl
  by_cases ho:∃ x,v=.o x
  ·obtain ⟨x,rfl⟩:=ho
   obtain ⟨h1,h2⟩:=h
   cases h1
   exact ⟨.o x,.o x,⟨x,rfl,rfl,h2⟩,hr,hk⟩
  ·refine ⟨v,.o (.v u),.fS ?_,hr,hk⟩
   cases v<;>simp [IV.agg] at hv
   case o x=>exact absurd ⟨x,rfl⟩ ho
   all_goals exact ⟨u,rfl,h⟩
def fits (c:aF) (t:Nat) (u:IV):Bool:=
 match c.D t with
 | some d=>match mH d,u.agg with
  | true,true=>match c.Z t with
   | some z=>Nat.beq z u.sz.size
   | none=>false
  | false,false=>true
  | _,_=>false
 | none=>false
theorem run_load (hc:aN P c) {t:Nat} {x:Operand} {ad:Addr} {u:IV} {us:List Value} {w:World} (ho:o.op=.load t x) (hx:a.eval x=.pointer (some ad)) (hf:fits c t u=true) (hR:R O ρ false u us) (hcell:∀ j y,us[j]? = some y->w.cell? (ad.add j)=some y) :
  (execOp a.eval o).run P w=.ok (.value (bif u.agg then .agg us.toArray else us.headD (.bool false))) w:=by
 unfold fits at hf
 split at hf<;>first | (cases hf;done) | skip
 rename_i d hd
 have hl:=R.length hR
 simp only [execOp,ho,hx]
 split at hf<;>first | (cases hf;done) | skip
 ·rename_i hg hu
  split at hf<;>first | (cases hf;done) | skip
  rename_i z hz
  have kf:=ay hf
  have Ea:(loadCells ad us.length).run P w=.ok us.toArray w:=run_loadCells_list (P:=P) w ad us hcell
  rw [hl,← kf] at Ea
  simp [Instr.loadAt,Instr.sureAddr,loadVar,mj (hc.tok.desc _ _ hd),hg,hc.tok.size _ _ hz,Ea,hu]
 ·rename_i hg hu
  have h1:u.sz.size=1:=by cases u<;>simp [IV.agg] at hu<;>rfl
  rw [h1] at hl
  obtain ⟨y,rfl⟩:=List.length_eq_one_iff.1 hl
  have:=hcell 0 y rfl
  have e0:ad.add 0=ad:=by unfold Addr.add;simp
  rw [e0] at this
  simp [Instr.loadAt,Instr.sureAddr,loadVar,mj (hc.tok.desc _ _ hd),hg,this,hu]
def kF {β:Type} (c:aF) (t:Nat) (k:IV->Option β) (u:IV):Option β:=
 match fits c t u with
 | true=>k u
 | false=>none
def sB {t t':Ty}:Option (PLift (t'=t))->List (Option (List t'.den))->Option (List (Option (List t.den)))
 | some h,xs=>some (h.down ▸ xs)
 | none,_=>none
theorem xO {t t':Ty} {q:Option (PLift (t'=t))} {xs:List (Option (List t'.den))} {ys:List (Option (List t.den))} (h:sB q xs=some ys):∃ e:t'=t,ys=e ▸ xs:=by
 cases q with
 | none=>cases h
 | some p=>simp only [sB,az] at h;exact ⟨p.down,h.symm⟩
def so (out:List Nat) (j:Nat):Option Nat:=out[j]?
theorem aht {out:List Nat} {j q:Nat} (h:so out j=some q):out[j]? = some q:=h
theorem dB.get {ks:List Value}:∀ {out:List Nat} {es:List Value} {j q:Nat},dB ks out es->out[j]? = some q->∃ e,es[j]? = some e∧ks[q]? = some e
 | [],es,j,q,_,h=>by simp at h
 | o :: r,es,j,q,⟨e,l,h1,h2,h3⟩,h=>by
  subst h1
  cases j with
  | zero=>simp only [List.getElem?_cons_zero,az] at h;subst h;exact ⟨e,rfl,h2⟩
  | succ j=>simpa using dB.get h3 (by simpa using h)
def xX {β:Type}:(t:Ty)->t.den->(IV->Option β)->Option β
 | .sn t,y,k=>bif fA y then k .nn else k (.rn t y)
 | .pr a b,x,k=>xX a x.1 fun u=>xX b x.2 fun v=>k (.pr u v)
 | t,x,k=>k (dD t x)
theorem agi {β:Type} {O:Own} {ρ:List Hd} {r:β}:∀ {t:Ty} {x:t.den} {cs:List Value} {k:IV->Option β},TR O t x cs->xX t x k=some r->∃ u,k u=some r∧R O ρ false u cs∧u.sz=t.sz:=by
 intro t
 induction t with
 | pr a b bF bK=>
  rintro x cs k ⟨c,d,h,h1,h2⟩ e
  obtain ⟨u,e,hu,su⟩:=bF h1 e
  obtain ⟨v,e,hv,sv⟩:=bK h2 e
  exact ⟨_,e,⟨c,d,h,hu,hv⟩,by simp only [IV.sz,Ty.sz,su,sv]⟩
 | sn t _=>
  intro x cs k h e
  simp only [xX] at e
  cases hn:fA x with
  | true=>
   rw [hn] at e
   have hy:=YX hn
   obtain ⟨v,es,rfl,_,_,h4⟩:=h
   obtain ⟨cc,rfl⟩:=h4 hy
   exact ⟨.nn,e,⟨cc,rfl⟩,rfl⟩
  | false=>
   rw [hn] at e
   exact ⟨.rn t x,e,⟨h.zV,(TR.BA h.zV (BS hn)).2⟩,rfl⟩
 | _=>intro x cs k h e;exact ⟨_,e,ju h,yW⟩
def IN {β:Type} (k:IV->Option β) (p:List Nat):(t:Ty)->t.den->Option β
 | .sn t2,y=>match p with
  | []=>bif fA y then k .nn else k (.rn t2 y)
  | _ :: _=>none
 | t,y=>xX t y fun u=>kY k p u
theorem abk {β:Type} {k:IV->Option β} {r:β} {O:Own} {ρ:List Hd} {p:List Nat} {t:Ty} {y:t.den} {cs:List Value} {off:Nat} (e:IN k p t y=some r) (h:TR O t y cs) (ho:t.sz.off p=some off) :
  ∃ u,k u=some r∧R O ρ false u ((cs.drop off).take u.sz.size)∧off + u.sz.size≤cs.length:=by
 have gen:(xX t y fun u=>kY k p u)=some r->∃ u,k u=some r∧R O ρ false u ((cs.drop off).take u.sz.size)∧off + u.sz.size≤cs.length:=fun e=>by
  obtain ⟨u0,e,h0,s0⟩:=agi (ρ:=ρ) h e
  obtain ⟨u,h1,h2,h3,_⟩:=rN e h0 (by rw [s0];exact ho)
  exact ⟨u,h1,h2,h3⟩
 cases t
 case sn t2=>
  cases p with
  | cons _ _=>cases e
  | nil=>
   have h0:off=0:=by simp only [Ty.sz,Sz.off,az] at ho;exact ho.symm
   subst h0
   simp only [IN] at e
   cases hn:fA y with
   | true=>
    rw [hn] at e
    have hy:=YX hn
    obtain ⟨v,es,rfl,_,_,h4⟩:=h
    obtain ⟨cc,rfl⟩:=h4 hy
    exact ⟨.nn,e,⟨cc,rfl⟩,by simp [IV.sz,Sz.size]⟩
   | false=>
    rw [hn] at e
    obtain ⟨_,a,n,cc,rfl⟩:=TR.BA h.zV (BS hn)
    exact ⟨.rn t2 y,e,⟨h.zV,a,n,cc,rfl⟩,by simp [IV.sz,Sz.size]⟩
 all_goals exact gen e
def SL {β:Type} (c:aF) (il:aE) (tb:aj) (k:IV->Option β) (t:Nat) (x:Operand):Option β:=
 match aC c il x with
 | some (.pt id p)=>match nth tb id with
  | some (.blk _ v)=>kY (kF c t k) p v
  | _=>none
 | some (.el id j p)=>match nth tb id with
  | some (.row _ t' xs)=>(xs[j]?).bind fun y=>IN (kF c t k) p t' y
  | some (.rr _ _ _ rows out)=>match p with
   | []=>(so out j).bind fun q=>(fC rows q).bind fun _=>kF c t k (.rx id q)
   | _ :: _=>none
  | _=>none
 | some (.ex t' id q j p)=>match nth tb id with
  | some (.rr _ _ t'' rows _)=>match sB (Ty.bL t'' t') rows with
   | some rows=>(fC rows q).bind fun xs=>(xs[j]?).bind fun y=>kY (kF c t k) p (dD t' y)
   | none=>none
  | _=>none
 | some (.re t' y)=>IN (kF c t k) [] t' y
 | _=>none
def a_:IV->List Nat
 | .pt id _=>[id]
 | .el id _ _=>[id]
 | .rw id=>[id]
 | .rp id _ _=>[id]
 | .ap id _ _ _=>[id]
 | .mp id=>[id]
 | .rx id _=>[id]
 | .ex _ id _ _ _=>[id]
 | _=>[]
theorem C7 {β:Type} {t:Nat} {k:IV->Option β} {u:IV} {r:β} (h:kF c t k u=some r):fits c t u=true∧k u=some r:=by
 unfold kF at h;split at h
 ·exact ⟨by assumption,h⟩
 ·cases h
theorem ao6 {β:Type} {k:IV->Option β} {r:β} (hc:aN P c) (hF:Fr n a l) (hE:ER O ρ il l) (hG:GO c O) (hM:Gm O ρ tb w0) {t:Nat} {x:Operand} (ho:o.op=.load t x) (e:SL c il tb k t x=some r) {v:IV} (hv:aC c il x=some v):kM P a o O ρ (a_ v) w0 k r:=by
 unfold SL at e
 split at e<;>first | (cases e;done) | skip
 ·rename_i id p hx
  rw [hv] at hx;cases hx
  split at e<;>first | (cases e;done) | skip
  rename_i ty v hb
  rw [aS] at hb
  obtain ⟨h,cs,h1,h2,h3,h4,h5⟩:=hM.th _ _ hb
  obtain ⟨u,hu,⟨h',off,h6,h7,h8⟩,_⟩:=bu hE hG hv rfl (by simp) hF
  cases h8
  rw [h1] at h6;cases h6
  rw [h3] at h7
  obtain ⟨u,hk,h9,h10,_⟩:=rN e h4 h7
  obtain ⟨hf,hk⟩:=C7 hk
  refine kM.any h9 (fun w' hS=>run_load hc ho hu hf h9 (fun j y hj=>?_)) hk
  have hb':=h5.same (hS h.b (.inl ⟨id,by simp [a_],h2⟩))
  rw [add_zero _ rfl,hb'.cell]
  rw [List.getElem?_take] at hj
  split at hj
  ·simpa using hj
  ·cases hj
 ·rename_i id j p hx
  rw [hv] at hx;cases hx
  split at e<;>first | (cases e;done) | skip
  ·rename_i E t' xs hb
   rw [aS] at hb
   obtain ⟨h,es,h1,h2,h3,h4,h5⟩:=hM.th _ _ hb
   obtain ⟨y,hy,e⟩:=bl e
   obtain ⟨u,hu,⟨h',off,ad,nn,cp,h6,h7,h8,h9,h10⟩,_⟩:=bu hE hG hv rfl (by simp) hF
   cases h10
   rw [h1] at h6;cases h6
   have hT:=LR.get (fun _ _=>TR.length) h4 hy
   obtain ⟨u,hk,h11,h12⟩:=abk (ρ:=ρ) e hT (by rw [← h2];exact h7)
   obtain ⟨hf,hk⟩:=C7 hk
   have hsp:=h5.spot _ _ _ h8
   refine kM.any h11 (fun w' hS=>run_load hc ho hu hf h11 (fun q z hq=>?_)) hk
   have hrd:Rd w' t'.size h.v xs.length es:=h5.rd.same (fun b _ hb=>hS b (.inl ⟨id,by simp [a_],h3 b hb⟩))
   have hcell:=(hrd.cell h8).2
   rw [add_add _ hsp,h2,Ty.eW]
   have jU:es[j * t'.size + off + q]? = some z:=by
    rw [List.getElem?_take] at hq
    split at hq
    ·rw [List.getElem?_drop,List.getElem?_take] at hq
     split at hq
     ·rw [List.getElem?_drop] at hq;rw [Nat.add_assoc];exact hq
     ·cases hq
    ·cases hq
   exact hcell _ _ jU
  ·rename_i E Ei t' rows out hb
   split at e<;>first | (cases e;done) | skip
   rw [aS] at hb
   obtain ⟨h,es,h1,h2,h3,h5,h6,nC⟩:=hM.th _ _ hb
   obtain ⟨q,hq,e⟩:=bl e
   obtain ⟨xs,hxs,e⟩:=bl e
   obtain ⟨u,hu,⟨h',off,ad,nn,cp,g6,g7,g8,g9,qg⟩,_⟩:=bu hE hG hv rfl (by simp) hF
   cases qg
   rw [h1] at g6;cases g6
   obtain ⟨y,hy1,h_⟩:=h6.get (aht hq)
   obtain ⟨v',cs',k1,_,_,qG⟩:=nC.row q xs (pX hxs)
   rw [h_] at k1;cases k1
   obtain ⟨hf,hk⟩:=C7 e
   have hR:R O ρ false (.rx id q) [y]:=⟨h,y,h1,h_,rfl,by obtain ⟨b,ie,eV,_⟩:=qG.rd.shape;rw [eV];rfl⟩
   have hsp:=h5.spot _ _ _ g8
   have hoff:off=0:=by
    have:Sz.off h.z []=some 0:=by cases h.z<;>rfl
    rw [this] at g7;cases g7;rfl
   refine kM.any hR (fun w' hS=>run_load hc ho hu hf hR (fun i z hi=>?_)) hk
   have hrd:Rd w' 1 h.v out.length es:=h5.rd.same (fun b _ hb=>hS b (.inl ⟨id,by simp [a_],h3 b hb⟩))
   have hcell:=(hrd.cell g8).2
   rw [add_add _ hsp,h2,hoff]
   cases i with
   | zero=>
    simp only [List.getElem?_cons_zero,az] at hi
    subst hi
    exact hcell _ _ (by simpa [Sz.size] using hy1)
   | succ i=>simp at hi
 ·rename_i t' id q j p hx
  rw [hv] at hx;cases hx
  split at e<;>first | (cases e;done) | skip
  rename_i E Ei t'' rows out hb
  split at e<;>first | (cases e;done) | skip
  rename_i nx hcast
  obtain ⟨e1,aH⟩:=xO hcast
  subst e1
  have aH:nx=rows:=aH
  subst aH
  rw [aS] at hb
  obtain ⟨h,es,h1,h2,h3,h5,h6,nC⟩:=hM.th _ _ hb
  obtain ⟨xs,hxs,e⟩:=bl e
  obtain ⟨y,hy,e⟩:=bl e
  obtain ⟨u,hu,⟨h',off,ad,nn,cp,g6,g7,g8,g9,qg⟩,_⟩:=bu hE hG hv rfl (by simp) hF
  cases qg
  rw [h1] at g6;cases g6
  obtain ⟨v',cs',k1,k2,k3,qG⟩:=nC.row q xs (pX hxs)
  rw [g7] at k1;cases k1
  have hT:=LR.get (fun _ _=>TR.length) k3 hy
  obtain ⟨u,hk,h11,h12,_⟩:=rN e (ju (ρ:=ρ) hT) (by rw [yW];exact g8)
  obtain ⟨hf,hk⟩:=C7 hk
  have hsp:=qG.spot _ _ _ rfl
  refine kM.any h11 (fun w' hS=>run_load hc ho hu hf h11 (fun i z hq=>?_)) hk
  have hrd:Rd w' _ _ xs.length cs':=qG.rd.same (fun b _ hb=>hS b (.inl ⟨id,by simp [a_],k2 b hb⟩))
  have hcell:=(hrd.cell rfl).2
  rw [add_add _ hsp]
  have jU:cs'[j * t''.size + off + i]? = some z:=by
   rw [List.getElem?_take] at hq
   split at hq
   ·rw [List.getElem?_drop,List.getElem?_take] at hq
    split at hq
    ·rw [List.getElem?_drop] at hq;rw [Nat.add_assoc];exact hq
    ·cases hq
   ·cases hq
  exact hcell _ _ jU
 ·rename_i t' y hx
  rw [hv] at hx;cases hx
  obtain ⟨u,hu,⟨b,off,cs,h1,h2,all,h3,h4⟩,_⟩:=bu hE hG hv rfl (by simp) hF
  cases h1
  obtain ⟨uu,hk,h11,h12⟩:=abk (ρ:=ρ) (off:=0) e h2 (by cases t'.sz<;>rfl)
  obtain ⟨hf,hk⟩:=C7 hk
  refine kM.any h11 (fun w' hS=>run_load hc ho hu hf h11 (fun j z hj=>?_)) hk
  replace hj:cs[j]? = some z:=by
   rw [List.getElem?_take] at hj
   split at hj
   ·rw [List.drop_zero] at hj;exact hj
   ·cases hj
  obtain ⟨ty,fz,h5⟩:=hM.im b all h3
  rw [← hS b (.inr ⟨all,h3⟩)] at h5
  rw [add_zero _ rfl]
  simp [World.cell?,h5,h4 j z hj]
def eZ {t t':Ty}:Option (PLift (t'=t))->List t'.den->Option (List t.den)
 | some h,xs=>some (iI (a:=.sl t') (b:=.sl t) (congrArg Ty.sl h.down) xs)
 | none,_=>none
theorem gG {t t':Ty} {q:Option (PLift (t'=t))} {xs:List t'.den} {ys:List t.den} (h:eZ q xs=some ys):∃ e:t'=t,ys=iI (a:=.sl t') (b:=.sl t) (congrArg Ty.sl e) xs:=by
 cases q with
 | none=>cases h
 | some p=>simp only [eZ,az] at h;exact ⟨p.down,h.symm⟩
def cont {β:Type} (t:Ty) (tb:aj) (v:IV) (k:List t.den->Option β):Option β:=
 match v with
 | .rn t' xs=>match eZ (Ty.bL t' t) xs with
  | some xs=>k xs
  | none=>none
 | .ro t' xs=>match eZ (Ty.bL t' t) xs with
  | some xs=>k xs
  | none=>none
 | .rw id=>match nth tb id with
  | some (.row _ t' xs)=>match eZ (Ty.bL t' t) xs with
   | some xs=>k xs
   | none=>none
  | some (.fz t' xs)=>match eZ (Ty.bL t' t) xs with
   | some xs=>k xs
   | none=>none
  | _=>none
 | .rp id lo hi=>match nth tb id with
  | some (.row _ t' xs)=>match eZ (Ty.bL t' t) xs with
   | some xs=>k ((xs.drop lo).take (hi - lo))
   | none=>none
  | _=>none
 | .rx id q=>match nth tb id with
  | some (.rr _ _ t' rows _)=>(fC rows q).bind fun xs=>match eZ (Ty.bL t' t) xs with
   | some xs=>k xs
   | none=>none
  | _=>none
 | .ap id p lo hi=>match nth tb id with
  | some (.blk _ v)=>kY (fun u=>match u with
   | .ar _ t' xs=>match eZ (Ty.bL t' t) xs.toList with
    | some xs=>k ((xs.drop lo).take (hi - lo))
    | none=>none
   | _=>none) p v
  | _=>none
 | .o (.v (.slice none 0 0))=>k []
 | .nn=>k []
 | _=>none
theorem Rd.part {w:World} {s:Nat} {v u:Value} {m lo hi:Nat} {cs:List Value} (h:Rd w s v m cs) (hsp:M_ v) (hp:Part s v lo hi u):Rd w s u (hi - lo) ((cs.drop (lo * s)).take ((hi - lo) * s)):=by
 obtain ⟨b,n,cp,b',ie,rfl,rfl,h1,h2,h3⟩:=hp
 obtain ⟨hl,h4⟩:=h
 have hm:n=m:=by rcases h4 with ⟨rfl,b2,c2,e⟩ | ⟨b2,off,cap,all,ty,fz,e,_⟩<;>cases e<;>rfl
 subst hm
 have hlen:((cs.drop (lo * s)).take ((hi - lo) * s)).length=(hi - lo) * s:=by
  rw [List.length_take,List.length_drop,hl,← Nat.sub_mul]
  exact Nat.min_eq_left (Nat.mul_le_mul_right _ (by omega))
 refine ⟨hlen,?_⟩
 rcases h3 with h3 | ⟨ad,rfl,rfl,h5⟩
 ·exact .inl ⟨by omega,_,_,by rw [show hi - lo=0 from by omega]⟩
 ·have hs:=hsp _ _ _ rfl
  rw [add_zero _ hs]
  rcases h4 with ⟨h6,b2,c2,e⟩ | ⟨b2,off,cap,all,ty,fz,e,h0,h7,h8⟩
  ·exact .inl ⟨by omega,_,_,by rw [show hi - lo=0 from by omega]⟩
  ·cases e
   refine .inr ⟨b2,off + lo * s,ie,all,ty,fz,rfl,h5,h7,fun j c hj=>?_⟩
   rw [List.getElem?_take] at hj
   split at hj
   ·rw [List.getElem?_drop] at hj;rw [Nat.add_assoc];exact h8 _ _ hj
   ·cases hj
theorem Gx {β:Type} {t:Ty} {v:IV} {k:List t.den->Option β} {r:β} (hM:Gm O ρ tb w0) {u:Value} (e:cont t tb v k=some r) (h:R O ρ false v [u]):∃ xs es,k xs=some r∧LR (TR O t) xs es∧(∀ w',Sm (a_ v) O w0 w'->Rd w' t.size u xs.length es)∧∀ b,xs.length ≠ 0->aZ u b->(∃ id,id ∈ a_ v∧O b=.th id)∨∃ all,O b=.im all:=by
 have imw:∀ {ids w'},Sm ids O w0 w'->∀ b all,O b=.im all->∃ ty fz,w'.heap[b]? = some (.cells all.toArray ty fz):=fun hS b all hb=>by
  obtain ⟨ty,fz,h5⟩:=hM.im b all hb
  exact ⟨ty,fz,by rw [hS b (.inr ⟨all,hb⟩)];exact h5⟩
 have im:∀ {ids:List Nat} {t':Ty} {xs:List t'.den} {ys:List t.den} {u:Value},eZ (Ty.bL t' t) xs=some ys->k ys=some r->TR O (.sl t') xs [u]->∃ xs es,k xs=some r∧LR (TR O t) xs es∧(∀ w',Sm ids O w0 w'->Rd w' t.size u xs.length es)∧∀ b,xs.length ≠ 0->aZ u b->(∃ id,id ∈ ids∧O b=.th id)∨∃ all,O b=.im all:=by
  intro ids t' xs ys u hc hk hT
  obtain ⟨rfl,rfl⟩:=gG hc
  obtain ⟨u',es,hu,hL,hS⟩:=hT
  cases hu
  refine ⟨_,es,hk,hL,fun w' hw=>hS.rd (imw hw) (LR.length (fun _ _=>TR.length) hL),fun b hn hb=>?_⟩
  rcases hS with ⟨h0,_⟩ | ⟨b',off,cap,rfl,_,all,h1,_⟩
  ·exact absurd h0 hn
  ·cases hb;exact .inr ⟨all,h1⟩
 unfold cont at e
 split at e
 ·split at e<;>first | (cases e;done) | skip
  rename_i hcast;exact im hcast e h.1
 ·split at e<;>first | (cases e;done) | skip
  rename_i hcast;exact im hcast e h
 ·rename_i id
  obtain ⟨h0,h1,h2,_⟩:=h
  cases h2
  split at e<;>first | (cases e;done) | skip
  ·rename_i E t' xs hb
   split at e<;>first | (cases e;done) | skip
   rename_i ys hcast
   obtain ⟨rfl,rfl⟩:=gG hcast
   rw [aS] at hb
   obtain ⟨h',es,h4,h5,h6,h7,h8⟩:=hM.th _ _ hb
   rw [h1] at h4;cases h4
   exact ⟨_,es,e,h7,fun w' hS=>h8.rd.same (fun b _ hb=>hS b (.inl ⟨id,by simp [a_],h6 b hb⟩)),fun b _ hb=>.inl ⟨id,by simp [a_],h6 b hb⟩⟩
  ·rename_i t' xs hb
   split at e<;>first | (cases e;done) | skip
   rename_i ys hcast
   rw [aS] at hb
   obtain ⟨h',h4,h5,h6⟩:=hM.th _ _ hb
   rw [h1] at h4;cases h4
   exact im hcast e h6
 ·rename_i id lo hi
  obtain ⟨h0,u',h1,h2,hp⟩:=h
  cases h2
  split at e<;>first | (cases e;done) | skip
  rename_i E t' xs hb
  split at e<;>first | (cases e;done) | skip
  rename_i ys hcast
  obtain ⟨rfl,rfl⟩:=gG hcast
  rw [aS] at hb
  obtain ⟨h',es,h4,h5,h6,h7,h8⟩:=hM.th _ _ hb
  rw [h1] at h4;cases h4
  rw [h5,Ty.eW] at hp
  have hlen:((ys.drop lo).take (hi - lo)).length=hi - lo:=by
   obtain ⟨b,n,cp,b',ie,hv,rfl,h9,h10,_⟩:=hp
   have:=(h8.rd.shape)
   obtain ⟨b2,c2,e2,_⟩:=this
   rw [hv] at e2;cases e2
   rw [List.length_take,List.length_drop];omega
  refine ⟨_,_,e,((h7.split (fun _ _=>TR.length) lo).2.split (fun _ _=>TR.length) (hi - lo)).1,fun w' hS=>?_,fun b hn hb=>.inl ⟨id,by simp [a_],h6 b ?_⟩⟩
  rotate_left
  ·have hn':hi - lo ≠ 0:=by rw [← hlen];exact hn
   obtain ⟨b0,n0,cp,b',ie,hv,rfl,h9,h10,b9⟩:=hp
   rcases b9 with b9 | ⟨ad,rfl,rfl,_⟩
   ·omega
   ·rw [hv]
    have:(ad.add (lo * t'.size)).block=ad.block:=by unfold Addr.add;split<;>rfl
    simp only [aZ,this] at hb;exact hb
  have hrd:Rd w' t'.size h0.v ys.length es:=h8.rd.same (fun b _ hb=>hS b (.inl ⟨id,by simp [a_],h6 b hb⟩))
  have:=hrd.part h8.spot hp
  rw [hlen];exact this
 ·rename_i id q
  obtain ⟨h0,v',h1,h2,h3,_⟩:=h
  cases h3
  split at e<;>first | (cases e;done) | skip
  rename_i E Ei t' rows out hb
  obtain ⟨xs,hxs,e⟩:=bl e
  split at e<;>first | (cases e;done) | skip
  rename_i ys hcast
  obtain ⟨e1,aH⟩:=gG hcast
  subst e1
  have aH:ys=xs:=aH
  subst aH
  rw [aS] at hb
  obtain ⟨h',es,h4,h5,h6,h7,h8,h9⟩:=hM.th _ _ hb
  rw [h1] at h4;cases h4
  obtain ⟨v2,cs,g1,g2,g3,g4⟩:=h9.row q ys (pX hxs)
  rw [h2] at g1;cases g1
  exact ⟨_,cs,e,g3,fun w' hS=>g4.rd.same (fun b _ hb=>hS b (.inl ⟨id,by simp [a_],g2 b hb⟩)),fun b _ hb=>.inl ⟨id,by simp [a_],g2 b hb⟩⟩
 ·rename_i id p lo hi
  obtain ⟨h0,off,m,z,h1,h2,h3,u',hcs,hp⟩:=h
  cases hcs
  split at e<;>first | (cases e;done) | skip
  rename_i ty v hb
  rw [aS] at hb
  obtain ⟨h',cs,h4,h5,h6,h7,h8⟩:=hM.th _ _ hb
  rw [h1] at h4;cases h4
  rw [h6] at h2 h3
  obtain ⟨q,hk,h9,h10,h11⟩:=rN e h7 h2
  split at hk<;>first | (cases hk;done) | skip
  rename_i m' t' xs
  split at hk<;>first | (cases hk;done) | skip
  rename_i ys hcast
  obtain ⟨rfl,rfl⟩:=gG hcast
  rw [h3] at h11
  cases h11
  rw [Ty.eW] at hp
  have JY:LR (TR O t') xs.toList ((cs.drop off).take (m * t'.size)):=by
   have:=h9
   simp only [IV.sz,Sz.size,Ty.eW] at this
   exact this
  have hrd:∀ w',Sm (a_ (.ap id p lo hi)) O w0 w'->Rd w' t'.size (.slice (some ⟨h0.b,off,none⟩) m m) m ((cs.drop off).take (m * t'.size)):=by
   intro w' hS
   have t8:=h8.same (hS h0.b (.inl ⟨id,by simp [a_],h5⟩))
   obtain ⟨fz,hh,_⟩:=t8
   refine ⟨by have:=LR.length (fun _ _=>TR.length (t:=t')) JY;simpa using this,.inr ⟨h0.b,off,m,_,_,fz,rfl,Nat.le_refl _,hh,fun j c hj=>?_⟩⟩
   rw [List.getElem?_take] at hj
   split at hj
   ·rw [List.getElem?_drop] at hj;simpa using hj
   ·cases hj
  have hlen:((xs.toList.drop lo).take (hi - lo)).length=hi - lo:=by
   obtain ⟨b,n,cp,b',ie,hv,rfl,h9,h10,_⟩:=hp
   cases hv
   rw [List.length_take,List.length_drop,Vector.length_toList];omega
  refine ⟨_,_,hk,((JY.split (fun _ _=>TR.length) lo).2.split (fun _ _=>TR.length) (hi - lo)).1,fun w' hS=>?_,fun b hn hb=>.inl ⟨id,by simp [a_],?_⟩⟩
  rotate_left
  ·have hn':hi - lo ≠ 0:=by
    intro h0
    have:((xs.toList.drop lo).take (hi - lo)).length ≠ 0:=hn
    rw [hlen] at this;exact this h0
   obtain ⟨b0,n0,cp,b',ie,hv,rfl,h9,h10,b9⟩:=hp
   cases hv
   rcases b9 with b9 | ⟨ad,dw,rfl,_⟩
   ·omega
   ·cases dw
    have:((⟨h0.b,off,none⟩:Addr).add (lo * t'.size)).block=h0.b:=by unfold Addr.add;split<;>rfl
    simp only [aZ,this] at hb;subst hb;exact h5
  have:=(hrd w' hS).part (fun _ _ _ e=>by cases e;rfl) hp
  simp only [iI] at hlen ⊢
  rw [hlen];exact this
 ·obtain ⟨h1,_⟩:=h
  cases h1
  exact ⟨[],[],e,rfl,fun w' _=>⟨by simp,.inl ⟨rfl,none,0,rfl⟩⟩,fun b hn _=>absurd rfl hn⟩
 ·obtain ⟨cc,h1⟩:=h
  cases h1
  exact ⟨[],[],e,rfl,fun w' _=>⟨by simp,.inl ⟨rfl,none,cc,rfl⟩⟩,fun b hn _=>absurd rfl hn⟩
 ·cases e
theorem abG:∀ {xs:List UInt8} {es:List Value},LR (TR O .u8) xs es->es=xs.map di
 | [],es,h=>h
 | x :: xs,es,h=>by
  obtain ⟨c,d,rfl,h1,h2⟩:=h
  rw [abG h2,h1];rfl
def PW {β:Type} (c:aF) (il:aE) (tb:aj) (k:IV->Option β) (src dst:Nat) (x:Operand):Option β:=
 match c.D src,c.D dst,aC c il x with
 | some (.slice e),some .string,some v=>match c.D e,v.agg with
  | some (.int .u8),false=>cont .u8 tb v fun xs=>k (.o (.s xs))
  | _,_=>none
 | _,_,_=>none
theorem ais {β:Type} {k:IV->Option β} {r:β} (hc:aN P c) (hF:Fr n a l) (hE:ER O ρ il l) (hG:GO c O) (hM:Gm O ρ tb w0) {src dst:Nat} {x:Operand} (ho:o.op=.convert src dst x) (e:PW c il tb k src dst x=some r) {v:IV} (hv:aC c il x=some v):kM P a o O ρ (a_ v) w0 k r:=by
 unfold PW at e
 split at e<;>first | (cases e;done) | skip
 rename_i el v' hs hd hx
 rw [hv] at hx;cases hx
 split at e<;>first | (cases e;done) | skip
 rename_i he hag
 have ht:∀ ch,v ≠ .tu ch:=fun ch ee=>by subst ee;simp [cont] at e
 obtain ⟨u,hu,hR,y,hy,hyu⟩:=bu hE hG hv hag ht hF
 obtain ⟨xs,es,hk,hL,hrd,_⟩:=Gx hM e hR
 have lT:=abG hL
 subst lT
 refine ⟨.o (.s xs),.o (.s xs),⟨_,rfl,rfl,rfl⟩,fun w' hS=>?_,hk⟩
 have hr:=hrd w' hS
 obtain ⟨b,cp,hsh,_⟩:=hr.shape
 have hy':y=.v (.slice b xs.length cp):=by cases y<;>simp_all [S0.val]
 rw [hy'] at hy
 rw [hsh] at hr
 exact amo hc.tok hF ho hy hs he hd hr
def fG {β:Type} (t:Ty):List (t.den×β)->t.den->Option β
 | [],_=>none
 | e :: l,x=>bif eX t x e.1 then some e.2 else fG t l x
def mc {β:Type} (t:Ty) (l:List (t.den×β)) (x:t.den):Bool:=(fG t l x).isSome
def eM {β:Type} (t:Ty) (l:List (t.den×β)) (x:t.den) (z:β):β:=(fG t l x).getD z
def iH {β:Type} (t:Ty):List (t.den×β)->t.den->Nat
 | [],_=>0
 | e :: l,x=>bif eX t x e.1 then 0 else iH t l x + 1
def cJ {β:Type} (t:Ty):List (t.den×β)->t.den->β->List (t.den×β)
 | [],x,y=>[(x,y)]
 | e :: l,x,y=>bif eX t x e.1 then (x,y) :: l else e :: cJ t l x y
def BE {β:Type} (t:Ty) (l:List (t.den×β)) (x:t.den) (z:β):List (t.den×β):=cJ t l x (eM t l x z)
def Ux {α β:Type} (l:List (α×β)) (n:Int) (y:β):Option (List (α×β)):=bif decide (0≤n) then (l[n.toNat]?).bind fun e=>some (l.set n.toNat (e.1,y)) else none
theorem yR {P:Program} {k:TypeId} {t:Ty} {d:TypeDesc} (hk:P.underlying k=some d) (hd:pW d t=true):w9 P k t:=by
 unfold pW at hd
 split at hd<;>first | (cases hd;done) | skip
 ·have c:∀ {O:Own} {a:Int} {u:Value},VR O .i a u->u=vI a:=fun h=>by have h:[_]=[vI _]:=h;cases h;rfl
  refine ⟨⟨_,hk,fun O a b u v ha hb=>?_⟩,fun O a u ha e w=>?_,fun O a b u v ha hb w=>?_,fun O a b u v ha hb h=>?_,fun O a u ha w=>?_⟩
  ·cases c ha;cases c hb;exact .inl (by simp [Instr.sameNow,vI,eX])
  ·cases c ha;exact MapKept.run_checkKey hk (show MapKept.IsKey (.int .i64) (vI a) from rfl) e 9999
  ·cases c ha;cases c hb;exact run_equalIn_int w _ k .i64 _ _ _ hk
  ·cases c ha;cases c hb;simp only [eX,beq_iff_eq] at h;rw [h]
  ·cases c ha;exact MapKept.run_keyThatStays (d:=.int .i64) rfl
 ·have c:∀ {O:Own} {a:List UInt8} {u:Value},VR O .s a u->u=vS a:=fun h=>by have h:[_]=[vS _]:=h;cases h;rfl
  have e:∀ x y:List UInt8,((⟨x.toArray⟩:ByteArray) == ⟨y.toArray⟩)=(x == y):=fun x y=>by
   apply Bool.eq_iff_iff.2
   rw [MapKept.bytes_beq]
   simp
  refine ⟨⟨_,hk,fun O a b u v ha hb=>?_⟩,fun O a u ha e w=>?_,fun O a b u v ha hb w=>?_,fun O a b u v ha hb h=>?_,fun O a u ha w=>?_⟩
  ·cases c ha;cases c hb;exact .inl (by simp only [Instr.sameNow,vS,eX,e])
  ·cases c ha;exact MapKept.run_checkKey hk (show MapKept.IsKey .string (vS a) from trivial) e 9999
  ·cases c ha;cases c hb
   have:=run_equalIn_string w 9999 k ⟨a.toArray⟩ ⟨b.toArray⟩ hk
   simp only [ByteArray.toList_eq] at this
   exact this
  ·cases c ha;cases c hb;simp only [eX,beq_iff_eq] at h;rw [h]
  ·cases c ha;exact MapKept.run_keyThatStays (d:=.string) trivial
theorem MR.length {O:Own} {kt vt:Ty}:∀ {q:Nat} {l:List (kt.den×vt.den)} {es:List MapEntry},MR O kt vt q l es->es.length=l.length
 | _,[],_,h=>by simp only [MR] at h;subst h;rfl
 | _,(_,_) :: _,_,⟨e,r,h1,_,_,_,h5⟩=>by subst h1;simp [MR.length h5]
theorem MR.get {O:Own} {kt vt:Ty}:∀ {q:Nat} {l:List (kt.den×vt.den)} {es:List MapEntry} {j:Nat} {e:kt.den×vt.den},MR O kt vt q l es->l[j]? = some e->∃ e',es[j]? = some e'∧e'.born=q + j∧VR O kt e.1 e'.key∧VR O vt e.2 e'.val
 | _,[],_,_,_,_,h=>by simp at h
 | _,(k,v) :: _,_,0,e,⟨e',r,h1,h2,h3,h4,h5⟩,h=>by simp at h;subst h;subst h1;exact ⟨e',rfl,by simpa using h2,h3,h4⟩
 | _,(_,_) :: _,_,j + 1,e,⟨e',r,h1,h2,h3,h4,h5⟩,h=>by
  obtain ⟨e2,g1,g2,g3⟩:=MR.get (j:=j) h5 (by simpa using h)
  subst h1
  exact ⟨e2,by simpa using g1,by omega,g3⟩
theorem MR.find {P:Program} {O:Own} {kt vt:Ty} {kk:TypeId} (hK:w9 P kk kt) {d:TypeDesc} (hd:∀ (a b:kt.den) (u v:Value),VR O kt a u->VR O kt b v->Instr.sameNow d u v=some (eX kt a b)∨Instr.sameNow d u v=none) {x:kt.den} {u:Value} (hx:VR O kt x u):∀ {q:Nat} {l:List (kt.den×vt.den)} {es:List MapEntry} (i:Nat),MR O kt vt q l es ->
  ((∀ w,(Instr.findAsking kk u es i).run P w=.ok none w)∧(Instr.findNow d u es i=some none∨Instr.findNow d u es i=none)∧fG kt l x=none∧iH kt l x=l.length∧∀ y,cJ kt l x y=l ++ [(x,y)]) ∨
  ∃ j e v,(∀ w,(Instr.findAsking kk u es i).run P w=.ok (some (i + j,e.val)) w)∧(Instr.findNow d u es i=some (some (i + j,e.val))∨Instr.findNow d u es i=none)∧es[j]? = some e∧e.key=u∧VR O vt v e.val∧e.born=q + j∧fG kt l x=some v∧iH kt l x=j∧j < l.length∧(∀ y,cJ kt l x y=l.set j (x,y))
 | q,[],es,i,h=>by simp only [MR] at h;subst h;exact .inl ⟨fun w=>rfl,.inl rfl,rfl,rfl,fun _=>rfl⟩
 | q,(k,v) :: l,es,i,⟨e,r,h1,h2,h3,h4,h5⟩=>by
  subst h1
  have g0:=hK.eql O x k u e.key hx h3
  have g2:=hd x k u e.key hx h3
  cases hk:eX kt x k with
  | true=>
   rw [hk] at g0 g2
   refine .inr ⟨0,e,v,fun w=>?_,?_,rfl,(hK.inj O x k u e.key hx h3 hk).symm,h4,by omega,?_,?_,by simp,fun y=>?_⟩
   ·simp [Instr.findAsking,g0 w,Result.andThen]
   ·rcases g2 with g2 | g2
    ·exact .inl (by simp [Instr.findNow,g2])
    ·exact .inr (by simp [Instr.findNow,g2])
   ·simp [fG,hk]
   ·simp [iH,hk]
   ·simp [cJ,hk]
  | false=>
   rw [hk] at g0 g2
   rcases MR.find hK hd hx (i + 1) h5 with ⟨a0,a1,a2,a3,a4⟩ | ⟨j,e',v',a0,a1,a2,a3,a4,a5,a6,a7,a8,a9⟩
   ·refine .inl ⟨fun w=>?_,?_,?_,?_,fun y=>?_⟩
    ·simp [Instr.findAsking,g0 w,Result.andThen,a0 w]
    ·rcases g2 with g2 | g2
     ·rcases a1 with a1 | a1
      ·exact .inl (by simp [Instr.findNow,g2,a1])
      ·exact .inr (by simp [Instr.findNow,g2,a1])
     ·exact .inr (by simp [Instr.findNow,g2])
    ·simp [fG,hk,a2]
    ·simp [iH,hk,a3]
    ·simp [cJ,hk,a4]
   ·have e1:i + (j + 1)=i + 1 + j:=by omega
    refine .inr ⟨j + 1,e',v',fun w=>?_,?_,by simpa using a2,a3,a4,by omega,?_,?_,by simp;omega,fun y=>?_⟩
    ·rw [e1];simp [Instr.findAsking,g0 w,Result.andThen,a0 w]
    ·rw [e1]
     rcases g2 with g2 | g2
     ·rcases a1 with a1 | a1
      ·exact .inl (by simp [Instr.findNow,g2,a1])
      ·exact .inr (by simp [Instr.findNow,g2,a1])
     ·exact .inr (by simp [Instr.findNow,g2])
    ·simp [fG,hk,a6]
    ·simp [iH,hk,a7]
    ·simp [cJ,hk,a9]
theorem MR.key {P:Program} {O:Own} {kt vt:Ty} {kk:TypeId} (hK:w9 P kk kt) {x:kt.den} {u:Value} (hx:VR O kt x u) {l:List (kt.den×vt.den)} {es:List MapEntry} (h:MR O kt vt 0 l es) :
  ((∀ w,(Instr.findKey kk u es).run P w=.ok none w)∧fG kt l x=none∧iH kt l x=l.length∧∀ y,cJ kt l x y=l ++ [(x,y)]) ∨
  ∃ j e v,(∀ w,(Instr.findKey kk u es).run P w=.ok (some (j,e.val)) w)∧es[j]? = some e∧e.key=u∧VR O vt v e.val∧e.born=j∧fG kt l x=some v∧iH kt l x=j∧j < l.length∧(∀ y,cJ kt l x y=l.set j (x,y)):=by
 obtain ⟨d,hu,hd⟩:=hK.desc
 rcases MR.find hK (hd O) hx 0 h with ⟨a0,a1,a2,a3,a4⟩ | ⟨j,e',v',a0,a1,a2,a3,a4,a5,a6,a7,a8,a9⟩
 ·refine .inl ⟨fun w=>?_,a2,a3,a4⟩
  rcases a1 with a1 | a1<;>simp [Instr.findKey,run_underlying hu,Result.andThen,a1,a0 w]
 ·rw [Nat.zero_add] at a0 a1 a5
  refine .inr ⟨j,e',v',fun w=>?_,a2,a3,a4,a5,a6,a7,a8,a9⟩
  rcases a1 with a1 | a1<;>simp [Instr.findKey,run_underlying hu,Result.andThen,a1,a0 w]
theorem MR.set {O:Own} {kt vt:Ty} {k:kt.den} {v:vt.den} {u y:Value} (hk:VR O kt k u) (hv:VR O vt v y):∀ {q j:Nat} {l:List (kt.den×vt.den)} {es:List MapEntry},MR O kt vt q l es->∀ b,b=q + j->MR O kt vt q (l.set j (k,v)) (es.set j ⟨u,y,b⟩)
 | _,_,[],_,h,b,hb=>by simp only [MR] at h;subst h;simp [MR]
 | q,0,(_,_) :: l,_,⟨e,r,h1,h2,h3,h4,h5⟩,b,hb=>by subst h1;exact ⟨_,r,rfl,by simpa using hb,hk,hv,h5⟩
 | q,j + 1,(_,_) :: l,_,⟨e,r,h1,h2,h3,h4,h5⟩,b,hb=>by
  subst h1
  exact ⟨e,r.set j ⟨u,y,b⟩,rfl,h2,h3,h4,MR.set hk hv h5 b (by omega)⟩
theorem MR.push {O:Own} {kt vt:Ty} {k:kt.den} {v:vt.den} {u y:Value} (hk:VR O kt k u) (hv:VR O vt v y):∀ {q:Nat} {l:List (kt.den×vt.den)} {es:List MapEntry},MR O kt vt q l es->∀ b,b=q + l.length->MR O kt vt q (l ++ [(k,v)]) (es ++ [⟨u,y,b⟩])
 | _,[],_,h,b,hb=>by simp only [MR] at h;subst h;exact ⟨_,[],rfl,by simpa using hb,hk,hv,rfl⟩
 | q,(_,_) :: l,_,⟨e,r,h1,h2,h3,h4,h5⟩,b,hb=>by
  subst h1
  exact ⟨e,r ++ [⟨u,y,b⟩],rfl,h2,h3,h4,MR.push hk hv h5 b (by simp at hb;omega)⟩
theorem VR.cells {O:Own} {ρ:List Hd} {t:Ty} {x:t.den} {v:Value} (h:VR O t x v):∃ cs,R O ρ false (dD t x) cs∧v=(bif (dD t x).agg then .agg cs.toArray else cs.headD (.bool false)):=by
 have ha:(dD t x).agg=t.agg:=by cases t<;>rfl
 unfold VR at h
 rw [ha]
 cases e:t.agg with
 | true=>rw [e] at h;obtain ⟨cs,h1,h2⟩:=h;exact ⟨cs,ju h2,by simp [h1]⟩
 | false=>rw [e] at h;exact ⟨[v],ju h,rfl⟩
theorem VR.of {O:Own} {ρ:List Hd} {t:Ty} {v:IV} {x:t.den} {u:Value} {cs:List Value} (e:eD t v=some x) (hg:v.agg=t.agg) (h:R O ρ false v cs) (h1:v.agg=true->u=.agg cs.toArray) (h2:v.agg=false->cs=[u]):VR O t x u:=by
 unfold VR
 rw [← hg]
 cases ha:v.agg with
 | true=>exact ⟨cs,h1 ha,fN e h⟩
 | false=>have:=h2 ha;subst this;exact fN e h
def t4:Bool->Bool->Bool
 | true,true=>true
 | false,false=>true
 | _,_=>false
theorem wX:∀ {a b:Bool},t4 a b=true->a=b
 | true,true,_=>rfl
 | false,false,_=>rfl
 | true,false,h=>by cases h
 | false,true,h=>by cases h
def Ri {β:Type} (c:aF) (il:aE) (tb:aj) (k:IV->Option β) (t:Nat) (x y:Operand) (ok:Bool):Option β:=
 match c.M t,aC c il x,aC c il y with
 | some (kt,vt),some (.mp id),some v=>match t4 v.agg kt.agg,nth tb id with
  | true,some (.mp bU cH l)=>match u9 (Ty.bL bU kt) (Ty.bL cH vt) l,eD kt v with
   | some l,some q=>match ok with
    | true=>k (.tu (.pr (dD vt (eM kt l q vt.zero)) (.pr (.o (.b (mc kt l q))) .un)))
    | false=>k (dD vt (eM kt l q vt.zero))
   | _,_=>none
  | _,_=>none
 | _,_,_=>none
theorem eB.Wg {O:Own} {ρ:List Hd} {v:IV} {cs:List Value} (ht:∀ ch,v ≠ .tu ch) (h:R O ρ false v cs):∃ x:S0,eB O ρ v x∧x.val=(bif v.agg then .agg cs.toArray else cs.headD (.bool false)):=by
 cases hv:v.agg with
 | true=>exact ⟨_,eB.Ag hv h,rfl⟩
 | false=>
  have hl:=R.length h
  have hz:v.sz.size=1:=by cases v<;>simp [IV.agg] at hv<;>rfl
  rw [hz] at hl
  obtain ⟨u,rfl⟩:=List.length_eq_one_iff.1 hl
  cases v<;>simp [IV.agg] at hv
  case o x=>obtain ⟨h1,h2⟩:=h;cases h1;exact ⟨x,⟨rfl,h2⟩,rfl⟩
  case tu ch=>exact absurd rfl (ht ch)
  all_goals exact ⟨.v u,⟨u,rfl,h⟩,rfl⟩
theorem abg {t:Ty} {x:t.den}:∀ ch,dD t x ≠ .tu ch:=fun ch e=>by cases t<;>simp [dD] at e
theorem akH {β:Type} {k:IV->Option β} {r:β} (hc:aN P c) (hF:Fr n a l) (hE:ER O ρ il l) (hG:GO c O) (hM:Gm O ρ tb w0) {t:Nat} {x y:Operand} {ok:Bool} (ho:o.op=.lookup t x y ok) (e:Ri c il tb k t x y ok=some r) {v:IV} (hv:aC c il x=some v):kM P a o O ρ (a_ v) w0 k r:=by
 unfold Ri at e
 split at e<;>first | (cases e;done) | skip
 rename_i kt vt id vy hm hx hy
 rw [hv] at hx;cases hx
 split at e<;>first | (cases e;done) | skip
 rename_i bU cH l hag hb
 split at e<;>first | (cases e;done) | skip
 rename_i l' q hcast hq
 obtain ⟨e1,e2,aH⟩:=Ed hcast
 subst e1 e2
 have aH:l'=l:=aH
 subst aH
 rw [aS] at hb
 obtain ⟨h,es,h1,h2,h3,h4⟩:=hM.th _ _ hb
 obtain ⟨kk,ee,z,g1,gK,g4,g5⟩:=hc.maps _ _ _ hm
 obtain ⟨u,hu,⟨h',h6,h7⟩,_⟩:=bu hE hG hv rfl (by simp) hF
 cases h7
 rw [h1] at h6;cases h6
 have hty:∀ ch,vy ≠ .tu ch:=fun ch ee=>by subst ee;cases bU<;>simp [eD,IV.ul,IV.vf,IV.uQ,IV.um,IV.vp,IV.tF,IV.qw,IV.vj,IV.uh,IV.ij] at hq
 obtain ⟨csy,hy1,h_,qV,Df⟩:=nK hF hE hG hy hty
 have hT:=VR.of hq (wX hag) h_ qV Df
 generalize huy:a.eval y=uy at hT
 have hk:=gK.pM O q uy hT
 have aqc:∃ val,VR O cH (eM bU l' q cH.zero) val∧∀ w',Sm (a_ (.mp id)) O w0 w'->(Instr.lookup t (.map (some h.b)) uy ok).run P w'=.ok (bif ok then .tuple #[val,.bool (mc bU l' q)] else val) w':=by
  rcases MR.key gK hT h4 with ⟨a1,a2,a3,a4⟩ | ⟨j,e',v',a1,a2,a3,a4,a5,a6,a7,a8,a9⟩
  ·refine ⟨z,by simp only [eM,a2,Option.getD_none];exact g5 O,fun w' hS=>?_⟩
   have hh:w'.heap[h.b]? = some (.map es es.size):=by rw [hS h.b (.inl ⟨id,by simp [a_],h2⟩)];exact h3
   cases ok<;>simp [Instr.lookup,run_underlying g1,MapKept.run_getObj_map hh,hk,a1,g4 w',mc,a2,Result.andThen]
  ·refine ⟨e'.val,by simp only [eM,a6,Option.getD_some];exact a4,fun w' hS=>?_⟩
   have hh:w'.heap[h.b]? = some (.map es es.size):=by rw [hS h.b (.inl ⟨id,by simp [a_],h2⟩)];exact h3
   cases ok<;>simp [Instr.lookup,run_underlying g1,MapKept.run_getObj_map hh,hk,a1,mc,a6,Result.andThen]
 obtain ⟨val,hval,run⟩:=aqc
 obtain ⟨cs,hR,J6⟩:=hval.cells (ρ:=ρ)
 have exe:∀ w',Sm (a_ (.mp id)) O w0 w'->(execOp a.eval o).run P w'=.ok (.value (bif ok then .tuple #[val,.bool (mc bU l' q)] else val)) w':=fun w' hS=>by
  simp only [execOp,ho,hu,huy]
  simp [run w' hS]
 cases ok with
 | false=>
  exact kM.any hR (fun w' hS=>by rw [exe w' hS,← J6];rfl) e
 | true=>
  obtain ⟨x0,hx0,hx1⟩:=eB.Wg abg hR
  refine ⟨.tu (.pr (dD cH (eM bU l' q cH.zero)) (.pr (.o (.b (mc bU l' q))) .un)),.t [x0,.b (mc bU l' q)],⟨_,rfl,x0,_,rfl,hx0,.b (mc bU l' q),[],rfl,⟨rfl,rfl⟩,rfl⟩,fun w' hS=>?_,e⟩
  rw [exe w' hS]
  have:(SV.t [x0,.b (mc bU l' q)]).val=.tuple #[val,.bool (mc bU l' q)]:=by simp [SV.val,S0.val,hx1,J6]
  rw [this];rfl
def Bc {β:Type} (c:aF) (il:aE) (tb:aj) (k:IV->Option β):Op->Option β
 | .load t x=>SL c il tb k t x
 | .convert src dst x=>PW c il tb k src dst x
 | .lookup t x y ok=>Ri c il tb k t x y ok
 | _=>none
def yu (c:aF) (il:aE):Op->Option (List Nat)
 | .load _ x=>match aC c il x with
  | some v=>some (a_ v)
  | none=>none
 | .convert _ _ x=>match aC c il x with
  | some v=>some (a_ v)
  | none=>none
 | .lookup _ x _ _=>match aC c il x with
  | some v=>some (a_ v)
  | none=>none
 | _=>none
theorem PG {β:Type} {k:IV->Option β} {r:β} (hc:aN P c) (hF:Fr n a l) (hE:ER O ρ il l) (hG:GO c O) (hM:Gm O ρ tb w0) (e:Bc c il tb k o.op=some r) {ids:List Nat} (hi:yu c il o.op=some ids):kM P a o O ρ ids w0 k r:=by
 cases ho:o.op<;>rw [ho] at e hi<;>simp only [Bc] at e<;>first | (cases e;done) | skip
 case load t x=>
  simp only [yu] at hi
  split at hi<;>first | (cases hi;done) | skip
  rename_i v hv
  simp only [az] at hi;subst hi
  exact ao6 hc hF hE hG hM ho e hv
 case convert src dst x=>
  simp only [yu] at hi
  split at hi<;>first | (cases hi;done) | skip
  rename_i v hv
  simp only [az] at hi;subst hi
  exact ais hc hF hE hG hM ho e hv
 case lookup t x y ok=>
  simp only [yu] at hi
  split at hi<;>first | (cases hi;done) | skip
  rename_i v hv
  simp only [az] at hi;subst hi
  exact akH hc hF hE hG hM ho e hv
end
end Go.Tw
namespace Go.Tw
section
variable {P:Program} {c:aF} {n:Nat} {a:Act} {l:Env} {il:aE} {O:Own} {ρ:List Hd} {tb:aj} {w:World} {o:Oper}
def B8 (M:Nat->Prop) (ρ ρ':List Hd):Prop:=Pre ρ ρ'∧∀ i h,¬ M i->ρ[i]? = some h->ρ'[i]? = some h
theorem B8.refl {M:Nat->Prop} (ρ:List Hd):B8 M ρ ρ:=⟨.refl _,fun _ _ _ e=>e⟩
theorem B8.app {M:Nat->Prop} (ρ x:List Hd):B8 M ρ (ρ ++ x):=⟨.app _ _,fun _ _ _ e=>dR _ e⟩
theorem Gm.step {M:Nat->Prop} {O':Own} {ρ':List Hd} {aL:aj} {w':World} (hM:Gm O ρ tb w) (hk:Kept (fun b=>∃ i,M i∧O b=.th i) w w') (hO:∀ b,b < w.heap.size->(∀ i,M i->O b ≠ .th i)->O' b=O b)
  (hlt:∀ b,w'.heap.size≤b->O' b=.no) (iS:∀ b all,O' b=.im all->O b=.im all∨∃ ty fz,w'.heap[b]? = some (.cells all.toArray ty fz)) (abv:B8 M ρ ρ') (hl:ρ'.length=aL.length)
  (ht:∀ j x,aL[j]? = some x->(tb[j]? = some x∧¬ M j)∨Holds O' ρ' w' j x):Gm O' ρ' aL w'∧aR M O ρ w O' ρ' w':=by
 have hρ:=abv.1
 have eu:∀ b,O b ≠ .no->b < w.heap.size:=fun b h=>by
  rcases Nat.lt_or_ge b w.heap.size with h' | h'
  ·exact h'
  ·exact absurd (hM.lt b h') h
 have hle:O.le O':=fun b all e=>by
  rw [hO b (eu b (by rw [e];simp)) (fun i _ h=>by rw [e] at h;cases h)];exact e
 refine ⟨⟨fun b all e=>?_,hlt,hl,fun j x hx=>?_⟩,⟨hρ,hle,fun b hb e=>?_,fun b id hb e hn=>?_,hk⟩⟩
 ·rcases iS b all e with h | h
  ·obtain ⟨ty,fz,h1⟩:=hM.im b all h
   refine ⟨ty,fz,?_⟩
   rw [hk.block b (eu b (by rw [h];simp)) (fun ⟨i,_,h'⟩=>by rw [h] at h';cases h')];exact h1
  ·exact h
 ·rcases ht j x hx with ⟨h1,h2⟩ | h1
  ·have old:=hM.th j x h1
   cases x with
   | blk ty v=>
    obtain ⟨h,cs,h3,h4,h5,h6,h7⟩:=old
    have hb:∀ i,M i->O h.b ≠ .th i:=fun i hi e=>by rw [h4] at e;cases e;exact h2 hi
    obtain ⟨mm,hm⟩:=hρ _ _ h3
    refine ⟨_,cs,hm,by rw [hO _ h7.lt hb];exact h4,h5,R.mono hle hρ h6,h7.same (hk.block _ h7.lt (fun ⟨i,hi,e⟩=>hb i hi e))⟩
   | row E t xs=>
    obtain ⟨h,es,h3,h4,h5,h6,h7⟩:=old
    have hb:∀ b,aZ h.v b->∀ i,M i->O b ≠ .th i:=fun b aB i hi e=>by rw [h5 b aB] at e;cases e;exact h2 hi
    have hlt':∀ b,aZ h.v b->b < w.heap.size:=fun b aB=>eu b (by rw [h5 b aB];simp)
    obtain ⟨mm,hm⟩:=hρ _ _ h3
    refine ⟨_,es,hm,h4,fun b aB=>by rw [hO b (hlt' b aB) (hb b aB)];exact h5 b aB,h6.mono (fun _ _=>TR.mono hle),?_⟩
    exact Rs.same (r:=.row E t.size h.v xs.length es) (fun b aB=>hk.block b (hlt' b aB) (fun ⟨i,hi,e⟩=>hb b aB i hi e)) h7
   | fz t xs=>
    obtain ⟨h,h3,h4,h5⟩:=old
    obtain ⟨mm,hm⟩:=hρ _ _ h3
    exact ⟨_,hm,h4,TR.mono hle h5⟩
   | no=>trivial
   | ob o0=>
    obtain ⟨h,h3,h4,h5⟩:=old
    have hb:∀ i,M i->O h.b ≠ .th i:=fun i hi e=>by rw [h4] at e;cases e;exact h2 hi
    have hlt':h.b < w.heap.size:=eu _ (by rw [h4];simp)
    obtain ⟨mm,hm⟩:=hρ _ _ h3
    exact ⟨_,hm,by rw [hO _ hlt' hb];exact h4,by rw [hk.block _ hlt' (fun ⟨i,hi,e⟩=>hb i hi e)];exact h5⟩
   | mp kt vt l=>
    obtain ⟨h,es,h3,h4,h5,h6⟩:=old
    have hb:∀ i,M i->O h.b ≠ .th i:=fun i hi e=>by rw [h4] at e;cases e;exact h2 hi
    have hlt':h.b < w.heap.size:=eu _ (by rw [h4];simp)
    obtain ⟨mm,hm⟩:=hρ _ _ h3
    exact ⟨_,es,hm,by rw [hO _ hlt' hb];exact h4,by rw [hk.block _ hlt' (fun ⟨i,hi,e⟩=>hb i hi e)];exact h5,h6.mono hle⟩
   | it n seen=>
    obtain ⟨h,h3,h4,bm,h5,h7⟩:=old
    have hb:∀ i,M i->O h.b ≠ .th i:=fun i hi e=>by rw [h4] at e;cases e;exact h2 hi
    have hlt':h.b < w.heap.size:=eu _ (by rw [h4];simp)
    obtain ⟨mm,hm⟩:=hρ _ _ h3
    exact ⟨_,hm,by rw [hO _ hlt' hb];exact h4,bm,h5,by rw [hk.block _ hlt' (fun ⟨i,hi,e⟩=>hb i hi e)];exact h7⟩
   | rr E Ei t rows out=>
    obtain ⟨h,es,h3,h4,h5,h6,h7,h8⟩:=old
    have hb:∀ b,O b=.th j->O' b=.th j∧w'.heap[b]? = w.heap[b]?:=fun b aB=>by
     have hlt':b < w.heap.size:=eu b (by rw [aB];simp)
     have hn:∀ i,M i->O b ≠ .th i:=fun i hi e=>by rw [aB] at e;cases e;exact h2 hi
     exact ⟨by rw [hO b hlt' hn];exact aB,hk.block b hlt' (fun ⟨i,hi,e⟩=>hn i hi e)⟩
    exact ⟨h,es,abv.2 _ _ h2 h3,h4,fun b aB=>(hb b (h5 b aB)).1,Rs.same (r:=.row E 1 h.v out.length es) (fun b aB=>(hb b (h5 b aB)).2) h6,h7,h8.frame (fun _ _=>TR.mono hle) hb⟩
  ·exact h1
 ·rw [hO b hb (fun i _ h=>by rw [e] at h;cases h)];exact e
 ·rw [hO b hb (fun i hi h=>by rw [e] at h;cases h;exact hn hi)];exact e
theorem Kept.wide {S S':Nat->Prop} {w w':World} (h:Kept S w w') (hS:∀ b,S b->S' b):Kept S' w w':=
 ⟨h.os,h.tape,h.output,h.size,fun b hb hn=>h.block b hb (fun e=>hn (hS b e))⟩
theorem Gm.set {id:Nat} {x':fY} {w':World} (hM:Gm O ρ tb w) (hi:id < tb.length) (hk:Kept (fun b=>O b=.th id) w w') (h':Holds O ρ w' id x'):Gm O ρ (tb.set id x') w'∧aR (· = id) O ρ w O ρ w':=by
 refine hM.step (M:=(· = id)) (hk.wide fun b e=>⟨id,rfl,e⟩) (fun _ _ _=>rfl) (fun b hb=>hM.lt b (Nat.le_trans hk.size hb)) (fun b all e=>.inl e) (.refl _) (by simp [hM.len]) (fun j x hx=>?_)
 rw [List.getElem?_set] at hx
 split at hx
 ·rename_i e;subst e;first | (rw [if_pos hi] at hx;cases hx;exact .inr h') | (cases hx;exact .inr h')
 ·rename_i e;exact .inl ⟨hx,fun h=>e h.symm⟩
theorem Gm.new {w':World} {h:Hd} {x:fY} (S:Nat->Bool) (hM:Gm O ρ tb w) (hk:Kept ja w w') (hS:∀ b,S b=true->w.heap.size≤b∧b < w'.heap.size) (h':Holds (fun b=>bif S b then .th tb.length else O b) (ρ ++ [h]) w' tb.length x) :
  Gm (fun b=>bif S b then .th tb.length else O b) (ρ ++ [h]) (tb ++ [x]) w'∧aR (fun _=>False) O ρ w (fun b=>bif S b then .th tb.length else O b) (ρ ++ [h]) w':=by
 refine hM.step (M:=fun _=>False) (hk.wide fun b e=>e.elim) (fun b hb _=>?_) (fun b hb=>?_) (fun b all e=>?_) (.app _ _) (by simp [hM.len]) (fun j y hy=>?_)
 ·cases e:S b with
  | true=>have:=(hS b e).1;omega
  | false=>rfl
 ·cases e:S b with
  | true=>have:=(hS b e).2;omega
  | false=>exact hM.lt b (Nat.le_trans hk.size hb)
 ·cases e':S b with
  | true=>rw [e'] at e;cases e
  | false=>rw [e'] at e;exact .inl e
 ·rcases Nat.lt_or_ge j tb.length with hj | hj
  ·rw [List.getElem?_append_left hj] at hy;exact .inl ⟨hy,fun h=>h⟩
  ·have:j=tb.length:=by
    have:=(aM hy).1
    simp at this;omega
   subst this
   rw [List.getElem?_append_right (Nat.le_refl _)] at hy
   simp at hy;subst hy
   exact .inr h'
def bG {β:Type} (P:Program) (a:Act) (o:Oper) (O:Own) (ρ:List Hd) (w:World) (M:Nat->Prop) (k:Option IV->aj->Option β) (r:β):Prop:=
 ∃ v x aL O' ρ' w',(match v with
  | some v=>SR O' ρ' v x∧(execOp a.eval o).run P w=.ok (.value x.val) w'
  | none=>(execOp a.eval o).run P w=.ok .skip w')∧Gm O' ρ' aL w'∧aR M O ρ w O' ρ' w'∧k v aL=some r
def eH:Value->Nat->Bool
 | .slice (some ad) _ _,b=>Nat.beq ad.block b
 | _,_=>false
theorem kW {v:Value} {b:Nat} (h:eH v b=true):aZ v b:=by
 unfold eH at h
 split at h
 ·exact ay h
 ·cases h
theorem wA {v:Value} {b m cp:Nat} {ad:Option Addr} (hv:v=.slice ad m cp) (h:aZ v b):eH v b=true:=by
 subst hv
 cases ad with
 | none=>exact h.elim
 | some ad=>simp only [aZ] at h;subst h;simp [eH]
theorem Row.jX {w:World} {E q:Nat} {v:Value} {m:Nat} {cs:List Value} (h:Row w E q v m cs):jX v=true:=by
 obtain ⟨_,h2⟩:=h
 rcases h2 with ⟨rfl,_⟩ | ⟨b,cap,sp,rfl,_⟩<;>rfl
theorem Row.blt {w:World} {E q:Nat} {v:Value} {m:Nat} {cs:List Value} (h:Row w E q v m cs) {b:Nat} (hb:aZ v b):b < w.heap.size:=Rs.lt (r:=.row E q v m cs) h b hb
theorem AN {β:Type} {k:Option IV->aj->Option β} {r:β} {E:Nat} {t:Ty} {xs:List t.den} {es:List Value} {v:Value} {w':World} (hM:Gm O ρ tb w) (hr:(execOp a.eval o).run P w=.ok (.value v) w') (hk:Kept ja w w') (hrow:Row w' E t.size v xs.length es) (hb:∀ b,aZ v b->w.heap.size≤b) (hL:LR (TR O t) xs es)
  (e:k (some (.rw tb.length)) (tb ++ [.row E t xs])=some r):bG P a o O ρ w (fun _=>False) k r:=by
 have ez:=hrow.jX
 have hle:O.le (fun b=>bif eH v b then .th tb.length else O b):=fun b all e=>by
  cases e':eH v b with
  | true=>have:=hb b (kW e');rw [hM.lt b this] at e;cases e
  | false=>simp only [e',cond_false];exact e
 obtain ⟨h1,h2⟩:=hM.new (h:=⟨0,t.sz,v,[]⟩) (x:=.row E t xs) (eH v) hk (fun b aB=>⟨hb b (kW aB),hrow.blt (kW aB)⟩)
  ⟨⟨0,t.sz,v,[]⟩,es,by rw [← hM.len];simp,rfl,fun b aB=>by
   obtain ⟨q,m,cp,hv⟩:∃ q m cp,v=.slice q m cp:=by cases v<;>first | exact ⟨_,_,_,rfl⟩ | cases ez
   simp [wA hv aB],hL.mono (fun _ _=>TR.mono hle),hrow⟩
 exact ⟨some (.rw tb.length),.o (.v v),_,_,_,w',⟨.fS (v:=.rw tb.length) ⟨v,rfl,⟨0,t.sz,v,[]⟩,by rw [← hM.len];simp,rfl,ez⟩,hr⟩,h1,h2,e⟩
theorem Xf {β:Type} {k:Option IV->aj->Option β} {r:β} {ty:Nat} {v:IV} {cs:List Value} (hM:Gm O ρ tb w) (hr:(execOp a.eval o).run P w=.ok (.value (vP w.heap.size 0)) { w with heap:=w.heap.push (.cells cs.toArray ty) }) (hR:R O ρ false v cs)
  (e:k (some (.pt tb.length [])) (tb ++ [.blk ty v])=some r):bG P a o O ρ w (fun _=>False) k r:=by
 have hle:O.le (fun b=>bif Nat.beq w.heap.size b then .th tb.length else O b):=fun b all e=>by
  cases e':Nat.beq w.heap.size b with
  | true=>have:=ay e';rw [hM.lt b (by omega)] at e;cases e
  | false=>simp only [e',cond_false];exact e
 have aQ:(ρ ++ [(⟨w.heap.size,v.sz,.bool false,[]⟩:Hd)])[tb.length]? = some ⟨w.heap.size,v.sz,.bool false,[]⟩:=by rw [← hM.len];simp
 obtain ⟨h1,h2⟩:=hM.new (h:=⟨w.heap.size,v.sz,.bool false,[]⟩) (x:=.blk ty v) (Nat.beq w.heap.size) (jZ w (.cells cs.toArray ty)) (fun b aB=>by have:=ay aB;subst this;simp)
  ⟨_,cs,aQ,by simp,rfl,R.mono hle (.app _ _) hR,kr ty cs⟩
 exact ⟨some (.pt tb.length []),.o (.v (vP w.heap.size 0)),_,_,_,_,⟨.fS (v:=.pt tb.length []) ⟨_,rfl,_,0,aQ,by cases v.sz<;>rfl,rfl⟩,hr⟩,h1,h2,e⟩
def HV {β:Type} (c:aF) (tb:aj) (k:Option IV->aj->Option β) (t:Nat):Option β:=
 match c.I t with
 | some v=>k (some (.pt tb.length [])) (tb ++ [.blk t v])
 | none=>none
theorem ani {β:Type} {k:Option IV->aj->Option β} {r:β} (hc:aN P c) (hM:Gm O ρ tb w) {t:Nat} (ho:o.op=.alloc t) (e:HV c tb k t=some r):bG P a o O ρ w (fun _=>False) k r:=by
 unfold HV at e
 split at e<;>first | (cases e;done) | skip
 rename_i v hv
 obtain ⟨z,cs,h1,h2,h3⟩:=hc.zero _ _ hv
 refine Xf hM ?_ (h3 O ρ) e
 simp only [execOp,ho]
 simp [Instr.alloc,h1 w,newVar,h2,Lh]
def OL {β:Type} (c:aF) (il:aE) (tb:aj) (k:Option IV->aj->Option β) (t:Nat) (x:Operand):Option β:=
 match aC c il x with
 | some (.tu _)=>none
 | some v=>k (some (.pt tb.length [])) (tb ++ [.blk t v])
 | none=>none
theorem aiD {β:Type} {k:Option IV->aj->Option β} {r:β} (hF:Fr n a l) (hE:ER O ρ il l) (hG:GO c O) (hM:Gm O ρ tb w) {t:Nat} {x:Operand} (ho:o.op=.box t x) (e:OL c il tb k t x=some r):bG P a o O ρ w (fun _=>False) k r:=by
 unfold OL at e
 split at e<;>first | (cases e;done) | skip
 rename_i v hn hx
 obtain ⟨cs,h1,h2,_⟩:=nK hF hE hG hx (fun ch e=>hn ch e)
 refine Xf hM ?_ h2 e
 simp only [execOp,ho]
 simp [Instr.box,newVar,h1,Lh]
def aa2 (c:aF) (t:Nat) (u:IV):Bool:=
 match c.Z t with
 | some z=>Nat.beq z u.sz.size
 | none=>false
theorem dB.len {ks:List Value}:∀ {out:List Nat} {es:List Value},dB ks out es->es.length=out.length
 | [],es,h=>by simp only [dB] at h;subst h;rfl
 | o :: r,es,⟨e,l,h1,_,h3⟩=>by subst h1;simp [dB.len h3]
theorem dB.set {ks:List Value} {q:Nat} {v:Value} (hq:ks[q]? = some v):∀ {out:List Nat} {es:List Value} {j:Nat},dB ks out es->j < out.length->dB ks (out.set j q) (es.set j v)
 | [],es,j,_,h=>by simp at h
 | o :: r,es,j,⟨e,l,h1,h2,h3⟩,h=>by
  subst h1
  cases j with
  | zero=>exact ⟨v,l,rfl,hq,h3⟩
  | succ j=>exact ⟨e,l.set j v,rfl,h2,dB.set hq h3 (by simpa using h)⟩
def Nz {β:Type} (c:aF) (il:aE) (tb:aj) (k:Option IV->aj->Option β) (t:Nat) (x y:Operand):Option β:=
 match aC c il y with
 | some (.tu _)=>none
 | some new=>match aa2 c t new with
  | true=>match aC c il x with
   | some (.pt id p)=>match nth tb id with
    | some (.blk ty v)=>oo new p v fun v'=>k none (tb.set id (.blk ty v'))
    | _=>none
   | some (.el id j p)=>match nth tb id with
    | some (.row E t' xs)=>match p with
     | []=>match eD t' new with
      | some u=>k none (tb.set id (.row E t' (xs.set j u)))
      | none=>none
     | p=>(xs[j]?).bind fun u=>oo new p (dD t' u) fun v'=>match eD t' v' with
      | some u=>k none (tb.set id (.row E t' (xs.set j u)))
      | none=>none
    | some (.rr E Ei t' rows out)=>match p,new with
     | [],.rx id' q=>match Nat.beq id' id with
      | true=>k none (tb.set id (.rr E Ei t' rows (out.set j q)))
      | false=>none
     | _,_=>none
    | _=>none
   | some (.ex t' id q j p)=>match nth tb id with
    | some (.rr E Ei t'' rows out)=>match sB (Ty.bL t'' t') rows,p,eD t' new with
     | some rows,[],some u=>(fC rows q).bind fun xs=>k none (tb.set id (.rr E Ei t' (rows.set q (some (xs.set j u))) out))
     | _,_,_=>none
    | _=>none
   | _=>none
  | false=>none
 | none=>none
theorem wL (hc:aN P c) {t:Nat} {x y:Operand} {b off:Nat} {us cs:List Value} {ty:TypeId} (ho:o.op=.store t x y) (hx:a.eval x=vP b off) (hy:(a.eval y).cells=us.toArray) (hz:c.Z t=some us.length) (h1:∀ v ∈ us,v.oneCell'=true) (hb:dO w b cs ty) (hl:off + us.length≤cs.length) :
  (execOp a.eval o).run P w=.ok .skip (w.setRow b (aI cs off us).toArray):=by
 have hst:=uX (P:=P) us off 0 cs w hb (by simpa using hl) h1
 simp only [Nat.add_zero] at hst
 simp only [execOp,ho,hx]
 simp [Instr.storeAt,Instr.sureAddr,storeVar,hy,hc.tok.size _ _ hz,hst,aI]
theorem uj {es sp us:List Value} {q:Nat} (h:q + us.length≤es.length):aI (es ++ sp) q us=aI es q us ++ sp:=by
 simp only [aI]
 rw [List.take_append_of_le_length (by omega),List.drop_append_of_le_length (by omega)];simp
theorem aqi {β:Type} {k:Option IV->aj->Option β} {r:β} (hc:aN P c) (hF:Fr n a l) (hE:ER O ρ il l) (hG:GO c O) (hM:Gm O ρ tb w) {t:Nat} {x y:Operand} (ho:o.op=.store t x y) (e:Nz c il tb k t x y=some r) {v:IV} (hv:aC c il x=some v):bG P a o O ρ w (· ∈ a_ v) k r:=by
 unfold Nz at e
 split at e<;>first | (cases e;done) | skip
 rename_i new hn hy
 split at e<;>first | (cases e;done) | skip
 rename_i hs
 obtain ⟨us,hy1,h_,_⟩:=nK hF hE hG hy (fun ch e=>hn ch e)
 have gP:=R.length h_
 have hz:c.Z t=some us.length:=by
  unfold aa2 at hs
  split at hs<;>first | (cases hs;done) | skip
  rename_i z hz;rw [hz,ay hs,gP]
 have h1c:=R.one h_
 split at e<;>first | (cases e;done) | skip
 ·rename_i id p hx
  rw [hv] at hx;cases hx
  split at e<;>first | (cases e;done) | skip
  rename_i ty v hb
  rw [aS] at hb
  obtain ⟨h,cs,h1,h2,h3,h4,h5⟩:=hM.th _ _ hb
  obtain ⟨u,hu,⟨h',off,h6,h7,h8⟩,_⟩:=bu hE hG hv rfl (by simp) hF
  cases h8
  rw [h1] at h6;cases h6
  rw [h3] at h7
  obtain ⟨v',hk,h9,h10,h11⟩:=zI h_ e h4 h7
  obtain ⟨dX,ei⟩:=hM.set (x':=.blk ty v') (aM hb).1 ((jr h.b (aI cs off us).toArray).wide (fun b e=>by subst e;exact h2))
   ⟨h,_,h1,h2,by rw [h3,h11],h9,h5.setRow (mR h10)⟩
  exact ⟨none,.t [],_,_,_,_,wL hc ho hu hy1 hz h1c h5 h10,dX,ei.bD (fun i e=>by subst e;simp [a_]),hk⟩
 ·rename_i id j p hx
  rw [hv] at hx;cases hx
  split at e<;>first | (cases e;done) | skip
  ·rename_i E t' xs hb
   rw [aS] at hb
   obtain ⟨h,es,h1,h2,h3,h4,h5⟩:=hM.th _ _ hb
   obtain ⟨u,hu,⟨h',off,ad,nn,cp,h6,h7,h8,h9,h10⟩,_⟩:=bu hE hG hv rfl (by simp) hF
   cases h10
   rw [h1] at h6;cases h6
   have mZ:=h5
   obtain ⟨ig,mL⟩:=mZ
   rcases mL with ⟨f8,_⟩ | ⟨b,cap,sp,e8,hnc,dY,hcap,iF⟩
   ·rw [f8] at h8;cases h8
   rw [e8] at h8;cases h8
   have hown:O b=.th id:=h3 b (by rw [e8];rfl)
   have hjn:j * t'.size + t'.size≤es.length:=by
    rw [ig]
    have:=Nat.mul_le_mul_right t'.size (show j + 1≤xs.length by omega)
    rw [Nat.add_mul] at this;omega
   rw [add_zero _ rfl,Nat.zero_add,h2,Ty.eW] at hu
   have fin:∀ (u':t'.den),TR O t' u' (aI ((es.drop (j * t'.size)).take t'.size) off us)->off + us.length≤t'.size->k none (tb.set id (.row E t' (xs.set j u')))=some r->bG P a o O ρ w (· ∈ a_ (.el id j p)) k r:=by
    intro u' hT hoff hk
    have hst:=wL hc ho hu hy1 hz h1c dY (by rw [List.length_append];omega)
    rw [uj (by omega)] at hst
    have gy:=LR.set (fun _ _=>TR.length) h4 (j:=j) h9 hT
    have kB:es.take (j * t'.size) ++ aI ((es.drop (j * t'.size)).take t'.size) off us ++ es.drop (j * t'.size + t'.size)=aI es (j * t'.size + off) us:=by
     rw [← ET hoff hjn]
     have hl:(aI ((es.drop (j * t'.size)).take t'.size) off us).length=t'.size:=TR.length hT
     generalize aI ((es.drop (j * t'.size)).take t'.size) off us=q at hl
     simp only [aI,hl]
    rw [kB] at gy
    have hlen:(aI es (j * t'.size + off) us).length=es.length:=mR (by omega)
    obtain ⟨dX,ei⟩:=hM.set (x':=.row E t' (xs.set j u')) (aM hb).1 ((jr b (aI es (j * t'.size + off) us ++ sp).toArray).wide (fun b' e=>by subst e;exact hown))
     ⟨h,_,h1,h2,h3,gy,by rw [hlen,List.length_set];exact ig,.inr ⟨b,_,sp,by rw [e8,List.length_set],by rw [List.length_set];exact hnc,dY.setRow (by simp [hlen]),by rw [← hcap];simp [hlen],iF⟩⟩
    exact ⟨none,.t [],_,_,_,_,hst,dX,ei.bD (fun i e=>by subst e;simp [a_]),hk⟩
   split at e
   ·split at e<;>first | (cases e;done) | skip
    rename_i u' qi
    have hT:=fN qi h_
    have hoff:off=0:=by
     have:h.z.off []=some 0:=by cases h.z<;>rfl
     rw [this] at h7;cases h7;rfl
    subst hoff
    have VE:=TR.length hT
    have hsp:aI ((es.drop (j * t'.size)).take t'.size) 0 us=us:=by
     have:((es.drop (j * t'.size)).take t'.size).length=t'.size:=by rw [List.length_take,List.length_drop];omega
     simp only [aI,List.take_zero,List.nil_append]
     rw [List.drop_of_length_le (by omega),List.append_nil]
    exact fin u' (by rw [hsp];exact hT) (by omega) e
   ·obtain ⟨y',hy',e⟩:=bl e
    have hT:=LR.get (fun _ _=>TR.length) h4 hy'
    obtain ⟨v',hk,h11,h12,_⟩:=zI h_ e (ju (ρ:=ρ) hT) (by rw [yW,← h2];exact h7)
    split at hk<;>first | (cases hk;done) | skip
    rename_i u' qi
    have dh:((es.drop (j * t'.size)).take t'.size).length=t'.size:=by rw [List.length_take,List.length_drop];omega
    rw [dh] at h12
    exact fin u' (fN qi h11) h12 hk
  ·rename_i E Ei t' rows out hb
   split at e<;>first | (cases e;done) | skip
   rename_i id' q _
   split at e<;>first | (cases e;done) | skip
   rename_i hid
   have hid:=ay hid
   subst hid
   rw [aS] at hb
   obtain ⟨h,es,h1,h2,h3,h5,h6,nC⟩:=hM.th _ _ hb
   obtain ⟨u,hu,⟨h',off,ad,nn,cp,g6,g7,g8,g9,qg⟩,_⟩:=bu hE hG hv rfl (by simp) hF
   cases qg
   rw [h1] at g6;cases g6
   obtain ⟨h'',v,m1,m2,m3,_⟩:=h_
   rw [h1] at m1;cases m1
   subst m3
   have mZ:=h5
   obtain ⟨ig,mL⟩:=mZ
   rcases mL with ⟨f8,_⟩ | ⟨b,cap,sp,e8,hnc,dY,hcap,iF⟩
   ·rw [f8] at g8;cases g8
   rw [e8] at g8;cases g8
   have hoff:off=0:=by
    have:Sz.off h.z []=some 0:=by cases h.z<;>rfl
    rw [this] at g7;cases g7;rfl
   subst hoff
   have hown:O b=.th id':=h3 b (by rw [e8];rfl)
   have D2:aZ h.v b:=by rw [e8];rfl
   have Rl:h.z.size=1:=by rw [h2];rfl
   rw [add_zero _ rfl,Nat.zero_add,Rl,Nat.mul_one,Nat.add_zero] at hu
   have hjl:j + 1≤es.length:=by rw [ig];omega
   have hst:=wL hc ho hu hy1 hz h1c dY (by simp;omega)
   rw [uj (by simpa using hjl)] at hst
   have kB:aI es j [v]=es.set j v:=by
    simp only [aI,List.length_singleton]
    rw [List.set_eq_take_append_cons_drop,if_pos (by omega)];simp
   rw [kB] at hst
   have d8:∀ b',b' ≠ b->(w.setRow b (es.set j v ++ sp).toArray).heap[b']? = w.heap[b']?:=fun b' hb'=>by
    have hk:=jr (w:=w) b (es.set j v ++ sp).toArray
    rcases Nat.lt_or_ge b' w.heap.size with hlt | hge
    ·exact hk.block b' hlt (fun e=>hb' e.symm)
    ·rw [Array.getElem?_eq_none (by simp [World.setRow];omega),Array.getElem?_eq_none hge]
   obtain ⟨dX,ei⟩:=hM.set (x':=.rr E Ei t' rows (out.set j q)) (aM hb).1 ((jr b (es.set j v ++ sp).toArray).wide (fun b' e=>by subst e;exact hown))
    ⟨h,es.set j v,h1,h2,h3,⟨by rw [List.length_set,List.length_set];exact ig,.inr ⟨b,_,sp,by rw [e8,List.length_set],by rw [List.length_set];exact hnc,dY.setRow (by simp),by rw [← hcap];simp,iF⟩⟩,h6.set m2 (by omega),⟨nC.len,fun k ys hk=>by
     obtain ⟨v2,c2,n1,n2,n3,n4⟩:=nC.row k ys hk
     exact ⟨v2,c2,n1,n2,n3,Rs.same (r:=.row Ei t'.size v2 ys.length c2) (fun b' aB=>d8 b' (fun e=>by subst e;exact nC.out k ys _ _ hk n1 aB D2)) n4⟩,nC.apart,nC.out,nC.sl⟩⟩
   exact ⟨none,.t [],_,_,_,_,hst,dX,ei.bD (fun i e=>by subst e;simp [a_]),e⟩
 ·rename_i t' id q j p hx
  rw [hv] at hx;cases hx
  split at e<;>first | (cases e;done) | skip
  rename_i E Ei t'' rows out hb
  split at e<;>first | (cases e;done) | skip
  rename_i nx u' hcast qi
  obtain ⟨e1,aH⟩:=xO hcast
  subst e1
  have aH:nx=rows:=aH
  subst aH
  rw [aS] at hb
  obtain ⟨h,es,h1,h2,h3,h5,h6,h8⟩:=hM.th _ _ hb
  obtain ⟨xs,hxs,e⟩:=bl e
  have hxs:=pX hxs
  obtain ⟨u,hu,⟨h',off,ad,nn,cp,g6,g7,g8,g9,qg⟩,_⟩:=bu hE hG hv rfl (by simp) hF
  cases qg
  rw [h1] at g6;cases g6
  obtain ⟨v',cs',k1,k2,k3,qG⟩:=h8.row q xs hxs
  rw [g7] at k1;cases k1
  obtain ⟨ig,mL⟩:=qG
  rcases mL with ⟨f8,_⟩ | ⟨b,cap,sp,e8,hnc,dY,hcap,iF⟩
  ·cases f8
  cases e8
  have hoff:off=0:=by
   have:Sz.off t''.sz []=some 0:=by cases t''.sz<;>rfl
   rw [this] at g8;cases g8;rfl
  subst hoff
  have hT:=fN qi h_
  have VE:=TR.length hT
  have hown:O b=.th id:=k2 b rfl
  have hjn:j * t''.size + t''.size≤cs'.length:=by
   rw [ig]
   have:=Nat.mul_le_mul_right t''.size (show j + 1≤xs.length by omega)
   rw [Nat.add_mul] at this;omega
  rw [add_zero _ rfl,Nat.zero_add,Nat.add_zero] at hu
  have hst:=wL hc ho hu hy1 hz h1c dY (by rw [List.length_append];omega)
  rw [uj (by omega)] at hst
  have gy:=LR.set (fun _ _=>TR.length) k3 (j:=j) g9 hT
  have kB:cs'.take (j * t''.size) ++ us ++ cs'.drop (j * t''.size + t''.size)=aI cs' (j * t''.size) us:=by
   simp only [aI,VE]
  rw [kB] at gy
  have hlen:(aI cs' (j * t''.size) us).length=cs'.length:=mR (by omega)
  have mG:Row (w.setRow b (aI cs' (j * t''.size) us ++ sp).toArray) Ei t''.size (.slice (some ⟨b,0,none⟩) xs.length cp) (xs.set j u').length (aI cs' (j * t''.size) us):=
   ⟨by rw [hlen,List.length_set];exact ig,.inr ⟨b,_,sp,by rw [List.length_set],by rw [List.length_set];exact hnc,dY.setRow (by simp [hlen]),by rw [← hcap];simp [hlen],iF⟩⟩
  have d8:∀ b',b' ≠ b->(w.setRow b (aI cs' (j * t''.size) us ++ sp).toArray).heap[b']? = w.heap[b']?:=fun b' hb'=>by
   have hk:=jr (w:=w) b (aI cs' (j * t''.size) us ++ sp).toArray
   rcases Nat.lt_or_ge b' w.heap.size with hlt | hge
   ·exact hk.block b' hlt (fun e=>hb' e.symm)
   ·rw [Array.getElem?_eq_none (by simp [World.setRow];omega),Array.getElem?_eq_none hge]
  have hal:∀ (k:Nat) (ys:List t''.den),(nx.set q (some (xs.set j u')))[k]? = some (some ys)->∃ zs,nx[k]? = some (some zs)∧(k ≠ q->ys=zs):=fun k ys hk=>by
   rw [List.getElem?_set] at hk
   split at hk
   ·rename_i wP;subst wP;exact ⟨xs,hxs,fun h=>absurd rfl h⟩
   ·exact ⟨ys,hk,fun _=>rfl⟩
  obtain ⟨dX,ei⟩:=hM.set (x':=.rr E Ei t'' (nx.set q (some (xs.set j u'))) out) (aM hb).1 ((jr b (aI cs' (j * t''.size) us ++ sp).toArray).wide (fun b' e=>by subst e;exact hown))
   ⟨h,es,h1,h2,h3,Rs.same (r:=.row E 1 h.v out.length es) (fun b' aB=>d8 b' (fun e=>by subst e;exact h8.out q xs _ _ hxs g7 rfl aB)) h5,h6,⟨by rw [List.length_set];exact h8.len,fun k ys hk=>by
    by_cases uR:k=q
    ·subst uR
     have RN:k < nx.length:=(aM hxs).1
     rw [List.getElem?_set_self RN] at hk
     cases hk
     exact ⟨_,_,g7,k2,gy,mG⟩
    ·obtain ⟨zs,gX,rG⟩:=hal k ys hk
     rw [rG uR]
     obtain ⟨v2,c2,m1,m2,m3,m4⟩:=h8.row k zs gX
     exact ⟨v2,c2,m1,m2,m3,Rs.same (r:=.row Ei t''.size v2 zs.length c2) (fun b' aB=>d8 b' (fun e=>by subst e;exact uR (h8.apart k zs q xs v2 _ _ gX hxs m1 g7 aB rfl))) m4⟩,
    fun k ys k' ys' v1 v2 b' hk hk' e1 e2 n1 n2=>by
     obtain ⟨zs,gX,_⟩:=hal k ys hk
     obtain ⟨zs',TK,_⟩:=hal k' ys' hk'
     exact h8.apart k zs k' zs' v1 v2 b' gX TK e1 e2 n1 n2,
    fun k ys v1 b' hk e1 n1=>by
     obtain ⟨zs,gX,_⟩:=hal k ys hk
     exact h8.out k zs v1 b' gX e1 n1,h8.sl⟩⟩
  exact ⟨none,.t [],_,_,_,_,hst,dX,ei.bD (fun i e=>by subst e;simp [a_]),e⟩
end
end Go.Tw
namespace Go.Tw
theorem abK (zc:List Value):∀ (m p:Nat),p < m * zc.length->(List.replicate m zc).flatten[p]? = zc[p % zc.length]?
 | 0,p,h=>by simp at h
 | m + 1,p,h=>by
  rw [List.replicate_succ,List.flatten_cons]
  rcases Nat.lt_or_ge p zc.length with h' | h'
  ·rw [List.getElem?_append_left h',Nat.mod_eq_of_lt h']
  ·rw [List.getElem?_append_right h',abK zc m (p - zc.length) (by rw [Nat.add_mul] at h;omega),Nat.mod_eq_sub_mod h']
theorem BG (zc:List Value) (hz:0 < zc.length) (m:Nat):(Array.range (m * zc.length)).map (fun x=>zc.toArray[x % zc.toArray.size]!)=(List.replicate m zc).flatten.toArray:=by
 have hl:(List.replicate m zc).flatten.length=m * zc.length:=by simp [List.length_flatten]
 apply Array.ext
 ·simp [hl]
 ·intro p h1 h2
  have hp:p < m * zc.length:=by simpa using h1
  have hmod:p % zc.length < zc.length:=Nat.mod_lt _ hz
  have e:=abK zc m p hp
  have h3:p < (List.replicate m zc).flatten.length:=by rw [hl];exact hp
  rw [List.getElem?_eq_getElem h3,List.getElem?_eq_getElem hmod] at e
  simp only [Array.getElem_map,Array.getElem_range,List.size_toArray,List.getElem_toArray]
  rw [Option.some.inj e]
  simp [hmod]
section
variable {P:Program} {c:aF} {n:Nat} {a:Act} {l:Env} {il:aE} {O:Own} {ρ:List Hd} {tb:aj} {w:World} {o:Oper}
theorem aco {ty e s bytes:Nat} {z:Value} {zc:List Value} {x y:Operand} {i j:Int} (he:iG P ty e s bytes z) (lq:z.cells=zc.toArray) (ho:o.op=.makeSlice ty x y) (hx:a.eval x=vI i) (hy:a.eval y=vI j)
  (hi:0≤i) (hij:i≤j) (hj:j≤4611686018427387904) (kw:bytes * j≤281474976710656) :
  ∃ v w',(execOp a.eval o).run P w=.ok (.value v) w'∧Row w' e s v i.toNat (List.replicate i.toNat zc).flatten∧Kept ja w w'∧∀ b,aZ v b->w.heap.size≤b:=by
 obtain ⟨f,hf,hk,hb,hz⟩:=he.info
 have hsz:zc.length=s:=by have:=he.cells;rw [lq] at this;simpa using this
 have hpos:=he.pos
 have hwi:IntKind.i64.wrap i=i:=aY (by omega) (by omega)
 have AO:IntKind.i64.wrap j=j:=aY (by omega) (by omega)
 have hrow:=BG zc (by omega) j.toNat
 rw [hsz] at hrow
 have hfl:∀ m,(List.replicate m zc).flatten.length=m * s:=fun m=>by simp [List.length_flatten,hsz]
 refine ⟨.slice (some ⟨w.heap.size,0,none⟩) i.toNat j.toNat,{ w with heap:=w.heap.push (.cells (List.replicate j.toNat zc).flatten.toArray e) },?_,⟨hfl _,.inr ⟨w.heap.size,j.toNat,(List.replicate (j.toNat - i.toNat) zc).flatten,rfl,by omega,?_,?_,?_⟩⟩,jZ w _,fun b hb=>by cases hb;exact Nat.le_refl _⟩
 ·simp only [execOp,ho,hx,hy]
  have c1:¬ (j < 0):=by omega
  have c2:¬ ((bytes:Int) * j > 281474976710656):=by omega
  have c3:¬ (i < 0):=by omega
  have c4:¬ (i > j):=by omega
  have hroom:∀ (q:Nat) (w:World),(askRoom q).run P w=.ok () w:=fun q w=>by unfold askRoom;split<;>rfl
  by_cases hj0:j.toNat=0
  ·have qS:j≤0:=by omega
   simp [Instr.makeSlice,run_underlying he.slice,asInt,asIntOf,typeInfo,hf,hb,hwi,AO,c1,c2,c3,c4,sizeOf,hk,hj0,newRow,newObj,hroom]
   have e0:Array.range 0 = #[]:=rfl
   simp [Sem.run,e0]
  ·have qS:¬ (j.toNat * s=0):=by
    intro h
    rcases Nat.mul_eq_zero.1 h with h | h<;>omega
   have mG:Array.map (fun x=>z.cells[x % z.cells.size]!) (Array.range (j.toNat * s))=(List.replicate j.toNat zc).flatten.toArray:=by rw [lq];rw [← hrow]
   simp [Instr.makeSlice,run_underlying he.slice,asInt,asIntOf,typeInfo,hf,hb,hwi,AO,c1,c2,c3,c4,sizeOf,hk,qS,newRow,newObj,zeroValue,hz,mG,hroom]
   simp [Sem.run]
 ·have e1:(List.replicate i.toNat zc).flatten ++ (List.replicate (j.toNat - i.toNat) zc).flatten=(List.replicate j.toNat zc).flatten:=by
   rw [← List.flatten_append,List.replicate_append_replicate,show i.toNat + (j.toNat - i.toNat)=j.toNat from by omega]
  rw [e1]
  exact kr e _
 ·rw [List.length_append,hfl,hfl,← Nat.add_mul];congr 1;omega
 ·simp only [maxLen];omega
def QA {β:Type} (c:aF) (il:aE) (tb:aj) (k:Option IV->aj->Option β) (ty:Nat) (x y:Operand):Option β:=
 match c.D ty with
 | some (.slice e)=>match c.E e,aC c il x,aC c il y with
  | some t,some (.o (.i i)),some (.o (.i j))=>(cw t.zero i j).bind fun xs=>k (some (.rw tb.length)) (tb ++ [.row e t xs])
  | _,_,_=>none
 | _=>none
theorem aiX {β:Type} {k:Option IV->aj->Option β} {r:β} (hc:aN P c) (hF:Fr n a l) (hE:ER O ρ il l) (hG:GO c O) (hM:Gm O ρ tb w) {ty:Nat} {x y:Operand} (ho:o.op=.makeSlice ty x y) (e:QA c il tb k ty x y=some r):bG P a o O ρ w (fun _=>False) k r:=by
 unfold QA at e
 split at e<;>first | (cases e;done) | skip
 rename_i el hd
 split at e<;>first | (cases e;done) | skip
 rename_i t i j ht hx hy
 obtain ⟨xs,hxs,e⟩:=bl e
 obtain ⟨h0,h1,h2,rfl⟩:=RP hxs
 obtain ⟨bytes,z,zc,h3,h4,h5,h6⟩:=hc.elem _ _ _ hd ht
 have hb':(bytes:Int) * j≤281474976710656:=by
  have:(bytes:Int)≤128:=by omega
  have:(bytes:Int) * j≤128 * j:=Int.mul_le_mul_of_nonneg_right this (by omega)
  omega
 obtain ⟨v,w',h7,h8,h9,h10⟩:=aco (P:=P) (w:=w) h3 h5 ho (aW hF (b8 hE hG hx).1) (aW hF (b8 hE hG hy).1) h0 h1 (by omega) hb'
 refine AN hM h7 h9 (by simpa using h8) h10 (LR.replicate (h6 O) _) e
theorem Gm.Eb {id E:Nat} {t:Ty} {xs:List t.den} {tb:aj} (hM:Gm O ρ tb w) (hb:tb[id]? = some (.row E t xs)):∃ O' h,ρ[id]? = some h∧Gm O' ρ (tb.set id (.fz t xs)) w∧aR (· = id) O ρ w O' ρ w∧TR O' (.sl t) xs [h.v]∧(∀ b j,j ≠ id->O b=.th j->O' b=.th j)∧h.z=t.sz:=by
 obtain ⟨h,es,h1,h2,h3,h4,h5⟩:=hM.th _ _ hb
 have ez:=h5.jX
 obtain ⟨q,m,cp,hv⟩:∃ q m cp,h.v=.slice q m cp:=by cases hv:h.v<;>first | exact ⟨_,_,_,rfl⟩ | (rw [hv] at ez;cases ez)
 have hid:=(aM hb).1
 have mZ:=h5
 obtain ⟨hl,h6⟩:=mZ
 rcases h6 with ⟨hn,h0⟩ | ⟨b,cap,sp,eV,hnc,dY,hcap,dF⟩
 ·have hx:xs=[]:=List.eq_nil_of_length_eq_zero h0
  have hT:TR O (.sl t) xs [h.v]:=by subst hx;rw [hn];exact ⟨_,[],rfl,rfl,.inl ⟨rfl,none,0,rfl⟩⟩
  obtain ⟨g1,g2⟩:=hM.set (x':=.fz t xs) hid (Kept.refl _ w) ⟨h,h1,h2,hT⟩
  exact ⟨O,h,h1,g1,g2,hT,fun _ _ _ e=>e,h2⟩
 ·have hown:O b=.th id:=h3 b (by rw [eV];rfl)
  obtain ⟨fz,hh,_⟩:=dY
  have hle:O.le (fun b'=>bif Nat.beq b b' then .im (es ++ sp) else O b'):=fun b' all e=>by
   cases e':Nat.beq b b' with
   | true=>have:=ay e';subst this;rw [hown] at e;cases e
   | false=>simp only [e',cond_false];exact e
  have hT:TR (fun b'=>bif Nat.beq b b' then .im (es ++ sp) else O b') (.sl t) xs [h.v]:=by
   refine ⟨_,es,rfl,h4.mono (fun _ _=>TR.mono hle),.inr ⟨b,0,cap,eV,hnc,es ++ sp,by simp,fun j c hj=>?_⟩⟩
   rw [Nat.zero_add,List.getElem?_append_left (aM hj).1];exact hj
  have d8:∀ b' j,j ≠ id->O b'=.th j->(bif Nat.beq b b' then Ow.im (es ++ sp) else O b')=.th j:=fun b' j hj e=>by
   cases e':Nat.beq b b' with
   | true=>have:=ay e';subst this;rw [hown] at e;cases e;exact absurd rfl hj
   | false=>exact e
  obtain ⟨g1,g2⟩:=hM.step (M:=(· = id)) (O':=fun b'=>bif Nat.beq b b' then .im (es ++ sp) else O b') (ρ':=ρ) (aL:=tb.set id (.fz t xs)) (w':=w) (Kept.refl _ _)
   (fun b' _ hn=>by
    cases e':Nat.beq b b' with
    | true=>have:=ay e';subst this;exact absurd hown (hn id rfl)
    | false=>rfl)
   (fun b' hb'=>by
    cases e':Nat.beq b b' with
    | true=>have:=ay e';subst this;rw [hM.lt _ hb'] at hown;cases hown
    | false=>exact hM.lt b' hb')
   (fun b' all e=>by
    cases e':Nat.beq b b' with
    | true=>have:=ay e';subst this;simp only [e',cond_true,Ow.im.injEq] at e;subst e;exact .inr ⟨_,_,hh⟩
    | false=>simp only [e',cond_false] at e;exact .inl e)
   (.refl _) (by simp [hM.len]) (fun j x hx=>by
    rw [List.getElem?_set] at hx
    split at hx
    ·rename_i e;subst e
     have:x=.fz t xs:=by first | (rw [if_pos hid] at hx;cases hx;rfl) | (cases hx;rfl)
     subst this;exact .inr ⟨h,h1,h2,hT⟩
    ·rename_i e;exact .inl ⟨hx,fun h=>e h.symm⟩)
  exact ⟨_,h,h1,g1,g2,hT,d8,h2⟩
def uK:IV->aj->Option aj
 | .rw id,tb=>match nth tb id with
  | some (.row _ t xs)=>some (tb.set id (.fz t xs))
  | some (.fz _ _)=>some tb
  | _=>none
 | .pr a b,tb=>match uK a tb with
  | some tb=>uK b tb
  | none=>none
 | _,tb=>some tb
def Dc:List (Nat×IV)->aj->Option aj
 | [],tb=>some tb
 | (_,v) :: r,tb=>match uK v tb with
  | some tb=>Dc r tb
  | none=>none
def qn:IV->List Nat
 | .rw id=>[id]
 | .pr a b=>qn a ++ qn b
 | _=>[]
def rB:List (Nat×IV)->List Nat
 | []=>[]
 | (_,v) :: r=>qn v ++ rB r
def uW (c:aF) (il:aE) (ps:List (Nat×Operand)):List Nat:=match oR c il ps with
 | some vs=>rB vs
 | none=>[]
theorem ano:∀ {v:IV} {tb aL:aj} {O:Own} {ρ:List Hd} {w:World},uK v tb=some aL->Gm O ρ tb w->∃ O',Gm O' ρ aL w∧aR (· ∈ qn v) O ρ w O' ρ w∧aL.length=tb.length:=by
 intro v
 induction v with
 | rw id=>
  intro tb aL O ρ w e hM
  simp only [uK] at e
  split at e<;>first | (cases e;done) | skip
  ·rename_i E t xs hb
   rw [aS] at hb
   cases e
   obtain ⟨O',h,h1,g1,g2,_⟩:=hM.Eb hb
   exact ⟨O',g1,g2.bD (fun i e=>by subst e;simp [qn]),by simp⟩
  ·cases e;exact ⟨O,hM,.refl _ _ _ _,rfl⟩
 | pr a b bF bK=>
  intro tb aL O ρ w e hM
  simp only [uK] at e
  split at e<;>first | (cases e;done) | skip
  rename_i bM h1
  obtain ⟨O1,g1,g2,g3⟩:=bF h1 hM
  obtain ⟨O2,k1,k2,k3⟩:=bK e g1
  exact ⟨O2,k1,(g2.bD (fun i h=>by simp [qn,h])).trans (k2.bD (fun i h=>by simp [qn,h])),k3.trans g3⟩
 | _=>intro tb aL O ρ w e hM;simp only [uK,az] at e;subst e;exact ⟨O,hM,.refl _ _ _ _,rfl⟩
theorem XX:∀ {vs:List (Nat×IV)} {tb aL:aj} {O:Own} {ρ:List Hd} {w:World},Dc vs tb=some aL->Gm O ρ tb w->∃ O',Gm O' ρ aL w∧aR (· ∈ rB vs) O ρ w O' ρ w∧aL.length=tb.length
 | [],tb,aL,O,ρ,w,e,hM=>by simp only [Dc,az] at e;subst e;exact ⟨O,hM,.refl _ _ _ _,rfl⟩
 | (i,v) :: r,tb,aL,O,ρ,w,e,hM=>by
  simp only [Dc] at e
  split at e<;>first | (cases e;done) | skip
  rename_i bM h1
  obtain ⟨O1,g1,g2,g3⟩:=ano h1 hM
  obtain ⟨O2,k1,k2,k3⟩:=XX e g1
  exact ⟨O2,k1,(g2.bD (fun i h=>by simp [rB,h])).trans (k2.bD (fun i h=>by simp [rB,h])),k3.trans g3⟩
def vo (tb:aj):(t:Ty)->IV->Option t.den
 | .sl t,v=>match v with
  | .rw id=>match nth tb id with
   | some (.fz t' xs)=>eZ (Ty.bL t' t) xs
   | _=>none
  | v=>v.qw t
 | .pr a b,v=>match v with
  | .pr x y=>match vo tb a x,vo tb b y with
   | some x,some y=>some (x,y)
   | _,_=>none
  | _=>none
 | .sn t,v=>match v with
  | .rw id=>match nth tb id with
   | some (.fz t' xs)=>match eZ (Ty.bL t' t) xs with
    | some ys=>Ig ys
    | none=>none
   | _=>none
  | v=>v.vj t
 | .i,v=>v.ul
 | .u8,v=>v.vf
 | .u32,v=>v.uQ
 | .u64,v=>v.um
 | .bo,v=>v.vp
 | .s,v=>v.tF
 | .un,v=>match v with
  | .un=>some ()
  | _=>none
 | .ar n t,v=>v.uh n t
theorem adC {tb:aj} {w:World} (hM:Gm O ρ tb w):∀ {t:Ty} {v:IV} {x:t.den} {cs:List Value},vo tb t v=some x->R O ρ false v cs->TR O t x cs:=by
 intro t
 induction t with
 | sl t ih=>
  intro v x cs e h
  cases v<;>first | exact fN (t:=.sl t) e h | skip
  rename_i id
  simp only [vo] at e
  split at e<;>first | (cases e;done) | skip
  rename_i t' xs hb
  obtain ⟨e1,aH⟩:=gG e
  subst e1
  have aH:x=xs:=aH
  subst aH
  rw [aS] at hb
  obtain ⟨h',h1,h2,h3⟩:=hM.th _ _ hb
  obtain ⟨h0,h4,h5,_⟩:=h
  rw [h1] at h4;cases h4
  subst h5
  exact h3
 | pr a b bF bK=>
  intro v x cs e h
  cases v<;>simp only [vo] at e<;>first | (cases e;done) | skip
  split at e<;>first | (cases e;done) | skip
  rename_i x1 y1 h1 h2
  cases e
  obtain ⟨c,d,rfl,h3,h4⟩:=h
  exact ⟨c,d,rfl,bF h1 h3,bK h2 h4⟩
 | i=>intro v x cs e h;exact fN (t:=.i) e h
 | u8=>intro v x cs e h;exact fN (t:=.u8) e h
 | u32=>intro v x cs e h;exact fN (t:=.u32) e h
 | u64=>intro v x cs e h;exact fN (t:=.u64) e h
 | bo=>intro v x cs e h;exact fN (t:=.bo) e h
 | s=>intro v x cs e h;exact fN (t:=.s) e h
 | un=>intro v x cs e h;exact fN (t:=.un) e h
 | ar n t _=>intro v x cs e h;exact fN (t:=.ar n t) e h
 | sn t _=>
  intro v x cs e h
  cases v<;>first | exact fN (t:=.sn t) e h | skip
  rename_i id
  simp only [vo] at e
  split at e<;>first | (cases e;done) | skip
  rename_i t' xs hb
  split at e<;>first | (cases e;done) | skip
  rename_i ys hy
  obtain ⟨e1,aH⟩:=gG hy
  subst e1
  have aH:ys=xs:=aH
  subst aH
  rw [aS] at hb
  obtain ⟨h',h1,h2,h3⟩:=hM.th _ _ hb
  obtain ⟨h0,h4,h5,_⟩:=h
  rw [h1] at h4;cases h4
  subst h5
  unfold Ig at e
  cases hz:fA ys with
  | true=>rw [hz] at e;cases e
  | false=>rw [hz] at e;simp only [cond_false,az] at e;subst e;exact (TR.BA h3 (BS hz)).1
def CZ (tb:aj) (t:Ty):Nat->List (Nat×IV)->Option (List t.den)
 | _,[]=>some []
 | q,(i,u) :: r=>match Nat.beq i q,vo tb t u,CZ tb t (q + 1) r with
  | true,some x,some xs=>some (x :: xs)
  | _,_,_=>none
theorem gN.mono {O O':Own} {ρ ρ':List Hd} (hO:O.le O') (hρ:Pre ρ ρ'):∀ {ps:List (Nat×IV)} {ys:List (Nat×Value)},gN O ρ ps ys->gN O' ρ' ps ys
 | [],ys,h=>h
 | (i,v) :: r,ys,h=>by
  obtain ⟨x,rest,cs,rfl,h1,h2,h3⟩:=h
  exact ⟨x,rest,cs,rfl,h1,R.mono hO hρ h2,gN.mono hO hρ h3⟩
theorem bG.pre {β:Type} {P:Program} {a:Act} {o:Oper} {O O1:Own} {ρ bQ:List Hd} {w:World} {M M1:Nat->Prop} {k:Option IV->aj->Option β} {r:β} (h:aR M O ρ w O1 bQ w) (hk:bG P a o O1 bQ w M1 k r) (hm:∀ i,M1 i->M i):bG P a o O ρ w M k r:=by
 obtain ⟨v,x,aL,O',ρ',w',h1,h2,h3,h4⟩:=hk
 exact ⟨v,x,aL,O',ρ',w',h1,h2,h.trans (h3.bD hm),h4⟩
theorem MZ {cs us vs:List Value} {q:Nat} (h:q + us.length + vs.length≤cs.length):aI (aI cs q us) (q + us.length) vs=aI cs q (us ++ vs):=by
 have hA:(cs.take q ++ us).length=q + us.length:=by rw [List.length_append,List.length_take];omega
 have e1:aI cs q us=(cs.take q ++ us) ++ cs.drop (q + us.length):=rfl
 have e2:aI (aI cs q us) (q + us.length) vs=(cs.take q ++ us) ++ vs ++ (cs.drop (q + us.length)).drop vs.length:=by
  rw [e1]
  unfold aI
  rw [← hA,List.take_left,List.drop_length_add_append]
 rw [e2,List.drop_drop]
 simp [aI,Nat.add_assoc]
theorem abM {tb:aj} {w:World} (hM:Gm O ρ tb w) {t:Ty}:∀ {ps:List (Nat×IV)} {ys:List (Nat×Value)} {q:Nat} {xs:List t.den},CZ tb t q ps=some xs->gN O ρ ps ys->xs.length=ps.length∧∃ es,LR (TR O t) xs es∧∀ cs:List Value,(q + ps.length) * t.size≤cs.length ->
  Instr.fill (fun i=>some (i * t.size,t.size)) cs.toArray ys=some (aI cs (q * t.size) es).toArray
 | [],ys,q,xs,e,h=>by
  simp only [CZ,az] at e;subst e
  simp only [gN] at h;subst h
  exact ⟨rfl,[],rfl,fun cs _=>by simp [Instr.fill,aI]⟩
 | (i,u) :: ps,ys,q,xs,e,h=>by
  obtain ⟨x,rest,us,rfl,h1,h2,h3⟩:=h
  simp only [CZ] at e
  split at e<;>first | (cases e;done) | skip
  rename_i y ys' mi hy hys
  simp only [az] at e;subst e
  have mi:=ay mi
  subst mi
  have hT:=adC hM hy h2
  have gP:=TR.length hT
  obtain ⟨hl,es,h4,h5⟩:=abM hM hys h3
  have hel:=LR.length (fun _ _=>TR.length) h4
  refine ⟨by simp [hl],us ++ es,⟨us,es,rfl,hT,h4⟩,fun cs hcs=>?_⟩
  simp only [List.length_cons] at hcs
  have hb:i * t.size + t.size + ps.length * t.size≤cs.length:=by
   have:(i + (ps.length + 1)) * t.size=i * t.size + t.size + ps.length * t.size:=by rw [Nat.add_mul,Nat.add_mul];omega
   omega
  refine xP (off:=i * t.size) (k:=t.size) rfl h1 gP (by omega) ?_
  have hle:(aI cs (i * t.size) us).length=cs.length:=mR (by omega)
  rw [h5 _ (by rw [hle,Nat.add_mul,Nat.add_mul];omega)]
  rw [show (i + 1) * t.size=i * t.size + us.length from by rw [Nat.add_mul,gP];omega]
  rw [MZ (by rw [hel,hl];omega)]
def BU:Nat->List (Nat×IV)->Option IV
 | _,[]=>some .un
 | q,(i,u) :: r=>match Nat.beq i q,u.sz,BU (q + 1) r with
  | true,.one,some v=>some (.pr u v)
  | _,_,_=>none
theorem Wl:∀ {ps:List (Nat×IV)} {ys:List (Nat×Value)} {q:Nat} {v:IV},BU q ps=some v->gN O ρ ps ys->v.sz=nc ps.length∧∃ es,R O ρ false v es∧es.length=ps.length∧∀ cs:List Value,q + ps.length≤cs.length ->
  Instr.fill (fun i=>some (i * 1,1)) cs.toArray ys=some (aI cs q es).toArray
 | [],ys,q,v,e,h=>by
  simp only [BU,az] at e;subst e
  simp only [gN] at h;subst h
  exact ⟨rfl,[],rfl,rfl,fun cs _=>by simp [Instr.fill,aI]⟩
 | (i,u) :: ps,ys,q,v,e,h=>by
  obtain ⟨x,rest,us,rfl,h1,h2,h3⟩:=h
  simp only [BU] at e
  split at e<;>first | (cases e;done) | skip
  rename_i v' mi hsz eV
  simp only [az] at e;subst e
  have mi:=ay mi
  subst mi
  have gP:us.length=1:=by rw [R.length h2,hsz];rfl
  obtain ⟨hl,es,h4,h5,h6⟩:=Wl eV h3
  refine ⟨by simp [IV.sz,nc,hsz,hl],us ++ es,⟨us,es,rfl,h2,h4⟩,by simp [gP,h5];omega,fun cs hcs=>?_⟩
  simp only [List.length_cons] at hcs
  refine xP (off:=i * 1) (k:=1) rfl h1 gP (by omega) ?_
  have hle:(aI cs (i * 1) us).length=cs.length:=mR (by omega)
  rw [h6 _ (by rw [hle];omega)]
  rw [show i + 1=i * 1 + us.length from by rw [gP];omega]
  rw [MZ (by rw [h5];omega),Nat.mul_one]
def T_ {β:Type} (c:aF) (il:aE) (tb:aj) (k:Option IV->aj->Option β) (ty len:Nat) (ps:List (Nat×Operand)):Option β:=
 match c.D ty with
 | some (.slice e)=>match c.E e,oR c il ps with
  | some t,some vs=>match Dc vs tb with
   | some bM=>match Nat.beq vs.length len,Nat.ble (len * t.size) 16777216,CZ bM t 0 vs with
    | true,true,some xs=>k (some (.rw bM.length)) (bM ++ [.row e t xs])
    | _,_,_=>none
   | none=>none
  | none,some vs=>match c.W e,Nat.beq vs.length len,Nat.ble len 1000,BU 0 vs with
   | true,true,true,some v=>k (some (.ps tb.length len)) (tb ++ [.blk e v])
   | _,_,_,_=>none
  | _,_=>none
 | _=>none
theorem am4 {β:Type} {k:Option IV->aj->Option β} {r:β} (hc:aN P c) (hF:Fr n a l) (hE:ER O ρ il l) (hG:GO c O) (hM:Gm O ρ tb w) {ty len:Nat} {ps:Array (Nat×Operand)} (ho:o.op=.buildSlice ty len ps) (e:T_ c il tb k ty len ps.toList=some r):bG P a o O ρ w (· ∈ uW c il ps.toList) k r:=by
 unfold T_ at e
 split at e<;>first | (cases e;done) | skip
 rename_i el hd
 split at e<;>first | (cases e;done) | skip
 ·rename_i t vs ht hps
  split at e<;>first | (cases e;done) | skip
  rename_i bM hfz
  split at e<;>first | (cases e;done) | skip
  rename_i xs hlen hle hxs
  obtain ⟨O1,fD,gR,oq⟩:=XX hfz hM
  have tO:uW c il ps.toList=rB vs:=by simp [uW,hps]
  rw [tO]
  refine bG.pre gR (M1:=fun _=>False) ?_ (fun _ h=>h.elim)
  have hlen:=ay hlen
  have hle:len * t.size≤16777216:=by simpa using hle
  obtain ⟨bytes,z,zc,h3,h4,h5,h6⟩:=hc.elem _ _ _ hd ht
  obtain ⟨f,hf,hk,kw,hz⟩:=h3.info
  have hsz:zc.length=t.size:=by have:=h3.cells;rw [h5] at this;simpa using this
  have hpos:=h3.pos
  obtain ⟨hxl,es,h7,h8⟩:=abM fD hxs (gN.mono gR.im gR.pre (rM hF hE hG hps))
  have hel:=LR.length (fun _ _=>TR.length) h7
  have hfl:∀ m,(List.replicate m zc).flatten.length=m * t.size:=fun m=>by simp [List.length_flatten,hsz]
  have jq:=h8 (List.replicate len zc).flatten (by rw [hfl,Nat.zero_add,hlen];exact Nat.le_refl _)
  have lT:aI (List.replicate len zc).flatten (0 * t.size) es=es:=by
   simp only [aI,Nat.zero_mul,List.take_zero,List.nil_append]
   rw [List.drop_of_length_le (by rw [hfl,hel,hxl,hlen];omega),List.append_nil]
  rw [lT] at jq
  have hrow:=BG zc (by omega) len
  rw [hsz] at hrow
  have Al:xs.length=len:=hxl.trans hlen
  have ahP:len≤len * t.size:=by
   have:=Nat.mul_le_mul_left len hpos
   simpa using this
  refine AN (v:=.slice (some ⟨w.heap.size,0,none⟩) len len) (w':={ w with heap:=w.heap.push (.cells es.toArray el) }) fD ?_ (jZ w _) ⟨hel,.inr ⟨w.heap.size,len,[],by rw [Al],by omega,by simpa using kr el es,by simp [hel,Al],by simp only [maxLen];omega⟩⟩
   (fun b hb=>by cases hb;exact Nat.le_refl _) h7 e
  simp only [execOp,ho]
  have c0:¬ (len * t.size > 2 ^ 24):=by omega
  have mP:(ps.map fun (i,x)=>(i,a.eval x)).toList=ps.toList.map fun (i,x)=>(i,a.eval x):=by simp
  have hrun:(Instr.buildSlice ty len (ps.map fun (i,x)=>(i,a.eval x))).run P w=.ok (.slice (some ⟨w.heap.size,0,none⟩) len len) { w with heap:=w.heap.push (.cells es.toArray el) }:=by
   by_cases h0:len * t.size=0
   ·have BX:len=0:=by omega
    subst BX
    have e0:Array.range 0 = #[]:=rfl
    have mF:Instr.fill (fun i=>some (i * t.size,t.size)) #[] (ps.toList.map fun (i,x)=>(i,a.eval x))=some es.toArray:=by simpa using jq
    unfold Instr.buildSlice
    simp only [Sem.run_bind,run_underlying h3.slice,Result.andThen_ok,sizeOf,typeInfo,Sem.run,hf,hk,mP,Nat.zero_mul,e0]
    simp [Sem.run,newRow,newObj,pure,hf,hk,e0,mF,mP]
   ·have mG:Array.map (fun x=>z.cells[x % z.cells.size]!) (Array.range (len * t.size))=(List.replicate len zc).flatten.toArray:=by rw [h5];rw [← hrow]
    have hs:=hc.tok.size
    unfold Instr.buildSlice
    simp [run_underlying h3.slice,sizeOf,typeInfo,hf,hk,zeroValue,hz,h0,c0,newRow,newObj,pure,Sem.run,mP]
    have mF:Instr.fill (fun i=>some (i * t.size,t.size)) (List.replicate len zc).flatten.toArray (ps.toList.map fun x=>(x.fst,a.eval x.snd))=some es.toArray:=jq
    rw [mG,mF]
    rfl
  simp [hrun]
 ·rename_i vs ht hps
  split at e<;>first | (cases e;done) | skip
  rename_i v hw hlen hle bJ
  have hlen:=ay hlen
  have hle:len≤1000:=by simpa using hle
  obtain ⟨bytes,z,h3⟩:=hc.one _ _ hd hw
  obtain ⟨f,hf,hk,kw,hz⟩:=h3.info
  obtain ⟨zc,lq⟩:∃ zc,z.cells = #[zc]:=by
   have:=h3.cells
   obtain ⟨l⟩:∃ l,z.cells=⟨l⟩:=⟨z.cells.toList,by simp⟩
   rename_i hl
   rw [hl] at this
   match l,this with
   | [x],_=>exact ⟨x,hl⟩
   | [],h=>simp at h
   | _ :: _ :: _,h=>simp at h
  obtain ⟨hsz,es,h4,h5,h6⟩:=Wl bJ (rM hF hE hG hps)
  have jq:=h6 (List.replicate len zc) (by simp;omega)
  have lT:aI (List.replicate len zc) 0 es=es:=by
   simp only [aI,List.take_zero,List.nil_append]
   rw [List.drop_of_length_le (by simp;omega),List.append_nil]
  rw [lT] at jq
  have hle':O.le (fun b=>bif Nat.beq w.heap.size b then .th tb.length else O b):=fun b all e=>by
   cases e':Nat.beq w.heap.size b with
   | true=>have:=ay e';rw [hM.lt b (by omega)] at e;cases e
   | false=>simp only [e',cond_false];exact e
  have aQ:(ρ ++ [(⟨w.heap.size,v.sz,.bool false,[]⟩:Hd)])[tb.length]? = some ⟨w.heap.size,v.sz,.bool false,[]⟩:=by rw [← hM.len];simp
  obtain ⟨g1,g2⟩:=hM.new (h:=⟨w.heap.size,v.sz,.bool false,[]⟩) (x:=.blk el v) (Nat.beq w.heap.size) (jZ w (.cells es.toArray el)) (fun b aB=>by have:=ay aB;subst this;simp)
   ⟨_,es,aQ,by simp,rfl,R.mono hle' (.app _ _) h4,kr el es⟩
  refine ⟨some (.ps tb.length len),.o (.v (.slice (some ⟨w.heap.size,0,none⟩) len len)),_,_,_,_,⟨.fS (v:=.ps tb.length len) ⟨_,rfl,_,aQ,by rw [hsz,hlen],rfl⟩,?_⟩,g1,g2.bD (fun _ h=>h.elim),e⟩
  simp only [execOp,ho]
  have mP:(ps.map fun (i,x)=>(i,a.eval x)).toList=ps.toList.map fun (i,x)=>(i,a.eval x):=by simp
  have c0:¬ (len * 1 > 2 ^ 24):=by omega
  have hrun:(Instr.buildSlice ty len (ps.map fun (i,x)=>(i,a.eval x))).run P w=.ok (.slice (some ⟨w.heap.size,0,none⟩) len len) { w with heap:=w.heap.push (.cells es.toArray el) }:=by
   have hrow:Array.map (fun x=>z.cells[x % z.cells.size]!) (Array.range len)=(List.replicate len zc).toArray:=by
    rw [lq]
    apply Array.ext'
    rw [Array.toList_map]
    apply List.ext_getElem
    ·simp
    ·intro i h1 h2;simp [Nat.mod_one]
   by_cases h0:len=0
   ·subst h0
    have apj:es=[]:=List.length_eq_zero_iff.1 (by omega)
    subst apj
    have e0:Array.range 0 = #[]:=rfl
    have mF:Instr.fill (fun i=>some (i * 1,1)) #[] (ps.toList.map fun (i,x)=>(i,a.eval x))=some #[]:=by simpa using jq
    unfold Instr.buildSlice
    simp only [Sem.run_bind,run_underlying h3.slice,Result.andThen_ok,sizeOf,typeInfo,Sem.run,hf,hk,mP,Nat.zero_mul,e0]
    simp [Sem.run,newRow,newObj,pure,hf,hk,e0,mP]
    have ac7:Instr.fill (fun i=>some (i,1)) #[] (List.map (fun x=>(x.fst,a.eval x.snd)) ps.toList)=some #[]:=by
     have:=mF
     simp only [Nat.mul_one] at this
     exact this
    rw [ac7]
    rfl
   ·unfold Instr.buildSlice
    have c1:¬ (16777216 < len):=by omega
    simp [run_underlying h3.slice,sizeOf,typeInfo,hf,hk,zeroValue,hz,h0,c0,c1,newRow,newObj,pure,Sem.run,mP]
    have mF:Instr.fill (fun i=>some (i,1)) (List.replicate len zc).toArray (ps.toList.map fun x=>(x.fst,a.eval x.snd))=some es.toArray:=by
     have:=jq
     simp only [Nat.mul_one] at this
     exact this
    rw [hrow,mF]
    rfl
  simp [hrun]
def og {β:Type} (c:aF) (il:aE) (tb:aj) (t:Ty) (aX:Nat) (B:Operand) (k:List t.den->Option β):Option β:=
 match c.D aX,aC c il B with
 | some .string,some (.o (.s s))=>match eZ (Ty.bL .u8 t) s with
  | some ys=>k ys
  | none=>none
 | some (.slice _),some v=>match v.agg with
  | false=>cont t tb v k
  | true=>none
 | _,_=>none
theorem Ua:∀ (xs:List UInt8),LR (TR O .u8) xs (xs.map di)
 | []=>rfl
 | x :: xs=>⟨[di x],xs.map di,rfl,rfl,Ua xs⟩
theorem adD (s:List UInt8) (m:Nat) (w':World):(Builtin.firstCells 1 m (vS s)).run P w'=.ok ((s.map di).take m).toArray w':=by
 have hx:((ByteArray.mk s.toArray).extract 0 m).data=(s.take m).toArray:=by simp [ByteArray.data_extract]
 simp only [Builtin.firstCells,hx]
 simp [List.map_take]
theorem wW {β:Type} {t:Ty} {aX:Nat} {B:Operand} {k:List t.den->Option β} {r:β} (hc:aN P c) (hF:Fr n a l) (hE:ER O ρ il l) (hG:GO c O) (hM:Gm O ρ tb w) (e:og c il tb t aX B k=some r) :
  ∃ ys es d2,k ys=some r∧LR (TR O t) ys es∧P.underlying aX=some d2∧(∀ q,d2 ≠ .int q)∧(∀ w':World,(Builtin.lenOf (a.eval B)).run P w'=.ok ys.length w')∧∀ w':World,w'.heap=w.heap->∀ m,m≤ys.length->(Builtin.firstCells t.size m (a.eval B)).run P w'=.ok (es.take (m * t.size)).toArray w':=by
 unfold og at e
 split at e<;>first | (cases e;done) | skip
 ·rename_i s hd hB
  split at e<;>first | (cases e;done) | skip
  rename_i ys hcast
  have hv:=aW hF (b8 hE hG hB).1
  obtain ⟨e1,rfl⟩:=gG hcast
  subst e1
  refine ⟨_,s.map di,_,e,Ua s,hc.tok.desc _ _ hd,(fun q h=>by cases h),fun w'=>?_,fun w' _ m hm=>?_⟩
  ·rw [hv];simp [Builtin.lenOf,SV.val,S0.val,wT,iI]
  ·rw [hv]
   have:=adD (P:=P) s m w'
   simpa [Ty.size] using this
 ·rename_i el v hd hB
  split at e<;>first | (cases e;done) | skip
  rename_i hag
  have ht:∀ ch,v ≠ .tu ch:=fun ch ee=>by subst ee;simp [cont] at e
  obtain ⟨u,hu,hR,_⟩:=bu hE hG hB hag ht hF
  obtain ⟨xs,es,hk,hL,hrd,_⟩:=Gx hM e hR
  have hr:=hrd w (Sm.refl _ _ _)
  refine ⟨xs,es,_,hk,hL,hc.tok.desc _ _ hd,(fun q h=>by cases h),fun w'=>?_,fun w' hw m hm=>?_⟩
  ·rw [hu];exact Xv hr w'
  ·rw [hu]
   exact HI (P:=P) (w:=w') (Rd.same hr (fun b _ _=>by rw [hw])) m hm
def Mq {β:Type} (c:aF) (il:aE) (tb:aj) (k:Option IV->aj->Option β) (ty aX:Nat) (A B:Operand):Option β:=
 match c.D ty with
 | some (.slice e)=>match c.E e with
  | some t=>match aC c il A with
   | some (.rw id)=>match nth tb id with
    | some (.row E t' xs)=>match Nat.beq E e,eZ (Ty.bL t' t) xs with
     | true,some xs=>og c il tb t aX B fun ys=>(aD xs ys).bind fun zs=>k (some (.rw tb.length)) (tb.set id .no ++ [.row e t zs])
     | _,_=>none
    | _=>none
   | some v=>match v.ij with
    | true=>og c il tb t aX B fun ys=>(aD [] ys).bind fun zs=>k (some (.rw tb.length)) (tb ++ [.row e t zs])
    | false=>none
   | none=>none
  | none=>none
 | _=>none
theorem LK {ty aX e s bytes:Nat} {z v:Value} {m len:Nat} {xs ys:List Value} {d2:TypeDesc} {A B:Operand} (he:iG P ty e s bytes z) (h2:P.underlying aX=some d2) (iP:∀ q,d2 ≠ .int q) (ho:o.op=.call ⟨.builtin .append,#[A,B],#[ty,aX]⟩) (hA:a.eval A=v)
  (hr:Row w e s v len xs) (hlen:∀ w:World,(Builtin.lenOf (a.eval B)).run P w=.ok m w) (hys:ys.length=m * s) (hx:∀ w':World,w'.heap=w.heap->(Builtin.firstCells s m (a.eval B)).run P w'=.ok ys.toArray w') (h1:∀ u ∈ ys,u.oneCell'=true)
  (h63:len + m≤maxLen) (kw:(len + m) * bytes≤140737488355328) :
  ∃ v' w',(execOp a.eval o).run P w=.ok (.value v') w'∧Row w' e s v' (len + m) (xs ++ ys)∧Kept (aZ v) w w'∧∀ b,aZ v' b->aZ v b∨w.heap.size≤b:=by
 obtain ⟨v',w',h3,h4⟩:=aoE (rt:=o.type) he h2 iP hr hlen hys hx h1 h63 kw
 refine ⟨v',w',?_,h4⟩
 simp [execOp,ho,resolve,invoke,builtin,hA,h3]
theorem arf {z:Value} {zc:List Value} (hz:z.cells=zc.toArray) (hp:0 < zc.length) (m:Nat):Builtin.zeroCells z.cells m=(List.replicate m zc).flatten.toArray:=by
 have:=BG zc hp m
 rw [hz]
 unfold Builtin.zeroCells
 simpa using this
theorem apT {sO aX e k bytes rt:Nat} {z v:Value} {zc:List Value} {m len:Nat} {xs:List Value} (he:iG P sO e k bytes z) (lq:z.cells=zc.toArray) (h2:P.underlying aX=some (.int .i64))
  (hr:Row w e k v len xs) (h1:∀ u ∈ zc,u.oneCell'=true) (h63:len + m≤maxLen) (kw:(len + m) * bytes≤140737488355328) :
  ∃ v' w',(Builtin.append_ #[sO,aX] rt #[v,.int .i64 (m:Int)]).run P w=.ok v' w'∧Row w' e k v' (len + m) (xs ++ (List.replicate m zc).flatten)∧Kept (aZ v) w w'∧∀ b,aZ v' b->aZ v b∨w.heap.size≤b:=by
 obtain ⟨f,hf,hk,hb,hz⟩:=he.info
 have hpos:0 < k:=he.pos
 have hzl:zc.length=k:=by have:=he.cells;rw [lq] at this;simpa using this
 obtain ⟨ys,Et⟩:∃ ys,ys=(List.replicate m zc).flatten:=⟨_,rfl⟩
 have Uj:Builtin.zeroCells z.cells m=ys.toArray:=by rw [Et];exact arf lq (by omega) m
 have hys:ys.length=m * k:=by rw [Et];simp [List.length_flatten,hzl]
 have hy1:∀ u ∈ ys,u.oneCell'=true:=by
  intro u hu
  rw [Et] at hu
  obtain ⟨l,hl,hu⟩:=List.mem_flatten.1 hu
  rw [(List.mem_replicate.1 hl).2] at hu
  exact h1 u hu
 rw [← Et]
 subst hk hb
 have hsmall:len + m≤9223372036854775807:=by simp only [maxLen] at h63;omega
 have VH:IntKind.i64.wrap (m:Int)=m:=aY (by omega) (by omega)
 have Vk:¬ ((m:Int) < 0):=by omega
 have hmb:¬ (281474976710656 < (m:Int) * (f.bytes:Int)):=by
  have:m * f.bytes≤(len + m) * f.bytes:=Nat.mul_le_mul_right _ (by omega)
  have h3:((m * f.bytes:Nat):Int)=(m:Int) * (f.bytes:Int):=by simp
  omega
 have hL:(xs ++ ys).length=(len + m) * f.size:=by rw [List.length_append,hr.1,hys,Nat.add_mul]
 have anQ:∀ (q:Nat) (w:World),(askRoom q).run P w=.ok () w:=fun q w=>by unfold askRoom;split<;>rfl
 have grow:∀ (old:Nat) (hold:old < len + m) (bs:Option Addr),0 < m->v=.slice bs len old->(∀ w':World,w'.heap=w.heap->(Builtin.firstCells f.size len v).run P w'=.ok xs.toArray w') ->
   ∃ v' w',(Builtin.append_ #[sO,aX] rt #[v,.int .i64 (m:Int)]).run P w=.ok v' w'∧Row w' e f.size v' (len + m) (xs ++ ys)∧Kept (aZ v) w w'∧∀ b,aZ v' b->aZ v b∨w.heap.size≤b:=by
  intro old hold bs hm hv hfo
  have hge:=grownCap_ge w (len + m) old e
  have oQ:grownCap w (len + m) old e≤maxLen:=grownCap_le_maxLen w (len + m) old e h63
  have hn:¬ (len + m≤old):=by omega
  have h63':¬ (9223372036854775807 < ((len:Int) + (m:Int))):=by omega
  have SX:¬ (281474976710656 < Builtin.nextslicecap (len + m) old * f.bytes):=by have:=growslice_fits (need:=len + m) hold kw;omega
  have Di:=hfo w.drew rfl
  have qe:¬ (m * f.size=0):=by
   intro h
   rcases Nat.mul_eq_zero.1 h with h | h<;>omega
  have hm0:¬ (m=0):=by omega
  have hs0:¬ (f.size=0):=by omega
  refine ⟨.slice (some ⟨w.heap.size,0,none⟩) (len + m) (grownCap w (len + m) old e),w.drew.alloc (.cells (xs.toArray ++ ys.toArray ++ Builtin.zeroCells z.cells (grownCap w (len + m) old e - (len + m))) e),?_,⟨hL,.inr ⟨w.heap.size,_,(Builtin.zeroCells z.cells (grownCap w (len + m) old e - (len + m))).toList,rfl,hge,?_,?_,oQ⟩⟩,?_,fun b hb=>by cases hb;exact .inr (Nat.le_refl _)⟩
  ·subst hv
   simp [Builtin.append_,run_underlying he.slice,run_underlying h2,sizeOf,typeInfo,zeroValue,hf,hz,asInt,asIntOf,VH,Vk,hmb,hn,h63',SX,Question.forced,hm0,hs0,Di,newRow,grownCap,anQ,Uj]
   rw [if_neg qe,← Array.append_assoc];congr 3;simp
  ·have:=kr (w:=w.drew) e (xs ++ ys ++ (Builtin.zeroCells z.cells (grownCap w (len + m) old e - (len + m))).toList)
   have e3:(xs ++ ys ++ (Builtin.zeroCells z.cells (grownCap w (len + m) old e - (len + m))).toList).toArray=xs.toArray ++ ys.toArray ++ Builtin.zeroCells z.cells (grownCap w (len + m) old e - (len + m)):=by simp
   rw [e3] at this
   exact this
  ·simp only [List.length_append,Array.length_toList,size_zeroCells,he.cells,hr.1,hys,← Nat.add_mul]
   congr 1;omega
  ·exact ⟨rfl,rfl,rfl,by simp,fun k hk _=>@heap_alloc_old w.drew _ k (by simpa using hk)⟩
 have j_:=hr
 obtain ⟨hl,rA⟩:=hr
 by_cases hm0:m=0
 ·subst hm0
  have hy0:ys=[]:=List.eq_nil_of_length_eq_zero (by simpa using hys)
  subst hy0
  obtain ⟨b,c,hv,hlc⟩:∃ b c,v=.slice b len c∧len≤c:=by
   rcases rA with ⟨rfl,rfl⟩ | ⟨b,cap,sp,rfl,hnc,_⟩
   ·exact ⟨_,_,rfl,Nat.le_refl _⟩
   ·exact ⟨_,_,rfl,hnc⟩
  refine ⟨v,w,?_,by simpa using j_,Kept.refl _ _,fun b hb=>.inl hb⟩
  subst hv
  have hs0:¬ (f.size=0):=by omega
  have hw0:IntKind.i64.wrap (0:Int)=0:=aY (by omega) (by omega)
  cases b<;>simp [Builtin.append_,run_underlying he.slice,run_underlying h2,sizeOf,typeInfo,hf,asInt,asIntOf,hw0,hlc,storeCells]
 rcases rA with ⟨rfl,rfl⟩ | ⟨b,cap,sp,rfl,hnc,t8,hcap,oQ⟩
 ·have hx0:xs=[]:=List.eq_nil_of_length_eq_zero (by simpa using hl)
  subst hx0
  exact grow 0 (by omega) none (by omega) rfl (fun w' _=>by simp [Builtin.firstCells])
 ·by_cases hroom:len + m≤cap
  ·have hfit:len * f.size + 0 + ys.length≤(xs ++ sp).length:=by rw [hcap,hys,Nat.add_zero,← Nat.add_mul];exact Nat.mul_le_mul_right _ hroom
   have hst:=uX (P:=P) ys (len * f.size) 0 (xs ++ sp) w t8 hfit hy1
   have e1:(xs ++ sp).take (len * f.size + 0) ++ ys ++ (xs ++ sp).drop (len * f.size + 0 + ys.length)=(xs ++ ys) ++ sp.drop ys.length:=by
    simp only [Nat.add_zero,← hl]
    rw [List.take_left,List.drop_append,List.drop_of_length_le (by omega),Nat.add_sub_cancel_left,List.nil_append]
   rw [e1] at hst
   have hs0:¬ (f.size=0):=by omega
   refine ⟨.slice (some ⟨b,0,none⟩) (len + m) cap,_,?_,⟨hL,.inr ⟨b,cap,sp.drop ys.length,rfl,hroom,t8.setRow ?_,?_,oQ⟩⟩,jr b _,fun x hx=>.inl hx⟩
   ·have qe:¬ (m * f.size=0):=by
     intro h
     rcases Nat.mul_eq_zero.1 h with h | h<;>omega
    simp [Builtin.append_,run_underlying he.slice,run_underlying h2,sizeOf,typeInfo,zeroValue,hf,hz,asInt,asIntOf,VH,Vk,hmb,hroom,hm0,hs0,Uj,add_zero,hst]
    exact fun h=>absurd h qe
   ·simp at hfit ⊢;omega
   ·rw [← hcap];simp at hfit ⊢;omega
  ·refine grow cap (by omega) (some ⟨b,0,none⟩) (by omega) rfl (fun w' hw'=>?_)
   have:=HI (P:=P) (w:=w') (Rd.same j_.rd (fun b _ _=>by rw [hw'])) len (Nat.le_refl _)
   rw [this,List.take_of_length_le (by rw [hl];exact Nat.le_refl _)]
theorem grown {β:Type} {k:Option IV->aj->Option β} {r:β} {id E:Nat} {t:Ty} {zs:List t.den} {es:List Value} {h:Hd} {v':Value} {w':World} {x0:fY} (hM:Gm O ρ tb w) (hid:tb[id]? = some x0) (hown:∀ b,aZ h.v b->O b=.th id) (hr:(execOp a.eval o).run P w=.ok (.value v') w') (hk:Kept (aZ h.v) w w')
  (hrow:Row w' E t.size v' zs.length es) (hb:∀ b,aZ v' b->aZ h.v b∨w.heap.size≤b) (hL:LR (TR O t) zs es) (e:k (some (.rw tb.length)) (tb.set id .no ++ [.row E t zs])=some r):bG P a o O ρ w (· = id) k r:=by
 have ez:=hrow.jX
 obtain ⟨q,m,cp,eV⟩:∃ q m cp,v'=.slice q m cp:=by cases v'<;>first | exact ⟨_,_,_,rfl⟩ | cases ez
 have aQ:(ρ ++ [(⟨0,t.sz,v',[]⟩:Hd)])[tb.length]? = some ⟨0,t.sz,v',[]⟩:=by rw [← hM.len];simp
 have hlen:(tb.set id fY.no ++ [fY.row E t zs]).length=tb.length + 1:=by simp
 have hnew:∀ b,eH v' b=true->O b=.th id∨w.heap.size≤b:=fun b hb'=>by
  rcases hb b (kW hb') with h1 | h1
  ·exact .inl (hown b h1)
  ·exact .inr h1
 have hle:O.le (fun b=>bif eH v' b then .th tb.length else O b):=fun b all e=>by
  cases e':eH v' b with
  | true=>
   rcases hnew b e' with h1 | h1
   ·rw [h1] at e;cases e
   ·rw [hM.lt b h1] at e;cases e
  | false=>simp only [e',cond_false];exact e
 obtain ⟨h1,h2⟩:=hM.step (M:=(· = id)) (O':=fun b=>bif eH v' b then .th tb.length else O b) (ρ':=ρ ++ [⟨0,t.sz,v',[]⟩]) (aL:=tb.set id .no ++ [.row E t zs]) (w':=w') (hk.wide fun b hb'=>⟨id,rfl,hown b hb'⟩)
  (fun b hb' hn=>by
   cases e':eH v' b with
   | true=>
    rcases hnew b e' with h1 | h1
    ·exact absurd h1 (hn id rfl)
    ·omega
   | false=>rfl)
  (fun b hb'=>by
   cases e':eH v' b with
   | true=>have:=hrow.blt (kW e');omega
   | false=>exact hM.lt b (Nat.le_trans hk.size hb'))
  (fun b all e=>by
   cases e':eH v' b with
   | true=>simp only [e',cond_true] at e;cases e
   | false=>simp only [e',cond_false] at e;exact .inl e)
  (.app _ _) (by simp [hM.len]) (fun j x hx=>by
   rcases Nat.lt_or_ge j tb.length with hj | hj
   ·rw [List.getElem?_append_left (by simpa using hj),List.getElem?_set] at hx
    split at hx
    ·rename_i e';subst e'
     have:x=.no:=by
      first
       | (rw [if_pos hj] at hx;cases hx;rfl)
       | (cases hx;rfl)
     subst this;exact .inr trivial
    ·rename_i e';exact .inl ⟨hx,fun h=>e' h.symm⟩
   ·have:j=tb.length:=by
     have:=(aM hx).1
     rw [hlen] at this;omega
    subst this
    rw [List.getElem?_append_right (by simp)] at hx
    simp at hx;subst hx
    exact .inr ⟨_,es,aQ,rfl,fun b aB=>by simp [wA eV aB],hL.mono (fun _ _=>TR.mono hle),hrow⟩)
 exact ⟨some (.rw tb.length),.o (.v v'),_,_,_,w',⟨.fS (v:=.rw tb.length) ⟨v',rfl,⟨0,t.sz,v',[]⟩,aQ,rfl,ez⟩,hr⟩,h1,h2,e⟩
theorem ag4 {β:Type} {k:Option IV->aj->Option β} {r:β} (hc:aN P c) (hF:Fr n a l) (hE:ER O ρ il l) (hG:GO c O) (hM:Gm O ρ tb w) {ty aX:Nat} {A B:Operand} (ho:o.op=.call ⟨.builtin .append,#[A,B],#[ty,aX]⟩) (e:Mq c il tb k ty aX A B=some r) {v:IV} (hv:aC c il A=some v):bG P a o O ρ w (· ∈ a_ v) k r:=by
 unfold Mq at e
 split at e<;>first | (cases e;done) | skip
 rename_i el hd
 split at e<;>first | (cases e;done) | skip
 rename_i t ht
 obtain ⟨bytes,z,zc,h3,h4,h5,h6⟩:=hc.elem _ _ _ hd ht
 have eF:∀ q:Nat,q≤1099511627776->q≤maxLen∧q * bytes≤140737488355328:=fun q hq=>by
  refine ⟨by simp only [maxLen];omega,?_⟩
  have:=Nat.mul_le_mul hq h4
  omega
 split at e<;>first | (cases e;done) | skip
 ·rename_i id hA
  rw [hv] at hA;cases hA
  split at e<;>first | (cases e;done) | skip
  rename_i E t' xs hb
  split at e<;>first | (cases e;done) | skip
  rename_i xs' me hcast
  obtain ⟨e1,aH⟩:=gG hcast
  subst e1
  have aH:xs'=xs:=aH
  subst aH
  have me:=ay me
  subst me
  rw [aS] at hb
  obtain ⟨h,es,h7,h8,h9,h10,h11⟩:=hM.th _ _ hb
  obtain ⟨u,hu,⟨h',h12,sb,_⟩,_⟩:=bu hE hG hv rfl (by simp) hF
  cases sb
  rw [h7] at h12;cases h12
  obtain ⟨ys,fs,d2,hk,hL,jB,iP,hlen,mD⟩:=wW hc hF hE hG hM e
  obtain ⟨zs,hz,hk⟩:=bl hk
  obtain ⟨iX,rfl⟩:=uF hz
  have hfl:=LR.length (fun _ _=>TR.length) hL
  obtain ⟨v',w',pN,gM,jh,jt⟩:=LK (P:=P) (w:=w) (m:=ys.length) (ys:=fs) h3 jB iP ho hu h11 hlen hfl (fun w' hw=>by
   have:=mD w' hw ys.length (Nat.le_refl _)
   rw [List.take_of_length_le (by omega)] at this;exact this) (LR.one (fun _ _=>TR.one) hL) (eF _ iX).1 (eF _ iX).2
  have hwk:=grown (zs:=xs' ++ ys) hM hb h9 pN jh (by rw [List.length_append];exact gM) jt (h10.append hL) hk
  obtain ⟨v,x,aL,O',ρ',w2,g1,g2,g3,g4⟩:=hwk
  exact ⟨v,x,aL,O',ρ',w2,g1,g2,g3.bD (fun i e=>by subst e;simp [a_]),g4⟩
 ·rename_i v0 _ hA
  rw [hv] at hA;cases hA
  split at e<;>first | (cases e;done) | skip
  rename_i f8
  have mA:=lS f8
  subst mA
  have hu:=aW hF (b8 hE hG hv).1
  obtain ⟨ys,fs,d2,hk,hL,jB,iP,hlen,mD⟩:=wW hc hF hE hG hM e
  obtain ⟨zs,hz,hk⟩:=bl hk
  obtain ⟨iX,rfl⟩:=uF hz
  have hfl:=LR.length (fun _ _=>TR.length) hL
  simp only [List.length_nil,Nat.zero_add] at iX
  obtain ⟨v',w',pN,gM,jh,jt⟩:=LK (P:=P) (w:=w) (len:=0) (xs:=[]) (m:=ys.length) (ys:=fs) h3 jB iP ho hu ⟨by simp,.inl ⟨rfl,rfl⟩⟩ hlen hfl (fun w' hw=>by
   have:=mD w' hw ys.length (Nat.le_refl _)
   rw [List.take_of_length_le (by omega)] at this;exact this) (LR.one (fun _ _=>TR.one) hL) (by have:=(eF _ iX).1;omega) (by have:=(eF _ iX).2;simpa using this)
  have hwk:=AN (xs:=[] ++ ys) hM pN (jh.wide (fun b hb=>hb.elim)) (by simpa using gM) (fun b hb=>(jt b hb).elim (fun h=>h.elim) (fun h=>h)) (by simpa using hL) hk
  obtain ⟨v,x,aL,O',ρ',w2,g1,g2,g3,g4⟩:=hwk
  exact ⟨v,x,aL,O',ρ',w2,g1,g2,g3.bD (fun i e=>e.elim),g4⟩
def O5 {β:Type} (c:aF) (il:aE) (tb:aj) (k:Option IV->aj->Option β) (ty:Nat) (A B:Operand):Option β:=
 match c.D ty with
 | some (.slice e)=>match c.E e,aC c il B with
  | some t,some (.o (.i m))=>match aC c il A with
   | some (.rw id)=>match nth tb id with
    | some (.row E t' xs)=>match Nat.beq E e,eZ (Ty.bL t' t) xs with
     | true,some xs=>(cX m).bind fun q=>(aD xs (List.replicate q t.zero)).bind fun zs=>k (some (.rw tb.length)) (tb.set id .no ++ [.row e t zs])
     | _,_=>none
    | _=>none
   | some v=>match v.ij with
    | true=>(cX m).bind fun q=>(aD [] (List.replicate q t.zero)).bind fun zs=>k (some (.rw tb.length)) (tb ++ [.row e t zs])
    | false=>none
   | none=>none
  | _,_=>none
 | _=>none
def Rq {β:Type} (c:aF) (il:aE) (tb:aj) (k:Option IV->aj->Option β) (ty aX:Nat) (A B:Operand):Option β:=
 match c.D aX with
 | some (.int .i64)=>O5 c il tb k ty A B
 | _=>Mq c il tb k ty aX A B
theorem agv {β:Type} {k:Option IV->aj->Option β} {r:β} (hc:aN P c) (hF:Fr n a l) (hE:ER O ρ il l) (hG:GO c O) (hM:Gm O ρ tb w) {ty aX:Nat} {A B:Operand} (ho:o.op=.call ⟨.builtin .append,#[A,B],#[ty,aX]⟩) (h2:P.underlying aX=some (.int .i64)) (e:O5 c il tb k ty A B=some r) {v:IV} (hv:aC c il A=some v):bG P a o O ρ w (· ∈ a_ v) k r:=by
 unfold O5 at e
 split at e<;>first | (cases e;done) | skip
 rename_i el hd
 split at e<;>first | (cases e;done) | skip
 rename_i t m ht hB
 obtain ⟨bytes,z,zc,h3,h4,h5,h6⟩:=hc.elem _ _ _ hd ht
 have eF:∀ q:Nat,q≤1099511627776->q≤maxLen∧q * bytes≤140737488355328:=fun q hq=>by
  refine ⟨by simp only [maxLen];omega,?_⟩
  have:=Nat.mul_le_mul hq h4
  omega
 have hBv:=aW hF (b8 hE hG hB).1
 have gX:∀ u ∈ zc,u.oneCell'=true:=TR.one (h6 O)
 have run:∀ {v:Value} {len q:Nat} {xs:List Value},a.eval A=v->Row w el t.size v len xs->m=(q:Int)->len + q≤1099511627776->∃ v' w',(execOp a.eval o).run P w=.ok (.value v') w'∧Row w' el t.size v' (len + q) (xs ++ (List.replicate q zc).flatten)∧Kept (aZ v) w w'∧∀ b,aZ v' b->aZ v b∨w.heap.size≤b:=by
  intro v len q xs hA hr hm hq
  obtain ⟨v',w',g1,g2⟩:=apT (rt:=o.type) (m:=q) h3 h5 h2 hr gX (eF _ hq).1 (eF _ hq).2
  refine ⟨v',w',?_,g2⟩
  have afM:a.eval B=.int .i64 (q:Int):=by rw [hBv,← hm]
  simp [execOp,ho,resolve,invoke,builtin,hA,afM,g1]
 split at e<;>first | (cases e;done) | skip
 ·rename_i id hA
  rw [hv] at hA;cases hA
  split at e<;>first | (cases e;done) | skip
  rename_i E t' xs hb
  split at e<;>first | (cases e;done) | skip
  rename_i xs' me hcast
  obtain ⟨e1,aH⟩:=gG hcast
  subst e1
  have aH:xs'=xs:=aH
  subst aH
  have me:=ay me
  subst me
  rw [aS] at hb
  obtain ⟨h,es,h7,h8,h9,h10,h11⟩:=hM.th _ _ hb
  obtain ⟨u,hu,⟨h',h12,sb,_⟩,_⟩:=bu hE hG hv rfl (by simp) hF
  cases sb
  rw [h7] at h12;cases h12
  obtain ⟨q,hq,e⟩:=bl e
  obtain ⟨zs,hz,hk⟩:=bl e
  obtain ⟨iX,rfl⟩:=uF hz
  simp only [List.length_replicate] at iX
  obtain ⟨v',w',pN,gM,jh,jt⟩:=run hu h11 (by have:=Nx hq;omega) iX
  have hwk:=grown (zs:=xs' ++ List.replicate q t'.zero) hM hb h9 pN jh (by rw [List.length_append,List.length_replicate];exact gM) jt (h10.append (LR.replicate (h6 O) q)) hk
  obtain ⟨v,x,aL,O',ρ',w2,g1,g2,g3,g4⟩:=hwk
  exact ⟨v,x,aL,O',ρ',w2,g1,g2,g3.bD (fun i e=>by subst e;simp [a_]),g4⟩
 ·rename_i v0 _ hA
  rw [hv] at hA;cases hA
  split at e<;>first | (cases e;done) | skip
  rename_i f8
  have mA:=lS f8
  subst mA
  have hu:=aW hF (b8 hE hG hv).1
  obtain ⟨q,hq,e⟩:=bl e
  obtain ⟨zs,hz,hk⟩:=bl e
  obtain ⟨iX,rfl⟩:=uF hz
  simp only [List.length_replicate,List.length_nil,Nat.zero_add] at iX
  obtain ⟨v',w',pN,gM,jh,jt⟩:=run (len:=0) (q:=q) (xs:=[]) hu ⟨by simp,.inl ⟨rfl,rfl⟩⟩ (by have:=Nx hq;omega) (by omega)
  have hwk:=AN (xs:=[] ++ List.replicate q t.zero) hM pN (jh.wide (fun b hb=>hb.elim)) (by simpa using gM) (fun b hb=>(jt b hb).elim (fun h=>h.elim) (fun h=>h)) (by simpa using LR.replicate (h6 O) q) hk
  obtain ⟨v,x,aL,O',ρ',w2,g1,g2,g3,g4⟩:=hwk
  exact ⟨v,x,aL,O',ρ',w2,g1,g2,g3.bD (fun i e=>e.elim),g4⟩
theorem ary {β:Type} {k:Option IV->aj->Option β} {r:β} (hc:aN P c) (hF:Fr n a l) (hE:ER O ρ il l) (hG:GO c O) (hM:Gm O ρ tb w) {ty aX:Nat} {A B:Operand} (ho:o.op=.call ⟨.builtin .append,#[A,B],#[ty,aX]⟩) (e:Rq c il tb k ty aX A B=some r) {v:IV} (hv:aC c il A=some v):bG P a o O ρ w (· ∈ a_ v) k r:=by
 unfold Rq at e
 split at e
 ·rename_i h2
  exact agv hc hF hE hG hM ho (hc.tok.desc _ _ h2) e hv
 ·exact ag4 hc hF hE hG hM ho e hv
def Rv {β:Type} (c:aF) (il:aE) (tb:aj) (k:Option IV->aj->Option β) (src dst:Nat) (x:Operand):Option β:=
 match c.D src,c.D dst,aC c il x with
 | some .string,some (.slice e),some (.o (.s s))=>match c.D e with
  | some (.int .u8)=>(p_ s).bind fun xs=>k (some (.rw tb.length)) (tb ++ [.row e .u8 xs])
  | _=>none
 | _,_,_=>none
theorem asp {β:Type} {k:Option IV->aj->Option β} {r:β} (hc:aN P c) (hF:Fr n a l) (hE:ER O ρ il l) (hG:GO c O) (hM:Gm O ρ tb w) {src dst:Nat} {x:Operand} (ho:o.op=.convert src dst x) (e:Rv c il tb k src dst x=some r):bG P a o O ρ w (fun _=>False) k r:=by
 unfold Rv at e
 split at e<;>first | (cases e;done) | skip
 rename_i el s hs hd hx
 split at e<;>first | (cases e;done) | skip
 rename_i he
 obtain ⟨xs,hz,e⟩:=bl e
 obtain ⟨h1,rfl⟩:=aji hz
 obtain ⟨v,w',h2,h3,h4,h5⟩:=asK (P:=P) (w:=w) hc.tok hF ho (b8 hE hG hx).1 hs hd he (by simp only [maxLen];omega)
 exact AN (t:=.u8) hM h2 h4 h3 h5 (Ua _) e
end
end Go.Tw
namespace Go.Tw
section
variable {P:Program} {c:aF} {n:Nat} {a:Act} {l:Env} {il:aE} {O:Own} {ρ:List Hd} {tb:aj} {w:World} {o:Oper}
def fE (w:World) (b:Nat) (es:List MapEntry):World:={ w with heap:=w.heap.setIfInBounds b (.map es.toArray es.length) }
theorem Pw (w:World) (b:Nat) (es:List MapEntry):Kept (fun b'=>b'=b) w (fE w b es):=
 ⟨rfl,rfl,rfl,by simp [fE],fun b' hb hn=>by simp [fE,Array.getElem?_setIfInBounds,Ne.symm hn]⟩
theorem Ms {w:World} {b:Nat} {es:List MapEntry} {x:Obj} (h:w.heap[b]? = some x):(fE w b es).heap[b]? = some (.map es.toArray es.toArray.size):=by
 have hlt:b < w.heap.size:=(Array.getElem?_eq_some_iff.1 h).1
 simp [fE,hlt]
theorem MG {es:Array MapEntry} {j:Nat} {e:MapEntry} (f:MapEntry->MapEntry) (h:es[j]? = some e):(es.modify j f)=(es.toList.set j (f e)).toArray:=by
 obtain ⟨hj,he⟩:=Array.getElem?_eq_some_iff.1 h
 apply Array.ext_getElem?
 intro i
 simp only [Array.getElem?_modify,List.getElem?_toArray,List.getElem?_set,Array.getElem?_toList,Array.length_toList]
 by_cases hi:j=i
 ·subst hi;simp [hj,he]
 ·simp [hi]
theorem YF (es:Array MapEntry) (e:MapEntry):(es.toList ++ [e]).toArray=es.push e:=by
 apply Array.toList_inj.1;simp
def Rg {β:Type} (c:aF) (il:aE) (tb:aj) (k:Option IV->aj->Option β) (t:Nat) (h:Option Operand):Option β:=
 match c.M t with
 | some (kt,vt)=>match h with
  | none=>k (some (.mp tb.length)) (tb ++ [.mp kt vt []])
  | some x=>match aC c il x with
   | some (.o (.i _))=>k (some (.mp tb.length)) (tb ++ [.mp kt vt []])
   | _=>none
 | none=>none
theorem XH {β:Type} {k:Option IV->aj->Option β} {r:β} {kt vt:Ty} (hM:Gm O ρ tb w) (hr:(execOp a.eval o).run P w=.ok (.value (.map (some w.heap.size))) { w with heap:=w.heap.push (.map #[] 0) })
  (e:k (some (.mp tb.length)) (tb ++ [.mp kt vt []])=some r):bG P a o O ρ w (fun _=>False) k r:=by
 have aQ:(ρ ++ [(⟨w.heap.size,.nil,.bool false,[]⟩:Hd)])[tb.length]? = some ⟨w.heap.size,.nil,.bool false,[]⟩:=by rw [← hM.len];simp
 obtain ⟨h1,h2⟩:=hM.new (h:=⟨w.heap.size,.nil,.bool false,[]⟩) (x:=.mp kt vt []) (Nat.beq w.heap.size) (jZ w (.map #[] 0)) (fun b aB=>by have:=ay aB;subst this;simp)
  ⟨_,#[],aQ,by simp,by simp,rfl⟩
 exact ⟨some (.mp tb.length),.o (.v (.map (some w.heap.size))),_,_,_,_,⟨.fS (v:=.mp tb.length) ⟨_,rfl,_,aQ,rfl⟩,hr⟩,h1,h2,e⟩
theorem aeJ {β:Type} {k:Option IV->aj->Option β} {r:β} (hc:aN P c) (hF:Fr n a l) (hE:ER O ρ il l) (hG:GO c O) (hM:Gm O ρ tb w) {t:Nat} {h:Option Operand} (ho:o.op=.makeMap t h) (e:Rg c il tb k t h=some r):bG P a o O ρ w (fun _=>False) k r:=by
 unfold Rg at e
 split at e<;>first | (cases e;done) | skip
 rename_i kt vt hm
 obtain ⟨kk,ee,z,g1,gK,g4,g5⟩:=hc.maps _ _ _ hm
 split at e
 ·refine XH hM ?_ e
  simp only [execOp,ho]
  simp [Instr.makeMap,newObj,Sem.run]
 ·split at e<;>first | (cases e;done) | skip
  rename_i x _ m hx
  refine XH hM ?_ e
  have hv:=aW hF (b8 hE hG hx).1
  have ha:(asInt (SV.o (S0.i m)).val).run P w=.ok m w:=rfl
  simp only [execOp,ho]
  simp only [Option.map_some,hv]
  have:(Instr.makeMap t (some (SV.o (S0.i m)).val)).run P w=.ok (.map (some w.heap.size)) { w with heap:=w.heap.push (.map #[] 0) }:=by
   unfold Instr.makeMap
   simp only [Sem.run_bind,run_underlying g1,Result.andThen_ok,ha]
   rfl
  simp [this]
def Ji {β:Type} (c:aF) (il:aE) (tb:aj) (k:Option IV->aj->Option β) (t:Nat) (m x y:Operand):Option β:=
 match c.M t,aC c il m,aC c il x,aC c il y with
 | some (kt,vt),some (.mp id),some v,some u=>match t4 v.agg kt.agg,t4 u.agg vt.agg,nth tb id with
  | true,true,some (.mp bU cH l)=>match u9 (Ty.bL bU kt) (Ty.bL cH vt) l,eD kt v,eD vt u with
   | some l,some q,some y=>k none (tb.set id (.mp kt vt (cJ kt l q y)))
   | _,_,_=>none
  | _,_,_=>none
 | _,_,_,_=>none
theorem Bp {t:Ty} {v:IV} {x:t.den} (h:eD t v=some x):∀ ch,v ≠ .tu ch:=fun ch ee=>by
 subst ee;cases t<;>simp [eD,IV.ul,IV.vf,IV.uQ,IV.um,IV.vp,IV.tF,IV.qw,IV.vj,IV.uh,IV.ij] at h
theorem bG.ZF {β:Type} {k:Option IV->aj->Option β} {r:β} {M M':Nat->Prop} (h:∀ i,M i->M' i) (H:bG P a o O ρ w M k r):bG P a o O ρ w M' k r:=by
 obtain ⟨v,x,aL,O',ρ',w2,g1,g2,g3,g4⟩:=H
 exact ⟨v,x,aL,O',ρ',w2,g1,g2,g3.bD h,g4⟩
theorem U1 (hc:aN P c) (hM:Gm O ρ tb w) {t id:Nat} {kt vt:Ty} {l:List (kt.den×vt.den)} {q:kt.den} {yv:vt.den} {m x y:Operand} {h:Hd} (ho:o.op=.mapUpdate t m x y) (hm:c.M t=some (kt,vt)) (hb:tb[id]? = some (.mp kt vt l)) (h1:ρ[id]? = some h) (hu:a.eval m=.map (some h.b)) (hT:VR O kt q (a.eval x)) (hV:VR O vt yv (a.eval y)) :
  ∃ w',(execOp a.eval o).run P w=.ok .skip w'∧Gm O ρ (tb.set id (.mp kt vt (cJ kt l q yv))) w'∧aR (· = id) O ρ w O ρ w':=by
 obtain ⟨h',es,je,h2,h3,h4⟩:=hM.th _ _ hb
 rw [h1] at je;cases je
 obtain ⟨kk,ee,z,g1,gK,g4,g5⟩:=hc.maps _ _ _ hm
 generalize CK:a.eval x=uk at hT
 have hk:=gK.pM O q uk hT
 have hst:=gK.stays O q uk hT
 have hlen:=h4.length
 obtain ⟨es',hrun,PL⟩:∃ es':List MapEntry,(execOp a.eval o).run P w=.ok .skip (fE w h.b es')∧MR O kt vt 0 (cJ kt l q yv) es':=by
  rcases MR.key gK hT h4 with ⟨a1,a2,a3,a4⟩ | ⟨j,e',v',a1,a2,a3,a4,a5,a6,a7,a8,a9⟩
  ·refine ⟨es.toList ++ [⟨uk,a.eval y,es.size⟩],?_,by rw [a4];exact h4.push hT hV _ (by rw [← hlen];simp)⟩
   simp only [execOp,ho,hu,CK]
   have pe:(Instr.mapUpdate t (.map (some h.b)) uk (a.eval y)).run P w=.ok () (fE w h.b (es.toList ++ [⟨uk,a.eval y,es.size⟩])):=by
    have:(fE w h.b (es.toList ++ [⟨uk,a.eval y,es.size⟩]))={ w with heap:=w.heap.setIfInBounds h.b (.map (es.push ⟨uk,a.eval y,es.size⟩) (es.size + 1)) }:=by
     unfold fE;rw [YF];simp
    rw [this]
    simp [Instr.mapUpdate,run_underlying g1,MapKept.run_getObj_map h3,hk,a1,MapKept.run_setObj_map _ h3,Result.andThen]
   simp [pe]
  ·have BL:es[j]? = some e':=by simpa using a2
   refine ⟨es.toList.set j ⟨uk,a.eval y,e'.born⟩,?_,by rw [a9];exact MR.set hT hV h4 _ (by omega)⟩
   simp only [execOp,ho,hu,CK]
   have pe:(Instr.mapUpdate t (.map (some h.b)) uk (a.eval y)).run P w=.ok () (fE w h.b (es.toList.set j ⟨uk,a.eval y,e'.born⟩)):=by
    have:(fE w h.b (es.toList.set j ⟨uk,a.eval y,e'.born⟩))={ w with heap:=w.heap.setIfInBounds h.b (.map (es.modify j fun e=>{ e with key:=uk,val:=a.eval y }) es.size) }:=by
     unfold fE;rw [MG _ BL];simp
    rw [this]
    simp [Instr.mapUpdate,run_underlying g1,MapKept.run_getObj_map h3,hk,a1,MapKept.run_setObj_map _ h3,BL,a3,hst,Result.andThen]
   simp [pe]
 obtain ⟨dX,ei⟩:=hM.set (x':=.mp kt vt (cJ kt l q yv)) (aM hb).1 ((Pw w h.b es').wide (fun b e=>by subst e;exact h2))
  ⟨h,es'.toArray,h1,h2,Ms h3,by simpa using PL⟩
 exact ⟨_,hrun,dX,ei⟩
theorem am5 {β:Type} {k:Option IV->aj->Option β} {r:β} (hc:aN P c) (hF:Fr n a l) (hE:ER O ρ il l) (hG:GO c O) (hM:Gm O ρ tb w) {t:Nat} {m x y:Operand} (ho:o.op=.mapUpdate t m x y) (e:Ji c il tb k t m x y=some r) {v:IV} (hv:aC c il m=some v):bG P a o O ρ w (· ∈ a_ v) k r:=by
 unfold Ji at e
 split at e<;>first | (cases e;done) | skip
 rename_i kt vt id vx vy hm hx kX Cb
 rw [hv] at hx;cases hx
 split at e<;>first | (cases e;done) | skip
 rename_i bU cH l hag N7 hb
 split at e<;>first | (cases e;done) | skip
 rename_i l' q yv hcast hq qL
 obtain ⟨e1,e2,aH⟩:=Ed hcast
 subst e1 e2
 have aH:l'=l:=aH
 subst aH
 rw [aS] at hb
 obtain ⟨u,hu,⟨h,h6,h7⟩,_⟩:=bu hE hG hv rfl (by simp) hF
 cases h7
 obtain ⟨Xz,gu,hk2,Ao,Ds⟩:=nK hF hE hG kX (Bp hq)
 have hT:=VR.of hq (wX hag) hk2 Ao Ds
 obtain ⟨cs,hy1,h_,qV,Df⟩:=nK hF hE hG Cb (Bp qL)
 have hV:=VR.of qL (wX N7) h_ qV Df
 obtain ⟨w',hrun,dX,ei⟩:=U1 hc hM ho hm hb h6 hu hT hV
 exact ⟨none,.t [],_,_,_,_,hrun,dX,ei.bD (fun i e=>by subst e;simp [a_]),e⟩
def zb {β:Type} (c:aF) (il:aE) (tb:aj) (k:Option IV->aj->Option β) (t:Nat) (m x:Operand) (t2:Ty) (xs:List t2.den):Option β:=
 match c.M t,aC c il m,aC c il x with
 | some (kt,vt),some (.mp id),some v=>match t4 v.agg kt.agg,nth tb id,Ty.bL (.sl t2) vt with
  | true,some (.mp bU cH l),some h=>match u9 (Ty.bL bU kt) (Ty.bL cH vt) l,eD kt v with
   | some l,some q=>k none (tb.set id (.mp kt vt (cJ kt l q (iI h.down xs))))
   | _,_=>none
  | _,_,_=>none
 | _,_,_=>none
def KX {β:Type} (c:aF) (il:aE) (tb:aj) (k:Option IV->aj->Option β) (t:Nat) (m x y:Operand):Option β:=
 match aC c il y with
 | some (.rw cK)=>match nth tb cK with
  | some (.row _ t2 xs)=>zb c il (tb.set cK (.fz t2 xs)) k t m x t2 xs
  | some (.fz t2 xs)=>zb c il tb k t m x t2 xs
  | _=>none
 | _=>Ji c il tb k t m x y
theorem afr {β:Type} {k:Option IV->aj->Option β} {r:β} (hc:aN P c) (hF:Fr n a l) (hE:ER O ρ il l) (hG:GO c O) (hM:Gm O ρ tb w) {t:Nat} {m x y:Operand} (ho:o.op=.mapUpdate t m x y) (e:KX c il tb k t m x y=some r) {v:IV} (hv:aC c il m=some v):bG P a o O ρ w (fun i=>i ∈ a_ v∨aC c il y=some (.rw i)) k r:=by
 unfold KX at e
 split at e
 rotate_left
 ·exact (am5 hc hF hE hG hM ho e hv).ZF fun i hi=>.inl hi
 rename_i cK hy
 obtain ⟨u2,jB,⟨g',m1,m2,m3⟩,_⟩:=bu hE hG hy rfl (by simp) hF
 cases m2
 have fin:∀ {O1:Own} {bM:aj} {t2:Ty} {xs:List t2.den},O.le O1->Gm O1 ρ bM w->TR O1 (.sl t2) xs [g'.v]->zb c il bM k t m x t2 xs=some r->bG P a o O1 ρ w (· ∈ a_ v) k r:=by
  intro O1 bM t2 xs hle fD Fj e
  unfold zb at e
  split at e<;>first | (cases e;done) | skip
  rename_i kt vt id vx hm hx kX
  rw [hv] at hx;cases hx
  split at e<;>first | (cases e;done) | skip
  rename_i bU cH l hh hag hb _
  split at e<;>first | (cases e;done) | skip
  rename_i l' q hcast hq
  obtain ⟨e1,e2,aH⟩:=Ed hcast
  subst e1 e2
  have aH:l'=l:=aH
  subst aH
  rw [aS] at hb
  obtain ⟨u,hu,⟨h,h6,h7⟩,_⟩:=bu hE hG hv rfl (by simp) hF
  cases h7
  obtain ⟨Xz,gu,hk2,Ao,Ds⟩:=nK hF hE hG kX (Bp hq)
  have hT:=(VR.of hq (wX hag) hk2 Ao Ds).mono hle
  have hV:VR O1 cH (iI hh.down xs) (a.eval y):=by
   have hg:cH.agg=false:=by rw [← hh.down];rfl
   unfold VR
   rw [hg,jB]
   exact TR.cast hh.down Fj
  obtain ⟨w',hrun,dX,ei⟩:=U1 hc fD ho hm hb h6 hu hT hV
  exact ⟨none,.t [],_,_,_,_,hrun,dX,ei.bD (fun i e=>by subst e;simp [a_]),e⟩
 split at e<;>first | (cases e;done) | skip
 ·rename_i E2 t2 xs dw
  rw [aS] at dw
  obtain ⟨O1,h,h1,g1,g2,hT,_,_⟩:=hM.Eb dw
  rw [m1] at h1;cases h1
  exact bG.pre (g2.bD (fun i hi=>.inr (by subst hi;exact hy))) (fin g2.im g1 hT e) (fun i hi=>.inl hi)
 ·rename_i t2 xs dw
  rw [aS] at dw
  obtain ⟨h,h1,h2,hT⟩:=hM.th _ _ dw
  rw [m1] at h1;cases h1
  exact (fin (fun _ _ h=>h) hM hT e).ZF (fun i hi=>.inl hi)
def Hr {β:Type} (c:aF) (il:aE) (tb:aj) (k:Option IV->aj->Option β) (t:Nat) (m x:Operand):Option β:=
 match c.M t,aC c il m,aC c il x with
 | some (kt,vt),some (.mp id),some v=>match t4 v.agg kt.agg,nth tb id with
  | true,some (.mp bU cH l)=>match u9 (Ty.bL bU kt) (Ty.bL cH vt) l,eD kt v with
   | some l,some q=>k (some (.tu (.pr (dD vt (eM kt l q vt.zero)) (.pr (.o (.i (iH kt l q:Nat))) .un)))) (tb.set id (.mp kt vt (BE kt l q vt.zero)))
   | _,_=>none
  | _,_=>none
 | _,_,_=>none
theorem apy {β:Type} {k:Option IV->aj->Option β} {r:β} (hc:aN P c) (hF:Fr n a l) (hE:ER O ρ il l) (hG:GO c O) (hM:Gm O ρ tb w) {t:Nat} {m x:Operand} (ho:o.op=.mapEntry t m x) (e:Hr c il tb k t m x=some r) {v:IV} (hv:aC c il m=some v):bG P a o O ρ w (· ∈ a_ v) k r:=by
 unfold Hr at e
 split at e<;>first | (cases e;done) | skip
 rename_i kt vt id vx hm hx kX
 rw [hv] at hx;cases hx
 split at e<;>first | (cases e;done) | skip
 rename_i bU cH l hag hb
 split at e<;>first | (cases e;done) | skip
 rename_i l' q hcast hq
 obtain ⟨e1,e2,aH⟩:=Ed hcast
 subst e1 e2
 have aH:l'=l:=aH
 subst aH
 rw [aS] at hb
 obtain ⟨h,es,h1,h2,h3,h4⟩:=hM.th _ _ hb
 obtain ⟨kk,ee,z,g1,gK,g4,g5⟩:=hc.maps _ _ _ hm
 obtain ⟨u,hu,⟨h',h6,h7⟩,_⟩:=bu hE hG hv rfl (by simp) hF
 cases h7
 rw [h1] at h6;cases h6
 obtain ⟨Xz,gu,hk2,Ao,Ds⟩:=nK hF hE hG kX (Bp hq)
 have hT:=VR.of hq (wX hag) hk2 Ao Ds
 generalize CK:a.eval x=uk at hT
 have hk:=gK.pM O q uk hT
 have hst:=gK.stays O q uk hT
 have hlen:=h4.length
 obtain ⟨es',val,hV,hrun,PL⟩:∃ (es':List MapEntry) (val:Value),VR O cH (eM bU l' q cH.zero) val∧(execOp a.eval o).run P w=.ok (.value (.tuple #[val,.int .i64 (iH bU l' q:Nat)])) (fE w h.b es')∧MR O bU cH 0 (BE bU l' q cH.zero) es':=by
  rcases MR.key gK hT h4 with ⟨a1,a2,a3,a4⟩ | ⟨j,e',v',a1,a2,a3,a4,a5,a6,a7,a8,a9⟩
  ·have hz:VR O cH (eM bU l' q cH.zero) z:=by simp only [eM,a2,Option.getD_none];exact g5 O
   refine ⟨es.toList ++ [⟨uk,z,es.size⟩],z,hz,?_,by rw [BE,a4];exact h4.push hT hz _ (by rw [← hlen];simp)⟩
   simp only [execOp,ho,hu,CK]
   have pe:(Instr.mapEntry t (.map (some h.b)) uk).run P w=.ok (.tuple #[z,.int .i64 (iH bU l' q:Nat)]) (fE w h.b (es.toList ++ [⟨uk,z,es.size⟩])):=by
    have:(fE w h.b (es.toList ++ [⟨uk,z,es.size⟩]))={ w with heap:=w.heap.setIfInBounds h.b (.map (es.push ⟨uk,z,es.size⟩) (es.size + 1)) }:=by
     unfold fE;rw [YF];simp
    have lT:es.size=l'.length:=by rw [← hlen];simp
    rw [this]
    simp [Instr.mapEntry,run_underlying g1,MapKept.run_getObj_map h3,hk,a1,MapKept.run_setObj_map _ h3,Result.andThen,g4 w,a3,lT,goInt]
   simp [pe]
  ·have BL:es[j]? = some e':=by simpa using a2
   have hz:VR O cH (eM bU l' q cH.zero) e'.val:=by simp only [eM,a6,Option.getD_some];exact a4
   refine ⟨es.toList.set j ⟨uk,e'.val,e'.born⟩,e'.val,hz,?_,by rw [BE,a9];exact MR.set hT hz h4 _ (by omega)⟩
   simp only [execOp,ho,hu,CK]
   have pe:(Instr.mapEntry t (.map (some h.b)) uk).run P w=.ok (.tuple #[e'.val,.int .i64 (iH bU l' q:Nat)]) (fE w h.b (es.toList.set j ⟨uk,e'.val,e'.born⟩)):=by
    have:(fE w h.b (es.toList.set j ⟨uk,e'.val,e'.born⟩))={ w with heap:=w.heap.setIfInBounds h.b (.map (es.modify j fun e=>{ e with key:=uk }) es.size) }:=by
     unfold fE;rw [MG _ BL];simp
    rw [this]
    simp [Instr.mapEntry,run_underlying g1,MapKept.run_getObj_map h3,hk,a1,MapKept.run_setObj_map _ h3,BL,a3,hst,Result.andThen,a5,a7,goInt]
   simp [pe]
 obtain ⟨dX,ei⟩:=hM.set (x':=.mp bU cH (BE bU l' q cH.zero)) (aM hb).1 ((Pw w h.b es').wide (fun b e=>by subst e;exact h2))
  ⟨h,es'.toArray,h1,h2,Ms h3,by simpa using PL⟩
 obtain ⟨cs,hR,J6⟩:=hV.cells (ρ:=ρ)
 obtain ⟨x0,hx0,hx1⟩:=eB.Wg abg hR
 refine ⟨some (.tu (.pr (dD cH (eM bU l' q cH.zero)) (.pr (.o (.i (iH bU l' q:Nat))) .un))),.t [x0,.i (iH bU l' q:Nat)],_,_,_,_,⟨⟨_,rfl,x0,_,rfl,hx0,.i (iH bU l' q:Nat),[],rfl,⟨rfl,rfl⟩,rfl⟩,?_⟩,dX,ei.bD (fun i e=>by subst e;simp [a_]),e⟩
 rw [hrun]
 have:(SV.t [x0,.i (iH bU l' q:Nat)]).val=.tuple #[val,.int .i64 (iH bU l' q:Nat)]:=by simp [SV.val,S0.val,hx1,J6]
 rw [this]
def LO {β:Type} (c:aF) (il:aE) (tb:aj) (k:Option IV->aj->Option β) (m x y:Operand):Option β:=
 match aC c il m,aC c il x,aC c il y with
 | some (.mp id),some (.o (.i s)),some u=>match nth tb id with
  | some (.mp kt vt l)=>match t4 u.agg vt.agg,eD vt u with
   | true,some y=>(Ux l s y).bind fun l'=>k none (tb.set id (.mp kt vt l'))
   | _,_=>none
  | _=>none
 | _,_,_=>none
theorem find_born {O:Own} {kt vt:Ty}:∀ {q:Nat} {l:List (kt.den×vt.den)} {es:List MapEntry},MR O kt vt q l es->∀ j,j < l.length->es.findIdx? (fun e=>(e.born:Int) == ((q + j:Nat):Int))=some j
 | _,[],_,_,j,hj=>by simp at hj
 | q,(_,_) :: l,_,⟨e,r,h1,h2,h3,h4,h5⟩,j,hj=>by
  subst h1
  rw [List.findIdx?_cons]
  cases j with
  | zero=>simp [h2]
  | succ j=>
   have:=find_born h5 j (by simpa using hj)
   have hne:((e.born:Int) == ((q + (j + 1):Nat):Int))=false:=by
    rw [h2];simp;omega
   have e1:((q + (j + 1):Nat):Int)=((q + 1 + j:Nat):Int):=by omega
   rw [e1] at hne
   rw [e1,hne]
   simp only [cond_false,Bool.false_eq_true,if_false,this,Option.map_some]
theorem ae4 {β:Type} {k:Option IV->aj->Option β} {r:β} (hc:aN P c) (hF:Fr n a l) (hE:ER O ρ il l) (hG:GO c O) (hM:Gm O ρ tb w) {t:Nat} {m x y:Operand} (ho:o.op=.entryStore t m x y) (e:LO c il tb k m x y=some r) {v:IV} (hv:aC c il m=some v):bG P a o O ρ w (· ∈ a_ v) k r:=by
 unfold LO at e
 split at e<;>first | (cases e;done) | skip
 rename_i id s vy hx kX Cb
 rw [hv] at hx;cases hx
 split at e<;>first | (cases e;done) | skip
 rename_i kt vt l hb
 split at e<;>first | (cases e;done) | skip
 rename_i yv N7 qL
 obtain ⟨l',qd,e⟩:=bl e
 rw [aS] at hb
 obtain ⟨h,es,h1,h2,h3,h4⟩:=hM.th _ _ hb
 obtain ⟨u,hu,⟨h',h6,h7⟩,_⟩:=bu hE hG hv rfl (by simp) hF
 cases h7
 rw [h1] at h6;cases h6
 have hs:=aW hF (b8 hE hG kX).1
 obtain ⟨cs,hy1,h_,qV,Df⟩:=nK hF hE hG Cb (Bp qL)
 have hV:=VR.of qL (wX N7) h_ qV Df
 unfold Ux at qd
 cases hs0:decide (0≤s) with
 | false=>rw [hs0] at qd;cases qd
 | true=>
  rw [hs0] at qd
  simp only [cond_true] at qd
  obtain ⟨e0,he0,qd⟩:=bl qd
  simp only [az] at qd
  subst qd
  have hs0:=of_decide_eq_true hs0
  obtain ⟨e',g1,g2,g3,g4⟩:=h4.get he0
  have g1':es[s.toNat]? = some e':=by simpa using g1
  have hlt:s.toNat < l.length:=(aM he0).1
  have hfind:es.findIdx? (fun e=>(e.born:Int) == s)=some s.toNat:=by
   have:=find_born h4 s.toNat hlt
   rw [show ((0 + s.toNat:Nat):Int)=s from by omega] at this
   rw [← this]
   obtain ⟨L⟩:=es
   simp
  have hrun:(execOp a.eval o).run P w=.ok .skip (fE w h.b (es.toList.set s.toNat ⟨e'.key,a.eval y,e'.born⟩)):=by
   simp only [execOp,ho,hu,hs]
   have pe:(Instr.entryStore t (.map (some h.b)) (S0.i s).val (a.eval y)).run P w=.ok () (fE w h.b (es.toList.set s.toNat ⟨e'.key,a.eval y,e'.born⟩)):=by
    have:(fE w h.b (es.toList.set s.toNat ⟨e'.key,a.eval y,e'.born⟩))={ w with heap:=w.heap.setIfInBounds h.b (.map (es.modify s.toNat fun e=>{ e with val:=a.eval y }) es.size) }:=by
     unfold fE;rw [MG _ g1'];simp
    rw [this]
    have ha:(asInt (S0.i s).val).run P w=.ok s w:=rfl
    simp only [Instr.entryStore,Sem.run_bind,MapKept.run_getObj_map h3,Result.andThen_ok,ha,hfind,MapKept.run_setObj_map _ h3]
   simp [pe]
  obtain ⟨dX,ei⟩:=hM.set (x':=.mp kt vt (l.set s.toNat (e0.1,yv))) (aM hb).1 ((Pw w h.b _).wide (fun b e=>by subst e;exact h2))
   ⟨h,(es.toList.set s.toNat ⟨e'.key,a.eval y,e'.born⟩).toArray,h1,h2,Ms h3,by simpa using MR.set g3 hV h4 e'.born (by omega)⟩
  exact ⟨none,.t [],_,_,_,_,hrun,dX,ei.bD (fun i e=>by subst e;simp [a_]),e⟩
end
end Go.Tw
namespace Go.Tw
theorem dB.range (v:Value):∀ (n:Nat) (ks:List Value),dB (ks ++ List.replicate n v) (List.range' ks.length n) (List.replicate n v)
 | 0,ks=>rfl
 | n + 1,ks=>by
  have ih:=dB.range v n (ks ++ [v])
  rw [List.range'_succ,List.replicate_succ]
  refine ⟨v,_,rfl,by simp,?_⟩
  simpa using ih
theorem dB.more {ks:List Value} (m:List Value):∀ {out:List Nat} {es:List Value},dB ks out es->dB (ks ++ m) out es
 | [],es,h=>h
 | o :: r,es,⟨e,l,h1,h2,h3⟩=>⟨e,l,h1,IQ m h2,dB.more m h3⟩
theorem dB.append {ks:List Value}:∀ {out IE:List Nat} {es wg:List Value},dB ks out es->dB ks IE wg->dB ks (out ++ IE) (es ++ wg)
 | [],IE,es,wg,h,k=>by simp only [dB] at h;subst h;simpa using k
 | o :: r,IE,es,wg,⟨e,l,h1,h2,h3⟩,k=>by subst h1;exact ⟨e,l ++ wg,rfl,h2,dB.append h3 k⟩
def ng (n:Nat) (out:List Nat):List Nat:=out.map (n + ·)
theorem dB.shift {ks Tg:List Value}:∀ {out:List Nat} {es:List Value},dB Tg out es->dB (ks ++ Tg) (ng ks.length out) es
 | [],es,h=>h
 | o :: r,es,⟨e,l,h1,h2,h3⟩=>⟨e,l,h1,by show (ks ++ Tg)[ks.length + o]? = some e;rw [List.getElem?_append_right (by omega)];simpa using h2,dB.shift h3⟩
def n9 {α:Type} (rows:List (Option (List α))):List Nat->Option (List (List α))
 | []=>some []
 | q :: r=>match fC rows q,n9 rows r with
  | some x,some l=>some (x :: l)
  | _,_=>none
section
variable {P:Program} {c:aF} {n:Nat} {a:Act} {l:Env} {il:aE} {O:Own} {ρ:List Hd} {tb:aj} {w:World} {o:Oper}
theorem Ke {aJ:Own} {s n:Nat} {es:List Value} {v:Value} (h:Rd w s v n es) (hb:∀ b a ty fz,n ≠ 0->aZ v b->w.heap[b]? = some (.cells a ty fz)->aJ b=.im a.toList):iB aJ n es v:=by
 obtain ⟨hl,h2⟩:=h
 rcases h2 with h2 | ⟨b,off,cap,all,ty,fz,rfl,h0,h3,h4⟩
 ·exact .inl h2
 ·by_cases hn:n=0
  ·subst hn;exact .inl ⟨rfl,_,_,rfl⟩
  ·have h6:=hb b _ _ _ hn rfl h3
   exact .inr ⟨b,off,cap,rfl,h0,_,h6,fun j c hj=>by simpa using h4 j c hj⟩
def iO (O:Own) (M:Nat->Bool) (S:Nat->Bool) (n:Nat):Own:=fun b=>match O b with
 | .th i=>bif M i then .th n else .th i
 | .im l=>.im l
 | .no=>bif S b then .th n else .no
theorem Sv {M S:Nat->Bool} {n:Nat}:O.le (iO O M S n):=fun b all e=>by simp only [iO,e]
theorem Gm.take {M:Nat->Bool} {bM:aj} {x:fY} {h:Hd} (S:Nat->Bool) {w':World} (hM:Gm O ρ tb w) (hl:bM.length=tb.length) (ht:∀ j y,bM[j]? = some y->(tb[j]? = some y∧M j=false)∨y=.no)
  (hk:Kept (fun b=>∃ i,M i=true∧O b=.th i) w w') (hS:∀ b,S b=true->w.heap.size≤b∧b < w'.heap.size) (h':Holds (iO O M S tb.length) (ρ ++ [h]) w' tb.length x) :
  Gm (iO O M S tb.length) (ρ ++ [h]) (bM ++ [x]) w'∧aR (M · = true) O ρ w (iO O M S tb.length) (ρ ++ [h]) w':=by
 refine hM.step (M:=(M · = true)) hk (fun b hb hn=>?_) (fun b hb=>?_) (fun b all e=>?_) (.app _ _) (by simp [hM.len,hl]) (fun j y hy=>?_)
 ·cases e:O b with
  | th i=>
   have:M i=false:=by
    cases hi:M i with
    | false=>rfl
    | true=>exact absurd e (hn i hi)
   simp only [iO,e,this,cond_false]
  | im l=>simp only [iO,e]
  | no=>
   have:S b=false:=by
    cases hs:S b with
    | false=>rfl
    | true=>have:=(hS b hs).1;omega
   simp only [iO,e,this,cond_false]
 ·have e:=hM.lt b (Nat.le_trans hk.size hb)
  have:S b=false:=by
   cases hs:S b with
   | false=>rfl
   | true=>have:=(hS b hs).2;omega
  simp only [iO,e,this,cond_false]
 ·refine .inl ?_
  cases e':O b with
  | th i=>simp only [iO,e'] at e;cases hi:M i<;>(rw [hi] at e;cases e)
  | im l=>simp only [iO,e'] at e;exact e
  | no=>simp only [iO,e'] at e;cases hi:S b<;>(rw [hi] at e;cases e)
 ·rcases Nat.lt_or_ge j bM.length with hj | hj
  ·rw [List.getElem?_append_left hj] at hy
   rcases ht j y hy with ⟨h1,h2⟩ | h1
   ·exact .inl ⟨h1,by simp [h2]⟩
   ·subst h1;exact .inr trivial
  ·have hjl:j=bM.length:=by
    have:=(aM hy).1
    simp at this;omega
   subst hjl
   rw [List.getElem?_append_right (Nat.le_refl _)] at hy
   simp at hy;subst hy
   rw [hl];exact .inr h'
theorem NJ {β:Type} {k:Option IV->aj->Option β} {r:β} {E Ei:Nat} {t:Ty} {n:Nat} {v:Value} {w':World} (hM:Gm O ρ tb w) (hr:(execOp a.eval o).run P w=.ok (.value v) w') (hk:Kept ja w w') (hrow:Row w' E 1 v n (List.replicate n (.slice none 0 0))) (hb:∀ b,aZ v b->w.heap.size≤b)
  (e:k (some (.rw tb.length)) (tb ++ [.rr E Ei t (List.replicate n (some [])) (List.range n)])=some r):bG P a o O ρ w (fun _=>False) k r:=by
 have ez:=hrow.jX
 have aQ:(ρ ++ [(⟨0,.one,v,List.replicate n (.slice none 0 0)⟩:Hd)])[tb.length]? = some ⟨0,.one,v,List.replicate n (.slice none 0 0)⟩:=by rw [← hM.len];simp
 have hks:∀ (q:Nat) (u:Value),(List.replicate n (.slice none 0 0:Value))[q]? = some u->u=.slice none 0 0:=fun q u h=>by
  have:=List.mem_of_getElem? h
  exact (List.mem_replicate.1 this).2
 obtain ⟨h1,h2⟩:=hM.new (h:=⟨0,.one,v,List.replicate n (.slice none 0 0)⟩) (x:=.rr E Ei t (List.replicate n (some [])) (List.range n)) (eH v) hk (fun b aB=>⟨hb b (kW aB),hrow.blt (kW aB)⟩)
  ⟨_,List.replicate n (.slice none 0 0),aQ,rfl,fun b aB=>by
   obtain ⟨q,m,cp,hv⟩:∃ q m cp,v=.slice q m cp:=by cases v<;>first | exact ⟨_,_,_,rfl⟩ | cases ez
   simp [wA hv aB],by rw [List.length_range];exact hrow,by have:=dB.range (.slice none 0 0) n [];rw [List.range_eq_range'];simpa using this,
   ⟨by simp,fun k xs h=>by
    have hkn:k < n:=by have:=(aM h).1;simpa using this
    rw [List.getElem?_replicate,if_pos hkn] at h
    cases h
    exact ⟨.slice none 0 0,[],by rw [List.getElem?_replicate,if_pos hkn],fun b hb=>hb.elim,rfl,⟨by simp,.inl ⟨rfl,rfl⟩⟩⟩,
       fun k xs k' xs' v v' b _ _ hv _ hb _=>by rw [hks _ _ hv] at hb;exact hb.elim,fun k xs v b _ hv hb _=>by rw [hks _ _ hv] at hb;exact hb.elim,fun k v hv=>by rw [hks _ _ hv];rfl⟩⟩
 exact ⟨some (.rw tb.length),.o (.v v),_,_,_,w',⟨.fS (v:=.rw tb.length) ⟨v,rfl,_,aQ,rfl,ez⟩,hr⟩,h1,h2,e⟩
theorem bG.wk {β:Type} {k:Option IV->aj->Option β} {r:β} {M M':Nat->Prop} (h:∀ i,M i->M' i) (H:bG P a o O ρ w M k r):bG P a o O ρ w M' k r:=by
 obtain ⟨v,x,aL,O',ρ',w2,g1,g2,g3,g4⟩:=H
 exact ⟨v,x,aL,O',ρ',w2,g1,g2,g3.bD h,g4⟩
def NI {β:Type} (c:aF) (il:aE) (tb:aj) (k:Option IV->aj->Option β) (ty:Nat) (x y:Operand):Option β:=
 match c.D ty with
 | some (.slice e)=>match c.R e with
  | some p=>match aC c il x,aC c il y with
   | some (.o (.i i)),some (.o (.i j))=>(cw () i j).bind fun z=>k (some (.rw tb.length)) (tb ++ [.rr e p.1 p.2 (List.replicate z.length (some [])) (List.range z.length)])
   | _,_=>none
  | none=>QA c il tb k ty x y
 | _=>none
theorem anD {β:Type} {k:Option IV->aj->Option β} {r:β} (hc:aN P c) (hF:Fr n a l) (hE:ER O ρ il l) (hG:GO c O) (hM:Gm O ρ tb w) {ty:Nat} {x y:Operand} (ho:o.op=.makeSlice ty x y) (e:NI c il tb k ty x y=some r):bG P a o O ρ w (fun _=>False) k r:=by
 unfold NI at e
 split at e<;>first | (cases e;done) | skip
 rename_i el hd
 split at e
 ·rename_i p hp
  split at e<;>first | (cases e;done) | skip
  rename_i i j hx hy
  obtain ⟨out,hout,e⟩:=bl e
  obtain ⟨h0,h1,h2,rfl⟩:=RP hout
  obtain ⟨bytes,h3,h4⟩:=hc.rows _ _ _ hd hp
  have hb':(bytes:Int) * j≤281474976710656:=by
   have:(bytes:Int)≤128:=by omega
   have:(bytes:Int) * j≤128 * j:=Int.mul_le_mul_of_nonneg_right this (by omega)
   omega
  obtain ⟨v,w',h7,h8,h9,h10⟩:=aco (P:=P) (w:=w) (zc:=[.slice none 0 0]) h3 rfl ho (aW hF (b8 hE hG hx).1) (aW hF (b8 hE hG hy).1) h0 h1 (by omega) hb'
  have hfl:(List.replicate i.toNat [(.slice none 0 0:Value)]).flatten=List.replicate i.toNat (.slice none 0 0):=by
   generalize i.toNat=q
   induction q with
   | zero=>rfl
   | succ q ih=>simp only [List.replicate_succ,List.flatten_cons,ih];rfl
  rw [hfl] at h8
  rw [List.length_replicate] at e
  exact NJ hM h7 h9 h8 h10 e
 ·exact aiX hc hF hE hG hM ho e
def PO {β:Type} (tb:aj) (k:Option IV->aj->Option β) (e Ei:Nat) (t:Ty):IV->Option β
 | .o (.v (.slice none 0 0))=>k (some (.rw tb.length)) (tb ++ [.rr e Ei t [some []] [0]])
 | .rw id=>match nth tb id with
  | some (.row E' t' xs)=>match Nat.beq E' Ei,eZ (Ty.bL t' t) xs with
   | true,some xs=>k (some (.rw tb.length)) (tb.set id .no ++ [.rr e Ei t [some xs] [0]])
   | _,_=>none
  | _=>none
 | _=>none
def Q_ {β:Type} (c:aF) (il:aE) (tb:aj) (k:Option IV->aj->Option β) (ty len:Nat) (ps:List (Nat×Operand)):Option β:=
 match c.D ty with
 | some (.slice e)=>match c.R e with
  | some p=>match oR c il ps with
   | some [(i,v)]=>match Nat.beq len 1,Nat.beq i 0 with
    | true,true=>PO tb k e p.1 p.2 v
    | _,_=>none
   | some []=>match Nat.beq len 0 with
    | true=>k (some (.rw tb.length)) (tb ++ [.rr e p.1 p.2 [] []])
    | false=>none
   | _=>none
  | none=>T_ c il tb k ty len ps
 | _=>none
theorem Xe {ty e bytes:Nat} {z u:Value} {ps:Array (Nat×Operand)} {x:Value} (h3:iG P ty e 1 bytes z) (ho:o.op=.buildSlice ty 1 ps) (hps:(ps.map fun (i,x)=>(i,a.eval x)).toList=[(0,x)]) (hx:x.cells = #[u]) :
  (execOp a.eval o).run P w=.ok (.value (.slice (some ⟨w.heap.size,0,none⟩) 1 1)) { w with heap:=w.heap.push (.cells #[u] e) }:=by
 obtain ⟨f,hf,hk,kw,hz⟩:=h3.info
 obtain ⟨zc,lq⟩:∃ zc,z.cells = #[zc]:=by
  have:=h3.cells
  obtain ⟨l,hl⟩:∃ l,z.cells=⟨l⟩:=⟨z.cells.toList,by simp⟩
  rw [hl] at this
  match l,this with
  | [x],_=>exact ⟨x,hl⟩
  | [],h=>simp at h
  | _ :: _ :: _,h=>simp at h
 simp only [execOp,ho]
 have hrow:Array.map (fun x=>z.cells[x % z.cells.size]!) (Array.range 1) = #[zc]:=by
  rw [lq]
  apply Array.ext'
  rw [Array.toList_map]
  apply List.ext_getElem
  ·simp
  ·intro i h1 h2;simp [Nat.mod_one] at *
 have jq:Instr.fill (fun i=>some (i,1)) #[zc] [(0,x)]=some #[u]:=by
  have:=xP (place:=fun i=>some (i,1)) (i:=0) (off:=0) (k:=1) (v:=x) (us:=[u]) (cs:=[zc]) (rest:=[]) (out:=#[u]) rfl (by rw [hx]) rfl (by simp) (by simp [Instr.fill,aI])
  simpa using this
 have hrun:(Instr.buildSlice ty 1 (ps.map fun (i,x)=>(i,a.eval x))).run P w=.ok (.slice (some ⟨w.heap.size,0,none⟩) 1 1) { w with heap:=w.heap.push (.cells #[u] e) }:=by
  unfold Instr.buildSlice
  simp only [hps]
  simp [run_underlying h3.slice,sizeOf,typeInfo,hf,hk,zeroValue,hz,newRow,newObj,pure,Sem.run]
  rw [hrow,jq]
  rfl
 simp [hrun]
theorem akD {ty e s bytes:Nat} {z:Value} {ps:Array (Nat×Operand)} (h3:iG P ty e s bytes z) (ho:o.op=.buildSlice ty 0 ps) (hps:(ps.map fun (i,x)=>(i,a.eval x)).toList=[]) :
  (execOp a.eval o).run P w=.ok (.value (.slice (some ⟨w.heap.size,0,none⟩) 0 0)) { w with heap:=w.heap.push (.cells #[] e) }:=by
 obtain ⟨f,hf,hk,kw,hz⟩:=h3.info
 simp only [execOp,ho]
 have e0:Array.range 0 = #[]:=rfl
 have hrun:(Instr.buildSlice ty 0 (ps.map fun (i,x)=>(i,a.eval x))).run P w=.ok (.slice (some ⟨w.heap.size,0,none⟩) 0 0) { w with heap:=w.heap.push (.cells #[] e) }:=by
  unfold Instr.buildSlice
  simp only [Sem.run_bind,run_underlying h3.slice,Result.andThen_ok,sizeOf,typeInfo,Sem.run,hf,hk,hps,Nat.zero_mul,e0]
  simp [Sem.run,newRow,newObj,pure,hf,hk,e0,Instr.fill]
 simp [hrun]
theorem acN {β:Type} {k:Option IV->aj->Option β} {r:β} (hc:aN P c) (hF:Fr n a l) (hE:ER O ρ il l) (hG:GO c O) (hM:Gm O ρ tb w) {ty len:Nat} {ps:Array (Nat×Operand)} (ho:o.op=.buildSlice ty len ps) (e:Q_ c il tb k ty len ps.toList=some r):bG P a o O ρ w (· ∈ uW c il ps.toList) k r:=by
 unfold Q_ at e
 split at e<;>first | (cases e;done) | skip
 rename_i el hd
 split at e
 ·rename_i p hp
  obtain ⟨bytes,h3,h4⟩:=hc.rows _ _ _ hd hp
  split at e<;>first | (cases e;done) | skip
  rotate_left
  ·rename_i hps
   split at e<;>first | (cases e;done) | skip
   rename_i hlen
   have hlen:=ay hlen
   subst hlen
   have EY:=rM hF hE hG hps
   simp only [gN] at EY
   have hrun:=akD (P:=P) (a:=a) (o:=o) (w:=w) h3 ho (by rw [Array.toList_map];exact EY)
   exact bG.wk (fun _ h=>h.elim) (NJ (n:=0) hM hrun (jZ w _) ⟨rfl,.inr ⟨w.heap.size,0,[],rfl,Nat.le_refl _,by simpa using kr el [],rfl,by simp [maxLen]⟩⟩ (fun b hb=>by cases hb;exact Nat.le_refl _) e)
  rename_i i v hps
  split at e<;>first | (cases e;done) | skip
  rename_i hlen hi
  have hlen:=ay hlen
  have hi:=ay hi
  subst hlen hi
  have tO:uW c il ps.toList=rB [(0,v)]:=by simp [uW,hps]
  rw [tO]
  obtain ⟨x,rest,us,EY,hx,hR,XC⟩:=rM hF hE hG hps
  simp only [gN] at XC
  subst XC
  have U8:(ps.map fun (i,x)=>(i,a.eval x)).toList=[(0,x)]:=by rw [Array.toList_map];exact EY
  obtain ⟨p1,p2⟩:=p
  replace e:PO tb k el p1 p2 v=some r:=e
  unfold PO at e
  split at e<;>first | (cases e;done) | skip
  ·obtain ⟨rfl,_⟩:=hR
   have hrun:=Xe (P:=P) (a:=a) (o:=o) (w:=w) h3 ho U8 hx
   exact bG.wk (fun _ h=>h.elim) (NJ (n:=1) hM hrun (jZ w _) ⟨rfl,.inr ⟨w.heap.size,1,[],rfl,Nat.le_refl _,by simpa using kr el [S0.val (.v (.slice none 0 0))],rfl,by simp [maxLen]⟩⟩ (fun b hb=>by cases hb;exact Nat.le_refl _) e)
  ·rename_i id
   split at e<;>first | (cases e;done) | skip
   rename_i E' t' xs hb
   split at e<;>first | (cases e;done) | skip
   rename_i xs' me hcast
   obtain ⟨e1,aH⟩:=gG hcast
   have me:=ay me
   subst e1 me
   have aH:xs'=xs:=aH
   subst aH
   rw [aS] at hb
   have hid:=(aM hb).1
   obtain ⟨h,es,h7,h8,h9,h10,h11⟩:=hM.th _ _ hb
   obtain ⟨h',h12,rfl,ez⟩:=hR
   rw [h7] at h12;cases h12
   have hrun:=Xe (P:=P) (a:=a) (o:=o) (w:=w) (u:=h.v) h3 ho U8 hx
   have aQ:(ρ ++ [(⟨0,.one,.slice (some ⟨w.heap.size,0,none⟩) 1 1,[h.v]⟩:Hd)])[tb.length]? = some ⟨0,.one,.slice (some ⟨w.heap.size,0,none⟩) 1 1,[h.v]⟩:=by rw [← hM.len];simp
   obtain ⟨g1,g2⟩:=hM.take (M:=fun i=>Nat.beq i id) (bM:=tb.set id .no) (x:=.rr el E' t' [some xs'] [0]) (h:=⟨0,.one,.slice (some ⟨w.heap.size,0,none⟩) 1 1,[h.v]⟩) (Nat.beq w.heap.size) (by simp)
    (fun j y hy=>by
     rw [List.getElem?_set] at hy
     split at hy
     ·rename_i e';subst e'
      exact .inr (by first | (rw [if_pos hid] at hy;cases hy;rfl) | (cases hy;rfl))
     ·rename_i e';exact .inl ⟨hy,by cases hq:Nat.beq j id with
       | false=>rfl
       | true=>exact absurd (ay hq).symm e'⟩)
    ((jZ w (.cells #[h.v] el)).wide (fun b hb=>hb.elim)) (fun b hb=>by have:=ay hb;subst this;simp)
    ⟨_,[h.v],aQ,rfl,fun b hb=>by
      cases hb
      have:=hM.lt w.heap.size (Nat.le_refl _)
      simp [iO,this],⟨rfl,.inr ⟨w.heap.size,1,[],rfl,Nat.le_refl _,by simpa using kr el [h.v],rfl,by simp [maxLen]⟩⟩,⟨h.v,[],rfl,rfl,rfl⟩,
     ⟨rfl,fun k ys hk=>by
      cases k with
      | succ k=>simp at hk
      | zero=>
       simp at hk;subst hk
       refine ⟨h.v,es,rfl,fun b hb=>by simp [iO,h9 b hb],h10.mono (fun _ _=>TR.mono Sv),?_⟩
       refine Rs.same (r:=.row E' t'.size h.v xs'.length es) (fun b hb=>?_) h11
       exact (jZ w (.cells #[h.v] el)).block b (h11.blt hb) (fun h=>h.elim),
           fun k ys k' ys' v v' b hk hk' _ _ _ _=>by
      cases k with
      | succ k=>simp at hk
      | zero=>cases k' with
       | succ k'=>simp at hk'
       | zero=>rfl,
           fun k ys v b hk hv hb dw=>by
      cases k with
      | succ k=>simp at hk
      | zero=>
       simp at hv;subst hv
       have:=h11.blt hb
       have dw:w.heap.size=b:=dw
       omega,
           fun k v hv=>by
      cases k with
      | succ k=>simp at hv
      | zero=>simp at hv;subst hv;exact ez⟩⟩
   exact ⟨some (.rw tb.length),.o (.v (.slice (some ⟨w.heap.size,0,none⟩) 1 1)),_,_,_,_,⟨.fS (v:=.rw tb.length) ⟨_,rfl,_,aQ,rfl,rfl⟩,hrun⟩,g1,g2.bD (fun i hi=>by
    have:=ay hi;subst this;simp [rB,qn]),e⟩
 ·exact am4 hc hF hE hG hM ho e
def OS {β:Type} (c:aF) (tb:aj) (k:Option IV->aj->Option β) (t id j cK:Nat):Option β:=
 match c.Z t with
 | some 1=>match nth tb id,nth tb cK with
  | some (.rr E Ei t' rows out),some (.row E2 t2 xs)=>match Nat.beq E2 Ei,eZ (Ty.bL t2 t') xs with
   | true,some xs=>k none ((tb.set cK .no).set id (.rr E Ei t' (rows ++ [some xs]) (out.set j rows.length)))
   | _,_=>none
  | _,_=>none
 | _=>none
def jY (O:Own) (i j:Nat):Own:=fun b=>match O b with
 | .th q=>bif Nat.beq q i then .th j else .th q
 | .im l=>.im l
 | .no=>.no
theorem Y4 {i j:Nat}:O.le (jY O i j):=fun b all e=>by simp only [jY,e]
theorem afp {β:Type} {k:Option IV->aj->Option β} {r:β} (hc:aN P c) (hF:Fr n a l) (hE:ER O ρ il l) (hG:GO c O) (hM:Gm O ρ tb w) {t:Nat} {x y:Operand} (ho:o.op=.store t x y) {id j cK:Nat} (hx:aC c il x=some (.el id j [])) (hy:aC c il y=some (.rw cK)) (e:OS c tb k t id j cK=some r):bG P a o O ρ w (fun i=>i=id∨i=cK) k r:=by
 unfold OS at e
 split at e<;>first | (cases e;done) | skip
 rename_i hz
 split at e<;>first | (cases e;done) | skip
 rename_i E Ei t' rows out E2 t2 xs0 hb dw
 split at e<;>first | (cases e;done) | skip
 rename_i xs R_ hcast
 obtain ⟨e1,aH⟩:=gG hcast
 subst e1
 have aH:xs=xs0:=aH
 subst aH
 have R_:=ay R_
 subst R_
 rw [aS] at hb dw
 have hne:id ≠ cK:=fun h=>by subst h;rw [hb] at dw;cases dw
 have hid:=(aM hb).1
 have xD:=(aM dw).1
 obtain ⟨h,es,h1,h2,h3,h5,h6,h8⟩:=hM.th _ _ hb
 obtain ⟨g,fs,k1,k2,k3,k4,k5⟩:=hM.th _ _ dw
 obtain ⟨u,hu,⟨h',off,ad,nn,cp,g6,g7,g8,g9,qg⟩,_⟩:=bu hE hG hx rfl (by simp) hF
 cases qg
 rw [h1] at g6;cases g6
 obtain ⟨u2,jB,⟨g',m1,m2,m3⟩,_⟩:=bu hE hG hy rfl (by simp) hF
 cases m2
 rw [k1] at m1;cases m1
 have hoff:off=0:=by
  have:Sz.off h.z []=some 0:=by cases h.z<;>rfl
  rw [this] at g7;cases g7;rfl
 subst hoff
 have mZ:=h5
 obtain ⟨ig,mL⟩:=mZ
 rcases mL with ⟨f8,_⟩ | ⟨b,cap,sp,e8,hnc,dY,hcap,iF⟩
 ·rw [f8] at g8;cases g8
 rw [e8] at g8;cases g8
 have hown:O b=.th id:=h3 b (by rw [e8];rfl)
 have Rl:h.z.size=1:=by rw [h2];rfl
 rw [add_zero _ rfl,Nat.zero_add,Rl,Nat.mul_one,Nat.add_zero] at hu
 have IL:(a.eval y).cells=[g.v].toArray:=by
  rw [jB]
  have:=u6 m3
  cases hg:g.v<;>rw [hg] at m3<;>first | rfl | cases m3
 have hst:=wL hc ho hu IL hz (fun v hv=>by simp at hv;subst hv;exact u6 m3) dY (by simp;omega)
 rw [uj (by simp;omega)] at hst
 have kB:aI es j [g.v]=es.set j g.v:=by
  simp only [aI,List.length_singleton]
  rw [List.set_eq_take_append_cons_drop,if_pos (by omega)];simp
 rw [kB] at hst
 have d8:∀ b',b' ≠ b->(w.setRow b (es.set j g.v ++ sp).toArray).heap[b']? = w.heap[b']?:=fun b' hb'=>by
  have hk:=jr (w:=w) b (es.set j g.v ++ sp).toArray
  rcases Nat.lt_or_ge b' w.heap.size with hlt | hge
  ·exact hk.block b' hlt (fun e=>hb' e.symm)
  ·rw [Array.getElem?_eq_none (by simp [World.setRow];omega),Array.getElem?_eq_none hge]
 have aod:id < ρ.length:=by rw [hM.len];exact hid
 have aQ:(ρ.set id (h.more [g.v]))[id]? = some (h.more [g.v]):=by simp [aod]
 have jV:∀ b',O b'=.th id->jY O cK id b'=.th id:=fun b' hb'=>by
  have:Nat.beq id cK=false:=by cases hq:Nat.beq id cK with
   | false=>rfl
   | true=>exact absurd (ay hq) hne
  simp only [jY,hb',this,cond_false]
 have ahK:∀ b',O b'=.th cK->jY O cK id b'=.th id:=fun b' hb'=>by simp [jY,hb']
 obtain ⟨dX,ei⟩:=hM.step (M:=fun i=>i=id∨i=cK) (O':=jY O cK id) (ρ':=ρ.set id (h.more [g.v])) (aL:=(tb.set cK .no).set id (.rr E E2 t2 (rows ++ [some xs]) (out.set j rows.length))) (w':=w.setRow b (es.set j g.v ++ sp).toArray)
  ((jr b _).wide (fun b' e=>by subst e;exact ⟨id,.inl rfl,hown⟩))
  (fun b' _ hn=>by
   cases e':O b' with
   | th q=>
    have:Nat.beq q cK=false:=by cases hq:Nat.beq q cK with
     | false=>rfl
     | true=>exact absurd (by rw [e',ay hq]) (hn cK (.inr rfl))
    simp only [jY,e',this,cond_false]
   | im l=>simp only [jY,e']
   | no=>simp only [jY,e'])
  (fun b' hb'=>by
   have:O b'=.no:=hM.lt b' (by simpa [World.setRow] using hb')
   simp only [jY,this])
  (fun b' all e'=>.inl (by
   cases e2:O b' with
   | th q=>simp only [jY,e2] at e';cases hq:Nat.beq q cK<;>(rw [hq] at e';cases e')
   | im l=>simp only [jY,e2] at e';exact e'
   | no=>simp only [jY,e2] at e';cases e'))
  ⟨fun i x hi=>by
   by_cases Ks:i=id
   ·subst Ks;rw [h1] at hi;cases hi;exact ⟨_,aQ⟩
   ·exact ⟨[],by rw [x.uM,List.getElem?_set_ne (Ne.symm Ks)];exact hi⟩,
     fun i x hn hi=>by
   rw [List.getElem?_set_ne (fun e=>hn (.inl e.symm))];exact hi⟩
  (by simp [hM.len])
  (fun q x hx=>by
   by_cases hq:q=id
   ·subst hq
    rw [List.getElem?_set_self (by simpa using hid)] at hx
    cases hx
    refine .inr ⟨h.more [g.v],es.set j g.v,aQ,h2,fun b' hb'=>jV b' (h3 b' hb'),⟨by rw [List.length_set,List.length_set];exact ig,.inr ⟨b,_,sp,by rw [List.length_set];exact e8,by rw [List.length_set];exact hnc,dY.setRow (by simp),by rw [← hcap];simp,iF⟩⟩,
     (h6.more [g.v]).set (by rw [← h8.len];simp) g9,⟨by simp [h8.len],fun kk ys hk=>?_,fun kk ys k' ys' v v' b' hk hk' hv eV n1 n2=>?_,fun kk ys v b' hk hv n1 n2=>?_,fun kk v hv=>?_⟩⟩
    ·rcases Nat.lt_or_ge kk rows.length with hlt | hge
     ·rw [List.getElem?_append_left hlt] at hk
      obtain ⟨v2,c2,n1,n2,n3,n4⟩:=h8.row kk ys hk
      exact ⟨v2,c2,IQ _ n1,fun b' hb'=>jV b' (n2 b' hb'),n3.mono (fun _ _=>TR.mono Y4),Rs.same (r:=.row E2 t2.size v2 ys.length c2) (fun b' aB=>d8 b' (fun e=>by subst e;exact h8.out kk ys _ _ hk n1 aB (by rw [e8];rfl))) n4⟩
     ·rw [List.getElem?_append_right hge] at hk
      have DD:kk - rows.length=0:=by
       rcases Nat.eq_zero_or_pos (kk - rows.length) with h0 | h0
       ·exact h0
       ·rw [List.getElem?_eq_none (by simp;omega)] at hk;cases hk
      rw [DD] at hk
      simp at hk;subst hk
      refine ⟨g.v,fs,?_,fun b' hb'=>ahK b' (k3 b' hb'),k4.mono (fun _ _=>TR.mono Y4),Rs.same (r:=.row E2 t2.size g.v xs.length fs) (fun b' aB=>d8 b' (fun e=>by subst e;have:=k3 _ aB;rw [hown] at this;cases this;exact hne rfl)) k5⟩
      show (h.ks ++ [g.v])[kk]? = some g.v
      rw [List.getElem?_append_right (by rw [h8.len];exact hge),h8.len,DD];rfl
    ·
     have at_:∀ (kk:Nat) (ys:List t2.den) (v:Value),(rows ++ [some xs])[kk]? = some (some ys)->(h.ks ++ [g.v])[kk]? = some v->(rows[kk]? = some (some ys)∧h.ks[kk]? = some v)∨(kk=rows.length∧v=g.v):=fun kk ys v hk hv=>by
      rcases Nat.lt_or_ge kk rows.length with hlt | hge
      ·rw [List.getElem?_append_left hlt] at hk
       rw [List.getElem?_append_left (by rw [h8.len];exact hlt)] at hv
       exact .inl ⟨hk,hv⟩
      ·rw [List.getElem?_append_right hge] at hk
       have DD:kk - rows.length=0:=by
        rcases Nat.eq_zero_or_pos (kk - rows.length) with h0 | h0
        ·exact h0
        ·rw [List.getElem?_eq_none (by simp;omega)] at hk;cases hk
       rw [List.getElem?_append_right (by rw [h8.len];exact hge),h8.len,DD] at hv
       simp at hv
       exact .inr ⟨by omega,hv.symm⟩
     rcases at_ _ _ _ hk hv with ⟨p1,p2⟩ | ⟨p1,p2⟩<;>rcases at_ _ _ _ hk' eV with ⟨q1,q2⟩ | ⟨q1,q2⟩
     ·exact h8.apart _ _ _ _ _ _ _ p1 q1 p2 q2 n1 n2
     ·exfalso
      subst q2
      obtain ⟨v2,c2,r1,r2,_⟩:=h8.row _ _ p1
      rw [p2] at r1;cases r1
      have:=r2 _ n1
      rw [k3 _ n2] at this;cases this;exact hne rfl
     ·exfalso
      subst p2
      obtain ⟨v2,c2,r1,r2,_⟩:=h8.row _ _ q1
      rw [q2] at r1;cases r1
      have:=r2 _ n2
      rw [k3 _ n1] at this;cases this;exact hne rfl
     ·omega
    ·rcases Nat.lt_or_ge kk rows.length with hlt | hge
     ·rw [List.getElem?_append_left hlt] at hk
      have hv:(h.ks ++ [g.v])[kk]? = some v:=hv
      rw [List.getElem?_append_left (by rw [h8.len];exact hlt)] at hv
      exact h8.out kk ys v b' hk hv n1 n2
     ·have hv:(h.ks ++ [g.v])[kk]? = some v:=hv
      rw [List.getElem?_append_right (by rw [h8.len];exact hge)] at hv
      have hvg:v=g.v:=by
       rcases Nat.eq_zero_or_pos (kk - h.ks.length) with h0 | h0
       ·rw [h0] at hv;simp at hv;exact hv.symm
       ·rw [List.getElem?_eq_none (by simp;omega)] at hv;cases hv
      subst hvg
      have e1:=k3 _ n1
      have e2:=h3 _ n2
      rw [e1] at e2;cases e2;exact hne rfl
    ·have hv:(h.ks ++ [g.v])[kk]? = some v:=hv
     rcases Nat.lt_or_ge kk h.ks.length with hlt | hge
     ·rw [List.getElem?_append_left hlt] at hv;exact h8.sl kk v hv
     ·rw [List.getElem?_append_right hge] at hv
      rcases Nat.eq_zero_or_pos (kk - h.ks.length) with h0 | h0
      ·rw [h0] at hv;simp at hv;subst hv;exact m3
      ·rw [List.getElem?_eq_none (by simp;omega)] at hv;cases hv
   ·rw [List.getElem?_set_ne (Ne.symm hq)] at hx
    by_cases xj:q=cK
    ·subst xj
     rw [List.getElem?_set_self xD] at hx
     cases hx;exact .inr trivial
    ·rw [List.getElem?_set_ne (Ne.symm xj)] at hx
     exact .inl ⟨hx,fun h=>h.elim hq xj⟩)
 exact ⟨none,.t [],_,_,_,_,hst,dX,ei,e⟩
structure nk (O:Own) (w:World) (M:Nat->Bool) (E Ei:Nat) (t:Ty) (v:Value) (ks:List Value) (rows:List (Option (List t.den))) (out:List Nat) (es:List Value):Prop where
 ob:∀ b,aZ v b->∃ i,O b=.th i∧M i=true
 GZ:Row w E 1 v out.length es
 GN:dB ks out es
 len:ks.length=rows.length
 row:∀ (k:Nat) (xs:List t.den),rows[k]? = some (some xs)->∃ u cs,ks[k]? = some u∧(∀ b,aZ u b->∃ i,O b=.th i∧M i=true)∧LR (TR O t) xs cs∧Row w Ei t.size u xs.length cs
 apart:∀ (k:Nat) (xs:List t.den) (k':Nat) (xs':List t.den) (u u':Value) (b:Nat),rows[k]? = some (some xs)->rows[k']? = some (some xs')->ks[k]? = some u->ks[k']? = some u'->aZ u b->aZ u' b->k=k'
 out:∀ (k:Nat) (xs:List t.den) (u:Value) (b:Nat),rows[k]? = some (some xs)->ks[k]? = some u->aZ u b->¬ aZ v b
 sl:∀ (k:Nat) (u:Value),ks[k]? = some u->jX u=true
theorem nk.of {id E Ei:Nat} {t:Ty} {rows:List (Option (List t.den))} {out:List Nat} (h:Holds O ρ w id (.rr E Ei t rows out)):∃ g es,ρ[id]? = some g∧nk O w (fun i=>Nat.beq i id) E Ei t g.v g.ks rows out es:=by
 obtain ⟨g,es,h1,h2,h3,h4,h5,h6⟩:=h
 exact ⟨g,es,h1,fun b hb=>⟨id,h3 b hb,by simp⟩,h4,h5,h6.len,fun k xs hk=>by
  obtain ⟨u,cs,k1,k2,k3,k4⟩:=h6.row k xs hk
  exact ⟨u,cs,k1,fun b hb=>⟨id,k2 b hb,by simp⟩,k3,k4⟩,h6.apart,h6.out,h6.sl⟩
theorem nk.nil (O:Own) (w:World) (E Ei:Nat) (t:Ty):nk O w (fun _=>false) E Ei t (.slice none 0 0) [] [] [] []:=
 ⟨fun b hb=>hb.elim,⟨rfl,.inl ⟨rfl,rfl⟩⟩,rfl,rfl,fun k xs h=>by simp at h,fun k xs k' xs' u u' b h=>by simp at h,fun k xs u b h=>by simp at h,fun k u h=>by simp at h⟩
theorem YI {β:Type} {k:Option IV->aj->Option β} {r:β} {MA MB:Nat->Bool} {E Ei:Nat} {t:Ty} {vA vB:Value} {k9 kJ:List Value} {gD jH:List (Option (List t.den))} {sD jk:List Nat} {Ja qD:List Value} {bM:aj} {v':Value} {w':World} (hM:Gm O ρ tb w)
  (hA:nk O w MA E Ei t vA k9 gD sD Ja) (hB:nk O w MB E Ei t vB kJ jH jk qD) (hd:∀ i,MA i=true->MB i=true->False) (hl:bM.length=tb.length) (ht:∀ j y,bM[j]? = some y->(tb[j]? = some y∧(MA j || MB j)=false)∨y=.no)
  (hr:(execOp a.eval o).run P w=.ok (.value v') w') (hrow:Row w' E 1 v' (sD.length + jk.length) (Ja ++ qD)) (hk:Kept (aZ vA) w w') (hb:∀ b,aZ v' b->aZ vA b∨w.heap.size≤b)
  (e:k (some (.rw tb.length)) (bM ++ [.rr E Ei t (gD ++ jH) (sD ++ ng gD.length jk)])=some r):bG P a o O ρ w (fun i=>(MA i || MB i)=true) k r:=by
 have ez:=hrow.jX
 obtain ⟨vb,vm,vc,eV⟩:∃ q m cp,v'=.slice q m cp:=by cases v'<;>first | exact ⟨_,_,_,rfl⟩ | cases ez
 have aQ:(ρ ++ [(⟨0,.one,v',k9 ++ kJ⟩:Hd)])[tb.length]? = some ⟨0,.one,v',k9 ++ kJ⟩:=by rw [← hM.len];simp
 have MY:∀ b i,O b=.th i->(MA i || MB i)=true->iO O (fun i=>MA i || MB i) (fun b=>eH v' b && Nat.ble w.heap.size b) tb.length b=.th tb.length:=fun b i h1 h2=>by simp only [iO,h1,h2,cond_true]
 have Km:∀ b i,O b=.th i->b < w.heap.size:=fun b i h=>by
  rcases Nat.lt_or_ge b w.heap.size with h' | h'
  ·exact h'
  ·rw [hM.lt b h'] at h;cases h
 have UP:(k9 ++ kJ).length=(gD ++ jH).length:=by simp [hA.len,hB.len]
 have at_:∀ (kk:Nat) (ys:List t.den) (u:Value),(gD ++ jH)[kk]? = some (some ys)->(k9 ++ kJ)[kk]? = some u->(gD[kk]? = some (some ys)∧k9[kk]? = some u)∨(gD.length≤kk∧jH[kk - gD.length]? = some (some ys)∧kJ[kk - gD.length]? = some u):=fun kk ys u h1 h2=>by
  rcases Nat.lt_or_ge kk gD.length with hlt | hge
  ·rw [List.getElem?_append_left hlt] at h1
   rw [List.getElem?_append_left (by rw [hA.len];exact hlt)] at h2
   exact .inl ⟨h1,h2⟩
  ·rw [List.getElem?_append_right hge] at h1
   rw [List.getElem?_append_right (by rw [hA.len];exact hge),hA.len] at h2
   exact .inr ⟨hge,h1,h2⟩
 have stay:∀ {u:Value} {m:Nat} {cs:List Value},Row w Ei t.size u m cs->(∀ b,aZ u b->¬ aZ vA b)->Row w' Ei t.size u m cs:=fun {u m cs} h1 h2=>Rs.same (r:=.row Ei t.size u m cs) (fun b aB=>hk.block b (h1.blt aB) (h2 b aB)) h1
 have Nk:∀ {u:Value} {kk:Nat} {ys:List t.den},gD[kk]? = some (some ys)->k9[kk]? = some u->(∀ b,aZ u b->∃ i,O b=.th i∧MA i=true):=fun {u kk ys} h1 h2=>by
  obtain ⟨u',cs,g1,g2,_⟩:=hA.row kk ys h1
  rw [h2] at g1;cases g1;exact g2
 have RO:∀ {u:Value} {kk:Nat} {ys:List t.den},jH[kk]? = some (some ys)->kJ[kk]? = some u->(∀ b,aZ u b->∃ i,O b=.th i∧MB i=true):=fun {u kk ys} h1 h2=>by
  obtain ⟨u',cs,g1,g2,_⟩:=hB.row kk ys h1
  rw [h2] at g1;cases g1;exact g2
 have KL:∀ {b:Nat},(∃ i,O b=.th i∧MA i=true)->(∃ i,O b=.th i∧MB i=true)->False:=fun ⟨i,h1,h2⟩ ⟨j,h3,h4⟩=>by
  rw [h1] at h3;cases h3;exact hd i h2 h4
 obtain ⟨g1,g2⟩:=hM.take (M:=fun i=>MA i || MB i) (bM:=bM) (x:=.rr E Ei t (gD ++ jH) (sD ++ ng gD.length jk)) (h:=⟨0,.one,v',k9 ++ kJ⟩) (fun b=>eH v' b && Nat.ble w.heap.size b) hl ht
  (hk.wide fun b aB=>by obtain ⟨i,h1,h2⟩:=hA.ob b aB;exact ⟨i,by simp [h2],h1⟩)
  (fun b aB=>by
   simp only [Bool.and_eq_true] at aB
   exact ⟨by simpa using aB.2,hrow.blt (kW aB.1)⟩)
  ⟨_,Ja ++ qD,aQ,rfl,fun b aB=>by
    rcases hb b aB with h1 | h1
    ·obtain ⟨i,h2,h3⟩:=hA.ob b h1
     exact MY b i h2 (by simp [h3])
    ·have:O b=.no:=hM.lt b h1
     have h2:Nat.ble w.heap.size b=true:=by simpa using h1
     simp [iO,this,wA eV aB,h2],
   by simpa [ng] using hrow,(hA.GN.more kJ).append (by rw [← hA.len];exact hB.GN.shift),
   ⟨UP,fun kk ys hkk=>by
    have Su:kk < (k9 ++ kJ).length:=by rw [UP];exact (aM hkk).1
    obtain ⟨u,hu⟩:∃ u,(k9 ++ kJ)[kk]? = some u:=⟨_,List.getElem?_eq_getElem Su⟩
    rcases at_ kk ys u hkk hu with ⟨h1,h2⟩ | ⟨h0,h1,h2⟩
    ·obtain ⟨u',cs,k1,k2,k3,k4⟩:=hA.row kk ys h1
     rw [h2] at k1;cases k1
     exact ⟨u,cs,hu,fun b aB=>by obtain ⟨i,h3,h4⟩:=k2 b aB;exact MY b i h3 (by simp [h4]),k3.mono (fun _ _=>TR.mono Sv),stay k4 (fun b aB=>hA.out kk ys u b h1 h2 aB)⟩
    ·obtain ⟨u',cs,k1,k2,k3,k4⟩:=hB.row _ ys h1
     rw [h2] at k1;cases k1
     exact ⟨u,cs,hu,fun b aB=>by obtain ⟨i,h3,h4⟩:=k2 b aB;exact MY b i h3 (by simp [h4]),k3.mono (fun _ _=>TR.mono Sv),stay k4 (fun b aB hbA=>KL (hA.ob b hbA) (k2 b aB))⟩,
       fun kk ys k' ys' u u' b gu hk2 hu qi n1 n2=>by
    rcases at_ _ _ _ gu hu with ⟨p1,p2⟩ | ⟨p0,p1,p2⟩<;>rcases at_ _ _ _ hk2 qi with ⟨q1,q2⟩ | ⟨q0,q1,q2⟩
    ·exact hA.apart _ _ _ _ _ _ _ p1 q1 p2 q2 n1 n2
    ·exact (KL (Nk p1 p2 b n1) (RO q1 q2 b n2)).elim
    ·exact (KL (Nk q1 q2 b n2) (RO p1 p2 b n1)).elim
    ·have:=hB.apart _ _ _ _ _ _ _ p1 q1 p2 q2 n1 n2;omega,
       fun kk ys u b gu hu n1 n2=>by
    rcases at_ _ _ _ gu hu with ⟨p1,p2⟩ | ⟨p0,p1,p2⟩
    ·obtain ⟨i,m1,m2⟩:=Nk p1 p2 b n1
     rcases hb b n2 with h1 | h1
     ·exact hA.out kk ys u b p1 p2 n1 h1
     ·have:=Km b i m1;omega
    ·obtain ⟨i,m1,m2⟩:=RO p1 p2 b n1
     rcases hb b n2 with h1 | h1
     ·exact KL (hA.ob b h1) ⟨i,m1,m2⟩
     ·have:=Km b i m1;omega,
       fun kk u hu=>by
    have hu:(k9 ++ kJ)[kk]? = some u:=hu
    rcases Nat.lt_or_ge kk k9.length with hlt | hge
    ·rw [List.getElem?_append_left hlt] at hu;exact hA.sl _ _ hu
    ·rw [List.getElem?_append_right hge] at hu;exact hB.sl _ _ hu⟩⟩
 exact ⟨some (.rw tb.length),.o (.v v'),_,_,_,w',⟨.fS (v:=.rw tb.length) ⟨v',rfl,_,aQ,rfl,ez⟩,hr⟩,g1,g2,e⟩
def NX {β:Type} (c:aF) (il:aE) (tb:aj) (k:Option IV->aj->Option β) (ty aX:Nat) (A B:Operand) (e Ei:Nat) (t:Ty):Option β:=
 match c.D aX,aC c il B with
 | some (.slice _),some (.rw zw)=>match nth tb zw with
  | some (.rr EB Gu tB jH jk)=>match Nat.beq EB e,Nat.beq Gu Ei,sB (Ty.bL tB t) jH with
   | true,true,some jH=>match aC c il A with
    | some (.rw HW)=>match nth tb HW with
     | some (.rr EA EiA tA gD sD)=>match Nat.beq EA e,Nat.beq EiA Ei,sB (Ty.bL tA t) gD with
      | true,true,some gD=>match Nat.beq HW zw with
       | false=>(aD sD (ng gD.length jk)).bind fun out=>k (some (.rw tb.length)) ((tb.set HW .no).set zw .no ++ [.rr e Ei t (gD ++ jH) out])
       | true=>none
      | _,_,_=>none
     | _=>none
    | some v=>match v.ij with
     | true=>(aD [] (ng 0 jk)).bind fun out=>k (some (.rw tb.length)) (tb.set zw .no ++ [.rr e Ei t ([] ++ jH) out])
     | false=>none
    | none=>none
   | _,_,_=>none
  | _=>none
 | _,_=>none
def xI (c:aF) (il:aE) (A B:Operand):List Nat:=
 (match aC c il A with
 | some v=>a_ v
 | none=>[]) ++ (match aC c il B with
 | some v=>a_ v
 | none=>[])
theorem PN {id:Nat} {j:Nat} {y:fY} (h:(tb.set id .no)[j]? = some y):(tb[j]? = some y∧Nat.beq j id=false)∨y=.no:=by
 rw [List.getElem?_set] at h
 split at h
 ·rename_i e';subst e'
  split at h
  ·cases h;exact .inr rfl
  ·cases h
 ·rename_i e'
  exact .inl ⟨h,by cases hq:Nat.beq j id with
   | false=>rfl
   | true=>exact absurd (ay hq).symm e'⟩
theorem ad2 {β:Type} {k:Option IV->aj->Option β} {r:β} (hc:aN P c) (hF:Fr n a l) (hE:ER O ρ il l) (hG:GO c O) (hM:Gm O ρ tb w) {ty aX e Ei:Nat} {t:Ty} {A B:Operand} (ho:o.op=.call ⟨.builtin .append,#[A,B],#[ty,aX]⟩) (hd:c.D ty=some (.slice e)) (hp:c.R e=some (Ei,t)) (e':NX c il tb k ty aX A B e Ei t=some r):bG P a o O ρ w (· ∈ xI c il A B) k r:=by
 obtain ⟨bytes,h3,h4⟩:=hc.rows _ _ _ hd hp
 have eF:∀ q:Nat,q≤1099511627776->q≤maxLen∧q * bytes≤140737488355328:=fun q hq=>by
  refine ⟨by simp only [maxLen];omega,?_⟩
  have:=Nat.mul_le_mul hq h4
  omega
 unfold NX at e'
 split at e'<;>first | (cases e';done) | skip
 rename_i el2 zw iP hB
 split at e'<;>first | (cases e';done) | skip
 rename_i EB Gu tB alZ jk hb
 split at e'<;>first | (cases e';done) | skip
 rename_i jH q1 q2 q3
 obtain ⟨e1,aH⟩:=xO q3
 subst e1
 have aH:jH=alZ:=aH
 subst aH
 have q1:=ay q1
 have q2:=ay q2
 subst q1 q2
 rw [aS] at hb
 have atL:=(aM hb).1
 obtain ⟨gB,qD,r1,td⟩:=nk.of (hM.th _ _ hb)
 obtain ⟨uB,Wx,⟨gB',m1,m2,m3⟩,_⟩:=bu hE hG hB rfl (by simp) hF
 cases m2
 rw [r1] at m1;cases m1
 have hlB:qD.length=jk.length:=td.GN.len
 have h1B:∀ u ∈ qD,u.oneCell'=true:=fun u hu=>by
  have key:∀ {out:List Nat} {es:List Value},dB gB.ks out es->∀ u ∈ es,u.oneCell'=true:=by
   intro out
   induction out with
   | nil=>intro es h u hu;simp only [dB] at h;subst h;simp at hu
   | cons q out ih=>
    rintro es ⟨x,l,rfl,h1,h2⟩ u hu
    rcases List.mem_cons.1 hu with hu | hu
    ·subst hu;exact u6 (td.sl _ _ h1)
    ·exact ih h2 u hu
  exact key td.GN u hu
 have run:∀ {v:Value} {len:Nat} {xs:List Value},a.eval A=v->Row w EB 1 v len xs->len + jk.length≤1099511627776->∃ v' w',(execOp a.eval o).run P w=.ok (.value v') w'∧Row w' EB 1 v' (len + jk.length) (xs ++ qD)∧Kept (aZ v) w w'∧∀ b,aZ v' b->aZ v b∨w.heap.size≤b:=by
  intro v len xs hA hrw hq
  refine LK (P:=P) (w:=w) (m:=jk.length) (ys:=qD) h3 (hc.tok.desc _ _ iP) (fun q h=>by cases h) ho hA hrw (fun w'=>by rw [Wx];exact Xv td.GZ.rd w') (by rw [hlB,Nat.mul_one]) (fun w' hw=>by
   rw [Wx]
   have:=HI (P:=P) (w:=w') (Rd.same td.GZ.rd (fun b _ _=>by rw [hw])) jk.length (Nat.le_refl _)
   rw [List.take_of_length_le (by omega)] at this;exact this) h1B (eF _ hq).1 (eF _ hq).2
 split at e'<;>first | (cases e';done) | skip
 ·rename_i HW hA
  split at e'<;>first | (cases e';done) | skip
  rename_i EA EiA tA arX sD dw
  split at e'<;>first | (cases e';done) | skip
  rename_i gD q1 q2 q3
  obtain ⟨e1,aH⟩:=xO q3
  subst e1
  have aH:gD=arX:=aH
  subst aH
  have q1:=ay q1
  have q2:=ay q2
  subst q1 q2
  split at e'<;>first | (cases e';done) | skip
  rename_i hne
  obtain ⟨out,RK,e'⟩:=bl e'
  obtain ⟨mb,rfl⟩:=uF RK
  have mb:sD.length + jk.length≤1099511627776:=by simpa [ng] using mb
  rw [aS] at dw
  obtain ⟨gA,Ja,s1,W_⟩:=nk.of (hM.th _ _ dw)
  obtain ⟨uA,huA,⟨gA',n1,n2,n3⟩,_⟩:=bu hE hG hA rfl (by simp) hF
  cases n2
  rw [s1] at n1;cases n1
  obtain ⟨v',w',x1,x2,x3,x4⟩:=run huA W_.GZ mb
  have:=YI hM W_ td (fun i h1 h2=>by
   have h1:=ay h1
   have h2:=ay h2
   subst h1;subst h2;simp at hne) (by simp) (fun j y hy=>by
   rcases PN hy with ⟨h1,h2⟩ | h1
   ·rcases PN h1 with ⟨h3,h4⟩ | h3
    ·exact .inl ⟨h3,by simp only [h2,h4,Bool.or_self]⟩
    ·exact .inr h3
   ·exact .inr h1) x1 x2 x3 x4 e'
  exact this.wk fun i hi=>by
   simp only [Bool.or_eq_true] at hi
   simp only [xI,hA,hB,a_,List.mem_append,List.mem_singleton]
   exact hi.imp ay ay
 ·rename_i v0 _ hA
  split at e'<;>first | (cases e';done) | skip
  rename_i f8
  have mA:=lS f8
  subst mA
  have hu:=aW hF (b8 hE hG hA).1
  obtain ⟨out,RK,e'⟩:=bl e'
  obtain ⟨mb,rfl⟩:=uF RK
  have mb:0 + jk.length≤1099511627776:=by simpa [ng] using mb
  obtain ⟨v',w',x1,x2,x3,x4⟩:=run hu (nk.nil O w EB Gu tB).GZ mb
  have:=YI hM (nk.nil O w EB Gu tB) td (fun i h1 h2=>by cases h1) (by simp) (fun j y hy=>by
   rcases PN hy with ⟨h1,h2⟩ | h1
   ·exact .inl ⟨h1,by simpa using h2⟩
   ·exact .inr h1) x1 x2 x3 x4 e'
  exact this.wk fun i hi=>by
   simp only [Bool.false_or] at hi
   simp only [xI,hA,hB,a_,List.mem_append,List.mem_singleton]
   exact .inr (ay hi)
def NK {β:Type} (c:aF) (il:aE) (tb:aj) (k:Option IV->aj->Option β) (ty aX id q:Nat) (B:Operand):Option β:=
 match c.D ty with
 | some (.slice e)=>match c.E e with
  | some t=>match nth tb id with
   | some (.rr E Ei t' rows out)=>match Nat.beq Ei e,sB (Ty.bL t' t) rows with
    | true,some rows=>(fC rows q).bind fun xs=>og c il tb t aX B fun ys=>(aD xs ys).bind fun zs=>k (some (.rw tb.length)) (tb.set id (.rr E Ei t (rows.set q none) out) ++ [.row e t zs])
    | _,_=>none
   | _=>none
  | none=>none
 | _=>none
theorem aij {β:Type} {k:Option IV->aj->Option β} {r:β} (hc:aN P c) (hF:Fr n a l) (hE:ER O ρ il l) (hG:GO c O) (hM:Gm O ρ tb w) {ty aX id q:Nat} {A B:Operand} (ho:o.op=.call ⟨.builtin .append,#[A,B],#[ty,aX]⟩) (hA:aC c il A=some (.rx id q)) (e:NK c il tb k ty aX id q B=some r):bG P a o O ρ w (· = id) k r:=by
 unfold NK at e
 split at e<;>first | (cases e;done) | skip
 rename_i el hd
 split at e<;>first | (cases e;done) | skip
 rename_i t ht
 obtain ⟨bytes,z,zc,h3',h4',mZ,h6'⟩:=hc.elem _ _ _ hd ht
 have eF:∀ q:Nat,q≤1099511627776->q≤maxLen∧q * bytes≤140737488355328:=fun q hq=>by
  refine ⟨by simp only [maxLen];omega,?_⟩
  have:=Nat.mul_le_mul hq h4'
  omega
 split at e<;>first | (cases e;done) | skip
 rename_i E Ei t' agO out hb
 split at e<;>first | (cases e;done) | skip
 rename_i rows q1 q2
 obtain ⟨e1,aH⟩:=xO q2
 subst e1
 have aH:rows=agO:=aH
 subst aH
 have q1:=ay q1
 subst q1
 rw [aS] at hb
 have hid:=(aM hb).1
 obtain ⟨xs,hxs,e⟩:=bl e
 have hxs:=pX hxs
 obtain ⟨h,es,h1,h2,h3,h5,h6,h8⟩:=hM.th _ _ hb
 obtain ⟨u,hu,⟨h',v,m1,m2,m3,m4⟩,_⟩:=bu hE hG hA rfl (by simp) hF
 cases m3
 rw [h1] at m1;cases m1
 obtain ⟨v2,cs,n1,n2,n3,n4⟩:=h8.row q xs hxs
 rw [m2] at n1;cases n1
 obtain ⟨ys,fs,d2,hk,hL,jB,iP,hlen,mD⟩:=wW hc hF hE hG hM e
 obtain ⟨zs,hz,hk⟩:=bl hk
 obtain ⟨iX,rfl⟩:=uF hz
 have hfl:=LR.length (fun _ _=>TR.length) hL
 obtain ⟨v',w',pN,gM,jh,jt⟩:=LK (P:=P) (w:=w) (m:=ys.length) (ys:=fs) h3' jB iP ho hu n4 hlen hfl (fun w' hw=>by
  have:=mD w' hw ys.length (Nat.le_refl _)
  rw [List.take_of_length_le (by omega)] at this;exact this) (LR.one (fun _ _=>TR.one) hL) (eF _ iX).1 (eF _ iX).2
 have hrow:Row w' Ei t'.size v' (xs ++ ys).length (cs ++ fs):=by rw [List.length_append];exact gM
 have ez:=hrow.jX
 obtain ⟨vb,vm,vc,eV⟩:∃ q m cp,v'=.slice q m cp:=by cases v'<;>first | exact ⟨_,_,_,rfl⟩ | cases ez
 have aQ:(ρ ++ [(⟨0,t'.sz,v',[]⟩:Hd)])[tb.length]? = some ⟨0,t'.sz,v',[]⟩:=by rw [← hM.len];simp
 have Km:∀ b i,O b=.th i->b < w.heap.size:=fun b i h=>by
  rcases Nat.lt_or_ge b w.heap.size with h' | h'
  ·exact h'
  ·rw [hM.lt b h'] at h;cases h
 have hnew:∀ b,eH v' b=true->aZ u b∨w.heap.size≤b:=fun b hb'=>jt b (kW hb')
 have hle:O.le (fun b=>bif eH v' b then .th tb.length else O b):=fun b all e=>by
  cases e':eH v' b with
  | true=>
   rcases hnew b e' with h1 | h1
   ·rw [n2 b h1] at e;cases e
   ·rw [hM.lt b h1] at e;cases e
  | false=>simp only [e',cond_false];exact e
 have keep:∀ b,O b=.th id->¬ aZ u b->(bif eH v' b then Ow.th tb.length else O b)=.th id:=fun b h1 h2=>by
  cases e':eH v' b with
  | true=>
   rcases hnew b e' with h3 | h3
   ·exact absurd h3 h2
   ·have:=Km b id h1;omega
  | false=>exact h1
 obtain ⟨g1,g2⟩:=hM.step (M:=(· = id)) (O':=fun b=>bif eH v' b then .th tb.length else O b) (ρ':=ρ ++ [⟨0,t'.sz,v',[]⟩]) (aL:=tb.set id (.rr E Ei t' (rows.set q none) out) ++ [.row Ei t' (xs ++ ys)]) (w':=w') (jh.wide fun b hb'=>⟨id,rfl,n2 b hb'⟩)
  (fun b hb' hn=>by
   cases e':eH v' b with
   | true=>
    rcases hnew b e' with h1 | h1
    ·exact absurd (n2 b h1) (hn id rfl)
    ·omega
   | false=>rfl)
  (fun b hb'=>by
   cases e':eH v' b with
   | true=>have:=hrow.blt (kW e');omega
   | false=>exact hM.lt b (Nat.le_trans jh.size hb'))
  (fun b all e=>by
   cases e':eH v' b with
   | true=>simp only [e',cond_true] at e;cases e
   | false=>simp only [e',cond_false] at e;exact .inl e)
  (.app _ _) (by simp [hM.len]) (fun j x hx=>by
   rcases Nat.lt_or_ge j tb.length with hj | hj
   ·rw [List.getElem?_append_left (by simpa using hj),List.getElem?_set] at hx
    split at hx
    ·rename_i e';subst e'
     have hxr:x=.rr E Ei t' (rows.set q none) out:=by first | (rw [if_pos hj] at hx;cases hx;rfl) | (cases hx;rfl)
     subst hxr
     have alive:∀ (kk:Nat) (ys:List t'.den),(rows.set q none)[kk]? = some (some ys)->kk ≠ q∧rows[kk]? = some (some ys):=fun kk ys hk=>by
      rw [List.getElem?_set] at hk
      split at hk
      ·split at hk<;>cases hk
      ·rename_i hne;exact ⟨fun h=>hne h.symm,hk⟩
     refine .inr ⟨h,es,dR _ h1,h2,fun b hb'=>keep b (h3 b hb') (fun hh=>h8.out q xs u b hxs m2 hh hb'),Rs.same (r:=.row E 1 h.v out.length es) (fun b aB=>jh.block b (h5.blt aB) (fun hh=>h8.out q xs u b hxs m2 hh aB)) h5,h6,
      ⟨by rw [List.length_set];exact h8.len,fun kk zs hk=>?_,fun kk zs k' zs' v1 v2 b hk hk'=>?_,fun kk zs v1 b hk=>?_,h8.sl⟩⟩
     ·obtain ⟨hne,hk⟩:=alive _ _ hk
      obtain ⟨v1,c1,o1,o2,o3,o4⟩:=h8.row kk zs hk
      have hap:∀ b,aZ v1 b->¬ aZ u b:=fun b p1 p2=>hne (h8.apart kk zs q xs v1 u b hk hxs o1 m2 p1 p2)
      exact ⟨v1,c1,o1,fun b aB=>keep b (o2 b aB) (hap b aB),o3.mono (fun _ _=>TR.mono hle),Rs.same (r:=.row Ei t'.size v1 zs.length c1) (fun b aB=>jh.block b (o4.blt aB) (hap b aB)) o4⟩
     ·exact h8.apart kk zs k' zs' v1 v2 b (alive _ _ hk).2 (alive _ _ hk').2
     ·exact h8.out kk zs v1 b (alive _ _ hk).2
    ·rename_i e';exact .inl ⟨hx,fun h=>e' h.symm⟩
   ·have hjl:j=tb.length:=by
     have:=(aM hx).1
     simp at this;omega
    subst hjl
    rw [List.getElem?_append_right (by simp)] at hx
    simp at hx;subst hx
    exact .inr ⟨_,cs ++ fs,aQ,rfl,fun b aB=>by simp [wA eV aB],(n3.append hL).mono (fun _ _=>TR.mono hle),hrow⟩)
 exact ⟨some (.rw tb.length),.o (.v v'),_,_,_,w',⟨.fS (v:=.rw tb.length) ⟨v',rfl,_,aQ,rfl,ez⟩,pN⟩,g1,g2,hk⟩
theorem Gm.alm {id E Ei:Nat} {t:Ty} {rows:List (Option (List t.den))} {out:List Nat} {xss:List (List t.den)} (hM:Gm O ρ tb w) (hb:tb[id]? = some (.rr E Ei t rows out)) (hx:n9 rows out=some xss):∃ O' h,ρ[id]? = some h∧Gm O' ρ (tb.set id (.fz (.sl t) xss)) w∧aR (· = id) O ρ w O' ρ w∧TR O' (.sl (.sl t)) xss [h.v]∧(∀ b j,j ≠ id->O b=.th j->O' b=.th j)∧h.z=(Ty.sl t).sz:=by
 obtain ⟨h,es,h1,h2,h3,h5,h6,h8⟩:=hM.th _ _ hb
 have hid:=(aM hb).1
 obtain ⟨O',oU⟩:∃ O':Own,O'=fun b=>match O b with
  | .th i=>bif Nat.beq i id then (match w.heap[b]? with | some (.cells a _ _)=>.im a.toList | _=>.no) else .th i
  | .im l=>.im l
  | .no=>.no:=⟨_,rfl⟩
 have hle:O.le O':=fun b all e=>by simp only [oU,e]
 have d8:∀ b j,j ≠ id->O b=.th j->O' b=.th j:=fun b j hj e=>by
  have:Nat.beq j id=false:=by cases hq:Nat.beq j id with
   | false=>rfl
   | true=>exact absurd (ay hq) hj
  simp only [oU,e,this,cond_false]
 have iS:∀ b a ty fz,O b=.th id->w.heap[b]? = some (.cells a ty fz)->O' b=.im a.toList:=fun b a ty fz e hh=>by simp [oU,e,hh]
 have Ul:∀ {E s n:Nat} {v:Value} {cs:List Value},Row w E s v n cs->(∀ b,aZ v b->O b=.th id)->iB O' n cs v:=fun {E s n v cs} hr ho=>
  Ke hr.rd (fun b a ty fz _ hb hh=>iS b a ty fz (ho b hb) hh)
 have JY:∀ {out:List Nat} {es:List Value} {xss:List (List t.den)},dB h.ks out es->n9 rows out=some xss->LR (TR O' (.sl t)) xss es∧xss.length=out.length:=by
  intro out
  induction out with
  | nil=>intro es xss h1 h2;simp only [n9,az] at h2;subst h2;simp only [dB] at h1;subst h1;exact ⟨rfl,rfl⟩
  | cons q out ih=>
   rintro es xss ⟨x,l,rfl,hq,hr⟩ h2
   simp only [n9] at h2
   split at h2<;>first | (cases h2;done) | skip
   rename_i y ys hy hys
   cases h2
   obtain ⟨i1,i2⟩:=ih hr hys
   obtain ⟨v,cs,k1,k2,k3,k4⟩:=h8.row q y (pX hy)
   rw [hq] at k1;cases k1
   exact ⟨⟨[x],l,rfl,⟨x,cs,rfl,k3.mono (fun _ _=>TR.mono hle),Ul k4 k2⟩,i1⟩,by simp [i2]⟩
 obtain ⟨hL,hxl⟩:=JY h6 hx
 have hT:TR O' (.sl (.sl t)) xss [h.v]:=by
  refine ⟨h.v,es,rfl,hL,?_⟩
  have:=Ul h5 h3
  rw [← hxl] at this;exact this
 obtain ⟨g1,g2⟩:=hM.step (M:=(· = id)) (O':=O') (ρ':=ρ) (aL:=tb.set id (.fz (.sl t) xss)) (w':=w) (Kept.refl _ _)
  (fun b _ hn=>by
   cases e':O b with
   | th i=>exact d8 b i (fun e=>by subst e;exact hn i rfl e') e'
   | im l=>simp only [oU,e']
   | no=>simp only [oU,e'])
  (fun b hb'=>by simp only [oU,hM.lt b hb'])
  (fun b all e=>by
   cases e':O b with
   | th i=>
    by_cases hi:i=id
    ·subst hi
     simp only [oU,e'] at e
     have:Nat.beq i i=true:=by simp
     rw [this] at e
     simp only [cond_true] at e
     split at e
     ·rename_i a ty fz hh;cases e;exact .inr ⟨ty,fz,by simpa using hh⟩
     ·cases e
    ·rw [d8 b i hi e'] at e;cases e
   | im l=>simp only [oU,e'] at e;cases e;exact .inl rfl
   | no=>simp only [oU,e'] at e;cases e)
  (.refl _) (by simp [hM.len]) (fun j x hx=>by
   rw [List.getElem?_set] at hx
   split at hx
   ·rename_i e;subst e
    have:x=.fz (.sl t) xss:=by first | (rw [if_pos hid] at hx;cases hx;rfl) | (cases hx;rfl)
    subst this;exact .inr ⟨h,h1,h2,hT⟩
   ·rename_i e;exact .inl ⟨hx,fun h=>e h.symm⟩)
 exact ⟨O',h,h1,g1,g2,hT,d8,h2⟩
theorem Xs {β:Type} {k:Option IV->aj->Option β} {r:β} {id j E t:Nat} {t':Ty} {xs:List t'.den} {u':t'.den} {us:List Value} {x y:Operand} (hc:aN P c) (hM:Gm O ρ tb w) (ho:o.op=.store t x y) (hb:tb[id]? = some (.row E t' xs)) (hv:R O ρ false (.el id j []) [a.eval x]) (hy1:(a.eval y).cells=us.toArray)
  (hz:c.Z t=some us.length) (h1c:∀ v ∈ us,v.oneCell'=true) (hT:TR O t' u' us) (hk:k none (tb.set id (.row E t' (xs.set j u')))=some r):bG P a o O ρ w (· = id) k r:=by
 obtain ⟨h,es,h1,h2,h3,h4,h5⟩:=hM.th _ _ hb
 obtain ⟨h',off,ad,nn,cp,h6,h7,h8,h9,h10⟩:=hv
 rw [h1] at h6;cases h6
 have hoff:off=0:=by
  have:h.z.off []=some 0:=by cases h.z<;>rfl
  rw [this] at h7;cases h7;rfl
 subst hoff
 have mZ:=h5
 obtain ⟨ig,mL⟩:=mZ
 rcases mL with ⟨f8,_⟩ | ⟨b,cap,sp,e8,hnc,dY,hcap,iF⟩
 ·rw [f8] at h8;cases h8
 rw [e8] at h8;cases h8
 have hown:O b=.th id:=h3 b (by rw [e8];rfl)
 have hjn:j * t'.size + t'.size≤es.length:=by
  rw [ig]
  have:=Nat.mul_le_mul_right t'.size (show j + 1≤xs.length by omega)
  rw [Nat.add_mul] at this;omega
 simp only [List.cons.injEq,and_true] at h10
 rw [add_zero _ rfl,Nat.zero_add,h2,Ty.eW,Nat.add_zero] at h10
 have gP:=TR.length hT
 have hst:=wL hc ho h10 hy1 hz h1c dY (by rw [List.length_append];omega)
 rw [uj (by omega)] at hst
 have gy:=LR.set (fun _ _=>TR.length) h4 (j:=j) h9 hT
 have kB:es.take (j * t'.size) ++ us ++ es.drop (j * t'.size + t'.size)=aI es (j * t'.size) us:=by
  simp only [aI,gP]
 rw [kB] at gy
 have hlen:(aI es (j * t'.size) us).length=es.length:=mR (by omega)
 obtain ⟨dX,ei⟩:=hM.set (x':=.row E t' (xs.set j u')) (aM hb).1 ((jr b (aI es (j * t'.size) us ++ sp).toArray).wide (fun b' e=>by subst e;exact hown))
  ⟨h,_,h1,h2,h3,gy,by rw [hlen,List.length_set];exact ig,.inr ⟨b,_,sp,by rw [e8,List.length_set],by rw [List.length_set];exact hnc,dY.setRow (by simp [hlen]),by rw [← hcap];simp [hlen],iF⟩⟩
 exact ⟨none,.t [],_,_,_,_,hst,dX,ei,hk⟩
def GY {β:Type} (tb:aj) (k:Option IV->aj->Option β) (id j:Nat) (t2:Ty) (xs:List t2.den):Option β:=
 match nth tb id with
 | some (.row E t' xss)=>match Ty.bL (.sl t2) t' with
  | some h=>k none (tb.set id (.row E t' (xss.set j (iI h.down xs))))
  | none=>match Ty.bL (.sn t2) t' with
   | some h=>bif fA xs then none else k none (tb.set id (.row E t' (xss.set j (iI (a:=.sn t2) h.down xs))))
   | none=>none
 | _=>none
def Pn {β:Type} (c:aF) (tb:aj) (k:Option IV->aj->Option β) (t id j cK:Nat):Option β:=
 match c.Z t with
 | some 1=>match nth tb cK with
  | some (.row _ t2 xs)=>GY (tb.set cK (.fz t2 xs)) k id j t2 xs
  | some (.fz t2 xs)=>GY tb k id j t2 xs
  | _=>none
 | _=>none
theorem agK {β:Type} {k:Option IV->aj->Option β} {r:β} (hc:aN P c) (hF:Fr n a l) (hE:ER O ρ il l) (hG:GO c O) (hM:Gm O ρ tb w) {t:Nat} {x y:Operand} (ho:o.op=.store t x y) {id j cK:Nat} (hx:aC c il x=some (.el id j [])) (hy:aC c il y=some (.rw cK)) (e:Pn c tb k t id j cK=some r):bG P a o O ρ w (fun i=>i=id∨i=cK) k r:=by
 unfold Pn at e
 split at e<;>first | (cases e;done) | skip
 rename_i hz
 obtain ⟨u,hu,TN,_⟩:=bu hE hG hx rfl (by simp) hF
 obtain ⟨u2,jB,⟨g',m1,m2,m3⟩,_⟩:=bu hE hG hy rfl (by simp) hF
 cases m2
 have IL:(a.eval y).cells=[g'.v].toArray:=by
  rw [jB]
  cases hg:g'.v<;>rw [hg] at m3<;>first | rfl | cases m3
 rw [← hu] at TN
 have fin:∀ {O1:Own} {bM:aj} {t2:Ty} {xs:List t2.den},Gm O1 ρ bM w->R O1 ρ false (.el id j []) [a.eval x]->TR O1 (.sl t2) xs [g'.v]->GY bM k id j t2 xs=some r->bG P a o O1 ρ w (· = id) k r:=by
  intro O1 bM t2 xs fD ji Fj e
  unfold GY at e
  split at e<;>first | (cases e;done) | skip
  rename_i E t' xss hb
  rw [aS] at hb
  split at e
  ·rename_i h _
   exact Xs hc fD ho hb ji IL hz (fun v hv=>by simp at hv;subst hv;exact u6 m3) (TR.cast h.down Fj) e
  ·split at e<;>first | (cases e;done) | skip
   rename_i h _
   cases hn:fA xs with
   | true=>rw [hn] at e;cases e
   | false=>
    rw [hn] at e
    exact Xs hc fD ho hb ji IL hz (fun v hv=>by simp at hv;subst hv;exact u6 m3) (TR.cast (a:=.sn t2) h.down (TR.BA Fj (BS hn)).1) e
 split at e<;>first | (cases e;done) | skip
 ·rename_i E2 t2 xs dw
  rw [aS] at dw
  obtain ⟨O1,h,h1,g1,g2,hT,_,_⟩:=hM.Eb dw
  rw [m1] at h1;cases h1
  exact bG.pre (g2.bD (fun i hi=>.inr hi)) (fin g1 (R.mono g2.im g2.pre TN) hT e) (fun i hi=>.inl hi)
 ·rename_i t2 xs dw
  rw [aS] at dw
  obtain ⟨h,h1,h2,hT⟩:=hM.th _ _ dw
  rw [m1] at h1;cases h1
  exact (fin hM TN hT e).wk (fun i hi=>.inl hi)
end
end Go.Tw
namespace Go.Tw
section
variable {P:Program} {c:aF} {n:Nat} {a:Act} {l:Env} {il:aE} {O:Own} {ρ:List Hd} {tb:aj} {w:World} {o:Oper}
theorem Cr (hc:aN P c) {ty aX e s q m:Nat} {A B:Operand} {b':Option Addr} {c':Nat} {ys:List Value} {w':World} (ho:o.op=.call ⟨.builtin .copy,#[A,B],#[ty,aX]⟩) (hd:c.D ty=some (.slice e)) (hz:c.Z e=some s) (hA:a.eval A=.slice b' m c') (hlen:(Builtin.lenOf (a.eval B)).run P w=.ok q w)
  (hf:(Builtin.firstCells s (Nat.min q m) (a.eval B)).run P w=.ok ys.toArray w) (hst:∀ ad,b'=some ad->(storeCells ad ys).run P w=.ok () w') (hn:b'=none->w'=w):(execOp a.eval o).run P w=.ok (.value (vI (Nat.min q m:Nat))) w':=by
 have hrun:(Builtin.copy_ #[ty,aX] o.type #[.slice b' m c',a.eval B]).run P w=.ok (vI (Nat.min q m:Nat)) w':=by
  unfold Builtin.copy_
  cases b' with
  | none=>
   have:=hn rfl;subst this
   simp [run_underlying (hc.tok.desc _ _ hd),hlen,hc.tok.size _ _ hz,goInt,hf]
  | some ad=>
   have:=hst ad rfl
   simp [run_underlying (hc.tok.desc _ _ hd),hlen,hc.tok.size _ _ hz,goInt,hf,this]
 simp [execOp,ho,resolve,invoke,builtin,hA,hrun]
def Tf {β:Type} (c:aF) (il:aE) (tb:aj) (k:Option IV->aj->Option β) (ty aX:Nat) (A B:Operand):Option β:=
 match c.D ty with
 | some (.slice e)=>match c.Z e,aC c il A with
  | some s,some (.rw id)=>match nth tb id with
   | some (.row E t xs)=>match Nat.beq s t.size with
    | true=>og c il tb t aX B fun ys=>k (some (.o (.i (Nat.min ys.length xs.length:Nat)))) (tb.set id (.row E t (bC xs 0 ys (Nat.min ys.length xs.length))))
    | false=>none
   | _=>none
  | some s,some (.rp id lo hi)=>match nth tb id with
   | some (.row E t xs)=>match Nat.beq s t.size with
    | true=>og c il tb t aX B fun ys=>k (some (.o (.i (Nat.min ys.length (hi - lo):Nat)))) (tb.set id (.row E t (bC xs lo ys (Nat.min ys.length (hi - lo)))))
    | false=>none
   | _=>none
  | some s,some (.ap id p lo hi)=>match nth tb id with
   | some (.blk bt v)=>kY (fun u=>match u with
    | .ar m t xs=>match Nat.beq s t.size with
     | true=>og c il tb t aX B fun ys=>oo (.ar m t (dV xs lo ys (Nat.min ys.length (hi - lo)))) p v fun v'=>k (some (.o (.i (Nat.min ys.length (hi - lo):Nat)))) (tb.set id (.blk bt v'))
     | false=>none
    | _=>none) p v
   | _=>none
  | _,_=>none
 | _=>none
theorem LR.bC {α:Type} {R:α->List Value->Prop} {s:Nat} (hR:∀ x c,R x c->c.length=s) {xs ys:List α} {es fs:List Value} (h:LR R xs es) (k:LR R ys fs) {lo q:Nat}:LR R (bC xs lo ys q) (es.take (lo * s) ++ fs.take (q * s) ++ es.drop ((lo + q) * s)):=
 ((h.split hR lo).1.append (k.split hR q).1).append (h.split hR (lo + q)).2
theorem arA {β:Type} {k:Option IV->aj->Option β} {r:β} (hc:aN P c) (hF:Fr n a l) (hE:ER O ρ il l) (hG:GO c O) (hM:Gm O ρ tb w) {ty aX:Nat} {A B:Operand} (ho:o.op=.call ⟨.builtin .copy,#[A,B],#[ty,aX]⟩) (e:Tf c il tb k ty aX A B=some r) {v:IV} (hv:aC c il A=some v):bG P a o O ρ w (· ∈ a_ v) k r:=by
 unfold Tf at e
 split at e<;>first | (cases e;done) | skip
 rename_i el hd
 have abN:∀ {s id E lo hi:Nat} {t:Ty} {xs:List t.den} {u:Value} {h:Hd},c.Z el=some s->Nat.beq s t.size=true->tb[id]? = some (.row E t xs)->ρ[id]? = some h->a.eval A=u->Part t.size h.v lo hi u ->
   (og c il tb t aX B fun ys=>k (some (.o (.i (Nat.min ys.length (hi - lo):Nat)))) (tb.set id (.row E t (bC xs lo ys (Nat.min ys.length (hi - lo))))))=some r->bG P a o O ρ w (· = id) k r:=by
  intro s id E lo hi t xs u h hz hs hb hρ hu hp e
  have hs:=ay hs
  subst hs
  obtain ⟨h',es,h7,h8,h9,h10,h11⟩:=hM.th _ _ hb
  rw [hρ] at h7;cases h7
  obtain ⟨ys,fs,d2,hk,hL,jB,iP,hlen,mD⟩:=wW hc hF hE hG hM e
  have hfl:=LR.length (fun _ _=>TR.length) hL
  have pE:Nat.min ys.length (hi - lo)≤ys.length:=Nat.min_le_left ..
  have bJ:Nat.min ys.length (hi - lo)≤hi - lo:=Nat.min_le_right ..
  have pR:=mD w rfl _ pE
  have vM:=h10.bC (fun _ _=>TR.length) hL (lo:=lo) (q:=Nat.min ys.length (hi - lo))
  have apK:=h11
  obtain ⟨Yn,Xl⟩:=apK
  obtain ⟨b,nn,cp,b',ie,sr,MS,hlo,hhi,b9⟩:=hp
  subst MS
  have hnn:nn=xs.length:=by
   obtain ⟨b2,c2,e2,_⟩:=h11.rd.shape
   rw [sr] at e2;cases e2;rfl
  subst hnn
  have oP:(fs.take (Nat.min ys.length (hi - lo) * t.size)).length=Nat.min ys.length (hi - lo) * t.size:=by
   rw [List.length_take,hfl];exact Nat.min_eq_left (Nat.mul_le_mul_right _ pE)
  have kB:aI es (lo * t.size) (fs.take (Nat.min ys.length (hi - lo) * t.size))=es.take (lo * t.size) ++ fs.take (Nat.min ys.length (hi - lo) * t.size) ++ es.drop ((lo + Nat.min ys.length (hi - lo)) * t.size):=by
   simp only [aI,oP,Nat.add_mul]
  have ez:(bC xs lo ys (Nat.min ys.length (hi - lo))).length=xs.length:=by
   simp only [bC,List.length_append,List.length_take,List.length_drop]
   generalize hq:Nat.min ys.length (hi - lo)=q at *
   omega
  have hle:lo * t.size + (fs.take (Nat.min ys.length (hi - lo) * t.size)).length≤es.length:=by
   rw [oP,Yn,← Nat.add_mul]
   exact Nat.mul_le_mul_right _ (by clear Xl b9 sr h9;omega)
  rcases Xl with ⟨f8,hn0⟩ | ⟨b2,cap,sp,e8,hnc,dY,hcap,iF⟩
  ·
   have hx0:xs=[]:=List.eq_nil_of_length_eq_zero hn0
   subst hx0
   have Yo:=sr
   rw [f8] at Yo
   injection Yo with e1 e2 e3
   subst e1 e3
   simp only [List.length_nil] at hhi
   have amv:lo=0:=by omega
   have acK:hi=0:=by omega
   subst amv acK
   have hc0:Nat.min ys.length (0 - 0)=0:=by simp
   have ot:fs.take (Nat.min ys.length (0 - 0) * t.size)=[]:=by rw [hc0];simp
   rw [ot] at pR
   have hrun:=Cr (P:=P) (w':=w) hc ho hd hz hu (hlen w) pR (fun ad _=>rfl) (fun _=>rfl)
   refine ⟨some (.o (.i (Nat.min ys.length (0 - 0):Nat))),.o (.i (Nat.min ys.length (0 - 0):Nat)),_,O,ρ,w,⟨⟨_,rfl,rfl,rfl⟩,hrun⟩,?_,.refl _ _ _ _,hk⟩
   have hid:=(aM hb).1
   obtain ⟨g1,g2⟩:=hM.set (x':=.row E t (bC ([]:List t.den) 0 ys (Nat.min ys.length (0 - 0)))) hid (Kept.refl _ w) ⟨h,[],hρ,h8,h9,by rw [hc0];simp [bC];rfl,by rw [hc0];simp [bC],.inl ⟨sr,by rw [hc0];simp [bC]⟩⟩
   exact g1
  ·rw [e8] at sr;cases sr
   have hown:O b2=.th id:=h9 b2 (by rw [e8];rfl)
   have atm:lo * t.size + (fs.take (Nat.min ys.length (hi - lo) * t.size)).length≤(es ++ sp).length:=by rw [List.length_append];omega
   have hone:∀ u ∈ fs.take (Nat.min ys.length (hi - lo) * t.size),u.oneCell'=true:=fun u hu=>LR.one (fun _ _=>TR.one) hL u (List.mem_of_mem_take hu)
   have hst:=uX (P:=P) _ (lo * t.size) 0 (es ++ sp) w dY (by simpa using atm) hone
   simp only [Nat.add_zero] at hst
   have TB:(storeCells ⟨b2,lo * t.size,none⟩ (fs.take (Nat.min ys.length (hi - lo) * t.size))).run P w=.ok () (w.setRow b2 (aI es (lo * t.size) (fs.take (Nat.min ys.length (hi - lo) * t.size)) ++ sp).toArray):=by
    rw [← uj hle];exact hst
   have hrun:(execOp a.eval o).run P w=.ok (.value (vI (Nat.min ys.length (hi - lo):Nat))) (w.setRow b2 (aI es (lo * t.size) (fs.take (Nat.min ys.length (hi - lo) * t.size)) ++ sp).toArray):=by
    refine Cr (P:=P) hc ho hd hz hu (hlen w) pR (fun ad hb'=>?_) (fun hb'=>?_)
    ·rcases b9 with b9 | ⟨PZ,h1,h2,_⟩
     ·
      have hc0:Nat.min ys.length (hi - lo)=0:=by omega
      have ot:fs.take (Nat.min ys.length (hi - lo) * t.size)=[]:=by rw [hc0];simp
      rw [ot]
      have hid:w.setRow b2 (aI es (lo * t.size) [] ++ sp).toArray=w:=by
       obtain ⟨fz,h3,_⟩:=dY
       have:aI es (lo * t.size) []=es:=by simp [aI]
       rw [this];exact setRow_self w b2 _ E fz h3
      rw [hid];rfl
     ·cases h1
      rw [hb'] at h2
      cases h2
      rw [add_zero _ rfl,Nat.zero_add];exact TB
    ·have hc0:Nat.min ys.length (hi - lo)=0:=by
      rcases b9 with b9 | ⟨PZ,_,h2,_⟩
      ·omega
      ·rw [hb'] at h2;cases h2
     have ot:fs.take (Nat.min ys.length (hi - lo) * t.size)=[]:=by rw [hc0];simp
     rw [ot]
     obtain ⟨fz,h3,_⟩:=dY
     have:aI es (lo * t.size) []=es:=by simp [aI]
     rw [this];exact setRow_self w b2 _ E fz h3
   have Jd:(aI es (lo * t.size) (fs.take (Nat.min ys.length (hi - lo) * t.size))).length=es.length:=mR hle
   rw [← kB] at vM
   obtain ⟨g1,g2⟩:=hM.set (x':=.row E t (bC xs lo ys (Nat.min ys.length (hi - lo)))) (aM hb).1 ((jr b2 _).wide (fun b' e=>by subst e;exact hown))
    ⟨h,_,hρ,h8,h9,vM,by rw [Jd,ez];exact Yn,.inr ⟨b2,_,sp,by rw [e8,ez],by rw [ez];exact hnc,dY.setRow (by simp [Jd]),by rw [← hcap];simp [Jd],iF⟩⟩
   exact ⟨some (.o (.i (Nat.min ys.length (hi - lo):Nat))),.o (.i (Nat.min ys.length (hi - lo):Nat)),_,O,ρ,_,⟨⟨_,rfl,rfl,rfl⟩,hrun⟩,g1,g2,hk⟩
 split at e<;>first | (cases e;done) | skip
 ·rename_i s id hz hA
  rw [hv] at hA;cases hA
  split at e<;>first | (cases e;done) | skip
  rename_i E t xs hb
  split at e<;>first | (cases e;done) | skip
  rename_i hs
  obtain ⟨u,hu,⟨h,h12,sb,_⟩,_⟩:=bu hE hG hv rfl (by simp) hF
  cases sb
  rw [aS] at hb
  have hp:Part t.size h.v 0 xs.length h.v:=by
   obtain ⟨h',es,h7,h8,h9,h10,h11⟩:=hM.th _ _ hb
   rw [h12] at h7;cases h7
   obtain ⟨b,cp,e2,hn,mU⟩:=h11.rd.shape
   rw [e2]
   refine ⟨b,_,cp,b,cp,rfl,by simp,by omega,by omega,?_⟩
   by_cases h0:xs.length=0
   ·exact .inl h0
   ·refine .inr ?_
    cases b with
    | none=>exact absurd (hn rfl) h0
    | some ad=>exact ⟨ad,rfl,by rw [Nat.zero_mul];simp [Addr.add],by omega⟩
  have:=abN (lo:=0) (hi:=xs.length) hz hs hb h12 hu hp e
  obtain ⟨v,x,aL,O',ρ',w2,g1,g2,g3,g4⟩:=this
  exact ⟨v,x,aL,O',ρ',w2,g1,g2,g3.bD (fun i e=>by subst e;simp [a_]),g4⟩
 ·rename_i s id lo hi hz hA
  rw [hv] at hA;cases hA
  split at e<;>first | (cases e;done) | skip
  rename_i E t xs hb
  split at e<;>first | (cases e;done) | skip
  rename_i hs
  obtain ⟨u,hu,⟨h,u',h12,sb,hp⟩,_⟩:=bu hE hG hv rfl (by simp) hF
  cases sb
  rw [aS] at hb
  have hp':Part t.size h.v lo hi u:=by
   obtain ⟨h',es,h7,h8,_⟩:=hM.th _ _ hb
   rw [h12] at h7;cases h7
   rw [h8,Ty.eW] at hp;exact hp
  have:=abN hz hs hb h12 hu hp' e
  obtain ⟨v,x,aL,O',ρ',w2,g1,g2,g3,g4⟩:=this
  exact ⟨v,x,aL,O',ρ',w2,g1,g2,g3.bD (fun i e=>by subst e;simp [a_]),g4⟩
 ·rename_i s id p lo hi hz hA
  rw [hv] at hA;cases hA
  split at e<;>first | (cases e;done) | skip
  rename_i bt v hb
  rw [aS] at hb
  obtain ⟨u,hu,⟨h,off,m,z,h1,h2,h3,u',hcs,hp⟩,_⟩:=bu hE hG hv rfl (by simp) hF
  cases hcs
  obtain ⟨h',cs,h4,h5,h6,h7,h8⟩:=hM.th _ _ hb
  rw [h1] at h4;cases h4
  rw [h6] at h2 h3
  obtain ⟨q,hk,h9,h10,h11⟩:=rN e h7 h2
  split at hk<;>first | (cases hk;done) | skip
  rename_i m' t xs
  rw [h3] at h11;cases h11
  split at hk<;>first | (cases hk;done) | skip
  rename_i hs
  have hs:=ay hs
  subst hs
  rw [Ty.eW] at hp
  obtain ⟨ys,fs,d2,hk,hL,jB,iP,hlen,mD⟩:=wW hc hF hE hG hM hk
  have hfl:=LR.length (fun _ _=>TR.length) hL
  have pE:Nat.min ys.length (hi - lo)≤ys.length:=Nat.min_le_left ..
  have bJ:Nat.min ys.length (hi - lo)≤hi - lo:=Nat.min_le_right ..
  have pR:=mD w rfl _ pE
  obtain ⟨b,nn,cp,b',ie,sr,MS,hlo,hhi,b9⟩:=hp
  cases sr
  subst MS
  simp only [IV.sz,Sz.size,Ty.eW] at h9 h10
  have h9':LR (TR O t) xs.toList ((cs.drop off).take (m * t.size)):=h9
  have vM:=h9'.bC (fun _ _=>TR.length) hL (lo:=lo) (q:=Nat.min ys.length (hi - lo))
  have oP:(fs.take (Nat.min ys.length (hi - lo) * t.size)).length=Nat.min ys.length (hi - lo) * t.size:=by
   rw [List.length_take,hfl];exact Nat.min_eq_left (Nat.mul_le_mul_right _ pE)
  have pn:lo * t.size + Nat.min ys.length (hi - lo) * t.size≤m * t.size:=by
   rw [← Nat.add_mul];exact Nat.mul_le_mul_right _ (by omega)
  have hnew:R O ρ false (.ar m t (dV xs lo ys (Nat.min ys.length (hi - lo)))) (aI ((cs.drop off).take (m * t.size)) (lo * t.size) (fs.take (Nat.min ys.length (hi - lo) * t.size))):=by
   show LR _ _ _
   rw [Bm (by omega) pE]
   simp only [aI,oP,← Nat.add_mul];exact vM
  obtain ⟨v',hk,h12,sb,iX⟩:=zI hnew hk h7 h2
  have hml:((cs.drop off).take (m * t.size)).length=m * t.size:=by rw [List.length_take,List.length_drop];omega
  rw [ET (by rw [oP];exact pn) h10] at h12
  have hone:∀ u ∈ fs.take (Nat.min ys.length (hi - lo) * t.size),u.oneCell'=true:=fun u hu=>LR.one (fun _ _=>TR.one) hL u (List.mem_of_mem_take hu)
  have hle:off + lo * t.size + (fs.take (Nat.min ys.length (hi - lo) * t.size)).length≤cs.length:=by rw [oP];omega
  have hst:=uX (P:=P) _ (off + lo * t.size) 0 cs w h8 (by simpa using hle) hone
  simp only [Nat.add_zero] at hst
  have hrun:(execOp a.eval o).run P w=.ok (.value (vI (Nat.min ys.length (hi - lo):Nat))) (w.setRow h.b (aI cs (off + lo * t.size) (fs.take (Nat.min ys.length (hi - lo) * t.size))).toArray):=by
   have empty:Nat.min ys.length (hi - lo)=0->w.setRow h.b (aI cs (off + lo * t.size) (fs.take (Nat.min ys.length (hi - lo) * t.size))).toArray=w∧fs.take (Nat.min ys.length (hi - lo) * t.size)=[]:=fun h0=>by
    have ot:fs.take (Nat.min ys.length (hi - lo) * t.size)=[]:=by rw [h0];simp
    refine ⟨?_,ot⟩
    rw [ot]
    obtain ⟨fz,hh,_⟩:=h8
    have:aI cs (off + lo * t.size) []=cs:=by simp [aI]
    rw [this];exact setRow_self w h.b _ bt fz hh
   refine Cr (P:=P) hc ho hd hz hu (hlen w) pR (fun ad hb'=>?_) (fun hb'=>?_)
   ·rcases b9 with b9 | ⟨PZ,e1,e2,_⟩
    ·obtain ⟨e3,e4⟩:=empty (by omega)
     rw [e3,e4];rfl
    ·cases e1
     rw [hb'] at e2;cases e2
     rw [add_zero _ rfl];exact hst
   ·refine (empty ?_).1
    rcases b9 with b9 | ⟨PZ,_,e2,_⟩
    ·omega
    ·rw [hb'] at e2;cases e2
  obtain ⟨g1,g2⟩:=hM.set (x':=.blk bt v') (aM hb).1 ((jr h.b _).wide (fun b' e=>by subst e;exact h5))
   ⟨h,_,h1,h5,by rw [h6,iX],h12,h8.setRow (mR hle)⟩
  exact ⟨some (.o (.i (Nat.min ys.length (hi - lo):Nat))),.o (.i (Nat.min ys.length (hi - lo):Nat)),_,O,ρ,_,⟨⟨_,rfl,rfl,rfl⟩,hrun⟩,g1,g2.bD (fun i e=>by subst e;simp [a_]),hk⟩
theorem ajN {id E Ei q b cap:Nat} {t:Ty} {rows:List (Option (List t.den))} {out:List Nat} {xs xs':List t.den} {h:Hd} {cs cs' sp:List Value} (hM:Gm O ρ tb w) (hb:tb[id]? = some (.rr E Ei t rows out)) (h1:ρ[id]? = some h) (hq:rows[q]? = some (some xs)) (hv:h.ks[q]? = some (.slice (some ⟨b,0,none⟩) xs.length cap)) (hnc:xs.length≤cap)
  (dY:dO w b (cs ++ sp) Ei) (hcap:(cs ++ sp).length=cap * t.size) (iF:cap≤maxLen) (hlen:cs'.length=cs.length) (hxl:xs'.length=xs.length) (hL:LR (TR O t) xs' cs') (ig:cs.length=xs.length * t.size) :
  Gm O ρ (tb.set id (.rr E Ei t (rows.set q (some xs')) out)) (w.setRow b (cs' ++ sp).toArray)∧aR (· = id) O ρ w O ρ (w.setRow b (cs' ++ sp).toArray):=by
 obtain ⟨h',es,je,h2,h3,h5,h6,h8⟩:=hM.th _ _ hb
 rw [h1] at je;cases je
 obtain ⟨v',c0,k1,k2,k3,_⟩:=h8.row q xs hq
 rw [hv] at k1;cases k1
 have hown:O b=.th id:=k2 b rfl
 have d8:∀ b',b' ≠ b->(w.setRow b (cs' ++ sp).toArray).heap[b']? = w.heap[b']?:=fun b' hb'=>by
  have hk:=jr (w:=w) b (cs' ++ sp).toArray
  rcases Nat.lt_or_ge b' w.heap.size with hlt | hge
  ·exact hk.block b' hlt (fun e=>hb' e.symm)
  ·rw [Array.getElem?_eq_none (by simp [World.setRow];omega),Array.getElem?_eq_none hge]
 have mG:Row (w.setRow b (cs' ++ sp).toArray) Ei t.size (.slice (some ⟨b,0,none⟩) xs.length cap) xs'.length cs':=
  ⟨by rw [hlen,hxl];exact ig,.inr ⟨b,_,sp,by rw [hxl],by rw [hxl];exact hnc,dY.setRow (by simp [hlen]),by rw [← hcap];simp [hlen],iF⟩⟩
 have hal:∀ (k:Nat) (ys:List t.den),(rows.set q (some xs'))[k]? = some (some ys)->∃ zs,rows[k]? = some (some zs)∧(k ≠ q->ys=zs):=fun k ys hk=>by
  rw [List.getElem?_set] at hk
  split at hk
  ·rename_i wP;subst wP;exact ⟨xs,hq,fun h=>absurd rfl h⟩
  ·exact ⟨ys,hk,fun _=>rfl⟩
 exact hM.set (x':=.rr E Ei t (rows.set q (some xs')) out) (aM hb).1 ((jr b (cs' ++ sp).toArray).wide (fun b' e=>by subst e;exact hown))
  ⟨h,es,h1,h2,h3,Rs.same (r:=.row E 1 h.v out.length es) (fun b' aB=>d8 b' (fun e=>by subst e;exact h8.out q xs _ _ hq hv rfl aB)) h5,h6,⟨by rw [List.length_set];exact h8.len,fun k ys hk=>by
   by_cases uR:k=q
   ·subst uR
    have RN:k < rows.length:=(aM hq).1
    rw [List.getElem?_set_self RN] at hk
    cases hk
    exact ⟨_,_,hv,k2,hL,mG⟩
   ·obtain ⟨zs,gX,rG⟩:=hal k ys hk
    rw [rG uR]
    obtain ⟨v2,c2,m1,m2,m3,m4⟩:=h8.row k zs gX
    exact ⟨v2,c2,m1,m2,m3,Rs.same (r:=.row Ei t.size v2 zs.length c2) (fun b' aB=>d8 b' (fun e=>by subst e;exact uR (h8.apart k zs q xs v2 _ _ gX hq m1 hv aB rfl))) m4⟩,
   fun k ys k' ys' v1 v2 b' hk hk' e1 e2 n1 n2=>by
    obtain ⟨zs,gX,_⟩:=hal k ys hk
    obtain ⟨zs',TK,_⟩:=hal k' ys' hk'
    exact h8.apart k zs k' zs' v1 v2 b' gX TK e1 e2 n1 n2,
   fun k ys v1 b' hk e1 n1=>by
    obtain ⟨zs,gX,_⟩:=hal k ys hk
    exact h8.out k zs v1 b' gX e1 n1,h8.sl⟩⟩
def Om {β:Type} (c:aF) (il:aE) (tb:aj) (k:Option IV->aj->Option β) (ty aX id q:Nat) (B:Operand):Option β:=
 match c.D ty with
 | some (.slice e)=>match c.Z e,nth tb id with
  | some s,some (.rr E Ei t rows out)=>match Nat.beq s t.size with
   | true=>(fC rows q).bind fun xs=>og c il tb t aX B fun ys=>k (some (.o (.i (Nat.min ys.length xs.length:Nat)))) (tb.set id (.rr E Ei t (rows.set q (some (bC xs 0 ys (Nat.min ys.length xs.length)))) out))
   | false=>none
  | _,_=>none
 | _=>none
theorem afL {β:Type} {k:Option IV->aj->Option β} {r:β} (hc:aN P c) (hF:Fr n a l) (hE:ER O ρ il l) (hG:GO c O) (hM:Gm O ρ tb w) {ty aX id q:Nat} {A B:Operand} (ho:o.op=.call ⟨.builtin .copy,#[A,B],#[ty,aX]⟩) (hA:aC c il A=some (.rx id q)) (e:Om c il tb k ty aX id q B=some r):bG P a o O ρ w (· = id) k r:=by
 unfold Om at e
 split at e<;>first | (cases e;done) | skip
 rename_i el hd
 split at e<;>first | (cases e;done) | skip
 rename_i s E Ei t rows out hz hb
 split at e<;>first | (cases e;done) | skip
 rename_i hs
 have hs:=ay hs
 subst hs
 rw [aS] at hb
 obtain ⟨xs,hxs,e⟩:=bl e
 have hxs:=pX hxs
 obtain ⟨h,es,h1,h2,h3,h5,h6,h8⟩:=hM.th _ _ hb
 obtain ⟨u,hu,⟨h',v,m1,m2,m3,m4⟩,_⟩:=bu hE hG hA rfl (by simp) hF
 cases m3
 rw [h1] at m1;cases m1
 obtain ⟨v2,cs,n1,n2,n3,n4⟩:=h8.row q xs hxs
 rw [m2] at n1;cases n1
 obtain ⟨ys,fs,d2,hk,hL,jB,iP,hlen,mD⟩:=wW hc hF hE hG hM e
 have hfl:=LR.length (fun _ _=>TR.length) hL
 obtain ⟨m,hm⟩:∃ m,m=Nat.min ys.length xs.length:=⟨_,rfl⟩
 have pE:m≤ys.length:=hm ▸ Nat.min_le_left ..
 have bJ:m≤xs.length:=hm ▸ Nat.min_le_right ..
 rw [← hm] at hk
 have pR:=mD w rfl m pE
 have vM:=n3.bC (fun _ _=>TR.length) hL (lo:=0) (q:=m)
 obtain ⟨ig,mL⟩:=n4
 have oP:(fs.take (m * t.size)).length=m * t.size:=by
  rw [List.length_take,hfl];exact Nat.min_eq_left (Nat.mul_le_mul_right _ pE)
 have kB:aI cs 0 (fs.take (m * t.size))=cs.take (0 * t.size) ++ fs.take (m * t.size) ++ cs.drop ((0 + m) * t.size):=by
  simp only [aI,oP,Nat.zero_mul,Nat.zero_add]
 have ez:(bC xs 0 ys m).length=xs.length:=by
  simp only [bC,List.length_append,List.length_take,List.length_drop];omega
 have hle:0 + (fs.take (m * t.size)).length≤cs.length:=by
  rw [oP,ig,Nat.zero_add];exact Nat.mul_le_mul_right _ bJ
 rcases mL with ⟨f8,hn0⟩ | ⟨b2,cap,sp,e8,hnc,dY,hcap,iF⟩
 ·have hx0:xs=[]:=List.eq_nil_of_length_eq_zero hn0
  subst hx0
  subst f8
  have hm0:m=0:=by simp at bJ;exact bJ
  subst hm0
  have ot:fs.take (0 * t.size)=[]:=by simp
  rw [ot] at pR
  have hrun:=Cr (P:=P) (w':=w) (m:=0) hc ho hd hz hu (hlen w) (by rw [show Nat.min ys.length 0=0 from by simp];exact pR) (fun ad _=>rfl) (fun _=>rfl)
  rw [show Nat.min ys.length 0=0 from by simp] at hrun
  have hrows:rows.set q (some (bC [] 0 ys 0))=rows:=by
   have:(bC ([]:List t.den) 0 ys 0)=[]:=by simp [bC]
   rw [this]
   apply List.ext_getElem?
   intro i
   rw [List.getElem?_set]
   split
   ·rename_i SF;subst SF
    split
    ·exact hxs.symm
    ·rename_i hn;exact absurd (aM hxs).1 hn
   ·rfl
  rw [hrows] at hk
  have htb:tb.set id (.rr E Ei t rows out)=tb:=by
   apply List.ext_getElem?
   intro i
   rw [List.getElem?_set]
   split
   ·rename_i SF;subst SF
    split
    ·exact hb.symm
    ·rename_i hn;exact absurd (aM hb).1 hn
   ·rfl
  rw [htb] at hk
  exact ⟨some (.o (.i (0:Nat))),.o (.i (0:Nat)),tb,O,ρ,w,⟨⟨_,rfl,rfl,rfl⟩,hrun⟩,hM,.refl _ _ _ _,hk⟩
 ·subst e8
  have hone:∀ u ∈ fs.take (m * t.size),u.oneCell'=true:=fun u hu=>LR.one (fun _ _=>TR.one) hL u (List.mem_of_mem_take hu)
  have hst:=uX (P:=P) _ 0 0 (cs ++ sp) w dY (by rw [List.length_append];omega) hone
  simp only [Nat.add_zero] at hst
  have TB:(storeCells ⟨b2,0,none⟩ (fs.take (m * t.size))).run P w=.ok () (w.setRow b2 (aI cs 0 (fs.take (m * t.size)) ++ sp).toArray):=by
   rw [← uj (by omega)];exact hst
  have hrun:=Cr (P:=P) (m:=xs.length) (w':=w.setRow b2 (aI cs 0 (fs.take (m * t.size)) ++ sp).toArray) hc ho hd hz hu (hlen w) (by rw [← hm];exact pR) (fun ad hb'=>by cases hb';exact TB) (fun hb'=>by cases hb')
  rw [← hm] at hrun
  rw [← kB] at vM
  obtain ⟨g1,g2⟩:=ajN (xs':=bC xs 0 ys m) (cs':=aI cs 0 (fs.take (m * t.size))) hM hb h1 hxs m2 hnc dY hcap iF (mR hle) ez vM ig
  exact ⟨some (.o (.i (m:Nat))),.o (.i (m:Nat)),_,O,ρ,_,⟨⟨_,rfl,rfl,rfl⟩,hrun⟩,g1,g2,hk⟩
theorem Gm.mark {w':World} {b:Nat} {all:List Value} (hM:Gm O ρ tb w) (hO:O b=.im all) (hs:w'.heap.size=w.heap.size) (d8:∀ b',b' ≠ b->w'.heap[b']? = w.heap[b']?) (hb:∃ ty fz,w'.heap[b]? = some (.cells all.toArray ty fz)):Gm O ρ tb w':=by
 refine ⟨fun b' all' e=>?_,fun b' h=>hM.lt b' (hs ▸ h),hM.len,fun j x hx=>?_⟩
 ·by_cases h:b'=b
  ·subst h;rw [hO] at e;cases e;exact hb
  ·rw [d8 b' h];exact hM.im b' all' e
 ·have old:=hM.th j x hx
  cases x with
  | blk ty v=>
   obtain ⟨h,cs,h3,h4,h5,h6,h7⟩:=old
   exact ⟨h,cs,h3,h4,h5,h6,h7.same (d8 _ (fun e=>by rw [e,hO] at h4;cases h4))⟩
  | row E t xs=>
   obtain ⟨h,es,h3,h4,h5,h6,h7⟩:=old
   exact ⟨h,es,h3,h4,h5,h6,Rs.same (r:=.row E t.size h.v xs.length es) (fun b' aB=>d8 _ (fun e=>by have:=h5 b' aB;rw [e,hO] at this;cases this)) h7⟩
  | fz t xs=>exact old
  | no=>trivial
  | ob o0=>
   obtain ⟨h,h3,h4,h5⟩:=old
   exact ⟨h,h3,h4,by rw [d8 _ (fun e=>by rw [e,hO] at h4;cases h4)];exact h5⟩
  | mp kt vt l=>
   obtain ⟨h,es,h3,h4,h5,h6⟩:=old
   exact ⟨h,es,h3,h4,by rw [d8 _ (fun e=>by rw [e,hO] at h4;cases h4)];exact h5,h6⟩
  | it n seen=>
   obtain ⟨h,h3,h4,bm,h5,h7⟩:=old
   exact ⟨h,h3,h4,bm,h5,by rw [d8 _ (fun e=>by rw [e,hO] at h4;cases h4)];exact h7⟩
  | rr E Ei t rows out=>
   obtain ⟨h,es,h3,h4,h5,h6,h7,h8⟩:=old
   have hs:∀ b',O b'=.th j->O b'=.th j∧w'.heap[b']? = w.heap[b']?:=fun b' hb'=>⟨hb',d8 _ (fun e=>by rw [e,hO] at hb';cases hb')⟩
   exact ⟨h,es,h3,h4,h5,Rs.same (r:=.row E 1 h.v out.length es) (fun b' aB=>(hs b' (h5 b' aB)).2) h6,h7,h8.frame (fun _ _ h=>h) hs⟩
def JL {β:Type} (c:aF) (il:aE) (tb:aj) (k:Option IV->aj->Option β) (src dst:Nat) (x:Operand):Option β:=
 match c.D src,Nat.beq src dst,aC c il x with
 | some (.slice e),true,some (.rw id)=>match c.D e,nth tb id with
  | some (.int .u8),some (.row E t xs)=>match xs with
   | []=>none
   | x :: xs=>k (some (.rw id)) (tb.set id (.fz t (x :: xs)))
  | _,_=>none
 | _,_,_=>none
theorem adw {β:Type} {k:Option IV->aj->Option β} {r:β} (hc:aN P c) (hF:Fr n a l) (hE:ER O ρ il l) (hG:GO c O) (hM:Gm O ρ tb w) {src dst:Nat} {x:Operand} (ho:o.op=.convert src dst x) (e:JL c il tb k src dst x=some r) {v:IV} (hv:aC c il x=some v):bG P a o O ρ w (· ∈ a_ v) k r:=by
 unfold JL at e
 split at e<;>first | (cases e;done) | skip
 rename_i el id hd kV hx
 have kV:=ay kV
 subst kV
 rw [hv] at hx;cases hx
 split at e<;>first | (cases e;done) | skip
 rename_i E t xs he hb
 split at e<;>first | (cases e;done) | skip
 rename_i x0 xs
 rw [aS] at hb
 obtain ⟨sv,hy,zl⟩:=qF hE hG hv
 have afD:=zl
 obtain ⟨y0,rfl,u,rfl,hR⟩:=zl
 have hu:a.eval x=u:=aW hF hy
 obtain ⟨O',h,h1,g1,g2,g3,g4,g5⟩:=hM.Eb hb
 obtain ⟨h',es,je,h2,h3,h4,h5⟩:=hM.th _ _ hb
 rw [h1] at je;cases je
 have AM:=hR
 obtain ⟨h'',k1,k2,_⟩:=AM
 rw [h1] at k1;cases k1
 simp only [List.cons.injEq,and_true] at k2
 obtain ⟨hl,h6⟩:=h5
 rcases h6 with ⟨_,h0⟩ | ⟨b,cap,sp,eV,hnc,⟨fz,hh,hfz⟩,hcap,dF⟩
 ·simp at h0
 have UI:b < w.heap.size:=(Array.getElem?_eq_some_iff.1 hh).1
 have arZ:w.shape? b=some (E,(es ++ sp).length):=by simp [World.shape?,hh]
 have hOb:O' b=.im (es ++ sp):=by
  obtain ⟨u2,wg,e1,e2,e3⟩:=g3
  simp only [List.cons.injEq,and_true] at e1
  subst e1
  rcases e3 with ⟨e3,_⟩ | ⟨b2,off,cp,e3,_,all,e4,_⟩
  ·simp at e3
  ·rw [eV] at e3;cases e3
   obtain ⟨aX,fz2,wG⟩:=g1.im b all e4
   rw [hh] at wG
   injection wG with wG
   injection wG with wG
   rw [e4];simpa using (congrArg Array.toList wG).symm
 have hfr:∀ m:Nat,∃ B2,(w.freeze ⟨b,m,none⟩ 1).heap=w.heap.modify b (fun _=>.cells (es ++ sp).toArray E B2):=fun m=>by
  refine ⟨if fz.1 == fz.2 then (m,m + 1) else (min fz.1 m,max fz.2 (m + 1)),?_⟩
  unfold World.freeze
  rw [if_neg (by decide)]
  apply Array.ext
  ·simp
  ·intro i h1 h2
   simp only [Array.getElem_modify]
   by_cases hi:b=i
   ·subst hi
    have:w.heap[b]'UI=.cells (es ++ sp).toArray E fz:=by
     rw [Array.getElem?_eq_getElem UI] at hh;injection hh
    simp [this]
   ·simp [hi]
 obtain ⟨B2,hfr⟩:=hfr (es ++ sp).length
 have hrun:(execOp a.eval o).run P w=.ok (.value (SV.o (.v u)).val) (w.freeze ⟨b,(es ++ sp).length,none⟩ 1):=by
  simp only [execOp,ho,hu]
  have qL:(SV.o (.v u)).val=u:=rfl
  rw [qL,k2,eV]
  have:(convert src src (.slice (some ⟨b,0,none⟩) (x0 :: xs).length cap)).run P w=.ok (.slice (some ⟨b,0,none⟩) (x0 :: xs).length cap) (w.freeze ⟨b,(es ++ sp).length,none⟩ 1):=by
   simp [convert,run_underlying (hc.tok.desc _ _ hd),run_underlying (hc.tok.desc _ _ he),markStringish,arZ]
  simp only [Sem.run_bind,this,Result.andThen_ok]
  rfl
 have d8:∀ b',b' ≠ b->(w.freeze ⟨b,(es ++ sp).length,none⟩ 1).heap[b']? = w.heap[b']?:=fun b' hb'=>by
  rw [hfr,Array.getElem?_modify];simp [Ne.symm hb']
 refine ⟨some (.rw id),.o (.v u),_,O',ρ,_,⟨SR.mono g2.im g2.pre afD,hrun⟩,g1.mark hOb (by rw [hfr];simp) d8 ⟨E,B2,by rw [hfr,Array.getElem?_modify];simp [hh]⟩,?_,e⟩
 ·refine ⟨g2.pre,g2.im,g2.no,fun b' j hb' ho' hn=>g2.own b' j hb' ho' (fun e=>hn (by subst e;simp [a_])),⟨rfl,rfl,rfl,by rw [hfr];simp,fun b' hb' hn=>d8 b' (fun e=>hn ⟨id,by simp [a_],by rw [e];exact h3 b (by rw [eV];rfl)⟩)⟩⟩
def aam {β:Type} (c:aF) (il:aE) (tb:aj) (k:Option IV->aj->Option β) (src dst:Nat) (x:Operand):Option β:=
 match c.D src with
 | some (.slice _)=>JL c il tb k src dst x
 | _=>Rv c il tb k src dst x
def Rk {β:Type} (c:aF) (il:aE) (tb:aj) (k:Option IV->aj->Option β) (t:Nat) (x:Operand):Option β:=
 match c.M t,aC c il x with
 | some _,some (.mp id)=>match nth tb id with
  | some (.mp _ _ l)=>k (some (.it tb.length id)) (tb ++ [.it l.length []])
  | _=>none
 | _,_=>none
theorem MR.len {kt vt:Ty}:∀ {q:Nat} {l:List (kt.den×vt.den)} {es:List MapEntry},MR O kt vt q l es->es.length=l.length
 | _,[],_,h=>by simp only [MR] at h;subst h;rfl
 | q,(_,_) :: l,_,⟨e,r,h1,_,_,_,h5⟩=>by subst h1;simp [MR.len h5]
theorem MR.at {kt vt:Ty}:∀ {q:Nat} {l:List (kt.den×vt.den)} {es:List MapEntry} {j:Nat} {x:kt.den×vt.den},MR O kt vt q l es->l[j]? = some x->∃ e,es[j]? = some e∧e.born=q + j∧VR O kt x.1 e.key∧VR O vt x.2 e.val
 | _,[],_,j,x,_,hx=>by simp at hx
 | q,(a,b) :: l,_,0,x,⟨e,r,h1,h2,h3,h4,_⟩,hx=>by simp at hx;subst hx;subst h1;exact ⟨e,rfl,h2,h3,h4⟩
 | q,(a,b) :: l,_,j + 1,x,⟨e,r,h1,_,_,_,h5⟩,hx=>by
  subst h1
  obtain ⟨e2,g1,g2,g3⟩:=MR.at h5 (by simpa using hx)
  exact ⟨e2,by simpa using g1,by omega,g3⟩
theorem MR.born {kt vt:Ty} {q:Nat} {l:List (kt.den×vt.den)} {es:List MapEntry} (h:MR O kt vt q l es) {j:Nat} {e:MapEntry} (he:es[j]? = some e):e.born=q + j:=by
 have hl:j < l.length:=by rw [← h.len];exact (aM he).1
 obtain ⟨e2,g1,g2,_⟩:=h.at (List.getElem?_eq_getElem hl)
 rw [he] at g1;cases g1;exact g2
theorem MR.nodup {kt vt:Ty} {q:Nat} {l:List (kt.den×vt.den)} {es:List MapEntry} (h:MR O kt vt q l es):(es.map (·.born)).Nodup:=by
 have:es.map (·.born)=List.range' q es.length:=by
  apply List.ext_getElem?
  intro i
  rw [List.getElem?_map]
  rcases Nat.lt_or_ge i es.length with hi | hi
  ·rw [List.getElem?_eq_getElem hi,List.getElem?_range' (by omega)]
   simp only [Option.map_some,az]
   rw [h.born (List.getElem?_eq_getElem hi)];omega
  ·rw [List.getElem?_eq_none hi,List.getElem?_eq_none (by simpa using hi)];rfl
 rw [this];exact List.nodup_range'
theorem aeL {β:Type} {k:Option IV->aj->Option β} {r:β} (hc:aN P c) (hF:Fr n a l) (hE:ER O ρ il l) (hG:GO c O) (hM:Gm O ρ tb w) {t:Nat} {x:Operand} (ho:o.op=.range t x) (e:Rk c il tb k t x=some r):bG P a o O ρ w (fun _=>False) k r:=by
 unfold Rk at e
 split at e<;>first | (cases e;done) | skip
 rename_i p id hp hx
 obtain ⟨p1,p2⟩:=p
 split at e<;>first | (cases e;done) | skip
 rename_i kt vt l hb
 rw [aS] at hb
 obtain ⟨h,es,h1,h2,h3,h4⟩:=hM.th _ _ hb
 obtain ⟨kk,ee,z,g1,_⟩:=hc.maps _ _ _ hp
 obtain ⟨u,hu,⟨h',h6,h7⟩,_⟩:=bu hE hG hx rfl (by simp) hF
 cases h7
 rw [h1] at h6;cases h6
 have hsz:es.size=l.length:=by rw [← h4.len];simp
 have hrun:(execOp a.eval o).run P w=.ok (.value (.pointer (some ⟨w.heap.size,0,none⟩))) (w.alloc (.mapIter (some h.b) es.size #[] es.size)):=by
  simp [execOp,ho,hu,run_range_map w _ _ _ h.b es es.size g1 h3]
 have aQ:(ρ ++ [(⟨w.heap.size,.one,.map (some h.b),[]⟩:Hd)])[tb.length]? = some ⟨w.heap.size,.one,.map (some h.b),[]⟩:=by rw [← hM.len];simp
 obtain ⟨q1,q2⟩:=hM.new (h:=⟨w.heap.size,.one,.map (some h.b),[]⟩) (x:=.it l.length []) (w':=w.alloc (.mapIter (some h.b) es.size #[] es.size)) (Nat.beq w.heap.size) ⟨rfl,rfl,rfl,by show w.heap.size≤(w.heap.push _).size;simp,fun b hb' _=>by
   rw [@heap_alloc_old w _ b hb']⟩ (fun b aB=>by have:=ay aB;subst this;exact ⟨Nat.le_refl _,by show w.heap.size < (w.heap.push _).size;simp⟩)
  ⟨_,aQ,by simp,h.b,rfl,by rw [heap_alloc_new];simp [hsz]⟩
 exact ⟨some (.it tb.length id),.o (.v (vP w.heap.size 0)),_,_,_,_,⟨.fS (v:=.it tb.length id) ⟨_,rfl,_,_,aQ,dR _ h1,rfl,rfl⟩,hrun⟩,q1,q2,e⟩
def Sa (n m:Nat):Option Unit:=if n=m then some () else none
theorem arE {n m:Nat} {u:Unit} (h:Sa n m=some u):n=m:=by
 unfold Sa at h;split at h
 ·assumption
 ·cases h
def PA {β:Type} (c:aF) (il:aE) (tb:aj) (k:Option IV->aj->Option β) (x:Operand):Option β:=
 match aC c il x with
 | some (.it id mid)=>match nth tb id,nth tb mid with
  | some (.it n seen),some (.mp kt vt l)=>match seen,kt.agg with
   | q :: _,false=>(Sa n l.length).bind fun _=>(l[q]?).bind fun e=>k (some (.tu (.pr (dD kt e.1) (.pr (dD vt e.2) .un)))) tb
   | _,_=>none
  | _,_=>none
 | _=>none
theorem VR.S0 {t:Ty} {x:t.den} {v:Value} (h:VR O t x v):∃ y:S0,y.val=v∧eB O ρ (dD t x) y:=by
 unfold VR at h
 cases e:t.agg with
 | true=>
  rw [e] at h
  obtain ⟨cs,rfl,hT⟩:=h
  exact ⟨.v (.agg cs.toArray),rfl,eB.Ag (by rw [MF,e]) (ju hT)⟩
 | false=>
  rw [e] at h
  have hR:=ju (ρ:=ρ) h
  by_cases ho:∃ y,dD t x=.o y
  ·obtain ⟨y,hy⟩:=ho
   rw [hy] at hR ⊢
   obtain ⟨h1,h2⟩:=hR
   cases h1
   exact ⟨y,rfl,rfl,h2⟩
  ·refine ⟨.v v,rfl,?_⟩
   cases t<;>simp only [Ty.agg] at e<;>first | (cases e;done) | (exact absurd ⟨_,rfl⟩ ho) | exact ⟨v,rfl,hR⟩
theorem alq {β:Type} {k:Option IV->aj->Option β} {r:β} (hc:aN P c) (hF:Fr n a l) (hE:ER O ρ il l) (hG:GO c O) (hM:Gm O ρ tb w) {x:Operand} (ho:o.op=.entry x) (e:PA c il tb k x=some r):bG P a o O ρ w (fun _=>False) k r:=by
 unfold PA at e
 split at e<;>first | (cases e;done) | skip
 rename_i id mid hx
 split at e<;>first | (cases e;done) | skip
 rename_i n0 seen kt vt l pn dw
 split at e<;>first | (cases e;done) | skip
 rename_i q seen hkt
 obtain ⟨_,hs,e⟩:=bl e
 have hs:=arE hs
 obtain ⟨y,hy,e⟩:=bl e
 rw [aS] at pn dw
 obtain ⟨h,h3,h4,bm,h5,h7⟩:=hM.th _ _ pn
 obtain ⟨hm,es,g1,g2,g3,g4⟩:=hM.th _ _ dw
 obtain ⟨u,hu,⟨h',hm',k1,k2,k3,k4⟩,_⟩:=bu hE hG hx rfl (by simp) hF
 cases k4
 rw [h3] at k1;cases k1
 rw [g1] at k2;cases k2
 rw [h5] at k3;cases k3
 obtain ⟨D7,m1,m2,m3,m4⟩:=g4.at hy
 have m2:D7.born=q:=by omega
 have hsz:es.size=n0:=by rw [hs,← g4.len];simp
 have hrun:(execOp a.eval o).run P w=.ok (.value (.tuple #[D7.key,D7.val])) w:=by
  have hr:w.heap[h.b]? = some (.mapIter (some hm.b) n0 (seen.reverse.toArray.push D7.born) es.size):=by rw [h7,m2,hsz];simp
  have:=run_entry_at (P:=P) w h.b hm.b n0 seen.reverse.toArray es es.size D7 hr g3 (List.mem_of_getElem? m1) g4.nodup
  simp [execOp,ho,hu,this]
 obtain ⟨y1,p1,p2⟩:=VR.S0 (ρ:=ρ) m4
 obtain ⟨y0,r1,r2⟩:=VR.S0 (ρ:=ρ) m3
 refine ⟨some (.tu (.pr (dD kt y.1) (.pr (dD vt y.2) .un))),.t [y0,y1],tb,O,ρ,w,⟨⟨_,rfl,y0,_,rfl,r2,y1,_,rfl,p2,rfl⟩,?_⟩,hM,.refl _ _ _ _,e⟩
 rw [hrun];simp [SV.val,r1,p1]
def Yw {β:Type} (c:aF) (il:aE) (tb:aj) (k:Option IV->aj->Option β) (t:Nat) (x y:Operand):Option β:=
 match aC c il x,aC c il y with
 | some (.el id j []),some (.rw cK)=>match nth tb id with
  | some (.rr _ _ _ _ _)=>OS c tb k t id j cK
  | some (.row _ _ _)=>Pn c tb k t id j cK
  | _=>none
 | some _,_=>Nz c il tb k t x y
 | none,_=>none
def EQ (c:aF) (ty:Nat):Option (Nat×Nat×Ty):=
 match c.D ty with
 | some (.slice e)=>match c.R e with
  | some p=>some (e,p.1,p.2)
  | none=>none
 | _=>none
theorem aq8 {ty:Nat} {p:Nat×Nat×Ty} (h:EQ c ty=some p):c.D ty=some (.slice p.1)∧c.R p.1=some (p.2.1,p.2.2):=by
 unfold EQ at h
 split at h<;>first | (cases h;done) | skip
 rename_i e hd
 split at h<;>first | (cases h;done) | skip
 rename_i q hq
 cases h;exact ⟨hd,hq⟩
def Uz {β:Type} (c:aF) (il:aE) (tb:aj) (k:Option IV->aj->Option β) (ty aX:Nat) (A B:Operand):Option β:=
 match EQ c ty with
 | some p=>NX c il tb k ty aX A B p.1 p.2.1 p.2.2
 | none=>match aC c il A with
  | some (.rx id q)=>NK c il tb k ty aX id q B
  | some _=>Rq c il tb k ty aX A B
  | none=>none
def aad {β:Type} (c:aF) (il:aE) (tb:aj) (k:Option IV->aj->Option β) (ty aX:Nat) (A B:Operand):Option β:=
 match aC c il A with
 | some (.rx id q)=>Om c il tb k ty aX id q B
 | some _=>Tf c il tb k ty aX A B
 | none=>none
def M7 {β:Type} (c:aF) (il:aE) (tb:aj) (k:Option IV->aj->Option β) (t:Nat) (x:Operand):Option β:=
 match c.D t with
 | some .string=>match aC c il x with
  | some (.o (.s xs))=>k (some (.pt tb.length [])) (tb ++ [.ob (.stringIter ⟨xs.toArray⟩ 0)])
  | _=>none
 | _=>Rk c il tb k t x
theorem akJ {β:Type} {k:Option IV->aj->Option β} {r:β} (hc:aN P c) (hF:Fr n a l) (hE:ER O ρ il l) (hG:GO c O) (hM:Gm O ρ tb w) {t:Nat} {x:Operand} (ho:o.op=.range t x) (e:M7 c il tb k t x=some r):bG P a o O ρ w (fun _=>False) k r:=by
 unfold M7 at e
 split at e
 ·rename_i hd
  split at e<;>first | (cases e;done) | skip
  rename_i xs hx
  have hv:=aW hF (b8 hE hG hx).1
  have hv:a.eval x=.string ⟨xs.toArray⟩:=hv
  have aQ:(ρ ++ [(⟨w.heap.size,.nil,.bool false,[]⟩:Hd)])[tb.length]? = some ⟨w.heap.size,.nil,.bool false,[]⟩:=by rw [← hM.len];simp
  have hrun:(execOp a.eval o).run P w=.ok (.value (.pointer (some ⟨w.heap.size,0,none⟩))) (w.alloc (.stringIter ⟨xs.toArray⟩ 0)):=by
   simp only [execOp,ho,hv]
   have:(Instr.range t (.string ⟨xs.toArray⟩)).run P w=.ok (.pointer (some ⟨w.heap.size,0,none⟩)) (w.alloc (.stringIter ⟨xs.toArray⟩ 0)):=by
    simp [Instr.range,run_underlying (hc.tok.desc _ _ hd),newObj,Sem.run]
   simp [this]
  obtain ⟨q1,q2⟩:=hM.new (h:=⟨w.heap.size,.nil,.bool false,[]⟩) (x:=.ob (.stringIter ⟨xs.toArray⟩ 0)) (w':=w.alloc (.stringIter ⟨xs.toArray⟩ 0)) (Nat.beq w.heap.size) ⟨rfl,rfl,rfl,by show w.heap.size≤(w.heap.push _).size;simp,fun b hb' _=>by
    rw [@heap_alloc_old w _ b hb']⟩ (fun b aB=>by have:=ay aB;subst this;exact ⟨Nat.le_refl _,by show w.heap.size < (w.heap.push _).size;simp⟩)
   ⟨_,aQ,by simp,by rw [heap_alloc_new]⟩
  exact ⟨some (.pt tb.length []),.o (.v (vP w.heap.size 0)),_,_,_,_,⟨.fS (v:=.pt tb.length []) ⟨_,rfl,_,0,aQ,rfl,rfl⟩,hrun⟩,q1,q2,e⟩
 ·exact aeL hc hF hE hG hM ho e
def XL (s:ByteArray) (pos:Nat):IV:=.tu (.pr (.o (.b true)) (.pr (.o (.i (pos:Int))) (.pr (.o (.v (.int .i32 (Utf8.decode s pos).1))) .un)))
def GL:IV:=.tu (.pr (.o (.b false)) .un)
def Fh {β:Type} (c:aF) (il:aE) (tb:aj) (k:Option IV->aj->Option β) (x:Operand) (str:Bool):Option β:=
 match aC c il x,str with
 | some (.pt id []),true=>match nth tb id with
  | some (.ob (.stringIter s pos))=>match Nat.blt pos s.size with
   | true=>k (some (XL s pos)) (tb.set id (.ob (.stringIter s (pos + (Utf8.decode s pos).2))))
   | false=>k (some GL) tb
  | _=>none
 | some (.it id mid),false=>match nth tb id,nth tb mid with
  | some (.it _ []),some (.mp _ _ [])=>k (some GL) tb
  | _,_=>none
 | _,_=>none
theorem arn {β:Type} {k:Option IV->aj->Option β} {r:β} (hF:Fr n a l) (hE:ER O ρ il l) (hG:GO c O) (hM:Gm O ρ tb w) {x:Operand} {str:Bool} (ho:o.op=.next x str) (e:Fh c il tb k x str=some r) {v:IV} (hv:aC c il x=some v):bG P a o O ρ w (· ∈ a_ v) k r:=by
 unfold Fh at e
 split at e<;>first | (cases e;done) | skip
 ·rename_i id hx
  rw [hv] at hx;cases hx
  split at e<;>first | (cases e;done) | skip
  rename_i s pos hb
  rw [aS] at hb
  obtain ⟨h,h1,h2,h3⟩:=hM.th _ _ hb
  obtain ⟨u,hu,⟨h',off,h6,h7,h8⟩,_⟩:=bu hE hG hv rfl (by simp) hF
  have hz:h'.z.off []=some 0:=by cases h'.z<;>rfl
  rw [hz] at h7;cases h7
  cases h8
  rw [h1] at h6;cases h6
  have hg:(getObj h.b).run P w=.ok (.stringIter s pos) w:=by simp [getObj,Sem.run,h3]
  split at e
  ·rename_i hlt
   have hlt:pos < s.size:=Nat.le_of_ble_eq_true hlt
   have hlb:h.b < w.heap.size:=(Array.getElem?_eq_some_iff.1 h3).1
   have hrun:(execOp a.eval o).run P w=.ok (.value (.tuple #[.bool true,.int .i64 pos,.int .i32 (Utf8.decode s pos).1])) { w with heap:=w.heap.setIfInBounds h.b (.stringIter s (pos + (Utf8.decode s pos).2)) }:=by
    simp only [execOp,ho,hu]
    simp [Instr.next,hg,vP,hlt,setObj,Sem.run,h3,goInt]
   obtain ⟨dX,ei⟩:=hM.set (x':=.ob (.stringIter s (pos + (Utf8.decode s pos).2))) (w':={ w with heap:=w.heap.setIfInBounds h.b (.stringIter s (pos + (Utf8.decode s pos).2)) }) (aM hb).1 (⟨rfl,rfl,rfl,by simp,fun b' hb' hn=>by simp [Array.getElem?_setIfInBounds];intro e';subst e';exact absurd h2 hn⟩)
    ⟨h,h1,h2,by simp [hlb]⟩
   exact ⟨some (XL s pos),.t [.b true,.i pos,.v (.int .i32 (Utf8.decode s pos).1)],_,_,_,_,⟨⟨_,rfl,_,_,rfl,⟨rfl,rfl⟩,_,_,rfl,⟨rfl,rfl⟩,_,_,rfl,⟨rfl,rfl⟩,rfl⟩,hrun⟩,dX,ei.bD (fun i e=>by subst e;simp [a_]),e⟩
  ·rename_i hlt
   have hlt:¬ pos < s.size:=fun h=>by rw [show pos.blt s.size=true from Nat.ble_eq_true_of_le h] at hlt;cases hlt
   have hrun:(execOp a.eval o).run P w=.ok (.value (.tuple #[.bool false])) w:=by
    simp only [execOp,ho,hu]
    simp [Instr.next,hg,vP,hlt]
   exact ⟨some GL,.t [.b false],_,_,_,_,⟨⟨_,rfl,_,_,rfl,⟨rfl,rfl⟩,rfl⟩,hrun⟩,hM,.refl _ _ _ _,e⟩
 ·rename_i id mid hx
  rw [hv] at hx;cases hx
  split at e<;>first | (cases e;done) | skip
  rename_i nn kt vt hb Vc
  rw [aS] at hb Vc
  obtain ⟨h,h1,h2,bm,h3,h4⟩:=hM.th _ _ hb
  obtain ⟨hm,es,m1,m2,m3,m4⟩:=hM.th _ _ Vc
  have lT:es = #[]:=by
   have:es.toList=[]:=m4
   exact Array.toList_inj.1 (by simpa using this)
  subst lT
  obtain ⟨u,hu,⟨h',hm',h6,h7,h8,h9⟩,_⟩:=bu hE hG hv rfl (by simp) hF
  cases h9
  rw [h1] at h6;cases h6
  rw [m1] at h7;cases h7
  rw [h3] at h8;cases h8
  have hg:(getObj h.b).run P w=.ok (.mapIter (some hm.b) nn #[] nn) w:=by simp [getObj,Sem.run,h4]
  have rC:(getObj hm.b).run P w=.ok (.map #[] 0) w:=by simp [getObj,Sem.run,m3]
  have hrun:(execOp a.eval o).run P w=.ok (.value (.tuple #[.bool false])) w:=by
   simp only [execOp,ho,hu]
   simp [Instr.next,hg,rC,vP,choose,Sem.run,Question.forced]
  exact ⟨some GL,.t [.b false],_,_,_,_,⟨⟨_,rfl,_,_,rfl,⟨rfl,rfl⟩,rfl⟩,hrun⟩,hM,.refl _ _ _ _,e⟩
def CY {β:Type} (c:aF) (il:aE) (tb:aj) (k:Option IV->aj->Option β):Op->Option β
 | .alloc t=>HV c tb k t
 | .box t x=>OL c il tb k t x
 | .store t x y=>Yw c il tb k t x y
 | .makeSlice t x y=>NI c il tb k t x y
 | .buildSlice t len ps=>Q_ c il tb k t len ps.toList
 | .convert src dst x=>aam c il tb k src dst x
 | .call cl=>match cl.callee,cl.args.toList,cl.argTypes.toList with
  | .builtin .append,[A,B],[ty,aX]=>Uz c il tb k ty aX A B
  | .builtin .copy,[A,B],[ty,aX]=>aad c il tb k ty aX A B
  | _,_,_=>none
 | .makeMap t h=>Rg c il tb k t h
 | .mapUpdate t m x y=>KX c il tb k t m x y
 | .mapEntry t m x=>Hr c il tb k t m x
 | .entryStore _ m x y=>LO c il tb k m x y
 | .range t x=>M7 c il tb k t x
 | .next x s=>Fh c il tb k x s
 | .entry x=>PA c il tb k x
 | _=>none
def gx (c:aF) (il:aE):Op->List Nat
 | .buildSlice _ _ ps=>uW c il ps.toList
 | .store t x y=>match aC c il x,aC c il y with
  | some (.el id _ []),some (.rw cK)=>[id,cK]
  | some v,_=>a_ v
  | none,_=>[]
 | .convert _ _ x=>match aC c il x with
  | some v=>a_ v
  | none=>[]
 | .mapUpdate _ x _ y=>match aC c il x,aC c il y with
  | some v,some (.rw cK)=>a_ v ++ [cK]
  | some v,_=>a_ v
  | none,_=>[]
 | .mapEntry _ x _=>match aC c il x with
  | some v=>a_ v
  | none=>[]
 | .entryStore _ x _ _=>match aC c il x with
  | some v=>a_ v
  | none=>[]
 | .next x _=>match aC c il x with
  | some v=>a_ v
  | none=>[]
 | .call cl=>match cl.args.toList,cl.argTypes.toList with
  | [A,B],[ty,_]=>match EQ c ty with
   | some _=>xI c il A B
   | none=>(match aC c il A with
    | some v=>a_ v
    | none=>[])
  | A :: _,_=>(match aC c il A with
   | some v=>a_ v
   | none=>[])
  | [],_=>[]
 | _=>[]
theorem bG.bD {β:Type} {k:Option IV->aj->Option β} {r:β} {M M':Nat->Prop} (h:∀ i,M i->M' i) (H:bG P a o O ρ w M k r):bG P a o O ρ w M' k r:=by
 obtain ⟨v,x,aL,O',ρ',w2,g1,g2,g3,g4⟩:=H
 exact ⟨v,x,aL,O',ρ',w2,g1,g2,g3.bD h,g4⟩
theorem Wc {β:Type} {k:Option IV->aj->Option β} {r:β} (hc:aN P c) (hF:Fr n a l) (hE:ER O ρ il l) (hG:GO c O) (hM:Gm O ρ tb w) (e:CY c il tb k o.op=some r):bG P a o O ρ w (· ∈ gx c il o.op) k r:=by
 cases ho:o.op<;>rw [ho] at e<;>simp only [CY] at e<;>first | (cases e;done) | skip
 case alloc t=>exact (ani hc hM ho e).bD (fun _ h=>h.elim)
 case box t x=>exact (aiD hF hE hG hM ho e).bD (fun _ h=>h.elim)
 case store t x y=>
  unfold Yw at e
  split at e
  ·rename_i id j cK hx hy
   have hid:gx c il (.store t x y)=[id,cK]:=by simp only [gx,hx,hy]
   rw [hid]
   split at e<;>first | (cases e;done) | skip
   ·exact (afp hc hF hE hG hM ho hx hy e).wk fun i hi=>by simpa using hi
   ·exact (agK hc hF hE hG hM ho hx hy e).wk fun i hi=>by simpa using hi
  ·rename_i v hx hn
   have hid:gx c il (.store t x y)=a_ v:=by
    simp only [gx]
    split
    ·rename_i h1 h2
     rw [hx] at h1
     simp only [az] at h1
     exact absurd h1 (hn _ _ _ h2)
    ·rename_i h1 _;rw [hx] at h1;cases h1;rfl
    ·rename_i h1;rw [hx] at h1;cases h1
   rw [hid]
   exact aqi hc hF hE hG hM ho e hx
  ·cases e
 case makeMap t h=>exact (aeJ hc hF hE hG hM ho e).bD (fun _ h=>h.elim)
 case mapUpdate t m x y=>
  cases hx:aC c il m with
  | none=>
   exfalso
   unfold KX at e
   have h1:∀ tb t2 xs,zb c il tb k t m x t2 xs ≠ some r:=fun tb t2 xs e=>by
    unfold zb at e;simp only [hx] at e;split at e<;>first | (cases e;done) | (rename_i h _;cases h)
   split at e
   ·split at e<;>first | exact h1 _ _ _ e | cases e
   ·unfold Ji at e;simp only [hx] at e;split at e<;>first | (cases e;done) | (rename_i h _ _;cases h)
  | some v=>
   refine (afr hc hF hE hG hM ho e hx).wk fun i hi=>?_
   simp only [gx,hx]
   rcases hi with hi | hi
   ·split
    ·rename_i h _;cases h;exact List.mem_append_left _ hi
    ·rename_i h _;cases h;exact hi
    ·rename_i h;cases h
   ·rw [hi];simp
 case mapEntry t m x=>
  cases hx:aC c il m with
  | none=>exfalso;unfold Hr at e;simp only [hx] at e;split at e<;>first | (cases e;done) | (rename_i h _;cases h)
  | some v=>have:=apy hc hF hE hG hM ho e hx;simpa only [gx,hx] using this
 case entryStore t m x y=>
  cases hx:aC c il m with
  | none=>exfalso;unfold LO at e;simp only [hx] at e;first | (cases e;done) | (split at e<;>first | (cases e;done) | (rename_i h _ _;cases h))
  | some v=>have:=ae4 hc hF hE hG hM ho e hx;simpa only [gx,hx] using this
 case range t x=>exact (akJ hc hF hE hG hM ho e).bD (fun _ h=>h.elim)
 case next x s=>
  cases hx:aC c il x with
  | none=>exfalso;unfold Fh at e;simp only [hx] at e;cases e
  | some v=>have:=arn (P:=P) hF hE hG hM ho e hx;simpa only [gx,hx] using this
 case entry x=>exact (alq hc hF hE hG hM ho e).bD (fun _ h=>h.elim)
 case makeSlice t x y=>exact (anD hc hF hE hG hM ho e).bD (fun _ h=>h.elim)
 case buildSlice t len ps=>exact acN hc hF hE hG hM ho e
 case convert src dst x=>
  unfold aam at e
  split at e
  ·cases hx:aC c il x with
   | none=>exfalso;unfold JL at e;simp only [hx] at e;split at e<;>first | (cases e;done) | (rename_i h;cases h)
   | some v=>have:=adw hc hF hE hG hM ho e hx;simpa only [gx,hx] using this
  ·exact (asp hc hF hE hG hM ho e).bD (fun _ h=>h.elim)
 case call cl=>
  obtain ⟨callee,args,ts⟩:=cl
  simp only at e
  split at e<;>first | (cases e;done) | skip
  ·rename_i A B ty aX ha hts
   have ha:=lE ha
   have hts:=lE hts
   subst ha hts
   unfold Uz at e
   split at e
   ·rename_i p hp
    obtain ⟨hp1,hp2⟩:=aq8 hp
    have hid:gx c il (.call ⟨.builtin .append,#[A,B],#[ty,aX]⟩)=xI c il A B:=by simp only [gx,hp]
    rw [hid]
    exact ad2 hc hF hE hG hM ho hp1 hp2 e
   ·rename_i hp
    split at e<;>first | (cases e;done) | skip
    ·rename_i id q hx
     have hid:gx c il (.call ⟨.builtin .append,#[A,B],#[ty,aX]⟩)=[id]:=by simp only [gx,hp,hx];rfl
     rw [hid]
     exact (aij hc hF hE hG hM ho hx e).wk fun i hi=>by simp only [List.mem_singleton];exact hi
    ·rename_i v _ hx
     have hid:gx c il (.call ⟨.builtin .append,#[A,B],#[ty,aX]⟩)=a_ v:=by simp only [gx,hp,hx]
     rw [hid]
     exact ary hc hF hE hG hM ho e hx
  ·rename_i A B ty aX ha hts
   have ha:=lE ha
   have hts:=lE hts
   subst ha hts
   have sub:∀ i v,aC c il A=some v->i ∈ a_ v->i ∈ gx c il (.call ⟨.builtin .copy,#[A,B],#[ty,aX]⟩):=fun i v hx hi=>by
    simp only [gx]
    split
    ·simp only [xI,hx,List.mem_append];exact .inl hi
    ·simp only [hx];exact hi
   unfold aad at e
   split at e<;>first | (cases e;done) | skip
   ·rename_i id q hx
    exact (afL hc hF hE hG hM ho hx e).wk fun i hi=>sub i _ hx (by simp only [a_,List.mem_singleton];exact hi)
   ·rename_i v _ hx
    exact (arA hc hF hE hG hM ho e hx).wk fun i hi=>sub i _ hx hi
end
end Go.Tw
namespace Go.Tw
inductive Sh where
 | i
 | u8
 | u32
 | u64
 | bo
 | str
 | ns
 | np
 | nf
 | ro (t:Ty)
 | rw (j:Nat)
 | rp (j:Nat)
 | pt (j:Nat) (p:List Nat)
 | ps (j n:Nat)
 | ap (j:Nat) (p:List Nat)
 | fn (f:Nat) (a c:Sh)
 | un
 | pr (a b:Sh)
 | ar (n:Nat) (t:Ty)
 | ud
 | re (t:Ty)
 | mp (j:Nat)
 | rx (j:Nat)
 | it (j jm:Nat)
 | u16
 | nn
 | rn (t:Ty)
abbrev Sh.den:Sh->Type
 | .i=>Int
 | .u8=>UInt8
 | .u32=>UInt32
 | .u64=>UInt64
 | .bo=>Bool
 | .str=>List UInt8
 | .ro t=>List t.den
 | .rp _=>Nat×Nat
 | .ap _ _=>Nat×Nat
 | .fn _ a c=>a.den×c.den
 | .pr a b=>a.den×b.den
 | .ar n t=>Vector t.den n
 | .re t=>t.den
 | .ns=>Unit
 | .np=>Unit
 | .nf=>Unit
 | .rw _=>Unit
 | .pt _ _=>Unit
 | .ps _ _=>Unit
 | .mp _=>Unit
 | .rx _=>Nat
 | .it _ _=>Unit
 | .u16=>UInt16
 | .nn=>Unit
 | .rn t=>List t.den
 | .un=>Unit
 | .ud=>Unit
def enc:(s:Sh)->s.den->IV
 | .i,x=>.o (.i x)
 | .u8,x=>.o (.u8 x)
 | .u32,x=>.o (.u32 x)
 | .u64,x=>.o (.u64 x)
 | .bo,x=>.o (.b x)
 | .str,x=>.o (.s x)
 | .ns,_=>.o (.v (.slice none 0 0))
 | .np,_=>.o (.v (.pointer none))
 | .nf,_=>.o (.v .nilFunc)
 | .ro t,x=>.ro t x
 | .rw j,_=>.rw j
 | .rp j,x=>.rp j x.1 x.2
 | .pt j p,_=>.pt j p
 | .ps j n,_=>.ps j n
 | .ap j p,x=>.ap j p x.1 x.2
 | .fn f a c,x=>.fn f (enc a x.1) (enc c x.2)
 | .un,_=>.un
 | .pr a b,x=>.pr (enc a x.1) (enc b x.2)
 | .ar n t,x=>.ar n t x
 | .ud,_=>.ud
 | .re t,x=>.re t x
 | .mp j,_=>.mp j
 | .rx j,k=>.rx j k
 | .it j jm,_=>.it j jm
 | .u16,x=>.o (.v (.int .u16 (x.toNat:Int)))
 | .nn,_=>.nn
 | .rn t,x=>.rn t x
inductive aK where
 | blk (ty:TypeId) (s:Sh)
 | row (E:TypeId) (t:Ty)
 | fz (t:Ty)
 | no
 | mp (kt vt:Ty)
 | rr (E Ei:TypeId) (t:Ty)
 | it
abbrev aK.den:aK->Type
 | .blk _ s=>s.den
 | .row _ t=>List t.den
 | .fz t=>List t.den
 | .no=>Unit
 | .mp kt vt=>List (kt.den×vt.den)
 | .rr _ _ t=>List (Option (List t.den))×List Nat
 | .it=>Nat×List Nat
def GQ:(s:aK)->s.den->fY
 | .blk ty s,x=>.blk ty (enc s x)
 | .row E t,x=>.row E t x
 | .fz t,x=>.fz t x
 | .no,_=>.no
 | .mp kt vt,x=>.mp kt vt x
 | .rr E Ei t,x=>.rr E Ei t x.1 x.2
 | .it,x=>.it x.1 x.2
abbrev au:List Sh->Type
 | []=>Unit
 | s :: r=>s.den×au r
abbrev ax:List aK->Type
 | []=>Unit
 | s :: r=>s.den×ax r
def encs:(ss:List Sh)->au ss->List IV
 | [],_=>[]
 | s :: r,x=>enc s x.1 :: encs r x.2
def eO:(ss:List aK)->ax ss->aj
 | [],_=>[]
 | s :: r,x=>GQ s x.1 :: eO r x.2
theorem ZI:∀ {ss:List Sh} {x:au ss},(encs ss x).length=ss.length
 | [],_=>rfl
 | _ :: _,_=>by simp [encs,ZI]
theorem s_:∀ {ss:List aK} {x:ax ss},(eO ss x).length=ss.length
 | [],_=>rfl
 | _ :: _,_=>by simp [eO,s_]
structure Un where
 bd:List Nat
 tb:aj
 lt:List Nat
def idx:List Nat->Nat->Option Nat
 | [],_=>none
 | x :: r,i=>match Nat.beq x i with
  | true=>some 0
  | false=>match idx r i with
   | some j=>some (j + 1)
   | none=>none
theorem sR:∀ {l:List Nat} {i j:Nat},idx l i=some j->l[j]? = some i
 | [],i,j,h=>by simp [idx] at h
 | x :: r,i,j,h=>by
  simp only [idx] at h
  split at h
  ·rename_i e;cases h;simp [ay e]
  ·split at h
   ·rename_i k hk;cases h;simpa using sR hk
   ·cases h
theorem qu:∀ {l:List Nat} {i:Nat},idx l i=none->i ∉ l
 | [],i,h=>by simp
 | x :: r,i,h=>by
  simp only [idx] at h
  split at h
  ·cases h
  ·rename_i e
   split at h
   ·cases h
   ·rename_i hn
    have:=qu hn
    simp only [List.mem_cons,not_or]
    exact ⟨fun hh=>by subst hh;simp at e,this⟩
theorem aae:∀ {l:List Nat} {i j:Nat},l.Nodup->l[j]? = some i->idx l i=some j
 | [],i,j,_,h=>by simp at h
 | x :: r,i,0,_,h=>by simp at h;subst h;simp [idx]
 | x :: r,i,j + 1,hn,h=>by
  simp at h
  rw [List.nodup_cons] at hn
  have hne:x ≠ i:=fun e=>hn.1 (by subst e;exact List.mem_of_getElem? h)
  have hb:Nat.beq x i=false:=by
   cases hb:Nat.beq x i with
   | false=>rfl
   | true=>exact absurd (ay hb) hne
  simp only [idx,hb,aae hn.2 h]
def jb {β:Type} (j id:Nat) (u:Un) (k:Un->Option β):Option β:=
 match nth u.bd j with
 | some id'=>match Nat.beq id' id with
  | true=>k u
  | false=>none
 | none=>match Nat.beq j u.bd.length,idx u.bd id with
  | true,none=>match nth u.tb id with
   | some _=>k { u with bd:=u.bd ++ [id] }
   | none=>none
  | _,_=>none
def qP:List Nat->List Nat->Bool
 | [],[]=>true
 | x :: r,y :: q=>Nat.beq x y && qP r q
 | _,_=>false
theorem G8:∀ {a b:List Nat},qP a b=true->a=b
 | [],[],_=>rfl
 | [],_ :: _,h=>by simp [qP] at h
 | _ :: _,[],h=>by simp [qP] at h
 | x :: r,y :: q,h=>by
  simp only [qP,Bool.and_eq_true] at h
  rw [ay h.1,G8 h.2]
def freeze {β:Type} (t:Ty) (id:Nat) (u:Un) (k:List t.den->Un->Option β):Option β:=
 match nth u.tb id with
 | some (.row _ t' xs)=>match eZ (Ty.bL t' t) xs,idx u.bd id with
  | some xs,none=>k xs { u with tb:=u.tb.set id (.fz t xs) }
  | _,_=>none
 | some (.fz t' xs)=>match eZ (Ty.bL t' t) xs with
  | some xs=>k xs u
  | none=>none
 | some (.rr _ _ t' rows out)=>match idx u.bd id with
  | none=>(n9 rows out).bind fun xss=>match eZ (Ty.bL (.sl t') t) xss with
   | some xss=>k xss { u with tb:=u.tb.set id (.fz t xss) }
   | none=>none
  | some _=>none
 | _=>none
def Dp {α:Type} (f:IV->Option (α×List Nat)):Nat->IV->Option (List α×List Nat)
 | 0,.un=>some ([],[])
 | n + 1,.pr a u=>match f a,Dp f n u with
  | some (x,l),some (xs,m)=>some (x :: xs,l ++ m)
  | _,_=>none
 | _,_=>none
def MT {α:Type} (n:Nat) (xs:List α):Option (Vector α n):=if h:xs.length=n then some ⟨xs.toArray,by simpa using h⟩ else none
def oW (tb:aj):(t:Ty)->IV->Option (t.den×List Nat)
 | .pr a b,v=>match v with
  | .pr v u=>match oW tb a v,oW tb b u with
   | some (x,l),some (y,m)=>some ((x,y),l ++ m)
   | _,_=>none
  | _=>none
 | .sl t,v=>match v.agg with
  | false=>cont t tb v fun xs=>some (xs,a_ v)
  | true=>none
 | .ar n t,v=>match Dp (oW tb t) n v with
  | some (xs,l)=>match MT n xs with
   | some y=>some (y,l)
   | none=>none
  | none=>none
 | t,v=>match eD t v with
  | some x=>some (x,[])
  | none=>none
def uV {β:Type} (md:Bool) (ts:List aK):(s:Sh)->IV->Un->(s.den->Un->Option β)->Option β
 | .i,v,u,k=>match v.ul with
  | some x=>k x u
  | none=>none
 | .u8,v,u,k=>match v.vf with
  | some x=>k x u
  | none=>none
 | .u32,v,u,k=>match v.uQ with
  | some x=>k x u
  | none=>none
 | .u64,v,u,k=>match v.um with
  | some x=>k x u
  | none=>none
 | .bo,v,u,k=>match v.vp with
  | some x=>k x u
  | none=>none
 | .str,v,u,k=>match v.tF with
  | some x=>k x u
  | none=>none
 | .ns,v,u,k=>match v.ij with
  | true=>k () u
  | false=>none
 | .np,v,u,k=>match v with
  | .o (.v (.pointer none))=>k () u
  | _=>none
 | .nf,v,u,k=>match v with
  | .o (.v .nilFunc)=>k () u
  | _=>none
 | .re t,v,u,k=>match v with
  | .re t' x=>match eD t (dD t' x) with
   | some y=>k y u
   | none=>none
  | .pt id p=>match md with
   | true=>match nth u.tb id with
    | some (.blk _ v0)=>kY (fun z=>match eD t z with
     | some y=>k y { u with lt:=id :: u.lt }
     | none=>match oW u.tb t z with
      | some (y,l)=>k y { u with lt:=id :: (l ++ u.lt) }
      | none=>none) p v0
    | _=>none
   | false=>none
  | _=>none
 | .ro t,v,u,k=>match md with
  | true=>match v with
   | .ro t' xs=>match eZ (Ty.bL t' t) xs with
    | some xs=>k xs u
    | none=>none
   | v=>match v.agg with
    | false=>cont t u.tb v fun xs=>k xs { u with lt:=a_ v ++ u.lt }
    | true=>none
  | false=>match v with
   | .ro t' xs=>match eZ (Ty.bL t' t) xs with
    | some xs=>k xs u
    | none=>none
   | .rw id=>freeze t id u k
   | .rp id lo hi=>freeze t id u fun xs u=>k ((xs.drop lo).take (hi - lo)) u
   | v=>match v.ij with
    | true=>k [] u
    | false=>none
 | .rw j,v,u,k=>match v with
  | .rw id=>jb j id u (k ())
  | v=>match v.ij,nth ts j with
   | true,some (.row E t)=>jb j u.tb.length { u with tb:=u.tb ++ [.row E t []] } (k ())
   | true,some (.rr E Ei t)=>jb j u.tb.length { u with tb:=u.tb ++ [.rr E Ei t [] []] } (k ())
   | _,_=>none
 | .rp j,v,u,k=>match v with
  | .rp id lo hi=>jb j id u (k (lo,hi))
  | .rw id=>match nth u.tb id with
   | some (.row _ _ xs)=>jb j id u (k (0,xs.length))
   | _=>none
  | v=>match v.ij,nth u.bd j with
   | true,some id=>match nth u.tb id with
    | some (.row _ _ xs)=>jb j id u (k (0,0))
    | _=>none
   | _,_=>none
 | .ps j n,v,u,k=>match v with
  | .ps id n'=>match Nat.beq n n' with
   | true=>jb j id u (k ())
   | false=>none
  | _=>none
 | .nn,v,u,k=>match v with
  | .nn=>k () u
  | _=>none
 | .rn t,v,u,k=>match v with
  | .rn t' xs=>match eZ (Ty.bL t' t) xs with
   | some xs=>k xs u
   | none=>none
  | _=>none
 | .mp j,v,u,k=>match v with
  | .mp id=>jb j id u (k ())
  | _=>none
 | .rx j,v,u,k=>match v with
  | .rx id r=>jb j id u (k r)
  | _=>none
 | .u16,v,u,k=>none
 | .it j jm,v,u,k=>match v with
  | .it id mid=>jb j id u fun u=>jb jm mid u (k ())
  | _=>none
 | .pt j p,v,u,k=>match v with
  | .pt id p'=>match qP p' p with
   | true=>jb j id u (k ())
   | false=>none
  | _=>none
 | .ap j p,v,u,k=>match v with
  | .ap id p' lo hi=>match qP p' p with
   | true=>jb j id u (k (lo,hi))
   | false=>none
  | _=>none
 | .fn f a c,v,u,k=>match v with
  | .fn f' a' c'=>match Nat.beq f f' with
   | true=>uV md ts a a' u fun x u=>uV md ts c c' u fun y u=>k (x,y) u
   | false=>none
  | _=>none
 | .un,v,u,k=>match v with
  | .un=>k () u
  | _=>none
 | .pr a b,v,u,k=>match v with
  | .pr a' b'=>uV md ts a a' u fun x u=>uV md ts b b' u fun y u=>k (x,y) u
  | _=>none
 | .ar n t,v,u,k=>match v.uh n t with
  | some xs=>k xs u
  | none=>none
 | .ud,v,u,k=>match v.agg with
  | true=>none
  | false=>k () u
def wO {β:Type} (md:Bool) (ts:List aK):(ss:List Sh)->List IV->Un->(au ss->Un->Option β)->Option β
 | [],[],u,k=>k () u
 | s :: r,v :: vs,u,k=>uV md ts s v u fun x u=>wO md ts r vs u fun y u=>k (x,y) u
 | _,_,_,_=>none
def uT {β:Type} (md:Bool) (ts:List aK) (s:aK) (x:fY) (u:Un) (k:s.den->Un->Option β):Option β:=
 match s with
 | .blk ty s=>match x with
  | .blk ty' v=>match Nat.beq ty ty' with
   | true=>uV md ts s v u k
   | false=>none
  | _=>none
 | .row E t=>match x with
  | .row E' t' xs=>match Nat.beq E E',eZ (Ty.bL t' t) xs with
   | true,some xs=>k xs u
   | _,_=>none
  | _=>none
 | .fz t=>match x with
  | .fz t' xs=>match eZ (Ty.bL t' t) xs with
   | some xs=>k xs u
   | none=>none
  | _=>none
 | .no=>k () u
 | .mp kt vt=>match x with
  | .mp bU cH xs=>match u9 (Ty.bL bU kt) (Ty.bL cH vt) xs with
   | some xs=>k xs u
   | none=>none
  | _=>none
 | .rr E Ei t=>match x with
  | .rr E' Vx t' rows out=>match Nat.beq E E',Nat.beq Ei Vx,sB (Ty.bL t' t) rows with
   | true,true,some rows=>k (rows,out) u
   | _,_,_=>none
  | _=>none
 | .it=>match x with
  | .it n seen=>k (n,seen) u
  | _=>none
def J9 {β:Type} (md:Bool) (ts:List aK):(j:Nat)->(ss:List aK)->Un->(ax ss->Un->Option β)->Option β
 | _,[],u,k=>k () u
 | j,s :: r,u,k=>match nth u.bd j with
  | some id=>match nth u.tb id with
   | some x=>uT md ts s x u fun x u=>J9 md ts (j + 1) r u fun y u=>k (x,y) u
   | none=>none
  | none=>none
def apart:List Nat->List Nat->Bool
 | [],_=>true
 | x :: r,l=>match idx l x with
  | none=>apart r l
  | some _=>false
theorem CS:∀ {a b:List Nat},apart a b=true->∀ i,i ∈ a->i ∉ b
 | [],b,_,i,h=>by simp at h
 | x :: r,b,e,i,h=>by
  simp only [apart] at e
  split at e
  ·rename_i hn
   rcases List.mem_cons.1 h with h | h
   ·subst h;exact qu hn
   ·exact CS e i h
  ·cases e
def ru {β:Type} (md:Bool) (ss:List Sh) (ts:List aK) (bd:List Nat) (vs:List IV) (tb:aj) (k:au ss->ax ts->Un->Option β):Option β:=
 wO md ts ss vs ⟨bd,tb,[]⟩ fun x u=>J9 md ts 0 ts u fun y u=>
  match Nat.beq u.bd.length ts.length,apart u.lt u.bd with
  | true,true=>k x y u
  | _,_=>none
section
variable {O:Own} {ρ:List Hd} {w:World}
def Oc (bd lt:List Nat) (O:Own) (w:World):Own:=fun b=>match O b with
 | .im all=>.im all
 | .no=>.no
 | .th id=>match idx bd id with
  | some j=>.th j
  | none=>match idx lt id with
   | some _=>match w.heap[b]? with
    | some (.cells a _ _)=>.im a.toList
    | _=>.no
   | none=>.no
def Mt (bd:List Nat) (ρ aP:List Hd):Prop:=∀ (j id:Nat) (h:Hd),bd[j]? = some id->ρ[id]? = some h->∃ l,aP[j]? = some (h.more l)
structure Gh (M:Nat->Prop) (O:Own) (ρ:List Hd) (u:Un) (O':Own) (ρ':List Hd) (u':Un) (w:World):Prop where
 gm:Gm O' ρ' u'.tb w
 fH:aR M O ρ w O' ρ' w
 bd:∃ more,u'.bd=u.bd ++ more
 lt:∀ i,i ∈ u.lt->i ∈ u'.lt
 nd:u.bd.Nodup->u'.bd.Nodup
 own:∀ b id,id ∈ u.bd->O b=.th id->O' b=.th id
 tt:(∀ i,i ∈ u.bd->i < u.tb.length)->∀ i,i ∈ u'.bd->i < u'.tb.length
 len:u.tb.length≤u'.tb.length
 px:∀ (i:Nat) (h:Hd),ρ[i]? = some h->ρ'[i]? = some h
theorem Gh.refl {M:Nat->Prop} {u:Un} (h:Gm O ρ u.tb w):Gh M O ρ u O ρ u w:=
 ⟨h,.refl _ _ _ _,⟨[],by simp⟩,fun _ h=>h,fun h=>h,fun _ _ _ h=>h,fun h=>h,Nat.le_refl _,fun _ _ e=>e⟩
theorem Gh.trans {M:Nat->Prop} {O1 O2:Own} {bQ br:List Hd} {u u1 u2:Un} (h:Gh M O ρ u O1 bQ u1 w) (k:Gh M O1 bQ u1 O2 br u2 w):Gh M O ρ u O2 br u2 w:=by
 obtain ⟨m1,e1⟩:=h.bd
 obtain ⟨m2,e2⟩:=k.bd
 exact ⟨k.gm,h.fH.trans k.fH,⟨m1 ++ m2,by rw [e2,e1,List.append_assoc]⟩,fun i hi=>k.lt i (h.lt i hi),fun hn=>k.nd (h.nd hn),
  fun b id hi e=>k.own b id (by rw [e1];exact List.mem_append_left _ hi) (h.own b id hi e),fun hh=>k.tt (h.tt hh),Nat.le_trans h.len k.len,fun i x e=>k.px i x (h.px i x e)⟩
structure oO (u':Un) (O':Own) (ρ':List Hd) (w:World) (aJ:Own) (aP:List Hd):Prop where
 le:O'.le aJ
 mx:∀ (j id:Nat) (h:Hd),u'.bd[j]? = some id->ρ'[id]? = some h->aP[j]? = some h
 zP:∀ b id a ty fz,id ∈ u'.lt->O' b=.th id->w.heap[b]? = some (.cells a ty fz)->aJ b=.im a.toList
theorem oO.mt {u':Un} {O':Own} {ρ':List Hd} {aJ:Own} {aP:List Hd} (F:oO u' O' ρ' w aJ aP):Mt u'.bd ρ' aP:=fun j id h h1 h2=>⟨[],by rw [h.uM];exact F.mx j id h h1 h2⟩
theorem oO.back {M:Nat->Prop} {O1:Own} {bQ:List Hd} {u u1:Un} {aJ:Own} {aP:List Hd} (g:Gh M O ρ u O1 bQ u1 w) (hl:∀ b id,id ∈ u.lt->O b=.th id->O1 b=.th id) (F:oO u1 O1 bQ w aJ aP):oO u O ρ w aJ aP:=by
 obtain ⟨m,e⟩:=g.bd
 refine ⟨g.fH.im.trans F.le,fun j id h hj hh=>?_,fun b id a ty fz hi ho=>F.zP b id a ty fz (g.lt id hi) (hl b id hi ho)⟩
 exact F.mx j id _ (by rw [e,List.getElem?_append_left (aM hj).1];exact hj) (g.px _ _ hh)
end
end Go.Tw
