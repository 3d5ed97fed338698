/- The core: ideal values and the evaluator. -/
import Derived.Maps.RangeRun
import Derived.Defers
import Derived.Test.YtpnhgldpeiogbaaGreatDoorOK1
namespace Go.Tw
set_option linter.unusedSimpArgs false
set_option linter.unusedVariables false
section
variable {P:Program} {c:Cfg} {n:Nat} {a:Act} {l:Env} {il:IEnv} {O:Own} {ρ:List Hd} {tb:Tbl} {w:World} {o:Oper}
def PreX (M:Nat->Prop) (ρ ρ':List Hd):Prop:=Pre ρ ρ'∧∀ i h,¬ M i->ρ[i]? = some h->ρ'[i]? = some h
theorem PreX.refl {M:Nat->Prop} (ρ:List Hd):PreX M ρ ρ:=⟨.refl _,fun _ _ _ e=>e⟩
theorem PreX.app {M:Nat->Prop} (ρ x:List Hd):PreX M ρ (ρ ++ x):=⟨.app _ _,fun _ _ _ e=>app_at _ e⟩
theorem Gm.step {M:Nat->Prop} {O':Own} {ρ':List Hd} {tb':Tbl} {w':World} (hM:Gm O ρ tb w) (hk:Kept (fun b=>∃ i,M i∧O b=.th i) w w') (hO:∀ b,b < w.heap.size->(∀ i,M i->O b ≠ .th i)->O' b=O b)
  (hlt:∀ b,w'.heap.size≤b->O' b=.no) (him:∀ b all,O' b=.im all->O b=.im all∨∃ ty fz,w'.heap[b]? = some (.cells all.toArray ty fz)) (hρX:PreX M ρ ρ') (hl:ρ'.length=tb'.length)
  (ht:∀ j x,tb'[j]? = some x->(tb[j]? = some x∧¬ M j)∨Holds O' ρ' w' j x):Gm O' ρ' tb' w'∧Stp M O ρ w O' ρ' w':=by
 have hρ:=hρX.1
 have hlow:∀ b,O b ≠ .no->b < w.heap.size:=fun b h=>by
  rcases Nat.lt_or_ge b w.heap.size with h' | h'
  ·exact h'
  ·exact absurd (hM.lt b h') h
 have hle:O.le O':=fun b all e=>by
  rw [hO b (hlow b (by rw [e];simp)) (fun i _ h=>by rw [e] at h;cases h)];exact e
 refine ⟨⟨fun b all e=>?_,hlt,hl,fun j x hx=>?_⟩,⟨hρ,hle,fun b hb e=>?_,fun b id hb e hn=>?_,hk⟩⟩
 ·rcases him b all e with h | h
  ·obtain ⟨ty,fz,h1⟩:=hM.im b all h
   refine ⟨ty,fz,?_⟩
   rw [hk.block b (hlow b (by rw [h];simp)) (fun ⟨i,_,h'⟩=>by rw [h] at h';cases h')];exact h1
  ·exact h
 ·rcases ht j x hx with ⟨h1,h2⟩ | h1
  ·have old:=hM.th j x h1
   cases x with
   | blk ty v=>
    obtain ⟨h,cs,h3,h4,h5,h6,h7⟩:=old
    have hb:∀ i,M i->O h.b ≠ .th i:=fun i hi e=>by rw [h4] at e;cases e;exact h2 hi
    obtain ⟨mm,hm⟩:=hρ _ _ h3
    refine ⟨_,cs,hm,by rw [hO _ h7.lt hb];exact h4,h5,R.mono hle hρ h6,h7.same (hk.block _ h7.lt (fun ⟨i,hi,e⟩=>hb i hi e))⟩
   | row E t xs=>
    obtain ⟨h,es,h3,h4,h5,h6,h7⟩:=old
    have hb:∀ b,blockOf h.v b->∀ i,M i->O b ≠ .th i:=fun b hbb i hi e=>by rw [h5 b hbb] at e;cases e;exact h2 hi
    have hlt':∀ b,blockOf h.v b->b < w.heap.size:=fun b hbb=>hlow b (by rw [h5 b hbb];simp)
    obtain ⟨mm,hm⟩:=hρ _ _ h3
    refine ⟨_,es,hm,h4,fun b hbb=>by rw [hO b (hlt' b hbb) (hb b hbb)];exact h5 b hbb,h6.mono (fun _ _=>TR.mono hle),?_⟩
    exact Rs.same (r:=.row E t.size h.v xs.length es) (fun b hbb=>hk.block b (hlt' b hbb) (fun ⟨i,hi,e⟩=>hb b hbb i hi e)) h7
   | fz t xs=>
    obtain ⟨h,h3,h4,h5⟩:=old
    obtain ⟨mm,hm⟩:=hρ _ _ h3
    exact ⟨_,hm,h4,TR.mono hle h5⟩
   | no=>trivial
   | mk=>
    obtain ⟨h,h3,h4,h5⟩:=old
    have hb:∀ i,M i->O h.b ≠ .th i:=fun i hi e=>by rw [h4] at e;cases e;exact h2 hi
    have hlt':h.b < w.heap.size:=hlow _ (by rw [h4];simp)
    obtain ⟨mm,hm⟩:=hρ _ _ h3
    exact ⟨_,hm,by rw [hO _ hlt' hb];exact h4,by rw [hk.block _ hlt' (fun ⟨i,hi,e⟩=>hb i hi e)];exact h5⟩
   | mp kt vt l=>
    obtain ⟨h,es,h3,h4,h5,h6⟩:=old
    have hb:∀ i,M i->O h.b ≠ .th i:=fun i hi e=>by rw [h4] at e;cases e;exact h2 hi
    have hlt':h.b < w.heap.size:=hlow _ (by rw [h4];simp)
    obtain ⟨mm,hm⟩:=hρ _ _ h3
    exact ⟨_,es,hm,by rw [hO _ hlt' hb];exact h4,by rw [hk.block _ hlt' (fun ⟨i,hi,e⟩=>hb i hi e)];exact h5,h6.mono hle⟩
   | it n seen=>
    obtain ⟨h,h3,h4,bm,h5,h7⟩:=old
    have hb:∀ i,M i->O h.b ≠ .th i:=fun i hi e=>by rw [h4] at e;cases e;exact h2 hi
    have hlt':h.b < w.heap.size:=hlow _ (by rw [h4];simp)
    obtain ⟨mm,hm⟩:=hρ _ _ h3
    exact ⟨_,hm,by rw [hO _ hlt' hb];exact h4,bm,h5,by rw [hk.block _ hlt' (fun ⟨i,hi,e⟩=>hb i hi e)];exact h7⟩
   | rr E Ei t rows out=>
    obtain ⟨h,es,h3,h4,h5,h6,h7,h8⟩:=old
    have hb:∀ b,O b=.th j->O' b=.th j∧w'.heap[b]? = w.heap[b]?:=fun b hbb=>by
     have hlt':b < w.heap.size:=hlow b (by rw [hbb];simp)
     have hn:∀ i,M i->O b ≠ .th i:=fun i hi e=>by rw [hbb] at e;cases e;exact h2 hi
     exact ⟨by rw [hO b hlt' hn];exact hbb,hk.block b hlt' (fun ⟨i,hi,e⟩=>hn i hi e)⟩
    exact ⟨h,es,hρX.2 _ _ h2 h3,h4,fun b hbb=>(hb b (h5 b hbb)).1,Rs.same (r:=.row E 1 h.v out.length es) (fun b hbb=>(hb b (h5 b hbb)).2) h6,h7,h8.frame (fun _ _=>TR.mono hle) hb⟩
  ·exact h1
 ·rw [hO b hb (fun i _ h=>by rw [e] at h;cases h)];exact e
 ·rw [hO b hb (fun i hi h=>by rw [e] at h;cases h;exact hn hi)];exact e
theorem Kept.wide {S S':Nat->Prop} {w w':World} (h:Kept S w w') (hS:∀ b,S b->S' b):Kept S' w w':=
 ⟨h.os,h.tape,h.output,h.size,fun b hb hn=>h.block b hb (fun e=>hn (hS b e))⟩
theorem Gm.set {id:Nat} {x':Thing} {w':World} (hM:Gm O ρ tb w) (hi:id < tb.length) (hk:Kept (fun b=>O b=.th id) w w') (h':Holds O ρ w' id x'):Gm O ρ (tb.set id x') w'∧Stp (· = id) O ρ w O ρ w':=by
 refine hM.step (M:=(· = id)) (hk.wide fun b e=>⟨id,rfl,e⟩) (fun _ _ _=>rfl) (fun b hb=>hM.lt b (Nat.le_trans hk.size hb)) (fun b all e=>.inl e) (.refl _) (by simp [hM.len]) (fun j x hx=>?_)
 rw [List.getElem?_set] at hx
 split at hx
 ·rename_i e;subst e;first | (rw [if_pos hi] at hx;cases hx;exact .inr h') | (cases hx;exact .inr h')
 ·rename_i e;exact .inl ⟨hx,fun h=>e h.symm⟩
theorem Gm.new {w':World} {h:Hd} {x:Thing} (S:Nat->Bool) (hM:Gm O ρ tb w) (hk:Kept none1 w w') (hS:∀ b,S b=true->w.heap.size≤b∧b < w'.heap.size) (h':Holds (fun b=>bif S b then .th tb.length else O b) (ρ ++ [h]) w' tb.length x) :
  Gm (fun b=>bif S b then .th tb.length else O b) (ρ ++ [h]) (tb ++ [x]) w'∧Stp (fun _=>False) O ρ w (fun b=>bif S b then .th tb.length else O b) (ρ ++ [h]) w':=by
 refine hM.step (M:=fun _=>False) (hk.wide fun b e=>e.elim) (fun b hb _=>?_) (fun b hb=>?_) (fun b all e=>?_) (.app _ _) (by simp [hM.len]) (fun j y hy=>?_)
 ·cases e:S b with
  | true=>have:=(hS b e).1;omega
  | false=>rfl
 ·cases e:S b with
  | true=>have:=(hS b e).2;omega
  | false=>exact hM.lt b (Nat.le_trans hk.size hb)
 ·cases e':S b with
  | true=>rw [e'] at e;cases e
  | false=>rw [e'] at e;exact .inl e
 ·rcases Nat.lt_or_ge j tb.length with hj | hj
  ·rw [List.getElem?_append_left hj] at hy;exact .inl ⟨hy,fun h=>h⟩
  ·have:j=tb.length:=by
    have:=(List.getElem?_eq_some_iff.1 hy).1
    simp at this;omega
   subst this
   rw [List.getElem?_append_right (Nat.le_refl _)] at hy
   simp at hy;subst hy
   exact .inr h'
def WOk {β:Type} (P:Program) (a:Act) (o:Oper) (O:Own) (ρ:List Hd) (w:World) (M:Nat->Prop) (k:Option IV->Tbl->Option β) (r:β):Prop:=
 ∃ v x tb' O' ρ' w',(match v with
  | some v=>SR O' ρ' v x∧(execOp a.eval o).run P w=.ok (.value x.val) w'
  | none=>(execOp a.eval o).run P w=.ok .skip w')∧Gm O' ρ' tb' w'∧Stp M O ρ w O' ρ' w'∧k v tb'=some r
def blkB:Value->Nat->Bool
 | .slice (some ad) _ _,b=>Nat.beq ad.block b
 | _,_=>false
theorem blkB_of {v:Value} {b:Nat} (h:blkB v b=true):blockOf v b:=by
 unfold blkB at h
 split at h
 ·exact Nat.eq_of_beq_eq_true h
 ·cases h
theorem of_blkB {v:Value} {b m cp:Nat} {ad:Option Addr} (hv:v=.slice ad m cp) (h:blockOf v b):blkB v b=true:=by
 subst hv
 cases ad with
 | none=>exact h.elim
 | some ad=>simp only [blockOf] at h;subst h;simp [blkB]
theorem Row.isSl {w:World} {E q:Nat} {v:Value} {m:Nat} {cs:List Value} (h:Row w E q v m cs):isSl v=true:=by
 obtain ⟨_,h2⟩:=h
 rcases h2 with ⟨rfl,_⟩ | ⟨b,cap,sp,rfl,_⟩<;>rfl
theorem Row.blt {w:World} {E q:Nat} {v:Value} {m:Nat} {cs:List Value} (h:Row w E q v m cs) {b:Nat} (hb:blockOf v b):b < w.heap.size:=Rs.lt (r:=.row E q v m cs) h b hb
theorem new_row {β:Type} {k:Option IV->Tbl->Option β} {r:β} {E:Nat} {t:Ty} {xs:List t.den} {es:List Value} {v:Value} {w':World} (hM:Gm O ρ tb w) (hr:(execOp a.eval o).run P w=.ok (.value v) w') (hk:Kept none1 w w') (hrow:Row w' E t.size v xs.length es) (hb:∀ b,blockOf v b->w.heap.size≤b) (hL:LR (TR O t) xs es)
  (e:k (some (.rw tb.length)) (tb ++ [.row E t xs])=some r):WOk P a o O ρ w (fun _=>False) k r:=by
 have hsl:=hrow.isSl
 have hle:O.le (fun b=>bif blkB v b then .th tb.length else O b):=fun b all e=>by
  cases e':blkB v b with
  | true=>have:=hb b (blkB_of e');rw [hM.lt b this] at e;cases e
  | false=>simp only [e',cond_false];exact e
 obtain ⟨h1,h2⟩:=hM.new (h:=⟨0,t.sz,v,[]⟩) (x:=.row E t xs) (blkB v) hk (fun b hbb=>⟨hb b (blkB_of hbb),hrow.blt (blkB_of hbb)⟩)
  ⟨⟨0,t.sz,v,[]⟩,es,by rw [← hM.len];simp,rfl,fun b hbb=>by
   obtain ⟨q,m,cp,hv⟩:∃ q m cp,v=.slice q m cp:=by cases v<;>first | exact ⟨_,_,_,rfl⟩ | cases hsl
   simp [of_blkB hv hbb],hL.mono (fun _ _=>TR.mono hle),hrow⟩
 exact ⟨some (.rw tb.length),.o (.v v),_,_,_,w',⟨.of_S0 (v:=.rw tb.length) ⟨v,rfl,⟨0,t.sz,v,[]⟩,by rw [← hM.len];simp,rfl,hsl⟩,hr⟩,h1,h2,e⟩
theorem new_blk {β:Type} {k:Option IV->Tbl->Option β} {r:β} {ty:Nat} {v:IV} {cs:List Value} (hM:Gm O ρ tb w) (hr:(execOp a.eval o).run P w=.ok (.value (vP w.heap.size 0)) { w with heap:=w.heap.push (.cells cs.toArray ty) }) (hR:R O ρ false v cs)
  (e:k (some (.pt tb.length [])) (tb ++ [.blk ty v])=some r):WOk P a o O ρ w (fun _=>False) k r:=by
 have hle:O.le (fun b=>bif Nat.beq w.heap.size b then .th tb.length else O b):=fun b all e=>by
  cases e':Nat.beq w.heap.size b with
  | true=>have:=Nat.eq_of_beq_eq_true e';rw [hM.lt b (by omega)] at e;cases e
  | false=>simp only [e',cond_false];exact e
 have hat:(ρ ++ [(⟨w.heap.size,v.sz,.bool false,[]⟩:Hd)])[tb.length]? = some ⟨w.heap.size,v.sz,.bool false,[]⟩:=by rw [← hM.len];simp
 obtain ⟨h1,h2⟩:=hM.new (h:=⟨w.heap.size,v.sz,.bool false,[]⟩) (x:=.blk ty v) (Nat.beq w.heap.size) (kept_alloc w (.cells cs.toArray ty)) (fun b hbb=>by have:=Nat.eq_of_beq_eq_true hbb;subst this;simp)
  ⟨_,cs,hat,by simp,rfl,R.mono hle (.app _ _) hR,blk_new ty cs⟩
 exact ⟨some (.pt tb.length []),.o (.v (vP w.heap.size 0)),_,_,_,_,⟨.of_S0 (v:=.pt tb.length []) ⟨_,rfl,_,0,hat,by cases v.sz<;>rfl,rfl⟩,hr⟩,h1,h2,e⟩
def wAl {β:Type} (c:Cfg) (tb:Tbl) (k:Option IV->Tbl->Option β) (t:Nat):Option β:=
 match c.I t with
 | some v=>k (some (.pt tb.length [])) (tb ++ [.blk t v])
 | none=>none
theorem wAl_ok {β:Type} {k:Option IV->Tbl->Option β} {r:β} (hc:COk P c) (hM:Gm O ρ tb w) {t:Nat} (ho:o.op=.alloc t) (e:wAl c tb k t=some r):WOk P a o O ρ w (fun _=>False) k r:=by
 unfold wAl at e
 split at e<;>first | (cases e;done) | skip
 rename_i v hv
 obtain ⟨z,cs,h1,h2,h3⟩:=hc.zero _ _ hv
 refine new_blk hM ?_ (h3 O ρ) e
 simp only [execOp,ho]
 simp [Instr.alloc,h1 w,newVar,h2,run_newRow]
def wBox {β:Type} (c:Cfg) (il:IEnv) (tb:Tbl) (k:Option IV->Tbl->Option β) (t:Nat) (x:Operand):Option β:=
 match iopd c il x with
 | some (.tu _)=>none
 | some v=>k (some (.pt tb.length [])) (tb ++ [.blk t v])
 | none=>none
theorem wBox_ok {β:Type} {k:Option IV->Tbl->Option β} {r:β} (hF:Fr n a l) (hE:ER O ρ il l) (hG:GO c O) (hM:Gm O ρ tb w) {t:Nat} {x:Operand} (ho:o.op=.box t x) (e:wBox c il tb k t x=some r):WOk P a o O ρ w (fun _=>False) k r:=by
 unfold wBox at e
 split at e<;>first | (cases e;done) | skip
 rename_i v hn hx
 obtain ⟨cs,h1,h2,_⟩:=iopd_cells hF hE hG hx (fun ch e=>hn ch e)
 refine new_blk hM ?_ h2 e
 simp only [execOp,ho]
 simp [Instr.box,newVar,h1,run_newRow]
def sizeIs (c:Cfg) (t:Nat) (u:IV):Bool:=
 match c.Z t with
 | some z=>Nat.beq z u.sz.size
 | none=>false
theorem OutR.len {ks:List Value}:∀ {out:List Nat} {es:List Value},OutR ks out es->es.length=out.length
 | [],es,h=>by simp only [OutR] at h;subst h;rfl
 | o :: r,es,⟨e,l,h1,_,h3⟩=>by subst h1;simp [OutR.len h3]
theorem OutR.set {ks:List Value} {q:Nat} {v:Value} (hq:ks[q]? = some v):∀ {out:List Nat} {es:List Value} {j:Nat},OutR ks out es->j < out.length->OutR ks (out.set j q) (es.set j v)
 | [],es,j,_,h=>by simp at h
 | o :: r,es,j,⟨e,l,h1,h2,h3⟩,h=>by
  subst h1
  cases j with
  | zero=>exact ⟨v,l,rfl,hq,h3⟩
  | succ j=>exact ⟨e,l.set j v,rfl,h2,OutR.set hq h3 (by simpa using h)⟩
def wSt {β:Type} (c:Cfg) (il:IEnv) (tb:Tbl) (k:Option IV->Tbl->Option β) (t:Nat) (x y:Operand):Option β:=
 match iopd c il y with
 | some (.tu _)=>none
 | some new=>match sizeIs c t new with
  | true=>match iopd c il x with
   | some (.pt id p)=>match nth tb id with
    | some (.blk ty v)=>setP new p v fun v'=>k none (tb.set id (.blk ty v'))
    | _=>none
   | some (.el id j p)=>match nth tb id with
    | some (.row E t' xs)=>match p with
     | []=>match toP t' new with
      | some u=>k none (tb.set id (.row E t' (xs.set j u)))
      | none=>none
     | p=>(xs[j]?).bind fun u=>setP new p (ofP t' u) fun v'=>match toP t' v' with
      | some u=>k none (tb.set id (.row E t' (xs.set j u)))
      | none=>none
    | some (.rr E Ei t' rows out)=>match p,new with
     | [],.rx id' q=>match Nat.beq id' id with
      | true=>k none (tb.set id (.rr E Ei t' rows (out.set j q)))
      | false=>none
     | _,_=>none
    | _=>none
   | some (.ex t' id q j p)=>match nth tb id with
    | some (.rr E Ei t'' rows out)=>match castRr (Ty.eq? t'' t') rows,p,toP t' new with
     | some rows,[],some u=>(rxG rows q).bind fun xs=>k none (tb.set id (.rr E Ei t' (rows.set q (some (xs.set j u))) out))
     | _,_,_=>none
    | _=>none
   | _=>none
  | false=>none
 | none=>none
theorem run_store' (hc:COk P c) {t:Nat} {x y:Operand} {b off:Nat} {us cs:List Value} {ty:TypeId} (ho:o.op=.store t x y) (hx:a.eval x=vP b off) (hy:(a.eval y).cells=us.toArray) (hz:c.Z t=some us.length) (h1:∀ v ∈ us,v.oneCell'=true) (hb:Blk w b cs ty) (hl:off + us.length≤cs.length) :
  (execOp a.eval o).run P w=.ok .skip (w.setRow b (spl cs off us).toArray):=by
 have hst:=run_storeCells (P:=P) us off 0 cs w hb (by simpa using hl) h1
 simp only [Nat.add_zero] at hst
 simp only [execOp,ho,hx]
 simp [Instr.storeAt,Instr.sureAddr,storeVar,hy,hc.tok.size _ _ hz,hst,spl]
theorem spl_app {es sp us:List Value} {q:Nat} (h:q + us.length≤es.length):spl (es ++ sp) q us=spl es q us ++ sp:=by
 simp only [spl]
 rw [List.take_append_of_le_length (by omega),List.drop_append_of_le_length (by omega)];simp
theorem wSt_ok {β:Type} {k:Option IV->Tbl->Option β} {r:β} (hc:COk P c) (hF:Fr n a l) (hE:ER O ρ il l) (hG:GO c O) (hM:Gm O ρ tb w) {t:Nat} {x y:Operand} (ho:o.op=.store t x y) (e:wSt c il tb k t x y=some r) {v:IV} (hv:iopd c il x=some v):WOk P a o O ρ w (· ∈ idsV v) k r:=by
 unfold wSt at e
 split at e<;>first | (cases e;done) | skip
 rename_i new hn hy
 split at e<;>first | (cases e;done) | skip
 rename_i hs
 obtain ⟨us,hy1,hy2,_⟩:=iopd_cells hF hE hG hy (fun ch e=>hn ch e)
 have hul:=R.length hy2
 have hz:c.Z t=some us.length:=by
  unfold sizeIs at hs
  split at hs<;>first | (cases hs;done) | skip
  rename_i z hz;rw [hz,Nat.eq_of_beq_eq_true hs,hul]
 have h1c:=R.one hy2
 split at e<;>first | (cases e;done) | skip
 ·rename_i id p hx
  rw [hv] at hx;cases hx
  split at e<;>first | (cases e;done) | skip
  rename_i ty v hb
  rw [nth_eq] at hb
  obtain ⟨h,cs,h1,h2,h3,h4,h5⟩:=hM.th _ _ hb
  obtain ⟨u,hu,⟨h',off,h6,h7,h8⟩,_⟩:=iopd_1 hE hG hv rfl (by simp) hF
  cases h8
  rw [h1] at h6;cases h6
  rw [h3] at h7
  obtain ⟨v',hk,h9,h10,h11⟩:=setP_R hy2 e h4 h7
  obtain ⟨hG1,hG2⟩:=hM.set (x':=.blk ty v') (List.getElem?_eq_some_iff.1 hb).1 ((kept_setRow h.b (spl cs off us).toArray).wide (fun b e=>by subst e;exact h2))
   ⟨h,_,h1,h2,by rw [h3,h11],h9,h5.setRow (spl_len h10)⟩
  exact ⟨none,.t [],_,_,_,_,run_store' hc ho hu hy1 hz h1c h5 h10,hG1,hG2.weak (fun i e=>by subst e;simp [idsV]),hk⟩
 ·rename_i id j p hx
  rw [hv] at hx;cases hx
  split at e<;>first | (cases e;done) | skip
  ·rename_i E t' xs hb
   rw [nth_eq] at hb
   obtain ⟨h,es,h1,h2,h3,h4,h5⟩:=hM.th _ _ hb
   obtain ⟨u,hu,⟨h',off,ad,nn,cp,h6,h7,h8,h9,h10⟩,_⟩:=iopd_1 hE hG hv rfl (by simp) hF
   cases h10
   rw [h1] at h6;cases h6
   have h5':=h5
   obtain ⟨hl5,hr5⟩:=h5'
   rcases hr5 with ⟨hnil,_⟩ | ⟨b,cap,sp,hv5,hnc,hblk,hcap,hmax⟩
   ·rw [hnil] at h8;cases h8
   rw [hv5] at h8;cases h8
   have hown:O b=.th id:=h3 b (by rw [hv5];rfl)
   have hjn:j * t'.size + t'.size≤es.length:=by
    rw [hl5]
    have:=Nat.mul_le_mul_right t'.size (show j + 1≤xs.length by omega)
    rw [Nat.add_mul] at this;omega
   rw [add_zero _ rfl,Nat.zero_add,h2,Ty.sz_size] at hu
   have fin:∀ (u':t'.den),TR O t' u' (spl ((es.drop (j * t'.size)).take t'.size) off us)->off + us.length≤t'.size->k none (tb.set id (.row E t' (xs.set j u')))=some r->WOk P a o O ρ w (· ∈ idsV (.el id j p)) k r:=by
    intro u' hT hoff hk
    have hst:=run_store' hc ho hu hy1 hz h1c hblk (by rw [List.length_append];omega)
    rw [spl_app (by omega)] at hst
    have hset:=LR.set (fun _ _=>TR.length) h4 (j:=j) h9 hT
    have hspl:es.take (j * t'.size) ++ spl ((es.drop (j * t'.size)).take t'.size) off us ++ es.drop (j * t'.size + t'.size)=spl es (j * t'.size + off) us:=by
     rw [← spl_spl hoff hjn]
     have hl:(spl ((es.drop (j * t'.size)).take t'.size) off us).length=t'.size:=TR.length hT
     generalize spl ((es.drop (j * t'.size)).take t'.size) off us=q at hl
     simp only [spl,hl]
    rw [hspl] at hset
    have hlen:(spl es (j * t'.size + off) us).length=es.length:=spl_len (by omega)
    obtain ⟨hG1,hG2⟩:=hM.set (x':=.row E t' (xs.set j u')) (List.getElem?_eq_some_iff.1 hb).1 ((kept_setRow b (spl es (j * t'.size + off) us ++ sp).toArray).wide (fun b' e=>by subst e;exact hown))
     ⟨h,_,h1,h2,h3,hset,by rw [hlen,List.length_set];exact hl5,.inr ⟨b,_,sp,by rw [hv5,List.length_set],by rw [List.length_set];exact hnc,hblk.setRow (by simp [hlen]),by rw [← hcap];simp [hlen],hmax⟩⟩
    exact ⟨none,.t [],_,_,_,_,hst,hG1,hG2.weak (fun i e=>by subst e;simp [idsV]),hk⟩
   split at e
   ·split at e<;>first | (cases e;done) | skip
    rename_i u' hu'
    have hT:=toP_R hu' hy2
    have hoff:off=0:=by
     have:h.z.off []=some 0:=by cases h.z<;>rfl
     rw [this] at h7;cases h7;rfl
    subst hoff
    have hul':=TR.length hT
    have hsp:spl ((es.drop (j * t'.size)).take t'.size) 0 us=us:=by
     have:((es.drop (j * t'.size)).take t'.size).length=t'.size:=by rw [List.length_take,List.length_drop];omega
     simp only [spl,List.take_zero,List.nil_append]
     rw [List.drop_of_length_le (by omega),List.append_nil]
    exact fin u' (by rw [hsp];exact hT) (by omega) e
   ·obtain ⟨y',hy',e⟩:=bindS e
    have hT:=LR.get (fun _ _=>TR.length) h4 hy'
    obtain ⟨v',hk,h11,h12,_⟩:=setP_R hy2 e (ofP_R (ρ:=ρ) hT) (by rw [ofP_sz,← h2];exact h7)
    split at hk<;>first | (cases hk;done) | skip
    rename_i u' hu'
    have hl2:((es.drop (j * t'.size)).take t'.size).length=t'.size:=by rw [List.length_take,List.length_drop];omega
    rw [hl2] at h12
    exact fin u' (toP_R hu' h11) h12 hk
  ·rename_i E Ei t' rows out hb
   split at e<;>first | (cases e;done) | skip
   rename_i id' q _
   split at e<;>first | (cases e;done) | skip
   rename_i hid
   have hid:=Nat.eq_of_beq_eq_true hid
   subst hid
   rw [nth_eq] at hb
   obtain ⟨h,es,h1,h2,h3,h5,h6,h8'⟩:=hM.th _ _ hb
   obtain ⟨u,hu,⟨h',off,ad,nn,cp,g6,g7,g8,g9,g10⟩,_⟩:=iopd_1 hE hG hv rfl (by simp) hF
   cases g10
   rw [h1] at g6;cases g6
   obtain ⟨h'',v,m1,m2,m3,_⟩:=hy2
   rw [h1] at m1;cases m1
   subst m3
   have h5':=h5
   obtain ⟨hl5,hr5⟩:=h5'
   rcases hr5 with ⟨hnil,_⟩ | ⟨b,cap,sp,hv5,hnc,hblk,hcap,hmax⟩
   ·rw [hnil] at g8;cases g8
   rw [hv5] at g8;cases g8
   have hoff:off=0:=by
    have:Sz.off h.z []=some 0:=by cases h.z<;>rfl
    rw [this] at g7;cases g7;rfl
   subst hoff
   have hown:O b=.th id':=h3 b (by rw [hv5];rfl)
   have hol:blockOf h.v b:=by rw [hv5];rfl
   have h2s:h.z.size=1:=by rw [h2];rfl
   rw [add_zero _ rfl,Nat.zero_add,h2s,Nat.mul_one,Nat.add_zero] at hu
   have hjl:j + 1≤es.length:=by rw [hl5];omega
   have hst:=run_store' hc ho hu hy1 hz h1c hblk (by simp;omega)
   rw [spl_app (by simpa using hjl)] at hst
   have hspl:spl es j [v]=es.set j v:=by
    simp only [spl,List.length_singleton]
    rw [List.set_eq_take_append_cons_drop,if_pos (by omega)];simp
   rw [hspl] at hst
   have hoth:∀ b',b' ≠ b->(w.setRow b (es.set j v ++ sp).toArray).heap[b']? = w.heap[b']?:=fun b' hb'=>by
    have hk:=kept_setRow (w:=w) b (es.set j v ++ sp).toArray
    rcases Nat.lt_or_ge b' w.heap.size with hlt | hge
    ·exact hk.block b' hlt (fun e=>hb' e.symm)
    ·rw [Array.getElem?_eq_none (by simp [World.setRow];omega),Array.getElem?_eq_none hge]
   obtain ⟨hG1,hG2⟩:=hM.set (x':=.rr E Ei t' rows (out.set j q)) (List.getElem?_eq_some_iff.1 hb).1 ((kept_setRow b (es.set j v ++ sp).toArray).wide (fun b' e=>by subst e;exact hown))
    ⟨h,es.set j v,h1,h2,h3,⟨by rw [List.length_set,List.length_set];exact hl5,.inr ⟨b,_,sp,by rw [hv5,List.length_set],by rw [List.length_set];exact hnc,hblk.setRow (by simp),by rw [← hcap];simp,hmax⟩⟩,h6.set m2 (by omega),⟨h8'.len,fun k ys hk=>by
     obtain ⟨v2,c2,n1,n2,n3,n4⟩:=h8'.row k ys hk
     exact ⟨v2,c2,n1,n2,n3,Rs.same (r:=.row Ei t'.size v2 ys.length c2) (fun b' hbb=>hoth b' (fun e=>by subst e;exact h8'.out k ys _ _ hk n1 hbb hol)) n4⟩,h8'.apart,h8'.out,h8'.sl⟩⟩
   exact ⟨none,.t [],_,_,_,_,hst,hG1,hG2.weak (fun i e=>by subst e;simp [idsV]),e⟩
 ·rename_i t' id q j p hx
  rw [hv] at hx;cases hx
  split at e<;>first | (cases e;done) | skip
  rename_i E Ei t'' rows out hb
  split at e<;>first | (cases e;done) | skip
  rename_i rows' u' hcast hu'
  obtain ⟨e1,he1⟩:=castRr_ok hcast
  subst e1
  have he1:rows'=rows:=he1
  subst he1
  rw [nth_eq] at hb
  obtain ⟨h,es,h1,h2,h3,h5,h6,h8⟩:=hM.th _ _ hb
  obtain ⟨xs,hxs,e⟩:=bindS e
  have hxs:=rxG_some hxs
  obtain ⟨u,hu,⟨h',off,ad,nn,cp,g6,g7,g8,g9,g10⟩,_⟩:=iopd_1 hE hG hv rfl (by simp) hF
  cases g10
  rw [h1] at g6;cases g6
  obtain ⟨v',cs',k1,k2,k3,krow⟩:=h8.row q xs hxs
  rw [g7] at k1;cases k1
  obtain ⟨hl5,hr5⟩:=krow
  rcases hr5 with ⟨hnil,_⟩ | ⟨b,cap,sp,hv5,hnc,hblk,hcap,hmax⟩
  ·cases hnil
  cases hv5
  have hoff:off=0:=by
   have:Sz.off t''.sz []=some 0:=by cases t''.sz<;>rfl
   rw [this] at g8;cases g8;rfl
  subst hoff
  have hT:=toP_R hu' hy2
  have hul':=TR.length hT
  have hown:O b=.th id:=k2 b rfl
  have hjn:j * t''.size + t''.size≤cs'.length:=by
   rw [hl5]
   have:=Nat.mul_le_mul_right t''.size (show j + 1≤xs.length by omega)
   rw [Nat.add_mul] at this;omega
  rw [add_zero _ rfl,Nat.zero_add,Nat.add_zero] at hu
  have hst:=run_store' hc ho hu hy1 hz h1c hblk (by rw [List.length_append];omega)
  rw [spl_app (by omega)] at hst
  have hset:=LR.set (fun _ _=>TR.length) k3 (j:=j) g9 hT
  have hspl:cs'.take (j * t''.size) ++ us ++ cs'.drop (j * t''.size + t''.size)=spl cs' (j * t''.size) us:=by
   simp only [spl,hul']
  rw [hspl] at hset
  have hlen:(spl cs' (j * t''.size) us).length=cs'.length:=spl_len (by omega)
  have hrow':Row (w.setRow b (spl cs' (j * t''.size) us ++ sp).toArray) Ei t''.size (.slice (some ⟨b,0,none⟩) xs.length cp) (xs.set j u').length (spl cs' (j * t''.size) us):=
   ⟨by rw [hlen,List.length_set];exact hl5,.inr ⟨b,_,sp,by rw [List.length_set],by rw [List.length_set];exact hnc,hblk.setRow (by simp [hlen]),by rw [← hcap];simp [hlen],hmax⟩⟩
  have hoth:∀ b',b' ≠ b->(w.setRow b (spl cs' (j * t''.size) us ++ sp).toArray).heap[b']? = w.heap[b']?:=fun b' hb'=>by
   have hk:=kept_setRow (w:=w) b (spl cs' (j * t''.size) us ++ sp).toArray
   rcases Nat.lt_or_ge b' w.heap.size with hlt | hge
   ·exact hk.block b' hlt (fun e=>hb' e.symm)
   ·rw [Array.getElem?_eq_none (by simp [World.setRow];omega),Array.getElem?_eq_none hge]
  have hal:∀ (k:Nat) (ys:List t''.den),(rows'.set q (some (xs.set j u')))[k]? = some (some ys)->∃ zs,rows'[k]? = some (some zs)∧(k ≠ q->ys=zs):=fun k ys hk=>by
   rw [List.getElem?_set] at hk
   split at hk
   ·rename_i hqk;subst hqk;exact ⟨xs,hxs,fun h=>absurd rfl h⟩
   ·exact ⟨ys,hk,fun _=>rfl⟩
  obtain ⟨hG1,hG2⟩:=hM.set (x':=.rr E Ei t'' (rows'.set q (some (xs.set j u'))) out) (List.getElem?_eq_some_iff.1 hb).1 ((kept_setRow b (spl cs' (j * t''.size) us ++ sp).toArray).wide (fun b' e=>by subst e;exact hown))
   ⟨h,es,h1,h2,h3,Rs.same (r:=.row E 1 h.v out.length es) (fun b' hbb=>hoth b' (fun e=>by subst e;exact h8.out q xs _ _ hxs g7 rfl hbb)) h5,h6,⟨by rw [List.length_set];exact h8.len,fun k ys hk=>by
    by_cases hkq:k=q
    ·subst hkq
     have hql:k < rows'.length:=(List.getElem?_eq_some_iff.1 hxs).1
     rw [List.getElem?_set_self hql] at hk
     cases hk
     exact ⟨_,_,g7,k2,hset,hrow'⟩
    ·obtain ⟨zs,hz1,hz2⟩:=hal k ys hk
     rw [hz2 hkq]
     obtain ⟨v2,c2,m1,m2,m3,m4⟩:=h8.row k zs hz1
     exact ⟨v2,c2,m1,m2,m3,Rs.same (r:=.row Ei t''.size v2 zs.length c2) (fun b' hbb=>hoth b' (fun e=>by subst e;exact hkq (h8.apart k zs q xs v2 _ _ hz1 hxs m1 g7 hbb rfl))) m4⟩,
    fun k ys k' ys' v1 v2 b' hk hk' e1 e2 n1 n2=>by
     obtain ⟨zs,hz1,_⟩:=hal k ys hk
     obtain ⟨zs',hz1',_⟩:=hal k' ys' hk'
     exact h8.apart k zs k' zs' v1 v2 b' hz1 hz1' e1 e2 n1 n2,
    fun k ys v1 b' hk e1 n1=>by
     obtain ⟨zs,hz1,_⟩:=hal k ys hk
     exact h8.out k zs v1 b' hz1 e1 n1,h8.sl⟩⟩
  exact ⟨none,.t [],_,_,_,_,hst,hG1,hG2.weak (fun i e=>by subst e;simp [idsV]),e⟩
end
end Go.Tw
namespace Go.Tw
set_option linter.unusedSimpArgs false
set_option linter.unusedVariables false
theorem flat_rep_get (zc:List Value):∀ (m p:Nat),p < m * zc.length->(List.replicate m zc).flatten[p]? = zc[p % zc.length]?
 | 0,p,h=>by simp at h
 | m + 1,p,h=>by
  rw [List.replicate_succ,List.flatten_cons]
  rcases Nat.lt_or_ge p zc.length with h' | h'
  ·rw [List.getElem?_append_left h',Nat.mod_eq_of_lt h']
  ·rw [List.getElem?_append_right h',flat_rep_get zc m (p - zc.length) (by rw [Nat.add_mul] at h;omega),Nat.mod_eq_sub_mod h']
theorem range_rep (zc:List Value) (hz:0 < zc.length) (m:Nat):(Array.range (m * zc.length)).map (fun x=>zc.toArray[x % zc.toArray.size]!)=(List.replicate m zc).flatten.toArray:=by
 have hl:(List.replicate m zc).flatten.length=m * zc.length:=by simp [List.length_flatten]
 apply Array.ext
 ·simp [hl]
 ·intro p h1 h2
  have hp:p < m * zc.length:=by simpa using h1
  have hmod:p % zc.length < zc.length:=Nat.mod_lt _ hz
  have e:=flat_rep_get zc m p hp
  have h3:p < (List.replicate m zc).flatten.length:=by rw [hl];exact hp
  rw [List.getElem?_eq_getElem h3,List.getElem?_eq_getElem hmod] at e
  simp only [Array.getElem_map,Array.getElem_range,List.size_toArray,List.getElem_toArray]
  rw [Option.some.inj e]
  simp [hmod]
section
variable {P:Program} {c:Cfg} {n:Nat} {a:Act} {l:Env} {il:IEnv} {O:Own} {ρ:List Hd} {tb:Tbl} {w:World} {o:Oper}
theorem run_makeG {ty e s bytes:Nat} {z:Value} {zc:List Value} {x y:Operand} {i j:Int} (he:EOk P ty e s bytes z) (hzc:z.cells=zc.toArray) (ho:o.op=.makeSlice ty x y) (hx:a.eval x=vI i) (hy:a.eval y=vI j)
  (hi:0≤i) (hij:i≤j) (hj:j≤4611686018427387904) (hbt:bytes * j≤281474976710656) :
  ∃ v w',(execOp a.eval o).run P w=.ok (.value v) w'∧Row w' e s v i.toNat (List.replicate i.toNat zc).flatten∧Kept none1 w w'∧∀ b,blockOf v b->w.heap.size≤b:=by
 obtain ⟨f,hf,hk,hb,hz⟩:=he.info
 have hsz:zc.length=s:=by have:=he.cells;rw [hzc] at this;simpa using this
 have hpos:=he.pos
 have hwi:IntKind.i64.wrap i=i:=w64_in (by omega) (by omega)
 have hwj:IntKind.i64.wrap j=j:=w64_in (by omega) (by omega)
 have hrow:=range_rep zc (by omega) j.toNat
 rw [hsz] at hrow
 have hfl:∀ m,(List.replicate m zc).flatten.length=m * s:=fun m=>by simp [List.length_flatten,hsz]
 refine ⟨.slice (some ⟨w.heap.size,0,none⟩) i.toNat j.toNat,{ w with heap:=w.heap.push (.cells (List.replicate j.toNat zc).flatten.toArray e) },?_,⟨hfl _,.inr ⟨w.heap.size,j.toNat,(List.replicate (j.toNat - i.toNat) zc).flatten,rfl,by omega,?_,?_,?_⟩⟩,kept_alloc w _,fun b hb=>by cases hb;exact Nat.le_refl _⟩
 ·simp only [execOp,ho,hx,hy]
  have c1:¬ (j < 0):=by omega
  have c2:¬ ((bytes:Int) * j > 281474976710656):=by omega
  have c3:¬ (i < 0):=by omega
  have c4:¬ (i > j):=by omega
  have hroom:∀ (q:Nat) (w:World),(askRoom q).run P w=.ok () w:=fun q w=>by unfold askRoom;split<;>rfl
  by_cases hj0:j.toNat=0
  ·have hj1:j≤0:=by omega
   simp [Instr.makeSlice,run_underlying he.slice,asInt,asIntOf,typeInfo,hf,hb,hwi,hwj,c1,c2,c3,c4,sizeOf,hk,hj0,newRow,newObj,hroom]
   have e0:Array.range 0 = #[]:=rfl
   simp [Sem.run,e0]
  ·have hj1:¬ (j.toNat * s=0):=by
    intro h
    rcases Nat.mul_eq_zero.1 h with h | h<;>omega
   have hrow':Array.map (fun x=>z.cells[x % z.cells.size]!) (Array.range (j.toNat * s))=(List.replicate j.toNat zc).flatten.toArray:=by rw [hzc];rw [← hrow]
   simp [Instr.makeSlice,run_underlying he.slice,asInt,asIntOf,typeInfo,hf,hb,hwi,hwj,c1,c2,c3,c4,sizeOf,hk,hj1,newRow,newObj,zeroValue,hz,hrow',hroom]
   simp [Sem.run]
 ·have e1:(List.replicate i.toNat zc).flatten ++ (List.replicate (j.toNat - i.toNat) zc).flatten=(List.replicate j.toNat zc).flatten:=by
   rw [← List.flatten_append,List.replicate_append_replicate,show i.toNat + (j.toNat - i.toNat)=j.toNat from by omega]
  rw [e1]
  exact blk_new e _
 ·rw [List.length_append,hfl,hfl,← Nat.add_mul];congr 1;omega
 ·simp only [maxLen];omega
def wMk {β:Type} (c:Cfg) (il:IEnv) (tb:Tbl) (k:Option IV->Tbl->Option β) (ty:Nat) (x y:Operand):Option β:=
 match c.D ty with
 | some (.slice e)=>match c.E e,iopd c il x,iopd c il y with
  | some t,some (.o (.i i)),some (.o (.i j))=>(gmake t.zero i j).bind fun xs=>k (some (.rw tb.length)) (tb ++ [.row e t xs])
  | _,_,_=>none
 | _=>none
theorem wMk_ok {β:Type} {k:Option IV->Tbl->Option β} {r:β} (hc:COk P c) (hF:Fr n a l) (hE:ER O ρ il l) (hG:GO c O) (hM:Gm O ρ tb w) {ty:Nat} {x y:Operand} (ho:o.op=.makeSlice ty x y) (e:wMk c il tb k ty x y=some r):WOk P a o O ρ w (fun _=>False) k r:=by
 unfold wMk at e
 split at e<;>first | (cases e;done) | skip
 rename_i el hd
 split at e<;>first | (cases e;done) | skip
 rename_i t i j ht hx hy
 obtain ⟨xs,hxs,e⟩:=bindS e
 obtain ⟨h0,h1,h2,rfl⟩:=gmake_some hxs
 obtain ⟨bytes,z,zc,h3,h4,h5,h6⟩:=hc.elem _ _ _ hd ht
 have hb':(bytes:Int) * j≤281474976710656:=by
  have:(bytes:Int)≤128:=by omega
  have:(bytes:Int) * j≤128 * j:=Int.mul_le_mul_of_nonneg_right this (by omega)
  omega
 obtain ⟨v,w',h7,h8,h9,h10⟩:=run_makeG (P:=P) (w:=w) h3 h5 ho (opd_val hF (iopd_o hE hG hx).1) (opd_val hF (iopd_o hE hG hy).1) h0 h1 (by omega) hb'
 refine new_row hM h7 h9 (by simpa using h8) h10 (LR.replicate (h6 O) _) e
theorem Gm.frz {id E:Nat} {t:Ty} {xs:List t.den} {tb:Tbl} (hM:Gm O ρ tb w) (hb:tb[id]? = some (.row E t xs)):∃ O' h,ρ[id]? = some h∧Gm O' ρ (tb.set id (.fz t xs)) w∧Stp (· = id) O ρ w O' ρ w∧TR O' (.sl t) xs [h.v]∧(∀ b j,j ≠ id->O b=.th j->O' b=.th j)∧h.z=t.sz:=by
 obtain ⟨h,es,h1,h2,h3,h4,h5⟩:=hM.th _ _ hb
 have hsl:=h5.isSl
 obtain ⟨q,m,cp,hv⟩:∃ q m cp,h.v=.slice q m cp:=by cases hv:h.v<;>first | exact ⟨_,_,_,rfl⟩ | (rw [hv] at hsl;cases hsl)
 have hid:=(List.getElem?_eq_some_iff.1 hb).1
 have h5':=h5
 obtain ⟨hl,h6⟩:=h5'
 rcases h6 with ⟨hn,h0⟩ | ⟨b,cap,sp,hv',hnc,hblk,hcap,hmx⟩
 ·have hx:xs=[]:=List.eq_nil_of_length_eq_zero h0
  have hT:TR O (.sl t) xs [h.v]:=by subst hx;rw [hn];exact ⟨_,[],rfl,rfl,.inl ⟨rfl,none,0,rfl⟩⟩
  obtain ⟨g1,g2⟩:=hM.set (x':=.fz t xs) hid (Kept.refl _ w) ⟨h,h1,h2,hT⟩
  exact ⟨O,h,h1,g1,g2,hT,fun _ _ _ e=>e,h2⟩
 ·have hown:O b=.th id:=h3 b (by rw [hv'];rfl)
  obtain ⟨fz,hh,_⟩:=hblk
  have hle:O.le (fun b'=>bif Nat.beq b b' then .im (es ++ sp) else O b'):=fun b' all e=>by
   cases e':Nat.beq b b' with
   | true=>have:=Nat.eq_of_beq_eq_true e';subst this;rw [hown] at e;cases e
   | false=>simp only [e',cond_false];exact e
  have hT:TR (fun b'=>bif Nat.beq b b' then .im (es ++ sp) else O b') (.sl t) xs [h.v]:=by
   refine ⟨_,es,rfl,h4.mono (fun _ _=>TR.mono hle),.inr ⟨b,0,cap,hv',hnc,es ++ sp,by simp,fun j c hj=>?_⟩⟩
   rw [Nat.zero_add,List.getElem?_append_left (List.getElem?_eq_some_iff.1 hj).1];exact hj
  have hoth:∀ b' j,j ≠ id->O b'=.th j->(bif Nat.beq b b' then Ow.im (es ++ sp) else O b')=.th j:=fun b' j hj e=>by
   cases e':Nat.beq b b' with
   | true=>have:=Nat.eq_of_beq_eq_true e';subst this;rw [hown] at e;cases e;exact absurd rfl hj
   | false=>exact e
  obtain ⟨g1,g2⟩:=hM.step (M:=(· = id)) (O':=fun b'=>bif Nat.beq b b' then .im (es ++ sp) else O b') (ρ':=ρ) (tb':=tb.set id (.fz t xs)) (w':=w) (Kept.refl _ _)
   (fun b' _ hn=>by
    cases e':Nat.beq b b' with
    | true=>have:=Nat.eq_of_beq_eq_true e';subst this;exact absurd hown (hn id rfl)
    | false=>rfl)
   (fun b' hb'=>by
    cases e':Nat.beq b b' with
    | true=>have:=Nat.eq_of_beq_eq_true e';subst this;rw [hM.lt _ hb'] at hown;cases hown
    | false=>exact hM.lt b' hb')
   (fun b' all e=>by
    cases e':Nat.beq b b' with
    | true=>have:=Nat.eq_of_beq_eq_true e';subst this;simp only [e',cond_true,Ow.im.injEq] at e;subst e;exact .inr ⟨_,_,hh⟩
    | false=>simp only [e',cond_false] at e;exact .inl e)
   (.refl _) (by simp [hM.len]) (fun j x hx=>by
    rw [List.getElem?_set] at hx
    split at hx
    ·rename_i e;subst e
     have:x=.fz t xs:=by first | (rw [if_pos hid] at hx;cases hx;rfl) | (cases hx;rfl)
     subst this;exact .inr ⟨h,h1,h2,hT⟩
    ·rename_i e;exact .inl ⟨hx,fun h=>e h.symm⟩)
  exact ⟨_,h,h1,g1,g2,hT,hoth,h2⟩
def frzIV:IV->Tbl->Option Tbl
 | .rw id,tb=>match nth tb id with
  | some (.row _ t xs)=>some (tb.set id (.fz t xs))
  | some (.fz _ _)=>some tb
  | _=>none
 | .pr a b,tb=>match frzIV a tb with
  | some tb=>frzIV b tb
  | none=>none
 | _,tb=>some tb
def frzL:List (Nat×IV)->Tbl->Option Tbl
 | [],tb=>some tb
 | (_,v) :: r,tb=>match frzIV v tb with
  | some tb=>frzL r tb
  | none=>none
def idsD:IV->List Nat
 | .rw id=>[id]
 | .pr a b=>idsD a ++ idsD b
 | _=>[]
def idsL:List (Nat×IV)->List Nat
 | []=>[]
 | (_,v) :: r=>idsD v ++ idsL r
def litIds (c:Cfg) (il:IEnv) (ps:List (Nat×Operand)):List Nat:=match iparts c il ps with
 | some vs=>idsL vs
 | none=>[]
theorem frzIV_ok:∀ {v:IV} {tb tb':Tbl} {O:Own} {ρ:List Hd} {w:World},frzIV v tb=some tb'->Gm O ρ tb w->∃ O',Gm O' ρ tb' w∧Stp (· ∈ idsD v) O ρ w O' ρ w∧tb'.length=tb.length:=by
 intro v
 induction v with
 | rw id=>
  intro tb tb' O ρ w e hM
  simp only [frzIV] at e
  split at e<;>first | (cases e;done) | skip
  ·rename_i E t xs hb
   rw [nth_eq] at hb
   cases e
   obtain ⟨O',h,h1,g1,g2,_⟩:=hM.frz hb
   exact ⟨O',g1,g2.weak (fun i e=>by subst e;simp [idsD]),by simp⟩
  ·cases e;exact ⟨O,hM,.refl _ _ _ _,rfl⟩
 | pr a b iha ihb=>
  intro tb tb' O ρ w e hM
  simp only [frzIV] at e
  split at e<;>first | (cases e;done) | skip
  rename_i tb1 h1
  obtain ⟨O1,g1,g2,g3⟩:=iha h1 hM
  obtain ⟨O2,k1,k2,k3⟩:=ihb e g1
  exact ⟨O2,k1,(g2.weak (fun i h=>by simp [idsD,h])).trans (k2.weak (fun i h=>by simp [idsD,h])),k3.trans g3⟩
 | _=>intro tb tb' O ρ w e hM;simp only [frzIV,Option.some.injEq] at e;subst e;exact ⟨O,hM,.refl _ _ _ _,rfl⟩
theorem frzL_ok:∀ {vs:List (Nat×IV)} {tb tb':Tbl} {O:Own} {ρ:List Hd} {w:World},frzL vs tb=some tb'->Gm O ρ tb w->∃ O',Gm O' ρ tb' w∧Stp (· ∈ idsL vs) O ρ w O' ρ w∧tb'.length=tb.length
 | [],tb,tb',O,ρ,w,e,hM=>by simp only [frzL,Option.some.injEq] at e;subst e;exact ⟨O,hM,.refl _ _ _ _,rfl⟩
 | (i,v) :: r,tb,tb',O,ρ,w,e,hM=>by
  simp only [frzL] at e
  split at e<;>first | (cases e;done) | skip
  rename_i tb1 h1
  obtain ⟨O1,g1,g2,g3⟩:=frzIV_ok h1 hM
  obtain ⟨O2,k1,k2,k3⟩:=frzL_ok e g1
  exact ⟨O2,k1,(g2.weak (fun i h=>by simp [idsL,h])).trans (k2.weak (fun i h=>by simp [idsL,h])),k3.trans g3⟩
def toPT (tb:Tbl):(t:Ty)->IV->Option t.den
 | .sl t,v=>match v with
  | .rw id=>match nth tb id with
   | some (.fz t' xs)=>castR (Ty.eq? t' t) xs
   | _=>none
  | v=>v.asSl t
 | .pr a b,v=>match v with
  | .pr x y=>match toPT tb a x,toPT tb b y with
   | some x,some y=>some (x,y)
   | _,_=>none
  | _=>none
 | .i,v=>v.asI
 | .u8,v=>v.asU8
 | .u32,v=>v.asU32
 | .u64,v=>v.asU64
 | .bo,v=>v.asB
 | .s,v=>v.asS
 | .un,v=>match v with
  | .un=>some ()
  | _=>none
 | .ar n t,v=>v.asAr n t
theorem toPT_R {tb:Tbl} {w:World} (hM:Gm O ρ tb w):∀ {t:Ty} {v:IV} {x:t.den} {cs:List Value},toPT tb t v=some x->R O ρ false v cs->TR O t x cs:=by
 intro t
 induction t with
 | sl t ih=>
  intro v x cs e h
  cases v<;>first | exact toP_R (t:=.sl t) e h | skip
  rename_i id
  simp only [toPT] at e
  split at e<;>first | (cases e;done) | skip
  rename_i t' xs hb
  obtain ⟨e1,he1⟩:=castR_ok e
  subst e1
  have he1:x=xs:=he1
  subst he1
  rw [nth_eq] at hb
  obtain ⟨h',h1,h2,h3⟩:=hM.th _ _ hb
  obtain ⟨h0,h4,h5,_⟩:=h
  rw [h1] at h4;cases h4
  subst h5
  exact h3
 | pr a b iha ihb=>
  intro v x cs e h
  cases v<;>simp only [toPT] at e<;>first | (cases e;done) | skip
  split at e<;>first | (cases e;done) | skip
  rename_i x1 y1 h1 h2
  cases e
  obtain ⟨c,d,rfl,h3,h4⟩:=h
  exact ⟨c,d,rfl,iha h1 h3,ihb h2 h4⟩
 | i=>intro v x cs e h;exact toP_R (t:=.i) e h
 | u8=>intro v x cs e h;exact toP_R (t:=.u8) e h
 | u32=>intro v x cs e h;exact toP_R (t:=.u32) e h
 | u64=>intro v x cs e h;exact toP_R (t:=.u64) e h
 | bo=>intro v x cs e h;exact toP_R (t:=.bo) e h
 | s=>intro v x cs e h;exact toP_R (t:=.s) e h
 | un=>intro v x cs e h;exact toP_R (t:=.un) e h
 | ar n t _=>intro v x cs e h;exact toP_R (t:=.ar n t) e h
def numb (tb:Tbl) (t:Ty):Nat->List (Nat×IV)->Option (List t.den)
 | _,[]=>some []
 | q,(i,u) :: r=>match Nat.beq i q,toPT tb t u,numb tb t (q + 1) r with
  | true,some x,some xs=>some (x :: xs)
  | _,_,_=>none
theorem PaR.mono {O O':Own} {ρ ρ':List Hd} (hO:O.le O') (hρ:Pre ρ ρ'):∀ {ps:List (Nat×IV)} {ys:List (Nat×Value)},PaR O ρ ps ys->PaR O' ρ' ps ys
 | [],ys,h=>h
 | (i,v) :: r,ys,h=>by
  obtain ⟨x,rest,cs,rfl,h1,h2,h3⟩:=h
  exact ⟨x,rest,cs,rfl,h1,R.mono hO hρ h2,PaR.mono hO hρ h3⟩
theorem WOk.pre {β:Type} {P:Program} {a:Act} {o:Oper} {O O1:Own} {ρ ρ1:List Hd} {w:World} {M M1:Nat->Prop} {k:Option IV->Tbl->Option β} {r:β} (h:Stp M O ρ w O1 ρ1 w) (hk:WOk P a o O1 ρ1 w M1 k r) (hm:∀ i,M1 i->M i):WOk P a o O ρ w M k r:=by
 obtain ⟨v,x,tb',O',ρ',w',h1,h2,h3,h4⟩:=hk
 exact ⟨v,x,tb',O',ρ',w',h1,h2,h.trans (h3.weak hm),h4⟩
theorem spl_next {cs us vs:List Value} {q:Nat} (h:q + us.length + vs.length≤cs.length):spl (spl cs q us) (q + us.length) vs=spl cs q (us ++ vs):=by
 have hA:(cs.take q ++ us).length=q + us.length:=by rw [List.length_append,List.length_take];omega
 have e1:spl cs q us=(cs.take q ++ us) ++ cs.drop (q + us.length):=rfl
 have e2:spl (spl cs q us) (q + us.length) vs=(cs.take q ++ us) ++ vs ++ (cs.drop (q + us.length)).drop vs.length:=by
  rw [e1]
  unfold spl
  rw [← hA,List.take_left,List.drop_length_add_append]
 rw [e2,List.drop_drop]
 simp [spl,Nat.add_assoc]
theorem numb_ok {tb:Tbl} {w:World} (hM:Gm O ρ tb w) {t:Ty}:∀ {ps:List (Nat×IV)} {ys:List (Nat×Value)} {q:Nat} {xs:List t.den},numb tb t q ps=some xs->PaR O ρ ps ys->xs.length=ps.length∧∃ es,LR (TR O t) xs es∧∀ cs:List Value,(q + ps.length) * t.size≤cs.length ->
  Instr.fill (fun i=>some (i * t.size,t.size)) cs.toArray ys=some (spl cs (q * t.size) es).toArray
 | [],ys,q,xs,e,h=>by
  simp only [numb,Option.some.injEq] at e;subst e
  simp only [PaR] at h;subst h
  exact ⟨rfl,[],rfl,fun cs _=>by simp [Instr.fill,spl]⟩
 | (i,u) :: ps,ys,q,xs,e,h=>by
  obtain ⟨x,rest,us,rfl,h1,h2,h3⟩:=h
  simp only [numb] at e
  split at e<;>first | (cases e;done) | skip
  rename_i y ys' hiq hy hys
  simp only [Option.some.injEq] at e;subst e
  have hiq:=Nat.eq_of_beq_eq_true hiq
  subst hiq
  have hT:=toPT_R hM hy h2
  have hul:=TR.length hT
  obtain ⟨hl,es,h4,h5⟩:=numb_ok hM hys h3
  have hel:=LR.length (fun _ _=>TR.length) h4
  refine ⟨by simp [hl],us ++ es,⟨us,es,rfl,hT,h4⟩,fun cs hcs=>?_⟩
  simp only [List.length_cons] at hcs
  have hb:i * t.size + t.size + ps.length * t.size≤cs.length:=by
   have:(i + (ps.length + 1)) * t.size=i * t.size + t.size + ps.length * t.size:=by rw [Nat.add_mul,Nat.add_mul];omega
   omega
  refine fill_put (off:=i * t.size) (k:=t.size) rfl h1 hul (by omega) ?_
  have hle:(spl cs (i * t.size) us).length=cs.length:=spl_len (by omega)
  rw [h5 _ (by rw [hle,Nat.add_mul,Nat.add_mul];omega)]
  rw [show (i + 1) * t.size=i * t.size + us.length from by rw [Nat.add_mul,hul];omega]
  rw [spl_next (by rw [hel,hl];omega)]
def chn:Nat->List (Nat×IV)->Option IV
 | _,[]=>some .un
 | q,(i,u) :: r=>match Nat.beq i q,u.sz,chn (q + 1) r with
  | true,.one,some v=>some (.pr u v)
  | _,_,_=>none
theorem chn_ok:∀ {ps:List (Nat×IV)} {ys:List (Nat×Value)} {q:Nat} {v:IV},chn q ps=some v->PaR O ρ ps ys->v.sz=ones ps.length∧∃ es,R O ρ false v es∧es.length=ps.length∧∀ cs:List Value,q + ps.length≤cs.length ->
  Instr.fill (fun i=>some (i * 1,1)) cs.toArray ys=some (spl cs q es).toArray
 | [],ys,q,v,e,h=>by
  simp only [chn,Option.some.injEq] at e;subst e
  simp only [PaR] at h;subst h
  exact ⟨rfl,[],rfl,rfl,fun cs _=>by simp [Instr.fill,spl]⟩
 | (i,u) :: ps,ys,q,v,e,h=>by
  obtain ⟨x,rest,us,rfl,h1,h2,h3⟩:=h
  simp only [chn] at e
  split at e<;>first | (cases e;done) | skip
  rename_i v' hiq hsz hv'
  simp only [Option.some.injEq] at e;subst e
  have hiq:=Nat.eq_of_beq_eq_true hiq
  subst hiq
  have hul:us.length=1:=by rw [R.length h2,hsz];rfl
  obtain ⟨hl,es,h4,h5,h6⟩:=chn_ok hv' h3
  refine ⟨by simp [IV.sz,ones,hsz,hl],us ++ es,⟨us,es,rfl,h2,h4⟩,by simp [hul,h5];omega,fun cs hcs=>?_⟩
  simp only [List.length_cons] at hcs
  refine fill_put (off:=i * 1) (k:=1) rfl h1 hul (by omega) ?_
  have hle:(spl cs (i * 1) us).length=cs.length:=spl_len (by omega)
  rw [h6 _ (by rw [hle];omega)]
  rw [show i + 1=i * 1 + us.length from by rw [hul];omega]
  rw [spl_next (by rw [h5];omega),Nat.mul_one]
def wLit {β:Type} (c:Cfg) (il:IEnv) (tb:Tbl) (k:Option IV->Tbl->Option β) (ty len:Nat) (ps:List (Nat×Operand)):Option β:=
 match c.D ty with
 | some (.slice e)=>match c.E e,iparts c il ps with
  | some t,some vs=>match frzL vs tb with
   | some tb1=>match Nat.beq vs.length len,Nat.ble (len * t.size) 16777216,numb tb1 t 0 vs with
    | true,true,some xs=>k (some (.rw tb1.length)) (tb1 ++ [.row e t xs])
    | _,_,_=>none
   | none=>none
  | none,some vs=>match c.W e,Nat.beq vs.length len,Nat.ble len 1000,chn 0 vs with
   | true,true,true,some v=>k (some (.ps tb.length len)) (tb ++ [.blk e v])
   | _,_,_,_=>none
  | _,_=>none
 | _=>none
theorem wLit_ok {β:Type} {k:Option IV->Tbl->Option β} {r:β} (hc:COk P c) (hF:Fr n a l) (hE:ER O ρ il l) (hG:GO c O) (hM:Gm O ρ tb w) {ty len:Nat} {ps:Array (Nat×Operand)} (ho:o.op=.buildSlice ty len ps) (e:wLit c il tb k ty len ps.toList=some r):WOk P a o O ρ w (· ∈ litIds c il ps.toList) k r:=by
 unfold wLit at e
 split at e<;>first | (cases e;done) | skip
 rename_i el hd
 split at e<;>first | (cases e;done) | skip
 ·rename_i t vs ht hps
  split at e<;>first | (cases e;done) | skip
  rename_i tb1 hfz
  split at e<;>first | (cases e;done) | skip
  rename_i xs hlen hle hxs
  obtain ⟨O1,hM1,hS1,hl1⟩:=frzL_ok hfz hM
  have hids:litIds c il ps.toList=idsL vs:=by simp [litIds,hps]
  rw [hids]
  refine WOk.pre hS1 (M1:=fun _=>False) ?_ (fun _ h=>h.elim)
  have hlen:=Nat.eq_of_beq_eq_true hlen
  have hle:len * t.size≤16777216:=by simpa using hle
  obtain ⟨bytes,z,zc,h3,h4,h5,h6⟩:=hc.elem _ _ _ hd ht
  obtain ⟨f,hf,hk,hbt,hz⟩:=h3.info
  have hsz:zc.length=t.size:=by have:=h3.cells;rw [h5] at this;simpa using this
  have hpos:=h3.pos
  obtain ⟨hxl,es,h7,h8⟩:=numb_ok hM1 hxs (PaR.mono hS1.im hS1.pre (iparts_ok hF hE hG hps))
  have hel:=LR.length (fun _ _=>TR.length) h7
  have hfl:∀ m,(List.replicate m zc).flatten.length=m * t.size:=fun m=>by simp [List.length_flatten,hsz]
  have hfill:=h8 (List.replicate len zc).flatten (by rw [hfl,Nat.zero_add,hlen];exact Nat.le_refl _)
  have hes:spl (List.replicate len zc).flatten (0 * t.size) es=es:=by
   simp only [spl,Nat.zero_mul,List.take_zero,List.nil_append]
   rw [List.drop_of_length_le (by rw [hfl,hel,hxl,hlen];omega),List.append_nil]
  rw [hes] at hfill
  have hrow:=range_rep zc (by omega) len
  rw [hsz] at hrow
  have hxl':xs.length=len:=hxl.trans hlen
  have hpos1:len≤len * t.size:=by
   have:=Nat.mul_le_mul_left len hpos
   simpa using this
  refine new_row (v:=.slice (some ⟨w.heap.size,0,none⟩) len len) (w':={ w with heap:=w.heap.push (.cells es.toArray el) }) hM1 ?_ (kept_alloc w _) ⟨hel,.inr ⟨w.heap.size,len,[],by rw [hxl'],by omega,by simpa using blk_new el es,by simp [hel,hxl'],by simp only [maxLen];omega⟩⟩
   (fun b hb=>by cases hb;exact Nat.le_refl _) h7 e
  simp only [execOp,ho]
  have c0:¬ (len * t.size > 2 ^ 24):=by omega
  have hps':(ps.map fun (i,x)=>(i,a.eval x)).toList=ps.toList.map fun (i,x)=>(i,a.eval x):=by simp
  have hrun:(Instr.buildSlice ty len (ps.map fun (i,x)=>(i,a.eval x))).run P w=.ok (.slice (some ⟨w.heap.size,0,none⟩) len len) { w with heap:=w.heap.push (.cells es.toArray el) }:=by
   by_cases h0:len * t.size=0
   ·have hl0:len=0:=by omega
    subst hl0
    have e0:Array.range 0 = #[]:=rfl
    have hfill':Instr.fill (fun i=>some (i * t.size,t.size)) #[] (ps.toList.map fun (i,x)=>(i,a.eval x))=some es.toArray:=by simpa using hfill
    unfold Instr.buildSlice
    simp only [Sem.run_bind,run_underlying h3.slice,Result.andThen_ok,sizeOf,typeInfo,Sem.run,hf,hk,hps',Nat.zero_mul,e0]
    simp [Sem.run,newRow,newObj,pure,hf,hk,e0,hfill',hps']
   ·have hrow':Array.map (fun x=>z.cells[x % z.cells.size]!) (Array.range (len * t.size))=(List.replicate len zc).flatten.toArray:=by rw [h5];rw [← hrow]
    have hs:=hc.tok.size
    unfold Instr.buildSlice
    simp [run_underlying h3.slice,sizeOf,typeInfo,hf,hk,zeroValue,hz,h0,c0,newRow,newObj,pure,Sem.run,hps']
    have hfill':Instr.fill (fun i=>some (i * t.size,t.size)) (List.replicate len zc).flatten.toArray (ps.toList.map fun x=>(x.fst,a.eval x.snd))=some es.toArray:=hfill
    rw [hrow',hfill']
    rfl
  simp [hrun]
 ·rename_i vs ht hps
  split at e<;>first | (cases e;done) | skip
  rename_i v hw hlen hle hch
  have hlen:=Nat.eq_of_beq_eq_true hlen
  have hle:len≤1000:=by simpa using hle
  obtain ⟨bytes,z,h3⟩:=hc.one _ _ hd hw
  obtain ⟨f,hf,hk,hbt,hz⟩:=h3.info
  obtain ⟨zc,hzc⟩:∃ zc,z.cells = #[zc]:=by
   have:=h3.cells
   obtain ⟨l⟩:∃ l,z.cells=⟨l⟩:=⟨z.cells.toList,by simp⟩
   rename_i hl
   rw [hl] at this
   match l,this with
   | [x],_=>exact ⟨x,hl⟩
   | [],h=>simp at h
   | _ :: _ :: _,h=>simp at h
  obtain ⟨hsz,es,h4,h5,h6⟩:=chn_ok hch (iparts_ok hF hE hG hps)
  have hfill:=h6 (List.replicate len zc) (by simp;omega)
  have hes:spl (List.replicate len zc) 0 es=es:=by
   simp only [spl,List.take_zero,List.nil_append]
   rw [List.drop_of_length_le (by simp;omega),List.append_nil]
  rw [hes] at hfill
  have hle':O.le (fun b=>bif Nat.beq w.heap.size b then .th tb.length else O b):=fun b all e=>by
   cases e':Nat.beq w.heap.size b with
   | true=>have:=Nat.eq_of_beq_eq_true e';rw [hM.lt b (by omega)] at e;cases e
   | false=>simp only [e',cond_false];exact e
  have hat:(ρ ++ [(⟨w.heap.size,v.sz,.bool false,[]⟩:Hd)])[tb.length]? = some ⟨w.heap.size,v.sz,.bool false,[]⟩:=by rw [← hM.len];simp
  obtain ⟨g1,g2⟩:=hM.new (h:=⟨w.heap.size,v.sz,.bool false,[]⟩) (x:=.blk el v) (Nat.beq w.heap.size) (kept_alloc w (.cells es.toArray el)) (fun b hbb=>by have:=Nat.eq_of_beq_eq_true hbb;subst this;simp)
   ⟨_,es,hat,by simp,rfl,R.mono hle' (.app _ _) h4,blk_new el es⟩
  refine ⟨some (.ps tb.length len),.o (.v (.slice (some ⟨w.heap.size,0,none⟩) len len)),_,_,_,_,⟨.of_S0 (v:=.ps tb.length len) ⟨_,rfl,_,hat,by rw [hsz,hlen],rfl⟩,?_⟩,g1,g2.weak (fun _ h=>h.elim),e⟩
  simp only [execOp,ho]
  have hps':(ps.map fun (i,x)=>(i,a.eval x)).toList=ps.toList.map fun (i,x)=>(i,a.eval x):=by simp
  have c0:¬ (len * 1 > 2 ^ 24):=by omega
  have hrun:(Instr.buildSlice ty len (ps.map fun (i,x)=>(i,a.eval x))).run P w=.ok (.slice (some ⟨w.heap.size,0,none⟩) len len) { w with heap:=w.heap.push (.cells es.toArray el) }:=by
   have hrow:Array.map (fun x=>z.cells[x % z.cells.size]!) (Array.range len)=(List.replicate len zc).toArray:=by
    rw [hzc]
    apply Array.ext'
    rw [Array.toList_map]
    apply List.ext_getElem
    ·simp
    ·intro i h1 h2;simp [Nat.mod_one]
   by_cases h0:len=0
   ·subst h0
    have hes0:es=[]:=List.length_eq_zero_iff.1 (by omega)
    subst hes0
    have e0:Array.range 0 = #[]:=rfl
    have hfill':Instr.fill (fun i=>some (i * 1,1)) #[] (ps.toList.map fun (i,x)=>(i,a.eval x))=some #[]:=by simpa using hfill
    unfold Instr.buildSlice
    simp only [Sem.run_bind,run_underlying h3.slice,Result.andThen_ok,sizeOf,typeInfo,Sem.run,hf,hk,hps',Nat.zero_mul,e0]
    simp [Sem.run,newRow,newObj,pure,hf,hk,e0,hps']
    have hfill2:Instr.fill (fun i=>some (i,1)) #[] (List.map (fun x=>(x.fst,a.eval x.snd)) ps.toList)=some #[]:=by
     have:=hfill'
     simp only [Nat.mul_one] at this
     exact this
    rw [hfill2]
    rfl
   ·unfold Instr.buildSlice
    have c1:¬ (16777216 < len):=by omega
    simp [run_underlying h3.slice,sizeOf,typeInfo,hf,hk,zeroValue,hz,h0,c0,c1,newRow,newObj,pure,Sem.run,hps']
    have hfill':Instr.fill (fun i=>some (i,1)) (List.replicate len zc).toArray (ps.toList.map fun x=>(x.fst,a.eval x.snd))=some es.toArray:=by
     have:=hfill
     simp only [Nat.mul_one] at this
     exact this
    rw [hrow,hfill']
    rfl
  simp [hrun]
def srcI {β:Type} (c:Cfg) (il:IEnv) (tb:Tbl) (t:Ty) (ty2:Nat) (B:Operand) (k:List t.den->Option β):Option β:=
 match c.D ty2,iopd c il B with
 | some .string,some (.o (.s s))=>match castR (Ty.eq? .u8 t) s with
  | some ys=>k ys
  | none=>none
 | some (.slice _),some v=>match v.agg with
  | false=>cont t tb v k
  | true=>none
 | _,_=>none
theorem LR_map_u8:∀ (xs:List UInt8),LR (TR O .u8) xs (xs.map vU8)
 | []=>rfl
 | x :: xs=>⟨[vU8 x],xs.map vU8,rfl,rfl,LR_map_u8 xs⟩
theorem first_str' (s:List UInt8) (m:Nat) (w':World):(Builtin.firstCells 1 m (vS s)).run P w'=.ok ((s.map vU8).take m).toArray w':=by
 have hx:((ByteArray.mk s.toArray).extract 0 m).data=(s.take m).toArray:=by simp [ByteArray.data_extract]
 simp only [Builtin.firstCells,hx]
 simp [List.map_take]
theorem srcI_ok {β:Type} {t:Ty} {ty2:Nat} {B:Operand} {k:List t.den->Option β} {r:β} (hc:COk P c) (hF:Fr n a l) (hE:ER O ρ il l) (hG:GO c O) (hM:Gm O ρ tb w) (e:srcI c il tb t ty2 B k=some r) :
  ∃ ys es d2,k ys=some r∧LR (TR O t) ys es∧P.underlying ty2=some d2∧(∀ q,d2 ≠ .int q)∧(∀ w':World,(Builtin.lenOf (a.eval B)).run P w'=.ok ys.length w')∧∀ w':World,w'.heap=w.heap->∀ m,m≤ys.length->(Builtin.firstCells t.size m (a.eval B)).run P w'=.ok (es.take (m * t.size)).toArray w':=by
 unfold srcI at e
 split at e<;>first | (cases e;done) | skip
 ·rename_i s hd hB
  split at e<;>first | (cases e;done) | skip
  rename_i ys hcast
  have hv:=opd_val hF (iopd_o hE hG hB).1
  obtain ⟨e1,rfl⟩:=castR_ok hcast
  subst e1
  refine ⟨_,s.map vU8,_,e,LR_map_u8 s,hc.tok.desc _ _ hd,(fun q h=>by cases h),fun w'=>?_,fun w' _ m hm=>?_⟩
  ·rw [hv];simp [Builtin.lenOf,SV.val,S0.val,size_mk,castL]
  ·rw [hv]
   have:=first_str' (P:=P) s m w'
   simpa [Ty.size] using this
 ·rename_i el v hd hB
  split at e<;>first | (cases e;done) | skip
  rename_i hag
  have ht:∀ ch,v ≠ .tu ch:=fun ch ee=>by subst ee;simp [cont] at e
  obtain ⟨u,hu,hR,_⟩:=iopd_1 hE hG hB hag ht hF
  obtain ⟨xs,es,hk,hL,hrd,_⟩:=cont_ok hM e hR
  have hr:=hrd w (Sm.refl _ _ _)
  refine ⟨xs,es,_,hk,hL,hc.tok.desc _ _ hd,(fun q h=>by cases h),fun w'=>?_,fun w' hw m hm=>?_⟩
  ·rw [hu];exact lenOf_rd hr w'
  ·rw [hu]
   exact run_first (P:=P) (w:=w') (Rd.same hr (fun b _ _=>by rw [hw])) m hm
def wApp1 {β:Type} (c:Cfg) (il:IEnv) (tb:Tbl) (k:Option IV->Tbl->Option β) (ty ty2:Nat) (A B:Operand):Option β:=
 match c.D ty with
 | some (.slice e)=>match c.E e with
  | some t=>match iopd c il A with
   | some (.rw id)=>match nth tb id with
    | some (.row E t' xs)=>match Nat.beq E e,castR (Ty.eq? t' t) xs with
     | true,some xs=>srcI c il tb t ty2 B fun ys=>(gapp xs ys).bind fun zs=>k (some (.rw tb.length)) (tb.set id .no ++ [.row e t zs])
     | _,_=>none
    | _=>none
   | some v=>match v.asNil with
    | true=>srcI c il tb t ty2 B fun ys=>(gapp [] ys).bind fun zs=>k (some (.rw tb.length)) (tb ++ [.row e t zs])
    | false=>none
   | none=>none
  | none=>none
 | _=>none
theorem run_app' {ty ty2 e s bytes:Nat} {z v:Value} {m len:Nat} {xs ys:List Value} {d2:TypeDesc} {A B:Operand} (he:EOk P ty e s bytes z) (h2:P.underlying ty2=some d2) (hd2:∀ q,d2 ≠ .int q) (ho:o.op=.call ⟨.builtin .append,#[A,B],#[ty,ty2]⟩) (hA:a.eval A=v)
  (hr:Row w e s v len xs) (hlen:∀ w:World,(Builtin.lenOf (a.eval B)).run P w=.ok m w) (hys:ys.length=m * s) (hx:∀ w':World,w'.heap=w.heap->(Builtin.firstCells s m (a.eval B)).run P w'=.ok ys.toArray w') (h1:∀ u ∈ ys,u.oneCell'=true)
  (h63:len + m≤maxLen) (hbt:(len + m) * bytes≤140737488355328) :
  ∃ v' w',(execOp a.eval o).run P w=.ok (.value v') w'∧Row w' e s v' (len + m) (xs ++ ys)∧Kept (blockOf v) w w'∧∀ b,blockOf v' b->blockOf v b∨w.heap.size≤b:=by
 obtain ⟨v',w',h3,h4⟩:=run_append (rt:=o.type) he h2 hd2 hr hlen hys hx h1 h63 hbt
 refine ⟨v',w',?_,h4⟩
 simp [execOp,ho,resolve,invoke,builtin,hA,h3]
theorem zeroCells_rep {z:Value} {zc:List Value} (hz:z.cells=zc.toArray) (hp:0 < zc.length) (m:Nat):Builtin.zeroCells z.cells m=(List.replicate m zc).flatten.toArray:=by
 have:=range_rep zc hp m
 rw [hz]
 unfold Builtin.zeroCells
 simpa using this
theorem run_appendZ {ty1 ty2 e k bytes rt:Nat} {z v:Value} {zc:List Value} {m len:Nat} {xs:List Value} (he:EOk P ty1 e k bytes z) (hzc:z.cells=zc.toArray) (h2:P.underlying ty2=some (.int .i64))
  (hr:Row w e k v len xs) (h1:∀ u ∈ zc,u.oneCell'=true) (h63:len + m≤maxLen) (hbt:(len + m) * bytes≤140737488355328) :
  ∃ v' w',(Builtin.append_ #[ty1,ty2] rt #[v,.int .i64 (m:Int)]).run P w=.ok v' w'∧Row w' e k v' (len + m) (xs ++ (List.replicate m zc).flatten)∧Kept (blockOf v) w w'∧∀ b,blockOf v' b->blockOf v b∨w.heap.size≤b:=by
 obtain ⟨f,hf,hk,hb,hz⟩:=he.info
 have hpos:0 < k:=he.pos
 have hzl:zc.length=k:=by have:=he.cells;rw [hzc] at this;simpa using this
 obtain ⟨ys,hys0⟩:∃ ys,ys=(List.replicate m zc).flatten:=⟨_,rfl⟩
 have hzr:Builtin.zeroCells z.cells m=ys.toArray:=by rw [hys0];exact zeroCells_rep hzc (by omega) m
 have hys:ys.length=m * k:=by rw [hys0];simp [List.length_flatten,hzl]
 have hy1:∀ u ∈ ys,u.oneCell'=true:=by
  intro u hu
  rw [hys0] at hu
  obtain ⟨l,hl,hu⟩:=List.mem_flatten.1 hu
  rw [(List.mem_replicate.1 hl).2] at hu
  exact h1 u hu
 rw [← hys0]
 subst hk hb
 have hsmall:len + m≤9223372036854775807:=by simp only [maxLen] at h63;omega
 have hwm:IntKind.i64.wrap (m:Int)=m:=w64_in (by omega) (by omega)
 have hmneg:¬ ((m:Int) < 0):=by omega
 have hmb:¬ (281474976710656 < (m:Int) * (f.bytes:Int)):=by
  have:m * f.bytes≤(len + m) * f.bytes:=Nat.mul_le_mul_right _ (by omega)
  have h3:((m * f.bytes:Nat):Int)=(m:Int) * (f.bytes:Int):=by simp
  omega
 have hL:(xs ++ ys).length=(len + m) * f.size:=by rw [List.length_append,hr.1,hys,Nat.add_mul]
 have hroomA:∀ (q:Nat) (w:World),(askRoom q).run P w=.ok () w:=fun q w=>by unfold askRoom;split<;>rfl
 have grow:∀ (old:Nat) (hold:old < len + m) (bs:Option Addr),0 < m->v=.slice bs len old->(∀ w':World,w'.heap=w.heap->(Builtin.firstCells f.size len v).run P w'=.ok xs.toArray w') ->
   ∃ v' w',(Builtin.append_ #[ty1,ty2] rt #[v,.int .i64 (m:Int)]).run P w=.ok v' w'∧Row w' e f.size v' (len + m) (xs ++ ys)∧Kept (blockOf v) w w'∧∀ b,blockOf v' b->blockOf v b∨w.heap.size≤b:=by
  intro old hold bs hm hv hfo
  have hge:=grownCap_ge w (len + m) old e
  have hcm:grownCap w (len + m) old e≤maxLen:=grownCap_le_maxLen w (len + m) old e h63
  have hn:¬ (len + m≤old):=by omega
  have h63':¬ (9223372036854775807 < ((len:Int) + (m:Int))):=by omega
  have h48':¬ (281474976710656 < Builtin.nextslicecap (len + m) old * f.bytes):=by have:=growslice_fits (need:=len + m) hold hbt;omega
  have hf2:=hfo w.drew rfl
  have hms:¬ (m * f.size=0):=by
   intro h
   rcases Nat.mul_eq_zero.1 h with h | h<;>omega
  have hm0:¬ (m=0):=by omega
  have hs0:¬ (f.size=0):=by omega
  refine ⟨.slice (some ⟨w.heap.size,0,none⟩) (len + m) (grownCap w (len + m) old e),w.drew.alloc (.cells (xs.toArray ++ ys.toArray ++ Builtin.zeroCells z.cells (grownCap w (len + m) old e - (len + m))) e),?_,⟨hL,.inr ⟨w.heap.size,_,(Builtin.zeroCells z.cells (grownCap w (len + m) old e - (len + m))).toList,rfl,hge,?_,?_,hcm⟩⟩,?_,fun b hb=>by cases hb;exact .inr (Nat.le_refl _)⟩
  ·subst hv
   simp [Builtin.append_,run_underlying he.slice,run_underlying h2,sizeOf,typeInfo,zeroValue,hf,hz,asInt,asIntOf,hwm,hmneg,hmb,hn,h63',h48',Question.forced,hm0,hs0,hf2,newRow,grownCap,hroomA,hzr]
   rw [if_neg hms,← Array.append_assoc];congr 3;simp
  ·have:=blk_new (w:=w.drew) e (xs ++ ys ++ (Builtin.zeroCells z.cells (grownCap w (len + m) old e - (len + m))).toList)
   have e3:(xs ++ ys ++ (Builtin.zeroCells z.cells (grownCap w (len + m) old e - (len + m))).toList).toArray=xs.toArray ++ ys.toArray ++ Builtin.zeroCells z.cells (grownCap w (len + m) old e - (len + m)):=by simp
   rw [e3] at this
   exact this
  ·simp only [List.length_append,Array.length_toList,size_zeroCells,he.cells,hr.1,hys,← Nat.add_mul]
   congr 1;omega
  ·exact ⟨rfl,rfl,rfl,by simp,fun k hk _=>@heap_alloc_old w.drew _ k (by simpa using hk)⟩
 have hr0:=hr
 obtain ⟨hl,hr2⟩:=hr
 by_cases hm0:m=0
 ·subst hm0
  have hy0:ys=[]:=List.eq_nil_of_length_eq_zero (by simpa using hys)
  subst hy0
  obtain ⟨b,c,hv,hlc⟩:∃ b c,v=.slice b len c∧len≤c:=by
   rcases hr2 with ⟨rfl,rfl⟩ | ⟨b,cap,sp,rfl,hnc,_⟩
   ·exact ⟨_,_,rfl,Nat.le_refl _⟩
   ·exact ⟨_,_,rfl,hnc⟩
  refine ⟨v,w,?_,by simpa using hr0,Kept.refl _ _,fun b hb=>.inl hb⟩
  subst hv
  have hs0:¬ (f.size=0):=by omega
  have hw0:IntKind.i64.wrap (0:Int)=0:=w64_in (by omega) (by omega)
  cases b<;>simp [Builtin.append_,run_underlying he.slice,run_underlying h2,sizeOf,typeInfo,hf,asInt,asIntOf,hw0,hlc,storeCells]
 rcases hr2 with ⟨rfl,rfl⟩ | ⟨b,cap,sp,rfl,hnc,hbk,hcap,hcm⟩
 ·have hx0:xs=[]:=List.eq_nil_of_length_eq_zero (by simpa using hl)
  subst hx0
  exact grow 0 (by omega) none (by omega) rfl (fun w' _=>by simp [Builtin.firstCells])
 ·by_cases hroom:len + m≤cap
  ·have hfit:len * f.size + 0 + ys.length≤(xs ++ sp).length:=by rw [hcap,hys,Nat.add_zero,← Nat.add_mul];exact Nat.mul_le_mul_right _ hroom
   have hst:=run_storeCells (P:=P) ys (len * f.size) 0 (xs ++ sp) w hbk hfit hy1
   have e1:(xs ++ sp).take (len * f.size + 0) ++ ys ++ (xs ++ sp).drop (len * f.size + 0 + ys.length)=(xs ++ ys) ++ sp.drop ys.length:=by
    simp only [Nat.add_zero,← hl]
    rw [List.take_left,List.drop_append,List.drop_of_length_le (by omega),Nat.add_sub_cancel_left,List.nil_append]
   rw [e1] at hst
   have hs0:¬ (f.size=0):=by omega
   refine ⟨.slice (some ⟨b,0,none⟩) (len + m) cap,_,?_,⟨hL,.inr ⟨b,cap,sp.drop ys.length,rfl,hroom,hbk.setRow ?_,?_,hcm⟩⟩,kept_setRow b _,fun x hx=>.inl hx⟩
   ·have hms:¬ (m * f.size=0):=by
     intro h
     rcases Nat.mul_eq_zero.1 h with h | h<;>omega
    simp [Builtin.append_,run_underlying he.slice,run_underlying h2,sizeOf,typeInfo,zeroValue,hf,hz,asInt,asIntOf,hwm,hmneg,hmb,hroom,hm0,hs0,hzr,add_zero,hst]
    exact fun h=>absurd h hms
   ·simp at hfit ⊢;omega
   ·rw [← hcap];simp at hfit ⊢;omega
  ·refine grow cap (by omega) (some ⟨b,0,none⟩) (by omega) rfl (fun w' hw'=>?_)
   have:=run_first (P:=P) (w:=w') (Rd.same hr0.rd (fun b _ _=>by rw [hw'])) len (Nat.le_refl _)
   rw [this,List.take_of_length_le (by rw [hl];exact Nat.le_refl _)]
theorem grown {β:Type} {k:Option IV->Tbl->Option β} {r:β} {id E:Nat} {t:Ty} {zs:List t.den} {es:List Value} {h:Hd} {v':Value} {w':World} {x0:Thing} (hM:Gm O ρ tb w) (hid:tb[id]? = some x0) (hown:∀ b,blockOf h.v b->O b=.th id) (hr:(execOp a.eval o).run P w=.ok (.value v') w') (hk:Kept (blockOf h.v) w w')
  (hrow:Row w' E t.size v' zs.length es) (hb:∀ b,blockOf v' b->blockOf h.v b∨w.heap.size≤b) (hL:LR (TR O t) zs es) (e:k (some (.rw tb.length)) (tb.set id .no ++ [.row E t zs])=some r):WOk P a o O ρ w (· = id) k r:=by
 have hsl:=hrow.isSl
 obtain ⟨q,m,cp,hv'⟩:∃ q m cp,v'=.slice q m cp:=by cases v'<;>first | exact ⟨_,_,_,rfl⟩ | cases hsl
 have hat:(ρ ++ [(⟨0,t.sz,v',[]⟩:Hd)])[tb.length]? = some ⟨0,t.sz,v',[]⟩:=by rw [← hM.len];simp
 have hlen:(tb.set id Thing.no ++ [Thing.row E t zs]).length=tb.length + 1:=by simp
 have hnew:∀ b,blkB v' b=true->O b=.th id∨w.heap.size≤b:=fun b hb'=>by
  rcases hb b (blkB_of hb') with h1 | h1
  ·exact .inl (hown b h1)
  ·exact .inr h1
 have hle:O.le (fun b=>bif blkB v' b then .th tb.length else O b):=fun b all e=>by
  cases e':blkB v' b with
  | true=>
   rcases hnew b e' with h1 | h1
   ·rw [h1] at e;cases e
   ·rw [hM.lt b h1] at e;cases e
  | false=>simp only [e',cond_false];exact e
 obtain ⟨h1,h2⟩:=hM.step (M:=(· = id)) (O':=fun b=>bif blkB v' b then .th tb.length else O b) (ρ':=ρ ++ [⟨0,t.sz,v',[]⟩]) (tb':=tb.set id .no ++ [.row E t zs]) (w':=w') (hk.wide fun b hb'=>⟨id,rfl,hown b hb'⟩)
  (fun b hb' hn=>by
   cases e':blkB v' b with
   | true=>
    rcases hnew b e' with h1 | h1
    ·exact absurd h1 (hn id rfl)
    ·omega
   | false=>rfl)
  (fun b hb'=>by
   cases e':blkB v' b with
   | true=>have:=hrow.blt (blkB_of e');omega
   | false=>exact hM.lt b (Nat.le_trans hk.size hb'))
  (fun b all e=>by
   cases e':blkB v' b with
   | true=>simp only [e',cond_true] at e;cases e
   | false=>simp only [e',cond_false] at e;exact .inl e)
  (.app _ _) (by simp [hM.len]) (fun j x hx=>by
   rcases Nat.lt_or_ge j tb.length with hj | hj
   ·rw [List.getElem?_append_left (by simpa using hj),List.getElem?_set] at hx
    split at hx
    ·rename_i e';subst e'
     have:x=.no:=by
      first
       | (rw [if_pos hj] at hx;cases hx;rfl)
       | (cases hx;rfl)
     subst this;exact .inr trivial
    ·rename_i e';exact .inl ⟨hx,fun h=>e' h.symm⟩
   ·have:j=tb.length:=by
     have:=(List.getElem?_eq_some_iff.1 hx).1
     rw [hlen] at this;omega
    subst this
    rw [List.getElem?_append_right (by simp)] at hx
    simp at hx;subst hx
    exact .inr ⟨_,es,hat,rfl,fun b hbb=>by simp [of_blkB hv' hbb],hL.mono (fun _ _=>TR.mono hle),hrow⟩)
 exact ⟨some (.rw tb.length),.o (.v v'),_,_,_,w',⟨.of_S0 (v:=.rw tb.length) ⟨v',rfl,⟨0,t.sz,v',[]⟩,hat,rfl,hsl⟩,hr⟩,h1,h2,e⟩
theorem wApp1_ok {β:Type} {k:Option IV->Tbl->Option β} {r:β} (hc:COk P c) (hF:Fr n a l) (hE:ER O ρ il l) (hG:GO c O) (hM:Gm O ρ tb w) {ty ty2:Nat} {A B:Operand} (ho:o.op=.call ⟨.builtin .append,#[A,B],#[ty,ty2]⟩) (e:wApp1 c il tb k ty ty2 A B=some r) {v:IV} (hv:iopd c il A=some v):WOk P a o O ρ w (· ∈ idsV v) k r:=by
 unfold wApp1 at e
 split at e<;>first | (cases e;done) | skip
 rename_i el hd
 split at e<;>first | (cases e;done) | skip
 rename_i t ht
 obtain ⟨bytes,z,zc,h3,h4,h5,h6⟩:=hc.elem _ _ _ hd ht
 have bnd:∀ q:Nat,q≤1099511627776->q≤maxLen∧q * bytes≤140737488355328:=fun q hq=>by
  refine ⟨by simp only [maxLen];omega,?_⟩
  have:=Nat.mul_le_mul hq h4
  omega
 split at e<;>first | (cases e;done) | skip
 ·rename_i id hA
  rw [hv] at hA;cases hA
  split at e<;>first | (cases e;done) | skip
  rename_i E t' xs hb
  split at e<;>first | (cases e;done) | skip
  rename_i xs' hE' hcast
  obtain ⟨e1,he1⟩:=castR_ok hcast
  subst e1
  have he1:xs'=xs:=he1
  subst he1
  have hE':=Nat.eq_of_beq_eq_true hE'
  subst hE'
  rw [nth_eq] at hb
  obtain ⟨h,es,h7,h8,h9,h10,h11⟩:=hM.th _ _ hb
  obtain ⟨u,hu,⟨h',h12,h13,_⟩,_⟩:=iopd_1 hE hG hv rfl (by simp) hF
  cases h13
  rw [h7] at h12;cases h12
  obtain ⟨ys,fs,d2,hk,hL,hu2,hd2,hlen,hfirst⟩:=srcI_ok hc hF hE hG hM e
  obtain ⟨zs,hz,hk⟩:=bindS hk
  obtain ⟨h14,rfl⟩:=gapp_some hz
  have hfl:=LR.length (fun _ _=>TR.length) hL
  obtain ⟨v',w',h15,h16,h17,h18⟩:=run_app' (P:=P) (w:=w) (m:=ys.length) (ys:=fs) h3 hu2 hd2 ho hu h11 hlen hfl (fun w' hw=>by
   have:=hfirst w' hw ys.length (Nat.le_refl _)
   rw [List.take_of_length_le (by omega)] at this;exact this) (LR.one (fun _ _=>TR.one) hL) (bnd _ h14).1 (bnd _ h14).2
  have hwk:=grown (zs:=xs' ++ ys) hM hb h9 h15 h17 (by rw [List.length_append];exact h16) h18 (h10.append hL) hk
  obtain ⟨v,x,tb',O',ρ',w2,g1,g2,g3,g4⟩:=hwk
  exact ⟨v,x,tb',O',ρ',w2,g1,g2,g3.weak (fun i e=>by subst e;simp [idsV]),g4⟩
 ·rename_i v0 _ hA
  rw [hv] at hA;cases hA
  split at e<;>first | (cases e;done) | skip
  rename_i hnil
  have hvn:=asNil_eq hnil
  subst hvn
  have hu:=opd_val hF (iopd_o hE hG hv).1
  obtain ⟨ys,fs,d2,hk,hL,hu2,hd2,hlen,hfirst⟩:=srcI_ok hc hF hE hG hM e
  obtain ⟨zs,hz,hk⟩:=bindS hk
  obtain ⟨h14,rfl⟩:=gapp_some hz
  have hfl:=LR.length (fun _ _=>TR.length) hL
  simp only [List.length_nil,Nat.zero_add] at h14
  obtain ⟨v',w',h15,h16,h17,h18⟩:=run_app' (P:=P) (w:=w) (len:=0) (xs:=[]) (m:=ys.length) (ys:=fs) h3 hu2 hd2 ho hu ⟨by simp,.inl ⟨rfl,rfl⟩⟩ hlen hfl (fun w' hw=>by
   have:=hfirst w' hw ys.length (Nat.le_refl _)
   rw [List.take_of_length_le (by omega)] at this;exact this) (LR.one (fun _ _=>TR.one) hL) (by have:=(bnd _ h14).1;omega) (by have:=(bnd _ h14).2;simpa using this)
  have hwk:=new_row (xs:=[] ++ ys) hM h15 (h17.wide (fun b hb=>hb.elim)) (by simpa using h16) (fun b hb=>(h18 b hb).elim (fun h=>h.elim) (fun h=>h)) (by simpa using hL) hk
  obtain ⟨v,x,tb',O',ρ',w2,g1,g2,g3,g4⟩:=hwk
  exact ⟨v,x,tb',O',ρ',w2,g1,g2,g3.weak (fun i e=>e.elim),g4⟩
def wAppZ {β:Type} (c:Cfg) (il:IEnv) (tb:Tbl) (k:Option IV->Tbl->Option β) (ty:Nat) (A B:Operand):Option β:=
 match c.D ty with
 | some (.slice e)=>match c.E e,iopd c il B with
  | some t,some (.o (.i m))=>match iopd c il A with
   | some (.rw id)=>match nth tb id with
    | some (.row E t' xs)=>match Nat.beq E e,castR (Ty.eq? t' t) xs with
     | true,some xs=>(gnn m).bind fun q=>(gapp xs (List.replicate q t.zero)).bind fun zs=>k (some (.rw tb.length)) (tb.set id .no ++ [.row e t zs])
     | _,_=>none
    | _=>none
   | some v=>match v.asNil with
    | true=>(gnn m).bind fun q=>(gapp [] (List.replicate q t.zero)).bind fun zs=>k (some (.rw tb.length)) (tb ++ [.row e t zs])
    | false=>none
   | none=>none
  | _,_=>none
 | _=>none
def wApp {β:Type} (c:Cfg) (il:IEnv) (tb:Tbl) (k:Option IV->Tbl->Option β) (ty ty2:Nat) (A B:Operand):Option β:=
 match c.D ty2 with
 | some (.int .i64)=>wAppZ c il tb k ty A B
 | _=>wApp1 c il tb k ty ty2 A B
theorem wAppZ_ok {β:Type} {k:Option IV->Tbl->Option β} {r:β} (hc:COk P c) (hF:Fr n a l) (hE:ER O ρ il l) (hG:GO c O) (hM:Gm O ρ tb w) {ty ty2:Nat} {A B:Operand} (ho:o.op=.call ⟨.builtin .append,#[A,B],#[ty,ty2]⟩) (h2:P.underlying ty2=some (.int .i64)) (e:wAppZ c il tb k ty A B=some r) {v:IV} (hv:iopd c il A=some v):WOk P a o O ρ w (· ∈ idsV v) k r:=by
 unfold wAppZ at e
 split at e<;>first | (cases e;done) | skip
 rename_i el hd
 split at e<;>first | (cases e;done) | skip
 rename_i t m ht hB
 obtain ⟨bytes,z,zc,h3,h4,h5,h6⟩:=hc.elem _ _ _ hd ht
 have bnd:∀ q:Nat,q≤1099511627776->q≤maxLen∧q * bytes≤140737488355328:=fun q hq=>by
  refine ⟨by simp only [maxLen];omega,?_⟩
  have:=Nat.mul_le_mul hq h4
  omega
 have hBv:=opd_val hF (iopd_o hE hG hB).1
 have hz1:∀ u ∈ zc,u.oneCell'=true:=TR.one (h6 O)
 have run:∀ {v:Value} {len q:Nat} {xs:List Value},a.eval A=v->Row w el t.size v len xs->m=(q:Int)->len + q≤1099511627776->∃ v' w',(execOp a.eval o).run P w=.ok (.value v') w'∧Row w' el t.size v' (len + q) (xs ++ (List.replicate q zc).flatten)∧Kept (blockOf v) w w'∧∀ b,blockOf v' b->blockOf v b∨w.heap.size≤b:=by
  intro v len q xs hA hr hm hq
  obtain ⟨v',w',g1,g2⟩:=run_appendZ (rt:=o.type) (m:=q) h3 h5 h2 hr hz1 (bnd _ hq).1 (bnd _ hq).2
  refine ⟨v',w',?_,g2⟩
  have hBv':a.eval B=.int .i64 (q:Int):=by rw [hBv,← hm]
  simp [execOp,ho,resolve,invoke,builtin,hA,hBv',g1]
 split at e<;>first | (cases e;done) | skip
 ·rename_i id hA
  rw [hv] at hA;cases hA
  split at e<;>first | (cases e;done) | skip
  rename_i E t' xs hb
  split at e<;>first | (cases e;done) | skip
  rename_i xs' hE' hcast
  obtain ⟨e1,he1⟩:=castR_ok hcast
  subst e1
  have he1:xs'=xs:=he1
  subst he1
  have hE':=Nat.eq_of_beq_eq_true hE'
  subst hE'
  rw [nth_eq] at hb
  obtain ⟨h,es,h7,h8,h9,h10,h11⟩:=hM.th _ _ hb
  obtain ⟨u,hu,⟨h',h12,h13,_⟩,_⟩:=iopd_1 hE hG hv rfl (by simp) hF
  cases h13
  rw [h7] at h12;cases h12
  obtain ⟨q,hq,e⟩:=bindS e
  obtain ⟨zs,hz,hk⟩:=bindS e
  obtain ⟨h14,rfl⟩:=gapp_some hz
  simp only [List.length_replicate] at h14
  obtain ⟨v',w',h15,h16,h17,h18⟩:=run hu h11 (by have:=gnn_some hq;omega) h14
  have hwk:=grown (zs:=xs' ++ List.replicate q t'.zero) hM hb h9 h15 h17 (by rw [List.length_append,List.length_replicate];exact h16) h18 (h10.append (LR.replicate (h6 O) q)) hk
  obtain ⟨v,x,tb',O',ρ',w2,g1,g2,g3,g4⟩:=hwk
  exact ⟨v,x,tb',O',ρ',w2,g1,g2,g3.weak (fun i e=>by subst e;simp [idsV]),g4⟩
 ·rename_i v0 _ hA
  rw [hv] at hA;cases hA
  split at e<;>first | (cases e;done) | skip
  rename_i hnil
  have hvn:=asNil_eq hnil
  subst hvn
  have hu:=opd_val hF (iopd_o hE hG hv).1
  obtain ⟨q,hq,e⟩:=bindS e
  obtain ⟨zs,hz,hk⟩:=bindS e
  obtain ⟨h14,rfl⟩:=gapp_some hz
  simp only [List.length_replicate,List.length_nil,Nat.zero_add] at h14
  obtain ⟨v',w',h15,h16,h17,h18⟩:=run (len:=0) (q:=q) (xs:=[]) hu ⟨by simp,.inl ⟨rfl,rfl⟩⟩ (by have:=gnn_some hq;omega) (by omega)
  have hwk:=new_row (xs:=[] ++ List.replicate q t.zero) hM h15 (h17.wide (fun b hb=>hb.elim)) (by simpa using h16) (fun b hb=>(h18 b hb).elim (fun h=>h.elim) (fun h=>h)) (by simpa using LR.replicate (h6 O) q) hk
  obtain ⟨v,x,tb',O',ρ',w2,g1,g2,g3,g4⟩:=hwk
  exact ⟨v,x,tb',O',ρ',w2,g1,g2,g3.weak (fun i e=>e.elim),g4⟩
theorem wApp_ok {β:Type} {k:Option IV->Tbl->Option β} {r:β} (hc:COk P c) (hF:Fr n a l) (hE:ER O ρ il l) (hG:GO c O) (hM:Gm O ρ tb w) {ty ty2:Nat} {A B:Operand} (ho:o.op=.call ⟨.builtin .append,#[A,B],#[ty,ty2]⟩) (e:wApp c il tb k ty ty2 A B=some r) {v:IV} (hv:iopd c il A=some v):WOk P a o O ρ w (· ∈ idsV v) k r:=by
 unfold wApp at e
 split at e
 ·rename_i h2
  exact wAppZ_ok hc hF hE hG hM ho (hc.tok.desc _ _ h2) e hv
 ·exact wApp1_ok hc hF hE hG hM ho e hv
def wS2B {β:Type} (c:Cfg) (il:IEnv) (tb:Tbl) (k:Option IV->Tbl->Option β) (src dst:Nat) (x:Operand):Option β:=
 match c.D src,c.D dst,iopd c il x with
 | some .string,some (.slice e),some (.o (.s s))=>match c.D e with
  | some (.int .u8)=>(gstr s).bind fun xs=>k (some (.rw tb.length)) (tb ++ [.row e .u8 xs])
  | _=>none
 | _,_,_=>none
theorem wS2B_ok {β:Type} {k:Option IV->Tbl->Option β} {r:β} (hc:COk P c) (hF:Fr n a l) (hE:ER O ρ il l) (hG:GO c O) (hM:Gm O ρ tb w) {src dst:Nat} {x:Operand} (ho:o.op=.convert src dst x) (e:wS2B c il tb k src dst x=some r):WOk P a o O ρ w (fun _=>False) k r:=by
 unfold wS2B at e
 split at e<;>first | (cases e;done) | skip
 rename_i el s hs hd hx
 split at e<;>first | (cases e;done) | skip
 rename_i he
 obtain ⟨xs,hz,e⟩:=bindS e
 obtain ⟨h1,rfl⟩:=gstr_some hz
 obtain ⟨v,w',h2,h3,h4,h5⟩:=r_s2b (P:=P) (w:=w) hc.tok hF ho (iopd_o hE hG hx).1 hs hd he (by simp only [maxLen];omega)
 exact new_row (t:=.u8) hM h2 h4 h3 h5 (LR_map_u8 _) e
end
end Go.Tw
namespace Go.Tw
set_option linter.unusedSimpArgs false
set_option linter.unusedVariables false
section
variable {P:Program} {c:Cfg} {n:Nat} {a:Act} {l:Env} {il:IEnv} {O:Own} {ρ:List Hd} {tb:Tbl} {w:World} {o:Oper}
def setMap (w:World) (b:Nat) (es:List MapEntry):World:={ w with heap:=w.heap.setIfInBounds b (.map es.toArray es.length) }
theorem kept_setMap (w:World) (b:Nat) (es:List MapEntry):Kept (fun b'=>b'=b) w (setMap w b es):=
 ⟨rfl,rfl,rfl,by simp [setMap],fun b' hb hn=>by simp [setMap,Array.getElem?_setIfInBounds,Ne.symm hn]⟩
theorem get_setMap {w:World} {b:Nat} {es:List MapEntry} {x:Obj} (h:w.heap[b]? = some x):(setMap w b es).heap[b]? = some (.map es.toArray es.toArray.size):=by
 have hlt:b < w.heap.size:=(Array.getElem?_eq_some_iff.1 h).1
 simp [setMap,hlt]
theorem modify_set {es:Array MapEntry} {j:Nat} {e:MapEntry} (f:MapEntry->MapEntry) (h:es[j]? = some e):(es.modify j f)=(es.toList.set j (f e)).toArray:=by
 obtain ⟨hj,he⟩:=Array.getElem?_eq_some_iff.1 h
 apply Array.ext_getElem?
 intro i
 simp only [Array.getElem?_modify,List.getElem?_toArray,List.getElem?_set,Array.getElem?_toList,Array.length_toList]
 by_cases hi:j=i
 ·subst hi;simp [hj,he]
 ·simp [hi]
theorem push_arr (es:Array MapEntry) (e:MapEntry):(es.toList ++ [e]).toArray=es.push e:=by
 apply Array.toList_inj.1;simp
def wMM {β:Type} (c:Cfg) (il:IEnv) (tb:Tbl) (k:Option IV->Tbl->Option β) (t:Nat) (h:Option Operand):Option β:=
 match c.M t with
 | some (kt,vt)=>match h with
  | none=>k (some (.mp tb.length)) (tb ++ [.mp kt vt []])
  | some x=>match iopd c il x with
   | some (.o (.i _))=>k (some (.mp tb.length)) (tb ++ [.mp kt vt []])
   | _=>none
 | none=>none
theorem new_map {β:Type} {k:Option IV->Tbl->Option β} {r:β} {kt vt:Ty} (hM:Gm O ρ tb w) (hr:(execOp a.eval o).run P w=.ok (.value (.map (some w.heap.size))) { w with heap:=w.heap.push (.map #[] 0) })
  (e:k (some (.mp tb.length)) (tb ++ [.mp kt vt []])=some r):WOk P a o O ρ w (fun _=>False) k r:=by
 have hat:(ρ ++ [(⟨w.heap.size,.nil,.bool false,[]⟩:Hd)])[tb.length]? = some ⟨w.heap.size,.nil,.bool false,[]⟩:=by rw [← hM.len];simp
 obtain ⟨h1,h2⟩:=hM.new (h:=⟨w.heap.size,.nil,.bool false,[]⟩) (x:=.mp kt vt []) (Nat.beq w.heap.size) (kept_alloc w (.map #[] 0)) (fun b hbb=>by have:=Nat.eq_of_beq_eq_true hbb;subst this;simp)
  ⟨_,#[],hat,by simp,by simp,rfl⟩
 exact ⟨some (.mp tb.length),.o (.v (.map (some w.heap.size))),_,_,_,_,⟨.of_S0 (v:=.mp tb.length) ⟨_,rfl,_,hat,rfl⟩,hr⟩,h1,h2,e⟩
theorem wMM_ok {β:Type} {k:Option IV->Tbl->Option β} {r:β} (hc:COk P c) (hF:Fr n a l) (hE:ER O ρ il l) (hG:GO c O) (hM:Gm O ρ tb w) {t:Nat} {h:Option Operand} (ho:o.op=.makeMap t h) (e:wMM c il tb k t h=some r):WOk P a o O ρ w (fun _=>False) k r:=by
 unfold wMM at e
 split at e<;>first | (cases e;done) | skip
 rename_i kt vt hm
 obtain ⟨kk,ee,d,z,g1,g2,g3,g4,g5⟩:=hc.maps _ _ _ hm
 split at e
 ·refine new_map hM ?_ e
  simp only [execOp,ho]
  simp [Instr.makeMap,newObj,Sem.run]
 ·split at e<;>first | (cases e;done) | skip
  rename_i x _ m hx
  refine new_map hM ?_ e
  have hv:=opd_val hF (iopd_o hE hG hx).1
  have ha:(asInt (SV.o (S0.i m)).val).run P w=.ok m w:=rfl
  simp only [execOp,ho]
  simp only [Option.map_some,hv]
  have:(Instr.makeMap t (some (SV.o (S0.i m)).val)).run P w=.ok (.map (some w.heap.size)) { w with heap:=w.heap.push (.map #[] 0) }:=by
   unfold Instr.makeMap
   simp only [Sem.run_bind,run_underlying g1,Result.andThen_ok,ha]
   rfl
  simp [this]
def bsame:Bool->Bool->Bool
 | true,true=>true
 | false,false=>true
 | _,_=>false
theorem bsame_eq:∀ {a b:Bool},bsame a b=true->a=b
 | true,true,_=>rfl
 | false,false,_=>rfl
 | true,false,h=>by cases h
 | false,true,h=>by cases h
def wMU {β:Type} (c:Cfg) (il:IEnv) (tb:Tbl) (k:Option IV->Tbl->Option β) (t:Nat) (m x y:Operand):Option β:=
 match c.M t,iopd c il m,iopd c il x,iopd c il y with
 | some (kt,vt),some (.mp id),some v,some u=>match v.agg,bsame u.agg vt.agg,nth tb id with
  | false,true,some (.mp kt' vt' l)=>match castM (Ty.eq? kt' kt) (Ty.eq? vt' vt) l,toP kt v,toP vt u with
   | some l,some q,some y=>k none (tb.set id (.mp kt vt (mpt kt l q y)))
   | _,_,_=>none
  | _,_,_=>none
 | _,_,_,_=>none
theorem toP_nt {t:Ty} {v:IV} {x:t.den} (h:toP t v=some x):∀ ch,v ≠ .tu ch:=fun ch ee=>by
 subst ee;cases t<;>simp [toP,IV.asI,IV.asU8,IV.asU32,IV.asU64,IV.asB,IV.asS,IV.asSl,IV.asAr,IV.asNil] at h
theorem wMU_ok {β:Type} {k:Option IV->Tbl->Option β} {r:β} (hc:COk P c) (hF:Fr n a l) (hE:ER O ρ il l) (hG:GO c O) (hM:Gm O ρ tb w) {t:Nat} {m x y:Operand} (ho:o.op=.mapUpdate t m x y) (e:wMU c il tb k t m x y=some r) {v:IV} (hv:iopd c il m=some v):WOk P a o O ρ w (· ∈ idsV v) k r:=by
 unfold wMU at e
 split at e<;>first | (cases e;done) | skip
 rename_i kt vt id vx vy hm hx hxx hyy
 rw [hv] at hx;cases hx
 split at e<;>first | (cases e;done) | skip
 rename_i kt' vt' l hag hbg hb
 split at e<;>first | (cases e;done) | skip
 rename_i l' q yv hcast hq hyv
 obtain ⟨e1,e2,he1⟩:=castM_ok hcast
 subst e1 e2
 have he1:l'=l:=he1
 subst he1
 rw [nth_eq] at hb
 obtain ⟨h,es,h1,h2,h3,h4⟩:=hM.th _ _ hb
 obtain ⟨kk,ee,d,z,g1,g2,g3,g4,g5⟩:=hc.maps _ _ _ hm
 obtain ⟨u,hu,⟨h',h6,h7⟩,_⟩:=iopd_1 hE hG hv rfl (by simp) hF
 cases h7
 rw [h1] at h6;cases h6
 obtain ⟨uk,huk,hRk,_⟩:=iopd_1 hE hG hxx hag (toP_nt hq) hF
 have hT:=toP_R hq hRk
 obtain ⟨cs,hy1,hy2,hy3,hy4⟩:=iopd_cells hF hE hG hyy (toP_nt hyv)
 have hV:=VR.of hyv (bsame_eq hbg) hy2 hy3 hy4
 obtain ⟨hk,_⟩:=keq_ok g3 hT hT
 have hlen:=h4.length
 obtain ⟨es',hrun,hMR⟩:∃ es':List MapEntry,(execOp a.eval o).run P w=.ok .skip (setMap w h.b es')∧MR O kt' vt' 0 (mpt kt' l' q yv) es':=by
  rcases MR.find g3 hT 0 h4 with ⟨a1,a2,a3,a4⟩ | ⟨j,e',v',a1,a2,a3,a4,a5,a6,a7,a8,a9⟩
  ·refine ⟨es.toList ++ [⟨uk,a.eval y,es.size⟩],?_,by rw [a4];exact h4.push hT hV _ (by rw [← hlen];simp)⟩
   simp only [execOp,ho,hu,huk]
   have hmu:(Instr.mapUpdate t (.map (some h.b)) uk (a.eval y)).run P w=.ok () (setMap w h.b (es.toList ++ [⟨uk,a.eval y,es.size⟩])):=by
    have:(setMap w h.b (es.toList ++ [⟨uk,a.eval y,es.size⟩]))={ w with heap:=w.heap.setIfInBounds h.b (.map (es.push ⟨uk,a.eval y,es.size⟩) (es.size + 1)) }:=by
     unfold setMap;rw [push_arr];simp
    rw [this]
    simp [Instr.mapUpdate,run_underlying g1,MapKept.run_getObj_map h3,MapKept.run_checkKey g2 hk,MapKept.run_findKey g2 a1,MapKept.run_setObj_map _ h3,Result.andThen]
   simp [hmu]
  ·have a2':es[j]? = some e':=by simpa using a2
   refine ⟨es.toList.set j ⟨uk,a.eval y,e'.born⟩,?_,by rw [a9];exact MR.set hT hV h4 _ (by omega)⟩
   simp only [execOp,ho,hu,huk]
   have hmu:(Instr.mapUpdate t (.map (some h.b)) uk (a.eval y)).run P w=.ok () (setMap w h.b (es.toList.set j ⟨uk,a.eval y,e'.born⟩)):=by
    have:(setMap w h.b (es.toList.set j ⟨uk,a.eval y,e'.born⟩))={ w with heap:=w.heap.setIfInBounds h.b (.map (es.modify j fun e=>{ e with key:=uk,val:=a.eval y }) es.size) }:=by
     unfold setMap;rw [modify_set _ a2'];simp
    rw [this]
    simp [Instr.mapUpdate,run_underlying g1,MapKept.run_getObj_map h3,MapKept.run_checkKey g2 hk,MapKept.run_findKey g2 a1,MapKept.run_setObj_map _ h3,a2',a3,MapKept.run_keyThatStays hk,Result.andThen]
   simp [hmu]
 obtain ⟨hG1,hG2⟩:=hM.set (x':=.mp kt' vt' (mpt kt' l' q yv)) (List.getElem?_eq_some_iff.1 hb).1 ((kept_setMap w h.b es').wide (fun b e=>by subst e;exact h2))
  ⟨h,es'.toArray,h1,h2,get_setMap h3,by simpa using hMR⟩
 exact ⟨none,.t [],_,_,_,_,hrun,hG1,hG2.weak (fun i e=>by subst e;simp [idsV]),e⟩
def wME {β:Type} (c:Cfg) (il:IEnv) (tb:Tbl) (k:Option IV->Tbl->Option β) (t:Nat) (m x:Operand):Option β:=
 match c.M t,iopd c il m,iopd c il x with
 | some (kt,vt),some (.mp id),some v=>match v.agg,nth tb id with
  | false,some (.mp kt' vt' l)=>match castM (Ty.eq? kt' kt) (Ty.eq? vt' vt) l,toP kt v with
   | some l,some q=>k (some (.tu (.pr (ofP vt (mgd kt l q vt.zero)) (.pr (.o (.i (mix kt l q:Nat))) .un)))) (tb.set id (.mp kt vt (men kt l q vt.zero)))
   | _,_=>none
  | _,_=>none
 | _,_,_=>none
theorem wME_ok {β:Type} {k:Option IV->Tbl->Option β} {r:β} (hc:COk P c) (hF:Fr n a l) (hE:ER O ρ il l) (hG:GO c O) (hM:Gm O ρ tb w) {t:Nat} {m x:Operand} (ho:o.op=.mapEntry t m x) (e:wME c il tb k t m x=some r) {v:IV} (hv:iopd c il m=some v):WOk P a o O ρ w (· ∈ idsV v) k r:=by
 unfold wME at e
 split at e<;>first | (cases e;done) | skip
 rename_i kt vt id vx hm hx hxx
 rw [hv] at hx;cases hx
 split at e<;>first | (cases e;done) | skip
 rename_i kt' vt' l hag hb
 split at e<;>first | (cases e;done) | skip
 rename_i l' q hcast hq
 obtain ⟨e1,e2,he1⟩:=castM_ok hcast
 subst e1 e2
 have he1:l'=l:=he1
 subst he1
 rw [nth_eq] at hb
 obtain ⟨h,es,h1,h2,h3,h4⟩:=hM.th _ _ hb
 obtain ⟨kk,ee,d,z,g1,g2,g3,g4,g5⟩:=hc.maps _ _ _ hm
 obtain ⟨u,hu,⟨h',h6,h7⟩,_⟩:=iopd_1 hE hG hv rfl (by simp) hF
 cases h7
 rw [h1] at h6;cases h6
 obtain ⟨uk,huk,hRk,_⟩:=iopd_1 hE hG hxx hag (toP_nt hq) hF
 have hT:=toP_R hq hRk
 obtain ⟨hk,_⟩:=keq_ok g3 hT hT
 have hlen:=h4.length
 obtain ⟨es',val,hV,hrun,hMR⟩:∃ (es':List MapEntry) (val:Value),VR O vt' (mgd kt' l' q vt'.zero) val∧(execOp a.eval o).run P w=.ok (.value (.tuple #[val,.int .i64 (mix kt' l' q:Nat)])) (setMap w h.b es')∧MR O kt' vt' 0 (men kt' l' q vt'.zero) es':=by
  rcases MR.find g3 hT 0 h4 with ⟨a1,a2,a3,a4⟩ | ⟨j,e',v',a1,a2,a3,a4,a5,a6,a7,a8,a9⟩
  ·have hz:VR O vt' (mgd kt' l' q vt'.zero) z:=by simp only [mgd,a2,Option.getD_none];exact g5 O
   refine ⟨es.toList ++ [⟨uk,z,es.size⟩],z,hz,?_,by rw [men,a4];exact h4.push hT hz _ (by rw [← hlen];simp)⟩
   simp only [execOp,ho,hu,huk]
   have hmu:(Instr.mapEntry t (.map (some h.b)) uk).run P w=.ok (.tuple #[z,.int .i64 (mix kt' l' q:Nat)]) (setMap w h.b (es.toList ++ [⟨uk,z,es.size⟩])):=by
    have:(setMap w h.b (es.toList ++ [⟨uk,z,es.size⟩]))={ w with heap:=w.heap.setIfInBounds h.b (.map (es.push ⟨uk,z,es.size⟩) (es.size + 1)) }:=by
     unfold setMap;rw [push_arr];simp
    have hes:es.size=l'.length:=by rw [← hlen];simp
    rw [this]
    simp [Instr.mapEntry,run_underlying g1,MapKept.run_getObj_map h3,MapKept.run_checkKey g2 hk,MapKept.run_findKey g2 a1,MapKept.run_setObj_map _ h3,Result.andThen,g4 w,a3,hes,goInt]
   simp [hmu]
  ·have a2':es[j]? = some e':=by simpa using a2
   have hz:VR O vt' (mgd kt' l' q vt'.zero) e'.val:=by simp only [mgd,a6,Option.getD_some];exact a4
   refine ⟨es.toList.set j ⟨uk,e'.val,e'.born⟩,e'.val,hz,?_,by rw [men,a9];exact MR.set hT hz h4 _ (by omega)⟩
   simp only [execOp,ho,hu,huk]
   have hmu:(Instr.mapEntry t (.map (some h.b)) uk).run P w=.ok (.tuple #[e'.val,.int .i64 (mix kt' l' q:Nat)]) (setMap w h.b (es.toList.set j ⟨uk,e'.val,e'.born⟩)):=by
    have:(setMap w h.b (es.toList.set j ⟨uk,e'.val,e'.born⟩))={ w with heap:=w.heap.setIfInBounds h.b (.map (es.modify j fun e=>{ e with key:=uk }) es.size) }:=by
     unfold setMap;rw [modify_set _ a2'];simp
    rw [this]
    simp [Instr.mapEntry,run_underlying g1,MapKept.run_getObj_map h3,MapKept.run_checkKey g2 hk,MapKept.run_findKey g2 a1,MapKept.run_setObj_map _ h3,a2',a3,MapKept.run_keyThatStays hk,Result.andThen,a5,a7,goInt]
   simp [hmu]
 obtain ⟨hG1,hG2⟩:=hM.set (x':=.mp kt' vt' (men kt' l' q vt'.zero)) (List.getElem?_eq_some_iff.1 hb).1 ((kept_setMap w h.b es').wide (fun b e=>by subst e;exact h2))
  ⟨h,es'.toArray,h1,h2,get_setMap h3,by simpa using hMR⟩
 obtain ⟨cs,hR,hve⟩:=hV.cells (ρ:=ρ)
 obtain ⟨x0,hx0,hx1⟩:=S0R.of_R ofP_nt hR
 refine ⟨some (.tu (.pr (ofP vt' (mgd kt' l' q vt'.zero)) (.pr (.o (.i (mix kt' l' q:Nat))) .un))),.t [x0,.i (mix kt' l' q:Nat)],_,_,_,_,⟨⟨_,rfl,x0,_,rfl,hx0,.i (mix kt' l' q:Nat),[],rfl,⟨rfl,rfl⟩,rfl⟩,?_⟩,hG1,hG2.weak (fun i e=>by subst e;simp [idsV]),e⟩
 rw [hrun]
 have:(SV.t [x0,.i (mix kt' l' q:Nat)]).val=.tuple #[val,.int .i64 (mix kt' l' q:Nat)]:=by simp [SV.val,S0.val,hx1,hve]
 rw [this]
def wES {β:Type} (c:Cfg) (il:IEnv) (tb:Tbl) (k:Option IV->Tbl->Option β) (m x y:Operand):Option β:=
 match iopd c il m,iopd c il x,iopd c il y with
 | some (.mp id),some (.o (.i s)),some u=>match nth tb id with
  | some (.mp kt vt l)=>match bsame u.agg vt.agg,toP vt u with
   | true,some y=>(mes l s y).bind fun l'=>k none (tb.set id (.mp kt vt l'))
   | _,_=>none
  | _=>none
 | _,_,_=>none
theorem find_born {O:Own} {kt vt:Ty}:∀ {q:Nat} {l:List (kt.den×vt.den)} {es:List MapEntry},MR O kt vt q l es->∀ j,j < l.length->es.findIdx? (fun e=>(e.born:Int) == ((q + j:Nat):Int))=some j
 | _,[],_,_,j,hj=>by simp at hj
 | q,(_,_) :: l,_,⟨e,r,h1,h2,h3,h4,h5⟩,j,hj=>by
  subst h1
  rw [List.findIdx?_cons]
  cases j with
  | zero=>simp [h2]
  | succ j=>
   have:=find_born h5 j (by simpa using hj)
   have hne:((e.born:Int) == ((q + (j + 1):Nat):Int))=false:=by
    rw [h2];simp;omega
   have e1:((q + (j + 1):Nat):Int)=((q + 1 + j:Nat):Int):=by omega
   rw [e1] at hne
   rw [e1,hne]
   simp only [cond_false,Bool.false_eq_true,if_false,this,Option.map_some]
theorem wES_ok {β:Type} {k:Option IV->Tbl->Option β} {r:β} (hc:COk P c) (hF:Fr n a l) (hE:ER O ρ il l) (hG:GO c O) (hM:Gm O ρ tb w) {t:Nat} {m x y:Operand} (ho:o.op=.entryStore t m x y) (e:wES c il tb k m x y=some r) {v:IV} (hv:iopd c il m=some v):WOk P a o O ρ w (· ∈ idsV v) k r:=by
 unfold wES at e
 split at e<;>first | (cases e;done) | skip
 rename_i id s vy hx hxx hyy
 rw [hv] at hx;cases hx
 split at e<;>first | (cases e;done) | skip
 rename_i kt vt l hb
 split at e<;>first | (cases e;done) | skip
 rename_i yv hbg hyv
 obtain ⟨l',hmes,e⟩:=bindS e
 rw [nth_eq] at hb
 obtain ⟨h,es,h1,h2,h3,h4⟩:=hM.th _ _ hb
 obtain ⟨u,hu,⟨h',h6,h7⟩,_⟩:=iopd_1 hE hG hv rfl (by simp) hF
 cases h7
 rw [h1] at h6;cases h6
 have hs:=opd_val hF (iopd_o hE hG hxx).1
 obtain ⟨cs,hy1,hy2,hy3,hy4⟩:=iopd_cells hF hE hG hyy (toP_nt hyv)
 have hV:=VR.of hyv (bsame_eq hbg) hy2 hy3 hy4
 unfold mes at hmes
 cases hs0:decide (0≤s) with
 | false=>rw [hs0] at hmes;cases hmes
 | true=>
  rw [hs0] at hmes
  simp only [cond_true] at hmes
  obtain ⟨e0,he0,hmes⟩:=bindS hmes
  simp only [Option.some.injEq] at hmes
  subst hmes
  have hs0:=of_decide_eq_true hs0
  obtain ⟨e',g1,g2,g3,g4⟩:=h4.get he0
  have g1':es[s.toNat]? = some e':=by simpa using g1
  have hlt:s.toNat < l.length:=(List.getElem?_eq_some_iff.1 he0).1
  have hfind:es.findIdx? (fun e=>(e.born:Int) == s)=some s.toNat:=by
   have:=find_born h4 s.toNat hlt
   rw [show ((0 + s.toNat:Nat):Int)=s from by omega] at this
   rw [← this]
   obtain ⟨L⟩:=es
   simp
  have hrun:(execOp a.eval o).run P w=.ok .skip (setMap w h.b (es.toList.set s.toNat ⟨e'.key,a.eval y,e'.born⟩)):=by
   simp only [execOp,ho,hu,hs]
   have hmu:(Instr.entryStore t (.map (some h.b)) (S0.i s).val (a.eval y)).run P w=.ok () (setMap w h.b (es.toList.set s.toNat ⟨e'.key,a.eval y,e'.born⟩)):=by
    have:(setMap w h.b (es.toList.set s.toNat ⟨e'.key,a.eval y,e'.born⟩))={ w with heap:=w.heap.setIfInBounds h.b (.map (es.modify s.toNat fun e=>{ e with val:=a.eval y }) es.size) }:=by
     unfold setMap;rw [modify_set _ g1'];simp
    rw [this]
    have ha:(asInt (S0.i s).val).run P w=.ok s w:=rfl
    simp only [Instr.entryStore,Sem.run_bind,MapKept.run_getObj_map h3,Result.andThen_ok,ha,hfind,MapKept.run_setObj_map _ h3]
   simp [hmu]
  obtain ⟨hG1,hG2⟩:=hM.set (x':=.mp kt vt (l.set s.toNat (e0.1,yv))) (List.getElem?_eq_some_iff.1 hb).1 ((kept_setMap w h.b _).wide (fun b e=>by subst e;exact h2))
   ⟨h,(es.toList.set s.toNat ⟨e'.key,a.eval y,e'.born⟩).toArray,h1,h2,get_setMap h3,by simpa using MR.set g3 hV h4 e'.born (by omega)⟩
  exact ⟨none,.t [],_,_,_,_,hrun,hG1,hG2.weak (fun i e=>by subst e;simp [idsV]),e⟩
end
end Go.Tw
namespace Go.Tw
set_option linter.unusedSimpArgs false
set_option linter.unusedVariables false
theorem OutR.range (v:Value):∀ (n:Nat) (ks:List Value),OutR (ks ++ List.replicate n v) (List.range' ks.length n) (List.replicate n v)
 | 0,ks=>rfl
 | n + 1,ks=>by
  have ih:=OutR.range v n (ks ++ [v])
  rw [List.range'_succ,List.replicate_succ]
  refine ⟨v,_,rfl,by simp,?_⟩
  simpa using ih
theorem OutR.more {ks:List Value} (m:List Value):∀ {out:List Nat} {es:List Value},OutR ks out es->OutR (ks ++ m) out es
 | [],es,h=>h
 | o :: r,es,⟨e,l,h1,h2,h3⟩=>⟨e,l,h1,more_at m h2,OutR.more m h3⟩
theorem OutR.append {ks:List Value}:∀ {out out2:List Nat} {es es2:List Value},OutR ks out es->OutR ks out2 es2->OutR ks (out ++ out2) (es ++ es2)
 | [],out2,es,es2,h,k=>by simp only [OutR] at h;subst h;simpa using k
 | o :: r,out2,es,es2,⟨e,l,h1,h2,h3⟩,k=>by subst h1;exact ⟨e,l ++ es2,rfl,h2,OutR.append h3 k⟩
def shO (n:Nat) (out:List Nat):List Nat:=out.map (n + ·)
theorem OutR.shift {ks ks2:List Value}:∀ {out:List Nat} {es:List Value},OutR ks2 out es->OutR (ks ++ ks2) (shO ks.length out) es
 | [],es,h=>h
 | o :: r,es,⟨e,l,h1,h2,h3⟩=>⟨e,l,h1,by show (ks ++ ks2)[ks.length + o]? = some e;rw [List.getElem?_append_right (by omega)];simpa using h2,OutR.shift h3⟩
def mat {α:Type} (rows:List (Option (List α))):List Nat->Option (List (List α))
 | []=>some []
 | q :: r=>match rxG rows q,mat rows r with
  | some x,some l=>some (x :: l)
  | _,_=>none
section
variable {P:Program} {c:Cfg} {n:Nat} {a:Act} {l:Env} {il:IEnv} {O:Own} {ρ:List Hd} {tb:Tbl} {w:World} {o:Oper}
theorem ofSlAt {O₂:Own} {s n:Nat} {es:List Value} {v:Value} (h:Rd w s v n es) (hb:∀ b a ty fz,n ≠ 0->blockOf v b->w.heap[b]? = some (.cells a ty fz)->O₂ b=.im a.toList):SlAt O₂ n es v:=by
 obtain ⟨hl,h2⟩:=h
 rcases h2 with h2 | ⟨b,off,cap,all,ty,fz,rfl,h0,h3,h4⟩
 ·exact .inl h2
 ·by_cases hn:n=0
  ·subst hn;exact .inl ⟨rfl,_,_,rfl⟩
  ·have h6:=hb b _ _ _ hn rfl h3
   exact .inr ⟨b,off,cap,rfl,h0,_,h6,fun j c hj=>by simpa using h4 j c hj⟩
def tkO (O:Own) (M:Nat->Bool) (S:Nat->Bool) (n:Nat):Own:=fun b=>match O b with
 | .th i=>bif M i then .th n else .th i
 | .im l=>.im l
 | .no=>bif S b then .th n else .no
theorem tkO_le {M S:Nat->Bool} {n:Nat}:O.le (tkO O M S n):=fun b all e=>by simp only [tkO,e]
theorem Gm.take {M:Nat->Bool} {tb1:Tbl} {x:Thing} {h:Hd} (S:Nat->Bool) {w':World} (hM:Gm O ρ tb w) (hl:tb1.length=tb.length) (ht:∀ j y,tb1[j]? = some y->(tb[j]? = some y∧M j=false)∨y=.no)
  (hk:Kept (fun b=>∃ i,M i=true∧O b=.th i) w w') (hS:∀ b,S b=true->w.heap.size≤b∧b < w'.heap.size) (h':Holds (tkO O M S tb.length) (ρ ++ [h]) w' tb.length x) :
  Gm (tkO O M S tb.length) (ρ ++ [h]) (tb1 ++ [x]) w'∧Stp (M · = true) O ρ w (tkO O M S tb.length) (ρ ++ [h]) w':=by
 refine hM.step (M:=(M · = true)) hk (fun b hb hn=>?_) (fun b hb=>?_) (fun b all e=>?_) (.app _ _) (by simp [hM.len,hl]) (fun j y hy=>?_)
 ·cases e:O b with
  | th i=>
   have:M i=false:=by
    cases hi:M i with
    | false=>rfl
    | true=>exact absurd e (hn i hi)
   simp only [tkO,e,this,cond_false]
  | im l=>simp only [tkO,e]
  | no=>
   have:S b=false:=by
    cases hs:S b with
    | false=>rfl
    | true=>have:=(hS b hs).1;omega
   simp only [tkO,e,this,cond_false]
 ·have e:=hM.lt b (Nat.le_trans hk.size hb)
  have:S b=false:=by
   cases hs:S b with
   | false=>rfl
   | true=>have:=(hS b hs).2;omega
  simp only [tkO,e,this,cond_false]
 ·refine .inl ?_
  cases e':O b with
  | th i=>simp only [tkO,e'] at e;cases hi:M i<;>(rw [hi] at e;cases e)
  | im l=>simp only [tkO,e'] at e;exact e
  | no=>simp only [tkO,e'] at e;cases hi:S b<;>(rw [hi] at e;cases e)
 ·rcases Nat.lt_or_ge j tb1.length with hj | hj
  ·rw [List.getElem?_append_left hj] at hy
   rcases ht j y hy with ⟨h1,h2⟩ | h1
   ·exact .inl ⟨h1,by simp [h2]⟩
   ·subst h1;exact .inr trivial
  ·have hjl:j=tb1.length:=by
    have:=(List.getElem?_eq_some_iff.1 hy).1
    simp at this;omega
   subst hjl
   rw [List.getElem?_append_right (Nat.le_refl _)] at hy
   simp at hy;subst hy
   rw [hl];exact .inr h'
theorem new_rr {β:Type} {k:Option IV->Tbl->Option β} {r:β} {E Ei:Nat} {t:Ty} {n:Nat} {v:Value} {w':World} (hM:Gm O ρ tb w) (hr:(execOp a.eval o).run P w=.ok (.value v) w') (hk:Kept none1 w w') (hrow:Row w' E 1 v n (List.replicate n (.slice none 0 0))) (hb:∀ b,blockOf v b->w.heap.size≤b)
  (e:k (some (.rw tb.length)) (tb ++ [.rr E Ei t (List.replicate n (some [])) (List.range n)])=some r):WOk P a o O ρ w (fun _=>False) k r:=by
 have hsl:=hrow.isSl
 have hat:(ρ ++ [(⟨0,.one,v,List.replicate n (.slice none 0 0)⟩:Hd)])[tb.length]? = some ⟨0,.one,v,List.replicate n (.slice none 0 0)⟩:=by rw [← hM.len];simp
 have hks:∀ (q:Nat) (u:Value),(List.replicate n (.slice none 0 0:Value))[q]? = some u->u=.slice none 0 0:=fun q u h=>by
  have:=List.mem_of_getElem? h
  exact (List.mem_replicate.1 this).2
 obtain ⟨h1,h2⟩:=hM.new (h:=⟨0,.one,v,List.replicate n (.slice none 0 0)⟩) (x:=.rr E Ei t (List.replicate n (some [])) (List.range n)) (blkB v) hk (fun b hbb=>⟨hb b (blkB_of hbb),hrow.blt (blkB_of hbb)⟩)
  ⟨_,List.replicate n (.slice none 0 0),hat,rfl,fun b hbb=>by
   obtain ⟨q,m,cp,hv⟩:∃ q m cp,v=.slice q m cp:=by cases v<;>first | exact ⟨_,_,_,rfl⟩ | cases hsl
   simp [of_blkB hv hbb],by rw [List.length_range];exact hrow,by have:=OutR.range (.slice none 0 0) n [];rw [List.range_eq_range'];simpa using this,
   ⟨by simp,fun k xs h=>by
    have hkn:k < n:=by have:=(List.getElem?_eq_some_iff.1 h).1;simpa using this
    rw [List.getElem?_replicate,if_pos hkn] at h
    cases h
    exact ⟨.slice none 0 0,[],by rw [List.getElem?_replicate,if_pos hkn],fun b hb=>hb.elim,rfl,⟨by simp,.inl ⟨rfl,rfl⟩⟩⟩,
       fun k xs k' xs' v v' b _ _ hv _ hb _=>by rw [hks _ _ hv] at hb;exact hb.elim,fun k xs v b _ hv hb _=>by rw [hks _ _ hv] at hb;exact hb.elim,fun k v hv=>by rw [hks _ _ hv];rfl⟩⟩
 exact ⟨some (.rw tb.length),.o (.v v),_,_,_,w',⟨.of_S0 (v:=.rw tb.length) ⟨v,rfl,_,hat,rfl,hsl⟩,hr⟩,h1,h2,e⟩
theorem WOk.wk {β:Type} {k:Option IV->Tbl->Option β} {r:β} {M M':Nat->Prop} (h:∀ i,M i->M' i) (H:WOk P a o O ρ w M k r):WOk P a o O ρ w M' k r:=by
 obtain ⟨v,x,tb',O',ρ',w2,g1,g2,g3,g4⟩:=H
 exact ⟨v,x,tb',O',ρ',w2,g1,g2,g3.weak h,g4⟩
def wMkR {β:Type} (c:Cfg) (il:IEnv) (tb:Tbl) (k:Option IV->Tbl->Option β) (ty:Nat) (x y:Operand):Option β:=
 match c.D ty with
 | some (.slice e)=>match c.R e with
  | some p=>match iopd c il x,iopd c il y with
   | some (.o (.i i)),some (.o (.i j))=>(gmake () i j).bind fun z=>k (some (.rw tb.length)) (tb ++ [.rr e p.1 p.2 (List.replicate z.length (some [])) (List.range z.length)])
   | _,_=>none
  | none=>wMk c il tb k ty x y
 | _=>none
theorem wMkR_ok {β:Type} {k:Option IV->Tbl->Option β} {r:β} (hc:COk P c) (hF:Fr n a l) (hE:ER O ρ il l) (hG:GO c O) (hM:Gm O ρ tb w) {ty:Nat} {x y:Operand} (ho:o.op=.makeSlice ty x y) (e:wMkR c il tb k ty x y=some r):WOk P a o O ρ w (fun _=>False) k r:=by
 unfold wMkR at e
 split at e<;>first | (cases e;done) | skip
 rename_i el hd
 split at e
 ·rename_i p hp
  split at e<;>first | (cases e;done) | skip
  rename_i i j hx hy
  obtain ⟨out,hout,e⟩:=bindS e
  obtain ⟨h0,h1,h2,rfl⟩:=gmake_some hout
  obtain ⟨bytes,h3,h4⟩:=hc.rows _ _ _ hd hp
  have hb':(bytes:Int) * j≤281474976710656:=by
   have:(bytes:Int)≤128:=by omega
   have:(bytes:Int) * j≤128 * j:=Int.mul_le_mul_of_nonneg_right this (by omega)
   omega
  obtain ⟨v,w',h7,h8,h9,h10⟩:=run_makeG (P:=P) (w:=w) (zc:=[.slice none 0 0]) h3 rfl ho (opd_val hF (iopd_o hE hG hx).1) (opd_val hF (iopd_o hE hG hy).1) h0 h1 (by omega) hb'
  have hfl:(List.replicate i.toNat [(.slice none 0 0:Value)]).flatten=List.replicate i.toNat (.slice none 0 0):=by
   generalize i.toNat=q
   induction q with
   | zero=>rfl
   | succ q ih=>simp only [List.replicate_succ,List.flatten_cons,ih];rfl
  rw [hfl] at h8
  rw [List.length_replicate] at e
  exact new_rr hM h7 h9 h8 h10 e
 ·exact wMk_ok hc hF hE hG hM ho e
def litR1 {β:Type} (tb:Tbl) (k:Option IV->Tbl->Option β) (e Ei:Nat) (t:Ty):IV->Option β
 | .o (.v (.slice none 0 0))=>k (some (.rw tb.length)) (tb ++ [.rr e Ei t [some []] [0]])
 | .rw id=>match nth tb id with
  | some (.row E' t' xs)=>match Nat.beq E' Ei,castR (Ty.eq? t' t) xs with
   | true,some xs=>k (some (.rw tb.length)) (tb.set id .no ++ [.rr e Ei t [some xs] [0]])
   | _,_=>none
  | _=>none
 | _=>none
def wLitR {β:Type} (c:Cfg) (il:IEnv) (tb:Tbl) (k:Option IV->Tbl->Option β) (ty len:Nat) (ps:List (Nat×Operand)):Option β:=
 match c.D ty with
 | some (.slice e)=>match c.R e with
  | some p=>match iparts c il ps with
   | some [(i,v)]=>match Nat.beq len 1,Nat.beq i 0 with
    | true,true=>litR1 tb k e p.1 p.2 v
    | _,_=>none
   | some []=>match Nat.beq len 0 with
    | true=>k (some (.rw tb.length)) (tb ++ [.rr e p.1 p.2 [] []])
    | false=>none
   | _=>none
  | none=>wLit c il tb k ty len ps
 | _=>none
theorem run_lit1 {ty e bytes:Nat} {z u:Value} {ps:Array (Nat×Operand)} {x:Value} (h3:EOk P ty e 1 bytes z) (ho:o.op=.buildSlice ty 1 ps) (hps:(ps.map fun (i,x)=>(i,a.eval x)).toList=[(0,x)]) (hx:x.cells = #[u]) :
  (execOp a.eval o).run P w=.ok (.value (.slice (some ⟨w.heap.size,0,none⟩) 1 1)) { w with heap:=w.heap.push (.cells #[u] e) }:=by
 obtain ⟨f,hf,hk,hbt,hz⟩:=h3.info
 obtain ⟨zc,hzc⟩:∃ zc,z.cells = #[zc]:=by
  have:=h3.cells
  obtain ⟨l,hl⟩:∃ l,z.cells=⟨l⟩:=⟨z.cells.toList,by simp⟩
  rw [hl] at this
  match l,this with
  | [x],_=>exact ⟨x,hl⟩
  | [],h=>simp at h
  | _ :: _ :: _,h=>simp at h
 simp only [execOp,ho]
 have hrow:Array.map (fun x=>z.cells[x % z.cells.size]!) (Array.range 1) = #[zc]:=by
  rw [hzc]
  apply Array.ext'
  rw [Array.toList_map]
  apply List.ext_getElem
  ·simp
  ·intro i h1 h2;simp [Nat.mod_one] at *
 have hfill:Instr.fill (fun i=>some (i,1)) #[zc] [(0,x)]=some #[u]:=by
  have:=fill_put (place:=fun i=>some (i,1)) (i:=0) (off:=0) (k:=1) (v:=x) (us:=[u]) (cs:=[zc]) (rest:=[]) (out:=#[u]) rfl (by rw [hx]) rfl (by simp) (by simp [Instr.fill,spl])
  simpa using this
 have hrun:(Instr.buildSlice ty 1 (ps.map fun (i,x)=>(i,a.eval x))).run P w=.ok (.slice (some ⟨w.heap.size,0,none⟩) 1 1) { w with heap:=w.heap.push (.cells #[u] e) }:=by
  unfold Instr.buildSlice
  simp only [hps]
  simp [run_underlying h3.slice,sizeOf,typeInfo,hf,hk,zeroValue,hz,newRow,newObj,pure,Sem.run]
  rw [hrow,hfill]
  rfl
 simp [hrun]
theorem run_lit0 {ty e s bytes:Nat} {z:Value} {ps:Array (Nat×Operand)} (h3:EOk P ty e s bytes z) (ho:o.op=.buildSlice ty 0 ps) (hps:(ps.map fun (i,x)=>(i,a.eval x)).toList=[]) :
  (execOp a.eval o).run P w=.ok (.value (.slice (some ⟨w.heap.size,0,none⟩) 0 0)) { w with heap:=w.heap.push (.cells #[] e) }:=by
 obtain ⟨f,hf,hk,hbt,hz⟩:=h3.info
 simp only [execOp,ho]
 have e0:Array.range 0 = #[]:=rfl
 have hrun:(Instr.buildSlice ty 0 (ps.map fun (i,x)=>(i,a.eval x))).run P w=.ok (.slice (some ⟨w.heap.size,0,none⟩) 0 0) { w with heap:=w.heap.push (.cells #[] e) }:=by
  unfold Instr.buildSlice
  simp only [Sem.run_bind,run_underlying h3.slice,Result.andThen_ok,sizeOf,typeInfo,Sem.run,hf,hk,hps,Nat.zero_mul,e0]
  simp [Sem.run,newRow,newObj,pure,hf,hk,e0,Instr.fill]
 simp [hrun]
theorem wLitR_ok {β:Type} {k:Option IV->Tbl->Option β} {r:β} (hc:COk P c) (hF:Fr n a l) (hE:ER O ρ il l) (hG:GO c O) (hM:Gm O ρ tb w) {ty len:Nat} {ps:Array (Nat×Operand)} (ho:o.op=.buildSlice ty len ps) (e:wLitR c il tb k ty len ps.toList=some r):WOk P a o O ρ w (· ∈ litIds c il ps.toList) k r:=by
 unfold wLitR at e
 split at e<;>first | (cases e;done) | skip
 rename_i el hd
 split at e
 ·rename_i p hp
  obtain ⟨bytes,h3,h4⟩:=hc.rows _ _ _ hd hp
  split at e<;>first | (cases e;done) | skip
  rotate_left
  ·rename_i hps
   split at e<;>first | (cases e;done) | skip
   rename_i hlen
   have hlen:=Nat.eq_of_beq_eq_true hlen
   subst hlen
   have hpm:=iparts_ok hF hE hG hps
   simp only [PaR] at hpm
   have hrun:=run_lit0 (P:=P) (a:=a) (o:=o) (w:=w) h3 ho (by rw [Array.toList_map];exact hpm)
   exact WOk.wk (fun _ h=>h.elim) (new_rr (n:=0) hM hrun (kept_alloc w _) ⟨rfl,.inr ⟨w.heap.size,0,[],rfl,Nat.le_refl _,by simpa using blk_new el [],rfl,by simp [maxLen]⟩⟩ (fun b hb=>by cases hb;exact Nat.le_refl _) e)
  rename_i i v hps
  split at e<;>first | (cases e;done) | skip
  rename_i hlen hi
  have hlen:=Nat.eq_of_beq_eq_true hlen
  have hi:=Nat.eq_of_beq_eq_true hi
  subst hlen hi
  have hids:litIds c il ps.toList=idsL [(0,v)]:=by simp [litIds,hps]
  rw [hids]
  obtain ⟨x,rest,us,hpm,hx,hR,hrest⟩:=iparts_ok hF hE hG hps
  simp only [PaR] at hrest
  subst hrest
  have hpm':(ps.map fun (i,x)=>(i,a.eval x)).toList=[(0,x)]:=by rw [Array.toList_map];exact hpm
  obtain ⟨p1,p2⟩:=p
  replace e:litR1 tb k el p1 p2 v=some r:=e
  unfold litR1 at e
  split at e<;>first | (cases e;done) | skip
  ·obtain ⟨rfl,_⟩:=hR
   have hrun:=run_lit1 (P:=P) (a:=a) (o:=o) (w:=w) h3 ho hpm' hx
   exact WOk.wk (fun _ h=>h.elim) (new_rr (n:=1) hM hrun (kept_alloc w _) ⟨rfl,.inr ⟨w.heap.size,1,[],rfl,Nat.le_refl _,by simpa using blk_new el [S0.val (.v (.slice none 0 0))],rfl,by simp [maxLen]⟩⟩ (fun b hb=>by cases hb;exact Nat.le_refl _) e)
  ·rename_i id
   split at e<;>first | (cases e;done) | skip
   rename_i E' t' xs hb
   split at e<;>first | (cases e;done) | skip
   rename_i xs' hE' hcast
   obtain ⟨e1,he1⟩:=castR_ok hcast
   have hE':=Nat.eq_of_beq_eq_true hE'
   subst e1 hE'
   have he1:xs'=xs:=he1
   subst he1
   rw [nth_eq] at hb
   have hid:=(List.getElem?_eq_some_iff.1 hb).1
   obtain ⟨h,es,h7,h8,h9,h10,h11⟩:=hM.th _ _ hb
   obtain ⟨h',h12,rfl,hsl⟩:=hR
   rw [h7] at h12;cases h12
   have hrun:=run_lit1 (P:=P) (a:=a) (o:=o) (w:=w) (u:=h.v) h3 ho hpm' hx
   have hat:(ρ ++ [(⟨0,.one,.slice (some ⟨w.heap.size,0,none⟩) 1 1,[h.v]⟩:Hd)])[tb.length]? = some ⟨0,.one,.slice (some ⟨w.heap.size,0,none⟩) 1 1,[h.v]⟩:=by rw [← hM.len];simp
   obtain ⟨g1,g2⟩:=hM.take (M:=fun i=>Nat.beq i id) (tb1:=tb.set id .no) (x:=.rr el E' t' [some xs'] [0]) (h:=⟨0,.one,.slice (some ⟨w.heap.size,0,none⟩) 1 1,[h.v]⟩) (Nat.beq w.heap.size) (by simp)
    (fun j y hy=>by
     rw [List.getElem?_set] at hy
     split at hy
     ·rename_i e';subst e'
      exact .inr (by first | (rw [if_pos hid] at hy;cases hy;rfl) | (cases hy;rfl))
     ·rename_i e';exact .inl ⟨hy,by cases hq:Nat.beq j id with
       | false=>rfl
       | true=>exact absurd (Nat.eq_of_beq_eq_true hq).symm e'⟩)
    ((kept_alloc w (.cells #[h.v] el)).wide (fun b hb=>hb.elim)) (fun b hb=>by have:=Nat.eq_of_beq_eq_true hb;subst this;simp)
    ⟨_,[h.v],hat,rfl,fun b hb=>by
      cases hb
      have:=hM.lt w.heap.size (Nat.le_refl _)
      simp [tkO,this],⟨rfl,.inr ⟨w.heap.size,1,[],rfl,Nat.le_refl _,by simpa using blk_new el [h.v],rfl,by simp [maxLen]⟩⟩,⟨h.v,[],rfl,rfl,rfl⟩,
     ⟨rfl,fun k ys hk=>by
      cases k with
      | succ k=>simp at hk
      | zero=>
       simp at hk;subst hk
       refine ⟨h.v,es,rfl,fun b hb=>by simp [tkO,h9 b hb],h10.mono (fun _ _=>TR.mono tkO_le),?_⟩
       refine Rs.same (r:=.row E' t'.size h.v xs'.length es) (fun b hb=>?_) h11
       exact (kept_alloc w (.cells #[h.v] el)).block b (h11.blt hb) (fun h=>h.elim),
           fun k ys k' ys' v v' b hk hk' _ _ _ _=>by
      cases k with
      | succ k=>simp at hk
      | zero=>cases k' with
       | succ k'=>simp at hk'
       | zero=>rfl,
           fun k ys v b hk hv hb hb2=>by
      cases k with
      | succ k=>simp at hk
      | zero=>
       simp at hv;subst hv
       have:=h11.blt hb
       have hb2:w.heap.size=b:=hb2
       omega,
           fun k v hv=>by
      cases k with
      | succ k=>simp at hv
      | zero=>simp at hv;subst hv;exact hsl⟩⟩
   exact ⟨some (.rw tb.length),.o (.v (.slice (some ⟨w.heap.size,0,none⟩) 1 1)),_,_,_,_,⟨.of_S0 (v:=.rw tb.length) ⟨_,rfl,_,hat,rfl,rfl⟩,hrun⟩,g1,g2.weak (fun i hi=>by
    have:=Nat.eq_of_beq_eq_true hi;subst this;simp [idsL,idsD]),e⟩
 ·exact wLit_ok hc hF hE hG hM ho e
def wStR {β:Type} (c:Cfg) (tb:Tbl) (k:Option IV->Tbl->Option β) (t id j id2:Nat):Option β:=
 match c.Z t with
 | some 1=>match nth tb id,nth tb id2 with
  | some (.rr E Ei t' rows out),some (.row E2 t2 xs)=>match Nat.beq E2 Ei,castR (Ty.eq? t2 t') xs with
   | true,some xs=>k none ((tb.set id2 .no).set id (.rr E Ei t' (rows ++ [some xs]) (out.set j rows.length)))
   | _,_=>none
  | _,_=>none
 | _=>none
def mvO (O:Own) (i j:Nat):Own:=fun b=>match O b with
 | .th q=>bif Nat.beq q i then .th j else .th q
 | .im l=>.im l
 | .no=>.no
theorem mvO_le {i j:Nat}:O.le (mvO O i j):=fun b all e=>by simp only [mvO,e]
theorem wStR_ok {β:Type} {k:Option IV->Tbl->Option β} {r:β} (hc:COk P c) (hF:Fr n a l) (hE:ER O ρ il l) (hG:GO c O) (hM:Gm O ρ tb w) {t:Nat} {x y:Operand} (ho:o.op=.store t x y) {id j id2:Nat} (hx:iopd c il x=some (.el id j [])) (hy:iopd c il y=some (.rw id2)) (e:wStR c tb k t id j id2=some r):WOk P a o O ρ w (fun i=>i=id∨i=id2) k r:=by
 unfold wStR at e
 split at e<;>first | (cases e;done) | skip
 rename_i hz
 split at e<;>first | (cases e;done) | skip
 rename_i E Ei t' rows out E2 t2 xs0 hb hb2
 split at e<;>first | (cases e;done) | skip
 rename_i xs hE2 hcast
 obtain ⟨e1,he1⟩:=castR_ok hcast
 subst e1
 have he1:xs=xs0:=he1
 subst he1
 have hE2:=Nat.eq_of_beq_eq_true hE2
 subst hE2
 rw [nth_eq] at hb hb2
 have hne:id ≠ id2:=fun h=>by subst h;rw [hb] at hb2;cases hb2
 have hid:=(List.getElem?_eq_some_iff.1 hb).1
 have hid2:=(List.getElem?_eq_some_iff.1 hb2).1
 obtain ⟨h,es,h1,h2,h3,h5,h6,h8⟩:=hM.th _ _ hb
 obtain ⟨g,fs,k1,k2,k3,k4,k5⟩:=hM.th _ _ hb2
 obtain ⟨u,hu,⟨h',off,ad,nn,cp,g6,g7,g8,g9,g10⟩,_⟩:=iopd_1 hE hG hx rfl (by simp) hF
 cases g10
 rw [h1] at g6;cases g6
 obtain ⟨u2,hu2,⟨g',m1,m2,m3⟩,_⟩:=iopd_1 hE hG hy rfl (by simp) hF
 cases m2
 rw [k1] at m1;cases m1
 have hoff:off=0:=by
  have:Sz.off h.z []=some 0:=by cases h.z<;>rfl
  rw [this] at g7;cases g7;rfl
 subst hoff
 have h5':=h5
 obtain ⟨hl5,hr5⟩:=h5'
 rcases hr5 with ⟨hnil,_⟩ | ⟨b,cap,sp,hv5,hnc,hblk,hcap,hmax⟩
 ·rw [hnil] at g8;cases g8
 rw [hv5] at g8;cases g8
 have hown:O b=.th id:=h3 b (by rw [hv5];rfl)
 have h2s:h.z.size=1:=by rw [h2];rfl
 rw [add_zero _ rfl,Nat.zero_add,h2s,Nat.mul_one,Nat.add_zero] at hu
 have hyc:(a.eval y).cells=[g.v].toArray:=by
  rw [hu2]
  have:=isSl_one m3
  cases hg:g.v<;>rw [hg] at m3<;>first | rfl | cases m3
 have hst:=run_store' hc ho hu hyc hz (fun v hv=>by simp at hv;subst hv;exact isSl_one m3) hblk (by simp;omega)
 rw [spl_app (by simp;omega)] at hst
 have hspl:spl es j [g.v]=es.set j g.v:=by
  simp only [spl,List.length_singleton]
  rw [List.set_eq_take_append_cons_drop,if_pos (by omega)];simp
 rw [hspl] at hst
 have hoth:∀ b',b' ≠ b->(w.setRow b (es.set j g.v ++ sp).toArray).heap[b']? = w.heap[b']?:=fun b' hb'=>by
  have hk:=kept_setRow (w:=w) b (es.set j g.v ++ sp).toArray
  rcases Nat.lt_or_ge b' w.heap.size with hlt | hge
  ·exact hk.block b' hlt (fun e=>hb' e.symm)
  ·rw [Array.getElem?_eq_none (by simp [World.setRow];omega),Array.getElem?_eq_none hge]
 have hid':id < ρ.length:=by rw [hM.len];exact hid
 have hat:(ρ.set id (h.more [g.v]))[id]? = some (h.more [g.v]):=by simp [hid']
 have hth:∀ b',O b'=.th id->mvO O id2 id b'=.th id:=fun b' hb'=>by
  have:Nat.beq id id2=false:=by cases hq:Nat.beq id id2 with
   | false=>rfl
   | true=>exact absurd (Nat.eq_of_beq_eq_true hq) hne
  simp only [mvO,hb',this,cond_false]
 have hth2:∀ b',O b'=.th id2->mvO O id2 id b'=.th id:=fun b' hb'=>by simp [mvO,hb']
 obtain ⟨hG1,hG2⟩:=hM.step (M:=fun i=>i=id∨i=id2) (O':=mvO O id2 id) (ρ':=ρ.set id (h.more [g.v])) (tb':=(tb.set id2 .no).set id (.rr E E2 t2 (rows ++ [some xs]) (out.set j rows.length))) (w':=w.setRow b (es.set j g.v ++ sp).toArray)
  ((kept_setRow b _).wide (fun b' e=>by subst e;exact ⟨id,.inl rfl,hown⟩))
  (fun b' _ hn=>by
   cases e':O b' with
   | th q=>
    have:Nat.beq q id2=false:=by cases hq:Nat.beq q id2 with
     | false=>rfl
     | true=>exact absurd (by rw [e',Nat.eq_of_beq_eq_true hq]) (hn id2 (.inr rfl))
    simp only [mvO,e',this,cond_false]
   | im l=>simp only [mvO,e']
   | no=>simp only [mvO,e'])
  (fun b' hb'=>by
   have:O b'=.no:=hM.lt b' (by simpa [World.setRow] using hb')
   simp only [mvO,this])
  (fun b' all e'=>.inl (by
   cases e2:O b' with
   | th q=>simp only [mvO,e2] at e';cases hq:Nat.beq q id2<;>(rw [hq] at e';cases e')
   | im l=>simp only [mvO,e2] at e';exact e'
   | no=>simp only [mvO,e2] at e';cases e'))
  ⟨fun i x hi=>by
   by_cases hii:i=id
   ·subst hii;rw [h1] at hi;cases hi;exact ⟨_,hat⟩
   ·exact ⟨[],by rw [x.more_nil,List.getElem?_set_ne (Ne.symm hii)];exact hi⟩,
     fun i x hn hi=>by
   rw [List.getElem?_set_ne (fun e=>hn (.inl e.symm))];exact hi⟩
  (by simp [hM.len])
  (fun q x hx=>by
   by_cases hq:q=id
   ·subst hq
    rw [List.getElem?_set_self (by simpa using hid)] at hx
    cases hx
    refine .inr ⟨h.more [g.v],es.set j g.v,hat,h2,fun b' hb'=>hth b' (h3 b' hb'),⟨by rw [List.length_set,List.length_set];exact hl5,.inr ⟨b,_,sp,by rw [List.length_set];exact hv5,by rw [List.length_set];exact hnc,hblk.setRow (by simp),by rw [← hcap];simp,hmax⟩⟩,
     (h6.more [g.v]).set (by rw [← h8.len];simp) g9,⟨by simp [h8.len],fun kk ys hk=>?_,fun kk ys k' ys' v v' b' hk hk' hv hv' n1 n2=>?_,fun kk ys v b' hk hv n1 n2=>?_,fun kk v hv=>?_⟩⟩
    ·rcases Nat.lt_or_ge kk rows.length with hlt | hge
     ·rw [List.getElem?_append_left hlt] at hk
      obtain ⟨v2,c2,n1,n2,n3,n4⟩:=h8.row kk ys hk
      exact ⟨v2,c2,more_at _ n1,fun b' hb'=>hth b' (n2 b' hb'),n3.mono (fun _ _=>TR.mono mvO_le),Rs.same (r:=.row E2 t2.size v2 ys.length c2) (fun b' hbb=>hoth b' (fun e=>by subst e;exact h8.out kk ys _ _ hk n1 hbb (by rw [hv5];rfl))) n4⟩
     ·rw [List.getElem?_append_right hge] at hk
      have hk0:kk - rows.length=0:=by
       rcases Nat.eq_zero_or_pos (kk - rows.length) with h0 | h0
       ·exact h0
       ·rw [List.getElem?_eq_none (by simp;omega)] at hk;cases hk
      rw [hk0] at hk
      simp at hk;subst hk
      refine ⟨g.v,fs,?_,fun b' hb'=>hth2 b' (k3 b' hb'),k4.mono (fun _ _=>TR.mono mvO_le),Rs.same (r:=.row E2 t2.size g.v xs.length fs) (fun b' hbb=>hoth b' (fun e=>by subst e;have:=k3 _ hbb;rw [hown] at this;cases this;exact hne rfl)) k5⟩
      show (h.ks ++ [g.v])[kk]? = some g.v
      rw [List.getElem?_append_right (by rw [h8.len];exact hge),h8.len,hk0];rfl
    ·
     have at_:∀ (kk:Nat) (ys:List t2.den) (v:Value),(rows ++ [some xs])[kk]? = some (some ys)->(h.ks ++ [g.v])[kk]? = some v->(rows[kk]? = some (some ys)∧h.ks[kk]? = some v)∨(kk=rows.length∧v=g.v):=fun kk ys v hk hv=>by
      rcases Nat.lt_or_ge kk rows.length with hlt | hge
      ·rw [List.getElem?_append_left hlt] at hk
       rw [List.getElem?_append_left (by rw [h8.len];exact hlt)] at hv
       exact .inl ⟨hk,hv⟩
      ·rw [List.getElem?_append_right hge] at hk
       have hk0:kk - rows.length=0:=by
        rcases Nat.eq_zero_or_pos (kk - rows.length) with h0 | h0
        ·exact h0
        ·rw [List.getElem?_eq_none (by simp;omega)] at hk;cases hk
       rw [List.getElem?_append_right (by rw [h8.len];exact hge),h8.len,hk0] at hv
       simp at hv
       exact .inr ⟨by omega,hv.symm⟩
     rcases at_ _ _ _ hk hv with ⟨p1,p2⟩ | ⟨p1,p2⟩<;>rcases at_ _ _ _ hk' hv' with ⟨q1,q2⟩ | ⟨q1,q2⟩
     ·exact h8.apart _ _ _ _ _ _ _ p1 q1 p2 q2 n1 n2
     ·exfalso
      subst q2
      obtain ⟨v2,c2,r1,r2,_⟩:=h8.row _ _ p1
      rw [p2] at r1;cases r1
      have:=r2 _ n1
      rw [k3 _ n2] at this;cases this;exact hne rfl
     ·exfalso
      subst p2
      obtain ⟨v2,c2,r1,r2,_⟩:=h8.row _ _ q1
      rw [q2] at r1;cases r1
      have:=r2 _ n2
      rw [k3 _ n1] at this;cases this;exact hne rfl
     ·omega
    ·rcases Nat.lt_or_ge kk rows.length with hlt | hge
     ·rw [List.getElem?_append_left hlt] at hk
      have hv:(h.ks ++ [g.v])[kk]? = some v:=hv
      rw [List.getElem?_append_left (by rw [h8.len];exact hlt)] at hv
      exact h8.out kk ys v b' hk hv n1 n2
     ·have hv:(h.ks ++ [g.v])[kk]? = some v:=hv
      rw [List.getElem?_append_right (by rw [h8.len];exact hge)] at hv
      have hvg:v=g.v:=by
       rcases Nat.eq_zero_or_pos (kk - h.ks.length) with h0 | h0
       ·rw [h0] at hv;simp at hv;exact hv.symm
       ·rw [List.getElem?_eq_none (by simp;omega)] at hv;cases hv
      subst hvg
      have e1:=k3 _ n1
      have e2:=h3 _ n2
      rw [e1] at e2;cases e2;exact hne rfl
    ·have hv:(h.ks ++ [g.v])[kk]? = some v:=hv
     rcases Nat.lt_or_ge kk h.ks.length with hlt | hge
     ·rw [List.getElem?_append_left hlt] at hv;exact h8.sl kk v hv
     ·rw [List.getElem?_append_right hge] at hv
      rcases Nat.eq_zero_or_pos (kk - h.ks.length) with h0 | h0
      ·rw [h0] at hv;simp at hv;subst hv;exact m3
      ·rw [List.getElem?_eq_none (by simp;omega)] at hv;cases hv
   ·rw [List.getElem?_set_ne (Ne.symm hq)] at hx
    by_cases hq2:q=id2
    ·subst hq2
     rw [List.getElem?_set_self hid2] at hx
     cases hx;exact .inr trivial
    ·rw [List.getElem?_set_ne (Ne.symm hq2)] at hx
     exact .inl ⟨hx,fun h=>h.elim hq hq2⟩)
 exact ⟨none,.t [],_,_,_,_,hst,hG1,hG2,e⟩
structure RrV (O:Own) (w:World) (M:Nat->Bool) (E Ei:Nat) (t:Ty) (v:Value) (ks:List Value) (rows:List (Option (List t.den))) (out:List Nat) (es:List Value):Prop where
 ob:∀ b,blockOf v b->∃ i,O b=.th i∧M i=true
 rw_:Row w E 1 v out.length es
 or_:OutR ks out es
 len:ks.length=rows.length
 row:∀ (k:Nat) (xs:List t.den),rows[k]? = some (some xs)->∃ u cs,ks[k]? = some u∧(∀ b,blockOf u b->∃ i,O b=.th i∧M i=true)∧LR (TR O t) xs cs∧Row w Ei t.size u xs.length cs
 apart:∀ (k:Nat) (xs:List t.den) (k':Nat) (xs':List t.den) (u u':Value) (b:Nat),rows[k]? = some (some xs)->rows[k']? = some (some xs')->ks[k]? = some u->ks[k']? = some u'->blockOf u b->blockOf u' b->k=k'
 out:∀ (k:Nat) (xs:List t.den) (u:Value) (b:Nat),rows[k]? = some (some xs)->ks[k]? = some u->blockOf u b->¬ blockOf v b
 sl:∀ (k:Nat) (u:Value),ks[k]? = some u->isSl u=true
theorem RrV.of {id E Ei:Nat} {t:Ty} {rows:List (Option (List t.den))} {out:List Nat} (h:Holds O ρ w id (.rr E Ei t rows out)):∃ g es,ρ[id]? = some g∧RrV O w (fun i=>Nat.beq i id) E Ei t g.v g.ks rows out es:=by
 obtain ⟨g,es,h1,h2,h3,h4,h5,h6⟩:=h
 exact ⟨g,es,h1,fun b hb=>⟨id,h3 b hb,by simp⟩,h4,h5,h6.len,fun k xs hk=>by
  obtain ⟨u,cs,k1,k2,k3,k4⟩:=h6.row k xs hk
  exact ⟨u,cs,k1,fun b hb=>⟨id,k2 b hb,by simp⟩,k3,k4⟩,h6.apart,h6.out,h6.sl⟩
theorem RrV.nil (O:Own) (w:World) (E Ei:Nat) (t:Ty):RrV O w (fun _=>false) E Ei t (.slice none 0 0) [] [] [] []:=
 ⟨fun b hb=>hb.elim,⟨rfl,.inl ⟨rfl,rfl⟩⟩,rfl,rfl,fun k xs h=>by simp at h,fun k xs k' xs' u u' b h=>by simp at h,fun k xs u b h=>by simp at h,fun k u h=>by simp at h⟩
theorem join_rr {β:Type} {k:Option IV->Tbl->Option β} {r:β} {MA MB:Nat->Bool} {E Ei:Nat} {t:Ty} {vA vB:Value} {ksA ksB:List Value} {rowsA rowsB:List (Option (List t.den))} {outA outB:List Nat} {esA esB:List Value} {tb1:Tbl} {v':Value} {w':World} (hM:Gm O ρ tb w)
  (hA:RrV O w MA E Ei t vA ksA rowsA outA esA) (hB:RrV O w MB E Ei t vB ksB rowsB outB esB) (hd:∀ i,MA i=true->MB i=true->False) (hl:tb1.length=tb.length) (ht:∀ j y,tb1[j]? = some y->(tb[j]? = some y∧(MA j || MB j)=false)∨y=.no)
  (hr:(execOp a.eval o).run P w=.ok (.value v') w') (hrow:Row w' E 1 v' (outA.length + outB.length) (esA ++ esB)) (hk:Kept (blockOf vA) w w') (hb:∀ b,blockOf v' b->blockOf vA b∨w.heap.size≤b)
  (e:k (some (.rw tb.length)) (tb1 ++ [.rr E Ei t (rowsA ++ rowsB) (outA ++ shO rowsA.length outB)])=some r):WOk P a o O ρ w (fun i=>(MA i || MB i)=true) k r:=by
 have hsl:=hrow.isSl
 obtain ⟨vb,vm,vc,hv'⟩:∃ q m cp,v'=.slice q m cp:=by cases v'<;>first | exact ⟨_,_,_,rfl⟩ | cases hsl
 have hat:(ρ ++ [(⟨0,.one,v',ksA ++ ksB⟩:Hd)])[tb.length]? = some ⟨0,.one,v',ksA ++ ksB⟩:=by rw [← hM.len];simp
 have own1:∀ b i,O b=.th i->(MA i || MB i)=true->tkO O (fun i=>MA i || MB i) (fun b=>blkB v' b && Nat.ble w.heap.size b) tb.length b=.th tb.length:=fun b i h1 h2=>by simp only [tkO,h1,h2,cond_true]
 have lt1:∀ b i,O b=.th i->b < w.heap.size:=fun b i h=>by
  rcases Nat.lt_or_ge b w.heap.size with h' | h'
  ·exact h'
  ·rw [hM.lt b h'] at h;cases h
 have hlenR:(ksA ++ ksB).length=(rowsA ++ rowsB).length:=by simp [hA.len,hB.len]
 have at_:∀ (kk:Nat) (ys:List t.den) (u:Value),(rowsA ++ rowsB)[kk]? = some (some ys)->(ksA ++ ksB)[kk]? = some u->(rowsA[kk]? = some (some ys)∧ksA[kk]? = some u)∨(rowsA.length≤kk∧rowsB[kk - rowsA.length]? = some (some ys)∧ksB[kk - rowsA.length]? = some u):=fun kk ys u h1 h2=>by
  rcases Nat.lt_or_ge kk rowsA.length with hlt | hge
  ·rw [List.getElem?_append_left hlt] at h1
   rw [List.getElem?_append_left (by rw [hA.len];exact hlt)] at h2
   exact .inl ⟨h1,h2⟩
  ·rw [List.getElem?_append_right hge] at h1
   rw [List.getElem?_append_right (by rw [hA.len];exact hge),hA.len] at h2
   exact .inr ⟨hge,h1,h2⟩
 have stay:∀ {u:Value} {m:Nat} {cs:List Value},Row w Ei t.size u m cs->(∀ b,blockOf u b->¬ blockOf vA b)->Row w' Ei t.size u m cs:=fun {u m cs} h1 h2=>Rs.same (r:=.row Ei t.size u m cs) (fun b hbb=>hk.block b (h1.blt hbb) (h2 b hbb)) h1
 have ownA:∀ {u:Value} {kk:Nat} {ys:List t.den},rowsA[kk]? = some (some ys)->ksA[kk]? = some u->(∀ b,blockOf u b->∃ i,O b=.th i∧MA i=true):=fun {u kk ys} h1 h2=>by
  obtain ⟨u',cs,g1,g2,_⟩:=hA.row kk ys h1
  rw [h2] at g1;cases g1;exact g2
 have ownB:∀ {u:Value} {kk:Nat} {ys:List t.den},rowsB[kk]? = some (some ys)->ksB[kk]? = some u->(∀ b,blockOf u b->∃ i,O b=.th i∧MB i=true):=fun {u kk ys} h1 h2=>by
  obtain ⟨u',cs,g1,g2,_⟩:=hB.row kk ys h1
  rw [h2] at g1;cases g1;exact g2
 have cross:∀ {b:Nat},(∃ i,O b=.th i∧MA i=true)->(∃ i,O b=.th i∧MB i=true)->False:=fun ⟨i,h1,h2⟩ ⟨j,h3,h4⟩=>by
  rw [h1] at h3;cases h3;exact hd i h2 h4
 obtain ⟨g1,g2⟩:=hM.take (M:=fun i=>MA i || MB i) (tb1:=tb1) (x:=.rr E Ei t (rowsA ++ rowsB) (outA ++ shO rowsA.length outB)) (h:=⟨0,.one,v',ksA ++ ksB⟩) (fun b=>blkB v' b && Nat.ble w.heap.size b) hl ht
  (hk.wide fun b hbb=>by obtain ⟨i,h1,h2⟩:=hA.ob b hbb;exact ⟨i,by simp [h2],h1⟩)
  (fun b hbb=>by
   simp only [Bool.and_eq_true] at hbb
   exact ⟨by simpa using hbb.2,hrow.blt (blkB_of hbb.1)⟩)
  ⟨_,esA ++ esB,hat,rfl,fun b hbb=>by
    rcases hb b hbb with h1 | h1
    ·obtain ⟨i,h2,h3⟩:=hA.ob b h1
     exact own1 b i h2 (by simp [h3])
    ·have:O b=.no:=hM.lt b h1
     have h2:Nat.ble w.heap.size b=true:=by simpa using h1
     simp [tkO,this,of_blkB hv' hbb,h2],
   by simpa [shO] using hrow,(hA.or_.more ksB).append (by rw [← hA.len];exact hB.or_.shift),
   ⟨hlenR,fun kk ys hkk=>by
    have hkl:kk < (ksA ++ ksB).length:=by rw [hlenR];exact (List.getElem?_eq_some_iff.1 hkk).1
    obtain ⟨u,hu⟩:∃ u,(ksA ++ ksB)[kk]? = some u:=⟨_,List.getElem?_eq_getElem hkl⟩
    rcases at_ kk ys u hkk hu with ⟨h1,h2⟩ | ⟨h0,h1,h2⟩
    ·obtain ⟨u',cs,k1,k2,k3,k4⟩:=hA.row kk ys h1
     rw [h2] at k1;cases k1
     exact ⟨u,cs,hu,fun b hbb=>by obtain ⟨i,h3,h4⟩:=k2 b hbb;exact own1 b i h3 (by simp [h4]),k3.mono (fun _ _=>TR.mono tkO_le),stay k4 (fun b hbb=>hA.out kk ys u b h1 h2 hbb)⟩
    ·obtain ⟨u',cs,k1,k2,k3,k4⟩:=hB.row _ ys h1
     rw [h2] at k1;cases k1
     exact ⟨u,cs,hu,fun b hbb=>by obtain ⟨i,h3,h4⟩:=k2 b hbb;exact own1 b i h3 (by simp [h4]),k3.mono (fun _ _=>TR.mono tkO_le),stay k4 (fun b hbb hbA=>cross (hA.ob b hbA) (k2 b hbb))⟩,
       fun kk ys k' ys' u u' b hk1 hk2 hu hu' n1 n2=>by
    rcases at_ _ _ _ hk1 hu with ⟨p1,p2⟩ | ⟨p0,p1,p2⟩<;>rcases at_ _ _ _ hk2 hu' with ⟨q1,q2⟩ | ⟨q0,q1,q2⟩
    ·exact hA.apart _ _ _ _ _ _ _ p1 q1 p2 q2 n1 n2
    ·exact (cross (ownA p1 p2 b n1) (ownB q1 q2 b n2)).elim
    ·exact (cross (ownA q1 q2 b n2) (ownB p1 p2 b n1)).elim
    ·have:=hB.apart _ _ _ _ _ _ _ p1 q1 p2 q2 n1 n2;omega,
       fun kk ys u b hk1 hu n1 n2=>by
    rcases at_ _ _ _ hk1 hu with ⟨p1,p2⟩ | ⟨p0,p1,p2⟩
    ·obtain ⟨i,m1,m2⟩:=ownA p1 p2 b n1
     rcases hb b n2 with h1 | h1
     ·exact hA.out kk ys u b p1 p2 n1 h1
     ·have:=lt1 b i m1;omega
    ·obtain ⟨i,m1,m2⟩:=ownB p1 p2 b n1
     rcases hb b n2 with h1 | h1
     ·exact cross (hA.ob b h1) ⟨i,m1,m2⟩
     ·have:=lt1 b i m1;omega,
       fun kk u hu=>by
    have hu:(ksA ++ ksB)[kk]? = some u:=hu
    rcases Nat.lt_or_ge kk ksA.length with hlt | hge
    ·rw [List.getElem?_append_left hlt] at hu;exact hA.sl _ _ hu
    ·rw [List.getElem?_append_right hge] at hu;exact hB.sl _ _ hu⟩⟩
 exact ⟨some (.rw tb.length),.o (.v v'),_,_,_,w',⟨.of_S0 (v:=.rw tb.length) ⟨v',rfl,_,hat,rfl,hsl⟩,hr⟩,g1,g2,e⟩
def wAppR {β:Type} (c:Cfg) (il:IEnv) (tb:Tbl) (k:Option IV->Tbl->Option β) (ty ty2:Nat) (A B:Operand) (e Ei:Nat) (t:Ty):Option β:=
 match c.D ty2,iopd c il B with
 | some (.slice _),some (.rw idB)=>match nth tb idB with
  | some (.rr EB EiB tB rowsB outB)=>match Nat.beq EB e,Nat.beq EiB Ei,castRr (Ty.eq? tB t) rowsB with
   | true,true,some rowsB=>match iopd c il A with
    | some (.rw idA)=>match nth tb idA with
     | some (.rr EA EiA tA rowsA outA)=>match Nat.beq EA e,Nat.beq EiA Ei,castRr (Ty.eq? tA t) rowsA with
      | true,true,some rowsA=>match Nat.beq idA idB with
       | false=>(gapp outA (shO rowsA.length outB)).bind fun out=>k (some (.rw tb.length)) ((tb.set idA .no).set idB .no ++ [.rr e Ei t (rowsA ++ rowsB) out])
       | true=>none
      | _,_,_=>none
     | _=>none
    | some v=>match v.asNil with
     | true=>(gapp [] (shO 0 outB)).bind fun out=>k (some (.rw tb.length)) (tb.set idB .no ++ [.rr e Ei t ([] ++ rowsB) out])
     | false=>none
    | none=>none
   | _,_,_=>none
  | _=>none
 | _,_=>none
def ids2 (c:Cfg) (il:IEnv) (A B:Operand):List Nat:=
 (match iopd c il A with
 | some v=>idsV v
 | none=>[]) ++ (match iopd c il B with
 | some v=>idsV v
 | none=>[])
theorem set_no {id:Nat} {j:Nat} {y:Thing} (h:(tb.set id .no)[j]? = some y):(tb[j]? = some y∧Nat.beq j id=false)∨y=.no:=by
 rw [List.getElem?_set] at h
 split at h
 ·rename_i e';subst e'
  split at h
  ·cases h;exact .inr rfl
  ·cases h
 ·rename_i e'
  exact .inl ⟨h,by cases hq:Nat.beq j id with
   | false=>rfl
   | true=>exact absurd (Nat.eq_of_beq_eq_true hq).symm e'⟩
theorem wAppR_ok {β:Type} {k:Option IV->Tbl->Option β} {r:β} (hc:COk P c) (hF:Fr n a l) (hE:ER O ρ il l) (hG:GO c O) (hM:Gm O ρ tb w) {ty ty2 e Ei:Nat} {t:Ty} {A B:Operand} (ho:o.op=.call ⟨.builtin .append,#[A,B],#[ty,ty2]⟩) (hd:c.D ty=some (.slice e)) (hp:c.R e=some (Ei,t)) (e':wAppR c il tb k ty ty2 A B e Ei t=some r):WOk P a o O ρ w (· ∈ ids2 c il A B) k r:=by
 obtain ⟨bytes,h3,h4⟩:=hc.rows _ _ _ hd hp
 have bnd:∀ q:Nat,q≤1099511627776->q≤maxLen∧q * bytes≤140737488355328:=fun q hq=>by
  refine ⟨by simp only [maxLen];omega,?_⟩
  have:=Nat.mul_le_mul hq h4
  omega
 unfold wAppR at e'
 split at e'<;>first | (cases e';done) | skip
 rename_i el2 idB hd2 hB
 split at e'<;>first | (cases e';done) | skip
 rename_i EB EiB tB rowsB0 outB hb
 split at e'<;>first | (cases e';done) | skip
 rename_i rowsB q1 q2 q3
 obtain ⟨e1,he1⟩:=castRr_ok q3
 subst e1
 have he1:rowsB=rowsB0:=he1
 subst he1
 have q1:=Nat.eq_of_beq_eq_true q1
 have q2:=Nat.eq_of_beq_eq_true q2
 subst q1 q2
 rw [nth_eq] at hb
 have hidB:=(List.getElem?_eq_some_iff.1 hb).1
 obtain ⟨gB,esB,r1,hVB⟩:=RrV.of (hM.th _ _ hb)
 obtain ⟨uB,huB,⟨gB',m1,m2,m3⟩,_⟩:=iopd_1 hE hG hB rfl (by simp) hF
 cases m2
 rw [r1] at m1;cases m1
 have hlB:esB.length=outB.length:=hVB.or_.len
 have h1B:∀ u ∈ esB,u.oneCell'=true:=fun u hu=>by
  have key:∀ {out:List Nat} {es:List Value},OutR gB.ks out es->∀ u ∈ es,u.oneCell'=true:=by
   intro out
   induction out with
   | nil=>intro es h u hu;simp only [OutR] at h;subst h;simp at hu
   | cons q out ih=>
    rintro es ⟨x,l,rfl,h1,h2⟩ u hu
    rcases List.mem_cons.1 hu with hu | hu
    ·subst hu;exact isSl_one (hVB.sl _ _ h1)
    ·exact ih h2 u hu
  exact key hVB.or_ u hu
 have run:∀ {v:Value} {len:Nat} {xs:List Value},a.eval A=v->Row w EB 1 v len xs->len + outB.length≤1099511627776->∃ v' w',(execOp a.eval o).run P w=.ok (.value v') w'∧Row w' EB 1 v' (len + outB.length) (xs ++ esB)∧Kept (blockOf v) w w'∧∀ b,blockOf v' b->blockOf v b∨w.heap.size≤b:=by
  intro v len xs hA hrw hq
  refine run_app' (P:=P) (w:=w) (m:=outB.length) (ys:=esB) h3 (hc.tok.desc _ _ hd2) (fun q h=>by cases h) ho hA hrw (fun w'=>by rw [huB];exact lenOf_rd hVB.rw_.rd w') (by rw [hlB,Nat.mul_one]) (fun w' hw=>by
   rw [huB]
   have:=run_first (P:=P) (w:=w') (Rd.same hVB.rw_.rd (fun b _ _=>by rw [hw])) outB.length (Nat.le_refl _)
   rw [List.take_of_length_le (by omega)] at this;exact this) h1B (bnd _ hq).1 (bnd _ hq).2
 split at e'<;>first | (cases e';done) | skip
 ·rename_i idA hA
  split at e'<;>first | (cases e';done) | skip
  rename_i EA EiA tA rowsA0 outA hb2
  split at e'<;>first | (cases e';done) | skip
  rename_i rowsA q1 q2 q3
  obtain ⟨e1,he1⟩:=castRr_ok q3
  subst e1
  have he1:rowsA=rowsA0:=he1
  subst he1
  have q1:=Nat.eq_of_beq_eq_true q1
  have q2:=Nat.eq_of_beq_eq_true q2
  subst q1 q2
  split at e'<;>first | (cases e';done) | skip
  rename_i hne
  obtain ⟨out,ho1,e'⟩:=bindS e'
  obtain ⟨ho2,rfl⟩:=gapp_some ho1
  have ho2:outA.length + outB.length≤1099511627776:=by simpa [shO] using ho2
  rw [nth_eq] at hb2
  obtain ⟨gA,esA,s1,hVA⟩:=RrV.of (hM.th _ _ hb2)
  obtain ⟨uA,huA,⟨gA',n1,n2,n3⟩,_⟩:=iopd_1 hE hG hA rfl (by simp) hF
  cases n2
  rw [s1] at n1;cases n1
  obtain ⟨v',w',x1,x2,x3,x4⟩:=run huA hVA.rw_ ho2
  have:=join_rr hM hVA hVB (fun i h1 h2=>by
   have h1:=Nat.eq_of_beq_eq_true h1
   have h2:=Nat.eq_of_beq_eq_true h2
   subst h1;subst h2;simp at hne) (by simp) (fun j y hy=>by
   rcases set_no hy with ⟨h1,h2⟩ | h1
   ·rcases set_no h1 with ⟨h3,h4⟩ | h3
    ·exact .inl ⟨h3,by simp only [h2,h4,Bool.or_self]⟩
    ·exact .inr h3
   ·exact .inr h1) x1 x2 x3 x4 e'
  exact this.wk fun i hi=>by
   simp only [Bool.or_eq_true] at hi
   simp only [ids2,hA,hB,idsV,List.mem_append,List.mem_singleton]
   exact hi.imp Nat.eq_of_beq_eq_true Nat.eq_of_beq_eq_true
 ·rename_i v0 _ hA
  split at e'<;>first | (cases e';done) | skip
  rename_i hnil
  have hvn:=asNil_eq hnil
  subst hvn
  have hu:=opd_val hF (iopd_o hE hG hA).1
  obtain ⟨out,ho1,e'⟩:=bindS e'
  obtain ⟨ho2,rfl⟩:=gapp_some ho1
  have ho2:0 + outB.length≤1099511627776:=by simpa [shO] using ho2
  obtain ⟨v',w',x1,x2,x3,x4⟩:=run hu (RrV.nil O w EB EiB tB).rw_ ho2
  have:=join_rr hM (RrV.nil O w EB EiB tB) hVB (fun i h1 h2=>by cases h1) (by simp) (fun j y hy=>by
   rcases set_no hy with ⟨h1,h2⟩ | h1
   ·exact .inl ⟨h1,by simpa using h2⟩
   ·exact .inr h1) x1 x2 x3 x4 e'
  exact this.wk fun i hi=>by
   simp only [Bool.false_or] at hi
   simp only [ids2,hA,hB,idsV,List.mem_append,List.mem_singleton]
   exact .inr (Nat.eq_of_beq_eq_true hi)
def wAppX {β:Type} (c:Cfg) (il:IEnv) (tb:Tbl) (k:Option IV->Tbl->Option β) (ty ty2 id q:Nat) (B:Operand):Option β:=
 match c.D ty with
 | some (.slice e)=>match c.E e with
  | some t=>match nth tb id with
   | some (.rr E Ei t' rows out)=>match Nat.beq Ei e,castRr (Ty.eq? t' t) rows with
    | true,some rows=>(rxG rows q).bind fun xs=>srcI c il tb t ty2 B fun ys=>(gapp xs ys).bind fun zs=>k (some (.rw tb.length)) (tb.set id (.rr E Ei t (rows.set q none) out) ++ [.row e t zs])
    | _,_=>none
   | _=>none
  | none=>none
 | _=>none
theorem wAppX_ok {β:Type} {k:Option IV->Tbl->Option β} {r:β} (hc:COk P c) (hF:Fr n a l) (hE:ER O ρ il l) (hG:GO c O) (hM:Gm O ρ tb w) {ty ty2 id q:Nat} {A B:Operand} (ho:o.op=.call ⟨.builtin .append,#[A,B],#[ty,ty2]⟩) (hA:iopd c il A=some (.rx id q)) (e:wAppX c il tb k ty ty2 id q B=some r):WOk P a o O ρ w (· = id) k r:=by
 unfold wAppX at e
 split at e<;>first | (cases e;done) | skip
 rename_i el hd
 split at e<;>first | (cases e;done) | skip
 rename_i t ht
 obtain ⟨bytes,z,zc,h3',h4',h5',h6'⟩:=hc.elem _ _ _ hd ht
 have bnd:∀ q:Nat,q≤1099511627776->q≤maxLen∧q * bytes≤140737488355328:=fun q hq=>by
  refine ⟨by simp only [maxLen];omega,?_⟩
  have:=Nat.mul_le_mul hq h4'
  omega
 split at e<;>first | (cases e;done) | skip
 rename_i E Ei t' rows0 out hb
 split at e<;>first | (cases e;done) | skip
 rename_i rows q1 q2
 obtain ⟨e1,he1⟩:=castRr_ok q2
 subst e1
 have he1:rows=rows0:=he1
 subst he1
 have q1:=Nat.eq_of_beq_eq_true q1
 subst q1
 rw [nth_eq] at hb
 have hid:=(List.getElem?_eq_some_iff.1 hb).1
 obtain ⟨xs,hxs,e⟩:=bindS e
 have hxs:=rxG_some hxs
 obtain ⟨h,es,h1,h2,h3,h5,h6,h8⟩:=hM.th _ _ hb
 obtain ⟨u,hu,⟨h',v,m1,m2,m3,m4⟩,_⟩:=iopd_1 hE hG hA rfl (by simp) hF
 cases m3
 rw [h1] at m1;cases m1
 obtain ⟨v2,cs,n1,n2,n3,n4⟩:=h8.row q xs hxs
 rw [m2] at n1;cases n1
 obtain ⟨ys,fs,d2,hk,hL,hu2,hd2,hlen,hfirst⟩:=srcI_ok hc hF hE hG hM e
 obtain ⟨zs,hz,hk⟩:=bindS hk
 obtain ⟨h14,rfl⟩:=gapp_some hz
 have hfl:=LR.length (fun _ _=>TR.length) hL
 obtain ⟨v',w',h15,h16,h17,h18⟩:=run_app' (P:=P) (w:=w) (m:=ys.length) (ys:=fs) h3' hu2 hd2 ho hu n4 hlen hfl (fun w' hw=>by
  have:=hfirst w' hw ys.length (Nat.le_refl _)
  rw [List.take_of_length_le (by omega)] at this;exact this) (LR.one (fun _ _=>TR.one) hL) (bnd _ h14).1 (bnd _ h14).2
 have hrow:Row w' Ei t'.size v' (xs ++ ys).length (cs ++ fs):=by rw [List.length_append];exact h16
 have hsl:=hrow.isSl
 obtain ⟨vb,vm,vc,hv'⟩:∃ q m cp,v'=.slice q m cp:=by cases v'<;>first | exact ⟨_,_,_,rfl⟩ | cases hsl
 have hat:(ρ ++ [(⟨0,t'.sz,v',[]⟩:Hd)])[tb.length]? = some ⟨0,t'.sz,v',[]⟩:=by rw [← hM.len];simp
 have lt1:∀ b i,O b=.th i->b < w.heap.size:=fun b i h=>by
  rcases Nat.lt_or_ge b w.heap.size with h' | h'
  ·exact h'
  ·rw [hM.lt b h'] at h;cases h
 have hnew:∀ b,blkB v' b=true->blockOf u b∨w.heap.size≤b:=fun b hb'=>h18 b (blkB_of hb')
 have hle:O.le (fun b=>bif blkB v' b then .th tb.length else O b):=fun b all e=>by
  cases e':blkB v' b with
  | true=>
   rcases hnew b e' with h1 | h1
   ·rw [n2 b h1] at e;cases e
   ·rw [hM.lt b h1] at e;cases e
  | false=>simp only [e',cond_false];exact e
 have keep:∀ b,O b=.th id->¬ blockOf u b->(bif blkB v' b then Ow.th tb.length else O b)=.th id:=fun b h1 h2=>by
  cases e':blkB v' b with
  | true=>
   rcases hnew b e' with h3 | h3
   ·exact absurd h3 h2
   ·have:=lt1 b id h1;omega
  | false=>exact h1
 obtain ⟨g1,g2⟩:=hM.step (M:=(· = id)) (O':=fun b=>bif blkB v' b then .th tb.length else O b) (ρ':=ρ ++ [⟨0,t'.sz,v',[]⟩]) (tb':=tb.set id (.rr E Ei t' (rows.set q none) out) ++ [.row Ei t' (xs ++ ys)]) (w':=w') (h17.wide fun b hb'=>⟨id,rfl,n2 b hb'⟩)
  (fun b hb' hn=>by
   cases e':blkB v' b with
   | true=>
    rcases hnew b e' with h1 | h1
    ·exact absurd (n2 b h1) (hn id rfl)
    ·omega
   | false=>rfl)
  (fun b hb'=>by
   cases e':blkB v' b with
   | true=>have:=hrow.blt (blkB_of e');omega
   | false=>exact hM.lt b (Nat.le_trans h17.size hb'))
  (fun b all e=>by
   cases e':blkB v' b with
   | true=>simp only [e',cond_true] at e;cases e
   | false=>simp only [e',cond_false] at e;exact .inl e)
  (.app _ _) (by simp [hM.len]) (fun j x hx=>by
   rcases Nat.lt_or_ge j tb.length with hj | hj
   ·rw [List.getElem?_append_left (by simpa using hj),List.getElem?_set] at hx
    split at hx
    ·rename_i e';subst e'
     have hxr:x=.rr E Ei t' (rows.set q none) out:=by first | (rw [if_pos hj] at hx;cases hx;rfl) | (cases hx;rfl)
     subst hxr
     have alive:∀ (kk:Nat) (ys:List t'.den),(rows.set q none)[kk]? = some (some ys)->kk ≠ q∧rows[kk]? = some (some ys):=fun kk ys hk=>by
      rw [List.getElem?_set] at hk
      split at hk
      ·split at hk<;>cases hk
      ·rename_i hne;exact ⟨fun h=>hne h.symm,hk⟩
     refine .inr ⟨h,es,app_at _ h1,h2,fun b hb'=>keep b (h3 b hb') (fun hh=>h8.out q xs u b hxs m2 hh hb'),Rs.same (r:=.row E 1 h.v out.length es) (fun b hbb=>h17.block b (h5.blt hbb) (fun hh=>h8.out q xs u b hxs m2 hh hbb)) h5,h6,
      ⟨by rw [List.length_set];exact h8.len,fun kk zs hk=>?_,fun kk zs k' zs' v1 v2 b hk hk'=>?_,fun kk zs v1 b hk=>?_,h8.sl⟩⟩
     ·obtain ⟨hne,hk⟩:=alive _ _ hk
      obtain ⟨v1,c1,o1,o2,o3,o4⟩:=h8.row kk zs hk
      have hap:∀ b,blockOf v1 b->¬ blockOf u b:=fun b p1 p2=>hne (h8.apart kk zs q xs v1 u b hk hxs o1 m2 p1 p2)
      exact ⟨v1,c1,o1,fun b hbb=>keep b (o2 b hbb) (hap b hbb),o3.mono (fun _ _=>TR.mono hle),Rs.same (r:=.row Ei t'.size v1 zs.length c1) (fun b hbb=>h17.block b (o4.blt hbb) (hap b hbb)) o4⟩
     ·exact h8.apart kk zs k' zs' v1 v2 b (alive _ _ hk).2 (alive _ _ hk').2
     ·exact h8.out kk zs v1 b (alive _ _ hk).2
    ·rename_i e';exact .inl ⟨hx,fun h=>e' h.symm⟩
   ·have hjl:j=tb.length:=by
     have:=(List.getElem?_eq_some_iff.1 hx).1
     simp at this;omega
    subst hjl
    rw [List.getElem?_append_right (by simp)] at hx
    simp at hx;subst hx
    exact .inr ⟨_,cs ++ fs,hat,rfl,fun b hbb=>by simp [of_blkB hv' hbb],(n3.append hL).mono (fun _ _=>TR.mono hle),hrow⟩)
 exact ⟨some (.rw tb.length),.o (.v v'),_,_,_,w',⟨.of_S0 (v:=.rw tb.length) ⟨v',rfl,_,hat,rfl,hsl⟩,h15⟩,g1,g2,hk⟩
theorem Gm.frzR {id E Ei:Nat} {t:Ty} {rows:List (Option (List t.den))} {out:List Nat} {xss:List (List t.den)} (hM:Gm O ρ tb w) (hb:tb[id]? = some (.rr E Ei t rows out)) (hx:mat rows out=some xss):∃ O' h,ρ[id]? = some h∧Gm O' ρ (tb.set id (.fz (.sl t) xss)) w∧Stp (· = id) O ρ w O' ρ w∧TR O' (.sl (.sl t)) xss [h.v]∧(∀ b j,j ≠ id->O b=.th j->O' b=.th j)∧h.z=(Ty.sl t).sz:=by
 obtain ⟨h,es,h1,h2,h3,h5,h6,h8⟩:=hM.th _ _ hb
 have hid:=(List.getElem?_eq_some_iff.1 hb).1
 obtain ⟨O',hO'⟩:∃ O':Own,O'=fun b=>match O b with
  | .th i=>bif Nat.beq i id then (match w.heap[b]? with | some (.cells a _ _)=>.im a.toList | _=>.no) else .th i
  | .im l=>.im l
  | .no=>.no:=⟨_,rfl⟩
 have hle:O.le O':=fun b all e=>by simp only [hO',e]
 have hoth:∀ b j,j ≠ id->O b=.th j->O' b=.th j:=fun b j hj e=>by
  have:Nat.beq j id=false:=by cases hq:Nat.beq j id with
   | false=>rfl
   | true=>exact absurd (Nat.eq_of_beq_eq_true hq) hj
  simp only [hO',e,this,cond_false]
 have him:∀ b a ty fz,O b=.th id->w.heap[b]? = some (.cells a ty fz)->O' b=.im a.toList:=fun b a ty fz e hh=>by simp [hO',e,hh]
 have sl_at:∀ {E s n:Nat} {v:Value} {cs:List Value},Row w E s v n cs->(∀ b,blockOf v b->O b=.th id)->SlAt O' n cs v:=fun {E s n v cs} hr ho=>
  ofSlAt hr.rd (fun b a ty fz _ hb hh=>him b a ty fz (ho b hb) hh)
 have hLR:∀ {out:List Nat} {es:List Value} {xss:List (List t.den)},OutR h.ks out es->mat rows out=some xss->LR (TR O' (.sl t)) xss es∧xss.length=out.length:=by
  intro out
  induction out with
  | nil=>intro es xss h1 h2;simp only [mat,Option.some.injEq] at h2;subst h2;simp only [OutR] at h1;subst h1;exact ⟨rfl,rfl⟩
  | cons q out ih=>
   rintro es xss ⟨x,l,rfl,hq,hr⟩ h2
   simp only [mat] at h2
   split at h2<;>first | (cases h2;done) | skip
   rename_i y ys hy hys
   cases h2
   obtain ⟨i1,i2⟩:=ih hr hys
   obtain ⟨v,cs,k1,k2,k3,k4⟩:=h8.row q y (rxG_some hy)
   rw [hq] at k1;cases k1
   exact ⟨⟨[x],l,rfl,⟨x,cs,rfl,k3.mono (fun _ _=>TR.mono hle),sl_at k4 k2⟩,i1⟩,by simp [i2]⟩
 obtain ⟨hL,hxl⟩:=hLR h6 hx
 have hT:TR O' (.sl (.sl t)) xss [h.v]:=by
  refine ⟨h.v,es,rfl,hL,?_⟩
  have:=sl_at h5 h3
  rw [← hxl] at this;exact this
 obtain ⟨g1,g2⟩:=hM.step (M:=(· = id)) (O':=O') (ρ':=ρ) (tb':=tb.set id (.fz (.sl t) xss)) (w':=w) (Kept.refl _ _)
  (fun b _ hn=>by
   cases e':O b with
   | th i=>exact hoth b i (fun e=>by subst e;exact hn i rfl e') e'
   | im l=>simp only [hO',e']
   | no=>simp only [hO',e'])
  (fun b hb'=>by simp only [hO',hM.lt b hb'])
  (fun b all e=>by
   cases e':O b with
   | th i=>
    by_cases hi:i=id
    ·subst hi
     simp only [hO',e'] at e
     have:Nat.beq i i=true:=by simp
     rw [this] at e
     simp only [cond_true] at e
     split at e
     ·rename_i a ty fz hh;cases e;exact .inr ⟨ty,fz,by simpa using hh⟩
     ·cases e
    ·rw [hoth b i hi e'] at e;cases e
   | im l=>simp only [hO',e'] at e;cases e;exact .inl rfl
   | no=>simp only [hO',e'] at e;cases e)
  (.refl _) (by simp [hM.len]) (fun j x hx=>by
   rw [List.getElem?_set] at hx
   split at hx
   ·rename_i e;subst e
    have:x=.fz (.sl t) xss:=by first | (rw [if_pos hid] at hx;cases hx;rfl) | (cases hx;rfl)
    subst this;exact .inr ⟨h,h1,h2,hT⟩
   ·rename_i e;exact .inl ⟨hx,fun h=>e h.symm⟩)
 exact ⟨O',h,h1,g1,g2,hT,hoth,h2⟩
theorem el_store {β:Type} {k:Option IV->Tbl->Option β} {r:β} {id j E t:Nat} {t':Ty} {xs:List t'.den} {u':t'.den} {us:List Value} {x y:Operand} (hc:COk P c) (hM:Gm O ρ tb w) (ho:o.op=.store t x y) (hb:tb[id]? = some (.row E t' xs)) (hv:R O ρ false (.el id j []) [a.eval x]) (hy1:(a.eval y).cells=us.toArray)
  (hz:c.Z t=some us.length) (h1c:∀ v ∈ us,v.oneCell'=true) (hT:TR O t' u' us) (hk:k none (tb.set id (.row E t' (xs.set j u')))=some r):WOk P a o O ρ w (· = id) k r:=by
 obtain ⟨h,es,h1,h2,h3,h4,h5⟩:=hM.th _ _ hb
 obtain ⟨h',off,ad,nn,cp,h6,h7,h8,h9,h10⟩:=hv
 rw [h1] at h6;cases h6
 have hoff:off=0:=by
  have:h.z.off []=some 0:=by cases h.z<;>rfl
  rw [this] at h7;cases h7;rfl
 subst hoff
 have h5':=h5
 obtain ⟨hl5,hr5⟩:=h5'
 rcases hr5 with ⟨hnil,_⟩ | ⟨b,cap,sp,hv5,hnc,hblk,hcap,hmax⟩
 ·rw [hnil] at h8;cases h8
 rw [hv5] at h8;cases h8
 have hown:O b=.th id:=h3 b (by rw [hv5];rfl)
 have hjn:j * t'.size + t'.size≤es.length:=by
  rw [hl5]
  have:=Nat.mul_le_mul_right t'.size (show j + 1≤xs.length by omega)
  rw [Nat.add_mul] at this;omega
 simp only [List.cons.injEq,and_true] at h10
 rw [add_zero _ rfl,Nat.zero_add,h2,Ty.sz_size,Nat.add_zero] at h10
 have hul:=TR.length hT
 have hst:=run_store' hc ho h10 hy1 hz h1c hblk (by rw [List.length_append];omega)
 rw [spl_app (by omega)] at hst
 have hset:=LR.set (fun _ _=>TR.length) h4 (j:=j) h9 hT
 have hspl:es.take (j * t'.size) ++ us ++ es.drop (j * t'.size + t'.size)=spl es (j * t'.size) us:=by
  simp only [spl,hul]
 rw [hspl] at hset
 have hlen:(spl es (j * t'.size) us).length=es.length:=spl_len (by omega)
 obtain ⟨hG1,hG2⟩:=hM.set (x':=.row E t' (xs.set j u')) (List.getElem?_eq_some_iff.1 hb).1 ((kept_setRow b (spl es (j * t'.size) us ++ sp).toArray).wide (fun b' e=>by subst e;exact hown))
  ⟨h,_,h1,h2,h3,hset,by rw [hlen,List.length_set];exact hl5,.inr ⟨b,_,sp,by rw [hv5,List.length_set],by rw [List.length_set];exact hnc,hblk.setRow (by simp [hlen]),by rw [← hcap];simp [hlen],hmax⟩⟩
 exact ⟨none,.t [],_,_,_,_,hst,hG1,hG2,hk⟩
def stF {β:Type} (tb:Tbl) (k:Option IV->Tbl->Option β) (id j:Nat) (t2:Ty) (xs:List t2.den):Option β:=
 match nth tb id with
 | some (.row E t' xss)=>match Ty.eq? (.sl t2) t' with
  | some h=>k none (tb.set id (.row E t' (xss.set j (castL h.down xs))))
  | none=>none
 | _=>none
def wStF {β:Type} (c:Cfg) (tb:Tbl) (k:Option IV->Tbl->Option β) (t id j id2:Nat):Option β:=
 match c.Z t with
 | some 1=>match nth tb id2 with
  | some (.row _ t2 xs)=>stF (tb.set id2 (.fz t2 xs)) k id j t2 xs
  | some (.fz t2 xs)=>stF tb k id j t2 xs
  | _=>none
 | _=>none
theorem wStF_ok {β:Type} {k:Option IV->Tbl->Option β} {r:β} (hc:COk P c) (hF:Fr n a l) (hE:ER O ρ il l) (hG:GO c O) (hM:Gm O ρ tb w) {t:Nat} {x y:Operand} (ho:o.op=.store t x y) {id j id2:Nat} (hx:iopd c il x=some (.el id j [])) (hy:iopd c il y=some (.rw id2)) (e:wStF c tb k t id j id2=some r):WOk P a o O ρ w (fun i=>i=id∨i=id2) k r:=by
 unfold wStF at e
 split at e<;>first | (cases e;done) | skip
 rename_i hz
 obtain ⟨u,hu,hRx,_⟩:=iopd_1 hE hG hx rfl (by simp) hF
 obtain ⟨u2,hu2,⟨g',m1,m2,m3⟩,_⟩:=iopd_1 hE hG hy rfl (by simp) hF
 cases m2
 have hyc:(a.eval y).cells=[g'.v].toArray:=by
  rw [hu2]
  cases hg:g'.v<;>rw [hg] at m3<;>first | rfl | cases m3
 rw [← hu] at hRx
 have fin:∀ {O1:Own} {tb1:Tbl} {t2:Ty} {xs:List t2.den},Gm O1 ρ tb1 w->R O1 ρ false (.el id j []) [a.eval x]->TR O1 (.sl t2) xs [g'.v]->stF tb1 k id j t2 xs=some r->WOk P a o O1 ρ w (· = id) k r:=by
  intro O1 tb1 t2 xs hM1 hR1 hT1 e
  unfold stF at e
  split at e<;>first | (cases e;done) | skip
  rename_i E t' xss hb
  split at e<;>first | (cases e;done) | skip
  rename_i h _
  rw [nth_eq] at hb
  exact el_store hc hM1 ho hb hR1 hyc hz (fun v hv=>by simp at hv;subst hv;exact isSl_one m3) (TR.cast h.down hT1) e
 split at e<;>first | (cases e;done) | skip
 ·rename_i E2 t2 xs hb2
  rw [nth_eq] at hb2
  obtain ⟨O1,h,h1,g1,g2,hT,_,_⟩:=hM.frz hb2
  rw [m1] at h1;cases h1
  exact WOk.pre (g2.weak (fun i hi=>.inr hi)) (fin g1 (R.mono g2.im g2.pre hRx) hT e) (fun i hi=>.inl hi)
 ·rename_i t2 xs hb2
  rw [nth_eq] at hb2
  obtain ⟨h,h1,h2,hT⟩:=hM.th _ _ hb2
  rw [m1] at h1;cases h1
  exact (fin hM hRx hT e).wk (fun i hi=>.inl hi)
end
end Go.Tw
namespace Go.Tw
set_option linter.unusedSimpArgs false
set_option linter.unusedVariables false
section
variable {P:Program} {c:Cfg} {n:Nat} {a:Act} {l:Env} {il:IEnv} {O:Own} {ρ:List Hd} {tb:Tbl} {w:World} {o:Oper}
theorem run_copyG (hc:COk P c) {ty ty2 e s q m:Nat} {A B:Operand} {b':Option Addr} {c':Nat} {ys:List Value} {w':World} (ho:o.op=.call ⟨.builtin .copy,#[A,B],#[ty,ty2]⟩) (hd:c.D ty=some (.slice e)) (hz:c.Z e=some s) (hA:a.eval A=.slice b' m c') (hlen:(Builtin.lenOf (a.eval B)).run P w=.ok q w)
  (hf:(Builtin.firstCells s (Nat.min q m) (a.eval B)).run P w=.ok ys.toArray w) (hst:∀ ad,b'=some ad->(storeCells ad ys).run P w=.ok () w') (hn:b'=none->w'=w):(execOp a.eval o).run P w=.ok (.value (vI (Nat.min q m:Nat))) w':=by
 have hrun:(Builtin.copy_ #[ty,ty2] o.type #[.slice b' m c',a.eval B]).run P w=.ok (vI (Nat.min q m:Nat)) w':=by
  unfold Builtin.copy_
  cases b' with
  | none=>
   have:=hn rfl;subst this
   simp [run_underlying (hc.tok.desc _ _ hd),hlen,hc.tok.size _ _ hz,goInt,hf]
  | some ad=>
   have:=hst ad rfl
   simp [run_underlying (hc.tok.desc _ _ hd),hlen,hc.tok.size _ _ hz,goInt,hf,this]
 simp [execOp,ho,resolve,invoke,builtin,hA,hrun]
def wCp {β:Type} (c:Cfg) (il:IEnv) (tb:Tbl) (k:Option IV->Tbl->Option β) (ty ty2:Nat) (A B:Operand):Option β:=
 match c.D ty with
 | some (.slice e)=>match c.Z e,iopd c il A with
  | some s,some (.rw id)=>match nth tb id with
   | some (.row E t xs)=>match Nat.beq s t.size with
    | true=>srcI c il tb t ty2 B fun ys=>k (some (.o (.i (Nat.min ys.length xs.length:Nat)))) (tb.set id (.row E t (splice xs 0 ys (Nat.min ys.length xs.length))))
    | false=>none
   | _=>none
  | some s,some (.rp id lo hi)=>match nth tb id with
   | some (.row E t xs)=>match Nat.beq s t.size with
    | true=>srcI c il tb t ty2 B fun ys=>k (some (.o (.i (Nat.min ys.length (hi - lo):Nat)))) (tb.set id (.row E t (splice xs lo ys (Nat.min ys.length (hi - lo)))))
    | false=>none
   | _=>none
  | some s,some (.ap id p lo hi)=>match nth tb id with
   | some (.blk bt v)=>getP (fun u=>match u with
    | .ar m t xs=>match Nat.beq s t.size with
     | true=>srcI c il tb t ty2 B fun ys=>setP (.ar m t (vspl xs lo ys (Nat.min ys.length (hi - lo)))) p v fun v'=>k (some (.o (.i (Nat.min ys.length (hi - lo):Nat)))) (tb.set id (.blk bt v'))
     | false=>none
    | _=>none) p v
   | _=>none
  | _,_=>none
 | _=>none
theorem LR.splice {α:Type} {R:α->List Value->Prop} {s:Nat} (hR:∀ x c,R x c->c.length=s) {xs ys:List α} {es fs:List Value} (h:LR R xs es) (k:LR R ys fs) {lo q:Nat}:LR R (splice xs lo ys q) (es.take (lo * s) ++ fs.take (q * s) ++ es.drop ((lo + q) * s)):=
 ((h.split hR lo).1.append (k.split hR q).1).append (h.split hR (lo + q)).2
theorem wCp_ok {β:Type} {k:Option IV->Tbl->Option β} {r:β} (hc:COk P c) (hF:Fr n a l) (hE:ER O ρ il l) (hG:GO c O) (hM:Gm O ρ tb w) {ty ty2:Nat} {A B:Operand} (ho:o.op=.call ⟨.builtin .copy,#[A,B],#[ty,ty2]⟩) (e:wCp c il tb k ty ty2 A B=some r) {v:IV} (hv:iopd c il A=some v):WOk P a o O ρ w (· ∈ idsV v) k r:=by
 unfold wCp at e
 split at e<;>first | (cases e;done) | skip
 rename_i el hd
 have torow:∀ {s id E lo hi:Nat} {t:Ty} {xs:List t.den} {u:Value} {h:Hd},c.Z el=some s->Nat.beq s t.size=true->tb[id]? = some (.row E t xs)->ρ[id]? = some h->a.eval A=u->Part t.size h.v lo hi u ->
   (srcI c il tb t ty2 B fun ys=>k (some (.o (.i (Nat.min ys.length (hi - lo):Nat)))) (tb.set id (.row E t (splice xs lo ys (Nat.min ys.length (hi - lo))))))=some r->WOk P a o O ρ w (· = id) k r:=by
  intro s id E lo hi t xs u h hz hs hb hρ hu hp e
  have hs:=Nat.eq_of_beq_eq_true hs
  subst hs
  obtain ⟨h',es,h7,h8,h9,h10,h11⟩:=hM.th _ _ hb
  rw [hρ] at h7;cases h7
  obtain ⟨ys,fs,d2,hk,hL,hu2,hd2,hlen,hfirst⟩:=srcI_ok hc hF hE hG hM e
  have hfl:=LR.length (fun _ _=>TR.length) hL
  have hcy:Nat.min ys.length (hi - lo)≤ys.length:=Nat.min_le_left ..
  have hch:Nat.min ys.length (hi - lo)≤hi - lo:=Nat.min_le_right ..
  have hff:=hfirst w rfl _ hcy
  have hLs:=h10.splice (fun _ _=>TR.length) hL (lo:=lo) (q:=Nat.min ys.length (hi - lo))
  have h11':=h11
  obtain ⟨hl11,hr11⟩:=h11'
  obtain ⟨b,nn,cp,b',cp',hv0,hu0,hlo,hhi,hor⟩:=hp
  subst hu0
  have hnn:nn=xs.length:=by
   obtain ⟨b2,c2,e2,_⟩:=h11.rd.shape
   rw [hv0] at e2;cases e2;rfl
  subst hnn
  have hfcl:(fs.take (Nat.min ys.length (hi - lo) * t.size)).length=Nat.min ys.length (hi - lo) * t.size:=by
   rw [List.length_take,hfl];exact Nat.min_eq_left (Nat.mul_le_mul_right _ hcy)
  have hspl:spl es (lo * t.size) (fs.take (Nat.min ys.length (hi - lo) * t.size))=es.take (lo * t.size) ++ fs.take (Nat.min ys.length (hi - lo) * t.size) ++ es.drop ((lo + Nat.min ys.length (hi - lo)) * t.size):=by
   simp only [spl,hfcl,Nat.add_mul]
  have hsl:(splice xs lo ys (Nat.min ys.length (hi - lo))).length=xs.length:=by
   simp only [splice,List.length_append,List.length_take,List.length_drop]
   generalize hq:Nat.min ys.length (hi - lo)=q at *
   omega
  have hle:lo * t.size + (fs.take (Nat.min ys.length (hi - lo) * t.size)).length≤es.length:=by
   rw [hfcl,hl11,← Nat.add_mul]
   exact Nat.mul_le_mul_right _ (by clear hr11 hor hv0 h9;omega)
  rcases hr11 with ⟨hnil,hn0⟩ | ⟨b2,cap,sp,hv5,hnc,hblk,hcap,hmax⟩
  ·
   have hx0:xs=[]:=List.eq_nil_of_length_eq_zero hn0
   subst hx0
   have hv0':=hv0
   rw [hnil] at hv0'
   injection hv0' with e1 e2 e3
   subst e1 e3
   simp only [List.length_nil] at hhi
   have hlo0:lo=0:=by omega
   have hhi0:hi=0:=by omega
   subst hlo0 hhi0
   have hc0:Nat.min ys.length (0 - 0)=0:=by simp
   have hf0:fs.take (Nat.min ys.length (0 - 0) * t.size)=[]:=by rw [hc0];simp
   rw [hf0] at hff
   have hrun:=run_copyG (P:=P) (w':=w) hc ho hd hz hu (hlen w) hff (fun ad _=>rfl) (fun _=>rfl)
   refine ⟨some (.o (.i (Nat.min ys.length (0 - 0):Nat))),.o (.i (Nat.min ys.length (0 - 0):Nat)),_,O,ρ,w,⟨⟨_,rfl,rfl,rfl⟩,hrun⟩,?_,.refl _ _ _ _,hk⟩
   have hid:=(List.getElem?_eq_some_iff.1 hb).1
   obtain ⟨g1,g2⟩:=hM.set (x':=.row E t (splice ([]:List t.den) 0 ys (Nat.min ys.length (0 - 0)))) hid (Kept.refl _ w) ⟨h,[],hρ,h8,h9,by rw [hc0];simp [splice];rfl,by rw [hc0];simp [splice],.inl ⟨hv0,by rw [hc0];simp [splice]⟩⟩
   exact g1
  ·rw [hv5] at hv0;cases hv0
   have hown:O b2=.th id:=h9 b2 (by rw [hv5];rfl)
   have hle2:lo * t.size + (fs.take (Nat.min ys.length (hi - lo) * t.size)).length≤(es ++ sp).length:=by rw [List.length_append];omega
   have hone:∀ u ∈ fs.take (Nat.min ys.length (hi - lo) * t.size),u.oneCell'=true:=fun u hu=>LR.one (fun _ _=>TR.one) hL u (List.mem_of_mem_take hu)
   have hst:=run_storeCells (P:=P) _ (lo * t.size) 0 (es ++ sp) w hblk (by simpa using hle2) hone
   simp only [Nat.add_zero] at hst
   have hst2:(storeCells ⟨b2,lo * t.size,none⟩ (fs.take (Nat.min ys.length (hi - lo) * t.size))).run P w=.ok () (w.setRow b2 (spl es (lo * t.size) (fs.take (Nat.min ys.length (hi - lo) * t.size)) ++ sp).toArray):=by
    rw [← spl_app hle];exact hst
   have hrun:(execOp a.eval o).run P w=.ok (.value (vI (Nat.min ys.length (hi - lo):Nat))) (w.setRow b2 (spl es (lo * t.size) (fs.take (Nat.min ys.length (hi - lo) * t.size)) ++ sp).toArray):=by
    refine run_copyG (P:=P) hc ho hd hz hu (hlen w) hff (fun ad hb'=>?_) (fun hb'=>?_)
    ·rcases hor with hor | ⟨ad',h1,h2,_⟩
     ·
      have hc0:Nat.min ys.length (hi - lo)=0:=by omega
      have hf0:fs.take (Nat.min ys.length (hi - lo) * t.size)=[]:=by rw [hc0];simp
      rw [hf0]
      have hid:w.setRow b2 (spl es (lo * t.size) [] ++ sp).toArray=w:=by
       obtain ⟨fz,h3,_⟩:=hblk
       have:spl es (lo * t.size) []=es:=by simp [spl]
       rw [this];exact setRow_self w b2 _ E fz h3
      rw [hid];rfl
     ·cases h1
      rw [hb'] at h2
      cases h2
      rw [add_zero _ rfl,Nat.zero_add];exact hst2
    ·have hc0:Nat.min ys.length (hi - lo)=0:=by
      rcases hor with hor | ⟨ad',_,h2,_⟩
      ·omega
      ·rw [hb'] at h2;cases h2
     have hf0:fs.take (Nat.min ys.length (hi - lo) * t.size)=[]:=by rw [hc0];simp
     rw [hf0]
     obtain ⟨fz,h3,_⟩:=hblk
     have:spl es (lo * t.size) []=es:=by simp [spl]
     rw [this];exact setRow_self w b2 _ E fz h3
   have hlen2:(spl es (lo * t.size) (fs.take (Nat.min ys.length (hi - lo) * t.size))).length=es.length:=spl_len hle
   rw [← hspl] at hLs
   obtain ⟨g1,g2⟩:=hM.set (x':=.row E t (splice xs lo ys (Nat.min ys.length (hi - lo)))) (List.getElem?_eq_some_iff.1 hb).1 ((kept_setRow b2 _).wide (fun b' e=>by subst e;exact hown))
    ⟨h,_,hρ,h8,h9,hLs,by rw [hlen2,hsl];exact hl11,.inr ⟨b2,_,sp,by rw [hv5,hsl],by rw [hsl];exact hnc,hblk.setRow (by simp [hlen2]),by rw [← hcap];simp [hlen2],hmax⟩⟩
   exact ⟨some (.o (.i (Nat.min ys.length (hi - lo):Nat))),.o (.i (Nat.min ys.length (hi - lo):Nat)),_,O,ρ,_,⟨⟨_,rfl,rfl,rfl⟩,hrun⟩,g1,g2,hk⟩
 split at e<;>first | (cases e;done) | skip
 ·rename_i s id hz hA
  rw [hv] at hA;cases hA
  split at e<;>first | (cases e;done) | skip
  rename_i E t xs hb
  split at e<;>first | (cases e;done) | skip
  rename_i hs
  obtain ⟨u,hu,⟨h,h12,h13,_⟩,_⟩:=iopd_1 hE hG hv rfl (by simp) hF
  cases h13
  rw [nth_eq] at hb
  have hp:Part t.size h.v 0 xs.length h.v:=by
   obtain ⟨h',es,h7,h8,h9,h10,h11⟩:=hM.th _ _ hb
   rw [h12] at h7;cases h7
   obtain ⟨b,cp,e2,hn,hcp⟩:=h11.rd.shape
   rw [e2]
   refine ⟨b,_,cp,b,cp,rfl,by simp,by omega,by omega,?_⟩
   by_cases h0:xs.length=0
   ·exact .inl h0
   ·refine .inr ?_
    cases b with
    | none=>exact absurd (hn rfl) h0
    | some ad=>exact ⟨ad,rfl,by rw [Nat.zero_mul];simp [Addr.add],by omega⟩
  have:=torow (lo:=0) (hi:=xs.length) hz hs hb h12 hu hp e
  obtain ⟨v,x,tb',O',ρ',w2,g1,g2,g3,g4⟩:=this
  exact ⟨v,x,tb',O',ρ',w2,g1,g2,g3.weak (fun i e=>by subst e;simp [idsV]),g4⟩
 ·rename_i s id lo hi hz hA
  rw [hv] at hA;cases hA
  split at e<;>first | (cases e;done) | skip
  rename_i E t xs hb
  split at e<;>first | (cases e;done) | skip
  rename_i hs
  obtain ⟨u,hu,⟨h,u',h12,h13,hp⟩,_⟩:=iopd_1 hE hG hv rfl (by simp) hF
  cases h13
  rw [nth_eq] at hb
  have hp':Part t.size h.v lo hi u:=by
   obtain ⟨h',es,h7,h8,_⟩:=hM.th _ _ hb
   rw [h12] at h7;cases h7
   rw [h8,Ty.sz_size] at hp;exact hp
  have:=torow hz hs hb h12 hu hp' e
  obtain ⟨v,x,tb',O',ρ',w2,g1,g2,g3,g4⟩:=this
  exact ⟨v,x,tb',O',ρ',w2,g1,g2,g3.weak (fun i e=>by subst e;simp [idsV]),g4⟩
 ·rename_i s id p lo hi hz hA
  rw [hv] at hA;cases hA
  split at e<;>first | (cases e;done) | skip
  rename_i bt v hb
  rw [nth_eq] at hb
  obtain ⟨u,hu,⟨h,off,m,z,h1,h2,h3,u',hcs,hp⟩,_⟩:=iopd_1 hE hG hv rfl (by simp) hF
  cases hcs
  obtain ⟨h',cs,h4,h5,h6,h7,h8⟩:=hM.th _ _ hb
  rw [h1] at h4;cases h4
  rw [h6] at h2 h3
  obtain ⟨q,hk,h9,h10,h11⟩:=getP_R e h7 h2
  split at hk<;>first | (cases hk;done) | skip
  rename_i m' t xs
  rw [h3] at h11;cases h11
  split at hk<;>first | (cases hk;done) | skip
  rename_i hs
  have hs:=Nat.eq_of_beq_eq_true hs
  subst hs
  rw [Ty.sz_size] at hp
  obtain ⟨ys,fs,d2,hk,hL,hu2,hd2,hlen,hfirst⟩:=srcI_ok hc hF hE hG hM hk
  have hfl:=LR.length (fun _ _=>TR.length) hL
  have hcy:Nat.min ys.length (hi - lo)≤ys.length:=Nat.min_le_left ..
  have hch:Nat.min ys.length (hi - lo)≤hi - lo:=Nat.min_le_right ..
  have hff:=hfirst w rfl _ hcy
  obtain ⟨b,nn,cp,b',cp',hv0,hu0,hlo,hhi,hor⟩:=hp
  cases hv0
  subst hu0
  simp only [IV.sz,Sz.size,Ty.sz_size] at h9 h10
  have h9':LR (TR O t) xs.toList ((cs.drop off).take (m * t.size)):=h9
  have hLs:=h9'.splice (fun _ _=>TR.length) hL (lo:=lo) (q:=Nat.min ys.length (hi - lo))
  have hfcl:(fs.take (Nat.min ys.length (hi - lo) * t.size)).length=Nat.min ys.length (hi - lo) * t.size:=by
   rw [List.length_take,hfl];exact Nat.min_eq_left (Nat.mul_le_mul_right _ hcy)
  have hb1:lo * t.size + Nat.min ys.length (hi - lo) * t.size≤m * t.size:=by
   rw [← Nat.add_mul];exact Nat.mul_le_mul_right _ (by omega)
  have hnew:R O ρ false (.ar m t (vspl xs lo ys (Nat.min ys.length (hi - lo)))) (spl ((cs.drop off).take (m * t.size)) (lo * t.size) (fs.take (Nat.min ys.length (hi - lo) * t.size))):=by
   show LR _ _ _
   rw [vspl_toList (by omega) hcy]
   simp only [spl,hfcl,← Nat.add_mul];exact hLs
  obtain ⟨v',hk,h12,h13,h14⟩:=setP_R hnew hk h7 h2
  have hml:((cs.drop off).take (m * t.size)).length=m * t.size:=by rw [List.length_take,List.length_drop];omega
  rw [spl_spl (by rw [hfcl];exact hb1) h10] at h12
  have hone:∀ u ∈ fs.take (Nat.min ys.length (hi - lo) * t.size),u.oneCell'=true:=fun u hu=>LR.one (fun _ _=>TR.one) hL u (List.mem_of_mem_take hu)
  have hle:off + lo * t.size + (fs.take (Nat.min ys.length (hi - lo) * t.size)).length≤cs.length:=by rw [hfcl];omega
  have hst:=run_storeCells (P:=P) _ (off + lo * t.size) 0 cs w h8 (by simpa using hle) hone
  simp only [Nat.add_zero] at hst
  have hrun:(execOp a.eval o).run P w=.ok (.value (vI (Nat.min ys.length (hi - lo):Nat))) (w.setRow h.b (spl cs (off + lo * t.size) (fs.take (Nat.min ys.length (hi - lo) * t.size))).toArray):=by
   have empty:Nat.min ys.length (hi - lo)=0->w.setRow h.b (spl cs (off + lo * t.size) (fs.take (Nat.min ys.length (hi - lo) * t.size))).toArray=w∧fs.take (Nat.min ys.length (hi - lo) * t.size)=[]:=fun h0=>by
    have hf0:fs.take (Nat.min ys.length (hi - lo) * t.size)=[]:=by rw [h0];simp
    refine ⟨?_,hf0⟩
    rw [hf0]
    obtain ⟨fz,hh,_⟩:=h8
    have:spl cs (off + lo * t.size) []=cs:=by simp [spl]
    rw [this];exact setRow_self w h.b _ bt fz hh
   refine run_copyG (P:=P) hc ho hd hz hu (hlen w) hff (fun ad hb'=>?_) (fun hb'=>?_)
   ·rcases hor with hor | ⟨ad',e1,e2,_⟩
    ·obtain ⟨e3,e4⟩:=empty (by omega)
     rw [e3,e4];rfl
    ·cases e1
     rw [hb'] at e2;cases e2
     rw [add_zero _ rfl];exact hst
   ·refine (empty ?_).1
    rcases hor with hor | ⟨ad',_,e2,_⟩
    ·omega
    ·rw [hb'] at e2;cases e2
  obtain ⟨g1,g2⟩:=hM.set (x':=.blk bt v') (List.getElem?_eq_some_iff.1 hb).1 ((kept_setRow h.b _).wide (fun b' e=>by subst e;exact h5))
   ⟨h,_,h1,h5,by rw [h6,h14],h12,h8.setRow (spl_len hle)⟩
  exact ⟨some (.o (.i (Nat.min ys.length (hi - lo):Nat))),.o (.i (Nat.min ys.length (hi - lo):Nat)),_,O,ρ,_,⟨⟨_,rfl,rfl,rfl⟩,hrun⟩,g1,g2.weak (fun i e=>by subst e;simp [idsV]),hk⟩
theorem rr_put {id E Ei q b cap:Nat} {t:Ty} {rows:List (Option (List t.den))} {out:List Nat} {xs xs':List t.den} {h:Hd} {cs cs' sp:List Value} (hM:Gm O ρ tb w) (hb:tb[id]? = some (.rr E Ei t rows out)) (h1:ρ[id]? = some h) (hq:rows[q]? = some (some xs)) (hv:h.ks[q]? = some (.slice (some ⟨b,0,none⟩) xs.length cap)) (hnc:xs.length≤cap)
  (hblk:Blk w b (cs ++ sp) Ei) (hcap:(cs ++ sp).length=cap * t.size) (hmax:cap≤maxLen) (hlen:cs'.length=cs.length) (hxl:xs'.length=xs.length) (hL:LR (TR O t) xs' cs') (hl5:cs.length=xs.length * t.size) :
  Gm O ρ (tb.set id (.rr E Ei t (rows.set q (some xs')) out)) (w.setRow b (cs' ++ sp).toArray)∧Stp (· = id) O ρ w O ρ (w.setRow b (cs' ++ sp).toArray):=by
 obtain ⟨h',es,h1',h2,h3,h5,h6,h8⟩:=hM.th _ _ hb
 rw [h1] at h1';cases h1'
 obtain ⟨v',c0,k1,k2,k3,_⟩:=h8.row q xs hq
 rw [hv] at k1;cases k1
 have hown:O b=.th id:=k2 b rfl
 have hoth:∀ b',b' ≠ b->(w.setRow b (cs' ++ sp).toArray).heap[b']? = w.heap[b']?:=fun b' hb'=>by
  have hk:=kept_setRow (w:=w) b (cs' ++ sp).toArray
  rcases Nat.lt_or_ge b' w.heap.size with hlt | hge
  ·exact hk.block b' hlt (fun e=>hb' e.symm)
  ·rw [Array.getElem?_eq_none (by simp [World.setRow];omega),Array.getElem?_eq_none hge]
 have hrow':Row (w.setRow b (cs' ++ sp).toArray) Ei t.size (.slice (some ⟨b,0,none⟩) xs.length cap) xs'.length cs':=
  ⟨by rw [hlen,hxl];exact hl5,.inr ⟨b,_,sp,by rw [hxl],by rw [hxl];exact hnc,hblk.setRow (by simp [hlen]),by rw [← hcap];simp [hlen],hmax⟩⟩
 have hal:∀ (k:Nat) (ys:List t.den),(rows.set q (some xs'))[k]? = some (some ys)->∃ zs,rows[k]? = some (some zs)∧(k ≠ q->ys=zs):=fun k ys hk=>by
  rw [List.getElem?_set] at hk
  split at hk
  ·rename_i hqk;subst hqk;exact ⟨xs,hq,fun h=>absurd rfl h⟩
  ·exact ⟨ys,hk,fun _=>rfl⟩
 exact hM.set (x':=.rr E Ei t (rows.set q (some xs')) out) (List.getElem?_eq_some_iff.1 hb).1 ((kept_setRow b (cs' ++ sp).toArray).wide (fun b' e=>by subst e;exact hown))
  ⟨h,es,h1,h2,h3,Rs.same (r:=.row E 1 h.v out.length es) (fun b' hbb=>hoth b' (fun e=>by subst e;exact h8.out q xs _ _ hq hv rfl hbb)) h5,h6,⟨by rw [List.length_set];exact h8.len,fun k ys hk=>by
   by_cases hkq:k=q
   ·subst hkq
    have hql:k < rows.length:=(List.getElem?_eq_some_iff.1 hq).1
    rw [List.getElem?_set_self hql] at hk
    cases hk
    exact ⟨_,_,hv,k2,hL,hrow'⟩
   ·obtain ⟨zs,hz1,hz2⟩:=hal k ys hk
    rw [hz2 hkq]
    obtain ⟨v2,c2,m1,m2,m3,m4⟩:=h8.row k zs hz1
    exact ⟨v2,c2,m1,m2,m3,Rs.same (r:=.row Ei t.size v2 zs.length c2) (fun b' hbb=>hoth b' (fun e=>by subst e;exact hkq (h8.apart k zs q xs v2 _ _ hz1 hq m1 hv hbb rfl))) m4⟩,
   fun k ys k' ys' v1 v2 b' hk hk' e1 e2 n1 n2=>by
    obtain ⟨zs,hz1,_⟩:=hal k ys hk
    obtain ⟨zs',hz1',_⟩:=hal k' ys' hk'
    exact h8.apart k zs k' zs' v1 v2 b' hz1 hz1' e1 e2 n1 n2,
   fun k ys v1 b' hk e1 n1=>by
    obtain ⟨zs,hz1,_⟩:=hal k ys hk
    exact h8.out k zs v1 b' hz1 e1 n1,h8.sl⟩⟩
def wCpX {β:Type} (c:Cfg) (il:IEnv) (tb:Tbl) (k:Option IV->Tbl->Option β) (ty ty2 id q:Nat) (B:Operand):Option β:=
 match c.D ty with
 | some (.slice e)=>match c.Z e,nth tb id with
  | some s,some (.rr E Ei t rows out)=>match Nat.beq s t.size with
   | true=>(rxG rows q).bind fun xs=>srcI c il tb t ty2 B fun ys=>k (some (.o (.i (Nat.min ys.length xs.length:Nat)))) (tb.set id (.rr E Ei t (rows.set q (some (splice xs 0 ys (Nat.min ys.length xs.length)))) out))
   | false=>none
  | _,_=>none
 | _=>none
theorem wCpX_ok {β:Type} {k:Option IV->Tbl->Option β} {r:β} (hc:COk P c) (hF:Fr n a l) (hE:ER O ρ il l) (hG:GO c O) (hM:Gm O ρ tb w) {ty ty2 id q:Nat} {A B:Operand} (ho:o.op=.call ⟨.builtin .copy,#[A,B],#[ty,ty2]⟩) (hA:iopd c il A=some (.rx id q)) (e:wCpX c il tb k ty ty2 id q B=some r):WOk P a o O ρ w (· = id) k r:=by
 unfold wCpX at e
 split at e<;>first | (cases e;done) | skip
 rename_i el hd
 split at e<;>first | (cases e;done) | skip
 rename_i s E Ei t rows out hz hb
 split at e<;>first | (cases e;done) | skip
 rename_i hs
 have hs:=Nat.eq_of_beq_eq_true hs
 subst hs
 rw [nth_eq] at hb
 obtain ⟨xs,hxs,e⟩:=bindS e
 have hxs:=rxG_some hxs
 obtain ⟨h,es,h1,h2,h3,h5,h6,h8⟩:=hM.th _ _ hb
 obtain ⟨u,hu,⟨h',v,m1,m2,m3,m4⟩,_⟩:=iopd_1 hE hG hA rfl (by simp) hF
 cases m3
 rw [h1] at m1;cases m1
 obtain ⟨v2,cs,n1,n2,n3,n4⟩:=h8.row q xs hxs
 rw [m2] at n1;cases n1
 obtain ⟨ys,fs,d2,hk,hL,hu2,hd2,hlen,hfirst⟩:=srcI_ok hc hF hE hG hM e
 have hfl:=LR.length (fun _ _=>TR.length) hL
 obtain ⟨m,hm⟩:∃ m,m=Nat.min ys.length xs.length:=⟨_,rfl⟩
 have hcy:m≤ys.length:=hm ▸ Nat.min_le_left ..
 have hch:m≤xs.length:=hm ▸ Nat.min_le_right ..
 rw [← hm] at hk
 have hff:=hfirst w rfl m hcy
 have hLs:=n3.splice (fun _ _=>TR.length) hL (lo:=0) (q:=m)
 obtain ⟨hl5,hr5⟩:=n4
 have hfcl:(fs.take (m * t.size)).length=m * t.size:=by
  rw [List.length_take,hfl];exact Nat.min_eq_left (Nat.mul_le_mul_right _ hcy)
 have hspl:spl cs 0 (fs.take (m * t.size))=cs.take (0 * t.size) ++ fs.take (m * t.size) ++ cs.drop ((0 + m) * t.size):=by
  simp only [spl,hfcl,Nat.zero_mul,Nat.zero_add]
 have hsl:(splice xs 0 ys m).length=xs.length:=by
  simp only [splice,List.length_append,List.length_take,List.length_drop];omega
 have hle:0 + (fs.take (m * t.size)).length≤cs.length:=by
  rw [hfcl,hl5,Nat.zero_add];exact Nat.mul_le_mul_right _ hch
 rcases hr5 with ⟨hnil,hn0⟩ | ⟨b2,cap,sp,hv5,hnc,hblk,hcap,hmax⟩
 ·have hx0:xs=[]:=List.eq_nil_of_length_eq_zero hn0
  subst hx0
  subst hnil
  have hm0:m=0:=by simp at hch;exact hch
  subst hm0
  have hf0:fs.take (0 * t.size)=[]:=by simp
  rw [hf0] at hff
  have hrun:=run_copyG (P:=P) (w':=w) (m:=0) hc ho hd hz hu (hlen w) (by rw [show Nat.min ys.length 0=0 from by simp];exact hff) (fun ad _=>rfl) (fun _=>rfl)
  rw [show Nat.min ys.length 0=0 from by simp] at hrun
  have hrows:rows.set q (some (splice [] 0 ys 0))=rows:=by
   have:(splice ([]:List t.den) 0 ys 0)=[]:=by simp [splice]
   rw [this]
   apply List.ext_getElem?
   intro i
   rw [List.getElem?_set]
   split
   ·rename_i hqi;subst hqi
    split
    ·exact hxs.symm
    ·rename_i hn;exact absurd (List.getElem?_eq_some_iff.1 hxs).1 hn
   ·rfl
  rw [hrows] at hk
  have htb:tb.set id (.rr E Ei t rows out)=tb:=by
   apply List.ext_getElem?
   intro i
   rw [List.getElem?_set]
   split
   ·rename_i hqi;subst hqi
    split
    ·exact hb.symm
    ·rename_i hn;exact absurd (List.getElem?_eq_some_iff.1 hb).1 hn
   ·rfl
  rw [htb] at hk
  exact ⟨some (.o (.i (0:Nat))),.o (.i (0:Nat)),tb,O,ρ,w,⟨⟨_,rfl,rfl,rfl⟩,hrun⟩,hM,.refl _ _ _ _,hk⟩
 ·subst hv5
  have hone:∀ u ∈ fs.take (m * t.size),u.oneCell'=true:=fun u hu=>LR.one (fun _ _=>TR.one) hL u (List.mem_of_mem_take hu)
  have hst:=run_storeCells (P:=P) _ 0 0 (cs ++ sp) w hblk (by rw [List.length_append];omega) hone
  simp only [Nat.add_zero] at hst
  have hst2:(storeCells ⟨b2,0,none⟩ (fs.take (m * t.size))).run P w=.ok () (w.setRow b2 (spl cs 0 (fs.take (m * t.size)) ++ sp).toArray):=by
   rw [← spl_app (by omega)];exact hst
  have hrun:=run_copyG (P:=P) (m:=xs.length) (w':=w.setRow b2 (spl cs 0 (fs.take (m * t.size)) ++ sp).toArray) hc ho hd hz hu (hlen w) (by rw [← hm];exact hff) (fun ad hb'=>by cases hb';exact hst2) (fun hb'=>by cases hb')
  rw [← hm] at hrun
  rw [← hspl] at hLs
  obtain ⟨g1,g2⟩:=rr_put (xs':=splice xs 0 ys m) (cs':=spl cs 0 (fs.take (m * t.size))) hM hb h1 hxs m2 hnc hblk hcap hmax (spl_len hle) hsl hLs hl5
  exact ⟨some (.o (.i (m:Nat))),.o (.i (m:Nat)),_,O,ρ,_,⟨⟨_,rfl,rfl,rfl⟩,hrun⟩,g1,g2,hk⟩
theorem Gm.mark {w':World} {b:Nat} {all:List Value} (hM:Gm O ρ tb w) (hO:O b=.im all) (hs:w'.heap.size=w.heap.size) (hoth:∀ b',b' ≠ b->w'.heap[b']? = w.heap[b']?) (hb:∃ ty fz,w'.heap[b]? = some (.cells all.toArray ty fz)):Gm O ρ tb w':=by
 refine ⟨fun b' all' e=>?_,fun b' h=>hM.lt b' (hs ▸ h),hM.len,fun j x hx=>?_⟩
 ·by_cases h:b'=b
  ·subst h;rw [hO] at e;cases e;exact hb
  ·rw [hoth b' h];exact hM.im b' all' e
 ·have old:=hM.th j x hx
  cases x with
  | blk ty v=>
   obtain ⟨h,cs,h3,h4,h5,h6,h7⟩:=old
   exact ⟨h,cs,h3,h4,h5,h6,h7.same (hoth _ (fun e=>by rw [e,hO] at h4;cases h4))⟩
  | row E t xs=>
   obtain ⟨h,es,h3,h4,h5,h6,h7⟩:=old
   exact ⟨h,es,h3,h4,h5,h6,Rs.same (r:=.row E t.size h.v xs.length es) (fun b' hbb=>hoth _ (fun e=>by have:=h5 b' hbb;rw [e,hO] at this;cases this)) h7⟩
  | fz t xs=>exact old
  | no=>trivial
  | mk=>
   obtain ⟨h,h3,h4,h5⟩:=old
   exact ⟨h,h3,h4,by rw [hoth _ (fun e=>by rw [e,hO] at h4;cases h4)];exact h5⟩
  | mp kt vt l=>
   obtain ⟨h,es,h3,h4,h5,h6⟩:=old
   exact ⟨h,es,h3,h4,by rw [hoth _ (fun e=>by rw [e,hO] at h4;cases h4)];exact h5,h6⟩
  | it n seen=>
   obtain ⟨h,h3,h4,bm,h5,h7⟩:=old
   exact ⟨h,h3,h4,bm,h5,by rw [hoth _ (fun e=>by rw [e,hO] at h4;cases h4)];exact h7⟩
  | rr E Ei t rows out=>
   obtain ⟨h,es,h3,h4,h5,h6,h7,h8⟩:=old
   have hs:∀ b',O b'=.th j->O b'=.th j∧w'.heap[b']? = w.heap[b']?:=fun b' hb'=>⟨hb',hoth _ (fun e=>by rw [e,hO] at hb';cases hb')⟩
   exact ⟨h,es,h3,h4,h5,Rs.same (r:=.row E 1 h.v out.length es) (fun b' hbb=>(hs b' (h5 b' hbb)).2) h6,h7,h8.frame (fun _ _ h=>h) hs⟩
def wS2S {β:Type} (c:Cfg) (il:IEnv) (tb:Tbl) (k:Option IV->Tbl->Option β) (src dst:Nat) (x:Operand):Option β:=
 match c.D src,Nat.beq src dst,iopd c il x with
 | some (.slice e),true,some (.rw id)=>match c.D e,nth tb id with
  | some (.int .u8),some (.row E t xs)=>match xs with
   | []=>none
   | x :: xs=>k (some (.rw id)) (tb.set id (.fz t (x :: xs)))
  | _,_=>none
 | _,_,_=>none
theorem wS2S_ok {β:Type} {k:Option IV->Tbl->Option β} {r:β} (hc:COk P c) (hF:Fr n a l) (hE:ER O ρ il l) (hG:GO c O) (hM:Gm O ρ tb w) {src dst:Nat} {x:Operand} (ho:o.op=.convert src dst x) (e:wS2S c il tb k src dst x=some r) {v:IV} (hv:iopd c il x=some v):WOk P a o O ρ w (· ∈ idsV v) k r:=by
 unfold wS2S at e
 split at e<;>first | (cases e;done) | skip
 rename_i el id hd hsd hx
 have hsd:=Nat.eq_of_beq_eq_true hsd
 subst hsd
 rw [hv] at hx;cases hx
 split at e<;>first | (cases e;done) | skip
 rename_i E t xs he hb
 split at e<;>first | (cases e;done) | skip
 rename_i x0 xs
 rw [nth_eq] at hb
 obtain ⟨sv,hy,hSR⟩:=iopd_ok hE hG hv
 have hSR0:=hSR
 obtain ⟨y0,rfl,u,rfl,hR⟩:=hSR
 have hu:a.eval x=u:=opd_val hF hy
 obtain ⟨O',h,h1,g1,g2,g3,g4,g5⟩:=hM.frz hb
 obtain ⟨h',es,h1',h2,h3,h4,h5⟩:=hM.th _ _ hb
 rw [h1] at h1';cases h1'
 have hR':=hR
 obtain ⟨h'',k1,k2,_⟩:=hR'
 rw [h1] at k1;cases k1
 simp only [List.cons.injEq,and_true] at k2
 obtain ⟨hl,h6⟩:=h5
 rcases h6 with ⟨_,h0⟩ | ⟨b,cap,sp,hv',hnc,⟨fz,hh,hfz⟩,hcap,hmx⟩
 ·simp at h0
 have hblt:b < w.heap.size:=(Array.getElem?_eq_some_iff.1 hh).1
 have hshape:w.shape? b=some (E,(es ++ sp).length):=by simp [World.shape?,hh]
 have hOb:O' b=.im (es ++ sp):=by
  obtain ⟨u2,es2,e1,e2,e3⟩:=g3
  simp only [List.cons.injEq,and_true] at e1
  subst e1
  rcases e3 with ⟨e3,_⟩ | ⟨b2,off,cp,e3,_,all,e4,_⟩
  ·simp at e3
  ·rw [hv'] at e3;cases e3
   obtain ⟨ty2,fz2,hh2⟩:=g1.im b all e4
   rw [hh] at hh2
   injection hh2 with hh2
   injection hh2 with hh2
   rw [e4];simpa using (congrArg Array.toList hh2).symm
 have hfr:∀ m:Nat,∃ fz',(w.freeze ⟨b,m,none⟩ 1).heap=w.heap.modify b (fun _=>.cells (es ++ sp).toArray E fz'):=fun m=>by
  refine ⟨if fz.1 == fz.2 then (m,m + 1) else (min fz.1 m,max fz.2 (m + 1)),?_⟩
  unfold World.freeze
  rw [if_neg (by decide)]
  apply Array.ext
  ·simp
  ·intro i h1 h2
   simp only [Array.getElem_modify]
   by_cases hi:b=i
   ·subst hi
    have:w.heap[b]'hblt=.cells (es ++ sp).toArray E fz:=by
     rw [Array.getElem?_eq_getElem hblt] at hh;injection hh
    simp [this]
   ·simp [hi]
 obtain ⟨fz',hfr⟩:=hfr (es ++ sp).length
 have hrun:(execOp a.eval o).run P w=.ok (.value (SV.o (.v u)).val) (w.freeze ⟨b,(es ++ sp).length,none⟩ 1):=by
  simp only [execOp,ho,hu]
  have hyv:(SV.o (.v u)).val=u:=rfl
  rw [hyv,k2,hv']
  have:(convert src src (.slice (some ⟨b,0,none⟩) (x0 :: xs).length cap)).run P w=.ok (.slice (some ⟨b,0,none⟩) (x0 :: xs).length cap) (w.freeze ⟨b,(es ++ sp).length,none⟩ 1):=by
   simp [convert,run_underlying (hc.tok.desc _ _ hd),run_underlying (hc.tok.desc _ _ he),markStringish,hshape]
  simp only [Sem.run_bind,this,Result.andThen_ok]
  rfl
 have hoth:∀ b',b' ≠ b->(w.freeze ⟨b,(es ++ sp).length,none⟩ 1).heap[b']? = w.heap[b']?:=fun b' hb'=>by
  rw [hfr,Array.getElem?_modify];simp [Ne.symm hb']
 refine ⟨some (.rw id),.o (.v u),_,O',ρ,_,⟨SR.mono g2.im g2.pre hSR0,hrun⟩,g1.mark hOb (by rw [hfr];simp) hoth ⟨E,fz',by rw [hfr,Array.getElem?_modify];simp [hh]⟩,?_,e⟩
 ·refine ⟨g2.pre,g2.im,g2.no,fun b' j hb' ho' hn=>g2.own b' j hb' ho' (fun e=>hn (by subst e;simp [idsV])),⟨rfl,rfl,rfl,by rw [hfr];simp,fun b' hb' hn=>hoth b' (fun e=>hn ⟨id,by simp [idsV],by rw [e];exact h3 b (by rw [hv'];rfl)⟩)⟩⟩
def wConv {β:Type} (c:Cfg) (il:IEnv) (tb:Tbl) (k:Option IV->Tbl->Option β) (src dst:Nat) (x:Operand):Option β:=
 match c.D src with
 | some (.slice _)=>wS2S c il tb k src dst x
 | _=>wS2B c il tb k src dst x
def wRg {β:Type} (c:Cfg) (il:IEnv) (tb:Tbl) (k:Option IV->Tbl->Option β) (t:Nat) (x:Operand):Option β:=
 match c.M t,iopd c il x with
 | some _,some (.mp id)=>match nth tb id with
  | some (.mp _ _ l)=>k (some (.it tb.length id)) (tb ++ [.it l.length []])
  | _=>none
 | _,_=>none
theorem MR.len {kt vt:Ty}:∀ {q:Nat} {l:List (kt.den×vt.den)} {es:List MapEntry},MR O kt vt q l es->es.length=l.length
 | _,[],_,h=>by simp only [MR] at h;subst h;rfl
 | q,(_,_) :: l,_,⟨e,r,h1,_,_,_,h5⟩=>by subst h1;simp [MR.len h5]
theorem MR.at {kt vt:Ty}:∀ {q:Nat} {l:List (kt.den×vt.den)} {es:List MapEntry} {j:Nat} {x:kt.den×vt.den},MR O kt vt q l es->l[j]? = some x->∃ e,es[j]? = some e∧e.born=q + j∧TR O kt x.1 [e.key]∧VR O vt x.2 e.val
 | _,[],_,j,x,_,hx=>by simp at hx
 | q,(a,b) :: l,_,0,x,⟨e,r,h1,h2,h3,h4,_⟩,hx=>by simp at hx;subst hx;subst h1;exact ⟨e,rfl,h2,h3,h4⟩
 | q,(a,b) :: l,_,j + 1,x,⟨e,r,h1,_,_,_,h5⟩,hx=>by
  subst h1
  obtain ⟨e2,g1,g2,g3⟩:=MR.at h5 (by simpa using hx)
  exact ⟨e2,by simpa using g1,by omega,g3⟩
theorem MR.born {kt vt:Ty} {q:Nat} {l:List (kt.den×vt.den)} {es:List MapEntry} (h:MR O kt vt q l es) {j:Nat} {e:MapEntry} (he:es[j]? = some e):e.born=q + j:=by
 have hl:j < l.length:=by rw [← h.len];exact (List.getElem?_eq_some_iff.1 he).1
 obtain ⟨e2,g1,g2,_⟩:=h.at (List.getElem?_eq_getElem hl)
 rw [he] at g1;cases g1;exact g2
theorem MR.nodup {kt vt:Ty} {q:Nat} {l:List (kt.den×vt.den)} {es:List MapEntry} (h:MR O kt vt q l es):(es.map (·.born)).Nodup:=by
 have:es.map (·.born)=List.range' q es.length:=by
  apply List.ext_getElem?
  intro i
  rw [List.getElem?_map]
  rcases Nat.lt_or_ge i es.length with hi | hi
  ·rw [List.getElem?_eq_getElem hi,List.getElem?_range' (by omega)]
   simp only [Option.map_some,Option.some.injEq]
   rw [h.born (List.getElem?_eq_getElem hi)];omega
  ·rw [List.getElem?_eq_none hi,List.getElem?_eq_none (by simpa using hi)];rfl
 rw [this];exact List.nodup_range'
theorem wRg_ok {β:Type} {k:Option IV->Tbl->Option β} {r:β} (hc:COk P c) (hF:Fr n a l) (hE:ER O ρ il l) (hG:GO c O) (hM:Gm O ρ tb w) {t:Nat} {x:Operand} (ho:o.op=.range t x) (e:wRg c il tb k t x=some r):WOk P a o O ρ w (fun _=>False) k r:=by
 unfold wRg at e
 split at e<;>first | (cases e;done) | skip
 rename_i p id hp hx
 obtain ⟨p1,p2⟩:=p
 split at e<;>first | (cases e;done) | skip
 rename_i kt vt l hb
 rw [nth_eq] at hb
 obtain ⟨h,es,h1,h2,h3,h4⟩:=hM.th _ _ hb
 obtain ⟨kk,ee,d,z,g1,_⟩:=hc.maps _ _ _ hp
 obtain ⟨u,hu,⟨h',h6,h7⟩,_⟩:=iopd_1 hE hG hx rfl (by simp) hF
 cases h7
 rw [h1] at h6;cases h6
 have hsz:es.size=l.length:=by rw [← h4.len];simp
 have hrun:(execOp a.eval o).run P w=.ok (.value (.pointer (some ⟨w.heap.size,0,none⟩))) (w.alloc (.mapIter (some h.b) es.size #[] es.size)):=by
  simp [execOp,ho,hu,run_range_map w _ _ _ h.b es es.size g1 h3]
 have hat:(ρ ++ [(⟨w.heap.size,.one,.map (some h.b),[]⟩:Hd)])[tb.length]? = some ⟨w.heap.size,.one,.map (some h.b),[]⟩:=by rw [← hM.len];simp
 obtain ⟨q1,q2⟩:=hM.new (h:=⟨w.heap.size,.one,.map (some h.b),[]⟩) (x:=.it l.length []) (w':=w.alloc (.mapIter (some h.b) es.size #[] es.size)) (Nat.beq w.heap.size) ⟨rfl,rfl,rfl,by show w.heap.size≤(w.heap.push _).size;simp,fun b hb' _=>by
   rw [@heap_alloc_old w _ b hb']⟩ (fun b hbb=>by have:=Nat.eq_of_beq_eq_true hbb;subst this;exact ⟨Nat.le_refl _,by show w.heap.size < (w.heap.push _).size;simp⟩)
  ⟨_,hat,by simp,h.b,rfl,by rw [heap_alloc_new];simp [hsz]⟩
 exact ⟨some (.it tb.length id),.o (.v (vP w.heap.size 0)),_,_,_,_,⟨.of_S0 (v:=.it tb.length id) ⟨_,rfl,_,_,hat,app_at _ h1,rfl,rfl⟩,hrun⟩,q1,q2,e⟩
def gsame (n m:Nat):Option Unit:=if n=m then some () else none
theorem gsame_some {n m:Nat} {u:Unit} (h:gsame n m=some u):n=m:=by
 unfold gsame at h;split at h
 ·assumption
 ·cases h
def wEn {β:Type} (c:Cfg) (il:IEnv) (tb:Tbl) (k:Option IV->Tbl->Option β) (x:Operand):Option β:=
 match iopd c il x with
 | some (.it id mid)=>match nth tb id,nth tb mid with
  | some (.it n seen),some (.mp kt vt l)=>match seen,kt.agg with
   | q :: _,false=>(gsame n l.length).bind fun _=>(l[q]?).bind fun e=>k (some (.tu (.pr (ofP kt e.1) (.pr (ofP vt e.2) .un)))) tb
   | _,_=>none
  | _,_=>none
 | _=>none
theorem VR.S0 {t:Ty} {x:t.den} {v:Value} (h:VR O t x v):∃ y:S0,y.val=v∧S0R O ρ (ofP t x) y:=by
 unfold VR at h
 cases e:t.agg with
 | true=>
  rw [e] at h
  obtain ⟨cs,rfl,hT⟩:=h
  exact ⟨.v (.agg cs.toArray),rfl,S0R.of_agg (by rw [ofP_agg,e]) (ofP_R hT)⟩
 | false=>
  rw [e] at h
  have hR:=ofP_R (ρ:=ρ) h
  by_cases ho:∃ y,ofP t x=.o y
  ·obtain ⟨y,hy⟩:=ho
   rw [hy] at hR ⊢
   obtain ⟨h1,h2⟩:=hR
   cases h1
   exact ⟨y,rfl,rfl,h2⟩
  ·refine ⟨.v v,rfl,?_⟩
   cases t<;>simp only [Ty.agg] at e<;>first | (cases e;done) | (exact absurd ⟨_,rfl⟩ ho) | exact ⟨v,rfl,hR⟩
theorem wEn_ok {β:Type} {k:Option IV->Tbl->Option β} {r:β} (hc:COk P c) (hF:Fr n a l) (hE:ER O ρ il l) (hG:GO c O) (hM:Gm O ρ tb w) {x:Operand} (ho:o.op=.entry x) (e:wEn c il tb k x=some r):WOk P a o O ρ w (fun _=>False) k r:=by
 unfold wEn at e
 split at e<;>first | (cases e;done) | skip
 rename_i id mid hx
 split at e<;>first | (cases e;done) | skip
 rename_i n0 seen kt vt l hb1 hb2
 split at e<;>first | (cases e;done) | skip
 rename_i q seen hkt
 obtain ⟨_,hs,e⟩:=bindS e
 have hs:=gsame_some hs
 obtain ⟨y,hy,e⟩:=bindS e
 rw [nth_eq] at hb1 hb2
 obtain ⟨h,h3,h4,bm,h5,h7⟩:=hM.th _ _ hb1
 obtain ⟨hm,es,g1,g2,g3,g4⟩:=hM.th _ _ hb2
 obtain ⟨u,hu,⟨h',hm',k1,k2,k3,k4⟩,_⟩:=iopd_1 hE hG hx rfl (by simp) hF
 cases k4
 rw [h3] at k1;cases k1
 rw [g1] at k2;cases k2
 rw [h5] at k3;cases k3
 obtain ⟨ent,m1,m2,m3,m4⟩:=g4.at hy
 have m2:ent.born=q:=by omega
 have hsz:es.size=n0:=by rw [hs,← g4.len];simp
 have hrun:(execOp a.eval o).run P w=.ok (.value (.tuple #[ent.key,ent.val])) w:=by
  have hr:w.heap[h.b]? = some (.mapIter (some hm.b) n0 (seen.reverse.toArray.push ent.born) es.size):=by rw [h7,m2,hsz];simp
  have:=run_entry_at (P:=P) w h.b hm.b n0 seen.reverse.toArray es es.size ent hr g3 (List.mem_of_getElem? m1) g4.nodup
  simp [execOp,ho,hu,this]
 obtain ⟨y1,p1,p2⟩:=VR.S0 (ρ:=ρ) m4
 obtain ⟨y0,r1,r2⟩:=VR.S0 (ρ:=ρ) (show VR O kt y.1 ent.key by unfold VR;rw [hkt];exact m3)
 refine ⟨some (.tu (.pr (ofP kt y.1) (.pr (ofP vt y.2) .un))),.t [y0,y1],tb,O,ρ,w,⟨⟨_,rfl,y0,_,rfl,r2,y1,_,rfl,p2,rfl⟩,?_⟩,hM,.refl _ _ _ _,e⟩
 rw [hrun];simp [SV.val,r1,p1]
def wStX {β:Type} (c:Cfg) (il:IEnv) (tb:Tbl) (k:Option IV->Tbl->Option β) (t:Nat) (x y:Operand):Option β:=
 match iopd c il x,iopd c il y with
 | some (.el id j []),some (.rw id2)=>match nth tb id with
  | some (.rr _ _ _ _ _)=>wStR c tb k t id j id2
  | some (.row _ _ _)=>wStF c tb k t id j id2
  | _=>none
 | some _,_=>wSt c il tb k t x y
 | none,_=>none
def rOf (c:Cfg) (ty:Nat):Option (Nat×Nat×Ty):=
 match c.D ty with
 | some (.slice e)=>match c.R e with
  | some p=>some (e,p.1,p.2)
  | none=>none
 | _=>none
theorem rOf_some {ty:Nat} {p:Nat×Nat×Ty} (h:rOf c ty=some p):c.D ty=some (.slice p.1)∧c.R p.1=some (p.2.1,p.2.2):=by
 unfold rOf at h
 split at h<;>first | (cases h;done) | skip
 rename_i e hd
 split at h<;>first | (cases h;done) | skip
 rename_i q hq
 cases h;exact ⟨hd,hq⟩
def wAppA {β:Type} (c:Cfg) (il:IEnv) (tb:Tbl) (k:Option IV->Tbl->Option β) (ty ty2:Nat) (A B:Operand):Option β:=
 match rOf c ty with
 | some p=>wAppR c il tb k ty ty2 A B p.1 p.2.1 p.2.2
 | none=>match iopd c il A with
  | some (.rx id q)=>wAppX c il tb k ty ty2 id q B
  | some _=>wApp c il tb k ty ty2 A B
  | none=>none
def wCpA {β:Type} (c:Cfg) (il:IEnv) (tb:Tbl) (k:Option IV->Tbl->Option β) (ty ty2:Nat) (A B:Operand):Option β:=
 match iopd c il A with
 | some (.rx id q)=>wCpX c il tb k ty ty2 id q B
 | some _=>wCp c il tb k ty ty2 A B
 | none=>none
def wOp {β:Type} (c:Cfg) (il:IEnv) (tb:Tbl) (k:Option IV->Tbl->Option β):Op->Option β
 | .alloc t=>wAl c tb k t
 | .box t x=>wBox c il tb k t x
 | .store t x y=>wStX c il tb k t x y
 | .makeSlice t x y=>wMkR c il tb k t x y
 | .buildSlice t len ps=>wLitR c il tb k t len ps.toList
 | .convert src dst x=>wConv c il tb k src dst x
 | .call cl=>match cl.callee,cl.args.toList,cl.argTypes.toList with
  | .builtin .append,[A,B],[ty,ty2]=>wAppA c il tb k ty ty2 A B
  | .builtin .copy,[A,B],[ty,ty2]=>wCpA c il tb k ty ty2 A B
  | _,_,_=>none
 | .makeMap t h=>wMM c il tb k t h
 | .mapUpdate t m x y=>wMU c il tb k t m x y
 | .mapEntry t m x=>wME c il tb k t m x
 | .entryStore _ m x y=>wES c il tb k m x y
 | .range t x=>wRg c il tb k t x
 | .entry x=>wEn c il tb k x
 | _=>none
def wIds (c:Cfg) (il:IEnv):Op->List Nat
 | .buildSlice _ _ ps=>litIds c il ps.toList
 | .store t x y=>match iopd c il x,iopd c il y with
  | some (.el id _ []),some (.rw id2)=>[id,id2]
  | some v,_=>idsV v
  | none,_=>[]
 | .convert _ _ x=>match iopd c il x with
  | some v=>idsV v
  | none=>[]
 | .mapUpdate _ x _ _=>match iopd c il x with
  | some v=>idsV v
  | none=>[]
 | .mapEntry _ x _=>match iopd c il x with
  | some v=>idsV v
  | none=>[]
 | .entryStore _ x _ _=>match iopd c il x with
  | some v=>idsV v
  | none=>[]
 | .call cl=>match cl.args.toList,cl.argTypes.toList with
  | [A,B],[ty,_]=>match rOf c ty with
   | some _=>ids2 c il A B
   | none=>(match iopd c il A with
    | some v=>idsV v
    | none=>[])
  | A :: _,_=>(match iopd c il A with
   | some v=>idsV v
   | none=>[])
  | [],_=>[]
 | _=>[]
theorem WOk.weak {β:Type} {k:Option IV->Tbl->Option β} {r:β} {M M':Nat->Prop} (h:∀ i,M i->M' i) (H:WOk P a o O ρ w M k r):WOk P a o O ρ w M' k r:=by
 obtain ⟨v,x,tb',O',ρ',w2,g1,g2,g3,g4⟩:=H
 exact ⟨v,x,tb',O',ρ',w2,g1,g2,g3.weak h,g4⟩
theorem wOp_ok {β:Type} {k:Option IV->Tbl->Option β} {r:β} (hc:COk P c) (hF:Fr n a l) (hE:ER O ρ il l) (hG:GO c O) (hM:Gm O ρ tb w) (e:wOp c il tb k o.op=some r):WOk P a o O ρ w (· ∈ wIds c il o.op) k r:=by
 cases ho:o.op<;>rw [ho] at e<;>simp only [wOp] at e<;>first | (cases e;done) | skip
 case alloc t=>exact (wAl_ok hc hM ho e).weak (fun _ h=>h.elim)
 case box t x=>exact (wBox_ok hF hE hG hM ho e).weak (fun _ h=>h.elim)
 case store t x y=>
  unfold wStX at e
  split at e
  ·rename_i id j id2 hx hy
   have hid:wIds c il (.store t x y)=[id,id2]:=by simp only [wIds,hx,hy]
   rw [hid]
   split at e<;>first | (cases e;done) | skip
   ·exact (wStR_ok hc hF hE hG hM ho hx hy e).wk fun i hi=>by simpa using hi
   ·exact (wStF_ok hc hF hE hG hM ho hx hy e).wk fun i hi=>by simpa using hi
  ·rename_i v hx hn
   have hid:wIds c il (.store t x y)=idsV v:=by
    simp only [wIds]
    split
    ·rename_i h1 h2
     rw [hx] at h1
     simp only [Option.some.injEq] at h1
     exact absurd h1 (hn _ _ _ h2)
    ·rename_i h1 _;rw [hx] at h1;cases h1;rfl
    ·rename_i h1;rw [hx] at h1;cases h1
   rw [hid]
   exact wSt_ok hc hF hE hG hM ho e hx
  ·cases e
 case makeMap t h=>exact (wMM_ok hc hF hE hG hM ho e).weak (fun _ h=>h.elim)
 case mapUpdate t m x y=>
  cases hx:iopd c il m with
  | none=>exfalso;unfold wMU at e;simp only [hx] at e;split at e<;>first | (cases e;done) | (rename_i h _ _;cases h)
  | some v=>have:=wMU_ok hc hF hE hG hM ho e hx;simpa only [wIds,hx] using this
 case mapEntry t m x=>
  cases hx:iopd c il m with
  | none=>exfalso;unfold wME at e;simp only [hx] at e;split at e<;>first | (cases e;done) | (rename_i h _;cases h)
  | some v=>have:=wME_ok hc hF hE hG hM ho e hx;simpa only [wIds,hx] using this
 case entryStore t m x y=>
  cases hx:iopd c il m with
  | none=>exfalso;unfold wES at e;simp only [hx] at e;first | (cases e;done) | (split at e<;>first | (cases e;done) | (rename_i h _ _;cases h))
  | some v=>have:=wES_ok hc hF hE hG hM ho e hx;simpa only [wIds,hx] using this
 case range t x=>exact (wRg_ok hc hF hE hG hM ho e).weak (fun _ h=>h.elim)
 case entry x=>exact (wEn_ok hc hF hE hG hM ho e).weak (fun _ h=>h.elim)
 case makeSlice t x y=>exact (wMkR_ok hc hF hE hG hM ho e).weak (fun _ h=>h.elim)
 case buildSlice t len ps=>exact wLitR_ok hc hF hE hG hM ho e
 case convert src dst x=>
  unfold wConv at e
  split at e
  ·cases hx:iopd c il x with
   | none=>exfalso;unfold wS2S at e;simp only [hx] at e;split at e<;>first | (cases e;done) | (rename_i h;cases h)
   | some v=>have:=wS2S_ok hc hF hE hG hM ho e hx;simpa only [wIds,hx] using this
  ·exact (wS2B_ok hc hF hE hG hM ho e).weak (fun _ h=>h.elim)
 case call cl=>
  obtain ⟨callee,args,ts⟩:=cl
  simp only at e
  split at e<;>first | (cases e;done) | skip
  ·rename_i A B ty ty2 ha hts
   have ha:=arr_of_toList ha
   have hts:=arr_of_toList hts
   subst ha hts
   unfold wAppA at e
   split at e
   ·rename_i p hp
    obtain ⟨hp1,hp2⟩:=rOf_some hp
    have hid:wIds c il (.call ⟨.builtin .append,#[A,B],#[ty,ty2]⟩)=ids2 c il A B:=by simp only [wIds,hp]
    rw [hid]
    exact wAppR_ok hc hF hE hG hM ho hp1 hp2 e
   ·rename_i hp
    split at e<;>first | (cases e;done) | skip
    ·rename_i id q hx
     have hid:wIds c il (.call ⟨.builtin .append,#[A,B],#[ty,ty2]⟩)=[id]:=by simp only [wIds,hp,hx];rfl
     rw [hid]
     exact (wAppX_ok hc hF hE hG hM ho hx e).wk fun i hi=>by simp only [List.mem_singleton];exact hi
    ·rename_i v _ hx
     have hid:wIds c il (.call ⟨.builtin .append,#[A,B],#[ty,ty2]⟩)=idsV v:=by simp only [wIds,hp,hx]
     rw [hid]
     exact wApp_ok hc hF hE hG hM ho e hx
  ·rename_i A B ty ty2 ha hts
   have ha:=arr_of_toList ha
   have hts:=arr_of_toList hts
   subst ha hts
   have sub:∀ i v,iopd c il A=some v->i ∈ idsV v->i ∈ wIds c il (.call ⟨.builtin .copy,#[A,B],#[ty,ty2]⟩):=fun i v hx hi=>by
    simp only [wIds]
    split
    ·simp only [ids2,hx,List.mem_append];exact .inl hi
    ·simp only [hx];exact hi
   unfold wCpA at e
   split at e<;>first | (cases e;done) | skip
   ·rename_i id q hx
    exact (wCpX_ok hc hF hE hG hM ho hx e).wk fun i hi=>sub i _ hx (by simp only [idsV,List.mem_singleton];exact hi)
   ·rename_i v _ hx
    exact (wCp_ok hc hF hE hG hM ho e hx).wk fun i hi=>sub i _ hx hi
end
end Go.Tw
namespace Go.Tw
set_option linter.unusedSimpArgs false
set_option linter.unusedVariables false
inductive Sh where
 | i
 | u8
 | u32
 | u64
 | bo
 | str
 | ns
 | np
 | nf
 | ro (t:Ty)
 | rw (j:Nat)
 | rp (j:Nat)
 | pt (j:Nat) (p:List Nat)
 | ps (j n:Nat)
 | ap (j:Nat) (p:List Nat)
 | fn (f:Nat) (a c:Sh)
 | un
 | pr (a b:Sh)
 | ar (n:Nat) (t:Ty)
 | ud
 | re (t:Ty)
 | mp (j:Nat)
 | rx (j:Nat)
 | it (j jm:Nat)
 | u16
 | nn
 | rn (t:Ty)
abbrev Sh.den:Sh->Type
 | .i=>Int
 | .u8=>UInt8
 | .u32=>UInt32
 | .u64=>UInt64
 | .bo=>Bool
 | .str=>List UInt8
 | .ro t=>List t.den
 | .rp _=>Nat×Nat
 | .ap _ _=>Nat×Nat
 | .fn _ a c=>a.den×c.den
 | .pr a b=>a.den×b.den
 | .ar n t=>Vector t.den n
 | .re t=>t.den
 | .ns=>Unit
 | .np=>Unit
 | .nf=>Unit
 | .rw _=>Unit
 | .pt _ _=>Unit
 | .ps _ _=>Unit
 | .mp _=>Unit
 | .rx _=>Nat
 | .it _ _=>Unit
 | .u16=>UInt16
 | .nn=>Unit
 | .rn t=>List t.den
 | .un=>Unit
 | .ud=>Unit
def enc:(s:Sh)->s.den->IV
 | .i,x=>.o (.i x)
 | .u8,x=>.o (.u8 x)
 | .u32,x=>.o (.u32 x)
 | .u64,x=>.o (.u64 x)
 | .bo,x=>.o (.b x)
 | .str,x=>.o (.s x)
 | .ns,_=>.o (.v (.slice none 0 0))
 | .np,_=>.o (.v (.pointer none))
 | .nf,_=>.o (.v .nilFunc)
 | .ro t,x=>.ro t x
 | .rw j,_=>.rw j
 | .rp j,x=>.rp j x.1 x.2
 | .pt j p,_=>.pt j p
 | .ps j n,_=>.ps j n
 | .ap j p,x=>.ap j p x.1 x.2
 | .fn f a c,x=>.fn f (enc a x.1) (enc c x.2)
 | .un,_=>.un
 | .pr a b,x=>.pr (enc a x.1) (enc b x.2)
 | .ar n t,x=>.ar n t x
 | .ud,_=>.ud
 | .re t,x=>.re t x
 | .mp j,_=>.mp j
 | .rx j,k=>.rx j k
 | .it j jm,_=>.it j jm
 | .u16,x=>.o (.v (.int .u16 (x.toNat:Int)))
 | .nn,_=>.nn
 | .rn t,x=>.rn t x
inductive TSh where
 | blk (ty:TypeId) (s:Sh)
 | row (E:TypeId) (t:Ty)
 | fz (t:Ty)
 | no
 | mp (kt vt:Ty)
 | rr (E Ei:TypeId) (t:Ty)
 | it
abbrev TSh.den:TSh->Type
 | .blk _ s=>s.den
 | .row _ t=>List t.den
 | .fz t=>List t.den
 | .no=>Unit
 | .mp kt vt=>List (kt.den×vt.den)
 | .rr _ _ t=>List (Option (List t.den))×List Nat
 | .it=>Nat×List Nat
def encT:(s:TSh)->s.den->Thing
 | .blk ty s,x=>.blk ty (enc s x)
 | .row E t,x=>.row E t x
 | .fz t,x=>.fz t x
 | .no,_=>.no
 | .mp kt vt,x=>.mp kt vt x
 | .rr E Ei t,x=>.rr E Ei t x.1 x.2
 | .it,x=>.it x.1 x.2
abbrev dens:List Sh->Type
 | []=>Unit
 | s :: r=>s.den×dens r
abbrev tdens:List TSh->Type
 | []=>Unit
 | s :: r=>s.den×tdens r
def encs:(ss:List Sh)->dens ss->List IV
 | [],_=>[]
 | s :: r,x=>enc s x.1 :: encs r x.2
def encTs:(ss:List TSh)->tdens ss->Tbl
 | [],_=>[]
 | s :: r,x=>encT s x.1 :: encTs r x.2
theorem encs_len:∀ {ss:List Sh} {x:dens ss},(encs ss x).length=ss.length
 | [],_=>rfl
 | _ :: _,_=>by simp [encs,encs_len]
theorem encTs_len:∀ {ss:List TSh} {x:tdens ss},(encTs ss x).length=ss.length
 | [],_=>rfl
 | _ :: _,_=>by simp [encTs,encTs_len]
structure Un where
 bd:List Nat
 tb:Tbl
 lt:List Nat
def idx:List Nat->Nat->Option Nat
 | [],_=>none
 | x :: r,i=>match Nat.beq x i with
  | true=>some 0
  | false=>match idx r i with
   | some j=>some (j + 1)
   | none=>none
theorem idx_some:∀ {l:List Nat} {i j:Nat},idx l i=some j->l[j]? = some i
 | [],i,j,h=>by simp [idx] at h
 | x :: r,i,j,h=>by
  simp only [idx] at h
  split at h
  ·rename_i e;cases h;simp [Nat.eq_of_beq_eq_true e]
  ·split at h
   ·rename_i k hk;cases h;simpa using idx_some hk
   ·cases h
theorem idx_none:∀ {l:List Nat} {i:Nat},idx l i=none->i ∉ l
 | [],i,h=>by simp
 | x :: r,i,h=>by
  simp only [idx] at h
  split at h
  ·cases h
  ·rename_i e
   split at h
   ·cases h
   ·rename_i hn
    have:=idx_none hn
    simp only [List.mem_cons,not_or]
    exact ⟨fun hh=>by subst hh;simp at e,this⟩
theorem idx_of_get:∀ {l:List Nat} {i j:Nat},l.Nodup->l[j]? = some i->idx l i=some j
 | [],i,j,_,h=>by simp at h
 | x :: r,i,0,_,h=>by simp at h;subst h;simp [idx]
 | x :: r,i,j + 1,hn,h=>by
  simp at h
  rw [List.nodup_cons] at hn
  have hne:x ≠ i:=fun e=>hn.1 (by subst e;exact List.mem_of_getElem? h)
  have hb:Nat.beq x i=false:=by
   cases hb:Nat.beq x i with
   | false=>rfl
   | true=>exact absurd (Nat.eq_of_beq_eq_true hb) hne
  simp only [idx,hb,idx_of_get hn.2 h]
def bindU {β:Type} (j id:Nat) (u:Un) (k:Un->Option β):Option β:=
 match nth u.bd j with
 | some id'=>match Nat.beq id' id with
  | true=>k u
  | false=>none
 | none=>match Nat.beq j u.bd.length,idx u.bd id with
  | true,none=>match nth u.tb id with
   | some _=>k { u with bd:=u.bd ++ [id] }
   | none=>none
  | _,_=>none
def eqL:List Nat->List Nat->Bool
 | [],[]=>true
 | x :: r,y :: q=>Nat.beq x y && eqL r q
 | _,_=>false
theorem eqL_eq:∀ {a b:List Nat},eqL a b=true->a=b
 | [],[],_=>rfl
 | [],_ :: _,h=>by simp [eqL] at h
 | _ :: _,[],h=>by simp [eqL] at h
 | x :: r,y :: q,h=>by
  simp only [eqL,Bool.and_eq_true] at h
  rw [Nat.eq_of_beq_eq_true h.1,eqL_eq h.2]
def freeze {β:Type} (t:Ty) (id:Nat) (u:Un) (k:List t.den->Un->Option β):Option β:=
 match nth u.tb id with
 | some (.row _ t' xs)=>match castR (Ty.eq? t' t) xs,idx u.bd id with
  | some xs,none=>k xs { u with tb:=u.tb.set id (.fz t xs) }
  | _,_=>none
 | some (.fz t' xs)=>match castR (Ty.eq? t' t) xs with
  | some xs=>k xs u
  | none=>none
 | some (.rr _ _ t' rows out)=>match idx u.bd id with
  | none=>(mat rows out).bind fun xss=>match castR (Ty.eq? (.sl t') t) xss with
   | some xss=>k xss { u with tb:=u.tb.set id (.fz t xss) }
   | none=>none
  | some _=>none
 | _=>none
def uV {β:Type} (md:Bool) (ts:List TSh):(s:Sh)->IV->Un->(s.den->Un->Option β)->Option β
 | .i,v,u,k=>match v.asI with
  | some x=>k x u
  | none=>none
 | .u8,v,u,k=>match v.asU8 with
  | some x=>k x u
  | none=>none
 | .u32,v,u,k=>match v.asU32 with
  | some x=>k x u
  | none=>none
 | .u64,v,u,k=>match v.asU64 with
  | some x=>k x u
  | none=>none
 | .bo,v,u,k=>match v.asB with
  | some x=>k x u
  | none=>none
 | .str,v,u,k=>match v.asS with
  | some x=>k x u
  | none=>none
 | .ns,v,u,k=>match v.asNil with
  | true=>k () u
  | false=>none
 | .np,v,u,k=>match v with
  | .o (.v (.pointer none))=>k () u
  | _=>none
 | .nf,v,u,k=>match v with
  | .o (.v .nilFunc)=>k () u
  | _=>none
 | .re t,v,u,k=>match v with
  | .re t' x=>match toP t (ofP t' x) with
   | some y=>k y u
   | none=>none
  | .pt id p=>match md with
   | true=>match nth u.tb id with
    | some (.blk _ v0)=>getP (fun z=>match toP t z with
     | some y=>k y { u with lt:=id :: u.lt }
     | none=>none) p v0
    | _=>none
   | false=>none
  | _=>none
 | .ro t,v,u,k=>match md with
  | true=>match v with
   | .ro t' xs=>match castR (Ty.eq? t' t) xs with
    | some xs=>k xs u
    | none=>none
   | v=>match v.agg with
    | false=>cont t u.tb v fun xs=>k xs { u with lt:=idsV v ++ u.lt }
    | true=>none
  | false=>match v with
   | .ro t' xs=>match castR (Ty.eq? t' t) xs with
    | some xs=>k xs u
    | none=>none
   | .rw id=>freeze t id u k
   | .rp id lo hi=>freeze t id u fun xs u=>k ((xs.drop lo).take (hi - lo)) u
   | v=>match v.asNil with
    | true=>k [] u
    | false=>none
 | .rw j,v,u,k=>match v with
  | .rw id=>bindU j id u (k ())
  | v=>match v.asNil,nth ts j with
   | true,some (.row E t)=>bindU j u.tb.length { u with tb:=u.tb ++ [.row E t []] } (k ())
   | true,some (.rr E Ei t)=>bindU j u.tb.length { u with tb:=u.tb ++ [.rr E Ei t [] []] } (k ())
   | _,_=>none
 | .rp j,v,u,k=>match v with
  | .rp id lo hi=>bindU j id u (k (lo,hi))
  | .rw id=>match nth u.tb id with
   | some (.row _ _ xs)=>bindU j id u (k (0,xs.length))
   | _=>none
  | v=>match v.asNil,nth u.bd j with
   | true,some id=>match nth u.tb id with
    | some (.row _ _ xs)=>bindU j id u (k (0,0))
    | _=>none
   | _,_=>none
 | .ps j n,v,u,k=>match v with
  | .ps id n'=>match Nat.beq n n' with
   | true=>bindU j id u (k ())
   | false=>none
  | _=>none
 | .nn,v,u,k=>match v with
  | .nn=>k () u
  | _=>none
 | .rn t,v,u,k=>match v with
  | .rn t' xs=>match castR (Ty.eq? t' t) xs with
   | some xs=>k xs u
   | none=>none
  | _=>none
 | .mp j,v,u,k=>match v with
  | .mp id=>bindU j id u (k ())
  | _=>none
 | .rx j,v,u,k=>match v with
  | .rx id r=>bindU j id u (k r)
  | _=>none
 | .u16,v,u,k=>none
 | .it j jm,v,u,k=>match v with
  | .it id mid=>bindU j id u fun u=>bindU jm mid u (k ())
  | _=>none
 | .pt j p,v,u,k=>match v with
  | .pt id p'=>match eqL p' p with
   | true=>bindU j id u (k ())
   | false=>none
  | _=>none
 | .ap j p,v,u,k=>match v with
  | .ap id p' lo hi=>match eqL p' p with
   | true=>bindU j id u (k (lo,hi))
   | false=>none
  | _=>none
 | .fn f a c,v,u,k=>match v with
  | .fn f' a' c'=>match Nat.beq f f' with
   | true=>uV md ts a a' u fun x u=>uV md ts c c' u fun y u=>k (x,y) u
   | false=>none
  | _=>none
 | .un,v,u,k=>match v with
  | .un=>k () u
  | _=>none
 | .pr a b,v,u,k=>match v with
  | .pr a' b'=>uV md ts a a' u fun x u=>uV md ts b b' u fun y u=>k (x,y) u
  | _=>none
 | .ar n t,v,u,k=>match v.asAr n t with
  | some xs=>k xs u
  | none=>none
 | .ud,v,u,k=>match v.agg with
  | true=>none
  | false=>k () u
def uVs {β:Type} (md:Bool) (ts:List TSh):(ss:List Sh)->List IV->Un->(dens ss->Un->Option β)->Option β
 | [],[],u,k=>k () u
 | s :: r,v :: vs,u,k=>uV md ts s v u fun x u=>uVs md ts r vs u fun y u=>k (x,y) u
 | _,_,_,_=>none
def uT {β:Type} (md:Bool) (ts:List TSh) (s:TSh) (x:Thing) (u:Un) (k:s.den->Un->Option β):Option β:=
 match s with
 | .blk ty s=>match x with
  | .blk ty' v=>match Nat.beq ty ty' with
   | true=>uV md ts s v u k
   | false=>none
  | _=>none
 | .row E t=>match x with
  | .row E' t' xs=>match Nat.beq E E',castR (Ty.eq? t' t) xs with
   | true,some xs=>k xs u
   | _,_=>none
  | _=>none
 | .fz t=>match x with
  | .fz t' xs=>match castR (Ty.eq? t' t) xs with
   | some xs=>k xs u
   | none=>none
  | _=>none
 | .no=>k () u
 | .mp kt vt=>match x with
  | .mp kt' vt' xs=>match castM (Ty.eq? kt' kt) (Ty.eq? vt' vt) xs with
   | some xs=>k xs u
   | none=>none
  | _=>none
 | .rr E Ei t=>match x with
  | .rr E' Ei' t' rows out=>match Nat.beq E E',Nat.beq Ei Ei',castRr (Ty.eq? t' t) rows with
   | true,true,some rows=>k (rows,out) u
   | _,_,_=>none
  | _=>none
 | .it=>match x with
  | .it n seen=>k (n,seen) u
  | _=>none
def uTs {β:Type} (md:Bool) (ts:List TSh):(j:Nat)->(ss:List TSh)->Un->(tdens ss->Un->Option β)->Option β
 | _,[],u,k=>k () u
 | j,s :: r,u,k=>match nth u.bd j with
  | some id=>match nth u.tb id with
   | some x=>uT md ts s x u fun x u=>uTs md ts (j + 1) r u fun y u=>k (x,y) u
   | none=>none
  | none=>none
def apart:List Nat->List Nat->Bool
 | [],_=>true
 | x :: r,l=>match idx l x with
  | none=>apart r l
  | some _=>false
theorem apart_ok:∀ {a b:List Nat},apart a b=true->∀ i,i ∈ a->i ∉ b
 | [],b,_,i,h=>by simp at h
 | x :: r,b,e,i,h=>by
  simp only [apart] at e
  split at e
  ·rename_i hn
   rcases List.mem_cons.1 h with h | h
   ·subst h;exact idx_none hn
   ·exact apart_ok e i h
  ·cases e
def uni {β:Type} (md:Bool) (ss:List Sh) (ts:List TSh) (bd:List Nat) (vs:List IV) (tb:Tbl) (k:dens ss->tdens ts->Un->Option β):Option β:=
 uVs md ts ss vs ⟨bd,tb,[]⟩ fun x u=>uTs md ts 0 ts u fun y u=>
  match Nat.beq u.bd.length ts.length,apart u.lt u.bd with
  | true,true=>k x y u
  | _,_=>none
section
variable {O:Own} {ρ:List Hd} {w:World}
def Oc (bd lt:List Nat) (O:Own) (w:World):Own:=fun b=>match O b with
 | .im all=>.im all
 | .no=>.no
 | .th id=>match idx bd id with
  | some j=>.th j
  | none=>match idx lt id with
   | some _=>match w.heap[b]? with
    | some (.cells a _ _)=>.im a.toList
    | _=>.no
   | none=>.no
def Mt (bd:List Nat) (ρ ρ₂:List Hd):Prop:=∀ (j id:Nat) (h:Hd),bd[j]? = some id->ρ[id]? = some h->∃ l,ρ₂[j]? = some (h.more l)
structure Gh (M:Nat->Prop) (O:Own) (ρ:List Hd) (u:Un) (O':Own) (ρ':List Hd) (u':Un) (w:World):Prop where
 gm:Gm O' ρ' u'.tb w
 stp:Stp M O ρ w O' ρ' w
 bd:∃ more,u'.bd=u.bd ++ more
 lt:∀ i,i ∈ u.lt->i ∈ u'.lt
 nd:u.bd.Nodup->u'.bd.Nodup
 own:∀ b id,id ∈ u.bd->O b=.th id->O' b=.th id
 in_:(∀ i,i ∈ u.bd->i < u.tb.length)->∀ i,i ∈ u'.bd->i < u'.tb.length
 len:u.tb.length≤u'.tb.length
 px:∀ (i:Nat) (h:Hd),ρ[i]? = some h->ρ'[i]? = some h
theorem Gh.refl {M:Nat->Prop} {u:Un} (h:Gm O ρ u.tb w):Gh M O ρ u O ρ u w:=
 ⟨h,.refl _ _ _ _,⟨[],by simp⟩,fun _ h=>h,fun h=>h,fun _ _ _ h=>h,fun h=>h,Nat.le_refl _,fun _ _ e=>e⟩
theorem Gh.trans {M:Nat->Prop} {O1 O2:Own} {ρ1 ρ2:List Hd} {u u1 u2:Un} (h:Gh M O ρ u O1 ρ1 u1 w) (k:Gh M O1 ρ1 u1 O2 ρ2 u2 w):Gh M O ρ u O2 ρ2 u2 w:=by
 obtain ⟨m1,e1⟩:=h.bd
 obtain ⟨m2,e2⟩:=k.bd
 exact ⟨k.gm,h.stp.trans k.stp,⟨m1 ++ m2,by rw [e2,e1,List.append_assoc]⟩,fun i hi=>k.lt i (h.lt i hi),fun hn=>k.nd (h.nd hn),
  fun b id hi e=>k.own b id (by rw [e1];exact List.mem_append_left _ hi) (h.own b id hi e),fun hh=>k.in_ (h.in_ hh),Nat.le_trans h.len k.len,fun i x e=>k.px i x (h.px i x e)⟩
structure Fut (u':Un) (O':Own) (ρ':List Hd) (w:World) (O₂:Own) (ρ₂:List Hd):Prop where
 le:O'.le O₂
 mx:∀ (j id:Nat) (h:Hd),u'.bd[j]? = some id->ρ'[id]? = some h->ρ₂[j]? = some h
 lent:∀ b id a ty fz,id ∈ u'.lt->O' b=.th id->w.heap[b]? = some (.cells a ty fz)->O₂ b=.im a.toList
theorem Fut.mt {u':Un} {O':Own} {ρ':List Hd} {O₂:Own} {ρ₂:List Hd} (F:Fut u' O' ρ' w O₂ ρ₂):Mt u'.bd ρ' ρ₂:=fun j id h h1 h2=>⟨[],by rw [h.more_nil];exact F.mx j id h h1 h2⟩
theorem Fut.back {M:Nat->Prop} {O1:Own} {ρ1:List Hd} {u u1:Un} {O₂:Own} {ρ₂:List Hd} (g:Gh M O ρ u O1 ρ1 u1 w) (hl:∀ b id,id ∈ u.lt->O b=.th id->O1 b=.th id) (F:Fut u1 O1 ρ1 w O₂ ρ₂):Fut u O ρ w O₂ ρ₂:=by
 obtain ⟨m,e⟩:=g.bd
 refine ⟨g.stp.im.trans F.le,fun j id h hj hh=>?_,fun b id a ty fz hi ho=>F.lent b id a ty fz (g.lt id hi) (hl b id hi ho)⟩
 exact F.mx j id _ (by rw [e,List.getElem?_append_left (List.getElem?_eq_some_iff.1 hj).1];exact hj) (g.px _ _ hh)
end
end Go.Tw
namespace Go.Tw
set_option linter.unusedSimpArgs false
set_option linter.unusedVariables false
section
variable {O:Own} {ρ:List Hd} {w:World} {md:Bool} {ts:List TSh}
theorem bindU_ok {β:Type} {M:Nat->Prop} {j id:Nat} {u:Un} {k:Un->Option β} {r:β} (e:bindU j id u k=some r) (hM:Gm O ρ u.tb w) (hid:id < u.tb.length) :
  ∃ u',k u'=some r∧Gh M O ρ u O ρ u' w∧u'.bd[j]? = some id∧u'.lt=u.lt∧u'.tb=u.tb:=by
 unfold bindU at e
 split at e
 ·rename_i id' hj
  rw [nth_eq] at hj
  split at e<;>first | (cases e;done) | skip
  rename_i hb
  have:=Nat.eq_of_beq_eq_true hb
  subst this
  exact ⟨u,e,.refl hM,hj,rfl,rfl⟩
 ·rename_i hj
  split at e<;>first | (cases e;done) | skip
  rename_i hjl hidx
  have hjl:=Nat.eq_of_beq_eq_true hjl
  split at e<;>first | (cases e;done) | skip
  have hni:=idx_none hidx
  refine ⟨_,e,⟨hM,.refl _ _ _ _,⟨[id],rfl⟩,fun _ h=>h,fun hn=>?_,fun _ _ _ h=>h,fun hh i hi=>?_,Nat.le_refl _,fun _ _ e=>e⟩,by subst hjl;simp,rfl,rfl⟩
  ·rw [List.nodup_append]
   exact ⟨hn,by simp,fun a ha b hb=>by simp at hb;subst hb;intro e;subst e;exact hni ha⟩
  ·rcases List.mem_append.1 hi with hi | hi
   ·exact hh i hi
   ·simp at hi;subst hi;exact hid
theorem freeze_ok {β:Type} {t:Ty} {id:Nat} {u:Un} {k:List t.den->Un->Option β} {r:β} (e:freeze t id u k=some r) (hM:Gm O ρ u.tb w):∃ xs u' O' h,k xs u'=some r∧Gh (fun _=>True) O ρ u O' ρ u' w∧u'.lt=u.lt∧ρ[id]? = some h∧TR O' (.sl t) xs [h.v]∧h.z=t.sz:=by
 unfold freeze at e
 split at e<;>first | (cases e;done) | skip
 ·rename_i E t' xs hb
  split at e<;>first | (cases e;done) | skip
  rename_i xs' hcast hidx
  obtain ⟨e1,he1⟩:=castR_ok hcast
  subst e1
  have he1:xs'=xs:=he1
  subst he1
  rw [nth_eq] at hb
  obtain ⟨O',h,h1,g1,g2,hT,hoth,hz⟩:=hM.frz hb
  have hni:=idx_none hidx
  refine ⟨xs',_,O',h,e,⟨g1,g2.weak (fun _ _=>trivial),⟨[],by simp⟩,fun _ h=>h,fun h=>h,fun b j hj e=>hoth b j (fun ee=>by subst ee;exact hni hj) e,fun hh i hi=>by simpa using hh i hi,by simp,fun _ _ e=>e⟩,rfl,h1,hT,hz⟩
 ·rename_i t' xs hb
  split at e<;>first | (cases e;done) | skip
  rename_i xs' hcast
  obtain ⟨e1,he1⟩:=castR_ok hcast
  subst e1
  have he1:xs'=xs:=he1
  subst he1
  rw [nth_eq] at hb
  obtain ⟨h,h1,h2,hT⟩:=hM.th _ _ hb
  exact ⟨xs',u,O,h,e,.refl hM,rfl,h1,hT,h2⟩
 ·rename_i E Ei t' rows out hb
  split at e<;>first | (cases e;done) | skip
  rename_i hidx
  obtain ⟨xss,hxss,e⟩:=bindS e
  split at e<;>first | (cases e;done) | skip
  rename_i xs' hcast
  obtain ⟨e1,he1⟩:=castR_ok hcast
  subst e1
  have he1:xs'=xss:=he1
  subst he1
  rw [nth_eq] at hb
  obtain ⟨O',h,h1,g1,g2,hT,hoth,hz⟩:=hM.frzR hb hxss
  have hni:=idx_none hidx
  exact ⟨xs',_,O',h,e,⟨g1,g2.weak (fun _ _=>trivial),⟨[],by simp⟩,fun _ h=>h,fun h=>h,fun b j hj e=>hoth b j (fun ee=>by subst ee;exact hni hj) e,fun hh i hi=>by simpa using hh i hi,by simp,fun _ _ e=>e⟩,rfl,h1,hT,hz⟩
def UOk {β:Type} (O:Own) (ρ:List Hd) (w:World) (md:Bool) (s:Sh) (v:IV) (u:Un) (ch:Bool) (cs:List Value) (k:s.den->Un->Option β) (r:β):Prop:=
 ∃ x u' O' ρ',k x u'=some r∧Gh (fun _=>md=false) O ρ u O' ρ' u' w∧(md=false->u'.lt=u.lt)∧(enc s x).sz=v.sz∧∀ O₂ ρ₂,Fut u' O' ρ' w O₂ ρ₂->R O₂ ρ₂ ch (enc s x) cs
theorem UOk.stay {β:Type} {s:Sh} {v:IV} {u:Un} {ch:Bool} {cs:List Value} {k:s.den->Un->Option β} {r:β} (x:s.den) (hM:Gm O ρ u.tb w) (hk:k x u=some r) (hz:(enc s x).sz=v.sz) (h:∀ O₂ ρ₂,Fut u O ρ w O₂ ρ₂->R O₂ ρ₂ ch (enc s x) cs):UOk O ρ w md s v u ch cs k r:=
 ⟨x,u,O,ρ,hk,.refl hM,fun _=>rfl,hz,h⟩
theorem R.true_of {v:IV} {cs:List Value} (h:R O ρ true v cs):v=.un∨∃ a b,v=.pr a b:=by
 cases v<;>first | exact .inl rfl | exact .inr ⟨_,_,rfl⟩ | exact h.elim
theorem agg_of_sz {v u:IV} (h:v.sz=u.sz):v.agg=u.agg:=by cases v<;>cases u<;>first | rfl | (simp [IV.sz] at h)
theorem bd_ρ {u u':Un} {M:Nat->Prop} {O':Own} {ρ':List Hd} (g:Gh M O ρ u O' ρ' u' w) {j id:Nat} (h:u.bd[j]? = some id):u'.bd[j]? = some id:=by
 obtain ⟨m,e⟩:=g.bd
 rw [e,List.getElem?_append_left (List.getElem?_eq_some_iff.1 h).1];exact h
theorem lent_own {O1 O2:Own} {ρ1 ρ2:List Hd} {u1 u2:Un} (g1:Gm O1 ρ1 u1.tb w) (g2:Gh (fun _=>md=false) O1 ρ1 u1 O2 ρ2 u2 w) (hmd:md=false->u1.lt=[]):∀ b id,id ∈ u1.lt->O1 b=.th id->O2 b=.th id:=by
 intro b id hi ho
 cases md with
 | true=>exact g2.stp.own b id (by
   rcases Nat.lt_or_ge b w.heap.size with h' | h'
   ·exact h'
   ·rw [g1.lt b h'] at ho;cases ho) ho (fun h=>by cases h)
 | false=>rw [hmd rfl] at hi;simp at hi
theorem uV_ok {β:Type}:∀ {s:Sh} {v:IV} {u:Un} {k:s.den->Un->Option β} {r:β} {ch:Bool} {cs:List Value} {O:Own} {ρ:List Hd},uV md ts s v u k=some r->Gm O ρ u.tb w->R O ρ ch v cs->(md=false->u.lt=[])->UOk O ρ w md s v u ch cs k r:=by
 have notch:∀ {v:IV} {ch:Bool} {cs:List Value} {O:Own} {ρ:List Hd},R O ρ ch v cs->(v=.un->False)->(∀ a b,v=.pr a b->False)->ch=false:=fun {v ch cs O ρ} h h1 h2=>by
  cases ch with
  | false=>rfl
  | true=>
   rcases R.true_of h with h | ⟨a,b,h⟩
   ·exact (h1 h).elim
   ·exact (h2 a b h).elim
 intro s
 induction s with
 | i=>
  intro v u k r ch cs O ρ e hM hR hmd
  simp only [uV] at e
  split at e<;>first | (cases e;done) | skip
  rename_i x hx
  have hv:=as_o.1 x hx
  subst hv
  exact UOk.stay x hM e rfl (fun O₂ ρ₂ _=>by cases ch<;>exact hR)
 | u8=>
  intro v u k r ch cs O ρ e hM hR hmd
  simp only [uV] at e
  split at e<;>first | (cases e;done) | skip
  rename_i x hx
  have hv:=as_o.2.1 x hx
  subst hv
  exact UOk.stay x hM e rfl (fun O₂ ρ₂ _=>by cases ch<;>exact hR)
 | u32=>
  intro v u k r ch cs O ρ e hM hR hmd
  simp only [uV] at e
  split at e<;>first | (cases e;done) | skip
  rename_i x hx
  have hv:=as_o.2.2.1 x hx
  subst hv
  exact UOk.stay x hM e rfl (fun O₂ ρ₂ _=>by cases ch<;>exact hR)
 | u64=>
  intro v u k r ch cs O ρ e hM hR hmd
  simp only [uV] at e
  split at e<;>first | (cases e;done) | skip
  rename_i x hx
  have hv:=as_o.2.2.2.1 x hx
  subst hv
  exact UOk.stay x hM e rfl (fun O₂ ρ₂ _=>by cases ch<;>exact hR)
 | bo=>
  intro v u k r ch cs O ρ e hM hR hmd
  simp only [uV] at e
  split at e<;>first | (cases e;done) | skip
  rename_i x hx
  have hv:=as_o.2.2.2.2.1 x hx
  subst hv
  exact UOk.stay x hM e rfl (fun O₂ ρ₂ _=>by cases ch<;>exact hR)
 | str=>
  intro v u k r ch cs O ρ e hM hR hmd
  simp only [uV] at e
  split at e<;>first | (cases e;done) | skip
  rename_i x hx
  have hv:=as_o.2.2.2.2.2 x hx
  subst hv
  exact UOk.stay x hM e rfl (fun O₂ ρ₂ _=>by cases ch<;>exact hR)
 | ns=>
  intro v u k r ch cs O ρ e hM hR hmd
  simp only [uV] at e
  split at e<;>first | (cases e;done) | skip
  rename_i hx
  have hv:=asNil_eq hx
  subst hv
  exact UOk.stay () hM e rfl (fun O₂ ρ₂ _=>by cases ch<;>exact hR)
 | np=>
  intro v u k r ch cs O ρ e hM hR hmd
  simp only [uV] at e
  split at e<;>first | (cases e;done) | skip
  exact UOk.stay () hM e rfl (fun O₂ ρ₂ _=>by cases ch<;>exact hR)
 | nf=>
  intro v u k r ch cs O ρ e hM hR hmd
  simp only [uV] at e
  split at e<;>first | (cases e;done) | skip
  exact UOk.stay () hM e rfl (fun O₂ ρ₂ _=>by cases ch<;>exact hR)
 | re t=>
  intro v u k r ch cs O ρ e hM hR hmd
  simp only [uV] at e
  split at e<;>first | (cases e;done) | skip
  ·rename_i t' x
   have hch:=notch hR (by simp) (by simp)
   subst hch
   split at e<;>first | (cases e;done) | skip
   rename_i y hy
   obtain ⟨b,off,c,rfl,h2,all,h3,h4⟩:=hR
   exact UOk.stay y hM e rfl (fun O₂ ρ₂ F=>⟨b,off,c,rfl,TR.mono F.le (toP_R hy (ofP_R (ρ:=ρ) h2)),all,F.le _ _ h3,h4⟩)
  ·rename_i id p
   have hch:=notch hR (by simp) (by simp)
   subst hch
   split at e<;>first | (cases e;done) | skip
   split at e<;>first | (cases e;done) | skip
   rename_i bt v0 hb
   rw [nth_eq] at hb
   obtain ⟨h,off,h1,h2,rfl⟩:=hR
   obtain ⟨h',cs0,h4,h5,h6,h7,h8⟩:=hM.th _ _ hb
   rw [h1] at h4;cases h4
   rw [h6] at h2
   obtain ⟨z,hk,h9,h10,h11⟩:=getP_R e h7 h2
   split at hk<;>first | (cases hk;done) | skip
   rename_i y hy
   refine ⟨y,_,O,ρ,hk,⟨hM,.refl _ _ _ _,⟨[],by simp⟩,fun i hi=>List.mem_cons_of_mem _ hi,fun h=>h,fun _ _ _ h=>h,fun h=>h,Nat.le_refl _,fun _ _ e=>e⟩,(fun h=>by cases h),rfl,fun O₂ ρ₂ F=>?_⟩
   obtain ⟨fz,hh,_⟩:=h8
   refine ⟨h.b,off,_,rfl,TR.mono F.le (toP_R hy h9),cs0,by simpa using F.lent h.b id _ _ _ (List.mem_cons_self ..) h5 hh,fun j c hj=>?_⟩
   rw [List.getElem?_take] at hj
   split at hj
   ·rw [List.getElem?_drop] at hj;exact hj
   ·cases hj
 | ro t=>
  intro v u k r ch cs O ρ e hM hR hmd
  simp only [uV] at e
  have isro:∀ {t':Ty} {xs:List t'.den},v=.ro t' xs->(match castR (Ty.eq? t' t) xs with | some xs=>k xs u | none=>none)=some r->UOk O ρ w md (.ro t) v u ch cs k r:=by
   clear e
   intro t' xs hv e
   subst hv
   have hch:=notch hR (by simp) (by simp)
   subst hch
   split at e<;>first | (cases e;done) | skip
   rename_i xs' hcast
   obtain ⟨e1,he1⟩:=castR_ok hcast
   subst e1
   have he1:xs'=xs:=he1
   subst he1
   exact UOk.stay xs' hM e rfl (fun O₂ ρ₂ F=>TR.mono F.le hR)
  split at e
  ·
   split at e
   ·exact isro rfl e
   ·rename_i hnr
    split at e<;>first | (cases e;done) | skip
    rename_i hag
    have hch:=notch hR (fun h=>by subst h;simp [IV.agg] at hag) (fun a b h=>by subst h;simp [IV.agg] at hag)
    subst hch
    have hl:=R.length hR
    have hz:v.sz.size=1:=by cases v<;>simp [IV.agg] at hag<;>rfl
    rw [hz] at hl
    obtain ⟨y,rfl⟩:=List.length_eq_one_iff.1 hl
    obtain ⟨xs,es,hk,hL,hrd,hown⟩:=cont_ok hM e hR
    refine ⟨xs,_,O,ρ,hk,⟨hM,.refl _ _ _ _,⟨[],by simp⟩,fun i hi=>List.mem_append_right _ hi,fun h=>h,fun _ _ _ h=>h,fun h=>h,Nat.le_refl _,fun _ _ e=>e⟩,(fun h=>by cases h),?_,fun O₂ ρ₂ F=>?_⟩
    ·show Sz.one=v.sz
     cases v<;>first | rfl | (simp [IV.agg] at hag)
    ·have hr:=hrd w (Sm.refl _ _ _)
     refine ⟨y,es,rfl,hL.mono (fun _ _=>TR.mono F.le),ofSlAt hr (fun b a ty fz hn hb hh=>?_)⟩
     rcases hown b hn hb with ⟨id,hi,ho⟩ | ⟨all,ho⟩
     ·exact F.lent b id a ty fz (List.mem_append_left _ hi) ho hh
     ·obtain ⟨ty',fz',hh'⟩:=hM.im b all ho
      rw [hh] at hh';cases hh'
      simpa using F.le b all ho
  ·
   split at e
   ·exact isro rfl e
   ·rename_i id
    have hch:=notch hR (by simp) (by simp)
    subst hch
    obtain ⟨h0,h1,rfl,_⟩:=hR
    obtain ⟨xs,u',O',h,hk,g,hlt,h2,hT,hz⟩:=freeze_ok e hM
    rw [h1] at h2;cases h2
    exact ⟨xs,u',O',ρ,hk,⟨g.gm,g.stp.weak (fun _ _=>rfl),g.bd,g.lt,g.nd,g.own,g.in_,g.len,g.px⟩,fun _=>hlt,rfl,fun O₂ ρ₂ F=>TR.mono F.le hT⟩
   ·rename_i id lo hi
    have hch:=notch hR (by simp) (by simp)
    subst hch
    obtain ⟨h0,y,h1,rfl,hp⟩:=hR
    obtain ⟨xs,u',O',h,hk,g,hlt,h2,hT,hz⟩:=freeze_ok e hM
    rw [h1] at h2;cases h2
    refine ⟨_,u',O',ρ,hk,⟨g.gm,g.stp.weak (fun _ _=>rfl),g.bd,g.lt,g.nd,g.own,g.in_,g.len,g.px⟩,fun _=>hlt,rfl,fun O₂ ρ₂ F=>?_⟩
    have hT2:=TR.mono F.le hT
    obtain ⟨v',es,hv',hL,hS⟩:=hT2
    cases hv'
    rw [hz,Ty.sz_size] at hp
    obtain ⟨b,n,cp,b',cp',hv,rfl,hlo,hhi,hor⟩:=hp
    have hn:n=xs.length:=by
     obtain ⟨b2,cp2,e2⟩:=slAt_shape hS
     rw [hv] at e2;cases e2;rfl
    subst hn
    have hlen:((xs.drop lo).take (hi - lo)).length=hi - lo:=by rw [List.length_take,List.length_drop];omega
    refine ⟨_,_,rfl,((hL.split (fun _ _=>TR.length) lo).2.split (fun _ _=>TR.length) (hi - lo)).1,?_⟩
    rw [hlen]
    rcases hor with hor | ⟨ad,rfl,rfl,hc⟩
    ·exact .inl ⟨by omega,_,_,by rw [show hi - lo=0 from by omega]⟩
    ·rw [hv] at hS
     rcases hS with ⟨h0',_⟩ | ⟨b2,off,cap,e2,_,hI⟩
     ·exact .inl ⟨by omega,_,_,by rw [show hi - lo=0 from by omega]⟩
     ·cases e2
      rw [add_zero _ rfl]
      exact .inr ⟨b2,off + lo * t.size,cp',rfl,hc,hI.part _ _⟩
   ·split at e<;>first | (cases e;done) | skip
    rename_i hn
    have hv:=asNil_eq hn
    subst hv
    have hch:=notch hR (by simp) (by simp)
    subst hch
    exact UOk.stay [] hM e rfl (fun O₂ ρ₂ F=>by obtain ⟨rfl,_⟩:=hR;exact ⟨_,[],rfl,rfl,.inl ⟨rfl,none,0,rfl⟩⟩)
 | rw j=>
  intro v u k r ch cs O ρ e hM hR hmd
  simp only [uV] at e
  split at e
  ·rename_i id
   have hch:=notch hR (by simp) (by simp)
   subst hch
   obtain ⟨h,h1,rfl,h3⟩:=hR
   have hid:id < u.tb.length:=by rw [← hM.len];exact (List.getElem?_eq_some_iff.1 h1).1
   obtain ⟨u',hk,g,hj,hlt,htb⟩:=bindU_ok (M:=fun _=>md=false) e hM hid
   exact ⟨(),u',O,ρ,hk,g,fun _=>hlt,rfl,fun O₂ ρ₂ F=>(F.mt j id h hj h1).elim fun _ hm=>⟨_,hm,rfl,h3⟩⟩
  ·rename_i hnr
   split at e<;>first | (cases e;done) | skip
   ·rename_i E t hn ht
    have hv:=asNil_eq hn
    subst hv
    have hch:=notch hR (by simp) (by simp)
    subst hch
    obtain ⟨rfl,_⟩:=hR
    have hnew:=hM.new (h:=⟨0,t.sz,.slice none 0 0,[]⟩) (x:=.row E t []) (fun _=>false) (Kept.refl _ w) (fun b hb=>by cases hb)
     ⟨⟨0,t.sz,.slice none 0 0,[]⟩,[],by rw [← hM.len];simp,rfl,fun b hb=>hb.elim,rfl,⟨by simp,.inl ⟨rfl,rfl⟩⟩⟩
    have g1:Gm O (ρ ++ [⟨0,t.sz,.slice none 0 0,[]⟩]) (u.tb ++ [.row E t []]) w:=hnew.1
    have g2:Stp (fun _=>False) O ρ w O (ρ ++ [⟨0,t.sz,.slice none 0 0,[]⟩]) w:=hnew.2
    obtain ⟨u',hk,g,hj,hlt,htb⟩:=bindU_ok (M:=fun _=>md=false) e g1 (by simp)
    have g0:Gh (fun _=>md=false) O ρ u O (ρ ++ [⟨0,t.sz,.slice none 0 0,[]⟩]) { u with tb:=u.tb ++ [.row E t []] } w:=
     ⟨g1,g2.weak (fun _ h=>h.elim),⟨[],by simp⟩,fun _ h=>h,fun h=>h,fun _ _ _ h=>h,fun hh i hi=>by have:=hh i hi;simp;omega,by simp,fun _ _ e=>app_at _ e⟩
    refine ⟨(),u',O,_,hk,g0.trans g,fun _=>hlt,rfl,fun O₂ ρ₂ F=>(F.mt j _ ⟨0,t.sz,.slice none 0 0,[]⟩ hj (by rw [← hM.len];simp)).elim fun _ hm=>⟨_,hm,rfl,rfl⟩⟩
   ·rename_i E Ei t hn ht
    have hv:=asNil_eq hn
    subst hv
    have hch:=notch hR (by simp) (by simp)
    subst hch
    obtain ⟨rfl,_⟩:=hR
    have hnew:=hM.new (h:=⟨0,.one,.slice none 0 0,[]⟩) (x:=.rr E Ei t [] []) (fun _=>false) (Kept.refl _ w) (fun b hb=>by cases hb)
     ⟨⟨0,.one,.slice none 0 0,[]⟩,[],by rw [← hM.len];simp,rfl,fun b hb=>hb.elim,⟨by simp,.inl ⟨rfl,rfl⟩⟩,rfl,⟨rfl,fun k xs h=>by simp at h,fun k xs k' xs' v v' b h=>by simp at h,fun k xs v b h=>by simp at h,fun k v h=>by simp at h⟩⟩
    have g1:Gm O (ρ ++ [⟨0,.one,.slice none 0 0,[]⟩]) (u.tb ++ [.rr E Ei t [] []]) w:=hnew.1
    have g2:Stp (fun _=>False) O ρ w O (ρ ++ [⟨0,.one,.slice none 0 0,[]⟩]) w:=hnew.2
    obtain ⟨u',hk,g,hj,hlt,htb⟩:=bindU_ok (M:=fun _=>md=false) e g1 (by simp)
    have g0:Gh (fun _=>md=false) O ρ u O (ρ ++ [⟨0,.one,.slice none 0 0,[]⟩]) { u with tb:=u.tb ++ [.rr E Ei t [] []] } w:=
     ⟨g1,g2.weak (fun _ h=>h.elim),⟨[],by simp⟩,fun _ h=>h,fun h=>h,fun _ _ _ h=>h,fun hh i hi=>by have:=hh i hi;simp;omega,by simp,fun _ _ e=>app_at _ e⟩
    exact ⟨(),u',O,_,hk,g0.trans g,fun _=>hlt,rfl,fun O₂ ρ₂ F=>(F.mt j _ ⟨0,.one,.slice none 0 0,[]⟩ hj (by rw [← hM.len];simp)).elim fun _ hm=>⟨_,hm,rfl,rfl⟩⟩
 | rp j=>
  intro v u k r ch cs O ρ e hM hR hmd
  simp only [uV] at e
  split at e<;>first | (cases e;done) | skip
  ·rename_i id lo hi
   have hch:=notch hR (by simp) (by simp)
   subst hch
   obtain ⟨h,y,h1,rfl,h3⟩:=hR
   have hid:id < u.tb.length:=by rw [← hM.len];exact (List.getElem?_eq_some_iff.1 h1).1
   obtain ⟨u',hk,g,hj,hlt,htb⟩:=bindU_ok (M:=fun _=>md=false) e hM hid
   exact ⟨(lo,hi),u',O,ρ,hk,g,fun _=>hlt,rfl,fun O₂ ρ₂ F=>(F.mt j id h hj h1).elim fun _ hm=>⟨_,y,hm,rfl,h3⟩⟩
  ·rename_i id
   have hch:=notch hR (by simp) (by simp)
   subst hch
   obtain ⟨h,h1,rfl,h3⟩:=hR
   split at e<;>first | (cases e;done) | skip
   rename_i E t xs hb
   rw [nth_eq] at hb
   have hid:id < u.tb.length:=(List.getElem?_eq_some_iff.1 hb).1
   obtain ⟨h',es,h4,h5,h6,h7,h8⟩:=hM.th _ _ hb
   rw [h1] at h4;cases h4
   obtain ⟨u',hk,g,hj,hlt,htb⟩:=bindU_ok (M:=fun _=>md=false) e hM hid
   refine ⟨(0,xs.length),u',O,ρ,hk,g,fun _=>hlt,rfl,fun O₂ ρ₂ F=>(F.mt j id h hj h1).elim fun _ hm=>⟨_,_,hm,rfl,?_⟩⟩
   obtain ⟨b,cp,e2,hn,hcp⟩:=h8.rd.shape
   rw [e2]
   refine ⟨b,_,cp,b,cp,rfl,by simp,by omega,by omega,?_⟩
   by_cases h0:xs.length=0
   ·exact .inl h0
   ·refine .inr ?_
    cases b with
    | none=>exact absurd (hn rfl) h0
    | some ad=>exact ⟨ad,rfl,by rw [Nat.zero_mul];simp [Addr.add],by omega⟩
  ·split at e<;>first | (cases e;done) | skip
   rename_i id hnil hbd
   have hv:=asNil_eq hnil
   subst hv
   have hch:=notch hR (by simp) (by simp)
   subst hch
   obtain ⟨rfl,_⟩:=hR
   split at e<;>first | (cases e;done) | skip
   rename_i E t xs hb
   rw [nth_eq] at hb
   have hid:id < u.tb.length:=(List.getElem?_eq_some_iff.1 hb).1
   obtain ⟨h,es,h4,h5,h6,h7,h8⟩:=hM.th _ _ hb
   obtain ⟨u',hk,g,hj,hlt,htb⟩:=bindU_ok (M:=fun _=>md=false) e hM hid
   refine ⟨(0,0),u',O,ρ,hk,g,fun _=>hlt,rfl,fun O₂ ρ₂ F=>(F.mt j id h hj h4).elim fun _ hm=>⟨_,_,hm,rfl,?_⟩⟩
   obtain ⟨b,cp,e2,hn,hcp⟩:=h8.rd.shape
   exact ⟨b,_,cp,none,0,e2,rfl,Nat.le_refl _,Nat.zero_le _,.inl rfl⟩
 | nn=>
  intro v u k r ch cs O ρ e hM hR hmd
  simp only [uV] at e
  split at e<;>first | (cases e;done) | skip
  exact UOk.stay () hM e rfl (fun O₂ ρ₂ F=>by cases ch<;>exact hR)
 | rn t=>
  intro v u k r ch cs O ρ e hM hR hmd
  simp only [uV] at e
  split at e<;>first | (cases e;done) | skip
  rename_i t' xs
  split at e<;>first | (cases e;done) | skip
  rename_i xs' hcast
  obtain ⟨e1,he1⟩:=castR_ok hcast
  subst e1
  have he1:xs'=xs:=he1
  subst he1
  exact UOk.stay xs' hM e rfl (fun O₂ ρ₂ F=>by cases ch<;>first | exact hR.elim | exact ⟨TR.mono F.le hR.1,hR.2⟩)
 | mp j=>
  intro v u k r ch cs O ρ e hM hR hmd
  simp only [uV] at e
  split at e<;>first | (cases e;done) | skip
  rename_i id
  have hch:=notch hR (by simp) (by simp)
  subst hch
  obtain ⟨h,h1,h2⟩:=hR
  have hid:id < u.tb.length:=by rw [← hM.len];exact (List.getElem?_eq_some_iff.1 h1).1
  obtain ⟨u',hk,g,hj,hlt,htb⟩:=bindU_ok (M:=fun _=>md=false) e hM hid
  exact ⟨(),u',O,ρ,hk,g,fun _=>hlt,rfl,fun O₂ ρ₂ F=>(F.mt j id h hj h1).elim fun _ hm=>⟨_,hm,h2⟩⟩
 | rx j=>
  intro v u k r ch cs O ρ e hM hR hmd
  simp only [uV] at e
  split at e<;>first | (cases e;done) | skip
  rename_i id q
  have hch:=notch hR (by simp) (by simp)
  subst hch
  obtain ⟨h,x,h1,h2,h3⟩:=hR
  have hid:id < u.tb.length:=by rw [← hM.len];exact (List.getElem?_eq_some_iff.1 h1).1
  obtain ⟨u',hk,g,hj,hlt,htb⟩:=bindU_ok (M:=fun _=>md=false) e hM hid
  exact ⟨q,u',O,ρ,hk,g,fun _=>hlt,rfl,fun O₂ ρ₂ F=>⟨h,x,F.mx j id h hj h1,h2,h3⟩⟩
 | u16=>intro v u k r ch cs O ρ e hM hR hmd;simp only [uV] at e;cases e
 | it j jm=>
  intro v u k r ch cs O ρ e hM hR hmd
  simp only [uV] at e
  split at e<;>first | (cases e;done) | skip
  rename_i id mid
  have hch:=notch hR (by simp) (by simp)
  subst hch
  obtain ⟨h,hm,h1,h2,h3⟩:=hR
  have hid:id < u.tb.length:=by rw [← hM.len];exact (List.getElem?_eq_some_iff.1 h1).1
  have hid2:mid < u.tb.length:=by rw [← hM.len];exact (List.getElem?_eq_some_iff.1 h2).1
  obtain ⟨u',hk,g,hj,hlt,htb⟩:=bindU_ok (M:=fun _=>md=false) e hM hid
  obtain ⟨u2,hk2,g2,hj2,hlt2,htb2⟩:=bindU_ok (M:=fun _=>md=false) hk g.gm (by rw [htb];exact hid2)
  exact ⟨(),u2,O,ρ,hk2,g.trans g2,fun _=>hlt2.trans hlt,rfl,fun O₂ ρ₂ F=>(F.mt j id h (bd_ρ g2 hj) h1).elim fun _ hm1=>(F.mt jm mid hm hj2 h2).elim fun _ hm2=>⟨_,_,hm1,hm2,h3⟩⟩
 | ps j n=>
  intro v u k r ch cs O ρ e hM hR hmd
  simp only [uV] at e
  split at e<;>first | (cases e;done) | skip
  rename_i id n'
  split at e<;>first | (cases e;done) | skip
  rename_i hp
  have:=Nat.eq_of_beq_eq_true hp
  subst this
  have hch:=notch hR (by simp) (by simp)
  subst hch
  obtain ⟨h,h1,h2,h3⟩:=hR
  have hid:id < u.tb.length:=by rw [← hM.len];exact (List.getElem?_eq_some_iff.1 h1).1
  obtain ⟨u',hk,g,hj,hlt,htb⟩:=bindU_ok (M:=fun _=>md=false) e hM hid
  exact ⟨(),u',O,ρ,hk,g,fun _=>hlt,rfl,fun O₂ ρ₂ F=>(F.mt j id h hj h1).elim fun _ hm=>⟨_,hm,h2,h3⟩⟩
 | pt j p=>
  intro v u k r ch cs O ρ e hM hR hmd
  simp only [uV] at e
  split at e<;>first | (cases e;done) | skip
  rename_i id p'
  split at e<;>first | (cases e;done) | skip
  rename_i hp
  have:=eqL_eq hp
  subst this
  have hch:=notch hR (by simp) (by simp)
  subst hch
  obtain ⟨h,off,h1,h2,h3⟩:=hR
  have hid:id < u.tb.length:=by rw [← hM.len];exact (List.getElem?_eq_some_iff.1 h1).1
  obtain ⟨u',hk,g,hj,hlt,htb⟩:=bindU_ok (M:=fun _=>md=false) e hM hid
  exact ⟨(),u',O,ρ,hk,g,fun _=>hlt,rfl,fun O₂ ρ₂ F=>(F.mt j id h hj h1).elim fun _ hm=>⟨_,off,hm,h2,h3⟩⟩
 | ap j p=>
  intro v u k r ch cs O ρ e hM hR hmd
  simp only [uV] at e
  split at e<;>first | (cases e;done) | skip
  rename_i id p' lo hi
  split at e<;>first | (cases e;done) | skip
  rename_i hp
  have:=eqL_eq hp
  subst this
  have hch:=notch hR (by simp) (by simp)
  subst hch
  obtain ⟨h,off,n,z,h1,h2⟩:=hR
  have hid:id < u.tb.length:=by rw [← hM.len];exact (List.getElem?_eq_some_iff.1 h1).1
  obtain ⟨u',hk,g,hj,hlt,htb⟩:=bindU_ok (M:=fun _=>md=false) e hM hid
  exact ⟨(lo,hi),u',O,ρ,hk,g,fun _=>hlt,rfl,fun O₂ ρ₂ F=>(F.mt j id h hj h1).elim fun _ hm=>⟨_,off,n,z,hm,h2⟩⟩
 | fn f a c iha ihc=>
  intro v u k r ch cs O ρ e hM hR hmd
  simp only [uV] at e
  split at e<;>first | (cases e;done) | skip
  rename_i f' a' c'
  split at e<;>first | (cases e;done) | skip
  rename_i hf
  have:=Nat.eq_of_beq_eq_true hf
  subst this
  have hch:=notch hR (by simp) (by simp)
  subst hch
  obtain ⟨xs,ys,rfl,h2,h3⟩:=hR
  obtain ⟨x,u1,O1,ρ1,e1,g1,l1,z1,F1⟩:=iha e hM h2 hmd
  have hmd1:md=false->u1.lt=[]:=fun h=>(l1 h).trans (hmd h)
  obtain ⟨y,u2,O2,ρ2,e2,g2,l2,z2,F2⟩:=ihc e1 g1.gm (R.mono g1.stp.im g1.stp.pre h3) hmd1
  exact ⟨(x,y),u2,O2,ρ2,e2,g1.trans g2,fun h=>(l2 h).trans (l1 h),rfl,fun O₂ ρ₂ F=>⟨xs,ys,rfl,F1 O₂ ρ₂ (F.back g2 (lent_own g1.gm g2 hmd1)),F2 O₂ ρ₂ F⟩⟩
 | un=>
  intro v u k r ch cs O ρ e hM hR hmd
  simp only [uV] at e
  split at e<;>first | (cases e;done) | skip
  exact UOk.stay () hM e rfl (fun O₂ ρ₂ _=>by cases ch<;>exact hR)
 | pr a b iha ihb=>
  intro v u k r ch cs O ρ e hM hR hmd
  simp only [uV] at e
  split at e<;>first | (cases e;done) | skip
  rename_i a' b'
  cases ch with
  | true=>
   obtain ⟨x0,rest,rfl,h2,h3⟩:=hR
   cases hag:a'.agg with
   | true=>
    rw [hag] at h2
    obtain ⟨c0,rfl,h2⟩:=h2
    obtain ⟨x,u1,O1,ρ1,e1,g1,l1,z1,F1⟩:=iha e hM h2 hmd
    have hmd1:md=false->u1.lt=[]:=fun h=>(l1 h).trans (hmd h)
    obtain ⟨y,u2,O2,ρ2,e2,g2,l2,z2,F2⟩:=ihb e1 g1.gm (R.mono g1.stp.im g1.stp.pre h3) hmd1
    refine ⟨(x,y),u2,O2,ρ2,e2,g1.trans g2,fun h=>(l2 h).trans (l1 h),by simp only [enc,IV.sz,z1,z2],fun O₂ ρ₂ F=>⟨_,rest,rfl,?_,F2 O₂ ρ₂ F⟩⟩
    rw [agg_of_sz z1,hag]
    exact ⟨c0,rfl,F1 O₂ ρ₂ (F.back g2 (lent_own g1.gm g2 hmd1))⟩
   | false=>
    rw [hag] at h2
    have h2:R O ρ false a' [x0]:=h2
    obtain ⟨x,u1,O1,ρ1,e1,g1,l1,z1,F1⟩:=iha e hM h2 hmd
    have hmd1:md=false->u1.lt=[]:=fun h=>(l1 h).trans (hmd h)
    obtain ⟨y,u2,O2,ρ2,e2,g2,l2,z2,F2⟩:=ihb e1 g1.gm (R.mono g1.stp.im g1.stp.pre h3) hmd1
    refine ⟨(x,y),u2,O2,ρ2,e2,g1.trans g2,fun h=>(l2 h).trans (l1 h),by simp only [enc,IV.sz,z1,z2],fun O₂ ρ₂ F=>⟨_,rest,rfl,?_,F2 O₂ ρ₂ F⟩⟩
    rw [agg_of_sz z1,hag]
    exact F1 O₂ ρ₂ (F.back g2 (lent_own g1.gm g2 hmd1))
  | false=>
   obtain ⟨c0,d0,rfl,h2,h3⟩:=hR
   obtain ⟨x,u1,O1,ρ1,e1,g1,l1,z1,F1⟩:=iha e hM h2 hmd
   have hmd1:md=false->u1.lt=[]:=fun h=>(l1 h).trans (hmd h)
   obtain ⟨y,u2,O2,ρ2,e2,g2,l2,z2,F2⟩:=ihb e1 g1.gm (R.mono g1.stp.im g1.stp.pre h3) hmd1
   exact ⟨(x,y),u2,O2,ρ2,e2,g1.trans g2,fun h=>(l2 h).trans (l1 h),by simp only [enc,IV.sz,z1,z2],fun O₂ ρ₂ F=>⟨c0,d0,rfl,F1 O₂ ρ₂ (F.back g2 (lent_own g1.gm g2 hmd1)),F2 O₂ ρ₂ F⟩⟩
 | ar n t=>
  intro v u k r ch cs O ρ e hM hR hmd
  simp only [uV] at e
  split at e<;>first | (cases e;done) | skip
  rename_i xs hx
  have hagg:∃ m t' ys,v=.ar m t' ys∧∃ h:Ty.ar m t'=Ty.ar n t,castL h ys=xs:=by
   unfold IV.asAr at hx
   split at hx
   ·rename_i m t' ys
    split at hx
    ·rename_i p _
     simp only [Option.some.injEq] at hx
     exact ⟨m,t',ys,rfl,p.down,hx⟩
    ·cases hx
   ·cases hx
  obtain ⟨m,t',ys,rfl,h,hxs⟩:=hagg
  have hch:=notch hR (by simp) (by simp)
  subst hch
  cases h
  have hxs:ys=xs:=hxs
  subst hxs
  exact UOk.stay _ hM e rfl (fun O₂ ρ₂ F=>TR.mono (t:=.ar n t) F.le hR)
 | ud=>
  intro v u k r ch cs O ρ e hM hR hmd
  simp only [uV] at e
  split at e<;>first | (cases e;done) | skip
  rename_i hag
  have hch:=notch hR (fun h=>by subst h;simp [IV.agg] at hag) (fun a b h=>by subst h;simp [IV.agg] at hag)
  subst hch
  have hl:=R.length hR
  have hz:v.sz=.one:=by cases v<;>simp [IV.agg] at hag<;>rfl
  rw [hz] at hl
  obtain ⟨y,rfl⟩:=List.length_eq_one_iff.1 hl
  exact UOk.stay () hM e hz.symm (fun O₂ ρ₂ _=>⟨y,rfl,R.one hR y (by simp)⟩)
end
end Go.Tw
namespace Go.Tw
set_option linter.unusedSimpArgs false
set_option linter.unusedVariables false
section
variable {O:Own} {ρ:List Hd} {w:World} {md:Bool} {ts:List TSh}
def RL (O:Own) (ρ:List Hd):List IV->List (List Value)->Prop
 | [],cs=>cs=[]
 | v :: vs,cs=>∃ c r,cs=c :: r∧R O ρ false v c∧RL O ρ vs r
theorem RL.mono {O':Own} {ρ':List Hd} (hO:O.le O') (hρ:Pre ρ ρ'):∀ {vs:List IV} {cs:List (List Value)},RL O ρ vs cs->RL O' ρ' vs cs
 | [],cs,h=>h
 | v :: vs,cs,h=>by obtain ⟨c,r,h1,h2,h3⟩:=h;exact ⟨c,r,h1,R.mono hO hρ h2,RL.mono hO hρ h3⟩
def szs (vs:List IV):List Sz:=vs.map IV.sz
theorem uVs_ok {β:Type}:∀ {ss:List Sh} {vs:List IV} {u:Un} {k:dens ss->Un->Option β} {r:β} {cs:List (List Value)} {O:Own} {ρ:List Hd},uVs md ts ss vs u k=some r->Gm O ρ u.tb w->RL O ρ vs cs->(md=false->u.lt=[]) ->
  ∃ x u' O' ρ',k x u'=some r∧Gh (fun _=>md=false) O ρ u O' ρ' u' w∧(md=false->u'.lt=u.lt)∧szs (encs ss x)=szs vs∧∀ O₂ ρ₂,Fut u' O' ρ' w O₂ ρ₂->RL O₂ ρ₂ (encs ss x) cs
 | [],[],u,k,r,cs,O,ρ,e,hM,h,hmd=>⟨(),u,O,ρ,e,.refl hM,fun _=>rfl,rfl,fun _ _ _=>h⟩
 | [],_ :: _,u,k,r,cs,O,ρ,e,hM,h,hmd=>by simp [uVs] at e
 | _ :: _,[],u,k,r,cs,O,ρ,e,hM,h,hmd=>by simp [uVs] at e
 | s :: ss,v :: vs,u,k,r,cs,O,ρ,e,hM,h,hmd=>by
  simp only [uVs] at e
  obtain ⟨c,rest,rfl,h1,h2⟩:=h
  obtain ⟨x,u1,O1,ρ1,e1,g1,l1,z1,F1⟩:=uV_ok e hM h1 hmd
  have hmd1:md=false->u1.lt=[]:=fun h=>(l1 h).trans (hmd h)
  obtain ⟨y,u2,O2,ρ2,e2,g2,l2,z2,F2⟩:=uVs_ok e1 g1.gm (h2.mono g1.stp.im g1.stp.pre) hmd1
  exact ⟨(x,y),u2,O2,ρ2,e2,g1.trans g2,fun h=>(l2 h).trans (l1 h),by simp only [szs,encs,List.map_cons,z1] at z2 ⊢;rw [z2],
   fun O₂ ρ₂ F=>⟨c,rest,rfl,F1 O₂ ρ₂ (F.back g2 (lent_own g1.gm g2 hmd1)),F2 O₂ ρ₂ F⟩⟩
structure Fut2 (u':Un) (O':Own) (ρ':List Hd) (w:World) (O₂:Own) (ρ₂:List Hd):Prop extends Fut u' O' ρ' w O₂ ρ₂ where
 own:∀ b j id,u'.bd[j]? = some id->O' b=.th id->O₂ b=.th j
theorem Fut2.back {M:Nat->Prop} {O1:Own} {ρ1:List Hd} {u u1:Un} {O₂:Own} {ρ₂:List Hd} (g:Gh M O ρ u O1 ρ1 u1 w) (hl:∀ b id,id ∈ u.lt->O b=.th id->O1 b=.th id) (F:Fut2 u1 O1 ρ1 w O₂ ρ₂):Fut2 u O ρ w O₂ ρ₂:=
 ⟨F.toFut.back g hl,fun b j id hj ho=>F.own b j id (bd_ρ g hj) (g.own b id (List.mem_of_getElem? hj) ho)⟩
theorem uT_ok {β:Type} {s:TSh} {x:Thing} {u:Un} {k:s.den->Un->Option β} {r:β} {j id:Nat} (e:uT md ts s x u k=some r) (hM:Gm O ρ u.tb w) (hj:u.bd[j]? = some id) (hx:u.tb[id]? = some x) (hmd:md=false->u.lt=[]) :
  ∃ y u' O' ρ',k y u'=some r∧Gh (fun _=>md=false) O ρ u O' ρ' u' w∧(md=false->u'.lt=u.lt)∧∀ O₂ ρ₂,Fut2 u' O' ρ' w O₂ ρ₂->Holds O₂ ρ₂ w j (encT s y):=by
 have hold:=hM.th _ _ hx
 cases s with
 | blk ty s=>
  simp only [uT] at e
  split at e<;>first | (cases e;done) | skip
  rename_i ty' v
  split at e<;>first | (cases e;done) | skip
  rename_i hty
  have:=Nat.eq_of_beq_eq_true hty
  subst this
  obtain ⟨h,cs,h1,h2,h3,h4,h5⟩:=hold
  obtain ⟨y,u1,O1,ρ1,e1,g1,l1,z1,F1⟩:=uV_ok e hM h4 hmd
  refine ⟨y,u1,O1,ρ1,e1,g1,l1,fun O₂ ρ₂ F=>(g1.stp.pre _ _ h1).elim fun _ hm1=>(F.mt j id _ (bd_ρ g1 hj) hm1).elim fun _ hm=>⟨_,cs,hm,F.own h.b j id (bd_ρ g1 hj) (g1.own h.b id (List.mem_of_getElem? hj) h2),by rw [h3,z1],F1 O₂ ρ₂ F.toFut,h5⟩⟩
 | row E t=>
  simp only [uT] at e
  split at e<;>first | (cases e;done) | skip
  rename_i E' t' xs
  split at e<;>first | (cases e;done) | skip
  rename_i xs' hE hcast
  have:=Nat.eq_of_beq_eq_true hE
  subst this
  obtain ⟨e1,he1⟩:=castR_ok hcast
  subst e1
  have he1:xs'=xs:=he1
  subst he1
  obtain ⟨h,es,h1,h2,h3,h4,h5⟩:=hold
  exact ⟨xs',u,O,ρ,e,.refl hM,fun _=>rfl,fun O₂ ρ₂ F=>(F.mt j id h hj h1).elim fun _ hm=>⟨_,es,hm,h2,fun b hb=>F.own b j id hj (h3 b hb),h4.mono (fun _ _=>TR.mono F.le),h5⟩⟩
 | fz t=>
  simp only [uT] at e
  split at e<;>first | (cases e;done) | skip
  rename_i t' xs
  split at e<;>first | (cases e;done) | skip
  rename_i xs' hcast
  obtain ⟨e1,he1⟩:=castR_ok hcast
  subst e1
  have he1:xs'=xs:=he1
  subst he1
  obtain ⟨h,h1,h2,h3⟩:=hold
  exact ⟨xs',u,O,ρ,e,.refl hM,fun _=>rfl,fun O₂ ρ₂ F=>(F.mt j id h hj h1).elim fun _ hm=>⟨_,hm,h2,TR.mono F.le h3⟩⟩
 | no=>exact ⟨(),u,O,ρ,e,.refl hM,fun _=>rfl,fun _ _ _=>trivial⟩
 | mp kt vt=>
  simp only [uT] at e
  split at e<;>first | (cases e;done) | skip
  rename_i kt' vt' xs
  split at e<;>first | (cases e;done) | skip
  rename_i xs' hcast
  obtain ⟨e1,e2,he1⟩:=castM_ok hcast
  subst e1 e2
  have he1:xs'=xs:=he1
  subst he1
  obtain ⟨h,es,h1,h2,h3,h4⟩:=hold
  exact ⟨xs',u,O,ρ,e,.refl hM,fun _=>rfl,fun O₂ ρ₂ F=>(F.mt j id h hj h1).elim fun _ hm=>⟨_,es,hm,F.own h.b j id hj h2,h3,h4.mono F.le⟩⟩
 | it=>
  simp only [uT] at e
  split at e<;>first | (cases e;done) | skip
  rename_i n seen
  obtain ⟨h,h1,h2,bm,h3,h4⟩:=hold
  exact ⟨(n,seen),u,O,ρ,e,.refl hM,fun _=>rfl,fun O₂ ρ₂ F=>(F.mt j id h hj h1).elim fun _ hm=>⟨_,hm,F.own h.b j id hj h2,bm,h3,h4⟩⟩
 | rr E Ei t=>
  simp only [uT] at e
  split at e<;>first | (cases e;done) | skip
  rename_i E' Ei' t' rows out
  split at e<;>first | (cases e;done) | skip
  rename_i rows' hE hEi hcast
  have:=Nat.eq_of_beq_eq_true hE
  subst this
  have:=Nat.eq_of_beq_eq_true hEi
  subst this
  obtain ⟨e1,he1⟩:=castRr_ok hcast
  subst e1
  have he1:rows'=rows:=he1
  subst he1
  obtain ⟨h,es,h1,h2,h3,h4,h5,h6⟩:=hold
  exact ⟨(rows',out),u,O,ρ,e,.refl hM,fun _=>rfl,fun O₂ ρ₂ F=>⟨h,es,F.mx j id h hj h1,h2,fun b hb=>F.own b j id hj (h3 b hb),h4,h5,h6.frame (fun _ _=>TR.mono F.le) (fun b hb=>⟨F.own b j id hj hb,rfl⟩)⟩⟩
theorem uTs_ok {β:Type}:∀ {ss:List TSh} {j:Nat} {u:Un} {k:tdens ss->Un->Option β} {r:β} {O:Own} {ρ:List Hd},uTs md ts j ss u k=some r->Gm O ρ u.tb w->(md=false->u.lt=[]) ->
  ∃ y u' O' ρ',k y u'=some r∧Gh (fun _=>md=false) O ρ u O' ρ' u' w∧(md=false->u'.lt=u.lt)∧∀ O₂ ρ₂,Fut2 u' O' ρ' w O₂ ρ₂->∀ q x,(encTs ss y)[q]? = some x->Holds O₂ ρ₂ w (j + q) x
 | [],j,u,k,r,O,ρ,e,hM,hmd=>⟨(),u,O,ρ,e,.refl hM,fun _=>rfl,fun _ _ _ q x h=>by simp [encTs] at h⟩
 | s :: ss,j,u,k,r,O,ρ,e,hM,hmd=>by
  simp only [uTs] at e
  split at e<;>first | (cases e;done) | skip
  rename_i id hj
  split at e<;>first | (cases e;done) | skip
  rename_i x hx
  rw [nth_eq] at hj hx
  obtain ⟨y,u1,O1,ρ1,e1,g1,l1,F1⟩:=uT_ok e hM hj hx hmd
  have hmd1:md=false->u1.lt=[]:=fun h=>(l1 h).trans (hmd h)
  obtain ⟨z,u2,O2,ρ2,e2,g2,l2,F2⟩:=uTs_ok e1 g1.gm hmd1
  refine ⟨(y,z),u2,O2,ρ2,e2,g1.trans g2,fun h=>(l2 h).trans (l1 h),fun O₂ ρ₂ F q x' hq=>?_⟩
  cases q with
  | zero=>
   simp [encTs] at hq;subst hq
   exact F1 O₂ ρ₂ (F.back g2 (lent_own g1.gm g2 hmd1))
  | succ q=>
   have:=F2 O₂ ρ₂ F q x' (by simpa [encTs] using hq)
   rw [show j + (q + 1)=j + 1 + q from by omega];exact this
def rc (bd:List Nat) (ρ:List Hd):List Hd:=bd.map fun id=>ρ.getD id ⟨0,.nil,.bool false,[]⟩
theorem rc_mx (bd:List Nat) (ρ:List Hd) (j id:Nat) (h:Hd) (hj:bd[j]? = some id) (hh:ρ[id]? = some h):(rc bd ρ)[j]? = some h:=by
 simp [rc,hj,List.getD_eq_getElem?_getD,hh]
theorem rc_mt (bd:List Nat) (ρ:List Hd):Mt bd ρ (rc bd ρ):=fun j id h hj hh=>⟨[],by
 rw [h.more_nil];simp [rc,hj,List.getD_eq_getElem?_getD,hh]⟩
theorem Oc_le (bd lt:List Nat) (O:Own) (w:World):O.le (Oc bd lt O w):=fun b all e=>by simp only [Oc,e]
structure Uni (O:Own) (ρ:List Hd) (tb:Tbl) (bd:List Nat) (w:World) (md:Bool) (ss:List Sh) (ts:List TSh) (cs:List (List Value)) (vs:List IV) (x:dens ss) (y:tdens ts) (u':Un) (O':Own) (ρ':List Hd):Prop where
 gh:Gh (fun _=>md=false) O ρ ⟨bd,tb,[]⟩ O' ρ' u' w
 lt:md=false->u'.lt=[]
 gm:Gm (Oc u'.bd u'.lt O' w) (rc u'.bd ρ') (encTs ts y) w
 rl:RL (Oc u'.bd u'.lt O' w) (rc u'.bd ρ') (encs ss x) cs
 sz:szs (encs ss x)=szs vs
 len:u'.bd.length=ts.length
 nd:u'.bd.Nodup
 apart:∀ i,i ∈ u'.lt->i ∉ u'.bd
 in_:∀ i,i ∈ u'.bd->i < u'.tb.length
theorem uni_ok {β:Type} {ss:List Sh} {bd:List Nat} {vs:List IV} {tb:Tbl} {k:dens ss->tdens ts->Un->Option β} {r:β} {cs:List (List Value)} (e:uni md ss ts bd vs tb k=some r) (hM:Gm O ρ tb w) (hR:RL O ρ vs cs) (hnd:bd.Nodup) (hbd:∀ i,i ∈ bd->i < tb.length) :
  ∃ x y u' O' ρ',k x y u'=some r∧Uni O ρ tb bd w md ss ts cs vs x y u' O' ρ':=by
 unfold uni at e
 obtain ⟨x,u1,O1,ρ1,e1,g1,l1,z1,F1⟩:=uVs_ok e hM hR (fun _=>rfl)
 have hmd1:md=false->u1.lt=[]:=fun h=>(l1 h)
 obtain ⟨y,u2,O2,ρ2,e2,g2,l2,F2⟩:=uTs_ok e1 g1.gm hmd1
 split at e2<;>first | (cases e2;done) | skip
 rename_i hlen hap
 have hlen:=Nat.eq_of_beq_eq_true hlen
 have g:=g1.trans g2
 have hnd2:=g.nd hnd
 have hap':=apart_ok hap
 have hF:Fut2 u2 O2 ρ2 w (Oc u2.bd u2.lt O2 w) (rc u2.bd ρ2):=by
  refine ⟨⟨Oc_le _ _ _ _,rc_mx _ _,fun b id a ty fz hi ho hh=>?_⟩,fun b j id hj ho=>?_⟩
  ·have hn:idx u2.bd id=none:=by
    cases hi2:idx u2.bd id with
    | none=>rfl
    | some j=>exact absurd (List.mem_of_getElem? (idx_some hi2)) (hap' id hi)
   have hs:∃ j,idx u2.lt id=some j:=by
    cases hi2:idx u2.lt id with
    | none=>exact absurd hi (idx_none hi2)
    | some j=>exact ⟨j,rfl⟩
   obtain ⟨j,hj⟩:=hs
   simp only [Oc,ho,hn,hj,hh]
  ·simp only [Oc,ho,idx_of_get hnd2 hj]
 refine ⟨x,y,u2,O2,ρ2,e2,g,fun h=>(l2 h).trans (hmd1 h),⟨fun b all hb=>?_,fun b hb=>?_,?_,fun j t ht=>?_⟩,F1 _ _ (hF.toFut.back g2 (lent_own g1.gm g2 hmd1)),z1,hlen,hnd2,hap',g.in_ hbd⟩
 ·simp only [Oc] at hb
  split at hb
  ·rename_i all' ho;cases hb;exact g2.gm.im b all ho
  ·cases hb
  ·rename_i id ho
   split at hb
   ·cases hb
   ·split at hb
    ·split at hb
     ·rename_i a ty fz hh;cases hb;exact ⟨ty,fz,by simpa using hh⟩
     ·cases hb
    ·cases hb
 ·simp only [Oc,g2.gm.lt b hb]
 ·simp [rc,hlen,encTs_len]
 ·have:=F2 _ _ hF j t ht
  simpa using this
theorem Stp.oc {O0 O':Own} {ρ0 ρ':List Hd} {w0 w:World} {bd lt:List Nat} (h:Stp (fun _=>True) O0 ρ0 w0 O' ρ' w) (hb:∀ i,i < ρ0.length->bd[i]? = some i):Stp (fun _=>True) O0 ρ0 w0 (Oc bd lt O' w) (rc bd ρ') w:=by
 refine ⟨fun i x hx=>?_,h.im.trans (Oc_le _ _ _ _),fun b hb' e=>?_,fun b id _ _ hn=>absurd trivial hn,h.kept⟩
 ·obtain ⟨l,h1⟩:=h.pre _ _ hx
  obtain ⟨m,h2⟩:=rc_mt bd ρ' i i _ (hb i (List.getElem?_eq_some_iff.1 hx).1) h1
  exact ⟨l ++ m,by rw [← Hd.more_more];exact h2⟩
 ·simp only [Oc,h.no b hb' e]
end
end Go.Tw
namespace Go.Tw
set_option linter.unusedSimpArgs false
set_option linter.unusedVariables false
structure Ct where
 m:Nat
 A:List Sh
 T:List TSh
 B:List Sh
 U:List TSh
 run:(β:Type)->dens A->tdens T->(dens B->tdens U->Option β)->Option β
 nat:∀ (β:Type) x y (k:dens B->tdens U->Option β) r,run β x y k=some r->∃ p q,run _ x y (fun p q=>some (p,q))=some (p,q)∧k p q=some r
def vals:List IV->List (List Value)->List Value
 | v :: vs,c :: cs=>(bif v.agg then .agg c.toArray else c.headD (.bool false)) :: vals vs cs
 | _,_=>[]
theorem vals_sz:∀ {vs us:List IV} {cs:List (List Value)},szs vs=szs us->vals vs cs=vals us cs
 | [],[],cs,_=>rfl
 | [],_ :: _,cs,h=>by simp [szs] at h
 | _ :: _,[],cs,h=>by simp [szs] at h
 | v :: vs,u :: us,[],h=>rfl
 | v :: vs,u :: us,c :: cs,h=>by
  simp only [szs,List.map_cons,List.cons.injEq] at h
  simp only [vals,agg_of_sz h.1,vals_sz (vs:=vs) (us:=us) (cs:=cs) h.2]
def resV (vs:List IV) (ds:List (List Value)):Value:=
 match vals vs ds with
 | [x]=>x
 | l=>.tuple l.toArray
def CallK (P:Program) (d:Bool) (f:FuncId) (args:Array Value) (w:World) (Q:Value->World->Prop):Prop:=
 match d with
 | false=>Calls P f args w (Ret Q)
 | true=>CallsD P f args .returning w (fun e u w'=>u=.returning∧Ret Q e w')
theorem CallK.mono {P:Program} {d:Bool} {f:FuncId} {args:Array Value} {w:World} {Q Q':Value->World->Prop} (h:CallK P d f args w Q) (hq:∀ v w',Q v w'->Q' v w'):CallK P d f args w Q':=by
 cases d with
 | false=>
  refine Calls.mono (show Calls P f args w (Ret Q) from h) fun e w' he=>?_
  cases e with
  | returned v=>exact hq v w' he
  | panicked _=>exact he
  | outgrown=>exact he
 | true=>
  refine CallsD.mono (show CallsD P f args .returning w (fun e u w'=>u=.returning∧Ret Q e w') from h) fun e u w' he=>?_
  obtain ⟨h1,he⟩:=he
  refine ⟨h1,?_⟩
  cases e with
  | returned v=>exact hq v w' he
  | panicked _=>exact he
  | outgrown=>exact he
def SoundK (P:Program) (c:Cfg) (d:Bool) (f:FuncId) (ct:Ct):Prop:=
 ∀ x y p q,ct.run _ x y (fun p q=>some (p,q))=some (p,q)->∀ (O:Own) (ρ:List Hd) (w:World) (cs:List (List Value)),GO c O->Gm O ρ (encTs ct.T y) w->RL O ρ (encs ct.A x) cs ->
  CallK P d f (vals (encs ct.A x) cs).toArray w (fun v w'=>∃ O' ρ' ds,Gm O' ρ' (encTs ct.U q) w'∧Stp (fun _=>True) O (ρ.take ct.m) w O' ρ' w'∧RL O' ρ' (encs ct.B p) ds∧v=resV (encs ct.B p) ds)
abbrev Sound (P:Program) (c:Cfg) (f:FuncId) (ct:Ct):Prop:=SoundK P c false f ct
def ren (g:Nat->Nat):IV->IV
 | .rw id=>.rw (g id)
 | .rp id lo hi=>.rp (g id) lo hi
 | .pt id p=>.pt (g id) p
 | .el id j p=>.el (g id) j p
 | .ap id p lo hi=>.ap (g id) p lo hi
 | .ps id n=>.ps (g id) n
 | .mp id=>.mp (g id)
 | .rx id k=>.rx (g id) k
 | .it id mid=>.it (g id) (g mid)
 | .ex t id k j p=>.ex t (g id) k j p
 | .fn f a c=>.fn f (ren g a) (ren g c)
 | .pr a b=>.pr (ren g a) (ren g b)
 | .tu a=>.tu (ren g a)
 | v=>v
def renT (g:Nat->Nat):Thing->Thing
 | .blk ty v=>.blk ty (ren g v)
 | x=>x
theorem ren_sz (g:Nat->Nat):∀ v:IV,(ren g v).sz=v.sz:=by
 intro v
 induction v with
 | pr a b iha ihb=>simp only [ren,IV.sz,iha,ihb]
 | _=>rfl
theorem VR.flat {O O':Own} {t:Ty} {x:t.den} {v:Value} (hf:t.flat=true) (H:VR O t x v):VR O' t x v:=by
 unfold VR at *
 cases e:t.agg with
 | true=>rw [e] at H;obtain ⟨cs,h1,h2⟩:=H;exact ⟨cs,h1,TR.flat hf h2⟩
 | false=>rw [e] at H;exact TR.flat hf H
theorem MR.flat {O O':Own} {kt vt:Ty} (hk:kt.flat=true) (hv:vt.flat=true):∀ {q:Nat} {l:List (kt.den×vt.den)} {es:List MapEntry},MR O kt vt q l es->MR O' kt vt q l es
 | _,[],_,H=>H
 | _,(_,_) :: _,_,⟨e,r,h1,h2,h3,h4,h5⟩=>⟨e,r,h1,h2,TR.flat hk h3,h4.flat hv,MR.flat hk hv h5⟩
def Sh.nr:Sh->Bool
 | .ro _=>false
 | .rn _=>false
 | .re _=>false
 | .fn _ a c=>a.nr && c.nr
 | .pr a b=>a.nr && b.nr
 | .ar _ t=>t.flat
 | _=>true
def TSh.nr:TSh->Bool
 | .blk _ s=>s.nr
 | .row _ t=>t.flat
 | .fz _=>false
 | .no=>true
 | .mp kt vt=>kt.flat && vt.flat
 | .rr _ _ t=>t.flat
 | .it=>true
theorem ren_R {O O2:Own} {ρ ρ2:List Hd} {g:Nat->Nat} (hρ:∀ j h,ρ[j]? = some h->ρ2[g j]? = some h):∀ {s:Sh} {x:s.den} {ch:Bool} {cs:List Value},(O.le O2∨s.nr=true)->R O ρ ch (enc s x) cs->R O2 ρ2 ch (ren g (enc s x)) cs:=by
 intro s
 induction s with
 | ro t=>
  intro x ch cs hle h
  rcases hle with hle | hle
  ·cases ch<;>first | exact h.elim | exact TR.mono hle h
  ·cases hle
 | rn t=>
  intro x ch cs hle h
  rcases hle with hle | hle
  ·cases ch<;>first | exact h.elim | exact ⟨TR.mono hle h.1,h.2⟩
  ·cases hle
 | re t=>
  intro x ch cs hle h
  rcases hle with hle | hle
  ·cases ch<;>first | exact h.elim | (obtain ⟨b,off,c,h1,h2,all,h3,h4⟩:=h;exact ⟨b,off,c,h1,TR.mono hle h2,all,hle _ _ h3,h4⟩)
  ·cases hle
 | rw j=>intro x ch cs hle h;cases ch<;>first | exact h.elim | (obtain ⟨y,h1,h2⟩:=h;exact ⟨y,hρ _ _ h1,h2⟩)
 | rp j=>intro x ch cs hle h;cases ch<;>first | exact h.elim | (obtain ⟨y,z,h1,h2⟩:=h;exact ⟨y,z,hρ _ _ h1,h2⟩)
 | pt j p=>intro x ch cs hle h;cases ch<;>first | exact h.elim | (obtain ⟨y,z,h1,h2⟩:=h;exact ⟨y,z,hρ _ _ h1,h2⟩)
 | mp j=>intro x ch cs hle h;cases ch<;>first | exact h.elim | (obtain ⟨y,h1,h2⟩:=h;exact ⟨y,hρ _ _ h1,h2⟩)
 | rx j=>intro x ch cs hle h;cases ch<;>first | exact h.elim | (obtain ⟨y,v,h1,h2⟩:=h;exact ⟨y,v,hρ _ _ h1,h2⟩)
 | it j jm=>intro x ch cs hle h;cases ch<;>first | exact h.elim | (obtain ⟨y,v,h1,h2,h3⟩:=h;exact ⟨y,v,hρ _ _ h1,hρ _ _ h2,h3⟩)
 | ps j n=>intro x ch cs hle h;cases ch<;>first | exact h.elim | (obtain ⟨y,h1,h2⟩:=h;exact ⟨y,hρ _ _ h1,h2⟩)
 | ap j p=>intro x ch cs hle h;cases ch<;>first | exact h.elim | (obtain ⟨y,z,n,q,h1,h2⟩:=h;exact ⟨y,z,n,q,hρ _ _ h1,h2⟩)
 | fn f a c iha ihc=>
  intro x ch cs hle h
  have ha:O.le O2∨a.nr=true:=hle.imp_right (fun h=>by simp only [Sh.nr,Bool.and_eq_true] at h;exact h.1)
  have hc:O.le O2∨c.nr=true:=hle.imp_right (fun h=>by simp only [Sh.nr,Bool.and_eq_true] at h;exact h.2)
  cases ch<;>first | exact h.elim | (obtain ⟨xs,ys,h1,h2,h3⟩:=h;exact ⟨xs,ys,h1,iha ha h2,ihc hc h3⟩)
 | pr a b iha ihb=>
  intro x ch cs hle h
  have ha:O.le O2∨a.nr=true:=hle.imp_right (fun h=>by simp only [Sh.nr,Bool.and_eq_true] at h;exact h.1)
  have hb:O.le O2∨b.nr=true:=hle.imp_right (fun h=>by simp only [Sh.nr,Bool.and_eq_true] at h;exact h.2)
  cases ch with
  | true=>
   obtain ⟨y,r,h1,h2,h3⟩:=h
   refine ⟨y,r,h1,?_,ihb hb h3⟩
   rw [agg_of_sz (ren_sz g (enc a x.1))]
   cases hg:(enc a x.1).agg with
   | true=>rw [hg] at h2;obtain ⟨c0,h4,h5⟩:=h2;exact ⟨c0,h4,iha ha h5⟩
   | false=>rw [hg] at h2;exact iha ha h2
  | false=>obtain ⟨c0,d0,h1,h2,h3⟩:=h;exact ⟨c0,d0,h1,iha ha h2,ihb hb h3⟩
 | ar n t=>
  intro x ch cs hle h
  rcases hle with hle | hle
  ·cases ch<;>first | exact h.elim | exact TR.mono (t:=.ar n t) hle h
  ·cases ch<;>first | exact h.elim | exact TR.flat (t:=.ar n t) hle h
 | _=>intro x ch cs hle h;cases ch<;>exact h
def gb (bd:List Nat) (n:Nat) (j:Nat):Nat:=
 match nth bd j with
 | some id=>id
 | none=>n + (j - bd.length)
def putAll {α:Type}:List α->List Nat->List α->List α
 | tb,id :: ids,x :: xs=>putAll (tb.set id x) ids xs
 | tb,_,_=>tb
theorem putAll_len {α:Type}:∀ {ids:List Nat} {tb xs:List α},(putAll tb ids xs).length=tb.length
 | [],tb,xs=>by simp [putAll]
 | _ :: _,tb,[]=>by simp [putAll]
 | id :: ids,tb,x :: xs=>by simp only [putAll];rw [putAll_len];simp
theorem putAll_out {α:Type}:∀ {ids:List Nat} {tb xs:List α} {j:Nat},j ∉ ids->(putAll tb ids xs)[j]? = tb[j]?
 | [],tb,xs,j,_=>by simp [putAll]
 | _ :: _,tb,[],j,_=>by simp [putAll]
 | id :: ids,tb,x :: xs,j,h=>by
  simp only [List.mem_cons,not_or] at h
  simp only [putAll]
  rw [putAll_out h.2,List.getElem?_set_ne (Ne.symm h.1)]
theorem putAll_in {α:Type}:∀ {ids:List Nat} {tb xs:List α} {i j:Nat},ids.Nodup->ids[i]? = some j->j < tb.length->i < xs.length->(putAll tb ids xs)[j]? = xs[i]?
 | [],tb,xs,i,j,_,h,_,_=>by simp at h
 | id :: ids,tb,[],i,j,_,_,_,h=>by simp at h
 | id :: ids,tb,x :: xs,0,j,hn,h,hj,hi=>by
  simp at h;subst h
  rw [List.nodup_cons] at hn
  simp only [putAll]
  rw [putAll_out hn.1]
  simp [hj]
 | id :: ids,tb,x :: xs,i + 1,j,hn,h,hj,hi=>by
  rw [List.nodup_cons] at hn
  simp only [putAll]
  rw [putAll_in hn.2 (by simpa using h) (by simpa using hj) (by simpa using hi)];simp
def frzAll:Tbl->List Nat->Option Tbl
 | tb,[]=>some tb
 | tb,id :: ids=>match nth tb id with
  | some (.row _ t xs)=>frzAll (tb.set id (.fz t xs)) ids
  | some (.fz _ _)=>frzAll tb ids
  | _=>none
def chainOf:List IV->IV
 | []=>.un
 | v :: vs=>.pr v (chainOf vs)
def resI:List IV->IV
 | [v]=>v
 | l=>.tu (chainOf l)
def isNil {α:Type}:List α->Bool
 | []=>true
 | _=>false
def safe (ct:Ct) (lt:List Nat):Bool:=isNil lt || (ct.B.all Sh.nr && ct.U.all TSh.nr)
def tbB (m:Nat) (bd:List Nat) (tb1:Tbl) (us:Tbl) (n:Nat):Tbl:=
 putAll tb1 bd ((us.take m).map (renT (gb (bd.take m) n)) ++ List.replicate (bd.length - m) .no) ++ (us.drop m).map (renT (gb (bd.take m) n))
def callF {β:Type} (ct:Ct) (vs:List IV) (tb:Tbl) (k:Option IV->Tbl->List Nat->Option β):Option β:=
 uni true ct.A ct.T [] vs tb fun x y u=>match Nat.ble ct.m ct.U.length && Nat.ble ct.m u.bd.length with
  | true=>match safe ct u.lt with
   | true=>ct.run _ x y fun p q=>
    k (some (resI ((encs ct.B p).map (ren (gb (u.bd.take ct.m) u.tb.length))))) (tbB ct.m u.bd u.tb (encTs ct.U q) u.tb.length) u.bd
   | false=>match frzAll u.tb u.lt with
    | some tb1=>ct.run _ x y fun p q=>
     k (some (resI ((encs ct.B p).map (ren (gb (u.bd.take ct.m) u.tb.length))))) (tbB ct.m u.bd tb1 (encTs ct.U q) u.tb.length) (u.bd ++ u.lt)
    | none=>none
  | false=>none
section
variable {P:Program} {c:Cfg} {O:Own} {ρ:List Hd} {w:World}
theorem frzAll_len:∀ {ids:List Nat} {tb tb1:Tbl},frzAll tb ids=some tb1->tb1.length=tb.length
 | [],tb,tb1,h=>by simp [frzAll] at h;simp [h]
 | id :: ids,tb,tb1,h=>by
  simp only [frzAll] at h
  split at h
  ·rw [frzAll_len h];simp
  ·exact frzAll_len h
  ·cases h
theorem frzAll_get:∀ {ids:List Nat} {tb tb1:Tbl} {j:Nat} {x:Thing},frzAll tb ids=some tb1->tb1[j]? = some x->(tb[j]? = some x∧(j ∈ ids->∃ t xs,x=.fz t xs))∨(j ∈ ids∧∃ E t xs,tb[j]? = some (.row E t xs)∧x=.fz t xs)
 | [],tb,tb1,j,x,h,hx=>by simp [frzAll] at h;subst h;exact .inl ⟨hx,fun h=>by simp at h⟩
 | id :: ids,tb,tb1,j,x,h,hx=>by
  simp only [frzAll] at h
  split at h
  ·rename_i E t xs hb
   rw [nth_eq] at hb
   have hid:=(List.getElem?_eq_some_iff.1 hb).1
   rcases frzAll_get h hx with ⟨h1,h2⟩ | ⟨h1,E',t',xs',h2,h3⟩
   ·rw [List.getElem?_set] at h1
    split at h1
    ·rename_i e;subst e
     have:x=.fz t xs:=by first | (rw [if_pos hid] at h1;cases h1;rfl) | (cases h1;rfl)
     exact .inr ⟨by simp,E,t,xs,hb,this⟩
    ·rename_i e
     refine .inl ⟨h1,fun hj=>?_⟩
     rcases List.mem_cons.1 hj with hj | hj
     ·exact absurd hj.symm e
     ·exact h2 hj
   ·rw [List.getElem?_set] at h2
    split at h2
    ·rename_i e;subst e
     exfalso
     first
      | (rw [if_pos hid] at h2;cases h2)
      | cases h2
    ·exact .inr ⟨by simp [h1],E',t',xs',h2,h3⟩
  ·rename_i t xs hb
   rw [nth_eq] at hb
   rcases frzAll_get h hx with ⟨h1,h2⟩ | ⟨h1,E',t',xs',h2,h3⟩
   ·refine .inl ⟨h1,fun hj=>?_⟩
    rcases List.mem_cons.1 hj with hj | hj
    ·subst hj;rw [hb] at h1;cases h1;exact ⟨_,_,rfl⟩
    ·exact h2 hj
   ·exact .inr ⟨by simp [h1],E',t',xs',h2,h3⟩
  ·cases h
theorem RL.ren {O2:Own} {ρ2:List Hd} {g:Nat->Nat} (hρ:∀ j h,ρ[j]? = some h->ρ2[g j]? = some h):∀ {ss:List Sh} {x:dens ss} {cs:List (List Value)},(O.le O2∨ss.all Sh.nr=true)->RL O ρ (encs ss x) cs->RL O2 ρ2 ((encs ss x).map (ren g)) cs
 | [],x,cs,hle,h=>h
 | s :: ss,x,cs,hle,h=>by
  obtain ⟨c0,r,h1,h2,h3⟩:=h
  refine ⟨c0,r,h1,ren_R hρ (hle.imp_right (fun h=>by simp only [List.all_cons,Bool.and_eq_true] at h;exact h.1)) h2,RL.ren hρ (hle.imp_right (fun h=>by simp only [List.all_cons,Bool.and_eq_true] at h;exact h.2)) h3⟩
theorem szs_ren (g:Nat->Nat):∀ vs:List IV,szs (vs.map (ren g))=szs vs
 | []=>rfl
 | v :: vs=>by simp only [szs,List.map_cons,ren_sz] ; have:=szs_ren g vs;simp only [szs] at this;rw [this]
theorem res_SR:∀ {vs:List IV} {ds:List (List Value)},RL O ρ vs ds->∃ x:SV,SR O ρ (resI vs) x∧x.val=resV vs ds:=by
 have one:∀ {v:IV} {c:List Value},R O ρ false v c->∃ y:S0,S0R O ρ v y∧y.val=(bif v.agg then .agg c.toArray else c.headD (.bool false)):=by
  intro v c h
  cases hv:v.agg with
  | true=>exact ⟨_,S0R.of_agg hv h,rfl⟩
  | false=>
   have hl:=R.length h
   have hz:v.sz.size=1:=by cases v<;>simp [IV.agg] at hv<;>rfl
   rw [hz] at hl
   obtain ⟨u,rfl⟩:=List.length_eq_one_iff.1 hl
   by_cases ho:∃ x,v=.o x
   ·obtain ⟨x,rfl⟩:=ho
    obtain ⟨h1,h2⟩:=h
    cases h1
    exact ⟨x,⟨rfl,h2⟩,rfl⟩
   ·refine ⟨.v u,?_,rfl⟩
    cases v<;>simp [IV.agg] at hv
    case o x=>exact absurd ⟨x,rfl⟩ ho
    all_goals exact ⟨u,rfl,h⟩
 have many:∀ {vs:List IV} {ds:List (List Value)},RL O ρ vs ds->∃ xs:List S0,TuR O ρ (chainOf vs) xs∧xs.map S0.val=vals vs ds:=by
  intro vs
  induction vs with
  | nil=>intro ds h;exact ⟨[],rfl,by simp [vals]⟩
  | cons v vs ih=>
   intro ds h
   obtain ⟨c0,r,rfl,h1,h2⟩:=h
   obtain ⟨y,h3,h4⟩:=one h1
   obtain ⟨xs,h5,h6⟩:=ih h2
   exact ⟨y :: xs,⟨y,xs,rfl,h3,h5⟩,by simp [vals,h4,h6]⟩
 intro vs ds h
 match vs,ds,h with
 | [v],ds,h=>
  obtain ⟨c0,r,rfl,h1,h2⟩:=h
  simp only [RL] at h2;subst h2
  obtain ⟨y,h3,h4⟩:=one h1
  exact ⟨.o y,.of_S0 h3,by simp only [SV.val,h4,resV,vals]⟩
 | [],ds,h=>
  simp only [RL] at h;subst h
  exact ⟨.t [],⟨[],rfl,rfl⟩,by simp [SV.val,resV,vals]⟩
 | v :: u :: vs,ds,h=>
  obtain ⟨xs,h5,h6⟩:=many h
  refine ⟨.t xs,⟨xs,rfl,h5⟩,?_⟩
  obtain ⟨c0,r,rfl,h1,c1,r1,rfl,h2,h3⟩:=h
  simp only [SV.val,h6,resV,vals]
def COk' {β:Type} (P:Program) (d:Bool) (c:Cfg) (O:Own) (ρ:List Hd) (w:World) (f:FuncId) (xs:List Value) (k:Option IV->Tbl->List Nat->Option β) (r:β):Prop:=
 ∃ v tb' mu,k (some v) tb' mu=some r∧CallK P d f xs.toArray w (fun x w'=>∃ O' ρ' sv,x=sv.val∧SR O' ρ' v sv∧Gm O' ρ' tb' w'∧Stp (· ∈ mu) O ρ w O' ρ' w')
theorem callF_ok {β:Type} {d:Bool} {ct:Ct} {f:FuncId} {vs:List IV} {tb:Tbl} {k:Option IV->Tbl->List Nat->Option β} {r:β} {cs:List (List Value)} (hS:SoundK P c d f ct) (e:callF ct vs tb k=some r) (hG:GO c O) (hM:Gm O ρ tb w) (hR:RL O ρ vs cs):COk' P d c O ρ w f (vals vs cs) k r:=by
 unfold callF at e
 obtain ⟨x,y,u,O1,ρ1,e,U⟩:=uni_ok e hM hR List.nodup_nil (by simp)
 split at e<;>first | (cases e;done) | skip
 rename_i hle
 simp only [Bool.and_eq_true,Nat.ble_eq] at hle
 obtain ⟨hle,hmb⟩:=hle
 have key:∀ (fz:Bool) (tb1:Tbl) (p:dens ct.B) (q:tdens ct.U),(fz=false->tb1=u.tb∧safe ct u.lt=true)->(fz=true->frzAll u.tb u.lt=some tb1)->ct.run _ x y (fun p q=>some (p,q))=some (p,q) ->
   CallK P d f (vals vs cs).toArray w (fun z w'=>∃ O' ρ' sv,z=sv.val∧SR O' ρ' (resI ((encs ct.B p).map (ren (gb (u.bd.take ct.m) u.tb.length)))) sv ∧
    Gm O' ρ' (tbB ct.m u.bd tb1 (encTs ct.U q) u.tb.length) w'∧Stp (· ∈ u.bd ++ (bif fz then u.lt else [])) O ρ w O' ρ' w'):=by
  intro fz tb1 p q hfz0 hfz1 hrun
  have hGO:GO c (Oc u.bd u.lt O1 w):=hG.mono (U.gh.stp.im.trans (Oc_le _ _ _ _))
  have hcall:=hS x y p q hrun _ _ w cs hGO U.gm U.rl
  rw [vals_sz U.sz] at hcall
  refine hcall.mono fun z w' he=>?_
  ·obtain ⟨Oq,ρq,ds,gq,sq,rq,rfl⟩:=he
   have hn:ρ1.length=u.tb.length:=U.gh.gm.len
   have hm:ρq.length=ct.U.length:=by rw [gq.len,encTs_len]
   have htb1:tb1.length=u.tb.length:=by
    cases fz with
    | false=>rw [(hfz0 rfl).1]
    | true=>exact frzAll_len (hfz1 rfl)
   have hkeep:∀ b,b < w.heap.size->(∀ j,Oc u.bd u.lt O1 w b ≠ .th j)->w'.heap[b]? = w.heap[b]?:=fun b hb hn=>sq.kept.block b hb (fun ⟨j,_,e⟩=>hn j e)
   have hlow:∀ b,O1 b ≠ .no->b < w.heap.size:=fun b h=>by
    rcases Nat.lt_or_ge b w.heap.size with h' | h'
    ·exact h'
    ·exact absurd (U.gh.gm.lt b h') h
   let g:=gb (u.bd.take ct.m) u.tb.length
   have htk:(u.bd.take ct.m).length=ct.m:=by rw [List.length_take];omega
   let rl:Ow->Ow:=fun o=>match o with
    | .th j=>.th (g j)
    | o=>o
   let O2:Own:=fun b=>if b < w.heap.size then (match O1 b with
    | .im all=>.im all
    | .no=>.no
    | .th id=>match idx u.bd id with
     | some _=>rl (Oq b)
     | none=>bif fz then (match idx u.lt id with
      | some _=>Oc u.bd u.lt O1 w b
      | none=>.th id) else .th id) else rl (Oq b)
   let ρ2:=putAll ρ1 (u.bd.take ct.m) ρq ++ ρq.drop ct.m
   have hpl:(putAll ρ1 (u.bd.take ct.m) ρq).length=u.tb.length:=by rw [putAll_len];exact hn
   have hndm:(u.bd.take ct.m).Nodup:=U.nd.sublist (List.take_sublist _ _)
   have hin:∀ j id:Nat,(u.bd.take ct.m)[j]? = some id->ρ2[id]? = ρq[j]?:=by
    intro j id hid
    have hjm:j < ct.m:=by
     have:=(List.getElem?_eq_some_iff.1 hid).1
     omega
    have hlt:=U.in_ id (List.mem_of_mem_take (List.mem_of_getElem? hid))
    show (putAll ρ1 (u.bd.take ct.m) ρq ++ ρq.drop ct.m)[id]? = _
    rw [List.getElem?_append_left (by rw [hpl];exact hlt)]
    exact putAll_in hndm hid (by rw [hn];exact hlt) (by rw [hm];omega)
   have hat:∀ {i:Nat} {h:Hd},i ∉ u.bd.take ct.m->ρ1[i]? = some h->ρ2[i]? = some h:=by
    intro i h hi e
    show (putAll ρ1 (u.bd.take ct.m) ρq ++ ρq.drop ct.m)[i]? = _
    have:=(List.getElem?_eq_some_iff.1 e).1
    rw [List.getElem?_append_left (by rw [hpl];omega),putAll_out hi];exact e
   have hpre:Pre ρ1 ρ2:=by
    intro i h e
    by_cases hi:i ∈ u.bd.take ct.m
    ·obtain ⟨j,hj,hj2⟩:=List.mem_iff_getElem.1 hi
     have hid:(u.bd.take ct.m)[j]? = some i:=by rw [List.getElem?_eq_getElem hj,hj2]
     have hjm:j < ct.m:=by omega
     have hid2:=hid
     rw [List.getElem?_take,if_pos hjm] at hid2
     have h2:((rc u.bd ρ1).take ct.m)[j]? = some h:=by
      rw [List.getElem?_take,if_pos hjm]
      simp [rc,hid2,List.getD_eq_getElem?_getD,e]
     obtain ⟨l,h3⟩:=sq.pre j _ h2
     exact ⟨l,by rw [hin j i hid];exact h3⟩
    ·exact ⟨[],by rw [h.more_nil];exact hat hi e⟩
   have hρ:∀ j h,ρq[j]? = some h->ρ2[g j]? = some h:=by
    intro j h hj
    show (putAll ρ1 (u.bd.take ct.m) ρq ++ ρq.drop ct.m)[gb (u.bd.take ct.m) u.tb.length j]? = some h
    unfold gb
    split
    ·rename_i id hid
     rw [nth_eq] at hid
     exact (hin j id hid).trans hj
    ·rename_i hid
     rw [nth_eq] at hid
     have hjm:ct.m≤j:=by rw [List.getElem?_eq_none_iff,htk] at hid;exact hid
     rw [htk,List.getElem?_append_right (by rw [hpl];omega),hpl]
     rw [show u.tb.length + (j - ct.m) - u.tb.length=j - ct.m from by omega,List.getElem?_drop,show ct.m + (j - ct.m)=j from by omega]
     exact hj
   have hle1:O1.le O2:=fun b all hb=>by
    show (if b < w.heap.size then _ else _)=_
    rw [if_pos (hlow b (by rw [hb];simp))];simp only [hb]
   have back:∀ b,b < w.heap.size->(∃ all,O1 b=.im all∧Oq b=.im all)∨(∃ id j,O1 b=.th id∧idx u.bd id=some j)∨(∃ id k all,O1 b=.th id∧idx u.bd id=none∧idx u.lt id=some k∧Oc u.bd u.lt O1 w b=.im all∧Oq b=.im all)∨(Oq b=.no∧∀ all,O1 b ≠ .im all):=by
    intro b hb
    cases ho:O1 b with
    | im all=>exact .inl ⟨all,rfl,sq.im b all (by simp only [Oc,ho])⟩
    | no=>exact .inr (.inr (.inr ⟨sq.no b hb (by simp only [Oc,ho]),by simp⟩))
    | th id=>
     cases hi:idx u.bd id with
     | some j=>exact .inr (.inl ⟨id,j,rfl,hi⟩)
     | none=>
      cases hl:idx u.lt id with
      | none=>exact .inr (.inr (.inr ⟨sq.no b hb (by simp only [Oc,ho,hi,hl]),by simp⟩))
      | some k=>
       cases hh:w.heap[b]? with
       | none=>exact .inr (.inr (.inr ⟨sq.no b hb (by simp only [Oc,ho,hi,hl,hh]),by simp⟩))
       | some ob=>
        cases ob with
        | cells a ty fzz=>
         have:Oc u.bd u.lt O1 w b=.im a.toList:=by simp only [Oc,ho,hi,hl,hh]
         exact .inr (.inr (.inl ⟨id,k,a.toList,rfl,hi,hl,this,sq.im b _ this⟩))
        | _=>exact .inr (.inr (.inr ⟨sq.no b hb (by simp only [Oc,ho,hi,hl,hh]),by simp⟩))
   have hown:∀ b i,Oq b=.th i->O2 b=.th (g i):=by
    intro b i hb
    show (if b < w.heap.size then _ else _)=_
    by_cases hbs:b < w.heap.size
    ·rw [if_pos hbs]
     rcases back b hbs with ⟨all,_,h⟩ | ⟨id,j,ho,hi⟩ | ⟨_,_,_,_,_,_,_,h⟩ | ⟨h,_⟩
     ·rw [h] at hb;cases hb
     ·simp only [ho,hi,hb,rl]
     ·rw [h] at hb;cases hb
     ·rw [h] at hb;cases hb
    ·rw [if_neg hbs];simp only [hb,rl]
   have hinc:Oq.le O2∨(ct.B.all Sh.nr=true∧ct.U.all TSh.nr=true):=by
    have yes:(fz=true∨u.lt=[])->Oq.le O2:=by
     intro hor b all hb
     show (if b < w.heap.size then _ else _)=_
     by_cases hbs:b < w.heap.size
     ·rw [if_pos hbs]
      rcases back b hbs with ⟨all',h1,h⟩ | ⟨id,j,ho,hi⟩ | ⟨id,kk,all',h1,h2,h3,h4,h5⟩ | ⟨h,_⟩
      ·rw [h] at hb;cases hb;simp only [h1]
      ·simp only [ho,hi,hb,rl]
      ·rcases hor with hor | hor
       ·subst hor
        rw [h5] at hb;cases hb
        simp only [h1,h2,h3,h4,cond_true]
       ·rw [hor] at h3;simp [idx] at h3
      ·rw [h] at hb;cases hb
     ·rw [if_neg hbs];simp only [hb,rl]
    cases fz with
    | true=>exact .inl (yes (.inl rfl))
    | false=>
     have:=(hfz0 rfl).2
     simp only [safe,Bool.or_eq_true,Bool.and_eq_true] at this
     rcases this with h | h
     ·exact .inl (yes (.inr (by cases hl:u.lt with | nil=>rfl | cons _ _=>rw [hl] at h;cases h)))
     ·exact .inr h
   have hthing:∀ i t,(encTs ct.U q)[i]? = some t->Holds O2 ρ2 w' (g i) (renT g t):=by
    intro i t ht
    have hold:=gq.th i t ht
    have hsh:∃ s:TSh,∃ z:s.den,t=encT s z∧(Oq.le O2∨s.nr=true):=by
     have gen:∀ (ss:List TSh) (z:tdens ss) (i:Nat),(Oq.le O2∨ss.all TSh.nr=true)->(encTs ss z)[i]? = some t->∃ s:TSh,∃ z:s.den,t=encT s z∧(Oq.le O2∨s.nr=true):=by
      intro ss
      induction ss with
      | nil=>intro z i _ h;simp [encTs] at h
      | cons s ss ih=>
       intro z i hn h
       cases i with
       | zero=>simp [encTs] at h;exact ⟨s,z.1,h.symm,hn.imp_right (fun h=>by simp only [List.all_cons,Bool.and_eq_true] at h;exact h.1)⟩
       | succ i=>exact ih z.2 i (hn.imp_right (fun h=>by simp only [List.all_cons,Bool.and_eq_true] at h;exact h.2)) (by simpa [encTs] using h)
     exact gen ct.U q i (hinc.imp_right (·.2)) ht
    obtain ⟨s,z,rfl,hnr⟩:=hsh
    cases s with
    | blk ty s=>
     obtain ⟨h,c0,h1,h2,h3,h4,h5⟩:=hold
     exact ⟨h,c0,hρ _ _ h1,hown _ _ h2,by rw [ren_sz];exact h3,ren_R hρ hnr h4,h5⟩
    | row E t=>
     obtain ⟨h,es,h1,h2,h3,h4,h5⟩:=hold
     refine ⟨h,es,hρ _ _ h1,h2,fun b hb=>hown _ _ (h3 b hb),h4.mono (fun _ _ hT=>?_),h5⟩
     rcases hnr with hnr | hnr
     ·exact TR.mono hnr hT
     ·exact TR.flat hnr hT
    | fz t=>
     obtain ⟨h,h1,h2,h3⟩:=hold
     refine ⟨h,hρ _ _ h1,h2,?_⟩
     rcases hnr with hnr | hnr
     ·exact TR.mono hnr h3
     ·cases hnr
    | no=>trivial
    | mp kt vt=>
     obtain ⟨h,es,h1,h2,h3,h4⟩:=hold
     refine ⟨h,es,hρ _ _ h1,hown _ _ h2,h3,?_⟩
     rcases hnr with hnr | hnr
     ·exact h4.mono hnr
     ·simp only [TSh.nr,Bool.and_eq_true] at hnr
      exact h4.flat hnr.1 hnr.2
    | it=>
     obtain ⟨h,h1,h2,bm,h3,h4⟩:=hold
     exact ⟨h,hρ _ _ h1,hown _ _ h2,bm,h3,h4⟩
    | rr E Ei t=>
     obtain ⟨h,es,h1,h2,h3,h4,h5,h6⟩:=hold
     refine ⟨h,es,hρ _ _ h1,h2,fun b hb=>hown _ _ (h3 b hb),h4,h5,h6.frame (fun _ _ hT=>?_) (fun b hb=>⟨hown _ _ hb,rfl⟩)⟩
     rcases hnr with hnr | hnr
     ·exact TR.mono hnr hT
     ·exact TR.flat hnr hT
   have gm2:Gm O2 ρ2 (tbB ct.m u.bd tb1 (encTs ct.U q) u.tb.length) w':=by
    show Gm O2 ρ2 (putAll tb1 u.bd (((encTs ct.U q).take ct.m).map (renT g) ++ List.replicate (u.bd.length - ct.m) .no) ++ ((encTs ct.U q).drop ct.m).map (renT g)) w'
    refine ⟨fun b all hb=>?_,fun b hb=>?_,?_,fun j t ht=>?_⟩
    ·have hb:(if b < w.heap.size then _ else _)=Ow.im all:=hb
     by_cases hbs:b < w.heap.size
     ·rw [if_pos hbs] at hb
      cases ho:O1 b with
      | im all'=>
       simp only [ho] at hb;cases hb
       obtain ⟨ty,fzz,hh⟩:=U.gh.gm.im b all ho
       exact ⟨ty,fzz,by rw [hkeep b hbs (fun j h=>by simp only [Oc,ho] at h;cases h)];exact hh⟩
      | no=>simp only [ho] at hb;cases hb
      | th id=>
       simp only [ho] at hb
       split at hb
       ·simp only [rl] at hb
        split at hb
        ·cases hb
        ·exact gq.im b all hb
       ·cases fz with
        | false=>cases hb
        | true=>
         simp only [cond_true] at hb
         split at hb
         ·obtain ⟨ty,fzz,hh⟩:=U.gm.im b all hb
          exact ⟨ty,fzz,by rw [hkeep b hbs (fun j h=>by rw [hb] at h;cases h)];exact hh⟩
         ·cases hb
     ·rw [if_neg hbs] at hb
      simp only [rl] at hb
      split at hb
      ·cases hb
      ·exact gq.im b all hb
    ·show (if b < w.heap.size then _ else _)=_
     rw [if_neg (by have:=sq.kept.size;omega)]
     simp only [gq.lt b hb,rl]
    ·show (putAll ρ1 (u.bd.take ct.m) ρq ++ ρq.drop ct.m).length=_
     simp only [List.length_append,putAll_len,List.length_map,List.length_drop,encTs_len,hn,hm,htb1]
    ·rcases Nat.lt_or_ge j u.tb.length with hj | hj
     ·rw [List.getElem?_append_left (by rw [putAll_len,htb1];exact hj)] at ht
      cases hi:idx u.bd j with
      | some i=>
       have hbi:=idx_some hi
       have hil:i < u.bd.length:=(List.getElem?_eq_some_iff.1 hbi).1
       rw [putAll_in U.nd hbi (by rw [htb1];exact hj) (by simp [encTs_len];omega)] at ht
       have hml:(((encTs ct.U q).take ct.m).map (renT g)).length=ct.m:=by simp [encTs_len];omega
       rcases Nat.lt_or_ge i ct.m with him | him
       ·rw [List.getElem?_append_left (by rw [hml];exact him)] at ht
        simp only [List.getElem?_map,Option.map_eq_some_iff] at ht
        obtain ⟨t0,ht0,rfl⟩:=ht
        rw [List.getElem?_take] at ht0
        rw [if_pos him] at ht0
        have:=hthing i t0 ht0
        have hg:g i=j:=by show gb _ _ _=_;unfold gb;rw [nth_eq,List.getElem?_take,if_pos him,hbi]
        rw [hg] at this;exact this
       ·rw [List.getElem?_append_right (by rw [hml];exact him)] at ht
        have:=(List.mem_replicate.1 (List.mem_of_getElem? ht)).2
        subst this;trivial
      | none=>
       have hnb:=idx_none hi
       have hnb2:j ∉ u.bd.take ct.m:=fun h=>hnb (List.mem_of_mem_take h)
       rw [putAll_out hnb] at ht
       have stays:∀ t,u.tb[j]? = some t->(fz=true->j ∈ u.lt->∃ t' xs,t=.fz t' xs)->Holds O2 ρ2 w' j t:=by
        intro t ht0 hnf
        have hold:=U.gh.gm.th j t ht0
        have nofr:∀ b,O1 b=.th j->(∀ t' xs,t ≠ .fz t' xs)->O2 b=.th j∧w'.heap[b]? = w.heap[b]?:=by
         intro b hb hne
         have hbs:=hlow b (by rw [hb];simp)
         refine ⟨?_,hkeep b hbs (fun jj h=>?_)⟩
         ·show (if b < w.heap.size then _ else _)=_
          rw [if_pos hbs]
          simp only [hb,hi]
          cases fz with
          | false=>rfl
          | true=>
           simp only [cond_true]
           split
           ·rename_i kk hk
            obtain ⟨t',xs,e⟩:=hnf rfl (List.mem_of_getElem? (idx_some hk))
            exact absurd e (hne t' xs)
           ·rfl
         ·simp only [Oc,hb,hi] at h
          split at h
          ·split at h<;>cases h
          ·cases h
        cases t with
        | blk ty v=>
         obtain ⟨h,c0,h1,h2,h3,h4,h5⟩:=hold
         obtain ⟨n1,n2⟩:=nofr h.b h2 (by simp)
         exact ⟨h,c0,hat hnb2 h1,n1,h3,R.mono hle1 hpre h4,h5.same n2⟩
        | row E t=>
         obtain ⟨h,es,h1,h2,h3,h4,h5⟩:=hold
         exact ⟨h,es,hat hnb2 h1,h2,fun b hb=>(nofr b (h3 b hb) (by simp)).1,h4.mono (fun _ _=>TR.mono hle1),Rs.same (r:=.row E t.size h.v _ es) (fun b hb=>(nofr b (h3 b hb) (by simp)).2) h5⟩
        | fz t xs=>
         obtain ⟨h,h1,h2,h3⟩:=hold
         exact ⟨h,hat hnb2 h1,h2,TR.mono hle1 h3⟩
        | no=>trivial
        | mk=>
         obtain ⟨h,h1,h2,h3⟩:=hold
         obtain ⟨n1,n2⟩:=nofr h.b h2 (by simp)
         exact ⟨h,hat hnb2 h1,n1,by rw [n2];exact h3⟩
        | mp kt vt l=>
         obtain ⟨h,es,h1,h2,h3,h4⟩:=hold
         obtain ⟨n1,n2⟩:=nofr h.b h2 (by simp)
         exact ⟨h,es,hat hnb2 h1,n1,by rw [n2];exact h3,h4.mono hle1⟩
        | it n seen=>
         obtain ⟨h,h1,h2,bm,h3,h4⟩:=hold
         obtain ⟨n1,n2⟩:=nofr h.b h2 (by simp)
         exact ⟨h,hat hnb2 h1,n1,bm,h3,by rw [n2];exact h4⟩
        | rr E Ei t rows out=>
         obtain ⟨h,es,h1,h2,h3,h4,h5,h6⟩:=hold
         exact ⟨h,es,hat hnb2 h1,h2,fun b hb=>(nofr b (h3 b hb) (by simp)).1,Rs.same (r:=.row E 1 h.v out.length es) (fun b hb=>(nofr b (h3 b hb) (by simp)).2) h4,h5,h6.frame (fun _ _=>TR.mono hle1) (fun b hb=>nofr b hb (by simp))⟩
       cases fz with
       | false=>
        rw [(hfz0 rfl).1] at ht
        exact stays t ht (fun h=>by cases h)
       | true=>
        rcases frzAll_get (hfz1 rfl) ht with ⟨h1,h2⟩ | ⟨h1,E,t',xs,h2,rfl⟩
        ·exact stays t h1 (fun _ hj=>h2 hj)
        ·obtain ⟨h,es,h3,h4,h5,h6,h7⟩:=U.gh.gm.th j _ h2
         refine ⟨h,hat hnb2 h3,h4,?_⟩
         refine ⟨h.v,es,rfl,h6.mono (fun _ _=>TR.mono hle1),ofSlAt h7.rd (fun b a ty fzz hn0 hb hh=>?_)⟩
         have ho:=h5 b hb
         have hbs:=hlow b (by rw [ho];simp)
         show (if b < w.heap.size then _ else _)=_
         rw [if_pos hbs]
         have hs:∃ kk,idx u.lt j=some kk:=by
          cases hk:idx u.lt j with
          | none=>exact absurd h1 (idx_none hk)
          | some kk=>exact ⟨kk,rfl⟩
         obtain ⟨kk,hk⟩:=hs
         simp only [ho,hi,hk,cond_true,Oc,hh]
     ·have hlen:(putAll tb1 u.bd (((encTs ct.U q).take ct.m).map (renT g) ++ List.replicate (u.bd.length - ct.m) .no)).length=u.tb.length:=by rw [putAll_len,htb1]
      rw [List.getElem?_append_right (by rw [hlen];exact hj),hlen] at ht
      simp only [List.getElem?_map,Option.map_eq_some_iff,List.getElem?_drop] at ht
      obtain ⟨t0,ht0,rfl⟩:=ht
      have:=hthing _ t0 ht0
      have hg:g (ct.m + (j - u.tb.length))=j:=by
       show gb _ _ _=_
       unfold gb
       rw [nth_eq,List.getElem?_eq_none (by rw [htk];omega)]
       simp only [htk];omega
      rw [hg] at this;exact this
   have stp2:Stp (· ∈ u.bd ++ (bif fz then u.lt else [])) O1 ρ1 w O2 ρ2 w':=by
    refine ⟨hpre,hle1,fun b hb ho=>?_,fun b id hb ho hni=>?_,sq.kept.wide fun b ⟨j,_,ho⟩=>?_⟩
    ·show (if b < w.heap.size then _ else _)=_
     rw [if_pos hb];simp only [ho]
    ·show (if b < w.heap.size then _ else _)=_
     rw [if_pos hb]
     simp only [List.mem_append,not_or] at hni
     have h1:idx u.bd id=none:=by
      cases hi:idx u.bd id with
      | none=>rfl
      | some j=>exact absurd (List.mem_of_getElem? (idx_some hi)) hni.1
     simp only [ho,h1]
     cases fz with
     | false=>rfl
     | true=>
      have h2:idx u.lt id=none:=by
       cases hi:idx u.lt id with
       | none=>rfl
       | some j=>exact absurd (List.mem_of_getElem? (idx_some hi)) hni.2
      simp only [h2,cond_true]
    ·cases h1:O1 b with
     | im all=>simp only [Oc,h1] at ho;cases ho
     | no=>simp only [Oc,h1] at ho;cases ho
     | th id=>
      cases hi:idx u.bd id with
      | some j'=>exact ⟨id,List.mem_append_left _ (List.mem_of_getElem? (idx_some hi)),rfl⟩
      | none=>
       simp only [Oc,h1,hi] at ho
       split at ho
       ·split at ho<;>cases ho
       ·cases ho
   have hrl:RL O2 ρ2 ((encs ct.B p).map (ren g)) ds:=RL.ren hρ (hinc.imp_right (·.1)) rq
   obtain ⟨sv,hsv,hval⟩:=res_SR hrl
   refine ⟨O2,ρ2,sv,?_,hsv,gm2,(U.gh.stp.weak (fun _ h=>by cases h)).trans stp2⟩
   rw [hval]
   simp only [resV,vals_sz (szs_ren g (encs ct.B p))]
 split at e
 ·rename_i hsafe
  obtain ⟨p,q,hrun,hk⟩:=ct.nat _ x y _ r e
  refine ⟨_,_,_,hk,(key false u.tb p q (fun _=>⟨rfl,hsafe⟩) (fun h=>by cases h) hrun).mono fun z w' he=>?_⟩
  obtain ⟨O',ρ',sv,h1,h2,h3,h4⟩:=he
  exact ⟨O',ρ',sv,h1,h2,h3,h4.weak (fun i hi=>by simpa using hi)⟩
 ·split at e<;>first | (cases e;done) | skip
  rename_i tb1 hf
  obtain ⟨p,q,hrun,hk⟩:=ct.nat _ x y _ r e
  refine ⟨_,_,_,hk,(key true tb1 p q (fun h=>by cases h) (fun _=>hf) hrun).mono fun z w' he=>?_⟩
  obtain ⟨O',ρ',sv,h1,h2,h3,h4⟩:=he
  exact ⟨O',ρ',sv,h1,h2,h3,h4.weak (fun i hi=>by simpa using hi)⟩
end
end Go.Tw
