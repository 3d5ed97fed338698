/- The core: ideal values and the evaluator. -/
import Derived.Defers
import Derived.Scope
import Derived.Lib.LaidTab
import Derived.Lib.ItoaNum
import Derived.Lib.Repeat
import Derived.Lib.Split
import Derived.Lib.SplitLaws
import Derived.Below
import Derived.Sort.Grow
import Derived.Deep.Draws
import Derived.RangeFuncWrites
import Derived.RangeFuncLeaves
import Derived.RangeFuncCalls
import Derived.OrdersIn
import Derived.TacticsIn
import Derived.Test.YtiahcmabcbpcpaaGreatDoormK2
set_option linter.unusedSimpArgs false
set_option linter.unusedVariables false
namespace Go.Tw
section
variable {O:Own} {ρ:List Hd} {w:World} {md:Bool} {ts:List aK}
theorem kv {β:Type} {M:Nat->Prop} {j id:Nat} {u:Un} {k:Un->Option β} {r:β} (e:jb j id u k=some r) (hM:Gm O ρ u.tb w) (hid:id < u.tb.length) :
  ∃ u',k u'=some r∧Gh M O ρ u O ρ u' w∧u'.bd[j]? = some id∧u'.lt=u.lt∧u'.tb=u.tb:=by
 unfold jb at e
 split at e
 ·rename_i id' hj
  rw [aS] at hj
  split at e<;>first | (cases e;done) | skip
  rename_i hb
  have:=ay hb
  subst this
  exact ⟨u,e,.refl hM,hj,rfl,rfl⟩
 ·rename_i hj
  split at e<;>first | (cases e;done) | skip
  rename_i hjl hidx
  have hjl:=ay hjl
  split at e<;>first | (cases e;done) | skip
  have hni:=qu hidx
  refine ⟨_,e,⟨hM,.refl _ _ _ _,⟨[id],rfl⟩,fun _ h=>h,fun hn=>?_,fun _ _ _ h=>h,fun hh i hi=>?_,Nat.le_refl _,fun _ _ e=>e⟩,by subst hjl;simp,rfl,rfl⟩
  ·rw [List.nodup_append]
   exact ⟨hn,by simp,fun a ha b hb=>by simp at hb;subst hb;intro e;subst e;exact hni ha⟩
  ·rcases List.mem_append.1 hi with hi | hi
   ·exact hh i hi
   ·simp at hi;subst hi;exact hid
theorem aas {β:Type} {t:Ty} {id:Nat} {u:Un} {k:List t.den->Un->Option β} {r:β} (e:freeze t id u k=some r) (hM:Gm O ρ u.tb w):∃ xs u' O' h,k xs u'=some r∧Gh (fun _=>True) O ρ u O' ρ u' w∧u'.lt=u.lt∧ρ[id]? = some h∧TR O' (.sl t) xs [h.v]∧h.z=t.sz:=by
 unfold freeze at e
 split at e<;>first | (cases e;done) | skip
 ·rename_i E t' xs hb
  split at e<;>first | (cases e;done) | skip
  rename_i xs' hcast hidx
  obtain ⟨e1,aH⟩:=gG hcast
  subst e1
  have aH:xs'=xs:=aH
  subst aH
  rw [aS] at hb
  obtain ⟨O',h,h1,g1,g2,hT,d8,hz⟩:=hM.Eb hb
  have hni:=qu hidx
  refine ⟨xs',_,O',h,e,⟨g1,g2.bD (fun _ _=>trivial),⟨[],by simp⟩,fun _ h=>h,fun h=>h,fun b j hj e=>d8 b j (fun ee=>by subst ee;exact hni hj) e,fun hh i hi=>by simpa using hh i hi,by simp,fun _ _ e=>e⟩,rfl,h1,hT,hz⟩
 ·rename_i t' xs hb
  split at e<;>first | (cases e;done) | skip
  rename_i xs' hcast
  obtain ⟨e1,aH⟩:=gG hcast
  subst e1
  have aH:xs'=xs:=aH
  subst aH
  rw [aS] at hb
  obtain ⟨h,h1,h2,hT⟩:=hM.th _ _ hb
  exact ⟨xs',u,O,h,e,.refl hM,rfl,h1,hT,h2⟩
 ·rename_i E Ei t' rows out hb
  split at e<;>first | (cases e;done) | skip
  rename_i hidx
  obtain ⟨xss,ash,e⟩:=bl e
  split at e<;>first | (cases e;done) | skip
  rename_i xs' hcast
  obtain ⟨e1,aH⟩:=gG hcast
  subst e1
  have aH:xs'=xss:=aH
  subst aH
  rw [aS] at hb
  obtain ⟨O',h,h1,g1,g2,hT,d8,hz⟩:=hM.alm hb ash
  have hni:=qu hidx
  exact ⟨xs',_,O',h,e,⟨g1,g2.bD (fun _ _=>trivial),⟨[],by simp⟩,fun _ h=>h,fun h=>h,fun b j hj e=>d8 b j (fun ee=>by subst ee;exact hni hj) e,fun hh i hi=>by simpa using hh i hi,by simp,fun _ _ e=>e⟩,rfl,h1,hT,hz⟩
def f6 {β:Type} (O:Own) (ρ:List Hd) (w:World) (md:Bool) (s:Sh) (v:IV) (u:Un) (ch:Bool) (cs:List Value) (k:s.den->Un->Option β) (r:β):Prop:=
 ∃ x u' O' ρ',k x u'=some r∧Gh (fun _=>md=false) O ρ u O' ρ' u' w∧(md=false->u'.lt=u.lt)∧(enc s x).sz=v.sz∧∀ aJ aP,oO u' O' ρ' w aJ aP->R aJ aP ch (enc s x) cs
theorem f6.stay {β:Type} {s:Sh} {v:IV} {u:Un} {ch:Bool} {cs:List Value} {k:s.den->Un->Option β} {r:β} (x:s.den) (hM:Gm O ρ u.tb w) (hk:k x u=some r) (hz:(enc s x).sz=v.sz) (h:∀ aJ aP,oO u O ρ w aJ aP->R aJ aP ch (enc s x) cs):f6 O ρ w md s v u ch cs k r:=
 ⟨x,u,O,ρ,hk,.refl hM,fun _=>rfl,hz,h⟩
theorem R.agq {v:IV} {cs:List Value} (h:R O ρ true v cs):v=.un∨∃ a b,v=.pr a b:=by
 cases v<;>first | exact .inl rfl | exact .inr ⟨_,_,rfl⟩ | exact h.elim
theorem Ia {v u:IV} (h:v.sz=u.sz):v.agg=u.agg:=by cases v<;>cases u<;>first | rfl | (simp [IV.sz] at h)
theorem Kh {u u':Un} {M:Nat->Prop} {O':Own} {ρ':List Hd} (g:Gh M O ρ u O' ρ' u' w) {j id:Nat} (h:u.bd[j]? = some id):u'.bd[j]? = some id:=by
 obtain ⟨m,e⟩:=g.bd
 rw [e,List.getElem?_append_left (aM h).1];exact h
theorem ue {O1 O2:Own} {bQ br:List Hd} {u1 u2:Un} (g1:Gm O1 bQ u1.tb w) (g2:Gh (fun _=>md=false) O1 bQ u1 O2 br u2 w) (bX:md=false->u1.lt=[]):∀ b id,id ∈ u1.lt->O1 b=.th id->O2 b=.th id:=by
 intro b id hi ho
 cases md with
 | true=>exact g2.fH.own b id (by
   rcases Nat.lt_or_ge b w.heap.size with h' | h'
   ·exact h'
   ·rw [g1.lt b h'] at ho;cases ho) ho (fun h=>by cases h)
 | false=>rw [bX rfl] at hi;simp at hi
theorem alb {α:Type} {n:Nat} {xs:List α} {y:Vector α n} (h:MT n xs=some y):y.toList=xs:=by
 unfold MT at h
 split at h
 ·cases h;simp [Vector.toList]
 ·cases h
theorem ajK {aJ:Own} {tb:aj} (hM:Gm O ρ tb w) (hle:O.le aJ):∀ {t:Ty} {v:IV} {x:t.den} {l:List Nat} {cs:List Value},oW tb t v=some (x,l)->R O ρ false v cs->(∀ b id a ty fz,id ∈ l->O b=.th id->w.heap[b]? = some (.cells a ty fz)->aJ b=.im a.toList)->TR aJ t x cs:=by
 intro t
 have one:∀ {t:Ty} {v:IV} {x:t.den} {l:List Nat} {cs:List Value},(match eD t v with | some x=>some (x,([]:List Nat)) | none=>none)=some (x,l)->R O ρ false v cs->TR aJ t x cs:=by
  intro t v x l cs e hR
  split at e<;>first | (cases e;done) | skip
  rename_i y hy
  cases e
  exact TR.mono hle (fN hy hR)
 induction t with
 | pr a b bF bK=>
  intro v x l cs e hR hl
  simp only [oW] at e
  split at e<;>first | (cases e;done) | skip
  split at e<;>first | (cases e;done) | skip
  rename_i v u _ _ x1 l1 y1 m1 h1 h2
  cases e
  obtain ⟨c,d,rfl,r1,r2⟩:=hR
  exact ⟨c,d,rfl,bF h1 r1 (fun b id a ty fz hi=>hl b id a ty fz (List.mem_append_left _ hi)),bK h2 r2 (fun b id a ty fz hi=>hl b id a ty fz (List.mem_append_right _ hi))⟩
 | sl t ih=>
  intro v x l cs e hR hl
  simp only [oW] at e
  split at e<;>first | (cases e;done) | skip
  rename_i hag
  have hlen:=R.length hR
  have hz:v.sz.size=1:=by cases v<;>simp [IV.agg] at hag<;>rfl
  rw [hz] at hlen
  obtain ⟨y,rfl⟩:=List.length_eq_one_iff.1 hlen
  obtain ⟨xs,es,hk,hL,hrd,hown⟩:=Gx hM e hR
  cases hk
  have hr:=hrd w (Sm.refl _ _ _)
  refine ⟨y,es,rfl,hL.mono (fun _ _=>TR.mono hle),Ke hr (fun b a ty fz hn hb hh=>?_)⟩
  rcases hown b hn hb with ⟨id,hi,ho⟩ | ⟨all,ho⟩
  ·exact hl b id a ty fz hi ho hh
  ·obtain ⟨ty',B2,BZ⟩:=hM.im b all ho
   rw [hh] at BZ;cases BZ
   simpa using hle b all ho
 | ar n t ih=>
  intro v x l cs e hR hl
  simp only [oW] at e
  split at e<;>first | (cases e;done) | skip
  rename_i xs l' ha
  split at e<;>first | (cases e;done) | skip
  rename_i y hy
  cases e
  show LR (TR aJ t) x.toList cs
  rw [alb hy]
  have arr:∀ (n:Nat) (v:IV) (xs:List t.den) (l:List Nat) (cs:List Value),Dp (oW tb t) n v=some (xs,l)->R O ρ false v cs->(∀ b id a ty fz,id ∈ l->O b=.th id->w.heap[b]? = some (.cells a ty fz)->aJ b=.im a.toList)->LR (TR aJ t) xs cs:=by
   intro n
   induction n with
   | zero=>
    intro v xs l cs ha hR _
    cases v<;>simp only [Dp] at ha<;>first | (cases ha;done) | skip
    cases ha
    exact hR
   | succ n ihn=>
    intro v xs l cs ha hR hl
    cases v<;>simp only [Dp] at ha<;>first | (cases ha;done) | skip
    split at ha<;>first | (cases ha;done) | skip
    rename_i x1 l1 xs1 m1 h1 h2
    cases ha
    obtain ⟨c,d,rfl,r1,r2⟩:=hR
    exact ⟨c,d,rfl,ih h1 r1 (fun b id a ty fz hi=>hl b id a ty fz (List.mem_append_left _ hi)),ihn _ _ _ _ h2 r2 (fun b id a ty fz hi=>hl b id a ty fz (List.mem_append_right _ hi))⟩
  exact arr _ _ _ _ _ ha hR hl
 | _=>intro v x l cs e hR hl;exact one e hR
theorem abI {β:Type}:∀ {s:Sh} {v:IV} {u:Un} {k:s.den->Un->Option β} {r:β} {ch:Bool} {cs:List Value} {O:Own} {ρ:List Hd},uV md ts s v u k=some r->Gm O ρ u.tb w->R O ρ ch v cs->(md=false->u.lt=[])->f6 O ρ w md s v u ch cs k r:=by
 have fL:∀ {v:IV} {ch:Bool} {cs:List Value} {O:Own} {ρ:List Hd},R O ρ ch v cs->(v=.un->False)->(∀ a b,v=.pr a b->False)->ch=false:=fun {v ch cs O ρ} h h1 h2=>by
  cases ch with
  | false=>rfl
  | true=>
   rcases R.agq h with h | ⟨a,b,h⟩
   ·exact (h1 h).elim
   ·exact (h2 a b h).elim
 intro s
 induction s with
 | i=>
  intro v u k r ch cs O ρ e hM hR bX
  simp only [uV] at e
  split at e<;>first | (cases e;done) | skip
  rename_i x hx
  have hv:=lF.1 x hx
  subst hv
  exact f6.stay x hM e rfl (fun aJ aP _=>by cases ch<;>exact hR)
 | u8=>
  intro v u k r ch cs O ρ e hM hR bX
  simp only [uV] at e
  split at e<;>first | (cases e;done) | skip
  rename_i x hx
  have hv:=lF.2.1 x hx
  subst hv
  exact f6.stay x hM e rfl (fun aJ aP _=>by cases ch<;>exact hR)
 | u32=>
  intro v u k r ch cs O ρ e hM hR bX
  simp only [uV] at e
  split at e<;>first | (cases e;done) | skip
  rename_i x hx
  have hv:=lF.2.2.1 x hx
  subst hv
  exact f6.stay x hM e rfl (fun aJ aP _=>by cases ch<;>exact hR)
 | u64=>
  intro v u k r ch cs O ρ e hM hR bX
  simp only [uV] at e
  split at e<;>first | (cases e;done) | skip
  rename_i x hx
  have hv:=lF.2.2.2.1 x hx
  subst hv
  exact f6.stay x hM e rfl (fun aJ aP _=>by cases ch<;>exact hR)
 | bo=>
  intro v u k r ch cs O ρ e hM hR bX
  simp only [uV] at e
  split at e<;>first | (cases e;done) | skip
  rename_i x hx
  have hv:=lF.2.2.2.2.1 x hx
  subst hv
  exact f6.stay x hM e rfl (fun aJ aP _=>by cases ch<;>exact hR)
 | str=>
  intro v u k r ch cs O ρ e hM hR bX
  simp only [uV] at e
  split at e<;>first | (cases e;done) | skip
  rename_i x hx
  have hv:=lF.2.2.2.2.2 x hx
  subst hv
  exact f6.stay x hM e rfl (fun aJ aP _=>by cases ch<;>exact hR)
 | ns=>
  intro v u k r ch cs O ρ e hM hR bX
  simp only [uV] at e
  split at e<;>first | (cases e;done) | skip
  rename_i hx
  have hv:=lS hx
  subst hv
  exact f6.stay () hM e rfl (fun aJ aP _=>by cases ch<;>exact hR)
 | np=>
  intro v u k r ch cs O ρ e hM hR bX
  simp only [uV] at e
  split at e<;>first | (cases e;done) | skip
  exact f6.stay () hM e rfl (fun aJ aP _=>by cases ch<;>exact hR)
 | nf=>
  intro v u k r ch cs O ρ e hM hR bX
  simp only [uV] at e
  split at e<;>first | (cases e;done) | skip
  exact f6.stay () hM e rfl (fun aJ aP _=>by cases ch<;>exact hR)
 | re t=>
  intro v u k r ch cs O ρ e hM hR bX
  simp only [uV] at e
  split at e<;>first | (cases e;done) | skip
  ·rename_i t' x
   have bJ:=fL hR (by simp) (by simp)
   subst bJ
   split at e<;>first | (cases e;done) | skip
   rename_i y hy
   obtain ⟨b,off,c,rfl,h2,all,h3,h4⟩:=hR
   exact f6.stay y hM e rfl (fun aJ aP F=>⟨b,off,c,rfl,TR.mono F.le (fN hy (ju (ρ:=ρ) h2)),all,F.le _ _ h3,h4⟩)
  ·rename_i id p
   have bJ:=fL hR (by simp) (by simp)
   subst bJ
   split at e<;>first | (cases e;done) | skip
   split at e<;>first | (cases e;done) | skip
   rename_i bt v0 hb
   rw [aS] at hb
   obtain ⟨h,off,h1,h2,rfl⟩:=hR
   obtain ⟨h',cs0,h4,h5,h6,h7,h8⟩:=hM.th _ _ hb
   rw [h1] at h4;cases h4
   rw [h6] at h2
   obtain ⟨z,hk,h9,h10,h11⟩:=rN e h7 h2
   split at hk
   rotate_left
   ·split at hk<;>first | (cases hk;done) | skip
    rename_i y l hy
    refine ⟨y,_,O,ρ,hk,⟨hM,.refl _ _ _ _,⟨[],by simp⟩,fun i hi=>List.mem_cons_of_mem _ (List.mem_append_right _ hi),fun h=>h,fun _ _ _ h=>h,fun h=>h,Nat.le_refl _,fun _ _ e=>e⟩,(fun h=>by cases h),rfl,fun aJ aP F=>?_⟩
    obtain ⟨fz,hh,_⟩:=h8
    refine ⟨h.b,off,_,rfl,ajK hM F.le hy h9 (fun b i a ty fz hi ho hh=>F.zP b i a ty fz (List.mem_cons_of_mem _ (List.mem_append_left _ hi)) ho hh),cs0,by simpa using F.zP h.b id _ _ _ (List.mem_cons_self ..) h5 hh,fun j c hj=>?_⟩
    rw [List.getElem?_take] at hj
    split at hj
    ·rw [List.getElem?_drop] at hj;exact hj
    ·cases hj
   rename_i y hy
   refine ⟨y,_,O,ρ,hk,⟨hM,.refl _ _ _ _,⟨[],by simp⟩,fun i hi=>List.mem_cons_of_mem _ hi,fun h=>h,fun _ _ _ h=>h,fun h=>h,Nat.le_refl _,fun _ _ e=>e⟩,(fun h=>by cases h),rfl,fun aJ aP F=>?_⟩
   obtain ⟨fz,hh,_⟩:=h8
   refine ⟨h.b,off,_,rfl,TR.mono F.le (fN hy h9),cs0,by simpa using F.zP h.b id _ _ _ (List.mem_cons_self ..) h5 hh,fun j c hj=>?_⟩
   rw [List.getElem?_take] at hj
   split at hj
   ·rw [List.getElem?_drop] at hj;exact hj
   ·cases hj
 | ro t=>
  intro v u k r ch cs O ρ e hM hR bX
  simp only [uV] at e
  have ab7:∀ {t':Ty} {xs:List t'.den},v=.ro t' xs->(match eZ (Ty.bL t' t) xs with | some xs=>k xs u | none=>none)=some r->f6 O ρ w md (.ro t) v u ch cs k r:=by
   clear e
   intro t' xs hv e
   subst hv
   have bJ:=fL hR (by simp) (by simp)
   subst bJ
   split at e<;>first | (cases e;done) | skip
   rename_i xs' hcast
   obtain ⟨e1,aH⟩:=gG hcast
   subst e1
   have aH:xs'=xs:=aH
   subst aH
   exact f6.stay xs' hM e rfl (fun aJ aP F=>TR.mono F.le hR)
  split at e
  ·
   split at e
   ·exact ab7 rfl e
   ·rename_i ff
    split at e<;>first | (cases e;done) | skip
    rename_i hag
    have bJ:=fL hR (fun h=>by subst h;simp [IV.agg] at hag) (fun a b h=>by subst h;simp [IV.agg] at hag)
    subst bJ
    have hl:=R.length hR
    have hz:v.sz.size=1:=by cases v<;>simp [IV.agg] at hag<;>rfl
    rw [hz] at hl
    obtain ⟨y,rfl⟩:=List.length_eq_one_iff.1 hl
    obtain ⟨xs,es,hk,hL,hrd,hown⟩:=Gx hM e hR
    refine ⟨xs,_,O,ρ,hk,⟨hM,.refl _ _ _ _,⟨[],by simp⟩,fun i hi=>List.mem_append_right _ hi,fun h=>h,fun _ _ _ h=>h,fun h=>h,Nat.le_refl _,fun _ _ e=>e⟩,(fun h=>by cases h),?_,fun aJ aP F=>?_⟩
    ·show Sz.one=v.sz
     cases v<;>first | rfl | (simp [IV.agg] at hag)
    ·have hr:=hrd w (Sm.refl _ _ _)
     refine ⟨y,es,rfl,hL.mono (fun _ _=>TR.mono F.le),Ke hr (fun b a ty fz hn hb hh=>?_)⟩
     rcases hown b hn hb with ⟨id,hi,ho⟩ | ⟨all,ho⟩
     ·exact F.zP b id a ty fz (List.mem_append_left _ hi) ho hh
     ·obtain ⟨ty',B2,BZ⟩:=hM.im b all ho
      rw [hh] at BZ;cases BZ
      simpa using F.le b all ho
  ·
   split at e
   ·exact ab7 rfl e
   ·rename_i id
    have bJ:=fL hR (by simp) (by simp)
    subst bJ
    obtain ⟨h0,h1,rfl,_⟩:=hR
    obtain ⟨xs,u',O',h,hk,g,hlt,h2,hT,hz⟩:=aas e hM
    rw [h1] at h2;cases h2
    exact ⟨xs,u',O',ρ,hk,⟨g.gm,g.fH.bD (fun _ _=>rfl),g.bd,g.lt,g.nd,g.own,g.tt,g.len,g.px⟩,fun _=>hlt,rfl,fun aJ aP F=>TR.mono F.le hT⟩
   ·rename_i id lo hi
    have bJ:=fL hR (by simp) (by simp)
    subst bJ
    obtain ⟨h0,y,h1,rfl,hp⟩:=hR
    obtain ⟨xs,u',O',h,hk,g,hlt,h2,hT,hz⟩:=aas e hM
    rw [h1] at h2;cases h2
    refine ⟨_,u',O',ρ,hk,⟨g.gm,g.fH.bD (fun _ _=>rfl),g.bd,g.lt,g.nd,g.own,g.tt,g.len,g.px⟩,fun _=>hlt,rfl,fun aJ aP F=>?_⟩
    have hT2:=TR.mono F.le hT
    obtain ⟨v',es,eV,hL,hS⟩:=hT2
    cases eV
    rw [hz,Ty.eW] at hp
    obtain ⟨b,n,cp,b',ie,hv,rfl,hlo,hhi,b9⟩:=hp
    have hn:n=xs.length:=by
     obtain ⟨b2,cp2,e2⟩:=abT hS
     rw [hv] at e2;cases e2;rfl
    subst hn
    have hlen:((xs.drop lo).take (hi - lo)).length=hi - lo:=by rw [List.length_take,List.length_drop];omega
    refine ⟨_,_,rfl,((hL.split (fun _ _=>TR.length) lo).2.split (fun _ _=>TR.length) (hi - lo)).1,?_⟩
    rw [hlen]
    rcases b9 with b9 | ⟨ad,rfl,rfl,hc⟩
    ·exact .inl ⟨by omega,_,_,by rw [show hi - lo=0 from by omega]⟩
    ·rw [hv] at hS
     rcases hS with ⟨JE,_⟩ | ⟨b2,off,cap,e2,_,hI⟩
     ·exact .inl ⟨by omega,_,_,by rw [show hi - lo=0 from by omega]⟩
     ·cases e2
      rw [add_zero _ rfl]
      exact .inr ⟨b2,off + lo * t.size,ie,rfl,hc,hI.part _ _⟩
   ·split at e<;>first | (cases e;done) | skip
    rename_i hn
    have hv:=lS hn
    subst hv
    have bJ:=fL hR (by simp) (by simp)
    subst bJ
    exact f6.stay [] hM e rfl (fun aJ aP F=>by obtain ⟨rfl,_⟩:=hR;exact ⟨_,[],rfl,rfl,.inl ⟨rfl,none,0,rfl⟩⟩)
 | rw j=>
  intro v u k r ch cs O ρ e hM hR bX
  simp only [uV] at e
  split at e
  ·rename_i id
   have bJ:=fL hR (by simp) (by simp)
   subst bJ
   obtain ⟨h,h1,rfl,h3⟩:=hR
   have hid:id < u.tb.length:=by rw [← hM.len];exact (aM h1).1
   obtain ⟨u',hk,g,hj,hlt,htb⟩:=kv (M:=fun _=>md=false) e hM hid
   exact ⟨(),u',O,ρ,hk,g,fun _=>hlt,rfl,fun aJ aP F=>(F.mt j id h hj h1).elim fun _ hm=>⟨_,hm,rfl,h3⟩⟩
  ·rename_i ff
   split at e<;>first | (cases e;done) | skip
   ·rename_i E t hn ht
    have hv:=lS hn
    subst hv
    have bJ:=fL hR (by simp) (by simp)
    subst bJ
    obtain ⟨rfl,_⟩:=hR
    have hnew:=hM.new (h:=⟨0,t.sz,.slice none 0 0,[]⟩) (x:=.row E t []) (fun _=>false) (Kept.refl _ w) (fun b hb=>by cases hb)
     ⟨⟨0,t.sz,.slice none 0 0,[]⟩,[],by rw [← hM.len];simp,rfl,fun b hb=>hb.elim,rfl,⟨by simp,.inl ⟨rfl,rfl⟩⟩⟩
    have g1:Gm O (ρ ++ [⟨0,t.sz,.slice none 0 0,[]⟩]) (u.tb ++ [.row E t []]) w:=hnew.1
    have g2:aR (fun _=>False) O ρ w O (ρ ++ [⟨0,t.sz,.slice none 0 0,[]⟩]) w:=hnew.2
    obtain ⟨u',hk,g,hj,hlt,htb⟩:=kv (M:=fun _=>md=false) e g1 (by simp)
    have g0:Gh (fun _=>md=false) O ρ u O (ρ ++ [⟨0,t.sz,.slice none 0 0,[]⟩]) { u with tb:=u.tb ++ [.row E t []] } w:=
     ⟨g1,g2.bD (fun _ h=>h.elim),⟨[],by simp⟩,fun _ h=>h,fun h=>h,fun _ _ _ h=>h,fun hh i hi=>by have:=hh i hi;simp;omega,by simp,fun _ _ e=>dR _ e⟩
    refine ⟨(),u',O,_,hk,g0.trans g,fun _=>hlt,rfl,fun aJ aP F=>(F.mt j _ ⟨0,t.sz,.slice none 0 0,[]⟩ hj (by rw [← hM.len];simp)).elim fun _ hm=>⟨_,hm,rfl,rfl⟩⟩
   ·rename_i E Ei t hn ht
    have hv:=lS hn
    subst hv
    have bJ:=fL hR (by simp) (by simp)
    subst bJ
    obtain ⟨rfl,_⟩:=hR
    have hnew:=hM.new (h:=⟨0,.one,.slice none 0 0,[]⟩) (x:=.rr E Ei t [] []) (fun _=>false) (Kept.refl _ w) (fun b hb=>by cases hb)
     ⟨⟨0,.one,.slice none 0 0,[]⟩,[],by rw [← hM.len];simp,rfl,fun b hb=>hb.elim,⟨by simp,.inl ⟨rfl,rfl⟩⟩,rfl,⟨rfl,fun k xs h=>by simp at h,fun k xs k' xs' v v' b h=>by simp at h,fun k xs v b h=>by simp at h,fun k v h=>by simp at h⟩⟩
    have g1:Gm O (ρ ++ [⟨0,.one,.slice none 0 0,[]⟩]) (u.tb ++ [.rr E Ei t [] []]) w:=hnew.1
    have g2:aR (fun _=>False) O ρ w O (ρ ++ [⟨0,.one,.slice none 0 0,[]⟩]) w:=hnew.2
    obtain ⟨u',hk,g,hj,hlt,htb⟩:=kv (M:=fun _=>md=false) e g1 (by simp)
    have g0:Gh (fun _=>md=false) O ρ u O (ρ ++ [⟨0,.one,.slice none 0 0,[]⟩]) { u with tb:=u.tb ++ [.rr E Ei t [] []] } w:=
     ⟨g1,g2.bD (fun _ h=>h.elim),⟨[],by simp⟩,fun _ h=>h,fun h=>h,fun _ _ _ h=>h,fun hh i hi=>by have:=hh i hi;simp;omega,by simp,fun _ _ e=>dR _ e⟩
    exact ⟨(),u',O,_,hk,g0.trans g,fun _=>hlt,rfl,fun aJ aP F=>(F.mt j _ ⟨0,.one,.slice none 0 0,[]⟩ hj (by rw [← hM.len];simp)).elim fun _ hm=>⟨_,hm,rfl,rfl⟩⟩
 | rp j=>
  intro v u k r ch cs O ρ e hM hR bX
  simp only [uV] at e
  split at e<;>first | (cases e;done) | skip
  ·rename_i id lo hi
   have bJ:=fL hR (by simp) (by simp)
   subst bJ
   obtain ⟨h,y,h1,rfl,h3⟩:=hR
   have hid:id < u.tb.length:=by rw [← hM.len];exact (aM h1).1
   obtain ⟨u',hk,g,hj,hlt,htb⟩:=kv (M:=fun _=>md=false) e hM hid
   exact ⟨(lo,hi),u',O,ρ,hk,g,fun _=>hlt,rfl,fun aJ aP F=>(F.mt j id h hj h1).elim fun _ hm=>⟨_,y,hm,rfl,h3⟩⟩
  ·rename_i id
   have bJ:=fL hR (by simp) (by simp)
   subst bJ
   obtain ⟨h,h1,rfl,h3⟩:=hR
   split at e<;>first | (cases e;done) | skip
   rename_i E t xs hb
   rw [aS] at hb
   have hid:id < u.tb.length:=(aM hb).1
   obtain ⟨h',es,h4,h5,h6,h7,h8⟩:=hM.th _ _ hb
   rw [h1] at h4;cases h4
   obtain ⟨u',hk,g,hj,hlt,htb⟩:=kv (M:=fun _=>md=false) e hM hid
   refine ⟨(0,xs.length),u',O,ρ,hk,g,fun _=>hlt,rfl,fun aJ aP F=>(F.mt j id h hj h1).elim fun _ hm=>⟨_,_,hm,rfl,?_⟩⟩
   obtain ⟨b,cp,e2,hn,mU⟩:=h8.rd.shape
   rw [e2]
   refine ⟨b,_,cp,b,cp,rfl,by simp,by omega,by omega,?_⟩
   by_cases h0:xs.length=0
   ·exact .inl h0
   ·refine .inr ?_
    cases b with
    | none=>exact absurd (hn rfl) h0
    | some ad=>exact ⟨ad,rfl,by rw [Nat.zero_mul];simp [Addr.add],by omega⟩
  ·split at e<;>first | (cases e;done) | skip
   rename_i id f8 hbd
   have hv:=lS f8
   subst hv
   have bJ:=fL hR (by simp) (by simp)
   subst bJ
   obtain ⟨rfl,_⟩:=hR
   split at e<;>first | (cases e;done) | skip
   rename_i E t xs hb
   rw [aS] at hb
   have hid:id < u.tb.length:=(aM hb).1
   obtain ⟨h,es,h4,h5,h6,h7,h8⟩:=hM.th _ _ hb
   obtain ⟨u',hk,g,hj,hlt,htb⟩:=kv (M:=fun _=>md=false) e hM hid
   refine ⟨(0,0),u',O,ρ,hk,g,fun _=>hlt,rfl,fun aJ aP F=>(F.mt j id h hj h4).elim fun _ hm=>⟨_,_,hm,rfl,?_⟩⟩
   obtain ⟨b,cp,e2,hn,mU⟩:=h8.rd.shape
   exact ⟨b,_,cp,none,0,e2,rfl,Nat.le_refl _,Nat.zero_le _,.inl rfl⟩
 | nn=>
  intro v u k r ch cs O ρ e hM hR bX
  simp only [uV] at e
  split at e<;>first | (cases e;done) | skip
  exact f6.stay () hM e rfl (fun aJ aP F=>by cases ch<;>exact hR)
 | rn t=>
  intro v u k r ch cs O ρ e hM hR bX
  simp only [uV] at e
  split at e<;>first | (cases e;done) | skip
  rename_i t' xs
  split at e<;>first | (cases e;done) | skip
  rename_i xs' hcast
  obtain ⟨e1,aH⟩:=gG hcast
  subst e1
  have aH:xs'=xs:=aH
  subst aH
  exact f6.stay xs' hM e rfl (fun aJ aP F=>by cases ch<;>first | exact hR.elim | exact ⟨TR.mono F.le hR.1,hR.2⟩)
 | mp j=>
  intro v u k r ch cs O ρ e hM hR bX
  simp only [uV] at e
  split at e<;>first | (cases e;done) | skip
  rename_i id
  have bJ:=fL hR (by simp) (by simp)
  subst bJ
  obtain ⟨h,h1,h2⟩:=hR
  have hid:id < u.tb.length:=by rw [← hM.len];exact (aM h1).1
  obtain ⟨u',hk,g,hj,hlt,htb⟩:=kv (M:=fun _=>md=false) e hM hid
  exact ⟨(),u',O,ρ,hk,g,fun _=>hlt,rfl,fun aJ aP F=>(F.mt j id h hj h1).elim fun _ hm=>⟨_,hm,h2⟩⟩
 | rx j=>
  intro v u k r ch cs O ρ e hM hR bX
  simp only [uV] at e
  split at e<;>first | (cases e;done) | skip
  rename_i id q
  have bJ:=fL hR (by simp) (by simp)
  subst bJ
  obtain ⟨h,x,h1,h2,h3⟩:=hR
  have hid:id < u.tb.length:=by rw [← hM.len];exact (aM h1).1
  obtain ⟨u',hk,g,hj,hlt,htb⟩:=kv (M:=fun _=>md=false) e hM hid
  exact ⟨q,u',O,ρ,hk,g,fun _=>hlt,rfl,fun aJ aP F=>⟨h,x,F.mx j id h hj h1,h2,h3⟩⟩
 | u16=>intro v u k r ch cs O ρ e hM hR bX;simp only [uV] at e;cases e
 | it j jm=>
  intro v u k r ch cs O ρ e hM hR bX
  simp only [uV] at e
  split at e<;>first | (cases e;done) | skip
  rename_i id mid
  have bJ:=fL hR (by simp) (by simp)
  subst bJ
  obtain ⟨h,hm,h1,h2,h3⟩:=hR
  have hid:id < u.tb.length:=by rw [← hM.len];exact (aM h1).1
  have xD:mid < u.tb.length:=by rw [← hM.len];exact (aM h2).1
  obtain ⟨u',hk,g,hj,hlt,htb⟩:=kv (M:=fun _=>md=false) e hM hid
  obtain ⟨u2,hk2,g2,hj2,ag5,atG⟩:=kv (M:=fun _=>md=false) hk g.gm (by rw [htb];exact xD)
  exact ⟨(),u2,O,ρ,hk2,g.trans g2,fun _=>ag5.trans hlt,rfl,fun aJ aP F=>(F.mt j id h (Kh g2 hj) h1).elim fun _ Ba=>(F.mt jm mid hm hj2 h2).elim fun _ hm2=>⟨_,_,Ba,hm2,h3⟩⟩
 | ps j n=>
  intro v u k r ch cs O ρ e hM hR bX
  simp only [uV] at e
  split at e<;>first | (cases e;done) | skip
  rename_i id n'
  split at e<;>first | (cases e;done) | skip
  rename_i hp
  have:=ay hp
  subst this
  have bJ:=fL hR (by simp) (by simp)
  subst bJ
  obtain ⟨h,h1,h2,h3⟩:=hR
  have hid:id < u.tb.length:=by rw [← hM.len];exact (aM h1).1
  obtain ⟨u',hk,g,hj,hlt,htb⟩:=kv (M:=fun _=>md=false) e hM hid
  exact ⟨(),u',O,ρ,hk,g,fun _=>hlt,rfl,fun aJ aP F=>(F.mt j id h hj h1).elim fun _ hm=>⟨_,hm,h2,h3⟩⟩
 | pt j p=>
  intro v u k r ch cs O ρ e hM hR bX
  simp only [uV] at e
  split at e<;>first | (cases e;done) | skip
  rename_i id p'
  split at e<;>first | (cases e;done) | skip
  rename_i hp
  have:=G8 hp
  subst this
  have bJ:=fL hR (by simp) (by simp)
  subst bJ
  obtain ⟨h,off,h1,h2,h3⟩:=hR
  have hid:id < u.tb.length:=by rw [← hM.len];exact (aM h1).1
  obtain ⟨u',hk,g,hj,hlt,htb⟩:=kv (M:=fun _=>md=false) e hM hid
  exact ⟨(),u',O,ρ,hk,g,fun _=>hlt,rfl,fun aJ aP F=>(F.mt j id h hj h1).elim fun _ hm=>⟨_,off,hm,h2,h3⟩⟩
 | ap j p=>
  intro v u k r ch cs O ρ e hM hR bX
  simp only [uV] at e
  split at e<;>first | (cases e;done) | skip
  rename_i id p' lo hi
  split at e<;>first | (cases e;done) | skip
  rename_i hp
  have:=G8 hp
  subst this
  have bJ:=fL hR (by simp) (by simp)
  subst bJ
  obtain ⟨h,off,n,z,h1,h2⟩:=hR
  have hid:id < u.tb.length:=by rw [← hM.len];exact (aM h1).1
  obtain ⟨u',hk,g,hj,hlt,htb⟩:=kv (M:=fun _=>md=false) e hM hid
  exact ⟨(lo,hi),u',O,ρ,hk,g,fun _=>hlt,rfl,fun aJ aP F=>(F.mt j id h hj h1).elim fun _ hm=>⟨_,off,n,z,hm,h2⟩⟩
 | fn f a c bF s9=>
  intro v u k r ch cs O ρ e hM hR bX
  simp only [uV] at e
  split at e<;>first | (cases e;done) | skip
  rename_i f' a' c'
  split at e<;>first | (cases e;done) | skip
  rename_i hf
  have:=ay hf
  subst this
  have bJ:=fL hR (by simp) (by simp)
  subst bJ
  obtain ⟨xs,ys,rfl,h2,h3⟩:=hR
  obtain ⟨x,u1,O1,bQ,e1,g1,l1,z1,F1⟩:=bF e hM h2 bX
  have fQ:md=false->u1.lt=[]:=fun h=>(l1 h).trans (bX h)
  obtain ⟨y,u2,O2,br,e2,g2,l2,z2,F2⟩:=s9 e1 g1.gm (R.mono g1.fH.im g1.fH.pre h3) fQ
  exact ⟨(x,y),u2,O2,br,e2,g1.trans g2,fun h=>(l2 h).trans (l1 h),rfl,fun aJ aP F=>⟨xs,ys,rfl,F1 aJ aP (F.back g2 (ue g1.gm g2 fQ)),F2 aJ aP F⟩⟩
 | un=>
  intro v u k r ch cs O ρ e hM hR bX
  simp only [uV] at e
  split at e<;>first | (cases e;done) | skip
  exact f6.stay () hM e rfl (fun aJ aP _=>by cases ch<;>exact hR)
 | pr a b bF bK=>
  intro v u k r ch cs O ρ e hM hR bX
  simp only [uV] at e
  split at e<;>first | (cases e;done) | skip
  rename_i a' b'
  cases ch with
  | true=>
   obtain ⟨x0,rest,rfl,h2,h3⟩:=hR
   cases hag:a'.agg with
   | true=>
    rw [hag] at h2
    obtain ⟨c0,rfl,h2⟩:=h2
    obtain ⟨x,u1,O1,bQ,e1,g1,l1,z1,F1⟩:=bF e hM h2 bX
    have fQ:md=false->u1.lt=[]:=fun h=>(l1 h).trans (bX h)
    obtain ⟨y,u2,O2,br,e2,g2,l2,z2,F2⟩:=bK e1 g1.gm (R.mono g1.fH.im g1.fH.pre h3) fQ
    refine ⟨(x,y),u2,O2,br,e2,g1.trans g2,fun h=>(l2 h).trans (l1 h),by simp only [enc,IV.sz,z1,z2],fun aJ aP F=>⟨_,rest,rfl,?_,F2 aJ aP F⟩⟩
    rw [Ia z1,hag]
    exact ⟨c0,rfl,F1 aJ aP (F.back g2 (ue g1.gm g2 fQ))⟩
   | false=>
    rw [hag] at h2
    have h2:R O ρ false a' [x0]:=h2
    obtain ⟨x,u1,O1,bQ,e1,g1,l1,z1,F1⟩:=bF e hM h2 bX
    have fQ:md=false->u1.lt=[]:=fun h=>(l1 h).trans (bX h)
    obtain ⟨y,u2,O2,br,e2,g2,l2,z2,F2⟩:=bK e1 g1.gm (R.mono g1.fH.im g1.fH.pre h3) fQ
    refine ⟨(x,y),u2,O2,br,e2,g1.trans g2,fun h=>(l2 h).trans (l1 h),by simp only [enc,IV.sz,z1,z2],fun aJ aP F=>⟨_,rest,rfl,?_,F2 aJ aP F⟩⟩
    rw [Ia z1,hag]
    exact F1 aJ aP (F.back g2 (ue g1.gm g2 fQ))
  | false=>
   obtain ⟨c0,d0,rfl,h2,h3⟩:=hR
   obtain ⟨x,u1,O1,bQ,e1,g1,l1,z1,F1⟩:=bF e hM h2 bX
   have fQ:md=false->u1.lt=[]:=fun h=>(l1 h).trans (bX h)
   obtain ⟨y,u2,O2,br,e2,g2,l2,z2,F2⟩:=bK e1 g1.gm (R.mono g1.fH.im g1.fH.pre h3) fQ
   exact ⟨(x,y),u2,O2,br,e2,g1.trans g2,fun h=>(l2 h).trans (l1 h),by simp only [enc,IV.sz,z1,z2],fun aJ aP F=>⟨c0,d0,rfl,F1 aJ aP (F.back g2 (ue g1.gm g2 fQ)),F2 aJ aP F⟩⟩
 | ar n t=>
  intro v u k r ch cs O ρ e hM hR bX
  simp only [uV] at e
  split at e<;>first | (cases e;done) | skip
  rename_i xs hx
  have ahF:∃ m t' ys,v=.ar m t' ys∧∃ h:Ty.ar m t'=Ty.ar n t,iI h ys=xs:=by
   unfold IV.uh at hx
   split at hx
   ·rename_i m t' ys
    split at hx
    ·rename_i p _
     simp only [az] at hx
     exact ⟨m,t',ys,rfl,p.down,hx⟩
    ·cases hx
   ·cases hx
  obtain ⟨m,t',ys,rfl,h,hxs⟩:=ahF
  have bJ:=fL hR (by simp) (by simp)
  subst bJ
  cases h
  have hxs:ys=xs:=hxs
  subst hxs
  exact f6.stay _ hM e rfl (fun aJ aP F=>TR.mono (t:=.ar n t) F.le hR)
 | ud=>
  intro v u k r ch cs O ρ e hM hR bX
  simp only [uV] at e
  split at e<;>first | (cases e;done) | skip
  rename_i hag
  have bJ:=fL hR (fun h=>by subst h;simp [IV.agg] at hag) (fun a b h=>by subst h;simp [IV.agg] at hag)
  subst bJ
  have hl:=R.length hR
  have hz:v.sz=.one:=by cases v<;>simp [IV.agg] at hag<;>rfl
  rw [hz] at hl
  obtain ⟨y,rfl⟩:=List.length_eq_one_iff.1 hl
  exact f6.stay () hM e hz.symm (fun aJ aP _=>⟨y,rfl,R.one hR y (by simp)⟩)
end
end Go.Tw
namespace Go.Tw
section
variable {O:Own} {ρ:List Hd} {w:World} {md:Bool} {ts:List aK}
def RL (O:Own) (ρ:List Hd):List IV->List (List Value)->Prop
 | [],cs=>cs=[]
 | v :: vs,cs=>∃ c r,cs=c :: r∧R O ρ false v c∧RL O ρ vs r
theorem RL.mono {O':Own} {ρ':List Hd} (hO:O.le O') (hρ:Pre ρ ρ'):∀ {vs:List IV} {cs:List (List Value)},RL O ρ vs cs->RL O' ρ' vs cs
 | [],cs,h=>h
 | v :: vs,cs,h=>by obtain ⟨c,r,h1,h2,h3⟩:=h;exact ⟨c,r,h1,R.mono hO hρ h2,RL.mono hO hρ h3⟩
def jK (vs:List IV):List Sz:=vs.map IV.sz
theorem ab9 {β:Type}:∀ {ss:List Sh} {vs:List IV} {u:Un} {k:au ss->Un->Option β} {r:β} {cs:List (List Value)} {O:Own} {ρ:List Hd},wO md ts ss vs u k=some r->Gm O ρ u.tb w->RL O ρ vs cs->(md=false->u.lt=[]) ->
  ∃ x u' O' ρ',k x u'=some r∧Gh (fun _=>md=false) O ρ u O' ρ' u' w∧(md=false->u'.lt=u.lt)∧jK (encs ss x)=jK vs∧∀ aJ aP,oO u' O' ρ' w aJ aP->RL aJ aP (encs ss x) cs
 | [],[],u,k,r,cs,O,ρ,e,hM,h,bX=>⟨(),u,O,ρ,e,.refl hM,fun _=>rfl,rfl,fun _ _ _=>h⟩
 | [],_ :: _,u,k,r,cs,O,ρ,e,hM,h,bX=>by simp [wO] at e
 | _ :: _,[],u,k,r,cs,O,ρ,e,hM,h,bX=>by simp [wO] at e
 | s :: ss,v :: vs,u,k,r,cs,O,ρ,e,hM,h,bX=>by
  simp only [wO] at e
  obtain ⟨c,rest,rfl,h1,h2⟩:=h
  obtain ⟨x,u1,O1,bQ,e1,g1,l1,z1,F1⟩:=abI e hM h1 bX
  have fQ:md=false->u1.lt=[]:=fun h=>(l1 h).trans (bX h)
  obtain ⟨y,u2,O2,br,e2,g2,l2,z2,F2⟩:=ab9 e1 g1.gm (h2.mono g1.fH.im g1.fH.pre) fQ
  exact ⟨(x,y),u2,O2,br,e2,g1.trans g2,fun h=>(l2 h).trans (l1 h),by simp only [jK,encs,List.map_cons,z1] at z2 ⊢;rw [z2],
   fun aJ aP F=>⟨c,rest,rfl,F1 aJ aP (F.back g2 (ue g1.gm g2 fQ)),F2 aJ aP F⟩⟩
structure yN (u':Un) (O':Own) (ρ':List Hd) (w:World) (aJ:Own) (aP:List Hd):Prop extends oO u' O' ρ' w aJ aP where
 own:∀ b j id,u'.bd[j]? = some id->O' b=.th id->aJ b=.th j
theorem yN.back {M:Nat->Prop} {O1:Own} {bQ:List Hd} {u u1:Un} {aJ:Own} {aP:List Hd} (g:Gh M O ρ u O1 bQ u1 w) (hl:∀ b id,id ∈ u.lt->O b=.th id->O1 b=.th id) (F:yN u1 O1 bQ w aJ aP):yN u O ρ w aJ aP:=
 ⟨F.tooO.back g hl,fun b j id hj ho=>F.own b j id (Kh g hj) (g.own b id (List.mem_of_getElem? hj) ho)⟩
theorem aek {β:Type} {s:aK} {x:fY} {u:Un} {k:s.den->Un->Option β} {r:β} {j id:Nat} (e:uT md ts s x u k=some r) (hM:Gm O ρ u.tb w) (hj:u.bd[j]? = some id) (hx:u.tb[id]? = some x) (bX:md=false->u.lt=[]) :
  ∃ y u' O' ρ',k y u'=some r∧Gh (fun _=>md=false) O ρ u O' ρ' u' w∧(md=false->u'.lt=u.lt)∧∀ aJ aP,yN u' O' ρ' w aJ aP->Holds aJ aP w j (GQ s y):=by
 have hold:=hM.th _ _ hx
 cases s with
 | blk ty s=>
  simp only [uT] at e
  split at e<;>first | (cases e;done) | skip
  rename_i ty' v
  split at e<;>first | (cases e;done) | skip
  rename_i hty
  have:=ay hty
  subst this
  obtain ⟨h,cs,h1,h2,h3,h4,h5⟩:=hold
  obtain ⟨y,u1,O1,bQ,e1,g1,l1,z1,F1⟩:=abI e hM h4 bX
  refine ⟨y,u1,O1,bQ,e1,g1,l1,fun aJ aP F=>(g1.fH.pre _ _ h1).elim fun _ Ba=>(F.mt j id _ (Kh g1 hj) Ba).elim fun _ hm=>⟨_,cs,hm,F.own h.b j id (Kh g1 hj) (g1.own h.b id (List.mem_of_getElem? hj) h2),by rw [h3,z1],F1 aJ aP F.tooO,h5⟩⟩
 | row E t=>
  simp only [uT] at e
  split at e<;>first | (cases e;done) | skip
  rename_i E' t' xs
  split at e<;>first | (cases e;done) | skip
  rename_i xs' hE hcast
  have:=ay hE
  subst this
  obtain ⟨e1,aH⟩:=gG hcast
  subst e1
  have aH:xs'=xs:=aH
  subst aH
  obtain ⟨h,es,h1,h2,h3,h4,h5⟩:=hold
  exact ⟨xs',u,O,ρ,e,.refl hM,fun _=>rfl,fun aJ aP F=>(F.mt j id h hj h1).elim fun _ hm=>⟨_,es,hm,h2,fun b hb=>F.own b j id hj (h3 b hb),h4.mono (fun _ _=>TR.mono F.le),h5⟩⟩
 | fz t=>
  simp only [uT] at e
  split at e<;>first | (cases e;done) | skip
  rename_i t' xs
  split at e<;>first | (cases e;done) | skip
  rename_i xs' hcast
  obtain ⟨e1,aH⟩:=gG hcast
  subst e1
  have aH:xs'=xs:=aH
  subst aH
  obtain ⟨h,h1,h2,h3⟩:=hold
  exact ⟨xs',u,O,ρ,e,.refl hM,fun _=>rfl,fun aJ aP F=>(F.mt j id h hj h1).elim fun _ hm=>⟨_,hm,h2,TR.mono F.le h3⟩⟩
 | no=>exact ⟨(),u,O,ρ,e,.refl hM,fun _=>rfl,fun _ _ _=>trivial⟩
 | mp kt vt=>
  simp only [uT] at e
  split at e<;>first | (cases e;done) | skip
  rename_i bU cH xs
  split at e<;>first | (cases e;done) | skip
  rename_i xs' hcast
  obtain ⟨e1,e2,aH⟩:=Ed hcast
  subst e1 e2
  have aH:xs'=xs:=aH
  subst aH
  obtain ⟨h,es,h1,h2,h3,h4⟩:=hold
  exact ⟨xs',u,O,ρ,e,.refl hM,fun _=>rfl,fun aJ aP F=>(F.mt j id h hj h1).elim fun _ hm=>⟨_,es,hm,F.own h.b j id hj h2,h3,h4.mono F.le⟩⟩
 | it=>
  simp only [uT] at e
  split at e<;>first | (cases e;done) | skip
  rename_i n seen
  obtain ⟨h,h1,h2,bm,h3,h4⟩:=hold
  exact ⟨(n,seen),u,O,ρ,e,.refl hM,fun _=>rfl,fun aJ aP F=>(F.mt j id h hj h1).elim fun _ hm=>⟨_,hm,F.own h.b j id hj h2,bm,h3,h4⟩⟩
 | rr E Ei t=>
  simp only [uT] at e
  split at e<;>first | (cases e;done) | skip
  rename_i E' Vx t' rows out
  split at e<;>first | (cases e;done) | skip
  rename_i nx hE hEi hcast
  have:=ay hE
  subst this
  have:=ay hEi
  subst this
  obtain ⟨e1,aH⟩:=xO hcast
  subst e1
  have aH:nx=rows:=aH
  subst aH
  obtain ⟨h,es,h1,h2,h3,h4,h5,h6⟩:=hold
  exact ⟨(nx,out),u,O,ρ,e,.refl hM,fun _=>rfl,fun aJ aP F=>⟨h,es,F.mx j id h hj h1,h2,fun b hb=>F.own b j id hj (h3 b hb),h4,h5,h6.frame (fun _ _=>TR.mono F.le) (fun b hb=>⟨F.own b j id hj hb,rfl⟩)⟩⟩
theorem VJ {β:Type}:∀ {ss:List aK} {j:Nat} {u:Un} {k:ax ss->Un->Option β} {r:β} {O:Own} {ρ:List Hd},J9 md ts j ss u k=some r->Gm O ρ u.tb w->(md=false->u.lt=[]) ->
  ∃ y u' O' ρ',k y u'=some r∧Gh (fun _=>md=false) O ρ u O' ρ' u' w∧(md=false->u'.lt=u.lt)∧∀ aJ aP,yN u' O' ρ' w aJ aP->∀ q x,(eO ss y)[q]? = some x->Holds aJ aP w (j + q) x
 | [],j,u,k,r,O,ρ,e,hM,bX=>⟨(),u,O,ρ,e,.refl hM,fun _=>rfl,fun _ _ _ q x h=>by simp [eO] at h⟩
 | s :: ss,j,u,k,r,O,ρ,e,hM,bX=>by
  simp only [J9] at e
  split at e<;>first | (cases e;done) | skip
  rename_i id hj
  split at e<;>first | (cases e;done) | skip
  rename_i x hx
  rw [aS] at hj hx
  obtain ⟨y,u1,O1,bQ,e1,g1,l1,F1⟩:=aek e hM hj hx bX
  have fQ:md=false->u1.lt=[]:=fun h=>(l1 h).trans (bX h)
  obtain ⟨z,u2,O2,br,e2,g2,l2,F2⟩:=VJ e1 g1.gm fQ
  refine ⟨(y,z),u2,O2,br,e2,g1.trans g2,fun h=>(l2 h).trans (l1 h),fun aJ aP F q x' hq=>?_⟩
  cases q with
  | zero=>
   simp [eO] at hq;subst hq
   exact F1 aJ aP (F.back g2 (ue g1.gm g2 fQ))
  | succ q=>
   have:=F2 aJ aP F q x' (by simpa [eO] using hq)
   rw [show j + (q + 1)=j + 1 + q from by omega];exact this
def rc (bd:List Nat) (ρ:List Hd):List Hd:=bd.map fun id=>ρ.getD id ⟨0,.nil,.bool false,[]⟩
theorem acO (bd:List Nat) (ρ:List Hd) (j id:Nat) (h:Hd) (hj:bd[j]? = some id) (hh:ρ[id]? = some h):(rc bd ρ)[j]? = some h:=by
 simp [rc,hj,List.getD_eq_getElem?_getD,hh]
theorem asj (bd:List Nat) (ρ:List Hd):Mt bd ρ (rc bd ρ):=fun j id h hj hh=>⟨[],by
 rw [h.uM];simp [rc,hj,List.getD_eq_getElem?_getD,hh]⟩
theorem Hv (bd lt:List Nat) (O:Own) (w:World):O.le (Oc bd lt O w):=fun b all e=>by simp only [Oc,e]
structure Uni (O:Own) (ρ:List Hd) (tb:aj) (bd:List Nat) (w:World) (md:Bool) (ss:List Sh) (ts:List aK) (cs:List (List Value)) (vs:List IV) (x:au ss) (y:ax ts) (u':Un) (O':Own) (ρ':List Hd):Prop where
 gh:Gh (fun _=>md=false) O ρ ⟨bd,tb,[]⟩ O' ρ' u' w
 lt:md=false->u'.lt=[]
 gm:Gm (Oc u'.bd u'.lt O' w) (rc u'.bd ρ') (eO ts y) w
 rl:RL (Oc u'.bd u'.lt O' w) (rc u'.bd ρ') (encs ss x) cs
 sz:jK (encs ss x)=jK vs
 len:u'.bd.length=ts.length
 nd:u'.bd.Nodup
 apart:∀ i,i ∈ u'.lt->i ∉ u'.bd
 tt:∀ i,i ∈ u'.bd->i < u'.tb.length
theorem Th {β:Type} {ss:List Sh} {bd:List Nat} {vs:List IV} {tb:aj} {k:au ss->ax ts->Un->Option β} {r:β} {cs:List (List Value)} (e:ru md ss ts bd vs tb k=some r) (hM:Gm O ρ tb w) (hR:RL O ρ vs cs) (pi:bd.Nodup) (hbd:∀ i,i ∈ bd->i < tb.length) :
  ∃ x y u' O' ρ',k x y u'=some r∧Uni O ρ tb bd w md ss ts cs vs x y u' O' ρ':=by
 unfold ru at e
 obtain ⟨x,u1,O1,bQ,e1,g1,l1,z1,F1⟩:=ab9 e hM hR (fun _=>rfl)
 have fQ:md=false->u1.lt=[]:=fun h=>(l1 h)
 obtain ⟨y,u2,O2,br,e2,g2,l2,F2⟩:=VJ e1 g1.gm fQ
 split at e2<;>first | (cases e2;done) | skip
 rename_i hlen hap
 have hlen:=ay hlen
 have g:=g1.trans g2
 have Uk:=g.nd pi
 have Xo:=CS hap
 have hF:yN u2 O2 br w (Oc u2.bd u2.lt O2 w) (rc u2.bd br):=by
  refine ⟨⟨Hv _ _ _ _,acO _ _,fun b id a ty fz hi ho hh=>?_⟩,fun b j id hj ho=>?_⟩
  ·have hn:idx u2.bd id=none:=by
    cases hi2:idx u2.bd id with
    | none=>rfl
    | some j=>exact absurd (List.mem_of_getElem? (sR hi2)) (Xo id hi)
   have hs:∃ j,idx u2.lt id=some j:=by
    cases hi2:idx u2.lt id with
    | none=>exact absurd hi (qu hi2)
    | some j=>exact ⟨j,rfl⟩
   obtain ⟨j,hj⟩:=hs
   simp only [Oc,ho,hn,hj,hh]
  ·simp only [Oc,ho,aae Uk hj]
 refine ⟨x,y,u2,O2,br,e2,g,fun h=>(l2 h).trans (fQ h),⟨fun b all hb=>?_,fun b hb=>?_,?_,fun j t ht=>?_⟩,F1 _ _ (hF.tooO.back g2 (ue g1.gm g2 fQ)),z1,hlen,Uk,Xo,g.tt hbd⟩
 ·simp only [Oc] at hb
  split at hb
  ·rename_i all' ho;cases hb;exact g2.gm.im b all ho
  ·cases hb
  ·rename_i id ho
   split at hb
   ·cases hb
   ·split at hb
    ·split at hb
     ·rename_i a ty fz hh;cases hb;exact ⟨ty,fz,by simpa using hh⟩
     ·cases hb
    ·cases hb
 ·simp only [Oc,g2.gm.lt b hb]
 ·simp [rc,hlen,s_]
 ·have:=F2 _ _ hF j t ht
  simpa using this
theorem aR.oc {O0 O':Own} {aG ρ':List Hd} {w0 w:World} {bd lt:List Nat} (h:aR (fun _=>True) O0 aG w0 O' ρ' w) (hb:∀ i,i < aG.length->bd[i]? = some i):aR (fun _=>True) O0 aG w0 (Oc bd lt O' w) (rc bd ρ') w:=by
 refine ⟨fun i x hx=>?_,h.im.trans (Hv _ _ _ _),fun b hb' e=>?_,fun b id _ _ hn=>absurd trivial hn,h.kept⟩
 ·obtain ⟨l,h1⟩:=h.pre _ _ hx
  obtain ⟨m,h2⟩:=asj bd ρ' i i _ (hb i (aM hx).1) h1
  exact ⟨l ++ m,by rw [← Hd.Y3];exact h2⟩
 ·simp only [Oc,h.no b hb' e]
end
end Go.Tw
namespace Go.Tw
structure Ct where
 m:Nat
 A:List Sh
 T:List aK
 B:List Sh
 U:List aK
 run:(β:Type)->au A->ax T->(au B->ax U->Option β)->Option β
 nat:∀ (β:Type) x y (k:au B->ax U->Option β) r,run β x y k=some r->∃ p q,run _ x y (fun p q=>some (p,q))=some (p,q)∧k p q=some r
def aO:List IV->List (List Value)->List Value
 | v :: vs,c :: cs=>(bif v.agg then .agg c.toArray else c.headD (.bool false)) :: aO vs cs
 | _,_=>[]
theorem C9:∀ {vs us:List IV} {cs:List (List Value)},jK vs=jK us->aO vs cs=aO us cs
 | [],[],cs,_=>rfl
 | [],_ :: _,cs,h=>by simp [jK] at h
 | _ :: _,[],cs,h=>by simp [jK] at h
 | v :: vs,u :: us,[],h=>rfl
 | v :: vs,u :: us,c :: cs,h=>by
  simp only [jK,List.map_cons,List.cons.injEq] at h
  simp only [aO,Ia h.1,C9 (vs:=vs) (us:=us) (cs:=cs) h.2]
def lW (vs:List IV) (ds:List (List Value)):Value:=
 match aO vs ds with
 | [x]=>x
 | l=>.tuple l.toArray
def wC (P:Program) (d:Bool) (f:FuncId) (args:Array Value) (w:World) (Q:Value->World->Prop):Prop:=
 match d with
 | false=>Calls P f args w (eJ Q)
 | true=>CallsD P f args .returning w (fun e u w'=>u=.returning∧eJ Q e w')
theorem wC.mono {P:Program} {d:Bool} {f:FuncId} {args:Array Value} {w:World} {Q Q':Value->World->Prop} (h:wC P d f args w Q) (hq:∀ v w',Q v w'->Q' v w'):wC P d f args w Q':=by
 cases d with
 | false=>
  refine Calls.mono (show Calls P f args w (eJ Q) from h) fun e w' he=>?_
  cases e with
  | returned v=>exact hq v w' he
  | panicked _=>exact he
  | outgrown=>exact he
 | true=>
  refine CallsD.mono (show CallsD P f args .returning w (fun e u w'=>u=.returning∧eJ Q e w') from h) fun e u w' he=>?_
  obtain ⟨h1,he⟩:=he
  refine ⟨h1,?_⟩
  cases e with
  | returned v=>exact hq v w' he
  | panicked _=>exact he
  | outgrown=>exact he
def lN (P:Program) (c:aF) (d:Bool) (f:FuncId) (ct:Ct):Prop:=
 ∀ x y p q,ct.run _ x y (fun p q=>some (p,q))=some (p,q)->∀ (O:Own) (ρ:List Hd) (w:World) (cs:List (List Value)),GO c O->Gm O ρ (eO ct.T y) w->RL O ρ (encs ct.A x) cs ->
  wC P d f (aO (encs ct.A x) cs).toArray w (fun v w'=>∃ O' ρ' ds,Gm O' ρ' (eO ct.U q) w'∧aR (fun _=>True) O (ρ.take ct.m) w O' ρ' w'∧RL O' ρ' (encs ct.B p) ds∧v=lW (encs ct.B p) ds)
abbrev Sound (P:Program) (c:aF) (f:FuncId) (ct:Ct):Prop:=lN P c false f ct
def ir (g:Nat->Nat):IV->IV
 | .rw id=>.rw (g id)
 | .rp id lo hi=>.rp (g id) lo hi
 | .pt id p=>.pt (g id) p
 | .el id j p=>.el (g id) j p
 | .ap id p lo hi=>.ap (g id) p lo hi
 | .ps id n=>.ps (g id) n
 | .mp id=>.mp (g id)
 | .rx id k=>.rx (g id) k
 | .it id mid=>.it (g id) (g mid)
 | .ex t id k j p=>.ex t (g id) k j p
 | .fn f a c=>.fn f (ir g a) (ir g c)
 | .pr a b=>.pr (ir g a) (ir g b)
 | .tu a=>.tu (ir g a)
 | v=>v
def tN (g:Nat->Nat):fY->fY
 | .blk ty v=>.blk ty (ir g v)
 | x=>x
theorem Sl (g:Nat->Nat):∀ v:IV,(ir g v).sz=v.sz:=by
 intro v
 induction v with
 | pr a b bF bK=>simp only [ir,IV.sz,bF,bK]
 | _=>rfl
theorem VR.flat {O O':Own} {t:Ty} {x:t.den} {v:Value} (hf:t.flat=true) (H:VR O t x v):VR O' t x v:=by
 unfold VR at *
 cases e:t.agg with
 | true=>rw [e] at H;obtain ⟨cs,h1,h2⟩:=H;exact ⟨cs,h1,TR.flat hf h2⟩
 | false=>rw [e] at H;exact TR.flat hf H
theorem MR.flat {O O':Own} {kt vt:Ty} (hk:kt.flat=true) (hv:vt.flat=true):∀ {q:Nat} {l:List (kt.den×vt.den)} {es:List MapEntry},MR O kt vt q l es->MR O' kt vt q l es
 | _,[],_,H=>H
 | _,(_,_) :: _,_,⟨e,r,h1,h2,h3,h4,h5⟩=>⟨e,r,h1,h2,h3.flat hk,h4.flat hv,MR.flat hk hv h5⟩
def Sh.nr:Sh->Bool
 | .ro _=>false
 | .rn _=>false
 | .re _=>false
 | .fn _ a c=>a.nr && c.nr
 | .pr a b=>a.nr && b.nr
 | .ar _ t=>t.flat
 | _=>true
def aK.nr:aK->Bool
 | .blk _ s=>s.nr
 | .row _ t=>t.flat
 | .fz _=>false
 | .no=>true
 | .mp kt vt=>kt.flat && vt.flat
 | .rr _ _ t=>t.flat
 | .it=>true
theorem UQ {O O2:Own} {ρ br:List Hd} {g:Nat->Nat} (hρ:∀ j h,ρ[j]? = some h->br[g j]? = some h):∀ {s:Sh} {x:s.den} {ch:Bool} {cs:List Value},(O.le O2∨s.nr=true)->R O ρ ch (enc s x) cs->R O2 br ch (ir g (enc s x)) cs:=by
 intro s
 induction s with
 | ro t=>
  intro x ch cs hle h
  rcases hle with hle | hle
  ·cases ch<;>first | exact h.elim | exact TR.mono hle h
  ·cases hle
 | rn t=>
  intro x ch cs hle h
  rcases hle with hle | hle
  ·cases ch<;>first | exact h.elim | exact ⟨TR.mono hle h.1,h.2⟩
  ·cases hle
 | re t=>
  intro x ch cs hle h
  rcases hle with hle | hle
  ·cases ch<;>first | exact h.elim | (obtain ⟨b,off,c,h1,h2,all,h3,h4⟩:=h;exact ⟨b,off,c,h1,TR.mono hle h2,all,hle _ _ h3,h4⟩)
  ·cases hle
 | rw j=>intro x ch cs hle h;cases ch<;>first | exact h.elim | (obtain ⟨y,h1,h2⟩:=h;exact ⟨y,hρ _ _ h1,h2⟩)
 | rp j=>intro x ch cs hle h;cases ch<;>first | exact h.elim | (obtain ⟨y,z,h1,h2⟩:=h;exact ⟨y,z,hρ _ _ h1,h2⟩)
 | pt j p=>intro x ch cs hle h;cases ch<;>first | exact h.elim | (obtain ⟨y,z,h1,h2⟩:=h;exact ⟨y,z,hρ _ _ h1,h2⟩)
 | mp j=>intro x ch cs hle h;cases ch<;>first | exact h.elim | (obtain ⟨y,h1,h2⟩:=h;exact ⟨y,hρ _ _ h1,h2⟩)
 | rx j=>intro x ch cs hle h;cases ch<;>first | exact h.elim | (obtain ⟨y,v,h1,h2⟩:=h;exact ⟨y,v,hρ _ _ h1,h2⟩)
 | it j jm=>intro x ch cs hle h;cases ch<;>first | exact h.elim | (obtain ⟨y,v,h1,h2,h3⟩:=h;exact ⟨y,v,hρ _ _ h1,hρ _ _ h2,h3⟩)
 | ps j n=>intro x ch cs hle h;cases ch<;>first | exact h.elim | (obtain ⟨y,h1,h2⟩:=h;exact ⟨y,hρ _ _ h1,h2⟩)
 | ap j p=>intro x ch cs hle h;cases ch<;>first | exact h.elim | (obtain ⟨y,z,n,q,h1,h2⟩:=h;exact ⟨y,z,n,q,hρ _ _ h1,h2⟩)
 | fn f a c bF s9=>
  intro x ch cs hle h
  have ha:O.le O2∨a.nr=true:=hle.imp_right (fun h=>by simp only [Sh.nr,Bool.and_eq_true] at h;exact h.1)
  have hc:O.le O2∨c.nr=true:=hle.imp_right (fun h=>by simp only [Sh.nr,Bool.and_eq_true] at h;exact h.2)
  cases ch<;>first | exact h.elim | (obtain ⟨xs,ys,h1,h2,h3⟩:=h;exact ⟨xs,ys,h1,bF ha h2,s9 hc h3⟩)
 | pr a b bF bK=>
  intro x ch cs hle h
  have ha:O.le O2∨a.nr=true:=hle.imp_right (fun h=>by simp only [Sh.nr,Bool.and_eq_true] at h;exact h.1)
  have hb:O.le O2∨b.nr=true:=hle.imp_right (fun h=>by simp only [Sh.nr,Bool.and_eq_true] at h;exact h.2)
  cases ch with
  | true=>
   obtain ⟨y,r,h1,h2,h3⟩:=h
   refine ⟨y,r,h1,?_,bK hb h3⟩
   rw [Ia (Sl g (enc a x.1))]
   cases hg:(enc a x.1).agg with
   | true=>rw [hg] at h2;obtain ⟨c0,h4,h5⟩:=h2;exact ⟨c0,h4,bF ha h5⟩
   | false=>rw [hg] at h2;exact bF ha h2
  | false=>obtain ⟨c0,d0,h1,h2,h3⟩:=h;exact ⟨c0,d0,h1,bF ha h2,bK hb h3⟩
 | ar n t=>
  intro x ch cs hle h
  rcases hle with hle | hle
  ·cases ch<;>first | exact h.elim | exact TR.mono (t:=.ar n t) hle h
  ·cases ch<;>first | exact h.elim | exact TR.flat (t:=.ar n t) hle h
 | _=>intro x ch cs hle h;cases ch<;>exact h
def gb (bd:List Nat) (n:Nat) (j:Nat):Nat:=
 match nth bd j with
 | some id=>id
 | none=>n + (j - bd.length)
def gk {α:Type}:List α->List Nat->List α->List α
 | tb,id :: ids,x :: xs=>gk (tb.set id x) ids xs
 | tb,_,_=>tb
theorem BV {α:Type}:∀ {ids:List Nat} {tb xs:List α},(gk tb ids xs).length=tb.length
 | [],tb,xs=>by simp [gk]
 | _ :: _,tb,[]=>by simp [gk]
 | id :: ids,tb,x :: xs=>by simp only [gk];rw [BV];simp
theorem Hu {α:Type}:∀ {ids:List Nat} {tb xs:List α} {j:Nat},j ∉ ids->(gk tb ids xs)[j]? = tb[j]?
 | [],tb,xs,j,_=>by simp [gk]
 | _ :: _,tb,[],j,_=>by simp [gk]
 | id :: ids,tb,x :: xs,j,h=>by
  simp only [List.mem_cons,not_or] at h
  simp only [gk]
  rw [Hu h.2,List.getElem?_set_ne (Ne.symm h.1)]
theorem NB {α:Type}:∀ {ids:List Nat} {tb xs:List α} {i j:Nat},ids.Nodup->ids[i]? = some j->j < tb.length->i < xs.length->(gk tb ids xs)[j]? = xs[i]?
 | [],tb,xs,i,j,_,h,_,_=>by simp at h
 | id :: ids,tb,[],i,j,_,_,_,h=>by simp at h
 | id :: ids,tb,x :: xs,0,j,hn,h,hj,hi=>by
  simp at h;subst h
  rw [List.nodup_cons] at hn
  simp only [gk]
  rw [Hu hn.1]
  simp [hj]
 | id :: ids,tb,x :: xs,i + 1,j,hn,h,hj,hi=>by
  rw [List.nodup_cons] at hn
  simp only [gk]
  rw [NB hn.2 (by simpa using h) (by simpa using hj) (by simpa using hi)];simp
def nV:aj->List Nat->Option aj
 | tb,[]=>some tb
 | tb,id :: ids=>match nth tb id with
  | some (.row _ t xs)=>nV (tb.set id (.fz t xs)) ids
  | some (.fz _ _)=>nV tb ids
  | _=>none
def Mc:List IV->IV
 | []=>.un
 | v :: vs=>.pr v (Mc vs)
def lB:List IV->IV
 | [v]=>v
 | l=>.tu (Mc l)
def isNil {α:Type}:List α->Bool
 | []=>true
 | _=>false
def safe (ct:Ct) (lt:List Nat):Bool:=isNil lt || (ct.B.all Sh.nr && ct.U.all aK.nr)
def GF (m:Nat) (bd:List Nat) (bM:aj) (us:aj) (n:Nat):aj:=
 gk bM bd ((us.take m).map (tN (gb (bd.take m) n)) ++ List.replicate (bd.length - m) .no) ++ (us.drop m).map (tN (gb (bd.take m) n))
def HE {β:Type} (ct:Ct) (vs:List IV) (tb:aj) (k:Option IV->aj->List Nat->Option β):Option β:=
 ru true ct.A ct.T [] vs tb fun x y u=>match Nat.ble ct.m ct.U.length && Nat.ble ct.m u.bd.length with
  | true=>match safe ct u.lt with
   | true=>ct.run _ x y fun p q=>
    k (some (lB ((encs ct.B p).map (ir (gb (u.bd.take ct.m) u.tb.length))))) (GF ct.m u.bd u.tb (eO ct.U q) u.tb.length) u.bd
   | false=>match nV u.tb u.lt with
    | some bM=>ct.run _ x y fun p q=>
     k (some (lB ((encs ct.B p).map (ir (gb (u.bd.take ct.m) u.tb.length))))) (GF ct.m u.bd bM (eO ct.U q) u.tb.length) (u.bd ++ u.lt)
    | none=>none
  | false=>none
section
variable {P:Program} {c:aF} {O:Own} {ρ:List Hd} {w:World}
theorem L4:∀ {ids:List Nat} {tb bM:aj},nV tb ids=some bM->bM.length=tb.length
 | [],tb,bM,h=>by simp [nV] at h;simp [h]
 | id :: ids,tb,bM,h=>by
  simp only [nV] at h
  split at h
  ·rw [L4 h];simp
  ·exact L4 h
  ·cases h
theorem L_:∀ {ids:List Nat} {tb bM:aj} {j:Nat} {x:fY},nV tb ids=some bM->bM[j]? = some x->(tb[j]? = some x∧(j ∈ ids->∃ t xs,x=.fz t xs))∨(j ∈ ids∧∃ E t xs,tb[j]? = some (.row E t xs)∧x=.fz t xs)
 | [],tb,bM,j,x,h,hx=>by simp [nV] at h;subst h;exact .inl ⟨hx,fun h=>by simp at h⟩
 | id :: ids,tb,bM,j,x,h,hx=>by
  simp only [nV] at h
  split at h
  ·rename_i E t xs hb
   rw [aS] at hb
   have hid:=(aM hb).1
   rcases L_ h hx with ⟨h1,h2⟩ | ⟨h1,E',t',xs',h2,h3⟩
   ·rw [List.getElem?_set] at h1
    split at h1
    ·rename_i e;subst e
     have:x=.fz t xs:=by first | (rw [if_pos hid] at h1;cases h1;rfl) | (cases h1;rfl)
     exact .inr ⟨by simp,E,t,xs,hb,this⟩
    ·rename_i e
     refine .inl ⟨h1,fun hj=>?_⟩
     rcases List.mem_cons.1 hj with hj | hj
     ·exact absurd hj.symm e
     ·exact h2 hj
   ·rw [List.getElem?_set] at h2
    split at h2
    ·rename_i e;subst e
     exfalso
     first
      | (rw [if_pos hid] at h2;cases h2)
      | cases h2
    ·exact .inr ⟨by simp [h1],E',t',xs',h2,h3⟩
  ·rename_i t xs hb
   rw [aS] at hb
   rcases L_ h hx with ⟨h1,h2⟩ | ⟨h1,E',t',xs',h2,h3⟩
   ·refine .inl ⟨h1,fun hj=>?_⟩
    rcases List.mem_cons.1 hj with hj | hj
    ·subst hj;rw [hb] at h1;cases h1;exact ⟨_,_,rfl⟩
    ·exact h2 hj
   ·exact .inr ⟨by simp [h1],E',t',xs',h2,h3⟩
  ·cases h
theorem RL.ir {O2:Own} {br:List Hd} {g:Nat->Nat} (hρ:∀ j h,ρ[j]? = some h->br[g j]? = some h):∀ {ss:List Sh} {x:au ss} {cs:List (List Value)},(O.le O2∨ss.all Sh.nr=true)->RL O ρ (encs ss x) cs->RL O2 br ((encs ss x).map (ir g)) cs
 | [],x,cs,hle,h=>h
 | s :: ss,x,cs,hle,h=>by
  obtain ⟨c0,r,h1,h2,h3⟩:=h
  refine ⟨c0,r,h1,UQ hρ (hle.imp_right (fun h=>by simp only [List.all_cons,Bool.and_eq_true] at h;exact h.1)) h2,RL.ir hρ (hle.imp_right (fun h=>by simp only [List.all_cons,Bool.and_eq_true] at h;exact h.2)) h3⟩
theorem UC (g:Nat->Nat):∀ vs:List IV,jK (vs.map (ir g))=jK vs
 | []=>rfl
 | v :: vs=>by simp only [jK,List.map_cons,Sl] ; have:=UC g vs;simp only [jK] at this;rw [this]
theorem xB:∀ {vs:List IV} {ds:List (List Value)},RL O ρ vs ds->∃ x:SV,SR O ρ (lB vs) x∧x.val=lW vs ds:=by
 have one:∀ {v:IV} {c:List Value},R O ρ false v c->∃ y:S0,eB O ρ v y∧y.val=(bif v.agg then .agg c.toArray else c.headD (.bool false)):=by
  intro v c h
  cases hv:v.agg with
  | true=>exact ⟨_,eB.Ag hv h,rfl⟩
  | false=>
   have hl:=R.length h
   have hz:v.sz.size=1:=by cases v<;>simp [IV.agg] at hv<;>rfl
   rw [hz] at hl
   obtain ⟨u,rfl⟩:=List.length_eq_one_iff.1 hl
   by_cases ho:∃ x,v=.o x
   ·obtain ⟨x,rfl⟩:=ho
    obtain ⟨h1,h2⟩:=h
    cases h1
    exact ⟨x,⟨rfl,h2⟩,rfl⟩
   ·refine ⟨.v u,?_,rfl⟩
    cases v<;>simp [IV.agg] at hv
    case o x=>exact absurd ⟨x,rfl⟩ ho
    all_goals exact ⟨u,rfl,h⟩
 have many:∀ {vs:List IV} {ds:List (List Value)},RL O ρ vs ds->∃ xs:List S0,qx O ρ (Mc vs) xs∧xs.map S0.val=aO vs ds:=by
  intro vs
  induction vs with
  | nil=>intro ds h;exact ⟨[],rfl,by simp [aO]⟩
  | cons v vs ih=>
   intro ds h
   obtain ⟨c0,r,rfl,h1,h2⟩:=h
   obtain ⟨y,h3,h4⟩:=one h1
   obtain ⟨xs,h5,h6⟩:=ih h2
   exact ⟨y :: xs,⟨y,xs,rfl,h3,h5⟩,by simp [aO,h4,h6]⟩
 intro vs ds h
 match vs,ds,h with
 | [v],ds,h=>
  obtain ⟨c0,r,rfl,h1,h2⟩:=h
  simp only [RL] at h2;subst h2
  obtain ⟨y,h3,h4⟩:=one h1
  exact ⟨.o y,.fS h3,by simp only [SV.val,h4,lW,aO]⟩
 | [],ds,h=>
  simp only [RL] at h;subst h
  exact ⟨.t [],⟨[],rfl,rfl⟩,by simp [SV.val,lW,aO]⟩
 | v :: u :: vs,ds,h=>
  obtain ⟨xs,h5,h6⟩:=many h
  refine ⟨.t xs,⟨xs,rfl,h5⟩,?_⟩
  obtain ⟨c0,r,rfl,h1,c1,r1,rfl,h2,h3⟩:=h
  simp only [SV.val,h6,lW,aO]
def Se {β:Type} (P:Program) (d:Bool) (c:aF) (O:Own) (ρ:List Hd) (w:World) (f:FuncId) (xs:List Value) (k:Option IV->aj->List Nat->Option β) (r:β):Prop:=
 ∃ v aL mu,k (some v) aL mu=some r∧wC P d f xs.toArray w (fun x w'=>∃ O' ρ' sv,x=sv.val∧SR O' ρ' v sv∧Gm O' ρ' aL w'∧aR (· ∈ mu) O ρ w O' ρ' w')
theorem Vi {β:Type} {d:Bool} {ct:Ct} {f:FuncId} {vs:List IV} {tb:aj} {k:Option IV->aj->List Nat->Option β} {r:β} {cs:List (List Value)} (hS:lN P c d f ct) (e:HE ct vs tb k=some r) (hG:GO c O) (hM:Gm O ρ tb w) (hR:RL O ρ vs cs):Se P d c O ρ w f (aO vs cs) k r:=by
 unfold HE at e
 obtain ⟨x,y,u,O1,bQ,e,U⟩:=Th e hM hR List.nodup_nil (by simp)
 split at e<;>first | (cases e;done) | skip
 rename_i hle
 simp only [Bool.and_eq_true,Nat.ble_eq] at hle
 obtain ⟨hle,hmb⟩:=hle
 have key:∀ (fz:Bool) (bM:aj) (p:au ct.B) (q:ax ct.U),(fz=false->bM=u.tb∧safe ct u.lt=true)->(fz=true->nV u.tb u.lt=some bM)->ct.run _ x y (fun p q=>some (p,q))=some (p,q) ->
   wC P d f (aO vs cs).toArray w (fun z w'=>∃ O' ρ' sv,z=sv.val∧SR O' ρ' (lB ((encs ct.B p).map (ir (gb (u.bd.take ct.m) u.tb.length)))) sv ∧
    Gm O' ρ' (GF ct.m u.bd bM (eO ct.U q) u.tb.length) w'∧aR (· ∈ u.bd ++ (bif fz then u.lt else [])) O ρ w O' ρ' w'):=by
  intro fz bM p q SK Um hrun
  have jn:GO c (Oc u.bd u.lt O1 w):=hG.mono (U.gh.fH.im.trans (Hv _ _ _ _))
  have i7:=hS x y p q hrun _ _ w cs jn U.gm U.rl
  rw [C9 U.sz] at i7
  refine i7.mono fun z w' he=>?_
  ·obtain ⟨Oq,jT,ds,gq,sq,rq,rfl⟩:=he
   have hn:bQ.length=u.tb.length:=U.gh.gm.len
   have hm:jT.length=ct.U.length:=by rw [gq.len,s_]
   have Hp:bM.length=u.tb.length:=by
    cases fz with
    | false=>rw [(SK rfl).1]
    | true=>exact L4 (Um rfl)
   have hkeep:∀ b,b < w.heap.size->(∀ j,Oc u.bd u.lt O1 w b ≠ .th j)->w'.heap[b]? = w.heap[b]?:=fun b hb hn=>sq.kept.block b hb (fun ⟨j,_,e⟩=>hn j e)
   have eu:∀ b,O1 b ≠ .no->b < w.heap.size:=fun b h=>by
    rcases Nat.lt_or_ge b w.heap.size with h' | h'
    ·exact h'
    ·exact absurd (U.gh.gm.lt b h') h
   let g:=gb (u.bd.take ct.m) u.tb.length
   have xT:(u.bd.take ct.m).length=ct.m:=by rw [List.length_take];omega
   let rl:Ow->Ow:=fun o=>match o with
    | .th j=>.th (g j)
    | o=>o
   let O2:Own:=fun b=>if b < w.heap.size then (match O1 b with
    | .im all=>.im all
    | .no=>.no
    | .th id=>match idx u.bd id with
     | some _=>rl (Oq b)
     | none=>bif fz then (match idx u.lt id with
      | some _=>Oc u.bd u.lt O1 w b
      | none=>.th id) else .th id) else rl (Oq b)
   let br:=gk bQ (u.bd.take ct.m) jT ++ jT.drop ct.m
   have iT:(gk bQ (u.bd.take ct.m) jT).length=u.tb.length:=by rw [BV];exact hn
   have adI:(u.bd.take ct.m).Nodup:=U.nd.sublist (List.take_sublist _ _)
   have hin:∀ j id:Nat,(u.bd.take ct.m)[j]? = some id->br[id]? = jT[j]?:=by
    intro j id hid
    have kS:j < ct.m:=by
     have:=(aM hid).1
     omega
    have hlt:=U.tt id (List.mem_of_mem_take (List.mem_of_getElem? hid))
    show (gk bQ (u.bd.take ct.m) jT ++ jT.drop ct.m)[id]? = _
    rw [List.getElem?_append_left (by rw [iT];exact hlt)]
    exact NB adI hid (by rw [hn];exact hlt) (by rw [hm];omega)
   have aQ:∀ {i:Nat} {h:Hd},i ∉ u.bd.take ct.m->bQ[i]? = some h->br[i]? = some h:=by
    intro i h hi e
    show (gk bQ (u.bd.take ct.m) jT ++ jT.drop ct.m)[i]? = _
    have:=(aM e).1
    rw [List.getElem?_append_left (by rw [iT];omega),Hu hi];exact e
   have hpre:Pre bQ br:=by
    intro i h e
    by_cases hi:i ∈ u.bd.take ct.m
    ·obtain ⟨j,hj,hj2⟩:=List.mem_iff_getElem.1 hi
     have hid:(u.bd.take ct.m)[j]? = some i:=by rw [List.getElem?_eq_getElem hj,hj2]
     have kS:j < ct.m:=by omega
     have xD:=hid
     rw [List.getElem?_take,if_pos kS] at xD
     have h2:((rc u.bd bQ).take ct.m)[j]? = some h:=by
      rw [List.getElem?_take,if_pos kS]
      simp [rc,xD,List.getD_eq_getElem?_getD,e]
     obtain ⟨l,h3⟩:=sq.pre j _ h2
     exact ⟨l,by rw [hin j i hid];exact h3⟩
    ·exact ⟨[],by rw [h.uM];exact aQ hi e⟩
   have hρ:∀ j h,jT[j]? = some h->br[g j]? = some h:=by
    intro j h hj
    show (gk bQ (u.bd.take ct.m) jT ++ jT.drop ct.m)[gb (u.bd.take ct.m) u.tb.length j]? = some h
    unfold gb
    split
    ·rename_i id hid
     rw [aS] at hid
     exact (hin j id hid).trans hj
    ·rename_i hid
     rw [aS] at hid
     have kS:ct.m≤j:=by rw [List.getElem?_eq_none_iff,xT] at hid;exact hid
     rw [xT,List.getElem?_append_right (by rw [iT];omega),iT]
     rw [show u.tb.length + (j - ct.m) - u.tb.length=j - ct.m from by omega,List.getElem?_drop,show ct.m + (j - ct.m)=j from by omega]
     exact hj
   have vL:O1.le O2:=fun b all hb=>by
    show (if b < w.heap.size then _ else _)=_
    rw [if_pos (eu b (by rw [hb];simp))];simp only [hb]
   have back:∀ b,b < w.heap.size->(∃ all,O1 b=.im all∧Oq b=.im all)∨(∃ id j,O1 b=.th id∧idx u.bd id=some j)∨(∃ id k all,O1 b=.th id∧idx u.bd id=none∧idx u.lt id=some k∧Oc u.bd u.lt O1 w b=.im all∧Oq b=.im all)∨(Oq b=.no∧∀ all,O1 b ≠ .im all):=by
    intro b hb
    cases ho:O1 b with
    | im all=>exact .inl ⟨all,rfl,sq.im b all (by simp only [Oc,ho])⟩
    | no=>exact .inr (.inr (.inr ⟨sq.no b hb (by simp only [Oc,ho]),by simp⟩))
    | th id=>
     cases hi:idx u.bd id with
     | some j=>exact .inr (.inl ⟨id,j,rfl,hi⟩)
     | none=>
      cases hl:idx u.lt id with
      | none=>exact .inr (.inr (.inr ⟨sq.no b hb (by simp only [Oc,ho,hi,hl]),by simp⟩))
      | some k=>
       cases hh:w.heap[b]? with
       | none=>exact .inr (.inr (.inr ⟨sq.no b hb (by simp only [Oc,ho,hi,hl,hh]),by simp⟩))
       | some ob=>
        cases ob with
        | cells a ty zM=>
         have:Oc u.bd u.lt O1 w b=.im a.toList:=by simp only [Oc,ho,hi,hl,hh]
         exact .inr (.inr (.inl ⟨id,k,a.toList,rfl,hi,hl,this,sq.im b _ this⟩))
        | _=>exact .inr (.inr (.inr ⟨sq.no b hb (by simp only [Oc,ho,hi,hl,hh]),by simp⟩))
   have hown:∀ b i,Oq b=.th i->O2 b=.th (g i):=by
    intro b i hb
    show (if b < w.heap.size then _ else _)=_
    by_cases iQ:b < w.heap.size
    ·rw [if_pos iQ]
     rcases back b iQ with ⟨all,_,h⟩ | ⟨id,j,ho,hi⟩ | ⟨_,_,_,_,_,_,_,h⟩ | ⟨h,_⟩
     ·rw [h] at hb;cases hb
     ·simp only [ho,hi,hb,rl]
     ·rw [h] at hb;cases hb
     ·rw [h] at hb;cases hb
    ·rw [if_neg iQ];simp only [hb,rl]
   have UT:Oq.le O2∨(ct.B.all Sh.nr=true∧ct.U.all aK.nr=true):=by
    have yes:(fz=true∨u.lt=[])->Oq.le O2:=by
     intro b9 b all hb
     show (if b < w.heap.size then _ else _)=_
     by_cases iQ:b < w.heap.size
     ·rw [if_pos iQ]
      rcases back b iQ with ⟨all',h1,h⟩ | ⟨id,j,ho,hi⟩ | ⟨id,kk,all',h1,h2,h3,h4,h5⟩ | ⟨h,_⟩
      ·rw [h] at hb;cases hb;simp only [h1]
      ·simp only [ho,hi,hb,rl]
      ·rcases b9 with b9 | b9
       ·subst b9
        rw [h5] at hb;cases hb
        simp only [h1,h2,h3,h4,cond_true]
       ·rw [b9] at h3;simp [idx] at h3
      ·rw [h] at hb;cases hb
     ·rw [if_neg iQ];simp only [hb,rl]
    cases fz with
    | true=>exact .inl (yes (.inl rfl))
    | false=>
     have:=(SK rfl).2
     simp only [safe,Bool.or_eq_true,Bool.and_eq_true] at this
     rcases this with h | h
     ·exact .inl (yes (.inr (by cases hl:u.lt with | nil=>rfl | cons _ _=>rw [hl] at h;cases h)))
     ·exact .inr h
   have acd:∀ i t,(eO ct.U q)[i]? = some t->Holds O2 br w' (g i) (tN g t):=by
    intro i t ht
    have hold:=gq.th i t ht
    have hsh:∃ s:aK,∃ z:s.den,t=GQ s z∧(Oq.le O2∨s.nr=true):=by
     have gen:∀ (ss:List aK) (z:ax ss) (i:Nat),(Oq.le O2∨ss.all aK.nr=true)->(eO ss z)[i]? = some t->∃ s:aK,∃ z:s.den,t=GQ s z∧(Oq.le O2∨s.nr=true):=by
      intro ss
      induction ss with
      | nil=>intro z i _ h;simp [eO] at h
      | cons s ss ih=>
       intro z i hn h
       cases i with
       | zero=>simp [eO] at h;exact ⟨s,z.1,h.symm,hn.imp_right (fun h=>by simp only [List.all_cons,Bool.and_eq_true] at h;exact h.1)⟩
       | succ i=>exact ih z.2 i (hn.imp_right (fun h=>by simp only [List.all_cons,Bool.and_eq_true] at h;exact h.2)) (by simpa [eO] using h)
     exact gen ct.U q i (UT.imp_right (·.2)) ht
    obtain ⟨s,z,rfl,ff⟩:=hsh
    cases s with
    | blk ty s=>
     obtain ⟨h,c0,h1,h2,h3,h4,h5⟩:=hold
     exact ⟨h,c0,hρ _ _ h1,hown _ _ h2,by rw [Sl];exact h3,UQ hρ ff h4,h5⟩
    | row E t=>
     obtain ⟨h,es,h1,h2,h3,h4,h5⟩:=hold
     refine ⟨h,es,hρ _ _ h1,h2,fun b hb=>hown _ _ (h3 b hb),h4.mono (fun _ _ hT=>?_),h5⟩
     rcases ff with ff | ff
     ·exact TR.mono ff hT
     ·exact TR.flat ff hT
    | fz t=>
     obtain ⟨h,h1,h2,h3⟩:=hold
     refine ⟨h,hρ _ _ h1,h2,?_⟩
     rcases ff with ff | ff
     ·exact TR.mono ff h3
     ·cases ff
    | no=>trivial
    | mp kt vt=>
     obtain ⟨h,es,h1,h2,h3,h4⟩:=hold
     refine ⟨h,es,hρ _ _ h1,hown _ _ h2,h3,?_⟩
     rcases ff with ff | ff
     ·exact h4.mono ff
     ·simp only [aK.nr,Bool.and_eq_true] at ff
      exact h4.flat ff.1 ff.2
    | it=>
     obtain ⟨h,h1,h2,bm,h3,h4⟩:=hold
     exact ⟨h,hρ _ _ h1,hown _ _ h2,bm,h3,h4⟩
    | rr E Ei t=>
     obtain ⟨h,es,h1,h2,h3,h4,h5,h6⟩:=hold
     refine ⟨h,es,hρ _ _ h1,h2,fun b hb=>hown _ _ (h3 b hb),h4,h5,h6.frame (fun _ _ hT=>?_) (fun b hb=>⟨hown _ _ hb,rfl⟩)⟩
     rcases ff with ff | ff
     ·exact TR.mono ff hT
     ·exact TR.flat ff hT
   have gm2:Gm O2 br (GF ct.m u.bd bM (eO ct.U q) u.tb.length) w':=by
    show Gm O2 br (gk bM u.bd (((eO ct.U q).take ct.m).map (tN g) ++ List.replicate (u.bd.length - ct.m) .no) ++ ((eO ct.U q).drop ct.m).map (tN g)) w'
    refine ⟨fun b all hb=>?_,fun b hb=>?_,?_,fun j t ht=>?_⟩
    ·have hb:(if b < w.heap.size then _ else _)=Ow.im all:=hb
     by_cases iQ:b < w.heap.size
     ·rw [if_pos iQ] at hb
      cases ho:O1 b with
      | im all'=>
       simp only [ho] at hb;cases hb
       obtain ⟨ty,zM,hh⟩:=U.gh.gm.im b all ho
       exact ⟨ty,zM,by rw [hkeep b iQ (fun j h=>by simp only [Oc,ho] at h;cases h)];exact hh⟩
      | no=>simp only [ho] at hb;cases hb
      | th id=>
       simp only [ho] at hb
       split at hb
       ·simp only [rl] at hb
        split at hb
        ·cases hb
        ·exact gq.im b all hb
       ·cases fz with
        | false=>cases hb
        | true=>
         simp only [cond_true] at hb
         split at hb
         ·obtain ⟨ty,zM,hh⟩:=U.gm.im b all hb
          exact ⟨ty,zM,by rw [hkeep b iQ (fun j h=>by rw [hb] at h;cases h)];exact hh⟩
         ·cases hb
     ·rw [if_neg iQ] at hb
      simp only [rl] at hb
      split at hb
      ·cases hb
      ·exact gq.im b all hb
    ·show (if b < w.heap.size then _ else _)=_
     rw [if_neg (by have:=sq.kept.size;omega)]
     simp only [gq.lt b hb,rl]
    ·show (gk bQ (u.bd.take ct.m) jT ++ jT.drop ct.m).length=_
     simp only [List.length_append,BV,List.length_map,List.length_drop,s_,hn,hm,Hp]
    ·rcases Nat.lt_or_ge j u.tb.length with hj | hj
     ·rw [List.getElem?_append_left (by rw [BV,Hp];exact hj)] at ht
      cases hi:idx u.bd j with
      | some i=>
       have Rn:=sR hi
       have cm:i < u.bd.length:=(aM Rn).1
       rw [NB U.nd Rn (by rw [Hp];exact hj) (by simp [s_];omega)] at ht
       have hml:(((eO ct.U q).take ct.m).map (tN g)).length=ct.m:=by simp [s_];omega
       rcases Nat.lt_or_ge i ct.m with iS | iS
       ·rw [List.getElem?_append_left (by rw [hml];exact iS)] at ht
        simp only [List.getElem?_map,Option.map_eq_some_iff] at ht
        obtain ⟨t0,ht0,rfl⟩:=ht
        rw [List.getElem?_take] at ht0
        rw [if_pos iS] at ht0
        have:=acd i t0 ht0
        have hg:g i=j:=by show gb _ _ _=_;unfold gb;rw [aS,List.getElem?_take,if_pos iS,Rn]
        rw [hg] at this;exact this
       ·rw [List.getElem?_append_right (by rw [hml];exact iS)] at ht
        have:=(List.mem_replicate.1 (List.mem_of_getElem? ht)).2
        subst this;trivial
      | none=>
       have hnb:=qu hi
       have qW:j ∉ u.bd.take ct.m:=fun h=>hnb (List.mem_of_mem_take h)
       rw [Hu hnb] at ht
       have stays:∀ t,u.tb[j]? = some t->(fz=true->j ∈ u.lt->∃ t' xs,t=.fz t' xs)->Holds O2 br w' j t:=by
        intro t ht0 hnf
        have hold:=U.gh.gm.th j t ht0
        have qf:∀ b,O1 b=.th j->(∀ t' xs,t ≠ .fz t' xs)->O2 b=.th j∧w'.heap[b]? = w.heap[b]?:=by
         intro b hb hne
         have iQ:=eu b (by rw [hb];simp)
         refine ⟨?_,hkeep b iQ (fun jj h=>?_)⟩
         ·show (if b < w.heap.size then _ else _)=_
          rw [if_pos iQ]
          simp only [hb,hi]
          cases fz with
          | false=>rfl
          | true=>
           simp only [cond_true]
           split
           ·rename_i kk hk
            obtain ⟨t',xs,e⟩:=hnf rfl (List.mem_of_getElem? (sR hk))
            exact absurd e (hne t' xs)
           ·rfl
         ·simp only [Oc,hb,hi] at h
          split at h
          ·split at h<;>cases h
          ·cases h
        cases t with
        | blk ty v=>
         obtain ⟨h,c0,h1,h2,h3,h4,h5⟩:=hold
         obtain ⟨n1,n2⟩:=qf h.b h2 (by simp)
         exact ⟨h,c0,aQ qW h1,n1,h3,R.mono vL hpre h4,h5.same n2⟩
        | row E t=>
         obtain ⟨h,es,h1,h2,h3,h4,h5⟩:=hold
         exact ⟨h,es,aQ qW h1,h2,fun b hb=>(qf b (h3 b hb) (by simp)).1,h4.mono (fun _ _=>TR.mono vL),Rs.same (r:=.row E t.size h.v _ es) (fun b hb=>(qf b (h3 b hb) (by simp)).2) h5⟩
        | fz t xs=>
         obtain ⟨h,h1,h2,h3⟩:=hold
         exact ⟨h,aQ qW h1,h2,TR.mono vL h3⟩
        | no=>trivial
        | ob o0=>
         obtain ⟨h,h1,h2,h3⟩:=hold
         obtain ⟨n1,n2⟩:=qf h.b h2 (by simp)
         exact ⟨h,aQ qW h1,n1,by rw [n2];exact h3⟩
        | mp kt vt l=>
         obtain ⟨h,es,h1,h2,h3,h4⟩:=hold
         obtain ⟨n1,n2⟩:=qf h.b h2 (by simp)
         exact ⟨h,es,aQ qW h1,n1,by rw [n2];exact h3,h4.mono vL⟩
        | it n seen=>
         obtain ⟨h,h1,h2,bm,h3,h4⟩:=hold
         obtain ⟨n1,n2⟩:=qf h.b h2 (by simp)
         exact ⟨h,aQ qW h1,n1,bm,h3,by rw [n2];exact h4⟩
        | rr E Ei t rows out=>
         obtain ⟨h,es,h1,h2,h3,h4,h5,h6⟩:=hold
         exact ⟨h,es,aQ qW h1,h2,fun b hb=>(qf b (h3 b hb) (by simp)).1,Rs.same (r:=.row E 1 h.v out.length es) (fun b hb=>(qf b (h3 b hb) (by simp)).2) h4,h5,h6.frame (fun _ _=>TR.mono vL) (fun b hb=>qf b hb (by simp))⟩
       cases fz with
       | false=>
        rw [(SK rfl).1] at ht
        exact stays t ht (fun h=>by cases h)
       | true=>
        rcases L_ (Um rfl) ht with ⟨h1,h2⟩ | ⟨h1,E,t',xs,h2,rfl⟩
        ·exact stays t h1 (fun _ hj=>h2 hj)
        ·obtain ⟨h,es,h3,h4,h5,h6,h7⟩:=U.gh.gm.th j _ h2
         refine ⟨h,aQ qW h3,h4,?_⟩
         refine ⟨h.v,es,rfl,h6.mono (fun _ _=>TR.mono vL),Ke h7.rd (fun b a ty zM hn0 hb hh=>?_)⟩
         have ho:=h5 b hb
         have iQ:=eu b (by rw [ho];simp)
         show (if b < w.heap.size then _ else _)=_
         rw [if_pos iQ]
         have hs:∃ kk,idx u.lt j=some kk:=by
          cases hk:idx u.lt j with
          | none=>exact absurd h1 (qu hk)
          | some kk=>exact ⟨kk,rfl⟩
         obtain ⟨kk,hk⟩:=hs
         simp only [ho,hi,hk,cond_true,Oc,hh]
     ·have hlen:(gk bM u.bd (((eO ct.U q).take ct.m).map (tN g) ++ List.replicate (u.bd.length - ct.m) .no)).length=u.tb.length:=by rw [BV,Hp]
      rw [List.getElem?_append_right (by rw [hlen];exact hj),hlen] at ht
      simp only [List.getElem?_map,Option.map_eq_some_iff,List.getElem?_drop] at ht
      obtain ⟨t0,ht0,rfl⟩:=ht
      have:=acd _ t0 ht0
      have hg:g (ct.m + (j - u.tb.length))=j:=by
       show gb _ _ _=_
       unfold gb
       rw [aS,List.getElem?_eq_none (by rw [xT];omega)]
       simp only [xT];omega
      rw [hg] at this;exact this
   have as5:aR (· ∈ u.bd ++ (bif fz then u.lt else [])) O1 bQ w O2 br w':=by
    refine ⟨hpre,vL,fun b hb ho=>?_,fun b id hb ho hni=>?_,sq.kept.wide fun b ⟨j,_,ho⟩=>?_⟩
    ·show (if b < w.heap.size then _ else _)=_
     rw [if_pos hb];simp only [ho]
    ·show (if b < w.heap.size then _ else _)=_
     rw [if_pos hb]
     simp only [List.mem_append,not_or] at hni
     have h1:idx u.bd id=none:=by
      cases hi:idx u.bd id with
      | none=>rfl
      | some j=>exact absurd (List.mem_of_getElem? (sR hi)) hni.1
     simp only [ho,h1]
     cases fz with
     | false=>rfl
     | true=>
      have h2:idx u.lt id=none:=by
       cases hi:idx u.lt id with
       | none=>rfl
       | some j=>exact absurd (List.mem_of_getElem? (sR hi)) hni.2
      simp only [h2,cond_true]
    ·cases h1:O1 b with
     | im all=>simp only [Oc,h1] at ho;cases ho
     | no=>simp only [Oc,h1] at ho;cases ho
     | th id=>
      cases hi:idx u.bd id with
      | some j'=>exact ⟨id,List.mem_append_left _ (List.mem_of_getElem? (sR hi)),rfl⟩
      | none=>
       simp only [Oc,h1,hi] at ho
       split at ho
       ·split at ho<;>cases ho
       ·cases ho
   have hrl:RL O2 br ((encs ct.B p).map (ir g)) ds:=RL.ir hρ (UT.imp_right (·.1)) rq
   obtain ⟨sv,f7,hval⟩:=xB hrl
   refine ⟨O2,br,sv,?_,f7,gm2,(U.gh.fH.bD (fun _ h=>by cases h)).trans as5⟩
   rw [hval]
   simp only [lW,C9 (UC g (encs ct.B p))]
 split at e
 ·rename_i aqa
  obtain ⟨p,q,hrun,hk⟩:=ct.nat _ x y _ r e
  refine ⟨_,_,_,hk,(key false u.tb p q (fun _=>⟨rfl,aqa⟩) (fun h=>by cases h) hrun).mono fun z w' he=>?_⟩
  obtain ⟨O',ρ',sv,h1,h2,h3,h4⟩:=he
  exact ⟨O',ρ',sv,h1,h2,h3,h4.bD (fun i hi=>by simpa using hi)⟩
 ·split at e<;>first | (cases e;done) | skip
  rename_i bM hf
  obtain ⟨p,q,hrun,hk⟩:=ct.nat _ x y _ r e
  refine ⟨_,_,_,hk,(key true bM p q (fun h=>by cases h) (fun _=>hf) hrun).mono fun z w' he=>?_⟩
  obtain ⟨O',ρ',sv,h1,h2,h3,h4⟩:=he
  exact ⟨O',ρ',sv,h1,h2,h3,h4.bD (fun i hi=>by simpa using hi)⟩
end
end Go.Tw
namespace Go.Tw
structure St where
 env:aE
 tb:aj
 df:List IV
abbrev jf:Type 1:=(β:Type)->List IV->aj->(Option IV->aj->List Nat->Option β)->Option β
structure Ev where
 c:aF
 n:Nat
 ct:Nat->List Ct
 ord:Nat->List (Tag×Nat)
 cd:Nat->List Ct
 al:Nat->Option Nat
 ms:Nat->Option (List (Option Tag×Nat×List Nat)):=fun _=>none
 cx:Nat->Option jf:=fun _=>none
inductive Cl where
 | p
 | r
 | w
 | call
 | d
def Gw (c:aF):Op->Cl
 | .load _ _=>.r
 | .convert src dst _=>match c.D src,c.D dst with
  | some .string,some (.slice _)=>.w
  | some (.slice _),some (.slice _)=>.w
  | some (.slice _),some .string=>.r
  | _,_=>.p
 | .store _ _ _=>.w
 | .alloc _=>.w
 | .box _ _=>.w
 | .makeSlice _ _ _=>.w
 | .buildSlice _ _ _=>.w
 | .call cl=>match cl.callee with
  | .builtin .append=>.w
  | .builtin .copy=>.w
  | .builtin _=>.p
  | .value (.func f)=>match c.N f with
   | some _=>.p
   | none=>.call
  | _=>.call
 | .defer _=>.d
 | .lookup _ _ _ _=>.r
 | .makeMap _ _=>.w
 | .mapUpdate _ _ _ _=>.w
 | .mapEntry _ _ _=>.w
 | .entryStore _ _ _ _=>.w
 | .range _ _=>.w
 | .next _ _=>.w
 | .entry _=>.w
 | _=>.p
def ni:IV->Option (List IV)
 | .un=>some []
 | .pr a b=>match ni b with
  | some l=>some (a :: l)
  | none=>none
 | _=>none
def DE (c:aF) (il:aE):List Operand->Option (List IV)
 | []=>some []
 | x :: xs=>match aC c il x,DE c il xs with
  | some (.tu _),_=>none
  | some v,some vs=>some (v :: vs)
  | _,_=>none
def rF (vs:List IV) (tb:aj):List Ct->Option Ct
 | []=>none
 | [ct]=>some ct
 | ct :: r=>match ru true ct.A ct.T [] vs tb (fun _ _ _=>some ()) with
  | some _=>some ct
  | none=>rF vs tb r
def I_ {β:Type} (E:Ev) (il:aE) (tb:aj) (k:Option IV->aj->List Nat->Option β):Op->Option β
 | .call cl=>match cl.callee with
  | .value x=>match aC E.c il x with
   | some (.fn f a cc)=>match ni a,DE E.c il cl.args.toList,ni cc with
    | some l1,some l2,some l3=>match E.cx f with
     | some X=>X β (l1 ++ (l2 ++ l3)) tb k
     | none=>match rF (l1 ++ (l2 ++ l3)) tb (E.ct f) with
      | some ct=>HE ct (l1 ++ (l2 ++ l3)) tb k
      | none=>none
    | _,_,_=>none
   | _=>none
  | _=>none
 | _=>none
def e_ (E:Ev) (d:Option Nat) (v:IV) (il:aE):Option aE:=
 match d with
 | none=>some il
 | some d=>match Nat.blt d E.n with
  | true=>some ((d,v) :: il)
  | false=>none
def exec {β:Type} (E:Ev) (t:Tag) (o:Oper) (cr:List Nat) (st:St) (k:List Nat->St->Option β):Option β:=
 match Gw E.c o.op with
 | .p=>Jo E.c st.env st.tb (fun v=>match e_ E o.dst v st.env with
  | some il=>k cr ⟨il,st.tb,st.df⟩
  | none=>none) o.op
 | .r=>match t,yu E.c st.env o.op with
  | .p,_=>none
  | .c,some ids=>Bc E.c st.env st.tb (fun v=>match e_ E o.dst v st.env with
   | some il=>k (ids ++ cr) ⟨il,st.tb,st.df⟩
   | none=>none) o.op
  | _,some _=>Bc E.c st.env st.tb (fun v=>match e_ E o.dst v st.env with
   | some il=>k cr ⟨il,st.tb,st.df⟩
   | none=>none) o.op
  | _,none=>none
 | .w=>match t,apart (gx E.c st.env o.op) cr with
  | .w,true=>CY E.c st.env st.tb (fun v tb=>match v with
   | some v=>match e_ E o.dst v st.env with
    | some il=>k cr ⟨il,tb,st.df⟩
    | none=>none
   | none=>match o.dst with
    | none=>k cr ⟨st.env,tb,st.df⟩
    | some _=>none) o.op
  | .b,_=>CY E.c st.env st.tb (fun v tb=>match v with
   | some v=>match e_ E o.dst v st.env with
    | some il=>k [] ⟨il,tb,st.df⟩
    | none=>none
   | none=>match o.dst with
    | none=>k [] ⟨st.env,tb,st.df⟩
    | some _=>none) o.op
  | _,_=>none
 | .call=>match t with
  | .w=>I_ E st.env st.tb (fun v tb mu=>match apart mu cr,v with
   | true,some v=>match e_ E o.dst v st.env with
    | some il=>k cr ⟨il,tb,st.df⟩
    | none=>none
   | _,_=>none) o.op
  | .b=>I_ E st.env st.tb (fun v tb _=>match v with
   | some v=>match e_ E o.dst v st.env with
    | some il=>k [] ⟨il,tb,st.df⟩
    | none=>none
   | none=>none) o.op
  | _=>none
 | .d=>match t,o.op,o.dst with
  | .w,.defer cl,none=>match cl.callee,cl.args.toList with
   | .value x,[]=>match aC E.c st.env x with
    | some (.fn f a cc)=>k cr ⟨st.env,st.tb,.fn f a cc :: st.df⟩
    | _=>none
   | _,_=>none
  | _,_,_=>none
def BP {β:Type} (E:Ev) (ops:List Oper) (t:Tag) (o:Oper) (cr:List Nat) (st:St) (k:List Nat->St->Option β):Option β:=
 match o.guard with
 | none=>exec E t o cr st k
 | some (j,want)=>match (eI ops j).bind (·.dst) with
  | none=>none
  | some dj=>match dn st.env dj with
   | some (.o (.b g))=>match g with
    | true=>match want with
     | true=>exec E t o cr ⟨(dj,.o (.b true)) :: st.env,st.tb,st.df⟩ k
     | false=>match e_ E o.dst (.tu .un) ((dj,.o (.b true)) :: st.env) with
      | some il=>k cr ⟨il,st.tb,st.df⟩
      | none=>none
    | false=>match want with
     | false=>exec E t o cr ⟨(dj,.o (.b false)) :: st.env,st.tb,st.df⟩ k
     | true=>match e_ E o.dst (.tu .un) ((dj,.o (.b false)) :: st.env) with
      | some il=>k cr ⟨il,st.tb,st.df⟩
      | none=>none
   | some (.tu .un)=>match e_ E o.dst (.tu .un) st.env with
    | some il=>k cr ⟨il,st.tb,st.df⟩
    | none=>none
   | _=>none
def rO {β:Type} (E:Ev) (ops:List Oper) (k:St->Option β):List (Tag×Oper)->List Nat->St->Option β
 | [],_,st=>k st
 | (t,o) :: L,cr,st=>BP E ops t o cr st (rO E ops k L)
def cutAt (i:Nat):List (Tag×Nat)->Option (List (Tag×Nat)×List (Tag×Nat))
 | []=>none
 | (t,j) :: r=>match Nat.beq i j with
  | true=>match t with
   | .w=>some ([],r)
   | _=>none
  | false=>match cutAt i r with
   | some (x,y)=>some ((t,j) :: x,y)
   | none=>none
def nG (c:aF) (o:Op):Bool:=match Gw c o with
 | .w=>true
 | .call=>true
 | .d=>true
 | _=>false
def uq (c:aF) (d:Nat):List (Tag×Oper)->Bool
 | []=>true
 | (t,o) :: r=>(match o.dst with
  | some d'=>!(Nat.beq d' d)
  | none=>true) && (match t with
  | .w=>nG c o.op && (match o.guard with
   | none=>true
   | some _=>false)
  | _=>true) && uq c d r
def Ap (o:Oper):Option (Nat×Nat):=match o.op,o.dst,o.guard with
 | .alloc t,some d,none=>some (t,d)
 | _,_,_=>none
def early (E:Ev) (ops:List Oper) (π:List (Tag×Nat)) (ia:Nat) (st:St):Bool:=
 match eI ops ia,cutAt ia π with
 | some oa,some (x,y)=>match Ap oa,pick ops x with
  | some (t,d),some L=>match E.c.I t,dn st.env d with
   | some _,none=>Nat.blt d E.n && uq E.c d L
   | _,_=>false
  | _,_=>false
 | _,_=>false
def zX (t:Ty):Nat->List (Nat×IV)->Option (List t.den)
 | _,[]=>some []
 | q,(i,u) :: r=>match Nat.beq i q,eD t u,zX t (q + 1) r with
  | true,some x,some xs=>some (x :: xs)
  | _,_,_=>none
def rj (c:aF) (il:aE):Op->Option fY
 | .alloc t=>match c.I t with
  | some v=>some (.blk t v)
  | none=>none
 | .makeSlice ty x y=>match c.D ty with
  | some (.slice e)=>match c.E e,aC c il x,aC c il y with
   | some t,some (.o (.i i)),some (.o (.i j))=>match cw t.zero i j with
    | some xs=>some (.row e t xs)
    | none=>none
   | _,_,_=>none
  | _=>none
 | .buildSlice ty len ps=>match c.D ty with
  | some (.slice e)=>match c.E e,oR c il ps.toList with
   | some t,some vs=>match Nat.beq vs.length len,Nat.ble (len * t.size) 16777216,zX t 0 vs with
    | true,true,some xs=>some (.row e t xs)
    | _,_,_=>none
   | _,_=>none
  | _=>none
 | _=>none
def uD (n:Nat):fY->IV
 | .blk _ _=>.pt n []
 | _=>.rw n
abbrev hU:=Option Tag×Nat×List Nat
def xY (o:Oper):Option Nat:=match o.guard,o.dst with
 | none,some d=>some d
 | _,_=>none
def qN:Op->List Operand
 | .makeSlice _ x y=>[x,y]
 | .buildSlice _ _ ps=>ps.toList.map (·.2)
 | _=>[]
def LI:Operand->Option Nat
 | .tmp t=>some t
 | _=>none
def JO (d:Nat) (l:List Operand):Bool:=l.all fun x=>match LI x with
 | some t=>!(Nat.beq d t)
 | none=>true
def J_ (E:Ev) (il:aE) (ops:List Oper) (j:Nat):Bool:=match eI ops j with
 | some o=>match xY o,rj E.c il o.op with
  | some d,some _=>match dn il d with
   | none=>Nat.blt d E.n && JO d (qN o.op)
   | some _=>false
  | _,_=>false
 | none=>false
def xN (f:Nat->Bool):List Nat->Bool
 | []=>true
 | x :: r=>f x && xN f r
theorem Fy {f:Nat->Bool}:∀ {l:List Nat},xN f l=true->∀ j ∈ l,f j=true
 | [],_,j,h=>by cases h
 | x :: l,h,j,hj=>by
  simp only [xN,Bool.and_eq_true] at h
  rcases List.mem_cons.1 hj with rfl | hj
  ·exact h.1
  ·exact Fy h.2 j hj
def HK {β:Type} (c:aF) (il:aE) (k:fY->Option β):Op->Option β
 | .makeSlice ty x y=>match c.D ty with
  | some (.slice e)=>match c.E e,aC c il x,aC c il y with
   | some t,some (.o (.i i)),some (.o (.i j))=>(cw t.zero i j).bind fun xs=>k (.row e t xs)
   | _,_,_=>none
  | _=>none
 | op=>match rj c il op with
  | some th=>k th
  | none=>none
theorem N_ {β:Type} {c:aF} {il:aE} {k:fY->Option β} {op:Op} {r:β} (h:HK c il k op=some r):∃ th,rj c il op=some th∧k th=some r:=by
 unfold HK at h
 split at h
 ·split at h<;>first | (cases h;done) | skip
  rename_i hd
  split at h<;>first | (cases h;done) | skip
  rename_i h1 h2 h3
  obtain ⟨xs,hx,h⟩:=bl h
  exact ⟨_,by simp only [rj,hd,h1,h2,h3,hx],h⟩
 ·split at h<;>first | (cases h;done) | skip
  rename_i th jV
  exact ⟨th,jV,h⟩
def frN (E:Ev) (il:aE) (d:Nat) (o:Oper):Bool:=match dn il d with
 | none=>Nat.blt d E.n && JO d (qN o.op)
 | some _=>false
def Jh {β:Type} (E:Ev) (il:aE) (ops:List Oper):List Nat->Option β->Option β
 | [],x=>x
 | j :: js,x=>match eI ops j with
  | some o=>match xY o with
   | some d=>match frN E il d o with
    | true=>HK E.c il (fun _=>Jh E il ops js x) o.op
    | false=>none
   | none=>none
  | none=>none
theorem ZC {β:Type} {E:Ev} {il:aE} {ops:List Oper} {x:Option β} {r:β}:∀ {fs:List Nat},Jh E il ops fs x=some r->xN (J_ E il ops) fs=true∧x=some r
 | [],h=>⟨rfl,h⟩
 | j :: js,h=>by
  simp only [Jh] at h
  split at h<;>first | (cases h;done) | skip
  rename_i o ho
  split at h<;>first | (cases h;done) | skip
  rename_i d hd
  split at h<;>first | (cases h;done) | skip
  rename_i hn
  obtain ⟨th,jV,h⟩:=N_ h
  obtain ⟨h1,h2⟩:=ZC h
  refine ⟨?_,h2⟩
  simp only [xN,h1,Bool.and_true,J_,ho,hd,jV]
  exact hn
def noG (o:Oper):Bool:=match o.guard with
 | none=>true
 | some _=>false
def Ck {β:Type} (E:Ev) (ops:List Oper) (k:St->Option β):List hU->List Nat->St->Option β
 | [],_,st=>k st
 | (t,i,fs) :: L,cr,st=>match eI ops i with
  | some o=>match isNil fs || (nG E.c o.op && noG o) with
   | false=>none
   | true=>Jh E st.env ops fs (match t with
    | some t=>BP E ops t o cr st (Ck E ops k L)
    | none=>match xY o with
     | some d=>match Nat.blt d E.n with
      | true=>HK E.c st.env (fun th=>Ck E ops k L cr ⟨(d,uD st.tb.length th) :: st.env,st.tb ++ [th],st.df⟩) o.op
      | false=>none
     | none=>none)
  | none=>none
def rW {β:Type} (E:Ev) (id:Nat) (ops:List Oper) (draw:Bool) (st:St) (k:St->Option β):Option β:=
 match draw with
 | false=>rO E ops k (JU ops) [] st
 | true=>match E.ms id with
   | some π=>Ck E ops k π [] st
   | none=>match pick ops (E.ord id) with
  | some L=>match E.al id with
   | none=>rO E ops k L [] st
   | some ia=>match early E ops (E.ord id) ia st with
    | true=>rO E ops k L [] st
    | false=>none
  | none=>none
def Sx (P:Program) (ops:Array Oper):(World->Prop)->(Act->World->Prop)->List (Tag×Oper)->Act->World->Prop
 | _,K,[],a,w=>K a w
 | C,K,(.p,o) :: r,a,w=>∃ v,(∀ w,ep P ops w o v a)∧Sx P ops C K r (a.put o.dst v) w
 | C,K,(.r,o) :: r,a,w=>∃ v,ep P ops w o v a∧Sx P ops C K r (a.put o.dst v) w
 | C,K,(.c,o) :: r,a,w=>∃ v,(∀ w,C w->ep P ops w o v a)∧Sx P ops C K r (a.put o.dst v) w
 | C,K,(.w,o) :: r,a,w=>dz P ops (QL K (fun _ _ _=>False) (fun _ _=>False)) o (fun a w=>∃ C':World->Prop,(∀ w,C' w->C w)∧C' w∧Sx P ops C' K r a w) a w
 | C,K,(.b,o) :: r,a,w=>dz P ops (QL K (fun _ _ _=>False) (fun _ _=>False)) o (fun a w=>∃ C':World->Prop,C' w∧Sx P ops C' K r a w) a w
def iz (P:Program) (ops:Array Oper) (K:Act->World->Prop) (S:(World->Prop)->Act->World->Prop) (C:World->Prop):Tag->Oper->Act->World->Prop
 | .p,o,a,w=>∃ v,(∀ w,ep P ops w o v a)∧S C (a.put o.dst v) w
 | .r,o,a,w=>∃ v,ep P ops w o v a∧S C (a.put o.dst v) w
 | .c,o,a,w=>∃ v,(∀ w,C w->ep P ops w o v a)∧S C (a.put o.dst v) w
 | .w,o,a,w=>dz P ops (QL K (fun _ _ _=>False) (fun _ _=>False)) o (fun a w=>∃ C':World->Prop,(∀ w,C' w->C w)∧C' w∧S C' a w) a w
 | .b,o,a,w=>dz P ops (QL K (fun _ _ _=>False) (fun _ _=>False)) o (fun a w=>∃ C':World->Prop,C' w∧S C' a w) a w
theorem iz.sx {P:Program} {ops:Array Oper} {K:Act->World->Prop} {C:World->Prop} {t:Tag} {o:Oper} {L:List (Tag×Oper)} {a:Act} {w:World} (h:iz P ops K (fun C a w=>Sx P ops C K L a w) C t o a w):Sx P ops C K ((t,o) :: L) a w:=by
 cases t<;>exact h
theorem abE {P:Program} {K:Act->World->Prop} {S:(World->Prop)->Act->World->Prop} {a:Act} {w:World} {C:World->Prop} {ops:Array Oper} {t:Tag} {o:Oper} {v:Value} (hC:C w) (hy:∀ w,ep P ops w o v a) (k:S C (a.put o.dst v) w):iz P ops K S C t o a w:=by
 cases t with
 | p=>exact ⟨v,hy,k⟩
 | r=>exact ⟨v,hy w,k⟩
 | c=>exact ⟨v,fun w _=>hy w,k⟩
 | w=>exact (hy w).upon (K:=fun a w=>∃ C':World->Prop,(∀ w,C' w->C w)∧C' w∧S C' a w) ⟨C,fun _ h=>h,hC,k⟩
 | b=>exact (hy w).upon (K:=fun a w=>∃ C':World->Prop,C' w∧S C' a w) ⟨C,hC,k⟩
def D5 (P:Program) (ops:Array Oper) (K:Act->World->Prop) (oa:Oper) (post:List (Tag×Oper)):List (Tag×Oper)->(World->Prop)->Act->World->Prop
 | [],C,a,w=>Sx P ops C K ((.w,oa) :: post) a w
 | (t,o) :: r,C,a,w=>iz P ops K (D5 P ops K oa post r) C t o a w ∧
  (t=.w->dz P ops (QL K (fun _ _ _=>False) (fun _ _=>False)) oa (fun a w=>∃ C':World->Prop,(∀ w,C' w->C w)∧C' w∧Sx P ops C' K ((t,o) :: r ++ post) a w) a w)
def LF (P:Program) (ops:Array Oper) (K:Act->World->Prop) (L:List (Tag×Oper)) (C:World->Prop) (a:Act) (w:World):Prop:=∃ C':World->Prop,(∀ w,C' w->C w)∧C' w∧Sx P ops C' K L a w
theorem iz.sxn {P:Program} {ops:Array Oper} {K:Act->World->Prop} {C:World->Prop} {t:Tag} {o:Oper} {L:List (Tag×Oper)} {a:Act} {w:World} (hC:C w) (h:iz P ops K (LF P ops K L) C t o a w):LF P ops K ((t,o) :: L) C a w:=by
 cases t with
 | p=>obtain ⟨v,h1,C',h2,h3,h4⟩:=h;exact ⟨C',h2,h3,v,h1,h4⟩
 | r=>obtain ⟨v,h1,C',h2,h3,h4⟩:=h;exact ⟨C',h2,h3,v,h1,h4⟩
 | c=>obtain ⟨v,h1,C',h2,h3,h4⟩:=h;exact ⟨C',h2,h3,v,fun w hw=>h1 w (h2 w hw),h4⟩
 | w=>
  refine ⟨C,fun _ h=>h,hC,?_⟩
  simp only [iz,dz] at h
  simp only [Sx,dz]
  split
  ·rename_i hw
   rw [if_pos hw] at h
   exact Oper.wp_mono (fun a w ⟨C',h1,h2,C2,h3,h4,h5⟩=>⟨C2,fun w hw=>h1 w (h3 w hw),h4,h5⟩) h
  ·rename_i hw
   rw [if_neg hw] at h
   obtain ⟨C',h1,h2,C2,h3,h4,h5⟩:=h
   exact ⟨C2,fun w hw=>h1 w (h3 w hw),h4,h5⟩
 | b=>
  refine ⟨C,fun _ h=>h,hC,?_⟩
  simp only [iz,dz] at h
  simp only [Sx,dz]
  split
  ·rename_i hw
   rw [if_pos hw] at h
   exact Oper.wp_mono (fun a w ⟨C',h2,C2,h3,h4,h5⟩=>⟨C2,h4,h5⟩) h
  ·rename_i hw
   rw [if_neg hw] at h
   obtain ⟨C',h2,C2,h3,h4,h5⟩:=h
   exact ⟨C2,h4,h5⟩
theorem QX {P:Program} {ops:Array Oper} {K:Act->World->Prop}:∀ (C:World->Prop) (l:List Oper) (a:Act) (w:World),Sx P ops C K (JU l) a w->wpList P ops (Qn K) l a w
 | _,[],_,_,h=>h
 | C,o :: l,a,w,h=>by
  simp only [JU,Sx,dz] at h
  unfold wpList
  split
  ·rename_i hw
   rw [if_pos hw] at h
   exact .inl (Oper.wp_mono (fun a w ⟨C',_,_,h⟩=>QX C' l a w h) h)
  ·rename_i hw
   rw [if_neg hw] at h
   obtain ⟨C',_,_,h⟩:=h
   exact QX C' l _ _ h
theorem cy.wide {P:Program} {ops:Array Oper} {C C':Array Bool->World->Prop} {K:Act->World->Prop} {Z:Nat->Bool} (hC:∀ L w,C' L w->C L w):∀ {fuel:Nat} {listed:Array Bool} {a:Act} {w:World},cy P ops C' Z K fuel listed a w->cy P ops C Z K fuel listed a w
 | 0,_,_,_,h=>⟨hC _ _ h.1,h.2.1,h.2.2⟩
 | _ + 1,_,_,_,h=>⟨hC _ _ h.1,h.2.1,fun i hi=>wpOp_mono (fun _ _ h=>⟨h.1,cy.wide hC h.2⟩) (h.2.2 i hi)⟩
theorem ahk {L:Array Bool} {i k:Nat} (h:L.getD i false=true):(L.setIfInBounds k true).getD i false=true:=by
 by_cases hki:k=i
 ·subst hki
  rcases Nat.lt_or_ge k L.size with h' | h'
  ·simp [h']
  ·simp [Array.getElem?_eq_none h'] at h
 ·rw [getD_set_ne false hki];exact h
theorem cy.D_ {P:Program} {ops:Array Oper} {C C':Array Bool->World->Prop} {K:Act->World->Prop} {Z:Nat->Bool} {i0:Nat} (hC:∀ L w,L.getD i0 false=true->C' L w->C L w):∀ {fuel:Nat} {listed:Array Bool} {a:Act} {w:World},listed.getD i0 false=true->cy P ops C' Z K fuel listed a w->cy P ops C Z K fuel listed a w
 | 0,_,_,_,hl,h=>⟨hC _ _ hl h.1,h.2.1,h.2.2⟩
 | _ + 1,_,_,_,hl,h=>⟨hC _ _ hl h.1,h.2.1,fun i hi=>wpOp_mono (fun _ _ h=>⟨h.1,cy.D_ hC (ahk hl) h.2⟩) (h.2.2 i hi)⟩
def CB (π:List (Tag×Nat)) (C:World->Prop) (L:Array Bool) (w:World):Prop:=(∀ i,(Tag.b,i) ∈ π->L.getD i false=false)->C w
theorem CB.cons {π:List (Tag×Nat)} {C C':World->Prop} {x:Tag×Nat} (hC:∀ w,C' w->C w):∀ L w,CB π C' L w->CB (x :: π) C L w:=fun L w h hb=>hC w (h fun i hi=>hb i (List.mem_cons_of_mem _ hi))
theorem CB.mono {π:List (Tag×Nat)} {C C':World->Prop} (hC:∀ w,C' w->C w):∀ L w,CB π C' L w->CB π C L w:=fun L w h hb=>hC w (h hb)
theorem CB.down {π:List (Tag×Nat)} {C:World->Prop} {Z:Nat->Bool} {i:Nat} (hz:Z i=true) (hZ:∀ t k,(t,k) ∈ π->t=.w∨t=.b->Z k=false):∀ L w,CB π C (L.setIfInBounds i true) w->CB π C L w:=fun L w h hb=>h fun k hk=>by
 have hne:i ≠ k:=fun e=>by
  have:=hZ .b k hk (.inr rfl)
  rw [← e,hz] at this
  cases this
 rw [getD_set_ne false hne];exact hb k hk
theorem SW {P:Program} {K:Act->World->Prop} {l:List Oper} {Z:Nat->Bool} {π:List (Tag×Nat)} {C:World->Prop} {i:Nat} {o:Oper} {v:Value} {fuel:Nat} {listed:Array Bool} {a:Act} {w:World} (hsel:Region.noSelect l.toArray=true) (hi:l.toArray[i]? = some o) (hf:Region.free .any l.toArray listed i=true) (hz:Z i=true) (hZ:∀ t k,(t,k) ∈ (Tag.c,i) :: π->t=.w∨t=.b->Z k=false) (hB:Ax l.toArray listed i π=true)
  (hr:i ∈ Region.ready .any l.toArray listed) (hC:C w) (hy:∀ w,C w->ep P l.toArray w o v a) (H:cy P l.toArray (CB π C) Z K fuel (listed.setIfInBounds i true) (a.put o.dst v) w):cy P l.toArray (CB ((.c,i) :: π) C) Z K (fuel + 1) listed a w:=by
 have H':=cy.wide (CB.cons (x:=(.c,i)) (fun _ h=>h)) H
 simp only [Ax,Bool.or_eq_true,Bool.and_eq_true] at hB
 rcases hB with hB | ⟨⟨hl,dh⟩,CF⟩
 ·refine uv (C':=C) (D:=fun _=>False) hi (Region.noSelect_spec hsel) (fun _ _ h=>h.elim) (CB.down hz hZ) fuel listed a w (Region.free_spec hi hf) (fun _ h=>h.elim) (fun _ _ _ _ _ _ L _ w' _ _ h _=>h fun k hk=>?_) hr hC hy H'
  rcases List.mem_cons.1 hk with hk | hk
  ·cases hk
  ·have:=List.all_eq_true.1 hB _ hk
   simp at this
 ·refine uv (C':=C) (D:=fun j=>j ∈ kQ l.toArray i) hi (Region.noSelect_spec hsel) ?_ (CB.down hz hZ) fuel listed a w (Region.free_spec hi hf) ?_ (fun _ _ _ _ _ _ L _ w' hL _ h _=>h fun k hk=>?_) hr hC hy H'
  ·intro j oj hj gE
   have:=List.all_eq_true.1 hl j hj
   simp only [gE] at this
   obtain ⟨e,he,hb⟩:=Array.any_eq_true'.1 this
   simp only [Bool.and_eq_true,Bool.or_eq_true,beq_iff_eq,List.contains_iff_mem] at hb
   exact ⟨e,he,hb.1,hb.2⟩
  ·intro j hj
   have:=List.all_eq_true.1 dh j hj
   simpa using this
  ·rcases List.mem_cons.1 hk with hk | hk
   ·cases hk
   ·have:=List.all_eq_true.1 CF _ hk
    simp at this
    exact hL k this
theorem nP {P:Program} {K:Act->World->Prop} {l:List Oper} {Z:Nat->Bool} (hsel:Region.noSelect l.toArray=true):∀ (π:List (Tag×Nat)) (C:World->Prop) (L:List (Tag×Oper)) (listed:Array Bool) (a:Act) (w:World),pick l π=some L->(∀ t i,(t,i) ∈ π->t=.w∨t=.b->Z i=false) ->
  vh l.toArray Z π listed=true->C w->Sx P l.toArray C K L a w->cy P l.toArray (CB π C) Z K π.length listed a w
 | [],C,L,listed,a,w,hp,_,hB,hC,h=>by
  simp only [pick,az] at hp
  subst hp
  exact ⟨fun _=>hC,by simpa [vh] using hB,h⟩
 | (t,i) :: π,C,L,listed,a,w,hp,hZ,hB,hC,h=>by
  simp only [pick] at hp
  split at hp
  case h_2=>cases hp
  rename_i o os ho hos
  simp only [az] at hp
  subst hp
  have hi:l.toArray[i]? = some o:=by rw [← vW];exact ho
  simp only [vh,Bool.and_eq_true] at hB
  obtain ⟨⟨hr,ht⟩,e9⟩:=hB
  have hr':i ∈ Region.ready .any l.toArray listed:=by simpa using hr
  have fU:∀ t i,(t,i) ∈ π->t=.w∨t=.b->Z i=false:=fun t i hm=>hZ t i (List.mem_cons_of_mem _ hm)
  cases t with
  | w=>
   simp only [Sx,dz] at h
   refine ⟨fun _=>hC,fun h0=>(by rw [h0] at hr';cases hr'),fun j hj=>?_⟩
   have hlen:(Region.ready .any l.toArray listed).length=1:=by simpa using ht
   obtain ⟨x,hx⟩:=List.length_eq_one_iff.1 hlen
   rw [hx] at hr' hj
   have hji:j=i:=by simp at hr' hj;omega
   subst hji
   have jE:Z j=false:=hZ .w j (List.mem_cons_self ..) (.inl rfl)
   unfold wpOp
   simp only [hi]
   split
   ·rename_i hw
    rw [if_pos hw] at h
    exact .inl (Oper.wp_mono (fun a' w' ⟨C',h1,h2,h3⟩=>⟨fun e=>by simp [jE] at e,cy.wide (CB.cons h1) (nP hsel π C' os _ a' w' hos fU e9 h2 h3)⟩) h)
   ·rename_i hw
    rw [if_neg hw] at h
    obtain ⟨C',h1,h2,h3⟩:=h
    exact ⟨fun e=>by simp [jE] at e,cy.wide (CB.cons h1) (nP hsel π C' os _ _ _ hos fU e9 h2 h3)⟩
  | b=>
   simp only [Sx,dz] at h
   refine ⟨fun _=>hC,fun h0=>(by rw [h0] at hr';cases hr'),fun j hj=>?_⟩
   have hlen:(Region.ready .any l.toArray listed).length=1:=by simpa using ht
   obtain ⟨x,hx⟩:=List.length_eq_one_iff.1 hlen
   rw [hx] at hr' hj
   have hji:j=i:=by simp at hr' hj;omega
   subst hji
   have jE:Z j=false:=hZ .b j (List.mem_cons_self ..) (.inr rfl)
   have gy:(listed.setIfInBounds j true).getD j false=true:=by
    have hun:=(mem_ready.1 (hx ▸ hr')).1
    rcases Nat.lt_or_ge j listed.size with h' | h'
    ·simp [h']
    ·simp [Array.getElem?_eq_none h'] at hun
   have Bb:∀ {C':World->Prop} (L:Array Bool) (w:World),L.getD j false=true->CB π C' L w->CB ((.b,j) :: π) C L w:=fun L w hl _ hb=>by
    have:=hb j (List.mem_cons_self ..)
    rw [hl] at this
    cases this
   unfold wpOp
   simp only [hi]
   split
   ·rename_i hw
    rw [if_pos hw] at h
    exact .inl (Oper.wp_mono (fun a' w' ⟨C',h2,h3⟩=>⟨fun e=>by simp [jE] at e,cy.D_ Bb gy (nP hsel π C' os _ a' w' hos fU e9 h2 h3)⟩) h)
   ·rename_i hw
    rw [if_neg hw] at h
    obtain ⟨C',h2,h3⟩:=h
    exact ⟨fun e=>by simp [jE] at e,cy.D_ Bb gy (nP hsel π C' os _ _ _ hos fU e9 h2 h3)⟩
  | p=>
   simp only [Sx] at h
   obtain ⟨v,hy,h⟩:=h
   simp only [Bool.and_eq_true] at ht
   exact uv (C':=fun _=>True) (D:=fun _=>False) hi (Region.noSelect_spec hsel) (fun _ _ h=>h.elim) (CB.down ht.2 hZ) π.length listed a w (Region.free_spec hi ht.1) (fun _ h=>h.elim) (fun _ _ _ _ _ _ _ _ _ _ _ _ _=>trivial) hr' trivial (fun w _=>hy w)
    (cy.wide (CB.cons (fun _ h=>h)) (nP hsel π C os _ _ _ hos fU e9 hC h))
  | c=>
   simp only [Sx] at h
   obtain ⟨v,hy,h⟩:=h
   simp only [Bool.and_eq_true] at ht
   exact SW hsel hi ht.1.1 ht.1.2 hZ ht.2 hr' hC hy (nP hsel π C os _ _ _ hos fU e9 hC h)
  | r=>
   simp only [Sx] at h
   obtain ⟨v,hy,h⟩:=h
   simp only [Bool.and_eq_true] at ht
   obtain ⟨⟨⟨⟨hf,hz⟩,hl⟩,dh⟩,CF⟩:=ht
   refine uv (C':=fun w'=>w'=w) (D:=fun j=>j ∈ kQ l.toArray i) hi (Region.noSelect_spec hsel) ?_ (CB.down hz hZ) π.length listed a w (Region.free_spec hi hf) ?_ ?_ hr' rfl (fun w' e=>by rw [e];exact hy)
    (cy.wide (CB.cons (fun _ h=>h)) (nP hsel π C os _ _ _ hos fU e9 hC h))
   ·intro j oj hj gE
    have:=List.all_eq_true.1 hl j hj
    simp only [gE] at this
    obtain ⟨e,he,hb⟩:=Array.any_eq_true'.1 this
    simp only [Bool.and_eq_true,Bool.or_eq_true,beq_iff_eq,List.contains_iff_mem] at hb
    exact ⟨e,he,hb.1,hb.2⟩
   ·intro j hj
    have:=List.all_eq_true.1 dh j hj
    simpa using this
   ·intro j oj gE hji nR hun _ w1 w2 _ OC _ e
    have:=List.all_eq_true.1 CF j (List.mem_range.2 (Array.getElem?_eq_some_iff.1 gE).1)
    simp only [Bool.or_eq_true,beq_iff_eq,List.contains_iff_mem,hji,nR,hun,Bool.false_eq_true,false_or] at this
    rw [OC this,e]
def lP (ops:Array Oper) (Z:Nat->Bool) (ia:Nat) (post:List (Tag×Nat)):List (Tag×Nat)->Array Bool->Bool
 | [],listed=>vh ops Z ((.w,ia) :: post) listed
 | (t,i) :: r,listed=>
  (Region.ready .any ops listed).contains i &&
  (match t with
     | .w=>(Region.ready .any ops listed).all (fun j=>j == i || j == ia) && vh ops Z ((t,i) :: r ++ post) (listed.setIfInBounds ia true)
     | .c=>Region.free .any ops listed i && Z i && Ax ops listed i (r ++ post)
     | .p=>Region.free .any ops listed i && Z i
     | .b=>false
     | .r=>false) &&
  lP ops Z ia post r (listed.setIfInBounds i true)
theorem VT {l:List Oper}:∀ {x y:List (Tag×Nat)} {X Y:List (Tag×Oper)},pick l x=some X->pick l y=some Y->pick l (x ++ y)=some (X ++ Y)
 | [],y,X,Y,h1,h2=>by simp only [pick,az] at h1;subst h1;exact h2
 | (t,i) :: x,y,X,Y,h1,h2=>by
  simp only [pick] at h1
  split at h1
  case h_2=>cases h1
  rename_i o os ho hos
  cases h1
  simp only [List.cons_append,pick,ho,VT hos h2]
theorem Ui {P:Program} {K:Act->World->Prop} {l:List Oper} {Z:Nat->Bool} {ia:Nat} {oa:Oper} (hsel:Region.noSelect l.toArray=true) (CG:eI l ia=some oa) (xo:Z ia=false) {post:List (Tag×Nat)} {Lp:List (Tag×Oper)} (hpost:pick l post=some Lp):∀ (π:List (Tag×Nat)) (C:World->Prop) (L:List (Tag×Oper)) (listed:Array Bool) (a:Act) (w:World),pick l π=some L->(∀ t i,(t,i) ∈ π ++ post->t=.w∨t=.b->Z i=false) ->
  lP l.toArray Z ia post π listed=true->C w->D5 P l.toArray K oa Lp L C a w->cy P l.toArray (CB (π ++ post) C) Z K (π.length + 1 + post.length) listed a w
 | [],C,L,listed,a,w,hp,hZ,hB,hC,h=>by
  simp only [pick,az] at hp
  subst hp
  have:=nP hsel ((.w,ia) :: post) C ((.w,oa) :: Lp) listed a w (by simp [pick,CG,hpost]) (fun t i hm ht=>by
   rcases List.mem_cons.1 hm with hm | hm
   ·cases hm;exact xo
   ·exact hZ t i (by simpa using hm) ht) hB hC h
  have:=cy.wide (C:=CB ([] ++ post) C) (fun L w h hb=>h fun i hi=>by
   rcases List.mem_cons.1 hi with hi | hi
   ·cases hi
   ·exact hb i (by simpa using hi)) this
  simpa [Nat.add_comm] using this
 | (t,i) :: π,C,L,listed,a,w,hp,hZ,hB,hC,h=>by
  simp only [pick] at hp
  split at hp
  case h_2=>cases hp
  rename_i o os ho hos
  simp only [az] at hp
  subst hp
  have hi:l.toArray[i]? = some o:=by rw [← vW];exact ho
  have apE:l.toArray[ia]? = some oa:=by rw [← vW];exact CG
  simp only [lP,Bool.and_eq_true] at hB
  obtain ⟨⟨hr,ht⟩,e9⟩:=hB
  have hr':i ∈ Region.ready .any l.toArray listed:=by simpa using hr
  have fU:∀ t i,(t,i) ∈ π ++ post->t=.w∨t=.b->Z i=false:=fun t i hm=>hZ t i (List.mem_cons_of_mem _ hm)
  have ih:=Ui (P:=P) (K:=K) hsel CG xo hpost π
  obtain ⟨h,halt⟩:=h
  have hlen:((t,i) :: π).length + 1 + post.length=(π.length + 1 + post.length) + 1:=by simp;omega
  rw [hlen]
  cases t with
  | w=>
   simp only [iz,dz] at h
   have halt:=halt rfl
   simp only [dz] at halt
   simp only [Bool.and_eq_true] at ht
   refine ⟨fun _=>hC,fun h0=>(by rw [h0] at hr';cases hr'),fun j hj=>?_⟩
   have hj2:=List.all_eq_true.1 ht.1 j hj
   simp only [Bool.or_eq_true,beq_iff_eq] at hj2
   by_cases hji:j=i
   ·subst hji
    have jE:Z j=false:=hZ .w j (List.mem_cons_self ..) (.inl rfl)
    unfold wpOp
    simp only [hi]
    split
    ·rename_i hw
     rw [if_pos hw] at h
     exact .inl (Oper.wp_mono (fun a' w' ⟨C',h1,h2,h3⟩=>⟨fun e=>by simp [jE] at e,cy.wide (CB.cons h1) (ih C' os _ a' w' hos fU e9 h2 h3)⟩) h)
    ·rename_i hw
     rw [if_neg hw] at h
     obtain ⟨C',h1,h2,h3⟩:=h
     exact ⟨fun e=>by simp [jE] at e,cy.wide (CB.cons h1) (ih C' os _ _ _ hos fU e9 h2 h3)⟩
   ·have hja:j=ia:=by rcases hj2 with h' | h';exact absurd h' hji;exact h'
    subst hja
    have go:∀ C' a' w',C' w'->Sx P l.toArray C' K ((.w,o) :: os ++ Lp) a' w'->cy P l.toArray (CB ((.w,i) :: π ++ post) C') Z K (π.length + 1 + post.length) (listed.setIfInBounds j true) a' w':=fun C' a' w' h2 h3=>by
     have:=nP hsel ((.w,i) :: π ++ post) C' ((.w,o) :: os ++ Lp) (listed.setIfInBounds j true) a' w' (VT (x:=(.w,i) :: π) (X:=(.w,o) :: os) (by simp [pick,ho,hos]) hpost) (fun t k hm ht=>hZ t k (by simpa using hm) ht) ht.2 h2 h3
     have e:((Tag.w,i) :: π ++ post).length=π.length + 1 + post.length:=by simp;omega
     rw [e] at this
     exact this
    unfold wpOp
    simp only [apE]
    split
    ·rename_i hw
     rw [if_pos hw] at halt
     exact .inl (Oper.wp_mono (fun a' w' ⟨C',h1,h2,h3⟩=>⟨fun e=>by simp [xo] at e,cy.wide (CB.mono h1) (go C' a' w' h2 h3)⟩) halt)
    ·rename_i hw
     rw [if_neg hw] at halt
     obtain ⟨C',h1,h2,h3⟩:=halt
     exact ⟨fun e=>by simp [xo] at e,cy.wide (CB.mono h1) (go C' _ _ h2 h3)⟩
  | p=>
   obtain ⟨v,hy,h⟩:=h
   simp only [Bool.and_eq_true] at ht
   exact uv (C':=fun _=>True) (D:=fun _=>False) hi (Region.noSelect_spec hsel) (fun _ _ h=>h.elim) (CB.down ht.2 hZ) _ listed a w (Region.free_spec hi ht.1) (fun _ h=>h.elim) (fun _ _ _ _ _ _ _ _ _ _ _ _ _=>trivial) hr' trivial (fun w _=>hy w)
    (cy.wide (CB.cons (fun _ h=>h)) (ih C os _ _ _ hos fU e9 hC h))
  | c=>
   obtain ⟨v,hy,h⟩:=h
   simp only [Bool.and_eq_true] at ht
   exact SW hsel hi ht.1.1 ht.1.2 hZ ht.2 hr' hC hy (ih C os _ _ _ hos fU e9 hC h)
  | b=>cases ht
  | r=>cases ht
def My (l:List Oper) (ia:Nat) (x y:List (Tag×Nat)):Bool:=
 Region.noSelect l.toArray && (x.length + 1 + y.length == l.length) && lP l.toArray (fun j=>!sj (x ++ (.w,ia) :: y) j) ia y x (Array.replicate l.length false)
theorem ah8 {t0:Tag} (h0:t0=.w∨t0=.b) {x y:List (Tag×Nat)} {i j:Nat} (h:(t0,i) ∈ x ++ y):sj (x ++ (.w,j) :: y) i=true:=by
 refine J4 h0 _ _ ?_
 rcases List.mem_append.1 h with h | h
 ·exact List.mem_append_left _ h
 ·exact List.mem_append_right _ (List.mem_cons_of_mem _ h)
theorem alr {P:Program} {K:Act->World->Prop} {l:List Oper} (x y:List (Tag×Nat)) {ia:Nat} {oa:Oper} {Lx Ly:List (Tag×Oper)} {a:Act} {w:World} (C:World->Prop) (hB:My l ia x y=true)
  (CG:eI l ia=some oa) (hx:pick l x=some Lx) (hy:pick l y=some Ly) (hC:C { w with drawn:=w.drawn + 1 }) (h:D5 P l.toArray K oa Ly Lx C a { w with drawn:=w.drawn + 1 }):wpAny P .any l.toArray (Qn K) l.toArray.size (Array.replicate l.toArray.size false) a { w with drawn:=w.drawn + 1 }:=by
 simp only [My,Bool.and_eq_true,beq_iff_eq] at hB
 obtain ⟨⟨hs,hl⟩,ho⟩:=hB
 have xo:(fun j=>!sj (x ++ (.w,ia) :: y) j) ia=false:=by
  have:sj (x ++ (.w,ia) :: y) ia=true:=J4 (.inl rfl) _ _ (List.mem_append_right _ (List.mem_cons_self ..))
  simp [this]
 have:=(Ui hs CG xo hy x C Lx _ a _ hx (fun t i hm ht=>by simp [ah8 ht hm]) ho hC h).any
 rw [hl] at this
 simpa using this
theorem aiC {P:Program} {K:Act->World->Prop} {l:List Oper} (π:List (Tag×Nat)) {L:List (Tag×Oper)} {a:Act} {w:World} (C:World->Prop) (hB:R6 l π=true)
  (hp:pick l π=some L) (hC:C { w with drawn:=w.drawn + 1 }) (h:Sx P l.toArray C K L a { w with drawn:=w.drawn + 1 }):wpAny P .any l.toArray (Qn K) l.toArray.size (Array.replicate l.toArray.size false) a { w with drawn:=w.drawn + 1 }:=by
 simp only [R6,Bool.and_eq_true,beq_iff_eq] at hB
 obtain ⟨⟨hs,hl⟩,ho⟩:=hB
 have:=(nP hs π C L _ a _ hp (fun t i hm ht=>by simp [J4 ht π i hm]) ho hC h).any
 rw [hl] at this
 simpa using this
section
variable {P:Program}
def pH (P:Program) (c:aF) (f:FuncId) (X:jf):Prop:=
 ∀ (β:Type) (vs:List IV) (tb:aj) (k:Option IV->aj->List Nat->Option β) (r:β) (O:Own) (ρ:List Hd) (w:World) (cs:List (List Value)),X β vs tb k=some r->GO c O->Gm O ρ tb w->RL O ρ vs cs->Se P false c O ρ w f (aO vs cs) k r
def bS (P:Program) (E:Ev):Prop:=(∀ f ct,ct ∈ E.ct f->Sound P E.c f ct∧∃ fn,P.funcs[f]? = some fn∧fn.body.isSome=true∧(fn.name == "runtime.NumGoroutine")=false) ∧
 (∀ f ct,ct ∈ E.cd f->lN P E.c true f ct∧∃ fn,P.funcs[f]? = some fn∧fn.body.isSome=true∧(fn.name == "runtime.NumGoroutine")=false) ∧
 ∀ f X,E.cx f=some X->pH P E.c f X∧∃ fn,P.funcs[f]? = some fn∧fn.body.isSome=true∧(fn.name == "runtime.NumGoroutine")=false
def FS (n:Nat) (a:Act) (st:St) (O:Own) (ρ:List Hd):Prop:=FI n a st.env O ρ∧DR O ρ st.df a.defers
def gW (CR:List Nat) (O:Own) (w w':World):Prop:=Kept (fun b=>O b=.no∨∃ id,id ∉ CR∧O b=.th id) w w'
structure fM (M:Nat->Prop) (O:Own) (ρ:List Hd) (w:World) (O':Own) (ρ':List Hd) (w':World):Prop where
 pre:Pre ρ ρ'
 im:O.le O'
 own:∀ b id,b < w.heap.size->O b=.th id->¬ M id->O' b=.th id
 kept:Kept (fun b=>O b=.no∨∃ id,M id∧O b=.th id) w w'
theorem aR.q {M:Nat->Prop} {O O':Own} {ρ ρ':List Hd} {w w':World} (h:aR M O ρ w O' ρ' w'):fM M O ρ w O' ρ' w':=
 ⟨h.pre,h.im,h.own,h.kept.wide (fun _ e=>.inr e)⟩
theorem fM.refl (M:Nat->Prop) (O:Own) (ρ:List Hd) (w:World):fM M O ρ w O ρ w:=(aR.refl M O ρ w).q
theorem fM.bD {M M':Nat->Prop} (hM:∀ i,M i->M' i) {O O':Own} {ρ ρ':List Hd} {w w':World} (h:fM M O ρ w O' ρ' w'):fM M' O ρ w O' ρ' w':=
 ⟨h.pre,h.im,fun b id hb e hn=>h.own b id hb e (fun m=>hn (hM id m)),h.kept.wide (fun b e=>e.imp (fun h=>h) (fun ⟨id,m,e⟩=>⟨id,hM id m,e⟩))⟩
theorem fM.trans {M:Nat->Prop} {O O' mC:Own} {ρ ρ' mh:List Hd} {w w' w'':World} (h:fM M O ρ w O' ρ' w') (k:fM M O' ρ' w' mC mh w''):fM M O ρ w mC mh w'':=by
 refine ⟨h.pre.trans k.pre,h.im.trans k.im,fun b id hb e hM=>k.own b id (Nat.lt_of_lt_of_le hb h.kept.size) (h.own b id hb e hM) hM,?_⟩
 refine h.kept.trans k.kept fun b hb hn=>?_
 cases e0:O b with
 | no=>exact .inl rfl
 | im all=>
  have:=h.im b all e0
  rcases hn with hn | ⟨id,_,hn⟩<;>(rw [this] at hn;cases hn)
 | th j=>
  by_cases hj:M j
  ·exact .inr ⟨j,hj,rfl⟩
  ·have:=h.own b j hb e0 hj
   rcases hn with hn | ⟨id,hM,hn⟩
   ·rw [this] at hn;cases hn
   ·rw [this] at hn;cases hn;exact absurd hM hj
variable {E:Ev} {ops:List Oper} {K:Act->World->Prop}
theorem oG {d:Option Nat} {v:IV} {il bp:aE} {O:Own} {ρ:List Hd} {a:Act} {x:SV} (e:e_ E d v il=some bp) (h:FI E.n a il O ρ) (hv:SR O ρ v x):FI E.n (a.put d x.val) bp O ρ:=by
 unfold e_ at e
 split at e
 ·cases e;exact h
 ·split at e
  ·rename_i hd;cases e;exact h.put hd hv
  ·cases e
theorem arl {d:Option Nat} {il bp:aE} {O:Own} {ρ:List Hd} {a:Act} (e:e_ E d (.tu .un) il=some bp) (h:FI E.n a il O ρ):FI E.n (a.put d undef) bp O ρ:=
 oG (x:=.t []) e h ⟨[],rfl,rfl⟩
theorem NL {vs:List IV} {tb:aj}:∀ {l:List Ct} {ct:Ct},rF vs tb l=some ct->ct ∈ l
 | [],ct,h=>by simp [rF] at h
 | [x],ct,h=>by simp [rF] at h;simp [h]
 | x :: y :: r,ct,h=>by
  simp only [rF] at h
  split at h
  ·cases h;simp
  ·exact List.mem_cons_of_mem _ (NL (l:=y :: r) h)
theorem CV {O:Own} {ρ:List Hd}:∀ {v:IV} {l:List IV} {xs:List Value},ni v=some l->R O ρ true v xs->∃ cs,RL O ρ l cs∧xs=aO l cs:=by
 intro v
 induction v with
 | un=>intro l xs e h;simp only [ni,az] at e;subst e;simp only [R] at h;subst h;exact ⟨[],rfl,rfl⟩
 | pr a b bF bK=>
  intro l xs e h
  simp only [ni] at e
  split at e<;>first | (cases e;done) | skip
  rename_i l' hl
  cases e
  obtain ⟨x,r,rfl,h2,h3⟩:=h
  obtain ⟨cs,h4,rfl⟩:=bK hl h3
  cases hg:a.agg with
  | true=>
   rw [hg] at h2
   obtain ⟨c0,rfl,h2⟩:=h2
   exact ⟨c0 :: cs,⟨c0,cs,rfl,h2,h4⟩,by simp [aO,hg]⟩
  | false=>
   rw [hg] at h2
   exact ⟨[x] :: cs,⟨[x],cs,rfl,h2,h4⟩,by simp [aO,hg]⟩
 | _=>intro l xs e;simp [ni] at e
theorem YK {c:aF} {n:Nat} {a:Act} {l:Env} {il:aE} {O:Own} {ρ:List Hd} (hF:Fr n a l) (hE:ER O ρ il l) (hG:GO c O):∀ {xs:List Operand} {vs:List IV},DE c il xs=some vs->∃ cs,RL O ρ vs cs∧xs.map a.eval=aO vs cs
 | [],vs,e=>by simp only [DE,az] at e;subst e;exact ⟨[],rfl,rfl⟩
 | x :: xs,vs,e=>by
  simp only [DE] at e
  split at e<;>first | (cases e;done) | skip
  rename_i v vs' hn hx hxs
  cases e
  obtain ⟨cs,h1,h2,h3,h4⟩:=nK hF hE hG hx (fun ch e=>hn ch (by rw [e]))
  obtain ⟨ds,h5,h6⟩:=YK hF hE hG hxs
  refine ⟨cs :: ds,⟨cs,ds,rfl,h2,h5⟩,?_⟩
  simp only [List.map_cons,aO,h6]
  cases hg:v.agg with
  | true=>rw [h3 hg];rfl
  | false=>rw [h4 hg];simp
theorem RL.append {O:Own} {ρ:List Hd}:∀ {vs us:List IV} {cs ds:List (List Value)},RL O ρ vs cs->RL O ρ us ds->RL O ρ (vs ++ us) (cs ++ ds)∧aO (vs ++ us) (cs ++ ds)=aO vs cs ++ aO us ds
 | [],us,cs,ds,h,k=>by simp only [RL] at h;subst h;exact ⟨k,rfl⟩
 | v :: vs,us,cs,ds,h,k=>by
  obtain ⟨c0,r,rfl,h1,h2⟩:=h
  obtain ⟨h3,h4⟩:=RL.append h2 k
  exact ⟨⟨c0,r ++ ds,rfl,h1,h3⟩,by simp [aO,h4]⟩
theorem Yq {β:Type} {a:Act} {l:Env} {il:aE} {O:Own} {ρ:List Hd} {tb:aj} {w:World} {o:Oper} {k:Option IV->aj->List Nat->Option β} {r:β} (hct:bS P E) (hF:Fr E.n a l) (hE:ER O ρ il l) (hG:GO E.c O) (hM:Gm O ρ tb w) (e:I_ E il tb k o.op=some r) :
  ∃ f xs,(execOp a.eval o).run P w=.ok (.enter f xs) w∧∃ v aL mu,k (some v) aL mu=some r∧Calls P f xs w (eJ fun x w'=>∃ O' ρ' sv,x=sv.val∧SR O' ρ' v sv∧Gm O' ρ' aL w'∧aR (· ∈ mu) O ρ w O' ρ' w'):=by
 cases ho:o.op<;>rw [ho] at e<;>simp only [I_] at e<;>first | (cases e;done) | skip
 rename_i cl
 obtain ⟨callee,args,ats⟩:=cl
 simp only at e
 split at e<;>first | (cases e;done) | skip
 rename_i x
 split at e<;>first | (cases e;done) | skip
 rename_i f av cv hx
 split at e<;>first | (cases e;done) | skip
 rename_i l1 l2 l3 h1 h2 h3
 have key:(∃ fn,P.funcs[f]? = some fn∧fn.body.isSome=true∧(fn.name == "runtime.NumGoroutine")=false)∧∀ cs,RL O ρ (l1 ++ (l2 ++ l3)) cs->Se P false E.c O ρ w f (aO (l1 ++ (l2 ++ l3)) cs) k r:=by
  split at e
  ·rename_i X hX
   obtain ⟨hS,hfn⟩:=hct.2.2 f X hX
   exact ⟨hfn,fun cs hr=>hS _ _ _ _ _ _ _ _ _ e hG hM hr⟩
  ·split at e<;>first | (cases e;done) | skip
   rename_i ct hp
   obtain ⟨hS,hfn⟩:=hct.1 f ct (NL hp)
   exact ⟨hfn,fun cs hr=>Vi hS e hG hM hr⟩
 obtain ⟨⟨fn,hf,hb,hnm⟩,key⟩:=key
 obtain ⟨u,hu,⟨xs,ys,hcs,hxs,hys⟩,_⟩:=bu hE hG hx rfl (by simp) hF
 cases hcs
 obtain ⟨c1,r1,rfl⟩:=CV h1 hxs
 obtain ⟨c2,r2,e2⟩:=YK hF hE hG h2
 obtain ⟨c3,r3,rfl⟩:=CV h3 hys
 obtain ⟨r23,v23⟩:=RL.append r2 r3
 obtain ⟨O_,Pg⟩:=RL.append r1 r23
 obtain ⟨v,aL,mu,hk,i7⟩:=key _ O_
 rw [Pg,v23] at i7
 refine ⟨f,_,?_,v,aL,mu,hk,i7⟩
 have Ru:¬ fn.name = "runtime.NumGoroutine" := by simpa using hnm
 have hb':¬ fn.body=none:=by intro e;simp [e] at hb
 have hargs:args.map a.eval=(aO l2 c2).toArray:=by
  rw [← e2,← Array.toList_map]
 simp only [execOp,ho,resolve,hu,Deferred.ofValue,hargs]
 simp [invoke,callFunc,hf,Ru,hb']
theorem LW {o:Oper} {a:Act} (h:o.guard=none):Region.wanted o (yielded ops.toArray a.tmps)=true:=by simp [Region.wanted,h]
theorem Sm.anR {CR ids:List Nat} {O:Own} {ρ:List Hd} {tb:aj} {w w':World} (hM:Gm O ρ tb w) (h:gW CR O w w') (hi:∀ i,i ∈ ids->i ∈ CR):Sm ids O w w':=by
 intro b hb
 have eu:O b ≠ .no->b < w.heap.size:=fun h=>by
  rcases Nat.lt_or_ge b w.heap.size with h' | h'
  ·exact h'
  ·exact absurd (hM.lt b h') h
 rcases hb with ⟨id,h1,h2⟩ | ⟨all,h2⟩
 ·refine h.block b (eu (by rw [h2];simp)) (fun hn=>?_)
  rcases hn with e | ⟨j,hj,e⟩
  ·rw [h2] at e;cases e
  ·rw [h2] at e;cases e;exact hj (hi id h1)
 ·refine h.block b (eu (by rw [h2];simp)) (fun hn=>?_)
  rcases hn with e | ⟨j,hj,e⟩<;>(rw [h2] at e;cases e)
theorem ait {β:Type} {t:Tag} {o:Oper} {cr:List Nat} {st:St} {k:List Nat->St->Option β} {r:β} {a:Act} {O O0:Own} {ρ aG:List Hd} {w w0:World} {S:(World->Prop)->Act->World->Prop} {Inv:Array Value->aE->Prop} {Cp:World->Prop} (hc:aN P E.c) (hct:bS P E) (hG:GO E.c O) (e:exec E t o cr st k=some r)
  (hF:FS E.n a st O ρ) (hM:Gm O ρ st.tb w) (hw:Region.wanted o (yielded ops.toArray a.tmps)=true) (hst:∀ O' ρ' w',fM (· ∉ cr) O ρ w O' ρ' w'->Cp w') (hS:aR (fun _=>True) O0 aG w0 O ρ w)
  (hI:Inv a.tmps st.env) (nE:∀ (x:Value) v bp,e_ E o.dst v st.env=some bp->Inv (a.put o.dst x).tmps bp)
  (next:∀ (kp:World->Prop) jo ak a' w' O' ρ',k jo ak=some r->FS E.n a' ak O' ρ'->Gm O' ρ' ak.tb w'->GO E.c O'->(∀ mC mh w'',fM (· ∉ jo) O' ρ' w' mC mh w''->kp w'')->aR (fun _=>True) O0 aG w0 O' ρ' w'->Inv a'.tmps ak.env ->
   ∃ CR,(∀ i,i ∈ jo->i ∈ CR)∧S (fun w''=>kp w''∧gW CR O' w' w'') a' w') :
  ∃ CR,(∀ i,i ∈ cr->i ∈ CR)∧(nG E.c o.op=true->CR=cr)∧iz P ops.toArray K S (fun w'=>Cp w'∧gW CR O w w') t o a w:=by
 obtain ⟨⟨l,hl,c9⟩,hD⟩:=hF
 have rY:({ a with defers:=[] }:Act).eval=a.eval:=rfl
 have QN:∀ CR,Cp w∧gW CR O w w:=fun CR=>⟨hst _ _ _ (.refl _ _ _ _),Kept.refl _ _⟩
 have after:∀ {M:Nat->Prop} {ak:St} {a':Act} {w':World} {O':Own} {ρ':List Hd},aR M O ρ w O' ρ' w'->(∀ i,M i->i ∉ cr)->k cr ak=some r->FS E.n a' ak O' ρ'->Gm O' ρ' ak.tb w'->Inv a'.tmps ak.env ->
   ∃ C':World->Prop,(∀ w'',C' w''->Cp w''∧gW cr O w w'')∧C' w'∧S C' a' w':=by
  intro M ak a' w' O' ρ' eC hMc hk ⟨cO,u4⟩ iw kK
  have c_:aR (· ∉ cr) O ρ w O' ρ' w':=eC.bD hMc
  obtain ⟨CR,h1,h3⟩:=next (fun w''=>Cp w''∧gW cr O w w'') cr ak a' w' O' ρ' hk ⟨cO,u4⟩ iw (hG.mono eC.im) (fun mC mh w'' h=>⟨hst _ _ _ (c_.q.trans h),(c_.q.trans h).kept⟩) (hS.trans (eC.bD (fun _ _=>trivial))) kK
  exact ⟨_,fun w'' h=>h.1,⟨⟨hst _ _ _ c_.q,c_.q.kept⟩,Kept.refl _ _⟩,h3⟩
 have QK:∀ {M:Nat->Prop} {ak:St} {a':Act} {w':World} {O':Own} {ρ':List Hd},aR M O ρ w O' ρ' w'->k [] ak=some r->FS E.n a' ak O' ρ'->Gm O' ρ' ak.tb w'->Inv a'.tmps ak.env ->
   ∃ C':World->Prop,C' w'∧S C' a' w':=by
  intro M ak a' w' O' ρ' eC hk cO iw kK
  obtain ⟨CR,h1,h3⟩:=next (fun _=>True) [] ak a' w' O' ρ' hk cO iw (hG.mono eC.im) (fun mC mh w'' h=>trivial) (hS.trans (eC.bD (fun _ _=>trivial))) kK
  exact ⟨_,⟨trivial,Kept.refl _ _⟩,h3⟩
 unfold exec at e
 split at e
 ·
  rename_i ke
  obtain ⟨v,x,hv,hr,hk⟩:=abY hc hl c9 hG hM e
  rw [rY] at hr
  try dsimp only at hk
  split at hk<;>first | (cases hk;done) | skip
  rename_i bp cm
  obtain ⟨CR,h1,h3⟩:=next Cp cr ⟨bp,st.tb,st.df⟩ (a.put o.dst x.val) w O ρ hk ⟨oG cm ⟨l,hl,c9⟩ hv,by rw [put_defers];exact hD⟩ hM hG hst hS (nE x.val v bp cm)
  exact ⟨CR,h1,fun hc=>by simp [nG,ke] at hc,abE (QN CR) (fun w=>ep.mk hw (hr w)) h3⟩
 ·
  rename_i ke
  split at e<;>first | (cases e;done) | skip
  ·rename_i ids tO
   obtain ⟨v,x,hv,hr,hk⟩:=PG hc hl c9 hG hM e tO
   rw [rY] at hr
   try dsimp only at hk
   split at hk<;>first | (cases hk;done) | skip
   rename_i bp cm
   obtain ⟨CR,h1,h3⟩:=next Cp (ids ++ cr) ⟨bp,st.tb,st.df⟩ (a.put o.dst x.val) w O ρ hk ⟨oG cm ⟨l,hl,c9⟩ hv,by rw [put_defers];exact hD⟩ hM hG (fun O' ρ' w' h=>hst O' ρ' w' (h.bD (fun i hi hc=>hi (List.mem_append_right _ hc)))) hS (nE x.val v bp cm)
   refine ⟨CR,fun i hi=>h1 i (List.mem_append_right _ hi),fun hc=>by simp [nG,ke] at hc,x.val,fun w' hw'=>ep.mk hw (hr w' (Sm.anR hM hw'.2 (fun i hi=>h1 i (List.mem_append_left _ hi)))),h3⟩
  ·rename_i tg _ _ ids hnp hnc tO
   obtain ⟨v,x,hv,hr,hk⟩:=PG hc hl c9 hG hM e tO
   rw [rY] at hr
   try dsimp only at hk
   split at hk<;>first | (cases hk;done) | skip
   rename_i bp cm
   obtain ⟨CR,h1,h3⟩:=next Cp cr ⟨bp,st.tb,st.df⟩ (a.put o.dst x.val) w O ρ hk ⟨oG cm ⟨l,hl,c9⟩ hv,by rw [put_defers];exact hD⟩ hM hG hst hS (nE x.val v bp cm)
   have hy:=ep.mk (v:=x.val) hw (hr w (Sm.refl _ _ _))
   refine ⟨CR,h1,fun hc=>by simp [nG,ke] at hc,?_⟩
   cases tg with
   | p=>exact (hnp rfl).elim
   | c=>exact (hnc rfl).elim
   | r=>exact ⟨_,hy,h3⟩
   | w=>exact hy.upon (K:=fun a w'=>∃ C':World->Prop,(∀ w'',C' w''->Cp w''∧gW CR O w w'')∧C' w'∧S C' a w') ⟨_,fun _ h=>h,QN CR,h3⟩
   | b=>exact hy.upon (K:=fun a w'=>∃ C':World->Prop,C' w'∧S C' a w') ⟨_,QN CR,h3⟩
 ·
  split at e<;>first | (cases e;done) | skip
  ·rename_i hap
   obtain ⟨v,x,aL,O',ρ',w',hrun,iw,eC,hk⟩:=Wc hc hl c9 hG hM e
   have cO:FI E.n a st.env O' ρ':=FI.mono eC.im eC.pre ⟨l,hl,c9⟩
   have u4:=hD.mono eC.im eC.pre
   cases v with
   | some v=>
    obtain ⟨hv,hrun⟩:=hrun
    rw [rY] at hrun
    simp only at hk
    try dsimp only at hk
    split at hk<;>first | (cases hk;done) | skip
    rename_i bp cm
    refine ⟨cr,fun _ h=>h,fun _=>rfl,?_⟩
    show dz _ _ _ _ _ _ _
    unfold dz
    rw [if_pos hw]
    simp only [Oper.wp,hrun,Oper.upon]
    exact after (ak:=⟨bp,aL,st.df⟩) eC (fun i hi=>CS hap i hi) hk ⟨oG cm cO hv,by rw [put_defers];exact u4⟩ iw (nE x.val v bp cm)
   | none=>
    simp only at hk
    try dsimp only at hk
    split at hk<;>first | (cases hk;done) | skip
    rename_i hd
    have hrun:(execOp a.eval o).run P w=.ok .skip w':=hrun
    refine ⟨cr,fun _ h=>h,fun _=>rfl,?_⟩
    show dz _ _ _ _ _ _ _
    unfold dz
    rw [if_pos hw]
    simp only [Oper.wp,hrun,Oper.upon,hd]
    exact after (ak:=⟨st.env,aL,st.df⟩) eC (fun i hi=>CS hap i hi) hk ⟨cO,u4⟩ iw hI
  ·obtain ⟨v,x,aL,O',ρ',w',hrun,iw,eC,hk⟩:=Wc hc hl c9 hG hM e
   have cO:FI E.n a st.env O' ρ':=FI.mono eC.im eC.pre ⟨l,hl,c9⟩
   have u4:=hD.mono eC.im eC.pre
   cases v with
   | some v=>
    obtain ⟨hv,hrun⟩:=hrun
    rw [rY] at hrun
    simp only at hk
    try dsimp only at hk
    split at hk<;>first | (cases hk;done) | skip
    rename_i bp cm
    refine ⟨cr,fun _ h=>h,fun _=>rfl,?_⟩
    show dz _ _ _ _ _ _ _
    unfold dz
    rw [if_pos hw]
    simp only [Oper.wp,hrun,Oper.upon]
    exact QK (ak:=⟨bp,aL,st.df⟩) eC hk ⟨oG cm cO hv,by rw [put_defers];exact u4⟩ iw (nE x.val v bp cm)
   | none=>
    simp only at hk
    try dsimp only at hk
    split at hk<;>first | (cases hk;done) | skip
    rename_i hd
    have hrun:(execOp a.eval o).run P w=.ok .skip w':=hrun
    refine ⟨cr,fun _ h=>h,fun _=>rfl,?_⟩
    show dz _ _ _ _ _ _ _
    unfold dz
    rw [if_pos hw]
    simp only [Oper.wp,hrun,Oper.upon,hd]
    exact QK (ak:=⟨st.env,aL,st.df⟩) eC hk ⟨cO,u4⟩ iw hI
 ·
  split at e<;>first | (cases e;done) | skip
  ·obtain ⟨f,xs,hrun,v,aL,mu,hk,i7⟩:=Yq hct hl c9 hG hM e
   rw [rY] at hrun
   try dsimp only at hk
   split at hk<;>first | (cases hk;done) | skip
   rename_i v' hap eV
   cases eV
   try dsimp only at hk
   split at hk<;>first | (cases hk;done) | skip
   rename_i bp cm
   refine ⟨cr,fun _ h=>h,fun _=>rfl,?_⟩
   show dz _ _ _ _ _ _ _
   unfold dz
   rw [if_pos hw]
   simp only [Oper.wp,hrun,Oper.upon]
   refine i7.mono fun en w' he=>?_
   cases en with
   | returned x=>
    obtain ⟨O',ρ',sv,rfl,h2,h3,h4⟩:=he
    exact after (ak:=⟨bp,aL,st.df⟩) h4 (fun i hi=>CS hap i hi) hk ⟨oG cm (FI.mono h4.im h4.pre ⟨l,hl,c9⟩) h2,by rw [put_defers];exact hD.mono h4.im h4.pre⟩ h3 (nE sv.val _ bp cm)
   | panicked _=>exact he.elim
   | outgrown=>exact he.elim
  ·obtain ⟨f,xs,hrun,v,aL,mu,hk,i7⟩:=Yq hct hl c9 hG hM e
   rw [rY] at hrun
   try dsimp only at hk
   split at hk<;>first | (cases hk;done) | skip
   rename_i bp cm
   refine ⟨cr,fun _ h=>h,fun _=>rfl,?_⟩
   show dz _ _ _ _ _ _ _
   unfold dz
   rw [if_pos hw]
   simp only [Oper.wp,hrun,Oper.upon]
   refine i7.mono fun en w' he=>?_
   cases en with
   | returned x=>
    obtain ⟨O',ρ',sv,rfl,h2,h3,h4⟩:=he
    exact QK (ak:=⟨bp,aL,st.df⟩) h4 hk ⟨oG cm (FI.mono h4.im h4.pre ⟨l,hl,c9⟩) h2,by rw [put_defers];exact hD.mono h4.im h4.pre⟩ h3 (nE sv.val _ bp cm)
   | panicked _=>exact he.elim
   | outgrown=>exact he.elim
 ·
  split at e<;>first | (cases e;done) | skip
  rename_i cl ho hd
  split at e<;>first | (cases e;done) | skip
  rename_i x aa6 hargs
  split at e<;>first | (cases e;done) | skip
  rename_i f av cv hx
  obtain ⟨u,hu,hR,_⟩:=bu c9 hG hx rfl (by simp) hl
  have AM:=hR
  obtain ⟨xs,ys,hcs,hxs,hys⟩:=AM
  simp only [List.cons.injEq,and_true] at hcs
  subst hcs
  obtain ⟨callee,args,ats⟩:=cl
  simp only at aa6 hargs
  subst aa6
  have hargs:=lE hargs
  subst hargs
  have qi:a.eval x=_:=hu
  have hrun:(execOp a.eval o).run P w=.ok (.defer ⟨.fn (.func f) ys.toArray,xs.toArray⟩) w:=by
   simp only [execOp,ho,resolve,qi,Deferred.ofValue]
   simp
  refine ⟨cr,fun _ h=>h,fun _=>rfl,?_⟩
  show dz _ _ _ _ _ _ _
  unfold dz
  rw [if_pos hw]
  simp only [Oper.wp,hrun,Oper.upon,hd]
  exact after (M:=fun _=>False) (ak:=⟨st.env,st.tb,.fn f av cv :: st.df⟩) (.refl _ _ _ _) (fun _ h=>h.elim) e ⟨⟨l,hl,c9⟩,.inl ⟨_,_,_,_,rfl,hR,hD⟩⟩ hM hI
theorem FI.lit {n:Nat} {a:Act} {il:aE} {O:Own} {ρ:List Hd} {d:Nat} {g:Bool} (h:FI n a il O ρ) (hd:dn il d=some (.o (.b g))):FI n a ((d,.o (.b g)) :: il) O ρ:=by
 obtain ⟨l,h1,h2⟩:=h
 obtain ⟨x,h3,h4⟩:=h2.get hd
 refine ⟨(d,x) :: l,⟨h1.defers,h1.size,fun t v hv=>?_⟩,rfl,h4,h2⟩
 simp only [get?] at hv
 cases hb:Nat.beq d t with
 | true=>rw [hb] at hv;cases hv;rw [← ay hb];exact h1.has d x h3
 | false=>rw [hb] at hv;exact h1.has t v hv
theorem agS {n:Nat} {a:Act} {il:aE} {O:Own} {ρ:List Hd} {j dj:Nat} {g:Bool} (h:FI n a il O ρ) (hj:(eI ops j).bind (·.dst)=some dj) (hg:dn il dj=some (.o (.b g))):yielded ops.toArray a.tmps j=some g:=by
 obtain ⟨l,h1,h2⟩:=h
 obtain ⟨x,h3,y,rfl,rfl,_⟩:=h2.get hg
 rw [ZM h1 hj h3]
theorem anA {n:Nat} {a:Act} {il:aE} {O:Own} {ρ:List Hd} {j dj:Nat} (h:FI n a il O ρ) (hj:(eI ops j).bind (·.dst)=some dj) (hg:dn il dj=some (.tu .un)):yielded ops.toArray a.tmps j=none:=by
 obtain ⟨l,h1,h2⟩:=h
 obtain ⟨x,h3,xs,rfl,hx⟩:=h2.get hg
 rw [ZM h1 hj h3]
theorem ME {il:aE} {d dj:Nat} {g:Bool} (h:dn il d=none) (hj:dn il dj=some (.o (.b g))):dn ((dj,.o (.b g)) :: il) d=none:=by
 simp only [dn]
 cases hb:Nat.beq dj d with
 | true=>rw [ay hb,h] at hj;cases hj
 | false=>exact h
theorem Fp {β:Type} {t:Tag} {o:Oper} {cr:List Nat} {st:St} {k:List Nat->St->Option β} {r:β} {a:Act} {O O0:Own} {ρ aG:List Hd} {w w0:World} {S:(World->Prop)->Act->World->Prop} {Inv:Array Value->aE->Prop} {Cp:World->Prop} (hc:aN P E.c) (hct:bS P E) (hG:GO E.c O) (e:BP E ops t o cr st k=some r)
  (hF:FS E.n a st O ρ) (hM:Gm O ρ st.tb w) (hst:∀ O' ρ' w',fM (· ∉ cr) O ρ w O' ρ' w'->Cp w') (hS:aR (fun _=>True) O0 aG w0 O ρ w)
  (hI:Inv a.tmps st.env) (H9:∀ dj g,dn st.env dj=some (.o (.b g))->Inv a.tmps ((dj,.o (.b g)) :: st.env)) (nE:∀ il,Inv a.tmps il->∀ (x:Value) v bp,e_ E o.dst v il=some bp->Inv (a.put o.dst x).tmps bp)
  (next:∀ (kp:World->Prop) jo ak a' w' O' ρ',k jo ak=some r->FS E.n a' ak O' ρ'->Gm O' ρ' ak.tb w'->GO E.c O'->(∀ mC mh w'',fM (· ∉ jo) O' ρ' w' mC mh w''->kp w'')->aR (fun _=>True) O0 aG w0 O' ρ' w'->Inv a'.tmps ak.env ->
   ∃ CR,(∀ i,i ∈ jo->i ∈ CR)∧S (fun w''=>kp w''∧gW CR O' w' w'') a' w') :
  ∃ CR,(∀ i,i ∈ cr->i ∈ CR)∧(nG E.c o.op=true->o.guard=none->CR=cr)∧iz P ops.toArray K S (fun w'=>Cp w'∧gW CR O w w') t o a w:=by
 have skip:∀ {il bp:aE},o.guard ≠ none->Region.wanted o (yielded ops.toArray a.tmps)=false->FI E.n a il O ρ->Inv a.tmps il->e_ E o.dst (.tu .un) il=some bp->k cr ⟨bp,st.tb,st.df⟩=some r ->
   ∃ CR,(∀ i,i ∈ cr->i ∈ CR)∧(nG E.c o.op=true->o.guard=none->CR=cr)∧iz P ops.toArray K S (fun w'=>Cp w'∧gW CR O w w') t o a w:=by
  intro il bp Eh hw cO kK cm e
  obtain ⟨CR,h1,h3⟩:=next Cp cr ⟨bp,st.tb,st.df⟩ (a.put o.dst undef) w O ρ e ⟨arl cm cO,by rw [put_defers];exact hF.2⟩ hM hG hst hS (nE il kK _ _ bp cm)
  exact ⟨CR,h1,fun _ h=>absurd h Eh,abE ⟨hst _ _ _ (.refl _ _ _ _),Kept.refl _ _⟩ (fun w=>ep.skip hw) h3⟩
 have one:∀ {il:aE},exec E t o cr ⟨il,st.tb,st.df⟩ k=some r->FI E.n a il O ρ->Region.wanted o (yielded ops.toArray a.tmps)=true->Inv a.tmps il ->
   ∃ CR,(∀ i,i ∈ cr->i ∈ CR)∧(nG E.c o.op=true->o.guard=none->CR=cr)∧iz P ops.toArray K S (fun w'=>Cp w'∧gW CR O w w') t o a w:=by
  intro il e cO hw kK
  obtain ⟨CR,h1,h2,h3⟩:=ait (st:=⟨il,st.tb,st.df⟩) hc hct hG e ⟨cO,hF.2⟩ hM hw hst hS kK (nE il kK) next
  exact ⟨CR,h1,fun h _=>h2 h,h3⟩
 unfold BP at e
 split at e
 ·rename_i hg
  exact one e hF.1 (LW hg) hI
 ·rename_i j want hg
  have Eh:o.guard ≠ none:=by rw [hg];simp
  split at e<;>first | (cases e;done) | skip
  rename_i dj hdj
  split at e<;>first | (cases e;done) | skip
  ·rename_i g lH
   have hy:=agS hF.1 hdj lH
   cases g with
   | true=>
    cases want with
    | true=>exact one e (hF.1.lit lH) (by simp [Region.wanted,hg,hy]) (H9 _ _ lH)
    | false=>
     simp only at e
     split at e<;>first | (cases e;done) | skip
     rename_i bp cm
     exact skip Eh (by simp [Region.wanted,hg,hy]) (hF.1.lit lH) (H9 _ _ lH) cm e
   | false=>
    cases want with
    | false=>exact one e (hF.1.lit lH) (by simp [Region.wanted,hg,hy]) (H9 _ _ lH)
    | true=>
     simp only at e
     split at e<;>first | (cases e;done) | skip
     rename_i bp cm
     exact skip Eh (by simp [Region.wanted,hg,hy]) (hF.1.lit lH) (H9 _ _ lH) cm e
  ·rename_i lH
   have hy:=anA hF.1 hdj lH
   split at e<;>first | (cases e;done) | skip
   rename_i bp cm
   exact skip Eh (by simp [Region.wanted,hg,hy]) hF.1 hI cm e
theorem Co {β:Type} {k:St->Option β} {r:β} {O0:Own} {aG:List Hd} {w0:World} (hc:aN P E.c) (hct:bS P E)
  (hK:∀ st a w O ρ,k st=some r->FS E.n a st O ρ->Gm O ρ st.tb w->GO E.c O->aR (fun _=>True) O0 aG w0 O ρ w->K a w):∀ (L:List (Tag×Oper)) (Cp:World->Prop) (cr:List Nat) (st:St) (a:Act) (O:Own) (ρ:List Hd) (w:World),rO E ops k L cr st=some r->FS E.n a st O ρ->Gm O ρ st.tb w->GO E.c O ->
   (∀ O' ρ' w',fM (· ∉ cr) O ρ w O' ρ' w'->Cp w')->aR (fun _=>True) O0 aG w0 O ρ w->∃ CR,(∀ i,i ∈ cr->i ∈ CR)∧Sx P ops.toArray (fun w'=>Cp w'∧gW CR O w w') K L a w
 | [],Cp,cr,st,a,O,ρ,w,e,hF,hM,hG,hst,hS=>⟨cr,fun _ h=>h,hK st a w O ρ e hF hM hG hS⟩
 | (t,o) :: L,Cp,cr,st,a,O,ρ,w,e,hF,hM,hG,hst,hS=>by
  obtain ⟨CR,h1,_,h3⟩:=Fp (K:=K) (S:=fun C a w=>Sx P ops.toArray C K L a w) (Inv:=fun _ _=>True) hc hct hG e hF hM hst hS trivial (fun _ _ _=>trivial) (fun _ _ _ _ _ _=>trivial)
   (fun kp jo ak a' w' O' ρ' e hF hM hG h1 h2 _=>Co hc hct hK L kp jo ak a' O' ρ' w' e hF hM hG h1 h2)
  exact ⟨CR,h1,h3.sx⟩
theorem FI.other {n:Nat} {a:Act} {il:aE} {O:Own} {ρ:List Hd} {d:Nat} {x:Value} (h:FI n a il O ρ) (hd:dn il d=none):FI n (a.put (some d) x) il O ρ:=by
 obtain ⟨l,h1,h2⟩:=h
 have hn:∀ {il:aE} {l:Env},ER O ρ il l->dn il d=none->get? l d=none:=by
  intro il
  induction il with
  | nil=>intro l h _;cases l with
   | nil=>rfl
   | cons _ _=>exact h.elim
  | cons y r ih=>
   intro l h e
   cases l with
   | nil=>exact h.elim
   | cons z r'=>
    obtain ⟨s,v⟩:=y
    obtain ⟨s',v'⟩:=z
    obtain ⟨rfl,_,h4⟩:=h
    simp only [dn] at e
    simp only [get?]
    cases hb:Nat.beq s d with
    | true=>rw [hb] at e;cases e
    | false=>rw [hb] at e;exact ih h4 e
 refine ⟨l,⟨h1.defers,?_,fun t v hv=>?_⟩,h2⟩
 ·have:=h1.size;simpa [Act.put] using this
 ·have hne:d ≠ t:=fun e=>by subst e;rw [hn h2 hd] at hv;cases hv
  have:=h1.has t v hv
  simp only [Act.put]
  rw [Array.getElem?_setIfInBounds_ne hne]
  exact this
theorem Gm.Vo {O:Own} {ρ:List Hd} {tb:aj} {w:World} {b0 ty:Nat} {v:IV} {cs:List Value} (hM:Gm O ρ tb w) (hO:O b0=.no) (hb:dO w b0 cs ty) (hR:∀ O ρ,R O ρ false v cs) :
  Gm (fun b=>bif Nat.beq b0 b then .th tb.length else O b) (ρ ++ [⟨b0,v.sz,.bool false,[]⟩]) (tb ++ [.blk ty v]) w∧O.le (fun b=>bif Nat.beq b0 b then .th tb.length else O b):=by
 have hlt:b0 < w.heap.size:=hb.lt
 have hle:O.le (fun b=>bif Nat.beq b0 b then .th tb.length else O b):=fun b all e=>by
  cases e':Nat.beq b0 b with
  | true=>have:=ay e';subst this;rw [hO] at e;cases e
  | false=>simp only [e',cond_false];exact e
 refine ⟨⟨fun b all e=>?_,fun b hb'=>?_,by simp [hM.len],fun j x hx=>?_⟩,hle⟩
 ·cases e':Nat.beq b0 b with
  | true=>rw [e'] at e;cases e
  | false=>rw [e'] at e;exact hM.im b all e
 ·cases e':Nat.beq b0 b with
  | true=>have:=ay e';omega
  | false=>exact hM.lt b hb'
 ·rcases Nat.lt_or_ge j tb.length with hj | hj
  ·rw [List.getElem?_append_left hj] at hx
   have old:=hM.th j x hx
   have ne:∀ b,O b=.th j->(bif Nat.beq b0 b then .th tb.length else O b)=.th j:=fun b e=>by
    cases e':Nat.beq b0 b with
    | true=>have:=ay e';subst this;rw [hO] at e;cases e
    | false=>exact e
   cases x with
   | blk ty v=>
    obtain ⟨h,cs,h3,h4,h5,h6,h7⟩:=old
    exact ⟨h,cs,dR _ h3,ne _ h4,h5,R.mono hle (.app _ _) h6,h7⟩
   | row E t xs=>
    obtain ⟨h,es,h3,h4,h5,h6,h7⟩:=old
    exact ⟨h,es,dR _ h3,h4,fun b aB=>ne _ (h5 b aB),h6.mono (fun _ _=>TR.mono hle),h7⟩
   | fz t xs=>
    obtain ⟨h,h3,h4,h5⟩:=old
    exact ⟨h,dR _ h3,h4,TR.mono hle h5⟩
   | no=>trivial
   | ob o0=>
    obtain ⟨h,h3,h4,h5⟩:=old
    exact ⟨h,dR _ h3,ne _ h4,h5⟩
   | mp kt vt l=>
    obtain ⟨h,es,h3,h4,h5,h6⟩:=old
    exact ⟨h,es,dR _ h3,ne _ h4,h5,h6.mono hle⟩
   | it n seen=>
    obtain ⟨h,h3,h4,bm,h5,h7⟩:=old
    exact ⟨h,dR _ h3,ne _ h4,bm,h5,h7⟩
   | rr E Ei t rows out=>
    obtain ⟨h,es,h3,h4,h5,h6,h7,h8⟩:=old
    exact ⟨h,es,dR _ h3,h4,fun b aB=>ne _ (h5 b aB),h6,h7,h8.frame (fun _ _=>TR.mono hle) (fun b aB=>⟨ne _ aB,rfl⟩)⟩
  ·have:j=tb.length:=by
    have:=(aM hx).1
    simp at this;omega
   subst this
   rw [List.getElem?_append_right (Nat.le_refl _)] at hx
   simp at hx;subst hx
   exact ⟨⟨b0,v.sz,.bool false,[]⟩,cs,by rw [← hM.len];simp,by simp,rfl,hR _ _,hb⟩
theorem aa5 {c:aF} {d:Nat} {t:Tag} {o:Oper} {L:List (Tag×Oper)} (h:uq c d ((t,o) :: L)=true):(∀ d',o.dst=some d'->d' ≠ d)∧(t=.w->nG c o.op=true∧o.guard=none)∧uq c d L=true:=by
 simp only [uq,Bool.and_eq_true] at h
 obtain ⟨⟨h1,h2⟩,h3⟩:=h
 refine ⟨fun d' e hd=>?_,fun e=>?_,h3⟩
 ·rw [e] at h1;subst hd;simp at h1
 ·subst e
  simp only [Bool.and_eq_true] at h2
  refine ⟨h2.1,?_⟩
  cases hg:o.guard with
  | none=>rfl
  | some _=>rw [hg] at h2;simp at h2
theorem L1 {d:Nat} {o:Oper} {v:IV} {il bp:aE} (hd:∀ d',o.dst=some d'->d' ≠ d) (h:dn il d=none) (e:e_ E o.dst v il=some bp):dn bp d=none:=by
 unfold e_ at e
 split at e
 ·cases e;exact h
 ·rename_i d' oH
  split at e
  ·cases e
   simp only [dn]
   cases hb:Nat.beq d' d with
   | true=>exact absurd (ay hb) (hd d' oH)
   | false=>exact h
  ·cases e
theorem ajC {d:Nat} {o:Oper} {x y:Value} {a:Act} (hd:∀ d',o.dst=some d'->d' ≠ d) (h:a.tmps[d]? = some y):(a.put o.dst x).tmps[d]? = some y:=by
 cases ho:o.dst with
 | none=>exact h
 | some d'=>
  simp only [Act.put]
  rw [Array.getElem?_setIfInBounds_ne (hd d' ho)]
  exact h
theorem abL {o:Oper} {t d:Nat} (h:Ap o=some (t,d)):o.op=.alloc t∧o.dst=some d∧o.guard=none:=by
 unfold Ap at h
 split at h<;>first | (cases h;done) | skip
 rename_i h1 h2 h3
 cases h
 exact ⟨h1,h2,h3⟩
theorem aaK {β:Type} {k:St->Option β} {r:β} {O0 Oa:Own} {aG YD:List Hd} {w0 wa:World} {oa:Oper} {ta d b0:Nat} {cs:List Value} {va:IV} {post:List (Tag×Oper)} (hc:aN P E.c) (hct:bS P E)
  (hK:∀ st a w O ρ,k st=some r->FS E.n a st O ρ->Gm O ρ st.tb w->GO E.c O->aR (fun _=>True) O0 aG w0 O ρ w->K a w)
  (jW:Ap oa=some (ta,d)) (mW:E.c.I ta=some va) (hR:∀ O ρ,R O ρ false va cs) (F5:aR (fun _=>True) O0 aG w0 Oa YD wa) (hb0:w0.heap.size≤b0) (PI:Oa b0=.no) (TQ:dO wa b0 cs ta) :
  ∀ (L:List (Tag×Oper)) (Cp:World->Prop) (cr:List Nat) (st:St) (a:Act) (O:Own) (ρ:List Hd) (w:World),rO E ops k (L ++ (.w,oa) :: post) cr st=some r->uq E.c d L=true->FS E.n a st O ρ->Gm O ρ st.tb w->GO E.c O ->
   (∀ O' ρ' w',fM (· ∉ cr) O ρ w O' ρ' w'->Cp w')->aR (fun _=>True) Oa YD wa O ρ w->a.tmps[d]? = some (vP b0 0)∧dn st.env d=none->∃ CR,(∀ i,i ∈ cr->i ∈ CR)∧LF P ops.toArray K (L ++ post) (fun w'=>Cp w'∧gW CR O w w') a w
 | [],Cp,cr,st,a,O,ρ,w,e,_,hF,hM,hG,hst,hS,hI=>by
  obtain ⟨ho,hd,hg⟩:=abL jW
  have hlt:b0 < wa.heap.size:=TQ.lt
  have hO:O b0=.no:=hS.no b0 hlt PI
  have hB:dO w b0 cs ta:=TQ.same (hS.kept.block b0 hlt (fun ⟨id,_,h⟩=>by rw [PI] at h;cases h))
  obtain ⟨fm,hle⟩:=hM.Vo hO hB hR
  simp only [List.nil_append,rO,BP,hg] at e
  unfold exec at e
  simp only [ho,Gw,gx,apart,CY,HV,mW,hd,e_] at e
  split at e<;>first | (cases e;done) | skip
  rename_i bp cm
  split at cm<;>first | (cases cm;done) | skip
  rename_i hdn
  cases cm
  have hpre:Pre ρ (ρ ++ [⟨b0,va.sz,.bool false,[]⟩]):=.app _ _
  have hq:fM (· ∉ cr) O ρ w (fun b=>bif Nat.beq b0 b then .th st.tb.length else O b) (ρ ++ [⟨b0,va.sz,.bool false,[]⟩]) w:=by
   refine ⟨hpre,hle,fun b id _ h _=>?_,Kept.refl _ _⟩
   cases e':Nat.beq b0 b with
   | true=>have:=ay e';subst this;rw [hO] at h;cases h
   | false=>exact h
  have hs0:=F5.trans hS
  have c_:aR (fun _=>True) O0 aG w0 (fun b=>bif Nat.beq b0 b then .th st.tb.length else O b) (ρ ++ [⟨b0,va.sz,.bool false,[]⟩]) w:=by
   refine ⟨hs0.pre.trans hpre,hs0.im.trans hle,fun b hb h=>?_,fun b id hb h hn=>absurd trivial hn,hs0.kept⟩
   cases e':Nat.beq b0 b with
   | true=>have:=ay e';omega
   | false=>exact hs0.no b hb h
  have kz:FS E.n a ⟨(d,.pt st.tb.length []) :: st.env,st.tb ++ [.blk ta va],st.df⟩ (fun b=>bif Nat.beq b0 b then .th st.tb.length else O b) (ρ ++ [⟨b0,va.sz,.bool false,[]⟩]):=by
   refine ⟨?_,hF.2.mono hle hpre⟩
   obtain ⟨l,h1,h2⟩:=hF.1
   refine ⟨(d,.o (.v (vP b0 0))) :: l,⟨h1.defers,h1.size,fun t u hu=>?_⟩,rfl,?_,h2.mono hle hpre⟩
   ·simp only [get?] at hu
    cases hb:Nat.beq d t with
    | true=>rw [hb] at hu;cases hu;rw [← ay hb];exact hI.1
    | false=>rw [hb] at hu;exact h1.has t u hu
   ·exact .fS (v:=.pt st.tb.length []) ⟨_,rfl,⟨b0,va.sz,.bool false,[]⟩,0,by rw [← hM.len];simp,by cases va.sz<;>rfl,rfl⟩
  obtain ⟨CR,h1,h2⟩:=Co (K:=K) hc hct hK post Cp cr _ a _ _ w e kz fm (hG.mono hle) (fun O' ρ' w' h=>hst _ _ _ (hq.trans h)) c_
  refine ⟨cr,fun _ h=>h,_,fun w' h=>⟨h.1,h.2.wide (fun b hb=>?_)⟩,⟨hst _ _ _ (.refl _ _ _ _),Kept.refl _ _⟩,h2⟩
  cases e':Nat.beq b0 b with
  | true=>have:=ay e';subst this;exact .inl hO
  | false=>
   simp only [e',cond_false] at hb
   exact hb.imp (fun h=>h) (fun ⟨id,hn,h⟩=>⟨id,fun hc=>hn (h1 id hc),h⟩)
 | (t,o) :: L,Cp,cr,st,a,O,ρ,w,e,hp,hF,hM,hG,hst,hS,hI=>by
  obtain ⟨p1,p2,p3⟩:=aa5 hp
  obtain ⟨CR,h1,_,h3⟩:=Fp (K:=K) (S:=LF P ops.toArray K (L ++ post)) (Inv:=fun tm il=>tm[d]? = some (vP b0 0)∧dn il d=none) hc hct hG e hF hM hst hS hI (fun dj g h=>⟨hI.1,ME hI.2 h⟩) (fun il hi x v bp h=>⟨ajC p1 hi.1,L1 p1 hi.2 h⟩)
   (fun kp jo ak a' w' O' ρ' e hF hM hG h1 h2 h3=>aaK hc hct hK jW mW hR F5 hb0 PI TQ L kp jo ak a' O' ρ' w' e p3 hF hM hG h1 h2 h3)
  exact ⟨CR,h1,h3.sxn ⟨hst _ _ _ (.refl _ _ _ _),Kept.refl _ _⟩⟩
theorem YZ {β:Type} {k:St->Option β} {r:β} {O0:Own} {aG:List Hd} {w0:World} {oa:Oper} {ta d:Nat} {va:IV} {post:List (Tag×Oper)} (hc:aN P E.c) (hct:bS P E)
  (hK:∀ st a w O ρ,k st=some r->FS E.n a st O ρ->Gm O ρ st.tb w->GO E.c O->aR (fun _=>True) O0 aG w0 O ρ w->K a w)
  (jW:Ap oa=some (ta,d)) (mW:E.c.I ta=some va) (hdn:Nat.blt d E.n=true) :
  ∀ (L:List (Tag×Oper)) (Cp:World->Prop) (cr:List Nat) (st:St) (a:Act) (O:Own) (ρ:List Hd) (w:World),rO E ops k (L ++ (.w,oa) :: post) cr st=some r->uq E.c d L=true->FS E.n a st O ρ->Gm O ρ st.tb w->GO E.c O ->
   (∀ O' ρ' w',fM (· ∉ cr) O ρ w O' ρ' w'->Cp w')->aR (fun _=>True) O0 aG w0 O ρ w->dn st.env d=none->∃ CR,(∀ i,i ∈ cr->i ∈ CR)∧D5 P ops.toArray K oa post L (fun w'=>Cp w'∧gW CR O w w') a w
 | [],Cp,cr,st,a,O,ρ,w,e,_,hF,hM,hG,hst,hS,hI=>Co hc hct hK _ Cp cr st a O ρ w e hF hM hG hst hS
 | (t,o) :: L,Cp,cr,st,a,O,ρ,w,e,hp,hF,hM,hG,hst,hS,hI=>by
  obtain ⟨p1,p2,p3⟩:=aa5 hp
  obtain ⟨CR,h1,h2,h3⟩:=Fp (K:=K) (S:=D5 P ops.toArray K oa post L) (Inv:=fun _ il=>dn il d=none) hc hct hG e hF hM hst hS hI (fun dj g h=>ME hI h) (fun il hi x v bp h=>L1 p1 hi h)
   (fun kp jo ak a' w' O' ρ' e hF hM hG h1 h2 h3=>YZ hc hct hK jW mW hdn L kp jo ak a' O' ρ' w' e p3 hF hM hG h1 h2 h3)
  refine ⟨CR,h1,h3,fun ht=>?_⟩
  obtain ⟨q1,q2⟩:=p2 ht
  obtain rfl:=h2 q1 q2
  obtain ⟨ho,hd,hg⟩:=abL jW
  obtain ⟨z,cs,z1,z2,z3⟩:=hc.zero _ _ mW
  have hrun:(execOp a.eval oa).run P w=.ok (.value (vP w.heap.size 0)) { w with heap:=w.heap.push (.cells cs.toArray ta) }:=by
   simp only [execOp,ho]
   simp [Instr.alloc,z1 w,newVar,z2,Lh]
  have hk:Kept ja w { w with heap:=w.heap.push (.cells cs.toArray ta) }:=jZ w _
  have Ro:∀ M:Nat->Prop,aR M O ρ w O ρ { w with heap:=w.heap.push (.cells cs.toArray ta) }:=fun M=>⟨.refl _,.refl _,fun _ _ h=>h,fun _ _ _ h _=>h,hk.wide (fun _ h=>h.elim)⟩
  have fD:Gm O ρ st.tb { w with heap:=w.heap.push (.cells cs.toArray ta) }:=
   (hM.step (M:=fun _=>False) (O':=O) (ρ':=ρ) (aL:=st.tb) (hk.wide (fun _ h=>h.elim)) (fun _ _ _=>rfl) (fun b hb=>hM.lt b (Nat.le_trans hk.size hb)) (fun b all h=>.inl h) (.refl _) hM.len (fun j x hx=>.inl ⟨hx,fun h=>h⟩)).1
  have jA:FS E.n (a.put (some d) (vP w.heap.size 0)) st O ρ:=⟨hF.1.other hI,by rw [put_defers];exact hF.2⟩
  have hsz:(a.put (some d) (vP w.heap.size 0)).tmps[d]? = some (vP w.heap.size 0):=by
   obtain ⟨l,hl,_⟩:=hF.1
   have h1:a.tmps.size=E.n:=hl.size
   have h2:d < E.n:=by simpa [Nat.blt_eq] using hdn
   simp [Act.put,h1,h2]
  obtain ⟨CR2,g1,C',g2,g3,g4⟩:=aaK (K:=K) (post:=post) (O0:=O0) (aG:=aG) (w0:=w0) hc hct hK jW mW z3 (hS.trans (Ro _)) hS.kept.size (hM.lt _ (Nat.le_refl _)) (kr ta cs) ((t,o) :: L) (fun w''=>Cp w''∧gW CR O w w'') CR st (a.put (some d) (vP w.heap.size 0)) O ρ _ e hp jA fD hG
   (fun O' ρ' w' h=>⟨hst _ _ _ ((Ro _).q.trans h),((Ro _).q.trans h).kept⟩) (.refl _ _ _ _) ⟨hsz,hI⟩
  unfold dz
  rw [if_pos (LW hg)]
  simp only [Oper.wp,hrun,Oper.upon,hd]
  exact ⟨C',fun w' h=>(g2 w' h).1,g3,g4⟩
theorem V4 {i:Nat}:∀ {π x y:List (Tag×Nat)},cutAt i π=some (x,y)->π=x ++ (.w,i) :: y
 | [],x,y,h=>by simp [cutAt] at h
 | (t,j) :: r,x,y,h=>by
  simp only [cutAt] at h
  split at h
  ·rename_i hb
   have:=ay hb
   subst this
   split at h
   ·cases h;rfl
   ·cases h
  ·split at h
   ·rename_i x' y' hr
    cases h
    rw [V4 hr];rfl
   ·cases h
theorem ZW {l:List Oper} {y:List (Tag×Nat)} {i:Nat} {oa:Oper} (hi:eI l i=some oa):∀ {x:List (Tag×Nat)} {X L:List (Tag×Oper)},pick l x=some X->pick l (x ++ (.w,i) :: y)=some L->∃ Y,pick l y=some Y∧L=X ++ (.w,oa) :: Y
 | [],X,L,h1,h2=>by
  simp only [pick,az] at h1;subst h1
  simp only [List.nil_append,pick,hi] at h2
  split at h2<;>first | (cases h2;done) | skip
  rename_i o os ho hos
  cases h2;cases ho
  exact ⟨os,hos,rfl⟩
 | (t,j) :: x,X,L,h1,h2=>by
  simp only [pick] at h1
  split at h1<;>first | (cases h1;done) | skip
  rename_i o os ho hos
  cases h1
  simp only [List.cons_append,pick,ho] at h2
  split at h2<;>first | (cases h2;done) | skip
  rename_i o2 os2 mb aeX
  cases h2;cases mb
  obtain ⟨Y,h3,rfl⟩:=ZW hi hos aeX
  exact ⟨Y,h3,rfl⟩
end
theorem aaJ {O:Own} {ρ:List Hd} {t:Ty}:∀ {ps:List (Nat×IV)} {ys:List (Nat×Value)} {q:Nat} {xs:List t.den},zX t q ps=some xs->gN O ρ ps ys->xs.length=ps.length∧∃ es,LR (TR O t) xs es∧∀ cs:List Value,(q + ps.length) * t.size≤cs.length ->
  Instr.fill (fun i=>some (i * t.size,t.size)) cs.toArray ys=some (aI cs (q * t.size) es).toArray
 | [],ys,q,xs,e,h=>by
  simp only [zX,az] at e;subst e
  simp only [gN] at h;subst h
  exact ⟨rfl,[],rfl,fun cs _=>by simp [Instr.fill,aI]⟩
 | (i,u) :: ps,ys,q,xs,e,h=>by
  obtain ⟨x,rest,us,rfl,h1,h2,h3⟩:=h
  simp only [zX] at e
  split at e<;>first | (cases e;done) | skip
  rename_i y ys' mi hy hys
  simp only [az] at e;subst e
  have mi:=ay mi
  subst mi
  have hT:=fN hy h2
  have gP:=TR.length hT
  obtain ⟨hl,es,h4,h5⟩:=aaJ hys h3
  have hel:=LR.length (fun _ _=>TR.length) h4
  refine ⟨by simp [hl],us ++ es,⟨us,es,rfl,hT,h4⟩,fun cs hcs=>?_⟩
  simp only [List.length_cons] at hcs
  have hb:i * t.size + t.size + ps.length * t.size≤cs.length:=by
   have:(i + (ps.length + 1)) * t.size=i * t.size + t.size + ps.length * t.size:=by rw [Nat.add_mul,Nat.add_mul];omega
   omega
  refine xP (off:=i * t.size) (k:=t.size) rfl h1 gP (by omega) ?_
  have hle:(aI cs (i * t.size) us).length=cs.length:=mR (by omega)
  rw [h5 _ (by rw [hle,Nat.add_mul,Nat.add_mul];omega)]
  rw [show (i + 1) * t.size=i * t.size + us.length from by rw [Nat.add_mul,gP];omega]
  rw [MZ (by rw [hel,hl];omega)]
def f_:Option (Nat×Nat)->Nat->Value
 | none,b=>vP b 0
 | some (m,c),b=>.slice (some ⟨b,0,none⟩) m c
theorem amK:∀ {g g':Option (Nat×Nat)} {n:Nat},f_ g n=f_ g' n->g=g'
 | none,none,n,_=>rfl
 | none,some (m,c),n,h=>by simp [f_] at h
 | some (m,c),none,n,h=>by simp [f_] at h
 | some (m,c),some (m',c'),n,h=>by simp [f_] at h;simp [h]
def zu (P:Program) (X:Sem Next) (g:Option (Nat×Nat)) (cs:List Value) (ty:Nat):Prop:=
 ∀ w:World,X.run P w=.ok (.value (f_ g w.heap.size)) { w with heap:=w.heap.push (.cells cs.toArray ty) }
theorem Gm.V7 {O:Own} {ρ:List Hd} {tb:aj} {w:World} {b0 E cp:Nat} {t:Ty} {xs:List t.den} {es sp:List Value} (hM:Gm O ρ tb w) (hO:O b0=.no) (hb:dO w b0 (es ++ sp) E) (hL:LR (TR O t) xs es)
  (hm:xs.length≤cp) (hl:(es ++ sp).length=cp * t.size) (mU:cp≤maxLen) :
  Gm (fun b=>bif Nat.beq b0 b then .th tb.length else O b) (ρ ++ [⟨0,t.sz,.slice (some ⟨b0,0,none⟩) xs.length cp,[]⟩]) (tb ++ [.row E t xs]) w∧O.le (fun b=>bif Nat.beq b0 b then .th tb.length else O b):=by
 have hlt:b0 < w.heap.size:=hb.lt
 have hle:O.le (fun b=>bif Nat.beq b0 b then .th tb.length else O b):=fun b all e=>by
  cases e':Nat.beq b0 b with
  | true=>have:=ay e';subst this;rw [hO] at e;cases e
  | false=>simp only [e',cond_false];exact e
 refine ⟨⟨fun b all e=>?_,fun b hb'=>?_,by simp [hM.len],fun j x hx=>?_⟩,hle⟩
 ·cases e':Nat.beq b0 b with
  | true=>rw [e'] at e;cases e
  | false=>rw [e'] at e;exact hM.im b all e
 ·cases e':Nat.beq b0 b with
  | true=>have:=ay e';omega
  | false=>exact hM.lt b hb'
 ·rcases Nat.lt_or_ge j tb.length with hj | hj
  ·rw [List.getElem?_append_left hj] at hx
   have old:=hM.th j x hx
   have ne:∀ b,O b=.th j->(bif Nat.beq b0 b then .th tb.length else O b)=.th j:=fun b e=>by
    cases e':Nat.beq b0 b with
    | true=>have:=ay e';subst this;rw [hO] at e;cases e
    | false=>exact e
   cases x with
   | blk ty v=>
    obtain ⟨h,cs,h3,h4,h5,h6,h7⟩:=old
    exact ⟨h,cs,dR _ h3,ne _ h4,h5,R.mono hle (.app _ _) h6,h7⟩
   | row E t xs=>
    obtain ⟨h,es,h3,h4,h5,h6,h7⟩:=old
    exact ⟨h,es,dR _ h3,h4,fun b aB=>ne _ (h5 b aB),h6.mono (fun _ _=>TR.mono hle),h7⟩
   | fz t xs=>
    obtain ⟨h,h3,h4,h5⟩:=old
    exact ⟨h,dR _ h3,h4,TR.mono hle h5⟩
   | no=>trivial
   | ob o0=>
    obtain ⟨h,h3,h4,h5⟩:=old
    exact ⟨h,dR _ h3,ne _ h4,h5⟩
   | mp kt vt l=>
    obtain ⟨h,es,h3,h4,h5,h6⟩:=old
    exact ⟨h,es,dR _ h3,ne _ h4,h5,h6.mono hle⟩
   | it n seen=>
    obtain ⟨h,h3,h4,bm,h5,h7⟩:=old
    exact ⟨h,dR _ h3,ne _ h4,bm,h5,h7⟩
   | rr E Ei t rows out=>
    obtain ⟨h,es,h3,h4,h5,h6,h7,h8⟩:=old
    exact ⟨h,es,dR _ h3,h4,fun b aB=>ne _ (h5 b aB),h6,h7,h8.frame (fun _ _=>TR.mono hle) (fun b aB=>⟨ne _ aB,rfl⟩)⟩
  ·have:j=tb.length:=by
    have:=(aM hx).1
    simp at this;omega
   subst this
   rw [List.getElem?_append_right (Nat.le_refl _)] at hx
   simp at hx;subst hx
   have hel:=LR.length (fun _ _=>TR.length) hL
   refine ⟨⟨0,t.sz,.slice (some ⟨b0,0,none⟩) xs.length cp,[]⟩,es,by rw [← hM.len];simp,rfl,fun b aB=>?_,hL.mono (fun _ _=>TR.mono hle),hel,.inr ⟨b0,cp,sp,rfl,hm,hb,hl,mU⟩⟩
   simp only [aZ] at aB
   subst aB
   simp
section
variable {P:Program} {c:aF} {n:Nat} {a:Act} {l:Env} {il:aE} {O:Own} {ρ:List Hd} {tb:aj} {w:World} {o:Oper}
theorem amX {ty e s bytes:Nat} {z:Value} {zc:List Value} {x y:Operand} {i j:Int} (he:iG P ty e s bytes z) (lq:z.cells=zc.toArray) (ho:o.op=.makeSlice ty x y) (hx:a.eval x=vI i) (hy:a.eval y=vI j)
  (hi:0≤i) (hij:i≤j) (hj:j≤4611686018427387904) (kw:bytes * j≤281474976710656):zu P (execOp a.eval o) (some (i.toNat,j.toNat)) (List.replicate j.toNat zc).flatten e:=by
 intro w
 obtain ⟨f,hf,hk,hb,hz⟩:=he.info
 have hsz:zc.length=s:=by have:=he.cells;rw [lq] at this;simpa using this
 have hpos:=he.pos
 have hwi:IntKind.i64.wrap i=i:=aY (by omega) (by omega)
 have AO:IntKind.i64.wrap j=j:=aY (by omega) (by omega)
 have hrow:=BG zc (by omega) j.toNat
 rw [hsz] at hrow
 simp only [execOp,ho,hx,hy]
 have c1:¬ (j < 0):=by omega
 have c2:¬ ((bytes:Int) * j > 281474976710656):=by omega
 have c3:¬ (i < 0):=by omega
 have c4:¬ (i > j):=by omega
 have hroom:∀ (q:Nat) (w:World),(askRoom q).run P w=.ok () w:=fun q w=>by unfold askRoom;split<;>rfl
 by_cases hj0:j.toNat=0
 ·have qS:j≤0:=by omega
  simp [Instr.makeSlice,run_underlying he.slice,asInt,asIntOf,typeInfo,hf,hb,hwi,AO,c1,c2,c3,c4,sizeOf,hk,hj0,newRow,newObj,hroom,f_]
  have e0:Array.range 0 = #[]:=rfl
  simp [Sem.run,e0]
 ·have qS:¬ (j.toNat * s=0):=by
   intro h
   rcases Nat.mul_eq_zero.1 h with h | h<;>omega
  have mG:Array.map (fun x=>z.cells[x % z.cells.size]!) (Array.range (j.toNat * s))=(List.replicate j.toNat zc).flatten.toArray:=by rw [lq];rw [← hrow]
  simp [Instr.makeSlice,run_underlying he.slice,asInt,asIntOf,typeInfo,hf,hb,hwi,AO,c1,c2,c3,c4,sizeOf,hk,qS,newRow,newObj,zeroValue,hz,mG,hroom,f_]
  simp [Sem.run]
theorem Ni {th:fY} (hc:aN P c) (hF:Fr n a l) (hE:ER O ρ il l) (hG:GO c O) (h:rj c il o.op=some th) :
  ∃ g cs ty,zu P (execOp a.eval o) g cs ty∧∀ (O':Own) (ρ':List Hd) (aL:aj) (w':World) (b0:Nat),O.le O'->Pre ρ ρ'->Gm O' ρ' aL w'->O' b0=.no->dO w' b0 cs ty ->
   ∃ hd,Gm (fun b=>bif Nat.beq b0 b then .th aL.length else O' b) (ρ' ++ [hd]) (aL ++ [th]) w'∧O'.le (fun b=>bif Nat.beq b0 b then .th aL.length else O' b) ∧
    SR (fun b=>bif Nat.beq b0 b then .th aL.length else O' b) (ρ' ++ [hd]) (uD aL.length th) (.o (.v (f_ g b0))):=by
 unfold rj at h
 split at h
 ·rename_i t ho
  split at h<;>first | (cases h;done) | skip
  rename_i v hv
  cases h
  obtain ⟨z,cs,h1,h2,h3⟩:=hc.zero _ _ hv
  refine ⟨none,cs,t,fun w=>?_,fun O' ρ' aL w' b0 hle hpre hM hO hb=>?_⟩
  ·simp only [execOp,ho]
   simp [Instr.alloc,h1 w,newVar,h2,Lh,f_]
  ·obtain ⟨g1,g2⟩:=hM.Vo hO hb h3
   exact ⟨_,g1,g2,.fS (v:=.pt aL.length []) ⟨_,rfl,⟨b0,v.sz,.bool false,[]⟩,0,by rw [← hM.len];simp,by cases v.sz<;>rfl,rfl⟩⟩
 ·rename_i ty x y ho
  split at h<;>first | (cases h;done) | skip
  rename_i el hd
  split at h<;>first | (cases h;done) | skip
  rename_i t i j ht hx hy
  split at h<;>first | (cases h;done) | skip
  rename_i xs hxs
  cases h
  obtain ⟨h0,h1,h2,rfl⟩:=RP hxs
  obtain ⟨bytes,z,zc,h3,h4,h5,h6⟩:=hc.elem _ _ _ hd ht
  have hb':(bytes:Int) * j≤281474976710656:=by
   have:(bytes:Int)≤128:=by omega
   have:(bytes:Int) * j≤128 * j:=Int.mul_le_mul_of_nonneg_right this (by omega)
   omega
  have hsz:zc.length=t.size:=by have:=h3.cells;rw [h5] at this;simpa using this
  have hfl:∀ m,(List.replicate m zc).flatten.length=m * t.size:=fun m=>by simp [List.length_flatten,hsz]
  refine ⟨some (i.toNat,j.toNat),_,el,amX h3 h5 ho (aW hF (b8 hE hG hx).1) (aW hF (b8 hE hG hy).1) h0 h1 (by omega) hb',fun O' ρ' aL w' b0 hle hpre hM hO hb=>?_⟩
  have e1:(List.replicate i.toNat zc).flatten ++ (List.replicate (j.toNat - i.toNat) zc).flatten=(List.replicate j.toNat zc).flatten:=by
   rw [← List.flatten_append,List.replicate_append_replicate,show i.toNat + (j.toNat - i.toNat)=j.toNat from by omega]
  rw [← e1] at hb
  obtain ⟨g1,g2⟩:=hM.V7 (t:=t) (xs:=List.replicate i.toNat t.zero) (cp:=j.toNat) hO hb (LR.replicate (h6 O') _) (by simp;omega) (by rw [e1,hfl]) (by simp only [maxLen];omega)
  refine ⟨_,g1,g2,.fS (v:=.rw aL.length) ⟨_,rfl,⟨0,t.sz,.slice (some ⟨b0,0,none⟩) (List.replicate i.toNat t.zero).length j.toNat,[]⟩,by rw [← hM.len];simp,by simp [f_],rfl⟩⟩
 ·rename_i ty len ps ho
  split at h<;>first | (cases h;done) | skip
  rename_i el hd
  split at h<;>first | (cases h;done) | skip
  rename_i t vs ht hps
  split at h<;>first | (cases h;done) | skip
  rename_i xs hlen hle hxs
  cases h
  have hlen:=ay hlen
  have hle:len * t.size≤16777216:=by simpa using hle
  obtain ⟨bytes,z,zc,h3,h4,h5,h6⟩:=hc.elem _ _ _ hd ht
  obtain ⟨f,hf,hk,kw,hz⟩:=h3.info
  have hsz:zc.length=t.size:=by have:=h3.cells;rw [h5] at this;simpa using this
  have hpos:=h3.pos
  obtain ⟨hxl,es,h7,h8⟩:=aaJ hxs (rM hF hE hG hps)
  have hel:=LR.length (fun _ _=>TR.length) h7
  have hfl:∀ m,(List.replicate m zc).flatten.length=m * t.size:=fun m=>by simp [List.length_flatten,hsz]
  have jq:=h8 (List.replicate len zc).flatten (by rw [hfl,Nat.zero_add,hlen];exact Nat.le_refl _)
  have lT:aI (List.replicate len zc).flatten (0 * t.size) es=es:=by
   simp only [aI,Nat.zero_mul,List.take_zero,List.nil_append]
   rw [List.drop_of_length_le (by rw [hfl,hel,hxl,hlen];omega),List.append_nil]
  rw [lT] at jq
  have hrow:=BG zc (by omega) len
  rw [hsz] at hrow
  have Al:xs.length=len:=hxl.trans hlen
  have ahP:len≤len * t.size:=by
   have:=Nat.mul_le_mul_left len hpos
   simpa using this
  refine ⟨some (len,len),es,el,fun w=>?_,fun O' ρ' aL w' b0 hle' hpre hM hO hb=>?_⟩
  ·simp only [execOp,ho]
   have c0:¬ (len * t.size > 2 ^ 24):=by omega
   have mP:(ps.map fun (i,x)=>(i,a.eval x)).toList=ps.toList.map fun (i,x)=>(i,a.eval x):=by simp
   have hrun:(Instr.buildSlice ty len (ps.map fun (i,x)=>(i,a.eval x))).run P w=.ok (.slice (some ⟨w.heap.size,0,none⟩) len len) { w with heap:=w.heap.push (.cells es.toArray el) }:=by
    by_cases h0:len * t.size=0
    ·have BX:len=0:=by omega
     subst BX
     have e0:Array.range 0 = #[]:=rfl
     have mF:Instr.fill (fun i=>some (i * t.size,t.size)) #[] (ps.toList.map fun (i,x)=>(i,a.eval x))=some es.toArray:=by simpa using jq
     unfold Instr.buildSlice
     simp only [Sem.run_bind,run_underlying h3.slice,Result.andThen_ok,sizeOf,typeInfo,Sem.run,hf,hk,mP,Nat.zero_mul,e0]
     simp [Sem.run,newRow,newObj,pure,hf,hk,e0,mF,mP]
    ·have mG:Array.map (fun x=>z.cells[x % z.cells.size]!) (Array.range (len * t.size))=(List.replicate len zc).flatten.toArray:=by rw [h5];rw [← hrow]
     have hs:=hc.tok.size
     unfold Instr.buildSlice
     simp [run_underlying h3.slice,sizeOf,typeInfo,hf,hk,zeroValue,hz,h0,c0,newRow,newObj,pure,Sem.run,mP]
     have mF:Instr.fill (fun i=>some (i * t.size,t.size)) (List.replicate len zc).flatten.toArray (ps.toList.map fun x=>(x.fst,a.eval x.snd))=some es.toArray:=jq
     rw [mG,mF]
     rfl
   simp [hrun,f_]
  ·have dw:dO w' b0 (es ++ []) el:=by simpa using hb
   obtain ⟨g1,g2⟩:=hM.V7 (t:=t) (xs:=xs) (cp:=len) hO dw (h7.mono (fun _ _=>TR.mono hle')) (by omega) (by simp [hel,Al]) (by simp only [maxLen];omega)
   refine ⟨_,g1,g2,.fS (v:=.rw aL.length) ⟨_,rfl,⟨0,t.sz,.slice (some ⟨b0,0,none⟩) xs.length len,[]⟩,by rw [← hM.len];simp,by simp [f_,Al],rfl⟩⟩
 ·cases h
end
def dl (i:Nat):List Nat->List Nat
 | []=>[]
 | j :: D=>bif Nat.beq i j then dl i D else j :: dl i D
theorem ou {i j:Nat}:∀ {D:List Nat},j ∈ dl i D->j ∈ D∧j ≠ i
 | [],h=>by cases h
 | x :: D,h=>by
  simp only [dl] at h
  cases hb:Nat.beq i x with
  | true=>rw [hb] at h;exact ⟨List.mem_cons_of_mem _ (ou h).1,(ou h).2⟩
  | false=>
   rw [hb] at h
   rcases List.mem_cons.1 h with rfl | h
   ·refine ⟨List.mem_cons_self ..,fun e=>?_⟩
    subst e;simp at hb
   ·exact ⟨List.mem_cons_of_mem _ (ou h).1,(ou h).2⟩
def pu (P:Program) (l:List Oper) (K:Act->World->Prop):Nat->List Nat->List hU->(World->Prop)->Act->World->Prop
 | 0,_,_,_,_,_=>False
 | _ + 1,_,[],_,a,w=>K a w
 | n + 1,D,(t,i,fs) :: L,C,a,w=>
  (i ∈ D->∃ C':World->Prop,(∀ w,C' w->C w)∧C' w∧pu P l K n (dl i D) L C' a w) ∧
  (i ∉ D->∃ o,eI l i=some o∧iz P l.toArray K (pu P l K n D L) C (t.getD .w) o a w ∧
   (t.getD .w=.w->∀ j ∈ fs,j ∉ D->∃ oj,eI l j=some oj∧dz P l.toArray (QL K (fun _ _ _=>False) (fun _ _=>False)) oj (fun a w=>∃ C':World->Prop,(∀ w,C' w->C w)∧C' w∧pu P l K n (j :: D) ((t,i,fs) :: L) C' a w) a w))
def sF (ops:List Oper) (i:Nat):List Nat->Bool
 | []=>true
 | j :: D=>(match eI ops i,eI ops j with
  | some oi,some oj=>match oi.dst,oj.dst with
   | some d,some d'=>!(Nat.beq d d') && JO d (qN oj.op)
   | _,_=>true
  | _,_=>false) && sF ops i D
def nD (D:List Nat):List hU->Nat
 | []=>0
 | (_,i,_) :: L=>(bif D.contains i then 0 else 1) + nD D L
def tg (L:List hU):List (Tag×Nat):=L.map fun x=>(x.1.getD .w,x.2.1)
def nu (ops:List Oper) (Z:Nat->Bool):Nat->List Nat->List hU->Array Bool->Bool
 | 0,_,_,_=>false
 | _ + 1,_,[],listed=>(Region.ready .any ops.toArray listed).isEmpty
 | n + 1,D,(t,i,fs) :: L,listed=>match D.contains i with
  | true=>(match t with
   | none=>true
   | some _=>false) && sF ops i (dl i D) && Nat.beq (nD (dl i D) L) (nD D L) && nu ops Z n (dl i D) L listed
  | false=>(Region.ready .any ops.toArray listed).contains i && sF ops i D &&
   (match t.getD .w with
    | .w=>!(Z i) && ((Region.ready .any ops.toArray listed).all (fun j=>j == i || (fs.contains j && !(D.contains j)))) &&
     xN (fun j=>D.contains j || (!(Z j) && sF ops j D && Nat.beq (nD (j :: D) ((t,i,fs) :: L)) (nD D L) && nu ops Z n (j :: D) ((t,i,fs) :: L) (listed.setIfInBounds j true))) fs
    | .c=>Region.free .any ops.toArray listed i && Z i && Ax ops.toArray listed i (tg L)
    | .p=>Region.free .any ops.toArray listed i && Z i
    | .r=>Region.free .any ops.toArray listed i && Z i && Sg ops.toArray i (kQ ops.toArray i) && ((kQ ops.toArray i).all fun j=>!listed.getD j false) && ((List.range ops.toArray.size).all fun j=>j == i || (kQ ops.toArray i).contains j || listed.getD j true || Z j)
    | .b=>!(Z i) && ((Region.ready .any ops.toArray listed).all fun j=>j == i)) && nu ops Z n D L (listed.setIfInBounds i true)
theorem Mm {P:Program} {K:Act->World->Prop} {l:List Oper} {Z:Nat->Bool} (hsel:Region.noSelect l.toArray=true):∀ (n:Nat) (D:List Nat) (L:List hU) (C:World->Prop) (listed:Array Bool) (a:Act) (w:World),(∀ t k,(t,k) ∈ tg L->t=.w∨t=.b->Z k=false)->nu l Z n D L listed=true->C w->pu P l K n D L C a w ->
  cy P l.toArray (CB (tg L) C) Z K (nD D L) listed a w
 | 0,D,L,C,listed,a,w,hZ,hB,hC,h=>h.elim
 | n + 1,D,[],C,listed,a,w,hZ,hB,hC,h=>⟨fun _=>hC,by simpa [nu] using hB,h⟩
 | n + 1,D,(t,i,fs) :: L,C,listed,a,w,hZ,hB,hC,h=>by
  have Re:tg ((t,i,fs) :: L)=(t.getD .w,i) :: tg L:=rfl
  have fU:∀ t k,(t,k) ∈ tg L->t=.w∨t=.b->Z k=false:=fun t k hm=>hZ t k (by rw [Re];exact List.mem_cons_of_mem _ hm)
  simp only [nu] at hB
  cases mK:D.contains i with
  | true=>
   rw [mK] at hB
   simp only [Bool.and_eq_true] at hB
   obtain ⟨C',h1,h2,h3⟩:=h.1 (by simpa using mK)
   have:=Mm hsel n (dl i D) L C' listed a w fU hB.2 h2 h3
   rw [ay hB.1.2] at this
   simp only [nD,mK,cond_true,Nat.zero_add]
   exact cy.wide (CB.cons (fun w hw=>h1 w hw)) this
  | false=>
   rw [mK] at hB
   simp only [Bool.and_eq_true] at hB
   obtain ⟨⟨⟨hr,_⟩,ht⟩,e9⟩:=hB
   have hr':i ∈ Region.ready .any l.toArray listed:=by simpa using hr
   obtain ⟨o,ho,hstep,DP⟩:=h.2 (by simpa using mK)
   have hi:l.toArray[i]? = some o:=by rw [← vW];exact ho
   simp only [nD,mK,cond_false]
   rw [Nat.add_comm]
   have ih:=Mm (P:=P) (K:=K) (Z:=Z) hsel n
   cases tL:t.getD .w with
   | w=>
    rw [tL] at ht hstep DP
    simp only [iz,dz] at hstep
    simp only [Bool.and_eq_true] at ht
    have jE:Z i=false:=by simpa using ht.1.1
    refine ⟨fun _=>hC,fun h0=>(by rw [h0] at hr';cases hr'),fun j hj=>?_⟩
    have hj2:=List.all_eq_true.1 ht.1.2 j hj
    simp only [Bool.or_eq_true,beq_iff_eq,Bool.and_eq_true] at hj2
    by_cases hji:j=i
    ·subst hji
     unfold wpOp
     simp only [hi]
     split
     ·rename_i hw
      rw [if_pos hw] at hstep
      exact .inl (Oper.wp_mono (fun a' w' ⟨C',h1,h2,h3⟩=>⟨fun e=>by simp [jE] at e,cy.wide (CB.cons (fun w hw=>h1 w hw)) (ih D L C' _ a' w' fU e9 h2 h3)⟩) hstep)
     ·rename_i hw
      rw [if_neg hw] at hstep
      obtain ⟨C',h1,h2,h3⟩:=hstep
      exact ⟨fun e=>by simp [jE] at e,cy.wide (CB.cons (fun w hw=>h1 w hw)) (ih D L C' _ _ _ fU e9 h2 h3)⟩
    ·obtain ⟨FH,nR⟩:fs.contains j=true∧(!D.contains j)=true:=by
      rcases hj2 with h' | h'
      ·exact absurd h' hji
      ·exact h'
     have FH:j ∈ fs:=by simpa using FH
     have Lj:D.contains j=false:=by simpa using nR
     obtain ⟨oj,gE,hrun⟩:=DP rfl j FH (by simpa using Lj)
     have ajh:l.toArray[j]? = some oj:=by rw [← vW];exact gE
     have hok:=Fy ht.2 j FH
     simp only [Lj,Bool.false_or,Bool.and_eq_true] at hok
     obtain ⟨⟨⟨I4,_⟩,hn⟩,hok⟩:=hok
     have I4:Z j=false:=by simpa using I4
     have hn:=ay hn
     have go:∀ C' a' w',C' w'->pu P l K n (j :: D) ((t,i,fs) :: L) C' a' w'->cy P l.toArray (CB (tg ((t,i,fs) :: L)) C') Z K (nD D L) (listed.setIfInBounds j true) a' w':=fun C' a' w' h2 h3=>by
      have:=ih (j :: D) ((t,i,fs) :: L) C' (listed.setIfInBounds j true) a' w' hZ hok h2 h3
      rw [hn] at this
      exact this
     simp only [dz] at hrun
     unfold wpOp
     simp only [ajh]
     split
     ·rename_i hw
      rw [if_pos hw] at hrun
      exact .inl (Oper.wp_mono (fun a' w' ⟨C',h1,h2,h3⟩=>⟨fun e=>by simp [I4] at e,cy.wide (CB.mono (fun w hw=>h1 w hw)) (go C' a' w' h2 h3)⟩) hrun)
     ·rename_i hw
      rw [if_neg hw] at hrun
      obtain ⟨C',h1,h2,h3⟩:=hrun
      exact ⟨fun e=>by simp [I4] at e,cy.wide (CB.mono (fun w hw=>h1 w hw)) (go C' _ _ h2 h3)⟩
   | p=>
    rw [tL] at ht hstep
    obtain ⟨v,hy,h⟩:=hstep
    simp only [Bool.and_eq_true] at ht
    exact uv (C':=fun _=>True) (D:=fun _=>False) hi (Region.noSelect_spec hsel) (fun _ _ h=>h.elim) (CB.down ht.2 hZ) _ listed a w (Region.free_spec hi ht.1) (fun _ h=>h.elim) (fun _ _ _ _ _ _ _ _ _ _ _ _ _=>trivial) hr' trivial (fun w _=>hy w)
     (cy.wide (CB.cons (fun _ h=>h)) (ih D L C _ _ _ fU e9 hC h))
   | c=>
    rw [tL] at ht hstep
    obtain ⟨v,hy,h⟩:=hstep
    simp only [Bool.and_eq_true] at ht
    rw [Re,tL] at hZ ⊢
    exact SW hsel hi ht.1.1 ht.1.2 hZ ht.2 hr' hC hy (ih D L C _ _ _ fU e9 hC h)
   | r=>
    rw [tL] at ht hstep
    obtain ⟨v,hy,h⟩:=hstep
    simp only [Bool.and_eq_true] at ht
    obtain ⟨⟨⟨⟨hf,hz⟩,hl⟩,dh⟩,CF⟩:=ht
    refine uv (C':=fun w'=>w'=w) (D:=fun j=>j ∈ kQ l.toArray i) hi (Region.noSelect_spec hsel) ?_ (CB.down hz hZ) _ listed a w (Region.free_spec hi hf) ?_ ?_ hr' rfl (fun w' e=>by rw [e];exact hy)
     (cy.wide (CB.cons (fun _ h=>h)) (ih D L C _ _ _ fU e9 hC h))
    ·intro j oj hj gE
     have:=List.all_eq_true.1 hl j hj
     simp only [gE] at this
     obtain ⟨e,he,hb⟩:=Array.any_eq_true'.1 this
     simp only [Bool.and_eq_true,Bool.or_eq_true,beq_iff_eq,List.contains_iff_mem] at hb
     exact ⟨e,he,hb.1,hb.2⟩
    ·intro j hj
     have:=List.all_eq_true.1 dh j hj
     simpa using this
    ·intro j oj gE hji nR hun _ w1 w2 _ OC _ e
     have:=List.all_eq_true.1 CF j (List.mem_range.2 (Array.getElem?_eq_some_iff.1 gE).1)
     simp only [Bool.or_eq_true,beq_iff_eq,List.contains_iff_mem,hji,nR,hun,Bool.false_eq_true,false_or] at this
     rw [OC this,e]
   | b=>
    rw [tL] at ht hstep
    simp only [iz,dz] at hstep
    simp only [Bool.and_eq_true] at ht
    have jE:Z i=false:=by simpa using ht.1
    rw [Re,tL]
    refine ⟨fun _=>hC,fun h0=>(by rw [h0] at hr';cases hr'),fun j hj=>?_⟩
    have hji:j=i:=by
     have:=List.all_eq_true.1 ht.2 j hj
     simpa using this
    subst hji
    have gy:(listed.setIfInBounds j true).getD j false=true:=by
     have hun:=(mem_ready.1 hr').1
     rcases Nat.lt_or_ge j listed.size with h' | h'
     ·simp [h']
     ·simp [Array.getElem?_eq_none h'] at hun
    have Bb:∀ {C':World->Prop} (L':Array Bool) (w:World),L'.getD j false=true->CB (tg L) C' L' w->CB ((.b,j) :: tg L) C L' w:=fun L' w hl _ hb=>by
     have:=hb j (List.mem_cons_self ..)
     rw [hl] at this
     cases this
    unfold wpOp
    simp only [hi]
    split
    ·rename_i hw
     rw [if_pos hw] at hstep
     exact .inl (Oper.wp_mono (fun a' w' ⟨C',h2,h3⟩=>⟨fun e=>by simp [jE] at e,cy.D_ Bb gy (ih D L C' _ a' w' fU e9 h2 h3)⟩) hstep)
    ·rename_i hw
     rw [if_neg hw] at hstep
     obtain ⟨C',h2,h3⟩:=hstep
     exact ⟨fun e=>by simp [jE] at e,cy.D_ Bb gy (ih D L C' _ _ _ fU e9 h2 h3)⟩
def Fm (l:List Oper) (π:List hU):Bool:=
 Region.noSelect l.toArray && Nat.beq (nD [] π) l.length && nu l (fun j=>!(π.any fun x=>(match x.1.getD .w with
  | .w=>true
  | .b=>true
  | _=>false) && Nat.beq x.2.1 j)) (2 * l.length + 2) [] π (Array.replicate l.length false)
theorem ahL {P:Program} {K:Act->World->Prop} {l:List Oper} (π:List hU) {a:Act} {w:World} (C:World->Prop) (hB:Fm l π=true)
  (hC:C { w with drawn:=w.drawn + 1 }) (h:pu P l K (2 * l.length + 2) [] π C a { w with drawn:=w.drawn + 1 }):wpAny P .any l.toArray (Qn K) l.toArray.size (Array.replicate l.toArray.size false) a { w with drawn:=w.drawn + 1 }:=by
 simp only [Fm,Bool.and_eq_true] at hB
 obtain ⟨⟨hs,hl⟩,ho⟩:=hB
 have hZ:∀ t k,(t,k) ∈ tg π->t=.w∨t=.b->(fun j=>!(π.any fun x=>(match x.1.getD .w with
  | .w=>true
  | .b=>true
  | _=>false) && Nat.beq x.2.1 j)) k=false:=fun t k hm ht=>by
  obtain ⟨x,hx,he⟩:=List.mem_map.1 hm
  cases he
  have:(π.any fun y=>(match y.1.getD .w with
   | .w=>true
   | .b=>true
   | _=>false) && Nat.beq y.2.1 x.2.1)=true:=List.any_eq_true.2 ⟨x,hx,by rcases ht with h | h<;>rw [h]<;>simp⟩
  simp [this]
 have:=(Mm hs _ [] π C _ a _ hZ ho hC h).any
 rw [ay hl] at this
 simpa using this
def MV:Op->Bool
 | .alloc _=>true
 | .makeSlice _ _ _=>true
 | .buildSlice _ _ _=>true
 | _=>false
theorem XQ {c:aF} {il:aE} {o:Op} {th:fY} (h:rj c il o=some th):MV o=true:=by
 unfold rj at h
 split at h<;>first | rfl | cases h
theorem vZ {o:Oper} {d:Nat} (h:xY o=some d):o.dst=some d∧o.guard=none:=by
 unfold xY at h
 split at h<;>first | (cases h;done) | skip
 rename_i h1 h2
 cases h
 exact ⟨h2,h1⟩
theorem L3 {a a':Act} {o:Oper} (hk:MV o.op=true) (h:∀ x ∈ qN o.op,a.eval x=a'.eval x):execOp a.eval o=execOp a'.eval o:=by
 cases ho:o.op with
 | alloc t=>simp only [execOp,ho]
 | makeSlice t x y=>
  rw [ho] at h
  have h1:=h x (by simp [qN])
  have h2:=h y (by simp [qN])
  simp only [execOp,ho,h1,h2]
 | buildSlice t n ps=>
  rw [ho] at h
  have h1:(ps.map fun (i,x)=>(i,a.eval x))=ps.map fun (i,x)=>(i,a'.eval x):=by
   apply Array.map_congr_left
   rintro ⟨i,x⟩ hm
   simp only [h x (by simp only [qN];exact List.mem_map.2 ⟨(i,x),by simpa using hm,rfl⟩)]
  simp only [execOp,ho]
  rw [h1]
 | _=>rw [ho] at hk;cases hk
theorem eval_put {a:Act} {d:Nat} {v:Value} {x:Operand} (h:LI x ≠ some d):(a.put (some d) v).eval x=a.eval x:=by
 cases x with
 | tmp t=>
  have:d ≠ t:=fun e=>h (by rw [e];rfl)
  simp only [Act.eval,Act.put,Array.getD_eq_getD_getElem?]
  rw [Array.getElem?_setIfInBounds_ne this]
 | _=>rfl
def xy (P:Program) (ops:List Oper) (bf:Nat->Nat) (gf:Nat->Option (Nat×Nat)) (cf:Nat->List Value) (tf:Nat->Nat) (j:Nat) (tm:Array Value) (il:aE):Prop:=
 ∃ oj d,eI ops j=some oj∧xY oj=some d∧MV oj.op=true∧zu P (execOp (Act.eval ⟨tm,[]⟩) oj) (gf j) (cf j) (tf j)∧tm[d]? = some (f_ (gf j) (bf j))∧dn il d=none
def BK (bf:Nat->Nat) (cf:Nat->List Value) (tf:Nat->Nat) (n0:Nat) (j:Nat) (O:Own) (w:World):Prop:=O (bf j)=.no∧n0≤bf j∧dO w (bf j) (cf j) (tf j)
def Dn (P:Program) (ops:List Oper) (n0:Nat) (D:List Nat) (tm:Array Value) (il:aE) (O:Own) (w:World):Prop:=
 ∃ bf gf cf tf,(∀ j ∈ D,xy P ops bf gf cf tf j tm il)∧(∀ j ∈ D,BK bf cf tf n0 j O w)∧∀ i ∈ D,∀ j ∈ D,bf i=bf j->i=j
theorem abH {d:Nat} {l:List Operand} (h:JO d l=true):∀ x ∈ l,LI x ≠ some d:=fun x hx e=>by
 have:=List.all_eq_true.1 h x hx
 simp [e] at this
theorem Kf {ops:List Oper} {i:Nat}:∀ {D:List Nat},sF ops i D=true->∀ j ∈ D,∀ oi oj,eI ops i=some oi->eI ops j=some oj->∀ d d',oi.dst=some d->oj.dst=some d'->d ≠ d'∧∀ x ∈ qN oj.op,LI x ≠ some d
 | [],_,j,hj,_,_,_,_,_,_,_,_=>by cases hj
 | k :: D,h,j,hj,oi,oj,hi,gE,d,d',h1,h2=>by
  simp only [sF,Bool.and_eq_true] at h
  rcases List.mem_cons.1 hj with rfl | hj
  ·have h:=h.1
   simp only [hi,gE,h1,h2,Bool.and_eq_true] at h
   exact ⟨fun e=>by subst e;simp at h,abH h.2⟩
  ·exact Kf h.2 j hj oi oj hi gE d d' h1 h2
theorem VA {P:Program} {ops:List Oper} {bf:Nat->Nat} {gf:Nat->Option (Nat×Nat)} {cf:Nat->List Value} {tf:Nat->Nat} {D:List Nat} {i:Nat} {o:Oper} {E:Ev} (hap:sF ops i D=true) (ho:eI ops i=some o) {a:Act} {il bp:aE} (h:∀ j ∈ D,xy P ops bf gf cf tf j a.tmps il)
  (x:Value) (v:IV) (e:e_ E o.dst v il=some bp):∀ j ∈ D,xy P ops bf gf cf tf j (a.put o.dst x).tmps bp:=by
 intro j hj
 obtain ⟨oj,d,h1,h2,h3,h4,h5,h6⟩:=h j hj
 obtain ⟨hd,hg⟩:=vZ h2
 cases iN:o.dst with
 | none=>
  rw [iN] at e
  simp only [e_,az] at e
  subst e
  exact ⟨oj,d,h1,h2,h3,h4,h5,h6⟩
 | some d0=>
  obtain ⟨n1,n2⟩:=Kf hap j hj o oj ho h1 d0 d iN hd
  rw [iN] at e
  refine ⟨oj,d,h1,h2,h3,?_,?_,?_⟩
  ·have:=L3 (a:=⟨(a.put (some d0) x).tmps,[]⟩) (a':=⟨a.tmps,[]⟩) h3 (fun y hy=>(eval_put (a:=⟨a.tmps,[]⟩) (v:=x) (n2 y hy)))
   rw [this];exact h4
  ·simp only [Act.put]
   rw [Array.getElem?_setIfInBounds_ne n1];exact h5
  ·exact L1 (o:=o) (fun d' oH=>by rw [iN] at oH;cases oH;exact n1) h6 (by rw [iN];exact e)
theorem afZ {P:Program} {ops:List Oper} {bf:Nat->Nat} {gf:Nat->Option (Nat×Nat)} {cf:Nat->List Value} {tf:Nat->Nat} {D:List Nat} {tm:Array Value} {il:aE} (h:∀ j ∈ D,xy P ops bf gf cf tf j tm il) {dj:Nat} {g:Bool} (hg:dn il dj=some (.o (.b g))):∀ j ∈ D,xy P ops bf gf cf tf j tm ((dj,.o (.b g)) :: il):=by
 intro j hj
 obtain ⟨oj,d,h1,h2,h3,h4,h5,h6⟩:=h j hj
 exact ⟨oj,d,h1,h2,h3,h4,h5,ME h6 hg⟩
theorem Oe {bf:Nat->Nat} {cf:Nat->List Value} {tf:Nat->Nat} {n0 j:Nat} {O O':Own} {ρ ρ':List Hd} {w w':World} {M:Nat->Prop} (h:BK bf cf tf n0 j O w) (hS:aR M O ρ w O' ρ' w'):BK bf cf tf n0 j O' w':=by
 obtain ⟨h1,h2,h3⟩:=h
 exact ⟨hS.no _ h3.lt h1,h2,h3.same (hS.kept.block _ h3.lt (fun ⟨id,_,e⟩=>by rw [h1] at e;cases e))⟩
section
variable {P:Program} {E:Ev} {ops:List Oper} {K:Act->World->Prop}
theorem am3 {n0:Nat} {D:List Nat} {st:St} {a:Act} {O:Own} {ρ:List Hd} {w:World} {j:Nat} (hc:aN P E.c) (hF:FS E.n a st O ρ) (hM:Gm O ρ st.tb w) (hG:GO E.c O) (hn0:n0≤w.heap.size) (hD:Dn P ops n0 D a.tmps st.env O w) (hb:J_ E st.env ops j=true) (nR:j ∉ D) (hap:sF ops j D=true) :
  ∃ oj v w',eI ops j=some oj∧oj.guard=none∧(execOp a.eval oj).run P w=.ok (.value v) w'∧FS E.n (a.put oj.dst v) st O ρ∧Gm O ρ st.tb w'∧aR (fun _=>False) O ρ w O ρ w'∧Dn P ops n0 (j :: D) (a.put oj.dst v).tmps st.env O w':=by
 unfold J_ at hb
 split at hb<;>first | (cases hb;done) | skip
 rename_i o ho
 split at hb<;>first | (cases hb;done) | skip
 rename_i d th lZ jV
 split at hb<;>first | (cases hb;done) | skip
 rename_i hgd
 obtain ⟨iN,hg⟩:=vZ lZ
 simp only [Bool.and_eq_true] at hb
 have hdn:d < E.n:=by simpa [Nat.blt_eq] using hb.1
 have alw:=abH hb.2
 obtain ⟨l,o9,c9⟩:=hF.1
 obtain ⟨g,cs,ty,hX,_⟩:=Ni (a:={ a with defers:=[] }) (P:=P) hc o9 c9 hG jV
 have hX':zu P (execOp a.eval o) g cs ty:=hX
 have hrun:=hX' w
 have hk:Kept ja w { w with heap:=w.heap.push (.cells cs.toArray ty) }:=jZ w _
 have hS:aR (fun _=>False) O ρ w O ρ { w with heap:=w.heap.push (.cells cs.toArray ty) }:=⟨.refl _,.refl _,fun _ _ h=>h,fun _ _ _ h _=>h,hk.wide (fun _ h=>h.elim)⟩
 have fD:Gm O ρ st.tb { w with heap:=w.heap.push (.cells cs.toArray ty) }:=
  (hM.step (M:=fun _=>False) (O':=O) (ρ':=ρ) (aL:=st.tb) (hk.wide (fun _ h=>h.elim)) (fun _ _ _=>rfl) (fun b hb=>hM.lt b (Nat.le_trans hk.size hb)) (fun b all h=>.inl h) (.refl _) hM.len (fun j x hx=>.inl ⟨hx,fun h=>h⟩)).1
 refine ⟨o,_,_,ho,hg,hrun,?_,fD,hS,?_⟩
 ·rw [iN];exact ⟨hF.1.other hgd,by rw [put_defers];exact hF.2⟩
 ·obtain ⟨bf,gf,cf,tf,h1,h2,h3⟩:=hD
  have up:∀ {α:Type} (f:Nat->α) (x:α) (k:Nat),k ∈ D->(bif Nat.beq j k then x else f k)=f k:=fun f x k hk=>by
   cases hb:Nat.beq j k with
   | true=>have:=ay hb;subst this;exact absurd hk nR
   | false=>rfl
  have tJ:Nat.beq j j=true:=by simp
  refine ⟨fun k=>bif Nat.beq j k then w.heap.size else bf k,fun k=>bif Nat.beq j k then g else gf k,fun k=>bif Nat.beq j k then cs else cf k,fun k=>bif Nat.beq j k then ty else tf k,fun k hk=>?_,fun k hk=>?_,fun i hi k hk e=>?_⟩
  ·rcases List.mem_cons.1 hk with rfl | hk
   ·refine ⟨o,d,ho,lZ,XQ jV,?_,?_,hgd⟩
    ·simp only [tJ,cond_true]
     have:=L3 (a:=⟨(a.put o.dst (f_ g w.heap.size)).tmps,[]⟩) (a':=a) (o:=o) (XQ jV) (fun y hy=>by
      rw [iN]
      exact eval_put (a:=a) (v:=f_ g w.heap.size) (alw y hy))
     rw [this];exact hX'
    ·simp only [tJ,cond_true]
     have hs:a.tmps.size=E.n:=o9.size
     rw [iN]
     simp [Act.put,hs,hdn]
   ·obtain ⟨oj,d',g1,g2,g3,g4,g5,g6⟩:=h1 k hk
    obtain ⟨oH,_⟩:=vZ g2
    obtain ⟨n1,n2⟩:=Kf hap k hk o oj ho g1 d d' iN oH
    refine ⟨oj,d',g1,g2,g3,?_,?_,g6⟩
    ·simp only [up gf g k hk,up cf cs k hk,up tf ty k hk]
     have:=L3 (a:=⟨(a.put o.dst (f_ g w.heap.size)).tmps,[]⟩) (a':=⟨a.tmps,[]⟩) (o:=oj) g3 (fun y hy=>by
      rw [iN]
      exact eval_put (a:=⟨a.tmps,[]⟩) (v:=f_ g w.heap.size) (n2 y hy))
     rw [this];exact g4
    ·simp only [up gf g k hk,up bf w.heap.size k hk]
     rw [iN]
     simp only [Act.put]
     rw [Array.getElem?_setIfInBounds_ne n1];exact g5
  ·rcases List.mem_cons.1 hk with rfl | hk
   ·simp only [BK,tJ,cond_true]
    exact ⟨hM.lt _ (Nat.le_refl _),hn0,kr ty cs⟩
   ·have:=Oe (h2 k hk) hS
    simp only [BK,up bf w.heap.size k hk,up cf cs k hk,up tf ty k hk]
    exact this
  ·have old:∀ k ∈ D,bf k ≠ w.heap.size:=fun k hk e=>by
    have:=(h2 k hk).2.2.lt
    omega
   rcases List.mem_cons.1 hi with hi1 | hi1<;>rcases List.mem_cons.1 hk with gu | gu
   ·rw [hi1,gu]
   ·rw [hi1] at e ⊢
    simp only [tJ,cond_true,up bf w.heap.size k gu] at e
    exact absurd e.symm (old k gu)
   ·rw [gu] at e ⊢
    simp only [tJ,cond_true,up bf w.heap.size i hi1] at e
    exact absurd e (old i hi1)
   ·simp only [up bf w.heap.size i hi1,up bf w.heap.size k gu] at e
    exact h3 i hi1 k gu e
end
section
variable {P:Program} {E:Ev} {ops:List Oper} {K:Act->World->Prop}
theorem XS {β:Type} {k:St->Option β} {r:β} {Z:Nat->Bool} {O0:Own} {aG:List Hd} {w0:World} (hc:aN P E.c) (hct:bS P E)
  (hK:∀ st a w O ρ,k st=some r->FS E.n a st O ρ->Gm O ρ st.tb w->GO E.c O->aR (fun _=>True) O0 aG w0 O ρ w->K a w) :
  ∀ (n:Nat) (D:List Nat) (L:List hU) (listed:Array Bool) (Cp:World->Prop) (cr:List Nat) (st:St) (a:Act) (O:Own) (ρ:List Hd) (w:World),nu ops Z n D L listed=true->Ck E ops k L cr st=some r->FS E.n a st O ρ->Gm O ρ st.tb w->GO E.c O ->
   (∀ O' ρ' w',fM (· ∉ cr) O ρ w O' ρ' w'->Cp w')->aR (fun _=>True) O0 aG w0 O ρ w->Dn P ops w0.heap.size D a.tmps st.env O w->∃ CR,(∀ i,i ∈ cr->i ∈ CR)∧pu P ops K n D L (fun w'=>Cp w'∧gW CR O w w') a w
 | 0,D,L,listed,Cp,cr,st,a,O,ρ,w,hB,e,hF,hM,hG,hst,hS,hD=>by simp [nu] at hB
 | n + 1,D,[],listed,Cp,cr,st,a,O,ρ,w,hB,e,hF,hM,hG,hst,hS,hD=>⟨cr,fun _ h=>h,hK st a w O ρ e hF hM hG hS⟩
 | n + 1,D,(t,i,fs) :: L,listed,Cp,cr,st,a,O,ρ,w,hB,e,hF,hM,hG,hst,hS,hD=>by
  have ih:=XS (k:=k) (r:=r) (Z:=Z) hc hct hK n
  have e0:=e
  simp only [nu] at hB
  simp only [Ck] at e
  split at e<;>first | (cases e;done) | skip
  rename_i o ho
  split at e<;>first | (cases e;done) | skip
  rename_i TZ
  obtain ⟨qM,e⟩:=ZC e
  cases mK:D.contains i with
  | true=>
   have hi:i ∈ D:=by simpa using mK
   rw [mK] at hB
   simp only [Bool.and_eq_true] at hB
   obtain ⟨⟨⟨ht,hap⟩,_⟩,e9⟩:=hB
   cases t with
   | some t=>cases ht
   | none=>
   obtain ⟨bf,gf,cf,tf,h1,h2,h3⟩:=hD
   obtain ⟨oi,d,q1,q2,q3,q4,q5,q6⟩:=h1 i hi
   rw [ho] at q1;cases q1
   obtain ⟨iN,hg⟩:=vZ q2
   rw [q2] at e
   simp only at e
   split at e<;>first | (cases e;done) | skip
   rename_i hdn
   obtain ⟨th,jV,e⟩:=N_ e
   obtain ⟨l,o9,c9⟩:=hF.1
   obtain ⟨g,cs,ty,hX,had⟩:=Ni (a:={ a with defers:=[] }) (P:=P) hc o9 c9 hG jV
   have same:=(q4 w).symm.trans (hX w)
   simp only [Result.ok.injEq,Next.value.injEq] at same
   obtain ⟨s1,s2⟩:=same
   have s1:=amK s1
   have s3:=congrArg World.heap s2
   simp only [Array.push_eq_push,Obj.cells.injEq,and_true] at s3
   obtain ⟨s4,s5⟩:=s3
   have s4:cf i=cs:=by simpa using congrArg Array.toList s4
   obtain ⟨hO,hn0,hb⟩:=h2 i hi
   rw [s4,s5] at hb
   obtain ⟨hd,g1,g2,g3⟩:=had O ρ st.tb w (bf i) (.refl _) (.refl _) hM hO hb
   have hpre:Pre ρ (ρ ++ [hd]):=.app _ _
   have hq:fM (· ∉ cr) O ρ w (fun b=>bif Nat.beq (bf i) b then .th st.tb.length else O b) (ρ ++ [hd]) w:=by
    refine ⟨hpre,g2,fun b id _ h _=>?_,Kept.refl _ _⟩
    cases e':Nat.beq (bf i) b with
    | true=>have:=ay e';subst this;rw [hO] at h;cases h
    | false=>exact h
   have c_:aR (fun _=>True) O0 aG w0 (fun b=>bif Nat.beq (bf i) b then .th st.tb.length else O b) (ρ ++ [hd]) w:=by
    refine ⟨hS.pre.trans hpre,hS.im.trans g2,fun b hb h=>?_,fun b id hb h hn=>absurd trivial hn,hS.kept⟩
    cases e':Nat.beq (bf i) b with
    | true=>have:=ay e';omega
    | false=>exact hS.no b hb h
   have kz:FS E.n a ⟨(d,uD st.tb.length th) :: st.env,st.tb ++ [th],st.df⟩ (fun b=>bif Nat.beq (bf i) b then .th st.tb.length else O b) (ρ ++ [hd]):=by
    refine ⟨⟨(d,.o (.v (f_ g (bf i)))) :: l,⟨o9.defers,o9.size,fun t u hu=>?_⟩,rfl,g3,c9.mono g2 hpre⟩,hF.2.mono g2 hpre⟩
    simp only [get?] at hu
    cases hb:Nat.beq d t with
    | true=>rw [hb] at hu;cases hu;rw [← ay hb,← s1];exact q5
    | false=>rw [hb] at hu;exact o9.has t u hu
   have n7:Dn P ops w0.heap.size (dl i D) a.tmps ((d,uD st.tb.length th) :: st.env) (fun b=>bif Nat.beq (bf i) b then .th st.tb.length else O b) w:=by
    refine ⟨bf,gf,cf,tf,fun j hj=>?_,fun j hj=>?_,fun x hx y hy e=>h3 x (ou hx).1 y (ou hy).1 e⟩
    ·obtain ⟨oj,d',r1,r2,r3,r4,r5,r6⟩:=h1 j (ou hj).1
     obtain ⟨n1,_⟩:=Kf hap j hj o oj ho r1 d d' iN (vZ r2).1
     refine ⟨oj,d',r1,r2,r3,r4,r5,?_⟩
     simp only [dn]
     cases hb:Nat.beq d d' with
     | true=>exact absurd (ay hb) n1
     | false=>exact r6
    ·obtain ⟨u1,u2,u3⟩:=h2 j (ou hj).1
     refine ⟨?_,u2,u3⟩
     cases e':Nat.beq (bf i) (bf j) with
     | true=>exact absurd (h3 i hi j (ou hj).1 (ay e')).symm (ou hj).2
     | false=>simp only [e',cond_false];exact u1
   obtain ⟨CR,k1,k2⟩:=ih (dl i D) L listed Cp cr _ a _ _ w e9 e kz g1 (hG.mono g2) (fun O' ρ' w' h=>hst _ _ _ (hq.trans h)) c_ n7
   refine ⟨cr,fun _ h=>h,fun _=>⟨_,fun w' h=>⟨h.1,h.2.wide (fun b hb=>?_)⟩,⟨hst _ _ _ (.refl _ _ _ _),Kept.refl _ _⟩,k2⟩,fun hn=>absurd hi hn⟩
   cases e':Nat.beq (bf i) b with
   | true=>have:=ay e';subst this;exact .inl hO
   | false=>
    simp only [e',cond_false] at hb
    exact hb.imp (fun h=>h) (fun ⟨id,hn,h⟩=>⟨id,fun hc=>hn (k1 id hc),h⟩)
  | false=>
   have hi:i ∉ D:=by simpa using mK
   rw [mK] at hB
   simp only [Bool.and_eq_true] at hB
   obtain ⟨⟨⟨hr,hap⟩,ht⟩,e9⟩:=hB
   have DP:t.getD .w=.w->∀ j ∈ fs,j ∉ D->∃ oj,eI ops j=some oj∧dz P ops.toArray (QL K (fun _ _ _=>False) (fun _ _=>False)) oj (fun a' w'=>∃ C':World->Prop,(∀ w'',C' w''->(Cp w''∧gW cr O w w''))∧C' w'∧pu P ops K n (j :: D) ((t,i,fs) :: L) C' a' w') a w:=by
    intro htw j hj nR
    rw [htw] at ht
    simp only [Bool.and_eq_true] at ht
    have hok:=Fy ht.2 j hj
    have Lj:D.contains j=false:=by simpa using nR
    simp only [Lj,Bool.false_or,Bool.and_eq_true] at hok
    obtain ⟨⟨⟨_,acr⟩,_⟩,hok⟩:=hok
    obtain ⟨oj,v,w',b1,b2,b3,b4,b5,b6,b7⟩:=am3 hc hF hM hG hS.kept.size hD (Fy qM j hj) nR acr
    have hq:fM (· ∉ cr) O ρ w O ρ w':=(b6.bD (fun _ h=>h.elim)).q
    obtain ⟨CR2,c1,c2⟩:=ih (j :: D) ((t,i,fs) :: L) _ (fun w''=>Cp w''∧gW cr O w w'') cr st (a.put oj.dst v) O ρ w' hok e0 b4 b5 hG (fun O' ρ' w'' h=>⟨hst _ _ _ (hq.trans h),(hq.trans h).kept⟩) (hS.trans (b6.bD (fun _ h=>h.elim))) b7
    refine ⟨oj,b1,?_⟩
    unfold dz
    rw [if_pos (LW b2)]
    simp only [Oper.wp,b3,Oper.upon]
    exact ⟨_,fun w'' h=>h.1,⟨⟨hst _ _ _ hq,hq.kept⟩,Kept.refl _ _⟩,c2⟩
   cases t with
   | none=>
    simp only at e
    split at e<;>first | (cases e;done) | skip
    rename_i d lZ
    split at e<;>first | (cases e;done) | skip
    rename_i hdn
    obtain ⟨th,jV,e⟩:=N_ e
    obtain ⟨iN,hg⟩:=vZ lZ
    obtain ⟨l,o9,c9⟩:=hF.1
    obtain ⟨g,cs,ty,hX,had⟩:=Ni (a:={ a with defers:=[] }) (P:=P) hc o9 c9 hG jV
    have hX:zu P (execOp a.eval o) g cs ty:=hX
    have hrun:=hX w
    have hk:Kept ja w { w with heap:=w.heap.push (.cells cs.toArray ty) }:=jZ w _
    have gR:aR (fun _=>False) O ρ w O ρ { w with heap:=w.heap.push (.cells cs.toArray ty) }:=⟨.refl _,.refl _,fun _ _ h=>h,fun _ _ _ h _=>h,hk.wide (fun _ h=>h.elim)⟩
    have fD:Gm O ρ st.tb { w with heap:=w.heap.push (.cells cs.toArray ty) }:=
     (hM.step (M:=fun _=>False) (O':=O) (ρ':=ρ) (aL:=st.tb) (hk.wide (fun _ h=>h.elim)) (fun _ _ _=>rfl) (fun b hb=>hM.lt b (Nat.le_trans hk.size hb)) (fun b all h=>.inl h) (.refl _) hM.len (fun j x hx=>.inl ⟨hx,fun h=>h⟩)).1
    have hO:O w.heap.size=.no:=hM.lt _ (Nat.le_refl _)
    obtain ⟨hd,g1,g2,g3⟩:=had O ρ st.tb _ w.heap.size (.refl _) (.refl _) fD hO (kr ty cs)
    have hpre:Pre ρ (ρ ++ [hd]):=.app _ _
    have hq:fM (· ∉ cr) O ρ w (fun b=>bif Nat.beq w.heap.size b then .th st.tb.length else O b) (ρ ++ [hd]) { w with heap:=w.heap.push (.cells cs.toArray ty) }:=by
     refine ⟨hpre,g2,fun b id _ h _=>?_,hk.wide (fun _ h=>h.elim)⟩
     cases e':Nat.beq w.heap.size b with
     | true=>have:=ay e';subst this;rw [hO] at h;cases h
     | false=>exact h
    have c_:aR (fun _=>True) O0 aG w0 (fun b=>bif Nat.beq w.heap.size b then .th st.tb.length else O b) (ρ ++ [hd]) { w with heap:=w.heap.push (.cells cs.toArray ty) }:=by
     have hs0:=hS.trans (gR.bD (M':=fun _=>True) (fun _ h=>h.elim))
     refine ⟨hs0.pre.trans hpre,hs0.im.trans g2,fun b hb h=>?_,fun b id hb h hn=>absurd trivial hn,hs0.kept⟩
     have hsz:=hS.kept.size
     cases e':Nat.beq w.heap.size b with
     | true=>have:=ay e';omega
     | false=>exact hs0.no b hb h
    have kz:FS E.n (a.put o.dst (f_ g w.heap.size)) ⟨(d,uD st.tb.length th) :: st.env,st.tb ++ [th],st.df⟩ (fun b=>bif Nat.beq w.heap.size b then .th st.tb.length else O b) (ρ ++ [hd]):=by
     rw [iN]
     exact ⟨(hF.1.mono g2 hpre).put hdn g3,by rw [put_defers];exact hF.2.mono g2 hpre⟩
    have n7:Dn P ops w0.heap.size D (a.put o.dst (f_ g w.heap.size)).tmps ((d,uD st.tb.length th) :: st.env) (fun b=>bif Nat.beq w.heap.size b then .th st.tb.length else O b) { w with heap:=w.heap.push (.cells cs.toArray ty) }:=by
     obtain ⟨bf,gf,cf,tf,h1,h2,h3⟩:=hD
     refine ⟨bf,gf,cf,tf,VA (E:=E) hap ho h1 _ (uD st.tb.length th) (by rw [iN];simp only [e_,hdn]),fun j hj=>?_,h3⟩
     have hlt:=(h2 j hj).2.2.lt
     obtain ⟨u1,u2,u3⟩:=Oe (h2 j hj) gR
     refine ⟨?_,u2,u3⟩
     cases e':Nat.beq w.heap.size (bf j) with
     | true=>have:=ay e';omega
     | false=>simp only [e',cond_false];exact u1
    obtain ⟨CR,k1,k2⟩:=ih D L _ Cp cr _ _ _ _ _ e9 e kz g1 (hG.mono g2) (fun O' ρ' w' h=>hst _ _ _ (hq.trans h)) c_ n7
    refine ⟨cr,fun _ h=>h,fun h=>absurd h hi,fun _=>⟨o,ho,?_,DP⟩⟩
    simp only [Option.getD_none,iz]
    unfold dz
    rw [if_pos (LW hg)]
    simp only [Oper.wp,hrun,Oper.upon]
    refine ⟨_,fun w' h=>⟨h.1,?_⟩,⟨hst _ _ _ hq,Kept.refl _ _⟩,k2⟩
    have hk2:=h.2
    refine Kept.trans (S:=fun b=>O b=.no∨∃ id,id ∉ cr∧O b=.th id) (hk.wide (fun _ h=>h.elim)) hk2 (fun b _ hb=>?_)
    cases e':Nat.beq w.heap.size b with
    | true=>have:=ay e';subst this;exact .inl hO
    | false=>
     simp only [e',cond_false] at hb
     exact hb.imp (fun h=>h) (fun ⟨id,hn,h⟩=>⟨id,fun hc=>hn (k1 id hc),h⟩)
   | some t=>
    obtain ⟨bf,gf,cf,tf,h1,h2,h3⟩:=hD
    obtain ⟨CR,p1,p2,p3⟩:=Fp (K:=K) (S:=pu P ops K n D L) (Inv:=fun tm il=>∀ j ∈ D,xy P ops bf gf cf tf j tm il) (O0:=O) (aG:=ρ) (w0:=w) hc hct hG e hF hM hst (.refl _ _ _ _) h1 (fun dj g h=>afZ h1 h) (fun il hi x v bp h=>VA hap ho hi x v h)
     (fun kp jo ak a' w' O' ρ' e' cO iw hJ Og eC kK=>ih D L _ kp jo ak a' O' ρ' w' e9 e' cO iw hJ Og (hS.trans eC) ⟨bf,gf,cf,tf,kK,fun j hj=>Oe (h2 j hj) eC,h3⟩)
    cases fs with
    | nil=>exact ⟨CR,p1,fun h=>absurd h hi,fun _=>⟨o,ho,p3,fun _ j hj=>by cases hj⟩⟩
    | cons f fs=>
     simp only [isNil,Bool.false_or,Bool.and_eq_true] at TZ
     obtain rfl:=p2 TZ.1 (by
      have:=TZ.2
      unfold noG at this
      split at this
      ·assumption
      ·cases this)
     exact ⟨CR,p1,fun h=>absurd h hi,fun _=>⟨o,ho,p3,DP⟩⟩
end
section
variable {P:Program} {E:Ev} {ops:List Oper} {K:Act->World->Prop}
def QY (E:Ev) (id:Nat) (l:List Oper):Bool:=match E.ms id with
 | some π=>Fm l π
 | none=>match E.al id with
  | none=>R6 l (E.ord id)
  | some ia=>match cutAt ia (E.ord id) with
   | some (x,y)=>My l ia x y
   | none=>false
def XT (P:Program) (E:Ev) (id:Nat) (ops:Array Oper) (draw:Bool):Prop:=draw=true->P.follows .mixedOrders=true∧QY E id ops.toList=true
def uf (P:Program) (ops:Array Oper) (N:Act->World->Prop) (a:Act) (w:World):Bool->Prop
 | false=>wpList P ops (Qn N) ops.toList a w
 | true=>P.follows .mixedOrders=true∧wpAny P .any ops (Qn N) ops.size (Array.replicate ops.size false) a { w with drawn:=w.drawn + 1 }
theorem WV {β:Type} {id:Nat} {vD:Array Oper} {draw:Bool} {st:St} {k:St->Option β} {r:β} {a:Act} {O:Own} {ρ:List Hd} {w:World} {N:Act->World->Prop} (hc:aN P E.c) (hct:bS P E) (b9:XT P E id vD draw)
  (e:rW E id vD.toList draw st k=some r) (hF:FS E.n a st O ρ) (hM:Gm O ρ st.tb w) (hG:GO E.c O)
  (hK:∀ ak a' w' O' ρ',k ak=some r->FS E.n a' ak O' ρ'->Gm O' ρ' ak.tb w'->GO E.c O'->aR (fun _=>True) O ρ w O' ρ' w'->N a' w'):uf P vD N a w draw:=by
 unfold rW at e
 split at e
 ·obtain ⟨CR,_,h⟩:=Co (P:=P) (K:=N) (O0:=O) (aG:=ρ) (w0:=w) hc hct (fun st a w O ρ h1 h2 h3 h4 h5=>hK st a w O ρ h1 h2 h3 h4 h5) _ (fun _=>True) [] st a O ρ w e hF hM hG (fun _ _ _ _=>trivial) (.refl _ _ _ _)
  exact QX _ _ a w h
 ·obtain ⟨hm,hok⟩:=b9 rfl
  have fK:=V0 w
  have iw:Gm O ρ st.tb { w with drawn:=w.drawn + 1 }:=by
   have:=(hM.step (M:=fun _=>False) (O':=O) (ρ':=ρ) (aL:=st.tb) (w':={ w with drawn:=w.drawn + 1 }) (fK.wide (fun _ h=>h.elim)) (fun _ _ _=>rfl) (fun b hb=>hM.lt b hb) (fun b all h=>.inl h) (.refl _) hM.len (fun j x hx=>.inl ⟨hx,fun h=>h⟩)).1
   exact this
  have F5:aR (fun _=>True) O ρ w O ρ { w with drawn:=w.drawn + 1 }:=⟨.refl _,.refl _,fun _ _ h=>h,fun _ _ _ h _=>h,fK.wide (fun _ h=>h.elim)⟩
  have QO:∀ st a w' O' ρ',k st=some r->FS E.n a st O' ρ'->Gm O' ρ' st.tb w'->GO E.c O'->aR (fun _=>True) O ρ { w with drawn:=w.drawn + 1 } O' ρ' w'->N a w':=fun st a w' O' ρ' h1 h2 h3 h4 h5=>hK st a w' O' ρ' h1 h2 h3 h4 (F5.trans h5)
  unfold QY at hok
  split at e
  ·rename_i π qe
   simp only [qe] at hok
   have Wb:=hok
   simp only [Fm,Bool.and_eq_true] at Wb
   obtain ⟨CR,_,h⟩:=XS (P:=P) (K:=N) (O0:=O) (aG:=ρ) (w0:={ w with drawn:=w.drawn + 1 }) hc hct QO _ [] π _ (fun _=>True) [] st a O ρ _ Wb.2 e hF iw hG (fun _ _ _ _=>trivial) (.refl _ _ _ _) ⟨fun _=>0,fun _=>none,fun _=>[],fun _=>0,fun _ h=>by (cases h),fun _ h=>by (cases h),fun _ h=>by (cases h)⟩
   have:=ahL (P:=P) (K:=N) π _ hok ⟨trivial,Kept.refl _ _⟩ h
   exact ⟨hm,by simpa using this⟩
  rename_i qe
  simp only [qe] at hok
  split at e<;>first | (cases e;done) | skip
  rename_i L hL
  split at e
  ·rename_i hal
   rw [hal] at hok
   obtain ⟨CR,_,h⟩:=Co (P:=P) (K:=N) (O0:=O) (aG:=ρ) (w0:={ w with drawn:=w.drawn + 1 }) hc hct QO L (fun _=>True) [] st a O ρ _ e hF iw hG (fun _ _ _ _=>trivial) (.refl _ _ _ _)
   have:=aiC (P:=P) (K:=N) (E.ord id) _ hok hL ⟨trivial,Kept.refl _ _⟩ h
   exact ⟨hm,by simpa using this⟩
  ·rename_i ia hal
   rw [hal] at hok
   split at e<;>first | (cases e;done) | skip
   rename_i nJ
   unfold early at nJ
   split at nJ<;>first | (cases nJ;done) | skip
   rename_i oa x y jW FO
   split at nJ<;>first | (cases nJ;done) | skip
   rename_i ta d Lx anV hLx
   split at nJ<;>first | (cases nJ;done) | skip
   rename_i va mW hgd
   simp only [Bool.and_eq_true] at nJ
   simp only [FO] at hok
   rw [V4 FO] at hL
   obtain ⟨Ly,hLy,rfl⟩:=ZW jW hLx hL
   obtain ⟨CR,_,h⟩:=YZ (P:=P) (K:=N) (O0:=O) (aG:=ρ) (w0:={ w with drawn:=w.drawn + 1 }) hc hct QO anV mW nJ.1 Lx (fun _=>True) [] st a O ρ _ e nJ.2 hF iw hG (fun _ _ _ _=>trivial) (.refl _ _ _ _) hgd
   have:=alr (P:=P) (K:=N) x y _ hok jW hLx hLy ⟨trivial,Kept.refl _ _⟩ h
   exact ⟨hm,by simpa using this⟩
theorem uf.wp {id:Nat} {ops:Array Oper} {N:Act->World->Prop} {X:Nat->Act->World->Prop} {Y:Act->World->Prop} {a:Act} {w:World}:∀ {draw:Bool},uf P ops N a w draw->(Code.region id ops draw).wp P (QL N X Y) a w
 | false,h=>by
  have:=aak (E:=X) (R:=Y) (wp_region_lit (id:=id) (l:=ops.toList) h)
  simpa using this
 | true,h=>aak (wp_region_any h.1 h.2)
theorem aqm {β:Type} {id:Nat} {vD:Array Oper} {draw:Bool} {st:St} {k:St->Option β} {r:β} {a:Act} {O:Own} {ρ:List Hd} {w:World} {N:Act->World->Prop} {X:Nat->Act->World->Prop} {Y:Act->World->Prop} (hc:aN P E.c) (hct:bS P E) (b9:XT P E id vD draw)
  (e:rW E id vD.toList draw st k=some r) (hF:FS E.n a st O ρ) (hM:Gm O ρ st.tb w) (hG:GO E.c O)
  (hK:∀ ak a' w' O' ρ',k ak=some r->FS E.n a' ak O' ρ'->Gm O' ρ' ak.tb w'->GO E.c O'->aR (fun _=>True) O ρ w O' ρ' w'->N a' w'):(Code.region id vD draw).wp P (QL N X Y) a w:=
 (WV hc hct b9 e hF hM hG hK).wp
end
end Go.Tw
namespace Go.Tw
structure Lc where
 s0:List Nat
 A:List Sh
 T:List aK
 s1:List Nat
 A1:List Sh
 T1:List aK
 s2:List Nat
 A2:List Sh
 T2:List aK
 rf:Bool:=false
 run:(β:Type)->au A->ax T->(au A1->ax T1->Option β)->(au A2->ax T2->Option β)->Option β
 nat:∀ (β:Type) x y k1 k2 (r:β),run β x y k1 k2=some r ->
  (∃ p q,run ((au A1×ax T1) ⊕ (au A2×ax T2)) x y (fun p q=>some (.inl (p,q))) (fun p q=>some (.inr (p,q)))=some (.inl (p,q))∧k1 p q=some r) ∨
  (∃ p q,run ((au A1×ax T1) ⊕ (au A2×ax T2)) x y (fun p q=>some (.inl (p,q))) (fun p q=>some (.inr (p,q)))=some (.inr (p,q))∧k2 p q=some r)
def kI:Nat->Nat->List Nat
 | _,0=>[]
 | j,m + 1=>j :: kI (j + 1) m
def b_ (m:Nat):List Nat:=kI 0 m
def BI (il:aE):List Nat->Option (List IV)
 | []=>some []
 | t :: ts=>match dn il t,BI il ts with
  | some (.tu _),_=>none
  | some v,some vs=>some (v :: vs)
  | _,_=>none
def jv:List Nat->List IV->aE
 | t :: ts,v :: vs=>(t,v) :: jv ts vs
 | _,_=>[]
def dN (sl:List Nat) (A:List Sh) (T:List aK) (x:au A) (y:ax T):St:=⟨jv sl (encs A x),eO T y,[]⟩
def nS {β:Type} (m:Nat) (sl:List Nat) (A:List Sh) (T:List aK) (st:St) (k:au A->ax T->Option β):Option β:=
 match BI st.env sl,st.df with
 | some vs,[]=>ru false A T (b_ m) vs st.tb fun x y _=>k x y
 | _,_=>none
def look:List (List Nat×Lc)->List Nat->Option Lc
 | [],_=>none
 | (q,L) :: r,p=>match qP q p with
  | true=>some L
  | false=>look r p
def Cg {β:Type} (m:Nat) (L:Lc) (st:St) (k:Exit->St->Option β):Option β:=
 match L.rf with
 | true=>none
 | false=>nS m L.s0 L.A L.T st fun x y=>L.run β x y (fun p q=>k .normal (dN L.s1 L.A1 L.T1 p q)) (fun p q=>k .ret (dN L.s2 L.A2 L.T2 p q))
def mark (st:St):St:=⟨st.env,st.tb ++ [.ob (.deferred (some []))],.pt st.tb.length [] :: st.df⟩
def Ww {β:Type} (m:Nat) (L:Lc) (st:St) (k:Exit->St->Option β):Option β:=
 match L.rf with
 | false=>none
 | true=>nS m L.s0 L.A L.T st fun x y=>L.run β x y (fun p q=>k .normal (mark (dN L.s1 L.A1 L.T1 p q))) (fun _ _=>none)
def uS (il:aE):List Nat->aE
 | []=>[]
 | t :: r=>match dn il t with
  | some v=>(t,v) :: uS il r
  | none=>uS il r
theorem FI.keep {n:Nat} {a:Act} {il:aE} {O:Own} {ρ:List Hd} (h:FI n a il O ρ):∀ ks:List Nat,FI n a (uS il ks) O ρ
 | []=>by
  obtain ⟨l,h1,_⟩:=h
  exact ⟨[],⟨h1.defers,h1.size,fun t v hv=>by simp [get?] at hv⟩,trivial⟩
 | d :: r=>by
  unfold uS
  split
  ·rename_i v hd
   obtain ⟨l,h1,h2⟩:=h
   obtain ⟨l',h5,h6⟩:=FI.keep ⟨l,h1,h2⟩ r
   obtain ⟨x,h3,h4⟩:=h2.get hd
   refine ⟨(d,x) :: l',⟨h5.defers,h5.size,fun t v hv=>?_⟩,rfl,h4,h6⟩
   simp only [get?] at hv
   cases hb:Nat.beq d t with
   | true=>rw [hb] at hv;cases hv;rw [← ay hb];exact h1.has d x h3
   | false=>rw [hb] at hv;exact h5.has t v hv
  ·exact FI.keep h r
def oZ {β:Type} (f:St->(Exit->St->Option β)->Option β) (ks:List Nat):Nat->St->(Exit->St->Option β)->Option β
 | 0,_,_=>none
 | n + 1,st,k=>f st fun e st=>match e with
  | .normal=>oZ f ks n ⟨uS st.env ks,st.tb,st.df⟩ k
  | e=>k e st
def cj {β:Type} (E:Ev) (m:Nat) (lp:List (List Nat×Lc)):Code->List Nat->St->(Exit->St->Option β)->Option β
 | .skip,_,st,k=>k .normal st
 | .exit j,_,st,k=>k (.exit j) st
 | .ret,_,st,k=>k .ret st
 | .seq a b,p,st,k=>match look lp p with
  | some L=>Cg m L st k
  | none=>cj E m lp a (0 :: p) st fun e st=>match e with
   | .normal=>cj E m lp b (1 :: p) st k
   | e=>k e st
 | .region id ops draw,_,st,k=>rW E id ops.toList draw st (k .normal)
 | .cond x a b,p,st,k=>match look lp p with
  | some L=>Cg m L st k
  | none=>match aC E.c st.env x with
   | some (.o (.b g))=>match g with
    | true=>cj E m lp a (0 :: p) st k
    | false=>cj E m lp b (1 :: p) st k
   | _=>none
 | .block id c,p,st,k=>match look lp p with
  | some L=>Cg m L st k
  | none=>cj E m lp c (0 :: p) st fun e st=>match e with
   | .exit j=>match Nat.beq j id with
    | true=>k .normal st
    | false=>k (.exit j) st
   | e=>k e st
 | .loop c,p,st,k=>oZ (cj E m lp c (0 :: p)) (st.env.map (·.1)) 4000 st k
 | .scope c,p,st,k=>cj E m lp c (0 :: p) st fun e st=>match e with
  | .goto _=>none
  | e=>k e st
 | .label _,_,st,k=>k .normal st
 | .rangeFunc _ _ _ _,p,st,k=>match look lp p with
  | some L=>Ww m L st k
  | none=>none
 | _,_,_,_=>none
def bh:Code->List Nat->Code
 | c,[]=>c
 | c,i :: p=>match bh c p,i with
  | .seq a _,0=>a
  | .seq _ b,_=>b
  | .cond _ a _,0=>a
  | .cond _ _ b,_=>b
  | .block _ c,_=>c
  | .loop c,_=>c
  | .scope c,_=>c
  | c,_=>c
def cA (E:Ev):Code->Bool
 | .region id ops draw=>match draw with
  | true=>QY E id ops.toList
  | false=>true
 | .seq a b=>cA E a && cA E b
 | .cond _ a b=>cA E a && cA E b
 | .block _ c=>cA E c
 | .loop c=>cA E c
 | .scope c=>cA E c
 | _=>true
section
variable {P:Program} {E:Ev}
def G (E:Ev) (O0:Own) (aG:List Hd) (w0:World) (st:St) (a:Act) (w:World):Prop:=
 ∃ O ρ,FS E.n a st O ρ∧Gm O ρ st.tb w∧GO E.c O∧aR (fun _=>True) O0 aG w0 O ρ w
def pL (P:Program) (E:Ev) (m:Nat) (L:Lc) (c:Code):Prop:=
 ∀ (O0:Own) (aG:List Hd) (w0:World),aG.length=m->∀ x y z,L.run ((au L.A1×ax L.T1) ⊕ (au L.A2×ax L.T2)) x y (fun p q=>some (.inl (p,q))) (fun p q=>some (.inr (p,q)))=some z->∀ a w,G E O0 aG w0 (dN L.s0 L.A L.T x y) a w ->
  c.wp P (QL (fun a w=>∃ p q,z=.inl (p,q)∧G E O0 aG w0 (dN L.s1 L.A1 L.T1 p q) a w) (fun _ _ _=>False) (fun a w=>∃ p q,z=.inr (p,q)∧G E O0 aG w0 (dN L.s2 L.A2 L.T2 p q) a w)) a w
def X6 (P:Program) (E:Ev) (m:Nat) (L:Lc) (c:Code):Prop:=
 ∀ (O0:Own) (aG:List Hd) (w0:World),aG.length=m->∀ x y p q,L.run ((au L.A1×ax L.T1) ⊕ (au L.A2×ax L.T2)) x y (fun p q=>some (.inl (p,q))) (fun p q=>some (.inr (p,q)))=some (.inl (p,q))->∀ a w,G E O0 aG w0 (dN L.s0 L.A L.T x y) a w ->
  c.wp P (QL (fun a w=>G E O0 aG w0 (mark (dN L.s1 L.A1 L.T1 p q)) a w) (fun _ _ _=>False) (fun _ _=>False)) a w
def GK (P:Program) (E:Ev) (m:Nat) (L:Lc) (c:Code):Bool->Prop
 | false=>pL P E m L c
 | true=>X6 P E m L c
def jO (P:Program) (E:Ev) (m:Nat) (root:Code):List (List Nat×Lc)->Prop
 | []=>True
 | (p,L) :: r=>GK P E m L (bh root p) L.rf∧jO P E m root r
theorem jO.get {m:Nat} {root:Code}:∀ {lp:List (List Nat×Lc)} {p:List Nat} {L:Lc},jO P E m root lp->look lp p=some L->GK P E m L (bh root p) L.rf
 | [],p,L,_,e=>by simp [look] at e
 | (q,M) :: r,p,L,h,e=>by
  simp only [look] at e
  split at e
  ·rename_i hq;cases e;have:=G8 hq;subst this;exact h.1
  ·exact jO.get h.2 e
theorem U_:∀ (m j i:Nat),i < m->(kI j m)[i]? = some (j + i)
 | 0,j,i,h=>by omega
 | m + 1,j,0,h=>by simp [kI]
 | m + 1,j,i + 1,h=>by
  simp only [kI,List.getElem?_cons_succ]
  rw [U_ m (j + 1) i (by omega)];congr 1;omega
theorem n_:∀ (m j:Nat),(kI j m).length=m
 | 0,j=>rfl
 | m + 1,j=>by simp [kI,n_ m]
theorem nH {m i:Nat} (h:i < m):(b_ m)[i]? = some i:=by rw [b_,U_ m 0 i h];simp
theorem aaZ {m i:Nat} (h:i ∈ b_ m):i < m:=by
 obtain ⟨j,hj⟩:=List.mem_iff_getElem?.1 h
 have hl:=(aM hj).1
 rw [b_,n_] at hl
 rw [nH hl] at hj;cases hj;exact hl
theorem Wk:∀ {m j i:Nat},i ∈ kI j m->j≤i
 | 0,j,i,h=>by simp [kI] at h
 | m + 1,j,i,h=>by
  simp only [kI,List.mem_cons] at h
  rcases h with h | h
  ·omega
  ·have:=Wk h;omega
theorem abP:∀ (m j:Nat),(kI j m).Nodup
 | 0,j=>by simp [kI]
 | m + 1,j=>by
  simp only [kI,List.nodup_cons]
  exact ⟨fun h=>by have:=Wk h;omega,abP m (j + 1)⟩
theorem aay (m:Nat):(b_ m).Nodup:=abP m 0
theorem Ug {n:Nat} {a:Act} {il:aE} {O:Own} {ρ:List Hd} (h:FI n a il O ρ):∀ {sl:List Nat} {vs:List IV},BI il sl=some vs->∃ cs,RL O ρ vs cs∧sl.length=vs.length∧∀ (i t:Nat) (x:Value),sl[i]? = some t->(aO vs cs)[i]? = some x->a.tmps[t]? = some x
 | [],vs,e=>by simp only [BI,az] at e;subst e;exact ⟨[],rfl,rfl,fun i t x h=>by simp at h⟩
 | t :: ts,vs,e=>by
  simp only [BI] at e
  split at e<;>first | (cases e;done) | skip
  rename_i v vs' hn ht hts
  cases e
  obtain ⟨cs,h1,h2,h3⟩:=Ug h hts
  obtain ⟨l,hl,hE⟩:=h
  obtain ⟨sv,f7,zl⟩:=hE.get ht
  have hy:∃ y,sv=.o y∧eB O ρ v y:=by
   cases v<;>first | exact zl | exact absurd rfl (hn _)
  obtain ⟨y,rfl,hS⟩:=hy
  obtain ⟨c0,h4,h5,h6,h7⟩:=hS.cells
  refine ⟨c0 :: cs,⟨c0,cs,rfl,h5,h1⟩,by simp [h2],fun i t' x hi hx=>?_⟩
  cases i with
  | zero=>
   simp at hi;subst hi
   simp [aO] at hx;subst hx
   have:a.tmps[t]? = _:=hl.has t _ f7
   rw [this]
   simp only [SV.val]
   cases hg:v.agg with
   | true=>rw [h6 hg];rfl
   | false=>rw [h7 hg];simp
  | succ i=>exact h3 i t' x (by simpa using hi) (by simpa [aO] using hx)
theorem FI.of {n:Nat} {a:Act} {O:Own} {ρ:List Hd} (hz:a.tmps.size=n):∀ {sl:List Nat} {vs:List IV} {cs:List (List Value)},RL O ρ vs cs->(∀ (i t:Nat) (x:Value),sl[i]? = some t->(aO vs cs)[i]? = some x->a.tmps[t]? = some x)->FI n a (jv sl vs) O ρ
 | [],vs,cs,_,_=>⟨[],⟨rfl,hz,fun t v h=>by simp [get?] at h⟩,by simp [jv,ER]⟩
 | _ :: _,[],cs,_,_=>⟨[],⟨rfl,hz,fun t v h=>by simp [get?] at h⟩,by simp [jv,ER]⟩
 | t :: sl,v :: vs,cs,h,hx=>by
  obtain ⟨c0,r,rfl,h1,h2⟩:=h
  obtain ⟨l,hl,hE⟩:=FI.of (sl:=sl) hz h2 (fun i t' x hi kX=>hx (i + 1) t' x (by simpa using hi) (by simpa [aO] using kX))
  obtain ⟨sv,f7,hval⟩:=xB (vs:=[v]) (ds:=[c0]) ⟨c0,[],rfl,h1,rfl⟩
  refine ⟨(t,sv) :: l,⟨rfl,hz,fun t' u hu=>?_⟩,rfl,f7,hE⟩
  simp only [get?] at hu
  cases hb:Nat.beq t t' with
  | true=>
   rw [hb] at hu;cases hu
   rw [← ay hb,hval]
   exact hx 0 t _ (by simp) (by simp [aO,lW])
  | false=>rw [hb] at hu;exact hl.has t' u hu
theorem m9 {β:Type} {m:Nat} {sl:List Nat} {A:List Sh} {T:List aK} {st:St} {k:au A->ax T->Option β} {r:β} {a:Act} {w w0:World} {O0:Own} {aG:List Hd} (hm:aG.length=m) (e:nS m sl A T st k=some r) (h:G E O0 aG w0 st a w) :
  ∃ x y,k x y=some r∧G E O0 aG w0 (dN sl A T x y) a w:=by
 obtain ⟨O,ρ,hF,hM,hG,hS⟩:=h
 unfold nS at e
 split at e<;>first | (cases e;done) | skip
 rename_i vs hvs hdf
 obtain ⟨cs,hR,hlen,ahw⟩:=Ug hF.1 hvs
 have hle:m≤st.tb.length:=by
  rw [← hM.len,← hm]
  rcases Nat.lt_or_ge ρ.length aG.length with h' | h'
  ·have h1:aG[ρ.length]? = some aG[ρ.length]:=by simp [h']
   have:=hS.pre _ _ h1
   simp at this
  ·exact h'
 obtain ⟨x,y,u',O',ρ',hk,U⟩:=Th e hM hR (aay m) (fun i hi=>Nat.lt_of_lt_of_le (aaZ hi) hle)
 obtain ⟨more,hbd⟩:=U.gh.bd
 have hb:∀ i,i < aG.length->u'.bd[i]? = some i:=fun i hi=>by
  rw [hm] at hi
  rw [hbd]
  show (b_ m ++ more)[i]? = some i
  rw [List.getElem?_append_left (by rw [b_,n_];exact hi)];exact nH hi
 have c_:=(hS.trans (U.gh.fH.bD (fun _ _=>trivial))).oc (lt:=u'.lt) hb
 obtain ⟨⟨l,hl,_⟩,hD⟩:=hF
 rw [hdf] at hD
 refine ⟨x,y,hk,_,_,?_,U.gm,hG.mono (U.gh.fH.im.trans (Hv _ _ _ _)),c_⟩
 refine ⟨?_,hD⟩
 exact FI.of hl.size U.rl (fun i t v hi hv=>ahw i t v hi (by rw [← C9 U.sz];exact hv))
theorem ab4 {root:Code} {p:List Nat} {a b:Code} (h:bh root p=.seq a b):bh root (0 :: p)=a:=by simp [bh,h]
theorem acf {root:Code} {p:List Nat} {a b:Code} (h:bh root p=.seq a b):bh root (1 :: p)=b:=by simp [bh,h]
theorem aqq {root:Code} {p:List Nat} {x:Operand} {a b:Code} (h:bh root p=.cond x a b):bh root (0 :: p)=a:=by simp [bh,h]
theorem afw {root:Code} {p:List Nat} {x:Operand} {a b:Code} (h:bh root p=.cond x a b):bh root (1 :: p)=b:=by simp [bh,h]
theorem ai3 {root:Code} {p:List Nat} {a:Code} (h:bh root p=.scope a):bh root (0 :: p)=a:=by simp [bh,h]
theorem XJ {root:Code} {p:List Nat} {a:Code} (h:bh root p=.loop a):bh root (0 :: p)=a:=by simp [bh,h]
theorem aau {root:Code} {p:List Nat} {id:Nat} {a:Code} (h:bh root p=.block id a):bh root (0 :: p)=a:=by simp [bh,h]
theorem sN {β:Type} {m:Nat} {lp:List (List Nat×Lc)} {root:Code} {O0:Own} {aG:List Hd} {w0:World} {r:β} (hc:aN P E.c) (hct:bS P E) (dF:P.follows .mixedOrders=true) (hm:aG.length=m) (fT:jO P E m root lp) :
  ∀ (c:Code) (p:List Nat) (st:St) (k:Exit->St->Option β) (N:Act->World->Prop) (X:Nat->Act->World->Prop) (Y:Act->World->Prop) (a:Act) (w:World),bh root p=c->cA E c=true->cj E m lp c p st k=some r->G E O0 aG w0 st a w ->
   (∀ e ak a' w',k e ak=some r->G E O0 aG w0 ak a' w'->QL N X Y e a' w')->c.wp P (QL N X Y) a w:=by
 have fr:∀ {L:Lc} {c:Code} {st:St} {k:Exit->St->Option β} {N:Act->World->Prop} {X:Nat->Act->World->Prop} {Y:Act->World->Prop} {a:Act} {w:World},GK P E m L c L.rf->Cg m L st k=some r->G E O0 aG w0 st a w ->
   (∀ e ak a' w',k e ak=some r->G E O0 aG w0 ak a' w'->QL N X Y e a' w')->c.wp P (QL N X Y) a w:=by
  intro L c st k N X Y a w hL e hG hK
  unfold Cg at e
  split at e<;>first | (cases e;done) | skip
  rename_i Rz
  rw [Rz] at hL
  have hL:pL P E m L c:=hL
  obtain ⟨x,y,hk,hJ⟩:=m9 hm e hG
  rcases L.nat _ x y _ _ r hk with ⟨p,q,h1,h2⟩ | ⟨p,q,h1,h2⟩
  ·refine v5 (hL O0 aG w0 hm x y _ h1 a w hJ) (fun a w h=>?_) (fun _ _ _ h=>h.elim) (fun a w h=>?_)
   ·obtain ⟨p',q',e',h⟩:=h;cases e';exact hK .normal _ _ _ h2 h
   ·obtain ⟨p',q',e',h⟩:=h;cases e'
  ·refine v5 (hL O0 aG w0 hm x y _ h1 a w hJ) (fun a w h=>?_) (fun _ _ _ h=>h.elim) (fun a w h=>?_)
   ·obtain ⟨p',q',e',h⟩:=h;cases e'
   ·obtain ⟨p',q',e',h⟩:=h;cases e';exact hK .ret _ _ _ h2 h
 intro c
 induction c with
 | skip=>intro p st k N X Y a w hp ho e hG hK;exact X1 (hK .normal st a w e hG)
 | exit j=>intro p st k N X Y a w hp ho e hG hK;exact afP (hK (.exit j) st a w e hG)
 | ret=>intro p st k N X Y a w hp ho e hG hK;exact aao (hK .ret st a w e hG)
 | seq x y sZ mS=>
  intro p st k N X Y a w hp ho e hG hK
  simp only [cA,Bool.and_eq_true] at ho
  simp only [cj] at e
  split at e
  ·rename_i L hL
   have:=fT.get hL
   rw [hp] at this
   exact fr this e hG hK
  refine TD (sZ (0 :: p) st _ _ X Y a w (ab4 hp) ho.1 e hG (fun e ak a' w' h1 h2=>?_))
  cases e with
  | normal=>exact mS (1 :: p) ak k N X Y a' w' (acf hp) ho.2 h1 h2 hK
  | exit j=>exact hK (.exit j) ak a' w' h1 h2
  | ret=>exact hK .ret ak a' w' h1 h2
  | goto j=>exact (hK (.goto j) ak a' w' h1 h2:False).elim
  | panic ch=>exact (hK (.panic ch) ak a' w' h1 h2:False).elim
  | outgrown=>exact (hK .outgrown ak a' w' h1 h2:False).elim
 | region id ops draw=>
  intro p st k N X Y a w hp ho e hG hK
  obtain ⟨O,ρ,hF,hM,jn,hS⟩:=hG
  refine aqm hc hct (fun hd=>?_) e hF hM jn (fun ak a' w' O' ρ' h1 h2 h3 h4 h5=>hK .normal ak a' w' h1 ⟨O',ρ',h2,h3,h4,hS.trans h5⟩)
  subst hd
  exact ⟨dF,ho⟩
 | cond x y z mS SQ=>
  intro p st k N X Y a w hp ho e hG hK
  simp only [cA,Bool.and_eq_true] at ho
  simp only [cj] at e
  split at e
  ·rename_i L hL
   have:=fT.get hL
   rw [hp] at this
   exact fr this e hG hK
  ·split at e<;>first | (cases e;done) | skip
   rename_i g hx
   obtain ⟨O,ρ,⟨⟨l,hl,c9⟩,hD⟩,hM,jn,hS⟩:=hG
   have jw:a.eval x=_:=aW hl (b8 c9 jn hx).1
   refine wp_cond_split (t:=g) jw (fun hg=>?_) (fun hg=>?_)
   ·subst hg;exact mS (0 :: p) st k N X Y a w (aqq hp) ho.1 e ⟨O,ρ,⟨⟨l,hl,c9⟩,hD⟩,hM,jn,hS⟩ hK
   ·subst hg;exact SQ (1 :: p) st k N X Y a w (afw hp) ho.2 e ⟨O,ρ,⟨⟨l,hl,c9⟩,hD⟩,hM,jn,hS⟩ hK
 | block id b ih=>
  intro p st k N X Y a w hp ho e hG hK
  simp only [cA] at ho
  simp only [cj] at e
  split at e
  ·rename_i L hL
   have:=fT.get hL
   rw [hp] at this
   exact fr this e hG hK
  ·refine Ps (ih (0 :: p) st _ _ _ Y a w (aau hp) ho e hG (fun e ak a' w' h1 h2=>?_))
   cases e with
   | normal=>exact hK .normal ak a' w' h1 h2
   | exit j=>
    simp only at h1
    show if j=id then N a' w' else X j a' w'
    split at h1
    ·rename_i hj;rw [if_pos (ay hj)];exact hK .normal ak a' w' h1 h2
    ·rename_i hj;rw [if_neg (Nat.ne_of_beq_eq_false hj)];exact hK (.exit j) ak a' w' h1 h2
   | ret=>exact hK .ret ak a' w' h1 h2
   | goto j=>exact (hK (.goto j) ak a' w' h1 h2:False).elim
   | panic ch=>exact (hK (.panic ch) ak a' w' h1 h2:False).elim
   | outgrown=>exact (hK .outgrown ak a' w' h1 h2:False).elim
 | loop b ih=>
  intro p st k N X Y a w hp ho e hG hK
  simp only [cA] at ho
  simp only [cj] at e
  generalize st.env.map (·.1)=ks at e
  refine UW (fun n a w=>∃ st,oZ (cj E m lp b (0 :: p)) ks n st k=some r∧G E O0 aG w0 st a w) ?_ ?_ 4000 a w ⟨st,e,hG⟩
  ·rintro a w ⟨st,e,_⟩;simp [oZ] at e
  ·rintro n a w ⟨st,e,hG⟩
   simp only [oZ] at e
   refine ih (0 :: p) st _ _ X Y a w (XJ hp) ho e hG (fun e ak a' w' h1 h2=>?_)
   cases e with
   | normal=>
    obtain ⟨O1,bQ,⟨f1,f2⟩,f3⟩:=h2
    exact ⟨⟨uS ak.env ks,ak.tb,ak.df⟩,h1,O1,bQ,⟨f1.keep ks,f2⟩,f3⟩
   | exit j=>exact hK (.exit j) ak a' w' h1 h2
   | ret=>exact hK .ret ak a' w' h1 h2
   | goto j=>exact (hK (.goto j) ak a' w' h1 h2:False).elim
   | panic ch=>exact (hK (.panic ch) ak a' w' h1 h2:False).elim
   | outgrown=>exact (hK .outgrown ak a' w' h1 h2:False).elim
 | rangeFunc g ps as b bF bK=>
  intro p st k N X Y a w hp ho e hG hK
  simp only [cj] at e
  split at e<;>first | (cases e;done) | skip
  rename_i L hL
  have Ab:=fT.get hL
  rw [hp] at Ab
  unfold Ww at e
  split at e<;>first | (cases e;done) | skip
  rename_i Rz
  rw [Rz] at Ab
  have Ab:X6 P E m L (.rangeFunc g ps as b):=Ab
  obtain ⟨x,y,hk,hJ⟩:=m9 hm e hG
  rcases L.nat _ x y _ _ r hk with ⟨p',q',h1,h2⟩ | ⟨p',q',h1,h2⟩
  ·exact v5 (Ab O0 aG w0 hm x y p' q' h1 a w hJ) (fun a w h=>hK .normal _ _ _ h2 h) (fun _ _ _ h=>h.elim) (fun _ _ h=>h.elim)
  ·cases h2
 | label l=>intro p st k N X Y a w hp ho e hG hK;exact wp_label (hK .normal st a w e hG)
 | scope x ih=>
  intro p st k N X Y a w hp ho e hG hK
  simp only [cA] at ho
  simp only [cj] at e
  refine wp_scope_straight (wp_mono (ih (0 :: p) st _ N X Y a w (ai3 hp) ho e hG (fun e ak a' w' h1 h2=>?_)) fun e a w q=>?_)
  ·cases e with
   | goto j=>cases h1
   | _=>exact hK _ ak a' w' h1 h2
  ·cases e<;>first | exact q | exact q.elim
 | _=>intro p st k N X Y a w hp ho e hG hK;simp [cj] at e
abbrev Full (A:List Sh) (T:List aK) (A1:List Sh) (T1:List aK) (A2:List Sh) (T2:List aK):Type:=(au A×ax T) ⊕ ((au A1×ax T1) ⊕ (au A2×ax T2))
def wQ {β:Type} (m:Nat) (s0:List Nat) (A:List Sh) (T:List aK) (s1:List Nat) (A1:List Sh) (T1:List aK) (s2:List Nat) (A2:List Sh) (T2:List aK) (id:Nat) (again:au A->ax T->Option β) (out:au A1->ax T1->Option β) (ret:au A2->ax T2->Option β):Exit->St->Option β:=fun e st=>match e with
 | .normal=>nS m s0 A T st again
 | .exit j=>match Nat.beq j id with
  | true=>nS m s1 A1 T1 st out
  | false=>none
 | .ret=>nS m s2 A2 T2 st ret
 | _=>none
theorem WR {σ fj fi:Type} {m:Nat} {lp:List (List Nat×Lc)} {root b:Code} {p:List Nat} {id:Nat} (s0:List Nat) (A:List Sh) (T:List aK) (s1:List Nat) (A1:List Sh) (T1:List aK) (s2:List Nat) (A2:List Sh) (T2:List aK) (hc:aN P E.c) (hct:bS P E) (dF:P.follows .mixedOrders=true) (fT:jO P E m root lp) (hp:bh root p=b) (ho:cA E b=true)
  (f:σ->Option (σ ⊕ (fj ⊕ fi))) (eA:σ->au A) (eT:σ->ax T) (e1:fj->au A1×ax T1) (e2:fi->au A2×ax T2)
  (hb:∀ s r,f s=some r->cj E m lp b p (dN s0 A T (eA s) (eT s)) (wQ (β:=Full A T A1 T1 A2 T2) m s0 A T s1 A1 T1 s2 A2 T2 id (fun x y=>some (.inl (x,y))) (fun x y=>some (.inr (.inl (x,y)))) (fun x y=>some (.inr (.inr (x,y))))) =
   some (match r with | .inl s=>.inl (eA s,eT s) | .inr (.inl z)=>.inr (.inl (e1 z)) | .inr (.inr z)=>.inr (.inr (e2 z))))
  {O0:Own} {aG:List Hd} {w0:World} (hm:aG.length=m) {fuel:Nat} {i0:σ} {z:fj ⊕ fi} (hz:iter f fuel i0=some z) {a:Act} {w:World} (hG:G E O0 aG w0 (dN s0 A T (eA i0) (eT i0)) a w) :
  (Code.block id (.loop b)).wp P (QL (fun a w=>∃ t,z=.inl t∧G E O0 aG w0 (dN s1 A1 T1 (e1 t).1 (e1 t).2) a w) (fun _ _ _=>False) (fun a w=>∃ t,z=.inr t∧G E O0 aG w0 (dN s2 A2 T2 (e2 t).1 (e2 t).2) a w)) a w:=by
 refine Ps (apt f (fun s a w=>G E O0 aG w0 (dN s0 A T (eA s) (eT s)) a w)
  (fun z e a w=>match z with
   | .inl t=>e=.exit id∧G E O0 aG w0 (dN s1 A1 T1 (e1 t).1 (e1 t).2) a w
   | .inr t=>e=.ret∧G E O0 aG w0 (dN s2 A2 T2 (e2 t).1 (e2 t).2) a w) ?_ (x:=z) ?_ ?_ fuel i0 a w hG hz)
 ·intro s a w hG r hr
  refine sN hc hct dF hm fT b p _ _ _ _ _ a w hp ho (hb s r hr) hG (fun e ak a' w' h1 h2=>?_)
  cases e with
  | normal=>
   obtain ⟨x,y,h3,h4⟩:=m9 hm h1 h2
   simp only [az] at h3
   show ∃ s',r=.inl s'∧_
   cases r with
   | inl s'=>simp only [Sum.inl.injEq,Prod.mk.injEq] at h3;obtain ⟨rfl,rfl⟩:=h3;exact ⟨s',rfl,h4⟩
   | inr t=>cases t<;>cases h3
  | exit j=>
   simp only [wQ] at h1
   split at h1
   ·rename_i hj
    have:=ay hj
    subst this
    obtain ⟨x,y,h3,h4⟩:=m9 hm h1 h2
    simp only [az] at h3
    show ∃ x,r=.inr x∧_
    cases r with
    | inl s'=>cases h3
    | inr t=>
     cases t with
     | inl t=>simp only [Sum.inr.injEq,Sum.inl.injEq] at h3;refine ⟨.inl t,rfl,rfl,?_⟩;rw [← h3];exact h4
     | inr t=>cases h3
   ·cases h1
  | ret=>
   obtain ⟨x,y,h3,h4⟩:=m9 hm h1 h2
   simp only [az] at h3
   show ∃ x,r=.inr x∧_
   cases r with
   | inl s'=>cases h3
   | inr t=>
    cases t with
    | inl t=>cases h3
    | inr t=>simp only [Sum.inr.injEq] at h3;refine ⟨.inr t,rfl,rfl,?_⟩;rw [← h3];exact h4
  | goto j=>cases h1
  | panic ch=>cases h1
  | outgrown=>cases h1
 ·intro k a w h
  cases z with
  | inl t=>obtain ⟨as9,h⟩:=h;cases as9;show if id=id then _ else _;rw [if_pos rfl];exact ⟨t,rfl,h⟩
  | inr t=>obtain ⟨h,_⟩:=h;cases h
 ·intro a w h
  cases z with
  | inl t=>obtain ⟨h,_⟩:=h;cases h
  | inr t=>exact ⟨t,rfl,h.2⟩
def iR (c:aF) (il:aE) (tb:aj):List ResultVar->Option (List IV)
 | []=>some []
 | .tmp t :: r=>match dn il t,iR c il tb r with
  | some (.tu _),_=>none
  | some v,some vs=>some (v :: vs)
  | _,_=>none
 | .cell t ty :: r=>match dn il t,iR c il tb r with
  | some (.pt id []),some vs=>match nth tb id with
   | some (.blk _ v)=>match fits c ty v with
    | true=>some (v :: vs)
    | false=>none
   | _=>none
  | _,_=>none
def kZ {β:Type} (E:Ev) (k:aj->Option β):List IV->aj->Option β
 | [],tb=>k tb
 | .fn f a cc :: r,tb=>match ni a,ni cc with
  | some l1,some l3=>match rF (l1 ++ l3) tb (E.cd f) with
   | some ct=>HE ct (l1 ++ l3) tb fun _ tb _=>kZ E k r tb
   | none=>none
  | _,_=>none
 | _,_=>none
def tX {β:Type} (E:Ev) (m:Nat) (rs:List ResultVar) (B:List Sh) (U:List aK) (k:au B->ax U->Option β):Exit->St->Option β:=fun e st=>match e with
 | .normal=>kZ E (fun tb=>match iR E.c st.env tb rs with
  | some vs=>ru false B U (b_ m) vs tb fun x y _=>k x y
  | none=>none) st.df st.tb
 | .ret=>kZ E (fun tb=>match iR E.c st.env tb rs with
  | some vs=>ru false B U (b_ m) vs tb fun x y _=>k x y
  | none=>none) st.df st.tb
 | _=>none
def tK (tmps:Array Value):ResultVar->Sem Value
 | .tmp t=>pure (tmps.getD t undef)
 | .cell a t=>do loadVar t (← asAddr (tmps.getD a undef))
theorem akL {c:aF} (hc:aN P c) {O:Own} {ρ:List Hd} {t:Nat} {ad:Addr} {u:IV} {us:List Value} {w:World} (hf:fits c t u=true) (hR:R O ρ false u us) (hcell:∀ j y,us[j]? = some y->w.cell? (ad.add j)=some y) :
  (loadVar t ad).run P w=.ok (bif u.agg then .agg us.toArray else us.headD (.bool false)) w:=by
 unfold fits at hf
 split at hf<;>first | (cases hf;done) | skip
 rename_i d hd
 have hl:=R.length hR
 split at hf<;>first | (cases hf;done) | skip
 ·rename_i hg hu
  split at hf<;>first | (cases hf;done) | skip
  rename_i z hz
  have kf:=ay hf
  have Ea:(loadCells ad us.length).run P w=.ok us.toArray w:=run_loadCells_list (P:=P) w ad us hcell
  rw [hl,← kf] at Ea
  simp [loadVar,mj (hc.tok.desc _ _ hd),hg,hc.tok.size _ _ hz,Ea,hu]
 ·rename_i hg hu
  have h1:u.sz.size=1:=by cases u<;>simp [IV.agg] at hu<;>rfl
  rw [h1] at hl
  obtain ⟨y,rfl⟩:=List.length_eq_one_iff.1 hl
  have:=hcell 0 y rfl
  have e0:ad.add 0=ad:=by unfold Addr.add;simp
  rw [e0] at this
  simp [loadVar,mj (hc.tok.desc _ _ hd),hg,this,hu]
def Be (P:Program) (w:World):List (Sem Value)->List Value->Prop
 | [],xs=>xs=[]
 | f :: fs,xs=>∃ x r,xs=x :: r∧f.run P w=.ok x w∧Be P w fs r
theorem WX {α:Type} {w:World} (f:α->Sem Value):∀ {l:List α} {xs:List Value},Be P w (l.map f) xs->(l.mapM f).run P w=.ok xs w
 | [],xs,h=>by simp only [List.map_nil,Be] at h;subst h;rfl
 | a :: l,xs,h=>by
  obtain ⟨x,r,rfl,h1,h2⟩:=h
  simp only [List.mapM_cons,Sem.run_bind,h1,WX f h2,Result.andThen_ok]
  rfl
theorem vl {c:aF} {n:Nat} {a:Act} {il:aE} {tb:aj} {O:Own} {ρ:List Hd} {w:World} (hc:aN P c) (h:FI n a il O ρ) (hM:Gm O ρ tb w):∀ {rs:List ResultVar} {vs:List IV},iR c il tb rs=some vs->∃ cs,RL O ρ vs cs∧Be P w (rs.map (tK a.tmps)) (aO vs cs)
 | [],vs,e=>by simp only [iR,az] at e;subst e;exact ⟨[],rfl,rfl⟩
 | .tmp t :: r,vs,e=>by
  simp only [iR] at e
  split at e<;>first | (cases e;done) | skip
  rename_i v vs' hn ht hts
  cases e
  obtain ⟨cs,h1,h2⟩:=vl hc h hM hts
  obtain ⟨l,hl,hE⟩:=h
  obtain ⟨sv,f7,zl⟩:=hE.get ht
  have hy:∃ y,sv=.o y∧eB O ρ v y:=by
   cases v<;>first | exact zl | exact absurd rfl (hn _)
  obtain ⟨y,rfl,hS⟩:=hy
  obtain ⟨c0,h4,h5,h6,h7⟩:=hS.cells
  refine ⟨c0 :: cs,⟨c0,cs,rfl,h5,h1⟩,_,_,rfl,?_,h2⟩
  have:a.tmps[t]? = _:=hl.has t _ f7
  simp only [tK,Sem.run_pure,Array.getD_eq_getD_getElem?,this,Option.getD_some,SV.val]
  cases hg:v.agg with
  | true=>rw [h6 hg];rfl
  | false=>rw [h7 hg];simp
 | .cell t ty :: r,vs,e=>by
  simp only [iR] at e
  split at e<;>first | (cases e;done) | skip
  rename_i id vs' ht hts
  split at e<;>first | (cases e;done) | skip
  rename_i bt v hb
  split at e<;>first | (cases e;done) | skip
  rename_i hf
  cases e
  obtain ⟨cs,h1,h2⟩:=vl hc h hM hts
  obtain ⟨l,hl,hE⟩:=h
  obtain ⟨sv,f7,y,rfl,u,rfl,hd,off,h3,h4,h5⟩:=hE.get ht
  cases h5
  rw [aS] at hb
  obtain ⟨oH,c0,h6,h7,h8,h9,h10⟩:=hM.th _ _ hb
  rw [h3] at h6;cases h6
  have hoff:off=0:=by
   have:hd.z.off []=some 0:=by cases hd.z<;>rfl
   rw [this] at h4;cases h4;rfl
  subst hoff
  refine ⟨c0 :: cs,⟨c0,cs,rfl,h9,h1⟩,_,_,rfl,?_,h2⟩
  have:a.tmps[t]? = _:=hl.has t _ f7
  have hrun:=akL (P:=P) (w:=w) (ad:=⟨hd.b,0,none⟩) hc hf h9 (fun j z hj=>by rw [add_zero _ rfl,Nat.zero_add,h10.cell];exact hj)
  simp only [tK,Array.getD_eq_getD_getElem?,this,Option.getD_some,SV.val,S0.val,asAddr,Sem.run_bind,Sem.run_pure,Result.andThen_ok]
  exact hrun
def Iz:List Value->Value
 | [x]=>x
 | l=>.tuple l.toArray
theorem ye {fn:Func} {a:Act} {w:World} {xs:List Value} (h:Be P w (fn.results.toList.map (tK a.tmps)) xs):(results fn a.tmps).run P w=.ok (Iz xs) w:=by
 have hm:(fn.results.mapM (tK a.tmps)).run P w=.ok xs.toArray w:=by
  have:=WX (P:=P) (w:=w) (tK a.tmps) h
  rw [Array.mapM_eq_mapM_toList]
  simp [this]
 have hres:results fn a.tmps=(do
   let vs ← fn.results.mapM (tK a.tmps)
   pure (if h:vs.size=1 then vs[0] else .tuple vs)):=by
  unfold results;congr 1;first | done | (congr 1;funext rv;cases rv<;>rfl)
 rw [hres]
 simp only [Sem.run_bind,hm,Result.andThen_ok,Sem.run_pure]
 match xs,hm with
 | [],_=>rfl
 | [x],_=>rfl
 | x :: y :: r,_=>simp [Iz]
theorem Pre.tk (m:Nat) (ρ:List Hd):Pre (ρ.take m) ρ:=fun i h e=>by
 rw [List.getElem?_take] at e
 split at e
 ·exact ⟨[],by rw [h.uM];exact e⟩
 ·cases e
theorem Gg {β:Type} {fn:Func} {tmps:Array Value} {Q:Value->World->Prop} {k:aj->Option β} {r:β} (hct:bS P E) {O0:Own} {aG:List Hd} {w0:World}
  (hK:∀ tb w O ρ,k tb=some r->Gm O ρ tb w->GO E.c O->aR (fun _=>True) O0 aG w0 O ρ w->∃ v,(results fn tmps).run P w=.ok v w∧Q v w):∀ (df:List IV) (ds:List Deferred) (tb:aj) (w:World) (O:Own) (ρ:List Hd),kZ E k df tb=some r->DR O ρ df ds->Gm O ρ tb w->GO E.c O->aR (fun _=>True) O0 aG w0 O ρ w->Leaves P fn tmps (eJ Q) ds .returning w
 | [],ds,tb,w,O,ρ,e,hD,hM,hG,hS=>by
  simp only [DR] at hD
  subst hD
  obtain ⟨v,h1,h2⟩:=hK tb w O ρ e hM hG hS
  exact ⟨v,h1,h2⟩
 | v :: df,ds,tb,w,O,ρ,e,hD,hM,hG,hS=>by
  rcases hD with ⟨fv,first,cap,r',rfl,hR,hD⟩ | ⟨id,h,r',rfl,_⟩
  rotate_left
  ·simp [kZ] at e
  cases v<;>simp only [kZ] at e<;>first | (cases e;done) | skip
  rename_i f av cv
  split at e<;>first | (cases e;done) | skip
  rename_i l1 l3 h1 h3
  split at e<;>first | (cases e;done) | skip
  rename_i ct hp
  obtain ⟨hSd,fn',hf,hb,hnm⟩:=hct.2.1 f ct (NL hp)
  obtain ⟨xs,ys,hcs,hxs,hys⟩:=hR
  simp only [List.cons.injEq,and_true,Value.func.injEq] at hcs
  obtain ⟨rfl,rfl,rfl⟩:=hcs
  obtain ⟨c1,r1,rfl⟩:=CV h1 hxs
  obtain ⟨c3,r3,rfl⟩:=CV h3 hys
  obtain ⟨O_,Pg⟩:=RL.append r1 r3
  obtain ⟨v,aL,mu,hk,i7⟩:=Vi hSd e hG hM O_
  rw [Pg] at i7
  have i7:CallsD P f _ .returning w _:=i7
  have Ru:¬ fn'.name = "runtime.NumGoroutine" := by simpa using hnm
  have hb':¬ fn'.body=none:=by intro e;simp [e] at hb
  refine leaves_cons (by simp) (f:=f) (args:=((aO l1 c1) ++ (aO l3 c3)).toArray) (by simp [invoke,callFunc,hf,Ru,hb']) (i7.mono fun en u w' he=>?_)
  obtain ⟨hu,he⟩:=he
  subst hu
  cases en with
  | returned z=>
   obtain ⟨O',ρ',sv,g1,g2,g3,g4⟩:=he
   exact Gg hct hK df r' aL w' O' ρ' hk (hD.mono g4.im g4.pre) g3 (hG.mono g4.im) (hS.trans (g4.bD (fun _ _=>trivial)))
  | panicked _=>exact he.elim
  | outgrown=>exact he.elim
theorem atu (d:Bool) {f:FuncId} {fn:Func} {code:Code} {ct:Ct} {lp:List (List Nat×Lc)} (hf:P.funcs[f]? = some fn) (hb:fn.body=some code) (hn:fn.ntmps=E.n) (hl:Nat.ble ct.A.length E.n=true) (qE:Nat.ble ct.m ct.T.length=true) (hc:aN P E.c) (hct:bS P E) (dF:P.follows .mixedOrders=true) (fT:jO P E ct.m code lp) (ho:cA E code=true) (hcd:d=true->∀ f,E.cd f=[])
  (h:∀ x y p q,ct.run _ x y (fun p q=>some (p,q))=some (p,q)->cj E ct.m lp code [] (dN (b_ ct.A.length) ct.A ct.T x y) (tX E ct.m fn.results.toList ct.B ct.U fun p q=>some (p,q))=some (p,q)):lN P E.c d f ct:=by
 intro x y p q hrun O ρ w cs hG hM hR
 have qE:ct.m≤ct.T.length:=by simpa using qE
 have hm:(ρ.take ct.m).length=ct.m:=by rw [List.length_take,hM.len,s_];omega
 have hvl:∀ {vs:List IV} {cs:List (List Value)},RL O ρ vs cs->(aO vs cs).length=vs.length:=by
  intro vs
  induction vs with
  | nil=>intro cs h;simp [aO]
  | cons v vs ih=>intro cs h;obtain ⟨c0,r,rfl,h1,h2⟩:=h;simp [aO,ih h2]
 have hlen:(aO (encs ct.A x) cs).length=ct.A.length:=by rw [hvl hR,ZI]
 have hl':ct.A.length≤E.n:=by simpa using hl
 let Q:Value->World->Prop:=fun v w'=>∃ O' ρ' ds,Gm O' ρ' (eO ct.U q) w'∧aR (fun _=>True) O (ρ.take ct.m) w O' ρ' w'∧RL O' ρ' (encs ct.B p) ds∧v=lW (encs ct.B p) ds
 have pV:G E O (ρ.take ct.m) w (dN (b_ ct.A.length) ct.A ct.T x y) { tmps:=(aO (encs ct.A x) cs).toArray ++ Array.replicate (fn.ntmps - (aO (encs ct.A x) cs).toArray.size) undef,defers:=[] } w:=by
  rw [hn]
  refine ⟨O,ρ,⟨FI.of (by simp [hlen];omega) hR (fun i t v hi hv=>?_),rfl⟩,hM,hG,⟨Pre.tk _ _,fun _ _ h=>h,fun _ _ h=>h,fun _ _ _ h _=>h,Kept.refl _ _⟩⟩
  have hi':=(aM hi).1
  rw [b_,n_] at hi'
  rw [nH hi'] at hi;cases hi
  rw [Array.getElem?_append_left (by simp [hlen,hi'])]
  simpa using hv
 have leaf:∀ {ak:St} {a':Act} {w':World},(kZ E (fun tb=>match iR E.c ak.env tb fn.results.toList with
   | some vs=>ru false ct.B ct.U (b_ ct.m) vs tb fun x y _=>some (x,y)
   | none=>none) ak.df ak.tb)=some (p,q)->G E O (ρ.take ct.m) w ak a' w'->Leaves P fn a'.tmps (eJ Q) a'.defers .returning w'∧(d=true->a'.defers=[]):=by
  intro ak a' w' h1 h2
  obtain ⟨O1,bQ,jA,fD,dX,gR⟩:=h2
  refine ⟨Gg hct (O0:=O1) (aG:=bQ) (w0:=w') ?_ ak.df a'.defers ak.tb w' O1 bQ h1 jA.2 fD dX (.refl _ _ _ _),fun hd=>?_⟩
  ·intro tb w2 O2 br hu fm ei c_
   have kz:=jA.1.mono c_.im c_.pre
   have gR:aR (fun _=>True) O (ρ.take ct.m) w O2 br w2:=gR.trans c_
   split at hu<;>first | (cases hu;done) | skip
   rename_i vs hvs
   obtain ⟨ds,ji,hrl⟩:=vl (P:=P) hc kz fm hvs
   have hle:ct.m≤tb.length:=by
    rw [← fm.len,← hm]
    rcases Nat.lt_or_ge br.length (ρ.take ct.m).length with h' | h'
    ·have h1:(ρ.take ct.m)[br.length]? = some (ρ.take ct.m)[br.length]:=List.getElem?_eq_getElem h'
     have:=gR.pre _ _ h1
     simp at this
    ·exact h'
   obtain ⟨p',q',u',O',ρ',hk,U⟩:=Th hu fm ji (aay _) (fun i hi=>Nat.lt_of_lt_of_le (aaZ hi) hle)
   cases hk
   obtain ⟨more,hbd⟩:=U.gh.bd
   have hb':∀ i,i < (ρ.take ct.m).length->u'.bd[i]? = some i:=fun i hi=>by
    rw [hm] at hi
    rw [hbd]
    show (b_ ct.m ++ more)[i]? = some i
    rw [List.getElem?_append_left (by rw [b_,n_];exact hi)];exact nH hi
   have c_:=(gR.trans (U.gh.fH.bD (fun _ _=>trivial))).oc (lt:=u'.lt) hb'
   refine ⟨_,ye hrl,_,_,ds,U.gm,c_,U.rl,?_⟩
   show Iz (aO vs ds)=Iz (aO (encs ct.B p) ds)
   rw [C9 U.sz]
  ·have hD:=jA.2
   cases hdf:ak.df with
   | nil=>rw [hdf] at hD;exact hD
   | cons v r=>
    rw [hdf] at h1
    exfalso
    cases v<;>simp only [kZ] at h1<;>first | (cases h1;done) | skip
    split at h1<;>first | (cases h1;done) | skip
    rw [hcd hd] at h1
    simp [rF] at h1
 have hwp:code.wp P (QL (fun a w=>Leaves P fn a.tmps (eJ Q) a.defers .returning w∧(d=true->a.defers=[])) (fun _ _ _=>False) (fun a w=>Leaves P fn a.tmps (eJ Q) a.defers .returning w∧(d=true->a.defers=[]))) { tmps:=(aO (encs ct.A x) cs).toArray ++ Array.replicate (fn.ntmps - (aO (encs ct.A x) cs).toArray.size) undef,defers:=[] } w:=by
  refine sN hc hct dF hm fT code [] _ _ _ _ _ _ _ rfl ho (h x y p q hrun) pV (fun e ak a' w' h1 h2=>?_)
  cases e with
  | normal=>exact leaf h1 h2
  | ret=>exact leaf h1 h2
  | exit j=>cases h1
  | goto j=>cases h1
  | panic ch=>cases h1
  | outgrown=>cases h1
 cases d with
 | false=>
  refine calls_of_wp_defers hf hb (wp_mono hwp fun e a w q=>?_)
  cases e<;>first | exact q.1 | exact q.elim
 | true=>
  have:=callsD_of_wp (u:=.returning) (R:=eJ Q) hf hb (wp_mono hwp fun e a w q=>?_)
  ·exact this
  ·cases e with
   | normal=>
    obtain ⟨q1,q2⟩:=q
    have q2:=q2 rfl
    rw [q2] at q1
    exact ⟨q2,q1⟩
   | ret=>
    obtain ⟨q1,q2⟩:=q
    have q2:=q2 rfl
    rw [q2] at q1
    exact ⟨q2,q1⟩
   | _=>exact q.elim
end
end Go.Tw
namespace Go.Tw
def cu (m:Nat) (A:List Sh) (T:List aK) (B:List Sh) (U:List aK) {τ:Type} (t:au A->ax T->Option τ) (e:au A->ax T->τ->au B×ax U):Ct where
 m:=m
 A:=A
 T:=T
 B:=B
 U:=U
 run:=fun _ x y k=>(t x y).bind fun z=>k (e x y z).1 (e x y z).2
 nat:=fun _ x y k r h=>by
  obtain ⟨z,h1,h2⟩:=bl h
  exact ⟨_,_,by rw [h1];rfl,h2⟩
def XG (s0:List Nat) (A:List Sh) (T:List aK) (s1:List Nat) (A1:List Sh) (T1:List aK) {σ τ:Type} (F:Nat) (f:au A->ax T->σ->Option (σ ⊕ τ)) (init:au A->ax T->σ) (e1:au A->ax T->τ->au A1×ax T1):Lc where
 s0:=s0
 A:=A
 T:=T
 s1:=s1
 A1:=A1
 T1:=T1
 s2:=[]
 A2:=[]
 T2:=[]
 run:=fun _ x y k1 _=>(iter (f x y) F (init x y)).bind fun z=>k1 (e1 x y z).1 (e1 x y z).2
 nat:=fun _ x y k1 k2 r h=>by
  obtain ⟨z,h1,h2⟩:=bl h
  exact .inl ⟨_,_,by rw [h1];rfl,h2⟩
def IS (s0:List Nat) (A:List Sh) (T:List aK) (s1:List Nat) (A1:List Sh) (T1:List aK) (s2:List Nat) (A2:List Sh) (T2:List aK) {σ fj fi:Type} (F:Nat) (f:au A->ax T->σ->Option (σ ⊕ (fj ⊕ fi))) (init:au A->ax T->σ) (e1:au A->ax T->fj->au A1×ax T1) (e2:au A->ax T->fi->au A2×ax T2):Lc where
 s0:=s0
 A:=A
 T:=T
 s1:=s1
 A1:=A1
 T1:=T1
 s2:=s2
 A2:=A2
 T2:=T2
 run:=fun _ x y k1 k2=>(iter (f x y) F (init x y)).bind fun z=>match z with
  | .inl z=>k1 (e1 x y z).1 (e1 x y z).2
  | .inr z=>k2 (e2 x y z).1 (e2 x y z).2
 nat:=fun _ x y k1 k2 r h=>by
  obtain ⟨z,h1,h2⟩:=bl h
  cases z with
  | inl z=>exact .inl ⟨_,_,by rw [h1];rfl,h2⟩
  | inr z=>exact .inr ⟨_,_,by rw [h1];rfl,h2⟩
def Xa (s0:List Nat) (A:List Sh) (T:List aK) (s1:List Nat) (A1:List Sh) (T1:List aK) {τ:Type} (t:au A->ax T->Option τ) (e1:au A->ax T->τ->au A1×ax T1):Lc where
 s0:=s0
 A:=A
 T:=T
 s1:=s1
 A1:=A1
 T1:=T1
 s2:=[]
 A2:=[]
 T2:=[]
 run:=fun _ x y k1 _=>(t x y).bind fun z=>k1 (e1 x y z).1 (e1 x y z).2
 nat:=fun _ x y k1 k2 r h=>by
  obtain ⟨z,h1,h2⟩:=bl h
  exact .inl ⟨_,_,by rw [h1];rfl,h2⟩
def bz {σ τ β:Type} (a:σ->Option β) (b:τ->Option β):σ ⊕ τ->Option β
 | .inl x=>a x
 | .inr x=>b x
def aaP {β:Type} (m:Nat) (s1:List Nat) (A1:List Sh) (T1:List aK) (out:au A1->ax T1->Option β):Exit->St->Option β:=fun e st=>match e with
 | .normal=>nS m s1 A1 T1 st out
 | _=>none
section
variable {P:Program} {E:Ev}
theorem SH {σ fj fi:Type} {s0:List Nat} {A:List Sh} {T:List aK} {s1:List Nat} {A1:List Sh} {T1:List aK} {s2:List Nat} {A2:List Sh} {T2:List aK} {F:Nat} {f:au A->ax T->σ->Option (σ ⊕ (fj ⊕ fi))} {init:au A->ax T->σ} {e1:au A->ax T->fj->au A1×ax T1} {e2:au A->ax T->fi->au A2×ax T2} {m:Nat} {lp:List (List Nat×Lc)} {root b:Code} {p:List Nat} {id:Nat}
  (hc:aN P E.c) (hct:bS P E) (dF:P.follows .mixedOrders=true) (fT:jO P E m root lp) (ho:cA E (bh root (0 :: 0 :: p))=true) (oE:bh root p=.block id (.loop b))
  (eA:au A->ax T->σ->au A) (eT:au A->ax T->σ->ax T) (uU:∀ x y,eA x y (init x y)=x) (ua:∀ x y,eT x y (init x y)=y)
  (g:au A->ax T->σ->(σ->Option (Full A T A1 T1 A2 T2))->(fj->Option (Full A T A1 T1 A2 T2))->(fi->Option (Full A T A1 T1 A2 T2))->Option (Full A T A1 T1 A2 T2))
  (fW:∀ x y s kA kO kR,g x y s kA kO kR=(f x y s).bind (bz kA (bz kO kR)))
  (heq:∀ x y s,cj E m lp (bh root (0 :: 0 :: p)) (0 :: 0 :: p) (dN s0 A T (eA x y s) (eT x y s)) (wQ m s0 A T s1 A1 T1 s2 A2 T2 id (fun x y=>some (.inl (x,y))) (fun x y=>some (.inr (.inl (x,y)))) (fun x y=>some (.inr (.inr (x,y))))) =
   g x y s (fun s=>some (.inl (eA x y s,eT x y s))) (fun z=>some (.inr (.inl (e1 x y z)))) (fun z=>some (.inr (.inr (e2 x y z))))):pL P E m (IS s0 A T s1 A1 T1 s2 A2 T2 F f init e1 e2) (bh root p):=by
 have hb0:bh root (0 :: 0 :: p)=b:=by simp [bh,oE]
 intro O0 aG w0 hm (x:au A) (y:ax T) z hz a w hG
 obtain ⟨t,ht,hz⟩:=bl hz
 rw [oE]
 have hJ:G E O0 aG w0 (dN s0 A T (eA x y (init x y)) (eT x y (init x y))) a w:=by rw [uU,ua];exact hG
 have:=WR (P:=P) (E:=E) (root:=root) (b:=b) (p:=0 :: 0 :: p) (id:=id) (lp:=lp) s0 A T s1 A1 T1 s2 A2 T2 hc hct dF fT hb0 (by rw [← hb0];exact ho) (f x y) (eA x y) (eT x y) (e1 x y) (e2 x y) (fun s r hr=>by
   have h1:=heq x y s
   rw [fW,hr,hb0] at h1
   rw [h1]
   cases r with
   | inl s=>rfl
   | inr r=>cases r<;>rfl) hm ht hJ
 cases t with
 | inl t=>
  cases hz
  refine v5 this (fun a w h=>?_) (fun _ _ _ h=>h) (fun a w h=>?_)
  ·obtain ⟨t',e,h⟩:=h;cases e;exact ⟨_,_,rfl,h⟩
  ·obtain ⟨t',e,h⟩:=h;cases e
 | inr t=>
  cases hz
  refine v5 this (fun a w h=>?_) (fun _ _ _ h=>h) (fun a w h=>?_)
  ·obtain ⟨t',e,h⟩:=h;cases e
  ·obtain ⟨t',e,h⟩:=h;cases e;exact ⟨_,_,rfl,h⟩
theorem asA {σ τ:Type} {s0:List Nat} {A:List Sh} {T:List aK} {s1:List Nat} {A1:List Sh} {T1:List aK} {F:Nat} {f:au A->ax T->σ->Option (σ ⊕ τ)} {init:au A->ax T->σ} {e1:au A->ax T->τ->au A1×ax T1} {m:Nat} {lp:List (List Nat×Lc)} {root b:Code} {p:List Nat} {id:Nat}
  (hc:aN P E.c) (hct:bS P E) (dF:P.follows .mixedOrders=true) (fT:jO P E m root lp) (ho:cA E (bh root (0 :: 0 :: p))=true) (oE:bh root p=.block id (.loop b))
  (eA:au A->ax T->σ->au A) (eT:au A->ax T->σ->ax T) (uU:∀ x y,eA x y (init x y)=x) (ua:∀ x y,eT x y (init x y)=y)
  (g:au A->ax T->σ->(σ->Option (Full A T A1 T1 [] []))->(τ->Option (Full A T A1 T1 [] []))->Option (Full A T A1 T1 [] []))
  (fW:∀ x y s kA kO,g x y s kA kO=(f x y s).bind (bz kA kO))
  (heq:∀ x y s,cj E m lp (bh root (0 :: 0 :: p)) (0 :: 0 :: p) (dN s0 A T (eA x y s) (eT x y s)) (wQ m s0 A T s1 A1 T1 [] [] [] id (fun x y=>some (.inl (x,y))) (fun x y=>some (.inr (.inl (x,y)))) (fun x y=>some (.inr (.inr (x,y))))) =
   g x y s (fun s=>some (.inl (eA x y s,eT x y s))) (fun z=>some (.inr (.inl (e1 x y z))))):pL P E m (XG s0 A T s1 A1 T1 F f init e1) (bh root p):=by
 have hb0:bh root (0 :: 0 :: p)=b:=by simp [bh,oE]
 intro O0 aG w0 hm (x:au A) (y:ax T) z hz a w hG
 obtain ⟨t,ht,hz⟩:=bl hz
 cases hz
 rw [oE]
 let f':σ->Option (σ ⊕ (τ ⊕ Empty)):=fun s=>(f x y s).map fun r=>match r with
  | .inl s=>.inl s
  | .inr t=>.inr (.inl t)
 have hit:∀ (n:Nat) (s:σ) (t:τ),iter (f x y) n s=some t->iter f' n s=some (.inl t):=by
  intro n
  induction n with
  | zero=>intro s t h;simp [iter] at h
  | succ n ih=>
   intro s t h
   simp only [iter,Option.bind_eq_some_iff] at h ⊢
   obtain ⟨r,hr,h⟩:=h
   refine ⟨_,by show (f x y s).map _=_;rw [hr];rfl,?_⟩
   cases r with
   | inl s'=>exact ih s' t h
   | inr t'=>simp only [az] at h;subst h;rfl
 have hJ:G E O0 aG w0 (dN s0 A T (eA x y (init x y)) (eT x y (init x y))) a w:=by rw [uU,ua];exact hG
 have:=WR (P:=P) (E:=E) (root:=root) (b:=b) (p:=0 :: 0 :: p) (id:=id) (lp:=lp) s0 A T s1 A1 T1 [] [] [] hc hct dF fT hb0 (by rw [← hb0];exact ho) f' (eA x y) (eT x y) (e1 x y) (fun e:Empty=>nomatch e) (fun s r hr=>by
   have hr:(f x y s).map _=some r:=hr
   simp only [Option.map_eq_some_iff] at hr
   obtain ⟨r0,j_,rfl⟩:=hr
   have h1:=heq x y s
   rw [fW,j_,hb0] at h1
   rw [h1]
   cases r0<;>rfl) hm (hit F _ t ht) hJ
 refine v5 this (fun a w h=>?_) (fun _ _ _ h=>h) (fun a w h=>?_)
 ·obtain ⟨t',e,h⟩:=h;cases e;exact ⟨_,_,rfl,h⟩
 ·obtain ⟨t',e,h⟩:=h;cases t'
theorem anc {τ:Type} {s0:List Nat} {A:List Sh} {T:List aK} {s1:List Nat} {A1:List Sh} {T1:List aK} {t:au A->ax T->Option τ} {e1:au A->ax T->τ->au A1×ax T1} {m:Nat} {lp:List (List Nat×Lc)} {root:Code} {p:List Nat}
  (hc:aN P E.c) (hct:bS P E) (dF:P.follows .mixedOrders=true) (fT:jO P E m root lp) (ho:cA E (bh root p)=true)
  (g:au A->ax T->(τ->Option (au A1×ax T1))->Option (au A1×ax T1)) (fW:∀ x y k,g x y k=(t x y).bind k)
  (heq:∀ x y,cj E m lp (bh root p) p (dN s0 A T x y) (aaP m s1 A1 T1 (fun x y=>some (x,y)))=g x y (fun z=>some (e1 x y z))):pL P E m (Xa s0 A T s1 A1 T1 t e1) (bh root p):=by
 intro O0 aG w0 hm (x:au A) (y:ax T) z hz a w hG
 obtain ⟨u,hu,hz⟩:=bl hz
 cases hz
 have h1:=heq x y
 rw [fW,hu] at h1
 refine sN hc hct dF hm fT (bh root p) p _ _ _ _ _ a w rfl ho h1 hG (fun e ak a' w' h2 h3=>?_)
 cases e with
 | normal=>
  obtain ⟨x',y',h4,h5⟩:=m9 hm h2 h3
  simp only [az] at h4
  refine ⟨_,_,rfl,?_⟩
  rw [← h4];exact h5
 | exit j=>cases h2
 | ret=>cases h2
 | goto j=>cases h2
 | panic ch=>cases h2
 | outgrown=>cases h2
def dM:List (Nat×Ct)->Nat->List Ct
 | [],_=>[]
 | (g,ct) :: r,f=>match Nat.beq g f with
  | true=>ct :: dM r f
  | false=>dM r f
def jI (P:Program) (c:aF) (d:Bool):List (Nat×Ct)->Prop
 | []=>True
 | (f,ct) :: r=>(lN P c d f ct∧∃ fn,P.funcs[f]? = some fn∧fn.body.isSome=true∧(fn.name == "runtime.NumGoroutine")=false)∧jI P c d r
theorem jI.ok {c:aF} {d:Bool}:∀ {l:List (Nat×Ct)} {f:Nat} {ct:Ct},jI P c d l->ct ∈ dM l f->lN P c d f ct∧∃ fn,P.funcs[f]? = some fn∧fn.body.isSome=true∧(fn.name == "runtime.NumGoroutine")=false
 | [],f,ct,_,h=>by simp [dM] at h
 | (g,c0) :: r,f,ct,h,hm=>by
  simp only [dM] at hm
  split at hm
  ·rename_i hg
   have:=ay hg
   subst this
   rcases List.mem_cons.1 hm with hm | hm
   ·subst hm;exact h.1
   ·exact jI.ok h.2 hm
  ·exact jI.ok h.2 hm
theorem kD {E:Ev} {l l':List (Nat×Ct)} (he:E.ct=dM l) (he':E.cd=dM l') (h:jI P E.c false l) (h':jI P E.c true l') (hx:∀ f,E.cx f=none:=by intro f;rfl):bS P E:=⟨fun f ct hm=>by
 rw [he] at hm;exact jI.ok h hm,fun f ct hm=>by
 rw [he'] at hm;exact jI.ok h' hm,fun f X hX=>by
 rw [hx] at hX;cases hX⟩
theorem zB (d:Bool) (hcd:d=true->∀ f,E.cd f=[]) {τ:Type} {m:Nat} {A:List Sh} {T:List aK} {B:List Sh} {U:List aK} {t:au A->ax T->Option τ} {e:au A->ax T->τ->au B×ax U} {f:FuncId} {fn:Func} {code:Code} {lp:List (List Nat×Lc)} (hf:P.funcs[f]? = some fn) (hb:fn.body=some code) (hn:fn.ntmps=E.n) (hl:Nat.ble A.length E.n=true) (qE:Nat.ble m T.length=true) (hc:aN P E.c) (hct:bS P E) (dF:P.follows .mixedOrders=true)
  (fT:jO P E m code lp) (ho:cA E code=true) (g:au A->ax T->(τ->Option (au B×ax U))->Option (au B×ax U)) (fW:∀ x y k,g x y k=(t x y).bind k)
  (heq:∀ x y,cj E m lp code [] (dN (b_ A.length) A T x y) (tX E m fn.results.toList B U fun p q=>some (p,q))=g x y (fun z=>some (e x y z))):lN P E.c d f (cu m A T B U t e):=by
 refine atu d (ct:=cu m A T B U t e) hf hb hn hl qE hc hct dF fT ho hcd (fun (x:au A) (y:ax T) p q h=>?_)
 obtain ⟨z,h1,h2⟩:=bl h
 have h3:=heq x y
 rw [fW,h1] at h3
 rw [← h2];exact h3
theorem ov {τ:Type} {m:Nat} {A:List Sh} {T:List aK} {B:List Sh} {U:List aK} {t:au A->ax T->Option τ} {e:au A->ax T->τ->au B×ax U} {f:FuncId} {fn:Func} {code:Code} {lp:List (List Nat×Lc)} (hf:P.funcs[f]? = some fn) (hb:fn.body=some code) (hn:fn.ntmps=E.n) (hl:Nat.ble A.length E.n=true) (qE:Nat.ble m T.length=true) (hc:aN P E.c) (hct:bS P E) (dF:P.follows .mixedOrders=true)
  (fT:jO P E m code lp) (ho:cA E code=true) (g:au A->ax T->(τ->Option (au B×ax U))->Option (au B×ax U)) (fW:∀ x y k,g x y k=(t x y).bind k)
  (heq:∀ x y,cj E m lp code [] (dN (b_ A.length) A T x y) (tX E m fn.results.toList B U fun p q=>some (p,q))=g x y (fun z=>some (e x y z))):Sound P E.c f (cu m A T B U t e):=
 zB false (fun h=>by cases h) hf hb hn hl qE hc hct dF fT ho g fW heq
theorem asc {α β:Type} (c:Bool) (x y:Option α) (f:α->Option β):(bif c then x else y).bind f=bif c then x.bind f else y.bind f:=by cases c<;>rfl
theorem aU {σ τ β:Type} (a:σ->Option β) (b:τ->Option β) (x:σ):bz a b (.inl x)=a x:=rfl
theorem aT {σ τ β:Type} (a:σ->Option β) (b:τ->Option β) (x:τ):bz a b (.inr x)=b x:=rfl
end
end Go.Tw
namespace Go.Tw
def Ty.zc:Ty->List Value
 | .i=>[vI 0]
 | .u8=>[di 0]
 | .u32=>[Bl 0]
 | .u64=>[Xr 0]
 | .bo=>[vB false]
 | .s=>[vS []]
 | .un=>[]
 | .sl _=>[.slice none 0 0]
 | .sn _=>[.slice none 0 0]
 | .pr a b=>a.zc ++ b.zc
 | .ar n t=>(List.replicate n t.zc).flatten
theorem J2 {O:Own}:∀ t:Ty,TR O t t.zero t.zc:=by
 intro t
 induction t with
 | pr a b bF bK=>exact ⟨_,_,rfl,bF,bK⟩
 | sl t ih=>exact ⟨_,[],rfl,rfl,.inl ⟨rfl,none,0,rfl⟩⟩
 | sn t ih=>exact ⟨_,[],rfl,rfl,.inl ⟨rfl,none,0,rfl⟩,fun _=>⟨0,rfl⟩⟩
 | ar n t ih=>
  show LR _ _ _
  simp only [Ty.zero,Ty.zc,Vector.toList_replicate]
  exact LR.replicate ih n
 | _=>rfl
inductive ZD where
 | t (ty:Ty)
 | v (x:Value)
 | un
 | pr (a b:ZD)
def ZD.iv:ZD->IV
 | .t ty=>dD ty ty.zero
 | .v x=>.o (.v x)
 | .un=>.un
 | .pr a b=>.pr a.iv b.iv
def ZD.cs:ZD->List Value
 | .t ty=>ty.zc
 | .v x=>[x]
 | .un=>[]
 | .pr a b=>a.cs ++ b.cs
def ZD.ok:ZD->Bool
 | .v x=>x.oneCell'
 | .pr a b=>a.ok && b.ok
 | _=>true
theorem ZD.R:∀ (d:ZD),d.ok=true->∀ (O:Own) (ρ:List Hd),Tw.R O ρ false d.iv d.cs
 | .t ty,_,O,ρ=>ju (J2 ty)
 | .v x,h,O,ρ=>⟨rfl,h⟩
 | .un,_,O,ρ=>rfl
 | .pr a b,h,O,ρ=>by
  simp only [ZD.ok,Bool.and_eq_true] at h
  exact ⟨_,_,rfl,ZD.R a h.1 O ρ,ZD.R b h.2 O ρ⟩
theorem aoY {P:Program} {t:Nat} {d:ZD} {z:Value} (h:∀ w,(zeroValue t).run P w=.ok z w) (hz:z.cells=d.cs.toArray) (hd:d.ok=true):∃ z cs,(∀ w,(zeroValue t).run P w=.ok z w)∧z.cells=cs.toArray∧∀ O ρ,R O ρ false d.iv cs:=
 ⟨z,d.cs,h,hz,d.R hd⟩
theorem agT {P:Program} {t e b:Nat} {ty:Ty} {z:Value} (h:iG P t e ty.size b z) (hb:b≤128) (hz:z.cells=ty.zc.toArray):∃ bytes z zc,iG P t e ty.size bytes z∧bytes≤128∧z.cells=zc.toArray∧∀ O,TR O ty ty.zero zc:=
 ⟨b,z,ty.zc,h,hb,hz,fun O=>J2 ty⟩
def wz (Z:Nat->Option Nat):List Field->List (Nat×Nat)->Bool
 | [],[]=>true
 | f :: fs,(o,z) :: r=>Nat.beq f.offset o && (match Z f.type with | some z'=>Nat.beq z' z | none=>false) && wz Z fs r
 | _,_=>false
theorem Wq {Z:Nat->Option Nat}:∀ {fs:List Field} {pl:List (Nat×Nat)},wz Z fs pl=true->∀ (i:Nat) (f:Field),fs[i]? = some f->∃ z,pl[i]? = some (f.offset,z)∧Z f.type=some z
 | [],pl,_,i,f,h=>by simp at h
 | g :: fs,[],h,i,f,_=>by simp [wz] at h
 | g :: fs,(o,z) :: r,h,i,f,hf=>by
  simp only [wz,Bool.and_eq_true] at h
  obtain ⟨⟨h1,h2⟩,h3⟩:=h
  cases i with
  | zero=>
   simp at hf;subst hf
   split at h2
   ·rename_i z' hz
    exact ⟨z,by simp [ay h1],by rw [hz,ay h2]⟩
   ·cases h2
  | succ i=>
   obtain ⟨z',h4,h5⟩:=Wq h3 i f (by simpa using hf)
   exact ⟨z',by simpa using h4,h5⟩
theorem alu {P:Program} {Z:Nat->Option Nat} {fs:Array Field} (pl:Array (Nat×Nat)) (h:∀ w,(fs.mapM (m:=Sem) fun f=>do pure (f.offset,← sizeOf f.type)).run P w=.ok pl w) (hb:wz Z fs.toList pl.toList=true) :
  ∃ pl:Array (Nat×Nat),(∀ w,(fs.mapM (m:=Sem) fun f=>do pure (f.offset,← sizeOf f.type)).run P w=.ok pl w)∧∀ (i:Nat) (f:Field),fs[i]? = some f->∃ z,pl[i]? = some (f.offset,z)∧Z f.type=some z:=
 ⟨pl,h,fun i f hf=>by
  obtain ⟨z,h1,h2⟩:=Wq hb i f (by simpa using hf)
  exact ⟨z,by simpa using h1,h2⟩⟩
def Aw (D:Option TypeDesc) (cs:List Value):Value:=match D with
 | some (.struct _)=>.agg cs.toArray
 | some (.array _ _)=>.agg cs.toArray
 | _=>cs.headD (.bool false)
def U7 (Z:Nat->Option Nat) (fs:List Field):List (Nat×Nat):=fs.map fun f=>(f.offset,(Z f.type).getD 0)
theorem agV {P:Program} {t:Nat} {d:ZD} (D:Nat->Option TypeDesc) (h:∀ w,(zeroValue t).run P w=.ok (Aw (D t) d.cs) w) (hz:(Aw (D t) d.cs).cells=d.cs.toArray) (hd:d.ok=true):∃ z cs,(∀ w,(zeroValue t).run P w=.ok z w)∧z.cells=cs.toArray∧∀ O ρ,R O ρ false d.iv cs:=
 aoY h hz hd
theorem ahS {P:Program} {Z:Nat->Option Nat} {fs:Array Field} (h:∀ w,(fs.mapM (m:=Sem) fun f=>do pure (f.offset,← sizeOf f.type)).run P w=.ok (U7 Z fs.toList).toArray w) (hb:wz Z fs.toList (U7 Z fs.toList)=true) :
  ∃ pl:Array (Nat×Nat),(∀ w,(fs.mapM (m:=Sem) fun f=>do pure (f.offset,← sizeOf f.type)).run P w=.ok pl w)∧∀ (i:Nat) (f:Field),fs[i]? = some f->∃ z,pl[i]? = some (f.offset,z)∧Z f.type=some z:=
 alu _ h hb
theorem Vt {P:Program} {t e:Nat} {ty:Ty} (D:Nat->Option TypeDesc) (B:Nat->Nat) (hu:P.underlying t=some (.slice e)) (hi:(P.info? e).map (fun i=>(i.zero,i.size,i.bytes))=some (some (Aw (D e) ty.zc),ty.size,B e)) (hc:(Aw (D e) ty.zc).cells.size=ty.size) (hp:0 < ty.size) (hb:B e≤128) (hz:(Aw (D e) ty.zc).cells=ty.zc.toArray) :
  ∃ bytes z zc,iG P t e ty.size bytes z∧bytes≤128∧z.cells=zc.toArray∧∀ O,TR O ty ty.zero zc:=
 agT (Wt hu hi hc hp) hb hz
abbrev bn (n:String) (t i o:Nat):Field:=⟨n,t,i,false, "", "", o⟩
abbrev bI (p n:String) (t i o:Nat):Field:=⟨n,t,i,false, "", p,o⟩
theorem ah {σ τ α β:Type} (a:σ->Option α) (b:τ->Option α) (z:σ ⊕ τ) (f:α->Option β):(bz a b z).bind f=bz (fun x=>(a x).bind f) (fun x=>(b x).bind f) z:=by cases z<;>rfl
def Nd (s0:List Nat) (A:List Sh) (T:List aK) (s1:List Nat) (A1:List Sh) (T1:List aK) (s2:List Nat) (A2:List Sh) (T2:List aK) {fj fi:Type} (t:au A->ax T->Option (fj ⊕ fi)) (e1:au A->ax T->fj->au A1×ax T1) (e2:au A->ax T->fi->au A2×ax T2):Lc where
 s0:=s0
 A:=A
 T:=T
 s1:=s1
 A1:=A1
 T1:=T1
 s2:=s2
 A2:=A2
 T2:=T2
 run:=fun _ x y k1 k2=>(t x y).bind fun z=>match z with
  | .inl z=>k1 (e1 x y z).1 (e1 x y z).2
  | .inr z=>k2 (e2 x y z).1 (e2 x y z).2
 nat:=fun _ x y k1 k2 r h=>by
  obtain ⟨z,h1,h2⟩:=bl h
  cases z with
  | inl z=>exact .inl ⟨_,_,by rw [h1];rfl,h2⟩
  | inr z=>exact .inr ⟨_,_,by rw [h1];rfl,h2⟩
def abR {β:Type} (m:Nat) (s1:List Nat) (A1:List Sh) (T1:List aK) (s2:List Nat) (A2:List Sh) (T2:List aK) (out:au A1->ax T1->Option β) (ret:au A2->ax T2->Option β):Exit->St->Option β:=fun e st=>match e with
 | .normal=>nS m s1 A1 T1 st out
 | .ret=>nS m s2 A2 T2 st ret
 | _=>none
section
variable {P:Program} {E:Ev}
theorem Xx {fj fi:Type} {s0:List Nat} {A:List Sh} {T:List aK} {s1:List Nat} {A1:List Sh} {T1:List aK} {s2:List Nat} {A2:List Sh} {T2:List aK} {t:au A->ax T->Option (fj ⊕ fi)} {e1:au A->ax T->fj->au A1×ax T1} {e2:au A->ax T->fi->au A2×ax T2} {m:Nat} {lp:List (List Nat×Lc)} {root:Code} {p:List Nat}
  (hc:aN P E.c) (hct:bS P E) (dF:P.follows .mixedOrders=true) (fT:jO P E m root lp) (ho:cA E (bh root p)=true)
  (g:au A->ax T->(fj->Option ((au A1×ax T1) ⊕ (au A2×ax T2)))->(fi->Option ((au A1×ax T1) ⊕ (au A2×ax T2)))->Option ((au A1×ax T1) ⊕ (au A2×ax T2))) (fW:∀ x y kO kR,g x y kO kR=(t x y).bind (bz kO kR))
  (heq:∀ x y,cj E m lp (bh root p) p (dN s0 A T x y) (abR m s1 A1 T1 s2 A2 T2 (fun x y=>some (.inl (x,y))) (fun x y=>some (.inr (x,y))))=g x y (fun z=>some (.inl (e1 x y z))) (fun z=>some (.inr (e2 x y z)))):pL P E m (Nd s0 A T s1 A1 T1 s2 A2 T2 t e1 e2) (bh root p):=by
 intro O0 aG w0 hm (x:au A) (y:ax T) z hz a w hG
 obtain ⟨u,hu,hz⟩:=bl hz
 have h1:=heq x y
 rw [fW,hu] at h1
 cases u with
 | inl u=>
  cases hz
  refine sN hc hct dF hm fT (bh root p) p _ _ _ _ _ a w rfl ho h1 hG (fun e ak a' w' h2 h3=>?_)
  cases e with
  | normal=>
   obtain ⟨x',y',h4,h5⟩:=m9 hm h2 h3
   simp only [az,Sum.inl.injEq] at h4
   refine ⟨_,_,rfl,?_⟩
   rw [← h4];exact h5
  | ret=>obtain ⟨x',y',h4,h5⟩:=m9 hm h2 h3;cases h4
  | exit j=>cases h2
  | goto j=>cases h2
  | panic ch=>cases h2
  | outgrown=>cases h2
 | inr u=>
  cases hz
  refine sN hc hct dF hm fT (bh root p) p _ _ _ _ _ a w rfl ho h1 hG (fun e ak a' w' h2 h3=>?_)
  cases e with
  | normal=>obtain ⟨x',y',h4,h5⟩:=m9 hm h2 h3;cases h4
  | ret=>
   obtain ⟨x',y',h4,h5⟩:=m9 hm h2 h3
   simp only [az,Sum.inr.injEq] at h4
   refine ⟨_,_,rfl,?_⟩
   rw [← h4];exact h5
  | exit j=>cases h2
  | goto j=>cases h2
  | panic ch=>cases h2
  | outgrown=>cases h2
end
def bR (s0:List Nat) (A:List Sh) (T:List aK) (s2:List Nat) (A2:List Sh) (T2:List aK) {σ τ:Type} (F:Nat) (f:au A->ax T->σ->Option (σ ⊕ τ)) (init:au A->ax T->σ) (e2:au A->ax T->τ->au A2×ax T2):Lc where
 s0:=s0
 A:=A
 T:=T
 s1:=[]
 A1:=[]
 T1:=[]
 s2:=s2
 A2:=A2
 T2:=T2
 run:=fun _ x y _ k2=>(iter (f x y) F (init x y)).bind fun z=>k2 (e2 x y z).1 (e2 x y z).2
 nat:=fun _ x y k1 k2 r h=>by
  obtain ⟨z,h1,h2⟩:=bl h
  exact .inr ⟨_,_,by rw [h1];rfl,h2⟩
section
variable {P:Program} {E:Ev}
end
theorem O7 {l:List Field} (h:(l.all fun f=>f.name != "_")=true):∀ f ∈ l,f.name ≠ "_" := fun f hf=>by
 simpa using List.all_eq_true.1 h f hf
def abe:Ty->Option Value
 | .i=>some (.int .i64 0)
 | .u8=>some (.int .u8 0)
 | .u32=>some (.int .u32 0)
 | .u64=>some (.int .u64 0)
 | .bo=>some (.bool false)
 | .s=>some (.string ⟨#[]⟩)
 | .sl _=>some (.slice none 0 0)
 | _=>none
theorem zm {t:Ty} {z:Value} (h:abe t=some z):∀ O,VR O t t.zero z:=by
 intro O
 cases t<;>simp only [abe,az] at h<;>first | (cases h;done) | skip
 all_goals subst h
 case sl t=>exact ⟨_,[],rfl,rfl,.inl ⟨rfl,_,_,rfl⟩⟩
 all_goals rfl
end Go.Tw
namespace Go.Tw
theorem FR {P:Program} {c:aF} {f:FuncId} {E:Nat} {t:Ty} (T0:Option (List t.den)) (T1:List t.den->Option (List t.den))
  (h0:Sound P c f (cu 0 [.nn] [] [.rw 0] [.row E t] (fun _ _=>T0) (fun _ _ z=>(((),()),(z,())))))
  (h1:Sound P c f (cu 0 [.rn t] [] [.rw 0] [.row E t] (fun x _=>T1 x.1) (fun _ _ z=>(((),()),(z,()))))) (he:T0=T1 []) :
  Sound P c f (cu 0 [.ro t] [] [.rw 0] [.row E t] (fun x _=>T1 x.1) (fun _ _ z=>(((),()),(z,())))):=by
 intro x y p q hrun O ρ w cs hG hM hR
 obtain ⟨c0,r,rfl,hv,hr⟩:=hR
 have hr:r=[]:=hr
 subst hr
 have eV:TR O (.sl t) x.1 c0:=hv
 obtain ⟨u,es,hc0,hL,hS⟩:=eV
 have key:(∃ cc,u=.slice none 0 cc∧x.1=[])∨∃ a n cc,u=.slice (some a) n cc:=by
  rcases hS with ⟨hz,b,cc,rfl⟩ | ⟨b,off,cap,rfl,_⟩
  ·cases b with
   | none=>exact .inl ⟨cc,rfl,List.eq_nil_of_length_eq_zero hz⟩
   | some a=>exact .inr ⟨a,0,cc,rfl⟩
  ·exact .inr ⟨_,_,_,rfl⟩
 rcases key with ⟨cc,hu,hx⟩ | ⟨a,n,cc,hu⟩
 ·have A_:(cu 0 [.nn] [] [.rw 0] [.row E t] (fun _ _=>T0) (fun _ _ z=>(((),()),(z,())))).run _ ((),()) () (fun p q=>some (p,q))=some (p,q):=by
   rw [← hrun]
   show (T0.bind _)=(T1 x.1).bind _
   rw [he,hx];rfl
  exact h0 ((),()) () p q A_ O ρ w [c0] hG hM ⟨c0,[],rfl,⟨cc,by rw [hc0,hu]⟩,rfl⟩
 ·have A_:(cu 0 [.rn t] [] [.rw 0] [.row E t] (fun x _=>T1 x.1) (fun _ _ z=>(((),()),(z,())))).run _ (x.1,()) () (fun p q=>some (p,q))=some (p,q):=hrun
  exact h1 (x.1,()) () p q A_ O ρ w [c0] hG hM ⟨c0,[],rfl,⟨hv,a,n,cc,by rw [hc0,hu]⟩,rfl⟩
end Go.Tw
namespace Go.Tw
section
variable {P:Program} {E:Ev}
end
end Go.Tw
namespace Go.Tw
def mQ (c:aF):List Field->Nat->Ty->Bool
 | [],_,.un=>true
 | f :: fs,n,.pr a r=>Nat.beq f.offset n && (match c.D f.type with
  | some d=>pW d a
  | none=>false) && mQ c fs (n + 1) r
 | _,_,_=>false
section
variable {P:Program} {c:aF}
theorem Wh:∀ {fs:List Field} {n:Nat} {kt:Ty},mQ c fs n kt=true->∀ a b:kt.den,nW c fs n (dD kt a) (dD kt b)=some (eX kt a b)
 | [],n,kt,h,a,b=>by
  cases kt<;>simp only [mQ,Bool.false_eq_true] at h
  rfl
 | f :: fs,n,kt,h,a,b=>by
  cases kt<;>simp only [mQ,Bool.false_eq_true] at h
  rename_i p r
  simp only [Bool.and_eq_true] at h
  obtain ⟨⟨h1,h2⟩,h3⟩:=h
  have ih:=Wh h3 a.2 b.2
  cases hd:c.D f.type with
  | none=>rw [hd] at h2;cases h2
  | some d=>
   rw [hd] at h2
   have h2:pW d p=true:=h2
   unfold pW at h2
   split at h2<;>first | (cases h2;done) | skip
   ·simp only [dD,nW,h1,hd,u_,ih,eX]
   ·simp only [dD,nW,h1,hd,u_,ih,eX]
theorem YN {O:Own}:∀ {fs:List Field} {n:Nat} {kt:Ty},mQ c fs n kt=true->∀ (a b:kt.den) (cs ds:List Value),TR O kt a cs->TR O kt b ds->eX kt a b=true->cs=ds
 | [],n,kt,h,a,b,cs,ds,h1,h2,h3=>by
  cases kt<;>simp only [mQ,Bool.false_eq_true] at h
  simp only [TR] at h1 h2
  rw [h1,h2]
 | f :: fs,n,kt,h,a,b,cs,ds,h1,h2,h3=>by
  cases kt<;>simp only [mQ,Bool.false_eq_true] at h
  rename_i p r
  simp only [Bool.and_eq_true] at h
  obtain ⟨⟨g1,g2⟩,g3⟩:=h
  obtain ⟨c1,d1,rfl,k1,k2⟩:=h1
  obtain ⟨c2,d2,rfl,m1,m2⟩:=h2
  simp only [eX,Bool.and_eq_true] at h3
  have ih:=YN g3 a.2 b.2 d1 d2 k2 m2 h3.2
  rw [ih]
  cases hd:c.D f.type with
  | none=>rw [hd] at g2;cases g2
  | some d=>
   rw [hd] at g2
   have g2:pW d p=true:=g2
   unfold pW at g2
   split at g2<;>first | (cases g2;done) | skip
   ·have e:=h3.1
    simp only [eX,beq_iff_eq] at e
    simp only [TR] at k1 m1
    rw [k1,m1,e]
   ·have e:=h3.1
    simp only [eX,beq_iff_eq] at e
    simp only [TR] at k1 m1
    rw [k1,m1,e]
theorem OY {O:Own}:∀ {fs:List Field} {n:Nat} {kt:Ty},mQ c fs n kt=true->∀ (a:kt.den) (cs:List Value),TR O kt a cs->cs.length=fs.length∧∀ (i:Nat) (f:Field),fs[i]? = some f->f.offset=n + i∧∃ d v,c.D f.type=some d∧cs[i]? = some v∧MapKept.IsKey d v∧mH d=false
 | [],n,kt,h,a,cs,h1=>by
  cases kt<;>simp only [mQ,Bool.false_eq_true] at h
  simp only [TR] at h1
  subst h1
  exact ⟨rfl,fun i f hi=>by simp at hi⟩
 | f :: fs,n,kt,h,a,cs,h1=>by
  cases kt<;>simp only [mQ,Bool.false_eq_true] at h
  rename_i p r
  simp only [Bool.and_eq_true] at h
  obtain ⟨⟨g1,g2⟩,g3⟩:=h
  obtain ⟨c1,d1,rfl,k1,k2⟩:=h1
  obtain ⟨l1,ih⟩:=OY g3 a.2 d1 k2
  cases hd:c.D f.type with
  | none=>rw [hd] at g2;cases g2
  | some d=>
   rw [hd] at g2
   have g2:pW d p=true:=g2
   obtain ⟨v,hv,hk,hg⟩:∃ v,c1=[v]∧MapKept.IsKey d v∧mH d=false:=by
    unfold pW at g2
    split at g2<;>first | (cases g2;done) | skip
    ·simp only [TR] at k1;exact ⟨_,k1,rfl,rfl⟩
    ·simp only [TR] at k1;exact ⟨_,k1,trivial,rfl⟩
   subst hv
   refine ⟨by simp [l1],fun i g hi=>?_⟩
   cases i with
   | zero=>
    simp at hi;subst hi
    exact ⟨by have:=ay g1;omega,d,v,hd,rfl,hk,hg⟩
   | succ i=>
    simp only [List.getElem?_cons_succ] at hi
    obtain ⟨o1,d',v',o2,o3,o4⟩:=ih i g hi
    exact ⟨by omega,d',v',o2,by simpa using o3,o4⟩
theorem aa9 {k:TypeId} {fs:Array Field} {kt:Ty} (ht:jL P c.D c.Z) (hd:c.D k=some (.struct fs)) (hs:P.stoodInHeld k=false) (hn:∀ f ∈ fs.toList,f.name ≠ "_") (hk:mQ c fs.toList 0 kt=true) (hg:kt.agg=true):w9 P k kt:=by
 have hu:P.underlying k=some (.struct fs):=ht.desc _ _ hd
 have qM:P.fieldsOf k=fs:=by simp [Program.fieldsOf,hu]
 have cl:∀ {O:Own} {a:kt.den} {u:Value},VR O kt a u->∃ cs:List Value,u=.agg cs.toArray∧TR O kt a cs:=fun h=>by
  unfold VR at h;rw [hg] at h;exact h
 refine ⟨⟨_,hu,fun O a b u v ha hb=>?_⟩,fun O a u ha e w=>?_,fun O a b u v ha hb w=>?_,fun O a b u v ha hb h=>?_,fun O a u ha w=>?_⟩
 ·exact .inr rfl
 ·obtain ⟨cs,rfl,h1⟩:=cl ha
  obtain ⟨hl,hc⟩:=OY hk a cs h1
  show (Instr.checkKey e (9999 + 1) k (.agg cs.toArray)).run P w=.ok () w
  rw [Instr.checkKey]
  simp only [Sem.run_bind,run_underlying hu,Result.andThen_ok]
  rw [← Array.forIn_toList]
  have hall:∀ f ∈ fs.toList,f.name ≠ "_" ∧ ∃ v,(part f.type cs.toArray f.offset).run P w=.ok v w∧(Instr.checkKey e 9999 f.type v).run P w=.ok () w:=fun f hf=>by
   obtain ⟨i,hi⟩:=List.mem_iff_getElem?.1 hf
   obtain ⟨o1,d,v,o2,o3,o4,o5⟩:=hc i f hi
   have Xc:=ht.desc _ _ o2
   refine ⟨hn f hf,v,?_,MapKept.run_checkKey Xc o4 e 9998⟩
   rw [Nat.zero_add] at o1
   have g:cs.toArray[f.offset]? = some v:=by rw [o1];simpa using o3
   simp only [part,Sem.run_bind,mj Xc,Result.andThen_ok,o5,g];simp
  clear hc hn qM hu hd hs hk
  generalize fs.toList=L at hall
  induction L with
  | nil=>simp
  | cons f L ih=>
   obtain ⟨hn,v,p1,p2⟩:=hall f (by simp)
   simp only [List.forIn_cons,Sem.run_bind,hn,ne_eq,not_false_eq_true,if_true,Result.andThen_ok,p1,p2,Sem.run_pure]
   exact ih (fun y hy=>hall y (by simp [hy]))
 ·obtain ⟨cs,rfl,h1⟩:=cl ha
  obtain ⟨ds,rfl,h2⟩:=cl hb
  show (Op.equalIn (9999 + 1) k (.agg cs.toArray) (.agg ds.toArray)).run P w=_
  rw [run_equalIn_struct w 9999 k _ _ (by rw [qM];exact hu) hs,qM]
  exact TE (px:=[]) (py:=[]) (ρ:=[]) ht fs.toList hn (Wh hk a b) rfl rfl (ju h1) (ju h2) w
 ·obtain ⟨cs,rfl,h1⟩:=cl ha
  obtain ⟨ds,rfl,h2⟩:=cl hb
  rw [YN hk a b cs ds h1 h2 h]
 ·obtain ⟨cs,rfl,h1⟩:=cl ha
  obtain ⟨hl,hc⟩:=OY hk a cs h1
  have hb:∀ v ∈ cs,∃ d,MapKept.IsKey d v:=fun v hv=>by
   obtain ⟨i,hi⟩:=List.mem_iff_getElem?.1 hv
   have hlt:=(aM hi).1
   rw [hl] at hlt
   obtain ⟨_,d,v',_,o3,o4,_⟩:=hc i fs.toList[i] (List.getElem?_eq_getElem hlt)
   rw [hi] at o3;cases o3;exact ⟨d,o4⟩
  have:Instr.sameBits 10000 (.agg cs.toArray) (.agg cs.toArray)=true:=by
   show Instr.sameBits (9999 + 1) (.agg cs.toArray) (.agg cs.toArray)=true
   simp only [Instr.sameBits,beq_self_eq_true,Bool.true_and,List.all_eq_true]
   intro x hx
   have kX:x.1=x.2∧x.1 ∈ cs:=by
    have hx:x ∈ cs.zip cs:=by simpa using hx
    obtain ⟨i,hi⟩:=List.mem_iff_getElem?.1 hx
    rw [List.getElem?_zip_eq_some] at hi
    exact ⟨by have h1:=hi.1;rw [hi.2] at h1;exact (Option.some.inj h1).symm,List.mem_of_getElem? hi.1⟩
   obtain ⟨d,hd⟩:=hb x.1 kX.2
   show Instr.sameBits 9999 x.1 x.2=true
   rw [← kX.1]
   exact MapKept.sameBits_self hd 9999
  simp [Instr.keyThatStays,this]
end
end Go.Tw
namespace Go.Tw
open Go.RowKit Go.Sort
theorem alG {O:Own} {w w':World} (h:Gm O [] [] w) (k:Kept ja w w'):Gm O [] [] w'∧aR (fun _=>True) O ([]:List Hd) w O [] w':=by
 refine ⟨⟨fun b all hb=>?_,fun b hb=>h.lt b (Nat.le_trans k.size hb),rfl,fun id x hx=>by simp at hx⟩,⟨.refl _,.refl _,fun _ _ h=>h,fun _ _ _ h _=>h,?_⟩⟩
 ·obtain ⟨ty,fz,e⟩:=h.im b all hb
  have hlt:b < w.heap.size:=by
   rcases Nat.lt_or_ge b w.heap.size with hh | hh
   ·exact hh
   ·rw [Array.getElem?_eq_none hh] at e;cases e
  exact ⟨ty,fz,by rw [k.block b hlt (fun hh=>hh)];exact e⟩
 ·exact ⟨k.os,k.tape,k.output,k.size,fun b hb _=>k.block b hb (fun hh=>hh)⟩
theorem Bu {P:Program} {c:aF} {f:FuncId} {A B:List Sh} {τ:Type} {t:au A->ax []->Option τ} {e:au A->ax []->τ->au B×ax []}
  (h:∀ x z,t x ()=some z->∀ (O:Own) (w:World) (cs:List (List Value)),GO c O->Gm O [] [] w->RL O [] (encs A x) cs ->
   Calls P f (aO (encs A x) cs).toArray w (fun ex w'=>∃ ds,RL O [] (encs B (e x () z).1) ds∧ex=.returned (lW (encs B (e x () z).1) ds)∧Kept ja w w')):Sound P c f (cu 0 A [] B [] t e):=by
 intro x y p q hrun O ρ w cs hG hM hR
 have A_:(t x y).bind (fun z=>some ((e x y z).1,(e x y z).2))=some (p,q):=hrun
 obtain ⟨z,h1,h2⟩:=bl A_
 have xg:((e x y z).1,(e x y z).2)=(p,q):=Option.some.inj h2
 have hp:p=(e x y z).1:=(congrArg Prod.fst xg).symm
 have hq:q=(e x y z).2:=(congrArg Prod.snd xg).symm
 subst hp hq
 have hρ:ρ=[]:=by
  have:=hM.len
  cases ρ with
  | nil=>rfl
  | cons _ _=>exact absurd this (by simp [cu,eO])
 subst hρ
 show Calls P f _ w (eJ _)
 refine (h x z h1 O w cs hG hM hR).mono fun ex w' ⟨ds,g1,g2,g3⟩=>?_
 subst g2
 obtain ⟨k1,k2⟩:=alG hM g3
 exact ⟨O,[],ds,k1,k2,g1,rfl⟩
end Go.Tw
namespace Go.Tw
section
variable {P:Program} {E:Ev}
def zk {β:Type} (k:aj->Option β):List IV->aj->Option β
 | [],tb=>k tb
 | v :: r,tb=>match v with
  | .pt id []=>match nth tb id with
   | some (.ob (.deferred (some [])))=>zk k r (tb.set id .no)
   | _=>none
  | _=>none
theorem agC (w:World) (r:Nat) (o:Obj):Kept (fun b=>b=r) w (w.putObj r o):=
 ⟨rfl,rfl,rfl,by simp,fun k _ hk=>World.putObj_heap_other hk⟩
theorem ace {β:Type} {fn:Func} {tmps:Array Value} {Q:Value->World->Prop} {k:aj->Option β} {r:β} {O0:Own} {aG:List Hd} {w0:World}
  (hK:∀ tb w O ρ,k tb=some r->Gm O ρ tb w->GO E.c O->aR (fun _=>True) O0 aG w0 O ρ w->∃ v,(results fn tmps).run P w=.ok v w∧Q v w):∀ (df:List IV) (ds:List Deferred) (tb:aj) (w:World) (O:Own) (ρ:List Hd),zk k df tb=some r->DR O ρ df ds->Gm O ρ tb w->GO E.c O->aR (fun _=>True) O0 aG w0 O ρ w ->
   LeavesInM Fence.wide 0 P fn tmps (eJ Q) ds .returning w
 | [],ds,tb,w,O,ρ,e,hD,hM,hG,hS=>by
  simp only [DR] at hD
  subst hD
  obtain ⟨v,h1,h2⟩:=hK tb w O ρ e hM hG hS
  exact ⟨v,h1,h2⟩
 | v :: df,ds,tb,w,O,ρ,e,hD,hM,hG,hS=>by
  simp only [zk] at e
  split at e<;>first | (cases e;done) | skip
  rename_i id
  split at e<;>first | (cases e;done) | skip
  rename_i hb
  rcases hD with ⟨fv,first,cap,r',rfl,hR,hD⟩ | ⟨id',h,r',he,h1,rfl,hD⟩
  ·obtain ⟨h,off,_,_,h3⟩:=hR;cases h3
  ·cases he
   rw [aS] at hb
   obtain ⟨h',h2,h3,h4⟩:=hM.th _ _ hb
   rw [h1] at h2;cases h2
   obtain ⟨g1,g2⟩:=hM.set (x':=.no) (w':=w.putObj h.b (.deferred none)) (aM hb).1 ((agC w h.b _).wide (fun b e=>by subst e;exact h3)) trivial
   refine ⟨by simp,.inl ⟨h.b,_,rfl,run_takeDeferred h4,?_⟩⟩
   exact ace hK df r' _ _ O ρ e hD g1 hG (hS.trans (g2.bD (fun _ _=>trivial)))
def AS:List Oper->Bool
 | []=>true
 | o :: r=>(match o.op with
  | .defer _=>false
  | _=>true) && AS r
theorem RU:∀ {l:List Oper},AS l=true->∀ o ∈ l,∀ c,o.op ≠ .defer c
 | [],_,o,hm,_=>by cases hm
 | x :: l,h,o,hm,c=>by
  simp only [AS,Bool.and_eq_true] at h
  rcases List.mem_cons.1 hm with e | hm
  ·subst e
   intro e2
   have h1:=h.1
   rw [e2] at h1
   cases h1
  ·exact RU h.2 o hm c
theorem aba {l n:Nat} {o:Oper} {a:Act} {w:World} {K:Act->World->Prop} {Q:Exit->Act->World->Prop} (hd:∀ c,o.op ≠ .defer c) (h:o.wp P a w K Q):o.wpIn (Fence.wide.inRound l) n P a w K Q:=by
 refine ⟨fun _ _=>trivial,?_⟩
 rw [Oper.semAt_eq _ _ _ hd]
 unfold Oper.wp at h
 generalize (execOp a.eval o).run P w=r at *
 cases r with
 | ok x w'=>
  cases x<;>simp only [Oper.upon,Oper.uponIn] at h ⊢<;>first | exact h | exact h.elim | skip
  ·exact ⟨fun e=>by simp [Fence.wide] at e,(callsIn_wide.2 h).inRound l⟩
  ·exact ⟨fun e=>by simp [Fence.wide] at e,fun c cs _=>let ⟨v,w',r,s⟩:=h c cs;⟨v,w',r,stepsIn_wide.2 s⟩⟩
 | halt x w'=>cases x<;>simp only [Oper.upon,Oper.uponIn] at h ⊢<;>first | exact h | exact h.elim
theorem P4 {l n:Nat} {ops:Array Oper} {N:Act->World->Prop}:∀ (L:List Oper),(∀ o ∈ L,∀ c,o.op ≠ .defer c)->∀ (a:Act) (w:World),wpList P ops (Qn N) L a w->wpListIn (Fence.wide.inRound l) n P ops (Qn N) L a w
 | [],_,_,_,h=>h
 | o :: L,hd,a,w,h=>by
  unfold wpList at h
  unfold wpListIn
  split
  ·rename_i hw
   rw [if_pos hw] at h
   rcases h with h | ⟨_,a0,w0,Bf⟩
   ·exact aba (hd o (by simp)) (Oper.wp_mono (fun a w h=>P4 L (fun o ho=>hd o (by simp [ho])) a w h) h)
   ·exact Bf.elim
  ·rename_i hw
   rw [if_neg hw] at h
   exact ⟨fun _ _=>trivial,P4 L (fun o ho=>hd o (by simp [ho])) _ _ h⟩
theorem KW {l n:Nat} {ops:Array Oper} {N:Act->World->Prop} (hd:∀ (i:Nat) o,ops[i]? = some o->∀ c,o.op ≠ .defer c):∀ (fuel:Nat) (listed:Array Bool) (a:Act) (w:World),wpAny P .any ops (Qn N) fuel listed a w->wpAnyIn (Fence.wide.inRound l) n P .any ops (Qn N) fuel listed a w
 | 0,_,_,_,h=>h
 | fuel + 1,listed,a,w,h=>by
  refine ⟨h.1,fun i hi=>?_⟩
  have h1:=h.2 i hi
  unfold wpOp at h1
  unfold wpOpIn
  cases ho:ops[i]? with
  | none=>simp only [ho] at h1;exact KW hd fuel _ _ _ h1
  | some o=>
   simp only [ho] at h1
   simp only
   split
   ·rename_i hw
    rw [if_pos hw] at h1
    rcases h1 with h1 | ⟨_,a0,w0,Bf⟩
    ·exact aba (hd i o ho) (Oper.wp_mono (fun a w h=>KW hd fuel _ a w h) h1)
    ·exact Bf.elim
   ·rename_i hw
    rw [if_neg hw] at h1
    exact ⟨fun _ _=>trivial,KW hd fuel _ _ _ h1⟩
theorem uf.wpIn {id l n:Nat} {ops:Array Oper} {N:Act->World->Prop} {X:Nat->Act->World->Prop} {Y:Act->World->Prop} {a:Act} {w:World} (pi:AS ops.toList=true):∀ {draw:Bool},uf P ops N a w draw->(Code.region id ops draw).wpIn (Fence.wide.inRound l) n P (QL N X Y) a w
 | false,h=>by
  have e:ops.toList.toArray=ops:=by simp
  have h':wpList P ops.toList.toArray (Qn N) ops.toList a w:=by rw [e];exact h
  have h1:=wpIn_region_lit (id:=id) (l:=ops.toList) (P4 (l:=l) (n:=n) ops.toList (RU pi) a w h')
  have h2:=wpIn_mono (Q':=QL N X Y) h1 (fun e a w q=>by cases e<;>first | exact q | exact q.elim)
  simpa using h2
 | true,h=>wpIn_mono (wpIn_region_any h.1 (KW (l:=l) (n:=n) (fun i o ho=>RU pi o (by simpa using Array.mem_of_getElem? ho)) _ _ _ _ h.2)) (fun e a w q=>by cases e<;>first | exact q | exact q.elim)
def j6:Code->Bool
 | .region _ ops _=>AS ops.toList
 | .seq a b=>j6 a && j6 b
 | .cond _ a b=>j6 a && j6 b
 | .block _ c=>j6 c
 | .loop _=>false
 | .scope _=>false
 | .label _=>false
 | _=>true
theorem afv {β:Type} {l n m:Nat} {O0:Own} {aG:List Hd} {w0:World} {r:β} (hc:aN P E.c) (hct:bS P E) (dF:P.follows .mixedOrders=true) :
  ∀ (c:Code) (p:List Nat) (st:St) (k:Exit->St->Option β) (N:Act->World->Prop) (X:Nat->Act->World->Prop) (a:Act) (w:World),cA E c=true->j6 c=true->cj E m [] c p st k=some r->G E O0 aG w0 st a w ->
   (∀ e ak a' w',k e ak=some r->G E O0 aG w0 ak a' w'->QL N X (fun _ _=>False) e a' w')->c.wpIn (Fence.wide.inRound l) n P (QL N X (fun _ _=>False)) a w:=by
 intro c
 induction c with
 | skip=>intro p st k N X a w ho hn e hG hK;exact wpIn_skip (hK .normal st a w e hG)
 | exit j=>intro p st k N X a w ho hn e hG hK;exact wpIn_exit (hK (.exit j) st a w e hG)
 | ret=>intro p st k N X a w ho hn e hG hK;exact (hK .ret st a w e hG:False).elim
 | seq x y sZ mS=>
  intro p st k N X a w ho hn e hG hK
  simp only [cA,j6,Bool.and_eq_true] at ho hn
  simp only [cj,look] at e
  refine wpIn_seq (wpIn_mono (sZ (0 :: p) st _ (fun a w=>y.wpIn (Fence.wide.inRound l) n P (QL N X (fun _ _=>False)) a w) X a w ho.1 hn.1 e hG (fun e ak a' w' h1 h2=>?_)) (fun e a w q=>?_))
  ·cases e with
   | normal=>exact mS (1 :: p) ak k N X a' w' ho.2 hn.2 h1 h2 hK
   | exit j=>exact hK (.exit j) ak a' w' h1 h2
   | ret=>exact hK .ret ak a' w' h1 h2
   | goto j=>exact (hK (.goto j) ak a' w' h1 h2:False).elim
   | panic ch=>exact (hK (.panic ch) ak a' w' h1 h2:False).elim
   | outgrown=>exact (hK .outgrown ak a' w' h1 h2:False).elim
  ·cases e<;>exact q
 | region id ops draw=>
  intro p st k N X a w ho hn e hG hK
  obtain ⟨O,ρ,hF,hM,jn,hS⟩:=hG
  refine uf.wpIn hn (WV hc hct (fun hd=>?_) e hF hM jn (fun ak a' w' O' ρ' h1 h2 h3 h4 h5=>hK .normal ak a' w' h1 ⟨O',ρ',h2,h3,h4,hS.trans h5⟩))
  subst hd
  exact ⟨dF,ho⟩
 | cond x y z mS SQ=>
  intro p st k N X a w ho hn e hG hK
  simp only [cA,j6,Bool.and_eq_true] at ho hn
  simp only [cj,look] at e
  split at e<;>first | (cases e;done) | skip
  rename_i g hx
  obtain ⟨O,ρ,⟨⟨le,hl,c9⟩,hD⟩,hM,jn,hS⟩:=hG
  have jw:a.eval x=_:=aW hl (b8 c9 jn hx).1
  refine wpIn_cond_split (t:=g) jw (fun hg=>?_) (fun hg=>?_)
  ·subst hg;exact mS (0 :: p) st k N X a w ho.1 hn.1 e ⟨O,ρ,⟨⟨le,hl,c9⟩,hD⟩,hM,jn,hS⟩ hK
  ·subst hg;exact SQ (1 :: p) st k N X a w ho.2 hn.2 e ⟨O,ρ,⟨⟨le,hl,c9⟩,hD⟩,hM,jn,hS⟩ hK
 | block id b ih=>
  intro p st k N X a w ho hn e hG hK
  simp only [cA] at ho
  simp only [j6] at hn
  simp only [cj,look] at e
  refine wpIn_block (wpIn_mono (ih (0 :: p) st _ N (fun j a w=>if j=id then N a w else X j a w) a w ho hn e hG (fun e ak a' w' h1 h2=>?_)) (fun e a w q=>?_))
  ·cases e with
   | normal=>exact hK .normal ak a' w' h1 h2
   | exit j=>
    simp only at h1
    show if j=id then N a' w' else X j a' w'
    split at h1
    ·rename_i hj;rw [if_pos (ay hj)];exact hK .normal ak a' w' h1 h2
    ·rename_i hj;rw [if_neg (Nat.ne_of_beq_eq_false hj)];exact hK (.exit j) ak a' w' h1 h2
   | ret=>exact hK .ret ak a' w' h1 h2
   | goto j=>exact (hK (.goto j) ak a' w' h1 h2:False).elim
   | panic ch=>exact (hK (.panic ch) ak a' w' h1 h2:False).elim
   | outgrown=>exact (hK .outgrown ak a' w' h1 h2:False).elim
  ·cases e with
   | exit j=>
    show if j=id then _ else _
    have q:if j=id then N a w else X j a w:=q
    split
    ·rename_i hj;rw [if_pos hj] at q;exact q
    ·rename_i hj;rw [if_neg hj] at q;exact q
   | _=>exact q
 | loop b ih=>intro p st k N X a w ho hn e hG hK;simp [j6] at hn
 | rangeFunc g ps S5 b bF bK=>intro p st k N X a w ho hn e hG hK;simp [cj,look] at e
 | scope b ih=>intro p st k N X a w ho hn;simp [j6] at hn
 | label b=>intro p st k N X a w ho hn;simp [j6] at hn
 | _=>intro p st k N X a w ho hn e hG hK;simp [cj] at e
end
end Go.Tw
namespace Go.Tw
open Go.RowKit
section
variable {P:Program} {E:Ev}
def Xy (D:Nat) (r:Loop) (W:World):Prop:=W.heap[D + 1]? = some (.loop r)∧W.heap[D]? = some (.deferred (some []))
def ajJ (tb:aj):List Nat->Bool
 | []=>true
 | j :: r=>(match nth tb j with
  | some (.blk _ _)=>true
  | _=>false) && (match idx r j with
  | none=>true
  | some _=>false) && ajJ tb r
def amx:List Nat->List Value->Act->Act
 | p :: ps,v :: vs,a=>amx ps vs (a.put (some p) v)
 | _,_,a=>a
theorem Gm.afB {O:Own} {ρ:List Hd} {tb:aj} {w:World} {b0:Nat} (hM:Gm O ρ tb w) (hO:O b0=.no) (hb:w.heap[b0]? = some (.deferred (some []))) :
  Gm (fun b=>bif Nat.beq b0 b then .th tb.length else O b) (ρ ++ [⟨b0,.nil,.bool false,[]⟩]) (tb ++ [.ob (.deferred (some []))]) w∧O.le (fun b=>bif Nat.beq b0 b then .th tb.length else O b):=by
 have hlt:b0 < w.heap.size:=(Array.getElem?_eq_some_iff.1 hb).1
 have hle:O.le (fun b=>bif Nat.beq b0 b then .th tb.length else O b):=fun b all e=>by
  cases e':Nat.beq b0 b with
  | true=>have:=ay e';subst this;rw [hO] at e;cases e
  | false=>simp only [e',cond_false];exact e
 refine ⟨⟨fun b all e=>?_,fun b hb'=>?_,by simp [hM.len],fun j x hx=>?_⟩,hle⟩
 ·cases e':Nat.beq b0 b with
  | true=>rw [e'] at e;cases e
  | false=>rw [e'] at e;exact hM.im b all e
 ·cases e':Nat.beq b0 b with
  | true=>have:=ay e';omega
  | false=>exact hM.lt b hb'
 ·rcases Nat.lt_or_ge j tb.length with hj | hj
  ·rw [List.getElem?_append_left hj] at hx
   have old:=hM.th j x hx
   have ne:∀ b,O b=.th j->(bif Nat.beq b0 b then .th tb.length else O b)=.th j:=fun b e=>by
    cases e':Nat.beq b0 b with
    | true=>have:=ay e';subst this;rw [hO] at e;cases e
    | false=>exact e
   cases x with
   | blk ty v=>
    obtain ⟨h,cs,h3,h4,h5,h6,h7⟩:=old
    exact ⟨h,cs,dR _ h3,ne _ h4,h5,R.mono hle (.app _ _) h6,h7⟩
   | row E t xs=>
    obtain ⟨h,es,h3,h4,h5,h6,h7⟩:=old
    exact ⟨h,es,dR _ h3,h4,fun b aB=>ne _ (h5 b aB),h6.mono (fun _ _=>TR.mono hle),h7⟩
   | fz t xs=>
    obtain ⟨h,h3,h4,h5⟩:=old
    exact ⟨h,dR _ h3,h4,TR.mono hle h5⟩
   | no=>trivial
   | ob o0=>
    obtain ⟨h,h3,h4,h5⟩:=old
    exact ⟨h,dR _ h3,ne _ h4,h5⟩
   | mp kt vt l=>
    obtain ⟨h,es,h3,h4,h5,h6⟩:=old
    exact ⟨h,es,dR _ h3,ne _ h4,h5,h6.mono hle⟩
   | it n seen=>
    obtain ⟨h,h3,h4,bm,h5,h7⟩:=old
    exact ⟨h,dR _ h3,ne _ h4,bm,h5,h7⟩
   | rr E Ei t rows out=>
    obtain ⟨h,es,h3,h4,h5,h6,h7,h8⟩:=old
    exact ⟨h,es,dR _ h3,h4,fun b aB=>ne _ (h5 b aB),h6,h7,h8.frame (fun _ _=>TR.mono hle) (fun b aB=>⟨ne _ aB,rfl⟩)⟩
  ·have:j=tb.length:=by
    have:=(aM hx).1
    simp at this;omega
   subst this
   rw [List.getElem?_append_right (Nat.le_refl _)] at hx
   simp at hx;subst hx
   exact ⟨⟨b0,.nil,.bool false,[]⟩,by rw [← hM.len];simp,by simp,hb⟩
def MJ:Code->Code
 | .rangeFunc _ _ _ b=>b
 | c=>c
def Z3:Code->Option (Nat×List Nat×Nat×Nat×Nat)
 | .rangeFunc g ps S5 _=>match g,S5 with
  | .tmp gt,.region oI ops draw=>match draw,ops.toList with
   | false,[oa]=>match oa.op,oa.dst,oa.guard with
    | .assign (.tmp s),some d,none=>some (gt,ps.toList,oI,d,s)
    | _,_,_=>none
   | _,_=>none
  | _,_=>none
 | _=>none
theorem afN {c:Code} {gt oI d s:Nat} {ps:List Nat} (h:Z3 c=some (gt,ps,oI,d,s)) :
  ∃ oa,c=.rangeFunc (.tmp gt) ps.toArray (.region oI #[oa] false) (MJ c)∧oa.op=.assign (.tmp s)∧oa.dst=some d∧oa.guard=none:=by
 unfold Z3 at h
 split at h<;>first | (cases h;done) | skip
 rename_i g ps' S5 b
 split at h<;>first | (cases h;done) | skip
 rename_i gt' atv ops draw
 split at h<;>first | (cases h;done) | skip
 rename_i oa N6
 split at h<;>first | (cases h;done) | skip
 rename_i s' d' h1 h2 h3
 cases h
 refine ⟨oa,?_,h1,h2,h3⟩
 have:ops = #[oa]:=by
  apply Array.ext'
  simpa using N6
 subst this
 simp [MJ]
end
end Go.Tw
namespace Go.Tw
def ZK (E:Ev) (rs:List ResultVar):Exit->St->Option (IV×aj):=fun e st=>match e with
 | .normal=>kZ E (fun tb=>match iR E.c st.env tb rs with
  | some vs=>some (lB vs,tb)
  | none=>none) st.df st.tb
 | .ret=>kZ E (fun tb=>match iR E.c st.env tb rs with
  | some vs=>some (lB vs,tb)
  | none=>none) st.df st.tb
 | _=>none
def inl (E:Ev) (code:Code) (rs:List ResultVar):jf:=fun _ vs tb k=>match Nat.ble vs.length E.n with
 | true=>match cj E tb.length [] code [] ⟨jv (b_ vs.length) vs,tb,[]⟩ (ZK E rs) with
  | some z=>k (some z.1) z.2 (b_ tb.length)
  | none=>none
 | false=>none
variable {P:Program} {E:Ev}
theorem Gm.more {O O3:Own} {ρ:List Hd} {tb:aj} {w:World} (hM:Gm O ρ tb w) (h:∀ b,O b ≠ .no->O3 b=O b) (hlt:∀ b,w.heap.size≤b->O3 b=.no) (iS:∀ b all,O3 b=.im all->O b=.im all):Gm O3 ρ tb w:=by
 have hle:O.le O3:=fun b all e=>by rw [h b (by rw [e];simp)];exact e
 have ht:∀ b i,O b=.th i->O3 b=.th i:=fun b i e=>by rw [h b (by rw [e];simp)];exact e
 refine ⟨fun b all e=>hM.im b all (iS b all e),hlt,hM.len,fun j x hx=>?_⟩
 have old:=hM.th j x hx
 cases x with
 | blk ty v=>obtain ⟨h,cs,h3,h4,h5,h6,h7⟩:=old;exact ⟨h,cs,h3,ht _ _ h4,h5,R.mono hle (.refl _) h6,h7⟩
 | row E t xs=>obtain ⟨h,es,h3,h4,h5,h6,h7⟩:=old;exact ⟨h,es,h3,h4,fun b hb=>ht _ _ (h5 b hb),h6.mono (fun _ _=>TR.mono hle),h7⟩
 | fz t xs=>obtain ⟨h,h3,h4,h5⟩:=old;exact ⟨h,h3,h4,TR.mono hle h5⟩
 | no=>trivial
 | ob o0=>obtain ⟨h,h3,h4,h5⟩:=old;exact ⟨h,h3,ht _ _ h4,h5⟩
 | mp kt vt l=>obtain ⟨h,es,h3,h4,h5,h6⟩:=old;exact ⟨h,es,h3,ht _ _ h4,h5,h6.mono hle⟩
 | it n seen=>obtain ⟨h,h3,h4,bm,h5,h7⟩:=old;exact ⟨h,h3,ht _ _ h4,bm,h5,h7⟩
 | rr E Ei t rows out=>obtain ⟨h,es,h3,h4,h5,h6,h7,h8⟩:=old;exact ⟨h,es,h3,h4,fun b hb=>ht _ _ (h5 b hb),h6,h7,h8.frame (fun _ _=>TR.mono hle) fun b hb=>⟨ht _ _ hb,rfl⟩⟩
theorem ZJ {i m:Nat} (h:i < m):i ∈ b_ m:=List.mem_of_getElem? (nH h)
theorem alg {f:FuncId} {fn:Func} {code:Code} (hf:P.funcs[f]? = some fn) (hb:fn.body=some code) (hn:fn.ntmps=E.n) (hc:aN P E.c) (hct:bS P E) (dF:P.follows .mixedOrders=true) (ho:cA E code=true):pH P E.c f (inl E code fn.results.toList):=by
 intro β vs tb k r O ρ w cs e hG hM hR
 unfold inl at e
 split at e<;>first | (cases e;done) | skip
 rename_i hle
 split at e<;>first | (cases e;done) | skip
 rename_i z hz
 have hle:vs.length≤E.n:=by simpa using hle
 have hvl:∀ {vs:List IV} {cs:List (List Value)},RL O ρ vs cs->(aO vs cs).length=vs.length:=by
  intro vs
  induction vs with
  | nil=>intro cs h;simp [aO]
  | cons v vs ih=>intro cs h;obtain ⟨c0,r,rfl,h1,h2⟩:=h;simp [aO,ih h2]
 have hlen:(aO vs cs).length=vs.length:=hvl hR
 have hm:ρ.length=tb.length:=hM.len
 let Q:Value->World->Prop:=fun x w'=>∃ O' ρ' sv,x=sv.val∧SR O' ρ' z.1 sv∧Gm O' ρ' z.2 w'∧aR (· ∈ b_ tb.length) O ρ w O' ρ' w'
 let D:Nat->Bool:=fun b=>match O b with
  | .th id=>Nat.ble tb.length id
  | _=>false
 let O0:Own:=fun b=>bif D b then .no else O b
 have hD:∀ b,D b=true->∃ id,O b=.th id∧tb.length≤id:=fun b h=>by
  simp only [D] at h
  split at h
  ·rename_i id e;exact ⟨id,e,by simpa using h⟩
  ·cases h
 have gl:∀ b,D b=false->O0 b=O b:=fun b h=>by simp only [O0,h,cond_false]
 have jM:∀ b,D b=true->O0 b=.no:=fun b h=>by simp only [O0,h,cond_true]
 have n7:∀ b id,O b=.th id->D b=Nat.ble tb.length id:=fun b id h=>by simp only [D,h]
 have hin:∀ b id,O0 b=.th id->O b=.th id∧id ∈ b_ tb.length:=fun b id h=>by
  cases hd:D b with
  | true=>rw [jM b hd] at h;cases h
  | false=>
   rw [gl b hd] at h
   have:=n7 b id h
   rw [hd] at this
   exact ⟨h,ZJ (Nat.lt_of_not_le fun h=>by rw [Nat.ble_eq_true_of_le h] at this;cases this)⟩
 have eu:∀ b,O b ≠ .no->b < w.heap.size:=fun b h=>by
  rcases Nat.lt_or_ge b w.heap.size with h' | h'
  ·exact h'
  ·exact absurd (hM.lt b h') h
 have lV:∀ b all,O b=.im all->O0 b=.im all:=fun b all e=>by rw [gl b (by simp only [D,e])];exact e
 have Ac:Gm O0 ρ tb w:=(hM.step (M:=fun i=>tb.length≤i) (O':=O0) (ρ':=ρ) (aL:=tb) (w':=w) (.refl _ _) (fun b _ h=>by
   cases hd:D b with
   | true=>obtain ⟨id,e,h1⟩:=hD b hd;exact absurd e (h id h1)
   | false=>exact gl b hd) (fun b hb=>by
   cases hd:D b with
   | true=>exact jM b hd
   | false=>rw [gl b hd];exact hM.lt b hb) (fun b all e=>by
   cases hd:D b with
   | true=>rw [jM b hd] at e;cases e
   | false=>rw [gl b hd] at e;exact .inl e) (.refl _) hM.len (fun j x hx=>.inl ⟨hx,by have:=(aM hx).1;omega⟩)).1
 have hJ:GO E.c O0:=hG.mono lV
 have pQ:RL O0 ρ vs cs:=hR.mono lV (.refl _)
 have pV:G E O0 ρ w ⟨jv (b_ vs.length) vs,tb,[]⟩ { tmps:=(aO vs cs).toArray ++ Array.replicate (fn.ntmps - (aO vs cs).toArray.size) undef,defers:=[] } w:=by
  rw [hn]
  refine ⟨O0,ρ,⟨FI.of (by simp [hlen];omega) pQ (fun i t v hi hv=>?_),rfl⟩,Ac,hJ,.refl _ _ _ _⟩
  have hi':=(aM hi).1
  rw [b_,n_] at hi'
  rw [nH hi'] at hi;cases hi
  rw [Array.getElem?_append_left (by simp [hlen,hi'])]
  simpa using hv
 have leaf:∀ {ak:St} {a':Act} {w':World},(kZ E (fun tb=>match iR E.c ak.env tb fn.results.toList with
   | some vs=>some (lB vs,tb)
   | none=>none) ak.df ak.tb)=some z->G E O0 ρ w ak a' w'->Leaves P fn a'.tmps (eJ Q) a'.defers .returning w':=by
  intro ak a' w' h1 h2
  obtain ⟨O1,bQ,jA,fD,dX,gR⟩:=h2
  refine Gg hct (O0:=O1) (aG:=bQ) (w0:=w') ?_ ak.df a'.defers ak.tb w' O1 bQ h1 jA.2 fD dX (.refl _ _ _ _)
  intro k7 w2 O2 br hu fm ei c_
  have kz:=jA.1.mono c_.im c_.pre
  have hS:aR (fun _=>True) O0 ρ w O2 br w2:=gR.trans c_
  split at hu<;>first | (cases hu;done) | skip
  rename_i us hvs
  cases hu
  obtain ⟨ds,ji,hrl⟩:=vl (P:=P) hc kz fm hvs
  obtain ⟨sv,f7,hval⟩:=xB ji
  let O3:Own:=fun b=>bif D b then O b else O2 b
  have e0:∀ b,D b=false->O3 b=O2 b:=fun b h=>by simp only [O3,h,cond_false]
  have e1:∀ b,D b=true->O3 b=O b:=fun b h=>by simp only [O3,h,cond_true]
  have XO:w.heap.size≤w2.heap.size:=hS.kept.size
  have sy:∀ b,D b=true->b < w.heap.size:=fun b h=>by obtain ⟨id,e,_⟩:=hD b h;exact eu b (by rw [e];simp)
  have e2:∀ b,D b=true->O2 b=.no:=fun b h=>hS.no b (sy b h) (jM b h)
  have uI:∀ b all,O2 b=.im all->O3 b=.im all:=fun b all e=>by
   cases hd:D b with
   | true=>rw [e2 b hd] at e;cases e
   | false=>rw [e0 b hd];exact e
  have rL:Gm O3 br k7 w2:=fm.more (fun b h=>by
   cases hd:D b with
   | true=>exact absurd (e2 b hd) h
   | false=>exact e0 b hd) (fun b hb=>by
   cases hd:D b with
   | true=>have:=sy b hd;omega
   | false=>rw [e0 b hd];exact fm.lt b hb) (fun b all e=>by
   cases hd:D b with
   | true=>rw [e1 b hd] at e;obtain ⟨id,h,_⟩:=hD b hd;rw [h] at e;cases e
   | false=>rw [e0 b hd] at e;exact e)
  refine ⟨_,ye hrl,O3,br,sv,?_,f7.mono uI (.refl _),rL,⟨hS.pre,fun b all e=>uI b all (hS.im b all (lV b all e)),fun b hb e=>?_,fun b id hb ho hn=>?_,hS.kept.wide fun b ⟨id,_,h⟩=>⟨id,(hin b id h).2,(hin b id h).1⟩⟩⟩
  ·rw [hval];rfl
  ·have hd:D b=false:=by simp only [D,e]
   rw [e0 b hd];exact hS.no b hb (by rw [gl b hd];exact e)
  ·cases hd:D b with
   | true=>rw [e1 b hd];exact ho
   | false=>exact absurd (hin b id (by rw [gl b hd];exact ho)).2 hn
 refine ⟨z.1,z.2,_,e,?_⟩
 have hwp:code.wp P (QL (fun a w=>Leaves P fn a.tmps (eJ Q) a.defers .returning w) (fun _ _ _=>False) (fun a w=>Leaves P fn a.tmps (eJ Q) a.defers .returning w)) { tmps:=(aO vs cs).toArray ++ Array.replicate (fn.ntmps - (aO vs cs).toArray.size) undef,defers:=[] } w:=by
  refine sN hc hct dF hm (lp:=[]) trivial code [] _ _ _ _ _ _ _ rfl ho hz pV (fun e ak a' w' h1 h2=>?_)
  cases e with
  | normal=>exact leaf h1 h2
  | ret=>exact leaf h1 h2
  | exit j=>cases h1
  | goto j=>cases h1
  | panic ch=>cases h1
  | outgrown=>cases h1
 refine calls_of_wp_defers hf hb (wp_mono hwp fun e a w q=>?_)
 cases e<;>first | exact q | exact q.elim
def wR:List (Nat×jf)->Nat->Option jf
 | [],_=>none
 | (g,X) :: r,f=>match Nat.beq g f with
  | true=>some X
  | false=>wR r f
def tM (P:Program) (c:aF):List (Nat×jf)->Prop
 | []=>True
 | (f,X) :: r=>(pH P c f X∧∃ fn,P.funcs[f]? = some fn∧fn.body.isSome=true∧(fn.name == "runtime.NumGoroutine")=false)∧tM P c r
theorem tM.ok {c:aF}:∀ {l:List (Nat×jf)} {f:Nat} {X:jf},tM P c l->wR l f=some X->pH P c f X∧∃ fn,P.funcs[f]? = some fn∧fn.body.isSome=true∧(fn.name == "runtime.NumGoroutine")=false
 | [],f,X,_,h=>by simp [wR] at h
 | (g,X0) :: r,f,X,h,hm=>by
  simp only [wR] at hm
  split at hm
  ·rename_i hg
   have:=ay hg
   subst this;cases hm;exact h.1
  ·exact tM.ok h.2 hm
theorem aeg {l l':List (Nat×Ct)} {lx:List (Nat×jf)} (he:E.ct=dM l) (he':E.cd=dM l') (hx:E.cx=wR lx) (h:jI P E.c false l) (h':jI P E.c true l') (h2:tM P E.c lx):bS P E:=⟨fun f ct hm=>by
 rw [he] at hm;exact jI.ok h hm,fun f ct hm=>by
 rw [he'] at hm;exact jI.ok h' hm,fun f X hX=>by
 rw [hx] at hX;exact tM.ok h2 hX⟩
end Go.Tw
