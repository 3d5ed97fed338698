/- The plain law. -/
import Derived.Test.YtooplgiihmdfgaaDoorJ
namespace Go.Proofs.YtooplgiihmdfgaaDoor
open Go.Tw
set_option linter.unusedSimpArgs false
set_option linter.unusedVariables false
theorem sub_at {α:Type} {t:List α} {x:α}:∀ {l:List α},(x :: t).Sublist l->∃ p:Nat,l[p]? = some x∧t.Sublist (l.drop (p + 1))
 | y :: l,.cons _ h=>by
  obtain ⟨p,h1,h2⟩:=sub_at h
  exact ⟨p + 1,by simpa using h1,by simpa using h2⟩
 | _ :: l,.cons_cons _ h=>⟨0,rfl,by simpa using h⟩
theorem vF_nd:∀ {seen:List (List UInt8)} {refs:List Rf},vF seen refs=true->(∀ x ∈ nms refs,x ∉ seen)∧(nms refs).Nodup
 | seen,[],_=>⟨fun x h=>by simp [nms] at h,by simp [nms]⟩
 | seen,r :: refs,h=>by
  simp only [vF,Bool.and_eq_true,Bool.not_eq_true',List.contains_eq_mem,decide_eq_false_iff_not] at h
  obtain ⟨h1,h2⟩:=vF_nd h.2.2
  refine ⟨fun x hx=>?_,?_⟩
  ·simp only [nms,List.map_cons,List.mem_cons] at hx
   rcases hx with rfl | hx
   ·exact h.2.1
   ·exact fun hs=>h1 x hx (List.mem_append_left _ hs)
  ·simp only [nms,List.map_cons,List.nodup_cons]
   exact ⟨fun hm=>h1 r.1 hm (by simp),h2⟩
theorem nm_uniq {refs:List Rf} (h:vRs refs=true) {i j:Nat} {r r':Rf} (hi:refs[i]? = some r) (hj:refs[j]? = some r') (e:r.1=r'.1):i=j:=by
 have hn:=(vF_nd h).2
 obtain ⟨hi1,hi2⟩:=List.getElem?_eq_some_iff.1 hi
 obtain ⟨hj1,hj2⟩:=List.getElem?_eq_some_iff.1 hj
 have hp:=List.pairwise_iff_getElem.1 hn
 have hl:(nms refs).length=refs.length:=by simp [nms]
 rcases Nat.lt_trichotomy i j with h' | h' | h'
 ·refine absurd ?_ (hp i j (by omega) (by omega) h')
  simp only [nms,List.getElem_map,hi2,hj2,e]
 ·exact h'
 ·refine absurd ?_ (hp j i (by omega) (by omega) h')
  simp only [nms,List.getElem_map,hi2,hj2,e]
structure PO (data:Int) (refs:List Rf) (gs:List (List Rf)):Prop where
 sub:∀ g ∈ gs,g.Sublist refs
 full:∀ (i j:Nat) (g g':List Rf),i < j->gs[i]? = some g->gs[j]? = some g'->hc g=hc g'->(g.length:Int)=data
 tl:(gs.map List.length).sum=refs.length
theorem tl_set:∀ {gs:List (List Rf)} {j:Nat} {g:List Rf} {x:Rf},gs[j]? = some g->((gs.set j (g ++ [x])).map List.length).sum=(gs.map List.length).sum + 1
 | [],j,g,x,h=>by simp at h
 | y :: gs,0,g,x,h=>by simp at h;subst h;simp;omega
 | y :: gs,j + 1,g,x,h=>by simp only [List.set_cons_succ,List.map_cons,List.sum_cons];rw [tl_set (by simpa using h)];omega
theorem PO.step {data:Int} {refs:List Rf} {gs:List (List Rf)} (H:PO data refs gs) (hp:PG data gs) (r:Rf):PO data (refs ++ [r]) (pstep data gs r):=by
 have old:∀ g ∈ gs,g.Sublist (refs ++ [r]):=fun g hg=>(H.sub g hg).trans (List.sublist_append_left _ _)
 have new:(∀ (j:Nat) (g:List Rf),gs[j]? = some g->hc g=clsOf r.2.2.1->(g.length:Int)=data)->PO data (refs ++ [r]) (gs ++ [[r]]):=fun hfull=>by
  refine ⟨fun g hg=>?_,fun i j g g' hij hi hj e=>?_,by simp [H.tl]⟩
  ·rcases List.mem_append.1 hg with hg | hg
   ·exact old g hg
   ·simp at hg;subst hg;exact List.sublist_append_right _ _
  ·have hil:i < gs.length:=by
    have:=(List.getElem?_eq_some_iff.1 hj).1
    simp at this;omega
   rw [List.getElem?_append_left hil] at hi
   rcases Nat.lt_or_ge j gs.length with hjl | hjl
   ·rw [List.getElem?_append_left hjl] at hj
    exact H.full i j g g' hij hi hj e
   ·have:=(List.getElem?_eq_some_iff.1 hj).1
    simp at this
    have:j=gs.length:=by omega
    subst this
    simp at hj;subst hj
    exact hfull i g hi e
 rcases lx_at (clsOf r.2.2.1) gs with ⟨h1,h2⟩ | ⟨j,g,h1,h2,h3,h4⟩
 ·rw [pstep_new (.inl (by omega))]
  exact new fun j g hg e=>absurd e (h2 g (List.mem_of_getElem? hg))
 ·have hle:=hp.le g (List.mem_of_getElem? h2)
  by_cases hlt:(g.length:Int) < data
  ·rw [pstep_old h1 h2 hlt]
   have hgm:=List.mem_of_getElem? h2
   have ehc:hc (g ++ [r])=hc g:=hc_snoc (hp.ne g hgm) r
   refine ⟨fun g' hg'=>?_,fun i k g1 g2 hik hi hk e=>?_,by rw [tl_set h2,H.tl];simp⟩
   ·rcases mem_set' hg' with rfl | hg'
    ·exact List.Sublist.append (H.sub g hgm) (List.Sublist.refl _)
    ·exact old g' hg'
   ·by_cases hj1:j=i
    ·subst hj1
     rw [List.getElem?_set_self (List.getElem?_eq_some_iff.1 h2).1] at hi
     rw [List.getElem?_set_ne (by omega)] at hk
     cases hi
     rw [ehc,h3] at e
     exact absurd e.symm (h4 k g2 hik hk)
    ·rw [List.getElem?_set_ne hj1] at hi
     by_cases hj2:j=k
     ·subst hj2
      rw [List.getElem?_set_self (List.getElem?_eq_some_iff.1 h2).1] at hk
      cases hk
      rw [ehc] at e
      exact H.full i j g1 g hik hi h2 e
     ·rw [List.getElem?_set_ne hj2] at hk
      exact H.full i k g1 g2 hik hi hk e
  ·rw [pstep_new (.inr ⟨g,by rw [h1,Int.toNat_natCast];exact h2,hlt⟩)]
   refine new fun k g' hg' e=>?_
   rcases Nat.lt_trichotomy k j with hkj | hkj | hkj
   ·exact H.full k j g' g hkj hg' h2 (by rw [e,h3])
   ·subst hkj;rw [h2] at hg';cases hg';omega
   ·exact absurd e (h4 k g' hkj hg')
theorem pack_PO {data:Int} (hd:1≤data) (refs:List Rf):PO data refs (pack data refs):=by
 have:∀ k:Nat,k≤refs.length->PO data (refs.take k) (pack data (refs.take k)):=by
  intro k
  induction k with
  | zero=>intro _;exact ⟨fun g h=>by simp [pack] at h,fun i j g g' _ h=>by simp [pack] at h,by simp [pack]⟩
  | succ k ih=>
   intro hk
   have hr:refs[k]? = some refs[k]:=List.getElem?_eq_getElem (by omega)
   rw [takeS hr,pack_app]
   exact (ih (by omega)).step (pack_PG hd _) _
 have:=this refs.length (Nat.le_refl _)
 rwa [List.take_length] at this
theorem at6 {F:Nat} (hF:2000 < F) {refs:List Rf} (hl:refs.length≤1000) (hv:vRs refs=true) {p:Nat} {r:Rf} (hp:refs[p]? = some r):iter (fun s:Int×Int=>L4_6 F refs (refs.length:Int) r.1 r.2.1 r.2.2.1 s.1 s.2) F ((-1:Int),(0:Int))=some (p:Int):=by
 obtain ⟨z,hz,hQ⟩:=iter1 (f:=fun s:Int×Int=>L4_6 F refs (refs.length:Int) r.1 r.2.1 r.2.2.1 s.1 s.2)
  (fun s=>∃ k:Nat,s.2=(k:Int)∧k≤refs.length∧s.1=if p < k then (p:Int) else -1) (fun z=>z=(p:Int)) (fun s=>refs.length - s.2.toNat) (fun s hs=>by
   obtain ⟨k,e,hk,ha⟩:=hs
   obtain ⟨s0,s1⟩:=s
   simp only at e ha
   subst e ha
   rcases Nat.lt_or_ge k refs.length with hlt | hge
   ·have hr:refs[k]? = some refs[k]:=List.getElem?_eq_getElem hlt
    have hc1:((k:Nat):Int) < (refs.length:Int):=by omega
    have hix:=ixn hr
    have hw:w64 (((k:Nat):Int) + 1)=((k + 1:Nat):Int):=w64n (by omega)
    generalize refs[k]=x at hr hix
    refine .inl ⟨(if p < k + 1 then (p:Int) else -1,((k + 1:Nat):Int)),?_,⟨k + 1,rfl,by omega,rfl⟩,by simp only [Int.toNat_natCast];omega⟩
    by_cases hpk:p=k
    ·subst hpk
     rw [hp] at hr;cases hr
     simp only [L4_6,L4_6c,hc1,decide_true,cond_true,hix,Option.bind_some,beq_self_eq_true,Bool.and_self,hw]
     rw [if_pos (by omega)]
    ·have hne:(x.1 == r.1)=false:=by
      have:x.1 ≠ r.1:=fun e=>hpk (nm_uniq hv hp hr e.symm)
      simpa using this
     simp only [L4_6,L4_6c,hc1,decide_true,cond_true,hix,Option.bind_some,hne,Bool.false_and,cond_false,hw]
     have:p < k + 1 ↔ p < k:=by omega
     simp only [this]
   ·have hkl:k=refs.length:=by omega
    subst hkl
    refine .inr ⟨(p:Int),?_,rfl⟩
    have:=(List.getElem?_eq_some_iff.1 hp).1
    simp [L4_6,L4_6c,this])
  F ((-1:Int),(0:Int)) ⟨0,rfl,by omega,by simp⟩ (by simp;omega)
 subst hQ
 exact hz
theorem grp5 {F:Nat} (hF:2000 < F) {refs:List Rf} (hl:refs.length≤1000) (hv:vRs refs=true) {g:List Rf} (hs:g.Sublist refs) {c:Int} (hc':∀ r ∈ g,clsOf r.2.2.1=c) {n:Nat} (hn:n≤1000) :
  iter (fun s:Int×Int×Int=>L4_5 F refs c g (g.length:Int) s.1 s.2.1 s.2.2) F ((n:Int),(-1:Int),(0:Int))=some (.inl ((n + g.length:Nat):Int)):=by
 have hgl:g.length≤refs.length:=hs.length_le
 have hsz:=vRs_size hv
 obtain ⟨z,hz,hQ⟩:=iter1 (f:=fun s:Int×Int×Int=>L4_5 F refs c g (g.length:Int) s.1 s.2.1 s.2.2)
  (fun s=>∃ k m:Nat,s.2.2=(k:Int)∧k≤g.length∧s.1=((n + k:Nat):Int)∧s.2.1=(m:Int) - 1∧(g.drop k).Sublist (refs.drop m)) (fun z=>z=.inl ((n + g.length:Nat):Int)) (fun s=>g.length - s.2.2.toNat) (fun s hs'=>by
   obtain ⟨k,m,e,hk,ha,hb,hsub⟩:=hs'
   obtain ⟨s0,s1,s2⟩:=s
   simp only at e ha hb
   subst e ha hb
   rcases Nat.lt_or_ge k g.length with hlt | hge
   ·have hr:g[k]? = some g[k]:=List.getElem?_eq_getElem hlt
    have hc1:((k:Nat):Int) < (g.length:Int):=by omega
    have hix:=ixn hr
    have hw:w64 (((k:Nat):Int) + 1)=((k + 1:Nat):Int):=w64n (by omega)
    have hw2:w64 (((n + k:Nat):Int) + 1)=((n + (k + 1):Nat):Int):=w64n (by omega)
    rw [drop_at hr] at hsub
    have hm:g[k] ∈ g:=List.getElem_mem _
    generalize g[k]=x at hr hix hsub hm
    obtain ⟨q,hq1,hq2⟩:=sub_at hsub
    rw [List.getElem?_drop] at hq1
    rw [List.drop_drop] at hq2
    have h6:=at6 hF hl hv hq1
    have hx:=hsz x (hs.subset hm)
    have hcl:=(class_in (F:=F) (by omega) hx.1 hx.2).1
    have hcc:=hc' x hm
    have hle:¬ ((m + q:Nat):Int)≤(m:Int) - 1:=by omega
    refine .inl ⟨(((n + (k + 1):Nat):Int),((m + q:Nat):Int),((k + 1:Nat):Int)),?_,⟨k + 1,m + q + 1,rfl,by omega,rfl,by show ((m + q:Nat):Int)=_;omega,by rwa [show m + q + 1=m + (q + 1) from rfl]⟩,by simp only [Int.toNat_natCast];omega⟩
    simp only [L4_5,L4_5c,hc1,decide_true,cond_true,hix,Option.bind_some,hcl,h6,hcc,bne_self_eq_false,cond_false,hle,decide_false,hw,hw2]
   ·have hkl:k=g.length:=by omega
    subst hkl
    refine .inr ⟨.inl ((n + g.length:Nat):Int),?_,rfl⟩
    simp [L4_5,L4_5c])
  F ((n:Int),(-1:Int),(0:Int)) ⟨0,0,rfl,by omega,rfl,rfl,by simpa using hs⟩ (by simp;omega)
 subst hQ
 exact hz
theorem mgd_mptB (l:List (Int×Bool)) (x:Int) (y:Bool) (z:Int):mgd .i (mpt .i l x y) z false=if z=x then y else mgd .i l z false:=by
 unfold mgd;rw [mgt_mpt];split<;>rfl
theorem plaw4 {F:Nat} (hF:2000 < F) (h8:T8 F=some true) (p0:List Rf) (p1:Int):T4 F p0 p1=some true:=by
 simp only [T4,T4c,h8,Option.bind_some,Bool.not_true,cond_false]
 by_cases hl:(40:Int) < (p0.length:Int)
 ·simp only [hl,decide_true,cond_true]
 simp only [hl,decide_false,cond_false]
 have h30:=valid30 (refs:=p0) (by omega) hF
 by_cases h1:p1 < 1
 ·simp only [T9,T9c,h1,decide_true,cond_true,Option.bind_some];rfl
 by_cases h2:8 < p1
 ·simp only [T9,T9c,h1,h2,decide_true,decide_false,cond_true,cond_false,Option.bind_some];rfl
 cases hv:vRs p0 with
 | false=>simp only [T9,T9c,h1,h2,decide_false,cond_false,h30,hv,Option.bind_some,Bool.not_false,cond_true];rfl
 | true=>
 have hsz:=vRs_size hv
 rw [hv] at h30
 have h9:=pack9 hF (data:=p1) (by omega) (by omega) (refs:=p0) (by omega) hsz h30
 simp only [h9,Option.bind_some,bne_self_eq_false,cond_false]
 have hPG:=pack_PG (data:=p1) (by omega) p0
 have hPO:=pack_PO (data:=p1) (by omega) p0
 have hpm:=pack_mem (data:=p1) hsz
 have hpl:=pack_len p1 p0
 generalize pack p1 p0=gs at hPG hPO hpm hpl
 have hsum:∀ k:Nat,((gs.take k).map List.length).sum≤p0.length:=fun k=>by
  have h:=hPO.tl
  rw [← List.take_append_drop k gs,List.map_append,List.sum_append] at h
  omega
 obtain ⟨z,hz,hQ⟩:=iter1 (f:=fun s:Int×Int×List (Int×Bool)=>L4_4 F p0 p1 gs (gs.length:Int) s.1 s.2.1 s.2.2)
  (fun s=>∃ k:Nat,s.2.1=(k:Int)∧k≤gs.length∧s.1=((((gs.take k).map List.length).sum:Nat):Int)∧∀ c,mgd .i s.2.2 c false=true->∃ (j:Nat) (g:List Rf),j < k∧gs[j]? = some g∧hc g=c∧(g.length:Int) < p1) (fun z=>z=.inl (p0.length:Int)) (fun s=>gs.length - s.2.1.toNat) (fun s hs=>by
   obtain ⟨k,e,hk,ha,hm⟩:=hs
   obtain ⟨s0,s1,s2⟩:=s
   simp only at e ha hm
   subst e ha
   rcases Nat.lt_or_ge k gs.length with hlt | hge
   ·have hr:gs[k]? = some gs[k]:=List.getElem?_eq_getElem hlt
    have hc1:((k:Nat):Int) < (gs.length:Int):=by omega
    have hix:=ixn hr
    have hw:w64 (((k:Nat):Int) + 1)=((k + 1:Nat):Int):=w64n (by omega)
    have hgm:gs[k] ∈ gs:=List.getElem_mem _
    generalize gs[k]=g at hr hix hgm
    have hne:=hPG.ne g hgm
    have hle:=hPG.le g hgm
    have hone:=hPG.one g hgm
    have hsb:=hPO.sub g hgm
    have hg5:=grp5 hF (refs:=p0) (by omega) hv hsb (c:=hc g) hone (n:=((gs.take k).map List.length).sum) (by have:=hsum k;omega)
    have e1:¬ (g.length:Int) < 1:=by
     cases g with
     | nil=>exact absurd rfl hne
     | cons r g=>simp;omega
    have e2:¬ p1 < (g.length:Int):=by omega
    have hop:mgd .i s2 (hc g) false=false:=by
     cases ho:mgd .i s2 (hc g) false with
     | false=>rfl
     | true=>
      obtain ⟨j,g',a1,a2,a3,a4⟩:=hm _ ho
      have:=hPO.full j k g' g a1 a2 hr a3
      omega
    obtain ⟨r,g',hgr⟩:∃ r g',g=r :: g':=by
     cases g with
     | nil=>exact absurd rfl hne
     | cons r g=>exact ⟨r,g,rfl⟩
    have hi0:ix g (0:Int)=some r:=by rw [hgr];exact ixn (i:=0) rfl
    have hcr:clsOf r.2.2.1=hc g:=by rw [hgr];rfl
    have hr0:=hpm g hgm r (by rw [hgr];simp)
    have hcl:=(class_in (F:=F) (by omega) hr0.1 hr0.2).1
    rw [hcr] at hcl
    refine .inl ⟨((((((gs.take k).map List.length).sum + g.length:Nat)):Int),((k + 1:Nat):Int),mpt .i s2 (hc g) (decide ((g.length:Int) < p1))),?_,⟨k + 1,rfl,by omega,by rw [takeS hr];simp,fun c hc1=>?_⟩,by simp only [Int.toNat_natCast];omega⟩
    ·simp only [L4_4,L4_4c,hc1,decide_true,cond_true,hix,Option.bind_some,e1,e2,decide_false,cond_false,hi0,hcl,hop,hg5,elimS,hw]
    ·rw [mgd_mptB] at hc1
     split at hc1
     ·rename_i hcc
      exact ⟨k,g,by omega,hr,hcc.symm,of_decide_eq_true hc1⟩
     ·obtain ⟨j,g1,a1,a2,a3,a4⟩:=hm c hc1
      exact ⟨j,g1,by omega,a2,a3,a4⟩
   ·have hkl:k=gs.length:=by omega
    subst hkl
    rw [List.take_length,hPO.tl] at *
    refine .inr ⟨.inl (p0.length:Int),?_,rfl⟩
    simp [L4_4,L4_4c])
  F ((0:Int),(0:Int),([]:List (Int×Bool))) ⟨0,rfl,by omega,rfl,fun c h=>by cases h⟩ (by simp;omega)
 subst hQ
 rw [hz]
 simp only [Option.bind_some,elimS,beq_self_eq_true]
theorem flaw4 (a0:Ty.den (.sl (.pr .s (.pr .i (.pr .i .un))))) (a1:Int) (_:tyW (.sl (.pr .s (.pr .i (.pr .i .un)))) a0) (_:(-9223372036854775808≤a1∧a1≤9223372036854775807)):T4 50000 a0 a1=some true:=plaw4 (by omega) awake8 a0 a1
end Go.Proofs.YtooplgiihmdfgaaDoor
