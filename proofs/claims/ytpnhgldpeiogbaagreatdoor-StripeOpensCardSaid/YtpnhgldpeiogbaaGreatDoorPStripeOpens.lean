/- The plain law. -/
import Derived.Test.YtpnhgldpeiogbaaGreatDoorOJ
namespace Go.Tw
set_option linter.unusedSimpArgs false
set_option linter.unusedVariables false
theorem RL_u32 {O:Own} {ρ:List Hd} {n:UInt32} {vs:List IV} {cs:List (List Value)} (h:RL O ρ vs cs):RL O ρ (.o (.u32 n) :: vs) ([vU32 n] :: cs):=⟨_,_,rfl,⟨rfl,rfl⟩,h⟩
end Go.Tw
namespace Go.Proofs.YtpnhgldpeiogbaaGreatDoor
open Go.Tw
set_option linter.unusedSimpArgs false
set_option linter.unusedVariables false
def fnd (nm:List UInt8):List Rf->Nat->Int
 | [],_=>-1
 | r :: rs,i=>bif r.1 == nm then (i:Int) else fnd nm rs (i + 1)
theorem find_ok {F:Nat} (hF:2000 < F) {refs:List Rf} (hl:refs.length≤1000) (nm:List UInt8):T22 F refs nm=some (fnd nm refs 0):=by
 have h:∃ z,iter (fun s=>L53_2 F refs (refs.length:Int) nm s) F (0:Int)=some z∧(z=.inl ()∧fnd nm refs 0 = -1∨z=.inr (fnd nm refs 0)):=by
  exact iter1 (f:=fun s:Int=>L53_2 F refs (refs.length:Int) nm s)
   (fun s=>∃ k:Nat,s=(k:Int)∧k≤refs.length∧fnd nm (refs.drop k) k=fnd nm refs 0) _ (fun s=>refs.length - s.toNat) (fun s hs=>by
    obtain ⟨k,e,hk,ha⟩:=hs
    subst e
    rcases Nat.lt_or_ge k refs.length with hlt | hge
    ·have hc1:((k:Nat):Int) < (refs.length:Int):=by omega
     have hr:refs[k]? = some refs[k]:=List.getElem?_eq_getElem hlt
     have hix:=ixn hr
     have hd:=drop_at hr
     generalize refs[k]=x at hr hix hd
     rw [hd] at ha
     simp only [fnd] at ha
     have ht:T54 F x.1 nm=some (x.1 == nm):=rfl
     cases h1:x.1 == nm with
     | true=>
      rw [h1] at ht
      rw [h1,cond_true] at ha
      exact .inr ⟨.inr (k:Int),by simp only [L53_2,L53_2c,hc1,decide_true,cond_true,hix,ht,Option.bind_some],.inr (by rw [ha])⟩
     | false=>
      rw [h1] at ht
      rw [h1,cond_false] at ha
      exact .inl ⟨((k + 1:Nat):Int),by simp only [L53_2,L53_2c,hc1,decide_true,cond_true,hix,ht,Option.bind_some,cond_false,w64n (show k < 9223372036854775807 by omega)],⟨k + 1,rfl,by omega,ha⟩,by simp only [Int.toNat_natCast];omega⟩
    ·have hkn:k=refs.length:=by omega
     subst hkn
     rw [List.drop_length] at ha
     refine .inr ⟨.inl (),?_,.inl ⟨rfl,ha.symm⟩⟩
     simp [L53_2,L53_2c])
   F (0:Int) ⟨0,rfl,by omega,rfl⟩ (by simp;omega)
 obtain ⟨z,hz,hQ⟩:=h
 simp only [T22,T22c,T53,T53c,hz,Option.bind_some]
 rcases hQ with ⟨rfl,h⟩ | rfl
 ·rw [h];rfl
 ·rfl
theorem vF_not:∀ {refs:List Rf} {seen:List (List UInt8)},vF seen refs=true->∀ r ∈ refs,r.1 ∉ seen
 | [],_,_,_,hr=>by simp at hr
 | x :: rs,seen,h,r,hr=>by
  simp only [vF,Bool.and_eq_true,Bool.not_eq_true',List.contains_eq_mem,decide_eq_false_iff_not] at h
  rcases List.mem_cons.1 hr with rfl | hr
  ·exact h.2.1
  ·have:=vF_not h.2.2 r hr
   exact fun hm=>this (List.mem_append.2 (.inl hm))
theorem vF_fnd:∀ {refs:List Rf} {seen:List (List UInt8)} {k i:Nat} {r:Rf},vF seen refs=true->refs[i]? = some r->fnd r.1 refs k=((k + i:Nat):Int)
 | [],_,_,i,_,_,hr=>by simp at hr
 | x :: rs,seen,k,0,r,h,hr=>by
  have:x=r:=by simpa using hr
  subst this
  simp [fnd]
 | x :: rs,seen,k,i + 1,r,h,hr=>by
  have hr:rs[i]? = some r:=by simpa using hr
  simp only [vF,Bool.and_eq_true] at h
  have hm:r ∈ rs:=List.mem_of_getElem? hr
  have hn:=vF_not h.2.2 r hm
  have hne:(x.1 == r.1)=false:=by
   have:¬ x.1=r.1:=fun e=>hn (by rw [e];simp)
   simpa using this
  simp only [fnd,hne,cond_false]
  rw [vF_fnd (k:=k + 1) h.2.2 hr]
  congr 1
  omega
section
variable {F:Nat} {vault data total:Int} {refs:List Rf} {bs:List (List UInt8)} {d t len:Nat}
theorem Mk.take_all (H:Mk F vault data total refs bs d t len) (hF:2000 < F) (hl:len≤65536) {ks:List Nat} (h3:ks.Nodup) (h4:∀ k ∈ ks,k < t):takeP F (sidM F d t len bs) (len:Int) (t:Int) d (ks.map (pcM F d t len bs))=(ks.take d,(ks.take d).map fun i=>(encP d t len bs).getD i []):=by
 have:=H.take hF hl (ks:=ks) (s:=([],[])) rfl (by simp) h3 h4 (by simp)
 unfold takeP
 simpa using this
theorem nodup_le {n:Nat} {ks:List Nat} (h1:ks.Nodup) (h2:∀ k ∈ ks,k < n):ks.length≤n:=by
 have hp:((List.range n).filter fun k=>ks.contains k).Perm ks:=by
  refine (List.perm_ext_iff_of_nodup (List.nodup_range.filter _) h1).2 fun a=>?_
  simp only [List.mem_filter,List.mem_range,List.contains_eq_mem,decide_eq_true_eq]
  exact ⟨fun h=>h.2,fun h=>⟨h2 a h,h⟩⟩
 rw [← hp.length_eq]
 have:=List.length_filter_le (fun k=>ks.contains k) (List.range n)
 simpa using this
theorem Mk.datas (H:Mk F vault data total refs bs d t len) (hl:len≤40000) {ks:List Nat} (h4:∀ k ∈ ks,k < t):∀ p ∈ ks.map (pcM F d t len bs),p.2.1.length≤40000:=fun p hp=>by
 obtain ⟨i,hi,rfl⟩:=List.mem_map.1 hp
 show ((encP d t len bs).getD i []).length≤40000
 rw [H.at_len (h4 i hi)];exact hl
end
theorem plaw7 {F:Nat} (hF:50000≤F) (h8:T8 F=some true) (p0 p1 p2 p3 p4:List UInt8) (p5:List (List UInt8)) (p6 p7:Int) (p8:UInt32):T7 F p0 p1 p2 p3 p4 p5 p6 p7 p8=some true:=by
 simp only [T7,T7c,h8,Option.bind_some,Bool.not_true,cond_false]
 by_cases hl:(8:Int) < (p5.length:Int)
 ·simp only [hl,decide_true,cond_true]
 simp only [hl,decide_false,cond_false]
 obtain ⟨z,hz,hQ⟩:=iter1 (f:=fun s:Int×List Rf×List (List UInt8)=>L7_3 F p5 (p5.length:Int) p0 p1 p2 p3 p4 s.1 s.2.1 s.2.2)
  (fun s=>∃ k:Nat,s.1=(k:Int)∧k≤p5.length∧s.2.1.length=k∧s.2.2.length=k∧∀ j c,j < k->p5[j]? = some c->∃ (r:Rf) (x:List UInt8),s.2.1[j]? = some r∧s.2.2[j]? = some x∧x.length < 1000∧T31 F p0 p1 p2 p3 p4 r.1 r.2.1 r.2.2.1 x=some (c,0))
  (fun z=>z=.inr true∨∃ rs bs,z=.inl (rs,bs)∧rs.length=p5.length∧bs.length=p5.length∧∀ j c,p5[j]? = some c->∃ (r:Rf) (x:List UInt8),rs[j]? = some r∧bs[j]? = some x∧x.length < 1000∧T31 F p0 p1 p2 p3 p4 r.1 r.2.1 r.2.2.1 x=some (c,0)) (fun s=>p5.length - s.1.toNat) (fun s hs=>by
   obtain ⟨k,e,hk,a1,a2,a3⟩:=hs
   obtain ⟨s1,rs,bs⟩:=s
   simp only at e a1 a2 a3
   subst e
   rcases Nat.lt_or_ge k p5.length with hlt | hge
   ·have hc1:((k:Nat):Int) < (p5.length:Int):=by omega
    have hr:p5[k]? = some p5[k]:=List.getElem?_eq_getElem hlt
    have hix:=ixn hr
    generalize p5[k]=c at hr hix
    by_cases hc:200 < c.length
    ·have c1:(200:Int) < (c.length:Int):=by omega
     exact .inr ⟨.inr true,by simp only [L7_3,L7_3c,hc1,decide_true,cond_true,hix,c1,Option.bind_some],.inl rfl⟩
    have c1:¬ (200:Int) < (c.length:Int):=by omega
    obtain ⟨nm,sz',e,x,hS,hE⟩:=seal_open (F:=F) (by omega) (p0:=p0) (p1:=p1) (p2:=p2) (p3:=p3) (p4:=p4) (c:=c) (by omega)
    rcases hE with he | ⟨rfl,rfl,hnm,hx,hO⟩
    ·have he':(e != 0)=true:=by simpa using he
     exact .inr ⟨.inr true,by simp only [L7_3,L7_3c,hc1,decide_true,cond_true,hix,c1,decide_false,cond_false,hS,he',Option.bind_some],.inl rfl⟩
    ·have hg1:gapp rs ([(nm,(0:Int),(c.length:Int),())]:List Rf)=some (rs ++ [(nm,(0:Int),(c.length:Int),())]):=gappn (by simp;omega)
     have hg2:gapp bs ([x]:List (List UInt8))=some (bs ++ [x]):=gappn (by simp;omega)
     refine .inl ⟨(((k + 1:Nat):Int),rs ++ [(nm,(0:Int),(c.length:Int),())],bs ++ [x]),?_,⟨k + 1,rfl,by omega,by simp [a1],by simp [a2],fun j c' hj hc'=>?_⟩,by simp only [Int.toNat_natCast];omega⟩
     ·simp only [L7_3,L7_3c,hc1,decide_true,cond_true,hix,c1,decide_false,cond_false,hS,bne_self_eq_false,hg1,hg2,Option.bind_some,w64n (show k < 9223372036854775807 by omega)]
     ·by_cases hjk:j=k
      ·subst hjk
       rw [hr] at hc'
       obtain rfl:c=c':=by simpa using hc'
       exact ⟨(nm,(0:Int),(c.length:Int),()),x,by simp [← a1],by simp [← a2],hx,hO⟩
      ·obtain ⟨r,x',q1,q2,q3⟩:=a3 j c' (by omega) hc'
       exact ⟨r,x',by rw [List.getElem?_append_left (by omega)];exact q1,by rw [List.getElem?_append_left (by omega)];exact q2,q3⟩
   ·have hkn:k=p5.length:=by omega
    subst hkn
    refine .inr ⟨.inl (rs,bs),?_,.inr ⟨rs,bs,rfl,a1,a2,fun j c hc=>a3 j c (by have:=(List.getElem?_eq_some_iff.1 hc).1;exact this) hc⟩⟩
    simp [L7_3,L7_3c])
  F ((0:Int),([]:List Rf),([]:List (List UInt8))) ⟨0,rfl,by omega,rfl,rfl,fun j c h=>absurd h (by omega)⟩ (by simp;omega)
 rw [hz]
 rcases hQ with rfl | ⟨rs,bs,rfl,hrl,hbl,hop⟩
 ·simp only [Option.bind_some,elimS]
 have hb1000:∀ b ∈ bs,b.length≤40960:=fun b hb=>by
  obtain ⟨j,hj⟩:=List.getElem?_of_mem hb
  have hj2:=(List.getElem?_eq_some_iff.1 hj).1
  obtain ⟨r,x,q1,q2,q3,q4⟩:=hop j _ (List.getElem?_eq_getElem (show j < p5.length by omega))
  rw [hj] at q2
  obtain rfl:b=x:=by simpa using q2
  omega
 have hm:=make_ok (F:=F) hF (vault:=0) (data:=p6) (total:=p7) (refs:=rs) (bs:=bs) (by omega) hb1000
 simp only [Option.bind_some,elimS,hm]
 cases hok:okMake 0 p6 p7 rs bs with
 | false=>
  obtain ⟨ks,k1,k2,k3⟩:=some_ok (F:=F) (by omega) (l:=([]:List Pc)) (g:=fun _=>((([],0,()),[],[],()):Pc)) (by simp) (fun k hk=>by simp at hk) p8
  simp only [cond_false,noStripe,k3,Option.bind_some]
  rfl
 | true=>
  obtain ⟨d,t,len,H⟩:=mk_of (F:=F) hok
  have ht16:=H.t16;have hd8:=H.d8;have hnd:=H.nd;have hbn:=H.bn;have hn1:=H.n1
  have hlen:len≤1000:=by
   have h0:bs[0]? = some (bs[0]'(by omega)):=List.getElem?_eq_getElem (by omega)
   obtain ⟨r,x,q1,q2,q3,q4⟩:=hop 0 _ (List.getElem?_eq_getElem (show 0 < p5.length by omega))
   have:=H.bl x (List.mem_of_getElem? q2)
   omega
  have hpl:(mkP F (encP d t len bs)).length=t:=by rw [mkP_len,encP_len]
  obtain ⟨ks,k1,k2,k3⟩:=some_ok (F:=F) (by omega) (l:=mkP F (encP d t len bs)) (g:=pcM F d t len bs) (by omega) (fun k hk=>mkP_at (by omega)) p8
  rw [hpl] at k2
  have kl:=nodup_le k1 k2
  have hb:=H.back hF (by omega) (ks:=ks) (l:=ks.map (pcM F d t len bs)) (by simp;omega) (H.datas (by omega) k2) k1 k2 (H.take_all (by omega) (by omega) k1 k2)
  have e1:=H.hd;have e2:=H.ht;have e3:=H.hl
  simp only [cond_true,theStripe,e1,e2,e3,Int.toNat_natCast]
  have hsid:rt F F ((encP d t len bs).map (hsh F))=sidM F d t len bs:=rfl
  simp only [hsid,k3,Option.bind_some,bne_self_eq_false,cond_false,List.length_map]
  by_cases hk:ks.length < d
  ·have c1:(ks.length:Int) < (d:Int):=by omega
   simp only [c1,decide_true,cond_true]
  ·have c1:¬ (ks.length:Int) < (d:Int):=by omega
   rw [decide_eq_false hk,cond_false] at hb
   have hbl':((bs.length:Int) != (p5.length:Int))=false:=by rw [hbl];simp
   have hlo:iter (fun s=>L7_4 F rs p5 (p5.length:Int) p0 p1 p2 p3 p4 rs bs s) F (0:Int)=some (.inl ()):=by
    refine same_loop (n:=p5.length) (by omega) (by omega) (fun k hk'=>?_) ?_
    ·have hc1:((k:Nat):Int) < (p5.length:Int):=by omega
     have hr:p5[k]? = some p5[k]:=List.getElem?_eq_getElem hk'
     obtain ⟨r,x,q1,q2,q3,q4⟩:=hop k _ hr
     have hf:=find_ok (F:=F) (by omega) (refs:=rs) (by omega) r.1
     rw [vF_fnd (k:=0) H.v q1,Nat.zero_add] at hf
     have hi:inb bs.length (k:Int)=some k:=inbn (by omega)
     simp only [L7_4,L7_4c,hc1,decide_true,cond_true,ixn hr,ixn q1,hi,q2,hf,q4,Option.bind_some,bne_self_eq_false,cond_false,w64n (show k < 9223372036854775807 by omega)]
    ·simp [L7_4,L7_4c]
   simp only [c1,decide_false,cond_false,T23,T23c,hb,Option.bind_some,bne_self_eq_false,hbl',hlo,elimS]
end Go.Proofs.YtpnhgldpeiogbaaGreatDoor
