/- The plain law. -/
import Derived.Test.YtooplgiihmdfgaaDoorJ
namespace Go.Proofs.YtooplgiihmdfgaaDoor
open Go.Tw
set_option linter.unusedSimpArgs false
set_option linter.unusedVariables false
theorem same24 {F:Nat} (hF:2000 < F) (a:List UInt8) (b:Int) (c:List UInt8) {l:List (List UInt8)} (hl:l.length≤1000):T24 F a b c l a b c l=some true:=by
 have h:iter (fun s=>L24_2 F (l.length:Int) l l s) F (0:Int)=some (.inl ()):=by
  refine same_loop (n:=l.length) (by omega) (by omega) (fun k hk=>?_) ?_
  ·have hr:l[k]? = some l[k]:=List.getElem?_eq_getElem hk
   have hc1:((k:Nat):Int) < (l.length:Int):=by omega
   simp only [L24_2,L24_2c,hc1,decide_true,cond_true,ixn hr,Option.bind_some,bne_self_eq_false,cond_false,w64n (show k < 9223372036854775807 by omega)]
  ·simp [L24_2,L24_2c]
 simp only [T24,T24c,beq_self_eq_true,Bool.and_self,Bool.not_true,bne_self_eq_false,cond_false,h,Option.bind_some,elimS]
theorem mkP_sums {F:Nat} {xs:List (List UInt8)}:∀ p ∈ mkP F xs,p.2.2.1.length=xs.length:=fun p hp=>by
 obtain ⟨i,_,rfl⟩:=List.mem_map.1 hp
 simp
theorem seal26 {F:Nat} (hF:41000 < F) {s k c:List UInt8} (hc:c.length≤200):∃ D:Nat,T15 F (c.length:Int)=some ((D:Int),0)∧D≤40960 ∧
  (k.length=16->(bodyL D c k).length=D) ∧
  T26 F s k c=some (if k.length=16∧s.length=D then (0,xorL (bodyL D c k) s) else (1,[])):=by
 obtain ⟨j,hj,h1,h2,_⟩:=class_spec (F:=F) (by omega) (n:=(c.length:Int)) (by omega) (by omega)
 have hb:=cls_b ⟨j,hj⟩
 simp only at hb
 have hD:((cls j).toNat:Int)=cls j:=by omega
 refine ⟨(cls j).toNat,by rw [hD];exact h1,by omega,fun hk=>bodyL_len (by omega) hk (by rw [Int.toNat_natCast] at h2;omega),?_⟩
 by_cases hk:k.length=16
 ·by_cases hs:s.length=(cls j).toNat
  ·rw [if_pos ⟨hk,hs⟩]
   exact (t34 hF (by omega) hk hj h1 hs).1
  ·rw [if_neg (fun h=>hs h.2)]
   obtain ⟨j',hj',h1',h2',h3⟩:=t18 (F:=F) (by omega) (c:=c) (by omega) hk
   rw [h1] at h1'
   have hjj:cls j=cls j':=by simpa using h1'
   rw [← hjj] at h3
   have hl:=bodyL_len (D:=(cls j).toNat) (c:=c) (by omega) hk (by rw [Int.toNat_natCast] at h2;omega)
   have hx:=t57n (F:=F) (a:=bodyL (cls j).toNat c k) (b:=s) (by omega)
   have e0:((0:Int) != 0)=false:=by decide
   simp only [T26,T26c,h3,Option.bind_some,e0,cond_false,hx]
 ·rw [if_neg (fun h=>hk h.1)]
  have hk':((k.length:Int) != 16)=true:=by
   have:¬ (k.length:Int)=16:=by omega
   simpa using this
  simp only [T26,T26c,T44,T44c,hk',cond_true,Option.bind_some];rfl
theorem ref28 (F:Nat) (b:UInt8):∃ nm z,T28 F b=some (nm,z):=by
 have hg:=gmaken (0:UInt8) (n:=32) (by omega)
 have hi:inb (List.replicate 32 (0:UInt8)).length (0:Int)=some 0:=inbn (i:=0) (by simp)
 have hs:gstr ((List.replicate 32 (0:UInt8)).set 0 b)=some ((List.replicate 32 (0:UInt8)).set 0 b):=by unfold gstr;rw [if_pos (by simp)]
 exact ⟨_,_,by simp only [T28,T28c,show (32:Int)=((32:Nat):Int) from rfl,hg,hi,hs,Option.bind_some];rfl⟩
theorem plaw7 {F:Nat} (hF:50000≤F) (h8:T8 F=some true) (p0 p1 p2:List (List UInt8)) (p3:List UInt8) (p4 p5:Int):T7 F p0 p1 p2 p3 p4 p5=some true:=by
 simp only [T7,T7c,h8,Option.bind_some,Bool.not_true,cond_false]
 by_cases hl:(8:Int) < (p1.length:Int)
 ·simp only [hl,decide_true,cond_true]
 by_cases hl2:p1.length=p2.length
 case neg=>
  have:((p1.length:Int) != (p2.length:Int))=true:=by
   have:¬ (p1.length:Int)=(p2.length:Int):=by omega
   simpa using this
  simp only [hl,decide_false,cond_false,this,cond_true]
 by_cases hl0:p1.length=p0.length
 case neg=>
  have:((p1.length:Int) != (p0.length:Int))=true:=by
   have:¬ (p1.length:Int)=(p0.length:Int):=by omega
   simpa using this
  have e2:((p1.length:Int) != (p2.length:Int))=false:=by rw [hl2];simp
  simp only [hl,decide_false,cond_false,e2,this,cond_true]
 have e2:((p1.length:Int) != (p2.length:Int))=false:=by rw [hl2];simp
 have e0:((p1.length:Int) != (p0.length:Int))=false:=by rw [hl0];simp
 simp only [hl,decide_false,cond_false,e2,e0]
 obtain ⟨z,hz,hQ⟩:=iter1 (f:=fun s:Int×List Rf×List (List UInt8)×List (List UInt8)=>L7_3 F p0 p2 p3 p1 (p1.length:Int) s.1 s.2.1 s.2.2.1 s.2.2.2)
  (fun s=>∃ k:Nat,s.1=(k:Int)∧k≤p1.length∧s.2.1.length=k∧s.2.2.1=s.2.2.2∧s.2.2.1.length=k∧∀ b ∈ s.2.2.1,b.length≤40960)
  (fun z=>z=.inr true∨∃ rs bs,z=.inl (rs,bs,bs)∧rs.length≤8∧∀ b ∈ bs,b.length≤40960) (fun s=>p1.length - s.1.toNat) (fun s hs=>by
   obtain ⟨k,e,hk,a1,a2,a3,a4⟩:=hs
   obtain ⟨s1,rs,bs,bs'⟩:=s
   simp only at e a1 a2 a3 a4
   subst e a2
   rcases Nat.lt_or_ge k p1.length with hlt | hge
   ·have hc1:((k:Nat):Int) < (p1.length:Int):=by omega
    have hr:p1[k]? = some p1[k]:=List.getElem?_eq_getElem hlt
    have hr0:p0[k]? = some (p0[k]'(by omega)):=List.getElem?_eq_getElem (by omega)
    have hr2:p2[k]? = some (p2[k]'(by omega)):=List.getElem?_eq_getElem (by omega)
    have hix:=ixn hr
    have hix0:=ixn hr0
    have hix2:=ixn hr2
    generalize p1[k]=c at hix
    generalize p0[k]'(by omega)=st at hix0
    generalize p2[k]'(by omega)=o at hix2
    by_cases hc:200 < c.length
    ·have c1:(200:Int) < (c.length:Int):=by omega
     exact .inr ⟨.inr true,by simp only [L7_3,L7_3c,hc1,decide_true,cond_true,hix,c1,Option.bind_some],.inl rfl⟩
    have c1:¬ (200:Int) < (c.length:Int):=by omega
    by_cases ho:200 < o.length
    ·have c2:(200:Int) < (o.length:Int):=by omega
     exact .inr ⟨.inr true,by simp only [L7_3,L7_3c,hc1,decide_true,cond_true,hix,hix2,c1,c2,decide_false,cond_false,Option.bind_some],.inl rfl⟩
    have c2:¬ (200:Int) < (o.length:Int):=by omega
    obtain ⟨D,d1,d2,d3,d4⟩:=seal26 (F:=F) (by omega) (s:=st) (k:=p3) (c:=c) (by omega)
    by_cases hg:p3.length=16∧st.length=D
    ·rw [if_pos hg] at d4
     have hbl:=d3 hg.1
     have hxl:(xorL (bodyL D c p3) st).length=D:=by rw [xorL_len (by omega)];exact hbl
     generalize hb:xorL (bodyL D c p3) st=b at d4 hxl
     obtain ⟨E,e1,e2,e3,e4⟩:=seal26 (F:=F) (by omega) (s:=b) (k:=p3) (c:=o) (by omega)
     by_cases hDE:D=E
     ·subst hDE
      rw [if_pos ⟨hg.1,hxl⟩] at e4
      have hex:T27 F b p3 o=some (0,xorL (bodyL D o p3) b):=by
       simp only [T27,T27c,e4,Option.bind_some]
      obtain ⟨E',f1,f2,f3,f4⟩:=seal26 (F:=F) (by omega) (s:=xorL (bodyL D o p3) b) (k:=p3) (c:=o) (by omega)
      have hE':E'=D:=by
       rw [e1] at f1
       have:(D:Int)=(E':Int):=by simpa using f1
       omega
      subst hE'
      have hol:=f3 hg.1
      rw [if_pos ⟨hg.1,by rw [xorL_len (by omega)];exact hol⟩,xorL_cancel (by omega)] at f4
      obtain ⟨nm,z,hrf⟩:=ref28 F (UInt8.ofInt (k:Int))
      have hg1:gapp rs ([(nm,z,(c.length:Int),())]:List Rf)=some (rs ++ [(nm,z,(c.length:Int),())]):=gappn (by simp;omega)
      have hg2:gapp bs ([b]:List (List UInt8))=some (bs ++ [b]):=gappn (by simp;omega)
      refine .inl ⟨(((k + 1:Nat):Int),rs ++ [(nm,z,(c.length:Int),())],bs ++ [b],bs ++ [b]),?_,⟨k + 1,rfl,by omega,by simp [a1],rfl,by simp [a3],fun y hy=>?_⟩,by simp only [Int.toNat_natCast];omega⟩
      ·simp only [L7_3,L7_3c,hc1,decide_true,cond_true,hix,hix0,hix2,c1,c2,decide_false,cond_false,Option.bind_some,d4,bne_self_eq_false,hex,d1,e1,f4,hrf,hg1,hg2,w64n (show k < 9223372036854775807 by omega)]
      ·rcases List.mem_append.1 hy with hy | hy
       ·exact a4 y hy
       ·simp at hy;subst hy;omega
     ·have hne:((D:Int) != (E:Int))=true:=by
       have:¬ (D:Int)=(E:Int):=by omega
       simpa using this
      obtain ⟨y1,y2,hex⟩:∃ y1 y2,T27 F b p3 o=some (y1,y2):=⟨_,_,by simp only [T27,T27c,e4,Option.bind_some];rfl⟩
      exact .inr ⟨.inr true,by simp only [L7_3,L7_3c,hc1,decide_true,cond_true,hix,hix0,hix2,c1,c2,decide_false,cond_false,Option.bind_some,d4,bne_self_eq_false,hex,d1,e1,hne],.inl rfl⟩
    ·rw [if_neg hg] at d4
     have h10:((1:Int) != 0)=true:=by decide
     exact .inr ⟨.inr true,by simp only [L7_3,L7_3c,hc1,decide_true,cond_true,hix,hix0,hix2,c1,c2,decide_false,cond_false,Option.bind_some,d4,h10],.inl rfl⟩
   ·have hkn:k=p1.length:=by omega
    subst hkn
    refine .inr ⟨.inl (rs,bs,bs),?_,.inr ⟨rs,bs,rfl,by omega,a4⟩⟩
    simp [L7_3,L7_3c])
  F ((0:Int),([]:List Rf),([]:List (List UInt8)),([]:List (List UInt8))) ⟨0,rfl,by omega,rfl,rfl,rfl,fun b h=>by simp at h⟩ (by simp;omega)
 rw [hz]
 rcases hQ with rfl | ⟨rs,bs,rfl,hrl,hbl⟩
 ·simp only [Option.bind_some,elimS]
 have hm:=make_ok (F:=F) hF (vault:=0) (data:=p4) (total:=p5) (refs:=rs) (bs:=bs) (by omega) hbl
 have hlp:∀ l:List Pc,l.length≤1000->(∀ p ∈ l,p.2.2.1.length≤1000)->iter (fun s=>L7_4 F (l.length:Int) l l s) F (0:Int)=some (.inl ()):=fun l hl h=>by
  refine same_loop (n:=l.length) (by omega) (by omega) (fun k hk=>?_) ?_
  ·have hr:l[k]? = some l[k]:=List.getElem?_eq_getElem hk
   have hc1:((k:Nat):Int) < (l.length:Int):=by omega
   have hi:inb l.length (k:Int)=some k:=inbn hk
   have hs:=same24 (F:=F) (by omega) l[k].1.1 l[k].1.2.1 l[k].2.1 (l:=l[k].2.2.1) (h _ (List.getElem_mem hk))
   simp only [L7_4,L7_4c,hc1,decide_true,cond_true,hi,hr,hs,Option.bind_some,Bool.not_true,cond_false,w64n (show k < 9223372036854775807 by omega)]
  ·simp [L7_4,L7_4c]
 simp only [Option.bind_some,elimS,hm,bne_self_eq_false,cond_false]
 cases hok:okMake 0 p4 p5 rs bs with
 | false=>
  have:=hlp [] (by simp) (fun p h=>by simp at h)
  simp only [cond_false,noStripe,this,Option.bind_some]
 | true=>
  unfold okMake at hok
  simp only [Bool.and_eq_true] at hok
  have hp:=of_decide_eq_true hok.1
  have hxl:=encP_len p4.toNat p5.toNat (hc rs).toNat bs
  have:=hlp (mkP F (encP p4.toNat p5.toNat (hc rs).toNat bs)) (by simp [mkP,hxl];omega) (fun p h=>by rw [mkP_sums p h,hxl];omega)
  simp only [cond_true,theStripe,this,Option.bind_some]
end Go.Proofs.YtooplgiihmdfgaaDoor
