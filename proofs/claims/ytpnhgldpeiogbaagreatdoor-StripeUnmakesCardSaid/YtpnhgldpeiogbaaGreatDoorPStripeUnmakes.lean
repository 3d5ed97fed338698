/- The plain law. -/
import Derived.Test.YtpnhgldpeiogbaaGreatDoorUJ
namespace Go.Tw
set_option linter.unusedSimpArgs false
set_option linter.unusedVariables false
end Go.Tw
namespace Go.Proofs.YtpnhgldpeiogbaaGreatDoor
open Go.Tw
set_option linter.unusedSimpArgs false
set_option linter.unusedVariables false
theorem r_pieces {F d t len:Nat} (hF:2000 + len < F) (hd:d≤8) (ht:t≤16) {bs:List (List UInt8)} (hb1:1≤bs.length) (hbd:bs.length≤d) (hl2:len≤65536) (hb:∀ b ∈ bs,b.length=len):T44 F (d:Int) (t:Int) bs=some (mkP F (encP d t len bs)):=by
 have he:=r_encode (F:=F) (by omega) hd ht hb1 hbd hl2 hb
 have hm:=encP_mem (d:=d) (t:=t) hb
 have hlen:=encP_len d t len bs
 generalize encP d t len bs=xs at he hm hlen
 have hs:iter (fun s:Int×List (List UInt8)=>L44_3 F (xs.length:Int) xs s.1 s.2) F ((0:Int),([]:List (List UInt8)))=some (xs.map (hsh F)):=by
  obtain ⟨z,hz,hQ⟩:=iter1 (f:=fun s:Int×List (List UInt8)=>L44_3 F (xs.length:Int) xs s.1 s.2)
   (fun s=>∃ k:Nat,s.1=(k:Int)∧k≤xs.length∧s.2=(xs.take k).map (hsh F)) (fun z=>z=xs.map (hsh F)) (fun s=>xs.length - s.1.toNat) (fun s hs=>by
    obtain ⟨k,e,hk,hl3⟩:=hs
    obtain ⟨s1,l⟩:=s
    simp only at e hl3
    subst e hl3
    rcases Nat.lt_or_ge k xs.length with hlt | hge
    ·have hc1:((k:Nat):Int) < (xs.length:Int):=by omega
     have hr:xs[k]? = some xs[k]:=List.getElem?_eq_getElem hlt
     have hx:=hm _ (List.getElem_mem hlt)
     have hi:inb xs.length (k:Int)=some k:=inbn hlt
     generalize xs[k]=x at hr hx
     have hp:=r_psum (F:=F) (by omega) (x:=x) (by omega)
     have hg:gapp ((xs.take k).map (hsh F)) [hsh F x]=some ((xs.take k).map (hsh F) ++ [hsh F x]):=gappn (by simp;omega)
     exact .inl ⟨(((k + 1:Nat):Int),(xs.take k).map (hsh F) ++ [hsh F x]),by simp only [L44_3,L44_3c,hc1,decide_true,cond_true,hi,hr,hp,hg,Option.bind_some,w64n (show k < 9223372036854775807 by omega)],⟨k + 1,rfl,by omega,by rw [takeS' hr];simp⟩,by simp only [Int.toNat_natCast];omega⟩
    ·have hkn:k=xs.length:=by omega
     subst hkn
     refine .inr ⟨(xs.take xs.length).map (hsh F),?_,by rw [List.take_length]⟩
     simp only [L44_3,L44_3c,show ¬ ((xs.length:Int) < (xs.length:Int)) by omega,decide_false,cond_false])
   F ((0:Int),([]:List (List UInt8))) ⟨0,rfl,by omega,rfl⟩ (by simp;omega)
  subst hQ
  exact hz
 have hr:=r_root (F:=F) (by omega) (l:=xs.map (hsh F)) (by simp;omega) (fun y hy=>by
  obtain ⟨x,hx,rfl⟩:=List.mem_map.1 hy
  exact hsh_len (by omega) (by rw [hm x hx];exact hl2))
 have hp:iter (fun s:Int×List Pc=>L44_4 F (xs.map (hsh F)) (xs.length:Int) xs s.1 s.2) F ((0:Int),([]:List Pc))=some (mkP F xs):=by
  obtain ⟨z,hz,hQ⟩:=iter1 (f:=fun s:Int×List Pc=>L44_4 F (xs.map (hsh F)) (xs.length:Int) xs s.1 s.2)
   (fun s=>∃ k:Nat,s.1=(k:Int)∧k≤xs.length∧s.2=(List.range k).map fun i:Nat=>((rt F F (xs.map (hsh F)),(i:Int),()),xs.getD i [],xs.map (hsh F),())) (fun z=>z=mkP F xs) (fun s=>xs.length - s.1.toNat) (fun s hs=>by
    obtain ⟨k,e,hk,hl2⟩:=hs
    obtain ⟨s1,l⟩:=s
    simp only at e hl2
    subst e hl2
    rcases Nat.lt_or_ge k xs.length with hlt | hge
    ·have hc1:((k:Nat):Int) < (xs.length:Int):=by omega
     have hr2:xs[k]? = some xs[k]:=List.getElem?_eq_getElem hlt
     have hi:inb xs.length (k:Int)=some k:=inbn hlt
     have hgd:xs.getD k []=xs[k]:=by simp [hlt]
     have hg:∀ (l:List Pc) (y:Pc),l.length≤100->gapp l [y]=some (l ++ [y]):=fun l y h=>gappn (by simp;omega)
     refine .inl ⟨(((k + 1:Nat):Int),((List.range k).map fun i:Nat=>((rt F F (xs.map (hsh F)),(i:Int),()),xs.getD i [],xs.map (hsh F),())) ++ [((rt F F (xs.map (hsh F)),(k:Int),()),xs[k],xs.map (hsh F),())]),by simp only [L44_4,L44_4c,hc1,decide_true,cond_true,hi,hr2,hr,Option.bind_some,w64n (show k < 9223372036854775807 by omega)];rw [hg _ _ (by simp;omega)];rfl,⟨k + 1,rfl,by omega,by rw [List.range_succ,List.map_append,← hgd];rfl⟩,by simp only [Int.toNat_natCast];omega⟩
    ·have hkn:k=xs.length:=by omega
     subst hkn
     refine .inr ⟨_,?_,rfl⟩
     simp only [L44_4,L44_4c,show ¬ ((xs.length:Int) < (xs.length:Int)) by omega,decide_false,cond_false];rfl)
   F ((0:Int),([]:List Pc)) ⟨0,rfl,by omega,rfl⟩ (by simp;omega)
  subst hQ
  exact hz
 simp only [T44,T44c,he,Option.bind_some,hs,hp]
theorem rvalid_d (F:Nat) (data total:Int):T45 F data total=some (decide (1≤data∧data≤8∧data≤total∧total≤16)):=by
 simp only [T45,T45c]
 by_cases h1:1≤data<;>by_cases h2:data≤8<;>by_cases h3:data≤total<;>by_cases h4:total≤16<;>simp [h1,h2,h3,h4]
theorem r_class_all {F:Nat} (hF:2000 < F) {refs:List Rf} (hl:refs.length≤1000) (hv:∀ r ∈ refs,0≤r.2.2.1∧r.2.2.1≤32768) (c:Int) :
  iter (fun s=>L17_2 F refs (refs.length:Int) c s) F (0:Int)=some (bif refs.all (fun r=>clsOf r.2.2.1 == c) then .inl () else .inr false):=by
 obtain ⟨z,hz,hQ⟩:=iter1 (f:=fun s:Int=>L17_2 F refs (refs.length:Int) c s)
  (fun s=>∃ k:Nat,s=(k:Int)∧k≤refs.length∧(refs.drop k).all (fun r=>clsOf r.2.2.1 == c)=refs.all (fun r=>clsOf r.2.2.1 == c)) (fun z=>z=(bif refs.all (fun r=>clsOf r.2.2.1 == c) then .inl () else .inr false)) (fun s=>refs.length - s.toNat) (fun s hs=>by
   obtain ⟨k,e,hk,ha⟩:=hs
   subst e
   rcases Nat.lt_or_ge k refs.length with hlt | hge
   ·have hc1:((k:Nat):Int) < (refs.length:Int):=by omega
    have hr:refs[k]? = some refs[k]:=List.getElem?_eq_getElem hlt
    have hix:=ixn hr
    have hx:=hv _ (List.getElem_mem hlt)
    have hd:=drop_at hr
    generalize refs[k]=x at hr hix hx hd
    have hh:=refclass (F:=F) (by omega) hx.1 hx.2
    rw [hd,List.all_cons] at ha
    cases h1:clsOf x.2.2.1 == c with
    | false=>
     have h1':(clsOf x.2.2.1 != c)=true:=by simp [bne,h1]
     rw [h1,Bool.false_and] at ha
     exact .inr ⟨.inr false,by simp only [L17_2,L17_2c,hc1,decide_true,cond_true,hix,hh,h1',Option.bind_some],by rw [← ha];rfl⟩
    | true=>
     have h1':(clsOf x.2.2.1 != c)=false:=by simp [bne,h1]
     rw [h1,Bool.true_and] at ha
     exact .inl ⟨((k + 1:Nat):Int),by simp only [L17_2,L17_2c,hc1,decide_true,cond_true,hix,hh,h1',Option.bind_some,cond_false,w64n (show k < 9223372036854775807 by omega)],⟨k + 1,rfl,by omega,ha⟩,by simp only [Int.toNat_natCast];omega⟩
   ·have hkn:k=refs.length:=by omega
    subst hkn
    rw [List.drop_length] at ha
    refine .inr ⟨.inl (),?_,by rw [← ha];rfl⟩
    simp [L17_2,L17_2c])
  F (0:Int) ⟨0,rfl,by omega,rfl⟩ (by simp;omega)
 subst hQ
 exact hz
theorem r_valid {F:Nat} (hF:2000 < F) (id:List UInt8) (vault block data total:Int) {refs:List Rf} (hl:refs.length≤1000):T17 F id vault block data total refs=some (okS id vault block data total refs):=by
 have h41:=valid11 (refs:=refs) hl hF
 have bad:∀ {p:Prop} [Decidable p] {c:Bool},¬ p->(decide p && c)=false:=fun {p} _ c h=>by simp [h]
 simp only [T17,T17c,h41,rvalid_d,Option.bind_some]
 unfold okS
 by_cases c0:id.length=32
 case neg=>
  have:((id.length:Int) != 32)=true:=by
   have:¬ (id.length:Int)=32:=by omega
   simpa using this
  simp only [this,cond_true];rw [bad (fun h=>c0 h.1)]
 have e0:((id.length:Int) != 32)=false:=by rw [c0];rfl
 simp only [e0,cond_false]
 by_cases c1:vault < 0
 ·simp only [c1,decide_true,cond_true];rw [bad (by omega)]
 simp only [c1,decide_false,cond_false]
 by_cases c2:11 < vault
 ·simp only [c2,decide_true,cond_true];rw [bad (by omega)]
 simp only [c2,decide_false,cond_false]
 by_cases c3:1≤data∧data≤8∧data≤total∧total≤16
 case neg=>simp only [c3,decide_false,Bool.not_false,cond_true];rw [bad (fun h=>c3 ⟨h.2.2.2.1,h.2.2.2.2.1,h.2.2.2.2.2.1,h.2.2.2.2.2.2.1⟩)]
 have c3':decide (1≤data∧data≤8∧data≤total∧total≤16)=true:=by simpa using c3
 simp only [c3',Bool.not_true,cond_false]
 by_cases c4:(refs.length:Int) < 1
 ·simp only [c4,decide_true,cond_true];rw [bad (by omega)]
 simp only [c4,decide_false,cond_false]
 by_cases c5:data < (refs.length:Int)
 ·simp only [c5,decide_true,cond_true];rw [bad (by omega)]
 simp only [c5,decide_false,cond_false]
 cases c6:vRs refs with
 | false=>simp only [Bool.not_false,cond_true,Bool.false_and,Bool.and_false]
 | true=>
 have hp:decide (id.length=32∧0≤vault∧vault≤11∧1≤data∧data≤8∧data≤total∧total≤16∧1≤refs.length∧(refs.length:Int)≤data)=true:=by apply decide_eq_true;omega
 have hlo:=r_class_all hF hl (vRs_size c6) block
 simp only [Bool.not_true,cond_false,Bool.true_and,hlo,Option.bind_some,hp]
 cases refs.all (fun r=>clsOf r.2.2.1 == block)<;>rfl
theorem same14 {F:Nat} (hF:2000 < F) (a:List UInt8) (b:Int) (c:List UInt8) {l:List (List UInt8)} (hl:l.length≤1000):T14 F a b c l a b c l=some true:=by
 have h:iter (fun s=>L14_2 F (l.length:Int) l l s) F (0:Int)=some (.inl ()):=by
  refine same_loop (n:=l.length) (by omega) (by omega) (fun k hk=>?_) ?_
  ·have hr:l[k]? = some l[k]:=List.getElem?_eq_getElem hk
   have hc1:((k:Nat):Int) < (l.length:Int):=by omega
   simp only [L14_2,L14_2c,hc1,decide_true,cond_true,ixn hr,Option.bind_some,bne_self_eq_false,cond_false,w64n (show k < 9223372036854775807 by omega)]
  ·simp [L14_2,L14_2c]
 simp only [T14,T14c,beq_self_eq_true,Bool.and_self,Bool.not_true,bne_self_eq_false,cond_false,h,Option.bind_some,elimS]
theorem mkP_mem {F:Nat} {xs:List (List UInt8)}:∀ p ∈ mkP F xs,p.2.2.1.length=xs.length:=fun p hp=>by
 obtain ⟨i,_,rfl⟩:=List.mem_map.1 hp
 simp
theorem mkP_len (F:Nat) (xs:List (List UInt8)):(mkP F xs).length=xs.length:=by simp [mkP]
theorem rsums_loop {F:Nat} (hF:2000 < F) {sums:List (List UInt8)} (hl:sums.length≤1000):iter (fun s=>L19_2 F sums (sums.length:Int) s) F (0:Int)=some (bif all32 sums then .inl () else .inr false):=by
 obtain ⟨z,hz,hQ⟩:=iter1 (f:=fun s:Int=>L19_2 F sums (sums.length:Int) s)
  (fun s=>∃ k:Nat,s=(k:Int)∧k≤sums.length∧(sums.drop k).all (fun s=>s.length == 32)=all32 sums) (fun z=>z=(bif all32 sums then .inl () else .inr false)) (fun s=>sums.length - s.toNat) (fun s hs=>by
   obtain ⟨k,e,hk,ha⟩:=hs
   subst e
   rcases Nat.lt_or_ge k sums.length with hlt | hge
   ·have hc1:((k:Nat):Int) < (sums.length:Int):=by omega
    have hr:sums[k]? = some sums[k]:=List.getElem?_eq_getElem hlt
    have hix:=ixn hr
    have hd:=drop_at hr
    generalize sums[k]=x at hr hix hd
    rw [hd,List.all_cons] at ha
    have ht:=len32 x
    cases h1:x.length == 32 with
    | false=>
     rw [h1] at ht
     rw [h1,Bool.false_and] at ha
     exact .inr ⟨.inr false,by simp only [L19_2,L19_2c,hc1,decide_true,cond_true,hix,ht,Option.bind_some,Bool.not_false],by rw [← ha];rfl⟩
    | true=>
     rw [h1] at ht
     rw [h1,Bool.true_and] at ha
     exact .inl ⟨((k + 1:Nat):Int),by simp only [L19_2,L19_2c,hc1,decide_true,cond_true,hix,ht,Option.bind_some,Bool.not_true,cond_false,w64n (show k < 9223372036854775807 by omega)],⟨k + 1,rfl,by omega,ha⟩,by simp only [Int.toNat_natCast];omega⟩
   ·have hkn:k=sums.length:=by omega
    subst hkn
    rw [List.drop_length] at ha
    refine .inr ⟨.inl (),?_,by rw [← ha];rfl⟩
    simp [L19_2,L19_2c])
  F (0:Int) ⟨0,rfl,by omega,rfl⟩ (by simp;omega)
 subst hQ
 exact hz
theorem r_verify {F:Nat} (hF:2000 < F) (id:List UInt8) (index:Int) (data:List UInt8) {sums:List (List UInt8)}:T19 F id index data sums=some (okP F id index data sums):=by
 have bad:∀ {p:Prop} [Decidable p] {c:Bool},¬ p->(decide p && c)=false:=fun {p} _ c h=>by simp [h]
 simp only [T19,T19c]
 unfold okP
 by_cases c0:id.length=32
 case neg=>
  have:((id.length:Int) != 32)=true:=by
   have:¬ (id.length:Int)=32:=by omega
   simpa using this
  simp only [this,cond_true];rw [bad (fun h=>c0 h.1)]
 have e0:((id.length:Int) != 32)=false:=by rw [c0];rfl
 simp only [e0,cond_false]
 by_cases c2:16 < (sums.length:Int)
 ·simp only [c2,decide_true,cond_true];rw [bad (by omega)]
 simp only [c2,decide_false,cond_false]
 by_cases c3:index < 0
 ·simp only [c3,decide_true,cond_true];rw [bad (by omega)]
 simp only [c3,decide_false,cond_false]
 by_cases c4:(sums.length:Int)≤index
 ·simp only [c4,decide_true,cond_true];rw [bad (by omega)]
 simp only [c4,decide_false,cond_false]
 by_cases c5:(data.length:Int) < 1
 ·simp only [c5,decide_true,cond_true];rw [bad (by omega)]
 simp only [c5,decide_false,cond_false]
 by_cases c6:(65536:Int) < (data.length:Int)
 ·simp only [c6,decide_true,cond_true];rw [bad (by omega)]
 have hs:=rsums_loop hF (sums:=sums) (by omega)
 simp only [c6,decide_false,cond_false,hs,Option.bind_some]
 cases ha:all32 sums with
 | false=>simp only [cond_false,elimS,Bool.false_and,Bool.and_false]
 | true=>
 have hof:=r_psum hF (x:=data) (by omega)
 obtain ⟨i,rfl⟩:∃ i:Nat,index=(i:Int):=⟨index.toNat,by omega⟩
 have hr:sums[i]? = some (sums[i]'(by omega)):=List.getElem?_eq_getElem (by omega)
 have hgd:sums.getD i []=sums[i]'(by omega):=by simp [show i < sums.length by omega]
 have hrt:=r_root hF (l:=sums) (by omega) (all32_mem ha)
 have hp:decide (id.length=32∧1≤sums.length∧sums.length≤16∧0≤(i:Int)∧(i:Int) < (sums.length:Int)∧1≤data.length∧data.length≤65536)=true:=by apply decide_eq_true;omega
 simp only [cond_true,elimS,hof,Option.bind_some,ixn hr,hrt,hp,Bool.true_and,Int.toNat_natCast,hgd]
 cases sums[i]'(by omega) == hsh F data<;>simp
theorem r_fits {F:Nat} (hF:2000 < F) (sid:List UInt8) (vault block d total:Int) {refs:List Rf} (hl:refs.length≤1000) (id:List UInt8) (index:Int) (data:List UInt8) {sums:List (List UInt8)}:T21 F sid vault block d total refs id index data sums=some (okS sid vault block d total refs && okF F sid block total id index data sums):=by
 simp only [T21,T21c,r_valid hF sid vault block d total hl,r_verify hF,Option.bind_some]
 unfold okF
 cases okS sid vault block d total refs<;>cases okP F id index data sums<;>cases id == sid<;>cases (sums.length:Int) == total<;>cases (data.length:Int) == block<;>simp
theorem known_ok {F:Nat} (hF:2000 < F) {l:List Int} (hl:l.length≤1000) (x:Int) (b:Bool):iter (fun s:Bool×Int=>L25_6 F (l.length:Int) l x s.1 s.2) F (b,(0:Int))=some (b || l.contains x):=by
 obtain ⟨z,hz,hQ⟩:=iter1 (f:=fun s:Bool×Int=>L25_6 F (l.length:Int) l x s.1 s.2)
  (fun s=>∃ k:Nat,s.2=(k:Int)∧k≤l.length∧(s.1 || (l.drop k).contains x)=(b || l.contains x)) (fun z=>z=(b || l.contains x)) (fun s=>l.length - s.2.toNat) (fun s hs=>by
   obtain ⟨k,e,hk,ha⟩:=hs
   obtain ⟨s1,s2⟩:=s
   simp only at e ha
   subst e
   rcases Nat.lt_or_ge k l.length with hlt | hge
   ·have hc1:((k:Nat):Int) < (l.length:Int):=by omega
    have hr:l[k]? = some l[k]:=List.getElem?_eq_getElem hlt
    have hi:inb l.length (k:Int)=some k:=inbn hlt
    have hd:=drop_at hr
    generalize l[k]=a at hr hd
    rw [hd,List.contains_cons] at ha
    cases s1 with
    | true=>exact .inl ⟨(true,((k + 1:Nat):Int)),by simp only [L25_6,L25_6c,hc1,decide_true,cond_true,hi,hr,Option.bind_some,w64n (show k < 9223372036854775807 by omega)],⟨k + 1,rfl,by omega,by rw [← ha,Bool.true_or,Bool.true_or]⟩,by simp only [Int.toNat_natCast];omega⟩
    | false=>exact .inl ⟨(a == x,((k + 1:Nat):Int)),by simp only [L25_6,L25_6c,hc1,decide_true,cond_true,cond_false,hi,hr,Option.bind_some,w64n (show k < 9223372036854775807 by omega)],⟨k + 1,rfl,by omega,by rw [← ha,Bool.false_or,BEq.comm (a:=a)]⟩,by simp only [Int.toNat_natCast];omega⟩
   ·have hkn:k=l.length:=by omega
    subst hkn
    rw [List.drop_length] at ha
    refine .inr ⟨s1,by simp only [L25_6,L25_6c,show ¬ ((l.length:Int) < (l.length:Int)) by omega,decide_false,cond_false],?_⟩
    rw [← ha];simp)
  F (b,(0:Int)) ⟨0,rfl,by omega,rfl⟩ (by simp;omega)
 subst hQ
 exact hz
theorem takeR_loop {F:Nat} (hF:2000 < F) {sid:List UInt8} {vault block total:Int} {d:Nat} {refs:List Rf} (hrl:refs.length≤1000) (hd:d≤8) (hS:okS sid vault block (d:Int) total refs=true) {l:List Pc} (hl:l.length≤1000) :
  iter (fun s:Int×List Int×List (List UInt8)=>L25_5 F l (l.length:Int) sid vault block (d:Int) total refs s.1 s.2.1 s.2.2) F ((0:Int),([]:List Int),([]:List (List UInt8)))=some (toI (takeP F sid block total d l).1,(takeP F sid block total d l).2):=by
 obtain ⟨z,hz,hQ⟩:=iter1 (f:=fun s:Int×List Int×List (List UInt8)=>L25_5 F l (l.length:Int) sid vault block (d:Int) total refs s.1 s.2.1 s.2.2)
  (fun s=>∃ k:Nat,s.1=(k:Int)∧k≤l.length∧∃ st,TK F sid block total d st∧s.2.1=toI st.1∧s.2.2=st.2∧(l.drop k).foldl (stepP F sid block total d) st=takeP F sid block total d l) (fun z=>z=(toI (takeP F sid block total d l).1,(takeP F sid block total d l).2)) (fun s=>l.length - s.1.toNat) (fun s hs=>by
   obtain ⟨k,e,hk,st,hT,e1,e2,hf⟩:=hs
   obtain ⟨s1,s2,s3⟩:=s
   simp only at e e1 e2
   subst e e1 e2
   rcases Nat.lt_or_ge k l.length with hlt | hge
   ·have hc1:((k:Nat):Int) < (l.length:Int):=by omega
    have hr:l[k]? = some l[k]:=List.getElem?_eq_getElem hlt
    have hix:=ixn hr
    have hd':=drop_at hr
    generalize l[k]=p at hr hix hd'
    have hle:=hT.le
    have h1:=hT.len
    have hil:(toI st.1).length=st.1.length:=by simp
    have hfit:=r_fits hF sid vault block (d:Int) total hrl p.1.1 p.1.2.1 p.2.1 (sums:=p.2.2.1)
    rw [hS,Bool.true_and] at hfit
    have hkn:=known_ok hF (l:=toI st.1) (by omega) p.1.2.1 (!okF F sid block total p.1.1 p.1.2.1 p.2.1 p.2.2.1)
    have g1:gapp (toI st.1) [p.1.2.1]=some (toI st.1 ++ [p.1.2.1]):=gappn (by simp;omega)
    have g2:gapp st.2 [p.2.1]=some (st.2 ++ [p.2.1]):=gappn (by simp;omega)
    have ht:L25_5 F l (l.length:Int) sid vault block (d:Int) total refs (k:Int) (toI st.1) st.2=some (.inl (((k + 1:Nat):Int),toI (stepP F sid block total d st p).1,(stepP F sid block total d st p).2)):=by
     simp only [L25_5,L25_5c,hc1,decide_true,cond_true,hix,hfit,hkn,g1,g2,Option.bind_some,w64n (show k < 9223372036854775807 by omega)]
     unfold stepP
     cases ho:okF F sid block total p.1.1 p.1.2.1 p.2.1 p.2.2.1 with
     | false=>simp only [Bool.not_false,Bool.true_or,Bool.not_true,cond_false,Bool.false_and,Bool.and_false]
     | true=>
      obtain ⟨a1,a2,_⟩:=okF_of ho
      rw [toI_has a1]
      simp only [Bool.not_true,Bool.false_or,Bool.true_and]
      cases st.1.contains p.1.2.1.toNat with
      | true=>simp only [Bool.not_true,cond_false,Bool.and_false]
      | false=>
       simp only [Bool.not_false,cond_true,Bool.and_true]
       by_cases hfl:st.2.length < d
       ·have c1:((toI st.1).length:Int) < (d:Int):=by omega
        have e:toI (st.1 ++ [p.1.2.1.toNat])=toI st.1 ++ [p.1.2.1]:=by
         show List.map _ _=_
         rw [List.map_append,List.map_cons,List.map_nil,Int.toNat_of_nonneg a1]
        simp only [c1,hfl,decide_true,cond_true,e]
       ·have c1:¬ ((toI st.1).length:Int) < (d:Int):=by omega
        simp only [c1,hfl,decide_false,cond_false]
    rw [hd',List.foldl_cons] at hf
    exact .inl ⟨_,ht,⟨k + 1,rfl,by omega,_,hT.step p,rfl,rfl,hf⟩,by simp only [Int.toNat_natCast];omega⟩
   ·have hkn:k=l.length:=by omega
    subst hkn
    rw [List.drop_length] at hf
    have hf:st=takeP F sid block total d l:=hf
    rw [← hf]
    have hc1:¬ ((l.length:Nat):Int) < (l.length:Int):=by omega
    exact .inr ⟨(toI st.1,st.2),by simp only [L25_5,L25_5c,hc1,decide_false,cond_false],rfl⟩)
  F ((0:Int),([]:List Int),([]:List (List UInt8))) ⟨0,rfl,by omega,([],[]),TK.start,rfl,rfl,rfl⟩ (by simp;omega)
 subst hQ
 exact hz
theorem bne_zero (b:List UInt8):(b != List.replicate b.length 0) = !allZ b:=by
 unfold bne
 congr 1
 cases h:allZ b with
 | true=>
  have:b=List.replicate b.length 0:=List.eq_replicate_iff.2 ⟨rfl,fun x hx=>by
   have:=List.all_eq_true.1 h x hx
   simpa using this⟩
  rw [← this];simp
 | false=>
  have:¬ b=List.replicate b.length 0:=fun e=>by
   have h2:allZ b=true:=by rw [e];simp [allZ]
   rw [h] at h2;cases h2
  simpa using this
theorem zerosR_loop {F:Nat} (hF:2000 < F) {xs:List (List UInt8)} {n:Nat} (hn:n≤xs.length) (hl:xs.length≤100) (hx:∀ x ∈ xs,x.length≤1000000) :
  iter (fun s:(Nat×Nat)×Int=>L25_7 F ((xs.length - n:Nat):Int) xs s.1 s.2) F ((n,xs.length),(0:Int))=some (bif (xs.drop n).all allZ then .inl () else .inr (9:Int)):=by
 obtain ⟨z,hz,hQ⟩:=iter1 (f:=fun s:(Nat×Nat)×Int=>L25_7 F ((xs.length - n:Nat):Int) xs s.1 s.2)
  (fun s=>s.1=(n,xs.length)∧∃ k:Nat,s.2=(k:Int)∧k≤xs.length - n∧((xs.drop n).drop k).all allZ=(xs.drop n).all allZ) (fun z=>z=(bif (xs.drop n).all allZ then .inl () else .inr (9:Int))) (fun s=>xs.length - n - s.2.toNat) (fun s hs=>by
   obtain ⟨e0,k,e,hk,ha⟩:=hs
   obtain ⟨s1,s2⟩:=s
   simp only at e e0
   subst e e0
   rcases Nat.lt_or_ge k (xs.length - n) with hlt | hge
   ·have hc1:((k:Nat):Int) < ((xs.length - n:Nat):Int):=by omega
    have hi:inb (xs.length - n) (k:Int)=some k:=inbn hlt
    have hr:xs[n + k]? = some (xs[n + k]'(by omega)):=List.getElem?_eq_getElem (by omega)
    have hr2:(xs.drop n)[k]? = some (xs[n + k]'(by omega)):=by rw [List.getElem?_drop];exact hr
    have hxl:=hx _ (List.getElem_mem (h:=(by omega:n + k < xs.length)))
    generalize xs[n + k]'(by omega)=b at hr hr2 hxl
    have hd:=drop_at hr2
    rw [hd,List.all_cons] at ha
    have hg:=gmaken (0:UInt8) (n:=b.length) (by omega)
    have hb:=bne_zero b
    cases h1:allZ b with
    | false=>
     rw [h1] at hb
     rw [h1,Bool.false_and] at ha
     exact .inr ⟨.inr 9,by simp only [L25_7,L25_7c,hc1,decide_true,cond_true,hi,hr,hg,hb,Bool.not_false,Option.bind_some],by rw [← ha];rfl⟩
    | true=>
     rw [h1] at hb
     rw [h1,Bool.true_and] at ha
     exact .inl ⟨((n,xs.length),((k + 1:Nat):Int)),by simp only [L25_7,L25_7c,hc1,decide_true,cond_true,hi,hr,hg,hb,Bool.not_true,cond_false,Option.bind_some,w64n (show k < 9223372036854775807 by omega)],⟨rfl,k + 1,rfl,by omega,ha⟩,by simp only [Int.toNat_natCast];omega⟩
   ·have hkn:k=xs.length - n:=by omega
    subst hkn
    rw [List.drop_of_length_le (by simp)] at ha
    refine .inr ⟨.inl (),?_,by rw [← ha];rfl⟩
    have hc1:¬ (((xs.length - n:Nat):Nat):Int) < ((xs.length - n:Nat):Int):=by omega
    simp only [L25_7,L25_7c,hc1,decide_false,cond_false])
  F ((n,xs.length),(0:Int)) ⟨rfl,0,rfl,by omega,by simp⟩ (by simp;omega)
 subst hQ
 exact hz
theorem enc_data {d t len i:Nat} {xs:List (List UInt8)} (hx:xs.length=d) (hxl:∀ x ∈ xs,x.length=len) (hi:i < d) (hdt:d≤t):(encP d t len xs)[i]? = some (xs.getD i []):=by
 have hpad:padB d len xs=xs:=by unfold padB;rw [hx,Nat.sub_self];simp
 have hzl:(List.replicate len (0:UInt8)).length=len:=by simp
 have hz0:∀ t,(List.replicate len (0:UInt8)).getD t 0=0:=fun t=>by
  rw [List.getD_eq_getElem?_getD,List.getElem?_replicate];split<;>rfl
 have he:(encP d t len xs)[i]? = some (comb (rowD d i) xs (List.replicate len 0)):=by
  unfold encP
  rw [List.getElem?_map,List.getElem?_range (by omega),hpad];rfl
 rw [he]
 congr 1
 have hxi:(xs.getD i []).length=len:=hxl _ (getD_mem (by omega))
 have hcl:(comb (rowD d i) xs (List.replicate len 0)).length=len:=by rw [comb_len (fun b hb=>by rw [hxl b hb,hzl]),hzl]
 apply List.ext_getElem
 ·omega
 ·intro u u1 u2
  have g1:∀ (l:List UInt8) (h:u < l.length),l[u]=l.getD u 0:=fun l h=>by simp [h]
  rw [g1 _ u1,g1 _ u2,comb_gd (by rw [rowD_len,hx]) (fun b hb=>by rw [hxl b hb,hzl]),hz0,zx,hx]
  rw [dsum_one (n:=d) (f:=fun j=>gm ((rowD d i).getD j 0) ((xs.getD j []).getD u 0)) (j:=i) hi (fun k hk hki=>by
   show gm ((rowD d i).getD k 0) ((xs.getD k []).getD u 0)=0
   rw [rowD_get hk];unfold cell
   rw [if_neg (by omega),if_neg (fun e=>hki e.symm),zero_gm])]
  show gm ((rowD d i).getD i 0) ((xs.getD i []).getD u 0)=_
  rw [rowD_get hi];unfold cell
  rw [if_neg (by omega),if_pos rfl,one_gm]
theorem both {F:Nat} (hF:50000≤F) {sid:List UInt8} {vault block:Int} {d t:Nat} {refs:List Rf} (hl:refs.length≤1000) {l:List Pc} (hll:l.length≤1000) (hx:∀ p ∈ l,p.2.1.length≤40000) (h:okS sid vault block (d:Int) (t:Int) refs=true) :
  ∃ (e:Int) (bs:List (List UInt8)) (all:List Pc),T55 F sid vault block (d:Int) (t:Int) refs l=some (e,bs,all)∧T25 F sid vault block (d:Int) (t:Int) refs l=some (e,all)∧(e ≠ 0∧bs=[]∧all=[]∨e=0∧bs.length=refs.length∧all.length=t∧(∀ p ∈ all,p.2.2.1.length=t)∧∀ i,i < refs.length->∃ p,all[i]? = some p∧bs[i]? = some p.2.1):=by
 have ho:=okS_of h
 have htR:=takeR_loop (F:=F) (by omega) hl (by omega) h hll
 by_cases hs:(takeP F sid block (t:Int) d l).2.length < d
 ·have hr:=restore_short (F:=F) (by omega) hl hll h hs
  have hT:=takeP_TK F sid block (t:Int) d l
  have c1:((toI (takeP F sid block (t:Int) d l).1).length:Int) < (d:Int):=by have:=hT.len;simp;omega
  refine ⟨10,[],[],hr,?_,.inl ⟨by decide,rfl,rfl⟩⟩
  simp only [T25,T25c,htR,c1,decide_true,cond_true,Option.bind_some]
 ·have hT:=takeP_TK F sid block (t:Int) d l
  have hle:=hT.le
  have hs2:(takeP F sid block (t:Int) d l).2.length=d:=by omega
  obtain ⟨B,b1,b2,b3,b4,b5,b6,b7⟩:=restore_ok hF hl hll hx h hs2
  have hil:(takeP F sid block (t:Int) d l).1.length=d:=by rw [hT.len,hs2]
  obtain ⟨xs,x1,x2,x3,x4⟩:=reconR_ok (F:=F) (d:=d) (len:=block.toNat) (by omega) (by omega) (by omega) (by omega) hil hT.nd (fun i hi=>by have:=hT.lt i hi;omega) hs2 b4
  have hout:(B.map fun b=>comb b (takeP F sid block (t:Int) d l).2 (List.replicate block.toNat 0))=xs:=by
   rw [← x4]
   exact inv_comb hil b1 b2 b3 x2 x3
  rw [hout] at b7
  have c1:¬ ((toI (takeP F sid block (t:Int) d l).1).length:Int) < (d:Int):=by simp;omega
  have hg:gslb xs.length (refs.length:Int) (xs.length:Int)=some (refs.length,xs.length):=gslb_nat (by omega) (Nat.le_refl _)
  have hz:=zerosR_loop (F:=F) (by omega) (xs:=xs) (n:=refs.length) (by omega) (by omega) (fun x hx'=>by rw [x3 x hx'];omega)
  have hp:=r_pieces (F:=F) (d:=d) (t:=t) (len:=block.toNat) (bs:=xs) (by omega) (by omega) (by omega) (by omega) (by omega) (by omega) x3
  have hpl:(mkP F (encP d t block.toNat xs)).length=t:=by rw [mkP_len,encP_len]
  have hi0:inb (mkP F (encP d t block.toNat xs)).length (0:Int)=some 0:=inbn (i:=0) (by omega)
  have hat:∀ i,i < t->(mkP F (encP d t block.toNat xs))[i]? = some ((rt F F ((encP d t block.toNat xs).map (hsh F)),(i:Int),()),(encP d t block.toNat xs).getD i [],(encP d t block.toNat xs).map (hsh F),()):=fun i hi=>by
   unfold mkP
   rw [List.getElem?_map,List.getElem?_range (by rw [encP_len];exact hi)];rfl
  have hj0:=hat 0 (by omega)
  have hW:T25 F sid vault block (d:Int) (t:Int) refs l=some ((finR F sid d t block.toNat refs.length xs).1,(finR F sid d t block.toNat refs.length xs).2.2):=by
   simp only [T25,T25c,htR,c1,decide_false,cond_false,x1,hg,hz,Option.bind_some]
   unfold finR
   cases (xs.drop refs.length).all allZ with
   | false=>simp only [cond_false,elimS]
   | true=>
    simp only [cond_true,elimS,hp,hi0,hj0,Option.bind_some]
    by_cases hid:rt F F ((encP d t block.toNat xs).map (hsh F))=sid
    ·rw [hid];simp
    ·have e4:(rt F F ((encP d t block.toNat xs).map (hsh F)) == sid)=false:=by simpa using hid
     have e5:(rt F F ((encP d t block.toNat xs).map (hsh F)) != sid)=true:=by simpa [bne] using hid
     simp only [e4,e5,cond_true,cond_false]
  refine ⟨(finR F sid d t block.toNat refs.length xs).1,(finR F sid d t block.toNat refs.length xs).2.1,(finR F sid d t block.toNat refs.length xs).2.2,b7,hW,?_⟩
  unfold finR
  cases (xs.drop refs.length).all allZ with
  | false=>exact .inl ⟨by simp,rfl,rfl⟩
  | true=>
   cases rt F F ((encP d t block.toNat xs).map (hsh F)) == sid with
   | false=>exact .inl ⟨by simp,rfl,rfl⟩
   | true=>
    refine .inr ⟨rfl,by simp;omega,hpl,fun p hp'=>by rw [mkP_mem p hp',encP_len],fun i hi=>⟨_,hat i (by omega),?_⟩⟩
    show (xs.take refs.length)[i]? = some ((encP d t block.toNat xs).getD i [])
    rw [List.getElem?_take_of_lt hi,List.getD_eq_getElem?_getD,enc_data x2 x3 (by omega) (by omega),getD_at (by omega)]
    rfl
theorem wide_ok {F:Nat} (hF:0 < F) {l:List Pc} (hl:l.length≤9223372036854775807):∃ b,T15 F l=some b∧(b=false->l.length≤20∧∀ p ∈ l,p.2.1.length≤1200):=by
 obtain ⟨z,hz,hQ⟩:=iter1 (f:=fun s:Int=>L15_2 (F + l.length) l (l.length:Int) s)
  (fun s=>∃ k:Nat,s=(k:Int)∧k≤l.length∧∀ p ∈ l.take k,p.2.1.length≤1200) (fun z=>z=.inr true∨z=.inl ()∧∀ p ∈ l,p.2.1.length≤1200) (fun s=>l.length - s.toNat) (fun s hs=>by
   obtain ⟨k,e,hk,ha⟩:=hs
   subst e
   rcases Nat.lt_or_ge k l.length with hlt | hge
   ·have hc1:((k:Nat):Int) < (l.length:Int):=by omega
    have hr:l[k]? = some l[k]:=List.getElem?_eq_getElem hlt
    have hix:=ixn hr
    generalize l[k]=x at hr hix
    by_cases h4:(1200:Int) < (x.2.1.length:Int)
    ·exact .inr ⟨.inr true,by simp only [L15_2,L15_2c,hc1,decide_true,cond_true,hix,h4,Option.bind_some],.inl rfl⟩
    ·by_cases h5:(40:Int) < (x.2.2.1.length:Int)
     ·exact .inr ⟨.inr true,by simp only [L15_2,L15_2c,hc1,decide_true,cond_true,hix,h4,h5,decide_false,cond_false,Option.bind_some],.inl rfl⟩
     ·refine .inl ⟨((k + 1:Nat):Int),by simp only [L15_2,L15_2c,hc1,decide_true,cond_true,hix,h4,h5,decide_false,cond_false,Option.bind_some,w64n (show k < 9223372036854775807 by omega)],⟨k + 1,rfl,by omega,fun y hy=>?_⟩,by simp only [Int.toNat_natCast];omega⟩
      rw [takeS' hr] at hy
      rcases List.mem_append.1 hy with hy | hy
      ·exact ha y hy
      ·simp at hy;subst hy;omega
   ·have hkn:k=l.length:=by omega
    subst hkn
    rw [List.take_length] at ha
    refine .inr ⟨.inl (),?_,.inr ⟨rfl,ha⟩⟩
    simp [L15_2,L15_2c])
  (F + l.length) (0:Int) ⟨0,rfl,by omega,by simp⟩ (by simp;omega)
 have h:T15 F l=T15w (F + l.length) l:=rfl
 rw [h]
 simp only [T15w,T15wc,hz,Option.bind_some]
 rcases hQ with rfl | ⟨rfl,ha⟩
 ·exact ⟨true,rfl,fun h=>by cases h⟩
 ·refine ⟨_,rfl,fun h=>⟨?_,ha⟩⟩
  have:=of_decide_eq_false h
  omega
theorem plaw5 {F:Nat} (hF:50000≤F) (h8:T8 F=some true) (p0:List UInt8) (p1 p2 p3 p4:Int) (p5:List Rf) (p6:List Pc) (p7:Int) (hl:p6.length≤9223372036854775807):T5 F p0 p1 p2 p3 p4 p5 p6 p7=some true:=by
 obtain ⟨b,hb,hbf⟩:=wide_ok (F:=F) (by omega) hl
 have hn:T14 F ([]:List UInt8) (0:Int) ([]:List UInt8) ([]:List (List UInt8)) ([]:List UInt8) (0:Int) ([]:List UInt8) ([]:List (List UInt8))=some true:=same14 (by omega) [] 0 [] (by simp)
 simp only [T5,T5c,h8,hb,Option.bind_some,Bool.not_true,cond_false]
 by_cases h20:(20:Int) < (p5.length:Int)
 ·simp only [h20,decide_true,cond_true]
 simp only [h20,decide_false,cond_false]
 cases b with
 | true=>rfl
 | false=>
 obtain ⟨hl6,hx6⟩:=hbf rfl
 have hck:=check_ok (F:=F) (by omega) p0 p1 p2 p3 p4 (refs:=p5) (by omega)
 have hv:=r_valid (F:=F) (by omega) p0 p1 p2 p3 p4 (refs:=p5) (by omega)
 cases hS:okS p0 p1 p2 p3 p4 p5 with
 | false=>
  have hr:=restore_bad (F:=F) (by omega) (refs:=p5) (by omega) p6 hS
  rw [hS] at hck hv
  simp only [cond_false,T23,T23c,T24,T24c,hr,hck,hv,Option.bind_some,Bool.not_false,cond_true,beq_self_eq_true,show ((1:Int) != 0)=true from rfl,hn]
  rfl
 | true=>
 have ho:=okS_of hS
 obtain ⟨d,rfl⟩:∃ d:Nat,p3=(d:Int):=⟨p3.toNat,by omega⟩
 obtain ⟨t,rfl⟩:∃ t:Nat,p4=(t:Int):=⟨p4.toNat,by omega⟩
 obtain ⟨e,bs,all,q1,q2,q3⟩:=both hF (l:=p6) (by omega) (by omega) (fun p hp=>by have:=hx6 p hp;omega) hS
 rw [hS] at hck hv
 have hU:T23 F p0 p1 p2 (d:Int) (t:Int) p5 p6=some (e,bs):=by
  simp only [T23,T23c,q1,Option.bind_some]
 have hend:(bif e != 0 then some ((bs.length:Int) == 0) else bif (bs.length:Int) != (p5.length:Int) then some false else Option.bind (iter (fun s=>L5_4 F (bs.length:Int) bs all s) F (0:Int)) fun z=>elimS (fun z=>some true) (fun z=>some z) z)=some true:=by
  rcases q3 with ⟨e1,e2,e3⟩ | ⟨e1,e2,e3,e4,e5⟩
  ·have:(e != 0)=true:=by simpa [bne] using e1
   subst e2 e3
   simp only [this,cond_true];rfl
  ·have hlo:iter (fun s=>L5_4 F (bs.length:Int) bs all s) F (0:Int)=some (.inl ()):=by
    refine same_loop (n:=bs.length) (by omega) (by omega) (fun k hk=>?_) ?_
    ·have hc1:((k:Nat):Int) < (bs.length:Int):=by omega
     obtain ⟨p,r1,r2⟩:=e5 k (by omega)
     have hi:inb bs.length (k:Int)=some k:=inbn hk
     have hi2:inb all.length (k:Int)=some k:=inbn (by omega)
     simp only [L5_4,L5_4c,hc1,decide_true,cond_true,hi,hi2,r1,r2,Option.bind_some,bne_self_eq_false,cond_false,w64n (show k < 9223372036854775807 by omega)]
    ·simp [L5_4,L5_4c]
   have e6:((bs.length:Int) != (p5.length:Int))=false:=by rw [e2];simp
   subst e1
   simp only [bne_self_eq_false,cond_false,e6,hlo,Option.bind_some,elimS]
 by_cases hin:p7 < 0∨(t:Int)≤p7
 ·have hR:T24 F p0 p1 p2 (d:Int) (t:Int) p5 p6 p7=some ([],0,[],[],1):=by
   by_cases h1:p7 < 0
   ·simp only [T24,T24c,hck,cond_true,bne_self_eq_false,cond_false,h1,decide_true,Option.bind_some]
   ·have h2:(t:Int)≤p7:=by omega
    simp only [T24,T24c,hck,cond_true,bne_self_eq_false,cond_false,h1,h2,decide_true,decide_false,Option.bind_some]
  have hL:L5_3 F p7 1 e true [] 0 [] [] all=some (.inl ()):=by
   simp only [L5_3,L5_3c,cond_true,bne_self_eq_false,cond_false,hn,Option.bind_some,Bool.not_true]
  simp only [cond_false,hU,hR,hv,q2,Option.bind_some,Bool.not_true,bne_self_eq_false]
  by_cases h1:p7 < 0
  ·simp only [h1,decide_true,cond_true,hL,Option.bind_some,elimS];exact hend
  ·have h2:(t:Int)≤p7:=by omega
   simp only [h1,h2,decide_true,decide_false,cond_false,hL,Option.bind_some,elimS];exact hend
 ·obtain ⟨k,rfl⟩:∃ k:Nat,p7=(k:Int):=⟨p7.toNat,by omega⟩
  have h1:¬ (k:Int) < 0:=by omega
  have h2:¬ (t:Int)≤(k:Int):=by omega
  rcases q3 with ⟨e1,e2,e3⟩ | ⟨e1,e2,e3,e4,e5⟩
  ·have hne:(e != 0)=true:=by simpa [bne] using e1
   have heq:(e == 0)=false:=by simpa using e1
   have hR:T24 F p0 p1 p2 (d:Int) (t:Int) p5 p6 (k:Int)=some ([],0,[],[],e):=by
    simp only [T24,T24c,hck,cond_true,bne_self_eq_false,cond_false,h1,h2,decide_false,q1,hne,Option.bind_some]
   have hL:L5_3 F (k:Int) e e false [] 0 [] [] all=some (.inl ()):=by
    simp only [L5_3,L5_3c,cond_true,bne_self_eq_false,cond_false,hne,heq,hn,Option.bind_some,Bool.not_true]
   simp only [cond_false,hU,hR,hv,q2,Option.bind_some,Bool.not_true,bne_self_eq_false,h1,h2,decide_false,hL,elimS];exact hend
  ·subst e1
   have hkt:k < all.length:=by omega
   have hi:inb all.length (k:Int)=some k:=inbn hkt
   have hp:all[k]? = some all[k]:=List.getElem?_eq_getElem hkt
   have hpm:=e4 _ (List.getElem_mem hkt)
   generalize all[k]=p at hp hpm
   have hs:=same14 (F:=F) (by omega) p.1.1 p.1.2.1 p.2.1 (l:=p.2.2.1) (by omega)
   have hR:T24 F p0 p1 p2 (d:Int) (t:Int) p5 p6 (k:Int)=some (p.1.1,p.1.2.1,p.2.1,p.2.2.1,0):=by
    simp only [T24,T24c,hck,cond_true,bne_self_eq_false,cond_false,h1,h2,decide_false,q1,hi,hp,Option.bind_some]
   have hL:L5_3 F (k:Int) 0 0 false p.1.1 p.1.2.1 p.2.1 p.2.2.1 all=some (.inl ()):=by
    simp only [L5_3,L5_3c,cond_true,bne_self_eq_false,beq_self_eq_true,cond_false,hi,hp,hs,Option.bind_some,Bool.not_true]
   simp only [cond_false,hU,hR,hv,q2,Option.bind_some,Bool.not_true,bne_self_eq_false,h1,h2,decide_false,hL,elimS];exact hend
theorem flaw5 (a0:Ty.den (.pr .s (.pr .i (.pr .i (.pr .i (.pr .i (.pr (.sl (.pr .s (.pr .i (.pr .i .un)))) .un))))))) (a1:Ty.den (.sl (.pr (.pr .s (.pr .i .un)) (.pr (.sl .u8) (.pr (.sl .s) .un))))) (a2:Int) (_:tyW (.pr .s (.pr .i (.pr .i (.pr .i (.pr .i (.pr (.sl (.pr .s (.pr .i (.pr .i .un)))) .un)))))) a0) (h1:tyW (.sl (.pr (.pr .s (.pr .i .un)) (.pr (.sl .u8) (.pr (.sl .s) .un)))) a1) (_:-9223372036854775808≤a2∧a2≤9223372036854775807):T5 50000 a0.1 a0.2.1 a0.2.2.1 a0.2.2.2.1 a0.2.2.2.2.1 a0.2.2.2.2.2.1 a1 a2=some true:=plaw5 (by omega) awake8 _ _ _ _ _ _ _ _ (Nat.le_trans h1.1 (by decide))
end Go.Proofs.YtpnhgldpeiogbaaGreatDoor
