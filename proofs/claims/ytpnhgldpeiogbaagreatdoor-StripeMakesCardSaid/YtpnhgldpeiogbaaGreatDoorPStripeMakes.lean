/- The plain law. -/
import Derived.Test.YtpnhgldpeiogbaaGreatDoorJ
namespace Go.Proofs.YtpnhgldpeiogbaaGreatDoor
open Go.Tw
set_option linter.unusedSimpArgs false
set_option linter.unusedVariables false
theorem r_pieces {F d t len:Nat} (hF:2000 + len < F) (hd:d≤8) (ht:t≤16) {bs:List (List UInt8)} (hb1:1≤bs.length) (hbd:bs.length≤d) (hl2:len≤65536) (hb:∀ b ∈ bs,b.length=len):T44 F (d:Int) (t:Int) bs=some (mkP F (encP d t len bs)):=by
 have he:=r_encode (F:=F) (by omega) hd ht hb1 hbd hl2 hb
 have hm:=encP_mem (d:=d) (t:=t) hb
 have hlen:=encP_len d t len bs
 generalize encP d t len bs=xs at he hm hlen
 have hs:iter (fun s:Int×List (List UInt8)=>L44_3 F (xs.length:Int) xs s.1 s.2) F ((0:Int),([]:List (List UInt8)))=some (xs.map (hsh F)):=by
  obtain ⟨z,hz,hQ⟩:=iter1 (f:=fun s:Int×List (List UInt8)=>L44_3 F (xs.length:Int) xs s.1 s.2)
   (fun s=>∃ k:Nat,s.1=(k:Int)∧k≤xs.length∧s.2=(xs.take k).map (hsh F)) (fun z=>z=xs.map (hsh F)) (fun s=>xs.length - s.1.toNat) (fun s hs=>by
    obtain ⟨k,e,hk,hl3⟩:=hs
    obtain ⟨s1,l⟩:=s
    simp only at e hl3
    subst e hl3
    rcases Nat.lt_or_ge k xs.length with hlt | hge
    ·have hc1:((k:Nat):Int) < (xs.length:Int):=by omega
     have hr:xs[k]? = some xs[k]:=List.getElem?_eq_getElem hlt
     have hx:=hm _ (List.getElem_mem hlt)
     have hi:inb xs.length (k:Int)=some k:=inbn hlt
     generalize xs[k]=x at hr hx
     have hp:=r_psum (F:=F) (by omega) (x:=x) (by omega)
     have hg:gapp ((xs.take k).map (hsh F)) [hsh F x]=some ((xs.take k).map (hsh F) ++ [hsh F x]):=gappn (by simp;omega)
     exact .inl ⟨(((k + 1:Nat):Int),(xs.take k).map (hsh F) ++ [hsh F x]),by simp only [L44_3,L44_3c,hc1,decide_true,cond_true,hi,hr,hp,hg,Option.bind_some,w64n (show k < 9223372036854775807 by omega)],⟨k + 1,rfl,by omega,by rw [takeS' hr];simp⟩,by simp only [Int.toNat_natCast];omega⟩
    ·have hkn:k=xs.length:=by omega
     subst hkn
     refine .inr ⟨(xs.take xs.length).map (hsh F),?_,by rw [List.take_length]⟩
     simp only [L44_3,L44_3c,show ¬ ((xs.length:Int) < (xs.length:Int)) by omega,decide_false,cond_false])
   F ((0:Int),([]:List (List UInt8))) ⟨0,rfl,by omega,rfl⟩ (by simp;omega)
  subst hQ
  exact hz
 have hr:=r_root (F:=F) (by omega) (l:=xs.map (hsh F)) (by simp;omega) (fun y hy=>by
  obtain ⟨x,hx,rfl⟩:=List.mem_map.1 hy
  exact hsh_len (by omega) (by rw [hm x hx];exact hl2))
 have hp:iter (fun s:Int×List Pc=>L44_4 F (xs.map (hsh F)) (xs.length:Int) xs s.1 s.2) F ((0:Int),([]:List Pc))=some (mkP F xs):=by
  obtain ⟨z,hz,hQ⟩:=iter1 (f:=fun s:Int×List Pc=>L44_4 F (xs.map (hsh F)) (xs.length:Int) xs s.1 s.2)
   (fun s=>∃ k:Nat,s.1=(k:Int)∧k≤xs.length∧s.2=(List.range k).map fun i:Nat=>((rt F F (xs.map (hsh F)),(i:Int),()),xs.getD i [],xs.map (hsh F),())) (fun z=>z=mkP F xs) (fun s=>xs.length - s.1.toNat) (fun s hs=>by
    obtain ⟨k,e,hk,hl2⟩:=hs
    obtain ⟨s1,l⟩:=s
    simp only at e hl2
    subst e hl2
    rcases Nat.lt_or_ge k xs.length with hlt | hge
    ·have hc1:((k:Nat):Int) < (xs.length:Int):=by omega
     have hr2:xs[k]? = some xs[k]:=List.getElem?_eq_getElem hlt
     have hi:inb xs.length (k:Int)=some k:=inbn hlt
     have hgd:xs.getD k []=xs[k]:=by simp [hlt]
     have hg:∀ (l:List Pc) (y:Pc),l.length≤100->gapp l [y]=some (l ++ [y]):=fun l y h=>gappn (by simp;omega)
     refine .inl ⟨(((k + 1:Nat):Int),((List.range k).map fun i:Nat=>((rt F F (xs.map (hsh F)),(i:Int),()),xs.getD i [],xs.map (hsh F),())) ++ [((rt F F (xs.map (hsh F)),(k:Int),()),xs[k],xs.map (hsh F),())]),by simp only [L44_4,L44_4c,hc1,decide_true,cond_true,hi,hr2,hr,Option.bind_some,w64n (show k < 9223372036854775807 by omega)];rw [hg _ _ (by simp;omega)];rfl,⟨k + 1,rfl,by omega,by rw [List.range_succ,List.map_append,← hgd];rfl⟩,by simp only [Int.toNat_natCast];omega⟩
    ·have hkn:k=xs.length:=by omega
     subst hkn
     refine .inr ⟨_,?_,rfl⟩
     simp only [L44_4,L44_4c,show ¬ ((xs.length:Int) < (xs.length:Int)) by omega,decide_false,cond_false];rfl)
   F ((0:Int),([]:List Pc)) ⟨0,rfl,by omega,rfl⟩ (by simp;omega)
  subst hQ
  exact hz
 simp only [T44,T44c,he,Option.bind_some,hs,hp]
theorem rvalid_d (F:Nat) (data total:Int):T45 F data total=some (decide (1≤data∧data≤8∧data≤total∧total≤16)):=by
 simp only [T45,T45c]
 by_cases h1:1≤data<;>by_cases h2:data≤8<;>by_cases h3:data≤total<;>by_cases h4:total≤16<;>simp [h1,h2,h3,h4]
theorem r_class_all {F:Nat} (hF:2000 < F) {refs:List Rf} (hl:refs.length≤1000) (hv:∀ r ∈ refs,0≤r.2.2.1∧r.2.2.1≤32768) (c:Int) :
  iter (fun s=>L17_2 F refs (refs.length:Int) c s) F (0:Int)=some (bif refs.all (fun r=>clsOf r.2.2.1 == c) then .inl () else .inr false):=by
 obtain ⟨z,hz,hQ⟩:=iter1 (f:=fun s:Int=>L17_2 F refs (refs.length:Int) c s)
  (fun s=>∃ k:Nat,s=(k:Int)∧k≤refs.length∧(refs.drop k).all (fun r=>clsOf r.2.2.1 == c)=refs.all (fun r=>clsOf r.2.2.1 == c)) (fun z=>z=(bif refs.all (fun r=>clsOf r.2.2.1 == c) then .inl () else .inr false)) (fun s=>refs.length - s.toNat) (fun s hs=>by
   obtain ⟨k,e,hk,ha⟩:=hs
   subst e
   rcases Nat.lt_or_ge k refs.length with hlt | hge
   ·have hc1:((k:Nat):Int) < (refs.length:Int):=by omega
    have hr:refs[k]? = some refs[k]:=List.getElem?_eq_getElem hlt
    have hix:=ixn hr
    have hx:=hv _ (List.getElem_mem hlt)
    have hd:=drop_at hr
    generalize refs[k]=x at hr hix hx hd
    have hh:=refclass (F:=F) (by omega) hx.1 hx.2
    rw [hd,List.all_cons] at ha
    cases h1:clsOf x.2.2.1 == c with
    | false=>
     have h1':(clsOf x.2.2.1 != c)=true:=by simp [bne,h1]
     rw [h1,Bool.false_and] at ha
     exact .inr ⟨.inr false,by simp only [L17_2,L17_2c,hc1,decide_true,cond_true,hix,hh,h1',Option.bind_some],by rw [← ha];rfl⟩
    | true=>
     have h1':(clsOf x.2.2.1 != c)=false:=by simp [bne,h1]
     rw [h1,Bool.true_and] at ha
     exact .inl ⟨((k + 1:Nat):Int),by simp only [L17_2,L17_2c,hc1,decide_true,cond_true,hix,hh,h1',Option.bind_some,cond_false,w64n (show k < 9223372036854775807 by omega)],⟨k + 1,rfl,by omega,ha⟩,by simp only [Int.toNat_natCast];omega⟩
   ·have hkn:k=refs.length:=by omega
    subst hkn
    rw [List.drop_length] at ha
    refine .inr ⟨.inl (),?_,by rw [← ha];rfl⟩
    simp [L17_2,L17_2c])
  F (0:Int) ⟨0,rfl,by omega,rfl⟩ (by simp;omega)
 subst hQ
 exact hz
theorem r_valid {F:Nat} (hF:2000 < F) (id:List UInt8) (vault block data total:Int) {refs:List Rf} (hl:refs.length≤1000):T17 F id vault block data total refs=some (okS id vault block data total refs):=by
 have h41:=valid11 (refs:=refs) hl hF
 have bad:∀ {p:Prop} [Decidable p] {c:Bool},¬ p->(decide p && c)=false:=fun {p} _ c h=>by simp [h]
 simp only [T17,T17c,h41,rvalid_d,Option.bind_some]
 unfold okS
 by_cases c0:id.length=32
 case neg=>
  have:((id.length:Int) != 32)=true:=by
   have:¬ (id.length:Int)=32:=by omega
   simpa using this
  simp only [this,cond_true];rw [bad (fun h=>c0 h.1)]
 have e0:((id.length:Int) != 32)=false:=by rw [c0];rfl
 simp only [e0,cond_false]
 by_cases c1:vault < 0
 ·simp only [c1,decide_true,cond_true];rw [bad (by omega)]
 simp only [c1,decide_false,cond_false]
 by_cases c2:11 < vault
 ·simp only [c2,decide_true,cond_true];rw [bad (by omega)]
 simp only [c2,decide_false,cond_false]
 by_cases c3:1≤data∧data≤8∧data≤total∧total≤16
 case neg=>simp only [c3,decide_false,Bool.not_false,cond_true];rw [bad (fun h=>c3 ⟨h.2.2.2.1,h.2.2.2.2.1,h.2.2.2.2.2.1,h.2.2.2.2.2.2.1⟩)]
 have c3':decide (1≤data∧data≤8∧data≤total∧total≤16)=true:=by simpa using c3
 simp only [c3',Bool.not_true,cond_false]
 by_cases c4:(refs.length:Int) < 1
 ·simp only [c4,decide_true,cond_true];rw [bad (by omega)]
 simp only [c4,decide_false,cond_false]
 by_cases c5:data < (refs.length:Int)
 ·simp only [c5,decide_true,cond_true];rw [bad (by omega)]
 simp only [c5,decide_false,cond_false]
 cases c6:vRs refs with
 | false=>simp only [Bool.not_false,cond_true,Bool.false_and,Bool.and_false]
 | true=>
 have hp:decide (id.length=32∧0≤vault∧vault≤11∧1≤data∧data≤8∧data≤total∧total≤16∧1≤refs.length∧(refs.length:Int)≤data)=true:=by apply decide_eq_true;omega
 have hlo:=r_class_all hF hl (vRs_size c6) block
 simp only [Bool.not_true,cond_false,Bool.true_and,hlo,Option.bind_some,hp]
 cases refs.all (fun r=>clsOf r.2.2.1 == block)<;>rfl
theorem r_made {F:Nat} (hF:2000 < F) (vault data total:Int) {refs:List Rf} {bs:List (List UInt8)} (hl:refs.length≤1000):T11 F vault data total refs bs=some (okMake vault data total refs bs):=by
 have h41:=valid11 (refs:=refs) hl hF
 have bad:∀ {p:Prop} [Decidable p] {c:Bool},¬ p->(decide p && c)=false:=fun {p} _ c h=>by simp [h]
 simp only [T11,T11c,h41,Option.bind_some]
 by_cases c7:bs.length=refs.length
 case neg=>
  have:((bs.length:Int) != (refs.length:Int))=true:=by
   have:¬ (bs.length:Int)=(refs.length:Int):=by omega
   simpa using this
  simp only [this,cond_true];unfold okMake;rw [bad (fun h=>c7 h.2.2.2.2.2.2.2.2)]
 have e7:((bs.length:Int) != (refs.length:Int))=false:=by rw [c7];simp
 simp only [e7,cond_false]
 by_cases c4:refs.length=0
 ·have:((refs.length:Int) == 0)=true:=by rw [c4];rfl
  simp only [this,cond_true];unfold okMake;rw [bad (by omega)]
 have e4:((refs.length:Int) == 0)=false:=by
  have:¬ (refs.length:Int)=0:=by omega
  simpa using this
 simp only [e4,cond_false]
 cases c6:vRs refs with
 | false=>simp only [Bool.not_false,cond_true];unfold okMake;rw [c6];simp
 | true=>
 simp only [Bool.not_true,cond_false]
 have hsz:=vRs_size c6
 obtain ⟨r,rs,hrs⟩:∃ r rs,refs=r :: rs:=by
  cases refs with
  | nil=>simp at c4
  | cons r rs=>exact ⟨r,rs,rfl⟩
 have hi0:ix refs (0:Int)=some r:=by rw [hrs];exact ixn (i:=0) rfl
 have hr0:=hsz r (by rw [hrs];simp)
 have hcl:=refclass (F:=F) (by omega) hr0.1 hr0.2
 have hhc:hc refs=clsOf r.2.2.1:=by rw [hrs];rfl
 have hlo:iter (fun s=>L11_2 F (clsOf r.2.2.1) bs (bs.length:Int) s) F (0:Int)=some (bif bs.all (fun b=>(b.length:Int) == clsOf r.2.2.1) then .inl () else .inr false):=by
  obtain ⟨z,hz,hQ⟩:=iter1 (f:=fun s:Int=>L11_2 F (clsOf r.2.2.1) bs (bs.length:Int) s)
   (fun s=>∃ k:Nat,s=(k:Int)∧k≤bs.length∧(bs.drop k).all (fun b=>(b.length:Int) == clsOf r.2.2.1)=bs.all (fun b=>(b.length:Int) == clsOf r.2.2.1)) (fun z=>z=(bif bs.all (fun b=>(b.length:Int) == clsOf r.2.2.1) then .inl () else .inr false)) (fun s=>bs.length - s.toNat) (fun s hs=>by
    obtain ⟨k,e,hk,ha⟩:=hs
    subst e
    rcases Nat.lt_or_ge k bs.length with hlt | hge
    ·have hc1:((k:Nat):Int) < (bs.length:Int):=by omega
     have hr:bs[k]? = some bs[k]:=List.getElem?_eq_getElem hlt
     have hix:=ixn hr
     have hd:=drop_at hr
     generalize bs[k]=x at hr hix hd
     rw [hd,List.all_cons] at ha
     cases h1:(x.length:Int) == clsOf r.2.2.1 with
     | false=>
      have h1':((x.length:Int) != clsOf r.2.2.1)=true:=by simp [bne,h1]
      rw [h1,Bool.false_and] at ha
      exact .inr ⟨.inr false,by simp only [L11_2,L11_2c,hc1,decide_true,cond_true,hix,h1',Option.bind_some],by rw [← ha];rfl⟩
     | true=>
      have h1':((x.length:Int) != clsOf r.2.2.1)=false:=by simp [bne,h1]
      rw [h1,Bool.true_and] at ha
      exact .inl ⟨((k + 1:Nat):Int),by simp only [L11_2,L11_2c,hc1,decide_true,cond_true,hix,h1',Option.bind_some,cond_false,w64n (show k < 9223372036854775807 by omega)],⟨k + 1,rfl,by omega,ha⟩,by simp only [Int.toNat_natCast];omega⟩
    ·have hkn:k=bs.length:=by omega
     subst hkn
     rw [List.drop_length] at ha
     refine .inr ⟨.inl (),?_,by rw [← ha];rfl⟩
     simp [L11_2,L11_2c])
   F (0:Int) ⟨0,rfl,by omega,rfl⟩ (by simp;omega)
  subst hQ
  exact hz
 have hg:gmake (0:UInt8) (32:Int) (32:Int)=some (List.replicate 32 0):=gmaken (0:UInt8) (n:=32) (by omega)
 have hva:=r_valid hF (List.replicate 32 0) vault (clsOf r.2.2.1) data total hl
 simp only [hi0,hcl,hlo,Option.bind_some,hg,hva]
 unfold okMake okS okC
 rw [hhc,c6]
 simp only [Bool.true_and]
 have hpp:(decide ((List.replicate 32 (0:UInt8)).length=32∧0≤vault∧vault≤11∧1≤data∧data≤8∧data≤total∧total≤16∧1≤refs.length∧(refs.length:Int)≤data))=decide (0≤vault∧vault≤11∧1≤data∧data≤8∧data≤total∧total≤16∧1≤refs.length∧(refs.length:Int)≤data∧bs.length=refs.length):=by
  apply decide_eq_decide.2
  simp only [List.length_replicate,true_and,c7,and_true]
 rw [hpp]
 cases bs.all (fun b=>(b.length:Int) == clsOf r.2.2.1) with
 | false=>simp only [cond_false,elimS,Bool.and_false]
 | true=>simp only [cond_true,elimS,Bool.and_true]
theorem same43 {F:Nat} (hF:2000 < F) {l:List Rf} (hl:l.length≤1000):T43 F l l=some true:=by
 have h:iter (fun s=>L43_2 F l l (l.length:Int) s) F (0:Int)=some (.inl ()):=by
  refine same_loop (n:=l.length) (by omega) (by omega) (fun k hk=>?_) ?_
  ·have hr:l[k]? = some l[k]:=List.getElem?_eq_getElem hk
   have hc1:((k:Nat):Int) < (l.length:Int):=by omega
   simp only [L43_2,L43_2c,hc1,decide_true,cond_true,ixn hr,Option.bind_some,beq_self_eq_true,Bool.and_self,Bool.not_true,cond_false,w64n (show k < 9223372036854775807 by omega)]
  ·simp [L43_2,L43_2c]
 simp only [T43,T43c,bne_self_eq_false,cond_false,h,Option.bind_some,elimS]
theorem same12 {F:Nat} (hF:2000 < F) (a:List UInt8) (b c d e:Int) {l:List Rf} (hl:l.length≤1000):T12 F a b c d e l a b c d e l=some true:=by
 simp only [T12,T12c,beq_self_eq_true,cond_true,same43 hF hl,Option.bind_some]
theorem same14 {F:Nat} (hF:2000 < F) (a:List UInt8) (b:Int) (c:List UInt8) {l:List (List UInt8)} (hl:l.length≤1000):T14 F a b c l a b c l=some true:=by
 have h:iter (fun s=>L14_2 F (l.length:Int) l l s) F (0:Int)=some (.inl ()):=by
  refine same_loop (n:=l.length) (by omega) (by omega) (fun k hk=>?_) ?_
  ·have hr:l[k]? = some l[k]:=List.getElem?_eq_getElem hk
   have hc1:((k:Nat):Int) < (l.length:Int):=by omega
   simp only [L14_2,L14_2c,hc1,decide_true,cond_true,ixn hr,Option.bind_some,bne_self_eq_false,cond_false,w64n (show k < 9223372036854775807 by omega)]
  ·simp [L14_2,L14_2c]
 simp only [T14,T14c,beq_self_eq_true,Bool.and_self,Bool.not_true,bne_self_eq_false,cond_false,h,Option.bind_some,elimS]
theorem mkP_mem {F:Nat} {xs:List (List UInt8)}:∀ p ∈ mkP F xs,p.2.2.1.length=xs.length:=fun p hp=>by
 obtain ⟨i,_,rfl⟩:=List.mem_map.1 hp
 simp
theorem mkP_len (F:Nat) (xs:List (List UInt8)):(mkP F xs).length=xs.length:=by simp [mkP]
theorem eqP3 {F:Nat} (hF:2000 < F) {l:List Pc} (hl:l.length≤1000) (h:∀ p ∈ l,p.2.2.1.length≤1000):iter (fun s=>L3_2 F (l.length:Int) l l s) F (0:Int)=some (.inl ()):=by
 refine same_loop (n:=l.length) (by omega) (by omega) (fun k hk=>?_) ?_
 ·have hr:l[k]? = some l[k]:=List.getElem?_eq_getElem hk
  have hc1:((k:Nat):Int) < (l.length:Int):=by omega
  have hi:inb l.length (k:Int)=some k:=inbn hk
  have hs:=same14 hF l[k].1.1 l[k].1.2.1 l[k].2.1 (l:=l[k].2.2.1) (h _ (List.getElem_mem hk))
  simp only [L3_2,L3_2c,hc1,decide_true,cond_true,hi,hr,hs,Option.bind_some,Bool.not_true,cond_false,w64n (show k < 9223372036854775807 by omega)]
 ·simp [L3_2,L3_2c]
theorem great_ok {F:Nat} (hF:0 < F) {bs:List (List UInt8)} (hl:bs.length≤9223372036854775807):∃ b,T9 F bs=some b∧(b=false->bs.length≤20∧∀ x ∈ bs,x.length≤400):=by
 obtain ⟨z,hz,hQ⟩:=iter1 (f:=fun s:Int=>L9_2 (F + bs.length) bs (bs.length:Int) s)
  (fun s=>∃ k:Nat,s=(k:Int)∧k≤bs.length∧∀ x ∈ bs.take k,x.length≤400) (fun z=>z=.inr true∨z=.inl ()∧∀ x ∈ bs,x.length≤400) (fun s=>bs.length - s.toNat) (fun s hs=>by
   obtain ⟨k,e,hk,ha⟩:=hs
   subst e
   rcases Nat.lt_or_ge k bs.length with hlt | hge
   ·have hc1:((k:Nat):Int) < (bs.length:Int):=by omega
    have hr:bs[k]? = some bs[k]:=List.getElem?_eq_getElem hlt
    have hix:=ixn hr
    generalize bs[k]=x at hr hix
    by_cases h4:(400:Int) < (x.length:Int)
    ·exact .inr ⟨.inr true,by simp only [L9_2,L9_2c,hc1,decide_true,cond_true,hix,h4,Option.bind_some],.inl rfl⟩
    ·refine .inl ⟨((k + 1:Nat):Int),by simp only [L9_2,L9_2c,hc1,decide_true,cond_true,hix,h4,decide_false,cond_false,Option.bind_some,w64n (show k < 9223372036854775807 by omega)],⟨k + 1,rfl,by omega,fun y hy=>?_⟩,by simp only [Int.toNat_natCast];omega⟩
     rw [takeS' hr] at hy
     rcases List.mem_append.1 hy with hy | hy
     ·exact ha y hy
     ·simp at hy;subst hy;omega
   ·have hkn:k=bs.length:=by omega
    subst hkn
    rw [List.take_length] at ha
    refine .inr ⟨.inl (),?_,.inr ⟨rfl,ha⟩⟩
    simp [L9_2,L9_2c])
  (F + bs.length) (0:Int) ⟨0,rfl,by omega,by simp⟩ (by simp;omega)
 have h:T9 F bs=T9w (F + bs.length) bs:=rfl
 rw [h]
 simp only [T9w,T9wc,hz,Option.bind_some]
 rcases hQ with rfl | ⟨rfl,ha⟩
 ·exact ⟨true,rfl,fun h=>by cases h⟩
 ·refine ⟨_,rfl,fun h=>⟨?_,ha⟩⟩
  have:=of_decide_eq_false h
  omega
theorem plaw3 {F:Nat} (hF:50000≤F) (h8:T8 F=some true) (p0 p1 p2:Int) (p3:List Rf) (p4:List (List UInt8)) (hl:p4.length≤9223372036854775807):T3 F p0 p1 p2 p3 p4=some true:=by
 obtain ⟨b,hb,hbf⟩:=great_ok (F:=F) (by omega) hl
 simp only [T3,T3c,h8,hb,Option.bind_some,Bool.not_true,cond_false]
 cases b with
 | true=>rfl
 | false=>
 obtain ⟨hl4,hx4⟩:=hbf rfl
 by_cases h20:(20:Int) < (p3.length:Int)
 ·simp only [h20,decide_true,cond_true,cond_false]
 have hm:=make_ok (F:=F) hF (vault:=p0) (data:=p1) (total:=p2) (refs:=p3) (bs:=p4) (by omega) (fun x hx=>by have:=hx4 x hx;omega)
 have hr:=r_made (F:=F) (by omega) p0 p1 p2 (refs:=p3) (bs:=p4) (by omega)
 simp only [h20,decide_false,cond_false,hm,hr,Option.bind_some]
 cases hok:okMake p0 p1 p2 p3 p4 with
 | false=>
  have hs:=same12 (F:=F) (by omega) [] 0 0 0 0 (l:=[]) (by simp)
  simp only [cond_false,Bool.not_false,cond_true,noStripe,beq_self_eq_true,hs,Option.bind_some];rfl
 | true=>
  unfold okMake at hok
  simp only [Bool.and_eq_true] at hok
  obtain ⟨hp,hv,hco⟩:=hok
  obtain ⟨q1,q2,q3,q4,q5,q6,q7,q8,q9⟩:=of_decide_eq_true hp
  obtain ⟨d,rfl⟩:∃ d:Nat,p1=(d:Int):=⟨p1.toNat,by omega⟩
  obtain ⟨t,rfl⟩:∃ t:Nat,p2=(t:Int):=⟨p2.toNat,by omega⟩
  obtain ⟨r,rs,hrs⟩:∃ r rs,p3=r :: rs:=by
   cases p3 with
   | nil=>simp at q7
   | cons r rs=>exact ⟨r,rs,rfl⟩
  have hhc:hc p3=clsOf r.2.2.1:=by rw [hrs];rfl
  have hge:=clsOf_ge r.2.2.1
  obtain ⟨len,hlen⟩:∃ len:Nat,hc p3=(len:Int):=⟨(hc p3).toNat,by omega⟩
  have hbl:∀ b ∈ p4,b.length=len:=fun b hb'=>by
   unfold okC at hco
   simp only [Bool.and_eq_true] at hco
   have:=List.all_eq_true.1 hco.2 b hb'
   rw [hlen] at this
   have:(b.length:Int)=(len:Int):=by simpa using this
   omega
  obtain ⟨b0,bs',hbs⟩:∃ b bs',p4=b :: bs':=by
   cases p4 with
   | nil=>rw [hrs] at q9;simp at q9
   | cons b bs=>exact ⟨b,bs,rfl⟩
  have hl0:len≤400:=by rw [← hbl b0 (by rw [hbs];simp)];exact hx4 b0 (by rw [hbs];simp)
  have hp:=r_pieces (F:=F) (d:=d) (t:=t) (len:=len) (bs:=p4) (by omega) (by omega) (by omega) (by omega) (by omega) (by omega) hbl
  have hxl:=encP_len d t len p4
  have hpm:=mkP_mem (F:=F) (xs:=encP d t len p4)
  have hpl:=mkP_len F (encP d t len p4)
  have hi0:ix p4 (0:Int)=some b0:=by rw [hbs];exact ixn (i:=0) rfl
  have hb0:b0.length=len:=hbl b0 (by rw [hbs];simp)
  have hj0:inb (mkP F (encP d t len p4)).length (0:Int)=some 0:=inbn (i:=0) (by omega)
  have hj1:(mkP F (encP d t len p4))[0]? = some ((rt F F ((encP d t len p4).map (hsh F)),(0:Int),()),(encP d t len p4).getD 0 [],(encP d t len p4).map (hsh F),()):=by
   unfold mkP
   rw [List.getElem?_map,List.getElem?_range (by omega)];rfl
  have hq:T13 F (d:Int) (t:Int) p4=some (rt F F ((encP d t len p4).map (hsh F)),(len:Int),mkP F (encP d t len p4)):=by
   simp only [T13,T13c,hp,hi0,hj0,hj1,Option.bind_some,hb0]
  have hsame:=same12 (F:=F) (by omega) (rt F F ((encP d t len p4).map (hsh F))) p0 (len:Int) (d:Int) (t:Int) (l:=p3) (by omega)
  have heq:=eqP3 (F:=F) (by omega) (l:=mkP F (encP d t len p4)) (by omega) (fun p hp'=>by rw [hpm p hp'];omega)
  simp only [cond_true,Bool.not_true,cond_false,theStripe,hlen,Int.toNat_natCast,hq,Option.bind_some,bne_self_eq_false,hsame,heq,elimS]
theorem flaw3 (a0 a1 a2:Int) (a3:Ty.den (.sl (.pr .s (.pr .i (.pr .i .un))))) (a4:Ty.den (.sl (.sl .u8))) (_:(-9223372036854775808≤a0∧a0≤9223372036854775807)) (_:(-9223372036854775808≤a1∧a1≤9223372036854775807)) (_:(-9223372036854775808≤a2∧a2≤9223372036854775807)) (_:tyW (.sl (.pr .s (.pr .i (.pr .i .un)))) a3) (h4:tyW (.sl (.sl .u8)) a4):T3 50000 a0 a1 a2 a3 a4=some true:=plaw3 (by omega) awake8 a0 a1 a2 a3 a4 (Nat.le_trans h4.1 (by decide))
end Go.Proofs.YtpnhgldpeiogbaaGreatDoor
