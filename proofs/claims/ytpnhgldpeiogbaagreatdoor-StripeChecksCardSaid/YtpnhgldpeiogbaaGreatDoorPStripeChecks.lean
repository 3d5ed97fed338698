/- The plain law. -/
import Derived.Test.YtpnhgldpeiogbaaGreatDoorJ
namespace Go.Tw
set_option linter.unusedSimpArgs false
set_option linter.unusedVariables false
end Go.Tw
namespace Go.Proofs.YtpnhgldpeiogbaaGreatDoor
open Go.Tw
set_option linter.unusedSimpArgs false
set_option linter.unusedVariables false
theorem rvalid_d (F:Nat) (data total:Int):T45 F data total=some (decide (1≤data∧data≤8∧data≤total∧total≤16)):=by
 simp only [T45,T45c]
 by_cases h1:1≤data<;>by_cases h2:data≤8<;>by_cases h3:data≤total<;>by_cases h4:total≤16<;>simp [h1,h2,h3,h4]
theorem r_class_all {F:Nat} (hF:2000 < F) {refs:List Rf} (hl:refs.length≤1000) (hv:∀ r ∈ refs,0≤r.2.2.1∧r.2.2.1≤32768) (c:Int) :
  iter (fun s=>L17_2 F refs (refs.length:Int) c s) F (0:Int)=some (bif refs.all (fun r=>clsOf r.2.2.1 == c) then .inl () else .inr false):=by
 obtain ⟨z,hz,hQ⟩:=iter1 (f:=fun s:Int=>L17_2 F refs (refs.length:Int) c s)
  (fun s=>∃ k:Nat,s=(k:Int)∧k≤refs.length∧(refs.drop k).all (fun r=>clsOf r.2.2.1 == c)=refs.all (fun r=>clsOf r.2.2.1 == c)) (fun z=>z=(bif refs.all (fun r=>clsOf r.2.2.1 == c) then .inl () else .inr false)) (fun s=>refs.length - s.toNat) (fun s hs=>by
   obtain ⟨k,e,hk,ha⟩:=hs
   subst e
   rcases Nat.lt_or_ge k refs.length with hlt | hge
   ·have hc1:((k:Nat):Int) < (refs.length:Int):=by omega
    have hr:refs[k]? = some refs[k]:=List.getElem?_eq_getElem hlt
    have hix:=ixn hr
    have hx:=hv _ (List.getElem_mem hlt)
    have hd:=drop_at hr
    generalize refs[k]=x at hr hix hx hd
    have hh:=refclass (F:=F) (by omega) hx.1 hx.2
    rw [hd,List.all_cons] at ha
    cases h1:clsOf x.2.2.1 == c with
    | false=>
     have h1':(clsOf x.2.2.1 != c)=true:=by simp [bne,h1]
     rw [h1,Bool.false_and] at ha
     exact .inr ⟨.inr false,by simp only [L17_2,L17_2c,hc1,decide_true,cond_true,hix,hh,h1',Option.bind_some],by rw [← ha];rfl⟩
    | true=>
     have h1':(clsOf x.2.2.1 != c)=false:=by simp [bne,h1]
     rw [h1,Bool.true_and] at ha
     exact .inl ⟨((k + 1:Nat):Int),by simp only [L17_2,L17_2c,hc1,decide_true,cond_true,hix,hh,h1',Option.bind_some,cond_false,w64n (show k < 9223372036854775807 by omega)],⟨k + 1,rfl,by omega,ha⟩,by simp only [Int.toNat_natCast];omega⟩
   ·have hkn:k=refs.length:=by omega
    subst hkn
    rw [List.drop_length] at ha
    refine .inr ⟨.inl (),?_,by rw [← ha];rfl⟩
    simp [L17_2,L17_2c])
  F (0:Int) ⟨0,rfl,by omega,rfl⟩ (by simp;omega)
 subst hQ
 exact hz
theorem r_valid {F:Nat} (hF:2000 < F) (id:List UInt8) (vault block data total:Int) {refs:List Rf} (hl:refs.length≤1000):T17 F id vault block data total refs=some (okS id vault block data total refs):=by
 have h41:=valid11 (refs:=refs) hl hF
 have bad:∀ {p:Prop} [Decidable p] {c:Bool},¬ p->(decide p && c)=false:=fun {p} _ c h=>by simp [h]
 simp only [T17,T17c,h41,rvalid_d,Option.bind_some]
 unfold okS
 by_cases c0:id.length=32
 case neg=>
  have:((id.length:Int) != 32)=true:=by
   have:¬ (id.length:Int)=32:=by omega
   simpa using this
  simp only [this,cond_true];rw [bad (fun h=>c0 h.1)]
 have e0:((id.length:Int) != 32)=false:=by rw [c0];rfl
 simp only [e0,cond_false]
 by_cases c1:vault < 0
 ·simp only [c1,decide_true,cond_true];rw [bad (by omega)]
 simp only [c1,decide_false,cond_false]
 by_cases c2:11 < vault
 ·simp only [c2,decide_true,cond_true];rw [bad (by omega)]
 simp only [c2,decide_false,cond_false]
 by_cases c3:1≤data∧data≤8∧data≤total∧total≤16
 case neg=>simp only [c3,decide_false,Bool.not_false,cond_true];rw [bad (fun h=>c3 ⟨h.2.2.2.1,h.2.2.2.2.1,h.2.2.2.2.2.1,h.2.2.2.2.2.2.1⟩)]
 have c3':decide (1≤data∧data≤8∧data≤total∧total≤16)=true:=by simpa using c3
 simp only [c3',Bool.not_true,cond_false]
 by_cases c4:(refs.length:Int) < 1
 ·simp only [c4,decide_true,cond_true];rw [bad (by omega)]
 simp only [c4,decide_false,cond_false]
 by_cases c5:data < (refs.length:Int)
 ·simp only [c5,decide_true,cond_true];rw [bad (by omega)]
 simp only [c5,decide_false,cond_false]
 cases c6:vRs refs with
 | false=>simp only [Bool.not_false,cond_true,Bool.false_and,Bool.and_false]
 | true=>
 have hp:decide (id.length=32∧0≤vault∧vault≤11∧1≤data∧data≤8∧data≤total∧total≤16∧1≤refs.length∧(refs.length:Int)≤data)=true:=by apply decide_eq_true;omega
 have hlo:=r_class_all hF hl (vRs_size c6) block
 simp only [Bool.not_true,cond_false,Bool.true_and,hlo,Option.bind_some,hp]
 cases refs.all (fun r=>clsOf r.2.2.1 == block)<;>rfl
theorem same43 {F:Nat} (hF:2000 < F) {l:List Rf} (hl:l.length≤1000):T43 F l l=some true:=by
 have h:iter (fun s=>L43_2 F l l (l.length:Int) s) F (0:Int)=some (.inl ()):=by
  refine same_loop (n:=l.length) (by omega) (by omega) (fun k hk=>?_) ?_
  ·have hr:l[k]? = some l[k]:=List.getElem?_eq_getElem hk
   have hc1:((k:Nat):Int) < (l.length:Int):=by omega
   simp only [L43_2,L43_2c,hc1,decide_true,cond_true,ixn hr,Option.bind_some,beq_self_eq_true,Bool.and_self,Bool.not_true,cond_false,w64n (show k < 9223372036854775807 by omega)]
  ·simp [L43_2,L43_2c]
 simp only [T43,T43c,bne_self_eq_false,cond_false,h,Option.bind_some,elimS]
theorem same12 {F:Nat} (hF:2000 < F) (a:List UInt8) (b c d e:Int) {l:List Rf} (hl:l.length≤1000):T12 F a b c d e l a b c d e l=some true:=by
 simp only [T12,T12c,beq_self_eq_true,cond_true,same43 hF hl,Option.bind_some]
theorem rsums_loop {F:Nat} (hF:2000 < F) {sums:List (List UInt8)} (hl:sums.length≤1000):iter (fun s=>L19_2 F sums (sums.length:Int) s) F (0:Int)=some (bif all32 sums then .inl () else .inr false):=by
 obtain ⟨z,hz,hQ⟩:=iter1 (f:=fun s:Int=>L19_2 F sums (sums.length:Int) s)
  (fun s=>∃ k:Nat,s=(k:Int)∧k≤sums.length∧(sums.drop k).all (fun s=>s.length == 32)=all32 sums) (fun z=>z=(bif all32 sums then .inl () else .inr false)) (fun s=>sums.length - s.toNat) (fun s hs=>by
   obtain ⟨k,e,hk,ha⟩:=hs
   subst e
   rcases Nat.lt_or_ge k sums.length with hlt | hge
   ·have hc1:((k:Nat):Int) < (sums.length:Int):=by omega
    have hr:sums[k]? = some sums[k]:=List.getElem?_eq_getElem hlt
    have hix:=ixn hr
    have hd:=drop_at hr
    generalize sums[k]=x at hr hix hd
    rw [hd,List.all_cons] at ha
    have ht:=len32 x
    cases h1:x.length == 32 with
    | false=>
     rw [h1] at ht
     rw [h1,Bool.false_and] at ha
     exact .inr ⟨.inr false,by simp only [L19_2,L19_2c,hc1,decide_true,cond_true,hix,ht,Option.bind_some,Bool.not_false],by rw [← ha];rfl⟩
    | true=>
     rw [h1] at ht
     rw [h1,Bool.true_and] at ha
     exact .inl ⟨((k + 1:Nat):Int),by simp only [L19_2,L19_2c,hc1,decide_true,cond_true,hix,ht,Option.bind_some,Bool.not_true,cond_false,w64n (show k < 9223372036854775807 by omega)],⟨k + 1,rfl,by omega,ha⟩,by simp only [Int.toNat_natCast];omega⟩
   ·have hkn:k=sums.length:=by omega
    subst hkn
    rw [List.drop_length] at ha
    refine .inr ⟨.inl (),?_,by rw [← ha];rfl⟩
    simp [L19_2,L19_2c])
  F (0:Int) ⟨0,rfl,by omega,rfl⟩ (by simp;omega)
 subst hQ
 exact hz
theorem r_verify {F:Nat} (hF:2000 < F) (id:List UInt8) (index:Int) (data:List UInt8) {sums:List (List UInt8)}:T19 F id index data sums=some (okP F id index data sums):=by
 have bad:∀ {p:Prop} [Decidable p] {c:Bool},¬ p->(decide p && c)=false:=fun {p} _ c h=>by simp [h]
 simp only [T19,T19c]
 unfold okP
 by_cases c0:id.length=32
 case neg=>
  have:((id.length:Int) != 32)=true:=by
   have:¬ (id.length:Int)=32:=by omega
   simpa using this
  simp only [this,cond_true];rw [bad (fun h=>c0 h.1)]
 have e0:((id.length:Int) != 32)=false:=by rw [c0];rfl
 simp only [e0,cond_false]
 by_cases c2:16 < (sums.length:Int)
 ·simp only [c2,decide_true,cond_true];rw [bad (by omega)]
 simp only [c2,decide_false,cond_false]
 by_cases c3:index < 0
 ·simp only [c3,decide_true,cond_true];rw [bad (by omega)]
 simp only [c3,decide_false,cond_false]
 by_cases c4:(sums.length:Int)≤index
 ·simp only [c4,decide_true,cond_true];rw [bad (by omega)]
 simp only [c4,decide_false,cond_false]
 by_cases c5:(data.length:Int) < 1
 ·simp only [c5,decide_true,cond_true];rw [bad (by omega)]
 simp only [c5,decide_false,cond_false]
 by_cases c6:(65536:Int) < (data.length:Int)
 ·simp only [c6,decide_true,cond_true];rw [bad (by omega)]
 have hs:=rsums_loop hF (sums:=sums) (by omega)
 simp only [c6,decide_false,cond_false,hs,Option.bind_some]
 cases ha:all32 sums with
 | false=>simp only [cond_false,elimS,Bool.false_and,Bool.and_false]
 | true=>
 have hof:=r_psum hF (x:=data) (by omega)
 obtain ⟨i,rfl⟩:∃ i:Nat,index=(i:Int):=⟨index.toNat,by omega⟩
 have hr:sums[i]? = some (sums[i]'(by omega)):=List.getElem?_eq_getElem (by omega)
 have hgd:sums.getD i []=sums[i]'(by omega):=by simp [show i < sums.length by omega]
 have hrt:=r_root hF (l:=sums) (by omega) (all32_mem ha)
 have hp:decide (id.length=32∧1≤sums.length∧sums.length≤16∧0≤(i:Int)∧(i:Int) < (sums.length:Int)∧1≤data.length∧data.length≤65536)=true:=by apply decide_eq_true;omega
 simp only [cond_true,elimS,hof,Option.bind_some,ixn hr,hrt,hp,Bool.true_and,Int.toNat_natCast,hgd]
 cases sums[i]'(by omega) == hsh F data<;>simp
theorem r_fits {F:Nat} (hF:2000 < F) (sid:List UInt8) (vault block d total:Int) {refs:List Rf} (hl:refs.length≤1000) (id:List UInt8) (index:Int) (data:List UInt8) {sums:List (List UInt8)}:T21 F sid vault block d total refs id index data sums=some (okS sid vault block d total refs && okF F sid block total id index data sums):=by
 simp only [T21,T21c,r_valid hF sid vault block d total hl,r_verify hF,Option.bind_some]
 unfold okF
 cases okS sid vault block d total refs<;>cases okP F id index data sums<;>cases id == sid<;>cases (sums.length:Int) == total<;>cases (data.length:Int) == block<;>simp
def fnd (nm:List UInt8):List Rf->Nat->Int
 | [],_=>-1
 | r :: rs,i=>bif r.1 == nm then (i:Int) else fnd nm rs (i + 1)
theorem find_ok {F:Nat} (hF:2000 < F) {refs:List Rf} (hl:refs.length≤1000) (nm:List UInt8):T22 F refs nm=some (fnd nm refs 0):=by
 have h:∃ z,iter (fun s=>L53_2 F refs (refs.length:Int) nm s) F (0:Int)=some z∧(z=.inl ()∧fnd nm refs 0 = -1∨z=.inr (fnd nm refs 0)):=by
  exact iter1 (f:=fun s:Int=>L53_2 F refs (refs.length:Int) nm s)
   (fun s=>∃ k:Nat,s=(k:Int)∧k≤refs.length∧fnd nm (refs.drop k) k=fnd nm refs 0) _ (fun s=>refs.length - s.toNat) (fun s hs=>by
    obtain ⟨k,e,hk,ha⟩:=hs
    subst e
    rcases Nat.lt_or_ge k refs.length with hlt | hge
    ·have hc1:((k:Nat):Int) < (refs.length:Int):=by omega
     have hr:refs[k]? = some refs[k]:=List.getElem?_eq_getElem hlt
     have hix:=ixn hr
     have hd:=drop_at hr
     generalize refs[k]=x at hr hix hd
     rw [hd] at ha
     simp only [fnd] at ha
     have ht:T54 F x.1 nm=some (x.1 == nm):=rfl
     cases h1:x.1 == nm with
     | true=>
      rw [h1] at ht
      rw [h1,cond_true] at ha
      exact .inr ⟨.inr (k:Int),by simp only [L53_2,L53_2c,hc1,decide_true,cond_true,hix,ht,Option.bind_some],.inr (by rw [ha])⟩
     | false=>
      rw [h1] at ht
      rw [h1,cond_false] at ha
      exact .inl ⟨((k + 1:Nat):Int),by simp only [L53_2,L53_2c,hc1,decide_true,cond_true,hix,ht,Option.bind_some,cond_false,w64n (show k < 9223372036854775807 by omega)],⟨k + 1,rfl,by omega,ha⟩,by simp only [Int.toNat_natCast];omega⟩
    ·have hkn:k=refs.length:=by omega
     subst hkn
     rw [List.drop_length] at ha
     refine .inr ⟨.inl (),?_,.inl ⟨rfl,ha.symm⟩⟩
     simp [L53_2,L53_2c])
   F (0:Int) ⟨0,rfl,by omega,rfl⟩ (by simp;omega)
 obtain ⟨z,hz,hQ⟩:=h
 simp only [T22,T22c,T53,T53c,hz,Option.bind_some]
 rcases hQ with ⟨rfl,h⟩ | rfl
 ·rw [h];rfl
 ·rfl
theorem back_loop (F:Nat) {refs:List Rf} (hl:refs.length≤1000) (nm:List UInt8):∀ (k fuel:Nat),k≤refs.length->k < fuel->iter (fun s:Int×Int=>L4_2 F nm refs s.1 s.2) fuel (fnd nm (refs.drop k) k,(k:Int) - 1)=some (fnd nm refs 0)
 | 0,fuel + 1,hk,_=>by
  have:¬ (0:Int)≤((0:Nat):Int) - 1:=by omega
  refine it_out' ?_
  simp only [L4_2,L4_2c,this,decide_false,cond_false,List.drop_zero]
 | k + 1,fuel + 1,hk,hf=>by
  have h1:((k + 1:Nat):Int) - 1=(k:Int):=by omega
  have h2:(0:Int)≤(k:Int):=by omega
  have hr:refs[k]? = some (refs[k]'(by omega)):=List.getElem?_eq_getElem (by omega)
  have hix:=ixn hr
  have hd:=drop_at hr
  generalize refs[k]'(by omega)=x at hr hix hd
  have hw:w64 ((k:Int) - 1)=(k:Int) - 1:=w64_in (by omega) (by omega)
  rw [h1]
  refine (it_again' (s':=(fnd nm (refs.drop k) k,(k:Int) - 1)) ?_).trans (back_loop F hl nm k fuel (by omega) (by omega))
  rw [hd]
  simp only [L4_2,L4_2c,h2,decide_true,cond_true,hix,Option.bind_some,hw,fnd]
  cases x.1 == nm<;>rfl
theorem wide1 {F:Nat} (hF:10 < F) (p:Pc):T15 F [p]=some (decide (1200 < p.2.1.length∨40 < p.2.2.1.length)):=by
 have h:T15 F [p]=T15w (F + 1) [p]:=rfl
 obtain ⟨m,rfl⟩:∃ m,F=m + 2:=⟨F - 2,by omega⟩
 have hi:ix [p] (0:Int)=some p:=ixn (i:=0) rfl
 have c0:(0:Int) < (([p]:List Pc).length:Int):=by simp
 have c1:¬ (1:Int) < (([p]:List Pc).length:Int):=by simp
 have w1:w64 ((0:Int) + 1)=1:=by decide
 rw [h]
 simp only [T15w,T15wc]
 by_cases h1:1200 < p.2.1.length
 ·have e1:(1200:Int) < (p.2.1.length:Int):=by omega
  rw [it_out' (r:=.inr true) (by simp only [L15_2,L15_2c,c0,decide_true,cond_true,hi,Option.bind_some,e1])]
  simp [h1,elimS]
 ·have e1:¬ (1200:Int) < (p.2.1.length:Int):=by omega
  by_cases h2:40 < p.2.2.1.length
  ·have e2:(40:Int) < (p.2.2.1.length:Int):=by omega
   rw [it_out' (r:=.inr true) (by simp only [L15_2,L15_2c,c0,decide_true,cond_true,hi,Option.bind_some,e1,e2,decide_false,cond_false])]
   simp [h2,elimS]
  ·have e2:¬ (40:Int) < (p.2.2.1.length:Int):=by omega
   rw [it_again' (s':=(1:Int)) (by simp only [L15_2,L15_2c,c0,decide_true,cond_true,hi,Option.bind_some,e1,e2,decide_false,cond_false,w1]),it_out' (r:=.inl ()) (by simp only [L15_2,L15_2c,c1,decide_false,cond_false])]
   simp [h1,h2,elimS]
theorem plaw4 {F:Nat} (hF:50000≤F) (h8:T8 F=some true) (p0:List UInt8) (p1 p2 p3 p4:Int) (p5:List Rf) (p6:List UInt8) (p7:Int) (p8:List UInt8) (p9:List (List UInt8)) (p10:List UInt8):T4 F p0 p1 p2 p3 p4 p5 p6 p7 p8 p9 p10=some true:=by
 simp only [T4,T4c,h8,Option.bind_some,Bool.not_true,cond_false]
 by_cases h20:(20:Int) < (p5.length:Int)
 ·simp only [h20,decide_true,cond_true]
 have hw:=wide1 (F:=F) (by omega) ((p6,p7,()),p8,p9,())
 simp only [h20,decide_false,cond_false,hw,Option.bind_some]
 by_cases hwd:1200 < p8.length∨40 < p9.length
 ·have:decide (1200 < p8.length∨40 < p9.length)=true:=by simpa using hwd
  simp only [this,cond_true]
 have hwd':decide (1200 < p8.length∨40 < p9.length)=false:=by simpa using hwd
 have hb:=back_loop F (refs:=p5) (by omega) p10 p5.length F (Nat.le_refl _) (by omega)
 rw [List.drop_length] at hb
 have hw0:w64 ((p5.length:Int) - 1)=(p5.length:Int) - 1:=w64_in (by omega) (by omega)
 have hb:iter (fun s:Int×Int=>L4_2 F p10 p5 s.1 s.2) F ((-1:Int),(p5.length:Int) - 1)=some (fnd p10 p5 0):=hb
 have hck:=check_ok (F:=F) (by omega) p0 p1 p2 p3 p4 (refs:=p5) (by omega)
 have hrv:=r_valid (F:=F) (by omega) p0 p1 p2 p3 p4 (refs:=p5) (by omega)
 have hve:=verify_ok (F:=F) (by omega) p6 p7 p8 (sums:=p9)
 have hrve:=r_verify (F:=F) (by omega) p6 p7 p8 (sums:=p9)
 have hfi:=Fits_ok (F:=F) (by omega) p0 p1 p2 p3 p4 (refs:=p5) (by omega) p6 p7 p8 (sums:=p9)
 have hrfi:=r_fits (F:=F) (by omega) p0 p1 p2 p3 p4 (refs:=p5) (by omega) p6 p7 p8 (sums:=p9)
 have hfd:=find_ok (F:=F) (by omega) (refs:=p5) (by omega) p10
 simp only [hwd',cond_false,hw0,hb,hck,hrv,hve,hrve,hfi,hrfi,hfd,Option.bind_some,beq_self_eq_true,cond_true]
 cases okS p0 p1 p2 p3 p4 p5<;>rfl
theorem flaw4 (a0:Ty.den (.pr .s (.pr .i (.pr .i (.pr .i (.pr .i (.pr (.sl (.pr .s (.pr .i (.pr .i .un)))) .un))))))) (a1:Ty.den (.pr (.pr .s (.pr .i .un)) (.pr (.sl .u8) (.pr (.sl .s) .un)))) (a2:List UInt8) (_:tyW (.pr .s (.pr .i (.pr .i (.pr .i (.pr .i (.pr (.sl (.pr .s (.pr .i (.pr .i .un)))) .un)))))) a0) (_:tyW (.pr (.pr .s (.pr .i .un)) (.pr (.sl .u8) (.pr (.sl .s) .un))) a1) (_:a2.length≤maxLen):T4 50000 a0.1 a0.2.1 a0.2.2.1 a0.2.2.2.1 a0.2.2.2.2.1 a0.2.2.2.2.2.1 a1.1.1 a1.1.2.1 a1.2.1 a1.2.2.1 a2=some true:=plaw4 (by omega) awake8 _ _ _ _ _ _ _ _ _ _ _
end Go.Proofs.YtpnhgldpeiogbaaGreatDoor
