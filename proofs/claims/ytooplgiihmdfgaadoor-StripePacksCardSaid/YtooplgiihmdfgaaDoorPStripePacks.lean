/- The plain law. -/
import Derived.Test.YtooplgiihmdfgaaDoorJ
namespace Go.Proofs.YtooplgiihmdfgaaDoor
open Go.Tw
set_option linter.unusedSimpArgs false
set_option linter.unusedVariables false
theorem same13 {F:Nat} (hF:2000 < F) {l:List Rf} (hl:l.length≤1000):T13 F l l=some true:=by
 obtain ⟨z,hz,hQ⟩:=iter1 (f:=fun s:Int=>L13_2 F l l (l.length:Int) s)
  (fun s=>∃ k:Nat,s=(k:Int)∧k≤l.length) (fun z=>z=.inl ()) (fun s=>l.length - s.toNat) (fun s hs=>by
   obtain ⟨k,e,hk⟩:=hs
   subst e
   rcases Nat.lt_or_ge k l.length with hlt | hge
   ·have hr:l[k]? = some l[k]:=List.getElem?_eq_getElem hlt
    have hc1:((k:Nat):Int) < (l.length:Int):=by omega
    have hix:=ixn hr
    have hw:w64 (((k:Nat):Int) + 1)=((k + 1:Nat):Int):=w64n (by omega)
    refine .inl ⟨((k + 1:Nat):Int),?_,⟨k + 1,rfl,by omega⟩,by simp only [Int.toNat_natCast];omega⟩
    simp only [L13_2,L13_2c,hc1,decide_true,cond_true,hix,Option.bind_some,beq_self_eq_true,Bool.and_self,Bool.not_true,cond_false,hw]
   ·have hkl:k=l.length:=by omega
    subst hkl
    refine .inr ⟨.inl (),?_,rfl⟩
    simp [L13_2,L13_2c])
  F (0:Int) ⟨0,rfl,by omega⟩ (by simp;omega)
 subst hQ
 simp only [T13,T13c,bne_self_eq_false,cond_false,hz,Option.bind_some,elimS]
theorem eqg3 {F:Nat} (hF:2000 < F) {gs:List (List Rf)} (hl:gs.length≤1000) (h:∀ g ∈ gs,g.length≤1000):iter (fun s=>L3_5 F gs gs (gs.length:Int) s) F (0:Int)=some (.inl ()):=by
 obtain ⟨z,hz,hQ⟩:=iter1 (f:=fun s:Int=>L3_5 F gs gs (gs.length:Int) s)
  (fun s=>∃ k:Nat,s=(k:Int)∧k≤gs.length) (fun z=>z=.inl ()) (fun s=>gs.length - s.toNat) (fun s hs=>by
   obtain ⟨k,e,hk⟩:=hs
   subst e
   rcases Nat.lt_or_ge k gs.length with hlt | hge
   ·have hr:gs[k]? = some gs[k]:=List.getElem?_eq_getElem hlt
    have hc1:((k:Nat):Int) < (gs.length:Int):=by omega
    have hix:=ixn hr
    have hw:w64 (((k:Nat):Int) + 1)=((k + 1:Nat):Int):=w64n (by omega)
    have hs:=same13 hF (h _ (List.getElem_mem hlt))
    refine .inl ⟨((k + 1:Nat):Int),?_,⟨k + 1,rfl,by omega⟩,by simp only [Int.toNat_natCast];omega⟩
    simp only [L3_5,L3_5c,hc1,decide_true,cond_true,hix,Option.bind_some,hs,Bool.not_true,cond_false,hw]
   ·have hkl:k=gs.length:=by omega
    subst hkl
    refine .inr ⟨.inl (),?_,rfl⟩
    simp [L3_5,L3_5c])
  F (0:Int) ⟨0,rfl,by omega⟩ (by simp;omega)
 subst hQ
 exact hz
theorem all3 {F:Nat} (hF:2000 < F) {sizes:List Int} (hl:sizes.length≤1000) (b:Bool):iter (fun s:Bool×Int=>L3_6 F sizes (sizes.length:Int) s.1 s.2) F (b,(0:Int))=some (b && sizes.all okS):=by
 obtain ⟨z,hz,hQ⟩:=iter1 (f:=fun s:Bool×Int=>L3_6 F sizes (sizes.length:Int) s.1 s.2)
  (fun s=>∃ k:Nat,s.2=(k:Int)∧k≤sizes.length∧(s.1 && (sizes.drop k).all okS)=(b && sizes.all okS)) (fun z=>z=(b && sizes.all okS)) (fun s=>sizes.length - s.2.toNat) (fun s hs=>by
   obtain ⟨k,e,hk,ha⟩:=hs
   obtain ⟨s0,s1⟩:=s
   simp only at e ha
   subst e
   rcases Nat.lt_or_ge k sizes.length with hlt | hge
   ·have hr:sizes[k]? = some sizes[k]:=List.getElem?_eq_getElem hlt
    have hc1:((k:Nat):Int) < (sizes.length:Int):=by omega
    have hix:=ixn hr
    have hw:w64 (((k:Nat):Int) + 1)=((k + 1:Nat):Int):=w64n (by omega)
    have hdr:sizes.drop k=sizes[k] :: sizes.drop (k + 1):=List.drop_eq_getElem_cons hlt
    generalize sizes[k]=x at hr hix hdr
    rw [hdr,List.all_cons,← Bool.and_assoc] at ha
    refine .inl ⟨((s0 && okS x),((k + 1:Nat):Int)),?_,⟨k + 1,rfl,by omega,ha⟩,by simp only [Int.toNat_natCast];omega⟩
    simp only [L3_6,L3_6c,hc1,decide_true,cond_true,hix,Option.bind_some,hw]
    cases s0 with
    | false=>rfl
    | true=>
     by_cases h0:0≤x<;>by_cases h1:x≤32768<;>simp [okS,h0,h1]
   ·have hkl:k=sizes.length:=by omega
    subst hkl
    rw [List.drop_length] at ha
    refine .inr ⟨s0,?_,by rw [← ha];simp⟩
    simp [L3_6,L3_6c])
  F (b,(0:Int)) ⟨0,rfl,by omega,rfl⟩ (by simp;omega)
 subst hQ
 exact hz
theorem pk3 {F:Nat} (hF:2000 < F) {refs:List Rf} (hl:refs.length≤40) (data:Int):∃ g e,T9 F refs data=some (g,e) ∧
  (data < 1∨8 < data->L3_4 F refs data g e true=some (.inl ())) ∧
  (¬ data < 1->¬ 8 < data->L3_4 F refs data g e (!vRs refs)=some (.inl ())):=by
 have h30:=valid30 (refs:=refs) (by omega) hF
 by_cases h1:data < 1
 ·refine ⟨[],1,?_,fun _=>rfl,fun h=>absurd h1 h⟩
  simp only [T9,T9c,h1,decide_true,cond_true]
 ·by_cases h2:8 < data
  ·refine ⟨[],1,?_,fun _=>rfl,fun _ h=>absurd h2 h⟩
   simp only [T9,T9c,h1,h2,decide_true,decide_false,cond_true,cond_false]
  ·cases hv:vRs refs with
   | false=>
    refine ⟨[],1,?_,fun h=>by omega,fun _ _=>rfl⟩
    simp only [T9,T9c,h1,h2,decide_false,cond_false,h30,hv,Option.bind_some,Bool.not_false,cond_true]
   | true=>
    have hs:=vRs_size hv
    rw [hv] at h30
    have h9:=pack9 hF (data:=data) (by omega) (by omega) (refs:=refs) (by omega) hs h30
    have h12:=pack12 hF (data:=data) (by omega) (by omega) (refs:=refs) (by omega) hs
    refine ⟨_,_,h9,fun h=>by omega,fun _ _=>?_⟩
    have hpl:=pack_len data refs
    have hg:∀ g ∈ pack data refs,g.length≤1000:=fun g hg=>by
     have:=(pack_PG (data:=data) (by omega) refs).le g hg;omega
    have:=eqg3 hF (gs:=pack data refs) (by omega) hg
    simp only [L3_4,L3_4c,Bool.not_true,cond_false,h12,Option.bind_some,bne_self_eq_false,this,elimS]
theorem plaw3 {F:Nat} (hF:2000 < F) (h8:T8 F=some true) (p0:List Rf) (p1:List Int) (p2 p3:Int):T3 F p0 p1 p2 p3=some true:=by
 simp only [T3,T3c,h8,Option.bind_some,Bool.not_true,cond_false]
 by_cases hl:(40:Int) < (p0.length:Int)
 ·simp only [hl,decide_true,cond_true]
 ·by_cases hl1:(40:Int) < (p1.length:Int)
  ·simp only [hl,hl1,decide_true,decide_false,cond_true,cond_false]
  ·obtain ⟨g,e,h9,ha,hb⟩:=pk3 hF (refs:=p0) (by omega) p2
   have h10:=cost10 hF (data:=p2) (total:=p3) (sizes:=p1) (by omega)
   have h11:=valid11 (refs:=p0) (by omega) hF
   have hal:=fun b=>all3 hF (sizes:=p1) (by omega) b
   simp only [hl,hl1,decide_false,cond_false,h9,h10,h11,Option.bind_some]
   have fin0:(p1.all okS=false∨¬ (1≤p2∧p2≤8∧p2≤p3∧p3≤16))->(if (1≤p2∧p2≤8∧p2≤p3∧p3≤16)∧p1.all okS=true then (w64 (gc p3 (pack p2 (p1.map mkS))),tot p1,(0:Int)) else (0,0,1))=(0,0,1):=fun h=>if_neg (fun h'=>by
    rcases h with h | h
    ·rw [h'.2] at h;cases h
    ·exact h h'.1)
   by_cases h1:p2 < 1
   ·have h1':¬ 1≤p2:=by omega
    rw [fin0 (.inr (by omega))]
    simp only [h1,h1',decide_true,decide_false,cond_true,cond_false,ha (.inl h1),Option.bind_some,elimS,hal,Bool.false_and,Bool.not_false];rfl
   ·have h1':1≤p2:=by omega
    by_cases h2:8 < p2
    ·have h2':¬ p2≤8:=by omega
     rw [fin0 (.inr (by omega))]
     simp only [h1,h1',h2,h2',decide_true,decide_false,cond_true,cond_false,ha (.inr h2),Option.bind_some,elimS,hal,Bool.false_and,Bool.not_false];rfl
    ·have h2':p2≤8:=by omega
     simp only [h1,h1',h2,h2',decide_true,decide_false,cond_true,cond_false,hb h1 h2,Option.bind_some,elimS,hal]
     by_cases h3:p2≤p3
     ·simp only [h3,decide_true,cond_true]
      by_cases h4:p3≤16
      ·cases hA:p1.all okS with
       | false=>
        simp only [h4,decide_true,Bool.and_false,Bool.not_false,cond_true,and_false,if_false,Bool.false_eq_true];rfl
       | true=>
        have h14:=cost14 hF (data:=p2) (total:=p3) h1' (by omega) (sizes:=p1) (by omega) hA
        simp only [h4,decide_true,Bool.and_true,Bool.not_true,cond_false,h14,Option.bind_some,and_self,if_true,beq_self_eq_true,cond_true]
      ·rw [if_neg (by omega)]
       simp only [h4,decide_false,Bool.false_and,Bool.not_false,cond_true];rfl
     ·rw [if_neg (by omega)]
      simp only [h3,decide_false,cond_false,Bool.false_and,Bool.not_false,cond_true];rfl
theorem flaw3 (a0:Ty.den (.sl (.pr .s (.pr .i (.pr .i .un))))) (a1:Ty.den (.sl .i)) (a2 a3:Int) (_:tyW (.sl (.pr .s (.pr .i (.pr .i .un)))) a0) (_:tyW (.sl .i) a1) (_:(-9223372036854775808≤a2∧a2≤9223372036854775807)) (_:(-9223372036854775808≤a3∧a3≤9223372036854775807)):T3 50000 a0 a1 a2 a3=some true:=plaw3 (by omega) awake8 a0 a1 a2 a3
end Go.Proofs.YtooplgiihmdfgaaDoor
