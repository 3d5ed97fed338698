/- The plain law. -/
import Derived.Test.YthikoaamigiceaaGreatDoorJ
namespace Go.Proofs.YthikoaamigiceaaGreatDoor
open Go.Tw
set_option linter.unusedSimpArgs false
set_option linter.unusedVariables false
theorem awake10:T10 50000=some true:=by kernel_rfl
theorem enc_le (n:Nat):(enc n).length≤10:=(encN_len 9 n).1
theorem eI_le (n:Int):(eI n).length≤10:=enc_le _
theorem flat_le {α β:Type} {e:α->List β} {k:Nat}:∀ {l:List α},(∀ x ∈ l,(e x).length≤k)->(l.flatMap e).length≤k * l.length
 | [],_=>by simp
 | x :: l,h=>by
  have h1:=h x (by simp)
  have h2:=flat_le (l:=l) fun y hy=>h y (by simp [hy])
  rw [List.flatMap_cons,List.length_append,List.length_cons,Nat.mul_add];omega
theorem eL_le {α:Type} {e:α->Bs} {k:Nat} {l:List α} (h:∀ x ∈ l,(e x).length≤k):(eL e l).length≤10 + k * l.length:=by
 have h1:=flat_le h
 have h2:=enc_le l.length
 simp only [eL,List.length_append];omega
theorem eR_le {r:Rf} (h:vR r=true):(eR r).length≤52:=by
 simp only [vR,Bool.and_eq_true,decide_eq_true_eq] at h
 have h1:=eI_le r.2.1
 have h2:=eI_le r.2.2.1
 simp only [eR,List.length_append];omega
theorem eSn_le {s:Sn} (h:vSn s=true):(eSn s).length≤145:=by
 simp only [vSn,Bool.and_eq_true,Bool.or_eq_true,decide_eq_true_eq] at h
 obtain ⟨_,_,_,h4,_,_,h7⟩:=h
 have h1:=eR_le h4
 have q1:=eI_le s.1
 have q2:=eI_le s.2.1
 have q3:=eI_le s.2.2.1
 have q4:=eI_le s.2.2.2.2.1
 have q5:=eI_le s.2.2.2.2.2.1
 have q6:=enc_le s.2.2.2.2.2.2.1.length
 simp only [eSn,eT,eB,List.length_append,List.length_cons,List.length_nil];omega
theorem eSp_le {s:Sp} (h:vSp s=true):(eSp s).length≤498:=by
 simp only [vSp,Bool.and_eq_true,decide_eq_true_eq,List.all_eq_true] at h
 obtain ⟨h1,_,_,_,_,h6,h7⟩:=h
 have h2:=eL_le (e:=eR) (k:=52) (l:=s.2.2.2.2.2.1) fun r hr=>eR_le (h7 r hr)
 have q1:=eI_le s.2.1
 have q2:=eI_le s.2.2.1
 have q3:=eI_le s.2.2.2.1
 have q4:=eI_le s.2.2.2.2.1
 simp only [eSp,List.length_append];omega
theorem eX_le {x:Ix} (h:vX x=true) (h3:x.2.2.2.1.length≤6) (h4:x.2.2.2.2.1.length≤6) (h5:x.2.2.2.2.2.length≤10):(eX x).length≤4700:=by
 simp only [vX,Bool.and_eq_true,decide_eq_true_eq,List.all_eq_true] at h
 obtain ⟨v1,v2,v3,v4,v5,v6,v7,v8,v9,v10⟩:=h
 have a1:=eL_le (e:=eI) (k:=10) (l:=x.2.2.1) fun r hr=>eI_le _
 have a2:=eL_le (e:=eSn) (k:=145) (l:=x.2.2.2.1) fun r hr=>eSn_le (v8 r hr)
 have a3:=eL_le (e:=eSp) (k:=498) (l:=x.2.2.2.2.1) fun r hr=>eSp_le (v9 r hr)
 have a4:=eL_le (e:=eR) (k:=52) (l:=x.2.2.2.2.2) fun r hr=>eR_le (v10 r hr)
 have q1:=eI_le x.1
 have q2:=eI_le x.2.1
 simp only [eX,List.length_append];omega
theorem t11 (F:Nat) (c:List Int) (d:List Sn) (e:List Sp) (f:List Rf) (he:e.length≤maxLen):∃ b,T11 (F + 1) c d e f=some b∧(b=true->d.length≤6∧e.length≤6∧f.length≤10):=by
 have key:∀ (m i fuel:Nat) (n:Int),i + m=e.length->m < fuel->∃ z,iter (fun s=>L11_2 (F + 1 + e.length) e s.1 s.2) fuel (n,((i:Nat):Int))=some z:=by
  intro m
  induction m with
  | zero=>
   intro i fuel n hi hf
   obtain ⟨fuel,rfl⟩:∃ k,fuel=k + 1:=⟨fuel - 1,by omega⟩
   have h1:¬ (((i:Nat):Int) < (e.length:Int)):=by omega
   refine ⟨n,it_out ?_⟩
   simp only [L11_2,L11_2c,h1,decide_false,cond_false]
  | succ m ih=>
   intro i fuel n hi hf
   obtain ⟨fuel,rfl⟩:∃ k,fuel=k + 1:=⟨fuel - 1,by omega⟩
   have h1:((i:Nat):Int) < (e.length:Int):=by omega
   have hil:i < e.length:=by omega
   simp only [maxLen] at he
   have hw:w64 (((i:Nat):Int) + 1)=((i + 1:Nat):Int):=by rw [w64_in (by omega) (by omega)];omega
   obtain ⟨z,hz⟩:=ih (i + 1) fuel (w64 (n + (e[i].2.2.2.2.2.1.length:Int))) (by omega) (by omega)
   refine ⟨z,?_⟩
   rw [← hz]
   refine it_again ?_
   simp only [L11_2,L11_2c,h1,decide_true,cond_true,ixG hil,Option.bind_some,hw]
 obtain ⟨z,hz⟩:=key e.length 0 (F + 1 + e.length) 0 (by omega) (by omega)
 have hz:iter (fun s=>L11_2 (F + 1 + e.length) e s.1 s.2) (F + 1 + e.length) ((0:Int),(0:Int))=some z:=hz
 unfold T11 T11w T11wc
 rw [hz,Option.bind_some]
 by_cases h1:(c.length:Int)≤20
 ·by_cases h2:(d.length:Int)≤6
  ·by_cases h3:(e.length:Int)≤6
   ·by_cases h4:z≤20
    ·refine ⟨decide ((f.length:Int)≤10),by simp only [h1,h2,h3,h4,decide_true,cond_true],fun h=>?_⟩
     have:=of_decide_eq_true h
     omega
    ·exact ⟨false,by simp only [h1,h2,h3,h4,decide_true,decide_false,cond_true,cond_false],fun h=>by cases h⟩
   ·exact ⟨false,by simp only [h1,h2,h3,decide_true,decide_false,cond_true,cond_false],fun h=>by cases h⟩
  ·exact ⟨false,by simp only [h1,h2,decide_true,decide_false,cond_true,cond_false],fun h=>by cases h⟩
 ·exact ⟨false,by simp only [h1,decide_false,cond_false],fun h=>by cases h⟩
theorem encR_ok {x:Ix} (hv:vX x=true) (hl:(eX x).length≤4700):encR x=(0,eX x):=by
 unfold encR;rw [if_pos hv,if_neg (by omega)]
theorem encR_bad {x:Ix} (hv:vX x=false):encR x=(1,[]):=by
 unfold encR;rw [hv];rfl
theorem t22 {F:Nat} (hF:5000 < F) {x:Ix} (hv:vX x=true) (hl:(eX x).length≤4700):T22 F x.1 x.2.1 x.2.2.1 x.2.2.2.1 x.2.2.2.2.1 x.2.2.2.2.2 x.1 x.2.1 x.2.2.1 x.2.2.2.1 x.2.2.2.2.1 x.2.2.2.2.2=some true:=by
 have h:=t20 hF x (fun _=>⟨by omega,by omega⟩)
 rw [encR_ok hv hl] at h
 simp only [T22,T22c,h,Option.bind_some,beq_self_eq_true,cond_true]
theorem law5 {F:Nat} (hF:5000 < F) (h10:T10 F=some true) (x:Ix) (he:x.2.2.2.2.1.length≤maxLen):T5 F x.1 x.2.1 x.2.2.1 x.2.2.2.1 x.2.2.2.2.1 x.2.2.2.2.2=some true:=by
 obtain ⟨b,h11,hb⟩:=t11 (F - 1) x.2.2.1 x.2.2.2.1 x.2.2.2.2.1 x.2.2.2.2.2 he
 rw [show F - 1 + 1=F from by omega] at h11
 cases b with
 | false=>simp only [T5,T5c,h10,h11,Option.bind_some,Bool.not_true,Bool.not_false,cond_false,cond_true]
 | true=>
  obtain ⟨b1,b2,b3⟩:=hb rfl
  have hle:=fun hv=>eX_le (x:=x) hv b1 b2 b3
  have h19:=t19 hF x (fun hv=>by have:=hle hv;omega)
  have h20:=t20 hF x (fun hv=>by have:=hle hv;omega)
  cases hv:vX x with
  | false=>
   rw [encR_bad hv] at h19 h20
   simp only [T5,T5c,h10,h11,h19,h20,Option.bind_some,Bool.not_true,cond_false,cond_true,bne_self_eq_false]
   rfl
  | true=>
   have hl:=hle hv
   rw [encR_ok hv hl] at h19 h20
   have h21:=t21 hF (eX x)
   rw [dec_of_enc hv (by omega)] at h21
   have h22:=t22 hF hv hl
   simp only [T5,T5c,h10,h11,h19,h20,h21,Option.bind_some,Bool.not_true,cond_false,cond_true,bne_self_eq_false,okX,beq_self_eq_true,h22]
theorem law6 {F:Nat} (hF:5000 < F) (h10:T10 F=some true) (b:Bs):T6 F b=some true:=by
 by_cases hb:(600:Int) < (b.length:Int)
 ·simp only [T6,T6c,h10,hb,Option.bind_some,Bool.not_true,cond_false,cond_true,decide_true]
 ·have h21:=t21 hF b
  have h23:=t23 hF b (by omega)
  rcases decR_cases b with h | ⟨x,h,hv,hx,hl⟩
  ·rw [h] at h21 h23
   simp only [T6,T6c,h10,hb,h21,h23,badX,Option.bind_some,Bool.not_true,cond_false,cond_true,decide_false,bne_self_eq_false]
   rfl
  ·rw [h] at h21 h23
   have hl:(eX x).length≤4700:=by rw [← hx];omega
   have h19:=t19 hF x (fun hv=>by omega)
   rw [encR_ok hv hl] at h19
   have h22:=t22 hF hv hl
   simp only [T6,T6c,h10,hb,h21,h23,okX,h19,h22,Option.bind_some,Bool.not_true,cond_false,cond_true,decide_false,bne_self_eq_false,beq_self_eq_true,← hx]
theorem plaw5 (x:Ty.den (.pr .i (.pr .i (.pr (.sl .i) (.pr (.sl (.pr .i (.pr .i (.pr .i (.pr (.pr .s (.pr .i (.pr .i .un))) (.pr .i (.pr .i (.pr .s (.pr .bo .un))))))))) (.pr (.sl (.pr .s (.pr .i (.pr .i (.pr .i (.pr .i (.pr (.sl (.pr .s (.pr .i (.pr .i .un)))) .un))))))) (.pr (.sl (.pr .s (.pr .i (.pr .i .un)))) .un))))))) (hw:tyW _ x):T5 50000 x.1 x.2.1 x.2.2.1 x.2.2.2.1 x.2.2.2.2.1 x.2.2.2.2.2.1=some true:=
 law5 (by omega) awake10 (x.1,x.2.1,x.2.2.1,x.2.2.2.1,x.2.2.2.2.1,x.2.2.2.2.2.1) hw.2.2.2.2.1.1
theorem plaw6 (b:List UInt8) (_:b.length≤maxLen):T6 50000 b=some true:=law6 (by omega) awake10 b
end Go.Proofs.YthikoaamigiceaaGreatDoor
