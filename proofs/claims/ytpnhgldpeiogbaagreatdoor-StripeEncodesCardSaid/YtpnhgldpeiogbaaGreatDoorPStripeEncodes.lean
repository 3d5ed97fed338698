/- The plain law. -/
import Derived.Test.YtpnhgldpeiogbaaGreatDoorJ
namespace Go.Tw
set_option linter.unusedSimpArgs false
set_option linter.unusedVariables false
end Go.Tw
namespace Go.Proofs.YtpnhgldpeiogbaaGreatDoor
open Go.Tw
set_option linter.unusedSimpArgs false
set_option linter.unusedVariables false
theorem rvalid_d (F:Nat) (data total:Int):T45 F data total=some (decide (1≤data∧data≤8∧data≤total∧total≤16)):=by
 simp only [T45,T45c]
 by_cases h1:1≤data<;>by_cases h2:data≤8<;>by_cases h3:data≤total<;>by_cases h4:total≤16<;>simp [h1,h2,h3,h4]
theorem r_class_all {F:Nat} (hF:2000 < F) {refs:List Rf} (hl:refs.length≤1000) (hv:∀ r ∈ refs,0≤r.2.2.1∧r.2.2.1≤32768) (c:Int) :
  iter (fun s=>L17_2 F refs (refs.length:Int) c s) F (0:Int)=some (bif refs.all (fun r=>clsOf r.2.2.1 == c) then .inl () else .inr false):=by
 obtain ⟨z,hz,hQ⟩:=iter1 (f:=fun s:Int=>L17_2 F refs (refs.length:Int) c s)
  (fun s=>∃ k:Nat,s=(k:Int)∧k≤refs.length∧(refs.drop k).all (fun r=>clsOf r.2.2.1 == c)=refs.all (fun r=>clsOf r.2.2.1 == c)) (fun z=>z=(bif refs.all (fun r=>clsOf r.2.2.1 == c) then .inl () else .inr false)) (fun s=>refs.length - s.toNat) (fun s hs=>by
   obtain ⟨k,e,hk,ha⟩:=hs
   subst e
   rcases Nat.lt_or_ge k refs.length with hlt | hge
   ·have hc1:((k:Nat):Int) < (refs.length:Int):=by omega
    have hr:refs[k]? = some refs[k]:=List.getElem?_eq_getElem hlt
    have hix:=ixn hr
    have hx:=hv _ (List.getElem_mem hlt)
    have hd:=drop_at hr
    generalize refs[k]=x at hr hix hx hd
    have hh:=refclass (F:=F) (by omega) hx.1 hx.2
    rw [hd,List.all_cons] at ha
    cases h1:clsOf x.2.2.1 == c with
    | false=>
     have h1':(clsOf x.2.2.1 != c)=true:=by simp [bne,h1]
     rw [h1,Bool.false_and] at ha
     exact .inr ⟨.inr false,by simp only [L17_2,L17_2c,hc1,decide_true,cond_true,hix,hh,h1',Option.bind_some],by rw [← ha];rfl⟩
    | true=>
     have h1':(clsOf x.2.2.1 != c)=false:=by simp [bne,h1]
     rw [h1,Bool.true_and] at ha
     exact .inl ⟨((k + 1:Nat):Int),by simp only [L17_2,L17_2c,hc1,decide_true,cond_true,hix,hh,h1',Option.bind_some,cond_false,w64n (show k < 9223372036854775807 by omega)],⟨k + 1,rfl,by omega,ha⟩,by simp only [Int.toNat_natCast];omega⟩
   ·have hkn:k=refs.length:=by omega
    subst hkn
    rw [List.drop_length] at ha
    refine .inr ⟨.inl (),?_,by rw [← ha];rfl⟩
    simp [L17_2,L17_2c])
  F (0:Int) ⟨0,rfl,by omega,rfl⟩ (by simp;omega)
 subst hQ
 exact hz
theorem r_valid {F:Nat} (hF:2000 < F) (id:List UInt8) (vault block data total:Int) {refs:List Rf} (hl:refs.length≤1000):T17 F id vault block data total refs=some (okS id vault block data total refs):=by
 have h41:=valid11 (refs:=refs) hl hF
 have bad:∀ {p:Prop} [Decidable p] {c:Bool},¬ p->(decide p && c)=false:=fun {p} _ c h=>by simp [h]
 simp only [T17,T17c,h41,rvalid_d,Option.bind_some]
 unfold okS
 by_cases c0:id.length=32
 case neg=>
  have:((id.length:Int) != 32)=true:=by
   have:¬ (id.length:Int)=32:=by omega
   simpa using this
  simp only [this,cond_true];rw [bad (fun h=>c0 h.1)]
 have e0:((id.length:Int) != 32)=false:=by rw [c0];rfl
 simp only [e0,cond_false]
 by_cases c1:vault < 0
 ·simp only [c1,decide_true,cond_true];rw [bad (by omega)]
 simp only [c1,decide_false,cond_false]
 by_cases c2:11 < vault
 ·simp only [c2,decide_true,cond_true];rw [bad (by omega)]
 simp only [c2,decide_false,cond_false]
 by_cases c3:1≤data∧data≤8∧data≤total∧total≤16
 case neg=>simp only [c3,decide_false,Bool.not_false,cond_true];rw [bad (fun h=>c3 ⟨h.2.2.2.1,h.2.2.2.2.1,h.2.2.2.2.2.1,h.2.2.2.2.2.2.1⟩)]
 have c3':decide (1≤data∧data≤8∧data≤total∧total≤16)=true:=by simpa using c3
 simp only [c3',Bool.not_true,cond_false]
 by_cases c4:(refs.length:Int) < 1
 ·simp only [c4,decide_true,cond_true];rw [bad (by omega)]
 simp only [c4,decide_false,cond_false]
 by_cases c5:data < (refs.length:Int)
 ·simp only [c5,decide_true,cond_true];rw [bad (by omega)]
 simp only [c5,decide_false,cond_false]
 cases c6:vRs refs with
 | false=>simp only [Bool.not_false,cond_true,Bool.false_and,Bool.and_false]
 | true=>
 have hp:decide (id.length=32∧0≤vault∧vault≤11∧1≤data∧data≤8∧data≤total∧total≤16∧1≤refs.length∧(refs.length:Int)≤data)=true:=by apply decide_eq_true;omega
 have hlo:=r_class_all hF hl (vRs_size c6) block
 simp only [Bool.not_true,cond_false,Bool.true_and,hlo,Option.bind_some,hp]
 cases refs.all (fun r=>clsOf r.2.2.1 == block)<;>rfl
theorem same43 {F:Nat} (hF:2000 < F) {l:List Rf} (hl:l.length≤1000):T43 F l l=some true:=by
 have h:iter (fun s=>L43_2 F l l (l.length:Int) s) F (0:Int)=some (.inl ()):=by
  refine same_loop (n:=l.length) (by omega) (by omega) (fun k hk=>?_) ?_
  ·have hr:l[k]? = some l[k]:=List.getElem?_eq_getElem hk
   have hc1:((k:Nat):Int) < (l.length:Int):=by omega
   simp only [L43_2,L43_2c,hc1,decide_true,cond_true,ixn hr,Option.bind_some,beq_self_eq_true,Bool.and_self,Bool.not_true,cond_false,w64n (show k < 9223372036854775807 by omega)]
  ·simp [L43_2,L43_2c]
 simp only [T43,T43c,bne_self_eq_false,cond_false,h,Option.bind_some,elimS]
theorem same12 {F:Nat} (hF:2000 < F) (a:List UInt8) (b c d e:Int) {l:List Rf} (hl:l.length≤1000):T12 F a b c d e l a b c d e l=some true:=by
 simp only [T12,T12c,beq_self_eq_true,cond_true,same43 hF hl,Option.bind_some]
theorem w64m (a:Int):w64 a % 18446744073709551616=a % 18446744073709551616:=by rw [w64_eq];split<;>omega
theorem w64c {a b:Int} (h:a % 18446744073709551616=b % 18446744073709551616):w64 a=w64 b:=by rw [w64_eq,w64_eq,h]
theorem u64_of (n:Int):((UInt64.ofInt n).toNat:Int)=n % 18446744073709551616:=by
 have h:(UInt64.ofInt n).toNat=(n % 18446744073709551616).toNat:=by
  show (UInt64.ofNat (n % 2 ^ 64).toNat).toNat=_
  rw [UInt64.toNat_ofNat'];omega
 rw [h];omega
theorem w_back {n:Int} (h1:-9223372036854775808≤n) (h2:n < 9223372036854775808):w64 ((UInt64.ofInt n).toNat:Int)=n:=by
 rw [u64_of,w64c (a:=n % 18446744073709551616) (b:=n) (by omega),w64_in h1 h2]
theorem u_back {v:Nat} (h:v < 2 ^ 64):(UInt64.ofInt (w64 (v:Int))).toNat=v:=by
 have:=u64_of (w64 (v:Int))
 rw [w64m] at this
 omega
abbrev RS:=Option Bs
def rN:RS->Nat×RS
 | none=>(0,none)
 | some r=>match decS 0 r with
  | some (v,n)=>(v,some (r.drop n))
  | none=>(0,none)
def rC (m:Nat):RS->Nat×RS
 | none=>(0,none)
 | some r=>match decS 0 r with
  | some (v,n)=>if v≤m then (v,some (r.drop n)) else (0,none)
  | none=>(0,none)
def rS:RS->Bs×RS
 | none=>([],none)
 | some r=>if 32≤r.length then (r.take 32,some (r.drop 32)) else ([],none)
def rI (s:RS):Int×RS:=(w64 ((rN s).1:Int),(rN s).2)
def rL {α:Type} (rd:RS->α×RS):Nat->RS->List α×RS
 | 0,s=>([],s)
 | n + 1,s=>((rd s).1 :: (rL rd n (rd s).2).1,(rL rd n (rd s).2).2)
def rRf (s:RS):Rf×RS:=(((rS s).1,(rI (rS s).2).1,(rI (rI (rS s).2).2).1,()),(rI (rI (rS s).2).2).2)
abbrev St:=Bs×Int×Int×Int×Int×List Rf
def rSt (s:RS):St×RS:=
 let a:=rS s;let b:=rI a.2;let c:=rI b.2;let d:=rI c.2;let e:=rI d.2;let n:=rC 8 e.2;let f:=rL rRf n.1 n.2
 ((a.1,b.1,c.1,d.1,e.1,f.1),f.2)
def At (b:Bs) (s:RS) (o e:Int):Prop:=match s with
 | some r=>e=0∧∃ n:Nat,o=(n:Int)∧n≤b.length∧r=b.drop n
 | none=>e ≠ 0
theorem At.bne {b:Bs} {o e:Int} (h:At b none o e):(e != 0)=true:=by
 have:e ≠ 0:=h
 simp [this]
theorem At.mk {b:Bs} {n k:Nat} (h:n + k≤b.length):At b (some ((b.drop n).drop k)) ((n + k:Nat):Int) 0:=⟨rfl,n + k,rfl,h,by rw [List.drop_drop]⟩
theorem ofNat_to {v:Nat} (h:v < 2 ^ 64):(UInt64.ofNat v).toNat=v:=by rw [UInt64.toNat_ofNat'];omega
theorem kU {F:Nat} (hF:5000 < F) {b:Bs} (hb:b.length < 100000000) {s:RS} {o e:Int} (h:At b s o e) (l:Int):∃ o' l' e',T64 F o l e b=some (UInt64.ofNat (rN s).1,o',l',e')∧At b (rN s).2 o' e'∧(rN s).1 < 2 ^ 64:=by
 cases s with
 | none=>
  refine ⟨o,l,e,?_,h,by simp only [rN];decide⟩
  simp only [T64,T64c,T104,T104c,h.bne,cond_true,Option.bind_some];rfl
 | some r=>
  obtain ⟨rfl,n,rfl,hn,rfl⟩:=h
  rcases t90 (F:=F) (by omega) b (by omega) hn with ⟨v,k,h1,h2⟩ | ⟨h1,p,h2⟩
  ·have hd:=dec_enc h1
   have hk:n + k≤b.length:=by have:=hd.2.2.2;rw [List.length_drop] at this;omega
   refine ⟨((n + k:Nat):Int),(n:Int),0,?_,?_,?_⟩
   ·simp only [T64,T64c,T104,T104c,bne_self_eq_false,cond_false,h2,Option.bind_some,T140,T140c,rN,h1]
   ·simp only [rN,h1];exact At.mk hk
   ·simp only [rN,h1];exact hd.2.2.1
  ·refine ⟨(n:Int),(n:Int),3,?_,?_,?_⟩
   ·have c3:((3:Int) != 0)=true:=rfl
    simp only [T64,T64c,T104,T104c,bne_self_eq_false,cond_false,h2,Option.bind_some,T140,T140c,c3,cond_true,rN,h1]
   ·simp only [rN,h1];show (3:Int) ≠ 0;decide
   ·simp only [rN,h1];decide
theorem kI {F:Nat} (hF:5000 < F) {b:Bs} (hb:b.length < 100000000) {s:RS} {o e:Int} (h:At b s o e) (l:Int):∃ u o' l' e',T64 F o l e b=some (u,o',l',e')∧w64 (u.toNat:Int)=(rI s).1∧At b (rI s).2 o' e':=by
 obtain ⟨o',l',e',h1,h2,h3⟩:=kU hF hb h l
 exact ⟨_,o',l',e',h1,by rw [ofNat_to h3];rfl,h2⟩
theorem lim {m:Nat} (hm:m≤20000) {v:Nat} (hv:v < 2 ^ 64):decide (UInt64.ofInt (if ((m:Nat):Int) < 0 then 0 else ((m:Nat):Int)) < UInt64.ofNat v) = !decide (v≤m):=by
 rw [if_neg (by omega)]
 have hu:(UInt64.ofInt ((m:Nat):Int)).toNat=m:=by have:=u64_of ((m:Nat):Int);omega
 have:(UInt64.ofInt ((m:Nat):Int) < UInt64.ofNat v) ↔ m < v:=by rw [UInt64.lt_iff_toNat_lt,hu,ofNat_to hv]
 by_cases h:v≤m
 ·rw [decide_eq_true h,Bool.not_true];exact decide_eq_false (by rw [this];omega)
 ·rw [decide_eq_false h,Bool.not_false];exact decide_eq_true (by rw [this];omega)
theorem t_lim {F:Nat} (hF:5000 < F) {b:Bs} (hb:b.length < 100000000) {m:Nat} (hm:m≤20000) {n:Nat} (hn:n≤b.length) :
  (∃ v k,decS 0 (b.drop n)=some (v,k)∧v≤m∧n + k≤b.length∧T108 F (m:Int) (n:Int) b=some ((v:Int),0,((n + k:Nat):Int))) ∨
  ((∀ v k,decS 0 (b.drop n)=some (v,k)->m < v)∧∃ e p,e ≠ 0∧T108 F (m:Int) (n:Int) b=some (0,e,p)):=by
 rcases t90 (F:=F) (by omega) b (by omega) hn with ⟨v,k,h1,h2⟩ | ⟨h1,p,h2⟩
 ·have hd:=dec_enc h1
  have hk:n + k≤b.length:=by have:=hd.2.2.2;rw [List.length_drop] at this;omega
  by_cases hv:v≤m
  ·refine .inl ⟨v,k,h1,hv,hk,?_⟩
   have e1:w64 ((v:Nat):Int)=((v:Nat):Int):=w64_in (by omega) (by omega)
   simp only [T108,T108c,h2,Option.bind_some,bne_self_eq_false,cond_false,lim hm hd.2.2.1,decide_eq_true hv,Bool.not_true,ofNat_to hd.2.2.1,e1]
  ·refine .inr ⟨fun v' k' h=>by (rw [h1] at h;cases h;omega),2,((n + k:Nat):Int),by decide,?_⟩
   simp only [T108,T108c,h2,Option.bind_some,bne_self_eq_false,cond_false,lim hm hd.2.2.1,decide_eq_false hv,Bool.not_false,cond_true]
 ·refine .inr ⟨fun v' k' h=>by (rw [h1] at h;cases h),3,p,by decide,?_⟩
  have c3:((3:Int) != 0)=true:=rfl
  simp only [T108,T108c,h2,Option.bind_some,c3,cond_true]
theorem kC {F:Nat} (hF:5000 < F) {b:Bs} (hb:b.length < 100000000) {m:Nat} (hm:m≤20000) {s:RS} {o e:Int} (h:At b s o e) (l:Int):∃ o' l' e',T65 F (m:Int) o l e b=some (((rC m s).1:Int),o',l',e')∧At b (rC m s).2 o' e':=by
 cases s with
 | none=>
  refine ⟨o,l,e,?_,h⟩
  simp only [T65,T65c,T106,T106c,h.bne,cond_true,Option.bind_some];rfl
 | some r=>
  obtain ⟨rfl,n,rfl,hn,rfl⟩:=h
  rcases t_lim hF hb hm hn with ⟨v,k,h1,hv,hk,h2⟩ | ⟨h1,e,p,he,h2⟩
  ·refine ⟨((n + k:Nat):Int),(n:Int),0,?_,?_⟩
   ·simp only [T65,T65c,T106,T106c,T107,T107c,bne_self_eq_false,cond_false,h2,Option.bind_some,T141,T141c,rC,h1,if_pos hv]
   ·simp only [rC,h1,if_pos hv];exact At.mk hk
  ·have hr:rC m (some (b.drop n))=(0,none):=by
    cases hd:decS 0 (b.drop n) with
    | none=>simp only [rC,hd]
    | some p=>
     obtain ⟨v,k⟩:=p
     have:=h1 v k hd
     simp only [rC,hd];rw [if_neg (by omega)]
   have c3:(e != 0)=true:=by simp [he]
   refine ⟨(n:Int),(n:Int),e,?_,?_⟩
   ·simp only [T65,T65c,T106,T106c,T107,T107c,bne_self_eq_false,cond_false,h2,Option.bind_some,T141,T141c,c3,cond_true,hr];rfl
   ·rw [hr];exact he
theorem t_take {F:Nat} {b:Bs} (hb:b.length < 100000000) {n:Nat} (hn:n≤b.length) :
  (n + 32≤b.length∧T103 F (32:Int) (n:Int) b=some ((n,n + 32),0,((n + 32:Nat):Int)))∨(¬ n + 32≤b.length∧T103 F (32:Int) (n:Int) b=some ((0,0),3,(n:Int))):=by
 have e1:w64 ((b.length:Int) - (n:Int))=(b.length:Int) - (n:Int):=w64_in (by omega) (by omega)
 have e2:w64 ((n:Int) + (32:Int))=((n + 32:Nat):Int):=by rw [w64_in (by omega) (by omega)];omega
 by_cases h:n + 32≤b.length
 ·refine .inl ⟨h,?_⟩
  have q:¬ ((b.length:Int) - (n:Int) < (32:Int)):=by omega
  have g:gslb b.length (n:Int) ((n + 32:Nat):Int)=some (n,n + 32):=by unfold gslb;rw [if_pos (by omega),Int.toNat_natCast,Int.toNat_natCast]
  simp only [T103,T103c,e1,q,decide_false,cond_false,e2,g,Option.bind_some]
 ·refine .inr ⟨h,?_⟩
  have q:(b.length:Int) - (n:Int) < (32:Int):=by omega
  simp only [T103,T103c,e1,q,decide_true,cond_true]
theorem drop_take {b:Bs} {n v:Nat}:(b.drop n).take (n + v - n)=(b.drop n).take v:=by rw [Nat.add_sub_cancel_left]
theorem kS {F:Nat} {b:Bs} (hb:b.length < 100000000) {s:RS} {o e:Int} (h:At b s o e) (l:Int):∃ o' l' e',T63 F o l e b=some ((rS s).1,o',l',e')∧At b (rS s).2 o' e':=by
 cases s with
 | none=>
  refine ⟨o,l,e,?_,h⟩
  simp only [T63,T63c,T101,T101c,h.bne,cond_true,Option.bind_some];rfl
 | some r=>
  obtain ⟨rfl,n,rfl,hn,rfl⟩:=h
  rcases t_take (F:=F) hb hn with ⟨h1,h2⟩ | ⟨h1,h2⟩
  ·have hr:rS (some (b.drop n))=((b.drop n).take 32,some ((b.drop n).drop 32)):=by simp only [rS];rw [if_pos (by rw [List.length_drop];omega)]
   refine ⟨((n + 32:Nat):Int),(n:Int),0,?_,?_⟩
   ·simp only [T63,T63c,T101,T101c,T102,T102c,bne_self_eq_false,cond_false,h2,Option.bind_some,T139,T139c,hr,drop_take]
   ·rw [hr];exact At.mk h1
  ·have hr:rS (some (b.drop n))=([],none):=by simp only [rS];rw [if_neg (by rw [List.length_drop];omega)]
   have c3:((3:Int) != 0)=true:=rfl
   refine ⟨(n:Int),(n:Int),3,?_,?_⟩
   ·simp only [T63,T63c,T101,T101c,T102,T102c,bne_self_eq_false,cond_false,h2,Option.bind_some,T139,T139c,hr,c3,cond_true]
   ·rw [hr];show (3:Int) ≠ 0;decide
theorem k_refs {F:Nat} (hF:5000 < F) {b:Bs} (hb:b.length < 100000000) {N:Nat} (hN:N≤8):∀ (m k fuel:Nat) (s:RS) (o l e:Int) (acc:List Rf),k + m=N->m < fuel->acc.length=k->At b s o e ->
  ∃ o' l' e',iter (fun s:Int×Int×Int×Int×List Rf=>L27_2 F (N:Int) b s.1 s.2.1 s.2.2.1 s.2.2.2.1 s.2.2.2.2) fuel ((k:Int),o,l,e,acc)=some (o',l',e',acc ++ (rL rRf m s).1)∧At b (rL rRf m s).2 o' e'
 | 0,k,fuel + 1,s,o,l,e,acc,hk,hf,ha,h=>by
  have:¬ (k:Int) < (N:Int):=by omega
  exact ⟨o,l,e,(it_out' (by simp only [L27_2,L27_2c,this,decide_false,cond_false];rfl)).trans (by simp [rL]),h⟩
 | m + 1,k,fuel + 1,s,o,l,e,acc,hk,hf,ha,h=>by
  have hc:(k:Int) < (N:Int):=by omega
  obtain ⟨o1,l1,e1,a1,b1⟩:=kS (F:=F) hb h l
  obtain ⟨u2,o2,l2,e2,a2,c2,b2⟩:=kI hF hb b1 l1
  obtain ⟨u3,o3,l3,e3,a3,c3,b3⟩:=kI hF hb b2 l2
  obtain ⟨o4,l4,e4,h1,h2⟩:=k_refs hF hb hN m (k + 1) fuel (rRf s).2 o3 l3 e3 (acc ++ [(rRf s).1]) (by omega) (by omega) (by simp [ha]) b3
  have hg:gapp acc ([(rRf s).1]:List Rf)=some (acc ++ [(rRf s).1]):=gappn (by simp;omega)
  have he:(rRf s).1=((rS s).1,w64 (u2.toNat:Int),w64 (u3.toNat:Int),()):=by rw [c2,c3];rfl
  refine ⟨o4,l4,e4,(it_again' (s':=(((k + 1:Nat):Int),o3,l3,e3,acc ++ [(rRf s).1])) ?_).trans (h1.trans (by simp [rL])),h2⟩
  rw [he] at hg ⊢
  simp only [L27_2,L27_2c,hc,decide_true,cond_true,a1,a2,a3,hg,Option.bind_some,w64n (show k < 9223372036854775807 by omega)]
theorem at_end {b:Bs} {s:RS} {o e:Int} (h:At b s o e):(s=some []∧(e != 0)=false∧e=0∧decide (o < (b.length:Int))=false)∨(s ≠ some []∧((e != 0)=true∨(e=0∧decide (o < (b.length:Int))=true))):=by
 cases s with
 | none=>exact .inr ⟨by simp,.inl h.bne⟩
 | some r=>
  obtain ⟨rfl,n,rfl,hn,rfl⟩:=h
  by_cases hl:n=b.length
  ·refine .inl ⟨by rw [hl,List.drop_length],rfl,rfl,decide_eq_false (by omega)⟩
  ·refine .inr ⟨fun h=>?_,.inr ⟨rfl,decide_eq_true (by omega)⟩⟩
   have:=congrArg List.length (Option.some.inj h)
   rw [List.length_drop] at this;simp at this;omega
theorem rC_le (m:Nat) (s:RS):(rC m s).1≤m:=by
 unfold rC
 cases s with
 | none=>simp
 | some r=>
  simp only
  split
  ·split
   ·assumption
   ·simp
  ·simp
theorem rL_len {α:Type} (rd:RS->α×RS):∀ (n:Nat) (s:RS),(rL rd n s).1.length=n
 | 0,s=>rfl
 | n + 1,s=>by simp [rL,rL_len rd n]
abbrev Dd:=Bs×Int×Int×Int×Int×Int×List Rf
def decD (b:Bs):Dd:=
 let x:=rSt (some b)
 if x.2=some []∧okS x.1.1 x.1.2.1 x.1.2.2.1 x.1.2.2.2.1 x.1.2.2.2.2.1 x.1.2.2.2.2.2=true then (x.1.1,x.1.2.1,x.1.2.2.1,x.1.2.2.2.1,x.1.2.2.2.2.1,0,x.1.2.2.2.2.2) else ([],0,0,0,0,3,[])
theorem decode30 {F:Nat} (hF:5000 < F) {b:Bs} (hb:b.length < 100000000):T27 F b=some (decD b):=by
 have g0:gapp ([]:List UInt8) b=some b:=gappn (by simp;omega)
 have h0:At b (some b) 0 0:=⟨rfl,0,rfl,by omega,rfl⟩
 obtain ⟨o1,l1,e1,a1,b1⟩:=kS (F:=F) hb h0 0
 obtain ⟨u2,o2,l2,e2,a2,c2,b2⟩:=kI hF hb b1 l1
 obtain ⟨u3,o3,l3,e3,a3,c3,b3⟩:=kI hF hb b2 l2
 obtain ⟨u4,o4,l4,e4,a4,c4,b4⟩:=kI hF hb b3 l3
 obtain ⟨u5,o5,l5,e5,a5,c5,b5⟩:=kI hF hb b4 l4
 obtain ⟨o6,l6,e6,a6,b6⟩:=kC (m:=8) hF hb (by omega) b5 l5
 have hle:=rC_le 8 (rI (rI (rI (rI (rS (some b)).2).2).2).2).2
 obtain ⟨o7,l7,e7,a7,b7⟩:=k_refs hF hb hle (rC 8 (rI (rI (rI (rI (rS (some b)).2).2).2).2).2).1 0 F _ o6 l6 e6 [] (by omega) (by omega) rfl b6
 have a7:iter (fun s:Int×Int×Int×Int×List Rf=>L27_2 F ((rC 8 (rI (rI (rI (rI (rS (some b)).2).2).2).2).2).1:Int) b s.1 s.2.1 s.2.2.1 s.2.2.2.1 s.2.2.2.2) F ((0:Int),o6,l6,e6,([]:List Rf))=some (o7,l7,e7,[] ++ (rL rRf (rC 8 (rI (rI (rI (rI (rS (some b)).2).2).2).2).2).1 (rC 8 (rI (rI (rI (rI (rS (some b)).2).2).2).2).2).2).1):=a7
 have a6:T65 F (8:Int) o5 l5 e5 b=some (((rC 8 (rI (rI (rI (rI (rS (some b)).2).2).2).2).2).1:Int),o6,l6,e6):=a6
 have hrl:=rL_len rRf (rC 8 (rI (rI (rI (rI (rS (some b)).2).2).2).2).2).1 (rC 8 (rI (rI (rI (rI (rS (some b)).2).2).2).2).2).2
 have hck:=check_ok (F:=F) (by omega) (rS (some b)).1 (rI (rS (some b)).2).1 (rI (rI (rS (some b)).2).2).1 (rI (rI (rI (rS (some b)).2).2).2).1 (rI (rI (rI (rI (rS (some b)).2).2).2).2).1 (refs:=(rL rRf (rC 8 (rI (rI (rI (rI (rS (some b)).2).2).2).2).2).1 (rC 8 (rI (rI (rI (rI (rS (some b)).2).2).2).2).2).2).1) (by omega)
 simp only [T27,T27c,T62,T62c,g0,Option.bind_some,a1,a2,a3,a4,a5,a6,a7,c2,c3,c4,c5,List.nil_append,T66,T66c,hck]
 unfold decD rSt
 dsimp only
 rcases at_end b7 with ⟨s1,s2,s3,s4⟩ | ⟨s1,s2⟩
 ·rw [s1]
  simp only [s2,s4,cond_false,bne_self_eq_false,Option.bind_some,true_and]
  cases okS (rS (some b)).1 (rI (rS (some b)).2).1 (rI (rI (rS (some b)).2).2).1 (rI (rI (rI (rS (some b)).2).2).2).1 (rI (rI (rI (rI (rS (some b)).2).2).2).2).1 (rL rRf (rC 8 (rI (rI (rI (rI (rS (some b)).2).2).2).2).2).1 (rC 8 (rI (rI (rI (rI (rS (some b)).2).2).2).2).2).2).1<;>rfl
 ·rw [if_neg (fun h=>s1 h.1)]
  rcases s2 with s2 | ⟨rfl,s2⟩
  ·simp only [s2,cond_true,Option.bind_some]
  ·have c3:((3:Int) != 0)=true:=rfl
   simp only [bne_self_eq_false,cond_false,s2,cond_true,Option.bind_some,c3]
theorem dec_split {l:Bs} {v n:Nat} (h:decS 0 l=some (v,n)):l=enc v ++ l.drop n:=by
 have:=(dec_enc h).1
 rw [← this,List.take_append_drop]
theorem invI {s:RS} {r:Bs} (h:(rI s).2=some r):s=some (eU (rI s).1 ++ r):=by
 cases s with
 | none=>cases h
 | some l=>
  have h:(rN (some l)).2=some r:=h
  show some l=some (eU (w64 ((rN (some l)).1:Int)) ++ r)
  simp only [rN] at h ⊢
  cases hd:decS 0 l with
  | none=>rw [hd] at h;cases h
  | some p=>
   obtain ⟨v,n⟩:=p
   rw [hd] at h
   simp only [Option.some.injEq] at h
   simp only [eU]
   rw [u_back (dec_enc hd).2.2.1,← h,← dec_split hd]
theorem invC {m:Nat} {s:RS} {r:Bs} (h:(rC m s).2=some r):s=some (eU ((rC m s).1:Int) ++ r)∧(rC m s).1≤m:=by
 refine ⟨?_,rC_le m s⟩
 cases s with
 | none=>cases h
 | some l=>
  simp only [rC] at h ⊢
  cases hd:decS 0 l with
  | none=>rw [hd] at h;cases h
  | some p=>
   obtain ⟨v,n⟩:=p
   rw [hd] at h
   simp only at h ⊢
   by_cases hv:v≤m
   ·rw [if_pos hv] at h ⊢
    simp only [Option.some.injEq] at h
    have hlt:=(dec_enc hd).2.2.1
    have hu:(UInt64.ofInt (v:Int)).toNat=v:=by have:=u64_of (v:Int);omega
    simp only [eU]
    rw [hu,← h,← dec_split hd]
   ·rw [if_neg hv] at h;cases h
theorem invS {s:RS} {r:Bs} (h:(rS s).2=some r):s=some ((rS s).1 ++ r):=by
 cases s with
 | none=>cases h
 | some l=>
  unfold rS at h ⊢
  by_cases hl:32≤l.length
  ·simp only [if_pos hl,Option.some.injEq] at h ⊢
   rw [← h,List.take_append_drop]
  ·simp only [if_neg hl] at h;cases h
theorem invRf {s:RS} {r:Bs} (h:(rRf s).2=some r):s=some (eRf (rRf s).1 ++ r):=by
 have h3:(rI (rI (rS s).2).2).2=some r:=h
 have h3:=invI h3
 have h2:=invI h3
 have h1:=invS h2
 refine h1.trans ?_
 show _=some (eRf ((rS s).1,(rI (rS s).2).1,(rI (rI (rS s).2).2).1,()) ++ r)
 simp [eRf]
theorem invL:∀ {n:Nat} {s:RS} {r:Bs},(rL rRf n s).2=some r->s=some ((rL rRf n s).1.flatMap eRf ++ r)
 | 0,s,r,h=>by have h:s=some r:=h;subst h;simp [rL]
 | n + 1,s,r,h=>by
  have h:(rL rRf n (rRf s).2).2=some r:=h
  have h2:=invRf (invL h)
  refine h2.trans ?_
  show _=some (((rRf s).1 :: (rL rRf n (rRf s).2).1).flatMap eRf ++ r)
  simp
theorem invSt {s:RS} {r:Bs} (h:(rSt s).2=some r):s=some (eSt (rSt s).1.1 (rSt s).1.2.1 (rSt s).1.2.2.1 (rSt s).1.2.2.2.1 (rSt s).1.2.2.2.2.1 (rSt s).1.2.2.2.2.2 ++ r):=by
 unfold rSt at h ⊢
 dsimp only at h ⊢
 have h7:=invL h
 have h6:=(invC h7).1
 have h5:=invI h6
 have h4:=invI h5
 have h3:=invI h4
 have h2:=invI h3
 have h1:=invS h2
 refine h1.trans ?_
 unfold eSt
 rw [rL_len]
 simp
theorem fwdN {v:Nat} (hv:v < 2 ^ 64) (r:Bs):rN (some (enc v ++ r))=(v,some r):=by
 unfold rN
 simp only [enc_dec hv r,List.drop_left]
theorem fwdI {n:Int} (h1:-9223372036854775808≤n) (h2:n≤9223372036854775807) (r:Bs):rI (some (eU n ++ r))=(n,some r):=by
 unfold rI eU
 rw [fwdN (UInt64.toNat_lt _),w_back h1 (by omega)]
theorem fwdC {m v:Nat} (hm:m≤20000) (h:v≤m) (r:Bs):rC m (some (eU (v:Int) ++ r))=(v,some r):=by
 have hu:(UInt64.ofInt (v:Int)).toNat=v:=by have:=u64_of (v:Int);omega
 unfold rC eU
 simp only [hu,enc_dec (show v < 2 ^ 64 by omega) r,if_pos h,List.drop_left]
theorem fwdS {x:Bs} (h:x.length=32) (r:Bs):rS (some (x ++ r))=(x,some r):=by
 unfold rS
 simp only [List.length_append]
 rw [if_pos (by omega),← h,List.take_left,List.drop_left]
def inR (r:Rf):Prop:=r.1.length=32∧(-9223372036854775808≤r.2.1∧r.2.1≤9223372036854775807)∧(-9223372036854775808≤r.2.2.1∧r.2.2.1≤9223372036854775807)
theorem fwdRf {x:Rf} (h:inR x) (r:Bs):rRf (some (eRf x ++ r))=(x,some r):=by
 have e:eRf x ++ r=x.1 ++ (eU x.2.1 ++ (eU x.2.2.1 ++ r)):=by simp [eRf]
 rw [e]
 unfold rRf
 rw [fwdS h.1,fwdI h.2.1.1 h.2.1.2,fwdI h.2.2.1 h.2.2.2]
theorem fwdL:∀ {l:List Rf},(∀ x ∈ l,inR x)->∀ r:Bs,rL rRf l.length (some (l.flatMap eRf ++ r))=(l,some r)
 | [],_,r=>rfl
 | x :: l,h,r=>by
  have e:(x :: l).flatMap eRf ++ r=eRf x ++ (l.flatMap eRf ++ r):=by simp
  rw [e]
  simp only [List.length_cons,rL]
  rw [fwdRf (h x (by simp)),fwdL (fun y hy=>h y (by simp [hy]))]
theorem fwdSt {id:Bs} {v b d t:Int} {refs:List Rf} (hi:id.length=32) (hv:-9223372036854775808≤v∧v≤9223372036854775807) (hb:-9223372036854775808≤b∧b≤9223372036854775807) (hd:-9223372036854775808≤d∧d≤9223372036854775807) (ht:-9223372036854775808≤t∧t≤9223372036854775807) (hl:refs.length≤8) (hr:∀ x ∈ refs,inR x) :
  rSt (some (eSt id v b d t refs))=((id,v,b,d,t,refs),some []):=by
 have e:eSt id v b d t refs=id ++ (eU v ++ (eU b ++ (eU d ++ (eU t ++ (eU (refs.length:Int) ++ (refs.flatMap eRf ++ [])))))):=by simp [eSt]
 rw [e]
 unfold rSt
 dsimp only
 rw [fwdS hi];dsimp only
 rw [fwdI hv.1 hv.2];dsimp only
 rw [fwdI hb.1 hb.2];dsimp only
 rw [fwdI hd.1 hd.2];dsimp only
 rw [fwdI ht.1 ht.2];dsimp only
 rw [fwdC (by omega) hl];dsimp only
 rw [fwdL hr]
theorem plaw6 {F:Nat} (hF:50000≤F) (h8:T8 F=some true) (p0:List UInt8) (p1 p2 p3 p4:Int) (p5:List Rf) (p6:List UInt8) (h1:-9223372036854775808≤p1∧p1≤9223372036854775807) (h2:-9223372036854775808≤p2∧p2≤9223372036854775807) (h3:-9223372036854775808≤p3∧p3≤9223372036854775807) (h4:-9223372036854775808≤p4∧p4≤9223372036854775807) (h5:∀ r ∈ p5,-9223372036854775808≤r.2.1∧r.2.1≤9223372036854775807):T6 F p0 p1 p2 p3 p4 p5 p6=some true:=by
 simp only [T6,T6c,h8,Option.bind_some,Bool.not_true,cond_false]
 by_cases h20:(20:Int) < (p5.length:Int)
 ·simp only [h20,decide_true,cond_true]
 by_cases h2k:(2000:Int) < (p6.length:Int)
 ·simp only [h20,h2k,decide_true,decide_false,cond_true,cond_false]
 have he:=encode30 (F:=F) (by omega) (id:=p0) (v:=p1) (b:=p2) (d:=p3) (t:=p4) (refs:=p5) (by omega)
 have hrv:=r_valid (F:=F) (by omega) p0 p1 p2 p3 p4 (refs:=p5) (by omega)
 have hd6:=decode30 (F:=F) (by omega) (b:=p6) (by omega)
 simp only [h20,h2k,decide_false,cond_false,he,hrv,hd6,Option.bind_some]
 have s00:=same12 (F:=F) (by omega) [] 0 0 0 0 (l:=[]) (by simp)
 have rest:(bif ((decD p6).2.2.2.2.2.1 != (0:Int)) then (bif ((decD p6).2.2.2.2.2.1 == (3:Int)) then (Option.bind (T12 F (decD p6).1 (decD p6).2.1 (decD p6).2.2.1 (decD p6).2.2.2.1 (decD p6).2.2.2.2.1 (decD p6).2.2.2.2.2.2 ([]:List UInt8) (0:Int) (0:Int) (0:Int) (0:Int) ([]:List ((List UInt8)×Int×Int×Unit))) fun z19=>some z19) else some false) else (Option.bind (T17 F (decD p6).1 (decD p6).2.1 (decD p6).2.2.1 (decD p6).2.2.2.1 (decD p6).2.2.2.2.1 (decD p6).2.2.2.2.2.2) fun z20=>(bif z20 then (Option.bind (T28 F (decD p6).1 (decD p6).2.1 (decD p6).2.2.1 (decD p6).2.2.2.1 (decD p6).2.2.2.2.1 (decD p6).2.2.2.2.2.2) fun z21=>some (z21 == p6)) else some false)))=some true:=by
  unfold decD
  dsimp only
  by_cases hg:(rSt (some p6)).2=some []∧okS (rSt (some p6)).1.1 (rSt (some p6)).1.2.1 (rSt (some p6)).1.2.2.1 (rSt (some p6)).1.2.2.2.1 (rSt (some p6)).1.2.2.2.2.1 (rSt (some p6)).1.2.2.2.2.2=true
  ·rw [if_pos hg]
   have hi:=invSt hg.1
   rw [List.append_nil] at hi
   have hi:=Option.some.inj hi
   have hok:=hg.2
   generalize (rSt (some p6)).1=x at hi hok
   have hq:x.2.2.2.2.2.length≤1000:=by
    unfold okS at hok
    simp only [Bool.and_eq_true] at hok
    have:=of_decide_eq_true hok.1
    omega
   have hv2:=r_valid (F:=F) (by omega) x.1 x.2.1 x.2.2.1 x.2.2.2.1 x.2.2.2.2.1 (refs:=x.2.2.2.2.2) hq
   rw [hok] at hv2
   have hre:=rencode30 (F:=F) (by omega) hok
   simp only [bne_self_eq_false,cond_false,hv2,Option.bind_some,cond_true,hre]
   rw [← hi];simp
  ·rw [if_neg hg]
   have c3:((3:Int) != 0)=true:=rfl
   simp only [c3,cond_true,beq_self_eq_true,s00,Option.bind_some]
 cases hok:okS p0 p1 p2 p3 p4 p5 with
 | false=>
  simp only [cond_false,Bool.not_false,cond_true,bne_self_eq_false,List.length_nil]
  exact rest
 | true=>
  have hre:=rencode30 (F:=F) (by omega) hok
  have hok':=hok
  unfold okS at hok'
  simp only [Bool.and_eq_true] at hok'
  obtain ⟨hp,hv,_⟩:=hok'
  obtain ⟨q0,q1,q2,q3,q4,q5,q6,q7,q8⟩:=of_decide_eq_true hp
  have hnm:=vRs_name hv
  have hsz:=vRs_size hv
  have hir:∀ x ∈ p5,inR x:=fun x hx=>⟨hnm x hx,h5 x hx,by have:=hsz x hx;omega⟩
  have hrl:=refs_len p5 hnm
  have a1:=eU_10 p1
  have a2:=eU_10 p2
  have a3:=eU_10 p3
  have a4:=eU_10 p4
  have a5:=eU_10 (p5.length:Int)
  have hel:(eSt p0 p1 p2 p3 p4 p5).length < 100000000:=by unfold eSt;simp only [List.length_append];omega
  have hdx:=decode30 (F:=F) (by omega) (b:=eSt p0 p1 p2 p3 p4 p5) hel
  have hfw:=fwdSt q0 h1 h2 h3 h4 (by omega) hir
  have hdd:decD (eSt p0 p1 p2 p3 p4 p5)=(p0,p1,p2,p3,p4,0,p5):=by
   unfold decD
   dsimp only
   rw [hfw]
   dsimp only
   rw [if_pos ⟨rfl,hok⟩]
  rw [hdd] at hdx
  have hsm:=same12 (F:=F) (by omega) p0 p1 p2 p3 p4 (l:=p5) (by omega)
  simp only [cond_true,Bool.not_true,cond_false,hdx,Option.bind_some,bne_self_eq_false,hre,hsm]
  exact rest
theorem flaw6 (a0:Ty.den (.pr .s (.pr .i (.pr .i (.pr .i (.pr .i (.pr (.sl (.pr .s (.pr .i (.pr .i .un)))) .un))))))) (a1:List UInt8) (h:tyW (.pr .s (.pr .i (.pr .i (.pr .i (.pr .i (.pr (.sl (.pr .s (.pr .i (.pr .i .un)))) .un)))))) a0) (_:a1.length≤maxLen):T6 50000 a0.1 a0.2.1 a0.2.2.1 a0.2.2.2.1 a0.2.2.2.2.1 a0.2.2.2.2.2.1 a1=some true:=plaw6 (by omega) awake8 _ _ _ _ _ _ _ h.2.1 h.2.2.1 h.2.2.2.1 h.2.2.2.2.1 fun r hr=>(h.2.2.2.2.2.1.2 r hr).2.1
end Go.Proofs.YtpnhgldpeiogbaaGreatDoor
