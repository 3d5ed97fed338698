/- The plain law. -/
import Derived.Test.YthikoaamigiceaaGreatDoorRJ
namespace Go.Proofs.YthikoaamigiceaaGreatDoor
open Go.Tw
set_option linter.unusedSimpArgs false
set_option linter.unusedVariables false
theorem awake10:T10 50000=some true:=by kernel_rfl
theorem gstr_ok {l:List UInt8} (h:l.length≤1099511627776):gstr l=some l:=by unfold gstr;rw [if_pos h]
theorem gcat_ok {p q:List UInt8} (h:p.length + q.length≤1099511627776):gcat p q=some (p ++ q):=by unfold gcat;rw [if_pos h]
theorem mac3 {F:Nat} {k x y z:List UInt8} (hF:3000 + x.length + y.length + z.length < F) (hk:k.length≤64) (hb:x.length + y.length + z.length < 1000000) :
  ∃ z1 z2 z3 z4 t,T140 F k=some z1∧T141 F x z1.1 z1.2.1 z1.2.2.1=some z2∧T141 F y z2.1 z2.2.1 z2.2.2=some z3∧T141 F z z3.1 z3.2.1 z3.2.2=some z4∧T142 F z4.1 z4.2.1 z4.2.2 z1.2.2.2=some t∧T35 F k (x ++ y ++ z)=some t∧t.length=32:=by
 have g0:gslb 64 (0:Int) ((64:Nat):Int)=some (0,64):=gslb_nat (a:=0) (by omega) (by omega)
 obtain ⟨o,i,h,b,n,o1,i1,s1,s2,s3⟩:=start65 (F:=F) (by omega) hk
 have xl:=xk_len hk 54
 have xl2:=xk_len hk 92
 obtain ⟨h2,b2,n2,u1,u2⟩:=t82 (F:=F) (x:=x) (by omega) (by omega) s2
 obtain ⟨h3,b3,n3,u3,u4⟩:=t82 (F:=F) (x:=y) (by simp only [List.length_append];omega) (by simp only [List.length_append];omega) u2
 obtain ⟨h4,b4,n4,u5,u6⟩:=t82 (F:=F) (x:=z) (by simp only [List.length_append];omega) (by simp only [List.length_append];omega) u4
 obtain ⟨inner,v1,v2,v3⟩:=sum_eq (F:=F) (by simp only [List.length_append];omega) (by simp only [List.length_append];omega) u6
 obtain ⟨t,w1,w2,w3⟩:=t79 (F:=F) (ls:=[xk k 92,inner]) (by simp only [List.flatten_cons,List.flatten_nil,List.length_append,List.length_cons,List.length_nil];omega) (by simp only [List.flatten_cons,List.flatten_nil,List.length_append,List.length_nil];omega) (by simp)
 have hfl:[xk k 92,inner].flatten=xk k 92 ++ inner:=by simp
 rw [hfl] at w2
 have h1:¬ ((64:Int) < (k.length:Int)):=by omega
 have h65:T140 F k=some (h,b,n,o):=by
  simp only [T140,T140c,h1,decide_false,cond_false,Option.bind_some,g0,v0_0,v0_1,T175,T175c,o1,i1,s1]
 have e:(o.toList.drop 0).take (64 - 0)=xk k 92:=by rw [s3,List.drop_zero,List.take_of_length_le (by omega)]
 refine ⟨(h,b,n,o),(h2,b2,n2),(h3,b3,n3),(h4,b4,n4),t,h65,?_,?_,?_,?_,?_,w3⟩
 ·simp only [T141,T141c,x82_eq,u1,Option.bind_some]
 ·simp only [T141,T141c,x82_eq,u3,Option.bind_some]
 ·simp only [T141,T141c,x82_eq,u5,Option.bind_some]
 ·simp only [T142,T142c,g0,Option.bind_some,v1,e,w1]
 ·have gi:gstr inner=some inner:=gstr_ok (by omega)
  have q1:T102 F k (UInt8.ofNat 54)=some (xk k 54):=t69 (by omega) hk _
  have q2:T102 F k (UInt8.ofNat 92)=some (xk k 92):=t69 (by omega) hk _
  have v2':T101 F (xk k 54 ++ (x ++ y ++ z))=some inner:=by
   have e:xk k 54 ++ (x ++ y ++ z)=xk k 54 ++ x ++ y ++ z:=by simp
   rw [e];exact v2
  simp only [T35,T35c,h1,decide_false,cond_false,Option.bind_some,q1,q2,gapp_okS (show (xk k 54).length + (x ++ y ++ z).length≤1099511627776 by simp only [List.length_append];omega),v2',gi,gapp_okS (show (xk k 92).length + inner.length≤1099511627776 by omega),w2]
end Go.Proofs.YthikoaamigiceaaGreatDoor
namespace Go.Proofs.YthikoaamigiceaaGreatDoor
open Go.Tw
set_option linter.unusedSimpArgs false
set_option linter.unusedVariables false
def tg (F:Nat) (k d:Bs):Bs:=(T96 F k d).getD []
section
variable {F:Nat} {a b c d e:Bs}
end
end Go.Proofs.YthikoaamigiceaaGreatDoor
namespace Go.Proofs.YthikoaamigiceaaGreatDoor
open Go.Tw
set_option linter.unusedSimpArgs false
set_option linter.unusedVariables false
section
variable {F:Nat} {a b c d e:Bs}
end
end Go.Proofs.YthikoaamigiceaaGreatDoor
namespace Go.Proofs.YthikoaamigiceaaGreatDoor
open Go.Tw
set_option linter.unusedSimpArgs false
set_option linter.unusedVariables false
theorem gml_zero:∀ (n:Nat) (a:UInt8),gml n a 0=0
 | 0,_=>rfl
 | n + 1,a=>by
  have h:bit0 0 a=0:=rfl
  have h2:(0:UInt8) >>> 1=0:=rfl
  simp only [gml,h,h2,gml_zero n,xx]
theorem shr1_lt {n:Nat} {b:UInt8} (h:b.toNat < 2 ^ (n + 1)):(b >>> 1).toNat < 2 ^ n:=by
 have:(b >>> 1).toNat=b.toNat / 2:=by
  simp [UInt8.toNat_shiftRight,Nat.shiftRight_eq_div_pow]
 rw [this,Nat.pow_succ] at *
 omega
theorem sh8 (b:UInt8):shr8 b ((UInt64.ofNat 1).toNat)=b >>> 1:=allU (p:=fun b=>shr8 b ((UInt64.ofNat 1).toNat)=b >>> 1) (by decide +kernel) b
theorem dbl114 (F:Nat) (a:UInt8):T203 F a=some (gd a):=allU (p:=fun a=>T203 F a=some (gd a)) (by intro i;revert i;show ∀ i:_root_.Fin 256,T203 0 (UInt8.ofNat i.val)=some (gd (UInt8.ofNat i.val));decide +kernel) a
theorem t106_step (F:Nat) (a b c:UInt8):L186_2 F a b c=bif b != 0 then some (.inl (gd a,b >>> 1,c ^^^ bit0 b a)) else some (.inr c):=by
 simp only [L186_2,L186_2c,dbl114,Option.bind_some,sh8]
 have e0:(b != UInt8.ofNat 0)=(b != 0):=rfl
 have e1:((b &&& UInt8.ofNat 1) == UInt8.ofNat 1)=((b &&& 1) == 1):=rfl
 rw [e0,e1]
 unfold bit0
 cases b != 0<;>cases (b &&& 1) == 1<;>simp [xz]
theorem loop106 (F:Nat):∀ (n fuel:Nat) (a b c:UInt8),b.toNat < 2 ^ n->n < fuel->iter (fun s:UInt8×UInt8×UInt8=>L186_2 F s.1 s.2.1 s.2.2) fuel (a,b,c)=some (c ^^^ gml n a b)
 | 0,fuel + 1,a,b,c,hb,hf=>by
  have:b=0:=by apply UInt8.toNat_inj.1;simp at hb;simpa using hb
  subst this
  show (L186_2 F a 0 c).bind _=_
  rw [t106_step]
  simp [gml,xz]
 | n + 1,fuel + 1,a,b,c,hb,hf=>by
  show (L186_2 F a b c).bind _=_
  rw [t106_step]
  cases h0:b != 0 with
  | false=>
   have:b=0:=by simpa using h0
   subst this
   simp only [cond_false,Option.bind_some,gml_zero,xz]
  | true=>
   simp only [cond_true,Option.bind_some]
   rw [loop106 F n fuel (gd a) (b >>> 1) (c ^^^ bit0 b a) (shr1_lt hb) (by omega)]
   simp only [gml,UInt8.xor_assoc]
theorem mul106 {F:Nat} (hF:20 < F) (a b:UInt8):T186 F a b=some (gm a b):=by
 have h:=loop106 F 8 F a b 0 (by have:=b.toNat_lt;simpa using this) (by omega)
 have h:iter (fun s:UInt8×UInt8×UInt8=>L186_2 F s.1 s.2.1 s.2.2) F (a,b,UInt8.ofNat 0)=some ((0:UInt8) ^^^ gml 8 a b):=h
 simp only [T186,T186c,h,Option.bind_some,zx]
 rfl
theorem bit_mod (b:UInt8):((b % UInt8.ofNat 2) == UInt8.ofNat 1)=((b &&& 1) == 1):=allU (p:=fun b=>((b % UInt8.ofNat 2) == UInt8.ofNat 1)=((b &&& 1) == 1)) (by decide +kernel) b
theorem div2 (b:UInt8):b / UInt8.ofNat 2=b >>> 1:=allU (p:=fun b=>b / UInt8.ofNat 2=b >>> 1) (by decide +kernel) b
theorem gd81 (a:UInt8):(bif decide (UInt8.ofNat 128≤a) then (shl8 a ((UInt64.ofNat 1).toNat)) ^^^ UInt8.ofNat 29 else shl8 a ((UInt64.ofNat 1).toNat))=gd a:=
 allU (p:=fun a=>(bif decide (UInt8.ofNat 128≤a) then (shl8 a ((UInt64.ofNat 1).toNat)) ^^^ UInt8.ofNat 29 else shl8 a ((UInt64.ofNat 1).toNat))=gd a) (by decide +kernel) a
theorem t81_step (F:Nat) (a b c:UInt8):L192_2 F a b c=bif b != 0 then some (.inl (gd a,b >>> 1,c ^^^ bit0 b a)) else some (.inr c):=by
 have e0:(b != UInt8.ofNat 0)=(b != 0):=rfl
 simp only [L192_2,L192_2c,e0,bit_mod,div2,← gd81 a]
 unfold bit0
 cases b != 0<;>cases (b &&& 1) == 1<;>cases decide (UInt8.ofNat 128≤a)<;>simp [xz]
theorem mul81 {F:Nat} (hF:20 < F) (a b:UInt8):T192 F a b=some (gm a b):=by
 have e:(fun s:UInt8×UInt8×UInt8=>L192_2 F s.1 s.2.1 s.2.2)=(fun s:UInt8×UInt8×UInt8=>L186_2 F s.1 s.2.1 s.2.2):=by
  funext s;rw [t81_step,t106_step]
 have h:=loop106 F 8 F a b 0 (by have:=b.toNat_lt;simpa using this) (by omega)
 have h:iter (fun s:UInt8×UInt8×UInt8=>L186_2 F s.1 s.2.1 s.2.2) F (a,b,UInt8.ofNat 0)=some ((0:UInt8) ^^^ gml 8 a b):=h
 simp only [T192,T192c,e,h,Option.bind_some,zx]
 rfl
theorem inbN {n i:Nat} (h:i < n):inb n ((i:Nat):Int)=some i:=inb_nat h
theorem ofI8 {i:Nat} (h:i < 16):UInt8.ofInt ((i:Nat):Int)=UInt8.ofNat i∧UInt8.ofInt (w64 (((i:Nat):Int) * 2 ^ min ((UInt64.ofNat 4).toNat) 64))=UInt8.ofNat (16 * i):=by
 have:∀ i:_root_.Fin 16,UInt8.ofInt ((i.val:Nat):Int)=UInt8.ofNat i.val∧UInt8.ofInt (w64 (((i.val:Nat):Int) * 2 ^ min ((UInt64.ofNat 4).toNat) 64))=UInt8.ofNat (16 * i.val):=by decide +kernel
 exact this ⟨i,h⟩
theorem tab109 {F:Nat} (hF:50 < F) (c:UInt8):∃ u v:Vector UInt8 16,T206 F c=some (u,v)∧∀ (i:Nat) (h:i < 16),u[i]=gm c (UInt8.ofNat i)∧v[i]=gm c (UInt8.ofNat (16 * i)):=by
 obtain ⟨r,h1,h2⟩:=iter1 (f:=fun s:Int×Vector UInt8 16×Vector UInt8 16=>L206_2 F c s.1 s.2.1 s.2.2)
  (fun s=>∃ n:Nat,n≤16∧s.1=n∧∀ (i:Nat) (h:i < 16),i < n->s.2.1[i]=gm c (UInt8.ofNat i)∧s.2.2[i]=gm c (UInt8.ofNat (16 * i)))
  (fun r=>∀ (i:Nat) (h:i < 16),r.1[i]=gm c (UInt8.ofNat i)∧r.2[i]=gm c (UInt8.ofNat (16 * i)))
  (fun s=>(16 - s.1).toNat) (fun s ⟨n,hn,hs,hr⟩=>by
   obtain ⟨s1,s2,s3⟩:=s
   simp only at hs hr
   subst hs
   rcases Nat.lt_or_ge n 16 with hlt | hge
   ·left
    have h:((n:Nat):Int) < 16:=by omega
    have hw:w64 (((n:Nat):Int) + 1)=((n + 1:Nat):Int):=by rw [w64_in (by omega) (by omega)];omega
    obtain ⟨o1,o2⟩:=ofI8 hlt
    refine ⟨_,by simp only [L206_2,L206_2c,h,decide_true,cond_true,o1,o2,mul106 (show 20 < F by omega),Option.bind_some,inbN hlt,hw];rfl,⟨n + 1,by omega,rfl,fun i hi hin=>?_⟩,by simp only;omega⟩
    simp only [Vector.getElem_setIfInBounds]
    by_cases hin2:n=i
    ·subst hin2;simp
    ·simp only [hin2,if_false];exact hr i hi (by omega)
   ·right
    have:n=16:=by omega
    subst this
    have h:¬ (((16:Nat):Int) < 16):=by omega
    exact ⟨_,by simp only [L206_2,L206_2c,h,decide_false,cond_false];rfl,fun i hi=>hr i hi hi⟩)
  F ((0:Int),(Vector.replicate 16 (0:UInt8)),(Vector.replicate 16 (0:UInt8))) ⟨0,by omega,rfl,fun i hi h=>by omega⟩ (by simp;omega)
 exact ⟨r.1,r.2,by simp only [T206,T206c,h1,Option.bind_some],h2⟩
theorem split4 (b:UInt8):b=UInt8.ofNat (b &&& 15).toNat ^^^ UInt8.ofNat (16 * (shr8 b ((UInt64.ofNat 4).toNat)).toNat)∧(b &&& UInt8.ofNat 15).toNat < 16∧(shr8 b ((UInt64.ofNat 4).toNat)).toNat < 16:=
 allU (p:=fun b=>b=UInt8.ofNat (b &&& 15).toNat ^^^ UInt8.ofNat (16 * (shr8 b ((UInt64.ofNat 4).toNat)).toNat)∧(b &&& UInt8.ofNat 15).toNat < 16∧(shr8 b ((UInt64.ofNat 4).toNat)).toNat < 16) (by decide +kernel) b
theorem by116 (F:Nat) {c b:UInt8} {u v:Vector UInt8 16} (h:∀ (i:Nat) (h:i < 16),u[i]=gm c (UInt8.ofNat i)∧v[i]=gm c (UInt8.ofNat (16 * i))):T207 F b u v=some (gm c b):=by
 obtain ⟨h1,h2,h3⟩:=split4 b
 simp only [T207,T207c,vix_nat h2,vix_nat h3,Option.bind_some,(h _ h2).1,(h _ h3).2,← gm_right]
 congr 2
 exact h1.symm
theorem ixU {l:List UInt8} {i:Nat} (h:i < l.length):ix l ((i:Nat):Int)=some l[i]:=ix_nat h
theorem fill_loop {α:Type} {N:Nat} {f:Int×List α->Option ((Int×List α) ⊕ List α)} {g:Nat->α->α} (hN:N < 1000000)
  (hs:∀ (n:Nat) (l:List α) (h:n < l.length),l.length=N->f (((n:Nat):Int),l)=some (.inl (((n + 1:Nat):Int),l.set n (g n l[n])))) (he:∀ l:List α,l.length=N->f (((N:Nat):Int),l)=some (.inr l)) :
  ∀ (m n fuel:Nat) (l:List α),n + m=N->l.length=N->m < fuel->∃ r,iter f fuel (((n:Nat):Int),l)=some r∧r.length=N∧(∀ i (h1:i < r.length) (h2:i < l.length),i < n->r[i]=l[i])∧∀ i (h1:i < r.length) (h2:i < l.length),n≤i->r[i]=g i l[i]
 | 0,n,fuel + 1,l,hn,hl,hf=>by
  have:n=N:=by omega
  subst this
  exact ⟨l,by simp only [iter,he l hl,Option.bind_some],hl,fun _ _ _ _=>rfl,fun i h1 h2 h3=>by omega⟩
 | m + 1,n,fuel + 1,l,hn,hl,hf=>by
  obtain ⟨r,r1,r2,r3,r4⟩:=fill_loop hN hs he m (n + 1) fuel (l.set n (g n (l[n]'(by omega)))) (by omega) (by simp [hl]) (by omega)
  refine ⟨r,?_,r2,fun i h1 h2 h3=>?_,fun i h1 h2 h3=>?_⟩
  ·simp only [iter,hs n l (by omega) hl,Option.bind_some];exact r1
  ·rw [r3 i h1 (by simp;omega) (by omega)]
   rw [List.getElem_set_ne (by omega)]
  ·by_cases hi:i=n
   ·subst hi
    rw [r3 i h1 (by simp;omega) (by omega),List.getElem_set_self]
   ·rw [r4 i h1 (by simp;omega) (by omega),List.getElem_set_ne (by omega)]
theorem scale95 {F:Nat} {l:List UInt8} (hF:100 + l.length < F) (hl:l.length < 1000000) (c:UInt8):T199 F l c=some (l.map (gm c)):=by
 obtain ⟨u,v,h1,h2⟩:=tab109 (F:=F) (by omega) c
 have hm:gmake (0:UInt8) (l.length:Int) (l.length:Int)=some (List.replicate l.length 0):=by
  unfold gmake;rw [if_pos (by omega)];simp
 obtain ⟨r,r1,r2,_,r4⟩:=fill_loop (N:=l.length) (f:=fun s:Int×List UInt8=>L199_2 F l (l.length:Int) u v s.1 s.2) (g:=fun i _=>gm c (l.getD i 0)) hl
  (fun n x hx hxl=>by
   have h:((n:Nat):Int) < (l.length:Int):=by omega
   have hg:l.getD n 0=l[n]'(by omega):=by simp [show n < l.length by omega]
   simp only [L199_2,L199_2c,h,decide_true,cond_true,ixU (show n < l.length by omega),Option.bind_some,by116 F h2,inb_nat hx,w64s (show n < 1000000000 by omega),hg])
  (fun x hx=>by
   have h:¬ ((l.length:Int) < (l.length:Int)):=by omega
   simp only [L199_2,L199_2c,h,decide_false,cond_false])
  l.length 0 F (List.replicate l.length 0) (by omega) (by simp) (by omega)
 have r1:iter (fun s:Int×List UInt8=>L199_2 F l (l.length:Int) u v s.1 s.2) F ((0:Int),List.replicate l.length 0)=some r:=r1
 simp only [T199,T199c,h1,hm,r1,Option.bind_some]
 congr 1
 apply List.ext_getElem
 ·simp [r2]
 ·intro i h3 h4
  rw [r4 i h3 (by simp;omega) (by omega)]
  simp [show i < l.length by omega]
theorem muladd79 {F:Nat} {l v:List UInt8} (hF:100 + l.length < F) (hl:l.length < 1000000) (hv:v.length=l.length) (c:UInt8):T171 F l v c=some (0,List.zipWith (fun a b=>a ^^^ gm c b) l v):=by
 have hne:((l.length:Int) != (v.length:Int))=false:=by simp [hv]
 have hsc:=scale95 (F:=F) (l:=v) (by omega) (by omega) c
 obtain ⟨r,r1,r2,_,r4⟩:=fill_loop (N:=l.length) (f:=fun s:Int×List UInt8=>L171_2 F l (l.length:Int) s.1 s.2) (g:=fun i x=>x ^^^ l.getD i 0) hl
  (fun n x hx hxl=>by
   have h:((n:Nat):Int) < (l.length:Int):=by omega
   have hg:l.getD n 0=l[n]'(by omega):=by simp [show n < l.length by omega]
   simp only [L171_2,L171_2c,h,decide_true,cond_true,ixU (show n < l.length by omega),Option.bind_some,inb_nat hx,List.getElem?_eq_getElem hx,w64s (show n < 1000000000 by omega),hg])
  (fun x hx=>by
   have h:¬ ((l.length:Int) < (l.length:Int)):=by omega
   simp only [L171_2,L171_2c,h,decide_false,cond_false])
  l.length 0 F (v.map (gm c)) (by omega) (by simp [hv]) (by omega)
 have r1:iter (fun s:Int×List UInt8=>L171_2 F l (l.length:Int) s.1 s.2) F ((0:Int),v.map (gm c))=some r:=r1
 simp only [T171,T171c,hne,cond_false,hsc,r1,Option.bind_some]
 congr 2
 apply List.ext_getElem
 ·simp [r2,hv]
 ·intro i h3 h4
  rw [r4 i h3 (by simp;omega) (by omega)]
  simp [show i < l.length by omega]
  exact UInt8.xor_comm _ _
theorem gapp1 {α:Type} {xs:List α} {y:α} (h:xs.length≤1000000000):gapp xs [y]=some (xs ++ [y]):=by unfold gapp;rw [if_pos (by simp;omega)]
theorem xs59 {F:Nat} {xs:List Int} (hF:xs.length < F) (hn:xs.length≤64) (hr:∀ x ∈ xs,1≤x∧x≤255) (hd:xs.Nodup):T137 F xs=some true:=by
 have hlen:¬ ((64:Int) < (xs.length:Int)):=by omega
 have key:∀ (m i fuel:Nat) (v:Vector Bool 256),i + m=xs.length->m < fuel->(∀ (j:Nat) (h:j < 256),v[j]=true->((j:Nat):Int) ∈ xs.take i)->iter (fun s:Int×Vector Bool 256=>L137_2 F xs (xs.length:Int) s.1 s.2) fuel (((i:Nat):Int),v)=some (.inl ()):=by
  intro m
  induction m with
  | zero=>
   intro i fuel v hi hf _
   obtain ⟨fuel,rfl⟩:∃ k,fuel=k + 1:=⟨fuel - 1,by omega⟩
   have h:¬ ((i:Nat):Int) < (xs.length:Int):=by omega
   simp only [iter,L137_2,L137_2c,h,decide_false,cond_false,Option.bind_some]
  | succ m ih=>
   intro i fuel v hi hf hv
   obtain ⟨fuel,rfl⟩:∃ k,fuel=k + 1:=⟨fuel - 1,by omega⟩
   have h:((i:Nat):Int) < (xs.length:Int):=by omega
   have hil:i < xs.length:=by omega
   obtain ⟨r1,r2⟩:=hr _ (List.getElem_mem hil)
   obtain ⟨x,hx⟩:∃ x:Nat,xs[i]=(x:Int):=⟨(xs[i]).toNat,by omega⟩
   have hx256:x < 256:=by omega
   have hval:T168 F ((x:Nat):Int)=some true:=by
    have a1:(1:Int)≤(x:Int):=by omega
    have a2:(x:Int)≤255:=by omega
    simp only [T168,T168c,a1,a2,decide_true,cond_true,decide_true]
   have hvx:v[x]=false:=by
    cases hc:v[x] with
    | false=>rfl
    | true=>
     have:=hv x hx256 hc
     rw [← hx] at this
     obtain ⟨k,hk,hk2⟩:=List.mem_iff_getElem.1 this
     simp only [List.length_take] at hk
     rw [List.getElem_take] at hk2
     have:=(List.getElem_inj hd).1 hk2
     omega
   have hs:L137_2 F xs (xs.length:Int) ((i:Nat):Int) v=some (.inl (((i + 1:Nat):Int),v.setIfInBounds x true)):=by
    simp only [L137_2,L137_2c,h,decide_true,cond_true,ixG hil,hx,hval,Option.bind_some,Bool.not_true,cond_false,inb_nat hx256,vat_nat hx256,hvx,w64s (show i < 1000000000 by omega)]
   show (L137_2 F xs (xs.length:Int) ((i:Nat):Int) v).bind _=_
   rw [hs]
   refine ih (i + 1) fuel _ (by omega) (by omega) (fun j hj hjv=>?_)
   rw [List.take_add_one,List.getElem?_eq_getElem hil]
   simp only [Option.toList_some,List.mem_append,List.mem_singleton]
   rw [Vector.getElem_setIfInBounds] at hjv
   by_cases hxj:x=j
   ·right;rw [hx,hxj]
   ·left;simp only [hxj,if_false] at hjv;exact hv j hj hjv
 have h:=key xs.length 0 F (Vector.replicate 256 false) (by omega) hF (fun j hj hjv=>by simp at hjv)
 have h:iter (fun s:Int×Vector Bool 256=>L137_2 F xs (xs.length:Int) s.1 s.2) F ((0:Int),Vector.replicate 256 false)=some (.inl ()):=h
 simp only [T137,T137c,hlen,decide_false,cond_false,h,Option.bind_some,elimS]
theorem gsl0 {α:Type} {l:List α} {i:Nat} (h:i≤l.length):gsl l (0:Int) ((i:Nat):Int)=some (l.take i):=by
 unfold gsl;rw [if_pos (by omega)];simp
theorem in29 {F:Nat} {l:List Int} (hF:l.length < F) (hn:l.length < 1000) (d:Int):iter (fun s=>L41_4 F d l (l.length:Int) s) F (0:Int)=some (bif l.contains d then .inr false else .inl ()):=by
 have key:∀ (m i fuel:Nat),i + m=l.length->m < fuel->iter (fun s=>L41_4 F d l (l.length:Int) s) fuel ((i:Nat):Int)=some (bif (l.drop i).contains d then .inr false else .inl ()):=by
  intro m
  induction m with
  | zero=>
   intro i fuel hi hf
   obtain ⟨fuel,rfl⟩:∃ k,fuel=k + 1:=⟨fuel - 1,by omega⟩
   have h:¬ ((i:Nat):Int) < (l.length:Int):=by omega
   have hd:l.drop i=[]:=List.drop_eq_nil_of_le (by omega)
   simp only [iter,L41_4,L41_4c,h,decide_false,cond_false,Option.bind_some,hd,List.contains_nil]
  | succ m ih=>
   intro i fuel hi hf
   obtain ⟨fuel,rfl⟩:∃ k,fuel=k + 1:=⟨fuel - 1,by omega⟩
   have h:((i:Nat):Int) < (l.length:Int):=by omega
   have hil:i < l.length:=by omega
   have hd:l.drop i=l[i] :: l.drop (i + 1):=List.drop_eq_getElem_cons hil
   show (L41_4 F d l (l.length:Int) ((i:Nat):Int)).bind _=_
   rw [hd,List.contains_cons]
   cases he:d == l[i] with
   | true=>simp only [L41_4,L41_4c,h,decide_true,cond_true,ixG hil,Option.bind_some,he,Bool.true_or]
   | false=>
    have hs:L41_4 F d l (l.length:Int) ((i:Nat):Int)=some (.inl ((i + 1:Nat):Int)):=by
     simp only [L41_4,L41_4c,h,decide_true,cond_true,ixG hil,Option.bind_some,he,cond_false,w64s (show i < 1000000000 by omega)]
    rw [hs,Bool.false_or]
    exact ih (i + 1) fuel (by omega) (by omega)
 have:=key l.length 0 F (by omega) hF
 rw [List.drop_zero] at this
 exact this
def sq7:Nat->UInt8->UInt8->UInt8
 | 0,_,c=>c
 | n + 1,a,c=>sq7 n (gm a a) (gm c (gm a a))
def gi (b:UInt8):UInt8:=sq7 7 b 1
theorem gi_ok:∀ b:UInt8,b ≠ 0->gm b (gi b)=1:=fun b h=>(allU (p:=fun b=>b=0∨gm b (gi b)=1) (by decide +kernel) b).resolve_left h
theorem gm_ne {a b:UInt8} (ha:a ≠ 0) (hb:b ≠ 0):gm a b ≠ 0:=fun h=>hb (by
 have:gm (gi a) (gm a b)=b:=by rw [← gm_assoc,gm_comm (gi a) a,gi_ok a ha,one_gm]
 rw [← this,h,gm_zero])
def abv (i:Nat):Nat->List UInt8->UInt8->UInt8
 | _,[],a=>a
 | j,x :: r,a=>abv i (j + 1) r (bif Nat.beq j i then a else gm a x)
def blw (i:Nat) (y:UInt8):Nat->List UInt8->UInt8->UInt8
 | _,[],a=>a
 | j,x :: r,a=>blw i y (j + 1) r (bif Nat.beq j i then a else gm a (y ^^^ x))
theorem blw_ne {i:Nat} {y:UInt8}:∀ {r:List UInt8} {j:Nat} {a:UInt8},(∀ k (h:k < r.length),j + k ≠ i->r[k] ≠ y)->a ≠ 0->blw i y j r a ≠ 0
 | [],j,a,_,ha=>ha
 | x :: r,j,a,h,ha=>by
  have hr:∀ k (hk:k < r.length),j + 1 + k ≠ i->r[k] ≠ y:=fun k hk hne=>h (k + 1) (by simpa using hk) (by omega)
  simp only [blw]
  cases hb:Nat.beq j i with
  | true=>exact blw_ne hr ha
  | false=>
   have hji:j ≠ i:=fun e=>by subst e;simp at hb
   have hx:x ≠ y:=h 0 (by simp) (by omega)
   refine blw_ne hr (gm_ne ha (fun e=>hx ?_))
   have:y ^^^ x ^^^ x=0 ^^^ x:=by rw [e]
   rw [UInt8.xor_assoc,xx,xz,zx] at this
   exact this.symm
def wpr (i:Nat) (y:UInt8):Nat->List UInt8->UInt8->UInt8
 | _,[],c=>c
 | j,x :: r,c=>wpr i y (j + 1) r (bif Nat.beq j i then c else gm c (gm x (gi (y ^^^ x))))
theorem gi_gm {a b:UInt8} (ha:a ≠ 0) (hb:b ≠ 0):gi (gm a b)=gm (gi a) (gi b):=by
 have h1:=gi_ok _ (gm_ne ha hb)
 have h2:gm (gm a b) (gm (gi a) (gi b))=1:=by
  rw [gm_assoc,← gm_assoc b,gm_comm b (gi a),gm_assoc (gi a),gi_ok b hb,gm_one,gi_ok a ha]
 have e:gm (gi (gm a b)) (gm (gm a b) (gm (gi a) (gi b)))=gm (gi (gm a b)) 1:=by rw [h2]
 rw [← gm_assoc,gm_comm (gi (gm a b)),h1,one_gm,gm_one] at e
 exact e.symm
theorem quo_w {i:Nat} {y:UInt8}:∀ {r:List UInt8} {j:Nat} {a b:UInt8},(∀ k (h:k < r.length),j + k ≠ i->r[k] ≠ y)->b ≠ 0->gm (abv i j r a) (gi (blw i y j r b))=wpr i y j r (gm a (gi b))
 | [],j,a,b,_,_=>rfl
 | x :: r,j,a,b,h,hb0=>by
  have hr:∀ k (hk:k < r.length),j + 1 + k ≠ i->r[k] ≠ y:=fun k hk hne=>h (k + 1) (by simpa using hk) (by omega)
  simp only [abv,blw,wpr]
  cases hb:Nat.beq j i with
  | true=>exact quo_w hr hb0
  | false=>
   have hji:j ≠ i:=fun e=>by subst e;simp at hb
   have hx:x ≠ y:=h 0 (by simp) (by omega)
   have hyx:y ^^^ x ≠ 0:=fun e=>hx (by
    have:y ^^^ x ^^^ x=0 ^^^ x:=by rw [e]
    rw [UInt8.xor_assoc,xx,xz,zx] at this
    exact this.symm)
   simp only [cond_false]
   rw [quo_w hr (gm_ne hb0 hyx),gi_gm hb0 hyx]
   congr 1
   rw [gm_assoc,gm_assoc,← gm_assoc x,gm_comm x (gi b),gm_assoc (gi b)]
def fct (xs:List UInt8) (i:Nat):UInt8:=wpr i (xs.getD i 0) 0 xs 1
def sm (xs:List UInt8):Nat->List UInt8->UInt8
 | _,[]=>0
 | i,v :: r=>gm (fct xs i) v ^^^ sm xs (i + 1) r
theorem expand_q {F:Nat} {k l:List UInt8} (hF:4000 < F) (hk:k.length=32) (hl:l.length≤64):∃ t,T93 F k l (32:Int)=some (t,0)∧T194 F k l (32:Int)=some t∧t.length=32:=by
 obtain ⟨z1,z2,z3,z4,t,h1,h2,h3,h4,h5,h6,h7⟩:=mac3 (F:=F) (k:=k) (x:=[]) (y:=l) (z:=[(1:UInt8)]) (by simp;omega) (by omega) (by simp;omega)
 obtain ⟨m,rfl⟩:∃ m,F=m + 2:=⟨F - 2,by omega⟩
 have w2:w64 (1 + 1)=2:=w64_in (by omega) (by omega)
 have o1:UInt8.ofInt 1=1:=rfl
 have ht:¬ ((t.length:Int) < 32):=by omega
 have g1:gapp ([]:List UInt8) t=some t:=by rw [gapp_okS (by simp;omega)];rfl
 have g2:gcat ([]:List UInt8) t=some t:=by rw [gcat_ok (by simp;omega)];rfl
 have g3:gcat ([]:List UInt8) l=some l:=by rw [gcat_ok (by simp;omega)];rfl
 refine ⟨t,?_,?_,h7⟩
 ·have c1:¬ ((k.length:Int) < 32):=by omega
  have c2:¬ ((32:Int) < 0):=by decide
  have c3:¬ ((8160:Int) < 32):=by decide
  have c4:((([]:List UInt8).length:Int) < 32):=by decide
  have hs:gslb t.length (0:Int) 32=some (0,32):=gslb_nat (a:=0) (b:=32) (by omega) (by omega)
  have htt:(t.drop 0).take (32 - 0)=t:=by rw [List.drop_zero,List.take_of_length_le (by omega)]
  simp only [T93,T93c,c1,c2,c3,decide_false,cond_false,iter,L93_2,L93_2c,c4,decide_true,cond_true,h1,gstr_ok (show ([]:List UInt8).length≤1099511627776 by simp),gstr_ok (show l.length≤1099511627776 by omega),Option.bind_some,h2,h3,o1,h4,h5,g1,ht,hs,htt]
 ·have c4:((([]:List UInt8).length:Int) < 32):=by decide
  have hs:gsl t (0:Int) 32=some t:=by
   have:=gsl_nat (l:=t) (a:=0) (b:=32) (by omega) (by omega)
   rw [List.drop_zero,List.take_of_length_le (by omega)] at this
   exact this
  have h6':T35 (m + 2) k (l ++ [(1:UInt8)])=some t:=by simpa using h6
  simp only [T194,T194c,iter,L194_2,L194_2c,c4,decide_true,cond_true,g3,gstr_ok (show l.length≤1099511627776 by omega),Option.bind_some,o1,gapp_okS (show l.length + [(1:UInt8)].length≤1099511627776 by simp;omega),h6',g2,ht,decide_false,cond_false,hs]
theorem derive_q {F:Nat} {p l:List UInt8} (hF:4000 < F) (hp:p.length=32) (hl:l.length≤64) (h0:l ≠ []):∃ t,T28 F p l=some (t,0)∧T154 F p l=some t:=by
 obtain ⟨k,k1,k2,k3⟩:=tag_eq (F:=F) (k:=[]) (d:=p) (by simp;omega) (by simp) (by omega)
 obtain ⟨t,t1,t2,t3⟩:=expand_q (F:=F) (k:=k) (l:=l) hF k3 hl
 have c1:((p.length:Int) != 32)=false:=by simp [hp]
 have c2:(l == [])=false:=by simpa using h0
 have c3:¬ ((64:Int) < (l.length:Int)):=by omega
 have gp:gstr p=some p:=gstr_ok (by omega)
 refine ⟨t,?_,?_⟩
 ·simp only [T28,T28c,T94,T94c,c1,c2,c3,decide_false,cond_false,gp,Option.bind_some,k1,t1]
 ·simp only [T154,T154c,gp,Option.bind_some,k2,t2]
theorem derive33 {F:Nat} {p l:List UInt8} (hF:4000 < F) (hp:p.length=32) (hl:l.length≤64) (h0:l ≠ []):∃ t,T151 F p l=some (t,0)∧T154 F p l=some t:=by
 obtain ⟨t,t1,t2⟩:=derive_q hF hp hl h0
 exact ⟨t,by simp only [T151,T151c,t1,Option.bind_some];rfl,t2⟩
abbrev S3:=Int×List UInt8×Unit
def xi (s:S3):UInt8:=UInt8.ofInt s.1
structure ValS (ss:List S3):Prop where
 r:∀ s ∈ ss,1≤s.1∧s.1≤12∧s.2.1.length=32
 n:(ss.map (·.1)).Nodup
theorem ValS.sub {l ss:List S3} (h:ValS ss) (hl:l.Sublist ss):ValS l:=⟨fun s hs=>h.r s (hl.subset hs),(hl.map _).nodup h.n⟩
theorem ix13:∀ a b:_root_.Fin 13,UInt8.ofInt (ixor (a.val:Int) (b.val:Int))=UInt8.ofInt (a.val:Int) ^^^ UInt8.ofInt (b.val:Int):=by decide +kernel
theorem ixo {a b:Int} (ha:0≤a∧a≤12) (hb:0≤b∧b≤12):UInt8.ofInt (ixor a b)=UInt8.ofInt a ^^^ UInt8.ofInt b:=by
 have:=ix13 ⟨a.toNat,by omega⟩ ⟨b.toNat,by omega⟩
 rwa [show ((a.toNat:Nat):Int)=a from by omega,show ((b.toNat:Nat):Int)=b from by omega] at this
theorem of13:∀ a:_root_.Fin 13,(UInt8.ofInt (a.val:Int)).toNat=a.val:=by decide +kernel
theorem of12 {a:Int} (h:0≤a∧a≤12):(UInt8.ofInt a).toNat=a.toNat:=by
 have:=of13 ⟨a.toNat,by omega⟩
 rwa [show ((a.toNat:Nat):Int)=a from by omega] at this
theorem xi_inj {a b:Int} (ha:0≤a∧a≤12) (hb:0≤b∧b≤12) (h:UInt8.ofInt a=UInt8.ofInt b):a=b:=by
 have h1:=of12 ha
 have h2:=of12 hb
 rw [h] at h1;omega
theorem ValS.nd {ss:List S3} (h:ValS ss):(ss.map xi).Nodup:=by
 have:=h.n
 unfold List.Nodup at this ⊢
 rw [List.pairwise_map] at this ⊢
 refine this.imp_of_mem ?_
 intro a b ha hb hne e
 have h1:=h.r a ha
 have h2:=h.r b hb
 exact hne (xi_inj (by omega) (by omega) e)
theorem loop115 {F:Nat} (hF:20 < F):∀ (m j fuel:Nat) (a c:UInt8),j + m=7->m < fuel->iter (fun s:UInt8×UInt8×Int=>L204_2 F s.1 s.2.1 s.2.2) fuel (a,c,((j:Nat):Int))=some (sq7 m a c)
 | 0,j,fuel + 1,a,c,hj,hf=>by
  have h:¬ ((j:Nat):Int) < 7:=by omega
  simp only [iter,L204_2,L204_2c,h,decide_false,cond_false,Option.bind_some,sq7]
 | m + 1,j,fuel + 1,a,c,hj,hf=>by
  have h:((j:Nat):Int) < 7:=by omega
  have hs:L204_2 F a c ((j:Nat):Int)=some (.inl (gm a a,gm c (gm a a),((j + 1:Nat):Int))):=by
   simp only [L204_2,L204_2c,h,decide_true,cond_true,mul106 hF,Option.bind_some,w64s (show j < 1000000000 by omega)]
  show (L204_2 F a c ((j:Nat):Int)).bind _=_
  rw [hs]
  exact loop115 hF m (j + 1) fuel _ _ (by omega) (by omega)
theorem inv115 {F:Nat} (hF:20 < F) {b:UInt8} (hb:b ≠ 0):T204 F b=some (gi b,0):=by
 have h:=loop115 hF 7 0 F b 1 (by omega) (by omega)
 have h:iter (fun s:UInt8×UInt8×Int=>L204_2 F s.1 s.2.1 s.2.2) F (b,UInt8.ofNat 1,(0:Int))=some (gi b):=h
 have h0:(b == UInt8.ofNat 0)=false:=by simpa using hb
 simp only [T204,T204c,h0,cond_false,h,Option.bind_some]
theorem div107 {F:Nat} (hF:20 < F) (a:UInt8) {b:UInt8} (hb:b ≠ 0):T187 F a b=some (gm a (gi b),0):=by
 simp only [T187,T187c,inv115 hF hb,Option.bind_some,bne_self_eq_false,cond_false,mul106 hF]
theorem loop90 {F:Nat} (hF:20 < F) {ss:List S3} (hv:ValS ss) (hl:ss.length < 1000) {i:Nat} {y:Int} (hy:0≤y∧y≤12):∀ (m j fuel:Nat) (a b:UInt8),j + m=ss.length->m < fuel ->
  iter (fun s:UInt8×UInt8×Int=>L150_4 F 0 ((i:Nat):Int) ss (ss.length:Int) y s.1 s.2.1 s.2.2) fuel (a,b,((j:Nat):Int))=some (abv i j ((ss.drop j).map xi) a,blw i (UInt8.ofInt y) j ((ss.drop j).map xi) b)
 | 0,j,fuel + 1,a,b,hj,hf=>by
  have h:¬ ((j:Nat):Int) < (ss.length:Int):=by omega
  have hd:ss.drop j=[]:=List.drop_eq_nil_of_le (by omega)
  simp only [iter,L150_4,L150_4c,h,decide_false,cond_false,Option.bind_some,hd,List.map_nil,abv,blw]
 | m + 1,j,fuel + 1,a,b,hj,hf=>by
  have h:((j:Nat):Int) < (ss.length:Int):=by omega
  have hjl:j < ss.length:=by omega
  have hr:=hv.r _ (List.getElem_mem hjl)
  have e1:UInt8.ofInt (ixor 0 ss[j].1)=xi ss[j]:=by rw [ixo (by omega) (by omega)];exact zx _
  have e2:UInt8.ofInt (ixor y ss[j].1)=UInt8.ofInt y ^^^ xi ss[j]:=ixo hy (by omega)
  have hs:L150_4 F 0 ((i:Nat):Int) ss (ss.length:Int) y a b ((j:Nat):Int)=some (.inl (bif Nat.beq j i then a else gm a (xi ss[j]),bif Nat.beq j i then b else gm b (UInt8.ofInt y ^^^ xi ss[j]),((j + 1:Nat):Int))):=by
   by_cases hji:j=i
   ·subst hji
    have hb:Nat.beq j j=true:=by simp
    simp only [L150_4,L150_4c,h,decide_true,cond_true,ixG hjl,Option.bind_some,bne_self_eq_false,cond_false,hb,w64s (show j < 1000000000 by omega)]
   ·have hb:Nat.beq j i=false:=by
     cases e:Nat.beq j i with
     | false=>rfl
     | true=>exact absurd (Nat.eq_of_beq_eq_true e) hji
    have hne:(((j:Nat):Int) != ((i:Nat):Int))=true:=by simp;omega
    simp only [L150_4,L150_4c,h,decide_true,cond_true,ixG hjl,Option.bind_some,hne,e1,e2,mul106 hF,cond_false,hb,w64s (show j < 1000000000 by omega)]
  show (L150_4 F 0 ((i:Nat):Int) ss (ss.length:Int) y a b ((j:Nat):Int)).bind _=_
  rw [hs]
  simp only [Option.bind_some]
  rw [loop90 hF hv hl hy m (j + 1) fuel _ _ (by omega) (by omega),List.drop_eq_getElem_cons hjl,List.map_cons]
  simp only [abv,blw]
def lagv (xs:List UInt8):Nat->List S3->List UInt8->List UInt8
 | _,[],acc=>acc
 | i,s :: r,acc=>lagv xs (i + 1) r (List.zipWith (fun a b=>a ^^^ gm (fct xs i) b) acc s.2.1)
def lag (ss:List S3):List UInt8:=lagv (ss.map xi) 0 ss (List.replicate 32 0)
theorem factor {ss:List S3} (hv:ValS ss) {i:Nat} (hi:i < ss.length):blw i (xi ss[i]) 0 (ss.map xi) 1 ≠ 0∧gm (abv i 0 (ss.map xi) 1) (gi (blw i (xi ss[i]) 0 (ss.map xi) 1))=fct (ss.map xi) i:=by
 have hne:∀ k (h:k < (ss.map xi).length),0 + k ≠ i->(ss.map xi)[k] ≠ xi ss[i]:=fun k hk hki e=>by
  have hk':k < ss.length:=by simpa using hk
  have hg:(ss.map xi)[k]=(ss.map xi)[i]'(by simpa using hi):=by rw [e];simp
  have:=(List.getElem_inj hv.nd).1 hg
  omega
 refine ⟨blw_ne hne (by decide),?_⟩
 rw [quo_w hne (by decide)]
 have h1:gm 1 (gi 1)=1:=gi_ok 1 (by decide)
 rw [h1,fct]
 congr 1
 simp [List.getD_eq_getElem?_getD,hi]
theorem loop90b {F:Nat} (hF:2000 < F) {ss:List S3} (hv:ValS ss) (hl:ss.length < 1000):∀ (m i fuel:Nat) (acc:List UInt8),i + m=ss.length->m < fuel->acc.length=32 ->
  iter (fun s:Int×List UInt8=>L150_3 F ss 0 ss (ss.length:Int) s.1 s.2) fuel (((i:Nat):Int),acc)=some (lagv (ss.map xi) i (ss.drop i) acc)
 | 0,i,fuel + 1,acc,hi,hf,ha=>by
  have h:¬ ((i:Nat):Int) < (ss.length:Int):=by omega
  have hd:ss.drop i=[]:=List.drop_eq_nil_of_le (by omega)
  simp only [iter,L150_3,L150_3c,h,decide_false,cond_false,Option.bind_some,hd,lagv]
 | m + 1,i,fuel + 1,acc,hi,hf,ha=>by
  have h:((i:Nat):Int) < (ss.length:Int):=by omega
  have hil:i < ss.length:=by omega
  have hr:=hv.r _ (List.getElem_mem hil)
  obtain ⟨f1,f2⟩:=factor hv hil
  have h4:=loop90 (F:=F) (by omega) hv hl (i:=i) (y:=ss[i].1) (by omega) ss.length 0 F 1 1 (by omega) (by omega)
  have h4:iter (fun s:UInt8×UInt8×Int=>L150_4 F 0 ((i:Nat):Int) ss (ss.length:Int) ss[i].1 s.1 s.2.1 s.2.2) F (UInt8.ofNat 1,UInt8.ofNat 1,(0:Int))=some (abv i 0 (ss.map xi) 1,blw i (xi ss[i]) 0 (ss.map xi) 1):=h4
  have hs:L150_3 F ss 0 ss (ss.length:Int) ((i:Nat):Int) acc=some (.inl (((i + 1:Nat):Int),List.zipWith (fun a b=>a ^^^ gm (fct (ss.map xi) i) b) acc ss[i].2.1)):=by
   simp only [L150_3,L150_3c,h,decide_true,cond_true,ixG hil,Option.bind_some,h4,div107 (show 20 < F by omega) _ f1,f2,muladd79 (F:=F) (l:=acc) (v:=ss[i].2.1) (by omega) (by omega) (by omega),w64s (show i < 1000000000 by omega)]
  show (L150_3 F ss 0 ss (ss.length:Int) ((i:Nat):Int) acc).bind _=_
  rw [hs]
  simp only [Option.bind_some]
  rw [loop90b hF hv hl m (i + 1) fuel _ (by omega) (by omega) (by simp;omega),List.drop_eq_getElem_cons hil]
  rfl
theorem t90L {F:Nat} (hF:2000 < F) {ss:List S3} (hv:ValS ss) (hl:ss.length < 1000) (h0:0 < ss.length):T150 F ss 0=some (lag ss):=by
 have hi:=ixG (l:=ss) (i:=0) h0
 have hr:=hv.r _ (List.getElem_mem h0)
 have hm:gmake (0:UInt8) (ss[0].2.1.length:Int) (ss[0].2.1.length:Int)=some (List.replicate 32 0):=by
  unfold gmake;rw [if_pos (by omega),hr.2.2];rfl
 have h:=loop90b hF hv hl ss.length 0 F (List.replicate 32 0) (by omega) (by omega) (by simp)
 have h:iter (fun s:Int×List UInt8=>L150_3 F ss 0 ss (ss.length:Int) s.1 s.2) F ((0:Int),List.replicate 32 0)=some (lag ss):=h
 have hi:ix ss (0:Int)=some ss[0]:=hi
 simp only [T150,T150c,hi,hm,h,Option.bind_some]
theorem lagv_len (xs:List UInt8):∀ (r:List S3) (i:Nat) (acc:List UInt8),acc.length=32->(∀ s ∈ r,s.2.1.length=32)->(lagv xs i r acc).length=32
 | [],_,acc,h,_=>h
 | s :: r,i,acc,h,hr=>lagv_len xs r (i + 1) _ (by simp [h,hr s (by simp)]) (fun z hz=>hr z (by simp [hz]))
theorem lag_len {ss:List S3} (hv:ValS ss):(lag ss).length=32:=lagv_len _ _ _ _ (by simp) (fun s hs=>(hv.r s hs).2.2)
theorem lagv_get (xs:List UInt8) {b:Nat} (hb:b < 32):∀ (r:List S3) (i:Nat) (acc:List UInt8),acc.length=32->(∀ s ∈ r,s.2.1.length=32)->(lagv xs i r acc)[b]? = some (acc.getD b 0 ^^^ sm xs i (r.map fun s=>s.2.1.getD b 0))
 | [],_,acc,h,_=>by
  simp only [lagv,List.map_nil,sm,xz,List.getD_eq_getElem?_getD]
  rw [List.getElem?_eq_getElem (by omega)];rfl
 | s :: r,i,acc,h,hr=>by
  have hs:=hr s (by simp)
  rw [lagv,lagv_get xs hb r (i + 1) _ (by simp [h,hs]) (fun z hz=>hr z (by simp [hz]))]
  simp only [List.map_cons,sm]
  rw [← UInt8.xor_assoc]
  congr 2
  simp only [List.getD_eq_getElem?_getD,List.getElem?_zipWith]
  rw [List.getElem?_eq_getElem (show b < acc.length by omega),List.getElem?_eq_getElem (show b < s.2.1.length by omega)]
  rfl
theorem xs103 {F:Nat} (hF:2000 < F) {ss:List S3} (hv:ValS ss) (hl:ss.length≤64):T183 F ss=some true:=by
 have key:∀ (m i fuel:Nat),i + m=ss.length->m < fuel->iter (fun s:Int×List Int=>L183_2 F ss ss (ss.length:Int) s.1 s.2) fuel (((i:Nat):Int),(ss.take i).map (·.1))=some (.inl (ss.map (·.1))):=by
  intro m
  induction m with
  | zero=>
   intro i fuel hi hf
   obtain ⟨fuel,rfl⟩:∃ k,fuel=k + 1:=⟨fuel - 1,by omega⟩
   have h:¬ ((i:Nat):Int) < (ss.length:Int):=by omega
   simp only [iter,L183_2,L183_2c,h,decide_false,cond_false,Option.bind_some,List.take_of_length_le (show ss.length≤i by omega)]
  | succ m ih=>
   intro i fuel hi hf
   obtain ⟨fuel,rfl⟩:∃ k,fuel=k + 1:=⟨fuel - 1,by omega⟩
   have h:((i:Nat):Int) < (ss.length:Int):=by omega
   have hil:i < ss.length:=by omega
   have h0:=ixG (l:=ss) (i:=0) (by omega)
   have h0:ix ss (0:Int)=some ss[0]:=h0
   have hr:=(hv.r _ (List.getElem_mem hil)).2.2
   have hr0:=(hv.r _ (List.getElem_mem (show 0 < ss.length by omega))).2.2
   have h1:((ss[i].2.1.length:Int) != (ss[0].2.1.length:Int))=false:=by rw [hr,hr0];rfl
   have h2:¬ (1024:Int) < (ss[i].2.1.length:Int):=by omega
   have et:(ss.take (i + 1)).map (·.1)=(ss.take i).map (·.1) ++ [ss[i].1]:=by
    rw [List.take_add_one,List.getElem?_eq_getElem hil]
    simp only [Option.toList_some,List.map_append,List.map_cons,List.map_nil]
   have hs:L183_2 F ss ss (ss.length:Int) ((i:Nat):Int) ((ss.take i).map (·.1))=some (.inl (((i + 1:Nat):Int),(ss.take (i + 1)).map (·.1))):=by
    simp only [L183_2,L183_2c,h,decide_true,cond_true,ixG hil,h0,Option.bind_some,h1,h2,cond_false,decide_false,gapp1 (xs:=(ss.take i).map (·.1)) (y:=ss[i].1) (by simp;omega),w64s (show i < 1000000000 by omega),et]
   show (L183_2 F ss ss (ss.length:Int) ((i:Nat):Int) ((ss.take i).map (·.1))).bind _=_
   rw [hs]
   exact ih (i + 1) fuel (by omega) (by omega)
 have h:=key ss.length 0 F (by omega) (by omega)
 have h:iter (fun s:Int×List Int=>L183_2 F ss ss (ss.length:Int) s.1 s.2) F ((0:Int),([]:List Int))=some (.inl (ss.map (·.1))):=h
 have h59:=xs59 (F:=F) (xs:=ss.map (·.1)) (by simp;omega) (by simpa using hl) (fun x hx=>by
  obtain ⟨s,hs,rfl⟩:=List.mem_map.1 hx
  have:=hv.r s hs
  omega) hv.n
 simp only [T183,T183c,h,Option.bind_some,elimS,h59]
theorem comb67 {F:Nat} (hF:2000 < F) {l:List S3} {t:Nat} (hv:ValS l) (hl:l.length=t) (h1:1≤t) (h2:t≤12):T105 F l ((t:Nat):Int)=some (0,lag l):=by
 have a1:(1:Int)≤(t:Int):=by omega
 have a2:(t:Int)≤16:=by omega
 have a3:¬ (l.length:Int) < (t:Int):=by omega
 have a4:¬ ((t:Nat):Int) < (l.length:Int):=by omega
 have h105:T185 F l ((t:Nat):Int)=some true:=by
  have hs:iter (fun s=>L185_2 F l ((t:Nat):Int) s) F ((t:Nat):Int)=some (.inl ()):=by
   obtain ⟨f,rfl⟩:∃ f,F=f + 1:=⟨F - 1,by omega⟩
   simp only [iter,L185_2,L185_2c,a4,decide_false,cond_false,Option.bind_some]
  simp only [T185,T185c,hs,Option.bind_some,elimS]
 have h89:T149 F l ((t:Nat):Int)=some 0:=by
  simp only [T149,T149c,xs103 hF hv (by omega),T184,T184c,a1,a2,a3,decide_true,decide_false,cond_true,cond_false,Option.bind_some,Bool.not_true,h105]
 have hg:gsl l (0:Int) ((t:Nat):Int)=some l:=by
  rw [gsl0 (by omega),List.take_of_length_le (by omega)]
 simp only [T105,T105c,h89,Option.bind_some,bne_self_eq_false,cond_false,hg,t90L hF hv (by omega) (by omega)]
theorem it_outX {σ ρ:Type} {f:σ->Option (σ ⊕ ρ)} {n:Nat} {s:σ} {r:ρ} (h:f s=some (.inr r)):iter f (n + 1) s=some r:=by simp [iter,h]
abbrev Ms:=List UInt8
theorem prt {F:Nat} {p:Ms} (hF:4000 < F) (hp:p.length=32):∃ a,T106 F p=some (a,0):=by
 obtain ⟨a,a1,a2⟩:=derive33 (F:=F) (p:=p) (l:=[112,114,105,110,116]) hF hp (by decide) (by decide)
 exact ⟨a,by simp only [T106,T106c,a1,Option.bind_some]⟩
def fit (F:Nat) (print:Ms) (l:List S3):Option Ms:=match T106 F (lag l) with
 | some z=>bif z.1 == print then some (lag l) else none
 | none=>none
def out:Option Ms->Ms×Bool
 | some m=>(m,true)
 | none=>([],false)
theorem fit37 {F:Nat} (hF:4000 < F) {l:List S3} {t:Nat} (hv:ValS l) (hl:l.length=t) (h1:1≤t) (h2:t≤12) (print:Ms):T39 F l ((t:Nat):Int) print=some (out (fit F print l)):=by
 obtain ⟨a,ha⟩:=prt (F:=F) (p:=lag l) hF (lag_len hv)
 have h67:=comb67 (F:=F) (by omega) hv hl h1 h2
 cases hp:a == print with
 | true=>
  have hne:(a != print)=false:=by simp only [bne,hp,Bool.not_true]
  simp only [T39,T39c,h67,Option.bind_some,bne_self_eq_false,cond_false,ha,hne,fit,hp,cond_true,out]
 | false=>
  have hne:(a != print)=true:=by simp only [bne,hp,Bool.not_false]
  simp only [T39,T39c,h67,Option.bind_some,bne_self_eq_false,cond_false,ha,hne,fit,hp,cond_true,out]
def dfs (fit:List S3->Option Ms) (t:Nat):List S3->List S3->Option Ms
 | [],ch=>if ch.length=t then fit ch else none
 | s :: r,ch=>if ch.length=t then fit ch else match dfs fit t r (ch ++ [s]) with
  | some m=>some m
  | none=>dfs fit t r ch
theorem dfs_full {fit:List S3->Option Ms} {t:Nat} {r ch:List S3} (h:ch.length=t):dfs fit t r ch=fit ch:=by
 cases r<;>simp only [dfs,h,if_true]
theorem dfs_sound {fit:List S3->Option Ms} {t:Nat} {m:Ms}:∀ {r ch:List S3},dfs fit t r ch=some m->∃ sel,sel.Sublist r∧fit (ch ++ sel)=some m∧(ch ++ sel).length=t
 | [],ch,h=>by
  simp only [dfs] at h
  split at h
  ·rename_i hl;exact ⟨[],.slnil,by simpa using h,by simpa using hl⟩
  ·cases h
 | s :: r,ch,h=>by
  simp only [dfs] at h
  split at h
  ·rename_i hl;exact ⟨[],List.nil_sublist _,by simpa using h,by simpa using hl⟩
  ·split at h
   ·rename_i m' hm
    cases h
    obtain ⟨sel,h1,h2,h3⟩:=dfs_sound hm
    exact ⟨s :: sel,h1.cons_cons s,by simpa using h2,by simpa using h3⟩
   ·obtain ⟨sel,h1,h2,h3⟩:=dfs_sound h
    exact ⟨sel,h1.cons s,h2,h3⟩
theorem t38s {F:Nat} (hF:4000 < F) {ss:List S3} (hv:ValS ss) (hl:ss.length≤100) {t:Nat} (h1:1≤t) (h2:t≤12) (print:Ms):∀ (g i:Nat) (ch:List S3),ch.Sublist (ss.take i)->i≤ss.length->ss.length - i < g ->
  T38g F g ch ((i:Nat):Int) ((t:Nat):Int) print ss=some (out (dfs (fit F print) t (ss.drop i) ch))
 | 0,i,ch,_,_,hg=>by omega
 | g + 1,i,ch,hch,hi,hg=>by
  have ih:=t38s hF hv hl h1 h2 print g
  show T38r F (T38g F g) ch ((i:Nat):Int) ((t:Nat):Int) print ss=_
  by_cases hc:ch.length=t
  ·have hce:((ch.length:Int) == ((t:Nat):Int))=true:=by simp;omega
   have:=fit37 hF (hv.sub (hch.trans (List.take_sublist _ _))) hc h1 h2 print
   simp only [T38r,T38rc,hce,cond_true,this,Option.bind_some,dfs_full hc]
  ·have hce:((ch.length:Int) == ((t:Nat):Int))=false:=by
    cases e:((ch.length:Int) == ((t:Nat):Int)) with
    | false=>rfl
    | true=>simp at e;omega
   have key:∀ (m j fuel:Nat),j + m=ss.length->i≤j->m < fuel->iter (fun s=>L38r_2 F (T38g F g) ch ((t:Nat):Int) print ss s) fuel ((j:Nat):Int)=some (match dfs (fit F print) t (ss.drop j) ch with
     | some x=>.inr (x,true)
     | none=>.inl ()):=by
    intro m
    induction m with
    | zero=>
     intro j fuel hj hij hf
     obtain ⟨fuel,rfl⟩:∃ k,fuel=k + 1:=⟨fuel - 1,by omega⟩
     have h:¬ ((j:Nat):Int) < (ss.length:Int):=by omega
     have hd:ss.drop j=[]:=List.drop_eq_nil_of_le (by omega)
     simp only [iter,L38r_2,L38r_2c,h,decide_false,cond_false,Option.bind_some,hd,dfs,hc,if_false]
    | succ m ihm=>
     intro j fuel hj hij hf
     obtain ⟨fuel,rfl⟩:∃ k,fuel=k + 1:=⟨fuel - 1,by omega⟩
     have h:((j:Nat):Int) < (ss.length:Int):=by omega
     have hjl:j < ss.length:=by omega
     have hchj:ch.Sublist (ss.take j):=hch.trans (by
      have:=List.take_sublist i (ss.take j)
      rwa [List.take_take,Nat.min_eq_left hij] at this)
     have hlen:ch.length≤100:=by have:=hchj.length_le;simp at this;omega
     have g1:T40 F ch=some ch:=by
      simp only [T40,T40x2,T40x2c]
      unfold gapp;rw [if_pos (by simp;omega)];simp
     have g2:gapp ch ([(ss[j].1,ss[j].2.1,())]:List S3)=some (ch ++ [ss[j]]):=gapp1 (by omega)
     have hrec:=ih (j + 1) (ch ++ [ss[j]]) (by
      rw [List.take_add_one,List.getElem?_eq_getElem hjl]
      exact hchj.append (List.Sublist.refl _)) (by omega) (by omega)
     have hd:ss.drop j=ss[j] :: ss.drop (j + 1):=List.drop_eq_getElem_cons hjl
     have hcast:w64 (((j:Nat):Int) + 1)=((j + 1:Nat):Int):=w64s (by omega)
     rw [hd]
     simp only [dfs,hc,if_false]
     cases hr:dfs (fit F print) t (ss.drop (j + 1)) (ch ++ [ss[j]]) with
     | some x=>
      rw [hr] at hrec
      refine it_outX ?_
      simp only [L38r_2,L38r_2c,h,decide_true,cond_true,ixG hjl,g1,g2,hcast,hrec,out,Option.bind_some]
     | none=>
      rw [hr] at hrec
      have hs:L38r_2 F (T38g F g) ch ((t:Nat):Int) print ss ((j:Nat):Int)=some (.inl ((j + 1:Nat):Int)):=by
       simp only [L38r_2,L38r_2c,h,decide_true,cond_true,ixG hjl,g1,g2,hcast,hrec,out,Option.bind_some,cond_false]
      show (L38r_2 F (T38g F g) ch ((t:Nat):Int) print ss ((j:Nat):Int)).bind _=_
      rw [hs]
      exact ihm (j + 1) fuel (by omega) (by omega) (by omega)
   have hk:=key (ss.length - i) i F (by omega) (Nat.le_refl _) (by omega)
   simp only [T38r,T38rc,hce,cond_false,hk,Option.bind_some]
   cases dfs (fit F print) t (ss.drop i) ch<;>rfl
theorem loop23 {F:Nat} {ss:List S3} (hv:ValS ss) (hl:ss.length≤100):∀ (m i fuel:Nat) (v:Vector Bool 13),i + m=ss.length->m < fuel->(∀ (j:Nat) (h:j < 13),v[j]=true->((j:Nat):Int) ∈ (ss.take i).map (·.1)) ->
  iter (fun s:Int×Vector Bool 13=>L17_2 F ss (ss.length:Int) s.1 s.2) fuel (((i:Nat):Int),v)=some (.inl ())
 | 0,i,fuel + 1,v,hi,hf,_=>by
  have h:¬ ((i:Nat):Int) < (ss.length:Int):=by omega
  simp only [iter,L17_2,L17_2c,h,decide_false,cond_false,Option.bind_some]
 | m + 1,i,fuel + 1,v,hi,hf,hvv=>by
  have h:((i:Nat):Int) < (ss.length:Int):=by omega
  have hil:i < ss.length:=by omega
  obtain ⟨r1,r2,r3⟩:=hv.r _ (List.getElem_mem hil)
  obtain ⟨x,hx⟩:∃ x:Nat,ss[i].1=(x:Int):=⟨(ss[i].1).toNat,by omega⟩
  have hx13:x < 13:=by omega
  have a1:¬ ((x:Nat):Int) < 1:=by omega
  have a2:¬ (12:Int) < ((x:Nat):Int):=by omega
  have a3:((ss[i].2.1.length:Int) != 32)=false:=by rw [r3];rfl
  have hvx:v[x]=false:=by
   cases hc:v[x] with
   | false=>rfl
   | true=>
    have:=hvv x hx13 hc
    rw [← hx] at this
    obtain ⟨k,hk,hk2⟩:=List.mem_iff_getElem.1 this
    simp only [List.length_map,List.length_take] at hk
    rw [List.getElem_map,List.getElem_take] at hk2
    have e:(ss.map (·.1))[k]'(by simp;omega)=(ss.map (·.1))[i]'(by simpa using hil):=by simpa using hk2
    have:=(List.getElem_inj hv.n).1 e
    omega
  have hs:L17_2 F ss (ss.length:Int) ((i:Nat):Int) v=some (.inl (((i + 1:Nat):Int),v.setIfInBounds x true)):=by
   simp only [L17_2,L17_2c,h,decide_true,cond_true,ixG hil,hx,Option.bind_some,a1,a2,decide_false,cond_false,inb_nat hx13,vat_nat hx13,hvx,a3,w64s (show i < 1000000000 by omega)]
  show (L17_2 F ss (ss.length:Int) ((i:Nat):Int) v).bind _=_
  rw [hs]
  refine loop23 hv hl m (i + 1) fuel _ (by omega) (by omega) (fun j hj hjv=>?_)
  rw [List.take_add_one,List.getElem?_eq_getElem hil]
  simp only [Option.toList_some,List.map_append,List.map_cons,List.map_nil,List.mem_append,List.mem_singleton]
  rw [Vector.getElem_setIfInBounds] at hjv
  by_cases hxj:x=j
  ·right;rw [hx,hxj]
  ·left;simp only [hxj,if_false] at hjv;exact hvv j hj hjv
theorem t17s {F:Nat} (hF:4000 < F) {ss:List S3} (hv:ValS ss) (hl:ss.length≤100) {t:Nat} (h1:1≤t) (h2:t≤12) {print:Ms} (hp:print.length=32) :
  T17 F ((t:Nat):Int) ss print=some (if ss.length < t then (([]:Ms),(10:Int)) else match dfs (fit F print) t ss [] with
   | some m=>(m,0)
   | none=>([],9)):=by
 have a1:¬ ((t:Nat):Int) < 1:=by omega
 have a2:¬ (12:Int) < ((t:Nat):Int):=by omega
 have a3:((print.length:Int) != 32)=false:=by rw [hp];rfl
 have hL:=loop23 (F:=F) hv hl ss.length 0 F (Vector.replicate 13 false) (by omega) (by omega) (fun j hj hjv=>by simp at hjv)
 have hL:iter (fun s:Int×Vector Bool 13=>L17_2 F ss (ss.length:Int) s.1 s.2) F ((0:Int),Vector.replicate 13 false)=some (.inl ()):=hL
 by_cases hlt:ss.length < t
 ·have a4:(ss.length:Int) < ((t:Nat):Int):=by omega
  simp only [T17,T17c,a1,a2,a3,decide_false,cond_false,hL,Option.bind_some,elimS,a4,decide_true,cond_true,hlt,if_true]
 ·have a4:¬ (ss.length:Int) < ((t:Nat):Int):=by omega
  have h36:=t38s hF hv hl h1 h2 print F 0 [] (by simp) (by omega) (by omega)
  have h36:T38 F [] (0:Int) ((t:Nat):Int) print ss=some (out (dfs (fit F print) t ss [])):=by
   rw [List.drop_zero] at h36;exact h36
  simp only [T17,T17c,a1,a2,a3,decide_false,cond_false,hL,Option.bind_some,elimS,a4,hlt,if_false,h36]
  cases dfs (fit F print) t ss []<;>rfl
def cc (p:Bs):UInt8:=p.headD 0
theorem cc_get {p:Bs} (h:0 < p.length):cc p=p[0]:=by cases p with
 | nil=>cases h
 | cons a p=>rfl
theorem cc_set_ne {p:Bs} {n:Nat} {v:UInt8} (h:0 < n):cc (p.set n v)=cc p:=by
 cases p with
 | nil=>rfl
 | cons a p=>cases n with
  | zero=>cases h
  | succ n=>rfl
theorem cc_set0 {p:Bs} {v:UInt8} (h:0 < p.length):cc (p.set 0 v)=v:=by cases p with
 | nil=>cases h
 | cons a p=>rfl
theorem trim191 {F:Nat} {p:Bs} (hF:p.length < F) (hp:p.length < 1000000):∃ q,T191 F p=some q∧q.length≤p.length∧cc q=cc p:=by
 have key:∀ (n fuel:Nat),n≤p.length->n < fuel->∃ k:Nat,k≤n∧iter (fun s=>L191_2 F p s) fuel ((n:Nat):Int)=some ((k:Nat):Int)∧(k=0->0 < n->p[0]? = some 0):=by
  intro n
  induction n with
  | zero=>
   intro fuel hn hf
   obtain ⟨fuel,rfl⟩:∃ k,fuel=k + 1:=⟨fuel - 1,by omega⟩
   refine ⟨0,by omega,it_outX ?_,fun _ h=>absurd h (by omega)⟩
   have h:¬ (0:Int) < ((0:Nat):Int):=by omega
   simp only [L191_2,L191_2c,h,decide_false,cond_false]
  | succ n ih=>
   intro fuel hn hf
   obtain ⟨fuel,rfl⟩:∃ k,fuel=k + 1:=⟨fuel - 1,by omega⟩
   have h:(0:Int) < ((n + 1:Nat):Int):=by omega
   have hw:w64 (((n + 1:Nat):Int) - 1)=((n:Nat):Int):=by rw [w64_in (by omega) (by omega)];omega
   have hnl:n < p.length:=by omega
   cases hz:p[n] == UInt8.ofNat 0 with
   | true=>
    obtain ⟨k,h1,h2,h3⟩:=ih fuel (by omega) (by omega)
    refine ⟨k,by omega,?_,fun hk _=>?_⟩
    ·rw [← h2]
     refine it_again ?_
     simp only [L191_2,L191_2c,h,decide_true,cond_true,hw,ixG hnl,Option.bind_some,hz]
    ·by_cases hn0:n=0
     ·subst hn0
      rw [List.getElem?_eq_getElem hnl]
      have:p[0]=0:=by simpa using hz
      rw [this]
     ·exact h3 hk (by omega)
   | false=>
    refine ⟨n + 1,by omega,it_outX ?_,fun h=>absurd h (by omega)⟩
    simp only [L191_2,L191_2c,h,decide_true,cond_true,hw,ixG hnl,Option.bind_some,hz,cond_false]
 obtain ⟨k,h1,h2,h3⟩:=key p.length F (Nat.le_refl _) hF
 have g:=gsl0 (l:=p) (i:=k) (by omega)
 have g2:gapp ([]:Bs) (p.take k)=some (p.take k):=by unfold gapp;rw [if_pos (by simp;omega)];simp
 refine ⟨p.take k,by simp only [T191,T191c,h2,Option.bind_some,g,g2],by simp;omega,?_⟩
 cases p with
 | nil=>simp [cc]
 | cons x p=>
  cases k with
  | zero=>
   have:=h3 rfl (by simp)
   simp only [List.getElem?_cons_zero,Option.some.injEq] at this
   subst this;rfl
  | succ k=>rfl
theorem in188 {F:Nat} {a b:Bs} (hF:20 < F) (ha:a.length < 1000) (hb:b.length < 1000) {i:Nat} (hi:i < a.length):∀ (m j fuel:Nat) (r:Bs),j + m=b.length->m < fuel->r.length=a.length + b.length ->
  ∃ r',iter (fun s:Int×Bs=>L188_4 F a b ((i:Nat):Int) (b.length:Int) s.1 s.2) fuel (((j:Nat):Int),r)=some r'∧r'.length=r.length∧cc r'=cc r ^^^ (if i=0∧j=0 then gm (cc a) (cc b) else 0)
 | 0,j,fuel + 1,r,hj,hf,hr=>by
  have h:¬ ((j:Nat):Int) < (b.length:Int):=by omega
  refine ⟨r,it_outX ?_,rfl,?_⟩
  ·simp only [L188_4,L188_4c,h,decide_false,cond_false]
  ·by_cases h0:i=0∧j=0
   ·have hb0:b=[]:=List.eq_nil_of_length_eq_zero (by omega)
    have hc:cc ([]:Bs)=0:=rfl
    rw [if_pos h0,hb0,hc,gm_zero,xz]
   ·rw [if_neg h0,xz]
 | m + 1,j,fuel + 1,r,hj,hf,hr=>by
  have h:((j:Nat):Int) < (b.length:Int):=by omega
  have hjl:j < b.length:=by omega
  have hij:i + j < r.length:=by omega
  have hw:w64 (((i:Nat):Int) + ((j:Nat):Int))=((i + j:Nat):Int):=by rw [w64_in (by omega) (by omega)];omega
  have hg:r[i + j]? = some r[i + j]:=List.getElem?_eq_getElem hij
  obtain ⟨r',h1,h2,h3⟩:=in188 hF ha hb hi m (j + 1) fuel (r.set (i + j) (r[i + j] ^^^ gm a[i] b[j])) (by omega) (by omega) (by simpa using hr)
  refine ⟨r',?_,by simpa using h2,?_⟩
  ·rw [← h1]
   refine it_again ?_
   simp only [L188_4,L188_4c,h,decide_true,cond_true,hw,inbn hij,hg,ixG hi,ixG hjl,mul81 hF,Option.bind_some,w64s (show j < 1000000000 by omega)]
  ·rw [h3,if_neg (by omega),xz]
   by_cases h0:i=0∧j=0
   ·obtain ⟨rfl,rfl⟩:=h0
    rw [if_pos ⟨rfl,rfl⟩,cc_set0 (by omega),cc_get (p:=r) (by omega),cc_get (p:=a) hi,cc_get (p:=b) hjl]
   ·rw [if_neg h0,cc_set_ne (by omega),xz]
theorem mul188 {F:Nat} {a b:Bs} (hF:3000 < F) (ha:a.length < 1000) (hb:b.length < 1000):∃ q,T188 F a b=some q∧q.length≤a.length + b.length∧cc q=gm (cc a) (cc b):=by
 have key:∀ (m i fuel:Nat) (r:Bs),i + m=a.length->m < fuel->r.length=a.length + b.length ->
   ∃ r',iter (fun s:Int×Bs=>L188_3 F a b (a.length:Int) s.1 s.2) fuel (((i:Nat):Int),r)=some r'∧r'.length=r.length∧cc r'=cc r ^^^ (if i=0 then gm (cc a) (cc b) else 0):=by
  intro m
  induction m with
  | zero=>
   intro i fuel r hi hf hr
   obtain ⟨fuel,rfl⟩:∃ k,fuel=k + 1:=⟨fuel - 1,by omega⟩
   have h:¬ ((i:Nat):Int) < (a.length:Int):=by omega
   refine ⟨r,it_outX ?_,rfl,?_⟩
   ·simp only [L188_3,L188_3c,h,decide_false,cond_false]
   ·by_cases h0:i=0
    ·have ha0:a=[]:=List.eq_nil_of_length_eq_zero (by omega)
     have hc:cc ([]:Bs)=0:=rfl
     rw [if_pos h0,ha0,hc,zero_gm,xz]
    ·rw [if_neg h0,xz]
  | succ m ih=>
   intro i fuel r hi hf hr
   obtain ⟨fuel,rfl⟩:∃ k,fuel=k + 1:=⟨fuel - 1,by omega⟩
   have h:((i:Nat):Int) < (a.length:Int):=by omega
   have hil:i < a.length:=by omega
   obtain ⟨r1,a1,a2,a3⟩:=in188 (F:=F) (by omega) ha hb hil b.length 0 F r (by omega) (by omega) hr
   have a1:iter (fun s:Int×Bs=>L188_4 F a b ((i:Nat):Int) (b.length:Int) s.1 s.2) F ((0:Int),r)=some r1:=a1
   obtain ⟨r',h1,h2,h3⟩:=ih (i + 1) fuel r1 (by omega) (by omega) (by omega)
   refine ⟨r',?_,by omega,?_⟩
   ·rw [← h1]
    refine it_again ?_
    simp only [L188_3,L188_3c,h,decide_true,cond_true,a1,Option.bind_some,w64s (show i < 1000000000 by omega)]
   ·rw [h3,if_neg (by omega),xz,a3]
    by_cases h0:i=0
    ·rw [if_pos ⟨h0,rfl⟩,if_pos h0]
    ·rw [if_neg (fun e=>h0 e.1),if_neg h0]
 have hw:w64 ((a.length:Int) + (b.length:Int))=((a.length + b.length:Nat):Int):=by rw [w64_in (by omega) (by omega)];omega
 have hm:gmake (0:UInt8) ((a.length + b.length:Nat):Int) ((a.length + b.length:Nat):Int)=some (List.replicate (a.length + b.length) 0):=by
  unfold gmake;rw [if_pos (by omega)];rfl
 obtain ⟨r,h1,h2,h3⟩:=key a.length 0 F (List.replicate (a.length + b.length) 0) (by omega) (by omega) (by simp)
 have h1:iter (fun s:Int×Bs=>L188_3 F a b (a.length:Int) s.1 s.2) F ((0:Int),List.replicate (a.length + b.length) 0)=some r:=h1
 simp only [List.length_replicate] at h2
 obtain ⟨q,q1,q2,q3⟩:=trim191 (F:=F) (p:=r) (by omega) (by omega)
 refine ⟨q,by simp only [T188,T188c,hw,hm,h1,q1,Option.bind_some],by omega,?_⟩
 rw [q3,h3,if_pos rfl]
 have hz:cc (List.replicate (a.length + b.length) (0:UInt8))=0:=by
  cases a.length + b.length<;>rfl
 rw [hz,zx]
theorem at205 (F:Nat) (p:Bs) (i:Nat):T205 F p ((i:Nat):Int)=some (p.getD i 0):=by
 by_cases h:i < p.length
 ·have h1:((i:Nat):Int) < (p.length:Int):=by omega
  simp only [T205,T205c,h1,decide_true,cond_true,ixG h,Option.bind_some]
  simp [h]
 ·have h1:¬ ((i:Nat):Int) < (p.length:Int):=by omega
  simp only [T205,T205c,h1,decide_false,cond_false]
  simp [h]
theorem cc_getD (p:Bs):p.getD 0 0=cc p:=by cases p<;>rfl
theorem cc_app {p q:Bs} (h:0 < p.length):cc (p ++ q)=cc p:=by cases p with
 | nil=>cases h
 | cons a p=>rfl
theorem add190 {F:Nat} {a b:Bs} (hF:2000 < F) (ha:a.length < 1000) (hb:b.length < 1000):∃ q,T190 F a b=some q∧q.length≤max a.length b.length∧cc q=cc a ^^^ cc b:=by
 have key:∀ (m i fuel:Nat) (r:Bs),i + m=max a.length b.length->m < fuel->r.length=i ->
   ∃ r',iter (fun s:Int×Bs=>L190_2 F a b s.1 s.2) fuel (((i:Nat):Int),r)=some r'∧r'.length=i + m∧cc r'=if i=0 then cc a ^^^ cc b else cc r:=by
  intro m
  induction m with
  | zero=>
   intro i fuel r hi hf hr
   obtain ⟨fuel,rfl⟩:∃ k,fuel=k + 1:=⟨fuel - 1,by omega⟩
   have h:¬ ((i:Nat):Int) < (a.length:Int):=by omega
   have h':¬ ((i:Nat):Int) < (b.length:Int):=by omega
   refine ⟨r,it_outX ?_,by omega,?_⟩
   ·simp only [L190_2,L190_2c,h,h',decide_false,cond_false]
   ·by_cases h0:i=0
    ·have ha0:a=[]:=List.eq_nil_of_length_eq_zero (by omega)
     have hb0:b=[]:=List.eq_nil_of_length_eq_zero (by omega)
     have hr0:r=[]:=List.eq_nil_of_length_eq_zero (by omega)
     rw [if_pos h0,ha0,hb0,hr0];rfl
    ·rw [if_neg h0]
  | succ m ih=>
   intro i fuel r hi hf hr
   obtain ⟨fuel,rfl⟩:∃ k,fuel=k + 1:=⟨fuel - 1,by omega⟩
   have ga:=gapp1 (xs:=r) (y:=a.getD i 0 ^^^ b.getD i 0) (by omega)
   obtain ⟨r',h1,h2,h3⟩:=ih (i + 1) fuel (r ++ [a.getD i 0 ^^^ b.getD i 0]) (by omega) (by omega) (by simp;omega)
   refine ⟨r',?_,by omega,?_⟩
   ·rw [← h1]
    refine it_again ?_
    by_cases h:((i:Nat):Int) < (a.length:Int)
    ·simp only [L190_2,L190_2c,h,decide_true,cond_true,at205,Option.bind_some,ga,w64s (show i < 1000000000 by omega)]
    ·have h':((i:Nat):Int) < (b.length:Int):=by omega
     simp only [L190_2,L190_2c,h,h',decide_true,decide_false,cond_false,cond_true,at205,Option.bind_some,ga,w64s (show i < 1000000000 by omega)]
   ·rw [h3,if_neg (by omega)]
    by_cases h0:i=0
    ·subst h0
     have hr0:r=[]:=List.eq_nil_of_length_eq_zero hr
     rw [if_pos rfl,hr0,cc_getD,cc_getD];rfl
    ·rw [if_neg h0,cc_app (by omega)]
 obtain ⟨r,h1,h2,h3⟩:=key (max a.length b.length) 0 F [] (by omega) (by omega) rfl
 have h1:iter (fun s:Int×Bs=>L190_2 F a b s.1 s.2) F ((0:Int),([]:Bs))=some r:=h1
 obtain ⟨q,q1,q2,q3⟩:=trim191 (F:=F) (p:=r) (by omega) (by omega)
 exact ⟨q,by simp only [T190,T190c,h1,q1,Option.bind_some],by omega,by rw [q3,h3,if_pos rfl]⟩
theorem eval153 {F:Nat} {p:Bs} (hF:p.length + 300 < F) (hp:p.length < 255):T153 F p 0=some (cc p):=by
 have p0:T193 F 0 (0:Int)=some 1:=rfl
 have key:∀ (m i fuel:Nat) (c:UInt8),i + m=p.length->m < fuel->iter (fun s:UInt8×Int=>L153_2 F p 0 (p.length:Int) s.1 s.2) fuel (c,((i:Nat):Int))=some (c ^^^ (if i=0 then cc p else 0)):=by
  intro m
  induction m with
  | zero=>
   intro i fuel c hi hf
   obtain ⟨fuel,rfl⟩:∃ k,fuel=k + 1:=⟨fuel - 1,by omega⟩
   have h:¬ ((i:Nat):Int) < (p.length:Int):=by omega
   refine it_outX ?_
   simp only [L153_2,L153_2c,h,decide_false,cond_false]
   by_cases h0:i=0
   ·have hp0:p=[]:=List.eq_nil_of_length_eq_zero (by omega)
    rw [if_pos h0,hp0];simp [cc]
   ·rw [if_neg h0,xz]
  | succ m ih=>
   intro i fuel c hi hf
   obtain ⟨fuel,rfl⟩:∃ k,fuel=k + 1:=⟨fuel - 1,by omega⟩
   have h:((i:Nat):Int) < (p.length:Int):=by omega
   have hil:i < p.length:=by omega
   have hpw:T193 F 0 ((i:Nat):Int)=some (if i=0 then 1 else 0):=by
    by_cases h0:i=0
    ·subst h0;exact p0
    ·have hne:(((i:Nat):Int) == 0)=false:=by simp;omega
     have hz:((0:UInt8) == UInt8.ofNat 0)=true:=rfl
     simp only [T193,T193c,hz,hne,cond_true,cond_false,if_neg h0];rfl
   have hs:L153_2 F p 0 (p.length:Int) c ((i:Nat):Int)=some (.inl (c ^^^ gm p[i] (if i=0 then 1 else 0),((i + 1:Nat):Int))):=by
    simp only [L153_2,L153_2c,h,decide_true,cond_true,ixG hil,hpw,mul81 (show 20 < F by omega),Option.bind_some,w64s (show i < 1000000000 by omega)]
   show (L153_2 F p 0 (p.length:Int) c ((i:Nat):Int)).bind _=_
   rw [hs]
   simp only [Option.bind_some]
   rw [ih (i + 1) fuel _ (by omega) (by omega),if_neg (show ¬ i + 1=0 by omega),xz]
   by_cases h0:i=0
   ·subst h0
    rw [if_pos rfl,if_pos rfl,gm_one,cc_get hil]
   ·rw [if_neg h0,if_neg h0,gm_zero]
 have h:=key p.length 0 F 0 (by omega) (by omega)
 have h:iter (fun s:UInt8×Int=>L153_2 F p 0 (p.length:Int) s.1 s.2) F (UInt8.ofNat 0,(0:Int))=some (cc p):=by
  rw [if_pos rfl,zx] at h;exact h
 simp only [T153,T153c,h,Option.bind_some]
theorem gi_uniq {x y:UInt8} (hx:x ≠ 0) (h:gm x y=1):y=gi x:=by
 have h1:gm (gi x) (gm x y)=y:=by rw [← gm_assoc,gm_comm (gi x) x,gi_ok x hx,one_gm]
 rw [h,gm_one] at h1;exact h1.symm
theorem inv189 {F:Nat} (hF:300 < F) {x:UInt8} (hx:x ≠ 0):T189 F x=some (gi x):=by
 have hg0:gi x ≠ 0:=fun h=>by have:=gi_ok x hx;rw [h,gm_zero] at this;exact absurd this (by decide)
 have hgn:(gi x).toNat ≠ 0:=fun h=>hg0 (UInt8.toNat_inj.1 h)
 have hlt:=(gi x).toNat_lt
 have hof:∀ k:Nat,k < 256->UInt8.ofInt ((k:Nat):Int)=UInt8.ofNat k:=by
  intro k hk
  have:∀ k:_root_.Fin 256,UInt8.ofInt ((k.val:Nat):Int)=UInt8.ofNat k.val:=by decide +kernel
  exact this ⟨k,hk⟩
 have key:∀ (m k fuel:Nat),k + m=(gi x).toNat->m < fuel->iter (fun s=>L189_2 F x s) fuel ((k:Nat):Int)=some (.inr (gi x)):=by
  intro m
  induction m with
  | zero=>
   intro k fuel hk hf
   obtain ⟨fuel,rfl⟩:∃ k,fuel=k + 1:=⟨fuel - 1,by omega⟩
   have h:((k:Nat):Int) < 256:=by omega
   have hkk:UInt8.ofInt ((k:Nat):Int)=gi x:=by
    rw [hof k (by omega),show k=(gi x).toNat from by omega]
    exact UInt8.ofNat_toNat
   refine it_outX ?_
   have h1:(gm x (gi x) == UInt8.ofNat 1)=true:=by rw [gi_ok x hx];rfl
   simp only [L189_2,L189_2c,h,decide_true,cond_true,hkk,mul81 (show 20 < F by omega),Option.bind_some,h1]
  | succ m ih=>
   intro k fuel hk hf
   obtain ⟨fuel,rfl⟩:∃ k,fuel=k + 1:=⟨fuel - 1,by omega⟩
   have h:((k:Nat):Int) < 256:=by omega
   have hne:(gm x (UInt8.ofNat k) == UInt8.ofNat 1)=false:=by
    simp only [beq_eq_false_iff_ne,ne_eq]
    intro e
    have:=gi_uniq hx e
    have h2:(UInt8.ofNat k).toNat=k:=by simp;omega
    rw [this] at h2
    omega
   rw [← ih (k + 1) fuel (by omega) (by omega)]
   refine it_again ?_
   simp only [L189_2,L189_2c,h,decide_true,cond_true,hof k (by omega),mul81 (show 20 < F by omega),Option.bind_some,hne,cond_false,w64s (show k < 1000000000 by omega)]
 have h:=key ((gi x).toNat - 1) 1 F (by omega) (by omega)
 have h:iter (fun s=>L189_2 F x s) F (1:Int)=some (.inr (gi x)):=h
 simp only [T189,T189c,h,Option.bind_some,elimS]
theorem nodup_ne {xs:Bs} (hn:xs.Nodup) {i j:Nat} (hi:i < xs.length) (hj:j < xs.length) (h:j ≠ i):xs[i] ^^^ xs[j] ≠ 0:=by
 intro e
 have:xs[i]=xs[j]:=by
  have h2:(xs[i] ^^^ xs[j]) ^^^ xs[j]=0 ^^^ xs[j]:=by rw [e]
  rw [UInt8.xor_assoc,xx,xz,zx] at h2;exact h2
 exact h ((List.getElem_inj hn).1 this.symm)
theorem in152 {F:Nat} {xs:Bs} (hF:3000 < F) (hx:xs.length≤20) (hn:xs.Nodup) {i:Nat} (hi:i < xs.length):∀ (m j fuel:Nat) (p:Bs),j + m=xs.length->m < fuel->p.length≤1 + 3 * j ->
  ∃ q,iter (fun s:Int×Bs=>L152_5 F xs ((i:Nat):Int) (xs.length:Int) s.1 s.2) fuel (((j:Nat):Int),p)=some q∧q.length≤1 + 3 * xs.length∧cc q=wpr i xs[i] j (xs.drop j) (cc p)
 | 0,j,fuel + 1,p,hj,hf,hp=>by
  have h:¬ ((j:Nat):Int) < (xs.length:Int):=by omega
  have hd:xs.drop j=[]:=List.drop_eq_nil_of_le (by omega)
  refine ⟨p,it_outX ?_,by omega,by rw [hd];rfl⟩
  simp only [L152_5,L152_5c,h,decide_false,cond_false]
 | m + 1,j,fuel + 1,p,hj,hf,hp=>by
  have h:((j:Nat):Int) < (xs.length:Int):=by omega
  have hjl:j < xs.length:=by omega
  have hd:xs.drop j=xs[j] :: xs.drop (j + 1):=List.drop_eq_getElem_cons hjl
  by_cases hji:j=i
  ·subst hji
   have hb:Nat.beq j j=true:=by simp
   obtain ⟨q,h1,h2,h3⟩:=in152 hF hx hn hi m (j + 1) fuel p (by omega) (by omega) (by omega)
   refine ⟨q,?_,h2,?_⟩
   ·rw [← h1]
    refine it_again ?_
    simp only [L152_5,L152_5c,h,decide_true,cond_true,bne_self_eq_false,cond_false,w64s (show j < 1000000000 by omega)]
   ·rw [h3,hd,wpr,hb];rfl
  ·have hb:Nat.beq j i=false:=by
    cases e:Nat.beq j i with
    | false=>rfl
    | true=>exact absurd (Nat.eq_of_beq_eq_true e) hji
   have hne:(((j:Nat):Int) != ((i:Nat):Int))=true:=by simp;omega
   have hxx:=nodup_ne hn hi hjl hji
   obtain ⟨q1,a1,a2,a3⟩:=mul188 (F:=F) (a:=p) (b:=[xs[j],UInt8.ofNat 1]) (by omega) (by omega) (by simp)
   obtain ⟨q2,b1,b2,b3⟩:=mul188 (F:=F) (a:=q1) (b:=[gi (xs[i] ^^^ xs[j])]) (by omega) (by simp at a2;omega) (by simp)
   simp only [List.length_cons,List.length_nil] at a2 b2
   obtain ⟨q,h1,h2,h3⟩:=in152 hF hx hn hi m (j + 1) fuel q2 (by omega) (by omega) (by omega)
   refine ⟨q,?_,h2,?_⟩
   ·rw [← h1]
    refine it_again ?_
    simp only [L152_5,L152_5c,h,decide_true,cond_true,hne,ixG hjl,ixG hi,a1,b1,inv189 (show 300 < F by omega) hxx,Option.bind_some,w64s (show j < 1000000000 by omega)]
   ·rw [h3,hd,wpr,hb,b3,a3]
    simp only [cond_false,cc,List.headD_cons,gm_assoc]
theorem int152 {F:Nat} {xs ys:Bs} (hF:3000 < F) (hx:xs.length≤20) (hn:xs.Nodup) (hy:ys.length=xs.length):∃ q,T152 F xs ys=some q∧q.length≤100∧cc q=sm xs 0 ys:=by
 have key:∀ (m i fuel:Nat) (p:Bs),i + m=xs.length->m < fuel->p.length≤100 ->
   ∃ q,iter (fun s:Int×Bs=>L152_4 F xs ys (xs.length:Int) s.1 s.2) fuel (((i:Nat):Int),p)=some q∧q.length≤100∧cc q=cc p ^^^ sm xs i (ys.drop i):=by
  intro m
  induction m with
  | zero=>
   intro i fuel p hi hf hp
   obtain ⟨fuel,rfl⟩:∃ k,fuel=k + 1:=⟨fuel - 1,by omega⟩
   have h:¬ ((i:Nat):Int) < (xs.length:Int):=by omega
   have hd:ys.drop i=[]:=List.drop_eq_nil_of_le (by omega)
   refine ⟨p,it_outX ?_,hp,by rw [hd];simp [sm]⟩
   simp only [L152_4,L152_4c,h,decide_false,cond_false]
  | succ m ih=>
   intro i fuel p hi hf hp
   obtain ⟨fuel,rfl⟩:∃ k,fuel=k + 1:=⟨fuel - 1,by omega⟩
   have h:((i:Nat):Int) < (xs.length:Int):=by omega
   have hil:i < xs.length:=by omega
   have hiy:i < ys.length:=by omega
   have hd:ys.drop i=ys[i] :: ys.drop (i + 1):=List.drop_eq_getElem_cons hiy
   obtain ⟨q1,a1,a2,a3⟩:=in152 hF hx hn hil xs.length 0 F [UInt8.ofNat 1] (by omega) (by omega) (by simp)
   have a1:iter (fun s:Int×Bs=>L152_5 F xs ((i:Nat):Int) (xs.length:Int) s.1 s.2) F ((0:Int),[UInt8.ofNat 1])=some q1:=a1
   obtain ⟨q2,b1,b2,b3⟩:=mul188 (F:=F) (a:=q1) (b:=[ys[i]]) (by omega) (by omega) (by simp)
   simp only [List.length_cons,List.length_nil] at b2
   obtain ⟨q3,c1,c2,c3⟩:=add190 (F:=F) (a:=p) (b:=q2) (by omega) (by omega) (by omega)
   obtain ⟨q,h1,h2,h3⟩:=ih (i + 1) fuel q3 (by omega) (by omega) (by omega)
   refine ⟨q,?_,h2,?_⟩
   ·rw [← h1]
    refine it_again ?_
    simp only [L152_4,L152_4c,h,decide_true,cond_true,a1,ixG hiy,b1,c1,Option.bind_some,w64s (show i < 1000000000 by omega)]
   ·have hg:xs.getD i 0=xs[i]:=by simp [hil]
    rw [h3,c3,b3,a3,hd,sm,fct,hg,List.drop_zero,UInt8.xor_assoc]
    rfl
 obtain ⟨r,h1,h2,h3⟩:=key xs.length 0 F [] (by omega) (by omega) (by simp)
 have h1:iter (fun s:Int×Bs=>L152_4 F xs ys (xs.length:Int) s.1 s.2) F ((0:Int),([]:Bs))=some r:=h1
 obtain ⟨q,q1,q2,q3⟩:=trim191 (F:=F) (p:=r) (by omega) (by omega)
 refine ⟨q,by simp only [T152,T152c,h1,q1,Option.bind_some],by omega,?_⟩
 rw [q3,h3,List.drop_zero]
 exact zx _
def col (ss:List S3) (b:Nat):Bs:=ss.map fun s=>s.2.1.getD b 0
theorem col107 {F:Nat} {ss:List S3} (hF:3000 < F) (hv:ValS ss) (hl:ss.length≤20) {b:Nat} (hb:b < 32):∀ (m j fuel:Nat) (xs ys:Bs),j + m=ss.length->m < fuel->xs.length=j->ys.length=j ->
  iter (fun s:Int×Bs×Bs=>L107_5 F ((b:Nat):Int) ss (ss.length:Int) s.1 s.2.1 s.2.2) fuel (((j:Nat):Int),xs,ys)=some (xs ++ (ss.drop j).map xi,ys ++ col (ss.drop j) b)
 | 0,j,fuel + 1,xs,ys,hj,hf,hxl,hyl=>by
  have h:¬ ((j:Nat):Int) < (ss.length:Int):=by omega
  have hd:ss.drop j=[]:=List.drop_eq_nil_of_le (by omega)
  refine it_outX ?_
  simp only [L107_5,L107_5c,h,decide_false,cond_false,hd,List.map_nil,List.append_nil,col]
 | m + 1,j,fuel + 1,xs,ys,hj,hf,hxl,hyl=>by
  have h:((j:Nat):Int) < (ss.length:Int):=by omega
  have hjl:j < ss.length:=by omega
  have hr:=(hv.r _ (List.getElem_mem hjl)).2.2
  have hbl:b < ss[j].2.1.length:=by omega
  have hd:ss.drop j=ss[j] :: ss.drop (j + 1):=List.drop_eq_getElem_cons hjl
  have g1:=gapp1 (xs:=xs) (y:=UInt8.ofInt ss[j].1) (by omega)
  have g2:=gapp1 (xs:=ys) (y:=ss[j].2.1[b]) (by omega)
  have hs:L107_5 F ((b:Nat):Int) ss (ss.length:Int) ((j:Nat):Int) xs ys=some (.inl (((j + 1:Nat):Int),xs ++ [UInt8.ofInt ss[j].1],ys ++ [ss[j].2.1[b]])):=by
   simp only [L107_5,L107_5c,h,decide_true,cond_true,ixG hjl,ixG hbl,g1,g2,Option.bind_some,w64s (show j < 1000000000 by omega)]
  show (L107_5 F ((b:Nat):Int) ss (ss.length:Int) ((j:Nat):Int) xs ys).bind _=_
  rw [hs]
  simp only [Option.bind_some]
  rw [col107 hF hv hl hb m (j + 1) fuel _ _ (by omega) (by omega) (by simp;omega) (by simp;omega),hd]
  have hg:ss[j].2.1.getD b 0=ss[j].2.1[b]:=by simp [hbl]
  simp only [List.map_cons,col,hg,List.append_assoc,List.singleton_append,xi]
theorem lag_get {ss:List S3} (hv:ValS ss) {b:Nat} (hb:b < 32):(lag ss)[b]? = some (sm (ss.map xi) 0 (col ss b)):=by
 have h:=lagv_get (ss.map xi) hb ss 0 (List.replicate 32 0) (by simp) (fun s hs=>(hv.r s hs).2.2)
 have hz:(List.replicate 32 (0:UInt8)).getD b 0=0:=by rw [List.getD_eq_getElem?_getD,List.getElem?_replicate,if_pos hb];rfl
 rw [hz,zx] at h
 exact h
theorem thr107 {F:Nat} {ss:List S3} (hF:3000 < F) (hv:ValS ss) (hl:ss.length≤20):∃ ps,T107 F ss (32:Int)=some ps∧ps.map cc=lag ss∧∀ p ∈ ps,p.length≤100:=by
 have hll:=lag_len hv
 have key:∀ (m b fuel:Nat) (acc:List Bs),b + m=32->m < fuel->acc.length=b->(∀ p ∈ acc,p.length≤100) ->
   ∃ ps,iter (fun s:Int×List Bs=>L107_4 F ss 32 s.1 s.2) fuel (((b:Nat):Int),acc)=some ps∧ps.map cc=acc.map cc ++ (lag ss).drop b∧∀ p ∈ ps,p.length≤100:=by
  intro m
  induction m with
  | zero=>
   intro b fuel acc hb hf hal hac
   obtain ⟨fuel,rfl⟩:∃ k,fuel=k + 1:=⟨fuel - 1,by omega⟩
   have h:¬ ((b:Nat):Int) < 32:=by omega
   have hd:(lag ss).drop b=[]:=List.drop_eq_nil_of_le (by omega)
   refine ⟨acc,it_outX ?_,by rw [hd,List.append_nil],hac⟩
   simp only [L107_4,L107_4c,h,decide_false,cond_false]
  | succ m ih=>
   intro b fuel acc hb hf hal hac
   obtain ⟨fuel,rfl⟩:∃ k,fuel=k + 1:=⟨fuel - 1,by omega⟩
   have h:((b:Nat):Int) < 32:=by omega
   have hbl:b < (lag ss).length:=by omega
   have hc:=col107 hF hv hl (b:=b) (by omega) ss.length 0 F [] [] (by omega) (by omega) rfl rfl
   have hc:iter (fun s:Int×Bs×Bs=>L107_5 F ((b:Nat):Int) ss (ss.length:Int) s.1 s.2.1 s.2.2) F ((0:Int),([]:Bs),([]:Bs))=some (ss.map xi,col ss b):=by
    simpa using hc
   obtain ⟨q,q1,q2,q3⟩:=int152 (F:=F) (xs:=ss.map xi) (ys:=col ss b) hF (by simpa using hl) hv.nd (by simp [col])
   have g:=gapp1 (xs:=acc) (y:=q) (by omega)
   obtain ⟨ps,h1,h2,h3⟩:=ih (b + 1) fuel (acc ++ [q]) (by omega) (by omega) (by simp;omega) (fun p hp=>by
    rcases List.mem_append.1 hp with hp | hp
    ·exact hac p hp
    ·simp only [List.mem_singleton] at hp;subst hp;exact q2)
   refine ⟨ps,?_,?_,h3⟩
   ·rw [← h1]
    refine it_again ?_
    simp only [L107_4,L107_4c,h,decide_true,cond_true,hc,q1,g,Option.bind_some,w64s (show b < 1000000000 by omega)]
   ·have hlg:=lag_get hv (b:=b) (by omega)
    rw [List.getElem?_eq_getElem hbl] at hlg
    have hlg:(lag ss)[b]=cc q:=by rw [q3];simpa using hlg
    rw [h2,List.drop_eq_getElem_cons hbl,hlg,List.map_append,List.append_assoc]
    rfl
 obtain ⟨ps,h1,h2,h3⟩:=key 32 0 F [] (by omega) (by omega) rfl (fun p hp=>by cases hp)
 have h1:iter (fun s:Int×List Bs=>L107_4 F ss 32 s.1 s.2) F ((0:Int),([]:List Bs))=some ps:=h1
 exact ⟨ps,by simp only [T107,T107c,h1,Option.bind_some],by simpa using h2,h3⟩
theorem at108 {F:Nat} {ps:List Bs} (hF:3000 < F) (hl:ps.length≤100) (hp:∀ p ∈ ps,p.length≤100):T108 F ps (0:Int)=some (ps.map cc):=by
 have key:∀ (m i fuel:Nat) (acc:Bs),i + m=ps.length->m < fuel->acc.length=i->iter (fun s:Int×Bs=>L108_2 F 0 ps (ps.length:Int) s.1 s.2) fuel (((i:Nat):Int),acc)=some (acc ++ (ps.drop i).map cc):=by
  intro m
  induction m with
  | zero=>
   intro i fuel acc hi hf ha
   obtain ⟨fuel,rfl⟩:∃ k,fuel=k + 1:=⟨fuel - 1,by omega⟩
   have h:¬ ((i:Nat):Int) < (ps.length:Int):=by omega
   have hd:ps.drop i=[]:=List.drop_eq_nil_of_le (by omega)
   refine it_outX ?_
   simp only [L108_2,L108_2c,h,decide_false,cond_false,hd,List.map_nil,List.append_nil]
  | succ m ih=>
   intro i fuel acc hi hf ha
   obtain ⟨fuel,rfl⟩:∃ k,fuel=k + 1:=⟨fuel - 1,by omega⟩
   have h:((i:Nat):Int) < (ps.length:Int):=by omega
   have hil:i < ps.length:=by omega
   have hd:ps.drop i=ps[i] :: ps.drop (i + 1):=List.drop_eq_getElem_cons hil
   have hpl:=hp _ (List.getElem_mem hil)
   have he:=eval153 (F:=F) (p:=ps[i]) (by omega) (by omega)
   have he:T153 F ps[i] (UInt8.ofInt 0)=some (cc ps[i]):=he
   have g:=gapp1 (xs:=acc) (y:=cc ps[i]) (by omega)
   have:=ih (i + 1) fuel (acc ++ [cc ps[i]]) (by omega) (by omega) (by simp;omega)
   rw [hd,List.map_cons,show acc ++ cc ps[i] :: (ps.drop (i + 1)).map cc=(acc ++ [cc ps[i]]) ++ (ps.drop (i + 1)).map cc from by simp,← this]
   refine it_again ?_
   simp only [L108_2,L108_2c,h,decide_true,cond_true,ixG hil,he,g,Option.bind_some,w64s (show i < 1000000000 by omega)]
 have h:=key ps.length 0 F [] (by omega) (by omega) rfl
 have h:iter (fun s:Int×Bs=>L108_2 F 0 ps (ps.length:Int) s.1 s.2) F ((0:Int),([]:Bs))=some (ps.map cc):=by simpa using h
 simp only [T108,T108c,h,Option.bind_some]
theorem prt2 {F:Nat} {p:Bs} (hF:4000 < F) (hp:p.length=32):∃ a,T106 F p=some (a,0)∧T109 F p=some (a,0):=by
 obtain ⟨a,a1,a2⟩:=derive33 (F:=F) (p:=p) (l:=[112,114,105,110,116]) hF hp (by decide) (by decide)
 have hne:((p.length:Int) != 32)=false:=by rw [hp];rfl
 exact ⟨a,by simp only [T106,T106c,a1,Option.bind_some],by simp only [T109,T109c,hne,cond_false,a2,Option.bind_some]⟩
def outL:Option Bs->Bs
 | some m=>m
 | none=>[]
theorem fit_len {F:Nat} {l:List S3} (hv:ValS l) {print m:Bs} (h:fit F print l=some m):m.length=32:=by
 unfold fit at h
 split at h
 ·rename_i z hz
  cases hb:z.1 == print with
  | true=>rw [hb] at h;simp only [cond_true,Option.some.injEq] at h;rw [← h];exact lag_len hv
  | false=>rw [hb] at h;cases h
 ·cases h
theorem t42 {F:Nat} (hF:4000 < F) {t:Nat} (h1:1≤t) (h2:t≤12) (print:Bs):∀ (g:Nat) (rest ch:List S3),ValS (ch ++ rest)->ch.length + rest.length≤20->rest.length < g ->
  T42g F g ((t:Nat):Int) ch rest print=some (outL (dfs (fit F print) t rest ch))
 | 0,rest,ch,_,_,hg=>by omega
 | g + 1,rest,ch,hv,hl,hg=>by
  have ih:=t42 hF h1 h2 print g
  show T42r F (T42g F g) ((t:Nat):Int) ch rest print=_
  have hvc:ValS ch:=hv.sub (List.sublist_append_left _ _)
  by_cases hc:ch.length=t
  ·have hce:((ch.length:Int) == ((t:Nat):Int))=true:=by simp;omega
   obtain ⟨ps,p1,p2,p3⟩:=thr107 (F:=F) (by omega) hvc (by omega)
   have hpl:ps.length=32:=by
    have:=congrArg List.length p2
    rwa [List.length_map,lag_len hvc] at this
   have h108:=at108 (F:=F) (by omega) (by omega) p3
   rw [p2] at h108
   obtain ⟨a,a1,a2⟩:=prt2 (F:=F) (p:=lag ch) hF (lag_len hvc)
   rw [dfs_full hc]
   cases hp:a == print with
   | true=>simp only [T42r,T42rc,hce,cond_true,p1,h108,a2,Option.bind_some,beq_self_eq_true,hp,fit,a1,outL]
   | false=>simp only [T42r,T42rc,hce,cond_true,p1,h108,a2,Option.bind_some,beq_self_eq_true,hp,fit,a1,outL,cond_false]
  ·have hce:((ch.length:Int) == ((t:Nat):Int))=false:=by
    cases e:((ch.length:Int) == ((t:Nat):Int)) with
    | false=>rfl
    | true=>simp at e;omega
   have key:∀ (m j fuel:Nat),j + m=rest.length->m < fuel->iter (fun s=>L42r_2 F (T42g F g) ((t:Nat):Int) ch rest print (rest.length:Int) s) fuel ((j:Nat):Int)=some (match dfs (fit F print) t (rest.drop j) ch with
     | some x=>.inr x
     | none=>.inl ()):=by
    intro m
    induction m with
    | zero=>
     intro j fuel hj hf
     obtain ⟨fuel,rfl⟩:∃ k,fuel=k + 1:=⟨fuel - 1,by omega⟩
     have h:¬ ((j:Nat):Int) < (rest.length:Int):=by omega
     have hd:rest.drop j=[]:=List.drop_eq_nil_of_le (by omega)
     simp only [iter,L42r_2,L42r_2c,h,decide_false,cond_false,Option.bind_some,hd,dfs,hc,if_false]
    | succ m ihm=>
     intro j fuel hj hf
     obtain ⟨fuel,rfl⟩:∃ k,fuel=k + 1:=⟨fuel - 1,by omega⟩
     have h:((j:Nat):Int) < (rest.length:Int):=by omega
     have hjl:j < rest.length:=by omega
     have hcast:w64 (((j:Nat):Int) + 1)=((j + 1:Nat):Int):=w64s (by omega)
     have g0:=gsl_ok (b:=rest) (n:=j + 1) (k:=rest.length - (j + 1)) (by omega)
     have g0:gsl rest ((j + 1:Nat):Int) (rest.length:Int)=some (rest.drop (j + 1)):=by
      rw [show ((j + 1 + (rest.length - (j + 1)):Nat):Int)=(rest.length:Int) from by omega] at g0
      rw [List.take_of_length_le (by simp)] at g0
      exact g0
     have g1:gapp ([]:List S3) ch=some ch:=by unfold gapp;rw [if_pos (by simp;omega)];simp
     have g2:gapp ch ([(rest[j].1,rest[j].2.1,())]:List S3)=some (ch ++ [rest[j]]):=gapp1 (by omega)
     have hd:rest.drop j=rest[j] :: rest.drop (j + 1):=List.drop_eq_getElem_cons hjl
     have hrec:=ih (rest.drop (j + 1)) (ch ++ [rest[j]]) (hv.sub (by
      rw [List.append_assoc,List.singleton_append,← hd]
      exact (List.Sublist.refl ch).append (List.drop_sublist _ _))) (by simp;omega) (by simp;omega)
     rw [hd]
     simp only [dfs,hc,if_false]
     cases hr:dfs (fit F print) t (rest.drop (j + 1)) (ch ++ [rest[j]]) with
     | some x=>
      rw [hr] at hrec
      have hxl:x ≠ []:=by
       obtain ⟨sel,s1,s2,s3⟩:=dfs_sound hr
       have hvs:ValS (ch ++ [rest[j]] ++ sel):=hv.sub (by
        rw [List.append_assoc,List.singleton_append]
        refine (List.Sublist.refl ch).append ?_
        have:(rest[j] :: sel).Sublist (rest[j] :: rest.drop (j + 1)):=s1.cons_cons _
        rw [← hd] at this
        exact this.trans (List.drop_sublist _ _))
       have:=fit_len hvs s2
       intro e;rw [e] at this;cases this
      have hxb:(x != ([]:Bs))=true:=by simpa using hxl
      refine it_outX ?_
      simp only [L42r_2,L42r_2c,h,decide_true,cond_true,ixG hjl,g0,g1,g2,hcast,hrec,outL,hxb,Option.bind_some]
     | none=>
      rw [hr] at hrec
      have hs:L42r_2 F (T42g F g) ((t:Nat):Int) ch rest print (rest.length:Int) ((j:Nat):Int)=some (.inl ((j + 1:Nat):Int)):=by
       simp only [L42r_2,L42r_2c,h,decide_true,cond_true,ixG hjl,g0,g1,g2,hcast,hrec,outL,bne_self_eq_false,Option.bind_some,cond_false]
      show (L42r_2 F (T42g F g) ((t:Nat):Int) ch rest print (rest.length:Int) ((j:Nat):Int)).bind _=_
      rw [hs]
      exact ihm (j + 1) fuel (by omega) (by omega)
   have hk:=key rest.length 0 F (by omega) (by omega)
   have hk:iter (fun s=>L42r_2 F (T42g F g) ((t:Nat):Int) ch rest print (rest.length:Int) s) F (0:Int)=_:=hk
   rw [List.drop_zero] at hk
   simp only [T42r,T42rc,hce,cond_false,hk,Option.bind_some]
   cases dfs (fit F print) t rest ch<;>rfl
def okm2 (ms:List Int):Nat->Nat->Bool
 | 0,_=>true
 | m + 1,i=>!(decide (ms.getD i 0 < 1)) && (!(decide (13≤ms.getD i 0)) && (!((ms.take i).contains (ms.getD i 0)) && okm2 ms m (i + 1)))
theorem loop41 {F:Nat} {ms:List Int} (hF:ms.length < F) (hn:ms.length < 1000):∀ (m i fuel:Nat),i + m=ms.length->m < fuel->iter (fun s=>L41_3 F ms (1:Int) (12:Int) ms (ms.length:Int) s) fuel ((i:Nat):Int)=some (bif okm2 ms m i then .inl () else .inr false)
 | 0,i,fuel + 1,hi,hf=>by
  have h:¬ ((i:Nat):Int) < (ms.length:Int):=by omega
  simp only [iter,L41_3,L41_3c,h,decide_false,cond_false,Option.bind_some,okm2,cond_true]
 | m + 1,i,fuel + 1,hi,hf=>by
  have h:((i:Nat):Int) < (ms.length:Int):=by omega
  have hil:i < ms.length:=by omega
  have hg:ms.getD i 0=ms[i]:=by simp [hil]
  show (L41_3 F ms (1:Int) (12:Int) ms (ms.length:Int) ((i:Nat):Int)).bind _=_
  simp only [okm2,hg]
  by_cases h1:ms[i] < 1
  ·simp only [L41_3,L41_3c,h,decide_true,cond_true,ixG hil,Option.bind_some,h1,Bool.not_true,Bool.false_and,cond_false]
  ·by_cases h2:12 < ms[i]
   ·have h2':13≤ms[i]:=by omega
    simp only [L41_3,L41_3c,h,decide_true,cond_true,ixG hil,Option.bind_some,h1,h2,h2',decide_false,Bool.not_true,Bool.not_false,Bool.true_and,Bool.false_and,cond_false]
   ·have h2':¬ 13≤ms[i]:=by omega
    have hc:=in29 (F:=F) (l:=ms.take i) (by simp;omega) (by simp;omega) (ms[i])
    cases hcc:(ms.take i).contains (ms[i]) with
    | true=>
     rw [hcc] at hc
     simp only [cond_true] at hc
     simp only [L41_3,L41_3c,h,decide_true,cond_true,ixG hil,Option.bind_some,h1,h2,h2',decide_false,cond_false,gsl0 (show i≤ms.length by omega),hc,elimS,Bool.not_true,Bool.not_false,Bool.true_and,Bool.false_and]
    | false=>
     rw [hcc] at hc
     simp only [cond_false] at hc
     have hs:L41_3 F ms (1:Int) (12:Int) ms (ms.length:Int) ((i:Nat):Int)=some (.inl ((i + 1:Nat):Int)):=by
      simp only [L41_3,L41_3c,h,decide_true,cond_true,ixG hil,Option.bind_some,h1,h2,decide_false,cond_false,gsl0 (show i≤ms.length by omega),hc,elimS,w64s (show i < 1000000000 by omega)]
     rw [hs]
     simp only [Option.bind_some,h1,h2',decide_false,Bool.not_false,Bool.true_and]
     exact loop41 hF hn m (i + 1) fuel (by omega) (by omega)
theorem okm2_spec (ms:List Int):∀ (m i:Nat),i + m=ms.length->okm2 ms m i=true->(ms.take i).Nodup->(∀ x ∈ ms.take i,1≤x∧x≤12)->ms.Nodup∧∀ x ∈ ms,1≤x∧x≤12
 | 0,i,hi,_,hn,hr=>by
  rw [List.take_of_length_le (by omega)] at hn hr
  exact ⟨hn,hr⟩
 | m + 1,i,hi,h,hn,hr=>by
  have hil:i < ms.length:=by omega
  have hg:ms.getD i 0=ms[i]:=by simp [hil]
  simp only [okm2,hg,Bool.and_eq_true,Bool.not_eq_true',decide_eq_false_iff_not] at h
  obtain ⟨h1,h2,h3,h4⟩:=h
  have ht:ms.take (i + 1)=ms.take i ++ [ms[i]]:=by rw [List.take_add_one,List.getElem?_eq_getElem hil];rfl
  have h3:ms[i] ∉ ms.take i:=by
   intro hm
   have:(ms.take i).contains (ms[i])=true:=by simpa using hm
   rw [this] at h3;cases h3
  refine okm2_spec ms m (i + 1) (by omega) h4 ?_ ?_
  ·rw [ht,List.nodup_append]
   refine ⟨hn,by simp,fun a ha b hb=>?_⟩
   simp only [List.mem_singleton] at hb
   subst hb
   intro e;subst e;exact h3 ha
  ·intro x hx
   rw [ht] at hx
   rcases List.mem_append.1 hx with hx | hx
   ·exact hr x hx
   ·simp only [List.mem_singleton] at hx;subst hx;omega
theorem okm2_true {ms:List Int} (hn:ms.Nodup) (hr:∀ x ∈ ms,1≤x∧x≤12):∀ (m i:Nat),i + m=ms.length->okm2 ms m i=true
 | 0,i,_=>rfl
 | m + 1,i,hi=>by
  have hil:i < ms.length:=by omega
  have hg:ms.getD i 0=ms[i]:=by simp [hil]
  have h:=hr _ (List.getElem_mem hil)
  have h1:¬ ms[i] < 1:=by omega
  have h2:¬ 13≤ms[i]:=by omega
  have h3:(ms.take i).contains ms[i]=false:=by
   cases hc:(ms.take i).contains ms[i] with
   | false=>rfl
   | true=>
    have hm:ms[i] ∈ ms.take i:=by simpa using hc
    obtain ⟨k,hk,hk2⟩:=List.mem_iff_getElem.1 hm
    simp only [List.length_take] at hk
    rw [List.getElem_take] at hk2
    have:=(List.getElem_inj hn).1 hk2
    omega
  simp only [okm2,hg,h1,h2,h3,decide_false,Bool.not_false,Bool.true_and,okm2_true hn hr m (i + 1) (by omega)]
theorem t41 {F:Nat} {ms:List Int} (hF:100 < F) (hn:ms.length≤20):T41 F ms (1:Int) (12:Int)=some (okm2 ms ms.length 0):=by
 have h:=loop41 (F:=F) (ms:=ms) (by omega) (by omega) ms.length 0 F (by omega) (by omega)
 have h:iter (fun s=>L41_3 F ms (1:Int) (12:Int) ms (ms.length:Int) s) F (0:Int)=some (bif okm2 ms ms.length 0 then .inl () else .inr false):=h
 simp only [T41,T41c,h,Option.bind_some]
 cases okm2 ms ms.length 0<;>rfl
theorem ref18 {F:Nat} {ss:List S3} (hF:100 < F) (hl:ss.length≤20):iter (fun s:Int×List Int=>L18_2 F ss (ss.length:Int) s.1 s.2) F ((0:Int),([]:List Int))=some (if ∀ s ∈ ss,s.2.1.length=32 then .inl (ss.map (·.1)) else .inr (([]:Bs),(1:Int))):=by
 have key:∀ (m i fuel:Nat),i + m=ss.length->m < fuel->(∀ s ∈ ss.take i,s.2.1.length=32)->iter (fun s:Int×List Int=>L18_2 F ss (ss.length:Int) s.1 s.2) fuel (((i:Nat):Int),(ss.take i).map (·.1))=some (if ∀ s ∈ ss,s.2.1.length=32 then .inl (ss.map (·.1)) else .inr (([]:Bs),(1:Int))):=by
  intro m
  induction m with
  | zero=>
   intro i fuel hi hf hp
   obtain ⟨fuel,rfl⟩:∃ k,fuel=k + 1:=⟨fuel - 1,by omega⟩
   have h:¬ ((i:Nat):Int) < (ss.length:Int):=by omega
   rw [List.take_of_length_le (by omega)] at hp ⊢
   rw [if_pos hp]
   refine it_outX ?_
   simp only [L18_2,L18_2c,h,decide_false,cond_false]
  | succ m ih=>
   intro i fuel hi hf hp
   obtain ⟨fuel,rfl⟩:∃ k,fuel=k + 1:=⟨fuel - 1,by omega⟩
   have h:((i:Nat):Int) < (ss.length:Int):=by omega
   have hil:i < ss.length:=by omega
   have et:ss.take (i + 1)=ss.take i ++ [ss[i]]:=by
    rw [List.take_add_one,List.getElem?_eq_getElem hil];rfl
   by_cases h32:ss[i].2.1.length=32
   ·have hne:((ss[i].2.1.length:Int) != 32)=false:=by rw [h32];rfl
    rw [← ih (i + 1) fuel (by omega) (by omega) (fun s hs=>by
     rw [et] at hs
     rcases List.mem_append.1 hs with hs | hs
     ·exact hp s hs
     ·simp only [List.mem_singleton] at hs;subst hs;exact h32)]
    refine it_again ?_
    rw [et,List.map_append]
    simp only [L18_2,L18_2c,h,decide_true,cond_true,ixG hil,hne,cond_false,gapp1 (xs:=(ss.take i).map (·.1)) (y:=ss[i].1) (by simp;omega),Option.bind_some,w64s (show i < 1000000000 by omega),List.map_cons,List.map_nil]
   ·have hne:((ss[i].2.1.length:Int) != 32)=true:=by simp;omega
    rw [if_neg (fun hall=>h32 (hall _ (List.getElem_mem hil)))]
    refine it_outX ?_
    simp only [L18_2,L18_2c,h,decide_true,cond_true,ixG hil,hne,Option.bind_some]
 exact key ss.length 0 F (by omega) (by omega) (fun s hs=>by simp at hs)
theorem loop17 {F:Nat} {ss:List S3} (hF:100 < F) (hl:ss.length≤20):∃ z,iter (fun s:Int×Vector Bool 13=>L17_2 F ss (ss.length:Int) s.1 s.2) F ((0:Int),Vector.replicate 13 false)=some z∧((z=.inl ()∧ValS ss)∨(z=.inr (([]:Bs),(1:Int))∧¬ ValS ss)):=by
 have key:∀ (m i fuel:Nat) (v:Vector Bool 13),i + m=ss.length->m < fuel->ValS (ss.take i)->(∀ (j:Nat) (h:j < 13),v[j]=true ↔ ((j:Nat):Int) ∈ (ss.take i).map (·.1)) ->
   ∃ z,iter (fun s:Int×Vector Bool 13=>L17_2 F ss (ss.length:Int) s.1 s.2) fuel (((i:Nat):Int),v)=some z∧((z=.inl ()∧ValS ss)∨(z=.inr (([]:Bs),(1:Int))∧¬ ValS ss)):=by
  intro m
  induction m with
  | zero=>
   intro i fuel v hi hf hp hv
   obtain ⟨fuel,rfl⟩:∃ k,fuel=k + 1:=⟨fuel - 1,by omega⟩
   have h:¬ ((i:Nat):Int) < (ss.length:Int):=by omega
   rw [List.take_of_length_le (by omega)] at hp
   refine ⟨.inl (),it_outX ?_,.inl ⟨rfl,hp⟩⟩
   simp only [L17_2,L17_2c,h,decide_false,cond_false]
  | succ m ih=>
   intro i fuel v hi hf hp hv
   obtain ⟨fuel,rfl⟩:∃ k,fuel=k + 1:=⟨fuel - 1,by omega⟩
   have h:((i:Nat):Int) < (ss.length:Int):=by omega
   have hil:i < ss.length:=by omega
   have hmem:=List.getElem_mem hil
   have et:ss.take (i + 1)=ss.take i ++ [ss[i]]:=by
    rw [List.take_add_one,List.getElem?_eq_getElem hil];rfl
   by_cases c1:ss[i].1 < 1
   ·refine ⟨.inr ([],1),it_outX ?_,.inr ⟨rfl,fun hs=>by have:=hs.r _ hmem;omega⟩⟩
    simp only [L17_2,L17_2c,h,decide_true,cond_true,ixG hil,Option.bind_some,c1]
   by_cases c2:(12:Int) < ss[i].1
   ·refine ⟨.inr ([],1),it_outX ?_,.inr ⟨rfl,fun hs=>by have:=hs.r _ hmem;omega⟩⟩
    simp only [L17_2,L17_2c,h,decide_true,decide_false,cond_true,cond_false,ixG hil,Option.bind_some,c1,c2]
   obtain ⟨x,hx⟩:∃ x:Nat,ss[i].1=(x:Int):=⟨(ss[i].1).toNat,by omega⟩
   have hx13:x < 13:=by omega
   rw [hx] at c1 c2
   cases c3:v[x] with
   | true=>
    have hm:=(hv x hx13).1 c3
    refine ⟨.inr ([],1),it_outX ?_,.inr ⟨rfl,fun hs=>?_⟩⟩
    ·simp only [L17_2,L17_2c,h,decide_true,decide_false,cond_true,cond_false,ixG hil,hx,Option.bind_some,c1,c2,inb_nat hx13,vat_nat hx13,c3]
    ·rw [← hx] at hm
     obtain ⟨k,hk,hk2⟩:=List.mem_iff_getElem.1 hm
     simp only [List.length_map,List.length_take] at hk
     rw [List.getElem_map,List.getElem_take] at hk2
     have e:(ss.map (·.1))[k]'(by simp;omega)=(ss.map (·.1))[i]'(by simpa using hil):=by simpa using hk2
     have:=(List.getElem_inj hs.n).1 e
     omega
   | false=>
   by_cases c4:ss[i].2.1.length=32
   ·have hne:((ss[i].2.1.length:Int) != 32)=false:=by rw [c4];rfl
    obtain ⟨z,hz,hz2⟩:=ih (i + 1) fuel (v.setIfInBounds x true) (by omega) (by omega) ⟨fun s hs=>by
      rw [et] at hs
      rcases List.mem_append.1 hs with hs | hs
      ·exact hp.r s hs
      ·simp only [List.mem_singleton] at hs;subst hs;omega,by
      rw [et,List.map_append,List.nodup_append]
      refine ⟨hp.n,by simp,fun a ha b hb=>?_⟩
      simp only [List.map_cons,List.map_nil,List.mem_singleton] at hb
      subst hb
      intro e
      rw [e,hx] at ha
      rw [(hv x hx13).2 ha] at c3;cases c3⟩ (fun j hj=>by
      rw [et,List.map_append,List.mem_append,Vector.getElem_setIfInBounds]
      simp only [List.map_cons,List.map_nil,List.mem_singleton,hx]
      by_cases hxj:x=j
      ·subst hxj;simp
      ·simp only [hxj,if_false]
       rw [hv j hj]
       constructor
       ·exact .inl
       ·rintro (h | h)
        ·exact h
        ·omega)
    refine ⟨z,?_,hz2⟩
    rw [← hz]
    refine it_again ?_
    simp only [L17_2,L17_2c,h,decide_true,decide_false,cond_true,cond_false,ixG hil,hx,Option.bind_some,c1,c2,inb_nat hx13,vat_nat hx13,c3,hne,w64s (show i < 1000000000 by omega)]
   ·have hne:((ss[i].2.1.length:Int) != 32)=true:=by simp;omega
    refine ⟨.inr ([],1),it_outX ?_,.inr ⟨rfl,fun hs=>by have:=hs.r _ hmem;omega⟩⟩
    simp only [L17_2,L17_2c,h,decide_true,decide_false,cond_true,cond_false,ixG hil,hx,Option.bind_some,c1,c2,inb_nat hx13,vat_nat hx13,c3,hne]
 exact key ss.length 0 F _ (by omega) (by omega) ⟨fun s hs=>by simp at hs,by simp⟩ (fun j hj=>by simp)
theorem rec_eq {F:Nat} (hF:5000 < F) {ss:List S3} (hl:ss.length≤20) (k:Int) (print:Bs):∃ z,T17 F k ss print=some z∧T18 F k ss print=some z:=by
 have hr:=ref18 (F:=F) (ss:=ss) (by omega) hl
 have h41:=t41 (F:=F) (ms:=ss.map (·.1)) (by omega) (by simpa using hl)
 obtain ⟨z,hz,hz2⟩:=loop17 (F:=F) (ss:=ss) (by omega) hl
 by_cases a1:k < 1
 ·refine ⟨([],1),by simp only [T17,T17c,a1,decide_true,cond_true],?_⟩
  by_cases h32:∀ s ∈ ss,s.2.1.length=32
  ·rw [if_pos h32] at hr
   simp only [T18,T18c,hr,Option.bind_some,elimS,a1,decide_true,cond_true]
  ·rw [if_neg h32] at hr
   simp only [T18,T18c,hr,Option.bind_some,elimS]
 by_cases a2:(12:Int) < k
 ·refine ⟨([],1),by simp only [T17,T17c,a1,a2,decide_true,decide_false,cond_true,cond_false],?_⟩
  by_cases h32:∀ s ∈ ss,s.2.1.length=32
  ·rw [if_pos h32] at hr
   simp only [T18,T18c,hr,Option.bind_some,elimS,a1,a2,decide_true,decide_false,cond_true,cond_false]
  ·rw [if_neg h32] at hr
   simp only [T18,T18c,hr,Option.bind_some,elimS]
 by_cases hp:print.length=32
 ·have a3:((print.length:Int) != 32)=false:=by rw [hp];rfl
  rcases hz2 with ⟨rfl,hv⟩ | ⟨rfl,hv⟩
  ·have h32:∀ s ∈ ss,s.2.1.length=32:=fun s hs=>(hv.r s hs).2.2
   rw [if_pos h32] at hr
   have hok:okm2 (ss.map (·.1)) (ss.map (·.1)).length 0=true:=okm2_true hv.n (fun x hx=>by
    obtain ⟨s,hs,rfl⟩:=List.mem_map.1 hx
    have:=hv.r s hs
    omega) _ 0 (by omega)
   rw [hok] at h41
   obtain ⟨t,rfl⟩:∃ t:Nat,k=(t:Int):=⟨k.toNat,by omega⟩
   have h17:=t17s (F:=F) (by omega) hv (by omega) (t:=t) (by omega) (by omega) hp
   refine ⟨_,h17,?_⟩
   by_cases hlt:ss.length < t
   ·have a4:(ss.length:Int) < ((t:Nat):Int):=by omega
    rw [if_pos hlt]
    simp only [T18,T18c,hr,Option.bind_some,elimS,a1,a2,a3,h41,a4,decide_true,decide_false,cond_true,cond_false,Bool.not_true]
   ·have a4:¬ (ss.length:Int) < ((t:Nat):Int):=by omega
    rw [if_neg hlt]
    have h42:=t42 (F:=F) (by omega) (t:=t) (by omega) (by omega) print F ss [] (by simpa using hv) (by simpa using hl) (by omega)
    have h42:T42 F ((t:Nat):Int) [] ss print=some (outL (dfs (fit F print) t ss [])):=h42
    cases hd:dfs (fit F print) t ss [] with
    | none=>
     rw [hd] at h42
     have hb:(([]:Bs) == [])=true:=rfl
     simp only [T18,T18c,hr,Option.bind_some,elimS,a1,a2,a3,h41,a4,h42,outL,hb,decide_true,decide_false,cond_true,cond_false,Bool.not_true]
    | some x=>
     rw [hd] at h42
     obtain ⟨sel,s1,s2,s3⟩:=dfs_sound hd
     have hxl:=fit_len (by simpa using hv.sub s1) s2
     have hb:(x == ([]:Bs))=false:=by
      cases x with
      | nil=>cases hxl
      | cons a x=>rfl
     simp only [T18,T18c,hr,Option.bind_some,elimS,a1,a2,a3,h41,a4,h42,outL,hb,decide_true,decide_false,cond_true,cond_false,Bool.not_true]
  ·refine ⟨([],1),by simp only [T17,T17c,a1,a2,a3,decide_false,cond_false,hz,Option.bind_some,elimS],?_⟩
   by_cases h32:∀ s ∈ ss,s.2.1.length=32
   ·rw [if_pos h32] at hr
    have hok:okm2 (ss.map (·.1)) (ss.map (·.1)).length 0=false:=by
     cases hc:okm2 (ss.map (·.1)) (ss.map (·.1)).length 0 with
     | false=>rfl
     | true=>
      obtain ⟨n1,n2⟩:=okm2_spec (ss.map (·.1)) _ 0 (by omega) hc (by simp) (fun x hx=>by simp at hx)
      exact absurd ⟨fun s hs=>by
       have:=n2 s.1 (List.mem_map.2 ⟨s,hs,rfl⟩)
       have:=h32 s hs
       omega,n1⟩ hv
    rw [hok] at h41
    simp only [T18,T18c,hr,Option.bind_some,elimS,a1,a2,a3,h41,decide_true,decide_false,cond_true,cond_false,Bool.not_false]
   ·rw [if_neg h32] at hr
    simp only [T18,T18c,hr,Option.bind_some,elimS]
 ·have a3:((print.length:Int) != 32)=true:=by simp;omega
  refine ⟨([],1),by simp only [T17,T17c,a1,a2,a3,decide_true,decide_false,cond_true,cond_false],?_⟩
  by_cases h32:∀ s ∈ ss,s.2.1.length=32
  ·rw [if_pos h32] at hr
   simp only [T18,T18c,hr,Option.bind_some,elimS,a1,a2,a3,decide_true,decide_false,cond_true,cond_false]
  ·rw [if_neg h32] at hr
   simp only [T18,T18c,hr,Option.bind_some,elimS]
theorem few16 (F:Nat) (ss:List S3) (hl:ss.length≤maxLen):∃ b,T16 (F + 1) ss=some b∧(b=true->ss.length≤8):=by
 have key:∀ (m i fuel:Nat),i + m=ss.length->m < fuel->∃ z,iter (fun s=>L16_2 (F + 1 + ss.length) ss s) fuel ((i:Nat):Int)=some z∧(z=.inl ()∨z=.inr false):=by
  intro m
  induction m with
  | zero=>
   intro i fuel hi hf
   obtain ⟨fuel,rfl⟩:∃ k,fuel=k + 1:=⟨fuel - 1,by omega⟩
   have h:¬ ((i:Nat):Int) < (ss.length:Int):=by omega
   refine ⟨.inl (),it_outX ?_,.inl rfl⟩
   simp only [L16_2,L16_2c,h,decide_false,cond_false]
  | succ m ih=>
   intro i fuel hi hf
   obtain ⟨fuel,rfl⟩:∃ k,fuel=k + 1:=⟨fuel - 1,by omega⟩
   have h:((i:Nat):Int) < (ss.length:Int):=by omega
   have hil:i < ss.length:=by omega
   simp only [maxLen] at hl
   have hw:w64 (((i:Nat):Int) + 1)=((i + 1:Nat):Int):=by rw [w64_in (by omega) (by omega)];omega
   by_cases c:(64:Int) < (ss[i].2.1.length:Int)
   ·refine ⟨.inr false,it_outX ?_,.inr rfl⟩
    simp only [L16_2,L16_2c,h,decide_true,cond_true,ixG hil,Option.bind_some,c]
   ·obtain ⟨z,hz,hz2⟩:=ih (i + 1) fuel (by omega) (by omega)
    refine ⟨z,?_,hz2⟩
    rw [← hz]
    refine it_again ?_
    simp only [L16_2,L16_2c,h,decide_true,cond_true,ixG hil,Option.bind_some,c,decide_false,cond_false,hw]
 obtain ⟨z,hz,hz2⟩:=key ss.length 0 (F + 1 + ss.length) (by omega) (by omega)
 have hz:iter (fun s=>L16_2 (F + 1 + ss.length) ss s) (F + 1 + ss.length) (0:Int)=some z:=hz
 rcases hz2 with rfl | rfl
 ·refine ⟨decide ((ss.length:Int)≤8),by simp only [T16,T16w,T16wc,hz,Option.bind_some,elimS],fun h=>?_⟩
  have:=of_decide_eq_true h
  omega
 ·exact ⟨false,by simp only [T16,T16w,T16wc,hz,Option.bind_some,elimS],fun h=>by cases h⟩
theorem law4 {F:Nat} (hF:5000 < F) (h10:T10 F=some true) (k:Int) (ss:List S3) (print:Bs) (hl:ss.length≤maxLen):T4 F k ss print=some true:=by
 obtain ⟨b,h16,hb⟩:=few16 (F - 1) ss hl
 rw [show F - 1 + 1=F from by omega] at h16
 cases b with
 | false=>simp only [T4,T4c,h10,h16,Option.bind_some,Bool.not_true,Bool.not_false,cond_false,cond_true]
 | true=>
  have hl8:=hb rfl
  by_cases hp:(100:Int) < (print.length:Int)
  ·simp only [T4,T4c,h10,h16,hp,Option.bind_some,Bool.not_true,cond_false,cond_true,decide_true]
  ·obtain ⟨z,h1,h2⟩:=rec_eq hF (ss:=ss) (by omega) k print
   simp only [T4,T4c,h10,h16,hp,h1,h2,Option.bind_some,Bool.not_true,cond_false,cond_true,decide_false,beq_self_eq_true]
theorem plaw4 (k:Int) (ss:Ty.den (.sl (.pr .i (.pr (.sl .u8) .un)))) (print:List UInt8) (_:(-9223372036854775808≤k∧k≤9223372036854775807)) (hw:tyW (.sl (.pr .i (.pr (.sl .u8) .un))) ss) (_:print.length≤maxLen):T4 50000 k ss print=some true:=
 law4 (by omega) awake10 k ss print hw.1
end Go.Proofs.YthikoaamigiceaaGreatDoor
