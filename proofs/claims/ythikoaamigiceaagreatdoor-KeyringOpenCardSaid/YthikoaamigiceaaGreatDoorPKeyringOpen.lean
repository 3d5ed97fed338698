/- The plain law. -/
import Derived.Test.YthikoaamigiceaaGreatDoorOJ
namespace Go.Proofs.YthikoaamigiceaaGreatDoor
open Go.Tw
set_option linter.unusedSimpArgs false
set_option linter.unusedVariables false
theorem awake10:T10 50000=some true:=by kernel_rfl
theorem enc_le (n:Nat):(enc n).length≤10:=(encN_len 9 n).1
theorem encR_bad {x:Ix} (hv:vX x=false):encR x=(1,[]):=by
 unfold encR;rw [hv];rfl
def fcl (need:Int):Nat->Nat->Int
 | 0,k=>1024 * 2 ^ k
 | m + 1,k=>bif decide ((1024 * 2 ^ k:Int) < need) then fcl need m (k + 1) else 1024 * 2 ^ k
theorem dbl1 {k:Nat} (hk:k < 10):w64 ((1024 * 2 ^ k:Int) * 2)=1024 * 2 ^ (k + 1):=by
 have:∀ k:Fin 10,w64 ((1024 * 2 ^ k.val:Int) * 2)=1024 * 2 ^ (k.val + 1):=by decide
 exact this ⟨k,hk⟩
theorem step12 (F:Nat) (p:Int) (hp:w64 (p + 10)=p + 10) (s:Int):L26_2 F p s=bif decide (s < p + 10) then some (.inl (w64 (s * 2))) else some (.inr s):=by
 simp only [L26_2,L26_2c,hp]
theorem loop12 (F:Nat) (p:Int) (hp:w64 (p + 10)=p + 10):∀ (m k fuel:Nat),k + m=10->m < fuel->p + 10≤1024 * 2 ^ 10->iter (fun s=>L26_2 F p s) fuel (1024 * 2 ^ k:Int)=some (fcl (p + 10) m k)
 | 0,k,fuel + 1,hk,hf,hn=>by
  obtain rfl:k=10:=by omega
  have h:¬ ((1024 * 2 ^ 10:Int) < p + 10):=by omega
  show (L26_2 F p _).bind _=_
  rw [step12 F p hp]
  simp only [h,decide_false,cond_false,Option.bind_some,fcl]
 | m + 1,k,fuel + 1,hk,hf,hn=>by
  show (L26_2 F p _).bind _=_
  rw [step12 F p hp]
  by_cases h:(1024 * 2 ^ k:Int) < p + 10
  ·simp only [h,decide_true,cond_true,Option.bind_some,fcl,dbl1 (k:=k) (by omega)]
   exact loop12 F p hp m (k + 1) fuel (by omega) (by omega) hn
  ·simp only [h,decide_false,cond_false,Option.bind_some,fcl]
theorem loop_eq (F:Nat) (p:Int):(fun s=>L99_2 F p s)=fun s=>L26_2 F p s:=by
 funext s
 simp only [L99_2,L99_2c,L26_2,L26_2c,Int.mul_comm]
theorem class_eq {F:Nat} (hF:50 < F) (n:Int):∃ r,T26 F n=some r∧T99 F n=some r∧(n < 0->r=(0,1))∧(1048560 < n->r=(0,2))∧(0≤n->n≤1048560->r=(fcl (n + 10) 10 0,0)):=by
 simp only [T26,T26c,T99,T99c,loop_eq]
 by_cases h1:n < 0
 ·exact ⟨(0,1),by simp [h1],by simp [h1],fun _=>rfl,fun h=>by omega,fun h=>by omega⟩
 ·by_cases h2:1048560 < n
  ·exact ⟨(0,2),by simp [h1,h2],by simp [h1,h2],fun h=>by omega,fun _=>rfl,fun _ h=>by omega⟩
  ·have hl:=loop12 F n (w64_in (by omega) (by omega)) 10 0 F (by omega) (by omega) (by omega)
   have hl:iter (fun s=>L26_2 F n s) F (1024:Int)=some (fcl (n + 10) 10 0):=hl
   refine ⟨(fcl (n + 10) 10 0,0),?_,?_,fun h=>by omega,fun h=>by omega,fun _ _=>rfl⟩<;>simp [h1,h2,hl]
theorem gstr_ok {l:List UInt8} (h:l.length≤1099511627776):gstr l=some l:=by unfold gstr;rw [if_pos h]
theorem gcat_ok {p q:List UInt8} (h:p.length + q.length≤1099511627776):gcat p q=some (p ++ q):=by unfold gcat;rw [if_pos h]
theorem mac3 {F:Nat} {k x y z:List UInt8} (hF:3000 + x.length + y.length + z.length < F) (hk:k.length≤64) (hb:x.length + y.length + z.length < 1000000) :
  ∃ z1 z2 z3 z4 t,T140 F k=some z1∧T141 F x z1.1 z1.2.1 z1.2.2.1=some z2∧T141 F y z2.1 z2.2.1 z2.2.2=some z3∧T141 F z z3.1 z3.2.1 z3.2.2=some z4∧T142 F z4.1 z4.2.1 z4.2.2 z1.2.2.2=some t∧T35 F k (x ++ y ++ z)=some t∧t.length=32:=by
 have g0:gslb 64 (0:Int) ((64:Nat):Int)=some (0,64):=gslb_nat (a:=0) (by omega) (by omega)
 obtain ⟨o,i,h,b,n,o1,i1,s1,s2,s3⟩:=start65 (F:=F) (by omega) hk
 have xl:=xk_len hk 54
 have xl2:=xk_len hk 92
 obtain ⟨h2,b2,n2,u1,u2⟩:=t82 (F:=F) (x:=x) (by omega) (by omega) s2
 obtain ⟨h3,b3,n3,u3,u4⟩:=t82 (F:=F) (x:=y) (by simp only [List.length_append];omega) (by simp only [List.length_append];omega) u2
 obtain ⟨h4,b4,n4,u5,u6⟩:=t82 (F:=F) (x:=z) (by simp only [List.length_append];omega) (by simp only [List.length_append];omega) u4
 obtain ⟨inner,v1,v2,v3⟩:=sum_eq (F:=F) (by simp only [List.length_append];omega) (by simp only [List.length_append];omega) u6
 obtain ⟨t,w1,w2,w3⟩:=t79 (F:=F) (ls:=[xk k 92,inner]) (by simp only [List.flatten_cons,List.flatten_nil,List.length_append,List.length_cons,List.length_nil];omega) (by simp only [List.flatten_cons,List.flatten_nil,List.length_append,List.length_nil];omega) (by simp)
 have hfl:[xk k 92,inner].flatten=xk k 92 ++ inner:=by simp
 rw [hfl] at w2
 have h1:¬ ((64:Int) < (k.length:Int)):=by omega
 have h65:T140 F k=some (h,b,n,o):=by
  simp only [T140,T140c,h1,decide_false,cond_false,Option.bind_some,g0,v0_0,v0_1,T175,T175c,o1,i1,s1]
 have e:(o.toList.drop 0).take (64 - 0)=xk k 92:=by rw [s3,List.drop_zero,List.take_of_length_le (by omega)]
 refine ⟨(h,b,n,o),(h2,b2,n2),(h3,b3,n3),(h4,b4,n4),t,h65,?_,?_,?_,?_,?_,w3⟩
 ·simp only [T141,T141c,x82_eq,u1,Option.bind_some]
 ·simp only [T141,T141c,x82_eq,u3,Option.bind_some]
 ·simp only [T141,T141c,x82_eq,u5,Option.bind_some]
 ·simp only [T142,T142c,g0,Option.bind_some,v1,e,w1]
 ·have gi:gstr inner=some inner:=gstr_ok (by omega)
  have q1:T102 F k (UInt8.ofNat 54)=some (xk k 54):=t69 (by omega) hk _
  have q2:T102 F k (UInt8.ofNat 92)=some (xk k 92):=t69 (by omega) hk _
  have v2':T101 F (xk k 54 ++ (x ++ y ++ z))=some inner:=by
   have e:xk k 54 ++ (x ++ y ++ z)=xk k 54 ++ x ++ y ++ z:=by simp
   rw [e];exact v2
  simp only [T35,T35c,h1,decide_false,cond_false,Option.bind_some,q1,q2,gapp_okS (show (xk k 54).length + (x ++ y ++ z).length≤1099511627776 by simp only [List.length_append];omega),v2',gi,gapp_okS (show (xk k 92).length + inner.length≤1099511627776 by omega),w2]
theorem expand_eq {F:Nat} {k l:List UInt8} (hF:4000 < F) (hk:k.length=32) (hl:l.length≤64):∃ t,T93 F k l (32:Int)=some (t,0)∧t.length=32:=by
 obtain ⟨z1,z2,z3,z4,t,h1,h2,h3,h4,h5,h6,h7⟩:=mac3 (F:=F) (k:=k) (x:=[]) (y:=l) (z:=[(1:UInt8)]) (by simp;omega) (by omega) (by simp;omega)
 obtain ⟨m,rfl⟩:∃ m,F=m + 2:=⟨F - 2,by omega⟩
 have w2:w64 (1 + 1)=2:=w64_in (by omega) (by omega)
 have o1:UInt8.ofInt 1=1:=rfl
 have ht:¬ ((t.length:Int) < 32):=by omega
 have g1:gapp ([]:List UInt8) t=some t:=by rw [gapp_okS (by simp;omega)];rfl
 have g2:gcat ([]:List UInt8) t=some t:=by rw [gcat_ok (by simp;omega)];rfl
 have g3:gcat ([]:List UInt8) l=some l:=by rw [gcat_ok (by simp;omega)];rfl
 refine ⟨t,?_,h7⟩
 ·have c1:¬ ((k.length:Int) < 32):=by omega
  have c2:¬ ((32:Int) < 0):=by decide
  have c3:¬ ((8160:Int) < 32):=by decide
  have c4:((([]:List UInt8).length:Int) < 32):=by decide
  have hs:gslb t.length (0:Int) 32=some (0,32):=gslb_nat (a:=0) (b:=32) (by omega) (by omega)
  have htt:(t.drop 0).take (32 - 0)=t:=by rw [List.drop_zero,List.take_of_length_le (by omega)]
  simp only [T93,T93c,c1,c2,c3,decide_false,cond_false,iter,L93_2,L93_2c,c4,decide_true,cond_true,h1,gstr_ok (show ([]:List UInt8).length≤1099511627776 by simp),gstr_ok (show l.length≤1099511627776 by omega),Option.bind_some,h2,h3,o1,h4,h5,g1,ht,hs,htt]
theorem derive_eq {F:Nat} {p l:List UInt8} (hF:4000 < F) (hp:p.length=32) (hl:l.length≤64) (h0:l ≠ []):∃ t,T28 F p l=some (t,0)∧t.length=32:=by
 obtain ⟨k,k1,k2,k3⟩:=tag_eq (F:=F) (k:=[]) (d:=p) (by simp;omega) (by simp) (by omega)
 obtain ⟨t,t1,t3⟩:=expand_eq (F:=F) (k:=k) (l:=l) hF k3 hl
 have c1:((p.length:Int) != 32)=false:=by simp [hp]
 have c2:(l == [])=false:=by simpa using h0
 have c3:¬ ((64:Int) < (l.length:Int)):=by omega
 have gp:gstr p=some p:=gstr_ok (by omega)
 refine ⟨t,?_,t3⟩
 ·simp only [T28,T28c,T94,T94c,c1,c2,c3,decide_false,cond_false,gp,Option.bind_some,k1,t1]
theorem keys_eq {F:Nat} {p:List UInt8} (hF:4000 < F) (hp:p.length=32):∃ a b c d e,T12 F p=some (a,b,c,d,e,0)∧a.length=32∧b.length=32∧c.length=32∧d.length=32∧e.length=32:=by
 have i0:inb 5 (0:Int)=some 0:=rfl
 have i1:inb 5 (w64 ((0:Int) + 1))=some 1:=rfl
 have i2:inb 5 (w64 ((w64 ((0:Int) + 1)) + 1))=some 2:=rfl
 have i3:inb 5 (w64 (w64 ((w64 ((0:Int) + 1)) + 1) + 1))=some 3:=rfl
 have i4:inb 5 (w64 (w64 (w64 ((w64 ((0:Int) + 1)) + 1) + 1) + 1))=some 4:=rfl
 have v0:vat (#v[([110,97,109,101]:List UInt8),([115,116,114,101,97,109]:List UInt8),([99,104,101,99,107]:List UInt8),([105,110,100,101,120]:List UInt8),([116,111,107,101,110]:List UInt8)]:Vector (List UInt8) 5) 0=some [110,97,109,101]:=rfl
 have v1:vat (#v[([110,97,109,101]:List UInt8),([115,116,114,101,97,109]:List UInt8),([99,104,101,99,107]:List UInt8),([105,110,100,101,120]:List UInt8),([116,111,107,101,110]:List UInt8)]:Vector (List UInt8) 5) 1=some [115,116,114,101,97,109]:=rfl
 have v2:vat (#v[([110,97,109,101]:List UInt8),([115,116,114,101,97,109]:List UInt8),([99,104,101,99,107]:List UInt8),([105,110,100,101,120]:List UInt8),([116,111,107,101,110]:List UInt8)]:Vector (List UInt8) 5) 2=some [99,104,101,99,107]:=rfl
 have v3:vat (#v[([110,97,109,101]:List UInt8),([115,116,114,101,97,109]:List UInt8),([99,104,101,99,107]:List UInt8),([105,110,100,101,120]:List UInt8),([116,111,107,101,110]:List UInt8)]:Vector (List UInt8) 5) 3=some [105,110,100,101,120]:=rfl
 have v4:vat (#v[([110,97,109,101]:List UInt8),([115,116,114,101,97,109]:List UInt8),([99,104,101,99,107]:List UInt8),([105,110,100,101,120]:List UInt8),([116,111,107,101,110]:List UInt8)]:Vector (List UInt8) 5) 4=some [116,111,107,101,110]:=rfl
 obtain ⟨a,a1,a2⟩:=derive_eq (F:=F) (p:=p) (l:=[110,97,109,101]) hF hp (by decide) (by decide)
 obtain ⟨b,b1,b2⟩:=derive_eq (F:=F) (p:=p) (l:=[115,116,114,101,97,109]) hF hp (by decide) (by decide)
 obtain ⟨c,c1,c2⟩:=derive_eq (F:=F) (p:=p) (l:=[99,104,101,99,107]) hF hp (by decide) (by decide)
 obtain ⟨d,d1,d2⟩:=derive_eq (F:=F) (p:=p) (l:=[105,110,100,101,120]) hF hp (by decide) (by decide)
 obtain ⟨e,e1,e2⟩:=derive_eq (F:=F) (p:=p) (l:=[116,111,107,101,110]) hF hp (by decide) (by decide)
 have n0:((0:Int) != 0)=false:=rfl
 exact ⟨a,b,c,d,e,by simp only [T12,T12c,i0,i1,i2,i3,i4,v0,v1,v2,v3,v4,Option.bind_some,a1,b1,c1,d1,e1,n0,cond_false],a2,b2,c2,d2,e2⟩
end Go.Proofs.YthikoaamigiceaaGreatDoor
namespace Go.Proofs.YthikoaamigiceaaGreatDoor
open Go.Tw
set_option linter.unusedSimpArgs false
set_option linter.unusedVariables false
def tg (F:Nat) (k d:Bs):Bs:=(T96 F k d).getD []
theorem tg_ok {F:Nat} {k d:Bs} (hF:2000 + k.length + d.length < F) (hk:k.length < 10000000) (hd:d.length < 10000000):T96 F k d=some (tg F k d)∧T35 F k d=some (tg F k d)∧(tg F k d).length=32:=by
 obtain ⟨t,h1,h2,h3⟩:=tag_eq hF hk hd
 have:tg F k d=t:=by unfold tg;rw [h1];rfl
 rw [this];exact ⟨h1,h2,h3⟩
def st (F:Nat) (k n:Bs) (N:Nat):Bs:=((T97 F k n 0 (N:Int)).getD (0,[])).2
theorem st_ok {F:Nat} {k n:Bs} {N:Nat} (hF:200 + N < F) (hN:N≤1048576) (hk:k.length=32) (hn:n.length=12):T97 F k n 0 (N:Int)=some (0,st F k n N)∧T36 F k n 0 (N:Int)=some (0,st F k n N)∧(st F k n N).length=N:=by
 obtain ⟨s,h1,h2,h3⟩:=stream_eq hF hN hk hn
 have:st F k n N=s:=by unfold st;rw [h1];rfl
 rw [this];exact ⟨h1,h2,h3⟩
theorem encR_ok9 {x:Ix} (hv:vX x=true) (hl:(eX x).length≤9000):encR x=(0,eX x):=by
 unfold encR;rw [if_pos hv,if_neg (by omega)]
theorem fcl_spec:∀ (m k:Nat) (p:Int),p≤1024 * 2 ^ (k + m)->p≤fcl p m k∧fcl p m k≤1024 * 2 ^ (k + m)∧(1024 * 2 ^ k:Int)≤fcl p m k
 | 0,k,p,h=>⟨h,Int.le_refl _,Int.le_refl _⟩
 | m + 1,k,p,h=>by
  have e:k + (m + 1)=k + 1 + m:=by omega
  have hpow:(2:Int) ^ (k + 1)=2 * 2 ^ k:=by rw [Int.pow_succ];omega
  have hp0:(0:Int) < 2 ^ k:=Int.pow_pos (by omega)
  simp only [fcl]
  by_cases hk:(1024 * 2 ^ k:Int) < p
  ·simp only [hk,decide_true,cond_true]
   rw [e] at h ⊢
   obtain ⟨h1,h2,h3⟩:=fcl_spec m (k + 1) p h
   exact ⟨h1,h2,by omega⟩
  ·simp only [hk,decide_false,cond_false]
   refine ⟨by omega,?_,Int.le_refl _⟩
   have:(2:Int) ^ k≤2 ^ (k + (m + 1)):=by
    rw [Int.pow_add]
    have:(0:Int) < 2 ^ (m + 1):=Int.pow_pos (by omega)
    have h1:(2:Int) ^ k * 1≤2 ^ k * 2 ^ (m + 1):=Int.mul_le_mul_of_nonneg_left (by omega) (by omega)
    omega
   omega
def clsN (n:Nat):Nat:=(fcl ((n:Int) + 10) 10 0).toNat
theorem cls_spec {n:Nat} (h:n≤1048560):fcl ((n:Int) + 10) 10 0=(clsN n:Int)∧n + 10≤clsN n∧clsN n≤1048576∧1024≤clsN n:=by
 obtain ⟨h1,h2,h3⟩:=fcl_spec 10 0 ((n:Int) + 10) (by omega)
 unfold clsN
 omega
theorem cls_small {n:Nat} (h:n≤9000):clsN n≤16384:=by
 have:fcl ((n:Int) + 10) 10 0≤16384:=by
  simp only [fcl]
  by_cases h1:(1024 * 2 ^ 0:Int) < (n:Int) + 10
  ·simp only [h1,decide_true,cond_true]
   by_cases h2:(1024 * 2 ^ (0 + 1):Int) < (n:Int) + 10
   ·simp only [h2,decide_true,cond_true]
    by_cases h3:(1024 * 2 ^ (0 + 1 + 1):Int) < (n:Int) + 10
    ·simp only [h3,decide_true,cond_true]
     by_cases h4:(1024 * 2 ^ (0 + 1 + 1 + 1):Int) < (n:Int) + 10
     ·have h5:¬ (1024 * 2 ^ (0 + 1 + 1 + 1 + 1):Int) < (n:Int) + 10:=by omega
      simp only [h4,h5,decide_true,decide_false,cond_true,cond_false];omega
     ·simp only [h4,decide_false,cond_false];omega
    ·simp only [h3,decide_false,cond_false];omega
   ·simp only [h2,decide_false,cond_false];omega
  ·simp only [h1,decide_false,cond_false];omega
 unfold clsN;omega
theorem t26c {F:Nat} (hF:50 < F) {n:Nat} (h:n≤1048560):T26 F (n:Int)=some ((clsN n:Int),0)∧T99 F (n:Int)=some ((clsN n:Int),0):=by
 obtain ⟨r,h1,h2,_,_,h3⟩:=class_eq hF (n:Int)
 rw [h3 (by omega) (by omega),(cls_spec h).1] at h1 h2
 exact ⟨h1,h2⟩
def padS (b:Bs):Bs:=(enc b.length ++ b) ++ List.replicate (clsN b.length - (enc b.length ++ b).length) 0
theorem padS_len {b:Bs} (h:b.length≤1048560):(padS b).length=clsN b.length:=by
 have:=(cls_spec h).2.1
 have:=enc_le b.length
 simp only [padS,List.length_append,List.length_replicate];omega
theorem ofI {n:Nat} (h:n < 2 ^ 63):(UInt64.ofInt (n:Int)).toNat=n:=ofInt_nat' (by omega)
theorem t30 {F:Nat} (hF:5000 < F) {b:Bs} (h:b.length≤1048560):T30 F b=some (0,padS b):=by
 obtain ⟨c1,c2,c3,c4⟩:=cls_spec h
 have hc:=(t26c (F:=F) (by omega) h).1
 have he:=enc_le b.length
 have hm:gmake (0:UInt8) ((clsN b.length:Nat):Int) ((clsN b.length:Nat):Int)=some (List.replicate (clsN b.length) 0):=by
  unfold gmake;rw [if_pos (by omega)];simp
 have h95:=t44 (F:=F) (by omega) (UInt64.ofInt (b.length:Int))
 rw [ofI (by omega)] at h95
 have hs:splice (List.replicate (clsN b.length) (0:UInt8)) 0 (enc b.length) (enc b.length).length=enc b.length ++ List.replicate (clsN b.length - (enc b.length).length) 0:=by
  simp [splice]
 have hl:(enc b.length ++ List.replicate (clsN b.length - (enc b.length).length) (0:UInt8)).length=clsN b.length:=by simp;omega
 have hg:gslb (clsN b.length) ((enc b.length).length:Int) ((clsN b.length:Nat):Int)=some ((enc b.length).length,clsN b.length):=gslb_nat (by omega) (by omega)
 have hmin:(Nat.min (enc b.length).length (List.replicate (clsN b.length) (0:UInt8)).length)=(enc b.length).length:=by
  rw [List.length_replicate];exact Nat.min_eq_left (by omega)
 have hs2:splice (enc b.length ++ List.replicate (clsN b.length - (enc b.length).length) (0:UInt8)) (enc b.length).length b (Nat.min b.length (clsN b.length - (enc b.length).length))=padS b:=by
  rw [show Nat.min b.length (clsN b.length - (enc b.length).length)=b.length from Nat.min_eq_left (by omega)]
  simp only [splice,padS,List.take_left,List.take_length,List.length_append]
  rw [List.drop_append,List.drop_eq_nil_of_le (by omega),List.nil_append,List.drop_replicate]
  congr 2
  omega
 simp only [T30,T30c,hc,Option.bind_some,bne_self_eq_false,cond_false,hm,h95,hmin,hs,hl,hg,hs2]
theorem t34 {F:Nat} (hF:5000 < F) {b:Bs} (h:b.length≤1048560):T34 F b=some (padS b):=by
 obtain ⟨c1,c2,c3,c4⟩:=cls_spec h
 have hc:=(t26c (F:=F) (by omega) h).2
 have he:=enc_le b.length
 have h100:=t100 (F:=F) hF (UInt64.ofInt (b.length:Int))
 rw [ofI (by omega)] at h100
 have g1:=gapp_ok (xs:=enc b.length) (ys:=b) (by omega)
 have hw:w64 ((clsN b.length:Int) - ((enc b.length ++ b).length:Int))=((clsN b.length - (enc b.length ++ b).length:Nat):Int):=by
  rw [List.length_append,w64_in (by omega) (by omega)];omega
 have g2:gnn (((clsN b.length - (enc b.length ++ b).length:Nat):Int))=some (clsN b.length - (enc b.length ++ b).length):=by
  unfold gnn;rw [if_pos (by omega)];simp
 have g3:=gapp_ok (xs:=enc b.length ++ b) (ys:=List.replicate (clsN b.length - (enc b.length ++ b).length) (0:UInt8)) (by simp;omega)
 simp only [T34,T34c,hc,h100,Option.bind_some,g1,hw,g2,g3]
 rfl
def nonce (F:Nat) (k p:Bs):Bs:=(tg F k p).take 12
def sealS (F:Nat) (k b:Bs):Bs:=nonce F k (padS b) ++ xorL (padS b) (st F k (nonce F k (padS b)) (padS b).length)
theorem t29 {F:Nat} (hF:50 < F) (a b c d e:Bs):T29 F a b c d e=some ([a,b,c,d,e].all fun x=>decide (x.length=32)):=by
 have:=all_loop (f:=fun s=>L29_2 F (([a,b,c,d,e]:List Bs).length:Int) [a,b,c,d,e] s) (l:=[a,b,c,d,e]) (p:=fun x=>decide (x.length=32)) (g:=fun _=>false) (by simp)
  (fun i h=>by
   have h1:((i:Nat):Int) < (([a,b,c,d,e]:List Bs).length:Int):=by omega
   have hi:inb ([a,b,c,d,e]:List Bs).length ((i:Nat):Int)=some i:=inbn h
   have hg:([a,b,c,d,e]:List Bs)[i]? = some [a,b,c,d,e][i]:=List.getElem?_eq_getElem h
   have hw:w64 (((i:Nat):Int) + 1)=((i + 1:Nat):Int):=w64s (by simp at h;omega)
   simp only [L29_2,L29_2c,h1,decide_true,cond_true,hi,hg,Option.bind_some,lne32,hw]
   cases decide (([a,b,c,d,e]:List Bs)[i].length=32)<;>rfl)
  (by
   have h1:¬ ((([a,b,c,d,e]:List Bs).length:Int) < (([a,b,c,d,e]:List Bs).length:Int)):=by omega
   simp only [L29_2,L29_2c,h1,decide_false,cond_false]) (fuel:=F) (by simp;omega)
 rcases this with ⟨h1,h2⟩ | ⟨h1,i,h2⟩
 ·rw [h1];simp only [T29,T29c,h2,Option.bind_some,elimS]
 ·rw [h1];simp only [T29,T29c,h2,Option.bind_some,elimS]
structure Keys (a b c d e:Bs):Prop where
 a:a.length=32
 b:b.length=32
 c:c.length=32
 d:d.length=32
 e:e.length=32
theorem Keys.t29 {F:Nat} (hF:50 < F) {a b c d e:Bs} (h:Keys a b c d e):T29 F a b c d e=some true:=by
 rw [YthikoaamigiceaaGreatDoor.t29 hF]
 simp [h.a,h.b,h.c,h.d,h.e]
theorem Keys.t33 {F:Nat} {a b c d e:Bs} (h:Keys a b c d e):T33 F a b c d e=some true:=by
 simp only [T33,T33c,h.a,h.b,h.c,h.d,h.e];rfl
theorem t31n {F:Nat} {k p:Bs} (hF:40000 < F) (hk:k.length=32) (hp:p.length≤30000):T31 F k p=some (nonce F k p)∧(nonce F k p).length=12:=by
 obtain ⟨h1,_,h3⟩:=tg_ok (F:=F) (k:=k) (d:=p) (by omega) (by omega) (by omega)
 have g:=gsl_ok (b:=tg F k p) (n:=0) (k:=12) (by omega)
 have g:gsl (tg F k p) (0:Int) (12:Int)=some (nonce F k p):=by simpa [nonce] using g
 exact ⟨by simp only [T31,T31c,h1,Option.bind_some,g],by simp [nonce,h3]⟩
theorem t32c {F:Nat} {k n p:Bs} (hF:40000 < F) (hk:k.length=32) (hn:n.length=12) (hp:p.length≤30000):T32 F k n p=some (0,xorL p (st F k n p.length)):=by
 obtain ⟨h1,_,h3⟩:=st_ok (F:=F) (k:=k) (n:=n) (N:=p.length) (by omega) (by omega) hk hn
 have hx:=t57x (F:=F) (a:=p) (b:=st F k n p.length) (by omega) (by omega) (by omega)
 simp only [T32,T32c,h1,Option.bind_some,bne_self_eq_false,cond_false,hx]
theorem t37x {F:Nat} {a b:Bs} (hF:a.length < F) (hn:a.length < 1000000) (h:a.length=b.length):T37 F a b=some (xorL a b):=by
 have hne:((a.length:Int) != (b.length:Int))=false:=by simp [h]
 have key:∀ (m i fuel:Nat),i + m=a.length->m < fuel->iter (fun s:Int×Bs=>L104_2 F a b (a.length:Int) s.1 s.2) fuel (((i:Nat):Int),(xorL a b).take i)=some (xorL a b):=by
  intro m
  induction m with
  | zero=>
   intro i fuel hi hf
   obtain ⟨fuel,rfl⟩:∃ k,fuel=k + 1:=⟨fuel - 1,by omega⟩
   have h1:¬ ((i:Nat):Int) < (a.length:Int):=by omega
   have:(xorL a b).take i=xorL a b:=List.take_of_length_le (by rw [xorL_len h];omega)
   rw [this]
   exact it_out (by simp only [L104_2,L104_2c,h1,decide_false,cond_false])
  | succ m ih=>
   intro i fuel hi hf
   obtain ⟨fuel,rfl⟩:∃ k,fuel=k + 1:=⟨fuel - 1,by omega⟩
   have h1:((i:Nat):Int) < (a.length:Int):=by omega
   have hia:i < a.length:=by omega
   have hib:i < b.length:=by omega
   have hg:=gapp_ok (xs:=(xorL a b).take i) (ys:=[a[i] ^^^ b[i]]) (by simp;omega)
   have ht:(xorL a b).take i ++ [a[i] ^^^ b[i]]=(xorL a b).take (i + 1):=by
    rw [List.take_add_one,xorL_get h hia];rfl
   refine (it_again ?_).trans (ih (i + 1) fuel (by omega) (by omega))
   simp only [L104_2,L104_2c,h1,decide_true,cond_true,ixG hia,ixG hib,Option.bind_some,hg,ht,w64s (show i < 1000000000 by omega)]
 have hk:=key a.length 0 F (by omega) (by omega)
 have hk:iter (fun s:Int×Bs=>L104_2 F a b (a.length:Int) s.1 s.2) F ((0:Int),([]:Bs))=some (xorL a b):=hk
 simp only [T37,T37c,T104,T104c,hne,cond_false,hk,Option.bind_some]
theorem gstr_le {l:Bs} (h:l.length≤1099511627776):gstr l=some l:=by unfold gstr;rw [if_pos h]
section
variable {F:Nat} {a b c d e:Bs}
theorem t15 (hF:40000 < F) (hk:Keys a b c d e) {x:Ix} (hx:vX x=true->(eX x).length≤9000):T15 F a b c d e x.1 x.2.1 x.2.2.1 x.2.2.2.1 x.2.2.2.2.1 x.2.2.2.2.2=some (bif vX x then (0,sealS F d (eX x)) else (1,[])):=by
 have h20:=t20 (F:=F) (by omega) x (fun hv=>by have:=hx hv;omega)
 cases hv:vX x with
 | false=>
  rw [encR_bad hv] at h20
  simp only [T15,T15c,hk.t33 (F:=F),h20,Option.bind_some,Bool.not_true,cond_false]
  rfl
 | true=>
  have hl:=hx hv
  rw [encR_ok9 hv hl] at h20
  have hp:=padS_len (b:=eX x) (by omega)
  have hc:=cls_small hl
  obtain ⟨_,n1,n3⟩:=tg_ok (F:=F) (k:=d) (d:=padS (eX x)) (by have:=hk.d;omega) (by have:=hk.d;omega) (by omega)
  have n2:=(t31n (F:=F) (k:=d) (p:=padS (eX x)) hF hk.d (by omega)).2
  have g:=gsl_ok (b:=tg F d (padS (eX x))) (n:=0) (k:=12) (by omega)
  have g:gsl (tg F d (padS (eX x))) (0:Int) (12:Int)=some (nonce F d (padS (eX x))):=by simpa [nonce] using g
  obtain ⟨_,s2,hs⟩:=st_ok (F:=F) (k:=d) (n:=nonce F d (padS (eX x))) (N:=(padS (eX x)).length) (by omega) (by omega) hk.d n2
  have g1:=gstr_le (l:=nonce F d (padS (eX x))) (by omega)
  have hx:=t37x (F:=F) (a:=padS (eX x)) (b:=st F d (nonce F d (padS (eX x))) (padS (eX x)).length) (by omega) (by omega) (by omega)
  have g2:=gapp_ok (xs:=nonce F d (padS (eX x))) (ys:=xorL (padS (eX x)) (st F d (nonce F d (padS (eX x))) (padS (eX x)).length)) (by rw [xorL_len (by omega)];omega)
  simp only [T15,T15c,hk.t33 (F:=F),h20,Option.bind_some,Bool.not_true,cond_false,bne_self_eq_false,t34 (F:=F) (b:=eX x) (by omega) (by omega),n1,g,s2,g1,hx,g2,cond_true]
  rfl
end
end Go.Proofs.YthikoaamigiceaaGreatDoor
namespace Go.Proofs.YthikoaamigiceaaGreatDoor
open Go.Tw
set_option linter.unusedSimpArgs false
set_option linter.unusedVariables false
def bad9:Out:=(0,0,9,[],[],[],[])
theorem same89 {F:Nat} {a b:Bs} (hF:a.length < F) (ha:a.length < 1000000):T89 F a b=some (decide (a=b)):=by
 by_cases h:a.length=b.length
 ·have hne:((a.length:Int) != (b.length:Int))=false:=by simp [h]
  have:=all_loop (f:=fun s=>L89_2 F a b (a.length:Int) s) (l:=List.zip a b) (p:=fun x=>x.1 == x.2) (g:=fun _=>false) (by simp;omega)
   (fun i hi=>by
    have hia:i < a.length:=by simp at hi;omega
    have hib:i < b.length:=by omega
    have h1:((i:Nat):Int) < (a.length:Int):=by omega
    have hz:(List.zip a b)[i]=(a[i],b[i]):=by simp
    simp only [L89_2,L89_2c,h1,decide_true,cond_true,ixG hia,ixG hib,Option.bind_some,hz,w64s (show i < 1000000000 by omega),bne]
    cases a[i] == b[i]<;>rfl)
   (by
    have hl:(List.zip a b).length=a.length:=by simp [h]
    have h1:¬ ((a.length:Int) < (a.length:Int)):=by omega
    rw [hl]
    simp only [L89_2,L89_2c,h1,decide_false,cond_false]) (fuel:=F) (by simp;omega)
  have eqv:(List.zip a b).all (fun x=>x.1 == x.2)=true ↔ a=b:=by
   constructor
   ·intro hh
    apply List.ext_getElem h
    intro i h1 h2
    have:=List.all_eq_true.1 hh (a[i],b[i]) (by
     have:(List.zip a b)[i]'(by simp;omega)=(a[i],b[i]):=by simp
     rw [← this];exact List.getElem_mem _)
    simpa using this
   ·rintro rfl
    rw [List.all_eq_true]
    intro x hx
    obtain ⟨i,hi,rfl⟩:=List.mem_iff_getElem.1 hx
    simp
  rcases this with ⟨h1,h2⟩ | ⟨h1,i,h2⟩
  ·have:a=b:=eqv.1 h1
   rw [show decide (a=b)=true from by simp [this]]
   simp only [T89,T89c,hne,cond_false,h2,Option.bind_some,elimS]
  ·have:a ≠ b:=fun e=>by rw [eqv.2 e] at h1;cases h1
   rw [show decide (a=b)=false from by simp [this]]
   simp only [T89,T89c,hne,cond_false,h2,Option.bind_some,elimS]
 ·have hne:((a.length:Int) != (b.length:Int))=true:=by simp;omega
  have:a ≠ b:=fun e=>h (by rw [e])
  rw [show decide (a=b)=false from by simp [this]]
  simp only [T89,T89c,hne,cond_true]
theorem rT_len (m:Nat) (s:RS) (p:Bs) (h:s=some p):(rT m s).1.length≤p.length:=by
 subst h
 simp only [rT]
 cases hd:decS 0 p with
 | none=>simp
 | some q=>
  obtain ⟨v,n⟩:=q
  simp only
  split
  ·simp only [List.length_take,List.length_drop];omega
  ·simp
theorem rT_pad {m:Nat} (hm:m < 2 ^ 64) {b:Bs} (h:b.length≤m):∃ r,rT m (some (padS b))=(b,some r):=by
 have:=fwdT m hm b (List.replicate (clsN b.length - (enc b.length ++ b).length) 0) h
 exact ⟨_,this⟩
theorem xx_cancel {p s:Bs} (h:p.length=s.length):xorL (xorL p s) s=p:=by
 rw [xorL_comm p s,xorL_comm (xorL s p) s,xorL_cancel h.symm]
section
variable {F:Nat} {a b c d e:Bs}
theorem seal_parts (hF:40000 < F) (hd:d.length=32) {q:Bs} (hq:q.length≤9000):(sealS F d q).take 12=nonce F d (padS q)∧(sealS F d q).drop 12=xorL (padS q) (st F d (nonce F d (padS q)) (padS q).length)∧(sealS F d q).length=12 + clsN q.length∧(padS q).length=clsN q.length∧(nonce F d (padS q)).length=12∧(st F d (nonce F d (padS q)) (padS q).length).length=(padS q).length:=by
 have hp:=padS_len (b:=q) (by omega)
 have hc:=cls_small hq
 have n2:=(t31n (F:=F) (k:=d) (p:=padS q) hF hd (by omega)).2
 have hs:=(st_ok (F:=F) (k:=d) (n:=nonce F d (padS q)) (N:=(padS q).length) (by omega) (by omega) hd n2).2.2
 refine ⟨?_,?_,?_,hp,n2,hs⟩
 ·unfold sealS;rw [List.take_append_of_le_length (by omega),List.take_of_length_le (by omega)]
 ·unfold sealS;rw [List.drop_append,List.drop_eq_nil_of_le (by omega),List.nil_append,n2];simp
 ·unfold sealS;rw [List.length_append,xorL_len (by omega),n2,hp]
theorem t24 (hF:40000 < F) (hk:Keys a b c d e) {s:Bs} (hs:s.length≤9000) :
  (T24 F a b c d e s=some bad9)∨∃ x,T24 F a b c d e s=some (okX x)∧vX x=true∧s=sealS F d (eX x)∧(eX x).length≤s.length:=by
 by_cases h1:(s.length:Int) < 1036
 ·left;simp only [T24,T24c,hk.t29 (F:=F) (by omega),Option.bind_some,Bool.not_true,cond_false,h1,decide_true,cond_true,bad9]
 have h2:¬ (1048588:Int) < (s.length:Int):=by omega
 have g1:=gsl_ok (b:=s) (n:=0) (k:=12) (by omega)
 have g1:gsl s (0:Int) (12:Int)=some (s.take 12):=by simpa using g1
 have g2:=gsl_ok (b:=s) (n:=12) (k:=s.length - 12) (by omega)
 have g2:gsl s (12:Int) (s.length:Int)=some (s.drop 12):=by
  rw [show ((12 + (s.length - 12):Nat):Int)=(s.length:Int) from by omega] at g2
  rw [List.take_of_length_le (by simp)] at g2
  exact g2
 have hn12:(s.take 12).length=12:=by simp;omega
 have hdl:(s.drop 12).length=s.length - 12:=by simp
 have h32:=t32c (F:=F) (k:=d) (n:=s.take 12) (p:=s.drop 12) hF hk.d hn12 (by omega)
 have hst:=(st_ok (F:=F) (k:=d) (n:=s.take 12) (N:=(s.drop 12).length) (by omega) (by omega) hk.d hn12).2.2
 generalize hS:st F d (s.take 12) (s.drop 12).length=S at h32 hst
 have hpl:(xorL (s.drop 12) S).length=(s.drop 12).length:=xorL_len (by omega)
 generalize hP:xorL (s.drop 12) S=p at h32 hpl
 obtain ⟨n1,n2⟩:=t31n (F:=F) (k:=d) (p:=p) hF hk.d (by omega)
 cases hn:nonce F d p != s.take 12 with
 | true=>left;simp only [T24,T24c,hk.t29 (F:=F) (by omega),Option.bind_some,Bool.not_true,cond_false,h1,h2,decide_false,g1,g2,h32,bne_self_eq_false,n1,hn,cond_true,bad9]
 | false=>
  have hn':nonce F d p=s.take 12:=by simpa using hn
  have g66:T66 F p=some (0,0,0,p):=by
   have:=gapp_ok (xs:=([]:Bs)) (ys:=p) (by simp;omega)
   simp only [T66,T66c,this,Option.bind_some,List.nil_append]
  obtain ⟨o',l',e',hb,_⟩:=kBy (F:=F) (by omega) (b:=p) (by omega) (m:=1048560) (by omega) (s:=some p) (o:=0) (e:=0) ⟨rfl,0,rfl,by omega,by simp⟩ 0
  have hb:T88 F (1048560:Int) 0 0 0 p=some ((rT 1048560 (some p)).1,o',l',e'):=hb
  have hbl:=rT_len 1048560 (some p) p rfl
  generalize hq:(rT 1048560 (some p)).1=q at hb hbl
  have h30:=t30 (F:=F) (b:=q) (by omega) (by omega)
  have hpq:=padS_len (b:=q) (by omega)
  have hcq:=(cls_spec (n:=q.length) (by omega)).2.1
  by_cases hcls:(padS q).length=p.length
  ·have h89:=same89 (F:=F) (a:=padS q) (b:=p) (by omega) (by omega)
   by_cases hpp:padS q=p
   ·rw [show decide (padS q=p)=true from by simp [hpp]] at h89
    have h21:=t21 (F:=F) (by omega) q
    rcases decR_cases q with h | ⟨x,h,hv,hx,hl⟩
    ·left
     rw [h] at h21
     have n3:((3:Int) != 0)=true:=rfl
     simp only [T24,T24c,hk.t29 (F:=F) (by omega),Option.bind_some,Bool.not_true,cond_false,h1,h2,decide_false,g1,g2,h32,bne_self_eq_false,n1,hn,g66,hb,h30,h89,h21,badX,n3,cond_true,bad9]
    ·right
     rw [h] at h21
     refine ⟨x,?_,hv,?_,by rw [← hx];omega⟩
     ·simp only [T24,T24c,hk.t29 (F:=F) (by omega),Option.bind_some,Bool.not_true,cond_false,h1,h2,decide_false,g1,g2,h32,bne_self_eq_false,n1,hn,g66,hb,h30,h89,h21,okX]
     ·rw [← hx]
      unfold sealS
      rw [hpp,hn',hpl,hS,← hP,xx_cancel (by omega),List.take_append_drop]
   ·left
    rw [show decide (padS q=p)=false from by simp [hpp]] at h89
    simp only [T24,T24c,hk.t29 (F:=F) (by omega),Option.bind_some,Bool.not_true,cond_false,h1,h2,decide_false,g1,g2,h32,bne_self_eq_false,n1,hn,g66,hb,h30,h89,Bool.not_false,cond_true,bad9]
  ·left
   have h89:T89 F (padS q) p=some false:=by
    have hne:(((padS q).length:Int) != (p.length:Int))=true:=by simp;omega
    simp only [T89,T89c,hne,cond_true]
   simp only [T24,T24c,hk.t29 (F:=F) (by omega),Option.bind_some,Bool.not_true,cond_false,h1,h2,decide_false,g1,g2,h32,bne_self_eq_false,n1,hn,g66,hb,h30,h89,Bool.not_false,cond_true,bad9]
theorem t24_ok (hF:40000 < F) (hk:Keys a b c d e) {x:Ix} (hv:vX x=true) (hl:(eX x).length≤9000):T24 F a b c d e (sealS F d (eX x))=some (okX x):=by
 obtain ⟨s1,s2,s3,s4,s5,s6⟩:=seal_parts hF hk.d hl
 have hc:=cls_small hl
 have hc2:=cls_spec (n:=(eX x).length) (by omega)
 generalize hs:sealS F d (eX x)=s at s1 s2 s3
 have h1:¬ (s.length:Int) < 1036:=by omega
 have h2:¬ (1048588:Int) < (s.length:Int):=by omega
 have g1:=gsl_ok (b:=s) (n:=0) (k:=12) (by omega)
 have g1:gsl s (0:Int) (12:Int)=some (nonce F d (padS (eX x))):=by rw [← s1];simpa using g1
 have g2:=gsl_ok (b:=s) (n:=12) (k:=s.length - 12) (by omega)
 have g2:gsl s (12:Int) (s.length:Int)=some (xorL (padS (eX x)) (st F d (nonce F d (padS (eX x))) (padS (eX x)).length)):=by
  rw [show ((12 + (s.length - 12):Nat):Int)=(s.length:Int) from by omega] at g2
  rw [List.take_of_length_le (by simp)] at g2
  rw [← s2];exact g2
 have hxl:=xorL_len (a:=padS (eX x)) (b:=st F d (nonce F d (padS (eX x))) (padS (eX x)).length) (by omega)
 have h32:=t32c (F:=F) (k:=d) (n:=nonce F d (padS (eX x))) (p:=xorL (padS (eX x)) (st F d (nonce F d (padS (eX x))) (padS (eX x)).length)) hF hk.d s5 (by omega)
 rw [hxl,xx_cancel (by omega)] at h32
 obtain ⟨n1,_⟩:=t31n (F:=F) (k:=d) (p:=padS (eX x)) hF hk.d (by omega)
 have g66:T66 F (padS (eX x))=some (0,0,0,padS (eX x)):=by
  have:=gapp_ok (xs:=([]:Bs)) (ys:=padS (eX x)) (by simp;omega)
  simp only [T66,T66c,this,Option.bind_some,List.nil_append]
 obtain ⟨o',l',e',hb,_⟩:=kBy (F:=F) (by omega) (b:=padS (eX x)) (by omega) (m:=1048560) (by omega) (s:=some (padS (eX x))) (o:=0) (e:=0) ⟨rfl,0,rfl,by omega,by simp⟩ 0
 obtain ⟨r,hr⟩:=rT_pad (m:=1048560) (by omega) (b:=eX x) (by omega)
 have hb:T88 F (1048560:Int) 0 0 0 (padS (eX x))=some (eX x,o',l',e'):=by rw [hr] at hb;exact hb
 have h30:=t30 (F:=F) (b:=eX x) (by omega) (by omega)
 have h89:=same89 (F:=F) (a:=padS (eX x)) (b:=padS (eX x)) (by omega) (by omega)
 have h21:=t21 (F:=F) (by omega) (eX x)
 rw [dec_of_enc hv (by omega)] at h21
 simp only [T24,T24c,hk.t29 (F:=F) (by omega),Option.bind_some,Bool.not_true,cond_false,h1,h2,decide_false,g1,g2,h32,bne_self_eq_false,n1,g66,hb,h30,h89,decide_true,h21,okX]
theorem t25 (hF:40000 < F) (hk:Keys a b c d e) {s:Bs} (hs:s.length≤9000) :
  (T25 F a b c d e s=some bad9)∨∃ x,T25 F a b c d e s=some (okX x)∧vX x=true∧s=sealS F d (eX x)∧(eX x).length≤s.length:=by
 by_cases h1:(s.length:Int) < 12
 ·left;simp only [T25,T25c,hk.t33 (F:=F),Option.bind_some,Bool.not_true,cond_false,h1,decide_true,cond_true,bad9]
 have h2:¬ (1048588:Int) < (s.length:Int):=by omega
 have g1:=gsl_ok (b:=s) (n:=0) (k:=12) (by omega)
 have g1:gsl s (0:Int) (12:Int)=some (s.take 12):=by simpa using g1
 have g2:=gsl_ok (b:=s) (n:=12) (k:=s.length - 12) (by omega)
 have g2:gsl s (12:Int) (s.length:Int)=some (s.drop 12):=by
  rw [show ((12 + (s.length - 12):Nat):Int)=(s.length:Int) from by omega] at g2
  rw [List.take_of_length_le (by simp)] at g2
  exact g2
 have hn12:(s.take 12).length=12:=by simp;omega
 have hdl:(s.drop 12).length=s.length - 12:=by simp
 have hw:w64 ((s.length:Int) - 12)=((s.length - 12:Nat):Int):=by rw [w64_in (by omega) (by omega)];omega
 obtain ⟨_,s36,hst⟩:=st_ok (F:=F) (k:=d) (n:=s.take 12) (N:=s.length - 12) (by omega) (by omega) hk.d hn12
 generalize hS:st F d (s.take 12) (s.length - 12)=S at s36 hst
 have h37:=t37x (F:=F) (a:=s.drop 12) (b:=S) (by omega) (by omega) (by omega)
 have hpl:(xorL (s.drop 12) S).length=(s.drop 12).length:=xorL_len (by omega)
 generalize hP:xorL (s.drop 12) S=p at h37 hpl
 obtain ⟨o',l',e',hb,hat⟩:=qBy (F:=F) (by omega) (b:=p) (by omega) (m:=1048576) (by omega) (s:=some p) (o:=0) (e:=0) ⟨rfl,0,rfl,by omega,by simp⟩ 0
 have hb:T85x1 F (4:Int) (1048576:Int) 0 0 0 p=some (0,0,false,(rT 1048576 (some p)).1,o',l',e'):=hb
 have hbl:=rT_len 1048576 (some p) p rfl
 have gs:=gstr_le (l:=(rT 1048576 (some p)).1) (by omega)
 have h23:=t23 (F:=F) (by omega) (rT 1048576 (some p)).1 (by omega)
 cases hr:(rT 1048576 (some p)).2 with
 | none=>
  left
  rw [hr] at hat
  have he:=At.bne hat
  simp only [T25,T25c,hk.t33 (F:=F),Option.bind_some,Bool.not_true,cond_false,h1,h2,decide_false,g1,hw,s36,g2,h37,hb,gs,h23,he,cond_true,bad9]
 | some r=>
  rw [hr] at hat
  obtain ⟨he,_⟩:=hat
  subst he
  rcases decR_cases (rT 1048576 (some p)).1 with h | ⟨x,h,hv,hx,hl⟩
  ·left
   rw [h] at h23
   have n3:((3:Int) != 0)=true:=rfl
   simp only [T25,T25c,hk.t33 (F:=F),Option.bind_some,Bool.not_true,cond_false,h1,h2,decide_false,g1,hw,s36,g2,h37,hb,gs,h23,badX,n3,bne_self_eq_false,cond_true,bad9]
  ·rw [h] at h23
   have h15:=t15 (x:=x) hF hk (fun _=>by rw [← hx];omega)
   rw [hv] at h15
   simp only [cond_true] at h15
   cases hss:sealS F d (eX x) != s with
   | true=>
    left
    simp only [T25,T25c,hk.t33 (F:=F),Option.bind_some,Bool.not_true,cond_false,h1,h2,decide_false,g1,hw,s36,g2,h37,hb,gs,h23,okX,bne_self_eq_false,h15,hss,cond_true,bad9]
   | false=>
    right
    refine ⟨x,?_,hv,?_,by rw [← hx];omega⟩
    ·simp only [T25,T25c,hk.t33 (F:=F),Option.bind_some,Bool.not_true,cond_false,h1,h2,decide_false,g1,hw,s36,g2,h37,hb,gs,h23,okX,bne_self_eq_false,h15,hss]
    ·have:sealS F d (eX x)=s:=by simpa using hss
     exact this.symm
theorem t25_ok (hF:40000 < F) (hk:Keys a b c d e) {x:Ix} (hv:vX x=true) (hl:(eX x).length≤9000):T25 F a b c d e (sealS F d (eX x))=some (okX x):=by
 obtain ⟨s1,s2,s3,s4,s5,s6⟩:=seal_parts hF hk.d hl
 have hc:=cls_small hl
 have hc2:=cls_spec (n:=(eX x).length) (by omega)
 have h15:=t15 (x:=x) hF hk (fun _=>hl)
 rw [hv] at h15
 simp only [cond_true] at h15
 generalize hs:sealS F d (eX x)=s at s1 s2 s3 h15
 have h1:¬ (s.length:Int) < 12:=by omega
 have h2:¬ (1048588:Int) < (s.length:Int):=by omega
 have g1:=gsl_ok (b:=s) (n:=0) (k:=12) (by omega)
 have g1:gsl s (0:Int) (12:Int)=some (nonce F d (padS (eX x))):=by rw [← s1];simpa using g1
 have g2:=gsl_ok (b:=s) (n:=12) (k:=s.length - 12) (by omega)
 have g2:gsl s (12:Int) (s.length:Int)=some (xorL (padS (eX x)) (st F d (nonce F d (padS (eX x))) (padS (eX x)).length)):=by
  rw [show ((12 + (s.length - 12):Nat):Int)=(s.length:Int) from by omega] at g2
  rw [List.take_of_length_le (by simp)] at g2
  rw [← s2];exact g2
 have hw:w64 ((s.length:Int) - 12)=((padS (eX x)).length:Int):=by rw [w64_in (by omega) (by omega)];omega
 have s36:=(st_ok (F:=F) (k:=d) (n:=nonce F d (padS (eX x))) (N:=(padS (eX x)).length) (by omega) (by omega) hk.d s5).2.1
 have hxl:=xorL_len (a:=padS (eX x)) (b:=st F d (nonce F d (padS (eX x))) (padS (eX x)).length) (by omega)
 have h37:=t37x (F:=F) (a:=xorL (padS (eX x)) (st F d (nonce F d (padS (eX x))) (padS (eX x)).length)) (b:=st F d (nonce F d (padS (eX x))) (padS (eX x)).length) (by omega) (by omega) (by omega)
 rw [xx_cancel (by omega)] at h37
 obtain ⟨o',l',e',hb,hat⟩:=qBy (F:=F) (by omega) (b:=padS (eX x)) (by omega) (m:=1048576) (by omega) (s:=some (padS (eX x))) (o:=0) (e:=0) ⟨rfl,0,rfl,by omega,by simp⟩ 0
 obtain ⟨r,hr⟩:=rT_pad (m:=1048576) (by omega) (b:=eX x) (by omega)
 rw [hr] at hat
 obtain ⟨he,_⟩:=hat
 subst he
 have hb:T85x1 F (4:Int) (1048576:Int) 0 0 0 (padS (eX x))=some (0,0,false,eX x,o',l',0):=by rw [hr] at hb;exact hb
 have gs:=gstr_le (l:=eX x) (by omega)
 have h23:=t23 (F:=F) (by omega) (eX x) (by omega)
 rw [dec_of_enc hv (by omega)] at h23
 simp only [T25,T25c,hk.t33 (F:=F),Option.bind_some,Bool.not_true,cond_false,h1,h2,decide_false,g1,hw,s36,g2,h37,hb,gs,h23,okX,bne_self_eq_false,h15]
end
end Go.Proofs.YthikoaamigiceaaGreatDoor
namespace Go.Proofs.YthikoaamigiceaaGreatDoor
open Go.Tw
set_option linter.unusedSimpArgs false
set_option linter.unusedVariables false
theorem t22d {F:Nat} (hF:40000 < F) {x y:Ix} (hv:vX x=true) (hl:(eX x).length≤9000) (hv':vX y=true) (hl':(eX y).length≤9000):T22 F x.1 x.2.1 x.2.2.1 x.2.2.2.1 x.2.2.2.2.1 x.2.2.2.2.2 y.1 y.2.1 y.2.2.1 y.2.2.2.1 y.2.2.2.2.1 y.2.2.2.2.2=some (eX x == eX y):=by
 have h:=t20 (F:=F) (by omega) x (fun _=>⟨by omega,by omega⟩)
 have h':=t20 (F:=F) (by omega) y (fun _=>⟨by omega,by omega⟩)
 rw [encR_ok9 hv hl] at h
 rw [encR_ok9 hv' hl'] at h'
 simp only [T22,T22c,h,h',Option.bind_some,beq_self_eq_true,cond_true]
theorem mkeys {F:Nat} (hF:40000 < F) (m:UInt8):∃ p a b c d e,T13 F m=some p∧T12 F p=some (a,b,c,d,e,0)∧Keys a b c d e:=by
 have hm:gmake (0:UInt8) (32:Int) (32:Int)=some (List.replicate 32 0):=rfl
 have hi:inb (List.replicate 32 (0:UInt8)).length (0:Int)=some 0:=rfl
 obtain ⟨a,b,c,d,e,h,h1,h2,h3,h4,h5⟩:=keys_eq (F:=F) (p:=List.set (List.replicate 32 (0:UInt8)) 0 m) (by omega) (by simp)
 exact ⟨_,a,b,c,d,e,by simp only [T13,T13c,hm,hi,Option.bind_some],h,⟨h1,h2,h3,h4,h5⟩⟩
theorem law7 {F:Nat} (hF:40000 < F) (h10:T10 F=some true) (m:UInt8) (s:Bs):T7 F m s=some true:=by
 by_cases hb:(1100:Int) < (s.length:Int)
 ·simp only [T7,T7c,h10,hb,Option.bind_some,Bool.not_true,cond_false,cond_true,decide_true]
 obtain ⟨p,a,b,c,d,e,h13,h12,hk⟩:=mkeys hF m
 have n9:((9:Int) != 0)=true:=rfl
 have z0:(w64 (((([]:List Sn).length:Nat):Int) + ((([]:List Sp).length:Nat):Int)) == 0)=true:=rfl
 rcases t24 (F:=F) hF hk (s:=s) (by omega) with h24 | ⟨x,h24,hv,hs,hl⟩
 ·rcases t25 (F:=F) hF hk (s:=s) (by omega) with h25 | ⟨x,h25,hv,hs,hl⟩
  ·rw [bad9] at h24 h25
   simp only [T7,T7c,h10,hb,h13,h12,h24,h25,Option.bind_some,Bool.not_true,cond_false,cond_true,decide_false,bne_self_eq_false,n9,z0]
  ·rw [hs,t24_ok hF hk hv (by omega)] at h24
   exact absurd h24 (by simp [okX,bad9])
 ·have h25:=t25_ok (F:=F) hF hk hv (by omega)
  rw [← hs] at h25
  rw [okX] at h24 h25
  have h22:=t22d (F:=F) hF hv (by omega) hv (by omega)
  simp only [T7,T7c,h10,hb,h13,h12,h24,h25,Option.bind_some,Bool.not_true,cond_false,cond_true,decide_false,bne_self_eq_false,beq_self_eq_true,h22]
theorem plaw7 (m:UInt8) (s:List UInt8) (_:s.length≤maxLen):T7 50000 m s=some true:=law7 (by omega) awake10 m s
end Go.Proofs.YthikoaamigiceaaGreatDoor
