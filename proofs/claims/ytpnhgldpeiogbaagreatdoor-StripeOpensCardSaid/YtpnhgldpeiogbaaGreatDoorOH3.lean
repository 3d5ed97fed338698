/- The functions, each with its twin, and plain facts about them. -/
import Derived.Test.YtpnhgldpeiogbaaGreatDoorOH2
namespace Go.Proofs.YtpnhgldpeiogbaaGreatDoor
open Go.Tw
set_option linter.unusedSimpArgs false
set_option linter.unusedVariables false
def rl (x:UInt32) (k:Nat):UInt32:=shl32 x k ||| shr32 x (32 - k)
theorem b94_16 (F:Nat) (x:UInt32):T170 F x 16=some (rl x 16):=by
 have e1:((UInt64.ofInt 16) &&& (UInt64.ofNat 31)).toNat=16:=by decide +kernel
 have e2:((UInt64.ofNat 32) - ((UInt64.ofInt 16) &&& (UInt64.ofNat 31))).toNat=16:=by decide +kernel
 simp only [T170,T170c,e1,e2,rl]
theorem b94_12 (F:Nat) (x:UInt32):T170 F x 12=some (rl x 12):=by
 have e1:((UInt64.ofInt 12) &&& (UInt64.ofNat 31)).toNat=12:=by decide +kernel
 have e2:((UInt64.ofNat 32) - ((UInt64.ofInt 12) &&& (UInt64.ofNat 31))).toNat=20:=by decide +kernel
 simp only [T170,T170c,e1,e2,rl]
theorem b94_8 (F:Nat) (x:UInt32):T170 F x 8=some (rl x 8):=by
 have e1:((UInt64.ofInt 8) &&& (UInt64.ofNat 31)).toNat=8:=by decide +kernel
 have e2:((UInt64.ofNat 32) - ((UInt64.ofInt 8) &&& (UInt64.ofNat 31))).toNat=24:=by decide +kernel
 simp only [T170,T170c,e1,e2,rl]
theorem b94_7 (F:Nat) (x:UInt32):T170 F x 7=some (rl x 7):=by
 have e1:((UInt64.ofInt 7) &&& (UInt64.ofNat 31)).toNat=7:=by decide +kernel
 have e2:((UInt64.ofNat 32) - ((UInt64.ofInt 7) &&& (UInt64.ofNat 31))).toNat=25:=by decide +kernel
 simp only [T170,T170c,e1,e2,rl]
theorem quarter (F:Nat) (a b c d:UInt32):∃ q,T163 F a b c d=some q:=by
 simp only [T163,T163c,b94_16,b94_12,b94_8,b94_7,Option.bind_some]
 exact ⟨_,rfl⟩
theorem vix_inb {α:Type} {n:Nat} (v:Vector α n) (i:Int):vix v i=(inb n i).bind fun j=>vat v j:=by
 unfold vix inb
 by_cases h0:0≤i
 ·rw [if_pos h0]
  by_cases h1:i < n
  ·rw [if_pos ⟨h0,h1⟩,Option.bind_some,vat_eq]
  ·rw [if_neg (fun h=>h1 h.2),Option.bind_none]
   exact getElem?_neg v i.toNat (by omega)
 ·rw [if_neg h0,if_neg (fun h=>h0 h.1),Option.bind_none]
def rows:Vector (Vector Int 4) 8:=#v[(#v[(0:Int),(4:Int),(8:Int),(12:Int)]:Vector Int 4),(#v[(1:Int),(5:Int),(9:Int),(13:Int)]:Vector Int 4),(#v[(2:Int),(6:Int),(10:Int),(14:Int)]:Vector Int 4),(#v[(3:Int),(7:Int),(11:Int),(15:Int)]:Vector Int 4),(#v[(0:Int),(5:Int),(10:Int),(15:Int)]:Vector Int 4),(#v[(1:Int),(6:Int),(11:Int),(12:Int)]:Vector Int 4),(#v[(2:Int),(7:Int),(8:Int),(13:Int)]:Vector Int 4),(#v[(3:Int),(4:Int),(9:Int),(14:Int)]:Vector Int 4)]
theorem row_ok:∀ i:Nat,i < 8->∃ a b c d:Nat,(a < 16∧b < 16∧c < 16∧d < 16)∧vix rows ((i:Nat):Int)=some #v[((a:Nat):Int),((b:Nat):Int),((c:Nat):Int),((d:Nat):Int)]
 | 0,_=>⟨0,4,8,12,by decide,rfl⟩
 | 1,_=>⟨1,5,9,13,by decide,rfl⟩
 | 2,_=>⟨2,6,10,14,by decide,rfl⟩
 | 3,_=>⟨3,7,11,15,by decide,rfl⟩
 | 4,_=>⟨0,5,10,15,by decide,rfl⟩
 | 5,_=>⟨1,6,11,12,by decide,rfl⟩
 | 6,_=>⟨2,7,8,13,by decide,rfl⟩
 | 7,_=>⟨3,4,9,14,by decide,rfl⟩
 | n + 8,h=>absurd h (by omega)
theorem l11 (F:Nat) {i:Nat} (hi:i < 8) (v:Vector UInt32 16):∃ v',L146_11 F rows ((i:Nat):Int) v=some (((i + 1:Nat):Int),v'):=by
 obtain ⟨a,b,c,d,⟨ha,hb,hc,hd⟩,hr⟩:=row_ok i hi
 have e3:w64 (((i:Nat):Int) + 1)=((i + 1:Nat):Int):=by rw [w64_in (by omega) (by omega)];omega
 have y0:vat #v[((a:Nat):Int),((b:Nat):Int),((c:Nat):Int),((d:Nat):Int)] 0=some ((a:Nat):Int):=rfl
 have y1:vat #v[((a:Nat):Int),((b:Nat):Int),((c:Nat):Int),((d:Nat):Int)] 1=some ((b:Nat):Int):=rfl
 have y2:vat #v[((a:Nat):Int),((b:Nat):Int),((c:Nat):Int),((d:Nat):Int)] 2=some ((c:Nat):Int):=rfl
 have y3:vat #v[((a:Nat):Int),((b:Nat):Int),((c:Nat):Int),((d:Nat):Int)] 3=some ((d:Nat):Int):=rfl
 obtain ⟨q,hq⟩:=quarter F v[a] v[b] v[c] v[d]
 simp only [L146_11,L146_11c,hr,Option.bind_some,y0,y1,y2,y3,inb_nat ha,inb_nat hb,inb_nat hc,inb_nat hd,vat_nat (v:=v) ha,vat_nat (v:=v) hb,vat_nat (v:=v) hc,vat_nat (v:=v) hd,hq,e3]
 exact ⟨_,rfl⟩
theorem l10 {F:Nat} (hF:100 < F) (v:Vector UInt32 16):∃ v',iter (fun s:Int×Vector UInt32 16=>L146_10 F rows s.1 s.2) F ((0:Int),v)=some v':=by
 obtain ⟨r,h,_⟩:=iter1 (f:=fun s:Int×Vector UInt32 16=>L146_10 F rows s.1 s.2) (fun s=>∃ i:Nat,s.1=i∧i≤8) (fun _=>True) (fun s=>8 - s.1.toNat) (by
   rintro ⟨a,u⟩ ⟨i,hi,h8⟩
   simp only at hi
   subst hi
   by_cases h:i < 8
   ·have h1:(((i:Nat):Int) < 8):=by omega
    obtain ⟨v',hv⟩:=l11 F h u
    refine .inl ⟨(((i + 1:Nat):Int),v'),?_,⟨i + 1,rfl,by omega⟩,by simp only [Int.toNat_natCast];omega⟩
    simp only [L146_10,L146_10c,h1,decide_true,cond_true,hv,Option.bind_some]
   ·obtain rfl:i=8:=by omega
    exact .inr ⟨u,rfl,trivial⟩) F ((0:Int),v) ⟨0,rfl,by omega⟩ (by simp only [Int.toNat_zero];omega)
 exact ⟨r,h⟩
theorem l9 {F:Nat} (hF:100 < F) (v:Vector UInt32 16):∃ v',iter (fun s:Int×Vector UInt32 16=>L146_9 F rows s.1 s.2) F ((0:Int),v)=some v':=by
 obtain ⟨r,h,_⟩:=iter1 (f:=fun s:Int×Vector UInt32 16=>L146_9 F rows s.1 s.2) (fun s=>∃ i:Nat,s.1=i∧i≤10) (fun _=>True) (fun s=>10 - s.1.toNat) (by
   rintro ⟨a,u⟩ ⟨i,hi,h8⟩
   simp only at hi
   subst hi
   by_cases h:i < 10
   ·have h1:(((i:Nat):Int) < 10):=by omega
    have e3:w64 (((i:Nat):Int) + 1)=((i + 1:Nat):Int):=by rw [w64_in (by omega) (by omega)];omega
    obtain ⟨v',hv⟩:=l10 hF u
    refine .inl ⟨(((i + 1:Nat):Int),v'),?_,⟨i + 1,rfl,by omega⟩,by simp only [Int.toNat_natCast];omega⟩
    simp only [L146_9,L146_9c,h1,decide_true,cond_true,hv,Option.bind_some,e3]
   ·obtain rfl:i=10:=by omega
    exact .inr ⟨u,rfl,trivial⟩) F ((0:Int),v) ⟨0,rfl,by omega⟩ (by simp only [Int.toNat_zero];omega)
 exact ⟨r,h⟩
theorem t86 (F:Nat) {p:List UInt8} {i:Nat} (h:i + 3 < p.length) (hi:i < 400):∃ w,T162 F p ((i:Nat):Int)=some w:=by
 have f1:w64 (((i:Nat):Int) + 1)=((i + 1:Nat):Int):=by rw [w64_in (by omega) (by omega)];omega
 have f2:w64 (((i:Nat):Int) + 2)=((i + 2:Nat):Int):=by rw [w64_in (by omega) (by omega)];omega
 have f3:w64 (((i:Nat):Int) + 3)=((i + 3:Nat):Int):=by rw [w64_in (by omega) (by omega)];omega
 have x0:ix p ((i:Nat):Int)=some p[i]:=ix_nat (by omega)
 have x1:ix p ((i + 1:Nat):Int)=some p[i + 1]:=ix_nat (by omega)
 have x2:ix p ((i + 2:Nat):Int)=some p[i + 2]:=ix_nat (by omega)
 have x3:ix p ((i + 3:Nat):Int)=some p[i + 3]:=ix_nat (by omega)
 simp only [T162,T162c,f1,f2,f3,x0,x1,x2,x3,Option.bind_some]
 exact ⟨_,rfl⟩
theorem l7 {F:Nat} (hF:100 < F) {k:List UInt8} (hk:k.length=32) (v:Vector UInt32 16):∃ v',iter (fun s:Int×Vector UInt32 16=>L146_7 F k s.1 s.2) F ((0:Int),v)=some v':=by
 obtain ⟨r,h,_⟩:=iter1 (f:=fun s:Int×Vector UInt32 16=>L146_7 F k s.1 s.2) (fun s=>∃ i:Nat,s.1=i∧i≤8) (fun _=>True) (fun s=>8 - s.1.toNat) (by
   rintro ⟨a,u⟩ ⟨i,hi,h8⟩
   simp only at hi
   subst hi
   by_cases h:i < 8
   ·have h1:(((i:Nat):Int) < 8):=by omega
    have e3:w64 (((i:Nat):Int) + 1)=((i + 1:Nat):Int):=by rw [w64_in (by omega) (by omega)];omega
    have e4:w64 ((4:Int) + ((i:Nat):Int))=((4 + i:Nat):Int):=by rw [w64_in (by omega) (by omega)];omega
    have e5:w64 ((4:Int) * ((i:Nat):Int))=((4 * i:Nat):Int):=by rw [w64_in (by omega) (by omega)];omega
    obtain ⟨w,hw⟩:=t86 F (p:=k) (i:=4 * i) (by omega) (by omega)
    refine .inl ⟨(((i + 1:Nat):Int),u.setIfInBounds (4 + i) w),?_,⟨i + 1,rfl,by omega⟩,by simp only [Int.toNat_natCast];omega⟩
    simp only [L146_7,L146_7c,h1,decide_true,cond_true,e5,hw,Option.bind_some,e3,e4,inb_nat (show 4 + i < 16 by omega)]
   ·obtain rfl:i=8:=by omega
    exact .inr ⟨u,rfl,trivial⟩) F ((0:Int),v) ⟨0,rfl,by omega⟩ (by simp only [Int.toNat_zero];omega)
 exact ⟨r,h⟩
theorem l8 {F:Nat} (hF:100 < F) {k:List UInt8} (hk:k.length=12) (v:Vector UInt32 16):∃ v',iter (fun s:Int×Vector UInt32 16=>L146_8 F k s.1 s.2) F ((0:Int),v)=some v':=by
 obtain ⟨r,h,_⟩:=iter1 (f:=fun s:Int×Vector UInt32 16=>L146_8 F k s.1 s.2) (fun s=>∃ i:Nat,s.1=i∧i≤3) (fun _=>True) (fun s=>3 - s.1.toNat) (by
   rintro ⟨a,u⟩ ⟨i,hi,h8⟩
   simp only at hi
   subst hi
   by_cases h:i < 3
   ·have h1:(((i:Nat):Int) < 3):=by omega
    have e3:w64 (((i:Nat):Int) + 1)=((i + 1:Nat):Int):=by rw [w64_in (by omega) (by omega)];omega
    have e4:w64 ((13:Int) + ((i:Nat):Int))=((13 + i:Nat):Int):=by rw [w64_in (by omega) (by omega)];omega
    have e5:w64 ((4:Int) * ((i:Nat):Int))=((4 * i:Nat):Int):=by rw [w64_in (by omega) (by omega)];omega
    obtain ⟨w,hw⟩:=t86 F (p:=k) (i:=4 * i) (by omega) (by omega)
    refine .inl ⟨(((i + 1:Nat):Int),u.setIfInBounds (13 + i) w),?_,⟨i + 1,rfl,by omega⟩,by simp only [Int.toNat_natCast];omega⟩
    simp only [L146_8,L146_8c,h1,decide_true,cond_true,e5,hw,Option.bind_some,e3,e4,inb_nat (show 13 + i < 16 by omega)]
   ·obtain rfl:i=3:=by omega
    exact .inr ⟨u,rfl,trivial⟩) F ((0:Int),v) ⟨0,rfl,by omega⟩ (by simp only [Int.toNat_zero];omega)
 exact ⟨r,h⟩
theorem l12 {F:Nat} (hF:100 < F) (a b:Vector UInt32 16):∃ r:List UInt8,iter (fun s:Int×List UInt8=>L146_12 F a b s.1 s.2) F ((0:Int),([]:List UInt8))=some r∧r.length=64:=by
 exact iter1 (f:=fun s:Int×List UInt8=>L146_12 F a b s.1 s.2) (fun s=>∃ i:Nat,s.1=i∧i≤16∧s.2.length=4 * i) (fun r=>r.length=64) (fun s=>16 - s.1.toNat) (by
   rintro ⟨x,u⟩ ⟨i,hi,h8,hl⟩
   simp only at hi hl
   subst hi
   by_cases h:i < 16
   ·have h1:(((i:Nat):Int) < 16):=by omega
    have e3:w64 (((i:Nat):Int) + 1)=((i + 1:Nat):Int):=by rw [w64_in (by omega) (by omega)];omega
    have ga:∀ y:List UInt8,y.length=4->gapp u y=some (u ++ y):=fun y hy=>gapp_ok (by omega)
    refine .inl ⟨(((i + 1:Nat):Int),u ++ [((a[i] + b[i]).toUInt8),((shr32 (a[i] + b[i]) ((UInt64.ofNat 8).toNat)).toUInt8),((shr32 (a[i] + b[i]) ((UInt64.ofNat 16).toNat)).toUInt8),((shr32 (a[i] + b[i]) ((UInt64.ofNat 24).toNat)).toUInt8)]),?_,⟨i + 1,rfl,by omega,by simp [hl];omega⟩,by simp only [Int.toNat_natCast];omega⟩
    simp only [L146_12,L146_12c,h1,decide_true,cond_true,vix_inb,inb_nat h,vat_nat (v:=a) h,vat_nat (v:=b) h,Option.bind_some,e3]
    rw [ga _ rfl,Option.bind_some]
   ·obtain rfl:i=16:=by omega
    exact .inr ⟨u,rfl,hl⟩) F ((0:Int),([]:List UInt8)) ⟨0,rfl,by omega,rfl⟩ (by simp only [Int.toNat_zero];omega)
theorem t70 (F:Nat) (k n:List UInt8):T145 F k n=some (decide (k.length=32) && decide (n.length=12)):=by
 by_cases h1:k.length=32
 ·have e1:((k.length:Int) == 32)=true:=by rw [h1];rfl
  by_cases h2:n.length=12
  ·have e2:((n.length:Int) == 12)=true:=by rw [h2];rfl
   simp [T145,T145c,e1,e2,h1,h2]
  ·have e2:((n.length:Int) == 12)=false:=by rw [beq_eq_false_iff_ne];omega
   simp [T145,T145c,e1,e2,h1,h2]
 ·have e1:((k.length:Int) == 32)=false:=by rw [beq_eq_false_iff_ne];omega
  simp [T145,T145c,e1,h1]
theorem block_ok {F:Nat} (hF:100 < F) {k n:List UInt8} (hk:k.length=32) (hn:n.length=12) (c:UInt32):∃ b,T146 F k n c=some (0,b)∧b.length=64:=by
 obtain ⟨v1,h1⟩:=l7 hF hk (Vector.setIfInBounds (Vector.setIfInBounds (Vector.setIfInBounds (Vector.setIfInBounds (Vector.replicate 16 (0:UInt32)) 0 (UInt32.ofNat 1634760805)) 1 (UInt32.ofNat 857760878)) 2 (UInt32.ofNat 2036477234)) 3 (UInt32.ofNat 1797285236))
 obtain ⟨v2,h2⟩:=l8 hF hn (Vector.setIfInBounds v1 12 c)
 obtain ⟨v3,h3⟩:=l9 hF v2
 obtain ⟨r,h4,h5⟩:=l12 hF v3 v2
 have g0:gmake (0:UInt8) (0:Int) (64:Int)=some []:=by decide +kernel
 simp only [rows] at h3
 refine ⟨r,?_,h5⟩
 simp only [T146,T146c,t70,hk,hn,decide_true,Bool.and_self,Option.bind_some,Bool.not_true,cond_false,h1,h2,h3,g0,h4]
theorem stream_ok {F:Nat} {k n:List UInt8} {N:Nat} (hF:200 + N < F) (hN:N≤1048576) (hk:k.length=32) (hn:n.length=12):∃ s,T111 F k n 0 (N:Int)=some (0,s)∧s.length=N:=by
 obtain ⟨r,b1,b2⟩:=iter1 (f:=fun s:Int×List UInt8=>L111_2 F k n 0 (N:Int) s.1 s.2)
  (fun s=>∃ i:Nat,s.1=i∧i≤N∧s.2.length=N) (fun r=>r.length=N) (fun s=>N - s.1.toNat) (by
   rintro ⟨a,u⟩ ⟨i,hi,hiN,hl⟩
   simp only at hi hl
   subst hi
   have w1:w64 ((0:Int) + ((i:Nat):Int))=((i:Nat):Int):=by rw [w64_in (by omega) (by omega)];omega
   by_cases h:i < N
   ·have h1:(((i:Nat):Int) < (N:Int)):=by omega
    obtain ⟨b,c1,c3⟩:=block_ok (F:=F) (by omega) hk hn (UInt32.ofInt (w64 (Int.tdiv ((i:Nat):Int) 64)))
    have g1:gslb u.length ((i:Nat):Int) (u.length:Int)=some (i,N):=by rw [hl];exact gslb_nat (by omega) (Nat.le_refl _)
    have g2:gslb b.length ((i % 64:Nat):Int) (b.length:Int)=some (i % 64,64):=by rw [c3];exact gslb_nat (by omega) (by omega)
    have hpl:((b.drop (i % 64)).take (64 - i % 64)).length=64 - i % 64:=by simp;omega
    generalize hyy:(b.drop (i % 64)).take (64 - i % 64)=y at hpl
    have hm1:Nat.min y.length (N - i)≤N - i:=Nat.min_le_right _ _
    have hm2:Nat.min y.length (N - i)≤y.length:=Nat.min_le_left _ _
    have hm3:0 < Nat.min y.length (N - i):=by
     show 0 < min y.length (N - i)
     omega
    generalize hmm:Nat.min y.length (N - i)=m at hm1 hm2 hm3
    have w3:w64 (((i:Nat):Int) + ((m:Nat):Int))=((i + m:Nat):Int):=by rw [w64_in (by omega) (by omega)];omega
    refine .inl ⟨(((i + m:Nat):Int),splice u i y m),?_,⟨i + m,rfl,by omega,by rw [splice_len u y (by omega) hm2,hl]⟩,by simp only [Int.toNat_natCast];omega⟩
    simp only [L111_2,L111_2c,h1,decide_true,cond_true,w1,c1,Option.bind_some,g1,tmod64,g2,hyy,hmm,w3]
   ·obtain rfl:i=N:=by omega
    have h1:¬ (((i:Nat):Int) < (i:Int)):=by omega
    refine .inr ⟨u,?_,hl⟩
    simp only [L111_2,L111_2c,h1,decide_false,cond_false]) F ((0:Int),List.replicate N 0) ⟨0,rfl,by omega,by simp⟩ (by simp only [Int.toNat_zero];omega)
 have d0:¬ ((0:Int) < 0):=by omega
 have d1:¬ ((N:Int) < 0):=by omega
 have d2:¬ ((1048576:Int) < (N:Int)):=by omega
 have w:w64 ((274877906944:Int) - (N:Int))=274877906944 - (N:Int):=w64_in (by omega) (by omega)
 have d3:¬ ((274877906944:Int) - (N:Int) < 0):=by omega
 have g0:gmake (0:UInt8) (N:Int) (N:Int)=some (List.replicate N 0):=by
  unfold gmake;rw [if_pos (by omega)];simp only [Int.toNat_natCast]
 refine ⟨r,?_,b2⟩
 simp only [T111,T111c,t70,hk,hn,decide_true,Bool.and_self,Option.bind_some,Bool.not_true,cond_false,d0,d1,d2,w,d3,decide_false,g0,b1]
def decS:Nat->List UInt8->Option (Nat×Nat)
 | _,[]=>none
 | i,b :: r=>if 10≤i then none else if 128≤b.toNat then (match decS (i + 1) r with
   | some (v,n)=>some (b.toNat % 128 + 128 * v,n + 1)
   | none=>none) else if 0 < i∧b.toNat=0 then none else if i=9∧1 < b.toNat then none else some (b.toNat,1)
theorem decS_bd:∀ (l:List UInt8) (i v n:Nat),i≤10->decS i l=some (v,n)->v * 128 ^ i < 2 ^ 64∧1≤n∧n≤l.length∧i + n≤10∧(0 < i->0 < v)
 | [],i,v,n,hi,h=>by simp [decS] at h
 | b :: r,i,v,n,hi,h=>by
  simp only [decS] at h
  split at h
  ·cases h
  split at h
  ·split at h<;>first | (cases h;done) | skip
   rename_i v' n' hr
   cases h
   obtain ⟨h1,h2,h3,h4,h5⟩:=decS_bd r (i + 1) v' n' (by omega) hr
   have hv:=h5 (by omega)
   refine ⟨?_,by omega,by simp;omega,by omega,fun _=>by omega⟩
   have hb:b.toNat % 128 < 128:=Nat.mod_lt _ (by omega)
   have hi':i≤8:=by omega
   have e:v' * 128 ^ (i + 1)=128 * v' * 128 ^ i:=by rw [Nat.pow_succ];ac_rfl
   rw [e] at h1
   have hd:(2:Nat) ^ 64=2 ^ (64 - 7 * i) * 128 ^ i:=by
    have:(128:Nat) ^ i=2 ^ (7 * i):=by rw [Nat.pow_mul]
    rw [this,← Nat.pow_add];congr 1;omega
   have hp:0 < 128 ^ i:=Nat.pow_pos (by omega)
   rw [hd] at h1 ⊢
   have h1':128 * v' < 2 ^ (64 - 7 * i):=Nat.lt_of_mul_lt_mul_right h1
   have hd2:(2:Nat) ^ (64 - 7 * i)=128 * 2 ^ (57 - 7 * i):=by
    rw [show (128:Nat)=2 ^ 7 from rfl,← Nat.pow_add];congr 1;omega
   rw [hd2] at h1' ⊢
   have h1'':v' < 2 ^ (57 - 7 * i):=Nat.lt_of_mul_lt_mul_left h1'
   exact Nat.mul_lt_mul_of_pos_right (by omega) hp
  ·split at h
   ·cases h
   split at h
   ·cases h
   rename_i hx hb h0 h9
   cases h
   refine ⟨?_,by omega,by simp,by omega,fun h=>by omega⟩
   have hp:128 ^ i=2 ^ (7 * i):=by rw [show (128:Nat)=2 ^ 7 from rfl,Nat.pow_mul]
   by_cases hi9:i=9
   ·subst hi9
    have:b.toNat≤1:=by omega
    calc b.toNat * 128 ^ 9≤1 * 128 ^ 9:=Nat.mul_le_mul_right _ this
     _ < 2 ^ 64:=by decide
   ·have h1:b.toNat * 128 ^ i < 128 * 128 ^ i:=Nat.mul_lt_mul_of_pos_right (by omega) (Nat.pow_pos (by omega))
    have h2:128 * 128 ^ i≤128 * 128 ^ 8:=Nat.mul_le_mul_left _ (Nat.pow_le_pow_right (by omega) (by omega))
    have h3:128 * 128 ^ 8 < 2 ^ 64:=by decide
    omega
theorem decS_enc:∀ (l:List UInt8) (i v n:Nat),i < 10->decS i l=some (v,n)->l.take n=encN (9 - i) v∧(encN (9 - i) v).length=n
 | [],i,v,n,hi,h=>by simp [decS] at h
 | b :: r,i,v,n,hi,h=>by
  have hbd:=decS_bd (b :: r) i v n (by omega) h
  simp only [decS] at h
  split at h
  ·cases h
  split at h
  ·split at h<;>first | (cases h;done) | skip
   rename_i hi10 hb v' n' hr
   cases h
   obtain ⟨h1,h2,h3,h4,h5⟩:=decS_bd r (i + 1) v' n' (by omega) hr
   have hv:=h5 (by omega)
   obtain ⟨h6,h7⟩:=decS_enc r (i + 1) v' n' (by omega) hr
   have e:9 - i=(9 - (i + 1)) + 1:=by omega
   have hb2:b.toNat < 256:=b.toNat_lt
   rw [e]
   simp only [encN]
   rw [if_neg (by omega),show (b.toNat % 128 + 128 * v') / 128=v' by omega,show (b.toNat % 128 + 128 * v') % 128=b.toNat % 128 by omega,show b.toNat % 128 + 128=b.toNat by omega]
   exact ⟨by rw [List.take_succ_cons,h6,UInt8.ofNat_toNat],by rw [List.length_cons,h7]⟩
  ·split at h
   ·cases h
   split at h
   ·cases h
   rename_i hx hb h0 h9
   cases h
   have:encN (9 - i) b.toNat=[UInt8.ofNat b.toNat]:=encN_one (by omega)
   rw [this];simp
theorem enc_decS:∀ (m v:Nat) (r:List UInt8),m≤9->v * 128 ^ (9 - m) < 2 ^ 64->(m < 9->0 < v)->decS (9 - m) (encN m v ++ r)=some (v,(encN m v).length)
 | 0,v,r,hm,hv,h0=>by
  have hv1:v≤1:=by
   rcases Nat.lt_or_ge 1 v with h | h
   ·have:2 * 128 ^ 9≤v * 128 ^ 9:=Nat.mul_le_mul_right _ h
    have:2 * 128 ^ 9=2 ^ 64:=by decide
    simp only [Nat.sub_zero] at hv
    omega
   ·exact h
  have hp:=h0 (by omega)
  obtain rfl:v=1:=by omega
  rfl
 | m + 1,v,r,hm,hv,h0=>by
  simp only [encN]
  by_cases h:v < 128
  ·rw [if_pos h]
   have hb:(UInt8.ofNat v).toNat=v:=by rw [UInt8.toNat_ofNat'];omega
   simp only [List.cons_append,List.nil_append,decS,hb]
   rw [if_neg (by omega),if_neg (by omega)]
   by_cases h9:m + 1=9
   ·rw [if_neg (by omega),if_neg (by omega)];rfl
   ·have:=h0 (by omega)
    rw [if_neg (by omega),if_neg (by omega)];rfl
  ·rw [if_neg h]
   have hb:(UInt8.ofNat (v % 128 + 128)).toNat=v % 128 + 128:=by rw [UInt8.toNat_ofNat'];omega
   have hd:v / 128 * 128 ^ (9 - m) < 2 ^ 64:=by
    have e:(128:Nat) ^ (9 - m)=128 ^ (9 - (m + 1)) * 128:=by rw [← Nat.pow_succ];congr 1;omega
    rw [e]
    calc v / 128 * (128 ^ (9 - (m + 1)) * 128)=(v / 128 * 128) * 128 ^ (9 - (m + 1)):=by ac_rfl
     _≤v * 128 ^ (9 - (m + 1)):=Nat.mul_le_mul_right _ (Nat.div_mul_le_self v 128)
     _ < 2 ^ 64:=hv
   have ih:=enc_decS m (v / 128) r (by omega) hd (fun _=>by omega)
   simp only [List.cons_append,decS,hb]
   rw [if_neg (by omega),if_pos (by omega),show 9 - (m + 1) + 1=9 - m by omega,ih]
   simp only [Option.some.injEq,Prod.mk.injEq,List.length_cons,and_true]
   omega
theorem enc_dec {v:Nat} (hv:v < 2 ^ 64) (r:List UInt8):decS 0 (enc v ++ r)=some (v,(enc v).length):=
 enc_decS 9 v r (by omega) (by simpa using hv) (fun h=>by omega)
theorem dec_enc {l:List UInt8} {v n:Nat} (h:decS 0 l=some (v,n)):l.take n=enc v∧(enc v).length=n∧v < 2 ^ 64∧n≤l.length:=by
 obtain ⟨h1,h2⟩:=decS_enc l 0 v n (by omega) h
 have h3:=decS_bd l 0 v n (by omega) h
 exact ⟨h1,h2,by simpa using h3.1,h3.2.2.1⟩
theorem or_add {a x i:Nat} (h:a < 2 ^ i):a ||| (x * 2 ^ i)=a + x * 2 ^ i:=by
 rw [Nat.or_comm,Nat.add_comm,← Nat.shiftLeft_eq,Nat.shiftLeft_add_eq_or_of_lt h]
theorem and127:∀ b:_root_.Fin 256,(UInt8.ofNat b.val &&& UInt8.ofNat 127).toNat=b.val % 128:=by decide +kernel
theorem and127' (b:UInt8):(b &&& UInt8.ofNat 127).toNat=b.toNat % 128:=by
 have:=and127 ⟨b.toNat,b.toNat_lt⟩
 simpa using this
theorem acc90 {acc:UInt64} {b:UInt8} {i:Nat} (hi:i≤9) (ha:acc.toNat < 128 ^ i) (h9:i=9->b.toNat % 128≤1):(acc ||| (shl64 ((b &&& (UInt8.ofNat 127)).toUInt64) (7 * i))).toNat=acc.toNat + b.toNat % 128 * 128 ^ i∧b.toNat % 128 * 128 ^ i < 2 ^ 64:=by
 have hp:(128:Nat) ^ i=2 ^ (7 * i):=by rw [show (128:Nat)=2 ^ 7 from rfl,Nat.pow_mul]
 have hlt:b.toNat % 128 * 128 ^ i < 2 ^ 64:=by
  by_cases h:i=9
  ·subst h
   calc b.toNat % 128 * 128 ^ 9≤1 * 128 ^ 9:=Nat.mul_le_mul_right _ (h9 rfl)
    _ < 2 ^ 64:=by decide
  ·have h1:b.toNat % 128 * 128 ^ i < 128 * 128 ^ i:=Nat.mul_lt_mul_of_pos_right (Nat.mod_lt _ (by omega)) (Nat.pow_pos (by omega))
   have h2:128 * 128 ^ i≤128 * 128 ^ 8:=Nat.mul_le_mul_left _ (Nat.pow_le_pow_right (by omega) (by omega))
   have h3:128 * 128 ^ 8 < 2 ^ 64:=by decide
   omega
 refine ⟨?_,hlt⟩
 have hs:(shl64 ((b &&& (UInt8.ofNat 127)).toUInt64) (7 * i)).toNat=b.toNat % 128 * 128 ^ i:=by
  show (((b &&& (UInt8.ofNat 127)).toUInt64).toBitVec <<< (7 * i)).toNat=_
  rw [BitVec.toNat_shiftLeft]
  have e1:((b &&& (UInt8.ofNat 127)).toUInt64).toBitVec.toNat=b.toNat % 128:=by
   show ((b &&& (UInt8.ofNat 127)).toUInt64).toNat=_
   rw [UInt8.toNat_toUInt64,and127']
  rw [e1,Nat.shiftLeft_eq,← hp,Nat.mod_eq_of_lt hlt]
 rw [UInt64.toNat_or,hs,hp]
 rw [hp] at ha
 exact or_add ha
theorem l90 (F:Nat) (b:List UInt8) (hb:b.length < 1000000000):∀ (m i fuel pos:Nat) (acc:UInt64),i + m=10->m < fuel->acc.toNat < 128 ^ i->pos≤b.length ->
  (∃ v n,decS i (b.drop pos)=some (v,n)∧iter (fun s:UInt64×Int×Int=>L105_2 F b s.1 s.2.1 s.2.2) fuel (acc,((i:Nat):Int),((pos:Nat):Int))=some (.inr (UInt64.ofNat (acc.toNat + v * 128 ^ i),0,((pos + n:Nat):Int)))) ∨
  (decS i (b.drop pos)=none∧((∃ p,iter (fun s:UInt64×Int×Int=>L105_2 F b s.1 s.2.1 s.2.2) fuel (acc,((i:Nat):Int),((pos:Nat):Int))=some (.inl p))∨∃ p,iter (fun s:UInt64×Int×Int=>L105_2 F b s.1 s.2.1 s.2.2) fuel (acc,((i:Nat):Int),((pos:Nat):Int))=some (.inr (UInt64.ofNat 0,3,p))))
 | m,i,0,pos,acc,him,hf,ha,hp=>by omega
 | 0,i,fuel + 1,pos,acc,him,hf,ha,hp=>by
  right
  have h:¬ (((i:Nat):Int) < 10):=by omega
  refine ⟨?_,.inl ⟨((pos:Nat):Int),?_⟩⟩
  ·cases b.drop pos with
   | nil=>rfl
   | cons x r=>simp only [decS];rw [if_pos (by omega)]
  ·have step:L105_2 F b acc ((i:Nat):Int) ((pos:Nat):Int)=some (.inr (.inl ((pos:Nat):Int))):=by
    simp only [L105_2,L105_2c,h,decide_false,cond_false]
   rw [it_out (f:=fun s:UInt64×Int×Int=>L105_2 F b s.1 s.2.1 s.2.2) (s:=(acc,((i:Nat):Int),((pos:Nat):Int))) step]
 | m + 1,i,fuel + 1,pos,acc,him,hf,ha,hp=>by
  have h:(((i:Nat):Int) < 10):=by omega
  by_cases he:pos=b.length
  ·right
   have e1:(((pos:Nat):Int) == (b.length:Int))=true:=by simp [he]
   refine ⟨by rw [List.drop_eq_nil_of_le (by omega)];rfl,.inr ⟨((pos:Nat):Int),?_⟩⟩
   have step:L105_2 F b acc ((i:Nat):Int) ((pos:Nat):Int)=some (.inr (.inr (UInt64.ofNat 0,3,((pos:Nat):Int)))):=by
    simp only [L105_2,L105_2c,h,decide_true,cond_true,e1]
   rw [it_out (f:=fun s:UInt64×Int×Int=>L105_2 F b s.1 s.2.1 s.2.2) (s:=(acc,((i:Nat):Int),((pos:Nat):Int))) step]
  ·have hlt:pos < b.length:=by omega
   have e1:(((pos:Nat):Int) == (b.length:Int))=false:=by simp;omega
   have hin:inb b.length ((pos:Nat):Int)=some pos:=by unfold inb;rw [if_pos (by omega)];simp
   have hg:gnn (w64 ((7:Int) * ((i:Nat):Int)))=some (7 * i):=by
    have w:w64 ((7:Int) * ((i:Nat):Int))=((7 * i:Nat):Int):=by rw [w64_in (by omega) (by omega)];omega
    rw [w];unfold gnn;rw [if_pos (by omega)];simp only [Int.toNat_natCast]
   have w1:w64 (((i:Nat):Int) + 1)=((i + 1:Nat):Int):=by rw [w64_in (by omega) (by omega)];omega
   have w2:w64 (((pos:Nat):Int) + 1)=((pos + 1:Nat):Int):=by rw [w64_in (by omega) (by omega)];omega
   have hd:b.drop pos=b[pos] :: b.drop (pos + 1):=List.drop_eq_getElem_cons hlt
   rw [hd]
   have hx:b[pos].toNat < 256:=b[pos].toNat_lt
   have hpw:(128:Nat) ^ (i + 1)=128 ^ i * 128:=Nat.pow_succ ..
   by_cases hc:128≤b[pos].toNat
   ·have hc':UInt8.ofNat 128≤b[pos]:=hc
    have step:L105_2 F b acc ((i:Nat):Int) ((pos:Nat):Int)=some (.inl (acc ||| (shl64 ((b[pos] &&& (UInt8.ofNat 127)).toUInt64) (7 * i)),((i + 1:Nat):Int),((pos + 1:Nat):Int))):=by
     simp only [L105_2,L105_2c,h,decide_true,cond_true,e1,cond_false,hin,Option.bind_some,List.getElem?_eq_getElem hlt,hg,hc',w1,w2]
    rw [it_again (f:=fun s:UInt64×Int×Int=>L105_2 F b s.1 s.2.1 s.2.2) (s:=(acc,((i:Nat):Int),((pos:Nat):Int))) step]
    have hds:decS i (b[pos] :: b.drop (pos + 1))=(match decS (i + 1) (b.drop (pos + 1)) with
      | some (v,n)=>some (b[pos].toNat % 128 + 128 * v,n + 1)
      | none=>none):=by
     simp only [decS];rw [if_neg (by omega),if_pos hc]
    rw [hds]
    by_cases hi9:i=9
    ·
     subst hi9
     have hn:decS (9 + 1) (b.drop (pos + 1))=none:=by
      cases b.drop (pos + 1) with
      | nil=>rfl
      | cons x r=>simp [decS]
     rw [hn]
     right
     refine ⟨rfl,?_⟩
     obtain ⟨f,rfl⟩:∃ f,fuel=f + 1:=⟨fuel - 1,by omega⟩
     left
     have h':¬ (((9 + 1:Nat):Int) < 10):=by omega
     refine ⟨((pos + 1:Nat):Int),?_⟩
     have step2:∀ a:UInt64,L105_2 F b a ((9 + 1:Nat):Int) ((pos + 1:Nat):Int)=some (.inr (.inl ((pos + 1:Nat):Int))):=fun a=>by
      simp only [L105_2,L105_2c,h',decide_false,cond_false]
     rw [it_out (f:=fun s:UInt64×Int×Int=>L105_2 F b s.1 s.2.1 s.2.2) (s:=(_,((9 + 1:Nat):Int),((pos + 1:Nat):Int))) (step2 _)]
    ·obtain ⟨hacc,_⟩:=acc90 (acc:=acc) (b:=b[pos]) (i:=i) (by omega) ha (fun h=>absurd h hi9)
     have hacc2:(acc ||| (shl64 ((b[pos] &&& (UInt8.ofNat 127)).toUInt64) (7 * i))).toNat < 128 ^ (i + 1):=by
      rw [hacc,hpw]
      have:b[pos].toNat % 128 * 128 ^ i≤127 * 128 ^ i:=Nat.mul_le_mul_right _ (by omega)
      omega
     rcases l90 F b hb m (i + 1) fuel (pos + 1) _ (by omega) (by omega) hacc2 (by omega) with ⟨v,n,h1,h2⟩ | ⟨h1,h2⟩
     ·left
      rw [h1]
      refine ⟨_,_,rfl,?_⟩
      rw [h2,hacc]
      have e:acc.toNat + b[pos].toNat % 128 * 128 ^ i + v * 128 ^ (i + 1)=acc.toNat + (b[pos].toNat % 128 + 128 * v) * 128 ^ i:=by
       rw [hpw,Nat.add_mul,Nat.add_assoc];congr 2;ac_rfl
      rw [e,show pos + 1 + n=pos + (n + 1) by omega]
     ·right
      rw [h1]
      exact ⟨rfl,h2⟩
   ·have hc':¬ UInt8.ofNat 128≤b[pos]:=hc
    have hds:decS i (b[pos] :: b.drop (pos + 1))=(if 0 < i∧b[pos].toNat=0 then none else if i=9∧1 < b[pos].toNat then none else some (b[pos].toNat,1)):=by
     simp only [decS];rw [if_neg (by omega),if_neg hc]
    rw [hds]
    have good:(i=9->b[pos].toNat≤1)->L105_2 F b acc ((i:Nat):Int) ((pos:Nat):Int)=some (.inr (.inr (acc ||| (shl64 ((b[pos] &&& (UInt8.ofNat 127)).toUInt64) (7 * i)),0,((pos + 1:Nat):Int)))) ->
      iter (fun s:UInt64×Int×Int=>L105_2 F b s.1 s.2.1 s.2.2) (fuel + 1) (acc,((i:Nat):Int),((pos:Nat):Int))=some (.inr (UInt64.ofNat (acc.toNat + b[pos].toNat * 128 ^ i),0,((pos + 1:Nat):Int))):=fun h9 step=>by
     rw [it_out (f:=fun s:UInt64×Int×Int=>L105_2 F b s.1 s.2.1 s.2.2) (s:=(acc,((i:Nat):Int),((pos:Nat):Int))) step]
     obtain ⟨hacc,_⟩:=acc90 (acc:=acc) (b:=b[pos]) (i:=i) (by omega) ha (fun h=>by have:=h9 h;omega)
     have hm:b[pos].toNat % 128=b[pos].toNat:=Nat.mod_eq_of_lt (by omega)
     rw [hm] at hacc
     rw [← hacc,UInt64.ofNat_toNat]
    have bad:L105_2 F b acc ((i:Nat):Int) ((pos:Nat):Int)=some (.inr (.inr (UInt64.ofNat 0,3,((pos + 1:Nat):Int))))->∃ p,iter (fun s:UInt64×Int×Int=>L105_2 F b s.1 s.2.1 s.2.2) (fuel + 1) (acc,((i:Nat):Int),((pos:Nat):Int))=some (.inr (UInt64.ofNat 0,3,p)):=fun step=>
     ⟨_,by rw [it_out (f:=fun s:UInt64×Int×Int=>L105_2 F b s.1 s.2.1 s.2.2) (s:=(acc,((i:Nat):Int),((pos:Nat):Int))) step]⟩
    have base:∀ z,(L105_2 F b acc ((i:Nat):Int) ((pos:Nat):Int)=z) ↔ ((bif decide ((0:Int) < ((i:Nat):Int)) then (bif (b[pos] == (UInt8.ofNat 0)) then some (.inr (.inr (UInt64.ofNat 0,3,((pos + 1:Nat):Int)))) else (bif (((i:Nat):Int) == 9) then (bif decide (UInt8.ofNat 1 < b[pos]) then some (.inr (.inr (UInt64.ofNat 0,3,((pos + 1:Nat):Int)))) else some (.inr (.inr (acc ||| (shl64 ((b[pos] &&& (UInt8.ofNat 127)).toUInt64) (7 * i)),0,((pos + 1:Nat):Int))))) else some (.inr (.inr (acc ||| (shl64 ((b[pos] &&& (UInt8.ofNat 127)).toUInt64) (7 * i)),0,((pos + 1:Nat):Int)))))) else (bif (((i:Nat):Int) == 9) then (bif decide (UInt8.ofNat 1 < b[pos]) then some (.inr (.inr (UInt64.ofNat 0,3,((pos + 1:Nat):Int)))) else some (.inr (.inr (acc ||| (shl64 ((b[pos] &&& (UInt8.ofNat 127)).toUInt64) (7 * i)),0,((pos + 1:Nat):Int))))) else some (.inr (.inr (acc ||| (shl64 ((b[pos] &&& (UInt8.ofNat 127)).toUInt64) (7 * i)),0,((pos + 1:Nat):Int))))))=z):=fun z=>by
     simp only [L105_2,L105_2c,h,decide_true,cond_true,e1,cond_false,hin,Option.bind_some,List.getElem?_eq_getElem hlt,hg,hc',decide_false,w2]
    have b0:(b[pos] == UInt8.ofNat 0)=decide (b[pos].toNat=0):=by
     rw [Bool.eq_iff_iff];simp only [beq_iff_eq,decide_eq_true_eq]
     exact ⟨fun h=>by rw [h];rfl,fun h=>UInt8.toNat_inj.1 (by rw [h];rfl)⟩
    have b1:decide (UInt8.ofNat 1 < b[pos])=decide (1 < b[pos].toNat):=rfl
    have i0:decide ((0:Int) < ((i:Nat):Int))=decide (0 < i):=by rw [Bool.eq_iff_iff];simp
    have i9:(((i:Nat):Int) == 9)=decide (i=9):=by rw [Bool.eq_iff_iff];simp;omega
    rw [b0,b1,i0,i9] at base
    by_cases c1:0 < i∧b[pos].toNat=0
    ·right
     rw [if_pos c1]
     exact ⟨rfl,.inr (bad ((base _).2 (by simp [c1.1,c1.2])))⟩
    ·rw [if_neg c1]
     by_cases c2:i=9∧1 < b[pos].toNat
     ·right
      rw [if_pos c2]
      have hz:¬ b[pos].toNat=0:=by omega
      exact ⟨rfl,.inr (bad ((base _).2 (by simp [c2.1,c2.2,hz])))⟩
     ·left
      rw [if_neg c2]
      refine ⟨_,_,rfl,good (fun h=>by omega) ((base _).2 ?_)⟩
      by_cases hi0:0 < i
      ·have hz:¬ b[pos].toNat=0:=fun h=>c1 ⟨hi0,h⟩
       by_cases hi9:i=9
       ·have:¬ 1 < b[pos].toNat:=fun h=>c2 ⟨hi9,h⟩
        simp [hi0,hz,hi9,this]
       ·simp [hi0,hz,hi9]
      ·have hi9:¬ i=9:=by omega
       simp [hi0,hi9]
theorem t90 {F:Nat} (hF:50 < F) (b:List UInt8) (hb:b.length < 1000000000) {pos:Nat} (hp:pos≤b.length) :
  (∃ v n,decS 0 (b.drop pos)=some (v,n)∧T105 F ((pos:Nat):Int) b=some (UInt64.ofNat v,0,((pos + n:Nat):Int))) ∨
  (decS 0 (b.drop pos)=none∧∃ p,T105 F ((pos:Nat):Int) b=some (UInt64.ofNat 0,3,p)):=by
 have z:((0:Nat):Int)=0:=rfl
 rcases l90 F b hb 10 0 F pos (UInt64.ofNat 0) (by omega) (by omega) (by decide) hp with ⟨v,n,h1,h2⟩ | ⟨h1,h2⟩
 ·left
  rw [z] at h2
  refine ⟨v,n,h1,?_⟩
  simp only [T105,T105c]
  rw [h2]
  simp [elimS]
 ·right
  rw [z] at h2
  refine ⟨h1,?_⟩
  rcases h2 with ⟨p,h2⟩ | ⟨p,h2⟩
  ·exact ⟨p,by simp only [T105,T105c];rw [h2];rfl⟩
  ·exact ⟨p,by simp only [T105,T105c];rw [h2];rfl⟩
def IsBody (F:Nat) (b c k:List UInt8):Prop:=c.length≤32768∧k.length=16∧T37 F (c.length:Int)=some ((b.length:Int),0)∧b=bodyL b.length c k
theorem cls_le {F:Nat} (hF:50 < F) {c:List UInt8} {D:Int} (hc:c.length≤32768) (h:T37 F (c.length:Int)=some (D,0)):(sz c.length:Nat) + (c.length:Int) + 16≤D∧∃ j,j < 38∧D=cls j:=by
 obtain ⟨j,hj,h1,h2,_⟩:=class_spec hF (n:=(c.length:Int)) (by omega) (by omega)
 rw [h] at h1
 have:D=cls j:=by simpa using h1
 rw [Int.toNat_natCast] at h2
 exact ⟨by omega,j,hj,this⟩
theorem app4 {b:List UInt8} {n v:Nat} (h:n + v + 16≤b.length):b=b.take n ++ (b.drop n).take v ++ (b.drop (n + v)).take (b.length - 16 - n - v) ++ b.drop (b.length - 16):=by
 have h1:b.drop (b.length - 16)=((b.drop (n + v)).drop (b.length - 16 - n - v)):=by rw [List.drop_drop];congr 1;omega
 have h2:b.drop (n + v)=(b.drop n).drop v:=by rw [List.drop_drop]
 rw [List.append_assoc,h1,List.take_append_drop,List.append_assoc,h2,List.take_append_drop,List.take_append_drop]
theorem parts {F:Nat} (hF:50 < F) {b c k:List UInt8} (h:IsBody F b c k):decS 0 b=some (c.length,sz c.length)∧sz c.length + c.length + 16≤b.length∧(b.drop (sz c.length)).take c.length=c∧(b.drop (sz c.length + c.length)).take (b.length - 16 - sz c.length - c.length)=List.replicate (b.length - 16 - sz c.length - c.length) 0∧b.drop (b.length - 16)=k:=by
 obtain ⟨hc,hk,h14,hb⟩:=h
 obtain ⟨hle,_⟩:=cls_le hF hc h14
 have hle':sz c.length + c.length + 16≤b.length:=by omega
 have he:=enc_len hc
 have hd:decS 0 b=some (c.length,sz c.length):=by
  have:=enc_dec (v:=c.length) (by omega) (c ++ List.replicate (b.length - 16 - (enc c.length).length - c.length) 0 ++ k)
  rw [he] at this
  rw [← this]
  conv=>lhs;rw [hb]
  simp [bodyL,he]
 have h4:=app4 (b:=b) (n:=sz c.length) (v:=c.length) hle'
 have e:b.take (sz c.length) ++ (b.drop (sz c.length)).take c.length ++ (b.drop (sz c.length + c.length)).take (b.length - 16 - sz c.length - c.length) ++ b.drop (b.length - 16)=enc c.length ++ c ++ List.replicate (b.length - 16 - sz c.length - c.length) 0 ++ k:=by
  rw [← h4]
  conv=>lhs;rw [hb]
  simp [bodyL,he]
 obtain ⟨e1,e2⟩:=List.append_inj' e (by simp [hk];omega)
 obtain ⟨e3,e4⟩:=List.append_inj' e1 (by simp;omega)
 obtain ⟨e5,e6⟩:=List.append_inj' e3 (by simp;omega)
 exact ⟨hd,hle',e6,e4,e2⟩
theorem of_parts {F:Nat} (hF:50 < F) {b:List UInt8} {v n:Nat} (hd:decS 0 b=some (v,n)) (hv:v≤32768) (h14:T37 F (v:Int)=some ((b.length:Int),0)) (hz:(b.drop (n + v)).take (b.length - 16 - n - v)=List.replicate (b.length - 16 - n - v) 0) (hl:n + v + 16≤b.length) :
  IsBody F b ((b.drop n).take v) (b.drop (b.length - 16)):=by
 obtain ⟨h1,h2,h3,h4⟩:=dec_enc hd
 have he:=enc_len hv
 have hcl:((b.drop n).take v).length=v:=by simp;omega
 refine ⟨by omega,by simp;omega,by rw [hcl];exact h14,?_⟩
 have:=app4 hl
 simp only [bodyL,hcl]
 rw [← h1]
 have hn:(b.take n).length=n:=by simp;omega
 rw [hn,← hz]
 exact this
theorem t61 {F:Nat} (hF:50 < F) (b:List UInt8) (hb:b.length < 1000000) :
  (∃ v n,decS 0 b=some (v,n)∧v≤32768∧n + v≤b.length∧T164 F 0 0 0 32768 b=some ((b.drop n).take v,((n + v:Nat):Int),0,0)) ∨
  ((∀ v n,decS 0 b=some (v,n)->v≤32768->n + v≤b.length->False)∧∃ e,T164 F 0 0 0 32768 b=some ([],0,0,e)):=by
 have z:((0:Nat):Int)=0:=rfl
 have e0:((0:Int) != 0)=false:=by decide
 have e3:((3:Int) != 0)=true:=by decide
 have e2:((2:Int) != 0)=true:=by decide
 have g0:gapp ([]:List UInt8) ((b.drop 0).take (0 - 0))=some []:=by simp [gapp]
 have hlim:(UInt64.ofInt (if (32768:Int) < 0 then 0 else 32768))=UInt64.ofNat 32768:=by decide
 rcases t90 hF b (by omega) (pos:=0) (by omega) with ⟨v,n,h1,h2⟩ | ⟨h1,p,h2⟩
 ·rw [List.drop_zero] at h1
  rw [z,Nat.zero_add] at h2
  obtain ⟨q1,q2,q3,q4⟩:=dec_enc h1
  have hvn:(UInt64.ofNat v).toNat=v:=by rw [UInt64.toNat_ofNat'];exact Nat.mod_eq_of_lt q3
  by_cases hv:v≤32768
  ·have hlt:¬ UInt64.ofNat 32768 < UInt64.ofNat v:=by
    show ¬ ((UInt64.ofNat 32768).toNat < (UInt64.ofNat v).toNat)
    rw [hvn]
    have:(UInt64.ofNat 32768).toNat=32768:=rfl
    omega
   have w1:w64 ((UInt64.ofNat v).toNat:Int)=(v:Int):=by rw [hvn];exact w64_in (by omega) (by omega)
   have h75:T108 F 32768 0 b=some ((v:Int),0,(n:Int)):=by
    simp only [T108,T108c,h2,Option.bind_some,e0,cond_false,hlim,hlt,decide_false,w1]
   have w2:w64 ((b.length:Int) - (n:Int))=((b.length - n:Nat):Int):=by rw [w64_in (by omega) (by omega)];omega
   by_cases hnv:n + v≤b.length
   ·left
    refine ⟨v,n,h1,hv,hnv,?_⟩
    have c1:¬ (((b.length - n:Nat):Int) < (v:Int)):=by omega
    have w3:w64 ((n:Int) + (v:Int))=((n + v:Nat):Int):=by rw [w64_in (by omega) (by omega)];omega
    have g1:gslb b.length (n:Int) ((n + v:Nat):Int)=some (n,n + v):=by unfold gslb;rw [if_pos (by omega)];simp only [Int.toNat_natCast]
    have h76:T103 F (v:Int) (n:Int) b=some ((n,n + v),0,((n + v:Nat):Int)):=by
     simp only [T103,T103c,w2,c1,decide_false,cond_false,w3,g1,Option.bind_some]
    have h63:T166 F 32768 0 b=some ((n,n + v),0,((n + v:Nat):Int)):=by
     simp only [T166,T166c,h75,Option.bind_some,e0,cond_false,h76]
    have g2:gapp ([]:List UInt8) ((b.drop n).take (n + v - n))=some ((b.drop n).take v):=by
     rw [Nat.add_sub_cancel_left];unfold gapp;rw [if_pos (by simp;omega)];simp
    have h62:T165 F 32768 0 b=some (0,((n + v:Nat):Int),(b.drop n).take v):=by
     simp only [T165,T165c,h63,Option.bind_some,g2]
    have h74:T173 F 0 ((n + v:Nat):Int) 0 ((b.drop n).take v)=some ((0,((b.drop n).take v).length),((n + v:Nat):Int)):=by
     simp only [T173,T173c,e0,cond_false]
    simp only [T164,T164c,e0,cond_false,h62,Option.bind_some,h74,List.drop_zero,Nat.sub_zero,List.take_length]
   ·right
    refine ⟨fun v' n' hd hv' hn'=>by rw [h1] at hd;cases hd;omega,3,?_⟩
    have c1:(((b.length - n:Nat):Int) < (v:Int)):=by omega
    have h76:T103 F (v:Int) (n:Int) b=some ((0,0),3,(n:Int)):=by
     simp only [T103,T103c,w2,c1,decide_true,cond_true]
    have h63:T166 F 32768 0 b=some ((0,0),3,(n:Int)):=by
     simp only [T166,T166c,h75,Option.bind_some,e0,cond_false,h76]
    have h62:T165 F 32768 0 b=some (3,(n:Int),[]):=by
     simp only [T165,T165c,h63,Option.bind_some,g0]
    have h74:T173 F 0 (n:Int) 3 []=some ((0,0),0):=by
     simp only [T173,T173c,e3,cond_true]
    simp only [T164,T164c,e0,cond_false,h62,Option.bind_some,h74,List.drop_zero,Nat.sub_zero,List.take_zero]
  ·right
   refine ⟨fun v' n' hd hv' hn'=>by rw [h1] at hd;cases hd;omega,2,?_⟩
   have hlt:UInt64.ofNat 32768 < UInt64.ofNat v:=by
    show ((UInt64.ofNat 32768).toNat < (UInt64.ofNat v).toNat)
    rw [hvn]
    have:(UInt64.ofNat 32768).toNat=32768:=rfl
    omega
   have h75:T108 F 32768 0 b=some (0,2,(n:Int)):=by
    simp only [T108,T108c,h2,Option.bind_some,e0,cond_false,hlim,hlt,decide_true,cond_true]
   have h63:T166 F 32768 0 b=some ((0,0),2,(n:Int)):=by
    simp only [T166,T166c,h75,Option.bind_some,e2,cond_true]
   have h62:T165 F 32768 0 b=some (2,(n:Int),[]):=by
    simp only [T165,T165c,h63,Option.bind_some,g0]
   have h74:T173 F 0 (n:Int) 2 []=some ((0,0),0):=by
    simp only [T173,T173c,e2,cond_true]
   simp only [T164,T164c,e0,cond_false,h62,Option.bind_some,h74,List.drop_zero,Nat.sub_zero,List.take_zero]
 ·right
  rw [List.drop_zero] at h1
  rw [z] at h2
  refine ⟨fun v' n' hd _ _=>absurd (h1.symm.trans hd) (by simp),3,?_⟩
  have h75:T108 F 32768 0 b=some (0,3,p):=by
   simp only [T108,T108c,h2,Option.bind_some,e3,cond_true]
  have h63:T166 F 32768 0 b=some ((0,0),3,p):=by
   simp only [T166,T166c,h75,Option.bind_some,e3,cond_true]
  have h62:T165 F 32768 0 b=some (3,p,[]):=by
   simp only [T165,T165c,h63,Option.bind_some,g0]
  have h74:T173 F 0 p 3 []=some ((0,0),0):=by
   simp only [T173,T173c,e3,cond_true]
  simp only [T164,T164c,e0,cond_false,h62,Option.bind_some,h74,List.drop_zero,Nat.sub_zero,List.take_zero]
theorem l20 (F:Nat) {l:List UInt8} (hl:l.length < 1000000):∀ (m fuel i:Nat),i + m=l.length->m < fuel->iter (fun s=>L114_2 F l (l.length:Int) s) fuel ((i:Nat):Int)=some (if l.drop i=List.replicate m 0 then .inl () else .inr 3)
 | m,0,i,hi,hf=>by omega
 | 0,fuel + 1,i,hi,hf=>by
  have h:¬ (((i:Nat):Int) < (l.length:Int)):=by omega
  have step:L114_2 F l (l.length:Int) ((i:Nat):Int)=some (.inr (.inl ())):=by
   simp only [L114_2,L114_2c,h,decide_false,cond_false]
  rw [it_out (f:=fun s=>L114_2 F l (l.length:Int) s) step,List.drop_eq_nil_of_le (by omega)]
  simp
 | m + 1,fuel + 1,i,hi,hf=>by
  have h:(((i:Nat):Int) < (l.length:Int)):=by omega
  have hlt:i < l.length:=by omega
  have hx:ix l ((i:Nat):Int)=some l[i]:=by unfold ix;rw [if_pos (by omega)];simp [hlt]
  have w:w64 (((i:Nat):Int) + 1)=(((i + 1:Nat)):Int):=by rw [w64_in (by omega) (by omega)];omega
  rw [List.drop_eq_getElem_cons hlt,List.replicate_succ]
  by_cases hc:l[i]=UInt8.ofNat 0
  ·have hne:(l[i] != UInt8.ofNat 0)=false:=by simp [hc]
   have step:L114_2 F l (l.length:Int) ((i:Nat):Int)=some (.inl (((i + 1:Nat)):Int)):=by
    simp only [L114_2,L114_2c,h,decide_true,cond_true,hx,Option.bind_some,hne,cond_false,w]
   rw [it_again (f:=fun s=>L114_2 F l (l.length:Int) s) step,l20 F hl m fuel (i + 1) (by omega) (by omega)]
   have hc2:l[i]=0:=hc
   simp [hc2]
  ·have hne:(l[i] != UInt8.ofNat 0)=true:=by simpa using hc
   have step:L114_2 F l (l.length:Int) ((i:Nat):Int)=some (.inr (.inr 3)):=by
    simp only [L114_2,L114_2c,h,decide_true,cond_true,hx,Option.bind_some,hne]
   rw [it_out (f:=fun s=>L114_2 F l (l.length:Int) s) step]
   have hc2:¬ l[i]=0:=hc
   rw [if_neg (fun h=>by injection h with h1 _;exact hc2 h1)]
theorem t20 {F:Nat} (hF:50 < F) (b:List UInt8) (hb:b.length < 1000000) (hbF:b.length < F) :
  (∃ c k,IsBody F b c k∧T114 F b=some (c,0,k))∨((∀ c k,¬ IsBody F b c k)∧T114 F b=some ([],3,[])):=by
 have h46:T62 F b=some (0,0,0,b):=by
  have:gapp ([]:List UInt8) b=some b:=by unfold gapp;rw [if_pos (by simp;omega)];simp
  simp only [T62,T62c,this,Option.bind_some]
 rcases t61 hF b hb with ⟨v,n,h1,h2,h3,h4⟩ | ⟨h1,e,h4⟩
 ·have h47:T147 F 32768 0 0 0 b=some ((b.drop n).take v,((n + v:Nat):Int),0,0):=by
   simp only [T147,T147c,h4,Option.bind_some]
  obtain ⟨q1,q2,q3,q4⟩:=dec_enc h1
  have hn:n=sz v:=by rw [← q2,enc_len h2]
  have hsz:=sz_bd v
  have w1:w64 ((b.length:Int) - ((n + v:Nat):Int))=((b.length - (n + v):Nat):Int):=by rw [w64_in (by omega) (by omega)];omega
  have h48:T148 F ((n + v:Nat):Int) b=some ((b.length - (n + v):Nat):Int):=by simp only [T148,T148c,w1]
  have ne1:(((b.length - (n + v):Nat):Int) == (b.length:Int))=false:=by simp;omega
  have hcl:((b.drop n).take v).length=v:=by simp;omega
  obtain ⟨j,hj,c1,c2,_⟩:=class_spec (F:=F) hF (n:=(v:Int)) (by omega) (by omega)
  rw [Int.toNat_natCast] at c2
  have run:T114 F b=(bif (cls j != (b.length:Int)) then some ([],3,[]) else (gsl b (w64 ((b.length:Int) - ((b.length - (n + v):Nat):Int))) (w64 ((b.length:Int) - 16))).bind fun x23=>(iter (fun s=>L114_2 F x23 (x23.length:Int) s) F (0:Int)).bind fun z32=>elimS (fun _=>(gsl b (w64 ((b.length:Int) - 16)) (b.length:Int)).bind fun x33=>(gapp ([]:List UInt8) x33).bind fun x34=>some ((b.drop n).take v,0,x34)) (fun z32=>some ([],z32,[])) z32):=by
   simp only [T114,T114c,h46,Option.bind_some,h47,h48,ne1,cond_false,hcl,c1]
  by_cases hL:cls j=(b.length:Int)
  ·have ne2:(cls j != (b.length:Int))=false:=by simp [hL]
   have w2:w64 ((b.length:Int) - ((b.length - (n + v):Nat):Int))=((n + v:Nat):Int):=by rw [w64_in (by omega) (by omega)];omega
   have w3:w64 ((b.length:Int) - 16)=((b.length - 16:Nat):Int):=by rw [w64_in (by omega) (by omega)];omega
   have hle:n + v + 16≤b.length:=by omega
   have g1:gsl b ((n + v:Nat):Int) ((b.length - 16:Nat):Int)=some ((b.drop (n + v)).take (b.length - 16 - n - v)):=by
    unfold gsl;rw [if_pos (by omega)];simp only [Int.toNat_natCast];rw [show b.length - 16 - (n + v)=b.length - 16 - n - v by omega]
   have g2:gsl b ((b.length - 16:Nat):Int) (b.length:Int)=some (b.drop (b.length - 16)):=by
    unfold gsl;rw [if_pos (by omega)];simp only [Int.toNat_natCast]
    rw [List.take_of_length_le (by simp)]
   have g3:gapp ([]:List UInt8) (b.drop (b.length - 16))=some (b.drop (b.length - 16)):=by unfold gapp;rw [if_pos (by simp;omega)];simp
   have xl:((b.drop (n + v)).take (b.length - 16 - n - v)).length=b.length - 16 - n - v:=by simp;omega
   have l:=l20 F (l:=(b.drop (n + v)).take (b.length - 16 - n - v)) (by omega) (b.length - 16 - n - v) F 0 (by omega) (by omega)
   have z:((0:Nat):Int)=0:=rfl
   rw [z,List.drop_zero] at l
   rw [run]
   simp only [ne2,cond_false,w2,w3,g1,Option.bind_some,l,g2,g3]
   by_cases hz:(b.drop (n + v)).take (b.length - 16 - n - v)=List.replicate (b.length - 16 - n - v) 0
   ·left
    refine ⟨_,_,of_parts hF h1 h2 (by rw [c1,hL]) hz hle,?_⟩
    rw [if_pos hz];rfl
   ·right
    refine ⟨fun c k hB=>?_,by rw [if_neg hz];rfl⟩
    obtain ⟨p1,p2,p3,p4,p5⟩:=parts hF hB
    rw [h1] at p1
    simp only [Option.some.injEq,Prod.mk.injEq] at p1
    have e1:=p1.1;have e2:=p1.2;rw [← e1] at e2 p4;rw [← e2] at p4
    exact hz p4
  ·right
   have ne2:(cls j != (b.length:Int))=true:=by simpa using hL
   refine ⟨fun c k hB=>?_,by rw [run,ne2];rfl⟩
   obtain ⟨p1,p2,p3,p4,p5⟩:=parts hF hB
   rw [h1] at p1
   simp only [Option.some.injEq,Prod.mk.injEq] at p1
   have:=hB.2.2.1
   rw [← p1.1,c1] at this
   simp at this
   exact hL this
 ·have h47:T147 F 32768 0 0 0 b=some ([],0,0,e):=by
   simp only [T147,T147c,h4,Option.bind_some]
  right
  refine ⟨fun c k hB=>?_,?_⟩
  ·obtain ⟨p1,p2,p3,p4,p5⟩:=parts hF hB
   exact h1 _ _ p1 hB.1 (by omega)
  ·have w1:w64 ((b.length:Int) - 0)=(b.length:Int):=by rw [Int.sub_zero];exact w64_in (by omega) (by omega)
   have h48:T148 F 0 b=some (b.length:Int):=by simp only [T148,T148c,w1]
   simp only [T114,T114c,h46,Option.bind_some,h47,h48,beq_self_eq_true,cond_true]
theorem isBody_uniq {F:Nat} (hF:50 < F) {b c k c' k':List UInt8} (h:IsBody F b c k) (h':IsBody F b c' k'):c=c'∧k=k':=by
 obtain ⟨p1,p2,p3,p4,p5⟩:=parts hF h
 obtain ⟨q1,q2,q3,q4,q5⟩:=parts hF h'
 rw [p1] at q1
 simp only [Option.some.injEq,Prod.mk.injEq] at q1
 refine ⟨?_,by rw [← p5,q5]⟩
 rw [← p3,q1.1,q3]
end Go.Proofs.YtpnhgldpeiogbaaGreatDoor
namespace Go.Proofs.YtpnhgldpeiogbaaGreatDoor
open Go.Tw
set_option linter.unusedSimpArgs false
set_option linter.unusedVariables false
theorem lp50 {F:Nat} (hF:50 < F) (ls:List (List UInt8)) (hl:ls.length≤5):∃ r,iter (fun s:Int=>L72_2 F (ls.length:Int) ls s) F (0:Int)=some r∧((r=.inl ()∧∀ j (h:j < ls.length),ls[j].length=32)∨(r=.inr false∧∃ j,∃ h:j < ls.length,ls[j].length ≠ 32)):=
 iter1 (f:=fun s:Int=>L72_2 F (ls.length:Int) ls s) (fun s=>∃ i:Nat,s=i∧i≤ls.length∧∀ j (h:j < ls.length),j < i->ls[j].length=32) _ (fun s=>ls.length - s.toNat) (by
  rintro s ⟨i,rfl,hi,hj⟩
  by_cases h:i < ls.length
  ·have h1:(((i:Nat):Int) < (ls.length:Int)):=by omega
   have e3:w64 (((i:Nat):Int) + 1)=((i + 1:Nat):Int):=by rw [w64_in (by omega) (by omega)];omega
   by_cases h32:ls[i].length=32
   ·have e:((ls[i].length:Int) != 32)=false:=by rw [h32];rfl
    refine .inl ⟨((i + 1:Nat):Int),?_,⟨i + 1,rfl,by omega,fun j hj2 hlt=>?_⟩,by simp only [Int.toNat_natCast];omega⟩
    ·simp only [L72_2,L72_2c,h1,decide_true,cond_true,inb_nat h,Option.bind_some,List.getElem?_eq_getElem h,e,cond_false,e3]
    ·by_cases hji:j=i
     ·subst hji;exact h32
     ·exact hj j hj2 (by omega)
   ·have e:((ls[i].length:Int) != 32)=true:=by rw [bne_iff_ne];omega
    refine .inr ⟨.inr false,?_,.inr ⟨rfl,i,h,h32⟩⟩
    simp only [L72_2,L72_2c,h1,decide_true,cond_true,inb_nat h,Option.bind_some,List.getElem?_eq_getElem h,e]
  ·have h1:¬ (((i:Nat):Int) < (ls.length:Int)):=by omega
   refine .inr ⟨.inl (),?_,.inl ⟨rfl,fun j h2=>hj j h2 (by omega)⟩⟩
   simp only [L72_2,L72_2c,h1,decide_false,cond_false]) F (0:Int) ⟨0,rfl,by omega,fun j _ h=>absurd h (by omega)⟩ (by simp only [Int.toNat_zero];omega)
theorem valid {F:Nat} (hF:50 < F) (p0 p1 p2 p3 p4:List UInt8):(T72 F p0 p1 p2 p3 p4=some true∧p0.length=32∧p1.length=32∧p2.length=32)∨T72 F p0 p1 p2 p3 p4=some false:=by
 obtain ⟨r,h1,h2⟩:=lp50 hF [p0,p1,p2,p3,p4] (by simp)
 rcases h2 with ⟨rfl,h⟩ | ⟨rfl,j,hj,h⟩
 ·exact .inl ⟨by simp only [T72,T72c,h1,Option.bind_some,elimS],h 0 (by simp),h 1 (by simp),h 2 (by simp)⟩
 ·exact .inr (by simp only [T72,T72c,h1,Option.bind_some,elimS])
section
variable {F:Nat} {p0 p1 p2 p3 p4:List UInt8}
theorem name_ok (hF:45000 < F) (v1:T72 F p0 p1 p2 p3 p4=some true) (k0:p0.length=32) {g:Int} (h0:0≤g) {c:List UInt8} (hc:c.length≤32768):∃ t,T68 F p0 p1 p2 p3 p4 g c=some (t,0)∧t.length=32:=by
 have hg:¬ g < 0:=by omega
 have d:¬ ((32768:Int) < (c.length:Int)):=by omega
 have el:=encN_len 9 (UInt64.ofInt g).toNat
 have el2:(enc (UInt64.ofInt g).toNat).length≤10:=by simpa [enc] using el.1
 have ga:gapp (enc (UInt64.ofInt g).toNat) c=some (enc (UInt64.ofInt g).toNat ++ c):=gapp_ok (by omega)
 obtain ⟨t,t1,t3⟩:=tag_eq (F:=F) (k:=p0) (d:=enc (UInt64.ofInt g).toNat ++ c) (by rw [List.length_append];omega) (by omega) (by rw [List.length_append];omega)
 exact ⟨t,by simp only [T68,T68c,v1,Option.bind_some,Bool.not_true,cond_false,hg,d,decide_false,t44 (show 50 < F by omega),ga,t1],t3⟩
theorem check_ok11 (hF:45000 < F) (v1:T72 F p0 p1 p2 p3 p4=some true) (k2:p2.length=32) {c:List UInt8} (hc:c.length≤32768):∃ k,T69 F p0 p1 p2 p3 p4 c=some (0,k)∧k.length=16:=by
 have d:¬ ((32768:Int) < (c.length:Int)):=by omega
 obtain ⟨t,t1,t3⟩:=tag_eq (F:=F) (k:=p2) (d:=c) (by omega) (by omega) (by omega)
 have g1:gsl t (0:Int) (16:Int)=some (t.take 16):=gsl_nat (a:=0) (b:=16) (by omega) (by omega)
 have g2:gstr (t.take 16)=some (t.take 16):=by unfold gstr;rw [if_pos (by simp;omega)]
 exact ⟨t.take 16,by simp only [T69,T69c,v1,Option.bind_some,Bool.not_true,cond_false,d,decide_false,t1,g1,g2],by simp;omega⟩
theorem strm_ok (hF:45000 < F) (v1:T72 F p0 p1 p2 p3 p4=some true) (k1:p1.length=32) {nm:List UInt8} (hm:nm.length=32) {N:Nat} (hN:N≤41000):∃ s,T70 F p0 p1 p2 p3 p4 nm (N:Int)=some (0,s)∧s.length=N:=by
 have d0:((nm.length:Int) != 32)=false:=by rw [hm];rfl
 have h0:¬ (N:Int) < 0:=by omega
 have h1:¬ (65536:Int) < (N:Int):=by omega
 have g1:gsl nm (0:Int) (12:Int)=some (nm.take 12):=gsl_nat (a:=0) (b:=12) (by omega) (by omega)
 obtain ⟨s,s1,s3⟩:=stream_ok (F:=F) (k:=p1) (n:=nm.take 12) (N:=N) (by omega) (by omega) k1 (by simp;omega)
 exact ⟨s,by simp only [T70,T70c,v1,Option.bind_some,Bool.not_true,cond_false,d0,h0,h1,decide_false,g1,s1],s3⟩
theorem seal_open (hF:45000 < F) {c:List UInt8} (hc:c.length≤400):∃ nm sz' e x,T29 F p0 p1 p2 p3 p4 0 c=some (nm,(0:Int),sz',e,x)∧(e ≠ 0∨e=0∧sz'=(c.length:Int)∧nm.length=32∧x.length < 1000∧T31 F p0 p1 p2 p3 p4 nm 0 sz' x=some (c,0)):=by
 rcases valid (F:=F) (by omega) p0 p1 p2 p3 p4 with ⟨v1,k0,k1,k2⟩ | v1
 ·obtain ⟨nm,a1,hl⟩:=name_ok hF v1 k0 (g:=0) (by omega) (c:=c) (by omega)
  obtain ⟨k,b1,hk⟩:=check_ok11 hF v1 k2 (c:=c) (by omega)
  obtain ⟨j,hj,c3,c4,c5⟩:=class_spec (F:=F) (by omega) (n:=(c.length:Int)) (by omega) (by omega)
  have hb:=cls_b ⟨j,hj⟩
  simp only at hb
  have hsz:=sz_bd (c.length:Int).toNat
  have h1000:cls j < 1000:=by
   rcases c5 with rfl | h
   ·decide
   ·have:∀ j:_root_.Fin 38,j.val≤13∨500≤cls (j.val - 1):=by decide +kernel
    have h13:∀ j:_root_.Fin 38,j.val≤13->cls j.val < 1000:=by decide +kernel
    rcases this ⟨j,hj⟩ with h' | h'
    ·exact h13 ⟨j,hj⟩ h'
    ·simp only at h';omega
  obtain ⟨D,hD⟩:∃ D:Nat,cls j=(D:Int):=⟨(cls j).toNat,by omega⟩
  obtain ⟨s,s1,hs⟩:=strm_ok hF v1 k1 hl (N:=D) (by omega)
  obtain ⟨q1,q2⟩:=t34 (F:=F) (by omega) (s:=s) (k:=k) (c:=c) (by omega) hk hj c3 (by rw [hs,hD];rfl)
  rw [hD,Int.toNat_natCast] at q1 q2
  rw [hD] at c3
  have d:((0:Int) != 0)=false:=by decide
  have hxl:(xorL (bodyL D c k) s).length=D:=by rw [xorL_len (by rw [q2,hs]),q2]
  have hS:T29 F p0 p1 p2 p3 p4 0 c=some (nm,(0:Int),(c.length:Int),0,xorL (bodyL D c k) s):=by
   simp only [T29,T29c,a1,Option.bind_some,d,cond_false,b1,c3,s1,q1]
  refine ⟨nm,(c.length:Int),0,_,hS,.inr ⟨rfl,rfl,hl,by omega,?_⟩⟩
  have hB:IsBody F (bodyL D c k) c k:=⟨by omega,hk,by rw [q2];exact c3,by rw [q2]⟩
  have h57:=t57 (F:=F) (a:=xorL (bodyL D c k) s) (b:=s) (by omega) (by omega) (by omega)
  have hx:xorL (xorL (bodyL D c k) s) s=bodyL D c k:=by rw [xorL_comm,xorL_comm (bodyL D c k) s,xorL_cancel (by rw [hs,q2])]
  rw [hx] at h57
  have hO:T73 F s (xorL (bodyL D c k) s)=some (c,0,k):=by
   rcases t20 (F:=F) (by omega) (bodyL D c k) (by omega) (by omega) with ⟨c',k',r1,r2⟩ | ⟨r1,_⟩
   ·obtain ⟨rfl,rfl⟩:=isBody_uniq (by omega) r1 hB
    simp only [T73,T73c,h57,Option.bind_some,d,cond_false,r2]
   ·exact absurd hB (r1 c k)
  have d1:((nm.length:Int) != 32)=false:=by rw [hl];rfl
  have d2:¬ (0:Int) < 0:=by omega
  have d4:(((xorL (bodyL D c k) s).length:Int) != (D:Int))=false:=by rw [hxl];simp
  simp only [T31,T31c,c3,v1,Option.bind_some,Bool.not_true,cond_false,d1,d2,decide_false,d,d4,s1,hO,bne_self_eq_false,b1,a1]
 ·have hN:T68 F p0 p1 p2 p3 p4 0 c=some ([],1):=by
   simp only [T68,T68c,v1,Option.bind_some,Bool.not_false,cond_true]
  have d:((1:Int) != 0)=true:=by decide
  exact ⟨[],0,1,[],by simp only [T29,T29c,hN,Option.bind_some,d,cond_true],.inl (by decide)⟩
end
end Go.Proofs.YtpnhgldpeiogbaaGreatDoor
namespace Go.Proofs.YtpnhgldpeiogbaaGreatDoor
open Go.Tw
set_option linter.unusedSimpArgs false
set_option linter.unusedVariables false
def csum (T:List (UInt8×UInt8)) (r:UInt8):UInt8:=T.foldr (fun p a=>gm p.2 (gi (r ^^^ p.1)) ^^^ a) 0
theorem x_eq {a b:UInt8} (h:a ^^^ b=0):a=b:=by
 have:a ^^^ b ^^^ b=0 ^^^ b:=by rw [h]
 rwa [UInt8.xor_assoc,xx,xz,zx] at this
theorem x_ne {a b:UInt8} (h:a ≠ b):a ^^^ b ≠ 0:=fun e=>h (x_eq e)
theorem x_swap (a b c d:UInt8):(a ^^^ b) ^^^ (c ^^^ d)=(a ^^^ c) ^^^ (b ^^^ d):=by
 rw [UInt8.xor_assoc,← UInt8.xor_assoc b c d,UInt8.xor_comm b c,UInt8.xor_assoc c b d,← UInt8.xor_assoc a c]
theorem gm_inv {u:UInt8} (h:u ≠ 0):gm u (gi u)=1:=gi_ok u h
theorem gi_ne {u:UInt8} (h:u ≠ 0):gi u ≠ 0:=fun e=>by
 have:=gi_ok u h
 rw [e,gm_zero] at this
 exact absurd this (by decide)
theorem cau_term {r r0 c c0 x:UInt8} (hr:r ≠ c) (hr0:r0 ≠ c):gm (r ^^^ c0) (gm x (gi (r ^^^ c))) ^^^ gm (r0 ^^^ c0) (gm x (gi (r0 ^^^ c)))=gm (r ^^^ r0) (gm (gm x (gm (c ^^^ c0) (gi (r0 ^^^ c)))) (gi (r ^^^ c))):=by
 have hu:=x_ne hr
 have hv:=x_ne hr0
 have e1:r ^^^ c0=(r ^^^ c) ^^^ (c ^^^ c0):=by rw [UInt8.xor_assoc,← UInt8.xor_assoc c c c0,xx,zx]
 have e2:r0 ^^^ c0=(r0 ^^^ c) ^^^ (c ^^^ c0):=by rw [UInt8.xor_assoc,← UInt8.xor_assoc c c c0,xx,zx]
 have e3:r ^^^ r0=(r ^^^ c) ^^^ (r0 ^^^ c):=by rw [x_swap,xx,xz]
 rw [e1,e2,e3]
 generalize r ^^^ c=u at *
 generalize r0 ^^^ c=v at *
 generalize c ^^^ c0=k at *
 have f1:gm u (gm x (gi u))=x:=by rw [gm_comm x,← gm_assoc,gm_inv hu,one_gm]
 have f2:gm v (gm x (gi v))=x:=by rw [gm_comm x,← gm_assoc,gm_inv hv,one_gm]
 have g1:gm u (gm (gm x (gm k (gi v))) (gi u))=gm k (gm x (gi v)):=by
  rw [gm_comm (gm x (gm k (gi v))),← gm_assoc,gm_inv hu,one_gm,← gm_assoc x,gm_comm x k,gm_assoc]
 have g2:gm v (gm (gm x (gm k (gi v))) (gi u))=gm k (gm x (gi u)):=by
  have:gm v (gm x (gm k (gi v)))=gm k x:=by
   rw [← gm_assoc x,gm_comm (gm x k),← gm_assoc,gm_inv hv,one_gm,gm_comm]
  rw [← gm_assoc,this,gm_assoc]
 rw [gm_left,gm_left,gm_left,f1,f2,g1,g2,x_swap,xx,zx,UInt8.xor_comm]
def yT (r0 c0:UInt8) (T:List (UInt8×UInt8)):List (UInt8×UInt8):=T.map fun p=>(p.1,gm p.2 (gm (p.1 ^^^ c0) (gi (r0 ^^^ p.1))))
theorem cau_sum {r r0 c0:UInt8}:∀ {T:List (UInt8×UInt8)},(∀ p ∈ T,r ≠ p.1∧r0 ≠ p.1)->gm (r ^^^ c0) (csum T r) ^^^ gm (r0 ^^^ c0) (csum T r0)=gm (r ^^^ r0) (csum (yT r0 c0 T) r)
 | [],_=>by simp [csum,yT,gm_zero]
 | p :: T,h=>by
  have ih:=cau_sum (r:=r) (r0:=r0) (c0:=c0) (T:=T) fun q hq=>h q (by simp [hq])
  have hp:=h p (by simp)
  show gm (r ^^^ c0) (gm p.2 (gi (r ^^^ p.1)) ^^^ csum T r) ^^^ gm (r0 ^^^ c0) (gm p.2 (gi (r0 ^^^ p.1)) ^^^ csum T r0)=gm (r ^^^ r0) (gm (gm p.2 (gm (p.1 ^^^ c0) (gi (r0 ^^^ p.1)))) (gi (r ^^^ p.1)) ^^^ csum (yT r0 c0 T) r)
  rw [gm_right,gm_right,gm_right,x_swap,ih,cau_term hp.1 hp.2]
theorem cauchy:∀ (T:List (UInt8×UInt8)) (R:List UInt8),R.length=T.length->R.Nodup->(T.map (·.1)).Nodup->(∀ r ∈ R,∀ p ∈ T,r ≠ p.1)->(∀ r ∈ R,csum T r=0)->∀ p ∈ T,p.2=0
 | [],R,_,_,_,_,_,p,hp=>by simp at hp
 | (c0,x0) :: T,[],hl,_,_,_,_,p,hp=>by simp at hl
 | (c0,x0) :: T,r0 :: R,hl,hR,hT,hd,hs,p,hp=>by
  rw [List.nodup_cons] at hR
  rw [List.map_cons,List.nodup_cons] at hT
  have hr0c0:r0 ≠ c0:=hd r0 (by simp) (c0,x0) (by simp)
  have hy:=cauchy (yT r0 c0 T) R (by simpa [yT] using hl) hR.2 (by simpa [yT,Function.comp_def] using hT.2) (fun r hr q hq=>by
   obtain ⟨q',hq',rfl⟩:=List.mem_map.1 hq
   exact hd r (by simp [hr]) q' (by simp [hq'])) (fun r hr=>by
   have hne:r ≠ r0:=fun e=>hR.1 (e ▸ hr)
   have hrc0:r ≠ c0:=hd r (by simp [hr]) (c0,x0) (by simp)
   have h1:=hs r (by simp [hr])
   have h2:=hs r0 (by simp)
   have hc:=cau_sum (r:=r) (r0:=r0) (c0:=c0) (T:=T) (fun q hq=>⟨hd r (by simp [hr]) q (by simp [hq]),hd r0 (by simp) q (by simp [hq])⟩)
   have h1:gm x0 (gi (r ^^^ c0)) ^^^ csum T r=0:=h1
   have h2:gm x0 (gi (r0 ^^^ c0)) ^^^ csum T r0=0:=h2
   rw [← x_eq h1,← x_eq h2] at hc
   have f1:gm (r ^^^ c0) (gm x0 (gi (r ^^^ c0)))=x0:=by rw [gm_comm x0,← gm_assoc,gm_inv (x_ne hrc0),one_gm]
   have f2:gm (r0 ^^^ c0) (gm x0 (gi (r0 ^^^ c0)))=x0:=by rw [gm_comm x0,← gm_assoc,gm_inv (x_ne hr0c0),one_gm]
   rw [f1,f2,xx] at hc
   by_cases hz:csum (yT r0 c0 T) r=0
   ·exact hz
   ·exact absurd hc.symm (gm_ne (x_ne hne) hz))
  have hT0:∀ q ∈ T,q.2=0:=fun q hq=>by
   have h:=hy (q.1,gm q.2 (gm (q.1 ^^^ c0) (gi (r0 ^^^ q.1)))) (List.mem_map.2 ⟨q,hq,rfl⟩)
   by_cases hz:q.2=0
   ·exact hz
   ·have hqc:q.1 ≠ c0:=fun e=>hT.1 (List.mem_map.2 ⟨q,hq,e⟩)
    have hqr:r0 ≠ q.1:=hd r0 (by simp) q (by simp [hq])
    exact absurd h (gm_ne hz (gm_ne (x_ne hqc) (gi_ne (x_ne hqr))))
  rcases List.mem_cons.1 hp with rfl | hp
  ·have h2:gm x0 (gi (r0 ^^^ c0)) ^^^ csum T r0=0:=hs r0 (by simp)
   have hc0:csum T r0=0:=by
    have:∀ T:List (UInt8×UInt8),(∀ q ∈ T,q.2=0)->csum T r0=0:=by
     intro T
     induction T with
     | nil=>intro _;rfl
     | cons q T ih=>
      intro h
      show gm q.2 (gi (r0 ^^^ q.1)) ^^^ csum T r0=0
      rw [h q (by simp),zero_gm,zx]
      exact ih fun q' hq'=>h q' (by simp [hq'])
    exact this T hT0
   rw [hc0,xz] at h2
   by_cases hz:x0=0
   ·exact hz
   ·exact absurd h2 (gm_ne hz (gi_ne (x_ne hr0c0)))
  ·exact hT0 p hp
def dsum:Nat->(Nat->UInt8)->UInt8
 | 0,_=>0
 | n + 1,f=>dsum n f ^^^ f n
theorem dsum_congr:∀ {n:Nat} {f g:Nat->UInt8},(∀ k,k < n->f k=g k)->dsum n f=dsum n g
 | 0,_,_,_=>rfl
 | n + 1,f,g,h=>by simp only [dsum];rw [dsum_congr fun k hk=>h k (by omega),h n (by omega)]
theorem dsum_xor:∀ (n:Nat) (f g:Nat->UInt8),dsum n (fun k=>f k ^^^ g k)=dsum n f ^^^ dsum n g
 | 0,_,_=>by simp [dsum]
 | n + 1,f,g=>by simp only [dsum];rw [dsum_xor n f g,x_swap]
theorem dsum_mul (a:UInt8):∀ (n:Nat) (f:Nat->UInt8),dsum n (fun k=>gm a (f k))=gm a (dsum n f)
 | 0,_=>by simp [dsum,gm_zero]
 | n + 1,f=>by simp only [dsum];rw [dsum_mul a n f,gm_right]
theorem dsum_zero:∀ {n:Nat} {f:Nat->UInt8},(∀ k,k < n->f k=0)->dsum n f=0
 | 0,_,_=>rfl
 | n + 1,f,h=>by simp only [dsum];rw [dsum_zero fun k hk=>h k (by omega),h n (by omega),xx]
theorem dsum_one:∀ {n:Nat} {f:Nat->UInt8} {j:Nat},j < n->(∀ k,k < n->k ≠ j->f k=0)->dsum n f=f j
 | 0,_,j,h,_=>by omega
 | n + 1,f,j,h,hz=>by
  simp only [dsum]
  by_cases hj:j=n
  ·subst hj;rw [dsum_zero fun k hk=>hz k (by omega) (by omega),zx]
  ·rw [dsum_one (j:=j) (by omega) (fun k hk hkj=>hz k (by omega) hkj),hz n (by omega) (fun e=>hj e.symm),xz]
theorem csum_app (r:UInt8):∀ (a:List (UInt8×UInt8)) (q:UInt8×UInt8),csum (a ++ [q]) r=csum a r ^^^ gm q.2 (gi (r ^^^ q.1))
 | [],q=>by
  show gm q.2 (gi (r ^^^ q.1)) ^^^ 0=0 ^^^ gm q.2 (gi (r ^^^ q.1))
  rw [xz,zx]
 | p :: a,q=>by
  show gm p.2 (gi (r ^^^ p.1)) ^^^ csum (a ++ [q]) r=(gm p.2 (gi (r ^^^ p.1)) ^^^ csum a r) ^^^ gm q.2 (gi (r ^^^ q.1))
  rw [csum_app r a q,UInt8.xor_assoc]
theorem cs_filter (x:Nat->UInt8) (r:UInt8) (p:Nat->Bool):∀ (n:Nat),(∀ k,k < n->p k=false->x k=0)->csum (((List.range n).filter p).map fun k=>(UInt8.ofNat k,x k)) r=dsum n fun k=>gm (gi (r ^^^ UInt8.ofNat k)) (x k)
 | 0,_=>rfl
 | n + 1,h=>by
  have ih:=cs_filter x r p n fun k hk=>h k (by omega)
  rw [List.range_succ,List.filter_append,List.map_append]
  simp only [dsum]
  cases hp:p n with
  | true=>
   have:List.filter p [n]=[n]:=by simp [hp]
   rw [this,List.map_cons,List.map_nil,csum_app,ih,gm_comm]
  | false=>
   have:List.filter p [n]=[]:=by simp [hp]
   rw [this,List.map_nil,List.append_nil,ih,h n (by omega) hp,gm_zero,xz]
theorem ofNat_xor {i k:Nat} (hi:i < 256) (hk:k < 256):UInt8.ofNat (i ^^^ k)=UInt8.ofNat i ^^^ UInt8.ofNat k:=by
 apply UInt8.toNat_inj.1
 have h:i ^^^ k < 256:=Nat.xor_lt_two_pow (n:=8) hi hk
 rw [UInt8.toNat_xor,UInt8.toNat_ofNat',UInt8.toNat_ofNat',UInt8.toNat_ofNat',Nat.mod_eq_of_lt h,Nat.mod_eq_of_lt hi,Nat.mod_eq_of_lt hk]
theorem ofNat_ne {i k:Nat} (hi:i < 256) (hk:k < 256) (h:i ≠ k):UInt8.ofNat i ≠ UInt8.ofNat k:=fun e=>by
 have:=congrArg UInt8.toNat e
 rw [UInt8.toNat_ofNat',UInt8.toNat_ofNat',Nat.mod_eq_of_lt hi,Nat.mod_eq_of_lt hk] at this
 exact h this
theorem nodup_map_ofNat {l:List Nat} (h:l.Nodup) (hb:∀ i ∈ l,i < 256):(l.map UInt8.ofNat).Nodup:=by
 induction l with
 | nil=>simp
 | cons a l ih=>
  rw [List.nodup_cons] at h
  rw [List.map_cons,List.nodup_cons]
  refine ⟨fun hm=>?_,ih h.2 fun i hi=>hb i (by simp [hi])⟩
  obtain ⟨b,hb1,hb2⟩:=List.mem_map.1 hm
  have:b ≠ a:=fun e=>h.1 (e ▸ hb1)
  exact ofNat_ne (hb b (by simp [hb1])) (hb a (by simp)) this hb2
theorem flt {α:Type} (p:α->Bool):∀ (l:List α),l.length=(l.filter p).length + (l.filter fun x=>!p x).length
 | []=>rfl
 | a :: l=>by
  have:=flt p l
  cases hp:p a<;>simp [hp]<;>omega
theorem mds {d:Nat} {is:List Nat} (hl:is.length=d) (hn:is.Nodup) (hb:∀ i ∈ is,i < 256) (hd:d≤256) {x:Nat->UInt8} (h:∀ i ∈ is,dsum d (fun k=>gm (cell d i k) (x k))=0):∀ k,k < d->x k=0:=by
 have hid:∀ i ∈ is,i < d->x i=0:=fun i hi hid=>by
  have h1:=h i hi
  rw [dsum_one (j:=i) hid (fun k hk hki=>by unfold cell;rw [if_neg (by omega),if_neg (fun e=>hki e.symm),zero_gm])] at h1
  unfold cell at h1
  rw [if_neg (by omega),if_pos rfl,one_gm] at h1
  exact h1
 have hperm:((List.range d).filter fun k=>is.contains k).Perm (is.filter fun i=>decide (i < d)):=by
  refine (List.perm_ext_iff_of_nodup (List.nodup_range.filter _) (hn.filter _)).2 fun a=>?_
  simp [and_comm]
 have hcnt1:=flt (fun k=>is.contains k) (List.range d)
 have hcnt2:=flt (fun i=>decide (i < d)) is
 have hpl:=hperm.length_eq
 rw [List.length_range] at hcnt1
 have hT:=cauchy (((List.range d).filter fun k=>!is.contains k).map fun k=>(UInt8.ofNat k,x k)) ((is.filter fun i=>!decide (i < d)).map UInt8.ofNat)
  (by simp only [List.length_map];omega) (nodup_map_ofNat (hn.filter _) fun i hi=>hb i (List.mem_filter.1 hi).1)
  (by
   rw [List.map_map]
   exact nodup_map_ofNat (List.nodup_range.filter _) fun i hi=>by have:=List.mem_range.1 (List.mem_filter.1 hi).1;omega)
  (fun r hr p hp=>by
   obtain ⟨i,hi,rfl⟩:=List.mem_map.1 hr
   obtain ⟨k,hk,rfl⟩:=List.mem_map.1 hp
   have h1:=(List.mem_filter.1 hi)
   have h2:=List.mem_range.1 (List.mem_filter.1 hk).1
   have h3:¬ i < d:=by simpa using h1.2
   exact ofNat_ne (hb i h1.1) (by omega) (by omega))
  (fun r hr=>by
   obtain ⟨i,hi,rfl⟩:=List.mem_map.1 hr
   have h1:=(List.mem_filter.1 hi)
   have h3:¬ i < d:=by simpa using h1.2
   rw [cs_filter x _ _ d (fun k hk hc=>hid k (by simpa using hc) hk)]
   rw [← h i h1.1]
   refine dsum_congr fun k hk=>?_
   unfold cell
   rw [if_pos (by omega),ofNat_xor (hb i h1.1) (by omega)])
 intro k hk
 by_cases hc:k ∈ is
 ·exact hid k hc hk
 ·exact hT (UInt8.ofNat k,x k) (List.mem_map.2 ⟨k,List.mem_filter.2 ⟨List.mem_range.2 hk,by simpa using hc⟩,rfl⟩)
def gt (R:List (List UInt8)) (i k:Nat):UInt8:=(R.getD i []).getD k 0
structure EI (d w c:Nat) (A:Nat->Nat->UInt8) (Lp:List UInt8->Prop) (R:List (List UInt8)):Prop where
 len:R.length=d
 wid:∀ r ∈ R,r.length=w
 col:∀ i k,i < d->k < c->gt R i k=if i=k then 1 else 0
 ker:∀ x:Nat->UInt8,(∀ i,i < d->dsum w (fun k=>gm (gt R i k) (x k))=0)->∀ i,i < d->dsum w (fun k=>gm (A i k) (x k))=0
 lin:∀ r ∈ R,Lp r
theorem dsum_cut {d:Nat} {f:Nat->UInt8}:∀ {w:Nat},d≤w->(∀ k,d≤k->f k=0)->dsum w f=dsum d f
 | 0,h,_=>by rw [show d=0 by omega]
 | w + 1,h,hz=>by
  by_cases hd:d=w + 1
  ·rw [hd]
  ·show dsum w f ^^^ f w=_
   rw [dsum_cut (w:=w) (by omega) hz,hz w (by omega),xz]
theorem EI.piv {d w c:Nat} {A:Nat->Nat->UInt8} {Lp:List UInt8->Prop} {R:List (List UInt8)} (H:EI d w c A Lp R) (hdw:d≤w) (hc:c < d) (hA:∀ x:Nat->UInt8,(∀ i,i < d->dsum d (fun k=>gm (A i k) (x k))=0)->∀ k,k < d->x k=0) :
  ∃ p,c≤p∧p < d∧gt R p c ≠ 0∧∀ i,c≤i->i < p->gt R i c=0:=by
 have key:∀ m:Nat,(∃ p,c≤p∧p < c + m∧p < d∧gt R p c ≠ 0∧∀ i,c≤i->i < p->gt R i c=0)∨∀ i,c≤i->i < c + m->i < d->gt R i c=0:=by
  intro m
  induction m with
  | zero=>exact .inr fun i h1 h2=>by omega
  | succ m ih=>
   rcases ih with ⟨p,h1,h2,h3,h4,h5⟩ | ih
   ·exact .inl ⟨p,h1,by omega,h3,h4,h5⟩
   ·by_cases hm:c + m < d
    ·by_cases hz:gt R (c + m) c=0
     ·refine .inr fun i h1 h2 h3=>?_
      by_cases hi:i=c + m
      ·rw [hi];exact hz
      ·exact ih i h1 (by omega) h3
     ·exact .inl ⟨c + m,by omega,by omega,hm,hz,fun i h1 h2=>ih i h1 h2 (by omega)⟩
    ·exact .inr fun i h1 h2 h3=>ih i h1 (by omega) h3
 rcases key d with ⟨p,h1,h2,h3,h4,h5⟩ | hz
 ·exact ⟨p,h1,h3,h4,h5⟩
 ·exfalso
  have cut:∀ g:Nat->UInt8,dsum w (fun k=>gm (g k) (if k < c then gt R k c else if k=c then 1 else 0))=dsum d (fun k=>gm (g k) (if k < c then gt R k c else if k=c then 1 else 0)):=fun g=>
   dsum_cut hdw fun k hk=>by rw [if_neg (by omega),if_neg (by omega),gm_zero]
  have hx:∀ i,i < d->dsum w (fun k=>gm (gt R i k) (if k < c then gt R k c else if k=c then 1 else 0))=0:=by
   intro i hi
   rw [cut]
   by_cases hic:i < c
   ·have e:dsum d (fun k=>gm (gt R i k) (if k < c then gt R k c else if k=c then 1 else 0))=dsum d (fun k=>(if k=i then gt R i c else 0) ^^^ (if k=c then gt R i c else 0)):=by
     refine dsum_congr fun k hk=>?_
     by_cases h1:k < c
     ·rw [if_pos h1,H.col i k hi h1]
      by_cases h2:i=k
      ·subst h2;rw [if_pos rfl,one_gm,if_pos rfl,if_neg (by omega),xz]
      ·rw [if_neg h2,zero_gm,if_neg (fun e=>h2 e.symm),if_neg (by omega),xz]
     ·rw [if_neg h1]
      by_cases h2:k=c
      ·rw [if_pos h2,gm_one,if_neg (by omega),if_pos h2,zx,h2]
      ·rw [if_neg h2,gm_zero,if_neg (by omega),if_neg h2,xz]
    rw [e,dsum_xor,dsum_one (j:=i) hi (fun k _ hk=>if_neg hk),dsum_one (j:=c) hc (fun k _ hk=>if_neg hk),if_pos rfl,if_pos rfl,xx]
   ·refine dsum_zero fun k hk=>?_
    by_cases h1:k < c
    ·rw [H.col i k hi h1,if_neg (by omega),zero_gm]
    ·rw [if_neg h1]
     by_cases h2:k=c
     ·rw [if_pos h2,h2,hz i (by omega) (by omega) hi,zero_gm]
     ·rw [if_neg h2,gm_zero]
  have:=hA (fun k=>if k < c then gt R k c else if k=c then 1 else 0) (fun i hi=>by rw [← cut];exact H.ker _ hx i hi) c hc
  simp at this
def swp (R:List (List UInt8)) (c p:Nat):List (List UInt8):=(R.set c (R.getD p [])).set p (R.getD c [])
def clr (R:List (List UInt8)) (c:Nat):List (List UInt8):=
 (List.range R.length).map fun i=>if i=c then (R.getD c []).map (gm (gi (gt R c c))) else vadd (gt R i c) (R.getD i []) ((R.getD c []).map (gm (gi (gt R c c))))
theorem getD_mem {R:List (List UInt8)} {i:Nat} (h:i < R.length):R.getD i [] ∈ R:=by
 have:R.getD i []=R[i]:=by simp [h]
 rw [this];exact List.getElem_mem h
theorem swp_get {R:List (List UInt8)} {c p:Nat} (hc:c < R.length) (hp:p < R.length) {i:Nat} (hi:i < R.length):(swp R c p).getD i []=if i=p then R.getD c [] else if i=c then R.getD p [] else R.getD i []:=by
 unfold swp
 rw [List.getD_eq_getElem?_getD]
 by_cases h1:p=i
 ·subst h1
  rw [List.getElem?_set_self (by simpa using hp),if_pos rfl];rfl
 ·rw [List.getElem?_set_ne h1,if_neg (fun e=>h1 e.symm)]
  by_cases h2:c=i
  ·subst h2;rw [List.getElem?_set_self hc,if_pos rfl];rfl
  ·rw [List.getElem?_set_ne h2,if_neg (fun e=>h2 e.symm),List.getD_eq_getElem?_getD]
theorem gt_map {x:List UInt8} {f:UInt8} {k:Nat}:(x.map (gm f)).getD k 0=gm f (x.getD k 0):=by
 rw [List.getD_eq_getElem?_getD,List.getD_eq_getElem?_getD,List.getElem?_map]
 cases x[k]? with
 | none=>simp [gm_zero]
 | some a=>rfl
theorem gt_vadd {a:UInt8} {x y:List UInt8} (h:y.length=x.length) {k:Nat}:(vadd a x y).getD k 0=x.getD k 0 ^^^ gm a (y.getD k 0):=by
 unfold vadd
 by_cases hk:k < x.length
 ·simp [List.getElem?_zipWith,hk,show k < y.length by omega]
 ·rw [List.getD_eq_getElem?_getD,List.getD_eq_getElem?_getD,List.getD_eq_getElem?_getD,List.getElem?_eq_none (by simp;omega),List.getElem?_eq_none (by omega),List.getElem?_eq_none (by omega)]
  simp [gm_zero]
theorem EI.step {d w c p:Nat} {A:Nat->Nat->UInt8} {Lp:List UInt8->Prop} {R:List (List UInt8)} (H:EI d w c A Lp R) (hc:c < d) (hcp:c≤p) (hp:p < d) (hz:gt R p c ≠ 0)
  (hs:∀ (f:UInt8) (r:List UInt8),r.length=w->Lp r->Lp (r.map (gm f))) (ha:∀ (f:UInt8) (r s:List UInt8),r.length=w->s.length=w->Lp r->Lp s->Lp (vadd f r s)):EI d w (c + 1) A Lp (clr (swp R c p) c):=by
 have hl:=H.len
 have hsl:(swp R c p).length=d:=by simp [swp,hl]
 have hcl:(clr (swp R c p) c).length=d:=by simp [clr,hsl]
 have sg:∀ i,i < d->(swp R c p).getD i []=if i=p then R.getD c [] else if i=c then R.getD p [] else R.getD i []:=fun i hi=>swp_get (by omega) (by omega) (by omega)
 have sgc:(swp R c p).getD c []=R.getD p []:=by
  rw [sg c hc]
  by_cases h:c=p
  ·rw [if_pos h,h]
  ·rw [if_neg h,if_pos rfl]
 have sw:∀ i,i < d->((swp R c p).getD i []).length=w:=fun i hi=>by
  rw [sg i hi]
  split
  ·exact H.wid _ (getD_mem (by omega))
  ·split<;>exact H.wid _ (getD_mem (by omega))
 have sL:∀ i,i < d->Lp ((swp R c p).getD i []):=fun i hi=>by
  rw [sg i hi]
  split
  ·exact H.lin _ (getD_mem (by omega))
  ·split<;>exact H.lin _ (getD_mem (by omega))
 have hpc:gt (swp R c p) c c=gt R p c:=by unfold gt;rw [sgc]
 have cg:∀ i,i < d->(clr (swp R c p) c).getD i []=if i=c then (R.getD p []).map (gm (gi (gt R p c))) else vadd (gt (swp R c p) i c) ((swp R c p).getD i []) ((R.getD p []).map (gm (gi (gt R p c)))):=fun i hi=>by
  unfold clr
  rw [List.getD_eq_getElem?_getD,List.getElem?_map,List.getElem?_range (by omega),sgc,hpc]
  rfl
 have hwp:((R.getD p []).map (gm (gi (gt R p c)))).length=w:=by rw [List.length_map];exact H.wid _ (getD_mem (by omega))
 have gg:∀ i k,i < d->gt (clr (swp R c p) c) i k=if i=c then gm (gi (gt R p c)) (gt R p k) else gt (swp R c p) i k ^^^ gm (gt (swp R c p) i c) (gm (gi (gt R p c)) (gt R p k)):=fun i k hi=>by
  show ((clr (swp R c p) c).getD i []).getD k 0=_
  rw [cg i hi]
  by_cases h:i=c
  ·rw [if_pos h,if_pos h,gt_map];rfl
  ·rw [if_neg h,if_neg h,gt_vadd (by rw [hwp,sw i hi]),gt_map];rfl
 have gs:∀ i k,i < d->gt (swp R c p) i k=if i=p then gt R c k else if i=c then gt R p k else gt R i k:=fun i k hi=>by
  show ((swp R c p).getD i []).getD k 0=_
  rw [sg i hi]
  split
  ·rfl
  ·split<;>rfl
 refine ⟨hcl,fun r hr=>?_,fun i k hi hk=>?_,fun x hx=>?_,fun r hr=>?_⟩
 ·obtain ⟨i,hi⟩:=List.mem_iff_getElem?.1 hr
  have hil:=(List.getElem?_eq_some_iff.1 hi).1
  have:r=(clr (swp R c p) c).getD i []:=by rw [List.getD_eq_getElem?_getD,hi];rfl
  rw [this,cg i (by omega)]
  split
  ·exact hwp
  ·rw [vadd_len (by rw [hwp,sw i (by omega)]),sw i (by omega)]
 ·rw [gg i k hi]
  by_cases hkc:k < c
  ·have hpk:gt R p k=0:=by rw [H.col p k hp hkc,if_neg (by omega)]
   rw [hpk,gm_zero,gm_zero,xz]
   by_cases h:i=c
   ·rw [if_pos h,if_neg (by omega)]
   ·rw [if_neg h,gs i k hi]
    by_cases h2:i=p
    ·rw [if_pos h2,H.col c k hc hkc,if_neg (by omega),if_neg (by omega)]
    ·rw [if_neg h2,if_neg h,H.col i k hi hkc]
  ·have hkc:k=c:=by omega
   subst hkc
   have h1:gm (gi (gt R p k)) (gt R p k)=1:=by rw [gm_comm];exact gi_ok _ hz
   rw [h1,gm_one,xx]
 ·refine H.ker x fun i hi=>?_
  have hrow:∀ i,i < d->dsum w (fun k=>gm (gt (swp R c p) i k) (x k))=0:=by
   have hs0:=hx c hc
   have e0:dsum w (fun k=>gm (gt (clr (swp R c p) c) c k) (x k))=gm (gi (gt R p c)) (dsum w (fun k=>gm (gt R p k) (x k))):=by
    rw [← dsum_mul]
    refine dsum_congr fun k hk=>?_
    rw [gg c k hc,if_pos rfl,gm_assoc]
   rw [e0] at hs0
   have hp0:dsum w (fun k=>gm (gt R p k) (x k))=0:=by
    by_cases h:dsum w (fun k=>gm (gt R p k) (x k))=0
    ·exact h
    ·exact absurd hs0 (gm_ne (gi_ne hz) h)
   intro i hi
   by_cases h:i=c
   ·subst h
    have:∀ k,gt (swp R i p) i k=gt R p k:=fun k=>by unfold gt;rw [sgc]
    simp only [this];exact hp0
   ·have h1:=hx i hi
    have e1:dsum w (fun k=>gm (gt (clr (swp R c p) c) i k) (x k))=dsum w (fun k=>gm (gt (swp R c p) i k) (x k)) ^^^ gm (gt (swp R c p) i c) (gm (gi (gt R p c)) (dsum w (fun k=>gm (gt R p k) (x k)))):=by
     rw [← dsum_mul,← dsum_mul,← dsum_xor]
     refine dsum_congr fun k hk=>?_
     rw [gg i k hi,if_neg h,gm_left,gm_assoc,gm_assoc]
    rw [e1,hp0,gm_zero,gm_zero,xz] at h1
    exact h1
  by_cases h1:i=c
  ·subst h1
   have:=hrow p hp
   have e:∀ k,gt (swp R i p) p k=gt R i k:=fun k=>by rw [gs p k hp,if_pos rfl]
   simpa only [e] using this
  ·by_cases h2:i=p
   ·subst h2
    have:=hrow c hc
    have e:∀ k,gt (swp R c i) c k=gt R i k:=fun k=>by unfold gt;rw [sgc]
    simpa only [e] using this
   ·have:=hrow i hi
    have e:∀ k,gt (swp R c p) i k=gt R i k:=fun k=>by rw [gs i k hi,if_neg h2,if_neg h1]
    simpa only [e] using this
 ·obtain ⟨i,hi⟩:=List.mem_iff_getElem?.1 hr
  have hil:=(List.getElem?_eq_some_iff.1 hi).1
  have:r=(clr (swp R c p) c).getD i []:=by rw [List.getD_eq_getElem?_getD,hi];rfl
  have hLp:=hs (gi (gt R p c)) _ (H.wid _ (getD_mem (i:=p) (by omega))) (H.lin _ (getD_mem (i:=p) (by omega)))
  rw [this,cg i (by omega)]
  split
  ·exact hLp
  ·exact ha _ _ _ (sw i (by omega)) hwp (sL i (by omega)) hLp
theorem dsum_swap (f:Nat->Nat->UInt8) (m:Nat):∀ n:Nat,dsum n (fun i=>dsum m (f i))=dsum m (fun j=>dsum n fun i=>f i j)
 | 0=>by
  show (0:UInt8)=dsum m (fun j=>dsum 0 fun i=>f i j)
  exact (dsum_zero fun k _=>rfl).symm
 | n + 1=>by
  show dsum n (fun i=>dsum m (f i)) ^^^ dsum m (f n)=_
  rw [dsum_swap f m n,← dsum_xor]
  rfl
theorem dsum_mulr (a:UInt8) (n:Nat) (f:Nat->UInt8):dsum n (fun k=>gm (f k) a)=gm (dsum n f) a:=by
 rw [gm_comm,← dsum_mul]
 exact dsum_congr fun k _=>gm_comm _ _
def LI (d:Nat) (B M:Nat->Nat->UInt8):Prop:=∀ i k,i < d->k < d->dsum d (fun j=>gm (B i j) (M j k))=if i=k then 1 else 0
theorem LI.solve {d:Nat} {B M:Nat->Nat->UInt8} (H:LI d B M) {p x:Nat->UInt8} (hp:∀ j,j < d->p j=dsum d fun k=>gm (M j k) (x k)) {i:Nat} (hi:i < d):dsum d (fun j=>gm (B i j) (p j))=x i:=by
 have e1:dsum d (fun j=>gm (B i j) (p j))=dsum d fun j=>dsum d fun k=>gm (gm (B i j) (M j k)) (x k):=dsum_congr fun j hj=>by
  rw [hp j hj,← dsum_mul]
  exact dsum_congr fun k _=>(gm_assoc _ _ _).symm
 rw [e1,dsum_swap]
 have e2:dsum d (fun k=>dsum d fun j=>gm (gm (B i j) (M j k)) (x k))=dsum d fun k=>gm (if i=k then 1 else 0) (x k):=dsum_congr fun k hk=>by
  rw [dsum_mulr,H i k hi hk]
 rw [e2,dsum_one hi fun k _ hk=>by rw [if_neg (fun e=>hk e.symm),zero_gm],if_pos rfl,one_gm]
theorem comb_gd:∀ {x:List UInt8} {bs:List (List UInt8)} {acc:List UInt8},x.length=bs.length->(∀ b ∈ bs,b.length=acc.length)->∀ t,(comb x bs acc).getD t 0=acc.getD t 0 ^^^ dsum bs.length (fun j=>gm (x.getD j 0) ((bs.getD j []).getD t 0))
 | [],[],acc,_,_,t=>by simp [comb,dsum,xz]
 | a :: x,b :: bs,acc,hl,hb,t=>by
  have hbl:=hb b (by simp)
  have ih:=comb_gd (x:=x) (bs:=bs) (acc:=vadd a acc b) (by simpa using hl) (fun c hc=>by rw [vadd_len hbl];exact hb c (by simp [hc])) t
  show (comb x bs (vadd a acc b)).getD t 0=_
  rw [ih,gt_vadd hbl,List.length_cons]
  have:∀ n,dsum (n + 1) (fun j=>gm ((a :: x).getD j 0) (((b :: bs).getD j []).getD t 0))=gm a (b.getD t 0) ^^^ dsum n (fun j=>gm (x.getD j 0) ((bs.getD j []).getD t 0)):=by
   intro n
   induction n with
   | zero=>simp [dsum,xz,zx]
   | succ n ih=>
    show dsum (n + 1) _ ^^^ _=_
    rw [ih]
    simp only [dsum,List.getD_cons_succ,UInt8.xor_assoc]
  rw [this,UInt8.xor_assoc]
def idR (d i:Nat):List UInt8:=(List.range d).map fun k=>if i=k then 1 else 0
theorem idR_get {d i k:Nat} (hk:k < d):(idR d i).getD k 0=if i=k then 1 else 0:=by
 unfold idR
 rw [List.getD_eq_getElem?_getD,List.getElem?_map,List.getElem?_range hk];rfl
theorem app_get {a b:List UInt8} {k:Nat}:(a ++ b).getD (a.length + k) 0=b.getD k 0:=by
 rw [List.getD_eq_getElem?_getD,List.getElem?_append_right (by omega),Nat.add_sub_cancel_left,List.getD_eq_getElem?_getD]
theorem app_get1 {a b:List UInt8} {k:Nat} (h:k < a.length):(a ++ b).getD k 0=a.getD k 0:=by
 rw [List.getD_eq_getElem?_getD,List.getElem?_append_left h,List.getD_eq_getElem?_getD]
def joinR (m r:List (List UInt8)):List (List UInt8):=List.zipWith (· ++ ·) m r
def LpI (d:Nat) (M:Nat->Nat->UInt8) (r:List UInt8):Prop:=∀ k,k < d->r.getD k 0=dsum d fun j=>gm (r.getD (d + j) 0) (M j k)
theorem LpI.scale {d:Nat} {M:Nat->Nat->UInt8} (f:UInt8) {r:List UInt8} (h:LpI d M r):LpI d M (r.map (gm f)):=fun k hk=>by
 rw [gt_map,h k hk,← dsum_mul]
 exact dsum_congr fun j _=>by rw [gt_map,gm_assoc]
theorem LpI.add {d w:Nat} {M:Nat->Nat->UInt8} (f:UInt8) {r s:List UInt8} (hr:r.length=w) (hs:s.length=w) (h1:LpI d M r) (h2:LpI d M s):LpI d M (vadd f r s):=fun k hk=>by
 rw [gt_vadd (by omega),h1 k hk,h2 k hk,← dsum_mul,← dsum_xor]
 exact dsum_congr fun j _=>by rw [gt_vadd (by omega),gm_left,gm_assoc]
theorem EI.start {d w:Nat} {Lp:List UInt8->Prop} {R:List (List UInt8)} (h1:R.length=d) (h2:∀ r ∈ R,r.length=w) (h3:∀ r ∈ R,Lp r):EI d w 0 (gt R) Lp R:=
 ⟨h1,h2,fun i k _ hk=>by omega,fun x h=>h,h3⟩
theorem EI.inv {d:Nat} {A M:Nat->Nat->UInt8} {R:List (List UInt8)} (H:EI d (d + d) d A (LpI d M) R):LI d (fun i j=>gt R i (d + j)) M:=fun i k hi hk=>by
 have:=H.lin _ (getD_mem (i:=i) (by rw [H.len];exact hi)) k hk
 show dsum d (fun j=>gm ((R.getD i []).getD (d + j) 0) (M j k))=_
 rw [← this]
 exact H.col i k hi hk
theorem getD_at {R:List (List UInt8)} {i:Nat} (h:i < R.length):R[i]? = some (R.getD i []):=by
 rw [List.getD_eq_getElem?_getD,List.getElem?_eq_getElem h];rfl
theorem ix_gt {R:List (List UInt8)} {i k:Nat} (h:k < (R.getD i []).length):ix (R.getD i []) (k:Int)=some (gt R i k):=by
 have:(R.getD i [])[k]? = some (gt R i k):=by
  unfold gt
  rw [List.getD_eq_getElem?_getD (l:=R.getD i []),List.getElem?_eq_getElem h];rfl
 exact ixn this
theorem piv_ok {F d w c p:Nat} {R:List (List UInt8)} (hF:2000 < F) (hd:d≤100) (hl:R.length=d) (hw:∀ r ∈ R,r.length=w) (hcw:c < w) (hcp:c≤p) (hp:p < d) (hz:gt R p c ≠ 0) (h0:∀ i,c≤i->i < p->gt R i c=0) :
  T179x3 F (c:Int) (c:Int) R=some (p:Int):=by
 obtain ⟨z,hz',hQ⟩:=iter1 (f:=fun s:Int=>L179x3_2 F (c:Int) R s)
  (fun s=>∃ k:Nat,s=(k:Int)∧c≤k∧k≤p) (fun z=>z=.inr (p:Int)) (fun s=>p + 1 - s.toNat) (fun s hs=>by
   obtain ⟨k,e,hck,hk⟩:=hs
   subst e
   have hc1:((k:Nat):Int) < (R.length:Int):=by omega
   have hi:inb R.length (k:Int)=some k:=inbn (by omega)
   have hr:=getD_at (R:=R) (i:=k) (by omega)
   have hx:=ix_gt (R:=R) (i:=k) (k:=c) (by rw [hw _ (getD_mem (by omega))];exact hcw)
   by_cases hkp:k=p
   ·subst hkp
    have e0:(gt R k c != UInt8.ofNat 0)=true:=by
     have h2:gt R k c ≠ UInt8.ofNat 0:=hz
     simpa using h2
    exact .inr ⟨.inr (k:Int),by simp only [L179x3_2,L179x3_2c,hc1,decide_true,cond_true,hi,hr,hx,e0,Option.bind_some],rfl⟩
   ·have e0:(gt R k c != UInt8.ofNat 0)=false:=by rw [h0 k hck (by omega)];rfl
    exact .inl ⟨((k + 1:Nat):Int),by simp only [L179x3_2,L179x3_2c,hc1,decide_true,cond_true,hi,hr,hx,e0,Option.bind_some,cond_false,w64n (show k < 9223372036854775807 by omega)],⟨k + 1,rfl,by omega,by omega⟩,by simp only [Int.toNat_natCast];omega⟩)
  F (c:Int) ⟨c,rfl,by omega,hcp⟩ (by simp;omega)
 subst hQ
 simp only [T179x3,T179x3c,hz',Option.bind_some,elimS]
theorem clear_ok {F d w c:Nat} {R:List (List UInt8)} (hF:2000 < F) (hd:d≤100) (hw2:w≤1000) (hl:R.length=d) (hw:∀ r ∈ R,r.length=w) (hcw:c < w) (hc:c < d) :
  T180x1 F (c:Int) (c:Int) R=some (clr R c):=by
 have hi:inb R.length (c:Int)=some c:=inbn (by omega)
 have hr:=getD_at (R:=R) (i:=c) (by omega)
 have hrl:(R.getD c []).length=w:=hw _ (getD_mem (by omega))
 have hx:=ix_gt (R:=R) (i:=c) (k:=c) (by rw [hrl];exact hcw)
 obtain ⟨er,hinv⟩:=g_inv (F:=F) (by omega) (gt R c c)
 have hsc:=g_scale (F:=F) (l:=R.getD c []) (by omega) (by omega) (gi (gt R c c))
 have hcl:(clr R c).length=d:=by simp [clr,hl]
 have cg:∀ i,i < d->(clr R c).getD i []=if i=c then (R.getD c []).map (gm (gi (gt R c c))) else vadd (gt R i c) (R.getD i []) ((R.getD c []).map (gm (gi (gt R c c)))):=fun i hi=>by
  unfold clr
  rw [List.getD_eq_getElem?_getD,List.getElem?_map,List.getElem?_range (by omega)];rfl
 generalize hs:(R.getD c []).map (gm (gi (gt R c c)))=s at hsc cg
 have hsl:s.length=w:=by rw [← hs,List.length_map];exact hrl
 obtain ⟨z,hz,hQ⟩:=iter1 (f:=fun x:Int×List (List UInt8)=>L180x1_2 F (c:Int) (c:Int) ((List.set R c s).length:Int) x.1 x.2)
  (fun x=>∃ k:Nat,x.1=(k:Int)∧k≤d∧x.2.length=d∧(∀ i,i < k->i < d->x.2[i]? = some ((clr R c).getD i []))∧(∀ i,k≤i->i < d->i ≠ c->x.2[i]? = some (R.getD i []))∧x.2[c]? = some s) (fun z=>z=clr R c) (fun x=>d - x.1.toNat) (fun x hs'=>by
   obtain ⟨k,e,hk,a1,a2,a3,a4⟩:=hs'
   obtain ⟨s1,l⟩:=x
   simp only at e a1 a2 a3 a4
   subst e
   rcases Nat.lt_or_ge k d with hlt | hge
   ·have hc1:((k:Nat):Int) < ((List.set R c s).length:Int):=by simp;omega
    have hik:inb l.length (k:Int)=some k:=inbn (by omega)
    by_cases hkc:k=c
    ·subst hkc
     have e1:((k:Int) != (k:Int))=false:=by simp
     refine .inl ⟨(((k + 1:Nat):Int),l),by simp only [L180x1_2,L180x1_2c,hc1,decide_true,cond_true,hik,a4,e1,cond_false,Option.bind_some,w64n (show k < 9223372036854775807 by omega)],⟨k + 1,rfl,by omega,a1,fun i hi hid=>?_,fun i hi hid hne=>a3 i (by omega) hid hne,a4⟩,by simp only [Int.toNat_natCast];omega⟩
     by_cases h:i=k
     ·subst h;show l[i]? = _;rw [a4,cg i hid,if_pos rfl]
     ·exact a2 i (by omega) hid
    ·have e1:((k:Int) != (c:Int))=true:=by
      have:¬ (k:Int)=(c:Int):=by omega
      simpa using this
     have hrk:=a3 k (Nat.le_refl _) hlt hkc
     have hrkl:(R.getD k []).length=w:=hw _ (getD_mem (by omega))
     have hxk:=ix_gt (R:=R) (i:=k) (k:=c) (by rw [hrkl];exact hcw)
     have put:∀ y:List UInt8,y=(clr R c).getD k []->∃ k':Nat,(((k + 1:Nat):Int),l.set k y).1=(k':Int)∧k'≤d∧(l.set k y).length=d∧(∀ i,i < k'->i < d->(l.set k y)[i]? = some ((clr R c).getD i []))∧(∀ i,k'≤i->i < d->i ≠ c->(l.set k y)[i]? = some (R.getD i []))∧(l.set k y)[c]? = some s:=fun y hy=>by
      refine ⟨k + 1,rfl,by omega,by simp [a1],fun i hi hid=>?_,fun i hi hid hne=>?_,?_⟩
      ·by_cases h:k=i
       ·subst h;rw [List.getElem?_set_self (by omega),hy]
       ·rw [List.getElem?_set_ne h];exact a2 i (by omega) hid
      ·rw [List.getElem?_set_ne (by omega)];exact a3 i (by omega) hid hne
      ·rw [List.getElem?_set_ne hkc];exact a4
     by_cases hz:gt R k c=0
     ·have e2:(gt R k c != UInt8.ofNat 0)=false:=by rw [hz];rfl
      have hsame:l.set k (R.getD k [])=l:=by
       apply List.ext_getElem?
       intro j
       by_cases h:k=j
       ·subst h;rw [List.getElem?_set_self (by omega),hrk]
       ·rw [List.getElem?_set_ne h]
      have hp:=put (R.getD k []) (by rw [cg k hlt,if_neg hkc,hz,vadd_0 (by rw [hsl,hrkl])])
      rw [hsame] at hp
      exact .inl ⟨(((k + 1:Nat):Int),l),by simp only [L180x1_2,L180x1_2c,hc1,decide_true,cond_true,hik,hrk,e1,hxk,e2,cond_false,Option.bind_some,w64n (show k < 9223372036854775807 by omega)],hp,by simp only [Int.toNat_natCast];omega⟩
     ·have e2:(gt R k c != UInt8.ofNat 0)=true:=by
       have h2:gt R k c ≠ UInt8.ofNat 0:=hz
       simpa using h2
      have hic:inb l.length (c:Int)=some c:=inbn (by omega)
      have hm:=g_muladd (F:=F) (l:=R.getD k []) (v:=s) (by omega) (by omega) (by omega) (gt R k c)
      exact .inl ⟨(((k + 1:Nat):Int),l.set k (vadd (gt R k c) (R.getD k []) s)),by simp only [L180x1_2,L180x1_2c,hc1,decide_true,cond_true,hik,hic,a4,hrk,e1,hxk,e2,hm,Option.bind_some,w64n (show k < 9223372036854775807 by omega)];rfl,put _ (by rw [cg k hlt,if_neg hkc]),by simp only [Int.toNat_natCast];omega⟩
   ·have hkn:k=d:=by omega
    subst hkn
    have hll:((List.set R c s).length:Int)=(k:Int):=by simp [hl]
    refine .inr ⟨l,by simp only [L180x1_2,L180x1_2c,hll,show ¬ ((k:Int) < (k:Int)) by omega,decide_false,cond_false],?_⟩
    apply List.ext_getElem?
    intro i
    rcases Nat.lt_or_ge i k with h | h
    ·rw [a2 i h h,getD_at (by omega)]
    ·rw [List.getElem?_eq_none (by omega),List.getElem?_eq_none (by omega)])
  F ((0:Int),List.set R c s) ⟨0,rfl,by omega,by simp [hl],fun i h=>by omega,fun i h1 h2 h3=>by rw [List.getElem?_set_ne (fun e=>h3 e.symm)];exact getD_at (by omega),List.getElem?_set_self (by omega)⟩ (by simp;omega)
 subst hQ
 simp only [T180x1,T180x1c,hi,hr,hx,hinv,hsc,hz,Option.bind_some]
theorem reduce_ok {F d w:Nat} {A:Nat->Nat->UInt8} {Lp:List UInt8->Prop} {R:List (List UInt8)} (hF:2000 < F) (hd:d≤100) (hdw:d≤w) (hw2:w≤1000) (H:EI d w 0 A Lp R)
  (hA:∀ x:Nat->UInt8,(∀ i,i < d->dsum d (fun k=>gm (A i k) (x k))=0)->∀ k,k < d->x k=0)
  (hs:∀ (f:UInt8) (r:List UInt8),r.length=w->Lp r->Lp (r.map (gm f))) (ha:∀ (f:UInt8) (r s:List UInt8),r.length=w->s.length=w->Lp r->Lp s->Lp (vadd f r s)) (q:UInt8) :
  ∃ q' R' pv,T176 F (d:Int) q R=some (q',R',pv)∧EI d w d A Lp R'∧pv.length=d:=by
 obtain ⟨z,hz,q',R',pv,rfl,h1,h2⟩:=iter1 (f:=fun x:Int×UInt8×List (List UInt8)×List Int=>L176_6 F (d:Int) x.1 x.2.1 x.2.2.1 x.2.2.2)
  (fun x=>∃ c:Nat,x.1=(c:Int)∧c≤d∧EI d w c A Lp x.2.2.1∧x.2.2.2.length=c) (fun z=>∃ q' R' pv,z=(q',R',pv)∧EI d w d A Lp R'∧pv.length=d) (fun x=>d - x.1.toNat) (fun x hs'=>by
   obtain ⟨c,e,hc,hE,hpv⟩:=hs'
   obtain ⟨s1,q,R,pv⟩:=x
   simp only at e hE hpv
   subst e
   rcases Nat.lt_or_ge c d with hlt | hge
   ·have hc1:((c:Nat):Int) < (d:Int):=by omega
    obtain ⟨p,p1,p2,p3,p4⟩:=hE.piv hdw hlt hA
    have hl:=hE.len
    have hfd:=piv_ok hF hd hl hE.wid (by omega) p1 p2 p3 p4
    rw [← hpv] at hfd
    have hn0:¬ (p:Int) < 0:=by omega
    have hip:inb R.length (p:Int)=some p:=inbn (by omega)
    have hic:inb R.length (c:Int)=some c:=inbn (by omega)
    have hrp:=getD_at (R:=R) (i:=p) (by omega)
    have hrc:=getD_at (R:=R) (i:=c) (by omega)
    have hip2:inb (List.set R c (R.getD p [])).length (p:Int)=some p:=inbn (by simp;omega)
    have hsl:(swp R c p).length=d:=by simp [swp,hl]
    have hic2:inb (swp R c p).length (c:Int)=some c:=inbn (by omega)
    have hsw:∀ r ∈ swp R c p,r.length=w:=fun r hr=>by
     unfold swp at hr
     rcases List.mem_or_eq_of_mem_set hr with hr | rfl
     ·rcases List.mem_or_eq_of_mem_set hr with hr | rfl
      ·exact hE.wid r hr
      ·exact hE.wid _ (getD_mem (by omega))
     ·exact hE.wid _ (getD_mem (by omega))
    have hrs:=getD_at (R:=swp R c p) (i:=c) (by omega)
    have hxs:=ix_gt (R:=swp R c p) (i:=c) (k:=c) (by rw [hsw _ (getD_mem (by omega))];omega)
    have hmu:=g_mul (F:=F) (by omega) q (gt (swp R c p) c c)
    have hcl:=clear_ok hF hd hw2 hsl hsw (by omega) hlt
    have hga:gapp pv ([(c:Int)]:List Int)=some (pv ++ [(c:Int)]):=gappn (by simp;omega)
    have hst:=hE.step hlt p1 p2 p3 hs ha
    refine .inl ⟨(((c + 1:Nat):Int),gm q (gt (swp R c p) c c),clr (swp R c p) c,pv ++ [(c:Int)]),?_,⟨c + 1,rfl,by omega,hst,by simp [hpv]⟩,by simp only [Int.toNat_natCast];omega⟩
    have hsd:(List.set (List.set R c (R.getD p [])) p (R.getD c []))=swp R c p:=rfl
    rw [hpv] at hfd
    simp only [L176_6,L176_6c,L176_7,L176_7c,L176_8,L176_8c,hc1,decide_true,cond_true,hpv,hfd,hn0,decide_false,cond_false,hip,hic,hrp,hrc,hip2,hsd,hic2,hrs,hxs,hmu,hcl,hga,Option.bind_some,w64n (show c < 9223372036854775807 by omega)]
   ·have hkn:c=d:=by omega
    subst hkn
    exact .inr ⟨(q,R,pv),by simp only [L176_6,L176_6c,show ¬ ((c:Int) < (c:Int)) by omega,decide_false,cond_false],q,R,pv,rfl,hE,hpv⟩)
  F ((0:Int),q,R,([]:List Int)) ⟨0,rfl,by omega,H,rfl⟩ (by simp;omega)
 refine ⟨q',R',pv,?_,h1,h2⟩
 simp only [T176,T176c,hz,Option.bind_some]
theorem idR_len (d i:Nat):(idR d i).length=d:=by simp [idR]
theorem idR_set (d k:Nat):(List.replicate d (0:UInt8)).set k (UInt8.ofNat 1)=idR d k:=by
 apply List.ext_getElem
 ·simp [idR]
 ·intro i h1 h2
  simp only [idR,List.getElem_set,List.getElem_replicate,List.getElem_map,List.getElem_range]
  rfl
theorem identity_ok {F d:Nat} (hF:200 < F) (hd:d≤64):T172 F (d:Int)=some ((List.range d).map (idR d)):=by
 have h1:T177 F (d:Int)=some true:=by
  simp only [T177,T177c,show (0:Int)≤(d:Int) by omega,show (d:Int)≤64 by omega,decide_true,cond_true]
 obtain ⟨r0,hz,hR0⟩:=zeros_ok (F:=F) (n:=d) (len:=d) (by omega) (by omega) (by omega)
 have hol:r0.2.length=d:=by rw [hR0.len];simp
 obtain ⟨z,hz2,hQ⟩:=iter1 (f:=fun s:Int×(List (Option (List UInt8))×List Nat)=>L172_2 F (r0.2.length:Int) s.1 s.2)
  (fun s=>∃ k:Nat,s.1=(k:Int)∧k≤d∧∃ gs:List (List UInt8),Rows s.2.1 s.2.2 gs∧gs.length=d∧(∀ i,i < k->gs[i]? = some (idR d i))∧∀ i,k≤i->i < d->gs[i]? = some (List.replicate d 0))
  (fun z=>Rows z.1 z.2 ((List.range d).map (idR d))) (fun s=>d - s.1.toNat) (fun s hs=>by
   obtain ⟨k,e,hk,gs,hR,hgl,h2,h3⟩:=hs
   obtain ⟨s1,⟨rows,out⟩⟩:=s
   simp only at e hR
   subst e
   rcases Nat.lt_or_ge k d with hlt | hge
   ·have hc1:((k:Nat):Int) < (r0.2.length:Int):=by omega
    obtain ⟨q,a1,a2,a3⟩:=hR.get (h3 k (Nat.le_refl _) hlt)
    have hi:inb out.length (k:Int)=some k:=inbn (by rw [hR.len,hgl];exact hlt)
    have hi2:inb (List.replicate d (0:UInt8)).length (k:Int)=some k:=inbn (by simpa using hlt)
    refine .inl ⟨_,by simp only [L172_2,L172_2c,hc1,decide_true,cond_true,hi,hi2,a1,a2,Option.bind_some,idR_set,w64n (show k < 9223372036854775807 by omega)];rfl,⟨k + 1,rfl,by omega,_,hR.put a3 (idR d k),by simp [hgl],fun i hi=>?_,fun i hi hid=>?_⟩,by simp only [Int.toNat_natCast];omega⟩
    ·by_cases h:k=i
     ·subst h;rw [List.getElem?_set_self (by omega)]
     ·rw [List.getElem?_set_ne h];exact h2 i (by omega)
    ·rw [List.getElem?_set_ne (by omega)];exact h3 i (by omega) hid
   ·have hkn:k=d:=by omega
    subst hkn
    have he:gs=(List.range k).map (idR k):=by
     apply List.ext_getElem?
     intro i
     rcases Nat.lt_or_ge i k with h | h
     ·rw [h2 i h,List.getElem?_map,List.getElem?_range h];rfl
     ·rw [List.getElem?_eq_none (by omega),List.getElem?_eq_none (by simp;omega)]
    subst he
    have hc1:¬ ((k:Nat):Int) < (r0.2.length:Int):=by omega
    exact .inr ⟨(rows,out),by simp only [L172_2,L172_2c,hc1,decide_false,cond_false],hR⟩)
  F ((0:Int),r0) ⟨0,rfl,by omega,_,hR0,by simp,fun i h=>by omega,fun i _ h=>by rw [List.getElem?_replicate,if_pos h]⟩ (by simp;omega)
 have hm:=hQ.mat_eq
 simp only [T172,T172c,h1,Bool.not_true,cond_false,hz,hz2,hm,Option.bind_some]
theorem gne_ok {α:Type} {l:List α} (h:l ≠ []):gne l=some ():=by
 cases l with
 | nil=>exact absurd rfl h
 | cons a l=>rfl
theorem gt_at {R:List (List UInt8)} {i k:Nat} {r:List UInt8} (h:R[i]? = some r):gt R i k=r.getD k 0:=by
 unfold gt
 rw [List.getD_eq_getElem?_getD (l:=R),h];rfl
theorem join_at {m r:List (List UInt8)} {i:Nat} {a b:List UInt8} (h1:m[i]? = some a) (h2:r[i]? = some b):(joinR m r)[i]? = some (a ++ b):=by
 unfold joinR
 rw [List.getElem?_zipWith,h1,h2]
theorem join_loop {F d w:Nat} {m r:List (List UInt8)} (hF:2000 < F) (hd:d≤64) (hm:m.length=d) (hr:r.length=d) (hw:∀ x ∈ m,x.length≤100) (hw2:∀ x ∈ r,x.length≤100000) (hd0:0 < d):iter (fun s:Int×List (List UInt8)=>L171_2 F r m (m.length:Int) s.1 s.2) F ((0:Int),([]:List (List UInt8)))=some (joinR m r):=by
 have hjl:(joinR m r).length=d:=by simp [joinR,hm,hr]
 have hne:=gne_ok (l:=r) (fun e=>by rw [e] at hr;simp at hr;omega)
 obtain ⟨z,hz,hQ⟩:=iter1 (f:=fun s:Int×List (List UInt8)=>L171_2 F r m (m.length:Int) s.1 s.2)
  (fun s=>∃ k:Nat,s.1=(k:Int)∧k≤d∧s.2=(joinR m r).take k) (fun z=>z=joinR m r) (fun s=>d - s.1.toNat) (fun s hs=>by
   obtain ⟨k,e,hk,hl⟩:=hs
   obtain ⟨s1,l⟩:=s
   simp only at e hl
   subst e hl
   rcases Nat.lt_or_ge k d with hlt | hge
   ·have hc1:((k:Nat):Int) < (m.length:Int):=by omega
    have h1:m[k]? = some (m[k]'(by omega)):=List.getElem?_eq_getElem (by omega)
    have h2:r[k]? = some (r[k]'(by omega)):=List.getElem?_eq_getElem (by omega)
    have hx1:=hw _ (List.getElem_mem (h:=(by omega:k < m.length)))
    have hx2:=hw2 _ (List.getElem_mem (h:=(by omega:k < r.length)))
    have hj:=join_at h1 h2
    generalize m[k]'(by omega)=a at h1 hx1 hj
    generalize r[k]'(by omega)=b at h2 hx2 hj
    have g1:gapp ([]:List UInt8) a=some a:=by rw [gappn (by simp;omega)];rfl
    have g2:gapp a b=some (a ++ b):=gappn (by omega)
    have g3:gapp ((joinR m r).take k) [a ++ b]=some ((joinR m r).take k ++ [a ++ b]):=gappn (by simp;omega)
    exact .inl ⟨(((k + 1:Nat):Int),(joinR m r).take k ++ [a ++ b]),by simp only [L171_2,L171_2c,hc1,decide_true,cond_true,ixn h1,ixn h2,hne,g1,g2,g3,Option.bind_some,w64n (show k < 9223372036854775807 by omega)],⟨k + 1,rfl,by omega,by rw [takeS' hj]⟩,by simp only [Int.toNat_natCast];omega⟩
   ·have hkn:k=d:=by omega
    subst hkn
    refine .inr ⟨(joinR m r).take k,?_,by rw [← hjl,List.take_length]⟩
    have hc1:¬ ((k:Nat):Int) < (m.length:Int):=by omega
    simp only [L171_2,L171_2c,hc1,decide_false,cond_false])
  F ((0:Int),([]:List (List UInt8))) ⟨0,rfl,by omega,rfl⟩ (by simp;omega)
 subst hQ
 exact hz
theorem inverse_ok {F d:Nat} {m:List (List UInt8)} (hF:2000 < F) (hd0:0 < d) (hd:d≤64) (hm:m.length=d) (hw:∀ x ∈ m,x.length=d) (hA:∀ x:Nat->UInt8,(∀ i,i < d->dsum d (fun k=>gm (gt m i k) (x k))=0)->∀ k,k < d->x k=0) :
  ∃ B:List (List UInt8),T160 F m=some (0,B)∧B.length=d∧(∀ b ∈ B,b.length=d)∧LI d (gt B) (gt m):=by
 have hv:=valid_ok (F:=F) (m:=m) (w:=d) (by omega) (by omega) hd hw
 obtain ⟨m0,ms,hms⟩:∃ m0 ms,m=m0 :: ms:=by
  cases m with
  | nil=>simp at hm;omega
  | cons a l=>exact ⟨a,l,rfl⟩
 have hc:T150 F m=some (d:Int):=by
  rw [cols_ok]
  have:(m.headD []).length=d:=by rw [hms];exact hw m0 (by rw [hms];simp)
  rw [this]
 have hid:=identity_ok (F:=F) (d:=d) (by omega) hd
 have hml:((m.length:Int) != (d:Int))=false:=by rw [hm];simp
 generalize hI:(List.range d).map (idR d)=I at hid
 have hIl:I.length=d:=by rw [← hI];simp
 have hIa:∀ i,i < d->I[i]? = some (idR d i):=fun i hi=>by rw [← hI,List.getElem?_map,List.getElem?_range hi];rfl
 have hIw:∀ x ∈ I,x.length=d:=fun x hx=>by
  rw [← hI] at hx
  obtain ⟨i,_,rfl⟩:=List.mem_map.1 hx
  exact idR_len d i
 have hj:=join_loop (F:=F) (d:=d) (w:=d) (m:=m) (r:=I) hF hd hm hIl (fun x hx=>by rw [hw x hx];omega) (fun x hx=>by rw [hIw x hx];omega) hd0
 have hjl:(joinR m I).length=d:=by simp [joinR,hm,hIl]
 have hma:∀ i,i < d->∃ a,m[i]? = some a∧a.length=d:=fun i hi=>⟨m[i]'(by omega),List.getElem?_eq_getElem (by omega),hw _ (List.getElem_mem _)⟩
 have hjg1:∀ i k,i < d->k < d->gt (joinR m I) i k=gt m i k:=fun i k hi hk=>by
  obtain ⟨a,h1,h2⟩:=hma i hi
  rw [gt_at (join_at h1 (hIa i hi)),gt_at h1,app_get1 (by omega)]
 have hjg2:∀ i j,i < d->j < d->gt (joinR m I) i (d + j)=if i=j then 1 else 0:=fun i j hi hj'=>by
  obtain ⟨a,h1,h2⟩:=hma i hi
  rw [gt_at (join_at h1 (hIa i hi)),← h2,app_get,h2,idR_get hj']
 have hrow:∀ r ∈ joinR m I,∃ i,i < d∧(joinR m I)[i]? = some r:=fun r hr=>by
  obtain ⟨i,hi⟩:=List.mem_iff_getElem?.1 hr
  exact ⟨i,by have:=(List.getElem?_eq_some_iff.1 hi).1;omega,hi⟩
 have hE:=EI.start (d:=d) (w:=d + d) (Lp:=LpI d (gt m)) (R:=joinR m I) hjl (fun r hr=>by
   obtain ⟨i,hi,h⟩:=hrow r hr
   obtain ⟨a,h1,h2⟩:=hma i hi
   rw [join_at h1 (hIa i hi)] at h
   cases h
   rw [List.length_append,h2,idR_len]) (fun r hr k hk=>by
   obtain ⟨i,hi,h⟩:=hrow r hr
   rw [← gt_at h,hjg1 i k hi hk,dsum_one (n:=d) (f:=fun j=>gm (r.getD (d + j) 0) (gt m j k)) (j:=i) hi (fun j hj' hji=>by
    show gm (r.getD (d + j) 0) (gt m j k)=0
    rw [← gt_at h,hjg2 i j hi hj',if_neg (fun e=>hji e.symm),zero_gm])]
   show gt m i k=gm (r.getD (d + i) 0) (gt m i k)
   rw [← gt_at h,hjg2 i i hi hi,if_pos rfl,one_gm])
 have hA2:∀ x:Nat->UInt8,(∀ i,i < d->dsum d (fun k=>gm (gt (joinR m I) i k) (x k))=0)->∀ k,k < d->x k=0:=fun x hx=>hA x fun i hi=>by
  rw [← hx i hi]
  exact dsum_congr fun k hk=>by rw [hjg1 i k hi hk]
 obtain ⟨q',R',pv,hre,hE',hpv⟩:=reduce_ok (F:=F) (d:=d) (w:=d + d) hF (by omega) (by omega) (by omega) hE hA2 (fun f r _ h=>h.scale f) (fun f r s h1 h2 h3 h4=>LpI.add f h1 h2 h3 h4) (UInt8.ofNat 1)
 have hli:=hE'.inv
 have hRl:=hE'.len
 have hel:T171 F m I=some (q',R',pv):=by
  simp only [T171,T171c,hj,hc,hre,Option.bind_some]
 have hpl:¬ (pv.length:Int) < (m.length:Int):=by omega
 have hgm:=gmaken ([]:List UInt8) (n:=m.length) (by omega)
 obtain ⟨r,r1,r2,_,r4⟩:=fill_loop (N:=d) (f:=fun s:Int×List (List UInt8)=>L160_2 F m (R'.length:Int) R' s.1 s.2) (g:=fun n _=>(R'.getD n []).drop d) (by omega)
  (fun n l h1 h2=>by
   have hn:n < d:=by omega
   have hc1:((n:Nat):Int) < (R'.length:Int):=by omega
   have hi:inb R'.length (n:Int)=some n:=inbn (by omega)
   have hg:=getD_at (R:=R') (i:=n) (by omega)
   have hwn:=hE'.wid _ (getD_mem (R:=R') (i:=n) (by omega))
   generalize R'.getD n []=x at hg hwn
   have hs:gsl x (m.length:Int) (x.length:Int)=some (x.drop d):=by rw [hm];exact gsl_hi (by omega)
   have hga:gapp ([]:List UInt8) (x.drop d)=some (x.drop d):=by rw [gappn (by simp;omega)];rfl
   have hb2:inb l.length (n:Int)=some n:=inbn h1
   simp only [L160_2,L160_2c,hc1,decide_true,cond_true,hi,hg,hs,hga,hb2,Option.bind_some,w64n (show n < 9223372036854775807 by omega)])
  (fun l hl=>by
   have hc1:¬ ((d:Nat):Int) < (R'.length:Int):=by omega
   simp only [L160_2,L160_2c,hc1,decide_false,cond_false])
  d 0 F (List.replicate m.length []) (by omega) (by simp [hm]) (by omega)
 have r1:iter (fun s:Int×List (List UInt8)=>L160_2 F m (R'.length:Int) R' s.1 s.2) F ((0:Int),List.replicate m.length [])=some r:=r1
 have hra:∀ i,i < d->r[i]? = some ((R'.getD i []).drop d):=fun i hi=>by
  rw [List.getElem?_eq_getElem (by omega),r4 i (by omega) (by simp;omega) (by omega)]
 have hid2:T172 F (m.length:Int)=some I:=by rw [hm];exact hid
 refine ⟨r,?_,r2,fun b hb=>?_,fun i k hi hk=>?_⟩
 ·simp only [T160,T160c,hv,hc,hml,hid2,hel,hpl,hgm,r1,Option.bind_some,Bool.not_true,cond_false,decide_false]
 ·obtain ⟨i,hi⟩:=List.mem_iff_getElem?.1 hb
  have hid':i < d:=by have:=(List.getElem?_eq_some_iff.1 hi).1;omega
  rw [hra i hid'] at hi
  cases hi
  rw [List.length_drop,hE'.wid _ (getD_mem (by omega))];omega
 ·rw [← hli i k hi hk]
  refine dsum_congr fun j hj'=>?_
  rw [gt_at (hra i hi)]
  show gm (((R'.getD i []).drop d).getD j 0) _=gm ((R'.getD i []).getD (d + j) 0) _
  congr 1
  rw [List.getD_eq_getElem?_getD (l:=(R'.getD i []).drop d),List.getD_eq_getElem?_getD (l:=R'.getD i []),List.getElem?_drop]
def pcs (d len:Nat) (is:List Nat) (xs:List (List UInt8)):List (List UInt8):=is.map fun i=>comb (rowD d i) xs (List.replicate len 0)
theorem rowD_get {d i k:Nat} (hk:k < d):(rowD d i).getD k 0=cell d i k:=by
 unfold rowD
 rw [List.getD_eq_getElem?_getD,List.getElem?_map,List.getElem?_range hk];rfl
theorem gt_rows {d:Nat} {is:List Nat} {j k:Nat} (hj:j < is.length) (hk:k < d):gt (is.map (rowD d)) j k=cell d (is.getD j 0) k:=by
 have:(is.map (rowD d))[j]? = some (rowD d (is.getD j 0)):=by
  rw [List.getElem?_map,List.getElem?_eq_getElem hj];simp [hj]
 rw [gt_at this,rowD_get hk]
theorem rows_ind {d:Nat} {is:List Nat} (hl:is.length=d) (hn:is.Nodup) (hb:∀ i ∈ is,i < 16) (hd:d≤8):∀ x:Nat->UInt8,(∀ i,i < d->dsum d (fun k=>gm (gt (is.map (rowD d)) i k) (x k))=0)->∀ k,k < d->x k=0:=fun x hx=>
 mds hl hn (fun i hi=>by have:=hb i hi;omega) (by omega) fun i hi=>by
  obtain ⟨j,hj⟩:=List.mem_iff_getElem?.1 hi
  have hjl:=(List.getElem?_eq_some_iff.1 hj).1
  have:=hx j (by omega)
  rw [← this]
  refine dsum_congr fun k hk=>?_
  rw [gt_rows hjl hk,List.getD_eq_getElem?_getD,hj];rfl
theorem inv_comb {d len:Nat} {is:List Nat} {B:List (List UInt8)} {xs:List (List UInt8)} (hl:is.length=d) (hB:B.length=d) (hBw:∀ b ∈ B,b.length=d) (hLI:LI d (gt B) (gt (is.map (rowD d)))) (hx:xs.length=d) (hxl:∀ x ∈ xs,x.length=len) :
  (B.map fun b=>comb b (pcs d len is xs) (List.replicate len 0))=xs:=by
 have hpl:(pcs d len is xs).length=d:=by simp [pcs,hl]
 have hzl:(List.replicate len (0:UInt8)).length=len:=by simp
 have hpw:∀ p ∈ pcs d len is xs,p.length=(List.replicate len (0:UInt8)).length:=fun p hp=>by
  obtain ⟨i,_,rfl⟩:=List.mem_map.1 hp
  exact comb_len fun b hb=>by rw [hxl b hb,hzl]
 have hz0:∀ t,(List.replicate len (0:UInt8)).getD t 0=0:=fun t=>by
  rw [List.getD_eq_getElem?_getD,List.getElem?_replicate];split<;>rfl
 apply List.ext_getElem
 ·simp [hB,hx]
 ·intro i h1 h2
  have hi:i < d:=by omega
  rw [List.getElem_map]
  have hBi:B[i]'(by omega)=B.getD i []:=by simp [show i < B.length by omega]
  have hbl:=hBw _ (List.getElem_mem (h:=(by omega:i < B.length)))
  have hcl:(comb (B[i]'(by omega)) (pcs d len is xs) (List.replicate len 0)).length=len:=by rw [comb_len hpw,hzl]
  have hxi:(xs[i]).length=len:=hxl _ (List.getElem_mem _)
  apply List.ext_getElem
  ·omega
  ·intro t h3 h4
   have e1:∀ (l:List UInt8) (h:t < l.length),l[t]=l.getD t 0:=fun l h=>by simp [h]
   rw [e1 _ h3,e1 _ h4,comb_gd (by rw [hbl,hpl]) hpw,hz0,zx,hpl,hBi]
   have hs:=hLI.solve (p:=fun j=>((pcs d len is xs).getD j []).getD t 0) (x:=fun k=>(xs.getD k []).getD t 0) (fun j hj=>by
    have:(pcs d len is xs)[j]? = some (comb (rowD d (is.getD j 0)) xs (List.replicate len 0)):=by
     unfold pcs
     rw [List.getElem?_map,List.getElem?_eq_getElem (by omega)];simp [show j < is.length by omega]
    show ((pcs d len is xs).getD j []).getD t 0=_
    rw [List.getD_eq_getElem?_getD (l:=pcs d len is xs),this,Option.getD_some,comb_gd (by rw [rowD_len,hx]) (fun b hb=>by rw [hxl b hb,hzl]),hz0,zx,hx]
    exact dsum_congr fun k hk=>by rw [gt_rows (by omega) hk,rowD_get hk]) hi
   have:xs[i]=xs.getD i []:=by simp [h2]
   rw [this]
   exact hs
def okS (id:List UInt8) (vault block data total:Int) (refs:List Rf):Bool:=
 decide (id.length=32∧0≤vault∧vault≤11∧1≤data∧data≤8∧data≤total∧total≤16∧1≤refs.length∧(refs.length:Int)≤data) && (vRs refs && refs.all fun r=>clsOf r.2.2.1 == block)
theorem valid_d (F:Nat) (data total:Int):T35 F data total=some (decide (1≤data∧data≤8∧data≤total∧total≤16)):=by
 simp only [T35,T35c]
 by_cases h1:1≤data<;>by_cases h2:data≤8<;>by_cases h3:data≤total<;>by_cases h4:total≤16<;>simp [h1,h2,h3,h4]
theorem class_all {F:Nat} (hF:2000 < F) {refs:List Rf} (hl:refs.length≤1000) (hv:∀ r ∈ refs,0≤r.2.2.1∧r.2.2.1≤32768) (c:Int) :
  iter (fun s=>L16_2 F refs (refs.length:Int) c s) F (0:Int)=some (bif refs.all (fun r=>clsOf r.2.2.1 == c) then .inl () else .inr (1:Int)):=by
 obtain ⟨z,hz,hQ⟩:=iter1 (f:=fun s:Int=>L16_2 F refs (refs.length:Int) c s)
  (fun s=>∃ k:Nat,s=(k:Int)∧k≤refs.length∧(refs.drop k).all (fun r=>clsOf r.2.2.1 == c)=refs.all (fun r=>clsOf r.2.2.1 == c)) (fun z=>z=(bif refs.all (fun r=>clsOf r.2.2.1 == c) then .inl () else .inr (1:Int))) (fun s=>refs.length - s.toNat) (fun s hs=>by
   obtain ⟨k,e,hk,ha⟩:=hs
   subst e
   rcases Nat.lt_or_ge k refs.length with hlt | hge
   ·have hc1:((k:Nat):Int) < (refs.length:Int):=by omega
    have hr:refs[k]? = some refs[k]:=List.getElem?_eq_getElem hlt
    have hix:=ixn hr
    have hx:=hv _ (List.getElem_mem hlt)
    have hd:=drop_at hr
    generalize refs[k]=x at hr hix hx hd
    have hh:=has_ok (F:=F) (by omega) hx.1 hx.2 c
    rw [hd,List.all_cons] at ha
    cases h1:clsOf x.2.2.1 == c with
    | false=>
     rw [h1] at hh
     rw [h1,Bool.false_and] at ha
     exact .inr ⟨.inr (1:Int),by simp only [L16_2,L16_2c,hc1,decide_true,cond_true,hix,hh,Option.bind_some,Bool.not_false],by rw [← ha];rfl⟩
    | true=>
     rw [h1] at hh
     rw [h1,Bool.true_and] at ha
     exact .inl ⟨((k + 1:Nat):Int),by simp only [L16_2,L16_2c,hc1,decide_true,cond_true,hix,hh,Option.bind_some,Bool.not_true,cond_false,w64n (show k < 9223372036854775807 by omega)],⟨k + 1,rfl,by omega,ha⟩,by simp only [Int.toNat_natCast];omega⟩
   ·have hkn:k=refs.length:=by omega
    subst hkn
    rw [List.drop_length] at ha
    refine .inr ⟨.inl (),?_,by rw [← ha];rfl⟩
    simp [L16_2,L16_2c])
  F (0:Int) ⟨0,rfl,by omega,rfl⟩ (by simp;omega)
 subst hQ
 exact hz
theorem check_ok {F:Nat} (hF:2000 < F) (id:List UInt8) (vault block data total:Int) {refs:List Rf} (hl:refs.length≤1000):T16 F id vault block data total refs=some (bif okS id vault block data total refs then (0:Int) else (1:Int)):=by
 have h30:=valid30 (refs:=refs) hl hF
 have bad:∀ {p:Prop} [Decidable p] {c:Bool},¬ p->(bif (decide p && c) then (0:Int) else (1:Int))=1:=fun {p} _ c h=>by simp [h]
 simp only [T16,T16c,h30,valid_d,Option.bind_some]
 unfold okS
 by_cases c0:id.length=32
 case neg=>
  have:((id.length:Int) != 32)=true:=by
   have:¬ (id.length:Int)=32:=by omega
   simpa using this
  simp only [this,cond_true];rw [bad (fun h=>c0 h.1)]
 have e0:((id.length:Int) != 32)=false:=by rw [c0];rfl
 simp only [e0,cond_false]
 by_cases c1:vault < 0
 ·simp only [c1,decide_true,cond_true];rw [bad (by omega)]
 simp only [c1,decide_false,cond_false]
 by_cases c2:11 < vault
 ·simp only [c2,decide_true,cond_true];rw [bad (by omega)]
 simp only [c2,decide_false,cond_false]
 by_cases c3:1≤data∧data≤8∧data≤total∧total≤16
 case neg=>simp only [c3,decide_false,Bool.not_false,cond_true];rw [bad (fun h=>c3 ⟨h.2.2.2.1,h.2.2.2.2.1,h.2.2.2.2.2.1,h.2.2.2.2.2.2.1⟩)]
 have c3':decide (1≤data∧data≤8∧data≤total∧total≤16)=true:=by simpa using c3
 simp only [c3',Bool.not_true,cond_false]
 by_cases c4:(refs.length:Int) < 1
 ·simp only [c4,decide_true,cond_true];rw [bad (by omega)]
 simp only [c4,decide_false,cond_false]
 by_cases c5:data < (refs.length:Int)
 ·simp only [c5,decide_true,cond_true];rw [bad (by omega)]
 simp only [c5,decide_false,cond_false]
 cases c6:vRs refs with
 | false=>simp only [Bool.not_false,cond_true,Bool.false_and,Bool.and_false,cond_false]
 | true=>
 have hp:decide (id.length=32∧0≤vault∧vault≤11∧1≤data∧data≤8∧data≤total∧total≤16∧1≤refs.length∧(refs.length:Int)≤data)=true:=by apply decide_eq_true;omega
 have hlo:=class_all hF hl (vRs_size c6) block
 simp only [Bool.not_true,cond_false,Bool.true_and,hlo,Option.bind_some,hp]
 cases refs.all (fun r=>clsOf r.2.2.1 == block)<;>rfl
def all32 (sums:List (List UInt8)):Bool:=sums.all fun s=>s.length == 32
def okP (F:Nat) (id:List UInt8) (index:Int) (data:List UInt8) (sums:List (List UInt8)):Bool:=
 decide (id.length=32∧1≤sums.length∧sums.length≤16∧0≤index∧index < (sums.length:Int)∧1≤data.length∧data.length≤65536) && (all32 sums && (sums.getD index.toNat [] == hsh F data && rt F F sums == id))
theorem len32 (s:List UInt8):((s.length:Int) != 32) = !(s.length == 32):=by
 by_cases h:s.length=32
 ·have:((s.length:Int) != 32)=false:=by rw [h];rfl
  rw [this,h];rfl
 ·have h1:(s.length == 32)=false:=by simpa using h
  have h2:((s.length:Int) != 32)=true:=by
   have:¬ (s.length:Int)=32:=by omega
   simpa using this
  rw [h1,h2];rfl
theorem sums_ok {F:Nat} (hF:2000 < F) {sums:List (List UInt8)} (hl:sums.length≤1000):T46 F sums=some (!all32 sums):=by
 have h:∃ z,iter (fun s=>L83_2 F sums (sums.length:Int) s) F (0:Int)=some z∧(z=.inl ()∧all32 sums=true∨∃ k:Nat,z=.inr (k:Int)∧all32 sums=false):=by
  exact iter1 (f:=fun s:Int=>L83_2 F sums (sums.length:Int) s)
   (fun s=>∃ k:Nat,s=(k:Int)∧k≤sums.length∧(sums.drop k).all (fun s=>s.length == 32)=all32 sums) _ (fun s=>sums.length - s.toNat) (fun s hs=>by
    obtain ⟨k,e,hk,ha⟩:=hs
    subst e
    rcases Nat.lt_or_ge k sums.length with hlt | hge
    ·have hc1:((k:Nat):Int) < (sums.length:Int):=by omega
     have hr:sums[k]? = some sums[k]:=List.getElem?_eq_getElem hlt
     have hix:=ixn hr
     have hd:=drop_at hr
     generalize sums[k]=x at hr hix hd
     rw [hd,List.all_cons] at ha
     have ht:T47 F x=some (!(x.length == 32)):=by simp only [T47,T47c,len32]
     cases h1:x.length == 32 with
     | false=>
      rw [h1] at ht
      rw [h1,Bool.false_and] at ha
      exact .inr ⟨.inr (k:Int),by simp only [L83_2,L83_2c,hc1,decide_true,cond_true,hix,ht,Option.bind_some,Bool.not_false],.inr ⟨k,rfl,ha.symm⟩⟩
     | true=>
      rw [h1] at ht
      rw [h1,Bool.true_and] at ha
      exact .inl ⟨((k + 1:Nat):Int),by simp only [L83_2,L83_2c,hc1,decide_true,cond_true,hix,ht,Option.bind_some,Bool.not_true,cond_false,w64n (show k < 9223372036854775807 by omega)],⟨k + 1,rfl,by omega,ha⟩,by simp only [Int.toNat_natCast];omega⟩
    ·have hkn:k=sums.length:=by omega
     subst hkn
     rw [List.drop_length] at ha
     refine .inr ⟨.inl (),?_,.inl ⟨rfl,by rw [← ha];rfl⟩⟩
     simp [L83_2,L83_2c])
   F (0:Int) ⟨0,rfl,by omega,rfl⟩ (by simp;omega)
 obtain ⟨z,hz,hQ⟩:=h
 simp only [T46,T46c,T83,T83c,hz,Option.bind_some]
 rcases hQ with ⟨rfl,h⟩ | ⟨k,rfl,h⟩
 ·rw [h];rfl
 ·have:(0:Int)≤(k:Int):=by omega
  rw [h];simp only [elimS,Option.bind_some,this,decide_true,Bool.not_false]
theorem all32_mem {sums:List (List UInt8)} (h:all32 sums=true):∀ x ∈ sums,x.length=32:=fun x hx=>by
 have:=List.all_eq_true.1 h x hx
 simpa using this
theorem beqL_comm (a b:List UInt8):(a == b)=(b == a):=by
 by_cases h:a=b
 ·rw [h]
 ·have h1:(a == b)=false:=by simpa using h
  have h2:(b == a)=false:=by simpa using fun e:b=a=>h e.symm
  rw [h1,h2]
theorem verify_ok {F:Nat} (hF:2000 < F) (id:List UInt8) (index:Int) (data:List UInt8) {sums:List (List UInt8)}:T18 F id index data sums=some (okP F id index data sums):=by
 have bad:∀ {p:Prop} [Decidable p] {c:Bool},¬ p->(decide p && c)=false:=fun {p} _ c h=>by simp [h]
 simp only [T18,T18c]
 unfold okP
 by_cases c0:id.length=32
 case neg=>
  have:((id.length:Int) != 32)=true:=by
   have:¬ (id.length:Int)=32:=by omega
   simpa using this
  simp only [this,cond_true];rw [bad (fun h=>c0 h.1)]
 have e0:((id.length:Int) != 32)=false:=by rw [c0];rfl
 simp only [e0,cond_false]
 by_cases c1:(sums.length:Int) < 1
 ·simp only [c1,decide_true,cond_true];rw [bad (by omega)]
 simp only [c1,decide_false,cond_false]
 by_cases c2:16 < (sums.length:Int)
 ·simp only [c2,decide_true,cond_true];rw [bad (by omega)]
 have hs:=sums_ok hF (sums:=sums) (by omega)
 simp only [c2,decide_false,cond_false,hs,Option.bind_some]
 cases ha:all32 sums with
 | false=>simp only [Bool.not_false,cond_true,Bool.false_and,Bool.and_false]
 | true=>
 simp only [Bool.not_true,cond_false,Bool.true_and]
 by_cases c3:index < 0
 ·simp only [c3,decide_true,cond_true];rw [bad (by omega)]
 simp only [c3,decide_false,cond_false]
 by_cases c4:(sums.length:Int)≤index
 ·simp only [c4,decide_true,cond_true];rw [bad (by omega)]
 simp only [c4,decide_false,cond_false]
 by_cases c5:(data.length:Int) < 1
 ·simp only [c5,decide_true,cond_true];rw [bad (by omega)]
 simp only [c5,decide_false,cond_false]
 by_cases c6:(65536:Int) < (data.length:Int)
 ·simp only [c6,decide_true,cond_true];rw [bad (by omega)]
 have hof:=(t_of hF (x:=data) (by omega)).1
 obtain ⟨i,rfl⟩:∃ i:Nat,index=(i:Int):=⟨index.toNat,by omega⟩
 have hr:sums[i]? = some (sums[i]'(by omega)):=List.getElem?_eq_getElem (by omega)
 have hgd:sums.getD i []=sums[i]'(by omega):=by simp [show i < sums.length by omega]
 have hrt:=(t_root hF (l:=sums) (by omega) (all32_mem ha)).1
 have hp:decide (id.length=32∧1≤sums.length∧sums.length≤16∧0≤(i:Int)∧(i:Int) < (sums.length:Int)∧1≤data.length∧data.length≤65536)=true:=by apply decide_eq_true;omega
 simp only [c6,decide_false,cond_false,hof,Option.bind_some,beq_self_eq_true,cond_true,ixn hr,hrt,hp,Bool.true_and,Int.toNat_natCast,hgd]
 rw [beqL_comm]
 cases sums[i]'(by omega) == hsh F data<;>simp
def okF (F:Nat) (sid:List UInt8) (block total:Int) (id:List UInt8) (index:Int) (data:List UInt8) (sums:List (List UInt8)):Bool:=
 id == sid && ((sums.length:Int) == total && ((data.length:Int) == block && okP F id index data sums))
theorem fits_ok {F:Nat} (hF:2000 < F) (sid:List UInt8) (block total:Int) (id:List UInt8) (index:Int) (data:List UInt8) {sums:List (List UInt8)}:T52 F sid block total id index data sums=some (okF F sid block total id index data sums):=by
 simp only [T52,T52c,verify_ok hF,Option.bind_some]
 unfold okF
 cases id == sid<;>cases (sums.length:Int) == total<;>cases (data.length:Int) == block<;>simp
abbrev toI (is:List Nat):List Int:=is.map fun i:Nat=>(i:Int)
theorem not_take {is:List Nat} (hn:is.Nodup) {k i:Nat} (h:is[k]? = some i):i ∉ is.take k:=fun hm=>by
 obtain ⟨j,hj⟩:=List.mem_iff_getElem?.1 hm
 have hjl:=(List.getElem?_eq_some_iff.1 hj).1
 rw [List.length_take] at hjl
 rw [List.getElem?_take_of_lt (by omega)] at hj
 have:=nodup_at hn hj h
 omega
theorem checkI_ok {F d t:Nat} (hF:2000 < F) (h1:1≤d) (h8:d≤8) (hdt:d≤t) (ht:t≤16) {is:List Nat} (hn:is.Nodup) (hi:∀ i ∈ is,i < t) (hl:is.length≤100):T159 F (d:Int) (t:Int) (toI is)=some 0:=by
 have hv:T35 F (d:Int) (t:Int)=some true:=by
  rw [valid_d];congr 1;apply decide_eq_true;omega
 have hll:(toI is).length=is.length:=by simp
 obtain ⟨z,hz,hQ⟩:=iter1 (f:=fun s:Int×Vector Bool 16=>L159_2 F (t:Int) (toI is) ((toI is).length:Int) s.1 s.2)
  (fun s=>∃ k:Nat,s.1=(k:Int)∧k≤is.length∧∀ (j:Nat) (hj:j < 16),s.2[j]=decide (j ∈ is.take k)) (fun z=>z=.inl ()) (fun s=>is.length - s.1.toNat) (fun s hs=>by
   obtain ⟨k,e,hk,ha⟩:=hs
   obtain ⟨s1,v⟩:=s
   simp only at e ha
   subst e
   rcases Nat.lt_or_ge k is.length with hlt | hge
   ·have hc1:((k:Nat):Int) < ((toI is).length:Int):=by omega
    have hr0:is[k]? = some is[k]:=List.getElem?_eq_getElem hlt
    have hit:=hi _ (List.getElem_mem hlt)
    have hnt:=not_take hn hr0
    have htk:=takeS' hr0
    generalize is[k]=i at hr0 hit hnt htk
    have hr:(toI is)[k]? = some (i:Int):=by rw [List.getElem?_map,hr0];rfl
    have hn0:¬ (i:Int) < 0:=by omega
    have hn1:¬ (t:Int)≤(i:Int):=by omega
    have hb:inb 16 (i:Int)=some i:=inbn (by omega)
    have hv0:vat v i=some v[i]:=vatn (by omega)
    have hvf:v[i]'(by omega)=false:=by rw [ha i (by omega)];exact decide_eq_false hnt
    rw [hvf] at hv0
    refine .inl ⟨(((k + 1:Nat):Int),Vector.setIfInBounds v i true),by simp only [L159_2,L159_2c,hc1,decide_true,cond_true,ixn hr,hn0,hn1,decide_false,cond_false,hb,hv0,Option.bind_some,w64n (show k < 9223372036854775807 by omega)],⟨k + 1,rfl,by omega,fun j hj=>?_⟩,by simp only [Int.toNat_natCast];omega⟩
    simp only [Vector.getElem_setIfInBounds,htk,List.mem_append,List.mem_singleton]
    by_cases hij:i=j
    ·subst hij;simp
    ·simp only [hij,if_false,ha j hj]
     have:¬ j=i:=fun e=>hij e.symm
     simp [this]
   ·have hkn:k=is.length:=by omega
    subst hkn
    have hc1:¬ ((is.length:Nat):Int) < ((toI is).length:Int):=by omega
    exact .inr ⟨.inl (),by simp only [L159_2,L159_2c,hc1,decide_false,cond_false],rfl⟩)
  F ((0:Int),(Vector.replicate 16 false)) ⟨0,rfl,by omega,fun j hj=>by simp⟩ (by simp;omega)
 subst hQ
 simp only [T159,T159c,hv,Bool.not_true,cond_false,hz,Option.bind_some,elimS]
theorem recon_ok {F d t len:Nat} (hF:2000 + len < F) (h1:1≤d) (h8:d≤8) (hdt:d≤t) (ht:t≤16) (hl1:1≤len) (hl2:len≤65536) {is:List Nat} (hil:is.length=d) (hn:is.Nodup) (hi:∀ i ∈ is,i < t) {ps:List (List UInt8)} (hp:ps.length=d) (hpl:∀ p ∈ ps,p.length=len) :
  ∃ B:List (List UInt8),B.length=d∧(∀ b ∈ B,b.length=d)∧LI d (gt B) (gt (is.map (rowD d)))∧T94 F (d:Int) (t:Int) (toI is) ps=some (B.map fun b=>comb b ps (List.replicate len 0),0):=by
 have hc:=checkI_ok (F:=F) (by omega) h1 h8 hdt ht hn hi (by omega)
 have hone:=one_ok (F:=F) (by omega) (by omega) hl1 hl2 hpl
 have hll:(toI is).length=d:=by simp [hil]
 have e1:(((toI is).length:Int) != (ps.length:Int))=false:=by rw [hll,hp];simp
 have e2:¬ ((toI is).length:Int) < (d:Int):=by omega
 have hg:T132 F (d:Int) (t:Int) (toI is) ps=some 0:=by
  simp only [T132,T132c,hc,Option.bind_some,bne_self_eq_false,cond_false,e1,hone,Bool.not_true,e2,decide_false]
 obtain ⟨tb,ht1,ht2⟩:=table_ok (F:=F) (d:=d) (by omega) h8
 have hof:=of_ok (F:=F) (by omega) h8 ht2 (is:=is) (by omega) (fun i h=>by have:=hi i h;omega)
 have hml:(is.map (rowD d)).length=d:=by simp [hil]
 have hmw:∀ x ∈ is.map (rowD d),x.length=d:=fun x hx=>by
  obtain ⟨i,_,rfl⟩:=List.mem_map.1 hx
  exact rowD_len d i
 obtain ⟨B,b1,b2,b3,b4⟩:=inverse_ok (F:=F) (by omega) h1 (by omega) hml hmw (rows_ind hil hn (fun i h=>by have:=hi i h;omega) h8)
 have hs1:gsl (toI is) (0:Int) (d:Int)=some (toI is):=by
  rw [gsl_lo (by omega),← hll,List.take_length]
 have hs2:gsl ps (0:Int) (d:Int)=some ps:=by
  rw [gsl_lo (by omega),← hp,List.take_length]
 have hinv:T133 F (toI is) (d:Int) tb=some B:=by
  simp only [T133,T133c,hs1,hof,b1,Option.bind_some]
 have hap:=apply_ok (F:=F) (len:=len) (by omega) (by omega) (m:=B) (bs:=ps) (by omega) (by
   intro e
   rw [e] at b2;simp at b2;omega) (fun x hx=>by rw [b3 x hx,hp]) (by omega) (by
   intro e
   rw [e] at hp;simp at hp;omega) hpl
 refine ⟨B,b2,b3,b4,?_⟩
 simp only [T94,T94c,hg,bne_self_eq_false,cond_false,hs2,ht1,hinv,hap,Option.bind_some]
def stepP (F:Nat) (sid:List UInt8) (block total:Int) (d:Nat) (s:List Nat×List (List UInt8)) (p:Pc):List Nat×List (List UInt8):=
 bif decide (s.2.length < d) && (okF F sid block total p.1.1 p.1.2.1 p.2.1 p.2.2.1 && !s.1.contains p.1.2.1.toNat) then (s.1 ++ [p.1.2.1.toNat],s.2 ++ [p.2.1]) else s
def takeP (F:Nat) (sid:List UInt8) (block total:Int) (d:Nat) (l:List Pc):List Nat×List (List UInt8):=l.foldl (stepP F sid block total d) ([],[])
theorem stepP_full {F:Nat} {sid:List UInt8} {block total:Int} {d:Nat}:∀ {l:List Pc} {s:List Nat×List (List UInt8)},s.2.length=d->l.foldl (stepP F sid block total d) s=s
 | [],_,_=>rfl
 | p :: l,s,h=>by
  have:stepP F sid block total d s p=s:=by unfold stepP;simp [show ¬ s.2.length < d by omega]
  rw [List.foldl_cons,this];exact stepP_full h
structure TK (F:Nat) (sid:List UInt8) (block total:Int) (d:Nat) (s:List Nat×List (List UInt8)):Prop where
 len:s.1.length=s.2.length
 le:s.2.length≤d
 nd:s.1.Nodup
 lt:∀ i ∈ s.1,(i:Int) < total
 bl:∀ x ∈ s.2,(x.length:Int)=block∧1≤x.length∧x.length≤65536
theorem okF_of {F:Nat} {sid:List UInt8} {block total:Int} {id:List UInt8} {index:Int} {data:List UInt8} {sums:List (List UInt8)} (h:okF F sid block total id index data sums=true):0≤index∧index < total∧(data.length:Int)=block∧1≤data.length∧data.length≤65536:=by
 unfold okF okP at h
 simp only [Bool.and_eq_true,beq_iff_eq,decide_eq_true_eq] at h
 obtain ⟨_,h2,h3,h4,_⟩:=h
 omega
theorem TK.step {F:Nat} {sid:List UInt8} {block total:Int} {d:Nat} {s:List Nat×List (List UInt8)} (H:TK F sid block total d s) (p:Pc):TK F sid block total d (stepP F sid block total d s p):=by
 unfold stepP
 cases h:decide (s.2.length < d) && (okF F sid block total p.1.1 p.1.2.1 p.2.1 p.2.2.1 && !s.1.contains p.1.2.1.toNat) with
 | false=>exact H
 | true=>
  simp only [Bool.and_eq_true,decide_eq_true_eq,Bool.not_eq_true',List.contains_eq_mem,decide_eq_false_iff_not] at h
  obtain ⟨h1,h2,h3⟩:=h
  obtain ⟨a1,a2,a3,a4,a5⟩:=okF_of h2
  refine ⟨by simp [H.len],by simp;omega,?_,fun i hi=>?_,fun x hx=>?_⟩
  ·show (s.1 ++ [p.1.2.1.toNat]).Nodup
   rw [List.nodup_append]
   exact ⟨H.nd,by simp,fun a ha b hb e=>by simp at hb;subst hb;subst e;exact h3 ha⟩
  ·rcases List.mem_append.1 hi with hi | hi
   ·exact H.lt i hi
   ·simp at hi;subst hi;omega
  ·rcases List.mem_append.1 hx with hx | hx
   ·exact H.bl x hx
   ·simp at hx;subst hx;exact ⟨a3,a4,a5⟩
theorem TK.fold {F:Nat} {sid:List UInt8} {block total:Int} {d:Nat}:∀ {l:List Pc} {s:List Nat×List (List UInt8)},TK F sid block total d s->TK F sid block total d (l.foldl (stepP F sid block total d) s)
 | [],_,H=>H
 | p :: l,_,H=>TK.fold (l:=l) (H.step p)
theorem TK.start {F:Nat} {sid:List UInt8} {block total:Int} {d:Nat}:TK F sid block total d ([],[]):=⟨rfl,by simp,by simp,by simp,by simp⟩
theorem contains_ok {F:Nat} (hF:2000 < F) {l:List Int} (hl:l.length≤1000) (x:Int):T93 F l x=some (l.contains x):=by
 have h:∃ z,iter (fun s=>L131_2 F l x (l.length:Int) s) F (0:Int)=some z∧(z=.inl ()∧l.contains x=false∨∃ k:Nat,z=.inr (k:Int)∧l.contains x=true):=by
  exact iter1 (f:=fun s:Int=>L131_2 F l x (l.length:Int) s)
   (fun s=>∃ k:Nat,s=(k:Int)∧k≤l.length∧(l.drop k).contains x=l.contains x) _ (fun s=>l.length - s.toNat) (fun s hs=>by
    obtain ⟨k,e,hk,ha⟩:=hs
    subst e
    rcases Nat.lt_or_ge k l.length with hlt | hge
    ·have hc1:((k:Nat):Int) < (l.length:Int):=by omega
     have hr:l[k]? = some l[k]:=List.getElem?_eq_getElem hlt
     have hix:=ixn hr
     have hd:=drop_at hr
     generalize l[k]=a at hr hix hd
     rw [hd,List.contains_cons] at ha
     cases h1:x == a with
     | true=>
      rw [h1,Bool.true_or] at ha
      exact .inr ⟨.inr (k:Int),by simp only [L131_2,L131_2c,hc1,decide_true,cond_true,hix,h1,Option.bind_some],.inr ⟨k,rfl,ha.symm⟩⟩
     | false=>
      rw [h1,Bool.false_or] at ha
      exact .inl ⟨((k + 1:Nat):Int),by simp only [L131_2,L131_2c,hc1,decide_true,cond_true,hix,h1,Option.bind_some,cond_false,w64n (show k < 9223372036854775807 by omega)],⟨k + 1,rfl,by omega,ha⟩,by simp only [Int.toNat_natCast];omega⟩
    ·have hkn:k=l.length:=by omega
     subst hkn
     rw [List.drop_length] at ha
     refine .inr ⟨.inl (),?_,.inl ⟨rfl,ha.symm⟩⟩
     simp [L131_2,L131_2c])
   F (0:Int) ⟨0,rfl,by omega,rfl⟩ (by simp;omega)
 obtain ⟨z,hz,hQ⟩:=h
 rcases hQ with ⟨rfl,h⟩ | ⟨k,rfl,h⟩
 ·simp only [T93,T93c,T131,T131c,hz,Option.bind_some,elimS,h];rfl
 ·simp only [T93,T93c,T131,T131c,hz,Option.bind_some,elimS,h,show (0:Int)≤(k:Int) by omega,decide_true]
theorem toI_has {is:List Nat} {x:Int} (h:0≤x):(toI is).contains x=is.contains x.toNat:=by
 simp only [List.contains_eq_mem,List.mem_map]
 apply decide_eq_decide.2
 constructor
 ·rintro ⟨i,hi,rfl⟩;simpa using hi
 ·intro h2;exact ⟨_,h2,by omega⟩
theorem take_ok {F:Nat} (hF:2000 < F) {sid:List UInt8} {block total:Int} {d:Nat} {s:List Nat×List (List UInt8)} (H:TK F sid block total d s) (hd:d≤8) (p:Pc) (hlt:s.2.length < d) :
  T92x3 F p.1.1 p.1.2.1 p.2.1 p.2.2.1 sid block total (toI s.1) s.2=some (toI (stepP F sid block total d s p).1,(stepP F sid block total d s p).2):=by
 have h1:=H.len
 have hc:=contains_ok hF (l:=toI s.1) (by simp;omega) p.1.2.1
 have hf:=fits_ok hF sid block total p.1.1 p.1.2.1 p.2.1 (sums:=p.2.2.1)
 have g1:gapp (toI s.1) [p.1.2.1]=some (toI s.1 ++ [p.1.2.1]):=gappn (by simp;omega)
 have g2:gapp s.2 [p.2.1]=some (s.2 ++ [p.2.1]):=gappn (by simp;omega)
 simp only [T92x3,T92x3c,hc,hf,g1,g2,Option.bind_some]
 unfold stepP
 rw [decide_eq_true hlt,Bool.true_and]
 cases ho:okF F sid block total p.1.1 p.1.2.1 p.2.1 p.2.2.1 with
 | false=>
  simp only [Bool.false_and,cond_false]
  cases (toI s.1).contains p.1.2.1<;>rfl
 | true=>
  obtain ⟨a1,a2,_⟩:=okF_of ho
  rw [toI_has a1]
  simp only [Bool.true_and]
  cases s.1.contains p.1.2.1.toNat with
  | true=>rfl
  | false=>
   simp only [Bool.not_false,cond_true]
   have e:toI (s.1 ++ [p.1.2.1.toNat])=toI s.1 ++ [p.1.2.1]:=by
    show List.map _ _=_
    rw [List.map_append,List.map_cons,List.map_nil,Int.toNat_of_nonneg a1]
   rw [e]
theorem take_loop {F:Nat} (hF:2000 < F) {sid:List UInt8} {block total:Int} {d:Nat} (hd:d≤8) {l:List Pc} (hl:l.length≤1000) :
  iter (fun s:Int×List Int×List (List UInt8)=>L55_3 F l (l.length:Int) sid block (d:Int) total s.1 s.2.1 s.2.2) F ((0:Int),([]:List Int),([]:List (List UInt8)))=some (toI (takeP F sid block total d l).1,(takeP F sid block total d l).2):=by
 obtain ⟨z,hz,hQ⟩:=iter1 (f:=fun s:Int×List Int×List (List UInt8)=>L55_3 F l (l.length:Int) sid block (d:Int) total s.1 s.2.1 s.2.2)
  (fun s=>∃ k:Nat,s.1=(k:Int)∧k≤l.length∧∃ st,TK F sid block total d st∧s.2.1=toI st.1∧s.2.2=st.2∧(l.drop k).foldl (stepP F sid block total d) st=takeP F sid block total d l) (fun z=>z=(toI (takeP F sid block total d l).1,(takeP F sid block total d l).2)) (fun s=>l.length - s.1.toNat) (fun s hs=>by
   obtain ⟨k,e,hk,st,hT,e1,e2,hf⟩:=hs
   obtain ⟨s1,s2,s3⟩:=s
   simp only at e e1 e2
   subst e e1 e2
   rcases Nat.lt_or_ge k l.length with hlt | hge
   ·have hc1:((k:Nat):Int) < (l.length:Int):=by omega
    have hr:l[k]? = some l[k]:=List.getElem?_eq_getElem hlt
    have hix:=ixn hr
    have hd':=drop_at hr
    generalize l[k]=p at hr hix hd'
    have hle:=hT.le
    by_cases hfull:st.2.length=d
    ·have e3:((st.2.length:Int) == (d:Int))=true:=by rw [hfull];simp
     rw [stepP_full hfull] at hf
     rw [← hf]
     exact .inr ⟨(toI st.1,st.2),by simp only [L55_3,L55_3c,hc1,decide_true,cond_true,hix,e3,Option.bind_some],rfl⟩
    ·have e3:((st.2.length:Int) == (d:Int))=false:=by
      have:¬ (st.2.length:Int)=(d:Int):=by omega
      simpa using this
     have ht:=take_ok hF hT hd p (by omega)
     rw [hd',List.foldl_cons] at hf
     exact .inl ⟨(((k + 1:Nat):Int),toI (stepP F sid block total d st p).1,(stepP F sid block total d st p).2),by simp only [L55_3,L55_3c,hc1,decide_true,cond_true,hix,e3,cond_false,ht,Option.bind_some,w64n (show k < 9223372036854775807 by omega)],⟨k + 1,rfl,by omega,_,hT.step p,rfl,rfl,hf⟩,by simp only [Int.toNat_natCast];omega⟩
   ·have hkn:k=l.length:=by omega
    subst hkn
    rw [List.drop_length] at hf
    have hf:st=takeP F sid block total d l:=hf
    rw [← hf]
    have hc1:¬ ((l.length:Nat):Int) < (l.length:Int):=by omega
    exact .inr ⟨(toI st.1,st.2),by simp only [L55_3,L55_3c,hc1,decide_false,cond_false],rfl⟩)
  F ((0:Int),([]:List Int),([]:List (List UInt8))) ⟨0,rfl,by omega,([],[]),TK.start,rfl,rfl,rfl⟩ (by simp;omega)
 subst hQ
 exact hz
def allZ (b:List UInt8):Bool:=b.all fun x=>x == 0
theorem zero_ok {F:Nat} {b:List UInt8} (hl:b.length < F) (hl2:b.length≤1000000):T95 F b=some (!allZ b):=by
 have h:∃ z,iter (fun s=>L134_2 F b (b.length:Int) s) F (0:Int)=some z∧(z=.inl ()∧allZ b=true∨∃ k:Nat,z=.inr (k:Int)∧allZ b=false):=by
  exact iter1 (f:=fun s:Int=>L134_2 F b (b.length:Int) s)
   (fun s=>∃ k:Nat,s=(k:Int)∧k≤b.length∧allZ (b.drop k)=allZ b) _ (fun s=>b.length - s.toNat) (fun s hs=>by
    obtain ⟨k,e,hk,ha⟩:=hs
    subst e
    rcases Nat.lt_or_ge k b.length with hlt | hge
    ·have hc1:((k:Nat):Int) < (b.length:Int):=by omega
     have hr:b[k]? = some b[k]:=List.getElem?_eq_getElem hlt
     have hix:=ixn hr
     have hd:=drop_at hr
     generalize b[k]=x at hr hix hd
     rw [hd] at ha
     unfold allZ at ha
     rw [List.all_cons] at ha
     have ht:T96 F x=some (!(x == 0)):=rfl
     cases h1:x == 0 with
     | false=>
      rw [h1] at ht
      rw [h1,Bool.false_and] at ha
      exact .inr ⟨.inr (k:Int),by simp only [L134_2,L134_2c,hc1,decide_true,cond_true,hix,ht,Bool.not_false,Option.bind_some],.inr ⟨k,rfl,ha.symm⟩⟩
     | true=>
      rw [h1] at ht
      rw [h1,Bool.true_and] at ha
      exact .inl ⟨((k + 1:Nat):Int),by simp only [L134_2,L134_2c,hc1,decide_true,cond_true,hix,ht,Bool.not_true,Option.bind_some,cond_false,w64n (show k < 9223372036854775807 by omega)],⟨k + 1,rfl,by omega,ha⟩,by simp only [Int.toNat_natCast];omega⟩
    ·have hkn:k=b.length:=by omega
     subst hkn
     rw [List.drop_length] at ha
     refine .inr ⟨.inl (),?_,.inl ⟨rfl,ha.symm⟩⟩
     simp [L134_2,L134_2c])
   F (0:Int) ⟨0,rfl,by omega,rfl⟩ (by simp;omega)
 obtain ⟨z,hz,hQ⟩:=h
 rcases hQ with ⟨rfl,h⟩ | ⟨k,rfl,h⟩
 ·simp only [T95,T95c,T134,T134c,hz,Option.bind_some,elimS,h];rfl
 ·simp only [T95,T95c,T134,T134c,hz,Option.bind_some,elimS,h,show (0:Int)≤(k:Int) by omega,decide_true,Bool.not_false]
theorem zeros_loop {F:Nat} {l:List (List UInt8)} (hF:2000 < F) (hl:l.length≤100) (h:∀ b ∈ l,b.length < F∧b.length≤1000000):iter (fun s=>L55_4 F l (l.length:Int) s) F (0:Int)=some (bif l.all allZ then .inl () else .inr (9:Int)):=by
 obtain ⟨z,hz,hQ⟩:=iter1 (f:=fun s:Int=>L55_4 F l (l.length:Int) s)
  (fun s=>∃ k:Nat,s=(k:Int)∧k≤l.length∧(l.drop k).all allZ=l.all allZ) (fun z=>z=(bif l.all allZ then .inl () else .inr (9:Int))) (fun s=>l.length - s.toNat) (fun s hs=>by
   obtain ⟨k,e,hk,ha⟩:=hs
   subst e
   rcases Nat.lt_or_ge k l.length with hlt | hge
   ·have hc1:((k:Nat):Int) < (l.length:Int):=by omega
    have hr:l[k]? = some l[k]:=List.getElem?_eq_getElem hlt
    have hix:=ixn hr
    have hb:=h _ (List.getElem_mem hlt)
    have hd:=drop_at hr
    generalize l[k]=x at hr hix hd hb
    rw [hd,List.all_cons] at ha
    have ht:=zero_ok hb.1 hb.2
    cases h1:allZ x with
    | false=>
     rw [h1] at ht
     rw [h1,Bool.false_and] at ha
     exact .inr ⟨.inr 9,by simp only [L55_4,L55_4c,hc1,decide_true,cond_true,hix,ht,Bool.not_false,Option.bind_some],by rw [← ha];rfl⟩
    | true=>
     rw [h1] at ht
     rw [h1,Bool.true_and] at ha
     exact .inl ⟨((k + 1:Nat):Int),by simp only [L55_4,L55_4c,hc1,decide_true,cond_true,hix,ht,Bool.not_true,Option.bind_some,cond_false,w64n (show k < 9223372036854775807 by omega)],⟨k + 1,rfl,by omega,ha⟩,by simp only [Int.toNat_natCast];omega⟩
   ·have hkn:k=l.length:=by omega
    subst hkn
    rw [List.drop_length] at ha
    refine .inr ⟨.inl (),?_,by rw [← ha];rfl⟩
    simp [L55_4,L55_4c])
  F (0:Int) ⟨0,rfl,by omega,rfl⟩ (by simp;omega)
 subst hQ
 exact hz
def finR (F:Nat) (sid:List UInt8) (d t len n:Nat) (out:List (List UInt8)):Int×List (List UInt8)×List Pc:=
 bif (out.drop n).all allZ then (bif rt F F ((encP d t len out).map (hsh F)) == sid then (0,out.take n,mkP F (encP d t len out)) else (9,[],[])) else (9,[],[])
theorem clone_bb {F:Nat} {x:List (List UInt8)} (h:x.length≤1000000):T97 F x=some x:=by
 show (gapp ([]:List (List UInt8)) x).bind some=_
 rw [gappn (by simp;omega)];rfl
theorem okS_of {sid:List UInt8} {vault block data total:Int} {refs:List Rf} (h:okS sid vault block data total refs=true):sid.length=32∧1≤data∧data≤8∧data≤total∧total≤16∧1≤refs.length∧(refs.length:Int)≤data∧vRs refs=true:=by
 unfold okS at h
 simp only [Bool.and_eq_true] at h
 have:=of_decide_eq_true h.1
 exact ⟨by omega,by omega,by omega,by omega,by omega,by omega,by omega,h.2.1⟩
theorem restore_short {F:Nat} (hF:2000 < F) {sid:List UInt8} {vault block total:Int} {d:Nat} {refs:List Rf} (hl:refs.length≤1000) {l:List Pc} (hll:l.length≤1000) (h:okS sid vault block (d:Int) total refs=true) (hs:(takeP F sid block total d l).2.length < d):T55 F sid vault block (d:Int) total refs l=some (10,[],[]):=by
 have ho:=okS_of h
 have ht:=take_loop hF (sid:=sid) (block:=block) (total:=total) (d:=d) (by omega) hll
 have e1:((takeP F sid block total d l).2.length:Int) < (d:Int):=by omega
 simp only [T55,T55c,check_ok hF sid vault block (d:Int) total hl,h,cond_true,ht,e1,decide_true,Option.bind_some,bne_self_eq_false,cond_false]
theorem takeP_TK (F:Nat) (sid:List UInt8) (block total:Int) (d:Nat) (l:List Pc):TK F sid block total d (takeP F sid block total d l):=TK.fold TK.start
theorem takeP_mem {F:Nat} {sid:List UInt8} {block total:Int} {d:Nat}:∀ {l:List Pc} {s:List Nat×List (List UInt8)} {x:List UInt8},x ∈ (l.foldl (stepP F sid block total d) s).2->x ∈ s.2∨∃ p ∈ l,p.2.1=x
 | [],_,_,h=>.inl h
 | p :: l,s,x,h=>by
  rcases takeP_mem (l:=l) h with h | ⟨q,h1,h2⟩
  ·unfold stepP at h
   cases hc:decide (s.2.length < d) && (okF F sid block total p.1.1 p.1.2.1 p.2.1 p.2.2.1 && !s.1.contains p.1.2.1.toNat) with
   | false=>rw [hc] at h;exact .inl h
   | true=>
    rw [hc] at h
    rcases List.mem_append.1 h with h | h
    ·exact .inl h
    ·simp at h;exact .inr ⟨p,by simp,h.symm⟩
  ·exact .inr ⟨q,by simp [h1],h2⟩
theorem restore_ok {F:Nat} (hF:50000≤F) {sid:List UInt8} {vault block:Int} {d t:Nat} {refs:List Rf} (hl:refs.length≤1000) {l:List Pc} (hll:l.length≤1000) (hx:∀ p ∈ l,p.2.1.length≤40000) (h:okS sid vault block (d:Int) (t:Int) refs=true) (hs:(takeP F sid block (t:Int) d l).2.length=d) :
  ∃ B:List (List UInt8),B.length=d∧(∀ b ∈ B,b.length=d)∧LI d (gt B) (gt ((takeP F sid block (t:Int) d l).1.map (rowD d)))∧(∀ p ∈ (takeP F sid block (t:Int) d l).2,p.length=block.toNat)∧1≤block.toNat∧block.toNat≤40000 ∧
   T55 F sid vault block (d:Int) (t:Int) refs l=some (finR F sid d t block.toNat refs.length (B.map fun b=>comb b (takeP F sid block (t:Int) d l).2 (List.replicate block.toNat 0))):=by
 have ho:=okS_of h
 have hT:=takeP_TK F sid block (t:Int) d l
 have ht:=take_loop (F:=F) (by omega) (sid:=sid) (block:=block) (total:=(t:Int)) (d:=d) (by omega) hll
 have hmem:∀ x ∈ (takeP F sid block (t:Int) d l).2,x.length≤40000:=fun x hx'=>by
  rcases takeP_mem hx' with h | ⟨p,h1,h2⟩
  ·simp at h
  ·rw [← h2];exact hx p h1
 generalize hst:takeP F sid block (t:Int) d l=st at hs hT ht hmem
 have hbl:∀ p ∈ st.2,p.length=block.toNat:=fun p hp=>by have:=(hT.bl p hp).1;omega
 obtain ⟨p0,ps,hps⟩:∃ p0 ps,st.2=p0 :: ps:=by
  cases h2:st.2 with
  | nil=>rw [h2] at hs;simp at hs;omega
  | cons a l=>exact ⟨a,l,rfl⟩
 have hp0:=hT.bl p0 (by rw [hps];simp)
 have hp1:=hmem p0 (by rw [hps];simp)
 have hb1:1≤block.toNat:=by omega
 have hb2:block.toNat≤40000:=by omega
 obtain ⟨B,b1,b2,b3,b4⟩:=recon_ok (F:=F) (d:=d) (t:=t) (len:=block.toNat) (by omega) (by omega) (by omega) (by omega) (by omega) hb1 (by omega) (is:=st.1) (by rw [hT.len,hs]) hT.nd (fun i hi=>by have:=hT.lt i hi;omega) hs hbl
 refine ⟨B,b1,b2,b3,hbl,hb1,hb2,?_⟩
 have hol:(B.map fun b=>comb b st.2 (List.replicate block.toNat 0)).length=d:=by simp [b1]
 have how:∀ x ∈ B.map fun b=>comb b st.2 (List.replicate block.toNat 0),x.length=block.toNat:=fun x hx'=>by
  obtain ⟨b,_,rfl⟩:=List.mem_map.1 hx'
  rw [comb_len (fun p hp=>by rw [hbl p hp];simp)];simp
 generalize (B.map fun b=>comb b st.2 (List.replicate block.toNat 0))=out at hol how b4
 have e1:¬ (st.2.length:Int) < (d:Int):=by omega
 have hg1:gsl out (refs.length:Int) (out.length:Int)=some (out.drop refs.length):=gsl_hi (by omega)
 have hg2:gsl out (0:Int) (refs.length:Int)=some (out.take refs.length):=gsl_lo (by omega)
 have hz:=zeros_loop (F:=F) (l:=out.drop refs.length) (by omega) (by simp;omega) (fun b hb=>by have:=how b (List.mem_of_mem_drop hb);omega)
 have hco:=code_ok (F:=F) (d:=d) (t:=t) (len:=block.toNat) (bs:=out) (by omega) (by omega) (by omega) (by omega) (by omega) (by omega) (by omega) hb1 (by omega) how
 have hcl:=clone_bb (F:=F) (x:=out.take refs.length) (by simp;omega)
 simp only [T55,T55c,check_ok (show 2000 < F by omega) sid vault block (d:Int) (t:Int) hl,h,cond_true,ht,e1,decide_false,Option.bind_some,bne_self_eq_false,cond_false,b4,hg1,hg2,hz]
 unfold finR
 cases (out.drop refs.length).all allZ with
 | false=>simp only [cond_false,elimS]
 | true=>
  simp only [cond_true,elimS,hco,Option.bind_some,bne_self_eq_false,cond_false,hcl]
  by_cases hid:rt F F ((encP d t block.toNat out).map (hsh F))=sid
  ·rw [hid];simp
  ·have e4:(rt F F ((encP d t block.toNat out).map (hsh F)) == sid)=false:=by simpa using hid
   have e5:(rt F F ((encP d t block.toNat out).map (hsh F)) != sid)=true:=by simpa [bne] using hid
   simp only [e4,e5,cond_true,cond_false]
end Go.Proofs.YtpnhgldpeiogbaaGreatDoor
namespace Go.Proofs.YtpnhgldpeiogbaaGreatDoor
open Go.Tw
set_option linter.unusedSimpArgs false
set_option linter.unusedVariables false
structure Mk (F:Nat) (vault data total:Int) (refs:List Rf) (bs:List (List UInt8)) (d t len:Nat):Prop where
 hd:data=(d:Int)
 ht:total=(t:Int)
 hl:hc refs=(len:Int)
 d1:1≤d
 d8:d≤8
 dt:d≤t
 t16:t≤16
 n1:1≤refs.length
 nd:refs.length≤d
 bn:bs.length=refs.length
 v:vRs refs=true
 bl:∀ b ∈ bs,b.length=len
 l64:64≤len
 v0:0≤vault∧vault≤11
 cl:refs.all (fun r=>clsOf r.2.2.1 == (len:Int))=true
theorem mk_of {F:Nat} {vault data total:Int} {refs:List Rf} {bs:List (List UInt8)} (h:okMake vault data total refs bs=true):∃ d t len,Mk F vault data total refs bs d t len:=by
 unfold okMake at h
 simp only [Bool.and_eq_true] at h
 obtain ⟨hp,hv,hco⟩:=h
 obtain ⟨q1,q2,q3,q4,q5,q6,q7,q8,q9⟩:=of_decide_eq_true hp
 obtain ⟨r,rs,hrs⟩:∃ r rs,refs=r :: rs:=by
  cases refs with
  | nil=>simp at q7
  | cons r rs=>exact ⟨r,rs,rfl⟩
 have hhc:hc refs=clsOf r.2.2.1:=by rw [hrs];rfl
 have hge:=clsOf_ge r.2.2.1
 have hlen:hc refs=((hc refs).toNat:Int):=by omega
 unfold okC at hco
 simp only [Bool.and_eq_true] at hco
 refine ⟨data.toNat,total.toNat,(hc refs).toNat,by omega,by omega,hlen,by omega,by omega,by omega,by omega,q7,by omega,q9,hv,fun b hb=>?_,by omega,⟨q1,q2⟩,by rw [← hlen];exact hco.1⟩
 have:=List.all_eq_true.1 hco.2 b hb
 have:(b.length:Int)=hc refs:=by simpa using this
 omega
def sidM (F d t len:Nat) (bs:List (List UInt8)):List UInt8:=rt F F ((encP d t len bs).map (hsh F))
def pcM (F d t len:Nat) (bs:List (List UInt8)) (i:Nat):Pc:=((sidM F d t len bs,(i:Int),()),(encP d t len bs).getD i [],(encP d t len bs).map (hsh F),())
section
variable {F:Nat} {vault data total:Int} {refs:List Rf} {bs:List (List UInt8)} {d t len:Nat}
theorem Mk.enc_at (H:Mk F vault data total refs bs d t len) {i:Nat} (hi:i < t):(encP d t len bs).getD i []=comb (rowD d i) (padB d len bs) (List.replicate len 0):=by
 unfold encP
 rw [List.getD_eq_getElem?_getD,List.getElem?_map,List.getElem?_range hi];rfl
theorem Mk.at_len (H:Mk F vault data total refs bs d t len) {i:Nat} (hi:i < t):((encP d t len bs).getD i []).length=len:=by
 rw [H.enc_at hi,comb_len (fun b hb=>by rw [padB_len H.bl b hb];simp)];simp
theorem Mk.pad_len (H:Mk F vault data total refs bs d t len):(padB d len bs).length=d:=by
 have:=H.bn;have:=H.nd
 simp [padB];omega
theorem Mk.pad2 (H:Mk F vault data total refs bs d t len):encP d t len (padB d len bs)=encP d t len bs:=by
 have h:padB d len (padB d len bs)=padB d len bs:=by
  have:=H.pad_len
  rw [show padB d len (padB d len bs)=padB d len bs ++ List.replicate (d - (padB d len bs).length) (List.replicate len 0) from rfl,this,Nat.sub_self]
  simp
 unfold encP
 rw [h]
theorem Mk.sums_len (H:Mk F vault data total refs bs d t len):((encP d t len bs).map (hsh F)).length=t:=by simp [encP_len]
theorem Mk.sums32 (H:Mk F vault data total refs bs d t len) (hF:2000 < F) (hl:len≤65536):∀ y ∈ (encP d t len bs).map (hsh F),y.length=32:=fun y hy=>by
 obtain ⟨x,hx,rfl⟩:=List.mem_map.1 hy
 exact hsh_len hF (by rw [encP_mem H.bl x hx];exact hl)
theorem Mk.sid_len (H:Mk F vault data total refs bs d t len) (hF:2000 < F) (hl:len≤65536):(sidM F d t len bs).length=32:=by
 have h1:=H.sums_len
 have h2:=H.t16
 exact (t_root hF (l:=(encP d t len bs).map (hsh F)) (by omega) (H.sums32 hF hl)).2
theorem Mk.ok_S (H:Mk F vault data total refs bs d t len) (hF:2000 < F) (hl:len≤65536):okS (sidM F d t len bs) vault (len:Int) (d:Int) (t:Int) refs=true:=by
 unfold okS
 have:=H.sid_len hF hl
 have:=H.d1;have:=H.d8;have:=H.dt;have:=H.t16;have:=H.n1;have:=H.nd;have:=H.v0
 rw [H.v,H.cl,Bool.true_and,Bool.and_true]
 apply decide_eq_true
 omega
theorem Mk.fit (H:Mk F vault data total refs bs d t len) (hF:2000 < F) (hl:len≤65536) {i:Nat} (hi:i < t):okF F (sidM F d t len bs) (len:Int) (t:Int) (pcM F d t len bs i).1.1 (pcM F d t len bs i).1.2.1 (pcM F d t len bs i).2.1 (pcM F d t len bs i).2.2.1=true:=by
 have h1:=H.sid_len hF hl
 have h2:=H.sums_len
 have h3:=H.at_len hi
 have h4:all32 ((encP d t len bs).map (hsh F))=true:=List.all_eq_true.2 fun x hx=>by rw [H.sums32 hF hl x hx];rfl
 have h5:((encP d t len bs).map (hsh F)).getD i []=hsh F ((encP d t len bs).getD i []):=by
  have:i < (encP d t len bs).length:=by rw [encP_len];exact hi
  simp [this]
 have:=H.t16;have:=H.l64;have:=H.dt;have:=H.d1
 show (sidM F d t len bs == sidM F d t len bs && ((((encP d t len bs).map (hsh F)).length:Int) == (t:Int) && ((((encP d t len bs).getD i []).length:Int) == (len:Int) && okP F (sidM F d t len bs) (i:Int) ((encP d t len bs).getD i []) ((encP d t len bs).map (hsh F)))))=true
 unfold okP
 rw [h2,h3,h4,Int.toNat_natCast,h5]
 have h6:rt F F ((encP d t len bs).map (hsh F))=sidM F d t len bs:=rfl
 rw [h6]
 simp only [beq_self_eq_true,Bool.true_and,Bool.and_true]
 apply decide_eq_true
 omega
theorem Mk.take (H:Mk F vault data total refs bs d t len) (hF:2000 < F) (hl:len≤65536):∀ {ks:List Nat} {s:List Nat×List (List UInt8)},s.1.length=s.2.length->s.2.length≤d->ks.Nodup->(∀ k ∈ ks,k < t)->(∀ k ∈ ks,k ∉ s.1) ->
  (ks.map (pcM F d t len bs)).foldl (stepP F (sidM F d t len bs) (len:Int) (t:Int) d) s=(s.1 ++ ks.take (d - s.2.length),s.2 ++ (ks.take (d - s.2.length)).map fun i=>(encP d t len bs).getD i [])
 | [],s,_,_,_,_,_=>by simp
 | k :: ks,s,h1,h2,h3,h4,h5=>by
  rw [List.nodup_cons] at h3
  rw [List.map_cons,List.foldl_cons]
  by_cases hf:s.2.length=d
  ·have e1:stepP F (sidM F d t len bs) (len:Int) (t:Int) d s (pcM F d t len bs k)=s:=by unfold stepP;simp [show ¬ s.2.length < d by omega]
   rw [e1,stepP_full hf,hf,Nat.sub_self]
   simp
  ·have hc:s.1.contains k=false:=by
    simp only [List.contains_eq_mem,decide_eq_false_iff_not]
    exact h5 k (by simp)
   have e1:stepP F (sidM F d t len bs) (len:Int) (t:Int) d s (pcM F d t len bs k)=(s.1 ++ [k],s.2 ++ [(encP d t len bs).getD k []]):=by
    unfold stepP
    have hc':s.1.contains ((pcM F d t len bs k).1.2.1).toNat=false:=hc
    rw [H.fit hF hl (h4 k (by simp)),hc',decide_eq_true (show s.2.length < d by omega)]
    rfl
   rw [e1,Mk.take H hF hl (by simp [h1]) (by simp;omega) h3.2 (fun k' hk'=>h4 k' (by simp [hk'])) (fun k' hk' hm=>by
    rcases List.mem_append.1 hm with hm | hm
    ·exact h5 k' (by simp [hk']) hm
    ·simp at hm;subst hm;exact h3.1 hk')]
   have e2:d - s.2.length=(d - (s.2 ++ [(encP d t len bs).getD k []]).length) + 1:=by simp;omega
   rw [e2,List.take_succ_cons]
   simp
theorem allZ_rep (n:Nat):allZ (List.replicate n 0)=true:=by simp [allZ]
theorem Mk.back (H:Mk F vault data total refs bs d t len) (hF:50000≤F) (hl:len≤40000) {ks:List Nat} {l:List Pc} (hll:l.length≤1000) (hx:∀ p ∈ l,p.2.1.length≤40000) (hkn:ks.Nodup) (hkt:∀ k ∈ ks,k < t)
  (hl2:takeP F (sidM F d t len bs) (len:Int) (t:Int) d l=(ks.take d,(ks.take d).map fun i=>(encP d t len bs).getD i [])) :
  T55 F (sidM F d t len bs) vault (len:Int) (d:Int) (t:Int) refs l=some (bif decide (ks.length < d) then (10,[],[]) else (0,bs,mkP F (encP d t len bs))):=by
 have hS:=H.ok_S (F:=F) (by omega) (by omega)
 have hnr:refs.length≤1000:=by have:=H.nd;have:=H.d8;omega
 by_cases hk:ks.length < d
 ·rw [decide_eq_true hk]
  exact restore_short (by omega) hnr hll hS (by rw [hl2];simp;omega)
 ·rw [decide_eq_false hk]
  have hkl:(ks.take d).length=d:=by simp;omega
  obtain ⟨B,b1,b2,b3,b4,b5,b6,b7⟩:=restore_ok hF hnr hll hx hS (by rw [hl2];simp;omega)
  rw [b7,hl2]
  rw [hl2] at b3
  rw [Int.toNat_natCast]
  have hps:((ks.take d).map fun i=>(encP d t len bs).getD i [])=pcs d len (ks.take d) (padB d len bs):=by
   unfold pcs
   exact List.map_congr_left fun i hi=>H.enc_at (hkt i (List.mem_of_mem_take hi))
  rw [hps,inv_comb hkl b1 b2 b3 H.pad_len (padB_len H.bl)]
  unfold finR
  have e1:(padB d len bs).drop refs.length=List.replicate (d - bs.length) (List.replicate len 0):=by
   unfold padB
   rw [← H.bn,List.drop_left]
  have e2:(padB d len bs).take refs.length=bs:=by
   unfold padB
   rw [← H.bn,List.take_left]
  have e3:(List.replicate (d - bs.length) (List.replicate len (0:UInt8))).all allZ=true:=List.all_eq_true.2 fun x hx=>by
   rw [(List.mem_replicate.1 hx).2];exact allZ_rep len
  have e4:rt F F ((encP d t len bs).map (hsh F))=sidM F d t len bs:=rfl
  rw [e1,e2,e3,H.pad2,e4,beq_self_eq_true]
  rfl
end
theorem some_ok {F:Nat} (hF:2000 < F) {l:List Pc} {g:Nat->Pc} (hl:l.length≤1000) (hg:∀ k,k < l.length->l[k]? = some (g k)) (set:UInt32):∃ ks:List Nat,ks.Nodup∧(∀ k ∈ ks,k < l.length)∧T30 F l set=some (ks.map g):=by
 have key:∀ pos:Nat->Nat,(∀ a b,a < l.length->b < l.length->pos a=pos b->a=b)->(∀ a,a < l.length->pos a < l.length) ->
   (∀ (k:Nat) (y:List Pc),k < l.length->y.length≤1000->L30_2 F l set (l.length:Int) (k:Int) y=some (.inl (((k + 1:Nat):Int),y))∨L30_2 F l set (l.length:Int) (k:Int) y=some (.inl (((k + 1:Nat):Int),y ++ [g (pos k)]))) ->
   ∃ ks:List Nat,ks.Nodup∧(∀ k ∈ ks,k < l.length)∧T30 F l set=some (ks.map g):=fun pos hinj hlt hstep=>by
  obtain ⟨z,hz,ks,a1,a2,a3⟩:=iter1 (f:=fun s:Int×List Pc=>L30_2 F l set (l.length:Int) s.1 s.2)
   (fun s=>∃ k:Nat,s.1=(k:Int)∧k≤l.length∧∃ ks:List Nat,ks.Nodup∧(∀ i ∈ ks,∃ j,j < k∧i=pos j)∧ks.length≤k∧s.2=ks.map g) (fun z=>∃ ks:List Nat,ks.Nodup∧(∀ k ∈ ks,k < l.length)∧z=ks.map g) (fun s=>l.length - s.1.toNat) (fun s hs=>by
    obtain ⟨k,e,hk,ks,b1,b2,b3,b4⟩:=hs
    obtain ⟨s1,y⟩:=s
    simp only at e b4
    subst e b4
    rcases Nat.lt_or_ge k l.length with hlt' | hge
    ·rcases hstep k (ks.map g) hlt' (by simp;omega) with h | h
     ·exact .inl ⟨_,h,⟨k + 1,rfl,by omega,ks,b1,fun i hi=>by obtain ⟨j,h1,h2⟩:=b2 i hi;exact ⟨j,by omega,h2⟩,by omega,rfl⟩,by simp only [Int.toNat_natCast];omega⟩
     ·refine .inl ⟨_,h,⟨k + 1,rfl,by omega,ks ++ [pos k],?_,fun i hi=>?_,by simp;omega,by simp⟩,by simp only [Int.toNat_natCast];omega⟩
      ·rw [List.nodup_append]
       exact ⟨b1,by simp,fun a ha b hb e=>by
        simp at hb;subst hb;subst e
        obtain ⟨j,h1,h2⟩:=b2 _ ha
        have:=hinj k j hlt' (by omega) h2
        omega⟩
      ·rcases List.mem_append.1 hi with hi | hi
       ·obtain ⟨j,h1,h2⟩:=b2 i hi;exact ⟨j,by omega,h2⟩
       ·simp at hi;exact ⟨k,by omega,hi⟩
    ·have hkn:k=l.length:=by omega
     subst hkn
     refine .inr ⟨ks.map g,?_,ks,b1,fun i hi=>?_,rfl⟩
     ·simp only [L30_2,L30_2c,show ¬ ((l.length:Int) < (l.length:Int)) by omega,decide_false,cond_false]
     ·obtain ⟨j,h1,h2⟩:=b2 i hi
      rw [h2];exact hlt j h1)
   F ((0:Int),([]:List Pc)) ⟨0,rfl,by omega,[],by simp,by simp,by simp,rfl⟩ (by simp;omega)
  subst a3
  exact ⟨ks,a1,a2,by simp only [T30,T30c,hz,Option.bind_some]⟩
 cases ho:(set % UInt32.ofNat 2) == UInt32.ofNat 1 with
 | true=>
  refine key (fun k=>l.length - 1 - k) (fun a b ha hb h=>by have h:l.length - 1 - a=l.length - 1 - b:=h;omega) (fun a ha=>by show l.length - 1 - a < l.length;omega) (fun k y hk hy=>?_)
  have hc1:((k:Nat):Int) < (l.length:Int):=by omega
  have e1:w64 ((l.length:Int) - 1)=((l.length - 1:Nat):Int):=by rw [w64_in (by omega) (by omega)];omega
  have e2:w64 (((l.length - 1:Nat):Int) - (k:Int))=((l.length - 1 - k:Nat):Int):=by rw [w64_in (by omega) (by omega)];omega
  have e3:w64 ((1:Int) + ((l.length - 1 - k:Nat):Int))=((l.length - k:Nat):Int):=by rw [w64_in (by omega) (by omega)];omega
  have e4:gnn ((l.length - k:Nat):Int)=some (l.length - k):=by unfold gnn;rw [if_pos (by omega)];rfl
  have hix:=ixn (hg (l.length - 1 - k) (by omega))
  have hga:gapp y ([(((g (l.length - 1 - k)).1.1,(g (l.length - 1 - k)).1.2.1,()),(g (l.length - 1 - k)).2.1,(g (l.length - 1 - k)).2.2.1,())]:List Pc)=some (y ++ [g (l.length - 1 - k)]):=gappn (by simp;omega)
  cases hb:((shr32 set (l.length - k)) &&& (UInt32.ofNat 1)) == UInt32.ofNat 1 with
  | true=>exact .inr (by simp only [L30_2,L30_2c,hc1,decide_true,cond_true,ho,e1,e2,e3,e4,hb,hix,hga,Option.bind_some,w64n (show k < 9223372036854775807 by omega)])
  | false=>exact .inl (by simp only [L30_2,L30_2c,hc1,decide_true,cond_true,cond_false,ho,e1,e2,e3,e4,hb,Option.bind_some,w64n (show k < 9223372036854775807 by omega)])
 | false=>
  refine key (fun k=>k) (fun a b ha hb h=>h) (fun a ha=>ha) (fun k y hk hy=>?_)
  have hc1:((k:Nat):Int) < (l.length:Int):=by omega
  have e3:w64 ((1:Int) + (k:Int))=((k + 1:Nat):Int):=by rw [w64_in (by omega) (by omega)];omega
  have e4:gnn ((k + 1:Nat):Int)=some (k + 1):=by unfold gnn;rw [if_pos (by omega)];rfl
  have hix:=ixn (hg k hk)
  have hga:gapp y ([(((g k).1.1,(g k).1.2.1,()),(g k).2.1,(g k).2.2.1,())]:List Pc)=some (y ++ [g k]):=gappn (by simp;omega)
  cases hb:((shr32 set (k + 1)) &&& (UInt32.ofNat 1)) == UInt32.ofNat 1 with
  | true=>exact .inr (by simp only [L30_2,L30_2c,hc1,decide_true,cond_true,cond_false,ho,e3,e4,hb,hix,hga,Option.bind_some,w64n (show k < 9223372036854775807 by omega)])
  | false=>exact .inl (by simp only [L30_2,L30_2c,hc1,decide_true,cond_true,cond_false,ho,e3,e4,hb,Option.bind_some,w64n (show k < 9223372036854775807 by omega)])
theorem mkP_at {F d t len:Nat} {bs:List (List UInt8)} {k:Nat} (h:k < t):(mkP F (encP d t len bs))[k]? = some (pcM F d t len bs k):=by
 unfold mkP
 rw [List.getElem?_map,List.getElem?_range (by rw [encP_len];exact h)];rfl
theorem mkP_len (F:Nat) (xs:List (List UInt8)):(mkP F xs).length=xs.length:=by simp [mkP]
end Go.Proofs.YtpnhgldpeiogbaaGreatDoor
