/- The functions, each with its twin, and plain facts about them. -/
import Derived.Test.YthikoaamigiceaaGreatDoorOH2
namespace Go.Proofs.YthikoaamigiceaaGreatDoor
open Go.Tw
set_option linter.unusedSimpArgs false
set_option linter.unusedVariables false
def B (F:Nat) (h:Vector UInt32 8) (p:List UInt8):Vector UInt32 8:=(T146 F h p).getD h
theorem b85 {F:Nat} (hF:100 < F) {p:List UInt8} (hp:p.length=64) (h:Vector UInt32 8):T146 F h p=some (B F h p):=by
 obtain ⟨r,h1,h2⟩:=t91 hF hp h
 simp only [B,h2,Option.getD_some]
theorem b91 {F:Nat} (hF:100 < F) {p:List UInt8} (hp:p.length=64) (h:Vector UInt32 8):T200x1 F p h=some (B F h p):=by
 obtain ⟨r,h1,h2⟩:=t91 hF hp h
 simp only [B,h1,h2,Option.getD_some]
theorem b91v {F:Nat} (hF:100 < F) (v:Vector UInt8 64) (h:Vector UInt32 8):T200 F (0,64) h v=some (B F h v.toList):=by
 rw [t91v hF,b91 hF (by simp)]
def hN (F:Nat):Nat->List UInt8->Vector UInt32 8
 | 0,_=>gv1
 | k + 1,m=>B F (hN F k m) ((m.drop (64 * k)).take 64)
theorem hN_app (F:Nat) (m x:List UInt8):∀ k,64 * k≤m.length->hN F k (m ++ x)=hN F k m
 | 0,_=>rfl
 | k + 1,h=>by
  simp only [hN]
  rw [hN_app F m x k (by omega),List.drop_append_of_le_length (by omega),List.take_append_of_le_length (by simp;omega)]
structure Inv (F:Nat) (m:List UInt8) (h:Vector UInt32 8) (b:Vector UInt8 64) (n:Int):Prop where
 len:n=(m.length:Int)
 words:h=hN F (m.length / 64) m
 rest:b.toList.take (m.length % 64)=m.drop (64 * (m.length / 64))
theorem tmod64 (a:Nat):Int.tmod ((a:Nat):Int) 64=((a % 64:Nat):Int):=by
 rw [Int.tmod_eq_emod_of_nonneg (by omega)];omega
theorem lp82 {F:Nat} (hF:100 < F) (M:List UInt8):∀ (fuel k:Nat),64 * k≤M.length->(M.length - 64 * k) / 64 < fuel ->
  iter (fun s:List UInt8×Vector UInt32 8=>L176_4 F s.1 s.2) fuel (M.drop (64 * k),hN F k M)=some (M.drop (64 * (M.length / 64)),hN F (M.length / 64) M)
 | 0,k,hk,hf=>absurd hf (by omega)
 | fuel + 1,k,hk,hf=>by
  by_cases h:64≤M.length - 64 * k
  ·have h1:((64:Int)≤((M.drop (64 * k)).length:Int)):=by simp;omega
   have g1:gsl (M.drop (64 * k)) (0:Int) (64:Int)=some ((M.drop (64 * k)).take 64):=gsl_nat (a:=0) (b:=64) (by omega) (by simp;omega)
   have g2:gsl (M.drop (64 * k)) (64:Int) ((M.drop (64 * k)).length:Int)=some (M.drop (64 * (k + 1))):=by
    have:=gsl_nat (l:=M.drop (64 * k)) (a:=64) (b:=(M.drop (64 * k)).length) (by simp;omega) (Nat.le_refl _)
    refine Eq.trans this ?_
    rw [List.take_of_length_le (by simp only [List.length_drop];omega),List.drop_drop]
    congr 2
   have step:L176_4 F (M.drop (64 * k)) (hN F k M)=some (.inl (M.drop (64 * (k + 1)),hN F (k + 1) M)):=by
    simp only [L176_4,L176_4c,h1,decide_true,cond_true,g1,g2,Option.bind_some,b91 hF (show ((M.drop (64 * k)).take 64).length=64 by simp;omega),hN]
   refine (it_again (f:=fun s:List UInt8×Vector UInt32 8=>L176_4 F s.1 s.2) (s:=(M.drop (64 * k),hN F k M)) step).trans ?_
   exact lp82 hF M fuel (k + 1) (by omega) (by omega)
  ·have h1:¬ ((64:Int)≤((M.drop (64 * k)).length:Int)):=by simp;omega
   have hk2:k=M.length / 64:=by omega
   have step:L176_4 F (M.drop (64 * k)) (hN F k M)=some (.inr (M.drop (64 * k),hN F k M)):=by
    simp only [L176_4,L176_4c,h1,decide_false,cond_false]
   refine (it_out (f:=fun s:List UInt8×Vector UInt32 8=>L176_4 F s.1 s.2) (s:=(M.drop (64 * k),hN F k M)) step).trans ?_
   rw [← hk2]
theorem tail82 {F:Nat} (hF:100 < F) (M:List UInt8) (hM:M.length < F) (b:Vector UInt8 64) {k:Nat} (hk:64 * k≤M.length) :
  iter (fun s:List UInt8×Vector UInt32 8=>L176_4 F s.1 s.2) F (M.drop (64 * k),hN F k M)=some (M.drop (64 * (M.length / 64)),hN F (M.length / 64) M) ∧
  (vspl b 0 (M.drop (64 * (M.length / 64))) (M.drop (64 * (M.length / 64))).length).toList.take (M.length % 64)=M.drop (64 * (M.length / 64)):=by
 refine ⟨lp82 hF M F k hk (by omega),?_⟩
 have hl:(M.drop (64 * (M.length / 64))).length=M.length % 64:=by simp;omega
 rw [vspl_toList (by omega) (Nat.le_refl _)]
 simp only [splice,List.take_zero,List.nil_append,List.take_length]
 rw [← hl,List.take_append_of_le_length (Nat.le_refl _),List.take_length]
theorem t82 {F:Nat} {m x:List UInt8} {h:Vector UInt32 8} {b:Vector UInt8 64} {n:Int} (hF:100 + m.length + x.length < F) (hb:m.length + x.length < 1000000000) (hI:Inv F m h b n) :
  ∃ h' b' n',T176 F x h b n=some (h',b',n')∧Inv F (m ++ x) h' b' n':=by
 obtain ⟨rfl,rfl,hr⟩:=hI
 have wn:w64 ((m.length:Int) + (x.length:Int))=((m ++ x).length:Int):=by rw [w64_in (by omega) (by omega)];simp
 have g0:gslb 64 (0:Int) ((64:Nat):Int)=some (0,64):=gslb_nat (a:=0) (by omega) (by omega)
 have hlen:(m ++ x).length=m.length + x.length:=by simp
 by_cases hu:m.length % 64=0
 ·have d:¬ ((0:Int) < ((m.length % 64:Nat):Int)):=by omega
  have s3:L176_3 F x ((m.length % 64:Nat):Int) false (hN F (m.length / 64) m) b=some (.inl (x,hN F (m.length / 64) m,b)):=by
   simp only [L176_3,L176_3c,cond_false]
  obtain ⟨q1,q2⟩:=tail82 (F:=F) (by omega) (m ++ x) (by omega) b (k:=m.length / 64) (by omega)
  have e1:(m ++ x).drop (64 * (m.length / 64))=x:=by
   rw [show 64 * (m.length / 64)=m.length by omega];simp
  rw [e1,hN_app F m x _ (by omega)] at q1
  have hmin:Nat.min ((m ++ x).drop (64 * ((m ++ x).length / 64))).length (64 - 0)=((m ++ x).drop (64 * ((m ++ x).length / 64))).length:=Nat.min_eq_left (by simp;omega)
  refine ⟨hN F ((m ++ x).length / 64) (m ++ x),vspl b 0 ((m ++ x).drop (64 * ((m ++ x).length / 64))) ((m ++ x).drop (64 * ((m ++ x).length / 64))).length,((m ++ x).length:Int),?_,rfl,rfl,q2⟩
  simp only [T176,T176c,tmod64,d,decide_false,s3,Option.bind_some,elimS,q1,g0,hmin,wn]
 ·have d:((0:Int) < ((m.length % 64:Nat):Int)):=by omega
  have g1:gslb 64 ((m.length % 64:Nat):Int) ((64:Nat):Int)=some (m.length % 64,64):=gslb_nat (by omega) (by omega)
  by_cases hc:x.length < 64 - m.length % 64
  ·have hmin:Nat.min x.length (64 - m.length % 64)=x.length:=Nat.min_eq_left (by omega)
   have g2:gsl x (x.length:Int) (x.length:Int)=some []:=by
    rw [gsl_nat (Nat.le_refl _) (Nat.le_refl _)];simp
   have w:w64 (((m.length % 64:Nat):Int) + (x.length:Int))=((m.length % 64 + x.length:Nat):Int):=by rw [w64_in (by omega) (by omega)];omega
   have d2:(((m.length % 64 + x.length:Nat):Int) < 64):=by omega
   have s3:L176_3 F x ((m.length % 64:Nat):Int) true (hN F (m.length / 64) m) b=some (.inr (vspl b (m.length % 64) x x.length)):=by
    simp only [L176_3,L176_3c,cond_true,g1,Option.bind_some,hmin,g2,w,d2,decide_true]
   refine ⟨hN F (m.length / 64) m,vspl b (m.length % 64) x x.length,((m ++ x).length:Int),?_,rfl,?_,?_⟩
   ·simp only [T176,T176c,tmod64,d,decide_true,s3,Option.bind_some,elimS,wn]
   ·rw [hlen,show (m.length + x.length) / 64=m.length / 64 by omega,hN_app F m x _ (by omega)]
   ·rw [hlen,show (m.length + x.length) / 64=m.length / 64 by omega,show (m.length + x.length) % 64=m.length % 64 + x.length by omega,vspl_toList (by omega) (Nat.le_refl _)]
    simp only [splice,List.take_length]
    rw [hr,List.drop_append_of_le_length (by omega)]
    rw [List.take_append_of_le_length (by simp;omega),List.take_of_length_le (by simp;omega)]
  ·have hmin:Nat.min x.length (64 - m.length % 64)=64 - m.length % 64:=Nat.min_eq_right (by omega)
   have g2:gsl x ((64 - m.length % 64:Nat):Int) (x.length:Int)=some (x.drop (64 - m.length % 64)):=by
    rw [gsl_nat (by omega) (Nat.le_refl _),List.take_of_length_le (by simp)]
   have w:w64 (((m.length % 64:Nat):Int) + ((64 - m.length % 64:Nat):Int))=64:=by rw [w64_in (by omega) (by omega)];omega
   have d2:¬ ((64:Int) < 64):=by omega
   have hbl:(vspl b (m.length % 64) x (64 - m.length % 64)).toList=((m ++ x).drop (64 * (m.length / 64))).take 64:=by
    rw [vspl_toList (by omega) (by omega)]
    simp only [splice]
    have hz:b.toList.drop (m.length % 64 + (64 - m.length % 64))=[]:=List.drop_of_length_le (by rw [Vector.length_toList];omega)
    have hdl:(m.drop (64 * (m.length / 64))).length=m.length % 64:=by rw [List.length_drop];omega
    rw [hr,hz,List.append_nil,List.drop_append_of_le_length (by omega),List.take_append,List.take_of_length_le (l:=m.drop (64 * (m.length / 64))) (by omega),hdl]
   have s3:L176_3 F x ((m.length % 64:Nat):Int) true (hN F (m.length / 64) m) b=some (.inl (x.drop (64 - m.length % 64),hN F (m.length / 64 + 1) (m ++ x),vspl b (m.length % 64) x (64 - m.length % 64))):=by
    simp only [L176_3,L176_3c,cond_true,g1,Option.bind_some,hmin,g2,w,d2,decide_false,cond_false,g0,b91v (show 100 < F by omega),hbl,hN,hN_app F m x (m.length / 64) (by omega)]
   obtain ⟨q1,q2⟩:=tail82 (F:=F) (by omega) (m ++ x) (by omega) (vspl b (m.length % 64) x (64 - m.length % 64)) (k:=m.length / 64 + 1) (by omega)
   have e1:(m ++ x).drop (64 * (m.length / 64 + 1))=x.drop (64 - m.length % 64):=by
    rw [List.drop_append,List.drop_of_length_le (by omega),List.nil_append]
    congr 1;omega
   rw [e1] at q1
   have hmin2:Nat.min ((m ++ x).drop (64 * ((m ++ x).length / 64))).length (64 - 0)=((m ++ x).drop (64 * ((m ++ x).length / 64))).length:=Nat.min_eq_left (by simp;omega)
   refine ⟨hN F ((m ++ x).length / 64) (m ++ x),vspl (vspl b (m.length % 64) x (64 - m.length % 64)) 0 ((m ++ x).drop (64 * ((m ++ x).length / 64))) ((m ++ x).drop (64 * ((m ++ x).length / 64))).length,((m ++ x).length:Int),?_,rfl,rfl,q2⟩
   simp only [T176,T176c,tmod64,d,decide_true,s3,Option.bind_some,elimS,q1,g0,hmin2,wn]
theorem gapp_okS {α:Type} {xs ys:List α} (h:xs.length + ys.length≤1099511627776):gapp xs ys=some (xs ++ ys):=by unfold gapp;rw [if_pos h]
theorem padz {F:Nat} {m:List UInt8} (hF:300 < F) (hb:m.length < 1000000000) (h:Vector UInt32 8) (b:Vector UInt8 64):∃ p:List UInt8,p.length≤64∧1≤p.length∧(m.length + p.length) % 64=56 ∧
  iter (fun s:List UInt8=>L177_4 F (h,b,(m.length:Int),()) s) F [(UInt8.ofNat 128)]=some p∧iter (fun s:List UInt8=>L145_3 F s) F (m ++ [(UInt8.ofNat 128)])=some (m ++ p):=by
 obtain ⟨r,r',b1,b2,b3,b4,b5⟩:=iter2 (f:=fun s:List UInt8=>L177_4 F (h,b,(m.length:Int),()) s) (g:=fun s:List UInt8=>L145_3 F s)
  (fun s t=>t=m ++ s∧1≤s.length∧s.length≤(119 - m.length % 64) % 64 + 1) (fun r r'=>r'=m ++ r∧(1≤r.length∧r.length≤64)∧(m.length + r.length) % 64=56) (fun s=>65 - s.length) (by
   rintro s t ⟨rfl,h1,h2⟩
   have w:w64 ((m.length:Int) + (s.length:Int))=((m.length + s.length:Nat):Int):=by rw [w64_in (by omega) (by omega)];omega
   have hl:((m ++ s).length:Int)=((m.length + s.length:Nat):Int):=by simp
   by_cases hc:(m.length + s.length) % 64=56
   ·have e:((((m.length + s.length) % 64:Nat):Int) != 56)=false:=by rw [hc];rfl
    refine .inr ⟨s,m ++ s,?_,?_,rfl,⟨h1,by omega⟩,hc⟩
    ·simp only [L177_4,L177_4c,w,tmod64,e,cond_false]
    ·simp only [L145_3,L145_3c,hl,tmod64,e,cond_false]
   ·have e:((((m.length + s.length) % 64:Nat):Int) != 56)=true:=by rw [bne_iff_ne];omega
    refine .inl ⟨s ++ [UInt8.ofNat 0],m ++ s ++ [UInt8.ofNat 0],?_,?_,⟨by simp,by simp,?_⟩,?_⟩
    ·simp only [L177_4,L177_4c,w,tmod64,e,cond_true,gapp_okS (show s.length + [UInt8.ofNat 0].length≤1099511627776 by simp;omega),Option.bind_some]
    ·simp only [L145_3,L145_3c,hl,tmod64,e,cond_true,gapp_okS (show (m ++ s).length + [UInt8.ofNat 0].length≤1099511627776 by simp;omega),Option.bind_some]
    ·simp only [List.length_append,List.length_cons,List.length_nil];omega
    ·simp only [List.length_append,List.length_cons,List.length_nil];omega) F F [(UInt8.ofNat 128)] (m ++ [(UInt8.ofNat 128)]) ⟨rfl,by simp,by simp⟩ (by simp;omega) (by simp;omega)
 subst b3
 exact ⟨r,b4.2,b4.1,b5,b1,b2⟩
theorem padc {F:Nat} {m p:List UInt8} (hF:300 < F) (hb:m.length < 1000000000) (hp:p.length≤64) (c:UInt64):∃ q:List UInt8,q.length=p.length + 8 ∧
  iter (fun s:Int×List UInt8=>L177_5 F c s.1 s.2) F ((56:Int),p)=some q∧iter (fun s:Int×List UInt8=>L145_4 F c s.1 s.2) F ((7:Int),m ++ p)=some (m ++ q):=by
 obtain ⟨r,r',b1,b2,b3,b4⟩:=iter2 (f:=fun s:Int×List UInt8=>L177_5 F c s.1 s.2) (g:=fun s:Int×List UInt8=>L145_4 F c s.1 s.2)
  (fun s t=>∃ i:Nat,i≤8∧s.1=8 * (i:Int) - 8∧t.1=(i:Int) - 1∧t.2=m ++ s.2∧s.2.length + i=p.length + 8) (fun r r'=>r'=m ++ r∧r.length=p.length + 8) (fun s=>(s.1 + 8).toNat) (by
   rintro ⟨a,s⟩ ⟨a',t⟩ ⟨i,h8,h1,h2,h3,h4⟩
   simp only at h1 h2 h3 h4
   subst h1 h2 h3
   cases i with
   | zero=>
    refine .inr ⟨s,m ++ s,?_,?_,rfl,by omega⟩
    ·have d:¬ ((0:Int)≤8 * ((0:Nat):Int) - 8):=by omega
     simp only [L177_5,L177_5c,d,decide_false,cond_false]
    ·have d:¬ ((0:Int)≤((0:Nat):Int) - 1):=by omega
     simp only [L145_4,L145_4c,d,decide_false,cond_false]
   | succ i=>
    have e1:8 * ((i + 1:Nat):Int) - 8=((8 * i:Nat):Int):=by omega
    have e2:((i + 1:Nat):Int) - 1=((i:Nat):Int):=by omega
    rw [e1,e2]
    have d1:((0:Int)≤((8 * i:Nat):Int)):=by omega
    have d2:((0:Int)≤((i:Nat):Int)):=by omega
    have n1:gnn ((8 * i:Nat):Int)=some (8 * i):=by unfold gnn;rw [if_pos d1];simp only [Int.toNat_natCast]
    have w0:w64 ((8:Int) * ((i:Nat):Int))=((8 * i:Nat):Int):=by rw [w64_in (by omega) (by omega)];omega
    have w1:w64 (((8 * i:Nat):Int) - 8)=8 * (i:Int) - 8:=by rw [w64_in (by omega) (by omega)];omega
    have w2:w64 (((i:Nat):Int) - 1)=(i:Int) - 1:=by rw [w64_in (by omega) (by omega)]
    refine .inl ⟨(8 * (i:Int) - 8,s ++ [(shr64 c (8 * i)).toUInt8]),((i:Int) - 1,m ++ s ++ [(shr64 c (8 * i)).toUInt8]),?_,?_,⟨i,by omega,rfl,rfl,by simp,by simp;omega⟩,?_⟩
    ·simp only [L177_5,L177_5c,d1,decide_true,cond_true,n1,Option.bind_some,gapp_okS (show s.length + [(shr64 c (8 * i)).toUInt8].length≤1099511627776 by simp;omega),w1]
    ·simp only [L145_4,L145_4c,d2,decide_true,cond_true,w0,n1,Option.bind_some,gapp_okS (show (m ++ s).length + [(shr64 c (8 * i)).toUInt8].length≤1099511627776 by simp;omega),w2]
    ·simp only;omega) F F ((56:Int),p) ((7:Int),m ++ p) ⟨8,by omega,by omega,by omega,rfl,rfl⟩ (by simp only;omega) (by simp only;omega)
 subst b3
 exact ⟨r,b4,b1,b2⟩
theorem outs {F:Nat} (hF:300 < F) (h:Vector UInt32 8):∃ d:List UInt8,d.length=32∧iter (fun s:Int×List UInt8=>L177_6 F h s.1 s.2) F ((0:Int),([]:List UInt8))=some d∧iter (fun s:Int×List UInt8=>L101_4 F h s.1 s.2) F ((0:Int),([]:List UInt8))=some d:=by
 obtain ⟨r,r',b1,b2,b3,b4⟩:=iter2 (f:=fun s:Int×List UInt8=>L177_6 F h s.1 s.2) (g:=fun s:Int×List UInt8=>L101_4 F h s.1 s.2)
  (fun s t=>s=t∧∃ i:Nat,s.1=i∧i≤8∧s.2.length=4 * i) (fun r r'=>r'=r∧r.length=32) (fun s=>8 - s.1.toNat) (by
   rintro ⟨a,s⟩ t ⟨rfl,i,hi,h8,hl⟩
   simp only at hi hl
   subst hi
   by_cases hlt:i < 8
   ·have h1:(((i:Nat):Int) < 8):=by omega
    have e3:w64 (((i:Nat):Int) + 1)=((i + 1:Nat):Int):=by rw [w64_in (by omega) (by omega)];omega
    have n:inb 8 ((i:Nat):Int)=some i:=inb_nat hlt
    have ga:gapp s [((shr32 h[i] ((UInt64.ofNat 24).toNat)).toUInt8),((shr32 h[i] ((UInt64.ofNat 16).toNat)).toUInt8),((shr32 h[i] ((UInt64.ofNat 8).toNat)).toUInt8),(h[i].toUInt8)]=some (s ++ [((shr32 h[i] ((UInt64.ofNat 24).toNat)).toUInt8),((shr32 h[i] ((UInt64.ofNat 16).toNat)).toUInt8),((shr32 h[i] ((UInt64.ofNat 8).toNat)).toUInt8),(h[i].toUInt8)]):=gapp_okS (by simp [hl];omega)
    refine .inl ⟨(((i + 1:Nat):Int),s ++ [((shr32 h[i] ((UInt64.ofNat 24).toNat)).toUInt8),((shr32 h[i] ((UInt64.ofNat 16).toNat)).toUInt8),((shr32 h[i] ((UInt64.ofNat 8).toNat)).toUInt8),(h[i].toUInt8)]),(((i + 1:Nat):Int),s ++ [((shr32 h[i] ((UInt64.ofNat 24).toNat)).toUInt8),((shr32 h[i] ((UInt64.ofNat 16).toNat)).toUInt8),((shr32 h[i] ((UInt64.ofNat 8).toNat)).toUInt8),(h[i].toUInt8)]),?_,?_,⟨rfl,i + 1,rfl,by omega,?_⟩,by simp only [Int.toNat_natCast];omega⟩
    ·simp only [L177_6,L177_6c,h1,decide_true,cond_true,vix_nat (v:=h) hlt,Option.bind_some,ga,e3]
    ·simp only [L101_4,L101_4c,h1,decide_true,cond_true,n,vat_nat (v:=h) hlt,Option.bind_some,ga,e3]
    ·simp [hl];omega
   ·obtain rfl:i=8:=by omega
    exact .inr ⟨s,s,rfl,rfl,rfl,hl⟩) F F ((0:Int),([]:List UInt8)) ((0:Int),([]:List UInt8)) ⟨rfl,0,rfl,by omega,rfl⟩ (by simp only [Int.toNat_zero];omega) (by simp only [Int.toNat_zero];omega)
 subst b3
 exact ⟨r',b4,b1,b2⟩
theorem lp68 {F:Nat} (hF:100 < F) {M:List UInt8} {K:Nat} (hM:M.length=64 * K) (hb:M.length < 2000000000):∀ (j fuel k:Nat),k + j=K->j < fuel ->
  iter (fun s:Int×Vector UInt32 8=>L101_3 F M s.1 s.2) fuel (((64 * k:Nat):Int),hN F k M)=some (hN F K M)
 | j,0,k,hk,hf=>absurd hf (by omega)
 | 0,fuel + 1,k,hk,hf=>by
  have h1:¬ (((64 * k:Nat):Int) < (M.length:Int)):=by omega
  obtain rfl:k=K:=by omega
  have step:L101_3 F M ((64 * k:Nat):Int) (hN F k M)=some (.inr (hN F k M)):=by
   simp only [L101_3,L101_3c,h1,decide_false,cond_false]
  exact it_out (f:=fun s:Int×Vector UInt32 8=>L101_3 F M s.1 s.2) (s:=(((64 * k:Nat):Int),hN F k M)) step
 | j + 1,fuel + 1,k,hk,hf=>by
  have h1:(((64 * k:Nat):Int) < (M.length:Int)):=by omega
  have w:w64 (((64 * k:Nat):Int) + 64)=((64 * (k + 1):Nat):Int):=by rw [w64_in (by omega) (by omega)];omega
  have g:gslb M.length ((64 * k:Nat):Int) ((64 * (k + 1):Nat):Int)=some (64 * k,64 * (k + 1)):=gslb_nat (by omega) (by omega)
  have e:64 * (k + 1) - 64 * k=64:=by omega
  have step:L101_3 F M ((64 * k:Nat):Int) (hN F k M)=some (.inl (((64 * (k + 1):Nat):Int),hN F (k + 1) M)):=by
   simp only [L101_3,L101_3c,h1,decide_true,cond_true,w,g,Option.bind_some,e,b85 hF (show ((M.drop (64 * k)).take 64).length=64 by simp;omega),hN]
  refine (it_again (f:=fun s:Int×Vector UInt32 8=>L101_3 F M s.1 s.2) (s:=(((64 * k:Nat):Int),hN F k M)) step).trans ?_
  exact lp68 hF hM hb j fuel (k + 1) (by omega) (by omega)
theorem sum_eq {F:Nat} {m:List UInt8} {h:Vector UInt32 8} {b:Vector UInt8 64} {n:Int} (hF:400 + m.length < F) (hb:m.length < 100000000) (hI:Inv F m h b n) :
  ∃ d,T177 F (h,b,n,())=some d∧T101 F m=some d∧d.length=32:=by
 have hn:=hI.len
 subst hn
 obtain ⟨p,p1,p2,p3,p4,p5⟩:=padz (F:=F) (m:=m) (by omega) (by omega) h b
 obtain ⟨q,q1,q2,q3⟩:=padc (F:=F) (m:=m) (p:=p) (by omega) (by omega) p1 ((UInt64.ofInt (m.length:Int)) * (UInt64.ofNat 8))
 obtain ⟨h',b',n',t1,t2⟩:=t82 (x:=q) (by omega) (by omega) hI
 obtain ⟨d,d1,d2,d3⟩:=outs (F:=F) (by omega) h'
 have g0:gmake (0:UInt8) (0:Int) (32:Int)=some []:=by decide +kernel
 have hl:(m ++ q).length=m.length + q.length:=by simp
 have hK:(m ++ q).length=64 * ((m ++ q).length / 64):=by omega
 have l:=lp68 (F:=F) (by omega) hK (by omega) ((m ++ q).length / 64) F 0 (by omega) (by omega)
 rw [← t2.words] at l
 refine ⟨d,?_,?_,d1⟩
 ·simp only [T177,T177c,p4,Option.bind_some,q2,t1,g0,d2]
 ·have ga:gapp ([]:List UInt8) m=some m:=by rw [gapp_okS (by simp;omega)];rfl
  have gb:gapp m [UInt8.ofNat 128]=some (m ++ [UInt8.ofNat 128]):=gapp_okS (by simp;omega)
  have h84:T145 F m=some (m ++ q):=by
   simp only [T145,T145c,ga,gb,Option.bind_some,p5,q3]
  simp only [T101,T101c,h84,Option.bind_some]
  refine Eq.trans (congrArg (fun o=>Option.bind o _) l) ?_
  simp only [Option.bind_some,d3]
theorem inv0 (F:Nat):Inv F [] gv1 (Vector.replicate 64 (0:UInt8)) 0:=⟨rfl,rfl,rfl⟩
theorem t79 {F:Nat} {ls:List (List UInt8)} (hF:400 + ls.flatten.length + ls.length < F) (hb:ls.flatten.length < 100000000) (hl:ls.length < 1000):∃ d,T173 F ls=some d∧T101 F ls.flatten=some d∧d.length=32:=by
 obtain ⟨r,b1,b2⟩:=iter1 (f:=fun s:Int×Vector UInt32 8×Vector UInt8 64×Int=>L173_2 F ls (ls.length:Int) s.1 s.2.1 s.2.2.1 s.2.2.2)
  (fun s=>∃ i:Nat,s.1=i∧i≤ls.length∧Inv F (ls.take i).flatten s.2.1 s.2.2.1 s.2.2.2) (fun r=>Inv F ls.flatten r.1 r.2.1 r.2.2) (fun s=>ls.length - s.1.toNat) (by
   rintro ⟨a,h,b,n⟩ ⟨i,hi,hil,hI⟩
   simp only at hi hI
   subst hi
   by_cases hlt:i < ls.length
   ·have h1:(((i:Nat):Int) < (ls.length:Int)):=by omega
    have e3:w64 (((i:Nat):Int) + 1)=((i + 1:Nat):Int):=by rw [w64_in (by omega) (by omega)];omega
    have hs:(ls.take (i + 1)).flatten=(ls.take i).flatten ++ ls[i]:=by
     rw [List.take_succ_eq_append_getElem hlt,List.flatten_append];simp
    have hle:(ls.take (i + 1)).flatten.length≤ls.flatten.length:=by
     conv=>rhs;rw [← List.take_append_drop (i + 1) ls,List.flatten_append,List.length_append]
     omega
    rw [hs,List.length_append] at hle
    have gs:gstr ls[i]=some ls[i]:=by unfold gstr;rw [if_pos (by omega)]
    obtain ⟨h',b',n',t1,t2⟩:=t82 (x:=ls[i]) (by omega) (by omega) hI
    refine .inl ⟨(((i + 1:Nat):Int),h',b',n'),?_,⟨i + 1,rfl,by omega,?_⟩,by simp only [Int.toNat_natCast];omega⟩
    ·simp only [L173_2,L173_2c,h1,decide_true,cond_true,ix_nat hlt,Option.bind_some,gs,t1,e3]
    ·rw [hs];exact t2
   ·obtain rfl:i=ls.length:=by omega
    have h1:¬ (((ls.length:Nat):Int) < (ls.length:Int)):=by omega
    rw [List.take_length] at hI
    refine .inr ⟨(h,b,n),?_,hI⟩
    simp only [L173_2,L173_2c,h1,decide_false,cond_false]) F ((0:Int),gv1,Vector.replicate 64 (0:UInt8),(0:Int)) ⟨0,rfl,by omega,inv0 F⟩ (by simp only [Int.toNat_zero];omega)
 obtain ⟨d,d1,d2,d3⟩:=sum_eq (by omega) hb b2
 refine ⟨d,?_,d2,d3⟩
 simp only [T173,T173c,T175,T175c,Option.bind_some,b1,d1]
def xk (k:List UInt8) (x:UInt8):List UInt8:=(k ++ List.replicate (64 - k.length) 0).map (fun y=>y ^^^ x)
theorem xk_len {k:List UInt8} (h:k.length≤64) (x:UInt8):(xk k x).length=64:=by simp [xk];omega
theorem t80 {F:Nat} (hF:400 < F) (x:UInt8) (v:Vector UInt8 64):∃ r,T174 F x v=some r∧r.toList=v.toList.map (fun y=>y ^^^ x):=by
 obtain ⟨r,b1,b2⟩:=iter1 (f:=fun s:Int×Vector UInt8 64=>L174_2 F x v s.1 s.2)
  (fun s=>∃ i:Nat,s.1=i∧i≤64∧∀ j (hj:j < 64),j < i->s.2[j]=v[j] ^^^ x) (fun r=>r.toList=v.toList.map (fun y=>y ^^^ x)) (fun s=>64 - s.1.toNat) (by
   rintro ⟨a,u⟩ ⟨i,hi,h64,hu⟩
   simp only at hi hu
   subst hi
   by_cases h:i < 64
   ·have h1:(((i:Nat):Int) < 64):=by omega
    have e3:w64 (((i:Nat):Int) + 1)=((i + 1:Nat):Int):=by rw [w64_in (by omega) (by omega)];omega
    have n:inb 64 ((i:Nat):Int)=some i:=inb_nat h
    refine .inl ⟨(((i + 1:Nat):Int),u.setIfInBounds i (v[i] ^^^ x)),?_,⟨i + 1,rfl,by omega,fun j hj hji=>?_⟩,by simp only [Int.toNat_natCast];omega⟩
    ·simp only [L174_2,L174_2c,h1,decide_true,cond_true,vix_nat (v:=v) h,n,Option.bind_some,e3]
    ·simp only [Vector.getElem_setIfInBounds]
     by_cases e:i=j
     ·subst e;simp only [if_true]
     ·rw [if_neg e];exact hu j hj (by omega)
   ·obtain rfl:i=64:=by omega
    refine .inr ⟨u,rfl,?_⟩
    apply List.ext_getElem (by simp)
    intro j h1 h2
    simp only [Vector.getElem_toList,List.getElem_map]
    have hj:j < 64:=by simpa using h1
    exact hu j hj hj) F ((0:Int),Vector.replicate 64 (0:UInt8)) ⟨0,rfl,by omega,fun j hj h0=>absurd h0 (by omega)⟩ (by simp only [Int.toNat_zero];omega)
 exact ⟨r,by simp only [T174,T174c,b1,Option.bind_some],b2⟩
theorem filled {k:List UInt8} (h:k.length≤64):(vspl (Vector.replicate 64 (0:UInt8)) 0 k k.length).toList=k ++ List.replicate (64 - k.length) 0:=by
 rw [vspl_toList (by omega) (Nat.le_refl _),Vector.toList_replicate]
 simp only [splice,List.take_zero,List.nil_append,List.take_length,Nat.zero_add,List.drop_replicate]
theorem t69 {F:Nat} (hF:400 < F) {k:List UInt8} (hk:k.length≤64) (x:UInt8):T102 F k x=some (xk k x):=by
 obtain ⟨r,b1,b2⟩:=iter1 (f:=fun s:Int×List UInt8=>L102_2 F k x s.1 s.2)
  (fun s=>∃ i:Nat,s.1=i∧i≤64∧s.2=(xk k x).take i) (fun r=>r=xk k x) (fun s=>64 - s.1.toNat) (by
   rintro ⟨a,u⟩ ⟨i,hi,h64,hu⟩
   simp only at hi hu
   subst hi hu
   have xl:=xk_len hk x
   by_cases h:i < 64
   ·have h1:(((i:Nat):Int) < 64):=by omega
    have e3:w64 (((i:Nat):Int) + 1)=((i + 1:Nat):Int):=by rw [w64_in (by omega) (by omega)];omega
    have hs:(xk k x).take (i + 1)=(xk k x).take i ++ [(xk k x)[i]]:=List.take_succ_eq_append_getElem (by omega)
    have ga:gapp ((xk k x).take i) [(xk k x)[i]]=some ((xk k x).take (i + 1)):=by rw [gapp_okS (by simp;omega),hs]
    refine .inl ⟨(((i + 1:Nat):Int),(xk k x).take (i + 1)),?_,⟨i + 1,rfl,by omega,rfl⟩,by simp only [Int.toNat_natCast];omega⟩
    by_cases hik:i < k.length
    ·have h2:(((i:Nat):Int) < (k.length:Int)):=by omega
     have hx:(xk k x)[i]=k[i] ^^^ x:=by simp [xk,List.getElem_append,hik]
     rw [hx] at ga
     simp only [L102_2,L102_2c,h1,h2,decide_true,cond_true,ix_nat hik,Option.bind_some,ga,e3]
    ·have h2:¬ (((i:Nat):Int) < (k.length:Int)):=by omega
     have hx:(xk k x)[i]=(UInt8.ofNat 0) ^^^ x:=by simp [xk,List.getElem_append,hik]
     rw [hx] at ga
     simp only [L102_2,L102_2c,h1,h2,decide_true,decide_false,cond_true,cond_false,Option.bind_some,ga,e3]
   ·obtain rfl:i=64:=by omega
    exact .inr ⟨(xk k x).take 64,rfl,List.take_of_length_le (by omega)⟩) F ((0:Int),([]:List UInt8)) ⟨0,rfl,by omega,by simp⟩ (by simp only [Int.toNat_zero];omega)
 subst b2
 simp only [T102,T102c,b1,Option.bind_some]
theorem start65 {F:Nat} (hF:2000 < F) {k:List UInt8} (hk:k.length≤64):∃ o i h b n,T174 F 92 (vspl (Vector.replicate 64 (0:UInt8)) 0 k (Nat.min k.length (64 - 0)))=some o∧T174 F 54 (vspl (Vector.replicate 64 (0:UInt8)) 0 k (Nat.min k.length (64 - 0)))=some i ∧
  T176x1 F ((i.toList.drop 0).take (64 - 0)) gv1 (Vector.replicate 64 (0:UInt8)) 0=some (h,b,n)∧Inv F (xk k 54) h b n∧o.toList=xk k 92:=by
 have hmin:Nat.min k.length (64 - 0)=k.length:=Nat.min_eq_left (by omega)
 rw [hmin]
 obtain ⟨o,o1,o2⟩:=t80 (F:=F) (by omega) 92 (vspl (Vector.replicate 64 (0:UInt8)) 0 k k.length)
 obtain ⟨i,i1,i2⟩:=t80 (F:=F) (by omega) 54 (vspl (Vector.replicate 64 (0:UInt8)) 0 k k.length)
 rw [filled hk] at o2 i2
 have xl:=xk_len hk 54
 obtain ⟨h,b,n,t1,t2⟩:=t82 (F:=F) (m:=[]) (x:=xk k 54) (by simp only [List.length_nil];omega) (by simp only [List.length_nil];omega) (inv0 F)
 rw [List.nil_append] at t2
 refine ⟨o,i,h,b,n,o1,i1,?_,t2,o2⟩
 rw [i2,x82_eq]
 have e:(((k ++ List.replicate (64 - k.length) 0).map (fun y=>y ^^^ (54:UInt8))).drop 0).take (64 - 0)=xk k 54:=by
  rw [List.drop_zero,List.take_of_length_le (by simp;omega)];rfl
 rw [e,t1]
theorem v0_0:vix gv0 (0:Int)=some 54:=rfl
theorem v0_1:vix gv0 (1:Int)=some 92:=rfl
theorem tag_eq {F:Nat} {k d:List UInt8} (hF:2000 + k.length + d.length < F) (hk:k.length < 10000000) (hd:d.length < 10000000):∃ t,T96 F k d=some t∧T35 F k d=some t∧t.length=32:=by
 have g0:gslb 64 (0:Int) ((64:Nat):Int)=some (0,64):=gslb_nat (a:=0) (by omega) (by omega)
 have key:∀ k':List UInt8,k'.length≤64->∃ h b n o t inner,(T174 F 92 (vspl (Vector.replicate 64 (0:UInt8)) 0 k' (Nat.min k'.length (64 - 0)))=some o∧∃ i,T174 F 54 (vspl (Vector.replicate 64 (0:UInt8)) 0 k' (Nat.min k'.length (64 - 0)))=some i ∧
   T176x1 F ((i.toList.drop 0).take (64 - 0)) gv1 (Vector.replicate 64 (0:UInt8)) 0=some (h,b,n))∧(∃ z,T141 F d h b n=some z∧T142 F z.1 z.2.1 z.2.2 o=some t) ∧
   T101 F (xk k' 54 ++ d)=some inner∧inner.length=32∧T101 F (xk k' 92 ++ inner)=some t∧t.length=32:=by
  intro k' hk'
  obtain ⟨o,i,h,b,n,o1,i1,s1,s2,s3⟩:=start65 (F:=F) (by omega) hk'
  have xl:=xk_len hk' 54
  have xl2:=xk_len hk' 92
  obtain ⟨h2,b2,n2,u1,u2⟩:=t82 (F:=F) (x:=d) (by omega) (by omega) s2
  obtain ⟨inner,v1,v2,v3⟩:=sum_eq (F:=F) (by simp only [List.length_append];omega) (by simp only [List.length_append];omega) u2
  obtain ⟨t,w1,w2,w3⟩:=t79 (F:=F) (ls:=[xk k' 92,inner]) (by simp only [List.flatten_cons,List.flatten_nil,List.length_append,List.length_cons,List.length_nil];omega) (by simp only [List.flatten_cons,List.flatten_nil,List.length_append,List.length_nil];omega) (by simp)
  have hfl:[xk k' 92,inner].flatten=xk k' 92 ++ inner:=by simp
  rw [hfl] at w2
  refine ⟨h,b,n,o,t,inner,⟨o1,i,i1,s1⟩,⟨(h2,b2,n2),?_,?_⟩,v2,v3,w2,w3⟩
  ·simp only [T141,T141c,x82_eq,u1,Option.bind_some]
  ·have e:(o.toList.drop 0).take (64 - 0)=xk k' 92:=by rw [s3,List.drop_zero,List.take_of_length_le (by omega)]
   simp only [T142,T142c,g0,Option.bind_some,v1,e,w1]
 by_cases hlong:64 < k.length
 ·have h1:((64:Int) < (k.length:Int)):=by omega
  obtain ⟨k',a1,a2,a3⟩:=t79 (F:=F) (ls:=[k]) (by simp;omega) (by simp;omega) (by simp)
  have hfl:[k].flatten=k:=by simp
  rw [hfl] at a2
  obtain ⟨h,b,n,o,t,inner,⟨o1,i,i1,s1⟩,⟨z,z1,z2⟩,c1,c2,c3,c4⟩:=key k' (by omega)
  have xl:=xk_len (k:=k') (by omega) 54
  have xl2:=xk_len (k:=k') (by omega) 92
  have h65:T140 F k=some (h,b,n,o):=by
   simp only [T140,T140c,h1,decide_true,cond_true,a1,Option.bind_some,g0,v0_0,v0_1,T175,T175c,o1,i1,s1]
  refine ⟨t,?_,?_,c4⟩
  ·simp only [T96,T96c,h65,Option.bind_some,z1,z2]
  ·have gs:gstr k=some k:=by unfold gstr;rw [if_pos (by omega)]
   have gi:gstr inner=some inner:=by unfold gstr;rw [if_pos (by omega)]
   have q1:T102 F k' (UInt8.ofNat 54)=some (xk k' 54):=t69 (by omega) (by omega) _
   have q2:T102 F k' (UInt8.ofNat 92)=some (xk k' 92):=t69 (by omega) (by omega) _
   simp only [T35,T35c,h1,decide_true,cond_true,gs,Option.bind_some,a2,q1,q2,gapp_okS (show (xk k' 54).length + d.length≤1099511627776 by omega),c1,gi,gapp_okS (show (xk k' 92).length + inner.length≤1099511627776 by omega),c3]
 ·have h1:¬ ((64:Int) < (k.length:Int)):=by omega
  obtain ⟨h,b,n,o,t,inner,⟨o1,i,i1,s1⟩,⟨z,z1,z2⟩,c1,c2,c3,c4⟩:=key k (by omega)
  have xl:=xk_len (k:=k) (by omega) 54
  have xl2:=xk_len (k:=k) (by omega) 92
  have h65:T140 F k=some (h,b,n,o):=by
   simp only [T140,T140c,h1,decide_false,cond_false,Option.bind_some,g0,v0_0,v0_1,T175,T175c,o1,i1,s1]
  refine ⟨t,?_,?_,c4⟩
  ·simp only [T96,T96c,h65,Option.bind_some,z1,z2]
  ·have gi:gstr inner=some inner:=by unfold gstr;rw [if_pos (by omega)]
   have q1:T102 F k (UInt8.ofNat 54)=some (xk k 54):=t69 (by omega) (by omega) _
   have q2:T102 F k (UInt8.ofNat 92)=some (xk k 92):=t69 (by omega) (by omega) _
   simp only [T35,T35c,h1,decide_false,cond_false,Option.bind_some,q1,q2,gapp_okS (show (xk k 54).length + d.length≤1099511627776 by omega),c1,gi,gapp_okS (show (xk k 92).length + inner.length≤1099511627776 by omega),c3]
def rl (x:UInt32) (k:Nat):UInt32:=shl32 x k ||| shr32 x (32 - k)
theorem b94_16 (F:Nat) (x:UInt32):T201 F x 16=some (rl x 16):=by
 have e1:((UInt64.ofInt 16) &&& (UInt64.ofNat 31)).toNat=16:=by decide +kernel
 have e2:((UInt64.ofNat 32) - ((UInt64.ofInt 16) &&& (UInt64.ofNat 31))).toNat=16:=by decide +kernel
 simp only [T201,T201c,e1,e2,rl]
theorem b94_12 (F:Nat) (x:UInt32):T201 F x 12=some (rl x 12):=by
 have e1:((UInt64.ofInt 12) &&& (UInt64.ofNat 31)).toNat=12:=by decide +kernel
 have e2:((UInt64.ofNat 32) - ((UInt64.ofInt 12) &&& (UInt64.ofNat 31))).toNat=20:=by decide +kernel
 simp only [T201,T201c,e1,e2,rl]
theorem b94_8 (F:Nat) (x:UInt32):T201 F x 8=some (rl x 8):=by
 have e1:((UInt64.ofInt 8) &&& (UInt64.ofNat 31)).toNat=8:=by decide +kernel
 have e2:((UInt64.ofNat 32) - ((UInt64.ofInt 8) &&& (UInt64.ofNat 31))).toNat=24:=by decide +kernel
 simp only [T201,T201c,e1,e2,rl]
theorem b94_7 (F:Nat) (x:UInt32):T201 F x 7=some (rl x 7):=by
 have e1:((UInt64.ofInt 7) &&& (UInt64.ofNat 31)).toNat=7:=by decide +kernel
 have e2:((UInt64.ofNat 32) - ((UInt64.ofInt 7) &&& (UInt64.ofNat 31))).toNat=25:=by decide +kernel
 simp only [T201,T201c,e1,e2,rl]
theorem b95 (F:Nat) (x:UInt32) (k:Nat) (hk:k≤32):T182 F x ((k:Nat):Int)=some (rl x k):=by
 have e1:gnn ((k:Nat):Int)=some k:=by unfold gnn;rw [if_pos (by omega)];simp only [Int.toNat_natCast]
 have w:w64 ((32:Int) - ((k:Nat):Int))=((32 - k:Nat):Int):=by rw [w64_in (by omega) (by omega)];omega
 have e2:gnn ((32 - k:Nat):Int)=some (32 - k):=by unfold gnn;rw [if_pos (by omega)];simp only [Int.toNat_natCast]
 simp only [T182,T182c,e1,w,e2,Option.bind_some,rl]
theorem b95_16 (F:Nat) (x:UInt32):T182 F x 16=some (rl x 16):=b95 F x 16 (by omega)
theorem b95_12 (F:Nat) (x:UInt32):T182 F x 12=some (rl x 12):=b95 F x 12 (by omega)
theorem b95_8 (F:Nat) (x:UInt32):T182 F x 8=some (rl x 8):=b95 F x 8 (by omega)
theorem b95_7 (F:Nat) (x:UInt32):T182 F x 7=some (rl x 7):=b95 F x 7 (by omega)
theorem quarter (F:Nat) (a b c d:UInt32):∃ q,T179 F a b c d=some q∧T148 F a b c d=some q:=by
 simp only [T179,T179c,T148,T148c,b94_16,b94_12,b94_8,b94_7,b95_16,b95_12,b95_8,b95_7,Option.bind_some]
 exact ⟨_,rfl,rfl⟩
theorem q_eq (F:Nat):T179 F=T148 F:=by
 funext a b c d
 obtain ⟨q,h1,h2⟩:=quarter F a b c d
 rw [h1,h2]
theorem e7 (F:Nat):L144_7 F=L103_7 F:=rfl
theorem e8 (F:Nat):L144_8 F=L103_8 F:=rfl
theorem e11 (F:Nat):L144_11 F=L103_11 F:=by
 funext a b c
 simp only [L144_11,L144_11c,L103_11,L103_11c,q_eq]
theorem e10 (F:Nat):L144_10 F=L103_10 F:=by
 funext a b c
 simp only [L144_10,L144_10c,L103_10,L103_10c,e11]
theorem e9 (F:Nat):L144_9 F=L103_9 F:=by
 funext a b c
 simp only [L144_9,L144_9c,L103_9,L103_9c,e10]
theorem vix_inb {α:Type} {n:Nat} (v:Vector α n) (i:Int):vix v i=(inb n i).bind fun j=>vat v j:=by
 unfold vix inb
 by_cases h0:0≤i
 ·rw [if_pos h0]
  by_cases h1:i < n
  ·rw [if_pos ⟨h0,h1⟩,Option.bind_some,vat_eq]
  ·rw [if_neg (fun h=>h1 h.2),Option.bind_none]
   exact getElem?_neg v i.toNat (by omega)
 ·rw [if_neg h0,if_neg (fun h=>h0 h.1),Option.bind_none]
theorem e12 (F:Nat) (a b:Vector UInt32 16):L144_12 F a b=L103_12 F b a:=by
 funext i l
 simp only [L144_12,L144_12c,L103_12,L103_12c,vix_inb,Option.bind_assoc]
def rows:Vector (Vector Int 4) 8:=#v[(#v[(0:Int),(4:Int),(8:Int),(12:Int)]:Vector Int 4),(#v[(1:Int),(5:Int),(9:Int),(13:Int)]:Vector Int 4),(#v[(2:Int),(6:Int),(10:Int),(14:Int)]:Vector Int 4),(#v[(3:Int),(7:Int),(11:Int),(15:Int)]:Vector Int 4),(#v[(0:Int),(5:Int),(10:Int),(15:Int)]:Vector Int 4),(#v[(1:Int),(6:Int),(11:Int),(12:Int)]:Vector Int 4),(#v[(2:Int),(7:Int),(8:Int),(13:Int)]:Vector Int 4),(#v[(3:Int),(4:Int),(9:Int),(14:Int)]:Vector Int 4)]
theorem row_ok:∀ i:Nat,i < 8->∃ a b c d:Nat,(a < 16∧b < 16∧c < 16∧d < 16)∧vix rows ((i:Nat):Int)=some #v[((a:Nat):Int),((b:Nat):Int),((c:Nat):Int),((d:Nat):Int)]
 | 0,_=>⟨0,4,8,12,by decide,rfl⟩
 | 1,_=>⟨1,5,9,13,by decide,rfl⟩
 | 2,_=>⟨2,6,10,14,by decide,rfl⟩
 | 3,_=>⟨3,7,11,15,by decide,rfl⟩
 | 4,_=>⟨0,5,10,15,by decide,rfl⟩
 | 5,_=>⟨1,6,11,12,by decide,rfl⟩
 | 6,_=>⟨2,7,8,13,by decide,rfl⟩
 | 7,_=>⟨3,4,9,14,by decide,rfl⟩
 | n + 8,h=>absurd h (by omega)
theorem l11 (F:Nat) {i:Nat} (hi:i < 8) (v:Vector UInt32 16):∃ v',L103_11 F rows ((i:Nat):Int) v=some (((i + 1:Nat):Int),v'):=by
 obtain ⟨a,b,c,d,⟨ha,hb,hc,hd⟩,hr⟩:=row_ok i hi
 have e3:w64 (((i:Nat):Int) + 1)=((i + 1:Nat):Int):=by rw [w64_in (by omega) (by omega)];omega
 have y0:vat #v[((a:Nat):Int),((b:Nat):Int),((c:Nat):Int),((d:Nat):Int)] 0=some ((a:Nat):Int):=rfl
 have y1:vat #v[((a:Nat):Int),((b:Nat):Int),((c:Nat):Int),((d:Nat):Int)] 1=some ((b:Nat):Int):=rfl
 have y2:vat #v[((a:Nat):Int),((b:Nat):Int),((c:Nat):Int),((d:Nat):Int)] 2=some ((c:Nat):Int):=rfl
 have y3:vat #v[((a:Nat):Int),((b:Nat):Int),((c:Nat):Int),((d:Nat):Int)] 3=some ((d:Nat):Int):=rfl
 obtain ⟨q,_,hq⟩:=quarter F v[a] v[b] v[c] v[d]
 simp only [L103_11,L103_11c,hr,Option.bind_some,y0,y1,y2,y3,inb_nat ha,inb_nat hb,inb_nat hc,inb_nat hd,vat_nat (v:=v) ha,vat_nat (v:=v) hb,vat_nat (v:=v) hc,vat_nat (v:=v) hd,hq,e3]
 exact ⟨_,rfl⟩
theorem l10 {F:Nat} (hF:100 < F) (v:Vector UInt32 16):∃ v',iter (fun s:Int×Vector UInt32 16=>L103_10 F rows s.1 s.2) F ((0:Int),v)=some v':=by
 obtain ⟨r,h,_⟩:=iter1 (f:=fun s:Int×Vector UInt32 16=>L103_10 F rows s.1 s.2) (fun s=>∃ i:Nat,s.1=i∧i≤8) (fun _=>True) (fun s=>8 - s.1.toNat) (by
   rintro ⟨a,u⟩ ⟨i,hi,h8⟩
   simp only at hi
   subst hi
   by_cases h:i < 8
   ·have h1:(((i:Nat):Int) < 8):=by omega
    obtain ⟨v',hv⟩:=l11 F h u
    refine .inl ⟨(((i + 1:Nat):Int),v'),?_,⟨i + 1,rfl,by omega⟩,by simp only [Int.toNat_natCast];omega⟩
    simp only [L103_10,L103_10c,h1,decide_true,cond_true,hv,Option.bind_some]
   ·obtain rfl:i=8:=by omega
    exact .inr ⟨u,rfl,trivial⟩) F ((0:Int),v) ⟨0,rfl,by omega⟩ (by simp only [Int.toNat_zero];omega)
 exact ⟨r,h⟩
theorem l9 {F:Nat} (hF:100 < F) (v:Vector UInt32 16):∃ v',iter (fun s:Int×Vector UInt32 16=>L103_9 F rows s.1 s.2) F ((0:Int),v)=some v':=by
 obtain ⟨r,h,_⟩:=iter1 (f:=fun s:Int×Vector UInt32 16=>L103_9 F rows s.1 s.2) (fun s=>∃ i:Nat,s.1=i∧i≤10) (fun _=>True) (fun s=>10 - s.1.toNat) (by
   rintro ⟨a,u⟩ ⟨i,hi,h8⟩
   simp only at hi
   subst hi
   by_cases h:i < 10
   ·have h1:(((i:Nat):Int) < 10):=by omega
    have e3:w64 (((i:Nat):Int) + 1)=((i + 1:Nat):Int):=by rw [w64_in (by omega) (by omega)];omega
    obtain ⟨v',hv⟩:=l10 hF u
    refine .inl ⟨(((i + 1:Nat):Int),v'),?_,⟨i + 1,rfl,by omega⟩,by simp only [Int.toNat_natCast];omega⟩
    simp only [L103_9,L103_9c,h1,decide_true,cond_true,hv,Option.bind_some,e3]
   ·obtain rfl:i=10:=by omega
    exact .inr ⟨u,rfl,trivial⟩) F ((0:Int),v) ⟨0,rfl,by omega⟩ (by simp only [Int.toNat_zero];omega)
 exact ⟨r,h⟩
theorem t88 (F:Nat) {p:List UInt8} {i:Nat} (h:4 * i + 3 < p.length) (hi:i < 100):∃ w,T147 F p ((i:Nat):Int)=some w:=by
 have e1:w64 ((4:Int) * ((i:Nat):Int))=((4 * i:Nat):Int):=by rw [w64_in (by omega) (by omega)];omega
 have f1:w64 (((4 * i:Nat):Int) + 1)=((4 * i + 1:Nat):Int):=by rw [w64_in (by omega) (by omega)];omega
 have f2:w64 (((4 * i:Nat):Int) + 2)=((4 * i + 2:Nat):Int):=by rw [w64_in (by omega) (by omega)];omega
 have f3:w64 (((4 * i:Nat):Int) + 3)=((4 * i + 3:Nat):Int):=by rw [w64_in (by omega) (by omega)];omega
 have x0:ix p ((4 * i:Nat):Int)=some p[4 * i]:=ix_nat (by omega)
 have x1:ix p ((4 * i + 1:Nat):Int)=some p[4 * i + 1]:=ix_nat (by omega)
 have x2:ix p ((4 * i + 2:Nat):Int)=some p[4 * i + 2]:=ix_nat (by omega)
 have x3:ix p ((4 * i + 3:Nat):Int)=some p[4 * i + 3]:=ix_nat (by omega)
 simp only [T147,T147c,e1,f1,f2,f3,x0,x1,x2,x3,Option.bind_some]
 exact ⟨_,rfl⟩
theorem l7 {F:Nat} (hF:100 < F) {k:List UInt8} (hk:k.length=32) (v:Vector UInt32 16):∃ v',iter (fun s:Int×Vector UInt32 16=>L103_7 F k s.1 s.2) F ((0:Int),v)=some v':=by
 obtain ⟨r,h,_⟩:=iter1 (f:=fun s:Int×Vector UInt32 16=>L103_7 F k s.1 s.2) (fun s=>∃ i:Nat,s.1=i∧i≤8) (fun _=>True) (fun s=>8 - s.1.toNat) (by
   rintro ⟨a,u⟩ ⟨i,hi,h8⟩
   simp only at hi
   subst hi
   by_cases h:i < 8
   ·have h1:(((i:Nat):Int) < 8):=by omega
    have e3:w64 (((i:Nat):Int) + 1)=((i + 1:Nat):Int):=by rw [w64_in (by omega) (by omega)];omega
    have e4:w64 ((4:Int) + ((i:Nat):Int))=((4 + i:Nat):Int):=by rw [w64_in (by omega) (by omega)];omega
    obtain ⟨w,hw⟩:=t88 F (p:=k) (i:=i) (by omega) (by omega)
    refine .inl ⟨(((i + 1:Nat):Int),u.setIfInBounds (4 + i) w),?_,⟨i + 1,rfl,by omega⟩,by simp only [Int.toNat_natCast];omega⟩
    simp only [L103_7,L103_7c,h1,decide_true,cond_true,hw,Option.bind_some,e3,e4,inb_nat (show 4 + i < 16 by omega)]
   ·obtain rfl:i=8:=by omega
    exact .inr ⟨u,rfl,trivial⟩) F ((0:Int),v) ⟨0,rfl,by omega⟩ (by simp only [Int.toNat_zero];omega)
 exact ⟨r,h⟩
theorem l8 {F:Nat} (hF:100 < F) {k:List UInt8} (hk:k.length=12) (v:Vector UInt32 16):∃ v',iter (fun s:Int×Vector UInt32 16=>L103_8 F k s.1 s.2) F ((0:Int),v)=some v':=by
 obtain ⟨r,h,_⟩:=iter1 (f:=fun s:Int×Vector UInt32 16=>L103_8 F k s.1 s.2) (fun s=>∃ i:Nat,s.1=i∧i≤3) (fun _=>True) (fun s=>3 - s.1.toNat) (by
   rintro ⟨a,u⟩ ⟨i,hi,h8⟩
   simp only at hi
   subst hi
   by_cases h:i < 3
   ·have h1:(((i:Nat):Int) < 3):=by omega
    have e3:w64 (((i:Nat):Int) + 1)=((i + 1:Nat):Int):=by rw [w64_in (by omega) (by omega)];omega
    have e4:w64 ((13:Int) + ((i:Nat):Int))=((13 + i:Nat):Int):=by rw [w64_in (by omega) (by omega)];omega
    obtain ⟨w,hw⟩:=t88 F (p:=k) (i:=i) (by omega) (by omega)
    refine .inl ⟨(((i + 1:Nat):Int),u.setIfInBounds (13 + i) w),?_,⟨i + 1,rfl,by omega⟩,by simp only [Int.toNat_natCast];omega⟩
    simp only [L103_8,L103_8c,h1,decide_true,cond_true,hw,Option.bind_some,e3,e4,inb_nat (show 13 + i < 16 by omega)]
   ·obtain rfl:i=3:=by omega
    exact .inr ⟨u,rfl,trivial⟩) F ((0:Int),v) ⟨0,rfl,by omega⟩ (by simp only [Int.toNat_zero];omega)
 exact ⟨r,h⟩
theorem l12 {F:Nat} (hF:100 < F) (a b:Vector UInt32 16):∃ r:List UInt8,iter (fun s:Int×List UInt8=>L103_12 F a b s.1 s.2) F ((0:Int),([]:List UInt8))=some r∧r.length=64:=by
 exact iter1 (f:=fun s:Int×List UInt8=>L103_12 F a b s.1 s.2) (fun s=>∃ i:Nat,s.1=i∧i≤16∧s.2.length=4 * i) (fun r=>r.length=64) (fun s=>16 - s.1.toNat) (by
   rintro ⟨x,u⟩ ⟨i,hi,h8,hl⟩
   simp only at hi hl
   subst hi
   by_cases h:i < 16
   ·have h1:(((i:Nat):Int) < 16):=by omega
    have e3:w64 (((i:Nat):Int) + 1)=((i + 1:Nat):Int):=by rw [w64_in (by omega) (by omega)];omega
    have ga:∀ y:List UInt8,y.length=4->gapp u y=some (u ++ y):=fun y hy=>gapp_okS (by omega)
    refine .inl ⟨(((i + 1:Nat):Int),u ++ [((b[i] + a[i]).toUInt8),((shr32 (b[i] + a[i]) ((UInt64.ofNat 8).toNat)).toUInt8),((shr32 (b[i] + a[i]) ((UInt64.ofNat 16).toNat)).toUInt8),((shr32 (b[i] + a[i]) ((UInt64.ofNat 24).toNat)).toUInt8)]),?_,⟨i + 1,rfl,by omega,by simp [hl];omega⟩,by simp only [Int.toNat_natCast];omega⟩
    simp only [L103_12,L103_12c,h1,decide_true,cond_true,inb_nat h,vat_nat (v:=a) h,vat_nat (v:=b) h,Option.bind_some,e3]
    rw [ga _ rfl,Option.bind_some]
   ·obtain rfl:i=16:=by omega
    exact .inr ⟨u,rfl,hl⟩) F ((0:Int),([]:List UInt8)) ⟨0,rfl,by omega,rfl⟩ (by simp only [Int.toNat_zero];omega)
theorem t70 (F:Nat) (k n:List UInt8):T143 F k n=some (decide (k.length=32) && decide (n.length=12)):=by
 by_cases h1:k.length=32
 ·have e1:((k.length:Int) == 32)=true:=by rw [h1];rfl
  by_cases h2:n.length=12
  ·have e2:((n.length:Int) == 12)=true:=by rw [h2];rfl
   simp [T143,T143c,e1,e2,h1,h2]
  ·have e2:((n.length:Int) == 12)=false:=by rw [beq_eq_false_iff_ne];omega
   simp [T143,T143c,e1,e2,h1,h2]
 ·have e1:((k.length:Int) == 32)=false:=by rw [beq_eq_false_iff_ne];omega
  simp [T143,T143c,e1,h1]
theorem block_eq {F:Nat} (hF:100 < F) {k n:List UInt8} (hk:k.length=32) (hn:n.length=12) (c:UInt32):∃ b,T144 F k n c=some (0,b)∧T103 F k n c=some (0,b)∧b.length=64:=by
 obtain ⟨v1,h1⟩:=l7 hF hk (Vector.setIfInBounds (Vector.setIfInBounds (Vector.setIfInBounds (Vector.setIfInBounds (Vector.replicate 16 (0:UInt32)) 0 (UInt32.ofNat 1634760805)) 1 (UInt32.ofNat 857760878)) 2 (UInt32.ofNat 2036477234)) 3 (UInt32.ofNat 1797285236))
 obtain ⟨v2,h2⟩:=l8 hF hn (Vector.setIfInBounds v1 12 c)
 obtain ⟨v3,h3⟩:=l9 hF v2
 obtain ⟨r,h4,h5⟩:=l12 hF v2 v3
 have d1:((k.length:Int) != 32)=false:=by rw [hk];rfl
 have d2:((n.length:Int) != 12)=false:=by rw [hn];rfl
 have g0:gmake (0:UInt8) (0:Int) (64:Int)=some []:=by decide +kernel
 simp only [rows] at h3
 refine ⟨r,?_,?_,h5⟩
 ·simp only [T144,T144c,t70,hk,hn,decide_true,Bool.and_self,Option.bind_some,Bool.not_true,cond_false,e7,e8,e9,e12,h1,h2,h3,g0,h4]
 ·simp only [T103,T103c,d1,d2,cond_false,h1,Option.bind_some,h2,h3,h4]
theorem stream_eq {F:Nat} {k n:List UInt8} {N:Nat} (hF:200 + N < F) (hN:N≤1048576) (hk:k.length=32) (hn:n.length=12):∃ s,T97 F k n 0 (N:Int)=some (0,s)∧T36 F k n 0 (N:Int)=some (0,s)∧s.length=N:=by
 obtain ⟨r,r',b1,b2,b3,b4⟩:=iter2 (f:=fun s:Int×List UInt8=>L97_2 F k n 0 (N:Int) s.1 s.2) (g:=fun s:Int×List UInt8=>L36_2 F k n 0 (N:Int) s.1 s.2)
  (fun s t=>s.1=t.1∧∃ i:Nat,s.1=i∧i≤N∧t.2.length=i∧s.2=t.2 ++ List.replicate (N - i) 0) (fun r r'=>r'=r∧r.length=N) (fun s=>N - s.1.toNat) (by
   rintro ⟨a,u⟩ ⟨a',t⟩ ⟨h0,i,hi,hiN,hl,hu⟩
   simp only at h0 hi hl hu
   subst h0 hi hu
   have w0:w64 ((0:Int) + (N:Int))=(N:Int):=by rw [w64_in (by omega) (by omega)];omega
   have w1:w64 ((0:Int) + ((i:Nat):Int))=((i:Nat):Int):=by rw [w64_in (by omega) (by omega)];omega
   by_cases h:i < N
   ·have h1:(((i:Nat):Int) < (N:Int)):=by omega
    obtain ⟨b,c1,c2,c3⟩:=block_eq (F:=F) (by omega) hk hn (UInt32.ofInt (w64 (Int.tdiv ((i:Nat):Int) 64)))
    have hub:(t ++ List.replicate (N - i) (0:UInt8)).length=N:=by simp;omega
    have g1:gslb (t ++ List.replicate (N - i) (0:UInt8)).length ((i:Nat):Int) ((t ++ List.replicate (N - i) (0:UInt8)).length:Int)=some (i,N):=by rw [hub];exact gslb_nat (by omega) (Nat.le_refl _)
    have g2:gslb b.length ((i % 64:Nat):Int) (b.length:Int)=some (i % 64,64):=by rw [c3];exact gslb_nat (by omega) (by omega)
    have hpl:((b.drop (i % 64)).take (64 - i % 64)).length=64 - i % 64:=by simp;omega
    have hpe:(b.drop (i % 64)).take (64 - i % 64)=b.drop (i % 64):=List.take_of_length_le (by simp;omega)
    have w2:w64 ((N:Int) - ((i:Nat):Int))=((N - i:Nat):Int):=by rw [w64_in (by omega) (by omega)];omega
    by_cases hs:N - i < 64 - i % 64
    ·have hmin:Nat.min (64 - i % 64) (N - i)=N - i:=Nat.min_eq_right (by omega)
     have w3:w64 (((i:Nat):Int) + ((N - i:Nat):Int))=((N:Nat):Int):=by rw [w64_in (by omega) (by omega)];omega
     have hsp:splice (t ++ List.replicate (N - i) (0:UInt8)) i (b.drop (i % 64)) (N - i)=t ++ (b.drop (i % 64)).take (N - i):=by
      simp only [splice]
      have hz:(t ++ List.replicate (N - i) (0:UInt8)).drop (i + (N - i))=[]:=List.drop_of_length_le (by omega)
      rw [hz,List.append_nil,List.take_append_of_le_length (by omega),List.take_of_length_le (l:=t) (by omega)]
     have d2:(((N - i:Nat):Int) < ((64 - i % 64:Nat):Int)):=by omega
     have g3:gslb (64 - i % 64) (0:Int) ((N - i:Nat):Int)=some (0,N - i):=gslb_nat (a:=0) (by omega) (by omega)
     have e5:i % 64 + (N - i) - i % 64=N - i:=by omega
     have ga:gapp t ((b.drop (i % 64)).take (N - i))=some (t ++ (b.drop (i % 64)).take (N - i)):=gapp_okS (by simp;omega)
     refine .inl ⟨((N:Int),t ++ (b.drop (i % 64)).take (N - i)),((N:Int),t ++ (b.drop (i % 64)).take (N - i)),?_,?_,⟨rfl,N,rfl,by omega,?_,?_⟩,?_⟩
     ·simp only [L97_2,L97_2c,h1,decide_true,cond_true,w1,c1,Option.bind_some,g1,tmod64,g2,hpe,show (b.drop (i % 64)).length=64 - i % 64 by simp;omega,hmin,w3,hsp]
     ·simp only [L36_2,L36_2c,w0,h1,decide_true,cond_true,c2,Option.bind_some,tmod64,g2,w2,d2,g3,e5,Nat.add_zero,ga,w3]
     ·simp;omega
     ·simp
     ·simp only [Int.toNat_natCast];omega
    ·have hmin:Nat.min (64 - i % 64) (N - i)=64 - i % 64:=Nat.min_eq_left (by omega)
     have w3:w64 (((i:Nat):Int) + ((64 - i % 64:Nat):Int))=((i + (64 - i % 64):Nat):Int):=by rw [w64_in (by omega) (by omega)];omega
     have hsp:splice (t ++ List.replicate (N - i) (0:UInt8)) i (b.drop (i % 64)) (64 - i % 64)=t ++ b.drop (i % 64) ++ List.replicate (N - (i + (64 - i % 64))) 0:=by
      simp only [splice]
      rw [List.take_append_of_le_length (by omega),List.take_of_length_le (l:=t) (by omega),List.take_of_length_le (l:=b.drop (i % 64)) (by simp;omega)]
      congr 1
      rw [List.drop_append,List.drop_of_length_le (by omega),List.nil_append,List.drop_replicate]
      congr 1;omega
     have d2:¬ (((N - i:Nat):Int) < ((64 - i % 64:Nat):Int)):=by omega
     have ga:gapp t (b.drop (i % 64))=some (t ++ b.drop (i % 64)):=gapp_okS (by simp;omega)
     refine .inl ⟨(((i + (64 - i % 64):Nat):Int),t ++ b.drop (i % 64) ++ List.replicate (N - (i + (64 - i % 64))) 0),(((i + (64 - i % 64):Nat):Int),t ++ b.drop (i % 64)),?_,?_,⟨rfl,i + (64 - i % 64),rfl,by omega,?_,rfl⟩,?_⟩
     ·simp only [L97_2,L97_2c,h1,decide_true,cond_true,w1,c1,Option.bind_some,g1,tmod64,g2,hpe,show (b.drop (i % 64)).length=64 - i % 64 by simp;omega,hmin,w3,hsp]
     ·simp only [L36_2,L36_2c,w0,h1,decide_true,cond_true,c2,Option.bind_some,tmod64,g2,w2,d2,decide_false,cond_false,hpe,ga,w3]
     ·simp;omega
     ·simp only [Int.toNat_natCast];omega
   ·obtain rfl:i=N:=by omega
    have h1:¬ (((i:Nat):Int) < (i:Int)):=by omega
    refine .inr ⟨t ++ List.replicate (i - i) 0,t,?_,?_,by simp,by simp;omega⟩
    ·simp only [L97_2,L97_2c,h1,decide_false,cond_false]
    ·simp only [L36_2,L36_2c,w0,h1,decide_false,cond_false]) F F ((0:Int),List.replicate N 0) ((0:Int),([]:List UInt8)) ⟨rfl,0,rfl,by omega,rfl,by simp⟩ (by simp only [Int.toNat_zero];omega) (by simp only [Int.toNat_zero];omega)
 subst b3
 have d0:¬ ((0:Int) < 0):=by omega
 have d1:¬ ((N:Int) < 0):=by omega
 have d2:¬ ((1048576:Int) < (N:Int)):=by omega
 have w:w64 ((274877906944:Int) - (N:Int))=274877906944 - (N:Int):=w64_in (by omega) (by omega)
 have d3:¬ ((274877906944:Int) - (N:Int) < 0):=by omega
 have f1:((k.length:Int) != 32)=false:=by rw [hk];rfl
 have f2:((n.length:Int) != 12)=false:=by rw [hn];rfl
 have g0:gmake (0:UInt8) (N:Int) (N:Int)=some (List.replicate N 0):=by
  unfold gmake;rw [if_pos (by omega)];simp only [Int.toNat_natCast]
 refine ⟨r',?_,?_,b4⟩
 ·simp only [T97,T97c,t70,hk,hn,decide_true,Bool.and_self,Option.bind_some,Bool.not_true,cond_false,d0,d1,d2,w,d3,decide_false,g0,b1]
 ·simp only [T36,T36c,f1,f2,cond_false,d0,d1,d2,w,d3,decide_false,b2,Option.bind_some]
def xorL (a b:List UInt8):List UInt8:=List.zipWith (fun x y=>x ^^^ y) a b
theorem xorL_len {a b:List UInt8} (h:a.length=b.length):(xorL a b).length=a.length:=by simp [xorL,h]
theorem xorL_get {a b:List UInt8} {i:Nat} (h:a.length=b.length) (hi:i < a.length):(xorL a b)[i]? = some (a[i] ^^^ b[i]'(by omega)):=by
 have hb:i < b.length:=by omega
 simp only [xorL,List.getElem?_zipWith,List.getElem?_eq_getElem hi,List.getElem?_eq_getElem hb]
theorem xor8_cancel (x y:UInt8):x ^^^ (x ^^^ y)=y:=by rw [← UInt8.xor_assoc,UInt8.xor_self,UInt8.zero_xor]
theorem xorL_cancel:∀ {a b:List UInt8},a.length=b.length->xorL a (xorL a b)=b
 | [],[],_=>rfl
 | [],_ :: _,h=>by simp at h
 | _ :: _,[],h=>by simp at h
 | x :: a,y :: b,h=>by
  have ih:=xorL_cancel (a:=a) (b:=b) (by simpa using h)
  simp only [xorL,List.zipWith_cons_cons] at ih ⊢
  rw [xor8_cancel,ih]
theorem xorL_comm:∀ (a b:List UInt8),xorL a b=xorL b a
 | [],[]=>rfl
 | [],_ :: _=>rfl
 | _ :: _,[]=>rfl
 | x :: a,y :: b=>by
  have ih:=xorL_comm a b
  simp only [xorL,List.zipWith_cons_cons] at ih ⊢
  rw [UInt8.xor_comm,ih]
theorem l57 (F:Nat) {a b:List UInt8} (hab:a.length=b.length) (hn:a.length < 1000000):∀ (m fuel i:Nat),i + m=a.length->m < fuel->iter (fun s:Int×List UInt8=>L98_2 F a b (a.length:Int) s.1 s.2) fuel (((i:Nat):Int),xorL (a.take i) (b.take i) ++ List.replicate m 0)=some (xorL a b)
 | m,0,i,hi,hf=>by omega
 | 0,fuel + 1,i,hi,hf=>by
  have h:¬ (((i:Nat):Int) < (a.length:Int)):=by omega
  have e1:a.take i=a:=List.take_of_length_le (by omega)
  have e2:b.take i=b:=List.take_of_length_le (by omega)
  have step:L98_2 F a b (a.length:Int) ((i:Nat):Int) (xorL (a.take i) (b.take i) ++ List.replicate 0 0)=some (.inr (xorL a b)):=by
   simp only [L98_2,L98_2c,h,decide_false,cond_false,e1,e2,List.replicate_zero,List.append_nil]
  rw [it_out (f:=fun s:Int×List UInt8=>L98_2 F a b (a.length:Int) s.1 s.2) (s:=(((i:Nat):Int),_)) step]
 | m + 1,fuel + 1,i,hi,hf=>by
  have h:(((i:Nat):Int) < (a.length:Int)):=by omega
  have ha:i < a.length:=by omega
  have hb:i < b.length:=by omega
  have hx:ix a ((i:Nat):Int)=some a[i]:=by unfold ix;rw [if_pos (by omega)];simp [ha]
  have hy:ix b ((i:Nat):Int)=some b[i]:=by unfold ix;rw [if_pos (by omega)];simp [hb]
  have w:w64 (((i:Nat):Int) + 1)=(((i + 1:Nat)):Int):=by rw [w64_in (by omega) (by omega)];omega
  have hl:(xorL (a.take i) (b.take i)).length=i:=by rw [xorL_len (by simp;omega)];simp;omega
  have hin:inb (xorL (a.take i) (b.take i) ++ List.replicate (m + 1) 0).length ((i:Nat):Int)=some i:=by
   unfold inb;rw [if_pos (by simp [hl];omega)];simp
  have hset:List.set (xorL (a.take i) (b.take i) ++ List.replicate (m + 1) 0) i (a[i] ^^^ b[i])=xorL (a.take (i + 1)) (b.take (i + 1)) ++ List.replicate m 0:=by
   rw [List.set_append_right _ _ (by omega),hl,Nat.sub_self,List.replicate_succ,List.set_cons_zero]
   have:xorL (a.take (i + 1)) (b.take (i + 1))=xorL (a.take i) (b.take i) ++ [a[i] ^^^ b[i]]:=by
    simp only [xorL]
    rw [List.take_succ_eq_append_getElem ha,List.take_succ_eq_append_getElem hb,List.zipWith_append (by simp;omega)]
    rfl
   rw [this];simp
  have step:L98_2 F a b (a.length:Int) ((i:Nat):Int) (xorL (a.take i) (b.take i) ++ List.replicate (m + 1) 0)=some (.inl (((i + 1:Nat):Int),xorL (a.take (i + 1)) (b.take (i + 1)) ++ List.replicate m 0)):=by
   simp only [L98_2,L98_2c,h,decide_true,cond_true,hx,hy,hin,Option.bind_some,w,hset]
  rw [it_again (f:=fun s:Int×List UInt8=>L98_2 F a b (a.length:Int) s.1 s.2) (s:=(((i:Nat):Int),_)) step]
  exact l57 F hab hn m fuel (i + 1) (by omega) (by omega)
theorem t57x {F:Nat} {a b:List UInt8} (hF:a.length < F) (hn:a.length < 1000000) (h:a.length=b.length):T98 F a b=some (0,xorL a b):=by
 have e:((a.length:Int) != (b.length:Int))=false:=by simp [h]
 have g:gmake (0:UInt8) (a.length:Int) (a.length:Int)=some (List.replicate a.length 0):=by unfold gmake;rw [if_pos (by omega)];simp
 have l:=l57 F h hn a.length F 0 (by omega) hF
 have z:((0:Nat):Int)=0:=rfl
 simp only [List.take_zero,z] at l
 have x0:xorL [] []=[]:=rfl
 rw [x0,List.nil_append] at l
 simp only [T98,T98c,e,cond_false,g,Option.bind_some,l]
abbrev Bs:=List UInt8
abbrev Rf:=List UInt8×Int×Int×Unit
abbrev Sn:=Int×Int×Int×Rf×Int×Int×List UInt8×Bool×Unit
abbrev Sp:=List UInt8×Int×Int×Int×Int×List Rf×Unit
abbrev Ix:=Int×Int×List Int×List Sn×List Sp×List Rf
def zig (n:Int):Nat:=if n < 0 then (2 * (-n - 1) + 1).toNat else (2 * n).toNat
def uzg (n:Nat):Int:=if n % 2=1 then -((n / 2:Nat):Int) - 1 else ((n / 2:Nat):Int)
theorem uzg_zig (n:Int):uzg (zig n)=n:=by unfold uzg zig;split<;>split<;>omega
theorem zig_uzg (n:Nat):zig (uzg n)=n:=by unfold uzg zig;split<;>split<;>omega
def eI (n:Int):Bs:=enc (zig n)
def eT (s:Bs):Bs:=enc s.length ++ s
def eB (b:Bool):Bs:=[bif b then 1 else 0]
def eL {α:Type} (e:α->Bs) (l:List α):Bs:=enc l.length ++ l.flatMap e
def eR (r:Rf):Bs:=r.1 ++ (eI r.2.1 ++ eI r.2.2.1)
def eSn (s:Sn):Bs:=eI s.1 ++ (eI s.2.1 ++ (eI s.2.2.1 ++ (eR s.2.2.2.1 ++ (eI s.2.2.2.2.1 ++ (eI s.2.2.2.2.2.1 ++ (eT s.2.2.2.2.2.2.1 ++ eB s.2.2.2.2.2.2.2.1))))))
def eSp (s:Sp):Bs:=s.1 ++ (eI s.2.1 ++ (eI s.2.2.1 ++ (eI s.2.2.2.1 ++ (eI s.2.2.2.2.1 ++ eL eR s.2.2.2.2.2.1))))
def eX (x:Ix):Bs:=eI x.1 ++ (eI x.2.1 ++ (eL eI x.2.2.1 ++ (eL eSn x.2.2.2.1 ++ (eL eSp x.2.2.2.2.1 ++ eL eR x.2.2.2.2.2))))
def wi (n a b:Int):Bool:=decide (a≤n) && decide (n≤b)
def vR (r:Rf):Bool:=decide (r.1.length=32) && (wi r.2.1 0 1099511627776 && wi r.2.2.1 0 32768)
def vSn (s:Sn):Bool:=wi s.1 0 11 && (wi s.2.1 1 1099511627776 && (wi s.2.2.1 0 999999 && (vR s.2.2.2.1 && (wi s.2.2.2.2.1 0 1099511627776 && (wi s.2.2.2.2.2.1 0 1099511627776 && (decide (s.2.2.2.2.2.2.1.length=0) || decide (s.2.2.2.2.2.2.1.length=32)))))))
def vSp (s:Sp):Bool:=decide (s.1.length=32) && (wi s.2.1 0 1000 && (wi s.2.2.1 1 65536 && (wi s.2.2.2.1 1 8 && (wi s.2.2.2.2.1 1 16 && (decide (s.2.2.2.2.2.1.length≤8) && s.2.2.2.2.2.1.all vR)))))
def vX (x:Ix):Bool:=wi x.1 0 1000 && (wi x.2.1 0 1000 && (decide (x.2.2.1.length≤12) && (decide (x.2.2.2.1.length≤4096) && (decide (x.2.2.2.2.1.length≤4096) && (decide (x.2.2.2.2.2.length≤4096) &&
 (x.2.2.1.all (fun n=>wi n 0 1099511627776) && (x.2.2.2.1.all vSn && (x.2.2.2.2.1.all vSp && x.2.2.2.2.2.all vR))))))))
abbrev RS:=Option Bs
def rN:RS->Nat×RS
 | none=>(0,none)
 | some r=>match decS 0 r with
  | some (v,n)=>(v,some (r.drop n))
  | none=>(0,none)
def rI (s:RS):Int×RS:=(uzg (rN s).1,(rN s).2)
def rC (m:Nat):RS->Nat×RS
 | none=>(0,none)
 | some r=>match decS 0 r with
  | some (v,n)=>if v≤m then (v,some (r.drop n)) else (0,none)
  | none=>(0,none)
def rT (m:Nat):RS->Bs×RS
 | none=>([],none)
 | some r=>match decS 0 r with
  | some (v,n)=>if v≤m∧v≤(r.drop n).length then ((r.drop n).take v,some ((r.drop n).drop v)) else ([],none)
  | none=>([],none)
def rS:RS->Bs×RS
 | none=>([],none)
 | some r=>if 32≤r.length then (r.take 32,some (r.drop 32)) else ([],none)
def rB:RS->Bool×RS
 | none=>(false,none)
 | some []=>(false,none)
 | some (x :: r)=>if x.toNat≤1 then (decide (x.toNat=1),some r) else (false,none)
def rL {α:Type} (rd:RS->α×RS):Nat->RS->List α×RS
 | 0,s=>([],s)
 | n + 1,s=>((rd s).1 :: (rL rd n (rd s).2).1,(rL rd n (rd s).2).2)
def rLs {α:Type} (m:Nat) (rd:RS->α×RS) (s:RS):List α×RS:=rL rd (rC m s).1 (rC m s).2
def rR (s:RS):Rf×RS:=(((rS s).1,(rI (rS s).2).1,(rI (rI (rS s).2).2).1,()),(rI (rI (rS s).2).2).2)
def rSn (s:RS):Sn×RS:=
 let a:=rI s;let b:=rI a.2;let c:=rI b.2;let d:=rR c.2;let e:=rI d.2;let f:=rI e.2;let g:=rT 32 f.2;let h:=rB g.2
 ((a.1,b.1,c.1,d.1,e.1,f.1,g.1,h.1,()),h.2)
def rSp (s:RS):Sp×RS:=
 let a:=rS s;let b:=rI a.2;let c:=rI b.2;let d:=rI c.2;let e:=rI d.2;let f:=rLs 8 rR e.2
 ((a.1,b.1,c.1,d.1,e.1,f.1,()),f.2)
def rX (s:RS):Ix×RS:=
 let a:=rI s;let b:=rI a.2;let c:=rLs 12 rI b.2;let d:=rLs 4096 rSn c.2;let e:=rLs 4096 rSp d.2;let f:=rLs 4096 rR e.2
 ((a.1,b.1,c.1,d.1,e.1,f.1),f.2)
def InvR {α:Type} (rd:RS->α×RS) (e:α->Bs):Prop:=∀ s r,(rd s).2=some r->s=some (e (rd s).1 ++ r)
theorem dec_split {l:Bs} {v n:Nat} (h:decS 0 l=some (v,n)):l=enc v ++ l.drop n:=by
 have:=(dec_enc h).1
 rw [← this,List.take_append_drop]
theorem invN:InvR rN enc:=by
 intro s r h
 cases s with
 | none=>simp [rN] at h
 | some l=>
  simp only [rN] at h ⊢
  cases hd:decS 0 l with
  | none=>simp [hd] at h
  | some p=>
   obtain ⟨v,n⟩:=p
   simp only [hd,Option.some.injEq] at h ⊢
   subst h;exact dec_split hd
theorem invI:InvR rI eI:=by
 intro s r h
 have:=invN s r h
 simpa only [rI,eI,zig_uzg] using this
theorem invC (m:Nat):InvR (rC m) enc:=by
 intro s r h
 cases s with
 | none=>simp [rC] at h
 | some l=>
  simp only [rC] at h ⊢
  cases hd:decS 0 l with
  | none=>simp [hd] at h
  | some p=>
   obtain ⟨v,n⟩:=p
   simp only [hd] at h ⊢
   split at h
   ·rename_i hv;simp only [Option.some.injEq] at h;rw [if_pos hv];subst h;exact congrArg some (dec_split hd)
   ·simp at h
theorem rC_le (m:Nat) (s:RS):(rC m s).1≤m:=by
 cases s with
 | none=>simp [rC]
 | some l=>
  simp only [rC]
  cases hd:decS 0 l with
  | none=>simp
  | some p=>obtain ⟨v,n⟩:=p;simp only;split<;>simp_all
theorem invT (m:Nat):InvR (rT m) eT:=by
 intro s r h
 cases s with
 | none=>simp [rT] at h
 | some l=>
  simp only [rT] at h ⊢
  cases hd:decS 0 l with
  | none=>simp [hd] at h
  | some p=>
   obtain ⟨v,n⟩:=p
   simp only [hd] at h ⊢
   split at h
   ·rename_i hv
    simp only [Option.some.injEq] at h
    rw [if_pos hv]
    subst h
    have hl:((l.drop n).take v).length=v:=by rw [List.length_take];omega
    simp only [eT,hl,List.append_assoc,List.take_append_drop]
    exact congrArg some (dec_split hd)
   ·simp at h
theorem invS:InvR rS (fun x=>x):=by
 intro s r h
 cases s with
 | none=>simp [rS] at h
 | some l=>
  simp only [rS] at h ⊢
  split at h
  ·rename_i hv;simp only [Option.some.injEq] at h;rw [if_pos hv];subst h;simp only [List.take_append_drop]
  ·simp at h
theorem invB:InvR rB eB:=by
 intro s r h
 match s with
 | none=>simp [rB] at h
 | some []=>simp [rB] at h
 | some (x :: l)=>
  simp only [rB] at h ⊢
  split at h
  ·rename_i hv
   simp only [Option.some.injEq] at h
   rw [if_pos hv];subst h
   have:x=(bif decide (x.toNat=1) then (1:UInt8) else 0):=by
    apply UInt8.toNat_inj.1
    by_cases h1:x.toNat=1
    ·simp [h1]
    ·have h0:x.toNat=0:=by omega
     simp [h0]
   simp only [eB,List.singleton_append]
   rw [← this]
  ·simp at h
theorem invL {α:Type} {rd:RS->α×RS} {e:α->Bs} (h:InvR rd e):∀ n,InvR (rL rd n) (fun l=>l.flatMap e):=by
 intro n
 induction n with
 | zero=>intro s r hs;simpa [rL] using hs
 | succ n ih=>
  intro s r hs
  have h1:=ih _ _ hs
  have h2:=h _ _ h1
  simp only [rL,List.flatMap_cons,List.append_assoc]
  exact h2
theorem rL_len {α:Type} (rd:RS->α×RS):∀ n s,(rL rd n s).1.length=n:=by
 intro n
 induction n with
 | zero=>intro s;rfl
 | succ n ih=>intro s;simp [rL,ih]
theorem invLs {α:Type} {rd:RS->α×RS} {e:α->Bs} (m:Nat) (h:InvR rd e):InvR (rLs m rd) (eL e):=by
 intro s r hs
 have h1:=invL h _ _ _ hs
 have h2:=invC m _ _ h1
 simp only [rLs,eL,rL_len,List.append_assoc]
 exact h2
theorem invR:InvR rR eR:=by
 intro s r hs
 have h1:=invI _ _ hs
 have h2:=invI _ _ h1
 have h3:=invS _ _ h2
 simp only [rR,eR,List.append_assoc]
 exact h3
theorem invSn:InvR rSn eSn:=by
 intro s r hs
 have h1:=invB _ _ hs
 have h2:=invT 32 _ _ h1
 have h3:=invI _ _ h2
 have h4:=invI _ _ h3
 have h5:=invR _ _ h4
 have h6:=invI _ _ h5
 have h7:=invI _ _ h6
 have h8:=invI _ _ h7
 simp only [rSn,eSn,List.append_assoc]
 exact h8
theorem invSp:InvR rSp eSp:=by
 intro s r hs
 have h1:=invLs 8 invR _ _ hs
 have h2:=invI _ _ h1
 have h3:=invI _ _ h2
 have h4:=invI _ _ h3
 have h5:=invI _ _ h4
 have h6:=invS _ _ h5
 simp only [rSp,eSp,List.append_assoc]
 exact h6
theorem invX:InvR rX eX:=by
 intro s r hs
 have h1:=invLs 4096 invR _ _ hs
 have h2:=invLs 4096 invSp _ _ h1
 have h3:=invLs 4096 invSn _ _ h2
 have h4:=invLs 12 invI _ _ h3
 have h5:=invI _ _ h4
 have h6:=invI _ _ h5
 simp only [rX,eX,List.append_assoc]
 exact h6
def Fwd {α:Type} (rd:RS->α×RS) (e:α->Bs) (P:α->Prop):Prop:=∀ v r,P v->rd (some (e v ++ r))=(v,some r)
theorem fwdN:Fwd rN enc (fun v=>v < 2 ^ 64):=by
 intro v r h
 simp only [rN,enc_dec h,List.drop_left]
theorem fwdI:Fwd rI eI (fun n=>-9223372036854775808≤n∧n≤9223372036854775807):=by
 intro v r h
 have hz:zig v < 2 ^ 64:=by unfold zig;split<;>omega
 simp only [rI,eI,fwdN _ r hz,uzg_zig]
theorem fwdC (m:Nat) (hm:m < 2 ^ 64):Fwd (rC m) enc (fun v=>v≤m):=by
 intro v r h
 simp only [rC,enc_dec (show v < 2 ^ 64 by omega),List.drop_left,if_pos h]
theorem fwdT (m:Nat) (hm:m < 2 ^ 64):Fwd (rT m) eT (fun v=>v.length≤m):=by
 intro v r h
 have h2:v.length≤(v ++ r).length:=by simp
 simp only [rT,eT,List.append_assoc,enc_dec (show v.length < 2 ^ 64 by omega),List.drop_left,if_pos (And.intro h h2),List.take_left]
theorem fwdS:Fwd rS (fun x=>x) (fun v=>v.length=32):=by
 intro v r h
 have h2:32≤(v ++ r).length:=by simp;omega
 simp only [rS,if_pos h2]
 rw [← h,List.take_left,List.drop_left]
theorem fwdB:Fwd rB eB (fun _=>True):=by
 intro v r _
 cases v<;>simp [rB,eB]
theorem fwdL {α:Type} {rd:RS->α×RS} {e:α->Bs} {P:α->Prop} (h:Fwd rd e P):∀ (l:List α) r,(∀ x ∈ l,P x)->rL rd l.length (some (l.flatMap e ++ r))=(l,some r):=by
 intro l
 induction l with
 | nil=>intro r _;simp [rL]
 | cons x l ih=>
  intro r hl
  have h1:=h x (l.flatMap e ++ r) (hl x (by simp))
  simp only [List.length_cons,rL,List.flatMap_cons,List.append_assoc,h1,ih r fun y hy=>hl y (by simp [hy])]
theorem fwdLs {α:Type} {rd:RS->α×RS} {e:α->Bs} {P:α->Prop} {m:Nat} (hm:m < 2 ^ 64) (h:Fwd rd e P):Fwd (rLs m rd) (eL e) (fun l=>l.length≤m∧∀ x ∈ l,P x):=by
 intro l r hl
 simp only [rLs,eL,List.append_assoc,fwdC m hm _ _ hl.1,fwdL h l r hl.2]
theorem fwdR:Fwd rR eR (fun v=>vR v=true):=by
 intro v r h
 obtain ⟨a,b,c,⟨⟩⟩:=v
 simp only [vR,wi,Bool.and_eq_true,decide_eq_true_eq] at h
 simp only [rR,eR,List.append_assoc,fwdS a _ h.1,fwdI b _ (by omega),fwdI c _ (by omega)]
theorem fwdSn:Fwd rSn eSn (fun v=>vSn v=true):=by
 intro v r h
 obtain ⟨a,b,c,d,e,f,g,i,⟨⟩⟩:=v
 simp only [vSn,wi,Bool.and_eq_true,Bool.or_eq_true,decide_eq_true_eq] at h
 obtain ⟨h1,h2,h3,h4,h5,h6,h7⟩:=h
 simp only [rSn,eSn,List.append_assoc,fwdI a _ (by omega),fwdI b _ (by omega),fwdI c _ (by omega),fwdR d _ h4,fwdI e _ (by omega),fwdI f _ (by omega),fwdT 32 (by omega) g _ (by omega),fwdB i _ trivial]
theorem fwdSp:Fwd rSp eSp (fun v=>vSp v=true):=by
 intro v r h
 obtain ⟨a,b,c,d,e,f,⟨⟩⟩:=v
 simp only [vSp,wi,Bool.and_eq_true,decide_eq_true_eq,List.all_eq_true] at h
 obtain ⟨h1,h2,h3,h4,h5,h6,h7⟩:=h
 simp only [rSp,eSp,List.append_assoc,fwdS a _ h1,fwdI b _ (by omega),fwdI c _ (by omega),fwdI d _ (by omega),fwdI e _ (by omega),fwdLs (m:=8) (by omega) fwdR f _ ⟨h6,h7⟩]
theorem fwdX:Fwd rX eX (fun v=>vX v=true):=by
 intro v r h
 obtain ⟨a,b,c,d,e,f⟩:=v
 simp only [vX,wi,Bool.and_eq_true,decide_eq_true_eq,List.all_eq_true] at h
 obtain ⟨h1,h2,h3,h4,h5,h6,h7,h8,h9,h10⟩:=h
 simp only [rX,eX,List.append_assoc,fwdI a _ (by omega),fwdI b _ (by omega),fwdLs (m:=12) (by omega) fwdI c _ ⟨h3,fun x hx=>by have:=h7 x hx;omega⟩,fwdLs (m:=4096) (by omega) fwdSn d _ ⟨h4,h8⟩,fwdLs (m:=4096) (by omega) fwdSp e _ ⟨h5,h9⟩,fwdLs (m:=4096) (by omega) fwdR f _ ⟨h6,h10⟩]
abbrev Out:=Int×Int×Int×List Int×List Sn×List Sp×List Rf
def badX:Out:=(0,0,3,[],[],[],[])
def okX (x:Ix):Out:=(x.1,x.2.1,0,x.2.2.1,x.2.2.2.1,x.2.2.2.2.1,x.2.2.2.2.2)
def encR (x:Ix):Int×Bs:=if vX x=true then (if 1048560 < (eX x).length then (2,[]) else (0,eX x)) else (1,[])
def decR (b:Bs):Out:=if 1048560 < b.length then badX else if (rX (some b)).2=some []∧vX (rX (some b)).1=true then okX (rX (some b)).1 else badX
theorem dec_of_enc {x:Ix} (hv:vX x=true) (hl:(eX x).length≤1048560):decR (eX x)=okX x:=by
 have h:=fwdX x [] hv
 rw [List.append_nil] at h
 unfold decR
 rw [if_neg (by omega),h,if_pos ⟨rfl,hv⟩]
theorem decR_cases (b:Bs):decR b=badX∨∃ x,decR b=okX x∧vX x=true∧b=eX x∧b.length≤1048560:=by
 unfold decR
 split
 ·exact .inl rfl
 ·split
  ·rename_i h1 h2
   refine .inr ⟨_,rfl,h2.2,?_,by omega⟩
   have:=invX _ _ h2.1
   simpa using this
  ·exact .inl rfl
theorem gapp_ok {α:Type} {xs ys:List α} (h:xs.length + ys.length≤1000000000):gapp xs ys=some (xs ++ ys):=by unfold gapp;rw [if_pos (by omega)]
theorem ixG {α:Type} {l:List α} {i:Nat} (h:i < l.length):ix l ((i:Nat):Int)=some l[i]:=ix_nat h
theorem w64s {n:Nat} (h:n < 1000000000):w64 (((n:Nat):Int) + 1)=((n + 1:Nat):Int):=by rw [w64_in (by omega) (by omega)];omega
theorem leq {l:List UInt8} {k:Nat}:((l.length:Int) == (k:Int))=decide (l.length=k):=decide_eq_decide.2 (by omega)
theorem leq32 {l:List UInt8}:((l.length:Int) == 32)=decide (l.length=32):=leq (k:=32)
theorem leq0 {l:List UInt8}:((l.length:Int) == 0)=decide (l.length=0):=leq (k:=0)
theorem lne32 {l:List UInt8}:((l.length:Int) != 32) = !decide (l.length=32):=congrArg (!·) (leq (k:=32))
theorem lne0 {l:List UInt8}:((l.length:Int) != 0) = !decide (l.length=0):=congrArg (!·) (leq (k:=0))
theorem lgt {α:Type} {l:List α} {k:Nat}:decide ((k:Int) < (l.length:Int)) = !decide (l.length≤k):=by
 by_cases h:l.length≤k
 ·rw [decide_eq_true h,Bool.not_true];exact decide_eq_false (by omega)
 ·rw [decide_eq_false h,Bool.not_false];exact decide_eq_true (by omega)
theorem all_loop {α ρ:Type} {f:Int->Option (Int ⊕ (Unit ⊕ ρ))} {l:List α} {p:α->Bool} {g:Int->ρ} (hl:l.length < 1000000)
  (hs:∀ i (h:i < l.length),f ((i:Nat):Int)=some (bif p l[i] then .inl ((i + 1:Nat):Int) else .inr (.inr (g ((i:Nat):Int)))))
  (he:f (l.length:Int)=some (.inr (.inl ()))) {fuel:Nat} (hf:l.length < fuel) :
  (l.all p=true∧iter f fuel (0:Int)=some (.inl ()))∨(l.all p=false∧∃ i:Nat,iter f fuel (0:Int)=some (.inr (g (i:Int)))):=by
 have key:∀ (m i fuel:Nat),i + m=l.length->m < fuel->((l.drop i).all p=true∧iter f fuel ((i:Nat):Int)=some (.inl ()))∨((l.drop i).all p=false∧∃ j:Nat,iter f fuel ((i:Nat):Int)=some (.inr (g (j:Int)))):=by
  intro m
  induction m with
  | zero=>
   intro i fuel hi hf
   obtain ⟨fuel,rfl⟩:∃ k,fuel=k + 1:=⟨fuel - 1,by omega⟩
   refine .inl ⟨by rw [List.drop_eq_nil_of_le (by omega)];rfl,?_⟩
   have:i=l.length:=by omega
   subst this
   simp only [iter,he,Option.bind_some]
  | succ m ih=>
   intro i fuel hi hf
   obtain ⟨fuel,rfl⟩:∃ k,fuel=k + 1:=⟨fuel - 1,by omega⟩
   have hil:i < l.length:=by omega
   have hd:l.drop i=l[i] :: l.drop (i + 1):=by rw [List.drop_eq_getElem_cons hil]
   have h1:=hs i hil
   by_cases hp:p l[i]=true
   ·rw [hp,cond_true] at h1
    have hi1:iter f (fuel + 1) ((i:Nat):Int)=iter f fuel ((i + 1:Nat):Int):=it_again h1
    rw [hi1,hd,List.all_cons,hp,Bool.true_and]
    exact ih (i + 1) fuel (by omega) (by omega)
   ·rw [Bool.not_eq_true] at hp;rw [hp,cond_false] at h1
    refine .inr ⟨by rw [hd,List.all_cons];simp [hp],i,?_⟩
    exact it_out h1
 simpa using key l.length 0 fuel (by omega) hf
theorem cat_loop {σ ρ α β:Type} {f:σ->Option (σ ⊕ ρ)} (c:Int->List β->σ) {l:List α} {g:α->List β} {fin:List β->ρ} (B:Nat)
  (hs:∀ i (h:i < l.length) acc,acc.length + (g l[i]).length≤B->f (c ((i:Nat):Int) acc)=some (.inl (c ((i + 1:Nat):Int) (acc ++ g l[i]))))
  (he:∀ acc,f (c (l.length:Int) acc)=some (.inr (fin acc))) {fuel:Nat} (hf:l.length < fuel) {acc:List β} (hB:acc.length + (l.flatMap g).length≤B) :
  iter f fuel (c 0 acc)=some (fin (acc ++ l.flatMap g)):=by
 have key:∀ (m i fuel:Nat) (acc:List β),i + m=l.length->m < fuel->acc.length + ((l.drop i).flatMap g).length≤B->iter f fuel (c ((i:Nat):Int) acc)=some (fin (acc ++ (l.drop i).flatMap g)):=by
  intro m
  induction m with
  | zero=>
   intro i fuel acc hi hf hB
   obtain ⟨fuel,rfl⟩:∃ k,fuel=k + 1:=⟨fuel - 1,by omega⟩
   have:i=l.length:=by omega
   subst this
   rw [List.drop_length]
   simpa using it_out (he acc)
  | succ m ih=>
   intro i fuel acc hi hf hB
   obtain ⟨fuel,rfl⟩:∃ k,fuel=k + 1:=⟨fuel - 1,by omega⟩
   have hil:i < l.length:=by omega
   have hd:l.drop i=l[i] :: l.drop (i + 1):=by rw [List.drop_eq_getElem_cons hil]
   rw [hd,List.flatMap_cons] at hB ⊢
   rw [List.length_append] at hB
   rw [it_again (hs i hil acc (by omega)),← List.append_assoc]
   exact ih (i + 1) fuel _ (by omega) (by omega) (by rw [List.length_append];omega)
 simpa using key l.length 0 fuel acc (by omega) hf (by simpa using hB)
theorem t110 (F:Nat) (n a b:Int):T110 F n a b=some (wi n a b):=by simp only [T110,T110c,wi];cases decide (a≤n)<;>rfl
theorem t118 (F:Nat) (n a b:Int):T118 F n a b=some (wi n a b):=by simp only [T118,T118c,wi];cases decide (a≤n)<;>rfl
theorem t155 (F:Nat) (r:Rf):T155 F r.1 r.2.1 r.2.2.1=some (vR r):=by
 simp only [T155,T155c,t110,Option.bind_some,leq32,vR]
 cases decide (r.1.length=32)<;>cases wi r.2.1 0 1099511627776<;>cases wi r.2.2.1 0 32768<;>rfl
theorem t119 (F:Nat) (r:Rf):T119 F r.1 r.2.1 r.2.2.1=some (vR r):=by
 simp only [T119,T119c,t118,Option.bind_some,leq32,vR]
 cases decide (r.1.length=32)<;>cases wi r.2.1 0 1099511627776<;>cases wi r.2.2.1 0 32768<;>rfl
theorem t113 {F:Nat} {l:List Rf} (hF:5000 < F) (hl:l.length≤4096):T113 F l=some (l.all vR):=by
 have h:=all_loop (f:=fun s=>L195_2 F l (l.length:Int) s) (l:=l) (p:=vR) (g:=fun i=>i) (by omega)
  (fun i h=>by
   have h1:((i:Nat):Int) < (l.length:Int):=by omega
   simp only [L195_2,L195_2c,h1,decide_true,cond_true,ixG h,Option.bind_some,T157,T157c,t155,w64s (show i < 1000000000 by omega)]
   cases vR l[i]<;>rfl)
  (by
   have h1:¬ ((l.length:Int) < (l.length:Int)):=by omega
   simp only [L195_2,L195_2c,h1,decide_false,cond_false]) (fuel:=F) (by omega)
 rcases h with ⟨h1,h2⟩ | ⟨h1,i,h2⟩
 ·simp only [T113,T113c,T156,T156c,T195,T195c,h2,Option.bind_some,elimS,h1];rfl
 ·have h3:(0:Int)≤(i:Int):=by omega
  simp only [T113,T113c,T156,T156c,T195,T195c,h2,Option.bind_some,elimS,h1,h3,decide_true];rfl
theorem t111 (F:Nat) (s:Sn):T111 F s.1 s.2.1 s.2.2.1 s.2.2.2.1.1 s.2.2.2.1.2.1 s.2.2.2.1.2.2.1 s.2.2.2.2.1 s.2.2.2.2.2.1 s.2.2.2.2.2.2.1=some (vSn s):=by
 simp only [T111,T111c,t110,t155 F s.2.2.2.1,Option.bind_some,leq32,leq0,vSn]
 generalize wi s.1 0 11=b1
 generalize wi s.2.1 1 1099511627776=b2
 generalize wi s.2.2.1 0 999999=b3
 generalize vR s.2.2.2.1=b4
 generalize wi s.2.2.2.2.1 0 1099511627776=b5
 generalize wi s.2.2.2.2.2.1 0 1099511627776=b6
 generalize decide (s.2.2.2.2.2.2.1.length=0)=b7
 generalize decide (s.2.2.2.2.2.2.1.length=32)=b8
 cases b1<;>cases b2<;>cases b3<;>cases b4<;>cases b5<;>cases b6<;>cases b7<;>rfl
theorem t112 {F:Nat} (hF:5000 < F) (s:Sp):T112 F s.1 s.2.1 s.2.2.1 s.2.2.2.1 s.2.2.2.2.1 s.2.2.2.2.2.1=some (vSp s):=by
 have e8:decide ((s.2.2.2.2.2.1.length:Int)≤8)=decide (s.2.2.2.2.2.1.length≤8):=decide_eq_decide.2 (by omega)
 simp only [T112,T112c,t110,Option.bind_some,lne32,vSp,e8]
 by_cases h:s.2.2.2.2.2.1.length≤8
 ·rw [t113 hF (by omega)]
  generalize wi s.2.1 0 1000=b1
  generalize wi s.2.2.1 1 65536=b2
  generalize wi s.2.2.2.1 1 8=b3
  generalize wi s.2.2.2.2.1 1 16=b4
  generalize decide (s.1.length=32)=b5
  generalize decide (s.2.2.2.2.2.1.length≤8)=b6
  cases b1<;>cases b2<;>cases b3<;>cases b4<;>cases b5<;>cases b6<;>rfl
 ·simp only [h,decide_false]
  generalize wi s.2.1 0 1000=b1
  generalize wi s.2.2.1 1 65536=b2
  generalize wi s.2.2.2.1 1 8=b3
  generalize wi s.2.2.2.2.1 1 16=b4
  generalize decide (s.1.length=32)=b5
  cases b1<;>cases b2<;>cases b3<;>cases b4<;>cases b5<;>rfl
theorem t43 {F:Nat} (hF:5000 < F) (x:Ix):T43 F x.1 x.2.1 x.2.2.1 x.2.2.2.1 x.2.2.2.2.1 x.2.2.2.2.2=some (vX x):=by
 obtain ⟨a,b,v,sn,sp,gs⟩:=x
 simp only [T43,T43c,t110,Option.bind_some,vX]
 have e12:decide ((12:Int) < (v.length:Int)) = !decide (v.length≤12):=lgt (k:=12)
 have e1:decide ((4096:Int) < (sn.length:Int)) = !decide (sn.length≤4096):=lgt (k:=4096)
 have e2:decide ((4096:Int) < (sp.length:Int)) = !decide (sp.length≤4096):=lgt (k:=4096)
 have e3:decide ((4096:Int) < (gs.length:Int)) = !decide (gs.length≤4096):=lgt (k:=4096)
 simp only [e12,e1,e2,e3]
 cases wi a 0 1000
 ·rfl
 cases wi b 0 1000
 ·rfl
 by_cases h1:v.length≤12
 rotate_left
 ·simp only [h1,decide_false];rfl
 by_cases h2:sn.length≤4096
 rotate_left
 ·simp only [h1,h2,decide_false,decide_true];rfl
 by_cases h3:sp.length≤4096
 rotate_left
 ·simp only [h1,h2,h3,decide_false,decide_true];rfl
 by_cases h4:gs.length≤4096
 rotate_left
 ·simp only [h1,h2,h3,h4,decide_false,decide_true];rfl
 simp only [h1,h2,h3,h4,decide_true,Bool.not_true,cond_false,Bool.true_and,t113 hF h4,Option.bind_some]
 have l4:=all_loop (f:=fun s=>L43_4 F v (v.length:Int) s) (l:=v) (p:=fun n=>wi n 0 1099511627776) (g:=fun _=>false) (by omega)
  (fun i h=>by
   have h1:((i:Nat):Int) < (v.length:Int):=by omega
   simp only [L43_4,L43_4c,h1,decide_true,cond_true,ixG h,Option.bind_some,t110,w64s (show i < 1000000000 by omega)]
   cases wi v[i] 0 1099511627776<;>rfl)
  (by
   have h1:¬ ((v.length:Int) < (v.length:Int)):=by omega
   simp only [L43_4,L43_4c,h1,decide_false,cond_false]) (fuel:=F) (by omega)
 have l5:=all_loop (f:=fun s=>L43_5 F sn (sn.length:Int) s) (l:=sn) (p:=vSn) (g:=fun _=>false) (by omega)
  (fun i h=>by
   have h1:((i:Nat):Int) < (sn.length:Int):=by omega
   simp only [L43_5,L43_5c,h1,decide_true,cond_true,ixG h,Option.bind_some,t111,w64s (show i < 1000000000 by omega)]
   cases vSn sn[i]<;>rfl)
  (by
   have h1:¬ ((sn.length:Int) < (sn.length:Int)):=by omega
   simp only [L43_5,L43_5c,h1,decide_false,cond_false]) (fuel:=F) (by omega)
 have l6:=all_loop (f:=fun s=>L43_6 F sp (sp.length:Int) s) (l:=sp) (p:=vSp) (g:=fun _=>false) (by omega)
  (fun i h=>by
   have h1:((i:Nat):Int) < (sp.length:Int):=by omega
   simp only [L43_6,L43_6c,h1,decide_true,cond_true,ixG h,Option.bind_some,t112 hF,w64s (show i < 1000000000 by omega)]
   cases vSp sp[i]<;>rfl)
  (by
   have h1:¬ ((sp.length:Int) < (sp.length:Int)):=by omega
   simp only [L43_6,L43_6c,h1,decide_false,cond_false]) (fuel:=F) (by omega)
 rcases l4 with ⟨a1,a2⟩ | ⟨a1,i,a2⟩
 ·rcases l5 with ⟨b1,b2⟩ | ⟨b1,i,b2⟩
  ·rcases l6 with ⟨c1,c2⟩ | ⟨c1,i,c2⟩
   ·simp only [a1,a2,b1,b2,c1,c2,Option.bind_some,elimS,Bool.true_and]
   ·simp only [a1,a2,b1,b2,c1,c2,Option.bind_some,elimS,Bool.true_and,Bool.false_and]
  ·simp only [a1,a2,b1,b2,Option.bind_some,elimS,Bool.true_and,Bool.false_and]
 ·simp only [a1,a2,Option.bind_some,elimS,Bool.true_and,Bool.false_and]
theorem lall {F:Nat} {l:List Rf} (hF:5000 < F) (hl:l.length≤4096) {f:Int->Option (Int ⊕ (Unit ⊕ Bool))} (hf:f=(fun s=>L60_12 F l (l.length:Int) s)∨f=(fun s=>L60_11 F l (l.length:Int) s)):iter f F (0:Int)=some (bif l.all vR then .inl () else .inr false):=by
 have h:=all_loop (f:=f) (l:=l) (p:=vR) (g:=fun _=>false) (by omega)
  (fun i h=>by
   have h1:((i:Nat):Int) < (l.length:Int):=by omega
   rcases hf with rfl | rfl
   ·simp only [L60_12,L60_12c,h1,decide_true,cond_true,ixG h,Option.bind_some,t119,w64s (show i < 1000000000 by omega)]
    cases vR l[i]<;>rfl
   ·simp only [L60_11,L60_11c,h1,decide_true,cond_true,ixG h,Option.bind_some,t119,w64s (show i < 1000000000 by omega)]
    cases vR l[i]<;>rfl)
  (by
   have h1:¬ ((l.length:Int) < (l.length:Int)):=by omega
   rcases hf with rfl | rfl
   ·simp only [L60_12,L60_12c,h1,decide_false,cond_false]
   ·simp only [L60_11,L60_11c,h1,decide_false,cond_false]) (fuel:=F) (by omega)
 rcases h with ⟨h1,h2⟩ | ⟨h1,i,h2⟩
 ·rw [h2,h1];rfl
 ·rw [h2,h1];rfl
theorem t60 {F:Nat} (hF:5000 < F) (x:Ix):T60 F x.1 x.2.1 x.2.2.1 x.2.2.2.1 x.2.2.2.2.1 x.2.2.2.2.2=some (vX x):=by
 obtain ⟨a,b,v,sn,sp,gs⟩:=x
 simp only [T60,T60c,t118,Option.bind_some,vX]
 have e12:decide ((12:Int) < (v.length:Int)) = !decide (v.length≤12):=lgt (k:=12)
 have e1:decide ((4096:Int) < (sn.length:Int)) = !decide (sn.length≤4096):=lgt (k:=4096)
 have e2:decide ((4096:Int) < (sp.length:Int)) = !decide (sp.length≤4096):=lgt (k:=4096)
 have e3:decide ((4096:Int) < (gs.length:Int)) = !decide (gs.length≤4096):=lgt (k:=4096)
 simp only [e12,e1,e2,e3]
 cases wi a 0 1000
 ·rfl
 cases wi b 0 1000
 ·rfl
 by_cases h1:v.length≤12
 rotate_left
 ·simp only [h1,decide_false];rfl
 by_cases h2:sn.length≤4096
 rotate_left
 ·simp only [h1,h2,decide_false,decide_true];rfl
 by_cases h3:sp.length≤4096
 rotate_left
 ·simp only [h1,h2,h3,decide_false,decide_true];rfl
 by_cases h4:gs.length≤4096
 rotate_left
 ·simp only [h1,h2,h3,h4,decide_false,decide_true];rfl
 simp only [h1,h2,h3,h4,decide_true,Bool.not_true,cond_false,Bool.true_and,Option.bind_some]
 have l4:=all_loop (f:=fun s=>L60_7 F v (v.length:Int) s) (l:=v) (p:=fun n=>wi n 0 1099511627776) (g:=fun _=>false) (by omega)
  (fun i h=>by
   have h1:((i:Nat):Int) < (v.length:Int):=by omega
   simp only [L60_7,L60_7c,h1,decide_true,cond_true,ixG h,Option.bind_some,t118,w64s (show i < 1000000000 by omega)]
   cases wi v[i] 0 1099511627776<;>rfl)
  (by
   have h1:¬ ((v.length:Int) < (v.length:Int)):=by omega
   simp only [L60_7,L60_7c,h1,decide_false,cond_false]) (fuel:=F) (by omega)
 have l5:=all_loop (f:=fun s=>L60_8 F sn (sn.length:Int) s) (l:=sn) (p:=vSn) (g:=fun _=>false) (by omega)
  (fun i h=>by
   have h1:((i:Nat):Int) < (sn.length:Int):=by omega
   have h9:L60_9 F sn ((i:Nat):Int)=some (bif vSn sn[i] then .inl ((i + 1:Nat):Int) else .inr false):=by
    simp only [L60_9,L60_9c,ixG h,Option.bind_some,t118,t119,lne32,lne0,w64s (show i < 1000000000 by omega),vSn]
    generalize sn[i]=s
    generalize wi s.1 0 11=b1
    generalize wi s.2.1 1 1099511627776=b2
    generalize wi s.2.2.1 0 999999=b3
    generalize vR s.2.2.2.1=b4
    generalize wi s.2.2.2.2.1 0 1099511627776=b5
    generalize wi s.2.2.2.2.2.1 0 1099511627776=b6
    generalize decide (s.2.2.2.2.2.2.1.length=0)=b7
    generalize decide (s.2.2.2.2.2.2.1.length=32)=b8
    cases b1<;>cases b2<;>cases b3<;>cases b4<;>cases b5<;>cases b6<;>cases b7<;>cases b8<;>rfl
   simp only [L60_8,L60_8c,h1,decide_true,cond_true,h9,Option.bind_some]
   cases vSn sn[i]<;>rfl)
  (by
   have h1:¬ ((sn.length:Int) < (sn.length:Int)):=by omega
   simp only [L60_8,L60_8c,h1,decide_false,cond_false]) (fuel:=F) (by omega)
 have l6:=all_loop (f:=fun s=>L60_10 F sp (sp.length:Int) s) (l:=sp) (p:=vSp) (g:=fun _=>false) (by omega)
  (fun i h=>by
   have h1:((i:Nat):Int) < (sp.length:Int):=by omega
   have e8:decide ((8:Int) < ((sp[i]).2.2.2.2.2.1.length:Int)) = !decide ((sp[i]).2.2.2.2.2.1.length≤8):=lgt (k:=8)
   simp only [L60_10,L60_10c,h1,decide_true,cond_true,ixG h,Option.bind_some,t118,lne32,e8,w64s (show i < 1000000000 by omega),vSp]
   by_cases h8:(sp[i]).2.2.2.2.2.1.length≤8
   ·have hl:=lall (l:=(sp[i]).2.2.2.2.2.1) hF (by omega) (.inr rfl)
    simp only [hl,Option.bind_some]
    generalize (sp[i]).2.2.2.2.2.1.all vR=b7
    generalize wi (sp[i]).2.1 0 1000=b1
    generalize wi (sp[i]).2.2.1 1 65536=b2
    generalize wi (sp[i]).2.2.2.1 1 8=b3
    generalize wi (sp[i]).2.2.2.2.1 1 16=b4
    generalize decide ((sp[i]).1.length=32)=b5
    generalize decide ((sp[i]).2.2.2.2.2.1.length≤8)=b6
    cases b1<;>cases b2<;>cases b3<;>cases b4<;>cases b5<;>cases b6<;>cases b7<;>rfl
   ·simp only [h8,decide_false]
    generalize wi (sp[i]).2.1 0 1000=b1
    generalize wi (sp[i]).2.2.1 1 65536=b2
    generalize wi (sp[i]).2.2.2.1 1 8=b3
    generalize wi (sp[i]).2.2.2.2.1 1 16=b4
    generalize decide ((sp[i]).1.length=32)=b5
    cases b1<;>cases b2<;>cases b3<;>cases b4<;>cases b5<;>rfl)
  (by
   have h1:¬ ((sp.length:Int) < (sp.length:Int)):=by omega
   simp only [L60_10,L60_10c,h1,decide_false,cond_false]) (fuel:=F) (by omega)
 have l7:=lall (l:=gs) hF h4 (.inl rfl)
 rcases l4 with ⟨a1,a2⟩ | ⟨a1,i,a2⟩
 ·rcases l5 with ⟨b1,b2⟩ | ⟨b1,i,b2⟩
  ·rcases l6 with ⟨c1,c2⟩ | ⟨c1,i,c2⟩
   ·simp only [a1,a2,b1,b2,c1,c2,l7,Option.bind_some,elimS,Bool.true_and]
    cases gs.all vR<;>rfl
   ·simp only [a1,a2,b1,b2,c1,c2,Option.bind_some,elimS,Bool.true_and,Bool.false_and]
  ·simp only [a1,a2,b1,b2,Option.bind_some,elimS,Bool.true_and,Bool.false_and]
 ·simp only [a1,a2,Option.bind_some,elimS,Bool.true_and,Bool.false_and]
def In64 (n:Int):Prop:=0≤n∧n≤1099511627776
theorem zig_in {n:Int} (h:In64 n):zig n=2 * n.toNat:=by unfold zig;unfold In64 at h;split<;>omega
theorem ofInt_in {n:Int} (h:In64 n):(UInt64.ofInt n).toNat=n.toNat:=by
 unfold In64 at h
 unfold UInt64.ofInt
 rw [UInt64.toNat_ofNat'];omega
theorem t120 (F:Nat) {n:Int} (h:In64 n):∃ x,T120 F n=some x∧x.toNat=zig n:=by
 have hn:0≤n:=h.1
 refine ⟨(UInt64.ofNat 2) * (UInt64.ofInt n),by simp only [T120,T120c,hn,decide_true,cond_true],?_⟩
 rw [UInt64.toNat_mul,ofInt_in h,zig_in h]
 unfold In64 at h
 show 2 * n.toNat % 2 ^ 64=_
 rw [Nat.mod_eq_of_lt (by omega)]
theorem t100 {F:Nat} (hF:5000 < F) (x:UInt64):T100 F x=some (enc x.toNat):=t45' (by omega) x
theorem ofInt_nat' {n:Nat} (h:n < 2 ^ 64):(UInt64.ofInt ((n:Nat):Int)).toNat=n:=by
 unfold UInt64.ofInt
 rw [UInt64.toNat_ofNat'];omega
abbrev Val:=Int×UInt64×Int×Bool×List UInt8×Int×Unit
def vI (n:Int):Val:=(2,0,n,false,[],0,())
def vC (n:Nat):Val:=(7,0,(n:Int),false,[],0,())
def vB (b:Bool):Val:=(3,0,0,b,[],0,())
def vT (s:Bs):Val:=(5,0,0,false,s,0,())
def vS (s:Bs):Val:=(6,0,0,false,s,0,())
def vRf (r:Rf):List Val:=[vS r.1,vI r.2.1,vI r.2.2.1]
def vLs {α:Type} (g:α->List Val) (l:List α):List Val:=vC l.length :: l.flatMap g
def vSnap (s:Sn):List Val:=[vI s.1,vI s.2.1,vI s.2.2.1] ++ (vRf s.2.2.2.1 ++ [vI s.2.2.2.2.1,vI s.2.2.2.2.2.1,vT s.2.2.2.2.2.2.1,vB s.2.2.2.2.2.2.2.1])
def vStr (s:Sp):List Val:=[vS s.1,vI s.2.1,vI s.2.2.1,vI s.2.2.2.1,vI s.2.2.2.2.1] ++ vLs vRf s.2.2.2.2.2.1
def vIx (x:Ix):List Val:=[vI x.1,vI x.2.1] ++ (vLs (fun n=>[vI n]) x.2.2.1 ++ (vLs vSnap x.2.2.2.1 ++ (vLs vStr x.2.2.2.2.1 ++ vLs vRf x.2.2.2.2.2)))
def Good (v:Val):Prop:=(∃ n,In64 n∧v=vI n)∨(∃ n:Nat,n≤1000000∧v=vC n)∨(∃ b,v=vB b)∨(∃ s,v=vT s)∨(∃ s,s.length=32∧v=vS s)
def eV (v:Val):Bs:=bif v.1 == 2 then eI v.2.2.1 else bif v.1 == 7 then enc v.2.2.1.toNat else bif v.1 == 3 then eB v.2.2.2.1 else bif v.1 == 5 then eT v.2.2.2.2.1 else v.2.2.2.2.1
theorem eV_I (n:Int):eV (vI n)=eI n:=rfl
theorem eV_C (n:Nat):eV (vC n)=enc n:=rfl
theorem eV_B (b:Bool):eV (vB b)=eB b:=rfl
theorem eV_T (s:Bs):eV (vT s)=eT s:=rfl
theorem eV_S (s:Bs):eV (vS s)=s:=rfl
theorem enc_pos (n:Nat):1≤(enc n).length:=(encN_len 9 n).2
theorem eV_pos {v:Val} (h:Good v):1≤(eV v).length:=by
 rcases h with ⟨n,h,rfl⟩ | ⟨n,h,rfl⟩ | ⟨b,rfl⟩ | ⟨s,rfl⟩ | ⟨s,h,rfl⟩
 ·exact enc_pos _
 ·exact enc_pos _
 ·simp [eV_B,eB]
 ·rw [eV_T,eT,List.length_append];have:=enc_pos s.length;omega
 ·rw [eV_S];omega
theorem eV_all:∀ {l:List Val},(∀ v ∈ l,Good v)->l.length≤(l.flatMap eV).length:=by
 intro l
 induction l with
 | nil=>intro _;simp
 | cons v l ih=>
  intro h
  have h1:=eV_pos (h v (by simp))
  have h2:=ih fun w hw=>h w (by simp [hw])
  simp only [List.flatMap_cons,List.length_append,List.length_cons];omega
theorem step65 {F:Nat} (hF:5000 < F) {l:List Val} {i:Nat} (h:i < l.length) (hl:l.length < 1000000) (hg:Good l[i]) {acc:List UInt8} (hB:acc.length + (eV l[i]).length≤900000) :
  L65_3 F l ((i:Nat):Int) acc=some (.inl (((i + 1:Nat):Int),acc ++ eV l[i])):=by
 have h1:((i:Nat):Int) < (l.length:Int):=by omega
 have hw:=w64s (show i < 1000000000 by omega)
 have hx:=ixG h
 generalize hv:l[i]=v at *
 rcases hg with ⟨n,hn,rfl⟩ | ⟨n,hn,rfl⟩ | ⟨b,rfl⟩ | ⟨s,rfl⟩ | ⟨s,hn,rfl⟩
 ·obtain ⟨x,e1,e2⟩:=t120 F hn
  rw [eV_I] at hB ⊢
  have hg:=gapp_ok (xs:=acc) (ys:=enc x.toNat) (by rw [e2];unfold eI at hB;omega)
  have c1:((2:Int) == 1)=false:=rfl
  have c2:((2:Int) == 2)=true:=rfl
  simp only [L65_3,L65_3c,h1,decide_true,cond_true,hx,Option.bind_some,vI,c1,c2,cond_false,e1,t100 hF,hg,hw]
  rw [e2];rfl
 ·rw [eV_C] at hB ⊢
  have hn0:¬ ((n:Nat):Int) < 0:=by omega
  have hg:=gapp_ok (xs:=acc) (ys:=enc n) (by omega)
  have c1:((7:Int) == 1)=false:=rfl
  have c2:((7:Int) == 2)=false:=rfl
  have c3:((7:Int) == 3)=false:=rfl
  have c4:((7:Int) == 4)=false:=rfl
  have c5:((7:Int) == 5)=false:=rfl
  have c6:((7:Int) == 6)=false:=rfl
  have c7:((7:Int) == 7)=true:=rfl
  simp only [L65_3,L65_3c,h1,decide_true,cond_true,hx,Option.bind_some,vC,c1,c2,c3,c4,c5,c6,c7,cond_false,L65_4,L65_4c,hn0,decide_false,t100 hF,ofInt_nat' (show n < 2 ^ 64 by omega),hg,hw]
 ·rw [eV_B] at hB ⊢
  have c1:((3:Int) == 1)=false:=rfl
  have c2:((3:Int) == 2)=false:=rfl
  have c3:((3:Int) == 3)=true:=rfl
  have hl1:(eB b).length=1:=by simp [eB]
  have g0:=gapp_ok (xs:=acc) (ys:=([(UInt8.ofNat 1)]:List UInt8)) (by simp;omega)
  have g1:=gapp_ok (xs:=acc) (ys:=([(UInt8.ofNat 0)]:List UInt8)) (by simp;omega)
  cases b
  ·simp only [L65_3,L65_3c,h1,decide_true,cond_true,hx,Option.bind_some,vB,c1,c2,c3,cond_false,g1,hw];rfl
  ·simp only [L65_3,L65_3c,h1,decide_true,cond_true,hx,Option.bind_some,vB,c1,c2,c3,cond_false,g0,hw];rfl
 ·rw [eV_T] at hB ⊢
  simp only [eT,List.length_append] at hB
  have c1:((5:Int) == 1)=false:=rfl
  have c2:((5:Int) == 2)=false:=rfl
  have c3:((5:Int) == 3)=false:=rfl
  have c4:((5:Int) == 4)=false:=rfl
  have c5:((5:Int) == 5)=true:=rfl
  have g0:=gapp_ok (xs:=acc) (ys:=enc s.length) (by omega)
  have g1:=gapp_ok (xs:=acc ++ enc s.length) (ys:=s) (by simp;omega)
  simp only [L65_3,L65_3c,h1,decide_true,cond_true,hx,Option.bind_some,vT,c1,c2,c3,c4,c5,cond_false,L65_4,L65_4c,t100 hF,ofInt_nat' (show s.length < 2 ^ 64 by omega),g0,g1,hw,eT,List.append_assoc]
 ·rw [eV_S] at hB ⊢
  have c1:((6:Int) == 1)=false:=rfl
  have c2:((6:Int) == 2)=false:=rfl
  have c3:((6:Int) == 3)=false:=rfl
  have c4:((6:Int) == 4)=false:=rfl
  have c5:((6:Int) == 5)=false:=rfl
  have c6:((6:Int) == 6)=true:=rfl
  have g0:=gapp_ok (xs:=acc) (ys:=s) (by omega)
  simp only [L65_3,L65_3c,h1,decide_true,cond_true,hx,Option.bind_some,vS,c1,c2,c3,c4,c5,c6,cond_false,L65_4,L65_4c,lne32,decide_eq_true hn,Bool.not_true,g0,hw]
theorem t65 {F:Nat} (hF:5000 < F) {l:List Val} (hg:∀ v ∈ l,Good v) (hB:(l.flatMap eV).length≤900000) (hf:(l.flatMap eV).length < F):T65 F l=some (0,l.flatMap eV):=by
 have hn:=eV_all hg
 have:=cat_loop (f:=fun s:Int×List UInt8=>L65_3 F l s.1 s.2) (fun i a=>(i,a)) (l:=l) (g:=eV) (fin:=fun a=>.inl a) 900000
  (fun i h acc hb=>step65 hF h (by omega) (hg _ (List.getElem_mem h)) hb)
  (fun acc=>by
   have h1:¬ ((l.length:Int) < (l.length:Int)):=by omega
   simp only [L65_3,L65_3c,h1,decide_false,cond_false]) (fuel:=F) (by omega) (acc:=[]) (by simpa using hB)
 have q1:¬ ((1048576:Int) < ((l.flatMap eV).length:Int)):=by omega
 simp only [T65,T65c,this,Option.bind_some,elimS,List.nil_append,q1,decide_false,cond_false]
theorem t63 (F:Nat) (r:Rf):T63 F r.1 r.2.1 r.2.2.1=some (vRf r):=rfl
theorem eRf (r:Rf):(vRf r).flatMap eV=eR r:=by simp [vRf,eV_S,eV_I,eR]
theorem eLs {α:Type} {g:α->List Val} {e:α->Bs} (h:∀ a,(g a).flatMap eV=e a) (l:List α):(vLs g l).flatMap eV=eL e l:=by
 simp only [vLs,List.flatMap_cons,eV_C,eL]
 congr 1
 induction l with
 | nil=>rfl
 | cons a l ih=>simp only [List.flatMap_cons,List.flatMap_append,ih,h]
theorem eSnap (s:Sn):(vSnap s).flatMap eV=eSn s:=by simp [vSnap,List.flatMap_append,eRf,eV_I,eV_T,eV_B,eSn]
theorem eStr (s:Sp):(vStr s).flatMap eV=eSp s:=by simp [vStr,List.flatMap_append,eLs eRf,eV_I,eV_S,eSp]
theorem eIx (x:Ix):(vIx x).flatMap eV=eX x:=by simp [vIx,List.flatMap_append,eLs eRf,eLs eSnap,eLs eStr,eLs (g:=fun n=>[vI n]) (e:=eI) (fun n=>by simp [eV_I]),eV_I,eX]
theorem gRf {r:Rf} (h:vR r=true):∀ v ∈ vRf r,Good v:=by
 simp only [vR,wi,Bool.and_eq_true,decide_eq_true_eq] at h
 intro v hv
 simp only [vRf,List.mem_cons,List.not_mem_nil,or_false] at hv
 rcases hv with rfl | rfl | rfl
 ·exact .inr (.inr (.inr (.inr ⟨_,h.1,rfl⟩)))
 ·exact .inl ⟨_,by unfold In64;omega,rfl⟩
 ·exact .inl ⟨_,by unfold In64;omega,rfl⟩
theorem gLs {α:Type} {g:α->List Val} {l:List α} (hl:l.length≤4096) (h:∀ a ∈ l,∀ v ∈ g a,Good v):∀ v ∈ vLs g l,Good v:=by
 intro v hv
 simp only [vLs,List.mem_cons,List.mem_flatMap] at hv
 rcases hv with rfl | ⟨a,ha,hv⟩
 ·exact .inr (.inl ⟨_,by omega,rfl⟩)
 ·exact h a ha v hv
theorem gSnap {s:Sn} (h:vSn s=true):∀ v ∈ vSnap s,Good v:=by
 simp only [vSn,wi,Bool.and_eq_true,Bool.or_eq_true,decide_eq_true_eq] at h
 obtain ⟨v1,v2,v3,v4,v5,v6,v7⟩:=h
 intro v hv
 simp only [vSnap,List.mem_append,List.mem_cons,List.not_mem_nil,or_false] at hv
 rcases hv with (rfl | rfl | rfl) | hv | rfl | rfl | rfl | rfl
 ·exact .inl ⟨_,by unfold In64;omega,rfl⟩
 ·exact .inl ⟨_,by unfold In64;omega,rfl⟩
 ·exact .inl ⟨_,by unfold In64;omega,rfl⟩
 ·exact gRf v4 v hv
 ·exact .inl ⟨_,by unfold In64;omega,rfl⟩
 ·exact .inl ⟨_,by unfold In64;omega,rfl⟩
 ·exact .inr (.inr (.inr (.inl ⟨_,rfl⟩)))
 ·exact .inr (.inr (.inl ⟨_,rfl⟩))
theorem gStr {s:Sp} (h:vSp s=true):∀ v ∈ vStr s,Good v:=by
 simp only [vSp,wi,Bool.and_eq_true,decide_eq_true_eq,List.all_eq_true] at h
 obtain ⟨v1,v2,v3,v4,v5,v6,v7⟩:=h
 intro v hv
 simp only [vStr,List.mem_append,List.mem_cons,List.not_mem_nil,or_false] at hv
 rcases hv with (rfl | rfl | rfl | rfl | rfl) | hv
 ·exact .inr (.inr (.inr (.inr ⟨_,v1,rfl⟩)))
 ·exact .inl ⟨_,by unfold In64;omega,rfl⟩
 ·exact .inl ⟨_,by unfold In64;omega,rfl⟩
 ·exact .inl ⟨_,by unfold In64;omega,rfl⟩
 ·exact .inl ⟨_,by unfold In64;omega,rfl⟩
 ·exact gLs (by omega) (fun r hr=>gRf (v7 r hr)) v hv
theorem gIx {x:Ix} (h:vX x=true):∀ v ∈ vIx x,Good v:=by
 simp only [vX,wi,Bool.and_eq_true,decide_eq_true_eq,List.all_eq_true] at h
 obtain ⟨v1,v2,v3,v4,v5,v6,v7,v8,v9,v10⟩:=h
 intro v hv
 simp only [vIx,List.mem_append,List.mem_cons,List.not_mem_nil,or_false] at hv
 rcases hv with (rfl | rfl) | hv | hv | hv | hv
 ·exact .inl ⟨_,by unfold In64;omega,rfl⟩
 ·exact .inl ⟨_,by unfold In64;omega,rfl⟩
 ·refine gLs (by omega) (fun n hn w hw=>?_) v hv
  have:=v7 n hn
  simp only [List.mem_singleton] at hw
  exact .inl ⟨n,by unfold In64;omega,hw⟩
 ·exact gLs v4 (fun r hr=>gSnap (v8 r hr)) v hv
 ·exact gLs v5 (fun r hr=>gStr (v9 r hr)) v hv
 ·exact gLs v6 (fun r hr=>gRf (v10 r hr)) v hv
theorem t64 {F:Nat} (hF:5000 < F) {rs:List Rf} (hl:rs.length≤4096) (hB:(vLs vRf rs).length≤900000):T64 F rs=some (vLs vRf rs):=by
 have:=cat_loop (f:=fun s:Int×List Val=>L64_2 F rs (rs.length:Int) s.1 s.2) (fun i a=>(i,a)) (l:=rs) (g:=vRf) (fin:=fun a=>a) 900000
  (fun i h acc hb=>by
   have h1:((i:Nat):Int) < (rs.length:Int):=by omega
   simp only [L64_2,L64_2c,h1,decide_true,cond_true,ixG h,Option.bind_some,t63,gapp_ok (show acc.length + (vRf rs[i]).length≤1000000000 by omega),w64s (show i < 1000000000 by omega)])
  (fun acc=>by
   have h1:¬ ((rs.length:Int) < (rs.length:Int)):=by omega
   simp only [L64_2,L64_2c,h1,decide_false,cond_false]) (fuel:=F) (by omega) (acc:=[vC rs.length]) (by simpa [vLs,Nat.add_comm] using hB)
 have this:iter (fun s:Int×List Val=>L64_2 F rs (rs.length:Int) s.1 s.2) F ((0:Int),[((7:Int),(0:UInt64),(rs.length:Int),false,([]:List UInt8),(0:Int),())])=_:=this
 simp only [T64,T64c,T62,T62c,this,Option.bind_some];rfl
theorem t20 {F:Nat} (hF:5000 < F) (x:Ix) (hx:vX x=true->(eX x).length≤900000∧(eX x).length < F):T20 F x.1 x.2.1 x.2.2.1 x.2.2.2.1 x.2.2.2.2.1 x.2.2.2.2.2=some (encR x):=by
 unfold encR
 have h60:=t60 hF x
 cases hv:vX x
 ·simp only [T20,T20c,h60,hv,Option.bind_some,Bool.not_false,cond_true];rfl
 ·obtain ⟨hl,hf⟩:=hx hv
  have hg:=gIx hv
  have hE:=eIx x
  have hn:=eV_all hg
  rw [hE] at hn
  obtain ⟨a,b,c,d,e,f⟩:=x
  have hv0:=hv
  simp only [vX,wi,Bool.and_eq_true,decide_eq_true_eq,List.all_eq_true] at hv
  obtain ⟨v1,v2,v3,v4,v5,v6,v7,v8,v9,v10⟩:=hv
  have hn0:(vIx (a,b,c,d,e,f)).length≤900000:=by omega
  simp only [vIx,vLs,List.length_append,List.length_cons,List.length_nil] at hn0
  have l4:=cat_loop (f:=fun s:Int×List Val=>L20_4 F c (c.length:Int) s.1 s.2) (fun i a=>(i,a)) (l:=c) (g:=fun n=>[vI n]) (fin:=fun a=>a) 900000
   (fun i h acc hb=>by
    have h1:((i:Nat):Int) < (c.length:Int):=by omega
    have hg:gapp acc [((2:Int),(0:UInt64),c[i],false,([]:List UInt8),(0:Int),())]=some (acc ++ [vI c[i]]):=gapp_ok (by simp at hb ⊢;omega)
    simp only [L20_4,L20_4c,h1,decide_true,cond_true,ixG h,Option.bind_some,T61,T61c,hg,w64s (show i < 1000000000 by omega)])
   (fun acc=>by
    have h1:¬ ((c.length:Int) < (c.length:Int)):=by omega
    simp only [L20_4,L20_4c,h1,decide_false,cond_false]) (fuel:=F) (by omega) (acc:=[vI a,vI b,vC c.length]) (by rw [List.length_cons,List.length_cons,List.length_cons,List.length_nil];omega)
  have l5:=cat_loop (f:=fun s:Int×List Val=>L20_5 F d (d.length:Int) s.1 s.2) (fun i a=>(i,a)) (l:=d) (g:=vSnap) (fin:=fun a=>a) 900000
   (fun i h acc hb=>by
    have h1:((i:Nat):Int) < (d.length:Int):=by omega
    have h10:(vSnap d[i]).length=10:=rfl
    rw [h10] at hb
    have g1:gapp acc [((2:Int),(0:UInt64),d[i].1,false,([]:List UInt8),(0:Int),()),((2:Int),(0:UInt64),d[i].2.1,false,([]:List UInt8),(0:Int),()),((2:Int),(0:UInt64),d[i].2.2.1,false,([]:List UInt8),(0:Int),())]=some (acc ++ [vI d[i].1,vI d[i].2.1,vI d[i].2.2.1]):=gapp_ok (by simp;omega)
    have g2:=gapp_ok (xs:=acc ++ [vI d[i].1,vI d[i].2.1,vI d[i].2.2.1]) (ys:=vRf d[i].2.2.2.1) (by simp [vRf];omega)
    have g3:gapp (acc ++ [vI d[i].1,vI d[i].2.1,vI d[i].2.2.1] ++ vRf d[i].2.2.2.1) [((2:Int),(0:UInt64),d[i].2.2.2.2.1,false,([]:List UInt8),(0:Int),()),((2:Int),(0:UInt64),d[i].2.2.2.2.2.1,false,([]:List UInt8),(0:Int),()),((5:Int),(0:UInt64),(0:Int),false,d[i].2.2.2.2.2.2.1,(0:Int),()),((3:Int),(0:UInt64),(0:Int),d[i].2.2.2.2.2.2.2.1,([]:List UInt8),(0:Int),())]=some (acc ++ [vI d[i].1,vI d[i].2.1,vI d[i].2.2.1] ++ vRf d[i].2.2.2.1 ++ [vI d[i].2.2.2.2.1,vI d[i].2.2.2.2.2.1,vT d[i].2.2.2.2.2.2.1,vB d[i].2.2.2.2.2.2.2.1]):=gapp_ok (by simp [vRf];omega)
    simp only [L20_5,L20_5c,h1,decide_true,cond_true,ixG h,Option.bind_some,T61,T61c,g1,t63,g2,g3,w64s (show i < 1000000000 by omega)]
    simp only [vSnap,List.append_assoc])
   (fun acc=>by
    have h1:¬ ((d.length:Int) < (d.length:Int)):=by omega
    simp only [L20_5,L20_5c,h1,decide_false,cond_false]) (fuel:=F) (by omega) (acc:=[vI a,vI b,vC c.length] ++ c.flatMap (fun n=>[vI n]) ++ [vC d.length]) (by rw [List.length_append,List.length_append,List.length_cons,List.length_cons,List.length_cons,List.length_cons,List.length_nil];omega)
  have l6:=cat_loop (f:=fun s:Int×List Val=>L20_6 F e (e.length:Int) s.1 s.2) (fun i a=>(i,a)) (l:=e) (g:=vStr) (fin:=fun a=>a) 900000
   (fun i h acc hb=>by
    have h1:((i:Nat):Int) < (e.length:Int):=by omega
    have hv:=v9 _ (List.getElem_mem h)
    simp only [vSp,wi,Bool.and_eq_true,decide_eq_true_eq] at hv
    simp only [vStr,List.length_append,List.length_cons,List.length_nil] at hb
    have g1:gapp acc [((6:Int),(0:UInt64),(0:Int),false,e[i].1,(0:Int),()),((2:Int),(0:UInt64),e[i].2.1,false,([]:List UInt8),(0:Int),()),((2:Int),(0:UInt64),e[i].2.2.1,false,([]:List UInt8),(0:Int),()),((2:Int),(0:UInt64),e[i].2.2.2.1,false,([]:List UInt8),(0:Int),()),((2:Int),(0:UInt64),e[i].2.2.2.2.1,false,([]:List UInt8),(0:Int),())]=some (acc ++ [vS e[i].1,vI e[i].2.1,vI e[i].2.2.1,vI e[i].2.2.2.1,vI e[i].2.2.2.2.1]):=gapp_ok (by simp;omega)
    have g2:=gapp_ok (xs:=acc ++ [vS e[i].1,vI e[i].2.1,vI e[i].2.2.1,vI e[i].2.2.2.1,vI e[i].2.2.2.2.1]) (ys:=vLs vRf e[i].2.2.2.2.2.1) (by simp;omega)
    simp only [L20_6,L20_6c,h1,decide_true,cond_true,ixG h,Option.bind_some,T61,T61c,g1,t64 hF (show e[i].2.2.2.2.2.1.length≤4096 by omega) (by omega),g2,w64s (show i < 1000000000 by omega),vStr,List.append_assoc])
   (fun acc=>by
    have h1:¬ ((e.length:Int) < (e.length:Int)):=by omega
    simp only [L20_6,L20_6c,h1,decide_false,cond_false]) (fuel:=F) (by omega) (acc:=[vI a,vI b,vC c.length] ++ c.flatMap (fun n=>[vI n]) ++ [vC d.length] ++ d.flatMap vSnap ++ [vC e.length]) (by simp only [List.length_append,List.length_cons,List.length_nil];omega)
  have g1:gapp ([vI a,vI b,vC c.length] ++ c.flatMap (fun n=>[vI n])) [((7:Int),(0:UInt64),(d.length:Int),false,([]:List UInt8),(0:Int),())]=some ([vI a,vI b,vC c.length] ++ c.flatMap (fun n=>[vI n]) ++ [vC d.length]):=gapp_ok (by simp only [List.length_append,List.length_cons,List.length_nil];omega)
  have g2:gapp ([vI a,vI b,vC c.length] ++ c.flatMap (fun n=>[vI n]) ++ [vC d.length] ++ d.flatMap vSnap) [((7:Int),(0:UInt64),(e.length:Int),false,([]:List UInt8),(0:Int),())]=some ([vI a,vI b,vC c.length] ++ c.flatMap (fun n=>[vI n]) ++ [vC d.length] ++ d.flatMap vSnap ++ [vC e.length]):=gapp_ok (by simp only [List.length_append,List.length_cons,List.length_nil];omega)
  have g3:=gapp_ok (xs:=[vI a,vI b,vC c.length] ++ c.flatMap (fun n=>[vI n]) ++ [vC d.length] ++ d.flatMap vSnap ++ [vC e.length] ++ e.flatMap vStr) (ys:=vLs vRf f) (by simp only [vLs,List.length_append,List.length_cons,List.length_nil];omega)
  have hV:[vI a,vI b,vC c.length] ++ c.flatMap (fun n=>[vI n]) ++ [vC d.length] ++ d.flatMap vSnap ++ [vC e.length] ++ e.flatMap vStr ++ vLs vRf f=vIx (a,b,c,d,e,f):=by simp [vIx,vLs]
  rw [hV] at g3
  have h65:=t65 hF hg (by rw [hE];exact hl) (by rw [hE];exact hf)
  rw [hE] at h65
  have q2:¬ ((1048560:Int) < ((eX (a,b,c,d,e,f)).length:Int)):=by omega
  have l4:iter (fun s:Int×List Val=>L20_4 F c (c.length:Int) s.1 s.2) F ((0:Int),[((2:Int),(0:UInt64),a,false,([]:List UInt8),(0:Int),()),((2:Int),(0:UInt64),b,false,([]:List UInt8),(0:Int),()),((7:Int),(0:UInt64),(c.length:Int),false,([]:List UInt8),(0:Int),())])=some ([vI a,vI b,vC c.length] ++ c.flatMap (fun n=>[vI n])):=l4
  simp only [T20,T20c,h60,hv0,Option.bind_some,Bool.not_true,cond_false,T61,T61c,T62,T62c,l4,g1,l5,g2,l6,t64 hF v6 (by simp only [vLs,List.length_cons];omega),g3,h65,bne_self_eq_false,q2,decide_false,if_true]
  rw [if_neg (by omega)]
theorem inbn {n i:Nat} (h:i < n):inb n ((i:Nat):Int)=some i:=by
 unfold inb;rw [if_pos (by omega)];simp only [Int.toNat_natCast]
def At (b:Bs) (s:RS) (o e:Int):Prop:=match s with
 | some r=>e=0∧∃ n:Nat,o=(n:Int)∧n≤b.length∧r=b.drop n
 | none=>e ≠ 0
theorem At.bne {b:Bs} {o e:Int} (h:At b none o e):(e != 0)=true:=by
 have:e ≠ 0:=h
 simp [this]
theorem At.mk {b:Bs} {n k:Nat} (h:n + k≤b.length):At b (some ((b.drop n).drop k)) ((n + k:Nat):Int) 0:=⟨rfl,n + k,rfl,h,by rw [List.drop_drop]⟩
theorem half (x:UInt64):(x / UInt64.ofNat 2).toNat=x.toNat / 2:=by rw [UInt64.toNat_div];rfl
theorem t122 (F:Nat) (x:UInt64):T122 F x=some (uzg x.toNat):=by
 have hx:=x.toNat_lt
 have hm:(x % UInt64.ofNat 2 == UInt64.ofNat 1)=decide (x.toNat % 2=1):=by
  refine decide_eq_decide.2 ⟨fun h=>?_,fun h=>?_⟩
  ·have:=congrArg UInt64.toNat h;rw [UInt64.toNat_mod] at this;exact this
  ·apply UInt64.toNat_inj.1;rw [UInt64.toNat_mod];exact h
 simp only [T122,T122c,hm,half,uzg]
 have e1:w64 ((x.toNat / 2:Nat):Int)=((x.toNat / 2:Nat):Int):=w64_in (by omega) (by omega)
 have e2:w64 (0 - ((x.toNat / 2:Nat):Int))=0 - ((x.toNat / 2:Nat):Int):=w64_in (by omega) (by omega)
 have e3:w64 (0 - ((x.toNat / 2:Nat):Int) - 1)=0 - ((x.toNat / 2:Nat):Int) - 1:=w64_in (by omega) (by omega)
 rw [e1,e2,e3]
 by_cases h:x.toNat % 2=1
 ·rw [decide_eq_true h,cond_true,if_pos h];congr 1;omega
 ·rw [decide_eq_false h,cond_false,if_neg h]
theorem t166 (F:Nat) (x:UInt64):T166 F x=some (uzg x.toNat):=by
 have hx:=x.toNat_lt
 have hm:(x % UInt64.ofNat 2 == UInt64.ofNat 0)=decide (x.toNat % 2=0):=by
  refine decide_eq_decide.2 ⟨fun h=>?_,fun h=>?_⟩
  ·have:=congrArg UInt64.toNat h;rw [UInt64.toNat_mod] at this;exact this
  ·apply UInt64.toNat_inj.1;rw [UInt64.toNat_mod];exact h
 simp only [T166,T166c,hm,half,uzg]
 have e1:w64 ((x.toNat / 2:Nat):Int)=((x.toNat / 2:Nat):Int):=w64_in (by omega) (by omega)
 have e2:w64 (0 - ((x.toNat / 2:Nat):Int))=0 - ((x.toNat / 2:Nat):Int):=w64_in (by omega) (by omega)
 have e3:w64 (0 - ((x.toNat / 2:Nat):Int) - 1)=0 - ((x.toNat / 2:Nat):Int) - 1:=w64_in (by omega) (by omega)
 rw [e1,e2,e3]
 by_cases h:x.toNat % 2=1
 ·rw [decide_eq_false (by omega),cond_false,if_pos h];congr 1;omega
 ·rw [decide_eq_true (by omega),cond_true,if_neg h]
theorem ofNat_to {v:Nat} (h:v < 2 ^ 64):(UInt64.ofNat v).toNat=v:=by rw [UInt64.toNat_ofNat'];omega
theorem kI {F:Nat} (hF:5000 < F) {b:Bs} (hb:b.length < 100000000) {s:RS} {o e:Int} (h:At b s o e) (l:Int):∃ o' l' e',T70 F o l e b=some ((rI s).1,o',l',e')∧At b (rI s).2 o' e':=by
 cases s with
 | none=>
  refine ⟨o,l,e,?_,h⟩
  simp only [T70,T70c,T123,T123c,T161,T161c,h.bne,cond_true,Option.bind_some,t122];rfl
 | some r=>
  obtain ⟨rfl,n,rfl,hn,rfl⟩:=h
  rcases t90 (F:=F) (by omega) b (by omega) hn with ⟨v,k,h1,h2⟩ | ⟨h1,p,h2⟩
  ·have hd:=dec_enc h1
   have hk:n + k≤b.length:=by have:=hd.2.2.2;rw [List.length_drop] at this;omega
   refine ⟨((n + k:Nat):Int),(n:Int),0,?_,?_⟩
   ·simp only [T70,T70c,T123,T123c,T161,T161c,bne_self_eq_false,cond_false,h2,Option.bind_some,T197,T197c,t122,ofNat_to hd.2.2.1,rI,rN,h1]
   ·simp only [rI,rN,h1];exact At.mk hk
  ·refine ⟨(n:Int),(n:Int),3,?_,?_⟩
   ·have c3:((3:Int) != 0)=true:=rfl
    simp only [T70,T70c,T123,T123c,T161,T161c,bne_self_eq_false,cond_false,h2,Option.bind_some,T197,T197c,c3,cond_true,t122,rI,rN,h1];rfl
   ·simp only [rI,rN,h1];show (3:Int) ≠ 0;decide
theorem lim {m:Nat} (hm:m≤2000000) {v:Nat} (hv:v < 2 ^ 64):decide (UInt64.ofInt (if ((m:Nat):Int) < 0 then 0 else ((m:Nat):Int)) < UInt64.ofNat v) = !decide (v≤m):=by
 rw [if_neg (by omega)]
 have:(UInt64.ofInt ((m:Nat):Int) < UInt64.ofNat v) ↔ m < v:=by rw [UInt64.lt_iff_toNat_lt,ofInt_nat' (by omega),ofNat_to hv]
 by_cases h:v≤m
 ·rw [decide_eq_true h,Bool.not_true];exact decide_eq_false (by rw [this];omega)
 ·rw [decide_eq_false h,Bool.not_false];exact decide_eq_true (by rw [this];omega)
theorem t160 {F:Nat} (hF:5000 < F) {b:Bs} (hb:b.length < 100000000) {m:Nat} (hm:m≤2000000) {n:Nat} (hn:n≤b.length) :
  (∃ v k,decS 0 (b.drop n)=some (v,k)∧v≤m∧n + k≤b.length∧T160 F (m:Int) (n:Int) b=some ((v:Int),0,((n + k:Nat):Int))) ∨
  ((∀ v k,decS 0 (b.drop n)=some (v,k)->m < v)∧∃ e p,e ≠ 0∧T160 F (m:Int) (n:Int) b=some (0,e,p)):=by
 rcases t90 (F:=F) (by omega) b (by omega) hn with ⟨v,k,h1,h2⟩ | ⟨h1,p,h2⟩
 ·have hd:=dec_enc h1
  have hk:n + k≤b.length:=by have:=hd.2.2.2;rw [List.length_drop] at this;omega
  by_cases hv:v≤m
  ·refine .inl ⟨v,k,h1,hv,hk,?_⟩
   have e1:w64 ((v:Nat):Int)=((v:Nat):Int):=w64_in (by omega) (by omega)
   simp only [T160,T160c,h2,Option.bind_some,bne_self_eq_false,cond_false,lim hm hd.2.2.1,decide_eq_true hv,Bool.not_true,ofNat_to hd.2.2.1,e1]
  ·refine .inr ⟨fun v' k' h=>by (rw [h1] at h;cases h;omega),2,((n + k:Nat):Int),by decide,?_⟩
   simp only [T160,T160c,h2,Option.bind_some,bne_self_eq_false,cond_false,lim hm hd.2.2.1,decide_eq_false hv,Bool.not_false,cond_true]
 ·refine .inr ⟨fun v' k' h=>by (rw [h1] at h;cases h),3,p,by decide,?_⟩
  have c3:((3:Int) != 0)=true:=rfl
  simp only [T160,T160c,h2,Option.bind_some,c3,cond_true]
theorem kC {F:Nat} (hF:5000 < F) {b:Bs} (hb:b.length < 100000000) {m:Nat} (hm:m≤2000000) {s:RS} {o e:Int} (h:At b s o e) (l:Int):∃ o' l' e',T121 F (m:Int) o l e b=some (((rC m s).1:Int),o',l',e')∧At b (rC m s).2 o' e':=by
 cases s with
 | none=>
  refine ⟨o,l,e,?_,h⟩
  simp only [T121,T121c,T158,T158c,h.bne,cond_true,Option.bind_some];rfl
 | some r=>
  obtain ⟨rfl,n,rfl,hn,rfl⟩:=h
  rcases t160 hF hb hm hn with ⟨v,k,h1,hv,hk,h2⟩ | ⟨h1,e,p,he,h2⟩
  ·refine ⟨((n + k:Nat):Int),(n:Int),0,?_,?_⟩
   ·simp only [T121,T121c,T158,T158c,T159,T159c,bne_self_eq_false,cond_false,h2,Option.bind_some,T196,T196c,rC,h1,if_pos hv]
   ·simp only [rC,h1,if_pos hv];exact At.mk hk
  ·have hr:rC m (some (b.drop n))=(0,none):=by
    cases hd:decS 0 (b.drop n) with
    | none=>simp only [rC,hd]
    | some p=>obtain ⟨v,k⟩:=p;have:=h1 v k hd;simp only [rC,hd];rw [if_neg (by omega)]
   have c3:(e != 0)=true:=by simp [he]
   refine ⟨(n:Int),(n:Int),e,?_,?_⟩
   ·simp only [T121,T121c,T158,T158c,T159,T159c,bne_self_eq_false,cond_false,h2,Option.bind_some,T196,T196c,c3,cond_true,hr];rfl
   ·rw [hr];exact he
theorem t130 {F:Nat} {b:Bs} (hb:b.length < 100000000) {n:Nat} (hn:n≤b.length) (v:Nat) (hv:v < 1000000000) :
  (n + v≤b.length∧T130 F (v:Int) (n:Int) b=some ((n,n + v),0,((n + v:Nat):Int)))∨(¬ n + v≤b.length∧T130 F (v:Int) (n:Int) b=some ((0,0),3,(n:Int))):=by
 have e1:w64 ((b.length:Int) - (n:Int))=(b.length:Int) - (n:Int):=w64_in (by omega) (by omega)
 have e2:w64 ((n:Int) + (v:Int))=((n + v:Nat):Int):=by rw [w64_in (by omega) (by omega)];omega
 by_cases h:n + v≤b.length
 ·refine .inl ⟨h,?_⟩
  have q:¬ ((b.length:Int) - (n:Int) < (v:Int)):=by omega
  have g:gslb b.length (n:Int) ((n + v:Nat):Int)=some (n,n + v):=by unfold gslb;rw [if_pos (by omega),Int.toNat_natCast,Int.toNat_natCast]
  simp only [T130,T130c,e1,q,decide_false,cond_false,e2,g,Option.bind_some]
 ·refine .inr ⟨h,?_⟩
  have q:(b.length:Int) - (n:Int) < (v:Int):=by omega
  simp only [T130,T130c,e1,q,decide_true,cond_true]
theorem drop_take {b:Bs} {n v:Nat}:(b.drop n).take (n + v - n)=(b.drop n).take v:=by rw [Nat.add_sub_cancel_left]
theorem kS {F:Nat} {b:Bs} (hb:b.length < 100000000) {s:RS} {o e:Int} (h:At b s o e) (l:Int):∃ o' l' e',T79 F o l e b=some ((rS s).1,o',l',e')∧At b (rS s).2 o' e':=by
 cases s with
 | none=>
  refine ⟨o,l,e,?_,h⟩
  simp only [T79,T79c,T124,T124c,h.bne,cond_true,Option.bind_some];rfl
 | some r=>
  obtain ⟨rfl,n,rfl,hn,rfl⟩:=h
  rcases t130 (F:=F) hb hn 32 (by omega) with ⟨h1,h2⟩ | ⟨h1,h2⟩
  ·have h2:T130 F 32 (n:Int) b=some ((n,n + 32),0,((n + 32:Nat):Int)):=h2
   have hr:rS (some (b.drop n))=((b.drop n).take 32,some ((b.drop n).drop 32)):=by simp only [rS];rw [if_pos (by rw [List.length_drop];omega)]
   refine ⟨((n + 32:Nat):Int),(n:Int),0,?_,?_⟩
   ·simp only [T79,T79c,T124,T124c,T129,T129c,bne_self_eq_false,cond_false,h2,Option.bind_some,T163,T163c,hr,drop_take]
   ·rw [hr];exact At.mk h1
  ·have h2:T130 F 32 (n:Int) b=some ((0,0),3,(n:Int)):=h2
   have hr:rS (some (b.drop n))=([],none):=by simp only [rS];rw [if_neg (by rw [List.length_drop];omega)]
   have c3:((3:Int) != 0)=true:=rfl
   refine ⟨(n:Int),(n:Int),3,?_,?_⟩
   ·simp only [T79,T79c,T124,T124c,T129,T129c,bne_self_eq_false,cond_false,h2,Option.bind_some,T163,T163c,hr,c3,cond_true]
   ·rw [hr];show (3:Int) ≠ 0;decide
theorem t126 {F:Nat} (hF:5000 < F) {b:Bs} (hb:b.length < 100000000) {m:Nat} (hm:m≤2000000) {n:Nat} (hn:n≤b.length) :
  (∃ j k v,rT m (some (b.drop n))=((b.drop j).take (k - j),some (b.drop k))∧k≤b.length∧T126 F (m:Int) (n:Int) b=some ((j,k),0,(k:Int))∧v=((b.drop j).take (k - j)).length) ∨
  (rT m (some (b.drop n))=([],none)∧∃ e p,e ≠ 0∧T126 F (m:Int) (n:Int) b=some ((0,0),e,p)):=by
 rcases t160 hF hb hm hn with ⟨v,k,h1,hv,hk,h2⟩ | ⟨h1,e,p,he,h2⟩
 ·rcases t130 (F:=F) hb hk v (by omega) with ⟨h3,h4⟩ | ⟨h3,h4⟩
  ·refine .inl ⟨n + k,n + k + v,_,?_,h3,?_,rfl⟩
   ·have hx:v≤m∧v≤((b.drop n).drop k).length:=⟨hv,by rw [List.drop_drop,List.length_drop];omega⟩
    simp only [rT,h1];rw [if_pos hx];simp only [List.drop_drop,Nat.add_sub_cancel_left]
   ·simp only [T126,T126c,h2,Option.bind_some,bne_self_eq_false,cond_false,h4]
  ·refine .inr ⟨?_,3,((n + k:Nat):Int),by decide,?_⟩
   ·have hx:¬ (v≤m∧v≤((b.drop n).drop k).length):=by rw [List.drop_drop,List.length_drop];omega
    simp only [rT,h1];rw [if_neg hx]
   ·simp only [T126,T126c,h2,Option.bind_some,bne_self_eq_false,cond_false,h4]
 ·refine .inr ⟨?_,e,p,he,?_⟩
  ·cases hd:decS 0 (b.drop n) with
   | none=>simp only [rT,hd]
   | some p=>obtain ⟨v,k⟩:=p;have:=h1 v k hd;simp only [rT,hd];rw [if_neg (by omega)]
  ·have c3:(e != 0)=true:=by simp [he]
   simp only [T126,T126c,h2,Option.bind_some,c3,cond_true]
theorem kT {F:Nat} (hF:5000 < F) {b:Bs} (hb:b.length < 100000000) {m:Nat} (hm:m≤2000000) {s:RS} {o e:Int} (h:At b s o e) (l:Int):∃ o' l' e',T74 F (m:Int) o l e b=some ((rT m s).1,o',l',e')∧At b (rT m s).2 o' e':=by
 cases s with
 | none=>
  refine ⟨o,l,e,?_,h⟩
  simp only [T74,T74c,T124x1,T124x1c,h.bne,cond_true,Option.bind_some];rfl
 | some r=>
  obtain ⟨rfl,n,rfl,hn,rfl⟩:=h
  rcases t126 hF hb hm hn with ⟨j,k,v,h1,h2,h3,_⟩ | ⟨h1,e,p,he,h2⟩
  ·refine ⟨(k:Int),(n:Int),0,?_,?_⟩
   ·simp only [T74,T74c,T124x1,T124x1c,T125,T125c,bne_self_eq_false,cond_false,h3,Option.bind_some,T163,T163c,h1]
   ·rw [h1];exact ⟨rfl,k,rfl,h2,rfl⟩
  ·have c3:(e != 0)=true:=by simp [he]
   refine ⟨(n:Int),(n:Int),e,?_,?_⟩
   ·simp only [T74,T74c,T124x1,T124x1c,T125,T125c,bne_self_eq_false,cond_false,h2,Option.bind_some,T163,T163c,c3,cond_true,h1]
   ·rw [h1];exact he
theorem kBy {F:Nat} (hF:5000 < F) {b:Bs} (hb:b.length < 100000000) {m:Nat} (hm:m≤2000000) {s:RS} {o e:Int} (h:At b s o e) (l:Int):∃ o' l' e',T88 F (m:Int) o l e b=some ((rT m s).1,o',l',e')∧At b (rT m s).2 o' e':=by
 cases s with
 | none=>
  refine ⟨o,l,e,?_,h⟩
  simp only [T88,T88c,T132,T132c,h.bne,cond_true,Option.bind_some];rfl
 | some r=>
  obtain ⟨rfl,n,rfl,hn,rfl⟩:=h
  rcases t126 hF hb hm hn with ⟨j,k,v,h1,h2,h3,_⟩ | ⟨h1,e,p,he,h2⟩
  ·have hl:((b.drop j).take (k - j)).length≤100000000:=by rw [List.length_take,List.length_drop];omega
   refine ⟨(k:Int),(n:Int),0,?_,?_⟩
   ·simp only [T88,T88c,T132,T132c,T133,T133c,bne_self_eq_false,cond_false,h3,Option.bind_some,gapp_ok (show ([]:List UInt8).length + ((b.drop j).take (k - j)).length≤1000000000 by simp only [List.length_nil];omega),T167,T167c,h1,List.nil_append,List.drop_zero,Nat.sub_zero,List.take_length]
   ·rw [h1];exact ⟨rfl,k,rfl,h2,rfl⟩
  ·have c3:(e != 0)=true:=by simp [he]
   refine ⟨(n:Int),(n:Int),e,?_,?_⟩
   ·have g:=gapp_ok (xs:=([]:List UInt8)) (ys:=((b.drop 0).take (0 - 0))) (by simp)
    simp only [T88,T88c,T132,T132c,T133,T133c,bne_self_eq_false,cond_false,h2,Option.bind_some,g,T167,T167c,c3,cond_true,h1]
    simp
   ·rw [h1];exact he
theorem kB {F:Nat} {b:Bs} (hb:b.length < 100000000) {s:RS} {o e:Int} (h:At b s o e) (l:Int):∃ o' l' e',T75 F o l e b=some ((rB s).1,o',l',e')∧At b (rB s).2 o' e':=by
 cases s with
 | none=>
  refine ⟨o,l,e,?_,h⟩
  simp only [T75,T75c,T127,T127c,h.bne,cond_true,Option.bind_some];rfl
 | some r=>
  obtain ⟨rfl,n,rfl,hn,rfl⟩:=h
  have c3:((3:Int) != 0)=true:=rfl
  by_cases hl:n=b.length
  ·have hr:rB (some (b.drop n))=(false,none):=by rw [hl,List.drop_length];rfl
   have q:((n:Int) == (b.length:Int))=true:=by rw [hl];exact beq_self_eq_true _
   refine ⟨(n:Int),(n:Int),3,?_,?_⟩
   ·simp only [T75,T75c,T127,T127c,T128,T128c,bne_self_eq_false,cond_false,q,cond_true,Option.bind_some,T164,T164c,c3,hr]
   ·rw [hr];show (3:Int) ≠ 0;decide
  ·have hn':n < b.length:=by omega
   have q:((n:Int) == (b.length:Int))=false:=decide_eq_false (by omega)
   have hd:b.drop n=b[n] :: b.drop (n + 1):=List.drop_eq_getElem_cons hn'
   have hx:(UInt8.ofNat 1 < b[n]) ↔ ¬ (b[n]).toNat≤1:=by rw [UInt8.lt_iff_toNat_lt];show 1 < _ ↔ _;omega
   by_cases hle:(b[n]).toNat≤1
   ·have hr:rB (some (b.drop n))=(decide ((b[n]).toNat=1),some (b.drop (n + 1))):=by rw [hd];simp only [rB,if_pos hle]
    have d1:decide (UInt8.ofNat 1 < b[n])=false:=decide_eq_false (by rw [hx];omega)
    have d2:(b[n] == UInt8.ofNat 1)=decide ((b[n]).toNat=1):=decide_eq_decide.2 ⟨fun h=>congrArg UInt8.toNat h,fun h=>UInt8.toNat_inj.1 h⟩
    refine ⟨((n + 1:Nat):Int),(n:Int),0,?_,?_⟩
    ·simp only [T75,T75c,T127,T127c,T128,T128c,bne_self_eq_false,cond_false,q,inbn hn',List.getElem?_eq_getElem hn',d1,d2,w64s (show n < 1000000000 by omega),Option.bind_some,T164,T164c,hr]
    ·rw [hr];exact ⟨rfl,n + 1,rfl,hn',rfl⟩
   ·have hr:rB (some (b.drop n))=(false,none):=by rw [hd];simp only [rB,if_neg hle]
    have d1:decide (UInt8.ofNat 1 < b[n])=true:=decide_eq_true (by rw [hx];exact hle)
    refine ⟨(n:Int),(n:Int),3,?_,?_⟩
    ·simp only [T75,T75c,T127,T127c,T128,T128c,bne_self_eq_false,cond_false,q,inbn hn',List.getElem?_eq_getElem hn',d1,cond_true,Option.bind_some,T164,T164c,c3,hr]
    ·rw [hr];show (3:Int) ≠ 0;decide
end Go.Proofs.YthikoaamigiceaaGreatDoor
namespace Go.Proofs.YthikoaamigiceaaGreatDoor
open Go.Tw
set_option linter.unusedSimpArgs false
set_option linter.unusedVariables false
theorem rd_loop {α:Type} {b:Bs} {f:Int×Int×Int×Int×List α->Option ((Int×Int×Int×Int×List α) ⊕ (Int×Int×Int×List α))} {rd:RS->α×RS} {c:Nat->Int} {N:Nat} (hN:N≤4096)
  (hs:∀ k,k < N->∀ s o l e acc,At b s o e->acc.length≤5000->∃ o' l' e',f (c (k + 1),o,l,e,acc)=some (.inl (c k,o',l',e',acc ++ [(rd s).1]))∧At b (rd s).2 o' e')
  (he:∀ o l e acc,f (c 0,o,l,e,acc)=some (.inr (o,l,e,acc))) {fuel:Nat} (hf:5000 < fuel) {s:RS} {o e:Int} (h:At b s o e) (l:Int) :
  ∃ o' l' e',iter f fuel (c N,o,l,e,[])=some (o',l',e',(rL rd N s).1)∧At b (rL rd N s).2 o' e':=by
 have key:∀ (m fuel:Nat) (s:RS) (o l e:Int) (acc:List α),m≤N->m < fuel->At b s o e->acc.length + m≤5000->∃ o' l' e',iter f fuel (c m,o,l,e,acc)=some (o',l',e',acc ++ (rL rd m s).1)∧At b (rL rd m s).2 o' e':=by
  intro m
  induction m with
  | zero=>
   intro fuel s o l e acc hm hf h ha
   obtain ⟨fuel,rfl⟩:∃ k,fuel=k + 1:=⟨fuel - 1,by omega⟩
   exact ⟨o,l,e,by rw [it_out (he o l e acc)];simp [rL],h⟩
  | succ m ih=>
   intro fuel s o l e acc hm hf h ha
   obtain ⟨fuel,rfl⟩:∃ k,fuel=k + 1:=⟨fuel - 1,by omega⟩
   obtain ⟨o',l',e',h1,h2⟩:=hs m (by omega) s o l e acc h (by omega)
   obtain ⟨o2,l2,e2,h3,h4⟩:=ih fuel _ o' l' e' (acc ++ [(rd s).1]) (by omega) (by omega) h2 (by simp;omega)
   refine ⟨o2,l2,e2,?_,h4⟩
   rw [it_again h1,h3]
   simp [rL]
 have:=key N fuel s o l e [] (by omega) (by omega) h (by simp;omega)
 simpa using this
variable {F:Nat} {b:Bs} {s:RS} {o e:Int}
theorem k67 (hF:5000 < F) (hb:b.length < 100000000) (h:At b s o e) (l:Int):∃ o' l' e',T67 F o l e b=some (o',l',e',(rI s).1,(rI (rI s).2).1)∧At b (rI (rI s).2).2 o' e':=by
 obtain ⟨o1,l1,e1,a1,h⟩:=kI hF hb h l
 obtain ⟨o2,l2,e2,a2,h⟩:=kI hF hb h l1
 exact ⟨o2,l2,e2,by simp only [T67,T67c,a1,a2,Option.bind_some],h⟩
theorem k67x2 (hF:5000 < F) (hb:b.length < 100000000) (h:At b s o e) (l:Int):∃ o' l' e',T67x2 F o l e b=some (o',l',e',(rI s).1,(rI (rI s).2).1)∧At b (rI (rI s).2).2 o' e':=by
 obtain ⟨o1,l1,e1,a1,h⟩:=kI hF hb h l
 obtain ⟨o2,l2,e2,a2,h⟩:=kI hF hb h l1
 exact ⟨o2,l2,e2,by simp only [T67x2,T67x2c,a1,a2,Option.bind_some],h⟩
theorem k67x3 (hF:5000 < F) (hb:b.length < 100000000) (h:At b s o e) (l:Int):∃ o' l' e',T67x3 F o l e b=some (o',l',e',(rI s).1,(rI (rI s).2).1)∧At b (rI (rI s).2).2 o' e':=by
 obtain ⟨o1,l1,e1,a1,h⟩:=kI hF hb h l
 obtain ⟨o2,l2,e2,a2,h⟩:=kI hF hb h l1
 exact ⟨o2,l2,e2,by simp only [T67x3,T67x3c,a1,a2,Option.bind_some],h⟩
theorem k67x5 (hF:5000 < F) (hb:b.length < 100000000) (h:At b s o e) (l:Int):∃ o' l' e',T67x5 F o l e b=some (o',l',e',(rI s).1,(rI (rI s).2).1)∧At b (rI (rI s).2).2 o' e':=by
 obtain ⟨o1,l1,e1,a1,h⟩:=kI hF hb h l
 obtain ⟨o2,l2,e2,a2,h⟩:=kI hF hb h l1
 exact ⟨o2,l2,e2,by simp only [T67x5,T67x5c,a1,a2,Option.bind_some],h⟩
theorem k67x1 (hF:5000 < F) (hb:b.length < 100000000) (h:At b s o e) (l:Int):∃ o' l' e',T67x1 F o l e b=some (o',l',e',(rI s).1,(rI (rI s).2).1,(rI (rI (rI s).2).2).1)∧At b (rI (rI (rI s).2).2).2 o' e':=by
 obtain ⟨o1,l1,e1,a1,h⟩:=kI hF hb h l
 obtain ⟨o2,l2,e2,a2,h⟩:=kI hF hb h l1
 obtain ⟨o3,l3,e3,a3,h⟩:=kI hF hb h l2
 exact ⟨o3,l3,e3,by simp only [T67x1,T67x1c,a1,a2,a3,Option.bind_some],h⟩
theorem k67x4 (hF:5000 < F) (hb:b.length < 100000000) (h:At b s o e) (l:Int):∃ o' l' e',T67x4 F o l e b=some (o',l',e',(rI s).1,(rI (rI s).2).1,(rI (rI (rI s).2).2).1,(rI (rI (rI (rI s).2).2).2).1)∧At b (rI (rI (rI (rI s).2).2).2).2 o' e':=by
 obtain ⟨o1,l1,e1,a1,h⟩:=kI hF hb h l
 obtain ⟨o2,l2,e2,a2,h⟩:=kI hF hb h l1
 obtain ⟨o3,l3,e3,a3,h⟩:=kI hF hb h l2
 obtain ⟨o4,l4,e4,a4,h⟩:=kI hF hb h l3
 exact ⟨o4,l4,e4,by simp only [T67x4,T67x4c,a1,a2,a3,a4,Option.bind_some],h⟩
theorem k73 (hF:5000 < F) (hb:b.length < 100000000) (h:At b s o e) (l:Int):∃ o' l' e',T73 F o l e b=some (o',l',e',(rR s).1.1,(rR s).1.2.1,(rR s).1.2.2.1)∧At b (rR s).2 o' e':=by
 obtain ⟨o1,l1,e1,a1,h⟩:=kS (F:=F) hb h l
 obtain ⟨o2,l2,e2,a2,h⟩:=k67x2 hF hb h l1
 exact ⟨o2,l2,e2,by simp only [T73,T73c,a1,a2,Option.bind_some,rR],h⟩
theorem k73x1 (hF:5000 < F) (hb:b.length < 100000000) (h:At b s o e) (l:Int):∃ o' l' e',T73x1 F o l e b=some (o',l',e',(rR s).1.1,(rR s).1.2.1,(rR s).1.2.2.1)∧At b (rR s).2 o' e':=by
 obtain ⟨o1,l1,e1,a1,h⟩:=kS (F:=F) hb h l
 obtain ⟨o2,l2,e2,a2,h⟩:=k67x5 hF hb h l1
 exact ⟨o2,l2,e2,by simp only [T73x1,T73x1c,a1,a2,Option.bind_some,rR],h⟩
theorem k72 (hF:5000 < F) (hb:b.length < 100000000) (h:At b s o e) (l:Int):∃ o' l' e',T72 F o l e b=some ((rSn s).1.1,(rSn s).1.2.1,(rSn s).1.2.2.1,(rSn s).1.2.2.2.1.1,(rSn s).1.2.2.2.1.2.1,(rSn s).1.2.2.2.1.2.2.1,(rSn s).1.2.2.2.2.1,(rSn s).1.2.2.2.2.2.1,(rSn s).1.2.2.2.2.2.2.1,(rSn s).1.2.2.2.2.2.2.2.1,o',l',e')∧At b (rSn s).2 o' e':=by
 obtain ⟨o1,l1,e1,a1,h⟩:=k67x1 hF hb h l
 obtain ⟨o2,l2,e2,a2,h⟩:=k73 hF hb h l1
 obtain ⟨o3,l3,e3,a3,h⟩:=k67x3 hF hb h l2
 obtain ⟨o4,l4,e4,a4,h⟩:=kT (m:=32) hF hb (by omega) h l3
 have a4:T74 F 32 o3 l3 e3 b=_:=a4
 obtain ⟨o5,l5,e5,a5,h⟩:=kB (F:=F) hb h l4
 exact ⟨o5,l5,e5,by simp only [T72,T72c,a1,a2,a3,a4,a5,Option.bind_some,rSn],h⟩
theorem w64sub {N k:Nat} (hk:k < N) (hN:N≤4096):w64 ((N:Int) - ((k + 1:Nat):Int) + 1)=(N:Int) - (k:Int):=by rw [w64_in (by omega) (by omega)];omega
theorem k80 (hF:5000 < F) (hb:b.length < 100000000) {m:Nat} (hm:m≤4096) (h:At b s o e) (l:Int):∃ o' l' e',T80 F (m:Int) o l e b=some (o',l',e',(rLs m rR s).1)∧At b (rLs m rR s).2 o' e':=by
 obtain ⟨o1,l1,e1,a1,h⟩:=kC (m:=m) hF hb (by omega) h l
 have hle:=rC_le m s
 generalize hN:(rC m s).1=N at *
 have:=rd_loop (fuel:=F) (b:=b) (f:=fun s:Int×Int×Int×Int×List Rf=>L80_2 F (N:Int) b s.1 s.2.1 s.2.2.1 s.2.2.2.1 s.2.2.2.2) (rd:=rR) (c:=fun k=>(N:Int) - (k:Int)) (N:=N) (by omega)
  (fun k hk s o l e acc h ha=>by
   obtain ⟨o2,l2,e2,a2,h⟩:=k73x1 hF hb h l
   have q:(N:Int) - ((k + 1:Nat):Int) < (N:Int):=by omega
   exact ⟨o2,l2,e2,by simp only [L80_2,L80_2c,q,decide_true,cond_true,T76,T76c,a2,Option.bind_some,gapp_ok (show acc.length + [((rR s).1.1,(rR s).1.2.1,(rR s).1.2.2.1,())].length≤1000000000 by simp;omega),w64sub hk (show N≤4096 by omega)],h⟩)
  (fun o l e acc=>by
   have q:¬ ((N:Int) - ((0:Nat):Int) < (N:Int)):=by omega
   simp only [L80_2,L80_2c,q,decide_false,cond_false]) hF h l1
 obtain ⟨o3,l3,e3,a3,h⟩:=this
 have a3:iter (fun s:Int×Int×Int×Int×List Rf=>L80_2 F (N:Int) b s.1 s.2.1 s.2.2.1 s.2.2.2.1 s.2.2.2.2) F ((N:Int) - (N:Int),o1,l1,e1,[])=_:=a3
 rw [Int.sub_self] at a3
 refine ⟨o3,l3,e3,?_,?_⟩
 ·simp only [T80,T80c,a1,Option.bind_some,a3,rLs,hN]
 ·simp only [rLs,hN];exact h
theorem k68 (hF:5000 < F) (hb:b.length < 100000000) {m:Nat} (hm:m≤4096) (h:At b s o e) (l:Int):∃ o' l' e',T68 F (m:Int) o l e b=some (o',l',e',(rLs m rI s).1)∧At b (rLs m rI s).2 o' e':=by
 obtain ⟨o1,l1,e1,a1,h⟩:=kC (m:=m) hF hb (by omega) h l
 have hle:=rC_le m s
 generalize hN:(rC m s).1=N at *
 have:=rd_loop (fuel:=F) (b:=b) (f:=fun s:Int×Int×Int×Int×List Int=>L68_2 F (N:Int) b s.1 s.2.1 s.2.2.1 s.2.2.2.1 s.2.2.2.2) (rd:=rI) (c:=fun k=>(N:Int) - (k:Int)) (N:=N) (by omega)
  (fun k hk s o l e acc h ha=>by
   obtain ⟨o2,l2,e2,a2,h⟩:=kI hF hb h l
   have q:(N:Int) - ((k + 1:Nat):Int) < (N:Int):=by omega
   exact ⟨o2,l2,e2,by simp only [L68_2,L68_2c,q,decide_true,cond_true,T69,T69c,a2,Option.bind_some,gapp_ok (show acc.length + [(rI s).1].length≤1000000000 by simp;omega),w64sub hk (show N≤4096 by omega)],h⟩)
  (fun o l e acc=>by
   have q:¬ ((N:Int) - ((0:Nat):Int) < (N:Int)):=by omega
   simp only [L68_2,L68_2c,q,decide_false,cond_false]) hF h l1
 obtain ⟨o3,l3,e3,a3,h⟩:=this
 have a3:iter (fun s:Int×Int×Int×Int×List Int=>L68_2 F (N:Int) b s.1 s.2.1 s.2.2.1 s.2.2.2.1 s.2.2.2.2) F ((N:Int) - (N:Int),o1,l1,e1,[])=_:=a3
 rw [Int.sub_self] at a3
 refine ⟨o3,l3,e3,?_,?_⟩
 ·simp only [T68,T68c,a1,Option.bind_some,a3,rLs,hN]
 ·simp only [rLs,hN];exact h
theorem k71 (hF:5000 < F) (hb:b.length < 100000000) {m:Nat} (hm:m≤4096) (h:At b s o e) (l:Int):∃ o' l' e',T71 F (m:Int) o l e b=some (o',l',e',(rLs m rSn s).1)∧At b (rLs m rSn s).2 o' e':=by
 obtain ⟨o1,l1,e1,a1,h⟩:=kC (m:=m) hF hb (by omega) h l
 have hle:=rC_le m s
 generalize hN:(rC m s).1=N at *
 have:=rd_loop (fuel:=F) (b:=b) (f:=fun s:Int×Int×Int×Int×List Sn=>L71_2 F (N:Int) b s.1 s.2.1 s.2.2.1 s.2.2.2.1 s.2.2.2.2) (rd:=rSn) (c:=fun k=>(N:Int) - (k:Int)) (N:=N) (by omega)
  (fun k hk s o l e acc h ha=>by
   obtain ⟨o2,l2,e2,a2,h⟩:=k72 hF hb h l
   have q:(N:Int) - ((k + 1:Nat):Int) < (N:Int):=by omega
   have g:gapp acc [((rSn s).1.1,(rSn s).1.2.1,(rSn s).1.2.2.1,((rSn s).1.2.2.2.1.1,(rSn s).1.2.2.2.1.2.1,(rSn s).1.2.2.2.1.2.2.1,()),(rSn s).1.2.2.2.2.1,(rSn s).1.2.2.2.2.2.1,(rSn s).1.2.2.2.2.2.2.1,(rSn s).1.2.2.2.2.2.2.2.1,())]=some (acc ++ [(rSn s).1]):=gapp_ok (by simp;omega)
   exact ⟨o2,l2,e2,by simp only [L71_2,L71_2c,q,decide_true,cond_true,a2,Option.bind_some,g,w64sub hk (show N≤4096 by omega)],h⟩)
  (fun o l e acc=>by
   have q:¬ ((N:Int) - ((0:Nat):Int) < (N:Int)):=by omega
   simp only [L71_2,L71_2c,q,decide_false,cond_false]) hF h l1
 obtain ⟨o3,l3,e3,a3,h⟩:=this
 have a3:iter (fun s:Int×Int×Int×Int×List Sn=>L71_2 F (N:Int) b s.1 s.2.1 s.2.2.1 s.2.2.2.1 s.2.2.2.2) F ((N:Int) - (N:Int),o1,l1,e1,[])=_:=a3
 rw [Int.sub_self] at a3
 refine ⟨o3,l3,e3,?_,?_⟩
 ·simp only [T71,T71c,a1,Option.bind_some,a3,rLs,hN]
 ·simp only [rLs,hN];exact h
theorem k78 (hF:5000 < F) (hb:b.length < 100000000) (h:At b s o e) (l:Int):∃ o' l' e',T78 F o l e b=some ((rSp s).1.1,(rSp s).1.2.1,(rSp s).1.2.2.1,(rSp s).1.2.2.2.1,(rSp s).1.2.2.2.2.1,o',l',e',(rSp s).1.2.2.2.2.2.1)∧At b (rSp s).2 o' e':=by
 obtain ⟨o1,l1,e1,a1,h⟩:=kS (F:=F) hb h l
 obtain ⟨o2,l2,e2,a2,h⟩:=k67x4 hF hb h l1
 obtain ⟨o3,l3,e3,a3,h⟩:=k80 (m:=8) hF hb (by omega) h l2
 have a3:T80 F 8 o2 l2 e2 b=_:=a3
 exact ⟨o3,l3,e3,by simp only [T78,T78c,a1,a2,a3,Option.bind_some,rSp],h⟩
theorem k77 (hF:5000 < F) (hb:b.length < 100000000) {m:Nat} (hm:m≤4096) (h:At b s o e) (l:Int):∃ o' l' e',T77 F (m:Int) o l e b=some (o',l',e',(rLs m rSp s).1)∧At b (rLs m rSp s).2 o' e':=by
 obtain ⟨o1,l1,e1,a1,h⟩:=kC (m:=m) hF hb (by omega) h l
 have hle:=rC_le m s
 generalize hN:(rC m s).1=N at *
 have:=rd_loop (fuel:=F) (b:=b) (f:=fun s:Int×Int×Int×Int×List Sp=>L77_2 F (N:Int) b s.1 s.2.1 s.2.2.1 s.2.2.2.1 s.2.2.2.2) (rd:=rSp) (c:=fun k=>(N:Int) - (k:Int)) (N:=N) (by omega)
  (fun k hk s o l e acc h ha=>by
   obtain ⟨o2,l2,e2,a2,h⟩:=k78 hF hb h l
   have q:(N:Int) - ((k + 1:Nat):Int) < (N:Int):=by omega
   have g:gapp acc [((rSp s).1.1,(rSp s).1.2.1,(rSp s).1.2.2.1,(rSp s).1.2.2.2.1,(rSp s).1.2.2.2.2.1,(rSp s).1.2.2.2.2.2.1,())]=some (acc ++ [(rSp s).1]):=gapp_ok (by simp;omega)
   exact ⟨o2,l2,e2,by simp only [L77_2,L77_2c,q,decide_true,cond_true,a2,Option.bind_some,g,w64sub hk (show N≤4096 by omega)],h⟩)
  (fun o l e acc=>by
   have q:¬ ((N:Int) - ((0:Nat):Int) < (N:Int)):=by omega
   simp only [L77_2,L77_2c,q,decide_false,cond_false]) hF h l1
 obtain ⟨o3,l3,e3,a3,h⟩:=this
 have a3:iter (fun s:Int×Int×Int×Int×List Sp=>L77_2 F (N:Int) b s.1 s.2.1 s.2.2.1 s.2.2.2.1 s.2.2.2.2) F ((N:Int) - (N:Int),o1,l1,e1,[])=_:=a3
 rw [Int.sub_self] at a3
 refine ⟨o3,l3,e3,?_,?_⟩
 ·simp only [T77,T77c,a1,Option.bind_some,a3,rLs,hN]
 ·simp only [rLs,hN];exact h
theorem at_end {s:RS} (h:At b s o e):(s=some []∧(e != 0)=false∧e=0∧decide (o < (b.length:Int))=false)∨(s ≠ some []∧((e != 0)=true∨(e=0∧decide (o < (b.length:Int))=true))):=by
 cases s with
 | none=>exact .inr ⟨by simp,.inl h.bne⟩
 | some r=>
  obtain ⟨rfl,n,rfl,hn,rfl⟩:=h
  by_cases hl:n=b.length
  ·refine .inl ⟨by rw [hl,List.drop_length],rfl,rfl,decide_eq_false (by omega)⟩
  ·refine .inr ⟨fun h=>?_,.inr ⟨rfl,decide_eq_true (by omega)⟩⟩
   have:=congrArg List.length (Option.some.inj h)
   rw [List.length_drop] at this;simp at this;omega
theorem t21 (hF:5000 < F) (b:Bs):T21 F b=some (decR b):=by
 unfold decR
 by_cases hL:1048560 < b.length
 ·have q:(1048560:Int) < (b.length:Int):=by omega
  simp only [T21,T21c,q,decide_true,cond_true,if_pos hL];rfl
 ·have q:¬ (1048560:Int) < (b.length:Int):=by omega
  have hb:b.length < 100000000:=by omega
  rw [if_neg hL]
  have h0:At b (some b) 0 0:=⟨rfl,0,rfl,by omega,by simp⟩
  obtain ⟨o1,l1,e1,a1,h⟩:=k67 hF hb h0 0
  obtain ⟨o2,l2,e2,a2,h⟩:=k68 (m:=12) hF hb (by omega) h l1
  have a2:T68 F 12 o1 l1 e1 b=_:=a2
  obtain ⟨o3,l3,e3,a3,h⟩:=k71 (m:=4096) hF hb (by omega) h l2
  have a3:T71 F 4096 o2 l2 e2 b=_:=a3
  obtain ⟨o4,l4,e4,a4,h⟩:=k77 (m:=4096) hF hb (by omega) h l3
  have a4:T77 F 4096 o3 l3 e3 b=_:=a4
  obtain ⟨o5,l5,e5,a5,h⟩:=k80 (m:=4096) hF hb (by omega) h l4
  have a5:T80 F 4096 o4 l4 e4 b=_:=a5
  have h:At b (rX (some b)).2 o5 e5:=h
  have h43:=t43 hF (rX (some b)).1
  have g:=gapp_ok (xs:=([]:List UInt8)) (ys:=b) (by simp;omega)
  rw [List.nil_append] at g
  simp only [T21,T21c,q,decide_false,cond_false,T66,T66c,g,Option.bind_some,a1,a2,a3,a4,a5,T81,T81c]
  rcases at_end h with ⟨h1,h2,h3,h4⟩ | ⟨h1,h2 | ⟨h2,h3⟩⟩
  ·simp only [h2,h4,cond_false,bne_self_eq_false]
   have h43:T43 F (rI (some b)).1 (rI (rI (some b)).2).1 _ _ _ _=some (vX (rX (some b)).1):=h43
   simp only [rX] at h43 h1 ⊢
   simp only [h43,Option.bind_some,h1]
   split
   ·rename_i hv;rw [hv.2];rfl
   ·rename_i hv
    have hv:vX ((rI (some b)).1,_)=false:=Bool.eq_false_iff.2 fun hh=>hv ⟨trivial,hh⟩
    rw [hv];rfl
  ·have hz:(bif e5 != 0 then some e5 else bif decide (o5 < (b.length:Int)) then some (3:Int) else some 0)=some e5:=by rw [h2];rfl
   simp only [h2,cond_true,Option.bind_some]
   rw [if_neg (fun hh=>h1 hh.1)];rfl
  ·have c3:((3:Int) != 0)=true:=rfl
   subst h2
   simp only [bne_self_eq_false,cond_false,h3,cond_true,c3,Option.bind_some]
   rw [if_neg (fun hh=>h1 hh.1)];rfl
end Go.Proofs.YthikoaamigiceaaGreatDoor
namespace Go.Proofs.YthikoaamigiceaaGreatDoor
open Go.Tw
set_option linter.unusedSimpArgs false
set_option linter.unusedVariables false
variable {F:Nat} {b:Bs} {s:RS} {o e:Int}
theorem gsl_ok {α:Type} {b:List α} {n k:Nat} (h:n + k≤b.length):gsl b (n:Int) ((n + k:Nat):Int)=some ((b.drop n).take k):=by
 unfold gsl;rw [if_pos (by omega),Int.toNat_natCast,Int.toNat_natCast,Nat.add_sub_cancel_left]
theorem qI (hF:5000 < F) (hb:b.length < 100000000) (h:At b s o e) (l:Int):∃ o' l' e',T85 F 2 0 b o l e=some (0,(rI s).1,false,[],o',l',e')∧At b (rI s).2 o' e':=by
 have z0:((2:Int) == 0)=false:=rfl
 have z6:((2:Int) == 6)=false:=rfl
 have z3:((2:Int) == 3)=false:=rfl
 have z1:((2:Int) == 1)=false:=rfl
 have z2:((2:Int) == 2)=true:=rfl
 have c3:((3:Int) != 0)=true:=rfl
 cases s with
 | none=>
  refine ⟨o,l,e,?_,h⟩
  simp only [T85,T85c,h.bne,cond_true];rfl
 | some r=>
  obtain ⟨rfl,n,rfl,hn,rfl⟩:=h
  rcases t77 (F:=F) (by omega) b (by omega) hn with ⟨v,k,h1,h2⟩ | ⟨h1,h2⟩
  ·have hd:=dec_enc h1
   have hk:n + k≤b.length:=by have:=hd.2.2.2;rw [List.length_drop] at this;omega
   refine ⟨((n + k:Nat):Int),(n:Int),0,?_,?_⟩
   ·simp only [T85,T85c,T131,T131c,bne_self_eq_false,z0,z6,z3,z1,z2,cond_false,cond_true,h2,Option.bind_some,Bool.not_true,t166,ofNat_to hd.2.2.1,rI,rN,h1]
   ·simp only [rI,rN,h1];exact At.mk hk
  ·refine ⟨(n:Int),l,3,?_,?_⟩
   ·simp only [T85,T85c,T131,T131c,bne_self_eq_false,z0,z6,z3,z1,z2,cond_false,cond_true,h2,Option.bind_some,Bool.not_false,c3,rI,rN,h1];rfl
   ·simp only [rI,rN,h1];show (3:Int) ≠ 0;decide
theorem qC (hF:5000 < F) (hb:b.length < 100000000) {m:Nat} (hm:m≤2000000) (h:At b s o e) (l:Int):∃ o' l' e',T85 F 7 (m:Int) b o l e=some (0,((rC m s).1:Int),false,[],o',l',e')∧At b (rC m s).2 o' e':=by
 have z0:((7:Int) == 0)=false:=rfl
 have z6:((7:Int) == 6)=false:=rfl
 have z3:((7:Int) == 3)=false:=rfl
 have z1:((7:Int) == 1)=false:=rfl
 have z2:((7:Int) == 2)=false:=rfl
 have z7:((7:Int) == 7)=true:=rfl
 have c3:((3:Int) != 0)=true:=rfl
 have c2:((2:Int) != 0)=true:=rfl
 cases s with
 | none=>
  refine ⟨o,l,e,?_,h⟩
  simp only [T85,T85c,h.bne,cond_true];rfl
 | some r=>
  obtain ⟨rfl,n,rfl,hn,rfl⟩:=h
  rcases t77 (F:=F) (by omega) b (by omega) hn with ⟨v,k,h1,h2⟩ | ⟨h1,h2⟩
  ·have hd:=dec_enc h1
   have hk:n + k≤b.length:=by have:=hd.2.2.2;rw [List.length_drop] at this;omega
   by_cases hv:v≤m
   ·have e1:w64 ((v:Nat):Int)=((v:Nat):Int):=w64_in (by omega) (by omega)
    refine ⟨((n + k:Nat):Int),(n:Int),0,?_,?_⟩
    ·simp only [T85,T85c,T131,T131c,bne_self_eq_false,z0,z6,z3,z1,z2,z7,cond_false,cond_true,h2,Option.bind_some,Bool.not_true,lim hm hd.2.2.1,decide_eq_true hv,ofNat_to hd.2.2.1,e1,rC,h1,if_pos hv]
    ·simp only [rC,h1,if_pos hv];exact At.mk hk
   ·refine ⟨(n:Int),l,2,?_,?_⟩
    ·simp only [T85,T85c,T131,T131c,bne_self_eq_false,z0,z6,z3,z1,z2,z7,cond_false,cond_true,h2,Option.bind_some,Bool.not_true,lim hm hd.2.2.1,decide_eq_false hv,Bool.not_false,c2,rC,h1,if_neg hv];rfl
    ·simp only [rC,h1,if_neg hv];show (2:Int) ≠ 0;decide
  ·refine ⟨(n:Int),l,3,?_,?_⟩
   ·simp only [T85,T85c,T131,T131c,bne_self_eq_false,z0,z6,z3,z1,z2,cond_false,cond_true,h2,Option.bind_some,Bool.not_false,c3,rC,h1];rfl
   ·simp only [rC,h1];show (3:Int) ≠ 0;decide
theorem qS (hb:b.length < 100000000) (h:At b s o e) (l:Int):∃ o' l' e',T85 F 6 0 b o l e=some (0,0,false,(rS s).1,o',l',e')∧At b (rS s).2 o' e':=by
 have z0:((6:Int) == 0)=false:=rfl
 have z6:((6:Int) == 6)=true:=rfl
 have c3:((3:Int) != 0)=true:=rfl
 cases s with
 | none=>
  refine ⟨o,l,e,?_,h⟩
  simp only [T85,T85c,h.bne,cond_true];rfl
 | some r=>
  obtain ⟨rfl,n,rfl,hn,rfl⟩:=h
  have e1:w64 ((b.length:Int) - (n:Int))=(b.length:Int) - (n:Int):=w64_in (by omega) (by omega)
  have e2:w64 ((n:Int) + 32)=((n + 32:Nat):Int):=by rw [w64_in (by omega) (by omega)];omega
  by_cases hl:n + 32≤b.length
  ·have hr:rS (some (b.drop n))=((b.drop n).take 32,some ((b.drop n).drop 32)):=by simp only [rS];rw [if_pos (by rw [List.length_drop];omega)]
   have q:¬ ((b.length:Int) - (n:Int) < 32):=by omega
   refine ⟨((n + 32:Nat):Int),(n:Int),0,?_,?_⟩
   ·simp only [T85,T85c,T131,T131c,bne_self_eq_false,z0,z6,cond_false,cond_true,e1,q,decide_false,e2,gsl_ok hl,Option.bind_some,hr]
   ·rw [hr];exact At.mk hl
  ·have hr:rS (some (b.drop n))=([],none):=by simp only [rS];rw [if_neg (by rw [List.length_drop];omega)]
   have q:((b.length:Int) - (n:Int) < 32):=by omega
   refine ⟨(n:Int),l,3,?_,?_⟩
   ·simp only [T85,T85c,T131,T131c,bne_self_eq_false,z0,z6,cond_false,cond_true,e1,q,decide_true,Option.bind_some,c3,hr]
   ·rw [hr];show (3:Int) ≠ 0;decide
theorem qB (hb:b.length < 100000000) (h:At b s o e) (l:Int):∃ o' l' e',T85 F 3 0 b o l e=some (0,0,(rB s).1,[],o',l',e')∧At b (rB s).2 o' e':=by
 have z0:((3:Int) == 0)=false:=rfl
 have z6:((3:Int) == 6)=false:=rfl
 have z3:((3:Int) == 3)=true:=rfl
 have c3:((3:Int) != 0)=true:=rfl
 cases s with
 | none=>
  refine ⟨o,l,e,?_,h⟩
  simp only [T85,T85c,h.bne,cond_true];rfl
 | some r=>
  obtain ⟨rfl,n,rfl,hn,rfl⟩:=h
  by_cases hl:n=b.length
  ·have hr:rB (some (b.drop n))=(false,none):=by rw [hl,List.drop_length];rfl
   have q:((b.length:Int)≤(n:Int)):=by omega
   refine ⟨(n:Int),l,3,?_,?_⟩
   ·simp only [T85,T85c,T131,T131c,bne_self_eq_false,z0,z6,z3,cond_false,cond_true,q,decide_true,Option.bind_some,c3,hr]
   ·rw [hr];show (3:Int) ≠ 0;decide
  ·have hn':n < b.length:=by omega
   have q:¬ ((b.length:Int)≤(n:Int)):=by omega
   have hd:b.drop n=b[n] :: b.drop (n + 1):=List.drop_eq_getElem_cons hn'
   have hx:(UInt8.ofNat 1 < b[n]) ↔ ¬ (b[n]).toNat≤1:=by rw [UInt8.lt_iff_toNat_lt];show 1 < _ ↔ _;omega
   by_cases hle:(b[n]).toNat≤1
   ·have hr:rB (some (b.drop n))=(decide ((b[n]).toNat=1),some (b.drop (n + 1))):=by rw [hd];simp only [rB,if_pos hle]
    have d1:decide (UInt8.ofNat 1 < b[n])=false:=decide_eq_false (by rw [hx];omega)
    have d2:(b[n] == UInt8.ofNat 1)=decide ((b[n]).toNat=1):=decide_eq_decide.2 ⟨fun h=>congrArg UInt8.toNat h,fun h=>UInt8.toNat_inj.1 h⟩
    refine ⟨((n + 1:Nat):Int),(n:Int),0,?_,?_⟩
    ·simp only [T85,T85c,T131,T131c,bne_self_eq_false,z0,z6,z3,cond_false,cond_true,q,decide_false,ixG hn',d1,d2,w64s (show n < 1000000000 by omega),Option.bind_some,hr]
    ·rw [hr];exact ⟨rfl,n + 1,rfl,hn',rfl⟩
   ·have hr:rB (some (b.drop n))=(false,none):=by rw [hd];simp only [rB,if_neg hle]
    have d1:decide (UInt8.ofNat 1 < b[n])=true:=decide_eq_true (by rw [hx];exact hle)
    refine ⟨(n:Int),l,3,?_,?_⟩
    ·simp only [T85,T85c,T131,T131c,bne_self_eq_false,z0,z6,z3,cond_false,cond_true,q,decide_false,ixG hn',d1,Option.bind_some,c3,hr]
    ·rw [hr];show (3:Int) ≠ 0;decide
theorem q131 (hF:5000 < F) (hb:b.length < 100000000) {m:Nat} (hm:m≤2000000) {n:Nat} (hn:n≤b.length) {k:Int} (hk:k=4∨k=5) :
  (∃ j,j≤b.length∧(rT m (some (b.drop n))).2=some (b.drop j)∧T131 F b (n:Int) k (m:Int)=some (0,0,false,(rT m (some (b.drop n))).1,(j:Int),0)) ∨
  (rT m (some (b.drop n))=([],none)∧∃ e p,e ≠ 0∧T131 F b (n:Int) k (m:Int)=some (0,0,false,[],p,e)):=by
 have z6:(k == 6)=false:=by rcases hk with rfl | rfl<;>rfl
 have z3:(k == 3)=false:=by rcases hk with rfl | rfl<;>rfl
 have z1:(k == 1)=false:=by rcases hk with rfl | rfl<;>rfl
 have z2:(k == 2)=false:=by rcases hk with rfl | rfl<;>rfl
 have z7:(k == 7)=false:=by rcases hk with rfl | rfl<;>rfl
 rcases t77 (F:=F) (by omega) b (by omega) hn with ⟨v,k',h1,h2⟩ | ⟨h1,h2⟩
 ·have hd:=dec_enc h1
  have hk':n + k'≤b.length:=by have:=hd.2.2.2;rw [List.length_drop] at this;omega
  by_cases hv:v≤m
  ·have e1:w64 ((v:Nat):Int)=((v:Nat):Int):=w64_in (by omega) (by omega)
   have e2:w64 ((b.length:Int) - ((n + k':Nat):Int))=((b.length - (n + k'):Nat):Int):=by rw [w64_in (by omega) (by omega)];omega
   have e3:w64 (((n + k':Nat):Int) + (v:Int))=((n + k' + v:Nat):Int):=by rw [w64_in (by omega) (by omega)];omega
   have e4:decide (UInt64.ofInt ((b.length - (n + k'):Nat):Int) < UInt64.ofNat v) = !decide (n + k' + v≤b.length):=by
    have:(UInt64.ofInt ((b.length - (n + k'):Nat):Int) < UInt64.ofNat v) ↔ b.length - (n + k') < v:=by rw [UInt64.lt_iff_toNat_lt,ofInt_nat' (by omega),ofNat_to hd.2.2.1]
    by_cases h:n + k' + v≤b.length
    ·rw [decide_eq_true h,Bool.not_true];exact decide_eq_false (by rw [this];omega)
    ·rw [decide_eq_false h,Bool.not_false];exact decide_eq_true (by rw [this];omega)
   by_cases h5:n + k' + v≤b.length
   ·have hx:v≤m∧v≤((b.drop n).drop k').length:=⟨hv,by rw [List.drop_drop,List.length_drop];omega⟩
    have hr:rT m (some (b.drop n))=((b.drop (n + k')).take v,some (b.drop (n + k' + v))):=by
     simp only [rT,h1];rw [if_pos hx];simp only [List.drop_drop]
    refine .inl ⟨n + k' + v,h5,by rw [hr],?_⟩
    simp only [T131,T131c,z6,z3,z1,z2,z7,cond_false,h2,Option.bind_some,Bool.not_true,lim hm hd.2.2.1,decide_eq_true hv,ofNat_to hd.2.2.1,e1,e2,e3,e4,decide_eq_true h5,gsl_ok h5,hr]
   ·have hx:¬ (v≤m∧v≤((b.drop n).drop k').length):=by rw [List.drop_drop,List.length_drop];omega
    refine .inr ⟨by simp only [rT,h1];rw [if_neg hx],3,(n:Int),by decide,?_⟩
    simp only [T131,T131c,z6,z3,z1,z2,z7,cond_false,cond_true,h2,Option.bind_some,Bool.not_true,Bool.not_false,lim hm hd.2.2.1,decide_eq_true hv,ofNat_to hd.2.2.1,e1,e2,e3,e4,decide_eq_false h5]
  ·refine .inr ⟨by simp only [rT,h1];rw [if_neg (by omega)],2,(n:Int),by decide,?_⟩
   simp only [T131,T131c,z6,z3,z1,z2,z7,cond_false,cond_true,h2,Option.bind_some,Bool.not_true,Bool.not_false,lim hm hd.2.2.1,decide_eq_false hv]
 ·refine .inr ⟨by simp only [rT,h1],3,(n:Int),by decide,?_⟩
  simp only [T131,T131c,z6,z3,z1,z2,z7,cond_false,cond_true,h2,Option.bind_some,Bool.not_false]
theorem qT (hF:5000 < F) (hb:b.length < 100000000) {m:Nat} (hm:m≤2000000) (h:At b s o e) (l:Int):∃ o' l' e',T85 F 5 (m:Int) b o l e=some (0,0,false,(rT m s).1,o',l',e')∧At b (rT m s).2 o' e':=by
 have z0:((5:Int) == 0)=false:=rfl
 cases s with
 | none=>
  refine ⟨o,l,e,?_,h⟩
  simp only [T85,T85c,h.bne,cond_true];rfl
 | some r=>
  obtain ⟨rfl,n,rfl,hn,rfl⟩:=h
  rcases q131 hF hb hm hn (k:=5) (.inr rfl) with ⟨j,h1,h2,h3⟩ | ⟨h1,e,p,he,h2⟩
  ·refine ⟨(j:Int),(n:Int),0,?_,?_⟩
   ·simp only [T85,T85c,bne_self_eq_false,z0,cond_false,h3,Option.bind_some]
   ·rw [h2];exact ⟨rfl,j,rfl,h1,rfl⟩
  ·have c3:(e != 0)=true:=by simp [he]
   refine ⟨(n:Int),l,e,?_,?_⟩
   ·simp only [T85,T85c,bne_self_eq_false,z0,cond_false,h2,Option.bind_some,c3,cond_true,h1]
   ·rw [h1];exact he
theorem qBy (hF:5000 < F) (hb:b.length < 100000000) {m:Nat} (hm:m≤2000000) (h:At b s o e) (l:Int):∃ o' l' e',T85x1 F 4 (m:Int) o l e b=some (0,0,false,(rT m s).1,o',l',e')∧At b (rT m s).2 o' e':=by
 have z0:((4:Int) == 0)=false:=rfl
 cases s with
 | none=>
  refine ⟨o,l,e,?_,h⟩
  simp only [T85x1,T85x1c,h.bne,cond_true];rfl
 | some r=>
  obtain ⟨rfl,n,rfl,hn,rfl⟩:=h
  rcases q131 hF hb hm hn (k:=4) (.inl rfl) with ⟨j,h1,h2,h3⟩ | ⟨h1,e,p,he,h2⟩
  ·refine ⟨(j:Int),(n:Int),0,?_,?_⟩
   ·simp only [T85x1,T85x1c,bne_self_eq_false,z0,cond_false,h3,Option.bind_some]
   ·rw [h2];exact ⟨rfl,j,rfl,h1,rfl⟩
  ·have c3:(e != 0)=true:=by simp [he]
   refine ⟨(n:Int),l,e,?_,?_⟩
   ·simp only [T85x1,T85x1c,bne_self_eq_false,z0,cond_false,h2,Option.bind_some,c3,cond_true,h1]
   ·rw [h1];exact he
end Go.Proofs.YthikoaamigiceaaGreatDoor
namespace Go.Proofs.YthikoaamigiceaaGreatDoor
open Go.Tw
set_option linter.unusedSimpArgs false
set_option linter.unusedVariables false
variable {F:Nat} {b:Bs} {s:RS} {o e:Int}
theorem q82 (hF:5000 < F) (hb:b.length < 100000000) (h:At b s o e) (l:Int):∃ o' l' e',T82 F b o l e=some ((rI s).1,o',l',e')∧At b (rI s).2 o' e':=by
 obtain ⟨o1,l1,e1,a1,h⟩:=qI hF hb h l
 exact ⟨o1,l1,e1,by simp only [T82,T82c,a1,Option.bind_some],h⟩
theorem q83 (hF:5000 < F) (hb:b.length < 100000000) {m:Nat} (hm:m≤2000000) (h:At b s o e) (l:Int):∃ o' l' e',T83 F (m:Int) b o l e=some (((rC m s).1:Int),o',l',e')∧At b (rC m s).2 o' e':=by
 obtain ⟨o1,l1,e1,a1,h⟩:=qC hF hb hm h l
 exact ⟨o1,l1,e1,by simp only [T83,T83c,a1,Option.bind_some],h⟩
theorem q84 (hF:5000 < F) (hb:b.length < 100000000) (h:At b s o e) (l:Int):∃ o' l' e',T84 F b o l e=some ((rR s).1.1,(rR s).1.2.1,(rR s).1.2.2.1,o',l',e')∧At b (rR s).2 o' e':=by
 obtain ⟨o1,l1,e1,a1,h⟩:=qS (F:=F) hb h l
 obtain ⟨o2,l2,e2,a2,h⟩:=q82 hF hb h l1
 obtain ⟨o3,l3,e3,a3,h⟩:=q82 hF hb h l2
 exact ⟨o3,l3,e3,by simp only [T84,T84c,a1,a2,a3,Option.bind_some,rR],h⟩
theorem w64dn {k:Nat} (hk:k < 5000):w64 (((k + 1:Nat):Int) - 1)=(k:Int):=by rw [w64_in (by omega) (by omega)];omega
theorem posN (k:Nat):decide ((0:Int) < ((k + 1:Nat):Int))=true:=decide_eq_true (by omega)
theorem q86 (hF:5000 < F) (hb:b.length < 100000000) {m:Nat} (hm:m≤4096) (h:At b s o e) (l:Int):∃ o' l' e',T86 F (m:Int) b o l e=some (o',l',e',(rLs m rR s).1)∧At b (rLs m rR s).2 o' e':=by
 obtain ⟨o1,l1,e1,a1,h⟩:=q83 (m:=m) hF hb (by omega) h l
 have hle:=rC_le m s
 have:=rd_loop (fuel:=F) (b:=b) (f:=fun s:Int×Int×Int×Int×List Rf=>L86_2 F b s.1 s.2.1 s.2.2.1 s.2.2.2.1 s.2.2.2.2) (rd:=rR) (c:=fun k=>(k:Int)) (N:=(rC m s).1) (by omega)
  (fun k hk s o l e acc h ha=>by
   obtain ⟨o2,l2,e2,a2,h⟩:=q84 hF hb h l
   exact ⟨o2,l2,e2,by simp only [L86_2,L86_2c,posN,cond_true,a2,Option.bind_some,gapp_ok (show acc.length + [((rR s).1.1,(rR s).1.2.1,(rR s).1.2.2.1,())].length≤1000000000 by simp;omega),w64dn (show k < 5000 by omega)],h⟩)
  (fun o l e acc=>by
   have q:¬ ((0:Int) < ((0:Nat):Int)):=by omega
   simp only [L86_2,L86_2c,q,decide_false,cond_false]) hF h l1
 obtain ⟨o3,l3,e3,a3,h⟩:=this
 exact ⟨o3,l3,e3,by simp only [T86,T86c,a1,Option.bind_some,a3,rLs],h⟩
theorem l23_4 (hF:5000 < F) (hb:b.length < 100000000) {N:Nat} (hN:N≤4096) (h:At b s o e) (l:Int):∃ o' l' e',iter (fun s:Int×Int×Int×Int×List Int=>L23_4 F b s.1 s.2.1 s.2.2.1 s.2.2.2.1 s.2.2.2.2) F ((N:Int),o,l,e,[])=some (o',l',e',(rL rI N s).1)∧At b (rL rI N s).2 o' e':=
 rd_loop (fuel:=F) (b:=b) (rd:=rI) (c:=fun k=>(k:Int)) (N:=N) hN
  (fun k hk s o l e acc h ha=>by
   obtain ⟨o2,l2,e2,a2,h⟩:=q82 hF hb h l
   exact ⟨o2,l2,e2,by simp only [L23_4,L23_4c,posN,cond_true,a2,Option.bind_some,gapp_ok (show acc.length + [(rI s).1].length≤1000000000 by simp;omega),w64dn (show k < 5000 by omega)],h⟩)
  (fun o l e acc=>by
   have q:¬ ((0:Int) < ((0:Nat):Int)):=by omega
   simp only [L23_4,L23_4c,q,decide_false,cond_false]) hF h l
theorem l23_5 (hF:5000 < F) (hb:b.length < 100000000) {N:Nat} (hN:N≤4096) (h:At b s o e) (l:Int):∃ o' l' e',iter (fun s:Int×Int×Int×Int×List Sn=>L23_5 F b s.1 s.2.1 s.2.2.1 s.2.2.2.1 s.2.2.2.2) F ((N:Int),o,l,e,[])=some (o',l',e',(rL rSn N s).1)∧At b (rL rSn N s).2 o' e':=
 rd_loop (fuel:=F) (b:=b) (rd:=rSn) (c:=fun k=>(k:Int)) (N:=N) hN
  (fun k hk s o l e acc h ha=>by
   obtain ⟨o1,l1,e1,a1,h⟩:=q82 hF hb h l
   obtain ⟨o2,l2,e2,a2,h⟩:=q82 hF hb h l1
   obtain ⟨o3,l3,e3,a3,h⟩:=q82 hF hb h l2
   obtain ⟨o4,l4,e4,a4,h⟩:=q84 hF hb h l3
   obtain ⟨o5,l5,e5,a5,h⟩:=q82 hF hb h l4
   obtain ⟨o6,l6,e6,a6,h⟩:=q82 hF hb h l5
   obtain ⟨o7,l7,e7,a7,h⟩:=qT (m:=32) hF hb (by omega) h l6
   have a7:T85 F 5 32 b o6 l6 e6=_:=a7
   obtain ⟨o8,l8,e8,a8,h⟩:=qB (F:=F) hb h l7
   have g:gapp acc [((rSn s).1.1,(rSn s).1.2.1,(rSn s).1.2.2.1,((rSn s).1.2.2.2.1.1,(rSn s).1.2.2.2.1.2.1,(rSn s).1.2.2.2.1.2.2.1,()),(rSn s).1.2.2.2.2.1,(rSn s).1.2.2.2.2.2.1,(rSn s).1.2.2.2.2.2.2.1,(rSn s).1.2.2.2.2.2.2.2.1,())]=some (acc ++ [(rSn s).1]):=gapp_ok (by simp;omega)
   refine ⟨o8,l8,e8,?_,h⟩
   simp only [rSn] at g
   simp only [L23_5,L23_5c,posN,cond_true,a1,a2,a3,a4,a5,a6,a7,a8,Option.bind_some,g,w64dn (show k < 5000 by omega),rSn])
  (fun o l e acc=>by
   have q:¬ ((0:Int) < ((0:Nat):Int)):=by omega
   simp only [L23_5,L23_5c,q,decide_false,cond_false]) hF h l
theorem l23_6 (hF:5000 < F) (hb:b.length < 100000000) {N:Nat} (hN:N≤4096) (h:At b s o e) (l:Int):∃ o' l' e',iter (fun s:Int×Int×Int×Int×List Sp=>L23_6 F b s.1 s.2.1 s.2.2.1 s.2.2.2.1 s.2.2.2.2) F ((N:Int),o,l,e,[])=some (o',l',e',(rL rSp N s).1)∧At b (rL rSp N s).2 o' e':=
 rd_loop (fuel:=F) (b:=b) (rd:=rSp) (c:=fun k=>(k:Int)) (N:=N) hN
  (fun k hk s o l e acc h ha=>by
   obtain ⟨o1,l1,e1,a1,h⟩:=qS (F:=F) hb h l
   obtain ⟨o2,l2,e2,a2,h⟩:=q82 hF hb h l1
   obtain ⟨o3,l3,e3,a3,h⟩:=q82 hF hb h l2
   obtain ⟨o4,l4,e4,a4,h⟩:=q82 hF hb h l3
   obtain ⟨o5,l5,e5,a5,h⟩:=q82 hF hb h l4
   obtain ⟨o6,l6,e6,a6,h⟩:=q86 (m:=8) hF hb (by omega) h l5
   have a6:T86 F 8 b o5 l5 e5=_:=a6
   have g:gapp acc [((rSp s).1.1,(rSp s).1.2.1,(rSp s).1.2.2.1,(rSp s).1.2.2.2.1,(rSp s).1.2.2.2.2.1,(rSp s).1.2.2.2.2.2.1,())]=some (acc ++ [(rSp s).1]):=gapp_ok (by simp;omega)
   refine ⟨o6,l6,e6,?_,h⟩
   simp only [rSp] at g
   simp only [L23_6,L23_6c,posN,cond_true,a1,a2,a3,a4,a5,a6,Option.bind_some,g,w64dn (show k < 5000 by omega),rSp])
  (fun o l e acc=>by
   have q:¬ ((0:Int) < ((0:Nat):Int)):=by omega
   simp only [L23_6,L23_6c,q,decide_false,cond_false]) hF h l
theorem r23_4 (hF:5000 < F) (hb:b.length < 100000000) (h:At b s o e) (l:Int):∃ n o1 l1 e1 o' l' e',T83 F 12 b o l e=some (n,o1,l1,e1)∧iter (fun s:Int×Int×Int×Int×List Int=>L23_4 F b s.1 s.2.1 s.2.2.1 s.2.2.2.1 s.2.2.2.2) F (n,o1,l1,e1,[])=some (o',l',e',(rLs 12 rI s).1)∧At b (rLs 12 rI s).2 o' e':=by
 obtain ⟨o1,l1,e1,a1,h⟩:=q83 (m:=12) hF hb (by omega) h l
 obtain ⟨o2,l2,e2,a2,h⟩:=l23_4 hF hb (Nat.le_trans (rC_le 12 s) (by omega)) h l1
 exact ⟨_,o1,l1,e1,o2,l2,e2,a1,a2,h⟩
theorem r23_5 (hF:5000 < F) (hb:b.length < 100000000) (h:At b s o e) (l:Int):∃ n o1 l1 e1 o' l' e',T83 F 4096 b o l e=some (n,o1,l1,e1)∧iter (fun s:Int×Int×Int×Int×List Sn=>L23_5 F b s.1 s.2.1 s.2.2.1 s.2.2.2.1 s.2.2.2.2) F (n,o1,l1,e1,[])=some (o',l',e',(rLs 4096 rSn s).1)∧At b (rLs 4096 rSn s).2 o' e':=by
 obtain ⟨o1,l1,e1,a1,h⟩:=q83 (m:=4096) hF hb (by omega) h l
 obtain ⟨o2,l2,e2,a2,h⟩:=l23_5 hF hb (Nat.le_trans (rC_le 4096 s) (by omega)) h l1
 exact ⟨_,o1,l1,e1,o2,l2,e2,a1,a2,h⟩
theorem r23_6 (hF:5000 < F) (hb:b.length < 100000000) (h:At b s o e) (l:Int):∃ n o1 l1 e1 o' l' e',T83 F 4096 b o l e=some (n,o1,l1,e1)∧iter (fun s:Int×Int×Int×Int×List Sp=>L23_6 F b s.1 s.2.1 s.2.2.1 s.2.2.2.1 s.2.2.2.2) F (n,o1,l1,e1,[])=some (o',l',e',(rLs 4096 rSp s).1)∧At b (rLs 4096 rSp s).2 o' e':=by
 obtain ⟨o1,l1,e1,a1,h⟩:=q83 (m:=4096) hF hb (by omega) h l
 obtain ⟨o2,l2,e2,a2,h⟩:=l23_6 hF hb (Nat.le_trans (rC_le 4096 s) (by omega)) h l1
 exact ⟨_,o1,l1,e1,o2,l2,e2,a1,a2,h⟩
theorem t23 (hF:5000 < F) (b:Bs) (hb:b.length < 100000000):T23 F b=some (decR b):=by
 unfold decR
 have h0:At b (some b) 0 0:=⟨rfl,0,rfl,by omega,by simp⟩
 obtain ⟨o0,l0,e0,a0,h⟩:=q82 hF hb h0 0
 obtain ⟨o1,l1,e1,a1,h⟩:=q82 hF hb h l0
 obtain ⟨n2,o2,l2,e2,o3,l3,e3,a2,a3,h⟩:=r23_4 hF hb h l1
 obtain ⟨n4,o4,l4,e4,o5,l5,e5,a4,a5,h⟩:=r23_5 hF hb h l3
 obtain ⟨n6,o6,l6,e6,o7,l7,e7,a6,a7,h⟩:=r23_6 hF hb h l5
 obtain ⟨o8,l8,e8,a8,h⟩:=q86 (m:=4096) hF hb (by omega) h l7
 have a8:T86 F 4096 b o7 l7 e7=_:=a8
 have h:At b (rX (some b)).2 o8 e8:=h
 have h60:=t60 hF (rX (some b)).1
 simp only [T23,T23c,Option.bind_some,a0,a1,a2,a3,a4,a5,a6,a7,a8,T87,T87c]
 rcases at_end h with ⟨h1,h2,h3,h4⟩ | ⟨h1,h2 | ⟨h2,h3⟩⟩
 ·subst h3
  simp only [h4,cond_false,beq_self_eq_true,cond_true,bne_self_eq_false,Option.bind_some]
  by_cases hL:1048560 < b.length
  ·have q:(1048560:Int) < (b.length:Int):=by omega
   simp only [q,decide_true,cond_true,if_pos hL];rfl
  ·have q:¬ (1048560:Int) < (b.length:Int):=by omega
   rw [if_neg hL]
   have h60:T60 F (rI (some b)).1 (rI (rI (some b)).2).1 _ _ _ _=some (vX (rX (some b)).1):=h60
   simp only [rX] at h60 h1 ⊢
   simp only [q,decide_false,cond_false,h60,Option.bind_some,h1]
   split
   ·rename_i hv;rw [hv.2];rfl
   ·rename_i hv
    have hv:vX ((rI (some b)).1,_)=false:=Bool.eq_false_iff.2 fun hh=>hv ⟨trivial,hh⟩
    rw [hv];rfl
 ·have h2':(e8 == 0)=false:=by
   cases hh:e8 == 0
   ·rfl
   ·rw [beq_iff_eq] at hh;subst hh;simp at h2
  simp only [h2',cond_false,Option.bind_some,h2,cond_true]
  by_cases hL:1048560 < b.length
  ·rw [if_pos hL];rfl
  ·rw [if_neg hL,if_neg (fun hh=>h1 hh.1)];rfl
 ·have c3:((3:Int) != 0)=true:=rfl
  subst h2
  simp only [beq_self_eq_true,cond_true,h3,c3,Option.bind_some]
  by_cases hL:1048560 < b.length
  ·rw [if_pos hL];rfl
  ·rw [if_neg hL,if_neg (fun hh=>h1 hh.1)];rfl
end Go.Proofs.YthikoaamigiceaaGreatDoor
namespace Go.Proofs.YthikoaamigiceaaGreatDoor
open Go.Tw
set_option linter.unusedSimpArgs false
set_option linter.unusedVariables false
end Go.Proofs.YthikoaamigiceaaGreatDoor
