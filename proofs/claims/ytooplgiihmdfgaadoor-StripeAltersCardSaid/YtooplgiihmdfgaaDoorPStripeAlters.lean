/- The plain law. -/
import Derived.Test.YtooplgiihmdfgaaDoorAJ
namespace Go.Tw
set_option linter.unusedSimpArgs false
set_option linter.unusedVariables false
theorem RL_u32 {O:Own} {ρ:List Hd} {n:UInt32} {vs:List IV} {cs:List (List Value)} (h:RL O ρ vs cs):RL O ρ (.o (.u32 n) :: vs) ([vU32 n] :: cs):=⟨_,_,rfl,⟨rfl,rfl⟩,h⟩
theorem RL_u16 {O:Own} {ρ:List Hd} {n:UInt16} {vs:List IV} {cs:List (List Value)} (h:RL O ρ vs cs):RL O ρ (.o (.v (.int .u16 (n.toNat:Int))) :: vs) ([.int .u16 (n.toNat:Int)] :: cs):=⟨_,_,rfl,⟨rfl,rfl⟩,h⟩
theorem of_u16 {a:Int} (h:(Lit.int .u16 a).wf=true):∃ x:UInt16,a=(x.toNat:Int):=by
 simp [Lit.wf,IntKind.min,IntKind.max,IntKind.signed,IntKind.bits] at h
 exact ⟨UInt16.ofNat a.toNat,by simp;omega⟩
end Go.Tw
namespace Go.Proofs.YtooplgiihmdfgaaDoor
open Go.Tw
set_option linter.unusedSimpArgs false
set_option linter.unusedVariables false
theorem same14 {F:Nat} (hF:2000 < F) (a:List UInt8) (b:Int) (c:List UInt8) {l:List (List UInt8)} (hl:l.length≤1000):T24 F a b c l a b c l=some true:=by
 have h:iter (fun s=>L24_2 F (l.length:Int) l l s) F (0:Int)=some (.inl ()):=by
  refine same_loop (n:=l.length) (by omega) (by omega) (fun k hk=>?_) ?_
  ·have hr:l[k]? = some l[k]:=List.getElem?_eq_getElem hk
   have hc1:((k:Nat):Int) < (l.length:Int):=by omega
   simp only [L24_2,L24_2c,hc1,decide_true,cond_true,ixn hr,Option.bind_some,bne_self_eq_false,cond_false,w64n (show k < 9223372036854775807 by omega)]
  ·simp [L24_2,L24_2c]
 simp only [T24,T24c,beq_self_eq_true,Bool.and_self,Bool.not_true,bne_self_eq_false,cond_false,h,Option.bind_some,elimS]
theorem great_ok {F:Nat} (hF:0 < F) {bs:List (List UInt8)} (hl:bs.length≤9223372036854775807):∃ b,T36 F bs=some b∧(b=false->bs.length≤20∧∀ x ∈ bs,x.length≤400):=by
 obtain ⟨z,hz,hQ⟩:=iter1 (f:=fun s:Int=>L36_2 (F + bs.length) bs (bs.length:Int) s)
  (fun s=>∃ k:Nat,s=(k:Int)∧k≤bs.length∧∀ x ∈ bs.take k,x.length≤400) (fun z=>z=.inr true∨z=.inl ()∧∀ x ∈ bs,x.length≤400) (fun s=>bs.length - s.toNat) (fun s hs=>by
   obtain ⟨k,e,hk,ha⟩:=hs
   subst e
   rcases Nat.lt_or_ge k bs.length with hlt | hge
   ·have hc1:((k:Nat):Int) < (bs.length:Int):=by omega
    have hr:bs[k]? = some bs[k]:=List.getElem?_eq_getElem hlt
    have hix:=ixn hr
    generalize bs[k]=x at hr hix
    by_cases h4:(400:Int) < (x.length:Int)
    ·exact .inr ⟨.inr true,by simp only [L36_2,L36_2c,hc1,decide_true,cond_true,hix,h4,Option.bind_some],.inl rfl⟩
    ·refine .inl ⟨((k + 1:Nat):Int),by simp only [L36_2,L36_2c,hc1,decide_true,cond_true,hix,h4,decide_false,cond_false,Option.bind_some,w64n (show k < 9223372036854775807 by omega)],⟨k + 1,rfl,by omega,fun y hy=>?_⟩,by simp only [Int.toNat_natCast];omega⟩
     rw [takeS' hr] at hy
     rcases List.mem_append.1 hy with hy | hy
     ·exact ha y hy
     ·simp at hy;subst hy;omega
   ·have hkn:k=bs.length:=by omega
    subst hkn
    rw [List.take_length] at ha
    refine .inr ⟨.inl (),?_,.inr ⟨rfl,ha⟩⟩
    simp [L36_2,L36_2c])
  (F + bs.length) (0:Int) ⟨0,rfl,by omega,by simp⟩ (by simp;omega)
 have h:T36 F bs=T36w (F + bs.length) bs:=rfl
 rw [h]
 simp only [T36w,T36wc,hz,Option.bind_some]
 rcases hQ with rfl | ⟨rfl,ha⟩
 ·exact ⟨true,rfl,fun h=>by cases h⟩
 ·refine ⟨_,rfl,fun h=>⟨?_,ha⟩⟩
  have:=of_decide_eq_false h
  omega
theorem blocks_ok {F:Nat} (hF:2000 < F) {l:List (List UInt8)} (hl:l.length≤1000):T22 F l l=some true:=by
 have h:iter (fun s=>L22_2 F l l (l.length:Int) s) F (0:Int)=some (.inl ()):=by
  refine same_loop (n:=l.length) (by omega) (by omega) (fun k hk=>?_) ?_
  ·have hr:l[k]? = some l[k]:=List.getElem?_eq_getElem hk
   have hc1:((k:Nat):Int) < (l.length:Int):=by omega
   simp only [L22_2,L22_2c,hc1,decide_true,cond_true,ixn hr,Option.bind_some,bne_self_eq_false,cond_false,w64n (show k < 9223372036854775807 by omega)]
  ·simp [L22_2,L22_2c]
 simp only [T22,T22c,bne_self_eq_false,cond_false,h,Option.bind_some,elimS]
theorem made_ok {F:Nat} (hF:50000≤F) (p0 p1 p2:Int) (p3:List Rf) (p4:List (List UInt8)) (hl:p4.length≤9223372036854775807) :
  (∃ a b c d e f g,T16 F p0 p1 p2 p3 p4=some (a,b,c,d,e,f,false,g))∨∃ d t len,Mk F p0 p1 p2 p3 p4 d t len∧len≤400∧T16 F p0 p1 p2 p3 p4=some (sidM F d t len p4,p0,(len:Int),(d:Int),(t:Int),p3,true,mkP F (encP d t len p4)):=by
 obtain ⟨b,hb,hbf⟩:=great_ok (F:=F) (by omega) hl
 simp only [T16,T16c,hb,Option.bind_some]
 cases b with
 | true=>exact .inl ⟨_,_,_,_,_,_,_,rfl⟩
 | false=>
 obtain ⟨hl4,hx4⟩:=hbf rfl
 by_cases h20:(20:Int) < (p3.length:Int)
 ·simp only [h20,decide_true,cond_true,cond_false]
  exact .inl ⟨_,_,_,_,_,_,_,rfl⟩
 have hm:=make_ok (F:=F) hF (vault:=p0) (data:=p1) (total:=p2) (refs:=p3) (bs:=p4) (by omega) (fun x hx=>by have:=hx4 x hx;omega)
 simp only [h20,decide_false,cond_false,hm,Option.bind_some]
 cases hok:okMake p0 p1 p2 p3 p4 with
 | false=>exact .inl ⟨_,_,_,_,_,_,_,rfl⟩
 | true=>
  obtain ⟨d,t,len,H⟩:=mk_of (F:=F) hok
  obtain ⟨b0,bs',hbs⟩:∃ b bs',p4=b :: bs':=by
   cases p4 with
   | nil=>have h1:=H.bn;have h2:=H.n1;simp at h1;omega
   | cons b bs=>exact ⟨b,bs,rfl⟩
  have hl0:len≤400:=by rw [← H.bl b0 (by rw [hbs];simp)];exact hx4 b0 (by rw [hbs];simp)
  refine .inr ⟨d,t,len,H,hl0,?_⟩
  have e1:=H.hd;have e2:=H.ht;have e3:=H.hl
  simp only [cond_true,theStripe,e1,e2,e3,Int.toNat_natCast,beq_self_eq_true]
  rfl
section
variable {F:Nat} {vault data total:Int} {refs:List Rf} {bs:List (List UInt8)} {d t len:Nat}
theorem Mk.take_all (H:Mk F vault data total refs bs d t len) (hF:2000 < F) (hl:len≤65536) {ks:List Nat} (h3:ks.Nodup) (h4:∀ k ∈ ks,k < t):takeP F (sidM F d t len bs) (len:Int) (t:Int) d (ks.map (pcM F d t len bs))=(ks.take d,(ks.take d).map fun i=>(encP d t len bs).getD i []):=by
 have:=H.take hF hl (ks:=ks) (s:=([],[])) rfl (by simp) h3 h4 (by simp)
 unfold takeP
 simpa using this
theorem nodup_le {n:Nat} {ks:List Nat} (h1:ks.Nodup) (h2:∀ k ∈ ks,k < n):ks.length≤n:=by
 have hp:((List.range n).filter fun k=>ks.contains k).Perm ks:=by
  refine (List.perm_ext_iff_of_nodup (List.nodup_range.filter _) h1).2 fun a=>?_
  simp only [List.mem_filter,List.mem_range,List.contains_eq_mem,decide_eq_true_eq]
  exact ⟨fun h=>h.2,fun h=>⟨h2 a h,h⟩⟩
 rw [← hp.length_eq]
 have:=List.length_filter_le (fun k=>ks.contains k) (List.range n)
 simpa using this
theorem Mk.datas (H:Mk F vault data total refs bs d t len) (hl:len≤40000) {ks:List Nat} (h4:∀ k ∈ ks,k < t):∀ p ∈ ks.map (pcM F d t len bs),p.2.1.length≤40000:=fun p hp=>by
 obtain ⟨i,hi,rfl⟩:=List.mem_map.1 hp
 show ((encP d t len bs).getD i []).length≤40000
 rw [H.at_len (h4 i hi)];exact hl
end
theorem plaw6 {F:Nat} (hF:50000≤F) (h8:T8 F=some true) (p0 p1 p2:Int) (p3:List Rf) (p4:List (List UInt8)) (p5:UInt32) (hl:p4.length≤9223372036854775807):T6 F p0 p1 p2 p3 p4 p5=some true:=by
 simp only [T6,T6c,h8,Option.bind_some,Bool.not_true,cond_false]
 rcases made_ok hF p0 p1 p2 p3 p4 hl with ⟨a,b,c,d,e,f,g,h⟩ | ⟨d,t,len,H,hlen,h⟩
 ·simp only [h,Option.bind_some,Bool.not_false,cond_true]
 have ht16:=H.t16;have hd8:=H.d8;have hnd:=H.nd
 have hpl:(mkP F (encP d t len p4)).length=t:=by rw [mkP_len,encP_len]
 obtain ⟨ks,k1,k2,k3⟩:=some_ok (F:=F) (by omega) (l:=mkP F (encP d t len p4)) (g:=pcM F d t len p4) (by omega) (fun k hk=>mkP_at (by omega)) p5
 rw [hpl] at k2
 have kl:=nodup_le k1 k2
 have hb:=H.back hF (by omega) (ks:=ks) (l:=ks.map (pcM F d t len p4)) (by simp;omega) (H.datas (by omega) k2) k1 k2 (H.take_all (by omega) (by omega) k1 k2)
 have hS:=H.ok_S (F:=F) (by omega) (by omega)
 have hck:=check_ok (F:=F) (by omega) (sidM F d t len p4) p0 (len:Int) (d:Int) (t:Int) (refs:=p3) (by omega)
 rw [hS] at hck
 simp only [h,k3,Option.bind_some,Bool.not_true,cond_false,T21,T21c,hb,List.length_map]
 by_cases hk:ks.length < d
 ·have c1:(ks.length:Int) < (d:Int):=by omega
  simp only [hk,c1,decide_true,cond_true,beq_self_eq_true]
  rfl
 ·have c1:¬ (ks.length:Int) < (d:Int):=by omega
  have hbn:=H.bn
  have hbl:=blocks_ok (F:=F) (by omega) (l:=p4) (by omega)
  have hlo:iter (fun s=>L6_2 F (mkP F (encP d t len p4)) (ks.map (pcM F d t len p4)) ((mkP F (encP d t len p4)).length:Int) (sidM F d t len p4) p0 (len:Int) (d:Int) (t:Int) p3 s) F (0:Int)=some (.inl ()):=by
   refine same_loop (n:=t) (by omega) (by omega) (fun k hk'=>?_) ?_
   ·have hc1:((k:Nat):Int) < ((mkP F (encP d t len p4)).length:Int):=by omega
    have hr:=mkP_at (F:=F) (d:=d) (len:=len) (bs:=p4) hk'
    have hi:inb (mkP F (encP d t len p4)).length (k:Int)=some k:=inbn (by omega)
    have n0:¬ (k:Int) < 0:=by omega
    have n1:¬ (t:Int)≤(k:Int):=by omega
    have hsl:=H.sums_len (F:=F)
    have hs:=same14 (F:=F) (by omega) (pcM F d t len p4 k).1.1 (pcM F d t len p4 k).1.2.1 (pcM F d t len p4 k).2.1 (l:=(pcM F d t len p4 k).2.2.1) (by show ((encP d t len p4).map (hsh F)).length≤1000;omega)
    have hrb:T23 F (sidM F d t len p4) p0 (len:Int) (d:Int) (t:Int) p3 (ks.map (pcM F d t len p4)) (k:Int)=some ((pcM F d t len p4 k).1.1,(pcM F d t len p4 k).1.2.1,(pcM F d t len p4 k).2.1,(pcM F d t len p4 k).2.2.1,0):=by
     simp only [T23,T23c,hck,cond_true,bne_self_eq_false,cond_false,n0,n1,decide_false,hb,hk,hi,hr,Option.bind_some]
    simp only [L6_2,L6_2c,hc1,decide_true,cond_true,hrb,bne_self_eq_false,cond_false,ixn hr,hs,Bool.not_true,Option.bind_some,w64n (show k < 9223372036854775807 by omega)]
   ·have hc1:¬ ((t:Nat):Int) < ((mkP F (encP d t len p4)).length:Int):=by omega
    simp only [L6_2,L6_2c,hc1,decide_false,cond_false]
  simp only [hk,c1,decide_false,cond_false,bne_self_eq_false,hbl,hlo,hck,Option.bind_some,Bool.not_true,elimS,cond_true,beq_self_eq_true]
theorem grem_nat {a b:Nat} (h:0 < b):grem (a:Int) (b:Int)=some ((a % b:Nat):Int):=by
 unfold grem
 rw [if_neg (by omega),Int.ofNat_tmod]
theorem plaw5 {F:Nat} (hF:50000≤F) (h8:T8 F=some true) (p0 p1 p2:Int) (p3:List Rf) (p4:List (List UInt8)) (p5:UInt32) (p6:UInt16) (p7:UInt8) (hl:p4.length≤9223372036854775807):T5 F p0 p1 p2 p3 p4 p5 p6 p7=some true:=by
 simp only [T5,T5c,h8,Option.bind_some,Bool.not_true,cond_false]
 rcases made_ok hF p0 p1 p2 p3 p4 hl with ⟨a,b,c,d,e,f,g,h⟩ | ⟨d,t,len,H,hlen,h⟩
 ·simp only [h,Option.bind_some,Bool.not_false,cond_true]
 have ht16:=H.t16;have hd8:=H.d8;have hnd:=H.nd;have hd1:=H.d1;have hdt:=H.dt;have h64:=H.l64
 have hpl:(mkP F (encP d t len p4)).length=t:=by rw [mkP_len,encP_len]
 obtain ⟨ks,k1,k2,k3⟩:=some_ok (F:=F) (by omega) (l:=mkP F (encP d t len p4)) (g:=pcM F d t len p4) (by omega) (fun k hk=>mkP_at (by omega)) p5
 rw [hpl] at k2
 have kl:=nodup_le k1 k2
 have hS:=H.ok_S (F:=F) (by omega) (by omega)
 simp only [h,Option.bind_some,Bool.not_true,cond_false]
 cases h7:p7 == UInt8.ofNat 0 with
 | true=>simp only [cond_true]
 | false=>
 have h6:=p6.toNat_lt
 have w6:w64 (p6.toNat:Int)=(p6.toNat:Int):=w64_in (by omega) (by omega)
 have g1:grem (p6.toNat:Int) ((mkP F (encP d t len p4)).length:Int)=some ((p6.toNat % t:Nat):Int):=by rw [hpl];exact grem_nat (by omega)
 have hit:p6.toNat % t < t:=Nat.mod_lt _ (by omega)
 generalize p6.toNat % t=i at g1 hit
 have hi:inb (mkP F (encP d t len p4)).length (i:Int)=some i:=inbn (by omega)
 have hr:=mkP_at (F:=F) (d:=d) (len:=len) (bs:=p4) hit
 have hfit:=H.fit (F:=F) (by omega) (by omega) hit
 have hxl:=H.at_len hit
 have h1s:((encP d t len p4).map (hsh F)).getD i []=hsh F ((encP d t len p4).getD i []):=by
  have:i < (encP d t len p4).length:=by rw [encP_len];exact hit
  simp [this]
 have hpc:pcM F d t len p4 i=((sidM F d t len p4,(i:Int),()),(encP d t len p4).getD i [],(encP d t len p4).map (hsh F),()):=rfl
 rw [hpc] at hr hfit
 generalize (encP d t len p4).getD i []=x at hr hxl hfit h1s hpc
 have hP:okP F (sidM F d t len p4) (i:Int) x ((encP d t len p4).map (hsh F))=true:=by
  have h:=hfit
  unfold okF at h
  simp only [Bool.and_eq_true] at h
  exact h.2.2.2
 have hga:gapp ([]:List UInt8) x=some x:=by rw [gappn (by simp;omega)];rfl
 have g2:grem (p6.toNat:Int) (x.length:Int)=some ((p6.toNat % x.length:Nat):Int):=grem_nat (by omega)
 have hjl:p6.toNat % x.length < x.length:=Nat.mod_lt _ (by omega)
 generalize p6.toNat % x.length=j at g2 hjl
 have hj:inb x.length (j:Int)=some j:=inbn hjl
 have hv:x[j]? = some x[j]:=List.getElem?_eq_getElem hjl
 generalize hbad:List.set x j (x[j] ^^^ p7)=bad
 have hbl:bad.length=len:=by rw [← hbad,List.length_set];exact hxl
 have o1:=(t_of (F:=F) (by omega) (x:=x) (by omega)).1
 have o2:=(t_of (F:=F) (by omega) (x:=bad) (by omega)).1
 have hF1:=Fits_ok (F:=F) (by omega) (sidM F d t len p4) p0 (len:Int) (d:Int) (t:Int) (refs:=p3) (by omega) (sidM F d t len p4) (i:Int) x (sums:=(encP d t len p4).map (hsh F))
 rw [hS,hfit] at hF1
 have hV1:=verify_ok (F:=F) (by omega) (sidM F d t len p4) (i:Int) x (sums:=(encP d t len p4).map (hsh F))
 rw [hP] at hV1
 have hV2:=verify_ok (F:=F) (by omega) (sidM F d t len p4) (i:Int) bad (sums:=(encP d t len p4).map (hsh F))
 have hF2:=Fits_ok (F:=F) (by omega) (sidM F d t len p4) p0 (len:Int) (d:Int) (t:Int) (refs:=p3) (by omega) (sidM F d t len p4) (i:Int) bad (sums:=(encP d t len p4).map (hsh F))
 rw [hS] at hF2
 simp only [cond_false,w6,g1,hi,hr,hga,g2,hj,hv,hbad,o1,o2,hF1,hV1,hV2,Option.bind_some,Bool.and_self,Bool.not_true]
 cases hq:okP F (sidM F d t len p4) (i:Int) bad ((encP d t len p4).map (hsh F)) with
 | true=>
  unfold okP at hq
  simp only [Bool.and_eq_true,Int.toNat_natCast] at hq
  have h2:=hq.2.2.1
  rw [h1s] at h2
  simp only [cond_true,h2]
 | false=>
  have hfb:okF F (sidM F d t len p4) (len:Int) (t:Int) (sidM F d t len p4) (i:Int) bad ((encP d t len p4).map (hsh F))=false:=by unfold okF;rw [hq];simp
  rw [hfb] at hF2
  have hga2:gapp ([((sidM F d t len p4,(i:Int),()),bad,(encP d t len p4).map (hsh F),())]:List Pc) (ks.map (pcM F d t len p4))=some (((sidM F d t len p4,(i:Int),()),bad,(encP d t len p4).map (hsh F),()) :: ks.map (pcM F d t len p4)):=gappn (by simp;omega)
  have htk:takeP F (sidM F d t len p4) (len:Int) (t:Int) d (((sidM F d t len p4,(i:Int),()),bad,(encP d t len p4).map (hsh F),()) :: ks.map (pcM F d t len p4))=(ks.take d,(ks.take d).map fun i=>(encP d t len p4).getD i []):=by
   rw [← H.take_all (F:=F) (by omega) (by omega) k1 k2]
   unfold takeP
   rw [List.foldl_cons]
   congr 1
   unfold stepP
   simp only [hfb,Bool.false_and,Bool.and_false,cond_false]
  have hb:=H.back hF (by omega) (ks:=ks) (l:=((sidM F d t len p4,(i:Int),()),bad,(encP d t len p4).map (hsh F),()) :: ks.map (pcM F d t len p4)) (by simp;omega) (fun p hp=>by
   rcases List.mem_cons.1 hp with rfl | hp
   ·show bad.length≤40000;omega
   ·exact H.datas (by omega) k2 p hp) k1 k2 htk
  have hbn:=H.bn
  have hbk:=blocks_ok (F:=F) (by omega) (l:=p4) (by omega)
  simp only [cond_false,hF2,Bool.and_false,k3,hga2,Option.bind_some,T21,T21c,hb,List.length_map]
  by_cases hk:ks.length < d
  ·have c1:(ks.length:Int) < (d:Int):=by omega
   simp only [hk,c1,decide_true,cond_true,beq_self_eq_true]
  ·have c1:¬ (ks.length:Int) < (d:Int):=by omega
   simp only [hk,c1,decide_false,cond_false,cond_true,beq_self_eq_true,hbk,Option.bind_some]
theorem flaw6 (a0:Ty.den (.pr .i (.pr .i (.pr .i (.pr (.sl (.pr .s (.pr .i (.pr .i .un)))) (.pr (.sl (.sl .u8)) .un)))))) (a1:UInt32) (h:tyW (.pr .i (.pr .i (.pr .i (.pr (.sl (.pr .s (.pr .i (.pr .i .un)))) (.pr (.sl (.sl .u8)) .un))))) a0):T6 50000 a0.1 a0.2.1 a0.2.2.1 a0.2.2.2.1 a0.2.2.2.2.1 a1=some true:=plaw6 (by omega) awake8 _ _ _ _ _ _ (Nat.le_trans h.2.2.2.2.1.1 (by decide))
theorem flaw5 (a0:Ty.den (.pr .i (.pr .i (.pr .i (.pr (.sl (.pr .s (.pr .i (.pr .i .un)))) (.pr (.sl (.sl .u8)) .un)))))) (a1:UInt32) (a2:UInt16) (a3:UInt8) (h:tyW (.pr .i (.pr .i (.pr .i (.pr (.sl (.pr .s (.pr .i (.pr .i .un)))) (.pr (.sl (.sl .u8)) .un))))) a0):T5 50000 a0.1 a0.2.1 a0.2.2.1 a0.2.2.2.1 a0.2.2.2.2.1 a1 a2 a3=some true:=plaw5 (by omega) awake8 _ _ _ _ _ _ _ _ (Nat.le_trans h.2.2.2.2.1.1 (by decide))
end Go.Proofs.YtooplgiihmdfgaaDoor
