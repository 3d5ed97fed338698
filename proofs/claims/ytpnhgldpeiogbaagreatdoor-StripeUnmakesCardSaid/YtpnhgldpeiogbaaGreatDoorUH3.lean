/- The functions, each with its twin, and plain facts about them. -/
import Derived.Test.YtpnhgldpeiogbaaGreatDoorUH2
namespace Go.Proofs.YtpnhgldpeiogbaaGreatDoor
open Go.Tw
set_option linter.unusedSimpArgs false
set_option linter.unusedVariables false
abbrev Pc:=(List UInt8×Int×Unit)×List UInt8×List (List UInt8)×Unit
def mkP (F:Nat) (xs:List (List UInt8)):List Pc:=(List.range xs.length).map fun i:Nat=>((rt F F (xs.map (hsh F)),(i:Int),()),xs.getD i [],xs.map (hsh F),())
theorem clone_b {F:Nat} {x:List UInt8} (h:x.length≤1000000):T77 F x=some x:=by
 show (gapp ([]:List UInt8) x).bind some=_
 rw [gappn (by simp;omega)];rfl
theorem clone_s {F:Nat} {x:List (List UInt8)} (h:x.length≤1000000):T78 F x=some x:=by
 show (gapp ([]:List (List UInt8)) x).bind some=_
 rw [gappn (by simp;omega)];rfl
theorem encP_len (d t len:Nat) (bs:List (List UInt8)):(encP d t len bs).length=t:=by simp [encP]
theorem padB_len {d len:Nat} {bs:List (List UInt8)} (h:∀ b ∈ bs,b.length=len):∀ b ∈ padB d len bs,b.length=len:=fun b hb=>by
 rcases List.mem_append.1 hb with hb | hb
 ·exact h b hb
 ·have:=(List.mem_replicate.1 hb).2;subst this;simp
theorem encP_mem {d t len:Nat} {bs:List (List UInt8)} (h:∀ b ∈ bs,b.length=len):∀ x ∈ encP d t len bs,x.length=len:=fun x hx=>by
 obtain ⟨i,_,rfl⟩:=List.mem_map.1 hx
 rw [comb_len (fun b hb=>by rw [padB_len h b hb];simp)];simp
theorem hsh_len {F:Nat} (hF:2000 < F) {x:List UInt8} (hx:x.length≤65536):(hsh F x).length=32:=(t_of hF hx).2
theorem sums_loop {F:Nat} (hF:2000 < F) {xs:List (List UInt8)} (hl:xs.length≤100) (h:∀ x ∈ xs,x.length≤65536):iter (fun s:Int×List (List UInt8)=>L39_3 F xs (xs.length:Int) s.1 s.2) F ((0:Int),([]:List (List UInt8)))=some (.inl (xs.map (hsh F))):=by
 obtain ⟨z,hz,hQ⟩:=iter1 (f:=fun s:Int×List (List UInt8)=>L39_3 F xs (xs.length:Int) s.1 s.2)
  (fun s=>∃ k:Nat,s.1=(k:Int)∧k≤xs.length∧s.2=(xs.take k).map (hsh F)) (fun z=>z=.inl (xs.map (hsh F))) (fun s=>xs.length - s.1.toNat) (fun s hs=>by
   obtain ⟨k,e,hk,hl2⟩:=hs
   obtain ⟨s1,l⟩:=s
   simp only at e hl2
   subst e hl2
   rcases Nat.lt_or_ge k xs.length with hlt | hge
   ·have hc1:((k:Nat):Int) < (xs.length:Int):=by omega
    have hr:xs[k]? = some xs[k]:=List.getElem?_eq_getElem hlt
    have hix:=ixn hr
    have hx:=h _ (List.getElem_mem hlt)
    generalize xs[k]=x at hr hix hx
    have hof:=(t_of hF hx).1
    have hg:gapp ((xs.take k).map (hsh F)) [hsh F x]=some ((xs.take k).map (hsh F) ++ [hsh F x]):=gappn (by simp;omega)
    refine .inl ⟨(((k + 1:Nat):Int),(xs.take k).map (hsh F) ++ [hsh F x]),by simp only [L39_3,L39_3c,hc1,decide_true,cond_true,hix,hof,bne_self_eq_false,cond_false,hg,Option.bind_some,w64n (show k < 9223372036854775807 by omega)],⟨k + 1,rfl,by omega,by rw [takeS' hr];simp⟩,by simp only [Int.toNat_natCast];omega⟩
   ·have hkn:k=xs.length:=by omega
    subst hkn
    refine .inr ⟨.inl ((xs.take xs.length).map (hsh F)),?_,by rw [List.take_length]⟩
    simp [L39_3,L39_3c])
  F ((0:Int),([]:List (List UInt8))) ⟨0,rfl,by omega,rfl⟩ (by simp;omega)
 subst hQ
 exact hz
theorem pieces_loop {F:Nat} (hF:2000 < F) {xs:List (List UInt8)} (hl:xs.length≤100) (h:∀ x ∈ xs,x.length≤65536):iter (fun s:Int×List Pc=>L39_4 F (rt F F (xs.map (hsh F))) xs (xs.length:Int) (xs.map (hsh F)) s.1 s.2) F ((0:Int),([]:List Pc))=some (mkP F xs):=by
 obtain ⟨z,hz,hQ⟩:=iter1 (f:=fun s:Int×List Pc=>L39_4 F (rt F F (xs.map (hsh F))) xs (xs.length:Int) (xs.map (hsh F)) s.1 s.2)
  (fun s=>∃ k:Nat,s.1=(k:Int)∧k≤xs.length∧s.2=(List.range k).map fun i:Nat=>((rt F F (xs.map (hsh F)),(i:Int),()),xs.getD i [],xs.map (hsh F),())) (fun z=>z=mkP F xs) (fun s=>xs.length - s.1.toNat) (fun s hs=>by
   obtain ⟨k,e,hk,hl2⟩:=hs
   obtain ⟨s1,l⟩:=s
   simp only at e hl2
   subst e hl2
   rcases Nat.lt_or_ge k xs.length with hlt | hge
   ·have hc1:((k:Nat):Int) < (xs.length:Int):=by omega
    have hr:xs[k]? = some xs[k]:=List.getElem?_eq_getElem hlt
    have hix:=ixn hr
    have hx:=h _ (List.getElem_mem hlt)
    have hgd:xs.getD k []=xs[k]:=by simp [hlt]
    have hc:=clone_b (F:=F) (x:=xs[k]) (by omega)
    have hc2:=clone_s (F:=F) (x:=xs.map (hsh F)) (by simp;omega)
    have hg:∀ (l:List Pc) (y:Pc),l.length≤100->gapp l [y]=some (l ++ [y]):=fun l y h=>gappn (by simp;omega)
    refine .inl ⟨(((k + 1:Nat):Int),((List.range k).map fun i:Nat=>((rt F F (xs.map (hsh F)),(i:Int),()),xs.getD i [],xs.map (hsh F),())) ++ [((rt F F (xs.map (hsh F)),(k:Int),()),xs[k],xs.map (hsh F),())]),by simp only [L39_4,L39_4c,hc1,decide_true,cond_true,hix,hc,hc2,Option.bind_some,w64n (show k < 9223372036854775807 by omega)];rw [hg _ _ (by simp;omega)];rfl,⟨k + 1,rfl,by omega,by rw [List.range_succ,List.map_append,← hgd];rfl⟩,by simp only [Int.toNat_natCast];omega⟩
   ·have hkn:k=xs.length:=by omega
    subst hkn
    refine .inr ⟨_,?_,rfl⟩
    simp only [L39_4,L39_4c,show ¬ ((xs.length:Int) < (xs.length:Int)) by omega,decide_false,cond_false];rfl)
  F ((0:Int),([]:List Pc)) ⟨0,rfl,by omega,rfl⟩ (by simp;omega)
 subst hQ
 exact hz
theorem code_ok {F d t len:Nat} {bs:List (List UInt8)} (hF:2000 + len < F) (h1:1≤d) (h8:d≤8) (hdt:d≤t) (ht:t≤16) (hb1:1≤bs.length) (hbd:bs.length≤d) (hl1:1≤len) (hl2:len≤65536) (h:∀ b ∈ bs,b.length=len) :
  T39 F (d:Int) (t:Int) bs=some (rt F F ((encP d t len bs).map (hsh F)),0,mkP F (encP d t len bs)):=by
 have he:=encode_ok (F:=F) (.inr (by omega)) h1 h8 hdt ht hb1 hbd hl1 hl2 h
 have hm:=encP_mem (d:=d) (t:=t) h
 have hlen:=encP_len d t len bs
 generalize encP d t len bs=xs at he hm hlen
 have hs:=sums_loop (F:=F) (by omega) (xs:=xs) (by omega) (fun x hx=>by rw [hm x hx];exact hl2)
 have hp:=pieces_loop (F:=F) (by omega) (xs:=xs) (by omega) (fun x hx=>by rw [hm x hx];exact hl2)
 have hr:=(t_root (F:=F) (by omega) (l:=xs.map (hsh F)) (by simp;omega) (fun y hy=>by
  obtain ⟨x,hx,rfl⟩:=List.mem_map.1 hy
  exact hsh_len (by omega) (by rw [hm x hx];exact hl2))).1
 simp only [T39,T39c,he,Option.bind_some,bne_self_eq_false,cond_false,hs,elimS,hr,hp]
theorem has_ok {F:Nat} (hF:50 < F) {n:Int} (h0:0≤n) (h1:n≤32768) (c:Int):T38 F n c=some (clsOf n == c):=by
 have:=(class_in hF h0 h1).1
 simp only [T38,T38c,this,Option.bind_some,beq_self_eq_true,cond_true]
theorem r_leaf {F:Nat} {x:List UInt8} (hF:420 + x.length < F) (hb:x.length < 900000):T156 F x=some (sh F (0 :: x)):=by
 have hg:gapp ([(UInt8.ofNat 0)]:List UInt8) x=some (0 :: x):=gappn (by simp;omega)
 have:=(sh_some (F:=F) (x:=0 :: x) (by simp;omega) (by simp;omega)).1
 simp only [T156,T156c,hg,this,Option.bind_some]
theorem r_node {F:Nat} {x y:List UInt8} (hF:420 + x.length + y.length < F) (hb:x.length + y.length < 900000):T91 F x y=some (sh F (1 :: (x ++ y))):=by
 have hs:=(sh_some (F:=F) (x:=1 :: (x ++ y)) (by simp;omega) (by simp;omega)).1
 have gc:∀ {a b:List UInt8},a.length + b.length < 1000000000->gcat a b=some (a ++ b):=fun h=>by unfold gcat;rw [if_pos (by first | omega | (simp;omega))]
 have i0:ix ([[1],x,y]:List (List UInt8)) (0:Int)=some [1]:=ixn (i:=0) rfl
 have i1:ix ([[1],x,y]:List (List UInt8)) (1:Int)=some x:=ixn (i:=1) rfl
 have i2:ix ([[1],x,y]:List (List UInt8)) (2:Int)=some y:=ixn (i:=2) rfl
 have l3:(([[1],x,y]:List (List UInt8)).length:Int)=3:=rfl
 have w1:w64 ((0:Int) + 1)=1:=by decide
 have w2:w64 ((1:Int) + 1)=2:=by decide
 have w3:w64 ((2:Int) + 1)=3:=by decide
 have g1:gcat ([]:List UInt8) [1]=some [1]:=gc (by simp)
 have g2:gcat ([1]:List UInt8) x=some ([1] ++ x):=gc (by simp;omega)
 have g3:gcat ([1] ++ x) y=some ([1] ++ x ++ y):=gc (by simp;omega)
 obtain ⟨n,rfl⟩:∃ n,F=n + 4:=⟨F - 4,by omega⟩
 have hloop:iter (fun s:List UInt8×Int=>L130_2 (n + 4) [[1],x,y] (([[1],x,y]:List (List UInt8)).length:Int) s.1 s.2) (n + 4) (([]:List UInt8),(0:Int))=some ([1] ++ x ++ y):=by
  rw [l3]
  rw [it_again' (s':=([1],1)) (by simp only [L130_2,L130_2c,show ((0:Int) < 3) from by omega,decide_true,cond_true,i0,g1,Option.bind_some,w1]),
   it_again' (s':=([1] ++ x,2)) (by simp only [L130_2,L130_2c,show ((1:Int) < 3) from by omega,decide_true,cond_true,i1,g2,Option.bind_some,w2]),
   it_again' (s':=([1] ++ x ++ y,3)) (by simp only [L130_2,L130_2c,show ((2:Int) < 3) from by omega,decide_true,cond_true,i2,g3,Option.bind_some,w3]),
   it_out' (r:=[1] ++ x ++ y) (by simp only [L130_2,L130_2c,show ¬((3:Int) < 3) from by omega,decide_false,cond_false])]
 have hgs:gstr ([1] ++ x ++ y)=some (1 :: (x ++ y)):=by unfold gstr;rw [if_pos (by simp;omega)];simp
 simp only [T91,T91c,T130,T130c,hloop,hgs,hs,Option.bind_some]
theorem rsp_all:∀ n:Fin 140,2≤n.val->iter (fun s:Int=>L90_2 0 (n.val:Int) s) 10 (1:Int)=some ((sp n.val:Nat):Int):=by decide +kernel
theorem rsp_at {n:Nat} (h1:2≤n) (h2:n < 140) {F:Nat} (hF:10≤F):T90 F (n:Int)=some ((sp n:Nat):Int):=by
 have h:iter (fun s:Int=>L90_2 F (n:Int) s) F (1:Int)=some ((sp n:Nat):Int):=iter_mono (rsp_all ⟨n,h2⟩ h1) hF
 simp only [T90,T90c,h,Option.bind_some]
theorem rroot_g {F:Nat} (hF:2000 < F):∀ (g:Nat) (l:List (List UInt8)),l.length≤g->0 < g->l.length < 140->(∀ x ∈ l,x.length=32)->T51g F g l=some (rt F g l)
 | 0,l,hg,h0,hl,h=>by omega
 | g + 1,l,hg,h0,hl,h=>by
  show T51r F (T51g F g) l=_
  simp only [T51r,T51rc,rt]
  by_cases c0:l.length=0
  ·have e0:((l.length:Int) == 0)=true:=by simpa using c0
   have:=(sh_some (F:=F) (x:=[]) (by simp;omega) (by simp)).1
   simp only [e0,cond_true,this,Option.bind_some,if_pos c0]
  ·have e0:((l.length:Int) == 0)=false:=by simpa using c0
   by_cases c1:l.length=1
   ·have e1:((l.length:Int) == 1)=true:=by rw [c1];rfl
    simp only [e0,e1,cond_true,cond_false,if_neg c0,if_pos c1]
    cases l with
    | nil=>simp at c1
    | cons x l=>
     have:ix (x :: l) (0:Int)=some x:=ixn (i:=0) rfl
     rw [this];rfl
   ·have e1:((l.length:Int) == 1)=false:=by
     have:¬ (l.length:Int)=1:=by omega
     simpa using this
    obtain ⟨_,h1,h2⟩:=sp_at (n:=l.length) (by omega) hl F
    have h3:=rsp_at (n:=l.length) (by omega) hl (F:=F) (by omega)
    have ha:=rroot_g hF g (l.take (sp l.length)) (by simp;omega) (by omega) (by simp;omega) fun x hx=>h x (List.mem_of_mem_take hx)
    have hb:=rroot_g hF g (l.drop (sp l.length)) (by simp;omega) (by omega) (by simp;omega) fun x hx=>h x (List.mem_of_mem_drop hx)
    have la:=rt_len hF g (l.take (sp l.length)) (by simp;omega) (by simp;omega) fun x hx=>h x (List.mem_of_mem_take hx)
    have lb:=rt_len hF g (l.drop (sp l.length)) (by simp;omega) (by simp;omega) fun x hx=>h x (List.mem_of_mem_drop hx)
    have la:(rt F g (l.take (sp l.length))).length=32:=by
     rcases la with ⟨h3,h4⟩ | ha
     ·omega
     ·exact ha
    have lb:(rt F g (l.drop (sp l.length))).length=32:=by
     rcases lb with ⟨h3,h4⟩ | hb
     ·omega
     ·exact hb
    have hn:=r_node (F:=F) (x:=rt F g (l.take (sp l.length))) (y:=rt F g (l.drop (sp l.length))) (by omega) (by omega)
    simp only [e0,e1,cond_false,h3,Option.bind_some,gsl_lo (Nat.le_of_lt h2),gsl_hi (Nat.le_of_lt h2),ha,hb,hn,if_neg c0,if_neg c1]
theorem r_root {F:Nat} (hF:2000 < F) {l:List (List UInt8)} (hl:l.length < 140) (h:∀ x ∈ l,x.length=32):T51 F l=some (rt F F l):=rroot_g hF F l (by omega) (by omega) hl h
theorem rlp_blocks {F:Nat} (hF:2000 < F):∀ (n fuel:Nat) (x:List UInt8) (acc:List (List UInt8)),x.length≤512 * n->n < fuel->acc.length + n < 100000->iter (fun s:List UInt8×List (List UInt8)=>L127_2 F (512:Int) s.1 s.2) fuel (x,acc)=some (acc ++ blk F n x)
 | n,0,x,acc,_,hf,_=>by omega
 | 0,fuel + 1,x,acc,hx,hf,_=>by
  have:¬ (0:Int) < (x.length:Int):=by omega
  refine (it_out' (s:=(x,acc)) (r:=acc) (by simp only [L127_2,L127_2c,this,decide_false,cond_false])).trans (by simp only [blk,List.append_nil])
 | n + 1,fuel + 1,x,acc,hx,hf,ha=>by
  by_cases h0:x.length=0
  ·have:¬ (0:Int) < (x.length:Int):=by omega
   refine (it_out' (s:=(x,acc)) (r:=acc) (by simp only [L127_2,L127_2c,this,decide_false,cond_false])).trans (by simp only [blk,if_pos h0,List.append_nil])
  ·have h1:(0:Int) < (x.length:Int):=by omega
   have hm:min 512 x.length≤x.length:=Nat.min_le_right _ _
   have hl:=r_leaf (F:=F) (x:=x.take 512) (by simp;omega) (by simp;omega)
   have ht:x.take (min 512 x.length)=x.take 512:=by rw [← List.take_take,List.take_length]
   have hd:x.drop (min 512 x.length)=x.drop 512:=by
    rcases Nat.le_total 512 x.length with h | h
    ·rw [Nat.min_eq_left h]
    ·rw [Nat.min_eq_right h,List.drop_length,List.drop_eq_nil_of_le h]
   have hg:gapp acc ([sh F (0 :: x.take 512)]:List (List UInt8))=some (acc ++ [sh F (0 :: x.take 512)]):=gappn (by simp;omega)
   have ih:=rlp_blocks hF n fuel (x.drop 512) (acc ++ [sh F (0 :: x.take 512)]) (by simp;omega) (by omega) (by simp;omega)
   refine (it_again' (s:=(x,acc)) (s':=(x.drop 512,acc ++ [sh F (0 :: x.take 512)])) (by simp only [L127_2,L127_2c,h1,decide_true,cond_true,cut512,gsl_lo hm,gsl_hi hm,ht,hd,hl,hg,Option.bind_some])).trans (ih.trans (by simp only [blk,if_neg h0,List.append_assoc,List.singleton_append]))
theorem r_psum {F:Nat} (hF:2000 < F) {x:List UInt8} (hx:x.length≤65536):T50 F x=some (hsh F x):=by
 have hl:=rlp_blocks hF 128 F x [] (by omega) (by omega) (by simp)
 have hb:=blk_len F 128 x
 have h1:=r_root hF (l:=blk F 128 x) (by omega) (blk_32 hF 128 x)
 have h3:¬ (1048576:Int) < (x.length:Int):=by omega
 have h4:¬ (512:Int) < (1:Int):=by omega
 rw [List.nil_append] at hl
 have hB:T127 F x (512:Int)=some ((0:Int),blk F 128 x):=by
  simp only [T127,T127c,h3,h4,decide_false,cond_false,hl,Option.bind_some]
 simp only [T50,T50c,T88,T88c,hB,Option.bind_some,bne_self_eq_false,cond_false,h1]
 rfl
theorem ixor_n {a b:Nat} (ha:a < 256) (hb:b < 256):ixor (a:Int) (b:Int)=((a ^^^ b:Nat):Int):=by
 have h:a ^^^ b < 256:=Nat.xor_lt_two_pow (n:=8) ha hb
 have e:(BitVec.ofInt 64 (a:Int) ^^^ BitVec.ofInt 64 (b:Int)).toNat=a ^^^ b:=by
  rw [BitVec.toNat_xor,BitVec.ofInt_natCast,BitVec.ofInt_natCast,BitVec.toNat_ofNat,BitVec.toNat_ofNat,Nat.mod_eq_of_lt (by omega),Nat.mod_eq_of_lt (by omega)]
 show w64 (((BitVec.ofInt 64 (a:Int) ^^^ BitVec.ofInt 64 (b:Int)).toNat:Nat):Int)=_
 rw [e,w64_in (by omega) (by omega)]
theorem ixor8 (a b:UInt8):ixor (a.toNat:Int) (b.toNat:Int)=((a ^^^ b).toNat:Int):=by
 rw [ixor_n (by have:=a.toNat_lt;omega) (by have:=b.toNat_lt;omega),UInt8.toNat_xor]
theorem dblI (x:UInt8):(if (255:Int) < w64 ((x.toNat:Int) * 2 ^ min ((UInt64.ofNat 1).toNat) 64) then ixor (w64 ((x.toNat:Int) * 2 ^ min ((UInt64.ofNat 1).toNat) 64)) 285 else w64 ((x.toNat:Int) * 2 ^ min ((UInt64.ofNat 1).toNat) 64))=((gd x).toNat:Int):=
 allU (p:=fun x=>(if (255:Int) < w64 ((x.toNat:Int) * 2 ^ min ((UInt64.ofNat 1).toNat) 64) then ixor (w64 ((x.toNat:Int) * 2 ^ min ((UInt64.ofNat 1).toNat) 64)) 285 else w64 ((x.toNat:Int) * 2 ^ min ((UInt64.ofNat 1).toNat) 64))=((gd x).toNat:Int)) (by decide +kernel) x
theorem shr_next {k:Nat} (hk:k < 8) (b:UInt8):shr8 b (k + 1)=(shr8 b k) >>> 1:=by
 have:∀ k:_root_.Fin 8,∀ i:_root_.Fin 256,shr8 (UInt8.ofNat i.val) (k.val + 1)=(shr8 (UInt8.ofNat i.val) k.val) >>> 1:=by decide +kernel
 exact allU (p:=fun b=>shr8 b (k + 1)=(shr8 b k) >>> 1) (this ⟨k,hk⟩) b
theorem rmul_step (F:Nat) (b x s:UInt8) {k:Nat} (hk:k < 8):L138_2 F b (x.toNat:Int) (s.toNat:Int) (k:Int)=some (.inl (((gd x).toNat:Int),((s ^^^ bit0 (shr8 b k) x).toNat:Int),((k + 1:Nat):Int))):=by
 have h:(k:Int) < 8:=by omega
 have hg:gnn (k:Int)=some k:=by unfold gnn;rw [if_pos (by omega)];simp
 have hd:=dblI x
 have hw:=w64n (n:=k) (by omega)
 have e1:((shr8 b k &&& UInt8.ofNat 1) == UInt8.ofNat 1)=((shr8 b k &&& 1) == 1):=rfl
 simp only [L138_2,L138_2c,h,decide_true,cond_true,hg,Option.bind_some,hw,e1,ixor8]
 unfold bit0
 cases (shr8 b k &&& 1) == 1 with
 | true=>
  simp only [cond_true]
  by_cases hb:(255:Int) < w64 ((x.toNat:Int) * 2 ^ min ((UInt64.ofNat 1).toNat) 64)
  ·rw [if_pos hb] at hd;simp only [hb,decide_true,cond_true,hd]
  ·rw [if_neg hb] at hd;simp only [hb,decide_false,cond_false];rw [hd]
 | false=>
  simp only [cond_false,xz]
  by_cases hb:(255:Int) < w64 ((x.toNat:Int) * 2 ^ min ((UInt64.ofNat 1).toNat) 64)
  ·rw [if_pos hb] at hd;simp only [hb,decide_true,cond_true,hd]
  ·rw [if_neg hb] at hd;simp only [hb,decide_false,cond_false];rw [hd]
theorem rmul_loop (F:Nat) (b:UInt8):∀ (m k fuel:Nat) (x s:UInt8),k + m=8->m < fuel->iter (fun s:Int×Int×Int=>L138_2 F b s.1 s.2.1 s.2.2) fuel ((x.toNat:Int),(s.toNat:Int),(k:Int))=some ((s ^^^ gml m x (shr8 b k)).toNat:Int)
 | 0,k,fuel + 1,x,s,hk,_=>by
  have:¬ (k:Int) < 8:=by omega
  refine (it_out' (s:=((x.toNat:Int),(s.toNat:Int),(k:Int))) (r:=(s.toNat:Int)) (by simp only [L138_2,L138_2c,this,decide_false,cond_false])).trans ?_
  simp only [gml,xz]
 | m + 1,k,fuel + 1,x,s,hk,hf=>by
  refine (it_again' (s:=((x.toNat:Int),(s.toNat:Int),(k:Int))) (rmul_step F b x s (by omega))).trans ((rmul_loop F b m (k + 1) fuel _ _ (by omega) (by omega)).trans ?_)
  rw [shr_next (by omega)]
  simp only [gml,UInt8.xor_assoc]
theorem ofInt_toNat (x:UInt8):UInt8.ofInt (x.toNat:Int)=x:=allU (p:=fun x=>UInt8.ofInt (x.toNat:Int)=x) (by decide +kernel) x
theorem r_mul {F:Nat} (hF:20 < F) (a b:UInt8):T138 F a b=some (gm a b):=by
 have h:=rmul_loop F b 8 0 F a 0 rfl (by omega)
 have e:shr8 b 0=b:=allU (p:=fun b=>shr8 b 0=b) (by decide +kernel) b
 rw [e,zx] at h
 have h:iter (fun s:Int×Int×Int=>L138_2 F b s.1 s.2.1 s.2.2) F ((a.toNat:Int),(0:Int),(0:Int))=some ((gml 8 a b).toNat:Int):=h
 simp only [T138,T138c,h,Option.bind_some,ofInt_toNat];rfl
theorem ofInt_nat {i:Nat} (h:i < 256):UInt8.ofInt (i:Int)=UInt8.ofNat i:=by
 have:∀ i:_root_.Fin 256,UInt8.ofInt (i.val:Int)=UInt8.ofNat i.val:=by decide +kernel
 exact this ⟨i,h⟩
theorem gm_uniq {a x y:UInt8} (hx:gm a x=1) (hy:gm a y=1):x=y:=by
 have h1:gm x (gm a y)=x:=by rw [hy,gm_one]
 have h2:gm (gm x a) y=y:=by rw [gm_comm x a,hx,one_gm]
 rw [← h1,← gm_assoc,h2]
theorem one_ne:(0:UInt8) ≠ 1:=by decide
theorem r_inv {F:Nat} (hF:300 < F) (a:UInt8):T135 F a=some (gi a):=by
 obtain ⟨z,hz,hQ⟩:=iter1 (f:=fun s:Int=>L135_2 F a s)
  (fun s=>∃ k:Nat,s=(k:Int)∧1≤k∧k≤256∧∀ i:Nat,1≤i->i < k->gm a (UInt8.ofNat i) ≠ 1) (fun z=>z=.inl ()∧gi a=0∨z=.inr (gi a)) (fun s=>256 - s.toNat) (fun s hs=>by
   obtain ⟨k,e,hk1,hk,ha⟩:=hs
   subst e
   rcases Nat.lt_or_ge k 256 with hlt | hge
   ·have hc1:((k:Nat):Int) < 256:=by omega
    by_cases h1:gm a (UInt8.ofNat k)=1
    ·refine .inr ⟨.inr (UInt8.ofNat k),?_,.inr ?_⟩
     ·have e1:((1:UInt8) == UInt8.ofNat 1)=true:=rfl
      simp only [L135_2,L135_2c,hc1,decide_true,cond_true,ofInt_nat hlt,r_mul (show 20 < F by omega),Option.bind_some,h1,e1]
     ·have ha0:a ≠ 0:=fun e=>by rw [e,zero_gm] at h1;exact one_ne h1
      rw [gm_uniq h1 (gi_ok a ha0)]
    ·refine .inl ⟨((k + 1:Nat):Int),?_,⟨k + 1,rfl,by omega,by omega,fun i hi1 hi2=>?_⟩,by simp only [Int.toNat_natCast];omega⟩
     ·have e1:(gm a (UInt8.ofNat k) == UInt8.ofNat 1)=false:=by
       have h2:gm a (UInt8.ofNat k) ≠ UInt8.ofNat 1:=h1
       simpa using h2
      simp only [L135_2,L135_2c,hc1,decide_true,cond_true,ofInt_nat hlt,r_mul (show 20 < F by omega),Option.bind_some,e1,cond_false,w64n (show k < 9223372036854775807 by omega)]
     ·by_cases hik:i=k
      ·subst hik;exact h1
      ·exact ha i hi1 (by omega)
   ·have hkn:k=256:=by omega
    subst hkn
    refine .inr ⟨.inl (),?_,.inl ⟨rfl,?_⟩⟩
    ·simp [L135_2,L135_2c]
    ·by_cases ha0:a=0
     ·rw [ha0];exact gi_zero
     ·have h1:=gi_ok a ha0
      have h2:UInt8.ofNat (gi a).toNat=gi a:=UInt8.ofNat_toNat
      have h3:(gi a).toNat ≠ 0:=fun e=>by
       have:gi a=0:=UInt8.toNat_inj.1 (by simpa using e)
       rw [this,gm_zero] at h1;exact one_ne h1
      exact absurd (by rw [h2];exact h1) (ha (gi a).toNat (by omega) (by have:=(gi a).toNat_lt;omega)))
  F (1:Int) ⟨1,rfl,by omega,by omega,fun i h1 h2=>by omega⟩ (by simp;omega)
 simp only [T135,T135c,hz,Option.bind_some]
 rcases hQ with ⟨rfl,h⟩ | rfl
 ·rw [h];rfl
 ·rfl
theorem r_row {F d i:Nat} (hF:300 < F) (hd:d≤8) (hi:i < 16):T98 F (d:Int) (i:Int)=some (rowD d i):=by
 have hg:=gmaken (0:UInt8) (n:=d) (by omega)
 obtain ⟨r,r1,r2,_,r4⟩:=fill_loop (N:=d) (f:=fun s:Int×List UInt8=>L98_2 F (d:Int) (i:Int) s.1 s.2) (g:=fun c x=>if d≤i then gi (UInt8.ofNat (i ^^^ c)) else if i=c then 1 else x) (by omega)
  (fun c l h1 h2=>by
   have hc1:((c:Nat):Int) < (d:Int):=by omega
   have hb:inb l.length (c:Int)=some c:=inbn h1
   have hw:=w64n (n:=c) (by omega)
   have hx:=ixor_ij hi (show c < 8 by omega)
   by_cases hdi:d≤i
   ·have e1:¬ (i:Int) < (d:Int):=by omega
    have e2:(d:Int)≤(i:Int):=by omega
    simp only [L98_2,L98_2c,hc1,e1,e2,decide_true,decide_false,cond_true,cond_false,hx,r_inv hF,Option.bind_some,hb,hw,if_pos hdi]
   ·have e1:(i:Int) < (d:Int):=by omega
    have e2:¬ (d:Int)≤(i:Int):=by omega
    by_cases hic:i=c
    ·have e3:((i:Int) == (c:Int))=true:=by rw [hic];simp
     simp only [L98_2,L98_2c,hc1,e1,e2,e3,decide_true,decide_false,cond_true,cond_false,Option.bind_some,hb,hw,if_neg hdi,if_pos hic];rfl
    ·have e3:((i:Int) == (c:Int))=false:=by
      have:¬ (i:Int)=(c:Int):=by omega
      simpa using this
     simp only [L98_2,L98_2c,hc1,e1,e2,e3,decide_true,decide_false,cond_true,cond_false,hw,if_neg hdi,if_neg hic,List.set_getElem_self])
  (fun l hl=>by simp [L98_2,L98_2c])
  d 0 F (List.replicate d 0) (by omega) (by simp) (by omega)
 have r1:iter (fun s:Int×List UInt8=>L98_2 F (d:Int) (i:Int) s.1 s.2) F ((0:Int),List.replicate d 0)=some r:=r1
 have hr:r=rowD d i:=by
  apply List.ext_getElem
  ·simp [r2,rowD_len]
  ·intro c h1 h2
   rw [r4 c h1 (by simp;omega) (by omega)]
   simp [rowD,cell]
 subst hr
 simp only [T98,T98c,hg,Option.bind_some,r1]
def cmb1:List UInt8->List (List UInt8)->Nat->UInt8->UInt8
 | a :: r,b :: bs,k,acc=>cmb1 r bs k (acc ^^^ gm a (b.getD k 0))
 | [],_,_,acc=>acc
 | _,[],_,acc=>acc
theorem comb_get {len:Nat}:∀ {r:List UInt8} {bs:List (List UInt8)} {acc:List UInt8} {k:Nat},k < len->(∀ b ∈ bs,b.length=len)->acc.length=len->(comb r bs acc).getD k 0=cmb1 r bs k (acc.getD k 0)
 | a :: r,b :: bs,acc,k,hk,h,ha=>by
  have hb:=h b (by simp)
  simp only [comb,cmb1]
  rw [comb_get hk (fun b' hb'=>h b' (by simp [hb'])) (by rw [vadd_len (by omega),ha])]
  congr 1
  simp [vadd,List.getElem?_zipWith,hk,ha,hb]
 | [],_,acc,k,_,_,_=>by simp [comb,cmb1]
 | _ :: _,[],acc,k,_,_,_=>by simp [comb,cmb1]
theorem cmb1_pad {len n k:Nat}:∀ {r:List UInt8} {bs:List (List UInt8)} {acc:UInt8},cmb1 r (bs ++ List.replicate n (List.replicate len 0)) k acc=cmb1 r bs k acc
 | a :: r,b :: bs,acc=>by simp only [List.cons_append,cmb1];exact cmb1_pad
 | [],bs,acc=>by simp [cmb1]
 | a :: r,[],acc=>by
  have:∀ (n:Nat) (r:List UInt8) (acc:UInt8),cmb1 r (List.replicate n (List.replicate len 0)) k acc=acc:=by
   intro n
   induction n with
   | zero=>intro r acc;cases r<;>simp [cmb1]
   | succ n ih=>
    intro r acc
    cases r with
    | nil=>simp [cmb1]
    | cons a r=>
     have h0:(List.replicate len (0:UInt8)).getD k 0=0:=by
      rw [List.getD_eq_getElem?_getD,List.getElem?_replicate];split<;>rfl
     simp only [List.replicate_succ,cmb1,h0,gm_zero,xz];exact ih r acc
  simp only [List.nil_append,this,cmb1]
theorem cmb1_snoc:∀ (r:List UInt8) (bs:List (List UInt8)) (k:Nat) (acc a:UInt8) (b:List UInt8),r.length=bs.length->cmb1 (r ++ [a]) (bs ++ [b]) k acc=cmb1 r bs k acc ^^^ gm a (b.getD k 0)
 | [],[],k,acc,a,b,_=>rfl
 | x :: r,y :: bs,k,acc,a,b,h=>by simp only [List.cons_append,cmb1];exact cmb1_snoc r bs k _ a b (by simpa using h)
 | [],_ :: _,_,_,_,_,h=>by simp at h
 | _ :: _,[],_,_,_,_,h=>by simp at h
theorem cmb1_take:∀ (r:List UInt8) (bs:List (List UInt8)) (k:Nat) (acc:UInt8),cmb1 (r.take bs.length) bs k acc=cmb1 r bs k acc
 | [],bs,k,acc=>by simp
 | a :: r,[],k,acc=>by simp [cmb1]
 | a :: r,b :: bs,k,acc=>by simp only [List.length_cons,List.take_succ_cons,cmb1];exact cmb1_take r bs k _
theorem r_place {F len:Nat} (hF:300 < F) {bs:List (List UInt8)} {row:List UInt8} (hb:∀ b ∈ bs,b.length=len) (hl:bs.length≤row.length) (hl2:bs.length≤100) {k:Nat} {out:List UInt8} (hk:k < out.length) (ho:out.length=len) :
  iter (fun s:Int×List UInt8=>L120_4 F bs (k:Int) row s.1 s.2) F ((0:Int),out)=some (out.set k (cmb1 row bs k out[k])):=by
 obtain ⟨z,hz,hQ⟩:=iter1 (f:=fun s:Int×List UInt8=>L120_4 F bs (k:Int) row s.1 s.2)
  (fun s=>∃ c:Nat,s.1=(c:Int)∧c≤bs.length∧s.2=out.set k (cmb1 (row.take c) (bs.take c) k out[k])) (fun z=>z=out.set k (cmb1 row bs k out[k])) (fun s=>bs.length - s.1.toNat) (fun s hs=>by
   obtain ⟨c,e,hc,hl3⟩:=hs
   obtain ⟨s1,l⟩:=s
   simp only at e hl3
   subst e hl3
   rcases Nat.lt_or_ge c bs.length with hlt | hge
   ·have hc1:((c:Nat):Int) < (bs.length:Int):=by omega
    have hr:bs[c]? = some bs[c]:=List.getElem?_eq_getElem hlt
    have hrr:row[c]? = some (row[c]'(by omega)):=List.getElem?_eq_getElem (by omega)
    have hbl:=hb _ (List.getElem_mem hlt)
    generalize bs[c]=b at hr hbl
    generalize row[c]'(by omega)=a at hrr
    have hbk:b[k]? = some (b[k]'(by omega)):=List.getElem?_eq_getElem (by omega)
    have hgd:b.getD k 0=b[k]'(by omega):=by simp [show k < b.length by omega]
    have hi1:∀ y:UInt8,inb (out.set k y).length (k:Int)=some k:=fun y=>inbn (by simp;exact hk)
    have hi2:inb row.length (c:Int)=some c:=inbn (by omega)
    have hy:∀ y:UInt8,(out.set k y)[k]? = some y:=fun y=>List.getElem?_set_self hk
    refine .inl ⟨(((c + 1:Nat):Int),out.set k (cmb1 (row.take (c + 1)) (bs.take (c + 1)) k out[k])),?_,⟨c + 1,rfl,by omega,rfl⟩,by simp only [Int.toNat_natCast];omega⟩
    simp only [L120_4,L120_4c,hc1,decide_true,cond_true,hi1,hi2,hy,hrr,ixn hr,ixn hbk,r_mul (show 20 < F by omega),Option.bind_some,w64n (show c < 9223372036854775807 by omega),List.set_set]
    rw [takeS' hr,takeS' hrr,cmb1_snoc _ _ _ _ _ _ (by simp;omega),hgd]
   ·have hcn:c=bs.length:=by omega
    subst hcn
    refine .inr ⟨_,?_,rfl⟩
    rw [List.take_length,cmb1_take]
    simp only [L120_4,L120_4c,show ¬ ((bs.length:Int) < (bs.length:Int)) by omega,decide_false,cond_false])
  F ((0:Int),out) ⟨0,rfl,by omega,by simp [cmb1]⟩ (by simp;omega)
 subst hQ
 exact hz
theorem r_piece {F d i len:Nat} (hF:300 + len < F) (hd:d≤8) (hi:i < 16) {bs:List (List UInt8)} (hb1:1≤bs.length) (hbd:bs.length≤d) (hl2:len≤65536) (hb:∀ b ∈ bs,b.length=len):T120 F (d:Int) (i:Int) bs=some (comb (rowD d i) (padB d len bs) (List.replicate len 0)):=by
 have hrow:=r_row (F:=F) (by omega) hd hi
 have hi0:ix bs (0:Int)=some (bs[0]'(by omega)):=ixn (i:=0) (List.getElem?_eq_getElem (by omega))
 have hl0:=hb _ (List.getElem_mem (h:=(by omega:0 < bs.length)))
 have hg:=gmaken (0:UInt8) (n:=len) (by omega)
 obtain ⟨r,r1,r2,_,r4⟩:=fill_loop (N:=len) (f:=fun s:Int×List UInt8=>L120_3 F bs (rowD d i) s.1 s.2) (g:=fun k x=>cmb1 (rowD d i) bs k x) (by omega)
  (fun k l h1 h2=>by
   have hc1:((k:Nat):Int) < (l.length:Int):=by omega
   have hp:=r_place (F:=F) (by omega) hb (row:=rowD d i) (by rw [rowD_len];exact hbd) (by omega) h1 h2
   simp only [L120_3,L120_3c,hc1,decide_true,cond_true,hp,Option.bind_some,w64n (show k < 9223372036854775807 by omega)])
  (fun l hl=>by simp [L120_3,L120_3c,hl])
  len 0 F (List.replicate len 0) (by omega) (by simp) (by omega)
 have r1:iter (fun s:Int×List UInt8=>L120_3 F bs (rowD d i) s.1 s.2) F ((0:Int),List.replicate len 0)=some r:=r1
 have hr:r=comb (rowD d i) (padB d len bs) (List.replicate len 0):=by
  have hcl:(comb (rowD d i) (padB d len bs) (List.replicate len 0)).length=len:=by rw [comb_len (fun b hb'=>by rw [padB_len hb b hb'];simp)];simp
  apply List.ext_getElem
  ·rw [r2,hcl]
  ·intro k h1 h2
   have hk:k < len:=by omega
   rw [r4 k h1 (by simp;omega) (by omega)]
   have:=comb_get (len:=len) (r:=rowD d i) (bs:=padB d len bs) (acc:=List.replicate len 0) hk (padB_len hb) (by simp)
   have e1:(comb (rowD d i) (padB d len bs) (List.replicate len 0)).getD k 0=(comb (rowD d i) (padB d len bs) (List.replicate len 0))[k]:=by simp [h2]
   rw [← e1,this]
   unfold padB
   rw [cmb1_pad]
   congr 1
   simp [hk]
 subst hr
 simp only [T120,T120c,hrow,Option.bind_some,hi0,hl0,hg,r1]
theorem r_encode {F d t len:Nat} (hF:300 + len < F) (hd:d≤8) (ht:t≤16) {bs:List (List UInt8)} (hb1:1≤bs.length) (hbd:bs.length≤d) (hl2:len≤65536) (hb:∀ b ∈ bs,b.length=len):T82 F (d:Int) (t:Int) bs=some (encP d t len bs):=by
 obtain ⟨z,hz,hQ⟩:=iter1 (f:=fun s:Int×List (List UInt8)=>L82_2 F (d:Int) (t:Int) bs s.1 s.2)
  (fun s=>∃ k:Nat,s.1=(k:Int)∧k≤t∧s.2=encP d k len bs) (fun z=>z=encP d t len bs) (fun s=>t - s.1.toNat) (fun s hs=>by
   obtain ⟨k,e,hk,hl3⟩:=hs
   obtain ⟨s1,l⟩:=s
   simp only at e hl3
   subst e hl3
   rcases Nat.lt_or_ge k t with hlt | hge
   ·have hc1:((k:Nat):Int) < (t:Int):=by omega
    have hp:=r_piece hF hd (i:=k) (by omega) hb1 hbd hl2 hb
    have hg:gapp (encP d k len bs) [comb (rowD d k) (padB d len bs) (List.replicate len 0)]=some (encP d k len bs ++ [comb (rowD d k) (padB d len bs) (List.replicate len 0)]):=gappn (by rw [encP_len];simp;omega)
    exact .inl ⟨(((k + 1:Nat):Int),encP d k len bs ++ [comb (rowD d k) (padB d len bs) (List.replicate len 0)]),by simp only [L82_2,L82_2c,hc1,decide_true,cond_true,hp,hg,Option.bind_some,w64n (show k < 9223372036854775807 by omega)],⟨k + 1,rfl,by omega,by simp only [encP];rw [List.range_succ,List.map_append];rfl⟩,by simp only [Int.toNat_natCast];omega⟩
   ·have hkn:k=t:=by omega
    subst hkn
    refine .inr ⟨_,?_,rfl⟩
    simp only [L82_2,L82_2c,show ¬ ((k:Int) < (k:Int)) by omega,decide_false,cond_false])
  F ((0:Int),([]:List (List UInt8))) ⟨0,rfl,by omega,rfl⟩ (by simp;omega)
 subst hQ
 simp only [T82,T82c,hz,Option.bind_some]
theorem set2_get {α:Type} {l:List α} {c p:Nat} {x y:α} (hc:c < l.length) (hp:p < l.length) (hx:l[p]? = some x) (hy:l[c]? = some y) (i:Nat):((l.set c x).set p y)[i]? = l[if i=p then c else if i=c then p else i]?:=by
 by_cases h1:p=i
 ·subst h1;rw [List.getElem?_set_self (by simpa using hp),if_pos rfl,hy]
 ·rw [List.getElem?_set_ne h1,if_neg (fun e=>h1 e.symm)]
  by_cases h2:c=i
  ·subst h2;rw [List.getElem?_set_self hc,if_pos rfl,hx]
  ·rw [List.getElem?_set_ne h2,if_neg (fun e=>h2 e.symm)]
theorem Rows.swap {α:Type} {rows:List (Option (List α))} {out:List Nat} {gs:List (List α)} (H:Rows rows out gs) {c p qc qp:Nat} (hc:out[c]? = some qc) (hp:out[p]? = some qp):Rows rows ((out.set c qp).set p qc) ((gs.set c (gs.getD p [])).set p (gs.getD c [])):=by
 have hcl:=(List.getElem?_eq_some_iff.1 hc).1
 have hpl:=(List.getElem?_eq_some_iff.1 hp).1
 have hl:=H.len
 have e1:∀ i,i < gs.length->gs[i]? = some (gs.getD i []):=fun i h=>by rw [List.getD_eq_getElem?_getD,List.getElem?_eq_getElem h];rfl
 refine ⟨by simp [hl],fun i g h=>?_,nodup_of fun a b q ha hb=>?_⟩
 ·rw [set2_get (by omega) (by omega) (e1 p (by omega)) (e1 c (by omega))] at h
  rw [set2_get hcl hpl hp hc]
  exact H.at_ _ g h
 ·rw [set2_get hcl hpl hp hc] at ha hb
  have:=nodup_at H.nd ha hb
  split at this<;>split at this<;>first | omega | (split at this<;>first | omega | (split at this<;>omega))
theorem zeroR_ok {F n w:Nat} (hF:n < F) (hn:n≤1000) (hw:w≤1000000):∃ r,T136 F (n:Int) (w:Int)=some r∧Rows r.1 r.2 (List.replicate n (List.replicate w (0:UInt8))):=by
 obtain ⟨z,hz,hQ⟩:=iter1 (f:=fun s:Int×(List (Option (List UInt8))×List Nat)=>L136_2 F (n:Int) (w:Int) s.1 s.2)
  (fun s=>∃ k:Nat,s.1=(k:Int)∧k≤n∧Rows s.2.1 s.2.2 (List.replicate k (List.replicate w (0:UInt8)))) (fun z=>Rows z.1 z.2 (List.replicate n (List.replicate w (0:UInt8)))) (fun s=>n - s.1.toNat) (fun s hs=>by
   obtain ⟨k,e,hk,hR⟩:=hs
   obtain ⟨s1,⟨rows,out⟩⟩:=s
   simp only at e hR
   subst e
   rcases Nat.lt_or_ge k n with hlt | hge
   ·have hc1:((k:Nat):Int) < (n:Int):=by omega
    have hg:=gmaken (0:UInt8) (n:=w) (by omega)
    have hol:=hR.len
    rw [List.length_replicate] at hol
    have hga:gapp out (shO rows.length [0])=some (out ++ shO rows.length [0]):=gappn (by simp [shO];omega)
    have hR':=hR.app (List.replicate w (0:UInt8))
    rw [← List.replicate_succ'] at hR'
    exact .inl ⟨_,by simp only [L136_2,L136_2c,hc1,decide_true,cond_true,hg,hga,Option.bind_some,w64n (show k < 9223372036854775807 by omega)];rfl,⟨k + 1,rfl,by omega,hR'⟩,by simp only [Int.toNat_natCast];omega⟩
   ·have hkn:k=n:=by omega
    subst hkn
    exact .inr ⟨(rows,out),by simp only [L136_2,L136_2c,show ¬ ((k:Int) < (k:Int)) by omega,decide_false,cond_false],hR⟩)
  F ((0:Int),(([]:List (Option (List UInt8))),([]:List Nat))) ⟨0,rfl,by omega,Rows.nil⟩ (by simp;omega)
 exact ⟨z,by simp only [T136,T136c,hz,Option.bind_some],hQ⟩
theorem splice_all {a b:List UInt8} (h:a.length=b.length):splice a 0 b (Nat.min b.length a.length)=b:=by
 unfold splice
 rw [h,show Nat.min b.length b.length=b.length from Nat.min_self _,Nat.zero_add,List.take_zero,List.take_length,← h,List.drop_length,List.nil_append,List.append_nil]
theorem copyR_ok {F d w:Nat} (hF:2000 < F) (hd:d≤100) {m:List (List UInt8)} (hm:m.length=d) (hw:∀ x ∈ m,x.length=w) {r:List (Option (List UInt8))×List Nat} (H:Rows r.1 r.2 (List.replicate d (List.replicate w (0:UInt8)))) :
  ∃ z,iter (fun s:Int×(List (Option (List UInt8))×List Nat)=>L99_7 F m s.1 s.2) F ((0:Int),r)=some z∧Rows z.1 z.2 m:=by
 exact iter1 (f:=fun s:Int×(List (Option (List UInt8))×List Nat)=>L99_7 F m s.1 s.2)
  (fun s=>∃ k:Nat,s.1=(k:Int)∧k≤d∧∃ gs,Rows s.2.1 s.2.2 gs∧gs.length=d∧(∀ i,i < k->gs[i]? = m[i]?)∧∀ i,k≤i->i < d->gs[i]? = some (List.replicate w 0)) _ (fun s=>d - s.1.toNat) (fun s hs=>by
   obtain ⟨k,e,hk,gs,hR,hgl,h2,h3⟩:=hs
   obtain ⟨s1,⟨rows,out⟩⟩:=s
   simp only at e hR
   subst e
   rcases Nat.lt_or_ge k d with hlt | hge
   ·have hc1:((k:Nat):Int) < (m.length:Int):=by omega
    obtain ⟨q,a1,a2,a3⟩:=hR.get (h3 k (Nat.le_refl _) hlt)
    have hi:inb out.length (k:Int)=some k:=inbn (by rw [hR.len,hgl];exact hlt)
    have hr:m[k]? = some (m[k]'(by omega)):=List.getElem?_eq_getElem (by omega)
    have hxl:=hw _ (List.getElem_mem (h:=(by omega:k < m.length)))
    have hmk:m[k]? = some (m[k]'(by omega)):=hr
    generalize m[k]'(by omega)=x at hr hxl hmk
    have hsp:splice (List.replicate w (0:UInt8)) 0 x (Nat.min x.length (List.replicate w (0:UInt8)).length)=x:=splice_all (by simp [hxl])
    refine .inl ⟨_,by simp only [L99_7,L99_7c,hc1,decide_true,cond_true,hi,a1,a2,ixn hr,hsp,Option.bind_some,w64n (show k < 9223372036854775807 by omega)];rfl,⟨k + 1,rfl,by omega,_,hR.put a3 x,by simp [hgl],fun i hi=>?_,fun i hi hid=>?_⟩,by simp only [Int.toNat_natCast];omega⟩
    ·by_cases h:k=i
     ·subst h;rw [List.getElem?_set_self (by omega),hmk]
     ·rw [List.getElem?_set_ne h];exact h2 i (by omega)
    ·rw [List.getElem?_set_ne (by omega)];exact h3 i (by omega) hid
   ·have hkn:k=d:=by omega
    subst hkn
    have he:gs=m:=by
     apply List.ext_getElem?
     intro i
     rcases Nat.lt_or_ge i k with h | h
     ·exact h2 i h
     ·rw [List.getElem?_eq_none (by omega),List.getElem?_eq_none (by omega)]
    subst he
    have hc1:¬ ((k:Nat):Int) < (gs.length:Int):=by omega
    exact .inr ⟨(rows,out),by simp only [L99_7,L99_7c,hc1,decide_false,cond_false],hR⟩)
  F ((0:Int),r) ⟨0,rfl,by omega,_,H,by simp,fun i h=>by omega,fun i _ h=>by rw [List.getElem?_replicate,if_pos h]⟩ (by simp;omega)
theorem gt_get {gs:List (List UInt8)} {i k w:Nat} (h:(gs.getD i []).length=w) (hk:k < w):(gs.getD i [])[k]? = some (gt gs i k):=by
 show _=some ((gs.getD i []).getD k 0)
 rw [List.getD_eq_getElem?_getD (l:=gs.getD i []),List.getElem?_eq_getElem (by omega)];rfl
theorem findR_ok {F d w c p:Nat} (hF:2000 < F) (hd:d≤100) {rows:List (Option (List UInt8))} {out:List Nat} {gs:List (List UInt8)} (hR:Rows rows out gs) (hl:gs.length=d) (hw:∀ r ∈ gs,r.length=w) (hcw:c < w) (hcp:c≤p) (hp:p < d) (hz:gt gs p c ≠ 0) (h0:∀ i,c≤i->i < p->gt gs i c=0) :
  iter (fun s:Int=>L99_9 F (c:Int) (rows,out) s) F (c:Int)=some (p:Int):=by
 have hol:out.length=d:=by rw [hR.len,hl]
 obtain ⟨z,hz',hQ⟩:=iter1 (f:=fun s:Int=>L99_9 F (c:Int) (rows,out) s)
  (fun s=>∃ k:Nat,s=(k:Int)∧c≤k∧k≤p) (fun z=>z=(p:Int)) (fun s=>p + 1 - s.toNat) (fun s hs=>by
   obtain ⟨k,e,hck,hk⟩:=hs
   subst e
   have hc1:((k:Nat):Int) < (out.length:Int):=by omega
   obtain ⟨q,a1,a2,a3⟩:=hR.get (i:=k) (g:=gs.getD k []) (getD_at (by omega))
   have hrl:=hw _ (getD_mem (R:=gs) (i:=k) (by omega))
   have hi:inb out.length (k:Int)=some k:=inbn (by omega)
   have hi2:inb (gs.getD k []).length (c:Int)=some c:=inbn (by omega)
   have hx:=gt_get (gs:=gs) (i:=k) hrl hcw
   by_cases hkp:k=p
   ·subst hkp
    have e0:(gt gs k c == UInt8.ofNat 0)=false:=by
     have h2:gt gs k c ≠ UInt8.ofNat 0:=hz
     simpa using h2
    exact .inr ⟨(k:Int),by simp only [L99_9,L99_9c,hc1,decide_true,cond_true,hi,a1,a2,hi2,hx,e0,Option.bind_some,cond_false],rfl⟩
   ·have e0:(gt gs k c == UInt8.ofNat 0)=true:=by rw [h0 k hck (by omega)];rfl
    exact .inl ⟨((k + 1:Nat):Int),by simp only [L99_9,L99_9c,hc1,decide_true,cond_true,hi,a1,a2,hi2,hx,e0,Option.bind_some,w64n (show k < 9223372036854775807 by omega)],⟨k + 1,rfl,by omega,by omega⟩,by simp only [Int.toNat_natCast];omega⟩)
  F (c:Int) ⟨c,rfl,by omega,hcp⟩ (by simp;omega)
 subst hQ
 exact hz'
theorem scaleR_ok {F d w c:Nat} (hF:2000 + w < F) (hw2:w≤1000000) {rows:List (Option (List UInt8))} {out:List Nat} {gs:List (List UInt8)} (hR:Rows rows out gs) (hc:c < gs.length) {x:List UInt8} (hx:gs[c]? = some x) (hxl:x.length=w) (f:UInt8) :
  ∃ z,iter (fun s:Int×(List (Option (List UInt8))×List Nat)=>L99_10 F (c:Int) f s.1 s.2) F ((0:Int),(rows,out))=some z∧Rows z.1 z.2 (gs.set c (x.map (gm f))):=by
 exact iter1 (f:=fun s:Int×(List (Option (List UInt8))×List Nat)=>L99_10 F (c:Int) f s.1 s.2)
  (fun s=>∃ k:Nat,s.1=(k:Int)∧k≤w∧Rows s.2.1 s.2.2 (gs.set c ((x.take k).map (gm f) ++ x.drop k))) _ (fun s=>w - s.1.toNat) (fun s hs=>by
   obtain ⟨k,e,hk,hR⟩:=hs
   obtain ⟨s1,⟨rows,out⟩⟩:=s
   simp only at e hR
   subst e
   have hol:out.length=gs.length:=by rw [hR.len];simp
   obtain ⟨q,a1,a2,a3⟩:=hR.get (i:=c) (g:=(x.take k).map (gm f) ++ x.drop k) (by rw [List.getElem?_set_self hc])
   have hi:inb out.length (c:Int)=some c:=inbn (by omega)
   have hyl:((x.take k).map (gm f) ++ x.drop k).length=w:=by simp;omega
   rcases Nat.lt_or_ge k w with hlt | hge
   ·have hr:x[k]? = some (x[k]'(by omega)):=List.getElem?_eq_getElem (by omega)
    have hdr:=drop_at hr
    have htk:=takeS' hr
    generalize x[k]'(by omega)=a at hr hdr htk
    have hya:((x.take k).map (gm f) ++ x.drop k)[k]? = some a:=by
     rw [List.getElem?_append_right (by simp;omega),hdr]
     simp [show min k x.length=k by omega]
    have hset:List.set ((x.take k).map (gm f) ++ x.drop k) k (gm a f)=(x.take (k + 1)).map (gm f) ++ x.drop (k + 1):=by
     rw [List.set_append_right _ _ (by simp;omega),hdr,htk,gm_comm a f]
     simp [show min k x.length=k by omega]
    generalize (x.take k).map (gm f) ++ x.drop k=y at hR a2 hyl hya hset
    have hc1:((k:Nat):Int) < (y.length:Int):=by omega
    have hi2:inb y.length (k:Int)=some k:=inbn (by omega)
    have hmu:=r_mul (F:=F) (by omega) a f
    have hR':=hR.put a3 (List.set y k (gm a f))
    rw [List.set_set] at hR'
    refine .inl ⟨_,by simp only [L99_10,L99_10c,hi,a1,a2,hc1,decide_true,cond_true,hi2,hya,hmu,Option.bind_some,w64n (show k < 9223372036854775807 by omega)];rfl,⟨k + 1,rfl,by omega,?_⟩,by simp only [Int.toNat_natCast];omega⟩
    rw [← hset];exact hR'
   ·have hkn:k=w:=by omega
    subst hkn
    have hc1:¬ ((k:Nat):Int) < (((x.take k).map (gm f) ++ x.drop k).length:Int):=by omega
    refine .inr ⟨(rows,out),by simp only [L99_10,L99_10c,hi,a1,a2,hc1,decide_false,cond_false,Option.bind_some],?_⟩
    rw [← hxl,List.take_length,List.drop_length,List.append_nil] at hR
    exact hR)
  F ((0:Int),(rows,out)) ⟨0,rfl,by omega,by
   have:gs.set c ((x.take 0).map (gm f) ++ x.drop 0)=gs:=by
    apply List.ext_getElem?
    intro i
    by_cases h:c=i
    ·subst h;rw [List.getElem?_set_self hc,hx];simp
    ·rw [List.getElem?_set_ne h]
   rw [this];exact hR⟩ (by simp;omega)
theorem rowR_ok {F w c i:Nat} (hF:2000 + w < F) (hw2:w≤1000000) {rows:List (Option (List UInt8))} {out:List Nat} {gs:List (List UInt8)} (hR:Rows rows out gs) (hc:c < gs.length) (hi:i < gs.length) (hic:i ≠ c) {x s:List UInt8} (hx:gs[i]? = some x) (hxl:x.length=w) (hs:gs[c]? = some s) (hsl:s.length=w) (g:UInt8) :
  ∃ z,iter (fun s:Int×(List (Option (List UInt8))×List Nat)=>L99_12 F (c:Int) (i:Int) g s.1 s.2) F ((0:Int),(rows,out))=some z∧Rows z.1 z.2 (gs.set i (vadd g x s)):=by
 have hne:((i:Int) != (c:Int))=true:=by
  have:¬ (i:Int)=(c:Int):=by omega
  simpa using this
 exact iter1 (f:=fun s:Int×(List (Option (List UInt8))×List Nat)=>L99_12 F (c:Int) (i:Int) g s.1 s.2)
  (fun st=>∃ k:Nat,st.1=(k:Int)∧k≤w∧Rows st.2.1 st.2.2 (gs.set i ((vadd g x s).take k ++ x.drop k))) _ (fun st=>w - st.1.toNat) (fun st hst=>by
   obtain ⟨k,e,hk,hR⟩:=hst
   obtain ⟨s1,⟨rows,out⟩⟩:=st
   simp only at e hR
   subst e
   have hvl:(vadd g x s).length=w:=by rw [vadd_len (by omega),hxl]
   have hol:out.length=gs.length:=by rw [hR.len];simp
   obtain ⟨q,a1,a2,a3⟩:=hR.get (i:=i) (g:=(vadd g x s).take k ++ x.drop k) (by rw [List.getElem?_set_self hi])
   obtain ⟨q2,b1,b2,b3⟩:=hR.get (i:=c) (g:=s) (by rw [List.getElem?_set_ne hic];exact hs)
   have hii:inb out.length (i:Int)=some i:=inbn (by omega)
   have hcc:inb out.length (c:Int)=some c:=inbn (by omega)
   have hyl:((vadd g x s).take k ++ x.drop k).length=w:=by simp;omega
   rcases Nat.lt_or_ge k w with hlt | hge
   ·have hr:x[k]? = some (x[k]'(by omega)):=List.getElem?_eq_getElem (by omega)
    have hr2:s[k]? = some (s[k]'(by omega)):=List.getElem?_eq_getElem (by omega)
    have hvk:(vadd g x s)[k]? = some (x[k]'(by omega) ^^^ gm g (s[k]'(by omega))):=by
     unfold vadd
     rw [List.getElem?_zipWith,hr,hr2]
    have hdr:=drop_at hr
    generalize x[k]'(by omega)=a at hr hdr hvk
    generalize s[k]'(by omega)=b at hr2 hvk
    have htk:=takeS' hvk
    have hya:((vadd g x s).take k ++ x.drop k)[k]? = some a:=by
     rw [List.getElem?_append_right (by simp;omega),hdr]
     simp [show min k (vadd g x s).length=k by omega]
    have hset:List.set ((vadd g x s).take k ++ x.drop k) k (a ^^^ gm g b)=(vadd g x s).take (k + 1) ++ x.drop (k + 1):=by
     rw [List.set_append_right _ _ (by simp;omega),hdr,htk]
     simp [show min k (vadd g x s).length=k by omega]
    generalize (vadd g x s).take k ++ x.drop k=y at hR a2 hyl hya hset
    have hc1:((k:Nat):Int) < (y.length:Int):=by omega
    have hi2:inb y.length (k:Int)=some k:=inbn (by omega)
    have hi3:inb s.length (k:Int)=some k:=inbn (by omega)
    have hmu:=r_mul (F:=F) (by omega) g b
    have hR':=hR.put a3 (List.set y k (a ^^^ gm g b))
    rw [List.set_set] at hR'
    refine .inl ⟨_,by simp only [L99_12,L99_12c,hne,hii,hcc,a1,a2,b1,b2,hc1,decide_true,cond_true,hi2,hi3,hya,hr2,hmu,Option.bind_some,w64n (show k < 9223372036854775807 by omega)];rfl,⟨k + 1,rfl,by omega,?_⟩,by simp only [Int.toNat_natCast];omega⟩
    rw [← hset];exact hR'
   ·have hkn:k=w:=by omega
    subst hkn
    have hc1:¬ ((k:Nat):Int) < (((vadd g x s).take k ++ x.drop k).length:Int):=by omega
    refine .inr ⟨(rows,out),by simp only [L99_12,L99_12c,hne,cond_true,hii,a1,a2,hc1,decide_false,cond_false,Option.bind_some],?_⟩
    have e1:(vadd g x s).take k ++ x.drop k=vadd g x s:=by
     rw [List.take_of_length_le (by omega),List.drop_of_length_le (by omega),List.append_nil]
    rw [e1] at hR
    exact hR)
  F ((0:Int),(rows,out)) ⟨0,rfl,by omega,by
   have:gs.set i ((vadd g x s).take 0 ++ x.drop 0)=gs:=by
    apply List.ext_getElem?
    intro j
    by_cases h:i=j
    ·subst h;rw [List.getElem?_set_self hi,hx];simp
    ·rw [List.getElem?_set_ne h]
   rw [this];exact hR⟩ (by simp;omega)
theorem clearR_ok {F d w c:Nat} (hF:2000 + w < F) (hd:d≤100) (hw2:w≤1000000) {rows:List (Option (List UInt8))} {out:List Nat} {R:List (List UInt8)} (hl:R.length=d) (hw:∀ r ∈ R,r.length=w) (hcw:c < w) (hc:c < d) (hR:Rows rows out (R.set c ((R.getD c []).map (gm (gi (gt R c c)))))) :
  ∃ z,iter (fun s:Int×(List (Option (List UInt8))×List Nat)=>L99_11 F (c:Int) (c:Int) s.1 s.2) F ((0:Int),(rows,out))=some z∧Rows z.1 z.2 (clr R c):=by
 have cg:∀ i,i < d->(clr R c).getD i []=if i=c then (R.getD c []).map (gm (gi (gt R c c))) else vadd (gt R i c) (R.getD i []) ((R.getD c []).map (gm (gi (gt R c c)))):=fun i hi=>by
  unfold clr
  rw [List.getD_eq_getElem?_getD,List.getElem?_map,List.getElem?_range (by omega)];rfl
 have hcl:(clr R c).length=d:=by simp [clr,hl]
 have hrl:(R.getD c []).length=w:=hw _ (getD_mem (by omega))
 generalize hs:(R.getD c []).map (gm (gi (gt R c c)))=s at hR cg
 have hsl:s.length=w:=by rw [← hs,List.length_map];exact hrl
 exact iter1 (f:=fun x:Int×(List (Option (List UInt8))×List Nat)=>L99_11 F (c:Int) (c:Int) x.1 x.2)
  (fun x=>∃ k:Nat,x.1=(k:Int)∧k≤d∧∃ gs,Rows x.2.1 x.2.2 gs∧gs.length=d∧(∀ i,i < k->i < d->gs[i]? = some ((clr R c).getD i []))∧(∀ i,k≤i->i < d->i ≠ c->gs[i]? = some (R.getD i []))∧gs[c]? = some s) _ (fun x=>d - x.1.toNat) (fun x hs'=>by
   obtain ⟨k,e,hk,gs,hG,a1,a2,a3,a4⟩:=hs'
   obtain ⟨s1,⟨rows,out⟩⟩:=x
   simp only at e hG
   subst e
   have hol:out.length=d:=by rw [hG.len,a1]
   rcases Nat.lt_or_ge k d with hlt | hge
   ·have hc1:((k:Nat):Int) < (out.length:Int):=by omega
    have hik:inb out.length (k:Int)=some k:=inbn (by omega)
    by_cases hkc:k=c
    ·subst hkc
     obtain ⟨q,b1,b2,b3⟩:=hG.get a4
     have hi2:inb s.length (k:Int)=some k:=inbn (by omega)
     have hx:s[k]? = some (s[k]'(by omega)):=List.getElem?_eq_getElem (by omega)
     have hno:iter (fun x:Int×(List (Option (List UInt8))×List Nat)=>L99_12 F (k:Int) (k:Int) (s[k]'(by omega)) x.1 x.2) F ((0:Int),(rows,out))=some (rows,out):=by
      obtain ⟨f,rfl⟩:∃ f,F=f + 1:=⟨F - 1,by omega⟩
      have e1:((k:Int) != (k:Int))=false:=by simp
      exact it_out' (by simp only [L99_12,L99_12c,e1,cond_false])
     refine .inl ⟨_,by simp only [L99_11,L99_11c,hc1,decide_true,cond_true,hik,b1,b2,hi2,hx,hno,Option.bind_some,w64n (show k < 9223372036854775807 by omega)];rfl,⟨k + 1,rfl,by omega,gs,hG,a1,fun i hi hid=>?_,fun i hi hid hne=>a3 i (by omega) hid hne,a4⟩,by simp only [Int.toNat_natCast];omega⟩
     by_cases h:i=k
     ·subst h;rw [a4,cg i hid,if_pos rfl]
     ·exact a2 i (by omega) hid
    ·have hrk:=a3 k (Nat.le_refl _) hlt hkc
     have hrkl:(R.getD k []).length=w:=hw _ (getD_mem (by omega))
     obtain ⟨q,b1,b2,b3⟩:=hG.get hrk
     have hi2:inb (R.getD k []).length (c:Int)=some c:=inbn (by omega)
     have hx:=gt_get (gs:=R) (i:=k) hrkl hcw
     obtain ⟨z,hz,hRz⟩:=rowR_ok (F:=F) hF hw2 hG (by omega) (by omega) hkc hrk hrkl a4 hsl (gt R k c)
     refine .inl ⟨_,by simp only [L99_11,L99_11c,hc1,decide_true,cond_true,hik,b1,b2,hi2,hx,hz,Option.bind_some,w64n (show k < 9223372036854775807 by omega)];rfl,⟨k + 1,rfl,by omega,_,hRz,by simp [a1],fun i hi hid=>?_,fun i hi hid hne=>?_,?_⟩,by simp only [Int.toNat_natCast];omega⟩
     ·by_cases h:k=i
      ·subst h;rw [List.getElem?_set_self (by omega),cg k hid,if_neg hkc]
      ·rw [List.getElem?_set_ne h];exact a2 i (by omega) hid
     ·rw [List.getElem?_set_ne (by omega)];exact a3 i (by omega) hid hne
     ·rw [List.getElem?_set_ne hkc];exact a4
   ·have hkn:k=d:=by omega
    subst hkn
    have he:gs=clr R c:=by
     apply List.ext_getElem?
     intro i
     rcases Nat.lt_or_ge i k with h | h
     ·rw [a2 i h h,getD_at (by omega)]
     ·rw [List.getElem?_eq_none (by omega),List.getElem?_eq_none (by omega)]
    subst he
    have hc1:¬ ((k:Nat):Int) < (out.length:Int):=by omega
    exact .inr ⟨(rows,out),by simp only [L99_11,L99_11c,hc1,decide_false,cond_false],hG⟩)
  F ((0:Int),(rows,out)) ⟨0,rfl,by omega,_,hR,by simp [hl],fun i h=>by omega,fun i h1 h2 h3=>by rw [List.getElem?_set_ne (fun e=>h3 e.symm)];exact getD_at (by omega),List.getElem?_set_self (by omega)⟩ (by simp;omega)
theorem colsR_ok (F:Nat) {m:List (List UInt8)} {w:Nat} (h0:m ≠ []) (hw:∀ x ∈ m,x.length=w):T137 F m=some (w:Int):=by
 obtain ⟨a,l,rfl⟩:∃ a l,m=a :: l:=by
  cases m with
  | nil=>exact absurd rfl h0
  | cons a l=>exact ⟨a,l,rfl⟩
 have e:(((a :: l).length:Int) == 0)=false:=by
  have:¬ ((a :: l).length:Int)=0:=by simp;omega
  simpa using this
 have hi:ix (a :: l) (0:Int)=some a:=ixn (i:=0) rfl
 simp only [T137,T137c,e,cond_false,hi,Option.bind_some,hw a (by simp)]
theorem reduceR_ok {F d w:Nat} (hF:2000 + w < F) (hd0:0 < d) (hd:d≤100) (hdw:d≤w) (hw2:w≤1000000) {m:List (List UInt8)} (hm:m.length=d) (hw:∀ x ∈ m,x.length=w)
  (hA:∀ x:Nat->UInt8,(∀ i,i < d->dsum d (fun k=>gm (gt m i k) (x k))=0)->∀ k,k < d->x k=0) :
  ∃ R' pv,T99 F m=some (R',pv)∧EI d w d (gt m) (fun _=>True) R':=by
 have hc:=colsR_ok F (m:=m) (w:=w) (fun e=>by rw [e] at hm;simp at hm;omega) hw
 obtain ⟨r0,hz,hR0⟩:=zeroR_ok (F:=F) (n:=d) (w:=w) (by omega) (by omega) hw2
 obtain ⟨r1,hz1,hR1⟩:=copyR_ok (F:=F) (by omega) hd hm hw hR0
 have hE0:=EI.start (d:=d) (w:=w) (Lp:=fun _=>True) (R:=m) hm hw (fun _ _=>trivial)
 obtain ⟨z,hz2,R',hR',hE'⟩:=iter1 (f:=fun s:Int×(List (Option (List UInt8))×List Nat)×List Int=>L99_8 F m s.1 s.2.1 s.2.2)
  (fun x=>∃ c:Nat,x.1=(c:Int)∧c≤w∧∃ R,Rows x.2.1.1 x.2.1.2 R∧EI d w (min c d) (gt m) (fun _=>True) R∧x.2.2.length=min c d) (fun z=>∃ R,Rows z.1.1 z.1.2 R∧EI d w d (gt m) (fun _=>True) R) (fun x=>w - x.1.toNat) (fun x hs'=>by
   obtain ⟨c,e,hcw,R,hR,hE,hpv⟩:=hs'
   obtain ⟨s1,⟨rows,out⟩,pv⟩:=x
   simp only at e hR hpv
   subst e
   have hl:=hE.len
   have hol:out.length=d:=by rw [hR.len,hl]
   rcases Nat.lt_or_ge c w with hlt | hge
   ·have hc1:((c:Nat):Int) < (w:Int):=by omega
    rcases Nat.lt_or_ge c d with hcd | hcd
    ·rw [Nat.min_eq_left (by omega)] at hE hpv
     obtain ⟨p,p1,p2,p3,p4⟩:=hE.piv hdw hcd hA
     have hfd:=findR_ok (F:=F) (by omega) hd hR hl hE.wid hlt p1 p2 p3 p4
     have hne:((p:Int) == (out.length:Int))=false:=by
      have:¬ (p:Int)=(out.length:Int):=by omega
      simpa using this
     have hip:inb out.length (p:Int)=some p:=inbn (by omega)
     have hic:inb out.length (c:Int)=some c:=inbn (by omega)
     obtain ⟨qp,a1,a2,a3⟩:=hR.get (i:=p) (g:=R.getD p []) (getD_at (by omega))
     obtain ⟨qc,b1,b2,b3⟩:=hR.get (i:=c) (g:=R.getD c []) (getD_at (by omega))
     have hip2:inb (List.set out c qp).length (p:Int)=some p:=inbn (by simp;omega)
     have hic2:inb (List.set (List.set out c qp) p qc).length (c:Int)=some c:=inbn (by simp;omega)
     have hRs:=hR.swap b3 a3
     have hsl:(swp R c p).length=d:=by simp [swp,hl]
     have hsw:∀ r ∈ swp R c p,r.length=w:=fun r hr=>by
      unfold swp at hr
      rcases List.mem_or_eq_of_mem_set hr with hr | rfl
      ·rcases List.mem_or_eq_of_mem_set hr with hr | rfl
       ·exact hE.wid r hr
       ·exact hE.wid _ (getD_mem (by omega))
      ·exact hE.wid _ (getD_mem (by omega))
     have hRs:Rows rows (List.set (List.set out c qp) p qc) (swp R c p):=hRs
     have hst:=hE.step hcd p1 p2 p3 (fun _ _ _ _=>trivial) (fun _ _ _ _ _ _ _=>trivial)
     generalize swp R c p=S at hRs hsl hsw hst
     obtain ⟨q,d1,d2,d3⟩:=hRs.get (i:=c) (g:=S.getD c []) (getD_at (by omega))
     have hsc:=hsw _ (getD_mem (R:=S) (i:=c) (by omega))
     have hi3:inb (S.getD c []).length (c:Int)=some c:=inbn (by omega)
     have hx:=gt_get (gs:=S) (i:=c) hsc hlt
     have hinv:=r_inv (F:=F) (by omega) (gt S c c)
     obtain ⟨z1,hz1,hRz1⟩:=scaleR_ok (F:=F) (d:=d) (w:=w) hF hw2 hRs (by omega) (getD_at (by omega)) hsc (gi (gt S c c))
     obtain ⟨z2,hz2,hRz2⟩:=clearR_ok (F:=F) hF hd hw2 hsl hsw hlt hcd hRz1
     have hga:gapp pv ([(c:Int)]:List Int)=some (pv ++ [(c:Int)]):=gappn (by simp;omega)
     refine .inl ⟨(((c + 1:Nat):Int),z2,pv ++ [(c:Int)]),?_,⟨c + 1,rfl,by omega,_,hRz2,by rw [Nat.min_eq_left (by omega)];exact hst,by simp [hpv];omega⟩,by simp only [Int.toNat_natCast];omega⟩
     simp only [L99_8,L99_8c,hc,hc1,decide_true,cond_true,hpv,hfd,hne,cond_false,hip,hic,a1,a2,b1,b2,hip2,hic2,d1,d2,hi3,hx,hinv,hz1,hz2,hga,Option.bind_some,w64n (show c < 9223372036854775807 by omega)]
    ·rw [Nat.min_eq_right hcd] at hE hpv
     have hfd:iter (fun s:Int=>L99_9 F (c:Int) (rows,out) s) F (d:Int)=some (d:Int):=by
      obtain ⟨f,rfl⟩:∃ f,F=f + 1:=⟨F - 1,by omega⟩
      have hn:¬ (d:Int) < (out.length:Int):=by omega
      exact it_out' (by simp only [L99_9,L99_9c,hn,decide_false,cond_false])
     have he:((d:Int) == (out.length:Int))=true:=by rw [hol];simp
     refine .inl ⟨(((c + 1:Nat):Int),(rows,out),pv),?_,⟨c + 1,rfl,by omega,R,hR,by rw [Nat.min_eq_right (by omega)];exact hE,by rw [Nat.min_eq_right (by omega)];exact hpv⟩,by simp only [Int.toNat_natCast];omega⟩
     simp only [L99_8,L99_8c,hc,hc1,decide_true,cond_true,hpv,hfd,he,Option.bind_some,w64n (show c < 9223372036854775807 by omega)]
   ·have hkn:c=w:=by omega
    subst hkn
    rw [Nat.min_eq_right hdw] at hE
    exact .inr ⟨((rows,out),pv),by simp only [L99_8,L99_8c,hc,Option.bind_some,show ¬ ((c:Int) < (c:Int)) by omega,decide_false,cond_false],R,hR,hE⟩)
  F ((0:Int),r1,([]:List Int)) ⟨0,rfl,by omega,m,hR1,by rw [Nat.min_eq_left (by omega)];exact hE0,by simp⟩ (by simp;omega)
 refine ⟨R',z.2,?_,hE'⟩
 have hma:=hR'.mat_eq
 simp only [T99,T99c,hc,hm,hz,hz1,hz2,hma,Option.bind_some]
theorem reconR_ok {F d len:Nat} (hF:3000 + len < F) (h1:1≤d) (h8:d≤8) (hl2:len≤65536) {is:List Nat} (hil:is.length=d) (hn:is.Nodup) (hi:∀ i ∈ is,i < 16) {ps:List (List UInt8)} (hp:ps.length=d) (hpl:∀ p ∈ ps,p.length=len) :
  ∃ xs:List (List UInt8),T56 F (d:Int) (is.map fun i:Nat=>(i:Int)) ps=some xs∧xs.length=d∧(∀ x ∈ xs,x.length=len)∧pcs d len is xs=ps:=by
 have hml:(is.map (rowD d)).length=d:=by simp [hil]
 have hjl:(joinR (is.map (rowD d)) ps).length=d:=by simp [joinR,hil,hp]
 have hia:∀ j,j < d->∃ i,is[j]? = some i∧i < 16:=fun j hj=>⟨is[j]'(by omega),List.getElem?_eq_getElem (by omega),hi _ (List.getElem_mem _)⟩
 have hpa:∀ j,j < d->∃ p,ps[j]? = some p∧p.length=len:=fun j hj=>⟨ps[j]'(by omega),List.getElem?_eq_getElem (by omega),hpl _ (List.getElem_mem _)⟩
 have hma:∀ j i,is[j]? = some i->(is.map (rowD d))[j]? = some (rowD d i):=fun j i h=>by rw [List.getElem?_map,h];rfl
 have hjw:∀ x ∈ joinR (is.map (rowD d)) ps,x.length=d + len:=fun x hx=>by
  obtain ⟨j,hj⟩:=List.mem_iff_getElem?.1 hx
  have hjd:j < d:=by have:=(List.getElem?_eq_some_iff.1 hj).1;omega
  obtain ⟨i,i1,i2⟩:=hia j hjd
  obtain ⟨p,p1,p2⟩:=hpa j hjd
  rw [join_at (hma j i i1) p1] at hj
  cases hj
  rw [List.length_append,rowD_len,p2]
 have hjg:∀ j k,j < d->k < d->gt (joinR (is.map (rowD d)) ps) j k=gt (is.map (rowD d)) j k:=fun j k hj hk=>by
  obtain ⟨i,i1,i2⟩:=hia j hj
  obtain ⟨p,p1,p2⟩:=hpa j hj
  rw [gt_at (join_at (hma j i i1) p1),gt_at (hma j i i1),app_get1 (by rw [rowD_len];exact hk)]
 obtain ⟨R',pv,hre,hE⟩:=reduceR_ok (F:=F) (d:=d) (w:=d + len) (by omega) (by omega) (by omega) (by omega) (by omega) hjl hjw (fun x hx=>rows_ind hil hn hi h8 x fun j hj=>by
  rw [← hx j hj]
  exact dsum_congr fun k hk=>by rw [hjg j k hj hk])
 have hRl:=hE.len
 have hw:iter (fun s:Int×List (List UInt8)=>L56_3 F (d:Int) (is.map fun i:Nat=>(i:Int)) ps s.1 s.2) F ((0:Int),([]:List (List UInt8)))=some (joinR (is.map (rowD d)) ps):=by
  obtain ⟨z,hz,hQ⟩:=iter1 (f:=fun s:Int×List (List UInt8)=>L56_3 F (d:Int) (is.map fun i:Nat=>(i:Int)) ps s.1 s.2)
   (fun s=>∃ k:Nat,s.1=(k:Int)∧k≤d∧s.2=(joinR (is.map (rowD d)) ps).take k) (fun z=>z=joinR (is.map (rowD d)) ps) (fun s=>d - s.1.toNat) (fun s hs=>by
    obtain ⟨k,e,hk,hl⟩:=hs
    obtain ⟨s1,l⟩:=s
    simp only at e hl
    subst e hl
    rcases Nat.lt_or_ge k d with hlt | hge
    ·have hc1:((k:Nat):Int) < (d:Int):=by omega
     obtain ⟨i,i1,i2⟩:=hia k hlt
     obtain ⟨p,p1,p2⟩:=hpa k hlt
     have hj:=join_at (hma k i i1) p1
     have hr:(is.map fun i:Nat=>(i:Int))[k]? = some (i:Int):=by rw [List.getElem?_map,i1];rfl
     have hrow:=r_row (F:=F) (by omega) h8 i2
     have g1:gapp (rowD d i) p=some (rowD d i ++ p):=gappn (by rw [rowD_len];omega)
     have g2:gapp ((joinR (is.map (rowD d)) ps).take k) [rowD d i ++ p]=some ((joinR (is.map (rowD d)) ps).take k ++ [rowD d i ++ p]):=gappn (by simp;omega)
     exact .inl ⟨(((k + 1:Nat):Int),(joinR (is.map (rowD d)) ps).take k ++ [rowD d i ++ p]),by simp only [L56_3,L56_3c,hc1,decide_true,cond_true,ixn hr,ixn p1,hrow,g1,g2,Option.bind_some,w64n (show k < 9223372036854775807 by omega)],⟨k + 1,rfl,by omega,by rw [takeS' hj]⟩,by simp only [Int.toNat_natCast];omega⟩
    ·have hkn:k=d:=by omega
     subst hkn
     exact .inr ⟨(joinR (is.map (rowD k)) ps).take k,by simp only [L56_3,L56_3c,show ¬ ((k:Int) < (k:Int)) by omega,decide_false,cond_false],by rw [List.take_of_length_le (by omega)]⟩)
   F ((0:Int),([]:List (List UInt8))) ⟨0,rfl,by omega,rfl⟩ (by simp;omega)
  subst hQ
  exact hz
 have ho:iter (fun s:Int×List (List UInt8)=>L56_4 F (d:Int) R' s.1 s.2) F ((0:Int),([]:List (List UInt8)))=some (R'.map fun r=>r.drop d):=by
  obtain ⟨z,hz,hQ⟩:=iter1 (f:=fun s:Int×List (List UInt8)=>L56_4 F (d:Int) R' s.1 s.2)
   (fun s=>∃ k:Nat,s.1=(k:Int)∧k≤d∧s.2=(R'.take k).map fun r=>r.drop d) (fun z=>z=R'.map fun r=>r.drop d) (fun s=>d - s.1.toNat) (fun s hs=>by
    obtain ⟨k,e,hk,hl⟩:=hs
    obtain ⟨s1,l⟩:=s
    simp only at e hl
    subst e hl
    rcases Nat.lt_or_ge k d with hlt | hge
    ·have hc1:((k:Nat):Int) < (d:Int):=by omega
     have hr:R'[k]? = some (R'[k]'(by omega)):=List.getElem?_eq_getElem (by omega)
     have hrl:=hE.wid _ (List.getElem_mem (h:=(by omega:k < R'.length)))
     generalize R'[k]'(by omega)=x at hr hrl
     have hs:gsl x (d:Int) (x.length:Int)=some (x.drop d):=gsl_hi (by omega)
     have g2:gapp ((R'.take k).map fun r=>r.drop d) [x.drop d]=some (((R'.take k).map fun r=>r.drop d) ++ [x.drop d]):=gappn (by simp;omega)
     exact .inl ⟨(((k + 1:Nat):Int),((R'.take k).map fun r=>r.drop d) ++ [x.drop d]),by simp only [L56_4,L56_4c,hc1,decide_true,cond_true,ixn hr,hs,g2,Option.bind_some,w64n (show k < 9223372036854775807 by omega)],⟨k + 1,rfl,by omega,by rw [takeS' hr,List.map_append];rfl⟩,by simp only [Int.toNat_natCast];omega⟩
    ·have hkn:k=d:=by omega
     subst hkn
     exact .inr ⟨(R'.take k).map fun r=>r.drop k,by simp only [L56_4,L56_4c,show ¬ ((k:Int) < (k:Int)) by omega,decide_false,cond_false],by rw [List.take_of_length_le (by omega)]⟩)
   F ((0:Int),([]:List (List UInt8))) ⟨0,rfl,by omega,rfl⟩ (by simp;omega)
  subst hQ
  exact hz
 have hxl:∀ x ∈ R'.map fun r=>r.drop d,x.length=len:=fun x hx=>by
  obtain ⟨r,hr,rfl⟩:=List.mem_map.1 hx
  rw [List.length_drop,hE.wid r hr];omega
 refine ⟨R'.map fun r=>r.drop d,by simp only [T56,T56c,hw,hre,ho,Option.bind_some],by simp [hRl],hxl,?_⟩
 have hzl:(List.replicate len (0:UInt8)).length=len:=by simp
 have hz0:∀ t,(List.replicate len (0:UInt8)).getD t 0=0:=fun t=>by
  rw [List.getD_eq_getElem?_getD,List.getElem?_replicate];split<;>rfl
 apply List.ext_getElem
 ·simp [pcs,hil,hp]
 ·intro j j1 j2
  have hj:j < d:=by omega
  obtain ⟨i,i1,i2⟩:=hia j hj
  obtain ⟨p,p1,p2⟩:=hpa j hj
  have e1:(pcs d len is (R'.map fun r=>r.drop d))[j]=comb (rowD d i) (R'.map fun r=>r.drop d) (List.replicate len 0):=by
   have h:(pcs d len is (R'.map fun r=>r.drop d))[j]? = some (comb (rowD d i) (R'.map fun r=>r.drop d) (List.replicate len 0)):=by
    unfold pcs
    rw [List.getElem?_map,i1];rfl
   rw [List.getElem?_eq_getElem j1] at h
   exact Option.some.inj h
  have e2:ps[j]=p:=by
   rw [List.getElem?_eq_getElem j2] at p1
   exact Option.some.inj p1
  rw [e1,e2]
  have hcl:(comb (rowD d i) (R'.map fun r=>r.drop d) (List.replicate len 0)).length=len:=by rw [comb_len (fun b hb=>by rw [hxl b hb,hzl]),hzl]
  apply List.ext_getElem
  ·omega
  ·intro t t1 t2
   have g1:∀ (l:List UInt8) (h:t < l.length),l[t]=l.getD t 0:=fun l h=>by simp [h]
   rw [g1 _ t1,g1 _ t2,comb_gd (by rw [rowD_len];simp [hRl]) (fun b hb=>by rw [hxl b hb,hzl]),hz0,zx]
   have hs:=hE.sol (t:=t) (by omega) hj
   have hg:gt (joinR (is.map (rowD d)) ps) j (d + t)=p.getD t 0:=by
    rw [gt_at (join_at (hma j i i1) p1)]
    have:=app_get (a:=rowD d i) (b:=p) (k:=t)
    rw [rowD_len] at this
    exact this
   rw [hg] at hs
   rw [hs,List.length_map,hRl]
   refine dsum_congr fun k hk=>?_
   rw [hjg j k hj hk,gt_at (hma j i i1)]
   congr 1
   have hr:=getD_at (R:=R') (i:=k) (by omega)
   rw [List.getD_eq_getElem?_getD (l:=R'.map fun r=>r.drop d),List.getElem?_map,hr]
   show ((R'.getD k []).drop d).getD t 0=(R'.getD k []).getD (d + t) 0
   rw [List.getD_eq_getElem?_getD (l:=(R'.getD k []).drop d),List.getD_eq_getElem?_getD (l:=R'.getD k []),List.getElem?_drop]
def okS (id:List UInt8) (vault block data total:Int) (refs:List Rf):Bool:=
 decide (id.length=32∧0≤vault∧vault≤11∧1≤data∧data≤8∧data≤total∧total≤16∧1≤refs.length∧(refs.length:Int)≤data) && (vRs refs && refs.all fun r=>clsOf r.2.2.1 == block)
theorem valid_d (F:Nat) (data total:Int):T35 F data total=some (decide (1≤data∧data≤8∧data≤total∧total≤16)):=by
 simp only [T35,T35c]
 by_cases h1:1≤data<;>by_cases h2:data≤8<;>by_cases h3:data≤total<;>by_cases h4:total≤16<;>simp [h1,h2,h3,h4]
theorem class_all {F:Nat} (hF:2000 < F) {refs:List Rf} (hl:refs.length≤1000) (hv:∀ r ∈ refs,0≤r.2.2.1∧r.2.2.1≤32768) (c:Int) :
  iter (fun s=>L16_2 F refs (refs.length:Int) c s) F (0:Int)=some (bif refs.all (fun r=>clsOf r.2.2.1 == c) then .inl () else .inr (1:Int)):=by
 obtain ⟨z,hz,hQ⟩:=iter1 (f:=fun s:Int=>L16_2 F refs (refs.length:Int) c s)
  (fun s=>∃ k:Nat,s=(k:Int)∧k≤refs.length∧(refs.drop k).all (fun r=>clsOf r.2.2.1 == c)=refs.all (fun r=>clsOf r.2.2.1 == c)) (fun z=>z=(bif refs.all (fun r=>clsOf r.2.2.1 == c) then .inl () else .inr (1:Int))) (fun s=>refs.length - s.toNat) (fun s hs=>by
   obtain ⟨k,e,hk,ha⟩:=hs
   subst e
   rcases Nat.lt_or_ge k refs.length with hlt | hge
   ·have hc1:((k:Nat):Int) < (refs.length:Int):=by omega
    have hr:refs[k]? = some refs[k]:=List.getElem?_eq_getElem hlt
    have hix:=ixn hr
    have hx:=hv _ (List.getElem_mem hlt)
    have hd:=drop_at hr
    generalize refs[k]=x at hr hix hx hd
    have hh:=has_ok (F:=F) (by omega) hx.1 hx.2 c
    rw [hd,List.all_cons] at ha
    cases h1:clsOf x.2.2.1 == c with
    | false=>
     rw [h1] at hh
     rw [h1,Bool.false_and] at ha
     exact .inr ⟨.inr (1:Int),by simp only [L16_2,L16_2c,hc1,decide_true,cond_true,hix,hh,Option.bind_some,Bool.not_false],by rw [← ha];rfl⟩
    | true=>
     rw [h1] at hh
     rw [h1,Bool.true_and] at ha
     exact .inl ⟨((k + 1:Nat):Int),by simp only [L16_2,L16_2c,hc1,decide_true,cond_true,hix,hh,Option.bind_some,Bool.not_true,cond_false,w64n (show k < 9223372036854775807 by omega)],⟨k + 1,rfl,by omega,ha⟩,by simp only [Int.toNat_natCast];omega⟩
   ·have hkn:k=refs.length:=by omega
    subst hkn
    rw [List.drop_length] at ha
    refine .inr ⟨.inl (),?_,by rw [← ha];rfl⟩
    simp [L16_2,L16_2c])
  F (0:Int) ⟨0,rfl,by omega,rfl⟩ (by simp;omega)
 subst hQ
 exact hz
theorem check_ok {F:Nat} (hF:2000 < F) (id:List UInt8) (vault block data total:Int) {refs:List Rf} (hl:refs.length≤1000):T16 F id vault block data total refs=some (bif okS id vault block data total refs then (0:Int) else (1:Int)):=by
 have h30:=valid30 (refs:=refs) hl hF
 have bad:∀ {p:Prop} [Decidable p] {c:Bool},¬ p->(bif (decide p && c) then (0:Int) else (1:Int))=1:=fun {p} _ c h=>by simp [h]
 simp only [T16,T16c,h30,valid_d,Option.bind_some]
 unfold okS
 by_cases c0:id.length=32
 case neg=>
  have:((id.length:Int) != 32)=true:=by
   have:¬ (id.length:Int)=32:=by omega
   simpa using this
  simp only [this,cond_true];rw [bad (fun h=>c0 h.1)]
 have e0:((id.length:Int) != 32)=false:=by rw [c0];rfl
 simp only [e0,cond_false]
 by_cases c1:vault < 0
 ·simp only [c1,decide_true,cond_true];rw [bad (by omega)]
 simp only [c1,decide_false,cond_false]
 by_cases c2:11 < vault
 ·simp only [c2,decide_true,cond_true];rw [bad (by omega)]
 simp only [c2,decide_false,cond_false]
 by_cases c3:1≤data∧data≤8∧data≤total∧total≤16
 case neg=>simp only [c3,decide_false,Bool.not_false,cond_true];rw [bad (fun h=>c3 ⟨h.2.2.2.1,h.2.2.2.2.1,h.2.2.2.2.2.1,h.2.2.2.2.2.2.1⟩)]
 have c3':decide (1≤data∧data≤8∧data≤total∧total≤16)=true:=by simpa using c3
 simp only [c3',Bool.not_true,cond_false]
 by_cases c4:(refs.length:Int) < 1
 ·simp only [c4,decide_true,cond_true];rw [bad (by omega)]
 simp only [c4,decide_false,cond_false]
 by_cases c5:data < (refs.length:Int)
 ·simp only [c5,decide_true,cond_true];rw [bad (by omega)]
 simp only [c5,decide_false,cond_false]
 cases c6:vRs refs with
 | false=>simp only [Bool.not_false,cond_true,Bool.false_and,Bool.and_false,cond_false]
 | true=>
 have hp:decide (id.length=32∧0≤vault∧vault≤11∧1≤data∧data≤8∧data≤total∧total≤16∧1≤refs.length∧(refs.length:Int)≤data)=true:=by apply decide_eq_true;omega
 have hlo:=class_all hF hl (vRs_size c6) block
 simp only [Bool.not_true,cond_false,Bool.true_and,hlo,Option.bind_some,hp]
 cases refs.all (fun r=>clsOf r.2.2.1 == block)<;>rfl
def all32 (sums:List (List UInt8)):Bool:=sums.all fun s=>s.length == 32
def okP (F:Nat) (id:List UInt8) (index:Int) (data:List UInt8) (sums:List (List UInt8)):Bool:=
 decide (id.length=32∧1≤sums.length∧sums.length≤16∧0≤index∧index < (sums.length:Int)∧1≤data.length∧data.length≤65536) && (all32 sums && (sums.getD index.toNat [] == hsh F data && rt F F sums == id))
theorem len32 (s:List UInt8):((s.length:Int) != 32) = !(s.length == 32):=by
 by_cases h:s.length=32
 ·have:((s.length:Int) != 32)=false:=by rw [h];rfl
  rw [this,h];rfl
 ·have h1:(s.length == 32)=false:=by simpa using h
  have h2:((s.length:Int) != 32)=true:=by
   have:¬ (s.length:Int)=32:=by omega
   simpa using this
  rw [h1,h2];rfl
theorem sums_ok {F:Nat} (hF:2000 < F) {sums:List (List UInt8)} (hl:sums.length≤1000):T46 F sums=some (!all32 sums):=by
 have h:∃ z,iter (fun s=>L83_2 F sums (sums.length:Int) s) F (0:Int)=some z∧(z=.inl ()∧all32 sums=true∨∃ k:Nat,z=.inr (k:Int)∧all32 sums=false):=by
  exact iter1 (f:=fun s:Int=>L83_2 F sums (sums.length:Int) s)
   (fun s=>∃ k:Nat,s=(k:Int)∧k≤sums.length∧(sums.drop k).all (fun s=>s.length == 32)=all32 sums) _ (fun s=>sums.length - s.toNat) (fun s hs=>by
    obtain ⟨k,e,hk,ha⟩:=hs
    subst e
    rcases Nat.lt_or_ge k sums.length with hlt | hge
    ·have hc1:((k:Nat):Int) < (sums.length:Int):=by omega
     have hr:sums[k]? = some sums[k]:=List.getElem?_eq_getElem hlt
     have hix:=ixn hr
     have hd:=drop_at hr
     generalize sums[k]=x at hr hix hd
     rw [hd,List.all_cons] at ha
     have ht:T47 F x=some (!(x.length == 32)):=by simp only [T47,T47c,len32]
     cases h1:x.length == 32 with
     | false=>
      rw [h1] at ht
      rw [h1,Bool.false_and] at ha
      exact .inr ⟨.inr (k:Int),by simp only [L83_2,L83_2c,hc1,decide_true,cond_true,hix,ht,Option.bind_some,Bool.not_false],.inr ⟨k,rfl,ha.symm⟩⟩
     | true=>
      rw [h1] at ht
      rw [h1,Bool.true_and] at ha
      exact .inl ⟨((k + 1:Nat):Int),by simp only [L83_2,L83_2c,hc1,decide_true,cond_true,hix,ht,Option.bind_some,Bool.not_true,cond_false,w64n (show k < 9223372036854775807 by omega)],⟨k + 1,rfl,by omega,ha⟩,by simp only [Int.toNat_natCast];omega⟩
    ·have hkn:k=sums.length:=by omega
     subst hkn
     rw [List.drop_length] at ha
     refine .inr ⟨.inl (),?_,.inl ⟨rfl,by rw [← ha];rfl⟩⟩
     simp [L83_2,L83_2c])
   F (0:Int) ⟨0,rfl,by omega,rfl⟩ (by simp;omega)
 obtain ⟨z,hz,hQ⟩:=h
 simp only [T46,T46c,T83,T83c,hz,Option.bind_some]
 rcases hQ with ⟨rfl,h⟩ | ⟨k,rfl,h⟩
 ·rw [h];rfl
 ·have:(0:Int)≤(k:Int):=by omega
  rw [h];simp only [elimS,Option.bind_some,this,decide_true,Bool.not_false]
theorem all32_mem {sums:List (List UInt8)} (h:all32 sums=true):∀ x ∈ sums,x.length=32:=fun x hx=>by
 have:=List.all_eq_true.1 h x hx
 simpa using this
theorem beqL_comm (a b:List UInt8):(a == b)=(b == a):=by
 by_cases h:a=b
 ·rw [h]
 ·have h1:(a == b)=false:=by simpa using h
  have h2:(b == a)=false:=by simpa using fun e:b=a=>h e.symm
  rw [h1,h2]
theorem verify_ok {F:Nat} (hF:2000 < F) (id:List UInt8) (index:Int) (data:List UInt8) {sums:List (List UInt8)}:T18 F id index data sums=some (okP F id index data sums):=by
 have bad:∀ {p:Prop} [Decidable p] {c:Bool},¬ p->(decide p && c)=false:=fun {p} _ c h=>by simp [h]
 simp only [T18,T18c]
 unfold okP
 by_cases c0:id.length=32
 case neg=>
  have:((id.length:Int) != 32)=true:=by
   have:¬ (id.length:Int)=32:=by omega
   simpa using this
  simp only [this,cond_true];rw [bad (fun h=>c0 h.1)]
 have e0:((id.length:Int) != 32)=false:=by rw [c0];rfl
 simp only [e0,cond_false]
 by_cases c1:(sums.length:Int) < 1
 ·simp only [c1,decide_true,cond_true];rw [bad (by omega)]
 simp only [c1,decide_false,cond_false]
 by_cases c2:16 < (sums.length:Int)
 ·simp only [c2,decide_true,cond_true];rw [bad (by omega)]
 have hs:=sums_ok hF (sums:=sums) (by omega)
 simp only [c2,decide_false,cond_false,hs,Option.bind_some]
 cases ha:all32 sums with
 | false=>simp only [Bool.not_false,cond_true,Bool.false_and,Bool.and_false]
 | true=>
 simp only [Bool.not_true,cond_false,Bool.true_and]
 by_cases c3:index < 0
 ·simp only [c3,decide_true,cond_true];rw [bad (by omega)]
 simp only [c3,decide_false,cond_false]
 by_cases c4:(sums.length:Int)≤index
 ·simp only [c4,decide_true,cond_true];rw [bad (by omega)]
 simp only [c4,decide_false,cond_false]
 by_cases c5:(data.length:Int) < 1
 ·simp only [c5,decide_true,cond_true];rw [bad (by omega)]
 simp only [c5,decide_false,cond_false]
 by_cases c6:(65536:Int) < (data.length:Int)
 ·simp only [c6,decide_true,cond_true];rw [bad (by omega)]
 have hof:=(t_of hF (x:=data) (by omega)).1
 obtain ⟨i,rfl⟩:∃ i:Nat,index=(i:Int):=⟨index.toNat,by omega⟩
 have hr:sums[i]? = some (sums[i]'(by omega)):=List.getElem?_eq_getElem (by omega)
 have hgd:sums.getD i []=sums[i]'(by omega):=by simp [show i < sums.length by omega]
 have hrt:=(t_root hF (l:=sums) (by omega) (all32_mem ha)).1
 have hp:decide (id.length=32∧1≤sums.length∧sums.length≤16∧0≤(i:Int)∧(i:Int) < (sums.length:Int)∧1≤data.length∧data.length≤65536)=true:=by apply decide_eq_true;omega
 simp only [c6,decide_false,cond_false,hof,Option.bind_some,beq_self_eq_true,cond_true,ixn hr,hrt,hp,Bool.true_and,Int.toNat_natCast,hgd]
 rw [beqL_comm]
 cases sums[i]'(by omega) == hsh F data<;>simp
def okF (F:Nat) (sid:List UInt8) (block total:Int) (id:List UInt8) (index:Int) (data:List UInt8) (sums:List (List UInt8)):Bool:=
 id == sid && ((sums.length:Int) == total && ((data.length:Int) == block && okP F id index data sums))
theorem fits_ok {F:Nat} (hF:2000 < F) (sid:List UInt8) (block total:Int) (id:List UInt8) (index:Int) (data:List UInt8) {sums:List (List UInt8)}:T52 F sid block total id index data sums=some (okF F sid block total id index data sums):=by
 simp only [T52,T52c,verify_ok hF,Option.bind_some]
 unfold okF
 cases id == sid<;>cases (sums.length:Int) == total<;>cases (data.length:Int) == block<;>simp
abbrev toI (is:List Nat):List Int:=is.map fun i:Nat=>(i:Int)
theorem not_take {is:List Nat} (hn:is.Nodup) {k i:Nat} (h:is[k]? = some i):i ∉ is.take k:=fun hm=>by
 obtain ⟨j,hj⟩:=List.mem_iff_getElem?.1 hm
 have hjl:=(List.getElem?_eq_some_iff.1 hj).1
 rw [List.length_take] at hjl
 rw [List.getElem?_take_of_lt (by omega)] at hj
 have:=nodup_at hn hj h
 omega
theorem checkI_ok {F d t:Nat} (hF:2000 < F) (h1:1≤d) (h8:d≤8) (hdt:d≤t) (ht:t≤16) {is:List Nat} (hn:is.Nodup) (hi:∀ i ∈ is,i < t) (hl:is.length≤100):T159 F (d:Int) (t:Int) (toI is)=some 0:=by
 have hv:T35 F (d:Int) (t:Int)=some true:=by
  rw [valid_d];congr 1;apply decide_eq_true;omega
 have hll:(toI is).length=is.length:=by simp
 obtain ⟨z,hz,hQ⟩:=iter1 (f:=fun s:Int×Vector Bool 16=>L159_2 F (t:Int) (toI is) ((toI is).length:Int) s.1 s.2)
  (fun s=>∃ k:Nat,s.1=(k:Int)∧k≤is.length∧∀ (j:Nat) (hj:j < 16),s.2[j]=decide (j ∈ is.take k)) (fun z=>z=.inl ()) (fun s=>is.length - s.1.toNat) (fun s hs=>by
   obtain ⟨k,e,hk,ha⟩:=hs
   obtain ⟨s1,v⟩:=s
   simp only at e ha
   subst e
   rcases Nat.lt_or_ge k is.length with hlt | hge
   ·have hc1:((k:Nat):Int) < ((toI is).length:Int):=by omega
    have hr0:is[k]? = some is[k]:=List.getElem?_eq_getElem hlt
    have hit:=hi _ (List.getElem_mem hlt)
    have hnt:=not_take hn hr0
    have htk:=takeS' hr0
    generalize is[k]=i at hr0 hit hnt htk
    have hr:(toI is)[k]? = some (i:Int):=by rw [List.getElem?_map,hr0];rfl
    have hn0:¬ (i:Int) < 0:=by omega
    have hn1:¬ (t:Int)≤(i:Int):=by omega
    have hb:inb 16 (i:Int)=some i:=inbn (by omega)
    have hv0:vat v i=some v[i]:=vatn (by omega)
    have hvf:v[i]'(by omega)=false:=by rw [ha i (by omega)];exact decide_eq_false hnt
    rw [hvf] at hv0
    refine .inl ⟨(((k + 1:Nat):Int),Vector.setIfInBounds v i true),by simp only [L159_2,L159_2c,hc1,decide_true,cond_true,ixn hr,hn0,hn1,decide_false,cond_false,hb,hv0,Option.bind_some,w64n (show k < 9223372036854775807 by omega)],⟨k + 1,rfl,by omega,fun j hj=>?_⟩,by simp only [Int.toNat_natCast];omega⟩
    simp only [Vector.getElem_setIfInBounds,htk,List.mem_append,List.mem_singleton]
    by_cases hij:i=j
    ·subst hij;simp
    ·simp only [hij,if_false,ha j hj]
     have:¬ j=i:=fun e=>hij e.symm
     simp [this]
   ·have hkn:k=is.length:=by omega
    subst hkn
    have hc1:¬ ((is.length:Nat):Int) < ((toI is).length:Int):=by omega
    exact .inr ⟨.inl (),by simp only [L159_2,L159_2c,hc1,decide_false,cond_false],rfl⟩)
  F ((0:Int),(Vector.replicate 16 false)) ⟨0,rfl,by omega,fun j hj=>by simp⟩ (by simp;omega)
 subst hQ
 simp only [T159,T159c,hv,Bool.not_true,cond_false,hz,Option.bind_some,elimS]
theorem recon_ok {F d t len:Nat} (hF:2000 + len < F) (h1:1≤d) (h8:d≤8) (hdt:d≤t) (ht:t≤16) (hl1:1≤len) (hl2:len≤65536) {is:List Nat} (hil:is.length=d) (hn:is.Nodup) (hi:∀ i ∈ is,i < t) {ps:List (List UInt8)} (hp:ps.length=d) (hpl:∀ p ∈ ps,p.length=len) :
  ∃ B:List (List UInt8),B.length=d∧(∀ b ∈ B,b.length=d)∧LI d (gt B) (gt (is.map (rowD d)))∧T94 F (d:Int) (t:Int) (toI is) ps=some (B.map fun b=>comb b ps (List.replicate len 0),0):=by
 have hc:=checkI_ok (F:=F) (by omega) h1 h8 hdt ht hn hi (by omega)
 have hone:=one_ok (F:=F) (by omega) (by omega) hl1 hl2 hpl
 have hll:(toI is).length=d:=by simp [hil]
 have e1:(((toI is).length:Int) != (ps.length:Int))=false:=by rw [hll,hp];simp
 have e2:¬ ((toI is).length:Int) < (d:Int):=by omega
 have hg:T132 F (d:Int) (t:Int) (toI is) ps=some 0:=by
  simp only [T132,T132c,hc,Option.bind_some,bne_self_eq_false,cond_false,e1,hone,Bool.not_true,e2,decide_false]
 obtain ⟨tb,ht1,ht2⟩:=table_ok (F:=F) (d:=d) (by omega) h8
 have hof:=of_ok (F:=F) (by omega) h8 ht2 (is:=is) (by omega) (fun i h=>by have:=hi i h;omega)
 have hml:(is.map (rowD d)).length=d:=by simp [hil]
 have hmw:∀ x ∈ is.map (rowD d),x.length=d:=fun x hx=>by
  obtain ⟨i,_,rfl⟩:=List.mem_map.1 hx
  exact rowD_len d i
 obtain ⟨B,b1,b2,b3,b4⟩:=inverse_ok (F:=F) (by omega) h1 (by omega) hml hmw (rows_ind hil hn (fun i h=>by have:=hi i h;omega) h8)
 have hs1:gsl (toI is) (0:Int) (d:Int)=some (toI is):=by
  rw [gsl_lo (by omega),← hll,List.take_length]
 have hs2:gsl ps (0:Int) (d:Int)=some ps:=by
  rw [gsl_lo (by omega),← hp,List.take_length]
 have hinv:T133 F (toI is) (d:Int) tb=some B:=by
  simp only [T133,T133c,hs1,hof,b1,Option.bind_some]
 have hap:=apply_ok (F:=F) (len:=len) (by omega) (by omega) (m:=B) (bs:=ps) (by omega) (by
   intro e
   rw [e] at b2;simp at b2;omega) (fun x hx=>by rw [b3 x hx,hp]) (by omega) (by
   intro e
   rw [e] at hp;simp at hp;omega) hpl
 refine ⟨B,b2,b3,b4,?_⟩
 simp only [T94,T94c,hg,bne_self_eq_false,cond_false,hs2,ht1,hinv,hap,Option.bind_some]
def stepP (F:Nat) (sid:List UInt8) (block total:Int) (d:Nat) (s:List Nat×List (List UInt8)) (p:Pc):List Nat×List (List UInt8):=
 bif decide (s.2.length < d) && (okF F sid block total p.1.1 p.1.2.1 p.2.1 p.2.2.1 && !s.1.contains p.1.2.1.toNat) then (s.1 ++ [p.1.2.1.toNat],s.2 ++ [p.2.1]) else s
def takeP (F:Nat) (sid:List UInt8) (block total:Int) (d:Nat) (l:List Pc):List Nat×List (List UInt8):=l.foldl (stepP F sid block total d) ([],[])
theorem stepP_full {F:Nat} {sid:List UInt8} {block total:Int} {d:Nat}:∀ {l:List Pc} {s:List Nat×List (List UInt8)},s.2.length=d->l.foldl (stepP F sid block total d) s=s
 | [],_,_=>rfl
 | p :: l,s,h=>by
  have:stepP F sid block total d s p=s:=by unfold stepP;simp [show ¬ s.2.length < d by omega]
  rw [List.foldl_cons,this];exact stepP_full h
structure TK (F:Nat) (sid:List UInt8) (block total:Int) (d:Nat) (s:List Nat×List (List UInt8)):Prop where
 len:s.1.length=s.2.length
 le:s.2.length≤d
 nd:s.1.Nodup
 lt:∀ i ∈ s.1,(i:Int) < total
 bl:∀ x ∈ s.2,(x.length:Int)=block∧1≤x.length∧x.length≤65536
theorem okF_of {F:Nat} {sid:List UInt8} {block total:Int} {id:List UInt8} {index:Int} {data:List UInt8} {sums:List (List UInt8)} (h:okF F sid block total id index data sums=true):0≤index∧index < total∧(data.length:Int)=block∧1≤data.length∧data.length≤65536:=by
 unfold okF okP at h
 simp only [Bool.and_eq_true,beq_iff_eq,decide_eq_true_eq] at h
 obtain ⟨_,h2,h3,h4,_⟩:=h
 omega
theorem TK.step {F:Nat} {sid:List UInt8} {block total:Int} {d:Nat} {s:List Nat×List (List UInt8)} (H:TK F sid block total d s) (p:Pc):TK F sid block total d (stepP F sid block total d s p):=by
 unfold stepP
 cases h:decide (s.2.length < d) && (okF F sid block total p.1.1 p.1.2.1 p.2.1 p.2.2.1 && !s.1.contains p.1.2.1.toNat) with
 | false=>exact H
 | true=>
  simp only [Bool.and_eq_true,decide_eq_true_eq,Bool.not_eq_true',List.contains_eq_mem,decide_eq_false_iff_not] at h
  obtain ⟨h1,h2,h3⟩:=h
  obtain ⟨a1,a2,a3,a4,a5⟩:=okF_of h2
  refine ⟨by simp [H.len],by simp;omega,?_,fun i hi=>?_,fun x hx=>?_⟩
  ·show (s.1 ++ [p.1.2.1.toNat]).Nodup
   rw [List.nodup_append]
   exact ⟨H.nd,by simp,fun a ha b hb e=>by simp at hb;subst hb;subst e;exact h3 ha⟩
  ·rcases List.mem_append.1 hi with hi | hi
   ·exact H.lt i hi
   ·simp at hi;subst hi;omega
  ·rcases List.mem_append.1 hx with hx | hx
   ·exact H.bl x hx
   ·simp at hx;subst hx;exact ⟨a3,a4,a5⟩
theorem TK.fold {F:Nat} {sid:List UInt8} {block total:Int} {d:Nat}:∀ {l:List Pc} {s:List Nat×List (List UInt8)},TK F sid block total d s->TK F sid block total d (l.foldl (stepP F sid block total d) s)
 | [],_,H=>H
 | p :: l,_,H=>TK.fold (l:=l) (H.step p)
theorem TK.start {F:Nat} {sid:List UInt8} {block total:Int} {d:Nat}:TK F sid block total d ([],[]):=⟨rfl,by simp,by simp,by simp,by simp⟩
theorem contains_ok {F:Nat} (hF:2000 < F) {l:List Int} (hl:l.length≤1000) (x:Int):T93 F l x=some (l.contains x):=by
 have h:∃ z,iter (fun s=>L131_2 F l x (l.length:Int) s) F (0:Int)=some z∧(z=.inl ()∧l.contains x=false∨∃ k:Nat,z=.inr (k:Int)∧l.contains x=true):=by
  exact iter1 (f:=fun s:Int=>L131_2 F l x (l.length:Int) s)
   (fun s=>∃ k:Nat,s=(k:Int)∧k≤l.length∧(l.drop k).contains x=l.contains x) _ (fun s=>l.length - s.toNat) (fun s hs=>by
    obtain ⟨k,e,hk,ha⟩:=hs
    subst e
    rcases Nat.lt_or_ge k l.length with hlt | hge
    ·have hc1:((k:Nat):Int) < (l.length:Int):=by omega
     have hr:l[k]? = some l[k]:=List.getElem?_eq_getElem hlt
     have hix:=ixn hr
     have hd:=drop_at hr
     generalize l[k]=a at hr hix hd
     rw [hd,List.contains_cons] at ha
     cases h1:x == a with
     | true=>
      rw [h1,Bool.true_or] at ha
      exact .inr ⟨.inr (k:Int),by simp only [L131_2,L131_2c,hc1,decide_true,cond_true,hix,h1,Option.bind_some],.inr ⟨k,rfl,ha.symm⟩⟩
     | false=>
      rw [h1,Bool.false_or] at ha
      exact .inl ⟨((k + 1:Nat):Int),by simp only [L131_2,L131_2c,hc1,decide_true,cond_true,hix,h1,Option.bind_some,cond_false,w64n (show k < 9223372036854775807 by omega)],⟨k + 1,rfl,by omega,ha⟩,by simp only [Int.toNat_natCast];omega⟩
    ·have hkn:k=l.length:=by omega
     subst hkn
     rw [List.drop_length] at ha
     refine .inr ⟨.inl (),?_,.inl ⟨rfl,ha.symm⟩⟩
     simp [L131_2,L131_2c])
   F (0:Int) ⟨0,rfl,by omega,rfl⟩ (by simp;omega)
 obtain ⟨z,hz,hQ⟩:=h
 rcases hQ with ⟨rfl,h⟩ | ⟨k,rfl,h⟩
 ·simp only [T93,T93c,T131,T131c,hz,Option.bind_some,elimS,h];rfl
 ·simp only [T93,T93c,T131,T131c,hz,Option.bind_some,elimS,h,show (0:Int)≤(k:Int) by omega,decide_true]
theorem toI_has {is:List Nat} {x:Int} (h:0≤x):(toI is).contains x=is.contains x.toNat:=by
 simp only [List.contains_eq_mem,List.mem_map]
 apply decide_eq_decide.2
 constructor
 ·rintro ⟨i,hi,rfl⟩;simpa using hi
 ·intro h2;exact ⟨_,h2,by omega⟩
theorem take_ok {F:Nat} (hF:2000 < F) {sid:List UInt8} {block total:Int} {d:Nat} {s:List Nat×List (List UInt8)} (H:TK F sid block total d s) (hd:d≤8) (p:Pc) (hlt:s.2.length < d) :
  T92x3 F p.1.1 p.1.2.1 p.2.1 p.2.2.1 sid block total (toI s.1) s.2=some (toI (stepP F sid block total d s p).1,(stepP F sid block total d s p).2):=by
 have h1:=H.len
 have hc:=contains_ok hF (l:=toI s.1) (by simp;omega) p.1.2.1
 have hf:=fits_ok hF sid block total p.1.1 p.1.2.1 p.2.1 (sums:=p.2.2.1)
 have g1:gapp (toI s.1) [p.1.2.1]=some (toI s.1 ++ [p.1.2.1]):=gappn (by simp;omega)
 have g2:gapp s.2 [p.2.1]=some (s.2 ++ [p.2.1]):=gappn (by simp;omega)
 simp only [T92x3,T92x3c,hc,hf,g1,g2,Option.bind_some]
 unfold stepP
 rw [decide_eq_true hlt,Bool.true_and]
 cases ho:okF F sid block total p.1.1 p.1.2.1 p.2.1 p.2.2.1 with
 | false=>
  simp only [Bool.false_and,cond_false]
  cases (toI s.1).contains p.1.2.1<;>rfl
 | true=>
  obtain ⟨a1,a2,_⟩:=okF_of ho
  rw [toI_has a1]
  simp only [Bool.true_and]
  cases s.1.contains p.1.2.1.toNat with
  | true=>rfl
  | false=>
   simp only [Bool.not_false,cond_true]
   have e:toI (s.1 ++ [p.1.2.1.toNat])=toI s.1 ++ [p.1.2.1]:=by
    show List.map _ _=_
    rw [List.map_append,List.map_cons,List.map_nil,Int.toNat_of_nonneg a1]
   rw [e]
theorem take_loop {F:Nat} (hF:2000 < F) {sid:List UInt8} {block total:Int} {d:Nat} (hd:d≤8) {l:List Pc} (hl:l.length≤1000) :
  iter (fun s:Int×List Int×List (List UInt8)=>L55_3 F l (l.length:Int) sid block (d:Int) total s.1 s.2.1 s.2.2) F ((0:Int),([]:List Int),([]:List (List UInt8)))=some (toI (takeP F sid block total d l).1,(takeP F sid block total d l).2):=by
 obtain ⟨z,hz,hQ⟩:=iter1 (f:=fun s:Int×List Int×List (List UInt8)=>L55_3 F l (l.length:Int) sid block (d:Int) total s.1 s.2.1 s.2.2)
  (fun s=>∃ k:Nat,s.1=(k:Int)∧k≤l.length∧∃ st,TK F sid block total d st∧s.2.1=toI st.1∧s.2.2=st.2∧(l.drop k).foldl (stepP F sid block total d) st=takeP F sid block total d l) (fun z=>z=(toI (takeP F sid block total d l).1,(takeP F sid block total d l).2)) (fun s=>l.length - s.1.toNat) (fun s hs=>by
   obtain ⟨k,e,hk,st,hT,e1,e2,hf⟩:=hs
   obtain ⟨s1,s2,s3⟩:=s
   simp only at e e1 e2
   subst e e1 e2
   rcases Nat.lt_or_ge k l.length with hlt | hge
   ·have hc1:((k:Nat):Int) < (l.length:Int):=by omega
    have hr:l[k]? = some l[k]:=List.getElem?_eq_getElem hlt
    have hix:=ixn hr
    have hd':=drop_at hr
    generalize l[k]=p at hr hix hd'
    have hle:=hT.le
    by_cases hfull:st.2.length=d
    ·have e3:((st.2.length:Int) == (d:Int))=true:=by rw [hfull];simp
     rw [stepP_full hfull] at hf
     rw [← hf]
     exact .inr ⟨(toI st.1,st.2),by simp only [L55_3,L55_3c,hc1,decide_true,cond_true,hix,e3,Option.bind_some],rfl⟩
    ·have e3:((st.2.length:Int) == (d:Int))=false:=by
      have:¬ (st.2.length:Int)=(d:Int):=by omega
      simpa using this
     have ht:=take_ok hF hT hd p (by omega)
     rw [hd',List.foldl_cons] at hf
     exact .inl ⟨(((k + 1:Nat):Int),toI (stepP F sid block total d st p).1,(stepP F sid block total d st p).2),by simp only [L55_3,L55_3c,hc1,decide_true,cond_true,hix,e3,cond_false,ht,Option.bind_some,w64n (show k < 9223372036854775807 by omega)],⟨k + 1,rfl,by omega,_,hT.step p,rfl,rfl,hf⟩,by simp only [Int.toNat_natCast];omega⟩
   ·have hkn:k=l.length:=by omega
    subst hkn
    rw [List.drop_length] at hf
    have hf:st=takeP F sid block total d l:=hf
    rw [← hf]
    have hc1:¬ ((l.length:Nat):Int) < (l.length:Int):=by omega
    exact .inr ⟨(toI st.1,st.2),by simp only [L55_3,L55_3c,hc1,decide_false,cond_false],rfl⟩)
  F ((0:Int),([]:List Int),([]:List (List UInt8))) ⟨0,rfl,by omega,([],[]),TK.start,rfl,rfl,rfl⟩ (by simp;omega)
 subst hQ
 exact hz
def allZ (b:List UInt8):Bool:=b.all fun x=>x == 0
theorem zero_ok {F:Nat} {b:List UInt8} (hl:b.length < F) (hl2:b.length≤1000000):T95 F b=some (!allZ b):=by
 have h:∃ z,iter (fun s=>L134_2 F b (b.length:Int) s) F (0:Int)=some z∧(z=.inl ()∧allZ b=true∨∃ k:Nat,z=.inr (k:Int)∧allZ b=false):=by
  exact iter1 (f:=fun s:Int=>L134_2 F b (b.length:Int) s)
   (fun s=>∃ k:Nat,s=(k:Int)∧k≤b.length∧allZ (b.drop k)=allZ b) _ (fun s=>b.length - s.toNat) (fun s hs=>by
    obtain ⟨k,e,hk,ha⟩:=hs
    subst e
    rcases Nat.lt_or_ge k b.length with hlt | hge
    ·have hc1:((k:Nat):Int) < (b.length:Int):=by omega
     have hr:b[k]? = some b[k]:=List.getElem?_eq_getElem hlt
     have hix:=ixn hr
     have hd:=drop_at hr
     generalize b[k]=x at hr hix hd
     rw [hd] at ha
     unfold allZ at ha
     rw [List.all_cons] at ha
     have ht:T96 F x=some (!(x == 0)):=rfl
     cases h1:x == 0 with
     | false=>
      rw [h1] at ht
      rw [h1,Bool.false_and] at ha
      exact .inr ⟨.inr (k:Int),by simp only [L134_2,L134_2c,hc1,decide_true,cond_true,hix,ht,Bool.not_false,Option.bind_some],.inr ⟨k,rfl,ha.symm⟩⟩
     | true=>
      rw [h1] at ht
      rw [h1,Bool.true_and] at ha
      exact .inl ⟨((k + 1:Nat):Int),by simp only [L134_2,L134_2c,hc1,decide_true,cond_true,hix,ht,Bool.not_true,Option.bind_some,cond_false,w64n (show k < 9223372036854775807 by omega)],⟨k + 1,rfl,by omega,ha⟩,by simp only [Int.toNat_natCast];omega⟩
    ·have hkn:k=b.length:=by omega
     subst hkn
     rw [List.drop_length] at ha
     refine .inr ⟨.inl (),?_,.inl ⟨rfl,ha.symm⟩⟩
     simp [L134_2,L134_2c])
   F (0:Int) ⟨0,rfl,by omega,rfl⟩ (by simp;omega)
 obtain ⟨z,hz,hQ⟩:=h
 rcases hQ with ⟨rfl,h⟩ | ⟨k,rfl,h⟩
 ·simp only [T95,T95c,T134,T134c,hz,Option.bind_some,elimS,h];rfl
 ·simp only [T95,T95c,T134,T134c,hz,Option.bind_some,elimS,h,show (0:Int)≤(k:Int) by omega,decide_true,Bool.not_false]
theorem zeros_loop {F:Nat} {l:List (List UInt8)} (hF:2000 < F) (hl:l.length≤100) (h:∀ b ∈ l,b.length < F∧b.length≤1000000):iter (fun s=>L55_4 F l (l.length:Int) s) F (0:Int)=some (bif l.all allZ then .inl () else .inr (9:Int)):=by
 obtain ⟨z,hz,hQ⟩:=iter1 (f:=fun s:Int=>L55_4 F l (l.length:Int) s)
  (fun s=>∃ k:Nat,s=(k:Int)∧k≤l.length∧(l.drop k).all allZ=l.all allZ) (fun z=>z=(bif l.all allZ then .inl () else .inr (9:Int))) (fun s=>l.length - s.toNat) (fun s hs=>by
   obtain ⟨k,e,hk,ha⟩:=hs
   subst e
   rcases Nat.lt_or_ge k l.length with hlt | hge
   ·have hc1:((k:Nat):Int) < (l.length:Int):=by omega
    have hr:l[k]? = some l[k]:=List.getElem?_eq_getElem hlt
    have hix:=ixn hr
    have hb:=h _ (List.getElem_mem hlt)
    have hd:=drop_at hr
    generalize l[k]=x at hr hix hd hb
    rw [hd,List.all_cons] at ha
    have ht:=zero_ok hb.1 hb.2
    cases h1:allZ x with
    | false=>
     rw [h1] at ht
     rw [h1,Bool.false_and] at ha
     exact .inr ⟨.inr 9,by simp only [L55_4,L55_4c,hc1,decide_true,cond_true,hix,ht,Bool.not_false,Option.bind_some],by rw [← ha];rfl⟩
    | true=>
     rw [h1] at ht
     rw [h1,Bool.true_and] at ha
     exact .inl ⟨((k + 1:Nat):Int),by simp only [L55_4,L55_4c,hc1,decide_true,cond_true,hix,ht,Bool.not_true,Option.bind_some,cond_false,w64n (show k < 9223372036854775807 by omega)],⟨k + 1,rfl,by omega,ha⟩,by simp only [Int.toNat_natCast];omega⟩
   ·have hkn:k=l.length:=by omega
    subst hkn
    rw [List.drop_length] at ha
    refine .inr ⟨.inl (),?_,by rw [← ha];rfl⟩
    simp [L55_4,L55_4c])
  F (0:Int) ⟨0,rfl,by omega,rfl⟩ (by simp;omega)
 subst hQ
 exact hz
def finR (F:Nat) (sid:List UInt8) (d t len n:Nat) (out:List (List UInt8)):Int×List (List UInt8)×List Pc:=
 bif (out.drop n).all allZ then (bif rt F F ((encP d t len out).map (hsh F)) == sid then (0,out.take n,mkP F (encP d t len out)) else (9,[],[])) else (9,[],[])
theorem clone_bb {F:Nat} {x:List (List UInt8)} (h:x.length≤1000000):T97 F x=some x:=by
 show (gapp ([]:List (List UInt8)) x).bind some=_
 rw [gappn (by simp;omega)];rfl
theorem restore_bad {F:Nat} (hF:2000 < F) {sid:List UInt8} {vault block data total:Int} {refs:List Rf} (hl:refs.length≤1000) (l:List Pc) (h:okS sid vault block data total refs=false):T55 F sid vault block data total refs l=some (1,[],[]):=by
 simp only [T55,T55c,check_ok hF sid vault block data total hl,h,cond_false,Option.bind_some];rfl
theorem okS_of {sid:List UInt8} {vault block data total:Int} {refs:List Rf} (h:okS sid vault block data total refs=true):sid.length=32∧1≤data∧data≤8∧data≤total∧total≤16∧1≤refs.length∧(refs.length:Int)≤data∧vRs refs=true:=by
 unfold okS at h
 simp only [Bool.and_eq_true] at h
 have:=of_decide_eq_true h.1
 exact ⟨by omega,by omega,by omega,by omega,by omega,by omega,by omega,h.2.1⟩
theorem restore_short {F:Nat} (hF:2000 < F) {sid:List UInt8} {vault block total:Int} {d:Nat} {refs:List Rf} (hl:refs.length≤1000) {l:List Pc} (hll:l.length≤1000) (h:okS sid vault block (d:Int) total refs=true) (hs:(takeP F sid block total d l).2.length < d):T55 F sid vault block (d:Int) total refs l=some (10,[],[]):=by
 have ho:=okS_of h
 have ht:=take_loop hF (sid:=sid) (block:=block) (total:=total) (d:=d) (by omega) hll
 have e1:((takeP F sid block total d l).2.length:Int) < (d:Int):=by omega
 simp only [T55,T55c,check_ok hF sid vault block (d:Int) total hl,h,cond_true,ht,e1,decide_true,Option.bind_some,bne_self_eq_false,cond_false]
theorem takeP_TK (F:Nat) (sid:List UInt8) (block total:Int) (d:Nat) (l:List Pc):TK F sid block total d (takeP F sid block total d l):=TK.fold TK.start
theorem takeP_mem {F:Nat} {sid:List UInt8} {block total:Int} {d:Nat}:∀ {l:List Pc} {s:List Nat×List (List UInt8)} {x:List UInt8},x ∈ (l.foldl (stepP F sid block total d) s).2->x ∈ s.2∨∃ p ∈ l,p.2.1=x
 | [],_,_,h=>.inl h
 | p :: l,s,x,h=>by
  rcases takeP_mem (l:=l) h with h | ⟨q,h1,h2⟩
  ·unfold stepP at h
   cases hc:decide (s.2.length < d) && (okF F sid block total p.1.1 p.1.2.1 p.2.1 p.2.2.1 && !s.1.contains p.1.2.1.toNat) with
   | false=>rw [hc] at h;exact .inl h
   | true=>
    rw [hc] at h
    rcases List.mem_append.1 h with h | h
    ·exact .inl h
    ·simp at h;exact .inr ⟨p,by simp,h.symm⟩
  ·exact .inr ⟨q,by simp [h1],h2⟩
theorem restore_ok {F:Nat} (hF:50000≤F) {sid:List UInt8} {vault block:Int} {d t:Nat} {refs:List Rf} (hl:refs.length≤1000) {l:List Pc} (hll:l.length≤1000) (hx:∀ p ∈ l,p.2.1.length≤40000) (h:okS sid vault block (d:Int) (t:Int) refs=true) (hs:(takeP F sid block (t:Int) d l).2.length=d) :
  ∃ B:List (List UInt8),B.length=d∧(∀ b ∈ B,b.length=d)∧LI d (gt B) (gt ((takeP F sid block (t:Int) d l).1.map (rowD d)))∧(∀ p ∈ (takeP F sid block (t:Int) d l).2,p.length=block.toNat)∧1≤block.toNat∧block.toNat≤40000 ∧
   T55 F sid vault block (d:Int) (t:Int) refs l=some (finR F sid d t block.toNat refs.length (B.map fun b=>comb b (takeP F sid block (t:Int) d l).2 (List.replicate block.toNat 0))):=by
 have ho:=okS_of h
 have hT:=takeP_TK F sid block (t:Int) d l
 have ht:=take_loop (F:=F) (by omega) (sid:=sid) (block:=block) (total:=(t:Int)) (d:=d) (by omega) hll
 have hmem:∀ x ∈ (takeP F sid block (t:Int) d l).2,x.length≤40000:=fun x hx'=>by
  rcases takeP_mem hx' with h | ⟨p,h1,h2⟩
  ·simp at h
  ·rw [← h2];exact hx p h1
 generalize hst:takeP F sid block (t:Int) d l=st at hs hT ht hmem
 have hbl:∀ p ∈ st.2,p.length=block.toNat:=fun p hp=>by have:=(hT.bl p hp).1;omega
 obtain ⟨p0,ps,hps⟩:∃ p0 ps,st.2=p0 :: ps:=by
  cases h2:st.2 with
  | nil=>rw [h2] at hs;simp at hs;omega
  | cons a l=>exact ⟨a,l,rfl⟩
 have hp0:=hT.bl p0 (by rw [hps];simp)
 have hp1:=hmem p0 (by rw [hps];simp)
 have hb1:1≤block.toNat:=by omega
 have hb2:block.toNat≤40000:=by omega
 obtain ⟨B,b1,b2,b3,b4⟩:=recon_ok (F:=F) (d:=d) (t:=t) (len:=block.toNat) (by omega) (by omega) (by omega) (by omega) (by omega) hb1 (by omega) (is:=st.1) (by rw [hT.len,hs]) hT.nd (fun i hi=>by have:=hT.lt i hi;omega) hs hbl
 refine ⟨B,b1,b2,b3,hbl,hb1,hb2,?_⟩
 have hol:(B.map fun b=>comb b st.2 (List.replicate block.toNat 0)).length=d:=by simp [b1]
 have how:∀ x ∈ B.map fun b=>comb b st.2 (List.replicate block.toNat 0),x.length=block.toNat:=fun x hx'=>by
  obtain ⟨b,_,rfl⟩:=List.mem_map.1 hx'
  rw [comb_len (fun p hp=>by rw [hbl p hp];simp)];simp
 generalize (B.map fun b=>comb b st.2 (List.replicate block.toNat 0))=out at hol how b4
 have e1:¬ (st.2.length:Int) < (d:Int):=by omega
 have hg1:gsl out (refs.length:Int) (out.length:Int)=some (out.drop refs.length):=gsl_hi (by omega)
 have hg2:gsl out (0:Int) (refs.length:Int)=some (out.take refs.length):=gsl_lo (by omega)
 have hz:=zeros_loop (F:=F) (l:=out.drop refs.length) (by omega) (by simp;omega) (fun b hb=>by have:=how b (List.mem_of_mem_drop hb);omega)
 have hco:=code_ok (F:=F) (d:=d) (t:=t) (len:=block.toNat) (bs:=out) (by omega) (by omega) (by omega) (by omega) (by omega) (by omega) (by omega) hb1 (by omega) how
 have hcl:=clone_bb (F:=F) (x:=out.take refs.length) (by simp;omega)
 simp only [T55,T55c,check_ok (show 2000 < F by omega) sid vault block (d:Int) (t:Int) hl,h,cond_true,ht,e1,decide_false,Option.bind_some,bne_self_eq_false,cond_false,b4,hg1,hg2,hz]
 unfold finR
 cases (out.drop refs.length).all allZ with
 | false=>simp only [cond_false,elimS]
 | true=>
  simp only [cond_true,elimS,hco,Option.bind_some,bne_self_eq_false,cond_false,hcl]
  by_cases hid:rt F F ((encP d t block.toNat out).map (hsh F))=sid
  ·rw [hid];simp
  ·have e4:(rt F F ((encP d t block.toNat out).map (hsh F)) == sid)=false:=by simpa using hid
   have e5:(rt F F ((encP d t block.toNat out).map (hsh F)) != sid)=true:=by simpa [bne] using hid
   simp only [e4,e5,cond_true,cond_false]
end Go.Proofs.YtpnhgldpeiogbaaGreatDoor
