/- Iterators. -/
import Derived.RangeFuncBox
import Derived.RangeFuncLeaves
import Derived.Shelf.Abstract
import Derived.WalkKit
import Derived.OwnWalkIn
import Derived.TacticsInMore
import Derived.LoopNIn
import Derived.LoopIn
import Derived.Test.YthikoaamigiceaaGreatDoorProg
import Derived.Test.YthikoaamigiceaaGreatDoorRB
namespace Go.Proofs.YthikoaamigiceaaGreatDoor
open Go.RowKit Go.Shelf Go.Tw
set_option linter.unusedSimpArgs false
set_option linter.unusedVariables false
attribute [local go_sem] Oper.semAt_some
set_option linter.unusedSimpArgs false
set_option linter.unusedVariables false
set_option maxRecDepth 100000 in
set_option maxHeartbeats 4000000 in
theorem chunk1_in (l bs bn b off len cap n:Nat) (hn:1≤n) (hn2:n≤1000000) (hcap:len≤cap) (hreach:len≤1099511627776) (Jr:Nat->World->Prop)
  (hdr:∀ k W d,Jr k W->Jr k { W with drawn:=d }) (hrd:∀ k W,Jr k W->W.cell? ⟨bs,0,none⟩=some (.slice (some ⟨b,off,none⟩) len cap)∧W.cell? ⟨bn,0,none⟩=some (.int .i64 n))
  (hY:∀ k W,k * n < len->Jr k W->YieldAt Fence.wide 0 Tryz.prog l #[.slice (some ⟨b,off + k * n,none⟩) (min n (len - k * n)) (min n (len - k * n))] W (fun e W'=>e=.returned (.bool true)∧Jr (k + 1) W'))
  (W:World) (h0:Jr 0 W) :
  CallsIn Fence.wide 1 Tryz.prog 135 #[.func (.yield l) #[] #[],.pointer (some ⟨bs,0,none⟩),.pointer (some ⟨bn,0,none⟩)] W (fun e W'=>(∃ v,e=.returned v)∧∃ k,len≤k * n∧k * n < len + n∧Jr k W'):=by
 refine callsIn_of_wp Tryz.func135 rfl trivial ?_ rfl
 simp only [Tryz.ntmps135,List.size_toArray,List.length_cons,List.length_nil,Nat.reduceAdd,Nat.reduceSub,Array.replicate_succ,Array.replicate_zero,List.push_toArray,List.append_toArray,List.nil_append,List.cons_append]
 gi_wp2
 gi_loopw [4] (fun i wr=>∃ k:Nat,k * n < len + n∧i=.int .i64 ((k * n:Nat):Int)∧Jr k wr)
  (fun i _=>(len + n - (intOf i).toNat))
 case atStart=>exact ⟨0,by omega,by simp,h0⟩
 case round=>
  obtain ⟨k,hk,rfl,hJs⟩:=hrel
  obtain ⟨hbs2,hbn2⟩:=hrd k wr hJs
  have hnext:(k + 1) * n=k * n + n:=by rw [Nat.add_mul];omega
  have hYk:=fun W=>hY k W
  generalize hq:k * n=q at *
  by_cases hlt:q < len
  ·have hJd:Jr k wr.drew:=hdr k wr (wr.drawn + 1) hJs
   obtain ⟨hbs3,hbn3⟩:=hrd k wr.drew hJd
   obtain ⟨fn,tmps,assign,body,hy,hR⟩:=hYk wr.drew hlt hJd
   have hlt':(q:Int) < (len:Int):=by omega
   have hg2:(0:Int)≤(q:Int):=by omega
   have hm1:min n (len - q)≤len - q:=by omega
   have hm2:(if len - q < n then ((len - q:Nat):Int) else (n:Int))=((min n (len - q):Nat):Int):=by
    split<;>omega
   generalize hm:min n (len - q)=m at *
   have hqc:¬ cap=q:=by omega
   have hql:q≤len:=by omega
   gi_wp2
   rename_i K1 hK1 K0 hK0
   refine wpIn_mono (Q:=QL K0 (fun _ _ _=>False) (fun _ _=>False)) (wpIn_wide.2 (c_draw [(.r,0),(.r,1),(.p,2),(.p,3),(.p,4),(.p,5),(.p,6)] (fun _=>True) mixed (by kernel_rfl) rfl trivial ?_)) (fun e a w q=>by cases e<;>first | exact q | exact q.elim)
   refine ⟨.int .i64 n,YAt.mk rfl (by simp [execOp,go_sem,Act.eval,hbn2]),?_⟩
   refine ⟨.slice (some ⟨b,off,none⟩) len cap,YAt.mk rfl (by simp [execOp,go_sem,Act.eval,Act.put,hbs2]),?_⟩
   refine ⟨.int .i64 (q:Int),fun w=>YAt.mk rfl (by simp [execOp,go_sem,Act.eval,Act.put]),?_⟩
   refine ⟨.slice (some ⟨b,off + q,none⟩) (len - q) (cap - q),fun w=>YAt.mk rfl (by simp [execOp,go_sem,Act.eval,Act.put,hqc,hql]),?_⟩
   refine ⟨.int .i64 ((len - q:Nat):Int),fun w=>YAt.mk rfl (by simp [execOp,go_sem,Act.eval,Act.put]),?_⟩
   refine ⟨.int .i64 (m:Int),fun w=>YAt.mk rfl (by simp [execOp,go_sem,Act.eval,Act.put];exact hm2),?_⟩
   refine ⟨.int .i64 (m:Int),fun w=>YAt.mk rfl (by simp [execOp,go_sem,Act.eval,Act.put]),?_⟩
   refine hK0 _ _ ?_
   simp only [Act.put]
   gi_wp2
   refine hR.mono ?_
   rintro e W3 ⟨rfl,hJ3⟩
   obtain ⟨hbs4,hbn4⟩:=hrd (k + 1) W3 hJ3
   gi_wp2
   go_roundw
   case rel=>exact ⟨k + 1,by omega,by rw [hnext];congr 1,hJ3⟩
   case measure=>simp [intOf];omega
  ·have hge:¬ ((q:Int) < (len:Int)):=by omega
   gi_wp2
   go_end0
   exact ⟨⟨_,rfl⟩,k,by omega,by omega,hJs⟩
set_option maxRecDepth 100000 in
set_option maxHeartbeats 4000000 in
theorem chunk1_nil (l bs cap:Nat) (p2:Value) (bo:Option Addr) (Jr:Nat->World->Prop) (hrd:∀ k W,Jr k W->W.cell? ⟨bs,0,none⟩=some (.slice bo 0 cap)) (W:World) (h0:Jr 0 W) :
  CallsIn Fence.wide 1 Tryz.prog 135 #[.func (.yield l) #[] #[],.pointer (some ⟨bs,0,none⟩),p2] W (fun e W'=>(∃ v,e=.returned v)∧Jr 0 W'):=by
 refine callsIn_of_wp Tryz.func135 rfl trivial ?_ rfl
 simp only [Tryz.ntmps135,List.size_toArray,List.length_cons,List.length_nil,Nat.reduceAdd,Nat.reduceSub,Array.replicate_succ,Array.replicate_zero,List.push_toArray,List.append_toArray,List.nil_append,List.cons_append]
 gi_wp2
 gi_loopw [4] (fun i wr=>i=.int .i64 0∧Jr 0 wr) (fun i _=>1)
 case atStart=>exact ⟨rfl,h0⟩
 case round=>
  obtain ⟨rfl,hJs⟩:=hrel
  have hbs2:=hrd 0 wr hJs
  gi_wp2
  go_end0
  exact ⟨⟨_,rfl⟩,hJs⟩
def chunkE (n:Nat) (xs:List UInt8):List (List UInt8×Unit):=(List.range ((xs.length + n - 1) / n)).map fun k=>((xs.drop (k * n)).take n,())
theorem it_chunk {O:Go.Tw.Own} {ρ:List Hd} {bs bn n:Nat} {xs:List UInt8} {sv:Value} (hO:O bs=.im [sv]) (hT:TR O (.sl .u8) xs [sv]) (hOn:O bn=.im [vI n]) (hn:1≤n) (hn2:n≤1000000) (hlen:xs.length≤1099511627776) :
  ∃ u:Nat->Array Value,(∀ k el,(chunkE n xs)[k]? = some el->∃ cs,RL O ρ (encs [.ro .u8] el) cs∧u k=(vals (encs [.ro .u8] el) cs).toArray) ∧
   Iter Tryz.prog 135 #[vP bs 0,vP bn 0] (chunkE n xs).length u (fun W=>∀ b all,O b=.im all->∃ ty fz,W.heap[b]? = some (.cells all.toArray ty fz)):=by
 have hcl:(chunkE n xs).length=(xs.length + n - 1) / n:=by simp [chunkE]
 have hcell:∀ {b:Nat} {v:Value},O b=.im [v]->∀ W:World,(∀ b all,O b=.im all->∃ ty fz,W.heap[b]? = some (.cells all.toArray ty fz))->W.cell? ⟨b,0,none⟩=some v:=by
  intro b v hb W hW
  obtain ⟨ty,fz,h⟩:=hW b _ hb
  simp [World.cell?,h]
 obtain ⟨v',es,hv,hL,hS⟩:=hT
 cases hv
 have hel:=LR.length (fun _ _=>TR.length) hL
 rcases hS with ⟨h0,bo,c,rfl⟩ | ⟨b,off,cap,rfl,hcap,hI⟩
 ·have hx0:xs=[]:=List.length_eq_zero_iff.1 h0
  subst hx0
  have hN:(chunkE n []).length=0:=by rw [hcl];exact Nat.div_eq_of_lt (by simp;omega)
  refine ⟨fun _=>#[],fun k el hk=>?_,?_⟩
  ·have:=(List.getElem?_eq_some_iff.1 hk).1;omega
  ·intro l Jr hrd hdr hY W h0
   rw [hN]
   exact chunk1_nil l bs c (vP bn 0) bo Jr (fun k W h=>hcell hO W (hrd k W h)) W h0
 ·refine ⟨fun k=>#[.slice (some ⟨b,off + k * n,none⟩) (min n (xs.length - k * n)) (min n (xs.length - k * n))],fun k el hk=>?_,?_⟩
  ·have hk':=hk
   simp only [chunkE,List.getElem?_map,Option.map_eq_some_iff] at hk'
   obtain ⟨k',h1,rfl⟩:=hk'
   have hkk:k'=k:=by
    obtain ⟨h2,h3⟩:=List.getElem?_eq_some_iff.1 h1
    rw [List.getElem_range] at h3
    exact h3.symm
   subst hkk
   have hl:((xs.drop (k' * n)).take n).length=min n (xs.length - k' * n):=by simp
   refine ⟨[[.slice (some ⟨b,off + k' * n,none⟩) (min n (xs.length - k' * n)) (min n (xs.length - k' * n))]],⟨_,_,rfl,?_,rfl⟩,rfl⟩
   have h2:=(LR.split (k:=1) (fun _ _=>TR.length (t:=.u8)) (k' * n) hL).2
   have h3:=(LR.split (k:=1) (fun _ _=>TR.length (t:=.u8)) n h2).1
   refine ⟨_,_,rfl,h3,.inr ⟨b,off + k' * n,min n (xs.length - k' * n),by rw [hl],by rw [hl];exact Nat.le_refl _,?_⟩⟩
   obtain ⟨all,g1,g2⟩:=hI
   refine ⟨all,g1,fun j c hj=>?_⟩
   rw [Nat.mul_one,Nat.mul_one] at hj
   have hj2:(es.drop (k' * n))[j]? = some c:=by
    rw [List.getElem?_take] at hj
    split at hj
    ·exact hj
    ·cases hj
   rw [List.getElem?_drop] at hj2
   rw [Nat.add_assoc]
   exact g2 _ c hj2
  ·intro l Jr hrd hdr hY W h0
   have hlt:∀ k,k * n < xs.length->k < (chunkE n xs).length:=by
    intro k hk
    rw [hcl]
    have:k + 1≤(xs.length + n - 1) / n:=by
     rw [Nat.le_div_iff_mul_le (by omega),Nat.add_mul];omega
    omega
   refine (chunk1_in l bs bn b off xs.length cap n hn hn2 hcap hlen Jr hdr (fun k W h=>⟨hcell hO W (hrd k W h),hcell hOn W (hrd k W h)⟩) (fun k W hk hj=>hY k W (hlt k hk) hj) W h0).mono ?_
   rintro e W' ⟨hv,k,hk1,hk2,hj⟩
   refine ⟨hv,?_⟩
   have:k=(chunkE n xs).length:=by
    rw [hcl]
    symm
    apply Nat.div_eq_of_lt_le
    ·omega
    ·rw [Nat.add_mul];omega
   rw [← this];exact hj
def okChunk (n:Int) (xs:List UInt8):Bool:=decide (1≤n) && (decide (n≤1000000) && decide (xs.length≤1099511627776))
theorem hit_chunk {O:Go.Tw.Own} {ρ:List Hd} {lb:List Value} {tb:Tbl} {j1 j2 t1 t2:Nat} {xs:List UInt8} {n:Int} (h:R O ρ true (.pr (.pt j1 []) (.pr (.pt j2 []) .un)) lb) (hb:BxOk O ρ tb [j1,j2]) (h1:tb[j1]? = some (.blk t1 (.ro .u8 xs))) (h2:tb[j2]? = some (.blk t2 (.o (.i n)))) (hok:okChunk n xs=true) :
  ∃ u:Nat->Array Value,(∀ k el,(chunkE n.toNat xs)[k]? = some el->∃ cs,RL O ρ (encs [.ro .u8] el) cs∧u k=(vals (encs [.ro .u8] el) cs).toArray) ∧
   Iter Tryz.prog 135 lb.toArray (chunkE n.toNat xs).length u (fun W=>∀ b all,O b=.im all->∃ ty fz,W.heap[b]? = some (.cells all.toArray ty fz)):=by
 simp only [okChunk,Bool.and_eq_true,decide_eq_true_eq] at hok
 obtain ⟨n1,n2,n3⟩:=hok
 obtain ⟨x1,r1,rfl,g1,x2,r2,rfl,g2,g3⟩:=h
 simp only [R] at g3
 subst g3
 obtain ⟨hd1,off1,e1,e2,e3⟩:=g1
 obtain ⟨hd2,off2,e4,e5,e6⟩:=g2
 simp only [List.cons.injEq,and_true] at e3 e6
 subst e3 e6
 have z1:off1=0:=by cases hd1.z<;>simp [Sz.off] at e2<;>exact e2.symm
 have z2:off2=0:=by cases hd2.z<;>simp [Sz.off] at e5<;>exact e5.symm
 subst z1 z2
 obtain ⟨k1,c1,q1,q2,q3⟩:=hb j1 (by simp) _ _ h1
 obtain ⟨k2,c2,q4,q5,q6⟩:=hb j2 (by simp) _ _ h2
 rw [e1] at q1;cases q1
 rw [e4] at q4;cases q4
 obtain ⟨rfl,_⟩:=q6
 have q3:TR O (.sl .u8) xs c1:=q3
 obtain ⟨sv,es,rfl,q7⟩:=q3
 have hn:(n.toNat:Int)=n:=Int.toNat_of_nonneg (by omega)
 exact it_chunk (n:=n.toNat) q2 ⟨sv,es,rfl,q7⟩ (by rw [q5];show Ow.im [vI n]=_;rw [hn]) (by omega) (by omega) n3
end Go.Proofs.YthikoaamigiceaaGreatDoor
