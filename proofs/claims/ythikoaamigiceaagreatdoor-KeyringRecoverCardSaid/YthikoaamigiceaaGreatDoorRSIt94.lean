/- Iterators. -/
import Derived.RangeFuncBox
import Derived.RangeFuncLeaves
import Derived.Shelf.Abstract
import Derived.WalkKit
import Derived.OwnWalkIn
import Derived.TacticsInMore
import Derived.LoopNIn
import Derived.LoopIn
import Derived.Test.YthikoaamigiceaaGreatDoorProg
import Derived.Test.YthikoaamigiceaaGreatDoorRB
namespace Go.Proofs.YthikoaamigiceaaGreatDoor
open Go.RowKit Go.Shelf Go.Tw
set_option linter.unusedSimpArgs false
set_option linter.unusedVariables false
attribute [local go_sem] Oper.semAt_some
set_option linter.unusedSimpArgs false
set_option linter.unusedVariables false
set_option maxRecDepth 100000 in
set_option maxHeartbeats 4000000 in
theorem back1_in (l bs b off len cap:Nat) (es:Nat->Value) (hreach:len≤1099511627776) (Jr:Nat->World->Prop)
  (hrd:∀ k W,Jr k W->W.cell? ⟨bs,0,none⟩=some (.slice (some ⟨b,off,none⟩) len cap)∧∀ j,j < len->W.cell? ⟨b,off + j,none⟩=some (es j))
  (hY:∀ k W,k < len->Jr k W->YieldAt Fence.wide 0 Tryz.prog l #[.int .i64 ((len:Int) - 1 - k),es (len - 1 - k)] W (fun e W'=>e=.returned (.bool true)∧Jr (k + 1) W'))
  (W:World) (h0:Jr 0 W) :
  CallsIn Fence.wide 1 Tryz.prog 198 #[.func (.yield l) #[] #[],.pointer (some ⟨bs,0,none⟩)] W (fun e W'=>(∃ v,e=.returned v)∧Jr len W'):=by
 refine callsIn_of_wp Tryz.func198 rfl trivial ?_ rfl
 simp only [Tryz.ntmps198,List.size_toArray,List.length_cons,List.length_nil,Nat.reduceAdd,Nat.reduceSub,Array.replicate_succ,Array.replicate_zero,List.push_toArray,List.append_toArray,List.nil_append,List.cons_append]
 have hbs:=(hrd 0 W h0).1
 gi_wp2
 gi_loopw [3] (fun i wr=>∃ k:Nat,k≤len∧i=.int .i64 ((len:Int) - 1 - k)∧Jr k wr)
  (fun i _=>(intOf i + 1).toNat)
 case atStart=>exact ⟨0,Nat.zero_le _,by simp,h0⟩
 case round=>
  obtain ⟨k,hk,rfl,hJs⟩:=hrel
  obtain ⟨hbs2,hcx⟩:=hrd k wr hJs
  by_cases hlt:k < len
  ·obtain ⟨fn,tmps,assign,body,hy,hR⟩:=hY k wr hlt hJs
   have hge:(0:Int)≤(len:Int) - 1 - k:=by omega
   have hlt2:(len:Int) - 1 - k < len:=by omega
   have htn:((len:Int) - 1 - k).toNat=len - 1 - k:=by omega
   have hcx':=hcx (len - 1 - k) (by omega)
   gi_wp2
   refine hR.mono ?_
   rintro e W3 ⟨rfl,hJ3⟩
   gi_wp2
   go_roundw
   case rel=>exact ⟨k + 1,by omega,by congr 1;omega,hJ3⟩
   case measure=>simp [intOf];omega
  ·obtain rfl:k=len:=by omega
   have hneg:¬ ((k:Int) - 1 - k ≥ 0):=by omega
   gi_wp2
   go_end0
   exact ⟨⟨_,rfl⟩,hJs⟩
set_option maxRecDepth 100000 in
set_option maxHeartbeats 4000000 in
theorem back1_nil (l bs cap:Nat) (bo:Option Addr) (Jr:Nat->World->Prop) (hrd:∀ k W,Jr k W->W.cell? ⟨bs,0,none⟩=some (.slice bo 0 cap)) (W:World) (h0:Jr 0 W) :
  CallsIn Fence.wide 1 Tryz.prog 198 #[.func (.yield l) #[] #[],.pointer (some ⟨bs,0,none⟩)] W (fun e W'=>(∃ v,e=.returned v)∧Jr 0 W'):=by
 refine callsIn_of_wp Tryz.func198 rfl trivial ?_ rfl
 simp only [Tryz.ntmps198,List.size_toArray,List.length_cons,List.length_nil,Nat.reduceAdd,Nat.reduceSub,Array.replicate_succ,Array.replicate_zero,List.push_toArray,List.append_toArray,List.nil_append,List.cons_append]
 have hbs:=hrd 0 W h0
 gi_wp2
 gi_loopw [3] (fun i wr=>i=.int .i64 (-1)∧Jr 0 wr) (fun i _=>1)
 case atStart=>exact ⟨rfl,h0⟩
 case round=>
  obtain ⟨rfl,hJs⟩:=hrel
  gi_wp2
  go_end0
  exact ⟨⟨_,rfl⟩,hJs⟩
def backE (xs:List (List UInt8)):List (Int×List UInt8×Unit):=(List.range xs.length).map fun (k:Nat)=>((xs.length:Int) - 1 - (k:Int),xs.getD (xs.length - 1 - k) [],())
theorem it_back {O:Go.Tw.Own} {ρ:List Hd} {bs:Nat} {xs:List (List UInt8)} {sv:Value} (hO:O bs=.im [sv]) (hT:TR O (.sl (.sl .u8)) xs [sv]) (hlen:xs.length≤1099511627776) :
  ∃ u:Nat->Array Value,(∀ k el,(backE xs)[k]? = some el->∃ cs,RL O ρ (encs [.i,.ro .u8] el) cs∧u k=(vals (encs [.i,.ro .u8] el) cs).toArray) ∧
   Iter Tryz.prog 198 #[vP bs 0] (backE xs).length u (fun W=>∀ b all,O b=.im all->∃ ty fz,W.heap[b]? = some (.cells all.toArray ty fz)):=by
 have hcl:(backE xs).length=xs.length:=by simp [backE]
 have hcell:∀ {b:Nat} {v:Value},O b=.im [v]->∀ W:World,(∀ b all,O b=.im all->∃ ty fz,W.heap[b]? = some (.cells all.toArray ty fz))->W.cell? ⟨b,0,none⟩=some v:=by
  intro b v hb W hW
  obtain ⟨ty,fz,h⟩:=hW b _ hb
  simp [World.cell?,h]
 obtain ⟨v',es,hv,hL,hS⟩:=hT
 cases hv
 have hel:=LR.length (fun _ _=>TR.length (t:=.sl .u8)) hL
 have hel:es.length=xs.length:=by simpa [Ty.size] using hel
 rcases hS with ⟨h0,bo,c,rfl⟩ | ⟨b,off,cap,rfl,hcap,hI⟩
 ·refine ⟨fun _=>#[],fun k el hk=>?_,?_⟩
  ·have:=(List.getElem?_eq_some_iff.1 hk).1;omega
  ·intro l Jr hrd hdr hY W hj
   rw [hcl,h0]
   exact back1_nil l bs c bo Jr (fun k W h=>hcell hO W (hrd k W h)) W hj
 ·have hget:∀ j,j < xs.length->es[j]? = some (es.getD j (.bool false)):=fun j hj=>by
   have:j < es.length:=by omega
   simp [this]
  refine ⟨fun k=>#[.int .i64 ((xs.length:Int) - 1 - k),es.getD (xs.length - 1 - k) (.bool false)],fun k el hk=>?_,?_⟩
  ·have hkl:=(List.getElem?_eq_some_iff.1 hk).1
   rw [hcl] at hkl
   have hk':=hk
   simp only [backE,List.getElem?_map,Option.map_eq_some_iff] at hk'
   obtain ⟨k',h1,rfl⟩:=hk'
   have hkk:k'=k:=by
    obtain ⟨h2,h3⟩:=List.getElem?_eq_some_iff.1 h1
    rw [List.getElem_range] at h3
    exact h3.symm
   subst hkk
   have hj:xs.length - 1 - k' < xs.length:=by omega
   have hx:xs[xs.length - 1 - k']? = some (xs.getD (xs.length - 1 - k') []):=by simp [hj]
   have h2:=LR.get (k:=1) (fun _ _=>TR.length (t:=.sl .u8)) hL hx
   rw [Nat.mul_one] at h2
   have h3:(es.drop (xs.length - 1 - k')).take 1=[es.getD (xs.length - 1 - k') (.bool false)]:=by
    have hj2:xs.length - 1 - k' < es.length:=by omega
    generalize xs.length - 1 - k'=i at hj2
    rw [List.drop_eq_getElem_cons hj2,List.take_succ_cons,List.take_zero,List.getD_eq_getElem?_getD,List.getElem?_eq_getElem hj2]
    rfl
   rw [h3] at h2
   exact ⟨[[vI ((xs.length:Int) - 1 - k')],[es.getD (xs.length - 1 - k') (.bool false)]],⟨_,_,rfl,⟨rfl,rfl⟩,_,_,rfl,h2,rfl⟩,rfl⟩
  ·intro l Jr hrd hdr hY W hj
   rw [hcl] at hY ⊢
   refine back1_in l bs b off xs.length cap (fun j=>es.getD j (.bool false)) hlen Jr (fun k W h=>⟨hcell hO W (hrd k W h),fun j hjl=>?_⟩) hY W hj
   obtain ⟨all,g1,g2⟩:=hI
   obtain ⟨ty,fz,g3⟩:=hrd k W h b all g1
   have g4:=g2 j _ (hget j hjl)
   simp [World.cell?,g3,g4]
def okBack (xs:List (List UInt8)):Bool:=decide (xs.length≤1099511627776)
theorem hit_back {O:Go.Tw.Own} {ρ:List Hd} {lb:List Value} {tb:Tbl} {j1 t1:Nat} {xs:List (List UInt8)} (h:R O ρ true (.pr (.pt j1 []) .un) lb) (hb:BxOk O ρ tb [j1]) (h1:tb[j1]? = some (.blk t1 (.ro (.sl .u8) xs))) (hok:okBack xs=true) :
  ∃ u:Nat->Array Value,(∀ k el,(backE xs)[k]? = some el->∃ cs,RL O ρ (encs [.i,.ro .u8] el) cs∧u k=(vals (encs [.i,.ro .u8] el) cs).toArray) ∧
   Iter Tryz.prog 198 lb.toArray (backE xs).length u (fun W=>∀ b all,O b=.im all->∃ ty fz,W.heap[b]? = some (.cells all.toArray ty fz)):=by
 have n3:xs.length≤1099511627776:=by simpa [okBack] using hok
 obtain ⟨x1,r1,rfl,g1,g3⟩:=h
 simp only [R] at g3
 subst g3
 obtain ⟨hd1,off1,e1,e2,e3⟩:=g1
 simp only [List.cons.injEq,and_true] at e3
 subst e3
 have z1:off1=0:=by cases hd1.z<;>simp [Sz.off] at e2<;>exact e2.symm
 subst z1
 obtain ⟨k1,c1,q1,q2,q3⟩:=hb j1 (by simp) _ _ h1
 rw [e1] at q1;cases q1
 have q3:TR O (.sl (.sl .u8)) xs c1:=q3
 obtain ⟨sv,es,rfl,q7⟩:=q3
 exact it_back q2 ⟨sv,es,rfl,q7⟩ n3
end Go.Proofs.YthikoaamigiceaaGreatDoor
