/- Iterators. -/
import Derived.Shelf.RegionOpenPlain
import Derived.WalkKit
import Derived.Lib.Walk
import Derived.Lib.SliceRun
import Derived.Lib.AppendZerosOnto
import Derived.Test.YthikoaamigiceaaGreatDoorRB
namespace Go.Proofs.YthikoaamigiceaaGreatDoor
open Go.RowKit Go.Lib Go.Tw
set_option linter.unusedSimpArgs false
set_option linter.unusedVariables false
set_option maxHeartbeats 2000000 in
set_option maxRecDepth 100000 in
theorem grow_zero (w:World):Calls Tryz.prog 172 #[.slice none 0 0,.int .i64 0] w fun e w'=>e=.returned (.slice none 0 0)∧w'=w:=by
 go_enter Tryz.func172,Tryz.ntmps172
 go_wp2
 go_ret
 exact ⟨rfl,rfl⟩
set_option maxHeartbeats 4000000 in
set_option maxRecDepth 100000 in
theorem grow_pos (n:Nat) (w:World) (h0:0 < n) (hn:n≤1000) (i0:TypeInfo) (z:Value) (hi0:Tryz.prog.info? 36=some i0) (hz0:i0.zero=some z) (hs0:i0.size=1) (hb0:i0.bytes≤128) :
  Calls Tryz.prog 172 #[.slice none 0 0,.int .i64 n] w fun e w'=>e=.returned (.slice (some ⟨w.heap.size,0,none⟩) 0 (grownCap w n 0 36)) ∧
   w'=w.drew.alloc (.cells (Builtin.zeroCells z.cells n ++ Builtin.zeroCells z.cells (grownCap w n 0 36 - n)) 36):=by
 have hold:(Builtin.firstCells i0.size 0 (.slice none 0 0)).run Tryz.prog w.drew=.ok #[] w.drew:=run_firstCells_none w.drew i0.size 0 0 0
 have hfit:=growslice_fits (need:=n) (old:=0) (bytes:=i0.bytes) (by omega) (by
  have:=Nat.mul_le_mul hn hb0
  omega)
 have hrz:∀ ty,(Builtin.append_ #[141,3] ty #[.slice none 0 0,.int .i64 (n:Int)]).run Tryz.prog w =
   .ok (.slice (some ⟨w.heap.size,0,none⟩) n (grownCap w n 0 36)) (w.drew.alloc (.cells (Builtin.zeroCells z.cells n ++ Builtin.zeroCells z.cells (grownCap w n 0 36 - n)) 36)):=fun ty=>by
  have h:=Lib.run_append_grow_zeros (P:=Tryz.prog) (ty:=ty) w 141 3 36 i0 z .i64 .i64 Tryz.underlying141 Tryz.underlying3 hi0 hz0 none 0 0 [] hold n h0 (by omega) (by omega) (by omega)
   (by have:=Nat.mul_le_mul hn hb0;omega) (by simpa using hfit)
  simpa using h
 have h1:¬ ((n:Int) < 0):=by omega
 have h3:wrap64 ((n:Int) - 0)=(n:Int):=by unfold wrap64;omega
 have h4:(n:Int) > 0:=by omega
 generalize grownCap w n 0 36=G at hrz ⊢
 clear hold hfit
 go_enter Tryz.func172,Tryz.ntmps172
 go_wp2_with (at_builtin;refine Lib.wpList_append_run _ rfl _ _ _ _ rfl _ _ rfl rfl _ _ (hrz _) ?_)
 all_goals (go_ret;exact ⟨rfl,rfl⟩)
def TGrow (_:Nat) (n:Int):Option (List (List UInt8)):=bif decide (0≤n) && decide (n≤1000) then some [] else none
theorem row_ret {O:Go.Tw.Own} {w w':World} {v:Value} (hM:Gm O [] [] w) (hk:Kept none1 w w') (hrow:Row w' 36 1 v 0 []) (hb:∀ b,blockOf v b->w.heap.size≤b) :
  ∃ O' ρ' ds,Gm O' ρ' [.row 36 (.sl .u8) ([]:List (List UInt8))] w'∧Stp (fun _=>True) O [] w O' ρ' w'∧RL O' ρ' [.rw 0] ds∧v=resV [.rw 0] ds:=by
 have hsl:=hrow.isSl
 obtain ⟨h1,h2⟩:=hM.new (h:=⟨0,(Ty.sl .u8).sz,v⟩) (x:=.row 36 (.sl .u8) ([]:List (List UInt8))) (blkB v) hk (fun b hbb=>⟨hb b (blkB_of hbb),hrow.blt (blkB_of hbb)⟩)
  ⟨⟨0,(Ty.sl .u8).sz,v⟩,[],rfl,rfl,fun b hbb=>by
   obtain ⟨q,m,cp,hv⟩:∃ q m cp,v=.slice q m cp:=by cases v<;>first | exact ⟨_,_,_,rfl⟩ | cases hsl
   simp [of_blkB hv hbb],rfl,hrow⟩
 exact ⟨_,_,[[v]],h1,h2.weak (fun _ h=>h.elim),⟨[v],[],rfl,⟨⟨0,(Ty.sl .u8).sz,v⟩,rfl,rfl,hsl⟩,rfl⟩,rfl⟩
theorem grow_call {O:Go.Tw.Own} {w:World} (hM:Gm O [] [] w) (n:Int) (hn0:0≤n) (hn1:n≤1000) :
  Calls Tryz.prog 172 #[.slice none 0 0,.int .i64 n] w (Ret fun v w'=>∃ O' ρ' ds,Gm O' ρ' [.row 36 (.sl .u8) ([]:List (List UInt8))] w'∧Stp (fun _=>True) O [] w O' ρ' w'∧RL O' ρ' [.rw 0] ds∧v=resV [.rw 0] ds):=by
 by_cases h0:n=0
 ·subst h0
  refine (grow_zero w).mono ?_
  rintro e w' ⟨rfl,rfl⟩
  exact row_ret hM (Kept.refl _ _) ⟨rfl,.inl ⟨rfl,rfl⟩⟩ (fun b hb=>hb.elim)
 ·obtain ⟨bytes,z,zc,h3,h4,h5,h6⟩:=el141
  obtain ⟨f,hf,hk,hbt,hz⟩:=h3.info
  have hcell:=h3.cells
  have hk:f.size=1:=hk
  obtain ⟨k,rfl⟩:∃ k:Nat,n=k:=⟨n.toNat,by omega⟩
  have hzs:z.cells.size=1:=hcell
  refine (grow_pos k w (by omega) (by omega) f z hf hz hk (by omega)).mono ?_
  rintro e w' ⟨rfl,rfl⟩
  have hge:k≤grownCap w k 0 36:=grownCap_ge w _ _ _
  have hle:grownCap w k 0 36≤maxLen:=grownCap_le_maxLen w k 0 36 (by unfold maxLen;omega)
  generalize grownCap w k 0 36=G at hge hle ⊢
  have hsz:∀ m,(Builtin.zeroCells z.cells m).size=m:=fun m=>by simp [Builtin.zeroCells,hzs]
  obtain ⟨l,hl⟩:∃ l:List Value,Builtin.zeroCells z.cells k ++ Builtin.zeroCells z.cells (G - k)=l.toArray:=⟨(Builtin.zeroCells z.cells k ++ Builtin.zeroCells z.cells (G - k)).toList,by simp⟩
  have hll:l.length=G:=by
   have:=congrArg Array.size hl
   simp only [Array.size_append,hsz,List.size_toArray] at this
   omega
  rw [hl]
  refine row_ret hM (Kept.trans (S:=none1) (kept_drew w) (kept_alloc w.drew (.cells l.toArray 36)) (fun _ _ h=>h)) ⟨rfl,.inr ⟨w.heap.size,G,l,rfl,Nat.zero_le _,?_,by simpa using hll,hle⟩⟩ (fun b hb=>by cases hb;exact Nat.le_refl _)
  exact blk_new (w:=w.drew) 36 l
theorem grow_ok (F:Nat):Sound Tryz.prog cfg 172 (mkC 0 [.ns,.i] [] [.rw 0] [.row 36 (.sl .u8)] (fun x _=>TGrow F x.2.1) (fun x y (z:List (List UInt8))=>(((),()),(z,())))):=by
 intro x y p q hrun O ρ w cs hG hM hR
 obtain ⟨_,n,_⟩:=x
 have hrun:(TGrow F n).bind (fun z=>some ((((),()),(z,())):dens [.rw 0]×tdens [.row 36 (.sl .u8)]))=some (p,q):=hrun
 obtain ⟨z,hz,hpq⟩:=bindS hrun
 unfold TGrow at hz
 cases hc:decide (0≤n) && decide (n≤1000) with
 | false=>rw [hc] at hz;cases hz
 | true=>
 rw [hc] at hz
 have hz:some ([]:List (List UInt8))=some z:=hz
 cases hz
 cases hpq
 simp only [Bool.and_eq_true,decide_eq_true_eq] at hc
 obtain ⟨hn0,hn1⟩:=hc
 have hM:Gm O ρ [] w:=hM
 have hρ:ρ=[]:=List.length_eq_zero_iff.1 hM.len
 subst hρ
 obtain ⟨c1,r1,rfl,g1,c2,r2,rfl,g2,g3⟩:=hR
 obtain ⟨rfl,_⟩:=g1
 obtain ⟨rfl,_⟩:=g2
 exact grow_call hM n hn0 hn1
end Go.Proofs.YthikoaamigiceaaGreatDoor
