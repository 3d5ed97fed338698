/- Iterators. -/
import Derived.Shelf.RegionOpenPlain
import Derived.WalkKit
import Derived.Lib.Walk
import Derived.Lib.SliceRun
import Derived.Lib.AppendZerosOnto
import Derived.Test.YtiahcmabcbpcpaaGreatDoormB
set_option linter.unusedSimpArgs false
set_option linter.unusedVariables false
set_option maxRecDepth 100000
namespace Go.Proofs.YtiahcmabcbpcpaaGreatDoor
open Go.RowKit Go.Lib Go.Tw
set_option maxHeartbeats 2000000 in
set_option maxRecDepth 400000 in
theorem ath (w:World):Calls Tryz.prog 109 #[.slice none 0 0,.int .i64 0] w fun e w'=>e=.returned (.slice none 0 0)∧w'=w:=by
 go_enter Tryz.func109,Tryz.ntmps109
 go_wp2
 go_ret
 exact ⟨rfl,rfl⟩
set_option maxHeartbeats 4000000 in
set_option maxRecDepth 400000 in
theorem apA (n:Nat) (w:World) (h0:0 < n) (hn:n≤4000) (i0:TypeInfo) (z:Value) (hi0:Tryz.prog.info? 5=some i0) (hz0:i0.zero=some z) (hs0:i0.size=1) (hb0:i0.bytes≤128) :
  Calls Tryz.prog 109 #[.slice none 0 0,.int .i64 n] w fun e w'=>e=.returned (.slice (some ⟨w.heap.size,0,none⟩) 0 (grownCap w n 0 5)) ∧
   w'=w.drew.alloc (.cells (Builtin.zeroCells z.cells n ++ Builtin.zeroCells z.cells (grownCap w n 0 5 - n)) 5):=by
 have hold:(Builtin.firstCells i0.size 0 (.slice none 0 0)).run Tryz.prog w.drew=.ok #[] w.drew:=run_firstCells_none w.drew i0.size 0 0 0
 have hfit:=growslice_fits (need:=n) (old:=0) (bytes:=i0.bytes) (by omega) (by
  have:=Nat.mul_le_mul hn hb0
  omega)
 have hrz:∀ ty,(Builtin.append_ #[26,3] ty #[.slice none 0 0,.int .i64 (n:Int)]).run Tryz.prog w =
   .ok (.slice (some ⟨w.heap.size,0,none⟩) n (grownCap w n 0 5)) (w.drew.alloc (.cells (Builtin.zeroCells z.cells n ++ Builtin.zeroCells z.cells (grownCap w n 0 5 - n)) 5)):=fun ty=>by
  have h:=Lib.run_append_grow_zeros (P:=Tryz.prog) (ty:=ty) w 26 3 5 i0 z .i64 .i64 Tryz.underlying26 Tryz.underlying3 hi0 hz0 none 0 0 [] hold n h0 (by omega) (by omega) (by omega)
   (by have:=Nat.mul_le_mul hn hb0;omega) (by simpa using hfit)
  simpa using h
 have h1:¬ ((n:Int) < 0):=by omega
 have h3:wrap64 ((n:Int) - 0)=(n:Int):=by unfold wrap64;omega
 have h4:(n:Int) > 0:=by omega
 generalize grownCap w n 0 5=G at hrz ⊢
 clear hold hfit
 go_enter Tryz.func109,Tryz.ntmps109
 go_wp2_with (at_builtin;refine Lib.wpList_append_run _ rfl _ _ _ _ rfl _ _ rfl rfl _ _ (hrz _) ?_)
 all_goals (go_ret;exact ⟨rfl,rfl⟩)
def DX (_:Nat) (n:Int):Option (List UInt8):=bif decide (0≤n) && decide (n≤4000) then some [] else none
theorem ZX {O:Go.Tw.Own} {w w':World} {v:Value} (hM:Gm O [] [] w) (hk:Kept ja w w') (hrow:Row w' 5 1 v 0 []) (hb:∀ b,aZ v b->w.heap.size≤b) :
  ∃ O' ρ' ds,Gm O' ρ' [.row 5 .u8 ([]:List UInt8)] w'∧aR (fun _=>True) O [] w O' ρ' w'∧RL O' ρ' [.rw 0] ds∧v=lW [.rw 0] ds:=by
 have ez:=hrow.jX
 obtain ⟨h1,h2⟩:=hM.new (h:=⟨0,Ty.u8.sz,v,[]⟩) (x:=.row 5 .u8 ([]:List UInt8)) (eH v) hk (fun b aB=>⟨hb b (kW aB),hrow.blt (kW aB)⟩)
  ⟨⟨0,Ty.u8.sz,v,[]⟩,[],rfl,rfl,fun b aB=>by
   obtain ⟨q,m,cp,hv⟩:∃ q m cp,v=.slice q m cp:=by cases v<;>first | exact ⟨_,_,_,rfl⟩ | cases ez
   simp [wA hv aB],rfl,hrow⟩
 exact ⟨_,_,[[v]],h1,h2.bD (fun _ h=>h.elim),⟨[v],[],rfl,⟨⟨0,Ty.u8.sz,v,[]⟩,rfl,rfl,ez⟩,rfl⟩,rfl⟩
theorem aoB {O:Go.Tw.Own} {w:World} (hM:Gm O [] [] w) (n:Int) (hn0:0≤n) (Dg:n≤4000) :
  Calls Tryz.prog 109 #[.slice none 0 0,.int .i64 n] w (eJ fun v w'=>∃ O' ρ' ds,Gm O' ρ' [.row 5 .u8 ([]:List UInt8)] w'∧aR (fun _=>True) O [] w O' ρ' w'∧RL O' ρ' [.rw 0] ds∧v=lW [.rw 0] ds):=by
 by_cases h0:n=0
 ·subst h0
  refine (ath w).mono ?_
  rintro e w' ⟨rfl,rfl⟩
  exact ZX hM (Kept.refl _ _) ⟨rfl,.inl ⟨rfl,rfl⟩⟩ (fun b hb=>hb.elim)
 ·obtain ⟨bytes,z,zc,h3,h4,h5,h6⟩:=Ov 26 5 .u8 (by kernel_rfl) (by kernel_rfl)
  obtain ⟨f,hf,hk,kw,hz⟩:=h3.info
  have hcell:=h3.cells
  have hk:f.size=1:=hk
  obtain ⟨k,rfl⟩:∃ k:Nat,n=k:=⟨n.toNat,by omega⟩
  have hzs:z.cells.size=1:=hcell
  refine (apA k w (by omega) (by omega) f z hf hz hk (by omega)).mono ?_
  rintro e w' ⟨rfl,rfl⟩
  have hge:k≤grownCap w k 0 5:=grownCap_ge w _ _ _
  have hle:grownCap w k 0 5≤maxLen:=grownCap_le_maxLen w k 0 5 (by unfold maxLen;omega)
  generalize grownCap w k 0 5=G at hge hle ⊢
  have hsz:∀ m,(Builtin.zeroCells z.cells m).size=m:=fun m=>by simp [Builtin.zeroCells,hzs]
  obtain ⟨l,hl⟩:∃ l:List Value,Builtin.zeroCells z.cells k ++ Builtin.zeroCells z.cells (G - k)=l.toArray:=⟨(Builtin.zeroCells z.cells k ++ Builtin.zeroCells z.cells (G - k)).toList,by simp⟩
  have Rb:l.length=G:=by
   have:=congrArg Array.size hl
   simp only [Array.size_append,hsz,List.size_toArray] at this
   omega
  rw [hl]
  refine ZX hM (Kept.trans (S:=ja) (V0 w) (jZ w.drew (.cells l.toArray 5)) (fun _ _ h=>h)) ⟨rfl,.inr ⟨w.heap.size,G,l,rfl,Nat.zero_le _,?_,by simpa using Rb,hle⟩⟩ (fun b hb=>by cases hb;exact Nat.le_refl _)
  exact kr (w:=w.drew) 5 l
theorem ajW (F:Nat):Sound Tryz.prog cfg 109 (cu 0 [.ns,.i] [] [.rw 0] [.row 5 .u8] (fun x _=>DX F x.2.1) (fun x y (z:List UInt8)=>(((),()),(z,())))):=by
 intro x y p q hrun O ρ w cs hG hM hR
 obtain ⟨_,n,_⟩:=x
 have hrun:(DX F n).bind (fun z=>some ((((),()),(z,())):au [.rw 0]×ax [.row 5 .u8]))=some (p,q):=hrun
 obtain ⟨z,hz,hpq⟩:=bl hrun
 unfold DX at hz
 cases hc:decide (0≤n) && decide (n≤4000) with
 | false=>rw [hc] at hz;cases hz
 | true=>
 rw [hc] at hz
 have hz:some ([]:List UInt8)=some z:=hz
 cases hz
 cases hpq
 simp only [Bool.and_eq_true,decide_eq_true_eq] at hc
 obtain ⟨hn0,Dg⟩:=hc
 have hM:Gm O ρ [] w:=hM
 have hρ:ρ=[]:=List.length_eq_zero_iff.1 hM.len
 subst hρ
 obtain ⟨c1,r1,rfl,g1,c2,r2,rfl,g2,g3⟩:=hR
 obtain ⟨rfl,_⟩:=g1
 obtain ⟨rfl,_⟩:=g2
 exact aoB hM n hn0 Dg
end Go.Proofs.YtiahcmabcbpcpaaGreatDoor
