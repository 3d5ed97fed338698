/- The functions, each with its twin, and plain facts about them. -/
import Derived.Test.YtpnhgldpeiogbaaGreatDoorH1
namespace Go.Proofs.YtpnhgldpeiogbaaGreatDoor
open Go.Tw
set_option linter.unusedSimpArgs false
set_option linter.unusedVariables false
def E135 (F:Nat):Ev:=⟨cfg,15,ctOf [(138,ct138 F)],fun _=>[],ctOf [],fun _=>none,fun _=>none⟩
theorem cts135 (F:Nat):CtsOk Tryz.prog (E135 F):=cts_of (l:=[(138,ct138 F)]) (l':=[]) rfl rfl ⟨⟨ok138 F,_,Tryz.func138,rfl,rfl⟩,trivial⟩ trivial
def L135_2c (F:Nat) (y6:UInt8) (y7:Int) {β:Type} (kA:Int->Option β) (kO:Unit->Option β) (kR:UInt8->Option β):Option β:=
 (bif (decide (y7 < (256:Int))) then (Option.bind (T138 F y6 (UInt8.ofInt y7)) fun z9=>(bif (z9 == (UInt8.ofNat 1)) then (kR (UInt8.ofInt y7)) else (kA (w64 (y7 + (1:Int)))))) else (kO ()))
def L135_2 (F:Nat) (y6:UInt8) (y7:Int):Option ((Int) ⊕ ((Unit) ⊕ (UInt8))):=L135_2c F y6 y7 (fun s=>some (.inl s)) (fun z=>some (.inr (.inl z))) (fun z=>some (.inr (.inr z)))
theorem L135_2n (F:Nat) (y6:UInt8) (y7:Int) {β:Type} (kA:Int->Option β) (kO:Unit->Option β) (kR:UInt8->Option β):L135_2c F y6 y7 kA kO kR=(L135_2 F y6 y7).bind (elimS kA (elimS kO kR)):=by
 simp only [L135_2,L135_2c,oA,oC,oS,oN,elimS_l,elimS_r,elimS_bind]
def lc135_2 (F:Nat):Lc:=mkR [0,3] [.u8,.i] [] [] [] [] [2] [.u8] [] F (fun x y (s:Int)=>L135_2 F x.1 s) (fun x y=>x.2.1) (fun x y (z:Unit)=>((),())) (fun x y (z:UInt8)=>((z,()),()))
theorem lo135_2 (F:Nat):LcOk Tryz.prog (E135 F) 0 (lc135_2 F) (cAt (bodyOf Tryz.f135) [1,0,1]):=
 mkR_ok (lp:=[]) (id:=0) (b:=cAt (bodyOf Tryz.f135) (0 :: 0 :: [1,0,1])) cok (cts135 F) mixed trivial (by kernel_rfl) (by kernel_rfl) (fun x y s=>(x.1,s,())) (fun x y s=>()) (fun x y=>rfl) (fun x y=>rfl) (fun x y s kA kO kR=>L135_2c F x.1 s kA kO kR) (fun x y s kA kO kR=>L135_2n F x.1 s kA kO kR) (fun _ _ _=>by kernel_rfl)
def T135c (F:Nat) (p0:UInt8) {β:Type} (k:UInt8->Option β):Option β:=
 (Option.bind (iter (fun s=>L135_2 F p0 s) F (1:Int)) fun z10=>elimS (fun z10=>(k (UInt8.ofNat 0))) (fun z10=>(k z10)) z10)
def T135 (F:Nat) (p0:UInt8):=T135c F p0 some
def ct135 (F:Nat):Ct:=mkC 0 [.u8] [] [.u8] [] (fun x y=>T135 F x.1) (fun x y (z:UInt8)=>((z,()),()))
theorem ok135 (F:Nat):Sound Tryz.prog cfg 135 (ct135 F):=
 mkC_ok (E:=E135 F) (lp:=[([1,0,1],lc135_2 F)]) (code:=bodyOf Tryz.f135) Tryz.func135 rfl Tryz.ntmps135 rfl rfl cok (cts135 F) mixed ⟨lo135_2 F,trivial⟩ (by kernel_rfl) (fun x y k=>T135c F x.1 k) (fun _ _ _=>by simp only [T135,T135c,oA,oC,oS,oN,elimS_bind]) (fun _ _=>by kernel_rfl)
def E98 (F:Nat):Ev:=⟨cfg,37,ctOf [(135,ct135 F)],fun _=>[],ctOf [],fun _=>none,fun _=>none⟩
theorem cts98 (F:Nat):CtsOk Tryz.prog (E98 F):=cts_of (l:=[(135,ct135 F)]) (l':=[]) rfl rfl ⟨⟨ok135 F,_,Tryz.func135,rfl,rfl⟩,trivial⟩ trivial
def L98_2c (F:Nat) (y22:Int) (y23:Int) (y24:Int) (y25:List UInt8) {β:Type} (kA:(Int×Za)->Option β) (kO:(Za)->Option β):Option β:=
 (bif (decide (y24 < y22)) then (bif (decide (y23 < y22)) then (bif (y23 == y24) then (Option.bind (inb y25.length y24) fun x33=>(bif (decide (y22≤y23)) then (Option.bind (T135 F (UInt8.ofInt (ixor y23 y24))) fun z34=>(Option.bind (inb (List.set y25 x33 (UInt8.ofNat 1)).length y24) fun x35=>(kA ((w64 (y24 + (1:Int))),(List.set (List.set y25 x33 (UInt8.ofNat 1)) x35 z34))))) else (kA ((w64 (y24 + (1:Int))),(List.set y25 x33 (UInt8.ofNat 1)))))) else (bif (decide (y22≤y23)) then (Option.bind (T135 F (UInt8.ofInt (ixor y23 y24))) fun z36=>(Option.bind (inb y25.length y24) fun x37=>(kA ((w64 (y24 + (1:Int))),(List.set y25 x37 z36))))) else (kA ((w64 (y24 + (1:Int))),y25)))) else (bif (decide (y22≤y23)) then (Option.bind (T135 F (UInt8.ofInt (ixor y23 y24))) fun z38=>(Option.bind (inb y25.length y24) fun x39=>(kA ((w64 (y24 + (1:Int))),(List.set y25 x39 z38))))) else (kA ((w64 (y24 + (1:Int))),y25)))) else (kO y25))
def L98_2 (F:Nat) (y22:Int) (y23:Int) (y24:Int) (y25:List UInt8):=L98_2c F y22 y23 y24 y25 (fun s=>some (Sum.inl s)) (fun z=>some (Sum.inr z))
def lc98_2 (F:Nat):Lc:=mkL [0,1,5,6] [.i,.i,(.rw 0),.i] [.row 5 .u8] [5] [(.rw 0)] [.row 5 .u8] F (fun x y (s:Int×Za)=>L98_2 F x.1 x.2.1 s.1 s.2) (fun x y=>(x.2.2.2.1,y.1)) (fun x y (z:Za)=>(((),()),(z,())))
theorem lo98_2 (F:Nat):LcOk Tryz.prog (E98 F) 0 (lc98_2 F) (cAt (bodyOf Tryz.f98) [1,0,1,1]):=
 mkL_ok (lp:=[]) (id:=0) (b:=cAt (bodyOf Tryz.f98) (0 :: 0 :: [1,0,1,1])) cok (cts98 F) mixed trivial (by kernel_rfl) (by kernel_rfl) (fun x y s=>(x.1,x.2.1,(),s.1,())) (fun x y s=>(s.2,())) (fun x y=>rfl) (fun x y=>rfl) (fun x y s kA kO=>L98_2c F x.1 x.2.1 s.1 s.2 kA kO) (fun _ _ _ _ _=>by simp only [L98_2,L98_2c,oA,oC,oS,oN,elimS_l,elimS_r,elimS_bind]) (fun _ _ _=>by kernel_rfl)
def T98c (F:Nat) (p0:Int) (p1:Int) {β:Type} (k:(Za)->Option β):Option β:=
 (Option.bind (gmake (0:UInt8) p0 p0) fun x21=>(Option.bind (iter (fun s=>L98_2 F p0 p1 s.1 s.2) F ((0:Int),x21)) fun z40=>(k z40)))
def T98 (F:Nat) (p0:Int) (p1:Int):=T98c F p0 p1 some
def ct98 (F:Nat):Ct:=mkC 0 [.i,.i] [] [(.rw 0)] [.row 5 .u8] (fun x y=>T98 F x.1 x.2.1) (fun x y (z:Za)=>(((),()),(z,())))
theorem ok98 (F:Nat):Sound Tryz.prog cfg 98 (ct98 F):=
 mkC_ok (E:=E98 F) (lp:=[([1,0,1,1],lc98_2 F)]) (code:=bodyOf Tryz.f98) Tryz.func98 rfl Tryz.ntmps98 rfl rfl cok (cts98 F) mixed ⟨lo98_2 F,trivial⟩ (by kernel_rfl) (fun x y k=>T98c F x.1 x.2.1 k) (fun _ _ _=>by simp only [T98,T98c,oA,oC,oS,oN,elimS_bind]) (fun _ _=>by kernel_rfl)
def ord120:Nat->List (Tag×Nat)
 | 9=>[(.p,0),(.p,1),(.p,2),(.p,3),(.p,4),(.c,5),(.p,6),(.p,7),(.p,8),(.r,9),(.p,10),(.p,11),(.p,12),(.r,13),(.p,14),(.p,15),(.r,16),(.w,17),(.p,18),(.p,19),(.b,20)]
 | _=>[]
def E120 (F:Nat):Ev:=⟨cfg,52,ctOf [(98,ct98 F),(138,ct138 F)],ord120,ctOf [],fun _=>none,fun _=>none⟩
theorem cts120 (F:Nat):CtsOk Tryz.prog (E120 F):=cts_of (l:=[(98,ct98 F),(138,ct138 F)]) (l':=[]) rfl rfl ⟨⟨ok98 F,_,Tryz.func98,rfl,rfl⟩,⟨⟨ok138 F,_,Tryz.func138,rfl,rfl⟩,trivial⟩⟩ trivial
def L120_4c (F:Nat) (y40:List Za) (y41:Int) (y43:List UInt8) (y42:Int) (y44:List UInt8) {β:Type} (kA:(Int×Za)->Option β) (kO:(Za)->Option β):Option β:=
 (bif (decide (y42 < (y40.length:Int))) then (Option.bind (inb y44.length y41) fun x53=>(Option.bind (y44[x53]?) fun x54=>(Option.bind (inb y43.length y42) fun x55=>(Option.bind (y43[x55]?) fun x56=>(Option.bind (ix y40 y42) fun x57=>(Option.bind (ix x57 y41) fun x58=>(Option.bind (T138 F x56 x58) fun z59=>(Option.bind (inb y44.length y41) fun x60=>(kA ((w64 (y42 + (1:Int))),(List.set y44 x60 (x54 ^^^ z59)))))))))))) else (kO y44))
def L120_4 (F:Nat) (y40:List Za) (y41:Int) (y43:List UInt8) (y42:Int) (y44:List UInt8):=L120_4c F y40 y41 y43 y42 y44 (fun s=>some (Sum.inl s)) (fun z=>some (Sum.inr z))
def lc120_4 (F:Nat):Lc:=mkL [2,7,8,9,10] [(.ro (.sl .u8)),(.rw 0),(.rw 1),.i,.i] [.row 5 .u8,.row 5 .u8] [2,7,8,9] [(.ro (.sl .u8)),(.rw 0),(.rw 1),.i] [.row 5 .u8,.row 5 .u8] F (fun x y (s:Int×Za)=>L120_4 F x.1 x.2.2.2.1 y.1 s.1 s.2) (fun x y=>(x.2.2.2.2.1,y.2.1)) (fun x y (z:Za)=>((x.1,(),(),x.2.2.2.1,()),(y.1,z,())))
theorem lo120_4 (F:Nat):LcOk Tryz.prog (E120 F) 0 (lc120_4 F) (cAt (bodyOf Tryz.f120) [1,0,0,1,0,0,1,0,1,1,1]):=
 mkL_ok (lp:=[]) (id:=2) (b:=cAt (bodyOf Tryz.f120) (0 :: 0 :: [1,0,0,1,0,0,1,0,1,1,1])) cok (cts120 F) mixed trivial (by kernel_rfl) (by kernel_rfl) (fun x y s=>(x.1,(),(),x.2.2.2.1,s.1,())) (fun x y s=>(y.1,s.2,())) (fun x y=>rfl) (fun x y=>rfl) (fun x y s kA kO=>L120_4c F x.1 x.2.2.2.1 y.1 s.1 s.2 kA kO) (fun _ _ _ _ _=>by simp only [L120_4,L120_4c,oA,oC,oS,oN,elimS_l,elimS_r,elimS_bind]) (fun _ _ _=>by kernel_rfl)
def L120_3c (F:Nat) (y35:List Za) (y37:List UInt8) (y36:Int) (y38:List UInt8) {β:Type} (kA:(Int×Za)->Option β) (kO:(Za)->Option β):Option β:=
 (bif (decide (y36 < (y38.length:Int))) then (Option.bind (iter (fun s=>L120_4 F y35 y36 y37 s.1 s.2) F ((0:Int),y38)) fun z61=>(kA ((w64 (y36 + (1:Int))),z61))) else (kO y38))
def L120_3 (F:Nat) (y35:List Za) (y37:List UInt8) (y36:Int) (y38:List UInt8):=L120_3c F y35 y37 y36 y38 (fun s=>some (Sum.inl s)) (fun z=>some (Sum.inr z))
def lc120_3 (F:Nat):Lc:=mkL [2,7,8,9] [(.ro (.sl .u8)),(.rw 0),(.rw 1),.i] [.row 5 .u8,.row 5 .u8] [8] [(.rw 0)] [.row 5 .u8] F (fun x y (s:Int×Za)=>L120_3 F x.1 y.1 s.1 s.2) (fun x y=>(x.2.2.2.1,y.2.1)) (fun x y (z:Za)=>(((),()),(z,())))
theorem lo120_3 (F:Nat):LcOk Tryz.prog (E120 F) 0 (lc120_3 F) (cAt (bodyOf Tryz.f120) [1,0,1,1,1]):=
 mkL_ok (lp:=[([1,0,0,1,0,0,1,0,1,1,1],lc120_4 F)]) (id:=0) (b:=cAt (bodyOf Tryz.f120) (0 :: 0 :: [1,0,1,1,1])) cok (cts120 F) mixed ⟨lo120_4 F,trivial⟩ (by kernel_rfl) (by kernel_rfl) (fun x y s=>(x.1,(),(),s.1,())) (fun x y s=>(y.1,s.2,())) (fun x y=>rfl) (fun x y=>rfl) (fun x y s kA kO=>L120_3c F x.1 y.1 s.1 s.2 kA kO) (fun _ _ _ _ _=>by simp only [L120_3,L120_3c,oA,oC,oS,oN,elimS_l,elimS_r,elimS_bind]) (fun _ _ _=>by kernel_rfl)
def T120c (F:Nat) (p0:Int) (p1:Int) (p2:List Za) {β:Type} (k:(Za)->Option β):Option β:=
 (Option.bind (T98 F p0 p1) fun z32=>(Option.bind (ix p2 (0:Int)) fun x33=>(Option.bind (gmake (0:UInt8) (x33.length:Int) (x33.length:Int)) fun x34=>(Option.bind (iter (fun s=>L120_3 F p2 z32 s.1 s.2) F ((0:Int),x34)) fun z62=>(k z62)))))
def T120 (F:Nat) (p0:Int) (p1:Int) (p2:List Za):=T120c F p0 p1 p2 some
def ct120 (F:Nat):Ct:=mkC 0 [.i,.i,(.ro (.sl .u8))] [] [(.rw 0)] [.row 5 .u8] (fun x y=>T120 F x.1 x.2.1 x.2.2.1) (fun x y (z:Za)=>(((),()),(z,())))
theorem ok120 (F:Nat):Sound Tryz.prog cfg 120 (ct120 F):=
 mkC_ok (E:=E120 F) (lp:=[([1,0,1,1,1],lc120_3 F)]) (code:=bodyOf Tryz.f120) Tryz.func120 rfl Tryz.ntmps120 rfl rfl cok (cts120 F) mixed ⟨lo120_3 F,trivial⟩ (by kernel_rfl) (fun x y k=>T120c F x.1 x.2.1 x.2.2.1 k) (fun _ _ _=>by simp only [T120,T120c,oA,oC,oS,oN,elimS_bind]) (fun _ _=>by kernel_rfl)
def E82 (F:Nat):Ev:=⟨cfg,23,ctOf [(120,ct120 F)],fun _=>[],ctOf [],fun _=>none,fun _=>none⟩
theorem cts82 (F:Nat):CtsOk Tryz.prog (E82 F):=cts_of (l:=[(120,ct120 F)]) (l':=[]) rfl rfl ⟨⟨ok120 F,_,Tryz.func120,rfl,rfl⟩,trivial⟩ trivial
def L82_2c (F:Nat) (y11:Int) (y12:Int) (y13:List Za) (y14:Int) (y15:List Za) {β:Type} (kA:(Int×Zd)->Option β) (kO:(Zd)->Option β):Option β:=
 (bif (decide (y14 < y12)) then (Option.bind (T120 F y11 y14 y13) fun z18=>(Option.bind (gapp y15 ([z18]:List Za)) fun x19=>(kA ((w64 (y14 + (1:Int))),x19)))) else (kO y15))
def L82_2 (F:Nat) (y11:Int) (y12:Int) (y13:List Za) (y14:Int) (y15:List Za):=L82_2c F y11 y12 y13 y14 y15 (fun s=>some (Sum.inl s)) (fun z=>some (Sum.inr z))
def lc82_2 (F:Nat):Lc:=mkL [0,1,2,7,8] [.i,.i,(.ro (.sl .u8)),(.rw 0),.i] [.row 39 (.sl .u8)] [7] [(.rw 0)] [.row 39 (.sl .u8)] F (fun x y (s:Int×Zd)=>L82_2 F x.1 x.2.1 x.2.2.1 s.1 s.2) (fun x y=>(x.2.2.2.2.1,y.1)) (fun x y (z:Zd)=>(((),()),(z,())))
theorem lo82_2 (F:Nat):LcOk Tryz.prog (E82 F) 0 (lc82_2 F) (cAt (bodyOf Tryz.f82) [1,0,1,1]):=
 mkL_ok (lp:=[]) (id:=0) (b:=cAt (bodyOf Tryz.f82) (0 :: 0 :: [1,0,1,1])) cok (cts82 F) mixed trivial (by kernel_rfl) (by kernel_rfl) (fun x y s=>(x.1,x.2.1,x.2.2.1,(),s.1,())) (fun x y s=>(s.2,())) (fun x y=>rfl) (fun x y=>rfl) (fun x y s kA kO=>L82_2c F x.1 x.2.1 x.2.2.1 s.1 s.2 kA kO) (fun _ _ _ _ _=>by simp only [L82_2,L82_2c,oA,oC,oS,oN,elimS_l,elimS_r,elimS_bind]) (fun _ _ _=>by kernel_rfl)
def T82c (F:Nat) (p0:Int) (p1:Int) (p2:List Za) {β:Type} (k:(Zd)->Option β):Option β:=
 (Option.bind (iter (fun s=>L82_2 F p0 p1 p2 s.1 s.2) F ((0:Int),([]:List Za))) fun z20=>(k z20))
def T82 (F:Nat) (p0:Int) (p1:Int) (p2:List Za):=T82c F p0 p1 p2 some
def ct82 (F:Nat):Ct:=mkC 0 [.i,.i,(.ro (.sl .u8))] [] [(.rw 0)] [.row 39 (.sl .u8)] (fun x y=>T82 F x.1 x.2.1 x.2.2.1) (fun x y (z:Zd)=>(((),()),(z,())))
theorem ok82 (F:Nat):Sound Tryz.prog cfg 82 (ct82 F):=
 mkC_ok (E:=E82 F) (lp:=[([1,0,1,1],lc82_2 F)]) (code:=bodyOf Tryz.f82) Tryz.func82 rfl Tryz.ntmps82 rfl rfl cok (cts82 F) mixed ⟨lo82_2 F,trivial⟩ (by kernel_rfl) (fun x y k=>T82c F x.1 x.2.1 x.2.2.1 k) (fun _ _ _=>by simp only [T82,T82c,oA,oC,oS,oN,elimS_bind]) (fun _ _=>by kernel_rfl)
def E128 (F:Nat):Ev:=⟨cfg,35,ctOf [],fun _=>[],ctOf [],fun _=>none,fun _=>none⟩
theorem cts128 (F:Nat):CtsOk Tryz.prog (E128 F):=cts_of (l:=[]) (l':=[]) rfl rfl trivial trivial
def L128_3c (F:Nat) (y19:List UInt8) {β:Type} (kA:(Za)->Option β) (kO:(Za)->Option β):Option β:=
 (bif ((Int.tmod (y19.length:Int) (64:Int)) != (56:Int)) then (Option.bind (gapp y19 ([(UInt8.ofNat 0)]:List UInt8)) fun x21=>(kA x21)) else (kO y19))
def L128_3 (F:Nat) (y19:List UInt8):=L128_3c F y19 (fun s=>some (Sum.inl s)) (fun z=>some (Sum.inr z))
def lc128_3 (F:Nat):Lc:=mkL [0,3] [(.ro .u8),(.rw 0)] [.row 5 .u8] [0,3] [(.ro .u8),(.rw 0)] [.row 5 .u8] F (fun x y (s:Za)=>L128_3 F s) (fun x y=>y.1) (fun x y (z:Za)=>((x.1,(),()),(z,())))
theorem lo128_3 (F:Nat):LcOk Tryz.prog (E128 F) 0 (lc128_3 F) (cAt (bodyOf Tryz.f128) [0,1,1]):=
 mkL_ok (lp:=[]) (id:=0) (b:=cAt (bodyOf Tryz.f128) (0 :: 0 :: [0,1,1])) cok (cts128 F) mixed trivial (by kernel_rfl) (by kernel_rfl) (fun x y s=>(x.1,(),())) (fun x y s=>(s,())) (fun x y=>rfl) (fun x y=>rfl) (fun x y s kA kO=>L128_3c F s kA kO) (fun _ _ _ _ _=>by simp only [L128_3,L128_3c,oA,oC,oS,oN,elimS_l,elimS_r,elimS_bind]) (fun _ _ _=>by kernel_rfl)
def L128_4c (F:Nat) (y23:UInt64) (y24:Int) (y25:List UInt8) {β:Type} (kA:(Int×Za)->Option β) (kO:(Za)->Option β):Option β:=
 (bif (decide ((0:Int)≤y24)) then (Option.bind (gnn (w64 ((8:Int) * y24))) fun x28=>(Option.bind (gapp y25 ([((shr64 y23 x28).toUInt8)]:List UInt8)) fun x29=>(kA ((w64 (y24 - (1:Int))),x29)))) else (kO y25))
def L128_4 (F:Nat) (y23:UInt64) (y24:Int) (y25:List UInt8):=L128_4c F y23 y24 y25 (fun s=>some (Sum.inl s)) (fun z=>some (Sum.inr z))
def lc128_4 (F:Nat):Lc:=mkL [3,4,5] [(.rw 0),.u64,.i] [.row 5 .u8] [3] [(.rw 0)] [.row 5 .u8] F (fun x y (s:Int×Za)=>L128_4 F x.2.1 s.1 s.2) (fun x y=>(x.2.2.1,y.1)) (fun x y (z:Za)=>(((),()),(z,())))
theorem lo128_4 (F:Nat):LcOk Tryz.prog (E128 F) 0 (lc128_4 F) (cAt (bodyOf Tryz.f128) [1,0,1,1,1,1]):=
 mkL_ok (lp:=[]) (id:=2) (b:=cAt (bodyOf Tryz.f128) (0 :: 0 :: [1,0,1,1,1,1])) cok (cts128 F) mixed trivial (by kernel_rfl) (by kernel_rfl) (fun x y s=>((),x.2.1,s.1,())) (fun x y s=>(s.2,())) (fun x y=>rfl) (fun x y=>rfl) (fun x y s kA kO=>L128_4c F x.2.1 s.1 s.2 kA kO) (fun _ _ _ _ _=>by simp only [L128_4,L128_4c,oA,oC,oS,oN,elimS_l,elimS_r,elimS_bind]) (fun _ _ _=>by kernel_rfl)
def T128c (F:Nat) (p0:List UInt8) {β:Type} (k:(Za)->Option β):Option β:=
 (Option.bind (gapp ([]:List UInt8) p0) fun x16=>(Option.bind (gapp x16 ([(UInt8.ofNat 128)]:List UInt8)) fun x17=>(Option.bind (iter (fun s=>L128_3 F s) F x17) fun z22=>(Option.bind (iter (fun s=>L128_4 F ((UInt64.ofInt (p0.length:Int)) * (UInt64.ofNat 8)) s.1 s.2) F ((7:Int),z22)) fun z30=>(k z30)))))
def T128 (F:Nat) (p0:List UInt8):=T128c F p0 some
def ct128 (F:Nat):Ct:=mkC 0 [(.ro .u8)] [] [(.rw 0)] [.row 5 .u8] (fun x y=>T128 F x.1) (fun x y (z:Za)=>(((),()),(z,())))
theorem ok128 (F:Nat):Sound Tryz.prog cfg 128 (ct128 F):=
 mkC_ok (E:=E128 F) (lp:=[([0,1,1],lc128_3 F),([1,0,1,1,1,1],lc128_4 F)]) (code:=bodyOf Tryz.f128) Tryz.func128 rfl Tryz.ntmps128 rfl rfl cok (cts128 F) mixed ⟨lo128_3 F,⟨lo128_4 F,trivial⟩⟩ (by kernel_rfl) (fun x y k=>T128c F x.1 k) (fun _ _ _=>by simp only [T128,T128c,oA,oC,oS,oN,elimS_bind]) (fun _ _=>by kernel_rfl)
def E157 (F:Nat):Ev:=⟨cfg,2,ctOf [],fun _=>[],ctOf [],fun _=>none,fun _=>none⟩
theorem cts157 (F:Nat):CtsOk Tryz.prog (E157 F):=cts_of (l:=[]) (l':=[]) rfl rfl trivial trivial
def T157c (F:Nat) {β:Type} (k:(Zi)->Option β):Option β:=
 (k (#v[(UInt32.ofNat 1116352408),(UInt32.ofNat 1899447441),(UInt32.ofNat 3049323471),(UInt32.ofNat 3921009573),(UInt32.ofNat 961987163),(UInt32.ofNat 1508970993),(UInt32.ofNat 2453635748),(UInt32.ofNat 2870763221),(UInt32.ofNat 3624381080),(UInt32.ofNat 310598401),(UInt32.ofNat 607225278),(UInt32.ofNat 1426881987),(UInt32.ofNat 1925078388),(UInt32.ofNat 2162078206),(UInt32.ofNat 2614888103),(UInt32.ofNat 3248222580),(UInt32.ofNat 3835390401),(UInt32.ofNat 4022224774),(UInt32.ofNat 264347078),(UInt32.ofNat 604807628),(UInt32.ofNat 770255983),(UInt32.ofNat 1249150122),(UInt32.ofNat 1555081692),(UInt32.ofNat 1996064986),(UInt32.ofNat 2554220882),(UInt32.ofNat 2821834349),(UInt32.ofNat 2952996808),(UInt32.ofNat 3210313671),(UInt32.ofNat 3336571891),(UInt32.ofNat 3584528711),(UInt32.ofNat 113926993),(UInt32.ofNat 338241895),(UInt32.ofNat 666307205),(UInt32.ofNat 773529912),(UInt32.ofNat 1294757372),(UInt32.ofNat 1396182291),(UInt32.ofNat 1695183700),(UInt32.ofNat 1986661051),(UInt32.ofNat 2177026350),(UInt32.ofNat 2456956037),(UInt32.ofNat 2730485921),(UInt32.ofNat 2820302411),(UInt32.ofNat 3259730800),(UInt32.ofNat 3345764771),(UInt32.ofNat 3516065817),(UInt32.ofNat 3600352804),(UInt32.ofNat 4094571909),(UInt32.ofNat 275423344),(UInt32.ofNat 430227734),(UInt32.ofNat 506948616),(UInt32.ofNat 659060556),(UInt32.ofNat 883997877),(UInt32.ofNat 958139571),(UInt32.ofNat 1322822218),(UInt32.ofNat 1537002063),(UInt32.ofNat 1747873779),(UInt32.ofNat 1955562222),(UInt32.ofNat 2024104815),(UInt32.ofNat 2227730452),(UInt32.ofNat 2361852424),(UInt32.ofNat 2428436474),(UInt32.ofNat 2756734187),(UInt32.ofNat 3204031479),(UInt32.ofNat 3329325298)]:Vector UInt32 64))
def T157 (F:Nat):=T157c F some
def ct157 (F:Nat):Ct:=mkC 0 [] [] [(.ar 64 .u32)] [] (fun x y=>T157 F) (fun x y (z:Zi)=>((z,()),()))
theorem ok157 (F:Nat):Sound Tryz.prog cfg 157 (ct157 F):=
 mkC_ok (E:=E157 F) (lp:=[]) (code:=bodyOf Tryz.f157) Tryz.func157 rfl Tryz.ntmps157 rfl rfl cok (cts157 F) mixed trivial (by kernel_rfl) (fun x y k=>T157c F k) (fun _ _ _=>by simp only [T157,T157c,oA,oC,oS,oN,elimS_bind]) (fun _ _=>by kernel_rfl)
def ord158:Nat->List (Tag×Nat)
 | 1=>[(.p,0),(.p,1),(.p,2),(.p,3),(.p,4),(.p,5),(.p,6),(.p,7),(.p,8)]
 | _=>[]
def E158 (F:Nat):Ev:=⟨cfg,13,ctOf [],ord158,ctOf [],fun _=>none,fun _=>none⟩
theorem cts158 (F:Nat):CtsOk Tryz.prog (E158 F):=cts_of (l:=[]) (l':=[]) rfl rfl trivial trivial
def T158c (F:Nat) (p0:UInt32) (p1:Int) {β:Type} (k:UInt32->Option β):Option β:=
 (Option.bind (gnn p1) fun x3=>(Option.bind (gnn (w64 ((32:Int) - p1))) fun x4=>(k ((shr32 p0 x3) ||| (shl32 p0 x4)))))
def T158 (F:Nat) (p0:UInt32) (p1:Int):=T158c F p0 p1 some
def ct158 (F:Nat):Ct:=mkC 0 [.u32,.i] [] [.u32] [] (fun x y=>T158 F x.1 x.2.1) (fun x y (z:UInt32)=>((z,()),()))
theorem ok158 (F:Nat):Sound Tryz.prog cfg 158 (ct158 F):=
 mkC_ok (E:=E158 F) (lp:=[]) (code:=bodyOf Tryz.f158) Tryz.func158 rfl Tryz.ntmps158 rfl rfl cok (cts158 F) mixed trivial (by kernel_rfl) (fun x y k=>T158c F x.1 x.2.1 k) (fun _ _ _=>by simp only [T158,T158c,oA,oC,oS,oN,elimS_bind]) (fun _ _=>by kernel_rfl)
def ord129:Nat->List (Tag×Nat)
 | 6=>[(.p,0),(.p,1),(.p,2),(.p,3),(.p,4),(.r,5),(.p,6),(.p,7),(.p,8),(.p,9),(.p,10),(.p,11),(.p,12),(.r,13),(.p,14),(.p,15),(.p,16),(.p,17),(.p,18),(.p,19),(.p,20),(.p,21),(.r,22),(.p,23),(.p,24),(.p,25),(.p,26),(.p,27),(.p,28),(.p,29),(.p,30),(.r,31),(.p,32),(.p,33),(.p,34),(.w,35)]
 | 10=>[(.p,0),(.p,1),(.p,2),(.r,3),(.p,5),(.p,6),(.p,7),(.c,8),(.p,11),(.p,12),(.p,13),(.c,14),(.p,15),(.w,4),(.w,9),(.p,10),(.p,16),(.p,17)]
 | 11=>[(.p,0),(.p,1),(.p,2),(.r,3),(.p,5),(.p,6),(.p,7),(.c,8),(.p,11),(.p,12),(.p,13),(.c,14),(.p,15),(.w,4),(.w,9),(.p,10),(.p,16),(.p,17)]
 | 12=>[(.p,0),(.p,1),(.p,2),(.p,3),(.p,4),(.r,5),(.p,6),(.p,7),(.p,8),(.p,9),(.p,10),(.p,11),(.r,12),(.p,13),(.p,14),(.w,15)]
 | 17=>[(.p,0),(.r,1),(.p,2),(.r,3),(.p,4),(.r,5),(.p,6),(.r,7),(.p,8),(.r,9),(.p,10),(.r,11),(.p,12),(.p,13),(.p,14),(.p,15),(.p,16),(.p,17)]
 | 18=>[(.p,0),(.c,1),(.p,2),(.p,4),(.p,7),(.p,11),(.p,12),(.p,13),(.p,14),(.p,15),(.p,16),(.p,17),(.p,18),(.p,20),(.p,21),(.c,22),(.p,24),(.p,25),(.c,26),(.w,3),(.w,5),(.p,6),(.w,8),(.p,9),(.p,10),(.p,19),(.p,23),(.p,27),(.p,28)]
 | 24=>[(.p,0),(.p,1),(.r,2),(.p,3),(.p,4),(.r,5),(.p,6),(.p,7),(.w,8)]
 | _=>[]
def E129 (F:Nat):Ev:=⟨cfg,208,ctOf [(157,ct157 F),(158,ct158 F)],ord129,ctOf [],fun _=>none,fun _=>none⟩
theorem cts129 (F:Nat):CtsOk Tryz.prog (E129 F):=cts_of (l:=[(157,ct157 F),(158,ct158 F)]) (l':=[]) rfl rfl ⟨⟨ok157 F,_,Tryz.func157,rfl,rfl⟩,⟨⟨ok158 F,_,Tryz.func158,rfl,rfl⟩,trivial⟩⟩ trivial
def L129_5c (F:Nat) (y126:List UInt8) (y127:Int) (y131:Vector UInt32 64) {β:Type} (kA:(Int×Zi)->Option β) (kO:(Zi)->Option β):Option β:=
 (bif (decide (y127 < (16:Int))) then (Option.bind (ix y126 (w64 ((4:Int) * y127))) fun x137=>(Option.bind (ix y126 (w64 ((w64 ((4:Int) * y127)) + (1:Int)))) fun x138=>(Option.bind (ix y126 (w64 ((w64 ((4:Int) * y127)) + (2:Int)))) fun x139=>(Option.bind (ix y126 (w64 ((w64 ((4:Int) * y127)) + (3:Int)))) fun x140=>(Option.bind (inb 64 y127) fun x141=>(kA ((w64 (y127 + (1:Int))),(Vector.setIfInBounds y131 x141 ((((shl32 (x137.toUInt32) ((UInt64.ofNat 24).toNat)) ||| (shl32 (x138.toUInt32) ((UInt64.ofNat 16).toNat))) ||| (shl32 (x139.toUInt32) ((UInt64.ofNat 8).toNat))) ||| (x140.toUInt32)))))))))) else (kO y131))
def L129_5 (F:Nat) (y126:List UInt8) (y127:Int) (y131:Vector UInt32 64):=L129_5c F y126 y127 y131 (fun s=>some (Sum.inl s)) (fun z=>some (Sum.inr z))
def lc129_5 (F:Nat):Lc:=mkL [1,2,4,5,6,7] [(.ro .u8),(.pt 0 []),(.pt 1 []),(.pt 2 []),(.pt 3 []),.i] [.blk 174 (.ar 8 .u32),.blk 174 (.ar 8 .u32),.blk 200 (.ar 64 .u32),.blk 200 (.ar 64 .u32)] [2,4,5,6] [(.pt 0 []),(.pt 1 []),(.pt 2 []),(.pt 3 [])] [.blk 174 (.ar 8 .u32),.blk 174 (.ar 8 .u32),.blk 200 (.ar 64 .u32),.blk 200 (.ar 64 .u32)] F (fun x y (s:Int×Zi)=>L129_5 F x.1 s.1 s.2) (fun x y=>(x.2.2.2.2.2.1,y.2.2.2.1)) (fun x y (z:Zi)=>(((),(),(),(),()),(y.1,y.2.1,y.2.2.1,z,())))
theorem lo129_5 (F:Nat):LcOk Tryz.prog (E129 F) 0 (lc129_5 F) (cAt (bodyOf Tryz.f129) [1,0,1,1,1]):=
 mkL_ok (lp:=[]) (id:=0) (b:=cAt (bodyOf Tryz.f129) (0 :: 0 :: [1,0,1,1,1])) cok (cts129 F) mixed trivial (by kernel_rfl) (by kernel_rfl) (fun x y s=>(x.1,(),(),(),(),s.1,())) (fun x y s=>(y.1,y.2.1,y.2.2.1,s.2,())) (fun x y=>rfl) (fun x y=>rfl) (fun x y s kA kO=>L129_5c F x.1 s.1 s.2 kA kO) (fun _ _ _ _ _=>by simp only [L129_5,L129_5c,oA,oC,oS,oN,elimS_l,elimS_r,elimS_bind]) (fun _ _ _=>by kernel_rfl)
def L129_6c (F:Nat) (y143:Int) (y147:Vector UInt32 64) {β:Type} (kA:(Int×Zi)->Option β) (kO:(Zi)->Option β):Option β:=
 (bif (decide (y143 < (64:Int))) then (Option.bind (inb 64 (w64 (y143 - (15:Int)))) fun x169=>(Option.bind (vat y147 x169) fun x170=>(Option.bind (inb 64 (w64 (y143 - (15:Int)))) fun x171=>(Option.bind (vat y147 x171) fun x172=>(Option.bind (inb 64 (w64 (y143 - (15:Int)))) fun x173=>(Option.bind (vat y147 x173) fun x174=>(Option.bind (T158 F x170 (7:Int)) fun z175=>(Option.bind (T158 F x172 (18:Int)) fun z176=>(Option.bind (inb 64 (w64 (y143 - (2:Int)))) fun x177=>(Option.bind (vat y147 x177) fun x178=>(Option.bind (inb 64 (w64 (y143 - (2:Int)))) fun x179=>(Option.bind (vat y147 x179) fun x180=>(Option.bind (inb 64 (w64 (y143 - (2:Int)))) fun x181=>(Option.bind (vat y147 x181) fun x182=>(Option.bind (T158 F x178 (17:Int)) fun z183=>(Option.bind (T158 F x180 (19:Int)) fun z184=>(Option.bind (inb 64 (w64 (y143 - (7:Int)))) fun x185=>(Option.bind (vat y147 x185) fun x186=>(Option.bind (inb 64 (w64 (y143 - (16:Int)))) fun x187=>(Option.bind (vat y147 x187) fun x188=>(Option.bind (inb 64 y143) fun x189=>(kA ((w64 (y143 + (1:Int))),(Vector.setIfInBounds y147 x189 (((((z183 ^^^ z184) ^^^ (shr32 x182 ((UInt64.ofNat 10).toNat))) + x186) + ((z175 ^^^ z176) ^^^ (shr32 x174 ((UInt64.ofNat 3).toNat)))) + x188))))))))))))))))))))))))) else (kO y147))
def L129_6 (F:Nat) (y143:Int) (y147:Vector UInt32 64):=L129_6c F y143 y147 (fun s=>some (Sum.inl s)) (fun z=>some (Sum.inr z))
def lc129_6 (F:Nat):Lc:=mkL [2,4,5,6,8] [(.pt 0 []),(.pt 1 []),(.pt 2 []),(.pt 3 []),.i] [.blk 174 (.ar 8 .u32),.blk 174 (.ar 8 .u32),.blk 200 (.ar 64 .u32),.blk 200 (.ar 64 .u32)] [2,4,5,6] [(.pt 0 []),(.pt 1 []),(.pt 2 []),(.pt 3 [])] [.blk 174 (.ar 8 .u32),.blk 174 (.ar 8 .u32),.blk 200 (.ar 64 .u32),.blk 200 (.ar 64 .u32)] F (fun x y (s:Int×Zi)=>L129_6 F s.1 s.2) (fun x y=>(x.2.2.2.2.1,y.2.2.2.1)) (fun x y (z:Zi)=>(((),(),(),(),()),(y.1,y.2.1,y.2.2.1,z,())))
theorem lo129_6 (F:Nat):LcOk Tryz.prog (E129 F) 0 (lc129_6 F) (cAt (bodyOf Tryz.f129) [1,0,1,1,1,1]):=
 mkL_ok (lp:=[]) (id:=2) (b:=cAt (bodyOf Tryz.f129) (0 :: 0 :: [1,0,1,1,1,1])) cok (cts129 F) mixed trivial (by kernel_rfl) (by kernel_rfl) (fun x y s=>((),(),(),(),s.1,())) (fun x y s=>(y.1,y.2.1,y.2.2.1,s.2,())) (fun x y=>rfl) (fun x y=>rfl) (fun x y s kA kO=>L129_6c F s.1 s.2 kA kO) (fun _ _ _ _ _=>by simp only [L129_6,L129_6c,oA,oC,oS,oN,elimS_l,elimS_r,elimS_bind]) (fun _ _ _=>by kernel_rfl)
def L129_7c (F:Nat) (y194:Vector UInt32 64) (y195:Vector UInt32 64) (y191:Int) (y196:Vector UInt32 8) {β:Type} (kA:(Int×Ze)->Option β) (kO:(Ze)->Option β):Option β:=
 (bif (decide (y191 < (64:Int))) then (Option.bind (vat y196 0) fun x215=>(Option.bind (vat y196 1) fun x216=>(Option.bind (vat y196 2) fun x217=>(Option.bind (vat y196 4) fun x218=>(Option.bind (vat y196 5) fun x219=>(Option.bind (vat y196 6) fun x220=>(Option.bind (vat y196 7) fun x221=>(Option.bind (inb 64 y191) fun x222=>(Option.bind (vat y194 x222) fun x223=>(Option.bind (inb 64 y191) fun x224=>(Option.bind (vat y195 x224) fun x225=>(Option.bind (T158 F x218 (6:Int)) fun z226=>(Option.bind (T158 F x218 (11:Int)) fun z227=>(Option.bind (T158 F x218 (25:Int)) fun z228=>(Option.bind (T158 F x215 (2:Int)) fun z229=>(Option.bind (T158 F x215 (13:Int)) fun z230=>(Option.bind (T158 F x215 (22:Int)) fun z231=>(Option.bind (vat y196 3) fun x232=>(kA ((w64 (y191 + (1:Int))),(#v[(((((x221 + ((z226 ^^^ z227) ^^^ z228)) + ((x218 &&& x219) ^^^ ((~~~x218) &&& x220))) + x223) + x225) + (((z229 ^^^ z230) ^^^ z231) + (((x215 &&& x216) ^^^ (x215 &&& x217)) ^^^ (x216 &&& x217)))),x215,x216,x217,(x232 + ((((x221 + ((z226 ^^^ z227) ^^^ z228)) + ((x218 &&& x219) ^^^ ((~~~x218) &&& x220))) + x223) + x225)),x218,x219,x220]:Vector UInt32 8))))))))))))))))))))) else (kO y196))
def L129_7 (F:Nat) (y194:Vector UInt32 64) (y195:Vector UInt32 64) (y191:Int) (y196:Vector UInt32 8):=L129_7c F y194 y195 y191 y196 (fun s=>some (Sum.inl s)) (fun z=>some (Sum.inr z))
def lc129_7 (F:Nat):Lc:=mkL [2,4,5,6,11,12] [(.pt 0 []),(.pt 1 []),(.pt 2 []),(.pt 3 []),(.pt 4 []),.i] [.blk 174 (.ar 8 .u32),.blk 174 (.ar 8 .u32),.blk 200 (.ar 64 .u32),.blk 200 (.ar 64 .u32),.blk 174 (.ar 8 .u32)] [2,4,11] [(.pt 0 []),(.pt 1 []),(.pt 2 [])] [.blk 174 (.ar 8 .u32),.blk 174 (.ar 8 .u32),.blk 174 (.ar 8 .u32)] F (fun x y (s:Int×Ze)=>L129_7 F y.2.2.1 y.2.2.2.1 s.1 s.2) (fun x y=>(x.2.2.2.2.2.1,y.2.2.2.2.1)) (fun x y (z:Ze)=>(((),(),(),()),(y.1,y.2.1,z,())))
theorem lo129_7 (F:Nat):LcOk Tryz.prog (E129 F) 0 (lc129_7 F) (cAt (bodyOf Tryz.f129) [1,0,1,1,1,1,1,1]):=
 mkL_ok (lp:=[]) (id:=4) (b:=cAt (bodyOf Tryz.f129) (0 :: 0 :: [1,0,1,1,1,1,1,1])) cok (cts129 F) mixed trivial (by kernel_rfl) (by kernel_rfl) (fun x y s=>((),(),(),(),(),s.1,())) (fun x y s=>(y.1,y.2.1,y.2.2.1,y.2.2.2.1,s.2,())) (fun x y=>rfl) (fun x y=>rfl) (fun x y s kA kO=>L129_7c F y.2.2.1 y.2.2.2.1 s.1 s.2 kA kO) (fun _ _ _ _ _=>by simp only [L129_7,L129_7c,oA,oC,oS,oN,elimS_l,elimS_r,elimS_bind]) (fun _ _ _=>by kernel_rfl)
def L129_8c (F:Nat) (y235:Vector UInt32 8) (y234:Int) (y237:Vector UInt32 8) {β:Type} (kA:(Int×Ze)->Option β) (kO:(Ze)->Option β):Option β:=
 (bif (decide (y234 < (8:Int))) then (Option.bind (inb 8 y234) fun x243=>(Option.bind (vat y237 x243) fun x244=>(Option.bind (inb 8 y234) fun x245=>(Option.bind (vat y235 x245) fun x246=>(Option.bind (inb 8 y234) fun x247=>(kA ((w64 (y234 + (1:Int))),(Vector.setIfInBounds y237 x247 (x244 + x246))))))))) else (kO y237))
def L129_8 (F:Nat) (y235:Vector UInt32 8) (y234:Int) (y237:Vector UInt32 8):=L129_8c F y235 y234 y237 (fun s=>some (Sum.inl s)) (fun z=>some (Sum.inr z))
def lc129_8 (F:Nat):Lc:=mkL [2,4,11,21] [(.pt 0 []),(.pt 1 []),(.pt 2 []),.i] [.blk 174 (.ar 8 .u32),.blk 174 (.ar 8 .u32),.blk 174 (.ar 8 .u32)] [4,11] [(.pt 0 []),(.pt 1 [])] [.blk 174 (.ar 8 .u32),.blk 174 (.ar 8 .u32)] F (fun x y (s:Int×Ze)=>L129_8 F y.1 s.1 s.2) (fun x y=>(x.2.2.2.1,y.2.2.1)) (fun x y (z:Ze)=>(((),(),()),(y.2.1,z,())))
theorem lo129_8 (F:Nat):LcOk Tryz.prog (E129 F) 0 (lc129_8 F) (cAt (bodyOf Tryz.f129) [1,0,1,1,1,1,1,1,1]):=
 mkL_ok (lp:=[]) (id:=6) (b:=cAt (bodyOf Tryz.f129) (0 :: 0 :: [1,0,1,1,1,1,1,1,1])) cok (cts129 F) mixed trivial (by kernel_rfl) (by kernel_rfl) (fun x y s=>((),(),(),s.1,())) (fun x y s=>(y.1,y.2.1,s.2,())) (fun x y=>rfl) (fun x y=>rfl) (fun x y s kA kO=>L129_8c F y.1 s.1 s.2 kA kO) (fun _ _ _ _ _=>by simp only [L129_8,L129_8c,oA,oC,oS,oN,elimS_l,elimS_r,elimS_bind]) (fun _ _ _=>by kernel_rfl)
def T129c (F:Nat) (p0:Vector UInt32 8) (p1:List UInt8) {β:Type} (k:(Ze)->Option β):Option β:=
 (Option.bind (T157 F) fun z125=>(Option.bind (iter (fun s=>L129_5 F p1 s.1 s.2) F ((0:Int),(Vector.replicate 64 (0:UInt32)))) fun z142=>(Option.bind (iter (fun s=>L129_6 F s.1 s.2) F ((16:Int),z142)) fun z190=>(Option.bind (iter (fun s=>L129_7 F z125 z190 s.1 s.2) F ((0:Int),p0)) fun z233=>(Option.bind (iter (fun s=>L129_8 F p0 s.1 s.2) F ((0:Int),z233)) fun z248=>(k z248))))))
def T129 (F:Nat) (p0:Vector UInt32 8) (p1:List UInt8):=T129c F p0 p1 some
def ct129 (F:Nat):Ct:=mkC 0 [(.ar 8 .u32),(.ro .u8)] [] [(.ar 8 .u32)] [] (fun x y=>T129 F x.1 x.2.1) (fun x y (z:Ze)=>((z,()),()))
theorem ok129 (F:Nat):Sound Tryz.prog cfg 129 (ct129 F):=
 mkC_ok (E:=E129 F) (lp:=[([1,0,1,1,1],lc129_5 F),([1,0,1,1,1,1],lc129_6 F),([1,0,1,1,1,1,1,1],lc129_7 F),([1,0,1,1,1,1,1,1,1],lc129_8 F)]) (code:=bodyOf Tryz.f129) Tryz.func129 rfl Tryz.ntmps129 rfl rfl cok (cts129 F) mixed ⟨lo129_5 F,⟨lo129_6 F,⟨lo129_7 F,⟨lo129_8 F,trivial⟩⟩⟩⟩ (by kernel_rfl) (fun x y k=>T129c F x.1 x.2.1 k) (fun _ _ _=>by simp only [T129,T129c,oA,oC,oS,oN,elimS_bind]) (fun _ _=>by kernel_rfl)
def ord89:Nat->List (Tag×Nat)
 | 6=>[(.r,0),(.p,1),(.p,2),(.p,3),(.p,4),(.p,5),(.w,6),(.w,7)]
 | 11=>[(.p,0),(.p,1),(.p,2),(.r,3),(.p,4),(.p,5),(.p,6),(.p,7),(.r,8),(.p,9),(.p,10),(.p,11),(.p,12),(.r,13),(.p,14),(.p,15),(.p,16),(.p,17),(.r,18),(.p,19),(.w,20),(.w,21),(.p,22)]
 | _=>[]
def E89 (F:Nat):Ev:=⟨cfg,53,ctOf [(128,ct128 F),(129,ct129 F)],ord89,ctOf [],fun _=>none,fun _=>none⟩
theorem cts89 (F:Nat):CtsOk Tryz.prog (E89 F):=cts_of (l:=[(128,ct128 F),(129,ct129 F)]) (l':=[]) rfl rfl ⟨⟨ok128 F,_,Tryz.func128,rfl,rfl⟩,⟨⟨ok129 F,_,Tryz.func129,rfl,rfl⟩,trivial⟩⟩ trivial
def L89_3c (F:Nat) (y35:List UInt8) (y33:Int) (y34:Vector UInt32 8) {β:Type} (kA:(Int×Ze)->Option β) (kO:(Ze)->Option β):Option β:=
 (bif (decide (y33 < (y35.length:Int))) then (Option.bind (gslb y35.length y33 (w64 (y33 + (64:Int)))) fun x38=>(Option.bind (T129 F y34 ((y35.drop x38.1).take (x38.2 - x38.1))) fun z39=>(kA ((w64 (y33 + (64:Int))),z39)))) else (kO y34))
def L89_3 (F:Nat) (y35:List UInt8) (y33:Int) (y34:Vector UInt32 8):=L89_3c F y35 y33 y34 (fun s=>some (Sum.inl s)) (fun z=>some (Sum.inr z))
def lc89_3 (F:Nat):Lc:=mkL [3,4,5] [(.pt 0 []),(.rw 1),.i] [.blk 174 (.ar 8 .u32),.row 5 .u8] [3] [(.pt 0 [])] [.blk 174 (.ar 8 .u32)] F (fun x y (s:Int×Ze)=>L89_3 F y.2.1 s.1 s.2) (fun x y=>(x.2.2.1,y.1)) (fun x y (z:Ze)=>(((),()),(z,())))
theorem lo89_3 (F:Nat):LcOk Tryz.prog (E89 F) 0 (lc89_3 F) (cAt (bodyOf Tryz.f89) [1,0,1,1,1]):=
 mkL_ok (lp:=[]) (id:=0) (b:=cAt (bodyOf Tryz.f89) (0 :: 0 :: [1,0,1,1,1])) cok (cts89 F) mixed trivial (by kernel_rfl) (by kernel_rfl) (fun x y s=>((),(),s.1,())) (fun x y s=>(s.2,y.2.1,())) (fun x y=>rfl) (fun x y=>rfl) (fun x y s kA kO=>L89_3c F y.2.1 s.1 s.2 kA kO) (fun _ _ _ _ _=>by simp only [L89_3,L89_3c,oA,oC,oS,oN,elimS_l,elimS_r,elimS_bind]) (fun _ _ _=>by kernel_rfl)
def L89_4c (F:Nat) (y42:Vector UInt32 8) (y41:Int) (y43:List UInt8) {β:Type} (kA:(Int×Za)->Option β) (kO:(Za)->Option β):Option β:=
 (bif (decide (y41 < (8:Int))) then (Option.bind (inb 8 y41) fun x53=>(Option.bind (vat y42 x53) fun x54=>(Option.bind (inb 8 y41) fun x55=>(Option.bind (vat y42 x55) fun x56=>(Option.bind (inb 8 y41) fun x57=>(Option.bind (vat y42 x57) fun x58=>(Option.bind (inb 8 y41) fun x59=>(Option.bind (vat y42 x59) fun x60=>(Option.bind (gapp y43 ([((shr32 x54 ((UInt64.ofNat 24).toNat)).toUInt8),((shr32 x56 ((UInt64.ofNat 16).toNat)).toUInt8),((shr32 x58 ((UInt64.ofNat 8).toNat)).toUInt8),(x60.toUInt8)]:List UInt8)) fun x61=>(kA ((w64 (y41 + (1:Int))),x61))))))))))) else (kO y43))
def L89_4 (F:Nat) (y42:Vector UInt32 8) (y41:Int) (y43:List UInt8):=L89_4c F y42 y41 y43 (fun s=>some (Sum.inl s)) (fun z=>some (Sum.inr z))
def lc89_4 (F:Nat):Lc:=mkL [3,6,7] [(.pt 0 []),(.rw 1),.i] [.blk 174 (.ar 8 .u32),.row 5 .u8] [6] [(.rw 0)] [.row 5 .u8] F (fun x y (s:Int×Za)=>L89_4 F y.1 s.1 s.2) (fun x y=>(x.2.2.1,y.2.1)) (fun x y (z:Za)=>(((),()),(z,())))
theorem lo89_4 (F:Nat):LcOk Tryz.prog (E89 F) 0 (lc89_4 F) (cAt (bodyOf Tryz.f89) [1,0,1,1,1,1,1]):=
 mkL_ok (lp:=[]) (id:=2) (b:=cAt (bodyOf Tryz.f89) (0 :: 0 :: [1,0,1,1,1,1,1])) cok (cts89 F) mixed trivial (by kernel_rfl) (by kernel_rfl) (fun x y s=>((),(),s.1,())) (fun x y s=>(y.1,s.2,())) (fun x y=>rfl) (fun x y=>rfl) (fun x y s kA kO=>L89_4c F y.1 s.1 s.2 kA kO) (fun _ _ _ _ _=>by simp only [L89_4,L89_4c,oA,oC,oS,oN,elimS_l,elimS_r,elimS_bind]) (fun _ _ _=>by kernel_rfl)
def T89c (F:Nat) (p0:List UInt8) {β:Type} (k:(Za)->Option β):Option β:=
 (Option.bind (T128 F p0) fun z32=>(Option.bind (iter (fun s=>L89_3 F z32 s.1 s.2) F ((0:Int),(#v[(UInt32.ofNat 1779033703),(UInt32.ofNat 3144134277),(UInt32.ofNat 1013904242),(UInt32.ofNat 2773480762),(UInt32.ofNat 1359893119),(UInt32.ofNat 2600822924),(UInt32.ofNat 528734635),(UInt32.ofNat 1541459225)]:Vector UInt32 8))) fun z40=>(Option.bind (iter (fun s=>L89_4 F z40 s.1 s.2) F ((0:Int),([]:List UInt8))) fun z62=>(k z62))))
def T89 (F:Nat) (p0:List UInt8):=T89c F p0 some
def ct89 (F:Nat):Ct:=mkC 0 [(.ro .u8)] [] [.str] [] (fun x y=>T89 F x.1) (fun x y (z:Za)=>((z,()),()))
theorem ok89 (F:Nat):Sound Tryz.prog cfg 89 (ct89 F):=
 mkC_ok (E:=E89 F) (lp:=[([1,0,1,1,1],lc89_3 F),([1,0,1,1,1,1,1],lc89_4 F)]) (code:=bodyOf Tryz.f89) Tryz.func89 rfl Tryz.ntmps89 rfl rfl cok (cts89 F) mixed ⟨lo89_3 F,⟨lo89_4 F,trivial⟩⟩ (by kernel_rfl) (fun x y k=>T89c F x.1 k) (fun _ _ _=>by simp only [T89,T89c,oA,oC,oS,oN,elimS_bind]) (fun _ _=>by kernel_rfl)
def E156 (F:Nat):Ev:=⟨cfg,7,ctOf [(89,ct89 F)],fun _=>[],ctOf [],fun _=>none,fun _=>none⟩
theorem cts156 (F:Nat):CtsOk Tryz.prog (E156 F):=cts_of (l:=[(89,ct89 F)]) (l':=[]) rfl rfl ⟨⟨ok89 F,_,Tryz.func89,rfl,rfl⟩,trivial⟩ trivial
def T156c (F:Nat) (p0:List UInt8) {β:Type} (k:(Za)->Option β):Option β:=
 (Option.bind (gapp ([(UInt8.ofNat 0)]:List UInt8) p0) fun x3=>(Option.bind (T89 F x3) fun z4=>(k z4)))
def T156 (F:Nat) (p0:List UInt8):=T156c F p0 some
def ct156 (F:Nat):Ct:=mkC 0 [(.ro .u8)] [] [.str] [] (fun x y=>T156 F x.1) (fun x y (z:Za)=>((z,()),()))
theorem ok156 (F:Nat):Sound Tryz.prog cfg 156 (ct156 F):=
 mkC_ok (E:=E156 F) (lp:=[]) (code:=bodyOf Tryz.f156) Tryz.func156 rfl Tryz.ntmps156 rfl rfl cok (cts156 F) mixed trivial (by kernel_rfl) (fun x y k=>T156c F x.1 k) (fun _ _ _=>by simp only [T156,T156c,oA,oC,oS,oN,elimS_bind]) (fun _ _=>by kernel_rfl)
def E127 (F:Nat):Ev:=⟨cfg,32,ctOf [(156,ct156 F)],fun _=>[],ctOf [],fun _=>none,fun _=>none⟩
theorem cts127 (F:Nat):CtsOk Tryz.prog (E127 F):=cts_of (l:=[(156,ct156 F)]) (l':=[]) rfl rfl ⟨⟨ok156 F,_,Tryz.func156,rfl,rfl⟩,trivial⟩ trivial
def L127_2c (F:Nat) (y14:Int) (y13:List UInt8) (y15:List Za) {β:Type} (kA:(Za×Zd)->Option β) (kO:(Zd)->Option β):Option β:=
 (bif (decide ((0:Int) < (y13.length:Int))) then (Option.bind (gsl y13 (0:Int) (if (y13.length:Int) < y14 then (y13.length:Int) else y14)) fun x20=>(Option.bind (T156 F x20) fun z21=>(Option.bind (gapp y15 ([z21]:List Za)) fun x22=>(Option.bind (gsl y13 (if (y13.length:Int) < y14 then (y13.length:Int) else y14) (y13.length:Int)) fun x23=>(kA (x23,x22)))))) else (kO y15))
def L127_2 (F:Nat) (y14:Int) (y13:List UInt8) (y15:List Za):=L127_2c F y14 y13 y15 (fun s=>some (Sum.inl s)) (fun z=>some (Sum.inr z))
def lc127_2 (F:Nat):Lc:=mkL [0,1,6] [(.ro .u8),.i,(.rw 0)] [.row 9 .s] [6] [(.rw 0)] [.row 9 .s] F (fun x y (s:Za×Zd)=>L127_2 F x.2.1 s.1 s.2) (fun x y=>(x.1,y.1)) (fun x y (z:Zd)=>(((),()),(z,())))
theorem lo127_2 (F:Nat):LcOk Tryz.prog (E127 F) 0 (lc127_2 F) (cAt (bodyOf Tryz.f127) [0,1,1,1,1]):=
 mkL_ok (lp:=[]) (id:=0) (b:=cAt (bodyOf Tryz.f127) (0 :: 0 :: [0,1,1,1,1])) cok (cts127 F) mixed trivial (by kernel_rfl) (by kernel_rfl) (fun x y s=>(s.1,x.2.1,(),())) (fun x y s=>(s.2,())) (fun x y=>rfl) (fun x y=>rfl) (fun x y s kA kO=>L127_2c F x.2.1 s.1 s.2 kA kO) (fun _ _ _ _ _=>by simp only [L127_2,L127_2c,oA,oC,oS,oN,elimS_l,elimS_r,elimS_bind]) (fun _ _ _=>by kernel_rfl)
def T127c (F:Nat) (p0:List UInt8) (p1:Int) {β:Type} (k:(Int×Zd)->Option β):Option β:=
 (bif (decide (p1 < (1:Int))) then (k ((1:Int),([]:List Za))) else (bif (decide ((1048576:Int) < (p0.length:Int))) then (k ((2:Int),([]:List Za))) else (Option.bind (iter (fun s=>L127_2 F p1 s.1 s.2) F (p0,([]:List Za))) fun z24=>(k ((0:Int),z24)))))
def T127 (F:Nat) (p0:List UInt8) (p1:Int):=T127c F p0 p1 some
def ct127 (F:Nat):Ct:=mkC 0 [(.ro .u8),.i] [] [(.rw 0),.i] [.row 9 .s] (fun x y=>T127 F x.1 x.2.1) (fun x y (z:Int×Zd)=>(((),z.1,()),(z.2,())))
theorem ok127 (F:Nat):Sound Tryz.prog cfg 127 (ct127 F):=
 mkC_ok (E:=E127 F) (lp:=[([0,1,1,1,1],lc127_2 F)]) (code:=bodyOf Tryz.f127) Tryz.func127 rfl Tryz.ntmps127 rfl rfl cok (cts127 F) mixed ⟨lo127_2 F,trivial⟩ (by kernel_rfl) (fun x y k=>T127c F x.1 x.2.1 k) (fun _ _ _=>by simp only [T127,T127c,oA,oC,oS,oN,elimS_bind]) (fun _ _=>by kernel_rfl)
def E90 (F:Nat):Ev:=⟨cfg,12,ctOf [],fun _=>[],ctOf [],fun _=>none,fun _=>none⟩
theorem cts90 (F:Nat):CtsOk Tryz.prog (E90 F):=cts_of (l:=[]) (l':=[]) rfl rfl trivial trivial
def L90_2c (F:Nat) (y4:Int) (y5:Int) {β:Type} (kA:Int->Option β) (kO:Int->Option β):Option β:=
 (bif (decide (y5 < (w64 (y4 - y5)))) then (kA (w64 (y5 * (2:Int)))) else (kO y5))
def L90_2 (F:Nat) (y4:Int) (y5:Int):=L90_2c F y4 y5 (fun s=>some (Sum.inl s)) (fun z=>some (Sum.inr z))
def lc90_2 (F:Nat):Lc:=mkL [0,3] [.i,.i] [] [3] [.i] [] F (fun x y (s:Int)=>L90_2 F x.1 s) (fun x y=>x.2.1) (fun x y (z:Int)=>((z,()),()))
theorem lo90_2 (F:Nat):LcOk Tryz.prog (E90 F) 0 (lc90_2 F) (cAt (bodyOf Tryz.f90) [0,1,1]):=
 mkL_ok (lp:=[]) (id:=0) (b:=cAt (bodyOf Tryz.f90) (0 :: 0 :: [0,1,1])) cok (cts90 F) mixed trivial (by kernel_rfl) (by kernel_rfl) (fun x y s=>(x.1,s,())) (fun x y s=>()) (fun x y=>rfl) (fun x y=>rfl) (fun x y s kA kO=>L90_2c F x.1 s kA kO) (fun _ _ _ _ _=>by simp only [L90_2,L90_2c,oA,oC,oS,oN,elimS_l,elimS_r,elimS_bind]) (fun _ _ _=>by kernel_rfl)
def T90c (F:Nat) (p0:Int) {β:Type} (k:Int->Option β):Option β:=
 (Option.bind (iter (fun s=>L90_2 F p0 s) F (1:Int)) fun z6=>(k z6))
def T90 (F:Nat) (p0:Int):=T90c F p0 some
def ct90 (F:Nat):Ct:=mkC 0 [.i] [] [.i] [] (fun x y=>T90 F x.1) (fun x y (z:Int)=>((z,()),()))
theorem ok90 (F:Nat):Sound Tryz.prog cfg 90 (ct90 F):=
 mkC_ok (E:=E90 F) (lp:=[([0,1,1],lc90_2 F)]) (code:=bodyOf Tryz.f90) Tryz.func90 rfl Tryz.ntmps90 rfl rfl cok (cts90 F) mixed ⟨lo90_2 F,trivial⟩ (by kernel_rfl) (fun x y k=>T90c F x.1 k) (fun _ _ _=>by simp only [T90,T90c,oA,oC,oS,oN,elimS_bind]) (fun _ _=>by kernel_rfl)
def E130 (F:Nat):Ev:=⟨cfg,19,ctOf [(89,ct89 F)],fun _=>[],ctOf [],fun _=>none,fun _=>none⟩
theorem cts130 (F:Nat):CtsOk Tryz.prog (E130 F):=cts_of (l:=[(89,ct89 F)]) (l':=[]) rfl rfl ⟨⟨ok89 F,_,Tryz.func89,rfl,rfl⟩,trivial⟩ trivial
def L130_2c (F:Nat) (y13:List Za) (y14:Int) (y12:List UInt8) (y15:Int) {β:Type} (kA:(Za×Int)->Option β) (kO:(Za)->Option β):Option β:=
 (bif (decide (y15 < y14)) then (Option.bind (ix y13 y15) fun x18=>(Option.bind (gcat y12 x18) fun x19=>(kA (x19,(w64 (y15 + (1:Int))))))) else (kO y12))
def L130_2 (F:Nat) (y13:List Za) (y14:Int) (y12:List UInt8) (y15:Int):=L130_2c F y13 y14 y12 y15 (fun s=>some (Sum.inl s)) (fun z=>some (Sum.inr z))
def lc130_2 (F:Nat):Lc:=mkL [3,6,7,8] [.str,(.ro .s),.i,.i] [] [3] [.str] [] F (fun x y (s:Za×Int)=>L130_2 F x.2.1 x.2.2.1 s.1 s.2) (fun x y=>(x.1,x.2.2.2.1)) (fun x y (z:Za)=>((z,()),()))
theorem lo130_2 (F:Nat):LcOk Tryz.prog (E130 F) 0 (lc130_2 F) (cAt (bodyOf Tryz.f130) [1,0,1,1]):=
 mkL_ok (lp:=[]) (id:=0) (b:=cAt (bodyOf Tryz.f130) (0 :: 0 :: [1,0,1,1])) cok (cts130 F) mixed trivial (by kernel_rfl) (by kernel_rfl) (fun x y s=>(s.1,x.2.1,x.2.2.1,s.2,())) (fun x y s=>()) (fun x y=>rfl) (fun x y=>rfl) (fun x y s kA kO=>L130_2c F x.2.1 x.2.2.1 s.1 s.2 kA kO) (fun _ _ _ _ _=>by simp only [L130_2,L130_2c,oA,oC,oS,oN,elimS_l,elimS_r,elimS_bind]) (fun _ _ _=>by kernel_rfl)
def T130c (F:Nat) (p0:List Za) {β:Type} (k:(Za)->Option β):Option β:=
 (Option.bind (iter (fun s=>L130_2 F p0 (p0.length:Int) s.1 s.2) F (([]:List UInt8),(0:Int))) fun z20=>(Option.bind (gstr z20) fun x21=>(Option.bind (T89 F x21) fun z22=>(k z22))))
def T130 (F:Nat) (p0:List Za):=T130c F p0 some
def ct130 (F:Nat):Ct:=mkC 0 [(.ro .s)] [] [.str] [] (fun x y=>T130 F x.1) (fun x y (z:Za)=>((z,()),()))
theorem ok130 (F:Nat):Sound Tryz.prog cfg 130 (ct130 F):=
 mkC_ok (E:=E130 F) (lp:=[([1,0,1,1],lc130_2 F)]) (code:=bodyOf Tryz.f130) Tryz.func130 rfl Tryz.ntmps130 rfl rfl cok (cts130 F) mixed ⟨lo130_2 F,trivial⟩ (by kernel_rfl) (fun x y k=>T130c F x.1 k) (fun _ _ _=>by simp only [T130,T130c,oA,oC,oS,oN,elimS_bind]) (fun _ _=>by kernel_rfl)
def E91 (F:Nat):Ev:=⟨cfg,9,ctOf [(130,ct130 F)],fun _=>[],ctOf [],fun _=>none,fun _=>none⟩
theorem cts91 (F:Nat):CtsOk Tryz.prog (E91 F):=cts_of (l:=[(130,ct130 F)]) (l':=[]) rfl rfl ⟨⟨ok130 F,_,Tryz.func130,rfl,rfl⟩,trivial⟩ trivial
def T91c (F:Nat) (p0:List UInt8) (p1:List UInt8) {β:Type} (k:(Za)->Option β):Option β:=
 (Option.bind (T130 F ([([1]:List UInt8),p0,p1]:List Za)) fun z2=>(k z2))
def T91 (F:Nat) (p0:List UInt8) (p1:List UInt8):=T91c F p0 p1 some
def ct91 (F:Nat):Ct:=mkC 0 [.str,.str] [] [.str] [] (fun x y=>T91 F x.1 x.2.1) (fun x y (z:Za)=>((z,()),()))
theorem ok91 (F:Nat):Sound Tryz.prog cfg 91 (ct91 F):=
 mkC_ok (E:=E91 F) (lp:=[]) (code:=bodyOf Tryz.f91) Tryz.func91 rfl Tryz.ntmps91 rfl rfl cok (cts91 F) mixed trivial (by kernel_rfl) (fun x y k=>T91c F x.1 x.2.1 k) (fun _ _ _=>by simp only [T91,T91c,oA,oC,oS,oN,elimS_bind]) (fun _ _=>by kernel_rfl)
def T51rc (F:Nat) (rc:(Zd->Option (Za))) (p0:List Za) {β:Type} (k:(Za)->Option β):Option β:=
 (bif ((p0.length:Int) == (0:Int)) then (Option.bind (T89 F ([]:List UInt8)) fun z9=>(k z9)) else (bif ((p0.length:Int) == (1:Int)) then (Option.bind (ix p0 (0:Int)) fun x10=>(k x10)) else (Option.bind (T90 F (p0.length:Int)) fun z11=>(Option.bind (gsl p0 (0:Int) z11) fun x12=>(Option.bind (gsl p0 z11 (p0.length:Int)) fun x13=>(Option.bind (rc x12) fun z14=>(Option.bind (rc x13) fun z15=>(Option.bind (T91 F z14 z15) fun z16=>(k z16)))))))))
def T51r (F:Nat) (rc:(Zd->Option (Za))) (p0:List Za):=T51rc F rc p0 some
def T51g (F:Nat):Nat->Zd->Option (Za)
 | 0=>fun _=>none
 | g + 1=>T51r F (T51g F g)
abbrev cA51r:List Sh:=[(.ro .s)]
abbrev cB51r:List Sh:=[.str]
abbrev cT51r:List TSh:=[]
abbrev cU51r:List TSh:=[]
def ctg51 (F g:Nat):Ct:=mkC 0 cA51r cT51r cB51r cU51r (fun x y=>T51g F g x.1) (fun x y (z:Za)=>((z,()),()))
def ord51r:Nat->List (Tag×Nat)
 | 7=>[(.p,0),(.p,1),(.p,2),(.p,4),(.p,5),(.p,6),(.w,3),(.w,7),(.w,8),(.p,9)]
 | _=>[]
def E51r (F g:Nat):Ev:=⟨cfg,26,ctOf [(89,ct89 F),(90,ct90 F),(51,ctg51 F g),(91,ct91 F)],ord51r,ctOf [],fun _=>none,fun _=>none⟩
theorem cts51r (F g:Nat) (h:Sound Tryz.prog cfg 51 (ctg51 F g)):CtsOk Tryz.prog (E51r F g):=cts_of (l:=[(89,ct89 F),(90,ct90 F),(51,ctg51 F g),(91,ct91 F)]) (l':=[]) rfl rfl ⟨⟨ok89 F,_,Tryz.func89,rfl,rfl⟩,⟨⟨ok90 F,_,Tryz.func90,rfl,rfl⟩,⟨⟨h,_,Tryz.func51,rfl,rfl⟩,⟨⟨ok91 F,_,Tryz.func91,rfl,rfl⟩,trivial⟩⟩⟩⟩ trivial
def ct51r (F g:Nat):Ct:=mkC 0 cA51r cT51r cB51r cU51r (fun x y=>T51r F (T51g F g) x.1) (fun x y (z:Za)=>((z,()),()))
theorem eq51r (F g:Nat) (x:dens cA51r) (y:tdens cT51r):sev (E51r F g) 0 [] (bodyOf Tryz.f51) [] (mkSt (rng 1) cA51r cT51r x y) (kFn (E51r F g) 0 Tryz.f51.results.toList cB51r cU51r fun p q=>some (p,q)) =
  T51rc F (T51g F g) x.1 (fun z=>some ((z,()),())):=by kernel_rfl
theorem ok51r (F g:Nat) (h:Sound Tryz.prog cfg 51 (ctg51 F g)):Sound Tryz.prog cfg 51 (ct51r F g):=
 mkC_ok (E:=E51r F g) (lp:=[]) (code:=bodyOf Tryz.f51) Tryz.func51 rfl Tryz.ntmps51 rfl rfl cok (cts51r F g h) mixed trivial (by kernel_rfl) (fun x y k=>T51rc F (T51g F g) x.1 k) (fun _ _ _=>by simp only [T51r,T51rc,oA,oC,oS,oN,elimS_bind]) (eq51r F g)
def T51 (F:Nat) (p0:List Za):Option (Za):=T51g F F p0
def ct51 (F:Nat):Ct:=mkC 0 cA51r cT51r cB51r cU51r (fun x y=>T51 F x.1) (fun x y (z:Za)=>((z,()),()))
theorem okg51 (F:Nat):∀ g,Sound Tryz.prog cfg 51 (ctg51 F g)
 | 0=>fun x y p q h=>absurd (show (none:Option _)=some (p,q) from h) (by simp)
 | g + 1=>ok51r F g (okg51 F g)
theorem ok51 (F:Nat):Sound Tryz.prog cfg 51 (ct51 F):=okg51 F F
def E88 (F:Nat):Ev:=⟨cfg,19,ctOf [(127,ct127 F),(51,ct51 F)],fun _=>[],ctOf [],fun _=>none,fun _=>none⟩
theorem cts88 (F:Nat):CtsOk Tryz.prog (E88 F):=cts_of (l:=[(127,ct127 F),(51,ct51 F)]) (l':=[]) rfl rfl ⟨⟨ok127 F,_,Tryz.func127,rfl,rfl⟩,⟨⟨ok51 F,_,Tryz.func51,rfl,rfl⟩,trivial⟩⟩ trivial
def T88c (F:Nat) (p0:List UInt8) (p1:Int) {β:Type} (k:(Za×Int)->Option β):Option β:=
 (Option.bind (T127 F p0 p1) fun z3=>(bif (z3.1 != (0:Int)) then (k (([]:List UInt8),z3.1)) else (Option.bind (T51 F z3.2) fun z4=>(k (z4,(0:Int))))))
def T88 (F:Nat) (p0:List UInt8) (p1:Int):=T88c F p0 p1 some
def ct88 (F:Nat):Ct:=mkC 0 [(.ro .u8),.i] [] [.str,.i] [] (fun x y=>T88 F x.1 x.2.1) (fun x y (z:Za×Int)=>((z.1,z.2,()),()))
theorem ok88 (F:Nat):Sound Tryz.prog cfg 88 (ct88 F):=
 mkC_ok (E:=E88 F) (lp:=[]) (code:=bodyOf Tryz.f88) Tryz.func88 rfl Tryz.ntmps88 rfl rfl cok (cts88 F) mixed trivial (by kernel_rfl) (fun x y k=>T88c F x.1 x.2.1 k) (fun _ _ _=>by simp only [T88,T88c,oA,oC,oS,oN,elimS_bind]) (fun _ _=>by kernel_rfl)
def E50 (F:Nat):Ev:=⟨cfg,11,ctOf [(88,ct88 F)],fun _=>[],ctOf [],fun _=>none,fun _=>none⟩
theorem cts50 (F:Nat):CtsOk Tryz.prog (E50 F):=cts_of (l:=[(88,ct88 F)]) (l':=[]) rfl rfl ⟨⟨ok88 F,_,Tryz.func88,rfl,rfl⟩,trivial⟩ trivial
def T50c (F:Nat) (p0:List UInt8) {β:Type} (k:(Za)->Option β):Option β:=
 (Option.bind (T88 F p0 (512:Int)) fun z2=>(k z2.1))
def T50 (F:Nat) (p0:List UInt8):=T50c F p0 some
def ct50 (F:Nat):Ct:=mkC 0 [(.ro .u8)] [] [.str] [] (fun x y=>T50 F x.1) (fun x y (z:Za)=>((z,()),()))
theorem ok50 (F:Nat):Sound Tryz.prog cfg 50 (ct50 F):=
 mkC_ok (E:=E50 F) (lp:=[]) (code:=bodyOf Tryz.f50) Tryz.func50 rfl Tryz.ntmps50 rfl rfl cok (cts50 F) mixed trivial (by kernel_rfl) (fun x y k=>T50c F x.1 k) (fun _ _ _=>by simp only [T50,T50c,oA,oC,oS,oN,elimS_bind]) (fun _ _=>by kernel_rfl)
def E44 (F:Nat):Ev:=⟨cfg,49,ctOf [(82,ct82 F),(50,ct50 F),(51,ct51 F)],fun _=>[],ctOf [],fun _=>none,fun _=>none⟩
theorem cts44 (F:Nat):CtsOk Tryz.prog (E44 F):=cts_of (l:=[(82,ct82 F),(50,ct50 F),(51,ct51 F)]) (l':=[]) rfl rfl ⟨⟨ok82 F,_,Tryz.func82,rfl,rfl⟩,⟨⟨ok50 F,_,Tryz.func50,rfl,rfl⟩,⟨⟨ok51 F,_,Tryz.func51,rfl,rfl⟩,trivial⟩⟩⟩ trivial
def L44_3c (F:Nat) (y52:Int) (y55:List Za) (y53:Int) (y54:List Za) {β:Type} (kA:(Int×Zd)->Option β) (kO:(Zd)->Option β):Option β:=
 (bif (decide (y53 < y52)) then (Option.bind (inb y55.length y53) fun x60=>(Option.bind (y55[x60]?) fun x61=>(Option.bind (T50 F x61) fun z62=>(Option.bind (gapp y54 ([z62]:List Za)) fun x63=>(kA ((w64 (y53 + (1:Int))),x63)))))) else (kO y54))
def L44_3 (F:Nat) (y52:Int) (y55:List Za) (y53:Int) (y54:List Za):=L44_3c F y52 y55 y53 y54 (fun s=>some (Sum.inl s)) (fun z=>some (Sum.inr z))
def lc44_3 (F:Nat):Lc:=mkL [7,8,18,19,20] [(.rw 0),(.rw 1),(.rw 1),.i,.i] [.row 9 .s,.row 39 (.sl .u8)] [7,8] [(.rw 0),(.rw 1)] [.row 9 .s,.row 39 (.sl .u8)] F (fun x y (s:Int×Zd)=>L44_3 F x.2.2.2.1 y.2.1 s.1 s.2) (fun x y=>(x.2.2.2.2.1,y.1)) (fun x y (z:Zd)=>(((),(),()),(z,y.2.1,())))
theorem lo44_3 (F:Nat):LcOk Tryz.prog (E44 F) 0 (lc44_3 F) (cAt (bodyOf Tryz.f44) [1,0,1,1,1]):=
 mkL_ok (lp:=[]) (id:=0) (b:=cAt (bodyOf Tryz.f44) (0 :: 0 :: [1,0,1,1,1])) cok (cts44 F) mixed trivial (by kernel_rfl) (by kernel_rfl) (fun x y s=>((),(),(),x.2.2.2.1,s.1,())) (fun x y s=>(s.2,y.2.1,())) (fun x y=>rfl) (fun x y=>rfl) (fun x y s kA kO=>L44_3c F x.2.2.2.1 y.2.1 s.1 s.2 kA kO) (fun _ _ _ _ _=>by simp only [L44_3,L44_3c,oA,oC,oS,oN,elimS_l,elimS_r,elimS_bind]) (fun _ _ _=>by kernel_rfl)
def L44_4c (F:Nat) (y73:List Za) (y74:Int) (y77:List Za) (y75:Int) (y76:List Zb) {β:Type} (kA:(Int×(List Zb))->Option β) (kO:((List Zb))->Option β):Option β:=
 (bif (decide (y75 < y74)) then (Option.bind (inb y77.length y75) fun x82=>(Option.bind (y77[x82]?) fun x83=>(Option.bind (T51 F y73) fun z84=>(Option.bind (gapp y76 ([((z84,y75,()),x83,y73,())]:List Zb)) fun x85=>(kA ((w64 (y75 + (1:Int))),x85)))))) else (kO y76))
def L44_4 (F:Nat) (y73:List Za) (y74:Int) (y77:List Za) (y75:Int) (y76:List Zb):=L44_4c F y73 y74 y77 y75 y76 (fun s=>some (Sum.inl s)) (fun z=>some (Sum.inr z))
def lc44_4 (F:Nat):Lc:=mkL [7,11,30,31,32] [(.ro .s),(.rw 0),(.rw 1),.i,.i] [.row 42 (.pr (.pr .s (.pr .i .un)) (.pr (.sl .u8) (.pr (.sl .s) .un))),.row 39 (.sl .u8)] [11] [(.rw 0)] [.row 42 (.pr (.pr .s (.pr .i .un)) (.pr (.sl .u8) (.pr (.sl .s) .un)))] F (fun x y (s:Int×(List Zb))=>L44_4 F x.1 x.2.2.2.1 y.2.1 s.1 s.2) (fun x y=>(x.2.2.2.2.1,y.1)) (fun x y (z:(List Zb))=>(((),()),(z,())))
theorem lo44_4 (F:Nat):LcOk Tryz.prog (E44 F) 0 (lc44_4 F) (cAt (bodyOf Tryz.f44) [1,0,1,1,1,1,1]):=
 mkL_ok (lp:=[]) (id:=2) (b:=cAt (bodyOf Tryz.f44) (0 :: 0 :: [1,0,1,1,1,1,1])) cok (cts44 F) mixed trivial (by kernel_rfl) (by kernel_rfl) (fun x y s=>(x.1,(),(),x.2.2.2.1,s.1,())) (fun x y s=>(s.2,y.2.1,())) (fun x y=>rfl) (fun x y=>rfl) (fun x y s kA kO=>L44_4c F x.1 x.2.2.2.1 y.2.1 s.1 s.2 kA kO) (fun _ _ _ _ _=>by simp only [L44_4,L44_4c,oA,oC,oS,oN,elimS_l,elimS_r,elimS_bind]) (fun _ _ _=>by kernel_rfl)
def T44c (F:Nat) (p0:Int) (p1:Int) (p2:List Za) {β:Type} (k:((List Zb))->Option β):Option β:=
 (Option.bind (T82 F p0 p1 p2) fun z44=>(Option.bind (iter (fun s=>L44_3 F (z44.length:Int) z44 s.1 s.2) F ((0:Int),([]:List Za))) fun z64=>(Option.bind (iter (fun s=>L44_4 F z64 (z44.length:Int) z44 s.1 s.2) F ((0:Int),([]:List Zb))) fun z86=>(k z86))))
def T44 (F:Nat) (p0:Int) (p1:Int) (p2:List Za):=T44c F p0 p1 p2 some
def ct44 (F:Nat):Ct:=mkC 0 [.i,.i,(.ro (.sl .u8))] [] [(.rw 0)] [.row 42 (.pr (.pr .s (.pr .i .un)) (.pr (.sl .u8) (.pr (.sl .s) .un)))] (fun x y=>T44 F x.1 x.2.1 x.2.2.1) (fun x y (z:(List Zb))=>(((),()),(z,())))
theorem ok44 (F:Nat):Sound Tryz.prog cfg 44 (ct44 F):=
 mkC_ok (E:=E44 F) (lp:=[([1,0,1,1,1],lc44_3 F),([1,0,1,1,1,1,1],lc44_4 F)]) (code:=bodyOf Tryz.f44) Tryz.func44 rfl Tryz.ntmps44 rfl rfl cok (cts44 F) mixed ⟨lo44_3 F,⟨lo44_4 F,trivial⟩⟩ (by kernel_rfl) (fun x y k=>T44c F x.1 x.2.1 x.2.2.1 k) (fun _ _ _=>by simp only [T44,T44c,oA,oC,oS,oN,elimS_bind]) (fun _ _=>by kernel_rfl)
def ord13:Nat->List (Tag×Nat)
 | 2=>[(.p,0),(.p,1),(.p,2),(.p,3),(.r,4),(.p,5),(.p,6),(.p,7),(.r,8),(.p,9),(.p,10),(.p,11),(.p,12),(.p,13),(.p,14),(.w,15),(.p,16)]
 | _=>[]
def E13 (F:Nat):Ev:=⟨cfg,32,ctOf [(44,ct44 F)],ord13,ctOf [],fun _=>none,fun _=>none⟩
theorem cts13 (F:Nat):CtsOk Tryz.prog (E13 F):=cts_of (l:=[(44,ct44 F)]) (l':=[]) rfl rfl ⟨⟨ok44 F,_,Tryz.func44,rfl,rfl⟩,trivial⟩ trivial
def T13c (F:Nat) (p1:Int) (p2:Int) (p4:List Za) {β:Type} (k:(Za×Int×(List Zb))->Option β):Option β:=
 (Option.bind (T44 F p1 p2 p4) fun z5=>(Option.bind (inb z5.length (0:Int)) fun x6=>(Option.bind (z5[x6]?) fun x7=>(Option.bind (ix p4 (0:Int)) fun x8=>(k (x7.1.1,(x8.length:Int),z5))))))
def T13 (F:Nat) (p1:Int) (p2:Int) (p4:List Za):=T13c F p1 p2 p4 some
def ct13 (F:Nat):Ct:=mkC 0 [.i,.i,.i,(.ro (.pr .s (.pr .i (.pr .i .un)))),(.ro (.sl .u8))] [] [(.pr .str (.pr .i (.pr .i (.pr .i (.pr .i (.pr (.ro (.pr .s (.pr .i (.pr .i .un)))) .un)))))),(.rw 0)] [.row 42 (.pr (.pr .s (.pr .i .un)) (.pr (.sl .u8) (.pr (.sl .s) .un)))] (fun x y=>T13 F x.2.1 x.2.2.1 x.2.2.2.2.1) (fun x y (z:Za×Int×(List Zb))=>(((z.1,x.1,z.2.1,x.2.1,x.2.2.1,x.2.2.2.1,()),(),()),(z.2.2,())))
theorem ok13 (F:Nat):Sound Tryz.prog cfg 13 (ct13 F):=
 mkC_ok (E:=E13 F) (lp:=[]) (code:=bodyOf Tryz.f13) Tryz.func13 rfl Tryz.ntmps13 rfl rfl cok (cts13 F) mixed trivial (by kernel_rfl) (fun x y k=>T13c F x.2.1 x.2.2.1 x.2.2.2.2.1 k) (fun _ _ _=>by simp only [T13,T13c,oA,oC,oS,oN,elimS_bind]) (fun _ _=>by kernel_rfl)
def ord14:Nat->List (Tag×Nat)
 | 6=>[(.p,0),(.r,1),(.p,2),(.p,3),(.r,4),(.p,5),(.r,6),(.p,7),(.p,8),(.r,9),(.p,10)]
 | _=>[]
def E14 (F:Nat):Ev:=⟨cfg,47,ctOf [],ord14,ctOf [],fun _=>none,fun _=>none⟩
theorem cts14 (F:Nat):CtsOk Tryz.prog (E14 F):=cts_of (l:=[]) (l':=[]) rfl rfl trivial trivial
def L14_2c (F:Nat) (y16:Int) (y21:List Za) (y25:List Za) (y17:Int) {β:Type} (kA:Int->Option β) (kO:Unit->Option β) (kR:Bool->Option β):Option β:=
 (bif (decide (y17 < y16)) then (Option.bind (ix y21 y17) fun x28=>(Option.bind (ix y25 y17) fun x29=>(bif (x28 != x29) then (kR false) else (kA (w64 (y17 + (1:Int))))))) else (kO ()))
def L14_2 (F:Nat) (y16:Int) (y21:List Za) (y25:List Za) (y17:Int):Option ((Int) ⊕ ((Unit) ⊕ (Bool))):=L14_2c F y16 y21 y25 y17 (fun s=>some (.inl s)) (fun z=>some (.inr (.inl z))) (fun z=>some (.inr (.inr z)))
theorem L14_2n (F:Nat) (y16:Int) (y21:List Za) (y25:List Za) (y17:Int) {β:Type} (kA:Int->Option β) (kO:Unit->Option β) (kR:Bool->Option β):L14_2c F y16 y21 y25 y17 kA kO kR=(L14_2 F y16 y21 y25 y17).bind (elimS kA (elimS kO kR)):=by
 simp only [L14_2,L14_2c,oA,oC,oS,oN,elimS_l,elimS_r,elimS_bind]
def lc14_2 (F:Nat):Lc:=mkR [2,3,31,32] [(.pt 0 []),(.pt 1 []),.i,.i] [.blk 42 (.pr (.pr .str (.pr .i .un)) (.pr (.ro .u8) (.pr (.ro .s) .un))),.blk 42 (.pr (.pr .str (.pr .i .un)) (.pr (.ro .u8) (.pr (.ro .s) .un)))] [] [] [] [4] [.bo] [] F (fun x y (s:Int)=>L14_2 F x.2.2.1 y.1.2.2.1 y.2.1.2.2.1 s) (fun x y=>x.2.2.2.1) (fun x y (z:Unit)=>((),())) (fun x y (z:Bool)=>((z,()),()))
theorem lo14_2 (F:Nat):LcOk Tryz.prog (E14 F) 0 (lc14_2 F) (cAt (bodyOf Tryz.f14) [1,0,1,1]):=
 mkR_ok (lp:=[]) (id:=0) (b:=cAt (bodyOf Tryz.f14) (0 :: 0 :: [1,0,1,1])) cok (cts14 F) mixed trivial (by kernel_rfl) (by kernel_rfl) (fun x y s=>((),(),x.2.2.1,s,())) (fun x y s=>(((y.1.1.1,y.1.1.2.1,()),y.1.2.1,y.1.2.2.1,()),((y.2.1.1.1,y.2.1.1.2.1,()),y.2.1.2.1,y.2.1.2.2.1,()),())) (fun x y=>rfl) (fun x y=>rfl) (fun x y s kA kO kR=>L14_2c F x.2.2.1 y.1.2.2.1 y.2.1.2.2.1 s kA kO kR) (fun x y s kA kO kR=>L14_2n F x.2.2.1 y.1.2.2.1 y.2.1.2.2.1 s kA kO kR) (fun _ _ _=>by kernel_rfl)
def T14c (F:Nat) (p0:List UInt8) (p1:Int) (p2:List UInt8) (p3:List Za) (p4:List UInt8) (p5:Int) (p6:List UInt8) (p7:List Za) {β:Type} (k:Bool->Option β):Option β:=
 (bif (!(p0 == p4 && (p1 == p5 && true))) then (k false) else (bif (p2 != p6) then (k false) else (bif ((p3.length:Int) != (p7.length:Int)) then (k false) else (Option.bind (iter (fun s=>L14_2 F (p3.length:Int) p3 p7 s) F (0:Int)) fun z30=>elimS (fun z30=>(k true)) (fun z30=>(k z30)) z30))))
def T14 (F:Nat) (p0:List UInt8) (p1:Int) (p2:List UInt8) (p3:List Za) (p4:List UInt8) (p5:Int) (p6:List UInt8) (p7:List Za):=T14c F p0 p1 p2 p3 p4 p5 p6 p7 some
def ct14 (F:Nat):Ct:=mkC 0 [(.pr (.pr .str (.pr .i .un)) (.pr (.ro .u8) (.pr (.ro .s) .un))),(.pr (.pr .str (.pr .i .un)) (.pr (.ro .u8) (.pr (.ro .s) .un)))] [] [.bo] [] (fun x y=>T14 F x.1.1.1 x.1.1.2.1 x.1.2.1 x.1.2.2.1 x.2.1.1.1 x.2.1.1.2.1 x.2.1.2.1 x.2.1.2.2.1) (fun x y (z:Bool)=>((z,()),()))
theorem ok14 (F:Nat):Sound Tryz.prog cfg 14 (ct14 F):=
 mkC_ok (E:=E14 F) (lp:=[([1,0,1,1],lc14_2 F)]) (code:=bodyOf Tryz.f14) Tryz.func14 rfl Tryz.ntmps14 rfl rfl cok (cts14 F) mixed ⟨lo14_2 F,trivial⟩ (by kernel_rfl) (fun x y k=>T14c F x.1.1.1 x.1.1.2.1 x.1.2.1 x.1.2.2.1 x.2.1.1.1 x.2.1.1.2.1 x.2.1.2.1 x.2.1.2.2.1 k) (fun _ _ _=>by simp only [T14,T14c,oA,oC,oS,oN,elimS_bind]) (fun _ _=>by kernel_rfl)
def ord3:Nat->List (Tag×Nat)
 | 14=>[(.p,0),(.p,1),(.p,2),(.r,3),(.p,4),(.p,5),(.p,6),(.r,7),(.w,8),(.p,9)]
 | _=>[]
def E3 (F:Nat):Ev:=⟨cfg,95,ctOf [(8,ct8 F),(9,ct9 F),(10,ct10 F),(11,ct11 F),(12,ct12 F),(13,ct13 F),(14,ct14 F)],ord3,ctOf [],fun _=>none,fun _=>none⟩
theorem cts3 (F:Nat):CtsOk Tryz.prog (E3 F):=cts_of (l:=[(8,ct8 F),(9,ct9 F),(10,ct10 F),(11,ct11 F),(12,ct12 F),(13,ct13 F),(14,ct14 F)]) (l':=[]) rfl rfl ⟨⟨ok8 F,_,Tryz.func8,rfl,rfl⟩,⟨⟨ok9 F,_,Tryz.func9,rfl,rfl⟩,⟨⟨ok10 F,_,Tryz.func10,rfl,rfl⟩,⟨⟨ok11 F,_,Tryz.func11,rfl,rfl⟩,⟨⟨ok12 F,_,Tryz.func12,rfl,rfl⟩,⟨⟨ok13 F,_,Tryz.func13,rfl,rfl⟩,⟨⟨ok14 F,_,Tryz.func14,rfl,rfl⟩,trivial⟩⟩⟩⟩⟩⟩⟩ trivial
def L3_2c (F:Nat) (y30:Int) (y32:List Zb) (y33:List Zb) (y31:Int) {β:Type} (kA:Int->Option β) (kO:Unit->Option β) (kR:Bool->Option β):Option β:=
 (bif (decide (y31 < y30)) then (Option.bind (inb y32.length y31) fun x39=>(Option.bind (y32[x39]?) fun x40=>(Option.bind (inb y33.length y31) fun x41=>(Option.bind (y33[x41]?) fun x42=>(Option.bind (T14 F x40.1.1 x40.1.2.1 x40.2.1 x40.2.2.1 x42.1.1 x42.1.2.1 x42.2.1 x42.2.2.1) fun z43=>(bif (!z43) then (kR false) else (kA (w64 (y31 + (1:Int)))))))))) else (kO ()))
def L3_2 (F:Nat) (y30:Int) (y32:List Zb) (y33:List Zb) (y31:Int):Option ((Int) ⊕ ((Unit) ⊕ (Bool))):=L3_2c F y30 y32 y33 y31 (fun s=>some (.inl s)) (fun z=>some (.inr (.inl z))) (fun z=>some (.inr (.inr z)))
theorem L3_2n (F:Nat) (y30:Int) (y32:List Zb) (y33:List Zb) (y31:Int) {β:Type} (kA:Int->Option β) (kO:Unit->Option β) (kR:Bool->Option β):L3_2c F y30 y32 y33 y31 kA kO kR=(L3_2 F y30 y32 y33 y31).bind (elimS kA (elimS kO kR)):=by
 simp only [L3_2,L3_2c,oA,oC,oS,oN,elimS_l,elimS_r,elimS_bind]
def lc3_2 (F:Nat):Lc:=mkR [12,15,80,81] [(.rw 0),(.rw 1),.i,.i] [.row 42 (.pr (.pr .s (.pr .i .un)) (.pr (.sl .u8) (.pr (.sl .s) .un))),.row 42 (.pr (.pr .s (.pr .i .un)) (.pr (.sl .u8) (.pr (.sl .s) .un)))] [] [] [] [10] [.bo] [] F (fun x y (s:Int)=>L3_2 F x.2.2.1 y.1 y.2.1 s) (fun x y=>x.2.2.2.1) (fun x y (z:Unit)=>((),())) (fun x y (z:Bool)=>((z,()),()))
theorem lo3_2 (F:Nat):LcOk Tryz.prog (E3 F) 0 (lc3_2 F) (cAt (bodyOf Tryz.f3) [1,0,1,1,1,1,1,1,1]):=
 mkR_ok (lp:=[]) (id:=0) (b:=cAt (bodyOf Tryz.f3) (0 :: 0 :: [1,0,1,1,1,1,1,1,1])) cok (cts3 F) mixed trivial (by kernel_rfl) (by kernel_rfl) (fun x y s=>((),(),x.2.2.1,s,())) (fun x y s=>(y.1,y.2.1,())) (fun x y=>rfl) (fun x y=>rfl) (fun x y s kA kO kR=>L3_2c F x.2.2.1 y.1 y.2.1 s kA kO kR) (fun x y s kA kO kR=>L3_2n F x.2.2.1 y.1 y.2.1 s kA kO kR) (fun _ _ _=>by kernel_rfl)
def T3c (F:Nat) (p0:Int) (p1:Int) (p2:Int) (p3:List Zc) (p4:List Za) {β:Type} (k:Bool->Option β):Option β:=
 (Option.bind (T8 F) fun z23=>(bif (!z23) then (k false) else (Option.bind (T9 F p4) fun z24=>(bif z24 then (k true) else (bif (decide ((20:Int) < (p3.length:Int))) then (k true) else (Option.bind (T10 F p0 p1 p2 p3 p4) fun z25=>(Option.bind (T11 F p0 p1 p2 p3 p4) fun z26=>(bif (!z26) then (bif (z25.2.2.2.2.2.1 == (1:Int)) then (Option.bind (T12 F z25.1 z25.2.1 z25.2.2.1 z25.2.2.2.1 z25.2.2.2.2.1 z25.2.2.2.2.2.2.1 ([]:List UInt8) (0:Int) (0:Int) (0:Int) (0:Int) ([]:List Zc)) fun z27=>(bif z27 then (k ((z25.2.2.2.2.2.2.2.length:Int) == (0:Int))) else (k false))) else (k false)) else (Option.bind (T13 F p1 p2 p4) fun z28=>(bif (z25.2.2.2.2.2.1 != (0:Int)) then (k false) else (Option.bind (T12 F z25.1 z25.2.1 z25.2.2.1 z25.2.2.2.1 z25.2.2.2.2.1 z25.2.2.2.2.2.2.1 z28.1 p0 z28.2.1 p1 p2 p3) fun z29=>(bif (!z29) then (k false) else (bif ((z25.2.2.2.2.2.2.2.length:Int) != (z28.2.2.length:Int)) then (k false) else (Option.bind (iter (fun s=>L3_2 F (z25.2.2.2.2.2.2.2.length:Int) z25.2.2.2.2.2.2.2 z28.2.2 s) F (0:Int)) fun z44=>elimS (fun z44=>(k true)) (fun z44=>(k z44)) z44))))))))))))))
def T3 (F:Nat) (p0:Int) (p1:Int) (p2:Int) (p3:List Zc) (p4:List Za):=T3c F p0 p1 p2 p3 p4 some
abbrev cA3:List Sh:=[.i,.i,.i,(.ro (.pr .s (.pr .i (.pr .i .un)))),(.ro (.sl .u8))]
def ct3 (F:Nat):Ct:=mkC 0 cA3 [] [.bo] [] (fun x y=>T3 F x.1 x.2.1 x.2.2.1 x.2.2.2.1 x.2.2.2.2.1) (fun x y (z:Bool)=>((z,()),()))
theorem ok3 (F:Nat):Sound Tryz.prog cfg 3 (ct3 F):=
 mkC_ok (E:=E3 F) (lp:=[([1,0,1,1,1,1,1,1,1],lc3_2 F)]) (code:=bodyOf Tryz.f3) Tryz.func3 rfl Tryz.ntmps3 rfl rfl cok (cts3 F) mixed ⟨lo3_2 F,trivial⟩ (by kernel_rfl) (fun x y k=>T3c F x.1 x.2.1 x.2.2.1 x.2.2.2.1 x.2.2.2.2.1 k) (fun _ _ _=>by simp only [T3,T3c,oA,oC,oS,oN,elimS_bind]) (fun _ _=>by kernel_rfl)
end Go.Proofs.YtpnhgldpeiogbaaGreatDoor
namespace Go.Proofs.YtpnhgldpeiogbaaGreatDoor
open Go.Tw
set_option linter.unusedSimpArgs false
set_option linter.unusedVariables false
structure Rows {α:Type} (rows:List (Option (List α))) (out:List Nat) (gs:List (List α)):Prop where
 len:out.length=gs.length
 at_:∀ (i:Nat) (g:List α),gs[i]? = some g->∃ q:Nat,out[i]? = some q∧rows[q]? = some (some g)
 nd:out.Nodup
section
variable {α:Type} {rows:List (Option (List α))} {out:List Nat} {gs:List (List α)}
theorem Rows.lt (H:Rows rows out gs) {q:Nat} (h:q ∈ out):q < rows.length:=by
 obtain ⟨i,hi⟩:=List.mem_iff_getElem?.1 h
 have hl:=(List.getElem?_eq_some_iff.1 hi).1
 obtain ⟨q',h1,h2⟩:=H.at_ i _ (List.getElem?_eq_getElem (by rw [← H.len];exact hl))
 rw [hi] at h1;cases h1
 exact (List.getElem?_eq_some_iff.1 h2).1
theorem rxG_of {q:Nat} {g:List α} (h:rows[q]? = some (some g)):rxG rows q=some g:=by unfold rxG;rw [h]
theorem Rows.get (H:Rows rows out gs) {i:Nat} {g:List α} (h:gs[i]? = some g):∃ q,outG out i=some q∧rxG rows q=some g∧out[i]? = some q:=by
 obtain ⟨q,h1,h2⟩:=H.at_ i g h
 exact ⟨q,h1,rxG_of h2,h1⟩
theorem Rows.mat_eq:∀ {out:List Nat} {gs:List (List α)},Rows rows out gs->mat rows out=some gs
 | [],[],_=>rfl
 | [],_ :: _,H=>by have:=H.len;simp at this
 | _ :: _,[],H=>by have:=H.len;simp at this
 | q :: out,g :: gs,H=>by
  obtain ⟨q',h1,h2⟩:=H.at_ 0 g rfl
  simp at h1;subst h1
  have ih:=Rows.mat_eq (out:=out) (gs:=gs) ⟨by have:=H.len;simpa using this,fun i g' h=>by simpa using H.at_ (i + 1) g' (by simpa using h),(List.nodup_cons.1 H.nd).2⟩
  simp [mat,rxG_of h2,ih]
theorem nodup_at {l:List Nat} (h:l.Nodup) {i j q:Nat} (hi:l[i]? = some q) (hj:l[j]? = some q):i=j:=by
 obtain ⟨hi1,hi2⟩:=List.getElem?_eq_some_iff.1 hi
 obtain ⟨hj1,hj2⟩:=List.getElem?_eq_some_iff.1 hj
 have hp:=List.pairwise_iff_getElem.1 h
 rcases Nat.lt_trichotomy i j with h' | h' | h'
 ·exact absurd (hi2.trans hj2.symm) (hp i j hi1 hj1 h')
 ·exact h'
 ·exact absurd (hj2.trans hi2.symm) (hp j i hj1 hi1 h')
theorem nodup_of {l:List Nat} (h:∀ i j q:Nat,l[i]? = some q->l[j]? = some q->i=j):l.Nodup:=
 List.pairwise_iff_getElem.2 fun i j hi hj hij e=>by
  have:=h i j l[i] (List.getElem?_eq_getElem hi) (by rw [List.getElem?_eq_getElem hj,e])
  omega
end
theorem it_again' {σ ρ:Type} {f:σ->Option (σ ⊕ ρ)} {n:Nat} {s s':σ} (h:f s=some (.inl s')):iter f (n + 1) s=iter f n s':=by simp [iter,h]
theorem it_out' {σ ρ:Type} {f:σ->Option (σ ⊕ ρ)} {n:Nat} {s:σ} {r:ρ} (h:f s=some (.inr r)):iter f (n + 1) s=some r:=by simp [iter,h]
theorem iter1 {σ ρ:Type} {f:σ->Option (σ ⊕ ρ)} (R:σ->Prop) (Q:ρ->Prop) (μ:σ->Nat)
  (step:∀ s,R s->(∃ s',f s=some (.inl s')∧R s'∧μ s' < μ s)∨(∃ r,f s=some (.inr r)∧Q r)) :
  ∀ (n:Nat) (s:σ),R s->μ s < n->∃ r,iter f n s=some r∧Q r
 | 0,s,_,h=>by omega
 | n + 1,s,hR,h=>by
  rcases step s hR with ⟨s',h1,h2,h3⟩ | ⟨r,h1,h2⟩
  ·rw [it_again' h1];exact iter1 R Q μ step n s' h2 (by omega)
  ·exact ⟨r,it_out' h1,h2⟩
theorem ixn {α:Type} {l:List α} {i:Nat} {x:α} (h:l[i]? = some x):ix l ((i:Nat):Int)=some x:=by
 have hi:=(List.getElem?_eq_some_iff.1 h).1
 unfold ix
 rw [if_pos (by omega),Int.toNat_natCast];exact h
theorem inbn {n i:Nat} (h:i < n):inb n ((i:Nat):Int)=some i:=by unfold inb;simp [h]
theorem gappn {α:Type} {xs ys:List α} (h:xs.length + ys.length≤1099511627776):gapp xs ys=some (xs ++ ys):=by unfold gapp;rw [if_pos h]
theorem w64n {n:Nat} (h:n < 9223372036854775807):w64 (((n:Nat):Int) + 1)=((n + 1:Nat):Int):=by rw [w64_in (by omega) (by omega)];omega
end Go.Proofs.YtpnhgldpeiogbaaGreatDoor
namespace Go.Proofs.YtpnhgldpeiogbaaGreatDoor
open Go.Tw
set_option linter.unusedSimpArgs false
set_option linter.unusedVariables false
def cls (k:Nat):Int:=2 ^ (k / 4) * (64 + 16 * (k % 4:Nat))
def fc (need:Int):Nat->Nat->Int
 | 0,k=>cls k
 | m + 1,k=>bif decide (cls k < need) then fc need m (k + 1) else cls k
theorem t59 {k:Nat} (hk:k < 39) (F:Nat):T115 F (2 ^ (k / 4):Int) ((k % 4:Nat):Int)=some (cls k,(2 ^ ((k + 1) / 4):Int),(((k + 1) % 4:Nat):Int)):=by
 have:∀ k:Fin 39,T115 0 (2 ^ (k.val / 4):Int) ((k.val % 4:Nat):Int)=some (cls k.val,(2 ^ ((k.val + 1) / 4):Int),(((k.val + 1) % 4:Nat):Int)):=by decide
 exact this ⟨k,hk⟩
theorem loop14 (F:Nat) (need:Int):∀ (m k fuel:Nat),k + m=37->m < fuel->need≤cls 37->iter (fun s:Int×Int×Int=>L37_2 F need s.1 s.2.1 s.2.2) fuel (cls k,(2 ^ ((k + 1) / 4):Int),(((k + 1) % 4:Nat):Int))=some (fc need m k)
 | 0,k,fuel + 1,hk,hf,hn=>by
  have:k=37:=by omega
  subst this
  have h:¬ cls 37 < need:=by omega
  simp [iter,L37_2,L37_2c,h,fc]
 | m + 1,k,fuel + 1,hk,hf,hn=>by
  by_cases h:cls k < need
  ·simp only [iter,L37_2,L37_2c,h,decide_true,cond_true,fc]
   rw [t59 (by omega)]
   simp only [Option.bind_some]
   exact loop14 F need m (k + 1) fuel (by omega) (by omega) hn
  ·simp [iter,L37_2,L37_2c,h,fc]
theorem c42 {j b:Nat} (hj:j < 10) (hb:b < 4):w64 ((64 * 2 ^ j:Int) + w64 (w64 (Int.tdiv (64 * 2 ^ j:Int) 4) * ((b:Nat):Int)))=cls (4 * j + b):=by
 have:∀ (j:Fin 10) (b:Fin 4),w64 ((64 * 2 ^ j.val:Int) + w64 (w64 (Int.tdiv (64 * 2 ^ j.val:Int) 4) * ((b.val:Nat):Int)))=cls (4 * j.val + b.val):=by decide
 exact this ⟨j,hj⟩ ⟨b,hb⟩
theorem in_step (F:Nat) (need:Int) {j b:Nat} (hj:j < 10) (hb:b < 4) (n:Nat):iter (fun s=>L80_4 F need (64 * 2 ^ j:Int) s) (n + 1) ((b:Nat):Int)=bif decide (need≤cls (4 * j + b)) then some (.inr (cls (4 * j + b))) else iter (fun s=>L80_4 F need (64 * 2 ^ j:Int) s) n ((b + 1:Nat):Int):=by
 have h1:((b:Nat):Int) < 4:=by omega
 have h2:w64 (((b:Nat):Int) + 1)=((b + 1:Nat):Int):=by rw [w64_in (by omega) (by omega)];omega
 simp only [iter,L80_4,L80_4c,h1,decide_true,cond_true,c42 hj hb,h2]
 cases decide (need≤cls (4 * j + b))<;>rfl
theorem in_last (F:Nat) (need base:Int) (n:Nat):iter (fun s=>L80_4 F need base s) (n + 1) ((4:Nat):Int)=some (.inl ()):=by
 simp [iter,L80_4,L80_4c]
theorem fc_step (need:Int) (m k:Nat):fc need (m + 1) k=bif decide (need≤cls k) then cls k else fc need m (k + 1):=by
 simp only [fc]
 by_cases h:cls k < need
 ·have h':¬ need≤cls k:=by omega
  simp [h,h']
 ·have h':need≤cls k:=by omega
  simp [h,h']
theorem dbl {j:Nat} (hj:j < 9):w64 ((2:Int) * (64 * 2 ^ j:Int))=(64 * 2 ^ (j + 1):Int):=by
 have:∀ (j:Fin 9),w64 ((2:Int) * (64 * 2 ^ j.val:Int))=(64 * 2 ^ (j.val + 1):Int):=by decide
 exact this ⟨j,hj⟩
theorem inner (F:Nat) (need:Int) {j:Nat} (hj:j < 10) (hF:5≤F):iter (fun s=>L80_4 F need (64 * 2 ^ j:Int) s) F (0:Int)=some (bif decide (need≤cls (4 * j)) then .inr (cls (4 * j)) else bif decide (need≤cls (4 * j + 1)) then .inr (cls (4 * j + 1)) else bif decide (need≤cls (4 * j + 2)) then .inr (cls (4 * j + 2)) else bif decide (need≤cls (4 * j + 3)) then .inr (cls (4 * j + 3)) else .inl ()):=by
 obtain ⟨n,rfl⟩:∃ n,F=n + 5:=⟨F - 5,by omega⟩
 have h0:=in_step (n + 5) need hj (b:=0) (by omega) (n + 4)
 have h1:=in_step (n + 5) need hj (b:=1) (by omega) (n + 3)
 have h2:=in_step (n + 5) need hj (b:=2) (by omega) (n + 2)
 have h3:=in_step (n + 5) need hj (b:=3) (by omega) (n + 1)
 have h4:=in_last (n + 5) need (64 * 2 ^ j:Int) n
 have e0:(0:Int)=((0:Nat):Int):=rfl
 rw [e0,h0,h1,h2,h3,h4]
 simp only [Nat.add_zero]
 cases decide (need≤cls (4 * j))<;>cases decide (need≤cls (4 * j + 1))<;>cases decide (need≤cls (4 * j + 2))<;>cases decide (need≤cls (4 * j + 3))<;>rfl
theorem loop42 (F:Nat) (need:Int) (hF:5≤F) (hn:need≤cls 37):∀ (i j fuel:Nat),j + i=9->i < fuel->iter (fun s=>L80_3 F need s) fuel (64 * 2 ^ j:Int)=some (fc need (37 - 4 * j) (4 * j))
 | 0,j,fuel + 1,hj,hf=>by
  have:j=9:=by omega
  subst this
  simp only [iter,L80_3,L80_3c]
  rw [inner F need (j:=9) (by omega) hF]
  have e1:decide (need≤cls (4 * 9 + 1))=true:=by simpa using hn
  simp only [e1,Option.bind_some]
  show _=some (fc need 1 36)
  rw [fc_step]
  show _=some (bif decide (need≤cls (4 * 9)) then cls (4 * 9) else cls (4 * 9 + 1))
  cases decide (need≤cls (4 * 9))<;>rfl
 | i + 1,j,fuel + 1,hj,hf=>by
  simp only [iter,L80_3,L80_3c]
  rw [inner F need (j:=j) (by omega) hF]
  have ih:=loop42 F need hF hn i (j + 1) fuel (by omega) (by omega)
  obtain ⟨m,hm⟩:∃ m,37 - 4 * j=m + 4:=⟨33 - 4 * j,by omega⟩
  have hm':37 - 4 * (j + 1)=m:=by omega
  rw [hm,fc_step,fc_step,fc_step,fc_step]
  rw [hm'] at ih
  rw [show 4 * j + 1 + 1=4 * j + 2 from rfl,show 4 * j + 2 + 1=4 * j + 3 from rfl,show 4 * j + 3 + 1=4 * (j + 1) from by omega]
  cases decide (need≤cls (4 * j))<;>cases decide (need≤cls (4 * j + 1))<;>cases decide (need≤cls (4 * j + 2))<;>cases decide (need≤cls (4 * j + 3)) <;>
   simp only [cond_true,cond_false,Option.bind_some,elimS,dbl (show j < 9 by omega)]
  exact ih
theorem shr7 (x:UInt64):(shr64 x 7).toNat=x.toNat / 128:=by
 show (x.toBitVec >>> 7).toNat=_
 rw [BitVec.toNat_ushiftRight,Nat.shiftRight_eq_div_pow];rfl
def sz (n:Nat):Nat:=if n < 128 then 1 else if n < 16384 then 2 else 3
theorem it_again {σ ρ:Type} {f:σ->Option (σ ⊕ ρ)} {n:Nat} {s s':σ} (h:f s=some (.inl s')):iter f (n + 1) s=iter f n s':=by simp [iter,h]
theorem it_out {σ ρ:Type} {f:σ->Option (σ ⊕ ρ)} {n:Nat} {s:σ} {r:ρ} (h:f s=some (.inr r)):iter f (n + 1) s=some r:=by simp [iter,h]
theorem l40_again (F:Nat) {x:UInt64} {c:Int} (h:128≤x.toNat):L74_2 F x c=some (.inl (shr64 x 7,w64 (c + 1))):=by
 have:UInt64.ofNat 128≤x:=h
 simp only [L74_2,L74_2c,this,decide_true,cond_true];rfl
theorem l40_out (F:Nat) {x:UInt64} {c:Int} (h:¬ 128≤x.toNat):L74_2 F x c=some (.inr c):=by
 have:¬ UInt64.ofNat 128≤x:=h
 simp only [L74_2,L74_2c,this,decide_false,cond_false]
theorem t40 {F:Nat} (hF:4 < F) (x:UInt64) (hx:x.toNat≤32768):T74 F x=some ((sz x.toNat:Nat):Int):=by
 obtain ⟨n,rfl⟩:∃ n,F=n + 4:=⟨F - 4,by omega⟩
 have w1:w64 ((1:Int) + 1)=2:=by decide
 have w2:w64 ((2:Int) + 1)=3:=by decide
 have d1:=shr7 x
 have d2:=shr7 (shr64 x 7)
 simp only [T74,T74c]
 by_cases h1:x.toNat < 128
 ·rw [it_out (l40_out _ (x:=x) (by omega))];simp [sz,h1]
 ·rw [it_again (l40_again _ (x:=x) (by omega)),w1]
  by_cases h2:x.toNat < 16384
  ·rw [it_out (l40_out _ (x:=shr64 x 7) (by omega))];simp [sz,h1,h2]
  ·rw [it_again (l40_again _ (x:=shr64 x 7) (by omega)),w2,it_out (l40_out _ (x:=shr64 (shr64 x 7) 7) (by omega))];simp [sz,h1,h2]
theorem div128 (x:UInt64):(x / UInt64.ofNat 128).toNat=x.toNat / 128:=by
 rw [UInt64.toNat_div];rfl
theorem l45_again (F:Nat) {x:UInt64} {l:List UInt8} (h:127 < x.toNat) (hl:l.length < 100):∃ b,L67_2 F x l=some (.inl (x / UInt64.ofNat 128,l ++ [b])):=by
 have:UInt64.ofNat 127 < x:=h
 refine ⟨((x % (UInt64.ofNat 128)).toUInt8) + (UInt8.ofNat 128),?_⟩
 simp only [L67_2,L67_2c,this,decide_true,cond_true,gapp]
 rw [if_pos (by simp;omega)];rfl
theorem l45_out (F:Nat) {x:UInt64} {l:List UInt8} (h:¬ 127 < x.toNat):L67_2 F x l=some (.inr (x,l)):=by
 have:¬ UInt64.ofNat 127 < x:=h
 simp only [L67_2,L67_2c,this,decide_false,cond_false]
theorem t45 {F:Nat} (hF:4 < F) (x:UInt64) (hx:x.toNat≤32768):∃ l,T67 F x=some l∧l.length=sz x.toNat:=by
 obtain ⟨n,rfl⟩:∃ n,F=n + 4:=⟨F - 4,by omega⟩
 have d1:=div128 x
 have d2:=div128 (x / UInt64.ofNat 128)
 simp only [T67,T67c]
 by_cases h1:x.toNat < 128
 ·rw [it_out (l45_out _ (x:=x) (by omega))];simp [sz,h1,gapp]
 ·obtain ⟨b,hb⟩:=l45_again (n + 4) (x:=x) (l:=[]) (by omega) (by simp)
  rw [it_again (f:=fun s:UInt64×List UInt8=>L67_2 (n + 4) s.1 s.2) (s:=(x,[])) hb]
  by_cases h2:x.toNat < 16384
  ·rw [it_out (l45_out _ (x:=x / UInt64.ofNat 128) (by omega))];simp [sz,h1,h2,gapp]
  ·obtain ⟨b',hb'⟩:=l45_again (n + 4) (x:=x / UInt64.ofNat 128) (l:=[] ++ [b]) (by omega) (by simp)
   rw [it_again (f:=fun s:UInt64×List UInt8=>L67_2 (n + 4) s.1 s.2) (s:=(x / UInt64.ofNat 128,[] ++ [b])) hb',it_out (l45_out _ (x:=x / UInt64.ofNat 128 / UInt64.ofNat 128) (by omega))];simp [sz,h1,h2,gapp]
def need (n:Int):Int:=(sz n.toNat:Int) + n + 16
def clsOf (n:Int):Int:=fc (need n) 37 0
theorem one_le_pow2:∀ k:Nat,(1:Int)≤2 ^ k
 | 0=>by simp
 | k + 1=>by have:=one_le_pow2 k;rw [Int.pow_succ];omega
theorem fc_ge (need:Int):∀ (m k:Nat),64≤fc need m k
 | 0,k=>by
  have h1:(1:Int)≤2 ^ (k / 4):=one_le_pow2 _
  have h2:(64:Int)≤64 + 16 * (k % 4:Nat):=by omega
  have:=Int.mul_le_mul h1 h2 (by omega) (by omega)
  simp only [fc,cls];omega
 | m + 1,k=>by
  have h1:(1:Int)≤2 ^ (k / 4):=one_le_pow2 _
  have h2:(64:Int)≤64 + 16 * (k % 4:Nat):=by omega
  have:=Int.mul_le_mul h1 h2 (by omega) (by omega)
  simp only [fc]
  cases decide (cls k < need) with
  | true=>exact fc_ge need m (k + 1)
  | false=>simp only [cond_false,cls];omega
theorem clsOf_ge (n:Int):64≤clsOf n:=fc_ge _ _ _
theorem class_in {F:Nat} (hF:50 < F) {n:Int} (h0:0≤n) (h1:n≤32768):T37 F n=some (clsOf n,0)∧T81 F n=some (need n)∧T80 F (need n)=some (clsOf n):=by
 have h0':¬ n < 0:=by omega
 have h1':¬ 32768 < n:=by omega
 have hx:(UInt64.ofInt n).toNat=n.toNat:=by
  show (UInt64.ofNat (n % 2 ^ 64).toNat).toNat=_
  rw [UInt64.toNat_ofNat'];omega
 have hx':(UInt64.ofInt n).toNat≤32768:=by omega
 obtain ⟨l,hl,hll⟩:=t45 (F:=F) (by omega) (UInt64.ofInt n) hx'
 have h41:T75 F=some ((2 ^ (0 / 4):Int),((0 % 4:Nat):Int)):=rfl
 have hs:1≤sz n.toNat∧sz n.toNat≤3:=by unfold sz;split<;>(try split)<;>omega
 have hw:w64 (w64 (((sz n.toNat:Nat):Int) + n) + 16)=need n:=by
  rw [w64_in (n:=((sz n.toNat:Nat):Int) + n) (by omega) (by omega),w64_in (by omega) (by omega)];rfl
 have hneed:need n≤cls 37:=by
  have:cls 37=40960:=by decide
  unfold need
  omega
 refine ⟨?_,?_,?_⟩
 ·simp only [T37,T37c,h0',h1',decide_false,cond_false]
  rw [t40 (by omega) _ hx',h41]
  simp only [Option.bind_some]
  rw [t59 (k:=0) (by omega)]
  simp only [Option.bind_some]
  have l14:=loop14 F (need n) 37 0 F (by omega) (by omega) hneed
  rw [hx,hw,l14];rfl
 ·simp only [T81,T81c,hl,Option.bind_some,hll,hx,hw]
 ·have l42:=loop42 F (need n) (by omega) hneed 9 0 F (by omega) (by omega)
  simp only [T80,T80c]
  have e:(64:Int)=64 * 2 ^ 0:=by decide
  rw [e,l42];rfl
theorem refclass {F:Nat} (hF:50 < F) {n:Int} (h0:0≤n) (h1:n≤32768):T42 F n=some (clsOf n):=by
 obtain ⟨_,h2,h3⟩:=class_in hF h0 h1
 simp only [T42,T42c,h2,h3,Option.bind_some]
theorem iter2 {σ τ ρ ρ':Type} {f:σ->Option (σ ⊕ ρ)} {g:τ->Option (τ ⊕ ρ')} (R:σ->τ->Prop) (Q:ρ->ρ'->Prop) (μ:σ->Nat)
  (h:∀ s t,R s t->(∃ s' t',f s=some (.inl s')∧g t=some (.inl t')∧R s' t'∧μ s' < μ s)∨(∃ r r',f s=some (.inr r)∧g t=some (.inr r')∧Q r r')) :
  ∀ (n m:Nat) (s:σ) (t:τ),R s t->μ s < n->μ s < m->∃ r r',iter f n s=some r∧iter g m t=some r'∧Q r r'
 | 0,m,s,t,hR,hn,hm=>absurd hn (by omega)
 | n + 1,0,s,t,hR,hn,hm=>absurd hm (by omega)
 | n + 1,m + 1,s,t,hR,hn,hm=>by
  rcases h s t hR with ⟨s',t',h1,h2,h3,h4⟩ | ⟨r,r',h1,h2,h3⟩
  ·rw [it_again h1,it_again h2]
   exact iter2 R Q μ h n m s' t' h3 (by omega) (by omega)
  ·exact ⟨r,r',it_out h1,it_out h2,h3⟩
theorem iterP {σ τ ρ ρ':Type} {f:σ->Option (σ ⊕ ρ)} {g:τ->Option (τ ⊕ ρ')} (R:σ->τ->Prop) (Q:σ->ρ'->Prop) (μ:σ->Nat)
  (h:∀ s t,R s t->(∃ s' t',f s=some (.inl s')∧g t=some (.inl t')∧R s' t'∧μ s' < μ s)∨(∃ r',g t=some (.inr r')∧Q s r')) :
  ∀ (m:Nat) (s:σ) (t:τ),R s t->μ s < m->∃ k s' r',k≤μ s∧iter g m t=some r'∧Q s' r'∧∀ n,iter f (n + k) s=iter f n s'
 | 0,s,t,hR,hm=>absurd hm (by omega)
 | m + 1,s,t,hR,hm=>by
  rcases h s t hR with ⟨s',t',h1,h2,h3,h4⟩ | ⟨r',h1,h2⟩
  ·obtain ⟨k,s'',r',a1,a2,a3,a4⟩:=iterP R Q μ h m s' t' h3 (by omega)
   exact ⟨k + 1,s'',r',by omega,(it_again h2).trans a2,a3,fun n=>(it_again (n:=n + k) h1).trans (a4 n)⟩
  ·exact ⟨0,s,r',by omega,it_out h1,h2,fun n=>rfl⟩
theorem inb_nat {n i:Nat} (h:i < n):inb n ((i:Nat):Int)=some i:=by
 unfold inb;rw [if_pos (by omega)];simp only [Int.toNat_natCast]
theorem vat_nat {α:Type} {n i:Nat} {v:Vector α n} (h:i < n):vat v i=some v[i]:=by
 rw [vat_eq];exact getElem?_pos v i h
theorem vix_nat {α:Type} {n i:Nat} {v:Vector α n} (h:i < n):vix v ((i:Nat):Int)=some v[i]:=by
 unfold vix;rw [if_pos (by omega)];simp only [Int.toNat_natCast];exact getElem?_pos v i h
theorem gsl_nat {α:Type} {l:List α} {a b:Nat} (h:a≤b) (hb:b≤l.length):gsl l ((a:Nat):Int) ((b:Nat):Int)=some ((l.drop a).take (b - a)):=by
 unfold gsl;rw [if_pos (by omega)];simp only [Int.toNat_natCast]
theorem gslb_nat {n a b:Nat} (h:a≤b) (hb:b≤n):gslb n ((a:Nat):Int) ((b:Nat):Int)=some (a,b):=by
 unfold gslb;rw [if_pos (by omega)];simp only [Int.toNat_natCast]
theorem ix_nat {α:Type} {l:List α} {i:Nat} (h:i < l.length):ix l ((i:Nat):Int)=some l[i]:=ixn (List.getElem?_eq_getElem h)
theorem ix_dt {p:List UInt8} {a k:Nat} (h:a + k < p.length) (hk:k < 4):ix ((p.drop a).take 4) ((k:Nat):Int)=some p[a + k]:=by
 rw [ix_nat (by simp;omega)];simp
def rr (x:UInt32) (k:Nat):UInt32:=shr32 x k ||| shl32 x (32 - k)
theorem a94_17 (F:Nat) (x:UInt32):T170 F x (-17)=some (rr x 17):=by
 have e1:((UInt64.ofInt (-17)) &&& (UInt64.ofNat 31)).toNat=15:=by decide +kernel
 have e2:((UInt64.ofNat 32) - ((UInt64.ofInt (-17)) &&& (UInt64.ofNat 31))).toNat=17:=by decide +kernel
 simp only [T170,T170c,e1,e2,rr]
 rw [UInt32.or_comm]
theorem a93_17 (F:Nat) (x:UInt32):T158 F x 17=some (rr x 17):=by
 have e1:gnn (17:Int)=some 17:=by decide +kernel
 have e2:gnn (w64 ((32:Int) - 17))=some 15:=by decide +kernel
 simp only [T158,T158c,e1,e2,rr,Option.bind_some]
theorem a94_19 (F:Nat) (x:UInt32):T170 F x (-19)=some (rr x 19):=by
 have e1:((UInt64.ofInt (-19)) &&& (UInt64.ofNat 31)).toNat=13:=by decide +kernel
 have e2:((UInt64.ofNat 32) - ((UInt64.ofInt (-19)) &&& (UInt64.ofNat 31))).toNat=19:=by decide +kernel
 simp only [T170,T170c,e1,e2,rr]
 rw [UInt32.or_comm]
theorem a93_19 (F:Nat) (x:UInt32):T158 F x 19=some (rr x 19):=by
 have e1:gnn (19:Int)=some 19:=by decide +kernel
 have e2:gnn (w64 ((32:Int) - 19))=some 13:=by decide +kernel
 simp only [T158,T158c,e1,e2,rr,Option.bind_some]
theorem a94_7 (F:Nat) (x:UInt32):T170 F x (-7)=some (rr x 7):=by
 have e1:((UInt64.ofInt (-7)) &&& (UInt64.ofNat 31)).toNat=25:=by decide +kernel
 have e2:((UInt64.ofNat 32) - ((UInt64.ofInt (-7)) &&& (UInt64.ofNat 31))).toNat=7:=by decide +kernel
 simp only [T170,T170c,e1,e2,rr]
 rw [UInt32.or_comm]
theorem a93_7 (F:Nat) (x:UInt32):T158 F x 7=some (rr x 7):=by
 have e1:gnn (7:Int)=some 7:=by decide +kernel
 have e2:gnn (w64 ((32:Int) - 7))=some 25:=by decide +kernel
 simp only [T158,T158c,e1,e2,rr,Option.bind_some]
theorem a94_18 (F:Nat) (x:UInt32):T170 F x (-18)=some (rr x 18):=by
 have e1:((UInt64.ofInt (-18)) &&& (UInt64.ofNat 31)).toNat=14:=by decide +kernel
 have e2:((UInt64.ofNat 32) - ((UInt64.ofInt (-18)) &&& (UInt64.ofNat 31))).toNat=18:=by decide +kernel
 simp only [T170,T170c,e1,e2,rr]
 rw [UInt32.or_comm]
theorem a93_18 (F:Nat) (x:UInt32):T158 F x 18=some (rr x 18):=by
 have e1:gnn (18:Int)=some 18:=by decide +kernel
 have e2:gnn (w64 ((32:Int) - 18))=some 14:=by decide +kernel
 simp only [T158,T158c,e1,e2,rr,Option.bind_some]
theorem a94_6 (F:Nat) (x:UInt32):T170 F x (-6)=some (rr x 6):=by
 have e1:((UInt64.ofInt (-6)) &&& (UInt64.ofNat 31)).toNat=26:=by decide +kernel
 have e2:((UInt64.ofNat 32) - ((UInt64.ofInt (-6)) &&& (UInt64.ofNat 31))).toNat=6:=by decide +kernel
 simp only [T170,T170c,e1,e2,rr]
 rw [UInt32.or_comm]
theorem a93_6 (F:Nat) (x:UInt32):T158 F x 6=some (rr x 6):=by
 have e1:gnn (6:Int)=some 6:=by decide +kernel
 have e2:gnn (w64 ((32:Int) - 6))=some 26:=by decide +kernel
 simp only [T158,T158c,e1,e2,rr,Option.bind_some]
theorem a94_11 (F:Nat) (x:UInt32):T170 F x (-11)=some (rr x 11):=by
 have e1:((UInt64.ofInt (-11)) &&& (UInt64.ofNat 31)).toNat=21:=by decide +kernel
 have e2:((UInt64.ofNat 32) - ((UInt64.ofInt (-11)) &&& (UInt64.ofNat 31))).toNat=11:=by decide +kernel
 simp only [T170,T170c,e1,e2,rr]
 rw [UInt32.or_comm]
theorem a93_11 (F:Nat) (x:UInt32):T158 F x 11=some (rr x 11):=by
 have e1:gnn (11:Int)=some 11:=by decide +kernel
 have e2:gnn (w64 ((32:Int) - 11))=some 21:=by decide +kernel
 simp only [T158,T158c,e1,e2,rr,Option.bind_some]
theorem a94_25 (F:Nat) (x:UInt32):T170 F x (-25)=some (rr x 25):=by
 have e1:((UInt64.ofInt (-25)) &&& (UInt64.ofNat 31)).toNat=7:=by decide +kernel
 have e2:((UInt64.ofNat 32) - ((UInt64.ofInt (-25)) &&& (UInt64.ofNat 31))).toNat=25:=by decide +kernel
 simp only [T170,T170c,e1,e2,rr]
 rw [UInt32.or_comm]
theorem a93_25 (F:Nat) (x:UInt32):T158 F x 25=some (rr x 25):=by
 have e1:gnn (25:Int)=some 25:=by decide +kernel
 have e2:gnn (w64 ((32:Int) - 25))=some 7:=by decide +kernel
 simp only [T158,T158c,e1,e2,rr,Option.bind_some]
theorem a94_2 (F:Nat) (x:UInt32):T170 F x (-2)=some (rr x 2):=by
 have e1:((UInt64.ofInt (-2)) &&& (UInt64.ofNat 31)).toNat=30:=by decide +kernel
 have e2:((UInt64.ofNat 32) - ((UInt64.ofInt (-2)) &&& (UInt64.ofNat 31))).toNat=2:=by decide +kernel
 simp only [T170,T170c,e1,e2,rr]
 rw [UInt32.or_comm]
theorem a93_2 (F:Nat) (x:UInt32):T158 F x 2=some (rr x 2):=by
 have e1:gnn (2:Int)=some 2:=by decide +kernel
 have e2:gnn (w64 ((32:Int) - 2))=some 30:=by decide +kernel
 simp only [T158,T158c,e1,e2,rr,Option.bind_some]
theorem a94_13 (F:Nat) (x:UInt32):T170 F x (-13)=some (rr x 13):=by
 have e1:((UInt64.ofInt (-13)) &&& (UInt64.ofNat 31)).toNat=19:=by decide +kernel
 have e2:((UInt64.ofNat 32) - ((UInt64.ofInt (-13)) &&& (UInt64.ofNat 31))).toNat=13:=by decide +kernel
 simp only [T170,T170c,e1,e2,rr]
 rw [UInt32.or_comm]
theorem a93_13 (F:Nat) (x:UInt32):T158 F x 13=some (rr x 13):=by
 have e1:gnn (13:Int)=some 13:=by decide +kernel
 have e2:gnn (w64 ((32:Int) - 13))=some 19:=by decide +kernel
 simp only [T158,T158c,e1,e2,rr,Option.bind_some]
theorem a94_22 (F:Nat) (x:UInt32):T170 F x (-22)=some (rr x 22):=by
 have e1:((UInt64.ofInt (-22)) &&& (UInt64.ofNat 31)).toNat=10:=by decide +kernel
 have e2:((UInt64.ofNat 32) - ((UInt64.ofInt (-22)) &&& (UInt64.ofNat 31))).toNat=22:=by decide +kernel
 simp only [T170,T170c,e1,e2,rr]
 rw [UInt32.or_comm]
theorem a93_22 (F:Nat) (x:UInt32):T158 F x 22=some (rr x 22):=by
 have e1:gnn (22:Int)=some 22:=by decide +kernel
 have e2:gnn (w64 ((32:Int) - 22))=some 10:=by decide +kernel
 simp only [T158,T158c,e1,e2,rr,Option.bind_some]
def wd4 (a b c d:UInt8):UInt32:=(((shl32 (a.toUInt32) ((UInt64.ofNat 24).toNat)) ||| (shl32 (b.toUInt32) ((UInt64.ofNat 16).toNat))) ||| (shl32 (c.toUInt32) ((UInt64.ofNat 8).toNat))) ||| (d.toUInt32)
def sch4 (a b c d:UInt32):UInt32:=((((rr a 17 ^^^ rr a 19) ^^^ (shr32 a ((UInt64.ofNat 10).toNat))) + b) + ((rr c 7 ^^^ rr c 18) ^^^ (shr32 c ((UInt64.ofNat 3).toNat)))) + d
theorem s91_lo (F:Nat) {p:List UInt8} (hp:p.length=64) {i:Nat} (hi:i < 16) (w:Vector UInt32 64) :
  L153x1_4 F p ((i:Nat):Int) w=some (.inl (((i + 1:Nat):Int),w.setIfInBounds i (wd4 p[4 * i] p[4 * i + 1] p[4 * i + 2] p[4 * i + 3]))):=by
 have h1:(((i:Nat):Int) < 64):=by omega
 have h2:(((i:Nat):Int) < 16):=by omega
 have e1:w64 ((4:Int) * ((i:Nat):Int))=((4 * i:Nat):Int):=by rw [w64_in (by omega) (by omega)];omega
 have e2:w64 (((4 * i:Nat):Int) + 4)=((4 * i + 4:Nat):Int):=by rw [w64_in (by omega) (by omega)];omega
 have e3:w64 (((i:Nat):Int) + 1)=((i + 1:Nat):Int):=by rw [w64_in (by omega) (by omega)];omega
 have g:gsl p ((4 * i:Nat):Int) ((4 * i + 4:Nat):Int)=some ((p.drop (4 * i)).take 4):=by
  rw [gsl_nat (by omega) (by omega),Nat.add_sub_cancel_left]
 have x0:ix ((p.drop (4 * i)).take 4) (0:Int)=some p[4 * i]:=ix_dt (k:=0) (by omega) (by omega)
 have x1:ix ((p.drop (4 * i)).take 4) (1:Int)=some p[4 * i + 1]:=ix_dt (k:=1) (by omega) (by omega)
 have x2:ix ((p.drop (4 * i)).take 4) (2:Int)=some p[4 * i + 2]:=ix_dt (k:=2) (by omega) (by omega)
 have x3:ix ((p.drop (4 * i)).take 4) (3:Int)=some p[4 * i + 3]:=ix_dt (k:=3) (by omega) (by omega)
 have n:inb 64 ((i:Nat):Int)=some i:=inb_nat (by omega)
 simp only [L153x1_4,L153x1_4c,h1,h2,decide_true,cond_true,e1,e2,e3,g,x0,x1,x2,x3,n,Option.bind_some,wd4]
theorem s85_lo (F:Nat) {p:List UInt8} (hp:p.length=64) {i:Nat} (hi:i < 16) (w:Vector UInt32 64) :
  L129_5 F p ((i:Nat):Int) w=some (.inl (((i + 1:Nat):Int),w.setIfInBounds i (wd4 p[4 * i] p[4 * i + 1] p[4 * i + 2] p[4 * i + 3]))):=by
 have h2:(((i:Nat):Int) < 16):=by omega
 have e1:w64 ((4:Int) * ((i:Nat):Int))=((4 * i:Nat):Int):=by rw [w64_in (by omega) (by omega)];omega
 have f1:w64 (((4 * i:Nat):Int) + 1)=((4 * i + 1:Nat):Int):=by rw [w64_in (by omega) (by omega)];omega
 have f2:w64 (((4 * i:Nat):Int) + 2)=((4 * i + 2:Nat):Int):=by rw [w64_in (by omega) (by omega)];omega
 have f3:w64 (((4 * i:Nat):Int) + 3)=((4 * i + 3:Nat):Int):=by rw [w64_in (by omega) (by omega)];omega
 have e3:w64 (((i:Nat):Int) + 1)=((i + 1:Nat):Int):=by rw [w64_in (by omega) (by omega)];omega
 have x0:ix p ((4 * i:Nat):Int)=some p[4 * i]:=ix_nat (by omega)
 have x1:ix p ((4 * i + 1:Nat):Int)=some p[4 * i + 1]:=ix_nat (by omega)
 have x2:ix p ((4 * i + 2:Nat):Int)=some p[4 * i + 2]:=ix_nat (by omega)
 have x3:ix p ((4 * i + 3:Nat):Int)=some p[4 * i + 3]:=ix_nat (by omega)
 have n:inb 64 ((i:Nat):Int)=some i:=inb_nat (by omega)
 simp only [L129_5,L129_5c,h2,decide_true,cond_true,e1,e3,f1,f2,f3,x0,x1,x2,x3,n,Option.bind_some,wd4]
theorem s91_hi (F:Nat) (p:List UInt8) {i:Nat} (h16:16≤i) (hi:i < 64) (w:Vector UInt32 64) :
  L153x1_4 F p ((i:Nat):Int) w=some (.inl (((i + 1:Nat):Int),w.setIfInBounds i (sch4 w[i - 2] w[i - 7] w[i - 15] w[i - 16]))):=by
 have h1:(((i:Nat):Int) < 64):=by omega
 have h2:¬ (((i:Nat):Int) < 16):=by omega
 have e3:w64 (((i:Nat):Int) + 1)=((i + 1:Nat):Int):=by rw [w64_in (by omega) (by omega)];omega
 have f1:w64 (((i:Nat):Int) - 2)=((i - 2:Nat):Int):=by rw [w64_in (by omega) (by omega)];omega
 have f2:w64 (((i:Nat):Int) - 7)=((i - 7:Nat):Int):=by rw [w64_in (by omega) (by omega)];omega
 have f3:w64 (((i:Nat):Int) - 15)=((i - 15:Nat):Int):=by rw [w64_in (by omega) (by omega)];omega
 have f4:w64 (((i:Nat):Int) - 16)=((i - 16:Nat):Int):=by rw [w64_in (by omega) (by omega)];omega
 have n:inb 64 ((i:Nat):Int)=some i:=inb_nat (by omega)
 have n1:inb 64 ((i - 2:Nat):Int)=some (i - 2):=inb_nat (by omega)
 have n2:inb 64 ((i - 7:Nat):Int)=some (i - 7):=inb_nat (by omega)
 have n3:inb 64 ((i - 15:Nat):Int)=some (i - 15):=inb_nat (by omega)
 have n4:inb 64 ((i - 16:Nat):Int)=some (i - 16):=inb_nat (by omega)
 have v1:vat w (i - 2)=some w[i - 2]:=vat_nat (by omega)
 have v2:vat w (i - 7)=some w[i - 7]:=vat_nat (by omega)
 have v3:vat w (i - 15)=some w[i - 15]:=vat_nat (by omega)
 have v4:vat w (i - 16)=some w[i - 16]:=vat_nat (by omega)
 simp only [L153x1_4,L153x1_4c,h1,h2,decide_true,decide_false,cond_true,cond_false,e3,f1,f2,f3,f4,n,n1,n2,n3,n4,v1,v2,v3,v4,a94_17,a94_19,a94_7,a94_18,Option.bind_some,sch4]
theorem s85_hi (F:Nat) {i:Nat} (h16:16≤i) (hi:i < 64) (w:Vector UInt32 64) :
  L129_6 F ((i:Nat):Int) w=some (.inl (((i + 1:Nat):Int),w.setIfInBounds i (sch4 w[i - 2] w[i - 7] w[i - 15] w[i - 16]))):=by
 have h1:(((i:Nat):Int) < 64):=by omega
 have e3:w64 (((i:Nat):Int) + 1)=((i + 1:Nat):Int):=by rw [w64_in (by omega) (by omega)];omega
 have f1:w64 (((i:Nat):Int) - 2)=((i - 2:Nat):Int):=by rw [w64_in (by omega) (by omega)];omega
 have f2:w64 (((i:Nat):Int) - 7)=((i - 7:Nat):Int):=by rw [w64_in (by omega) (by omega)];omega
 have f3:w64 (((i:Nat):Int) - 15)=((i - 15:Nat):Int):=by rw [w64_in (by omega) (by omega)];omega
 have f4:w64 (((i:Nat):Int) - 16)=((i - 16:Nat):Int):=by rw [w64_in (by omega) (by omega)];omega
 have n:inb 64 ((i:Nat):Int)=some i:=inb_nat (by omega)
 have n1:inb 64 ((i - 2:Nat):Int)=some (i - 2):=inb_nat (by omega)
 have n2:inb 64 ((i - 7:Nat):Int)=some (i - 7):=inb_nat (by omega)
 have n3:inb 64 ((i - 15:Nat):Int)=some (i - 15):=inb_nat (by omega)
 have n4:inb 64 ((i - 16:Nat):Int)=some (i - 16):=inb_nat (by omega)
 have v1:vat w (i - 2)=some w[i - 2]:=vat_nat (by omega)
 have v2:vat w (i - 7)=some w[i - 7]:=vat_nat (by omega)
 have v3:vat w (i - 15)=some w[i - 15]:=vat_nat (by omega)
 have v4:vat w (i - 16)=some w[i - 16]:=vat_nat (by omega)
 simp only [L129_6,L129_6c,h1,decide_true,cond_true,e3,f1,f2,f3,f4,n,n1,n2,n3,n4,v1,v2,v3,v4,a93_17,a93_19,a93_7,a93_18,Option.bind_some,sch4]
theorem sched {F:Nat} (hF:100 < F) {p:List UInt8} (hp:p.length=64):∃ w w0,iter (fun s:Int×Vector UInt32 64=>L153x1_4 F p s.1 s.2) F ((0:Int),(Vector.replicate 64 (0:UInt32)))=some w ∧
  iter (fun s:Int×Vector UInt32 64=>L129_5 F p s.1 s.2) F ((0:Int),(Vector.replicate 64 (0:UInt32)))=some w0∧iter (fun s:Int×Vector UInt32 64=>L129_6 F s.1 s.2) F ((16:Int),w0)=some w:=by
 obtain ⟨k,s',w0,a1,a2,a3,a4⟩:=iterP (f:=fun s:Int×Vector UInt32 64=>L153x1_4 F p s.1 s.2) (g:=fun s:Int×Vector UInt32 64=>L129_5 F p s.1 s.2)
  (fun s t=>s=t∧∃ i:Nat,s.1=i∧i≤16) (fun s r=>s=((16:Int),r)) (fun s=>16 - s.1.toNat) (by
   rintro ⟨a,w⟩ t ⟨rfl,i,hi,h16⟩
   simp only at hi
   subst hi
   by_cases h:i < 16
   ·exact .inl ⟨_,_,s91_lo F hp h w,s85_lo F hp h w,⟨rfl,i + 1,rfl,by omega⟩,by simp only [Int.toNat_natCast];omega⟩
   ·obtain rfl:i=16:=by omega
    exact .inr ⟨w,rfl,rfl⟩) F ((0:Int),(Vector.replicate 64 (0:UInt32))) ((0:Int),(Vector.replicate 64 (0:UInt32))) ⟨rfl,0,rfl,by omega⟩ (by simp only [Int.toNat_zero];omega)
 simp only [Int.toNat_zero,Nat.sub_zero] at a1
 subst a3
 obtain ⟨w,w',b1,b2,b3⟩:=iter2 (f:=fun s:Int×Vector UInt32 64=>L153x1_4 F p s.1 s.2) (g:=fun s:Int×Vector UInt32 64=>L129_6 F s.1 s.2)
  (fun s t=>s=t∧∃ i:Nat,s.1=i∧16≤i∧i≤64) (fun r r'=>r=r') (fun s=>64 - s.1.toNat) (by
   rintro ⟨a,w⟩ t ⟨rfl,i,hi,h16,h64⟩
   simp only at hi
   subst hi
   by_cases h:i < 64
   ·exact .inl ⟨_,_,s91_hi F p h16 h w,s85_hi F h16 h w,⟨rfl,i + 1,rfl,by omega,by omega⟩,by simp only [Int.toNat_natCast];omega⟩
   ·obtain rfl:i=64:=by omega
    exact .inr ⟨w,w,rfl,rfl,rfl⟩) (F - k) F ((16:Int),w0) ((16:Int),w0) ⟨rfl,16,rfl,by omega,by omega⟩ (by have:((16:Int)).toNat=16:=rfl;simp only [this];omega) (by have:((16:Int)).toNat=16:=rfl;simp only [this];omega)
 subst b3
 refine ⟨w,w0,?_,a2,b2⟩
 have:=a4 (F - k)
 rw [Nat.sub_add_cancel (by omega)] at this
 rw [this,b1]
theorem s91v_lo (F:Nat) (v:Vector UInt8 64) {i:Nat} (hi:i < 16) (w:Vector UInt32 64) :
  L153_4 F v (0,64) ((i:Nat):Int) w=some (.inl ((0,64),((i + 1:Nat):Int),w.setIfInBounds i (wd4 v[4 * i] v[4 * i + 1] v[4 * i + 2] v[4 * i + 3]))):=by
 have h1:(((i:Nat):Int) < 64):=by omega
 have h2:(((i:Nat):Int) < 16):=by omega
 have e1:w64 ((4:Int) * ((i:Nat):Int))=((4 * i:Nat):Int):=by rw [w64_in (by omega) (by omega)];omega
 have e2:w64 (((4 * i:Nat):Int) + 4)=((4 * i + 4:Nat):Int):=by rw [w64_in (by omega) (by omega)];omega
 have e3:w64 (((i:Nat):Int) + 1)=((i + 1:Nat):Int):=by rw [w64_in (by omega) (by omega)];omega
 have g:gslb 64 ((4 * i:Nat):Int) ((4 * i + 4:Nat):Int)=some (4 * i,4 * i + 4):=gslb_nat (by omega) (by omega)
 have m0:inb 4 (0:Int)=some 0:=by decide
 have m1:inb 4 (1:Int)=some 1:=by decide
 have m2:inb 4 (2:Int)=some 2:=by decide
 have m3:inb 4 (3:Int)=some 3:=by decide
 have x0:vat v (4 * i)=some v[4 * i]:=vat_nat (by omega)
 have x1:vat v (4 * i + 1)=some v[4 * i + 1]:=vat_nat (by omega)
 have x2:vat v (4 * i + 2)=some v[4 * i + 2]:=vat_nat (by omega)
 have x3:vat v (4 * i + 3)=some v[4 * i + 3]:=vat_nat (by omega)
 have n:inb 64 ((i:Nat):Int)=some i:=inb_nat (by omega)
 simp only [L153_4,L153_4c,h1,h2,decide_true,cond_true,e1,e2,e3,Nat.sub_zero,Nat.zero_add,g,Nat.add_sub_cancel_left,m0,m1,m2,m3,Nat.add_zero,x0,x1,x2,x3,n,Option.bind_some,wd4]
theorem s91v_hi (F:Nat) (v:Vector UInt8 64) {i:Nat} (h16:16≤i) (hi:i < 64) (w:Vector UInt32 64) :
  L153_4 F v (0,64) ((i:Nat):Int) w=some (.inl ((0,64),((i + 1:Nat):Int),w.setIfInBounds i (sch4 w[i - 2] w[i - 7] w[i - 15] w[i - 16]))):=by
 have h1:(((i:Nat):Int) < 64):=by omega
 have h2:¬ (((i:Nat):Int) < 16):=by omega
 have e3:w64 (((i:Nat):Int) + 1)=((i + 1:Nat):Int):=by rw [w64_in (by omega) (by omega)];omega
 have f1:w64 (((i:Nat):Int) - 2)=((i - 2:Nat):Int):=by rw [w64_in (by omega) (by omega)];omega
 have f2:w64 (((i:Nat):Int) - 7)=((i - 7:Nat):Int):=by rw [w64_in (by omega) (by omega)];omega
 have f3:w64 (((i:Nat):Int) - 15)=((i - 15:Nat):Int):=by rw [w64_in (by omega) (by omega)];omega
 have f4:w64 (((i:Nat):Int) - 16)=((i - 16:Nat):Int):=by rw [w64_in (by omega) (by omega)];omega
 have n:inb 64 ((i:Nat):Int)=some i:=inb_nat (by omega)
 have n1:inb 64 ((i - 2:Nat):Int)=some (i - 2):=inb_nat (by omega)
 have n2:inb 64 ((i - 7:Nat):Int)=some (i - 7):=inb_nat (by omega)
 have n3:inb 64 ((i - 15:Nat):Int)=some (i - 15):=inb_nat (by omega)
 have n4:inb 64 ((i - 16:Nat):Int)=some (i - 16):=inb_nat (by omega)
 have v1:vat w (i - 2)=some w[i - 2]:=vat_nat (by omega)
 have v2:vat w (i - 7)=some w[i - 7]:=vat_nat (by omega)
 have v3:vat w (i - 15)=some w[i - 15]:=vat_nat (by omega)
 have v4:vat w (i - 16)=some w[i - 16]:=vat_nat (by omega)
 simp only [L153_4,L153_4c,h1,h2,decide_true,decide_false,cond_true,cond_false,e3,f1,f2,f3,f4,n,n1,n2,n3,n4,v1,v2,v3,v4,a94_17,a94_19,a94_7,a94_18,Option.bind_some,sch4]
theorem schedv {F:Nat} (hF:100 < F) (v:Vector UInt8 64):∃ w,iter (fun s:(Nat×Nat)×Int×Vector UInt32 64=>L153_4 F v s.1 s.2.1 s.2.2) F ((0,64),(0:Int),(Vector.replicate 64 (0:UInt32)))=some w ∧
  iter (fun s:Int×Vector UInt32 64=>L153x1_4 F v.toList s.1 s.2) F ((0:Int),(Vector.replicate 64 (0:UInt32)))=some w:=by
 have hl:v.toList.length=64:=by simp
 obtain ⟨w,w',b1,b2,b3⟩:=iter2 (f:=fun s:(Nat×Nat)×Int×Vector UInt32 64=>L153_4 F v s.1 s.2.1 s.2.2) (g:=fun s:Int×Vector UInt32 64=>L153x1_4 F v.toList s.1 s.2)
  (fun s t=>s=((0,64),t.1,t.2)∧∃ i:Nat,t.1=i∧i≤64) (fun r r'=>r=r') (fun s=>64 - s.2.1.toNat) (by
   rintro s ⟨a,w⟩ ⟨rfl,i,hi,h64⟩
   simp only at hi
   subst hi
   by_cases h:i < 64
   ·by_cases h16:i < 16
    ·have g:=s91_lo F hl h16 w
     simp only [Vector.getElem_toList] at g
     exact .inl ⟨_,_,s91v_lo F v h16 w,g,⟨rfl,i + 1,rfl,by omega⟩,by simp only [Int.toNat_natCast];omega⟩
    ·exact .inl ⟨_,_,s91v_hi F v (by omega) h w,s91_hi F v.toList (by omega) h w,⟨rfl,i + 1,rfl,by omega⟩,by simp only [Int.toNat_natCast];omega⟩
   ·obtain rfl:i=64:=by omega
    exact .inr ⟨w,w,rfl,rfl,rfl⟩) F F ((0,64),(0:Int),(Vector.replicate 64 (0:UInt32))) ((0:Int),(Vector.replicate 64 (0:UInt32))) ⟨rfl,0,rfl,by omega⟩ (by simp only [Int.toNat_zero];omega) (by simp only [Int.toNat_zero];omega)
 subst b3
 exact ⟨w,b1,b2⟩
def t1 (e f g h k w:UInt32):UInt32:=(((h + ((rr e 6 ^^^ rr e 11) ^^^ rr e 25)) + ((e &&& f) ^^^ ((~~~e) &&& g))) + k) + w
def t2 (a b c:UInt32):UInt32:=((rr a 2 ^^^ rr a 13) ^^^ rr a 22) + (((a &&& b) ^^^ (a &&& c)) ^^^ (b &&& c))
theorem r91 (F:Nat) (w:Vector UInt32 64) (a b c d e f g h:UInt32) {i:Nat} (hi:i < 64) :
  L153x1_5 F w a b c d e f g h ((i:Nat):Int)=some (.inl (t1 e f g h gv2[i] w[i] + t2 a b c,a,b,c,d + t1 e f g h gv2[i] w[i],e,f,g,((i + 1:Nat):Int))):=by
 have h1:(((i:Nat):Int) < 64):=by omega
 have e3:w64 (((i:Nat):Int) + 1)=((i + 1:Nat):Int):=by rw [w64_in (by omega) (by omega)];omega
 have n:inb 64 ((i:Nat):Int)=some i:=inb_nat (by omega)
 have v:vat w i=some w[i]:=vat_nat hi
 have x:vix gv2 ((i:Nat):Int)=some gv2[i]:=vix_nat hi
 simp only [L153x1_5,L153x1_5c,h1,decide_true,cond_true,a94_6,a94_11,a94_25,a94_2,a94_13,a94_22,Option.bind_some,x,n,v,e3,t1,t2]
theorem r85 (F:Nat) (w:Vector UInt32 64) (a b c d e f g h:UInt32) {i:Nat} (hi:i < 64) :
  L129_7 F gv2 w ((i:Nat):Int) #v[a,b,c,d,e,f,g,h]=some (.inl (((i + 1:Nat):Int),#v[t1 e f g h gv2[i] w[i] + t2 a b c,a,b,c,d + t1 e f g h gv2[i] w[i],e,f,g])):=by
 have h1:(((i:Nat):Int) < 64):=by omega
 have e3:w64 (((i:Nat):Int) + 1)=((i + 1:Nat):Int):=by rw [w64_in (by omega) (by omega)];omega
 have n:inb 64 ((i:Nat):Int)=some i:=inb_nat (by omega)
 have v:vat w i=some w[i]:=vat_nat hi
 have x:vat gv2 i=some gv2[i]:=vat_nat hi
 have y0:vat #v[a,b,c,d,e,f,g,h] 0=some a:=rfl
 have y1:vat #v[a,b,c,d,e,f,g,h] 1=some b:=rfl
 have y2:vat #v[a,b,c,d,e,f,g,h] 2=some c:=rfl
 have y3:vat #v[a,b,c,d,e,f,g,h] 3=some d:=rfl
 have y4:vat #v[a,b,c,d,e,f,g,h] 4=some e:=rfl
 have y5:vat #v[a,b,c,d,e,f,g,h] 5=some f:=rfl
 have y6:vat #v[a,b,c,d,e,f,g,h] 6=some g:=rfl
 have y7:vat #v[a,b,c,d,e,f,g,h] 7=some h:=rfl
 simp only [L129_7,L129_7c,h1,decide_true,cond_true,y0,y1,y2,y3,y4,y5,y6,y7,a93_6,a93_11,a93_25,a93_2,a93_13,a93_22,Option.bind_some,x,n,v,e3,t1,t2]
abbrev O8:=UInt32×UInt32×UInt32×UInt32×UInt32×UInt32×UInt32×UInt32
abbrev O9:=UInt32×UInt32×UInt32×UInt32×UInt32×UInt32×UInt32×UInt32×Int
def v8 (z:O8):Vector UInt32 8:=#v[z.1,z.2.1,z.2.2.1,z.2.2.2.1,z.2.2.2.2.1,z.2.2.2.2.2.1,z.2.2.2.2.2.2.1,z.2.2.2.2.2.2.2]
theorem rounds {F:Nat} (hF:100 < F) (w:Vector UInt32 64) (z:O8):∃ z':O8,
  iter (fun s:O9=>L153x1_5 F w s.1 s.2.1 s.2.2.1 s.2.2.2.1 s.2.2.2.2.1 s.2.2.2.2.2.1 s.2.2.2.2.2.2.1 s.2.2.2.2.2.2.2.1 s.2.2.2.2.2.2.2.2) F (z.1,z.2.1,z.2.2.1,z.2.2.2.1,z.2.2.2.2.1,z.2.2.2.2.2.1,z.2.2.2.2.2.2.1,z.2.2.2.2.2.2.2,(0:Int))=some z' ∧
  iter (fun s:Int×Vector UInt32 8=>L129_7 F gv2 w s.1 s.2) F ((0:Int),v8 z)=some (v8 z'):=by
 obtain ⟨r,r',b1,b2,b3⟩:=iter2 (f:=fun s:O9=>L153x1_5 F w s.1 s.2.1 s.2.2.1 s.2.2.2.1 s.2.2.2.2.1 s.2.2.2.2.2.1 s.2.2.2.2.2.2.1 s.2.2.2.2.2.2.2.1 s.2.2.2.2.2.2.2.2) (g:=fun s:Int×Vector UInt32 8=>L129_7 F gv2 w s.1 s.2)
  (fun s t=>t=(s.2.2.2.2.2.2.2.2,#v[s.1,s.2.1,s.2.2.1,s.2.2.2.1,s.2.2.2.2.1,s.2.2.2.2.2.1,s.2.2.2.2.2.2.1,s.2.2.2.2.2.2.2.1])∧∃ i:Nat,s.2.2.2.2.2.2.2.2=i∧i≤64) (fun r r'=>r'=v8 r) (fun s=>64 - s.2.2.2.2.2.2.2.2.toNat) (by
   rintro ⟨a,b,c,d,e,f,g,h,j⟩ t ⟨rfl,i,hi,h64⟩
   simp only at hi
   subst hi
   by_cases hi:i < 64
   ·exact .inl ⟨_,_,r91 F w a b c d e f g h hi,r85 F w a b c d e f g h hi,⟨rfl,i + 1,rfl,by omega⟩,by simp only [Int.toNat_natCast];omega⟩
   ·obtain rfl:i=64:=by omega
    exact .inr ⟨_,_,rfl,rfl,rfl⟩) F F (z.1,z.2.1,z.2.2.1,z.2.2.2.1,z.2.2.2.2.1,z.2.2.2.2.2.1,z.2.2.2.2.2.2.1,z.2.2.2.2.2.2.2,(0:Int)) ((0:Int),v8 z) ⟨rfl,0,rfl,by omega⟩ (by simp only [Int.toNat_zero];omega) (by simp only [Int.toNat_zero];omega)
 subst b3
 exact ⟨r,b1,b2⟩
theorem last {F:Nat} (hF:100 < F) (x p:Vector UInt32 8):∃ r,iter (fun s:Int×Vector UInt32 8=>L153x1_6 F x p s.1 s.2) F ((0:Int),p)=some r∧iter (fun s:Int×Vector UInt32 8=>L129_8 F p s.1 s.2) F ((0:Int),x)=some r:=by
 obtain ⟨r,r',b1,b2,b3⟩:=iter2 (f:=fun s:Int×Vector UInt32 8=>L153x1_6 F x p s.1 s.2) (g:=fun s:Int×Vector UInt32 8=>L129_8 F p s.1 s.2)
  (fun s t=>s.1=t.1∧∃ i:Nat,s.1=i∧i≤8∧(∀ j (hj:j < 8),j < i->s.2[j]=t.2[j])∧∀ j (hj:j < 8),i≤j->t.2[j]=x[j]) (fun r r'=>r=r') (fun s=>8 - s.1.toNat) (by
   rintro ⟨a,u⟩ ⟨a',v⟩ ⟨rfl,i,hi,h8,hu,hv⟩
   simp only at hi hu hv
   subst hi
   by_cases h:i < 8
   ·have h1:(((i:Nat):Int) < 8):=by omega
    have e3:w64 (((i:Nat):Int) + 1)=((i + 1:Nat):Int):=by rw [w64_in (by omega) (by omega)];omega
    have n:inb 8 ((i:Nat):Int)=some i:=inb_nat h
    have s1:L153x1_6 F x p ((i:Nat):Int) u=some (.inl (((i + 1:Nat):Int),u.setIfInBounds i (p[i] + x[i]))):=by
     simp only [L153x1_6,L153x1_6c,h1,decide_true,cond_true,vix_nat h,n,vat_nat (v:=p) h,Option.bind_some,e3]
    have s2:L129_8 F p ((i:Nat):Int) v=some (.inl (((i + 1:Nat):Int),v.setIfInBounds i (v[i] + p[i]))):=by
     simp only [L129_8,L129_8c,h1,decide_true,cond_true,n,vat_nat (v:=p) h,vat_nat (v:=v) h,Option.bind_some,e3]
    refine .inl ⟨_,_,s1,s2,⟨rfl,i + 1,rfl,by omega,fun j hj hji=>?_,fun j hj hij=>?_⟩,by simp only [Int.toNat_natCast];omega⟩
    ·simp only [Vector.getElem_setIfInBounds]
     by_cases e:i=j
     ·subst e
      simp only [if_true]
      rw [hv i hj (Nat.le_refl _),UInt32.add_comm]
     ·rw [if_neg e,if_neg e]
      exact hu j hj (by omega)
    ·simp only [Vector.getElem_setIfInBounds]
     rw [if_neg (by omega)]
     exact hv j hj (by omega)
   ·obtain rfl:i=8:=by omega
    exact .inr ⟨u,v,rfl,rfl,Vector.ext fun j hj=>hu j hj hj⟩) F F ((0:Int),p) ((0:Int),x) ⟨rfl,0,rfl,by omega,fun j hj h0=>absurd h0 (by omega),fun j hj _=>rfl⟩ (by simp only [Int.toNat_zero];omega) (by simp only [Int.toNat_zero];omega)
 subst b3
 exact ⟨r,b1,b2⟩
theorem vec8 (v:Vector UInt32 8):v8 (v[0],v[1],v[2],v[3],v[4],v[5],v[6],v[7])=v:=by
 apply Vector.ext
 intro i hi
 match i,hi with
 | 0,_=>rfl
 | 1,_=>rfl
 | 2,_=>rfl
 | 3,_=>rfl
 | 4,_=>rfl
 | 5,_=>rfl
 | 6,_=>rfl
 | 7,_=>rfl
theorem k92 (F:Nat):T157 F=some gv2:=rfl
theorem t91 {F:Nat} (hF:100 < F) {p:List UInt8} (hp:p.length=64) (h:Vector UInt32 8):∃ r,T153x1 F p h=some r∧T129 F h p=some r:=by
 obtain ⟨w,w0,a1,a2,a3⟩:=sched hF hp
 obtain ⟨z,b1,b2⟩:=rounds hF w (h[0],h[1],h[2],h[3],h[4],h[5],h[6],h[7])
 rw [vec8] at b2
 obtain ⟨r,c1,c2⟩:=last hF (v8 z) h
 refine ⟨r,?_,?_⟩
 ·simp only [T153x1,T153x1c,a1,Option.bind_some,vat_nat (v:=h) (show 0 < 8 by omega),vat_nat (v:=h) (show 1 < 8 by omega),vat_nat (v:=h) (show 2 < 8 by omega),vat_nat (v:=h) (show 3 < 8 by omega),vat_nat (v:=h) (show 4 < 8 by omega),vat_nat (v:=h) (show 5 < 8 by omega),vat_nat (v:=h) (show 6 < 8 by omega),vat_nat (v:=h) (show 7 < 8 by omega)]
  simp only [b1,Option.bind_some]
  exact (congrArg (fun o=>Option.bind o fun z=>some z) c1)
 ·simp only [T129,T129c,k92,Option.bind_some,a2,a3,b2,c2]
theorem t91v {F:Nat} (hF:100 < F) (v:Vector UInt8 64) (h:Vector UInt32 8):T153 F (0,64) h v=T153x1 F v.toList h:=by
 obtain ⟨w,a1,a2⟩:=schedv hF v
 simp only [T153,T153c,T153x1,T153x1c,a1,a2,Option.bind_some]
 rfl
end Go.Proofs.YtpnhgldpeiogbaaGreatDoor
namespace Go.Tw
set_option linter.unusedSimpArgs false
set_option linter.unusedVariables false
def gd (x:UInt8):UInt8:=bif (x &&& 128) != 0 then (x <<< 1) ^^^ 29 else x <<< 1
def bit0 (b a:UInt8):UInt8:=bif (b &&& 1) == 1 then a else 0
def gml:Nat->UInt8->UInt8->UInt8
 | 0,_,_=>0
 | n + 1,a,b=>bit0 b a ^^^ gml n (gd a) (b >>> 1)
def gm (a b:UInt8):UInt8:=gml 8 a b
theorem allU {p:UInt8->Prop} (h:∀ i:_root_.Fin 256,p (UInt8.ofNat i.val)) (x:UInt8):p x:=by
 have:=h ⟨x.toNat,x.toNat_lt⟩
 simpa using this
theorem lo1 (b:UInt8):b &&& 1=0∨b &&& 1=1:=allU (p:=fun b=>b &&& 1=0∨b &&& 1=1) (by decide +kernel) b
theorem hi1 (b:UInt8):b &&& 128=0∨b &&& 128=128:=allU (p:=fun b=>b &&& 128=0∨b &&& 128=128) (by decide +kernel) b
theorem and_xor (a b c:UInt8):(a ^^^ b) &&& c=(a &&& c) ^^^ (b &&& c):=by
 apply UInt8.toBitVec_inj.1
 simp only [UInt8.toBitVec_and,UInt8.toBitVec_xor]
 ext i hi
 simp [Bool.and_xor_distrib_right]
theorem shr_xor (a b:UInt8):(a ^^^ b) >>> 1=(a >>> 1) ^^^ (b >>> 1):=by
 apply UInt8.toBitVec_inj.1
 simp only [UInt8.toBitVec_shiftRight,UInt8.toBitVec_xor]
 ext i hi
 simp
theorem shl_xor (a b:UInt8):(a ^^^ b) <<< 1=(a <<< 1) ^^^ (b <<< 1):=by
 apply UInt8.toBitVec_inj.1
 simp only [UInt8.toBitVec_shiftLeft,UInt8.toBitVec_xor]
 ext i hi
 simp [Bool.and_xor_distrib_left]
theorem xz (a:UInt8):a ^^^ 0=a:=by simp
theorem zx (a:UInt8):0 ^^^ a=a:=by simp
theorem xx (a:UInt8):a ^^^ a=0:=by simp
theorem gd_xor (a b:UInt8):gd (a ^^^ b)=gd a ^^^ gd b:=by
 have e1:((0:UInt8) != 0)=false:=rfl
 have e2:((128:UInt8) != 0)=true:=rfl
 have e3:((128 ^^^ 128:UInt8) != 0)=false:=rfl
 have e4:((0 ^^^ 128:UInt8) != 0)=true:=rfl
 have e5:((128 ^^^ 0:UInt8) != 0)=true:=rfl
 have e6:((0 ^^^ 0:UInt8) != 0)=false:=rfl
 unfold gd
 rw [and_xor,shl_xor]
 rcases hi1 a with ha | ha<;>rcases hi1 b with hb | hb<;>rw [ha,hb]<;>simp only [e1,e2,e3,e4,e5,e6,cond_true,cond_false]
 ·rw [UInt8.xor_assoc]
 ·rw [UInt8.xor_assoc,UInt8.xor_assoc,UInt8.xor_comm (b <<< (1:UInt8)) (29:UInt8)]
 ·have:((a <<< (1:UInt8)) ^^^ (29:UInt8)) ^^^ ((b <<< (1:UInt8)) ^^^ (29:UInt8))=((a <<< (1:UInt8)) ^^^ (b <<< (1:UInt8))) ^^^ ((29:UInt8) ^^^ 29):=by ac_rfl
  rw [this,xx,xz]
theorem bit0_xor (b c a:UInt8):bit0 (b ^^^ c) a=bit0 b a ^^^ bit0 c a:=by
 have e1:((0:UInt8) == 1)=false:=rfl
 have e2:((1:UInt8) == 1)=true:=rfl
 have e3:((1 ^^^ 1:UInt8) == 1)=false:=rfl
 have e4:((0 ^^^ 1:UInt8) == 1)=true:=rfl
 have e5:((1 ^^^ 0:UInt8) == 1)=true:=rfl
 have e6:((0 ^^^ 0:UInt8) == 1)=false:=rfl
 unfold bit0
 rw [and_xor]
 rcases lo1 b with hb | hb<;>rcases lo1 c with hc | hc<;>rw [hb,hc]<;>simp only [e1,e2,e3,e4,e5,e6,cond_true,cond_false,xx,xz,zx]
theorem bit0_add (b a c:UInt8):bit0 b (a ^^^ c)=bit0 b a ^^^ bit0 b c:=by
 unfold bit0
 cases (b &&& 1) == 1
 ·simp only [cond_false,xx]
 ·rfl
theorem gml_right:∀ (n:Nat) (a b c:UInt8),gml n a (b ^^^ c)=gml n a b ^^^ gml n a c
 | 0,a,b,c=>by simp only [gml,xx]
 | n + 1,a,b,c=>by
  simp only [gml,bit0_xor,shr_xor,gml_right n]
  ac_rfl
theorem gml_left:∀ (n:Nat) (a b c:UInt8),gml n (a ^^^ b) c=gml n a c ^^^ gml n b c
 | 0,a,b,c=>by simp only [gml,xx]
 | n + 1,a,b,c=>by
  simp only [gml,bit0_add,gd_xor,gml_left n]
  ac_rfl
theorem gm_right (a b c:UInt8):gm a (b ^^^ c)=gm a b ^^^ gm a c:=gml_right 8 a b c
theorem gm_left (a b c:UInt8):gm (a ^^^ b) c=gm a c ^^^ gm b c:=gml_left 8 a b c
def pick1 (b m:UInt8):UInt8:=bif (b &&& m) != 0 then m else 0
theorem bits8 (b:UInt8):b=pick1 b 1 ^^^ (pick1 b 2 ^^^ (pick1 b 4 ^^^ (pick1 b 8 ^^^ (pick1 b 16 ^^^ (pick1 b 32 ^^^ (pick1 b 64 ^^^ pick1 b 128)))))):=
 allU (p:=fun b=>b=pick1 b 1 ^^^ (pick1 b 2 ^^^ (pick1 b 4 ^^^ (pick1 b 8 ^^^ (pick1 b 16 ^^^ (pick1 b 32 ^^^ (pick1 b 64 ^^^ pick1 b 128))))))) (by decide +kernel) b
def Lin (f:UInt8->UInt8):Prop:=∀ x y,f (x ^^^ y)=f x ^^^ f y
theorem Lin.zero {f:UInt8->UInt8} (h:Lin f):f 0=0:=by
 have:=h 0 0
 rw [xx,xx] at this
 exact this
theorem Lin.pick {f:UInt8->UInt8} (h:Lin f) (b m:UInt8):f (pick1 b m)=bif (b &&& m) != 0 then f m else 0:=by
 unfold pick1
 cases (b &&& m) != 0
 ·exact h.zero
 ·rfl
theorem Lin.ext {f g:UInt8->UInt8} (hf:Lin f) (hg:Lin g) (h:∀ i:_root_.Fin 8,f (1 <<< UInt8.ofNat i.val)=g (1 <<< UInt8.ofNat i.val)) (x:UInt8):f x=g x:=by
 have h0:f 1=g 1:=h 0
 have h1:f 2=g 2:=h 1
 have h2:f 4=g 4:=h 2
 have h3:f 8=g 8:=h 3
 have h4:f 16=g 16:=h 4
 have h5:f 32=g 32:=h 5
 have h6:f 64=g 64:=h 6
 have h7:f 128=g 128:=h 7
 have e:=bits8 x
 generalize hb:x=b at e ⊢
 rw [e]
 simp only [hf _ _,hg _ _,hf.pick,hg.pick,h0,h1,h2,h3,h4,h5,h6,h7]
theorem gm_linR (a:UInt8):Lin (gm a):=gm_right a
theorem gm_linL (c:UInt8):Lin (fun a=>gm a c):=fun a b=>gm_left a b c
theorem gm_comm (a b:UInt8):gm a b=gm b a:=by
 refine Lin.ext (f:=gm a) (g:=fun b=>gm b a) (gm_linR a) (gm_linL a) (fun i=>?_) b
 refine Lin.ext (f:=fun a=>gm a (1 <<< UInt8.ofNat i.val)) (g:=fun a=>gm (1 <<< UInt8.ofNat i.val) a) (gm_linL _) (gm_linR _) (fun j=>?_) a
 revert i j
 decide
theorem gm_assoc (a b c:UInt8):gm (gm a b) c=gm a (gm b c):=by
 refine Lin.ext (f:=fun c=>gm (gm a b) c) (g:=fun c=>gm a (gm b c)) (gm_linR _) (fun x y=>by simp only [gm_right]) (fun i=>?_) c
 refine Lin.ext (f:=fun b=>gm (gm a b) (1 <<< UInt8.ofNat i.val)) (g:=fun b=>gm a (gm b (1 <<< UInt8.ofNat i.val))) (fun x y=>by simp only [gm_right,gm_left]) (fun x y=>by simp only [gm_right,gm_left]) (fun j=>?_) b
 refine Lin.ext (f:=fun a=>gm (gm a (1 <<< UInt8.ofNat j.val)) (1 <<< UInt8.ofNat i.val)) (g:=fun a=>gm a (gm (1 <<< UInt8.ofNat j.val) (1 <<< UInt8.ofNat i.val))) (fun x y=>by simp only [gm_left]) (fun x y=>by simp only [gm_left]) (fun k=>?_) a
 revert i j k
 decide +kernel
theorem gm_zero (a:UInt8):gm a 0=0:=(gm_linR a).zero
theorem zero_gm (a:UInt8):gm 0 a=0:=(gm_linL a).zero
theorem gm_one (a:UInt8):gm a 1=a:=by
 refine Lin.ext (f:=fun a=>gm a 1) (g:=fun a=>a) (gm_linL 1) (fun x y=>rfl) (fun i=>?_) a
 revert i
 decide
theorem one_gm (a:UInt8):gm 1 a=a:=by rw [gm_comm,gm_one]
end Go.Tw
namespace Go.Proofs.YtpnhgldpeiogbaaGreatDoor
open Go.Tw
set_option linter.unusedSimpArgs false
set_option linter.unusedVariables false
theorem w64s {n:Nat} (h:n < 1000000000):w64 (((n:Nat):Int) + 1)=((n + 1:Nat):Int):=by rw [w64_in (by omega) (by omega)];omega
theorem gml_zero:∀ (n:Nat) (a:UInt8),gml n a 0=0
 | 0,_=>rfl
 | n + 1,a=>by
  have h:bit0 0 a=0:=rfl
  have h2:(0:UInt8) >>> 1=0:=rfl
  simp only [gml,h,h2,gml_zero n,xx]
theorem shr1_lt {n:Nat} {b:UInt8} (h:b.toNat < 2 ^ (n + 1)):(b >>> 1).toNat < 2 ^ n:=by
 have:(b >>> 1).toNat=b.toNat / 2:=by
  simp [UInt8.toNat_shiftRight,Nat.shiftRight_eq_div_pow]
 rw [this,Nat.pow_succ] at *
 omega
theorem sh8 (b:UInt8):shr8 b ((UInt64.ofNat 1).toNat)=b >>> 1:=allU (p:=fun b=>shr8 b ((UInt64.ofNat 1).toNat)=b >>> 1) (by decide +kernel) b
theorem g_dbl (F:Nat) (a:UInt8):T175 F a=some (gd a):=allU (p:=fun a=>T175 F a=some (gd a)) (by intro i;revert i;show ∀ i:_root_.Fin 256,T175 0 (UInt8.ofNat i.val)=some (gd (UInt8.ofNat i.val));decide +kernel) a
theorem g_step (F:Nat) (a b c:UInt8):L169_2 F a b c=bif b != 0 then some (.inl (gd a,b >>> 1,c ^^^ bit0 b a)) else some (.inr c):=by
 simp only [L169_2,L169_2c,g_dbl,Option.bind_some,sh8]
 have e0:(b != UInt8.ofNat 0)=(b != 0):=rfl
 have e1:((b &&& UInt8.ofNat 1) == UInt8.ofNat 1)=((b &&& 1) == 1):=rfl
 rw [e0,e1]
 unfold bit0
 cases b != 0<;>cases (b &&& 1) == 1<;>simp [xz]
theorem g_loop (F:Nat):∀ (n fuel:Nat) (a b c:UInt8),b.toNat < 2 ^ n->n < fuel->iter (fun s:UInt8×UInt8×UInt8=>L169_2 F s.1 s.2.1 s.2.2) fuel (a,b,c)=some (c ^^^ gml n a b)
 | 0,fuel + 1,a,b,c,hb,hf=>by
  have:b=0:=by apply UInt8.toNat_inj.1;simp at hb;simpa using hb
  subst this
  show (L169_2 F a 0 c).bind _=_
  rw [g_step]
  simp [gml,xz]
 | n + 1,fuel + 1,a,b,c,hb,hf=>by
  show (L169_2 F a b c).bind _=_
  rw [g_step]
  cases h0:b != 0 with
  | false=>
   have:b=0:=by simpa using h0
   subst this
   simp only [cond_false,Option.bind_some,gml_zero,xz]
  | true=>
   simp only [cond_true,Option.bind_some]
   rw [g_loop F n fuel (gd a) (b >>> 1) (c ^^^ bit0 b a) (shr1_lt hb) (by omega)]
   simp only [gml,UInt8.xor_assoc]
theorem g_mul {F:Nat} (hF:20 < F) (a b:UInt8):T169 F a b=some (gm a b):=by
 have h:=g_loop F 8 F a b 0 (by have:=b.toNat_lt;simpa using this) (by omega)
 have h:iter (fun s:UInt8×UInt8×UInt8=>L169_2 F s.1 s.2.1 s.2.2) F (a,b,UInt8.ofNat 0)=some ((0:UInt8) ^^^ gml 8 a b):=h
 simp only [T169,T169c,h,Option.bind_some,zx]
 rfl
theorem inbN {n i:Nat} (h:i < n):inb n ((i:Nat):Int)=some i:=inb_nat h
theorem ofI8 {i:Nat} (h:i < 16):UInt8.ofInt ((i:Nat):Int)=UInt8.ofNat i∧UInt8.ofInt (w64 (((i:Nat):Int) * 2 ^ min ((UInt64.ofNat 4).toNat) 64))=UInt8.ofNat (16 * i):=by
 have:∀ i:_root_.Fin 16,UInt8.ofInt ((i.val:Nat):Int)=UInt8.ofNat i.val∧UInt8.ofInt (w64 (((i.val:Nat):Int) * 2 ^ min ((UInt64.ofNat 4).toNat) 64))=UInt8.ofNat (16 * i.val):=by decide +kernel
 exact this ⟨i,h⟩
theorem g_tab {F:Nat} (hF:50 < F) (c:UInt8):∃ u v:Vector UInt8 16,T178 F c=some (u,v)∧∀ (i:Nat) (h:i < 16),u[i]=gm c (UInt8.ofNat i)∧v[i]=gm c (UInt8.ofNat (16 * i)):=by
 obtain ⟨r,h1,h2⟩:=iter1 (f:=fun s:Int×Vector UInt8 16×Vector UInt8 16=>L178_2 F c s.1 s.2.1 s.2.2)
  (fun s=>∃ n:Nat,n≤16∧s.1=n∧∀ (i:Nat) (h:i < 16),i < n->s.2.1[i]=gm c (UInt8.ofNat i)∧s.2.2[i]=gm c (UInt8.ofNat (16 * i)))
  (fun r=>∀ (i:Nat) (h:i < 16),r.1[i]=gm c (UInt8.ofNat i)∧r.2[i]=gm c (UInt8.ofNat (16 * i)))
  (fun s=>(16 - s.1).toNat) (fun s ⟨n,hn,hs,hr⟩=>by
   obtain ⟨s1,s2,s3⟩:=s
   simp only at hs hr
   subst hs
   rcases Nat.lt_or_ge n 16 with hlt | hge
   ·left
    have h:((n:Nat):Int) < 16:=by omega
    have hw:w64 (((n:Nat):Int) + 1)=((n + 1:Nat):Int):=by rw [w64_in (by omega) (by omega)];omega
    obtain ⟨o1,o2⟩:=ofI8 hlt
    refine ⟨_,by simp only [L178_2,L178_2c,h,decide_true,cond_true,o1,o2,g_mul (show 20 < F by omega),Option.bind_some,inbN hlt,hw];rfl,⟨n + 1,by omega,rfl,fun i hi hin=>?_⟩,by simp only;omega⟩
    simp only [Vector.getElem_setIfInBounds]
    by_cases hin2:n=i
    ·subst hin2;simp
    ·simp only [hin2,if_false];exact hr i hi (by omega)
   ·right
    have:n=16:=by omega
    subst this
    have h:¬ (((16:Nat):Int) < 16):=by omega
    exact ⟨_,by simp only [L178_2,L178_2c,h,decide_false,cond_false];rfl,fun i hi=>hr i hi hi⟩)
  F ((0:Int),(Vector.replicate 16 (0:UInt8)),(Vector.replicate 16 (0:UInt8))) ⟨0,by omega,rfl,fun i hi h=>by omega⟩ (by simp;omega)
 exact ⟨r.1,r.2,by simp only [T178,T178c,h1,Option.bind_some],h2⟩
theorem split4 (b:UInt8):b=UInt8.ofNat (b &&& 15).toNat ^^^ UInt8.ofNat (16 * (shr8 b ((UInt64.ofNat 4).toNat)).toNat)∧(b &&& UInt8.ofNat 15).toNat < 16∧(shr8 b ((UInt64.ofNat 4).toNat)).toNat < 16:=
 allU (p:=fun b=>b=UInt8.ofNat (b &&& 15).toNat ^^^ UInt8.ofNat (16 * (shr8 b ((UInt64.ofNat 4).toNat)).toNat)∧(b &&& UInt8.ofNat 15).toNat < 16∧(shr8 b ((UInt64.ofNat 4).toNat)).toNat < 16) (by decide +kernel) b
theorem g_by (F:Nat) {c b:UInt8} {u v:Vector UInt8 16} (h:∀ (i:Nat) (h:i < 16),u[i]=gm c (UInt8.ofNat i)∧v[i]=gm c (UInt8.ofNat (16 * i))):T181 F b u v=some (gm c b):=by
 obtain ⟨h1,h2,h3⟩:=split4 b
 simp only [T181,T181c,vix_nat h2,vix_nat h3,Option.bind_some,(h _ h2).1,(h _ h3).2,← gm_right]
 congr 2
 exact h1.symm
theorem ixU {l:List UInt8} {i:Nat} (h:i < l.length):ix l ((i:Nat):Int)=some l[i]:=ix_nat h
theorem fill_loop {α:Type} {N:Nat} {f:Int×List α->Option ((Int×List α) ⊕ List α)} {g:Nat->α->α} (hN:N < 1000000)
  (hs:∀ (n:Nat) (l:List α) (h:n < l.length),l.length=N->f (((n:Nat):Int),l)=some (.inl (((n + 1:Nat):Int),l.set n (g n l[n])))) (he:∀ l:List α,l.length=N->f (((N:Nat):Int),l)=some (.inr l)) :
  ∀ (m n fuel:Nat) (l:List α),n + m=N->l.length=N->m < fuel->∃ r,iter f fuel (((n:Nat):Int),l)=some r∧r.length=N∧(∀ i (h1:i < r.length) (h2:i < l.length),i < n->r[i]=l[i])∧∀ i (h1:i < r.length) (h2:i < l.length),n≤i->r[i]=g i l[i]
 | 0,n,fuel + 1,l,hn,hl,hf=>by
  have:n=N:=by omega
  subst this
  exact ⟨l,by simp only [iter,he l hl,Option.bind_some],hl,fun _ _ _ _=>rfl,fun i h1 h2 h3=>by omega⟩
 | m + 1,n,fuel + 1,l,hn,hl,hf=>by
  obtain ⟨r,r1,r2,r3,r4⟩:=fill_loop hN hs he m (n + 1) fuel (l.set n (g n (l[n]'(by omega)))) (by omega) (by simp [hl]) (by omega)
  refine ⟨r,?_,r2,fun i h1 h2 h3=>?_,fun i h1 h2 h3=>?_⟩
  ·simp only [iter,hs n l (by omega) hl,Option.bind_some];exact r1
  ·rw [r3 i h1 (by simp;omega) (by omega)]
   rw [List.getElem_set_ne (by omega)]
  ·by_cases hi:i=n
   ·subst hi
    rw [r3 i h1 (by simp;omega) (by omega),List.getElem_set_self]
   ·rw [r4 i h1 (by simp;omega) (by omega),List.getElem_set_ne (by omega)]
theorem g_scale {F:Nat} {l:List UInt8} (hF:100 + l.length < F) (hl:l.length < 1000000) (c:UInt8):T174 F l c=some (l.map (gm c)):=by
 obtain ⟨u,v,h1,h2⟩:=g_tab (F:=F) (by omega) c
 have hm:gmake (0:UInt8) (l.length:Int) (l.length:Int)=some (List.replicate l.length 0):=by
  unfold gmake;rw [if_pos (by omega)];simp
 obtain ⟨r,r1,r2,_,r4⟩:=fill_loop (N:=l.length) (f:=fun s:Int×List UInt8=>L174_2 F l (l.length:Int) u v s.1 s.2) (g:=fun i _=>gm c (l.getD i 0)) hl
  (fun n x hx hxl=>by
   have h:((n:Nat):Int) < (l.length:Int):=by omega
   have hg:l.getD n 0=l[n]'(by omega):=by simp [show n < l.length by omega]
   simp only [L174_2,L174_2c,h,decide_true,cond_true,ixU (show n < l.length by omega),Option.bind_some,g_by F h2,inb_nat hx,w64s (show n < 1000000000 by omega),hg])
  (fun x hx=>by
   have h:¬ ((l.length:Int) < (l.length:Int)):=by omega
   simp only [L174_2,L174_2c,h,decide_false,cond_false])
  l.length 0 F (List.replicate l.length 0) (by omega) (by simp) (by omega)
 have r1:iter (fun s:Int×List UInt8=>L174_2 F l (l.length:Int) u v s.1 s.2) F ((0:Int),List.replicate l.length 0)=some r:=r1
 simp only [T174,T174c,h1,hm,r1,Option.bind_some]
 congr 1
 apply List.ext_getElem
 ·simp [r2]
 ·intro i h3 h4
  rw [r4 i h3 (by simp;omega) (by omega)]
  simp [show i < l.length by omega]
theorem g_muladd {F:Nat} {l v:List UInt8} (hF:100 + l.length < F) (hl:l.length < 1000000) (hv:v.length=l.length) (c:UInt8):T168 F l v c=some (0,List.zipWith (fun a b=>a ^^^ gm c b) l v):=by
 have hne:((l.length:Int) != (v.length:Int))=false:=by simp [hv]
 have hsc:=g_scale (F:=F) (l:=v) (by omega) (by omega) c
 obtain ⟨r,r1,r2,_,r4⟩:=fill_loop (N:=l.length) (f:=fun s:Int×List UInt8=>L168_2 F l (l.length:Int) s.1 s.2) (g:=fun i x=>x ^^^ l.getD i 0) hl
  (fun n x hx hxl=>by
   have h:((n:Nat):Int) < (l.length:Int):=by omega
   have hg:l.getD n 0=l[n]'(by omega):=by simp [show n < l.length by omega]
   simp only [L168_2,L168_2c,h,decide_true,cond_true,ixU (show n < l.length by omega),Option.bind_some,inb_nat hx,List.getElem?_eq_getElem hx,w64s (show n < 1000000000 by omega),hg])
  (fun x hx=>by
   have h:¬ ((l.length:Int) < (l.length:Int)):=by omega
   simp only [L168_2,L168_2c,h,decide_false,cond_false])
  l.length 0 F (v.map (gm c)) (by omega) (by simp [hv]) (by omega)
 have r1:iter (fun s:Int×List UInt8=>L168_2 F l (l.length:Int) s.1 s.2) F ((0:Int),v.map (gm c))=some r:=r1
 simp only [T168,T168c,hne,cond_false,hsc,r1,Option.bind_some]
 congr 2
 apply List.ext_getElem
 ·simp [r2,hv]
 ·intro i h3 h4
  rw [r4 i h3 (by simp;omega) (by omega)]
  simp [show i < l.length by omega]
  exact UInt8.xor_comm _ _
def sq7:Nat->UInt8->UInt8->UInt8
 | 0,_,c=>c
 | n + 1,a,c=>sq7 n (gm a a) (gm c (gm a a))
def gi (b:UInt8):UInt8:=sq7 7 b 1
theorem gi_ok:∀ b:UInt8,b ≠ 0->gm b (gi b)=1:=fun b h=>(allU (p:=fun b=>b=0∨gm b (gi b)=1) (by decide +kernel) b).resolve_left h
theorem gi_zero:gi 0=0:=by decide +kernel
theorem inv_loop {F:Nat} (hF:50 < F) (a:UInt8):iter (fun s:UInt8×UInt8×Int=>L152_2 F s.1 s.2.1 s.2.2) F (a,UInt8.ofNat 1,(0:Int))=some (gi a):=by
 have:∀ (n k fuel:Nat) (a c:UInt8),n + k=7->n < fuel->iter (fun s:UInt8×UInt8×Int=>L152_2 F s.1 s.2.1 s.2.2) fuel (a,c,(k:Int))=some (sq7 n a c):=by
  intro n
  induction n with
  | zero=>
   intro k fuel a c h1 h2
   obtain ⟨f,rfl⟩:∃ f,fuel=f + 1:=⟨fuel - 1,by omega⟩
   have h:¬ ((k:Int) < 7):=by omega
   exact it_out' (by simp only [L152_2,L152_2c,h,decide_false,cond_false];rfl)
  | succ n ih=>
   intro k fuel a c h1 h2
   obtain ⟨f,rfl⟩:∃ f,fuel=f + 1:=⟨fuel - 1,by omega⟩
   have h:(k:Int) < 7:=by omega
   refine (it_again' (s':=(gm a a,gm c (gm a a),((k + 1:Nat):Int))) ?_).trans (ih (k + 1) f _ _ (by omega) (by omega))
   simp only [L152_2,L152_2c,h,decide_true,cond_true,g_mul (show 20 < F by omega),Option.bind_some,w64s (show k < 1000000000 by omega)]
 exact this 7 0 F a _ rfl (by omega)
theorem g_inv {F:Nat} (hF:50 < F) (a:UInt8):∃ e:Int,T152 F a=some (gi a,e):=by
 by_cases h:a=0
 ·subst h
  have:((0:UInt8) == UInt8.ofNat 0)=true:=rfl
  exact ⟨1,by simp only [T152,T152c,this,cond_true,gi_zero];rfl⟩
 ·have:(a == UInt8.ofNat 0)=false:=by have h2:a ≠ UInt8.ofNat 0:=h;simpa using h2
  exact ⟨0,by simp only [T152,T152c,this,cond_false,inv_loop hF,Option.bind_some]⟩
def B (F:Nat) (h:Vector UInt32 8) (p:List UInt8):Vector UInt32 8:=(T129 F h p).getD h
theorem b85 {F:Nat} (hF:100 < F) {p:List UInt8} (hp:p.length=64) (h:Vector UInt32 8):T129 F h p=some (B F h p):=by
 obtain ⟨r,h1,h2⟩:=t91 hF hp h
 simp only [B,h2,Option.getD_some]
theorem b91 {F:Nat} (hF:100 < F) {p:List UInt8} (hp:p.length=64) (h:Vector UInt32 8):T153x1 F p h=some (B F h p):=by
 obtain ⟨r,h1,h2⟩:=t91 hF hp h
 simp only [B,h1,h2,Option.getD_some]
theorem b91v {F:Nat} (hF:100 < F) (v:Vector UInt8 64) (h:Vector UInt32 8):T153 F (0,64) h v=some (B F h v.toList):=by
 rw [t91v hF,b91 hF (by simp)]
def hN (F:Nat):Nat->List UInt8->Vector UInt32 8
 | 0,_=>gv0
 | k + 1,m=>B F (hN F k m) ((m.drop (64 * k)).take 64)
theorem hN_app (F:Nat) (m x:List UInt8):∀ k,64 * k≤m.length->hN F k (m ++ x)=hN F k m
 | 0,_=>rfl
 | k + 1,h=>by
  simp only [hN]
  rw [hN_app F m x k (by omega),List.drop_append_of_le_length (by omega),List.take_append_of_le_length (by simp;omega)]
structure Inv (F:Nat) (m:List UInt8) (h:Vector UInt32 8) (b:Vector UInt8 64) (n:Int):Prop where
 len:n=(m.length:Int)
 words:h=hN F (m.length / 64) m
 rest:b.toList.take (m.length % 64)=m.drop (64 * (m.length / 64))
theorem tmod64 (a:Nat):Int.tmod ((a:Nat):Int) 64=((a % 64:Nat):Int):=by
 rw [Int.tmod_eq_emod_of_nonneg (by omega)];omega
theorem lp82 {F:Nat} (hF:100 < F) (M:List UInt8):∀ (fuel k:Nat),64 * k≤M.length->(M.length - 64 * k) / 64 < fuel ->
  iter (fun s:List UInt8×Vector UInt32 8=>L123_4 F s.1 s.2) fuel (M.drop (64 * k),hN F k M)=some (M.drop (64 * (M.length / 64)),hN F (M.length / 64) M)
 | 0,k,hk,hf=>absurd hf (by omega)
 | fuel + 1,k,hk,hf=>by
  by_cases h:64≤M.length - 64 * k
  ·have h1:((64:Int)≤((M.drop (64 * k)).length:Int)):=by simp;omega
   have g1:gsl (M.drop (64 * k)) (0:Int) (64:Int)=some ((M.drop (64 * k)).take 64):=gsl_nat (a:=0) (b:=64) (by omega) (by simp;omega)
   have g2:gsl (M.drop (64 * k)) (64:Int) ((M.drop (64 * k)).length:Int)=some (M.drop (64 * (k + 1))):=by
    have:=gsl_nat (l:=M.drop (64 * k)) (a:=64) (b:=(M.drop (64 * k)).length) (by simp;omega) (Nat.le_refl _)
    refine Eq.trans this ?_
    rw [List.take_of_length_le (by simp only [List.length_drop];omega),List.drop_drop]
    congr 2
   have step:L123_4 F (M.drop (64 * k)) (hN F k M)=some (.inl (M.drop (64 * (k + 1)),hN F (k + 1) M)):=by
    simp only [L123_4,L123_4c,h1,decide_true,cond_true,g1,g2,Option.bind_some,b91 hF (show ((M.drop (64 * k)).take 64).length=64 by simp;omega),hN]
   refine (it_again (f:=fun s:List UInt8×Vector UInt32 8=>L123_4 F s.1 s.2) (s:=(M.drop (64 * k),hN F k M)) step).trans ?_
   exact lp82 hF M fuel (k + 1) (by omega) (by omega)
  ·have h1:¬ ((64:Int)≤((M.drop (64 * k)).length:Int)):=by simp;omega
   have hk2:k=M.length / 64:=by omega
   have step:L123_4 F (M.drop (64 * k)) (hN F k M)=some (.inr (M.drop (64 * k),hN F k M)):=by
    simp only [L123_4,L123_4c,h1,decide_false,cond_false]
   refine (it_out (f:=fun s:List UInt8×Vector UInt32 8=>L123_4 F s.1 s.2) (s:=(M.drop (64 * k),hN F k M)) step).trans ?_
   rw [← hk2]
theorem tail82 {F:Nat} (hF:100 < F) (M:List UInt8) (hM:M.length < F) (b:Vector UInt8 64) {k:Nat} (hk:64 * k≤M.length) :
  iter (fun s:List UInt8×Vector UInt32 8=>L123_4 F s.1 s.2) F (M.drop (64 * k),hN F k M)=some (M.drop (64 * (M.length / 64)),hN F (M.length / 64) M) ∧
  (vspl b 0 (M.drop (64 * (M.length / 64))) (M.drop (64 * (M.length / 64))).length).toList.take (M.length % 64)=M.drop (64 * (M.length / 64)):=by
 refine ⟨lp82 hF M F k hk (by omega),?_⟩
 have hl:(M.drop (64 * (M.length / 64))).length=M.length % 64:=by simp;omega
 rw [vspl_toList (by omega) (Nat.le_refl _)]
 simp only [splice,List.take_zero,List.nil_append,List.take_length]
 rw [← hl,List.take_append_of_le_length (Nat.le_refl _),List.take_length]
theorem t82 {F:Nat} {m x:List UInt8} {h:Vector UInt32 8} {b:Vector UInt8 64} {n:Int} (hF:100 + m.length + x.length < F) (hb:m.length + x.length < 1000000000) (hI:Inv F m h b n) :
  ∃ h' b' n',T123 F x h b n=some (h',b',n')∧Inv F (m ++ x) h' b' n':=by
 obtain ⟨rfl,rfl,hr⟩:=hI
 have wn:w64 ((m.length:Int) + (x.length:Int))=((m ++ x).length:Int):=by rw [w64_in (by omega) (by omega)];simp
 have g0:gslb 64 (0:Int) ((64:Nat):Int)=some (0,64):=gslb_nat (a:=0) (by omega) (by omega)
 have hlen:(m ++ x).length=m.length + x.length:=by simp
 by_cases hu:m.length % 64=0
 ·have d:¬ ((0:Int) < ((m.length % 64:Nat):Int)):=by omega
  have s3:L123_3 F x ((m.length % 64:Nat):Int) false (hN F (m.length / 64) m) b=some (.inl (x,hN F (m.length / 64) m,b)):=by
   simp only [L123_3,L123_3c,cond_false]
  obtain ⟨q1,q2⟩:=tail82 (F:=F) (by omega) (m ++ x) (by omega) b (k:=m.length / 64) (by omega)
  have e1:(m ++ x).drop (64 * (m.length / 64))=x:=by
   rw [show 64 * (m.length / 64)=m.length by omega];simp
  rw [e1,hN_app F m x _ (by omega)] at q1
  have hmin:Nat.min ((m ++ x).drop (64 * ((m ++ x).length / 64))).length (64 - 0)=((m ++ x).drop (64 * ((m ++ x).length / 64))).length:=Nat.min_eq_left (by simp;omega)
  refine ⟨hN F ((m ++ x).length / 64) (m ++ x),vspl b 0 ((m ++ x).drop (64 * ((m ++ x).length / 64))) ((m ++ x).drop (64 * ((m ++ x).length / 64))).length,((m ++ x).length:Int),?_,rfl,rfl,q2⟩
  simp only [T123,T123c,tmod64,d,decide_false,s3,Option.bind_some,elimS,q1,g0,hmin,wn]
 ·have d:((0:Int) < ((m.length % 64:Nat):Int)):=by omega
  have g1:gslb 64 ((m.length % 64:Nat):Int) ((64:Nat):Int)=some (m.length % 64,64):=gslb_nat (by omega) (by omega)
  by_cases hc:x.length < 64 - m.length % 64
  ·have hmin:Nat.min x.length (64 - m.length % 64)=x.length:=Nat.min_eq_left (by omega)
   have g2:gsl x (x.length:Int) (x.length:Int)=some []:=by
    rw [gsl_nat (Nat.le_refl _) (Nat.le_refl _)];simp
   have w:w64 (((m.length % 64:Nat):Int) + (x.length:Int))=((m.length % 64 + x.length:Nat):Int):=by rw [w64_in (by omega) (by omega)];omega
   have d2:(((m.length % 64 + x.length:Nat):Int) < 64):=by omega
   have s3:L123_3 F x ((m.length % 64:Nat):Int) true (hN F (m.length / 64) m) b=some (.inr (vspl b (m.length % 64) x x.length)):=by
    simp only [L123_3,L123_3c,cond_true,g1,Option.bind_some,hmin,g2,w,d2,decide_true]
   refine ⟨hN F (m.length / 64) m,vspl b (m.length % 64) x x.length,((m ++ x).length:Int),?_,rfl,?_,?_⟩
   ·simp only [T123,T123c,tmod64,d,decide_true,s3,Option.bind_some,elimS,wn]
   ·rw [hlen,show (m.length + x.length) / 64=m.length / 64 by omega,hN_app F m x _ (by omega)]
   ·rw [hlen,show (m.length + x.length) / 64=m.length / 64 by omega,show (m.length + x.length) % 64=m.length % 64 + x.length by omega,vspl_toList (by omega) (Nat.le_refl _)]
    simp only [splice,List.take_length]
    rw [hr,List.drop_append_of_le_length (by omega)]
    rw [List.take_append_of_le_length (by simp;omega),List.take_of_length_le (by simp;omega)]
  ·have hmin:Nat.min x.length (64 - m.length % 64)=64 - m.length % 64:=Nat.min_eq_right (by omega)
   have g2:gsl x ((64 - m.length % 64:Nat):Int) (x.length:Int)=some (x.drop (64 - m.length % 64)):=by
    rw [gsl_nat (by omega) (Nat.le_refl _),List.take_of_length_le (by simp)]
   have w:w64 (((m.length % 64:Nat):Int) + ((64 - m.length % 64:Nat):Int))=64:=by rw [w64_in (by omega) (by omega)];omega
   have d2:¬ ((64:Int) < 64):=by omega
   have hbl:(vspl b (m.length % 64) x (64 - m.length % 64)).toList=((m ++ x).drop (64 * (m.length / 64))).take 64:=by
    rw [vspl_toList (by omega) (by omega)]
    simp only [splice]
    have hz:b.toList.drop (m.length % 64 + (64 - m.length % 64))=[]:=List.drop_of_length_le (by rw [Vector.length_toList];omega)
    have hdl:(m.drop (64 * (m.length / 64))).length=m.length % 64:=by rw [List.length_drop];omega
    rw [hr,hz,List.append_nil,List.drop_append_of_le_length (by omega),List.take_append,List.take_of_length_le (l:=m.drop (64 * (m.length / 64))) (by omega),hdl]
   have s3:L123_3 F x ((m.length % 64:Nat):Int) true (hN F (m.length / 64) m) b=some (.inl (x.drop (64 - m.length % 64),hN F (m.length / 64 + 1) (m ++ x),vspl b (m.length % 64) x (64 - m.length % 64))):=by
    simp only [L123_3,L123_3c,cond_true,g1,Option.bind_some,hmin,g2,w,d2,decide_false,cond_false,g0,b91v (show 100 < F by omega),hbl,hN,hN_app F m x (m.length / 64) (by omega)]
   obtain ⟨q1,q2⟩:=tail82 (F:=F) (by omega) (m ++ x) (by omega) (vspl b (m.length % 64) x (64 - m.length % 64)) (k:=m.length / 64 + 1) (by omega)
   have e1:(m ++ x).drop (64 * (m.length / 64 + 1))=x.drop (64 - m.length % 64):=by
    rw [List.drop_append,List.drop_of_length_le (by omega),List.nil_append]
    congr 1;omega
   rw [e1] at q1
   have hmin2:Nat.min ((m ++ x).drop (64 * ((m ++ x).length / 64))).length (64 - 0)=((m ++ x).drop (64 * ((m ++ x).length / 64))).length:=Nat.min_eq_left (by simp;omega)
   refine ⟨hN F ((m ++ x).length / 64) (m ++ x),vspl (vspl b (m.length % 64) x (64 - m.length % 64)) 0 ((m ++ x).drop (64 * ((m ++ x).length / 64))) ((m ++ x).drop (64 * ((m ++ x).length / 64))).length,((m ++ x).length:Int),?_,rfl,rfl,q2⟩
   simp only [T123,T123c,tmod64,d,decide_true,s3,Option.bind_some,elimS,q1,g0,hmin2,wn]
theorem gapp_ok {α:Type} {xs ys:List α} (h:xs.length + ys.length≤1099511627776):gapp xs ys=some (xs ++ ys):=by unfold gapp;rw [if_pos h]
theorem padz {F:Nat} {m:List UInt8} (hF:300 < F) (hb:m.length < 1000000000) (h:Vector UInt32 8) (b:Vector UInt8 64):∃ p:List UInt8,p.length≤64∧1≤p.length∧(m.length + p.length) % 64=56 ∧
  iter (fun s:List UInt8=>L124_4 F (h,b,(m.length:Int),()) s) F [(UInt8.ofNat 128)]=some p∧iter (fun s:List UInt8=>L128_3 F s) F (m ++ [(UInt8.ofNat 128)])=some (m ++ p):=by
 obtain ⟨r,r',b1,b2,b3,b4,b5⟩:=iter2 (f:=fun s:List UInt8=>L124_4 F (h,b,(m.length:Int),()) s) (g:=fun s:List UInt8=>L128_3 F s)
  (fun s t=>t=m ++ s∧1≤s.length∧s.length≤(119 - m.length % 64) % 64 + 1) (fun r r'=>r'=m ++ r∧(1≤r.length∧r.length≤64)∧(m.length + r.length) % 64=56) (fun s=>65 - s.length) (by
   rintro s t ⟨rfl,h1,h2⟩
   have w:w64 ((m.length:Int) + (s.length:Int))=((m.length + s.length:Nat):Int):=by rw [w64_in (by omega) (by omega)];omega
   have hl:((m ++ s).length:Int)=((m.length + s.length:Nat):Int):=by simp
   by_cases hc:(m.length + s.length) % 64=56
   ·have e:((((m.length + s.length) % 64:Nat):Int) != 56)=false:=by rw [hc];rfl
    refine .inr ⟨s,m ++ s,?_,?_,rfl,⟨h1,by omega⟩,hc⟩
    ·simp only [L124_4,L124_4c,w,tmod64,e,cond_false]
    ·simp only [L128_3,L128_3c,hl,tmod64,e,cond_false]
   ·have e:((((m.length + s.length) % 64:Nat):Int) != 56)=true:=by rw [bne_iff_ne];omega
    refine .inl ⟨s ++ [UInt8.ofNat 0],m ++ s ++ [UInt8.ofNat 0],?_,?_,⟨by simp,by simp,?_⟩,?_⟩
    ·simp only [L124_4,L124_4c,w,tmod64,e,cond_true,gapp_ok (show s.length + [UInt8.ofNat 0].length≤1099511627776 by simp;omega),Option.bind_some]
    ·simp only [L128_3,L128_3c,hl,tmod64,e,cond_true,gapp_ok (show (m ++ s).length + [UInt8.ofNat 0].length≤1099511627776 by simp;omega),Option.bind_some]
    ·simp only [List.length_append,List.length_cons,List.length_nil];omega
    ·simp only [List.length_append,List.length_cons,List.length_nil];omega) F F [(UInt8.ofNat 128)] (m ++ [(UInt8.ofNat 128)]) ⟨rfl,by simp,by simp⟩ (by simp;omega) (by simp;omega)
 subst b3
 exact ⟨r,b4.2,b4.1,b5,b1,b2⟩
theorem padc {F:Nat} {m p:List UInt8} (hF:300 < F) (hb:m.length < 1000000000) (hp:p.length≤64) (c:UInt64):∃ q:List UInt8,q.length=p.length + 8 ∧
  iter (fun s:Int×List UInt8=>L124_5 F c s.1 s.2) F ((56:Int),p)=some q∧iter (fun s:Int×List UInt8=>L128_4 F c s.1 s.2) F ((7:Int),m ++ p)=some (m ++ q):=by
 obtain ⟨r,r',b1,b2,b3,b4⟩:=iter2 (f:=fun s:Int×List UInt8=>L124_5 F c s.1 s.2) (g:=fun s:Int×List UInt8=>L128_4 F c s.1 s.2)
  (fun s t=>∃ i:Nat,i≤8∧s.1=8 * (i:Int) - 8∧t.1=(i:Int) - 1∧t.2=m ++ s.2∧s.2.length + i=p.length + 8) (fun r r'=>r'=m ++ r∧r.length=p.length + 8) (fun s=>(s.1 + 8).toNat) (by
   rintro ⟨a,s⟩ ⟨a',t⟩ ⟨i,h8,h1,h2,h3,h4⟩
   simp only at h1 h2 h3 h4
   subst h1 h2 h3
   cases i with
   | zero=>
    refine .inr ⟨s,m ++ s,?_,?_,rfl,by omega⟩
    ·have d:¬ ((0:Int)≤8 * ((0:Nat):Int) - 8):=by omega
     simp only [L124_5,L124_5c,d,decide_false,cond_false]
    ·have d:¬ ((0:Int)≤((0:Nat):Int) - 1):=by omega
     simp only [L128_4,L128_4c,d,decide_false,cond_false]
   | succ i=>
    have e1:8 * ((i + 1:Nat):Int) - 8=((8 * i:Nat):Int):=by omega
    have e2:((i + 1:Nat):Int) - 1=((i:Nat):Int):=by omega
    rw [e1,e2]
    have d1:((0:Int)≤((8 * i:Nat):Int)):=by omega
    have d2:((0:Int)≤((i:Nat):Int)):=by omega
    have n1:gnn ((8 * i:Nat):Int)=some (8 * i):=by unfold gnn;rw [if_pos d1];simp only [Int.toNat_natCast]
    have w0:w64 ((8:Int) * ((i:Nat):Int))=((8 * i:Nat):Int):=by rw [w64_in (by omega) (by omega)];omega
    have w1:w64 (((8 * i:Nat):Int) - 8)=8 * (i:Int) - 8:=by rw [w64_in (by omega) (by omega)];omega
    have w2:w64 (((i:Nat):Int) - 1)=(i:Int) - 1:=by rw [w64_in (by omega) (by omega)]
    refine .inl ⟨(8 * (i:Int) - 8,s ++ [(shr64 c (8 * i)).toUInt8]),((i:Int) - 1,m ++ s ++ [(shr64 c (8 * i)).toUInt8]),?_,?_,⟨i,by omega,rfl,rfl,by simp,by simp;omega⟩,?_⟩
    ·simp only [L124_5,L124_5c,d1,decide_true,cond_true,n1,Option.bind_some,gapp_ok (show s.length + [(shr64 c (8 * i)).toUInt8].length≤1099511627776 by simp;omega),w1]
    ·simp only [L128_4,L128_4c,d2,decide_true,cond_true,w0,n1,Option.bind_some,gapp_ok (show (m ++ s).length + [(shr64 c (8 * i)).toUInt8].length≤1099511627776 by simp;omega),w2]
    ·simp only;omega) F F ((56:Int),p) ((7:Int),m ++ p) ⟨8,by omega,by omega,by omega,rfl,rfl⟩ (by simp only;omega) (by simp only;omega)
 subst b3
 exact ⟨r,b4,b1,b2⟩
theorem outs {F:Nat} (hF:300 < F) (h:Vector UInt32 8):∃ d:List UInt8,d.length=32∧iter (fun s:Int×List UInt8=>L124_6 F h s.1 s.2) F ((0:Int),([]:List UInt8))=some d∧iter (fun s:Int×List UInt8=>L89_4 F h s.1 s.2) F ((0:Int),([]:List UInt8))=some d:=by
 obtain ⟨r,r',b1,b2,b3,b4⟩:=iter2 (f:=fun s:Int×List UInt8=>L124_6 F h s.1 s.2) (g:=fun s:Int×List UInt8=>L89_4 F h s.1 s.2)
  (fun s t=>s=t∧∃ i:Nat,s.1=i∧i≤8∧s.2.length=4 * i) (fun r r'=>r'=r∧r.length=32) (fun s=>8 - s.1.toNat) (by
   rintro ⟨a,s⟩ t ⟨rfl,i,hi,h8,hl⟩
   simp only at hi hl
   subst hi
   by_cases hlt:i < 8
   ·have h1:(((i:Nat):Int) < 8):=by omega
    have e3:w64 (((i:Nat):Int) + 1)=((i + 1:Nat):Int):=by rw [w64_in (by omega) (by omega)];omega
    have n:inb 8 ((i:Nat):Int)=some i:=inb_nat hlt
    have ga:gapp s [((shr32 h[i] ((UInt64.ofNat 24).toNat)).toUInt8),((shr32 h[i] ((UInt64.ofNat 16).toNat)).toUInt8),((shr32 h[i] ((UInt64.ofNat 8).toNat)).toUInt8),(h[i].toUInt8)]=some (s ++ [((shr32 h[i] ((UInt64.ofNat 24).toNat)).toUInt8),((shr32 h[i] ((UInt64.ofNat 16).toNat)).toUInt8),((shr32 h[i] ((UInt64.ofNat 8).toNat)).toUInt8),(h[i].toUInt8)]):=gapp_ok (by simp [hl];omega)
    refine .inl ⟨(((i + 1:Nat):Int),s ++ [((shr32 h[i] ((UInt64.ofNat 24).toNat)).toUInt8),((shr32 h[i] ((UInt64.ofNat 16).toNat)).toUInt8),((shr32 h[i] ((UInt64.ofNat 8).toNat)).toUInt8),(h[i].toUInt8)]),(((i + 1:Nat):Int),s ++ [((shr32 h[i] ((UInt64.ofNat 24).toNat)).toUInt8),((shr32 h[i] ((UInt64.ofNat 16).toNat)).toUInt8),((shr32 h[i] ((UInt64.ofNat 8).toNat)).toUInt8),(h[i].toUInt8)]),?_,?_,⟨rfl,i + 1,rfl,by omega,?_⟩,by simp only [Int.toNat_natCast];omega⟩
    ·simp only [L124_6,L124_6c,h1,decide_true,cond_true,vix_nat (v:=h) hlt,Option.bind_some,ga,e3]
    ·simp only [L89_4,L89_4c,h1,decide_true,cond_true,n,vat_nat (v:=h) hlt,Option.bind_some,ga,e3]
    ·simp [hl];omega
   ·obtain rfl:i=8:=by omega
    exact .inr ⟨s,s,rfl,rfl,rfl,hl⟩) F F ((0:Int),([]:List UInt8)) ((0:Int),([]:List UInt8)) ⟨rfl,0,rfl,by omega,rfl⟩ (by simp only [Int.toNat_zero];omega) (by simp only [Int.toNat_zero];omega)
 subst b3
 exact ⟨r',b4,b1,b2⟩
theorem lp68 {F:Nat} (hF:100 < F) {M:List UInt8} {K:Nat} (hM:M.length=64 * K) (hb:M.length < 2000000000):∀ (j fuel k:Nat),k + j=K->j < fuel ->
  iter (fun s:Int×Vector UInt32 8=>L89_3 F M s.1 s.2) fuel (((64 * k:Nat):Int),hN F k M)=some (hN F K M)
 | j,0,k,hk,hf=>absurd hf (by omega)
 | 0,fuel + 1,k,hk,hf=>by
  have h1:¬ (((64 * k:Nat):Int) < (M.length:Int)):=by omega
  obtain rfl:k=K:=by omega
  have step:L89_3 F M ((64 * k:Nat):Int) (hN F k M)=some (.inr (hN F k M)):=by
   simp only [L89_3,L89_3c,h1,decide_false,cond_false]
  exact it_out (f:=fun s:Int×Vector UInt32 8=>L89_3 F M s.1 s.2) (s:=(((64 * k:Nat):Int),hN F k M)) step
 | j + 1,fuel + 1,k,hk,hf=>by
  have h1:(((64 * k:Nat):Int) < (M.length:Int)):=by omega
  have w:w64 (((64 * k:Nat):Int) + 64)=((64 * (k + 1):Nat):Int):=by rw [w64_in (by omega) (by omega)];omega
  have g:gslb M.length ((64 * k:Nat):Int) ((64 * (k + 1):Nat):Int)=some (64 * k,64 * (k + 1)):=gslb_nat (by omega) (by omega)
  have e:64 * (k + 1) - 64 * k=64:=by omega
  have step:L89_3 F M ((64 * k:Nat):Int) (hN F k M)=some (.inl (((64 * (k + 1):Nat):Int),hN F (k + 1) M)):=by
   simp only [L89_3,L89_3c,h1,decide_true,cond_true,w,g,Option.bind_some,e,b85 hF (show ((M.drop (64 * k)).take 64).length=64 by simp;omega),hN]
  refine (it_again (f:=fun s:Int×Vector UInt32 8=>L89_3 F M s.1 s.2) (s:=(((64 * k:Nat):Int),hN F k M)) step).trans ?_
  exact lp68 hF hM hb j fuel (k + 1) (by omega) (by omega)
theorem sum_eq {F:Nat} {m:List UInt8} {h:Vector UInt32 8} {b:Vector UInt8 64} {n:Int} (hF:400 + m.length < F) (hb:m.length < 100000000) (hI:Inv F m h b n) :
  ∃ d,T124 F (h,b,n,())=some d∧T89 F m=some d∧d.length=32:=by
 have hn:=hI.len
 subst hn
 obtain ⟨p,p1,p2,p3,p4,p5⟩:=padz (F:=F) (m:=m) (by omega) (by omega) h b
 obtain ⟨q,q1,q2,q3⟩:=padc (F:=F) (m:=m) (p:=p) (by omega) (by omega) p1 ((UInt64.ofInt (m.length:Int)) * (UInt64.ofNat 8))
 obtain ⟨h',b',n',t1,t2⟩:=t82 (x:=q) (by omega) (by omega) hI
 obtain ⟨d,d1,d2,d3⟩:=outs (F:=F) (by omega) h'
 have g0:gmake (0:UInt8) (0:Int) (32:Int)=some []:=by decide +kernel
 have hl:(m ++ q).length=m.length + q.length:=by simp
 have hK:(m ++ q).length=64 * ((m ++ q).length / 64):=by omega
 have l:=lp68 (F:=F) (by omega) hK (by omega) ((m ++ q).length / 64) F 0 (by omega) (by omega)
 rw [← t2.words] at l
 refine ⟨d,?_,?_,d1⟩
 ·simp only [T124,T124c,p4,Option.bind_some,q2,t1,g0,d2]
 ·have ga:gapp ([]:List UInt8) m=some m:=by rw [gapp_ok (by simp;omega)];rfl
  have gb:gapp m [UInt8.ofNat 128]=some (m ++ [UInt8.ofNat 128]):=gapp_ok (by simp;omega)
  have h84:T128 F m=some (m ++ q):=by
   simp only [T128,T128c,ga,gb,Option.bind_some,p5,q3]
  simp only [T89,T89c,h84,Option.bind_some]
  refine Eq.trans (congrArg (fun o=>Option.bind o _) l) ?_
  simp only [Option.bind_some,d3]
theorem inv0 (F:Nat):Inv F [] gv0 (Vector.replicate 64 (0:UInt8)) 0:=⟨rfl,rfl,rfl⟩
theorem t79 {F:Nat} {ls:List (List UInt8)} (hF:400 + ls.flatten.length + ls.length < F) (hb:ls.flatten.length < 100000000) (hl:ls.length < 1000):∃ d,T126 F ls=some d∧T89 F ls.flatten=some d∧d.length=32:=by
 obtain ⟨r,b1,b2⟩:=iter1 (f:=fun s:Int×Vector UInt32 8×Vector UInt8 64×Int=>L126_2 F ls (ls.length:Int) s.1 s.2.1 s.2.2.1 s.2.2.2)
  (fun s=>∃ i:Nat,s.1=i∧i≤ls.length∧Inv F (ls.take i).flatten s.2.1 s.2.2.1 s.2.2.2) (fun r=>Inv F ls.flatten r.1 r.2.1 r.2.2) (fun s=>ls.length - s.1.toNat) (by
   rintro ⟨a,h,b,n⟩ ⟨i,hi,hil,hI⟩
   simp only at hi hI
   subst hi
   by_cases hlt:i < ls.length
   ·have h1:(((i:Nat):Int) < (ls.length:Int)):=by omega
    have e3:w64 (((i:Nat):Int) + 1)=((i + 1:Nat):Int):=by rw [w64_in (by omega) (by omega)];omega
    have hs:(ls.take (i + 1)).flatten=(ls.take i).flatten ++ ls[i]:=by
     rw [List.take_succ_eq_append_getElem hlt,List.flatten_append];simp
    have hle:(ls.take (i + 1)).flatten.length≤ls.flatten.length:=by
     conv=>rhs;rw [← List.take_append_drop (i + 1) ls,List.flatten_append,List.length_append]
     omega
    rw [hs,List.length_append] at hle
    have gs:gstr ls[i]=some ls[i]:=by unfold gstr;rw [if_pos (by omega)]
    obtain ⟨h',b',n',t1,t2⟩:=t82 (x:=ls[i]) (by omega) (by omega) hI
    refine .inl ⟨(((i + 1:Nat):Int),h',b',n'),?_,⟨i + 1,rfl,by omega,?_⟩,by simp only [Int.toNat_natCast];omega⟩
    ·simp only [L126_2,L126_2c,h1,decide_true,cond_true,ix_nat hlt,Option.bind_some,gs,t1,e3]
    ·rw [hs];exact t2
   ·obtain rfl:i=ls.length:=by omega
    have h1:¬ (((ls.length:Nat):Int) < (ls.length:Int)):=by omega
    rw [List.take_length] at hI
    refine .inr ⟨(h,b,n),?_,hI⟩
    simp only [L126_2,L126_2c,h1,decide_false,cond_false]) F ((0:Int),gv0,Vector.replicate 64 (0:UInt8),(0:Int)) ⟨0,rfl,by omega,inv0 F⟩ (by simp only [Int.toNat_zero];omega)
 obtain ⟨d,d1,d2,d3⟩:=sum_eq (by omega) hb b2
 refine ⟨d,?_,d2,d3⟩
 simp only [T126,T126c,T122,T122c,Option.bind_some,b1,d1]
theorem iter_mono {σ ρ:Type} {f:σ->Option (σ ⊕ ρ)}:∀ {n m:Nat} {s:σ} {r:ρ},iter f n s=some r->n≤m->iter f m s=some r
 | 0,m,s,r,h,_=>by simp [iter] at h
 | n + 1,m,s,r,h,hm=>by
  obtain ⟨m,rfl⟩:∃ k,m=k + 1:=⟨m - 1,by omega⟩
  simp only [iter] at h ⊢
  cases hf:f s with
  | none=>rw [hf] at h;cases h
  | some z=>
   rw [hf] at h
   cases z with
   | inl s'=>exact iter_mono (f:=f) h (by omega)
   | inr r'=>exact h
def sh (F:Nat) (x:List UInt8):List UInt8:=(T89 F x).getD []
theorem sh_some {F:Nat} {x:List UInt8} (hF:410 + x.length < F) (hb:x.length < 1000000):T89 F x=some (sh F x)∧(sh F x).length=32:=by
 obtain ⟨d,_,d2,d3⟩:=t79 (F:=F) (ls:=[x]) (by simp;omega) (by simp;omega) (by simp)
 rw [List.flatten_singleton] at d2
 simp [sh,d2,d3]
theorem t_sum {F:Nat} {x:List UInt8} (hF:410 + x.length < F) (hb:x.length < 1000000):T85 F x=some (sh F x):=by
 obtain ⟨h,b,n,a1,a2⟩:=t82 (F:=F) (m:=[]) (x:=x) (by simp;omega) (by simp;omega) (inv0 F)
 rw [List.nil_append] at a2
 obtain ⟨d,d1,d2,d3⟩:=sum_eq (by omega) (by omega) a2
 simp only [T85,T85c,T122,T122c,Option.bind_some,a1,d1]
 simp [sh,d2]
theorem t_leaf {F:Nat} {x:List UInt8} (hF:420 + x.length < F) (hb:x.length < 1000000):T121 F x=some (sh F (0 :: x)):=by
 obtain ⟨h0,b0,n0,c1,c2⟩:=t82 (F:=F) (m:=[]) (x:=[0]) (by simp;omega) (by simp) (inv0 F)
 obtain ⟨h,b,n,a1,a2⟩:=t82 (F:=F) (x:=x) (by simp;omega) (by simp;omega) c2
 obtain ⟨d,d1,d2,d3⟩:=sum_eq (by simp;omega) (by simp;omega) a2
 have e:[(UInt8.ofNat 0)]=[(0:UInt8)]:=rfl
 simp only [T121,T121c,T122,T122c,Option.bind_some,e,c1,a1,d1]
 have:[] ++ [(0:UInt8)] ++ x=0 :: x:=rfl
 rw [this] at d2
 simp [sh,d2]
theorem t_node {F:Nat} {x y:List UInt8} (hF:420 + x.length + y.length < F) (hb:x.length + y.length < 1000000):T87 F x y=some (sh F (1 :: (x ++ y))):=by
 obtain ⟨d,d1,d2,d3⟩:=t79 (F:=F) (ls:=[[1],x,y]) (by simp;omega) (by simp;omega) (by simp)
 simp only [T87,T87c,d1,Option.bind_some]
 have:[[1],x,y].flatten=1 :: (x ++ y):=by simp
 rw [this] at d2
 simp [sh,d2]
def sp (n:Nat):Nat:=((T86 0 (n:Int)).getD 0).toNat
theorem sp_all:∀ n:Fin 140,2≤n.val->T86 0 (n.val:Int)=some ((sp n.val:Nat):Int)∧1≤sp n.val∧sp n.val < n.val:=by decide +kernel
theorem sp_at {n:Nat} (h1:2≤n) (h2:n < 140) (F:Nat):T86 F (n:Int)=some ((sp n:Nat):Int)∧1≤sp n∧sp n < n:=sp_all ⟨n,h2⟩ h1
def rt (F:Nat):Nat->List (List UInt8)->List UInt8
 | 0,_=>[]
 | g + 1,l=>if l.length=0 then sh F [] else if l.length=1 then l.headD [] else sh F (1 :: (rt F g (l.take (sp l.length)) ++ rt F g (l.drop (sp l.length))))
theorem rt_len {F:Nat} (hF:2000 < F):∀ (g:Nat) (l:List (List UInt8)),l.length≤g->l.length < 140->(∀ x ∈ l,x.length=32)->l.length=0∧g=0∨(rt F g l).length=32
 | 0,l,hg,hl,h=>.inl ⟨by omega,rfl⟩
 | g + 1,l,hg,hl,h=>by
  refine .inr ?_
  unfold rt
  split
  ·exact (sh_some (by simp;omega) (by simp)).2
  ·split
   ·cases l with
    | nil=>simp at *
    | cons x l=>exact h x (by simp)
   ·obtain ⟨_,h1,h2⟩:=sp_at (n:=l.length) (by omega) hl F
    have ha:=rt_len hF g (l.take (sp l.length)) (by simp;omega) (by simp;omega) fun x hx=>h x (List.mem_of_mem_take hx)
    have hb:=rt_len hF g (l.drop (sp l.length)) (by simp;omega) (by simp;omega) fun x hx=>h x (List.mem_of_mem_drop hx)
    have ha:(rt F g (l.take (sp l.length))).length=32:=by
     rcases ha with ⟨h3,h4⟩ | ha
     ·simp at h3;omega
     ·exact ha
    have hb:(rt F g (l.drop (sp l.length))).length=32:=by
     rcases hb with ⟨h3,h4⟩ | hb
     ·simp at h3;omega
     ·exact hb
    exact (sh_some (by simp;omega) (by simp;omega)).2
theorem gsl_lo {α:Type} {l:List α} {k:Nat} (h:k≤l.length):gsl l (0:Int) (k:Int)=some (l.take k):=by
 have:=gsl_nat (l:=l) (a:=0) (b:=k) (by omega) h
 simpa using this
theorem gsl_hi {α:Type} {l:List α} {k:Nat} (h:k≤l.length):gsl l (k:Int) (l.length:Int)=some (l.drop k):=by
 have:=gsl_nat (l:=l) (a:=k) (b:=l.length) h (by omega)
 rw [this];congr 1
 apply List.take_of_length_le;simp
theorem root_g {F:Nat} (hF:2000 < F):∀ (g:Nat) (l:List (List UInt8)),l.length≤g->0 < g->l.length < 140->(∀ x ∈ l,x.length=32)->T49g F g l=some (rt F g l)
 | 0,l,hg,h0,hl,h=>by omega
 | g + 1,l,hg,h0,hl,h=>by
  show T49r F (T49g F g) l=_
  simp only [T49r,T49rc,rt]
  by_cases c0:l.length=0
  ·have e0:((l.length:Int) == 0)=true:=by simpa using c0
   have:=t_sum (F:=F) (x:=[]) (by simp;omega) (by simp)
   simp only [e0,cond_true,this,Option.bind_some,if_pos c0]
  ·have e0:((l.length:Int) == 0)=false:=by simpa using c0
   by_cases c1:l.length=1
   ·have e1:((l.length:Int) == 1)=true:=by rw [c1];rfl
    simp only [e0,e1,cond_true,cond_false,if_neg c0,if_pos c1]
    cases l with
    | nil=>simp at c1
    | cons x l=>
     have:ix (x :: l) (0:Int)=some x:=ixn (i:=0) rfl
     rw [this];rfl
   ·have e1:((l.length:Int) == 1)=false:=by
     have:¬ (l.length:Int)=1:=by omega
     simpa using this
    obtain ⟨h3,h1,h2⟩:=sp_at (n:=l.length) (by omega) hl F
    have ha:=root_g hF g (l.take (sp l.length)) (by simp;omega) (by omega) (by simp;omega) fun x hx=>h x (List.mem_of_mem_take hx)
    have hb:=root_g hF g (l.drop (sp l.length)) (by simp;omega) (by omega) (by simp;omega) fun x hx=>h x (List.mem_of_mem_drop hx)
    have la:=rt_len hF g (l.take (sp l.length)) (by simp;omega) (by simp;omega) fun x hx=>h x (List.mem_of_mem_take hx)
    have lb:=rt_len hF g (l.drop (sp l.length)) (by simp;omega) (by simp;omega) fun x hx=>h x (List.mem_of_mem_drop hx)
    have la:(rt F g (l.take (sp l.length))).length=32:=by
     rcases la with ⟨h3,h4⟩ | ha
     ·omega
     ·exact ha
    have lb:(rt F g (l.drop (sp l.length))).length=32:=by
     rcases lb with ⟨h3,h4⟩ | hb
     ·omega
     ·exact hb
    have hn:=t_node (F:=F) (x:=rt F g (l.take (sp l.length))) (y:=rt F g (l.drop (sp l.length))) (by omega) (by omega)
    simp only [e0,e1,cond_false,h3,Option.bind_some,gsl_lo (Nat.le_of_lt h2),gsl_hi (Nat.le_of_lt h2),ha,hb,hn,if_neg c0,if_neg c1]
theorem t_root {F:Nat} (hF:2000 < F) {l:List (List UInt8)} (hl:l.length < 140) (h:∀ x ∈ l,x.length=32):T49 F l=some (rt F F l)∧(rt F F l).length=32:=by
 refine ⟨root_g hF F l (by omega) (by omega) hl h,?_⟩
 rcases rt_len hF F l (by omega) hl h with ⟨_,h⟩ | h
 ·omega
 ·exact h
def blk (F:Nat):Nat->List UInt8->List (List UInt8)
 | 0,_=>[]
 | n + 1,x=>if x.length=0 then [] else sh F (0 :: x.take 512) :: blk F n (x.drop 512)
theorem blk_len (F:Nat):∀ (n:Nat) (x:List UInt8),(blk F n x).length≤n
 | 0,x=>by simp [blk]
 | n + 1,x=>by
  unfold blk;split
  ·simp
  ·have:=blk_len F n (x.drop 512);simp;omega
theorem blk_32 {F:Nat} (hF:2000 < F):∀ (n:Nat) (x:List UInt8),∀ y ∈ blk F n x,y.length=32
 | 0,x,y,h=>by simp [blk] at h
 | n + 1,x,y,h=>by
  unfold blk at h
  split at h
  ·simp at h
  ·rcases List.mem_cons.1 h with rfl | h
   ·exact (sh_some (by simp;omega) (by simp;omega)).2
   ·exact blk_32 hF n _ y h
theorem cut512 (x:List UInt8):(if (x.length:Int) < 512 then (x.length:Int) else 512)=((min 512 x.length:Nat):Int):=by split<;>omega
theorem lp_blocks {F:Nat} (hF:2000 < F):∀ (n fuel:Nat) (x:List UInt8) (acc:List (List UInt8)),x.length≤512 * n->n < fuel->acc.length + n < 100000->iter (fun s:List UInt8×List (List UInt8)=>L84_2 F (512:Int) s.1 s.2) fuel (x,acc)=some (acc ++ blk F n x)
 | n,0,x,acc,_,hf,_=>by omega
 | 0,fuel + 1,x,acc,hx,hf,_=>by
  have:¬ (0:Int) < (x.length:Int):=by omega
  refine (it_out' (s:=(x,acc)) (r:=acc) (by simp only [L84_2,L84_2c,this,decide_false,cond_false])).trans (by simp only [blk,List.append_nil])
 | n + 1,fuel + 1,x,acc,hx,hf,ha=>by
  by_cases h0:x.length=0
  ·have:¬ (0:Int) < (x.length:Int):=by omega
   refine (it_out' (s:=(x,acc)) (r:=acc) (by simp only [L84_2,L84_2c,this,decide_false,cond_false])).trans (by simp only [blk,if_pos h0,List.append_nil])
  ·have h1:(0:Int) < (x.length:Int):=by omega
   have hm:min 512 x.length≤x.length:=Nat.min_le_right _ _
   have hl:=t_leaf (F:=F) (x:=x.take 512) (by simp;omega) (by simp;omega)
   have ht:x.take (min 512 x.length)=x.take 512:=by rw [← List.take_take,List.take_length]
   have hd:x.drop (min 512 x.length)=x.drop 512:=by
    rcases Nat.le_total 512 x.length with h | h
    ·rw [Nat.min_eq_left h]
    ·rw [Nat.min_eq_right h,List.drop_length,List.drop_eq_nil_of_le h]
   have hg:gapp acc ([sh F (0 :: x.take 512)]:List (List UInt8))=some (acc ++ [sh F (0 :: x.take 512)]):=gappn (by simp;omega)
   have ih:=lp_blocks hF n fuel (x.drop 512) (acc ++ [sh F (0 :: x.take 512)]) (by simp;omega) (by omega) (by simp;omega)
   refine (it_again' (s:=(x,acc)) (s':=(x.drop 512,acc ++ [sh F (0 :: x.take 512)])) (by simp only [L84_2,L84_2c,h1,decide_true,cond_true,cut512,gsl_lo hm,gsl_hi hm,ht,hd,hl,hg,Option.bind_some])).trans (ih.trans (by simp only [blk,if_neg h0,List.append_assoc,List.singleton_append]))
def hsh (F:Nat) (x:List UInt8):List UInt8:=rt F F (blk F 128 x)
theorem t_of {F:Nat} (hF:2000 < F) {x:List UInt8} (hx:x.length≤65536):T48 F x (512:Int)=some (hsh F x,0)∧(hsh F x).length=32:=by
 have hl:=lp_blocks hF 128 F x [] (by omega) (by omega) (by simp)
 have hb:=blk_len F 128 x
 obtain ⟨h1,h2⟩:=t_root hF (l:=blk F 128 x) (by omega) (blk_32 hF 128 x)
 refine ⟨?_,h2⟩
 have h3:¬ (1048576:Int) < (x.length:Int):=by omega
 have h4:¬ (512:Int) < (1:Int):=by omega
 rw [List.nil_append] at hl
 have hB:T84 F x (512:Int)=some ((0:Int),blk F 128 x):=by
  simp only [T84,T84c,h3,h4,decide_false,cond_false,hl,Option.bind_some]
 simp only [T48,T48c,hB,Option.bind_some,bne_self_eq_false,cond_false,h1]
 rfl
theorem Rows.fresh {α:Type} {rows:List (Option (List α))} {out:List Nat} {gs:List (List α)} (H:Rows rows out gs) {i:Nat} (hi:i < gs.length) (y:List α):Rows (rows ++ [some y]) (out.set i rows.length) (gs.set i y):=by
 have hil:i < out.length:=by rw [H.len];exact hi
 refine ⟨by simp [H.len],fun k g h=>?_,nodup_of fun a b q' ha hb=>?_⟩
 ·by_cases hk:i=k
  ·subst hk
   rw [List.getElem?_set_self hi] at h
   cases h
   exact ⟨rows.length,List.getElem?_set_self hil,by simp⟩
  ·rw [List.getElem?_set_ne hk] at h
   obtain ⟨q',h1,h2⟩:=H.at_ k g h
   refine ⟨q',by rw [List.getElem?_set_ne hk];exact h1,?_⟩
   rw [List.getElem?_append_left (List.getElem?_eq_some_iff.1 h2).1];exact h2
 ·by_cases ha':i=a
  ·subst ha'
   rw [List.getElem?_set_self hil] at ha
   cases ha
   by_cases hb':i=b
   ·exact hb'
   ·rw [List.getElem?_set_ne hb'] at hb
    have:=H.lt (List.mem_of_getElem? hb);omega
  ·rw [List.getElem?_set_ne ha'] at ha
   by_cases hb':i=b
   ·subst hb'
    rw [List.getElem?_set_self hil] at hb
    cases hb
    have:=H.lt (List.mem_of_getElem? ha);omega
   ·rw [List.getElem?_set_ne hb'] at hb
    exact nodup_at H.nd ha hb
theorem Rows.init {α:Type} (n:Nat) (g:List α):Rows (List.replicate n (some g)) (List.range n) (List.replicate n g):=by
 refine ⟨by simp,fun i g' h=>?_,List.nodup_range⟩
 have hi:=(List.getElem?_eq_some_iff.1 h).1
 simp at hi
 rw [List.getElem?_replicate,if_pos hi] at h
 cases h
 exact ⟨i,by simp [hi],by simp [hi]⟩
theorem gmaken {α:Type} (x:α) {n:Nat} (h:n≤1099511627776):gmake x (n:Int) (n:Int)=some (List.replicate n x):=by unfold gmake;rw [if_pos (by omega)];simp
theorem zeros_ok {F n len:Nat} (hF:n < F) (hn:n≤1000000) (hl:len≤1000000):∃ r,T167 F (n:Int) (len:Int)=some r∧Rows r.1 r.2 (List.replicate n (List.replicate len (0:UInt8))):=by
 obtain ⟨z,hz,gs,hR,hgl,hgs⟩:=iter1 (f:=fun s:Int×(List (Option (List UInt8))×List Nat)=>L167_2 F (len:Int) (n:Int) s.1 s.2)
  (fun s=>∃ k:Nat,s.1=(k:Int)∧k≤n∧∃ gs:List (List UInt8),Rows s.2.1 s.2.2 gs∧gs.length=n∧∀ i,i < k->gs[i]? = some (List.replicate len 0))
  (fun z=>∃ gs:List (List UInt8),Rows z.1 z.2 gs∧gs.length=n∧∀ i,i < n->gs[i]? = some (List.replicate len 0)) (fun s=>n - s.1.toNat) (fun s hs=>by
   obtain ⟨k,e,hk,gs,hR,hgl,hgs⟩:=hs
   obtain ⟨s1,⟨rows,out⟩⟩:=s
   simp only at e hR
   subst e
   rcases Nat.lt_or_ge k n with hlt | hge
   ·have hc1:((k:Nat):Int) < (n:Int):=by omega
    have hg:=gmaken (0:UInt8) (n:=len) (by omega)
    have hi:inb out.length (k:Int)=some k:=inbn (by rw [H_len hR,hgl];exact hlt)
    have hw:w64 (((k:Nat):Int) + 1)=((k + 1:Nat):Int):=w64n (by omega)
    refine .inl ⟨_,by simp only [L167_2,L167_2c,hc1,decide_true,cond_true,hg,hi,Option.bind_some,hw];rfl,⟨k + 1,rfl,by omega,_,hR.fresh (i:=k) (by omega) _,by simp [hgl],fun i hi=>?_⟩,by simp only [Int.toNat_natCast];omega⟩
    by_cases hik:k=i
    ·subst hik;rw [List.getElem?_set_self (by omega)]
    ·rw [List.getElem?_set_ne hik];exact hgs i (by omega)
   ·have hkn:k=n:=by omega
    subst hkn
    refine .inr ⟨(rows,out),?_,gs,hR,hgl,hgs⟩
    simp [L167_2,L167_2c])
  F ((0:Int),(List.replicate n (some ([]:List UInt8)),List.range n)) ⟨0,rfl,by omega,_,Rows.init n [],by simp,fun i h=>by omega⟩ (by simp;omega)
 have hgs':gs=List.replicate n (List.replicate len (0:UInt8)):=by
  apply List.ext_getElem?
  intro i
  rcases Nat.lt_or_ge i n with h | h
  ·rw [hgs i h,List.getElem?_replicate,if_pos h]
  ·rw [List.getElem?_eq_none (by omega),List.getElem?_eq_none (by simp;omega)]
 subst hgs'
 refine ⟨z,?_,hR⟩
 have hg:=gmaken () (n:=n) (by omega)
 simp only [T167,T167c,hg,Option.bind_some,List.length_replicate,List.length_range,hz]
where H_len {rows:List (Option (List UInt8))} {out:List Nat} {gs:List (List UInt8)} (H:Rows rows out gs):out.length=gs.length:=H.len
def vadd (a:UInt8) (d s:List UInt8):List UInt8:=List.zipWith (fun x y=>x ^^^ gm a y) d s
def comb:List UInt8->List (List UInt8)->List UInt8->List UInt8
 | a :: r,b :: bs,acc=>comb r bs (vadd a acc b)
 | [],_,acc=>acc
 | _,[],acc=>acc
theorem vadd_len {a:UInt8} {d s:List UInt8} (h:s.length=d.length):(vadd a d s).length=d.length:=by simp [vadd,h]
theorem vadd_0 {d s:List UInt8} (h:s.length=d.length):vadd 0 d s=d:=by
 apply List.ext_getElem
 ·exact vadd_len h
 ·intro i h1 h2
  simp [vadd,zero_gm]
theorem comb_snoc:∀ (r:List UInt8) (bs:List (List UInt8)) (acc:List UInt8) (a:UInt8) (b:List UInt8),r.length=bs.length->comb (r ++ [a]) (bs ++ [b]) acc=vadd a (comb r bs acc) b
 | [],[],acc,a,b,_=>rfl
 | x :: r,y :: bs,acc,a,b,h=>by simp only [List.cons_append,comb];exact comb_snoc r bs _ a b (by simpa using h)
 | [],_ :: _,_,_,_,h=>by simp at h
 | _ :: _,[],_,_,_,h=>by simp at h
theorem comb_len:∀ {r:List UInt8} {bs:List (List UInt8)} {acc:List UInt8},(∀ b ∈ bs,b.length=acc.length)->(comb r bs acc).length=acc.length
 | a :: r,b :: bs,acc,h=>by
  simp only [comb]
  have hb:=h b (by simp)
  rw [comb_len (fun b' hb'=>by rw [vadd_len hb];exact h b' (by simp [hb'])),vadd_len hb]
 | [],_,_,_=>by simp [comb]
 | _ :: _,[],_,_=>by simp [comb]
theorem takeS' {α:Type} {l:List α} {k:Nat} {x:α} (h:l[k]? = some x):l.take (k + 1)=l.take k ++ [x]:=by
 rw [List.take_add_one,h];rfl
theorem comb_row {F:Nat} {len:Nat} (hF:200 + len < F) (hlen:len < 1000000) {x:List UInt8} {bs:List (List UInt8)} (hx:x.length=bs.length) (hx2:bs.length≤100) (hb:∀ b ∈ bs,b.length=len) {i:Nat} {gs:List (List UInt8)} {rows:List (Option (List UInt8))} {out:List Nat} (H:Rows rows out gs) {acc:List UInt8} (hi:gs[i]? = some acc) (ha:acc.length=len) :
  ∃ r,iter (fun s:Int×(List (Option (List UInt8))×List Nat)=>L151_4 F bs (i:Int) x (x.length:Int) s.1 s.2) F ((0:Int),(rows,out))=some r∧Rows r.1 r.2 (gs.set i (comb x bs acc)):=by
 have hil:=(List.getElem?_eq_some_iff.1 hi).1
 exact iter1 (f:=fun s:Int×(List (Option (List UInt8))×List Nat)=>L151_4 F bs (i:Int) x (x.length:Int) s.1 s.2)
  (fun s=>∃ k:Nat,s.1=(k:Int)∧k≤x.length∧Rows s.2.1 s.2.2 (gs.set i (comb (x.take k) (bs.take k) acc)))
  (fun r=>Rows r.1 r.2 (gs.set i (comb x bs acc))) (fun s=>x.length - s.1.toNat) (fun s hs=>by
   obtain ⟨k,e,hk,hR⟩:=hs
   obtain ⟨s1,⟨rows,out⟩⟩:=s
   simp only at e hR
   subst e
   rcases Nat.lt_or_ge k x.length with hlt | hge
   ·have hr:x[k]? = some x[k]:=List.getElem?_eq_getElem hlt
    have hr2:bs[k]? = some (bs[k]'(by omega)):=List.getElem?_eq_getElem (by omega)
    have hc1:((k:Nat):Int) < (x.length:Int):=by omega
    have hix:=ixn hr
    have hix2:=ixn hr2
    have hw:w64 (((k:Nat):Int) + 1)=((k + 1:Nat):Int):=w64n (by omega)
    have hbl:=hb _ (List.getElem_mem (h:=(by omega:k < bs.length)))
    generalize x[k]=a at hr hix
    generalize bs[k]'(by omega)=b at hr2 hix2 hbl
    have hcl:(comb (x.take k) (bs.take k) acc).length=len:=by
     rw [comb_len (fun b hb'=>by rw [hb b (List.mem_of_mem_take hb'),ha]),ha]
    have hsn:comb (x.take (k + 1)) (bs.take (k + 1)) acc=vadd a (comb (x.take k) (bs.take k) acc) b:=by
     rw [takeS' hr,takeS' hr2];exact comb_snoc _ _ _ _ _ (by simp [hx])
    obtain ⟨q,a1,a2,a3⟩:=hR.get (i:=i) (g:=comb (x.take k) (bs.take k) acc) (by rw [List.getElem?_set_self hil])
    have hol:out.length=gs.length:=by rw [hR.len];simp
    have hin:inb out.length (i:Int)=some i:=inbn (by omega)
    by_cases h0:a=0
    ·subst h0
     have e0:((0:UInt8) != UInt8.ofNat 0)=false:=rfl
     refine .inl ⟨(((k + 1:Nat):Int),(rows,out)),by simp only [L151_4,L151_4c,hc1,decide_true,cond_true,hix,e0,cond_false,Option.bind_some,hw],⟨k + 1,rfl,by omega,?_⟩,by simp only [Int.toNat_natCast];omega⟩
     rw [hsn,vadd_0 (by rw [hbl,hcl])];exact hR
    ·have e0:(a != UInt8.ofNat 0)=true:=by have h2:a ≠ UInt8.ofNat 0:=h0;simpa using h2
     have hm:=g_muladd (F:=F) (l:=comb (x.take k) (bs.take k) acc) (v:=b) (by omega) (by omega) (by omega) a
     have hfr:=hR.fresh (i:=i) (by simp;exact hil) (vadd a (comb (x.take k) (bs.take k) acc) b)
     rw [List.set_set] at hfr
     refine .inl ⟨_,by simp only [L151_4,L151_4c,hc1,decide_true,cond_true,hix,hix2,e0,hin,a1,a2,hm,Option.bind_some,hw];rfl,⟨k + 1,rfl,by omega,?_⟩,by simp only [Int.toNat_natCast];omega⟩
     rw [hsn];exact hfr
   ·have hkn:k=x.length:=by omega
    subst hkn
    rw [List.take_length,hx,List.take_length] at hR
    refine .inr ⟨(rows,out),?_,hR⟩
    simp [L151_4,L151_4c])
  F ((0:Int),(rows,out)) ⟨0,rfl,by omega,by
   have:gs.set i (comb (x.take 0) (bs.take 0) acc)=gs:=by
    simp only [List.take_zero,comb]
    apply List.ext_getElem?
    intro j
    by_cases h:i=j
    ·subst h;rw [List.getElem?_set_self hil,hi]
    ·rw [List.getElem?_set_ne h]
   rw [this];exact H⟩ (by simp;omega)
theorem combine_ok {F:Nat} {len:Nat} (hF:200 + len < F) (hlen:len < 1000000) {m bs:List (List UInt8)} (hm:m.length≤100) (hx:∀ x ∈ m,x.length=bs.length) (hx2:bs.length≤100) (hb:∀ b ∈ bs,b.length=len) :
  T151 F m bs (len:Int)=some (m.map fun x=>comb x bs (List.replicate len 0)):=by
 obtain ⟨r0,hz,hR0⟩:=zeros_ok (F:=F) (n:=m.length) (len:=len) (by omega) (by omega) (by omega)
 obtain ⟨z,hz2,gs,hR,hgl,hgs⟩:=iter1 (f:=fun s:Int×(List (Option (List UInt8))×List Nat)=>L151_3 F bs m (m.length:Int) s.1 s.2)
  (fun s=>∃ k:Nat,s.1=(k:Int)∧k≤m.length∧∃ gs:List (List UInt8),Rows s.2.1 s.2.2 gs∧gs.length=m.length∧(∀ i x,i < k->m[i]? = some x->gs[i]? = some (comb x bs (List.replicate len 0)))∧(∀ i,k≤i->i < m.length->gs[i]? = some (List.replicate len 0)))
  (fun z=>∃ gs:List (List UInt8),Rows z.1 z.2 gs∧gs.length=m.length∧∀ i x,m[i]? = some x->gs[i]? = some (comb x bs (List.replicate len 0))) (fun s=>m.length - s.1.toNat) (fun s hs=>by
   obtain ⟨k,e,hk,gs,hR,hgl,hg1,hg2⟩:=hs
   obtain ⟨s1,⟨rows,out⟩⟩:=s
   simp only at e hR
   subst e
   rcases Nat.lt_or_ge k m.length with hlt | hge
   ·have hr:m[k]? = some m[k]:=List.getElem?_eq_getElem hlt
    have hc1:((k:Nat):Int) < (m.length:Int):=by omega
    have hix:=ixn hr
    have hw:w64 (((k:Nat):Int) + 1)=((k + 1:Nat):Int):=w64n (by omega)
    have hxl:=hx _ (List.getElem_mem hlt)
    generalize m[k]=x at hr hix hxl
    obtain ⟨r,q1,q2⟩:=comb_row hF hlen hxl hx2 hb hR (hg2 k (by omega) hlt) (by simp)
    refine .inl ⟨(((k + 1:Nat):Int),r),by simp only [L151_3,L151_3c,hc1,decide_true,cond_true,hix,q1,Option.bind_some,hw],⟨k + 1,rfl,by omega,_,q2,by simp [hgl],fun i y hi hy=>?_,fun i hi1 hi2=>?_⟩,by simp only [Int.toNat_natCast];omega⟩
    ·by_cases hik:k=i
     ·subst hik;rw [hr] at hy;cases hy;rw [List.getElem?_set_self (by omega)]
     ·rw [List.getElem?_set_ne hik];exact hg1 i y (by omega) hy
    ·rw [List.getElem?_set_ne (by omega)];exact hg2 i (by omega) hi2
   ·have hkn:k=m.length:=by omega
    subst hkn
    refine .inr ⟨(rows,out),?_,gs,hR,hgl,fun i x hi=>hg1 i x (List.getElem?_eq_some_iff.1 hi).1 hi⟩
    simp [L151_3,L151_3c])
  F ((0:Int),r0) ⟨0,rfl,by omega,_,hR0,by simp,fun i x h=>by omega,fun i h1 h2=>by simp [h2]⟩ (by simp;omega)
 have hgs':gs=m.map fun x=>comb x bs (List.replicate len 0):=by
  apply List.ext_getElem?
  intro i
  rcases Nat.lt_or_ge i m.length with h | h
  ·rw [hgs i m[i] (List.getElem?_eq_getElem h),List.getElem?_map,List.getElem?_eq_getElem h];rfl
  ·rw [List.getElem?_eq_none (by omega),List.getElem?_eq_none (by simp;omega)]
 subst hgs'
 have hmat:=hR.mat_eq
 simp only [T151,T151c,hz,Option.bind_some,hz2,hmat]
theorem cols_ok (F:Nat) (m:List (List UInt8)):T150 F m=some (((m.headD []).length:Nat):Int):=by
 cases m with
 | nil=>rfl
 | cons x m=>
  have e:(((x :: m).length:Int) == 0)=false:=by
   have:¬ ((x :: m).length:Int)=0:=by simp;omega
   simpa using this
  have:ix (x :: m) (0:Int)=some x:=ixn (i:=0) rfl
  simp only [T150,T150c,e,cond_false,this,Option.bind_some];rfl
theorem same_loop {ρ:Type} {F:Nat} {n:Nat} {f:Int->Option (Int ⊕ (Unit ⊕ ρ))} (hn:n < F) (hn2:n < 1000000)
  (hs:∀ k:Nat,k < n->f (k:Int)=some (.inl ((k + 1:Nat):Int))) (he:f (n:Int)=some (.inr (.inl ()))):iter f F (0:Int)=some (.inl ()):=by
 obtain ⟨z,hz,rfl⟩:=iter1 (f:=f) (fun s=>∃ k:Nat,s=(k:Int)∧k≤n) (fun z=>z=.inl ()) (fun s=>n - s.toNat) (fun s hs'=>by
   obtain ⟨k,e,hk⟩:=hs'
   subst e
   rcases Nat.lt_or_ge k n with hlt | hge
   ·exact .inl ⟨_,hs k hlt,⟨k + 1,rfl,by omega⟩,by simp only [Int.toNat_natCast];omega⟩
   ·have:k=n:=by omega
    subst this
    exact .inr ⟨_,he,rfl⟩)
  F (0:Int) ⟨0,rfl,by omega⟩ (by simp;omega)
 exact hz
theorem valid_ok {F:Nat} {m:List (List UInt8)} {w:Nat} (hF:200 < F) (h1:m.length≤64) (hw:w≤64) (h2:∀ x ∈ m,x.length=w):T149 F m=some true:=by
 have hc:(m.headD []).length≤64:=by
  cases m with
  | nil=>simp
  | cons x m=>have:=h2 x (by simp);simp;omega
 have e1:¬ (64:Int) < (m.length:Int):=by omega
 have e2:¬ (64:Int) < (((m.headD []).length:Nat):Int):=by omega
 have hl:iter (fun s=>L149_2 F m m (m.length:Int) s) F (0:Int)=some (.inl ()):=by
  refine same_loop (n:=m.length) (by omega) (by omega) (fun k hk=>?_) ?_
  ·have hr:m[k]? = some m[k]:=List.getElem?_eq_getElem hk
   have hr0:m[0]? = some (m[0]'(by omega)):=List.getElem?_eq_getElem (by omega)
   have hi0:ix m (0:Int)=some (m[0]'(by omega)):=ixn (i:=0) hr0
   have hc1:((k:Nat):Int) < (m.length:Int):=by omega
   have hl1:=h2 _ (List.getElem_mem hk)
   have hl2:=h2 _ (List.getElem_mem (h:=(by omega:0 < m.length)))
   have e:((m[k].length:Int) != ((m[0]'(by omega)).length:Int))=false:=by rw [hl1,hl2];simp
   simp only [L149_2,L149_2c,hc1,decide_true,cond_true,ixn hr,hi0,Option.bind_some,e,cond_false,w64n (show k < 9223372036854775807 by omega)]
  ·simp [L149_2,L149_2c]
 simp only [T149,T149c,e1,e2,decide_false,cond_false,cols_ok,Option.bind_some,hl,elimS]
theorem apply_ok {F:Nat} {len:Nat} (hF:200 + len < F) (hlen:len < 1000000) {m bs:List (List UInt8)} (hm:m.length≤64) (hm0:m ≠ []) (hx:∀ x ∈ m,x.length=bs.length) (hx2:bs.length≤64) (hb0:bs ≠ []) (hb:∀ b ∈ bs,b.length=len) :
  T117 F m bs=some (m.map fun x=>comb x bs (List.replicate len 0),0):=by
 have hv:=valid_ok (F:=F) (m:=m) (w:=bs.length) (by omega) hm hx2 hx
 have hc:(m.headD []).length=bs.length:=by
  cases m with
  | nil=>exact absurd rfl hm0
  | cons x m=>exact hx x (by simp)
 have hcb:(bs.headD []).length=len:=by
  cases bs with
  | nil=>exact absurd rfl hb0
  | cons x m=>exact hb x (by simp)
 have hl:iter (fun s=>L117_2 F bs bs (bs.length:Int) s) F (0:Int)=some (.inl ()):=by
  refine same_loop (n:=bs.length) (by omega) (by omega) (fun k hk=>?_) ?_
  ·have hr:bs[k]? = some bs[k]:=List.getElem?_eq_getElem hk
   have hr0:bs[0]? = some (bs[0]'(by omega)):=List.getElem?_eq_getElem (by omega)
   have hi0:ix bs (0:Int)=some (bs[0]'(by omega)):=ixn (i:=0) hr0
   have hc1:((k:Nat):Int) < (bs.length:Int):=by omega
   have hl1:=hb _ (List.getElem_mem hk)
   have hl2:=hb _ (List.getElem_mem (h:=(by omega:0 < bs.length)))
   have e:((bs[k].length:Int) != ((bs[0]'(by omega)).length:Int))=false:=by rw [hl1,hl2];simp
   simp only [L117_2,L117_2c,hc1,decide_true,cond_true,ixn hr,hi0,Option.bind_some,e,cond_false,w64n (show k < 9223372036854775807 by omega)]
  ·simp [L117_2,L117_2c]
 have hco:=combine_ok hF hlen (m:=m) (bs:=bs) (by omega) hx (by omega) hb
 simp only [T117,T117c,hv,Option.bind_some,Bool.not_true,cond_false,cols_ok,hc,bne_self_eq_false,hl,elimS,hcb,hco]
def cell (d i c:Nat):UInt8:=if d≤i then gi (UInt8.ofNat (i ^^^ c)) else if i=c then 1 else 0
theorem ixor_ij {i c:Nat} (hi:i < 16) (hc:c < 8):UInt8.ofInt (ixor (i:Int) (c:Int))=UInt8.ofNat (i ^^^ c):=by
 have:∀ (i:_root_.Fin 16) (c:_root_.Fin 8),UInt8.ofInt (ixor (i.val:Int) (c.val:Int))=UInt8.ofNat (i.val ^^^ c.val):=by decide +kernel
 exact this ⟨i,hi⟩ ⟨c,hc⟩
abbrev Tb:=Vector (Vector UInt8 8) 16
def tget (t:Tb) (i c:Nat):UInt8:=if h:i < 16∧c < 8 then (t[i]'h.1)[c]'h.2 else 0
theorem vatn {α:Type} {n i:Nat} {v:Vector α n} (h:i < n):vat v i=some v[i]:=vat_nat h
theorem tget_set {t:Tb} {i c:Nat} (hi:i < 16) (hc:c < 8) (x:UInt8) (i' c':Nat):tget (Vector.setIfInBounds t i (Vector.setIfInBounds (t[i]'hi) c x)) i' c'=if i'=i∧c'=c then x else tget t i' c':=by
 unfold tget
 by_cases h:i' < 16∧c' < 8
 ·rw [dif_pos h,dif_pos h]
  by_cases h1:i'=i
  ·subst h1
   by_cases h2:c'=c
   ·subst h2;simp
   ·rw [if_neg (fun e=>h2 e.2)]
    have h3:¬ c=c':=fun e=>h2 e.symm
    simp [Vector.getElem_setIfInBounds,h3]
  ·rw [if_neg (fun e=>h1 e.1)]
   rw [Vector.getElem_setIfInBounds_ne (h:=fun e=>h1 e.symm)]
 ·rw [dif_neg h,dif_neg h,if_neg (fun e=>h ⟨by omega,by omega⟩)]
theorem tab_row {F d i:Nat} (hF:200 < F) (hd:d≤8) (hi:i < 16) (t:Tb) (h0:∀ i' c,i≤i'->tget t i' c=0) (h1:∀ i' c,i' < i->c < d->tget t i' c=cell d i' c) :
  ∃ t',iter (fun s:Int×Tb=>L118_4 F (d:Int) (i:Int) (d:Int) s.1 s.2) F ((0:Int),t)=some t'∧(∀ i' c,i + 1≤i'->tget t' i' c=0)∧(∀ i' c,i' < i + 1->c < d->tget t' i' c=cell d i' c):=by
 exact iter1 (f:=fun s:Int×Tb=>L118_4 F (d:Int) (i:Int) (d:Int) s.1 s.2)
  (fun s=>∃ k:Nat,s.1=(k:Int)∧k≤d∧(∀ i' c,i + 1≤i'->tget s.2 i' c=0)∧(∀ c,k≤c->tget s.2 i c=0)∧(∀ i' c,i' < i->c < d->tget s.2 i' c=cell d i' c)∧(∀ c,c < k->tget s.2 i c=cell d i c))
  _ (fun s=>d - s.1.toNat) (fun s hs=>by
   obtain ⟨k,e,hk,a1,a2,a3,a4⟩:=hs
   obtain ⟨s1,t⟩:=s
   simp only at e a1 a2 a3 a4
   subst e
   rcases Nat.lt_or_ge k d with hlt | hge
   ·have hc1:((k:Nat):Int) < (d:Int):=by omega
    have hw:w64 (((k:Nat):Int) + 1)=((k + 1:Nat):Int):=w64n (by omega)
    have hi1:inb 16 (i:Int)=some i:=inbn hi
    have hk1:inb 8 (k:Int)=some k:=inbn (by omega)
    have hv:vat t i=some t[i]:=vatn hi
    have put:∀ x:UInt8,x=cell d i k->(∀ i' c,i + 1≤i'->tget (Vector.setIfInBounds t i (Vector.setIfInBounds (t[i]'hi) k x)) i' c=0)∧(∀ c,k + 1≤c->tget (Vector.setIfInBounds t i (Vector.setIfInBounds (t[i]'hi) k x)) i c=0)∧(∀ i' c,i' < i->c < d->tget (Vector.setIfInBounds t i (Vector.setIfInBounds (t[i]'hi) k x)) i' c=cell d i' c)∧(∀ c,c < k + 1->tget (Vector.setIfInBounds t i (Vector.setIfInBounds (t[i]'hi) k x)) i c=cell d i c):=fun x hx=>by
     refine ⟨fun i' c h=>?_,fun c h=>?_,fun i' c h h2=>?_,fun c h=>?_⟩
     ·rw [tget_set hi (by omega),if_neg (by omega)];exact a1 i' c h
     ·rw [tget_set hi (by omega),if_neg (by omega)];exact a2 c (by omega)
     ·rw [tget_set hi (by omega),if_neg (by omega)];exact a3 i' c h h2
     ·rw [tget_set hi (by omega)]
      by_cases hck:c=k
      ·subst hck;rw [if_pos ⟨rfl,rfl⟩];exact hx
      ·rw [if_neg (fun e=>hck e.2)];exact a4 c (by omega)
    by_cases hdi:d≤i
    ·have c1:(d:Int)≤(i:Int):=by omega
     obtain ⟨er,hinv⟩:=g_inv (F:=F) (by omega) (UInt8.ofNat (i ^^^ k))
     refine .inl ⟨_,by simp only [L118_4,L118_4c,hc1,c1,decide_true,cond_true,hi1,hk1,hv,ixor_ij hi (show k < 8 by omega),hinv,Option.bind_some,hw];rfl,⟨k + 1,rfl,by omega,put _ ?_⟩,by simp only [Int.toNat_natCast];omega⟩
     unfold cell;rw [if_pos hdi]
    ·have c1:¬ (d:Int)≤(i:Int):=by omega
     by_cases hik:i=k
     ·subst hik
      have c2:((i:Int) == (i:Int))=true:=by simp
      refine .inl ⟨_,by simp only [L118_4,L118_4c,hc1,c1,c2,decide_true,decide_false,cond_true,cond_false,hi1,hk1,hv,Option.bind_some,hw];rfl,⟨i + 1,rfl,by omega,put _ ?_⟩,by simp only [Int.toNat_natCast];omega⟩
      unfold cell;rw [if_neg hdi,if_pos rfl];rfl
     ·have c2:((i:Int) == (k:Int))=false:=by
       have:¬ (i:Int)=(k:Int):=by omega
       simpa using this
      refine .inl ⟨_,by simp only [L118_4,L118_4c,hc1,c1,c2,decide_true,decide_false,cond_true,cond_false,hw];rfl,⟨k + 1,rfl,by omega,a1,fun c h=>a2 c (by omega),a3,fun c h=>?_⟩,by simp only [Int.toNat_natCast];omega⟩
      by_cases hck:c=k
      ·subst hck
       show tget t i c=_
       rw [a2 c (by omega)]
       unfold cell;rw [if_neg hdi,if_neg hik]
      ·exact a4 c (by omega)
   ·have hkn:k=d:=by omega
    subst hkn
    refine .inr ⟨t,?_,a1,fun i' c h h2=>?_⟩
    ·simp [L118_4,L118_4c]
    ·by_cases h3:i'=i
     ·subst h3;exact a4 c h2
     ·exact a3 i' c (by omega) h2)
  F ((0:Int),t) ⟨0,rfl,by omega,fun i' c h=>h0 i' c (by omega),fun c _=>h0 i c (by omega),h1,fun c h=>by omega⟩ (by simp;omega)
theorem table_ok {F d:Nat} (hF:200 < F) (hd:d≤8):∃ t:Tb,T118 F (d:Int)=some t∧∀ i c,i < 16->c < d->tget t i c=cell d i c:=by
 obtain ⟨t,hz,hQ⟩:=iter1 (f:=fun s:Int×Tb=>L118_3 F (d:Int) s.1 s.2)
  (fun s=>∃ k:Nat,s.1=(k:Int)∧k≤16∧(∀ i' c,k≤i'->tget s.2 i' c=0)∧(∀ i' c,i' < k->c < d->tget s.2 i' c=cell d i' c))
  (fun t=>∀ i c,i < 16->c < d->tget t i c=cell d i c) (fun s=>16 - s.1.toNat) (fun s hs=>by
   obtain ⟨k,e,hk,a1,a2⟩:=hs
   obtain ⟨s1,t⟩:=s
   simp only at e a1 a2
   subst e
   rcases Nat.lt_or_ge k 16 with hlt | hge
   ·have hc1:((k:Nat):Int) < 16:=by omega
    have hw:w64 (((k:Nat):Int) + 1)=((k + 1:Nat):Int):=w64n (by omega)
    obtain ⟨t',q1,q2,q3⟩:=tab_row hF hd hlt t a1 a2
    exact .inl ⟨_,by simp only [L118_3,L118_3c,hc1,decide_true,cond_true,q1,Option.bind_some,hw];rfl,⟨k + 1,rfl,by omega,q2,q3⟩,by simp only [Int.toNat_natCast];omega⟩
   ·have hkn:k=16:=by omega
    subst hkn
    refine .inr ⟨t,?_,a2⟩
    simp [L118_3,L118_3c])
  F ((0:Int),(Vector.replicate 16 (Vector.replicate 8 (0:UInt8)))) ⟨0,rfl,by omega,fun i' c _=>by unfold tget;split<;>simp,fun i' c h=>by omega⟩ (by simp;omega)
 refine ⟨t,?_,hQ⟩
 simp only [T118,T118c,hz,Option.bind_some]
def rowD (d i:Nat):List UInt8:=(List.range d).map (cell d i)
theorem rowD_len (d i:Nat):(rowD d i).length=d:=by simp [rowD]
theorem row_of {t:Tb} {d:Nat} (hd:d≤8) (h:∀ i c,i < 16->c < d->tget t i c=cell d i c) {i:Nat} (hi:i < 16):((t[i]'hi).toList.drop 0).take (d - 0)=rowD d i:=by
 apply List.ext_getElem
 ·simp [rowD];omega
 ·intro c h1 h2
  have hc:c < d:=by simpa [rowD] using h2
  have:=h i c hi hc
  unfold tget at this
  rw [dif_pos ⟨hi,by omega⟩] at this
  simp [rowD,this]
theorem of_ok {F d:Nat} {t:Tb} (hF:200 < F) (hd:d≤8) (h:∀ i c,i < 16->c < d->tget t i c=cell d i c) {is:List Nat} (hl:is.length≤100) (hi:∀ i ∈ is,i < 16):T119 F (is.map fun i:Nat=>(i:Int)) (d:Int) t=some (is.map (rowD d)):=by
 have hll:((is.map fun i:Nat=>(i:Int)).length:Int)=((is.length:Nat):Int):=by simp
 have hg:=gmaken ([]:List UInt8) (n:=is.length) (by omega)
 obtain ⟨r,r1,r2,_,r4⟩:=fill_loop (N:=is.length) (f:=fun s:Int×List (List UInt8)=>L119_2 F (is.map fun i:Nat=>(i:Int)) ((is.length:Nat):Int) (d:Int) t s.1 s.2) (g:=fun n _=>rowD d (is.getD n 0)) (by omega)
  (fun n l h1 h2=>by
   have hc1:((n:Nat):Int) < ((is.length:Nat):Int):=by omega
   have hn:n < is.length:=by omega
   have hr:(is.map fun i:Nat=>(i:Int))[n]? = some ((is[n]:Nat):Int):=by simp [hn]
   have hi16:=hi _ (List.getElem_mem hn)
   have hg2:is.getD n 0=is[n]:=by simp [hn]
   have hb:inb 16 ((is[n]:Nat):Int)=some is[n]:=inbn hi16
   have hs:gslb 8 (0:Int) (d:Int)=some (0,d):=gslb_nat (a:=0) (by omega) hd
   have hv:vat t is[n]=some (t[is[n]]'hi16):=vatn hi16
   have hga:gapp ([]:List UInt8) (rowD d is[n])=some (rowD d is[n]):=gappn (by rw [rowD_len];simp;omega)
   have hb2:inb l.length (n:Int)=some n:=inbn h1
   simp only [L119_2,L119_2c,hc1,decide_true,cond_true,ixn hr,hb,hs,hv,Option.bind_some,row_of hd h hi16,hga,hb2,w64n (show n < 9223372036854775807 by omega),hg2])
  (fun l hl=>by simp [L119_2,L119_2c])
  is.length 0 F (List.replicate is.length []) (by omega) (by simp) (by omega)
 have r1:iter (fun s:Int×List (List UInt8)=>L119_2 F (is.map fun i:Nat=>(i:Int)) ((is.length:Nat):Int) (d:Int) t s.1 s.2) F ((0:Int),List.replicate is.length [])=some r:=r1
 have hr:r=is.map (rowD d):=by
  apply List.ext_getElem
  ·simp [r2]
  ·intro i h1 h2
   have hii:i < is.length:=by simpa using h2
   rw [r4 i h1 (by simp;omega) (by omega)]
   simp [hii]
 subst hr
 simp only [T119,T119c,hll,hg,Option.bind_some,r1]
theorem one_ok {F:Nat} {bs:List (List UInt8)} {len:Nat} (hF:200 < F) (hl:bs.length≤100) (h1:1≤len) (h2:len≤65536) (h:∀ b ∈ bs,b.length=len):T116 F bs=some true:=by
 have hl:iter (fun s=>L116_2 F bs bs (bs.length:Int) s) F (0:Int)=some (.inl ()):=by
  refine same_loop (n:=bs.length) (by omega) (by omega) (fun k hk=>?_) ?_
  ·have hr:bs[k]? = some bs[k]:=List.getElem?_eq_getElem hk
   have hi0:ix bs (0:Int)=some (bs[0]'(by omega)):=ixn (i:=0) (List.getElem?_eq_getElem (by omega))
   have hc1:((k:Nat):Int) < (bs.length:Int):=by omega
   have hl1:=h _ (List.getElem_mem hk)
   have hl2:=h _ (List.getElem_mem (h:=(by omega:0 < bs.length)))
   have e:((bs[k].length:Int) != ((bs[0]'(by omega)).length:Int))=false:=by rw [hl1,hl2];simp
   have e2:((bs[k].length:Int) == 0)=false:=by
    have:¬ (bs[k].length:Int)=0:=by omega
    simpa using this
   have e3:¬ (65536:Int) < (bs[k].length:Int):=by omega
   simp only [L116_2,L116_2c,hc1,decide_true,cond_true,ixn hr,hi0,Option.bind_some,e,e2,e3,decide_false,cond_false,w64n (show k < 9223372036854775807 by omega)]
  ·simp [L116_2,L116_2c]
 simp only [T116,T116c,hl,Option.bind_some,elimS]
def padB (d len:Nat) (bs:List (List UInt8)):List (List UInt8):=bs ++ List.replicate (d - bs.length) (List.replicate len 0)
def encP (d t len:Nat) (bs:List (List UInt8)):List (List UInt8):=(List.range t).map fun i=>comb (rowD d i) (padB d len bs) (List.replicate len 0)
theorem encode_ok {F d t len:Nat} {bs:List (List UInt8)} (hF:70000 + len < F∨300 + len < F) (h1:1≤d) (h8:d≤8) (hdt:d≤t) (ht:t≤16) (hb1:1≤bs.length) (hbd:bs.length≤d) (hl1:1≤len) (hl2:len≤65536) (h:∀ b ∈ bs,b.length=len) :
  T76 F (d:Int) (t:Int) bs=some (encP d t len bs,0):=by
 have hF:300 + len < F:=by omega
 have hv:T35 F (d:Int) (t:Int)=some true:=by
  have a1:(1:Int)≤(d:Int):=by omega
  have a2:(d:Int)≤8:=by omega
  have a3:(d:Int)≤(t:Int):=by omega
  have a4:(t:Int)≤16:=by omega
  simp only [T35,T35c,a1,a2,a3,a4,decide_true,cond_true]
 have e1:((bs.length:Int) == 0)=false:=by
  have:¬ (bs.length:Int)=0:=by omega
  simpa using this
 have e2:¬ (d:Int) < (bs.length:Int):=by omega
 have hone:=one_ok (F:=F) (by omega) (by omega) hl1 hl2 h
 have hcl:T97 F bs=some bs:=by
  show (gapp ([]:List (List UInt8)) bs).bind some=_
  rw [gappn (by simp;omega)];rfl
 have hfill:iter (fun s:List (List UInt8)=>L76_3 F (d:Int) bs s) F bs=some (padB d len bs):=by
  obtain ⟨z,hz,hQ⟩:=iter1 (f:=fun s:List (List UInt8)=>L76_3 F (d:Int) bs s)
   (fun s=>∃ k:Nat,s=bs ++ List.replicate k (List.replicate len 0)∧bs.length + k≤d) (fun z=>z=padB d len bs) (fun s=>d - s.length) (fun s hs=>by
    obtain ⟨k,rfl,hk⟩:=hs
    have hlen:(bs ++ List.replicate k (List.replicate len (0:UInt8))).length=bs.length + k:=by simp
    rcases Nat.lt_or_ge (bs.length + k) d with hlt | hge
    ·have hc1:((bs ++ List.replicate k (List.replicate len (0:UInt8))).length:Int) < (d:Int):=by rw [hlen];omega
     have hi0:ix bs (0:Int)=some (bs[0]'(by omega)):=ixn (i:=0) (List.getElem?_eq_getElem (by omega))
     have hl0:=h _ (List.getElem_mem (h:=(by omega:0 < bs.length)))
     have hg:=gmaken (0:UInt8) (n:=len) (by omega)
     have hg2:gapp (bs ++ List.replicate k (List.replicate len (0:UInt8))) [List.replicate len (0:UInt8)]=some ((bs ++ List.replicate k (List.replicate len (0:UInt8))) ++ [List.replicate len (0:UInt8)]):=gappn (by rw [hlen];simp;omega)
     refine .inl ⟨(bs ++ List.replicate k (List.replicate len (0:UInt8))) ++ [List.replicate len (0:UInt8)],by simp only [L76_3,L76_3c,hc1,decide_true,cond_true,hi0,hl0,hg,hg2,Option.bind_some],⟨k + 1,by rw [List.replicate_succ',List.append_assoc],by omega⟩,by simp;omega⟩
    ·have hc1:¬ ((bs ++ List.replicate k (List.replicate len (0:UInt8))).length:Int) < (d:Int):=by rw [hlen];omega
     refine .inr ⟨bs ++ List.replicate k (List.replicate len (0:UInt8)),by simp only [L76_3,L76_3c,hc1,decide_false,cond_false],?_⟩
     unfold padB
     rw [show d - bs.length=k by omega])
   F bs ⟨0,by simp,by omega⟩ (by omega)
  subst hQ
  exact hz
 have hidx:iter (fun s:Int×List Int=>L76_4 F (t:Int) s.1 s.2) F ((0:Int),([]:List Int))=some ((List.range t).map fun i:Nat=>(i:Int)):=by
  obtain ⟨z,hz,hQ⟩:=iter1 (f:=fun s:Int×List Int=>L76_4 F (t:Int) s.1 s.2)
   (fun s=>∃ k:Nat,s.1=(k:Int)∧k≤t∧s.2=(List.range k).map fun i:Nat=>(i:Int)) (fun z=>z=(List.range t).map fun i:Nat=>(i:Int)) (fun s=>t - s.1.toNat) (fun s hs=>by
    obtain ⟨k,e,hk,hl⟩:=hs
    obtain ⟨s1,l⟩:=s
    simp only at e hl
    subst e hl
    rcases Nat.lt_or_ge k t with hlt | hge
    ·have hc1:((k:Nat):Int) < (t:Int):=by omega
     have hg:gapp ((List.range k).map fun i:Nat=>(i:Int)) [(k:Int)]=some (((List.range k).map fun i:Nat=>(i:Int)) ++ [(k:Int)]):=gappn (by simp;omega)
     refine .inl ⟨(((k + 1:Nat):Int),((List.range k).map fun i:Nat=>(i:Int)) ++ [(k:Int)]),by simp only [L76_4,L76_4c,hc1,decide_true,cond_true,hg,Option.bind_some,w64n (show k < 9223372036854775807 by omega)],⟨k + 1,rfl,by omega,by rw [List.range_succ,List.map_append];rfl⟩,by simp only [Int.toNat_natCast];omega⟩
    ·have hkn:k=t:=by omega
     subst hkn
     refine .inr ⟨_,?_,rfl⟩
     simp [L76_4,L76_4c])
   F ((0:Int),([]:List Int)) ⟨0,rfl,by omega,rfl⟩ (by simp;omega)
  subst hQ
  exact hz
 obtain ⟨tb,ht1,ht2⟩:=table_ok (F:=F) (d:=d) (by omega) h8
 have hof:=of_ok (F:=F) (by omega) h8 ht2 (is:=List.range t) (by simp;omega) (fun i hi=>by simp at hi;omega)
 have hpl:(padB d len bs).length=d:=by simp [padB];omega
 have hpb:∀ b ∈ padB d len bs,b.length=len:=fun b hb=>by
  rcases List.mem_append.1 hb with hb | hb
  ·exact h b hb
  ·have:=(List.mem_replicate.1 hb).2;subst this;simp
 have hap:=apply_ok (F:=F) (len:=len) (by omega) (by omega) (m:=(List.range t).map (rowD d)) (bs:=padB d len bs) (by simp;omega) (by
   intro e
   have:=congrArg List.length e
   simp at this;omega) (fun x hx=>by
   obtain ⟨i,_,rfl⟩:=List.mem_map.1 hx
   rw [rowD_len,hpl]) (by omega) (by
   intro e
   rw [e] at hpl;simp at hpl;omega) hpb
 have hmm:((List.range t).map (rowD d)).map (fun x=>comb x (padB d len bs) (List.replicate len 0))=encP d t len bs:=by simp [encP]
 rw [hmm] at hap
 simp only [T76,T76c,hv,Option.bind_some,Bool.not_true,cond_false,e1,e2,decide_false,hone,hcl,hfill,hidx,ht1,hof,hap]
abbrev Rf:=List UInt8×Int×Int×Unit
def hc (g:List Rf):Int:=match g with
 | []=>-1
 | r :: _=>clsOf r.2.2.1
def vR (r:Rf):Bool:=decide ((r.1.length:Int)=32∧0≤r.2.1∧0≤r.2.2.1∧r.2.2.1≤32768)
def vF:List (List UInt8)->List Rf->Bool
 | _,[]=>true
 | seen,r :: rs=>vR r && (!seen.contains r.1 && vF (seen ++ [r.1]) rs)
def vRs (refs:List Rf):Bool:=vF [] refs
theorem keqS_ne {z x:List UInt8} (h:z ≠ x):keq .s z x=false:=by show (z == x)=false;simpa using h
theorem keqS_self (z:List UInt8):keq .s z z=true:=by show (z == z)=true;simp
theorem mgt_mptS {β:Type}:∀ (l:List (List UInt8×β)) (x:List UInt8) (y:β) (z:List UInt8),mgt .s (mpt .s l x y) z=if z=x then some y else mgt .s l z
 | [],x,y,z=>by
  by_cases h:z=x
  ·subst h;simp only [mpt,mgt,keqS_self,cond_true,if_true]
  ·simp only [mpt,mgt,keqS_ne h,cond_false,if_neg h]
 | e :: l,x,y,z=>by
  have ih:=mgt_mptS l x y z
  by_cases hx:x=e.1
  ·subst hx
   by_cases h:z=e.1
   ·subst h;simp only [mpt,mgt,keqS_self,cond_true,if_true]
   ·simp only [mpt,mgt,keqS_self,keqS_ne h,cond_true,cond_false,if_neg h]
  ·simp only [mpt,keqS_ne hx,cond_false,mgt]
   by_cases h:z=e.1
   ·subst h
    have:¬ e.1=x:=fun h=>hx h.symm
    simp only [keqS_self,cond_true,if_neg this]
   ·simp only [keqS_ne h,cond_false];exact ih
def nms (l:List Rf):List (List UInt8):=l.map (·.1)
theorem drop_at {α:Type} {l:List α} {k:Nat} {x:α} (h:l[k]? = some x):l.drop k=x :: l.drop (k + 1):=by
 obtain ⟨h1,h2⟩:=List.getElem?_eq_some_iff.1 h
 rw [List.drop_eq_getElem_cons h1,h2]
theorem takeS {α:Type} {l:List α} {k:Nat} {x:α} (h:l[k]? = some x):l.take (k + 1)=l.take k ++ [x]:=by
 rw [List.take_add_one,h];rfl
theorem valid30 {F:Nat} {refs:List Rf} (hl:refs.length≤1000) (hF:2000 < F):T36 F refs=some (vRs refs):=by
 obtain ⟨z,hz,hQ⟩:=iter1 (f:=fun s:Int×List (List UInt8×Bool)=>L36_2 F refs (refs.length:Int) s.1 s.2)
  (fun s=>∃ k:Nat,s.1=(k:Int)∧k≤refs.length∧(∀ x,mgd .s s.2 x false=(nms (refs.take k)).contains x)∧vF (nms (refs.take k)) (refs.drop k)=vRs refs)
  (fun z=>match z with | .inl _=>vRs refs=true | .inr b=>b=vRs refs) (fun s=>refs.length - s.1.toNat) (fun s hs=>by
   obtain ⟨k,e,hk,hm,hv⟩:=hs
   obtain ⟨s1,m⟩:=s
   simp only at e hm
   subst e
   rcases Nat.lt_or_ge k refs.length with hlt | hge
   ·have hr:refs[k]? = some refs[k]:=List.getElem?_eq_getElem hlt
    have hc1:((k:Nat):Int) < (refs.length:Int):=by omega
    have hix:=ixn hr
    have hw:w64 (((k:Nat):Int) + 1)=((k + 1:Nat):Int):=w64n (by omega)
    generalize refs[k]=r at hr hix
    rw [drop_at hr] at hv
    simp only [vF] at hv
    have hmr:=hm r.1
    by_cases hvr:vR r=true
    ·have hd:=of_decide_eq_true hvr
     obtain ⟨q1,q2,q3,q4⟩:=hd
     have e1:((r.1.length:Int) != 32)=false:=by simpa using q1
     have e2:¬ r.2.1 < 0:=by omega
     have e3:¬ r.2.2.1 < 0:=by omega
     have e4:¬ (32768:Int) < r.2.2.1:=by omega
     cases hcn:(nms (refs.take k)).contains r.1 with
     | true=>
      rw [hcn] at hmr
      rw [hvr,hcn] at hv
      refine .inr ⟨.inr false,?_,by rw [← hv];rfl⟩
      simp only [L36_2,L36_2c,hc1,decide_true,cond_true,hix,Option.bind_some,e1,e2,e3,e4,decide_false,cond_false,hmr]
     | false=>
      rw [hcn] at hmr
      rw [hvr,hcn] at hv
      refine .inl ⟨(((k + 1:Nat):Int),mpt .s m r.1 true),?_,⟨k + 1,rfl,by omega,fun x=>?_,?_⟩,?_⟩
      ·simp only [L36_2,L36_2c,hc1,decide_true,cond_true,hix,Option.bind_some,e1,e2,e3,e4,decide_false,cond_false,hmr,hw]
      ·have hmx:=hm x
       unfold mgd at hmx ⊢
       rw [mgt_mptS,takeS hr]
       by_cases hx:x=r.1
       ·subst hx;simp [nms]
       ·rw [if_neg hx,hmx]
        simp [nms,hx]
      ·rw [takeS hr]
       have:nms (refs.take k ++ [r])=nms (refs.take k) ++ [r.1]:=by simp [nms]
       rw [this];simpa using hv
      ·simp only [Int.toNat_natCast];omega
    ·have hvr:vR r=false:=by simpa using hvr
     rw [hvr] at hv
     refine .inr ⟨.inr false,?_,by rw [← hv];rfl⟩
     have hd:=of_decide_eq_false hvr
     simp only [L36_2,L36_2c,hc1,decide_true,cond_true,hix,Option.bind_some]
     by_cases q1:(r.1.length:Int)=32
     ·have e1:((r.1.length:Int) != 32)=false:=by simpa using q1
      simp only [e1,cond_false]
      by_cases e2:r.2.1 < 0
      ·simp only [e2,decide_true,cond_true]
      ·simp only [e2,decide_false,cond_false]
       by_cases e3:r.2.2.1 < 0
       ·simp only [e3,decide_true,cond_true]
       ·simp only [e3,decide_false,cond_false]
        by_cases e4:(32768:Int) < r.2.2.1
        ·simp only [e4,decide_true,cond_true]
        ·exact absurd ⟨q1,by omega,by omega,by omega⟩ hd
     ·have e1:((r.1.length:Int) != 32)=true:=by simpa using q1
      simp only [e1,cond_true]
   ·have hkl:k=refs.length:=by omega
    subst hkl
    rw [List.take_length,List.drop_length] at hv
    refine .inr ⟨.inl (),?_,by rw [← hv];rfl⟩
    simp [L36_2,L36_2c])
  F ((0:Int),([]:List (List UInt8×Bool))) ⟨0,rfl,by omega,fun x=>rfl,rfl⟩ (by simp;omega)
 simp only [T36,T36c]
 rw [hz]
 cases z with
 | inl u=>have hQ:vRs refs=true:=hQ;rw [hQ];rfl
 | inr b=>have hQ:b=vRs refs:=hQ;rw [← hQ];rfl
theorem t32 (F:Nat) (r:Rf):T79 F r.1 r.2.1 r.2.2.1=some (vR r):=by
 simp only [T79,T79c,vR]
 by_cases q1:(r.1.length:Int)=32
 ·have e1:((r.1.length:Int) == 32)=true:=by simpa using q1
  by_cases q2:0≤r.2.1<;>by_cases q3:0≤r.2.2.1<;>simp [e1,q1,q2,q3]
 ·have e1:((r.1.length:Int) == 32)=false:=by simpa using q1
  simp [e1,q1]
theorem inner11 {F:Nat} {refs:List Rf} (hl:refs.length≤1000) (hF:2000 < F) {i:Nat} (hi:i≤refs.length) (s:List UInt8):∃ z,iter (fun k:Int=>L41_4 F refs (i:Int) s k) F (0:Int)=some z∧(match z with | .inl _=>(nms (refs.take i)).contains s=false | .inr b=>b=false∧(nms (refs.take i)).contains s=true):=by
 exact iter1 (f:=fun k:Int=>L41_4 F refs (i:Int) s k)
  (fun z=>∃ k:Nat,z=(k:Int)∧k≤i∧(nms (refs.take k)).contains s=false)
  _ (fun z=>i - z.toNat) (fun z hs=>by
   obtain ⟨k,e,hk,hc⟩:=hs
   subst e
   rcases Nat.lt_or_ge k i with hlt | hge
   ·have hr:refs[k]? = some (refs[k]'(by omega)):=List.getElem?_eq_getElem (by omega)
    have hc1:((k:Nat):Int) < ((i:Nat):Int):=by omega
    have hix:=ixn hr
    have hw:w64 (((k:Nat):Int) + 1)=((k + 1:Nat):Int):=w64n (by omega)
    generalize refs[k]'(by omega)=r at hr hix
    by_cases hs:r.1=s
    ·refine .inr ⟨.inr false,?_,rfl,?_⟩
     ·have:(r.1 == s)=true:=by simpa using hs
      simp only [L41_4,L41_4c,hc1,decide_true,cond_true,hix,Option.bind_some,this]
     ·have:r ∈ refs.take i:=by
       have h2:(refs.take i)[k]? = some r:=by rw [List.getElem?_take,if_pos hlt];exact hr
       exact List.mem_of_getElem? h2
      simp only [nms,List.contains_eq_mem,List.mem_map,decide_eq_true_eq]
      exact ⟨r,this,hs⟩
    ·refine .inl ⟨((k + 1:Nat):Int),?_,⟨k + 1,rfl,by omega,?_⟩,?_⟩
     ·have:(r.1 == s)=false:=by simpa using hs
      simp only [L41_4,L41_4c,hc1,decide_true,cond_true,hix,Option.bind_some,this,cond_false,hw]
     ·rw [takeS hr]
      simp only [nms,List.map_append,List.contains_eq_mem,decide_eq_false_iff_not] at hc ⊢
      simp only [List.mem_append,List.map_cons,List.map_nil,List.mem_singleton,not_or]
      exact ⟨hc,fun e=>hs e.symm⟩
     ·simp only [Int.toNat_natCast];omega
   ·have hki:k=i:=by omega
    subst hki
    refine .inr ⟨.inl (),?_,hc⟩
    simp [L41_4,L41_4c])
  F (0:Int) ⟨0,rfl,by omega,rfl⟩ (by simp;omega)
theorem valid11 {F:Nat} {refs:List Rf} (hl:refs.length≤1000) (hF:2000 < F):T41 F refs=some (vRs refs):=by
 obtain ⟨z,hz,hQ⟩:=iter1 (f:=fun s:Int=>L41_3 F refs refs (refs.length:Int) s)
  (fun s=>∃ k:Nat,s=(k:Int)∧k≤refs.length∧vF (nms (refs.take k)) (refs.drop k)=vRs refs)
  (fun z=>match z with | .inl _=>vRs refs=true | .inr b=>b=vRs refs) (fun s=>refs.length - s.toNat) (fun s hs=>by
   obtain ⟨k,e,hk,hv⟩:=hs
   subst e
   rcases Nat.lt_or_ge k refs.length with hlt | hge
   ·have hr:refs[k]? = some refs[k]:=List.getElem?_eq_getElem hlt
    have hc1:((k:Nat):Int) < (refs.length:Int):=by omega
    have hix:=ixn hr
    have hw:w64 (((k:Nat):Int) + 1)=((k + 1:Nat):Int):=w64n (by omega)
    generalize refs[k]=r at hr hix
    rw [drop_at hr] at hv
    simp only [vF] at hv
    have ht:=t32 F r
    cases hvr:vR r with
    | false=>
     rw [hvr] at hv ht
     refine .inr ⟨.inr false,?_,by rw [← hv];rfl⟩
     simp only [L41_3,L41_3c,hc1,decide_true,cond_true,hix,Option.bind_some,ht,Bool.not_false]
    | true=>
     rw [hvr] at hv ht
     obtain ⟨y,hy,hyQ⟩:=inner11 hl hF (i:=k) (by omega) r.1
     cases y with
     | inr b=>
      obtain ⟨rfl,hcn⟩:=hyQ
      rw [hcn] at hv
      refine .inr ⟨.inr false,?_,by rw [← hv];rfl⟩
      simp only [L41_3,L41_3c,hc1,decide_true,cond_true,hix,Option.bind_some,ht,Bool.not_true,cond_false,hy,elimS]
     | inl u=>
      have hcn:(nms (refs.take k)).contains r.1=false:=hyQ
      rw [hcn] at hv
      refine .inl ⟨((k + 1:Nat):Int),?_,⟨k + 1,rfl,by omega,?_⟩,?_⟩
      ·simp only [L41_3,L41_3c,hc1,decide_true,cond_true,hix,Option.bind_some,ht,Bool.not_true,cond_false,hy,elimS,hw]
      ·rw [takeS hr]
       have:nms (refs.take k ++ [r])=nms (refs.take k) ++ [r.1]:=by simp [nms]
       rw [this];simpa using hv
      ·simp only [Int.toNat_natCast];omega
   ·have hkl:k=refs.length:=by omega
    subst hkl
    rw [List.take_length,List.drop_length] at hv
    refine .inr ⟨.inl (),?_,by rw [← hv];rfl⟩
    simp [L41_3,L41_3c])
  F (0:Int) ⟨0,rfl,by omega,rfl⟩ (by simp;omega)
 simp only [T41,T41c]
 rw [hz]
 cases z with
 | inl u=>have hQ:vRs refs=true:=hQ;rw [hQ];rfl
 | inr b=>have hQ:b=vRs refs:=hQ;rw [← hQ];rfl
theorem vF_all:∀ {seen:List (List UInt8)} {refs:List Rf},vF seen refs=true->∀ r ∈ refs,vR r=true
 | _,[],_,r,h=>by simp at h
 | seen,x :: refs,h,r,hr=>by
  simp only [vF,Bool.and_eq_true] at h
  rcases List.mem_cons.1 hr with rfl | hr
  ·exact h.1
  ·exact vF_all h.2.2 r hr
theorem vRs_size {refs:List Rf} (h:vRs refs=true):∀ r ∈ refs,0≤r.2.2.1∧r.2.2.1≤32768:=fun r hr=>by
 have:=of_decide_eq_true (vF_all h r hr)
 exact ⟨this.2.2.1,this.2.2.2⟩
abbrev Pc:=(List UInt8×Int×Unit)×List UInt8×List (List UInt8)×Unit
def mkP (F:Nat) (xs:List (List UInt8)):List Pc:=(List.range xs.length).map fun i:Nat=>((rt F F (xs.map (hsh F)),(i:Int),()),xs.getD i [],xs.map (hsh F),())
theorem clone_b {F:Nat} {x:List UInt8} (h:x.length≤1000000):T77 F x=some x:=by
 show (gapp ([]:List UInt8) x).bind some=_
 rw [gappn (by simp;omega)];rfl
theorem clone_s {F:Nat} {x:List (List UInt8)} (h:x.length≤1000000):T78 F x=some x:=by
 show (gapp ([]:List (List UInt8)) x).bind some=_
 rw [gappn (by simp;omega)];rfl
theorem clone_r {F:Nat} {x:List Rf} (h:x.length≤1000000):T40 F x=some x:=by
 show (gapp ([]:List Rf) x).bind some=_
 rw [gappn (by simp;omega)];rfl
theorem encP_len (d t len:Nat) (bs:List (List UInt8)):(encP d t len bs).length=t:=by simp [encP]
theorem padB_len {d len:Nat} {bs:List (List UInt8)} (h:∀ b ∈ bs,b.length=len):∀ b ∈ padB d len bs,b.length=len:=fun b hb=>by
 rcases List.mem_append.1 hb with hb | hb
 ·exact h b hb
 ·have:=(List.mem_replicate.1 hb).2;subst this;simp
theorem encP_mem {d t len:Nat} {bs:List (List UInt8)} (h:∀ b ∈ bs,b.length=len):∀ x ∈ encP d t len bs,x.length=len:=fun x hx=>by
 obtain ⟨i,_,rfl⟩:=List.mem_map.1 hx
 rw [comb_len (fun b hb=>by rw [padB_len h b hb];simp)];simp
theorem hsh_len {F:Nat} (hF:2000 < F) {x:List UInt8} (hx:x.length≤65536):(hsh F x).length=32:=(t_of hF hx).2
theorem sums_loop {F:Nat} (hF:2000 < F) {xs:List (List UInt8)} (hl:xs.length≤100) (h:∀ x ∈ xs,x.length≤65536):iter (fun s:Int×List (List UInt8)=>L39_3 F xs (xs.length:Int) s.1 s.2) F ((0:Int),([]:List (List UInt8)))=some (.inl (xs.map (hsh F))):=by
 obtain ⟨z,hz,hQ⟩:=iter1 (f:=fun s:Int×List (List UInt8)=>L39_3 F xs (xs.length:Int) s.1 s.2)
  (fun s=>∃ k:Nat,s.1=(k:Int)∧k≤xs.length∧s.2=(xs.take k).map (hsh F)) (fun z=>z=.inl (xs.map (hsh F))) (fun s=>xs.length - s.1.toNat) (fun s hs=>by
   obtain ⟨k,e,hk,hl2⟩:=hs
   obtain ⟨s1,l⟩:=s
   simp only at e hl2
   subst e hl2
   rcases Nat.lt_or_ge k xs.length with hlt | hge
   ·have hc1:((k:Nat):Int) < (xs.length:Int):=by omega
    have hr:xs[k]? = some xs[k]:=List.getElem?_eq_getElem hlt
    have hix:=ixn hr
    have hx:=h _ (List.getElem_mem hlt)
    generalize xs[k]=x at hr hix hx
    have hof:=(t_of hF hx).1
    have hg:gapp ((xs.take k).map (hsh F)) [hsh F x]=some ((xs.take k).map (hsh F) ++ [hsh F x]):=gappn (by simp;omega)
    refine .inl ⟨(((k + 1:Nat):Int),(xs.take k).map (hsh F) ++ [hsh F x]),by simp only [L39_3,L39_3c,hc1,decide_true,cond_true,hix,hof,bne_self_eq_false,cond_false,hg,Option.bind_some,w64n (show k < 9223372036854775807 by omega)],⟨k + 1,rfl,by omega,by rw [takeS' hr];simp⟩,by simp only [Int.toNat_natCast];omega⟩
   ·have hkn:k=xs.length:=by omega
    subst hkn
    refine .inr ⟨.inl ((xs.take xs.length).map (hsh F)),?_,by rw [List.take_length]⟩
    simp [L39_3,L39_3c])
  F ((0:Int),([]:List (List UInt8))) ⟨0,rfl,by omega,rfl⟩ (by simp;omega)
 subst hQ
 exact hz
theorem pieces_loop {F:Nat} (hF:2000 < F) {xs:List (List UInt8)} (hl:xs.length≤100) (h:∀ x ∈ xs,x.length≤65536):iter (fun s:Int×List Pc=>L39_4 F (rt F F (xs.map (hsh F))) xs (xs.length:Int) (xs.map (hsh F)) s.1 s.2) F ((0:Int),([]:List Pc))=some (mkP F xs):=by
 obtain ⟨z,hz,hQ⟩:=iter1 (f:=fun s:Int×List Pc=>L39_4 F (rt F F (xs.map (hsh F))) xs (xs.length:Int) (xs.map (hsh F)) s.1 s.2)
  (fun s=>∃ k:Nat,s.1=(k:Int)∧k≤xs.length∧s.2=(List.range k).map fun i:Nat=>((rt F F (xs.map (hsh F)),(i:Int),()),xs.getD i [],xs.map (hsh F),())) (fun z=>z=mkP F xs) (fun s=>xs.length - s.1.toNat) (fun s hs=>by
   obtain ⟨k,e,hk,hl2⟩:=hs
   obtain ⟨s1,l⟩:=s
   simp only at e hl2
   subst e hl2
   rcases Nat.lt_or_ge k xs.length with hlt | hge
   ·have hc1:((k:Nat):Int) < (xs.length:Int):=by omega
    have hr:xs[k]? = some xs[k]:=List.getElem?_eq_getElem hlt
    have hix:=ixn hr
    have hx:=h _ (List.getElem_mem hlt)
    have hgd:xs.getD k []=xs[k]:=by simp [hlt]
    have hc:=clone_b (F:=F) (x:=xs[k]) (by omega)
    have hc2:=clone_s (F:=F) (x:=xs.map (hsh F)) (by simp;omega)
    have hg:∀ (l:List Pc) (y:Pc),l.length≤100->gapp l [y]=some (l ++ [y]):=fun l y h=>gappn (by simp;omega)
    refine .inl ⟨(((k + 1:Nat):Int),((List.range k).map fun i:Nat=>((rt F F (xs.map (hsh F)),(i:Int),()),xs.getD i [],xs.map (hsh F),())) ++ [((rt F F (xs.map (hsh F)),(k:Int),()),xs[k],xs.map (hsh F),())]),by simp only [L39_4,L39_4c,hc1,decide_true,cond_true,hix,hc,hc2,Option.bind_some,w64n (show k < 9223372036854775807 by omega)];rw [hg _ _ (by simp;omega)];rfl,⟨k + 1,rfl,by omega,by rw [List.range_succ,List.map_append,← hgd];rfl⟩,by simp only [Int.toNat_natCast];omega⟩
   ·have hkn:k=xs.length:=by omega
    subst hkn
    refine .inr ⟨_,?_,rfl⟩
    simp only [L39_4,L39_4c,show ¬ ((xs.length:Int) < (xs.length:Int)) by omega,decide_false,cond_false];rfl)
  F ((0:Int),([]:List Pc)) ⟨0,rfl,by omega,rfl⟩ (by simp;omega)
 subst hQ
 exact hz
theorem code_ok {F d t len:Nat} {bs:List (List UInt8)} (hF:2000 + len < F) (h1:1≤d) (h8:d≤8) (hdt:d≤t) (ht:t≤16) (hb1:1≤bs.length) (hbd:bs.length≤d) (hl1:1≤len) (hl2:len≤65536) (h:∀ b ∈ bs,b.length=len) :
  T39 F (d:Int) (t:Int) bs=some (rt F F ((encP d t len bs).map (hsh F)),0,mkP F (encP d t len bs)):=by
 have he:=encode_ok (F:=F) (.inr (by omega)) h1 h8 hdt ht hb1 hbd hl1 hl2 h
 have hm:=encP_mem (d:=d) (t:=t) h
 have hlen:=encP_len d t len bs
 generalize encP d t len bs=xs at he hm hlen
 have hs:=sums_loop (F:=F) (by omega) (xs:=xs) (by omega) (fun x hx=>by rw [hm x hx];exact hl2)
 have hp:=pieces_loop (F:=F) (by omega) (xs:=xs) (by omega) (fun x hx=>by rw [hm x hx];exact hl2)
 have hr:=(t_root (F:=F) (by omega) (l:=xs.map (hsh F)) (by simp;omega) (fun y hy=>by
  obtain ⟨x,hx,rfl⟩:=List.mem_map.1 hy
  exact hsh_len (by omega) (by rw [hm x hx];exact hl2))).1
 simp only [T39,T39c,he,Option.bind_some,bne_self_eq_false,cond_false,hs,elimS,hr,hp]
abbrev Sd:=List UInt8×Int×Int×Int×Int×Int×List Rf×List Pc
def noStripe:Sd:=([],0,0,0,0,1,[],[])
abbrev Me:=Int×List UInt8×Int×Int×Int×Int
def mkErr:Me:=(1,[],0,0,0,0)
def okC (c:Int) (refs:List Rf) (bs:List (List UInt8)):Bool:=refs.all (fun r=>clsOf r.2.2.1 == c) && bs.all (fun b=>(b.length:Int) == c)
theorem has_ok {F:Nat} (hF:50 < F) {n:Int} (h0:0≤n) (h1:n≤32768) (c:Int):T38 F n c=some (clsOf n == c):=by
 have:=(class_in hF h0 h1).1
 simp only [T38,T38c,this,Option.bind_some,beq_self_eq_true,cond_true]
theorem make_loop {F:Nat} (hF:2000 < F) {refs:List Rf} {bs:List (List UInt8)} (hl:refs.length≤1000) (hb:bs.length=refs.length) (hv:∀ r ∈ refs,0≤r.2.2.1∧r.2.2.1≤32768) (c:Int) :
  iter (fun s=>L10_2 F bs c refs (refs.length:Int) s) F (0:Int)=some (bif okC c refs bs then .inl () else .inr mkErr):=by
 obtain ⟨z,hz,hQ⟩:=iter1 (f:=fun s:Int=>L10_2 F bs c refs (refs.length:Int) s)
  (fun s=>∃ k:Nat,s=(k:Int)∧k≤refs.length∧okC c (refs.drop k) (bs.drop k)=okC c refs bs) (fun z=>z=(bif okC c refs bs then .inl () else .inr mkErr)) (fun s=>refs.length - s.toNat) (fun s hs=>by
   obtain ⟨k,e,hk,ha⟩:=hs
   subst e
   rcases Nat.lt_or_ge k refs.length with hlt | hge
   ·have hc1:((k:Nat):Int) < (refs.length:Int):=by omega
    have hr:refs[k]? = some refs[k]:=List.getElem?_eq_getElem hlt
    have hrb:bs[k]? = some (bs[k]'(by omega)):=List.getElem?_eq_getElem (by omega)
    have hix:=ixn hr
    have hixb:=ixn hrb
    have hx:=hv _ (List.getElem_mem hlt)
    have hd:=drop_at hr
    have hdb:=drop_at hrb
    generalize refs[k]=x at hr hix hx hd
    generalize bs[k]'(by omega)=b at hrb hixb hdb
    have hh:=has_ok (F:=F) (by omega) hx.1 hx.2 c
    rw [hd,hdb] at ha
    unfold okC at ha
    simp only [List.all_cons] at ha
    cases h1:clsOf x.2.2.1 == c with
    | false=>
     rw [h1] at ha hh
     simp only [Bool.false_and] at ha
     refine .inr ⟨_,by simp only [L10_2,L10_2c,hc1,decide_true,cond_true,hix,hh,Option.bind_some,Bool.not_false];rfl,?_⟩
     unfold okC;rw [← ha];rfl
    | true=>
     rw [h1] at ha hh
     simp only [Bool.true_and] at ha
     cases h2:(b.length:Int) == c with
     | false=>
      have h2':((b.length:Int) != c)=true:=by simp [bne,h2]
      rw [h2] at ha
      simp only [Bool.false_and,Bool.and_false] at ha
      refine .inr ⟨_,by simp only [L10_2,L10_2c,hc1,decide_true,cond_true,hix,hixb,hh,h2',Option.bind_some,Bool.not_true,cond_false];rfl,?_⟩
      unfold okC;rw [← ha];rfl
     | true=>
      have h2':((b.length:Int) != c)=false:=by simp [bne,h2]
      rw [h2] at ha
      simp only [Bool.true_and] at ha
      exact .inl ⟨((k + 1:Nat):Int),by simp only [L10_2,L10_2c,hc1,decide_true,cond_true,hix,hixb,hh,h2',Option.bind_some,Bool.not_true,cond_false,w64n (show k < 9223372036854775807 by omega)],⟨k + 1,rfl,by omega,ha⟩,by simp only [Int.toNat_natCast];omega⟩
   ·have hkn:k=refs.length:=by omega
    subst hkn
    rw [List.drop_length,← hb,List.drop_length] at ha
    refine .inr ⟨.inl (),?_,by rw [← ha];rfl⟩
    simp [L10_2,L10_2c])
  F (0:Int) ⟨0,rfl,by omega,rfl⟩ (by simp;omega)
 subst hQ
 exact hz
def okMake (vault data total:Int) (refs:List Rf) (bs:List (List UInt8)):Bool:=
 decide (0≤vault∧vault≤11∧1≤data∧data≤8∧data≤total∧total≤16∧1≤refs.length∧(refs.length:Int)≤data∧bs.length=refs.length) && (vRs refs && okC (hc refs) refs bs)
def theStripe (F:Nat) (vault data total:Int) (refs:List Rf) (bs:List (List UInt8)):Sd:=
 (rt F F ((encP data.toNat total.toNat (hc refs).toNat bs).map (hsh F)),vault,hc refs,data,total,0,refs,mkP F (encP data.toNat total.toNat (hc refs).toNat bs))
theorem make_ok {F:Nat} (hF:50000≤F) {vault data total:Int} {refs:List Rf} {bs:List (List UInt8)} (hl:refs.length≤1000) (hb:∀ b ∈ bs,b.length≤40960) :
  T10 F vault data total refs bs=some (bif okMake vault data total refs bs then theStripe F vault data total refs bs else noStripe):=by
 have h30:=valid30 (refs:=refs) hl (F:=F) (by omega)
 have hva:T35 F data total=some (decide (1≤data∧data≤8∧data≤total∧total≤16)):=by
  simp only [T35,T35c]
  by_cases h1:1≤data<;>by_cases h2:data≤8<;>by_cases h3:data≤total<;>by_cases h4:total≤16<;>simp [h1,h2,h3,h4]
 simp only [T10,T10c,h30,hva,Option.bind_some]
 have bad:∀ {p:Prop} [Decidable p] {c:Bool},¬ p->(bif decide p && c then theStripe F vault data total refs bs else noStripe)=noStripe:=fun {p} _ c h=>by simp [h]
 unfold okMake
 by_cases c1:vault < 0
 ·simp only [c1,decide_true,cond_true];rw [bad (by omega)];rfl
 simp only [c1,decide_false,cond_false]
 by_cases c2:11 < vault
 ·simp only [c2,decide_true,cond_true];rw [bad (by omega)];rfl
 simp only [c2,decide_false,cond_false]
 by_cases c3:1≤data∧data≤8∧data≤total∧total≤16
 case neg=>simp only [c3,decide_false,Bool.not_false,cond_true];rw [bad (fun h=>c3 ⟨h.2.2.1,h.2.2.2.1,h.2.2.2.2.1,h.2.2.2.2.2.1⟩)];rfl
 have c3':decide (1≤data∧data≤8∧data≤total∧total≤16)=true:=by simpa using c3
 simp only [c3',Bool.not_true,cond_false]
 by_cases c4:(refs.length:Int) < 1
 ·simp only [c4,decide_true,cond_true];rw [bad (by omega)];rfl
 simp only [c4,decide_false,cond_false]
 by_cases c5:data < (refs.length:Int)
 ·simp only [c5,decide_true,cond_true];rw [bad (by omega)];rfl
 simp only [c5,decide_false,cond_false]
 cases c6:vRs refs with
 | false=>simp only [Bool.not_false,cond_true,Bool.false_and,Bool.and_false,cond_false];rfl
 | true=>
 simp only [Bool.not_true,cond_false,Bool.true_and]
 by_cases c7:bs.length=refs.length
 case neg=>
  have:((bs.length:Int) != (refs.length:Int))=true:=by
   have:¬ (bs.length:Int)=(refs.length:Int):=by omega
   simpa using this
  simp only [this,cond_true];rw [bad (fun h=>c7 h.2.2.2.2.2.2.2.2)];rfl
 have e7:((bs.length:Int) != (refs.length:Int))=false:=by rw [c7];simp
 simp only [e7,cond_false]
 have hsz:=vRs_size c6
 obtain ⟨r,rs,hrs⟩:∃ r rs,refs=r :: rs:=by
  cases refs with
  | nil=>simp at c4
  | cons r rs=>exact ⟨r,rs,rfl⟩
 have hi0:ix refs (0:Int)=some r:=by rw [hrs];exact ixn (i:=0) rfl
 have hr0:=hsz r (by rw [hrs];simp)
 have hcl:=(class_in (F:=F) (by omega) hr0.1 hr0.2).1
 have hhc:hc refs=clsOf r.2.2.1:=by rw [hrs];rfl
 have hlo:=make_loop (F:=F) (by omega) hl c7 hsz (clsOf r.2.2.1)
 have hp:decide (0≤vault∧vault≤11∧1≤data∧data≤8∧data≤total∧total≤16∧1≤refs.length∧(refs.length:Int)≤data∧bs.length=refs.length)=true:=by
  have:=c3;apply decide_eq_true;omega
 simp only [hi0,hcl,hlo,Option.bind_some,hp,Bool.true_and,hhc]
 cases c8:okC (clsOf r.2.2.1) refs bs with
 | false=>simp only [cond_false,elimS];rfl
 | true=>
 simp only [cond_true,elimS]
 obtain ⟨d,rfl⟩:∃ d:Nat,data=(d:Int):=⟨data.toNat,by omega⟩
 obtain ⟨t,rfl⟩:∃ t:Nat,total=(t:Int):=⟨total.toNat,by omega⟩
 have hge:=clsOf_ge r.2.2.1
 obtain ⟨len,hlen⟩:∃ len:Nat,clsOf r.2.2.1=(len:Int):=⟨(clsOf r.2.2.1).toNat,by omega⟩
 have hbl:∀ b ∈ bs,b.length=len:=fun b hb'=>by
  unfold okC at c8
  simp only [Bool.and_eq_true] at c8
  have:=List.all_eq_true.1 c8.2 b hb'
  rw [hlen] at this
  have:(b.length:Int)=(len:Int):=by simpa using this
  omega
 have hl2:len≤40960:=by
  cases bs with
  | nil=>rw [hrs] at c7;simp at c7
  | cons b bs=>rw [← hbl b (by simp)];exact hb b (by simp)
 have hco:=code_ok (F:=F) (d:=d) (t:=t) (len:=len) (bs:=bs) (by omega) (by omega) (by omega) (by omega) (by omega) (by rw [c7,hrs];simp) (by omega) (by omega) (by omega) hbl
 have hcr:=clone_r (F:=F) (x:=refs) (by omega)
 simp only [hco,Option.bind_some,bne_self_eq_false,cond_false,hcr]
 unfold theStripe
 rw [hhc,hlen]
 simp only [Int.toNat_natCast]
theorem r_leaf {F:Nat} {x:List UInt8} (hF:420 + x.length < F) (hb:x.length < 900000):T156 F x=some (sh F (0 :: x)):=by
 have hg:gapp ([(UInt8.ofNat 0)]:List UInt8) x=some (0 :: x):=gappn (by simp;omega)
 have:=(sh_some (F:=F) (x:=0 :: x) (by simp;omega) (by simp;omega)).1
 simp only [T156,T156c,hg,this,Option.bind_some]
theorem r_node {F:Nat} {x y:List UInt8} (hF:420 + x.length + y.length < F) (hb:x.length + y.length < 900000):T91 F x y=some (sh F (1 :: (x ++ y))):=by
 have hs:=(sh_some (F:=F) (x:=1 :: (x ++ y)) (by simp;omega) (by simp;omega)).1
 have gc:∀ {a b:List UInt8},a.length + b.length < 1000000000->gcat a b=some (a ++ b):=fun h=>by unfold gcat;rw [if_pos (by first | omega | (simp;omega))]
 have i0:ix ([[1],x,y]:List (List UInt8)) (0:Int)=some [1]:=ixn (i:=0) rfl
 have i1:ix ([[1],x,y]:List (List UInt8)) (1:Int)=some x:=ixn (i:=1) rfl
 have i2:ix ([[1],x,y]:List (List UInt8)) (2:Int)=some y:=ixn (i:=2) rfl
 have l3:(([[1],x,y]:List (List UInt8)).length:Int)=3:=rfl
 have w1:w64 ((0:Int) + 1)=1:=by decide
 have w2:w64 ((1:Int) + 1)=2:=by decide
 have w3:w64 ((2:Int) + 1)=3:=by decide
 have g1:gcat ([]:List UInt8) [1]=some [1]:=gc (by simp)
 have g2:gcat ([1]:List UInt8) x=some ([1] ++ x):=gc (by simp;omega)
 have g3:gcat ([1] ++ x) y=some ([1] ++ x ++ y):=gc (by simp;omega)
 obtain ⟨n,rfl⟩:∃ n,F=n + 4:=⟨F - 4,by omega⟩
 have hloop:iter (fun s:List UInt8×Int=>L130_2 (n + 4) [[1],x,y] (([[1],x,y]:List (List UInt8)).length:Int) s.1 s.2) (n + 4) (([]:List UInt8),(0:Int))=some ([1] ++ x ++ y):=by
  rw [l3]
  rw [it_again' (s':=([1],1)) (by simp only [L130_2,L130_2c,show ((0:Int) < 3) from by omega,decide_true,cond_true,i0,g1,Option.bind_some,w1]),
   it_again' (s':=([1] ++ x,2)) (by simp only [L130_2,L130_2c,show ((1:Int) < 3) from by omega,decide_true,cond_true,i1,g2,Option.bind_some,w2]),
   it_again' (s':=([1] ++ x ++ y,3)) (by simp only [L130_2,L130_2c,show ((2:Int) < 3) from by omega,decide_true,cond_true,i2,g3,Option.bind_some,w3]),
   it_out' (r:=[1] ++ x ++ y) (by simp only [L130_2,L130_2c,show ¬((3:Int) < 3) from by omega,decide_false,cond_false])]
 have hgs:gstr ([1] ++ x ++ y)=some (1 :: (x ++ y)):=by unfold gstr;rw [if_pos (by simp;omega)];simp
 simp only [T91,T91c,T130,T130c,hloop,hgs,hs,Option.bind_some]
theorem rsp_all:∀ n:Fin 140,2≤n.val->iter (fun s:Int=>L90_2 0 (n.val:Int) s) 10 (1:Int)=some ((sp n.val:Nat):Int):=by decide +kernel
theorem rsp_at {n:Nat} (h1:2≤n) (h2:n < 140) {F:Nat} (hF:10≤F):T90 F (n:Int)=some ((sp n:Nat):Int):=by
 have h:iter (fun s:Int=>L90_2 F (n:Int) s) F (1:Int)=some ((sp n:Nat):Int):=iter_mono (rsp_all ⟨n,h2⟩ h1) hF
 simp only [T90,T90c,h,Option.bind_some]
theorem rroot_g {F:Nat} (hF:2000 < F):∀ (g:Nat) (l:List (List UInt8)),l.length≤g->0 < g->l.length < 140->(∀ x ∈ l,x.length=32)->T51g F g l=some (rt F g l)
 | 0,l,hg,h0,hl,h=>by omega
 | g + 1,l,hg,h0,hl,h=>by
  show T51r F (T51g F g) l=_
  simp only [T51r,T51rc,rt]
  by_cases c0:l.length=0
  ·have e0:((l.length:Int) == 0)=true:=by simpa using c0
   have:=(sh_some (F:=F) (x:=[]) (by simp;omega) (by simp)).1
   simp only [e0,cond_true,this,Option.bind_some,if_pos c0]
  ·have e0:((l.length:Int) == 0)=false:=by simpa using c0
   by_cases c1:l.length=1
   ·have e1:((l.length:Int) == 1)=true:=by rw [c1];rfl
    simp only [e0,e1,cond_true,cond_false,if_neg c0,if_pos c1]
    cases l with
    | nil=>simp at c1
    | cons x l=>
     have:ix (x :: l) (0:Int)=some x:=ixn (i:=0) rfl
     rw [this];rfl
   ·have e1:((l.length:Int) == 1)=false:=by
     have:¬ (l.length:Int)=1:=by omega
     simpa using this
    obtain ⟨_,h1,h2⟩:=sp_at (n:=l.length) (by omega) hl F
    have h3:=rsp_at (n:=l.length) (by omega) hl (F:=F) (by omega)
    have ha:=rroot_g hF g (l.take (sp l.length)) (by simp;omega) (by omega) (by simp;omega) fun x hx=>h x (List.mem_of_mem_take hx)
    have hb:=rroot_g hF g (l.drop (sp l.length)) (by simp;omega) (by omega) (by simp;omega) fun x hx=>h x (List.mem_of_mem_drop hx)
    have la:=rt_len hF g (l.take (sp l.length)) (by simp;omega) (by simp;omega) fun x hx=>h x (List.mem_of_mem_take hx)
    have lb:=rt_len hF g (l.drop (sp l.length)) (by simp;omega) (by simp;omega) fun x hx=>h x (List.mem_of_mem_drop hx)
    have la:(rt F g (l.take (sp l.length))).length=32:=by
     rcases la with ⟨h3,h4⟩ | ha
     ·omega
     ·exact ha
    have lb:(rt F g (l.drop (sp l.length))).length=32:=by
     rcases lb with ⟨h3,h4⟩ | hb
     ·omega
     ·exact hb
    have hn:=r_node (F:=F) (x:=rt F g (l.take (sp l.length))) (y:=rt F g (l.drop (sp l.length))) (by omega) (by omega)
    simp only [e0,e1,cond_false,h3,Option.bind_some,gsl_lo (Nat.le_of_lt h2),gsl_hi (Nat.le_of_lt h2),ha,hb,hn,if_neg c0,if_neg c1]
theorem r_root {F:Nat} (hF:2000 < F) {l:List (List UInt8)} (hl:l.length < 140) (h:∀ x ∈ l,x.length=32):T51 F l=some (rt F F l):=rroot_g hF F l (by omega) (by omega) hl h
theorem rlp_blocks {F:Nat} (hF:2000 < F):∀ (n fuel:Nat) (x:List UInt8) (acc:List (List UInt8)),x.length≤512 * n->n < fuel->acc.length + n < 100000->iter (fun s:List UInt8×List (List UInt8)=>L127_2 F (512:Int) s.1 s.2) fuel (x,acc)=some (acc ++ blk F n x)
 | n,0,x,acc,_,hf,_=>by omega
 | 0,fuel + 1,x,acc,hx,hf,_=>by
  have:¬ (0:Int) < (x.length:Int):=by omega
  refine (it_out' (s:=(x,acc)) (r:=acc) (by simp only [L127_2,L127_2c,this,decide_false,cond_false])).trans (by simp only [blk,List.append_nil])
 | n + 1,fuel + 1,x,acc,hx,hf,ha=>by
  by_cases h0:x.length=0
  ·have:¬ (0:Int) < (x.length:Int):=by omega
   refine (it_out' (s:=(x,acc)) (r:=acc) (by simp only [L127_2,L127_2c,this,decide_false,cond_false])).trans (by simp only [blk,if_pos h0,List.append_nil])
  ·have h1:(0:Int) < (x.length:Int):=by omega
   have hm:min 512 x.length≤x.length:=Nat.min_le_right _ _
   have hl:=r_leaf (F:=F) (x:=x.take 512) (by simp;omega) (by simp;omega)
   have ht:x.take (min 512 x.length)=x.take 512:=by rw [← List.take_take,List.take_length]
   have hd:x.drop (min 512 x.length)=x.drop 512:=by
    rcases Nat.le_total 512 x.length with h | h
    ·rw [Nat.min_eq_left h]
    ·rw [Nat.min_eq_right h,List.drop_length,List.drop_eq_nil_of_le h]
   have hg:gapp acc ([sh F (0 :: x.take 512)]:List (List UInt8))=some (acc ++ [sh F (0 :: x.take 512)]):=gappn (by simp;omega)
   have ih:=rlp_blocks hF n fuel (x.drop 512) (acc ++ [sh F (0 :: x.take 512)]) (by simp;omega) (by omega) (by simp;omega)
   refine (it_again' (s:=(x,acc)) (s':=(x.drop 512,acc ++ [sh F (0 :: x.take 512)])) (by simp only [L127_2,L127_2c,h1,decide_true,cond_true,cut512,gsl_lo hm,gsl_hi hm,ht,hd,hl,hg,Option.bind_some])).trans (ih.trans (by simp only [blk,if_neg h0,List.append_assoc,List.singleton_append]))
theorem r_psum {F:Nat} (hF:2000 < F) {x:List UInt8} (hx:x.length≤65536):T50 F x=some (hsh F x):=by
 have hl:=rlp_blocks hF 128 F x [] (by omega) (by omega) (by simp)
 have hb:=blk_len F 128 x
 have h1:=r_root hF (l:=blk F 128 x) (by omega) (blk_32 hF 128 x)
 have h3:¬ (1048576:Int) < (x.length:Int):=by omega
 have h4:¬ (512:Int) < (1:Int):=by omega
 rw [List.nil_append] at hl
 have hB:T127 F x (512:Int)=some ((0:Int),blk F 128 x):=by
  simp only [T127,T127c,h3,h4,decide_false,cond_false,hl,Option.bind_some]
 simp only [T50,T50c,T88,T88c,hB,Option.bind_some,bne_self_eq_false,cond_false,h1]
 rfl
theorem ixor_n {a b:Nat} (ha:a < 256) (hb:b < 256):ixor (a:Int) (b:Int)=((a ^^^ b:Nat):Int):=by
 have h:a ^^^ b < 256:=Nat.xor_lt_two_pow (n:=8) ha hb
 have e:(BitVec.ofInt 64 (a:Int) ^^^ BitVec.ofInt 64 (b:Int)).toNat=a ^^^ b:=by
  rw [BitVec.toNat_xor,BitVec.ofInt_natCast,BitVec.ofInt_natCast,BitVec.toNat_ofNat,BitVec.toNat_ofNat,Nat.mod_eq_of_lt (by omega),Nat.mod_eq_of_lt (by omega)]
 show w64 (((BitVec.ofInt 64 (a:Int) ^^^ BitVec.ofInt 64 (b:Int)).toNat:Nat):Int)=_
 rw [e,w64_in (by omega) (by omega)]
theorem ixor8 (a b:UInt8):ixor (a.toNat:Int) (b.toNat:Int)=((a ^^^ b).toNat:Int):=by
 rw [ixor_n (by have:=a.toNat_lt;omega) (by have:=b.toNat_lt;omega),UInt8.toNat_xor]
theorem dblI (x:UInt8):(if (255:Int) < w64 ((x.toNat:Int) * 2 ^ min ((UInt64.ofNat 1).toNat) 64) then ixor (w64 ((x.toNat:Int) * 2 ^ min ((UInt64.ofNat 1).toNat) 64)) 285 else w64 ((x.toNat:Int) * 2 ^ min ((UInt64.ofNat 1).toNat) 64))=((gd x).toNat:Int):=
 allU (p:=fun x=>(if (255:Int) < w64 ((x.toNat:Int) * 2 ^ min ((UInt64.ofNat 1).toNat) 64) then ixor (w64 ((x.toNat:Int) * 2 ^ min ((UInt64.ofNat 1).toNat) 64)) 285 else w64 ((x.toNat:Int) * 2 ^ min ((UInt64.ofNat 1).toNat) 64))=((gd x).toNat:Int)) (by decide +kernel) x
theorem shr_next {k:Nat} (hk:k < 8) (b:UInt8):shr8 b (k + 1)=(shr8 b k) >>> 1:=by
 have:∀ k:_root_.Fin 8,∀ i:_root_.Fin 256,shr8 (UInt8.ofNat i.val) (k.val + 1)=(shr8 (UInt8.ofNat i.val) k.val) >>> 1:=by decide +kernel
 exact allU (p:=fun b=>shr8 b (k + 1)=(shr8 b k) >>> 1) (this ⟨k,hk⟩) b
theorem rmul_step (F:Nat) (b x s:UInt8) {k:Nat} (hk:k < 8):L138_2 F b (x.toNat:Int) (s.toNat:Int) (k:Int)=some (.inl (((gd x).toNat:Int),((s ^^^ bit0 (shr8 b k) x).toNat:Int),((k + 1:Nat):Int))):=by
 have h:(k:Int) < 8:=by omega
 have hg:gnn (k:Int)=some k:=by unfold gnn;rw [if_pos (by omega)];simp
 have hd:=dblI x
 have hw:=w64n (n:=k) (by omega)
 have e1:((shr8 b k &&& UInt8.ofNat 1) == UInt8.ofNat 1)=((shr8 b k &&& 1) == 1):=rfl
 simp only [L138_2,L138_2c,h,decide_true,cond_true,hg,Option.bind_some,hw,e1,ixor8]
 unfold bit0
 cases (shr8 b k &&& 1) == 1 with
 | true=>
  simp only [cond_true]
  by_cases hb:(255:Int) < w64 ((x.toNat:Int) * 2 ^ min ((UInt64.ofNat 1).toNat) 64)
  ·rw [if_pos hb] at hd;simp only [hb,decide_true,cond_true,hd]
  ·rw [if_neg hb] at hd;simp only [hb,decide_false,cond_false];rw [hd]
 | false=>
  simp only [cond_false,xz]
  by_cases hb:(255:Int) < w64 ((x.toNat:Int) * 2 ^ min ((UInt64.ofNat 1).toNat) 64)
  ·rw [if_pos hb] at hd;simp only [hb,decide_true,cond_true,hd]
  ·rw [if_neg hb] at hd;simp only [hb,decide_false,cond_false];rw [hd]
theorem rmul_loop (F:Nat) (b:UInt8):∀ (m k fuel:Nat) (x s:UInt8),k + m=8->m < fuel->iter (fun s:Int×Int×Int=>L138_2 F b s.1 s.2.1 s.2.2) fuel ((x.toNat:Int),(s.toNat:Int),(k:Int))=some ((s ^^^ gml m x (shr8 b k)).toNat:Int)
 | 0,k,fuel + 1,x,s,hk,_=>by
  have:¬ (k:Int) < 8:=by omega
  refine (it_out' (s:=((x.toNat:Int),(s.toNat:Int),(k:Int))) (r:=(s.toNat:Int)) (by simp only [L138_2,L138_2c,this,decide_false,cond_false])).trans ?_
  simp only [gml,xz]
 | m + 1,k,fuel + 1,x,s,hk,hf=>by
  refine (it_again' (s:=((x.toNat:Int),(s.toNat:Int),(k:Int))) (rmul_step F b x s (by omega))).trans ((rmul_loop F b m (k + 1) fuel _ _ (by omega) (by omega)).trans ?_)
  rw [shr_next (by omega)]
  simp only [gml,UInt8.xor_assoc]
theorem ofInt_toNat (x:UInt8):UInt8.ofInt (x.toNat:Int)=x:=allU (p:=fun x=>UInt8.ofInt (x.toNat:Int)=x) (by decide +kernel) x
theorem r_mul {F:Nat} (hF:20 < F) (a b:UInt8):T138 F a b=some (gm a b):=by
 have h:=rmul_loop F b 8 0 F a 0 rfl (by omega)
 have e:shr8 b 0=b:=allU (p:=fun b=>shr8 b 0=b) (by decide +kernel) b
 rw [e,zx] at h
 have h:iter (fun s:Int×Int×Int=>L138_2 F b s.1 s.2.1 s.2.2) F ((a.toNat:Int),(0:Int),(0:Int))=some ((gml 8 a b).toNat:Int):=h
 simp only [T138,T138c,h,Option.bind_some,ofInt_toNat];rfl
theorem ofInt_nat {i:Nat} (h:i < 256):UInt8.ofInt (i:Int)=UInt8.ofNat i:=by
 have:∀ i:_root_.Fin 256,UInt8.ofInt (i.val:Int)=UInt8.ofNat i.val:=by decide +kernel
 exact this ⟨i,h⟩
theorem gm_uniq {a x y:UInt8} (hx:gm a x=1) (hy:gm a y=1):x=y:=by
 have h1:gm x (gm a y)=x:=by rw [hy,gm_one]
 have h2:gm (gm x a) y=y:=by rw [gm_comm x a,hx,one_gm]
 rw [← h1,← gm_assoc,h2]
theorem one_ne:(0:UInt8) ≠ 1:=by decide
theorem r_inv {F:Nat} (hF:300 < F) (a:UInt8):T135 F a=some (gi a):=by
 obtain ⟨z,hz,hQ⟩:=iter1 (f:=fun s:Int=>L135_2 F a s)
  (fun s=>∃ k:Nat,s=(k:Int)∧1≤k∧k≤256∧∀ i:Nat,1≤i->i < k->gm a (UInt8.ofNat i) ≠ 1) (fun z=>z=.inl ()∧gi a=0∨z=.inr (gi a)) (fun s=>256 - s.toNat) (fun s hs=>by
   obtain ⟨k,e,hk1,hk,ha⟩:=hs
   subst e
   rcases Nat.lt_or_ge k 256 with hlt | hge
   ·have hc1:((k:Nat):Int) < 256:=by omega
    by_cases h1:gm a (UInt8.ofNat k)=1
    ·refine .inr ⟨.inr (UInt8.ofNat k),?_,.inr ?_⟩
     ·have e1:((1:UInt8) == UInt8.ofNat 1)=true:=rfl
      simp only [L135_2,L135_2c,hc1,decide_true,cond_true,ofInt_nat hlt,r_mul (show 20 < F by omega),Option.bind_some,h1,e1]
     ·have ha0:a ≠ 0:=fun e=>by rw [e,zero_gm] at h1;exact one_ne h1
      rw [gm_uniq h1 (gi_ok a ha0)]
    ·refine .inl ⟨((k + 1:Nat):Int),?_,⟨k + 1,rfl,by omega,by omega,fun i hi1 hi2=>?_⟩,by simp only [Int.toNat_natCast];omega⟩
     ·have e1:(gm a (UInt8.ofNat k) == UInt8.ofNat 1)=false:=by
       have h2:gm a (UInt8.ofNat k) ≠ UInt8.ofNat 1:=h1
       simpa using h2
      simp only [L135_2,L135_2c,hc1,decide_true,cond_true,ofInt_nat hlt,r_mul (show 20 < F by omega),Option.bind_some,e1,cond_false,w64n (show k < 9223372036854775807 by omega)]
     ·by_cases hik:i=k
      ·subst hik;exact h1
      ·exact ha i hi1 (by omega)
   ·have hkn:k=256:=by omega
    subst hkn
    refine .inr ⟨.inl (),?_,.inl ⟨rfl,?_⟩⟩
    ·simp [L135_2,L135_2c]
    ·by_cases ha0:a=0
     ·rw [ha0];exact gi_zero
     ·have h1:=gi_ok a ha0
      have h2:UInt8.ofNat (gi a).toNat=gi a:=UInt8.ofNat_toNat
      have h3:(gi a).toNat ≠ 0:=fun e=>by
       have:gi a=0:=UInt8.toNat_inj.1 (by simpa using e)
       rw [this,gm_zero] at h1;exact one_ne h1
      exact absurd (by rw [h2];exact h1) (ha (gi a).toNat (by omega) (by have:=(gi a).toNat_lt;omega)))
  F (1:Int) ⟨1,rfl,by omega,by omega,fun i h1 h2=>by omega⟩ (by simp;omega)
 simp only [T135,T135c,hz,Option.bind_some]
 rcases hQ with ⟨rfl,h⟩ | rfl
 ·rw [h];rfl
 ·rfl
theorem r_row {F d i:Nat} (hF:300 < F) (hd:d≤8) (hi:i < 16):T98 F (d:Int) (i:Int)=some (rowD d i):=by
 have hg:=gmaken (0:UInt8) (n:=d) (by omega)
 obtain ⟨r,r1,r2,_,r4⟩:=fill_loop (N:=d) (f:=fun s:Int×List UInt8=>L98_2 F (d:Int) (i:Int) s.1 s.2) (g:=fun c x=>if d≤i then gi (UInt8.ofNat (i ^^^ c)) else if i=c then 1 else x) (by omega)
  (fun c l h1 h2=>by
   have hc1:((c:Nat):Int) < (d:Int):=by omega
   have hb:inb l.length (c:Int)=some c:=inbn h1
   have hw:=w64n (n:=c) (by omega)
   have hx:=ixor_ij hi (show c < 8 by omega)
   by_cases hdi:d≤i
   ·have e1:¬ (i:Int) < (d:Int):=by omega
    have e2:(d:Int)≤(i:Int):=by omega
    simp only [L98_2,L98_2c,hc1,e1,e2,decide_true,decide_false,cond_true,cond_false,hx,r_inv hF,Option.bind_some,hb,hw,if_pos hdi]
   ·have e1:(i:Int) < (d:Int):=by omega
    have e2:¬ (d:Int)≤(i:Int):=by omega
    by_cases hic:i=c
    ·have e3:((i:Int) == (c:Int))=true:=by rw [hic];simp
     simp only [L98_2,L98_2c,hc1,e1,e2,e3,decide_true,decide_false,cond_true,cond_false,Option.bind_some,hb,hw,if_neg hdi,if_pos hic];rfl
    ·have e3:((i:Int) == (c:Int))=false:=by
      have:¬ (i:Int)=(c:Int):=by omega
      simpa using this
     simp only [L98_2,L98_2c,hc1,e1,e2,e3,decide_true,decide_false,cond_true,cond_false,hw,if_neg hdi,if_neg hic,List.set_getElem_self])
  (fun l hl=>by simp [L98_2,L98_2c])
  d 0 F (List.replicate d 0) (by omega) (by simp) (by omega)
 have r1:iter (fun s:Int×List UInt8=>L98_2 F (d:Int) (i:Int) s.1 s.2) F ((0:Int),List.replicate d 0)=some r:=r1
 have hr:r=rowD d i:=by
  apply List.ext_getElem
  ·simp [r2,rowD_len]
  ·intro c h1 h2
   rw [r4 c h1 (by simp;omega) (by omega)]
   simp [rowD,cell]
 subst hr
 simp only [T98,T98c,hg,Option.bind_some,r1]
def cmb1:List UInt8->List (List UInt8)->Nat->UInt8->UInt8
 | a :: r,b :: bs,k,acc=>cmb1 r bs k (acc ^^^ gm a (b.getD k 0))
 | [],_,_,acc=>acc
 | _,[],_,acc=>acc
theorem comb_get {len:Nat}:∀ {r:List UInt8} {bs:List (List UInt8)} {acc:List UInt8} {k:Nat},k < len->(∀ b ∈ bs,b.length=len)->acc.length=len->(comb r bs acc).getD k 0=cmb1 r bs k (acc.getD k 0)
 | a :: r,b :: bs,acc,k,hk,h,ha=>by
  have hb:=h b (by simp)
  simp only [comb,cmb1]
  rw [comb_get hk (fun b' hb'=>h b' (by simp [hb'])) (by rw [vadd_len (by omega),ha])]
  congr 1
  simp [vadd,List.getElem?_zipWith,hk,ha,hb]
 | [],_,acc,k,_,_,_=>by simp [comb,cmb1]
 | _ :: _,[],acc,k,_,_,_=>by simp [comb,cmb1]
theorem cmb1_pad {len n k:Nat}:∀ {r:List UInt8} {bs:List (List UInt8)} {acc:UInt8},cmb1 r (bs ++ List.replicate n (List.replicate len 0)) k acc=cmb1 r bs k acc
 | a :: r,b :: bs,acc=>by simp only [List.cons_append,cmb1];exact cmb1_pad
 | [],bs,acc=>by simp [cmb1]
 | a :: r,[],acc=>by
  have:∀ (n:Nat) (r:List UInt8) (acc:UInt8),cmb1 r (List.replicate n (List.replicate len 0)) k acc=acc:=by
   intro n
   induction n with
   | zero=>intro r acc;cases r<;>simp [cmb1]
   | succ n ih=>
    intro r acc
    cases r with
    | nil=>simp [cmb1]
    | cons a r=>
     have h0:(List.replicate len (0:UInt8)).getD k 0=0:=by
      rw [List.getD_eq_getElem?_getD,List.getElem?_replicate];split<;>rfl
     simp only [List.replicate_succ,cmb1,h0,gm_zero,xz];exact ih r acc
  simp only [List.nil_append,this,cmb1]
theorem cmb1_snoc:∀ (r:List UInt8) (bs:List (List UInt8)) (k:Nat) (acc a:UInt8) (b:List UInt8),r.length=bs.length->cmb1 (r ++ [a]) (bs ++ [b]) k acc=cmb1 r bs k acc ^^^ gm a (b.getD k 0)
 | [],[],k,acc,a,b,_=>rfl
 | x :: r,y :: bs,k,acc,a,b,h=>by simp only [List.cons_append,cmb1];exact cmb1_snoc r bs k _ a b (by simpa using h)
 | [],_ :: _,_,_,_,_,h=>by simp at h
 | _ :: _,[],_,_,_,_,h=>by simp at h
theorem cmb1_take:∀ (r:List UInt8) (bs:List (List UInt8)) (k:Nat) (acc:UInt8),cmb1 (r.take bs.length) bs k acc=cmb1 r bs k acc
 | [],bs,k,acc=>by simp
 | a :: r,[],k,acc=>by simp [cmb1]
 | a :: r,b :: bs,k,acc=>by simp only [List.length_cons,List.take_succ_cons,cmb1];exact cmb1_take r bs k _
theorem r_place {F len:Nat} (hF:300 < F) {bs:List (List UInt8)} {row:List UInt8} (hb:∀ b ∈ bs,b.length=len) (hl:bs.length≤row.length) (hl2:bs.length≤100) {k:Nat} {out:List UInt8} (hk:k < out.length) (ho:out.length=len) :
  iter (fun s:Int×List UInt8=>L120_4 F bs (k:Int) row s.1 s.2) F ((0:Int),out)=some (out.set k (cmb1 row bs k out[k])):=by
 obtain ⟨z,hz,hQ⟩:=iter1 (f:=fun s:Int×List UInt8=>L120_4 F bs (k:Int) row s.1 s.2)
  (fun s=>∃ c:Nat,s.1=(c:Int)∧c≤bs.length∧s.2=out.set k (cmb1 (row.take c) (bs.take c) k out[k])) (fun z=>z=out.set k (cmb1 row bs k out[k])) (fun s=>bs.length - s.1.toNat) (fun s hs=>by
   obtain ⟨c,e,hc,hl3⟩:=hs
   obtain ⟨s1,l⟩:=s
   simp only at e hl3
   subst e hl3
   rcases Nat.lt_or_ge c bs.length with hlt | hge
   ·have hc1:((c:Nat):Int) < (bs.length:Int):=by omega
    have hr:bs[c]? = some bs[c]:=List.getElem?_eq_getElem hlt
    have hrr:row[c]? = some (row[c]'(by omega)):=List.getElem?_eq_getElem (by omega)
    have hbl:=hb _ (List.getElem_mem hlt)
    generalize bs[c]=b at hr hbl
    generalize row[c]'(by omega)=a at hrr
    have hbk:b[k]? = some (b[k]'(by omega)):=List.getElem?_eq_getElem (by omega)
    have hgd:b.getD k 0=b[k]'(by omega):=by simp [show k < b.length by omega]
    have hi1:∀ y:UInt8,inb (out.set k y).length (k:Int)=some k:=fun y=>inbn (by simp;exact hk)
    have hi2:inb row.length (c:Int)=some c:=inbn (by omega)
    have hy:∀ y:UInt8,(out.set k y)[k]? = some y:=fun y=>List.getElem?_set_self hk
    refine .inl ⟨(((c + 1:Nat):Int),out.set k (cmb1 (row.take (c + 1)) (bs.take (c + 1)) k out[k])),?_,⟨c + 1,rfl,by omega,rfl⟩,by simp only [Int.toNat_natCast];omega⟩
    simp only [L120_4,L120_4c,hc1,decide_true,cond_true,hi1,hi2,hy,hrr,ixn hr,ixn hbk,r_mul (show 20 < F by omega),Option.bind_some,w64n (show c < 9223372036854775807 by omega),List.set_set]
    rw [takeS' hr,takeS' hrr,cmb1_snoc _ _ _ _ _ _ (by simp;omega),hgd]
   ·have hcn:c=bs.length:=by omega
    subst hcn
    refine .inr ⟨_,?_,rfl⟩
    rw [List.take_length,cmb1_take]
    simp only [L120_4,L120_4c,show ¬ ((bs.length:Int) < (bs.length:Int)) by omega,decide_false,cond_false])
  F ((0:Int),out) ⟨0,rfl,by omega,by simp [cmb1]⟩ (by simp;omega)
 subst hQ
 exact hz
theorem r_piece {F d i len:Nat} (hF:300 + len < F) (hd:d≤8) (hi:i < 16) {bs:List (List UInt8)} (hb1:1≤bs.length) (hbd:bs.length≤d) (hl2:len≤65536) (hb:∀ b ∈ bs,b.length=len):T120 F (d:Int) (i:Int) bs=some (comb (rowD d i) (padB d len bs) (List.replicate len 0)):=by
 have hrow:=r_row (F:=F) (by omega) hd hi
 have hi0:ix bs (0:Int)=some (bs[0]'(by omega)):=ixn (i:=0) (List.getElem?_eq_getElem (by omega))
 have hl0:=hb _ (List.getElem_mem (h:=(by omega:0 < bs.length)))
 have hg:=gmaken (0:UInt8) (n:=len) (by omega)
 obtain ⟨r,r1,r2,_,r4⟩:=fill_loop (N:=len) (f:=fun s:Int×List UInt8=>L120_3 F bs (rowD d i) s.1 s.2) (g:=fun k x=>cmb1 (rowD d i) bs k x) (by omega)
  (fun k l h1 h2=>by
   have hc1:((k:Nat):Int) < (l.length:Int):=by omega
   have hp:=r_place (F:=F) (by omega) hb (row:=rowD d i) (by rw [rowD_len];exact hbd) (by omega) h1 h2
   simp only [L120_3,L120_3c,hc1,decide_true,cond_true,hp,Option.bind_some,w64n (show k < 9223372036854775807 by omega)])
  (fun l hl=>by simp [L120_3,L120_3c,hl])
  len 0 F (List.replicate len 0) (by omega) (by simp) (by omega)
 have r1:iter (fun s:Int×List UInt8=>L120_3 F bs (rowD d i) s.1 s.2) F ((0:Int),List.replicate len 0)=some r:=r1
 have hr:r=comb (rowD d i) (padB d len bs) (List.replicate len 0):=by
  have hcl:(comb (rowD d i) (padB d len bs) (List.replicate len 0)).length=len:=by rw [comb_len (fun b hb'=>by rw [padB_len hb b hb'];simp)];simp
  apply List.ext_getElem
  ·rw [r2,hcl]
  ·intro k h1 h2
   have hk:k < len:=by omega
   rw [r4 k h1 (by simp;omega) (by omega)]
   have:=comb_get (len:=len) (r:=rowD d i) (bs:=padB d len bs) (acc:=List.replicate len 0) hk (padB_len hb) (by simp)
   have e1:(comb (rowD d i) (padB d len bs) (List.replicate len 0)).getD k 0=(comb (rowD d i) (padB d len bs) (List.replicate len 0))[k]:=by simp [h2]
   rw [← e1,this]
   unfold padB
   rw [cmb1_pad]
   congr 1
   simp [hk]
 subst hr
 simp only [T120,T120c,hrow,Option.bind_some,hi0,hl0,hg,r1]
theorem r_encode {F d t len:Nat} (hF:300 + len < F) (hd:d≤8) (ht:t≤16) {bs:List (List UInt8)} (hb1:1≤bs.length) (hbd:bs.length≤d) (hl2:len≤65536) (hb:∀ b ∈ bs,b.length=len):T82 F (d:Int) (t:Int) bs=some (encP d t len bs):=by
 obtain ⟨z,hz,hQ⟩:=iter1 (f:=fun s:Int×List (List UInt8)=>L82_2 F (d:Int) (t:Int) bs s.1 s.2)
  (fun s=>∃ k:Nat,s.1=(k:Int)∧k≤t∧s.2=encP d k len bs) (fun z=>z=encP d t len bs) (fun s=>t - s.1.toNat) (fun s hs=>by
   obtain ⟨k,e,hk,hl3⟩:=hs
   obtain ⟨s1,l⟩:=s
   simp only at e hl3
   subst e hl3
   rcases Nat.lt_or_ge k t with hlt | hge
   ·have hc1:((k:Nat):Int) < (t:Int):=by omega
    have hp:=r_piece hF hd (i:=k) (by omega) hb1 hbd hl2 hb
    have hg:gapp (encP d k len bs) [comb (rowD d k) (padB d len bs) (List.replicate len 0)]=some (encP d k len bs ++ [comb (rowD d k) (padB d len bs) (List.replicate len 0)]):=gappn (by rw [encP_len];simp;omega)
    exact .inl ⟨(((k + 1:Nat):Int),encP d k len bs ++ [comb (rowD d k) (padB d len bs) (List.replicate len 0)]),by simp only [L82_2,L82_2c,hc1,decide_true,cond_true,hp,hg,Option.bind_some,w64n (show k < 9223372036854775807 by omega)],⟨k + 1,rfl,by omega,by simp only [encP];rw [List.range_succ,List.map_append];rfl⟩,by simp only [Int.toNat_natCast];omega⟩
   ·have hkn:k=t:=by omega
    subst hkn
    refine .inr ⟨_,?_,rfl⟩
    simp only [L82_2,L82_2c,show ¬ ((k:Int) < (k:Int)) by omega,decide_false,cond_false])
  F ((0:Int),([]:List (List UInt8))) ⟨0,rfl,by omega,rfl⟩ (by simp;omega)
 subst hQ
 simp only [T82,T82c,hz,Option.bind_some]
def E20 (F:Nat):Ev:=⟨cfg,13,ctOf [(16,ct16 F),(52,ct52 F)],fun _=>[],ctOf [],fun _=>none,fun _=>none⟩
theorem cts20 (F:Nat):CtsOk Tryz.prog (E20 F):=cts_of (l:=[(16,ct16 F),(52,ct52 F)]) (l':=[]) rfl rfl ⟨⟨ok16 F,_,Tryz.func16,rfl,rfl⟩,⟨⟨ok52 F,_,Tryz.func52,rfl,rfl⟩,trivial⟩⟩ trivial
def T20c (F:Nat) (p0:List UInt8) (p1:Int) (p2:Int) (p3:Int) (p4:Int) (p5:List Zc) (p6:List UInt8) (p7:Int) (p8:List UInt8) (p9:List Za) {β:Type} (k:Bool->Option β):Option β:=
 (Option.bind (T16 F p0 p1 p2 p3 p4 p5) fun z3=>(bif (z3 == (0:Int)) then (Option.bind (T52 F p0 p2 p4 p6 p7 p8 p9) fun z4=>(k z4)) else (k false)))
def T20 (F:Nat) (p0:List UInt8) (p1:Int) (p2:Int) (p3:Int) (p4:Int) (p5:List Zc) (p6:List UInt8) (p7:Int) (p8:List UInt8) (p9:List Za):=T20c F p0 p1 p2 p3 p4 p5 p6 p7 p8 p9 some
def ct20 (F:Nat):Ct:=mkC 0 [(.pr .str (.pr .i (.pr .i (.pr .i (.pr .i (.pr (.ro (.pr .s (.pr .i (.pr .i .un)))) .un)))))),(.pr (.pr .str (.pr .i .un)) (.pr (.ro .u8) (.pr (.ro .s) .un)))] [] [.bo] [] (fun x y=>T20 F x.1.1 x.1.2.1 x.1.2.2.1 x.1.2.2.2.1 x.1.2.2.2.2.1 x.1.2.2.2.2.2.1 x.2.1.1.1 x.2.1.1.2.1 x.2.1.2.1 x.2.1.2.2.1) (fun x y (z:Bool)=>((z,()),()))
theorem ok20 (F:Nat):Sound Tryz.prog cfg 20 (ct20 F):=
 mkC_ok (E:=E20 F) (lp:=[]) (code:=bodyOf Tryz.f20) Tryz.func20 rfl Tryz.ntmps20 rfl rfl cok (cts20 F) mixed trivial (by kernel_rfl) (fun x y k=>T20c F x.1.1 x.1.2.1 x.1.2.2.1 x.1.2.2.2.1 x.1.2.2.2.2.1 x.1.2.2.2.2.2.1 x.2.1.1.1 x.2.1.1.2.1 x.2.1.2.1 x.2.1.2.2.1 k) (fun _ _ _=>by simp only [T20,T20c,oA,oC,oS,oN,elimS_bind]) (fun _ _=>by kernel_rfl)
def okS (id:List UInt8) (vault block data total:Int) (refs:List Rf):Bool:=
 decide (id.length=32∧0≤vault∧vault≤11∧1≤data∧data≤8∧data≤total∧total≤16∧1≤refs.length∧(refs.length:Int)≤data) && (vRs refs && refs.all fun r=>clsOf r.2.2.1 == block)
theorem valid_d (F:Nat) (data total:Int):T35 F data total=some (decide (1≤data∧data≤8∧data≤total∧total≤16)):=by
 simp only [T35,T35c]
 by_cases h1:1≤data<;>by_cases h2:data≤8<;>by_cases h3:data≤total<;>by_cases h4:total≤16<;>simp [h1,h2,h3,h4]
theorem class_all {F:Nat} (hF:2000 < F) {refs:List Rf} (hl:refs.length≤1000) (hv:∀ r ∈ refs,0≤r.2.2.1∧r.2.2.1≤32768) (c:Int) :
  iter (fun s=>L16_2 F refs (refs.length:Int) c s) F (0:Int)=some (bif refs.all (fun r=>clsOf r.2.2.1 == c) then .inl () else .inr (1:Int)):=by
 obtain ⟨z,hz,hQ⟩:=iter1 (f:=fun s:Int=>L16_2 F refs (refs.length:Int) c s)
  (fun s=>∃ k:Nat,s=(k:Int)∧k≤refs.length∧(refs.drop k).all (fun r=>clsOf r.2.2.1 == c)=refs.all (fun r=>clsOf r.2.2.1 == c)) (fun z=>z=(bif refs.all (fun r=>clsOf r.2.2.1 == c) then .inl () else .inr (1:Int))) (fun s=>refs.length - s.toNat) (fun s hs=>by
   obtain ⟨k,e,hk,ha⟩:=hs
   subst e
   rcases Nat.lt_or_ge k refs.length with hlt | hge
   ·have hc1:((k:Nat):Int) < (refs.length:Int):=by omega
    have hr:refs[k]? = some refs[k]:=List.getElem?_eq_getElem hlt
    have hix:=ixn hr
    have hx:=hv _ (List.getElem_mem hlt)
    have hd:=drop_at hr
    generalize refs[k]=x at hr hix hx hd
    have hh:=has_ok (F:=F) (by omega) hx.1 hx.2 c
    rw [hd,List.all_cons] at ha
    cases h1:clsOf x.2.2.1 == c with
    | false=>
     rw [h1] at hh
     rw [h1,Bool.false_and] at ha
     exact .inr ⟨.inr (1:Int),by simp only [L16_2,L16_2c,hc1,decide_true,cond_true,hix,hh,Option.bind_some,Bool.not_false],by rw [← ha];rfl⟩
    | true=>
     rw [h1] at hh
     rw [h1,Bool.true_and] at ha
     exact .inl ⟨((k + 1:Nat):Int),by simp only [L16_2,L16_2c,hc1,decide_true,cond_true,hix,hh,Option.bind_some,Bool.not_true,cond_false,w64n (show k < 9223372036854775807 by omega)],⟨k + 1,rfl,by omega,ha⟩,by simp only [Int.toNat_natCast];omega⟩
   ·have hkn:k=refs.length:=by omega
    subst hkn
    rw [List.drop_length] at ha
    refine .inr ⟨.inl (),?_,by rw [← ha];rfl⟩
    simp [L16_2,L16_2c])
  F (0:Int) ⟨0,rfl,by omega,rfl⟩ (by simp;omega)
 subst hQ
 exact hz
theorem check_ok {F:Nat} (hF:2000 < F) (id:List UInt8) (vault block data total:Int) {refs:List Rf} (hl:refs.length≤1000):T16 F id vault block data total refs=some (bif okS id vault block data total refs then (0:Int) else (1:Int)):=by
 have h30:=valid30 (refs:=refs) hl hF
 have bad:∀ {p:Prop} [Decidable p] {c:Bool},¬ p->(bif (decide p && c) then (0:Int) else (1:Int))=1:=fun {p} _ c h=>by simp [h]
 simp only [T16,T16c,h30,valid_d,Option.bind_some]
 unfold okS
 by_cases c0:id.length=32
 case neg=>
  have:((id.length:Int) != 32)=true:=by
   have:¬ (id.length:Int)=32:=by omega
   simpa using this
  simp only [this,cond_true];rw [bad (fun h=>c0 h.1)]
 have e0:((id.length:Int) != 32)=false:=by rw [c0];rfl
 simp only [e0,cond_false]
 by_cases c1:vault < 0
 ·simp only [c1,decide_true,cond_true];rw [bad (by omega)]
 simp only [c1,decide_false,cond_false]
 by_cases c2:11 < vault
 ·simp only [c2,decide_true,cond_true];rw [bad (by omega)]
 simp only [c2,decide_false,cond_false]
 by_cases c3:1≤data∧data≤8∧data≤total∧total≤16
 case neg=>simp only [c3,decide_false,Bool.not_false,cond_true];rw [bad (fun h=>c3 ⟨h.2.2.2.1,h.2.2.2.2.1,h.2.2.2.2.2.1,h.2.2.2.2.2.2.1⟩)]
 have c3':decide (1≤data∧data≤8∧data≤total∧total≤16)=true:=by simpa using c3
 simp only [c3',Bool.not_true,cond_false]
 by_cases c4:(refs.length:Int) < 1
 ·simp only [c4,decide_true,cond_true];rw [bad (by omega)]
 simp only [c4,decide_false,cond_false]
 by_cases c5:data < (refs.length:Int)
 ·simp only [c5,decide_true,cond_true];rw [bad (by omega)]
 simp only [c5,decide_false,cond_false]
 cases c6:vRs refs with
 | false=>simp only [Bool.not_false,cond_true,Bool.false_and,Bool.and_false,cond_false]
 | true=>
 have hp:decide (id.length=32∧0≤vault∧vault≤11∧1≤data∧data≤8∧data≤total∧total≤16∧1≤refs.length∧(refs.length:Int)≤data)=true:=by apply decide_eq_true;omega
 have hlo:=class_all hF hl (vRs_size c6) block
 simp only [Bool.not_true,cond_false,Bool.true_and,hlo,Option.bind_some,hp]
 cases refs.all (fun r=>clsOf r.2.2.1 == block)<;>rfl
def all32 (sums:List (List UInt8)):Bool:=sums.all fun s=>s.length == 32
def okP (F:Nat) (id:List UInt8) (index:Int) (data:List UInt8) (sums:List (List UInt8)):Bool:=
 decide (id.length=32∧1≤sums.length∧sums.length≤16∧0≤index∧index < (sums.length:Int)∧1≤data.length∧data.length≤65536) && (all32 sums && (sums.getD index.toNat [] == hsh F data && rt F F sums == id))
theorem len32 (s:List UInt8):((s.length:Int) != 32) = !(s.length == 32):=by
 by_cases h:s.length=32
 ·have:((s.length:Int) != 32)=false:=by rw [h];rfl
  rw [this,h];rfl
 ·have h1:(s.length == 32)=false:=by simpa using h
  have h2:((s.length:Int) != 32)=true:=by
   have:¬ (s.length:Int)=32:=by omega
   simpa using this
  rw [h1,h2];rfl
theorem sums_ok {F:Nat} (hF:2000 < F) {sums:List (List UInt8)} (hl:sums.length≤1000):T46 F sums=some (!all32 sums):=by
 have h:∃ z,iter (fun s=>L83_2 F sums (sums.length:Int) s) F (0:Int)=some z∧(z=.inl ()∧all32 sums=true∨∃ k:Nat,z=.inr (k:Int)∧all32 sums=false):=by
  exact iter1 (f:=fun s:Int=>L83_2 F sums (sums.length:Int) s)
   (fun s=>∃ k:Nat,s=(k:Int)∧k≤sums.length∧(sums.drop k).all (fun s=>s.length == 32)=all32 sums) _ (fun s=>sums.length - s.toNat) (fun s hs=>by
    obtain ⟨k,e,hk,ha⟩:=hs
    subst e
    rcases Nat.lt_or_ge k sums.length with hlt | hge
    ·have hc1:((k:Nat):Int) < (sums.length:Int):=by omega
     have hr:sums[k]? = some sums[k]:=List.getElem?_eq_getElem hlt
     have hix:=ixn hr
     have hd:=drop_at hr
     generalize sums[k]=x at hr hix hd
     rw [hd,List.all_cons] at ha
     have ht:T47 F x=some (!(x.length == 32)):=by simp only [T47,T47c,len32]
     cases h1:x.length == 32 with
     | false=>
      rw [h1] at ht
      rw [h1,Bool.false_and] at ha
      exact .inr ⟨.inr (k:Int),by simp only [L83_2,L83_2c,hc1,decide_true,cond_true,hix,ht,Option.bind_some,Bool.not_false],.inr ⟨k,rfl,ha.symm⟩⟩
     | true=>
      rw [h1] at ht
      rw [h1,Bool.true_and] at ha
      exact .inl ⟨((k + 1:Nat):Int),by simp only [L83_2,L83_2c,hc1,decide_true,cond_true,hix,ht,Option.bind_some,Bool.not_true,cond_false,w64n (show k < 9223372036854775807 by omega)],⟨k + 1,rfl,by omega,ha⟩,by simp only [Int.toNat_natCast];omega⟩
    ·have hkn:k=sums.length:=by omega
     subst hkn
     rw [List.drop_length] at ha
     refine .inr ⟨.inl (),?_,.inl ⟨rfl,by rw [← ha];rfl⟩⟩
     simp [L83_2,L83_2c])
   F (0:Int) ⟨0,rfl,by omega,rfl⟩ (by simp;omega)
 obtain ⟨z,hz,hQ⟩:=h
 simp only [T46,T46c,T83,T83c,hz,Option.bind_some]
 rcases hQ with ⟨rfl,h⟩ | ⟨k,rfl,h⟩
 ·rw [h];rfl
 ·have:(0:Int)≤(k:Int):=by omega
  rw [h];simp only [elimS,Option.bind_some,this,decide_true,Bool.not_false]
theorem all32_mem {sums:List (List UInt8)} (h:all32 sums=true):∀ x ∈ sums,x.length=32:=fun x hx=>by
 have:=List.all_eq_true.1 h x hx
 simpa using this
theorem beqL_comm (a b:List UInt8):(a == b)=(b == a):=by
 by_cases h:a=b
 ·rw [h]
 ·have h1:(a == b)=false:=by simpa using h
  have h2:(b == a)=false:=by simpa using fun e:b=a=>h e.symm
  rw [h1,h2]
theorem verify_ok {F:Nat} (hF:2000 < F) (id:List UInt8) (index:Int) (data:List UInt8) {sums:List (List UInt8)}:T18 F id index data sums=some (okP F id index data sums):=by
 have bad:∀ {p:Prop} [Decidable p] {c:Bool},¬ p->(decide p && c)=false:=fun {p} _ c h=>by simp [h]
 simp only [T18,T18c]
 unfold okP
 by_cases c0:id.length=32
 case neg=>
  have:((id.length:Int) != 32)=true:=by
   have:¬ (id.length:Int)=32:=by omega
   simpa using this
  simp only [this,cond_true];rw [bad (fun h=>c0 h.1)]
 have e0:((id.length:Int) != 32)=false:=by rw [c0];rfl
 simp only [e0,cond_false]
 by_cases c1:(sums.length:Int) < 1
 ·simp only [c1,decide_true,cond_true];rw [bad (by omega)]
 simp only [c1,decide_false,cond_false]
 by_cases c2:16 < (sums.length:Int)
 ·simp only [c2,decide_true,cond_true];rw [bad (by omega)]
 have hs:=sums_ok hF (sums:=sums) (by omega)
 simp only [c2,decide_false,cond_false,hs,Option.bind_some]
 cases ha:all32 sums with
 | false=>simp only [Bool.not_false,cond_true,Bool.false_and,Bool.and_false]
 | true=>
 simp only [Bool.not_true,cond_false,Bool.true_and]
 by_cases c3:index < 0
 ·simp only [c3,decide_true,cond_true];rw [bad (by omega)]
 simp only [c3,decide_false,cond_false]
 by_cases c4:(sums.length:Int)≤index
 ·simp only [c4,decide_true,cond_true];rw [bad (by omega)]
 simp only [c4,decide_false,cond_false]
 by_cases c5:(data.length:Int) < 1
 ·simp only [c5,decide_true,cond_true];rw [bad (by omega)]
 simp only [c5,decide_false,cond_false]
 by_cases c6:(65536:Int) < (data.length:Int)
 ·simp only [c6,decide_true,cond_true];rw [bad (by omega)]
 have hof:=(t_of hF (x:=data) (by omega)).1
 obtain ⟨i,rfl⟩:∃ i:Nat,index=(i:Int):=⟨index.toNat,by omega⟩
 have hr:sums[i]? = some (sums[i]'(by omega)):=List.getElem?_eq_getElem (by omega)
 have hgd:sums.getD i []=sums[i]'(by omega):=by simp [show i < sums.length by omega]
 have hrt:=(t_root hF (l:=sums) (by omega) (all32_mem ha)).1
 have hp:decide (id.length=32∧1≤sums.length∧sums.length≤16∧0≤(i:Int)∧(i:Int) < (sums.length:Int)∧1≤data.length∧data.length≤65536)=true:=by apply decide_eq_true;omega
 simp only [c6,decide_false,cond_false,hof,Option.bind_some,beq_self_eq_true,cond_true,ixn hr,hrt,hp,Bool.true_and,Int.toNat_natCast,hgd]
 rw [beqL_comm]
 cases sums[i]'(by omega) == hsh F data<;>simp
def okF (F:Nat) (sid:List UInt8) (block total:Int) (id:List UInt8) (index:Int) (data:List UInt8) (sums:List (List UInt8)):Bool:=
 id == sid && ((sums.length:Int) == total && ((data.length:Int) == block && okP F id index data sums))
theorem fits_ok {F:Nat} (hF:2000 < F) (sid:List UInt8) (block total:Int) (id:List UInt8) (index:Int) (data:List UInt8) {sums:List (List UInt8)}:T52 F sid block total id index data sums=some (okF F sid block total id index data sums):=by
 simp only [T52,T52c,verify_ok hF,Option.bind_some]
 unfold okF
 cases id == sid<;>cases (sums.length:Int) == total<;>cases (data.length:Int) == block<;>simp
theorem Fits_ok {F:Nat} (hF:2000 < F) (sid:List UInt8) (vault block d total:Int) {refs:List Rf} (hl:refs.length≤1000) (id:List UInt8) (index:Int) (data:List UInt8) {sums:List (List UInt8)}:T20 F sid vault block d total refs id index data sums=some (okS sid vault block d total refs && okF F sid block total id index data sums):=by
 simp only [T20,T20c,check_ok hF sid vault block d total hl,fits_ok hF,Option.bind_some]
 cases okS sid vault block d total refs<;>rfl
def E15 (F:Nat):Ev:=⟨cfg,25,ctOf [],fun _=>[],ctOf [],fun _=>none,fun _=>none⟩
theorem cts15 (F:Nat):CtsOk Tryz.prog (E15 F):=cts_of (l:=[]) (l':=[]) rfl rfl trivial trivial
def L15_2c (F:Nat) (y9:List Zb) (y10:Int) (y11:Int) {β:Type} (kA:Int->Option β) (kO:Unit->Option β) (kR:Bool->Option β):Option β:=
 (bif (decide (y11 < y10)) then (Option.bind (ix y9 y11) fun x13=>(bif (decide ((1200:Int) < (x13.2.1.length:Int))) then (kR true) else (bif (decide ((40:Int) < (x13.2.2.1.length:Int))) then (kR true) else (kA (w64 (y11 + (1:Int))))))) else (kO ()))
def L15_2 (F:Nat) (y9:List Zb) (y10:Int) (y11:Int):Option ((Int) ⊕ ((Unit) ⊕ (Bool))):=L15_2c F y9 y10 y11 (fun s=>some (.inl s)) (fun z=>some (.inr (.inl z))) (fun z=>some (.inr (.inr z)))
theorem L15_2n (F:Nat) (y9:List Zb) (y10:Int) (y11:Int) {β:Type} (kA:Int->Option β) (kO:Unit->Option β) (kR:Bool->Option β):L15_2c F y9 y10 y11 kA kO kR=(L15_2 F y9 y10 y11).bind (elimS kA (elimS kO kR)):=by
 simp only [L15_2,L15_2c,oA,oC,oS,oN,elimS_l,elimS_r,elimS_bind]
def lc15_2 (F:Nat):Lc:=mkR [0,5,6,7] [(.ro (.pr (.pr .s (.pr .i .un)) (.pr (.sl .u8) (.pr (.sl .s) .un)))),(.ro (.pr (.pr .s (.pr .i .un)) (.pr (.sl .u8) (.pr (.sl .s) .un)))),.i,.i] [] [0] [(.ro (.pr (.pr .s (.pr .i .un)) (.pr (.sl .u8) (.pr (.sl .s) .un))))] [] [2] [.bo] [] F (fun x y (s:Int)=>L15_2 F x.2.1 x.2.2.1 s) (fun x y=>x.2.2.2.1) (fun x y (z:Unit)=>((x.1,()),())) (fun x y (z:Bool)=>((z,()),()))
theorem lo15_2 (F:Nat):LcOk Tryz.prog (E15 F) 0 (lc15_2 F) (cAt (bodyOf Tryz.f15) [1,0,1]):=
 mkR_ok (lp:=[]) (id:=0) (b:=cAt (bodyOf Tryz.f15) (0 :: 0 :: [1,0,1])) cok (cts15 F) mixed trivial (by kernel_rfl) (by kernel_rfl) (fun x y s=>(x.1,x.2.1,x.2.2.1,s,())) (fun x y s=>()) (fun x y=>rfl) (fun x y=>rfl) (fun x y s kA kO kR=>L15_2c F x.2.1 x.2.2.1 s kA kO kR) (fun x y s kA kO kR=>L15_2n F x.2.1 x.2.2.1 s kA kO kR) (fun _ _ _=>by kernel_rfl)
def T15wc (F:Nat) (p0:List Zb) {β:Type} (k:Bool->Option β):Option β:=
 (Option.bind (iter (fun s=>L15_2 F p0 (p0.length:Int) s) F (0:Int)) fun z14=>elimS (fun z14=>(k (decide ((20:Int) < (p0.length:Int))))) (fun z14=>(k z14)) z14)
def T15w (F:Nat) (p0:List Zb):=T15wc F p0 some
abbrev cA15:List Sh:=[(.ro (.pr (.pr .s (.pr .i .un)) (.pr (.sl .u8) (.pr (.sl .s) .un))))]
abbrev cB15:List Sh:=[.bo]
abbrev cT15:List TSh:=[]
abbrev cU15:List TSh:=[]
def ct15w (F:Nat):Ct:=mkC 0 cA15 cT15 cB15 cU15 (fun x y=>T15w F x.1) (fun x y (z:Bool)=>((z,()),()))
theorem ok15w (F:Nat):Sound Tryz.prog cfg 15 (ct15w F):=
 mkC_ok (E:=E15 F) (lp:=[([1,0,1],lc15_2 F)]) (code:=bodyOf Tryz.f15) Tryz.func15 rfl Tryz.ntmps15 rfl rfl cok (cts15 F) mixed ⟨lo15_2 F,trivial⟩ (by kernel_rfl) (fun x y k=>T15wc F x.1 k) (fun _ _ _=>by simp only [T15w,T15wc,oA,oC,oS,oN,elimS_bind]) (fun _ _=>by kernel_rfl)
def T15 (F:Nat) (p0:List Zb):Option (Bool):=T15w (F + p0.length) p0
def ct15 (F:Nat):Ct:=mkC 0 cA15 cT15 cB15 cU15 (fun x y=>T15 F x.1) (fun x y (z:Bool)=>((z,()),()))
theorem ok15 (F:Nat):Sound Tryz.prog cfg 15 (ct15 F):=sound_fuel (m:=0) (A:=cA15) (T:=cT15) (B:=cB15) (U:=cU15) (e:=(fun x y (z:Bool)=>((z,()),()))) (fun (x:dens cA15) (y:tdens cT15)=>F + (x.1).length) (fun F (x:dens cA15) (y:tdens cT15)=>T15w F x.1) ok15w
def ord19:Nat->List (Tag×Nat)
 | 9=>[(.p,0),(.c,1),(.p,2),(.p,3),(.c,4),(.p,5),(.c,6),(.p,7),(.r,8),(.w,9),(.p,10),(.p,11),(.p,12),(.r,13),(.p,15),(.p,16),(.c,17),(.w,14),(.p,18),(.p,19),(.p,20)]
 | _=>[]
def E19 (F:Nat):Ev:=⟨cfg,74,ctOf [(50,ct50 F),(51,ct51 F)],ord19,ctOf [],fun _=>none,fun _=>none⟩
theorem cts19 (F:Nat):CtsOk Tryz.prog (E19 F):=cts_of (l:=[(50,ct50 F),(51,ct51 F)]) (l':=[]) rfl rfl ⟨⟨ok50 F,_,Tryz.func50,rfl,rfl⟩,⟨⟨ok51 F,_,Tryz.func51,rfl,rfl⟩,trivial⟩⟩ trivial
def L19_2c (F:Nat) (y14:List Za) (y15:Int) (y16:Int) {β:Type} (kA:Int->Option β) (kO:Unit->Option β) (kR:Bool->Option β):Option β:=
 (bif (decide (y16 < y15)) then (Option.bind (ix y14 y16) fun x22=>(bif ((x22.length:Int) != (32:Int)) then (kR false) else (kA (w64 (y16 + (1:Int)))))) else (kO ()))
def L19_2 (F:Nat) (y14:List Za) (y15:Int) (y16:Int):Option ((Int) ⊕ ((Unit) ⊕ (Bool))):=L19_2c F y14 y15 y16 (fun s=>some (.inl s)) (fun z=>some (.inr (.inl z))) (fun z=>some (.inr (.inr z)))
theorem L19_2n (F:Nat) (y14:List Za) (y15:Int) (y16:Int) {β:Type} (kA:Int->Option β) (kO:Unit->Option β) (kR:Bool->Option β):L19_2c F y14 y15 y16 kA kO kR=(L19_2 F y14 y15 y16).bind (elimS kA (elimS kO kR)):=by
 simp only [L19_2,L19_2c,oA,oC,oS,oN,elimS_l,elimS_r,elimS_bind]
def lc19_2 (F:Nat):Lc:=mkR [1,44,45,46] [(.pt 0 []),(.ro .s),.i,.i] [.blk 42 (.pr (.pr .str (.pr .i .un)) (.pr (.ro .u8) (.pr (.ro .s) .un)))] [1] [(.pt 0 [])] [.blk 42 (.pr (.pr .str (.pr .i .un)) (.pr (.ro .u8) (.pr (.ro .s) .un)))] [2] [.bo] [] F (fun x y (s:Int)=>L19_2 F x.2.1 x.2.2.1 s) (fun x y=>x.2.2.2.1) (fun x y (z:Unit)=>(((),()),(((y.1.1.1,y.1.1.2.1,()),y.1.2.1,y.1.2.2.1,()),()))) (fun x y (z:Bool)=>((z,()),()))
theorem lo19_2 (F:Nat):LcOk Tryz.prog (E19 F) 0 (lc19_2 F) (cAt (bodyOf Tryz.f19) [1,0,1,1]):=
 mkR_ok (lp:=[]) (id:=0) (b:=cAt (bodyOf Tryz.f19) (0 :: 0 :: [1,0,1,1])) cok (cts19 F) mixed trivial (by kernel_rfl) (by kernel_rfl) (fun x y s=>((),x.2.1,x.2.2.1,s,())) (fun x y s=>(((y.1.1.1,y.1.1.2.1,()),y.1.2.1,y.1.2.2.1,()),())) (fun x y=>rfl) (fun x y=>rfl) (fun x y s kA kO kR=>L19_2c F x.2.1 x.2.2.1 s kA kO kR) (fun x y s kA kO kR=>L19_2n F x.2.1 x.2.2.1 s kA kO kR) (fun _ _ _=>by kernel_rfl)
def T19c (F:Nat) (p0:List UInt8) (p1:Int) (p2:List UInt8) (p3:List Za) {β:Type} (k:Bool->Option β):Option β:=
 (bif ((p0.length:Int) != (32:Int)) then (k false) else (bif (decide ((16:Int) < (p3.length:Int))) then (k false) else (bif (decide (p1 < (0:Int))) then (k false) else (bif (decide ((p3.length:Int)≤p1)) then (k false) else (bif (decide ((p2.length:Int) < (1:Int))) then (k false) else (bif (decide ((65536:Int) < (p2.length:Int))) then (k false) else (Option.bind (iter (fun s=>L19_2 F p3 (p3.length:Int) s) F (0:Int)) fun z23=>elimS (fun z23=>(Option.bind (ix p3 p1) fun x24=>(Option.bind (T50 F p2) fun z25=>(bif (x24 == z25) then (Option.bind (T51 F p3) fun z26=>(k (z26 == p0))) else (k false))))) (fun z23=>(k z23)) z23)))))))
def T19 (F:Nat) (p0:List UInt8) (p1:Int) (p2:List UInt8) (p3:List Za):=T19c F p0 p1 p2 p3 some
def ct19 (F:Nat):Ct:=mkC 0 [(.pr (.pr .str (.pr .i .un)) (.pr (.ro .u8) (.pr (.ro .s) .un)))] [] [.bo] [] (fun x y=>T19 F x.1.1.1 x.1.1.2.1 x.1.2.1 x.1.2.2.1) (fun x y (z:Bool)=>((z,()),()))
theorem ok19 (F:Nat):Sound Tryz.prog cfg 19 (ct19 F):=
 mkC_ok (E:=E19 F) (lp:=[([1,0,1,1],lc19_2 F)]) (code:=bodyOf Tryz.f19) Tryz.func19 rfl Tryz.ntmps19 rfl rfl cok (cts19 F) mixed ⟨lo19_2 F,trivial⟩ (by kernel_rfl) (fun x y k=>T19c F x.1.1.1 x.1.1.2.1 x.1.2.1 x.1.2.2.1 k) (fun _ _ _=>by simp only [T19,T19c,oA,oC,oS,oN,elimS_bind]) (fun _ _=>by kernel_rfl)
def E21 (F:Nat):Ev:=⟨cfg,35,ctOf [(17,ct17 F),(19,ct19 F)],fun _=>[],ctOf [],fun _=>none,fun _=>none⟩
theorem cts21 (F:Nat):CtsOk Tryz.prog (E21 F):=cts_of (l:=[(17,ct17 F),(19,ct19 F)]) (l':=[]) rfl rfl ⟨⟨ok17 F,_,Tryz.func17,rfl,rfl⟩,⟨⟨ok19 F,_,Tryz.func19,rfl,rfl⟩,trivial⟩⟩ trivial
def T21c (F:Nat) (p0:List UInt8) (p1:Int) (p2:Int) (p3:Int) (p4:Int) (p5:List Zc) (p6:List UInt8) (p7:Int) (p8:List UInt8) (p9:List Za) {β:Type} (k:Bool->Option β):Option β:=
 (Option.bind (T17 F p0 p1 p2 p3 p4 p5) fun z3=>(bif z3 then (Option.bind (T19 F p6 p7 p8 p9) fun z4=>(bif z4 then (bif (p6 == p0) then (bif ((p9.length:Int) == p4) then (k ((p8.length:Int) == p2)) else (k false)) else (k false)) else (k false))) else (k false)))
def T21 (F:Nat) (p0:List UInt8) (p1:Int) (p2:Int) (p3:Int) (p4:Int) (p5:List Zc) (p6:List UInt8) (p7:Int) (p8:List UInt8) (p9:List Za):=T21c F p0 p1 p2 p3 p4 p5 p6 p7 p8 p9 some
def ct21 (F:Nat):Ct:=mkC 0 [(.pr .str (.pr .i (.pr .i (.pr .i (.pr .i (.pr (.ro (.pr .s (.pr .i (.pr .i .un)))) .un)))))),(.pr (.pr .str (.pr .i .un)) (.pr (.ro .u8) (.pr (.ro .s) .un)))] [] [.bo] [] (fun x y=>T21 F x.1.1 x.1.2.1 x.1.2.2.1 x.1.2.2.2.1 x.1.2.2.2.2.1 x.1.2.2.2.2.2.1 x.2.1.1.1 x.2.1.1.2.1 x.2.1.2.1 x.2.1.2.2.1) (fun x y (z:Bool)=>((z,()),()))
theorem ok21 (F:Nat):Sound Tryz.prog cfg 21 (ct21 F):=
 mkC_ok (E:=E21 F) (lp:=[]) (code:=bodyOf Tryz.f21) Tryz.func21 rfl Tryz.ntmps21 rfl rfl cok (cts21 F) mixed trivial (by kernel_rfl) (fun x y k=>T21c F x.1.1 x.1.2.1 x.1.2.2.1 x.1.2.2.2.1 x.1.2.2.2.2.1 x.1.2.2.2.2.2.1 x.2.1.1.1 x.2.1.1.2.1 x.2.1.2.1 x.2.1.2.2.1 k) (fun _ _ _=>by simp only [T21,T21c,oA,oC,oS,oN,elimS_bind]) (fun _ _=>by kernel_rfl)
def E54 (F:Nat):Ev:=⟨cfg,8,ctOf [],fun _=>[],ctOf [],fun _=>none,fun _=>none⟩
theorem cts54 (F:Nat):CtsOk Tryz.prog (E54 F):=cts_of (l:=[]) (l':=[]) rfl rfl trivial trivial
def T54c (F:Nat) (p0:List UInt8) (p3:List UInt8) {β:Type} (k:Bool->Option β):Option β:=
 (k (p0 == p3))
def T54 (F:Nat) (p0:List UInt8) (p3:List UInt8):=T54c F p0 p3 some
def ct54 (F:Nat):Ct:=mkC 0 [(.pr .str (.pr .i (.pr .i .un))),(.re .s)] [] [.bo] [] (fun x y=>T54 F x.1.1 x.2.1) (fun x y (z:Bool)=>((z,()),()))
theorem ok54 (F:Nat):Sound Tryz.prog cfg 54 (ct54 F):=
 mkC_ok (E:=E54 F) (lp:=[]) (code:=bodyOf Tryz.f54) Tryz.func54 rfl Tryz.ntmps54 rfl rfl cok (cts54 F) mixed trivial (by kernel_rfl) (fun x y k=>T54c F x.1.1 x.2.1 k) (fun _ _ _=>by simp only [T54,T54c,oA,oC,oS,oN,elimS_bind]) (fun _ _=>by kernel_rfl)
def E53 (F:Nat):Ev:=⟨cfg,19,ctOf [(54,ct54 F)],fun _=>[],ctOf [],fun _=>none,fun _=>none⟩
theorem cts53 (F:Nat):CtsOk Tryz.prog (E53 F):=cts_of (l:=[(54,ct54 F)]) (l':=[]) rfl rfl ⟨⟨ok54 F,_,Tryz.func54,rfl,rfl⟩,trivial⟩ trivial
def L53_2c (F:Nat) (y10:List Zc) (y11:Int) (y13:List UInt8) (y12:Int) {β:Type} (kA:Int->Option β) (kO:Unit->Option β) (kR:Int->Option β):Option β:=
 (bif (decide (y12 < y11)) then (Option.bind (ix y10 y12) fun x16=>(Option.bind (T54 F x16.1 y13) fun z17=>(bif z17 then (kR y12) else (kA (w64 (y12 + (1:Int))))))) else (kO ()))
def L53_2 (F:Nat) (y10:List Zc) (y11:Int) (y13:List UInt8) (y12:Int):Option ((Int) ⊕ ((Unit) ⊕ (Int))):=L53_2c F y10 y11 y13 y12 (fun s=>some (.inl s)) (fun z=>some (.inr (.inl z))) (fun z=>some (.inr (.inr z)))
theorem L53_2n (F:Nat) (y10:List Zc) (y11:Int) (y13:List UInt8) (y12:Int) {β:Type} (kA:Int->Option β) (kO:Unit->Option β) (kR:Int->Option β):L53_2c F y10 y11 y13 y12 kA kO kR=(L53_2 F y10 y11 y13 y12).bind (elimS kA (elimS kO kR)):=by
 simp only [L53_2,L53_2c,oA,oC,oS,oN,elimS_l,elimS_r,elimS_bind]
def lc53_2 (F:Nat):Lc:=mkR [0,1,7,8] [(.ro (.pr .s (.pr .i (.pr .i .un)))),(.fn 54 .un (.pr (.pt 0 []) .un)),.i,.i] [.blk 9 .str] [] [] [.blk 9 .str] [4] [.i] [.blk 9 .str] F (fun x y (s:Int)=>L53_2 F x.1 x.2.2.1 y.1 s) (fun x y=>x.2.2.2.1) (fun x y (z:Unit)=>((),(y.1,()))) (fun x y (z:Int)=>((z,()),(y.1,())))
theorem lo53_2 (F:Nat):LcOk Tryz.prog (E53 F) 1 (lc53_2 F) (cAt (bodyOf Tryz.f53) [1,0,1]):=
 mkR_ok (lp:=[]) (id:=0) (b:=cAt (bodyOf Tryz.f53) (0 :: 0 :: [1,0,1])) cok (cts53 F) mixed trivial (by kernel_rfl) (by kernel_rfl) (fun x y s=>(x.1,((),((),())),x.2.2.1,s,())) (fun x y s=>(y.1,())) (fun x y=>rfl) (fun x y=>rfl) (fun x y s kA kO kR=>L53_2c F x.1 x.2.2.1 y.1 s kA kO kR) (fun x y s kA kO kR=>L53_2n F x.1 x.2.2.1 y.1 s kA kO kR) (fun _ _ _=>by kernel_rfl)
def T53c (F:Nat) (p0:List Zc) (p1:List UInt8) {β:Type} (k:Int->Option β):Option β:=
 (Option.bind (iter (fun s=>L53_2 F p0 (p0.length:Int) p1 s) F (0:Int)) fun z18=>elimS (fun z18=>(k (-1:Int))) (fun z18=>(k z18)) z18)
def T53 (F:Nat) (p0:List Zc) (p1:List UInt8):=T53c F p0 p1 some
def ct53 (F:Nat):Ct:=mkC 1 [(.ro (.pr .s (.pr .i (.pr .i .un)))),(.fn 54 .un (.pr (.pt 0 []) .un))] [.blk 9 .str] [.i] [.blk 9 .str] (fun x y=>T53 F x.1 y.1) (fun x y (z:Int)=>((z,()),(y.1,())))
theorem ok53 (F:Nat):Sound Tryz.prog cfg 53 (ct53 F):=
 mkC_ok (E:=E53 F) (lp:=[([1,0,1],lc53_2 F)]) (code:=bodyOf Tryz.f53) Tryz.func53 rfl Tryz.ntmps53 rfl rfl cok (cts53 F) mixed ⟨lo53_2 F,trivial⟩ (by kernel_rfl) (fun x y k=>T53c F x.1 y.1 k) (fun _ _ _=>by simp only [T53,T53c,oA,oC,oS,oN,elimS_bind]) (fun _ _=>by kernel_rfl)
def E22 (F:Nat):Ev:=⟨cfg,9,ctOf [(53,ct53 F)],fun _=>[],ctOf [],fun _=>none,fun _=>none⟩
theorem cts22 (F:Nat):CtsOk Tryz.prog (E22 F):=cts_of (l:=[(53,ct53 F)]) (l':=[]) rfl rfl ⟨⟨ok53 F,_,Tryz.func53,rfl,rfl⟩,trivial⟩ trivial
def T22c (F:Nat) (p5:List Zc) (p6:List UInt8) {β:Type} (k:Int->Option β):Option β:=
 (Option.bind (T53 F p5 p6) fun z2=>(k z2))
def T22 (F:Nat) (p5:List Zc) (p6:List UInt8):=T22c F p5 p6 some
def ct22 (F:Nat):Ct:=mkC 0 [(.pr .str (.pr .i (.pr .i (.pr .i (.pr .i (.pr (.ro (.pr .s (.pr .i (.pr .i .un)))) .un)))))),.str] [] [.i] [] (fun x y=>T22 F x.1.2.2.2.2.2.1 x.2.1) (fun x y (z:Int)=>((z,()),()))
theorem ok22 (F:Nat):Sound Tryz.prog cfg 22 (ct22 F):=
 mkC_ok (E:=E22 F) (lp:=[]) (code:=bodyOf Tryz.f22) Tryz.func22 rfl Tryz.ntmps22 rfl rfl cok (cts22 F) mixed trivial (by kernel_rfl) (fun x y k=>T22c F x.1.2.2.2.2.2.1 x.2.1 k) (fun _ _ _=>by simp only [T22,T22c,oA,oC,oS,oN,elimS_bind]) (fun _ _=>by kernel_rfl)
def ord4:Nat->List (Tag×Nat)
 | 11=>[(.r,0),(.c,3),(.w,1),(.p,2),(.b,4),(.p,5),(.p,6),(.r,7),(.b,8),(.p,9),(.r,10),(.b,11),(.p,12),(.p,13),(.p,14),(.p,15),(.r,16),(.c,18),(.w,17),(.b,19),(.p,20),(.p,21),(.p,22),(.r,23),(.r,24),(.c,26),(.c,27),(.w,25),(.b,28),(.p,29),(.p,30),(.p,31),(.r,32),(.p,33),(.p,35),(.b,34),(.p,36),(.p,37),(.p,38)]
 | _=>[]
def E4 (F:Nat):Ev:=⟨cfg,75,ctOf [(8,ct8 F),(15,ct15 F),(16,ct16 F),(17,ct17 F),(18,ct18 F),(19,ct19 F),(20,ct20 F),(21,ct21 F),(22,ct22 F)],ord4,ctOf [],fun _=>none,fun _=>none⟩
theorem cts4 (F:Nat):CtsOk Tryz.prog (E4 F):=cts_of (l:=[(8,ct8 F),(15,ct15 F),(16,ct16 F),(17,ct17 F),(18,ct18 F),(19,ct19 F),(20,ct20 F),(21,ct21 F),(22,ct22 F)]) (l':=[]) rfl rfl ⟨⟨ok8 F,_,Tryz.func8,rfl,rfl⟩,⟨⟨ok15 F,_,Tryz.func15,rfl,rfl⟩,⟨⟨ok16 F,_,Tryz.func16,rfl,rfl⟩,⟨⟨ok17 F,_,Tryz.func17,rfl,rfl⟩,⟨⟨ok18 F,_,Tryz.func18,rfl,rfl⟩,⟨⟨ok19 F,_,Tryz.func19,rfl,rfl⟩,⟨⟨ok20 F,_,Tryz.func20,rfl,rfl⟩,⟨⟨ok21 F,_,Tryz.func21,rfl,rfl⟩,⟨⟨ok22 F,_,Tryz.func22,rfl,rfl⟩,trivial⟩⟩⟩⟩⟩⟩⟩⟩⟩ trivial
def L4_2c (F:Nat) (y35:List UInt8) (y43:List Zc) (y36:Int) (y37:Int) {β:Type} (kA:Zh->Option β) (kO:Int->Option β):Option β:=
 (bif (decide ((0:Int)≤y37)) then (Option.bind (ix y43 y37) fun x49=>(bif (x49.1 == y35) then (kA (y37,(w64 (y37 - (1:Int))))) else (kA (y36,(w64 (y37 - (1:Int))))))) else (kO y36))
def L4_2 (F:Nat) (y35:List UInt8) (y43:List Zc) (y36:Int) (y37:Int):=L4_2c F y35 y43 y36 y37 (fun s=>some (Sum.inl s)) (fun z=>some (Sum.inr z))
def lc4_2 (F:Nat):Lc:=mkL [2,3,4,7,8] [.str,(.pt 0 []),(.pt 1 []),.i,.i] [.blk 27 (.pr .str (.pr .i (.pr .i (.pr .i (.pr .i (.pr (.ro (.pr .s (.pr .i (.pr .i .un)))) .un)))))),.blk 42 (.pr (.pr .str (.pr .i .un)) (.pr (.ro .u8) (.pr (.ro .s) .un)))] [2,3,4,7] [.str,(.pt 0 []),(.pt 1 []),.i] [.blk 27 (.pr .str (.pr .i (.pr .i (.pr .i (.pr .i (.pr (.ro (.pr .s (.pr .i (.pr .i .un)))) .un)))))),.blk 42 (.pr (.pr .str (.pr .i .un)) (.pr (.ro .u8) (.pr (.ro .s) .un)))] F (fun x y (s:Int×Int)=>L4_2 F x.1 y.1.2.2.2.2.2.1 s.1 s.2) (fun x y=>(x.2.2.2.1,x.2.2.2.2.1)) (fun x y (z:Int)=>((x.1,(),(),z,()),((y.1.1,y.1.2.1,y.1.2.2.1,y.1.2.2.2.1,y.1.2.2.2.2.1,y.1.2.2.2.2.2.1,()),((y.2.1.1.1,y.2.1.1.2.1,()),y.2.1.2.1,y.2.1.2.2.1,()),())))
theorem lo4_2 (F:Nat):LcOk Tryz.prog (E4 F) 0 (lc4_2 F) (cAt (bodyOf Tryz.f4) [1,0,1,1,1,1]):=
 mkL_ok (lp:=[]) (id:=0) (b:=cAt (bodyOf Tryz.f4) (0 :: 0 :: [1,0,1,1,1,1])) cok (cts4 F) mixed trivial (by kernel_rfl) (by kernel_rfl) (fun x y s=>(x.1,(),(),s.1,s.2,())) (fun x y s=>((y.1.1,y.1.2.1,y.1.2.2.1,y.1.2.2.2.1,y.1.2.2.2.2.1,y.1.2.2.2.2.2.1,()),((y.2.1.1.1,y.2.1.1.2.1,()),y.2.1.2.1,y.2.1.2.2.1,()),())) (fun x y=>rfl) (fun x y=>rfl) (fun x y s kA kO=>L4_2c F x.1 y.1.2.2.2.2.2.1 s.1 s.2 kA kO) (fun _ _ _ _ _=>by simp only [L4_2,L4_2c,oA,oC,oS,oN,elimS_l,elimS_r,elimS_bind]) (fun _ _ _=>by kernel_rfl)
def T4c (F:Nat) (p0:List UInt8) (p1:Int) (p2:Int) (p3:Int) (p4:Int) (p5:List Zc) (p6:List UInt8) (p7:Int) (p8:List UInt8) (p9:List Za) (p10:List UInt8) {β:Type} (k:Bool->Option β):Option β:=
 (Option.bind (T8 F) fun z33=>(bif (!z33) then (k false) else (bif (decide ((20:Int) < (p5.length:Int))) then (k true) else (Option.bind (T15 F ([((p6,p7,()),p8,p9,())]:List Zb)) fun z34=>(bif z34 then (k true) else (Option.bind (iter (fun s=>L4_2 F p10 p5 s.1 s.2) F ((-1:Int),(w64 ((p5.length:Int) - (1:Int))))) fun z50=>(Option.bind (T16 F p0 p1 p2 p3 p4 p5) fun z51=>(Option.bind (T17 F p0 p1 p2 p3 p4 p5) fun z52=>(bif ((z51 == (0:Int)) == z52) then (Option.bind (T17 F p0 p1 p2 p3 p4 p5) fun z53=>(bif z53 then (Option.bind (T18 F p6 p7 p8 p9) fun z54=>(Option.bind (T19 F p6 p7 p8 p9) fun z55=>(bif (z54 == z55) then (Option.bind (T20 F p0 p1 p2 p3 p4 p5 p6 p7 p8 p9) fun z56=>(Option.bind (T21 F p0 p1 p2 p3 p4 p5 p6 p7 p8 p9) fun z57=>(bif (z56 == z57) then (Option.bind (T22 F p5 p10) fun z58=>(k (z58 == z50))) else (k false)))) else (k false)))) else (Option.bind (T16 F p0 p1 p2 p3 p4 p5) fun z59=>(bif (z59 == (1:Int)) then (Option.bind (T18 F p6 p7 p8 p9) fun z60=>(Option.bind (T19 F p6 p7 p8 p9) fun z61=>(bif (z60 == z61) then (Option.bind (T20 F p0 p1 p2 p3 p4 p5 p6 p7 p8 p9) fun z62=>(Option.bind (T21 F p0 p1 p2 p3 p4 p5 p6 p7 p8 p9) fun z63=>(bif (z62 == z63) then (Option.bind (T22 F p5 p10) fun z64=>(k (z64 == z50))) else (k false)))) else (k false)))) else (k false))))) else (k false))))))))))
def T4 (F:Nat) (p0:List UInt8) (p1:Int) (p2:Int) (p3:Int) (p4:Int) (p5:List Zc) (p6:List UInt8) (p7:Int) (p8:List UInt8) (p9:List Za) (p10:List UInt8):=T4c F p0 p1 p2 p3 p4 p5 p6 p7 p8 p9 p10 some
abbrev cA4:List Sh:=[(.pr .str (.pr .i (.pr .i (.pr .i (.pr .i (.pr (.ro (.pr .s (.pr .i (.pr .i .un)))) .un)))))),(.pr (.pr .str (.pr .i .un)) (.pr (.ro .u8) (.pr (.ro .s) .un))),.str]
def ct4 (F:Nat):Ct:=mkC 0 cA4 [] [.bo] [] (fun x y=>T4 F x.1.1 x.1.2.1 x.1.2.2.1 x.1.2.2.2.1 x.1.2.2.2.2.1 x.1.2.2.2.2.2.1 x.2.1.1.1 x.2.1.1.2.1 x.2.1.2.1 x.2.1.2.2.1 x.2.2.1) (fun x y (z:Bool)=>((z,()),()))
theorem ok4 (F:Nat):Sound Tryz.prog cfg 4 (ct4 F):=
 mkC_ok (E:=E4 F) (lp:=[([1,0,1,1,1,1],lc4_2 F)]) (code:=bodyOf Tryz.f4) Tryz.func4 rfl Tryz.ntmps4 rfl rfl cok (cts4 F) mixed ⟨lo4_2 F,trivial⟩ (by kernel_rfl) (fun x y k=>T4c F x.1.1 x.1.2.1 x.1.2.2.1 x.1.2.2.2.1 x.1.2.2.2.2.1 x.1.2.2.2.2.2.1 x.2.1.1.1 x.2.1.1.2.1 x.2.1.2.1 x.2.1.2.2.1 x.2.2.1 k) (fun _ _ _=>by simp only [T4,T4c,oA,oC,oS,oN,elimS_bind]) (fun _ _=>by kernel_rfl)
end Go.Proofs.YtpnhgldpeiogbaaGreatDoor
