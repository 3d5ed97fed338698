/- The functions, each with its twin, and plain facts about them. -/
import Derived.Test.YthikoaamigiceaaGreatDoorRH1
namespace Go.Proofs.YthikoaamigiceaaGreatDoor
open Go.Tw
set_option linter.unusedSimpArgs false
set_option linter.unusedVariables false
def E191 (F:Nat):Ev:=⟨cfg,23,ctOf [],fun _=>[],ctOf [],fun _=>none,fun _=>none⟩
theorem cts191 (F:Nat):CtsOk Tryz.prog (E191 F):=cts_of (l:=[]) (l':=[]) rfl rfl trivial trivial
def L191_2c (F:Nat) (y8:List UInt8) (y9:Int) {β:Type} (kA:Int->Option β) (kO:Int->Option β):Option β:=
 (bif (decide ((0:Int) < y9)) then (Option.bind (ix y8 (w64 (y9 - (1:Int)))) fun x11=>(bif (x11 == (UInt8.ofNat 0)) then (kA (w64 (y9 - (1:Int)))) else (kO y9))) else (kO y9))
def L191_2 (F:Nat) (y8:List UInt8) (y9:Int):=L191_2c F y8 y9 (fun s=>some (Sum.inl s)) (fun z=>some (Sum.inr z))
def lc191_2 (F:Nat):Lc:=mkL [0,3] [(.ro .u8),.i] [] [0,3] [(.ro .u8),.i] [] F (fun x y (s:Int)=>L191_2 F x.1 s) (fun x y=>x.2.1) (fun x y (z:Int)=>((x.1,z,()),()))
theorem lo191_2 (F:Nat):LcOk Tryz.prog (E191 F) 0 (lc191_2 F) (cAt (bodyOf Tryz.f191) [0,1,1]):=
 mkL_ok (lp:=[]) (id:=0) (b:=cAt (bodyOf Tryz.f191) (0 :: 0 :: [0,1,1])) cok (cts191 F) mixed trivial (by kernel_rfl) (by kernel_rfl) (fun x y s=>(x.1,s,())) (fun x y s=>()) (fun x y=>rfl) (fun x y=>rfl) (fun x y s kA kO=>L191_2c F x.1 s kA kO) (fun _ _ _ _ _=>by simp only [L191_2,L191_2c,oA,oC,oS,oN,elimS_l,elimS_r,elimS_bind]) (fun _ _ _=>by kernel_rfl)
def T191c (F:Nat) (p0:List UInt8) {β:Type} (k:(Za)->Option β):Option β:=
 (Option.bind (iter (fun s=>L191_2 F p0 s) F (p0.length:Int)) fun z12=>(Option.bind (gsl p0 (0:Int) z12) fun x13=>(Option.bind (gapp ([]:List UInt8) x13) fun x14=>(k x14))))
def T191 (F:Nat) (p0:List UInt8):=T191c F p0 some
def ct191 (F:Nat):Ct:=mkC 0 [(.ro .u8)] [] [(.rw 0)] [.row 5 .u8] (fun x y=>T191 F x.1) (fun x y (z:Za)=>(((),()),(z,())))
theorem ok191 (F:Nat):Sound Tryz.prog cfg 191 (ct191 F):=
 mkC_ok (E:=E191 F) (lp:=[([0,1,1],lc191_2 F)]) (code:=bodyOf Tryz.f191) Tryz.func191 rfl Tryz.ntmps191 rfl rfl cok (cts191 F) mixed ⟨lo191_2 F,trivial⟩ (by kernel_rfl) (fun x y k=>T191c F x.1 k) (fun _ _ _=>by simp only [T191,T191c,oA,oC,oS,oN,elimS_bind]) (fun _ _=>by kernel_rfl)
def ord188:Nat->List (Tag×Nat)
 | 8=>[(.p,0),(.p,1),(.p,2),(.p,3),(.p,4),(.p,5),(.p,6),(.p,7),(.p,8),(.c,9),(.p,10),(.p,11),(.p,12),(.r,13),(.p,14),(.p,15),(.p,16),(.r,17),(.w,18),(.p,19),(.p,20),(.b,21)]
 | _=>[]
def E188 (F:Nat):Ev:=⟨cfg,49,ctOf [(192,ct192 F),(191,ct191 F)],ord188,ctOf [],fun _=>none,fun _=>none⟩
theorem cts188 (F:Nat):CtsOk Tryz.prog (E188 F):=cts_of (l:=[(192,ct192 F),(191,ct191 F)]) (l':=[]) rfl rfl ⟨⟨ok192 F,_,Tryz.func192,rfl,rfl⟩,⟨⟨ok191 F,_,Tryz.func191,rfl,rfl⟩,trivial⟩⟩ trivial
def L188_4c (F:Nat) (y38:List UInt8) (y39:List UInt8) (y40:Int) (y43:Int) (y44:Int) (y45:List UInt8) {β:Type} (kA:Zh->Option β) (kO:(Za)->Option β):Option β:=
 (bif (decide (y44 < y43)) then (Option.bind (inb y45.length (w64 (y40 + y44))) fun x52=>(Option.bind (y45[x52]?) fun x53=>(Option.bind (ix y38 y40) fun x54=>(Option.bind (ix y39 y44) fun x55=>(Option.bind (T192 F x54 x55) fun z56=>(Option.bind (inb y45.length (w64 (y40 + y44))) fun x57=>(kA ((w64 (y44 + (1:Int))),(List.set y45 x57 (x53 ^^^ z56)))))))))) else (kO y45))
def L188_4 (F:Nat) (y38:List UInt8) (y39:List UInt8) (y40:Int) (y43:Int) (y44:Int) (y45:List UInt8):=L188_4c F y38 y39 y40 y43 y44 y45 (fun s=>some (Sum.inl s)) (fun z=>some (Sum.inr z))
def lc188_4 (F:Nat):Lc:=mkL [0,1,5,6,15,16,20,21] [(.ro .u8),(.ro .u8),(.rw 0),.i,.i,.i,.i,.i] [.row 5 .u8] [0,1,5,15,16] [(.ro .u8),(.ro .u8),(.rw 0),.i,.i] [.row 5 .u8] F (fun x y (s:Int×Za)=>L188_4 F x.1 x.2.1 x.2.2.2.1 x.2.2.2.2.2.2.1 s.1 s.2) (fun x y=>(x.2.2.2.2.2.2.2.1,y.1)) (fun x y (z:Za)=>((x.1,x.2.1,(),x.2.2.2.2.1,x.2.2.2.2.2.1,()),(z,())))
theorem lo188_4 (F:Nat):LcOk Tryz.prog (E188 F) 0 (lc188_4 F) (cAt (bodyOf Tryz.f188) [1,1,0,0,1,1,0,0,1,0,1,1]):=
 mkL_ok (lp:=[]) (id:=2) (b:=cAt (bodyOf Tryz.f188) (0 :: 0 :: [1,1,0,0,1,1,0,0,1,0,1,1])) cok (cts188 F) mixed trivial (by kernel_rfl) (by kernel_rfl) (fun x y s=>(x.1,x.2.1,(),x.2.2.2.1,x.2.2.2.2.1,x.2.2.2.2.2.1,x.2.2.2.2.2.2.1,s.1,())) (fun x y s=>(s.2,())) (fun x y=>rfl) (fun x y=>rfl) (fun x y s kA kO=>L188_4c F x.1 x.2.1 x.2.2.2.1 x.2.2.2.2.2.2.1 s.1 s.2 kA kO) (fun _ _ _ _ _=>by simp only [L188_4,L188_4c,oA,oC,oS,oN,elimS_l,elimS_r,elimS_bind]) (fun _ _ _=>by kernel_rfl)
def L188_3c (F:Nat) (y32:List UInt8) (y33:List UInt8) (y34:Int) (y35:Int) (y36:List UInt8) {β:Type} (kA:Zh->Option β) (kO:(Za)->Option β):Option β:=
 (bif (decide (y35 < y34)) then (Option.bind (iter (fun s=>L188_4 F y32 y33 y35 (y33.length:Int) s.1 s.2) F ((0:Int),y36)) fun z58=>(kA ((w64 (y35 + (1:Int))),z58))) else (kO y36))
def L188_3 (F:Nat) (y32:List UInt8) (y33:List UInt8) (y34:Int) (y35:Int) (y36:List UInt8):=L188_3c F y32 y33 y34 y35 y36 (fun s=>some (Sum.inl s)) (fun z=>some (Sum.inr z))
def lc188_3 (F:Nat):Lc:=mkL [0,1,5,15,16] [(.ro .u8),(.ro .u8),(.rw 0),.i,.i] [.row 5 .u8] [5] [(.rw 0)] [.row 5 .u8] F (fun x y (s:Int×Za)=>L188_3 F x.1 x.2.1 x.2.2.2.1 s.1 s.2) (fun x y=>(x.2.2.2.2.1,y.1)) (fun x y (z:Za)=>(((),()),(z,())))
theorem lo188_3 (F:Nat):LcOk Tryz.prog (E188 F) 0 (lc188_3 F) (cAt (bodyOf Tryz.f188) [1,0,1,1]):=
 mkL_ok (lp:=[([1,1,0,0,1,1,0,0,1,0,1,1],lc188_4 F)]) (id:=0) (b:=cAt (bodyOf Tryz.f188) (0 :: 0 :: [1,0,1,1])) cok (cts188 F) mixed ⟨lo188_4 F,trivial⟩ (by kernel_rfl) (by kernel_rfl) (fun x y s=>(x.1,x.2.1,(),x.2.2.2.1,s.1,())) (fun x y s=>(s.2,())) (fun x y=>rfl) (fun x y=>rfl) (fun x y s kA kO=>L188_3c F x.1 x.2.1 x.2.2.2.1 s.1 s.2 kA kO) (fun _ _ _ _ _=>by simp only [L188_3,L188_3c,oA,oC,oS,oN,elimS_l,elimS_r,elimS_bind]) (fun _ _ _=>by kernel_rfl)
def T188c (F:Nat) (p0:List UInt8) (p1:List UInt8) {β:Type} (k:(Za)->Option β):Option β:=
 (Option.bind (gmake (0:UInt8) (w64 ((p0.length:Int) + (p1.length:Int))) (w64 ((p0.length:Int) + (p1.length:Int)))) fun x31=>(Option.bind (iter (fun s=>L188_3 F p0 p1 (p0.length:Int) s.1 s.2) F ((0:Int),x31)) fun z59=>(Option.bind (T191 F z59) fun z60=>(k z60))))
def T188 (F:Nat) (p0:List UInt8) (p1:List UInt8):=T188c F p0 p1 some
def ct188 (F:Nat):Ct:=mkC 0 [(.ro .u8),(.ro .u8)] [] [(.rw 0)] [.row 5 .u8] (fun x y=>T188 F x.1 x.2.1) (fun x y (z:Za)=>(((),()),(z,())))
theorem ok188 (F:Nat):Sound Tryz.prog cfg 188 (ct188 F):=
 mkC_ok (E:=E188 F) (lp:=[([1,0,1,1],lc188_3 F)]) (code:=bodyOf Tryz.f188) Tryz.func188 rfl Tryz.ntmps188 rfl rfl cok (cts188 F) mixed ⟨lo188_3 F,trivial⟩ (by kernel_rfl) (fun x y k=>T188c F x.1 x.2.1 k) (fun _ _ _=>by simp only [T188,T188c,oA,oC,oS,oN,elimS_bind]) (fun _ _=>by kernel_rfl)
def E189 (F:Nat):Ev:=⟨cfg,15,ctOf [(192,ct192 F)],fun _=>[],ctOf [],fun _=>none,fun _=>none⟩
theorem cts189 (F:Nat):CtsOk Tryz.prog (E189 F):=cts_of (l:=[(192,ct192 F)]) (l':=[]) rfl rfl ⟨⟨ok192 F,_,Tryz.func192,rfl,rfl⟩,trivial⟩ trivial
def L189_2c (F:Nat) (y6:UInt8) (y7:Int) {β:Type} (kA:Int->Option β) (kO:Unit->Option β) (kR:UInt8->Option β):Option β:=
 (bif (decide (y7 < (256:Int))) then (Option.bind (T192 F y6 (UInt8.ofInt y7)) fun z9=>(bif (z9 == (UInt8.ofNat 1)) then (kR (UInt8.ofInt y7)) else (kA (w64 (y7 + (1:Int)))))) else (kO ()))
def L189_2 (F:Nat) (y6:UInt8) (y7:Int):Option ((Int) ⊕ ((Unit) ⊕ (UInt8))):=L189_2c F y6 y7 (fun s=>some (.inl s)) (fun z=>some (.inr (.inl z))) (fun z=>some (.inr (.inr z)))
theorem L189_2n (F:Nat) (y6:UInt8) (y7:Int) {β:Type} (kA:Int->Option β) (kO:Unit->Option β) (kR:UInt8->Option β):L189_2c F y6 y7 kA kO kR=(L189_2 F y6 y7).bind (elimS kA (elimS kO kR)):=by
 simp only [L189_2,L189_2c,oA,oC,oS,oN,elimS_l,elimS_r,elimS_bind]
def lc189_2 (F:Nat):Lc:=mkR [0,3] [.u8,.i] [] [] [] [] [2] [.u8] [] F (fun x y (s:Int)=>L189_2 F x.1 s) (fun x y=>x.2.1) (fun x y (z:Unit)=>((),())) (fun x y (z:UInt8)=>((z,()),()))
theorem lo189_2 (F:Nat):LcOk Tryz.prog (E189 F) 0 (lc189_2 F) (cAt (bodyOf Tryz.f189) [1,0,1]):=
 mkR_ok (lp:=[]) (id:=0) (b:=cAt (bodyOf Tryz.f189) (0 :: 0 :: [1,0,1])) cok (cts189 F) mixed trivial (by kernel_rfl) (by kernel_rfl) (fun x y s=>(x.1,s,())) (fun x y s=>()) (fun x y=>rfl) (fun x y=>rfl) (fun x y s kA kO kR=>L189_2c F x.1 s kA kO kR) (fun x y s kA kO kR=>L189_2n F x.1 s kA kO kR) (fun _ _ _=>by kernel_rfl)
def T189c (F:Nat) (p0:UInt8) {β:Type} (k:UInt8->Option β):Option β:=
 (Option.bind (iter (fun s=>L189_2 F p0 s) F (1:Int)) fun z10=>elimS (fun z10=>(k (UInt8.ofNat 0))) (fun z10=>(k z10)) z10)
def T189 (F:Nat) (p0:UInt8):=T189c F p0 some
def ct189 (F:Nat):Ct:=mkC 0 [.u8] [] [.u8] [] (fun x y=>T189 F x.1) (fun x y (z:UInt8)=>((z,()),()))
theorem ok189 (F:Nat):Sound Tryz.prog cfg 189 (ct189 F):=
 mkC_ok (E:=E189 F) (lp:=[([1,0,1],lc189_2 F)]) (code:=bodyOf Tryz.f189) Tryz.func189 rfl Tryz.ntmps189 rfl rfl cok (cts189 F) mixed ⟨lo189_2 F,trivial⟩ (by kernel_rfl) (fun x y k=>T189c F x.1 k) (fun _ _ _=>by simp only [T189,T189c,oA,oC,oS,oN,elimS_bind]) (fun _ _=>by kernel_rfl)
def E205 (F:Nat):Ev:=⟨cfg,13,ctOf [],fun _=>[],ctOf [],fun _=>none,fun _=>none⟩
theorem cts205 (F:Nat):CtsOk Tryz.prog (E205 F):=cts_of (l:=[]) (l':=[]) rfl rfl trivial trivial
def T205c (F:Nat) (p0:List UInt8) (p1:Int) {β:Type} (k:UInt8->Option β):Option β:=
 (bif (decide (p1 < (p0.length:Int))) then (Option.bind (ix p0 p1) fun x2=>(k x2)) else (k (UInt8.ofNat 0)))
def T205 (F:Nat) (p0:List UInt8) (p1:Int):=T205c F p0 p1 some
def ct205 (F:Nat):Ct:=mkC 0 [(.ro .u8),.i] [] [.u8] [] (fun x y=>T205 F x.1 x.2.1) (fun x y (z:UInt8)=>((z,()),()))
theorem ok205 (F:Nat):Sound Tryz.prog cfg 205 (ct205 F):=
 mkC_ok (E:=E205 F) (lp:=[]) (code:=bodyOf Tryz.f205) Tryz.func205 rfl Tryz.ntmps205 rfl rfl cok (cts205 F) mixed trivial (by kernel_rfl) (fun x y k=>T205c F x.1 x.2.1 k) (fun _ _ _=>by simp only [T205,T205c,oA,oC,oS,oN,elimS_bind]) (fun _ _=>by kernel_rfl)
def E190 (F:Nat):Ev:=⟨cfg,31,ctOf [(205,ct205 F),(191,ct191 F)],fun _=>[],ctOf [],fun _=>none,fun _=>none⟩
theorem cts190 (F:Nat):CtsOk Tryz.prog (E190 F):=cts_of (l:=[(205,ct205 F),(191,ct191 F)]) (l':=[]) rfl rfl ⟨⟨ok205 F,_,Tryz.func205,rfl,rfl⟩,⟨⟨ok191 F,_,Tryz.func191,rfl,rfl⟩,trivial⟩⟩ trivial
def L190_2c (F:Nat) (y37:List UInt8) (y38:List UInt8) (y39:Int) (y40:List UInt8) {β:Type} (kA:Zh->Option β) (kO:(Za)->Option β):Option β:=
 (bif (decide (y39 < (y37.length:Int))) then (Option.bind (T205 F y37 y39) fun z47=>(Option.bind (T205 F y38 y39) fun z48=>(Option.bind (gapp y40 ([(z47 ^^^ z48)]:List UInt8)) fun x49=>(kA ((w64 (y39 + (1:Int))),x49))))) else (bif (decide (y39 < (y38.length:Int))) then (Option.bind (T205 F y37 y39) fun z50=>(Option.bind (T205 F y38 y39) fun z51=>(Option.bind (gapp y40 ([(z50 ^^^ z51)]:List UInt8)) fun x52=>(kA ((w64 (y39 + (1:Int))),x52))))) else (kO y40)))
def L190_2 (F:Nat) (y37:List UInt8) (y38:List UInt8) (y39:Int) (y40:List UInt8):=L190_2c F y37 y38 y39 y40 (fun s=>some (Sum.inl s)) (fun z=>some (Sum.inr z))
def lc190_2 (F:Nat):Lc:=mkL [0,1,5,6] [(.ro .u8),(.ro .u8),(.rw 0),.i] [.row 5 .u8] [5] [(.rw 0)] [.row 5 .u8] F (fun x y (s:Int×Za)=>L190_2 F x.1 x.2.1 s.1 s.2) (fun x y=>(x.2.2.2.1,y.1)) (fun x y (z:Za)=>(((),()),(z,())))
theorem lo190_2 (F:Nat):LcOk Tryz.prog (E190 F) 0 (lc190_2 F) (cAt (bodyOf Tryz.f190) [1,0,1,1]):=
 mkL_ok (lp:=[]) (id:=0) (b:=cAt (bodyOf Tryz.f190) (0 :: 0 :: [1,0,1,1])) cok (cts190 F) mixed trivial (by kernel_rfl) (by kernel_rfl) (fun x y s=>(x.1,x.2.1,(),s.1,())) (fun x y s=>(s.2,())) (fun x y=>rfl) (fun x y=>rfl) (fun x y s kA kO=>L190_2c F x.1 x.2.1 s.1 s.2 kA kO) (fun _ _ _ _ _=>by simp only [L190_2,L190_2c,oA,oC,oS,oN,elimS_l,elimS_r,elimS_bind]) (fun _ _ _=>by kernel_rfl)
def T190c (F:Nat) (p0:List UInt8) (p1:List UInt8) {β:Type} (k:(Za)->Option β):Option β:=
 (Option.bind (iter (fun s=>L190_2 F p0 p1 s.1 s.2) F ((0:Int),([]:List UInt8))) fun z53=>(Option.bind (T191 F z53) fun z54=>(k z54)))
def T190 (F:Nat) (p0:List UInt8) (p1:List UInt8):=T190c F p0 p1 some
def ct190 (F:Nat):Ct:=mkC 0 [(.ro .u8),(.ro .u8)] [] [(.rw 0)] [.row 5 .u8] (fun x y=>T190 F x.1 x.2.1) (fun x y (z:Za)=>(((),()),(z,())))
theorem ok190 (F:Nat):Sound Tryz.prog cfg 190 (ct190 F):=
 mkC_ok (E:=E190 F) (lp:=[([1,0,1,1],lc190_2 F)]) (code:=bodyOf Tryz.f190) Tryz.func190 rfl Tryz.ntmps190 rfl rfl cok (cts190 F) mixed ⟨lo190_2 F,trivial⟩ (by kernel_rfl) (fun x y k=>T190c F x.1 x.2.1 k) (fun _ _ _=>by simp only [T190,T190c,oA,oC,oS,oN,elimS_bind]) (fun _ _=>by kernel_rfl)
def ord152:Nat->List (Tag×Nat)
 | 11=>[(.p,0),(.p,1),(.p,2),(.p,3),(.r,4),(.p,5),(.p,6),(.p,7),(.r,8),(.p,9),(.w,10),(.w,11),(.w,12),(.p,13)]
 | _=>[]
def E152 (F:Nat):Ev:=⟨cfg,56,ctOf [(188,ct188 F),(189,ct189 F),(190,ct190 F),(191,ct191 F)],ord152,ctOf [],fun _=>none,fun _=>none⟩
theorem cts152 (F:Nat):CtsOk Tryz.prog (E152 F):=cts_of (l:=[(188,ct188 F),(189,ct189 F),(190,ct190 F),(191,ct191 F)]) (l':=[]) rfl rfl ⟨⟨ok188 F,_,Tryz.func188,rfl,rfl⟩,⟨⟨ok189 F,_,Tryz.func189,rfl,rfl⟩,⟨⟨ok190 F,_,Tryz.func190,rfl,rfl⟩,⟨⟨ok191 F,_,Tryz.func191,rfl,rfl⟩,trivial⟩⟩⟩⟩ trivial
def L152_5c (F:Nat) (y82:List UInt8) (y84:Int) (y87:Int) (y88:Int) (y90:List UInt8) {β:Type} (kA:Zh->Option β) (kO:(Za)->Option β):Option β:=
 (bif (decide (y88 < y87)) then (bif (y88 != y84) then (Option.bind (ix y82 y88) fun x97=>(Option.bind (T188 F y90 ([x97,(UInt8.ofNat 1)]:List UInt8)) fun z98=>(Option.bind (ix y82 y84) fun x99=>(Option.bind (ix y82 y88) fun x100=>(Option.bind (T189 F (x99 ^^^ x100)) fun z101=>(Option.bind (T188 F z98 ([z101]:List UInt8)) fun z102=>(kA ((w64 (y88 + (1:Int))),z102)))))))) else (kA ((w64 (y88 + (1:Int))),y90))) else (kO y90))
def L152_5 (F:Nat) (y82:List UInt8) (y84:Int) (y87:Int) (y88:Int) (y90:List UInt8):=L152_5c F y82 y84 y87 y88 y90 (fun s=>some (Sum.inl s)) (fun z=>some (Sum.inr z))
def lc152_5 (F:Nat):Lc:=mkL [0,1,5,6,7,10,11,16,17] [(.ro .u8),(.ro .u8),(.rw 0),.i,(.rw 1),.i,.i,.i,.i] [.row 5 .u8,.row 5 .u8] [0,1,5,6,7,10,11] [(.ro .u8),(.ro .u8),(.rw 0),.i,(.rw 1),.i,.i] [.row 5 .u8,.row 5 .u8] F (fun x y (s:Int×Za)=>L152_5 F x.1 x.2.2.2.1 x.2.2.2.2.2.2.2.1 s.1 s.2) (fun x y=>(x.2.2.2.2.2.2.2.2.1,y.2.1)) (fun x y (z:Za)=>((x.1,x.2.1,(),x.2.2.2.1,(),x.2.2.2.2.2.1,x.2.2.2.2.2.2.1,()),(y.1,z,())))
theorem lo152_5 (F:Nat):LcOk Tryz.prog (E152 F) 0 (lc152_5 F) (cAt (bodyOf Tryz.f152) [1,0,1,1,0,0,1,1,0,0,1,0,1,1]):=
 mkL_ok (lp:=[]) (id:=2) (b:=cAt (bodyOf Tryz.f152) (0 :: 0 :: [1,0,1,1,0,0,1,1,0,0,1,0,1,1])) cok (cts152 F) mixed trivial (by kernel_rfl) (by kernel_rfl) (fun x y s=>(x.1,x.2.1,(),x.2.2.2.1,(),x.2.2.2.2.2.1,x.2.2.2.2.2.2.1,x.2.2.2.2.2.2.2.1,s.1,())) (fun x y s=>(y.1,s.2,())) (fun x y=>rfl) (fun x y=>rfl) (fun x y s kA kO=>L152_5c F x.1 x.2.2.2.1 x.2.2.2.2.2.2.2.1 s.1 s.2 kA kO) (fun _ _ _ _ _=>by simp only [L152_5,L152_5c,oA,oC,oS,oN,elimS_l,elimS_r,elimS_bind]) (fun _ _ _=>by kernel_rfl)
def L152_4c (F:Nat) (y73:List UInt8) (y74:List UInt8) (y75:Int) (y76:Int) (y77:List UInt8) {β:Type} (kA:Zh->Option β) (kO:(Za)->Option β):Option β:=
 (bif (decide (y76 < y75)) then (Option.bind (iter (fun s=>L152_5 F y73 y76 (y73.length:Int) s.1 s.2) F ((0:Int),([(UInt8.ofNat 1)]:List UInt8))) fun z103=>(Option.bind (ix y74 y76) fun x104=>(Option.bind (T188 F z103 ([x104]:List UInt8)) fun z105=>(Option.bind (T190 F y77 z105) fun z106=>(kA ((w64 (y76 + (1:Int))),z106)))))) else (kO y77))
def L152_4 (F:Nat) (y73:List UInt8) (y74:List UInt8) (y75:Int) (y76:Int) (y77:List UInt8):=L152_4c F y73 y74 y75 y76 y77 (fun s=>some (Sum.inl s)) (fun z=>some (Sum.inr z))
def lc152_4 (F:Nat):Lc:=mkL [0,1,5,10,11] [(.ro .u8),(.ro .u8),(.rw 0),.i,.i] [.row 5 .u8] [5] [(.rw 0)] [.row 5 .u8] F (fun x y (s:Int×Za)=>L152_4 F x.1 x.2.1 x.2.2.2.1 s.1 s.2) (fun x y=>(x.2.2.2.2.1,y.1)) (fun x y (z:Za)=>(((),()),(z,())))
theorem lo152_4 (F:Nat):LcOk Tryz.prog (E152 F) 0 (lc152_4 F) (cAt (bodyOf Tryz.f152) [1,0,1,1]):=
 mkL_ok (lp:=[([1,0,1,1,0,0,1,1,0,0,1,0,1,1],lc152_5 F)]) (id:=0) (b:=cAt (bodyOf Tryz.f152) (0 :: 0 :: [1,0,1,1])) cok (cts152 F) mixed ⟨lo152_5 F,trivial⟩ (by kernel_rfl) (by kernel_rfl) (fun x y s=>(x.1,x.2.1,(),x.2.2.2.1,s.1,())) (fun x y s=>(s.2,())) (fun x y=>rfl) (fun x y=>rfl) (fun x y s kA kO=>L152_4c F x.1 x.2.1 x.2.2.2.1 s.1 s.2 kA kO) (fun _ _ _ _ _=>by simp only [L152_4,L152_4c,oA,oC,oS,oN,elimS_l,elimS_r,elimS_bind]) (fun _ _ _=>by kernel_rfl)
def T152c (F:Nat) (p0:List UInt8) (p1:List UInt8) {β:Type} (k:(Za)->Option β):Option β:=
 (Option.bind (iter (fun s=>L152_4 F p0 p1 (p0.length:Int) s.1 s.2) F ((0:Int),([]:List UInt8))) fun z107=>(Option.bind (T191 F z107) fun z108=>(k z108)))
def T152 (F:Nat) (p0:List UInt8) (p1:List UInt8):=T152c F p0 p1 some
def ct152 (F:Nat):Ct:=mkC 0 [(.ro .u8),(.ro .u8)] [] [(.rw 0)] [.row 5 .u8] (fun x y=>T152 F x.1 x.2.1) (fun x y (z:Za)=>(((),()),(z,())))
theorem ok152 (F:Nat):Sound Tryz.prog cfg 152 (ct152 F):=
 mkC_ok (E:=E152 F) (lp:=[([1,0,1,1],lc152_4 F)]) (code:=bodyOf Tryz.f152) Tryz.func152 rfl Tryz.ntmps152 rfl rfl cok (cts152 F) mixed ⟨lo152_4 F,trivial⟩ (by kernel_rfl) (fun x y k=>T152c F x.1 x.2.1 k) (fun _ _ _=>by simp only [T152,T152c,oA,oC,oS,oN,elimS_bind]) (fun _ _=>by kernel_rfl)
def E107 (F:Nat):Ev:=⟨cfg,44,ctOf [(152,ct152 F)],fun _=>[],ctOf [],fun _=>none,fun _=>none⟩
theorem cts107 (F:Nat):CtsOk Tryz.prog (E107 F):=cts_of (l:=[(152,ct152 F)]) (l':=[]) rfl rfl ⟨⟨ok152 F,_,Tryz.func152,rfl,rfl⟩,trivial⟩ trivial
def L107_5c (F:Nat) (y98:Int) (y99:List Zb) (y100:Int) (y101:Int) (y103:List UInt8) (y104:List UInt8) {β:Type} (kA:(Int×Za×Za)->Option β) (kO:(Za×Za)->Option β):Option β:=
 (bif (decide (y101 < y100)) then (Option.bind (ix y99 y101) fun x109=>(Option.bind (gapp y103 ([(UInt8.ofInt x109.1)]:List UInt8)) fun x110=>(Option.bind (ix x109.2.1 y98) fun x111=>(Option.bind (gapp y104 ([x111]:List UInt8)) fun x112=>(kA ((w64 (y101 + (1:Int))),x110,x112)))))) else (kO (y103,y104)))
def L107_5 (F:Nat) (y98:Int) (y99:List Zb) (y100:Int) (y101:Int) (y103:List UInt8) (y104:List UInt8):=L107_5c F y98 y99 y100 y101 y103 y104 (fun s=>some (Sum.inl s)) (fun z=>some (Sum.inr z))
def lc107_5 (F:Nat):Lc:=mkL [0,1,5,6,7,8,16,17,18] [(.ro (.pr .i (.pr (.sl .u8) .un))),.i,(.rw 0),.i,(.rw 1),(.rw 2),(.ro (.pr .i (.pr (.sl .u8) .un))),.i,.i] [.row 36 (.sl .u8),.row 5 .u8,.row 5 .u8] [0,1,5,6,7,8] [(.ro (.pr .i (.pr (.sl .u8) .un))),.i,(.rw 0),.i,(.rw 1),(.rw 2)] [.row 36 (.sl .u8),.row 5 .u8,.row 5 .u8] F (fun x y (s:Int×Za×Za)=>L107_5 F x.2.2.2.1 x.2.2.2.2.2.2.1 x.2.2.2.2.2.2.2.1 s.1 s.2.1 s.2.2) (fun x y=>(x.2.2.2.2.2.2.2.2.1,y.2.1,y.2.2.1)) (fun x y (z:Za×Za)=>((x.1,x.2.1,(),x.2.2.2.1,(),(),()),(y.1,z.1,z.2,())))
theorem lo107_5 (F:Nat):LcOk Tryz.prog (E107 F) 0 (lc107_5 F) (cAt (bodyOf Tryz.f107) [1,0,1,0,0,1,0,0,1,0,1,1]):=
 mkL_ok (lp:=[]) (id:=2) (b:=cAt (bodyOf Tryz.f107) (0 :: 0 :: [1,0,1,0,0,1,0,0,1,0,1,1])) cok (cts107 F) mixed trivial (by kernel_rfl) (by kernel_rfl) (fun x y s=>(x.1,x.2.1,(),x.2.2.2.1,(),(),x.2.2.2.2.2.2.1,x.2.2.2.2.2.2.2.1,s.1,())) (fun x y s=>(y.1,s.2.1,s.2.2,())) (fun x y=>rfl) (fun x y=>rfl) (fun x y s kA kO=>L107_5c F x.2.2.2.1 x.2.2.2.2.2.2.1 x.2.2.2.2.2.2.2.1 s.1 s.2.1 s.2.2 kA kO) (fun _ _ _ _ _=>by simp only [L107_5,L107_5c,oA,oC,oS,oN,elimS_l,elimS_r,elimS_bind]) (fun _ _ _=>by kernel_rfl)
def L107_4c (F:Nat) (y78:List Zb) (y79:Int) (y80:Int) (y81:List Za) {β:Type} (kA:(Int×Zm)->Option β) (kO:(Zm)->Option β):Option β:=
 (bif (decide (y80 < y79)) then (Option.bind (iter (fun s=>L107_5 F y80 y78 (y78.length:Int) s.1 s.2.1 s.2.2) F ((0:Int),([]:List UInt8),([]:List UInt8))) fun z113=>(Option.bind (T152 F z113.1 z113.2) fun z114=>(Option.bind (gapp y81 ([z114]:List Za)) fun x115=>(kA ((w64 (y80 + (1:Int))),x115))))) else (kO y81))
def L107_4 (F:Nat) (y78:List Zb) (y79:Int) (y80:Int) (y81:List Za):=L107_4c F y78 y79 y80 y81 (fun s=>some (Sum.inl s)) (fun z=>some (Sum.inr z))
def lc107_4 (F:Nat):Lc:=mkL [0,1,5,6] [(.ro (.pr .i (.pr (.sl .u8) .un))),.i,(.rw 0),.i] [.row 36 (.sl .u8)] [5] [(.rw 0)] [.row 36 (.sl .u8)] F (fun x y (s:Int×Zm)=>L107_4 F x.1 x.2.1 s.1 s.2) (fun x y=>(x.2.2.2.1,y.1)) (fun x y (z:Zm)=>(((),()),(z,())))
theorem lo107_4 (F:Nat):LcOk Tryz.prog (E107 F) 0 (lc107_4 F) (cAt (bodyOf Tryz.f107) [1,0,1,1]):=
 mkL_ok (lp:=[([1,0,1,0,0,1,0,0,1,0,1,1],lc107_5 F)]) (id:=0) (b:=cAt (bodyOf Tryz.f107) (0 :: 0 :: [1,0,1,1])) cok (cts107 F) mixed ⟨lo107_5 F,trivial⟩ (by kernel_rfl) (by kernel_rfl) (fun x y s=>(x.1,x.2.1,(),s.1,())) (fun x y s=>(s.2,())) (fun x y=>rfl) (fun x y=>rfl) (fun x y s kA kO=>L107_4c F x.1 x.2.1 s.1 s.2 kA kO) (fun _ _ _ _ _=>by simp only [L107_4,L107_4c,oA,oC,oS,oN,elimS_l,elimS_r,elimS_bind]) (fun _ _ _=>by kernel_rfl)
def T107c (F:Nat) (p0:List Zb) (p1:Int) {β:Type} (k:(Zm)->Option β):Option β:=
 (Option.bind (iter (fun s=>L107_4 F p0 p1 s.1 s.2) F ((0:Int),([]:List Za))) fun z116=>(k z116))
def T107 (F:Nat) (p0:List Zb) (p1:Int):=T107c F p0 p1 some
def ct107 (F:Nat):Ct:=mkC 0 [(.ro (.pr .i (.pr (.sl .u8) .un))),.i] [] [(.rw 0)] [.row 36 (.sl .u8)] (fun x y=>T107 F x.1 x.2.1) (fun x y (z:Zm)=>(((),()),(z,())))
theorem ok107 (F:Nat):Sound Tryz.prog cfg 107 (ct107 F):=
 mkC_ok (E:=E107 F) (lp:=[([1,0,1,1],lc107_4 F)]) (code:=bodyOf Tryz.f107) Tryz.func107 rfl Tryz.ntmps107 rfl rfl cok (cts107 F) mixed ⟨lo107_4 F,trivial⟩ (by kernel_rfl) (fun x y k=>T107c F x.1 x.2.1 k) (fun _ _ _=>by simp only [T107,T107c,oA,oC,oS,oN,elimS_bind]) (fun _ _=>by kernel_rfl)
def E193 (F:Nat):Ev:=⟨cfg,22,ctOf [(192,ct192 F)],fun _=>[],ctOf [],fun _=>none,fun _=>none⟩
theorem cts193 (F:Nat):CtsOk Tryz.prog (E193 F):=cts_of (l:=[(192,ct192 F)]) (l':=[]) rfl rfl ⟨⟨ok192 F,_,Tryz.func192,rfl,rfl⟩,trivial⟩ trivial
def L193_2c (F:Nat) (y7:UInt8) (y8:Int) (y9:UInt8) {β:Type} (kA:(Int×UInt8)->Option β) (kO:UInt8->Option β):Option β:=
 (bif (decide ((0:Int) < y8)) then (Option.bind (T192 F y9 y7) fun z11=>(kA ((w64 (y8 - (1:Int))),z11))) else (kO y9))
def L193_2 (F:Nat) (y7:UInt8) (y8:Int) (y9:UInt8):=L193_2c F y7 y8 y9 (fun s=>some (Sum.inl s)) (fun z=>some (Sum.inr z))
def lc193_2 (F:Nat):Lc:=mkL [0,1,5] [.u8,.i,.u8] [] [5] [.u8] [] F (fun x y (s:Int×UInt8)=>L193_2 F x.1 s.1 s.2) (fun x y=>(x.2.1,x.2.2.1)) (fun x y (z:UInt8)=>((z,()),()))
theorem lo193_2 (F:Nat):LcOk Tryz.prog (E193 F) 0 (lc193_2 F) (cAt (bodyOf Tryz.f193) [1,0,1,1,1]):=
 mkL_ok (lp:=[]) (id:=0) (b:=cAt (bodyOf Tryz.f193) (0 :: 0 :: [1,0,1,1,1])) cok (cts193 F) mixed trivial (by kernel_rfl) (by kernel_rfl) (fun x y s=>(x.1,s.1,s.2,())) (fun x y s=>()) (fun x y=>rfl) (fun x y=>rfl) (fun x y s kA kO=>L193_2c F x.1 s.1 s.2 kA kO) (fun _ _ _ _ _=>by simp only [L193_2,L193_2c,oA,oC,oS,oN,elimS_l,elimS_r,elimS_bind]) (fun _ _ _=>by kernel_rfl)
def T193c (F:Nat) (p0:UInt8) (p1:Int) {β:Type} (k:UInt8->Option β):Option β:=
 (bif (p0 == (UInt8.ofNat 0)) then (bif (p1 == (0:Int)) then (k (UInt8.ofNat 1)) else (k (UInt8.ofNat 0))) else (Option.bind (iter (fun s=>L193_2 F p0 s.1 s.2) F ((Int.tmod (w64 ((Int.tmod p1 (255:Int)) + (255:Int))) (255:Int)),(UInt8.ofNat 1))) fun z12=>(k z12)))
def T193 (F:Nat) (p0:UInt8) (p1:Int):=T193c F p0 p1 some
def ct193 (F:Nat):Ct:=mkC 0 [.u8,.i] [] [.u8] [] (fun x y=>T193 F x.1 x.2.1) (fun x y (z:UInt8)=>((z,()),()))
theorem ok193 (F:Nat):Sound Tryz.prog cfg 193 (ct193 F):=
 mkC_ok (E:=E193 F) (lp:=[([1,0,1,1,1],lc193_2 F)]) (code:=bodyOf Tryz.f193) Tryz.func193 rfl Tryz.ntmps193 rfl rfl cok (cts193 F) mixed ⟨lo193_2 F,trivial⟩ (by kernel_rfl) (fun x y k=>T193c F x.1 x.2.1 k) (fun _ _ _=>by simp only [T193,T193c,oA,oC,oS,oN,elimS_bind]) (fun _ _=>by kernel_rfl)
def ord153:Nat->List (Tag×Nat)
 | 5=>[(.p,0),(.p,1),(.p,2),(.p,3),(.c,4),(.p,5),(.p,6),(.w,7),(.b,8),(.p,9),(.p,10)]
 | _=>[]
def E153 (F:Nat):Ev:=⟨cfg,24,ctOf [(193,ct193 F),(192,ct192 F)],ord153,ctOf [],fun _=>none,fun _=>none⟩
theorem cts153 (F:Nat):CtsOk Tryz.prog (E153 F):=cts_of (l:=[(193,ct193 F),(192,ct192 F)]) (l':=[]) rfl rfl ⟨⟨ok193 F,_,Tryz.func193,rfl,rfl⟩,⟨⟨ok192 F,_,Tryz.func192,rfl,rfl⟩,trivial⟩⟩ trivial
def L153_2c (F:Nat) (y13:List UInt8) (y14:UInt8) (y16:Int) (y15:UInt8) (y17:Int) {β:Type} (kA:(UInt8×Int)->Option β) (kO:UInt8->Option β):Option β:=
 (bif (decide (y17 < y16)) then (Option.bind (ix y13 y17) fun x21=>(Option.bind (T193 F y14 y17) fun z22=>(Option.bind (T192 F x21 z22) fun z23=>(kA ((y15 ^^^ z23),(w64 (y17 + (1:Int)))))))) else (kO y15))
def L153_2 (F:Nat) (y13:List UInt8) (y14:UInt8) (y16:Int) (y15:UInt8) (y17:Int):=L153_2c F y13 y14 y16 y15 y17 (fun s=>some (Sum.inl s)) (fun z=>some (Sum.inr z))
def lc153_2 (F:Nat):Lc:=mkL [0,1,5,8,9] [(.ro .u8),.u8,.u8,.i,.i] [] [5] [.u8] [] F (fun x y (s:UInt8×Int)=>L153_2 F x.1 x.2.1 x.2.2.2.1 s.1 s.2) (fun x y=>(x.2.2.1,x.2.2.2.2.1)) (fun x y (z:UInt8)=>((z,()),()))
theorem lo153_2 (F:Nat):LcOk Tryz.prog (E153 F) 0 (lc153_2 F) (cAt (bodyOf Tryz.f153) [1,0,1,1]):=
 mkL_ok (lp:=[]) (id:=0) (b:=cAt (bodyOf Tryz.f153) (0 :: 0 :: [1,0,1,1])) cok (cts153 F) mixed trivial (by kernel_rfl) (by kernel_rfl) (fun x y s=>(x.1,x.2.1,s.1,x.2.2.2.1,s.2,())) (fun x y s=>()) (fun x y=>rfl) (fun x y=>rfl) (fun x y s kA kO=>L153_2c F x.1 x.2.1 x.2.2.2.1 s.1 s.2 kA kO) (fun _ _ _ _ _=>by simp only [L153_2,L153_2c,oA,oC,oS,oN,elimS_l,elimS_r,elimS_bind]) (fun _ _ _=>by kernel_rfl)
def T153c (F:Nat) (p0:List UInt8) (p1:UInt8) {β:Type} (k:UInt8->Option β):Option β:=
 (Option.bind (iter (fun s=>L153_2 F p0 p1 (p0.length:Int) s.1 s.2) F ((UInt8.ofNat 0),(0:Int))) fun z24=>(k z24))
def T153 (F:Nat) (p0:List UInt8) (p1:UInt8):=T153c F p0 p1 some
def ct153 (F:Nat):Ct:=mkC 0 [(.ro .u8),.u8] [] [.u8] [] (fun x y=>T153 F x.1 x.2.1) (fun x y (z:UInt8)=>((z,()),()))
theorem ok153 (F:Nat):Sound Tryz.prog cfg 153 (ct153 F):=
 mkC_ok (E:=E153 F) (lp:=[([1,0,1,1],lc153_2 F)]) (code:=bodyOf Tryz.f153) Tryz.func153 rfl Tryz.ntmps153 rfl rfl cok (cts153 F) mixed ⟨lo153_2 F,trivial⟩ (by kernel_rfl) (fun x y k=>T153c F x.1 x.2.1 k) (fun _ _ _=>by simp only [T153,T153c,oA,oC,oS,oN,elimS_bind]) (fun _ _=>by kernel_rfl)
def ord108:Nat->List (Tag×Nat)
 | 5=>[(.p,0),(.c,1),(.p,2),(.p,3),(.p,4),(.w,5),(.w,6),(.w,7),(.p,8),(.b,9)]
 | _=>[]
def E108 (F:Nat):Ev:=⟨cfg,27,ctOf [(153,ct153 F)],ord108,ctOf [],fun _=>none,fun _=>none⟩
theorem cts108 (F:Nat):CtsOk Tryz.prog (E108 F):=cts_of (l:=[(153,ct153 F)]) (l':=[]) rfl rfl ⟨⟨ok153 F,_,Tryz.func153,rfl,rfl⟩,trivial⟩ trivial
def L108_2c (F:Nat) (y33:Int) (y34:List Za) (y35:Int) (y36:Int) (y39:List UInt8) {β:Type} (kA:Zh->Option β) (kO:(Za)->Option β):Option β:=
 (bif (decide (y36 < y35)) then (Option.bind (ix y34 y36) fun x43=>(Option.bind (T153 F x43 (UInt8.ofInt y33)) fun z44=>(Option.bind (gapp y39 ([z44]:List UInt8)) fun x45=>(kA ((w64 (y36 + (1:Int))),x45))))) else (kO y39))
def L108_2 (F:Nat) (y33:Int) (y34:List Za) (y35:Int) (y36:Int) (y39:List UInt8):=L108_2c F y33 y34 y35 y36 y39 (fun s=>some (Sum.inl s)) (fun z=>some (Sum.inr z))
def lc108_2 (F:Nat):Lc:=mkL [1,4,5,10,11,12] [.i,(.pt 0 []),(.pt 1 []),(.ro (.sl .u8)),.i,.i] [.blk 59 (.pr .i (.pr .ns .un)),.blk 59 (.pr .i (.pr (.rw 2) .un)),.row 5 .u8] [4,5] [(.pt 0 []),(.pt 1 [])] [.blk 59 (.pr .i (.pr .ns .un)),.blk 59 (.pr .i (.pr (.rw 2) .un)),.row 5 .u8] F (fun x y (s:Int×Za)=>L108_2 F x.1 x.2.2.2.1 x.2.2.2.2.1 s.1 s.2) (fun x y=>(x.2.2.2.2.2.1,y.2.2.1)) (fun x y (z:Za)=>(((),(),()),((y.1.1,(),()),(y.2.1.1,(),()),z,())))
theorem lo108_2 (F:Nat):LcOk Tryz.prog (E108 F) 0 (lc108_2 F) (cAt (bodyOf Tryz.f108) [1,0,1,1]):=
 mkL_ok (lp:=[]) (id:=0) (b:=cAt (bodyOf Tryz.f108) (0 :: 0 :: [1,0,1,1])) cok (cts108 F) mixed trivial (by kernel_rfl) (by kernel_rfl) (fun x y s=>(x.1,(),(),x.2.2.2.1,x.2.2.2.2.1,s.1,())) (fun x y s=>((y.1.1,(),()),(y.2.1.1,(),()),s.2,())) (fun x y=>rfl) (fun x y=>rfl) (fun x y s kA kO=>L108_2c F x.1 x.2.2.2.1 x.2.2.2.2.1 s.1 s.2 kA kO) (fun _ _ _ _ _=>by simp only [L108_2,L108_2c,oA,oC,oS,oN,elimS_l,elimS_r,elimS_bind]) (fun _ _ _=>by kernel_rfl)
def T108c (F:Nat) (p0:List Za) (p1:Int) {β:Type} (k:(Za)->Option β):Option β:=
 (Option.bind (iter (fun s=>L108_2 F p1 p0 (p0.length:Int) s.1 s.2) F ((0:Int),([]:List UInt8))) fun z46=>(k z46))
def T108 (F:Nat) (p0:List Za) (p1:Int):=T108c F p0 p1 some
def ct108 (F:Nat):Ct:=mkC 0 [(.ro (.sl .u8)),.i] [] [(.pr .i (.pr (.rw 0) .un))] [.row 5 .u8] (fun x y=>T108 F x.1 x.2.1) (fun x y (z:Za)=>(((x.2.1,(),()),()),(z,())))
theorem ok108 (F:Nat):Sound Tryz.prog cfg 108 (ct108 F):=
 mkC_ok (E:=E108 F) (lp:=[([1,0,1,1],lc108_2 F)]) (code:=bodyOf Tryz.f108) Tryz.func108 rfl Tryz.ntmps108 rfl rfl cok (cts108 F) mixed ⟨lo108_2 F,trivial⟩ (by kernel_rfl) (fun x y k=>T108c F x.1 x.2.1 k) (fun _ _ _=>by simp only [T108,T108c,oA,oC,oS,oN,elimS_bind]) (fun _ _=>by kernel_rfl)
def E145 (F:Nat):Ev:=⟨cfg,35,ctOf [],fun _=>[],ctOf [],fun _=>none,fun _=>none⟩
theorem cts145 (F:Nat):CtsOk Tryz.prog (E145 F):=cts_of (l:=[]) (l':=[]) rfl rfl trivial trivial
def L145_3c (F:Nat) (y19:List UInt8) {β:Type} (kA:(Za)->Option β) (kO:(Za)->Option β):Option β:=
 (bif ((Int.tmod (y19.length:Int) (64:Int)) != (56:Int)) then (Option.bind (gapp y19 ([(UInt8.ofNat 0)]:List UInt8)) fun x21=>(kA x21)) else (kO y19))
def L145_3 (F:Nat) (y19:List UInt8):=L145_3c F y19 (fun s=>some (Sum.inl s)) (fun z=>some (Sum.inr z))
def lc145_3 (F:Nat):Lc:=mkL [0,3] [(.ro .u8),(.rw 0)] [.row 5 .u8] [0,3] [(.ro .u8),(.rw 0)] [.row 5 .u8] F (fun x y (s:Za)=>L145_3 F s) (fun x y=>y.1) (fun x y (z:Za)=>((x.1,(),()),(z,())))
theorem lo145_3 (F:Nat):LcOk Tryz.prog (E145 F) 0 (lc145_3 F) (cAt (bodyOf Tryz.f145) [0,1,1]):=
 mkL_ok (lp:=[]) (id:=0) (b:=cAt (bodyOf Tryz.f145) (0 :: 0 :: [0,1,1])) cok (cts145 F) mixed trivial (by kernel_rfl) (by kernel_rfl) (fun x y s=>(x.1,(),())) (fun x y s=>(s,())) (fun x y=>rfl) (fun x y=>rfl) (fun x y s kA kO=>L145_3c F s kA kO) (fun _ _ _ _ _=>by simp only [L145_3,L145_3c,oA,oC,oS,oN,elimS_l,elimS_r,elimS_bind]) (fun _ _ _=>by kernel_rfl)
def L145_4c (F:Nat) (y23:UInt64) (y24:Int) (y25:List UInt8) {β:Type} (kA:Zh->Option β) (kO:(Za)->Option β):Option β:=
 (bif (decide ((0:Int)≤y24)) then (Option.bind (gnn (w64 ((8:Int) * y24))) fun x28=>(Option.bind (gapp y25 ([((shr64 y23 x28).toUInt8)]:List UInt8)) fun x29=>(kA ((w64 (y24 - (1:Int))),x29)))) else (kO y25))
def L145_4 (F:Nat) (y23:UInt64) (y24:Int) (y25:List UInt8):=L145_4c F y23 y24 y25 (fun s=>some (Sum.inl s)) (fun z=>some (Sum.inr z))
def lc145_4 (F:Nat):Lc:=mkL [3,4,5] [(.rw 0),.u64,.i] [.row 5 .u8] [3] [(.rw 0)] [.row 5 .u8] F (fun x y (s:Int×Za)=>L145_4 F x.2.1 s.1 s.2) (fun x y=>(x.2.2.1,y.1)) (fun x y (z:Za)=>(((),()),(z,())))
theorem lo145_4 (F:Nat):LcOk Tryz.prog (E145 F) 0 (lc145_4 F) (cAt (bodyOf Tryz.f145) [1,0,1,1,1,1]):=
 mkL_ok (lp:=[]) (id:=2) (b:=cAt (bodyOf Tryz.f145) (0 :: 0 :: [1,0,1,1,1,1])) cok (cts145 F) mixed trivial (by kernel_rfl) (by kernel_rfl) (fun x y s=>((),x.2.1,s.1,())) (fun x y s=>(s.2,())) (fun x y=>rfl) (fun x y=>rfl) (fun x y s kA kO=>L145_4c F x.2.1 s.1 s.2 kA kO) (fun _ _ _ _ _=>by simp only [L145_4,L145_4c,oA,oC,oS,oN,elimS_l,elimS_r,elimS_bind]) (fun _ _ _=>by kernel_rfl)
def T145c (F:Nat) (p0:List UInt8) {β:Type} (k:(Za)->Option β):Option β:=
 (Option.bind (gapp ([]:List UInt8) p0) fun x16=>(Option.bind (gapp x16 ([(UInt8.ofNat 128)]:List UInt8)) fun x17=>(Option.bind (iter (fun s=>L145_3 F s) F x17) fun z22=>(Option.bind (iter (fun s=>L145_4 F ((UInt64.ofInt (p0.length:Int)) * (UInt64.ofNat 8)) s.1 s.2) F ((7:Int),z22)) fun z30=>(k z30)))))
def T145 (F:Nat) (p0:List UInt8):=T145c F p0 some
def ct145 (F:Nat):Ct:=mkC 0 [(.ro .u8)] [] [(.rw 0)] [.row 5 .u8] (fun x y=>T145 F x.1) (fun x y (z:Za)=>(((),()),(z,())))
theorem ok145 (F:Nat):Sound Tryz.prog cfg 145 (ct145 F):=
 mkC_ok (E:=E145 F) (lp:=[([0,1,1],lc145_3 F),([1,0,1,1,1,1],lc145_4 F)]) (code:=bodyOf Tryz.f145) Tryz.func145 rfl Tryz.ntmps145 rfl rfl cok (cts145 F) mixed ⟨lo145_3 F,⟨lo145_4 F,trivial⟩⟩ (by kernel_rfl) (fun x y k=>T145c F x.1 k) (fun _ _ _=>by simp only [T145,T145c,oA,oC,oS,oN,elimS_bind]) (fun _ _=>by kernel_rfl)
def E180 (F:Nat):Ev:=⟨cfg,2,ctOf [],fun _=>[],ctOf [],fun _=>none,fun _=>none⟩
theorem cts180 (F:Nat):CtsOk Tryz.prog (E180 F):=cts_of (l:=[]) (l':=[]) rfl rfl trivial trivial
def T180c (F:Nat) {β:Type} (k:(Zj)->Option β):Option β:=
 (k (#v[(UInt32.ofNat 1116352408),(UInt32.ofNat 1899447441),(UInt32.ofNat 3049323471),(UInt32.ofNat 3921009573),(UInt32.ofNat 961987163),(UInt32.ofNat 1508970993),(UInt32.ofNat 2453635748),(UInt32.ofNat 2870763221),(UInt32.ofNat 3624381080),(UInt32.ofNat 310598401),(UInt32.ofNat 607225278),(UInt32.ofNat 1426881987),(UInt32.ofNat 1925078388),(UInt32.ofNat 2162078206),(UInt32.ofNat 2614888103),(UInt32.ofNat 3248222580),(UInt32.ofNat 3835390401),(UInt32.ofNat 4022224774),(UInt32.ofNat 264347078),(UInt32.ofNat 604807628),(UInt32.ofNat 770255983),(UInt32.ofNat 1249150122),(UInt32.ofNat 1555081692),(UInt32.ofNat 1996064986),(UInt32.ofNat 2554220882),(UInt32.ofNat 2821834349),(UInt32.ofNat 2952996808),(UInt32.ofNat 3210313671),(UInt32.ofNat 3336571891),(UInt32.ofNat 3584528711),(UInt32.ofNat 113926993),(UInt32.ofNat 338241895),(UInt32.ofNat 666307205),(UInt32.ofNat 773529912),(UInt32.ofNat 1294757372),(UInt32.ofNat 1396182291),(UInt32.ofNat 1695183700),(UInt32.ofNat 1986661051),(UInt32.ofNat 2177026350),(UInt32.ofNat 2456956037),(UInt32.ofNat 2730485921),(UInt32.ofNat 2820302411),(UInt32.ofNat 3259730800),(UInt32.ofNat 3345764771),(UInt32.ofNat 3516065817),(UInt32.ofNat 3600352804),(UInt32.ofNat 4094571909),(UInt32.ofNat 275423344),(UInt32.ofNat 430227734),(UInt32.ofNat 506948616),(UInt32.ofNat 659060556),(UInt32.ofNat 883997877),(UInt32.ofNat 958139571),(UInt32.ofNat 1322822218),(UInt32.ofNat 1537002063),(UInt32.ofNat 1747873779),(UInt32.ofNat 1955562222),(UInt32.ofNat 2024104815),(UInt32.ofNat 2227730452),(UInt32.ofNat 2361852424),(UInt32.ofNat 2428436474),(UInt32.ofNat 2756734187),(UInt32.ofNat 3204031479),(UInt32.ofNat 3329325298)]:Vector UInt32 64))
def T180 (F:Nat):=T180c F some
def ct180 (F:Nat):Ct:=mkC 0 [] [] [(.ar 64 .u32)] [] (fun x y=>T180 F) (fun x y (z:Zj)=>((z,()),()))
theorem ok180 (F:Nat):Sound Tryz.prog cfg 180 (ct180 F):=
 mkC_ok (E:=E180 F) (lp:=[]) (code:=bodyOf Tryz.f180) Tryz.func180 rfl Tryz.ntmps180 rfl rfl cok (cts180 F) mixed trivial (by kernel_rfl) (fun x y k=>T180c F k) (fun _ _ _=>by simp only [T180,T180c,oA,oC,oS,oN,elimS_bind]) (fun _ _=>by kernel_rfl)
def ord181:Nat->List (Tag×Nat)
 | 1=>[(.p,0),(.p,1),(.p,2),(.p,3),(.p,4),(.p,5),(.p,6),(.p,7),(.p,8)]
 | _=>[]
def E181 (F:Nat):Ev:=⟨cfg,13,ctOf [],ord181,ctOf [],fun _=>none,fun _=>none⟩
theorem cts181 (F:Nat):CtsOk Tryz.prog (E181 F):=cts_of (l:=[]) (l':=[]) rfl rfl trivial trivial
def T181c (F:Nat) (p0:UInt32) (p1:Int) {β:Type} (k:UInt32->Option β):Option β:=
 (Option.bind (gnn p1) fun x3=>(Option.bind (gnn (w64 ((32:Int) - p1))) fun x4=>(k ((shr32 p0 x3) ||| (shl32 p0 x4)))))
def T181 (F:Nat) (p0:UInt32) (p1:Int):=T181c F p0 p1 some
def ct181 (F:Nat):Ct:=mkC 0 [.u32,.i] [] [.u32] [] (fun x y=>T181 F x.1 x.2.1) (fun x y (z:UInt32)=>((z,()),()))
theorem ok181 (F:Nat):Sound Tryz.prog cfg 181 (ct181 F):=
 mkC_ok (E:=E181 F) (lp:=[]) (code:=bodyOf Tryz.f181) Tryz.func181 rfl Tryz.ntmps181 rfl rfl cok (cts181 F) mixed trivial (by kernel_rfl) (fun x y k=>T181c F x.1 x.2.1 k) (fun _ _ _=>by simp only [T181,T181c,oA,oC,oS,oN,elimS_bind]) (fun _ _=>by kernel_rfl)
def ord146:Nat->List (Tag×Nat)
 | 6=>[(.p,0),(.p,1),(.p,2),(.p,3),(.p,4),(.r,5),(.p,6),(.p,7),(.p,8),(.p,9),(.p,10),(.p,11),(.p,12),(.r,13),(.p,14),(.p,15),(.p,16),(.p,17),(.p,18),(.p,19),(.p,20),(.p,21),(.r,22),(.p,23),(.p,24),(.p,25),(.p,26),(.p,27),(.p,28),(.p,29),(.p,30),(.r,31),(.p,32),(.p,33),(.p,34),(.w,35)]
 | 10=>[(.p,0),(.p,1),(.p,2),(.r,3),(.p,5),(.p,6),(.p,7),(.c,8),(.p,11),(.p,12),(.p,13),(.c,14),(.p,15),(.w,4),(.w,9),(.p,10),(.p,16),(.p,17)]
 | 11=>[(.p,0),(.p,1),(.p,2),(.r,3),(.p,5),(.p,6),(.p,7),(.c,8),(.p,11),(.p,12),(.p,13),(.c,14),(.p,15),(.w,4),(.w,9),(.p,10),(.p,16),(.p,17)]
 | 12=>[(.p,0),(.p,1),(.p,2),(.p,3),(.p,4),(.r,5),(.p,6),(.p,7),(.p,8),(.p,9),(.p,10),(.p,11),(.r,12),(.p,13),(.p,14),(.w,15)]
 | 17=>[(.p,0),(.r,1),(.p,2),(.r,3),(.p,4),(.r,5),(.p,6),(.r,7),(.p,8),(.r,9),(.p,10),(.r,11),(.p,12),(.p,13),(.p,14),(.p,15),(.p,16),(.p,17)]
 | 18=>[(.p,0),(.c,1),(.p,2),(.p,4),(.p,7),(.p,11),(.p,12),(.p,13),(.p,14),(.p,15),(.p,16),(.p,17),(.p,18),(.p,20),(.p,21),(.c,22),(.p,24),(.p,25),(.c,26),(.w,3),(.w,5),(.p,6),(.w,8),(.p,9),(.p,10),(.p,19),(.p,23),(.p,27),(.p,28)]
 | 24=>[(.p,0),(.p,1),(.r,2),(.p,3),(.p,4),(.r,5),(.p,6),(.p,7),(.w,8)]
 | _=>[]
def E146 (F:Nat):Ev:=⟨cfg,208,ctOf [(180,ct180 F),(181,ct181 F)],ord146,ctOf [],fun _=>none,fun _=>none⟩
theorem cts146 (F:Nat):CtsOk Tryz.prog (E146 F):=cts_of (l:=[(180,ct180 F),(181,ct181 F)]) (l':=[]) rfl rfl ⟨⟨ok180 F,_,Tryz.func180,rfl,rfl⟩,⟨⟨ok181 F,_,Tryz.func181,rfl,rfl⟩,trivial⟩⟩ trivial
def L146_5c (F:Nat) (y126:List UInt8) (y127:Int) (y131:Vector UInt32 64) {β:Type} (kA:(Int×Zj)->Option β) (kO:(Zj)->Option β):Option β:=
 (bif (decide (y127 < (16:Int))) then (Option.bind (ix y126 (w64 ((4:Int) * y127))) fun x137=>(Option.bind (ix y126 (w64 ((w64 ((4:Int) * y127)) + (1:Int)))) fun x138=>(Option.bind (ix y126 (w64 ((w64 ((4:Int) * y127)) + (2:Int)))) fun x139=>(Option.bind (ix y126 (w64 ((w64 ((4:Int) * y127)) + (3:Int)))) fun x140=>(Option.bind (inb 64 y127) fun x141=>(kA ((w64 (y127 + (1:Int))),(Vector.setIfInBounds y131 x141 ((((shl32 (x137.toUInt32) ((UInt64.ofNat 24).toNat)) ||| (shl32 (x138.toUInt32) ((UInt64.ofNat 16).toNat))) ||| (shl32 (x139.toUInt32) ((UInt64.ofNat 8).toNat))) ||| (x140.toUInt32)))))))))) else (kO y131))
def L146_5 (F:Nat) (y126:List UInt8) (y127:Int) (y131:Vector UInt32 64):=L146_5c F y126 y127 y131 (fun s=>some (Sum.inl s)) (fun z=>some (Sum.inr z))
def lc146_5 (F:Nat):Lc:=mkL [1,2,4,5,6,7] [(.ro .u8),(.pt 0 []),(.pt 1 []),(.pt 2 []),(.pt 3 []),.i] [.blk 192 (.ar 8 .u32),.blk 192 (.ar 8 .u32),.blk 231 (.ar 64 .u32),.blk 231 (.ar 64 .u32)] [2,4,5,6] [(.pt 0 []),(.pt 1 []),(.pt 2 []),(.pt 3 [])] [.blk 192 (.ar 8 .u32),.blk 192 (.ar 8 .u32),.blk 231 (.ar 64 .u32),.blk 231 (.ar 64 .u32)] F (fun x y (s:Int×Zj)=>L146_5 F x.1 s.1 s.2) (fun x y=>(x.2.2.2.2.2.1,y.2.2.2.1)) (fun x y (z:Zj)=>(((),(),(),(),()),(y.1,y.2.1,y.2.2.1,z,())))
theorem lo146_5 (F:Nat):LcOk Tryz.prog (E146 F) 0 (lc146_5 F) (cAt (bodyOf Tryz.f146) [1,0,1,1,1]):=
 mkL_ok (lp:=[]) (id:=0) (b:=cAt (bodyOf Tryz.f146) (0 :: 0 :: [1,0,1,1,1])) cok (cts146 F) mixed trivial (by kernel_rfl) (by kernel_rfl) (fun x y s=>(x.1,(),(),(),(),s.1,())) (fun x y s=>(y.1,y.2.1,y.2.2.1,s.2,())) (fun x y=>rfl) (fun x y=>rfl) (fun x y s kA kO=>L146_5c F x.1 s.1 s.2 kA kO) (fun _ _ _ _ _=>by simp only [L146_5,L146_5c,oA,oC,oS,oN,elimS_l,elimS_r,elimS_bind]) (fun _ _ _=>by kernel_rfl)
def L146_6c (F:Nat) (y143:Int) (y147:Vector UInt32 64) {β:Type} (kA:(Int×Zj)->Option β) (kO:(Zj)->Option β):Option β:=
 (bif (decide (y143 < (64:Int))) then (Option.bind (inb 64 (w64 (y143 - (15:Int)))) fun x169=>(Option.bind (vat y147 x169) fun x170=>(Option.bind (inb 64 (w64 (y143 - (15:Int)))) fun x171=>(Option.bind (vat y147 x171) fun x172=>(Option.bind (inb 64 (w64 (y143 - (15:Int)))) fun x173=>(Option.bind (vat y147 x173) fun x174=>(Option.bind (T181 F x170 (7:Int)) fun z175=>(Option.bind (T181 F x172 (18:Int)) fun z176=>(Option.bind (inb 64 (w64 (y143 - (2:Int)))) fun x177=>(Option.bind (vat y147 x177) fun x178=>(Option.bind (inb 64 (w64 (y143 - (2:Int)))) fun x179=>(Option.bind (vat y147 x179) fun x180=>(Option.bind (inb 64 (w64 (y143 - (2:Int)))) fun x181=>(Option.bind (vat y147 x181) fun x182=>(Option.bind (T181 F x178 (17:Int)) fun z183=>(Option.bind (T181 F x180 (19:Int)) fun z184=>(Option.bind (inb 64 (w64 (y143 - (7:Int)))) fun x185=>(Option.bind (vat y147 x185) fun x186=>(Option.bind (inb 64 (w64 (y143 - (16:Int)))) fun x187=>(Option.bind (vat y147 x187) fun x188=>(Option.bind (inb 64 y143) fun x189=>(kA ((w64 (y143 + (1:Int))),(Vector.setIfInBounds y147 x189 (((((z183 ^^^ z184) ^^^ (shr32 x182 ((UInt64.ofNat 10).toNat))) + x186) + ((z175 ^^^ z176) ^^^ (shr32 x174 ((UInt64.ofNat 3).toNat)))) + x188))))))))))))))))))))))))) else (kO y147))
def L146_6 (F:Nat) (y143:Int) (y147:Vector UInt32 64):=L146_6c F y143 y147 (fun s=>some (Sum.inl s)) (fun z=>some (Sum.inr z))
def lc146_6 (F:Nat):Lc:=mkL [2,4,5,6,8] [(.pt 0 []),(.pt 1 []),(.pt 2 []),(.pt 3 []),.i] [.blk 192 (.ar 8 .u32),.blk 192 (.ar 8 .u32),.blk 231 (.ar 64 .u32),.blk 231 (.ar 64 .u32)] [2,4,5,6] [(.pt 0 []),(.pt 1 []),(.pt 2 []),(.pt 3 [])] [.blk 192 (.ar 8 .u32),.blk 192 (.ar 8 .u32),.blk 231 (.ar 64 .u32),.blk 231 (.ar 64 .u32)] F (fun x y (s:Int×Zj)=>L146_6 F s.1 s.2) (fun x y=>(x.2.2.2.2.1,y.2.2.2.1)) (fun x y (z:Zj)=>(((),(),(),(),()),(y.1,y.2.1,y.2.2.1,z,())))
theorem lo146_6 (F:Nat):LcOk Tryz.prog (E146 F) 0 (lc146_6 F) (cAt (bodyOf Tryz.f146) [1,0,1,1,1,1]):=
 mkL_ok (lp:=[]) (id:=2) (b:=cAt (bodyOf Tryz.f146) (0 :: 0 :: [1,0,1,1,1,1])) cok (cts146 F) mixed trivial (by kernel_rfl) (by kernel_rfl) (fun x y s=>((),(),(),(),s.1,())) (fun x y s=>(y.1,y.2.1,y.2.2.1,s.2,())) (fun x y=>rfl) (fun x y=>rfl) (fun x y s kA kO=>L146_6c F s.1 s.2 kA kO) (fun _ _ _ _ _=>by simp only [L146_6,L146_6c,oA,oC,oS,oN,elimS_l,elimS_r,elimS_bind]) (fun _ _ _=>by kernel_rfl)
def L146_7c (F:Nat) (y194:Vector UInt32 64) (y195:Vector UInt32 64) (y191:Int) (y196:Vector UInt32 8) {β:Type} (kA:(Int×Ze)->Option β) (kO:(Ze)->Option β):Option β:=
 (bif (decide (y191 < (64:Int))) then (Option.bind (vat y196 0) fun x215=>(Option.bind (vat y196 1) fun x216=>(Option.bind (vat y196 2) fun x217=>(Option.bind (vat y196 4) fun x218=>(Option.bind (vat y196 5) fun x219=>(Option.bind (vat y196 6) fun x220=>(Option.bind (vat y196 7) fun x221=>(Option.bind (inb 64 y191) fun x222=>(Option.bind (vat y194 x222) fun x223=>(Option.bind (inb 64 y191) fun x224=>(Option.bind (vat y195 x224) fun x225=>(Option.bind (T181 F x218 (6:Int)) fun z226=>(Option.bind (T181 F x218 (11:Int)) fun z227=>(Option.bind (T181 F x218 (25:Int)) fun z228=>(Option.bind (T181 F x215 (2:Int)) fun z229=>(Option.bind (T181 F x215 (13:Int)) fun z230=>(Option.bind (T181 F x215 (22:Int)) fun z231=>(Option.bind (vat y196 3) fun x232=>(kA ((w64 (y191 + (1:Int))),(#v[(((((x221 + ((z226 ^^^ z227) ^^^ z228)) + ((x218 &&& x219) ^^^ ((~~~x218) &&& x220))) + x223) + x225) + (((z229 ^^^ z230) ^^^ z231) + (((x215 &&& x216) ^^^ (x215 &&& x217)) ^^^ (x216 &&& x217)))),x215,x216,x217,(x232 + ((((x221 + ((z226 ^^^ z227) ^^^ z228)) + ((x218 &&& x219) ^^^ ((~~~x218) &&& x220))) + x223) + x225)),x218,x219,x220]:Vector UInt32 8))))))))))))))))))))) else (kO y196))
def L146_7 (F:Nat) (y194:Vector UInt32 64) (y195:Vector UInt32 64) (y191:Int) (y196:Vector UInt32 8):=L146_7c F y194 y195 y191 y196 (fun s=>some (Sum.inl s)) (fun z=>some (Sum.inr z))
def lc146_7 (F:Nat):Lc:=mkL [2,4,5,6,11,12] [(.pt 0 []),(.pt 1 []),(.pt 2 []),(.pt 3 []),(.pt 4 []),.i] [.blk 192 (.ar 8 .u32),.blk 192 (.ar 8 .u32),.blk 231 (.ar 64 .u32),.blk 231 (.ar 64 .u32),.blk 192 (.ar 8 .u32)] [2,4,11] [(.pt 0 []),(.pt 1 []),(.pt 2 [])] [.blk 192 (.ar 8 .u32),.blk 192 (.ar 8 .u32),.blk 192 (.ar 8 .u32)] F (fun x y (s:Int×Ze)=>L146_7 F y.2.2.1 y.2.2.2.1 s.1 s.2) (fun x y=>(x.2.2.2.2.2.1,y.2.2.2.2.1)) (fun x y (z:Ze)=>(((),(),(),()),(y.1,y.2.1,z,())))
theorem lo146_7 (F:Nat):LcOk Tryz.prog (E146 F) 0 (lc146_7 F) (cAt (bodyOf Tryz.f146) [1,0,1,1,1,1,1,1]):=
 mkL_ok (lp:=[]) (id:=4) (b:=cAt (bodyOf Tryz.f146) (0 :: 0 :: [1,0,1,1,1,1,1,1])) cok (cts146 F) mixed trivial (by kernel_rfl) (by kernel_rfl) (fun x y s=>((),(),(),(),(),s.1,())) (fun x y s=>(y.1,y.2.1,y.2.2.1,y.2.2.2.1,s.2,())) (fun x y=>rfl) (fun x y=>rfl) (fun x y s kA kO=>L146_7c F y.2.2.1 y.2.2.2.1 s.1 s.2 kA kO) (fun _ _ _ _ _=>by simp only [L146_7,L146_7c,oA,oC,oS,oN,elimS_l,elimS_r,elimS_bind]) (fun _ _ _=>by kernel_rfl)
def L146_8c (F:Nat) (y235:Vector UInt32 8) (y234:Int) (y237:Vector UInt32 8) {β:Type} (kA:(Int×Ze)->Option β) (kO:(Ze)->Option β):Option β:=
 (bif (decide (y234 < (8:Int))) then (Option.bind (inb 8 y234) fun x243=>(Option.bind (vat y237 x243) fun x244=>(Option.bind (inb 8 y234) fun x245=>(Option.bind (vat y235 x245) fun x246=>(Option.bind (inb 8 y234) fun x247=>(kA ((w64 (y234 + (1:Int))),(Vector.setIfInBounds y237 x247 (x244 + x246))))))))) else (kO y237))
def L146_8 (F:Nat) (y235:Vector UInt32 8) (y234:Int) (y237:Vector UInt32 8):=L146_8c F y235 y234 y237 (fun s=>some (Sum.inl s)) (fun z=>some (Sum.inr z))
def lc146_8 (F:Nat):Lc:=mkL [2,4,11,21] [(.pt 0 []),(.pt 1 []),(.pt 2 []),.i] [.blk 192 (.ar 8 .u32),.blk 192 (.ar 8 .u32),.blk 192 (.ar 8 .u32)] [4,11] [(.pt 0 []),(.pt 1 [])] [.blk 192 (.ar 8 .u32),.blk 192 (.ar 8 .u32)] F (fun x y (s:Int×Ze)=>L146_8 F y.1 s.1 s.2) (fun x y=>(x.2.2.2.1,y.2.2.1)) (fun x y (z:Ze)=>(((),(),()),(y.2.1,z,())))
theorem lo146_8 (F:Nat):LcOk Tryz.prog (E146 F) 0 (lc146_8 F) (cAt (bodyOf Tryz.f146) [1,0,1,1,1,1,1,1,1]):=
 mkL_ok (lp:=[]) (id:=6) (b:=cAt (bodyOf Tryz.f146) (0 :: 0 :: [1,0,1,1,1,1,1,1,1])) cok (cts146 F) mixed trivial (by kernel_rfl) (by kernel_rfl) (fun x y s=>((),(),(),s.1,())) (fun x y s=>(y.1,y.2.1,s.2,())) (fun x y=>rfl) (fun x y=>rfl) (fun x y s kA kO=>L146_8c F y.1 s.1 s.2 kA kO) (fun _ _ _ _ _=>by simp only [L146_8,L146_8c,oA,oC,oS,oN,elimS_l,elimS_r,elimS_bind]) (fun _ _ _=>by kernel_rfl)
def T146c (F:Nat) (p0:Vector UInt32 8) (p1:List UInt8) {β:Type} (k:(Ze)->Option β):Option β:=
 (Option.bind (T180 F) fun z125=>(Option.bind (iter (fun s=>L146_5 F p1 s.1 s.2) F ((0:Int),(Vector.replicate 64 (0:UInt32)))) fun z142=>(Option.bind (iter (fun s=>L146_6 F s.1 s.2) F ((16:Int),z142)) fun z190=>(Option.bind (iter (fun s=>L146_7 F z125 z190 s.1 s.2) F ((0:Int),p0)) fun z233=>(Option.bind (iter (fun s=>L146_8 F p0 s.1 s.2) F ((0:Int),z233)) fun z248=>(k z248))))))
def T146 (F:Nat) (p0:Vector UInt32 8) (p1:List UInt8):=T146c F p0 p1 some
def ct146 (F:Nat):Ct:=mkC 0 [(.ar 8 .u32),(.ro .u8)] [] [(.ar 8 .u32)] [] (fun x y=>T146 F x.1 x.2.1) (fun x y (z:Ze)=>((z,()),()))
theorem ok146 (F:Nat):Sound Tryz.prog cfg 146 (ct146 F):=
 mkC_ok (E:=E146 F) (lp:=[([1,0,1,1,1],lc146_5 F),([1,0,1,1,1,1],lc146_6 F),([1,0,1,1,1,1,1,1],lc146_7 F),([1,0,1,1,1,1,1,1,1],lc146_8 F)]) (code:=bodyOf Tryz.f146) Tryz.func146 rfl Tryz.ntmps146 rfl rfl cok (cts146 F) mixed ⟨lo146_5 F,⟨lo146_6 F,⟨lo146_7 F,⟨lo146_8 F,trivial⟩⟩⟩⟩ (by kernel_rfl) (fun x y k=>T146c F x.1 x.2.1 k) (fun _ _ _=>by simp only [T146,T146c,oA,oC,oS,oN,elimS_bind]) (fun _ _=>by kernel_rfl)
def ord101:Nat->List (Tag×Nat)
 | 6=>[(.r,0),(.p,1),(.p,2),(.p,3),(.p,4),(.p,5),(.w,6),(.w,7)]
 | 11=>[(.p,0),(.p,1),(.p,2),(.r,3),(.p,4),(.p,5),(.p,6),(.p,7),(.r,8),(.p,9),(.p,10),(.p,11),(.p,12),(.r,13),(.p,14),(.p,15),(.p,16),(.p,17),(.r,18),(.p,19),(.w,20),(.w,21),(.p,22)]
 | _=>[]
def E101 (F:Nat):Ev:=⟨cfg,53,ctOf [(145,ct145 F),(146,ct146 F)],ord101,ctOf [],fun _=>none,fun _=>none⟩
theorem cts101 (F:Nat):CtsOk Tryz.prog (E101 F):=cts_of (l:=[(145,ct145 F),(146,ct146 F)]) (l':=[]) rfl rfl ⟨⟨ok145 F,_,Tryz.func145,rfl,rfl⟩,⟨⟨ok146 F,_,Tryz.func146,rfl,rfl⟩,trivial⟩⟩ trivial
def L101_3c (F:Nat) (y35:List UInt8) (y33:Int) (y34:Vector UInt32 8) {β:Type} (kA:(Int×Ze)->Option β) (kO:(Ze)->Option β):Option β:=
 (bif (decide (y33 < (y35.length:Int))) then (Option.bind (gslb y35.length y33 (w64 (y33 + (64:Int)))) fun x38=>(Option.bind (T146 F y34 ((y35.drop x38.1).take (x38.2 - x38.1))) fun z39=>(kA ((w64 (y33 + (64:Int))),z39)))) else (kO y34))
def L101_3 (F:Nat) (y35:List UInt8) (y33:Int) (y34:Vector UInt32 8):=L101_3c F y35 y33 y34 (fun s=>some (Sum.inl s)) (fun z=>some (Sum.inr z))
def lc101_3 (F:Nat):Lc:=mkL [3,4,5] [(.pt 0 []),(.rw 1),.i] [.blk 192 (.ar 8 .u32),.row 5 .u8] [3] [(.pt 0 [])] [.blk 192 (.ar 8 .u32)] F (fun x y (s:Int×Ze)=>L101_3 F y.2.1 s.1 s.2) (fun x y=>(x.2.2.1,y.1)) (fun x y (z:Ze)=>(((),()),(z,())))
theorem lo101_3 (F:Nat):LcOk Tryz.prog (E101 F) 0 (lc101_3 F) (cAt (bodyOf Tryz.f101) [1,0,1,1,1]):=
 mkL_ok (lp:=[]) (id:=0) (b:=cAt (bodyOf Tryz.f101) (0 :: 0 :: [1,0,1,1,1])) cok (cts101 F) mixed trivial (by kernel_rfl) (by kernel_rfl) (fun x y s=>((),(),s.1,())) (fun x y s=>(s.2,y.2.1,())) (fun x y=>rfl) (fun x y=>rfl) (fun x y s kA kO=>L101_3c F y.2.1 s.1 s.2 kA kO) (fun _ _ _ _ _=>by simp only [L101_3,L101_3c,oA,oC,oS,oN,elimS_l,elimS_r,elimS_bind]) (fun _ _ _=>by kernel_rfl)
def L101_4c (F:Nat) (y42:Vector UInt32 8) (y41:Int) (y43:List UInt8) {β:Type} (kA:Zh->Option β) (kO:(Za)->Option β):Option β:=
 (bif (decide (y41 < (8:Int))) then (Option.bind (inb 8 y41) fun x53=>(Option.bind (vat y42 x53) fun x54=>(Option.bind (inb 8 y41) fun x55=>(Option.bind (vat y42 x55) fun x56=>(Option.bind (inb 8 y41) fun x57=>(Option.bind (vat y42 x57) fun x58=>(Option.bind (inb 8 y41) fun x59=>(Option.bind (vat y42 x59) fun x60=>(Option.bind (gapp y43 ([((shr32 x54 ((UInt64.ofNat 24).toNat)).toUInt8),((shr32 x56 ((UInt64.ofNat 16).toNat)).toUInt8),((shr32 x58 ((UInt64.ofNat 8).toNat)).toUInt8),(x60.toUInt8)]:List UInt8)) fun x61=>(kA ((w64 (y41 + (1:Int))),x61))))))))))) else (kO y43))
def L101_4 (F:Nat) (y42:Vector UInt32 8) (y41:Int) (y43:List UInt8):=L101_4c F y42 y41 y43 (fun s=>some (Sum.inl s)) (fun z=>some (Sum.inr z))
def lc101_4 (F:Nat):Lc:=mkL [3,6,7] [(.pt 0 []),(.rw 1),.i] [.blk 192 (.ar 8 .u32),.row 5 .u8] [6] [(.rw 0)] [.row 5 .u8] F (fun x y (s:Int×Za)=>L101_4 F y.1 s.1 s.2) (fun x y=>(x.2.2.1,y.2.1)) (fun x y (z:Za)=>(((),()),(z,())))
theorem lo101_4 (F:Nat):LcOk Tryz.prog (E101 F) 0 (lc101_4 F) (cAt (bodyOf Tryz.f101) [1,0,1,1,1,1,1]):=
 mkL_ok (lp:=[]) (id:=2) (b:=cAt (bodyOf Tryz.f101) (0 :: 0 :: [1,0,1,1,1,1,1])) cok (cts101 F) mixed trivial (by kernel_rfl) (by kernel_rfl) (fun x y s=>((),(),s.1,())) (fun x y s=>(y.1,s.2,())) (fun x y=>rfl) (fun x y=>rfl) (fun x y s kA kO=>L101_4c F y.1 s.1 s.2 kA kO) (fun _ _ _ _ _=>by simp only [L101_4,L101_4c,oA,oC,oS,oN,elimS_l,elimS_r,elimS_bind]) (fun _ _ _=>by kernel_rfl)
def T101c (F:Nat) (p0:List UInt8) {β:Type} (k:(Za)->Option β):Option β:=
 (Option.bind (T145 F p0) fun z32=>(Option.bind (iter (fun s=>L101_3 F z32 s.1 s.2) F ((0:Int),(#v[(UInt32.ofNat 1779033703),(UInt32.ofNat 3144134277),(UInt32.ofNat 1013904242),(UInt32.ofNat 2773480762),(UInt32.ofNat 1359893119),(UInt32.ofNat 2600822924),(UInt32.ofNat 528734635),(UInt32.ofNat 1541459225)]:Vector UInt32 8))) fun z40=>(Option.bind (iter (fun s=>L101_4 F z40 s.1 s.2) F ((0:Int),([]:List UInt8))) fun z62=>(k z62))))
def T101 (F:Nat) (p0:List UInt8):=T101c F p0 some
def ct101 (F:Nat):Ct:=mkC 0 [(.ro .u8)] [] [.str] [] (fun x y=>T101 F x.1) (fun x y (z:Za)=>((z,()),()))
theorem ok101 (F:Nat):Sound Tryz.prog cfg 101 (ct101 F):=
 mkC_ok (E:=E101 F) (lp:=[([1,0,1,1,1],lc101_3 F),([1,0,1,1,1,1,1],lc101_4 F)]) (code:=bodyOf Tryz.f101) Tryz.func101 rfl Tryz.ntmps101 rfl rfl cok (cts101 F) mixed ⟨lo101_3 F,⟨lo101_4 F,trivial⟩⟩ (by kernel_rfl) (fun x y k=>T101c F x.1 k) (fun _ _ _=>by simp only [T101,T101c,oA,oC,oS,oN,elimS_bind]) (fun _ _=>by kernel_rfl)
def E102 (F:Nat):Ev:=⟨cfg,27,ctOf [],fun _=>[],ctOf [],fun _=>none,fun _=>none⟩
theorem cts102 (F:Nat):CtsOk Tryz.prog (E102 F):=cts_of (l:=[]) (l':=[]) rfl rfl trivial trivial
def L102_2c (F:Nat) (y12:List UInt8) (y13:UInt8) (y14:Int) (y15:List UInt8) {β:Type} (kA:Zh->Option β) (kO:(Za)->Option β):Option β:=
 (bif (decide (y14 < (64:Int))) then (bif (decide (y14 < (y12.length:Int))) then (Option.bind (ix y12 y14) fun x19=>(Option.bind (gapp y15 ([(x19 ^^^ y13)]:List UInt8)) fun x20=>(kA ((w64 (y14 + (1:Int))),x20)))) else (Option.bind (gapp y15 ([((UInt8.ofNat 0) ^^^ y13)]:List UInt8)) fun x21=>(kA ((w64 (y14 + (1:Int))),x21)))) else (kO y15))
def L102_2 (F:Nat) (y12:List UInt8) (y13:UInt8) (y14:Int) (y15:List UInt8):=L102_2c F y12 y13 y14 y15 (fun s=>some (Sum.inl s)) (fun z=>some (Sum.inr z))
def lc102_2 (F:Nat):Lc:=mkL [0,1,5,6] [.str,.u8,(.rw 0),.i] [.row 5 .u8] [5] [(.rw 0)] [.row 5 .u8] F (fun x y (s:Int×Za)=>L102_2 F x.1 x.2.1 s.1 s.2) (fun x y=>(x.2.2.2.1,y.1)) (fun x y (z:Za)=>(((),()),(z,())))
theorem lo102_2 (F:Nat):LcOk Tryz.prog (E102 F) 0 (lc102_2 F) (cAt (bodyOf Tryz.f102) [1,0,1,1]):=
 mkL_ok (lp:=[]) (id:=0) (b:=cAt (bodyOf Tryz.f102) (0 :: 0 :: [1,0,1,1])) cok (cts102 F) mixed trivial (by kernel_rfl) (by kernel_rfl) (fun x y s=>(x.1,x.2.1,(),s.1,())) (fun x y s=>(s.2,())) (fun x y=>rfl) (fun x y=>rfl) (fun x y s kA kO=>L102_2c F x.1 x.2.1 s.1 s.2 kA kO) (fun _ _ _ _ _=>by simp only [L102_2,L102_2c,oA,oC,oS,oN,elimS_l,elimS_r,elimS_bind]) (fun _ _ _=>by kernel_rfl)
def T102c (F:Nat) (p0:List UInt8) (p1:UInt8) {β:Type} (k:(Za)->Option β):Option β:=
 (Option.bind (iter (fun s=>L102_2 F p0 p1 s.1 s.2) F ((0:Int),([]:List UInt8))) fun z22=>(k z22))
def T102 (F:Nat) (p0:List UInt8) (p1:UInt8):=T102c F p0 p1 some
def ct102 (F:Nat):Ct:=mkC 0 [.str,.u8] [] [(.rw 0)] [.row 5 .u8] (fun x y=>T102 F x.1 x.2.1) (fun x y (z:Za)=>(((),()),(z,())))
theorem ok102 (F:Nat):Sound Tryz.prog cfg 102 (ct102 F):=
 mkC_ok (E:=E102 F) (lp:=[([1,0,1,1],lc102_2 F)]) (code:=bodyOf Tryz.f102) Tryz.func102 rfl Tryz.ntmps102 rfl rfl cok (cts102 F) mixed ⟨lo102_2 F,trivial⟩ (by kernel_rfl) (fun x y k=>T102c F x.1 x.2.1 k) (fun _ _ _=>by simp only [T102,T102c,oA,oC,oS,oN,elimS_bind]) (fun _ _=>by kernel_rfl)
def E35 (F:Nat):Ev:=⟨cfg,23,ctOf [(101,ct101 F),(102,ct102 F)],fun _=>[],ctOf [],fun _=>none,fun _=>none⟩
theorem cts35 (F:Nat):CtsOk Tryz.prog (E35 F):=cts_of (l:=[(101,ct101 F),(102,ct102 F)]) (l':=[]) rfl rfl ⟨⟨ok101 F,_,Tryz.func101,rfl,rfl⟩,⟨⟨ok102 F,_,Tryz.func102,rfl,rfl⟩,trivial⟩⟩ trivial
def T35c (F:Nat) (p0:List UInt8) (p1:List UInt8) {β:Type} (k:(Za)->Option β):Option β:=
 (bif (decide ((64:Int) < (p0.length:Int))) then (Option.bind (gstr p0) fun x17=>(Option.bind (T101 F x17) fun z18=>(Option.bind (T102 F z18 (UInt8.ofNat 54)) fun z19=>(Option.bind (gapp z19 p1) fun x20=>(Option.bind (T101 F x20) fun z21=>(Option.bind (T102 F z18 (UInt8.ofNat 92)) fun z22=>(Option.bind (gstr z21) fun x23=>(Option.bind (gapp z22 x23) fun x24=>(Option.bind (T101 F x24) fun z25=>(k z25)))))))))) else (Option.bind (T102 F p0 (UInt8.ofNat 54)) fun z26=>(Option.bind (gapp z26 p1) fun x27=>(Option.bind (T101 F x27) fun z28=>(Option.bind (T102 F p0 (UInt8.ofNat 92)) fun z29=>(Option.bind (gstr z28) fun x30=>(Option.bind (gapp z29 x30) fun x31=>(Option.bind (T101 F x31) fun z32=>(k z32)))))))))
def T35 (F:Nat) (p0:List UInt8) (p1:List UInt8):=T35c F p0 p1 some
def ct35 (F:Nat):Ct:=mkC 0 [.str,(.ro .u8)] [] [.str] [] (fun x y=>T35 F x.1 x.2.1) (fun x y (z:Za)=>((z,()),()))
theorem ok35 (F:Nat):Sound Tryz.prog cfg 35 (ct35 F):=
 mkC_ok (E:=E35 F) (lp:=[]) (code:=bodyOf Tryz.f35) Tryz.func35 rfl Tryz.ntmps35 rfl rfl cok (cts35 F) mixed trivial (by kernel_rfl) (fun x y k=>T35c F x.1 x.2.1 k) (fun _ _ _=>by simp only [T35,T35c,oA,oC,oS,oN,elimS_bind]) (fun _ _=>by kernel_rfl)
def E194 (F:Nat):Ev:=⟨cfg,32,ctOf [(35,ct35 F)],fun _=>[],ctOf [],fun _=>none,fun _=>none⟩
theorem cts194 (F:Nat):CtsOk Tryz.prog (E194 F):=cts_of (l:=[(35,ct35 F)]) (l':=[]) rfl rfl ⟨⟨ok35 F,_,Tryz.func35,rfl,rfl⟩,trivial⟩ trivial
def L194_2c (F:Nat) (y19:List UInt8) (y20:List UInt8) (y21:Int) (y22:List UInt8) (y23:List UInt8) (y24:Int) {β:Type} (kA:(Za×Za×Int)->Option β) (kO:(Za)->Option β):Option β:=
 (bif (decide ((y22.length:Int) < y21)) then (Option.bind (gcat y23 y20) fun x30=>(Option.bind (gstr x30) fun x31=>(Option.bind (gapp x31 ([(UInt8.ofInt y24)]:List UInt8)) fun x32=>(Option.bind (T35 F y19 x32) fun z33=>(Option.bind (gcat y22 z33) fun x34=>(kA (x34,z33,(w64 (y24 + (1:Int)))))))))) else (kO y22))
def L194_2 (F:Nat) (y19:List UInt8) (y20:List UInt8) (y21:Int) (y22:List UInt8) (y23:List UInt8) (y24:Int):=L194_2c F y19 y20 y21 y22 y23 y24 (fun s=>some (Sum.inl s)) (fun z=>some (Sum.inr z))
def lc194_2 (F:Nat):Lc:=mkL [0,1,2,7,8,9] [.str,.str,.i,.str,.str,.i] [] [2,7] [.i,.str] [] F (fun x y (s:Za×Za×Int)=>L194_2 F x.1 x.2.1 x.2.2.1 s.1 s.2.1 s.2.2) (fun x y=>(x.2.2.2.1,x.2.2.2.2.1,x.2.2.2.2.2.1)) (fun x y (z:Za)=>((x.2.2.1,z,()),()))
theorem lo194_2 (F:Nat):LcOk Tryz.prog (E194 F) 0 (lc194_2 F) (cAt (bodyOf Tryz.f194) [1,0,1,1]):=
 mkL_ok (lp:=[]) (id:=0) (b:=cAt (bodyOf Tryz.f194) (0 :: 0 :: [1,0,1,1])) cok (cts194 F) mixed trivial (by kernel_rfl) (by kernel_rfl) (fun x y s=>(x.1,x.2.1,x.2.2.1,s.1,s.2.1,s.2.2,())) (fun x y s=>()) (fun x y=>rfl) (fun x y=>rfl) (fun x y s kA kO=>L194_2c F x.1 x.2.1 x.2.2.1 s.1 s.2.1 s.2.2 kA kO) (fun _ _ _ _ _=>by simp only [L194_2,L194_2c,oA,oC,oS,oN,elimS_l,elimS_r,elimS_bind]) (fun _ _ _=>by kernel_rfl)
def T194c (F:Nat) (p0:List UInt8) (p1:List UInt8) (p2:Int) {β:Type} (k:(Za)->Option β):Option β:=
 (Option.bind (iter (fun s=>L194_2 F p0 p1 p2 s.1 s.2.1 s.2.2) F (([]:List UInt8),([]:List UInt8),(1:Int))) fun z35=>(Option.bind (gsl z35 (0:Int) p2) fun x36=>(k x36)))
def T194 (F:Nat) (p0:List UInt8) (p1:List UInt8) (p2:Int):=T194c F p0 p1 p2 some
def ct194 (F:Nat):Ct:=mkC 0 [.str,.str,.i] [] [.str] [] (fun x y=>T194 F x.1 x.2.1 x.2.2.1) (fun x y (z:Za)=>((z,()),()))
theorem ok194 (F:Nat):Sound Tryz.prog cfg 194 (ct194 F):=
 mkC_ok (E:=E194 F) (lp:=[([1,0,1,1],lc194_2 F)]) (code:=bodyOf Tryz.f194) Tryz.func194 rfl Tryz.ntmps194 rfl rfl cok (cts194 F) mixed ⟨lo194_2 F,trivial⟩ (by kernel_rfl) (fun x y k=>T194c F x.1 x.2.1 x.2.2.1 k) (fun _ _ _=>by simp only [T194,T194c,oA,oC,oS,oN,elimS_bind]) (fun _ _=>by kernel_rfl)
def E154 (F:Nat):Ev:=⟨cfg,10,ctOf [(35,ct35 F),(194,ct194 F)],fun _=>[],ctOf [],fun _=>none,fun _=>none⟩
theorem cts154 (F:Nat):CtsOk Tryz.prog (E154 F):=cts_of (l:=[(35,ct35 F),(194,ct194 F)]) (l':=[]) rfl rfl ⟨⟨ok35 F,_,Tryz.func35,rfl,rfl⟩,⟨⟨ok194 F,_,Tryz.func194,rfl,rfl⟩,trivial⟩⟩ trivial
def T154c (F:Nat) (p0:List UInt8) (p1:List UInt8) {β:Type} (k:(Za)->Option β):Option β:=
 (Option.bind (gstr p0) fun x4=>(Option.bind (T35 F ([]:List UInt8) x4) fun z5=>(Option.bind (T194 F z5 p1 (32:Int)) fun z6=>(k z6))))
def T154 (F:Nat) (p0:List UInt8) (p1:List UInt8):=T154c F p0 p1 some
def ct154 (F:Nat):Ct:=mkC 0 [.str,.str] [] [.str] [] (fun x y=>T154 F x.1 x.2.1) (fun x y (z:Za)=>((z,()),()))
theorem ok154 (F:Nat):Sound Tryz.prog cfg 154 (ct154 F):=
 mkC_ok (E:=E154 F) (lp:=[]) (code:=bodyOf Tryz.f154) Tryz.func154 rfl Tryz.ntmps154 rfl rfl cok (cts154 F) mixed trivial (by kernel_rfl) (fun x y k=>T154c F x.1 x.2.1 k) (fun _ _ _=>by simp only [T154,T154c,oA,oC,oS,oN,elimS_bind]) (fun _ _=>by kernel_rfl)
def E109 (F:Nat):Ev:=⟨cfg,9,ctOf [(154,ct154 F)],fun _=>[],ctOf [],fun _=>none,fun _=>none⟩
theorem cts109 (F:Nat):CtsOk Tryz.prog (E109 F):=cts_of (l:=[(154,ct154 F)]) (l':=[]) rfl rfl ⟨⟨ok154 F,_,Tryz.func154,rfl,rfl⟩,trivial⟩ trivial
def T109c (F:Nat) (p0:List UInt8) {β:Type} (k:(Za×Int)->Option β):Option β:=
 (bif ((p0.length:Int) != (32:Int)) then (k (([]:List UInt8),(1:Int))) else (Option.bind (T154 F p0 ([112,114,105,110,116]:List UInt8)) fun z2=>(k (z2,(0:Int)))))
def T109 (F:Nat) (p0:List UInt8):=T109c F p0 some
def ct109 (F:Nat):Ct:=mkC 0 [.str] [] [.str,.i] [] (fun x y=>T109 F x.1) (fun x y (z:Za×Int)=>((z.1,z.2,()),()))
theorem ok109 (F:Nat):Sound Tryz.prog cfg 109 (ct109 F):=
 mkC_ok (E:=E109 F) (lp:=[]) (code:=bodyOf Tryz.f109) Tryz.func109 rfl Tryz.ntmps109 rfl rfl cok (cts109 F) mixed trivial (by kernel_rfl) (fun x y k=>T109c F x.1 k) (fun _ _ _=>by simp only [T109,T109c,oA,oC,oS,oN,elimS_bind]) (fun _ _=>by kernel_rfl)
def L42r_2c (F:Nat) (rc:(Int->Zi->Zi->Za->Option (Za))) (y24:Int) (y25:List Zb) (y26:List Zb) (y27:List UInt8) (y28:Int) (y29:Int) {β:Type} (kA:Int->Option β) (kO:Unit->Option β) (kR:(Za)->Option β):Option β:=
 (bif (decide (y29 < y28)) then (Option.bind (ix y26 y29) fun x35=>(Option.bind (gsl y26 (w64 (y29 + (1:Int))) (y26.length:Int)) fun x36=>(Option.bind (gapp ([]:List Zb) y25) fun x37=>(Option.bind (gapp x37 ([(x35.1,x35.2.1,())]:List Zb)) fun x38=>(Option.bind (rc y24 x38 x36 y27) fun z39=>(bif (z39 != ([]:List UInt8)) then (kR z39) else (kA (w64 (y29 + (1:Int)))))))))) else (kO ()))
def L42r_2 (F:Nat) (rc:(Int->Zi->Zi->Za->Option (Za))) (y24:Int) (y25:List Zb) (y26:List Zb) (y27:List UInt8) (y28:Int) (y29:Int):Option ((Int) ⊕ ((Unit) ⊕ (Za))):=L42r_2c F rc y24 y25 y26 y27 y28 y29 (fun s=>some (.inl s)) (fun z=>some (.inr (.inl z))) (fun z=>some (.inr (.inr z)))
theorem L42r_2n (F:Nat) (rc:(Int->Zi->Zi->Za->Option (Za))) (y24:Int) (y25:List Zb) (y26:List Zb) (y27:List UInt8) (y28:Int) (y29:Int) {β:Type} (kA:Int->Option β) (kO:Unit->Option β) (kR:(Za)->Option β):L42r_2c F rc y24 y25 y26 y27 y28 y29 kA kO kR=(L42r_2 F rc y24 y25 y26 y27 y28 y29).bind (elimS kA (elimS kO kR)):=by
 simp only [L42r_2,L42r_2c,oA,oC,oS,oN,elimS_l,elimS_r,elimS_bind]
def T42rc (F:Nat) (rc:(Int->Zi->Zi->Za->Option (Za))) (p0:Int) (p1:List Zb) (p2:List Zb) (p3:List UInt8) {β:Type} (k:(Za)->Option β):Option β:=
 (bif ((p1.length:Int) == p0) then (Option.bind (T107 F p1 (32:Int)) fun z21=>(Option.bind (T108 F z21 (0:Int)) fun z22=>(Option.bind (T109 F z22) fun z23=>(bif (z23.2 == (0:Int)) then (bif (z23.1 == p3) then (k z22) else (k ([]:List UInt8))) else (k ([]:List UInt8)))))) else (Option.bind (iter (fun s=>L42r_2 F rc p0 p1 p2 p3 (p2.length:Int) s) F (0:Int)) fun z40=>elimS (fun z40=>(k ([]:List UInt8))) (fun z40=>(k z40)) z40))
def T42r (F:Nat) (rc:(Int->Zi->Zi->Za->Option (Za))) (p0:Int) (p1:List Zb) (p2:List Zb) (p3:List UInt8):=T42rc F rc p0 p1 p2 p3 some
def T42g (F:Nat):Nat->Int->Zi->Zi->Za->Option (Za)
 | 0=>fun _ _ _ _=>none
 | g + 1=>T42r F (T42g F g)
abbrev cA42r:List Sh:=[.i,(.ro (.pr .i (.pr (.sl .u8) .un))),(.ro (.pr .i (.pr (.sl .u8) .un))),.str]
abbrev cB42r:List Sh:=[.str]
abbrev cT42r:List TSh:=[]
abbrev cU42r:List TSh:=[]
abbrev sA42r_2:List Sh:=[.i,(.ro (.pr .i (.pr (.sl .u8) .un))),(.ro (.pr .i (.pr (.sl .u8) .un))),.str,.i,.i]
abbrev sA142r_2:List Sh:=[]
abbrev sA242r_2:List Sh:=[.str]
abbrev sT42r_2:List TSh:=[]
abbrev sT142r_2:List TSh:=[]
abbrev sT242r_2:List TSh:=[]
def ctg42 (F g:Nat):Ct:=mkC 0 cA42r cT42r cB42r cU42r (fun x y=>T42g F g x.1 x.2.1 x.2.2.1 x.2.2.2.1) (fun x y (z:Za)=>((z,()),()))
def ord42r:Nat->List (Tag×Nat)
 | 10=>[]
 | _=>[]
def ms42r:Nat->Option (List (Option Tag×Nat×List Nat))
 | 10=>some [(some .p,0,[]),(some .p,2,[]),(some .p,4,[]),(some .p,5,[]),(some .p,6,[]),(some .c,7,[]),(some .p,10,[]),(some .p,11,[]),(some .p,12,[]),(some .p,13,[]),(some .p,14,[]),(none,1,[8]),(some .w,3,[8]),(none,8,[]),(some .w,9,[]),(some .b,15,[]),(some .p,16,[])]
 | _=>none
def E42r (F g:Nat):Ev:=⟨cfg,61,ctOf [(107,ct107 F),(108,ct108 F),(109,ct109 F),(42,ctg42 F g)],ord42r,ctOf [],fun _=>none,ms42r⟩
theorem cts42r (F g:Nat) (h:Sound Tryz.prog cfg 42 (ctg42 F g)):CtsOk Tryz.prog (E42r F g):=cts_of (l:=[(107,ct107 F),(108,ct108 F),(109,ct109 F),(42,ctg42 F g)]) (l':=[]) rfl rfl ⟨⟨ok107 F,_,Tryz.func107,rfl,rfl⟩,⟨⟨ok108 F,_,Tryz.func108,rfl,rfl⟩,⟨⟨ok109 F,_,Tryz.func109,rfl,rfl⟩,⟨⟨h,_,Tryz.func42,rfl,rfl⟩,trivial⟩⟩⟩⟩ trivial
def lc42r_2 (F g:Nat):Lc:=mkR [0,1,2,3,37,38] sA42r_2 sT42r_2 [] sA142r_2 sT142r_2 [8] sA242r_2 sT242r_2 F (fun x y (s:Int)=>L42r_2 F (T42g F g) x.1 x.2.1 x.2.2.1 x.2.2.2.1 x.2.2.2.2.1 s) (fun x y=>x.2.2.2.2.2.1) (fun x y (z:Unit)=>((),())) (fun x y (z:Za)=>((z,()),()))
theorem le42r_2 (F g:Nat) (x:dens sA42r_2) (y:tdens sT42r_2) (s:Int):sev (E42r F g) 0 [] (cAt (bodyOf Tryz.f42) (0 :: 0 :: [1,0,1,1])) (0 :: 0 :: [1,0,1,1]) (mkSt [0,1,2,3,37,38] sA42r_2 sT42r_2 (x.1,x.2.1,x.2.2.1,x.2.2.2.1,x.2.2.2.2.1,s,()) ()) (kLoop 0 [0,1,2,3,37,38] sA42r_2 sT42r_2 [] sA142r_2 sT142r_2 [8] sA242r_2 sT242r_2 0 (fun x y=>some (.inl (x,y))) (fun x y=>some (.inr (.inl (x,y)))) (fun x y=>some (.inr (.inr (x,y))))) =
  L42r_2c (β:=Full sA42r_2 sT42r_2 sA142r_2 sT142r_2 sA242r_2 sT242r_2) F (T42g F g) x.1 x.2.1 x.2.2.1 x.2.2.2.1 x.2.2.2.2.1 s (fun s=>some (.inl ((x.1,x.2.1,x.2.2.1,x.2.2.2.1,x.2.2.2.2.1,s,()),()))) (fun z=>some (.inr (.inl ((),())))) (fun z=>some (.inr (.inr ((z,()),())))):=by kernel_rfl
theorem lo42r_2 (F g:Nat) (h:Sound Tryz.prog cfg 42 (ctg42 F g)):LcOk Tryz.prog (E42r F g) 0 (lc42r_2 F g) (cAt (bodyOf Tryz.f42) [1,0,1,1]):=
 mkR_ok (lp:=[]) (id:=0) (b:=cAt (bodyOf Tryz.f42) (0 :: 0 :: [1,0,1,1])) cok (cts42r F g h) mixed trivial (by kernel_rfl) (by kernel_rfl) (fun x y s=>(x.1,x.2.1,x.2.2.1,x.2.2.2.1,x.2.2.2.2.1,s,())) (fun x y s=>()) (fun x y=>rfl) (fun x y=>rfl) (fun x y s kA kO kR=>L42r_2c F (T42g F g) x.1 x.2.1 x.2.2.1 x.2.2.2.1 x.2.2.2.2.1 s kA kO kR) (fun x y s kA kO kR=>L42r_2n F (T42g F g) x.1 x.2.1 x.2.2.1 x.2.2.2.1 x.2.2.2.2.1 s kA kO kR) (le42r_2 F g)
def ct42r (F g:Nat):Ct:=mkC 0 cA42r cT42r cB42r cU42r (fun x y=>T42r F (T42g F g) x.1 x.2.1 x.2.2.1 x.2.2.2.1) (fun x y (z:Za)=>((z,()),()))
theorem eq42r (F g:Nat) (x:dens cA42r) (y:tdens cT42r):sev (E42r F g) 0 [([1,0,1,1],lc42r_2 F g)] (bodyOf Tryz.f42) [] (mkSt (rng 4) cA42r cT42r x y) (kFn (E42r F g) 0 Tryz.f42.results.toList cB42r cU42r fun p q=>some (p,q)) =
  T42rc F (T42g F g) x.1 x.2.1 x.2.2.1 x.2.2.2.1 (fun z=>some ((z,()),())):=by kernel_rfl
theorem ok42r (F g:Nat) (h:Sound Tryz.prog cfg 42 (ctg42 F g)):Sound Tryz.prog cfg 42 (ct42r F g):=
 mkC_ok (E:=E42r F g) (lp:=[([1,0,1,1],lc42r_2 F g)]) (code:=bodyOf Tryz.f42) Tryz.func42 rfl Tryz.ntmps42 rfl rfl cok (cts42r F g h) mixed ⟨lo42r_2 F g h,trivial⟩ (by kernel_rfl) (fun x y k=>T42rc F (T42g F g) x.1 x.2.1 x.2.2.1 x.2.2.2.1 k) (fun _ _ _=>by simp only [T42r,T42rc,oA,oC,oS,oN,elimS_bind]) (eq42r F g)
def T42 (F:Nat) (p0:Int) (p1:List Zb) (p2:List Zb) (p3:List UInt8):Option (Za):=T42g F F p0 p1 p2 p3
def ct42 (F:Nat):Ct:=mkC 0 cA42r cT42r cB42r cU42r (fun x y=>T42 F x.1 x.2.1 x.2.2.1 x.2.2.2.1) (fun x y (z:Za)=>((z,()),()))
theorem okg42 (F:Nat):∀ g,Sound Tryz.prog cfg 42 (ctg42 F g)
 | 0=>fun x y p q h=>absurd (show (none:Option _)=some (p,q) from h) (by simp)
 | g + 1=>ok42r F g (okg42 F g)
theorem ok42 (F:Nat):Sound Tryz.prog cfg 42 (ct42 F):=okg42 F F
def E18 (F:Nat):Ev:=⟨cfg,56,ctOf [(41,ct41 F),(42,ct42 F)],fun _=>[],ctOf [],fun _=>none,fun _=>none⟩
theorem cts18 (F:Nat):CtsOk Tryz.prog (E18 F):=cts_of (l:=[(41,ct41 F),(42,ct42 F)]) (l':=[]) rfl rfl ⟨⟨ok41 F,_,Tryz.func41,rfl,rfl⟩,⟨⟨ok42 F,_,Tryz.func42,rfl,rfl⟩,trivial⟩⟩ trivial
def L18_2c (F:Nat) (y18:List Zb) (y19:Int) (y20:Int) (y21:List Int) {β:Type} (kA:(Int×Zk)->Option β) (kO:(Zk)->Option β) (kR:(Za×Int)->Option β):Option β:=
 (bif (decide (y20 < y19)) then (Option.bind (ix y18 y20) fun x24=>(bif ((x24.2.1.length:Int) != (32:Int)) then (kR (([]:List UInt8),(1:Int))) else (Option.bind (gapp y21 ([x24.1]:List Int)) fun x25=>(kA ((w64 (y20 + (1:Int))),x25))))) else (kO y21))
def L18_2 (F:Nat) (y18:List Zb) (y19:Int) (y20:Int) (y21:List Int):Option ((Int×Zk) ⊕ ((Zk) ⊕ (Za×Int))):=L18_2c F y18 y19 y20 y21 (fun s=>some (.inl s)) (fun z=>some (.inr (.inl z))) (fun z=>some (.inr (.inr z)))
theorem L18_2n (F:Nat) (y18:List Zb) (y19:Int) (y20:Int) (y21:List Int) {β:Type} (kA:(Int×Zk)->Option β) (kO:(Zk)->Option β) (kR:(Za×Int)->Option β):L18_2c F y18 y19 y20 y21 kA kO kR=(L18_2 F y18 y19 y20 y21).bind (elimS kA (elimS kO kR)):=by
 simp only [L18_2,L18_2c,oA,oC,oS,oN,elimS_l,elimS_r,elimS_bind]
def lc18_2 (F:Nat):Lc:=mkR [0,1,2,8,13,14,15] [.i,(.ro (.pr .i (.pr (.sl .u8) .un))),.str,(.rw 0),(.ro (.pr .i (.pr (.sl .u8) .un))),.i,.i] [.row 3 .i] [0,1,2,8] [.i,(.ro (.pr .i (.pr (.sl .u8) .un))),.str,(.rw 0)] [.row 3 .i] [6,7] [.str,.i] [] F (fun x y (s:Int×Zk)=>L18_2 F x.2.2.2.2.1 x.2.2.2.2.2.1 s.1 s.2) (fun x y=>(x.2.2.2.2.2.2.1,y.1)) (fun x y (z:Zk)=>((x.1,x.2.1,x.2.2.1,(),()),(z,()))) (fun x y (z:Za×Int)=>((z.1,z.2,()),()))
theorem lo18_2 (F:Nat):LcOk Tryz.prog (E18 F) 0 (lc18_2 F) (cAt (bodyOf Tryz.f18) [1,0,1,1]):=
 mkR_ok (lp:=[]) (id:=0) (b:=cAt (bodyOf Tryz.f18) (0 :: 0 :: [1,0,1,1])) cok (cts18 F) mixed trivial (by kernel_rfl) (by kernel_rfl) (fun x y s=>(x.1,x.2.1,x.2.2.1,(),x.2.2.2.2.1,x.2.2.2.2.2.1,s.1,())) (fun x y s=>(s.2,())) (fun x y=>rfl) (fun x y=>rfl) (fun x y s kA kO kR=>L18_2c F x.2.2.2.2.1 x.2.2.2.2.2.1 s.1 s.2 kA kO kR) (fun x y s kA kO kR=>L18_2n F x.2.2.2.2.1 x.2.2.2.2.2.1 s.1 s.2 kA kO kR) (fun _ _ _=>by kernel_rfl)
def T18c (F:Nat) (p0:Int) (p1:List Zb) (p2:List UInt8) {β:Type} (k:(Za×Int)->Option β):Option β:=
 (Option.bind (iter (fun s=>L18_2 F p1 (p1.length:Int) s.1 s.2) F ((0:Int),([]:List Int))) fun z26=>elimS (fun z26=>(bif (decide (p0 < (1:Int))) then (k (([]:List UInt8),(1:Int))) else (bif (decide ((12:Int) < p0)) then (k (([]:List UInt8),(1:Int))) else (bif ((p2.length:Int) != (32:Int)) then (k (([]:List UInt8),(1:Int))) else (Option.bind (T41 F z26 (1:Int) (12:Int)) fun z27=>(bif (!z27) then (k (([]:List UInt8),(1:Int))) else (bif (decide ((p1.length:Int) < p0)) then (k (([]:List UInt8),(10:Int))) else (Option.bind (T42 F p0 ([]:List Zb) p1 p2) fun z28=>(bif (z28 == ([]:List UInt8)) then (k (([]:List UInt8),(9:Int))) else (k (z28,(0:Int)))))))))))) (fun z26=>(k (z26.1,z26.2))) z26)
def T18 (F:Nat) (p0:Int) (p1:List Zb) (p2:List UInt8):=T18c F p0 p1 p2 some
def ct18 (F:Nat):Ct:=mkC 0 [.i,(.ro (.pr .i (.pr (.sl .u8) .un))),.str] [] [.str,.i] [] (fun x y=>T18 F x.1 x.2.1 x.2.2.1) (fun x y (z:Za×Int)=>((z.1,z.2,()),()))
theorem ok18 (F:Nat):Sound Tryz.prog cfg 18 (ct18 F):=
 mkC_ok (E:=E18 F) (lp:=[([1,0,1,1],lc18_2 F)]) (code:=bodyOf Tryz.f18) Tryz.func18 rfl Tryz.ntmps18 rfl rfl cok (cts18 F) mixed ⟨lo18_2 F,trivial⟩ (by kernel_rfl) (fun x y k=>T18c F x.1 x.2.1 x.2.2.1 k) (fun _ _ _=>by simp only [T18,T18c,oA,oC,oS,oN,elimS_bind]) (fun _ _=>by kernel_rfl)
def E4 (F:Nat):Ev:=⟨cfg,46,ctOf [(10,ct10 F),(16,ct16 F),(17,ct17 F),(18,ct18 F)],fun _=>[],ctOf [],fun _=>none,fun _=>none⟩
theorem cts4 (F:Nat):CtsOk Tryz.prog (E4 F):=cts_of (l:=[(10,ct10 F),(16,ct16 F),(17,ct17 F),(18,ct18 F)]) (l':=[]) rfl rfl ⟨⟨ok10 F,_,Tryz.func10,rfl,rfl⟩,⟨⟨ok16 F,_,Tryz.func16,rfl,rfl⟩,⟨⟨ok17 F,_,Tryz.func17,rfl,rfl⟩,⟨⟨ok18 F,_,Tryz.func18,rfl,rfl⟩,trivial⟩⟩⟩⟩ trivial
def T4c (F:Nat) (p0:Int) (p1:List Zb) (p2:List UInt8) {β:Type} (k:Bool->Option β):Option β:=
 (Option.bind (T10 F) fun z8=>(bif (!z8) then (Option.bind (T10 F) fun z9=>(k z9)) else (Option.bind (T16 F p1) fun z10=>(bif (!z10) then (Option.bind (T10 F) fun z11=>(k z11)) else (bif (decide ((100:Int) < (p2.length:Int))) then (Option.bind (T10 F) fun z12=>(k z12)) else (Option.bind (T17 F p0 p1 p2) fun z13=>(Option.bind (T18 F p0 p1 p2) fun z14=>(bif (z13.1 == z14.1) then (k (z13.2 == z14.2)) else (k false)))))))))
def T4 (F:Nat) (p0:Int) (p1:List Zb) (p2:List UInt8):=T4c F p0 p1 p2 some
abbrev cA4:List Sh:=[.i,(.ro (.pr .i (.pr (.sl .u8) .un))),.str]
def ct4 (F:Nat):Ct:=mkC 0 cA4 [] [.bo] [] (fun x y=>T4 F x.1 x.2.1 x.2.2.1) (fun x y (z:Bool)=>((z,()),()))
theorem ok4 (F:Nat):Sound Tryz.prog cfg 4 (ct4 F):=
 mkC_ok (E:=E4 F) (lp:=[]) (code:=bodyOf Tryz.f4) Tryz.func4 rfl Tryz.ntmps4 rfl rfl cok (cts4 F) mixed trivial (by kernel_rfl) (fun x y k=>T4c F x.1 x.2.1 x.2.2.1 k) (fun _ _ _=>by simp only [T4,T4c,oA,oC,oS,oN,elimS_bind]) (fun _ _=>by kernel_rfl)
def T61c (F:Nat) {β:Type} (k:(Int×UInt64×Bool×Za×Int)->Option β):Option β:=
 (k ((2:Int),(0:UInt64),false,([]:List UInt8),(0:Int)))
def T61 (F:Nat):=T61c F some
def T63c (F:Nat) (p0:List UInt8) (p1:Int) (p2:Int) {β:Type} (k:((List (Int×UInt64×Int×Bool×Za×Int×Unit)))->Option β):Option β:=
 (Option.bind (T61 F) fun z3=>(Option.bind (T61 F) fun z4=>(k ([((6:Int),(0:UInt64),(0:Int),false,p0,(0:Int),()),(z3.1,z3.2.1,p1,z3.2.2.1,z3.2.2.2.1,z3.2.2.2.2,()),(z4.1,z4.2.1,p2,z4.2.2.1,z4.2.2.2.1,z4.2.2.2.2,())]:List (Int×UInt64×Int×Bool×Za×Int×Unit)))))
def T63 (F:Nat) (p0:List UInt8) (p1:Int) (p2:Int):=T63c F p0 p1 p2 some
def T178c (F:Nat) (p0:List UInt8) (p1:Int) {β:Type} (k:UInt32->Option β):Option β:=
 (Option.bind (ix p0 p1) fun x5=>(Option.bind (ix p0 (w64 (p1 + (1:Int)))) fun x6=>(Option.bind (ix p0 (w64 (p1 + (2:Int)))) fun x7=>(Option.bind (ix p0 (w64 (p1 + (3:Int)))) fun x8=>(k ((((x5.toUInt32) ||| (shl32 (x6.toUInt32) ((UInt64.ofNat 8).toNat))) ||| (shl32 (x7.toUInt32) ((UInt64.ofNat 16).toNat))) ||| (shl32 (x8.toUInt32) ((UInt64.ofNat 24).toNat))))))))
def T178 (F:Nat) (p0:List UInt8) (p1:Int):=T178c F p0 p1 some
def L144_7c (F:Nat) (y100:List UInt8) (y103:Int) (y104:Vector UInt32 16) {β:Type} (kA:(Int×(Vector UInt32 16))->Option β) (kO:((Vector UInt32 16))->Option β):Option β:=
 (bif (decide (y103 < (8:Int))) then (Option.bind (T178 F y100 (w64 ((4:Int) * y103))) fun z107=>(Option.bind (inb 16 (w64 ((4:Int) + y103))) fun x108=>(kA ((w64 (y103 + (1:Int))),(Vector.setIfInBounds y104 x108 z107))))) else (kO y104))
def L144_7 (F:Nat) (y100:List UInt8) (y103:Int) (y104:Vector UInt32 16):=L144_7c F y100 y103 y104 (fun s=>some (Sum.inl s)) (fun z=>some (Sum.inr z))
def L144_8c (F:Nat) (y110:List UInt8) (y111:Int) (y112:Vector UInt32 16) {β:Type} (kA:(Int×(Vector UInt32 16))->Option β) (kO:((Vector UInt32 16))->Option β):Option β:=
 (bif (decide (y111 < (3:Int))) then (Option.bind (T178 F y110 (w64 ((4:Int) * y111))) fun z115=>(Option.bind (inb 16 (w64 ((13:Int) + y111))) fun x116=>(kA ((w64 (y111 + (1:Int))),(Vector.setIfInBounds y112 x116 z115))))) else (kO y112))
def L144_8 (F:Nat) (y110:List UInt8) (y111:Int) (y112:Vector UInt32 16):=L144_8c F y110 y111 y112 (fun s=>some (Sum.inl s)) (fun z=>some (Sum.inr z))
def T147c (F:Nat) (p0:List UInt8) (p1:Int) {β:Type} (k:UInt32->Option β):Option β:=
 (Option.bind (ix p0 (w64 ((4:Int) * p1))) fun x5=>(Option.bind (ix p0 (w64 ((w64 ((4:Int) * p1)) + (1:Int)))) fun x6=>(Option.bind (ix p0 (w64 ((w64 ((4:Int) * p1)) + (2:Int)))) fun x7=>(Option.bind (ix p0 (w64 ((w64 ((4:Int) * p1)) + (3:Int)))) fun x8=>(k ((((x5.toUInt32) ||| (shl32 (x6.toUInt32) ((UInt64.ofNat 8).toNat))) ||| (shl32 (x7.toUInt32) ((UInt64.ofNat 16).toNat))) ||| (shl32 (x8.toUInt32) ((UInt64.ofNat 24).toNat))))))))
def T147 (F:Nat) (p0:List UInt8) (p1:Int):=T147c F p0 p1 some
def L103_7c (F:Nat) (y99:List UInt8) (y102:Int) (y103:Vector UInt32 16) {β:Type} (kA:(Int×(Vector UInt32 16))->Option β) (kO:((Vector UInt32 16))->Option β):Option β:=
 (bif (decide (y102 < (8:Int))) then (Option.bind (T147 F y99 y102) fun z106=>(Option.bind (inb 16 (w64 ((4:Int) + y102))) fun x107=>(kA ((w64 (y102 + (1:Int))),(Vector.setIfInBounds y103 x107 z106))))) else (kO y103))
def L103_7 (F:Nat) (y99:List UInt8) (y102:Int) (y103:Vector UInt32 16):=L103_7c F y99 y102 y103 (fun s=>some (Sum.inl s)) (fun z=>some (Sum.inr z))
def L103_8c (F:Nat) (y109:List UInt8) (y110:Int) (y111:Vector UInt32 16) {β:Type} (kA:(Int×(Vector UInt32 16))->Option β) (kO:((Vector UInt32 16))->Option β):Option β:=
 (bif (decide (y110 < (3:Int))) then (Option.bind (T147 F y109 y110) fun z114=>(Option.bind (inb 16 (w64 ((13:Int) + y110))) fun x115=>(kA ((w64 (y110 + (1:Int))),(Vector.setIfInBounds y111 x115 z114))))) else (kO y111))
def L103_8 (F:Nat) (y109:List UInt8) (y110:Int) (y111:Vector UInt32 16):=L103_8c F y109 y110 y111 (fun s=>some (Sum.inl s)) (fun z=>some (Sum.inr z))
theorem it_again {σ ρ:Type} {f:σ->Option (σ ⊕ ρ)} {n:Nat} {s s':σ} (h:f s=some (.inl s')):iter f (n + 1) s=iter f n s':=by simp [iter,h]
theorem it_out {σ ρ:Type} {f:σ->Option (σ ⊕ ρ)} {n:Nat} {s:σ} {r:ρ} (h:f s=some (.inr r)):iter f (n + 1) s=some r:=by simp [iter,h]
def encN:Nat->Nat->List UInt8
 | 0,n=>[UInt8.ofNat n]
 | m + 1,n=>if n < 128 then [UInt8.ofNat n] else UInt8.ofNat (n % 128 + 128) :: encN m (n / 128)
def enc (n:Nat):List UInt8:=encN 9 n
theorem u64_lt (x:UInt64):x.toNat < 128 ^ (9 + 1):=Nat.lt_of_lt_of_le x.toNat_lt (by decide)
theorem ix_nat {α:Type} {l:List α} {i:Nat} (h:i < l.length):ix l ((i:Nat):Int)=some l[i]:=by
 unfold ix;rw [if_pos (by omega)];simp only [Int.toNat_natCast];exact List.getElem?_eq_getElem h
theorem iter2 {σ τ ρ ρ':Type} {f:σ->Option (σ ⊕ ρ)} {g:τ->Option (τ ⊕ ρ')} (R:σ->τ->Prop) (Q:ρ->ρ'->Prop) (μ:σ->Nat)
  (h:∀ s t,R s t->(∃ s' t',f s=some (.inl s')∧g t=some (.inl t')∧R s' t'∧μ s' < μ s)∨(∃ r r',f s=some (.inr r)∧g t=some (.inr r')∧Q r r')) :
  ∀ (n m:Nat) (s:σ) (t:τ),R s t->μ s < n->μ s < m->∃ r r',iter f n s=some r∧iter g m t=some r'∧Q r r'
 | 0,m,s,t,hR,hn,hm=>absurd hn (by omega)
 | n + 1,0,s,t,hR,hn,hm=>absurd hm (by omega)
 | n + 1,m + 1,s,t,hR,hn,hm=>by
  rcases h s t hR with ⟨s',t',h1,h2,h3,h4⟩ | ⟨r,r',h1,h2,h3⟩
  ·rw [it_again h1,it_again h2]
   exact iter2 R Q μ h n m s' t' h3 (by omega) (by omega)
  ·exact ⟨r,r',it_out h1,it_out h2,h3⟩
theorem iter1 {σ ρ:Type} {f:σ->Option (σ ⊕ ρ)} (R:σ->Prop) (Q:ρ->Prop) (μ:σ->Nat)
  (h:∀ s,R s->(∃ s',f s=some (.inl s')∧R s'∧μ s' < μ s)∨(∃ r,f s=some (.inr r)∧Q r)) :
  ∀ (n:Nat) (s:σ),R s->μ s < n->∃ r,iter f n s=some r∧Q r
 | 0,s,hR,hn=>absurd hn (by omega)
 | n + 1,s,hR,hn=>by
  rcases h s hR with ⟨s',h1,h3,h4⟩ | ⟨r,h1,h3⟩
  ·rw [it_again h1]
   exact iter1 R Q μ h n s' h3 (by omega)
  ·exact ⟨r,it_out h1,h3⟩
theorem iterP {σ τ ρ ρ':Type} {f:σ->Option (σ ⊕ ρ)} {g:τ->Option (τ ⊕ ρ')} (R:σ->τ->Prop) (Q:σ->ρ'->Prop) (μ:σ->Nat)
  (h:∀ s t,R s t->(∃ s' t',f s=some (.inl s')∧g t=some (.inl t')∧R s' t'∧μ s' < μ s)∨(∃ r',g t=some (.inr r')∧Q s r')) :
  ∀ (m:Nat) (s:σ) (t:τ),R s t->μ s < m->∃ k s' r',k≤μ s∧iter g m t=some r'∧Q s' r'∧∀ n,iter f (n + k) s=iter f n s'
 | 0,s,t,hR,hm=>absurd hm (by omega)
 | m + 1,s,t,hR,hm=>by
  rcases h s t hR with ⟨s',t',h1,h2,h3,h4⟩ | ⟨r',h1,h2⟩
  ·obtain ⟨k,s'',r',a1,a2,a3,a4⟩:=iterP R Q μ h m s' t' h3 (by omega)
   exact ⟨k + 1,s'',r',by omega,(it_again h2).trans a2,a3,fun n=>(it_again (n:=n + k) h1).trans (a4 n)⟩
  ·exact ⟨0,s,r',by omega,it_out h1,h2,fun n=>rfl⟩
theorem inb_nat {n i:Nat} (h:i < n):inb n ((i:Nat):Int)=some i:=by
 unfold inb;rw [if_pos (by omega)];simp only [Int.toNat_natCast]
theorem vat_nat {α:Type} {n i:Nat} {v:Vector α n} (h:i < n):vat v i=some v[i]:=by
 rw [vat_eq];exact getElem?_pos v i h
theorem vix_nat {α:Type} {n i:Nat} {v:Vector α n} (h:i < n):vix v ((i:Nat):Int)=some v[i]:=by
 unfold vix;rw [if_pos (by omega)];simp only [Int.toNat_natCast];exact getElem?_pos v i h
theorem gsl_nat {α:Type} {l:List α} {a b:Nat} (h:a≤b) (hb:b≤l.length):gsl l ((a:Nat):Int) ((b:Nat):Int)=some ((l.drop a).take (b - a)):=by
 unfold gsl;rw [if_pos (by omega)];simp only [Int.toNat_natCast]
theorem gslb_nat {n a b:Nat} (h:a≤b) (hb:b≤n):gslb n ((a:Nat):Int) ((b:Nat):Int)=some (a,b):=by
 unfold gslb;rw [if_pos (by omega)];simp only [Int.toNat_natCast]
theorem ix_dt {p:List UInt8} {a k:Nat} (h:a + k < p.length) (hk:k < 4):ix ((p.drop a).take 4) ((k:Nat):Int)=some p[a + k]:=by
 rw [ix_nat (by simp;omega)];simp
def rr (x:UInt32) (k:Nat):UInt32:=shr32 x k ||| shl32 x (32 - k)
theorem a94_17 (F:Nat) (x:UInt32):T201 F x (-17)=some (rr x 17):=by
 have e1:((UInt64.ofInt (-17)) &&& (UInt64.ofNat 31)).toNat=15:=by decide +kernel
 have e2:((UInt64.ofNat 32) - ((UInt64.ofInt (-17)) &&& (UInt64.ofNat 31))).toNat=17:=by decide +kernel
 simp only [T201,T201c,e1,e2,rr]
 rw [UInt32.or_comm]
theorem a93_17 (F:Nat) (x:UInt32):T181 F x 17=some (rr x 17):=by
 have e1:gnn (17:Int)=some 17:=by decide +kernel
 have e2:gnn (w64 ((32:Int) - 17))=some 15:=by decide +kernel
 simp only [T181,T181c,e1,e2,rr,Option.bind_some]
theorem a94_19 (F:Nat) (x:UInt32):T201 F x (-19)=some (rr x 19):=by
 have e1:((UInt64.ofInt (-19)) &&& (UInt64.ofNat 31)).toNat=13:=by decide +kernel
 have e2:((UInt64.ofNat 32) - ((UInt64.ofInt (-19)) &&& (UInt64.ofNat 31))).toNat=19:=by decide +kernel
 simp only [T201,T201c,e1,e2,rr]
 rw [UInt32.or_comm]
theorem a93_19 (F:Nat) (x:UInt32):T181 F x 19=some (rr x 19):=by
 have e1:gnn (19:Int)=some 19:=by decide +kernel
 have e2:gnn (w64 ((32:Int) - 19))=some 13:=by decide +kernel
 simp only [T181,T181c,e1,e2,rr,Option.bind_some]
theorem a94_7 (F:Nat) (x:UInt32):T201 F x (-7)=some (rr x 7):=by
 have e1:((UInt64.ofInt (-7)) &&& (UInt64.ofNat 31)).toNat=25:=by decide +kernel
 have e2:((UInt64.ofNat 32) - ((UInt64.ofInt (-7)) &&& (UInt64.ofNat 31))).toNat=7:=by decide +kernel
 simp only [T201,T201c,e1,e2,rr]
 rw [UInt32.or_comm]
theorem a93_7 (F:Nat) (x:UInt32):T181 F x 7=some (rr x 7):=by
 have e1:gnn (7:Int)=some 7:=by decide +kernel
 have e2:gnn (w64 ((32:Int) - 7))=some 25:=by decide +kernel
 simp only [T181,T181c,e1,e2,rr,Option.bind_some]
theorem a94_18 (F:Nat) (x:UInt32):T201 F x (-18)=some (rr x 18):=by
 have e1:((UInt64.ofInt (-18)) &&& (UInt64.ofNat 31)).toNat=14:=by decide +kernel
 have e2:((UInt64.ofNat 32) - ((UInt64.ofInt (-18)) &&& (UInt64.ofNat 31))).toNat=18:=by decide +kernel
 simp only [T201,T201c,e1,e2,rr]
 rw [UInt32.or_comm]
theorem a93_18 (F:Nat) (x:UInt32):T181 F x 18=some (rr x 18):=by
 have e1:gnn (18:Int)=some 18:=by decide +kernel
 have e2:gnn (w64 ((32:Int) - 18))=some 14:=by decide +kernel
 simp only [T181,T181c,e1,e2,rr,Option.bind_some]
theorem a94_6 (F:Nat) (x:UInt32):T201 F x (-6)=some (rr x 6):=by
 have e1:((UInt64.ofInt (-6)) &&& (UInt64.ofNat 31)).toNat=26:=by decide +kernel
 have e2:((UInt64.ofNat 32) - ((UInt64.ofInt (-6)) &&& (UInt64.ofNat 31))).toNat=6:=by decide +kernel
 simp only [T201,T201c,e1,e2,rr]
 rw [UInt32.or_comm]
theorem a93_6 (F:Nat) (x:UInt32):T181 F x 6=some (rr x 6):=by
 have e1:gnn (6:Int)=some 6:=by decide +kernel
 have e2:gnn (w64 ((32:Int) - 6))=some 26:=by decide +kernel
 simp only [T181,T181c,e1,e2,rr,Option.bind_some]
theorem a94_11 (F:Nat) (x:UInt32):T201 F x (-11)=some (rr x 11):=by
 have e1:((UInt64.ofInt (-11)) &&& (UInt64.ofNat 31)).toNat=21:=by decide +kernel
 have e2:((UInt64.ofNat 32) - ((UInt64.ofInt (-11)) &&& (UInt64.ofNat 31))).toNat=11:=by decide +kernel
 simp only [T201,T201c,e1,e2,rr]
 rw [UInt32.or_comm]
theorem a93_11 (F:Nat) (x:UInt32):T181 F x 11=some (rr x 11):=by
 have e1:gnn (11:Int)=some 11:=by decide +kernel
 have e2:gnn (w64 ((32:Int) - 11))=some 21:=by decide +kernel
 simp only [T181,T181c,e1,e2,rr,Option.bind_some]
theorem a94_25 (F:Nat) (x:UInt32):T201 F x (-25)=some (rr x 25):=by
 have e1:((UInt64.ofInt (-25)) &&& (UInt64.ofNat 31)).toNat=7:=by decide +kernel
 have e2:((UInt64.ofNat 32) - ((UInt64.ofInt (-25)) &&& (UInt64.ofNat 31))).toNat=25:=by decide +kernel
 simp only [T201,T201c,e1,e2,rr]
 rw [UInt32.or_comm]
theorem a93_25 (F:Nat) (x:UInt32):T181 F x 25=some (rr x 25):=by
 have e1:gnn (25:Int)=some 25:=by decide +kernel
 have e2:gnn (w64 ((32:Int) - 25))=some 7:=by decide +kernel
 simp only [T181,T181c,e1,e2,rr,Option.bind_some]
theorem a94_2 (F:Nat) (x:UInt32):T201 F x (-2)=some (rr x 2):=by
 have e1:((UInt64.ofInt (-2)) &&& (UInt64.ofNat 31)).toNat=30:=by decide +kernel
 have e2:((UInt64.ofNat 32) - ((UInt64.ofInt (-2)) &&& (UInt64.ofNat 31))).toNat=2:=by decide +kernel
 simp only [T201,T201c,e1,e2,rr]
 rw [UInt32.or_comm]
theorem a93_2 (F:Nat) (x:UInt32):T181 F x 2=some (rr x 2):=by
 have e1:gnn (2:Int)=some 2:=by decide +kernel
 have e2:gnn (w64 ((32:Int) - 2))=some 30:=by decide +kernel
 simp only [T181,T181c,e1,e2,rr,Option.bind_some]
theorem a94_13 (F:Nat) (x:UInt32):T201 F x (-13)=some (rr x 13):=by
 have e1:((UInt64.ofInt (-13)) &&& (UInt64.ofNat 31)).toNat=19:=by decide +kernel
 have e2:((UInt64.ofNat 32) - ((UInt64.ofInt (-13)) &&& (UInt64.ofNat 31))).toNat=13:=by decide +kernel
 simp only [T201,T201c,e1,e2,rr]
 rw [UInt32.or_comm]
theorem a93_13 (F:Nat) (x:UInt32):T181 F x 13=some (rr x 13):=by
 have e1:gnn (13:Int)=some 13:=by decide +kernel
 have e2:gnn (w64 ((32:Int) - 13))=some 19:=by decide +kernel
 simp only [T181,T181c,e1,e2,rr,Option.bind_some]
theorem a94_22 (F:Nat) (x:UInt32):T201 F x (-22)=some (rr x 22):=by
 have e1:((UInt64.ofInt (-22)) &&& (UInt64.ofNat 31)).toNat=10:=by decide +kernel
 have e2:((UInt64.ofNat 32) - ((UInt64.ofInt (-22)) &&& (UInt64.ofNat 31))).toNat=22:=by decide +kernel
 simp only [T201,T201c,e1,e2,rr]
 rw [UInt32.or_comm]
theorem a93_22 (F:Nat) (x:UInt32):T181 F x 22=some (rr x 22):=by
 have e1:gnn (22:Int)=some 22:=by decide +kernel
 have e2:gnn (w64 ((32:Int) - 22))=some 10:=by decide +kernel
 simp only [T181,T181c,e1,e2,rr,Option.bind_some]
def wd4 (a b c d:UInt8):UInt32:=(((shl32 (a.toUInt32) ((UInt64.ofNat 24).toNat)) ||| (shl32 (b.toUInt32) ((UInt64.ofNat 16).toNat))) ||| (shl32 (c.toUInt32) ((UInt64.ofNat 8).toNat))) ||| (d.toUInt32)
def sch4 (a b c d:UInt32):UInt32:=((((rr a 17 ^^^ rr a 19) ^^^ (shr32 a ((UInt64.ofNat 10).toNat))) + b) + ((rr c 7 ^^^ rr c 18) ^^^ (shr32 c ((UInt64.ofNat 3).toNat)))) + d
theorem s91_lo (F:Nat) {p:List UInt8} (hp:p.length=64) {i:Nat} (hi:i < 16) (w:Vector UInt32 64) :
  L200x1_4 F p ((i:Nat):Int) w=some (.inl (((i + 1:Nat):Int),w.setIfInBounds i (wd4 p[4 * i] p[4 * i + 1] p[4 * i + 2] p[4 * i + 3]))):=by
 have h1:(((i:Nat):Int) < 64):=by omega
 have h2:(((i:Nat):Int) < 16):=by omega
 have e1:w64 ((4:Int) * ((i:Nat):Int))=((4 * i:Nat):Int):=by rw [w64_in (by omega) (by omega)];omega
 have e2:w64 (((4 * i:Nat):Int) + 4)=((4 * i + 4:Nat):Int):=by rw [w64_in (by omega) (by omega)];omega
 have e3:w64 (((i:Nat):Int) + 1)=((i + 1:Nat):Int):=by rw [w64_in (by omega) (by omega)];omega
 have g:gsl p ((4 * i:Nat):Int) ((4 * i + 4:Nat):Int)=some ((p.drop (4 * i)).take 4):=by
  rw [gsl_nat (by omega) (by omega),Nat.add_sub_cancel_left]
 have x0:ix ((p.drop (4 * i)).take 4) (0:Int)=some p[4 * i]:=ix_dt (k:=0) (by omega) (by omega)
 have x1:ix ((p.drop (4 * i)).take 4) (1:Int)=some p[4 * i + 1]:=ix_dt (k:=1) (by omega) (by omega)
 have x2:ix ((p.drop (4 * i)).take 4) (2:Int)=some p[4 * i + 2]:=ix_dt (k:=2) (by omega) (by omega)
 have x3:ix ((p.drop (4 * i)).take 4) (3:Int)=some p[4 * i + 3]:=ix_dt (k:=3) (by omega) (by omega)
 have n:inb 64 ((i:Nat):Int)=some i:=inb_nat (by omega)
 simp only [L200x1_4,L200x1_4c,h1,h2,decide_true,cond_true,e1,e2,e3,g,x0,x1,x2,x3,n,Option.bind_some,wd4]
theorem s85_lo (F:Nat) {p:List UInt8} (hp:p.length=64) {i:Nat} (hi:i < 16) (w:Vector UInt32 64) :
  L146_5 F p ((i:Nat):Int) w=some (.inl (((i + 1:Nat):Int),w.setIfInBounds i (wd4 p[4 * i] p[4 * i + 1] p[4 * i + 2] p[4 * i + 3]))):=by
 have h2:(((i:Nat):Int) < 16):=by omega
 have e1:w64 ((4:Int) * ((i:Nat):Int))=((4 * i:Nat):Int):=by rw [w64_in (by omega) (by omega)];omega
 have f1:w64 (((4 * i:Nat):Int) + 1)=((4 * i + 1:Nat):Int):=by rw [w64_in (by omega) (by omega)];omega
 have f2:w64 (((4 * i:Nat):Int) + 2)=((4 * i + 2:Nat):Int):=by rw [w64_in (by omega) (by omega)];omega
 have f3:w64 (((4 * i:Nat):Int) + 3)=((4 * i + 3:Nat):Int):=by rw [w64_in (by omega) (by omega)];omega
 have e3:w64 (((i:Nat):Int) + 1)=((i + 1:Nat):Int):=by rw [w64_in (by omega) (by omega)];omega
 have x0:ix p ((4 * i:Nat):Int)=some p[4 * i]:=ix_nat (by omega)
 have x1:ix p ((4 * i + 1:Nat):Int)=some p[4 * i + 1]:=ix_nat (by omega)
 have x2:ix p ((4 * i + 2:Nat):Int)=some p[4 * i + 2]:=ix_nat (by omega)
 have x3:ix p ((4 * i + 3:Nat):Int)=some p[4 * i + 3]:=ix_nat (by omega)
 have n:inb 64 ((i:Nat):Int)=some i:=inb_nat (by omega)
 simp only [L146_5,L146_5c,h2,decide_true,cond_true,e1,e3,f1,f2,f3,x0,x1,x2,x3,n,Option.bind_some,wd4]
theorem s91_hi (F:Nat) (p:List UInt8) {i:Nat} (h16:16≤i) (hi:i < 64) (w:Vector UInt32 64) :
  L200x1_4 F p ((i:Nat):Int) w=some (.inl (((i + 1:Nat):Int),w.setIfInBounds i (sch4 w[i - 2] w[i - 7] w[i - 15] w[i - 16]))):=by
 have h1:(((i:Nat):Int) < 64):=by omega
 have h2:¬ (((i:Nat):Int) < 16):=by omega
 have e3:w64 (((i:Nat):Int) + 1)=((i + 1:Nat):Int):=by rw [w64_in (by omega) (by omega)];omega
 have f1:w64 (((i:Nat):Int) - 2)=((i - 2:Nat):Int):=by rw [w64_in (by omega) (by omega)];omega
 have f2:w64 (((i:Nat):Int) - 7)=((i - 7:Nat):Int):=by rw [w64_in (by omega) (by omega)];omega
 have f3:w64 (((i:Nat):Int) - 15)=((i - 15:Nat):Int):=by rw [w64_in (by omega) (by omega)];omega
 have f4:w64 (((i:Nat):Int) - 16)=((i - 16:Nat):Int):=by rw [w64_in (by omega) (by omega)];omega
 have n:inb 64 ((i:Nat):Int)=some i:=inb_nat (by omega)
 have n1:inb 64 ((i - 2:Nat):Int)=some (i - 2):=inb_nat (by omega)
 have n2:inb 64 ((i - 7:Nat):Int)=some (i - 7):=inb_nat (by omega)
 have n3:inb 64 ((i - 15:Nat):Int)=some (i - 15):=inb_nat (by omega)
 have n4:inb 64 ((i - 16:Nat):Int)=some (i - 16):=inb_nat (by omega)
 have v1:vat w (i - 2)=some w[i - 2]:=vat_nat (by omega)
 have v2:vat w (i - 7)=some w[i - 7]:=vat_nat (by omega)
 have v3:vat w (i - 15)=some w[i - 15]:=vat_nat (by omega)
 have v4:vat w (i - 16)=some w[i - 16]:=vat_nat (by omega)
 simp only [L200x1_4,L200x1_4c,h1,h2,decide_true,decide_false,cond_true,cond_false,e3,f1,f2,f3,f4,n,n1,n2,n3,n4,v1,v2,v3,v4,a94_17,a94_19,a94_7,a94_18,Option.bind_some,sch4]
theorem s85_hi (F:Nat) {i:Nat} (h16:16≤i) (hi:i < 64) (w:Vector UInt32 64) :
  L146_6 F ((i:Nat):Int) w=some (.inl (((i + 1:Nat):Int),w.setIfInBounds i (sch4 w[i - 2] w[i - 7] w[i - 15] w[i - 16]))):=by
 have h1:(((i:Nat):Int) < 64):=by omega
 have e3:w64 (((i:Nat):Int) + 1)=((i + 1:Nat):Int):=by rw [w64_in (by omega) (by omega)];omega
 have f1:w64 (((i:Nat):Int) - 2)=((i - 2:Nat):Int):=by rw [w64_in (by omega) (by omega)];omega
 have f2:w64 (((i:Nat):Int) - 7)=((i - 7:Nat):Int):=by rw [w64_in (by omega) (by omega)];omega
 have f3:w64 (((i:Nat):Int) - 15)=((i - 15:Nat):Int):=by rw [w64_in (by omega) (by omega)];omega
 have f4:w64 (((i:Nat):Int) - 16)=((i - 16:Nat):Int):=by rw [w64_in (by omega) (by omega)];omega
 have n:inb 64 ((i:Nat):Int)=some i:=inb_nat (by omega)
 have n1:inb 64 ((i - 2:Nat):Int)=some (i - 2):=inb_nat (by omega)
 have n2:inb 64 ((i - 7:Nat):Int)=some (i - 7):=inb_nat (by omega)
 have n3:inb 64 ((i - 15:Nat):Int)=some (i - 15):=inb_nat (by omega)
 have n4:inb 64 ((i - 16:Nat):Int)=some (i - 16):=inb_nat (by omega)
 have v1:vat w (i - 2)=some w[i - 2]:=vat_nat (by omega)
 have v2:vat w (i - 7)=some w[i - 7]:=vat_nat (by omega)
 have v3:vat w (i - 15)=some w[i - 15]:=vat_nat (by omega)
 have v4:vat w (i - 16)=some w[i - 16]:=vat_nat (by omega)
 simp only [L146_6,L146_6c,h1,decide_true,cond_true,e3,f1,f2,f3,f4,n,n1,n2,n3,n4,v1,v2,v3,v4,a93_17,a93_19,a93_7,a93_18,Option.bind_some,sch4]
theorem sched {F:Nat} (hF:100 < F) {p:List UInt8} (hp:p.length=64):∃ w w0,iter (fun s:Int×Vector UInt32 64=>L200x1_4 F p s.1 s.2) F ((0:Int),(Vector.replicate 64 (0:UInt32)))=some w ∧
  iter (fun s:Int×Vector UInt32 64=>L146_5 F p s.1 s.2) F ((0:Int),(Vector.replicate 64 (0:UInt32)))=some w0∧iter (fun s:Int×Vector UInt32 64=>L146_6 F s.1 s.2) F ((16:Int),w0)=some w:=by
 obtain ⟨k,s',w0,a1,a2,a3,a4⟩:=iterP (f:=fun s:Int×Vector UInt32 64=>L200x1_4 F p s.1 s.2) (g:=fun s:Int×Vector UInt32 64=>L146_5 F p s.1 s.2)
  (fun s t=>s=t∧∃ i:Nat,s.1=i∧i≤16) (fun s r=>s=((16:Int),r)) (fun s=>16 - s.1.toNat) (by
   rintro ⟨a,w⟩ t ⟨rfl,i,hi,h16⟩
   simp only at hi
   subst hi
   by_cases h:i < 16
   ·exact .inl ⟨_,_,s91_lo F hp h w,s85_lo F hp h w,⟨rfl,i + 1,rfl,by omega⟩,by simp only [Int.toNat_natCast];omega⟩
   ·obtain rfl:i=16:=by omega
    exact .inr ⟨w,rfl,rfl⟩) F ((0:Int),(Vector.replicate 64 (0:UInt32))) ((0:Int),(Vector.replicate 64 (0:UInt32))) ⟨rfl,0,rfl,by omega⟩ (by simp only [Int.toNat_zero];omega)
 simp only [Int.toNat_zero,Nat.sub_zero] at a1
 subst a3
 obtain ⟨w,w',b1,b2,b3⟩:=iter2 (f:=fun s:Int×Vector UInt32 64=>L200x1_4 F p s.1 s.2) (g:=fun s:Int×Vector UInt32 64=>L146_6 F s.1 s.2)
  (fun s t=>s=t∧∃ i:Nat,s.1=i∧16≤i∧i≤64) (fun r r'=>r=r') (fun s=>64 - s.1.toNat) (by
   rintro ⟨a,w⟩ t ⟨rfl,i,hi,h16,h64⟩
   simp only at hi
   subst hi
   by_cases h:i < 64
   ·exact .inl ⟨_,_,s91_hi F p h16 h w,s85_hi F h16 h w,⟨rfl,i + 1,rfl,by omega,by omega⟩,by simp only [Int.toNat_natCast];omega⟩
   ·obtain rfl:i=64:=by omega
    exact .inr ⟨w,w,rfl,rfl,rfl⟩) (F - k) F ((16:Int),w0) ((16:Int),w0) ⟨rfl,16,rfl,by omega,by omega⟩ (by have:((16:Int)).toNat=16:=rfl;simp only [this];omega) (by have:((16:Int)).toNat=16:=rfl;simp only [this];omega)
 subst b3
 refine ⟨w,w0,?_,a2,b2⟩
 have:=a4 (F - k)
 rw [Nat.sub_add_cancel (by omega)] at this
 rw [this,b1]
theorem s91v_lo (F:Nat) (v:Vector UInt8 64) {i:Nat} (hi:i < 16) (w:Vector UInt32 64) :
  L200_4 F v (0,64) ((i:Nat):Int) w=some (.inl ((0,64),((i + 1:Nat):Int),w.setIfInBounds i (wd4 v[4 * i] v[4 * i + 1] v[4 * i + 2] v[4 * i + 3]))):=by
 have h1:(((i:Nat):Int) < 64):=by omega
 have h2:(((i:Nat):Int) < 16):=by omega
 have e1:w64 ((4:Int) * ((i:Nat):Int))=((4 * i:Nat):Int):=by rw [w64_in (by omega) (by omega)];omega
 have e2:w64 (((4 * i:Nat):Int) + 4)=((4 * i + 4:Nat):Int):=by rw [w64_in (by omega) (by omega)];omega
 have e3:w64 (((i:Nat):Int) + 1)=((i + 1:Nat):Int):=by rw [w64_in (by omega) (by omega)];omega
 have g:gslb 64 ((4 * i:Nat):Int) ((4 * i + 4:Nat):Int)=some (4 * i,4 * i + 4):=gslb_nat (by omega) (by omega)
 have m0:inb 4 (0:Int)=some 0:=by decide
 have m1:inb 4 (1:Int)=some 1:=by decide
 have m2:inb 4 (2:Int)=some 2:=by decide
 have m3:inb 4 (3:Int)=some 3:=by decide
 have x0:vat v (4 * i)=some v[4 * i]:=vat_nat (by omega)
 have x1:vat v (4 * i + 1)=some v[4 * i + 1]:=vat_nat (by omega)
 have x2:vat v (4 * i + 2)=some v[4 * i + 2]:=vat_nat (by omega)
 have x3:vat v (4 * i + 3)=some v[4 * i + 3]:=vat_nat (by omega)
 have n:inb 64 ((i:Nat):Int)=some i:=inb_nat (by omega)
 simp only [L200_4,L200_4c,h1,h2,decide_true,cond_true,e1,e2,e3,Nat.sub_zero,Nat.zero_add,g,Nat.add_sub_cancel_left,m0,m1,m2,m3,Nat.add_zero,x0,x1,x2,x3,n,Option.bind_some,wd4]
theorem s91v_hi (F:Nat) (v:Vector UInt8 64) {i:Nat} (h16:16≤i) (hi:i < 64) (w:Vector UInt32 64) :
  L200_4 F v (0,64) ((i:Nat):Int) w=some (.inl ((0,64),((i + 1:Nat):Int),w.setIfInBounds i (sch4 w[i - 2] w[i - 7] w[i - 15] w[i - 16]))):=by
 have h1:(((i:Nat):Int) < 64):=by omega
 have h2:¬ (((i:Nat):Int) < 16):=by omega
 have e3:w64 (((i:Nat):Int) + 1)=((i + 1:Nat):Int):=by rw [w64_in (by omega) (by omega)];omega
 have f1:w64 (((i:Nat):Int) - 2)=((i - 2:Nat):Int):=by rw [w64_in (by omega) (by omega)];omega
 have f2:w64 (((i:Nat):Int) - 7)=((i - 7:Nat):Int):=by rw [w64_in (by omega) (by omega)];omega
 have f3:w64 (((i:Nat):Int) - 15)=((i - 15:Nat):Int):=by rw [w64_in (by omega) (by omega)];omega
 have f4:w64 (((i:Nat):Int) - 16)=((i - 16:Nat):Int):=by rw [w64_in (by omega) (by omega)];omega
 have n:inb 64 ((i:Nat):Int)=some i:=inb_nat (by omega)
 have n1:inb 64 ((i - 2:Nat):Int)=some (i - 2):=inb_nat (by omega)
 have n2:inb 64 ((i - 7:Nat):Int)=some (i - 7):=inb_nat (by omega)
 have n3:inb 64 ((i - 15:Nat):Int)=some (i - 15):=inb_nat (by omega)
 have n4:inb 64 ((i - 16:Nat):Int)=some (i - 16):=inb_nat (by omega)
 have v1:vat w (i - 2)=some w[i - 2]:=vat_nat (by omega)
 have v2:vat w (i - 7)=some w[i - 7]:=vat_nat (by omega)
 have v3:vat w (i - 15)=some w[i - 15]:=vat_nat (by omega)
 have v4:vat w (i - 16)=some w[i - 16]:=vat_nat (by omega)
 simp only [L200_4,L200_4c,h1,h2,decide_true,decide_false,cond_true,cond_false,e3,f1,f2,f3,f4,n,n1,n2,n3,n4,v1,v2,v3,v4,a94_17,a94_19,a94_7,a94_18,Option.bind_some,sch4]
theorem schedv {F:Nat} (hF:100 < F) (v:Vector UInt8 64):∃ w,iter (fun s:(Nat×Nat)×Int×Vector UInt32 64=>L200_4 F v s.1 s.2.1 s.2.2) F ((0,64),(0:Int),(Vector.replicate 64 (0:UInt32)))=some w ∧
  iter (fun s:Int×Vector UInt32 64=>L200x1_4 F v.toList s.1 s.2) F ((0:Int),(Vector.replicate 64 (0:UInt32)))=some w:=by
 have hl:v.toList.length=64:=by simp
 obtain ⟨w,w',b1,b2,b3⟩:=iter2 (f:=fun s:(Nat×Nat)×Int×Vector UInt32 64=>L200_4 F v s.1 s.2.1 s.2.2) (g:=fun s:Int×Vector UInt32 64=>L200x1_4 F v.toList s.1 s.2)
  (fun s t=>s=((0,64),t.1,t.2)∧∃ i:Nat,t.1=i∧i≤64) (fun r r'=>r=r') (fun s=>64 - s.2.1.toNat) (by
   rintro s ⟨a,w⟩ ⟨rfl,i,hi,h64⟩
   simp only at hi
   subst hi
   by_cases h:i < 64
   ·by_cases h16:i < 16
    ·have g:=s91_lo F hl h16 w
     simp only [Vector.getElem_toList] at g
     exact .inl ⟨_,_,s91v_lo F v h16 w,g,⟨rfl,i + 1,rfl,by omega⟩,by simp only [Int.toNat_natCast];omega⟩
    ·exact .inl ⟨_,_,s91v_hi F v (by omega) h w,s91_hi F v.toList (by omega) h w,⟨rfl,i + 1,rfl,by omega⟩,by simp only [Int.toNat_natCast];omega⟩
   ·obtain rfl:i=64:=by omega
    exact .inr ⟨w,w,rfl,rfl,rfl⟩) F F ((0,64),(0:Int),(Vector.replicate 64 (0:UInt32))) ((0:Int),(Vector.replicate 64 (0:UInt32))) ⟨rfl,0,rfl,by omega⟩ (by simp only [Int.toNat_zero];omega) (by simp only [Int.toNat_zero];omega)
 subst b3
 exact ⟨w,b1,b2⟩
def t1 (e f g h k w:UInt32):UInt32:=(((h + ((rr e 6 ^^^ rr e 11) ^^^ rr e 25)) + ((e &&& f) ^^^ ((~~~e) &&& g))) + k) + w
def t2 (a b c:UInt32):UInt32:=((rr a 2 ^^^ rr a 13) ^^^ rr a 22) + (((a &&& b) ^^^ (a &&& c)) ^^^ (b &&& c))
theorem r91 (F:Nat) (w:Vector UInt32 64) (a b c d e f g h:UInt32) {i:Nat} (hi:i < 64) :
  L200x1_5 F w a b c d e f g h ((i:Nat):Int)=some (.inl (t1 e f g h gv2[i] w[i] + t2 a b c,a,b,c,d + t1 e f g h gv2[i] w[i],e,f,g,((i + 1:Nat):Int))):=by
 have h1:(((i:Nat):Int) < 64):=by omega
 have e3:w64 (((i:Nat):Int) + 1)=((i + 1:Nat):Int):=by rw [w64_in (by omega) (by omega)];omega
 have n:inb 64 ((i:Nat):Int)=some i:=inb_nat (by omega)
 have v:vat w i=some w[i]:=vat_nat hi
 have x:vix gv2 ((i:Nat):Int)=some gv2[i]:=vix_nat hi
 simp only [L200x1_5,L200x1_5c,h1,decide_true,cond_true,a94_6,a94_11,a94_25,a94_2,a94_13,a94_22,Option.bind_some,x,n,v,e3,t1,t2]
theorem r85 (F:Nat) (w:Vector UInt32 64) (a b c d e f g h:UInt32) {i:Nat} (hi:i < 64) :
  L146_7 F gv2 w ((i:Nat):Int) #v[a,b,c,d,e,f,g,h]=some (.inl (((i + 1:Nat):Int),#v[t1 e f g h gv2[i] w[i] + t2 a b c,a,b,c,d + t1 e f g h gv2[i] w[i],e,f,g])):=by
 have h1:(((i:Nat):Int) < 64):=by omega
 have e3:w64 (((i:Nat):Int) + 1)=((i + 1:Nat):Int):=by rw [w64_in (by omega) (by omega)];omega
 have n:inb 64 ((i:Nat):Int)=some i:=inb_nat (by omega)
 have v:vat w i=some w[i]:=vat_nat hi
 have x:vat gv2 i=some gv2[i]:=vat_nat hi
 have y0:vat #v[a,b,c,d,e,f,g,h] 0=some a:=rfl
 have y1:vat #v[a,b,c,d,e,f,g,h] 1=some b:=rfl
 have y2:vat #v[a,b,c,d,e,f,g,h] 2=some c:=rfl
 have y3:vat #v[a,b,c,d,e,f,g,h] 3=some d:=rfl
 have y4:vat #v[a,b,c,d,e,f,g,h] 4=some e:=rfl
 have y5:vat #v[a,b,c,d,e,f,g,h] 5=some f:=rfl
 have y6:vat #v[a,b,c,d,e,f,g,h] 6=some g:=rfl
 have y7:vat #v[a,b,c,d,e,f,g,h] 7=some h:=rfl
 simp only [L146_7,L146_7c,h1,decide_true,cond_true,y0,y1,y2,y3,y4,y5,y6,y7,a93_6,a93_11,a93_25,a93_2,a93_13,a93_22,Option.bind_some,x,n,v,e3,t1,t2]
abbrev O8:=UInt32×UInt32×UInt32×UInt32×UInt32×UInt32×UInt32×UInt32
abbrev O9:=UInt32×UInt32×UInt32×UInt32×UInt32×UInt32×UInt32×UInt32×Int
def v8 (z:O8):Vector UInt32 8:=#v[z.1,z.2.1,z.2.2.1,z.2.2.2.1,z.2.2.2.2.1,z.2.2.2.2.2.1,z.2.2.2.2.2.2.1,z.2.2.2.2.2.2.2]
theorem rounds {F:Nat} (hF:100 < F) (w:Vector UInt32 64) (z:O8):∃ z':O8,
  iter (fun s:O9=>L200x1_5 F w s.1 s.2.1 s.2.2.1 s.2.2.2.1 s.2.2.2.2.1 s.2.2.2.2.2.1 s.2.2.2.2.2.2.1 s.2.2.2.2.2.2.2.1 s.2.2.2.2.2.2.2.2) F (z.1,z.2.1,z.2.2.1,z.2.2.2.1,z.2.2.2.2.1,z.2.2.2.2.2.1,z.2.2.2.2.2.2.1,z.2.2.2.2.2.2.2,(0:Int))=some z' ∧
  iter (fun s:Int×Vector UInt32 8=>L146_7 F gv2 w s.1 s.2) F ((0:Int),v8 z)=some (v8 z'):=by
 obtain ⟨r,r',b1,b2,b3⟩:=iter2 (f:=fun s:O9=>L200x1_5 F w s.1 s.2.1 s.2.2.1 s.2.2.2.1 s.2.2.2.2.1 s.2.2.2.2.2.1 s.2.2.2.2.2.2.1 s.2.2.2.2.2.2.2.1 s.2.2.2.2.2.2.2.2) (g:=fun s:Int×Vector UInt32 8=>L146_7 F gv2 w s.1 s.2)
  (fun s t=>t=(s.2.2.2.2.2.2.2.2,#v[s.1,s.2.1,s.2.2.1,s.2.2.2.1,s.2.2.2.2.1,s.2.2.2.2.2.1,s.2.2.2.2.2.2.1,s.2.2.2.2.2.2.2.1])∧∃ i:Nat,s.2.2.2.2.2.2.2.2=i∧i≤64) (fun r r'=>r'=v8 r) (fun s=>64 - s.2.2.2.2.2.2.2.2.toNat) (by
   rintro ⟨a,b,c,d,e,f,g,h,j⟩ t ⟨rfl,i,hi,h64⟩
   simp only at hi
   subst hi
   by_cases hi:i < 64
   ·exact .inl ⟨_,_,r91 F w a b c d e f g h hi,r85 F w a b c d e f g h hi,⟨rfl,i + 1,rfl,by omega⟩,by simp only [Int.toNat_natCast];omega⟩
   ·obtain rfl:i=64:=by omega
    exact .inr ⟨_,_,rfl,rfl,rfl⟩) F F (z.1,z.2.1,z.2.2.1,z.2.2.2.1,z.2.2.2.2.1,z.2.2.2.2.2.1,z.2.2.2.2.2.2.1,z.2.2.2.2.2.2.2,(0:Int)) ((0:Int),v8 z) ⟨rfl,0,rfl,by omega⟩ (by simp only [Int.toNat_zero];omega) (by simp only [Int.toNat_zero];omega)
 subst b3
 exact ⟨r,b1,b2⟩
theorem last {F:Nat} (hF:100 < F) (x p:Vector UInt32 8):∃ r,iter (fun s:Int×Vector UInt32 8=>L200x1_6 F x p s.1 s.2) F ((0:Int),p)=some r∧iter (fun s:Int×Vector UInt32 8=>L146_8 F p s.1 s.2) F ((0:Int),x)=some r:=by
 obtain ⟨r,r',b1,b2,b3⟩:=iter2 (f:=fun s:Int×Vector UInt32 8=>L200x1_6 F x p s.1 s.2) (g:=fun s:Int×Vector UInt32 8=>L146_8 F p s.1 s.2)
  (fun s t=>s.1=t.1∧∃ i:Nat,s.1=i∧i≤8∧(∀ j (hj:j < 8),j < i->s.2[j]=t.2[j])∧∀ j (hj:j < 8),i≤j->t.2[j]=x[j]) (fun r r'=>r=r') (fun s=>8 - s.1.toNat) (by
   rintro ⟨a,u⟩ ⟨a',v⟩ ⟨rfl,i,hi,h8,hu,hv⟩
   simp only at hi hu hv
   subst hi
   by_cases h:i < 8
   ·have h1:(((i:Nat):Int) < 8):=by omega
    have e3:w64 (((i:Nat):Int) + 1)=((i + 1:Nat):Int):=by rw [w64_in (by omega) (by omega)];omega
    have n:inb 8 ((i:Nat):Int)=some i:=inb_nat h
    have s1:L200x1_6 F x p ((i:Nat):Int) u=some (.inl (((i + 1:Nat):Int),u.setIfInBounds i (p[i] + x[i]))):=by
     simp only [L200x1_6,L200x1_6c,h1,decide_true,cond_true,vix_nat h,n,vat_nat (v:=p) h,Option.bind_some,e3]
    have s2:L146_8 F p ((i:Nat):Int) v=some (.inl (((i + 1:Nat):Int),v.setIfInBounds i (v[i] + p[i]))):=by
     simp only [L146_8,L146_8c,h1,decide_true,cond_true,n,vat_nat (v:=p) h,vat_nat (v:=v) h,Option.bind_some,e3]
    refine .inl ⟨_,_,s1,s2,⟨rfl,i + 1,rfl,by omega,fun j hj hji=>?_,fun j hj hij=>?_⟩,by simp only [Int.toNat_natCast];omega⟩
    ·simp only [Vector.getElem_setIfInBounds]
     by_cases e:i=j
     ·subst e
      simp only [if_true]
      rw [hv i hj (Nat.le_refl _),UInt32.add_comm]
     ·rw [if_neg e,if_neg e]
      exact hu j hj (by omega)
    ·simp only [Vector.getElem_setIfInBounds]
     rw [if_neg (by omega)]
     exact hv j hj (by omega)
   ·obtain rfl:i=8:=by omega
    exact .inr ⟨u,v,rfl,rfl,Vector.ext fun j hj=>hu j hj hj⟩) F F ((0:Int),p) ((0:Int),x) ⟨rfl,0,rfl,by omega,fun j hj h0=>absurd h0 (by omega),fun j hj _=>rfl⟩ (by simp only [Int.toNat_zero];omega) (by simp only [Int.toNat_zero];omega)
 subst b3
 exact ⟨r,b1,b2⟩
theorem vec8 (v:Vector UInt32 8):v8 (v[0],v[1],v[2],v[3],v[4],v[5],v[6],v[7])=v:=by
 apply Vector.ext
 intro i hi
 match i,hi with
 | 0,_=>rfl
 | 1,_=>rfl
 | 2,_=>rfl
 | 3,_=>rfl
 | 4,_=>rfl
 | 5,_=>rfl
 | 6,_=>rfl
 | 7,_=>rfl
theorem k92 (F:Nat):T180 F=some gv2:=rfl
theorem t91 {F:Nat} (hF:100 < F) {p:List UInt8} (hp:p.length=64) (h:Vector UInt32 8):∃ r,T200x1 F p h=some r∧T146 F h p=some r:=by
 obtain ⟨w,w0,a1,a2,a3⟩:=sched hF hp
 obtain ⟨z,b1,b2⟩:=rounds hF w (h[0],h[1],h[2],h[3],h[4],h[5],h[6],h[7])
 rw [vec8] at b2
 obtain ⟨r,c1,c2⟩:=last hF (v8 z) h
 refine ⟨r,?_,?_⟩
 ·simp only [T200x1,T200x1c,a1,Option.bind_some,vat_nat (v:=h) (show 0 < 8 by omega),vat_nat (v:=h) (show 1 < 8 by omega),vat_nat (v:=h) (show 2 < 8 by omega),vat_nat (v:=h) (show 3 < 8 by omega),vat_nat (v:=h) (show 4 < 8 by omega),vat_nat (v:=h) (show 5 < 8 by omega),vat_nat (v:=h) (show 6 < 8 by omega),vat_nat (v:=h) (show 7 < 8 by omega)]
  simp only [b1,Option.bind_some]
  exact (congrArg (fun o=>Option.bind o fun z=>some z) c1)
 ·simp only [T146,T146c,k92,Option.bind_some,a2,a3,b2,c2]
theorem t91v {F:Nat} (hF:100 < F) (v:Vector UInt8 64) (h:Vector UInt32 8):T200 F (0,64) h v=T200x1 F v.toList h:=by
 obtain ⟨w,a1,a2⟩:=schedv hF v
 simp only [T200,T200c,T200x1,T200x1c,a1,a2,Option.bind_some]
 rfl
theorem x82_eq (F:Nat):T176x1 F=T176 F:=rfl
def B (F:Nat) (h:Vector UInt32 8) (p:List UInt8):Vector UInt32 8:=(T146 F h p).getD h
theorem b85 {F:Nat} (hF:100 < F) {p:List UInt8} (hp:p.length=64) (h:Vector UInt32 8):T146 F h p=some (B F h p):=by
 obtain ⟨r,h1,h2⟩:=t91 hF hp h
 simp only [B,h2,Option.getD_some]
theorem b91 {F:Nat} (hF:100 < F) {p:List UInt8} (hp:p.length=64) (h:Vector UInt32 8):T200x1 F p h=some (B F h p):=by
 obtain ⟨r,h1,h2⟩:=t91 hF hp h
 simp only [B,h1,h2,Option.getD_some]
theorem b91v {F:Nat} (hF:100 < F) (v:Vector UInt8 64) (h:Vector UInt32 8):T200 F (0,64) h v=some (B F h v.toList):=by
 rw [t91v hF,b91 hF (by simp)]
def hN (F:Nat):Nat->List UInt8->Vector UInt32 8
 | 0,_=>gv1
 | k + 1,m=>B F (hN F k m) ((m.drop (64 * k)).take 64)
theorem hN_app (F:Nat) (m x:List UInt8):∀ k,64 * k≤m.length->hN F k (m ++ x)=hN F k m
 | 0,_=>rfl
 | k + 1,h=>by
  simp only [hN]
  rw [hN_app F m x k (by omega),List.drop_append_of_le_length (by omega),List.take_append_of_le_length (by simp;omega)]
structure Inv (F:Nat) (m:List UInt8) (h:Vector UInt32 8) (b:Vector UInt8 64) (n:Int):Prop where
 len:n=(m.length:Int)
 words:h=hN F (m.length / 64) m
 rest:b.toList.take (m.length % 64)=m.drop (64 * (m.length / 64))
theorem tmod64 (a:Nat):Int.tmod ((a:Nat):Int) 64=((a % 64:Nat):Int):=by
 rw [Int.tmod_eq_emod_of_nonneg (by omega)];omega
theorem lp82 {F:Nat} (hF:100 < F) (M:List UInt8):∀ (fuel k:Nat),64 * k≤M.length->(M.length - 64 * k) / 64 < fuel ->
  iter (fun s:List UInt8×Vector UInt32 8=>L176_4 F s.1 s.2) fuel (M.drop (64 * k),hN F k M)=some (M.drop (64 * (M.length / 64)),hN F (M.length / 64) M)
 | 0,k,hk,hf=>absurd hf (by omega)
 | fuel + 1,k,hk,hf=>by
  by_cases h:64≤M.length - 64 * k
  ·have h1:((64:Int)≤((M.drop (64 * k)).length:Int)):=by simp;omega
   have g1:gsl (M.drop (64 * k)) (0:Int) (64:Int)=some ((M.drop (64 * k)).take 64):=gsl_nat (a:=0) (b:=64) (by omega) (by simp;omega)
   have g2:gsl (M.drop (64 * k)) (64:Int) ((M.drop (64 * k)).length:Int)=some (M.drop (64 * (k + 1))):=by
    have:=gsl_nat (l:=M.drop (64 * k)) (a:=64) (b:=(M.drop (64 * k)).length) (by simp;omega) (Nat.le_refl _)
    refine Eq.trans this ?_
    rw [List.take_of_length_le (by simp only [List.length_drop];omega),List.drop_drop]
    congr 2
   have step:L176_4 F (M.drop (64 * k)) (hN F k M)=some (.inl (M.drop (64 * (k + 1)),hN F (k + 1) M)):=by
    simp only [L176_4,L176_4c,h1,decide_true,cond_true,g1,g2,Option.bind_some,b91 hF (show ((M.drop (64 * k)).take 64).length=64 by simp;omega),hN]
   refine (it_again (f:=fun s:List UInt8×Vector UInt32 8=>L176_4 F s.1 s.2) (s:=(M.drop (64 * k),hN F k M)) step).trans ?_
   exact lp82 hF M fuel (k + 1) (by omega) (by omega)
  ·have h1:¬ ((64:Int)≤((M.drop (64 * k)).length:Int)):=by simp;omega
   have hk2:k=M.length / 64:=by omega
   have step:L176_4 F (M.drop (64 * k)) (hN F k M)=some (.inr (M.drop (64 * k),hN F k M)):=by
    simp only [L176_4,L176_4c,h1,decide_false,cond_false]
   refine (it_out (f:=fun s:List UInt8×Vector UInt32 8=>L176_4 F s.1 s.2) (s:=(M.drop (64 * k),hN F k M)) step).trans ?_
   rw [← hk2]
theorem tail82 {F:Nat} (hF:100 < F) (M:List UInt8) (hM:M.length < F) (b:Vector UInt8 64) {k:Nat} (hk:64 * k≤M.length) :
  iter (fun s:List UInt8×Vector UInt32 8=>L176_4 F s.1 s.2) F (M.drop (64 * k),hN F k M)=some (M.drop (64 * (M.length / 64)),hN F (M.length / 64) M) ∧
  (vspl b 0 (M.drop (64 * (M.length / 64))) (M.drop (64 * (M.length / 64))).length).toList.take (M.length % 64)=M.drop (64 * (M.length / 64)):=by
 refine ⟨lp82 hF M F k hk (by omega),?_⟩
 have hl:(M.drop (64 * (M.length / 64))).length=M.length % 64:=by simp;omega
 rw [vspl_toList (by omega) (Nat.le_refl _)]
 simp only [splice,List.take_zero,List.nil_append,List.take_length]
 rw [← hl,List.take_append_of_le_length (Nat.le_refl _),List.take_length]
theorem t82 {F:Nat} {m x:List UInt8} {h:Vector UInt32 8} {b:Vector UInt8 64} {n:Int} (hF:100 + m.length + x.length < F) (hb:m.length + x.length < 1000000000) (hI:Inv F m h b n) :
  ∃ h' b' n',T176 F x h b n=some (h',b',n')∧Inv F (m ++ x) h' b' n':=by
 obtain ⟨rfl,rfl,hr⟩:=hI
 have wn:w64 ((m.length:Int) + (x.length:Int))=((m ++ x).length:Int):=by rw [w64_in (by omega) (by omega)];simp
 have g0:gslb 64 (0:Int) ((64:Nat):Int)=some (0,64):=gslb_nat (a:=0) (by omega) (by omega)
 have hlen:(m ++ x).length=m.length + x.length:=by simp
 by_cases hu:m.length % 64=0
 ·have d:¬ ((0:Int) < ((m.length % 64:Nat):Int)):=by omega
  have s3:L176_3 F x ((m.length % 64:Nat):Int) false (hN F (m.length / 64) m) b=some (.inl (x,hN F (m.length / 64) m,b)):=by
   simp only [L176_3,L176_3c,cond_false]
  obtain ⟨q1,q2⟩:=tail82 (F:=F) (by omega) (m ++ x) (by omega) b (k:=m.length / 64) (by omega)
  have e1:(m ++ x).drop (64 * (m.length / 64))=x:=by
   rw [show 64 * (m.length / 64)=m.length by omega];simp
  rw [e1,hN_app F m x _ (by omega)] at q1
  have hmin:Nat.min ((m ++ x).drop (64 * ((m ++ x).length / 64))).length (64 - 0)=((m ++ x).drop (64 * ((m ++ x).length / 64))).length:=Nat.min_eq_left (by simp;omega)
  refine ⟨hN F ((m ++ x).length / 64) (m ++ x),vspl b 0 ((m ++ x).drop (64 * ((m ++ x).length / 64))) ((m ++ x).drop (64 * ((m ++ x).length / 64))).length,((m ++ x).length:Int),?_,rfl,rfl,q2⟩
  simp only [T176,T176c,tmod64,d,decide_false,s3,Option.bind_some,elimS,q1,g0,hmin,wn]
 ·have d:((0:Int) < ((m.length % 64:Nat):Int)):=by omega
  have g1:gslb 64 ((m.length % 64:Nat):Int) ((64:Nat):Int)=some (m.length % 64,64):=gslb_nat (by omega) (by omega)
  by_cases hc:x.length < 64 - m.length % 64
  ·have hmin:Nat.min x.length (64 - m.length % 64)=x.length:=Nat.min_eq_left (by omega)
   have g2:gsl x (x.length:Int) (x.length:Int)=some []:=by
    rw [gsl_nat (Nat.le_refl _) (Nat.le_refl _)];simp
   have w:w64 (((m.length % 64:Nat):Int) + (x.length:Int))=((m.length % 64 + x.length:Nat):Int):=by rw [w64_in (by omega) (by omega)];omega
   have d2:(((m.length % 64 + x.length:Nat):Int) < 64):=by omega
   have s3:L176_3 F x ((m.length % 64:Nat):Int) true (hN F (m.length / 64) m) b=some (.inr (vspl b (m.length % 64) x x.length)):=by
    simp only [L176_3,L176_3c,cond_true,g1,Option.bind_some,hmin,g2,w,d2,decide_true]
   refine ⟨hN F (m.length / 64) m,vspl b (m.length % 64) x x.length,((m ++ x).length:Int),?_,rfl,?_,?_⟩
   ·simp only [T176,T176c,tmod64,d,decide_true,s3,Option.bind_some,elimS,wn]
   ·rw [hlen,show (m.length + x.length) / 64=m.length / 64 by omega,hN_app F m x _ (by omega)]
   ·rw [hlen,show (m.length + x.length) / 64=m.length / 64 by omega,show (m.length + x.length) % 64=m.length % 64 + x.length by omega,vspl_toList (by omega) (Nat.le_refl _)]
    simp only [splice,List.take_length]
    rw [hr,List.drop_append_of_le_length (by omega)]
    rw [List.take_append_of_le_length (by simp;omega),List.take_of_length_le (by simp;omega)]
  ·have hmin:Nat.min x.length (64 - m.length % 64)=64 - m.length % 64:=Nat.min_eq_right (by omega)
   have g2:gsl x ((64 - m.length % 64:Nat):Int) (x.length:Int)=some (x.drop (64 - m.length % 64)):=by
    rw [gsl_nat (by omega) (Nat.le_refl _),List.take_of_length_le (by simp)]
   have w:w64 (((m.length % 64:Nat):Int) + ((64 - m.length % 64:Nat):Int))=64:=by rw [w64_in (by omega) (by omega)];omega
   have d2:¬ ((64:Int) < 64):=by omega
   have hbl:(vspl b (m.length % 64) x (64 - m.length % 64)).toList=((m ++ x).drop (64 * (m.length / 64))).take 64:=by
    rw [vspl_toList (by omega) (by omega)]
    simp only [splice]
    have hz:b.toList.drop (m.length % 64 + (64 - m.length % 64))=[]:=List.drop_of_length_le (by rw [Vector.length_toList];omega)
    have hdl:(m.drop (64 * (m.length / 64))).length=m.length % 64:=by rw [List.length_drop];omega
    rw [hr,hz,List.append_nil,List.drop_append_of_le_length (by omega),List.take_append,List.take_of_length_le (l:=m.drop (64 * (m.length / 64))) (by omega),hdl]
   have s3:L176_3 F x ((m.length % 64:Nat):Int) true (hN F (m.length / 64) m) b=some (.inl (x.drop (64 - m.length % 64),hN F (m.length / 64 + 1) (m ++ x),vspl b (m.length % 64) x (64 - m.length % 64))):=by
    simp only [L176_3,L176_3c,cond_true,g1,Option.bind_some,hmin,g2,w,d2,decide_false,cond_false,g0,b91v (show 100 < F by omega),hbl,hN,hN_app F m x (m.length / 64) (by omega)]
   obtain ⟨q1,q2⟩:=tail82 (F:=F) (by omega) (m ++ x) (by omega) (vspl b (m.length % 64) x (64 - m.length % 64)) (k:=m.length / 64 + 1) (by omega)
   have e1:(m ++ x).drop (64 * (m.length / 64 + 1))=x.drop (64 - m.length % 64):=by
    rw [List.drop_append,List.drop_of_length_le (by omega),List.nil_append]
    congr 1;omega
   rw [e1] at q1
   have hmin2:Nat.min ((m ++ x).drop (64 * ((m ++ x).length / 64))).length (64 - 0)=((m ++ x).drop (64 * ((m ++ x).length / 64))).length:=Nat.min_eq_left (by simp;omega)
   refine ⟨hN F ((m ++ x).length / 64) (m ++ x),vspl (vspl b (m.length % 64) x (64 - m.length % 64)) 0 ((m ++ x).drop (64 * ((m ++ x).length / 64))) ((m ++ x).drop (64 * ((m ++ x).length / 64))).length,((m ++ x).length:Int),?_,rfl,rfl,q2⟩
   simp only [T176,T176c,tmod64,d,decide_true,s3,Option.bind_some,elimS,q1,g0,hmin2,wn]
theorem gapp_okS {α:Type} {xs ys:List α} (h:xs.length + ys.length≤1099511627776):gapp xs ys=some (xs ++ ys):=by unfold gapp;rw [if_pos h]
theorem padz {F:Nat} {m:List UInt8} (hF:300 < F) (hb:m.length < 1000000000) (h:Vector UInt32 8) (b:Vector UInt8 64):∃ p:List UInt8,p.length≤64∧1≤p.length∧(m.length + p.length) % 64=56 ∧
  iter (fun s:List UInt8=>L177_4 F (h,b,(m.length:Int),()) s) F [(UInt8.ofNat 128)]=some p∧iter (fun s:List UInt8=>L145_3 F s) F (m ++ [(UInt8.ofNat 128)])=some (m ++ p):=by
 obtain ⟨r,r',b1,b2,b3,b4,b5⟩:=iter2 (f:=fun s:List UInt8=>L177_4 F (h,b,(m.length:Int),()) s) (g:=fun s:List UInt8=>L145_3 F s)
  (fun s t=>t=m ++ s∧1≤s.length∧s.length≤(119 - m.length % 64) % 64 + 1) (fun r r'=>r'=m ++ r∧(1≤r.length∧r.length≤64)∧(m.length + r.length) % 64=56) (fun s=>65 - s.length) (by
   rintro s t ⟨rfl,h1,h2⟩
   have w:w64 ((m.length:Int) + (s.length:Int))=((m.length + s.length:Nat):Int):=by rw [w64_in (by omega) (by omega)];omega
   have hl:((m ++ s).length:Int)=((m.length + s.length:Nat):Int):=by simp
   by_cases hc:(m.length + s.length) % 64=56
   ·have e:((((m.length + s.length) % 64:Nat):Int) != 56)=false:=by rw [hc];rfl
    refine .inr ⟨s,m ++ s,?_,?_,rfl,⟨h1,by omega⟩,hc⟩
    ·simp only [L177_4,L177_4c,w,tmod64,e,cond_false]
    ·simp only [L145_3,L145_3c,hl,tmod64,e,cond_false]
   ·have e:((((m.length + s.length) % 64:Nat):Int) != 56)=true:=by rw [bne_iff_ne];omega
    refine .inl ⟨s ++ [UInt8.ofNat 0],m ++ s ++ [UInt8.ofNat 0],?_,?_,⟨by simp,by simp,?_⟩,?_⟩
    ·simp only [L177_4,L177_4c,w,tmod64,e,cond_true,gapp_okS (show s.length + [UInt8.ofNat 0].length≤1099511627776 by simp;omega),Option.bind_some]
    ·simp only [L145_3,L145_3c,hl,tmod64,e,cond_true,gapp_okS (show (m ++ s).length + [UInt8.ofNat 0].length≤1099511627776 by simp;omega),Option.bind_some]
    ·simp only [List.length_append,List.length_cons,List.length_nil];omega
    ·simp only [List.length_append,List.length_cons,List.length_nil];omega) F F [(UInt8.ofNat 128)] (m ++ [(UInt8.ofNat 128)]) ⟨rfl,by simp,by simp⟩ (by simp;omega) (by simp;omega)
 subst b3
 exact ⟨r,b4.2,b4.1,b5,b1,b2⟩
theorem padc {F:Nat} {m p:List UInt8} (hF:300 < F) (hb:m.length < 1000000000) (hp:p.length≤64) (c:UInt64):∃ q:List UInt8,q.length=p.length + 8 ∧
  iter (fun s:Int×List UInt8=>L177_5 F c s.1 s.2) F ((56:Int),p)=some q∧iter (fun s:Int×List UInt8=>L145_4 F c s.1 s.2) F ((7:Int),m ++ p)=some (m ++ q):=by
 obtain ⟨r,r',b1,b2,b3,b4⟩:=iter2 (f:=fun s:Int×List UInt8=>L177_5 F c s.1 s.2) (g:=fun s:Int×List UInt8=>L145_4 F c s.1 s.2)
  (fun s t=>∃ i:Nat,i≤8∧s.1=8 * (i:Int) - 8∧t.1=(i:Int) - 1∧t.2=m ++ s.2∧s.2.length + i=p.length + 8) (fun r r'=>r'=m ++ r∧r.length=p.length + 8) (fun s=>(s.1 + 8).toNat) (by
   rintro ⟨a,s⟩ ⟨a',t⟩ ⟨i,h8,h1,h2,h3,h4⟩
   simp only at h1 h2 h3 h4
   subst h1 h2 h3
   cases i with
   | zero=>
    refine .inr ⟨s,m ++ s,?_,?_,rfl,by omega⟩
    ·have d:¬ ((0:Int)≤8 * ((0:Nat):Int) - 8):=by omega
     simp only [L177_5,L177_5c,d,decide_false,cond_false]
    ·have d:¬ ((0:Int)≤((0:Nat):Int) - 1):=by omega
     simp only [L145_4,L145_4c,d,decide_false,cond_false]
   | succ i=>
    have e1:8 * ((i + 1:Nat):Int) - 8=((8 * i:Nat):Int):=by omega
    have e2:((i + 1:Nat):Int) - 1=((i:Nat):Int):=by omega
    rw [e1,e2]
    have d1:((0:Int)≤((8 * i:Nat):Int)):=by omega
    have d2:((0:Int)≤((i:Nat):Int)):=by omega
    have n1:gnn ((8 * i:Nat):Int)=some (8 * i):=by unfold gnn;rw [if_pos d1];simp only [Int.toNat_natCast]
    have w0:w64 ((8:Int) * ((i:Nat):Int))=((8 * i:Nat):Int):=by rw [w64_in (by omega) (by omega)];omega
    have w1:w64 (((8 * i:Nat):Int) - 8)=8 * (i:Int) - 8:=by rw [w64_in (by omega) (by omega)];omega
    have w2:w64 (((i:Nat):Int) - 1)=(i:Int) - 1:=by rw [w64_in (by omega) (by omega)]
    refine .inl ⟨(8 * (i:Int) - 8,s ++ [(shr64 c (8 * i)).toUInt8]),((i:Int) - 1,m ++ s ++ [(shr64 c (8 * i)).toUInt8]),?_,?_,⟨i,by omega,rfl,rfl,by simp,by simp;omega⟩,?_⟩
    ·simp only [L177_5,L177_5c,d1,decide_true,cond_true,n1,Option.bind_some,gapp_okS (show s.length + [(shr64 c (8 * i)).toUInt8].length≤1099511627776 by simp;omega),w1]
    ·simp only [L145_4,L145_4c,d2,decide_true,cond_true,w0,n1,Option.bind_some,gapp_okS (show (m ++ s).length + [(shr64 c (8 * i)).toUInt8].length≤1099511627776 by simp;omega),w2]
    ·simp only;omega) F F ((56:Int),p) ((7:Int),m ++ p) ⟨8,by omega,by omega,by omega,rfl,rfl⟩ (by simp only;omega) (by simp only;omega)
 subst b3
 exact ⟨r,b4,b1,b2⟩
theorem outs {F:Nat} (hF:300 < F) (h:Vector UInt32 8):∃ d:List UInt8,d.length=32∧iter (fun s:Int×List UInt8=>L177_6 F h s.1 s.2) F ((0:Int),([]:List UInt8))=some d∧iter (fun s:Int×List UInt8=>L101_4 F h s.1 s.2) F ((0:Int),([]:List UInt8))=some d:=by
 obtain ⟨r,r',b1,b2,b3,b4⟩:=iter2 (f:=fun s:Int×List UInt8=>L177_6 F h s.1 s.2) (g:=fun s:Int×List UInt8=>L101_4 F h s.1 s.2)
  (fun s t=>s=t∧∃ i:Nat,s.1=i∧i≤8∧s.2.length=4 * i) (fun r r'=>r'=r∧r.length=32) (fun s=>8 - s.1.toNat) (by
   rintro ⟨a,s⟩ t ⟨rfl,i,hi,h8,hl⟩
   simp only at hi hl
   subst hi
   by_cases hlt:i < 8
   ·have h1:(((i:Nat):Int) < 8):=by omega
    have e3:w64 (((i:Nat):Int) + 1)=((i + 1:Nat):Int):=by rw [w64_in (by omega) (by omega)];omega
    have n:inb 8 ((i:Nat):Int)=some i:=inb_nat hlt
    have ga:gapp s [((shr32 h[i] ((UInt64.ofNat 24).toNat)).toUInt8),((shr32 h[i] ((UInt64.ofNat 16).toNat)).toUInt8),((shr32 h[i] ((UInt64.ofNat 8).toNat)).toUInt8),(h[i].toUInt8)]=some (s ++ [((shr32 h[i] ((UInt64.ofNat 24).toNat)).toUInt8),((shr32 h[i] ((UInt64.ofNat 16).toNat)).toUInt8),((shr32 h[i] ((UInt64.ofNat 8).toNat)).toUInt8),(h[i].toUInt8)]):=gapp_okS (by simp [hl];omega)
    refine .inl ⟨(((i + 1:Nat):Int),s ++ [((shr32 h[i] ((UInt64.ofNat 24).toNat)).toUInt8),((shr32 h[i] ((UInt64.ofNat 16).toNat)).toUInt8),((shr32 h[i] ((UInt64.ofNat 8).toNat)).toUInt8),(h[i].toUInt8)]),(((i + 1:Nat):Int),s ++ [((shr32 h[i] ((UInt64.ofNat 24).toNat)).toUInt8),((shr32 h[i] ((UInt64.ofNat 16).toNat)).toUInt8),((shr32 h[i] ((UInt64.ofNat 8).toNat)).toUInt8),(h[i].toUInt8)]),?_,?_,⟨rfl,i + 1,rfl,by omega,?_⟩,by simp only [Int.toNat_natCast];omega⟩
    ·simp only [L177_6,L177_6c,h1,decide_true,cond_true,vix_nat (v:=h) hlt,Option.bind_some,ga,e3]
    ·simp only [L101_4,L101_4c,h1,decide_true,cond_true,n,vat_nat (v:=h) hlt,Option.bind_some,ga,e3]
    ·simp [hl];omega
   ·obtain rfl:i=8:=by omega
    exact .inr ⟨s,s,rfl,rfl,rfl,hl⟩) F F ((0:Int),([]:List UInt8)) ((0:Int),([]:List UInt8)) ⟨rfl,0,rfl,by omega,rfl⟩ (by simp only [Int.toNat_zero];omega) (by simp only [Int.toNat_zero];omega)
 subst b3
 exact ⟨r',b4,b1,b2⟩
theorem lp68 {F:Nat} (hF:100 < F) {M:List UInt8} {K:Nat} (hM:M.length=64 * K) (hb:M.length < 2000000000):∀ (j fuel k:Nat),k + j=K->j < fuel ->
  iter (fun s:Int×Vector UInt32 8=>L101_3 F M s.1 s.2) fuel (((64 * k:Nat):Int),hN F k M)=some (hN F K M)
 | j,0,k,hk,hf=>absurd hf (by omega)
 | 0,fuel + 1,k,hk,hf=>by
  have h1:¬ (((64 * k:Nat):Int) < (M.length:Int)):=by omega
  obtain rfl:k=K:=by omega
  have step:L101_3 F M ((64 * k:Nat):Int) (hN F k M)=some (.inr (hN F k M)):=by
   simp only [L101_3,L101_3c,h1,decide_false,cond_false]
  exact it_out (f:=fun s:Int×Vector UInt32 8=>L101_3 F M s.1 s.2) (s:=(((64 * k:Nat):Int),hN F k M)) step
 | j + 1,fuel + 1,k,hk,hf=>by
  have h1:(((64 * k:Nat):Int) < (M.length:Int)):=by omega
  have w:w64 (((64 * k:Nat):Int) + 64)=((64 * (k + 1):Nat):Int):=by rw [w64_in (by omega) (by omega)];omega
  have g:gslb M.length ((64 * k:Nat):Int) ((64 * (k + 1):Nat):Int)=some (64 * k,64 * (k + 1)):=gslb_nat (by omega) (by omega)
  have e:64 * (k + 1) - 64 * k=64:=by omega
  have step:L101_3 F M ((64 * k:Nat):Int) (hN F k M)=some (.inl (((64 * (k + 1):Nat):Int),hN F (k + 1) M)):=by
   simp only [L101_3,L101_3c,h1,decide_true,cond_true,w,g,Option.bind_some,e,b85 hF (show ((M.drop (64 * k)).take 64).length=64 by simp;omega),hN]
  refine (it_again (f:=fun s:Int×Vector UInt32 8=>L101_3 F M s.1 s.2) (s:=(((64 * k:Nat):Int),hN F k M)) step).trans ?_
  exact lp68 hF hM hb j fuel (k + 1) (by omega) (by omega)
theorem sum_eq {F:Nat} {m:List UInt8} {h:Vector UInt32 8} {b:Vector UInt8 64} {n:Int} (hF:400 + m.length < F) (hb:m.length < 100000000) (hI:Inv F m h b n) :
  ∃ d,T177 F (h,b,n,())=some d∧T101 F m=some d∧d.length=32:=by
 have hn:=hI.len
 subst hn
 obtain ⟨p,p1,p2,p3,p4,p5⟩:=padz (F:=F) (m:=m) (by omega) (by omega) h b
 obtain ⟨q,q1,q2,q3⟩:=padc (F:=F) (m:=m) (p:=p) (by omega) (by omega) p1 ((UInt64.ofInt (m.length:Int)) * (UInt64.ofNat 8))
 obtain ⟨h',b',n',t1,t2⟩:=t82 (x:=q) (by omega) (by omega) hI
 obtain ⟨d,d1,d2,d3⟩:=outs (F:=F) (by omega) h'
 have g0:gmake (0:UInt8) (0:Int) (32:Int)=some []:=by decide +kernel
 have hl:(m ++ q).length=m.length + q.length:=by simp
 have hK:(m ++ q).length=64 * ((m ++ q).length / 64):=by omega
 have l:=lp68 (F:=F) (by omega) hK (by omega) ((m ++ q).length / 64) F 0 (by omega) (by omega)
 rw [← t2.words] at l
 refine ⟨d,?_,?_,d1⟩
 ·simp only [T177,T177c,p4,Option.bind_some,q2,t1,g0,d2]
 ·have ga:gapp ([]:List UInt8) m=some m:=by rw [gapp_okS (by simp;omega)];rfl
  have gb:gapp m [UInt8.ofNat 128]=some (m ++ [UInt8.ofNat 128]):=gapp_okS (by simp;omega)
  have h84:T145 F m=some (m ++ q):=by
   simp only [T145,T145c,ga,gb,Option.bind_some,p5,q3]
  simp only [T101,T101c,h84,Option.bind_some]
  refine Eq.trans (congrArg (fun o=>Option.bind o _) l) ?_
  simp only [Option.bind_some,d3]
theorem inv0 (F:Nat):Inv F [] gv1 (Vector.replicate 64 (0:UInt8)) 0:=⟨rfl,rfl,rfl⟩
theorem t79 {F:Nat} {ls:List (List UInt8)} (hF:400 + ls.flatten.length + ls.length < F) (hb:ls.flatten.length < 100000000) (hl:ls.length < 1000):∃ d,T173 F ls=some d∧T101 F ls.flatten=some d∧d.length=32:=by
 obtain ⟨r,b1,b2⟩:=iter1 (f:=fun s:Int×Vector UInt32 8×Vector UInt8 64×Int=>L173_2 F ls (ls.length:Int) s.1 s.2.1 s.2.2.1 s.2.2.2)
  (fun s=>∃ i:Nat,s.1=i∧i≤ls.length∧Inv F (ls.take i).flatten s.2.1 s.2.2.1 s.2.2.2) (fun r=>Inv F ls.flatten r.1 r.2.1 r.2.2) (fun s=>ls.length - s.1.toNat) (by
   rintro ⟨a,h,b,n⟩ ⟨i,hi,hil,hI⟩
   simp only at hi hI
   subst hi
   by_cases hlt:i < ls.length
   ·have h1:(((i:Nat):Int) < (ls.length:Int)):=by omega
    have e3:w64 (((i:Nat):Int) + 1)=((i + 1:Nat):Int):=by rw [w64_in (by omega) (by omega)];omega
    have hs:(ls.take (i + 1)).flatten=(ls.take i).flatten ++ ls[i]:=by
     rw [List.take_succ_eq_append_getElem hlt,List.flatten_append];simp
    have hle:(ls.take (i + 1)).flatten.length≤ls.flatten.length:=by
     conv=>rhs;rw [← List.take_append_drop (i + 1) ls,List.flatten_append,List.length_append]
     omega
    rw [hs,List.length_append] at hle
    have gs:gstr ls[i]=some ls[i]:=by unfold gstr;rw [if_pos (by omega)]
    obtain ⟨h',b',n',t1,t2⟩:=t82 (x:=ls[i]) (by omega) (by omega) hI
    refine .inl ⟨(((i + 1:Nat):Int),h',b',n'),?_,⟨i + 1,rfl,by omega,?_⟩,by simp only [Int.toNat_natCast];omega⟩
    ·simp only [L173_2,L173_2c,h1,decide_true,cond_true,ix_nat hlt,Option.bind_some,gs,t1,e3]
    ·rw [hs];exact t2
   ·obtain rfl:i=ls.length:=by omega
    have h1:¬ (((ls.length:Nat):Int) < (ls.length:Int)):=by omega
    rw [List.take_length] at hI
    refine .inr ⟨(h,b,n),?_,hI⟩
    simp only [L173_2,L173_2c,h1,decide_false,cond_false]) F ((0:Int),gv1,Vector.replicate 64 (0:UInt8),(0:Int)) ⟨0,rfl,by omega,inv0 F⟩ (by simp only [Int.toNat_zero];omega)
 obtain ⟨d,d1,d2,d3⟩:=sum_eq (by omega) hb b2
 refine ⟨d,?_,d2,d3⟩
 simp only [T173,T173c,T175,T175c,Option.bind_some,b1,d1]
def xk (k:List UInt8) (x:UInt8):List UInt8:=(k ++ List.replicate (64 - k.length) 0).map (fun y=>y ^^^ x)
theorem xk_len {k:List UInt8} (h:k.length≤64) (x:UInt8):(xk k x).length=64:=by simp [xk];omega
theorem t80 {F:Nat} (hF:400 < F) (x:UInt8) (v:Vector UInt8 64):∃ r,T174 F x v=some r∧r.toList=v.toList.map (fun y=>y ^^^ x):=by
 obtain ⟨r,b1,b2⟩:=iter1 (f:=fun s:Int×Vector UInt8 64=>L174_2 F x v s.1 s.2)
  (fun s=>∃ i:Nat,s.1=i∧i≤64∧∀ j (hj:j < 64),j < i->s.2[j]=v[j] ^^^ x) (fun r=>r.toList=v.toList.map (fun y=>y ^^^ x)) (fun s=>64 - s.1.toNat) (by
   rintro ⟨a,u⟩ ⟨i,hi,h64,hu⟩
   simp only at hi hu
   subst hi
   by_cases h:i < 64
   ·have h1:(((i:Nat):Int) < 64):=by omega
    have e3:w64 (((i:Nat):Int) + 1)=((i + 1:Nat):Int):=by rw [w64_in (by omega) (by omega)];omega
    have n:inb 64 ((i:Nat):Int)=some i:=inb_nat h
    refine .inl ⟨(((i + 1:Nat):Int),u.setIfInBounds i (v[i] ^^^ x)),?_,⟨i + 1,rfl,by omega,fun j hj hji=>?_⟩,by simp only [Int.toNat_natCast];omega⟩
    ·simp only [L174_2,L174_2c,h1,decide_true,cond_true,vix_nat (v:=v) h,n,Option.bind_some,e3]
    ·simp only [Vector.getElem_setIfInBounds]
     by_cases e:i=j
     ·subst e;simp only [if_true]
     ·rw [if_neg e];exact hu j hj (by omega)
   ·obtain rfl:i=64:=by omega
    refine .inr ⟨u,rfl,?_⟩
    apply List.ext_getElem (by simp)
    intro j h1 h2
    simp only [Vector.getElem_toList,List.getElem_map]
    have hj:j < 64:=by simpa using h1
    exact hu j hj hj) F ((0:Int),Vector.replicate 64 (0:UInt8)) ⟨0,rfl,by omega,fun j hj h0=>absurd h0 (by omega)⟩ (by simp only [Int.toNat_zero];omega)
 exact ⟨r,by simp only [T174,T174c,b1,Option.bind_some],b2⟩
theorem filled {k:List UInt8} (h:k.length≤64):(vspl (Vector.replicate 64 (0:UInt8)) 0 k k.length).toList=k ++ List.replicate (64 - k.length) 0:=by
 rw [vspl_toList (by omega) (Nat.le_refl _),Vector.toList_replicate]
 simp only [splice,List.take_zero,List.nil_append,List.take_length,Nat.zero_add,List.drop_replicate]
theorem t69 {F:Nat} (hF:400 < F) {k:List UInt8} (hk:k.length≤64) (x:UInt8):T102 F k x=some (xk k x):=by
 obtain ⟨r,b1,b2⟩:=iter1 (f:=fun s:Int×List UInt8=>L102_2 F k x s.1 s.2)
  (fun s=>∃ i:Nat,s.1=i∧i≤64∧s.2=(xk k x).take i) (fun r=>r=xk k x) (fun s=>64 - s.1.toNat) (by
   rintro ⟨a,u⟩ ⟨i,hi,h64,hu⟩
   simp only at hi hu
   subst hi hu
   have xl:=xk_len hk x
   by_cases h:i < 64
   ·have h1:(((i:Nat):Int) < 64):=by omega
    have e3:w64 (((i:Nat):Int) + 1)=((i + 1:Nat):Int):=by rw [w64_in (by omega) (by omega)];omega
    have hs:(xk k x).take (i + 1)=(xk k x).take i ++ [(xk k x)[i]]:=List.take_succ_eq_append_getElem (by omega)
    have ga:gapp ((xk k x).take i) [(xk k x)[i]]=some ((xk k x).take (i + 1)):=by rw [gapp_okS (by simp;omega),hs]
    refine .inl ⟨(((i + 1:Nat):Int),(xk k x).take (i + 1)),?_,⟨i + 1,rfl,by omega,rfl⟩,by simp only [Int.toNat_natCast];omega⟩
    by_cases hik:i < k.length
    ·have h2:(((i:Nat):Int) < (k.length:Int)):=by omega
     have hx:(xk k x)[i]=k[i] ^^^ x:=by simp [xk,List.getElem_append,hik]
     rw [hx] at ga
     simp only [L102_2,L102_2c,h1,h2,decide_true,cond_true,ix_nat hik,Option.bind_some,ga,e3]
    ·have h2:¬ (((i:Nat):Int) < (k.length:Int)):=by omega
     have hx:(xk k x)[i]=(UInt8.ofNat 0) ^^^ x:=by simp [xk,List.getElem_append,hik]
     rw [hx] at ga
     simp only [L102_2,L102_2c,h1,h2,decide_true,decide_false,cond_true,cond_false,Option.bind_some,ga,e3]
   ·obtain rfl:i=64:=by omega
    exact .inr ⟨(xk k x).take 64,rfl,List.take_of_length_le (by omega)⟩) F ((0:Int),([]:List UInt8)) ⟨0,rfl,by omega,by simp⟩ (by simp only [Int.toNat_zero];omega)
 subst b2
 simp only [T102,T102c,b1,Option.bind_some]
theorem start65 {F:Nat} (hF:2000 < F) {k:List UInt8} (hk:k.length≤64):∃ o i h b n,T174 F 92 (vspl (Vector.replicate 64 (0:UInt8)) 0 k (Nat.min k.length (64 - 0)))=some o∧T174 F 54 (vspl (Vector.replicate 64 (0:UInt8)) 0 k (Nat.min k.length (64 - 0)))=some i ∧
  T176x1 F ((i.toList.drop 0).take (64 - 0)) gv1 (Vector.replicate 64 (0:UInt8)) 0=some (h,b,n)∧Inv F (xk k 54) h b n∧o.toList=xk k 92:=by
 have hmin:Nat.min k.length (64 - 0)=k.length:=Nat.min_eq_left (by omega)
 rw [hmin]
 obtain ⟨o,o1,o2⟩:=t80 (F:=F) (by omega) 92 (vspl (Vector.replicate 64 (0:UInt8)) 0 k k.length)
 obtain ⟨i,i1,i2⟩:=t80 (F:=F) (by omega) 54 (vspl (Vector.replicate 64 (0:UInt8)) 0 k k.length)
 rw [filled hk] at o2 i2
 have xl:=xk_len hk 54
 obtain ⟨h,b,n,t1,t2⟩:=t82 (F:=F) (m:=[]) (x:=xk k 54) (by simp only [List.length_nil];omega) (by simp only [List.length_nil];omega) (inv0 F)
 rw [List.nil_append] at t2
 refine ⟨o,i,h,b,n,o1,i1,?_,t2,o2⟩
 rw [i2,x82_eq]
 have e:(((k ++ List.replicate (64 - k.length) 0).map (fun y=>y ^^^ (54:UInt8))).drop 0).take (64 - 0)=xk k 54:=by
  rw [List.drop_zero,List.take_of_length_le (by simp;omega)];rfl
 rw [e,t1]
theorem v0_0:vix gv0 (0:Int)=some 54:=rfl
theorem v0_1:vix gv0 (1:Int)=some 92:=rfl
theorem tag_eq {F:Nat} {k d:List UInt8} (hF:2000 + k.length + d.length < F) (hk:k.length < 10000000) (hd:d.length < 10000000):∃ t,T96 F k d=some t∧T35 F k d=some t∧t.length=32:=by
 have g0:gslb 64 (0:Int) ((64:Nat):Int)=some (0,64):=gslb_nat (a:=0) (by omega) (by omega)
 have key:∀ k':List UInt8,k'.length≤64->∃ h b n o t inner,(T174 F 92 (vspl (Vector.replicate 64 (0:UInt8)) 0 k' (Nat.min k'.length (64 - 0)))=some o∧∃ i,T174 F 54 (vspl (Vector.replicate 64 (0:UInt8)) 0 k' (Nat.min k'.length (64 - 0)))=some i ∧
   T176x1 F ((i.toList.drop 0).take (64 - 0)) gv1 (Vector.replicate 64 (0:UInt8)) 0=some (h,b,n))∧(∃ z,T141 F d h b n=some z∧T142 F z.1 z.2.1 z.2.2 o=some t) ∧
   T101 F (xk k' 54 ++ d)=some inner∧inner.length=32∧T101 F (xk k' 92 ++ inner)=some t∧t.length=32:=by
  intro k' hk'
  obtain ⟨o,i,h,b,n,o1,i1,s1,s2,s3⟩:=start65 (F:=F) (by omega) hk'
  have xl:=xk_len hk' 54
  have xl2:=xk_len hk' 92
  obtain ⟨h2,b2,n2,u1,u2⟩:=t82 (F:=F) (x:=d) (by omega) (by omega) s2
  obtain ⟨inner,v1,v2,v3⟩:=sum_eq (F:=F) (by simp only [List.length_append];omega) (by simp only [List.length_append];omega) u2
  obtain ⟨t,w1,w2,w3⟩:=t79 (F:=F) (ls:=[xk k' 92,inner]) (by simp only [List.flatten_cons,List.flatten_nil,List.length_append,List.length_cons,List.length_nil];omega) (by simp only [List.flatten_cons,List.flatten_nil,List.length_append,List.length_nil];omega) (by simp)
  have hfl:[xk k' 92,inner].flatten=xk k' 92 ++ inner:=by simp
  rw [hfl] at w2
  refine ⟨h,b,n,o,t,inner,⟨o1,i,i1,s1⟩,⟨(h2,b2,n2),?_,?_⟩,v2,v3,w2,w3⟩
  ·simp only [T141,T141c,x82_eq,u1,Option.bind_some]
  ·have e:(o.toList.drop 0).take (64 - 0)=xk k' 92:=by rw [s3,List.drop_zero,List.take_of_length_le (by omega)]
   simp only [T142,T142c,g0,Option.bind_some,v1,e,w1]
 by_cases hlong:64 < k.length
 ·have h1:((64:Int) < (k.length:Int)):=by omega
  obtain ⟨k',a1,a2,a3⟩:=t79 (F:=F) (ls:=[k]) (by simp;omega) (by simp;omega) (by simp)
  have hfl:[k].flatten=k:=by simp
  rw [hfl] at a2
  obtain ⟨h,b,n,o,t,inner,⟨o1,i,i1,s1⟩,⟨z,z1,z2⟩,c1,c2,c3,c4⟩:=key k' (by omega)
  have xl:=xk_len (k:=k') (by omega) 54
  have xl2:=xk_len (k:=k') (by omega) 92
  have h65:T140 F k=some (h,b,n,o):=by
   simp only [T140,T140c,h1,decide_true,cond_true,a1,Option.bind_some,g0,v0_0,v0_1,T175,T175c,o1,i1,s1]
  refine ⟨t,?_,?_,c4⟩
  ·simp only [T96,T96c,h65,Option.bind_some,z1,z2]
  ·have gs:gstr k=some k:=by unfold gstr;rw [if_pos (by omega)]
   have gi:gstr inner=some inner:=by unfold gstr;rw [if_pos (by omega)]
   have q1:T102 F k' (UInt8.ofNat 54)=some (xk k' 54):=t69 (by omega) (by omega) _
   have q2:T102 F k' (UInt8.ofNat 92)=some (xk k' 92):=t69 (by omega) (by omega) _
   simp only [T35,T35c,h1,decide_true,cond_true,gs,Option.bind_some,a2,q1,q2,gapp_okS (show (xk k' 54).length + d.length≤1099511627776 by omega),c1,gi,gapp_okS (show (xk k' 92).length + inner.length≤1099511627776 by omega),c3]
 ·have h1:¬ ((64:Int) < (k.length:Int)):=by omega
  obtain ⟨h,b,n,o,t,inner,⟨o1,i,i1,s1⟩,⟨z,z1,z2⟩,c1,c2,c3,c4⟩:=key k (by omega)
  have xl:=xk_len (k:=k) (by omega) 54
  have xl2:=xk_len (k:=k) (by omega) 92
  have h65:T140 F k=some (h,b,n,o):=by
   simp only [T140,T140c,h1,decide_false,cond_false,Option.bind_some,g0,v0_0,v0_1,T175,T175c,o1,i1,s1]
  refine ⟨t,?_,?_,c4⟩
  ·simp only [T96,T96c,h65,Option.bind_some,z1,z2]
  ·have gi:gstr inner=some inner:=by unfold gstr;rw [if_pos (by omega)]
   have q1:T102 F k (UInt8.ofNat 54)=some (xk k 54):=t69 (by omega) (by omega) _
   have q2:T102 F k (UInt8.ofNat 92)=some (xk k 92):=t69 (by omega) (by omega) _
   simp only [T35,T35c,h1,decide_false,cond_false,Option.bind_some,q1,q2,gapp_okS (show (xk k 54).length + d.length≤1099511627776 by omega),c1,gi,gapp_okS (show (xk k 92).length + inner.length≤1099511627776 by omega),c3]
theorem e7 (F:Nat):L144_7 F=L103_7 F:=rfl
theorem e8 (F:Nat):L144_8 F=L103_8 F:=rfl
abbrev Bs:=List UInt8
abbrev Rf:=List UInt8×Int×Int×Unit
abbrev RS:=Option Bs
theorem ixG {α:Type} {l:List α} {i:Nat} (h:i < l.length):ix l ((i:Nat):Int)=some l[i]:=ix_nat h
theorem w64s {n:Nat} (h:n < 1000000000):w64 (((n:Nat):Int) + 1)=((n + 1:Nat):Int):=by rw [w64_in (by omega) (by omega)];omega
abbrev Val:=Int×UInt64×Int×Bool×List UInt8×Int×Unit
def vI (n:Int):Val:=(2,0,n,false,[],0,())
def vB (b:Bool):Val:=(3,0,0,b,[],0,())
def vS (s:Bs):Val:=(6,0,0,false,s,0,())
def vRf (r:Rf):List Val:=[vS r.1,vI r.2.1,vI r.2.2.1]
theorem t63 (F:Nat) (r:Rf):T63 F r.1 r.2.1 r.2.2.1=some (vRf r):=rfl
theorem inbn {n i:Nat} (h:i < n):inb n ((i:Nat):Int)=some i:=by
 unfold inb;rw [if_pos (by omega)];simp only [Int.toNat_natCast]
end Go.Proofs.YthikoaamigiceaaGreatDoor
namespace Go.Proofs.YthikoaamigiceaaGreatDoor
open Go.Tw
set_option linter.unusedSimpArgs false
set_option linter.unusedVariables false
variable {F:Nat} {b:Bs} {s:RS} {o e:Int}
end Go.Proofs.YthikoaamigiceaaGreatDoor
namespace Go.Proofs.YthikoaamigiceaaGreatDoor
open Go.Tw
set_option linter.unusedSimpArgs false
set_option linter.unusedVariables false
variable {F:Nat} {b:Bs} {s:RS} {o e:Int}
theorem gsl_ok {α:Type} {b:List α} {n k:Nat} (h:n + k≤b.length):gsl b (n:Int) ((n + k:Nat):Int)=some ((b.drop n).take k):=by
 unfold gsl;rw [if_pos (by omega),Int.toNat_natCast,Int.toNat_natCast,Nat.add_sub_cancel_left]
end Go.Proofs.YthikoaamigiceaaGreatDoor
namespace Go.Proofs.YthikoaamigiceaaGreatDoor
open Go.Tw
set_option linter.unusedSimpArgs false
set_option linter.unusedVariables false
variable {F:Nat} {b:Bs} {s:RS} {o e:Int}
end Go.Proofs.YthikoaamigiceaaGreatDoor
namespace Go.Proofs.YthikoaamigiceaaGreatDoor
open Go.Tw
set_option linter.unusedSimpArgs false
set_option linter.unusedVariables false
end Go.Proofs.YthikoaamigiceaaGreatDoor
namespace Go.Tw
set_option linter.unusedSimpArgs false
set_option linter.unusedVariables false
def gd (x:UInt8):UInt8:=bif (x &&& 128) != 0 then (x <<< 1) ^^^ 29 else x <<< 1
def bit0 (b a:UInt8):UInt8:=bif (b &&& 1) == 1 then a else 0
def gml:Nat->UInt8->UInt8->UInt8
 | 0,_,_=>0
 | n + 1,a,b=>bit0 b a ^^^ gml n (gd a) (b >>> 1)
def gm (a b:UInt8):UInt8:=gml 8 a b
theorem allU {p:UInt8->Prop} (h:∀ i:_root_.Fin 256,p (UInt8.ofNat i.val)) (x:UInt8):p x:=by
 have:=h ⟨x.toNat,x.toNat_lt⟩
 simpa using this
theorem lo1 (b:UInt8):b &&& 1=0∨b &&& 1=1:=allU (p:=fun b=>b &&& 1=0∨b &&& 1=1) (by decide +kernel) b
theorem hi1 (b:UInt8):b &&& 128=0∨b &&& 128=128:=allU (p:=fun b=>b &&& 128=0∨b &&& 128=128) (by decide +kernel) b
theorem and_xor (a b c:UInt8):(a ^^^ b) &&& c=(a &&& c) ^^^ (b &&& c):=by
 apply UInt8.toBitVec_inj.1
 simp only [UInt8.toBitVec_and,UInt8.toBitVec_xor]
 ext i hi
 simp [Bool.and_xor_distrib_right]
theorem shr_xor (a b:UInt8):(a ^^^ b) >>> 1=(a >>> 1) ^^^ (b >>> 1):=by
 apply UInt8.toBitVec_inj.1
 simp only [UInt8.toBitVec_shiftRight,UInt8.toBitVec_xor]
 ext i hi
 simp
theorem shl_xor (a b:UInt8):(a ^^^ b) <<< 1=(a <<< 1) ^^^ (b <<< 1):=by
 apply UInt8.toBitVec_inj.1
 simp only [UInt8.toBitVec_shiftLeft,UInt8.toBitVec_xor]
 ext i hi
 simp [Bool.and_xor_distrib_left]
theorem xz (a:UInt8):a ^^^ 0=a:=by simp
theorem zx (a:UInt8):0 ^^^ a=a:=by simp
theorem xx (a:UInt8):a ^^^ a=0:=by simp
theorem gd_xor (a b:UInt8):gd (a ^^^ b)=gd a ^^^ gd b:=by
 have e1:((0:UInt8) != 0)=false:=rfl
 have e2:((128:UInt8) != 0)=true:=rfl
 have e3:((128 ^^^ 128:UInt8) != 0)=false:=rfl
 have e4:((0 ^^^ 128:UInt8) != 0)=true:=rfl
 have e5:((128 ^^^ 0:UInt8) != 0)=true:=rfl
 have e6:((0 ^^^ 0:UInt8) != 0)=false:=rfl
 unfold gd
 rw [and_xor,shl_xor]
 rcases hi1 a with ha | ha<;>rcases hi1 b with hb | hb<;>rw [ha,hb]<;>simp only [e1,e2,e3,e4,e5,e6,cond_true,cond_false]
 ·rw [UInt8.xor_assoc]
 ·rw [UInt8.xor_assoc,UInt8.xor_assoc,UInt8.xor_comm (b <<< (1:UInt8)) (29:UInt8)]
 ·have:((a <<< (1:UInt8)) ^^^ (29:UInt8)) ^^^ ((b <<< (1:UInt8)) ^^^ (29:UInt8))=((a <<< (1:UInt8)) ^^^ (b <<< (1:UInt8))) ^^^ ((29:UInt8) ^^^ 29):=by ac_rfl
  rw [this,xx,xz]
theorem bit0_xor (b c a:UInt8):bit0 (b ^^^ c) a=bit0 b a ^^^ bit0 c a:=by
 have e1:((0:UInt8) == 1)=false:=rfl
 have e2:((1:UInt8) == 1)=true:=rfl
 have e3:((1 ^^^ 1:UInt8) == 1)=false:=rfl
 have e4:((0 ^^^ 1:UInt8) == 1)=true:=rfl
 have e5:((1 ^^^ 0:UInt8) == 1)=true:=rfl
 have e6:((0 ^^^ 0:UInt8) == 1)=false:=rfl
 unfold bit0
 rw [and_xor]
 rcases lo1 b with hb | hb<;>rcases lo1 c with hc | hc<;>rw [hb,hc]<;>simp only [e1,e2,e3,e4,e5,e6,cond_true,cond_false,xx,xz,zx]
theorem bit0_add (b a c:UInt8):bit0 b (a ^^^ c)=bit0 b a ^^^ bit0 b c:=by
 unfold bit0
 cases (b &&& 1) == 1
 ·simp only [cond_false,xx]
 ·rfl
theorem gml_right:∀ (n:Nat) (a b c:UInt8),gml n a (b ^^^ c)=gml n a b ^^^ gml n a c
 | 0,a,b,c=>by simp only [gml,xx]
 | n + 1,a,b,c=>by
  simp only [gml,bit0_xor,shr_xor,gml_right n]
  ac_rfl
theorem gml_left:∀ (n:Nat) (a b c:UInt8),gml n (a ^^^ b) c=gml n a c ^^^ gml n b c
 | 0,a,b,c=>by simp only [gml,xx]
 | n + 1,a,b,c=>by
  simp only [gml,bit0_add,gd_xor,gml_left n]
  ac_rfl
theorem gm_right (a b c:UInt8):gm a (b ^^^ c)=gm a b ^^^ gm a c:=gml_right 8 a b c
theorem gm_left (a b c:UInt8):gm (a ^^^ b) c=gm a c ^^^ gm b c:=gml_left 8 a b c
def pick1 (b m:UInt8):UInt8:=bif (b &&& m) != 0 then m else 0
theorem bits8 (b:UInt8):b=pick1 b 1 ^^^ (pick1 b 2 ^^^ (pick1 b 4 ^^^ (pick1 b 8 ^^^ (pick1 b 16 ^^^ (pick1 b 32 ^^^ (pick1 b 64 ^^^ pick1 b 128)))))):=
 allU (p:=fun b=>b=pick1 b 1 ^^^ (pick1 b 2 ^^^ (pick1 b 4 ^^^ (pick1 b 8 ^^^ (pick1 b 16 ^^^ (pick1 b 32 ^^^ (pick1 b 64 ^^^ pick1 b 128))))))) (by decide +kernel) b
def Lin (f:UInt8->UInt8):Prop:=∀ x y,f (x ^^^ y)=f x ^^^ f y
theorem Lin.zero {f:UInt8->UInt8} (h:Lin f):f 0=0:=by
 have:=h 0 0
 rw [xx,xx] at this
 exact this
theorem Lin.pick {f:UInt8->UInt8} (h:Lin f) (b m:UInt8):f (pick1 b m)=bif (b &&& m) != 0 then f m else 0:=by
 unfold pick1
 cases (b &&& m) != 0
 ·exact h.zero
 ·rfl
theorem Lin.ext {f g:UInt8->UInt8} (hf:Lin f) (hg:Lin g) (h:∀ i:_root_.Fin 8,f (1 <<< UInt8.ofNat i.val)=g (1 <<< UInt8.ofNat i.val)) (x:UInt8):f x=g x:=by
 have h0:f 1=g 1:=h 0
 have h1:f 2=g 2:=h 1
 have h2:f 4=g 4:=h 2
 have h3:f 8=g 8:=h 3
 have h4:f 16=g 16:=h 4
 have h5:f 32=g 32:=h 5
 have h6:f 64=g 64:=h 6
 have h7:f 128=g 128:=h 7
 have e:=bits8 x
 generalize hb:x=b at e ⊢
 rw [e]
 simp only [hf _ _,hg _ _,hf.pick,hg.pick,h0,h1,h2,h3,h4,h5,h6,h7]
theorem gm_linR (a:UInt8):Lin (gm a):=gm_right a
theorem gm_linL (c:UInt8):Lin (fun a=>gm a c):=fun a b=>gm_left a b c
theorem gm_comm (a b:UInt8):gm a b=gm b a:=by
 refine Lin.ext (f:=gm a) (g:=fun b=>gm b a) (gm_linR a) (gm_linL a) (fun i=>?_) b
 refine Lin.ext (f:=fun a=>gm a (1 <<< UInt8.ofNat i.val)) (g:=fun a=>gm (1 <<< UInt8.ofNat i.val) a) (gm_linL _) (gm_linR _) (fun j=>?_) a
 revert i j
 decide
theorem gm_assoc (a b c:UInt8):gm (gm a b) c=gm a (gm b c):=by
 refine Lin.ext (f:=fun c=>gm (gm a b) c) (g:=fun c=>gm a (gm b c)) (gm_linR _) (fun x y=>by simp only [gm_right]) (fun i=>?_) c
 refine Lin.ext (f:=fun b=>gm (gm a b) (1 <<< UInt8.ofNat i.val)) (g:=fun b=>gm a (gm b (1 <<< UInt8.ofNat i.val))) (fun x y=>by simp only [gm_right,gm_left]) (fun x y=>by simp only [gm_right,gm_left]) (fun j=>?_) b
 refine Lin.ext (f:=fun a=>gm (gm a (1 <<< UInt8.ofNat j.val)) (1 <<< UInt8.ofNat i.val)) (g:=fun a=>gm a (gm (1 <<< UInt8.ofNat j.val) (1 <<< UInt8.ofNat i.val))) (fun x y=>by simp only [gm_left]) (fun x y=>by simp only [gm_left]) (fun k=>?_) a
 revert i j k
 decide +kernel
theorem gm_zero (a:UInt8):gm a 0=0:=(gm_linR a).zero
theorem zero_gm (a:UInt8):gm 0 a=0:=(gm_linL a).zero
theorem gm_one (a:UInt8):gm a 1=a:=by
 refine Lin.ext (f:=fun a=>gm a 1) (g:=fun a=>a) (gm_linL 1) (fun x y=>rfl) (fun i=>?_) a
 revert i
 decide
theorem one_gm (a:UInt8):gm 1 a=a:=by rw [gm_comm,gm_one]
end Go.Tw
