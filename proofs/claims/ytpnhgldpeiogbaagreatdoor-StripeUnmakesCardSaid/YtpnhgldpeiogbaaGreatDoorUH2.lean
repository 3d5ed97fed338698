/- The functions, each with its twin, and plain facts about them. -/
import Derived.Test.YtpnhgldpeiogbaaGreatDoorUH1
namespace Go.Proofs.YtpnhgldpeiogbaaGreatDoor
open Go.Tw
set_option linter.unusedSimpArgs false
set_option linter.unusedVariables false
def ord129:Nat->List (Tag×Nat)
 | 6=>[(.p,0),(.p,1),(.p,2),(.p,3),(.p,4),(.r,5),(.p,6),(.p,7),(.p,8),(.p,9),(.p,10),(.p,11),(.p,12),(.r,13),(.p,14),(.p,15),(.p,16),(.p,17),(.p,18),(.p,19),(.p,20),(.p,21),(.r,22),(.p,23),(.p,24),(.p,25),(.p,26),(.p,27),(.p,28),(.p,29),(.p,30),(.r,31),(.p,32),(.p,33),(.p,34),(.w,35)]
 | 10=>[(.p,0),(.p,1),(.p,2),(.r,3),(.p,5),(.p,6),(.p,7),(.c,8),(.p,11),(.p,12),(.p,13),(.c,14),(.p,15),(.w,4),(.w,9),(.p,10),(.p,16),(.p,17)]
 | 11=>[(.p,0),(.p,1),(.p,2),(.r,3),(.p,5),(.p,6),(.p,7),(.c,8),(.p,11),(.p,12),(.p,13),(.c,14),(.p,15),(.w,4),(.w,9),(.p,10),(.p,16),(.p,17)]
 | 12=>[(.p,0),(.p,1),(.p,2),(.p,3),(.p,4),(.r,5),(.p,6),(.p,7),(.p,8),(.p,9),(.p,10),(.p,11),(.r,12),(.p,13),(.p,14),(.w,15)]
 | 17=>[(.p,0),(.r,1),(.p,2),(.r,3),(.p,4),(.r,5),(.p,6),(.r,7),(.p,8),(.r,9),(.p,10),(.r,11),(.p,12),(.p,13),(.p,14),(.p,15),(.p,16),(.p,17)]
 | 18=>[(.p,0),(.c,1),(.p,2),(.p,4),(.p,7),(.p,11),(.p,12),(.p,13),(.p,14),(.p,15),(.p,16),(.p,17),(.p,18),(.p,20),(.p,21),(.c,22),(.p,24),(.p,25),(.c,26),(.w,3),(.w,5),(.p,6),(.w,8),(.p,9),(.p,10),(.p,19),(.p,23),(.p,27),(.p,28)]
 | 24=>[(.p,0),(.p,1),(.r,2),(.p,3),(.p,4),(.r,5),(.p,6),(.p,7),(.w,8)]
 | _=>[]
def E129 (F:Nat):Ev:=⟨cfg,208,ctOf [(157,ct157 F),(158,ct158 F)],ord129,ctOf [],fun _=>none,fun _=>none⟩
theorem cts129 (F:Nat):CtsOk Tryz.prog (E129 F):=cts_of (l:=[(157,ct157 F),(158,ct158 F)]) (l':=[]) rfl rfl ⟨⟨ok157 F,_,Tryz.func157,rfl,rfl⟩,⟨⟨ok158 F,_,Tryz.func158,rfl,rfl⟩,trivial⟩⟩ trivial
def L129_5c (F:Nat) (y126:List UInt8) (y127:Int) (y131:Vector UInt32 64) {β:Type} (kA:(Int×Zj)->Option β) (kO:(Zj)->Option β):Option β:=
 (bif (decide (y127 < (16:Int))) then (Option.bind (ix y126 (w64 ((4:Int) * y127))) fun x137=>(Option.bind (ix y126 (w64 ((w64 ((4:Int) * y127)) + (1:Int)))) fun x138=>(Option.bind (ix y126 (w64 ((w64 ((4:Int) * y127)) + (2:Int)))) fun x139=>(Option.bind (ix y126 (w64 ((w64 ((4:Int) * y127)) + (3:Int)))) fun x140=>(Option.bind (inb 64 y127) fun x141=>(kA ((w64 (y127 + (1:Int))),(Vector.setIfInBounds y131 x141 ((((shl32 (x137.toUInt32) ((UInt64.ofNat 24).toNat)) ||| (shl32 (x138.toUInt32) ((UInt64.ofNat 16).toNat))) ||| (shl32 (x139.toUInt32) ((UInt64.ofNat 8).toNat))) ||| (x140.toUInt32)))))))))) else (kO y131))
def L129_5 (F:Nat) (y126:List UInt8) (y127:Int) (y131:Vector UInt32 64):=L129_5c F y126 y127 y131 (fun s=>some (Sum.inl s)) (fun z=>some (Sum.inr z))
def lc129_5 (F:Nat):Lc:=mkL [1,2,4,5,6,7] [(.ro .u8),(.pt 0 []),(.pt 1 []),(.pt 2 []),(.pt 3 []),.i] [.blk 174 Qh,.blk 174 Qh,.blk 200 Qj,.blk 200 Qj] [2,4,5,6] [(.pt 0 []),(.pt 1 []),(.pt 2 []),(.pt 3 [])] [.blk 174 Qh,.blk 174 Qh,.blk 200 Qj,.blk 200 Qj] F (fun x y (s:Int×Zj)=>L129_5 F x.1 s.1 s.2) (fun x y=>(x.2.2.2.2.2.1,y.2.2.2.1)) (fun x y (z:Zj)=>(((),(),(),(),()),(y.1,y.2.1,y.2.2.1,z,())))
theorem lo129_5 (F:Nat):LcOk Tryz.prog (E129 F) 0 (lc129_5 F) (cAt (bodyOf Tryz.f129) [1,0,1,1,1]):=
 mkL_ok (lp:=[]) (id:=0) (b:=cAt (bodyOf Tryz.f129) (0 :: 0 :: [1,0,1,1,1])) cok (cts129 F) mixed trivial (by kernel_rfl) (by kernel_rfl) (fun x y s=>(x.1,(),(),(),(),s.1,())) (fun x y s=>(y.1,y.2.1,y.2.2.1,s.2,())) (fun x y=>rfl) (fun x y=>rfl) (fun x y s kA kO=>L129_5c F x.1 s.1 s.2 kA kO) (fun _ _ _ _ _=>by simp only [L129_5,L129_5c,oA,oC,oS,oN,elimS_l,elimS_r,elimS_bind]) (fun _ _ _=>by kernel_rfl)
def L129_6c (F:Nat) (y143:Int) (y147:Vector UInt32 64) {β:Type} (kA:(Int×Zj)->Option β) (kO:(Zj)->Option β):Option β:=
 (bif (decide (y143 < (64:Int))) then (Option.bind (inb 64 (w64 (y143 - (15:Int)))) fun x169=>(Option.bind (vat y147 x169) fun x170=>(Option.bind (inb 64 (w64 (y143 - (15:Int)))) fun x171=>(Option.bind (vat y147 x171) fun x172=>(Option.bind (inb 64 (w64 (y143 - (15:Int)))) fun x173=>(Option.bind (vat y147 x173) fun x174=>(Option.bind (T158 F x170 (7:Int)) fun z175=>(Option.bind (T158 F x172 (18:Int)) fun z176=>(Option.bind (inb 64 (w64 (y143 - (2:Int)))) fun x177=>(Option.bind (vat y147 x177) fun x178=>(Option.bind (inb 64 (w64 (y143 - (2:Int)))) fun x179=>(Option.bind (vat y147 x179) fun x180=>(Option.bind (inb 64 (w64 (y143 - (2:Int)))) fun x181=>(Option.bind (vat y147 x181) fun x182=>(Option.bind (T158 F x178 (17:Int)) fun z183=>(Option.bind (T158 F x180 (19:Int)) fun z184=>(Option.bind (inb 64 (w64 (y143 - (7:Int)))) fun x185=>(Option.bind (vat y147 x185) fun x186=>(Option.bind (inb 64 (w64 (y143 - (16:Int)))) fun x187=>(Option.bind (vat y147 x187) fun x188=>(Option.bind (inb 64 y143) fun x189=>(kA ((w64 (y143 + (1:Int))),(Vector.setIfInBounds y147 x189 (((((z183 ^^^ z184) ^^^ (shr32 x182 ((UInt64.ofNat 10).toNat))) + x186) + ((z175 ^^^ z176) ^^^ (shr32 x174 ((UInt64.ofNat 3).toNat)))) + x188))))))))))))))))))))))))) else (kO y147))
def L129_6 (F:Nat) (y143:Int) (y147:Vector UInt32 64):=L129_6c F y143 y147 (fun s=>some (Sum.inl s)) (fun z=>some (Sum.inr z))
def lc129_6 (F:Nat):Lc:=mkL [2,4,5,6,8] [(.pt 0 []),(.pt 1 []),(.pt 2 []),(.pt 3 []),.i] [.blk 174 Qh,.blk 174 Qh,.blk 200 Qj,.blk 200 Qj] [2,4,5,6] [(.pt 0 []),(.pt 1 []),(.pt 2 []),(.pt 3 [])] [.blk 174 Qh,.blk 174 Qh,.blk 200 Qj,.blk 200 Qj] F (fun x y (s:Int×Zj)=>L129_6 F s.1 s.2) (fun x y=>(x.2.2.2.2.1,y.2.2.2.1)) (fun x y (z:Zj)=>(((),(),(),(),()),(y.1,y.2.1,y.2.2.1,z,())))
theorem lo129_6 (F:Nat):LcOk Tryz.prog (E129 F) 0 (lc129_6 F) (cAt (bodyOf Tryz.f129) [1,0,1,1,1,1]):=
 mkL_ok (lp:=[]) (id:=2) (b:=cAt (bodyOf Tryz.f129) (0 :: 0 :: [1,0,1,1,1,1])) cok (cts129 F) mixed trivial (by kernel_rfl) (by kernel_rfl) (fun x y s=>((),(),(),(),s.1,())) (fun x y s=>(y.1,y.2.1,y.2.2.1,s.2,())) (fun x y=>rfl) (fun x y=>rfl) (fun x y s kA kO=>L129_6c F s.1 s.2 kA kO) (fun _ _ _ _ _=>by simp only [L129_6,L129_6c,oA,oC,oS,oN,elimS_l,elimS_r,elimS_bind]) (fun _ _ _=>by kernel_rfl)
def L129_7c (F:Nat) (y194:Vector UInt32 64) (y195:Vector UInt32 64) (y191:Int) (y196:Vector UInt32 8) {β:Type} (kA:(Int×Ze)->Option β) (kO:(Ze)->Option β):Option β:=
 (bif (decide (y191 < (64:Int))) then (Option.bind (vat y196 0) fun x215=>(Option.bind (vat y196 1) fun x216=>(Option.bind (vat y196 2) fun x217=>(Option.bind (vat y196 4) fun x218=>(Option.bind (vat y196 5) fun x219=>(Option.bind (vat y196 6) fun x220=>(Option.bind (vat y196 7) fun x221=>(Option.bind (inb 64 y191) fun x222=>(Option.bind (vat y194 x222) fun x223=>(Option.bind (inb 64 y191) fun x224=>(Option.bind (vat y195 x224) fun x225=>(Option.bind (T158 F x218 (6:Int)) fun z226=>(Option.bind (T158 F x218 (11:Int)) fun z227=>(Option.bind (T158 F x218 (25:Int)) fun z228=>(Option.bind (T158 F x215 (2:Int)) fun z229=>(Option.bind (T158 F x215 (13:Int)) fun z230=>(Option.bind (T158 F x215 (22:Int)) fun z231=>(Option.bind (vat y196 3) fun x232=>(kA ((w64 (y191 + (1:Int))),(#v[(((((x221 + ((z226 ^^^ z227) ^^^ z228)) + ((x218 &&& x219) ^^^ ((~~~x218) &&& x220))) + x223) + x225) + (((z229 ^^^ z230) ^^^ z231) + (((x215 &&& x216) ^^^ (x215 &&& x217)) ^^^ (x216 &&& x217)))),x215,x216,x217,(x232 + ((((x221 + ((z226 ^^^ z227) ^^^ z228)) + ((x218 &&& x219) ^^^ ((~~~x218) &&& x220))) + x223) + x225)),x218,x219,x220]:Vector UInt32 8))))))))))))))))))))) else (kO y196))
def L129_7 (F:Nat) (y194:Vector UInt32 64) (y195:Vector UInt32 64) (y191:Int) (y196:Vector UInt32 8):=L129_7c F y194 y195 y191 y196 (fun s=>some (Sum.inl s)) (fun z=>some (Sum.inr z))
def lc129_7 (F:Nat):Lc:=mkL [2,4,5,6,11,12] [(.pt 0 []),(.pt 1 []),(.pt 2 []),(.pt 3 []),(.pt 4 []),.i] [.blk 174 Qh,.blk 174 Qh,.blk 200 Qj,.blk 200 Qj,.blk 174 Qh] [2,4,11] [(.pt 0 []),(.pt 1 []),(.pt 2 [])] [.blk 174 Qh,.blk 174 Qh,.blk 174 Qh] F (fun x y (s:Int×Ze)=>L129_7 F y.2.2.1 y.2.2.2.1 s.1 s.2) (fun x y=>(x.2.2.2.2.2.1,y.2.2.2.2.1)) (fun x y (z:Ze)=>(((),(),(),()),(y.1,y.2.1,z,())))
theorem lo129_7 (F:Nat):LcOk Tryz.prog (E129 F) 0 (lc129_7 F) (cAt (bodyOf Tryz.f129) [1,0,1,1,1,1,1,1]):=
 mkL_ok (lp:=[]) (id:=4) (b:=cAt (bodyOf Tryz.f129) (0 :: 0 :: [1,0,1,1,1,1,1,1])) cok (cts129 F) mixed trivial (by kernel_rfl) (by kernel_rfl) (fun x y s=>((),(),(),(),(),s.1,())) (fun x y s=>(y.1,y.2.1,y.2.2.1,y.2.2.2.1,s.2,())) (fun x y=>rfl) (fun x y=>rfl) (fun x y s kA kO=>L129_7c F y.2.2.1 y.2.2.2.1 s.1 s.2 kA kO) (fun _ _ _ _ _=>by simp only [L129_7,L129_7c,oA,oC,oS,oN,elimS_l,elimS_r,elimS_bind]) (fun _ _ _=>by kernel_rfl)
def L129_8c (F:Nat) (y235:Vector UInt32 8) (y234:Int) (y237:Vector UInt32 8) {β:Type} (kA:(Int×Ze)->Option β) (kO:(Ze)->Option β):Option β:=
 (bif (decide (y234 < (8:Int))) then (Option.bind (inb 8 y234) fun x243=>(Option.bind (vat y237 x243) fun x244=>(Option.bind (inb 8 y234) fun x245=>(Option.bind (vat y235 x245) fun x246=>(Option.bind (inb 8 y234) fun x247=>(kA ((w64 (y234 + (1:Int))),(Vector.setIfInBounds y237 x247 (x244 + x246))))))))) else (kO y237))
def L129_8 (F:Nat) (y235:Vector UInt32 8) (y234:Int) (y237:Vector UInt32 8):=L129_8c F y235 y234 y237 (fun s=>some (Sum.inl s)) (fun z=>some (Sum.inr z))
def lc129_8 (F:Nat):Lc:=mkL [2,4,11,21] [(.pt 0 []),(.pt 1 []),(.pt 2 []),.i] [.blk 174 Qh,.blk 174 Qh,.blk 174 Qh] [4,11] [(.pt 0 []),(.pt 1 [])] [.blk 174 Qh,.blk 174 Qh] F (fun x y (s:Int×Ze)=>L129_8 F y.1 s.1 s.2) (fun x y=>(x.2.2.2.1,y.2.2.1)) (fun x y (z:Ze)=>(((),(),()),(y.2.1,z,())))
theorem lo129_8 (F:Nat):LcOk Tryz.prog (E129 F) 0 (lc129_8 F) (cAt (bodyOf Tryz.f129) [1,0,1,1,1,1,1,1,1]):=
 mkL_ok (lp:=[]) (id:=6) (b:=cAt (bodyOf Tryz.f129) (0 :: 0 :: [1,0,1,1,1,1,1,1,1])) cok (cts129 F) mixed trivial (by kernel_rfl) (by kernel_rfl) (fun x y s=>((),(),(),s.1,())) (fun x y s=>(y.1,y.2.1,s.2,())) (fun x y=>rfl) (fun x y=>rfl) (fun x y s kA kO=>L129_8c F y.1 s.1 s.2 kA kO) (fun _ _ _ _ _=>by simp only [L129_8,L129_8c,oA,oC,oS,oN,elimS_l,elimS_r,elimS_bind]) (fun _ _ _=>by kernel_rfl)
def T129c (F:Nat) (p0:Vector UInt32 8) (p1:List UInt8) {β:Type} (k:(Ze)->Option β):Option β:=
 (Option.bind (T157 F) fun z125=>(Option.bind (iter (fun s=>L129_5 F p1 s.1 s.2) F ((0:Int),(Vector.replicate 64 (0:UInt32)))) fun z142=>(Option.bind (iter (fun s=>L129_6 F s.1 s.2) F ((16:Int),z142)) fun z190=>(Option.bind (iter (fun s=>L129_7 F z125 z190 s.1 s.2) F ((0:Int),p0)) fun z233=>(Option.bind (iter (fun s=>L129_8 F p0 s.1 s.2) F ((0:Int),z233)) fun z248=>(k z248))))))
def T129 (F:Nat) (p0:Vector UInt32 8) (p1:List UInt8):=T129c F p0 p1 some
def ct129 (F:Nat):Ct:=mkC 0 [(.ar 8 .u32),(.ro .u8)] [] [(.ar 8 .u32)] [] (fun x y=>T129 F x.1 x.2.1) (fun x y (z:Ze)=>((z,()),()))
theorem ok129 (F:Nat):Sound Tryz.prog cfg 129 (ct129 F):=
 mkC_ok (E:=E129 F) (lp:=[([1,0,1,1,1],lc129_5 F),([1,0,1,1,1,1],lc129_6 F),([1,0,1,1,1,1,1,1],lc129_7 F),([1,0,1,1,1,1,1,1,1],lc129_8 F)]) (code:=bodyOf Tryz.f129) Tryz.func129 rfl Tryz.ntmps129 rfl rfl cok (cts129 F) mixed ⟨lo129_5 F,⟨lo129_6 F,⟨lo129_7 F,⟨lo129_8 F,trivial⟩⟩⟩⟩ (by kernel_rfl) (fun x y k=>T129c F x.1 x.2.1 k) (fun _ _ _=>by simp only [T129,T129c,oA,oC,oS,oN,elimS_bind]) (fun _ _=>by kernel_rfl)
def ord89:Nat->List (Tag×Nat)
 | 6=>[(.r,0),(.p,1),(.p,2),(.p,3),(.p,4),(.p,5),(.w,6),(.w,7)]
 | 11=>[(.p,0),(.p,1),(.p,2),(.r,3),(.p,4),(.p,5),(.p,6),(.p,7),(.r,8),(.p,9),(.p,10),(.p,11),(.p,12),(.r,13),(.p,14),(.p,15),(.p,16),(.p,17),(.r,18),(.p,19),(.w,20),(.w,21),(.p,22)]
 | _=>[]
def E89 (F:Nat):Ev:=⟨cfg,53,ctOf [(128,ct128 F),(129,ct129 F)],ord89,ctOf [],fun _=>none,fun _=>none⟩
theorem cts89 (F:Nat):CtsOk Tryz.prog (E89 F):=cts_of (l:=[(128,ct128 F),(129,ct129 F)]) (l':=[]) rfl rfl ⟨⟨ok128 F,_,Tryz.func128,rfl,rfl⟩,⟨⟨ok129 F,_,Tryz.func129,rfl,rfl⟩,trivial⟩⟩ trivial
def L89_3c (F:Nat) (y35:List UInt8) (y33:Int) (y34:Vector UInt32 8) {β:Type} (kA:(Int×Ze)->Option β) (kO:(Ze)->Option β):Option β:=
 (bif (decide (y33 < (y35.length:Int))) then (Option.bind (gslb y35.length y33 (w64 (y33 + (64:Int)))) fun x38=>(Option.bind (T129 F y34 ((y35.drop x38.1).take (x38.2 - x38.1))) fun z39=>(kA ((w64 (y33 + (64:Int))),z39)))) else (kO y34))
def L89_3 (F:Nat) (y35:List UInt8) (y33:Int) (y34:Vector UInt32 8):=L89_3c F y35 y33 y34 (fun s=>some (Sum.inl s)) (fun z=>some (Sum.inr z))
def lc89_3 (F:Nat):Lc:=mkL [3,4,5] [(.pt 0 []),(.rw 1),.i] [.blk 174 Qh,.row 5 .u8] [3] [(.pt 0 [])] [.blk 174 Qh] F (fun x y (s:Int×Ze)=>L89_3 F y.2.1 s.1 s.2) (fun x y=>(x.2.2.1,y.1)) (fun x y (z:Ze)=>(((),()),(z,())))
theorem lo89_3 (F:Nat):LcOk Tryz.prog (E89 F) 0 (lc89_3 F) (cAt (bodyOf Tryz.f89) [1,0,1,1,1]):=
 mkL_ok (lp:=[]) (id:=0) (b:=cAt (bodyOf Tryz.f89) (0 :: 0 :: [1,0,1,1,1])) cok (cts89 F) mixed trivial (by kernel_rfl) (by kernel_rfl) (fun x y s=>((),(),s.1,())) (fun x y s=>(s.2,y.2.1,())) (fun x y=>rfl) (fun x y=>rfl) (fun x y s kA kO=>L89_3c F y.2.1 s.1 s.2 kA kO) (fun _ _ _ _ _=>by simp only [L89_3,L89_3c,oA,oC,oS,oN,elimS_l,elimS_r,elimS_bind]) (fun _ _ _=>by kernel_rfl)
def L89_4c (F:Nat) (y42:Vector UInt32 8) (y41:Int) (y43:List UInt8) {β:Type} (kA:(Int×Za)->Option β) (kO:(Za)->Option β):Option β:=
 (bif (decide (y41 < (8:Int))) then (Option.bind (inb 8 y41) fun x53=>(Option.bind (vat y42 x53) fun x54=>(Option.bind (inb 8 y41) fun x55=>(Option.bind (vat y42 x55) fun x56=>(Option.bind (inb 8 y41) fun x57=>(Option.bind (vat y42 x57) fun x58=>(Option.bind (inb 8 y41) fun x59=>(Option.bind (vat y42 x59) fun x60=>(Option.bind (gapp y43 ([((shr32 x54 ((UInt64.ofNat 24).toNat)).toUInt8),((shr32 x56 ((UInt64.ofNat 16).toNat)).toUInt8),((shr32 x58 ((UInt64.ofNat 8).toNat)).toUInt8),(x60.toUInt8)]:List UInt8)) fun x61=>(kA ((w64 (y41 + (1:Int))),x61))))))))))) else (kO y43))
def L89_4 (F:Nat) (y42:Vector UInt32 8) (y41:Int) (y43:List UInt8):=L89_4c F y42 y41 y43 (fun s=>some (Sum.inl s)) (fun z=>some (Sum.inr z))
def lc89_4 (F:Nat):Lc:=mkL [3,6,7] [(.pt 0 []),(.rw 1),.i] [.blk 174 Qh,.row 5 .u8] [6] [(.rw 0)] [.row 5 .u8] F (fun x y (s:Int×Za)=>L89_4 F y.1 s.1 s.2) (fun x y=>(x.2.2.1,y.2.1)) (fun x y (z:Za)=>(((),()),(z,())))
theorem lo89_4 (F:Nat):LcOk Tryz.prog (E89 F) 0 (lc89_4 F) (cAt (bodyOf Tryz.f89) [1,0,1,1,1,1,1]):=
 mkL_ok (lp:=[]) (id:=2) (b:=cAt (bodyOf Tryz.f89) (0 :: 0 :: [1,0,1,1,1,1,1])) cok (cts89 F) mixed trivial (by kernel_rfl) (by kernel_rfl) (fun x y s=>((),(),s.1,())) (fun x y s=>(y.1,s.2,())) (fun x y=>rfl) (fun x y=>rfl) (fun x y s kA kO=>L89_4c F y.1 s.1 s.2 kA kO) (fun _ _ _ _ _=>by simp only [L89_4,L89_4c,oA,oC,oS,oN,elimS_l,elimS_r,elimS_bind]) (fun _ _ _=>by kernel_rfl)
def T89c (F:Nat) (p0:List UInt8) {β:Type} (k:(Za)->Option β):Option β:=
 (Option.bind (T128 F p0) fun z32=>(Option.bind (iter (fun s=>L89_3 F z32 s.1 s.2) F ((0:Int),(#v[(UInt32.ofNat 1779033703),(UInt32.ofNat 3144134277),(UInt32.ofNat 1013904242),(UInt32.ofNat 2773480762),(UInt32.ofNat 1359893119),(UInt32.ofNat 2600822924),(UInt32.ofNat 528734635),(UInt32.ofNat 1541459225)]:Vector UInt32 8))) fun z40=>(Option.bind (iter (fun s=>L89_4 F z40 s.1 s.2) F ((0:Int),([]:List UInt8))) fun z62=>(k z62))))
def T89 (F:Nat) (p0:List UInt8):=T89c F p0 some
def ct89 (F:Nat):Ct:=mkC 0 [(.ro .u8)] [] [.str] [] (fun x y=>T89 F x.1) (fun x y (z:Za)=>((z,()),()))
theorem ok89 (F:Nat):Sound Tryz.prog cfg 89 (ct89 F):=
 mkC_ok (E:=E89 F) (lp:=[([1,0,1,1,1],lc89_3 F),([1,0,1,1,1,1,1],lc89_4 F)]) (code:=bodyOf Tryz.f89) Tryz.func89 rfl Tryz.ntmps89 rfl rfl cok (cts89 F) mixed ⟨lo89_3 F,⟨lo89_4 F,trivial⟩⟩ (by kernel_rfl) (fun x y k=>T89c F x.1 k) (fun _ _ _=>by simp only [T89,T89c,oA,oC,oS,oN,elimS_bind]) (fun _ _=>by kernel_rfl)
def E156 (F:Nat):Ev:=⟨cfg,7,ctOf [(89,ct89 F)],fun _=>[],ctOf [],fun _=>none,fun _=>none⟩
theorem cts156 (F:Nat):CtsOk Tryz.prog (E156 F):=cts_of (l:=[(89,ct89 F)]) (l':=[]) rfl rfl ⟨⟨ok89 F,_,Tryz.func89,rfl,rfl⟩,trivial⟩ trivial
def T156c (F:Nat) (p0:List UInt8) {β:Type} (k:(Za)->Option β):Option β:=
 (Option.bind (gapp ([(UInt8.ofNat 0)]:List UInt8) p0) fun x3=>(Option.bind (T89 F x3) fun z4=>(k z4)))
def T156 (F:Nat) (p0:List UInt8):=T156c F p0 some
def ct156 (F:Nat):Ct:=mkC 0 [(.ro .u8)] [] [.str] [] (fun x y=>T156 F x.1) (fun x y (z:Za)=>((z,()),()))
theorem ok156 (F:Nat):Sound Tryz.prog cfg 156 (ct156 F):=
 mkC_ok (E:=E156 F) (lp:=[]) (code:=bodyOf Tryz.f156) Tryz.func156 rfl Tryz.ntmps156 rfl rfl cok (cts156 F) mixed trivial (by kernel_rfl) (fun x y k=>T156c F x.1 k) (fun _ _ _=>by simp only [T156,T156c,oA,oC,oS,oN,elimS_bind]) (fun _ _=>by kernel_rfl)
def E127 (F:Nat):Ev:=⟨cfg,32,ctOf [(156,ct156 F)],fun _=>[],ctOf [],fun _=>none,fun _=>none⟩
theorem cts127 (F:Nat):CtsOk Tryz.prog (E127 F):=cts_of (l:=[(156,ct156 F)]) (l':=[]) rfl rfl ⟨⟨ok156 F,_,Tryz.func156,rfl,rfl⟩,trivial⟩ trivial
def L127_2c (F:Nat) (y14:Int) (y13:List UInt8) (y15:List Za) {β:Type} (kA:(Za×Zd)->Option β) (kO:(Zd)->Option β):Option β:=
 (bif (decide ((0:Int) < (y13.length:Int))) then (Option.bind (gsl y13 (0:Int) (if (y13.length:Int) < y14 then (y13.length:Int) else y14)) fun x20=>(Option.bind (T156 F x20) fun z21=>(Option.bind (gapp y15 ([z21]:List Za)) fun x22=>(Option.bind (gsl y13 (if (y13.length:Int) < y14 then (y13.length:Int) else y14) (y13.length:Int)) fun x23=>(kA (x23,x22)))))) else (kO y15))
def L127_2 (F:Nat) (y14:Int) (y13:List UInt8) (y15:List Za):=L127_2c F y14 y13 y15 (fun s=>some (Sum.inl s)) (fun z=>some (Sum.inr z))
def lc127_2 (F:Nat):Lc:=mkL [0,1,6] [(.ro .u8),.i,(.rw 0)] [.row 9 .s] [6] [(.rw 0)] [.row 9 .s] F (fun x y (s:Za×Zd)=>L127_2 F x.2.1 s.1 s.2) (fun x y=>(x.1,y.1)) (fun x y (z:Zd)=>(((),()),(z,())))
theorem lo127_2 (F:Nat):LcOk Tryz.prog (E127 F) 0 (lc127_2 F) (cAt (bodyOf Tryz.f127) [0,1,1,1,1]):=
 mkL_ok (lp:=[]) (id:=0) (b:=cAt (bodyOf Tryz.f127) (0 :: 0 :: [0,1,1,1,1])) cok (cts127 F) mixed trivial (by kernel_rfl) (by kernel_rfl) (fun x y s=>(s.1,x.2.1,(),())) (fun x y s=>(s.2,())) (fun x y=>rfl) (fun x y=>rfl) (fun x y s kA kO=>L127_2c F x.2.1 s.1 s.2 kA kO) (fun _ _ _ _ _=>by simp only [L127_2,L127_2c,oA,oC,oS,oN,elimS_l,elimS_r,elimS_bind]) (fun _ _ _=>by kernel_rfl)
def T127c (F:Nat) (p0:List UInt8) (p1:Int) {β:Type} (k:Zm->Option β):Option β:=
 (bif (decide (p1 < (1:Int))) then (k ((1:Int),([]:List Za))) else (bif (decide ((1048576:Int) < (p0.length:Int))) then (k ((2:Int),([]:List Za))) else (Option.bind (iter (fun s=>L127_2 F p1 s.1 s.2) F (p0,([]:List Za))) fun z24=>(k ((0:Int),z24)))))
def T127 (F:Nat) (p0:List UInt8) (p1:Int):=T127c F p0 p1 some
def ct127 (F:Nat):Ct:=mkC 0 [(.ro .u8),.i] [] [(.rw 0),.i] [.row 9 .s] (fun x y=>T127 F x.1 x.2.1) (fun x y (z:Int×Zd)=>(((),z.1,()),(z.2,())))
theorem ok127 (F:Nat):Sound Tryz.prog cfg 127 (ct127 F):=
 mkC_ok (E:=E127 F) (lp:=[([0,1,1,1,1],lc127_2 F)]) (code:=bodyOf Tryz.f127) Tryz.func127 rfl Tryz.ntmps127 rfl rfl cok (cts127 F) mixed ⟨lo127_2 F,trivial⟩ (by kernel_rfl) (fun x y k=>T127c F x.1 x.2.1 k) (fun _ _ _=>by simp only [T127,T127c,oA,oC,oS,oN,elimS_bind]) (fun _ _=>by kernel_rfl)
def E90 (F:Nat):Ev:=⟨cfg,12,ctOf [],fun _=>[],ctOf [],fun _=>none,fun _=>none⟩
theorem cts90 (F:Nat):CtsOk Tryz.prog (E90 F):=cts_of (l:=[]) (l':=[]) rfl rfl trivial trivial
def L90_2c (F:Nat) (y4:Int) (y5:Int) {β:Type} (kA:Int->Option β) (kO:Int->Option β):Option β:=
 (bif (decide (y5 < (w64 (y4 - y5)))) then (kA (w64 (y5 * (2:Int)))) else (kO y5))
def L90_2 (F:Nat) (y4:Int) (y5:Int):=L90_2c F y4 y5 (fun s=>some (Sum.inl s)) (fun z=>some (Sum.inr z))
def lc90_2 (F:Nat):Lc:=mkL [0,3] [.i,.i] [] [3] [.i] [] F (fun x y (s:Int)=>L90_2 F x.1 s) (fun x y=>x.2.1) (fun x y (z:Int)=>((z,()),()))
theorem lo90_2 (F:Nat):LcOk Tryz.prog (E90 F) 0 (lc90_2 F) (cAt (bodyOf Tryz.f90) [0,1,1]):=
 mkL_ok (lp:=[]) (id:=0) (b:=cAt (bodyOf Tryz.f90) (0 :: 0 :: [0,1,1])) cok (cts90 F) mixed trivial (by kernel_rfl) (by kernel_rfl) (fun x y s=>(x.1,s,())) (fun x y s=>()) (fun x y=>rfl) (fun x y=>rfl) (fun x y s kA kO=>L90_2c F x.1 s kA kO) (fun _ _ _ _ _=>by simp only [L90_2,L90_2c,oA,oC,oS,oN,elimS_l,elimS_r,elimS_bind]) (fun _ _ _=>by kernel_rfl)
def T90c (F:Nat) (p0:Int) {β:Type} (k:Int->Option β):Option β:=
 (Option.bind (iter (fun s=>L90_2 F p0 s) F (1:Int)) fun z6=>(k z6))
def T90 (F:Nat) (p0:Int):=T90c F p0 some
def ct90 (F:Nat):Ct:=mkC 0 [.i] [] [.i] [] (fun x y=>T90 F x.1) (fun x y (z:Int)=>((z,()),()))
theorem ok90 (F:Nat):Sound Tryz.prog cfg 90 (ct90 F):=
 mkC_ok (E:=E90 F) (lp:=[([0,1,1],lc90_2 F)]) (code:=bodyOf Tryz.f90) Tryz.func90 rfl Tryz.ntmps90 rfl rfl cok (cts90 F) mixed ⟨lo90_2 F,trivial⟩ (by kernel_rfl) (fun x y k=>T90c F x.1 k) (fun _ _ _=>by simp only [T90,T90c,oA,oC,oS,oN,elimS_bind]) (fun _ _=>by kernel_rfl)
def E130 (F:Nat):Ev:=⟨cfg,19,ctOf [(89,ct89 F)],fun _=>[],ctOf [],fun _=>none,fun _=>none⟩
theorem cts130 (F:Nat):CtsOk Tryz.prog (E130 F):=cts_of (l:=[(89,ct89 F)]) (l':=[]) rfl rfl ⟨⟨ok89 F,_,Tryz.func89,rfl,rfl⟩,trivial⟩ trivial
def L130_2c (F:Nat) (y13:List Za) (y14:Int) (y12:List UInt8) (y15:Int) {β:Type} (kA:(Za×Int)->Option β) (kO:(Za)->Option β):Option β:=
 (bif (decide (y15 < y14)) then (Option.bind (ix y13 y15) fun x18=>(Option.bind (gcat y12 x18) fun x19=>(kA (x19,(w64 (y15 + (1:Int))))))) else (kO y12))
def L130_2 (F:Nat) (y13:List Za) (y14:Int) (y12:List UInt8) (y15:Int):=L130_2c F y13 y14 y12 y15 (fun s=>some (Sum.inl s)) (fun z=>some (Sum.inr z))
def lc130_2 (F:Nat):Lc:=mkL [3,6,7,8] [.str,(.ro .s),.i,.i] [] [3] [.str] [] F (fun x y (s:Za×Int)=>L130_2 F x.2.1 x.2.2.1 s.1 s.2) (fun x y=>(x.1,x.2.2.2.1)) (fun x y (z:Za)=>((z,()),()))
theorem lo130_2 (F:Nat):LcOk Tryz.prog (E130 F) 0 (lc130_2 F) (cAt (bodyOf Tryz.f130) [1,0,1,1]):=
 mkL_ok (lp:=[]) (id:=0) (b:=cAt (bodyOf Tryz.f130) (0 :: 0 :: [1,0,1,1])) cok (cts130 F) mixed trivial (by kernel_rfl) (by kernel_rfl) (fun x y s=>(s.1,x.2.1,x.2.2.1,s.2,())) (fun x y s=>()) (fun x y=>rfl) (fun x y=>rfl) (fun x y s kA kO=>L130_2c F x.2.1 x.2.2.1 s.1 s.2 kA kO) (fun _ _ _ _ _=>by simp only [L130_2,L130_2c,oA,oC,oS,oN,elimS_l,elimS_r,elimS_bind]) (fun _ _ _=>by kernel_rfl)
def T130c (F:Nat) (p0:List Za) {β:Type} (k:(Za)->Option β):Option β:=
 (Option.bind (iter (fun s=>L130_2 F p0 (p0.length:Int) s.1 s.2) F (([]:List UInt8),(0:Int))) fun z20=>(Option.bind (gstr z20) fun x21=>(Option.bind (T89 F x21) fun z22=>(k z22))))
def T130 (F:Nat) (p0:List Za):=T130c F p0 some
def ct130 (F:Nat):Ct:=mkC 0 [(.ro .s)] [] [.str] [] (fun x y=>T130 F x.1) (fun x y (z:Za)=>((z,()),()))
theorem ok130 (F:Nat):Sound Tryz.prog cfg 130 (ct130 F):=
 mkC_ok (E:=E130 F) (lp:=[([1,0,1,1],lc130_2 F)]) (code:=bodyOf Tryz.f130) Tryz.func130 rfl Tryz.ntmps130 rfl rfl cok (cts130 F) mixed ⟨lo130_2 F,trivial⟩ (by kernel_rfl) (fun x y k=>T130c F x.1 k) (fun _ _ _=>by simp only [T130,T130c,oA,oC,oS,oN,elimS_bind]) (fun _ _=>by kernel_rfl)
def E91 (F:Nat):Ev:=⟨cfg,9,ctOf [(130,ct130 F)],fun _=>[],ctOf [],fun _=>none,fun _=>none⟩
theorem cts91 (F:Nat):CtsOk Tryz.prog (E91 F):=cts_of (l:=[(130,ct130 F)]) (l':=[]) rfl rfl ⟨⟨ok130 F,_,Tryz.func130,rfl,rfl⟩,trivial⟩ trivial
def T91c (F:Nat) (p0:List UInt8) (p1:List UInt8) {β:Type} (k:(Za)->Option β):Option β:=
 (Option.bind (T130 F ([([1]:List UInt8),p0,p1]:List Za)) fun z2=>(k z2))
def T91 (F:Nat) (p0:List UInt8) (p1:List UInt8):=T91c F p0 p1 some
def ct91 (F:Nat):Ct:=mkC 0 [.str,.str] [] [.str] [] (fun x y=>T91 F x.1 x.2.1) (fun x y (z:Za)=>((z,()),()))
theorem ok91 (F:Nat):Sound Tryz.prog cfg 91 (ct91 F):=
 mkC_ok (E:=E91 F) (lp:=[]) (code:=bodyOf Tryz.f91) Tryz.func91 rfl Tryz.ntmps91 rfl rfl cok (cts91 F) mixed trivial (by kernel_rfl) (fun x y k=>T91c F x.1 x.2.1 k) (fun _ _ _=>by simp only [T91,T91c,oA,oC,oS,oN,elimS_bind]) (fun _ _=>by kernel_rfl)
def T51rc (F:Nat) (rc:(Zd->Option (Za))) (p0:List Za) {β:Type} (k:(Za)->Option β):Option β:=
 (bif ((p0.length:Int) == (0:Int)) then (Option.bind (T89 F ([]:List UInt8)) fun z9=>(k z9)) else (bif ((p0.length:Int) == (1:Int)) then (Option.bind (ix p0 (0:Int)) fun x10=>(k x10)) else (Option.bind (T90 F (p0.length:Int)) fun z11=>(Option.bind (gsl p0 (0:Int) z11) fun x12=>(Option.bind (gsl p0 z11 (p0.length:Int)) fun x13=>(Option.bind (rc x12) fun z14=>(Option.bind (rc x13) fun z15=>(Option.bind (T91 F z14 z15) fun z16=>(k z16)))))))))
def T51r (F:Nat) (rc:(Zd->Option (Za))) (p0:List Za):=T51rc F rc p0 some
def T51g (F:Nat):Nat->Zd->Option (Za)
 | 0=>fun _=>none
 | g + 1=>T51r F (T51g F g)
abbrev cA51r:List Sh:=[(.ro .s)]
abbrev cB51r:List Sh:=[.str]
abbrev cT51r:List TSh:=[]
abbrev cU51r:List TSh:=[]
def ctg51 (F g:Nat):Ct:=mkC 0 cA51r cT51r cB51r cU51r (fun x y=>T51g F g x.1) (fun x y (z:Za)=>((z,()),()))
def ord51r:Nat->List (Tag×Nat)
 | 7=>[(.p,0),(.p,1),(.p,2),(.p,4),(.p,5),(.p,6),(.w,3),(.w,7),(.w,8),(.p,9)]
 | _=>[]
def E51r (F g:Nat):Ev:=⟨cfg,26,ctOf [(89,ct89 F),(90,ct90 F),(51,ctg51 F g),(91,ct91 F)],ord51r,ctOf [],fun _=>none,fun _=>none⟩
theorem cts51r (F g:Nat) (h:Sound Tryz.prog cfg 51 (ctg51 F g)):CtsOk Tryz.prog (E51r F g):=cts_of (l:=[(89,ct89 F),(90,ct90 F),(51,ctg51 F g),(91,ct91 F)]) (l':=[]) rfl rfl ⟨⟨ok89 F,_,Tryz.func89,rfl,rfl⟩,⟨⟨ok90 F,_,Tryz.func90,rfl,rfl⟩,⟨⟨h,_,Tryz.func51,rfl,rfl⟩,⟨⟨ok91 F,_,Tryz.func91,rfl,rfl⟩,trivial⟩⟩⟩⟩ trivial
def ct51r (F g:Nat):Ct:=mkC 0 cA51r cT51r cB51r cU51r (fun x y=>T51r F (T51g F g) x.1) (fun x y (z:Za)=>((z,()),()))
theorem eq51r (F g:Nat) (x:dens cA51r) (y:tdens cT51r):sev (E51r F g) 0 [] (bodyOf Tryz.f51) [] (mkSt (rng 1) cA51r cT51r x y) (kFn (E51r F g) 0 Tryz.f51.results.toList cB51r cU51r fun p q=>some (p,q)) =
  T51rc F (T51g F g) x.1 (fun z=>some ((z,()),())):=by kernel_rfl
theorem ok51r (F g:Nat) (h:Sound Tryz.prog cfg 51 (ctg51 F g)):Sound Tryz.prog cfg 51 (ct51r F g):=
 mkC_ok (E:=E51r F g) (lp:=[]) (code:=bodyOf Tryz.f51) Tryz.func51 rfl Tryz.ntmps51 rfl rfl cok (cts51r F g h) mixed trivial (by kernel_rfl) (fun x y k=>T51rc F (T51g F g) x.1 k) (fun _ _ _=>by simp only [T51r,T51rc,oA,oC,oS,oN,elimS_bind]) (eq51r F g)
def T51 (F:Nat) (p0:List Za):Option (Za):=T51g F F p0
def ct51 (F:Nat):Ct:=mkC 0 cA51r cT51r cB51r cU51r (fun x y=>T51 F x.1) (fun x y (z:Za)=>((z,()),()))
theorem okg51 (F:Nat):∀ g,Sound Tryz.prog cfg 51 (ctg51 F g)
 | 0=>fun x y p q h=>absurd (show (none:Option _)=some (p,q) from h) (by simp)
 | g + 1=>ok51r F g (okg51 F g)
theorem ok51 (F:Nat):Sound Tryz.prog cfg 51 (ct51 F):=okg51 F F
def E88 (F:Nat):Ev:=⟨cfg,19,ctOf [(127,ct127 F),(51,ct51 F)],fun _=>[],ctOf [],fun _=>none,fun _=>none⟩
theorem cts88 (F:Nat):CtsOk Tryz.prog (E88 F):=cts_of (l:=[(127,ct127 F),(51,ct51 F)]) (l':=[]) rfl rfl ⟨⟨ok127 F,_,Tryz.func127,rfl,rfl⟩,⟨⟨ok51 F,_,Tryz.func51,rfl,rfl⟩,trivial⟩⟩ trivial
def T88c (F:Nat) (p0:List UInt8) (p1:Int) {β:Type} (k:(Za×Int)->Option β):Option β:=
 (Option.bind (T127 F p0 p1) fun z3=>(bif (z3.1 != (0:Int)) then (k (([]:List UInt8),z3.1)) else (Option.bind (T51 F z3.2) fun z4=>(k (z4,(0:Int))))))
def T88 (F:Nat) (p0:List UInt8) (p1:Int):=T88c F p0 p1 some
def ct88 (F:Nat):Ct:=mkC 0 [(.ro .u8),.i] [] [.str,.i] [] (fun x y=>T88 F x.1 x.2.1) (fun x y (z:Za×Int)=>((z.1,z.2,()),()))
theorem ok88 (F:Nat):Sound Tryz.prog cfg 88 (ct88 F):=
 mkC_ok (E:=E88 F) (lp:=[]) (code:=bodyOf Tryz.f88) Tryz.func88 rfl Tryz.ntmps88 rfl rfl cok (cts88 F) mixed trivial (by kernel_rfl) (fun x y k=>T88c F x.1 x.2.1 k) (fun _ _ _=>by simp only [T88,T88c,oA,oC,oS,oN,elimS_bind]) (fun _ _=>by kernel_rfl)
def E50 (F:Nat):Ev:=⟨cfg,11,ctOf [(88,ct88 F)],fun _=>[],ctOf [],fun _=>none,fun _=>none⟩
theorem cts50 (F:Nat):CtsOk Tryz.prog (E50 F):=cts_of (l:=[(88,ct88 F)]) (l':=[]) rfl rfl ⟨⟨ok88 F,_,Tryz.func88,rfl,rfl⟩,trivial⟩ trivial
def T50c (F:Nat) (p0:List UInt8) {β:Type} (k:(Za)->Option β):Option β:=
 (Option.bind (T88 F p0 (512:Int)) fun z2=>(k z2.1))
def T50 (F:Nat) (p0:List UInt8):=T50c F p0 some
def ct50 (F:Nat):Ct:=mkC 0 [(.ro .u8)] [] [.str] [] (fun x y=>T50 F x.1) (fun x y (z:Za)=>((z,()),()))
theorem ok50 (F:Nat):Sound Tryz.prog cfg 50 (ct50 F):=
 mkC_ok (E:=E50 F) (lp:=[]) (code:=bodyOf Tryz.f50) Tryz.func50 rfl Tryz.ntmps50 rfl rfl cok (cts50 F) mixed trivial (by kernel_rfl) (fun x y k=>T50c F x.1 k) (fun _ _ _=>by simp only [T50,T50c,oA,oC,oS,oN,elimS_bind]) (fun _ _=>by kernel_rfl)
def ord19:Nat->List (Tag×Nat)
 | 9=>[(.p,0),(.c,1),(.p,2),(.p,3),(.c,4),(.p,5),(.c,6),(.p,7),(.r,8),(.w,9),(.p,10),(.p,11),(.p,12),(.r,13),(.p,15),(.p,16),(.c,17),(.w,14),(.p,18),(.p,19),(.p,20)]
 | _=>[]
def E19 (F:Nat):Ev:=⟨cfg,74,ctOf [(50,ct50 F),(51,ct51 F)],ord19,ctOf [],fun _=>none,fun _=>none⟩
theorem cts19 (F:Nat):CtsOk Tryz.prog (E19 F):=cts_of (l:=[(50,ct50 F),(51,ct51 F)]) (l':=[]) rfl rfl ⟨⟨ok50 F,_,Tryz.func50,rfl,rfl⟩,⟨⟨ok51 F,_,Tryz.func51,rfl,rfl⟩,trivial⟩⟩ trivial
def L19_2c (F:Nat) (y14:List Za) (y15:Int) (y16:Int) {β:Type} (kA:Int->Option β) (kO:Unit->Option β) (kR:Bool->Option β):Option β:=
 (bif (decide (y16 < y15)) then (Option.bind (ix y14 y16) fun x22=>(bif ((x22.length:Int) != (32:Int)) then (kR false) else (kA (w64 (y16 + (1:Int)))))) else (kO ()))
def L19_2 (F:Nat) (y14:List Za) (y15:Int) (y16:Int):Option ((Int) ⊕ ((Unit) ⊕ (Bool))):=L19_2c F y14 y15 y16 (fun s=>some (.inl s)) (fun z=>some (.inr (.inl z))) (fun z=>some (.inr (.inr z)))
theorem L19_2n (F:Nat) (y14:List Za) (y15:Int) (y16:Int) {β:Type} (kA:Int->Option β) (kO:Unit->Option β) (kR:Bool->Option β):L19_2c F y14 y15 y16 kA kO kR=(L19_2 F y14 y15 y16).bind (elimS kA (elimS kO kR)):=by
 simp only [L19_2,L19_2c,oA,oC,oS,oN,elimS_l,elimS_r,elimS_bind]
def lc19_2 (F:Nat):Lc:=mkR [1,44,45,46] [(.pt 0 []),(.ro .s),.i,.i] [.blk 42 Qf] [1] [(.pt 0 [])] [.blk 42 Qf] [2] [.bo] [] F (fun x y (s:Int)=>L19_2 F x.2.1 x.2.2.1 s) (fun x y=>x.2.2.2.1) (fun x y (z:Unit)=>(((),()),(((y.1.1.1,y.1.1.2.1,()),y.1.2.1,y.1.2.2.1,()),()))) (fun x y (z:Bool)=>((z,()),()))
theorem lo19_2 (F:Nat):LcOk Tryz.prog (E19 F) 0 (lc19_2 F) (cAt (bodyOf Tryz.f19) [1,0,1,1]):=
 mkR_ok (lp:=[]) (id:=0) (b:=cAt (bodyOf Tryz.f19) (0 :: 0 :: [1,0,1,1])) cok (cts19 F) mixed trivial (by kernel_rfl) (by kernel_rfl) (fun x y s=>((),x.2.1,x.2.2.1,s,())) (fun x y s=>(((y.1.1.1,y.1.1.2.1,()),y.1.2.1,y.1.2.2.1,()),())) (fun x y=>rfl) (fun x y=>rfl) (fun x y s kA kO kR=>L19_2c F x.2.1 x.2.2.1 s kA kO kR) (fun x y s kA kO kR=>L19_2n F x.2.1 x.2.2.1 s kA kO kR) (fun _ _ _=>by kernel_rfl)
def T19c (F:Nat) (p0:List UInt8) (p1:Int) (p2:List UInt8) (p3:List Za) {β:Type} (k:Bool->Option β):Option β:=
 (bif ((p0.length:Int) != (32:Int)) then (k false) else (bif (decide ((16:Int) < (p3.length:Int))) then (k false) else (bif (decide (p1 < (0:Int))) then (k false) else (bif (decide ((p3.length:Int)≤p1)) then (k false) else (bif (decide ((p2.length:Int) < (1:Int))) then (k false) else (bif (decide ((65536:Int) < (p2.length:Int))) then (k false) else (Option.bind (iter (fun s=>L19_2 F p3 (p3.length:Int) s) F (0:Int)) fun z23=>elimS (fun z23=>(Option.bind (ix p3 p1) fun x24=>(Option.bind (T50 F p2) fun z25=>(bif (x24 == z25) then (Option.bind (T51 F p3) fun z26=>(k (z26 == p0))) else (k false))))) (fun z23=>(k z23)) z23)))))))
def T19 (F:Nat) (p0:List UInt8) (p1:Int) (p2:List UInt8) (p3:List Za):=T19c F p0 p1 p2 p3 some
def ct19 (F:Nat):Ct:=mkC 0 [(.pr (.pr .str (.pr .i .un)) (.pr (.ro .u8) (.pr (.ro .s) .un)))] [] [.bo] [] (fun x y=>T19 F x.1.1.1 x.1.1.2.1 x.1.2.1 x.1.2.2.1) (fun x y (z:Bool)=>((z,()),()))
theorem ok19 (F:Nat):Sound Tryz.prog cfg 19 (ct19 F):=
 mkC_ok (E:=E19 F) (lp:=[([1,0,1,1],lc19_2 F)]) (code:=bodyOf Tryz.f19) Tryz.func19 rfl Tryz.ntmps19 rfl rfl cok (cts19 F) mixed ⟨lo19_2 F,trivial⟩ (by kernel_rfl) (fun x y k=>T19c F x.1.1.1 x.1.1.2.1 x.1.2.1 x.1.2.2.1 k) (fun _ _ _=>by simp only [T19,T19c,oA,oC,oS,oN,elimS_bind]) (fun _ _=>by kernel_rfl)
def E21 (F:Nat):Ev:=⟨cfg,35,ctOf [(17,ct17 F),(19,ct19 F)],fun _=>[],ctOf [],fun _=>none,fun _=>none⟩
theorem cts21 (F:Nat):CtsOk Tryz.prog (E21 F):=cts_of (l:=[(17,ct17 F),(19,ct19 F)]) (l':=[]) rfl rfl ⟨⟨ok17 F,_,Tryz.func17,rfl,rfl⟩,⟨⟨ok19 F,_,Tryz.func19,rfl,rfl⟩,trivial⟩⟩ trivial
def T21c (F:Nat) (p0:List UInt8) (p1:Int) (p2:Int) (p3:Int) (p4:Int) (p5:List Zc) (p6:List UInt8) (p7:Int) (p8:List UInt8) (p9:List Za) {β:Type} (k:Bool->Option β):Option β:=
 (Option.bind (T17 F p0 p1 p2 p3 p4 p5) fun z3=>(bif z3 then (Option.bind (T19 F p6 p7 p8 p9) fun z4=>(bif z4 then (bif (p6 == p0) then (bif ((p9.length:Int) == p4) then (k ((p8.length:Int) == p2)) else (k false)) else (k false)) else (k false))) else (k false)))
def T21 (F:Nat) (p0:List UInt8) (p1:Int) (p2:Int) (p3:Int) (p4:Int) (p5:List Zc) (p6:List UInt8) (p7:Int) (p8:List UInt8) (p9:List Za):=T21c F p0 p1 p2 p3 p4 p5 p6 p7 p8 p9 some
def ct21 (F:Nat):Ct:=mkC 0 [(.pr .str (.pr .i (.pr .i (.pr .i (.pr .i (.pr (.ro Qb) .un)))))),(.pr (.pr .str (.pr .i .un)) (.pr (.ro .u8) (.pr (.ro .s) .un)))] [] [.bo] [] (fun x y=>T21 F x.1.1 x.1.2.1 x.1.2.2.1 x.1.2.2.2.1 x.1.2.2.2.2.1 x.1.2.2.2.2.2.1 x.2.1.1.1 x.2.1.1.2.1 x.2.1.2.1 x.2.1.2.2.1) (fun x y (z:Bool)=>((z,()),()))
theorem ok21 (F:Nat):Sound Tryz.prog cfg 21 (ct21 F):=
 mkC_ok (E:=E21 F) (lp:=[]) (code:=bodyOf Tryz.f21) Tryz.func21 rfl Tryz.ntmps21 rfl rfl cok (cts21 F) mixed trivial (by kernel_rfl) (fun x y k=>T21c F x.1.1 x.1.2.1 x.1.2.2.1 x.1.2.2.2.1 x.1.2.2.2.2.1 x.1.2.2.2.2.2.1 x.2.1.1.1 x.2.1.1.2.1 x.2.1.2.1 x.2.1.2.2.1 k) (fun _ _ _=>by simp only [T21,T21c,oA,oC,oS,oN,elimS_bind]) (fun _ _=>by kernel_rfl)
def E138 (F:Nat):Ev:=⟨cfg,30,ctOf [],fun _=>[],ctOf [],fun _=>none,fun _=>none⟩
theorem cts138 (F:Nat):CtsOk Tryz.prog (E138 F):=cts_of (l:=[]) (l':=[]) rfl rfl trivial trivial
def L138_2c (F:Nat) (y8:UInt8) (y9:Int) (y10:Int) (y11:Int) {β:Type} (kA:(Int×Int×Int)->Option β) (kO:Int->Option β):Option β:=
 (bif (decide (y11 < (8:Int))) then (Option.bind (gnn y11) fun x13=>(bif (((shr8 y8 x13) &&& (UInt8.ofNat 1)) == (UInt8.ofNat 1)) then (bif (decide ((255:Int) < (w64 (y9 * 2 ^ min ((UInt64.ofNat 1).toNat) 64)))) then (kA ((ixor (w64 (y9 * 2 ^ min ((UInt64.ofNat 1).toNat) 64)) (285:Int)),(ixor y10 y9),(w64 (y11 + (1:Int))))) else (kA ((w64 (y9 * 2 ^ min ((UInt64.ofNat 1).toNat) 64)),(ixor y10 y9),(w64 (y11 + (1:Int)))))) else (bif (decide ((255:Int) < (w64 (y9 * 2 ^ min ((UInt64.ofNat 1).toNat) 64)))) then (kA ((ixor (w64 (y9 * 2 ^ min ((UInt64.ofNat 1).toNat) 64)) (285:Int)),y10,(w64 (y11 + (1:Int))))) else (kA ((w64 (y9 * 2 ^ min ((UInt64.ofNat 1).toNat) 64)),y10,(w64 (y11 + (1:Int)))))))) else (kO y10))
def L138_2 (F:Nat) (y8:UInt8) (y9:Int) (y10:Int) (y11:Int):=L138_2c F y8 y9 y10 y11 (fun s=>some (Sum.inl s)) (fun z=>some (Sum.inr z))
def lc138_2 (F:Nat):Lc:=mkL [1,5,6,7] [.u8,.i,.i,.i] [] [6] [.i] [] F (fun x y (s:Int×Int×Int)=>L138_2 F x.1 s.1 s.2.1 s.2.2) (fun x y=>(x.2.1,x.2.2.1,x.2.2.2.1)) (fun x y (z:Int)=>((z,()),()))
theorem lo138_2 (F:Nat):LcOk Tryz.prog (E138 F) 0 (lc138_2 F) (cAt (bodyOf Tryz.f138) [1,0,1,1]):=
 mkL_ok (lp:=[]) (id:=0) (b:=cAt (bodyOf Tryz.f138) (0 :: 0 :: [1,0,1,1])) cok (cts138 F) mixed trivial (by kernel_rfl) (by kernel_rfl) (fun x y s=>(x.1,s.1,s.2.1,s.2.2,())) (fun x y s=>()) (fun x y=>rfl) (fun x y=>rfl) (fun x y s kA kO=>L138_2c F x.1 s.1 s.2.1 s.2.2 kA kO) (fun _ _ _ _ _=>by simp only [L138_2,L138_2c,oA,oC,oS,oN,elimS_l,elimS_r,elimS_bind]) (fun _ _ _=>by kernel_rfl)
def T138c (F:Nat) (p0:UInt8) (p1:UInt8) {β:Type} (k:UInt8->Option β):Option β:=
 (Option.bind (iter (fun s=>L138_2 F p1 s.1 s.2.1 s.2.2) F ((p0.toNat:Int),(0:Int),(0:Int))) fun z14=>(k (UInt8.ofInt z14)))
def T138 (F:Nat) (p0:UInt8) (p1:UInt8):=T138c F p0 p1 some
def ct138 (F:Nat):Ct:=mkC 0 [.u8,.u8] [] [.u8] [] (fun x y=>T138 F x.1 x.2.1) (fun x y (z:UInt8)=>((z,()),()))
theorem ok138 (F:Nat):Sound Tryz.prog cfg 138 (ct138 F):=
 mkC_ok (E:=E138 F) (lp:=[([1,0,1,1],lc138_2 F)]) (code:=bodyOf Tryz.f138) Tryz.func138 rfl Tryz.ntmps138 rfl rfl cok (cts138 F) mixed ⟨lo138_2 F,trivial⟩ (by kernel_rfl) (fun x y k=>T138c F x.1 x.2.1 k) (fun _ _ _=>by simp only [T138,T138c,oA,oC,oS,oN,elimS_bind]) (fun _ _=>by kernel_rfl)
def E135 (F:Nat):Ev:=⟨cfg,15,ctOf [(138,ct138 F)],fun _=>[],ctOf [],fun _=>none,fun _=>none⟩
theorem cts135 (F:Nat):CtsOk Tryz.prog (E135 F):=cts_of (l:=[(138,ct138 F)]) (l':=[]) rfl rfl ⟨⟨ok138 F,_,Tryz.func138,rfl,rfl⟩,trivial⟩ trivial
def L135_2c (F:Nat) (y6:UInt8) (y7:Int) {β:Type} (kA:Int->Option β) (kO:Unit->Option β) (kR:UInt8->Option β):Option β:=
 (bif (decide (y7 < (256:Int))) then (Option.bind (T138 F y6 (UInt8.ofInt y7)) fun z9=>(bif (z9 == (UInt8.ofNat 1)) then (kR (UInt8.ofInt y7)) else (kA (w64 (y7 + (1:Int)))))) else (kO ()))
def L135_2 (F:Nat) (y6:UInt8) (y7:Int):Option ((Int) ⊕ ((Unit) ⊕ (UInt8))):=L135_2c F y6 y7 (fun s=>some (.inl s)) (fun z=>some (.inr (.inl z))) (fun z=>some (.inr (.inr z)))
theorem L135_2n (F:Nat) (y6:UInt8) (y7:Int) {β:Type} (kA:Int->Option β) (kO:Unit->Option β) (kR:UInt8->Option β):L135_2c F y6 y7 kA kO kR=(L135_2 F y6 y7).bind (elimS kA (elimS kO kR)):=by
 simp only [L135_2,L135_2c,oA,oC,oS,oN,elimS_l,elimS_r,elimS_bind]
def lc135_2 (F:Nat):Lc:=mkR [0,3] [.u8,.i] [] [] [] [] [2] [.u8] [] F (fun x y (s:Int)=>L135_2 F x.1 s) (fun x y=>x.2.1) (fun x y (z:Unit)=>((),())) (fun x y (z:UInt8)=>((z,()),()))
theorem lo135_2 (F:Nat):LcOk Tryz.prog (E135 F) 0 (lc135_2 F) (cAt (bodyOf Tryz.f135) [1,0,1]):=
 mkR_ok (lp:=[]) (id:=0) (b:=cAt (bodyOf Tryz.f135) (0 :: 0 :: [1,0,1])) cok (cts135 F) mixed trivial (by kernel_rfl) (by kernel_rfl) (fun x y s=>(x.1,s,())) (fun x y s=>()) (fun x y=>rfl) (fun x y=>rfl) (fun x y s kA kO kR=>L135_2c F x.1 s kA kO kR) (fun x y s kA kO kR=>L135_2n F x.1 s kA kO kR) (fun _ _ _=>by kernel_rfl)
def T135c (F:Nat) (p0:UInt8) {β:Type} (k:UInt8->Option β):Option β:=
 (Option.bind (iter (fun s=>L135_2 F p0 s) F (1:Int)) fun z10=>elimS (fun z10=>(k (UInt8.ofNat 0))) (fun z10=>(k z10)) z10)
def T135 (F:Nat) (p0:UInt8):=T135c F p0 some
def ct135 (F:Nat):Ct:=mkC 0 [.u8] [] [.u8] [] (fun x y=>T135 F x.1) (fun x y (z:UInt8)=>((z,()),()))
theorem ok135 (F:Nat):Sound Tryz.prog cfg 135 (ct135 F):=
 mkC_ok (E:=E135 F) (lp:=[([1,0,1],lc135_2 F)]) (code:=bodyOf Tryz.f135) Tryz.func135 rfl Tryz.ntmps135 rfl rfl cok (cts135 F) mixed ⟨lo135_2 F,trivial⟩ (by kernel_rfl) (fun x y k=>T135c F x.1 k) (fun _ _ _=>by simp only [T135,T135c,oA,oC,oS,oN,elimS_bind]) (fun _ _=>by kernel_rfl)
def E98 (F:Nat):Ev:=⟨cfg,37,ctOf [(135,ct135 F)],fun _=>[],ctOf [],fun _=>none,fun _=>none⟩
theorem cts98 (F:Nat):CtsOk Tryz.prog (E98 F):=cts_of (l:=[(135,ct135 F)]) (l':=[]) rfl rfl ⟨⟨ok135 F,_,Tryz.func135,rfl,rfl⟩,trivial⟩ trivial
def L98_2c (F:Nat) (y22:Int) (y23:Int) (y24:Int) (y25:List UInt8) {β:Type} (kA:(Int×Za)->Option β) (kO:(Za)->Option β):Option β:=
 (bif (decide (y24 < y22)) then (bif (decide (y23 < y22)) then (bif (y23 == y24) then (Option.bind (inb y25.length y24) fun x33=>(bif (decide (y22≤y23)) then (Option.bind (T135 F (UInt8.ofInt (ixor y23 y24))) fun z34=>(Option.bind (inb (List.set y25 x33 (UInt8.ofNat 1)).length y24) fun x35=>(kA ((w64 (y24 + (1:Int))),(List.set (List.set y25 x33 (UInt8.ofNat 1)) x35 z34))))) else (kA ((w64 (y24 + (1:Int))),(List.set y25 x33 (UInt8.ofNat 1)))))) else (bif (decide (y22≤y23)) then (Option.bind (T135 F (UInt8.ofInt (ixor y23 y24))) fun z36=>(Option.bind (inb y25.length y24) fun x37=>(kA ((w64 (y24 + (1:Int))),(List.set y25 x37 z36))))) else (kA ((w64 (y24 + (1:Int))),y25)))) else (bif (decide (y22≤y23)) then (Option.bind (T135 F (UInt8.ofInt (ixor y23 y24))) fun z38=>(Option.bind (inb y25.length y24) fun x39=>(kA ((w64 (y24 + (1:Int))),(List.set y25 x39 z38))))) else (kA ((w64 (y24 + (1:Int))),y25)))) else (kO y25))
def L98_2 (F:Nat) (y22:Int) (y23:Int) (y24:Int) (y25:List UInt8):=L98_2c F y22 y23 y24 y25 (fun s=>some (Sum.inl s)) (fun z=>some (Sum.inr z))
def lc98_2 (F:Nat):Lc:=mkL [0,1,5,6] [.i,.i,(.rw 0),.i] [.row 5 .u8] [5] [(.rw 0)] [.row 5 .u8] F (fun x y (s:Int×Za)=>L98_2 F x.1 x.2.1 s.1 s.2) (fun x y=>(x.2.2.2.1,y.1)) (fun x y (z:Za)=>(((),()),(z,())))
theorem lo98_2 (F:Nat):LcOk Tryz.prog (E98 F) 0 (lc98_2 F) (cAt (bodyOf Tryz.f98) [1,0,1,1]):=
 mkL_ok (lp:=[]) (id:=0) (b:=cAt (bodyOf Tryz.f98) (0 :: 0 :: [1,0,1,1])) cok (cts98 F) mixed trivial (by kernel_rfl) (by kernel_rfl) (fun x y s=>(x.1,x.2.1,(),s.1,())) (fun x y s=>(s.2,())) (fun x y=>rfl) (fun x y=>rfl) (fun x y s kA kO=>L98_2c F x.1 x.2.1 s.1 s.2 kA kO) (fun _ _ _ _ _=>by simp only [L98_2,L98_2c,oA,oC,oS,oN,elimS_l,elimS_r,elimS_bind]) (fun _ _ _=>by kernel_rfl)
def T98c (F:Nat) (p0:Int) (p1:Int) {β:Type} (k:(Za)->Option β):Option β:=
 (Option.bind (gmake (0:UInt8) p0 p0) fun x21=>(Option.bind (iter (fun s=>L98_2 F p0 p1 s.1 s.2) F ((0:Int),x21)) fun z40=>(k z40)))
def T98 (F:Nat) (p0:Int) (p1:Int):=T98c F p0 p1 some
def ct98 (F:Nat):Ct:=mkC 0 [.i,.i] [] [(.rw 0)] [.row 5 .u8] (fun x y=>T98 F x.1 x.2.1) (fun x y (z:Za)=>(((),()),(z,())))
theorem ok98 (F:Nat):Sound Tryz.prog cfg 98 (ct98 F):=
 mkC_ok (E:=E98 F) (lp:=[([1,0,1,1],lc98_2 F)]) (code:=bodyOf Tryz.f98) Tryz.func98 rfl Tryz.ntmps98 rfl rfl cok (cts98 F) mixed ⟨lo98_2 F,trivial⟩ (by kernel_rfl) (fun x y k=>T98c F x.1 x.2.1 k) (fun _ _ _=>by simp only [T98,T98c,oA,oC,oS,oN,elimS_bind]) (fun _ _=>by kernel_rfl)
def E137 (F:Nat):Ev:=⟨cfg,10,ctOf [],fun _=>[],ctOf [],fun _=>none,fun _=>none⟩
theorem cts137 (F:Nat):CtsOk Tryz.prog (E137 F):=cts_of (l:=[]) (l':=[]) rfl rfl trivial trivial
def T137c (F:Nat) (p0:List Za) {β:Type} (k:Int->Option β):Option β:=
 (bif ((p0.length:Int) == (0:Int)) then (k (0:Int)) else (Option.bind (ix p0 (0:Int)) fun x2=>(k (x2.length:Int))))
def T137 (F:Nat) (p0:List Za):=T137c F p0 some
def ct137 (F:Nat):Ct:=mkC 0 [(.ro Qd)] [] [.i] [] (fun x y=>T137 F x.1) (fun x y (z:Int)=>((z,()),()))
theorem ok137 (F:Nat):Sound Tryz.prog cfg 137 (ct137 F):=
 mkC_ok (E:=E137 F) (lp:=[]) (code:=bodyOf Tryz.f137) Tryz.func137 rfl Tryz.ntmps137 rfl rfl cok (cts137 F) mixed trivial (by kernel_rfl) (fun x y k=>T137c F x.1 k) (fun _ _ _=>by simp only [T137,T137c,oA,oC,oS,oN,elimS_bind]) (fun _ _=>by kernel_rfl)
def E136 (F:Nat):Ev:=⟨cfgR,19,ctOf [],fun _=>[],ctOf [],fun _=>none,fun _=>none⟩
theorem cts136 (F:Nat):CtsOk Tryz.prog (E136 F):=cts_of (l:=[]) (l':=[]) rfl rfl trivial trivial
def L136_2c (F:Nat) (y10:Int) (y11:Int) (y12:Int) (y13:List (Option Za)×List Nat) {β:Type} (kA:(Int×(List (Option Za)×List Nat))->Option β) (kO:((List (Option Za)×List Nat))->Option β):Option β:=
 (bif (decide (y12 < y10)) then (Option.bind (gmake (0:UInt8) y11 y11) fun x16=>(Option.bind (gapp y13.2 (shO y13.1.length ([0]:List Nat))) fun x17=>(kA ((w64 (y12 + (1:Int))),((y13.1 ++ ([some x16])),x17))))) else (kO y13))
def L136_2 (F:Nat) (y10:Int) (y11:Int) (y12:Int) (y13:List (Option Za)×List Nat):=L136_2c F y10 y11 y12 y13 (fun s=>some (Sum.inl s)) (fun z=>some (Sum.inr z))
def lc136_2 (F:Nat):Lc:=mkL [0,1,5,6] [.i,.i,(.rw 0),.i] [.rr 39 5 .u8] [5] [(.rw 0)] [.rr 39 5 .u8] F (fun x y (s:Int×(List (Option Za)×List Nat))=>L136_2 F x.1 x.2.1 s.1 s.2) (fun x y=>(x.2.2.2.1,y.1)) (fun x y (z:(List (Option Za)×List Nat))=>(((),()),(z,())))
theorem lo136_2 (F:Nat):LcOk Tryz.prog (E136 F) 0 (lc136_2 F) (cAt (bodyOf Tryz.f136) [1,0,1,1]):=
 mkL_ok (lp:=[]) (id:=0) (b:=cAt (bodyOf Tryz.f136) (0 :: 0 :: [1,0,1,1])) cokR (cts136 F) mixed trivial (by kernel_rfl) (by kernel_rfl) (fun x y s=>(x.1,x.2.1,(),s.1,())) (fun x y s=>(s.2,())) (fun x y=>rfl) (fun x y=>rfl) (fun x y s kA kO=>L136_2c F x.1 x.2.1 s.1 s.2 kA kO) (fun _ _ _ _ _=>by simp only [L136_2,L136_2c,oA,oC,oS,oN,elimS_l,elimS_r,elimS_bind]) (fun _ _ _=>by kernel_rfl)
def T136c (F:Nat) (p0:Int) (p1:Int) {β:Type} (k:((List (Option Za)×List Nat))->Option β):Option β:=
 (Option.bind (iter (fun s=>L136_2 F p0 p1 s.1 s.2) F ((0:Int),(([]:List (Option Za)),([]:List Nat)))) fun z18=>(k z18))
def T136 (F:Nat) (p0:Int) (p1:Int):=T136c F p0 p1 some
def ct136 (F:Nat):Ct:=mkC 0 [.i,.i] [] [(.rw 0)] [.rr 39 5 .u8] (fun x y=>T136 F x.1 x.2.1) (fun x y (z:(List (Option Za)×List Nat))=>(((),()),(z,())))
theorem ok136 (F:Nat):Sound Tryz.prog cfg 136 (ct136 F):=
 mkC_ok (E:=E136 F) (lp:=[([1,0,1,1],lc136_2 F)]) (code:=bodyOf Tryz.f136) Tryz.func136 rfl Tryz.ntmps136 rfl rfl cokR (cts136 F) mixed ⟨lo136_2 F,trivial⟩ (by kernel_rfl) (fun x y k=>T136c F x.1 x.2.1 k) (fun _ _ _=>by simp only [T136,T136c,oA,oC,oS,oN,elimS_bind]) (fun _ _=>by kernel_rfl)
def ord99:Nat->List (Tag×Nat)
 | 5=>[(.p,0),(.p,1),(.p,2),(.r,3),(.p,4),(.p,5),(.p,6),(.r,7),(.w,8)]
 | 15=>[(.p,0),(.p,1),(.p,2),(.p,3),(.p,4),(.p,5),(.p,6),(.r,7),(.p,8),(.p,9),(.p,10),(.r,11),(.p,12),(.w,13),(.p,14),(.w,15)]
 | 20=>[(.p,0),(.p,1),(.p,2),(.c,3),(.p,4),(.p,5),(.p,6),(.p,7),(.r,8),(.p,9),(.p,10),(.r,11),(.p,12),(.w,13),(.p,14),(.b,15)]
 | 28=>[(.p,0),(.p,1),(.p,2),(.c,3),(.p,4),(.p,5),(.p,6),(.p,7),(.c,8),(.p,9),(.p,10),(.c,11),(.p,12),(.p,13),(.p,14),(.p,15),(.r,16),(.p,17),(.p,18),(.r,19),(.w,20),(.p,21),(.p,22),(.b,23)]
 | _=>[]
def E99 (F:Nat):Ev:=⟨cfgR,167,ctOf [(137,ct137 F),(136,ct136 F),(135,ct135 F),(138,ct138 F)],ord99,ctOf [],fun _=>none,fun _=>none⟩
theorem cts99 (F:Nat):CtsOk Tryz.prog (E99 F):=cts_of (l:=[(137,ct137 F),(136,ct136 F),(135,ct135 F),(138,ct138 F)]) (l':=[]) rfl rfl ⟨⟨ok137 F,_,Tryz.func137,rfl,rfl⟩,⟨⟨ok136 F,_,Tryz.func136,rfl,rfl⟩,⟨⟨ok135 F,_,Tryz.func135,rfl,rfl⟩,⟨⟨ok138 F,_,Tryz.func138,rfl,rfl⟩,trivial⟩⟩⟩⟩ trivial
def L99_7c (F:Nat) (y209:List Za) (y210:Int) (y211:List (Option Za)×List Nat) {β:Type} (kA:(Int×(List (Option Za)×List Nat))->Option β) (kO:((List (Option Za)×List Nat))->Option β):Option β:=
 (bif (decide (y210 < (y209.length:Int))) then (Option.bind (inb y211.2.length y210) fun x217=>(Option.bind (outG y211.2 x217) fun x218=>(Option.bind (rxG y211.1 x218) fun x219=>(Option.bind (ix y209 y210) fun x220=>(Option.bind (rxG y211.1 x218) fun x221=>(kA ((w64 (y210 + (1:Int))),((List.set y211.1 x218 (some (splice x221 0 x220 (Nat.min x220.length x221.length)))),y211.2)))))))) else (kO y211))
def L99_7 (F:Nat) (y209:List Za) (y210:Int) (y211:List (Option Za)×List Nat):=L99_7c F y209 y210 y211 (fun s=>some (Sum.inl s)) (fun z=>some (Sum.inr z))
def lc99_7 (F:Nat):Lc:=mkL [0,4,5] [(.ro Qd),(.rw 0),.i] [.rr 39 5 .u8] [0,4] [(.ro Qd),(.rw 0)] [.rr 39 5 .u8] F (fun x y (s:Int×(List (Option Za)×List Nat))=>L99_7 F x.1 s.1 s.2) (fun x y=>(x.2.2.1,y.1)) (fun x y (z:(List (Option Za)×List Nat))=>((x.1,(),()),(z,())))
theorem lo99_7 (F:Nat):LcOk Tryz.prog (E99 F) 0 (lc99_7 F) (cAt (bodyOf Tryz.f99) [1,0,1,1]):=
 mkL_ok (lp:=[]) (id:=0) (b:=cAt (bodyOf Tryz.f99) (0 :: 0 :: [1,0,1,1])) cokR (cts99 F) mixed trivial (by kernel_rfl) (by kernel_rfl) (fun x y s=>(x.1,(),s.1,())) (fun x y s=>(s.2,())) (fun x y=>rfl) (fun x y=>rfl) (fun x y s kA kO=>L99_7c F x.1 s.1 s.2 kA kO) (fun _ _ _ _ _=>by simp only [L99_7,L99_7c,oA,oC,oS,oN,elimS_l,elimS_r,elimS_bind]) (fun _ _ _=>by kernel_rfl)
def L99_9c (F:Nat) (y250:Int) (y253:List (Option Za)×List Nat) (y252:Int) {β:Type} (kA:Int->Option β) (kO:Int->Option β):Option β:=
 (bif (decide (y252 < (y253.2.length:Int))) then (Option.bind (inb y253.2.length y252) fun x262=>(Option.bind (outG y253.2 x262) fun x263=>(Option.bind (rxG y253.1 x263) fun x264=>(Option.bind (rxG y253.1 x263) fun x265=>(Option.bind (inb x265.length y250) fun x266=>(Option.bind (rxG y253.1 x263) fun x267=>(Option.bind (x267[x266]?) fun x268=>(bif (x268 == (UInt8.ofNat 0)) then (kA (w64 (y252 + (1:Int)))) else (kO y252))))))))) else (kO y252))
def L99_9 (F:Nat) (y250:Int) (y253:List (Option Za)×List Nat) (y252:Int):=L99_9c F y250 y253 y252 (fun s=>some (Sum.inl s)) (fun z=>some (Sum.inr z))
def lc99_9 (F:Nat):Lc:=mkL [0,4,6,7,8,9] [(.ro Qd),(.rw 0),(.rw 1),.i,.i,.i] [.rr 39 5 .u8,.row 3 .i] [0,4,6,7,8,9] [(.ro Qd),(.rw 0),(.rw 1),.i,.i,.i] [.rr 39 5 .u8,.row 3 .i] F (fun x y (s:Int)=>L99_9 F x.2.2.2.1 y.1 s) (fun x y=>x.2.2.2.2.2.1) (fun x y (z:Int)=>((x.1,(),(),x.2.2.2.1,x.2.2.2.2.1,z,()),(y.1,y.2.1,())))
theorem lo99_9 (F:Nat):LcOk Tryz.prog (E99 F) 0 (lc99_9 F) (cAt (bodyOf Tryz.f99) [0,1,1,0,0,1,0,0,1,0,1,1,1,1]):=
 mkL_ok (lp:=[]) (id:=4) (b:=cAt (bodyOf Tryz.f99) (0 :: 0 :: [0,1,1,0,0,1,0,0,1,0,1,1,1,1])) cokR (cts99 F) mixed trivial (by kernel_rfl) (by kernel_rfl) (fun x y s=>(x.1,(),(),x.2.2.2.1,x.2.2.2.2.1,s,())) (fun x y s=>(y.1,y.2.1,())) (fun x y=>rfl) (fun x y=>rfl) (fun x y s kA kO=>L99_9c F x.2.2.2.1 y.1 s kA kO) (fun _ _ _ _ _=>by simp only [L99_9,L99_9c,oA,oC,oS,oN,elimS_l,elimS_r,elimS_bind]) (fun _ _ _=>by kernel_rfl)
def L99_10c (F:Nat) (y288:Int) (y289:UInt8) (y290:Int) (y291:List (Option Za)×List Nat) {β:Type} (kA:(Int×(List (Option Za)×List Nat))->Option β) (kO:((List (Option Za)×List Nat))->Option β):Option β:=
 (Option.bind (inb y291.2.length y288) fun x311=>(Option.bind (outG y291.2 x311) fun x312=>(Option.bind (rxG y291.1 x312) fun x313=>(Option.bind (rxG y291.1 x312) fun x314=>(bif (decide (y290 < (x314.length:Int))) then (Option.bind (inb y291.2.length y288) fun x315=>(Option.bind (outG y291.2 x315) fun x316=>(Option.bind (rxG y291.1 x316) fun x317=>(Option.bind (inb y291.2.length y288) fun x318=>(Option.bind (outG y291.2 x318) fun x319=>(Option.bind (rxG y291.1 x319) fun x320=>(Option.bind (rxG y291.1 x319) fun x321=>(Option.bind (inb x321.length y290) fun x322=>(Option.bind (rxG y291.1 x319) fun x323=>(Option.bind (x323[x322]?) fun x324=>(Option.bind (T138 F x324 y289) fun z325=>(Option.bind (rxG y291.1 x316) fun x326=>(Option.bind (inb x326.length y290) fun x327=>(Option.bind (rxG y291.1 x316) fun x328=>(kA ((w64 (y290 + (1:Int))),((List.set y291.1 x316 (some (List.set x328 x327 z325))),y291.2))))))))))))))))) else (kO y291))))))
def L99_10 (F:Nat) (y288:Int) (y289:UInt8) (y290:Int) (y291:List (Option Za)×List Nat):=L99_10c F y288 y289 y290 y291 (fun s=>some (Sum.inl s)) (fun z=>some (Sum.inr z))
def lc99_10 (F:Nat):Lc:=mkL [0,4,6,7,8,10,11] [(.ro Qd),(.rw 0),(.rw 1),.i,.i,.u8,.i] [.rr 39 5 .u8,.row 3 .i] [0,4,6,7,8] [(.ro Qd),(.rw 0),(.rw 1),.i,.i] [.rr 39 5 .u8,.row 3 .i] F (fun x y (s:Int×(List (Option Za)×List Nat))=>L99_10 F x.2.2.2.2.1 x.2.2.2.2.2.1 s.1 s.2) (fun x y=>(x.2.2.2.2.2.2.1,y.1)) (fun x y (z:(List (Option Za)×List Nat))=>((x.1,(),(),x.2.2.2.1,x.2.2.2.2.1,()),(z,y.2.1,())))
theorem lo99_10 (F:Nat):LcOk Tryz.prog (E99 F) 0 (lc99_10 F) (cAt (bodyOf Tryz.f99) [1,0,1,1,1,1,1,1,0,0,1,0,0,1,0,1,1,1,1]):=
 mkL_ok (lp:=[]) (id:=6) (b:=cAt (bodyOf Tryz.f99) (0 :: 0 :: [1,0,1,1,1,1,1,1,0,0,1,0,0,1,0,1,1,1,1])) cokR (cts99 F) mixed trivial (by kernel_rfl) (by kernel_rfl) (fun x y s=>(x.1,(),(),x.2.2.2.1,x.2.2.2.2.1,x.2.2.2.2.2.1,s.1,())) (fun x y s=>(s.2,y.2.1,())) (fun x y=>rfl) (fun x y=>rfl) (fun x y s kA kO=>L99_10c F x.2.2.2.2.1 x.2.2.2.2.2.1 s.1 s.2 kA kO) (fun _ _ _ _ _=>by simp only [L99_10,L99_10c,oA,oC,oS,oN,elimS_l,elimS_r,elimS_bind]) (fun _ _ _=>by kernel_rfl)
def L99_12c (F:Nat) (y353:Int) (y354:Int) (y355:UInt8) (y356:Int) (y357:List (Option Za)×List Nat) {β:Type} (kA:(Int×(List (Option Za)×List Nat))->Option β) (kO:((List (Option Za)×List Nat))->Option β):Option β:=
 (bif (y354 != y353) then (Option.bind (inb y357.2.length y354) fun x384=>(Option.bind (outG y357.2 x384) fun x385=>(Option.bind (rxG y357.1 x385) fun x386=>(Option.bind (rxG y357.1 x385) fun x387=>(bif (decide (y356 < (x387.length:Int))) then (Option.bind (inb y357.2.length y354) fun x388=>(Option.bind (outG y357.2 x388) fun x389=>(Option.bind (rxG y357.1 x389) fun x390=>(Option.bind (inb y357.2.length y354) fun x391=>(Option.bind (outG y357.2 x391) fun x392=>(Option.bind (rxG y357.1 x392) fun x393=>(Option.bind (rxG y357.1 x392) fun x394=>(Option.bind (inb x394.length y356) fun x395=>(Option.bind (rxG y357.1 x392) fun x396=>(Option.bind (x396[x395]?) fun x397=>(Option.bind (inb y357.2.length y353) fun x398=>(Option.bind (outG y357.2 x398) fun x399=>(Option.bind (rxG y357.1 x399) fun x400=>(Option.bind (rxG y357.1 x399) fun x401=>(Option.bind (inb x401.length y356) fun x402=>(Option.bind (rxG y357.1 x399) fun x403=>(Option.bind (x403[x402]?) fun x404=>(Option.bind (T138 F y355 x404) fun z405=>(Option.bind (rxG y357.1 x389) fun x406=>(Option.bind (inb x406.length y356) fun x407=>(Option.bind (rxG y357.1 x389) fun x408=>(kA ((w64 (y356 + (1:Int))),((List.set y357.1 x389 (some (List.set x408 x407 (x397 ^^^ z405)))),y357.2)))))))))))))))))))))))) else (kO y357)))))) else (kO y357))
def L99_12 (F:Nat) (y353:Int) (y354:Int) (y355:UInt8) (y356:Int) (y357:List (Option Za)×List Nat):=L99_12c F y353 y354 y355 y356 y357 (fun s=>some (Sum.inl s)) (fun z=>some (Sum.inr z))
def lc99_12 (F:Nat):Lc:=mkL [0,4,6,7,8,12,13,14] [(.ro Qd),(.rw 0),(.rw 1),.i,.i,.i,.u8,.i] [.rr 39 5 .u8,.row 3 .i] [0,4,6,7,8,12] [(.ro Qd),(.rw 0),(.rw 1),.i,.i,.i] [.rr 39 5 .u8,.row 3 .i] F (fun x y (s:Int×(List (Option Za)×List Nat))=>L99_12 F x.2.2.2.2.1 x.2.2.2.2.2.1 x.2.2.2.2.2.2.1 s.1 s.2) (fun x y=>(x.2.2.2.2.2.2.2.1,y.1)) (fun x y (z:(List (Option Za)×List Nat))=>((x.1,(),(),x.2.2.2.1,x.2.2.2.2.1,x.2.2.2.2.2.1,()),(z,y.2.1,())))
theorem lo99_12 (F:Nat):LcOk Tryz.prog (E99 F) 0 (lc99_12 F) (cAt (bodyOf Tryz.f99) [1,1,0,0,1,0,0,1,0,1,1,1,1,1,1,1,0,0,1,0,0,1,0,1,1,1,1]):=
 mkL_ok (lp:=[]) (id:=10) (b:=cAt (bodyOf Tryz.f99) (0 :: 0 :: [1,1,0,0,1,0,0,1,0,1,1,1,1,1,1,1,0,0,1,0,0,1,0,1,1,1,1])) cokR (cts99 F) mixed trivial (by kernel_rfl) (by kernel_rfl) (fun x y s=>(x.1,(),(),x.2.2.2.1,x.2.2.2.2.1,x.2.2.2.2.2.1,x.2.2.2.2.2.2.1,s.1,())) (fun x y s=>(s.2,y.2.1,())) (fun x y=>rfl) (fun x y=>rfl) (fun x y s kA kO=>L99_12c F x.2.2.2.2.1 x.2.2.2.2.2.1 x.2.2.2.2.2.2.1 s.1 s.2 kA kO) (fun _ _ _ _ _=>by simp only [L99_12,L99_12c,oA,oC,oS,oN,elimS_l,elimS_r,elimS_bind]) (fun _ _ _=>by kernel_rfl)
def L99_11c (F:Nat) (y331:Int) (y332:Int) (y333:Int) (y334:List (Option Za)×List Nat) {β:Type} (kA:(Int×(List (Option Za)×List Nat))->Option β) (kO:((List (Option Za)×List Nat))->Option β):Option β:=
 (bif (decide (y333 < (y334.2.length:Int))) then (Option.bind (inb y334.2.length y333) fun x344=>(Option.bind (outG y334.2 x344) fun x345=>(Option.bind (rxG y334.1 x345) fun x346=>(Option.bind (rxG y334.1 x345) fun x347=>(Option.bind (inb x347.length y331) fun x348=>(Option.bind (rxG y334.1 x345) fun x349=>(Option.bind (x349[x348]?) fun x350=>(Option.bind (iter (fun s=>L99_12 F y332 y333 x350 s.1 s.2) F ((0:Int),y334)) fun z409=>(kA ((w64 (y333 + (1:Int))),z409)))))))))) else (kO y334))
def L99_11 (F:Nat) (y331:Int) (y332:Int) (y333:Int) (y334:List (Option Za)×List Nat):=L99_11c F y331 y332 y333 y334 (fun s=>some (Sum.inl s)) (fun z=>some (Sum.inr z))
def lc99_11 (F:Nat):Lc:=mkL [0,4,6,7,8,12] [(.ro Qd),(.rw 0),(.rw 1),.i,.i,.i] [.rr 39 5 .u8,.row 3 .i] [0,4,6,7] [(.ro Qd),(.rw 0),(.rw 1),.i] [.rr 39 5 .u8,.row 3 .i] F (fun x y (s:Int×(List (Option Za)×List Nat))=>L99_11 F x.2.2.2.1 x.2.2.2.2.1 s.1 s.2) (fun x y=>(x.2.2.2.2.2.1,y.1)) (fun x y (z:(List (Option Za)×List Nat))=>((x.1,(),(),x.2.2.2.1,()),(z,y.2.1,())))
theorem lo99_11 (F:Nat):LcOk Tryz.prog (E99 F) 0 (lc99_11 F) (cAt (bodyOf Tryz.f99) [1,0,1,1,1,1,1,1,1,0,0,1,0,0,1,0,1,1,1,1]):=
 mkL_ok (lp:=[([1,1,0,0,1,0,0,1,0,1,1,1,1,1,1,1,0,0,1,0,0,1,0,1,1,1,1],lc99_12 F)]) (id:=8) (b:=cAt (bodyOf Tryz.f99) (0 :: 0 :: [1,0,1,1,1,1,1,1,1,0,0,1,0,0,1,0,1,1,1,1])) cokR (cts99 F) mixed ⟨lo99_12 F,trivial⟩ (by kernel_rfl) (by kernel_rfl) (fun x y s=>(x.1,(),(),x.2.2.2.1,x.2.2.2.2.1,s.1,())) (fun x y s=>(s.2,y.2.1,())) (fun x y=>rfl) (fun x y=>rfl) (fun x y s kA kO=>L99_11c F x.2.2.2.1 x.2.2.2.2.1 s.1 s.2 kA kO) (fun _ _ _ _ _=>by simp only [L99_11,L99_11c,oA,oC,oS,oN,elimS_l,elimS_r,elimS_bind]) (fun _ _ _=>by kernel_rfl)
def L99_8c (F:Nat) (y223:List Za) (y224:Int) (y225:List (Option Za)×List Nat) (y226:List Int) {β:Type} (kA:(Int×(List (Option Za)×List Nat)×Zh)->Option β) (kO:((List (Option Za)×List Nat)×Zh)->Option β):Option β:=
 (Option.bind (T137 F y223) fun z248=>(bif (decide (y224 < z248)) then (Option.bind (iter (fun s=>L99_9 F y224 y225 s) F (y226.length:Int)) fun z269=>(bif (z269 == (y225.2.length:Int)) then (kA ((w64 (y224 + (1:Int))),y225,y226)) else (Option.bind (inb y225.2.length z269) fun x270=>(Option.bind (outG y225.2 x270) fun x271=>(Option.bind (rxG y225.1 x271) fun x272=>(Option.bind (inb y225.2.length (y226.length:Int)) fun x273=>(Option.bind (outG y225.2 x273) fun x274=>(Option.bind (rxG y225.1 x274) fun x275=>(Option.bind (inb y225.2.length (y226.length:Int)) fun x276=>(Option.bind (inb (List.set y225.2 x276 x271).length z269) fun x277=>(Option.bind (inb (List.set (List.set y225.2 x276 x271) x277 x274).length (y226.length:Int)) fun x278=>(Option.bind (outG (List.set (List.set y225.2 x276 x271) x277 x274) x278) fun x279=>(Option.bind (rxG y225.1 x279) fun x280=>(Option.bind (rxG y225.1 x279) fun x281=>(Option.bind (inb x281.length y224) fun x282=>(Option.bind (rxG y225.1 x279) fun x283=>(Option.bind (x283[x282]?) fun x284=>(Option.bind (T135 F x284) fun z285=>(Option.bind (iter (fun s=>L99_10 F (y226.length:Int) z285 s.1 s.2) F ((0:Int),(y225.1,(List.set (List.set y225.2 x276 x271) x277 x274)))) fun z329=>(Option.bind (iter (fun s=>L99_11 F y224 (y226.length:Int) s.1 s.2) F ((0:Int),z329)) fun z410=>(Option.bind (gapp y226 ([y224]:List Int)) fun x411=>(kA ((w64 (y224 + (1:Int))),z410,x411))))))))))))))))))))))) else (kO (y225,y226))))
def L99_8 (F:Nat) (y223:List Za) (y224:Int) (y225:List (Option Za)×List Nat) (y226:List Int):=L99_8c F y223 y224 y225 y226 (fun s=>some (Sum.inl s)) (fun z=>some (Sum.inr z))
def lc99_8 (F:Nat):Lc:=mkL [0,4,6,7] [(.ro Qd),(.rw 0),(.rw 1),.i] [.rr 39 5 .u8,.row 3 .i] [4,6] [(.rw 0),(.rw 1)] [.rr 39 5 .u8,.row 3 .i] F (fun x y (s:Int×(List (Option Za)×List Nat)×Zh)=>L99_8 F x.1 s.1 s.2.1 s.2.2) (fun x y=>(x.2.2.2.1,y.1,y.2.1)) (fun x y (z:(List (Option Za)×List Nat)×Zh)=>(((),(),()),(z.1,z.2,())))
theorem lo99_8 (F:Nat):LcOk Tryz.prog (E99 F) 0 (lc99_8 F) (cAt (bodyOf Tryz.f99) [1,0,1,1,1,1]):=
 mkL_ok (lp:=[([0,1,1,0,0,1,0,0,1,0,1,1,1,1],lc99_9 F),([1,0,1,1,1,1,1,1,0,0,1,0,0,1,0,1,1,1,1],lc99_10 F),([1,0,1,1,1,1,1,1,1,0,0,1,0,0,1,0,1,1,1,1],lc99_11 F)]) (id:=2) (b:=cAt (bodyOf Tryz.f99) (0 :: 0 :: [1,0,1,1,1,1])) cokR (cts99 F) mixed ⟨lo99_9 F,⟨lo99_10 F,⟨lo99_11 F,trivial⟩⟩⟩ (by kernel_rfl) (by kernel_rfl) (fun x y s=>(x.1,(),(),s.1,())) (fun x y s=>(s.2.1,s.2.2,())) (fun x y=>rfl) (fun x y=>rfl) (fun x y s kA kO=>L99_8c F x.1 s.1 s.2.1 s.2.2 kA kO) (fun _ _ _ _ _=>by simp only [L99_8,L99_8c,oA,oC,oS,oN,elimS_l,elimS_r,elimS_bind]) (fun _ _ _=>by kernel_rfl)
def T99c (F:Nat) (p0:List Za) {β:Type} (k:(Zd×Zh)->Option β):Option β:=
 (Option.bind (T137 F p0) fun z207=>(Option.bind (T136 F (p0.length:Int) z207) fun z208=>(Option.bind (iter (fun s=>L99_7 F p0 s.1 s.2) F ((0:Int),z208)) fun z222=>(Option.bind (iter (fun s=>L99_8 F p0 s.1 s.2.1 s.2.2) F ((0:Int),z222,([]:List Int))) fun z412=>(Option.bind (mat z412.1.1 z412.1.2) fun x413=>(k (x413,z412.2)))))))
def T99 (F:Nat) (p0:List Za):=T99c F p0 some
def ct99 (F:Nat):Ct:=mkC 0 [(.ro Qd)] [] [(.ro Qd),(.rw 0)] [.row 3 .i] (fun x y=>T99 F x.1) (fun x y (z:Zd×Zh)=>((z.1,(),()),(z.2,())))
theorem ok99 (F:Nat):Sound Tryz.prog cfg 99 (ct99 F):=
 mkC_ok (E:=E99 F) (lp:=[([1,0,1,1],lc99_7 F),([1,0,1,1,1,1],lc99_8 F)]) (code:=bodyOf Tryz.f99) Tryz.func99 rfl Tryz.ntmps99 rfl rfl cokR (cts99 F) mixed ⟨lo99_7 F,⟨lo99_8 F,trivial⟩⟩ (by kernel_rfl) (fun x y k=>T99c F x.1 k) (fun _ _ _=>by simp only [T99,T99c,oA,oC,oS,oN,elimS_bind]) (fun _ _=>by kernel_rfl)
def ord56:Nat->List (Tag×Nat)
 | 5=>[(.p,0),(.p,1),(.p,2),(.p,3),(.p,4),(.r,5),(.p,7),(.p,8),(.p,9),(.c,10),(.w,6),(.w,11),(.w,12),(.w,13),(.p,14)]
 | _=>[]
def E56 (F:Nat):Ev:=⟨cfg,54,ctOf [(98,ct98 F),(99,ct99 F)],ord56,ctOf [],fun _=>none,fun _=>none⟩
theorem cts56 (F:Nat):CtsOk Tryz.prog (E56 F):=cts_of (l:=[(98,ct98 F),(99,ct99 F)]) (l':=[]) rfl rfl ⟨⟨ok98 F,_,Tryz.func98,rfl,rfl⟩,⟨⟨ok99 F,_,Tryz.func99,rfl,rfl⟩,trivial⟩⟩ trivial
def L56_3c (F:Nat) (y29:Int) (y30:List Int) (y31:List Za) (y32:Int) (y33:List Za) {β:Type} (kA:Zm->Option β) (kO:(Zd)->Option β):Option β:=
 (bif (decide (y32 < y29)) then (Option.bind (ix y30 y32) fun x39=>(Option.bind (ix y31 y32) fun x40=>(Option.bind (T98 F y29 x39) fun z41=>(Option.bind (gapp z41 x40) fun x42=>(Option.bind (gapp y33 ([x42]:List Za)) fun x43=>(kA ((w64 (y32 + (1:Int))),x43))))))) else (kO y33))
def L56_3 (F:Nat) (y29:Int) (y30:List Int) (y31:List Za) (y32:Int) (y33:List Za):=L56_3c F y29 y30 y31 y32 y33 (fun s=>some (Sum.inl s)) (fun z=>some (Sum.inr z))
def lc56_3 (F:Nat):Lc:=mkL [0,1,2,7,8] [.i,(.ro .i),(.ro Qd),(.rw 0),.i] [.row 39 Qd] [0,7] [.i,(.rw 0)] [.row 39 Qd] F (fun x y (s:Int×Zd)=>L56_3 F x.1 x.2.1 x.2.2.1 s.1 s.2) (fun x y=>(x.2.2.2.2.1,y.1)) (fun x y (z:Zd)=>((x.1,(),()),(z,())))
theorem lo56_3 (F:Nat):LcOk Tryz.prog (E56 F) 0 (lc56_3 F) (cAt (bodyOf Tryz.f56) [1,0,1,1]):=
 mkL_ok (lp:=[]) (id:=0) (b:=cAt (bodyOf Tryz.f56) (0 :: 0 :: [1,0,1,1])) cok (cts56 F) mixed trivial (by kernel_rfl) (by kernel_rfl) (fun x y s=>(x.1,x.2.1,x.2.2.1,(),s.1,())) (fun x y s=>(s.2,())) (fun x y=>rfl) (fun x y=>rfl) (fun x y s kA kO=>L56_3c F x.1 x.2.1 x.2.2.1 s.1 s.2 kA kO) (fun _ _ _ _ _=>by simp only [L56_3,L56_3c,oA,oC,oS,oN,elimS_l,elimS_r,elimS_bind]) (fun _ _ _=>by kernel_rfl)
def L56_4c (F:Nat) (y46:Int) (y47:List Za) (y48:Int) (y49:List Za) {β:Type} (kA:Zm->Option β) (kO:(Zd)->Option β):Option β:=
 (bif (decide (y48 < y46)) then (Option.bind (ix y47 y48) fun x53=>(Option.bind (gsl x53 y46 (x53.length:Int)) fun x54=>(Option.bind (gapp y49 ([x54]:List Za)) fun x55=>(kA ((w64 (y48 + (1:Int))),x55))))) else (kO y49))
def L56_4 (F:Nat) (y46:Int) (y47:List Za) (y48:Int) (y49:List Za):=L56_4c F y46 y47 y48 y49 (fun s=>some (Sum.inl s)) (fun z=>some (Sum.inr z))
def lc56_4 (F:Nat):Lc:=mkL [0,9,11,12] [.i,(.ro Qd),(.rw 0),.i] [.row 39 Qd] [11] [(.rw 0)] [.row 39 Qd] F (fun x y (s:Int×Zd)=>L56_4 F x.1 x.2.1 s.1 s.2) (fun x y=>(x.2.2.2.1,y.1)) (fun x y (z:Zd)=>(((),()),(z,())))
theorem lo56_4 (F:Nat):LcOk Tryz.prog (E56 F) 0 (lc56_4 F) (cAt (bodyOf Tryz.f56) [1,0,1,1,1,1,1]):=
 mkL_ok (lp:=[]) (id:=2) (b:=cAt (bodyOf Tryz.f56) (0 :: 0 :: [1,0,1,1,1,1,1])) cok (cts56 F) mixed trivial (by kernel_rfl) (by kernel_rfl) (fun x y s=>(x.1,x.2.1,(),s.1,())) (fun x y s=>(s.2,())) (fun x y=>rfl) (fun x y=>rfl) (fun x y s kA kO=>L56_4c F x.1 x.2.1 s.1 s.2 kA kO) (fun _ _ _ _ _=>by simp only [L56_4,L56_4c,oA,oC,oS,oN,elimS_l,elimS_r,elimS_bind]) (fun _ _ _=>by kernel_rfl)
def T56c (F:Nat) (p0:Int) (p1:List Int) (p2:List Za) {β:Type} (k:(Zd)->Option β):Option β:=
 (Option.bind (iter (fun s=>L56_3 F p0 p1 p2 s.1 s.2) F ((0:Int),([]:List Za))) fun z44=>(Option.bind (T99 F z44) fun z45=>(Option.bind (iter (fun s=>L56_4 F p0 z45.1 s.1 s.2) F ((0:Int),([]:List Za))) fun z56=>(k z56))))
def T56 (F:Nat) (p0:Int) (p1:List Int) (p2:List Za):=T56c F p0 p1 p2 some
def ct56 (F:Nat):Ct:=mkC 0 [.i,(.ro .i),(.ro Qd)] [] [(.rw 0)] [.row 39 Qd] (fun x y=>T56 F x.1 x.2.1 x.2.2.1) (fun x y (z:Zd)=>(((),()),(z,())))
theorem ok56 (F:Nat):Sound Tryz.prog cfg 56 (ct56 F):=
 mkC_ok (E:=E56 F) (lp:=[([1,0,1,1],lc56_3 F),([1,0,1,1,1,1,1],lc56_4 F)]) (code:=bodyOf Tryz.f56) Tryz.func56 rfl Tryz.ntmps56 rfl rfl cok (cts56 F) mixed ⟨lo56_3 F,⟨lo56_4 F,trivial⟩⟩ (by kernel_rfl) (fun x y k=>T56c F x.1 x.2.1 x.2.2.1 k) (fun _ _ _=>by simp only [T56,T56c,oA,oC,oS,oN,elimS_bind]) (fun _ _=>by kernel_rfl)
def ord120:Nat->List (Tag×Nat)
 | 9=>[(.p,0),(.p,1),(.p,2),(.p,3),(.p,4),(.c,5),(.p,6),(.p,7),(.p,8),(.r,9),(.p,10),(.p,11),(.p,12),(.r,13),(.p,14),(.p,15),(.r,16),(.w,17),(.p,18),(.p,19),(.b,20)]
 | _=>[]
def E120 (F:Nat):Ev:=⟨cfg,52,ctOf [(98,ct98 F),(138,ct138 F)],ord120,ctOf [],fun _=>none,fun _=>none⟩
theorem cts120 (F:Nat):CtsOk Tryz.prog (E120 F):=cts_of (l:=[(98,ct98 F),(138,ct138 F)]) (l':=[]) rfl rfl ⟨⟨ok98 F,_,Tryz.func98,rfl,rfl⟩,⟨⟨ok138 F,_,Tryz.func138,rfl,rfl⟩,trivial⟩⟩ trivial
def L120_4c (F:Nat) (y40:List Za) (y41:Int) (y43:List UInt8) (y42:Int) (y44:List UInt8) {β:Type} (kA:(Int×Za)->Option β) (kO:(Za)->Option β):Option β:=
 (bif (decide (y42 < (y40.length:Int))) then (Option.bind (inb y44.length y41) fun x53=>(Option.bind (y44[x53]?) fun x54=>(Option.bind (inb y43.length y42) fun x55=>(Option.bind (y43[x55]?) fun x56=>(Option.bind (ix y40 y42) fun x57=>(Option.bind (ix x57 y41) fun x58=>(Option.bind (T138 F x56 x58) fun z59=>(Option.bind (inb y44.length y41) fun x60=>(kA ((w64 (y42 + (1:Int))),(List.set y44 x60 (x54 ^^^ z59)))))))))))) else (kO y44))
def L120_4 (F:Nat) (y40:List Za) (y41:Int) (y43:List UInt8) (y42:Int) (y44:List UInt8):=L120_4c F y40 y41 y43 y42 y44 (fun s=>some (Sum.inl s)) (fun z=>some (Sum.inr z))
def lc120_4 (F:Nat):Lc:=mkL [2,7,8,9,10] [(.ro Qd),(.rw 0),(.rw 1),.i,.i] [.row 5 .u8,.row 5 .u8] [2,7,8,9] [(.ro Qd),(.rw 0),(.rw 1),.i] [.row 5 .u8,.row 5 .u8] F (fun x y (s:Int×Za)=>L120_4 F x.1 x.2.2.2.1 y.1 s.1 s.2) (fun x y=>(x.2.2.2.2.1,y.2.1)) (fun x y (z:Za)=>((x.1,(),(),x.2.2.2.1,()),(y.1,z,())))
theorem lo120_4 (F:Nat):LcOk Tryz.prog (E120 F) 0 (lc120_4 F) (cAt (bodyOf Tryz.f120) [1,0,0,1,0,0,1,0,1,1,1]):=
 mkL_ok (lp:=[]) (id:=2) (b:=cAt (bodyOf Tryz.f120) (0 :: 0 :: [1,0,0,1,0,0,1,0,1,1,1])) cok (cts120 F) mixed trivial (by kernel_rfl) (by kernel_rfl) (fun x y s=>(x.1,(),(),x.2.2.2.1,s.1,())) (fun x y s=>(y.1,s.2,())) (fun x y=>rfl) (fun x y=>rfl) (fun x y s kA kO=>L120_4c F x.1 x.2.2.2.1 y.1 s.1 s.2 kA kO) (fun _ _ _ _ _=>by simp only [L120_4,L120_4c,oA,oC,oS,oN,elimS_l,elimS_r,elimS_bind]) (fun _ _ _=>by kernel_rfl)
def L120_3c (F:Nat) (y35:List Za) (y37:List UInt8) (y36:Int) (y38:List UInt8) {β:Type} (kA:(Int×Za)->Option β) (kO:(Za)->Option β):Option β:=
 (bif (decide (y36 < (y38.length:Int))) then (Option.bind (iter (fun s=>L120_4 F y35 y36 y37 s.1 s.2) F ((0:Int),y38)) fun z61=>(kA ((w64 (y36 + (1:Int))),z61))) else (kO y38))
def L120_3 (F:Nat) (y35:List Za) (y37:List UInt8) (y36:Int) (y38:List UInt8):=L120_3c F y35 y37 y36 y38 (fun s=>some (Sum.inl s)) (fun z=>some (Sum.inr z))
def lc120_3 (F:Nat):Lc:=mkL [2,7,8,9] [(.ro Qd),(.rw 0),(.rw 1),.i] [.row 5 .u8,.row 5 .u8] [8] [(.rw 0)] [.row 5 .u8] F (fun x y (s:Int×Za)=>L120_3 F x.1 y.1 s.1 s.2) (fun x y=>(x.2.2.2.1,y.2.1)) (fun x y (z:Za)=>(((),()),(z,())))
theorem lo120_3 (F:Nat):LcOk Tryz.prog (E120 F) 0 (lc120_3 F) (cAt (bodyOf Tryz.f120) [1,0,1,1,1]):=
 mkL_ok (lp:=[([1,0,0,1,0,0,1,0,1,1,1],lc120_4 F)]) (id:=0) (b:=cAt (bodyOf Tryz.f120) (0 :: 0 :: [1,0,1,1,1])) cok (cts120 F) mixed ⟨lo120_4 F,trivial⟩ (by kernel_rfl) (by kernel_rfl) (fun x y s=>(x.1,(),(),s.1,())) (fun x y s=>(y.1,s.2,())) (fun x y=>rfl) (fun x y=>rfl) (fun x y s kA kO=>L120_3c F x.1 y.1 s.1 s.2 kA kO) (fun _ _ _ _ _=>by simp only [L120_3,L120_3c,oA,oC,oS,oN,elimS_l,elimS_r,elimS_bind]) (fun _ _ _=>by kernel_rfl)
def T120c (F:Nat) (p0:Int) (p1:Int) (p2:List Za) {β:Type} (k:(Za)->Option β):Option β:=
 (Option.bind (T98 F p0 p1) fun z32=>(Option.bind (ix p2 (0:Int)) fun x33=>(Option.bind (gmake (0:UInt8) (x33.length:Int) (x33.length:Int)) fun x34=>(Option.bind (iter (fun s=>L120_3 F p2 z32 s.1 s.2) F ((0:Int),x34)) fun z62=>(k z62)))))
def T120 (F:Nat) (p0:Int) (p1:Int) (p2:List Za):=T120c F p0 p1 p2 some
def ct120 (F:Nat):Ct:=mkC 0 [.i,.i,(.ro Qd)] [] [(.rw 0)] [.row 5 .u8] (fun x y=>T120 F x.1 x.2.1 x.2.2.1) (fun x y (z:Za)=>(((),()),(z,())))
theorem ok120 (F:Nat):Sound Tryz.prog cfg 120 (ct120 F):=
 mkC_ok (E:=E120 F) (lp:=[([1,0,1,1,1],lc120_3 F)]) (code:=bodyOf Tryz.f120) Tryz.func120 rfl Tryz.ntmps120 rfl rfl cok (cts120 F) mixed ⟨lo120_3 F,trivial⟩ (by kernel_rfl) (fun x y k=>T120c F x.1 x.2.1 x.2.2.1 k) (fun _ _ _=>by simp only [T120,T120c,oA,oC,oS,oN,elimS_bind]) (fun _ _=>by kernel_rfl)
def E82 (F:Nat):Ev:=⟨cfg,23,ctOf [(120,ct120 F)],fun _=>[],ctOf [],fun _=>none,fun _=>none⟩
theorem cts82 (F:Nat):CtsOk Tryz.prog (E82 F):=cts_of (l:=[(120,ct120 F)]) (l':=[]) rfl rfl ⟨⟨ok120 F,_,Tryz.func120,rfl,rfl⟩,trivial⟩ trivial
def L82_2c (F:Nat) (y11:Int) (y12:Int) (y13:List Za) (y14:Int) (y15:List Za) {β:Type} (kA:Zm->Option β) (kO:(Zd)->Option β):Option β:=
 (bif (decide (y14 < y12)) then (Option.bind (T120 F y11 y14 y13) fun z18=>(Option.bind (gapp y15 ([z18]:List Za)) fun x19=>(kA ((w64 (y14 + (1:Int))),x19)))) else (kO y15))
def L82_2 (F:Nat) (y11:Int) (y12:Int) (y13:List Za) (y14:Int) (y15:List Za):=L82_2c F y11 y12 y13 y14 y15 (fun s=>some (Sum.inl s)) (fun z=>some (Sum.inr z))
def lc82_2 (F:Nat):Lc:=mkL [0,1,2,7,8] [.i,.i,(.ro Qd),(.rw 0),.i] [.row 39 Qd] [7] [(.rw 0)] [.row 39 Qd] F (fun x y (s:Int×Zd)=>L82_2 F x.1 x.2.1 x.2.2.1 s.1 s.2) (fun x y=>(x.2.2.2.2.1,y.1)) (fun x y (z:Zd)=>(((),()),(z,())))
theorem lo82_2 (F:Nat):LcOk Tryz.prog (E82 F) 0 (lc82_2 F) (cAt (bodyOf Tryz.f82) [1,0,1,1]):=
 mkL_ok (lp:=[]) (id:=0) (b:=cAt (bodyOf Tryz.f82) (0 :: 0 :: [1,0,1,1])) cok (cts82 F) mixed trivial (by kernel_rfl) (by kernel_rfl) (fun x y s=>(x.1,x.2.1,x.2.2.1,(),s.1,())) (fun x y s=>(s.2,())) (fun x y=>rfl) (fun x y=>rfl) (fun x y s kA kO=>L82_2c F x.1 x.2.1 x.2.2.1 s.1 s.2 kA kO) (fun _ _ _ _ _=>by simp only [L82_2,L82_2c,oA,oC,oS,oN,elimS_l,elimS_r,elimS_bind]) (fun _ _ _=>by kernel_rfl)
def T82c (F:Nat) (p0:Int) (p1:Int) (p2:List Za) {β:Type} (k:(Zd)->Option β):Option β:=
 (Option.bind (iter (fun s=>L82_2 F p0 p1 p2 s.1 s.2) F ((0:Int),([]:List Za))) fun z20=>(k z20))
def T82 (F:Nat) (p0:Int) (p1:Int) (p2:List Za):=T82c F p0 p1 p2 some
def ct82 (F:Nat):Ct:=mkC 0 [.i,.i,(.ro Qd)] [] [(.rw 0)] [.row 39 Qd] (fun x y=>T82 F x.1 x.2.1 x.2.2.1) (fun x y (z:Zd)=>(((),()),(z,())))
theorem ok82 (F:Nat):Sound Tryz.prog cfg 82 (ct82 F):=
 mkC_ok (E:=E82 F) (lp:=[([1,0,1,1],lc82_2 F)]) (code:=bodyOf Tryz.f82) Tryz.func82 rfl Tryz.ntmps82 rfl rfl cok (cts82 F) mixed ⟨lo82_2 F,trivial⟩ (by kernel_rfl) (fun x y k=>T82c F x.1 x.2.1 x.2.2.1 k) (fun _ _ _=>by simp only [T82,T82c,oA,oC,oS,oN,elimS_bind]) (fun _ _=>by kernel_rfl)
def E44 (F:Nat):Ev:=⟨cfg,49,ctOf [(82,ct82 F),(50,ct50 F),(51,ct51 F)],fun _=>[],ctOf [],fun _=>none,fun _=>none⟩
theorem cts44 (F:Nat):CtsOk Tryz.prog (E44 F):=cts_of (l:=[(82,ct82 F),(50,ct50 F),(51,ct51 F)]) (l':=[]) rfl rfl ⟨⟨ok82 F,_,Tryz.func82,rfl,rfl⟩,⟨⟨ok50 F,_,Tryz.func50,rfl,rfl⟩,⟨⟨ok51 F,_,Tryz.func51,rfl,rfl⟩,trivial⟩⟩⟩ trivial
def L44_3c (F:Nat) (y52:Int) (y55:List Za) (y53:Int) (y54:List Za) {β:Type} (kA:Zm->Option β) (kO:(Zd)->Option β):Option β:=
 (bif (decide (y53 < y52)) then (Option.bind (inb y55.length y53) fun x60=>(Option.bind (y55[x60]?) fun x61=>(Option.bind (T50 F x61) fun z62=>(Option.bind (gapp y54 ([z62]:List Za)) fun x63=>(kA ((w64 (y53 + (1:Int))),x63)))))) else (kO y54))
def L44_3 (F:Nat) (y52:Int) (y55:List Za) (y53:Int) (y54:List Za):=L44_3c F y52 y55 y53 y54 (fun s=>some (Sum.inl s)) (fun z=>some (Sum.inr z))
def lc44_3 (F:Nat):Lc:=mkL [7,8,18,19,20] [(.rw 0),(.rw 1),(.rw 1),.i,.i] [.row 9 .s,.row 39 Qd] [7,8] [(.rw 0),(.rw 1)] [.row 9 .s,.row 39 Qd] F (fun x y (s:Int×Zd)=>L44_3 F x.2.2.2.1 y.2.1 s.1 s.2) (fun x y=>(x.2.2.2.2.1,y.1)) (fun x y (z:Zd)=>(((),(),()),(z,y.2.1,())))
theorem lo44_3 (F:Nat):LcOk Tryz.prog (E44 F) 0 (lc44_3 F) (cAt (bodyOf Tryz.f44) [1,0,1,1,1]):=
 mkL_ok (lp:=[]) (id:=0) (b:=cAt (bodyOf Tryz.f44) (0 :: 0 :: [1,0,1,1,1])) cok (cts44 F) mixed trivial (by kernel_rfl) (by kernel_rfl) (fun x y s=>((),(),(),x.2.2.2.1,s.1,())) (fun x y s=>(s.2,y.2.1,())) (fun x y=>rfl) (fun x y=>rfl) (fun x y s kA kO=>L44_3c F x.2.2.2.1 y.2.1 s.1 s.2 kA kO) (fun _ _ _ _ _=>by simp only [L44_3,L44_3c,oA,oC,oS,oN,elimS_l,elimS_r,elimS_bind]) (fun _ _ _=>by kernel_rfl)
def L44_4c (F:Nat) (y73:List Za) (y74:Int) (y77:List Za) (y75:Int) (y76:List Zb) {β:Type} (kA:(Int×(List Zb))->Option β) (kO:((List Zb))->Option β):Option β:=
 (bif (decide (y75 < y74)) then (Option.bind (inb y77.length y75) fun x82=>(Option.bind (y77[x82]?) fun x83=>(Option.bind (T51 F y73) fun z84=>(Option.bind (gapp y76 ([((z84,y75,()),x83,y73,())]:List Zb)) fun x85=>(kA ((w64 (y75 + (1:Int))),x85)))))) else (kO y76))
def L44_4 (F:Nat) (y73:List Za) (y74:Int) (y77:List Za) (y75:Int) (y76:List Zb):=L44_4c F y73 y74 y77 y75 y76 (fun s=>some (Sum.inl s)) (fun z=>some (Sum.inr z))
def lc44_4 (F:Nat):Lc:=mkL [7,11,30,31,32] [(.ro .s),(.rw 0),(.rw 1),.i,.i] [.row 42 Qa,.row 39 Qd] [11] [(.rw 0)] [.row 42 Qa] F (fun x y (s:Int×(List Zb))=>L44_4 F x.1 x.2.2.2.1 y.2.1 s.1 s.2) (fun x y=>(x.2.2.2.2.1,y.1)) (fun x y (z:(List Zb))=>(((),()),(z,())))
theorem lo44_4 (F:Nat):LcOk Tryz.prog (E44 F) 0 (lc44_4 F) (cAt (bodyOf Tryz.f44) [1,0,1,1,1,1,1]):=
 mkL_ok (lp:=[]) (id:=2) (b:=cAt (bodyOf Tryz.f44) (0 :: 0 :: [1,0,1,1,1,1,1])) cok (cts44 F) mixed trivial (by kernel_rfl) (by kernel_rfl) (fun x y s=>(x.1,(),(),x.2.2.2.1,s.1,())) (fun x y s=>(s.2,y.2.1,())) (fun x y=>rfl) (fun x y=>rfl) (fun x y s kA kO=>L44_4c F x.1 x.2.2.2.1 y.2.1 s.1 s.2 kA kO) (fun _ _ _ _ _=>by simp only [L44_4,L44_4c,oA,oC,oS,oN,elimS_l,elimS_r,elimS_bind]) (fun _ _ _=>by kernel_rfl)
def T44c (F:Nat) (p0:Int) (p1:Int) (p2:List Za) {β:Type} (k:((List Zb))->Option β):Option β:=
 (Option.bind (T82 F p0 p1 p2) fun z44=>(Option.bind (iter (fun s=>L44_3 F (z44.length:Int) z44 s.1 s.2) F ((0:Int),([]:List Za))) fun z64=>(Option.bind (iter (fun s=>L44_4 F z64 (z44.length:Int) z44 s.1 s.2) F ((0:Int),([]:List Zb))) fun z86=>(k z86))))
def T44 (F:Nat) (p0:Int) (p1:Int) (p2:List Za):=T44c F p0 p1 p2 some
def ct44 (F:Nat):Ct:=mkC 0 [.i,.i,(.ro Qd)] [] [(.rw 0)] [.row 42 Qa] (fun x y=>T44 F x.1 x.2.1 x.2.2.1) (fun x y (z:(List Zb))=>(((),()),(z,())))
theorem ok44 (F:Nat):Sound Tryz.prog cfg 44 (ct44 F):=
 mkC_ok (E:=E44 F) (lp:=[([1,0,1,1,1],lc44_3 F),([1,0,1,1,1,1,1],lc44_4 F)]) (code:=bodyOf Tryz.f44) Tryz.func44 rfl Tryz.ntmps44 rfl rfl cok (cts44 F) mixed ⟨lo44_3 F,⟨lo44_4 F,trivial⟩⟩ (by kernel_rfl) (fun x y k=>T44c F x.1 x.2.1 x.2.2.1 k) (fun _ _ _=>by simp only [T44,T44c,oA,oC,oS,oN,elimS_bind]) (fun _ _=>by kernel_rfl)
def ord25:Nat->List (Tag×Nat)
 | 22=>[(.p,0),(.c,1),(.p,2),(.p,3),(.w,4),(.r,5),(.p,6)]
 | 26=>[(.p,0),(.p,1),(.p,2),(.p,3),(.r,4),(.p,5),(.r,6),(.p,7)]
 | _=>[]
def E25 (F:Nat):Ev:=⟨cfg,106,ctOf [(21,ct21 F),(56,ct56 F),(44,ct44 F)],ord25,ctOf [],fun _=>none,fun _=>none⟩
theorem cts25 (F:Nat):CtsOk Tryz.prog (E25 F):=cts_of (l:=[(21,ct21 F),(56,ct56 F),(44,ct44 F)]) (l':=[]) rfl rfl ⟨⟨ok21 F,_,Tryz.func21,rfl,rfl⟩,⟨⟨ok56 F,_,Tryz.func56,rfl,rfl⟩,⟨⟨ok44 F,_,Tryz.func44,rfl,rfl⟩,trivial⟩⟩⟩ trivial
def L25_6c (F:Nat) (y133:Int) (y141:List Int) (y144:Int) (y129:Bool) (y134:Int) {β:Type} (kA:(Bool×Int)->Option β) (kO:Bool->Option β):Option β:=
 (bif (decide (y134 < y133)) then (Option.bind (inb y141.length y134) fun x149=>(Option.bind (y141[x149]?) fun x150=>(bif y129 then (kA (true,(w64 (y134 + (1:Int))))) else (kA ((x150 == y144),(w64 (y134 + (1:Int)))))))) else (kO y129))
def L25_6 (F:Nat) (y133:Int) (y141:List Int) (y144:Int) (y129:Bool) (y134:Int):=L25_6c F y133 y141 y144 y129 y134 (fun s=>some (Sum.inl s)) (fun z=>some (Sum.inr z))
def lc25_6 (F:Nat):Lc:=mkL [2,6,7,9,10,17,18,19,27,28,29] [(.pt 0 []),(.rw 1),(.rw 2),(.pt 3 []),.bo,(.ro Qa),.i,.i,(.rw 1),.i,.i] [.blk 27 Qe,.row 3 .i,.row 39 Qd,.blk 42 Qf] [2,6,7,9,10,17,18,19] [(.pt 0 []),(.rw 1),(.rw 2),(.pt 3 []),.bo,(.ro Qa),.i,.i] [.blk 27 Qe,.row 3 .i,.row 39 Qd,.blk 42 Qf] F (fun x y (s:Bool×Int)=>L25_6 F x.2.2.2.2.2.2.2.2.2.1 y.2.1 y.2.2.2.1.1.2.1 s.1 s.2) (fun x y=>(x.2.2.2.2.1,x.2.2.2.2.2.2.2.2.2.2.1)) (fun x y (z:Bool)=>(((),(),(),(),z,x.2.2.2.2.2.1,x.2.2.2.2.2.2.1,x.2.2.2.2.2.2.2.1,()),((y.1.1,y.1.2.1,y.1.2.2.1,y.1.2.2.2.1,y.1.2.2.2.2.1,y.1.2.2.2.2.2.1,()),y.2.1,y.2.2.1,((y.2.2.2.1.1.1,y.2.2.2.1.1.2.1,()),y.2.2.2.1.2.1,y.2.2.2.1.2.2.1,()),())))
theorem lo25_6 (F:Nat):LcOk Tryz.prog (E25 F) 0 (lc25_6 F) (cAt (bodyOf Tryz.f25) [1,0,1,1,0,0,1,1,0,0,1,0,1,1,1]):=
 mkL_ok (lp:=[]) (id:=2) (b:=cAt (bodyOf Tryz.f25) (0 :: 0 :: [1,0,1,1,0,0,1,1,0,0,1,0,1,1,1])) cok (cts25 F) mixed trivial (by kernel_rfl) (by kernel_rfl) (fun x y s=>((),(),(),(),s.1,x.2.2.2.2.2.1,x.2.2.2.2.2.2.1,x.2.2.2.2.2.2.2.1,(),x.2.2.2.2.2.2.2.2.2.1,s.2,())) (fun x y s=>((y.1.1,y.1.2.1,y.1.2.2.1,y.1.2.2.2.1,y.1.2.2.2.2.1,y.1.2.2.2.2.2.1,()),y.2.1,y.2.2.1,((y.2.2.2.1.1.1,y.2.2.2.1.1.2.1,()),y.2.2.2.1.2.1,y.2.2.2.1.2.2.1,()),())) (fun x y=>rfl) (fun x y=>rfl) (fun x y s kA kO=>L25_6c F x.2.2.2.2.2.2.2.2.2.1 y.2.1 y.2.2.2.1.1.2.1 s.1 s.2 kA kO) (fun _ _ _ _ _=>by simp only [L25_6,L25_6c,oA,oC,oS,oN,elimS_l,elimS_r,elimS_bind]) (fun _ _ _=>by kernel_rfl)
def L25_5c (F:Nat) (y111:List Zb) (y112:Int) (y114:List UInt8) (y115:Int) (y116:Int) (y117:Int) (y118:Int) (y119:List Zc) (y113:Int) (y120:List Int) (y121:List Za) {β:Type} (kA:(Int×Zh×Zd)->Option β) (kO:(Zh×Zd)->Option β):Option β:=
 (bif (decide (y113 < y112)) then (Option.bind (ix y111 y113) fun x127=>(Option.bind (T21 F y114 y115 y116 y117 y118 y119 x127.1.1 x127.1.2.1 x127.2.1 x127.2.2.1) fun z128=>(Option.bind (iter (fun s=>L25_6 F (y120.length:Int) y120 x127.1.2.1 s.1 s.2) F ((!z128),(0:Int))) fun z151=>(bif (!z151) then (bif (decide ((y120.length:Int) < y117)) then (Option.bind (gapp y120 ([x127.1.2.1]:List Int)) fun x152=>(Option.bind (gapp y121 ([x127.2.1]:List Za)) fun x153=>(kA ((w64 (y113 + (1:Int))),x152,x153)))) else (kA ((w64 (y113 + (1:Int))),y120,y121))) else (kA ((w64 (y113 + (1:Int))),y120,y121)))))) else (kO (y120,y121)))
def L25_5 (F:Nat) (y111:List Zb) (y112:Int) (y114:List UInt8) (y115:Int) (y116:Int) (y117:Int) (y118:Int) (y119:List Zc) (y113:Int) (y120:List Int) (y121:List Za):=L25_5c F y111 y112 y114 y115 y116 y117 y118 y119 y113 y120 y121 (fun s=>some (Sum.inl s)) (fun z=>some (Sum.inr z))
def lc25_5 (F:Nat):Lc:=mkL [2,6,7,17,18,19] [(.pt 0 []),(.rw 1),(.rw 2),(.ro Qa),.i,.i] [.blk 27 Qe,.row 3 .i,.row 39 Qd] [2,6,7] [(.pt 0 []),(.rw 1),(.rw 2)] [.blk 27 Qe,.row 3 .i,.row 39 Qd] F (fun x y (s:Int×Zh×Zd)=>L25_5 F x.2.2.2.1 x.2.2.2.2.1 y.1.1 y.1.2.1 y.1.2.2.1 y.1.2.2.2.1 y.1.2.2.2.2.1 y.1.2.2.2.2.2.1 s.1 s.2.1 s.2.2) (fun x y=>(x.2.2.2.2.2.1,y.2.1,y.2.2.1)) (fun x y (z:Zh×Zd)=>(((),(),(),()),((y.1.1,y.1.2.1,y.1.2.2.1,y.1.2.2.2.1,y.1.2.2.2.2.1,y.1.2.2.2.2.2.1,()),z.1,z.2,())))
theorem lo25_5 (F:Nat):LcOk Tryz.prog (E25 F) 0 (lc25_5 F) (cAt (bodyOf Tryz.f25) [1,0,1,1,1]):=
 mkL_ok (lp:=[([1,0,1,1,0,0,1,1,0,0,1,0,1,1,1],lc25_6 F)]) (id:=0) (b:=cAt (bodyOf Tryz.f25) (0 :: 0 :: [1,0,1,1,1])) cok (cts25 F) mixed ⟨lo25_6 F,trivial⟩ (by kernel_rfl) (by kernel_rfl) (fun x y s=>((),(),(),x.2.2.2.1,x.2.2.2.2.1,s.1,())) (fun x y s=>((y.1.1,y.1.2.1,y.1.2.2.1,y.1.2.2.2.1,y.1.2.2.2.2.1,y.1.2.2.2.2.2.1,()),s.2.1,s.2.2,())) (fun x y=>rfl) (fun x y=>rfl) (fun x y s kA kO=>L25_5c F x.2.2.2.1 x.2.2.2.2.1 y.1.1 y.1.2.1 y.1.2.2.1 y.1.2.2.2.1 y.1.2.2.2.2.1 y.1.2.2.2.2.2.1 s.1 s.2.1 s.2.2 kA kO) (fun _ _ _ _ _=>by simp only [L25_5,L25_5c,oA,oC,oS,oN,elimS_l,elimS_r,elimS_bind]) (fun _ _ _=>by kernel_rfl)
def L25_7c (F:Nat) (y158:Int) (y166:List Za) (y157:Nat×Nat) (y159:Int) {β:Type} (kA:((Nat×Nat)×Int)->Option β) (kO:Unit->Option β) (kR:Int->Option β):Option β:=
 (bif (decide (y159 < y158)) then (Option.bind (inb (y157.2 - y157.1) y159) fun x170=>(Option.bind (y166[(y157.1 + x170)]?) fun x171=>(Option.bind (gmake (0:UInt8) (x171.length:Int) (x171.length:Int)) fun x172=>(bif (x171 != x172) then (kR (9:Int)) else (kA ((y157.1,y157.2),(w64 (y159 + (1:Int))))))))) else (kO ()))
def L25_7 (F:Nat) (y158:Int) (y166:List Za) (y157:Nat×Nat) (y159:Int):Option (((Nat×Nat)×Int) ⊕ ((Unit) ⊕ (Int))):=L25_7c F y158 y166 y157 y159 (fun s=>some (.inl s)) (fun z=>some (.inr (.inl z))) (fun z=>some (.inr (.inr z)))
theorem L25_7n (F:Nat) (y158:Int) (y166:List Za) (y157:Nat×Nat) (y159:Int) {β:Type} (kA:((Nat×Nat)×Int)->Option β) (kO:Unit->Option β) (kR:Int->Option β):L25_7c F y158 y166 y157 y159 kA kO kR=(L25_7 F y158 y166 y157 y159).bind (elimS kA (elimS kO kR)):=by
 simp only [L25_7,L25_7c,oA,oC,oS,oN,elimS_l,elimS_r,elimS_bind]
def lc25_7 (F:Nat):Lc:=mkR [2,13,77,78,79] [(.pt 0 []),(.rw 1),(.rp 1),.i,.i] [.blk 27 Qe,.row 39 Qd] [2,13] [(.pt 0 []),(.rw 1)] [.blk 27 Qe,.row 39 Qd] [4,5] [.ns,.i] [] F (fun x y (s:(Nat×Nat)×Int)=>L25_7 F x.2.2.2.1 y.2.1 s.1 s.2) (fun x y=>(x.2.2.1,x.2.2.2.2.1)) (fun x y (z:Unit)=>(((),(),()),((y.1.1,y.1.2.1,y.1.2.2.1,y.1.2.2.2.1,y.1.2.2.2.2.1,y.1.2.2.2.2.2.1,()),y.2.1,()))) (fun x y (z:Int)=>(((),z,()),()))
theorem lo25_7 (F:Nat):LcOk Tryz.prog (E25 F) 0 (lc25_7 F) (cAt (bodyOf Tryz.f25) [1,0,1,1,1,1,1,1]):=
 mkR_ok (lp:=[]) (id:=4) (b:=cAt (bodyOf Tryz.f25) (0 :: 0 :: [1,0,1,1,1,1,1,1])) cok (cts25 F) mixed trivial (by kernel_rfl) (by kernel_rfl) (fun x y s=>((),(),s.1,x.2.2.2.1,s.2,())) (fun x y s=>((y.1.1,y.1.2.1,y.1.2.2.1,y.1.2.2.2.1,y.1.2.2.2.2.1,y.1.2.2.2.2.2.1,()),y.2.1,())) (fun x y=>rfl) (fun x y=>rfl) (fun x y s kA kO kR=>L25_7c F x.2.2.2.1 y.2.1 s.1 s.2 kA kO kR) (fun x y s kA kO kR=>L25_7n F x.2.2.2.1 y.2.1 s.1 s.2 kA kO kR) (fun _ _ _=>by kernel_rfl)
def T25c (F:Nat) (p0:List UInt8) (p1:Int) (p2:Int) (p3:Int) (p4:Int) (p5:List Zc) (p6:List Zb) {β:Type} (k:(Int×(List Zb))->Option β):Option β:=
 (Option.bind (iter (fun s=>L25_5 F p6 (p6.length:Int) p0 p1 p2 p3 p4 p5 s.1 s.2.1 s.2.2) F ((0:Int),([]:List Int),([]:List Za))) fun z154=>(bif (decide ((z154.1.length:Int) < p3)) then (k ((10:Int),([]:List Zb))) else (Option.bind (T56 F p3 z154.1 z154.2) fun z155=>(Option.bind (gslb z155.length (p5.length:Int) (z155.length:Int)) fun x156=>(Option.bind (iter (fun s=>L25_7 F ((x156.2 - x156.1:Nat):Int) z155 s.1 s.2) F ((x156.1,x156.2),(0:Int))) fun z173=>elimS (fun z173=>(Option.bind (T44 F p3 p4 z155) fun z174=>(Option.bind (inb z174.length (0:Int)) fun x175=>(Option.bind (z174[x175]?) fun x176=>(bif (x176.1.1 != p0) then (k ((9:Int),([]:List Zb))) else (k ((0:Int),z174))))))) (fun z173=>(k (z173,([]:List Zb)))) z173)))))
def T25 (F:Nat) (p0:List UInt8) (p1:Int) (p2:Int) (p3:Int) (p4:Int) (p5:List Zc) (p6:List Zb):=T25c F p0 p1 p2 p3 p4 p5 p6 some
def ct25 (F:Nat):Ct:=mkC 0 [(.pr .str (.pr .i (.pr .i (.pr .i (.pr .i (.pr (.ro Qb) .un)))))),(.ro Qa)] [] [(.rw 0),.i] [.row 42 Qa] (fun x y=>T25 F x.1.1 x.1.2.1 x.1.2.2.1 x.1.2.2.2.1 x.1.2.2.2.2.1 x.1.2.2.2.2.2.1 x.2.1) (fun x y (z:Int×(List Zb))=>(((),z.1,()),(z.2,())))
theorem ok25 (F:Nat):Sound Tryz.prog cfg 25 (ct25 F):=
 mkC_ok (E:=E25 F) (lp:=[([1,0,1,1,1],lc25_5 F),([1,0,1,1,1,1,1,1],lc25_7 F)]) (code:=bodyOf Tryz.f25) Tryz.func25 rfl Tryz.ntmps25 rfl rfl cok (cts25 F) mixed ⟨lo25_5 F,⟨lo25_7 F,trivial⟩⟩ (by kernel_rfl) (fun x y k=>T25c F x.1.1 x.1.2.1 x.1.2.2.1 x.1.2.2.2.1 x.1.2.2.2.2.1 x.1.2.2.2.2.2.1 x.2.1 k) (fun _ _ _=>by simp only [T25,T25c,oA,oC,oS,oN,elimS_bind]) (fun _ _=>by kernel_rfl)
def ord5:Nat->List (Tag×Nat)
 | 15=>[(.p,0),(.p,1),(.p,2),(.p,3),(.p,4),(.p,5),(.p,6),(.r,7),(.p,8),(.p,9),(.p,10),(.r,11),(.w,12),(.p,13),(.p,14),(.p,15),(.p,16),(.p,17),(.p,18),(.p,19),(.r,20),(.p,21),(.w,22),(.p,23),(.p,24),(.p,25)]
 | 24=>[(.p,0),(.p,1),(.p,2),(.r,3),(.r,4),(.p,5),(.p,6),(.p,7),(.p,8),(.r,9),(.r,10),(.p,11)]
 | _=>[]
def E5 (F:Nat):Ev:=⟨cfg,136,ctOf [(8,ct8 F),(15,ct15 F),(23,ct23 F),(24,ct24 F),(17,ct17 F),(14,ct14 F),(25,ct25 F)],ord5,ctOf [],fun _=>none,fun _=>none⟩
theorem cts5 (F:Nat):CtsOk Tryz.prog (E5 F):=cts_of (l:=[(8,ct8 F),(15,ct15 F),(23,ct23 F),(24,ct24 F),(17,ct17 F),(14,ct14 F),(25,ct25 F)]) (l':=[]) rfl rfl ⟨⟨ok8 F,_,Tryz.func8,rfl,rfl⟩,⟨⟨ok15 F,_,Tryz.func15,rfl,rfl⟩,⟨⟨ok23 F,_,Tryz.func23,rfl,rfl⟩,⟨⟨ok24 F,_,Tryz.func24,rfl,rfl⟩,⟨⟨ok17 F,_,Tryz.func17,rfl,rfl⟩,⟨⟨ok14 F,_,Tryz.func14,rfl,rfl⟩,⟨⟨ok25 F,_,Tryz.func25,rfl,rfl⟩,trivial⟩⟩⟩⟩⟩⟩⟩ trivial
def L5_3c (F:Nat) (y59:Int) (y60:Int) (y61:Int) (y62:Bool) (y70:List UInt8) (y71:Int) (y72:List UInt8) (y73:List Za) (y74:List Zb) {β:Type} (kO:Unit->Option β) (kR:Bool->Option β):Option β:=
 (bif y62 then (bif (y60 != (1:Int)) then (kR false) else (Option.bind (T14 F y70 y71 y72 y73 ([]:List UInt8) (0:Int) ([]:List UInt8) ([]:List Za)) fun z81=>(bif (!z81) then (kR false) else (kO ())))) else (bif (y60 != y61) then (kR false) else (bif (y60 == (0:Int)) then (Option.bind (inb y74.length y59) fun x82=>(Option.bind (y74[x82]?) fun x83=>(Option.bind (T14 F y70 y71 y72 y73 x83.1.1 x83.1.2.1 x83.2.1 x83.2.2.1) fun z84=>(bif (!z84) then (kR false) else (bif (y60 != (0:Int)) then (Option.bind (T14 F y70 y71 y72 y73 ([]:List UInt8) (0:Int) ([]:List UInt8) ([]:List Za)) fun z85=>(bif (!z85) then (kR false) else (kO ()))) else (kO ())))))) else (bif (y60 != (0:Int)) then (Option.bind (T14 F y70 y71 y72 y73 ([]:List UInt8) (0:Int) ([]:List UInt8) ([]:List Za)) fun z86=>(bif (!z86) then (kR false) else (kO ()))) else (kO ())))))
def L5_3 (F:Nat) (y59:Int) (y60:Int) (y61:Int) (y62:Bool) (y70:List UInt8) (y71:Int) (y72:List UInt8) (y73:List Za) (y74:List Zb):Option ((Unit) ⊕ (Bool)):=L5_3c F y59 y60 y61 y62 y70 y71 y72 y73 y74 (fun z=>some (.inl z)) (fun z=>some (.inr z))
theorem L5_3n (F:Nat) (y59:Int) (y60:Int) (y61:Int) (y62:Bool) (y70:List UInt8) (y71:Int) (y72:List UInt8) (y73:List Za) (y74:List Zb) {β:Type} (kO:Unit->Option β) (kR:Bool->Option β):L5_3c F y59 y60 y61 y62 y70 y71 y72 y73 y74 kO kR=(L5_3 F y59 y60 y61 y62 y70 y71 y72 y73 y74).bind (elimS kO kR):=by
 simp only [L5_3,L5_3c,oA,oC,oS,oN,elimS_l,elimS_r,elimS_bind]
def lc5_3 (F:Nat):Lc:=mkK [2,3,7,9,10,11,12,72] [.i,(.pt 0 []),(.rw 1),(.pt 2 []),.i,(.rw 3),.i,.bo] [.blk 27 Qe,.row 39 Qd,.blk 42 Qf,.row 42 Qa] [3,7,11,12] [(.pt 0 []),(.rw 1),(.rw 2),.i] [.blk 27 Qe,.row 39 Qd,.row 42 Qa] [6] [.bo] [] (fun x y=>L5_3 F x.1 x.2.2.2.2.1 x.2.2.2.2.2.2.1 x.2.2.2.2.2.2.2.1 y.2.2.1.1.1 y.2.2.1.1.2.1 y.2.2.1.2.1 y.2.2.1.2.2.1 y.2.2.2.1) (fun x y (z:Unit)=>(((),(),(),x.2.2.2.2.2.2.1,()),((y.1.1,y.1.2.1,y.1.2.2.1,y.1.2.2.2.1,y.1.2.2.2.2.1,y.1.2.2.2.2.2.1,()),y.2.1,y.2.2.2.1,()))) (fun x y (z:Bool)=>((z,()),()))
theorem lo5_3 (F:Nat):LcOk Tryz.prog (E5 F) 0 (lc5_3 F) (cAt (bodyOf Tryz.f5) [1,0,1,1,1,1,1,1,1,1]):=
 mkK_ok (lp:=[]) cok (cts5 F) mixed trivial (by kernel_rfl) (fun x y kO kR=>L5_3c F x.1 x.2.2.2.2.1 x.2.2.2.2.2.2.1 x.2.2.2.2.2.2.2.1 y.2.2.1.1.1 y.2.2.1.1.2.1 y.2.2.1.2.1 y.2.2.1.2.2.1 y.2.2.2.1 kO kR) (fun x y kO kR=>L5_3n F x.1 x.2.2.2.2.1 x.2.2.2.2.2.2.1 x.2.2.2.2.2.2.2.1 y.2.2.1.1.1 y.2.2.1.1.2.1 y.2.2.1.2.1 y.2.2.1.2.2.1 y.2.2.2.1 kO kR) (fun _ _=>by kernel_rfl)
def L5_4c (F:Nat) (y88:Int) (y90:List Za) (y91:List Zb) (y89:Int) {β:Type} (kA:Int->Option β) (kO:Unit->Option β) (kR:Bool->Option β):Option β:=
 (bif (decide (y89 < y88)) then (Option.bind (inb y90.length y89) fun x96=>(Option.bind (y90[x96]?) fun x97=>(Option.bind (inb y91.length y89) fun x98=>(Option.bind (y91[x98]?) fun x99=>(bif (x97 != x99.2.1) then (kR false) else (kA (w64 (y89 + (1:Int))))))))) else (kO ()))
def L5_4 (F:Nat) (y88:Int) (y90:List Za) (y91:List Zb) (y89:Int):Option ((Int) ⊕ ((Unit) ⊕ (Bool))):=L5_4c F y88 y90 y91 y89 (fun s=>some (.inl s)) (fun z=>some (.inr (.inl z))) (fun z=>some (.inr (.inr z)))
theorem L5_4n (F:Nat) (y88:Int) (y90:List Za) (y91:List Zb) (y89:Int) {β:Type} (kA:Int->Option β) (kO:Unit->Option β) (kR:Bool->Option β):L5_4c F y88 y90 y91 y89 kA kO kR=(L5_4 F y88 y90 y91 y89).bind (elimS kA (elimS kO kR)):=by
 simp only [L5_4,L5_4c,oA,oC,oS,oN,elimS_l,elimS_r,elimS_bind]
def lc5_4 (F:Nat):Lc:=mkR [7,11,119,120] [(.rw 0),(.rw 1),.i,.i] [.row 39 Qd,.row 42 Qa] [] [] [] [6] [.bo] [] F (fun x y (s:Int)=>L5_4 F x.2.2.1 y.1 y.2.1 s) (fun x y=>x.2.2.2.1) (fun x y (z:Unit)=>((),())) (fun x y (z:Bool)=>((z,()),()))
theorem lo5_4 (F:Nat):LcOk Tryz.prog (E5 F) 0 (lc5_4 F) (cAt (bodyOf Tryz.f5) [1,0,1,1,1,1,1,1,1,1,1,1,1]):=
 mkR_ok (lp:=[]) (id:=0) (b:=cAt (bodyOf Tryz.f5) (0 :: 0 :: [1,0,1,1,1,1,1,1,1,1,1,1,1])) cok (cts5 F) mixed trivial (by kernel_rfl) (by kernel_rfl) (fun x y s=>((),(),x.2.2.1,s,())) (fun x y s=>(y.1,y.2.1,())) (fun x y=>rfl) (fun x y=>rfl) (fun x y s kA kO kR=>L5_4c F x.2.2.1 y.1 y.2.1 s kA kO kR) (fun x y s kA kO kR=>L5_4n F x.2.2.1 y.1 y.2.1 s kA kO kR) (fun _ _ _=>by kernel_rfl)
def T5c (F:Nat) (p0:List UInt8) (p1:Int) (p2:Int) (p3:Int) (p4:Int) (p5:List Zc) (p6:List Zb) (p7:Int) {β:Type} (k:Bool->Option β):Option β:=
 (Option.bind (T8 F) fun z52=>(bif (!z52) then (k false) else (bif (decide ((20:Int) < (p5.length:Int))) then (k true) else (Option.bind (T15 F p6) fun z53=>(bif z53 then (k true) else (Option.bind (T23 F p0 p1 p2 p3 p4 p5 p6) fun z54=>(Option.bind (T24 F p0 p1 p2 p3 p4 p5 p6 p7) fun z55=>(Option.bind (T17 F p0 p1 p2 p3 p4 p5) fun z56=>(bif (!z56) then (bif (z54.1 == (1:Int)) then (bif (z55.2.2.2.2 == (1:Int)) then (bif ((z54.2.length:Int) == (0:Int)) then (Option.bind (T14 F z55.1 z55.2.1 z55.2.2.1 z55.2.2.2.1 ([]:List UInt8) (0:Int) ([]:List UInt8) ([]:List Za)) fun z57=>(k z57)) else (k false)) else (k false)) else (k false)) else (Option.bind (T25 F p0 p1 p2 p3 p4 p5 p6) fun z58=>(bif (z54.1 != z58.1) then (k false) else (bif (decide (p7 < (0:Int))) then (Option.bind (L5_3 F p7 z55.2.2.2.2 z58.1 true z55.1 z55.2.1 z55.2.2.1 z55.2.2.2.1 z58.2) fun z87=>elimS (fun z87=>(bif (z58.1 != (0:Int)) then (k ((z54.2.length:Int) == (0:Int))) else (bif ((z54.2.length:Int) != (p5.length:Int)) then (k false) else (Option.bind (iter (fun s=>L5_4 F (z54.2.length:Int) z54.2 z58.2 s) F (0:Int)) fun z100=>elimS (fun z100=>(k true)) (fun z100=>(k z100)) z100)))) (fun z87=>(k z87)) z87) else (Option.bind (L5_3 F p7 z55.2.2.2.2 z58.1 (decide (p4≤p7)) z55.1 z55.2.1 z55.2.2.1 z55.2.2.2.1 z58.2) fun z101=>elimS (fun z101=>(bif (z58.1 != (0:Int)) then (k ((z54.2.length:Int) == (0:Int))) else (bif ((z54.2.length:Int) != (p5.length:Int)) then (k false) else (Option.bind (iter (fun s=>L5_4 F (z54.2.length:Int) z54.2 z58.2 s) F (0:Int)) fun z102=>elimS (fun z102=>(k true)) (fun z102=>(k z102)) z102)))) (fun z101=>(k z101)) z101)))))))))))))
def T5 (F:Nat) (p0:List UInt8) (p1:Int) (p2:Int) (p3:Int) (p4:Int) (p5:List Zc) (p6:List Zb) (p7:Int):=T5c F p0 p1 p2 p3 p4 p5 p6 p7 some
abbrev cA5:List Sh:=[(.pr .str (.pr .i (.pr .i (.pr .i (.pr .i (.pr (.ro Qb) .un)))))),(.ro Qa),.i]
def ct5 (F:Nat):Ct:=mkC 0 cA5 [] [.bo] [] (fun x y=>T5 F x.1.1 x.1.2.1 x.1.2.2.1 x.1.2.2.2.1 x.1.2.2.2.2.1 x.1.2.2.2.2.2.1 x.2.1 x.2.2.1) (fun x y (z:Bool)=>((z,()),()))
theorem ok5 (F:Nat):Sound Tryz.prog cfg 5 (ct5 F):=
 mkC_ok (E:=E5 F) (lp:=[([1,0,1,1,1,1,1,1,1,1],lc5_3 F),([1,0,1,1,1,1,1,1,1,1,1,1,1],lc5_4 F)]) (code:=bodyOf Tryz.f5) Tryz.func5 rfl Tryz.ntmps5 rfl rfl cok (cts5 F) mixed ⟨lo5_3 F,⟨lo5_4 F,trivial⟩⟩ (by kernel_rfl) (fun x y k=>T5c F x.1.1 x.1.2.1 x.1.2.2.1 x.1.2.2.2.1 x.1.2.2.2.2.1 x.1.2.2.2.2.2.1 x.2.1 x.2.2.1 k) (fun _ _ _=>by simp only [T5,T5c,oA,oC,oS,oN,elimS_bind]) (fun _ _=>by kernel_rfl)
end Go.Proofs.YtpnhgldpeiogbaaGreatDoor
namespace Go.Proofs.YtpnhgldpeiogbaaGreatDoor
open Go.Tw
set_option linter.unusedSimpArgs false
set_option linter.unusedVariables false
structure Rows {α:Type} (rows:List (Option (List α))) (out:List Nat) (gs:List (List α)):Prop where
 len:out.length=gs.length
 at_:∀ (i:Nat) (g:List α),gs[i]? = some g->∃ q:Nat,out[i]? = some q∧rows[q]? = some (some g)
 nd:out.Nodup
section
variable {α:Type} {rows:List (Option (List α))} {out:List Nat} {gs:List (List α)}
theorem Rows.nil:Rows rows [] []:=⟨rfl,fun i g h=>by simp at h,List.nodup_nil⟩
theorem Rows.lt (H:Rows rows out gs) {q:Nat} (h:q ∈ out):q < rows.length:=by
 obtain ⟨i,hi⟩:=List.mem_iff_getElem?.1 h
 have hl:=(List.getElem?_eq_some_iff.1 hi).1
 obtain ⟨q',h1,h2⟩:=H.at_ i _ (List.getElem?_eq_getElem (by rw [← H.len];exact hl))
 rw [hi] at h1;cases h1
 exact (List.getElem?_eq_some_iff.1 h2).1
theorem rxG_of {q:Nat} {g:List α} (h:rows[q]? = some (some g)):rxG rows q=some g:=by unfold rxG;rw [h]
theorem Rows.get (H:Rows rows out gs) {i:Nat} {g:List α} (h:gs[i]? = some g):∃ q,outG out i=some q∧rxG rows q=some g∧out[i]? = some q:=by
 obtain ⟨q,h1,h2⟩:=H.at_ i g h
 exact ⟨q,h1,rxG_of h2,h1⟩
theorem Rows.mat_eq:∀ {out:List Nat} {gs:List (List α)},Rows rows out gs->mat rows out=some gs
 | [],[],_=>rfl
 | [],_ :: _,H=>by have:=H.len;simp at this
 | _ :: _,[],H=>by have:=H.len;simp at this
 | q :: out,g :: gs,H=>by
  obtain ⟨q',h1,h2⟩:=H.at_ 0 g rfl
  simp at h1;subst h1
  have ih:=Rows.mat_eq (out:=out) (gs:=gs) ⟨by have:=H.len;simpa using this,fun i g' h=>by simpa using H.at_ (i + 1) g' (by simpa using h),(List.nodup_cons.1 H.nd).2⟩
  simp [mat,rxG_of h2,ih]
theorem Rows.app (H:Rows rows out gs) (x:List α):Rows (rows ++ [some x]) (out ++ shO rows.length [0]) (gs ++ [x]):=by
 have e:shO rows.length [0]=[rows.length]:=by simp [shO]
 rw [e]
 refine ⟨by simp [H.len],fun i g h=>?_,?_⟩
 ·rcases Nat.lt_or_ge i gs.length with hi | hi
  ·rw [List.getElem?_append_left hi] at h
   obtain ⟨q,h1,h2⟩:=H.at_ i g h
   exact ⟨q,by rw [List.getElem?_append_left (by rw [H.len];exact hi)];exact h1,by rw [List.getElem?_append_left (List.getElem?_eq_some_iff.1 h2).1];exact h2⟩
  ·have hl:=(List.getElem?_eq_some_iff.1 h).1
   simp at hl
   have:i=gs.length:=by omega
   subst this
   simp at h;subst h
   exact ⟨rows.length,by rw [← H.len];simp,by simp⟩
 ·rw [List.nodup_append]
  exact ⟨H.nd,by simp,fun a ha b hb e=>by simp at hb;subst hb;subst e;have:=H.lt ha;omega⟩
theorem nodup_at {l:List Nat} (h:l.Nodup) {i j q:Nat} (hi:l[i]? = some q) (hj:l[j]? = some q):i=j:=by
 obtain ⟨hi1,hi2⟩:=List.getElem?_eq_some_iff.1 hi
 obtain ⟨hj1,hj2⟩:=List.getElem?_eq_some_iff.1 hj
 have hp:=List.pairwise_iff_getElem.1 h
 rcases Nat.lt_trichotomy i j with h' | h' | h'
 ·exact absurd (hi2.trans hj2.symm) (hp i j hi1 hj1 h')
 ·exact h'
 ·exact absurd (hj2.trans hi2.symm) (hp j i hj1 hi1 h')
theorem nodup_of {l:List Nat} (h:∀ i j q:Nat,l[i]? = some q->l[j]? = some q->i=j):l.Nodup:=
 List.pairwise_iff_getElem.2 fun i j hi hj hij e=>by
  have:=h i j l[i] (List.getElem?_eq_getElem hi) (by rw [List.getElem?_eq_getElem hj,e])
  omega
theorem Rows.put (H:Rows rows out gs) {i q:Nat} (hq:out[i]? = some q) (y:List α):Rows (rows.set q (some y)) out (gs.set i y):=by
 have hil:=(List.getElem?_eq_some_iff.1 hq).1
 have hql:=H.lt (List.mem_of_getElem? hq)
 refine ⟨by simp [H.len],fun k g h=>?_,H.nd⟩
 by_cases hk:i=k
 ·subst hk
  rw [List.getElem?_set_self (by rw [← H.len];exact hil)] at h
  cases h
  exact ⟨q,hq,List.getElem?_set_self hql⟩
 ·rw [List.getElem?_set_ne hk] at h
  obtain ⟨q',h1,h2⟩:=H.at_ k g h
  have hne:q ≠ q':=fun e=>hk (nodup_at H.nd hq (e ▸ h1))
  exact ⟨q',h1,by rw [List.getElem?_set_ne hne];exact h2⟩
end
theorem it_again' {σ ρ:Type} {f:σ->Option (σ ⊕ ρ)} {n:Nat} {s s':σ} (h:f s=some (.inl s')):iter f (n + 1) s=iter f n s':=by simp [iter,h]
theorem it_out' {σ ρ:Type} {f:σ->Option (σ ⊕ ρ)} {n:Nat} {s:σ} {r:ρ} (h:f s=some (.inr r)):iter f (n + 1) s=some r:=by simp [iter,h]
theorem iter1 {σ ρ:Type} {f:σ->Option (σ ⊕ ρ)} (R:σ->Prop) (Q:ρ->Prop) (μ:σ->Nat)
  (step:∀ s,R s->(∃ s',f s=some (.inl s')∧R s'∧μ s' < μ s)∨(∃ r,f s=some (.inr r)∧Q r)) :
  ∀ (n:Nat) (s:σ),R s->μ s < n->∃ r,iter f n s=some r∧Q r
 | 0,s,_,h=>by omega
 | n + 1,s,hR,h=>by
  rcases step s hR with ⟨s',h1,h2,h3⟩ | ⟨r,h1,h2⟩
  ·rw [it_again' h1];exact iter1 R Q μ step n s' h2 (by omega)
  ·exact ⟨r,it_out' h1,h2⟩
theorem ixn {α:Type} {l:List α} {i:Nat} {x:α} (h:l[i]? = some x):ix l ((i:Nat):Int)=some x:=by
 have hi:=(List.getElem?_eq_some_iff.1 h).1
 unfold ix
 rw [if_pos (by omega),Int.toNat_natCast];exact h
theorem inbn {n i:Nat} (h:i < n):inb n ((i:Nat):Int)=some i:=by unfold inb;simp [h]
theorem gappn {α:Type} {xs ys:List α} (h:xs.length + ys.length≤1099511627776):gapp xs ys=some (xs ++ ys):=by unfold gapp;rw [if_pos h]
theorem w64n {n:Nat} (h:n < 9223372036854775807):w64 (((n:Nat):Int) + 1)=((n + 1:Nat):Int):=by rw [w64_in (by omega) (by omega)];omega
end Go.Proofs.YtpnhgldpeiogbaaGreatDoor
namespace Go.Proofs.YtpnhgldpeiogbaaGreatDoor
open Go.Tw
set_option linter.unusedSimpArgs false
set_option linter.unusedVariables false
def cls (k:Nat):Int:=2 ^ (k / 4) * (64 + 16 * (k % 4:Nat))
def fc (need:Int):Nat->Nat->Int
 | 0,k=>cls k
 | m + 1,k=>bif decide (cls k < need) then fc need m (k + 1) else cls k
theorem t59 {k:Nat} (hk:k < 39) (F:Nat):T115 F (2 ^ (k / 4):Int) ((k % 4:Nat):Int)=some (cls k,(2 ^ ((k + 1) / 4):Int),(((k + 1) % 4:Nat):Int)):=by
 have:∀ k:Fin 39,T115 0 (2 ^ (k.val / 4):Int) ((k.val % 4:Nat):Int)=some (cls k.val,(2 ^ ((k.val + 1) / 4):Int),(((k.val + 1) % 4:Nat):Int)):=by decide
 exact this ⟨k,hk⟩
theorem loop14 (F:Nat) (need:Int):∀ (m k fuel:Nat),k + m=37->m < fuel->need≤cls 37->iter (fun s:Int×Int×Int=>L37_2 F need s.1 s.2.1 s.2.2) fuel (cls k,(2 ^ ((k + 1) / 4):Int),(((k + 1) % 4:Nat):Int))=some (fc need m k)
 | 0,k,fuel + 1,hk,hf,hn=>by
  have:k=37:=by omega
  subst this
  have h:¬ cls 37 < need:=by omega
  simp [iter,L37_2,L37_2c,h,fc]
 | m + 1,k,fuel + 1,hk,hf,hn=>by
  by_cases h:cls k < need
  ·simp only [iter,L37_2,L37_2c,h,decide_true,cond_true,fc]
   rw [t59 (by omega)]
   simp only [Option.bind_some]
   exact loop14 F need m (k + 1) fuel (by omega) (by omega) hn
  ·simp [iter,L37_2,L37_2c,h,fc]
theorem c42 {j b:Nat} (hj:j < 10) (hb:b < 4):w64 ((64 * 2 ^ j:Int) + w64 (w64 (Int.tdiv (64 * 2 ^ j:Int) 4) * ((b:Nat):Int)))=cls (4 * j + b):=by
 have:∀ (j:Fin 10) (b:Fin 4),w64 ((64 * 2 ^ j.val:Int) + w64 (w64 (Int.tdiv (64 * 2 ^ j.val:Int) 4) * ((b.val:Nat):Int)))=cls (4 * j.val + b.val):=by decide
 exact this ⟨j,hj⟩ ⟨b,hb⟩
theorem in_step (F:Nat) (need:Int) {j b:Nat} (hj:j < 10) (hb:b < 4) (n:Nat):iter (fun s=>L80_4 F need (64 * 2 ^ j:Int) s) (n + 1) ((b:Nat):Int)=bif decide (need≤cls (4 * j + b)) then some (.inr (cls (4 * j + b))) else iter (fun s=>L80_4 F need (64 * 2 ^ j:Int) s) n ((b + 1:Nat):Int):=by
 have h1:((b:Nat):Int) < 4:=by omega
 have h2:w64 (((b:Nat):Int) + 1)=((b + 1:Nat):Int):=by rw [w64_in (by omega) (by omega)];omega
 simp only [iter,L80_4,L80_4c,h1,decide_true,cond_true,c42 hj hb,h2]
 cases decide (need≤cls (4 * j + b))<;>rfl
theorem in_last (F:Nat) (need base:Int) (n:Nat):iter (fun s=>L80_4 F need base s) (n + 1) ((4:Nat):Int)=some (.inl ()):=by
 simp [iter,L80_4,L80_4c]
theorem fc_step (need:Int) (m k:Nat):fc need (m + 1) k=bif decide (need≤cls k) then cls k else fc need m (k + 1):=by
 simp only [fc]
 by_cases h:cls k < need
 ·have h':¬ need≤cls k:=by omega
  simp [h,h']
 ·have h':need≤cls k:=by omega
  simp [h,h']
theorem dbl {j:Nat} (hj:j < 9):w64 ((2:Int) * (64 * 2 ^ j:Int))=(64 * 2 ^ (j + 1):Int):=by
 have:∀ (j:Fin 9),w64 ((2:Int) * (64 * 2 ^ j.val:Int))=(64 * 2 ^ (j.val + 1):Int):=by decide
 exact this ⟨j,hj⟩
theorem inner (F:Nat) (need:Int) {j:Nat} (hj:j < 10) (hF:5≤F):iter (fun s=>L80_4 F need (64 * 2 ^ j:Int) s) F (0:Int)=some (bif decide (need≤cls (4 * j)) then .inr (cls (4 * j)) else bif decide (need≤cls (4 * j + 1)) then .inr (cls (4 * j + 1)) else bif decide (need≤cls (4 * j + 2)) then .inr (cls (4 * j + 2)) else bif decide (need≤cls (4 * j + 3)) then .inr (cls (4 * j + 3)) else .inl ()):=by
 obtain ⟨n,rfl⟩:∃ n,F=n + 5:=⟨F - 5,by omega⟩
 have h0:=in_step (n + 5) need hj (b:=0) (by omega) (n + 4)
 have h1:=in_step (n + 5) need hj (b:=1) (by omega) (n + 3)
 have h2:=in_step (n + 5) need hj (b:=2) (by omega) (n + 2)
 have h3:=in_step (n + 5) need hj (b:=3) (by omega) (n + 1)
 have h4:=in_last (n + 5) need (64 * 2 ^ j:Int) n
 have e0:(0:Int)=((0:Nat):Int):=rfl
 rw [e0,h0,h1,h2,h3,h4]
 simp only [Nat.add_zero]
 cases decide (need≤cls (4 * j))<;>cases decide (need≤cls (4 * j + 1))<;>cases decide (need≤cls (4 * j + 2))<;>cases decide (need≤cls (4 * j + 3))<;>rfl
theorem loop42 (F:Nat) (need:Int) (hF:5≤F) (hn:need≤cls 37):∀ (i j fuel:Nat),j + i=9->i < fuel->iter (fun s=>L80_3 F need s) fuel (64 * 2 ^ j:Int)=some (fc need (37 - 4 * j) (4 * j))
 | 0,j,fuel + 1,hj,hf=>by
  have:j=9:=by omega
  subst this
  simp only [iter,L80_3,L80_3c]
  rw [inner F need (j:=9) (by omega) hF]
  have e1:decide (need≤cls (4 * 9 + 1))=true:=by simpa using hn
  simp only [e1,Option.bind_some]
  show _=some (fc need 1 36)
  rw [fc_step]
  show _=some (bif decide (need≤cls (4 * 9)) then cls (4 * 9) else cls (4 * 9 + 1))
  cases decide (need≤cls (4 * 9))<;>rfl
 | i + 1,j,fuel + 1,hj,hf=>by
  simp only [iter,L80_3,L80_3c]
  rw [inner F need (j:=j) (by omega) hF]
  have ih:=loop42 F need hF hn i (j + 1) fuel (by omega) (by omega)
  obtain ⟨m,hm⟩:∃ m,37 - 4 * j=m + 4:=⟨33 - 4 * j,by omega⟩
  have hm':37 - 4 * (j + 1)=m:=by omega
  rw [hm,fc_step,fc_step,fc_step,fc_step]
  rw [hm'] at ih
  rw [show 4 * j + 1 + 1=4 * j + 2 from rfl,show 4 * j + 2 + 1=4 * j + 3 from rfl,show 4 * j + 3 + 1=4 * (j + 1) from by omega]
  cases decide (need≤cls (4 * j))<;>cases decide (need≤cls (4 * j + 1))<;>cases decide (need≤cls (4 * j + 2))<;>cases decide (need≤cls (4 * j + 3)) <;>
   simp only [cond_true,cond_false,Option.bind_some,elimS,dbl (show j < 9 by omega)]
  exact ih
theorem shr7 (x:UInt64):(shr64 x 7).toNat=x.toNat / 128:=by
 show (x.toBitVec >>> 7).toNat=_
 rw [BitVec.toNat_ushiftRight,Nat.shiftRight_eq_div_pow];rfl
def sz (n:Nat):Nat:=if n < 128 then 1 else if n < 16384 then 2 else 3
theorem it_again {σ ρ:Type} {f:σ->Option (σ ⊕ ρ)} {n:Nat} {s s':σ} (h:f s=some (.inl s')):iter f (n + 1) s=iter f n s':=by simp [iter,h]
theorem it_out {σ ρ:Type} {f:σ->Option (σ ⊕ ρ)} {n:Nat} {s:σ} {r:ρ} (h:f s=some (.inr r)):iter f (n + 1) s=some r:=by simp [iter,h]
theorem l40_again (F:Nat) {x:UInt64} {c:Int} (h:128≤x.toNat):L74_2 F x c=some (.inl (shr64 x 7,w64 (c + 1))):=by
 have:UInt64.ofNat 128≤x:=h
 simp only [L74_2,L74_2c,this,decide_true,cond_true];rfl
theorem l40_out (F:Nat) {x:UInt64} {c:Int} (h:¬ 128≤x.toNat):L74_2 F x c=some (.inr c):=by
 have:¬ UInt64.ofNat 128≤x:=h
 simp only [L74_2,L74_2c,this,decide_false,cond_false]
theorem t40 {F:Nat} (hF:4 < F) (x:UInt64) (hx:x.toNat≤32768):T74 F x=some ((sz x.toNat:Nat):Int):=by
 obtain ⟨n,rfl⟩:∃ n,F=n + 4:=⟨F - 4,by omega⟩
 have w1:w64 ((1:Int) + 1)=2:=by decide
 have w2:w64 ((2:Int) + 1)=3:=by decide
 have d1:=shr7 x
 have d2:=shr7 (shr64 x 7)
 simp only [T74,T74c]
 by_cases h1:x.toNat < 128
 ·rw [it_out (l40_out _ (x:=x) (by omega))];simp [sz,h1]
 ·rw [it_again (l40_again _ (x:=x) (by omega)),w1]
  by_cases h2:x.toNat < 16384
  ·rw [it_out (l40_out _ (x:=shr64 x 7) (by omega))];simp [sz,h1,h2]
  ·rw [it_again (l40_again _ (x:=shr64 x 7) (by omega)),w2,it_out (l40_out _ (x:=shr64 (shr64 x 7) 7) (by omega))];simp [sz,h1,h2]
theorem div128 (x:UInt64):(x / UInt64.ofNat 128).toNat=x.toNat / 128:=by
 rw [UInt64.toNat_div];rfl
theorem l45_again (F:Nat) {x:UInt64} {l:List UInt8} (h:127 < x.toNat) (hl:l.length < 100):∃ b,L67_2 F x l=some (.inl (x / UInt64.ofNat 128,l ++ [b])):=by
 have:UInt64.ofNat 127 < x:=h
 refine ⟨((x % (UInt64.ofNat 128)).toUInt8) + (UInt8.ofNat 128),?_⟩
 simp only [L67_2,L67_2c,this,decide_true,cond_true,gapp]
 rw [if_pos (by simp;omega)];rfl
theorem l45_out (F:Nat) {x:UInt64} {l:List UInt8} (h:¬ 127 < x.toNat):L67_2 F x l=some (.inr (x,l)):=by
 have:¬ UInt64.ofNat 127 < x:=h
 simp only [L67_2,L67_2c,this,decide_false,cond_false]
theorem t45 {F:Nat} (hF:4 < F) (x:UInt64) (hx:x.toNat≤32768):∃ l,T67 F x=some l∧l.length=sz x.toNat:=by
 obtain ⟨n,rfl⟩:∃ n,F=n + 4:=⟨F - 4,by omega⟩
 have d1:=div128 x
 have d2:=div128 (x / UInt64.ofNat 128)
 simp only [T67,T67c]
 by_cases h1:x.toNat < 128
 ·rw [it_out (l45_out _ (x:=x) (by omega))];simp [sz,h1,gapp]
 ·obtain ⟨b,hb⟩:=l45_again (n + 4) (x:=x) (l:=[]) (by omega) (by simp)
  rw [it_again (f:=fun s:UInt64×List UInt8=>L67_2 (n + 4) s.1 s.2) (s:=(x,[])) hb]
  by_cases h2:x.toNat < 16384
  ·rw [it_out (l45_out _ (x:=x / UInt64.ofNat 128) (by omega))];simp [sz,h1,h2,gapp]
  ·obtain ⟨b',hb'⟩:=l45_again (n + 4) (x:=x / UInt64.ofNat 128) (l:=[] ++ [b]) (by omega) (by simp)
   rw [it_again (f:=fun s:UInt64×List UInt8=>L67_2 (n + 4) s.1 s.2) (s:=(x / UInt64.ofNat 128,[] ++ [b])) hb',it_out (l45_out _ (x:=x / UInt64.ofNat 128 / UInt64.ofNat 128) (by omega))];simp [sz,h1,h2,gapp]
def need (n:Int):Int:=(sz n.toNat:Int) + n + 16
def clsOf (n:Int):Int:=fc (need n) 37 0
theorem class_in {F:Nat} (hF:50 < F) {n:Int} (h0:0≤n) (h1:n≤32768):T37 F n=some (clsOf n,0)∧T81 F n=some (need n)∧T80 F (need n)=some (clsOf n):=by
 have h0':¬ n < 0:=by omega
 have h1':¬ 32768 < n:=by omega
 have hx:(UInt64.ofInt n).toNat=n.toNat:=by
  show (UInt64.ofNat (n % 2 ^ 64).toNat).toNat=_
  rw [UInt64.toNat_ofNat'];omega
 have hx':(UInt64.ofInt n).toNat≤32768:=by omega
 obtain ⟨l,hl,hll⟩:=t45 (F:=F) (by omega) (UInt64.ofInt n) hx'
 have h41:T75 F=some ((2 ^ (0 / 4):Int),((0 % 4:Nat):Int)):=rfl
 have hs:1≤sz n.toNat∧sz n.toNat≤3:=by unfold sz;split<;>(try split)<;>omega
 have hw:w64 (w64 (((sz n.toNat:Nat):Int) + n) + 16)=need n:=by
  rw [w64_in (n:=((sz n.toNat:Nat):Int) + n) (by omega) (by omega),w64_in (by omega) (by omega)];rfl
 have hneed:need n≤cls 37:=by
  have:cls 37=40960:=by decide
  unfold need
  omega
 refine ⟨?_,?_,?_⟩
 ·simp only [T37,T37c,h0',h1',decide_false,cond_false]
  rw [t40 (by omega) _ hx',h41]
  simp only [Option.bind_some]
  rw [t59 (k:=0) (by omega)]
  simp only [Option.bind_some]
  have l14:=loop14 F (need n) 37 0 F (by omega) (by omega) hneed
  rw [hx,hw,l14];rfl
 ·simp only [T81,T81c,hl,Option.bind_some,hll,hx,hw]
 ·have l42:=loop42 F (need n) (by omega) hneed 9 0 F (by omega) (by omega)
  simp only [T80,T80c]
  have e:(64:Int)=64 * 2 ^ 0:=by decide
  rw [e,l42];rfl
theorem refclass {F:Nat} (hF:50 < F) {n:Int} (h0:0≤n) (h1:n≤32768):T42 F n=some (clsOf n):=by
 obtain ⟨_,h2,h3⟩:=class_in hF h0 h1
 simp only [T42,T42c,h2,h3,Option.bind_some]
theorem iter2 {σ τ ρ ρ':Type} {f:σ->Option (σ ⊕ ρ)} {g:τ->Option (τ ⊕ ρ')} (R:σ->τ->Prop) (Q:ρ->ρ'->Prop) (μ:σ->Nat)
  (h:∀ s t,R s t->(∃ s' t',f s=some (.inl s')∧g t=some (.inl t')∧R s' t'∧μ s' < μ s)∨(∃ r r',f s=some (.inr r)∧g t=some (.inr r')∧Q r r')) :
  ∀ (n m:Nat) (s:σ) (t:τ),R s t->μ s < n->μ s < m->∃ r r',iter f n s=some r∧iter g m t=some r'∧Q r r'
 | 0,m,s,t,hR,hn,hm=>absurd hn (by omega)
 | n + 1,0,s,t,hR,hn,hm=>absurd hm (by omega)
 | n + 1,m + 1,s,t,hR,hn,hm=>by
  rcases h s t hR with ⟨s',t',h1,h2,h3,h4⟩ | ⟨r,r',h1,h2,h3⟩
  ·rw [it_again h1,it_again h2]
   exact iter2 R Q μ h n m s' t' h3 (by omega) (by omega)
  ·exact ⟨r,r',it_out h1,it_out h2,h3⟩
theorem iterP {σ τ ρ ρ':Type} {f:σ->Option (σ ⊕ ρ)} {g:τ->Option (τ ⊕ ρ')} (R:σ->τ->Prop) (Q:σ->ρ'->Prop) (μ:σ->Nat)
  (h:∀ s t,R s t->(∃ s' t',f s=some (.inl s')∧g t=some (.inl t')∧R s' t'∧μ s' < μ s)∨(∃ r',g t=some (.inr r')∧Q s r')) :
  ∀ (m:Nat) (s:σ) (t:τ),R s t->μ s < m->∃ k s' r',k≤μ s∧iter g m t=some r'∧Q s' r'∧∀ n,iter f (n + k) s=iter f n s'
 | 0,s,t,hR,hm=>absurd hm (by omega)
 | m + 1,s,t,hR,hm=>by
  rcases h s t hR with ⟨s',t',h1,h2,h3,h4⟩ | ⟨r',h1,h2⟩
  ·obtain ⟨k,s'',r',a1,a2,a3,a4⟩:=iterP R Q μ h m s' t' h3 (by omega)
   exact ⟨k + 1,s'',r',by omega,(it_again h2).trans a2,a3,fun n=>(it_again (n:=n + k) h1).trans (a4 n)⟩
  ·exact ⟨0,s,r',by omega,it_out h1,h2,fun n=>rfl⟩
theorem inb_nat {n i:Nat} (h:i < n):inb n ((i:Nat):Int)=some i:=by
 unfold inb;rw [if_pos (by omega)];simp only [Int.toNat_natCast]
theorem vat_nat {α:Type} {n i:Nat} {v:Vector α n} (h:i < n):vat v i=some v[i]:=by
 rw [vat_eq];exact getElem?_pos v i h
theorem vix_nat {α:Type} {n i:Nat} {v:Vector α n} (h:i < n):vix v ((i:Nat):Int)=some v[i]:=by
 unfold vix;rw [if_pos (by omega)];simp only [Int.toNat_natCast];exact getElem?_pos v i h
theorem gsl_nat {α:Type} {l:List α} {a b:Nat} (h:a≤b) (hb:b≤l.length):gsl l ((a:Nat):Int) ((b:Nat):Int)=some ((l.drop a).take (b - a)):=by
 unfold gsl;rw [if_pos (by omega)];simp only [Int.toNat_natCast]
theorem gslb_nat {n a b:Nat} (h:a≤b) (hb:b≤n):gslb n ((a:Nat):Int) ((b:Nat):Int)=some (a,b):=by
 unfold gslb;rw [if_pos (by omega)];simp only [Int.toNat_natCast]
theorem ix_nat {α:Type} {l:List α} {i:Nat} (h:i < l.length):ix l ((i:Nat):Int)=some l[i]:=ixn (List.getElem?_eq_getElem h)
theorem ix_dt {p:List UInt8} {a k:Nat} (h:a + k < p.length) (hk:k < 4):ix ((p.drop a).take 4) ((k:Nat):Int)=some p[a + k]:=by
 rw [ix_nat (by simp;omega)];simp
def rr (x:UInt32) (k:Nat):UInt32:=shr32 x k ||| shl32 x (32 - k)
theorem a94_17 (F:Nat) (x:UInt32):T170 F x (-17)=some (rr x 17):=by
 have e1:((UInt64.ofInt (-17)) &&& (UInt64.ofNat 31)).toNat=15:=by decide +kernel
 have e2:((UInt64.ofNat 32) - ((UInt64.ofInt (-17)) &&& (UInt64.ofNat 31))).toNat=17:=by decide +kernel
 simp only [T170,T170c,e1,e2,rr]
 rw [UInt32.or_comm]
theorem a93_17 (F:Nat) (x:UInt32):T158 F x 17=some (rr x 17):=by
 have e1:gnn (17:Int)=some 17:=by decide +kernel
 have e2:gnn (w64 ((32:Int) - 17))=some 15:=by decide +kernel
 simp only [T158,T158c,e1,e2,rr,Option.bind_some]
theorem a94_19 (F:Nat) (x:UInt32):T170 F x (-19)=some (rr x 19):=by
 have e1:((UInt64.ofInt (-19)) &&& (UInt64.ofNat 31)).toNat=13:=by decide +kernel
 have e2:((UInt64.ofNat 32) - ((UInt64.ofInt (-19)) &&& (UInt64.ofNat 31))).toNat=19:=by decide +kernel
 simp only [T170,T170c,e1,e2,rr]
 rw [UInt32.or_comm]
theorem a93_19 (F:Nat) (x:UInt32):T158 F x 19=some (rr x 19):=by
 have e1:gnn (19:Int)=some 19:=by decide +kernel
 have e2:gnn (w64 ((32:Int) - 19))=some 13:=by decide +kernel
 simp only [T158,T158c,e1,e2,rr,Option.bind_some]
theorem a94_7 (F:Nat) (x:UInt32):T170 F x (-7)=some (rr x 7):=by
 have e1:((UInt64.ofInt (-7)) &&& (UInt64.ofNat 31)).toNat=25:=by decide +kernel
 have e2:((UInt64.ofNat 32) - ((UInt64.ofInt (-7)) &&& (UInt64.ofNat 31))).toNat=7:=by decide +kernel
 simp only [T170,T170c,e1,e2,rr]
 rw [UInt32.or_comm]
theorem a93_7 (F:Nat) (x:UInt32):T158 F x 7=some (rr x 7):=by
 have e1:gnn (7:Int)=some 7:=by decide +kernel
 have e2:gnn (w64 ((32:Int) - 7))=some 25:=by decide +kernel
 simp only [T158,T158c,e1,e2,rr,Option.bind_some]
theorem a94_18 (F:Nat) (x:UInt32):T170 F x (-18)=some (rr x 18):=by
 have e1:((UInt64.ofInt (-18)) &&& (UInt64.ofNat 31)).toNat=14:=by decide +kernel
 have e2:((UInt64.ofNat 32) - ((UInt64.ofInt (-18)) &&& (UInt64.ofNat 31))).toNat=18:=by decide +kernel
 simp only [T170,T170c,e1,e2,rr]
 rw [UInt32.or_comm]
theorem a93_18 (F:Nat) (x:UInt32):T158 F x 18=some (rr x 18):=by
 have e1:gnn (18:Int)=some 18:=by decide +kernel
 have e2:gnn (w64 ((32:Int) - 18))=some 14:=by decide +kernel
 simp only [T158,T158c,e1,e2,rr,Option.bind_some]
theorem a94_6 (F:Nat) (x:UInt32):T170 F x (-6)=some (rr x 6):=by
 have e1:((UInt64.ofInt (-6)) &&& (UInt64.ofNat 31)).toNat=26:=by decide +kernel
 have e2:((UInt64.ofNat 32) - ((UInt64.ofInt (-6)) &&& (UInt64.ofNat 31))).toNat=6:=by decide +kernel
 simp only [T170,T170c,e1,e2,rr]
 rw [UInt32.or_comm]
theorem a93_6 (F:Nat) (x:UInt32):T158 F x 6=some (rr x 6):=by
 have e1:gnn (6:Int)=some 6:=by decide +kernel
 have e2:gnn (w64 ((32:Int) - 6))=some 26:=by decide +kernel
 simp only [T158,T158c,e1,e2,rr,Option.bind_some]
theorem a94_11 (F:Nat) (x:UInt32):T170 F x (-11)=some (rr x 11):=by
 have e1:((UInt64.ofInt (-11)) &&& (UInt64.ofNat 31)).toNat=21:=by decide +kernel
 have e2:((UInt64.ofNat 32) - ((UInt64.ofInt (-11)) &&& (UInt64.ofNat 31))).toNat=11:=by decide +kernel
 simp only [T170,T170c,e1,e2,rr]
 rw [UInt32.or_comm]
theorem a93_11 (F:Nat) (x:UInt32):T158 F x 11=some (rr x 11):=by
 have e1:gnn (11:Int)=some 11:=by decide +kernel
 have e2:gnn (w64 ((32:Int) - 11))=some 21:=by decide +kernel
 simp only [T158,T158c,e1,e2,rr,Option.bind_some]
theorem a94_25 (F:Nat) (x:UInt32):T170 F x (-25)=some (rr x 25):=by
 have e1:((UInt64.ofInt (-25)) &&& (UInt64.ofNat 31)).toNat=7:=by decide +kernel
 have e2:((UInt64.ofNat 32) - ((UInt64.ofInt (-25)) &&& (UInt64.ofNat 31))).toNat=25:=by decide +kernel
 simp only [T170,T170c,e1,e2,rr]
 rw [UInt32.or_comm]
theorem a93_25 (F:Nat) (x:UInt32):T158 F x 25=some (rr x 25):=by
 have e1:gnn (25:Int)=some 25:=by decide +kernel
 have e2:gnn (w64 ((32:Int) - 25))=some 7:=by decide +kernel
 simp only [T158,T158c,e1,e2,rr,Option.bind_some]
theorem a94_2 (F:Nat) (x:UInt32):T170 F x (-2)=some (rr x 2):=by
 have e1:((UInt64.ofInt (-2)) &&& (UInt64.ofNat 31)).toNat=30:=by decide +kernel
 have e2:((UInt64.ofNat 32) - ((UInt64.ofInt (-2)) &&& (UInt64.ofNat 31))).toNat=2:=by decide +kernel
 simp only [T170,T170c,e1,e2,rr]
 rw [UInt32.or_comm]
theorem a93_2 (F:Nat) (x:UInt32):T158 F x 2=some (rr x 2):=by
 have e1:gnn (2:Int)=some 2:=by decide +kernel
 have e2:gnn (w64 ((32:Int) - 2))=some 30:=by decide +kernel
 simp only [T158,T158c,e1,e2,rr,Option.bind_some]
theorem a94_13 (F:Nat) (x:UInt32):T170 F x (-13)=some (rr x 13):=by
 have e1:((UInt64.ofInt (-13)) &&& (UInt64.ofNat 31)).toNat=19:=by decide +kernel
 have e2:((UInt64.ofNat 32) - ((UInt64.ofInt (-13)) &&& (UInt64.ofNat 31))).toNat=13:=by decide +kernel
 simp only [T170,T170c,e1,e2,rr]
 rw [UInt32.or_comm]
theorem a93_13 (F:Nat) (x:UInt32):T158 F x 13=some (rr x 13):=by
 have e1:gnn (13:Int)=some 13:=by decide +kernel
 have e2:gnn (w64 ((32:Int) - 13))=some 19:=by decide +kernel
 simp only [T158,T158c,e1,e2,rr,Option.bind_some]
theorem a94_22 (F:Nat) (x:UInt32):T170 F x (-22)=some (rr x 22):=by
 have e1:((UInt64.ofInt (-22)) &&& (UInt64.ofNat 31)).toNat=10:=by decide +kernel
 have e2:((UInt64.ofNat 32) - ((UInt64.ofInt (-22)) &&& (UInt64.ofNat 31))).toNat=22:=by decide +kernel
 simp only [T170,T170c,e1,e2,rr]
 rw [UInt32.or_comm]
theorem a93_22 (F:Nat) (x:UInt32):T158 F x 22=some (rr x 22):=by
 have e1:gnn (22:Int)=some 22:=by decide +kernel
 have e2:gnn (w64 ((32:Int) - 22))=some 10:=by decide +kernel
 simp only [T158,T158c,e1,e2,rr,Option.bind_some]
def wd4 (a b c d:UInt8):UInt32:=(((shl32 (a.toUInt32) ((UInt64.ofNat 24).toNat)) ||| (shl32 (b.toUInt32) ((UInt64.ofNat 16).toNat))) ||| (shl32 (c.toUInt32) ((UInt64.ofNat 8).toNat))) ||| (d.toUInt32)
def sch4 (a b c d:UInt32):UInt32:=((((rr a 17 ^^^ rr a 19) ^^^ (shr32 a ((UInt64.ofNat 10).toNat))) + b) + ((rr c 7 ^^^ rr c 18) ^^^ (shr32 c ((UInt64.ofNat 3).toNat)))) + d
theorem s91_lo (F:Nat) {p:List UInt8} (hp:p.length=64) {i:Nat} (hi:i < 16) (w:Vector UInt32 64) :
  L153x1_4 F p ((i:Nat):Int) w=some (.inl (((i + 1:Nat):Int),w.setIfInBounds i (wd4 p[4 * i] p[4 * i + 1] p[4 * i + 2] p[4 * i + 3]))):=by
 have h1:(((i:Nat):Int) < 64):=by omega
 have h2:(((i:Nat):Int) < 16):=by omega
 have e1:w64 ((4:Int) * ((i:Nat):Int))=((4 * i:Nat):Int):=by rw [w64_in (by omega) (by omega)];omega
 have e2:w64 (((4 * i:Nat):Int) + 4)=((4 * i + 4:Nat):Int):=by rw [w64_in (by omega) (by omega)];omega
 have e3:w64 (((i:Nat):Int) + 1)=((i + 1:Nat):Int):=by rw [w64_in (by omega) (by omega)];omega
 have g:gsl p ((4 * i:Nat):Int) ((4 * i + 4:Nat):Int)=some ((p.drop (4 * i)).take 4):=by
  rw [gsl_nat (by omega) (by omega),Nat.add_sub_cancel_left]
 have x0:ix ((p.drop (4 * i)).take 4) (0:Int)=some p[4 * i]:=ix_dt (k:=0) (by omega) (by omega)
 have x1:ix ((p.drop (4 * i)).take 4) (1:Int)=some p[4 * i + 1]:=ix_dt (k:=1) (by omega) (by omega)
 have x2:ix ((p.drop (4 * i)).take 4) (2:Int)=some p[4 * i + 2]:=ix_dt (k:=2) (by omega) (by omega)
 have x3:ix ((p.drop (4 * i)).take 4) (3:Int)=some p[4 * i + 3]:=ix_dt (k:=3) (by omega) (by omega)
 have n:inb 64 ((i:Nat):Int)=some i:=inb_nat (by omega)
 simp only [L153x1_4,L153x1_4c,h1,h2,decide_true,cond_true,e1,e2,e3,g,x0,x1,x2,x3,n,Option.bind_some,wd4]
theorem s85_lo (F:Nat) {p:List UInt8} (hp:p.length=64) {i:Nat} (hi:i < 16) (w:Vector UInt32 64) :
  L129_5 F p ((i:Nat):Int) w=some (.inl (((i + 1:Nat):Int),w.setIfInBounds i (wd4 p[4 * i] p[4 * i + 1] p[4 * i + 2] p[4 * i + 3]))):=by
 have h2:(((i:Nat):Int) < 16):=by omega
 have e1:w64 ((4:Int) * ((i:Nat):Int))=((4 * i:Nat):Int):=by rw [w64_in (by omega) (by omega)];omega
 have f1:w64 (((4 * i:Nat):Int) + 1)=((4 * i + 1:Nat):Int):=by rw [w64_in (by omega) (by omega)];omega
 have f2:w64 (((4 * i:Nat):Int) + 2)=((4 * i + 2:Nat):Int):=by rw [w64_in (by omega) (by omega)];omega
 have f3:w64 (((4 * i:Nat):Int) + 3)=((4 * i + 3:Nat):Int):=by rw [w64_in (by omega) (by omega)];omega
 have e3:w64 (((i:Nat):Int) + 1)=((i + 1:Nat):Int):=by rw [w64_in (by omega) (by omega)];omega
 have x0:ix p ((4 * i:Nat):Int)=some p[4 * i]:=ix_nat (by omega)
 have x1:ix p ((4 * i + 1:Nat):Int)=some p[4 * i + 1]:=ix_nat (by omega)
 have x2:ix p ((4 * i + 2:Nat):Int)=some p[4 * i + 2]:=ix_nat (by omega)
 have x3:ix p ((4 * i + 3:Nat):Int)=some p[4 * i + 3]:=ix_nat (by omega)
 have n:inb 64 ((i:Nat):Int)=some i:=inb_nat (by omega)
 simp only [L129_5,L129_5c,h2,decide_true,cond_true,e1,e3,f1,f2,f3,x0,x1,x2,x3,n,Option.bind_some,wd4]
theorem s91_hi (F:Nat) (p:List UInt8) {i:Nat} (h16:16≤i) (hi:i < 64) (w:Vector UInt32 64) :
  L153x1_4 F p ((i:Nat):Int) w=some (.inl (((i + 1:Nat):Int),w.setIfInBounds i (sch4 w[i - 2] w[i - 7] w[i - 15] w[i - 16]))):=by
 have h1:(((i:Nat):Int) < 64):=by omega
 have h2:¬ (((i:Nat):Int) < 16):=by omega
 have e3:w64 (((i:Nat):Int) + 1)=((i + 1:Nat):Int):=by rw [w64_in (by omega) (by omega)];omega
 have f1:w64 (((i:Nat):Int) - 2)=((i - 2:Nat):Int):=by rw [w64_in (by omega) (by omega)];omega
 have f2:w64 (((i:Nat):Int) - 7)=((i - 7:Nat):Int):=by rw [w64_in (by omega) (by omega)];omega
 have f3:w64 (((i:Nat):Int) - 15)=((i - 15:Nat):Int):=by rw [w64_in (by omega) (by omega)];omega
 have f4:w64 (((i:Nat):Int) - 16)=((i - 16:Nat):Int):=by rw [w64_in (by omega) (by omega)];omega
 have n:inb 64 ((i:Nat):Int)=some i:=inb_nat (by omega)
 have n1:inb 64 ((i - 2:Nat):Int)=some (i - 2):=inb_nat (by omega)
 have n2:inb 64 ((i - 7:Nat):Int)=some (i - 7):=inb_nat (by omega)
 have n3:inb 64 ((i - 15:Nat):Int)=some (i - 15):=inb_nat (by omega)
 have n4:inb 64 ((i - 16:Nat):Int)=some (i - 16):=inb_nat (by omega)
 have v1:vat w (i - 2)=some w[i - 2]:=vat_nat (by omega)
 have v2:vat w (i - 7)=some w[i - 7]:=vat_nat (by omega)
 have v3:vat w (i - 15)=some w[i - 15]:=vat_nat (by omega)
 have v4:vat w (i - 16)=some w[i - 16]:=vat_nat (by omega)
 simp only [L153x1_4,L153x1_4c,h1,h2,decide_true,decide_false,cond_true,cond_false,e3,f1,f2,f3,f4,n,n1,n2,n3,n4,v1,v2,v3,v4,a94_17,a94_19,a94_7,a94_18,Option.bind_some,sch4]
theorem s85_hi (F:Nat) {i:Nat} (h16:16≤i) (hi:i < 64) (w:Vector UInt32 64) :
  L129_6 F ((i:Nat):Int) w=some (.inl (((i + 1:Nat):Int),w.setIfInBounds i (sch4 w[i - 2] w[i - 7] w[i - 15] w[i - 16]))):=by
 have h1:(((i:Nat):Int) < 64):=by omega
 have e3:w64 (((i:Nat):Int) + 1)=((i + 1:Nat):Int):=by rw [w64_in (by omega) (by omega)];omega
 have f1:w64 (((i:Nat):Int) - 2)=((i - 2:Nat):Int):=by rw [w64_in (by omega) (by omega)];omega
 have f2:w64 (((i:Nat):Int) - 7)=((i - 7:Nat):Int):=by rw [w64_in (by omega) (by omega)];omega
 have f3:w64 (((i:Nat):Int) - 15)=((i - 15:Nat):Int):=by rw [w64_in (by omega) (by omega)];omega
 have f4:w64 (((i:Nat):Int) - 16)=((i - 16:Nat):Int):=by rw [w64_in (by omega) (by omega)];omega
 have n:inb 64 ((i:Nat):Int)=some i:=inb_nat (by omega)
 have n1:inb 64 ((i - 2:Nat):Int)=some (i - 2):=inb_nat (by omega)
 have n2:inb 64 ((i - 7:Nat):Int)=some (i - 7):=inb_nat (by omega)
 have n3:inb 64 ((i - 15:Nat):Int)=some (i - 15):=inb_nat (by omega)
 have n4:inb 64 ((i - 16:Nat):Int)=some (i - 16):=inb_nat (by omega)
 have v1:vat w (i - 2)=some w[i - 2]:=vat_nat (by omega)
 have v2:vat w (i - 7)=some w[i - 7]:=vat_nat (by omega)
 have v3:vat w (i - 15)=some w[i - 15]:=vat_nat (by omega)
 have v4:vat w (i - 16)=some w[i - 16]:=vat_nat (by omega)
 simp only [L129_6,L129_6c,h1,decide_true,cond_true,e3,f1,f2,f3,f4,n,n1,n2,n3,n4,v1,v2,v3,v4,a93_17,a93_19,a93_7,a93_18,Option.bind_some,sch4]
theorem sched {F:Nat} (hF:100 < F) {p:List UInt8} (hp:p.length=64):∃ w w0,iter (fun s:Int×Vector UInt32 64=>L153x1_4 F p s.1 s.2) F ((0:Int),(Vector.replicate 64 (0:UInt32)))=some w ∧
  iter (fun s:Int×Vector UInt32 64=>L129_5 F p s.1 s.2) F ((0:Int),(Vector.replicate 64 (0:UInt32)))=some w0∧iter (fun s:Int×Vector UInt32 64=>L129_6 F s.1 s.2) F ((16:Int),w0)=some w:=by
 obtain ⟨k,s',w0,a1,a2,a3,a4⟩:=iterP (f:=fun s:Int×Vector UInt32 64=>L153x1_4 F p s.1 s.2) (g:=fun s:Int×Vector UInt32 64=>L129_5 F p s.1 s.2)
  (fun s t=>s=t∧∃ i:Nat,s.1=i∧i≤16) (fun s r=>s=((16:Int),r)) (fun s=>16 - s.1.toNat) (by
   rintro ⟨a,w⟩ t ⟨rfl,i,hi,h16⟩
   simp only at hi
   subst hi
   by_cases h:i < 16
   ·exact .inl ⟨_,_,s91_lo F hp h w,s85_lo F hp h w,⟨rfl,i + 1,rfl,by omega⟩,by simp only [Int.toNat_natCast];omega⟩
   ·obtain rfl:i=16:=by omega
    exact .inr ⟨w,rfl,rfl⟩) F ((0:Int),(Vector.replicate 64 (0:UInt32))) ((0:Int),(Vector.replicate 64 (0:UInt32))) ⟨rfl,0,rfl,by omega⟩ (by simp only [Int.toNat_zero];omega)
 simp only [Int.toNat_zero,Nat.sub_zero] at a1
 subst a3
 obtain ⟨w,w',b1,b2,b3⟩:=iter2 (f:=fun s:Int×Vector UInt32 64=>L153x1_4 F p s.1 s.2) (g:=fun s:Int×Vector UInt32 64=>L129_6 F s.1 s.2)
  (fun s t=>s=t∧∃ i:Nat,s.1=i∧16≤i∧i≤64) (fun r r'=>r=r') (fun s=>64 - s.1.toNat) (by
   rintro ⟨a,w⟩ t ⟨rfl,i,hi,h16,h64⟩
   simp only at hi
   subst hi
   by_cases h:i < 64
   ·exact .inl ⟨_,_,s91_hi F p h16 h w,s85_hi F h16 h w,⟨rfl,i + 1,rfl,by omega,by omega⟩,by simp only [Int.toNat_natCast];omega⟩
   ·obtain rfl:i=64:=by omega
    exact .inr ⟨w,w,rfl,rfl,rfl⟩) (F - k) F ((16:Int),w0) ((16:Int),w0) ⟨rfl,16,rfl,by omega,by omega⟩ (by have:((16:Int)).toNat=16:=rfl;simp only [this];omega) (by have:((16:Int)).toNat=16:=rfl;simp only [this];omega)
 subst b3
 refine ⟨w,w0,?_,a2,b2⟩
 have:=a4 (F - k)
 rw [Nat.sub_add_cancel (by omega)] at this
 rw [this,b1]
theorem s91v_lo (F:Nat) (v:Vector UInt8 64) {i:Nat} (hi:i < 16) (w:Vector UInt32 64) :
  L153_4 F v (0,64) ((i:Nat):Int) w=some (.inl ((0,64),((i + 1:Nat):Int),w.setIfInBounds i (wd4 v[4 * i] v[4 * i + 1] v[4 * i + 2] v[4 * i + 3]))):=by
 have h1:(((i:Nat):Int) < 64):=by omega
 have h2:(((i:Nat):Int) < 16):=by omega
 have e1:w64 ((4:Int) * ((i:Nat):Int))=((4 * i:Nat):Int):=by rw [w64_in (by omega) (by omega)];omega
 have e2:w64 (((4 * i:Nat):Int) + 4)=((4 * i + 4:Nat):Int):=by rw [w64_in (by omega) (by omega)];omega
 have e3:w64 (((i:Nat):Int) + 1)=((i + 1:Nat):Int):=by rw [w64_in (by omega) (by omega)];omega
 have g:gslb 64 ((4 * i:Nat):Int) ((4 * i + 4:Nat):Int)=some (4 * i,4 * i + 4):=gslb_nat (by omega) (by omega)
 have m0:inb 4 (0:Int)=some 0:=by decide
 have m1:inb 4 (1:Int)=some 1:=by decide
 have m2:inb 4 (2:Int)=some 2:=by decide
 have m3:inb 4 (3:Int)=some 3:=by decide
 have x0:vat v (4 * i)=some v[4 * i]:=vat_nat (by omega)
 have x1:vat v (4 * i + 1)=some v[4 * i + 1]:=vat_nat (by omega)
 have x2:vat v (4 * i + 2)=some v[4 * i + 2]:=vat_nat (by omega)
 have x3:vat v (4 * i + 3)=some v[4 * i + 3]:=vat_nat (by omega)
 have n:inb 64 ((i:Nat):Int)=some i:=inb_nat (by omega)
 simp only [L153_4,L153_4c,h1,h2,decide_true,cond_true,e1,e2,e3,Nat.sub_zero,Nat.zero_add,g,Nat.add_sub_cancel_left,m0,m1,m2,m3,Nat.add_zero,x0,x1,x2,x3,n,Option.bind_some,wd4]
theorem s91v_hi (F:Nat) (v:Vector UInt8 64) {i:Nat} (h16:16≤i) (hi:i < 64) (w:Vector UInt32 64) :
  L153_4 F v (0,64) ((i:Nat):Int) w=some (.inl ((0,64),((i + 1:Nat):Int),w.setIfInBounds i (sch4 w[i - 2] w[i - 7] w[i - 15] w[i - 16]))):=by
 have h1:(((i:Nat):Int) < 64):=by omega
 have h2:¬ (((i:Nat):Int) < 16):=by omega
 have e3:w64 (((i:Nat):Int) + 1)=((i + 1:Nat):Int):=by rw [w64_in (by omega) (by omega)];omega
 have f1:w64 (((i:Nat):Int) - 2)=((i - 2:Nat):Int):=by rw [w64_in (by omega) (by omega)];omega
 have f2:w64 (((i:Nat):Int) - 7)=((i - 7:Nat):Int):=by rw [w64_in (by omega) (by omega)];omega
 have f3:w64 (((i:Nat):Int) - 15)=((i - 15:Nat):Int):=by rw [w64_in (by omega) (by omega)];omega
 have f4:w64 (((i:Nat):Int) - 16)=((i - 16:Nat):Int):=by rw [w64_in (by omega) (by omega)];omega
 have n:inb 64 ((i:Nat):Int)=some i:=inb_nat (by omega)
 have n1:inb 64 ((i - 2:Nat):Int)=some (i - 2):=inb_nat (by omega)
 have n2:inb 64 ((i - 7:Nat):Int)=some (i - 7):=inb_nat (by omega)
 have n3:inb 64 ((i - 15:Nat):Int)=some (i - 15):=inb_nat (by omega)
 have n4:inb 64 ((i - 16:Nat):Int)=some (i - 16):=inb_nat (by omega)
 have v1:vat w (i - 2)=some w[i - 2]:=vat_nat (by omega)
 have v2:vat w (i - 7)=some w[i - 7]:=vat_nat (by omega)
 have v3:vat w (i - 15)=some w[i - 15]:=vat_nat (by omega)
 have v4:vat w (i - 16)=some w[i - 16]:=vat_nat (by omega)
 simp only [L153_4,L153_4c,h1,h2,decide_true,decide_false,cond_true,cond_false,e3,f1,f2,f3,f4,n,n1,n2,n3,n4,v1,v2,v3,v4,a94_17,a94_19,a94_7,a94_18,Option.bind_some,sch4]
theorem schedv {F:Nat} (hF:100 < F) (v:Vector UInt8 64):∃ w,iter (fun s:(Nat×Nat)×Int×Vector UInt32 64=>L153_4 F v s.1 s.2.1 s.2.2) F ((0,64),(0:Int),(Vector.replicate 64 (0:UInt32)))=some w ∧
  iter (fun s:Int×Vector UInt32 64=>L153x1_4 F v.toList s.1 s.2) F ((0:Int),(Vector.replicate 64 (0:UInt32)))=some w:=by
 have hl:v.toList.length=64:=by simp
 obtain ⟨w,w',b1,b2,b3⟩:=iter2 (f:=fun s:(Nat×Nat)×Int×Vector UInt32 64=>L153_4 F v s.1 s.2.1 s.2.2) (g:=fun s:Int×Vector UInt32 64=>L153x1_4 F v.toList s.1 s.2)
  (fun s t=>s=((0,64),t.1,t.2)∧∃ i:Nat,t.1=i∧i≤64) (fun r r'=>r=r') (fun s=>64 - s.2.1.toNat) (by
   rintro s ⟨a,w⟩ ⟨rfl,i,hi,h64⟩
   simp only at hi
   subst hi
   by_cases h:i < 64
   ·by_cases h16:i < 16
    ·have g:=s91_lo F hl h16 w
     simp only [Vector.getElem_toList] at g
     exact .inl ⟨_,_,s91v_lo F v h16 w,g,⟨rfl,i + 1,rfl,by omega⟩,by simp only [Int.toNat_natCast];omega⟩
    ·exact .inl ⟨_,_,s91v_hi F v (by omega) h w,s91_hi F v.toList (by omega) h w,⟨rfl,i + 1,rfl,by omega⟩,by simp only [Int.toNat_natCast];omega⟩
   ·obtain rfl:i=64:=by omega
    exact .inr ⟨w,w,rfl,rfl,rfl⟩) F F ((0,64),(0:Int),(Vector.replicate 64 (0:UInt32))) ((0:Int),(Vector.replicate 64 (0:UInt32))) ⟨rfl,0,rfl,by omega⟩ (by simp only [Int.toNat_zero];omega) (by simp only [Int.toNat_zero];omega)
 subst b3
 exact ⟨w,b1,b2⟩
def t1 (e f g h k w:UInt32):UInt32:=(((h + ((rr e 6 ^^^ rr e 11) ^^^ rr e 25)) + ((e &&& f) ^^^ ((~~~e) &&& g))) + k) + w
def t2 (a b c:UInt32):UInt32:=((rr a 2 ^^^ rr a 13) ^^^ rr a 22) + (((a &&& b) ^^^ (a &&& c)) ^^^ (b &&& c))
theorem r91 (F:Nat) (w:Vector UInt32 64) (a b c d e f g h:UInt32) {i:Nat} (hi:i < 64) :
  L153x1_5 F w a b c d e f g h ((i:Nat):Int)=some (.inl (t1 e f g h gv2[i] w[i] + t2 a b c,a,b,c,d + t1 e f g h gv2[i] w[i],e,f,g,((i + 1:Nat):Int))):=by
 have h1:(((i:Nat):Int) < 64):=by omega
 have e3:w64 (((i:Nat):Int) + 1)=((i + 1:Nat):Int):=by rw [w64_in (by omega) (by omega)];omega
 have n:inb 64 ((i:Nat):Int)=some i:=inb_nat (by omega)
 have v:vat w i=some w[i]:=vat_nat hi
 have x:vix gv2 ((i:Nat):Int)=some gv2[i]:=vix_nat hi
 simp only [L153x1_5,L153x1_5c,h1,decide_true,cond_true,a94_6,a94_11,a94_25,a94_2,a94_13,a94_22,Option.bind_some,x,n,v,e3,t1,t2]
theorem r85 (F:Nat) (w:Vector UInt32 64) (a b c d e f g h:UInt32) {i:Nat} (hi:i < 64) :
  L129_7 F gv2 w ((i:Nat):Int) #v[a,b,c,d,e,f,g,h]=some (.inl (((i + 1:Nat):Int),#v[t1 e f g h gv2[i] w[i] + t2 a b c,a,b,c,d + t1 e f g h gv2[i] w[i],e,f,g])):=by
 have h1:(((i:Nat):Int) < 64):=by omega
 have e3:w64 (((i:Nat):Int) + 1)=((i + 1:Nat):Int):=by rw [w64_in (by omega) (by omega)];omega
 have n:inb 64 ((i:Nat):Int)=some i:=inb_nat (by omega)
 have v:vat w i=some w[i]:=vat_nat hi
 have x:vat gv2 i=some gv2[i]:=vat_nat hi
 have y0:vat #v[a,b,c,d,e,f,g,h] 0=some a:=rfl
 have y1:vat #v[a,b,c,d,e,f,g,h] 1=some b:=rfl
 have y2:vat #v[a,b,c,d,e,f,g,h] 2=some c:=rfl
 have y3:vat #v[a,b,c,d,e,f,g,h] 3=some d:=rfl
 have y4:vat #v[a,b,c,d,e,f,g,h] 4=some e:=rfl
 have y5:vat #v[a,b,c,d,e,f,g,h] 5=some f:=rfl
 have y6:vat #v[a,b,c,d,e,f,g,h] 6=some g:=rfl
 have y7:vat #v[a,b,c,d,e,f,g,h] 7=some h:=rfl
 simp only [L129_7,L129_7c,h1,decide_true,cond_true,y0,y1,y2,y3,y4,y5,y6,y7,a93_6,a93_11,a93_25,a93_2,a93_13,a93_22,Option.bind_some,x,n,v,e3,t1,t2]
abbrev O8:=UInt32×UInt32×UInt32×UInt32×UInt32×UInt32×UInt32×UInt32
abbrev O9:=UInt32×UInt32×UInt32×UInt32×UInt32×UInt32×UInt32×UInt32×Int
def v8 (z:O8):Vector UInt32 8:=#v[z.1,z.2.1,z.2.2.1,z.2.2.2.1,z.2.2.2.2.1,z.2.2.2.2.2.1,z.2.2.2.2.2.2.1,z.2.2.2.2.2.2.2]
theorem rounds {F:Nat} (hF:100 < F) (w:Vector UInt32 64) (z:O8):∃ z':O8,
  iter (fun s:O9=>L153x1_5 F w s.1 s.2.1 s.2.2.1 s.2.2.2.1 s.2.2.2.2.1 s.2.2.2.2.2.1 s.2.2.2.2.2.2.1 s.2.2.2.2.2.2.2.1 s.2.2.2.2.2.2.2.2) F (z.1,z.2.1,z.2.2.1,z.2.2.2.1,z.2.2.2.2.1,z.2.2.2.2.2.1,z.2.2.2.2.2.2.1,z.2.2.2.2.2.2.2,(0:Int))=some z' ∧
  iter (fun s:Int×Vector UInt32 8=>L129_7 F gv2 w s.1 s.2) F ((0:Int),v8 z)=some (v8 z'):=by
 obtain ⟨r,r',b1,b2,b3⟩:=iter2 (f:=fun s:O9=>L153x1_5 F w s.1 s.2.1 s.2.2.1 s.2.2.2.1 s.2.2.2.2.1 s.2.2.2.2.2.1 s.2.2.2.2.2.2.1 s.2.2.2.2.2.2.2.1 s.2.2.2.2.2.2.2.2) (g:=fun s:Int×Vector UInt32 8=>L129_7 F gv2 w s.1 s.2)
  (fun s t=>t=(s.2.2.2.2.2.2.2.2,#v[s.1,s.2.1,s.2.2.1,s.2.2.2.1,s.2.2.2.2.1,s.2.2.2.2.2.1,s.2.2.2.2.2.2.1,s.2.2.2.2.2.2.2.1])∧∃ i:Nat,s.2.2.2.2.2.2.2.2=i∧i≤64) (fun r r'=>r'=v8 r) (fun s=>64 - s.2.2.2.2.2.2.2.2.toNat) (by
   rintro ⟨a,b,c,d,e,f,g,h,j⟩ t ⟨rfl,i,hi,h64⟩
   simp only at hi
   subst hi
   by_cases hi:i < 64
   ·exact .inl ⟨_,_,r91 F w a b c d e f g h hi,r85 F w a b c d e f g h hi,⟨rfl,i + 1,rfl,by omega⟩,by simp only [Int.toNat_natCast];omega⟩
   ·obtain rfl:i=64:=by omega
    exact .inr ⟨_,_,rfl,rfl,rfl⟩) F F (z.1,z.2.1,z.2.2.1,z.2.2.2.1,z.2.2.2.2.1,z.2.2.2.2.2.1,z.2.2.2.2.2.2.1,z.2.2.2.2.2.2.2,(0:Int)) ((0:Int),v8 z) ⟨rfl,0,rfl,by omega⟩ (by simp only [Int.toNat_zero];omega) (by simp only [Int.toNat_zero];omega)
 subst b3
 exact ⟨r,b1,b2⟩
theorem last {F:Nat} (hF:100 < F) (x p:Vector UInt32 8):∃ r,iter (fun s:Int×Vector UInt32 8=>L153x1_6 F x p s.1 s.2) F ((0:Int),p)=some r∧iter (fun s:Int×Vector UInt32 8=>L129_8 F p s.1 s.2) F ((0:Int),x)=some r:=by
 obtain ⟨r,r',b1,b2,b3⟩:=iter2 (f:=fun s:Int×Vector UInt32 8=>L153x1_6 F x p s.1 s.2) (g:=fun s:Int×Vector UInt32 8=>L129_8 F p s.1 s.2)
  (fun s t=>s.1=t.1∧∃ i:Nat,s.1=i∧i≤8∧(∀ j (hj:j < 8),j < i->s.2[j]=t.2[j])∧∀ j (hj:j < 8),i≤j->t.2[j]=x[j]) (fun r r'=>r=r') (fun s=>8 - s.1.toNat) (by
   rintro ⟨a,u⟩ ⟨a',v⟩ ⟨rfl,i,hi,h8,hu,hv⟩
   simp only at hi hu hv
   subst hi
   by_cases h:i < 8
   ·have h1:(((i:Nat):Int) < 8):=by omega
    have e3:w64 (((i:Nat):Int) + 1)=((i + 1:Nat):Int):=by rw [w64_in (by omega) (by omega)];omega
    have n:inb 8 ((i:Nat):Int)=some i:=inb_nat h
    have s1:L153x1_6 F x p ((i:Nat):Int) u=some (.inl (((i + 1:Nat):Int),u.setIfInBounds i (p[i] + x[i]))):=by
     simp only [L153x1_6,L153x1_6c,h1,decide_true,cond_true,vix_nat h,n,vat_nat (v:=p) h,Option.bind_some,e3]
    have s2:L129_8 F p ((i:Nat):Int) v=some (.inl (((i + 1:Nat):Int),v.setIfInBounds i (v[i] + p[i]))):=by
     simp only [L129_8,L129_8c,h1,decide_true,cond_true,n,vat_nat (v:=p) h,vat_nat (v:=v) h,Option.bind_some,e3]
    refine .inl ⟨_,_,s1,s2,⟨rfl,i + 1,rfl,by omega,fun j hj hji=>?_,fun j hj hij=>?_⟩,by simp only [Int.toNat_natCast];omega⟩
    ·simp only [Vector.getElem_setIfInBounds]
     by_cases e:i=j
     ·subst e
      simp only [if_true]
      rw [hv i hj (Nat.le_refl _),UInt32.add_comm]
     ·rw [if_neg e,if_neg e]
      exact hu j hj (by omega)
    ·simp only [Vector.getElem_setIfInBounds]
     rw [if_neg (by omega)]
     exact hv j hj (by omega)
   ·obtain rfl:i=8:=by omega
    exact .inr ⟨u,v,rfl,rfl,Vector.ext fun j hj=>hu j hj hj⟩) F F ((0:Int),p) ((0:Int),x) ⟨rfl,0,rfl,by omega,fun j hj h0=>absurd h0 (by omega),fun j hj _=>rfl⟩ (by simp only [Int.toNat_zero];omega) (by simp only [Int.toNat_zero];omega)
 subst b3
 exact ⟨r,b1,b2⟩
theorem vec8 (v:Vector UInt32 8):v8 (v[0],v[1],v[2],v[3],v[4],v[5],v[6],v[7])=v:=by
 apply Vector.ext
 intro i hi
 match i,hi with
 | 0,_=>rfl
 | 1,_=>rfl
 | 2,_=>rfl
 | 3,_=>rfl
 | 4,_=>rfl
 | 5,_=>rfl
 | 6,_=>rfl
 | 7,_=>rfl
theorem k92 (F:Nat):T157 F=some gv2:=rfl
theorem t91 {F:Nat} (hF:100 < F) {p:List UInt8} (hp:p.length=64) (h:Vector UInt32 8):∃ r,T153x1 F p h=some r∧T129 F h p=some r:=by
 obtain ⟨w,w0,a1,a2,a3⟩:=sched hF hp
 obtain ⟨z,b1,b2⟩:=rounds hF w (h[0],h[1],h[2],h[3],h[4],h[5],h[6],h[7])
 rw [vec8] at b2
 obtain ⟨r,c1,c2⟩:=last hF (v8 z) h
 refine ⟨r,?_,?_⟩
 ·simp only [T153x1,T153x1c,a1,Option.bind_some,vat_nat (v:=h) (show 0 < 8 by omega),vat_nat (v:=h) (show 1 < 8 by omega),vat_nat (v:=h) (show 2 < 8 by omega),vat_nat (v:=h) (show 3 < 8 by omega),vat_nat (v:=h) (show 4 < 8 by omega),vat_nat (v:=h) (show 5 < 8 by omega),vat_nat (v:=h) (show 6 < 8 by omega),vat_nat (v:=h) (show 7 < 8 by omega)]
  simp only [b1,Option.bind_some]
  exact (congrArg (fun o=>Option.bind o fun z=>some z) c1)
 ·simp only [T129,T129c,k92,Option.bind_some,a2,a3,b2,c2]
theorem t91v {F:Nat} (hF:100 < F) (v:Vector UInt8 64) (h:Vector UInt32 8):T153 F (0,64) h v=T153x1 F v.toList h:=by
 obtain ⟨w,a1,a2⟩:=schedv hF v
 simp only [T153,T153c,T153x1,T153x1c,a1,a2,Option.bind_some]
 rfl
end Go.Proofs.YtpnhgldpeiogbaaGreatDoor
namespace Go.Tw
set_option linter.unusedSimpArgs false
set_option linter.unusedVariables false
def gd (x:UInt8):UInt8:=bif (x &&& 128) != 0 then (x <<< 1) ^^^ 29 else x <<< 1
def bit0 (b a:UInt8):UInt8:=bif (b &&& 1) == 1 then a else 0
def gml:Nat->UInt8->UInt8->UInt8
 | 0,_,_=>0
 | n + 1,a,b=>bit0 b a ^^^ gml n (gd a) (b >>> 1)
def gm (a b:UInt8):UInt8:=gml 8 a b
theorem allU {p:UInt8->Prop} (h:∀ i:_root_.Fin 256,p (UInt8.ofNat i.val)) (x:UInt8):p x:=by
 have:=h ⟨x.toNat,x.toNat_lt⟩
 simpa using this
theorem lo1 (b:UInt8):b &&& 1=0∨b &&& 1=1:=allU (p:=fun b=>b &&& 1=0∨b &&& 1=1) (by decide +kernel) b
theorem hi1 (b:UInt8):b &&& 128=0∨b &&& 128=128:=allU (p:=fun b=>b &&& 128=0∨b &&& 128=128) (by decide +kernel) b
theorem and_xor (a b c:UInt8):(a ^^^ b) &&& c=(a &&& c) ^^^ (b &&& c):=by
 apply UInt8.toBitVec_inj.1
 simp only [UInt8.toBitVec_and,UInt8.toBitVec_xor]
 ext i hi
 simp [Bool.and_xor_distrib_right]
theorem shr_xor (a b:UInt8):(a ^^^ b) >>> 1=(a >>> 1) ^^^ (b >>> 1):=by
 apply UInt8.toBitVec_inj.1
 simp only [UInt8.toBitVec_shiftRight,UInt8.toBitVec_xor]
 ext i hi
 simp
theorem shl_xor (a b:UInt8):(a ^^^ b) <<< 1=(a <<< 1) ^^^ (b <<< 1):=by
 apply UInt8.toBitVec_inj.1
 simp only [UInt8.toBitVec_shiftLeft,UInt8.toBitVec_xor]
 ext i hi
 simp [Bool.and_xor_distrib_left]
theorem xz (a:UInt8):a ^^^ 0=a:=by simp
theorem zx (a:UInt8):0 ^^^ a=a:=by simp
theorem xx (a:UInt8):a ^^^ a=0:=by simp
theorem gd_xor (a b:UInt8):gd (a ^^^ b)=gd a ^^^ gd b:=by
 have e1:((0:UInt8) != 0)=false:=rfl
 have e2:((128:UInt8) != 0)=true:=rfl
 have e3:((128 ^^^ 128:UInt8) != 0)=false:=rfl
 have e4:((0 ^^^ 128:UInt8) != 0)=true:=rfl
 have e5:((128 ^^^ 0:UInt8) != 0)=true:=rfl
 have e6:((0 ^^^ 0:UInt8) != 0)=false:=rfl
 unfold gd
 rw [and_xor,shl_xor]
 rcases hi1 a with ha | ha<;>rcases hi1 b with hb | hb<;>rw [ha,hb]<;>simp only [e1,e2,e3,e4,e5,e6,cond_true,cond_false]
 ·rw [UInt8.xor_assoc]
 ·rw [UInt8.xor_assoc,UInt8.xor_assoc,UInt8.xor_comm (b <<< (1:UInt8)) (29:UInt8)]
 ·have:((a <<< (1:UInt8)) ^^^ (29:UInt8)) ^^^ ((b <<< (1:UInt8)) ^^^ (29:UInt8))=((a <<< (1:UInt8)) ^^^ (b <<< (1:UInt8))) ^^^ ((29:UInt8) ^^^ 29):=by ac_rfl
  rw [this,xx,xz]
theorem bit0_xor (b c a:UInt8):bit0 (b ^^^ c) a=bit0 b a ^^^ bit0 c a:=by
 have e1:((0:UInt8) == 1)=false:=rfl
 have e2:((1:UInt8) == 1)=true:=rfl
 have e3:((1 ^^^ 1:UInt8) == 1)=false:=rfl
 have e4:((0 ^^^ 1:UInt8) == 1)=true:=rfl
 have e5:((1 ^^^ 0:UInt8) == 1)=true:=rfl
 have e6:((0 ^^^ 0:UInt8) == 1)=false:=rfl
 unfold bit0
 rw [and_xor]
 rcases lo1 b with hb | hb<;>rcases lo1 c with hc | hc<;>rw [hb,hc]<;>simp only [e1,e2,e3,e4,e5,e6,cond_true,cond_false,xx,xz,zx]
theorem bit0_add (b a c:UInt8):bit0 b (a ^^^ c)=bit0 b a ^^^ bit0 b c:=by
 unfold bit0
 cases (b &&& 1) == 1
 ·simp only [cond_false,xx]
 ·rfl
theorem gml_right:∀ (n:Nat) (a b c:UInt8),gml n a (b ^^^ c)=gml n a b ^^^ gml n a c
 | 0,a,b,c=>by simp only [gml,xx]
 | n + 1,a,b,c=>by
  simp only [gml,bit0_xor,shr_xor,gml_right n]
  ac_rfl
theorem gml_left:∀ (n:Nat) (a b c:UInt8),gml n (a ^^^ b) c=gml n a c ^^^ gml n b c
 | 0,a,b,c=>by simp only [gml,xx]
 | n + 1,a,b,c=>by
  simp only [gml,bit0_add,gd_xor,gml_left n]
  ac_rfl
theorem gm_right (a b c:UInt8):gm a (b ^^^ c)=gm a b ^^^ gm a c:=gml_right 8 a b c
theorem gm_left (a b c:UInt8):gm (a ^^^ b) c=gm a c ^^^ gm b c:=gml_left 8 a b c
def pick1 (b m:UInt8):UInt8:=bif (b &&& m) != 0 then m else 0
theorem bits8 (b:UInt8):b=pick1 b 1 ^^^ (pick1 b 2 ^^^ (pick1 b 4 ^^^ (pick1 b 8 ^^^ (pick1 b 16 ^^^ (pick1 b 32 ^^^ (pick1 b 64 ^^^ pick1 b 128)))))):=
 allU (p:=fun b=>b=pick1 b 1 ^^^ (pick1 b 2 ^^^ (pick1 b 4 ^^^ (pick1 b 8 ^^^ (pick1 b 16 ^^^ (pick1 b 32 ^^^ (pick1 b 64 ^^^ pick1 b 128))))))) (by decide +kernel) b
def Lin (f:UInt8->UInt8):Prop:=∀ x y,f (x ^^^ y)=f x ^^^ f y
theorem Lin.zero {f:UInt8->UInt8} (h:Lin f):f 0=0:=by
 have:=h 0 0
 rw [xx,xx] at this
 exact this
theorem Lin.pick {f:UInt8->UInt8} (h:Lin f) (b m:UInt8):f (pick1 b m)=bif (b &&& m) != 0 then f m else 0:=by
 unfold pick1
 cases (b &&& m) != 0
 ·exact h.zero
 ·rfl
theorem Lin.ext {f g:UInt8->UInt8} (hf:Lin f) (hg:Lin g) (h:∀ i:_root_.Fin 8,f (1 <<< UInt8.ofNat i.val)=g (1 <<< UInt8.ofNat i.val)) (x:UInt8):f x=g x:=by
 have h0:f 1=g 1:=h 0
 have h1:f 2=g 2:=h 1
 have h2:f 4=g 4:=h 2
 have h3:f 8=g 8:=h 3
 have h4:f 16=g 16:=h 4
 have h5:f 32=g 32:=h 5
 have h6:f 64=g 64:=h 6
 have h7:f 128=g 128:=h 7
 have e:=bits8 x
 generalize hb:x=b at e ⊢
 rw [e]
 simp only [hf _ _,hg _ _,hf.pick,hg.pick,h0,h1,h2,h3,h4,h5,h6,h7]
theorem gm_linR (a:UInt8):Lin (gm a):=gm_right a
theorem gm_linL (c:UInt8):Lin (fun a=>gm a c):=fun a b=>gm_left a b c
theorem gm_comm (a b:UInt8):gm a b=gm b a:=by
 refine Lin.ext (f:=gm a) (g:=fun b=>gm b a) (gm_linR a) (gm_linL a) (fun i=>?_) b
 refine Lin.ext (f:=fun a=>gm a (1 <<< UInt8.ofNat i.val)) (g:=fun a=>gm (1 <<< UInt8.ofNat i.val) a) (gm_linL _) (gm_linR _) (fun j=>?_) a
 revert i j
 decide
theorem gm_assoc (a b c:UInt8):gm (gm a b) c=gm a (gm b c):=by
 refine Lin.ext (f:=fun c=>gm (gm a b) c) (g:=fun c=>gm a (gm b c)) (gm_linR _) (fun x y=>by simp only [gm_right]) (fun i=>?_) c
 refine Lin.ext (f:=fun b=>gm (gm a b) (1 <<< UInt8.ofNat i.val)) (g:=fun b=>gm a (gm b (1 <<< UInt8.ofNat i.val))) (fun x y=>by simp only [gm_right,gm_left]) (fun x y=>by simp only [gm_right,gm_left]) (fun j=>?_) b
 refine Lin.ext (f:=fun a=>gm (gm a (1 <<< UInt8.ofNat j.val)) (1 <<< UInt8.ofNat i.val)) (g:=fun a=>gm a (gm (1 <<< UInt8.ofNat j.val) (1 <<< UInt8.ofNat i.val))) (fun x y=>by simp only [gm_left]) (fun x y=>by simp only [gm_left]) (fun k=>?_) a
 revert i j k
 decide +kernel
theorem gm_zero (a:UInt8):gm a 0=0:=(gm_linR a).zero
theorem zero_gm (a:UInt8):gm 0 a=0:=(gm_linL a).zero
theorem gm_one (a:UInt8):gm a 1=a:=by
 refine Lin.ext (f:=fun a=>gm a 1) (g:=fun a=>a) (gm_linL 1) (fun x y=>rfl) (fun i=>?_) a
 revert i
 decide
theorem one_gm (a:UInt8):gm 1 a=a:=by rw [gm_comm,gm_one]
end Go.Tw
namespace Go.Proofs.YtpnhgldpeiogbaaGreatDoor
open Go.Tw
set_option linter.unusedSimpArgs false
set_option linter.unusedVariables false
theorem w64s {n:Nat} (h:n < 1000000000):w64 (((n:Nat):Int) + 1)=((n + 1:Nat):Int):=by rw [w64_in (by omega) (by omega)];omega
theorem gml_zero:∀ (n:Nat) (a:UInt8),gml n a 0=0
 | 0,_=>rfl
 | n + 1,a=>by
  have h:bit0 0 a=0:=rfl
  have h2:(0:UInt8) >>> 1=0:=rfl
  simp only [gml,h,h2,gml_zero n,xx]
theorem shr1_lt {n:Nat} {b:UInt8} (h:b.toNat < 2 ^ (n + 1)):(b >>> 1).toNat < 2 ^ n:=by
 have:(b >>> 1).toNat=b.toNat / 2:=by
  simp [UInt8.toNat_shiftRight,Nat.shiftRight_eq_div_pow]
 rw [this,Nat.pow_succ] at *
 omega
theorem sh8 (b:UInt8):shr8 b ((UInt64.ofNat 1).toNat)=b >>> 1:=allU (p:=fun b=>shr8 b ((UInt64.ofNat 1).toNat)=b >>> 1) (by decide +kernel) b
theorem g_dbl (F:Nat) (a:UInt8):T175 F a=some (gd a):=allU (p:=fun a=>T175 F a=some (gd a)) (by intro i;revert i;show ∀ i:_root_.Fin 256,T175 0 (UInt8.ofNat i.val)=some (gd (UInt8.ofNat i.val));decide +kernel) a
theorem g_step (F:Nat) (a b c:UInt8):L169_2 F a b c=bif b != 0 then some (.inl (gd a,b >>> 1,c ^^^ bit0 b a)) else some (.inr c):=by
 simp only [L169_2,L169_2c,g_dbl,Option.bind_some,sh8]
 have e0:(b != UInt8.ofNat 0)=(b != 0):=rfl
 have e1:((b &&& UInt8.ofNat 1) == UInt8.ofNat 1)=((b &&& 1) == 1):=rfl
 rw [e0,e1]
 unfold bit0
 cases b != 0<;>cases (b &&& 1) == 1<;>simp [xz]
theorem g_loop (F:Nat):∀ (n fuel:Nat) (a b c:UInt8),b.toNat < 2 ^ n->n < fuel->iter (fun s:UInt8×UInt8×UInt8=>L169_2 F s.1 s.2.1 s.2.2) fuel (a,b,c)=some (c ^^^ gml n a b)
 | 0,fuel + 1,a,b,c,hb,hf=>by
  have:b=0:=by apply UInt8.toNat_inj.1;simp at hb;simpa using hb
  subst this
  show (L169_2 F a 0 c).bind _=_
  rw [g_step]
  simp [gml,xz]
 | n + 1,fuel + 1,a,b,c,hb,hf=>by
  show (L169_2 F a b c).bind _=_
  rw [g_step]
  cases h0:b != 0 with
  | false=>
   have:b=0:=by simpa using h0
   subst this
   simp only [cond_false,Option.bind_some,gml_zero,xz]
  | true=>
   simp only [cond_true,Option.bind_some]
   rw [g_loop F n fuel (gd a) (b >>> 1) (c ^^^ bit0 b a) (shr1_lt hb) (by omega)]
   simp only [gml,UInt8.xor_assoc]
theorem g_mul {F:Nat} (hF:20 < F) (a b:UInt8):T169 F a b=some (gm a b):=by
 have h:=g_loop F 8 F a b 0 (by have:=b.toNat_lt;simpa using this) (by omega)
 have h:iter (fun s:UInt8×UInt8×UInt8=>L169_2 F s.1 s.2.1 s.2.2) F (a,b,UInt8.ofNat 0)=some ((0:UInt8) ^^^ gml 8 a b):=h
 simp only [T169,T169c,h,Option.bind_some,zx]
 rfl
theorem inbN {n i:Nat} (h:i < n):inb n ((i:Nat):Int)=some i:=inb_nat h
theorem ofI8 {i:Nat} (h:i < 16):UInt8.ofInt ((i:Nat):Int)=UInt8.ofNat i∧UInt8.ofInt (w64 (((i:Nat):Int) * 2 ^ min ((UInt64.ofNat 4).toNat) 64))=UInt8.ofNat (16 * i):=by
 have:∀ i:_root_.Fin 16,UInt8.ofInt ((i.val:Nat):Int)=UInt8.ofNat i.val∧UInt8.ofInt (w64 (((i.val:Nat):Int) * 2 ^ min ((UInt64.ofNat 4).toNat) 64))=UInt8.ofNat (16 * i.val):=by decide +kernel
 exact this ⟨i,h⟩
theorem g_tab {F:Nat} (hF:50 < F) (c:UInt8):∃ u v:Vector UInt8 16,T178 F c=some (u,v)∧∀ (i:Nat) (h:i < 16),u[i]=gm c (UInt8.ofNat i)∧v[i]=gm c (UInt8.ofNat (16 * i)):=by
 obtain ⟨r,h1,h2⟩:=iter1 (f:=fun s:Int×Vector UInt8 16×Vector UInt8 16=>L178_2 F c s.1 s.2.1 s.2.2)
  (fun s=>∃ n:Nat,n≤16∧s.1=n∧∀ (i:Nat) (h:i < 16),i < n->s.2.1[i]=gm c (UInt8.ofNat i)∧s.2.2[i]=gm c (UInt8.ofNat (16 * i)))
  (fun r=>∀ (i:Nat) (h:i < 16),r.1[i]=gm c (UInt8.ofNat i)∧r.2[i]=gm c (UInt8.ofNat (16 * i)))
  (fun s=>(16 - s.1).toNat) (fun s ⟨n,hn,hs,hr⟩=>by
   obtain ⟨s1,s2,s3⟩:=s
   simp only at hs hr
   subst hs
   rcases Nat.lt_or_ge n 16 with hlt | hge
   ·left
    have h:((n:Nat):Int) < 16:=by omega
    have hw:w64 (((n:Nat):Int) + 1)=((n + 1:Nat):Int):=by rw [w64_in (by omega) (by omega)];omega
    obtain ⟨o1,o2⟩:=ofI8 hlt
    refine ⟨_,by simp only [L178_2,L178_2c,h,decide_true,cond_true,o1,o2,g_mul (show 20 < F by omega),Option.bind_some,inbN hlt,hw];rfl,⟨n + 1,by omega,rfl,fun i hi hin=>?_⟩,by simp only;omega⟩
    simp only [Vector.getElem_setIfInBounds]
    by_cases hin2:n=i
    ·subst hin2;simp
    ·simp only [hin2,if_false];exact hr i hi (by omega)
   ·right
    have:n=16:=by omega
    subst this
    have h:¬ (((16:Nat):Int) < 16):=by omega
    exact ⟨_,by simp only [L178_2,L178_2c,h,decide_false,cond_false];rfl,fun i hi=>hr i hi hi⟩)
  F ((0:Int),(Vector.replicate 16 (0:UInt8)),(Vector.replicate 16 (0:UInt8))) ⟨0,by omega,rfl,fun i hi h=>by omega⟩ (by simp;omega)
 exact ⟨r.1,r.2,by simp only [T178,T178c,h1,Option.bind_some],h2⟩
theorem split4 (b:UInt8):b=UInt8.ofNat (b &&& 15).toNat ^^^ UInt8.ofNat (16 * (shr8 b ((UInt64.ofNat 4).toNat)).toNat)∧(b &&& UInt8.ofNat 15).toNat < 16∧(shr8 b ((UInt64.ofNat 4).toNat)).toNat < 16:=
 allU (p:=fun b=>b=UInt8.ofNat (b &&& 15).toNat ^^^ UInt8.ofNat (16 * (shr8 b ((UInt64.ofNat 4).toNat)).toNat)∧(b &&& UInt8.ofNat 15).toNat < 16∧(shr8 b ((UInt64.ofNat 4).toNat)).toNat < 16) (by decide +kernel) b
theorem g_by (F:Nat) {c b:UInt8} {u v:Vector UInt8 16} (h:∀ (i:Nat) (h:i < 16),u[i]=gm c (UInt8.ofNat i)∧v[i]=gm c (UInt8.ofNat (16 * i))):T181 F b u v=some (gm c b):=by
 obtain ⟨h1,h2,h3⟩:=split4 b
 simp only [T181,T181c,vix_nat h2,vix_nat h3,Option.bind_some,(h _ h2).1,(h _ h3).2,← gm_right]
 congr 2
 exact h1.symm
theorem ixU {l:List UInt8} {i:Nat} (h:i < l.length):ix l ((i:Nat):Int)=some l[i]:=ix_nat h
theorem fill_loop {α:Type} {N:Nat} {f:Int×List α->Option ((Int×List α) ⊕ List α)} {g:Nat->α->α} (hN:N < 1000000)
  (hs:∀ (n:Nat) (l:List α) (h:n < l.length),l.length=N->f (((n:Nat):Int),l)=some (.inl (((n + 1:Nat):Int),l.set n (g n l[n])))) (he:∀ l:List α,l.length=N->f (((N:Nat):Int),l)=some (.inr l)) :
  ∀ (m n fuel:Nat) (l:List α),n + m=N->l.length=N->m < fuel->∃ r,iter f fuel (((n:Nat):Int),l)=some r∧r.length=N∧(∀ i (h1:i < r.length) (h2:i < l.length),i < n->r[i]=l[i])∧∀ i (h1:i < r.length) (h2:i < l.length),n≤i->r[i]=g i l[i]
 | 0,n,fuel + 1,l,hn,hl,hf=>by
  have:n=N:=by omega
  subst this
  exact ⟨l,by simp only [iter,he l hl,Option.bind_some],hl,fun _ _ _ _=>rfl,fun i h1 h2 h3=>by omega⟩
 | m + 1,n,fuel + 1,l,hn,hl,hf=>by
  obtain ⟨r,r1,r2,r3,r4⟩:=fill_loop hN hs he m (n + 1) fuel (l.set n (g n (l[n]'(by omega)))) (by omega) (by simp [hl]) (by omega)
  refine ⟨r,?_,r2,fun i h1 h2 h3=>?_,fun i h1 h2 h3=>?_⟩
  ·simp only [iter,hs n l (by omega) hl,Option.bind_some];exact r1
  ·rw [r3 i h1 (by simp;omega) (by omega)]
   rw [List.getElem_set_ne (by omega)]
  ·by_cases hi:i=n
   ·subst hi
    rw [r3 i h1 (by simp;omega) (by omega),List.getElem_set_self]
   ·rw [r4 i h1 (by simp;omega) (by omega),List.getElem_set_ne (by omega)]
theorem g_scale {F:Nat} {l:List UInt8} (hF:100 + l.length < F) (hl:l.length < 1000000) (c:UInt8):T174 F l c=some (l.map (gm c)):=by
 obtain ⟨u,v,h1,h2⟩:=g_tab (F:=F) (by omega) c
 have hm:gmake (0:UInt8) (l.length:Int) (l.length:Int)=some (List.replicate l.length 0):=by
  unfold gmake;rw [if_pos (by omega)];simp
 obtain ⟨r,r1,r2,_,r4⟩:=fill_loop (N:=l.length) (f:=fun s:Int×List UInt8=>L174_2 F l (l.length:Int) u v s.1 s.2) (g:=fun i _=>gm c (l.getD i 0)) hl
  (fun n x hx hxl=>by
   have h:((n:Nat):Int) < (l.length:Int):=by omega
   have hg:l.getD n 0=l[n]'(by omega):=by simp [show n < l.length by omega]
   simp only [L174_2,L174_2c,h,decide_true,cond_true,ixU (show n < l.length by omega),Option.bind_some,g_by F h2,inb_nat hx,w64s (show n < 1000000000 by omega),hg])
  (fun x hx=>by
   have h:¬ ((l.length:Int) < (l.length:Int)):=by omega
   simp only [L174_2,L174_2c,h,decide_false,cond_false])
  l.length 0 F (List.replicate l.length 0) (by omega) (by simp) (by omega)
 have r1:iter (fun s:Int×List UInt8=>L174_2 F l (l.length:Int) u v s.1 s.2) F ((0:Int),List.replicate l.length 0)=some r:=r1
 simp only [T174,T174c,h1,hm,r1,Option.bind_some]
 congr 1
 apply List.ext_getElem
 ·simp [r2]
 ·intro i h3 h4
  rw [r4 i h3 (by simp;omega) (by omega)]
  simp [show i < l.length by omega]
theorem g_muladd {F:Nat} {l v:List UInt8} (hF:100 + l.length < F) (hl:l.length < 1000000) (hv:v.length=l.length) (c:UInt8):T168 F l v c=some (0,List.zipWith (fun a b=>a ^^^ gm c b) l v):=by
 have hne:((l.length:Int) != (v.length:Int))=false:=by simp [hv]
 have hsc:=g_scale (F:=F) (l:=v) (by omega) (by omega) c
 obtain ⟨r,r1,r2,_,r4⟩:=fill_loop (N:=l.length) (f:=fun s:Int×List UInt8=>L168_2 F l (l.length:Int) s.1 s.2) (g:=fun i x=>x ^^^ l.getD i 0) hl
  (fun n x hx hxl=>by
   have h:((n:Nat):Int) < (l.length:Int):=by omega
   have hg:l.getD n 0=l[n]'(by omega):=by simp [show n < l.length by omega]
   simp only [L168_2,L168_2c,h,decide_true,cond_true,ixU (show n < l.length by omega),Option.bind_some,inb_nat hx,List.getElem?_eq_getElem hx,w64s (show n < 1000000000 by omega),hg])
  (fun x hx=>by
   have h:¬ ((l.length:Int) < (l.length:Int)):=by omega
   simp only [L168_2,L168_2c,h,decide_false,cond_false])
  l.length 0 F (v.map (gm c)) (by omega) (by simp [hv]) (by omega)
 have r1:iter (fun s:Int×List UInt8=>L168_2 F l (l.length:Int) s.1 s.2) F ((0:Int),v.map (gm c))=some r:=r1
 simp only [T168,T168c,hne,cond_false,hsc,r1,Option.bind_some]
 congr 2
 apply List.ext_getElem
 ·simp [r2,hv]
 ·intro i h3 h4
  rw [r4 i h3 (by simp;omega) (by omega)]
  simp [show i < l.length by omega]
  exact UInt8.xor_comm _ _
def sq7:Nat->UInt8->UInt8->UInt8
 | 0,_,c=>c
 | n + 1,a,c=>sq7 n (gm a a) (gm c (gm a a))
def gi (b:UInt8):UInt8:=sq7 7 b 1
theorem gi_ok:∀ b:UInt8,b ≠ 0->gm b (gi b)=1:=fun b h=>(allU (p:=fun b=>b=0∨gm b (gi b)=1) (by decide +kernel) b).resolve_left h
theorem gm_ne {a b:UInt8} (ha:a ≠ 0) (hb:b ≠ 0):gm a b ≠ 0:=fun h=>hb (by
 have:gm (gi a) (gm a b)=b:=by rw [← gm_assoc,gm_comm (gi a) a,gi_ok a ha,one_gm]
 rw [← this,h,gm_zero])
theorem gi_zero:gi 0=0:=by decide +kernel
theorem inv_loop {F:Nat} (hF:50 < F) (a:UInt8):iter (fun s:UInt8×UInt8×Int=>L152_2 F s.1 s.2.1 s.2.2) F (a,UInt8.ofNat 1,(0:Int))=some (gi a):=by
 have:∀ (n k fuel:Nat) (a c:UInt8),n + k=7->n < fuel->iter (fun s:UInt8×UInt8×Int=>L152_2 F s.1 s.2.1 s.2.2) fuel (a,c,(k:Int))=some (sq7 n a c):=by
  intro n
  induction n with
  | zero=>
   intro k fuel a c h1 h2
   obtain ⟨f,rfl⟩:∃ f,fuel=f + 1:=⟨fuel - 1,by omega⟩
   have h:¬ ((k:Int) < 7):=by omega
   exact it_out' (by simp only [L152_2,L152_2c,h,decide_false,cond_false];rfl)
  | succ n ih=>
   intro k fuel a c h1 h2
   obtain ⟨f,rfl⟩:∃ f,fuel=f + 1:=⟨fuel - 1,by omega⟩
   have h:(k:Int) < 7:=by omega
   refine (it_again' (s':=(gm a a,gm c (gm a a),((k + 1:Nat):Int))) ?_).trans (ih (k + 1) f _ _ (by omega) (by omega))
   simp only [L152_2,L152_2c,h,decide_true,cond_true,g_mul (show 20 < F by omega),Option.bind_some,w64s (show k < 1000000000 by omega)]
 exact this 7 0 F a _ rfl (by omega)
theorem g_inv {F:Nat} (hF:50 < F) (a:UInt8):∃ e:Int,T152 F a=some (gi a,e):=by
 by_cases h:a=0
 ·subst h
  have:((0:UInt8) == UInt8.ofNat 0)=true:=rfl
  exact ⟨1,by simp only [T152,T152c,this,cond_true,gi_zero];rfl⟩
 ·have:(a == UInt8.ofNat 0)=false:=by have h2:a ≠ UInt8.ofNat 0:=h;simpa using h2
  exact ⟨0,by simp only [T152,T152c,this,cond_false,inv_loop hF,Option.bind_some]⟩
def csum (T:List (UInt8×UInt8)) (r:UInt8):UInt8:=T.foldr (fun p a=>gm p.2 (gi (r ^^^ p.1)) ^^^ a) 0
theorem x_eq {a b:UInt8} (h:a ^^^ b=0):a=b:=by
 have:a ^^^ b ^^^ b=0 ^^^ b:=by rw [h]
 rwa [UInt8.xor_assoc,xx,xz,zx] at this
theorem x_ne {a b:UInt8} (h:a ≠ b):a ^^^ b ≠ 0:=fun e=>h (x_eq e)
theorem x_swap (a b c d:UInt8):(a ^^^ b) ^^^ (c ^^^ d)=(a ^^^ c) ^^^ (b ^^^ d):=by
 rw [UInt8.xor_assoc,← UInt8.xor_assoc b c d,UInt8.xor_comm b c,UInt8.xor_assoc c b d,← UInt8.xor_assoc a c]
theorem gm_inv {u:UInt8} (h:u ≠ 0):gm u (gi u)=1:=gi_ok u h
theorem gi_ne {u:UInt8} (h:u ≠ 0):gi u ≠ 0:=fun e=>by
 have:=gi_ok u h
 rw [e,gm_zero] at this
 exact absurd this (by decide)
theorem cau_term {r r0 c c0 x:UInt8} (hr:r ≠ c) (hr0:r0 ≠ c):gm (r ^^^ c0) (gm x (gi (r ^^^ c))) ^^^ gm (r0 ^^^ c0) (gm x (gi (r0 ^^^ c)))=gm (r ^^^ r0) (gm (gm x (gm (c ^^^ c0) (gi (r0 ^^^ c)))) (gi (r ^^^ c))):=by
 have hu:=x_ne hr
 have hv:=x_ne hr0
 have e1:r ^^^ c0=(r ^^^ c) ^^^ (c ^^^ c0):=by rw [UInt8.xor_assoc,← UInt8.xor_assoc c c c0,xx,zx]
 have e2:r0 ^^^ c0=(r0 ^^^ c) ^^^ (c ^^^ c0):=by rw [UInt8.xor_assoc,← UInt8.xor_assoc c c c0,xx,zx]
 have e3:r ^^^ r0=(r ^^^ c) ^^^ (r0 ^^^ c):=by rw [x_swap,xx,xz]
 rw [e1,e2,e3]
 generalize r ^^^ c=u at *
 generalize r0 ^^^ c=v at *
 generalize c ^^^ c0=k at *
 have f1:gm u (gm x (gi u))=x:=by rw [gm_comm x,← gm_assoc,gm_inv hu,one_gm]
 have f2:gm v (gm x (gi v))=x:=by rw [gm_comm x,← gm_assoc,gm_inv hv,one_gm]
 have g1:gm u (gm (gm x (gm k (gi v))) (gi u))=gm k (gm x (gi v)):=by
  rw [gm_comm (gm x (gm k (gi v))),← gm_assoc,gm_inv hu,one_gm,← gm_assoc x,gm_comm x k,gm_assoc]
 have g2:gm v (gm (gm x (gm k (gi v))) (gi u))=gm k (gm x (gi u)):=by
  have:gm v (gm x (gm k (gi v)))=gm k x:=by
   rw [← gm_assoc x,gm_comm (gm x k),← gm_assoc,gm_inv hv,one_gm,gm_comm]
  rw [← gm_assoc,this,gm_assoc]
 rw [gm_left,gm_left,gm_left,f1,f2,g1,g2,x_swap,xx,zx,UInt8.xor_comm]
def yT (r0 c0:UInt8) (T:List (UInt8×UInt8)):List (UInt8×UInt8):=T.map fun p=>(p.1,gm p.2 (gm (p.1 ^^^ c0) (gi (r0 ^^^ p.1))))
theorem cau_sum {r r0 c0:UInt8}:∀ {T:List (UInt8×UInt8)},(∀ p ∈ T,r ≠ p.1∧r0 ≠ p.1)->gm (r ^^^ c0) (csum T r) ^^^ gm (r0 ^^^ c0) (csum T r0)=gm (r ^^^ r0) (csum (yT r0 c0 T) r)
 | [],_=>by simp [csum,yT,gm_zero]
 | p :: T,h=>by
  have ih:=cau_sum (r:=r) (r0:=r0) (c0:=c0) (T:=T) fun q hq=>h q (by simp [hq])
  have hp:=h p (by simp)
  show gm (r ^^^ c0) (gm p.2 (gi (r ^^^ p.1)) ^^^ csum T r) ^^^ gm (r0 ^^^ c0) (gm p.2 (gi (r0 ^^^ p.1)) ^^^ csum T r0)=gm (r ^^^ r0) (gm (gm p.2 (gm (p.1 ^^^ c0) (gi (r0 ^^^ p.1)))) (gi (r ^^^ p.1)) ^^^ csum (yT r0 c0 T) r)
  rw [gm_right,gm_right,gm_right,x_swap,ih,cau_term hp.1 hp.2]
theorem cauchy:∀ (T:List (UInt8×UInt8)) (R:List UInt8),R.length=T.length->R.Nodup->(T.map (·.1)).Nodup->(∀ r ∈ R,∀ p ∈ T,r ≠ p.1)->(∀ r ∈ R,csum T r=0)->∀ p ∈ T,p.2=0
 | [],R,_,_,_,_,_,p,hp=>by simp at hp
 | (c0,x0) :: T,[],hl,_,_,_,_,p,hp=>by simp at hl
 | (c0,x0) :: T,r0 :: R,hl,hR,hT,hd,hs,p,hp=>by
  rw [List.nodup_cons] at hR
  rw [List.map_cons,List.nodup_cons] at hT
  have hr0c0:r0 ≠ c0:=hd r0 (by simp) (c0,x0) (by simp)
  have hy:=cauchy (yT r0 c0 T) R (by simpa [yT] using hl) hR.2 (by simpa [yT,Function.comp_def] using hT.2) (fun r hr q hq=>by
   obtain ⟨q',hq',rfl⟩:=List.mem_map.1 hq
   exact hd r (by simp [hr]) q' (by simp [hq'])) (fun r hr=>by
   have hne:r ≠ r0:=fun e=>hR.1 (e ▸ hr)
   have hrc0:r ≠ c0:=hd r (by simp [hr]) (c0,x0) (by simp)
   have h1:=hs r (by simp [hr])
   have h2:=hs r0 (by simp)
   have hc:=cau_sum (r:=r) (r0:=r0) (c0:=c0) (T:=T) (fun q hq=>⟨hd r (by simp [hr]) q (by simp [hq]),hd r0 (by simp) q (by simp [hq])⟩)
   have h1:gm x0 (gi (r ^^^ c0)) ^^^ csum T r=0:=h1
   have h2:gm x0 (gi (r0 ^^^ c0)) ^^^ csum T r0=0:=h2
   rw [← x_eq h1,← x_eq h2] at hc
   have f1:gm (r ^^^ c0) (gm x0 (gi (r ^^^ c0)))=x0:=by rw [gm_comm x0,← gm_assoc,gm_inv (x_ne hrc0),one_gm]
   have f2:gm (r0 ^^^ c0) (gm x0 (gi (r0 ^^^ c0)))=x0:=by rw [gm_comm x0,← gm_assoc,gm_inv (x_ne hr0c0),one_gm]
   rw [f1,f2,xx] at hc
   by_cases hz:csum (yT r0 c0 T) r=0
   ·exact hz
   ·exact absurd hc.symm (gm_ne (x_ne hne) hz))
  have hT0:∀ q ∈ T,q.2=0:=fun q hq=>by
   have h:=hy (q.1,gm q.2 (gm (q.1 ^^^ c0) (gi (r0 ^^^ q.1)))) (List.mem_map.2 ⟨q,hq,rfl⟩)
   by_cases hz:q.2=0
   ·exact hz
   ·have hqc:q.1 ≠ c0:=fun e=>hT.1 (List.mem_map.2 ⟨q,hq,e⟩)
    have hqr:r0 ≠ q.1:=hd r0 (by simp) q (by simp [hq])
    exact absurd h (gm_ne hz (gm_ne (x_ne hqc) (gi_ne (x_ne hqr))))
  rcases List.mem_cons.1 hp with rfl | hp
  ·have h2:gm x0 (gi (r0 ^^^ c0)) ^^^ csum T r0=0:=hs r0 (by simp)
   have hc0:csum T r0=0:=by
    have:∀ T:List (UInt8×UInt8),(∀ q ∈ T,q.2=0)->csum T r0=0:=by
     intro T
     induction T with
     | nil=>intro _;rfl
     | cons q T ih=>
      intro h
      show gm q.2 (gi (r0 ^^^ q.1)) ^^^ csum T r0=0
      rw [h q (by simp),zero_gm,zx]
      exact ih fun q' hq'=>h q' (by simp [hq'])
    exact this T hT0
   rw [hc0,xz] at h2
   by_cases hz:x0=0
   ·exact hz
   ·exact absurd h2 (gm_ne hz (gi_ne (x_ne hr0c0)))
  ·exact hT0 p hp
def B (F:Nat) (h:Vector UInt32 8) (p:List UInt8):Vector UInt32 8:=(T129 F h p).getD h
theorem b85 {F:Nat} (hF:100 < F) {p:List UInt8} (hp:p.length=64) (h:Vector UInt32 8):T129 F h p=some (B F h p):=by
 obtain ⟨r,h1,h2⟩:=t91 hF hp h
 simp only [B,h2,Option.getD_some]
theorem b91 {F:Nat} (hF:100 < F) {p:List UInt8} (hp:p.length=64) (h:Vector UInt32 8):T153x1 F p h=some (B F h p):=by
 obtain ⟨r,h1,h2⟩:=t91 hF hp h
 simp only [B,h1,h2,Option.getD_some]
theorem b91v {F:Nat} (hF:100 < F) (v:Vector UInt8 64) (h:Vector UInt32 8):T153 F (0,64) h v=some (B F h v.toList):=by
 rw [t91v hF,b91 hF (by simp)]
def hN (F:Nat):Nat->List UInt8->Vector UInt32 8
 | 0,_=>gv0
 | k + 1,m=>B F (hN F k m) ((m.drop (64 * k)).take 64)
theorem hN_app (F:Nat) (m x:List UInt8):∀ k,64 * k≤m.length->hN F k (m ++ x)=hN F k m
 | 0,_=>rfl
 | k + 1,h=>by
  simp only [hN]
  rw [hN_app F m x k (by omega),List.drop_append_of_le_length (by omega),List.take_append_of_le_length (by simp;omega)]
structure Inv (F:Nat) (m:List UInt8) (h:Vector UInt32 8) (b:Vector UInt8 64) (n:Int):Prop where
 len:n=(m.length:Int)
 words:h=hN F (m.length / 64) m
 rest:b.toList.take (m.length % 64)=m.drop (64 * (m.length / 64))
theorem tmod64 (a:Nat):Int.tmod ((a:Nat):Int) 64=((a % 64:Nat):Int):=by
 rw [Int.tmod_eq_emod_of_nonneg (by omega)];omega
theorem lp82 {F:Nat} (hF:100 < F) (M:List UInt8):∀ (fuel k:Nat),64 * k≤M.length->(M.length - 64 * k) / 64 < fuel ->
  iter (fun s:List UInt8×Vector UInt32 8=>L123_4 F s.1 s.2) fuel (M.drop (64 * k),hN F k M)=some (M.drop (64 * (M.length / 64)),hN F (M.length / 64) M)
 | 0,k,hk,hf=>absurd hf (by omega)
 | fuel + 1,k,hk,hf=>by
  by_cases h:64≤M.length - 64 * k
  ·have h1:((64:Int)≤((M.drop (64 * k)).length:Int)):=by simp;omega
   have g1:gsl (M.drop (64 * k)) (0:Int) (64:Int)=some ((M.drop (64 * k)).take 64):=gsl_nat (a:=0) (b:=64) (by omega) (by simp;omega)
   have g2:gsl (M.drop (64 * k)) (64:Int) ((M.drop (64 * k)).length:Int)=some (M.drop (64 * (k + 1))):=by
    have:=gsl_nat (l:=M.drop (64 * k)) (a:=64) (b:=(M.drop (64 * k)).length) (by simp;omega) (Nat.le_refl _)
    refine Eq.trans this ?_
    rw [List.take_of_length_le (by simp only [List.length_drop];omega),List.drop_drop]
    congr 2
   have step:L123_4 F (M.drop (64 * k)) (hN F k M)=some (.inl (M.drop (64 * (k + 1)),hN F (k + 1) M)):=by
    simp only [L123_4,L123_4c,h1,decide_true,cond_true,g1,g2,Option.bind_some,b91 hF (show ((M.drop (64 * k)).take 64).length=64 by simp;omega),hN]
   refine (it_again (f:=fun s:List UInt8×Vector UInt32 8=>L123_4 F s.1 s.2) (s:=(M.drop (64 * k),hN F k M)) step).trans ?_
   exact lp82 hF M fuel (k + 1) (by omega) (by omega)
  ·have h1:¬ ((64:Int)≤((M.drop (64 * k)).length:Int)):=by simp;omega
   have hk2:k=M.length / 64:=by omega
   have step:L123_4 F (M.drop (64 * k)) (hN F k M)=some (.inr (M.drop (64 * k),hN F k M)):=by
    simp only [L123_4,L123_4c,h1,decide_false,cond_false]
   refine (it_out (f:=fun s:List UInt8×Vector UInt32 8=>L123_4 F s.1 s.2) (s:=(M.drop (64 * k),hN F k M)) step).trans ?_
   rw [← hk2]
theorem tail82 {F:Nat} (hF:100 < F) (M:List UInt8) (hM:M.length < F) (b:Vector UInt8 64) {k:Nat} (hk:64 * k≤M.length) :
  iter (fun s:List UInt8×Vector UInt32 8=>L123_4 F s.1 s.2) F (M.drop (64 * k),hN F k M)=some (M.drop (64 * (M.length / 64)),hN F (M.length / 64) M) ∧
  (vspl b 0 (M.drop (64 * (M.length / 64))) (M.drop (64 * (M.length / 64))).length).toList.take (M.length % 64)=M.drop (64 * (M.length / 64)):=by
 refine ⟨lp82 hF M F k hk (by omega),?_⟩
 have hl:(M.drop (64 * (M.length / 64))).length=M.length % 64:=by simp;omega
 rw [vspl_toList (by omega) (Nat.le_refl _)]
 simp only [splice,List.take_zero,List.nil_append,List.take_length]
 rw [← hl,List.take_append_of_le_length (Nat.le_refl _),List.take_length]
theorem t82 {F:Nat} {m x:List UInt8} {h:Vector UInt32 8} {b:Vector UInt8 64} {n:Int} (hF:100 + m.length + x.length < F) (hb:m.length + x.length < 1000000000) (hI:Inv F m h b n) :
  ∃ h' b' n',T123 F x h b n=some (h',b',n')∧Inv F (m ++ x) h' b' n':=by
 obtain ⟨rfl,rfl,hr⟩:=hI
 have wn:w64 ((m.length:Int) + (x.length:Int))=((m ++ x).length:Int):=by rw [w64_in (by omega) (by omega)];simp
 have g0:gslb 64 (0:Int) ((64:Nat):Int)=some (0,64):=gslb_nat (a:=0) (by omega) (by omega)
 have hlen:(m ++ x).length=m.length + x.length:=by simp
 by_cases hu:m.length % 64=0
 ·have d:¬ ((0:Int) < ((m.length % 64:Nat):Int)):=by omega
  have s3:L123_3 F x ((m.length % 64:Nat):Int) false (hN F (m.length / 64) m) b=some (.inl (x,hN F (m.length / 64) m,b)):=by
   simp only [L123_3,L123_3c,cond_false]
  obtain ⟨q1,q2⟩:=tail82 (F:=F) (by omega) (m ++ x) (by omega) b (k:=m.length / 64) (by omega)
  have e1:(m ++ x).drop (64 * (m.length / 64))=x:=by
   rw [show 64 * (m.length / 64)=m.length by omega];simp
  rw [e1,hN_app F m x _ (by omega)] at q1
  have hmin:Nat.min ((m ++ x).drop (64 * ((m ++ x).length / 64))).length (64 - 0)=((m ++ x).drop (64 * ((m ++ x).length / 64))).length:=Nat.min_eq_left (by simp;omega)
  refine ⟨hN F ((m ++ x).length / 64) (m ++ x),vspl b 0 ((m ++ x).drop (64 * ((m ++ x).length / 64))) ((m ++ x).drop (64 * ((m ++ x).length / 64))).length,((m ++ x).length:Int),?_,rfl,rfl,q2⟩
  simp only [T123,T123c,tmod64,d,decide_false,s3,Option.bind_some,elimS,q1,g0,hmin,wn]
 ·have d:((0:Int) < ((m.length % 64:Nat):Int)):=by omega
  have g1:gslb 64 ((m.length % 64:Nat):Int) ((64:Nat):Int)=some (m.length % 64,64):=gslb_nat (by omega) (by omega)
  by_cases hc:x.length < 64 - m.length % 64
  ·have hmin:Nat.min x.length (64 - m.length % 64)=x.length:=Nat.min_eq_left (by omega)
   have g2:gsl x (x.length:Int) (x.length:Int)=some []:=by
    rw [gsl_nat (Nat.le_refl _) (Nat.le_refl _)];simp
   have w:w64 (((m.length % 64:Nat):Int) + (x.length:Int))=((m.length % 64 + x.length:Nat):Int):=by rw [w64_in (by omega) (by omega)];omega
   have d2:(((m.length % 64 + x.length:Nat):Int) < 64):=by omega
   have s3:L123_3 F x ((m.length % 64:Nat):Int) true (hN F (m.length / 64) m) b=some (.inr (vspl b (m.length % 64) x x.length)):=by
    simp only [L123_3,L123_3c,cond_true,g1,Option.bind_some,hmin,g2,w,d2,decide_true]
   refine ⟨hN F (m.length / 64) m,vspl b (m.length % 64) x x.length,((m ++ x).length:Int),?_,rfl,?_,?_⟩
   ·simp only [T123,T123c,tmod64,d,decide_true,s3,Option.bind_some,elimS,wn]
   ·rw [hlen,show (m.length + x.length) / 64=m.length / 64 by omega,hN_app F m x _ (by omega)]
   ·rw [hlen,show (m.length + x.length) / 64=m.length / 64 by omega,show (m.length + x.length) % 64=m.length % 64 + x.length by omega,vspl_toList (by omega) (Nat.le_refl _)]
    simp only [splice,List.take_length]
    rw [hr,List.drop_append_of_le_length (by omega)]
    rw [List.take_append_of_le_length (by simp;omega),List.take_of_length_le (by simp;omega)]
  ·have hmin:Nat.min x.length (64 - m.length % 64)=64 - m.length % 64:=Nat.min_eq_right (by omega)
   have g2:gsl x ((64 - m.length % 64:Nat):Int) (x.length:Int)=some (x.drop (64 - m.length % 64)):=by
    rw [gsl_nat (by omega) (Nat.le_refl _),List.take_of_length_le (by simp)]
   have w:w64 (((m.length % 64:Nat):Int) + ((64 - m.length % 64:Nat):Int))=64:=by rw [w64_in (by omega) (by omega)];omega
   have d2:¬ ((64:Int) < 64):=by omega
   have hbl:(vspl b (m.length % 64) x (64 - m.length % 64)).toList=((m ++ x).drop (64 * (m.length / 64))).take 64:=by
    rw [vspl_toList (by omega) (by omega)]
    simp only [splice]
    have hz:b.toList.drop (m.length % 64 + (64 - m.length % 64))=[]:=List.drop_of_length_le (by rw [Vector.length_toList];omega)
    have hdl:(m.drop (64 * (m.length / 64))).length=m.length % 64:=by rw [List.length_drop];omega
    rw [hr,hz,List.append_nil,List.drop_append_of_le_length (by omega),List.take_append,List.take_of_length_le (l:=m.drop (64 * (m.length / 64))) (by omega),hdl]
   have s3:L123_3 F x ((m.length % 64:Nat):Int) true (hN F (m.length / 64) m) b=some (.inl (x.drop (64 - m.length % 64),hN F (m.length / 64 + 1) (m ++ x),vspl b (m.length % 64) x (64 - m.length % 64))):=by
    simp only [L123_3,L123_3c,cond_true,g1,Option.bind_some,hmin,g2,w,d2,decide_false,cond_false,g0,b91v (show 100 < F by omega),hbl,hN,hN_app F m x (m.length / 64) (by omega)]
   obtain ⟨q1,q2⟩:=tail82 (F:=F) (by omega) (m ++ x) (by omega) (vspl b (m.length % 64) x (64 - m.length % 64)) (k:=m.length / 64 + 1) (by omega)
   have e1:(m ++ x).drop (64 * (m.length / 64 + 1))=x.drop (64 - m.length % 64):=by
    rw [List.drop_append,List.drop_of_length_le (by omega),List.nil_append]
    congr 1;omega
   rw [e1] at q1
   have hmin2:Nat.min ((m ++ x).drop (64 * ((m ++ x).length / 64))).length (64 - 0)=((m ++ x).drop (64 * ((m ++ x).length / 64))).length:=Nat.min_eq_left (by simp;omega)
   refine ⟨hN F ((m ++ x).length / 64) (m ++ x),vspl (vspl b (m.length % 64) x (64 - m.length % 64)) 0 ((m ++ x).drop (64 * ((m ++ x).length / 64))) ((m ++ x).drop (64 * ((m ++ x).length / 64))).length,((m ++ x).length:Int),?_,rfl,rfl,q2⟩
   simp only [T123,T123c,tmod64,d,decide_true,s3,Option.bind_some,elimS,q1,g0,hmin2,wn]
theorem gapp_ok {α:Type} {xs ys:List α} (h:xs.length + ys.length≤1099511627776):gapp xs ys=some (xs ++ ys):=by unfold gapp;rw [if_pos h]
theorem padz {F:Nat} {m:List UInt8} (hF:300 < F) (hb:m.length < 1000000000) (h:Vector UInt32 8) (b:Vector UInt8 64):∃ p:List UInt8,p.length≤64∧1≤p.length∧(m.length + p.length) % 64=56 ∧
  iter (fun s:List UInt8=>L124_4 F (h,b,(m.length:Int),()) s) F [(UInt8.ofNat 128)]=some p∧iter (fun s:List UInt8=>L128_3 F s) F (m ++ [(UInt8.ofNat 128)])=some (m ++ p):=by
 obtain ⟨r,r',b1,b2,b3,b4,b5⟩:=iter2 (f:=fun s:List UInt8=>L124_4 F (h,b,(m.length:Int),()) s) (g:=fun s:List UInt8=>L128_3 F s)
  (fun s t=>t=m ++ s∧1≤s.length∧s.length≤(119 - m.length % 64) % 64 + 1) (fun r r'=>r'=m ++ r∧(1≤r.length∧r.length≤64)∧(m.length + r.length) % 64=56) (fun s=>65 - s.length) (by
   rintro s t ⟨rfl,h1,h2⟩
   have w:w64 ((m.length:Int) + (s.length:Int))=((m.length + s.length:Nat):Int):=by rw [w64_in (by omega) (by omega)];omega
   have hl:((m ++ s).length:Int)=((m.length + s.length:Nat):Int):=by simp
   by_cases hc:(m.length + s.length) % 64=56
   ·have e:((((m.length + s.length) % 64:Nat):Int) != 56)=false:=by rw [hc];rfl
    refine .inr ⟨s,m ++ s,?_,?_,rfl,⟨h1,by omega⟩,hc⟩
    ·simp only [L124_4,L124_4c,w,tmod64,e,cond_false]
    ·simp only [L128_3,L128_3c,hl,tmod64,e,cond_false]
   ·have e:((((m.length + s.length) % 64:Nat):Int) != 56)=true:=by rw [bne_iff_ne];omega
    refine .inl ⟨s ++ [UInt8.ofNat 0],m ++ s ++ [UInt8.ofNat 0],?_,?_,⟨by simp,by simp,?_⟩,?_⟩
    ·simp only [L124_4,L124_4c,w,tmod64,e,cond_true,gapp_ok (show s.length + [UInt8.ofNat 0].length≤1099511627776 by simp;omega),Option.bind_some]
    ·simp only [L128_3,L128_3c,hl,tmod64,e,cond_true,gapp_ok (show (m ++ s).length + [UInt8.ofNat 0].length≤1099511627776 by simp;omega),Option.bind_some]
    ·simp only [List.length_append,List.length_cons,List.length_nil];omega
    ·simp only [List.length_append,List.length_cons,List.length_nil];omega) F F [(UInt8.ofNat 128)] (m ++ [(UInt8.ofNat 128)]) ⟨rfl,by simp,by simp⟩ (by simp;omega) (by simp;omega)
 subst b3
 exact ⟨r,b4.2,b4.1,b5,b1,b2⟩
theorem padc {F:Nat} {m p:List UInt8} (hF:300 < F) (hb:m.length < 1000000000) (hp:p.length≤64) (c:UInt64):∃ q:List UInt8,q.length=p.length + 8 ∧
  iter (fun s:Int×List UInt8=>L124_5 F c s.1 s.2) F ((56:Int),p)=some q∧iter (fun s:Int×List UInt8=>L128_4 F c s.1 s.2) F ((7:Int),m ++ p)=some (m ++ q):=by
 obtain ⟨r,r',b1,b2,b3,b4⟩:=iter2 (f:=fun s:Int×List UInt8=>L124_5 F c s.1 s.2) (g:=fun s:Int×List UInt8=>L128_4 F c s.1 s.2)
  (fun s t=>∃ i:Nat,i≤8∧s.1=8 * (i:Int) - 8∧t.1=(i:Int) - 1∧t.2=m ++ s.2∧s.2.length + i=p.length + 8) (fun r r'=>r'=m ++ r∧r.length=p.length + 8) (fun s=>(s.1 + 8).toNat) (by
   rintro ⟨a,s⟩ ⟨a',t⟩ ⟨i,h8,h1,h2,h3,h4⟩
   simp only at h1 h2 h3 h4
   subst h1 h2 h3
   cases i with
   | zero=>
    refine .inr ⟨s,m ++ s,?_,?_,rfl,by omega⟩
    ·have d:¬ ((0:Int)≤8 * ((0:Nat):Int) - 8):=by omega
     simp only [L124_5,L124_5c,d,decide_false,cond_false]
    ·have d:¬ ((0:Int)≤((0:Nat):Int) - 1):=by omega
     simp only [L128_4,L128_4c,d,decide_false,cond_false]
   | succ i=>
    have e1:8 * ((i + 1:Nat):Int) - 8=((8 * i:Nat):Int):=by omega
    have e2:((i + 1:Nat):Int) - 1=((i:Nat):Int):=by omega
    rw [e1,e2]
    have d1:((0:Int)≤((8 * i:Nat):Int)):=by omega
    have d2:((0:Int)≤((i:Nat):Int)):=by omega
    have n1:gnn ((8 * i:Nat):Int)=some (8 * i):=by unfold gnn;rw [if_pos d1];simp only [Int.toNat_natCast]
    have w0:w64 ((8:Int) * ((i:Nat):Int))=((8 * i:Nat):Int):=by rw [w64_in (by omega) (by omega)];omega
    have w1:w64 (((8 * i:Nat):Int) - 8)=8 * (i:Int) - 8:=by rw [w64_in (by omega) (by omega)];omega
    have w2:w64 (((i:Nat):Int) - 1)=(i:Int) - 1:=by rw [w64_in (by omega) (by omega)]
    refine .inl ⟨(8 * (i:Int) - 8,s ++ [(shr64 c (8 * i)).toUInt8]),((i:Int) - 1,m ++ s ++ [(shr64 c (8 * i)).toUInt8]),?_,?_,⟨i,by omega,rfl,rfl,by simp,by simp;omega⟩,?_⟩
    ·simp only [L124_5,L124_5c,d1,decide_true,cond_true,n1,Option.bind_some,gapp_ok (show s.length + [(shr64 c (8 * i)).toUInt8].length≤1099511627776 by simp;omega),w1]
    ·simp only [L128_4,L128_4c,d2,decide_true,cond_true,w0,n1,Option.bind_some,gapp_ok (show (m ++ s).length + [(shr64 c (8 * i)).toUInt8].length≤1099511627776 by simp;omega),w2]
    ·simp only;omega) F F ((56:Int),p) ((7:Int),m ++ p) ⟨8,by omega,by omega,by omega,rfl,rfl⟩ (by simp only;omega) (by simp only;omega)
 subst b3
 exact ⟨r,b4,b1,b2⟩
theorem outs {F:Nat} (hF:300 < F) (h:Vector UInt32 8):∃ d:List UInt8,d.length=32∧iter (fun s:Int×List UInt8=>L124_6 F h s.1 s.2) F ((0:Int),([]:List UInt8))=some d∧iter (fun s:Int×List UInt8=>L89_4 F h s.1 s.2) F ((0:Int),([]:List UInt8))=some d:=by
 obtain ⟨r,r',b1,b2,b3,b4⟩:=iter2 (f:=fun s:Int×List UInt8=>L124_6 F h s.1 s.2) (g:=fun s:Int×List UInt8=>L89_4 F h s.1 s.2)
  (fun s t=>s=t∧∃ i:Nat,s.1=i∧i≤8∧s.2.length=4 * i) (fun r r'=>r'=r∧r.length=32) (fun s=>8 - s.1.toNat) (by
   rintro ⟨a,s⟩ t ⟨rfl,i,hi,h8,hl⟩
   simp only at hi hl
   subst hi
   by_cases hlt:i < 8
   ·have h1:(((i:Nat):Int) < 8):=by omega
    have e3:w64 (((i:Nat):Int) + 1)=((i + 1:Nat):Int):=by rw [w64_in (by omega) (by omega)];omega
    have n:inb 8 ((i:Nat):Int)=some i:=inb_nat hlt
    have ga:gapp s [((shr32 h[i] ((UInt64.ofNat 24).toNat)).toUInt8),((shr32 h[i] ((UInt64.ofNat 16).toNat)).toUInt8),((shr32 h[i] ((UInt64.ofNat 8).toNat)).toUInt8),(h[i].toUInt8)]=some (s ++ [((shr32 h[i] ((UInt64.ofNat 24).toNat)).toUInt8),((shr32 h[i] ((UInt64.ofNat 16).toNat)).toUInt8),((shr32 h[i] ((UInt64.ofNat 8).toNat)).toUInt8),(h[i].toUInt8)]):=gapp_ok (by simp [hl];omega)
    refine .inl ⟨(((i + 1:Nat):Int),s ++ [((shr32 h[i] ((UInt64.ofNat 24).toNat)).toUInt8),((shr32 h[i] ((UInt64.ofNat 16).toNat)).toUInt8),((shr32 h[i] ((UInt64.ofNat 8).toNat)).toUInt8),(h[i].toUInt8)]),(((i + 1:Nat):Int),s ++ [((shr32 h[i] ((UInt64.ofNat 24).toNat)).toUInt8),((shr32 h[i] ((UInt64.ofNat 16).toNat)).toUInt8),((shr32 h[i] ((UInt64.ofNat 8).toNat)).toUInt8),(h[i].toUInt8)]),?_,?_,⟨rfl,i + 1,rfl,by omega,?_⟩,by simp only [Int.toNat_natCast];omega⟩
    ·simp only [L124_6,L124_6c,h1,decide_true,cond_true,vix_nat (v:=h) hlt,Option.bind_some,ga,e3]
    ·simp only [L89_4,L89_4c,h1,decide_true,cond_true,n,vat_nat (v:=h) hlt,Option.bind_some,ga,e3]
    ·simp [hl];omega
   ·obtain rfl:i=8:=by omega
    exact .inr ⟨s,s,rfl,rfl,rfl,hl⟩) F F ((0:Int),([]:List UInt8)) ((0:Int),([]:List UInt8)) ⟨rfl,0,rfl,by omega,rfl⟩ (by simp only [Int.toNat_zero];omega) (by simp only [Int.toNat_zero];omega)
 subst b3
 exact ⟨r',b4,b1,b2⟩
theorem lp68 {F:Nat} (hF:100 < F) {M:List UInt8} {K:Nat} (hM:M.length=64 * K) (hb:M.length < 2000000000):∀ (j fuel k:Nat),k + j=K->j < fuel ->
  iter (fun s:Int×Vector UInt32 8=>L89_3 F M s.1 s.2) fuel (((64 * k:Nat):Int),hN F k M)=some (hN F K M)
 | j,0,k,hk,hf=>absurd hf (by omega)
 | 0,fuel + 1,k,hk,hf=>by
  have h1:¬ (((64 * k:Nat):Int) < (M.length:Int)):=by omega
  obtain rfl:k=K:=by omega
  have step:L89_3 F M ((64 * k:Nat):Int) (hN F k M)=some (.inr (hN F k M)):=by
   simp only [L89_3,L89_3c,h1,decide_false,cond_false]
  exact it_out (f:=fun s:Int×Vector UInt32 8=>L89_3 F M s.1 s.2) (s:=(((64 * k:Nat):Int),hN F k M)) step
 | j + 1,fuel + 1,k,hk,hf=>by
  have h1:(((64 * k:Nat):Int) < (M.length:Int)):=by omega
  have w:w64 (((64 * k:Nat):Int) + 64)=((64 * (k + 1):Nat):Int):=by rw [w64_in (by omega) (by omega)];omega
  have g:gslb M.length ((64 * k:Nat):Int) ((64 * (k + 1):Nat):Int)=some (64 * k,64 * (k + 1)):=gslb_nat (by omega) (by omega)
  have e:64 * (k + 1) - 64 * k=64:=by omega
  have step:L89_3 F M ((64 * k:Nat):Int) (hN F k M)=some (.inl (((64 * (k + 1):Nat):Int),hN F (k + 1) M)):=by
   simp only [L89_3,L89_3c,h1,decide_true,cond_true,w,g,Option.bind_some,e,b85 hF (show ((M.drop (64 * k)).take 64).length=64 by simp;omega),hN]
  refine (it_again (f:=fun s:Int×Vector UInt32 8=>L89_3 F M s.1 s.2) (s:=(((64 * k:Nat):Int),hN F k M)) step).trans ?_
  exact lp68 hF hM hb j fuel (k + 1) (by omega) (by omega)
theorem sum_eq {F:Nat} {m:List UInt8} {h:Vector UInt32 8} {b:Vector UInt8 64} {n:Int} (hF:400 + m.length < F) (hb:m.length < 100000000) (hI:Inv F m h b n) :
  ∃ d,T124 F (h,b,n,())=some d∧T89 F m=some d∧d.length=32:=by
 have hn:=hI.len
 subst hn
 obtain ⟨p,p1,p2,p3,p4,p5⟩:=padz (F:=F) (m:=m) (by omega) (by omega) h b
 obtain ⟨q,q1,q2,q3⟩:=padc (F:=F) (m:=m) (p:=p) (by omega) (by omega) p1 ((UInt64.ofInt (m.length:Int)) * (UInt64.ofNat 8))
 obtain ⟨h',b',n',t1,t2⟩:=t82 (x:=q) (by omega) (by omega) hI
 obtain ⟨d,d1,d2,d3⟩:=outs (F:=F) (by omega) h'
 have g0:gmake (0:UInt8) (0:Int) (32:Int)=some []:=by decide +kernel
 have hl:(m ++ q).length=m.length + q.length:=by simp
 have hK:(m ++ q).length=64 * ((m ++ q).length / 64):=by omega
 have l:=lp68 (F:=F) (by omega) hK (by omega) ((m ++ q).length / 64) F 0 (by omega) (by omega)
 rw [← t2.words] at l
 refine ⟨d,?_,?_,d1⟩
 ·simp only [T124,T124c,p4,Option.bind_some,q2,t1,g0,d2]
 ·have ga:gapp ([]:List UInt8) m=some m:=by rw [gapp_ok (by simp;omega)];rfl
  have gb:gapp m [UInt8.ofNat 128]=some (m ++ [UInt8.ofNat 128]):=gapp_ok (by simp;omega)
  have h84:T128 F m=some (m ++ q):=by
   simp only [T128,T128c,ga,gb,Option.bind_some,p5,q3]
  simp only [T89,T89c,h84,Option.bind_some]
  refine Eq.trans (congrArg (fun o=>Option.bind o _) l) ?_
  simp only [Option.bind_some,d3]
theorem inv0 (F:Nat):Inv F [] gv0 (Vector.replicate 64 (0:UInt8)) 0:=⟨rfl,rfl,rfl⟩
theorem t79 {F:Nat} {ls:List (List UInt8)} (hF:400 + ls.flatten.length + ls.length < F) (hb:ls.flatten.length < 100000000) (hl:ls.length < 1000):∃ d,T126 F ls=some d∧T89 F ls.flatten=some d∧d.length=32:=by
 obtain ⟨r,b1,b2⟩:=iter1 (f:=fun s:Int×Vector UInt32 8×Vector UInt8 64×Int=>L126_2 F ls (ls.length:Int) s.1 s.2.1 s.2.2.1 s.2.2.2)
  (fun s=>∃ i:Nat,s.1=i∧i≤ls.length∧Inv F (ls.take i).flatten s.2.1 s.2.2.1 s.2.2.2) (fun r=>Inv F ls.flatten r.1 r.2.1 r.2.2) (fun s=>ls.length - s.1.toNat) (by
   rintro ⟨a,h,b,n⟩ ⟨i,hi,hil,hI⟩
   simp only at hi hI
   subst hi
   by_cases hlt:i < ls.length
   ·have h1:(((i:Nat):Int) < (ls.length:Int)):=by omega
    have e3:w64 (((i:Nat):Int) + 1)=((i + 1:Nat):Int):=by rw [w64_in (by omega) (by omega)];omega
    have hs:(ls.take (i + 1)).flatten=(ls.take i).flatten ++ ls[i]:=by
     rw [List.take_succ_eq_append_getElem hlt,List.flatten_append];simp
    have hle:(ls.take (i + 1)).flatten.length≤ls.flatten.length:=by
     conv=>rhs;rw [← List.take_append_drop (i + 1) ls,List.flatten_append,List.length_append]
     omega
    rw [hs,List.length_append] at hle
    have gs:gstr ls[i]=some ls[i]:=by unfold gstr;rw [if_pos (by omega)]
    obtain ⟨h',b',n',t1,t2⟩:=t82 (x:=ls[i]) (by omega) (by omega) hI
    refine .inl ⟨(((i + 1:Nat):Int),h',b',n'),?_,⟨i + 1,rfl,by omega,?_⟩,by simp only [Int.toNat_natCast];omega⟩
    ·simp only [L126_2,L126_2c,h1,decide_true,cond_true,ix_nat hlt,Option.bind_some,gs,t1,e3]
    ·rw [hs];exact t2
   ·obtain rfl:i=ls.length:=by omega
    have h1:¬ (((ls.length:Nat):Int) < (ls.length:Int)):=by omega
    rw [List.take_length] at hI
    refine .inr ⟨(h,b,n),?_,hI⟩
    simp only [L126_2,L126_2c,h1,decide_false,cond_false]) F ((0:Int),gv0,Vector.replicate 64 (0:UInt8),(0:Int)) ⟨0,rfl,by omega,inv0 F⟩ (by simp only [Int.toNat_zero];omega)
 obtain ⟨d,d1,d2,d3⟩:=sum_eq (by omega) hb b2
 refine ⟨d,?_,d2,d3⟩
 simp only [T126,T126c,T122,T122c,Option.bind_some,b1,d1]
theorem iter_mono {σ ρ:Type} {f:σ->Option (σ ⊕ ρ)}:∀ {n m:Nat} {s:σ} {r:ρ},iter f n s=some r->n≤m->iter f m s=some r
 | 0,m,s,r,h,_=>by simp [iter] at h
 | n + 1,m,s,r,h,hm=>by
  obtain ⟨m,rfl⟩:∃ k,m=k + 1:=⟨m - 1,by omega⟩
  simp only [iter] at h ⊢
  cases hf:f s with
  | none=>rw [hf] at h;cases h
  | some z=>
   rw [hf] at h
   cases z with
   | inl s'=>exact iter_mono (f:=f) h (by omega)
   | inr r'=>exact h
def sh (F:Nat) (x:List UInt8):List UInt8:=(T89 F x).getD []
theorem sh_some {F:Nat} {x:List UInt8} (hF:410 + x.length < F) (hb:x.length < 1000000):T89 F x=some (sh F x)∧(sh F x).length=32:=by
 obtain ⟨d,_,d2,d3⟩:=t79 (F:=F) (ls:=[x]) (by simp;omega) (by simp;omega) (by simp)
 rw [List.flatten_singleton] at d2
 simp [sh,d2,d3]
theorem t_sum {F:Nat} {x:List UInt8} (hF:410 + x.length < F) (hb:x.length < 1000000):T85 F x=some (sh F x):=by
 obtain ⟨h,b,n,a1,a2⟩:=t82 (F:=F) (m:=[]) (x:=x) (by simp;omega) (by simp;omega) (inv0 F)
 rw [List.nil_append] at a2
 obtain ⟨d,d1,d2,d3⟩:=sum_eq (by omega) (by omega) a2
 simp only [T85,T85c,T122,T122c,Option.bind_some,a1,d1]
 simp [sh,d2]
theorem t_leaf {F:Nat} {x:List UInt8} (hF:420 + x.length < F) (hb:x.length < 1000000):T121 F x=some (sh F (0 :: x)):=by
 obtain ⟨h0,b0,n0,c1,c2⟩:=t82 (F:=F) (m:=[]) (x:=[0]) (by simp;omega) (by simp) (inv0 F)
 obtain ⟨h,b,n,a1,a2⟩:=t82 (F:=F) (x:=x) (by simp;omega) (by simp;omega) c2
 obtain ⟨d,d1,d2,d3⟩:=sum_eq (by simp;omega) (by simp;omega) a2
 have e:[(UInt8.ofNat 0)]=[(0:UInt8)]:=rfl
 simp only [T121,T121c,T122,T122c,Option.bind_some,e,c1,a1,d1]
 have:[] ++ [(0:UInt8)] ++ x=0 :: x:=rfl
 rw [this] at d2
 simp [sh,d2]
theorem t_node {F:Nat} {x y:List UInt8} (hF:420 + x.length + y.length < F) (hb:x.length + y.length < 1000000):T87 F x y=some (sh F (1 :: (x ++ y))):=by
 obtain ⟨d,d1,d2,d3⟩:=t79 (F:=F) (ls:=[[1],x,y]) (by simp;omega) (by simp;omega) (by simp)
 simp only [T87,T87c,d1,Option.bind_some]
 have:[[1],x,y].flatten=1 :: (x ++ y):=by simp
 rw [this] at d2
 simp [sh,d2]
def sp (n:Nat):Nat:=((T86 0 (n:Int)).getD 0).toNat
theorem sp_all:∀ n:Fin 140,2≤n.val->T86 0 (n.val:Int)=some ((sp n.val:Nat):Int)∧1≤sp n.val∧sp n.val < n.val:=by decide +kernel
theorem sp_at {n:Nat} (h1:2≤n) (h2:n < 140) (F:Nat):T86 F (n:Int)=some ((sp n:Nat):Int)∧1≤sp n∧sp n < n:=sp_all ⟨n,h2⟩ h1
def rt (F:Nat):Nat->List (List UInt8)->List UInt8
 | 0,_=>[]
 | g + 1,l=>if l.length=0 then sh F [] else if l.length=1 then l.headD [] else sh F (1 :: (rt F g (l.take (sp l.length)) ++ rt F g (l.drop (sp l.length))))
theorem rt_len {F:Nat} (hF:2000 < F):∀ (g:Nat) (l:List (List UInt8)),l.length≤g->l.length < 140->(∀ x ∈ l,x.length=32)->l.length=0∧g=0∨(rt F g l).length=32
 | 0,l,hg,hl,h=>.inl ⟨by omega,rfl⟩
 | g + 1,l,hg,hl,h=>by
  refine .inr ?_
  unfold rt
  split
  ·exact (sh_some (by simp;omega) (by simp)).2
  ·split
   ·cases l with
    | nil=>simp at *
    | cons x l=>exact h x (by simp)
   ·obtain ⟨_,h1,h2⟩:=sp_at (n:=l.length) (by omega) hl F
    have ha:=rt_len hF g (l.take (sp l.length)) (by simp;omega) (by simp;omega) fun x hx=>h x (List.mem_of_mem_take hx)
    have hb:=rt_len hF g (l.drop (sp l.length)) (by simp;omega) (by simp;omega) fun x hx=>h x (List.mem_of_mem_drop hx)
    have ha:(rt F g (l.take (sp l.length))).length=32:=by
     rcases ha with ⟨h3,h4⟩ | ha
     ·simp at h3;omega
     ·exact ha
    have hb:(rt F g (l.drop (sp l.length))).length=32:=by
     rcases hb with ⟨h3,h4⟩ | hb
     ·simp at h3;omega
     ·exact hb
    exact (sh_some (by simp;omega) (by simp;omega)).2
theorem gsl_lo {α:Type} {l:List α} {k:Nat} (h:k≤l.length):gsl l (0:Int) (k:Int)=some (l.take k):=by
 have:=gsl_nat (l:=l) (a:=0) (b:=k) (by omega) h
 simpa using this
theorem gsl_hi {α:Type} {l:List α} {k:Nat} (h:k≤l.length):gsl l (k:Int) (l.length:Int)=some (l.drop k):=by
 have:=gsl_nat (l:=l) (a:=k) (b:=l.length) h (by omega)
 rw [this];congr 1
 apply List.take_of_length_le;simp
theorem root_g {F:Nat} (hF:2000 < F):∀ (g:Nat) (l:List (List UInt8)),l.length≤g->0 < g->l.length < 140->(∀ x ∈ l,x.length=32)->T49g F g l=some (rt F g l)
 | 0,l,hg,h0,hl,h=>by omega
 | g + 1,l,hg,h0,hl,h=>by
  show T49r F (T49g F g) l=_
  simp only [T49r,T49rc,rt]
  by_cases c0:l.length=0
  ·have e0:((l.length:Int) == 0)=true:=by simpa using c0
   have:=t_sum (F:=F) (x:=[]) (by simp;omega) (by simp)
   simp only [e0,cond_true,this,Option.bind_some,if_pos c0]
  ·have e0:((l.length:Int) == 0)=false:=by simpa using c0
   by_cases c1:l.length=1
   ·have e1:((l.length:Int) == 1)=true:=by rw [c1];rfl
    simp only [e0,e1,cond_true,cond_false,if_neg c0,if_pos c1]
    cases l with
    | nil=>simp at c1
    | cons x l=>
     have:ix (x :: l) (0:Int)=some x:=ixn (i:=0) rfl
     rw [this];rfl
   ·have e1:((l.length:Int) == 1)=false:=by
     have:¬ (l.length:Int)=1:=by omega
     simpa using this
    obtain ⟨h3,h1,h2⟩:=sp_at (n:=l.length) (by omega) hl F
    have ha:=root_g hF g (l.take (sp l.length)) (by simp;omega) (by omega) (by simp;omega) fun x hx=>h x (List.mem_of_mem_take hx)
    have hb:=root_g hF g (l.drop (sp l.length)) (by simp;omega) (by omega) (by simp;omega) fun x hx=>h x (List.mem_of_mem_drop hx)
    have la:=rt_len hF g (l.take (sp l.length)) (by simp;omega) (by simp;omega) fun x hx=>h x (List.mem_of_mem_take hx)
    have lb:=rt_len hF g (l.drop (sp l.length)) (by simp;omega) (by simp;omega) fun x hx=>h x (List.mem_of_mem_drop hx)
    have la:(rt F g (l.take (sp l.length))).length=32:=by
     rcases la with ⟨h3,h4⟩ | ha
     ·omega
     ·exact ha
    have lb:(rt F g (l.drop (sp l.length))).length=32:=by
     rcases lb with ⟨h3,h4⟩ | hb
     ·omega
     ·exact hb
    have hn:=t_node (F:=F) (x:=rt F g (l.take (sp l.length))) (y:=rt F g (l.drop (sp l.length))) (by omega) (by omega)
    simp only [e0,e1,cond_false,h3,Option.bind_some,gsl_lo (Nat.le_of_lt h2),gsl_hi (Nat.le_of_lt h2),ha,hb,hn,if_neg c0,if_neg c1]
theorem t_root {F:Nat} (hF:2000 < F) {l:List (List UInt8)} (hl:l.length < 140) (h:∀ x ∈ l,x.length=32):T49 F l=some (rt F F l)∧(rt F F l).length=32:=by
 refine ⟨root_g hF F l (by omega) (by omega) hl h,?_⟩
 rcases rt_len hF F l (by omega) hl h with ⟨_,h⟩ | h
 ·omega
 ·exact h
def blk (F:Nat):Nat->List UInt8->List (List UInt8)
 | 0,_=>[]
 | n + 1,x=>if x.length=0 then [] else sh F (0 :: x.take 512) :: blk F n (x.drop 512)
theorem blk_len (F:Nat):∀ (n:Nat) (x:List UInt8),(blk F n x).length≤n
 | 0,x=>by simp [blk]
 | n + 1,x=>by
  unfold blk;split
  ·simp
  ·have:=blk_len F n (x.drop 512);simp;omega
theorem blk_32 {F:Nat} (hF:2000 < F):∀ (n:Nat) (x:List UInt8),∀ y ∈ blk F n x,y.length=32
 | 0,x,y,h=>by simp [blk] at h
 | n + 1,x,y,h=>by
  unfold blk at h
  split at h
  ·simp at h
  ·rcases List.mem_cons.1 h with rfl | h
   ·exact (sh_some (by simp;omega) (by simp;omega)).2
   ·exact blk_32 hF n _ y h
theorem cut512 (x:List UInt8):(if (x.length:Int) < 512 then (x.length:Int) else 512)=((min 512 x.length:Nat):Int):=by split<;>omega
theorem lp_blocks {F:Nat} (hF:2000 < F):∀ (n fuel:Nat) (x:List UInt8) (acc:List (List UInt8)),x.length≤512 * n->n < fuel->acc.length + n < 100000->iter (fun s:List UInt8×List (List UInt8)=>L84_2 F (512:Int) s.1 s.2) fuel (x,acc)=some (acc ++ blk F n x)
 | n,0,x,acc,_,hf,_=>by omega
 | 0,fuel + 1,x,acc,hx,hf,_=>by
  have:¬ (0:Int) < (x.length:Int):=by omega
  refine (it_out' (s:=(x,acc)) (r:=acc) (by simp only [L84_2,L84_2c,this,decide_false,cond_false])).trans (by simp only [blk,List.append_nil])
 | n + 1,fuel + 1,x,acc,hx,hf,ha=>by
  by_cases h0:x.length=0
  ·have:¬ (0:Int) < (x.length:Int):=by omega
   refine (it_out' (s:=(x,acc)) (r:=acc) (by simp only [L84_2,L84_2c,this,decide_false,cond_false])).trans (by simp only [blk,if_pos h0,List.append_nil])
  ·have h1:(0:Int) < (x.length:Int):=by omega
   have hm:min 512 x.length≤x.length:=Nat.min_le_right _ _
   have hl:=t_leaf (F:=F) (x:=x.take 512) (by simp;omega) (by simp;omega)
   have ht:x.take (min 512 x.length)=x.take 512:=by rw [← List.take_take,List.take_length]
   have hd:x.drop (min 512 x.length)=x.drop 512:=by
    rcases Nat.le_total 512 x.length with h | h
    ·rw [Nat.min_eq_left h]
    ·rw [Nat.min_eq_right h,List.drop_length,List.drop_eq_nil_of_le h]
   have hg:gapp acc ([sh F (0 :: x.take 512)]:List (List UInt8))=some (acc ++ [sh F (0 :: x.take 512)]):=gappn (by simp;omega)
   have ih:=lp_blocks hF n fuel (x.drop 512) (acc ++ [sh F (0 :: x.take 512)]) (by simp;omega) (by omega) (by simp;omega)
   refine (it_again' (s:=(x,acc)) (s':=(x.drop 512,acc ++ [sh F (0 :: x.take 512)])) (by simp only [L84_2,L84_2c,h1,decide_true,cond_true,cut512,gsl_lo hm,gsl_hi hm,ht,hd,hl,hg,Option.bind_some])).trans (ih.trans (by simp only [blk,if_neg h0,List.append_assoc,List.singleton_append]))
def hsh (F:Nat) (x:List UInt8):List UInt8:=rt F F (blk F 128 x)
theorem t_of {F:Nat} (hF:2000 < F) {x:List UInt8} (hx:x.length≤65536):T48 F x (512:Int)=some (hsh F x,0)∧(hsh F x).length=32:=by
 have hl:=lp_blocks hF 128 F x [] (by omega) (by omega) (by simp)
 have hb:=blk_len F 128 x
 obtain ⟨h1,h2⟩:=t_root hF (l:=blk F 128 x) (by omega) (blk_32 hF 128 x)
 refine ⟨?_,h2⟩
 have h3:¬ (1048576:Int) < (x.length:Int):=by omega
 have h4:¬ (512:Int) < (1:Int):=by omega
 rw [List.nil_append] at hl
 have hB:T84 F x (512:Int)=some ((0:Int),blk F 128 x):=by
  simp only [T84,T84c,h3,h4,decide_false,cond_false,hl,Option.bind_some]
 simp only [T48,T48c,hB,Option.bind_some,bne_self_eq_false,cond_false,h1]
 rfl
theorem Rows.fresh {α:Type} {rows:List (Option (List α))} {out:List Nat} {gs:List (List α)} (H:Rows rows out gs) {i:Nat} (hi:i < gs.length) (y:List α):Rows (rows ++ [some y]) (out.set i rows.length) (gs.set i y):=by
 have hil:i < out.length:=by rw [H.len];exact hi
 refine ⟨by simp [H.len],fun k g h=>?_,nodup_of fun a b q' ha hb=>?_⟩
 ·by_cases hk:i=k
  ·subst hk
   rw [List.getElem?_set_self hi] at h
   cases h
   exact ⟨rows.length,List.getElem?_set_self hil,by simp⟩
  ·rw [List.getElem?_set_ne hk] at h
   obtain ⟨q',h1,h2⟩:=H.at_ k g h
   refine ⟨q',by rw [List.getElem?_set_ne hk];exact h1,?_⟩
   rw [List.getElem?_append_left (List.getElem?_eq_some_iff.1 h2).1];exact h2
 ·by_cases ha':i=a
  ·subst ha'
   rw [List.getElem?_set_self hil] at ha
   cases ha
   by_cases hb':i=b
   ·exact hb'
   ·rw [List.getElem?_set_ne hb'] at hb
    have:=H.lt (List.mem_of_getElem? hb);omega
  ·rw [List.getElem?_set_ne ha'] at ha
   by_cases hb':i=b
   ·subst hb'
    rw [List.getElem?_set_self hil] at hb
    cases hb
    have:=H.lt (List.mem_of_getElem? ha);omega
   ·rw [List.getElem?_set_ne hb'] at hb
    exact nodup_at H.nd ha hb
theorem Rows.init {α:Type} (n:Nat) (g:List α):Rows (List.replicate n (some g)) (List.range n) (List.replicate n g):=by
 refine ⟨by simp,fun i g' h=>?_,List.nodup_range⟩
 have hi:=(List.getElem?_eq_some_iff.1 h).1
 simp at hi
 rw [List.getElem?_replicate,if_pos hi] at h
 cases h
 exact ⟨i,by simp [hi],by simp [hi]⟩
theorem gmaken {α:Type} (x:α) {n:Nat} (h:n≤1099511627776):gmake x (n:Int) (n:Int)=some (List.replicate n x):=by unfold gmake;rw [if_pos (by omega)];simp
theorem zeros_ok {F n len:Nat} (hF:n < F) (hn:n≤1000000) (hl:len≤1000000):∃ r,T167 F (n:Int) (len:Int)=some r∧Rows r.1 r.2 (List.replicate n (List.replicate len (0:UInt8))):=by
 obtain ⟨z,hz,gs,hR,hgl,hgs⟩:=iter1 (f:=fun s:Int×(List (Option (List UInt8))×List Nat)=>L167_2 F (len:Int) (n:Int) s.1 s.2)
  (fun s=>∃ k:Nat,s.1=(k:Int)∧k≤n∧∃ gs:List (List UInt8),Rows s.2.1 s.2.2 gs∧gs.length=n∧∀ i,i < k->gs[i]? = some (List.replicate len 0))
  (fun z=>∃ gs:List (List UInt8),Rows z.1 z.2 gs∧gs.length=n∧∀ i,i < n->gs[i]? = some (List.replicate len 0)) (fun s=>n - s.1.toNat) (fun s hs=>by
   obtain ⟨k,e,hk,gs,hR,hgl,hgs⟩:=hs
   obtain ⟨s1,⟨rows,out⟩⟩:=s
   simp only at e hR
   subst e
   rcases Nat.lt_or_ge k n with hlt | hge
   ·have hc1:((k:Nat):Int) < (n:Int):=by omega
    have hg:=gmaken (0:UInt8) (n:=len) (by omega)
    have hi:inb out.length (k:Int)=some k:=inbn (by rw [H_len hR,hgl];exact hlt)
    have hw:w64 (((k:Nat):Int) + 1)=((k + 1:Nat):Int):=w64n (by omega)
    refine .inl ⟨_,by simp only [L167_2,L167_2c,hc1,decide_true,cond_true,hg,hi,Option.bind_some,hw];rfl,⟨k + 1,rfl,by omega,_,hR.fresh (i:=k) (by omega) _,by simp [hgl],fun i hi=>?_⟩,by simp only [Int.toNat_natCast];omega⟩
    by_cases hik:k=i
    ·subst hik;rw [List.getElem?_set_self (by omega)]
    ·rw [List.getElem?_set_ne hik];exact hgs i (by omega)
   ·have hkn:k=n:=by omega
    subst hkn
    refine .inr ⟨(rows,out),?_,gs,hR,hgl,hgs⟩
    simp [L167_2,L167_2c])
  F ((0:Int),(List.replicate n (some ([]:List UInt8)),List.range n)) ⟨0,rfl,by omega,_,Rows.init n [],by simp,fun i h=>by omega⟩ (by simp;omega)
 have hgs':gs=List.replicate n (List.replicate len (0:UInt8)):=by
  apply List.ext_getElem?
  intro i
  rcases Nat.lt_or_ge i n with h | h
  ·rw [hgs i h,List.getElem?_replicate,if_pos h]
  ·rw [List.getElem?_eq_none (by omega),List.getElem?_eq_none (by simp;omega)]
 subst hgs'
 refine ⟨z,?_,hR⟩
 have hg:=gmaken () (n:=n) (by omega)
 simp only [T167,T167c,hg,Option.bind_some,List.length_replicate,List.length_range,hz]
where H_len {rows:List (Option (List UInt8))} {out:List Nat} {gs:List (List UInt8)} (H:Rows rows out gs):out.length=gs.length:=H.len
def vadd (a:UInt8) (d s:List UInt8):List UInt8:=List.zipWith (fun x y=>x ^^^ gm a y) d s
def comb:List UInt8->List (List UInt8)->List UInt8->List UInt8
 | a :: r,b :: bs,acc=>comb r bs (vadd a acc b)
 | [],_,acc=>acc
 | _,[],acc=>acc
theorem vadd_len {a:UInt8} {d s:List UInt8} (h:s.length=d.length):(vadd a d s).length=d.length:=by simp [vadd,h]
theorem vadd_0 {d s:List UInt8} (h:s.length=d.length):vadd 0 d s=d:=by
 apply List.ext_getElem
 ·exact vadd_len h
 ·intro i h1 h2
  simp [vadd,zero_gm]
theorem comb_snoc:∀ (r:List UInt8) (bs:List (List UInt8)) (acc:List UInt8) (a:UInt8) (b:List UInt8),r.length=bs.length->comb (r ++ [a]) (bs ++ [b]) acc=vadd a (comb r bs acc) b
 | [],[],acc,a,b,_=>rfl
 | x :: r,y :: bs,acc,a,b,h=>by simp only [List.cons_append,comb];exact comb_snoc r bs _ a b (by simpa using h)
 | [],_ :: _,_,_,_,h=>by simp at h
 | _ :: _,[],_,_,_,h=>by simp at h
theorem comb_len:∀ {r:List UInt8} {bs:List (List UInt8)} {acc:List UInt8},(∀ b ∈ bs,b.length=acc.length)->(comb r bs acc).length=acc.length
 | a :: r,b :: bs,acc,h=>by
  simp only [comb]
  have hb:=h b (by simp)
  rw [comb_len (fun b' hb'=>by rw [vadd_len hb];exact h b' (by simp [hb'])),vadd_len hb]
 | [],_,_,_=>by simp [comb]
 | _ :: _,[],_,_=>by simp [comb]
theorem takeS' {α:Type} {l:List α} {k:Nat} {x:α} (h:l[k]? = some x):l.take (k + 1)=l.take k ++ [x]:=by
 rw [List.take_add_one,h];rfl
theorem comb_row {F:Nat} {len:Nat} (hF:200 + len < F) (hlen:len < 1000000) {x:List UInt8} {bs:List (List UInt8)} (hx:x.length=bs.length) (hx2:bs.length≤100) (hb:∀ b ∈ bs,b.length=len) {i:Nat} {gs:List (List UInt8)} {rows:List (Option (List UInt8))} {out:List Nat} (H:Rows rows out gs) {acc:List UInt8} (hi:gs[i]? = some acc) (ha:acc.length=len) :
  ∃ r,iter (fun s:Int×(List (Option (List UInt8))×List Nat)=>L151_4 F bs (i:Int) x (x.length:Int) s.1 s.2) F ((0:Int),(rows,out))=some r∧Rows r.1 r.2 (gs.set i (comb x bs acc)):=by
 have hil:=(List.getElem?_eq_some_iff.1 hi).1
 exact iter1 (f:=fun s:Int×(List (Option (List UInt8))×List Nat)=>L151_4 F bs (i:Int) x (x.length:Int) s.1 s.2)
  (fun s=>∃ k:Nat,s.1=(k:Int)∧k≤x.length∧Rows s.2.1 s.2.2 (gs.set i (comb (x.take k) (bs.take k) acc)))
  (fun r=>Rows r.1 r.2 (gs.set i (comb x bs acc))) (fun s=>x.length - s.1.toNat) (fun s hs=>by
   obtain ⟨k,e,hk,hR⟩:=hs
   obtain ⟨s1,⟨rows,out⟩⟩:=s
   simp only at e hR
   subst e
   rcases Nat.lt_or_ge k x.length with hlt | hge
   ·have hr:x[k]? = some x[k]:=List.getElem?_eq_getElem hlt
    have hr2:bs[k]? = some (bs[k]'(by omega)):=List.getElem?_eq_getElem (by omega)
    have hc1:((k:Nat):Int) < (x.length:Int):=by omega
    have hix:=ixn hr
    have hix2:=ixn hr2
    have hw:w64 (((k:Nat):Int) + 1)=((k + 1:Nat):Int):=w64n (by omega)
    have hbl:=hb _ (List.getElem_mem (h:=(by omega:k < bs.length)))
    generalize x[k]=a at hr hix
    generalize bs[k]'(by omega)=b at hr2 hix2 hbl
    have hcl:(comb (x.take k) (bs.take k) acc).length=len:=by
     rw [comb_len (fun b hb'=>by rw [hb b (List.mem_of_mem_take hb'),ha]),ha]
    have hsn:comb (x.take (k + 1)) (bs.take (k + 1)) acc=vadd a (comb (x.take k) (bs.take k) acc) b:=by
     rw [takeS' hr,takeS' hr2];exact comb_snoc _ _ _ _ _ (by simp [hx])
    obtain ⟨q,a1,a2,a3⟩:=hR.get (i:=i) (g:=comb (x.take k) (bs.take k) acc) (by rw [List.getElem?_set_self hil])
    have hol:out.length=gs.length:=by rw [hR.len];simp
    have hin:inb out.length (i:Int)=some i:=inbn (by omega)
    by_cases h0:a=0
    ·subst h0
     have e0:((0:UInt8) != UInt8.ofNat 0)=false:=rfl
     refine .inl ⟨(((k + 1:Nat):Int),(rows,out)),by simp only [L151_4,L151_4c,hc1,decide_true,cond_true,hix,e0,cond_false,Option.bind_some,hw],⟨k + 1,rfl,by omega,?_⟩,by simp only [Int.toNat_natCast];omega⟩
     rw [hsn,vadd_0 (by rw [hbl,hcl])];exact hR
    ·have e0:(a != UInt8.ofNat 0)=true:=by have h2:a ≠ UInt8.ofNat 0:=h0;simpa using h2
     have hm:=g_muladd (F:=F) (l:=comb (x.take k) (bs.take k) acc) (v:=b) (by omega) (by omega) (by omega) a
     have hfr:=hR.fresh (i:=i) (by simp;exact hil) (vadd a (comb (x.take k) (bs.take k) acc) b)
     rw [List.set_set] at hfr
     refine .inl ⟨_,by simp only [L151_4,L151_4c,hc1,decide_true,cond_true,hix,hix2,e0,hin,a1,a2,hm,Option.bind_some,hw];rfl,⟨k + 1,rfl,by omega,?_⟩,by simp only [Int.toNat_natCast];omega⟩
     rw [hsn];exact hfr
   ·have hkn:k=x.length:=by omega
    subst hkn
    rw [List.take_length,hx,List.take_length] at hR
    refine .inr ⟨(rows,out),?_,hR⟩
    simp [L151_4,L151_4c])
  F ((0:Int),(rows,out)) ⟨0,rfl,by omega,by
   have:gs.set i (comb (x.take 0) (bs.take 0) acc)=gs:=by
    simp only [List.take_zero,comb]
    apply List.ext_getElem?
    intro j
    by_cases h:i=j
    ·subst h;rw [List.getElem?_set_self hil,hi]
    ·rw [List.getElem?_set_ne h]
   rw [this];exact H⟩ (by simp;omega)
theorem combine_ok {F:Nat} {len:Nat} (hF:200 + len < F) (hlen:len < 1000000) {m bs:List (List UInt8)} (hm:m.length≤100) (hx:∀ x ∈ m,x.length=bs.length) (hx2:bs.length≤100) (hb:∀ b ∈ bs,b.length=len) :
  T151 F m bs (len:Int)=some (m.map fun x=>comb x bs (List.replicate len 0)):=by
 obtain ⟨r0,hz,hR0⟩:=zeros_ok (F:=F) (n:=m.length) (len:=len) (by omega) (by omega) (by omega)
 obtain ⟨z,hz2,gs,hR,hgl,hgs⟩:=iter1 (f:=fun s:Int×(List (Option (List UInt8))×List Nat)=>L151_3 F bs m (m.length:Int) s.1 s.2)
  (fun s=>∃ k:Nat,s.1=(k:Int)∧k≤m.length∧∃ gs:List (List UInt8),Rows s.2.1 s.2.2 gs∧gs.length=m.length∧(∀ i x,i < k->m[i]? = some x->gs[i]? = some (comb x bs (List.replicate len 0)))∧(∀ i,k≤i->i < m.length->gs[i]? = some (List.replicate len 0)))
  (fun z=>∃ gs:List (List UInt8),Rows z.1 z.2 gs∧gs.length=m.length∧∀ i x,m[i]? = some x->gs[i]? = some (comb x bs (List.replicate len 0))) (fun s=>m.length - s.1.toNat) (fun s hs=>by
   obtain ⟨k,e,hk,gs,hR,hgl,hg1,hg2⟩:=hs
   obtain ⟨s1,⟨rows,out⟩⟩:=s
   simp only at e hR
   subst e
   rcases Nat.lt_or_ge k m.length with hlt | hge
   ·have hr:m[k]? = some m[k]:=List.getElem?_eq_getElem hlt
    have hc1:((k:Nat):Int) < (m.length:Int):=by omega
    have hix:=ixn hr
    have hw:w64 (((k:Nat):Int) + 1)=((k + 1:Nat):Int):=w64n (by omega)
    have hxl:=hx _ (List.getElem_mem hlt)
    generalize m[k]=x at hr hix hxl
    obtain ⟨r,q1,q2⟩:=comb_row hF hlen hxl hx2 hb hR (hg2 k (by omega) hlt) (by simp)
    refine .inl ⟨(((k + 1:Nat):Int),r),by simp only [L151_3,L151_3c,hc1,decide_true,cond_true,hix,q1,Option.bind_some,hw],⟨k + 1,rfl,by omega,_,q2,by simp [hgl],fun i y hi hy=>?_,fun i hi1 hi2=>?_⟩,by simp only [Int.toNat_natCast];omega⟩
    ·by_cases hik:k=i
     ·subst hik;rw [hr] at hy;cases hy;rw [List.getElem?_set_self (by omega)]
     ·rw [List.getElem?_set_ne hik];exact hg1 i y (by omega) hy
    ·rw [List.getElem?_set_ne (by omega)];exact hg2 i (by omega) hi2
   ·have hkn:k=m.length:=by omega
    subst hkn
    refine .inr ⟨(rows,out),?_,gs,hR,hgl,fun i x hi=>hg1 i x (List.getElem?_eq_some_iff.1 hi).1 hi⟩
    simp [L151_3,L151_3c])
  F ((0:Int),r0) ⟨0,rfl,by omega,_,hR0,by simp,fun i x h=>by omega,fun i h1 h2=>by simp [h2]⟩ (by simp;omega)
 have hgs':gs=m.map fun x=>comb x bs (List.replicate len 0):=by
  apply List.ext_getElem?
  intro i
  rcases Nat.lt_or_ge i m.length with h | h
  ·rw [hgs i m[i] (List.getElem?_eq_getElem h),List.getElem?_map,List.getElem?_eq_getElem h];rfl
  ·rw [List.getElem?_eq_none (by omega),List.getElem?_eq_none (by simp;omega)]
 subst hgs'
 have hmat:=hR.mat_eq
 simp only [T151,T151c,hz,Option.bind_some,hz2,hmat]
theorem cols_ok (F:Nat) (m:List (List UInt8)):T150 F m=some (((m.headD []).length:Nat):Int):=by
 cases m with
 | nil=>rfl
 | cons x m=>
  have e:(((x :: m).length:Int) == 0)=false:=by
   have:¬ ((x :: m).length:Int)=0:=by simp;omega
   simpa using this
  have:ix (x :: m) (0:Int)=some x:=ixn (i:=0) rfl
  simp only [T150,T150c,e,cond_false,this,Option.bind_some];rfl
theorem same_loop {ρ:Type} {F:Nat} {n:Nat} {f:Int->Option (Int ⊕ (Unit ⊕ ρ))} (hn:n < F) (hn2:n < 1000000)
  (hs:∀ k:Nat,k < n->f (k:Int)=some (.inl ((k + 1:Nat):Int))) (he:f (n:Int)=some (.inr (.inl ()))):iter f F (0:Int)=some (.inl ()):=by
 obtain ⟨z,hz,rfl⟩:=iter1 (f:=f) (fun s=>∃ k:Nat,s=(k:Int)∧k≤n) (fun z=>z=.inl ()) (fun s=>n - s.toNat) (fun s hs'=>by
   obtain ⟨k,e,hk⟩:=hs'
   subst e
   rcases Nat.lt_or_ge k n with hlt | hge
   ·exact .inl ⟨_,hs k hlt,⟨k + 1,rfl,by omega⟩,by simp only [Int.toNat_natCast];omega⟩
   ·have:k=n:=by omega
    subst this
    exact .inr ⟨_,he,rfl⟩)
  F (0:Int) ⟨0,rfl,by omega⟩ (by simp;omega)
 exact hz
theorem valid_ok {F:Nat} {m:List (List UInt8)} {w:Nat} (hF:200 < F) (h1:m.length≤64) (hw:w≤64) (h2:∀ x ∈ m,x.length=w):T149 F m=some true:=by
 have hc:(m.headD []).length≤64:=by
  cases m with
  | nil=>simp
  | cons x m=>have:=h2 x (by simp);simp;omega
 have e1:¬ (64:Int) < (m.length:Int):=by omega
 have e2:¬ (64:Int) < (((m.headD []).length:Nat):Int):=by omega
 have hl:iter (fun s=>L149_2 F m m (m.length:Int) s) F (0:Int)=some (.inl ()):=by
  refine same_loop (n:=m.length) (by omega) (by omega) (fun k hk=>?_) ?_
  ·have hr:m[k]? = some m[k]:=List.getElem?_eq_getElem hk
   have hr0:m[0]? = some (m[0]'(by omega)):=List.getElem?_eq_getElem (by omega)
   have hi0:ix m (0:Int)=some (m[0]'(by omega)):=ixn (i:=0) hr0
   have hc1:((k:Nat):Int) < (m.length:Int):=by omega
   have hl1:=h2 _ (List.getElem_mem hk)
   have hl2:=h2 _ (List.getElem_mem (h:=(by omega:0 < m.length)))
   have e:((m[k].length:Int) != ((m[0]'(by omega)).length:Int))=false:=by rw [hl1,hl2];simp
   simp only [L149_2,L149_2c,hc1,decide_true,cond_true,ixn hr,hi0,Option.bind_some,e,cond_false,w64n (show k < 9223372036854775807 by omega)]
  ·simp [L149_2,L149_2c]
 simp only [T149,T149c,e1,e2,decide_false,cond_false,cols_ok,Option.bind_some,hl,elimS]
theorem apply_ok {F:Nat} {len:Nat} (hF:200 + len < F) (hlen:len < 1000000) {m bs:List (List UInt8)} (hm:m.length≤64) (hm0:m ≠ []) (hx:∀ x ∈ m,x.length=bs.length) (hx2:bs.length≤64) (hb0:bs ≠ []) (hb:∀ b ∈ bs,b.length=len) :
  T117 F m bs=some (m.map fun x=>comb x bs (List.replicate len 0),0):=by
 have hv:=valid_ok (F:=F) (m:=m) (w:=bs.length) (by omega) hm hx2 hx
 have hc:(m.headD []).length=bs.length:=by
  cases m with
  | nil=>exact absurd rfl hm0
  | cons x m=>exact hx x (by simp)
 have hcb:(bs.headD []).length=len:=by
  cases bs with
  | nil=>exact absurd rfl hb0
  | cons x m=>exact hb x (by simp)
 have hl:iter (fun s=>L117_2 F bs bs (bs.length:Int) s) F (0:Int)=some (.inl ()):=by
  refine same_loop (n:=bs.length) (by omega) (by omega) (fun k hk=>?_) ?_
  ·have hr:bs[k]? = some bs[k]:=List.getElem?_eq_getElem hk
   have hr0:bs[0]? = some (bs[0]'(by omega)):=List.getElem?_eq_getElem (by omega)
   have hi0:ix bs (0:Int)=some (bs[0]'(by omega)):=ixn (i:=0) hr0
   have hc1:((k:Nat):Int) < (bs.length:Int):=by omega
   have hl1:=hb _ (List.getElem_mem hk)
   have hl2:=hb _ (List.getElem_mem (h:=(by omega:0 < bs.length)))
   have e:((bs[k].length:Int) != ((bs[0]'(by omega)).length:Int))=false:=by rw [hl1,hl2];simp
   simp only [L117_2,L117_2c,hc1,decide_true,cond_true,ixn hr,hi0,Option.bind_some,e,cond_false,w64n (show k < 9223372036854775807 by omega)]
  ·simp [L117_2,L117_2c]
 have hco:=combine_ok hF hlen (m:=m) (bs:=bs) (by omega) hx (by omega) hb
 simp only [T117,T117c,hv,Option.bind_some,Bool.not_true,cond_false,cols_ok,hc,bne_self_eq_false,hl,elimS,hcb,hco]
def cell (d i c:Nat):UInt8:=if d≤i then gi (UInt8.ofNat (i ^^^ c)) else if i=c then 1 else 0
theorem ixor_ij {i c:Nat} (hi:i < 16) (hc:c < 8):UInt8.ofInt (ixor (i:Int) (c:Int))=UInt8.ofNat (i ^^^ c):=by
 have:∀ (i:_root_.Fin 16) (c:_root_.Fin 8),UInt8.ofInt (ixor (i.val:Int) (c.val:Int))=UInt8.ofNat (i.val ^^^ c.val):=by decide +kernel
 exact this ⟨i,hi⟩ ⟨c,hc⟩
abbrev Tb:=Vector (Vector UInt8 8) 16
def tget (t:Tb) (i c:Nat):UInt8:=if h:i < 16∧c < 8 then (t[i]'h.1)[c]'h.2 else 0
theorem vatn {α:Type} {n i:Nat} {v:Vector α n} (h:i < n):vat v i=some v[i]:=vat_nat h
theorem tget_set {t:Tb} {i c:Nat} (hi:i < 16) (hc:c < 8) (x:UInt8) (i' c':Nat):tget (Vector.setIfInBounds t i (Vector.setIfInBounds (t[i]'hi) c x)) i' c'=if i'=i∧c'=c then x else tget t i' c':=by
 unfold tget
 by_cases h:i' < 16∧c' < 8
 ·rw [dif_pos h,dif_pos h]
  by_cases h1:i'=i
  ·subst h1
   by_cases h2:c'=c
   ·subst h2;simp
   ·rw [if_neg (fun e=>h2 e.2)]
    have h3:¬ c=c':=fun e=>h2 e.symm
    simp [Vector.getElem_setIfInBounds,h3]
  ·rw [if_neg (fun e=>h1 e.1)]
   rw [Vector.getElem_setIfInBounds_ne (h:=fun e=>h1 e.symm)]
 ·rw [dif_neg h,dif_neg h,if_neg (fun e=>h ⟨by omega,by omega⟩)]
theorem tab_row {F d i:Nat} (hF:200 < F) (hd:d≤8) (hi:i < 16) (t:Tb) (h0:∀ i' c,i≤i'->tget t i' c=0) (h1:∀ i' c,i' < i->c < d->tget t i' c=cell d i' c) :
  ∃ t',iter (fun s:Int×Tb=>L118_4 F (d:Int) (i:Int) (d:Int) s.1 s.2) F ((0:Int),t)=some t'∧(∀ i' c,i + 1≤i'->tget t' i' c=0)∧(∀ i' c,i' < i + 1->c < d->tget t' i' c=cell d i' c):=by
 exact iter1 (f:=fun s:Int×Tb=>L118_4 F (d:Int) (i:Int) (d:Int) s.1 s.2)
  (fun s=>∃ k:Nat,s.1=(k:Int)∧k≤d∧(∀ i' c,i + 1≤i'->tget s.2 i' c=0)∧(∀ c,k≤c->tget s.2 i c=0)∧(∀ i' c,i' < i->c < d->tget s.2 i' c=cell d i' c)∧(∀ c,c < k->tget s.2 i c=cell d i c))
  _ (fun s=>d - s.1.toNat) (fun s hs=>by
   obtain ⟨k,e,hk,a1,a2,a3,a4⟩:=hs
   obtain ⟨s1,t⟩:=s
   simp only at e a1 a2 a3 a4
   subst e
   rcases Nat.lt_or_ge k d with hlt | hge
   ·have hc1:((k:Nat):Int) < (d:Int):=by omega
    have hw:w64 (((k:Nat):Int) + 1)=((k + 1:Nat):Int):=w64n (by omega)
    have hi1:inb 16 (i:Int)=some i:=inbn hi
    have hk1:inb 8 (k:Int)=some k:=inbn (by omega)
    have hv:vat t i=some t[i]:=vatn hi
    have put:∀ x:UInt8,x=cell d i k->(∀ i' c,i + 1≤i'->tget (Vector.setIfInBounds t i (Vector.setIfInBounds (t[i]'hi) k x)) i' c=0)∧(∀ c,k + 1≤c->tget (Vector.setIfInBounds t i (Vector.setIfInBounds (t[i]'hi) k x)) i c=0)∧(∀ i' c,i' < i->c < d->tget (Vector.setIfInBounds t i (Vector.setIfInBounds (t[i]'hi) k x)) i' c=cell d i' c)∧(∀ c,c < k + 1->tget (Vector.setIfInBounds t i (Vector.setIfInBounds (t[i]'hi) k x)) i c=cell d i c):=fun x hx=>by
     refine ⟨fun i' c h=>?_,fun c h=>?_,fun i' c h h2=>?_,fun c h=>?_⟩
     ·rw [tget_set hi (by omega),if_neg (by omega)];exact a1 i' c h
     ·rw [tget_set hi (by omega),if_neg (by omega)];exact a2 c (by omega)
     ·rw [tget_set hi (by omega),if_neg (by omega)];exact a3 i' c h h2
     ·rw [tget_set hi (by omega)]
      by_cases hck:c=k
      ·subst hck;rw [if_pos ⟨rfl,rfl⟩];exact hx
      ·rw [if_neg (fun e=>hck e.2)];exact a4 c (by omega)
    by_cases hdi:d≤i
    ·have c1:(d:Int)≤(i:Int):=by omega
     obtain ⟨er,hinv⟩:=g_inv (F:=F) (by omega) (UInt8.ofNat (i ^^^ k))
     refine .inl ⟨_,by simp only [L118_4,L118_4c,hc1,c1,decide_true,cond_true,hi1,hk1,hv,ixor_ij hi (show k < 8 by omega),hinv,Option.bind_some,hw];rfl,⟨k + 1,rfl,by omega,put _ ?_⟩,by simp only [Int.toNat_natCast];omega⟩
     unfold cell;rw [if_pos hdi]
    ·have c1:¬ (d:Int)≤(i:Int):=by omega
     by_cases hik:i=k
     ·subst hik
      have c2:((i:Int) == (i:Int))=true:=by simp
      refine .inl ⟨_,by simp only [L118_4,L118_4c,hc1,c1,c2,decide_true,decide_false,cond_true,cond_false,hi1,hk1,hv,Option.bind_some,hw];rfl,⟨i + 1,rfl,by omega,put _ ?_⟩,by simp only [Int.toNat_natCast];omega⟩
      unfold cell;rw [if_neg hdi,if_pos rfl];rfl
     ·have c2:((i:Int) == (k:Int))=false:=by
       have:¬ (i:Int)=(k:Int):=by omega
       simpa using this
      refine .inl ⟨_,by simp only [L118_4,L118_4c,hc1,c1,c2,decide_true,decide_false,cond_true,cond_false,hw];rfl,⟨k + 1,rfl,by omega,a1,fun c h=>a2 c (by omega),a3,fun c h=>?_⟩,by simp only [Int.toNat_natCast];omega⟩
      by_cases hck:c=k
      ·subst hck
       show tget t i c=_
       rw [a2 c (by omega)]
       unfold cell;rw [if_neg hdi,if_neg hik]
      ·exact a4 c (by omega)
   ·have hkn:k=d:=by omega
    subst hkn
    refine .inr ⟨t,?_,a1,fun i' c h h2=>?_⟩
    ·simp [L118_4,L118_4c]
    ·by_cases h3:i'=i
     ·subst h3;exact a4 c h2
     ·exact a3 i' c (by omega) h2)
  F ((0:Int),t) ⟨0,rfl,by omega,fun i' c h=>h0 i' c (by omega),fun c _=>h0 i c (by omega),h1,fun c h=>by omega⟩ (by simp;omega)
theorem table_ok {F d:Nat} (hF:200 < F) (hd:d≤8):∃ t:Tb,T118 F (d:Int)=some t∧∀ i c,i < 16->c < d->tget t i c=cell d i c:=by
 obtain ⟨t,hz,hQ⟩:=iter1 (f:=fun s:Int×Tb=>L118_3 F (d:Int) s.1 s.2)
  (fun s=>∃ k:Nat,s.1=(k:Int)∧k≤16∧(∀ i' c,k≤i'->tget s.2 i' c=0)∧(∀ i' c,i' < k->c < d->tget s.2 i' c=cell d i' c))
  (fun t=>∀ i c,i < 16->c < d->tget t i c=cell d i c) (fun s=>16 - s.1.toNat) (fun s hs=>by
   obtain ⟨k,e,hk,a1,a2⟩:=hs
   obtain ⟨s1,t⟩:=s
   simp only at e a1 a2
   subst e
   rcases Nat.lt_or_ge k 16 with hlt | hge
   ·have hc1:((k:Nat):Int) < 16:=by omega
    have hw:w64 (((k:Nat):Int) + 1)=((k + 1:Nat):Int):=w64n (by omega)
    obtain ⟨t',q1,q2,q3⟩:=tab_row hF hd hlt t a1 a2
    exact .inl ⟨_,by simp only [L118_3,L118_3c,hc1,decide_true,cond_true,q1,Option.bind_some,hw];rfl,⟨k + 1,rfl,by omega,q2,q3⟩,by simp only [Int.toNat_natCast];omega⟩
   ·have hkn:k=16:=by omega
    subst hkn
    refine .inr ⟨t,?_,a2⟩
    simp [L118_3,L118_3c])
  F ((0:Int),(Vector.replicate 16 (Vector.replicate 8 (0:UInt8)))) ⟨0,rfl,by omega,fun i' c _=>by unfold tget;split<;>simp,fun i' c h=>by omega⟩ (by simp;omega)
 refine ⟨t,?_,hQ⟩
 simp only [T118,T118c,hz,Option.bind_some]
def rowD (d i:Nat):List UInt8:=(List.range d).map (cell d i)
theorem rowD_len (d i:Nat):(rowD d i).length=d:=by simp [rowD]
theorem row_of {t:Tb} {d:Nat} (hd:d≤8) (h:∀ i c,i < 16->c < d->tget t i c=cell d i c) {i:Nat} (hi:i < 16):((t[i]'hi).toList.drop 0).take (d - 0)=rowD d i:=by
 apply List.ext_getElem
 ·simp [rowD];omega
 ·intro c h1 h2
  have hc:c < d:=by simpa [rowD] using h2
  have:=h i c hi hc
  unfold tget at this
  rw [dif_pos ⟨hi,by omega⟩] at this
  simp [rowD,this]
theorem of_ok {F d:Nat} {t:Tb} (hF:200 < F) (hd:d≤8) (h:∀ i c,i < 16->c < d->tget t i c=cell d i c) {is:List Nat} (hl:is.length≤100) (hi:∀ i ∈ is,i < 16):T119 F (is.map fun i:Nat=>(i:Int)) (d:Int) t=some (is.map (rowD d)):=by
 have hll:((is.map fun i:Nat=>(i:Int)).length:Int)=((is.length:Nat):Int):=by simp
 have hg:=gmaken ([]:List UInt8) (n:=is.length) (by omega)
 obtain ⟨r,r1,r2,_,r4⟩:=fill_loop (N:=is.length) (f:=fun s:Int×List (List UInt8)=>L119_2 F (is.map fun i:Nat=>(i:Int)) ((is.length:Nat):Int) (d:Int) t s.1 s.2) (g:=fun n _=>rowD d (is.getD n 0)) (by omega)
  (fun n l h1 h2=>by
   have hc1:((n:Nat):Int) < ((is.length:Nat):Int):=by omega
   have hn:n < is.length:=by omega
   have hr:(is.map fun i:Nat=>(i:Int))[n]? = some ((is[n]:Nat):Int):=by simp [hn]
   have hi16:=hi _ (List.getElem_mem hn)
   have hg2:is.getD n 0=is[n]:=by simp [hn]
   have hb:inb 16 ((is[n]:Nat):Int)=some is[n]:=inbn hi16
   have hs:gslb 8 (0:Int) (d:Int)=some (0,d):=gslb_nat (a:=0) (by omega) hd
   have hv:vat t is[n]=some (t[is[n]]'hi16):=vatn hi16
   have hga:gapp ([]:List UInt8) (rowD d is[n])=some (rowD d is[n]):=gappn (by rw [rowD_len];simp;omega)
   have hb2:inb l.length (n:Int)=some n:=inbn h1
   simp only [L119_2,L119_2c,hc1,decide_true,cond_true,ixn hr,hb,hs,hv,Option.bind_some,row_of hd h hi16,hga,hb2,w64n (show n < 9223372036854775807 by omega),hg2])
  (fun l hl=>by simp [L119_2,L119_2c])
  is.length 0 F (List.replicate is.length []) (by omega) (by simp) (by omega)
 have r1:iter (fun s:Int×List (List UInt8)=>L119_2 F (is.map fun i:Nat=>(i:Int)) ((is.length:Nat):Int) (d:Int) t s.1 s.2) F ((0:Int),List.replicate is.length [])=some r:=r1
 have hr:r=is.map (rowD d):=by
  apply List.ext_getElem
  ·simp [r2]
  ·intro i h1 h2
   have hii:i < is.length:=by simpa using h2
   rw [r4 i h1 (by simp;omega) (by omega)]
   simp [hii]
 subst hr
 simp only [T119,T119c,hll,hg,Option.bind_some,r1]
theorem one_ok {F:Nat} {bs:List (List UInt8)} {len:Nat} (hF:200 < F) (hl:bs.length≤100) (h1:1≤len) (h2:len≤65536) (h:∀ b ∈ bs,b.length=len):T116 F bs=some true:=by
 have hl:iter (fun s=>L116_2 F bs bs (bs.length:Int) s) F (0:Int)=some (.inl ()):=by
  refine same_loop (n:=bs.length) (by omega) (by omega) (fun k hk=>?_) ?_
  ·have hr:bs[k]? = some bs[k]:=List.getElem?_eq_getElem hk
   have hi0:ix bs (0:Int)=some (bs[0]'(by omega)):=ixn (i:=0) (List.getElem?_eq_getElem (by omega))
   have hc1:((k:Nat):Int) < (bs.length:Int):=by omega
   have hl1:=h _ (List.getElem_mem hk)
   have hl2:=h _ (List.getElem_mem (h:=(by omega:0 < bs.length)))
   have e:((bs[k].length:Int) != ((bs[0]'(by omega)).length:Int))=false:=by rw [hl1,hl2];simp
   have e2:((bs[k].length:Int) == 0)=false:=by
    have:¬ (bs[k].length:Int)=0:=by omega
    simpa using this
   have e3:¬ (65536:Int) < (bs[k].length:Int):=by omega
   simp only [L116_2,L116_2c,hc1,decide_true,cond_true,ixn hr,hi0,Option.bind_some,e,e2,e3,decide_false,cond_false,w64n (show k < 9223372036854775807 by omega)]
  ·simp [L116_2,L116_2c]
 simp only [T116,T116c,hl,Option.bind_some,elimS]
def padB (d len:Nat) (bs:List (List UInt8)):List (List UInt8):=bs ++ List.replicate (d - bs.length) (List.replicate len 0)
def encP (d t len:Nat) (bs:List (List UInt8)):List (List UInt8):=(List.range t).map fun i=>comb (rowD d i) (padB d len bs) (List.replicate len 0)
theorem encode_ok {F d t len:Nat} {bs:List (List UInt8)} (hF:70000 + len < F∨300 + len < F) (h1:1≤d) (h8:d≤8) (hdt:d≤t) (ht:t≤16) (hb1:1≤bs.length) (hbd:bs.length≤d) (hl1:1≤len) (hl2:len≤65536) (h:∀ b ∈ bs,b.length=len) :
  T76 F (d:Int) (t:Int) bs=some (encP d t len bs,0):=by
 have hF:300 + len < F:=by omega
 have hv:T35 F (d:Int) (t:Int)=some true:=by
  have a1:(1:Int)≤(d:Int):=by omega
  have a2:(d:Int)≤8:=by omega
  have a3:(d:Int)≤(t:Int):=by omega
  have a4:(t:Int)≤16:=by omega
  simp only [T35,T35c,a1,a2,a3,a4,decide_true,cond_true]
 have e1:((bs.length:Int) == 0)=false:=by
  have:¬ (bs.length:Int)=0:=by omega
  simpa using this
 have e2:¬ (d:Int) < (bs.length:Int):=by omega
 have hone:=one_ok (F:=F) (by omega) (by omega) hl1 hl2 h
 have hcl:T97 F bs=some bs:=by
  show (gapp ([]:List (List UInt8)) bs).bind some=_
  rw [gappn (by simp;omega)];rfl
 have hfill:iter (fun s:List (List UInt8)=>L76_3 F (d:Int) bs s) F bs=some (padB d len bs):=by
  obtain ⟨z,hz,hQ⟩:=iter1 (f:=fun s:List (List UInt8)=>L76_3 F (d:Int) bs s)
   (fun s=>∃ k:Nat,s=bs ++ List.replicate k (List.replicate len 0)∧bs.length + k≤d) (fun z=>z=padB d len bs) (fun s=>d - s.length) (fun s hs=>by
    obtain ⟨k,rfl,hk⟩:=hs
    have hlen:(bs ++ List.replicate k (List.replicate len (0:UInt8))).length=bs.length + k:=by simp
    rcases Nat.lt_or_ge (bs.length + k) d with hlt | hge
    ·have hc1:((bs ++ List.replicate k (List.replicate len (0:UInt8))).length:Int) < (d:Int):=by rw [hlen];omega
     have hi0:ix bs (0:Int)=some (bs[0]'(by omega)):=ixn (i:=0) (List.getElem?_eq_getElem (by omega))
     have hl0:=h _ (List.getElem_mem (h:=(by omega:0 < bs.length)))
     have hg:=gmaken (0:UInt8) (n:=len) (by omega)
     have hg2:gapp (bs ++ List.replicate k (List.replicate len (0:UInt8))) [List.replicate len (0:UInt8)]=some ((bs ++ List.replicate k (List.replicate len (0:UInt8))) ++ [List.replicate len (0:UInt8)]):=gappn (by rw [hlen];simp;omega)
     refine .inl ⟨(bs ++ List.replicate k (List.replicate len (0:UInt8))) ++ [List.replicate len (0:UInt8)],by simp only [L76_3,L76_3c,hc1,decide_true,cond_true,hi0,hl0,hg,hg2,Option.bind_some],⟨k + 1,by rw [List.replicate_succ',List.append_assoc],by omega⟩,by simp;omega⟩
    ·have hc1:¬ ((bs ++ List.replicate k (List.replicate len (0:UInt8))).length:Int) < (d:Int):=by rw [hlen];omega
     refine .inr ⟨bs ++ List.replicate k (List.replicate len (0:UInt8)),by simp only [L76_3,L76_3c,hc1,decide_false,cond_false],?_⟩
     unfold padB
     rw [show d - bs.length=k by omega])
   F bs ⟨0,by simp,by omega⟩ (by omega)
  subst hQ
  exact hz
 have hidx:iter (fun s:Int×List Int=>L76_4 F (t:Int) s.1 s.2) F ((0:Int),([]:List Int))=some ((List.range t).map fun i:Nat=>(i:Int)):=by
  obtain ⟨z,hz,hQ⟩:=iter1 (f:=fun s:Int×List Int=>L76_4 F (t:Int) s.1 s.2)
   (fun s=>∃ k:Nat,s.1=(k:Int)∧k≤t∧s.2=(List.range k).map fun i:Nat=>(i:Int)) (fun z=>z=(List.range t).map fun i:Nat=>(i:Int)) (fun s=>t - s.1.toNat) (fun s hs=>by
    obtain ⟨k,e,hk,hl⟩:=hs
    obtain ⟨s1,l⟩:=s
    simp only at e hl
    subst e hl
    rcases Nat.lt_or_ge k t with hlt | hge
    ·have hc1:((k:Nat):Int) < (t:Int):=by omega
     have hg:gapp ((List.range k).map fun i:Nat=>(i:Int)) [(k:Int)]=some (((List.range k).map fun i:Nat=>(i:Int)) ++ [(k:Int)]):=gappn (by simp;omega)
     refine .inl ⟨(((k + 1:Nat):Int),((List.range k).map fun i:Nat=>(i:Int)) ++ [(k:Int)]),by simp only [L76_4,L76_4c,hc1,decide_true,cond_true,hg,Option.bind_some,w64n (show k < 9223372036854775807 by omega)],⟨k + 1,rfl,by omega,by rw [List.range_succ,List.map_append];rfl⟩,by simp only [Int.toNat_natCast];omega⟩
    ·have hkn:k=t:=by omega
     subst hkn
     refine .inr ⟨_,?_,rfl⟩
     simp [L76_4,L76_4c])
   F ((0:Int),([]:List Int)) ⟨0,rfl,by omega,rfl⟩ (by simp;omega)
  subst hQ
  exact hz
 obtain ⟨tb,ht1,ht2⟩:=table_ok (F:=F) (d:=d) (by omega) h8
 have hof:=of_ok (F:=F) (by omega) h8 ht2 (is:=List.range t) (by simp;omega) (fun i hi=>by simp at hi;omega)
 have hpl:(padB d len bs).length=d:=by simp [padB];omega
 have hpb:∀ b ∈ padB d len bs,b.length=len:=fun b hb=>by
  rcases List.mem_append.1 hb with hb | hb
  ·exact h b hb
  ·have:=(List.mem_replicate.1 hb).2;subst this;simp
 have hap:=apply_ok (F:=F) (len:=len) (by omega) (by omega) (m:=(List.range t).map (rowD d)) (bs:=padB d len bs) (by simp;omega) (by
   intro e
   have:=congrArg List.length e
   simp at this;omega) (fun x hx=>by
   obtain ⟨i,_,rfl⟩:=List.mem_map.1 hx
   rw [rowD_len,hpl]) (by omega) (by
   intro e
   rw [e] at hpl;simp at hpl;omega) hpb
 have hmm:((List.range t).map (rowD d)).map (fun x=>comb x (padB d len bs) (List.replicate len 0))=encP d t len bs:=by simp [encP]
 rw [hmm] at hap
 simp only [T76,T76c,hv,Option.bind_some,Bool.not_true,cond_false,e1,e2,decide_false,hone,hcl,hfill,hidx,ht1,hof,hap]
def dsum:Nat->(Nat->UInt8)->UInt8
 | 0,_=>0
 | n + 1,f=>dsum n f ^^^ f n
theorem dsum_congr:∀ {n:Nat} {f g:Nat->UInt8},(∀ k,k < n->f k=g k)->dsum n f=dsum n g
 | 0,_,_,_=>rfl
 | n + 1,f,g,h=>by simp only [dsum];rw [dsum_congr fun k hk=>h k (by omega),h n (by omega)]
theorem dsum_xor:∀ (n:Nat) (f g:Nat->UInt8),dsum n (fun k=>f k ^^^ g k)=dsum n f ^^^ dsum n g
 | 0,_,_=>by simp [dsum]
 | n + 1,f,g=>by simp only [dsum];rw [dsum_xor n f g,x_swap]
theorem dsum_mul (a:UInt8):∀ (n:Nat) (f:Nat->UInt8),dsum n (fun k=>gm a (f k))=gm a (dsum n f)
 | 0,_=>by simp [dsum,gm_zero]
 | n + 1,f=>by simp only [dsum];rw [dsum_mul a n f,gm_right]
theorem dsum_zero:∀ {n:Nat} {f:Nat->UInt8},(∀ k,k < n->f k=0)->dsum n f=0
 | 0,_,_=>rfl
 | n + 1,f,h=>by simp only [dsum];rw [dsum_zero fun k hk=>h k (by omega),h n (by omega),xx]
theorem dsum_one:∀ {n:Nat} {f:Nat->UInt8} {j:Nat},j < n->(∀ k,k < n->k ≠ j->f k=0)->dsum n f=f j
 | 0,_,j,h,_=>by omega
 | n + 1,f,j,h,hz=>by
  simp only [dsum]
  by_cases hj:j=n
  ·subst hj;rw [dsum_zero fun k hk=>hz k (by omega) (by omega),zx]
  ·rw [dsum_one (j:=j) (by omega) (fun k hk hkj=>hz k (by omega) hkj),hz n (by omega) (fun e=>hj e.symm),xz]
theorem csum_app (r:UInt8):∀ (a:List (UInt8×UInt8)) (q:UInt8×UInt8),csum (a ++ [q]) r=csum a r ^^^ gm q.2 (gi (r ^^^ q.1))
 | [],q=>by
  show gm q.2 (gi (r ^^^ q.1)) ^^^ 0=0 ^^^ gm q.2 (gi (r ^^^ q.1))
  rw [xz,zx]
 | p :: a,q=>by
  show gm p.2 (gi (r ^^^ p.1)) ^^^ csum (a ++ [q]) r=(gm p.2 (gi (r ^^^ p.1)) ^^^ csum a r) ^^^ gm q.2 (gi (r ^^^ q.1))
  rw [csum_app r a q,UInt8.xor_assoc]
theorem cs_filter (x:Nat->UInt8) (r:UInt8) (p:Nat->Bool):∀ (n:Nat),(∀ k,k < n->p k=false->x k=0)->csum (((List.range n).filter p).map fun k=>(UInt8.ofNat k,x k)) r=dsum n fun k=>gm (gi (r ^^^ UInt8.ofNat k)) (x k)
 | 0,_=>rfl
 | n + 1,h=>by
  have ih:=cs_filter x r p n fun k hk=>h k (by omega)
  rw [List.range_succ,List.filter_append,List.map_append]
  simp only [dsum]
  cases hp:p n with
  | true=>
   have:List.filter p [n]=[n]:=by simp [hp]
   rw [this,List.map_cons,List.map_nil,csum_app,ih,gm_comm]
  | false=>
   have:List.filter p [n]=[]:=by simp [hp]
   rw [this,List.map_nil,List.append_nil,ih,h n (by omega) hp,gm_zero,xz]
theorem ofNat_xor {i k:Nat} (hi:i < 256) (hk:k < 256):UInt8.ofNat (i ^^^ k)=UInt8.ofNat i ^^^ UInt8.ofNat k:=by
 apply UInt8.toNat_inj.1
 have h:i ^^^ k < 256:=Nat.xor_lt_two_pow (n:=8) hi hk
 rw [UInt8.toNat_xor,UInt8.toNat_ofNat',UInt8.toNat_ofNat',UInt8.toNat_ofNat',Nat.mod_eq_of_lt h,Nat.mod_eq_of_lt hi,Nat.mod_eq_of_lt hk]
theorem ofNat_ne {i k:Nat} (hi:i < 256) (hk:k < 256) (h:i ≠ k):UInt8.ofNat i ≠ UInt8.ofNat k:=fun e=>by
 have:=congrArg UInt8.toNat e
 rw [UInt8.toNat_ofNat',UInt8.toNat_ofNat',Nat.mod_eq_of_lt hi,Nat.mod_eq_of_lt hk] at this
 exact h this
theorem nodup_map_ofNat {l:List Nat} (h:l.Nodup) (hb:∀ i ∈ l,i < 256):(l.map UInt8.ofNat).Nodup:=by
 induction l with
 | nil=>simp
 | cons a l ih=>
  rw [List.nodup_cons] at h
  rw [List.map_cons,List.nodup_cons]
  refine ⟨fun hm=>?_,ih h.2 fun i hi=>hb i (by simp [hi])⟩
  obtain ⟨b,hb1,hb2⟩:=List.mem_map.1 hm
  have:b ≠ a:=fun e=>h.1 (e ▸ hb1)
  exact ofNat_ne (hb b (by simp [hb1])) (hb a (by simp)) this hb2
theorem flt {α:Type} (p:α->Bool):∀ (l:List α),l.length=(l.filter p).length + (l.filter fun x=>!p x).length
 | []=>rfl
 | a :: l=>by
  have:=flt p l
  cases hp:p a<;>simp [hp]<;>omega
theorem mds {d:Nat} {is:List Nat} (hl:is.length=d) (hn:is.Nodup) (hb:∀ i ∈ is,i < 256) (hd:d≤256) {x:Nat->UInt8} (h:∀ i ∈ is,dsum d (fun k=>gm (cell d i k) (x k))=0):∀ k,k < d->x k=0:=by
 have hid:∀ i ∈ is,i < d->x i=0:=fun i hi hid=>by
  have h1:=h i hi
  rw [dsum_one (j:=i) hid (fun k hk hki=>by unfold cell;rw [if_neg (by omega),if_neg (fun e=>hki e.symm),zero_gm])] at h1
  unfold cell at h1
  rw [if_neg (by omega),if_pos rfl,one_gm] at h1
  exact h1
 have hperm:((List.range d).filter fun k=>is.contains k).Perm (is.filter fun i=>decide (i < d)):=by
  refine (List.perm_ext_iff_of_nodup (List.nodup_range.filter _) (hn.filter _)).2 fun a=>?_
  simp [and_comm]
 have hcnt1:=flt (fun k=>is.contains k) (List.range d)
 have hcnt2:=flt (fun i=>decide (i < d)) is
 have hpl:=hperm.length_eq
 rw [List.length_range] at hcnt1
 have hT:=cauchy (((List.range d).filter fun k=>!is.contains k).map fun k=>(UInt8.ofNat k,x k)) ((is.filter fun i=>!decide (i < d)).map UInt8.ofNat)
  (by simp only [List.length_map];omega) (nodup_map_ofNat (hn.filter _) fun i hi=>hb i (List.mem_filter.1 hi).1)
  (by
   rw [List.map_map]
   exact nodup_map_ofNat (List.nodup_range.filter _) fun i hi=>by have:=List.mem_range.1 (List.mem_filter.1 hi).1;omega)
  (fun r hr p hp=>by
   obtain ⟨i,hi,rfl⟩:=List.mem_map.1 hr
   obtain ⟨k,hk,rfl⟩:=List.mem_map.1 hp
   have h1:=(List.mem_filter.1 hi)
   have h2:=List.mem_range.1 (List.mem_filter.1 hk).1
   have h3:¬ i < d:=by simpa using h1.2
   exact ofNat_ne (hb i h1.1) (by omega) (by omega))
  (fun r hr=>by
   obtain ⟨i,hi,rfl⟩:=List.mem_map.1 hr
   have h1:=(List.mem_filter.1 hi)
   have h3:¬ i < d:=by simpa using h1.2
   rw [cs_filter x _ _ d (fun k hk hc=>hid k (by simpa using hc) hk)]
   rw [← h i h1.1]
   refine dsum_congr fun k hk=>?_
   unfold cell
   rw [if_pos (by omega),ofNat_xor (hb i h1.1) (by omega)])
 intro k hk
 by_cases hc:k ∈ is
 ·exact hid k hc hk
 ·exact hT (UInt8.ofNat k,x k) (List.mem_map.2 ⟨k,List.mem_filter.2 ⟨List.mem_range.2 hk,by simpa using hc⟩,rfl⟩)
def gt (R:List (List UInt8)) (i k:Nat):UInt8:=(R.getD i []).getD k 0
structure EI (d w c:Nat) (A:Nat->Nat->UInt8) (Lp:List UInt8->Prop) (R:List (List UInt8)):Prop where
 len:R.length=d
 wid:∀ r ∈ R,r.length=w
 col:∀ i k,i < d->k < c->gt R i k=if i=k then 1 else 0
 ker:∀ x:Nat->UInt8,(∀ i,i < d->dsum w (fun k=>gm (gt R i k) (x k))=0)->∀ i,i < d->dsum w (fun k=>gm (A i k) (x k))=0
 lin:∀ r ∈ R,Lp r
theorem dsum_cut {d:Nat} {f:Nat->UInt8}:∀ {w:Nat},d≤w->(∀ k,d≤k->f k=0)->dsum w f=dsum d f
 | 0,h,_=>by rw [show d=0 by omega]
 | w + 1,h,hz=>by
  by_cases hd:d=w + 1
  ·rw [hd]
  ·show dsum w f ^^^ f w=_
   rw [dsum_cut (w:=w) (by omega) hz,hz w (by omega),xz]
theorem EI.piv {d w c:Nat} {A:Nat->Nat->UInt8} {Lp:List UInt8->Prop} {R:List (List UInt8)} (H:EI d w c A Lp R) (hdw:d≤w) (hc:c < d) (hA:∀ x:Nat->UInt8,(∀ i,i < d->dsum d (fun k=>gm (A i k) (x k))=0)->∀ k,k < d->x k=0) :
  ∃ p,c≤p∧p < d∧gt R p c ≠ 0∧∀ i,c≤i->i < p->gt R i c=0:=by
 have key:∀ m:Nat,(∃ p,c≤p∧p < c + m∧p < d∧gt R p c ≠ 0∧∀ i,c≤i->i < p->gt R i c=0)∨∀ i,c≤i->i < c + m->i < d->gt R i c=0:=by
  intro m
  induction m with
  | zero=>exact .inr fun i h1 h2=>by omega
  | succ m ih=>
   rcases ih with ⟨p,h1,h2,h3,h4,h5⟩ | ih
   ·exact .inl ⟨p,h1,by omega,h3,h4,h5⟩
   ·by_cases hm:c + m < d
    ·by_cases hz:gt R (c + m) c=0
     ·refine .inr fun i h1 h2 h3=>?_
      by_cases hi:i=c + m
      ·rw [hi];exact hz
      ·exact ih i h1 (by omega) h3
     ·exact .inl ⟨c + m,by omega,by omega,hm,hz,fun i h1 h2=>ih i h1 h2 (by omega)⟩
    ·exact .inr fun i h1 h2 h3=>ih i h1 (by omega) h3
 rcases key d with ⟨p,h1,h2,h3,h4,h5⟩ | hz
 ·exact ⟨p,h1,h3,h4,h5⟩
 ·exfalso
  have cut:∀ g:Nat->UInt8,dsum w (fun k=>gm (g k) (if k < c then gt R k c else if k=c then 1 else 0))=dsum d (fun k=>gm (g k) (if k < c then gt R k c else if k=c then 1 else 0)):=fun g=>
   dsum_cut hdw fun k hk=>by rw [if_neg (by omega),if_neg (by omega),gm_zero]
  have hx:∀ i,i < d->dsum w (fun k=>gm (gt R i k) (if k < c then gt R k c else if k=c then 1 else 0))=0:=by
   intro i hi
   rw [cut]
   by_cases hic:i < c
   ·have e:dsum d (fun k=>gm (gt R i k) (if k < c then gt R k c else if k=c then 1 else 0))=dsum d (fun k=>(if k=i then gt R i c else 0) ^^^ (if k=c then gt R i c else 0)):=by
     refine dsum_congr fun k hk=>?_
     by_cases h1:k < c
     ·rw [if_pos h1,H.col i k hi h1]
      by_cases h2:i=k
      ·subst h2;rw [if_pos rfl,one_gm,if_pos rfl,if_neg (by omega),xz]
      ·rw [if_neg h2,zero_gm,if_neg (fun e=>h2 e.symm),if_neg (by omega),xz]
     ·rw [if_neg h1]
      by_cases h2:k=c
      ·rw [if_pos h2,gm_one,if_neg (by omega),if_pos h2,zx,h2]
      ·rw [if_neg h2,gm_zero,if_neg (by omega),if_neg h2,xz]
    rw [e,dsum_xor,dsum_one (j:=i) hi (fun k _ hk=>if_neg hk),dsum_one (j:=c) hc (fun k _ hk=>if_neg hk),if_pos rfl,if_pos rfl,xx]
   ·refine dsum_zero fun k hk=>?_
    by_cases h1:k < c
    ·rw [H.col i k hi h1,if_neg (by omega),zero_gm]
    ·rw [if_neg h1]
     by_cases h2:k=c
     ·rw [if_pos h2,h2,hz i (by omega) (by omega) hi,zero_gm]
     ·rw [if_neg h2,gm_zero]
  have:=hA (fun k=>if k < c then gt R k c else if k=c then 1 else 0) (fun i hi=>by rw [← cut];exact H.ker _ hx i hi) c hc
  simp at this
def swp (R:List (List UInt8)) (c p:Nat):List (List UInt8):=(R.set c (R.getD p [])).set p (R.getD c [])
def clr (R:List (List UInt8)) (c:Nat):List (List UInt8):=
 (List.range R.length).map fun i=>if i=c then (R.getD c []).map (gm (gi (gt R c c))) else vadd (gt R i c) (R.getD i []) ((R.getD c []).map (gm (gi (gt R c c))))
theorem getD_mem {R:List (List UInt8)} {i:Nat} (h:i < R.length):R.getD i [] ∈ R:=by
 have:R.getD i []=R[i]:=by simp [h]
 rw [this];exact List.getElem_mem h
theorem swp_get {R:List (List UInt8)} {c p:Nat} (hc:c < R.length) (hp:p < R.length) {i:Nat} (hi:i < R.length):(swp R c p).getD i []=if i=p then R.getD c [] else if i=c then R.getD p [] else R.getD i []:=by
 unfold swp
 rw [List.getD_eq_getElem?_getD]
 by_cases h1:p=i
 ·subst h1
  rw [List.getElem?_set_self (by simpa using hp),if_pos rfl];rfl
 ·rw [List.getElem?_set_ne h1,if_neg (fun e=>h1 e.symm)]
  by_cases h2:c=i
  ·subst h2;rw [List.getElem?_set_self hc,if_pos rfl];rfl
  ·rw [List.getElem?_set_ne h2,if_neg (fun e=>h2 e.symm),List.getD_eq_getElem?_getD]
theorem gt_map {x:List UInt8} {f:UInt8} {k:Nat}:(x.map (gm f)).getD k 0=gm f (x.getD k 0):=by
 rw [List.getD_eq_getElem?_getD,List.getD_eq_getElem?_getD,List.getElem?_map]
 cases x[k]? with
 | none=>simp [gm_zero]
 | some a=>rfl
theorem gt_vadd {a:UInt8} {x y:List UInt8} (h:y.length=x.length) {k:Nat}:(vadd a x y).getD k 0=x.getD k 0 ^^^ gm a (y.getD k 0):=by
 unfold vadd
 by_cases hk:k < x.length
 ·simp [List.getElem?_zipWith,hk,show k < y.length by omega]
 ·rw [List.getD_eq_getElem?_getD,List.getD_eq_getElem?_getD,List.getD_eq_getElem?_getD,List.getElem?_eq_none (by simp;omega),List.getElem?_eq_none (by omega),List.getElem?_eq_none (by omega)]
  simp [gm_zero]
theorem EI.step {d w c p:Nat} {A:Nat->Nat->UInt8} {Lp:List UInt8->Prop} {R:List (List UInt8)} (H:EI d w c A Lp R) (hc:c < d) (hcp:c≤p) (hp:p < d) (hz:gt R p c ≠ 0)
  (hs:∀ (f:UInt8) (r:List UInt8),r.length=w->Lp r->Lp (r.map (gm f))) (ha:∀ (f:UInt8) (r s:List UInt8),r.length=w->s.length=w->Lp r->Lp s->Lp (vadd f r s)):EI d w (c + 1) A Lp (clr (swp R c p) c):=by
 have hl:=H.len
 have hsl:(swp R c p).length=d:=by simp [swp,hl]
 have hcl:(clr (swp R c p) c).length=d:=by simp [clr,hsl]
 have sg:∀ i,i < d->(swp R c p).getD i []=if i=p then R.getD c [] else if i=c then R.getD p [] else R.getD i []:=fun i hi=>swp_get (by omega) (by omega) (by omega)
 have sgc:(swp R c p).getD c []=R.getD p []:=by
  rw [sg c hc]
  by_cases h:c=p
  ·rw [if_pos h,h]
  ·rw [if_neg h,if_pos rfl]
 have sw:∀ i,i < d->((swp R c p).getD i []).length=w:=fun i hi=>by
  rw [sg i hi]
  split
  ·exact H.wid _ (getD_mem (by omega))
  ·split<;>exact H.wid _ (getD_mem (by omega))
 have sL:∀ i,i < d->Lp ((swp R c p).getD i []):=fun i hi=>by
  rw [sg i hi]
  split
  ·exact H.lin _ (getD_mem (by omega))
  ·split<;>exact H.lin _ (getD_mem (by omega))
 have hpc:gt (swp R c p) c c=gt R p c:=by unfold gt;rw [sgc]
 have cg:∀ i,i < d->(clr (swp R c p) c).getD i []=if i=c then (R.getD p []).map (gm (gi (gt R p c))) else vadd (gt (swp R c p) i c) ((swp R c p).getD i []) ((R.getD p []).map (gm (gi (gt R p c)))):=fun i hi=>by
  unfold clr
  rw [List.getD_eq_getElem?_getD,List.getElem?_map,List.getElem?_range (by omega),sgc,hpc]
  rfl
 have hwp:((R.getD p []).map (gm (gi (gt R p c)))).length=w:=by rw [List.length_map];exact H.wid _ (getD_mem (by omega))
 have gg:∀ i k,i < d->gt (clr (swp R c p) c) i k=if i=c then gm (gi (gt R p c)) (gt R p k) else gt (swp R c p) i k ^^^ gm (gt (swp R c p) i c) (gm (gi (gt R p c)) (gt R p k)):=fun i k hi=>by
  show ((clr (swp R c p) c).getD i []).getD k 0=_
  rw [cg i hi]
  by_cases h:i=c
  ·rw [if_pos h,if_pos h,gt_map];rfl
  ·rw [if_neg h,if_neg h,gt_vadd (by rw [hwp,sw i hi]),gt_map];rfl
 have gs:∀ i k,i < d->gt (swp R c p) i k=if i=p then gt R c k else if i=c then gt R p k else gt R i k:=fun i k hi=>by
  show ((swp R c p).getD i []).getD k 0=_
  rw [sg i hi]
  split
  ·rfl
  ·split<;>rfl
 refine ⟨hcl,fun r hr=>?_,fun i k hi hk=>?_,fun x hx=>?_,fun r hr=>?_⟩
 ·obtain ⟨i,hi⟩:=List.mem_iff_getElem?.1 hr
  have hil:=(List.getElem?_eq_some_iff.1 hi).1
  have:r=(clr (swp R c p) c).getD i []:=by rw [List.getD_eq_getElem?_getD,hi];rfl
  rw [this,cg i (by omega)]
  split
  ·exact hwp
  ·rw [vadd_len (by rw [hwp,sw i (by omega)]),sw i (by omega)]
 ·rw [gg i k hi]
  by_cases hkc:k < c
  ·have hpk:gt R p k=0:=by rw [H.col p k hp hkc,if_neg (by omega)]
   rw [hpk,gm_zero,gm_zero,xz]
   by_cases h:i=c
   ·rw [if_pos h,if_neg (by omega)]
   ·rw [if_neg h,gs i k hi]
    by_cases h2:i=p
    ·rw [if_pos h2,H.col c k hc hkc,if_neg (by omega),if_neg (by omega)]
    ·rw [if_neg h2,if_neg h,H.col i k hi hkc]
  ·have hkc:k=c:=by omega
   subst hkc
   have h1:gm (gi (gt R p k)) (gt R p k)=1:=by rw [gm_comm];exact gi_ok _ hz
   rw [h1,gm_one,xx]
 ·refine H.ker x fun i hi=>?_
  have hrow:∀ i,i < d->dsum w (fun k=>gm (gt (swp R c p) i k) (x k))=0:=by
   have hs0:=hx c hc
   have e0:dsum w (fun k=>gm (gt (clr (swp R c p) c) c k) (x k))=gm (gi (gt R p c)) (dsum w (fun k=>gm (gt R p k) (x k))):=by
    rw [← dsum_mul]
    refine dsum_congr fun k hk=>?_
    rw [gg c k hc,if_pos rfl,gm_assoc]
   rw [e0] at hs0
   have hp0:dsum w (fun k=>gm (gt R p k) (x k))=0:=by
    by_cases h:dsum w (fun k=>gm (gt R p k) (x k))=0
    ·exact h
    ·exact absurd hs0 (gm_ne (gi_ne hz) h)
   intro i hi
   by_cases h:i=c
   ·subst h
    have:∀ k,gt (swp R i p) i k=gt R p k:=fun k=>by unfold gt;rw [sgc]
    simp only [this];exact hp0
   ·have h1:=hx i hi
    have e1:dsum w (fun k=>gm (gt (clr (swp R c p) c) i k) (x k))=dsum w (fun k=>gm (gt (swp R c p) i k) (x k)) ^^^ gm (gt (swp R c p) i c) (gm (gi (gt R p c)) (dsum w (fun k=>gm (gt R p k) (x k)))):=by
     rw [← dsum_mul,← dsum_mul,← dsum_xor]
     refine dsum_congr fun k hk=>?_
     rw [gg i k hi,if_neg h,gm_left,gm_assoc,gm_assoc]
    rw [e1,hp0,gm_zero,gm_zero,xz] at h1
    exact h1
  by_cases h1:i=c
  ·subst h1
   have:=hrow p hp
   have e:∀ k,gt (swp R i p) p k=gt R i k:=fun k=>by rw [gs p k hp,if_pos rfl]
   simpa only [e] using this
  ·by_cases h2:i=p
   ·subst h2
    have:=hrow c hc
    have e:∀ k,gt (swp R c i) c k=gt R i k:=fun k=>by unfold gt;rw [sgc]
    simpa only [e] using this
   ·have:=hrow i hi
    have e:∀ k,gt (swp R c p) i k=gt R i k:=fun k=>by rw [gs i k hi,if_neg h2,if_neg h1]
    simpa only [e] using this
 ·obtain ⟨i,hi⟩:=List.mem_iff_getElem?.1 hr
  have hil:=(List.getElem?_eq_some_iff.1 hi).1
  have:r=(clr (swp R c p) c).getD i []:=by rw [List.getD_eq_getElem?_getD,hi];rfl
  have hLp:=hs (gi (gt R p c)) _ (H.wid _ (getD_mem (i:=p) (by omega))) (H.lin _ (getD_mem (i:=p) (by omega)))
  rw [this,cg i (by omega)]
  split
  ·exact hLp
  ·exact ha _ _ _ (sw i (by omega)) hwp (sL i (by omega)) hLp
theorem dsum_swap (f:Nat->Nat->UInt8) (m:Nat):∀ n:Nat,dsum n (fun i=>dsum m (f i))=dsum m (fun j=>dsum n fun i=>f i j)
 | 0=>by
  show (0:UInt8)=dsum m (fun j=>dsum 0 fun i=>f i j)
  exact (dsum_zero fun k _=>rfl).symm
 | n + 1=>by
  show dsum n (fun i=>dsum m (f i)) ^^^ dsum m (f n)=_
  rw [dsum_swap f m n,← dsum_xor]
  rfl
theorem dsum_mulr (a:UInt8) (n:Nat) (f:Nat->UInt8):dsum n (fun k=>gm (f k) a)=gm (dsum n f) a:=by
 rw [gm_comm,← dsum_mul]
 exact dsum_congr fun k _=>gm_comm _ _
def LI (d:Nat) (B M:Nat->Nat->UInt8):Prop:=∀ i k,i < d->k < d->dsum d (fun j=>gm (B i j) (M j k))=if i=k then 1 else 0
theorem LI.solve {d:Nat} {B M:Nat->Nat->UInt8} (H:LI d B M) {p x:Nat->UInt8} (hp:∀ j,j < d->p j=dsum d fun k=>gm (M j k) (x k)) {i:Nat} (hi:i < d):dsum d (fun j=>gm (B i j) (p j))=x i:=by
 have e1:dsum d (fun j=>gm (B i j) (p j))=dsum d fun j=>dsum d fun k=>gm (gm (B i j) (M j k)) (x k):=dsum_congr fun j hj=>by
  rw [hp j hj,← dsum_mul]
  exact dsum_congr fun k _=>(gm_assoc _ _ _).symm
 rw [e1,dsum_swap]
 have e2:dsum d (fun k=>dsum d fun j=>gm (gm (B i j) (M j k)) (x k))=dsum d fun k=>gm (if i=k then 1 else 0) (x k):=dsum_congr fun k hk=>by
  rw [dsum_mulr,H i k hi hk]
 rw [e2,dsum_one hi fun k _ hk=>by rw [if_neg (fun e=>hk e.symm),zero_gm],if_pos rfl,one_gm]
theorem comb_gd:∀ {x:List UInt8} {bs:List (List UInt8)} {acc:List UInt8},x.length=bs.length->(∀ b ∈ bs,b.length=acc.length)->∀ t,(comb x bs acc).getD t 0=acc.getD t 0 ^^^ dsum bs.length (fun j=>gm (x.getD j 0) ((bs.getD j []).getD t 0))
 | [],[],acc,_,_,t=>by simp [comb,dsum,xz]
 | a :: x,b :: bs,acc,hl,hb,t=>by
  have hbl:=hb b (by simp)
  have ih:=comb_gd (x:=x) (bs:=bs) (acc:=vadd a acc b) (by simpa using hl) (fun c hc=>by rw [vadd_len hbl];exact hb c (by simp [hc])) t
  show (comb x bs (vadd a acc b)).getD t 0=_
  rw [ih,gt_vadd hbl,List.length_cons]
  have:∀ n,dsum (n + 1) (fun j=>gm ((a :: x).getD j 0) (((b :: bs).getD j []).getD t 0))=gm a (b.getD t 0) ^^^ dsum n (fun j=>gm (x.getD j 0) ((bs.getD j []).getD t 0)):=by
   intro n
   induction n with
   | zero=>simp [dsum,xz,zx]
   | succ n ih=>
    show dsum (n + 1) _ ^^^ _=_
    rw [ih]
    simp only [dsum,List.getD_cons_succ,UInt8.xor_assoc]
  rw [this,UInt8.xor_assoc]
def idR (d i:Nat):List UInt8:=(List.range d).map fun k=>if i=k then 1 else 0
theorem idR_get {d i k:Nat} (hk:k < d):(idR d i).getD k 0=if i=k then 1 else 0:=by
 unfold idR
 rw [List.getD_eq_getElem?_getD,List.getElem?_map,List.getElem?_range hk];rfl
theorem app_get {a b:List UInt8} {k:Nat}:(a ++ b).getD (a.length + k) 0=b.getD k 0:=by
 rw [List.getD_eq_getElem?_getD,List.getElem?_append_right (by omega),Nat.add_sub_cancel_left,List.getD_eq_getElem?_getD]
theorem app_get1 {a b:List UInt8} {k:Nat} (h:k < a.length):(a ++ b).getD k 0=a.getD k 0:=by
 rw [List.getD_eq_getElem?_getD,List.getElem?_append_left h,List.getD_eq_getElem?_getD]
def joinR (m r:List (List UInt8)):List (List UInt8):=List.zipWith (· ++ ·) m r
def LpI (d:Nat) (M:Nat->Nat->UInt8) (r:List UInt8):Prop:=∀ k,k < d->r.getD k 0=dsum d fun j=>gm (r.getD (d + j) 0) (M j k)
theorem LpI.scale {d:Nat} {M:Nat->Nat->UInt8} (f:UInt8) {r:List UInt8} (h:LpI d M r):LpI d M (r.map (gm f)):=fun k hk=>by
 rw [gt_map,h k hk,← dsum_mul]
 exact dsum_congr fun j _=>by rw [gt_map,gm_assoc]
theorem LpI.add {d w:Nat} {M:Nat->Nat->UInt8} (f:UInt8) {r s:List UInt8} (hr:r.length=w) (hs:s.length=w) (h1:LpI d M r) (h2:LpI d M s):LpI d M (vadd f r s):=fun k hk=>by
 rw [gt_vadd (by omega),h1 k hk,h2 k hk,← dsum_mul,← dsum_xor]
 exact dsum_congr fun j _=>by rw [gt_vadd (by omega),gm_left,gm_assoc]
theorem EI.start {d w:Nat} {Lp:List UInt8->Prop} {R:List (List UInt8)} (h1:R.length=d) (h2:∀ r ∈ R,r.length=w) (h3:∀ r ∈ R,Lp r):EI d w 0 (gt R) Lp R:=
 ⟨h1,h2,fun i k _ hk=>by omega,fun x h=>h,h3⟩
theorem EI.inv {d:Nat} {A M:Nat->Nat->UInt8} {R:List (List UInt8)} (H:EI d (d + d) d A (LpI d M) R):LI d (fun i j=>gt R i (d + j)) M:=fun i k hi hk=>by
 have:=H.lin _ (getD_mem (i:=i) (by rw [H.len];exact hi)) k hk
 show dsum d (fun j=>gm ((R.getD i []).getD (d + j) 0) (M j k))=_
 rw [← this]
 exact H.col i k hi hk
theorem EI.sol {d w:Nat} {A:Nat->Nat->UInt8} {Lp:List UInt8->Prop} {R:List (List UInt8)} (H:EI d w d A Lp R) {t:Nat} (ht:d + t < w) {i:Nat} (hi:i < d):A i (d + t)=dsum d fun k=>gm (A i k) (gt R k (d + t)):=by
 have cut:∀ g:Nat->UInt8,dsum w (fun k=>gm (g k) (if k < d then gt R k (d + t) else if k=d + t then 1 else 0))=dsum d (fun k=>gm (g k) (gt R k (d + t))) ^^^ g (d + t):=fun g=>by
  have e:dsum w (fun k=>gm (g k) (if k < d then gt R k (d + t) else if k=d + t then 1 else 0))=dsum w (fun k=>(if k < d then gm (g k) (gt R k (d + t)) else 0) ^^^ (if k=d + t then g (d + t) else 0)):=dsum_congr fun k hk=>by
   by_cases h1:k < d
   ·rw [if_pos h1,if_pos h1,if_neg (by omega),xz]
   ·rw [if_neg h1,if_neg h1,zx]
    by_cases h2:k=d + t
    ·rw [if_pos h2,if_pos h2,gm_one,h2]
    ·rw [if_neg h2,if_neg h2,gm_zero]
  rw [e,dsum_xor,dsum_one (n:=w) (j:=d + t) ht (fun k _ hk=>if_neg hk),if_pos rfl,dsum_cut (d:=d) (w:=w) (by omega) (fun k hk=>if_neg (by omega))]
  rw [dsum_congr fun k hk=>if_pos hk]
 have:=H.ker (fun k=>if k < d then gt R k (d + t) else if k=d + t then 1 else 0) (fun i hi=>by
  rw [cut,dsum_one hi (fun k hk hki=>by rw [H.col i k hi hk,if_neg (fun e=>hki e.symm),zero_gm]),H.col i i hi hi,if_pos rfl,one_gm,xx]) i hi
 rw [cut] at this
 exact (x_eq this).symm
theorem getD_at {R:List (List UInt8)} {i:Nat} (h:i < R.length):R[i]? = some (R.getD i []):=by
 rw [List.getD_eq_getElem?_getD,List.getElem?_eq_getElem h];rfl
theorem ix_gt {R:List (List UInt8)} {i k:Nat} (h:k < (R.getD i []).length):ix (R.getD i []) (k:Int)=some (gt R i k):=by
 have:(R.getD i [])[k]? = some (gt R i k):=by
  unfold gt
  rw [List.getD_eq_getElem?_getD (l:=R.getD i []),List.getElem?_eq_getElem h];rfl
 exact ixn this
theorem piv_ok {F d w c p:Nat} {R:List (List UInt8)} (hF:2000 < F) (hd:d≤100) (hl:R.length=d) (hw:∀ r ∈ R,r.length=w) (hcw:c < w) (hcp:c≤p) (hp:p < d) (hz:gt R p c ≠ 0) (h0:∀ i,c≤i->i < p->gt R i c=0) :
  T179x3 F (c:Int) (c:Int) R=some (p:Int):=by
 obtain ⟨z,hz',hQ⟩:=iter1 (f:=fun s:Int=>L179x3_2 F (c:Int) R s)
  (fun s=>∃ k:Nat,s=(k:Int)∧c≤k∧k≤p) (fun z=>z=.inr (p:Int)) (fun s=>p + 1 - s.toNat) (fun s hs=>by
   obtain ⟨k,e,hck,hk⟩:=hs
   subst e
   have hc1:((k:Nat):Int) < (R.length:Int):=by omega
   have hi:inb R.length (k:Int)=some k:=inbn (by omega)
   have hr:=getD_at (R:=R) (i:=k) (by omega)
   have hx:=ix_gt (R:=R) (i:=k) (k:=c) (by rw [hw _ (getD_mem (by omega))];exact hcw)
   by_cases hkp:k=p
   ·subst hkp
    have e0:(gt R k c != UInt8.ofNat 0)=true:=by
     have h2:gt R k c ≠ UInt8.ofNat 0:=hz
     simpa using h2
    exact .inr ⟨.inr (k:Int),by simp only [L179x3_2,L179x3_2c,hc1,decide_true,cond_true,hi,hr,hx,e0,Option.bind_some],rfl⟩
   ·have e0:(gt R k c != UInt8.ofNat 0)=false:=by rw [h0 k hck (by omega)];rfl
    exact .inl ⟨((k + 1:Nat):Int),by simp only [L179x3_2,L179x3_2c,hc1,decide_true,cond_true,hi,hr,hx,e0,Option.bind_some,cond_false,w64n (show k < 9223372036854775807 by omega)],⟨k + 1,rfl,by omega,by omega⟩,by simp only [Int.toNat_natCast];omega⟩)
  F (c:Int) ⟨c,rfl,by omega,hcp⟩ (by simp;omega)
 subst hQ
 simp only [T179x3,T179x3c,hz',Option.bind_some,elimS]
theorem clear_ok {F d w c:Nat} {R:List (List UInt8)} (hF:2000 < F) (hd:d≤100) (hw2:w≤1000) (hl:R.length=d) (hw:∀ r ∈ R,r.length=w) (hcw:c < w) (hc:c < d) :
  T180x1 F (c:Int) (c:Int) R=some (clr R c):=by
 have hi:inb R.length (c:Int)=some c:=inbn (by omega)
 have hr:=getD_at (R:=R) (i:=c) (by omega)
 have hrl:(R.getD c []).length=w:=hw _ (getD_mem (by omega))
 have hx:=ix_gt (R:=R) (i:=c) (k:=c) (by rw [hrl];exact hcw)
 obtain ⟨er,hinv⟩:=g_inv (F:=F) (by omega) (gt R c c)
 have hsc:=g_scale (F:=F) (l:=R.getD c []) (by omega) (by omega) (gi (gt R c c))
 have hcl:(clr R c).length=d:=by simp [clr,hl]
 have cg:∀ i,i < d->(clr R c).getD i []=if i=c then (R.getD c []).map (gm (gi (gt R c c))) else vadd (gt R i c) (R.getD i []) ((R.getD c []).map (gm (gi (gt R c c)))):=fun i hi=>by
  unfold clr
  rw [List.getD_eq_getElem?_getD,List.getElem?_map,List.getElem?_range (by omega)];rfl
 generalize hs:(R.getD c []).map (gm (gi (gt R c c)))=s at hsc cg
 have hsl:s.length=w:=by rw [← hs,List.length_map];exact hrl
 obtain ⟨z,hz,hQ⟩:=iter1 (f:=fun x:Int×List (List UInt8)=>L180x1_2 F (c:Int) (c:Int) ((List.set R c s).length:Int) x.1 x.2)
  (fun x=>∃ k:Nat,x.1=(k:Int)∧k≤d∧x.2.length=d∧(∀ i,i < k->i < d->x.2[i]? = some ((clr R c).getD i []))∧(∀ i,k≤i->i < d->i ≠ c->x.2[i]? = some (R.getD i []))∧x.2[c]? = some s) (fun z=>z=clr R c) (fun x=>d - x.1.toNat) (fun x hs'=>by
   obtain ⟨k,e,hk,a1,a2,a3,a4⟩:=hs'
   obtain ⟨s1,l⟩:=x
   simp only at e a1 a2 a3 a4
   subst e
   rcases Nat.lt_or_ge k d with hlt | hge
   ·have hc1:((k:Nat):Int) < ((List.set R c s).length:Int):=by simp;omega
    have hik:inb l.length (k:Int)=some k:=inbn (by omega)
    by_cases hkc:k=c
    ·subst hkc
     have e1:((k:Int) != (k:Int))=false:=by simp
     refine .inl ⟨(((k + 1:Nat):Int),l),by simp only [L180x1_2,L180x1_2c,hc1,decide_true,cond_true,hik,a4,e1,cond_false,Option.bind_some,w64n (show k < 9223372036854775807 by omega)],⟨k + 1,rfl,by omega,a1,fun i hi hid=>?_,fun i hi hid hne=>a3 i (by omega) hid hne,a4⟩,by simp only [Int.toNat_natCast];omega⟩
     by_cases h:i=k
     ·subst h;show l[i]? = _;rw [a4,cg i hid,if_pos rfl]
     ·exact a2 i (by omega) hid
    ·have e1:((k:Int) != (c:Int))=true:=by
      have:¬ (k:Int)=(c:Int):=by omega
      simpa using this
     have hrk:=a3 k (Nat.le_refl _) hlt hkc
     have hrkl:(R.getD k []).length=w:=hw _ (getD_mem (by omega))
     have hxk:=ix_gt (R:=R) (i:=k) (k:=c) (by rw [hrkl];exact hcw)
     have put:∀ y:List UInt8,y=(clr R c).getD k []->∃ k':Nat,(((k + 1:Nat):Int),l.set k y).1=(k':Int)∧k'≤d∧(l.set k y).length=d∧(∀ i,i < k'->i < d->(l.set k y)[i]? = some ((clr R c).getD i []))∧(∀ i,k'≤i->i < d->i ≠ c->(l.set k y)[i]? = some (R.getD i []))∧(l.set k y)[c]? = some s:=fun y hy=>by
      refine ⟨k + 1,rfl,by omega,by simp [a1],fun i hi hid=>?_,fun i hi hid hne=>?_,?_⟩
      ·by_cases h:k=i
       ·subst h;rw [List.getElem?_set_self (by omega),hy]
       ·rw [List.getElem?_set_ne h];exact a2 i (by omega) hid
      ·rw [List.getElem?_set_ne (by omega)];exact a3 i (by omega) hid hne
      ·rw [List.getElem?_set_ne hkc];exact a4
     by_cases hz:gt R k c=0
     ·have e2:(gt R k c != UInt8.ofNat 0)=false:=by rw [hz];rfl
      have hsame:l.set k (R.getD k [])=l:=by
       apply List.ext_getElem?
       intro j
       by_cases h:k=j
       ·subst h;rw [List.getElem?_set_self (by omega),hrk]
       ·rw [List.getElem?_set_ne h]
      have hp:=put (R.getD k []) (by rw [cg k hlt,if_neg hkc,hz,vadd_0 (by rw [hsl,hrkl])])
      rw [hsame] at hp
      exact .inl ⟨(((k + 1:Nat):Int),l),by simp only [L180x1_2,L180x1_2c,hc1,decide_true,cond_true,hik,hrk,e1,hxk,e2,cond_false,Option.bind_some,w64n (show k < 9223372036854775807 by omega)],hp,by simp only [Int.toNat_natCast];omega⟩
     ·have e2:(gt R k c != UInt8.ofNat 0)=true:=by
       have h2:gt R k c ≠ UInt8.ofNat 0:=hz
       simpa using h2
      have hic:inb l.length (c:Int)=some c:=inbn (by omega)
      have hm:=g_muladd (F:=F) (l:=R.getD k []) (v:=s) (by omega) (by omega) (by omega) (gt R k c)
      exact .inl ⟨(((k + 1:Nat):Int),l.set k (vadd (gt R k c) (R.getD k []) s)),by simp only [L180x1_2,L180x1_2c,hc1,decide_true,cond_true,hik,hic,a4,hrk,e1,hxk,e2,hm,Option.bind_some,w64n (show k < 9223372036854775807 by omega)];rfl,put _ (by rw [cg k hlt,if_neg hkc]),by simp only [Int.toNat_natCast];omega⟩
   ·have hkn:k=d:=by omega
    subst hkn
    have hll:((List.set R c s).length:Int)=(k:Int):=by simp [hl]
    refine .inr ⟨l,by simp only [L180x1_2,L180x1_2c,hll,show ¬ ((k:Int) < (k:Int)) by omega,decide_false,cond_false],?_⟩
    apply List.ext_getElem?
    intro i
    rcases Nat.lt_or_ge i k with h | h
    ·rw [a2 i h h,getD_at (by omega)]
    ·rw [List.getElem?_eq_none (by omega),List.getElem?_eq_none (by omega)])
  F ((0:Int),List.set R c s) ⟨0,rfl,by omega,by simp [hl],fun i h=>by omega,fun i h1 h2 h3=>by rw [List.getElem?_set_ne (fun e=>h3 e.symm)];exact getD_at (by omega),List.getElem?_set_self (by omega)⟩ (by simp;omega)
 subst hQ
 simp only [T180x1,T180x1c,hi,hr,hx,hinv,hsc,hz,Option.bind_some]
theorem reduce_ok {F d w:Nat} {A:Nat->Nat->UInt8} {Lp:List UInt8->Prop} {R:List (List UInt8)} (hF:2000 < F) (hd:d≤100) (hdw:d≤w) (hw2:w≤1000) (H:EI d w 0 A Lp R)
  (hA:∀ x:Nat->UInt8,(∀ i,i < d->dsum d (fun k=>gm (A i k) (x k))=0)->∀ k,k < d->x k=0)
  (hs:∀ (f:UInt8) (r:List UInt8),r.length=w->Lp r->Lp (r.map (gm f))) (ha:∀ (f:UInt8) (r s:List UInt8),r.length=w->s.length=w->Lp r->Lp s->Lp (vadd f r s)) (q:UInt8) :
  ∃ q' R' pv,T176 F (d:Int) q R=some (q',R',pv)∧EI d w d A Lp R'∧pv.length=d:=by
 obtain ⟨z,hz,q',R',pv,rfl,h1,h2⟩:=iter1 (f:=fun x:Int×UInt8×List (List UInt8)×List Int=>L176_6 F (d:Int) x.1 x.2.1 x.2.2.1 x.2.2.2)
  (fun x=>∃ c:Nat,x.1=(c:Int)∧c≤d∧EI d w c A Lp x.2.2.1∧x.2.2.2.length=c) (fun z=>∃ q' R' pv,z=(q',R',pv)∧EI d w d A Lp R'∧pv.length=d) (fun x=>d - x.1.toNat) (fun x hs'=>by
   obtain ⟨c,e,hc,hE,hpv⟩:=hs'
   obtain ⟨s1,q,R,pv⟩:=x
   simp only at e hE hpv
   subst e
   rcases Nat.lt_or_ge c d with hlt | hge
   ·have hc1:((c:Nat):Int) < (d:Int):=by omega
    obtain ⟨p,p1,p2,p3,p4⟩:=hE.piv hdw hlt hA
    have hl:=hE.len
    have hfd:=piv_ok hF hd hl hE.wid (by omega) p1 p2 p3 p4
    rw [← hpv] at hfd
    have hn0:¬ (p:Int) < 0:=by omega
    have hip:inb R.length (p:Int)=some p:=inbn (by omega)
    have hic:inb R.length (c:Int)=some c:=inbn (by omega)
    have hrp:=getD_at (R:=R) (i:=p) (by omega)
    have hrc:=getD_at (R:=R) (i:=c) (by omega)
    have hip2:inb (List.set R c (R.getD p [])).length (p:Int)=some p:=inbn (by simp;omega)
    have hsl:(swp R c p).length=d:=by simp [swp,hl]
    have hic2:inb (swp R c p).length (c:Int)=some c:=inbn (by omega)
    have hsw:∀ r ∈ swp R c p,r.length=w:=fun r hr=>by
     unfold swp at hr
     rcases List.mem_or_eq_of_mem_set hr with hr | rfl
     ·rcases List.mem_or_eq_of_mem_set hr with hr | rfl
      ·exact hE.wid r hr
      ·exact hE.wid _ (getD_mem (by omega))
     ·exact hE.wid _ (getD_mem (by omega))
    have hrs:=getD_at (R:=swp R c p) (i:=c) (by omega)
    have hxs:=ix_gt (R:=swp R c p) (i:=c) (k:=c) (by rw [hsw _ (getD_mem (by omega))];omega)
    have hmu:=g_mul (F:=F) (by omega) q (gt (swp R c p) c c)
    have hcl:=clear_ok hF hd hw2 hsl hsw (by omega) hlt
    have hga:gapp pv ([(c:Int)]:List Int)=some (pv ++ [(c:Int)]):=gappn (by simp;omega)
    have hst:=hE.step hlt p1 p2 p3 hs ha
    refine .inl ⟨(((c + 1:Nat):Int),gm q (gt (swp R c p) c c),clr (swp R c p) c,pv ++ [(c:Int)]),?_,⟨c + 1,rfl,by omega,hst,by simp [hpv]⟩,by simp only [Int.toNat_natCast];omega⟩
    have hsd:(List.set (List.set R c (R.getD p [])) p (R.getD c []))=swp R c p:=rfl
    rw [hpv] at hfd
    simp only [L176_6,L176_6c,L176_7,L176_7c,L176_8,L176_8c,hc1,decide_true,cond_true,hpv,hfd,hn0,decide_false,cond_false,hip,hic,hrp,hrc,hip2,hsd,hic2,hrs,hxs,hmu,hcl,hga,Option.bind_some,w64n (show c < 9223372036854775807 by omega)]
   ·have hkn:c=d:=by omega
    subst hkn
    exact .inr ⟨(q,R,pv),by simp only [L176_6,L176_6c,show ¬ ((c:Int) < (c:Int)) by omega,decide_false,cond_false],q,R,pv,rfl,hE,hpv⟩)
  F ((0:Int),q,R,([]:List Int)) ⟨0,rfl,by omega,H,rfl⟩ (by simp;omega)
 refine ⟨q',R',pv,?_,h1,h2⟩
 simp only [T176,T176c,hz,Option.bind_some]
theorem idR_len (d i:Nat):(idR d i).length=d:=by simp [idR]
theorem idR_set (d k:Nat):(List.replicate d (0:UInt8)).set k (UInt8.ofNat 1)=idR d k:=by
 apply List.ext_getElem
 ·simp [idR]
 ·intro i h1 h2
  simp only [idR,List.getElem_set,List.getElem_replicate,List.getElem_map,List.getElem_range]
  rfl
theorem identity_ok {F d:Nat} (hF:200 < F) (hd:d≤64):T172 F (d:Int)=some ((List.range d).map (idR d)):=by
 have h1:T177 F (d:Int)=some true:=by
  simp only [T177,T177c,show (0:Int)≤(d:Int) by omega,show (d:Int)≤64 by omega,decide_true,cond_true]
 obtain ⟨r0,hz,hR0⟩:=zeros_ok (F:=F) (n:=d) (len:=d) (by omega) (by omega) (by omega)
 have hol:r0.2.length=d:=by rw [hR0.len];simp
 obtain ⟨z,hz2,hQ⟩:=iter1 (f:=fun s:Int×(List (Option (List UInt8))×List Nat)=>L172_2 F (r0.2.length:Int) s.1 s.2)
  (fun s=>∃ k:Nat,s.1=(k:Int)∧k≤d∧∃ gs:List (List UInt8),Rows s.2.1 s.2.2 gs∧gs.length=d∧(∀ i,i < k->gs[i]? = some (idR d i))∧∀ i,k≤i->i < d->gs[i]? = some (List.replicate d 0))
  (fun z=>Rows z.1 z.2 ((List.range d).map (idR d))) (fun s=>d - s.1.toNat) (fun s hs=>by
   obtain ⟨k,e,hk,gs,hR,hgl,h2,h3⟩:=hs
   obtain ⟨s1,⟨rows,out⟩⟩:=s
   simp only at e hR
   subst e
   rcases Nat.lt_or_ge k d with hlt | hge
   ·have hc1:((k:Nat):Int) < (r0.2.length:Int):=by omega
    obtain ⟨q,a1,a2,a3⟩:=hR.get (h3 k (Nat.le_refl _) hlt)
    have hi:inb out.length (k:Int)=some k:=inbn (by rw [hR.len,hgl];exact hlt)
    have hi2:inb (List.replicate d (0:UInt8)).length (k:Int)=some k:=inbn (by simpa using hlt)
    refine .inl ⟨_,by simp only [L172_2,L172_2c,hc1,decide_true,cond_true,hi,hi2,a1,a2,Option.bind_some,idR_set,w64n (show k < 9223372036854775807 by omega)];rfl,⟨k + 1,rfl,by omega,_,hR.put a3 (idR d k),by simp [hgl],fun i hi=>?_,fun i hi hid=>?_⟩,by simp only [Int.toNat_natCast];omega⟩
    ·by_cases h:k=i
     ·subst h;rw [List.getElem?_set_self (by omega)]
     ·rw [List.getElem?_set_ne h];exact h2 i (by omega)
    ·rw [List.getElem?_set_ne (by omega)];exact h3 i (by omega) hid
   ·have hkn:k=d:=by omega
    subst hkn
    have he:gs=(List.range k).map (idR k):=by
     apply List.ext_getElem?
     intro i
     rcases Nat.lt_or_ge i k with h | h
     ·rw [h2 i h,List.getElem?_map,List.getElem?_range h];rfl
     ·rw [List.getElem?_eq_none (by omega),List.getElem?_eq_none (by simp;omega)]
    subst he
    have hc1:¬ ((k:Nat):Int) < (r0.2.length:Int):=by omega
    exact .inr ⟨(rows,out),by simp only [L172_2,L172_2c,hc1,decide_false,cond_false],hR⟩)
  F ((0:Int),r0) ⟨0,rfl,by omega,_,hR0,by simp,fun i h=>by omega,fun i _ h=>by rw [List.getElem?_replicate,if_pos h]⟩ (by simp;omega)
 have hm:=hQ.mat_eq
 simp only [T172,T172c,h1,Bool.not_true,cond_false,hz,hz2,hm,Option.bind_some]
theorem gne_ok {α:Type} {l:List α} (h:l ≠ []):gne l=some ():=by
 cases l with
 | nil=>exact absurd rfl h
 | cons a l=>rfl
theorem gt_at {R:List (List UInt8)} {i k:Nat} {r:List UInt8} (h:R[i]? = some r):gt R i k=r.getD k 0:=by
 unfold gt
 rw [List.getD_eq_getElem?_getD (l:=R),h];rfl
theorem join_at {m r:List (List UInt8)} {i:Nat} {a b:List UInt8} (h1:m[i]? = some a) (h2:r[i]? = some b):(joinR m r)[i]? = some (a ++ b):=by
 unfold joinR
 rw [List.getElem?_zipWith,h1,h2]
theorem join_loop {F d w:Nat} {m r:List (List UInt8)} (hF:2000 < F) (hd:d≤64) (hm:m.length=d) (hr:r.length=d) (hw:∀ x ∈ m,x.length≤100) (hw2:∀ x ∈ r,x.length≤100000) (hd0:0 < d):iter (fun s:Int×List (List UInt8)=>L171_2 F r m (m.length:Int) s.1 s.2) F ((0:Int),([]:List (List UInt8)))=some (joinR m r):=by
 have hjl:(joinR m r).length=d:=by simp [joinR,hm,hr]
 have hne:=gne_ok (l:=r) (fun e=>by rw [e] at hr;simp at hr;omega)
 obtain ⟨z,hz,hQ⟩:=iter1 (f:=fun s:Int×List (List UInt8)=>L171_2 F r m (m.length:Int) s.1 s.2)
  (fun s=>∃ k:Nat,s.1=(k:Int)∧k≤d∧s.2=(joinR m r).take k) (fun z=>z=joinR m r) (fun s=>d - s.1.toNat) (fun s hs=>by
   obtain ⟨k,e,hk,hl⟩:=hs
   obtain ⟨s1,l⟩:=s
   simp only at e hl
   subst e hl
   rcases Nat.lt_or_ge k d with hlt | hge
   ·have hc1:((k:Nat):Int) < (m.length:Int):=by omega
    have h1:m[k]? = some (m[k]'(by omega)):=List.getElem?_eq_getElem (by omega)
    have h2:r[k]? = some (r[k]'(by omega)):=List.getElem?_eq_getElem (by omega)
    have hx1:=hw _ (List.getElem_mem (h:=(by omega:k < m.length)))
    have hx2:=hw2 _ (List.getElem_mem (h:=(by omega:k < r.length)))
    have hj:=join_at h1 h2
    generalize m[k]'(by omega)=a at h1 hx1 hj
    generalize r[k]'(by omega)=b at h2 hx2 hj
    have g1:gapp ([]:List UInt8) a=some a:=by rw [gappn (by simp;omega)];rfl
    have g2:gapp a b=some (a ++ b):=gappn (by omega)
    have g3:gapp ((joinR m r).take k) [a ++ b]=some ((joinR m r).take k ++ [a ++ b]):=gappn (by simp;omega)
    exact .inl ⟨(((k + 1:Nat):Int),(joinR m r).take k ++ [a ++ b]),by simp only [L171_2,L171_2c,hc1,decide_true,cond_true,ixn h1,ixn h2,hne,g1,g2,g3,Option.bind_some,w64n (show k < 9223372036854775807 by omega)],⟨k + 1,rfl,by omega,by rw [takeS' hj]⟩,by simp only [Int.toNat_natCast];omega⟩
   ·have hkn:k=d:=by omega
    subst hkn
    refine .inr ⟨(joinR m r).take k,?_,by rw [← hjl,List.take_length]⟩
    have hc1:¬ ((k:Nat):Int) < (m.length:Int):=by omega
    simp only [L171_2,L171_2c,hc1,decide_false,cond_false])
  F ((0:Int),([]:List (List UInt8))) ⟨0,rfl,by omega,rfl⟩ (by simp;omega)
 subst hQ
 exact hz
theorem inverse_ok {F d:Nat} {m:List (List UInt8)} (hF:2000 < F) (hd0:0 < d) (hd:d≤64) (hm:m.length=d) (hw:∀ x ∈ m,x.length=d) (hA:∀ x:Nat->UInt8,(∀ i,i < d->dsum d (fun k=>gm (gt m i k) (x k))=0)->∀ k,k < d->x k=0) :
  ∃ B:List (List UInt8),T160 F m=some (0,B)∧B.length=d∧(∀ b ∈ B,b.length=d)∧LI d (gt B) (gt m):=by
 have hv:=valid_ok (F:=F) (m:=m) (w:=d) (by omega) (by omega) hd hw
 obtain ⟨m0,ms,hms⟩:∃ m0 ms,m=m0 :: ms:=by
  cases m with
  | nil=>simp at hm;omega
  | cons a l=>exact ⟨a,l,rfl⟩
 have hc:T150 F m=some (d:Int):=by
  rw [cols_ok]
  have:(m.headD []).length=d:=by rw [hms];exact hw m0 (by rw [hms];simp)
  rw [this]
 have hid:=identity_ok (F:=F) (d:=d) (by omega) hd
 have hml:((m.length:Int) != (d:Int))=false:=by rw [hm];simp
 generalize hI:(List.range d).map (idR d)=I at hid
 have hIl:I.length=d:=by rw [← hI];simp
 have hIa:∀ i,i < d->I[i]? = some (idR d i):=fun i hi=>by rw [← hI,List.getElem?_map,List.getElem?_range hi];rfl
 have hIw:∀ x ∈ I,x.length=d:=fun x hx=>by
  rw [← hI] at hx
  obtain ⟨i,_,rfl⟩:=List.mem_map.1 hx
  exact idR_len d i
 have hj:=join_loop (F:=F) (d:=d) (w:=d) (m:=m) (r:=I) hF hd hm hIl (fun x hx=>by rw [hw x hx];omega) (fun x hx=>by rw [hIw x hx];omega) hd0
 have hjl:(joinR m I).length=d:=by simp [joinR,hm,hIl]
 have hma:∀ i,i < d->∃ a,m[i]? = some a∧a.length=d:=fun i hi=>⟨m[i]'(by omega),List.getElem?_eq_getElem (by omega),hw _ (List.getElem_mem _)⟩
 have hjg1:∀ i k,i < d->k < d->gt (joinR m I) i k=gt m i k:=fun i k hi hk=>by
  obtain ⟨a,h1,h2⟩:=hma i hi
  rw [gt_at (join_at h1 (hIa i hi)),gt_at h1,app_get1 (by omega)]
 have hjg2:∀ i j,i < d->j < d->gt (joinR m I) i (d + j)=if i=j then 1 else 0:=fun i j hi hj'=>by
  obtain ⟨a,h1,h2⟩:=hma i hi
  rw [gt_at (join_at h1 (hIa i hi)),← h2,app_get,h2,idR_get hj']
 have hrow:∀ r ∈ joinR m I,∃ i,i < d∧(joinR m I)[i]? = some r:=fun r hr=>by
  obtain ⟨i,hi⟩:=List.mem_iff_getElem?.1 hr
  exact ⟨i,by have:=(List.getElem?_eq_some_iff.1 hi).1;omega,hi⟩
 have hE:=EI.start (d:=d) (w:=d + d) (Lp:=LpI d (gt m)) (R:=joinR m I) hjl (fun r hr=>by
   obtain ⟨i,hi,h⟩:=hrow r hr
   obtain ⟨a,h1,h2⟩:=hma i hi
   rw [join_at h1 (hIa i hi)] at h
   cases h
   rw [List.length_append,h2,idR_len]) (fun r hr k hk=>by
   obtain ⟨i,hi,h⟩:=hrow r hr
   rw [← gt_at h,hjg1 i k hi hk,dsum_one (n:=d) (f:=fun j=>gm (r.getD (d + j) 0) (gt m j k)) (j:=i) hi (fun j hj' hji=>by
    show gm (r.getD (d + j) 0) (gt m j k)=0
    rw [← gt_at h,hjg2 i j hi hj',if_neg (fun e=>hji e.symm),zero_gm])]
   show gt m i k=gm (r.getD (d + i) 0) (gt m i k)
   rw [← gt_at h,hjg2 i i hi hi,if_pos rfl,one_gm])
 have hA2:∀ x:Nat->UInt8,(∀ i,i < d->dsum d (fun k=>gm (gt (joinR m I) i k) (x k))=0)->∀ k,k < d->x k=0:=fun x hx=>hA x fun i hi=>by
  rw [← hx i hi]
  exact dsum_congr fun k hk=>by rw [hjg1 i k hi hk]
 obtain ⟨q',R',pv,hre,hE',hpv⟩:=reduce_ok (F:=F) (d:=d) (w:=d + d) hF (by omega) (by omega) (by omega) hE hA2 (fun f r _ h=>h.scale f) (fun f r s h1 h2 h3 h4=>LpI.add f h1 h2 h3 h4) (UInt8.ofNat 1)
 have hli:=hE'.inv
 have hRl:=hE'.len
 have hel:T171 F m I=some (q',R',pv):=by
  simp only [T171,T171c,hj,hc,hre,Option.bind_some]
 have hpl:¬ (pv.length:Int) < (m.length:Int):=by omega
 have hgm:=gmaken ([]:List UInt8) (n:=m.length) (by omega)
 obtain ⟨r,r1,r2,_,r4⟩:=fill_loop (N:=d) (f:=fun s:Int×List (List UInt8)=>L160_2 F m (R'.length:Int) R' s.1 s.2) (g:=fun n _=>(R'.getD n []).drop d) (by omega)
  (fun n l h1 h2=>by
   have hn:n < d:=by omega
   have hc1:((n:Nat):Int) < (R'.length:Int):=by omega
   have hi:inb R'.length (n:Int)=some n:=inbn (by omega)
   have hg:=getD_at (R:=R') (i:=n) (by omega)
   have hwn:=hE'.wid _ (getD_mem (R:=R') (i:=n) (by omega))
   generalize R'.getD n []=x at hg hwn
   have hs:gsl x (m.length:Int) (x.length:Int)=some (x.drop d):=by rw [hm];exact gsl_hi (by omega)
   have hga:gapp ([]:List UInt8) (x.drop d)=some (x.drop d):=by rw [gappn (by simp;omega)];rfl
   have hb2:inb l.length (n:Int)=some n:=inbn h1
   simp only [L160_2,L160_2c,hc1,decide_true,cond_true,hi,hg,hs,hga,hb2,Option.bind_some,w64n (show n < 9223372036854775807 by omega)])
  (fun l hl=>by
   have hc1:¬ ((d:Nat):Int) < (R'.length:Int):=by omega
   simp only [L160_2,L160_2c,hc1,decide_false,cond_false])
  d 0 F (List.replicate m.length []) (by omega) (by simp [hm]) (by omega)
 have r1:iter (fun s:Int×List (List UInt8)=>L160_2 F m (R'.length:Int) R' s.1 s.2) F ((0:Int),List.replicate m.length [])=some r:=r1
 have hra:∀ i,i < d->r[i]? = some ((R'.getD i []).drop d):=fun i hi=>by
  rw [List.getElem?_eq_getElem (by omega),r4 i (by omega) (by simp;omega) (by omega)]
 have hid2:T172 F (m.length:Int)=some I:=by rw [hm];exact hid
 refine ⟨r,?_,r2,fun b hb=>?_,fun i k hi hk=>?_⟩
 ·simp only [T160,T160c,hv,hc,hml,hid2,hel,hpl,hgm,r1,Option.bind_some,Bool.not_true,cond_false,decide_false]
 ·obtain ⟨i,hi⟩:=List.mem_iff_getElem?.1 hb
  have hid':i < d:=by have:=(List.getElem?_eq_some_iff.1 hi).1;omega
  rw [hra i hid'] at hi
  cases hi
  rw [List.length_drop,hE'.wid _ (getD_mem (by omega))];omega
 ·rw [← hli i k hi hk]
  refine dsum_congr fun j hj'=>?_
  rw [gt_at (hra i hi)]
  show gm (((R'.getD i []).drop d).getD j 0) _=gm ((R'.getD i []).getD (d + j) 0) _
  congr 1
  rw [List.getD_eq_getElem?_getD (l:=(R'.getD i []).drop d),List.getD_eq_getElem?_getD (l:=R'.getD i []),List.getElem?_drop]
def pcs (d len:Nat) (is:List Nat) (xs:List (List UInt8)):List (List UInt8):=is.map fun i=>comb (rowD d i) xs (List.replicate len 0)
theorem rowD_get {d i k:Nat} (hk:k < d):(rowD d i).getD k 0=cell d i k:=by
 unfold rowD
 rw [List.getD_eq_getElem?_getD,List.getElem?_map,List.getElem?_range hk];rfl
theorem gt_rows {d:Nat} {is:List Nat} {j k:Nat} (hj:j < is.length) (hk:k < d):gt (is.map (rowD d)) j k=cell d (is.getD j 0) k:=by
 have:(is.map (rowD d))[j]? = some (rowD d (is.getD j 0)):=by
  rw [List.getElem?_map,List.getElem?_eq_getElem hj];simp [hj]
 rw [gt_at this,rowD_get hk]
theorem rows_ind {d:Nat} {is:List Nat} (hl:is.length=d) (hn:is.Nodup) (hb:∀ i ∈ is,i < 16) (hd:d≤8):∀ x:Nat->UInt8,(∀ i,i < d->dsum d (fun k=>gm (gt (is.map (rowD d)) i k) (x k))=0)->∀ k,k < d->x k=0:=fun x hx=>
 mds hl hn (fun i hi=>by have:=hb i hi;omega) (by omega) fun i hi=>by
  obtain ⟨j,hj⟩:=List.mem_iff_getElem?.1 hi
  have hjl:=(List.getElem?_eq_some_iff.1 hj).1
  have:=hx j (by omega)
  rw [← this]
  refine dsum_congr fun k hk=>?_
  rw [gt_rows hjl hk,List.getD_eq_getElem?_getD,hj];rfl
theorem inv_comb {d len:Nat} {is:List Nat} {B:List (List UInt8)} {xs:List (List UInt8)} (hl:is.length=d) (hB:B.length=d) (hBw:∀ b ∈ B,b.length=d) (hLI:LI d (gt B) (gt (is.map (rowD d)))) (hx:xs.length=d) (hxl:∀ x ∈ xs,x.length=len) :
  (B.map fun b=>comb b (pcs d len is xs) (List.replicate len 0))=xs:=by
 have hpl:(pcs d len is xs).length=d:=by simp [pcs,hl]
 have hzl:(List.replicate len (0:UInt8)).length=len:=by simp
 have hpw:∀ p ∈ pcs d len is xs,p.length=(List.replicate len (0:UInt8)).length:=fun p hp=>by
  obtain ⟨i,_,rfl⟩:=List.mem_map.1 hp
  exact comb_len fun b hb=>by rw [hxl b hb,hzl]
 have hz0:∀ t,(List.replicate len (0:UInt8)).getD t 0=0:=fun t=>by
  rw [List.getD_eq_getElem?_getD,List.getElem?_replicate];split<;>rfl
 apply List.ext_getElem
 ·simp [hB,hx]
 ·intro i h1 h2
  have hi:i < d:=by omega
  rw [List.getElem_map]
  have hBi:B[i]'(by omega)=B.getD i []:=by simp [show i < B.length by omega]
  have hbl:=hBw _ (List.getElem_mem (h:=(by omega:i < B.length)))
  have hcl:(comb (B[i]'(by omega)) (pcs d len is xs) (List.replicate len 0)).length=len:=by rw [comb_len hpw,hzl]
  have hxi:(xs[i]).length=len:=hxl _ (List.getElem_mem _)
  apply List.ext_getElem
  ·omega
  ·intro t h3 h4
   have e1:∀ (l:List UInt8) (h:t < l.length),l[t]=l.getD t 0:=fun l h=>by simp [h]
   rw [e1 _ h3,e1 _ h4,comb_gd (by rw [hbl,hpl]) hpw,hz0,zx,hpl,hBi]
   have hs:=hLI.solve (p:=fun j=>((pcs d len is xs).getD j []).getD t 0) (x:=fun k=>(xs.getD k []).getD t 0) (fun j hj=>by
    have:(pcs d len is xs)[j]? = some (comb (rowD d (is.getD j 0)) xs (List.replicate len 0)):=by
     unfold pcs
     rw [List.getElem?_map,List.getElem?_eq_getElem (by omega)];simp [show j < is.length by omega]
    show ((pcs d len is xs).getD j []).getD t 0=_
    rw [List.getD_eq_getElem?_getD (l:=pcs d len is xs),this,Option.getD_some,comb_gd (by rw [rowD_len,hx]) (fun b hb=>by rw [hxl b hb,hzl]),hz0,zx,hx]
    exact dsum_congr fun k hk=>by rw [gt_rows (by omega) hk,rowD_get hk]) hi
   have:xs[i]=xs.getD i []:=by simp [h2]
   rw [this]
   exact hs
abbrev Rf:=List UInt8×Int×Int×Unit
def vR (r:Rf):Bool:=decide ((r.1.length:Int)=32∧0≤r.2.1∧0≤r.2.2.1∧r.2.2.1≤32768)
def vF:List (List UInt8)->List Rf->Bool
 | _,[]=>true
 | seen,r :: rs=>vR r && (!seen.contains r.1 && vF (seen ++ [r.1]) rs)
def vRs (refs:List Rf):Bool:=vF [] refs
theorem keqS_ne {z x:List UInt8} (h:z ≠ x):keq .s z x=false:=by show (z == x)=false;simpa using h
theorem keqS_self (z:List UInt8):keq .s z z=true:=by show (z == z)=true;simp
theorem mgt_mptS {β:Type}:∀ (l:List (List UInt8×β)) (x:List UInt8) (y:β) (z:List UInt8),mgt .s (mpt .s l x y) z=if z=x then some y else mgt .s l z
 | [],x,y,z=>by
  by_cases h:z=x
  ·subst h;simp only [mpt,mgt,keqS_self,cond_true,if_true]
  ·simp only [mpt,mgt,keqS_ne h,cond_false,if_neg h]
 | e :: l,x,y,z=>by
  have ih:=mgt_mptS l x y z
  by_cases hx:x=e.1
  ·subst hx
   by_cases h:z=e.1
   ·subst h;simp only [mpt,mgt,keqS_self,cond_true,if_true]
   ·simp only [mpt,mgt,keqS_self,keqS_ne h,cond_true,cond_false,if_neg h]
  ·simp only [mpt,keqS_ne hx,cond_false,mgt]
   by_cases h:z=e.1
   ·subst h
    have:¬ e.1=x:=fun h=>hx h.symm
    simp only [keqS_self,cond_true,if_neg this]
   ·simp only [keqS_ne h,cond_false];exact ih
def nms (l:List Rf):List (List UInt8):=l.map (·.1)
theorem drop_at {α:Type} {l:List α} {k:Nat} {x:α} (h:l[k]? = some x):l.drop k=x :: l.drop (k + 1):=by
 obtain ⟨h1,h2⟩:=List.getElem?_eq_some_iff.1 h
 rw [List.drop_eq_getElem_cons h1,h2]
theorem takeS {α:Type} {l:List α} {k:Nat} {x:α} (h:l[k]? = some x):l.take (k + 1)=l.take k ++ [x]:=by
 rw [List.take_add_one,h];rfl
theorem valid30 {F:Nat} {refs:List Rf} (hl:refs.length≤1000) (hF:2000 < F):T36 F refs=some (vRs refs):=by
 obtain ⟨z,hz,hQ⟩:=iter1 (f:=fun s:Int×List (List UInt8×Bool)=>L36_2 F refs (refs.length:Int) s.1 s.2)
  (fun s=>∃ k:Nat,s.1=(k:Int)∧k≤refs.length∧(∀ x,mgd .s s.2 x false=(nms (refs.take k)).contains x)∧vF (nms (refs.take k)) (refs.drop k)=vRs refs)
  (fun z=>match z with | .inl _=>vRs refs=true | .inr b=>b=vRs refs) (fun s=>refs.length - s.1.toNat) (fun s hs=>by
   obtain ⟨k,e,hk,hm,hv⟩:=hs
   obtain ⟨s1,m⟩:=s
   simp only at e hm
   subst e
   rcases Nat.lt_or_ge k refs.length with hlt | hge
   ·have hr:refs[k]? = some refs[k]:=List.getElem?_eq_getElem hlt
    have hc1:((k:Nat):Int) < (refs.length:Int):=by omega
    have hix:=ixn hr
    have hw:w64 (((k:Nat):Int) + 1)=((k + 1:Nat):Int):=w64n (by omega)
    generalize refs[k]=r at hr hix
    rw [drop_at hr] at hv
    simp only [vF] at hv
    have hmr:=hm r.1
    by_cases hvr:vR r=true
    ·have hd:=of_decide_eq_true hvr
     obtain ⟨q1,q2,q3,q4⟩:=hd
     have e1:((r.1.length:Int) != 32)=false:=by simpa using q1
     have e2:¬ r.2.1 < 0:=by omega
     have e3:¬ r.2.2.1 < 0:=by omega
     have e4:¬ (32768:Int) < r.2.2.1:=by omega
     cases hcn:(nms (refs.take k)).contains r.1 with
     | true=>
      rw [hcn] at hmr
      rw [hvr,hcn] at hv
      refine .inr ⟨.inr false,?_,by rw [← hv];rfl⟩
      simp only [L36_2,L36_2c,hc1,decide_true,cond_true,hix,Option.bind_some,e1,e2,e3,e4,decide_false,cond_false,hmr]
     | false=>
      rw [hcn] at hmr
      rw [hvr,hcn] at hv
      refine .inl ⟨(((k + 1:Nat):Int),mpt .s m r.1 true),?_,⟨k + 1,rfl,by omega,fun x=>?_,?_⟩,?_⟩
      ·simp only [L36_2,L36_2c,hc1,decide_true,cond_true,hix,Option.bind_some,e1,e2,e3,e4,decide_false,cond_false,hmr,hw]
      ·have hmx:=hm x
       unfold mgd at hmx ⊢
       rw [mgt_mptS,takeS hr]
       by_cases hx:x=r.1
       ·subst hx;simp [nms]
       ·rw [if_neg hx,hmx]
        simp [nms,hx]
      ·rw [takeS hr]
       have:nms (refs.take k ++ [r])=nms (refs.take k) ++ [r.1]:=by simp [nms]
       rw [this];simpa using hv
      ·simp only [Int.toNat_natCast];omega
    ·have hvr:vR r=false:=by simpa using hvr
     rw [hvr] at hv
     refine .inr ⟨.inr false,?_,by rw [← hv];rfl⟩
     have hd:=of_decide_eq_false hvr
     simp only [L36_2,L36_2c,hc1,decide_true,cond_true,hix,Option.bind_some]
     by_cases q1:(r.1.length:Int)=32
     ·have e1:((r.1.length:Int) != 32)=false:=by simpa using q1
      simp only [e1,cond_false]
      by_cases e2:r.2.1 < 0
      ·simp only [e2,decide_true,cond_true]
      ·simp only [e2,decide_false,cond_false]
       by_cases e3:r.2.2.1 < 0
       ·simp only [e3,decide_true,cond_true]
       ·simp only [e3,decide_false,cond_false]
        by_cases e4:(32768:Int) < r.2.2.1
        ·simp only [e4,decide_true,cond_true]
        ·exact absurd ⟨q1,by omega,by omega,by omega⟩ hd
     ·have e1:((r.1.length:Int) != 32)=true:=by simpa using q1
      simp only [e1,cond_true]
   ·have hkl:k=refs.length:=by omega
    subst hkl
    rw [List.take_length,List.drop_length] at hv
    refine .inr ⟨.inl (),?_,by rw [← hv];rfl⟩
    simp [L36_2,L36_2c])
  F ((0:Int),([]:List (List UInt8×Bool))) ⟨0,rfl,by omega,fun x=>rfl,rfl⟩ (by simp;omega)
 simp only [T36,T36c]
 rw [hz]
 cases z with
 | inl u=>have hQ:vRs refs=true:=hQ;rw [hQ];rfl
 | inr b=>have hQ:b=vRs refs:=hQ;rw [← hQ];rfl
theorem t32 (F:Nat) (r:Rf):T79 F r.1 r.2.1 r.2.2.1=some (vR r):=by
 simp only [T79,T79c,vR]
 by_cases q1:(r.1.length:Int)=32
 ·have e1:((r.1.length:Int) == 32)=true:=by simpa using q1
  by_cases q2:0≤r.2.1<;>by_cases q3:0≤r.2.2.1<;>simp [e1,q1,q2,q3]
 ·have e1:((r.1.length:Int) == 32)=false:=by simpa using q1
  simp [e1,q1]
theorem inner11 {F:Nat} {refs:List Rf} (hl:refs.length≤1000) (hF:2000 < F) {i:Nat} (hi:i≤refs.length) (s:List UInt8):∃ z,iter (fun k:Int=>L41_4 F refs (i:Int) s k) F (0:Int)=some z∧(match z with | .inl _=>(nms (refs.take i)).contains s=false | .inr b=>b=false∧(nms (refs.take i)).contains s=true):=by
 exact iter1 (f:=fun k:Int=>L41_4 F refs (i:Int) s k)
  (fun z=>∃ k:Nat,z=(k:Int)∧k≤i∧(nms (refs.take k)).contains s=false)
  _ (fun z=>i - z.toNat) (fun z hs=>by
   obtain ⟨k,e,hk,hc⟩:=hs
   subst e
   rcases Nat.lt_or_ge k i with hlt | hge
   ·have hr:refs[k]? = some (refs[k]'(by omega)):=List.getElem?_eq_getElem (by omega)
    have hc1:((k:Nat):Int) < ((i:Nat):Int):=by omega
    have hix:=ixn hr
    have hw:w64 (((k:Nat):Int) + 1)=((k + 1:Nat):Int):=w64n (by omega)
    generalize refs[k]'(by omega)=r at hr hix
    by_cases hs:r.1=s
    ·refine .inr ⟨.inr false,?_,rfl,?_⟩
     ·have:(r.1 == s)=true:=by simpa using hs
      simp only [L41_4,L41_4c,hc1,decide_true,cond_true,hix,Option.bind_some,this]
     ·have:r ∈ refs.take i:=by
       have h2:(refs.take i)[k]? = some r:=by rw [List.getElem?_take,if_pos hlt];exact hr
       exact List.mem_of_getElem? h2
      simp only [nms,List.contains_eq_mem,List.mem_map,decide_eq_true_eq]
      exact ⟨r,this,hs⟩
    ·refine .inl ⟨((k + 1:Nat):Int),?_,⟨k + 1,rfl,by omega,?_⟩,?_⟩
     ·have:(r.1 == s)=false:=by simpa using hs
      simp only [L41_4,L41_4c,hc1,decide_true,cond_true,hix,Option.bind_some,this,cond_false,hw]
     ·rw [takeS hr]
      simp only [nms,List.map_append,List.contains_eq_mem,decide_eq_false_iff_not] at hc ⊢
      simp only [List.mem_append,List.map_cons,List.map_nil,List.mem_singleton,not_or]
      exact ⟨hc,fun e=>hs e.symm⟩
     ·simp only [Int.toNat_natCast];omega
   ·have hki:k=i:=by omega
    subst hki
    refine .inr ⟨.inl (),?_,hc⟩
    simp [L41_4,L41_4c])
  F (0:Int) ⟨0,rfl,by omega,rfl⟩ (by simp;omega)
theorem valid11 {F:Nat} {refs:List Rf} (hl:refs.length≤1000) (hF:2000 < F):T41 F refs=some (vRs refs):=by
 obtain ⟨z,hz,hQ⟩:=iter1 (f:=fun s:Int=>L41_3 F refs refs (refs.length:Int) s)
  (fun s=>∃ k:Nat,s=(k:Int)∧k≤refs.length∧vF (nms (refs.take k)) (refs.drop k)=vRs refs)
  (fun z=>match z with | .inl _=>vRs refs=true | .inr b=>b=vRs refs) (fun s=>refs.length - s.toNat) (fun s hs=>by
   obtain ⟨k,e,hk,hv⟩:=hs
   subst e
   rcases Nat.lt_or_ge k refs.length with hlt | hge
   ·have hr:refs[k]? = some refs[k]:=List.getElem?_eq_getElem hlt
    have hc1:((k:Nat):Int) < (refs.length:Int):=by omega
    have hix:=ixn hr
    have hw:w64 (((k:Nat):Int) + 1)=((k + 1:Nat):Int):=w64n (by omega)
    generalize refs[k]=r at hr hix
    rw [drop_at hr] at hv
    simp only [vF] at hv
    have ht:=t32 F r
    cases hvr:vR r with
    | false=>
     rw [hvr] at hv ht
     refine .inr ⟨.inr false,?_,by rw [← hv];rfl⟩
     simp only [L41_3,L41_3c,hc1,decide_true,cond_true,hix,Option.bind_some,ht,Bool.not_false]
    | true=>
     rw [hvr] at hv ht
     obtain ⟨y,hy,hyQ⟩:=inner11 hl hF (i:=k) (by omega) r.1
     cases y with
     | inr b=>
      obtain ⟨rfl,hcn⟩:=hyQ
      rw [hcn] at hv
      refine .inr ⟨.inr false,?_,by rw [← hv];rfl⟩
      simp only [L41_3,L41_3c,hc1,decide_true,cond_true,hix,Option.bind_some,ht,Bool.not_true,cond_false,hy,elimS]
     | inl u=>
      have hcn:(nms (refs.take k)).contains r.1=false:=hyQ
      rw [hcn] at hv
      refine .inl ⟨((k + 1:Nat):Int),?_,⟨k + 1,rfl,by omega,?_⟩,?_⟩
      ·simp only [L41_3,L41_3c,hc1,decide_true,cond_true,hix,Option.bind_some,ht,Bool.not_true,cond_false,hy,elimS,hw]
      ·rw [takeS hr]
       have:nms (refs.take k ++ [r])=nms (refs.take k) ++ [r.1]:=by simp [nms]
       rw [this];simpa using hv
      ·simp only [Int.toNat_natCast];omega
   ·have hkl:k=refs.length:=by omega
    subst hkl
    rw [List.take_length,List.drop_length] at hv
    refine .inr ⟨.inl (),?_,by rw [← hv];rfl⟩
    simp [L41_3,L41_3c])
  F (0:Int) ⟨0,rfl,by omega,rfl⟩ (by simp;omega)
 simp only [T41,T41c]
 rw [hz]
 cases z with
 | inl u=>have hQ:vRs refs=true:=hQ;rw [hQ];rfl
 | inr b=>have hQ:b=vRs refs:=hQ;rw [← hQ];rfl
theorem vF_all:∀ {seen:List (List UInt8)} {refs:List Rf},vF seen refs=true->∀ r ∈ refs,vR r=true
 | _,[],_,r,h=>by simp at h
 | seen,x :: refs,h,r,hr=>by
  simp only [vF,Bool.and_eq_true] at h
  rcases List.mem_cons.1 hr with rfl | hr
  ·exact h.1
  ·exact vF_all h.2.2 r hr
theorem vRs_size {refs:List Rf} (h:vRs refs=true):∀ r ∈ refs,0≤r.2.2.1∧r.2.2.1≤32768:=fun r hr=>by
 have:=of_decide_eq_true (vF_all h r hr)
 exact ⟨this.2.2.1,this.2.2.2⟩
end Go.Proofs.YtpnhgldpeiogbaaGreatDoor
