/- The functions, each with its twin, and plain facts about them. -/
import Derived.Test.YtpnhgldpeiogbaaGreatDoorH1
namespace Go.Proofs.YtpnhgldpeiogbaaGreatDoor
open Go.Tw
set_option linter.unusedSimpArgs false
set_option linter.unusedVariables false
def ord129:Nat->List (Tag×Nat)
 | 6=>[(.p,0),(.p,1),(.p,2),(.p,3),(.p,4),(.r,5),(.p,6),(.p,7),(.p,8),(.p,9),(.p,10),(.p,11),(.p,12),(.r,13),(.p,14),(.p,15),(.p,16),(.p,17),(.p,18),(.p,19),(.p,20),(.p,21),(.r,22),(.p,23),(.p,24),(.p,25),(.p,26),(.p,27),(.p,28),(.p,29),(.p,30),(.r,31),(.p,32),(.p,33),(.p,34),(.w,35)]
 | 10=>[(.p,0),(.p,1),(.p,2),(.r,3),(.p,5),(.p,6),(.p,7),(.c,8),(.p,11),(.p,12),(.p,13),(.c,14),(.p,15),(.w,4),(.w,9),(.p,10),(.p,16),(.p,17)]
 | 11=>[(.p,0),(.p,1),(.p,2),(.r,3),(.p,5),(.p,6),(.p,7),(.c,8),(.p,11),(.p,12),(.p,13),(.c,14),(.p,15),(.w,4),(.w,9),(.p,10),(.p,16),(.p,17)]
 | 12=>[(.p,0),(.p,1),(.p,2),(.p,3),(.p,4),(.r,5),(.p,6),(.p,7),(.p,8),(.p,9),(.p,10),(.p,11),(.r,12),(.p,13),(.p,14),(.w,15)]
 | 17=>[(.p,0),(.r,1),(.p,2),(.r,3),(.p,4),(.r,5),(.p,6),(.r,7),(.p,8),(.r,9),(.p,10),(.r,11),(.p,12),(.p,13),(.p,14),(.p,15),(.p,16),(.p,17)]
 | 18=>[(.p,0),(.c,1),(.p,2),(.p,4),(.p,7),(.p,11),(.p,12),(.p,13),(.p,14),(.p,15),(.p,16),(.p,17),(.p,18),(.p,20),(.p,21),(.c,22),(.p,24),(.p,25),(.c,26),(.w,3),(.w,5),(.p,6),(.w,8),(.p,9),(.p,10),(.p,19),(.p,23),(.p,27),(.p,28)]
 | 24=>[(.p,0),(.p,1),(.r,2),(.p,3),(.p,4),(.r,5),(.p,6),(.p,7),(.w,8)]
 | _=>[]
def E129 (F:Nat):Ev:=⟨cfg,208,ctOf [(157,ct157 F),(158,ct158 F)],ord129,ctOf [],fun _=>none,fun _=>none⟩
theorem cts129 (F:Nat):CtsOk Tryz.prog (E129 F):=cts_of (l:=[(157,ct157 F),(158,ct158 F)]) (l':=[]) rfl rfl ⟨⟨ok157 F,_,Tryz.func157,rfl,rfl⟩,⟨⟨ok158 F,_,Tryz.func158,rfl,rfl⟩,trivial⟩⟩ trivial
def L129_5c (F:Nat) (y126:List UInt8) (y127:Int) (y131:Vector UInt32 64) {β:Type} (kA:(Int×Zi)->Option β) (kO:(Zi)->Option β):Option β:=
 (bif (decide (y127 < (16:Int))) then (Option.bind (ix y126 (w64 ((4:Int) * y127))) fun x137=>(Option.bind (ix y126 (w64 ((w64 ((4:Int) * y127)) + (1:Int)))) fun x138=>(Option.bind (ix y126 (w64 ((w64 ((4:Int) * y127)) + (2:Int)))) fun x139=>(Option.bind (ix y126 (w64 ((w64 ((4:Int) * y127)) + (3:Int)))) fun x140=>(Option.bind (inb 64 y127) fun x141=>(kA ((w64 (y127 + (1:Int))),(Vector.setIfInBounds y131 x141 ((((shl32 (x137.toUInt32) ((UInt64.ofNat 24).toNat)) ||| (shl32 (x138.toUInt32) ((UInt64.ofNat 16).toNat))) ||| (shl32 (x139.toUInt32) ((UInt64.ofNat 8).toNat))) ||| (x140.toUInt32)))))))))) else (kO y131))
def L129_5 (F:Nat) (y126:List UInt8) (y127:Int) (y131:Vector UInt32 64):=L129_5c F y126 y127 y131 (fun s=>some (Sum.inl s)) (fun z=>some (Sum.inr z))
def lc129_5 (F:Nat):Lc:=mkL [1,2,4,5,6,7] [(.ro .u8),(.pt 0 []),(.pt 1 []),(.pt 2 []),(.pt 3 []),.i] [.blk 174 (.ar 8 .u32),.blk 174 (.ar 8 .u32),.blk 200 (.ar 64 .u32),.blk 200 (.ar 64 .u32)] [2,4,5,6] [(.pt 0 []),(.pt 1 []),(.pt 2 []),(.pt 3 [])] [.blk 174 (.ar 8 .u32),.blk 174 (.ar 8 .u32),.blk 200 (.ar 64 .u32),.blk 200 (.ar 64 .u32)] F (fun x y (s:Int×Zi)=>L129_5 F x.1 s.1 s.2) (fun x y=>(x.2.2.2.2.2.1,y.2.2.2.1)) (fun x y (z:Zi)=>(((),(),(),(),()),(y.1,y.2.1,y.2.2.1,z,())))
theorem lo129_5 (F:Nat):LcOk Tryz.prog (E129 F) 0 (lc129_5 F) (cAt (bodyOf Tryz.f129) [1,0,1,1,1]):=
 mkL_ok (lp:=[]) (id:=0) (b:=cAt (bodyOf Tryz.f129) (0 :: 0 :: [1,0,1,1,1])) cok (cts129 F) mixed trivial (by kernel_rfl) (by kernel_rfl) (fun x y s=>(x.1,(),(),(),(),s.1,())) (fun x y s=>(y.1,y.2.1,y.2.2.1,s.2,())) (fun x y=>rfl) (fun x y=>rfl) (fun x y s kA kO=>L129_5c F x.1 s.1 s.2 kA kO) (fun _ _ _ _ _=>by simp only [L129_5,L129_5c,oA,oC,oS,oN,elimS_l,elimS_r,elimS_bind]) (fun _ _ _=>by kernel_rfl)
def L129_6c (F:Nat) (y143:Int) (y147:Vector UInt32 64) {β:Type} (kA:(Int×Zi)->Option β) (kO:(Zi)->Option β):Option β:=
 (bif (decide (y143 < (64:Int))) then (Option.bind (inb 64 (w64 (y143 - (15:Int)))) fun x169=>(Option.bind (vat y147 x169) fun x170=>(Option.bind (inb 64 (w64 (y143 - (15:Int)))) fun x171=>(Option.bind (vat y147 x171) fun x172=>(Option.bind (inb 64 (w64 (y143 - (15:Int)))) fun x173=>(Option.bind (vat y147 x173) fun x174=>(Option.bind (T158 F x170 (7:Int)) fun z175=>(Option.bind (T158 F x172 (18:Int)) fun z176=>(Option.bind (inb 64 (w64 (y143 - (2:Int)))) fun x177=>(Option.bind (vat y147 x177) fun x178=>(Option.bind (inb 64 (w64 (y143 - (2:Int)))) fun x179=>(Option.bind (vat y147 x179) fun x180=>(Option.bind (inb 64 (w64 (y143 - (2:Int)))) fun x181=>(Option.bind (vat y147 x181) fun x182=>(Option.bind (T158 F x178 (17:Int)) fun z183=>(Option.bind (T158 F x180 (19:Int)) fun z184=>(Option.bind (inb 64 (w64 (y143 - (7:Int)))) fun x185=>(Option.bind (vat y147 x185) fun x186=>(Option.bind (inb 64 (w64 (y143 - (16:Int)))) fun x187=>(Option.bind (vat y147 x187) fun x188=>(Option.bind (inb 64 y143) fun x189=>(kA ((w64 (y143 + (1:Int))),(Vector.setIfInBounds y147 x189 (((((z183 ^^^ z184) ^^^ (shr32 x182 ((UInt64.ofNat 10).toNat))) + x186) + ((z175 ^^^ z176) ^^^ (shr32 x174 ((UInt64.ofNat 3).toNat)))) + x188))))))))))))))))))))))))) else (kO y147))
def L129_6 (F:Nat) (y143:Int) (y147:Vector UInt32 64):=L129_6c F y143 y147 (fun s=>some (Sum.inl s)) (fun z=>some (Sum.inr z))
def lc129_6 (F:Nat):Lc:=mkL [2,4,5,6,8] [(.pt 0 []),(.pt 1 []),(.pt 2 []),(.pt 3 []),.i] [.blk 174 (.ar 8 .u32),.blk 174 (.ar 8 .u32),.blk 200 (.ar 64 .u32),.blk 200 (.ar 64 .u32)] [2,4,5,6] [(.pt 0 []),(.pt 1 []),(.pt 2 []),(.pt 3 [])] [.blk 174 (.ar 8 .u32),.blk 174 (.ar 8 .u32),.blk 200 (.ar 64 .u32),.blk 200 (.ar 64 .u32)] F (fun x y (s:Int×Zi)=>L129_6 F s.1 s.2) (fun x y=>(x.2.2.2.2.1,y.2.2.2.1)) (fun x y (z:Zi)=>(((),(),(),(),()),(y.1,y.2.1,y.2.2.1,z,())))
theorem lo129_6 (F:Nat):LcOk Tryz.prog (E129 F) 0 (lc129_6 F) (cAt (bodyOf Tryz.f129) [1,0,1,1,1,1]):=
 mkL_ok (lp:=[]) (id:=2) (b:=cAt (bodyOf Tryz.f129) (0 :: 0 :: [1,0,1,1,1,1])) cok (cts129 F) mixed trivial (by kernel_rfl) (by kernel_rfl) (fun x y s=>((),(),(),(),s.1,())) (fun x y s=>(y.1,y.2.1,y.2.2.1,s.2,())) (fun x y=>rfl) (fun x y=>rfl) (fun x y s kA kO=>L129_6c F s.1 s.2 kA kO) (fun _ _ _ _ _=>by simp only [L129_6,L129_6c,oA,oC,oS,oN,elimS_l,elimS_r,elimS_bind]) (fun _ _ _=>by kernel_rfl)
def L129_7c (F:Nat) (y194:Vector UInt32 64) (y195:Vector UInt32 64) (y191:Int) (y196:Vector UInt32 8) {β:Type} (kA:(Int×Ze)->Option β) (kO:(Ze)->Option β):Option β:=
 (bif (decide (y191 < (64:Int))) then (Option.bind (vat y196 0) fun x215=>(Option.bind (vat y196 1) fun x216=>(Option.bind (vat y196 2) fun x217=>(Option.bind (vat y196 4) fun x218=>(Option.bind (vat y196 5) fun x219=>(Option.bind (vat y196 6) fun x220=>(Option.bind (vat y196 7) fun x221=>(Option.bind (inb 64 y191) fun x222=>(Option.bind (vat y194 x222) fun x223=>(Option.bind (inb 64 y191) fun x224=>(Option.bind (vat y195 x224) fun x225=>(Option.bind (T158 F x218 (6:Int)) fun z226=>(Option.bind (T158 F x218 (11:Int)) fun z227=>(Option.bind (T158 F x218 (25:Int)) fun z228=>(Option.bind (T158 F x215 (2:Int)) fun z229=>(Option.bind (T158 F x215 (13:Int)) fun z230=>(Option.bind (T158 F x215 (22:Int)) fun z231=>(Option.bind (vat y196 3) fun x232=>(kA ((w64 (y191 + (1:Int))),(#v[(((((x221 + ((z226 ^^^ z227) ^^^ z228)) + ((x218 &&& x219) ^^^ ((~~~x218) &&& x220))) + x223) + x225) + (((z229 ^^^ z230) ^^^ z231) + (((x215 &&& x216) ^^^ (x215 &&& x217)) ^^^ (x216 &&& x217)))),x215,x216,x217,(x232 + ((((x221 + ((z226 ^^^ z227) ^^^ z228)) + ((x218 &&& x219) ^^^ ((~~~x218) &&& x220))) + x223) + x225)),x218,x219,x220]:Vector UInt32 8))))))))))))))))))))) else (kO y196))
def L129_7 (F:Nat) (y194:Vector UInt32 64) (y195:Vector UInt32 64) (y191:Int) (y196:Vector UInt32 8):=L129_7c F y194 y195 y191 y196 (fun s=>some (Sum.inl s)) (fun z=>some (Sum.inr z))
def lc129_7 (F:Nat):Lc:=mkL [2,4,5,6,11,12] [(.pt 0 []),(.pt 1 []),(.pt 2 []),(.pt 3 []),(.pt 4 []),.i] [.blk 174 (.ar 8 .u32),.blk 174 (.ar 8 .u32),.blk 200 (.ar 64 .u32),.blk 200 (.ar 64 .u32),.blk 174 (.ar 8 .u32)] [2,4,11] [(.pt 0 []),(.pt 1 []),(.pt 2 [])] [.blk 174 (.ar 8 .u32),.blk 174 (.ar 8 .u32),.blk 174 (.ar 8 .u32)] F (fun x y (s:Int×Ze)=>L129_7 F y.2.2.1 y.2.2.2.1 s.1 s.2) (fun x y=>(x.2.2.2.2.2.1,y.2.2.2.2.1)) (fun x y (z:Ze)=>(((),(),(),()),(y.1,y.2.1,z,())))
theorem lo129_7 (F:Nat):LcOk Tryz.prog (E129 F) 0 (lc129_7 F) (cAt (bodyOf Tryz.f129) [1,0,1,1,1,1,1,1]):=
 mkL_ok (lp:=[]) (id:=4) (b:=cAt (bodyOf Tryz.f129) (0 :: 0 :: [1,0,1,1,1,1,1,1])) cok (cts129 F) mixed trivial (by kernel_rfl) (by kernel_rfl) (fun x y s=>((),(),(),(),(),s.1,())) (fun x y s=>(y.1,y.2.1,y.2.2.1,y.2.2.2.1,s.2,())) (fun x y=>rfl) (fun x y=>rfl) (fun x y s kA kO=>L129_7c F y.2.2.1 y.2.2.2.1 s.1 s.2 kA kO) (fun _ _ _ _ _=>by simp only [L129_7,L129_7c,oA,oC,oS,oN,elimS_l,elimS_r,elimS_bind]) (fun _ _ _=>by kernel_rfl)
def L129_8c (F:Nat) (y235:Vector UInt32 8) (y234:Int) (y237:Vector UInt32 8) {β:Type} (kA:(Int×Ze)->Option β) (kO:(Ze)->Option β):Option β:=
 (bif (decide (y234 < (8:Int))) then (Option.bind (inb 8 y234) fun x243=>(Option.bind (vat y237 x243) fun x244=>(Option.bind (inb 8 y234) fun x245=>(Option.bind (vat y235 x245) fun x246=>(Option.bind (inb 8 y234) fun x247=>(kA ((w64 (y234 + (1:Int))),(Vector.setIfInBounds y237 x247 (x244 + x246))))))))) else (kO y237))
def L129_8 (F:Nat) (y235:Vector UInt32 8) (y234:Int) (y237:Vector UInt32 8):=L129_8c F y235 y234 y237 (fun s=>some (Sum.inl s)) (fun z=>some (Sum.inr z))
def lc129_8 (F:Nat):Lc:=mkL [2,4,11,21] [(.pt 0 []),(.pt 1 []),(.pt 2 []),.i] [.blk 174 (.ar 8 .u32),.blk 174 (.ar 8 .u32),.blk 174 (.ar 8 .u32)] [4,11] [(.pt 0 []),(.pt 1 [])] [.blk 174 (.ar 8 .u32),.blk 174 (.ar 8 .u32)] F (fun x y (s:Int×Ze)=>L129_8 F y.1 s.1 s.2) (fun x y=>(x.2.2.2.1,y.2.2.1)) (fun x y (z:Ze)=>(((),(),()),(y.2.1,z,())))
theorem lo129_8 (F:Nat):LcOk Tryz.prog (E129 F) 0 (lc129_8 F) (cAt (bodyOf Tryz.f129) [1,0,1,1,1,1,1,1,1]):=
 mkL_ok (lp:=[]) (id:=6) (b:=cAt (bodyOf Tryz.f129) (0 :: 0 :: [1,0,1,1,1,1,1,1,1])) cok (cts129 F) mixed trivial (by kernel_rfl) (by kernel_rfl) (fun x y s=>((),(),(),s.1,())) (fun x y s=>(y.1,y.2.1,s.2,())) (fun x y=>rfl) (fun x y=>rfl) (fun x y s kA kO=>L129_8c F y.1 s.1 s.2 kA kO) (fun _ _ _ _ _=>by simp only [L129_8,L129_8c,oA,oC,oS,oN,elimS_l,elimS_r,elimS_bind]) (fun _ _ _=>by kernel_rfl)
def T129c (F:Nat) (p0:Vector UInt32 8) (p1:List UInt8) {β:Type} (k:(Ze)->Option β):Option β:=
 (Option.bind (T157 F) fun z125=>(Option.bind (iter (fun s=>L129_5 F p1 s.1 s.2) F ((0:Int),(Vector.replicate 64 (0:UInt32)))) fun z142=>(Option.bind (iter (fun s=>L129_6 F s.1 s.2) F ((16:Int),z142)) fun z190=>(Option.bind (iter (fun s=>L129_7 F z125 z190 s.1 s.2) F ((0:Int),p0)) fun z233=>(Option.bind (iter (fun s=>L129_8 F p0 s.1 s.2) F ((0:Int),z233)) fun z248=>(k z248))))))
def T129 (F:Nat) (p0:Vector UInt32 8) (p1:List UInt8):=T129c F p0 p1 some
def ct129 (F:Nat):Ct:=mkC 0 [(.ar 8 .u32),(.ro .u8)] [] [(.ar 8 .u32)] [] (fun x y=>T129 F x.1 x.2.1) (fun x y (z:Ze)=>((z,()),()))
theorem ok129 (F:Nat):Sound Tryz.prog cfg 129 (ct129 F):=
 mkC_ok (E:=E129 F) (lp:=[([1,0,1,1,1],lc129_5 F),([1,0,1,1,1,1],lc129_6 F),([1,0,1,1,1,1,1,1],lc129_7 F),([1,0,1,1,1,1,1,1,1],lc129_8 F)]) (code:=bodyOf Tryz.f129) Tryz.func129 rfl Tryz.ntmps129 rfl rfl cok (cts129 F) mixed ⟨lo129_5 F,⟨lo129_6 F,⟨lo129_7 F,⟨lo129_8 F,trivial⟩⟩⟩⟩ (by kernel_rfl) (fun x y k=>T129c F x.1 x.2.1 k) (fun _ _ _=>by simp only [T129,T129c,oA,oC,oS,oN,elimS_bind]) (fun _ _=>by kernel_rfl)
def ord89:Nat->List (Tag×Nat)
 | 6=>[(.r,0),(.p,1),(.p,2),(.p,3),(.p,4),(.p,5),(.w,6),(.w,7)]
 | 11=>[(.p,0),(.p,1),(.p,2),(.r,3),(.p,4),(.p,5),(.p,6),(.p,7),(.r,8),(.p,9),(.p,10),(.p,11),(.p,12),(.r,13),(.p,14),(.p,15),(.p,16),(.p,17),(.r,18),(.p,19),(.w,20),(.w,21),(.p,22)]
 | _=>[]
def E89 (F:Nat):Ev:=⟨cfg,53,ctOf [(128,ct128 F),(129,ct129 F)],ord89,ctOf [],fun _=>none,fun _=>none⟩
theorem cts89 (F:Nat):CtsOk Tryz.prog (E89 F):=cts_of (l:=[(128,ct128 F),(129,ct129 F)]) (l':=[]) rfl rfl ⟨⟨ok128 F,_,Tryz.func128,rfl,rfl⟩,⟨⟨ok129 F,_,Tryz.func129,rfl,rfl⟩,trivial⟩⟩ trivial
def L89_3c (F:Nat) (y35:List UInt8) (y33:Int) (y34:Vector UInt32 8) {β:Type} (kA:(Int×Ze)->Option β) (kO:(Ze)->Option β):Option β:=
 (bif (decide (y33 < (y35.length:Int))) then (Option.bind (gslb y35.length y33 (w64 (y33 + (64:Int)))) fun x38=>(Option.bind (T129 F y34 ((y35.drop x38.1).take (x38.2 - x38.1))) fun z39=>(kA ((w64 (y33 + (64:Int))),z39)))) else (kO y34))
def L89_3 (F:Nat) (y35:List UInt8) (y33:Int) (y34:Vector UInt32 8):=L89_3c F y35 y33 y34 (fun s=>some (Sum.inl s)) (fun z=>some (Sum.inr z))
def lc89_3 (F:Nat):Lc:=mkL [3,4,5] [(.pt 0 []),(.rw 1),.i] [.blk 174 (.ar 8 .u32),.row 5 .u8] [3] [(.pt 0 [])] [.blk 174 (.ar 8 .u32)] F (fun x y (s:Int×Ze)=>L89_3 F y.2.1 s.1 s.2) (fun x y=>(x.2.2.1,y.1)) (fun x y (z:Ze)=>(((),()),(z,())))
theorem lo89_3 (F:Nat):LcOk Tryz.prog (E89 F) 0 (lc89_3 F) (cAt (bodyOf Tryz.f89) [1,0,1,1,1]):=
 mkL_ok (lp:=[]) (id:=0) (b:=cAt (bodyOf Tryz.f89) (0 :: 0 :: [1,0,1,1,1])) cok (cts89 F) mixed trivial (by kernel_rfl) (by kernel_rfl) (fun x y s=>((),(),s.1,())) (fun x y s=>(s.2,y.2.1,())) (fun x y=>rfl) (fun x y=>rfl) (fun x y s kA kO=>L89_3c F y.2.1 s.1 s.2 kA kO) (fun _ _ _ _ _=>by simp only [L89_3,L89_3c,oA,oC,oS,oN,elimS_l,elimS_r,elimS_bind]) (fun _ _ _=>by kernel_rfl)
def L89_4c (F:Nat) (y42:Vector UInt32 8) (y41:Int) (y43:List UInt8) {β:Type} (kA:Zm->Option β) (kO:(Za)->Option β):Option β:=
 (bif (decide (y41 < (8:Int))) then (Option.bind (inb 8 y41) fun x53=>(Option.bind (vat y42 x53) fun x54=>(Option.bind (inb 8 y41) fun x55=>(Option.bind (vat y42 x55) fun x56=>(Option.bind (inb 8 y41) fun x57=>(Option.bind (vat y42 x57) fun x58=>(Option.bind (inb 8 y41) fun x59=>(Option.bind (vat y42 x59) fun x60=>(Option.bind (gapp y43 ([((shr32 x54 ((UInt64.ofNat 24).toNat)).toUInt8),((shr32 x56 ((UInt64.ofNat 16).toNat)).toUInt8),((shr32 x58 ((UInt64.ofNat 8).toNat)).toUInt8),(x60.toUInt8)]:List UInt8)) fun x61=>(kA ((w64 (y41 + (1:Int))),x61))))))))))) else (kO y43))
def L89_4 (F:Nat) (y42:Vector UInt32 8) (y41:Int) (y43:List UInt8):=L89_4c F y42 y41 y43 (fun s=>some (Sum.inl s)) (fun z=>some (Sum.inr z))
def lc89_4 (F:Nat):Lc:=mkL [3,6,7] [(.pt 0 []),(.rw 1),.i] [.blk 174 (.ar 8 .u32),.row 5 .u8] [6] [(.rw 0)] [.row 5 .u8] F (fun x y (s:Int×Za)=>L89_4 F y.1 s.1 s.2) (fun x y=>(x.2.2.1,y.2.1)) (fun x y (z:Za)=>(((),()),(z,())))
theorem lo89_4 (F:Nat):LcOk Tryz.prog (E89 F) 0 (lc89_4 F) (cAt (bodyOf Tryz.f89) [1,0,1,1,1,1,1]):=
 mkL_ok (lp:=[]) (id:=2) (b:=cAt (bodyOf Tryz.f89) (0 :: 0 :: [1,0,1,1,1,1,1])) cok (cts89 F) mixed trivial (by kernel_rfl) (by kernel_rfl) (fun x y s=>((),(),s.1,())) (fun x y s=>(y.1,s.2,())) (fun x y=>rfl) (fun x y=>rfl) (fun x y s kA kO=>L89_4c F y.1 s.1 s.2 kA kO) (fun _ _ _ _ _=>by simp only [L89_4,L89_4c,oA,oC,oS,oN,elimS_l,elimS_r,elimS_bind]) (fun _ _ _=>by kernel_rfl)
def T89c (F:Nat) (p0:List UInt8) {β:Type} (k:(Za)->Option β):Option β:=
 (Option.bind (T128 F p0) fun z32=>(Option.bind (iter (fun s=>L89_3 F z32 s.1 s.2) F ((0:Int),(#v[(UInt32.ofNat 1779033703),(UInt32.ofNat 3144134277),(UInt32.ofNat 1013904242),(UInt32.ofNat 2773480762),(UInt32.ofNat 1359893119),(UInt32.ofNat 2600822924),(UInt32.ofNat 528734635),(UInt32.ofNat 1541459225)]:Vector UInt32 8))) fun z40=>(Option.bind (iter (fun s=>L89_4 F z40 s.1 s.2) F ((0:Int),([]:List UInt8))) fun z62=>(k z62))))
def T89 (F:Nat) (p0:List UInt8):=T89c F p0 some
def ct89 (F:Nat):Ct:=mkC 0 [(.ro .u8)] [] [.str] [] (fun x y=>T89 F x.1) (fun x y (z:Za)=>((z,()),()))
theorem ok89 (F:Nat):Sound Tryz.prog cfg 89 (ct89 F):=
 mkC_ok (E:=E89 F) (lp:=[([1,0,1,1,1],lc89_3 F),([1,0,1,1,1,1,1],lc89_4 F)]) (code:=bodyOf Tryz.f89) Tryz.func89 rfl Tryz.ntmps89 rfl rfl cok (cts89 F) mixed ⟨lo89_3 F,⟨lo89_4 F,trivial⟩⟩ (by kernel_rfl) (fun x y k=>T89c F x.1 k) (fun _ _ _=>by simp only [T89,T89c,oA,oC,oS,oN,elimS_bind]) (fun _ _=>by kernel_rfl)
def E156 (F:Nat):Ev:=⟨cfg,7,ctOf [(89,ct89 F)],fun _=>[],ctOf [],fun _=>none,fun _=>none⟩
theorem cts156 (F:Nat):CtsOk Tryz.prog (E156 F):=cts_of (l:=[(89,ct89 F)]) (l':=[]) rfl rfl ⟨⟨ok89 F,_,Tryz.func89,rfl,rfl⟩,trivial⟩ trivial
def T156c (F:Nat) (p0:List UInt8) {β:Type} (k:(Za)->Option β):Option β:=
 (Option.bind (gapp ([(UInt8.ofNat 0)]:List UInt8) p0) fun x3=>(Option.bind (T89 F x3) fun z4=>(k z4)))
def T156 (F:Nat) (p0:List UInt8):=T156c F p0 some
def ct156 (F:Nat):Ct:=mkC 0 [(.ro .u8)] [] [.str] [] (fun x y=>T156 F x.1) (fun x y (z:Za)=>((z,()),()))
theorem ok156 (F:Nat):Sound Tryz.prog cfg 156 (ct156 F):=
 mkC_ok (E:=E156 F) (lp:=[]) (code:=bodyOf Tryz.f156) Tryz.func156 rfl Tryz.ntmps156 rfl rfl cok (cts156 F) mixed trivial (by kernel_rfl) (fun x y k=>T156c F x.1 k) (fun _ _ _=>by simp only [T156,T156c,oA,oC,oS,oN,elimS_bind]) (fun _ _=>by kernel_rfl)
def E127 (F:Nat):Ev:=⟨cfg,32,ctOf [(156,ct156 F)],fun _=>[],ctOf [],fun _=>none,fun _=>none⟩
theorem cts127 (F:Nat):CtsOk Tryz.prog (E127 F):=cts_of (l:=[(156,ct156 F)]) (l':=[]) rfl rfl ⟨⟨ok156 F,_,Tryz.func156,rfl,rfl⟩,trivial⟩ trivial
def L127_2c (F:Nat) (y14:Int) (y13:List UInt8) (y15:List Za) {β:Type} (kA:(Za×Zd)->Option β) (kO:(Zd)->Option β):Option β:=
 (bif (decide ((0:Int) < (y13.length:Int))) then (Option.bind (gsl y13 (0:Int) (if (y13.length:Int) < y14 then (y13.length:Int) else y14)) fun x20=>(Option.bind (T156 F x20) fun z21=>(Option.bind (gapp y15 ([z21]:List Za)) fun x22=>(Option.bind (gsl y13 (if (y13.length:Int) < y14 then (y13.length:Int) else y14) (y13.length:Int)) fun x23=>(kA (x23,x22)))))) else (kO y15))
def L127_2 (F:Nat) (y14:Int) (y13:List UInt8) (y15:List Za):=L127_2c F y14 y13 y15 (fun s=>some (Sum.inl s)) (fun z=>some (Sum.inr z))
def lc127_2 (F:Nat):Lc:=mkL [0,1,6] [(.ro .u8),.i,(.rw 0)] [.row 9 .s] [6] [(.rw 0)] [.row 9 .s] F (fun x y (s:Za×Zd)=>L127_2 F x.2.1 s.1 s.2) (fun x y=>(x.1,y.1)) (fun x y (z:Zd)=>(((),()),(z,())))
theorem lo127_2 (F:Nat):LcOk Tryz.prog (E127 F) 0 (lc127_2 F) (cAt (bodyOf Tryz.f127) [0,1,1,1,1]):=
 mkL_ok (lp:=[]) (id:=0) (b:=cAt (bodyOf Tryz.f127) (0 :: 0 :: [0,1,1,1,1])) cok (cts127 F) mixed trivial (by kernel_rfl) (by kernel_rfl) (fun x y s=>(s.1,x.2.1,(),())) (fun x y s=>(s.2,())) (fun x y=>rfl) (fun x y=>rfl) (fun x y s kA kO=>L127_2c F x.2.1 s.1 s.2 kA kO) (fun _ _ _ _ _=>by simp only [L127_2,L127_2c,oA,oC,oS,oN,elimS_l,elimS_r,elimS_bind]) (fun _ _ _=>by kernel_rfl)
def T127c (F:Nat) (p0:List UInt8) (p1:Int) {β:Type} (k:(Int×Zd)->Option β):Option β:=
 (bif (decide (p1 < (1:Int))) then (k ((1:Int),([]:List Za))) else (bif (decide ((1048576:Int) < (p0.length:Int))) then (k ((2:Int),([]:List Za))) else (Option.bind (iter (fun s=>L127_2 F p1 s.1 s.2) F (p0,([]:List Za))) fun z24=>(k ((0:Int),z24)))))
def T127 (F:Nat) (p0:List UInt8) (p1:Int):=T127c F p0 p1 some
def ct127 (F:Nat):Ct:=mkC 0 [(.ro .u8),.i] [] [(.rw 0),.i] [.row 9 .s] (fun x y=>T127 F x.1 x.2.1) (fun x y (z:Int×Zd)=>(((),z.1,()),(z.2,())))
theorem ok127 (F:Nat):Sound Tryz.prog cfg 127 (ct127 F):=
 mkC_ok (E:=E127 F) (lp:=[([0,1,1,1,1],lc127_2 F)]) (code:=bodyOf Tryz.f127) Tryz.func127 rfl Tryz.ntmps127 rfl rfl cok (cts127 F) mixed ⟨lo127_2 F,trivial⟩ (by kernel_rfl) (fun x y k=>T127c F x.1 x.2.1 k) (fun _ _ _=>by simp only [T127,T127c,oA,oC,oS,oN,elimS_bind]) (fun _ _=>by kernel_rfl)
def E90 (F:Nat):Ev:=⟨cfg,12,ctOf [],fun _=>[],ctOf [],fun _=>none,fun _=>none⟩
theorem cts90 (F:Nat):CtsOk Tryz.prog (E90 F):=cts_of (l:=[]) (l':=[]) rfl rfl trivial trivial
def L90_2c (F:Nat) (y4:Int) (y5:Int) {β:Type} (kA:Int->Option β) (kO:Int->Option β):Option β:=
 (bif (decide (y5 < (w64 (y4 - y5)))) then (kA (w64 (y5 * (2:Int)))) else (kO y5))
def L90_2 (F:Nat) (y4:Int) (y5:Int):=L90_2c F y4 y5 (fun s=>some (Sum.inl s)) (fun z=>some (Sum.inr z))
def lc90_2 (F:Nat):Lc:=mkL [0,3] [.i,.i] [] [3] [.i] [] F (fun x y (s:Int)=>L90_2 F x.1 s) (fun x y=>x.2.1) (fun x y (z:Int)=>((z,()),()))
theorem lo90_2 (F:Nat):LcOk Tryz.prog (E90 F) 0 (lc90_2 F) (cAt (bodyOf Tryz.f90) [0,1,1]):=
 mkL_ok (lp:=[]) (id:=0) (b:=cAt (bodyOf Tryz.f90) (0 :: 0 :: [0,1,1])) cok (cts90 F) mixed trivial (by kernel_rfl) (by kernel_rfl) (fun x y s=>(x.1,s,())) (fun x y s=>()) (fun x y=>rfl) (fun x y=>rfl) (fun x y s kA kO=>L90_2c F x.1 s kA kO) (fun _ _ _ _ _=>by simp only [L90_2,L90_2c,oA,oC,oS,oN,elimS_l,elimS_r,elimS_bind]) (fun _ _ _=>by kernel_rfl)
def T90c (F:Nat) (p0:Int) {β:Type} (k:Int->Option β):Option β:=
 (Option.bind (iter (fun s=>L90_2 F p0 s) F (1:Int)) fun z6=>(k z6))
def T90 (F:Nat) (p0:Int):=T90c F p0 some
def ct90 (F:Nat):Ct:=mkC 0 [.i] [] [.i] [] (fun x y=>T90 F x.1) (fun x y (z:Int)=>((z,()),()))
theorem ok90 (F:Nat):Sound Tryz.prog cfg 90 (ct90 F):=
 mkC_ok (E:=E90 F) (lp:=[([0,1,1],lc90_2 F)]) (code:=bodyOf Tryz.f90) Tryz.func90 rfl Tryz.ntmps90 rfl rfl cok (cts90 F) mixed ⟨lo90_2 F,trivial⟩ (by kernel_rfl) (fun x y k=>T90c F x.1 k) (fun _ _ _=>by simp only [T90,T90c,oA,oC,oS,oN,elimS_bind]) (fun _ _=>by kernel_rfl)
def E130 (F:Nat):Ev:=⟨cfg,19,ctOf [(89,ct89 F)],fun _=>[],ctOf [],fun _=>none,fun _=>none⟩
theorem cts130 (F:Nat):CtsOk Tryz.prog (E130 F):=cts_of (l:=[(89,ct89 F)]) (l':=[]) rfl rfl ⟨⟨ok89 F,_,Tryz.func89,rfl,rfl⟩,trivial⟩ trivial
def L130_2c (F:Nat) (y13:List Za) (y14:Int) (y12:List UInt8) (y15:Int) {β:Type} (kA:(Za×Int)->Option β) (kO:(Za)->Option β):Option β:=
 (bif (decide (y15 < y14)) then (Option.bind (ix y13 y15) fun x18=>(Option.bind (gcat y12 x18) fun x19=>(kA (x19,(w64 (y15 + (1:Int))))))) else (kO y12))
def L130_2 (F:Nat) (y13:List Za) (y14:Int) (y12:List UInt8) (y15:Int):=L130_2c F y13 y14 y12 y15 (fun s=>some (Sum.inl s)) (fun z=>some (Sum.inr z))
def lc130_2 (F:Nat):Lc:=mkL [3,6,7,8] [.str,(.ro .s),.i,.i] [] [3] [.str] [] F (fun x y (s:Za×Int)=>L130_2 F x.2.1 x.2.2.1 s.1 s.2) (fun x y=>(x.1,x.2.2.2.1)) (fun x y (z:Za)=>((z,()),()))
theorem lo130_2 (F:Nat):LcOk Tryz.prog (E130 F) 0 (lc130_2 F) (cAt (bodyOf Tryz.f130) [1,0,1,1]):=
 mkL_ok (lp:=[]) (id:=0) (b:=cAt (bodyOf Tryz.f130) (0 :: 0 :: [1,0,1,1])) cok (cts130 F) mixed trivial (by kernel_rfl) (by kernel_rfl) (fun x y s=>(s.1,x.2.1,x.2.2.1,s.2,())) (fun x y s=>()) (fun x y=>rfl) (fun x y=>rfl) (fun x y s kA kO=>L130_2c F x.2.1 x.2.2.1 s.1 s.2 kA kO) (fun _ _ _ _ _=>by simp only [L130_2,L130_2c,oA,oC,oS,oN,elimS_l,elimS_r,elimS_bind]) (fun _ _ _=>by kernel_rfl)
def T130c (F:Nat) (p0:List Za) {β:Type} (k:(Za)->Option β):Option β:=
 (Option.bind (iter (fun s=>L130_2 F p0 (p0.length:Int) s.1 s.2) F (([]:List UInt8),(0:Int))) fun z20=>(Option.bind (gstr z20) fun x21=>(Option.bind (T89 F x21) fun z22=>(k z22))))
def T130 (F:Nat) (p0:List Za):=T130c F p0 some
def ct130 (F:Nat):Ct:=mkC 0 [(.ro .s)] [] [.str] [] (fun x y=>T130 F x.1) (fun x y (z:Za)=>((z,()),()))
theorem ok130 (F:Nat):Sound Tryz.prog cfg 130 (ct130 F):=
 mkC_ok (E:=E130 F) (lp:=[([1,0,1,1],lc130_2 F)]) (code:=bodyOf Tryz.f130) Tryz.func130 rfl Tryz.ntmps130 rfl rfl cok (cts130 F) mixed ⟨lo130_2 F,trivial⟩ (by kernel_rfl) (fun x y k=>T130c F x.1 k) (fun _ _ _=>by simp only [T130,T130c,oA,oC,oS,oN,elimS_bind]) (fun _ _=>by kernel_rfl)
def E91 (F:Nat):Ev:=⟨cfg,9,ctOf [(130,ct130 F)],fun _=>[],ctOf [],fun _=>none,fun _=>none⟩
theorem cts91 (F:Nat):CtsOk Tryz.prog (E91 F):=cts_of (l:=[(130,ct130 F)]) (l':=[]) rfl rfl ⟨⟨ok130 F,_,Tryz.func130,rfl,rfl⟩,trivial⟩ trivial
def T91c (F:Nat) (p0:List UInt8) (p1:List UInt8) {β:Type} (k:(Za)->Option β):Option β:=
 (Option.bind (T130 F ([([1]:List UInt8),p0,p1]:List Za)) fun z2=>(k z2))
def T91 (F:Nat) (p0:List UInt8) (p1:List UInt8):=T91c F p0 p1 some
def ct91 (F:Nat):Ct:=mkC 0 [.str,.str] [] [.str] [] (fun x y=>T91 F x.1 x.2.1) (fun x y (z:Za)=>((z,()),()))
theorem ok91 (F:Nat):Sound Tryz.prog cfg 91 (ct91 F):=
 mkC_ok (E:=E91 F) (lp:=[]) (code:=bodyOf Tryz.f91) Tryz.func91 rfl Tryz.ntmps91 rfl rfl cok (cts91 F) mixed trivial (by kernel_rfl) (fun x y k=>T91c F x.1 x.2.1 k) (fun _ _ _=>by simp only [T91,T91c,oA,oC,oS,oN,elimS_bind]) (fun _ _=>by kernel_rfl)
def T51rc (F:Nat) (rc:(Zd->Option (Za))) (p0:List Za) {β:Type} (k:(Za)->Option β):Option β:=
 (bif ((p0.length:Int) == (0:Int)) then (Option.bind (T89 F ([]:List UInt8)) fun z9=>(k z9)) else (bif ((p0.length:Int) == (1:Int)) then (Option.bind (ix p0 (0:Int)) fun x10=>(k x10)) else (Option.bind (T90 F (p0.length:Int)) fun z11=>(Option.bind (gsl p0 (0:Int) z11) fun x12=>(Option.bind (gsl p0 z11 (p0.length:Int)) fun x13=>(Option.bind (rc x12) fun z14=>(Option.bind (rc x13) fun z15=>(Option.bind (T91 F z14 z15) fun z16=>(k z16)))))))))
def T51r (F:Nat) (rc:(Zd->Option (Za))) (p0:List Za):=T51rc F rc p0 some
def T51g (F:Nat):Nat->Zd->Option (Za)
 | 0=>fun _=>none
 | g + 1=>T51r F (T51g F g)
abbrev cA51r:List Sh:=[(.ro .s)]
abbrev cB51r:List Sh:=[.str]
abbrev cT51r:List TSh:=[]
abbrev cU51r:List TSh:=[]
def ctg51 (F g:Nat):Ct:=mkC 0 cA51r cT51r cB51r cU51r (fun x y=>T51g F g x.1) (fun x y (z:Za)=>((z,()),()))
def ord51r:Nat->List (Tag×Nat)
 | 7=>[(.p,0),(.p,1),(.p,2),(.p,4),(.p,5),(.p,6),(.w,3),(.w,7),(.w,8),(.p,9)]
 | _=>[]
def E51r (F g:Nat):Ev:=⟨cfg,26,ctOf [(89,ct89 F),(90,ct90 F),(51,ctg51 F g),(91,ct91 F)],ord51r,ctOf [],fun _=>none,fun _=>none⟩
theorem cts51r (F g:Nat) (h:Sound Tryz.prog cfg 51 (ctg51 F g)):CtsOk Tryz.prog (E51r F g):=cts_of (l:=[(89,ct89 F),(90,ct90 F),(51,ctg51 F g),(91,ct91 F)]) (l':=[]) rfl rfl ⟨⟨ok89 F,_,Tryz.func89,rfl,rfl⟩,⟨⟨ok90 F,_,Tryz.func90,rfl,rfl⟩,⟨⟨h,_,Tryz.func51,rfl,rfl⟩,⟨⟨ok91 F,_,Tryz.func91,rfl,rfl⟩,trivial⟩⟩⟩⟩ trivial
def ct51r (F g:Nat):Ct:=mkC 0 cA51r cT51r cB51r cU51r (fun x y=>T51r F (T51g F g) x.1) (fun x y (z:Za)=>((z,()),()))
theorem eq51r (F g:Nat) (x:dens cA51r) (y:tdens cT51r):sev (E51r F g) 0 [] (bodyOf Tryz.f51) [] (mkSt (rng 1) cA51r cT51r x y) (kFn (E51r F g) 0 Tryz.f51.results.toList cB51r cU51r fun p q=>some (p,q)) =
  T51rc F (T51g F g) x.1 (fun z=>some ((z,()),())):=by kernel_rfl
theorem ok51r (F g:Nat) (h:Sound Tryz.prog cfg 51 (ctg51 F g)):Sound Tryz.prog cfg 51 (ct51r F g):=
 mkC_ok (E:=E51r F g) (lp:=[]) (code:=bodyOf Tryz.f51) Tryz.func51 rfl Tryz.ntmps51 rfl rfl cok (cts51r F g h) mixed trivial (by kernel_rfl) (fun x y k=>T51rc F (T51g F g) x.1 k) (fun _ _ _=>by simp only [T51r,T51rc,oA,oC,oS,oN,elimS_bind]) (eq51r F g)
def T51 (F:Nat) (p0:List Za):Option (Za):=T51g F F p0
def ct51 (F:Nat):Ct:=mkC 0 cA51r cT51r cB51r cU51r (fun x y=>T51 F x.1) (fun x y (z:Za)=>((z,()),()))
theorem okg51 (F:Nat):∀ g,Sound Tryz.prog cfg 51 (ctg51 F g)
 | 0=>fun x y p q h=>absurd (show (none:Option _)=some (p,q) from h) (by simp)
 | g + 1=>ok51r F g (okg51 F g)
theorem ok51 (F:Nat):Sound Tryz.prog cfg 51 (ct51 F):=okg51 F F
def E88 (F:Nat):Ev:=⟨cfg,19,ctOf [(127,ct127 F),(51,ct51 F)],fun _=>[],ctOf [],fun _=>none,fun _=>none⟩
theorem cts88 (F:Nat):CtsOk Tryz.prog (E88 F):=cts_of (l:=[(127,ct127 F),(51,ct51 F)]) (l':=[]) rfl rfl ⟨⟨ok127 F,_,Tryz.func127,rfl,rfl⟩,⟨⟨ok51 F,_,Tryz.func51,rfl,rfl⟩,trivial⟩⟩ trivial
def T88c (F:Nat) (p0:List UInt8) (p1:Int) {β:Type} (k:(Za×Int)->Option β):Option β:=
 (Option.bind (T127 F p0 p1) fun z3=>(bif (z3.1 != (0:Int)) then (k (([]:List UInt8),z3.1)) else (Option.bind (T51 F z3.2) fun z4=>(k (z4,(0:Int))))))
def T88 (F:Nat) (p0:List UInt8) (p1:Int):=T88c F p0 p1 some
def ct88 (F:Nat):Ct:=mkC 0 [(.ro .u8),.i] [] [.str,.i] [] (fun x y=>T88 F x.1 x.2.1) (fun x y (z:Za×Int)=>((z.1,z.2,()),()))
theorem ok88 (F:Nat):Sound Tryz.prog cfg 88 (ct88 F):=
 mkC_ok (E:=E88 F) (lp:=[]) (code:=bodyOf Tryz.f88) Tryz.func88 rfl Tryz.ntmps88 rfl rfl cok (cts88 F) mixed trivial (by kernel_rfl) (fun x y k=>T88c F x.1 x.2.1 k) (fun _ _ _=>by simp only [T88,T88c,oA,oC,oS,oN,elimS_bind]) (fun _ _=>by kernel_rfl)
def E50 (F:Nat):Ev:=⟨cfg,11,ctOf [(88,ct88 F)],fun _=>[],ctOf [],fun _=>none,fun _=>none⟩
theorem cts50 (F:Nat):CtsOk Tryz.prog (E50 F):=cts_of (l:=[(88,ct88 F)]) (l':=[]) rfl rfl ⟨⟨ok88 F,_,Tryz.func88,rfl,rfl⟩,trivial⟩ trivial
def T50c (F:Nat) (p0:List UInt8) {β:Type} (k:(Za)->Option β):Option β:=
 (Option.bind (T88 F p0 (512:Int)) fun z2=>(k z2.1))
def T50 (F:Nat) (p0:List UInt8):=T50c F p0 some
def ct50 (F:Nat):Ct:=mkC 0 [(.ro .u8)] [] [.str] [] (fun x y=>T50 F x.1) (fun x y (z:Za)=>((z,()),()))
theorem ok50 (F:Nat):Sound Tryz.prog cfg 50 (ct50 F):=
 mkC_ok (E:=E50 F) (lp:=[]) (code:=bodyOf Tryz.f50) Tryz.func50 rfl Tryz.ntmps50 rfl rfl cok (cts50 F) mixed trivial (by kernel_rfl) (fun x y k=>T50c F x.1 k) (fun _ _ _=>by simp only [T50,T50c,oA,oC,oS,oN,elimS_bind]) (fun _ _=>by kernel_rfl)
def ord19:Nat->List (Tag×Nat)
 | 9=>[(.p,0),(.c,1),(.p,2),(.p,3),(.c,4),(.p,5),(.c,6),(.p,7),(.r,8),(.w,9),(.p,10),(.p,11),(.p,12),(.r,13),(.p,15),(.p,16),(.c,17),(.w,14),(.p,18),(.p,19),(.p,20)]
 | _=>[]
def E19 (F:Nat):Ev:=⟨cfg,74,ctOf [(50,ct50 F),(51,ct51 F)],ord19,ctOf [],fun _=>none,fun _=>none⟩
theorem cts19 (F:Nat):CtsOk Tryz.prog (E19 F):=cts_of (l:=[(50,ct50 F),(51,ct51 F)]) (l':=[]) rfl rfl ⟨⟨ok50 F,_,Tryz.func50,rfl,rfl⟩,⟨⟨ok51 F,_,Tryz.func51,rfl,rfl⟩,trivial⟩⟩ trivial
def L19_2c (F:Nat) (y14:List Za) (y15:Int) (y16:Int) {β:Type} (kA:Int->Option β) (kO:Unit->Option β) (kR:Bool->Option β):Option β:=
 (bif (decide (y16 < y15)) then (Option.bind (ix y14 y16) fun x22=>(bif ((x22.length:Int) != (32:Int)) then (kR false) else (kA (w64 (y16 + (1:Int)))))) else (kO ()))
def L19_2 (F:Nat) (y14:List Za) (y15:Int) (y16:Int):Option ((Int) ⊕ ((Unit) ⊕ (Bool))):=L19_2c F y14 y15 y16 (fun s=>some (.inl s)) (fun z=>some (.inr (.inl z))) (fun z=>some (.inr (.inr z)))
theorem L19_2n (F:Nat) (y14:List Za) (y15:Int) (y16:Int) {β:Type} (kA:Int->Option β) (kO:Unit->Option β) (kR:Bool->Option β):L19_2c F y14 y15 y16 kA kO kR=(L19_2 F y14 y15 y16).bind (elimS kA (elimS kO kR)):=by
 simp only [L19_2,L19_2c,oA,oC,oS,oN,elimS_l,elimS_r,elimS_bind]
def lc19_2 (F:Nat):Lc:=mkR [1,44,45,46] [(.pt 0 []),(.ro .s),.i,.i] [.blk 42 (.pr (.pr .str (.pr .i .un)) (.pr (.ro .u8) (.pr (.ro .s) .un)))] [1] [(.pt 0 [])] [.blk 42 (.pr (.pr .str (.pr .i .un)) (.pr (.ro .u8) (.pr (.ro .s) .un)))] [2] [.bo] [] F (fun x y (s:Int)=>L19_2 F x.2.1 x.2.2.1 s) (fun x y=>x.2.2.2.1) (fun x y (z:Unit)=>(((),()),(((y.1.1.1,y.1.1.2.1,()),y.1.2.1,y.1.2.2.1,()),()))) (fun x y (z:Bool)=>((z,()),()))
theorem lo19_2 (F:Nat):LcOk Tryz.prog (E19 F) 0 (lc19_2 F) (cAt (bodyOf Tryz.f19) [1,0,1,1]):=
 mkR_ok (lp:=[]) (id:=0) (b:=cAt (bodyOf Tryz.f19) (0 :: 0 :: [1,0,1,1])) cok (cts19 F) mixed trivial (by kernel_rfl) (by kernel_rfl) (fun x y s=>((),x.2.1,x.2.2.1,s,())) (fun x y s=>(((y.1.1.1,y.1.1.2.1,()),y.1.2.1,y.1.2.2.1,()),())) (fun x y=>rfl) (fun x y=>rfl) (fun x y s kA kO kR=>L19_2c F x.2.1 x.2.2.1 s kA kO kR) (fun x y s kA kO kR=>L19_2n F x.2.1 x.2.2.1 s kA kO kR) (fun _ _ _=>by kernel_rfl)
def T19c (F:Nat) (p0:List UInt8) (p1:Int) (p2:List UInt8) (p3:List Za) {β:Type} (k:Bool->Option β):Option β:=
 (bif ((p0.length:Int) != (32:Int)) then (k false) else (bif (decide ((16:Int) < (p3.length:Int))) then (k false) else (bif (decide (p1 < (0:Int))) then (k false) else (bif (decide ((p3.length:Int)≤p1)) then (k false) else (bif (decide ((p2.length:Int) < (1:Int))) then (k false) else (bif (decide ((65536:Int) < (p2.length:Int))) then (k false) else (Option.bind (iter (fun s=>L19_2 F p3 (p3.length:Int) s) F (0:Int)) fun z23=>elimS (fun z23=>(Option.bind (ix p3 p1) fun x24=>(Option.bind (T50 F p2) fun z25=>(bif (x24 == z25) then (Option.bind (T51 F p3) fun z26=>(k (z26 == p0))) else (k false))))) (fun z23=>(k z23)) z23)))))))
def T19 (F:Nat) (p0:List UInt8) (p1:Int) (p2:List UInt8) (p3:List Za):=T19c F p0 p1 p2 p3 some
def ct19 (F:Nat):Ct:=mkC 0 [(.pr (.pr .str (.pr .i .un)) (.pr (.ro .u8) (.pr (.ro .s) .un)))] [] [.bo] [] (fun x y=>T19 F x.1.1.1 x.1.1.2.1 x.1.2.1 x.1.2.2.1) (fun x y (z:Bool)=>((z,()),()))
theorem ok19 (F:Nat):Sound Tryz.prog cfg 19 (ct19 F):=
 mkC_ok (E:=E19 F) (lp:=[([1,0,1,1],lc19_2 F)]) (code:=bodyOf Tryz.f19) Tryz.func19 rfl Tryz.ntmps19 rfl rfl cok (cts19 F) mixed ⟨lo19_2 F,trivial⟩ (by kernel_rfl) (fun x y k=>T19c F x.1.1.1 x.1.1.2.1 x.1.2.1 x.1.2.2.1 k) (fun _ _ _=>by simp only [T19,T19c,oA,oC,oS,oN,elimS_bind]) (fun _ _=>by kernel_rfl)
def E20 (F:Nat):Ev:=⟨cfg,13,ctOf [(16,ct16 F),(52,ct52 F)],fun _=>[],ctOf [],fun _=>none,fun _=>none⟩
theorem cts20 (F:Nat):CtsOk Tryz.prog (E20 F):=cts_of (l:=[(16,ct16 F),(52,ct52 F)]) (l':=[]) rfl rfl ⟨⟨ok16 F,_,Tryz.func16,rfl,rfl⟩,⟨⟨ok52 F,_,Tryz.func52,rfl,rfl⟩,trivial⟩⟩ trivial
def T20c (F:Nat) (p0:List UInt8) (p1:Int) (p2:Int) (p3:Int) (p4:Int) (p5:List Zb) (p6:List UInt8) (p7:Int) (p8:List UInt8) (p9:List Za) {β:Type} (k:Bool->Option β):Option β:=
 (Option.bind (T16 F p0 p1 p2 p3 p4 p5) fun z3=>(bif (z3 == (0:Int)) then (Option.bind (T52 F p0 p2 p4 p6 p7 p8 p9) fun z4=>(k z4)) else (k false)))
def T20 (F:Nat) (p0:List UInt8) (p1:Int) (p2:Int) (p3:Int) (p4:Int) (p5:List Zb) (p6:List UInt8) (p7:Int) (p8:List UInt8) (p9:List Za):=T20c F p0 p1 p2 p3 p4 p5 p6 p7 p8 p9 some
def ct20 (F:Nat):Ct:=mkC 0 [(.pr .str (.pr .i (.pr .i (.pr .i (.pr .i (.pr (.ro (.pr .s (.pr .i (.pr .i .un)))) .un)))))),(.pr (.pr .str (.pr .i .un)) (.pr (.ro .u8) (.pr (.ro .s) .un)))] [] [.bo] [] (fun x y=>T20 F x.1.1 x.1.2.1 x.1.2.2.1 x.1.2.2.2.1 x.1.2.2.2.2.1 x.1.2.2.2.2.2.1 x.2.1.1.1 x.2.1.1.2.1 x.2.1.2.1 x.2.1.2.2.1) (fun x y (z:Bool)=>((z,()),()))
theorem ok20 (F:Nat):Sound Tryz.prog cfg 20 (ct20 F):=
 mkC_ok (E:=E20 F) (lp:=[]) (code:=bodyOf Tryz.f20) Tryz.func20 rfl Tryz.ntmps20 rfl rfl cok (cts20 F) mixed trivial (by kernel_rfl) (fun x y k=>T20c F x.1.1 x.1.2.1 x.1.2.2.1 x.1.2.2.2.1 x.1.2.2.2.2.1 x.1.2.2.2.2.2.1 x.2.1.1.1 x.2.1.1.2.1 x.2.1.2.1 x.2.1.2.2.1 k) (fun _ _ _=>by simp only [T20,T20c,oA,oC,oS,oN,elimS_bind]) (fun _ _=>by kernel_rfl)
def E21 (F:Nat):Ev:=⟨cfg,35,ctOf [(17,ct17 F),(19,ct19 F)],fun _=>[],ctOf [],fun _=>none,fun _=>none⟩
theorem cts21 (F:Nat):CtsOk Tryz.prog (E21 F):=cts_of (l:=[(17,ct17 F),(19,ct19 F)]) (l':=[]) rfl rfl ⟨⟨ok17 F,_,Tryz.func17,rfl,rfl⟩,⟨⟨ok19 F,_,Tryz.func19,rfl,rfl⟩,trivial⟩⟩ trivial
def T21c (F:Nat) (p0:List UInt8) (p1:Int) (p2:Int) (p3:Int) (p4:Int) (p5:List Zb) (p6:List UInt8) (p7:Int) (p8:List UInt8) (p9:List Za) {β:Type} (k:Bool->Option β):Option β:=
 (Option.bind (T17 F p0 p1 p2 p3 p4 p5) fun z3=>(bif z3 then (Option.bind (T19 F p6 p7 p8 p9) fun z4=>(bif z4 then (bif (p6 == p0) then (bif ((p9.length:Int) == p4) then (k ((p8.length:Int) == p2)) else (k false)) else (k false)) else (k false))) else (k false)))
def T21 (F:Nat) (p0:List UInt8) (p1:Int) (p2:Int) (p3:Int) (p4:Int) (p5:List Zb) (p6:List UInt8) (p7:Int) (p8:List UInt8) (p9:List Za):=T21c F p0 p1 p2 p3 p4 p5 p6 p7 p8 p9 some
def ct21 (F:Nat):Ct:=mkC 0 [(.pr .str (.pr .i (.pr .i (.pr .i (.pr .i (.pr (.ro (.pr .s (.pr .i (.pr .i .un)))) .un)))))),(.pr (.pr .str (.pr .i .un)) (.pr (.ro .u8) (.pr (.ro .s) .un)))] [] [.bo] [] (fun x y=>T21 F x.1.1 x.1.2.1 x.1.2.2.1 x.1.2.2.2.1 x.1.2.2.2.2.1 x.1.2.2.2.2.2.1 x.2.1.1.1 x.2.1.1.2.1 x.2.1.2.1 x.2.1.2.2.1) (fun x y (z:Bool)=>((z,()),()))
theorem ok21 (F:Nat):Sound Tryz.prog cfg 21 (ct21 F):=
 mkC_ok (E:=E21 F) (lp:=[]) (code:=bodyOf Tryz.f21) Tryz.func21 rfl Tryz.ntmps21 rfl rfl cok (cts21 F) mixed trivial (by kernel_rfl) (fun x y k=>T21c F x.1.1 x.1.2.1 x.1.2.2.1 x.1.2.2.2.1 x.1.2.2.2.2.1 x.1.2.2.2.2.2.1 x.2.1.1.1 x.2.1.1.2.1 x.2.1.2.1 x.2.1.2.2.1 k) (fun _ _ _=>by simp only [T21,T21c,oA,oC,oS,oN,elimS_bind]) (fun _ _=>by kernel_rfl)
def E54 (F:Nat):Ev:=⟨cfg,8,ctOf [],fun _=>[],ctOf [],fun _=>none,fun _=>none⟩
theorem cts54 (F:Nat):CtsOk Tryz.prog (E54 F):=cts_of (l:=[]) (l':=[]) rfl rfl trivial trivial
def T54c (F:Nat) (p0:List UInt8) (p3:List UInt8) {β:Type} (k:Bool->Option β):Option β:=
 (k (p0 == p3))
def T54 (F:Nat) (p0:List UInt8) (p3:List UInt8):=T54c F p0 p3 some
def ct54 (F:Nat):Ct:=mkC 0 [(.pr .str (.pr .i (.pr .i .un))),(.re .s)] [] [.bo] [] (fun x y=>T54 F x.1.1 x.2.1) (fun x y (z:Bool)=>((z,()),()))
theorem ok54 (F:Nat):Sound Tryz.prog cfg 54 (ct54 F):=
 mkC_ok (E:=E54 F) (lp:=[]) (code:=bodyOf Tryz.f54) Tryz.func54 rfl Tryz.ntmps54 rfl rfl cok (cts54 F) mixed trivial (by kernel_rfl) (fun x y k=>T54c F x.1.1 x.2.1 k) (fun _ _ _=>by simp only [T54,T54c,oA,oC,oS,oN,elimS_bind]) (fun _ _=>by kernel_rfl)
def E53 (F:Nat):Ev:=⟨cfg,19,ctOf [(54,ct54 F)],fun _=>[],ctOf [],fun _=>none,fun _=>none⟩
theorem cts53 (F:Nat):CtsOk Tryz.prog (E53 F):=cts_of (l:=[(54,ct54 F)]) (l':=[]) rfl rfl ⟨⟨ok54 F,_,Tryz.func54,rfl,rfl⟩,trivial⟩ trivial
def L53_2c (F:Nat) (y10:List Zb) (y11:Int) (y13:List UInt8) (y12:Int) {β:Type} (kA:Int->Option β) (kO:Unit->Option β) (kR:Int->Option β):Option β:=
 (bif (decide (y12 < y11)) then (Option.bind (ix y10 y12) fun x16=>(Option.bind (T54 F x16.1 y13) fun z17=>(bif z17 then (kR y12) else (kA (w64 (y12 + (1:Int))))))) else (kO ()))
def L53_2 (F:Nat) (y10:List Zb) (y11:Int) (y13:List UInt8) (y12:Int):Option ((Int) ⊕ ((Unit) ⊕ (Int))):=L53_2c F y10 y11 y13 y12 (fun s=>some (.inl s)) (fun z=>some (.inr (.inl z))) (fun z=>some (.inr (.inr z)))
theorem L53_2n (F:Nat) (y10:List Zb) (y11:Int) (y13:List UInt8) (y12:Int) {β:Type} (kA:Int->Option β) (kO:Unit->Option β) (kR:Int->Option β):L53_2c F y10 y11 y13 y12 kA kO kR=(L53_2 F y10 y11 y13 y12).bind (elimS kA (elimS kO kR)):=by
 simp only [L53_2,L53_2c,oA,oC,oS,oN,elimS_l,elimS_r,elimS_bind]
def lc53_2 (F:Nat):Lc:=mkR [0,1,7,8] [(.ro (.pr .s (.pr .i (.pr .i .un)))),(.fn 54 .un (.pr (.pt 0 []) .un)),.i,.i] [.blk 9 .str] [] [] [.blk 9 .str] [4] [.i] [.blk 9 .str] F (fun x y (s:Int)=>L53_2 F x.1 x.2.2.1 y.1 s) (fun x y=>x.2.2.2.1) (fun x y (z:Unit)=>((),(y.1,()))) (fun x y (z:Int)=>((z,()),(y.1,())))
theorem lo53_2 (F:Nat):LcOk Tryz.prog (E53 F) 1 (lc53_2 F) (cAt (bodyOf Tryz.f53) [1,0,1]):=
 mkR_ok (lp:=[]) (id:=0) (b:=cAt (bodyOf Tryz.f53) (0 :: 0 :: [1,0,1])) cok (cts53 F) mixed trivial (by kernel_rfl) (by kernel_rfl) (fun x y s=>(x.1,((),((),())),x.2.2.1,s,())) (fun x y s=>(y.1,())) (fun x y=>rfl) (fun x y=>rfl) (fun x y s kA kO kR=>L53_2c F x.1 x.2.2.1 y.1 s kA kO kR) (fun x y s kA kO kR=>L53_2n F x.1 x.2.2.1 y.1 s kA kO kR) (fun _ _ _=>by kernel_rfl)
def T53c (F:Nat) (p0:List Zb) (p1:List UInt8) {β:Type} (k:Int->Option β):Option β:=
 (Option.bind (iter (fun s=>L53_2 F p0 (p0.length:Int) p1 s) F (0:Int)) fun z18=>elimS (fun z18=>(k (-1:Int))) (fun z18=>(k z18)) z18)
def T53 (F:Nat) (p0:List Zb) (p1:List UInt8):=T53c F p0 p1 some
def ct53 (F:Nat):Ct:=mkC 1 [(.ro (.pr .s (.pr .i (.pr .i .un)))),(.fn 54 .un (.pr (.pt 0 []) .un))] [.blk 9 .str] [.i] [.blk 9 .str] (fun x y=>T53 F x.1 y.1) (fun x y (z:Int)=>((z,()),(y.1,())))
theorem ok53 (F:Nat):Sound Tryz.prog cfg 53 (ct53 F):=
 mkC_ok (E:=E53 F) (lp:=[([1,0,1],lc53_2 F)]) (code:=bodyOf Tryz.f53) Tryz.func53 rfl Tryz.ntmps53 rfl rfl cok (cts53 F) mixed ⟨lo53_2 F,trivial⟩ (by kernel_rfl) (fun x y k=>T53c F x.1 y.1 k) (fun _ _ _=>by simp only [T53,T53c,oA,oC,oS,oN,elimS_bind]) (fun _ _=>by kernel_rfl)
def E22 (F:Nat):Ev:=⟨cfg,9,ctOf [(53,ct53 F)],fun _=>[],ctOf [],fun _=>none,fun _=>none⟩
theorem cts22 (F:Nat):CtsOk Tryz.prog (E22 F):=cts_of (l:=[(53,ct53 F)]) (l':=[]) rfl rfl ⟨⟨ok53 F,_,Tryz.func53,rfl,rfl⟩,trivial⟩ trivial
def T22c (F:Nat) (p5:List Zb) (p6:List UInt8) {β:Type} (k:Int->Option β):Option β:=
 (Option.bind (T53 F p5 p6) fun z2=>(k z2))
def T22 (F:Nat) (p5:List Zb) (p6:List UInt8):=T22c F p5 p6 some
def ct22 (F:Nat):Ct:=mkC 0 [(.pr .str (.pr .i (.pr .i (.pr .i (.pr .i (.pr (.ro (.pr .s (.pr .i (.pr .i .un)))) .un)))))),.str] [] [.i] [] (fun x y=>T22 F x.1.2.2.2.2.2.1 x.2.1) (fun x y (z:Int)=>((z,()),()))
theorem ok22 (F:Nat):Sound Tryz.prog cfg 22 (ct22 F):=
 mkC_ok (E:=E22 F) (lp:=[]) (code:=bodyOf Tryz.f22) Tryz.func22 rfl Tryz.ntmps22 rfl rfl cok (cts22 F) mixed trivial (by kernel_rfl) (fun x y k=>T22c F x.1.2.2.2.2.2.1 x.2.1 k) (fun _ _ _=>by simp only [T22,T22c,oA,oC,oS,oN,elimS_bind]) (fun _ _=>by kernel_rfl)
def ord4:Nat->List (Tag×Nat)
 | 11=>[(.r,0),(.c,3),(.w,1),(.p,2),(.b,4),(.p,5),(.p,6),(.r,7),(.b,8),(.p,9),(.r,10),(.b,11),(.p,12),(.p,13),(.p,14),(.p,15),(.r,16),(.c,18),(.w,17),(.b,19),(.p,20),(.p,21),(.p,22),(.r,23),(.r,24),(.c,26),(.c,27),(.w,25),(.b,28),(.p,29),(.p,30),(.p,31),(.r,32),(.p,33),(.p,35),(.b,34),(.p,36),(.p,37),(.p,38)]
 | _=>[]
def E4 (F:Nat):Ev:=⟨cfg,75,ctOf [(8,ct8 F),(15,ct15 F),(16,ct16 F),(17,ct17 F),(18,ct18 F),(19,ct19 F),(20,ct20 F),(21,ct21 F),(22,ct22 F)],ord4,ctOf [],fun _=>none,fun _=>none⟩
theorem cts4 (F:Nat):CtsOk Tryz.prog (E4 F):=cts_of (l:=[(8,ct8 F),(15,ct15 F),(16,ct16 F),(17,ct17 F),(18,ct18 F),(19,ct19 F),(20,ct20 F),(21,ct21 F),(22,ct22 F)]) (l':=[]) rfl rfl ⟨⟨ok8 F,_,Tryz.func8,rfl,rfl⟩,⟨⟨ok15 F,_,Tryz.func15,rfl,rfl⟩,⟨⟨ok16 F,_,Tryz.func16,rfl,rfl⟩,⟨⟨ok17 F,_,Tryz.func17,rfl,rfl⟩,⟨⟨ok18 F,_,Tryz.func18,rfl,rfl⟩,⟨⟨ok19 F,_,Tryz.func19,rfl,rfl⟩,⟨⟨ok20 F,_,Tryz.func20,rfl,rfl⟩,⟨⟨ok21 F,_,Tryz.func21,rfl,rfl⟩,⟨⟨ok22 F,_,Tryz.func22,rfl,rfl⟩,trivial⟩⟩⟩⟩⟩⟩⟩⟩⟩ trivial
def L4_2c (F:Nat) (y35:List UInt8) (y43:List Zb) (y36:Int) (y37:Int) {β:Type} (kA:Zh->Option β) (kO:Int->Option β):Option β:=
 (bif (decide ((0:Int)≤y37)) then (Option.bind (ix y43 y37) fun x49=>(bif (x49.1 == y35) then (kA (y37,(w64 (y37 - (1:Int))))) else (kA (y36,(w64 (y37 - (1:Int))))))) else (kO y36))
def L4_2 (F:Nat) (y35:List UInt8) (y43:List Zb) (y36:Int) (y37:Int):=L4_2c F y35 y43 y36 y37 (fun s=>some (Sum.inl s)) (fun z=>some (Sum.inr z))
def lc4_2 (F:Nat):Lc:=mkL [2,3,4,7,8] [.str,(.pt 0 []),(.pt 1 []),.i,.i] [.blk 27 (.pr .str (.pr .i (.pr .i (.pr .i (.pr .i (.pr (.ro (.pr .s (.pr .i (.pr .i .un)))) .un)))))),.blk 42 (.pr (.pr .str (.pr .i .un)) (.pr (.ro .u8) (.pr (.ro .s) .un)))] [2,3,4,7] [.str,(.pt 0 []),(.pt 1 []),.i] [.blk 27 (.pr .str (.pr .i (.pr .i (.pr .i (.pr .i (.pr (.ro (.pr .s (.pr .i (.pr .i .un)))) .un)))))),.blk 42 (.pr (.pr .str (.pr .i .un)) (.pr (.ro .u8) (.pr (.ro .s) .un)))] F (fun x y (s:Int×Int)=>L4_2 F x.1 y.1.2.2.2.2.2.1 s.1 s.2) (fun x y=>(x.2.2.2.1,x.2.2.2.2.1)) (fun x y (z:Int)=>((x.1,(),(),z,()),((y.1.1,y.1.2.1,y.1.2.2.1,y.1.2.2.2.1,y.1.2.2.2.2.1,y.1.2.2.2.2.2.1,()),((y.2.1.1.1,y.2.1.1.2.1,()),y.2.1.2.1,y.2.1.2.2.1,()),())))
theorem lo4_2 (F:Nat):LcOk Tryz.prog (E4 F) 0 (lc4_2 F) (cAt (bodyOf Tryz.f4) [1,0,1,1,1,1]):=
 mkL_ok (lp:=[]) (id:=0) (b:=cAt (bodyOf Tryz.f4) (0 :: 0 :: [1,0,1,1,1,1])) cok (cts4 F) mixed trivial (by kernel_rfl) (by kernel_rfl) (fun x y s=>(x.1,(),(),s.1,s.2,())) (fun x y s=>((y.1.1,y.1.2.1,y.1.2.2.1,y.1.2.2.2.1,y.1.2.2.2.2.1,y.1.2.2.2.2.2.1,()),((y.2.1.1.1,y.2.1.1.2.1,()),y.2.1.2.1,y.2.1.2.2.1,()),())) (fun x y=>rfl) (fun x y=>rfl) (fun x y s kA kO=>L4_2c F x.1 y.1.2.2.2.2.2.1 s.1 s.2 kA kO) (fun _ _ _ _ _=>by simp only [L4_2,L4_2c,oA,oC,oS,oN,elimS_l,elimS_r,elimS_bind]) (fun _ _ _=>by kernel_rfl)
def T4c (F:Nat) (p0:List UInt8) (p1:Int) (p2:Int) (p3:Int) (p4:Int) (p5:List Zb) (p6:List UInt8) (p7:Int) (p8:List UInt8) (p9:List Za) (p10:List UInt8) {β:Type} (k:Bool->Option β):Option β:=
 (Option.bind (T8 F) fun z33=>(bif (!z33) then (k false) else (bif (decide ((20:Int) < (p5.length:Int))) then (k true) else (Option.bind (T15 F ([((p6,p7,()),p8,p9,())]:List Zc)) fun z34=>(bif z34 then (k true) else (Option.bind (iter (fun s=>L4_2 F p10 p5 s.1 s.2) F ((-1:Int),(w64 ((p5.length:Int) - (1:Int))))) fun z50=>(Option.bind (T16 F p0 p1 p2 p3 p4 p5) fun z51=>(Option.bind (T17 F p0 p1 p2 p3 p4 p5) fun z52=>(bif ((z51 == (0:Int)) == z52) then (Option.bind (T17 F p0 p1 p2 p3 p4 p5) fun z53=>(bif z53 then (Option.bind (T18 F p6 p7 p8 p9) fun z54=>(Option.bind (T19 F p6 p7 p8 p9) fun z55=>(bif (z54 == z55) then (Option.bind (T20 F p0 p1 p2 p3 p4 p5 p6 p7 p8 p9) fun z56=>(Option.bind (T21 F p0 p1 p2 p3 p4 p5 p6 p7 p8 p9) fun z57=>(bif (z56 == z57) then (Option.bind (T22 F p5 p10) fun z58=>(k (z58 == z50))) else (k false)))) else (k false)))) else (Option.bind (T16 F p0 p1 p2 p3 p4 p5) fun z59=>(bif (z59 == (1:Int)) then (Option.bind (T18 F p6 p7 p8 p9) fun z60=>(Option.bind (T19 F p6 p7 p8 p9) fun z61=>(bif (z60 == z61) then (Option.bind (T20 F p0 p1 p2 p3 p4 p5 p6 p7 p8 p9) fun z62=>(Option.bind (T21 F p0 p1 p2 p3 p4 p5 p6 p7 p8 p9) fun z63=>(bif (z62 == z63) then (Option.bind (T22 F p5 p10) fun z64=>(k (z64 == z50))) else (k false)))) else (k false)))) else (k false))))) else (k false))))))))))
def T4 (F:Nat) (p0:List UInt8) (p1:Int) (p2:Int) (p3:Int) (p4:Int) (p5:List Zb) (p6:List UInt8) (p7:Int) (p8:List UInt8) (p9:List Za) (p10:List UInt8):=T4c F p0 p1 p2 p3 p4 p5 p6 p7 p8 p9 p10 some
abbrev cA4:List Sh:=[(.pr .str (.pr .i (.pr .i (.pr .i (.pr .i (.pr (.ro (.pr .s (.pr .i (.pr .i .un)))) .un)))))),(.pr (.pr .str (.pr .i .un)) (.pr (.ro .u8) (.pr (.ro .s) .un))),.str]
def ct4 (F:Nat):Ct:=mkC 0 cA4 [] [.bo] [] (fun x y=>T4 F x.1.1 x.1.2.1 x.1.2.2.1 x.1.2.2.2.1 x.1.2.2.2.2.1 x.1.2.2.2.2.2.1 x.2.1.1.1 x.2.1.1.2.1 x.2.1.2.1 x.2.1.2.2.1 x.2.2.1) (fun x y (z:Bool)=>((z,()),()))
theorem ok4 (F:Nat):Sound Tryz.prog cfg 4 (ct4 F):=
 mkC_ok (E:=E4 F) (lp:=[([1,0,1,1,1,1],lc4_2 F)]) (code:=bodyOf Tryz.f4) Tryz.func4 rfl Tryz.ntmps4 rfl rfl cok (cts4 F) mixed ⟨lo4_2 F,trivial⟩ (by kernel_rfl) (fun x y k=>T4c F x.1.1 x.1.2.1 x.1.2.2.1 x.1.2.2.2.1 x.1.2.2.2.2.1 x.1.2.2.2.2.2.1 x.2.1.1.1 x.2.1.1.2.1 x.2.1.2.1 x.2.1.2.2.1 x.2.2.1 k) (fun _ _ _=>by simp only [T4,T4c,oA,oC,oS,oN,elimS_bind]) (fun _ _=>by kernel_rfl)
end Go.Proofs.YtpnhgldpeiogbaaGreatDoor
namespace Go.Proofs.YtpnhgldpeiogbaaGreatDoor
open Go.Tw
set_option linter.unusedSimpArgs false
set_option linter.unusedVariables false
structure Rows {α:Type} (rows:List (Option (List α))) (out:List Nat) (gs:List (List α)):Prop where
 len:out.length=gs.length
 at_:∀ (i:Nat) (g:List α),gs[i]? = some g->∃ q:Nat,out[i]? = some q∧rows[q]? = some (some g)
 nd:out.Nodup
section
variable {α:Type} {rows:List (Option (List α))} {out:List Nat} {gs:List (List α)}
end
theorem it_again' {σ ρ:Type} {f:σ->Option (σ ⊕ ρ)} {n:Nat} {s s':σ} (h:f s=some (.inl s')):iter f (n + 1) s=iter f n s':=by simp [iter,h]
theorem it_out' {σ ρ:Type} {f:σ->Option (σ ⊕ ρ)} {n:Nat} {s:σ} {r:ρ} (h:f s=some (.inr r)):iter f (n + 1) s=some r:=by simp [iter,h]
theorem iter1 {σ ρ:Type} {f:σ->Option (σ ⊕ ρ)} (R:σ->Prop) (Q:ρ->Prop) (μ:σ->Nat)
  (step:∀ s,R s->(∃ s',f s=some (.inl s')∧R s'∧μ s' < μ s)∨(∃ r,f s=some (.inr r)∧Q r)) :
  ∀ (n:Nat) (s:σ),R s->μ s < n->∃ r,iter f n s=some r∧Q r
 | 0,s,_,h=>by omega
 | n + 1,s,hR,h=>by
  rcases step s hR with ⟨s',h1,h2,h3⟩ | ⟨r,h1,h2⟩
  ·rw [it_again' h1];exact iter1 R Q μ step n s' h2 (by omega)
  ·exact ⟨r,it_out' h1,h2⟩
theorem ixn {α:Type} {l:List α} {i:Nat} {x:α} (h:l[i]? = some x):ix l ((i:Nat):Int)=some x:=by
 have hi:=(List.getElem?_eq_some_iff.1 h).1
 unfold ix
 rw [if_pos (by omega),Int.toNat_natCast];exact h
theorem inbn {n i:Nat} (h:i < n):inb n ((i:Nat):Int)=some i:=by unfold inb;simp [h]
theorem gappn {α:Type} {xs ys:List α} (h:xs.length + ys.length≤1099511627776):gapp xs ys=some (xs ++ ys):=by unfold gapp;rw [if_pos h]
theorem w64n {n:Nat} (h:n < 9223372036854775807):w64 (((n:Nat):Int) + 1)=((n + 1:Nat):Int):=by rw [w64_in (by omega) (by omega)];omega
end Go.Proofs.YtpnhgldpeiogbaaGreatDoor
namespace Go.Proofs.YtpnhgldpeiogbaaGreatDoor
open Go.Tw
set_option linter.unusedSimpArgs false
set_option linter.unusedVariables false
def cls (k:Nat):Int:=2 ^ (k / 4) * (64 + 16 * (k % 4:Nat))
def fc (need:Int):Nat->Nat->Int
 | 0,k=>cls k
 | m + 1,k=>bif decide (cls k < need) then fc need m (k + 1) else cls k
theorem t59 {k:Nat} (hk:k < 39) (F:Nat):T115 F (2 ^ (k / 4):Int) ((k % 4:Nat):Int)=some (cls k,(2 ^ ((k + 1) / 4):Int),(((k + 1) % 4:Nat):Int)):=by
 have:∀ k:Fin 39,T115 0 (2 ^ (k.val / 4):Int) ((k.val % 4:Nat):Int)=some (cls k.val,(2 ^ ((k.val + 1) / 4):Int),(((k.val + 1) % 4:Nat):Int)):=by decide
 exact this ⟨k,hk⟩
theorem loop14 (F:Nat) (need:Int):∀ (m k fuel:Nat),k + m=37->m < fuel->need≤cls 37->iter (fun s:Int×Int×Int=>L37_2 F need s.1 s.2.1 s.2.2) fuel (cls k,(2 ^ ((k + 1) / 4):Int),(((k + 1) % 4:Nat):Int))=some (fc need m k)
 | 0,k,fuel + 1,hk,hf,hn=>by
  have:k=37:=by omega
  subst this
  have h:¬ cls 37 < need:=by omega
  simp [iter,L37_2,L37_2c,h,fc]
 | m + 1,k,fuel + 1,hk,hf,hn=>by
  by_cases h:cls k < need
  ·simp only [iter,L37_2,L37_2c,h,decide_true,cond_true,fc]
   rw [t59 (by omega)]
   simp only [Option.bind_some]
   exact loop14 F need m (k + 1) fuel (by omega) (by omega) hn
  ·simp [iter,L37_2,L37_2c,h,fc]
theorem c42 {j b:Nat} (hj:j < 10) (hb:b < 4):w64 ((64 * 2 ^ j:Int) + w64 (w64 (Int.tdiv (64 * 2 ^ j:Int) 4) * ((b:Nat):Int)))=cls (4 * j + b):=by
 have:∀ (j:Fin 10) (b:Fin 4),w64 ((64 * 2 ^ j.val:Int) + w64 (w64 (Int.tdiv (64 * 2 ^ j.val:Int) 4) * ((b.val:Nat):Int)))=cls (4 * j.val + b.val):=by decide
 exact this ⟨j,hj⟩ ⟨b,hb⟩
theorem in_step (F:Nat) (need:Int) {j b:Nat} (hj:j < 10) (hb:b < 4) (n:Nat):iter (fun s=>L80_4 F need (64 * 2 ^ j:Int) s) (n + 1) ((b:Nat):Int)=bif decide (need≤cls (4 * j + b)) then some (.inr (cls (4 * j + b))) else iter (fun s=>L80_4 F need (64 * 2 ^ j:Int) s) n ((b + 1:Nat):Int):=by
 have h1:((b:Nat):Int) < 4:=by omega
 have h2:w64 (((b:Nat):Int) + 1)=((b + 1:Nat):Int):=by rw [w64_in (by omega) (by omega)];omega
 simp only [iter,L80_4,L80_4c,h1,decide_true,cond_true,c42 hj hb,h2]
 cases decide (need≤cls (4 * j + b))<;>rfl
theorem in_last (F:Nat) (need base:Int) (n:Nat):iter (fun s=>L80_4 F need base s) (n + 1) ((4:Nat):Int)=some (.inl ()):=by
 simp [iter,L80_4,L80_4c]
theorem fc_step (need:Int) (m k:Nat):fc need (m + 1) k=bif decide (need≤cls k) then cls k else fc need m (k + 1):=by
 simp only [fc]
 by_cases h:cls k < need
 ·have h':¬ need≤cls k:=by omega
  simp [h,h']
 ·have h':need≤cls k:=by omega
  simp [h,h']
theorem dbl {j:Nat} (hj:j < 9):w64 ((2:Int) * (64 * 2 ^ j:Int))=(64 * 2 ^ (j + 1):Int):=by
 have:∀ (j:Fin 9),w64 ((2:Int) * (64 * 2 ^ j.val:Int))=(64 * 2 ^ (j.val + 1):Int):=by decide
 exact this ⟨j,hj⟩
theorem inner (F:Nat) (need:Int) {j:Nat} (hj:j < 10) (hF:5≤F):iter (fun s=>L80_4 F need (64 * 2 ^ j:Int) s) F (0:Int)=some (bif decide (need≤cls (4 * j)) then .inr (cls (4 * j)) else bif decide (need≤cls (4 * j + 1)) then .inr (cls (4 * j + 1)) else bif decide (need≤cls (4 * j + 2)) then .inr (cls (4 * j + 2)) else bif decide (need≤cls (4 * j + 3)) then .inr (cls (4 * j + 3)) else .inl ()):=by
 obtain ⟨n,rfl⟩:∃ n,F=n + 5:=⟨F - 5,by omega⟩
 have h0:=in_step (n + 5) need hj (b:=0) (by omega) (n + 4)
 have h1:=in_step (n + 5) need hj (b:=1) (by omega) (n + 3)
 have h2:=in_step (n + 5) need hj (b:=2) (by omega) (n + 2)
 have h3:=in_step (n + 5) need hj (b:=3) (by omega) (n + 1)
 have h4:=in_last (n + 5) need (64 * 2 ^ j:Int) n
 have e0:(0:Int)=((0:Nat):Int):=rfl
 rw [e0,h0,h1,h2,h3,h4]
 simp only [Nat.add_zero]
 cases decide (need≤cls (4 * j))<;>cases decide (need≤cls (4 * j + 1))<;>cases decide (need≤cls (4 * j + 2))<;>cases decide (need≤cls (4 * j + 3))<;>rfl
theorem loop42 (F:Nat) (need:Int) (hF:5≤F) (hn:need≤cls 37):∀ (i j fuel:Nat),j + i=9->i < fuel->iter (fun s=>L80_3 F need s) fuel (64 * 2 ^ j:Int)=some (fc need (37 - 4 * j) (4 * j))
 | 0,j,fuel + 1,hj,hf=>by
  have:j=9:=by omega
  subst this
  simp only [iter,L80_3,L80_3c]
  rw [inner F need (j:=9) (by omega) hF]
  have e1:decide (need≤cls (4 * 9 + 1))=true:=by simpa using hn
  simp only [e1,Option.bind_some]
  show _=some (fc need 1 36)
  rw [fc_step]
  show _=some (bif decide (need≤cls (4 * 9)) then cls (4 * 9) else cls (4 * 9 + 1))
  cases decide (need≤cls (4 * 9))<;>rfl
 | i + 1,j,fuel + 1,hj,hf=>by
  simp only [iter,L80_3,L80_3c]
  rw [inner F need (j:=j) (by omega) hF]
  have ih:=loop42 F need hF hn i (j + 1) fuel (by omega) (by omega)
  obtain ⟨m,hm⟩:∃ m,37 - 4 * j=m + 4:=⟨33 - 4 * j,by omega⟩
  have hm':37 - 4 * (j + 1)=m:=by omega
  rw [hm,fc_step,fc_step,fc_step,fc_step]
  rw [hm'] at ih
  rw [show 4 * j + 1 + 1=4 * j + 2 from rfl,show 4 * j + 2 + 1=4 * j + 3 from rfl,show 4 * j + 3 + 1=4 * (j + 1) from by omega]
  cases decide (need≤cls (4 * j))<;>cases decide (need≤cls (4 * j + 1))<;>cases decide (need≤cls (4 * j + 2))<;>cases decide (need≤cls (4 * j + 3)) <;>
   simp only [cond_true,cond_false,Option.bind_some,elimS,dbl (show j < 9 by omega)]
  exact ih
theorem shr7 (x:UInt64):(shr64 x 7).toNat=x.toNat / 128:=by
 show (x.toBitVec >>> 7).toNat=_
 rw [BitVec.toNat_ushiftRight,Nat.shiftRight_eq_div_pow];rfl
def sz (n:Nat):Nat:=if n < 128 then 1 else if n < 16384 then 2 else 3
theorem it_again {σ ρ:Type} {f:σ->Option (σ ⊕ ρ)} {n:Nat} {s s':σ} (h:f s=some (.inl s')):iter f (n + 1) s=iter f n s':=by simp [iter,h]
theorem it_out {σ ρ:Type} {f:σ->Option (σ ⊕ ρ)} {n:Nat} {s:σ} {r:ρ} (h:f s=some (.inr r)):iter f (n + 1) s=some r:=by simp [iter,h]
theorem l40_again (F:Nat) {x:UInt64} {c:Int} (h:128≤x.toNat):L74_2 F x c=some (.inl (shr64 x 7,w64 (c + 1))):=by
 have:UInt64.ofNat 128≤x:=h
 simp only [L74_2,L74_2c,this,decide_true,cond_true];rfl
theorem l40_out (F:Nat) {x:UInt64} {c:Int} (h:¬ 128≤x.toNat):L74_2 F x c=some (.inr c):=by
 have:¬ UInt64.ofNat 128≤x:=h
 simp only [L74_2,L74_2c,this,decide_false,cond_false]
theorem t40 {F:Nat} (hF:4 < F) (x:UInt64) (hx:x.toNat≤32768):T74 F x=some ((sz x.toNat:Nat):Int):=by
 obtain ⟨n,rfl⟩:∃ n,F=n + 4:=⟨F - 4,by omega⟩
 have w1:w64 ((1:Int) + 1)=2:=by decide
 have w2:w64 ((2:Int) + 1)=3:=by decide
 have d1:=shr7 x
 have d2:=shr7 (shr64 x 7)
 simp only [T74,T74c]
 by_cases h1:x.toNat < 128
 ·rw [it_out (l40_out _ (x:=x) (by omega))];simp [sz,h1]
 ·rw [it_again (l40_again _ (x:=x) (by omega)),w1]
  by_cases h2:x.toNat < 16384
  ·rw [it_out (l40_out _ (x:=shr64 x 7) (by omega))];simp [sz,h1,h2]
  ·rw [it_again (l40_again _ (x:=shr64 x 7) (by omega)),w2,it_out (l40_out _ (x:=shr64 (shr64 x 7) 7) (by omega))];simp [sz,h1,h2]
theorem div128 (x:UInt64):(x / UInt64.ofNat 128).toNat=x.toNat / 128:=by
 rw [UInt64.toNat_div];rfl
theorem l45_again (F:Nat) {x:UInt64} {l:List UInt8} (h:127 < x.toNat) (hl:l.length < 100):∃ b,L67_2 F x l=some (.inl (x / UInt64.ofNat 128,l ++ [b])):=by
 have:UInt64.ofNat 127 < x:=h
 refine ⟨((x % (UInt64.ofNat 128)).toUInt8) + (UInt8.ofNat 128),?_⟩
 simp only [L67_2,L67_2c,this,decide_true,cond_true,gapp]
 rw [if_pos (by simp;omega)];rfl
theorem l45_out (F:Nat) {x:UInt64} {l:List UInt8} (h:¬ 127 < x.toNat):L67_2 F x l=some (.inr (x,l)):=by
 have:¬ UInt64.ofNat 127 < x:=h
 simp only [L67_2,L67_2c,this,decide_false,cond_false]
theorem t45 {F:Nat} (hF:4 < F) (x:UInt64) (hx:x.toNat≤32768):∃ l,T67 F x=some l∧l.length=sz x.toNat:=by
 obtain ⟨n,rfl⟩:∃ n,F=n + 4:=⟨F - 4,by omega⟩
 have d1:=div128 x
 have d2:=div128 (x / UInt64.ofNat 128)
 simp only [T67,T67c]
 by_cases h1:x.toNat < 128
 ·rw [it_out (l45_out _ (x:=x) (by omega))];simp [sz,h1,gapp]
 ·obtain ⟨b,hb⟩:=l45_again (n + 4) (x:=x) (l:=[]) (by omega) (by simp)
  rw [it_again (f:=fun s:UInt64×List UInt8=>L67_2 (n + 4) s.1 s.2) (s:=(x,[])) hb]
  by_cases h2:x.toNat < 16384
  ·rw [it_out (l45_out _ (x:=x / UInt64.ofNat 128) (by omega))];simp [sz,h1,h2,gapp]
  ·obtain ⟨b',hb'⟩:=l45_again (n + 4) (x:=x / UInt64.ofNat 128) (l:=[] ++ [b]) (by omega) (by simp)
   rw [it_again (f:=fun s:UInt64×List UInt8=>L67_2 (n + 4) s.1 s.2) (s:=(x / UInt64.ofNat 128,[] ++ [b])) hb',it_out (l45_out _ (x:=x / UInt64.ofNat 128 / UInt64.ofNat 128) (by omega))];simp [sz,h1,h2,gapp]
def need (n:Int):Int:=(sz n.toNat:Int) + n + 16
def clsOf (n:Int):Int:=fc (need n) 37 0
theorem class_in {F:Nat} (hF:50 < F) {n:Int} (h0:0≤n) (h1:n≤32768):T37 F n=some (clsOf n,0)∧T81 F n=some (need n)∧T80 F (need n)=some (clsOf n):=by
 have h0':¬ n < 0:=by omega
 have h1':¬ 32768 < n:=by omega
 have hx:(UInt64.ofInt n).toNat=n.toNat:=by
  show (UInt64.ofNat (n % 2 ^ 64).toNat).toNat=_
  rw [UInt64.toNat_ofNat'];omega
 have hx':(UInt64.ofInt n).toNat≤32768:=by omega
 obtain ⟨l,hl,hll⟩:=t45 (F:=F) (by omega) (UInt64.ofInt n) hx'
 have h41:T75 F=some ((2 ^ (0 / 4):Int),((0 % 4:Nat):Int)):=rfl
 have hs:1≤sz n.toNat∧sz n.toNat≤3:=by unfold sz;split<;>(try split)<;>omega
 have hw:w64 (w64 (((sz n.toNat:Nat):Int) + n) + 16)=need n:=by
  rw [w64_in (n:=((sz n.toNat:Nat):Int) + n) (by omega) (by omega),w64_in (by omega) (by omega)];rfl
 have hneed:need n≤cls 37:=by
  have:cls 37=40960:=by decide
  unfold need
  omega
 refine ⟨?_,?_,?_⟩
 ·simp only [T37,T37c,h0',h1',decide_false,cond_false]
  rw [t40 (by omega) _ hx',h41]
  simp only [Option.bind_some]
  rw [t59 (k:=0) (by omega)]
  simp only [Option.bind_some]
  have l14:=loop14 F (need n) 37 0 F (by omega) (by omega) hneed
  rw [hx,hw,l14];rfl
 ·simp only [T81,T81c,hl,Option.bind_some,hll,hx,hw]
 ·have l42:=loop42 F (need n) (by omega) hneed 9 0 F (by omega) (by omega)
  simp only [T80,T80c]
  have e:(64:Int)=64 * 2 ^ 0:=by decide
  rw [e,l42];rfl
theorem refclass {F:Nat} (hF:50 < F) {n:Int} (h0:0≤n) (h1:n≤32768):T42 F n=some (clsOf n):=by
 obtain ⟨_,h2,h3⟩:=class_in hF h0 h1
 simp only [T42,T42c,h2,h3,Option.bind_some]
theorem iter2 {σ τ ρ ρ':Type} {f:σ->Option (σ ⊕ ρ)} {g:τ->Option (τ ⊕ ρ')} (R:σ->τ->Prop) (Q:ρ->ρ'->Prop) (μ:σ->Nat)
  (h:∀ s t,R s t->(∃ s' t',f s=some (.inl s')∧g t=some (.inl t')∧R s' t'∧μ s' < μ s)∨(∃ r r',f s=some (.inr r)∧g t=some (.inr r')∧Q r r')) :
  ∀ (n m:Nat) (s:σ) (t:τ),R s t->μ s < n->μ s < m->∃ r r',iter f n s=some r∧iter g m t=some r'∧Q r r'
 | 0,m,s,t,hR,hn,hm=>absurd hn (by omega)
 | n + 1,0,s,t,hR,hn,hm=>absurd hm (by omega)
 | n + 1,m + 1,s,t,hR,hn,hm=>by
  rcases h s t hR with ⟨s',t',h1,h2,h3,h4⟩ | ⟨r,r',h1,h2,h3⟩
  ·rw [it_again h1,it_again h2]
   exact iter2 R Q μ h n m s' t' h3 (by omega) (by omega)
  ·exact ⟨r,r',it_out h1,it_out h2,h3⟩
theorem iterP {σ τ ρ ρ':Type} {f:σ->Option (σ ⊕ ρ)} {g:τ->Option (τ ⊕ ρ')} (R:σ->τ->Prop) (Q:σ->ρ'->Prop) (μ:σ->Nat)
  (h:∀ s t,R s t->(∃ s' t',f s=some (.inl s')∧g t=some (.inl t')∧R s' t'∧μ s' < μ s)∨(∃ r',g t=some (.inr r')∧Q s r')) :
  ∀ (m:Nat) (s:σ) (t:τ),R s t->μ s < m->∃ k s' r',k≤μ s∧iter g m t=some r'∧Q s' r'∧∀ n,iter f (n + k) s=iter f n s'
 | 0,s,t,hR,hm=>absurd hm (by omega)
 | m + 1,s,t,hR,hm=>by
  rcases h s t hR with ⟨s',t',h1,h2,h3,h4⟩ | ⟨r',h1,h2⟩
  ·obtain ⟨k,s'',r',a1,a2,a3,a4⟩:=iterP R Q μ h m s' t' h3 (by omega)
   exact ⟨k + 1,s'',r',by omega,(it_again h2).trans a2,a3,fun n=>(it_again (n:=n + k) h1).trans (a4 n)⟩
  ·exact ⟨0,s,r',by omega,it_out h1,h2,fun n=>rfl⟩
theorem inb_nat {n i:Nat} (h:i < n):inb n ((i:Nat):Int)=some i:=by
 unfold inb;rw [if_pos (by omega)];simp only [Int.toNat_natCast]
theorem vat_nat {α:Type} {n i:Nat} {v:Vector α n} (h:i < n):vat v i=some v[i]:=by
 rw [vat_eq];exact getElem?_pos v i h
theorem vix_nat {α:Type} {n i:Nat} {v:Vector α n} (h:i < n):vix v ((i:Nat):Int)=some v[i]:=by
 unfold vix;rw [if_pos (by omega)];simp only [Int.toNat_natCast];exact getElem?_pos v i h
theorem gsl_nat {α:Type} {l:List α} {a b:Nat} (h:a≤b) (hb:b≤l.length):gsl l ((a:Nat):Int) ((b:Nat):Int)=some ((l.drop a).take (b - a)):=by
 unfold gsl;rw [if_pos (by omega)];simp only [Int.toNat_natCast]
theorem gslb_nat {n a b:Nat} (h:a≤b) (hb:b≤n):gslb n ((a:Nat):Int) ((b:Nat):Int)=some (a,b):=by
 unfold gslb;rw [if_pos (by omega)];simp only [Int.toNat_natCast]
theorem ix_nat {α:Type} {l:List α} {i:Nat} (h:i < l.length):ix l ((i:Nat):Int)=some l[i]:=ixn (List.getElem?_eq_getElem h)
theorem ix_dt {p:List UInt8} {a k:Nat} (h:a + k < p.length) (hk:k < 4):ix ((p.drop a).take 4) ((k:Nat):Int)=some p[a + k]:=by
 rw [ix_nat (by simp;omega)];simp
def rr (x:UInt32) (k:Nat):UInt32:=shr32 x k ||| shl32 x (32 - k)
theorem a94_17 (F:Nat) (x:UInt32):T170 F x (-17)=some (rr x 17):=by
 have e1:((UInt64.ofInt (-17)) &&& (UInt64.ofNat 31)).toNat=15:=by decide +kernel
 have e2:((UInt64.ofNat 32) - ((UInt64.ofInt (-17)) &&& (UInt64.ofNat 31))).toNat=17:=by decide +kernel
 simp only [T170,T170c,e1,e2,rr]
 rw [UInt32.or_comm]
theorem a93_17 (F:Nat) (x:UInt32):T158 F x 17=some (rr x 17):=by
 have e1:gnn (17:Int)=some 17:=by decide +kernel
 have e2:gnn (w64 ((32:Int) - 17))=some 15:=by decide +kernel
 simp only [T158,T158c,e1,e2,rr,Option.bind_some]
theorem a94_19 (F:Nat) (x:UInt32):T170 F x (-19)=some (rr x 19):=by
 have e1:((UInt64.ofInt (-19)) &&& (UInt64.ofNat 31)).toNat=13:=by decide +kernel
 have e2:((UInt64.ofNat 32) - ((UInt64.ofInt (-19)) &&& (UInt64.ofNat 31))).toNat=19:=by decide +kernel
 simp only [T170,T170c,e1,e2,rr]
 rw [UInt32.or_comm]
theorem a93_19 (F:Nat) (x:UInt32):T158 F x 19=some (rr x 19):=by
 have e1:gnn (19:Int)=some 19:=by decide +kernel
 have e2:gnn (w64 ((32:Int) - 19))=some 13:=by decide +kernel
 simp only [T158,T158c,e1,e2,rr,Option.bind_some]
theorem a94_7 (F:Nat) (x:UInt32):T170 F x (-7)=some (rr x 7):=by
 have e1:((UInt64.ofInt (-7)) &&& (UInt64.ofNat 31)).toNat=25:=by decide +kernel
 have e2:((UInt64.ofNat 32) - ((UInt64.ofInt (-7)) &&& (UInt64.ofNat 31))).toNat=7:=by decide +kernel
 simp only [T170,T170c,e1,e2,rr]
 rw [UInt32.or_comm]
theorem a93_7 (F:Nat) (x:UInt32):T158 F x 7=some (rr x 7):=by
 have e1:gnn (7:Int)=some 7:=by decide +kernel
 have e2:gnn (w64 ((32:Int) - 7))=some 25:=by decide +kernel
 simp only [T158,T158c,e1,e2,rr,Option.bind_some]
theorem a94_18 (F:Nat) (x:UInt32):T170 F x (-18)=some (rr x 18):=by
 have e1:((UInt64.ofInt (-18)) &&& (UInt64.ofNat 31)).toNat=14:=by decide +kernel
 have e2:((UInt64.ofNat 32) - ((UInt64.ofInt (-18)) &&& (UInt64.ofNat 31))).toNat=18:=by decide +kernel
 simp only [T170,T170c,e1,e2,rr]
 rw [UInt32.or_comm]
theorem a93_18 (F:Nat) (x:UInt32):T158 F x 18=some (rr x 18):=by
 have e1:gnn (18:Int)=some 18:=by decide +kernel
 have e2:gnn (w64 ((32:Int) - 18))=some 14:=by decide +kernel
 simp only [T158,T158c,e1,e2,rr,Option.bind_some]
theorem a94_6 (F:Nat) (x:UInt32):T170 F x (-6)=some (rr x 6):=by
 have e1:((UInt64.ofInt (-6)) &&& (UInt64.ofNat 31)).toNat=26:=by decide +kernel
 have e2:((UInt64.ofNat 32) - ((UInt64.ofInt (-6)) &&& (UInt64.ofNat 31))).toNat=6:=by decide +kernel
 simp only [T170,T170c,e1,e2,rr]
 rw [UInt32.or_comm]
theorem a93_6 (F:Nat) (x:UInt32):T158 F x 6=some (rr x 6):=by
 have e1:gnn (6:Int)=some 6:=by decide +kernel
 have e2:gnn (w64 ((32:Int) - 6))=some 26:=by decide +kernel
 simp only [T158,T158c,e1,e2,rr,Option.bind_some]
theorem a94_11 (F:Nat) (x:UInt32):T170 F x (-11)=some (rr x 11):=by
 have e1:((UInt64.ofInt (-11)) &&& (UInt64.ofNat 31)).toNat=21:=by decide +kernel
 have e2:((UInt64.ofNat 32) - ((UInt64.ofInt (-11)) &&& (UInt64.ofNat 31))).toNat=11:=by decide +kernel
 simp only [T170,T170c,e1,e2,rr]
 rw [UInt32.or_comm]
theorem a93_11 (F:Nat) (x:UInt32):T158 F x 11=some (rr x 11):=by
 have e1:gnn (11:Int)=some 11:=by decide +kernel
 have e2:gnn (w64 ((32:Int) - 11))=some 21:=by decide +kernel
 simp only [T158,T158c,e1,e2,rr,Option.bind_some]
theorem a94_25 (F:Nat) (x:UInt32):T170 F x (-25)=some (rr x 25):=by
 have e1:((UInt64.ofInt (-25)) &&& (UInt64.ofNat 31)).toNat=7:=by decide +kernel
 have e2:((UInt64.ofNat 32) - ((UInt64.ofInt (-25)) &&& (UInt64.ofNat 31))).toNat=25:=by decide +kernel
 simp only [T170,T170c,e1,e2,rr]
 rw [UInt32.or_comm]
theorem a93_25 (F:Nat) (x:UInt32):T158 F x 25=some (rr x 25):=by
 have e1:gnn (25:Int)=some 25:=by decide +kernel
 have e2:gnn (w64 ((32:Int) - 25))=some 7:=by decide +kernel
 simp only [T158,T158c,e1,e2,rr,Option.bind_some]
theorem a94_2 (F:Nat) (x:UInt32):T170 F x (-2)=some (rr x 2):=by
 have e1:((UInt64.ofInt (-2)) &&& (UInt64.ofNat 31)).toNat=30:=by decide +kernel
 have e2:((UInt64.ofNat 32) - ((UInt64.ofInt (-2)) &&& (UInt64.ofNat 31))).toNat=2:=by decide +kernel
 simp only [T170,T170c,e1,e2,rr]
 rw [UInt32.or_comm]
theorem a93_2 (F:Nat) (x:UInt32):T158 F x 2=some (rr x 2):=by
 have e1:gnn (2:Int)=some 2:=by decide +kernel
 have e2:gnn (w64 ((32:Int) - 2))=some 30:=by decide +kernel
 simp only [T158,T158c,e1,e2,rr,Option.bind_some]
theorem a94_13 (F:Nat) (x:UInt32):T170 F x (-13)=some (rr x 13):=by
 have e1:((UInt64.ofInt (-13)) &&& (UInt64.ofNat 31)).toNat=19:=by decide +kernel
 have e2:((UInt64.ofNat 32) - ((UInt64.ofInt (-13)) &&& (UInt64.ofNat 31))).toNat=13:=by decide +kernel
 simp only [T170,T170c,e1,e2,rr]
 rw [UInt32.or_comm]
theorem a93_13 (F:Nat) (x:UInt32):T158 F x 13=some (rr x 13):=by
 have e1:gnn (13:Int)=some 13:=by decide +kernel
 have e2:gnn (w64 ((32:Int) - 13))=some 19:=by decide +kernel
 simp only [T158,T158c,e1,e2,rr,Option.bind_some]
theorem a94_22 (F:Nat) (x:UInt32):T170 F x (-22)=some (rr x 22):=by
 have e1:((UInt64.ofInt (-22)) &&& (UInt64.ofNat 31)).toNat=10:=by decide +kernel
 have e2:((UInt64.ofNat 32) - ((UInt64.ofInt (-22)) &&& (UInt64.ofNat 31))).toNat=22:=by decide +kernel
 simp only [T170,T170c,e1,e2,rr]
 rw [UInt32.or_comm]
theorem a93_22 (F:Nat) (x:UInt32):T158 F x 22=some (rr x 22):=by
 have e1:gnn (22:Int)=some 22:=by decide +kernel
 have e2:gnn (w64 ((32:Int) - 22))=some 10:=by decide +kernel
 simp only [T158,T158c,e1,e2,rr,Option.bind_some]
def wd4 (a b c d:UInt8):UInt32:=(((shl32 (a.toUInt32) ((UInt64.ofNat 24).toNat)) ||| (shl32 (b.toUInt32) ((UInt64.ofNat 16).toNat))) ||| (shl32 (c.toUInt32) ((UInt64.ofNat 8).toNat))) ||| (d.toUInt32)
def sch4 (a b c d:UInt32):UInt32:=((((rr a 17 ^^^ rr a 19) ^^^ (shr32 a ((UInt64.ofNat 10).toNat))) + b) + ((rr c 7 ^^^ rr c 18) ^^^ (shr32 c ((UInt64.ofNat 3).toNat)))) + d
theorem s91_lo (F:Nat) {p:List UInt8} (hp:p.length=64) {i:Nat} (hi:i < 16) (w:Vector UInt32 64) :
  L153x1_4 F p ((i:Nat):Int) w=some (.inl (((i + 1:Nat):Int),w.setIfInBounds i (wd4 p[4 * i] p[4 * i + 1] p[4 * i + 2] p[4 * i + 3]))):=by
 have h1:(((i:Nat):Int) < 64):=by omega
 have h2:(((i:Nat):Int) < 16):=by omega
 have e1:w64 ((4:Int) * ((i:Nat):Int))=((4 * i:Nat):Int):=by rw [w64_in (by omega) (by omega)];omega
 have e2:w64 (((4 * i:Nat):Int) + 4)=((4 * i + 4:Nat):Int):=by rw [w64_in (by omega) (by omega)];omega
 have e3:w64 (((i:Nat):Int) + 1)=((i + 1:Nat):Int):=by rw [w64_in (by omega) (by omega)];omega
 have g:gsl p ((4 * i:Nat):Int) ((4 * i + 4:Nat):Int)=some ((p.drop (4 * i)).take 4):=by
  rw [gsl_nat (by omega) (by omega),Nat.add_sub_cancel_left]
 have x0:ix ((p.drop (4 * i)).take 4) (0:Int)=some p[4 * i]:=ix_dt (k:=0) (by omega) (by omega)
 have x1:ix ((p.drop (4 * i)).take 4) (1:Int)=some p[4 * i + 1]:=ix_dt (k:=1) (by omega) (by omega)
 have x2:ix ((p.drop (4 * i)).take 4) (2:Int)=some p[4 * i + 2]:=ix_dt (k:=2) (by omega) (by omega)
 have x3:ix ((p.drop (4 * i)).take 4) (3:Int)=some p[4 * i + 3]:=ix_dt (k:=3) (by omega) (by omega)
 have n:inb 64 ((i:Nat):Int)=some i:=inb_nat (by omega)
 simp only [L153x1_4,L153x1_4c,h1,h2,decide_true,cond_true,e1,e2,e3,g,x0,x1,x2,x3,n,Option.bind_some,wd4]
theorem s85_lo (F:Nat) {p:List UInt8} (hp:p.length=64) {i:Nat} (hi:i < 16) (w:Vector UInt32 64) :
  L129_5 F p ((i:Nat):Int) w=some (.inl (((i + 1:Nat):Int),w.setIfInBounds i (wd4 p[4 * i] p[4 * i + 1] p[4 * i + 2] p[4 * i + 3]))):=by
 have h2:(((i:Nat):Int) < 16):=by omega
 have e1:w64 ((4:Int) * ((i:Nat):Int))=((4 * i:Nat):Int):=by rw [w64_in (by omega) (by omega)];omega
 have f1:w64 (((4 * i:Nat):Int) + 1)=((4 * i + 1:Nat):Int):=by rw [w64_in (by omega) (by omega)];omega
 have f2:w64 (((4 * i:Nat):Int) + 2)=((4 * i + 2:Nat):Int):=by rw [w64_in (by omega) (by omega)];omega
 have f3:w64 (((4 * i:Nat):Int) + 3)=((4 * i + 3:Nat):Int):=by rw [w64_in (by omega) (by omega)];omega
 have e3:w64 (((i:Nat):Int) + 1)=((i + 1:Nat):Int):=by rw [w64_in (by omega) (by omega)];omega
 have x0:ix p ((4 * i:Nat):Int)=some p[4 * i]:=ix_nat (by omega)
 have x1:ix p ((4 * i + 1:Nat):Int)=some p[4 * i + 1]:=ix_nat (by omega)
 have x2:ix p ((4 * i + 2:Nat):Int)=some p[4 * i + 2]:=ix_nat (by omega)
 have x3:ix p ((4 * i + 3:Nat):Int)=some p[4 * i + 3]:=ix_nat (by omega)
 have n:inb 64 ((i:Nat):Int)=some i:=inb_nat (by omega)
 simp only [L129_5,L129_5c,h2,decide_true,cond_true,e1,e3,f1,f2,f3,x0,x1,x2,x3,n,Option.bind_some,wd4]
theorem s91_hi (F:Nat) (p:List UInt8) {i:Nat} (h16:16≤i) (hi:i < 64) (w:Vector UInt32 64) :
  L153x1_4 F p ((i:Nat):Int) w=some (.inl (((i + 1:Nat):Int),w.setIfInBounds i (sch4 w[i - 2] w[i - 7] w[i - 15] w[i - 16]))):=by
 have h1:(((i:Nat):Int) < 64):=by omega
 have h2:¬ (((i:Nat):Int) < 16):=by omega
 have e3:w64 (((i:Nat):Int) + 1)=((i + 1:Nat):Int):=by rw [w64_in (by omega) (by omega)];omega
 have f1:w64 (((i:Nat):Int) - 2)=((i - 2:Nat):Int):=by rw [w64_in (by omega) (by omega)];omega
 have f2:w64 (((i:Nat):Int) - 7)=((i - 7:Nat):Int):=by rw [w64_in (by omega) (by omega)];omega
 have f3:w64 (((i:Nat):Int) - 15)=((i - 15:Nat):Int):=by rw [w64_in (by omega) (by omega)];omega
 have f4:w64 (((i:Nat):Int) - 16)=((i - 16:Nat):Int):=by rw [w64_in (by omega) (by omega)];omega
 have n:inb 64 ((i:Nat):Int)=some i:=inb_nat (by omega)
 have n1:inb 64 ((i - 2:Nat):Int)=some (i - 2):=inb_nat (by omega)
 have n2:inb 64 ((i - 7:Nat):Int)=some (i - 7):=inb_nat (by omega)
 have n3:inb 64 ((i - 15:Nat):Int)=some (i - 15):=inb_nat (by omega)
 have n4:inb 64 ((i - 16:Nat):Int)=some (i - 16):=inb_nat (by omega)
 have v1:vat w (i - 2)=some w[i - 2]:=vat_nat (by omega)
 have v2:vat w (i - 7)=some w[i - 7]:=vat_nat (by omega)
 have v3:vat w (i - 15)=some w[i - 15]:=vat_nat (by omega)
 have v4:vat w (i - 16)=some w[i - 16]:=vat_nat (by omega)
 simp only [L153x1_4,L153x1_4c,h1,h2,decide_true,decide_false,cond_true,cond_false,e3,f1,f2,f3,f4,n,n1,n2,n3,n4,v1,v2,v3,v4,a94_17,a94_19,a94_7,a94_18,Option.bind_some,sch4]
theorem s85_hi (F:Nat) {i:Nat} (h16:16≤i) (hi:i < 64) (w:Vector UInt32 64) :
  L129_6 F ((i:Nat):Int) w=some (.inl (((i + 1:Nat):Int),w.setIfInBounds i (sch4 w[i - 2] w[i - 7] w[i - 15] w[i - 16]))):=by
 have h1:(((i:Nat):Int) < 64):=by omega
 have e3:w64 (((i:Nat):Int) + 1)=((i + 1:Nat):Int):=by rw [w64_in (by omega) (by omega)];omega
 have f1:w64 (((i:Nat):Int) - 2)=((i - 2:Nat):Int):=by rw [w64_in (by omega) (by omega)];omega
 have f2:w64 (((i:Nat):Int) - 7)=((i - 7:Nat):Int):=by rw [w64_in (by omega) (by omega)];omega
 have f3:w64 (((i:Nat):Int) - 15)=((i - 15:Nat):Int):=by rw [w64_in (by omega) (by omega)];omega
 have f4:w64 (((i:Nat):Int) - 16)=((i - 16:Nat):Int):=by rw [w64_in (by omega) (by omega)];omega
 have n:inb 64 ((i:Nat):Int)=some i:=inb_nat (by omega)
 have n1:inb 64 ((i - 2:Nat):Int)=some (i - 2):=inb_nat (by omega)
 have n2:inb 64 ((i - 7:Nat):Int)=some (i - 7):=inb_nat (by omega)
 have n3:inb 64 ((i - 15:Nat):Int)=some (i - 15):=inb_nat (by omega)
 have n4:inb 64 ((i - 16:Nat):Int)=some (i - 16):=inb_nat (by omega)
 have v1:vat w (i - 2)=some w[i - 2]:=vat_nat (by omega)
 have v2:vat w (i - 7)=some w[i - 7]:=vat_nat (by omega)
 have v3:vat w (i - 15)=some w[i - 15]:=vat_nat (by omega)
 have v4:vat w (i - 16)=some w[i - 16]:=vat_nat (by omega)
 simp only [L129_6,L129_6c,h1,decide_true,cond_true,e3,f1,f2,f3,f4,n,n1,n2,n3,n4,v1,v2,v3,v4,a93_17,a93_19,a93_7,a93_18,Option.bind_some,sch4]
theorem sched {F:Nat} (hF:100 < F) {p:List UInt8} (hp:p.length=64):∃ w w0,iter (fun s:Int×Vector UInt32 64=>L153x1_4 F p s.1 s.2) F ((0:Int),(Vector.replicate 64 (0:UInt32)))=some w ∧
  iter (fun s:Int×Vector UInt32 64=>L129_5 F p s.1 s.2) F ((0:Int),(Vector.replicate 64 (0:UInt32)))=some w0∧iter (fun s:Int×Vector UInt32 64=>L129_6 F s.1 s.2) F ((16:Int),w0)=some w:=by
 obtain ⟨k,s',w0,a1,a2,a3,a4⟩:=iterP (f:=fun s:Int×Vector UInt32 64=>L153x1_4 F p s.1 s.2) (g:=fun s:Int×Vector UInt32 64=>L129_5 F p s.1 s.2)
  (fun s t=>s=t∧∃ i:Nat,s.1=i∧i≤16) (fun s r=>s=((16:Int),r)) (fun s=>16 - s.1.toNat) (by
   rintro ⟨a,w⟩ t ⟨rfl,i,hi,h16⟩
   simp only at hi
   subst hi
   by_cases h:i < 16
   ·exact .inl ⟨_,_,s91_lo F hp h w,s85_lo F hp h w,⟨rfl,i + 1,rfl,by omega⟩,by simp only [Int.toNat_natCast];omega⟩
   ·obtain rfl:i=16:=by omega
    exact .inr ⟨w,rfl,rfl⟩) F ((0:Int),(Vector.replicate 64 (0:UInt32))) ((0:Int),(Vector.replicate 64 (0:UInt32))) ⟨rfl,0,rfl,by omega⟩ (by simp only [Int.toNat_zero];omega)
 simp only [Int.toNat_zero,Nat.sub_zero] at a1
 subst a3
 obtain ⟨w,w',b1,b2,b3⟩:=iter2 (f:=fun s:Int×Vector UInt32 64=>L153x1_4 F p s.1 s.2) (g:=fun s:Int×Vector UInt32 64=>L129_6 F s.1 s.2)
  (fun s t=>s=t∧∃ i:Nat,s.1=i∧16≤i∧i≤64) (fun r r'=>r=r') (fun s=>64 - s.1.toNat) (by
   rintro ⟨a,w⟩ t ⟨rfl,i,hi,h16,h64⟩
   simp only at hi
   subst hi
   by_cases h:i < 64
   ·exact .inl ⟨_,_,s91_hi F p h16 h w,s85_hi F h16 h w,⟨rfl,i + 1,rfl,by omega,by omega⟩,by simp only [Int.toNat_natCast];omega⟩
   ·obtain rfl:i=64:=by omega
    exact .inr ⟨w,w,rfl,rfl,rfl⟩) (F - k) F ((16:Int),w0) ((16:Int),w0) ⟨rfl,16,rfl,by omega,by omega⟩ (by have:((16:Int)).toNat=16:=rfl;simp only [this];omega) (by have:((16:Int)).toNat=16:=rfl;simp only [this];omega)
 subst b3
 refine ⟨w,w0,?_,a2,b2⟩
 have:=a4 (F - k)
 rw [Nat.sub_add_cancel (by omega)] at this
 rw [this,b1]
theorem s91v_lo (F:Nat) (v:Vector UInt8 64) {i:Nat} (hi:i < 16) (w:Vector UInt32 64) :
  L153_4 F v (0,64) ((i:Nat):Int) w=some (.inl ((0,64),((i + 1:Nat):Int),w.setIfInBounds i (wd4 v[4 * i] v[4 * i + 1] v[4 * i + 2] v[4 * i + 3]))):=by
 have h1:(((i:Nat):Int) < 64):=by omega
 have h2:(((i:Nat):Int) < 16):=by omega
 have e1:w64 ((4:Int) * ((i:Nat):Int))=((4 * i:Nat):Int):=by rw [w64_in (by omega) (by omega)];omega
 have e2:w64 (((4 * i:Nat):Int) + 4)=((4 * i + 4:Nat):Int):=by rw [w64_in (by omega) (by omega)];omega
 have e3:w64 (((i:Nat):Int) + 1)=((i + 1:Nat):Int):=by rw [w64_in (by omega) (by omega)];omega
 have g:gslb 64 ((4 * i:Nat):Int) ((4 * i + 4:Nat):Int)=some (4 * i,4 * i + 4):=gslb_nat (by omega) (by omega)
 have m0:inb 4 (0:Int)=some 0:=by decide
 have m1:inb 4 (1:Int)=some 1:=by decide
 have m2:inb 4 (2:Int)=some 2:=by decide
 have m3:inb 4 (3:Int)=some 3:=by decide
 have x0:vat v (4 * i)=some v[4 * i]:=vat_nat (by omega)
 have x1:vat v (4 * i + 1)=some v[4 * i + 1]:=vat_nat (by omega)
 have x2:vat v (4 * i + 2)=some v[4 * i + 2]:=vat_nat (by omega)
 have x3:vat v (4 * i + 3)=some v[4 * i + 3]:=vat_nat (by omega)
 have n:inb 64 ((i:Nat):Int)=some i:=inb_nat (by omega)
 simp only [L153_4,L153_4c,h1,h2,decide_true,cond_true,e1,e2,e3,Nat.sub_zero,Nat.zero_add,g,Nat.add_sub_cancel_left,m0,m1,m2,m3,Nat.add_zero,x0,x1,x2,x3,n,Option.bind_some,wd4]
theorem s91v_hi (F:Nat) (v:Vector UInt8 64) {i:Nat} (h16:16≤i) (hi:i < 64) (w:Vector UInt32 64) :
  L153_4 F v (0,64) ((i:Nat):Int) w=some (.inl ((0,64),((i + 1:Nat):Int),w.setIfInBounds i (sch4 w[i - 2] w[i - 7] w[i - 15] w[i - 16]))):=by
 have h1:(((i:Nat):Int) < 64):=by omega
 have h2:¬ (((i:Nat):Int) < 16):=by omega
 have e3:w64 (((i:Nat):Int) + 1)=((i + 1:Nat):Int):=by rw [w64_in (by omega) (by omega)];omega
 have f1:w64 (((i:Nat):Int) - 2)=((i - 2:Nat):Int):=by rw [w64_in (by omega) (by omega)];omega
 have f2:w64 (((i:Nat):Int) - 7)=((i - 7:Nat):Int):=by rw [w64_in (by omega) (by omega)];omega
 have f3:w64 (((i:Nat):Int) - 15)=((i - 15:Nat):Int):=by rw [w64_in (by omega) (by omega)];omega
 have f4:w64 (((i:Nat):Int) - 16)=((i - 16:Nat):Int):=by rw [w64_in (by omega) (by omega)];omega
 have n:inb 64 ((i:Nat):Int)=some i:=inb_nat (by omega)
 have n1:inb 64 ((i - 2:Nat):Int)=some (i - 2):=inb_nat (by omega)
 have n2:inb 64 ((i - 7:Nat):Int)=some (i - 7):=inb_nat (by omega)
 have n3:inb 64 ((i - 15:Nat):Int)=some (i - 15):=inb_nat (by omega)
 have n4:inb 64 ((i - 16:Nat):Int)=some (i - 16):=inb_nat (by omega)
 have v1:vat w (i - 2)=some w[i - 2]:=vat_nat (by omega)
 have v2:vat w (i - 7)=some w[i - 7]:=vat_nat (by omega)
 have v3:vat w (i - 15)=some w[i - 15]:=vat_nat (by omega)
 have v4:vat w (i - 16)=some w[i - 16]:=vat_nat (by omega)
 simp only [L153_4,L153_4c,h1,h2,decide_true,decide_false,cond_true,cond_false,e3,f1,f2,f3,f4,n,n1,n2,n3,n4,v1,v2,v3,v4,a94_17,a94_19,a94_7,a94_18,Option.bind_some,sch4]
theorem schedv {F:Nat} (hF:100 < F) (v:Vector UInt8 64):∃ w,iter (fun s:(Nat×Nat)×Int×Vector UInt32 64=>L153_4 F v s.1 s.2.1 s.2.2) F ((0,64),(0:Int),(Vector.replicate 64 (0:UInt32)))=some w ∧
  iter (fun s:Int×Vector UInt32 64=>L153x1_4 F v.toList s.1 s.2) F ((0:Int),(Vector.replicate 64 (0:UInt32)))=some w:=by
 have hl:v.toList.length=64:=by simp
 obtain ⟨w,w',b1,b2,b3⟩:=iter2 (f:=fun s:(Nat×Nat)×Int×Vector UInt32 64=>L153_4 F v s.1 s.2.1 s.2.2) (g:=fun s:Int×Vector UInt32 64=>L153x1_4 F v.toList s.1 s.2)
  (fun s t=>s=((0,64),t.1,t.2)∧∃ i:Nat,t.1=i∧i≤64) (fun r r'=>r=r') (fun s=>64 - s.2.1.toNat) (by
   rintro s ⟨a,w⟩ ⟨rfl,i,hi,h64⟩
   simp only at hi
   subst hi
   by_cases h:i < 64
   ·by_cases h16:i < 16
    ·have g:=s91_lo F hl h16 w
     simp only [Vector.getElem_toList] at g
     exact .inl ⟨_,_,s91v_lo F v h16 w,g,⟨rfl,i + 1,rfl,by omega⟩,by simp only [Int.toNat_natCast];omega⟩
    ·exact .inl ⟨_,_,s91v_hi F v (by omega) h w,s91_hi F v.toList (by omega) h w,⟨rfl,i + 1,rfl,by omega⟩,by simp only [Int.toNat_natCast];omega⟩
   ·obtain rfl:i=64:=by omega
    exact .inr ⟨w,w,rfl,rfl,rfl⟩) F F ((0,64),(0:Int),(Vector.replicate 64 (0:UInt32))) ((0:Int),(Vector.replicate 64 (0:UInt32))) ⟨rfl,0,rfl,by omega⟩ (by simp only [Int.toNat_zero];omega) (by simp only [Int.toNat_zero];omega)
 subst b3
 exact ⟨w,b1,b2⟩
def t1 (e f g h k w:UInt32):UInt32:=(((h + ((rr e 6 ^^^ rr e 11) ^^^ rr e 25)) + ((e &&& f) ^^^ ((~~~e) &&& g))) + k) + w
def t2 (a b c:UInt32):UInt32:=((rr a 2 ^^^ rr a 13) ^^^ rr a 22) + (((a &&& b) ^^^ (a &&& c)) ^^^ (b &&& c))
theorem r91 (F:Nat) (w:Vector UInt32 64) (a b c d e f g h:UInt32) {i:Nat} (hi:i < 64) :
  L153x1_5 F w a b c d e f g h ((i:Nat):Int)=some (.inl (t1 e f g h gv2[i] w[i] + t2 a b c,a,b,c,d + t1 e f g h gv2[i] w[i],e,f,g,((i + 1:Nat):Int))):=by
 have h1:(((i:Nat):Int) < 64):=by omega
 have e3:w64 (((i:Nat):Int) + 1)=((i + 1:Nat):Int):=by rw [w64_in (by omega) (by omega)];omega
 have n:inb 64 ((i:Nat):Int)=some i:=inb_nat (by omega)
 have v:vat w i=some w[i]:=vat_nat hi
 have x:vix gv2 ((i:Nat):Int)=some gv2[i]:=vix_nat hi
 simp only [L153x1_5,L153x1_5c,h1,decide_true,cond_true,a94_6,a94_11,a94_25,a94_2,a94_13,a94_22,Option.bind_some,x,n,v,e3,t1,t2]
theorem r85 (F:Nat) (w:Vector UInt32 64) (a b c d e f g h:UInt32) {i:Nat} (hi:i < 64) :
  L129_7 F gv2 w ((i:Nat):Int) #v[a,b,c,d,e,f,g,h]=some (.inl (((i + 1:Nat):Int),#v[t1 e f g h gv2[i] w[i] + t2 a b c,a,b,c,d + t1 e f g h gv2[i] w[i],e,f,g])):=by
 have h1:(((i:Nat):Int) < 64):=by omega
 have e3:w64 (((i:Nat):Int) + 1)=((i + 1:Nat):Int):=by rw [w64_in (by omega) (by omega)];omega
 have n:inb 64 ((i:Nat):Int)=some i:=inb_nat (by omega)
 have v:vat w i=some w[i]:=vat_nat hi
 have x:vat gv2 i=some gv2[i]:=vat_nat hi
 have y0:vat #v[a,b,c,d,e,f,g,h] 0=some a:=rfl
 have y1:vat #v[a,b,c,d,e,f,g,h] 1=some b:=rfl
 have y2:vat #v[a,b,c,d,e,f,g,h] 2=some c:=rfl
 have y3:vat #v[a,b,c,d,e,f,g,h] 3=some d:=rfl
 have y4:vat #v[a,b,c,d,e,f,g,h] 4=some e:=rfl
 have y5:vat #v[a,b,c,d,e,f,g,h] 5=some f:=rfl
 have y6:vat #v[a,b,c,d,e,f,g,h] 6=some g:=rfl
 have y7:vat #v[a,b,c,d,e,f,g,h] 7=some h:=rfl
 simp only [L129_7,L129_7c,h1,decide_true,cond_true,y0,y1,y2,y3,y4,y5,y6,y7,a93_6,a93_11,a93_25,a93_2,a93_13,a93_22,Option.bind_some,x,n,v,e3,t1,t2]
abbrev O8:=UInt32×UInt32×UInt32×UInt32×UInt32×UInt32×UInt32×UInt32
abbrev O9:=UInt32×UInt32×UInt32×UInt32×UInt32×UInt32×UInt32×UInt32×Int
def v8 (z:O8):Vector UInt32 8:=#v[z.1,z.2.1,z.2.2.1,z.2.2.2.1,z.2.2.2.2.1,z.2.2.2.2.2.1,z.2.2.2.2.2.2.1,z.2.2.2.2.2.2.2]
theorem rounds {F:Nat} (hF:100 < F) (w:Vector UInt32 64) (z:O8):∃ z':O8,
  iter (fun s:O9=>L153x1_5 F w s.1 s.2.1 s.2.2.1 s.2.2.2.1 s.2.2.2.2.1 s.2.2.2.2.2.1 s.2.2.2.2.2.2.1 s.2.2.2.2.2.2.2.1 s.2.2.2.2.2.2.2.2) F (z.1,z.2.1,z.2.2.1,z.2.2.2.1,z.2.2.2.2.1,z.2.2.2.2.2.1,z.2.2.2.2.2.2.1,z.2.2.2.2.2.2.2,(0:Int))=some z' ∧
  iter (fun s:Int×Vector UInt32 8=>L129_7 F gv2 w s.1 s.2) F ((0:Int),v8 z)=some (v8 z'):=by
 obtain ⟨r,r',b1,b2,b3⟩:=iter2 (f:=fun s:O9=>L153x1_5 F w s.1 s.2.1 s.2.2.1 s.2.2.2.1 s.2.2.2.2.1 s.2.2.2.2.2.1 s.2.2.2.2.2.2.1 s.2.2.2.2.2.2.2.1 s.2.2.2.2.2.2.2.2) (g:=fun s:Int×Vector UInt32 8=>L129_7 F gv2 w s.1 s.2)
  (fun s t=>t=(s.2.2.2.2.2.2.2.2,#v[s.1,s.2.1,s.2.2.1,s.2.2.2.1,s.2.2.2.2.1,s.2.2.2.2.2.1,s.2.2.2.2.2.2.1,s.2.2.2.2.2.2.2.1])∧∃ i:Nat,s.2.2.2.2.2.2.2.2=i∧i≤64) (fun r r'=>r'=v8 r) (fun s=>64 - s.2.2.2.2.2.2.2.2.toNat) (by
   rintro ⟨a,b,c,d,e,f,g,h,j⟩ t ⟨rfl,i,hi,h64⟩
   simp only at hi
   subst hi
   by_cases hi:i < 64
   ·exact .inl ⟨_,_,r91 F w a b c d e f g h hi,r85 F w a b c d e f g h hi,⟨rfl,i + 1,rfl,by omega⟩,by simp only [Int.toNat_natCast];omega⟩
   ·obtain rfl:i=64:=by omega
    exact .inr ⟨_,_,rfl,rfl,rfl⟩) F F (z.1,z.2.1,z.2.2.1,z.2.2.2.1,z.2.2.2.2.1,z.2.2.2.2.2.1,z.2.2.2.2.2.2.1,z.2.2.2.2.2.2.2,(0:Int)) ((0:Int),v8 z) ⟨rfl,0,rfl,by omega⟩ (by simp only [Int.toNat_zero];omega) (by simp only [Int.toNat_zero];omega)
 subst b3
 exact ⟨r,b1,b2⟩
theorem last {F:Nat} (hF:100 < F) (x p:Vector UInt32 8):∃ r,iter (fun s:Int×Vector UInt32 8=>L153x1_6 F x p s.1 s.2) F ((0:Int),p)=some r∧iter (fun s:Int×Vector UInt32 8=>L129_8 F p s.1 s.2) F ((0:Int),x)=some r:=by
 obtain ⟨r,r',b1,b2,b3⟩:=iter2 (f:=fun s:Int×Vector UInt32 8=>L153x1_6 F x p s.1 s.2) (g:=fun s:Int×Vector UInt32 8=>L129_8 F p s.1 s.2)
  (fun s t=>s.1=t.1∧∃ i:Nat,s.1=i∧i≤8∧(∀ j (hj:j < 8),j < i->s.2[j]=t.2[j])∧∀ j (hj:j < 8),i≤j->t.2[j]=x[j]) (fun r r'=>r=r') (fun s=>8 - s.1.toNat) (by
   rintro ⟨a,u⟩ ⟨a',v⟩ ⟨rfl,i,hi,h8,hu,hv⟩
   simp only at hi hu hv
   subst hi
   by_cases h:i < 8
   ·have h1:(((i:Nat):Int) < 8):=by omega
    have e3:w64 (((i:Nat):Int) + 1)=((i + 1:Nat):Int):=by rw [w64_in (by omega) (by omega)];omega
    have n:inb 8 ((i:Nat):Int)=some i:=inb_nat h
    have s1:L153x1_6 F x p ((i:Nat):Int) u=some (.inl (((i + 1:Nat):Int),u.setIfInBounds i (p[i] + x[i]))):=by
     simp only [L153x1_6,L153x1_6c,h1,decide_true,cond_true,vix_nat h,n,vat_nat (v:=p) h,Option.bind_some,e3]
    have s2:L129_8 F p ((i:Nat):Int) v=some (.inl (((i + 1:Nat):Int),v.setIfInBounds i (v[i] + p[i]))):=by
     simp only [L129_8,L129_8c,h1,decide_true,cond_true,n,vat_nat (v:=p) h,vat_nat (v:=v) h,Option.bind_some,e3]
    refine .inl ⟨_,_,s1,s2,⟨rfl,i + 1,rfl,by omega,fun j hj hji=>?_,fun j hj hij=>?_⟩,by simp only [Int.toNat_natCast];omega⟩
    ·simp only [Vector.getElem_setIfInBounds]
     by_cases e:i=j
     ·subst e
      simp only [if_true]
      rw [hv i hj (Nat.le_refl _),UInt32.add_comm]
     ·rw [if_neg e,if_neg e]
      exact hu j hj (by omega)
    ·simp only [Vector.getElem_setIfInBounds]
     rw [if_neg (by omega)]
     exact hv j hj (by omega)
   ·obtain rfl:i=8:=by omega
    exact .inr ⟨u,v,rfl,rfl,Vector.ext fun j hj=>hu j hj hj⟩) F F ((0:Int),p) ((0:Int),x) ⟨rfl,0,rfl,by omega,fun j hj h0=>absurd h0 (by omega),fun j hj _=>rfl⟩ (by simp only [Int.toNat_zero];omega) (by simp only [Int.toNat_zero];omega)
 subst b3
 exact ⟨r,b1,b2⟩
theorem vec8 (v:Vector UInt32 8):v8 (v[0],v[1],v[2],v[3],v[4],v[5],v[6],v[7])=v:=by
 apply Vector.ext
 intro i hi
 match i,hi with
 | 0,_=>rfl
 | 1,_=>rfl
 | 2,_=>rfl
 | 3,_=>rfl
 | 4,_=>rfl
 | 5,_=>rfl
 | 6,_=>rfl
 | 7,_=>rfl
theorem k92 (F:Nat):T157 F=some gv2:=rfl
theorem t91 {F:Nat} (hF:100 < F) {p:List UInt8} (hp:p.length=64) (h:Vector UInt32 8):∃ r,T153x1 F p h=some r∧T129 F h p=some r:=by
 obtain ⟨w,w0,a1,a2,a3⟩:=sched hF hp
 obtain ⟨z,b1,b2⟩:=rounds hF w (h[0],h[1],h[2],h[3],h[4],h[5],h[6],h[7])
 rw [vec8] at b2
 obtain ⟨r,c1,c2⟩:=last hF (v8 z) h
 refine ⟨r,?_,?_⟩
 ·simp only [T153x1,T153x1c,a1,Option.bind_some,vat_nat (v:=h) (show 0 < 8 by omega),vat_nat (v:=h) (show 1 < 8 by omega),vat_nat (v:=h) (show 2 < 8 by omega),vat_nat (v:=h) (show 3 < 8 by omega),vat_nat (v:=h) (show 4 < 8 by omega),vat_nat (v:=h) (show 5 < 8 by omega),vat_nat (v:=h) (show 6 < 8 by omega),vat_nat (v:=h) (show 7 < 8 by omega)]
  simp only [b1,Option.bind_some]
  exact (congrArg (fun o=>Option.bind o fun z=>some z) c1)
 ·simp only [T129,T129c,k92,Option.bind_some,a2,a3,b2,c2]
theorem t91v {F:Nat} (hF:100 < F) (v:Vector UInt8 64) (h:Vector UInt32 8):T153 F (0,64) h v=T153x1 F v.toList h:=by
 obtain ⟨w,a1,a2⟩:=schedv hF v
 simp only [T153,T153c,T153x1,T153x1c,a1,a2,Option.bind_some]
 rfl
end Go.Proofs.YtpnhgldpeiogbaaGreatDoor
namespace Go.Tw
set_option linter.unusedSimpArgs false
set_option linter.unusedVariables false
end Go.Tw
namespace Go.Proofs.YtpnhgldpeiogbaaGreatDoor
open Go.Tw
set_option linter.unusedSimpArgs false
set_option linter.unusedVariables false
def B (F:Nat) (h:Vector UInt32 8) (p:List UInt8):Vector UInt32 8:=(T129 F h p).getD h
theorem b85 {F:Nat} (hF:100 < F) {p:List UInt8} (hp:p.length=64) (h:Vector UInt32 8):T129 F h p=some (B F h p):=by
 obtain ⟨r,h1,h2⟩:=t91 hF hp h
 simp only [B,h2,Option.getD_some]
theorem b91 {F:Nat} (hF:100 < F) {p:List UInt8} (hp:p.length=64) (h:Vector UInt32 8):T153x1 F p h=some (B F h p):=by
 obtain ⟨r,h1,h2⟩:=t91 hF hp h
 simp only [B,h1,h2,Option.getD_some]
theorem b91v {F:Nat} (hF:100 < F) (v:Vector UInt8 64) (h:Vector UInt32 8):T153 F (0,64) h v=some (B F h v.toList):=by
 rw [t91v hF,b91 hF (by simp)]
def hN (F:Nat):Nat->List UInt8->Vector UInt32 8
 | 0,_=>gv0
 | k + 1,m=>B F (hN F k m) ((m.drop (64 * k)).take 64)
theorem hN_app (F:Nat) (m x:List UInt8):∀ k,64 * k≤m.length->hN F k (m ++ x)=hN F k m
 | 0,_=>rfl
 | k + 1,h=>by
  simp only [hN]
  rw [hN_app F m x k (by omega),List.drop_append_of_le_length (by omega),List.take_append_of_le_length (by simp;omega)]
structure Inv (F:Nat) (m:List UInt8) (h:Vector UInt32 8) (b:Vector UInt8 64) (n:Int):Prop where
 len:n=(m.length:Int)
 words:h=hN F (m.length / 64) m
 rest:b.toList.take (m.length % 64)=m.drop (64 * (m.length / 64))
theorem tmod64 (a:Nat):Int.tmod ((a:Nat):Int) 64=((a % 64:Nat):Int):=by
 rw [Int.tmod_eq_emod_of_nonneg (by omega)];omega
theorem lp82 {F:Nat} (hF:100 < F) (M:List UInt8):∀ (fuel k:Nat),64 * k≤M.length->(M.length - 64 * k) / 64 < fuel ->
  iter (fun s:List UInt8×Vector UInt32 8=>L123_4 F s.1 s.2) fuel (M.drop (64 * k),hN F k M)=some (M.drop (64 * (M.length / 64)),hN F (M.length / 64) M)
 | 0,k,hk,hf=>absurd hf (by omega)
 | fuel + 1,k,hk,hf=>by
  by_cases h:64≤M.length - 64 * k
  ·have h1:((64:Int)≤((M.drop (64 * k)).length:Int)):=by simp;omega
   have g1:gsl (M.drop (64 * k)) (0:Int) (64:Int)=some ((M.drop (64 * k)).take 64):=gsl_nat (a:=0) (b:=64) (by omega) (by simp;omega)
   have g2:gsl (M.drop (64 * k)) (64:Int) ((M.drop (64 * k)).length:Int)=some (M.drop (64 * (k + 1))):=by
    have:=gsl_nat (l:=M.drop (64 * k)) (a:=64) (b:=(M.drop (64 * k)).length) (by simp;omega) (Nat.le_refl _)
    refine Eq.trans this ?_
    rw [List.take_of_length_le (by simp only [List.length_drop];omega),List.drop_drop]
    congr 2
   have step:L123_4 F (M.drop (64 * k)) (hN F k M)=some (.inl (M.drop (64 * (k + 1)),hN F (k + 1) M)):=by
    simp only [L123_4,L123_4c,h1,decide_true,cond_true,g1,g2,Option.bind_some,b91 hF (show ((M.drop (64 * k)).take 64).length=64 by simp;omega),hN]
   refine (it_again (f:=fun s:List UInt8×Vector UInt32 8=>L123_4 F s.1 s.2) (s:=(M.drop (64 * k),hN F k M)) step).trans ?_
   exact lp82 hF M fuel (k + 1) (by omega) (by omega)
  ·have h1:¬ ((64:Int)≤((M.drop (64 * k)).length:Int)):=by simp;omega
   have hk2:k=M.length / 64:=by omega
   have step:L123_4 F (M.drop (64 * k)) (hN F k M)=some (.inr (M.drop (64 * k),hN F k M)):=by
    simp only [L123_4,L123_4c,h1,decide_false,cond_false]
   refine (it_out (f:=fun s:List UInt8×Vector UInt32 8=>L123_4 F s.1 s.2) (s:=(M.drop (64 * k),hN F k M)) step).trans ?_
   rw [← hk2]
theorem tail82 {F:Nat} (hF:100 < F) (M:List UInt8) (hM:M.length < F) (b:Vector UInt8 64) {k:Nat} (hk:64 * k≤M.length) :
  iter (fun s:List UInt8×Vector UInt32 8=>L123_4 F s.1 s.2) F (M.drop (64 * k),hN F k M)=some (M.drop (64 * (M.length / 64)),hN F (M.length / 64) M) ∧
  (vspl b 0 (M.drop (64 * (M.length / 64))) (M.drop (64 * (M.length / 64))).length).toList.take (M.length % 64)=M.drop (64 * (M.length / 64)):=by
 refine ⟨lp82 hF M F k hk (by omega),?_⟩
 have hl:(M.drop (64 * (M.length / 64))).length=M.length % 64:=by simp;omega
 rw [vspl_toList (by omega) (Nat.le_refl _)]
 simp only [splice,List.take_zero,List.nil_append,List.take_length]
 rw [← hl,List.take_append_of_le_length (Nat.le_refl _),List.take_length]
theorem t82 {F:Nat} {m x:List UInt8} {h:Vector UInt32 8} {b:Vector UInt8 64} {n:Int} (hF:100 + m.length + x.length < F) (hb:m.length + x.length < 1000000000) (hI:Inv F m h b n) :
  ∃ h' b' n',T123 F x h b n=some (h',b',n')∧Inv F (m ++ x) h' b' n':=by
 obtain ⟨rfl,rfl,hr⟩:=hI
 have wn:w64 ((m.length:Int) + (x.length:Int))=((m ++ x).length:Int):=by rw [w64_in (by omega) (by omega)];simp
 have g0:gslb 64 (0:Int) ((64:Nat):Int)=some (0,64):=gslb_nat (a:=0) (by omega) (by omega)
 have hlen:(m ++ x).length=m.length + x.length:=by simp
 by_cases hu:m.length % 64=0
 ·have d:¬ ((0:Int) < ((m.length % 64:Nat):Int)):=by omega
  have s3:L123_3 F x ((m.length % 64:Nat):Int) false (hN F (m.length / 64) m) b=some (.inl (x,hN F (m.length / 64) m,b)):=by
   simp only [L123_3,L123_3c,cond_false]
  obtain ⟨q1,q2⟩:=tail82 (F:=F) (by omega) (m ++ x) (by omega) b (k:=m.length / 64) (by omega)
  have e1:(m ++ x).drop (64 * (m.length / 64))=x:=by
   rw [show 64 * (m.length / 64)=m.length by omega];simp
  rw [e1,hN_app F m x _ (by omega)] at q1
  have hmin:Nat.min ((m ++ x).drop (64 * ((m ++ x).length / 64))).length (64 - 0)=((m ++ x).drop (64 * ((m ++ x).length / 64))).length:=Nat.min_eq_left (by simp;omega)
  refine ⟨hN F ((m ++ x).length / 64) (m ++ x),vspl b 0 ((m ++ x).drop (64 * ((m ++ x).length / 64))) ((m ++ x).drop (64 * ((m ++ x).length / 64))).length,((m ++ x).length:Int),?_,rfl,rfl,q2⟩
  simp only [T123,T123c,tmod64,d,decide_false,s3,Option.bind_some,elimS,q1,g0,hmin,wn]
 ·have d:((0:Int) < ((m.length % 64:Nat):Int)):=by omega
  have g1:gslb 64 ((m.length % 64:Nat):Int) ((64:Nat):Int)=some (m.length % 64,64):=gslb_nat (by omega) (by omega)
  by_cases hc:x.length < 64 - m.length % 64
  ·have hmin:Nat.min x.length (64 - m.length % 64)=x.length:=Nat.min_eq_left (by omega)
   have g2:gsl x (x.length:Int) (x.length:Int)=some []:=by
    rw [gsl_nat (Nat.le_refl _) (Nat.le_refl _)];simp
   have w:w64 (((m.length % 64:Nat):Int) + (x.length:Int))=((m.length % 64 + x.length:Nat):Int):=by rw [w64_in (by omega) (by omega)];omega
   have d2:(((m.length % 64 + x.length:Nat):Int) < 64):=by omega
   have s3:L123_3 F x ((m.length % 64:Nat):Int) true (hN F (m.length / 64) m) b=some (.inr (vspl b (m.length % 64) x x.length)):=by
    simp only [L123_3,L123_3c,cond_true,g1,Option.bind_some,hmin,g2,w,d2,decide_true]
   refine ⟨hN F (m.length / 64) m,vspl b (m.length % 64) x x.length,((m ++ x).length:Int),?_,rfl,?_,?_⟩
   ·simp only [T123,T123c,tmod64,d,decide_true,s3,Option.bind_some,elimS,wn]
   ·rw [hlen,show (m.length + x.length) / 64=m.length / 64 by omega,hN_app F m x _ (by omega)]
   ·rw [hlen,show (m.length + x.length) / 64=m.length / 64 by omega,show (m.length + x.length) % 64=m.length % 64 + x.length by omega,vspl_toList (by omega) (Nat.le_refl _)]
    simp only [splice,List.take_length]
    rw [hr,List.drop_append_of_le_length (by omega)]
    rw [List.take_append_of_le_length (by simp;omega),List.take_of_length_le (by simp;omega)]
  ·have hmin:Nat.min x.length (64 - m.length % 64)=64 - m.length % 64:=Nat.min_eq_right (by omega)
   have g2:gsl x ((64 - m.length % 64:Nat):Int) (x.length:Int)=some (x.drop (64 - m.length % 64)):=by
    rw [gsl_nat (by omega) (Nat.le_refl _),List.take_of_length_le (by simp)]
   have w:w64 (((m.length % 64:Nat):Int) + ((64 - m.length % 64:Nat):Int))=64:=by rw [w64_in (by omega) (by omega)];omega
   have d2:¬ ((64:Int) < 64):=by omega
   have hbl:(vspl b (m.length % 64) x (64 - m.length % 64)).toList=((m ++ x).drop (64 * (m.length / 64))).take 64:=by
    rw [vspl_toList (by omega) (by omega)]
    simp only [splice]
    have hz:b.toList.drop (m.length % 64 + (64 - m.length % 64))=[]:=List.drop_of_length_le (by rw [Vector.length_toList];omega)
    have hdl:(m.drop (64 * (m.length / 64))).length=m.length % 64:=by rw [List.length_drop];omega
    rw [hr,hz,List.append_nil,List.drop_append_of_le_length (by omega),List.take_append,List.take_of_length_le (l:=m.drop (64 * (m.length / 64))) (by omega),hdl]
   have s3:L123_3 F x ((m.length % 64:Nat):Int) true (hN F (m.length / 64) m) b=some (.inl (x.drop (64 - m.length % 64),hN F (m.length / 64 + 1) (m ++ x),vspl b (m.length % 64) x (64 - m.length % 64))):=by
    simp only [L123_3,L123_3c,cond_true,g1,Option.bind_some,hmin,g2,w,d2,decide_false,cond_false,g0,b91v (show 100 < F by omega),hbl,hN,hN_app F m x (m.length / 64) (by omega)]
   obtain ⟨q1,q2⟩:=tail82 (F:=F) (by omega) (m ++ x) (by omega) (vspl b (m.length % 64) x (64 - m.length % 64)) (k:=m.length / 64 + 1) (by omega)
   have e1:(m ++ x).drop (64 * (m.length / 64 + 1))=x.drop (64 - m.length % 64):=by
    rw [List.drop_append,List.drop_of_length_le (by omega),List.nil_append]
    congr 1;omega
   rw [e1] at q1
   have hmin2:Nat.min ((m ++ x).drop (64 * ((m ++ x).length / 64))).length (64 - 0)=((m ++ x).drop (64 * ((m ++ x).length / 64))).length:=Nat.min_eq_left (by simp;omega)
   refine ⟨hN F ((m ++ x).length / 64) (m ++ x),vspl (vspl b (m.length % 64) x (64 - m.length % 64)) 0 ((m ++ x).drop (64 * ((m ++ x).length / 64))) ((m ++ x).drop (64 * ((m ++ x).length / 64))).length,((m ++ x).length:Int),?_,rfl,rfl,q2⟩
   simp only [T123,T123c,tmod64,d,decide_true,s3,Option.bind_some,elimS,q1,g0,hmin2,wn]
theorem gapp_ok {α:Type} {xs ys:List α} (h:xs.length + ys.length≤1099511627776):gapp xs ys=some (xs ++ ys):=by unfold gapp;rw [if_pos h]
theorem padz {F:Nat} {m:List UInt8} (hF:300 < F) (hb:m.length < 1000000000) (h:Vector UInt32 8) (b:Vector UInt8 64):∃ p:List UInt8,p.length≤64∧1≤p.length∧(m.length + p.length) % 64=56 ∧
  iter (fun s:List UInt8=>L124_4 F (h,b,(m.length:Int),()) s) F [(UInt8.ofNat 128)]=some p∧iter (fun s:List UInt8=>L128_3 F s) F (m ++ [(UInt8.ofNat 128)])=some (m ++ p):=by
 obtain ⟨r,r',b1,b2,b3,b4,b5⟩:=iter2 (f:=fun s:List UInt8=>L124_4 F (h,b,(m.length:Int),()) s) (g:=fun s:List UInt8=>L128_3 F s)
  (fun s t=>t=m ++ s∧1≤s.length∧s.length≤(119 - m.length % 64) % 64 + 1) (fun r r'=>r'=m ++ r∧(1≤r.length∧r.length≤64)∧(m.length + r.length) % 64=56) (fun s=>65 - s.length) (by
   rintro s t ⟨rfl,h1,h2⟩
   have w:w64 ((m.length:Int) + (s.length:Int))=((m.length + s.length:Nat):Int):=by rw [w64_in (by omega) (by omega)];omega
   have hl:((m ++ s).length:Int)=((m.length + s.length:Nat):Int):=by simp
   by_cases hc:(m.length + s.length) % 64=56
   ·have e:((((m.length + s.length) % 64:Nat):Int) != 56)=false:=by rw [hc];rfl
    refine .inr ⟨s,m ++ s,?_,?_,rfl,⟨h1,by omega⟩,hc⟩
    ·simp only [L124_4,L124_4c,w,tmod64,e,cond_false]
    ·simp only [L128_3,L128_3c,hl,tmod64,e,cond_false]
   ·have e:((((m.length + s.length) % 64:Nat):Int) != 56)=true:=by rw [bne_iff_ne];omega
    refine .inl ⟨s ++ [UInt8.ofNat 0],m ++ s ++ [UInt8.ofNat 0],?_,?_,⟨by simp,by simp,?_⟩,?_⟩
    ·simp only [L124_4,L124_4c,w,tmod64,e,cond_true,gapp_ok (show s.length + [UInt8.ofNat 0].length≤1099511627776 by simp;omega),Option.bind_some]
    ·simp only [L128_3,L128_3c,hl,tmod64,e,cond_true,gapp_ok (show (m ++ s).length + [UInt8.ofNat 0].length≤1099511627776 by simp;omega),Option.bind_some]
    ·simp only [List.length_append,List.length_cons,List.length_nil];omega
    ·simp only [List.length_append,List.length_cons,List.length_nil];omega) F F [(UInt8.ofNat 128)] (m ++ [(UInt8.ofNat 128)]) ⟨rfl,by simp,by simp⟩ (by simp;omega) (by simp;omega)
 subst b3
 exact ⟨r,b4.2,b4.1,b5,b1,b2⟩
theorem padc {F:Nat} {m p:List UInt8} (hF:300 < F) (hb:m.length < 1000000000) (hp:p.length≤64) (c:UInt64):∃ q:List UInt8,q.length=p.length + 8 ∧
  iter (fun s:Int×List UInt8=>L124_5 F c s.1 s.2) F ((56:Int),p)=some q∧iter (fun s:Int×List UInt8=>L128_4 F c s.1 s.2) F ((7:Int),m ++ p)=some (m ++ q):=by
 obtain ⟨r,r',b1,b2,b3,b4⟩:=iter2 (f:=fun s:Int×List UInt8=>L124_5 F c s.1 s.2) (g:=fun s:Int×List UInt8=>L128_4 F c s.1 s.2)
  (fun s t=>∃ i:Nat,i≤8∧s.1=8 * (i:Int) - 8∧t.1=(i:Int) - 1∧t.2=m ++ s.2∧s.2.length + i=p.length + 8) (fun r r'=>r'=m ++ r∧r.length=p.length + 8) (fun s=>(s.1 + 8).toNat) (by
   rintro ⟨a,s⟩ ⟨a',t⟩ ⟨i,h8,h1,h2,h3,h4⟩
   simp only at h1 h2 h3 h4
   subst h1 h2 h3
   cases i with
   | zero=>
    refine .inr ⟨s,m ++ s,?_,?_,rfl,by omega⟩
    ·have d:¬ ((0:Int)≤8 * ((0:Nat):Int) - 8):=by omega
     simp only [L124_5,L124_5c,d,decide_false,cond_false]
    ·have d:¬ ((0:Int)≤((0:Nat):Int) - 1):=by omega
     simp only [L128_4,L128_4c,d,decide_false,cond_false]
   | succ i=>
    have e1:8 * ((i + 1:Nat):Int) - 8=((8 * i:Nat):Int):=by omega
    have e2:((i + 1:Nat):Int) - 1=((i:Nat):Int):=by omega
    rw [e1,e2]
    have d1:((0:Int)≤((8 * i:Nat):Int)):=by omega
    have d2:((0:Int)≤((i:Nat):Int)):=by omega
    have n1:gnn ((8 * i:Nat):Int)=some (8 * i):=by unfold gnn;rw [if_pos d1];simp only [Int.toNat_natCast]
    have w0:w64 ((8:Int) * ((i:Nat):Int))=((8 * i:Nat):Int):=by rw [w64_in (by omega) (by omega)];omega
    have w1:w64 (((8 * i:Nat):Int) - 8)=8 * (i:Int) - 8:=by rw [w64_in (by omega) (by omega)];omega
    have w2:w64 (((i:Nat):Int) - 1)=(i:Int) - 1:=by rw [w64_in (by omega) (by omega)]
    refine .inl ⟨(8 * (i:Int) - 8,s ++ [(shr64 c (8 * i)).toUInt8]),((i:Int) - 1,m ++ s ++ [(shr64 c (8 * i)).toUInt8]),?_,?_,⟨i,by omega,rfl,rfl,by simp,by simp;omega⟩,?_⟩
    ·simp only [L124_5,L124_5c,d1,decide_true,cond_true,n1,Option.bind_some,gapp_ok (show s.length + [(shr64 c (8 * i)).toUInt8].length≤1099511627776 by simp;omega),w1]
    ·simp only [L128_4,L128_4c,d2,decide_true,cond_true,w0,n1,Option.bind_some,gapp_ok (show (m ++ s).length + [(shr64 c (8 * i)).toUInt8].length≤1099511627776 by simp;omega),w2]
    ·simp only;omega) F F ((56:Int),p) ((7:Int),m ++ p) ⟨8,by omega,by omega,by omega,rfl,rfl⟩ (by simp only;omega) (by simp only;omega)
 subst b3
 exact ⟨r,b4,b1,b2⟩
theorem outs {F:Nat} (hF:300 < F) (h:Vector UInt32 8):∃ d:List UInt8,d.length=32∧iter (fun s:Int×List UInt8=>L124_6 F h s.1 s.2) F ((0:Int),([]:List UInt8))=some d∧iter (fun s:Int×List UInt8=>L89_4 F h s.1 s.2) F ((0:Int),([]:List UInt8))=some d:=by
 obtain ⟨r,r',b1,b2,b3,b4⟩:=iter2 (f:=fun s:Int×List UInt8=>L124_6 F h s.1 s.2) (g:=fun s:Int×List UInt8=>L89_4 F h s.1 s.2)
  (fun s t=>s=t∧∃ i:Nat,s.1=i∧i≤8∧s.2.length=4 * i) (fun r r'=>r'=r∧r.length=32) (fun s=>8 - s.1.toNat) (by
   rintro ⟨a,s⟩ t ⟨rfl,i,hi,h8,hl⟩
   simp only at hi hl
   subst hi
   by_cases hlt:i < 8
   ·have h1:(((i:Nat):Int) < 8):=by omega
    have e3:w64 (((i:Nat):Int) + 1)=((i + 1:Nat):Int):=by rw [w64_in (by omega) (by omega)];omega
    have n:inb 8 ((i:Nat):Int)=some i:=inb_nat hlt
    have ga:gapp s [((shr32 h[i] ((UInt64.ofNat 24).toNat)).toUInt8),((shr32 h[i] ((UInt64.ofNat 16).toNat)).toUInt8),((shr32 h[i] ((UInt64.ofNat 8).toNat)).toUInt8),(h[i].toUInt8)]=some (s ++ [((shr32 h[i] ((UInt64.ofNat 24).toNat)).toUInt8),((shr32 h[i] ((UInt64.ofNat 16).toNat)).toUInt8),((shr32 h[i] ((UInt64.ofNat 8).toNat)).toUInt8),(h[i].toUInt8)]):=gapp_ok (by simp [hl];omega)
    refine .inl ⟨(((i + 1:Nat):Int),s ++ [((shr32 h[i] ((UInt64.ofNat 24).toNat)).toUInt8),((shr32 h[i] ((UInt64.ofNat 16).toNat)).toUInt8),((shr32 h[i] ((UInt64.ofNat 8).toNat)).toUInt8),(h[i].toUInt8)]),(((i + 1:Nat):Int),s ++ [((shr32 h[i] ((UInt64.ofNat 24).toNat)).toUInt8),((shr32 h[i] ((UInt64.ofNat 16).toNat)).toUInt8),((shr32 h[i] ((UInt64.ofNat 8).toNat)).toUInt8),(h[i].toUInt8)]),?_,?_,⟨rfl,i + 1,rfl,by omega,?_⟩,by simp only [Int.toNat_natCast];omega⟩
    ·simp only [L124_6,L124_6c,h1,decide_true,cond_true,vix_nat (v:=h) hlt,Option.bind_some,ga,e3]
    ·simp only [L89_4,L89_4c,h1,decide_true,cond_true,n,vat_nat (v:=h) hlt,Option.bind_some,ga,e3]
    ·simp [hl];omega
   ·obtain rfl:i=8:=by omega
    exact .inr ⟨s,s,rfl,rfl,rfl,hl⟩) F F ((0:Int),([]:List UInt8)) ((0:Int),([]:List UInt8)) ⟨rfl,0,rfl,by omega,rfl⟩ (by simp only [Int.toNat_zero];omega) (by simp only [Int.toNat_zero];omega)
 subst b3
 exact ⟨r',b4,b1,b2⟩
theorem lp68 {F:Nat} (hF:100 < F) {M:List UInt8} {K:Nat} (hM:M.length=64 * K) (hb:M.length < 2000000000):∀ (j fuel k:Nat),k + j=K->j < fuel ->
  iter (fun s:Int×Vector UInt32 8=>L89_3 F M s.1 s.2) fuel (((64 * k:Nat):Int),hN F k M)=some (hN F K M)
 | j,0,k,hk,hf=>absurd hf (by omega)
 | 0,fuel + 1,k,hk,hf=>by
  have h1:¬ (((64 * k:Nat):Int) < (M.length:Int)):=by omega
  obtain rfl:k=K:=by omega
  have step:L89_3 F M ((64 * k:Nat):Int) (hN F k M)=some (.inr (hN F k M)):=by
   simp only [L89_3,L89_3c,h1,decide_false,cond_false]
  exact it_out (f:=fun s:Int×Vector UInt32 8=>L89_3 F M s.1 s.2) (s:=(((64 * k:Nat):Int),hN F k M)) step
 | j + 1,fuel + 1,k,hk,hf=>by
  have h1:(((64 * k:Nat):Int) < (M.length:Int)):=by omega
  have w:w64 (((64 * k:Nat):Int) + 64)=((64 * (k + 1):Nat):Int):=by rw [w64_in (by omega) (by omega)];omega
  have g:gslb M.length ((64 * k:Nat):Int) ((64 * (k + 1):Nat):Int)=some (64 * k,64 * (k + 1)):=gslb_nat (by omega) (by omega)
  have e:64 * (k + 1) - 64 * k=64:=by omega
  have step:L89_3 F M ((64 * k:Nat):Int) (hN F k M)=some (.inl (((64 * (k + 1):Nat):Int),hN F (k + 1) M)):=by
   simp only [L89_3,L89_3c,h1,decide_true,cond_true,w,g,Option.bind_some,e,b85 hF (show ((M.drop (64 * k)).take 64).length=64 by simp;omega),hN]
  refine (it_again (f:=fun s:Int×Vector UInt32 8=>L89_3 F M s.1 s.2) (s:=(((64 * k:Nat):Int),hN F k M)) step).trans ?_
  exact lp68 hF hM hb j fuel (k + 1) (by omega) (by omega)
theorem sum_eq {F:Nat} {m:List UInt8} {h:Vector UInt32 8} {b:Vector UInt8 64} {n:Int} (hF:400 + m.length < F) (hb:m.length < 100000000) (hI:Inv F m h b n) :
  ∃ d,T124 F (h,b,n,())=some d∧T89 F m=some d∧d.length=32:=by
 have hn:=hI.len
 subst hn
 obtain ⟨p,p1,p2,p3,p4,p5⟩:=padz (F:=F) (m:=m) (by omega) (by omega) h b
 obtain ⟨q,q1,q2,q3⟩:=padc (F:=F) (m:=m) (p:=p) (by omega) (by omega) p1 ((UInt64.ofInt (m.length:Int)) * (UInt64.ofNat 8))
 obtain ⟨h',b',n',t1,t2⟩:=t82 (x:=q) (by omega) (by omega) hI
 obtain ⟨d,d1,d2,d3⟩:=outs (F:=F) (by omega) h'
 have g0:gmake (0:UInt8) (0:Int) (32:Int)=some []:=by decide +kernel
 have hl:(m ++ q).length=m.length + q.length:=by simp
 have hK:(m ++ q).length=64 * ((m ++ q).length / 64):=by omega
 have l:=lp68 (F:=F) (by omega) hK (by omega) ((m ++ q).length / 64) F 0 (by omega) (by omega)
 rw [← t2.words] at l
 refine ⟨d,?_,?_,d1⟩
 ·simp only [T124,T124c,p4,Option.bind_some,q2,t1,g0,d2]
 ·have ga:gapp ([]:List UInt8) m=some m:=by rw [gapp_ok (by simp;omega)];rfl
  have gb:gapp m [UInt8.ofNat 128]=some (m ++ [UInt8.ofNat 128]):=gapp_ok (by simp;omega)
  have h84:T128 F m=some (m ++ q):=by
   simp only [T128,T128c,ga,gb,Option.bind_some,p5,q3]
  simp only [T89,T89c,h84,Option.bind_some]
  refine Eq.trans (congrArg (fun o=>Option.bind o _) l) ?_
  simp only [Option.bind_some,d3]
theorem inv0 (F:Nat):Inv F [] gv0 (Vector.replicate 64 (0:UInt8)) 0:=⟨rfl,rfl,rfl⟩
theorem t79 {F:Nat} {ls:List (List UInt8)} (hF:400 + ls.flatten.length + ls.length < F) (hb:ls.flatten.length < 100000000) (hl:ls.length < 1000):∃ d,T126 F ls=some d∧T89 F ls.flatten=some d∧d.length=32:=by
 obtain ⟨r,b1,b2⟩:=iter1 (f:=fun s:Int×Vector UInt32 8×Vector UInt8 64×Int=>L126_2 F ls (ls.length:Int) s.1 s.2.1 s.2.2.1 s.2.2.2)
  (fun s=>∃ i:Nat,s.1=i∧i≤ls.length∧Inv F (ls.take i).flatten s.2.1 s.2.2.1 s.2.2.2) (fun r=>Inv F ls.flatten r.1 r.2.1 r.2.2) (fun s=>ls.length - s.1.toNat) (by
   rintro ⟨a,h,b,n⟩ ⟨i,hi,hil,hI⟩
   simp only at hi hI
   subst hi
   by_cases hlt:i < ls.length
   ·have h1:(((i:Nat):Int) < (ls.length:Int)):=by omega
    have e3:w64 (((i:Nat):Int) + 1)=((i + 1:Nat):Int):=by rw [w64_in (by omega) (by omega)];omega
    have hs:(ls.take (i + 1)).flatten=(ls.take i).flatten ++ ls[i]:=by
     rw [List.take_succ_eq_append_getElem hlt,List.flatten_append];simp
    have hle:(ls.take (i + 1)).flatten.length≤ls.flatten.length:=by
     conv=>rhs;rw [← List.take_append_drop (i + 1) ls,List.flatten_append,List.length_append]
     omega
    rw [hs,List.length_append] at hle
    have gs:gstr ls[i]=some ls[i]:=by unfold gstr;rw [if_pos (by omega)]
    obtain ⟨h',b',n',t1,t2⟩:=t82 (x:=ls[i]) (by omega) (by omega) hI
    refine .inl ⟨(((i + 1:Nat):Int),h',b',n'),?_,⟨i + 1,rfl,by omega,?_⟩,by simp only [Int.toNat_natCast];omega⟩
    ·simp only [L126_2,L126_2c,h1,decide_true,cond_true,ix_nat hlt,Option.bind_some,gs,t1,e3]
    ·rw [hs];exact t2
   ·obtain rfl:i=ls.length:=by omega
    have h1:¬ (((ls.length:Nat):Int) < (ls.length:Int)):=by omega
    rw [List.take_length] at hI
    refine .inr ⟨(h,b,n),?_,hI⟩
    simp only [L126_2,L126_2c,h1,decide_false,cond_false]) F ((0:Int),gv0,Vector.replicate 64 (0:UInt8),(0:Int)) ⟨0,rfl,by omega,inv0 F⟩ (by simp only [Int.toNat_zero];omega)
 obtain ⟨d,d1,d2,d3⟩:=sum_eq (by omega) hb b2
 refine ⟨d,?_,d2,d3⟩
 simp only [T126,T126c,T122,T122c,Option.bind_some,b1,d1]
theorem iter_mono {σ ρ:Type} {f:σ->Option (σ ⊕ ρ)}:∀ {n m:Nat} {s:σ} {r:ρ},iter f n s=some r->n≤m->iter f m s=some r
 | 0,m,s,r,h,_=>by simp [iter] at h
 | n + 1,m,s,r,h,hm=>by
  obtain ⟨m,rfl⟩:∃ k,m=k + 1:=⟨m - 1,by omega⟩
  simp only [iter] at h ⊢
  cases hf:f s with
  | none=>rw [hf] at h;cases h
  | some z=>
   rw [hf] at h
   cases z with
   | inl s'=>exact iter_mono (f:=f) h (by omega)
   | inr r'=>exact h
def sh (F:Nat) (x:List UInt8):List UInt8:=(T89 F x).getD []
theorem sh_some {F:Nat} {x:List UInt8} (hF:410 + x.length < F) (hb:x.length < 1000000):T89 F x=some (sh F x)∧(sh F x).length=32:=by
 obtain ⟨d,_,d2,d3⟩:=t79 (F:=F) (ls:=[x]) (by simp;omega) (by simp;omega) (by simp)
 rw [List.flatten_singleton] at d2
 simp [sh,d2,d3]
theorem t_sum {F:Nat} {x:List UInt8} (hF:410 + x.length < F) (hb:x.length < 1000000):T85 F x=some (sh F x):=by
 obtain ⟨h,b,n,a1,a2⟩:=t82 (F:=F) (m:=[]) (x:=x) (by simp;omega) (by simp;omega) (inv0 F)
 rw [List.nil_append] at a2
 obtain ⟨d,d1,d2,d3⟩:=sum_eq (by omega) (by omega) a2
 simp only [T85,T85c,T122,T122c,Option.bind_some,a1,d1]
 simp [sh,d2]
theorem t_leaf {F:Nat} {x:List UInt8} (hF:420 + x.length < F) (hb:x.length < 1000000):T121 F x=some (sh F (0 :: x)):=by
 obtain ⟨h0,b0,n0,c1,c2⟩:=t82 (F:=F) (m:=[]) (x:=[0]) (by simp;omega) (by simp) (inv0 F)
 obtain ⟨h,b,n,a1,a2⟩:=t82 (F:=F) (x:=x) (by simp;omega) (by simp;omega) c2
 obtain ⟨d,d1,d2,d3⟩:=sum_eq (by simp;omega) (by simp;omega) a2
 have e:[(UInt8.ofNat 0)]=[(0:UInt8)]:=rfl
 simp only [T121,T121c,T122,T122c,Option.bind_some,e,c1,a1,d1]
 have:[] ++ [(0:UInt8)] ++ x=0 :: x:=rfl
 rw [this] at d2
 simp [sh,d2]
theorem t_node {F:Nat} {x y:List UInt8} (hF:420 + x.length + y.length < F) (hb:x.length + y.length < 1000000):T87 F x y=some (sh F (1 :: (x ++ y))):=by
 obtain ⟨d,d1,d2,d3⟩:=t79 (F:=F) (ls:=[[1],x,y]) (by simp;omega) (by simp;omega) (by simp)
 simp only [T87,T87c,d1,Option.bind_some]
 have:[[1],x,y].flatten=1 :: (x ++ y):=by simp
 rw [this] at d2
 simp [sh,d2]
def sp (n:Nat):Nat:=((T86 0 (n:Int)).getD 0).toNat
theorem sp_all:∀ n:Fin 140,2≤n.val->T86 0 (n.val:Int)=some ((sp n.val:Nat):Int)∧1≤sp n.val∧sp n.val < n.val:=by decide +kernel
theorem sp_at {n:Nat} (h1:2≤n) (h2:n < 140) (F:Nat):T86 F (n:Int)=some ((sp n:Nat):Int)∧1≤sp n∧sp n < n:=sp_all ⟨n,h2⟩ h1
def rt (F:Nat):Nat->List (List UInt8)->List UInt8
 | 0,_=>[]
 | g + 1,l=>if l.length=0 then sh F [] else if l.length=1 then l.headD [] else sh F (1 :: (rt F g (l.take (sp l.length)) ++ rt F g (l.drop (sp l.length))))
theorem rt_len {F:Nat} (hF:2000 < F):∀ (g:Nat) (l:List (List UInt8)),l.length≤g->l.length < 140->(∀ x ∈ l,x.length=32)->l.length=0∧g=0∨(rt F g l).length=32
 | 0,l,hg,hl,h=>.inl ⟨by omega,rfl⟩
 | g + 1,l,hg,hl,h=>by
  refine .inr ?_
  unfold rt
  split
  ·exact (sh_some (by simp;omega) (by simp)).2
  ·split
   ·cases l with
    | nil=>simp at *
    | cons x l=>exact h x (by simp)
   ·obtain ⟨_,h1,h2⟩:=sp_at (n:=l.length) (by omega) hl F
    have ha:=rt_len hF g (l.take (sp l.length)) (by simp;omega) (by simp;omega) fun x hx=>h x (List.mem_of_mem_take hx)
    have hb:=rt_len hF g (l.drop (sp l.length)) (by simp;omega) (by simp;omega) fun x hx=>h x (List.mem_of_mem_drop hx)
    have ha:(rt F g (l.take (sp l.length))).length=32:=by
     rcases ha with ⟨h3,h4⟩ | ha
     ·simp at h3;omega
     ·exact ha
    have hb:(rt F g (l.drop (sp l.length))).length=32:=by
     rcases hb with ⟨h3,h4⟩ | hb
     ·simp at h3;omega
     ·exact hb
    exact (sh_some (by simp;omega) (by simp;omega)).2
theorem gsl_lo {α:Type} {l:List α} {k:Nat} (h:k≤l.length):gsl l (0:Int) (k:Int)=some (l.take k):=by
 have:=gsl_nat (l:=l) (a:=0) (b:=k) (by omega) h
 simpa using this
theorem gsl_hi {α:Type} {l:List α} {k:Nat} (h:k≤l.length):gsl l (k:Int) (l.length:Int)=some (l.drop k):=by
 have:=gsl_nat (l:=l) (a:=k) (b:=l.length) h (by omega)
 rw [this];congr 1
 apply List.take_of_length_le;simp
theorem root_g {F:Nat} (hF:2000 < F):∀ (g:Nat) (l:List (List UInt8)),l.length≤g->0 < g->l.length < 140->(∀ x ∈ l,x.length=32)->T49g F g l=some (rt F g l)
 | 0,l,hg,h0,hl,h=>by omega
 | g + 1,l,hg,h0,hl,h=>by
  show T49r F (T49g F g) l=_
  simp only [T49r,T49rc,rt]
  by_cases c0:l.length=0
  ·have e0:((l.length:Int) == 0)=true:=by simpa using c0
   have:=t_sum (F:=F) (x:=[]) (by simp;omega) (by simp)
   simp only [e0,cond_true,this,Option.bind_some,if_pos c0]
  ·have e0:((l.length:Int) == 0)=false:=by simpa using c0
   by_cases c1:l.length=1
   ·have e1:((l.length:Int) == 1)=true:=by rw [c1];rfl
    simp only [e0,e1,cond_true,cond_false,if_neg c0,if_pos c1]
    cases l with
    | nil=>simp at c1
    | cons x l=>
     have:ix (x :: l) (0:Int)=some x:=ixn (i:=0) rfl
     rw [this];rfl
   ·have e1:((l.length:Int) == 1)=false:=by
     have:¬ (l.length:Int)=1:=by omega
     simpa using this
    obtain ⟨h3,h1,h2⟩:=sp_at (n:=l.length) (by omega) hl F
    have ha:=root_g hF g (l.take (sp l.length)) (by simp;omega) (by omega) (by simp;omega) fun x hx=>h x (List.mem_of_mem_take hx)
    have hb:=root_g hF g (l.drop (sp l.length)) (by simp;omega) (by omega) (by simp;omega) fun x hx=>h x (List.mem_of_mem_drop hx)
    have la:=rt_len hF g (l.take (sp l.length)) (by simp;omega) (by simp;omega) fun x hx=>h x (List.mem_of_mem_take hx)
    have lb:=rt_len hF g (l.drop (sp l.length)) (by simp;omega) (by simp;omega) fun x hx=>h x (List.mem_of_mem_drop hx)
    have la:(rt F g (l.take (sp l.length))).length=32:=by
     rcases la with ⟨h3,h4⟩ | ha
     ·omega
     ·exact ha
    have lb:(rt F g (l.drop (sp l.length))).length=32:=by
     rcases lb with ⟨h3,h4⟩ | hb
     ·omega
     ·exact hb
    have hn:=t_node (F:=F) (x:=rt F g (l.take (sp l.length))) (y:=rt F g (l.drop (sp l.length))) (by omega) (by omega)
    simp only [e0,e1,cond_false,h3,Option.bind_some,gsl_lo (Nat.le_of_lt h2),gsl_hi (Nat.le_of_lt h2),ha,hb,hn,if_neg c0,if_neg c1]
theorem t_root {F:Nat} (hF:2000 < F) {l:List (List UInt8)} (hl:l.length < 140) (h:∀ x ∈ l,x.length=32):T49 F l=some (rt F F l)∧(rt F F l).length=32:=by
 refine ⟨root_g hF F l (by omega) (by omega) hl h,?_⟩
 rcases rt_len hF F l (by omega) hl h with ⟨_,h⟩ | h
 ·omega
 ·exact h
def blk (F:Nat):Nat->List UInt8->List (List UInt8)
 | 0,_=>[]
 | n + 1,x=>if x.length=0 then [] else sh F (0 :: x.take 512) :: blk F n (x.drop 512)
theorem blk_len (F:Nat):∀ (n:Nat) (x:List UInt8),(blk F n x).length≤n
 | 0,x=>by simp [blk]
 | n + 1,x=>by
  unfold blk;split
  ·simp
  ·have:=blk_len F n (x.drop 512);simp;omega
theorem blk_32 {F:Nat} (hF:2000 < F):∀ (n:Nat) (x:List UInt8),∀ y ∈ blk F n x,y.length=32
 | 0,x,y,h=>by simp [blk] at h
 | n + 1,x,y,h=>by
  unfold blk at h
  split at h
  ·simp at h
  ·rcases List.mem_cons.1 h with rfl | h
   ·exact (sh_some (by simp;omega) (by simp;omega)).2
   ·exact blk_32 hF n _ y h
theorem cut512 (x:List UInt8):(if (x.length:Int) < 512 then (x.length:Int) else 512)=((min 512 x.length:Nat):Int):=by split<;>omega
theorem lp_blocks {F:Nat} (hF:2000 < F):∀ (n fuel:Nat) (x:List UInt8) (acc:List (List UInt8)),x.length≤512 * n->n < fuel->acc.length + n < 100000->iter (fun s:List UInt8×List (List UInt8)=>L84_2 F (512:Int) s.1 s.2) fuel (x,acc)=some (acc ++ blk F n x)
 | n,0,x,acc,_,hf,_=>by omega
 | 0,fuel + 1,x,acc,hx,hf,_=>by
  have:¬ (0:Int) < (x.length:Int):=by omega
  refine (it_out' (s:=(x,acc)) (r:=acc) (by simp only [L84_2,L84_2c,this,decide_false,cond_false])).trans (by simp only [blk,List.append_nil])
 | n + 1,fuel + 1,x,acc,hx,hf,ha=>by
  by_cases h0:x.length=0
  ·have:¬ (0:Int) < (x.length:Int):=by omega
   refine (it_out' (s:=(x,acc)) (r:=acc) (by simp only [L84_2,L84_2c,this,decide_false,cond_false])).trans (by simp only [blk,if_pos h0,List.append_nil])
  ·have h1:(0:Int) < (x.length:Int):=by omega
   have hm:min 512 x.length≤x.length:=Nat.min_le_right _ _
   have hl:=t_leaf (F:=F) (x:=x.take 512) (by simp;omega) (by simp;omega)
   have ht:x.take (min 512 x.length)=x.take 512:=by rw [← List.take_take,List.take_length]
   have hd:x.drop (min 512 x.length)=x.drop 512:=by
    rcases Nat.le_total 512 x.length with h | h
    ·rw [Nat.min_eq_left h]
    ·rw [Nat.min_eq_right h,List.drop_length,List.drop_eq_nil_of_le h]
   have hg:gapp acc ([sh F (0 :: x.take 512)]:List (List UInt8))=some (acc ++ [sh F (0 :: x.take 512)]):=gappn (by simp;omega)
   have ih:=lp_blocks hF n fuel (x.drop 512) (acc ++ [sh F (0 :: x.take 512)]) (by simp;omega) (by omega) (by simp;omega)
   refine (it_again' (s:=(x,acc)) (s':=(x.drop 512,acc ++ [sh F (0 :: x.take 512)])) (by simp only [L84_2,L84_2c,h1,decide_true,cond_true,cut512,gsl_lo hm,gsl_hi hm,ht,hd,hl,hg,Option.bind_some])).trans (ih.trans (by simp only [blk,if_neg h0,List.append_assoc,List.singleton_append]))
def hsh (F:Nat) (x:List UInt8):List UInt8:=rt F F (blk F 128 x)
theorem t_of {F:Nat} (hF:2000 < F) {x:List UInt8} (hx:x.length≤65536):T48 F x (512:Int)=some (hsh F x,0)∧(hsh F x).length=32:=by
 have hl:=lp_blocks hF 128 F x [] (by omega) (by omega) (by simp)
 have hb:=blk_len F 128 x
 obtain ⟨h1,h2⟩:=t_root hF (l:=blk F 128 x) (by omega) (blk_32 hF 128 x)
 refine ⟨?_,h2⟩
 have h3:¬ (1048576:Int) < (x.length:Int):=by omega
 have h4:¬ (512:Int) < (1:Int):=by omega
 rw [List.nil_append] at hl
 have hB:T84 F x (512:Int)=some ((0:Int),blk F 128 x):=by
  simp only [T84,T84c,h3,h4,decide_false,cond_false,hl,Option.bind_some]
 simp only [T48,T48c,hB,Option.bind_some,bne_self_eq_false,cond_false,h1]
 rfl
theorem takeS' {α:Type} {l:List α} {k:Nat} {x:α} (h:l[k]? = some x):l.take (k + 1)=l.take k ++ [x]:=by
 rw [List.take_add_one,h];rfl
theorem same_loop {ρ:Type} {F:Nat} {n:Nat} {f:Int->Option (Int ⊕ (Unit ⊕ ρ))} (hn:n < F) (hn2:n < 1000000)
  (hs:∀ k:Nat,k < n->f (k:Int)=some (.inl ((k + 1:Nat):Int))) (he:f (n:Int)=some (.inr (.inl ()))):iter f F (0:Int)=some (.inl ()):=by
 obtain ⟨z,hz,rfl⟩:=iter1 (f:=f) (fun s=>∃ k:Nat,s=(k:Int)∧k≤n) (fun z=>z=.inl ()) (fun s=>n - s.toNat) (fun s hs'=>by
   obtain ⟨k,e,hk⟩:=hs'
   subst e
   rcases Nat.lt_or_ge k n with hlt | hge
   ·exact .inl ⟨_,hs k hlt,⟨k + 1,rfl,by omega⟩,by simp only [Int.toNat_natCast];omega⟩
   ·have:k=n:=by omega
    subst this
    exact .inr ⟨_,he,rfl⟩)
  F (0:Int) ⟨0,rfl,by omega⟩ (by simp;omega)
 exact hz
abbrev Rf:=List UInt8×Int×Int×Unit
def vR (r:Rf):Bool:=decide ((r.1.length:Int)=32∧0≤r.2.1∧0≤r.2.2.1∧r.2.2.1≤32768)
def vF:List (List UInt8)->List Rf->Bool
 | _,[]=>true
 | seen,r :: rs=>vR r && (!seen.contains r.1 && vF (seen ++ [r.1]) rs)
def vRs (refs:List Rf):Bool:=vF [] refs
theorem keqS_ne {z x:List UInt8} (h:z ≠ x):keq .s z x=false:=by show (z == x)=false;simpa using h
theorem keqS_self (z:List UInt8):keq .s z z=true:=by show (z == z)=true;simp
theorem mgt_mptS {β:Type}:∀ (l:List (List UInt8×β)) (x:List UInt8) (y:β) (z:List UInt8),mgt .s (mpt .s l x y) z=if z=x then some y else mgt .s l z
 | [],x,y,z=>by
  by_cases h:z=x
  ·subst h;simp only [mpt,mgt,keqS_self,cond_true,if_true]
  ·simp only [mpt,mgt,keqS_ne h,cond_false,if_neg h]
 | e :: l,x,y,z=>by
  have ih:=mgt_mptS l x y z
  by_cases hx:x=e.1
  ·subst hx
   by_cases h:z=e.1
   ·subst h;simp only [mpt,mgt,keqS_self,cond_true,if_true]
   ·simp only [mpt,mgt,keqS_self,keqS_ne h,cond_true,cond_false,if_neg h]
  ·simp only [mpt,keqS_ne hx,cond_false,mgt]
   by_cases h:z=e.1
   ·subst h
    have:¬ e.1=x:=fun h=>hx h.symm
    simp only [keqS_self,cond_true,if_neg this]
   ·simp only [keqS_ne h,cond_false];exact ih
def nms (l:List Rf):List (List UInt8):=l.map (·.1)
theorem drop_at {α:Type} {l:List α} {k:Nat} {x:α} (h:l[k]? = some x):l.drop k=x :: l.drop (k + 1):=by
 obtain ⟨h1,h2⟩:=List.getElem?_eq_some_iff.1 h
 rw [List.drop_eq_getElem_cons h1,h2]
theorem takeS {α:Type} {l:List α} {k:Nat} {x:α} (h:l[k]? = some x):l.take (k + 1)=l.take k ++ [x]:=by
 rw [List.take_add_one,h];rfl
theorem valid30 {F:Nat} {refs:List Rf} (hl:refs.length≤1000) (hF:2000 < F):T36 F refs=some (vRs refs):=by
 obtain ⟨z,hz,hQ⟩:=iter1 (f:=fun s:Int×List (List UInt8×Bool)=>L36_2 F refs (refs.length:Int) s.1 s.2)
  (fun s=>∃ k:Nat,s.1=(k:Int)∧k≤refs.length∧(∀ x,mgd .s s.2 x false=(nms (refs.take k)).contains x)∧vF (nms (refs.take k)) (refs.drop k)=vRs refs)
  (fun z=>match z with | .inl _=>vRs refs=true | .inr b=>b=vRs refs) (fun s=>refs.length - s.1.toNat) (fun s hs=>by
   obtain ⟨k,e,hk,hm,hv⟩:=hs
   obtain ⟨s1,m⟩:=s
   simp only at e hm
   subst e
   rcases Nat.lt_or_ge k refs.length with hlt | hge
   ·have hr:refs[k]? = some refs[k]:=List.getElem?_eq_getElem hlt
    have hc1:((k:Nat):Int) < (refs.length:Int):=by omega
    have hix:=ixn hr
    have hw:w64 (((k:Nat):Int) + 1)=((k + 1:Nat):Int):=w64n (by omega)
    generalize refs[k]=r at hr hix
    rw [drop_at hr] at hv
    simp only [vF] at hv
    have hmr:=hm r.1
    by_cases hvr:vR r=true
    ·have hd:=of_decide_eq_true hvr
     obtain ⟨q1,q2,q3,q4⟩:=hd
     have e1:((r.1.length:Int) != 32)=false:=by simpa using q1
     have e2:¬ r.2.1 < 0:=by omega
     have e3:¬ r.2.2.1 < 0:=by omega
     have e4:¬ (32768:Int) < r.2.2.1:=by omega
     cases hcn:(nms (refs.take k)).contains r.1 with
     | true=>
      rw [hcn] at hmr
      rw [hvr,hcn] at hv
      refine .inr ⟨.inr false,?_,by rw [← hv];rfl⟩
      simp only [L36_2,L36_2c,hc1,decide_true,cond_true,hix,Option.bind_some,e1,e2,e3,e4,decide_false,cond_false,hmr]
     | false=>
      rw [hcn] at hmr
      rw [hvr,hcn] at hv
      refine .inl ⟨(((k + 1:Nat):Int),mpt .s m r.1 true),?_,⟨k + 1,rfl,by omega,fun x=>?_,?_⟩,?_⟩
      ·simp only [L36_2,L36_2c,hc1,decide_true,cond_true,hix,Option.bind_some,e1,e2,e3,e4,decide_false,cond_false,hmr,hw]
      ·have hmx:=hm x
       unfold mgd at hmx ⊢
       rw [mgt_mptS,takeS hr]
       by_cases hx:x=r.1
       ·subst hx;simp [nms]
       ·rw [if_neg hx,hmx]
        simp [nms,hx]
      ·rw [takeS hr]
       have:nms (refs.take k ++ [r])=nms (refs.take k) ++ [r.1]:=by simp [nms]
       rw [this];simpa using hv
      ·simp only [Int.toNat_natCast];omega
    ·have hvr:vR r=false:=by simpa using hvr
     rw [hvr] at hv
     refine .inr ⟨.inr false,?_,by rw [← hv];rfl⟩
     have hd:=of_decide_eq_false hvr
     simp only [L36_2,L36_2c,hc1,decide_true,cond_true,hix,Option.bind_some]
     by_cases q1:(r.1.length:Int)=32
     ·have e1:((r.1.length:Int) != 32)=false:=by simpa using q1
      simp only [e1,cond_false]
      by_cases e2:r.2.1 < 0
      ·simp only [e2,decide_true,cond_true]
      ·simp only [e2,decide_false,cond_false]
       by_cases e3:r.2.2.1 < 0
       ·simp only [e3,decide_true,cond_true]
       ·simp only [e3,decide_false,cond_false]
        by_cases e4:(32768:Int) < r.2.2.1
        ·simp only [e4,decide_true,cond_true]
        ·exact absurd ⟨q1,by omega,by omega,by omega⟩ hd
     ·have e1:((r.1.length:Int) != 32)=true:=by simpa using q1
      simp only [e1,cond_true]
   ·have hkl:k=refs.length:=by omega
    subst hkl
    rw [List.take_length,List.drop_length] at hv
    refine .inr ⟨.inl (),?_,by rw [← hv];rfl⟩
    simp [L36_2,L36_2c])
  F ((0:Int),([]:List (List UInt8×Bool))) ⟨0,rfl,by omega,fun x=>rfl,rfl⟩ (by simp;omega)
 simp only [T36,T36c]
 rw [hz]
 cases z with
 | inl u=>have hQ:vRs refs=true:=hQ;rw [hQ];rfl
 | inr b=>have hQ:b=vRs refs:=hQ;rw [← hQ];rfl
theorem t32 (F:Nat) (r:Rf):T79 F r.1 r.2.1 r.2.2.1=some (vR r):=by
 simp only [T79,T79c,vR]
 by_cases q1:(r.1.length:Int)=32
 ·have e1:((r.1.length:Int) == 32)=true:=by simpa using q1
  by_cases q2:0≤r.2.1<;>by_cases q3:0≤r.2.2.1<;>simp [e1,q1,q2,q3]
 ·have e1:((r.1.length:Int) == 32)=false:=by simpa using q1
  simp [e1,q1]
theorem inner11 {F:Nat} {refs:List Rf} (hl:refs.length≤1000) (hF:2000 < F) {i:Nat} (hi:i≤refs.length) (s:List UInt8):∃ z,iter (fun k:Int=>L41_4 F refs (i:Int) s k) F (0:Int)=some z∧(match z with | .inl _=>(nms (refs.take i)).contains s=false | .inr b=>b=false∧(nms (refs.take i)).contains s=true):=by
 exact iter1 (f:=fun k:Int=>L41_4 F refs (i:Int) s k)
  (fun z=>∃ k:Nat,z=(k:Int)∧k≤i∧(nms (refs.take k)).contains s=false)
  _ (fun z=>i - z.toNat) (fun z hs=>by
   obtain ⟨k,e,hk,hc⟩:=hs
   subst e
   rcases Nat.lt_or_ge k i with hlt | hge
   ·have hr:refs[k]? = some (refs[k]'(by omega)):=List.getElem?_eq_getElem (by omega)
    have hc1:((k:Nat):Int) < ((i:Nat):Int):=by omega
    have hix:=ixn hr
    have hw:w64 (((k:Nat):Int) + 1)=((k + 1:Nat):Int):=w64n (by omega)
    generalize refs[k]'(by omega)=r at hr hix
    by_cases hs:r.1=s
    ·refine .inr ⟨.inr false,?_,rfl,?_⟩
     ·have:(r.1 == s)=true:=by simpa using hs
      simp only [L41_4,L41_4c,hc1,decide_true,cond_true,hix,Option.bind_some,this]
     ·have:r ∈ refs.take i:=by
       have h2:(refs.take i)[k]? = some r:=by rw [List.getElem?_take,if_pos hlt];exact hr
       exact List.mem_of_getElem? h2
      simp only [nms,List.contains_eq_mem,List.mem_map,decide_eq_true_eq]
      exact ⟨r,this,hs⟩
    ·refine .inl ⟨((k + 1:Nat):Int),?_,⟨k + 1,rfl,by omega,?_⟩,?_⟩
     ·have:(r.1 == s)=false:=by simpa using hs
      simp only [L41_4,L41_4c,hc1,decide_true,cond_true,hix,Option.bind_some,this,cond_false,hw]
     ·rw [takeS hr]
      simp only [nms,List.map_append,List.contains_eq_mem,decide_eq_false_iff_not] at hc ⊢
      simp only [List.mem_append,List.map_cons,List.map_nil,List.mem_singleton,not_or]
      exact ⟨hc,fun e=>hs e.symm⟩
     ·simp only [Int.toNat_natCast];omega
   ·have hki:k=i:=by omega
    subst hki
    refine .inr ⟨.inl (),?_,hc⟩
    simp [L41_4,L41_4c])
  F (0:Int) ⟨0,rfl,by omega,rfl⟩ (by simp;omega)
theorem valid11 {F:Nat} {refs:List Rf} (hl:refs.length≤1000) (hF:2000 < F):T41 F refs=some (vRs refs):=by
 obtain ⟨z,hz,hQ⟩:=iter1 (f:=fun s:Int=>L41_3 F refs refs (refs.length:Int) s)
  (fun s=>∃ k:Nat,s=(k:Int)∧k≤refs.length∧vF (nms (refs.take k)) (refs.drop k)=vRs refs)
  (fun z=>match z with | .inl _=>vRs refs=true | .inr b=>b=vRs refs) (fun s=>refs.length - s.toNat) (fun s hs=>by
   obtain ⟨k,e,hk,hv⟩:=hs
   subst e
   rcases Nat.lt_or_ge k refs.length with hlt | hge
   ·have hr:refs[k]? = some refs[k]:=List.getElem?_eq_getElem hlt
    have hc1:((k:Nat):Int) < (refs.length:Int):=by omega
    have hix:=ixn hr
    have hw:w64 (((k:Nat):Int) + 1)=((k + 1:Nat):Int):=w64n (by omega)
    generalize refs[k]=r at hr hix
    rw [drop_at hr] at hv
    simp only [vF] at hv
    have ht:=t32 F r
    cases hvr:vR r with
    | false=>
     rw [hvr] at hv ht
     refine .inr ⟨.inr false,?_,by rw [← hv];rfl⟩
     simp only [L41_3,L41_3c,hc1,decide_true,cond_true,hix,Option.bind_some,ht,Bool.not_false]
    | true=>
     rw [hvr] at hv ht
     obtain ⟨y,hy,hyQ⟩:=inner11 hl hF (i:=k) (by omega) r.1
     cases y with
     | inr b=>
      obtain ⟨rfl,hcn⟩:=hyQ
      rw [hcn] at hv
      refine .inr ⟨.inr false,?_,by rw [← hv];rfl⟩
      simp only [L41_3,L41_3c,hc1,decide_true,cond_true,hix,Option.bind_some,ht,Bool.not_true,cond_false,hy,elimS]
     | inl u=>
      have hcn:(nms (refs.take k)).contains r.1=false:=hyQ
      rw [hcn] at hv
      refine .inl ⟨((k + 1:Nat):Int),?_,⟨k + 1,rfl,by omega,?_⟩,?_⟩
      ·simp only [L41_3,L41_3c,hc1,decide_true,cond_true,hix,Option.bind_some,ht,Bool.not_true,cond_false,hy,elimS,hw]
      ·rw [takeS hr]
       have:nms (refs.take k ++ [r])=nms (refs.take k) ++ [r.1]:=by simp [nms]
       rw [this];simpa using hv
      ·simp only [Int.toNat_natCast];omega
   ·have hkl:k=refs.length:=by omega
    subst hkl
    rw [List.take_length,List.drop_length] at hv
    refine .inr ⟨.inl (),?_,by rw [← hv];rfl⟩
    simp [L41_3,L41_3c])
  F (0:Int) ⟨0,rfl,by omega,rfl⟩ (by simp;omega)
 simp only [T41,T41c]
 rw [hz]
 cases z with
 | inl u=>have hQ:vRs refs=true:=hQ;rw [hQ];rfl
 | inr b=>have hQ:b=vRs refs:=hQ;rw [← hQ];rfl
theorem vF_all:∀ {seen:List (List UInt8)} {refs:List Rf},vF seen refs=true->∀ r ∈ refs,vR r=true
 | _,[],_,r,h=>by simp at h
 | seen,x :: refs,h,r,hr=>by
  simp only [vF,Bool.and_eq_true] at h
  rcases List.mem_cons.1 hr with rfl | hr
  ·exact h.1
  ·exact vF_all h.2.2 r hr
theorem vRs_size {refs:List Rf} (h:vRs refs=true):∀ r ∈ refs,0≤r.2.2.1∧r.2.2.1≤32768:=fun r hr=>by
 have:=of_decide_eq_true (vF_all h r hr)
 exact ⟨this.2.2.1,this.2.2.2⟩
abbrev Pc:=(List UInt8×Int×Unit)×List UInt8×List (List UInt8)×Unit
theorem has_ok {F:Nat} (hF:50 < F) {n:Int} (h0:0≤n) (h1:n≤32768) (c:Int):T38 F n c=some (clsOf n == c):=by
 have:=(class_in hF h0 h1).1
 simp only [T38,T38c,this,Option.bind_some,beq_self_eq_true,cond_true]
theorem r_leaf {F:Nat} {x:List UInt8} (hF:420 + x.length < F) (hb:x.length < 900000):T156 F x=some (sh F (0 :: x)):=by
 have hg:gapp ([(UInt8.ofNat 0)]:List UInt8) x=some (0 :: x):=gappn (by simp;omega)
 have:=(sh_some (F:=F) (x:=0 :: x) (by simp;omega) (by simp;omega)).1
 simp only [T156,T156c,hg,this,Option.bind_some]
theorem r_node {F:Nat} {x y:List UInt8} (hF:420 + x.length + y.length < F) (hb:x.length + y.length < 900000):T91 F x y=some (sh F (1 :: (x ++ y))):=by
 have hs:=(sh_some (F:=F) (x:=1 :: (x ++ y)) (by simp;omega) (by simp;omega)).1
 have gc:∀ {a b:List UInt8},a.length + b.length < 1000000000->gcat a b=some (a ++ b):=fun h=>by unfold gcat;rw [if_pos (by first | omega | (simp;omega))]
 have i0:ix ([[1],x,y]:List (List UInt8)) (0:Int)=some [1]:=ixn (i:=0) rfl
 have i1:ix ([[1],x,y]:List (List UInt8)) (1:Int)=some x:=ixn (i:=1) rfl
 have i2:ix ([[1],x,y]:List (List UInt8)) (2:Int)=some y:=ixn (i:=2) rfl
 have l3:(([[1],x,y]:List (List UInt8)).length:Int)=3:=rfl
 have w1:w64 ((0:Int) + 1)=1:=by decide
 have w2:w64 ((1:Int) + 1)=2:=by decide
 have w3:w64 ((2:Int) + 1)=3:=by decide
 have g1:gcat ([]:List UInt8) [1]=some [1]:=gc (by simp)
 have g2:gcat ([1]:List UInt8) x=some ([1] ++ x):=gc (by simp;omega)
 have g3:gcat ([1] ++ x) y=some ([1] ++ x ++ y):=gc (by simp;omega)
 obtain ⟨n,rfl⟩:∃ n,F=n + 4:=⟨F - 4,by omega⟩
 have hloop:iter (fun s:List UInt8×Int=>L130_2 (n + 4) [[1],x,y] (([[1],x,y]:List (List UInt8)).length:Int) s.1 s.2) (n + 4) (([]:List UInt8),(0:Int))=some ([1] ++ x ++ y):=by
  rw [l3]
  rw [it_again' (s':=([1],1)) (by simp only [L130_2,L130_2c,show ((0:Int) < 3) from by omega,decide_true,cond_true,i0,g1,Option.bind_some,w1]),
   it_again' (s':=([1] ++ x,2)) (by simp only [L130_2,L130_2c,show ((1:Int) < 3) from by omega,decide_true,cond_true,i1,g2,Option.bind_some,w2]),
   it_again' (s':=([1] ++ x ++ y,3)) (by simp only [L130_2,L130_2c,show ((2:Int) < 3) from by omega,decide_true,cond_true,i2,g3,Option.bind_some,w3]),
   it_out' (r:=[1] ++ x ++ y) (by simp only [L130_2,L130_2c,show ¬((3:Int) < 3) from by omega,decide_false,cond_false])]
 have hgs:gstr ([1] ++ x ++ y)=some (1 :: (x ++ y)):=by unfold gstr;rw [if_pos (by simp;omega)];simp
 simp only [T91,T91c,T130,T130c,hloop,hgs,hs,Option.bind_some]
theorem rsp_all:∀ n:Fin 140,2≤n.val->iter (fun s:Int=>L90_2 0 (n.val:Int) s) 10 (1:Int)=some ((sp n.val:Nat):Int):=by decide +kernel
theorem rsp_at {n:Nat} (h1:2≤n) (h2:n < 140) {F:Nat} (hF:10≤F):T90 F (n:Int)=some ((sp n:Nat):Int):=by
 have h:iter (fun s:Int=>L90_2 F (n:Int) s) F (1:Int)=some ((sp n:Nat):Int):=iter_mono (rsp_all ⟨n,h2⟩ h1) hF
 simp only [T90,T90c,h,Option.bind_some]
theorem rroot_g {F:Nat} (hF:2000 < F):∀ (g:Nat) (l:List (List UInt8)),l.length≤g->0 < g->l.length < 140->(∀ x ∈ l,x.length=32)->T51g F g l=some (rt F g l)
 | 0,l,hg,h0,hl,h=>by omega
 | g + 1,l,hg,h0,hl,h=>by
  show T51r F (T51g F g) l=_
  simp only [T51r,T51rc,rt]
  by_cases c0:l.length=0
  ·have e0:((l.length:Int) == 0)=true:=by simpa using c0
   have:=(sh_some (F:=F) (x:=[]) (by simp;omega) (by simp)).1
   simp only [e0,cond_true,this,Option.bind_some,if_pos c0]
  ·have e0:((l.length:Int) == 0)=false:=by simpa using c0
   by_cases c1:l.length=1
   ·have e1:((l.length:Int) == 1)=true:=by rw [c1];rfl
    simp only [e0,e1,cond_true,cond_false,if_neg c0,if_pos c1]
    cases l with
    | nil=>simp at c1
    | cons x l=>
     have:ix (x :: l) (0:Int)=some x:=ixn (i:=0) rfl
     rw [this];rfl
   ·have e1:((l.length:Int) == 1)=false:=by
     have:¬ (l.length:Int)=1:=by omega
     simpa using this
    obtain ⟨_,h1,h2⟩:=sp_at (n:=l.length) (by omega) hl F
    have h3:=rsp_at (n:=l.length) (by omega) hl (F:=F) (by omega)
    have ha:=rroot_g hF g (l.take (sp l.length)) (by simp;omega) (by omega) (by simp;omega) fun x hx=>h x (List.mem_of_mem_take hx)
    have hb:=rroot_g hF g (l.drop (sp l.length)) (by simp;omega) (by omega) (by simp;omega) fun x hx=>h x (List.mem_of_mem_drop hx)
    have la:=rt_len hF g (l.take (sp l.length)) (by simp;omega) (by simp;omega) fun x hx=>h x (List.mem_of_mem_take hx)
    have lb:=rt_len hF g (l.drop (sp l.length)) (by simp;omega) (by simp;omega) fun x hx=>h x (List.mem_of_mem_drop hx)
    have la:(rt F g (l.take (sp l.length))).length=32:=by
     rcases la with ⟨h3,h4⟩ | ha
     ·omega
     ·exact ha
    have lb:(rt F g (l.drop (sp l.length))).length=32:=by
     rcases lb with ⟨h3,h4⟩ | hb
     ·omega
     ·exact hb
    have hn:=r_node (F:=F) (x:=rt F g (l.take (sp l.length))) (y:=rt F g (l.drop (sp l.length))) (by omega) (by omega)
    simp only [e0,e1,cond_false,h3,Option.bind_some,gsl_lo (Nat.le_of_lt h2),gsl_hi (Nat.le_of_lt h2),ha,hb,hn,if_neg c0,if_neg c1]
theorem r_root {F:Nat} (hF:2000 < F) {l:List (List UInt8)} (hl:l.length < 140) (h:∀ x ∈ l,x.length=32):T51 F l=some (rt F F l):=rroot_g hF F l (by omega) (by omega) hl h
theorem rlp_blocks {F:Nat} (hF:2000 < F):∀ (n fuel:Nat) (x:List UInt8) (acc:List (List UInt8)),x.length≤512 * n->n < fuel->acc.length + n < 100000->iter (fun s:List UInt8×List (List UInt8)=>L127_2 F (512:Int) s.1 s.2) fuel (x,acc)=some (acc ++ blk F n x)
 | n,0,x,acc,_,hf,_=>by omega
 | 0,fuel + 1,x,acc,hx,hf,_=>by
  have:¬ (0:Int) < (x.length:Int):=by omega
  refine (it_out' (s:=(x,acc)) (r:=acc) (by simp only [L127_2,L127_2c,this,decide_false,cond_false])).trans (by simp only [blk,List.append_nil])
 | n + 1,fuel + 1,x,acc,hx,hf,ha=>by
  by_cases h0:x.length=0
  ·have:¬ (0:Int) < (x.length:Int):=by omega
   refine (it_out' (s:=(x,acc)) (r:=acc) (by simp only [L127_2,L127_2c,this,decide_false,cond_false])).trans (by simp only [blk,if_pos h0,List.append_nil])
  ·have h1:(0:Int) < (x.length:Int):=by omega
   have hm:min 512 x.length≤x.length:=Nat.min_le_right _ _
   have hl:=r_leaf (F:=F) (x:=x.take 512) (by simp;omega) (by simp;omega)
   have ht:x.take (min 512 x.length)=x.take 512:=by rw [← List.take_take,List.take_length]
   have hd:x.drop (min 512 x.length)=x.drop 512:=by
    rcases Nat.le_total 512 x.length with h | h
    ·rw [Nat.min_eq_left h]
    ·rw [Nat.min_eq_right h,List.drop_length,List.drop_eq_nil_of_le h]
   have hg:gapp acc ([sh F (0 :: x.take 512)]:List (List UInt8))=some (acc ++ [sh F (0 :: x.take 512)]):=gappn (by simp;omega)
   have ih:=rlp_blocks hF n fuel (x.drop 512) (acc ++ [sh F (0 :: x.take 512)]) (by simp;omega) (by omega) (by simp;omega)
   refine (it_again' (s:=(x,acc)) (s':=(x.drop 512,acc ++ [sh F (0 :: x.take 512)])) (by simp only [L127_2,L127_2c,h1,decide_true,cond_true,cut512,gsl_lo hm,gsl_hi hm,ht,hd,hl,hg,Option.bind_some])).trans (ih.trans (by simp only [blk,if_neg h0,List.append_assoc,List.singleton_append]))
theorem r_psum {F:Nat} (hF:2000 < F) {x:List UInt8} (hx:x.length≤65536):T50 F x=some (hsh F x):=by
 have hl:=rlp_blocks hF 128 F x [] (by omega) (by omega) (by simp)
 have hb:=blk_len F 128 x
 have h1:=r_root hF (l:=blk F 128 x) (by omega) (blk_32 hF 128 x)
 have h3:¬ (1048576:Int) < (x.length:Int):=by omega
 have h4:¬ (512:Int) < (1:Int):=by omega
 rw [List.nil_append] at hl
 have hB:T127 F x (512:Int)=some ((0:Int),blk F 128 x):=by
  simp only [T127,T127c,h3,h4,decide_false,cond_false,hl,Option.bind_some]
 simp only [T50,T50c,T88,T88c,hB,Option.bind_some,bne_self_eq_false,cond_false,h1]
 rfl
def okS (id:List UInt8) (vault block data total:Int) (refs:List Rf):Bool:=
 decide (id.length=32∧0≤vault∧vault≤11∧1≤data∧data≤8∧data≤total∧total≤16∧1≤refs.length∧(refs.length:Int)≤data) && (vRs refs && refs.all fun r=>clsOf r.2.2.1 == block)
theorem valid_d (F:Nat) (data total:Int):T35 F data total=some (decide (1≤data∧data≤8∧data≤total∧total≤16)):=by
 simp only [T35,T35c]
 by_cases h1:1≤data<;>by_cases h2:data≤8<;>by_cases h3:data≤total<;>by_cases h4:total≤16<;>simp [h1,h2,h3,h4]
theorem class_all {F:Nat} (hF:2000 < F) {refs:List Rf} (hl:refs.length≤1000) (hv:∀ r ∈ refs,0≤r.2.2.1∧r.2.2.1≤32768) (c:Int) :
  iter (fun s=>L16_2 F refs (refs.length:Int) c s) F (0:Int)=some (bif refs.all (fun r=>clsOf r.2.2.1 == c) then .inl () else .inr (1:Int)):=by
 obtain ⟨z,hz,hQ⟩:=iter1 (f:=fun s:Int=>L16_2 F refs (refs.length:Int) c s)
  (fun s=>∃ k:Nat,s=(k:Int)∧k≤refs.length∧(refs.drop k).all (fun r=>clsOf r.2.2.1 == c)=refs.all (fun r=>clsOf r.2.2.1 == c)) (fun z=>z=(bif refs.all (fun r=>clsOf r.2.2.1 == c) then .inl () else .inr (1:Int))) (fun s=>refs.length - s.toNat) (fun s hs=>by
   obtain ⟨k,e,hk,ha⟩:=hs
   subst e
   rcases Nat.lt_or_ge k refs.length with hlt | hge
   ·have hc1:((k:Nat):Int) < (refs.length:Int):=by omega
    have hr:refs[k]? = some refs[k]:=List.getElem?_eq_getElem hlt
    have hix:=ixn hr
    have hx:=hv _ (List.getElem_mem hlt)
    have hd:=drop_at hr
    generalize refs[k]=x at hr hix hx hd
    have hh:=has_ok (F:=F) (by omega) hx.1 hx.2 c
    rw [hd,List.all_cons] at ha
    cases h1:clsOf x.2.2.1 == c with
    | false=>
     rw [h1] at hh
     rw [h1,Bool.false_and] at ha
     exact .inr ⟨.inr (1:Int),by simp only [L16_2,L16_2c,hc1,decide_true,cond_true,hix,hh,Option.bind_some,Bool.not_false],by rw [← ha];rfl⟩
    | true=>
     rw [h1] at hh
     rw [h1,Bool.true_and] at ha
     exact .inl ⟨((k + 1:Nat):Int),by simp only [L16_2,L16_2c,hc1,decide_true,cond_true,hix,hh,Option.bind_some,Bool.not_true,cond_false,w64n (show k < 9223372036854775807 by omega)],⟨k + 1,rfl,by omega,ha⟩,by simp only [Int.toNat_natCast];omega⟩
   ·have hkn:k=refs.length:=by omega
    subst hkn
    rw [List.drop_length] at ha
    refine .inr ⟨.inl (),?_,by rw [← ha];rfl⟩
    simp [L16_2,L16_2c])
  F (0:Int) ⟨0,rfl,by omega,rfl⟩ (by simp;omega)
 subst hQ
 exact hz
theorem check_ok {F:Nat} (hF:2000 < F) (id:List UInt8) (vault block data total:Int) {refs:List Rf} (hl:refs.length≤1000):T16 F id vault block data total refs=some (bif okS id vault block data total refs then (0:Int) else (1:Int)):=by
 have h30:=valid30 (refs:=refs) hl hF
 have bad:∀ {p:Prop} [Decidable p] {c:Bool},¬ p->(bif (decide p && c) then (0:Int) else (1:Int))=1:=fun {p} _ c h=>by simp [h]
 simp only [T16,T16c,h30,valid_d,Option.bind_some]
 unfold okS
 by_cases c0:id.length=32
 case neg=>
  have:((id.length:Int) != 32)=true:=by
   have:¬ (id.length:Int)=32:=by omega
   simpa using this
  simp only [this,cond_true];rw [bad (fun h=>c0 h.1)]
 have e0:((id.length:Int) != 32)=false:=by rw [c0];rfl
 simp only [e0,cond_false]
 by_cases c1:vault < 0
 ·simp only [c1,decide_true,cond_true];rw [bad (by omega)]
 simp only [c1,decide_false,cond_false]
 by_cases c2:11 < vault
 ·simp only [c2,decide_true,cond_true];rw [bad (by omega)]
 simp only [c2,decide_false,cond_false]
 by_cases c3:1≤data∧data≤8∧data≤total∧total≤16
 case neg=>simp only [c3,decide_false,Bool.not_false,cond_true];rw [bad (fun h=>c3 ⟨h.2.2.2.1,h.2.2.2.2.1,h.2.2.2.2.2.1,h.2.2.2.2.2.2.1⟩)]
 have c3':decide (1≤data∧data≤8∧data≤total∧total≤16)=true:=by simpa using c3
 simp only [c3',Bool.not_true,cond_false]
 by_cases c4:(refs.length:Int) < 1
 ·simp only [c4,decide_true,cond_true];rw [bad (by omega)]
 simp only [c4,decide_false,cond_false]
 by_cases c5:data < (refs.length:Int)
 ·simp only [c5,decide_true,cond_true];rw [bad (by omega)]
 simp only [c5,decide_false,cond_false]
 cases c6:vRs refs with
 | false=>simp only [Bool.not_false,cond_true,Bool.false_and,Bool.and_false,cond_false]
 | true=>
 have hp:decide (id.length=32∧0≤vault∧vault≤11∧1≤data∧data≤8∧data≤total∧total≤16∧1≤refs.length∧(refs.length:Int)≤data)=true:=by apply decide_eq_true;omega
 have hlo:=class_all hF hl (vRs_size c6) block
 simp only [Bool.not_true,cond_false,Bool.true_and,hlo,Option.bind_some,hp]
 cases refs.all (fun r=>clsOf r.2.2.1 == block)<;>rfl
def all32 (sums:List (List UInt8)):Bool:=sums.all fun s=>s.length == 32
def okP (F:Nat) (id:List UInt8) (index:Int) (data:List UInt8) (sums:List (List UInt8)):Bool:=
 decide (id.length=32∧1≤sums.length∧sums.length≤16∧0≤index∧index < (sums.length:Int)∧1≤data.length∧data.length≤65536) && (all32 sums && (sums.getD index.toNat [] == hsh F data && rt F F sums == id))
theorem len32 (s:List UInt8):((s.length:Int) != 32) = !(s.length == 32):=by
 by_cases h:s.length=32
 ·have:((s.length:Int) != 32)=false:=by rw [h];rfl
  rw [this,h];rfl
 ·have h1:(s.length == 32)=false:=by simpa using h
  have h2:((s.length:Int) != 32)=true:=by
   have:¬ (s.length:Int)=32:=by omega
   simpa using this
  rw [h1,h2];rfl
theorem sums_ok {F:Nat} (hF:2000 < F) {sums:List (List UInt8)} (hl:sums.length≤1000):T46 F sums=some (!all32 sums):=by
 have h:∃ z,iter (fun s=>L83_2 F sums (sums.length:Int) s) F (0:Int)=some z∧(z=.inl ()∧all32 sums=true∨∃ k:Nat,z=.inr (k:Int)∧all32 sums=false):=by
  exact iter1 (f:=fun s:Int=>L83_2 F sums (sums.length:Int) s)
   (fun s=>∃ k:Nat,s=(k:Int)∧k≤sums.length∧(sums.drop k).all (fun s=>s.length == 32)=all32 sums) _ (fun s=>sums.length - s.toNat) (fun s hs=>by
    obtain ⟨k,e,hk,ha⟩:=hs
    subst e
    rcases Nat.lt_or_ge k sums.length with hlt | hge
    ·have hc1:((k:Nat):Int) < (sums.length:Int):=by omega
     have hr:sums[k]? = some sums[k]:=List.getElem?_eq_getElem hlt
     have hix:=ixn hr
     have hd:=drop_at hr
     generalize sums[k]=x at hr hix hd
     rw [hd,List.all_cons] at ha
     have ht:T47 F x=some (!(x.length == 32)):=by simp only [T47,T47c,len32]
     cases h1:x.length == 32 with
     | false=>
      rw [h1] at ht
      rw [h1,Bool.false_and] at ha
      exact .inr ⟨.inr (k:Int),by simp only [L83_2,L83_2c,hc1,decide_true,cond_true,hix,ht,Option.bind_some,Bool.not_false],.inr ⟨k,rfl,ha.symm⟩⟩
     | true=>
      rw [h1] at ht
      rw [h1,Bool.true_and] at ha
      exact .inl ⟨((k + 1:Nat):Int),by simp only [L83_2,L83_2c,hc1,decide_true,cond_true,hix,ht,Option.bind_some,Bool.not_true,cond_false,w64n (show k < 9223372036854775807 by omega)],⟨k + 1,rfl,by omega,ha⟩,by simp only [Int.toNat_natCast];omega⟩
    ·have hkn:k=sums.length:=by omega
     subst hkn
     rw [List.drop_length] at ha
     refine .inr ⟨.inl (),?_,.inl ⟨rfl,by rw [← ha];rfl⟩⟩
     simp [L83_2,L83_2c])
   F (0:Int) ⟨0,rfl,by omega,rfl⟩ (by simp;omega)
 obtain ⟨z,hz,hQ⟩:=h
 simp only [T46,T46c,T83,T83c,hz,Option.bind_some]
 rcases hQ with ⟨rfl,h⟩ | ⟨k,rfl,h⟩
 ·rw [h];rfl
 ·have:(0:Int)≤(k:Int):=by omega
  rw [h];simp only [elimS,Option.bind_some,this,decide_true,Bool.not_false]
theorem all32_mem {sums:List (List UInt8)} (h:all32 sums=true):∀ x ∈ sums,x.length=32:=fun x hx=>by
 have:=List.all_eq_true.1 h x hx
 simpa using this
theorem beqL_comm (a b:List UInt8):(a == b)=(b == a):=by
 by_cases h:a=b
 ·rw [h]
 ·have h1:(a == b)=false:=by simpa using h
  have h2:(b == a)=false:=by simpa using fun e:b=a=>h e.symm
  rw [h1,h2]
theorem verify_ok {F:Nat} (hF:2000 < F) (id:List UInt8) (index:Int) (data:List UInt8) {sums:List (List UInt8)}:T18 F id index data sums=some (okP F id index data sums):=by
 have bad:∀ {p:Prop} [Decidable p] {c:Bool},¬ p->(decide p && c)=false:=fun {p} _ c h=>by simp [h]
 simp only [T18,T18c]
 unfold okP
 by_cases c0:id.length=32
 case neg=>
  have:((id.length:Int) != 32)=true:=by
   have:¬ (id.length:Int)=32:=by omega
   simpa using this
  simp only [this,cond_true];rw [bad (fun h=>c0 h.1)]
 have e0:((id.length:Int) != 32)=false:=by rw [c0];rfl
 simp only [e0,cond_false]
 by_cases c1:(sums.length:Int) < 1
 ·simp only [c1,decide_true,cond_true];rw [bad (by omega)]
 simp only [c1,decide_false,cond_false]
 by_cases c2:16 < (sums.length:Int)
 ·simp only [c2,decide_true,cond_true];rw [bad (by omega)]
 have hs:=sums_ok hF (sums:=sums) (by omega)
 simp only [c2,decide_false,cond_false,hs,Option.bind_some]
 cases ha:all32 sums with
 | false=>simp only [Bool.not_false,cond_true,Bool.false_and,Bool.and_false]
 | true=>
 simp only [Bool.not_true,cond_false,Bool.true_and]
 by_cases c3:index < 0
 ·simp only [c3,decide_true,cond_true];rw [bad (by omega)]
 simp only [c3,decide_false,cond_false]
 by_cases c4:(sums.length:Int)≤index
 ·simp only [c4,decide_true,cond_true];rw [bad (by omega)]
 simp only [c4,decide_false,cond_false]
 by_cases c5:(data.length:Int) < 1
 ·simp only [c5,decide_true,cond_true];rw [bad (by omega)]
 simp only [c5,decide_false,cond_false]
 by_cases c6:(65536:Int) < (data.length:Int)
 ·simp only [c6,decide_true,cond_true];rw [bad (by omega)]
 have hof:=(t_of hF (x:=data) (by omega)).1
 obtain ⟨i,rfl⟩:∃ i:Nat,index=(i:Int):=⟨index.toNat,by omega⟩
 have hr:sums[i]? = some (sums[i]'(by omega)):=List.getElem?_eq_getElem (by omega)
 have hgd:sums.getD i []=sums[i]'(by omega):=by simp [show i < sums.length by omega]
 have hrt:=(t_root hF (l:=sums) (by omega) (all32_mem ha)).1
 have hp:decide (id.length=32∧1≤sums.length∧sums.length≤16∧0≤(i:Int)∧(i:Int) < (sums.length:Int)∧1≤data.length∧data.length≤65536)=true:=by apply decide_eq_true;omega
 simp only [c6,decide_false,cond_false,hof,Option.bind_some,beq_self_eq_true,cond_true,ixn hr,hrt,hp,Bool.true_and,Int.toNat_natCast,hgd]
 rw [beqL_comm]
 cases sums[i]'(by omega) == hsh F data<;>simp
def okF (F:Nat) (sid:List UInt8) (block total:Int) (id:List UInt8) (index:Int) (data:List UInt8) (sums:List (List UInt8)):Bool:=
 id == sid && ((sums.length:Int) == total && ((data.length:Int) == block && okP F id index data sums))
theorem fits_ok {F:Nat} (hF:2000 < F) (sid:List UInt8) (block total:Int) (id:List UInt8) (index:Int) (data:List UInt8) {sums:List (List UInt8)}:T52 F sid block total id index data sums=some (okF F sid block total id index data sums):=by
 simp only [T52,T52c,verify_ok hF,Option.bind_some]
 unfold okF
 cases id == sid<;>cases (sums.length:Int) == total<;>cases (data.length:Int) == block<;>simp
theorem Fits_ok {F:Nat} (hF:2000 < F) (sid:List UInt8) (vault block d total:Int) {refs:List Rf} (hl:refs.length≤1000) (id:List UInt8) (index:Int) (data:List UInt8) {sums:List (List UInt8)}:T20 F sid vault block d total refs id index data sums=some (okS sid vault block d total refs && okF F sid block total id index data sums):=by
 simp only [T20,T20c,check_ok hF sid vault block d total hl,fits_ok hF,Option.bind_some]
 cases okS sid vault block d total refs<;>rfl
def ord43:Nat->List (Tag×Nat)
 | 6=>[(.p,0),(.p,1),(.p,2),(.r,3),(.p,4),(.p,5),(.p,6),(.r,7),(.p,8)]
 | _=>[]
def E43 (F:Nat):Ev:=⟨cfg,26,ctOf [],ord43,ctOf [],fun _=>none,fun _=>none⟩
theorem cts43 (F:Nat):CtsOk Tryz.prog (E43 F):=cts_of (l:=[]) (l':=[]) rfl rfl trivial trivial
def L43_2c (F:Nat) (y10:List Zb) (y11:List Zb) (y12:Int) (y13:Int) {β:Type} (kA:Int->Option β) (kO:Unit->Option β) (kR:Bool->Option β):Option β:=
 (bif (decide (y13 < y12)) then (Option.bind (ix y10 y13) fun x16=>(Option.bind (ix y11 y13) fun x17=>(bif (!(x16.1 == x17.1 && (x16.2.1 == x17.2.1 && (x16.2.2.1 == x17.2.2.1 && true)))) then (kR false) else (kA (w64 (y13 + (1:Int))))))) else (kO ()))
def L43_2 (F:Nat) (y10:List Zb) (y11:List Zb) (y12:Int) (y13:Int):Option ((Int) ⊕ ((Unit) ⊕ (Bool))):=L43_2c F y10 y11 y12 y13 (fun s=>some (.inl s)) (fun z=>some (.inr (.inl z))) (fun z=>some (.inr (.inr z)))
theorem L43_2n (F:Nat) (y10:List Zb) (y11:List Zb) (y12:Int) (y13:Int) {β:Type} (kA:Int->Option β) (kO:Unit->Option β) (kR:Bool->Option β):L43_2c F y10 y11 y12 y13 kA kO kR=(L43_2 F y10 y11 y12 y13).bind (elimS kA (elimS kO kR)):=by
 simp only [L43_2,L43_2c,oA,oC,oS,oN,elimS_l,elimS_r,elimS_bind]
def lc43_2 (F:Nat):Lc:=mkR [0,1,12,13] [(.ro (.pr .s (.pr .i (.pr .i .un)))),(.ro (.pr .s (.pr .i (.pr .i .un)))),.i,.i] [] [] [] [] [4] [.bo] [] F (fun x y (s:Int)=>L43_2 F x.1 x.2.1 x.2.2.1 s) (fun x y=>x.2.2.2.1) (fun x y (z:Unit)=>((),())) (fun x y (z:Bool)=>((z,()),()))
theorem lo43_2 (F:Nat):LcOk Tryz.prog (E43 F) 0 (lc43_2 F) (cAt (bodyOf Tryz.f43) [1,0,1,1]):=
 mkR_ok (lp:=[]) (id:=0) (b:=cAt (bodyOf Tryz.f43) (0 :: 0 :: [1,0,1,1])) cok (cts43 F) mixed trivial (by kernel_rfl) (by kernel_rfl) (fun x y s=>(x.1,x.2.1,x.2.2.1,s,())) (fun x y s=>()) (fun x y=>rfl) (fun x y=>rfl) (fun x y s kA kO kR=>L43_2c F x.1 x.2.1 x.2.2.1 s kA kO kR) (fun x y s kA kO kR=>L43_2n F x.1 x.2.1 x.2.2.1 s kA kO kR) (fun _ _ _=>by kernel_rfl)
def T43c (F:Nat) (p0:List Zb) (p1:List Zb) {β:Type} (k:Bool->Option β):Option β:=
 (bif ((p0.length:Int) != (p1.length:Int)) then (k false) else (Option.bind (iter (fun s=>L43_2 F p0 p1 (p0.length:Int) s) F (0:Int)) fun z18=>elimS (fun z18=>(k true)) (fun z18=>(k z18)) z18))
def T43 (F:Nat) (p0:List Zb) (p1:List Zb):=T43c F p0 p1 some
def ct43 (F:Nat):Ct:=mkC 0 [(.ro (.pr .s (.pr .i (.pr .i .un)))),(.ro (.pr .s (.pr .i (.pr .i .un))))] [] [.bo] [] (fun x y=>T43 F x.1 x.2.1) (fun x y (z:Bool)=>((z,()),()))
theorem ok43 (F:Nat):Sound Tryz.prog cfg 43 (ct43 F):=
 mkC_ok (E:=E43 F) (lp:=[([1,0,1,1],lc43_2 F)]) (code:=bodyOf Tryz.f43) Tryz.func43 rfl Tryz.ntmps43 rfl rfl cok (cts43 F) mixed ⟨lo43_2 F,trivial⟩ (by kernel_rfl) (fun x y k=>T43c F x.1 x.2.1 k) (fun _ _ _=>by simp only [T43,T43c,oA,oC,oS,oN,elimS_bind]) (fun _ _=>by kernel_rfl)
def E12 (F:Nat):Ev:=⟨cfg,45,ctOf [(43,ct43 F)],fun _=>[],ctOf [],fun _=>none,fun _=>none⟩
theorem cts12 (F:Nat):CtsOk Tryz.prog (E12 F):=cts_of (l:=[(43,ct43 F)]) (l':=[]) rfl rfl ⟨⟨ok43 F,_,Tryz.func43,rfl,rfl⟩,trivial⟩ trivial
def T12c (F:Nat) (p0:List UInt8) (p1:Int) (p2:Int) (p3:Int) (p4:Int) (p5:List Zb) (p6:List UInt8) (p7:Int) (p8:Int) (p9:Int) (p10:Int) (p11:List Zb) {β:Type} (k:Bool->Option β):Option β:=
 (bif (p0 == p6) then (bif (p1 == p7) then (bif (p2 == p8) then (bif (p3 == p9) then (bif (p4 == p10) then (Option.bind (T43 F p5 p11) fun z2=>(k z2)) else (k false)) else (k false)) else (k false)) else (k false)) else (k false))
def T12 (F:Nat) (p0:List UInt8) (p1:Int) (p2:Int) (p3:Int) (p4:Int) (p5:List Zb) (p6:List UInt8) (p7:Int) (p8:Int) (p9:Int) (p10:Int) (p11:List Zb):=T12c F p0 p1 p2 p3 p4 p5 p6 p7 p8 p9 p10 p11 some
def ct12 (F:Nat):Ct:=mkC 0 [(.pr .str (.pr .i (.pr .i (.pr .i (.pr .i (.pr (.ro (.pr .s (.pr .i (.pr .i .un)))) .un)))))),(.pr .str (.pr .i (.pr .i (.pr .i (.pr .i (.pr (.ro (.pr .s (.pr .i (.pr .i .un)))) .un))))))] [] [.bo] [] (fun x y=>T12 F x.1.1 x.1.2.1 x.1.2.2.1 x.1.2.2.2.1 x.1.2.2.2.2.1 x.1.2.2.2.2.2.1 x.2.1.1 x.2.1.2.1 x.2.1.2.2.1 x.2.1.2.2.2.1 x.2.1.2.2.2.2.1 x.2.1.2.2.2.2.2.1) (fun x y (z:Bool)=>((z,()),()))
theorem ok12 (F:Nat):Sound Tryz.prog cfg 12 (ct12 F):=
 mkC_ok (E:=E12 F) (lp:=[]) (code:=bodyOf Tryz.f12) Tryz.func12 rfl Tryz.ntmps12 rfl rfl cok (cts12 F) mixed trivial (by kernel_rfl) (fun x y k=>T12c F x.1.1 x.1.2.1 x.1.2.2.1 x.1.2.2.2.1 x.1.2.2.2.2.1 x.1.2.2.2.2.2.1 x.2.1.1 x.2.1.2.1 x.2.1.2.2.1 x.2.1.2.2.2.1 x.2.1.2.2.2.2.1 x.2.1.2.2.2.2.2.1 k) (fun _ _ _=>by simp only [T12,T12c,oA,oC,oS,oN,elimS_bind]) (fun _ _=>by kernel_rfl)
def E57 (F:Nat):Ev:=⟨cfg,3,ctOf [],fun _=>[],ctOf [],fun _=>none,fun _=>none⟩
theorem cts57 (F:Nat):CtsOk Tryz.prog (E57 F):=cts_of (l:=[]) (l':=[]) rfl rfl trivial trivial
def T57c (F:Nat) {β:Type} (k:Int->Option β):Option β:=
 (k (0:Int))
def T57 (F:Nat):=T57c F some
def ct57 (F:Nat):Ct:=mkC 0 [] [] [(.pt 0 [])] [.blk 149 (.pr .ns (.pr .i .un))] (fun x y=>T57 F) (fun x y (z:Int)=>(((),()),(((),z,()),())))
theorem ok57 (F:Nat):Sound Tryz.prog cfg 57 (ct57 F):=
 mkC_ok (E:=E57 F) (lp:=[]) (code:=bodyOf Tryz.f57) Tryz.func57 rfl Tryz.ntmps57 rfl rfl cok (cts57 F) mixed trivial (by kernel_rfl) (fun x y k=>T57c F k) (fun _ _ _=>by simp only [T57,T57c,oA,oC,oS,oN,elimS_bind]) (fun _ _=>by kernel_rfl)
def E58 (F:Nat):Ev:=⟨cfg,24,ctOf [],fun _=>[],ctOf [],fun _=>none,fun _=>none⟩
theorem cts58 (F:Nat):CtsOk Tryz.prog (E58 F):=cts_of (l:=[]) (l':=[]) rfl rfl trivial trivial
def T58c (F:Nat) (p0:List UInt8) (p1:Int) {β:Type} (k:Zm->Option β):Option β:=
 (bif (p1 != (0:Int)) then (k (p1,([]:List UInt8))) else (bif ((p0.length:Int) != (32:Int)) then (k ((1:Int),([]:List UInt8))) else (Option.bind (gapp ([]:List UInt8) p0) fun x2=>(k (p1,x2)))))
def T58 (F:Nat) (p0:List UInt8) (p1:Int):=T58c F p0 p1 some
def ct58 (F:Nat):Ct:=mkC 1 [(.pt 0 []),.str] [.blk 149 (.pr .ns (.pr .i .un))] [] [.blk 149 (.pr (.rw 1) (.pr .i .un)),.row 5 .u8] (fun x y=>T58 F x.2.1 y.1.2.1) (fun x y (z:Int×Za)=>((),(((),z.1,()),z.2,())))
theorem ok58 (F:Nat):Sound Tryz.prog cfg 58 (ct58 F):=
 mkC_ok (E:=E58 F) (lp:=[]) (code:=bodyOf Tryz.f58) Tryz.func58 rfl Tryz.ntmps58 rfl rfl cok (cts58 F) mixed trivial (by kernel_rfl) (fun x y k=>T58c F x.2.1 y.1.2.1 k) (fun _ _ _=>by simp only [T58,T58c,oA,oC,oS,oN,elimS_bind]) (fun _ _=>by kernel_rfl)
def E100 (F:Nat):Ev:=⟨cfg,20,ctOf [],fun _=>[],ctOf [],fun _=>none,fun _=>none⟩
theorem cts100 (F:Nat):CtsOk Tryz.prog (E100 F):=cts_of (l:=[]) (l':=[]) rfl rfl trivial trivial
def L100_2c (F:Nat) (y7:UInt64) (y8:List UInt8) {β:Type} (kA:(UInt64×Za)->Option β) (kO:(UInt64×Za)->Option β):Option β:=
 (bif (decide ((UInt64.ofNat 128)≤y7)) then (Option.bind (gapp y8 ([((y7.toUInt8) ||| (UInt8.ofNat 128))]:List UInt8)) fun x10=>(kA ((shr64 y7 ((UInt64.ofNat 7).toNat)),x10))) else (kO (y7,y8)))
def L100_2 (F:Nat) (y7:UInt64) (y8:List UInt8):=L100_2c F y7 y8 (fun s=>some (Sum.inl s)) (fun z=>some (Sum.inr z))
def lc100_2 (F:Nat):Lc:=mkL [0,1] [(.rw 0),.u64] [.row 5 .u8] [0,1] [(.rw 0),.u64] [.row 5 .u8] F (fun x y (s:UInt64×Za)=>L100_2 F s.1 s.2) (fun x y=>(x.2.1,y.1)) (fun x y (z:UInt64×Za)=>(((),z.1,()),(z.2,())))
theorem lo100_2 (F:Nat):LcOk Tryz.prog (E100 F) 0 (lc100_2 F) (cAt (bodyOf Tryz.f100) [0,1]):=
 mkL_ok (lp:=[]) (id:=0) (b:=cAt (bodyOf Tryz.f100) (0 :: 0 :: [0,1])) cok (cts100 F) mixed trivial (by kernel_rfl) (by kernel_rfl) (fun x y s=>((),s.1,())) (fun x y s=>(s.2,())) (fun x y=>rfl) (fun x y=>rfl) (fun x y s kA kO=>L100_2c F s.1 s.2 kA kO) (fun _ _ _ _ _=>by simp only [L100_2,L100_2c,oA,oC,oS,oN,elimS_l,elimS_r,elimS_bind]) (fun _ _ _=>by kernel_rfl)
def T100c (F:Nat) (p0:UInt64) (p1:List UInt8) {β:Type} (k:(Za)->Option β):Option β:=
 (Option.bind (iter (fun s=>L100_2 F s.1 s.2) F (p0,p1)) fun z11=>(Option.bind (gapp z11.2 ([(z11.1.toUInt8)]:List UInt8)) fun x12=>(k x12)))
def T100 (F:Nat) (p0:UInt64) (p1:List UInt8):=T100c F p0 p1 some
def ct100 (F:Nat):Ct:=mkC 0 [(.rw 0),.u64] [.row 5 .u8] [(.rw 0)] [.row 5 .u8] (fun x y=>T100 F x.2.1 y.1) (fun x y (z:Za)=>(((),()),(z,())))
theorem ok100 (F:Nat):Sound Tryz.prog cfg 100 (ct100 F):=
 mkC_ok (E:=E100 F) (lp:=[([0,1],lc100_2 F)]) (code:=bodyOf Tryz.f100) Tryz.func100 rfl Tryz.ntmps100 rfl rfl cok (cts100 F) mixed ⟨lo100_2 F,trivial⟩ (by kernel_rfl) (fun x y k=>T100c F x.2.1 y.1 k) (fun _ _ _=>by simp only [T100,T100c,oA,oC,oS,oN,elimS_bind]) (fun _ _=>by kernel_rfl)
def E59 (F:Nat):Ev:=⟨cfg,18,ctOf [(100,ct100 F)],fun _=>[],ctOf [],fun _=>none,fun _=>none⟩
theorem cts59 (F:Nat):CtsOk Tryz.prog (E59 F):=cts_of (l:=[(100,ct100 F)]) (l':=[]) rfl rfl ⟨⟨ok100 F,_,Tryz.func100,rfl,rfl⟩,trivial⟩ trivial
def T59c (F:Nat) (p0:UInt64) (p1:Int) (p2:List UInt8) {β:Type} (k:(Za)->Option β):Option β:=
 (bif (p1 == (0:Int)) then (Option.bind (T100 F p0 p2) fun z2=>(k z2)) else (k p2))
def T59 (F:Nat) (p0:UInt64) (p1:Int) (p2:List UInt8):=T59c F p0 p1 p2 some
def ct59 (F:Nat):Ct:=mkC 1 [(.pt 0 []),.u64] [.blk 149 (.pr (.rw 1) (.pr .i .un)),.row 5 .u8] [] [.blk 149 (.pr (.rw 1) (.pr .i .un)),.row 5 .u8] (fun x y=>T59 F x.2.1 y.1.2.1 y.2.1) (fun x y (z:Za)=>((),(((),y.1.2.1,()),z,())))
theorem ok59 (F:Nat):Sound Tryz.prog cfg 59 (ct59 F):=
 mkC_ok (E:=E59 F) (lp:=[]) (code:=bodyOf Tryz.f59) Tryz.func59 rfl Tryz.ntmps59 rfl rfl cok (cts59 F) mixed trivial (by kernel_rfl) (fun x y k=>T59c F x.2.1 y.1.2.1 y.2.1 k) (fun _ _ _=>by simp only [T59,T59c,oA,oC,oS,oN,elimS_bind]) (fun _ _=>by kernel_rfl)
def E60 (F:Nat):Ev:=⟨cfg,18,ctOf [(59,ct59 F)],fun _=>[],ctOf [],fun _=>none,fun _=>none⟩
theorem cts60 (F:Nat):CtsOk Tryz.prog (E60 F):=cts_of (l:=[(59,ct59 F)]) (l':=[]) rfl rfl ⟨⟨ok59 F,_,Tryz.func59,rfl,rfl⟩,trivial⟩ trivial
def T60c (F:Nat) (p0:Int) (p1:Int) (p2:List UInt8) {β:Type} (k:Zm->Option β):Option β:=
 (bif (p1 != (0:Int)) then (k (p1,p2)) else (bif (decide (p0 < (0:Int))) then (k ((1:Int),p2)) else (Option.bind (T59 F (UInt64.ofInt p0) p1 p2) fun z2=>(k (p1,z2)))))
def T60 (F:Nat) (p0:Int) (p1:Int) (p2:List UInt8):=T60c F p0 p1 p2 some
def ct60 (F:Nat):Ct:=mkC 1 [(.pt 0 []),.i] [.blk 149 (.pr (.rw 1) (.pr .i .un)),.row 5 .u8] [] [.blk 149 (.pr (.rw 1) (.pr .i .un)),.row 5 .u8] (fun x y=>T60 F x.2.1 y.1.2.1 y.2.1) (fun x y (z:Int×Za)=>((),(((),z.1,()),z.2,())))
theorem ok60 (F:Nat):Sound Tryz.prog cfg 60 (ct60 F):=
 mkC_ok (E:=E60 F) (lp:=[]) (code:=bodyOf Tryz.f60) Tryz.func60 rfl Tryz.ntmps60 rfl rfl cok (cts60 F) mixed trivial (by kernel_rfl) (fun x y k=>T60c F x.2.1 y.1.2.1 y.2.1 k) (fun _ _ _=>by simp only [T60,T60c,oA,oC,oS,oN,elimS_bind]) (fun _ _=>by kernel_rfl)
def ord58x1:Nat->List (Tag×Nat)
 | _=>[]
def al58x1:Nat->Option Nat
 | _=>none
def ms58x1:Nat->Option (List (Option Tag×Nat×List Nat))
 | _=>none
def E58x1 (F:Nat):Ev:=⟨cfg,24,ctOf [],ord58x1,ctOf [],al58x1,ms58x1⟩
theorem cts58x1 (F:Nat):CtsOk Tryz.prog (E58x1 F):=cts_of (l:=[]) (l':=[]) rfl rfl trivial trivial
def T58x1c (F:Nat) (p0:List UInt8) (p1:Int) (p2:List UInt8) {β:Type} (k:(Int×(List UInt8))->Option β):Option β:=
 (bif (p1 != (0:Int)) then (k (p1,p2)) else (bif ((p0.length:Int) != (32:Int)) then (k ((1:Int),p2)) else (Option.bind (gapp p2 p0) fun x2=>(k (p1,x2)))))
def T58x1 (F:Nat) (p0:List UInt8) (p1:Int) (p2:List UInt8):Option (Int×(List UInt8)):=T58x1c F p0 p1 p2 some
theorem T58x1n (F:Nat) (p0:List UInt8) (p1:Int) (p2:List UInt8) {β:Type} (k:(Int×(List UInt8))->Option β):T58x1c F p0 p1 p2 k=(T58x1 F p0 p1 p2).bind k:=by
 simp only [T58x1,T58x1c,Option.bind_assoc,cond_bind,Option.bind_some,Option.bind_none,elimS_bind]
abbrev cA58x1:List Sh:=[(.pt 0 []),.str]
abbrev cB58x1:List Sh:=[]
abbrev cT58x1:List TSh:=[.blk 149 (.pr (.rw 1) (.pr .i .un)),.row 5 .u8]
abbrev cU58x1:List TSh:=[.blk 149 (.pr (.rw 1) (.pr .i .un)),.row 5 .u8]
def ct58x1 (F:Nat):Ct:=mkC 1 cA58x1 cT58x1 cB58x1 cU58x1 (fun x y=>T58x1 F x.2.1 y.1.2.1 y.2.1) (fun x y (z:Int×(List UInt8))=>((),(((),z.1,()),z.2,())))
theorem eq58x1 (F:Nat) (x:dens cA58x1) (y:tdens cT58x1):sev (E58x1 F) 1 [] (bodyOf Tryz.f58) [] (mkSt (rng 2) cA58x1 cT58x1 x y) (kFn (E58x1 F) 1 Tryz.f58.results.toList cB58x1 cU58x1 fun p q=>some (p,q)) =
  T58x1c F x.2.1 y.1.2.1 y.2.1 (fun z=>some ((),(((),z.1,()),z.2,()))):=by kernel_rfl
theorem ok58x1 (F:Nat):Sound Tryz.prog cfg 58 (ct58x1 F):=
 mkC_ok (E:=E58x1 F) (lp:=[]) (code:=bodyOf Tryz.f58) Tryz.func58 rfl Tryz.ntmps58 rfl rfl cok (cts58x1 F) mixed trivial (by kernel_rfl) (fun x y k=>T58x1c F x.2.1 y.1.2.1 y.2.1 k) (fun x y k=>T58x1n F x.2.1 y.1.2.1 y.2.1 k) (eq58x1 F)
def ord61:Nat->List (Tag×Nat)
 | 2=>[(.p,0),(.p,1),(.p,2),(.r,3),(.p,4),(.p,5)]
 | _=>[]
def E61 (F:Nat):Ev:=⟨cfg,25,ctOf [],ord61,ctOf [],fun _=>none,fun _=>none⟩
theorem cts61 (F:Nat):CtsOk Tryz.prog (E61 F):=cts_of (l:=[]) (l':=[]) rfl rfl trivial trivial
def T61c (F:Nat) (p0:Int) (p1:List UInt8) {β:Type} (k:Zm->Option β):Option β:=
 (bif (p0 != (0:Int)) then (k (p0,([]:List UInt8))) else (bif (decide ((1048576:Int) < (p1.length:Int))) then (k ((2:Int),([]:List UInt8))) else (Option.bind (gapp ([]:List UInt8) p1) fun x2=>(k ((0:Int),x2)))))
def T61 (F:Nat) (p0:Int) (p1:List UInt8):=T61c F p0 p1 some
def ct61 (F:Nat):Ct:=mkC 2 [(.pt 0 [])] [.blk 149 (.pr (.rw 1) (.pr .i .un)),.row 5 .u8] [(.rw 2),.i] [.blk 149 (.pr (.rw 1) (.pr .i .un)),.row 5 .u8,.row 5 .u8] (fun x y=>T61 F y.1.2.1 y.2.1) (fun x y (z:Int×Za)=>(((),z.1,()),(((),y.1.2.1,()),y.2.1,z.2,())))
theorem ok61 (F:Nat):Sound Tryz.prog cfg 61 (ct61 F):=
 mkC_ok (E:=E61 F) (lp:=[]) (code:=bodyOf Tryz.f61) Tryz.func61 rfl Tryz.ntmps61 rfl rfl cok (cts61 F) mixed trivial (by kernel_rfl) (fun x y k=>T61c F y.1.2.1 y.2.1 k) (fun _ _ _=>by simp only [T61,T61c,oA,oC,oS,oN,elimS_bind]) (fun _ _=>by kernel_rfl)
def E26 (F:Nat):Ev:=⟨cfg,67,ctOf [(16,ct16 F),(57,ct57 F),(58,ct58 F),(59,ct59 F),(60,ct60 F),(58,ct58x1 F),(61,ct61 F)],fun _=>[],ctOf [],fun _=>none,fun _=>none⟩
theorem cts26 (F:Nat):CtsOk Tryz.prog (E26 F):=cts_of (l:=[(16,ct16 F),(57,ct57 F),(58,ct58 F),(59,ct59 F),(60,ct60 F),(58,ct58x1 F),(61,ct61 F)]) (l':=[]) rfl rfl ⟨⟨ok16 F,_,Tryz.func16,rfl,rfl⟩,⟨⟨ok57 F,_,Tryz.func57,rfl,rfl⟩,⟨⟨ok58 F,_,Tryz.func58,rfl,rfl⟩,⟨⟨ok59 F,_,Tryz.func59,rfl,rfl⟩,⟨⟨ok60 F,_,Tryz.func60,rfl,rfl⟩,⟨⟨ok58x1 F,_,Tryz.func58,rfl,rfl⟩,⟨⟨ok61 F,_,Tryz.func61,rfl,rfl⟩,trivial⟩⟩⟩⟩⟩⟩⟩ trivial
def L26_3c (F:Nat) (y41:Int) (y49:Int) (y50:List Int) (y42:Int) (y51:List UInt8) {β:Type} (kA:Zm->Option β) (kO:(Za)->Option β):Option β:=
 (bif (decide (y42 < y41)) then (Option.bind (inb y50.length y42) fun x55=>(Option.bind (y50[x55]?) fun x56=>(Option.bind (T59 F (UInt64.ofInt x56) y49 y51) fun z57=>(kA ((w64 (y42 + (1:Int))),z57))))) else (kO y51))
def L26_3 (F:Nat) (y41:Int) (y49:Int) (y50:List Int) (y42:Int) (y51:List UInt8):=L26_3c F y41 y49 y50 y42 y51 (fun s=>some (Sum.inl s)) (fun z=>some (Sum.inr z))
def lc26_3 (F:Nat):Lc:=mkL [1,4,25,26,27] [(.pt 0 []),(.pt 1 []),(.rw 2),.i,.i] [.blk 27 (.pr .str (.pr .i (.pr .i (.pr .i (.pr .i (.pr (.ro (.pr .s (.pr .i (.pr .i .un)))) .un)))))),.blk 149 (.pr (.rw 3) (.pr .i .un)),.row 3 .i,.row 5 .u8] [1,4] [(.pt 0 []),(.pt 1 [])] [.blk 27 (.pr .str (.pr .i (.pr .i (.pr .i (.pr .i (.pr (.ro (.pr .s (.pr .i (.pr .i .un)))) .un)))))),.blk 149 (.pr (.rw 2) (.pr .i .un)),.row 5 .u8] F (fun x y (s:Int×Za)=>L26_3 F x.2.2.2.1 y.2.1.2.1 y.2.2.1 s.1 s.2) (fun x y=>(x.2.2.2.2.1,y.2.2.2.1)) (fun x y (z:Za)=>(((),(),()),((y.1.1,y.1.2.1,y.1.2.2.1,y.1.2.2.2.1,y.1.2.2.2.2.1,y.1.2.2.2.2.2.1,()),((),y.2.1.2.1,()),z,())))
theorem lo26_3 (F:Nat):LcOk Tryz.prog (E26 F) 0 (lc26_3 F) (cAt (bodyOf Tryz.f26) [1,0,1,1,1,1]):=
 mkL_ok (lp:=[]) (id:=0) (b:=cAt (bodyOf Tryz.f26) (0 :: 0 :: [1,0,1,1,1,1])) cok (cts26 F) mixed trivial (by kernel_rfl) (by kernel_rfl) (fun x y s=>((),(),(),x.2.2.2.1,s.1,())) (fun x y s=>((y.1.1,y.1.2.1,y.1.2.2.1,y.1.2.2.2.1,y.1.2.2.2.2.1,y.1.2.2.2.2.2.1,()),((),y.2.1.2.1,()),y.2.2.1,s.2,())) (fun x y=>rfl) (fun x y=>rfl) (fun x y s kA kO=>L26_3c F x.2.2.2.1 y.2.1.2.1 y.2.2.1 s.1 s.2 kA kO) (fun _ _ _ _ _=>by simp only [L26_3,L26_3c,oA,oC,oS,oN,elimS_l,elimS_r,elimS_bind]) (fun _ _ _=>by kernel_rfl)
def L26_4c (F:Nat) (y60:List Zb) (y61:Int) (y62:Int) (y63:Int) (y64:List UInt8) {β:Type} (kA:(Int×Int×Za)->Option β) (kO:Zm->Option β):Option β:=
 (bif (decide (y62 < y61)) then (Option.bind (ix y60 y62) fun x69=>(Option.bind (T58x1 F x69.1 y63 y64) fun z70=>(Option.bind (T59 F (UInt64.ofInt x69.2.1) z70.1 z70.2) fun z71=>(Option.bind (T59 F (UInt64.ofInt x69.2.2.1) z70.1 z71) fun z72=>(kA ((w64 (y62 + (1:Int))),z70.1,z72)))))) else (kO (y63,y64)))
def L26_4 (F:Nat) (y60:List Zb) (y61:Int) (y62:Int) (y63:Int) (y64:List UInt8):=L26_4c F y60 y61 y62 y63 y64 (fun s=>some (Sum.inl s)) (fun z=>some (Sum.inr z))
def lc26_4 (F:Nat):Lc:=mkL [4,42,43,44] [(.pt 0 []),(.ro (.pr .s (.pr .i (.pr .i .un)))),.i,.i] [.blk 149 (.pr (.rw 1) (.pr .i .un)),.row 5 .u8] [4] [(.pt 0 [])] [.blk 149 (.pr (.rw 1) (.pr .i .un)),.row 5 .u8] F (fun x y (s:Int×Int×Za)=>L26_4 F x.2.1 x.2.2.1 s.1 s.2.1 s.2.2) (fun x y=>(x.2.2.2.1,y.1.2.1,y.2.1)) (fun x y (z:Int×Za)=>(((),()),(((),z.1,()),z.2,())))
theorem lo26_4 (F:Nat):LcOk Tryz.prog (E26 F) 0 (lc26_4 F) (cAt (bodyOf Tryz.f26) [1,0,1,1,1,1,1,1]):=
 mkL_ok (lp:=[]) (id:=2) (b:=cAt (bodyOf Tryz.f26) (0 :: 0 :: [1,0,1,1,1,1,1,1])) cok (cts26 F) mixed trivial (by kernel_rfl) (by kernel_rfl) (fun x y s=>((),x.2.1,x.2.2.1,s.1,())) (fun x y s=>(((),s.2.1,()),s.2.2,())) (fun x y=>rfl) (fun x y=>rfl) (fun x y s kA kO=>L26_4c F x.2.1 x.2.2.1 s.1 s.2.1 s.2.2 kA kO) (fun _ _ _ _ _=>by simp only [L26_4,L26_4c,oA,oC,oS,oN,elimS_l,elimS_r,elimS_bind]) (fun _ _ _=>by kernel_rfl)
def T26c (F:Nat) (p0:List UInt8) (p1:Int) (p2:Int) (p3:Int) (p4:Int) (p5:List Zb) {β:Type} (k:Zm->Option β):Option β:=
 (Option.bind (T16 F p0 p1 p2 p3 p4 p5) fun z38=>(bif (z38 != (0:Int)) then (k ((1:Int),([]:List UInt8))) else (Option.bind (T57 F) fun z39=>(Option.bind (T58 F p0 z39) fun z40=>(Option.bind (iter (fun s=>L26_3 F (([p1,p2,p3,p4]:List Int).length:Int) z40.1 ([p1,p2,p3,p4]:List Int) s.1 s.2) F ((0:Int),z40.2)) fun z58=>(Option.bind (T60 F (p5.length:Int) z40.1 z58) fun z59=>(Option.bind (iter (fun s=>L26_4 F p5 (p5.length:Int) s.1 s.2.1 s.2.2) F ((0:Int),z59.1,z59.2)) fun z73=>(Option.bind (T61 F z73.1 z73.2) fun z74=>(k (z74.1,z74.2))))))))))
def T26 (F:Nat) (p0:List UInt8) (p1:Int) (p2:Int) (p3:Int) (p4:Int) (p5:List Zb):=T26c F p0 p1 p2 p3 p4 p5 some
def ct26 (F:Nat):Ct:=mkC 0 [(.pr .str (.pr .i (.pr .i (.pr .i (.pr .i (.pr (.ro (.pr .s (.pr .i (.pr .i .un)))) .un))))))] [] [(.rw 0),.i] [.row 5 .u8] (fun x y=>T26 F x.1.1 x.1.2.1 x.1.2.2.1 x.1.2.2.2.1 x.1.2.2.2.2.1 x.1.2.2.2.2.2.1) (fun x y (z:Int×Za)=>(((),z.1,()),(z.2,())))
theorem ok26 (F:Nat):Sound Tryz.prog cfg 26 (ct26 F):=
 mkC_ok (E:=E26 F) (lp:=[([1,0,1,1,1,1],lc26_3 F),([1,0,1,1,1,1,1,1],lc26_4 F)]) (code:=bodyOf Tryz.f26) Tryz.func26 rfl Tryz.ntmps26 rfl rfl cok (cts26 F) mixed ⟨lo26_3 F,⟨lo26_4 F,trivial⟩⟩ (by kernel_rfl) (fun x y k=>T26c F x.1.1 x.1.2.1 x.1.2.2.1 x.1.2.2.2.1 x.1.2.2.2.2.1 x.1.2.2.2.2.2.1 k) (fun _ _ _=>by simp only [T26,T26c,oA,oC,oS,oN,elimS_bind]) (fun _ _=>by kernel_rfl)
def E62 (F:Nat):Ev:=⟨cfg,8,ctOf [],fun _=>[],ctOf [],fun _=>none,fun _=>none⟩
theorem cts62 (F:Nat):CtsOk Tryz.prog (E62 F):=cts_of (l:=[]) (l':=[]) rfl rfl trivial trivial
def T62c (F:Nat) (p0:List UInt8) {β:Type} (k:(Int×Int×Int×Za)->Option β):Option β:=
 (Option.bind (gapp ([]:List UInt8) p0) fun x2=>(k ((0:Int),(0:Int),(0:Int),x2)))
def T62 (F:Nat) (p0:List UInt8):=T62c F p0 some
def ct62 (F:Nat):Ct:=mkC 0 [(.ro .u8)] [] [(.pt 0 [])] [.blk 152 (.pr (.rw 1) (.pr .i (.pr .i (.pr .i .un)))),.row 5 .u8] (fun x y=>T62 F x.1) (fun x y (z:Int×Int×Int×Za)=>(((),()),(((),z.1,z.2.1,z.2.2.1,()),z.2.2.2,())))
theorem ok62 (F:Nat):Sound Tryz.prog cfg 62 (ct62 F):=
 mkC_ok (E:=E62 F) (lp:=[]) (code:=bodyOf Tryz.f62) Tryz.func62 rfl Tryz.ntmps62 rfl rfl cok (cts62 F) mixed trivial (by kernel_rfl) (fun x y k=>T62c F x.1 k) (fun _ _ _=>by simp only [T62,T62c,oA,oC,oS,oN,elimS_bind]) (fun _ _=>by kernel_rfl)
def ord103:Nat->List (Tag×Nat)
 | 1=>[(.p,0),(.p,1),(.p,2),(.p,3),(.r,4),(.p,5),(.p,6),(.p,7),(.p,8),(.r,9),(.p,10),(.p,11)]
 | 3=>[(.p,0),(.p,1),(.p,2),(.r,3),(.p,4),(.p,5),(.p,6),(.r,7),(.p,8),(.p,9),(.p,10),(.r,11),(.p,12),(.p,13),(.p,14),(.p,15)]
 | _=>[]
def E103 (F:Nat):Ev:=⟨cfg,43,ctOf [],ord103,ctOf [],fun _=>none,fun _=>none⟩
theorem cts103 (F:Nat):CtsOk Tryz.prog (E103 F):=cts_of (l:=[]) (l':=[]) rfl rfl trivial trivial
def T103c (F:Nat) (p0:Int) (p1:Int) (p4:List UInt8) {β:Type} (k:((Nat×Nat)×Int×Int)->Option β):Option β:=
 (bif (decide ((w64 ((p4.length:Int) - p1)) < p0)) then (k ((0,0),(3:Int),p1)) else (Option.bind (gslb p4.length p1 (w64 (p1 + p0))) fun x2=>(k ((x2.1,x2.2),(0:Int),(w64 (p1 + p0))))))
def T103 (F:Nat) (p0:Int) (p1:Int) (p4:List UInt8):=T103c F p0 p1 p4 some
def ct103 (F:Nat):Ct:=mkC 2 [(.pt 0 []),.i] [.blk 152 (.pr (.rw 1) (.pr .i (.pr .i (.pr .i .un)))),.row 5 .u8] [(.rp 1),.i] [.blk 152 (.pr (.rw 1) (.pr .i (.pr .i (.pr .i .un)))),.row 5 .u8] (fun x y=>T103 F x.2.1 y.1.2.1 y.2.1) (fun x y (z:(Nat×Nat)×Int×Int)=>((z.1,z.2.1,()),(((),z.2.2,y.1.2.2.1,y.1.2.2.2.1,()),y.2.1,())))
theorem ok103 (F:Nat):Sound Tryz.prog cfg 103 (ct103 F):=
 mkC_ok (E:=E103 F) (lp:=[]) (code:=bodyOf Tryz.f103) Tryz.func103 rfl Tryz.ntmps103 rfl rfl cok (cts103 F) mixed trivial (by kernel_rfl) (fun x y k=>T103c F x.2.1 y.1.2.1 y.2.1 k) (fun _ _ _=>by simp only [T103,T103c,oA,oC,oS,oN,elimS_bind]) (fun _ _=>by kernel_rfl)
def E102 (F:Nat):Ev:=⟨cfg,13,ctOf [(103,ct103 F)],fun _=>[],ctOf [],fun _=>none,fun _=>none⟩
theorem cts102 (F:Nat):CtsOk Tryz.prog (E102 F):=cts_of (l:=[(103,ct103 F)]) (l':=[]) rfl rfl ⟨⟨ok103 F,_,Tryz.func103,rfl,rfl⟩,trivial⟩ trivial
def T102c (F:Nat) (p0:Int) (p3:List UInt8) {β:Type} (k:(Za×Int×Int)->Option β):Option β:=
 (Option.bind (T103 F (32:Int) p0 p3) fun z2=>(k (((p3.drop z2.1.1).take (z2.1.2 - z2.1.1)),z2.2.1,z2.2.2)))
def T102 (F:Nat) (p0:Int) (p3:List UInt8):=T102c F p0 p3 some
def ct102 (F:Nat):Ct:=mkC 3 [(.pt 0 [])] [.blk 109 (.pt 1 []),.blk 152 (.pr (.rw 2) (.pr .i (.pr .i (.pr .i .un)))),.row 5 .u8] [.str,.i] [.blk 109 (.pt 1 []),.blk 152 (.pr (.rw 2) (.pr .i (.pr .i (.pr .i .un)))),.row 5 .u8] (fun x y=>T102 F y.2.1.2.1 y.2.2.1) (fun x y (z:Za×Int×Int)=>((z.1,z.2.1,()),((),((),z.2.2,y.2.1.2.2.1,y.2.1.2.2.2.1,()),y.2.2.1,())))
theorem ok102 (F:Nat):Sound Tryz.prog cfg 102 (ct102 F):=
 mkC_ok (E:=E102 F) (lp:=[]) (code:=bodyOf Tryz.f102) Tryz.func102 rfl Tryz.ntmps102 rfl rfl cok (cts102 F) mixed trivial (by kernel_rfl) (fun x y k=>T102c F y.2.1.2.1 y.2.2.1 k) (fun _ _ _=>by simp only [T102,T102c,oA,oC,oS,oN,elimS_bind]) (fun _ _=>by kernel_rfl)
def E139 (F:Nat):Ev:=⟨cfg,18,ctOf [],fun _=>[],ctOf [],fun _=>none,fun _=>none⟩
theorem cts139 (F:Nat):CtsOk Tryz.prog (E139 F):=cts_of (l:=[]) (l':=[]) rfl rfl trivial trivial
def T139c (F:Nat) (p0:Int) (p1:List UInt8) (p2:Int) (p4:Int) {β:Type} (k:(Za×Int)->Option β):Option β:=
 (bif (p4 != (0:Int)) then (k (([]:List UInt8),p0)) else (k (p1,p2)))
def T139 (F:Nat) (p0:Int) (p1:List UInt8) (p2:Int) (p4:Int):=T139c F p0 p1 p2 p4 some
def ct139 (F:Nat):Ct:=mkC 4 [(.re .i),(.pt 0 []),(.pt 1 [])] [.blk 109 (.pt 2 []),.blk 9 .str,.blk 152 (.pr (.rw 3) (.pr .i (.pr .i (.pr .i .un)))),.row 5 .u8] [] [.blk 109 (.pt 2 []),.blk 9 .str,.blk 152 (.pr (.rw 3) (.pr .i (.pr .i (.pr .i .un)))),.row 5 .u8] (fun x y=>T139 F x.1 y.2.1 y.2.2.1.2.1 y.2.2.1.2.2.2.1) (fun x y (z:Za×Int)=>((),((),z.1,((),z.2,x.1,y.2.2.1.2.2.2.1,()),y.2.2.2.1,())))
theorem okd139 (F:Nat):SoundK Tryz.prog cfg true 139 (ct139 F):=
 mkC_okK (E:=E139 F) true (fun _ _=>rfl) (lp:=[]) (code:=bodyOf Tryz.f139) Tryz.func139 rfl Tryz.ntmps139 rfl rfl cok (cts139 F) mixed trivial (by kernel_rfl) (fun x y k=>T139c F x.1 y.2.1 y.2.2.1.2.1 y.2.2.1.2.2.2.1 k) (fun _ _ _=>by simp only [T139,T139c,oA,oC,oS,oN,elimS_bind]) (fun _ _=>by kernel_rfl)
def ord101:Nat->List (Tag×Nat)
 | 5=>[(.c,0),(.p,1),(.w,2),(.p,3),(.p,4),(.p,5),(.w,6),(.p,7),(.p,8),(.b,9)]
 | _=>[]
def E101 (F:Nat):Ev:=⟨cfg,26,ctOf [(102,ct102 F)],ord101,ctOf [(139,ct139 F)],fun _=>none,fun _=>none⟩
theorem cts101 (F:Nat):CtsOk Tryz.prog (E101 F):=cts_of (l:=[(102,ct102 F)]) (l':=[(139,ct139 F)]) rfl rfl ⟨⟨ok102 F,_,Tryz.func102,rfl,rfl⟩,trivial⟩ ⟨⟨okd139 F,_,Tryz.func139,rfl,rfl⟩,trivial⟩
def T101c (F:Nat) (p0:Int) (p1:Int) (p2:Int) (p3:List UInt8) {β:Type} (k:(Za×Int×Int×Int)->Option β):Option β:=
 (bif (p2 != (0:Int)) then (k (([]:List UInt8),p0,p1,p2)) else (Option.bind (T102 F p0 p3) fun z3=>(Option.bind (T139 F p0 z3.1 z3.2.2 z3.2.1) fun z4=>(k (z4.1,z4.2,p0,z3.2.1)))))
def T101 (F:Nat) (p0:Int) (p1:Int) (p2:Int) (p3:List UInt8):=T101c F p0 p1 p2 p3 some
def ct101 (F:Nat):Ct:=mkC 3 [(.pt 0 []),(.fn 102 .un (.pr (.pt 1 []) .un))] [.blk 152 (.pr (.rw 2) (.pr .i (.pr .i (.pr .i .un)))),.blk 109 (.pt 0 []),.row 5 .u8] [.str] [.blk 152 (.pr (.rw 2) (.pr .i (.pr .i (.pr .i .un)))),.blk 109 (.pt 0 []),.row 5 .u8] (fun x y=>T101 F y.1.2.1 y.1.2.2.1 y.1.2.2.2.1 y.2.2.1) (fun x y (z:Za×Int×Int×Int)=>((z.1,()),(((),z.2.1,z.2.2.1,z.2.2.2,()),(),y.2.2.1,())))
theorem ok101 (F:Nat):Sound Tryz.prog cfg 101 (ct101 F):=
 mkC_ok (E:=E101 F) (lp:=[]) (code:=bodyOf Tryz.f101) Tryz.func101 rfl Tryz.ntmps101 rfl rfl cok (cts101 F) mixed trivial (by kernel_rfl) (fun x y k=>T101c F y.1.2.1 y.1.2.2.1 y.1.2.2.2.1 y.2.2.1 k) (fun _ _ _=>by simp only [T101,T101c,oA,oC,oS,oN,elimS_bind]) (fun _ _=>by kernel_rfl)
def E63 (F:Nat):Ev:=⟨cfg,6,ctOf [(101,ct101 F)],fun _=>[],ctOf [],fun _=>none,fun _=>none⟩
theorem cts63 (F:Nat):CtsOk Tryz.prog (E63 F):=cts_of (l:=[(101,ct101 F)]) (l':=[]) rfl rfl ⟨⟨ok101 F,_,Tryz.func101,rfl,rfl⟩,trivial⟩ trivial
def T63c (F:Nat) (p0:Int) (p1:Int) (p2:Int) (p3:List UInt8) {β:Type} (k:(Za×Int×Int×Int)->Option β):Option β:=
 (Option.bind (T101 F p0 p1 p2 p3) fun z2=>(k (z2.1,z2.2.1,z2.2.2.1,z2.2.2.2)))
def T63 (F:Nat) (p0:Int) (p1:Int) (p2:Int) (p3:List UInt8):=T63c F p0 p1 p2 p3 some
def ct63 (F:Nat):Ct:=mkC 2 [(.pt 0 [])] [.blk 152 (.pr (.rw 1) (.pr .i (.pr .i (.pr .i .un)))),.row 5 .u8] [.str] [.blk 152 (.pr (.rw 1) (.pr .i (.pr .i (.pr .i .un)))),.row 5 .u8] (fun x y=>T63 F y.1.2.1 y.1.2.2.1 y.1.2.2.2.1 y.2.1) (fun x y (z:Za×Int×Int×Int)=>((z.1,()),(((),z.2.1,z.2.2.1,z.2.2.2,()),y.2.1,())))
theorem ok63 (F:Nat):Sound Tryz.prog cfg 63 (ct63 F):=
 mkC_ok (E:=E63 F) (lp:=[]) (code:=bodyOf Tryz.f63) Tryz.func63 rfl Tryz.ntmps63 rfl rfl cok (cts63 F) mixed trivial (by kernel_rfl) (fun x y k=>T63c F y.1.2.1 y.1.2.2.1 y.1.2.2.2.1 y.2.1 k) (fun _ _ _=>by simp only [T63,T63c,oA,oC,oS,oN,elimS_bind]) (fun _ _=>by kernel_rfl)
def ord105:Nat->List (Tag×Nat)
 | 4=>[(.p,0),(.p,1),(.p,2),(.r,3),(.p,4),(.p,5),(.p,6),(.r,7),(.p,8),(.p,9)]
 | 6=>[(.p,0),(.p,1),(.p,2),(.r,3),(.p,4),(.p,5),(.p,6),(.r,7),(.p,8),(.r,9),(.p,10)]
 | _=>[]
def E105 (F:Nat):Ev:=⟨cfg,62,ctOf [],ord105,ctOf [],fun _=>none,fun _=>none⟩
theorem cts105 (F:Nat):CtsOk Tryz.prog (E105 F):=cts_of (l:=[]) (l':=[]) rfl rfl trivial trivial
def L105_2c (F:Nat) (y19:List UInt8) (y14:UInt64) (y15:Int) (y16:Int) {β:Type} (kA:Zn->Option β) (kO:Int->Option β) (kR:Zn->Option β):Option β:=
 (bif (decide (y15 < (10:Int))) then (bif (y16 == (y19.length:Int)) then (kR ((UInt64.ofNat 0),(3:Int),y16)) else (Option.bind (inb y19.length y16) fun x23=>(Option.bind (y19[x23]?) fun x24=>(Option.bind (gnn (w64 ((7:Int) * y15))) fun x25=>(bif (decide ((UInt8.ofNat 128)≤x24)) then (kA ((y14 ||| (shl64 ((x24 &&& (UInt8.ofNat 127)).toUInt64) x25)),(w64 (y15 + (1:Int))),(w64 (y16 + (1:Int))))) else (bif (decide ((0:Int) < y15)) then (bif (x24 == (UInt8.ofNat 0)) then (kR ((UInt64.ofNat 0),(3:Int),(w64 (y16 + (1:Int))))) else (bif (y15 == (9:Int)) then (bif (decide ((UInt8.ofNat 1) < x24)) then (kR ((UInt64.ofNat 0),(3:Int),(w64 (y16 + (1:Int))))) else (kR ((y14 ||| (shl64 ((x24 &&& (UInt8.ofNat 127)).toUInt64) x25)),(0:Int),(w64 (y16 + (1:Int)))))) else (kR ((y14 ||| (shl64 ((x24 &&& (UInt8.ofNat 127)).toUInt64) x25)),(0:Int),(w64 (y16 + (1:Int))))))) else (bif (y15 == (9:Int)) then (bif (decide ((UInt8.ofNat 1) < x24)) then (kR ((UInt64.ofNat 0),(3:Int),(w64 (y16 + (1:Int))))) else (kR ((y14 ||| (shl64 ((x24 &&& (UInt8.ofNat 127)).toUInt64) x25)),(0:Int),(w64 (y16 + (1:Int)))))) else (kR ((y14 ||| (shl64 ((x24 &&& (UInt8.ofNat 127)).toUInt64) x25)),(0:Int),(w64 (y16 + (1:Int)))))))))))) else (kO y16))
def L105_2 (F:Nat) (y19:List UInt8) (y14:UInt64) (y15:Int) (y16:Int):Option (Zn ⊕ ((Int) ⊕ Zn)):=L105_2c F y19 y14 y15 y16 (fun s=>some (.inl s)) (fun z=>some (.inr (.inl z))) (fun z=>some (.inr (.inr z)))
theorem L105_2n (F:Nat) (y19:List UInt8) (y14:UInt64) (y15:Int) (y16:Int) {β:Type} (kA:Zn->Option β) (kO:Int->Option β) (kR:Zn->Option β):L105_2c F y19 y14 y15 y16 kA kO kR=(L105_2 F y19 y14 y15 y16).bind (elimS kA (elimS kO kR)):=by
 simp only [L105_2,L105_2c,oA,oC,oS,oN,elimS_l,elimS_r,elimS_bind]
def lc105_2 (F:Nat):Lc:=mkR [0,2,6] [(.pt 0 []),.u64,.i] [.blk 152 (.pr (.rw 1) (.pr .i (.pr .i (.pr .i .un)))),.row 5 .u8] [] [] [.blk 152 (.pr (.rw 1) (.pr .i (.pr .i (.pr .i .un)))),.row 5 .u8] [2,3] [.u64,.i] [.blk 152 (.pr (.rw 1) (.pr .i (.pr .i (.pr .i .un)))),.row 5 .u8] F (fun x y (s:UInt64×Int×Int)=>L105_2 F y.2.1 s.1 s.2.1 s.2.2) (fun x y=>(x.2.1,x.2.2.1,y.1.2.1)) (fun x y (z:Int)=>((),(((),z,y.1.2.2.1,y.1.2.2.2.1,()),y.2.1,()))) (fun x y (z:UInt64×Int×Int)=>((z.1,z.2.1,()),(((),z.2.2,y.1.2.2.1,y.1.2.2.2.1,()),y.2.1,())))
theorem lo105_2 (F:Nat):LcOk Tryz.prog (E105 F) 2 (lc105_2 F) (cAt (bodyOf Tryz.f105) [1,0,1]):=
 mkR_ok (lp:=[]) (id:=0) (b:=cAt (bodyOf Tryz.f105) (0 :: 0 :: [1,0,1])) cok (cts105 F) mixed trivial (by kernel_rfl) (by kernel_rfl) (fun x y s=>((),s.1,s.2.1,())) (fun x y s=>(((),s.2.2,y.1.2.2.1,y.1.2.2.2.1,()),y.2.1,())) (fun x y=>rfl) (fun x y=>rfl) (fun x y s kA kO kR=>L105_2c F y.2.1 s.1 s.2.1 s.2.2 kA kO kR) (fun x y s kA kO kR=>L105_2n F y.2.1 s.1 s.2.1 s.2.2 kA kO kR) (fun _ _ _=>by kernel_rfl)
def T105c (F:Nat) (p0:Int) (p3:List UInt8) {β:Type} (k:Zn->Option β):Option β:=
 (Option.bind (iter (fun s=>L105_2 F p3 s.1 s.2.1 s.2.2) F ((UInt64.ofNat 0),(0:Int),p0)) fun z26=>elimS (fun z26=>(k ((UInt64.ofNat 0),(3:Int),z26))) (fun z26=>(k (z26.1,z26.2.1,z26.2.2))) z26)
def T105 (F:Nat) (p0:Int) (p3:List UInt8):=T105c F p0 p3 some
def ct105 (F:Nat):Ct:=mkC 2 [(.pt 0 [])] [.blk 152 (.pr (.rw 1) (.pr .i (.pr .i (.pr .i .un)))),.row 5 .u8] [.u64,.i] [.blk 152 (.pr (.rw 1) (.pr .i (.pr .i (.pr .i .un)))),.row 5 .u8] (fun x y=>T105 F y.1.2.1 y.2.1) (fun x y (z:UInt64×Int×Int)=>((z.1,z.2.1,()),(((),z.2.2,y.1.2.2.1,y.1.2.2.2.1,()),y.2.1,())))
theorem ok105 (F:Nat):Sound Tryz.prog cfg 105 (ct105 F):=
 mkC_ok (E:=E105 F) (lp:=[([1,0,1],lc105_2 F)]) (code:=bodyOf Tryz.f105) Tryz.func105 rfl Tryz.ntmps105 rfl rfl cok (cts105 F) mixed ⟨lo105_2 F,trivial⟩ (by kernel_rfl) (fun x y k=>T105c F y.1.2.1 y.2.1 k) (fun _ _ _=>by simp only [T105,T105c,oA,oC,oS,oN,elimS_bind]) (fun _ _=>by kernel_rfl)
def E140 (F:Nat):Ev:=⟨cfg,18,ctOf [],fun _=>[],ctOf [],fun _=>none,fun _=>none⟩
theorem cts140 (F:Nat):CtsOk Tryz.prog (E140 F):=cts_of (l:=[]) (l':=[]) rfl rfl trivial trivial
def T140c (F:Nat) (p0:Int) (p1:UInt64) (p2:Int) (p4:Int) {β:Type} (k:(UInt64×Int)->Option β):Option β:=
 (bif (p4 != (0:Int)) then (k ((UInt64.ofNat 0),p0)) else (k (p1,p2)))
def T140 (F:Nat) (p0:Int) (p1:UInt64) (p2:Int) (p4:Int):=T140c F p0 p1 p2 p4 some
def ct140 (F:Nat):Ct:=mkC 4 [(.re .i),(.pt 0 []),(.pt 1 [])] [.blk 109 (.pt 2 []),.blk 106 .u64,.blk 152 (.pr (.rw 3) (.pr .i (.pr .i (.pr .i .un)))),.row 5 .u8] [] [.blk 109 (.pt 2 []),.blk 106 .u64,.blk 152 (.pr (.rw 3) (.pr .i (.pr .i (.pr .i .un)))),.row 5 .u8] (fun x y=>T140 F x.1 y.2.1 y.2.2.1.2.1 y.2.2.1.2.2.2.1) (fun x y (z:UInt64×Int)=>((),((),z.1,((),z.2,x.1,y.2.2.1.2.2.2.1,()),y.2.2.2.1,())))
theorem okd140 (F:Nat):SoundK Tryz.prog cfg true 140 (ct140 F):=
 mkC_okK (E:=E140 F) true (fun _ _=>rfl) (lp:=[]) (code:=bodyOf Tryz.f140) Tryz.func140 rfl Tryz.ntmps140 rfl rfl cok (cts140 F) mixed trivial (by kernel_rfl) (fun x y k=>T140c F x.1 y.2.1 y.2.2.1.2.1 y.2.2.1.2.2.2.1 k) (fun _ _ _=>by simp only [T140,T140c,oA,oC,oS,oN,elimS_bind]) (fun _ _=>by kernel_rfl)
def ord104:Nat->List (Tag×Nat)
 | 5=>[(.c,0),(.p,1),(.w,2),(.p,3),(.p,4),(.p,5),(.w,6),(.p,7),(.p,8),(.b,9)]
 | _=>[]
def E104 (F:Nat):Ev:=⟨cfg,26,ctOf [(105,ct105 F)],ord104,ctOf [(140,ct140 F)],fun _=>none,fun _=>none⟩
theorem cts104 (F:Nat):CtsOk Tryz.prog (E104 F):=cts_of (l:=[(105,ct105 F)]) (l':=[(140,ct140 F)]) rfl rfl ⟨⟨ok105 F,_,Tryz.func105,rfl,rfl⟩,trivial⟩ ⟨⟨okd140 F,_,Tryz.func140,rfl,rfl⟩,trivial⟩
def T104c (F:Nat) (p0:Int) (p1:Int) (p2:Int) (p3:List UInt8) {β:Type} (k:(UInt64×Int×Int×Int)->Option β):Option β:=
 (bif (p2 != (0:Int)) then (k ((0:UInt64),p0,p1,p2)) else (Option.bind (T105 F p0 p3) fun z3=>(Option.bind (T140 F p0 z3.1 z3.2.2 z3.2.1) fun z4=>(k (z4.1,z4.2,p0,z3.2.1)))))
def T104 (F:Nat) (p0:Int) (p1:Int) (p2:Int) (p3:List UInt8):=T104c F p0 p1 p2 p3 some
def ct104 (F:Nat):Ct:=mkC 2 [(.pt 0 []),(.fn 105 (.pr (.pt 0 []) .un) .un)] [.blk 152 (.pr (.rw 1) (.pr .i (.pr .i (.pr .i .un)))),.row 5 .u8] [.u64] [.blk 152 (.pr (.rw 1) (.pr .i (.pr .i (.pr .i .un)))),.row 5 .u8] (fun x y=>T104 F y.1.2.1 y.1.2.2.1 y.1.2.2.2.1 y.2.1) (fun x y (z:UInt64×Int×Int×Int)=>((z.1,()),(((),z.2.1,z.2.2.1,z.2.2.2,()),y.2.1,())))
theorem ok104 (F:Nat):Sound Tryz.prog cfg 104 (ct104 F):=
 mkC_ok (E:=E104 F) (lp:=[]) (code:=bodyOf Tryz.f104) Tryz.func104 rfl Tryz.ntmps104 rfl rfl cok (cts104 F) mixed trivial (by kernel_rfl) (fun x y k=>T104c F y.1.2.1 y.1.2.2.1 y.1.2.2.2.1 y.2.1 k) (fun _ _ _=>by simp only [T104,T104c,oA,oC,oS,oN,elimS_bind]) (fun _ _=>by kernel_rfl)
def E64 (F:Nat):Ev:=⟨cfg,7,ctOf [(104,ct104 F)],fun _=>[],ctOf [],fun _=>none,fun _=>none⟩
theorem cts64 (F:Nat):CtsOk Tryz.prog (E64 F):=cts_of (l:=[(104,ct104 F)]) (l':=[]) rfl rfl ⟨⟨ok104 F,_,Tryz.func104,rfl,rfl⟩,trivial⟩ trivial
def T64c (F:Nat) (p0:Int) (p1:Int) (p2:Int) (p3:List UInt8) {β:Type} (k:(UInt64×Int×Int×Int)->Option β):Option β:=
 (Option.bind (T104 F p0 p1 p2 p3) fun z2=>(k (z2.1,z2.2.1,z2.2.2.1,z2.2.2.2)))
def T64 (F:Nat) (p0:Int) (p1:Int) (p2:Int) (p3:List UInt8):=T64c F p0 p1 p2 p3 some
def ct64 (F:Nat):Ct:=mkC 2 [(.pt 0 [])] [.blk 152 (.pr (.rw 1) (.pr .i (.pr .i (.pr .i .un)))),.row 5 .u8] [.u64] [.blk 152 (.pr (.rw 1) (.pr .i (.pr .i (.pr .i .un)))),.row 5 .u8] (fun x y=>T64 F y.1.2.1 y.1.2.2.1 y.1.2.2.2.1 y.2.1) (fun x y (z:UInt64×Int×Int×Int)=>((z.1,()),(((),z.2.1,z.2.2.1,z.2.2.2,()),y.2.1,())))
theorem ok64 (F:Nat):Sound Tryz.prog cfg 64 (ct64 F):=
 mkC_ok (E:=E64 F) (lp:=[]) (code:=bodyOf Tryz.f64) Tryz.func64 rfl Tryz.ntmps64 rfl rfl cok (cts64 F) mixed trivial (by kernel_rfl) (fun x y k=>T64c F y.1.2.1 y.1.2.2.1 y.1.2.2.2.1 y.2.1 k) (fun _ _ _=>by simp only [T64,T64c,oA,oC,oS,oN,elimS_bind]) (fun _ _=>by kernel_rfl)
def E108 (F:Nat):Ev:=⟨cfg,23,ctOf [(105,ct105 F)],fun _=>[],ctOf [],fun _=>none,fun _=>none⟩
theorem cts108 (F:Nat):CtsOk Tryz.prog (E108 F):=cts_of (l:=[(105,ct105 F)]) (l':=[]) rfl rfl ⟨⟨ok105 F,_,Tryz.func105,rfl,rfl⟩,trivial⟩ trivial
def T108c (F:Nat) (p0:Int) (p1:Int) (p4:List UInt8) {β:Type} (k:(Int×Int×Int)->Option β):Option β:=
 (Option.bind (T105 F p1 p4) fun z2=>(bif (z2.2.1 != (0:Int)) then (k ((0:Int),z2.2.1,z2.2.2)) else (bif (decide ((UInt64.ofInt (if p0 < (0:Int) then (0:Int) else p0)) < z2.1)) then (k ((0:Int),(2:Int),z2.2.2)) else (k ((w64 (z2.1.toNat:Int)),(0:Int),z2.2.2)))))
def T108 (F:Nat) (p0:Int) (p1:Int) (p4:List UInt8):=T108c F p0 p1 p4 some
def ct108 (F:Nat):Ct:=mkC 2 [(.pt 0 []),.i] [.blk 152 (.pr (.rw 1) (.pr .i (.pr .i (.pr .i .un)))),.row 5 .u8] [.i,.i] [.blk 152 (.pr (.rw 1) (.pr .i (.pr .i (.pr .i .un)))),.row 5 .u8] (fun x y=>T108 F x.2.1 y.1.2.1 y.2.1) (fun x y (z:Int×Int×Int)=>((z.1,z.2.1,()),(((),z.2.2,y.1.2.2.1,y.1.2.2.2.1,()),y.2.1,())))
theorem ok108 (F:Nat):Sound Tryz.prog cfg 108 (ct108 F):=
 mkC_ok (E:=E108 F) (lp:=[]) (code:=bodyOf Tryz.f108) Tryz.func108 rfl Tryz.ntmps108 rfl rfl cok (cts108 F) mixed trivial (by kernel_rfl) (fun x y k=>T108c F x.2.1 y.1.2.1 y.2.1 k) (fun _ _ _=>by simp only [T108,T108c,oA,oC,oS,oN,elimS_bind]) (fun _ _=>by kernel_rfl)
def E107 (F:Nat):Ev:=⟨cfg,9,ctOf [(108,ct108 F)],fun _=>[],ctOf [],fun _=>none,fun _=>none⟩
theorem cts107 (F:Nat):CtsOk Tryz.prog (E107 F):=cts_of (l:=[(108,ct108 F)]) (l':=[]) rfl rfl ⟨⟨ok108 F,_,Tryz.func108,rfl,rfl⟩,trivial⟩ trivial
def T107c (F:Nat) (p0:Int) (p1:Int) (p4:List UInt8) {β:Type} (k:(Int×Int×Int)->Option β):Option β:=
 (Option.bind (T108 F p0 p1 p4) fun z2=>(k (z2.1,z2.2.1,z2.2.2)))
def T107 (F:Nat) (p0:Int) (p1:Int) (p4:List UInt8):=T107c F p0 p1 p4 some
def ct107 (F:Nat):Ct:=mkC 3 [(.pt 0 []),(.re .i)] [.blk 109 (.pt 1 []),.blk 152 (.pr (.rw 2) (.pr .i (.pr .i (.pr .i .un)))),.row 5 .u8] [.i,.i] [.blk 109 (.pt 1 []),.blk 152 (.pr (.rw 2) (.pr .i (.pr .i (.pr .i .un)))),.row 5 .u8] (fun x y=>T107 F x.2.1 y.2.1.2.1 y.2.2.1) (fun x y (z:Int×Int×Int)=>((z.1,z.2.1,()),((),((),z.2.2,y.2.1.2.2.1,y.2.1.2.2.2.1,()),y.2.2.1,())))
theorem ok107 (F:Nat):Sound Tryz.prog cfg 107 (ct107 F):=
 mkC_ok (E:=E107 F) (lp:=[]) (code:=bodyOf Tryz.f107) Tryz.func107 rfl Tryz.ntmps107 rfl rfl cok (cts107 F) mixed trivial (by kernel_rfl) (fun x y k=>T107c F x.2.1 y.2.1.2.1 y.2.2.1 k) (fun _ _ _=>by simp only [T107,T107c,oA,oC,oS,oN,elimS_bind]) (fun _ _=>by kernel_rfl)
def E141 (F:Nat):Ev:=⟨cfg,18,ctOf [],fun _=>[],ctOf [],fun _=>none,fun _=>none⟩
theorem cts141 (F:Nat):CtsOk Tryz.prog (E141 F):=cts_of (l:=[]) (l':=[]) rfl rfl trivial trivial
def T141c (F:Nat) (p0:Int) (p1:Int) (p2:Int) (p4:Int) {β:Type} (k:Zh->Option β):Option β:=
 (bif (p4 != (0:Int)) then (k ((0:Int),p0)) else (k (p1,p2)))
def T141 (F:Nat) (p0:Int) (p1:Int) (p2:Int) (p4:Int):=T141c F p0 p1 p2 p4 some
def ct141 (F:Nat):Ct:=mkC 4 [(.re .i),(.pt 0 []),(.pt 1 [])] [.blk 109 (.pt 2 []),.blk 3 .i,.blk 152 (.pr (.rw 3) (.pr .i (.pr .i (.pr .i .un)))),.row 5 .u8] [] [.blk 109 (.pt 2 []),.blk 3 .i,.blk 152 (.pr (.rw 3) (.pr .i (.pr .i (.pr .i .un)))),.row 5 .u8] (fun x y=>T141 F x.1 y.2.1 y.2.2.1.2.1 y.2.2.1.2.2.2.1) (fun x y (z:Int×Int)=>((),((),z.1,((),z.2,x.1,y.2.2.1.2.2.2.1,()),y.2.2.2.1,())))
theorem okd141 (F:Nat):SoundK Tryz.prog cfg true 141 (ct141 F):=
 mkC_okK (E:=E141 F) true (fun _ _=>rfl) (lp:=[]) (code:=bodyOf Tryz.f141) Tryz.func141 rfl Tryz.ntmps141 rfl rfl cok (cts141 F) mixed trivial (by kernel_rfl) (fun x y k=>T141c F x.1 y.2.1 y.2.2.1.2.1 y.2.2.1.2.2.2.1 k) (fun _ _ _=>by simp only [T141,T141c,oA,oC,oS,oN,elimS_bind]) (fun _ _=>by kernel_rfl)
def ord106:Nat->List (Tag×Nat)
 | 5=>[(.c,0),(.p,1),(.w,2),(.p,3),(.p,4),(.p,5),(.w,6),(.p,7),(.p,8),(.b,9)]
 | _=>[]
def E106 (F:Nat):Ev:=⟨cfg,26,ctOf [(107,ct107 F)],ord106,ctOf [(141,ct141 F)],fun _=>none,fun _=>none⟩
theorem cts106 (F:Nat):CtsOk Tryz.prog (E106 F):=cts_of (l:=[(107,ct107 F)]) (l':=[(141,ct141 F)]) rfl rfl ⟨⟨ok107 F,_,Tryz.func107,rfl,rfl⟩,trivial⟩ ⟨⟨okd141 F,_,Tryz.func141,rfl,rfl⟩,trivial⟩
def T106c (F:Nat) (p0:Int) (p1:Int) (p2:Int) (p3:Int) (p4:List UInt8) {β:Type} (k:(Int×Int×Int×Int)->Option β):Option β:=
 (bif (p2 != (0:Int)) then (k ((0:Int),p0,p1,p2)) else (Option.bind (T107 F p3 p0 p4) fun z3=>(Option.bind (T141 F p0 z3.1 z3.2.2 z3.2.1) fun z4=>(k (z4.1,z4.2,p0,z3.2.1)))))
def T106 (F:Nat) (p0:Int) (p1:Int) (p2:Int) (p3:Int) (p4:List UInt8):=T106c F p0 p1 p2 p3 p4 some
def ct106 (F:Nat):Ct:=mkC 4 [(.pt 0 []),(.fn 107 .un (.pr (.pt 1 []) (.pr (.pt 2 []) .un)))] [.blk 152 (.pr (.rw 3) (.pr .i (.pr .i (.pr .i .un)))),.blk 109 (.pt 0 []),.blk 3 .i,.row 5 .u8] [.i] [.blk 152 (.pr (.rw 3) (.pr .i (.pr .i (.pr .i .un)))),.blk 109 (.pt 0 []),.blk 3 .i,.row 5 .u8] (fun x y=>T106 F y.1.2.1 y.1.2.2.1 y.1.2.2.2.1 y.2.2.1 y.2.2.2.1) (fun x y (z:Int×Int×Int×Int)=>((z.1,()),(((),z.2.1,z.2.2.1,z.2.2.2,()),(),y.2.2.1,y.2.2.2.1,())))
theorem ok106 (F:Nat):Sound Tryz.prog cfg 106 (ct106 F):=
 mkC_ok (E:=E106 F) (lp:=[]) (code:=bodyOf Tryz.f106) Tryz.func106 rfl Tryz.ntmps106 rfl rfl cok (cts106 F) mixed trivial (by kernel_rfl) (fun x y k=>T106c F y.1.2.1 y.1.2.2.1 y.1.2.2.2.1 y.2.2.1 y.2.2.2.1 k) (fun _ _ _=>by simp only [T106,T106c,oA,oC,oS,oN,elimS_bind]) (fun _ _=>by kernel_rfl)
def E65 (F:Nat):Ev:=⟨cfg,8,ctOf [(106,ct106 F)],fun _=>[],ctOf [],fun _=>none,fun _=>none⟩
theorem cts65 (F:Nat):CtsOk Tryz.prog (E65 F):=cts_of (l:=[(106,ct106 F)]) (l':=[]) rfl rfl ⟨⟨ok106 F,_,Tryz.func106,rfl,rfl⟩,trivial⟩ trivial
def T65c (F:Nat) (p0:Int) (p1:Int) (p2:Int) (p3:Int) (p4:List UInt8) {β:Type} (k:(Int×Int×Int×Int)->Option β):Option β:=
 (Option.bind (T106 F p1 p2 p3 p0 p4) fun z2=>(k (z2.1,z2.2.1,z2.2.2.1,z2.2.2.2)))
def T65 (F:Nat) (p0:Int) (p1:Int) (p2:Int) (p3:Int) (p4:List UInt8):=T65c F p0 p1 p2 p3 p4 some
def ct65 (F:Nat):Ct:=mkC 2 [(.pt 0 []),.i] [.blk 152 (.pr (.rw 1) (.pr .i (.pr .i (.pr .i .un)))),.row 5 .u8] [.i] [.blk 152 (.pr (.rw 1) (.pr .i (.pr .i (.pr .i .un)))),.row 5 .u8] (fun x y=>T65 F x.2.1 y.1.2.1 y.1.2.2.1 y.1.2.2.2.1 y.2.1) (fun x y (z:Int×Int×Int×Int)=>((z.1,()),(((),z.2.1,z.2.2.1,z.2.2.2,()),y.2.1,())))
theorem ok65 (F:Nat):Sound Tryz.prog cfg 65 (ct65 F):=
 mkC_ok (E:=E65 F) (lp:=[]) (code:=bodyOf Tryz.f65) Tryz.func65 rfl Tryz.ntmps65 rfl rfl cok (cts65 F) mixed trivial (by kernel_rfl) (fun x y k=>T65c F x.2.1 y.1.2.1 y.1.2.2.1 y.1.2.2.2.1 y.2.1 k) (fun _ _ _=>by simp only [T65,T65c,oA,oC,oS,oN,elimS_bind]) (fun _ _=>by kernel_rfl)
def ord66:Nat->List (Tag×Nat)
 | 2=>[(.p,0),(.p,1),(.p,2),(.r,3),(.p,4),(.p,5),(.p,6),(.r,7),(.p,8),(.p,9)]
 | 3=>[(.p,0),(.p,1),(.p,2),(.r,3),(.p,4),(.p,5),(.p,6),(.r,7),(.p,8),(.p,9)]
 | _=>[]
def E66 (F:Nat):Ev:=⟨cfg,35,ctOf [],ord66,ctOf [],fun _=>none,fun _=>none⟩
theorem cts66 (F:Nat):CtsOk Tryz.prog (E66 F):=cts_of (l:=[]) (l':=[]) rfl rfl trivial trivial
def T66c (F:Nat) (p0:Int) (p2:Int) (p3:List UInt8) {β:Type} (k:Int->Option β):Option β:=
 (bif (p2 != (0:Int)) then (k p2) else (bif (decide (p0 < (p3.length:Int))) then (k (3:Int)) else (k (0:Int))))
def T66 (F:Nat) (p0:Int) (p2:Int) (p3:List UInt8):=T66c F p0 p2 p3 some
def ct66 (F:Nat):Ct:=mkC 2 [(.pt 0 [])] [.blk 152 (.pr (.rw 1) (.pr .i (.pr .i (.pr .i .un)))),.row 5 .u8] [.i,.i] [.blk 152 (.pr (.rw 1) (.pr .i (.pr .i (.pr .i .un)))),.row 5 .u8] (fun x y=>T66 F y.1.2.1 y.1.2.2.2.1 y.2.1) (fun x y (z:Int)=>((y.1.2.1,z,()),(((),y.1.2.1,y.1.2.2.1,y.1.2.2.2.1,()),y.2.1,())))
theorem ok66 (F:Nat):Sound Tryz.prog cfg 66 (ct66 F):=
 mkC_ok (E:=E66 F) (lp:=[]) (code:=bodyOf Tryz.f66) Tryz.func66 rfl Tryz.ntmps66 rfl rfl cok (cts66 F) mixed trivial (by kernel_rfl) (fun x y k=>T66c F y.1.2.1 y.1.2.2.2.1 y.2.1 k) (fun _ _ _=>by simp only [T66,T66c,oA,oC,oS,oN,elimS_bind]) (fun _ _=>by kernel_rfl)
def E27 (F:Nat):Ev:=⟨cfg,68,ctOf [(62,ct62 F),(63,ct63 F),(64,ct64 F),(65,ct65 F),(66,ct66 F),(16,ct16 F)],fun _=>[],ctOf [],fun _=>none,fun _=>none⟩
theorem cts27 (F:Nat):CtsOk Tryz.prog (E27 F):=cts_of (l:=[(62,ct62 F),(63,ct63 F),(64,ct64 F),(65,ct65 F),(66,ct66 F),(16,ct16 F)]) (l':=[]) rfl rfl ⟨⟨ok62 F,_,Tryz.func62,rfl,rfl⟩,⟨⟨ok63 F,_,Tryz.func63,rfl,rfl⟩,⟨⟨ok64 F,_,Tryz.func64,rfl,rfl⟩,⟨⟨ok65 F,_,Tryz.func65,rfl,rfl⟩,⟨⟨ok66 F,_,Tryz.func66,rfl,rfl⟩,⟨⟨ok16 F,_,Tryz.func16,rfl,rfl⟩,trivial⟩⟩⟩⟩⟩⟩ trivial
def L27_2c (F:Nat) (y83:Int) (y98:List UInt8) (y84:Int) (y90:Int) (y91:Int) (y92:Int) (y99:List Zb) {β:Type} (kA:(Int×Int×Int×Int×Zj)->Option β) (kO:(Int×Int×Int×Zj)->Option β):Option β:=
 (bif (decide (y84 < y83)) then (Option.bind (T63 F y90 y91 y92 y98) fun z104=>(Option.bind (T64 F z104.2.1 z104.2.2.1 z104.2.2.2 y98) fun z105=>(Option.bind (T64 F z105.2.1 z105.2.2.1 z105.2.2.2 y98) fun z106=>(Option.bind (gapp y99 ([(z104.1,(w64 (z105.1.toNat:Int)),(w64 (z106.1.toNat:Int)),())]:List Zb)) fun x107=>(kA ((w64 (y84 + (1:Int))),z106.2.1,z106.2.2.1,z106.2.2.2,x107)))))) else (kO (y90,y91,y92,y99)))
def L27_2 (F:Nat) (y83:Int) (y98:List UInt8) (y84:Int) (y90:Int) (y91:Int) (y92:Int) (y99:List Zb):=L27_2c F y83 y98 y84 y90 y91 y92 y99 (fun s=>some (Sum.inl s)) (fun z=>some (Sum.inr z))
def lc27_2 (F:Nat):Lc:=mkL [2,4,5,33,34] [(.pt 0 []),(.pt 1 []),(.pt 2 []),.i,.i] [.blk 27 (.pr .str (.pr .i (.pr .i (.pr .i (.pr .i (.pr .ns .un)))))),.blk 152 (.pr (.rw 3) (.pr .i (.pr .i (.pr .i .un)))),.blk 27 (.pr .str (.pr .i (.pr .i (.pr .i (.pr .i (.pr (.rw 4) .un)))))),.row 5 .u8,.row 45 (.pr .s (.pr .i (.pr .i .un)))] [2,4,5] [(.pt 0 []),(.pt 1 []),(.pt 2 [])] [.blk 27 (.pr .str (.pr .i (.pr .i (.pr .i (.pr .i (.pr .ns .un)))))),.blk 152 (.pr (.rw 3) (.pr .i (.pr .i (.pr .i .un)))),.blk 27 (.pr .str (.pr .i (.pr .i (.pr .i (.pr .i (.pr (.rw 4) .un)))))),.row 5 .u8,.row 45 (.pr .s (.pr .i (.pr .i .un)))] F (fun x y (s:Int×Int×Int×Int×Zj)=>L27_2 F x.2.2.2.1 y.2.2.2.1 s.1 s.2.1 s.2.2.1 s.2.2.2.1 s.2.2.2.2) (fun x y=>(x.2.2.2.2.1,y.2.1.2.1,y.2.1.2.2.1,y.2.1.2.2.2.1,y.2.2.2.2.1)) (fun x y (z:Int×Int×Int×Zj)=>(((),(),(),()),((y.1.1,y.1.2.1,y.1.2.2.1,y.1.2.2.2.1,y.1.2.2.2.2.1,(),()),((),z.1,z.2.1,z.2.2.1,()),(y.2.2.1.1,y.2.2.1.2.1,y.2.2.1.2.2.1,y.2.2.1.2.2.2.1,y.2.2.1.2.2.2.2.1,(),()),y.2.2.2.1,z.2.2.2,())))
theorem lo27_2 (F:Nat):LcOk Tryz.prog (E27 F) 0 (lc27_2 F) (cAt (bodyOf Tryz.f27) [1,0,1,1,1,1]):=
 mkL_ok (lp:=[]) (id:=2) (b:=cAt (bodyOf Tryz.f27) (0 :: 0 :: [1,0,1,1,1,1])) cok (cts27 F) mixed trivial (by kernel_rfl) (by kernel_rfl) (fun x y s=>((),(),(),x.2.2.2.1,s.1,())) (fun x y s=>((y.1.1,y.1.2.1,y.1.2.2.1,y.1.2.2.2.1,y.1.2.2.2.2.1,(),()),((),s.2.1,s.2.2.1,s.2.2.2.1,()),(y.2.2.1.1,y.2.2.1.2.1,y.2.2.1.2.2.1,y.2.2.1.2.2.2.1,y.2.2.1.2.2.2.2.1,(),()),y.2.2.2.1,s.2.2.2.2,())) (fun x y=>rfl) (fun x y=>rfl) (fun x y s kA kO=>L27_2c F x.2.2.2.1 y.2.2.2.1 s.1 s.2.1 s.2.2.1 s.2.2.2.1 s.2.2.2.2 kA kO) (fun _ _ _ _ _=>by simp only [L27_2,L27_2c,oA,oC,oS,oN,elimS_l,elimS_r,elimS_bind]) (fun _ _ _=>by kernel_rfl)
def T27c (F:Nat) (p0:List UInt8) {β:Type} (k:(Za×Int×Int×Int×Int×Int×Zj)->Option β):Option β:=
 (Option.bind (T62 F p0) fun z56=>(Option.bind (T63 F z56.1 z56.2.1 z56.2.2.1 z56.2.2.2) fun z57=>(Option.bind (T64 F z57.2.1 z57.2.2.1 z57.2.2.2 z56.2.2.2) fun z58=>(Option.bind (T64 F z58.2.1 z58.2.2.1 z58.2.2.2 z56.2.2.2) fun z59=>(Option.bind (T64 F z59.2.1 z59.2.2.1 z59.2.2.2 z56.2.2.2) fun z60=>(Option.bind (T64 F z60.2.1 z60.2.2.1 z60.2.2.2 z56.2.2.2) fun z61=>(Option.bind (T65 F (8:Int) z61.2.1 z61.2.2.1 z61.2.2.2 z56.2.2.2) fun z62=>(Option.bind (iter (fun s=>L27_2 F z62.1 z56.2.2.2 s.1 s.2.1 s.2.2.1 s.2.2.2.1 s.2.2.2.2) F ((0:Int),z62.2.1,z62.2.2.1,z62.2.2.2,([]:List Zb))) fun z108=>(Option.bind (T66 F z108.1 z108.2.2.1 z56.2.2.2) fun z109=>(bif (z109 != (0:Int)) then (k (([]:List UInt8),(0:Int),(0:Int),(0:Int),(0:Int),(3:Int),([]:List Zb))) else (Option.bind (T16 F z57.1 (w64 (z58.1.toNat:Int)) (w64 (z59.1.toNat:Int)) (w64 (z60.1.toNat:Int)) (w64 (z61.1.toNat:Int)) z108.2.2.2) fun z110=>(bif (z110 != (0:Int)) then (k (([]:List UInt8),(0:Int),(0:Int),(0:Int),(0:Int),(3:Int),([]:List Zb))) else (k (z57.1,(w64 (z58.1.toNat:Int)),(w64 (z59.1.toNat:Int)),(w64 (z60.1.toNat:Int)),(w64 (z61.1.toNat:Int)),(0:Int),z108.2.2.2))))))))))))))
def T27 (F:Nat) (p0:List UInt8):=T27c F p0 some
def ct27 (F:Nat):Ct:=mkC 0 [(.ro .u8)] [] [(.pr .str (.pr .i (.pr .i (.pr .i (.pr .i (.pr (.rw 0) .un)))))),.i] [.row 45 (.pr .s (.pr .i (.pr .i .un)))] (fun x y=>T27 F x.1) (fun x y (z:Za×Int×Int×Int×Int×Int×Zj)=>(((z.1,z.2.1,z.2.2.1,z.2.2.2.1,z.2.2.2.2.1,(),()),z.2.2.2.2.2.1,()),(z.2.2.2.2.2.2,())))
theorem ok27 (F:Nat):Sound Tryz.prog cfg 27 (ct27 F):=
 mkC_ok (E:=E27 F) (lp:=[([1,0,1,1,1,1],lc27_2 F)]) (code:=bodyOf Tryz.f27) Tryz.func27 rfl Tryz.ntmps27 rfl rfl cok (cts27 F) mixed ⟨lo27_2 F,trivial⟩ (by kernel_rfl) (fun x y k=>T27c F x.1 k) (fun _ _ _=>by simp only [T27,T27c,oA,oC,oS,oN,elimS_bind]) (fun _ _=>by kernel_rfl)
def E28 (F:Nat):Ev:=⟨cfg,59,ctOf [(67,ct67 F)],fun _=>[],ctOf [],fun _=>none,fun _=>none⟩
theorem cts28 (F:Nat):CtsOk Tryz.prog (E28 F):=cts_of (l:=[(67,ct67 F)]) (l':=[]) rfl rfl ⟨⟨ok67 F,_,Tryz.func67,rfl,rfl⟩,trivial⟩ trivial
def L28_3c (F:Nat) (y39:Int) (y48:List Int) (y40:Int) (y47:List UInt8) {β:Type} (kA:Zm->Option β) (kO:(Za)->Option β):Option β:=
 (bif (decide (y40 < y39)) then (Option.bind (inb y48.length y40) fun x53=>(Option.bind (y48[x53]?) fun x54=>(Option.bind (T67 F (UInt64.ofInt x54)) fun z55=>(Option.bind (gapp y47 z55) fun x56=>(kA ((w64 (y40 + (1:Int))),x56)))))) else (kO y47))
def L28_3 (F:Nat) (y39:Int) (y48:List Int) (y40:Int) (y47:List UInt8):=L28_3c F y39 y48 y40 y47 (fun s=>some (Sum.inl s)) (fun z=>some (Sum.inr z))
def lc28_3 (F:Nat):Lc:=mkL [1,3,22,23,24] [(.pt 0 []),(.rw 1),(.rw 2),.i,.i] [.blk 27 (.pr .str (.pr .i (.pr .i (.pr .i (.pr .i (.pr (.ro (.pr .s (.pr .i (.pr .i .un)))) .un)))))),.row 5 .u8,.row 3 .i] [1,3] [(.pt 0 []),(.rw 1)] [.blk 27 (.pr .str (.pr .i (.pr .i (.pr .i (.pr .i (.pr (.ro (.pr .s (.pr .i (.pr .i .un)))) .un)))))),.row 5 .u8] F (fun x y (s:Int×Za)=>L28_3 F x.2.2.2.1 y.2.2.1 s.1 s.2) (fun x y=>(x.2.2.2.2.1,y.2.1)) (fun x y (z:Za)=>(((),(),()),((y.1.1,y.1.2.1,y.1.2.2.1,y.1.2.2.2.1,y.1.2.2.2.2.1,y.1.2.2.2.2.2.1,()),z,())))
theorem lo28_3 (F:Nat):LcOk Tryz.prog (E28 F) 0 (lc28_3 F) (cAt (bodyOf Tryz.f28) [1,0,1,1]):=
 mkL_ok (lp:=[]) (id:=0) (b:=cAt (bodyOf Tryz.f28) (0 :: 0 :: [1,0,1,1])) cok (cts28 F) mixed trivial (by kernel_rfl) (by kernel_rfl) (fun x y s=>((),(),(),x.2.2.2.1,s.1,())) (fun x y s=>((y.1.1,y.1.2.1,y.1.2.2.1,y.1.2.2.2.1,y.1.2.2.2.2.1,y.1.2.2.2.2.2.1,()),s.2,y.2.2.1,())) (fun x y=>rfl) (fun x y=>rfl) (fun x y s kA kO=>L28_3c F x.2.2.2.1 y.2.2.1 s.1 s.2 kA kO) (fun _ _ _ _ _=>by simp only [L28_3,L28_3c,oA,oC,oS,oN,elimS_l,elimS_r,elimS_bind]) (fun _ _ _=>by kernel_rfl)
def L28_4c (F:Nat) (y58:List Zb) (y59:Int) (y60:Int) (y61:List UInt8) {β:Type} (kA:Zm->Option β) (kO:(Za)->Option β):Option β:=
 (bif (decide (y60 < y59)) then (Option.bind (ix y58 y60) fun x68=>(Option.bind (gapp y61 x68.1) fun x69=>(Option.bind (T67 F (UInt64.ofInt x68.2.1)) fun z70=>(Option.bind (gapp x69 z70) fun x71=>(Option.bind (T67 F (UInt64.ofInt x68.2.2.1)) fun z72=>(Option.bind (gapp x71 z72) fun x73=>(kA ((w64 (y60 + (1:Int))),x73)))))))) else (kO y61))
def L28_4 (F:Nat) (y58:List Zb) (y59:Int) (y60:Int) (y61:List UInt8):=L28_4c F y58 y59 y60 y61 (fun s=>some (Sum.inl s)) (fun z=>some (Sum.inr z))
def lc28_4 (F:Nat):Lc:=mkL [3,35,36,37] [(.rw 0),(.ro (.pr .s (.pr .i (.pr .i .un)))),.i,.i] [.row 5 .u8] [3] [(.rw 0)] [.row 5 .u8] F (fun x y (s:Int×Za)=>L28_4 F x.2.1 x.2.2.1 s.1 s.2) (fun x y=>(x.2.2.2.1,y.1)) (fun x y (z:Za)=>(((),()),(z,())))
theorem lo28_4 (F:Nat):LcOk Tryz.prog (E28 F) 0 (lc28_4 F) (cAt (bodyOf Tryz.f28) [1,0,1,1,1]):=
 mkL_ok (lp:=[]) (id:=2) (b:=cAt (bodyOf Tryz.f28) (0 :: 0 :: [1,0,1,1,1])) cok (cts28 F) mixed trivial (by kernel_rfl) (by kernel_rfl) (fun x y s=>((),x.2.1,x.2.2.1,s.1,())) (fun x y s=>(s.2,())) (fun x y=>rfl) (fun x y=>rfl) (fun x y s kA kO=>L28_4c F x.2.1 x.2.2.1 s.1 s.2 kA kO) (fun _ _ _ _ _=>by simp only [L28_4,L28_4c,oA,oC,oS,oN,elimS_l,elimS_r,elimS_bind]) (fun _ _ _=>by kernel_rfl)
def T28c (F:Nat) (p0:List UInt8) (p1:Int) (p2:Int) (p3:Int) (p4:Int) (p5:List Zb) {β:Type} (k:(Za)->Option β):Option β:=
 (Option.bind (gstr p0) fun x38=>(Option.bind (iter (fun s=>L28_3 F (([p1,p2,p3,p4,(p5.length:Int)]:List Int).length:Int) ([p1,p2,p3,p4,(p5.length:Int)]:List Int) s.1 s.2) F ((0:Int),x38)) fun z57=>(Option.bind (iter (fun s=>L28_4 F p5 (p5.length:Int) s.1 s.2) F ((0:Int),z57)) fun z74=>(k z74))))
def T28 (F:Nat) (p0:List UInt8) (p1:Int) (p2:Int) (p3:Int) (p4:Int) (p5:List Zb):=T28c F p0 p1 p2 p3 p4 p5 some
def ct28 (F:Nat):Ct:=mkC 0 [(.pr .str (.pr .i (.pr .i (.pr .i (.pr .i (.pr (.ro (.pr .s (.pr .i (.pr .i .un)))) .un))))))] [] [(.rw 0)] [.row 5 .u8] (fun x y=>T28 F x.1.1 x.1.2.1 x.1.2.2.1 x.1.2.2.2.1 x.1.2.2.2.2.1 x.1.2.2.2.2.2.1) (fun x y (z:Za)=>(((),()),(z,())))
theorem ok28 (F:Nat):Sound Tryz.prog cfg 28 (ct28 F):=
 mkC_ok (E:=E28 F) (lp:=[([1,0,1,1],lc28_3 F),([1,0,1,1,1],lc28_4 F)]) (code:=bodyOf Tryz.f28) Tryz.func28 rfl Tryz.ntmps28 rfl rfl cok (cts28 F) mixed ⟨lo28_3 F,⟨lo28_4 F,trivial⟩⟩ (by kernel_rfl) (fun x y k=>T28c F x.1.1 x.1.2.1 x.1.2.2.1 x.1.2.2.2.1 x.1.2.2.2.2.1 x.1.2.2.2.2.2.1 k) (fun _ _ _=>by simp only [T28,T28c,oA,oC,oS,oN,elimS_bind]) (fun _ _=>by kernel_rfl)
def ord6:Nat->List (Tag×Nat)
 | 10=>[(.p,0),(.p,1),(.p,2),(.p,3),(.c,4),(.r,5),(.w,6),(.r,7),(.p,8),(.p,9),(.p,10),(.p,11),(.p,12),(.p,13),(.p,14),(.r,15),(.r,16),(.b,17),(.p,18),(.p,19)]
 | 15=>[(.r,0),(.w,1),(.p,2),(.r,3),(.p,6),(.c,7),(.w,4),(.r,5),(.p,8),(.p,9),(.p,10)]
 | _=>[]
def E6 (F:Nat):Ev:=⟨cfg,86,ctOf [(8,ct8 F),(26,ct26 F),(17,ct17 F),(27,ct27 F),(12,ct12 F),(28,ct28 F)],ord6,ctOf [],fun _=>none,fun _=>none⟩
theorem cts6 (F:Nat):CtsOk Tryz.prog (E6 F):=cts_of (l:=[(8,ct8 F),(26,ct26 F),(17,ct17 F),(27,ct27 F),(12,ct12 F),(28,ct28 F)]) (l':=[]) rfl rfl ⟨⟨ok8 F,_,Tryz.func8,rfl,rfl⟩,⟨⟨ok26 F,_,Tryz.func26,rfl,rfl⟩,⟨⟨ok17 F,_,Tryz.func17,rfl,rfl⟩,⟨⟨ok27 F,_,Tryz.func27,rfl,rfl⟩,⟨⟨ok12 F,_,Tryz.func12,rfl,rfl⟩,⟨⟨ok28 F,_,Tryz.func28,rfl,rfl⟩,trivial⟩⟩⟩⟩⟩⟩ trivial
def T6c (F:Nat) (p0:List UInt8) (p1:Int) (p2:Int) (p3:Int) (p4:Int) (p5:List Zb) (p6:List UInt8) {β:Type} (k:Bool->Option β):Option β:=
 (Option.bind (T8 F) fun z15=>(bif (!z15) then (k false) else (bif (decide ((20:Int) < (p5.length:Int))) then (k true) else (bif (decide ((2000:Int) < (p6.length:Int))) then (k true) else (Option.bind (T26 F p0 p1 p2 p3 p4 p5) fun z16=>(Option.bind (T17 F p0 p1 p2 p3 p4 p5) fun z17=>(bif (!z17) then (bif (z16.1 != (1:Int)) then (k false) else (bif ((z16.2.length:Int) != (0:Int)) then (k false) else (Option.bind (T27 F p6) fun z18=>(bif (z18.2.2.2.2.2.1 != (0:Int)) then (bif (z18.2.2.2.2.2.1 == (3:Int)) then (Option.bind (T12 F z18.1 z18.2.1 z18.2.2.1 z18.2.2.2.1 z18.2.2.2.2.1 z18.2.2.2.2.2.2 ([]:List UInt8) (0:Int) (0:Int) (0:Int) (0:Int) ([]:List Zb)) fun z19=>(k z19)) else (k false)) else (Option.bind (T17 F z18.1 z18.2.1 z18.2.2.1 z18.2.2.2.1 z18.2.2.2.2.1 z18.2.2.2.2.2.2) fun z20=>(bif z20 then (Option.bind (T28 F z18.1 z18.2.1 z18.2.2.1 z18.2.2.2.1 z18.2.2.2.2.1 z18.2.2.2.2.2.2) fun z21=>(k (z21 == p6))) else (k false))))))) else (Option.bind (T27 F z16.2) fun z22=>(bif (z16.1 != (0:Int)) then (k false) else (Option.bind (T28 F p0 p1 p2 p3 p4 p5) fun z23=>(bif (z16.2 != z23) then (k false) else (bif (z22.2.2.2.2.2.1 != (0:Int)) then (k false) else (Option.bind (T12 F z22.1 z22.2.1 z22.2.2.1 z22.2.2.2.1 z22.2.2.2.2.1 z22.2.2.2.2.2.2 p0 p1 p2 p3 p4 p5) fun z24=>(bif (!z24) then (k false) else (Option.bind (T27 F p6) fun z25=>(bif (z25.2.2.2.2.2.1 != (0:Int)) then (bif (z25.2.2.2.2.2.1 == (3:Int)) then (Option.bind (T12 F z25.1 z25.2.1 z25.2.2.1 z25.2.2.2.1 z25.2.2.2.2.1 z25.2.2.2.2.2.2 ([]:List UInt8) (0:Int) (0:Int) (0:Int) (0:Int) ([]:List Zb)) fun z26=>(k z26)) else (k false)) else (Option.bind (T17 F z25.1 z25.2.1 z25.2.2.1 z25.2.2.2.1 z25.2.2.2.2.1 z25.2.2.2.2.2.2) fun z27=>(bif z27 then (Option.bind (T28 F z25.1 z25.2.1 z25.2.2.1 z25.2.2.2.1 z25.2.2.2.2.1 z25.2.2.2.2.2.2) fun z28=>(k (z28 == p6))) else (k false)))))))))))))))))))
def T6 (F:Nat) (p0:List UInt8) (p1:Int) (p2:Int) (p3:Int) (p4:Int) (p5:List Zb) (p6:List UInt8):=T6c F p0 p1 p2 p3 p4 p5 p6 some
abbrev cA6:List Sh:=[(.pr .str (.pr .i (.pr .i (.pr .i (.pr .i (.pr (.ro (.pr .s (.pr .i (.pr .i .un)))) .un)))))),(.ro .u8)]
def ct6 (F:Nat):Ct:=mkC 0 cA6 [] [.bo] [] (fun x y=>T6 F x.1.1 x.1.2.1 x.1.2.2.1 x.1.2.2.2.1 x.1.2.2.2.2.1 x.1.2.2.2.2.2.1 x.2.1) (fun x y (z:Bool)=>((z,()),()))
theorem ok6 (F:Nat):Sound Tryz.prog cfg 6 (ct6 F):=
 mkC_ok (E:=E6 F) (lp:=[]) (code:=bodyOf Tryz.f6) Tryz.func6 rfl Tryz.ntmps6 rfl rfl cok (cts6 F) mixed trivial (by kernel_rfl) (fun x y k=>T6c F x.1.1 x.1.2.1 x.1.2.2.1 x.1.2.2.2.1 x.1.2.2.2.2.1 x.1.2.2.2.2.2.1 x.2.1 k) (fun _ _ _=>by simp only [T6,T6c,oA,oC,oS,oN,elimS_bind]) (fun _ _=>by kernel_rfl)
def encN:Nat->Nat->List UInt8
 | 0,n=>[UInt8.ofNat n]
 | m + 1,n=>if n < 128 then [UInt8.ofNat n] else UInt8.ofNat (n % 128 + 128) :: encN m (n / 128)
theorem encN_len:∀ (m n:Nat),(encN m n).length≤m + 1∧1≤(encN m n).length
 | 0,n=>by simp [encN]
 | m + 1,n=>by
  have:=encN_len m (n / 128)
  simp only [encN];split<;>simp<;>omega
theorem or128:∀ b:_root_.Fin 256,(UInt8.ofNat b.val ||| UInt8.ofNat 128)=UInt8.ofNat (b.val % 128 + 128):=by decide +kernel
theorem u8_of (x:UInt64):x.toUInt8=UInt8.ofNat x.toNat:=by
 apply UInt8.toNat_inj.1
 rw [UInt64.toNat_toUInt8,UInt8.toNat_ofNat']
theorem byte60 (x:UInt64):(x.toUInt8 ||| UInt8.ofNat 128)=UInt8.ofNat (x.toNat % 128 + 128):=by
 have h:=or128 ⟨x.toNat % 256,Nat.mod_lt _ (by omega)⟩
 simp only at h
 have e:UInt8.ofNat (x.toNat % 256)=x.toUInt8:=by
  apply UInt8.toNat_inj.1
  rw [UInt64.toNat_toUInt8,UInt8.toNat_ofNat'];omega
 rw [e] at h
 rw [h]
 congr 1;omega
theorem l60 (F:Nat):∀ (m fuel:Nat) (x:UInt64) (l:List UInt8),x.toNat < 128 ^ (m + 1)->m < fuel->l.length + m < 1000000->∃ y pre,iter (fun s:UInt64×List UInt8=>L100_2 F s.1 s.2) fuel (x,l)=some (y,l ++ pre)∧pre ++ [y.toUInt8]=encN m x.toNat∧pre.length≤m
 | m,0,x,l,hx,hf,hl=>by omega
 | 0,fuel + 1,x,l,hx,hf,hl=>by
  have h:¬ UInt64.ofNat 128≤x:=by
   show ¬ (128≤x.toNat);omega
  have step:L100_2 F x l=some (.inr (x,l)):=by simp only [L100_2,L100_2c,h,decide_false,cond_false]
  refine ⟨x,[],?_,by rw [List.nil_append,u8_of];simp only [encN],by simp⟩
  rw [it_out (f:=fun s:UInt64×List UInt8=>L100_2 F s.1 s.2) (s:=(x,l)) step];simp
 | m + 1,fuel + 1,x,l,hx,hf,hl=>by
  by_cases h:128≤x.toNat
  ·have h':UInt64.ofNat 128≤x:=h
   have hd:=shr7 x
   have hlt:(shr64 x 7).toNat < 128 ^ (m + 1):=by rw [hd];exact Nat.div_lt_of_lt_mul (by rw [Nat.pow_succ] at hx;omega)
   obtain ⟨y,pre,h1,h2,h3⟩:=l60 F m fuel (shr64 x 7) (l ++ [UInt8.ofNat (x.toNat % 128 + 128)]) hlt (by omega) (by simp;omega)
   refine ⟨y,UInt8.ofNat (x.toNat % 128 + 128) :: pre,?_,?_,by simp;omega⟩
   ·have e7:(UInt64.ofNat 7).toNat=7:=rfl
    have hg:gapp l [x.toUInt8 ||| UInt8.ofNat 128]=some (l ++ [UInt8.ofNat (x.toNat % 128 + 128)]):=by
     rw [byte60];unfold gapp;rw [if_pos (by simp;omega)]
    have step:L100_2 F x l=some (.inl (shr64 x 7,l ++ [UInt8.ofNat (x.toNat % 128 + 128)])):=by
     simp only [L100_2,L100_2c,h',decide_true,cond_true,hg,Option.bind_some,e7]
    rw [it_again (f:=fun s:UInt64×List UInt8=>L100_2 F s.1 s.2) (s:=(x,l)) step,h1]
    simp
   ·rw [List.cons_append,h2,hd]
    simp [encN,show ¬ x.toNat < 128 by omega]
  ·have h':¬ UInt64.ofNat 128≤x:=h
   have step:L100_2 F x l=some (.inr (x,l)):=by simp only [L100_2,L100_2c,h',decide_false,cond_false]
   refine ⟨x,[],?_,by rw [List.nil_append,u8_of];simp only [encN,show x.toNat < 128 by omega,if_true],by simp⟩
   rw [it_out (f:=fun s:UInt64×List UInt8=>L100_2 F s.1 s.2) (s:=(x,l)) step];simp
def enc (n:Nat):List UInt8:=encN 9 n
theorem u64_lt (x:UInt64):x.toNat < 128 ^ (9 + 1):=Nat.lt_of_lt_of_le x.toNat_lt (by decide)
theorem encN_one {m n:Nat} (h:n < 128):encN m n=[UInt8.ofNat n]:=by
 cases m<;>simp [encN,h]
theorem byte45 (x:UInt64):((x % (UInt64.ofNat 128)).toUInt8) + (UInt8.ofNat 128)=UInt8.ofNat (x.toNat % 128 + 128):=by
 apply UInt8.toNat_inj.1
 rw [UInt8.toNat_add,UInt64.toNat_toUInt8,UInt64.toNat_mod,UInt8.toNat_ofNat',UInt8.toNat_ofNat']
 have:(UInt64.ofNat 128).toNat=128:=rfl
 rw [this];omega
theorem l45 (F:Nat):∀ (m fuel:Nat) (x:UInt64) (l:List UInt8),x.toNat < 128 ^ (m + 1)->m < fuel->l.length + m < 1000000->∃ y pre,iter (fun s:UInt64×List UInt8=>L67_2 F s.1 s.2) fuel (x,l)=some (y,l ++ pre)∧pre ++ [y.toUInt8]=encN m x.toNat∧pre.length≤m
 | m,0,x,l,hx,hf,hl=>by omega
 | 0,fuel + 1,x,l,hx,hf,hl=>by
  have h:¬ UInt64.ofNat 127 < x:=by
   show ¬ (127 < x.toNat);omega
  have step:L67_2 F x l=some (.inr (x,l)):=by simp only [L67_2,L67_2c,h,decide_false,cond_false]
  refine ⟨x,[],?_,by rw [List.nil_append,u8_of];simp only [encN],by simp⟩
  rw [it_out (f:=fun s:UInt64×List UInt8=>L67_2 F s.1 s.2) (s:=(x,l)) step];simp
 | m + 1,fuel + 1,x,l,hx,hf,hl=>by
  by_cases h:127 < x.toNat
  ·have h':UInt64.ofNat 127 < x:=h
   have hd:=div128 x
   have hlt:(x / UInt64.ofNat 128).toNat < 128 ^ (m + 1):=by rw [hd];exact Nat.div_lt_of_lt_mul (by rw [Nat.pow_succ] at hx;omega)
   obtain ⟨y,pre,h1,h2,h3⟩:=l45 F m fuel (x / UInt64.ofNat 128) (l ++ [UInt8.ofNat (x.toNat % 128 + 128)]) hlt (by omega) (by simp;omega)
   refine ⟨y,UInt8.ofNat (x.toNat % 128 + 128) :: pre,?_,?_,by simp;omega⟩
   ·have hg:gapp l [((x % (UInt64.ofNat 128)).toUInt8) + (UInt8.ofNat 128)]=some (l ++ [UInt8.ofNat (x.toNat % 128 + 128)]):=by
     rw [byte45];unfold gapp;rw [if_pos (by simp;omega)]
    have step:L67_2 F x l=some (.inl (x / UInt64.ofNat 128,l ++ [UInt8.ofNat (x.toNat % 128 + 128)])):=by
     simp only [L67_2,L67_2c,h',decide_true,cond_true,hg,Option.bind_some]
    rw [it_again (f:=fun s:UInt64×List UInt8=>L67_2 F s.1 s.2) (s:=(x,l)) step,h1]
    simp
   ·rw [List.cons_append,h2,hd]
    simp [encN,show ¬ x.toNat < 128 by omega]
  ·have h':¬ UInt64.ofNat 127 < x:=h
   have step:L67_2 F x l=some (.inr (x,l)):=by simp only [L67_2,L67_2c,h',decide_false,cond_false]
   refine ⟨x,[],?_,by rw [List.nil_append,u8_of];simp only [encN,show x.toNat < 128 by omega,if_true],by simp⟩
   rw [it_out (f:=fun s:UInt64×List UInt8=>L67_2 F s.1 s.2) (s:=(x,l)) step];simp
theorem t45' {F:Nat} (hF:50 < F) (x:UInt64):T67 F x=some (enc x.toNat):=by
 obtain ⟨y,pre,h1,h2,h3⟩:=l45 F 9 F x [] (u64_lt x) (by omega) (by simp)
 simp only [T67,T67c]
 rw [h1]
 simp only [Option.bind_some,List.nil_append]
 have:gapp pre [y.toUInt8]=some (pre ++ [y.toUInt8]):=by unfold gapp;rw [if_pos (by simp;omega)]
 rw [this,h2];rfl
def decS:Nat->List UInt8->Option (Nat×Nat)
 | _,[]=>none
 | i,b :: r=>if 10≤i then none else if 128≤b.toNat then (match decS (i + 1) r with
   | some (v,n)=>some (b.toNat % 128 + 128 * v,n + 1)
   | none=>none) else if 0 < i∧b.toNat=0 then none else if i=9∧1 < b.toNat then none else some (b.toNat,1)
theorem decS_bd:∀ (l:List UInt8) (i v n:Nat),i≤10->decS i l=some (v,n)->v * 128 ^ i < 2 ^ 64∧1≤n∧n≤l.length∧i + n≤10∧(0 < i->0 < v)
 | [],i,v,n,hi,h=>by simp [decS] at h
 | b :: r,i,v,n,hi,h=>by
  simp only [decS] at h
  split at h
  ·cases h
  split at h
  ·split at h<;>first | (cases h;done) | skip
   rename_i v' n' hr
   cases h
   obtain ⟨h1,h2,h3,h4,h5⟩:=decS_bd r (i + 1) v' n' (by omega) hr
   have hv:=h5 (by omega)
   refine ⟨?_,by omega,by simp;omega,by omega,fun _=>by omega⟩
   have hb:b.toNat % 128 < 128:=Nat.mod_lt _ (by omega)
   have hi':i≤8:=by omega
   have e:v' * 128 ^ (i + 1)=128 * v' * 128 ^ i:=by rw [Nat.pow_succ];ac_rfl
   rw [e] at h1
   have hd:(2:Nat) ^ 64=2 ^ (64 - 7 * i) * 128 ^ i:=by
    have:(128:Nat) ^ i=2 ^ (7 * i):=by rw [Nat.pow_mul]
    rw [this,← Nat.pow_add];congr 1;omega
   have hp:0 < 128 ^ i:=Nat.pow_pos (by omega)
   rw [hd] at h1 ⊢
   have h1':128 * v' < 2 ^ (64 - 7 * i):=Nat.lt_of_mul_lt_mul_right h1
   have hd2:(2:Nat) ^ (64 - 7 * i)=128 * 2 ^ (57 - 7 * i):=by
    rw [show (128:Nat)=2 ^ 7 from rfl,← Nat.pow_add];congr 1;omega
   rw [hd2] at h1' ⊢
   have h1'':v' < 2 ^ (57 - 7 * i):=Nat.lt_of_mul_lt_mul_left h1'
   exact Nat.mul_lt_mul_of_pos_right (by omega) hp
  ·split at h
   ·cases h
   split at h
   ·cases h
   rename_i hx hb h0 h9
   cases h
   refine ⟨?_,by omega,by simp,by omega,fun h=>by omega⟩
   have hp:128 ^ i=2 ^ (7 * i):=by rw [show (128:Nat)=2 ^ 7 from rfl,Nat.pow_mul]
   by_cases hi9:i=9
   ·subst hi9
    have:b.toNat≤1:=by omega
    calc b.toNat * 128 ^ 9≤1 * 128 ^ 9:=Nat.mul_le_mul_right _ this
     _ < 2 ^ 64:=by decide
   ·have h1:b.toNat * 128 ^ i < 128 * 128 ^ i:=Nat.mul_lt_mul_of_pos_right (by omega) (Nat.pow_pos (by omega))
    have h2:128 * 128 ^ i≤128 * 128 ^ 8:=Nat.mul_le_mul_left _ (Nat.pow_le_pow_right (by omega) (by omega))
    have h3:128 * 128 ^ 8 < 2 ^ 64:=by decide
    omega
theorem decS_enc:∀ (l:List UInt8) (i v n:Nat),i < 10->decS i l=some (v,n)->l.take n=encN (9 - i) v∧(encN (9 - i) v).length=n
 | [],i,v,n,hi,h=>by simp [decS] at h
 | b :: r,i,v,n,hi,h=>by
  have hbd:=decS_bd (b :: r) i v n (by omega) h
  simp only [decS] at h
  split at h
  ·cases h
  split at h
  ·split at h<;>first | (cases h;done) | skip
   rename_i hi10 hb v' n' hr
   cases h
   obtain ⟨h1,h2,h3,h4,h5⟩:=decS_bd r (i + 1) v' n' (by omega) hr
   have hv:=h5 (by omega)
   obtain ⟨h6,h7⟩:=decS_enc r (i + 1) v' n' (by omega) hr
   have e:9 - i=(9 - (i + 1)) + 1:=by omega
   have hb2:b.toNat < 256:=b.toNat_lt
   rw [e]
   simp only [encN]
   rw [if_neg (by omega),show (b.toNat % 128 + 128 * v') / 128=v' by omega,show (b.toNat % 128 + 128 * v') % 128=b.toNat % 128 by omega,show b.toNat % 128 + 128=b.toNat by omega]
   exact ⟨by rw [List.take_succ_cons,h6,UInt8.ofNat_toNat],by rw [List.length_cons,h7]⟩
  ·split at h
   ·cases h
   split at h
   ·cases h
   rename_i hx hb h0 h9
   cases h
   have:encN (9 - i) b.toNat=[UInt8.ofNat b.toNat]:=encN_one (by omega)
   rw [this];simp
theorem enc_decS:∀ (m v:Nat) (r:List UInt8),m≤9->v * 128 ^ (9 - m) < 2 ^ 64->(m < 9->0 < v)->decS (9 - m) (encN m v ++ r)=some (v,(encN m v).length)
 | 0,v,r,hm,hv,h0=>by
  have hv1:v≤1:=by
   rcases Nat.lt_or_ge 1 v with h | h
   ·have:2 * 128 ^ 9≤v * 128 ^ 9:=Nat.mul_le_mul_right _ h
    have:2 * 128 ^ 9=2 ^ 64:=by decide
    simp only [Nat.sub_zero] at hv
    omega
   ·exact h
  have hp:=h0 (by omega)
  obtain rfl:v=1:=by omega
  rfl
 | m + 1,v,r,hm,hv,h0=>by
  simp only [encN]
  by_cases h:v < 128
  ·rw [if_pos h]
   have hb:(UInt8.ofNat v).toNat=v:=by rw [UInt8.toNat_ofNat'];omega
   simp only [List.cons_append,List.nil_append,decS,hb]
   rw [if_neg (by omega),if_neg (by omega)]
   by_cases h9:m + 1=9
   ·rw [if_neg (by omega),if_neg (by omega)];rfl
   ·have:=h0 (by omega)
    rw [if_neg (by omega),if_neg (by omega)];rfl
  ·rw [if_neg h]
   have hb:(UInt8.ofNat (v % 128 + 128)).toNat=v % 128 + 128:=by rw [UInt8.toNat_ofNat'];omega
   have hd:v / 128 * 128 ^ (9 - m) < 2 ^ 64:=by
    have e:(128:Nat) ^ (9 - m)=128 ^ (9 - (m + 1)) * 128:=by rw [← Nat.pow_succ];congr 1;omega
    rw [e]
    calc v / 128 * (128 ^ (9 - (m + 1)) * 128)=(v / 128 * 128) * 128 ^ (9 - (m + 1)):=by ac_rfl
     _≤v * 128 ^ (9 - (m + 1)):=Nat.mul_le_mul_right _ (Nat.div_mul_le_self v 128)
     _ < 2 ^ 64:=hv
   have ih:=enc_decS m (v / 128) r (by omega) hd (fun _=>by omega)
   simp only [List.cons_append,decS,hb]
   rw [if_neg (by omega),if_pos (by omega),show 9 - (m + 1) + 1=9 - m by omega,ih]
   simp only [Option.some.injEq,Prod.mk.injEq,List.length_cons,and_true]
   omega
theorem enc_dec {v:Nat} (hv:v < 2 ^ 64) (r:List UInt8):decS 0 (enc v ++ r)=some (v,(enc v).length):=
 enc_decS 9 v r (by omega) (by simpa using hv) (fun h=>by omega)
theorem dec_enc {l:List UInt8} {v n:Nat} (h:decS 0 l=some (v,n)):l.take n=enc v∧(enc v).length=n∧v < 2 ^ 64∧n≤l.length:=by
 obtain ⟨h1,h2⟩:=decS_enc l 0 v n (by omega) h
 have h3:=decS_bd l 0 v n (by omega) h
 exact ⟨h1,h2,by simpa using h3.1,h3.2.2.1⟩
theorem or_add {a x i:Nat} (h:a < 2 ^ i):a ||| (x * 2 ^ i)=a + x * 2 ^ i:=by
 rw [Nat.or_comm,Nat.add_comm,← Nat.shiftLeft_eq,Nat.shiftLeft_add_eq_or_of_lt h]
theorem and127:∀ b:_root_.Fin 256,(UInt8.ofNat b.val &&& UInt8.ofNat 127).toNat=b.val % 128:=by decide +kernel
theorem and127' (b:UInt8):(b &&& UInt8.ofNat 127).toNat=b.toNat % 128:=by
 have:=and127 ⟨b.toNat,b.toNat_lt⟩
 simpa using this
theorem acc90 {acc:UInt64} {b:UInt8} {i:Nat} (hi:i≤9) (ha:acc.toNat < 128 ^ i) (h9:i=9->b.toNat % 128≤1):(acc ||| (shl64 ((b &&& (UInt8.ofNat 127)).toUInt64) (7 * i))).toNat=acc.toNat + b.toNat % 128 * 128 ^ i∧b.toNat % 128 * 128 ^ i < 2 ^ 64:=by
 have hp:(128:Nat) ^ i=2 ^ (7 * i):=by rw [show (128:Nat)=2 ^ 7 from rfl,Nat.pow_mul]
 have hlt:b.toNat % 128 * 128 ^ i < 2 ^ 64:=by
  by_cases h:i=9
  ·subst h
   calc b.toNat % 128 * 128 ^ 9≤1 * 128 ^ 9:=Nat.mul_le_mul_right _ (h9 rfl)
    _ < 2 ^ 64:=by decide
  ·have h1:b.toNat % 128 * 128 ^ i < 128 * 128 ^ i:=Nat.mul_lt_mul_of_pos_right (Nat.mod_lt _ (by omega)) (Nat.pow_pos (by omega))
   have h2:128 * 128 ^ i≤128 * 128 ^ 8:=Nat.mul_le_mul_left _ (Nat.pow_le_pow_right (by omega) (by omega))
   have h3:128 * 128 ^ 8 < 2 ^ 64:=by decide
   omega
 refine ⟨?_,hlt⟩
 have hs:(shl64 ((b &&& (UInt8.ofNat 127)).toUInt64) (7 * i)).toNat=b.toNat % 128 * 128 ^ i:=by
  show (((b &&& (UInt8.ofNat 127)).toUInt64).toBitVec <<< (7 * i)).toNat=_
  rw [BitVec.toNat_shiftLeft]
  have e1:((b &&& (UInt8.ofNat 127)).toUInt64).toBitVec.toNat=b.toNat % 128:=by
   show ((b &&& (UInt8.ofNat 127)).toUInt64).toNat=_
   rw [UInt8.toNat_toUInt64,and127']
  rw [e1,Nat.shiftLeft_eq,← hp,Nat.mod_eq_of_lt hlt]
 rw [UInt64.toNat_or,hs,hp]
 rw [hp] at ha
 exact or_add ha
theorem l90 (F:Nat) (b:List UInt8) (hb:b.length < 1000000000):∀ (m i fuel pos:Nat) (acc:UInt64),i + m=10->m < fuel->acc.toNat < 128 ^ i->pos≤b.length ->
  (∃ v n,decS i (b.drop pos)=some (v,n)∧iter (fun s:UInt64×Int×Int=>L105_2 F b s.1 s.2.1 s.2.2) fuel (acc,((i:Nat):Int),((pos:Nat):Int))=some (.inr (UInt64.ofNat (acc.toNat + v * 128 ^ i),0,((pos + n:Nat):Int)))) ∨
  (decS i (b.drop pos)=none∧((∃ p,iter (fun s:UInt64×Int×Int=>L105_2 F b s.1 s.2.1 s.2.2) fuel (acc,((i:Nat):Int),((pos:Nat):Int))=some (.inl p))∨∃ p,iter (fun s:UInt64×Int×Int=>L105_2 F b s.1 s.2.1 s.2.2) fuel (acc,((i:Nat):Int),((pos:Nat):Int))=some (.inr (UInt64.ofNat 0,3,p))))
 | m,i,0,pos,acc,him,hf,ha,hp=>by omega
 | 0,i,fuel + 1,pos,acc,him,hf,ha,hp=>by
  right
  have h:¬ (((i:Nat):Int) < 10):=by omega
  refine ⟨?_,.inl ⟨((pos:Nat):Int),?_⟩⟩
  ·cases b.drop pos with
   | nil=>rfl
   | cons x r=>simp only [decS];rw [if_pos (by omega)]
  ·have step:L105_2 F b acc ((i:Nat):Int) ((pos:Nat):Int)=some (.inr (.inl ((pos:Nat):Int))):=by
    simp only [L105_2,L105_2c,h,decide_false,cond_false]
   rw [it_out (f:=fun s:UInt64×Int×Int=>L105_2 F b s.1 s.2.1 s.2.2) (s:=(acc,((i:Nat):Int),((pos:Nat):Int))) step]
 | m + 1,i,fuel + 1,pos,acc,him,hf,ha,hp=>by
  have h:(((i:Nat):Int) < 10):=by omega
  by_cases he:pos=b.length
  ·right
   have e1:(((pos:Nat):Int) == (b.length:Int))=true:=by simp [he]
   refine ⟨by rw [List.drop_eq_nil_of_le (by omega)];rfl,.inr ⟨((pos:Nat):Int),?_⟩⟩
   have step:L105_2 F b acc ((i:Nat):Int) ((pos:Nat):Int)=some (.inr (.inr (UInt64.ofNat 0,3,((pos:Nat):Int)))):=by
    simp only [L105_2,L105_2c,h,decide_true,cond_true,e1]
   rw [it_out (f:=fun s:UInt64×Int×Int=>L105_2 F b s.1 s.2.1 s.2.2) (s:=(acc,((i:Nat):Int),((pos:Nat):Int))) step]
  ·have hlt:pos < b.length:=by omega
   have e1:(((pos:Nat):Int) == (b.length:Int))=false:=by simp;omega
   have hin:inb b.length ((pos:Nat):Int)=some pos:=by unfold inb;rw [if_pos (by omega)];simp
   have hg:gnn (w64 ((7:Int) * ((i:Nat):Int)))=some (7 * i):=by
    have w:w64 ((7:Int) * ((i:Nat):Int))=((7 * i:Nat):Int):=by rw [w64_in (by omega) (by omega)];omega
    rw [w];unfold gnn;rw [if_pos (by omega)];simp only [Int.toNat_natCast]
   have w1:w64 (((i:Nat):Int) + 1)=((i + 1:Nat):Int):=by rw [w64_in (by omega) (by omega)];omega
   have w2:w64 (((pos:Nat):Int) + 1)=((pos + 1:Nat):Int):=by rw [w64_in (by omega) (by omega)];omega
   have hd:b.drop pos=b[pos] :: b.drop (pos + 1):=List.drop_eq_getElem_cons hlt
   rw [hd]
   have hx:b[pos].toNat < 256:=b[pos].toNat_lt
   have hpw:(128:Nat) ^ (i + 1)=128 ^ i * 128:=Nat.pow_succ ..
   by_cases hc:128≤b[pos].toNat
   ·have hc':UInt8.ofNat 128≤b[pos]:=hc
    have step:L105_2 F b acc ((i:Nat):Int) ((pos:Nat):Int)=some (.inl (acc ||| (shl64 ((b[pos] &&& (UInt8.ofNat 127)).toUInt64) (7 * i)),((i + 1:Nat):Int),((pos + 1:Nat):Int))):=by
     simp only [L105_2,L105_2c,h,decide_true,cond_true,e1,cond_false,hin,Option.bind_some,List.getElem?_eq_getElem hlt,hg,hc',w1,w2]
    rw [it_again (f:=fun s:UInt64×Int×Int=>L105_2 F b s.1 s.2.1 s.2.2) (s:=(acc,((i:Nat):Int),((pos:Nat):Int))) step]
    have hds:decS i (b[pos] :: b.drop (pos + 1))=(match decS (i + 1) (b.drop (pos + 1)) with
      | some (v,n)=>some (b[pos].toNat % 128 + 128 * v,n + 1)
      | none=>none):=by
     simp only [decS];rw [if_neg (by omega),if_pos hc]
    rw [hds]
    by_cases hi9:i=9
    ·
     subst hi9
     have hn:decS (9 + 1) (b.drop (pos + 1))=none:=by
      cases b.drop (pos + 1) with
      | nil=>rfl
      | cons x r=>simp [decS]
     rw [hn]
     right
     refine ⟨rfl,?_⟩
     obtain ⟨f,rfl⟩:∃ f,fuel=f + 1:=⟨fuel - 1,by omega⟩
     left
     have h':¬ (((9 + 1:Nat):Int) < 10):=by omega
     refine ⟨((pos + 1:Nat):Int),?_⟩
     have step2:∀ a:UInt64,L105_2 F b a ((9 + 1:Nat):Int) ((pos + 1:Nat):Int)=some (.inr (.inl ((pos + 1:Nat):Int))):=fun a=>by
      simp only [L105_2,L105_2c,h',decide_false,cond_false]
     rw [it_out (f:=fun s:UInt64×Int×Int=>L105_2 F b s.1 s.2.1 s.2.2) (s:=(_,((9 + 1:Nat):Int),((pos + 1:Nat):Int))) (step2 _)]
    ·obtain ⟨hacc,_⟩:=acc90 (acc:=acc) (b:=b[pos]) (i:=i) (by omega) ha (fun h=>absurd h hi9)
     have hacc2:(acc ||| (shl64 ((b[pos] &&& (UInt8.ofNat 127)).toUInt64) (7 * i))).toNat < 128 ^ (i + 1):=by
      rw [hacc,hpw]
      have:b[pos].toNat % 128 * 128 ^ i≤127 * 128 ^ i:=Nat.mul_le_mul_right _ (by omega)
      omega
     rcases l90 F b hb m (i + 1) fuel (pos + 1) _ (by omega) (by omega) hacc2 (by omega) with ⟨v,n,h1,h2⟩ | ⟨h1,h2⟩
     ·left
      rw [h1]
      refine ⟨_,_,rfl,?_⟩
      rw [h2,hacc]
      have e:acc.toNat + b[pos].toNat % 128 * 128 ^ i + v * 128 ^ (i + 1)=acc.toNat + (b[pos].toNat % 128 + 128 * v) * 128 ^ i:=by
       rw [hpw,Nat.add_mul,Nat.add_assoc];congr 2;ac_rfl
      rw [e,show pos + 1 + n=pos + (n + 1) by omega]
     ·right
      rw [h1]
      exact ⟨rfl,h2⟩
   ·have hc':¬ UInt8.ofNat 128≤b[pos]:=hc
    have hds:decS i (b[pos] :: b.drop (pos + 1))=(if 0 < i∧b[pos].toNat=0 then none else if i=9∧1 < b[pos].toNat then none else some (b[pos].toNat,1)):=by
     simp only [decS];rw [if_neg (by omega),if_neg hc]
    rw [hds]
    have good:(i=9->b[pos].toNat≤1)->L105_2 F b acc ((i:Nat):Int) ((pos:Nat):Int)=some (.inr (.inr (acc ||| (shl64 ((b[pos] &&& (UInt8.ofNat 127)).toUInt64) (7 * i)),0,((pos + 1:Nat):Int)))) ->
      iter (fun s:UInt64×Int×Int=>L105_2 F b s.1 s.2.1 s.2.2) (fuel + 1) (acc,((i:Nat):Int),((pos:Nat):Int))=some (.inr (UInt64.ofNat (acc.toNat + b[pos].toNat * 128 ^ i),0,((pos + 1:Nat):Int))):=fun h9 step=>by
     rw [it_out (f:=fun s:UInt64×Int×Int=>L105_2 F b s.1 s.2.1 s.2.2) (s:=(acc,((i:Nat):Int),((pos:Nat):Int))) step]
     obtain ⟨hacc,_⟩:=acc90 (acc:=acc) (b:=b[pos]) (i:=i) (by omega) ha (fun h=>by have:=h9 h;omega)
     have hm:b[pos].toNat % 128=b[pos].toNat:=Nat.mod_eq_of_lt (by omega)
     rw [hm] at hacc
     rw [← hacc,UInt64.ofNat_toNat]
    have bad:L105_2 F b acc ((i:Nat):Int) ((pos:Nat):Int)=some (.inr (.inr (UInt64.ofNat 0,3,((pos + 1:Nat):Int))))->∃ p,iter (fun s:UInt64×Int×Int=>L105_2 F b s.1 s.2.1 s.2.2) (fuel + 1) (acc,((i:Nat):Int),((pos:Nat):Int))=some (.inr (UInt64.ofNat 0,3,p)):=fun step=>
     ⟨_,by rw [it_out (f:=fun s:UInt64×Int×Int=>L105_2 F b s.1 s.2.1 s.2.2) (s:=(acc,((i:Nat):Int),((pos:Nat):Int))) step]⟩
    have base:∀ z,(L105_2 F b acc ((i:Nat):Int) ((pos:Nat):Int)=z) ↔ ((bif decide ((0:Int) < ((i:Nat):Int)) then (bif (b[pos] == (UInt8.ofNat 0)) then some (.inr (.inr (UInt64.ofNat 0,3,((pos + 1:Nat):Int)))) else (bif (((i:Nat):Int) == 9) then (bif decide (UInt8.ofNat 1 < b[pos]) then some (.inr (.inr (UInt64.ofNat 0,3,((pos + 1:Nat):Int)))) else some (.inr (.inr (acc ||| (shl64 ((b[pos] &&& (UInt8.ofNat 127)).toUInt64) (7 * i)),0,((pos + 1:Nat):Int))))) else some (.inr (.inr (acc ||| (shl64 ((b[pos] &&& (UInt8.ofNat 127)).toUInt64) (7 * i)),0,((pos + 1:Nat):Int)))))) else (bif (((i:Nat):Int) == 9) then (bif decide (UInt8.ofNat 1 < b[pos]) then some (.inr (.inr (UInt64.ofNat 0,3,((pos + 1:Nat):Int)))) else some (.inr (.inr (acc ||| (shl64 ((b[pos] &&& (UInt8.ofNat 127)).toUInt64) (7 * i)),0,((pos + 1:Nat):Int))))) else some (.inr (.inr (acc ||| (shl64 ((b[pos] &&& (UInt8.ofNat 127)).toUInt64) (7 * i)),0,((pos + 1:Nat):Int))))))=z):=fun z=>by
     simp only [L105_2,L105_2c,h,decide_true,cond_true,e1,cond_false,hin,Option.bind_some,List.getElem?_eq_getElem hlt,hg,hc',decide_false,w2]
    have b0:(b[pos] == UInt8.ofNat 0)=decide (b[pos].toNat=0):=by
     rw [Bool.eq_iff_iff];simp only [beq_iff_eq,decide_eq_true_eq]
     exact ⟨fun h=>by rw [h];rfl,fun h=>UInt8.toNat_inj.1 (by rw [h];rfl)⟩
    have b1:decide (UInt8.ofNat 1 < b[pos])=decide (1 < b[pos].toNat):=rfl
    have i0:decide ((0:Int) < ((i:Nat):Int))=decide (0 < i):=by rw [Bool.eq_iff_iff];simp
    have i9:(((i:Nat):Int) == 9)=decide (i=9):=by rw [Bool.eq_iff_iff];simp;omega
    rw [b0,b1,i0,i9] at base
    by_cases c1:0 < i∧b[pos].toNat=0
    ·right
     rw [if_pos c1]
     exact ⟨rfl,.inr (bad ((base _).2 (by simp [c1.1,c1.2])))⟩
    ·rw [if_neg c1]
     by_cases c2:i=9∧1 < b[pos].toNat
     ·right
      rw [if_pos c2]
      have hz:¬ b[pos].toNat=0:=by omega
      exact ⟨rfl,.inr (bad ((base _).2 (by simp [c2.1,c2.2,hz])))⟩
     ·left
      rw [if_neg c2]
      refine ⟨_,_,rfl,good (fun h=>by omega) ((base _).2 ?_)⟩
      by_cases hi0:0 < i
      ·have hz:¬ b[pos].toNat=0:=fun h=>c1 ⟨hi0,h⟩
       by_cases hi9:i=9
       ·have:¬ 1 < b[pos].toNat:=fun h=>c2 ⟨hi9,h⟩
        simp [hi0,hz,hi9,this]
       ·simp [hi0,hz,hi9]
      ·have hi9:¬ i=9:=by omega
       simp [hi0,hi9]
theorem t90 {F:Nat} (hF:50 < F) (b:List UInt8) (hb:b.length < 1000000000) {pos:Nat} (hp:pos≤b.length) :
  (∃ v n,decS 0 (b.drop pos)=some (v,n)∧T105 F ((pos:Nat):Int) b=some (UInt64.ofNat v,0,((pos + n:Nat):Int))) ∨
  (decS 0 (b.drop pos)=none∧∃ p,T105 F ((pos:Nat):Int) b=some (UInt64.ofNat 0,3,p)):=by
 have z:((0:Nat):Int)=0:=rfl
 rcases l90 F b hb 10 0 F pos (UInt64.ofNat 0) (by omega) (by omega) (by decide) hp with ⟨v,n,h1,h2⟩ | ⟨h1,h2⟩
 ·left
  rw [z] at h2
  refine ⟨v,n,h1,?_⟩
  simp only [T105,T105c]
  rw [h2]
  simp [elimS]
 ·right
  rw [z] at h2
  refine ⟨h1,?_⟩
  rcases h2 with ⟨p,h2⟩ | ⟨p,h2⟩
  ·exact ⟨p,by simp only [T105,T105c];rw [h2];rfl⟩
  ·exact ⟨p,by simp only [T105,T105c];rw [h2];rfl⟩
abbrev Bs:=List UInt8
def eU (n:Int):Bs:=enc (UInt64.ofInt n).toNat
def eRf (r:Rf):Bs:=r.1 ++ (eU r.2.1 ++ eU r.2.2.1)
def eSt (id:Bs) (v b d t:Int) (refs:List Rf):Bs:=id ++ (eU v ++ (eU b ++ (eU d ++ (eU t ++ (eU (refs.length:Int) ++ refs.flatMap eRf)))))
theorem enc_10 (n:Nat):(enc n).length≤10:=(encN_len 9 n).1
theorem eU_10 (n:Int):(eU n).length≤10:=enc_10 _
theorem t_ext {F:Nat} (hF:50 < F) (x:UInt64) {l:Bs} (hl:l.length < 500000):T100 F x l=some (l ++ enc x.toNat):=by
 obtain ⟨y,pre,h1,h2,h3⟩:=l60 F 9 F x l (u64_lt x) (by omega) (by omega)
 simp only [T100,T100c]
 rw [h1]
 simp only [Option.bind_some]
 rw [gappn (by simp;omega),List.append_assoc,h2];rfl
theorem t_uint {F:Nat} (hF:50 < F) (n:Int) {l:Bs} (hl:l.length < 500000):T59 F (UInt64.ofInt n) 0 l=some (l ++ eU n):=by
 simp only [T59,T59c,beq_self_eq_true,cond_true,t_ext hF (UInt64.ofInt n) hl,Option.bind_some];rfl
theorem refs_len (refs:List Rf) (h:∀ r ∈ refs,r.1.length=32):(refs.flatMap eRf).length≤52 * refs.length:=by
 induction refs with
 | nil=>simp
 | cons r refs ih=>
  have h1:=h r (by simp)
  have h2:=eU_10 r.2.1
  have h3:=eU_10 r.2.2.1
  have:=ih fun r hr=>h r (by simp [hr])
  simp only [List.flatMap_cons,List.length_append,List.length_cons,eRf];omega
theorem w_ints {F:Nat} (hF:50 < F) (ns:List Int) (hn:ns.length≤10) (hF2:20 < F) {l:Bs} (hl:l.length≤1000):iter (fun s:Int×List UInt8=>L26_3 F (ns.length:Int) 0 ns s.1 s.2) F ((0:Int),l)=some (l ++ ns.flatMap eU):=by
 have hlen:∀ k:Nat,((ns.take k).flatMap eU).length≤10 * k:=by
  intro k
  induction k with
  | zero=>simp
  | succ k ih=>
   rw [List.take_add_one,List.flatMap_append,List.length_append]
   have:(List.flatMap eU ns[k]?.toList).length≤10:=by
    cases ns[k]? with
    | none=>simp
    | some x=>simp only [Option.toList_some,List.flatMap_cons,List.flatMap_nil,List.append_nil];exact eU_10 x
   omega
 obtain ⟨z,hz,hQ⟩:=iter1 (f:=fun s:Int×List UInt8=>L26_3 F (ns.length:Int) 0 ns s.1 s.2)
  (fun s=>∃ k:Nat,s.1=(k:Int)∧k≤ns.length∧s.2=l ++ (ns.take k).flatMap eU) (fun z=>z=l ++ ns.flatMap eU) (fun s=>ns.length - s.1.toNat) (fun s hs=>by
   obtain ⟨k,e,hk,ha⟩:=hs
   obtain ⟨s1,l1⟩:=s
   simp only at e ha
   subst e ha
   rcases Nat.lt_or_ge k ns.length with hlt | hge
   ·have hc1:((k:Nat):Int) < (ns.length:Int):=by omega
    have hr:ns[k]? = some ns[k]:=List.getElem?_eq_getElem hlt
    have hi:inb ns.length (k:Int)=some k:=inbn hlt
    generalize ns[k]=x at hr
    have hu:=t_uint hF x (l:=l ++ (ns.take k).flatMap eU) (by have:=hlen k;simp only [List.length_append];omega)
    exact .inl ⟨_,by simp only [L26_3,L26_3c,hc1,decide_true,cond_true,hi,hr,hu,Option.bind_some,w64n (show k < 9223372036854775807 by omega)];rfl,⟨k + 1,rfl,by omega,by rw [takeS' hr];simp [List.flatMap_append]⟩,by simp only [Int.toNat_natCast];omega⟩
   ·have hkn:k=ns.length:=by omega
    subst hkn
    refine .inr ⟨l ++ (ns.take ns.length).flatMap eU,?_,by rw [List.take_length]⟩
    simp only [L26_3,L26_3c,show ¬ ((ns.length:Int) < (ns.length:Int)) by omega,decide_false,cond_false])
  F ((0:Int),l) ⟨0,rfl,by omega,by simp⟩ (by simp;omega)
 subst hQ
 exact hz
theorem w_refs {F:Nat} (hF:2000 < F) {refs:List Rf} (hn:refs.length≤100) (h:∀ r ∈ refs,r.1.length=32) {l:Bs} (hl:l.length≤2000):iter (fun s:Int×Int×List UInt8=>L26_4 F refs (refs.length:Int) s.1 s.2.1 s.2.2) F ((0:Int),(0:Int),l)=some ((0:Int),l ++ refs.flatMap eRf):=by
 obtain ⟨z,hz,hQ⟩:=iter1 (f:=fun s:Int×Int×List UInt8=>L26_4 F refs (refs.length:Int) s.1 s.2.1 s.2.2)
  (fun s=>∃ k:Nat,s.1=(k:Int)∧k≤refs.length∧s.2=((0:Int),l ++ (refs.take k).flatMap eRf)) (fun z=>z=((0:Int),l ++ refs.flatMap eRf)) (fun s=>refs.length - s.1.toNat) (fun s hs=>by
   obtain ⟨k,e,hk,ha⟩:=hs
   obtain ⟨s1,l0,l1⟩:=s
   simp only [Prod.mk.injEq] at e ha
   obtain ⟨rfl,rfl⟩:=ha
   subst e
   rcases Nat.lt_or_ge k refs.length with hlt | hge
   ·have hc1:((k:Nat):Int) < (refs.length:Int):=by omega
    have hr:refs[k]? = some refs[k]:=List.getElem?_eq_getElem hlt
    have hix:=ixn hr
    have hx:=h _ (List.getElem_mem hlt)
    have hfl:=refs_len (refs.take k) (fun r hr=>h r (List.mem_of_mem_take hr))
    have htk:(refs.take k).length≤100:=by simp;omega
    generalize refs[k]=x at hr hix hx
    have hx':((x.1.length:Int) != 32)=false:=by rw [hx];rfl
    have hg:gapp (l ++ (refs.take k).flatMap eRf) x.1=some (l ++ (refs.take k).flatMap eRf ++ x.1):=gappn (by simp only [List.length_append];omega)
    have h1:=t_uint (F:=F) (by omega) x.2.1 (l:=l ++ (refs.take k).flatMap eRf ++ x.1) (by simp only [List.length_append];omega)
    have h9:=eU_10 x.2.1
    have h2:=t_uint (F:=F) (by omega) x.2.2.1 (l:=l ++ (refs.take k).flatMap eRf ++ x.1 ++ eU x.2.1) (by simp only [List.length_append];omega)
    have hs58:T58x1 F x.1 0 (l ++ (refs.take k).flatMap eRf)=some (0,l ++ (refs.take k).flatMap eRf ++ x.1):=by
     simp only [T58x1,T58x1c,bne_self_eq_false,cond_false,hx',hg,Option.bind_some]
    exact .inl ⟨_,by simp only [L26_4,L26_4c,hc1,decide_true,cond_true,hix,hs58,h1,h2,Option.bind_some,w64n (show k < 9223372036854775807 by omega)];rfl,⟨k + 1,rfl,by omega,by rw [takeS' hr];simp [List.flatMap_append,eRf]⟩,by simp only [Int.toNat_natCast];omega⟩
   ·have hkn:k=refs.length:=by omega
    subst hkn
    refine .inr ⟨((0:Int),l ++ (refs.take refs.length).flatMap eRf),?_,by rw [List.take_length]⟩
    simp only [L26_4,L26_4c,show ¬ ((refs.length:Int) < (refs.length:Int)) by omega,decide_false,cond_false])
  F ((0:Int),(0:Int),l) ⟨0,rfl,by omega,by simp⟩ (by simp;omega)
 subst hQ
 exact hz
theorem vRs_name {refs:List Rf} (h:vRs refs=true):∀ r ∈ refs,r.1.length=32:=fun r hr=>by
 have:=of_decide_eq_true (vF_all h r hr)
 have:=this.1
 omega
theorem encode30 {F:Nat} (hF:2000 < F) {id:Bs} {v b d t:Int} {refs:List Rf} (hl:refs.length≤1000):T26 F id v b d t refs=some (bif okS id v b d t refs then (0,eSt id v b d t refs) else (1,[])):=by
 have hck:=check_ok hF id v b d t hl
 simp only [T26,T26c,hck,Option.bind_some]
 cases hok:okS id v b d t refs with
 | false=>rfl
 | true=>
 unfold okS at hok
 simp only [Bool.and_eq_true] at hok
 obtain ⟨hp,hv,_⟩:=hok
 obtain ⟨q0,q1,q2,q3,q4,q5,q6,q7,q8⟩:=of_decide_eq_true hp
 have hnm:=vRs_name hv
 have e0:((id.length:Int) != 32)=false:=by rw [q0];rfl
 have g0:gapp ([]:List UInt8) id=some id:=gappn (by simp;omega)
 have h58:T58 F id 0=some (0,id):=by
  simp only [T58,T58c,bne_self_eq_false,cond_false,e0,g0,Option.bind_some]
 have h3:=w_ints (F:=F) (by omega) [v,b,d,t] (by simp) (by omega) (l:=id) (by omega)
 have a1:=eU_10 v
 have a2:=eU_10 b
 have a3:=eU_10 d
 have a4:=eU_10 t
 have a5:=eU_10 (refs.length:Int)
 have hfm:[v,b,d,t].flatMap eU=eU v ++ (eU b ++ (eU d ++ eU t)):=by simp
 rw [hfm] at h3
 have hu:=t_uint (F:=F) (by omega) (refs.length:Int) (l:=id ++ (eU v ++ (eU b ++ (eU d ++ eU t)))) (by simp only [List.length_append];omega)
 have n0:¬ (refs.length:Int) < 0:=by omega
 have h60:T60 F (refs.length:Int) 0 (id ++ (eU v ++ (eU b ++ (eU d ++ eU t))))=some (0,id ++ (eU v ++ (eU b ++ (eU d ++ eU t))) ++ eU (refs.length:Int)):=by
  simp only [T60,T60c,bne_self_eq_false,cond_false,n0,decide_false,hu,Option.bind_some]
 have h4:=w_refs (F:=F) hF (refs:=refs) (by omega) hnm (l:=id ++ (eU v ++ (eU b ++ (eU d ++ eU t))) ++ eU (refs.length:Int)) (by simp only [List.length_append];omega)
 have hrl:=refs_len refs hnm
 have n1:¬ (1048576:Int) < ((id ++ (eU v ++ (eU b ++ (eU d ++ eU t))) ++ eU (refs.length:Int) ++ refs.flatMap eRf).length:Int):=by
  simp only [List.length_append];omega
 have g1:gapp ([]:List UInt8) (id ++ (eU v ++ (eU b ++ (eU d ++ eU t))) ++ eU (refs.length:Int) ++ refs.flatMap eRf)=some (id ++ (eU v ++ (eU b ++ (eU d ++ eU t))) ++ eU (refs.length:Int) ++ refs.flatMap eRf):=gappn (by simp only [List.length_append,List.length_nil];omega)
 have h57:T57 F=some 0:=rfl
 simp only [cond_true,bne_self_eq_false,cond_false,h57,h58,h3,h60,h4,T61,T61c,n1,decide_false,g1,Option.bind_some]
 unfold eSt
 simp
theorem r_ints {F:Nat} (hF:50 < F) (ns:List Int) (hn:ns.length≤10) {l:Bs} (hl:l.length≤1000):iter (fun s:Int×List UInt8=>L28_3 F (ns.length:Int) ns s.1 s.2) F ((0:Int),l)=some (l ++ ns.flatMap eU):=by
 have hlen:∀ k:Nat,((ns.take k).flatMap eU).length≤10 * k:=by
  intro k
  induction k with
  | zero=>simp
  | succ k ih=>
   rw [List.take_add_one,List.flatMap_append,List.length_append]
   have:(List.flatMap eU ns[k]?.toList).length≤10:=by
    cases ns[k]? with
    | none=>simp
    | some x=>simp only [Option.toList_some,List.flatMap_cons,List.flatMap_nil,List.append_nil];exact eU_10 x
   omega
 obtain ⟨z,hz,hQ⟩:=iter1 (f:=fun s:Int×List UInt8=>L28_3 F (ns.length:Int) ns s.1 s.2)
  (fun s=>∃ k:Nat,s.1=(k:Int)∧k≤ns.length∧s.2=l ++ (ns.take k).flatMap eU) (fun z=>z=l ++ ns.flatMap eU) (fun s=>ns.length - s.1.toNat) (fun s hs=>by
   obtain ⟨k,e,hk,ha⟩:=hs
   obtain ⟨s1,l1⟩:=s
   simp only at e ha
   subst e ha
   rcases Nat.lt_or_ge k ns.length with hlt | hge
   ·have hc1:((k:Nat):Int) < (ns.length:Int):=by omega
    have hr:ns[k]? = some ns[k]:=List.getElem?_eq_getElem hlt
    have hi:inb ns.length (k:Int)=some k:=inbn hlt
    generalize ns[k]=x at hr
    have hu:T67 F (UInt64.ofInt x)=some (eU x):=t45' hF _
    have h10:=eU_10 x
    have hg:gapp (l ++ (ns.take k).flatMap eU) (eU x)=some (l ++ (ns.take k).flatMap eU ++ eU x):=gappn (by have:=hlen k;simp only [List.length_append];omega)
    exact .inl ⟨_,by simp only [L28_3,L28_3c,hc1,decide_true,cond_true,hi,hr,hu,hg,Option.bind_some,w64n (show k < 9223372036854775807 by omega)];rfl,⟨k + 1,rfl,by omega,by rw [takeS' hr];simp [List.flatMap_append]⟩,by simp only [Int.toNat_natCast];omega⟩
   ·have hkn:k=ns.length:=by omega
    subst hkn
    refine .inr ⟨l ++ (ns.take ns.length).flatMap eU,?_,by rw [List.take_length]⟩
    simp only [L28_3,L28_3c,show ¬ ((ns.length:Int) < (ns.length:Int)) by omega,decide_false,cond_false])
  F ((0:Int),l) ⟨0,rfl,by omega,by simp⟩ (by simp;omega)
 subst hQ
 exact hz
theorem r_refs {F:Nat} (hF:2000 < F) {refs:List Rf} (hn:refs.length≤100) (h:∀ r ∈ refs,r.1.length=32) {l:Bs} (hl:l.length≤2000):iter (fun s:Int×List UInt8=>L28_4 F refs (refs.length:Int) s.1 s.2) F ((0:Int),l)=some (l ++ refs.flatMap eRf):=by
 obtain ⟨z,hz,hQ⟩:=iter1 (f:=fun s:Int×List UInt8=>L28_4 F refs (refs.length:Int) s.1 s.2)
  (fun s=>∃ k:Nat,s.1=(k:Int)∧k≤refs.length∧s.2=l ++ (refs.take k).flatMap eRf) (fun z=>z=l ++ refs.flatMap eRf) (fun s=>refs.length - s.1.toNat) (fun s hs=>by
   obtain ⟨k,e,hk,ha⟩:=hs
   obtain ⟨s1,l1⟩:=s
   simp only at e ha
   subst e ha
   rcases Nat.lt_or_ge k refs.length with hlt | hge
   ·have hc1:((k:Nat):Int) < (refs.length:Int):=by omega
    have hr:refs[k]? = some refs[k]:=List.getElem?_eq_getElem hlt
    have hix:=ixn hr
    have hx:=h _ (List.getElem_mem hlt)
    have hfl:=refs_len (refs.take k) (fun r hr=>h r (List.mem_of_mem_take hr))
    have htk:(refs.take k).length≤100:=by simp;omega
    generalize refs[k]=x at hr hix hx
    have h8:=eU_10 x.2.1
    have h9:=eU_10 x.2.2.1
    have hg:gapp (l ++ (refs.take k).flatMap eRf) x.1=some (l ++ (refs.take k).flatMap eRf ++ x.1):=gappn (by simp only [List.length_append];omega)
    have hu1:T67 F (UInt64.ofInt x.2.1)=some (eU x.2.1):=t45' (by omega) _
    have hu2:T67 F (UInt64.ofInt x.2.2.1)=some (eU x.2.2.1):=t45' (by omega) _
    have hg1:gapp (l ++ (refs.take k).flatMap eRf ++ x.1) (eU x.2.1)=some (l ++ (refs.take k).flatMap eRf ++ x.1 ++ eU x.2.1):=gappn (by simp only [List.length_append];omega)
    have hg2:gapp (l ++ (refs.take k).flatMap eRf ++ x.1 ++ eU x.2.1) (eU x.2.2.1)=some (l ++ (refs.take k).flatMap eRf ++ x.1 ++ eU x.2.1 ++ eU x.2.2.1):=gappn (by simp only [List.length_append];omega)
    exact .inl ⟨_,by simp only [L28_4,L28_4c,hc1,decide_true,cond_true,hix,hg,hu1,hg1,hu2,hg2,Option.bind_some,w64n (show k < 9223372036854775807 by omega)];rfl,⟨k + 1,rfl,by omega,by rw [takeS' hr];simp [List.flatMap_append,eRf]⟩,by simp only [Int.toNat_natCast];omega⟩
   ·have hkn:k=refs.length:=by omega
    subst hkn
    refine .inr ⟨l ++ (refs.take refs.length).flatMap eRf,?_,by rw [List.take_length]⟩
    simp only [L28_4,L28_4c,show ¬ ((refs.length:Int) < (refs.length:Int)) by omega,decide_false,cond_false])
  F ((0:Int),l) ⟨0,rfl,by omega,by simp⟩ (by simp;omega)
 subst hQ
 exact hz
theorem rencode30 {F:Nat} (hF:2000 < F) {id:Bs} {v b d t:Int} {refs:List Rf} (hok:okS id v b d t refs=true):T28 F id v b d t refs=some (eSt id v b d t refs):=by
 unfold okS at hok
 simp only [Bool.and_eq_true] at hok
 obtain ⟨hp,hv,_⟩:=hok
 obtain ⟨q0,q1,q2,q3,q4,q5,q6,q7,q8⟩:=of_decide_eq_true hp
 have hnm:=vRs_name hv
 have gs:gstr id=some id:=by unfold gstr;rw [if_pos (by omega)]
 have h3:=r_ints (F:=F) (by omega) [v,b,d,t,(refs.length:Int)] (by simp) (l:=id) (by omega)
 have a1:=eU_10 v
 have a2:=eU_10 b
 have a3:=eU_10 d
 have a4:=eU_10 t
 have a5:=eU_10 (refs.length:Int)
 have hfm:[v,b,d,t,(refs.length:Int)].flatMap eU=eU v ++ (eU b ++ (eU d ++ (eU t ++ eU (refs.length:Int)))):=by simp
 rw [hfm] at h3
 have h4:=r_refs (F:=F) hF (refs:=refs) (by omega) hnm (l:=id ++ (eU v ++ (eU b ++ (eU d ++ (eU t ++ eU (refs.length:Int)))))) (by simp only [List.length_append];omega)
 simp only [T28,T28c,gs,h3,h4,Option.bind_some]
 unfold eSt
 simp
end Go.Proofs.YtpnhgldpeiogbaaGreatDoor
