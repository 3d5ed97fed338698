/- The functions, each with its twin, and plain facts about them. -/
import Derived.Test.YthikoaamigiceaaGreatDoorRB
import Derived.Test.YthikoaamigiceaaGreatDoorRSGr80
import Derived.Test.YthikoaamigiceaaGreatDoorRSIt94
import Derived.Test.YthikoaamigiceaaGreatDoorRSIt57
namespace Go.Proofs.YthikoaamigiceaaGreatDoor
open Go.Tw
set_option linter.unusedSimpArgs false
set_option linter.unusedVariables false
abbrev Zl:Type:=Vector UInt8 16
abbrev Zk:Type:=List Int
abbrev Zj:Type:=Vector UInt32 64
abbrev Zg:Type:=Vector UInt8 64
abbrev Ze:Type:=Vector UInt32 8
abbrev Za:Type:=List UInt8
abbrev Zm:Type:=List Za
abbrev Zh:Type:=Int×Za
abbrev Zc:Type:=Za×Int×Int×Unit
abbrev Zf:Type:=Za×Int×Int×Int×Int×(List Zc)×Unit
abbrev Zd:Type:=Int×Int×Int×Zc×Int×Int×Za×Bool×Unit
abbrev Zb:Type:=Int×Za×Unit
abbrev Zi:Type:=List Zb
theorem oA {α β γ:Type} (x:Option α) (f:α->Option β) (g:β->Option γ):(x.bind f).bind g=x.bind fun y=>(f y).bind g:=Option.bind_assoc x f g
theorem oC {α β:Type} (c:Bool) (x y:Option α) (k:α->Option β):(bif c then x else y).bind k=bif c then x.bind k else y.bind k:=cond_bind c x y k
theorem oS {α β:Type} (a:α) (f:α->Option β):(some a).bind f=f a:=rfl
theorem oN {α β:Type} (f:α->Option β):(none:Option α).bind f=none:=rfl
def E13 (F:Nat):Ev:=⟨cfg,10,ctOf [],fun _=>[],ctOf [],fun _=>none,fun _=>none⟩
theorem cts13 (F:Nat):CtsOk Tryz.prog (E13 F):=cts_of (l:=[]) (l':=[]) rfl rfl trivial trivial
def T13c (F:Nat) (p0:UInt8) {β:Type} (k:(Za)->Option β):Option β:=
 (Option.bind (gmake (0:UInt8) (32:Int) (32:Int)) fun x3=>(Option.bind (inb x3.length (0:Int)) fun x4=>(k (List.set x3 x4 p0))))
def T13 (F:Nat) (p0:UInt8):=T13c F p0 some
def ct13 (F:Nat):Ct:=mkC 0 [.u8] [] [.str] [] (fun x y=>T13 F x.1) (fun x y (z:Za)=>((z,()),()))
theorem ok13 (F:Nat):Sound Tryz.prog cfg 13 (ct13 F):=
 mkC_ok (E:=E13 F) (lp:=[]) (code:=bodyOf Tryz.f13) Tryz.func13 rfl Tryz.ntmps13 rfl rfl cok (cts13 F) mixed trivial (by kernel_rfl) (fun x y k=>T13c F x.1 k) (fun _ _ _=>by simp only [T13,T13c,oA,oC,oS,oN,elimS_bind]) (fun _ _=>by kernel_rfl)
def E175 (F:Nat):Ev:=⟨cfg,4,ctOf [],fun _=>[],ctOf [],fun _=>none,fun _=>none⟩
theorem cts175 (F:Nat):CtsOk Tryz.prog (E175 F):=cts_of (l:=[]) (l':=[]) rfl rfl trivial trivial
def T175c (F:Nat) {β:Type} (k:(Ze×Zg×Int)->Option β):Option β:=
 (k ((gv1),(Vector.replicate 64 (0:UInt8)),(0:Int)))
def T175 (F:Nat):=T175c F some
def ct175 (F:Nat):Ct:=mkC 0 [] [] [(.pt 0 [])] [.blk 223 (.pr (.ar 8 .u32) (.pr (.ar 64 .u8) (.pr .i .un)))] (fun x y=>T175 F) (fun x y (z:Ze×Zg×Int)=>(((),()),((z.1,z.2.1,z.2.2,()),())))
theorem ok175 (F:Nat):Sound Tryz.prog cfg 175 (ct175 F):=
 mkC_ok (E:=E175 F) (lp:=[]) (code:=bodyOf Tryz.f175) Tryz.func175 rfl Tryz.ntmps175 rfl rfl cok (cts175 F) mixed trivial (by kernel_rfl) (fun x y k=>T175c F k) (fun _ _ _=>by simp only [T175,T175c,oA,oC,oS,oN,elimS_bind]) (fun _ _=>by kernel_rfl)
def E201 (F:Nat):Ev:=⟨cfg,17,ctOf [],fun _=>[],ctOf [],fun _=>none,fun _=>none⟩
theorem cts201 (F:Nat):CtsOk Tryz.prog (E201 F):=cts_of (l:=[]) (l':=[]) rfl rfl trivial trivial
def T201c (F:Nat) (p0:UInt32) (p1:Int) {β:Type} (k:UInt32->Option β):Option β:=
 (k ((shl32 p0 (((UInt64.ofInt p1) &&& (UInt64.ofNat 31)).toNat)) ||| (shr32 p0 (((UInt64.ofNat 32) - ((UInt64.ofInt p1) &&& (UInt64.ofNat 31))).toNat))))
def T201 (F:Nat) (p0:UInt32) (p1:Int):=T201c F p0 p1 some
def ct201 (F:Nat):Ct:=mkC 0 [.u32,.i] [] [.u32] [] (fun x y=>T201 F x.1 x.2.1) (fun x y (z:UInt32)=>((z,()),()))
theorem ok201 (F:Nat):Sound Tryz.prog cfg 201 (ct201 F):=
 mkC_ok (E:=E201 F) (lp:=[]) (code:=bodyOf Tryz.f201) Tryz.func201 rfl Tryz.ntmps201 rfl rfl cok (cts201 F) mixed trivial (by kernel_rfl) (fun x y k=>T201c F x.1 x.2.1 k) (fun _ _ _=>by simp only [T201,T201c,oA,oC,oS,oN,elimS_bind]) (fun _ _=>by kernel_rfl)
def ord200:Nat->List (Tag×Nat)
 | 6=>[(.p,0),(.p,1),(.p,2),(.r,3),(.p,4),(.p,5),(.p,6),(.p,7),(.r,8),(.p,9),(.p,10),(.p,11),(.p,12),(.p,13),(.r,14),(.p,15),(.p,16),(.p,17),(.p,18),(.p,19),(.r,20),(.p,21),(.p,22),(.p,23),(.w,24)]
 | 7=>[(.p,0),(.p,1),(.p,2),(.r,3),(.p,4),(.p,5),(.p,6),(.r,7),(.p,8),(.p,9)]
 | 10=>[(.p,0),(.p,1),(.p,2),(.p,3),(.p,4),(.r,5),(.p,6),(.p,7),(.p,8),(.p,9),(.p,10),(.p,11),(.r,12),(.p,13),(.p,14),(.w,15)]
 | 13=>[(.p,0),(.r,1),(.p,2),(.r,3),(.p,4),(.r,5),(.p,6),(.r,7),(.p,8),(.r,9),(.p,10),(.r,11),(.p,12),(.r,13),(.p,14),(.r,15),(.p,16),(.p,17),(.p,18),(.p,19),(.p,20),(.p,21),(.p,22),(.p,23)]
 | 19=>[(.p,0),(.p,1),(.p,2),(.p,3),(.p,4),(.p,5),(.p,6),(.p,7),(.p,8),(.p,9),(.p,10),(.p,11),(.p,12),(.p,13),(.r,14),(.p,15),(.p,16),(.p,17),(.r,18),(.p,19),(.p,20)]
 | 26=>[(.p,0),(.p,1),(.p,2),(.p,3),(.r,4),(.p,5),(.p,6),(.p,7),(.p,8),(.p,9),(.w,10)]
 | _=>[]
def E200 (F:Nat):Ev:=⟨cfg,212,ctOf [(201,ct201 F)],ord200,ctOf [],fun _=>none,fun _=>none⟩
theorem cts200 (F:Nat):CtsOk Tryz.prog (E200 F):=cts_of (l:=[(201,ct201 F)]) (l':=[]) rfl rfl ⟨⟨ok201 F,_,Tryz.func201,rfl,rfl⟩,trivial⟩ trivial
def L200_4c (F:Nat) (y113:Vector UInt8 64) (y110:Nat×Nat) (y111:Int) (y115:Vector UInt32 64) {β:Type} (kA:((Nat×Nat)×Int×Zj)->Option β) (kO:(Zj)->Option β):Option β:=
 (bif (decide (y111 < (64:Int))) then (bif (decide (y111 < (16:Int))) then (Option.bind (gslb (y110.2 - y110.1) (w64 ((4:Int) * y111)) (w64 ((w64 ((4:Int) * y111)) + (4:Int)))) fun x139=>(Option.bind (inb ((y110.1 + x139.2) - (y110.1 + x139.1)) (0:Int)) fun x140=>(Option.bind (vat y113 ((y110.1 + x139.1) + x140)) fun x141=>(Option.bind (inb ((y110.1 + x139.2) - (y110.1 + x139.1)) (1:Int)) fun x142=>(Option.bind (vat y113 ((y110.1 + x139.1) + x142)) fun x143=>(Option.bind (inb ((y110.1 + x139.2) - (y110.1 + x139.1)) (2:Int)) fun x144=>(Option.bind (vat y113 ((y110.1 + x139.1) + x144)) fun x145=>(Option.bind (inb ((y110.1 + x139.2) - (y110.1 + x139.1)) (3:Int)) fun x146=>(Option.bind (vat y113 ((y110.1 + x139.1) + x146)) fun x147=>(Option.bind (inb 64 y111) fun x148=>(kA ((y110.1,y110.2),(w64 (y111 + (1:Int))),(Vector.setIfInBounds y115 x148 ((((shl32 (x141.toUInt32) ((UInt64.ofNat 24).toNat)) ||| (shl32 (x143.toUInt32) ((UInt64.ofNat 16).toNat))) ||| (shl32 (x145.toUInt32) ((UInt64.ofNat 8).toNat))) ||| (x147.toUInt32))))))))))))))) else (Option.bind (inb 64 (w64 (y111 - (2:Int)))) fun x149=>(Option.bind (vat y115 x149) fun x150=>(Option.bind (inb 64 (w64 (y111 - (15:Int)))) fun x151=>(Option.bind (vat y115 x151) fun x152=>(Option.bind (T201 F x150 (-17:Int)) fun z153=>(Option.bind (T201 F x150 (-19:Int)) fun z154=>(Option.bind (T201 F x152 (-7:Int)) fun z155=>(Option.bind (T201 F x152 (-18:Int)) fun z156=>(Option.bind (inb 64 (w64 (y111 - (7:Int)))) fun x157=>(Option.bind (vat y115 x157) fun x158=>(Option.bind (inb 64 (w64 (y111 - (16:Int)))) fun x159=>(Option.bind (vat y115 x159) fun x160=>(Option.bind (inb 64 y111) fun x161=>(kA ((y110.1,y110.2),(w64 (y111 + (1:Int))),(Vector.setIfInBounds y115 x161 (((((z153 ^^^ z154) ^^^ (shr32 x150 ((UInt64.ofNat 10).toNat))) + x158) + ((z155 ^^^ z156) ^^^ (shr32 x152 ((UInt64.ofNat 3).toNat)))) + x160)))))))))))))))))) else (kO y115))
def L200_4 (F:Nat) (y113:Vector UInt8 64) (y110:Nat×Nat) (y111:Int) (y115:Vector UInt32 64):=L200_4c F y113 y110 y111 y115 (fun s=>some (Sum.inl s)) (fun z=>some (Sum.inr z))
def lc200_4 (F:Nat):Lc:=mkL [0,1,4,27] [(.pt 0 []),(.ap 0 [1]),(.pt 1 []),.i] [.blk 223 (.pr (.ar 8 .u32) (.pr (.ar 64 .u8) (.pr .i .un))),.blk 231 (.ar 64 .u32)] [0,4] [(.pt 0 []),(.pt 1 [])] [.blk 223 (.pr (.ar 8 .u32) (.pr (.ar 64 .u8) (.pr .i .un))),.blk 231 (.ar 64 .u32)] F (fun x y (s:(Nat×Nat)×Int×Zj)=>L200_4 F y.1.2.1 s.1 s.2.1 s.2.2) (fun x y=>(x.2.1,x.2.2.2.1,y.2.1)) (fun x y (z:Zj)=>(((),(),()),((y.1.1,y.1.2.1,y.1.2.2.1,()),z,())))
theorem lo200_4 (F:Nat):LcOk Tryz.prog (E200 F) 1 (lc200_4 F) (cAt (bodyOf Tryz.f200) [1,0,1]):=
 mkL_ok (lp:=[]) (id:=0) (b:=cAt (bodyOf Tryz.f200) (0 :: 0 :: [1,0,1])) cok (cts200 F) mixed trivial (by kernel_rfl) (by kernel_rfl) (fun x y s=>((),s.1,(),s.2.1,())) (fun x y s=>((y.1.1,y.1.2.1,y.1.2.2.1,()),s.2.2,())) (fun x y=>rfl) (fun x y=>rfl) (fun x y s kA kO=>L200_4c F y.1.2.1 s.1 s.2.1 s.2.2 kA kO) (fun _ _ _ _ _=>by simp only [L200_4,L200_4c,oA,oC,oS,oN,elimS_l,elimS_r,elimS_bind]) (fun _ _ _=>by kernel_rfl)
def L200_5c (F:Nat) (y183:Vector UInt32 64) (y171:UInt32) (y172:UInt32) (y173:UInt32) (y174:UInt32) (y175:UInt32) (y176:UInt32) (y177:UInt32) (y178:UInt32) (y179:Int) {β:Type} (kA:(UInt32×UInt32×UInt32×UInt32×UInt32×UInt32×UInt32×UInt32×Int)->Option β) (kO:(UInt32×UInt32×UInt32×UInt32×UInt32×UInt32×UInt32×UInt32)->Option β):Option β:=
 (bif (decide (y179 < (64:Int))) then (Option.bind (T201 F y175 (-6:Int)) fun z194=>(Option.bind (T201 F y175 (-11:Int)) fun z195=>(Option.bind (T201 F y175 (-25:Int)) fun z196=>(Option.bind (T201 F y171 (-2:Int)) fun z197=>(Option.bind (T201 F y171 (-13:Int)) fun z198=>(Option.bind (T201 F y171 (-22:Int)) fun z199=>(Option.bind (vix (gv2) y179) fun x200=>(Option.bind (inb 64 y179) fun x201=>(Option.bind (vat y183 x201) fun x202=>(kA ((((((y178 + ((z194 ^^^ z195) ^^^ z196)) + ((y175 &&& y176) ^^^ ((~~~y175) &&& y177))) + x200) + x202) + (((z197 ^^^ z198) ^^^ z199) + (((y171 &&& y172) ^^^ (y171 &&& y173)) ^^^ (y172 &&& y173)))),y171,y172,y173,(y174 + ((((y178 + ((z194 ^^^ z195) ^^^ z196)) + ((y175 &&& y176) ^^^ ((~~~y175) &&& y177))) + x200) + x202)),y175,y176,y177,(w64 (y179 + (1:Int)))))))))))))) else (kO (y171,y172,y173,y174,y175,y176,y177,y178)))
def L200_5 (F:Nat) (y183:Vector UInt32 64) (y171:UInt32) (y172:UInt32) (y173:UInt32) (y174:UInt32) (y175:UInt32) (y176:UInt32) (y177:UInt32) (y178:UInt32) (y179:Int):=L200_5c F y183 y171 y172 y173 y174 y175 y176 y177 y178 y179 (fun s=>some (Sum.inl s)) (fun z=>some (Sum.inr z))
def lc200_5 (F:Nat):Lc:=mkL [0,4,11,12,13,14,15,16,17,18,19,123] [(.pt 0 []),(.pt 1 []),(.pt 2 []),.u32,.u32,.u32,.u32,.u32,.u32,.u32,.u32,.i] [.blk 223 (.pr (.ar 8 .u32) (.pr (.ar 64 .u8) (.pr .i .un))),.blk 231 (.ar 64 .u32),.blk 192 (.ar 8 .u32)] [0,11,12,13,14,15,16,17,18,19] [(.pt 0 []),(.pt 1 []),.u32,.u32,.u32,.u32,.u32,.u32,.u32,.u32] [.blk 223 (.pr (.ar 8 .u32) (.pr (.ar 64 .u8) (.pr .i .un))),.blk 192 (.ar 8 .u32)] F (fun x y (s:UInt32×UInt32×UInt32×UInt32×UInt32×UInt32×UInt32×UInt32×Int)=>L200_5 F y.2.1 s.1 s.2.1 s.2.2.1 s.2.2.2.1 s.2.2.2.2.1 s.2.2.2.2.2.1 s.2.2.2.2.2.2.1 s.2.2.2.2.2.2.2.1 s.2.2.2.2.2.2.2.2) (fun x y=>(x.2.2.2.1,x.2.2.2.2.1,x.2.2.2.2.2.1,x.2.2.2.2.2.2.1,x.2.2.2.2.2.2.2.1,x.2.2.2.2.2.2.2.2.1,x.2.2.2.2.2.2.2.2.2.1,x.2.2.2.2.2.2.2.2.2.2.1,x.2.2.2.2.2.2.2.2.2.2.2.1)) (fun x y (z:UInt32×UInt32×UInt32×UInt32×UInt32×UInt32×UInt32×UInt32)=>(((),(),z.1,z.2.1,z.2.2.1,z.2.2.2.1,z.2.2.2.2.1,z.2.2.2.2.2.1,z.2.2.2.2.2.2.1,z.2.2.2.2.2.2.2,()),((y.1.1,y.1.2.1,y.1.2.2.1,()),y.2.2.1,())))
theorem lo200_5 (F:Nat):LcOk Tryz.prog (E200 F) 1 (lc200_5 F) (cAt (bodyOf Tryz.f200) [1,0,1,1,1,1]):=
 mkL_ok (lp:=[]) (id:=2) (b:=cAt (bodyOf Tryz.f200) (0 :: 0 :: [1,0,1,1,1,1])) cok (cts200 F) mixed trivial (by kernel_rfl) (by kernel_rfl) (fun x y s=>((),(),(),s.1,s.2.1,s.2.2.1,s.2.2.2.1,s.2.2.2.2.1,s.2.2.2.2.2.1,s.2.2.2.2.2.2.1,s.2.2.2.2.2.2.2.1,s.2.2.2.2.2.2.2.2,())) (fun x y s=>((y.1.1,y.1.2.1,y.1.2.2.1,()),y.2.1,y.2.2.1,())) (fun x y=>rfl) (fun x y=>rfl) (fun x y s kA kO=>L200_5c F y.2.1 s.1 s.2.1 s.2.2.1 s.2.2.2.1 s.2.2.2.2.1 s.2.2.2.2.2.1 s.2.2.2.2.2.2.1 s.2.2.2.2.2.2.2.1 s.2.2.2.2.2.2.2.2 kA kO) (fun _ _ _ _ _=>by simp only [L200_5,L200_5c,oA,oC,oS,oN,elimS_l,elimS_r,elimS_bind]) (fun _ _ _=>by kernel_rfl)
def L200_6c (F:Nat) (y204:Vector UInt32 8) (y209:Vector UInt32 8) (y205:Int) (y206:Vector UInt32 8) {β:Type} (kA:(Int×Ze)->Option β) (kO:(Ze)->Option β):Option β:=
 (bif (decide (y205 < (8:Int))) then (Option.bind (vix y204 y205) fun x214=>(Option.bind (inb 8 y205) fun x215=>(Option.bind (vat y209 x215) fun x216=>(Option.bind (inb 8 y205) fun x217=>(kA ((w64 (y205 + (1:Int))),(Vector.setIfInBounds y206 x217 (x216 + x214)))))))) else (kO y206))
def L200_6 (F:Nat) (y204:Vector UInt32 8) (y209:Vector UInt32 8) (y205:Int) (y206:Vector UInt32 8):=L200_6c F y204 y209 y205 y206 (fun s=>some (Sum.inl s)) (fun z=>some (Sum.inr z))
def lc200_6 (F:Nat):Lc:=mkL [0,11,196,197] [(.pt 0 []),(.pt 1 []),(.ar 8 .u32),.i] [.blk 223 (.pr (.ar 8 .u32) (.pr (.ar 64 .u8) (.pr .i .un))),.blk 192 (.ar 8 .u32)] [] [] [.blk 223 (.pr (.ar 8 .u32) (.pr (.ar 64 .u8) (.pr .i .un)))] F (fun x y (s:Int×Ze)=>L200_6 F x.2.2.1 y.2.1 s.1 s.2) (fun x y=>(x.2.2.2.1,y.1.1)) (fun x y (z:Ze)=>((),((z,y.1.2.1,y.1.2.2.1,()),())))
theorem lo200_6 (F:Nat):LcOk Tryz.prog (E200 F) 1 (lc200_6 F) (cAt (bodyOf Tryz.f200) [1,1,1,1,1,1]):=
 mkL_ok (lp:=[]) (id:=4) (b:=cAt (bodyOf Tryz.f200) (0 :: 0 :: [1,1,1,1,1,1])) cok (cts200 F) mixed trivial (by kernel_rfl) (by kernel_rfl) (fun x y s=>((),(),x.2.2.1,s.1,())) (fun x y s=>((s.2,y.1.2.1,y.1.2.2.1,()),y.2.1,())) (fun x y=>rfl) (fun x y=>rfl) (fun x y s kA kO=>L200_6c F x.2.2.1 y.2.1 s.1 s.2 kA kO) (fun _ _ _ _ _=>by simp only [L200_6,L200_6c,oA,oC,oS,oN,elimS_l,elimS_r,elimS_bind]) (fun _ _ _=>by kernel_rfl)
def T200c (F:Nat) (p0:Nat×Nat) (p1:Vector UInt32 8) (p2:Vector UInt8 64) {β:Type} (k:(Ze)->Option β):Option β:=
 (Option.bind (iter (fun s=>L200_4 F p2 s.1 s.2.1 s.2.2) F ((p0.1,p0.2),(0:Int),(Vector.replicate 64 (0:UInt32)))) fun z162=>(Option.bind (vat p1 0) fun x163=>(Option.bind (vat p1 1) fun x164=>(Option.bind (vat p1 2) fun x165=>(Option.bind (vat p1 3) fun x166=>(Option.bind (vat p1 4) fun x167=>(Option.bind (vat p1 5) fun x168=>(Option.bind (vat p1 6) fun x169=>(Option.bind (vat p1 7) fun x170=>(Option.bind (iter (fun s=>L200_5 F z162 s.1 s.2.1 s.2.2.1 s.2.2.2.1 s.2.2.2.2.1 s.2.2.2.2.2.1 s.2.2.2.2.2.2.1 s.2.2.2.2.2.2.2.1 s.2.2.2.2.2.2.2.2) F (x163,x164,x165,x166,x167,x168,x169,x170,(0:Int))) fun z203=>(Option.bind (iter (fun s=>L200_6 F (#v[z203.1,z203.2.1,z203.2.2.1,z203.2.2.2.1,z203.2.2.2.2.1,z203.2.2.2.2.2.1,z203.2.2.2.2.2.2.1,z203.2.2.2.2.2.2.2]:Vector UInt32 8) p1 s.1 s.2) F ((0:Int),p1)) fun z218=>(k z218))))))))))))
def T200 (F:Nat) (p0:Nat×Nat) (p1:Vector UInt32 8) (p2:Vector UInt8 64):=T200c F p0 p1 p2 some
def ct200 (F:Nat):Ct:=mkC 1 [(.pt 0 []),(.ap 0 [1])] [.blk 223 (.pr (.ar 8 .u32) (.pr (.ar 64 .u8) (.pr .i .un)))] [] [.blk 223 (.pr (.ar 8 .u32) (.pr (.ar 64 .u8) (.pr .i .un)))] (fun x y=>T200 F x.2.1 y.1.1 y.1.2.1) (fun x y (z:Ze)=>((),((z,y.1.2.1,y.1.2.2.1,()),())))
theorem ok200 (F:Nat):Sound Tryz.prog cfg 200 (ct200 F):=
 mkC_ok (E:=E200 F) (lp:=[([1,0,1],lc200_4 F),([1,0,1,1,1,1],lc200_5 F),([1,1,1,1,1,1],lc200_6 F)]) (code:=bodyOf Tryz.f200) Tryz.func200 rfl Tryz.ntmps200 rfl rfl cok (cts200 F) mixed ⟨lo200_4 F,⟨lo200_5 F,⟨lo200_6 F,trivial⟩⟩⟩ (by kernel_rfl) (fun x y k=>T200c F x.2.1 y.1.1 y.1.2.1 k) (fun _ _ _=>by simp only [T200,T200c,oA,oC,oS,oN,elimS_bind]) (fun _ _=>by kernel_rfl)
def ord200x1:Nat->List (Tag×Nat)
 | 6=>[(.p,0),(.p,1),(.p,2),(.r,3),(.p,4),(.p,5),(.p,6),(.p,7),(.r,8),(.p,9),(.p,10),(.p,11),(.p,12),(.p,13),(.r,14),(.p,15),(.p,16),(.p,17),(.p,18),(.p,19),(.r,20),(.p,21),(.p,22),(.p,23),(.w,24)]
 | 7=>[(.p,0),(.p,1),(.p,2),(.r,3),(.p,4),(.p,5),(.p,6),(.r,7),(.p,8),(.p,9)]
 | 10=>[(.p,0),(.p,1),(.p,2),(.p,3),(.p,4),(.r,5),(.p,6),(.p,7),(.p,8),(.p,9),(.p,10),(.p,11),(.r,12),(.p,13),(.p,14),(.w,15)]
 | 13=>[(.p,0),(.r,1),(.p,2),(.r,3),(.p,4),(.r,5),(.p,6),(.r,7),(.p,8),(.r,9),(.p,10),(.r,11),(.p,12),(.r,13),(.p,14),(.r,15),(.p,16),(.p,17),(.p,18),(.p,19),(.p,20),(.p,21),(.p,22),(.p,23)]
 | 19=>[(.p,0),(.p,1),(.p,2),(.p,3),(.p,4),(.p,5),(.p,6),(.p,7),(.p,8),(.p,9),(.p,10),(.p,11),(.p,12),(.p,13),(.r,14),(.p,15),(.p,16),(.p,17),(.r,18),(.p,19),(.p,20)]
 | 26=>[(.p,0),(.p,1),(.p,2),(.p,3),(.r,4),(.p,5),(.p,6),(.p,7),(.p,8),(.p,9),(.w,10)]
 | _=>[]
def al200x1:Nat->Option Nat
 | _=>none
def ms200x1:Nat->Option (List (Option Tag×Nat×List Nat))
 | _=>none
def E200x1 (F:Nat):Ev:=⟨cfg,212,ctOf [(201,ct201 F)],ord200x1,ctOf [],al200x1,ms200x1⟩
theorem cts200x1 (F:Nat):CtsOk Tryz.prog (E200x1 F):=cts_of (l:=[(201,ct201 F)]) (l':=[]) rfl rfl ⟨⟨ok201 F,_,Tryz.func201,rfl,rfl⟩,trivial⟩ trivial
def L200x1_4c (F:Nat) (y102:List UInt8) (y103:Int) (y107:Vector UInt32 64) {β:Type} (kA:(Int×(Vector UInt32 64))->Option β) (kO:((Vector UInt32 64))->Option β):Option β:=
 (bif (decide (y103 < (64:Int))) then (bif (decide (y103 < (16:Int))) then (Option.bind (gsl y102 (w64 ((4:Int) * y103)) (w64 ((w64 ((4:Int) * y103)) + (4:Int)))) fun x127=>(Option.bind (ix x127 (0:Int)) fun x128=>(Option.bind (ix x127 (1:Int)) fun x129=>(Option.bind (ix x127 (2:Int)) fun x130=>(Option.bind (ix x127 (3:Int)) fun x131=>(Option.bind (inb 64 y103) fun x132=>(kA ((w64 (y103 + (1:Int))),(Vector.setIfInBounds y107 x132 ((((shl32 (x128.toUInt32) ((UInt64.ofNat 24).toNat)) ||| (shl32 (x129.toUInt32) ((UInt64.ofNat 16).toNat))) ||| (shl32 (x130.toUInt32) ((UInt64.ofNat 8).toNat))) ||| (x131.toUInt32))))))))))) else (Option.bind (inb 64 (w64 (y103 - (2:Int)))) fun x133=>(Option.bind (vat y107 x133) fun x134=>(Option.bind (inb 64 (w64 (y103 - (15:Int)))) fun x135=>(Option.bind (vat y107 x135) fun x136=>(Option.bind (T201 F x134 (-17:Int)) fun z137=>(Option.bind (T201 F x134 (-19:Int)) fun z138=>(Option.bind (T201 F x136 (-7:Int)) fun z139=>(Option.bind (T201 F x136 (-18:Int)) fun z140=>(Option.bind (inb 64 (w64 (y103 - (7:Int)))) fun x141=>(Option.bind (vat y107 x141) fun x142=>(Option.bind (inb 64 (w64 (y103 - (16:Int)))) fun x143=>(Option.bind (vat y107 x143) fun x144=>(Option.bind (inb 64 y103) fun x145=>(kA ((w64 (y103 + (1:Int))),(Vector.setIfInBounds y107 x145 (((((z137 ^^^ z138) ^^^ (shr32 x134 ((UInt64.ofNat 10).toNat))) + x142) + ((z139 ^^^ z140) ^^^ (shr32 x136 ((UInt64.ofNat 3).toNat)))) + x144)))))))))))))))))) else (kO y107))
def L200x1_4 (F:Nat) (y102:List UInt8) (y103:Int) (y107:Vector UInt32 64):Option ((Int×(Vector UInt32 64)) ⊕ ((Vector UInt32 64))):=L200x1_4c F y102 y103 y107 (fun s=>some (.inl s)) (fun z=>some (.inr z))
theorem L200x1_4n (F:Nat) (y102:List UInt8) (y103:Int) (y107:Vector UInt32 64) {β:Type} (kA:(Int×(Vector UInt32 64))->Option β) (kO:((Vector UInt32 64))->Option β):L200x1_4c F y102 y103 y107 kA kO=(L200x1_4 F y102 y103 y107).bind (elimS kA kO):=by
 simp only [L200x1_4,L200x1_4c,Option.bind_assoc,cond_bind,Option.bind_some,Option.bind_none,elimS_l,elimS_r,elimS_bind]
abbrev sA200x1_4:List Sh:=[(.pt 0 []),(.ro .u8),(.pt 1 []),.i]
abbrev sAp1200x1_4:List Sh:=[(.pt 0 []),(.pt 1 [])]
abbrev sT200x1_4:List TSh:=[.blk 223 (.pr (.ar 8 .u32) (.pr (.ar 64 .u8) (.pr .i .un))),.blk 231 (.ar 64 .u32)]
abbrev sTp1200x1_4:List TSh:=[.blk 223 (.pr (.ar 8 .u32) (.pr (.ar 64 .u8) (.pr .i .un))),.blk 231 (.ar 64 .u32)]
def lc200x1_4 (F:Nat):Lc:=mkL [0,1,4,27] sA200x1_4 sT200x1_4 [0,4] sAp1200x1_4 sTp1200x1_4 F (fun x y (s:Int×(Vector UInt32 64))=>L200x1_4 F x.2.1 s.1 s.2) (fun x y=>(x.2.2.2.1,y.2.1)) (fun x y (z:(Vector UInt32 64))=>(((),(),()),((y.1.1,y.1.2.1,y.1.2.2.1,()),z,())))
theorem le200x1_4 (F:Nat) (x:dens sA200x1_4) (y:tdens sT200x1_4) (s:Int×(Vector UInt32 64)):sev (E200x1 F) 1 [] (cAt (bodyOf Tryz.f200) (0 :: 0 :: [1,0,1])) (0 :: 0 :: [1,0,1]) (mkSt [0,1,4,27] sA200x1_4 sT200x1_4 ((),x.2.1,(),s.1,()) ((y.1.1,y.1.2.1,y.1.2.2.1,()),s.2,())) (kLoop 1 [0,1,4,27] sA200x1_4 sT200x1_4 [0,4] sAp1200x1_4 sTp1200x1_4 [] [] [] 0 (fun x y=>some (.inl (x,y))) (fun x y=>some (.inr (.inl (x,y)))) (fun x y=>some (.inr (.inr (x,y))))) =
  L200x1_4c (β:=Full sA200x1_4 sT200x1_4 sAp1200x1_4 sTp1200x1_4 [] []) F x.2.1 s.1 s.2 (fun s=>some (.inl (((),x.2.1,(),s.1,()),((y.1.1,y.1.2.1,y.1.2.2.1,()),s.2,())))) (fun z=>some (.inr (.inl (((),(),()),((y.1.1,y.1.2.1,y.1.2.2.1,()),z,()))))):=by kernel_rfl
theorem lo200x1_4 (F:Nat):LcOk Tryz.prog (E200x1 F) 1 (lc200x1_4 F) (cAt (bodyOf Tryz.f200) [1,0,1]):=
 mkL_ok (lp:=[]) (id:=0) (b:=cAt (bodyOf Tryz.f200) (0 :: 0 :: [1,0,1])) cok (cts200x1 F) mixed trivial (by kernel_rfl) (by kernel_rfl) (fun x y s=>((),x.2.1,(),s.1,())) (fun x y s=>((y.1.1,y.1.2.1,y.1.2.2.1,()),s.2,())) (fun x y=>rfl) (fun x y=>rfl) (fun x y s kA kO=>L200x1_4c F x.2.1 s.1 s.2 kA kO) (fun x y s kA kO=>L200x1_4n F x.2.1 s.1 s.2 kA kO) (le200x1_4 F)
def L200x1_5c (F:Nat) (y167:Vector UInt32 64) (y155:UInt32) (y156:UInt32) (y157:UInt32) (y158:UInt32) (y159:UInt32) (y160:UInt32) (y161:UInt32) (y162:UInt32) (y163:Int) {β:Type} (kA:(UInt32×UInt32×UInt32×UInt32×UInt32×UInt32×UInt32×UInt32×Int)->Option β) (kO:(UInt32×UInt32×UInt32×UInt32×UInt32×UInt32×UInt32×UInt32)->Option β):Option β:=
 (bif (decide (y163 < (64:Int))) then (Option.bind (T201 F y159 (-6:Int)) fun z178=>(Option.bind (T201 F y159 (-11:Int)) fun z179=>(Option.bind (T201 F y159 (-25:Int)) fun z180=>(Option.bind (T201 F y155 (-2:Int)) fun z181=>(Option.bind (T201 F y155 (-13:Int)) fun z182=>(Option.bind (T201 F y155 (-22:Int)) fun z183=>(Option.bind (vix (gv2) y163) fun x184=>(Option.bind (inb 64 y163) fun x185=>(Option.bind (vat y167 x185) fun x186=>(kA ((((((y162 + ((z178 ^^^ z179) ^^^ z180)) + ((y159 &&& y160) ^^^ ((~~~y159) &&& y161))) + x184) + x186) + (((z181 ^^^ z182) ^^^ z183) + (((y155 &&& y156) ^^^ (y155 &&& y157)) ^^^ (y156 &&& y157)))),y155,y156,y157,(y158 + ((((y162 + ((z178 ^^^ z179) ^^^ z180)) + ((y159 &&& y160) ^^^ ((~~~y159) &&& y161))) + x184) + x186)),y159,y160,y161,(w64 (y163 + (1:Int)))))))))))))) else (kO (y155,y156,y157,y158,y159,y160,y161,y162)))
def L200x1_5 (F:Nat) (y167:Vector UInt32 64) (y155:UInt32) (y156:UInt32) (y157:UInt32) (y158:UInt32) (y159:UInt32) (y160:UInt32) (y161:UInt32) (y162:UInt32) (y163:Int):Option ((UInt32×UInt32×UInt32×UInt32×UInt32×UInt32×UInt32×UInt32×Int) ⊕ (UInt32×UInt32×UInt32×UInt32×UInt32×UInt32×UInt32×UInt32)):=L200x1_5c F y167 y155 y156 y157 y158 y159 y160 y161 y162 y163 (fun s=>some (.inl s)) (fun z=>some (.inr z))
theorem L200x1_5n (F:Nat) (y167:Vector UInt32 64) (y155:UInt32) (y156:UInt32) (y157:UInt32) (y158:UInt32) (y159:UInt32) (y160:UInt32) (y161:UInt32) (y162:UInt32) (y163:Int) {β:Type} (kA:(UInt32×UInt32×UInt32×UInt32×UInt32×UInt32×UInt32×UInt32×Int)->Option β) (kO:(UInt32×UInt32×UInt32×UInt32×UInt32×UInt32×UInt32×UInt32)->Option β):L200x1_5c F y167 y155 y156 y157 y158 y159 y160 y161 y162 y163 kA kO=(L200x1_5 F y167 y155 y156 y157 y158 y159 y160 y161 y162 y163).bind (elimS kA kO):=by
 simp only [L200x1_5,L200x1_5c,Option.bind_assoc,cond_bind,Option.bind_some,Option.bind_none,elimS_l,elimS_r,elimS_bind]
abbrev sA200x1_5:List Sh:=[(.pt 0 []),(.pt 1 []),(.pt 2 []),.u32,.u32,.u32,.u32,.u32,.u32,.u32,.u32,.i]
abbrev sAp1200x1_5:List Sh:=[(.pt 0 []),(.pt 1 []),.u32,.u32,.u32,.u32,.u32,.u32,.u32,.u32]
abbrev sT200x1_5:List TSh:=[.blk 223 (.pr (.ar 8 .u32) (.pr (.ar 64 .u8) (.pr .i .un))),.blk 231 (.ar 64 .u32),.blk 192 (.ar 8 .u32)]
abbrev sTp1200x1_5:List TSh:=[.blk 223 (.pr (.ar 8 .u32) (.pr (.ar 64 .u8) (.pr .i .un))),.blk 192 (.ar 8 .u32)]
def lc200x1_5 (F:Nat):Lc:=mkL [0,4,11,12,13,14,15,16,17,18,19,123] sA200x1_5 sT200x1_5 [0,11,12,13,14,15,16,17,18,19] sAp1200x1_5 sTp1200x1_5 F (fun x y (s:UInt32×UInt32×UInt32×UInt32×UInt32×UInt32×UInt32×UInt32×Int)=>L200x1_5 F y.2.1 s.1 s.2.1 s.2.2.1 s.2.2.2.1 s.2.2.2.2.1 s.2.2.2.2.2.1 s.2.2.2.2.2.2.1 s.2.2.2.2.2.2.2.1 s.2.2.2.2.2.2.2.2) (fun x y=>(x.2.2.2.1,x.2.2.2.2.1,x.2.2.2.2.2.1,x.2.2.2.2.2.2.1,x.2.2.2.2.2.2.2.1,x.2.2.2.2.2.2.2.2.1,x.2.2.2.2.2.2.2.2.2.1,x.2.2.2.2.2.2.2.2.2.2.1,x.2.2.2.2.2.2.2.2.2.2.2.1)) (fun x y (z:UInt32×UInt32×UInt32×UInt32×UInt32×UInt32×UInt32×UInt32)=>(((),(),z.1,z.2.1,z.2.2.1,z.2.2.2.1,z.2.2.2.2.1,z.2.2.2.2.2.1,z.2.2.2.2.2.2.1,z.2.2.2.2.2.2.2,()),((y.1.1,y.1.2.1,y.1.2.2.1,()),y.2.2.1,())))
theorem le200x1_5 (F:Nat) (x:dens sA200x1_5) (y:tdens sT200x1_5) (s:UInt32×UInt32×UInt32×UInt32×UInt32×UInt32×UInt32×UInt32×Int):sev (E200x1 F) 1 [] (cAt (bodyOf Tryz.f200) (0 :: 0 :: [1,0,1,1,1,1])) (0 :: 0 :: [1,0,1,1,1,1]) (mkSt [0,4,11,12,13,14,15,16,17,18,19,123] sA200x1_5 sT200x1_5 ((),(),(),s.1,s.2.1,s.2.2.1,s.2.2.2.1,s.2.2.2.2.1,s.2.2.2.2.2.1,s.2.2.2.2.2.2.1,s.2.2.2.2.2.2.2.1,s.2.2.2.2.2.2.2.2,()) ((y.1.1,y.1.2.1,y.1.2.2.1,()),y.2.1,y.2.2.1,())) (kLoop 1 [0,4,11,12,13,14,15,16,17,18,19,123] sA200x1_5 sT200x1_5 [0,11,12,13,14,15,16,17,18,19] sAp1200x1_5 sTp1200x1_5 [] [] [] 2 (fun x y=>some (.inl (x,y))) (fun x y=>some (.inr (.inl (x,y)))) (fun x y=>some (.inr (.inr (x,y))))) =
  L200x1_5c (β:=Full sA200x1_5 sT200x1_5 sAp1200x1_5 sTp1200x1_5 [] []) F y.2.1 s.1 s.2.1 s.2.2.1 s.2.2.2.1 s.2.2.2.2.1 s.2.2.2.2.2.1 s.2.2.2.2.2.2.1 s.2.2.2.2.2.2.2.1 s.2.2.2.2.2.2.2.2 (fun s=>some (.inl (((),(),(),s.1,s.2.1,s.2.2.1,s.2.2.2.1,s.2.2.2.2.1,s.2.2.2.2.2.1,s.2.2.2.2.2.2.1,s.2.2.2.2.2.2.2.1,s.2.2.2.2.2.2.2.2,()),((y.1.1,y.1.2.1,y.1.2.2.1,()),y.2.1,y.2.2.1,())))) (fun z=>some (.inr (.inl (((),(),z.1,z.2.1,z.2.2.1,z.2.2.2.1,z.2.2.2.2.1,z.2.2.2.2.2.1,z.2.2.2.2.2.2.1,z.2.2.2.2.2.2.2,()),((y.1.1,y.1.2.1,y.1.2.2.1,()),y.2.2.1,()))))):=by kernel_rfl
theorem lo200x1_5 (F:Nat):LcOk Tryz.prog (E200x1 F) 1 (lc200x1_5 F) (cAt (bodyOf Tryz.f200) [1,0,1,1,1,1]):=
 mkL_ok (lp:=[]) (id:=2) (b:=cAt (bodyOf Tryz.f200) (0 :: 0 :: [1,0,1,1,1,1])) cok (cts200x1 F) mixed trivial (by kernel_rfl) (by kernel_rfl) (fun x y s=>((),(),(),s.1,s.2.1,s.2.2.1,s.2.2.2.1,s.2.2.2.2.1,s.2.2.2.2.2.1,s.2.2.2.2.2.2.1,s.2.2.2.2.2.2.2.1,s.2.2.2.2.2.2.2.2,())) (fun x y s=>((y.1.1,y.1.2.1,y.1.2.2.1,()),y.2.1,y.2.2.1,())) (fun x y=>rfl) (fun x y=>rfl) (fun x y s kA kO=>L200x1_5c F y.2.1 s.1 s.2.1 s.2.2.1 s.2.2.2.1 s.2.2.2.2.1 s.2.2.2.2.2.1 s.2.2.2.2.2.2.1 s.2.2.2.2.2.2.2.1 s.2.2.2.2.2.2.2.2 kA kO) (fun x y s kA kO=>L200x1_5n F y.2.1 s.1 s.2.1 s.2.2.1 s.2.2.2.1 s.2.2.2.2.1 s.2.2.2.2.2.1 s.2.2.2.2.2.2.1 s.2.2.2.2.2.2.2.1 s.2.2.2.2.2.2.2.2 kA kO) (le200x1_5 F)
def L200x1_6c (F:Nat) (y188:Vector UInt32 8) (y193:Vector UInt32 8) (y189:Int) (y190:Vector UInt32 8) {β:Type} (kA:(Int×(Vector UInt32 8))->Option β) (kO:((Vector UInt32 8))->Option β):Option β:=
 (bif (decide (y189 < (8:Int))) then (Option.bind (vix y188 y189) fun x198=>(Option.bind (inb 8 y189) fun x199=>(Option.bind (vat y193 x199) fun x200=>(Option.bind (inb 8 y189) fun x201=>(kA ((w64 (y189 + (1:Int))),(Vector.setIfInBounds y190 x201 (x200 + x198)))))))) else (kO y190))
def L200x1_6 (F:Nat) (y188:Vector UInt32 8) (y193:Vector UInt32 8) (y189:Int) (y190:Vector UInt32 8):Option ((Int×(Vector UInt32 8)) ⊕ ((Vector UInt32 8))):=L200x1_6c F y188 y193 y189 y190 (fun s=>some (.inl s)) (fun z=>some (.inr z))
theorem L200x1_6n (F:Nat) (y188:Vector UInt32 8) (y193:Vector UInt32 8) (y189:Int) (y190:Vector UInt32 8) {β:Type} (kA:(Int×(Vector UInt32 8))->Option β) (kO:((Vector UInt32 8))->Option β):L200x1_6c F y188 y193 y189 y190 kA kO=(L200x1_6 F y188 y193 y189 y190).bind (elimS kA kO):=by
 simp only [L200x1_6,L200x1_6c,Option.bind_assoc,cond_bind,Option.bind_some,Option.bind_none,elimS_l,elimS_r,elimS_bind]
abbrev sA200x1_6:List Sh:=[(.pt 0 []),(.pt 1 []),(.ar 8 .u32),.i]
abbrev sAp1200x1_6:List Sh:=[]
abbrev sT200x1_6:List TSh:=[.blk 223 (.pr (.ar 8 .u32) (.pr (.ar 64 .u8) (.pr .i .un))),.blk 192 (.ar 8 .u32)]
abbrev sTp1200x1_6:List TSh:=[.blk 223 (.pr (.ar 8 .u32) (.pr (.ar 64 .u8) (.pr .i .un)))]
def lc200x1_6 (F:Nat):Lc:=mkL [0,11,196,197] sA200x1_6 sT200x1_6 [] sAp1200x1_6 sTp1200x1_6 F (fun x y (s:Int×(Vector UInt32 8))=>L200x1_6 F x.2.2.1 y.2.1 s.1 s.2) (fun x y=>(x.2.2.2.1,y.1.1)) (fun x y (z:(Vector UInt32 8))=>((),((z,y.1.2.1,y.1.2.2.1,()),())))
theorem le200x1_6 (F:Nat) (x:dens sA200x1_6) (y:tdens sT200x1_6) (s:Int×(Vector UInt32 8)):sev (E200x1 F) 1 [] (cAt (bodyOf Tryz.f200) (0 :: 0 :: [1,1,1,1,1,1])) (0 :: 0 :: [1,1,1,1,1,1]) (mkSt [0,11,196,197] sA200x1_6 sT200x1_6 ((),(),x.2.2.1,s.1,()) ((s.2,y.1.2.1,y.1.2.2.1,()),y.2.1,())) (kLoop 1 [0,11,196,197] sA200x1_6 sT200x1_6 [] sAp1200x1_6 sTp1200x1_6 [] [] [] 4 (fun x y=>some (.inl (x,y))) (fun x y=>some (.inr (.inl (x,y)))) (fun x y=>some (.inr (.inr (x,y))))) =
  L200x1_6c (β:=Full sA200x1_6 sT200x1_6 sAp1200x1_6 sTp1200x1_6 [] []) F x.2.2.1 y.2.1 s.1 s.2 (fun s=>some (.inl (((),(),x.2.2.1,s.1,()),((s.2,y.1.2.1,y.1.2.2.1,()),y.2.1,())))) (fun z=>some (.inr (.inl ((),((z,y.1.2.1,y.1.2.2.1,()),()))))):=by kernel_rfl
theorem lo200x1_6 (F:Nat):LcOk Tryz.prog (E200x1 F) 1 (lc200x1_6 F) (cAt (bodyOf Tryz.f200) [1,1,1,1,1,1]):=
 mkL_ok (lp:=[]) (id:=4) (b:=cAt (bodyOf Tryz.f200) (0 :: 0 :: [1,1,1,1,1,1])) cok (cts200x1 F) mixed trivial (by kernel_rfl) (by kernel_rfl) (fun x y s=>((),(),x.2.2.1,s.1,())) (fun x y s=>((s.2,y.1.2.1,y.1.2.2.1,()),y.2.1,())) (fun x y=>rfl) (fun x y=>rfl) (fun x y s kA kO=>L200x1_6c F x.2.2.1 y.2.1 s.1 s.2 kA kO) (fun x y s kA kO=>L200x1_6n F x.2.2.1 y.2.1 s.1 s.2 kA kO) (le200x1_6 F)
def T200x1c (F:Nat) (p0:List UInt8) (p1:Vector UInt32 8) {β:Type} (k:((Vector UInt32 8))->Option β):Option β:=
 (Option.bind (iter (fun s=>L200x1_4 F p0 s.1 s.2) F ((0:Int),(Vector.replicate 64 (0:UInt32)))) fun z146=>(Option.bind (vat p1 0) fun x147=>(Option.bind (vat p1 1) fun x148=>(Option.bind (vat p1 2) fun x149=>(Option.bind (vat p1 3) fun x150=>(Option.bind (vat p1 4) fun x151=>(Option.bind (vat p1 5) fun x152=>(Option.bind (vat p1 6) fun x153=>(Option.bind (vat p1 7) fun x154=>(Option.bind (iter (fun s=>L200x1_5 F z146 s.1 s.2.1 s.2.2.1 s.2.2.2.1 s.2.2.2.2.1 s.2.2.2.2.2.1 s.2.2.2.2.2.2.1 s.2.2.2.2.2.2.2.1 s.2.2.2.2.2.2.2.2) F (x147,x148,x149,x150,x151,x152,x153,x154,(0:Int))) fun z187=>(Option.bind (iter (fun s=>L200x1_6 F (#v[z187.1,z187.2.1,z187.2.2.1,z187.2.2.2.1,z187.2.2.2.2.1,z187.2.2.2.2.2.1,z187.2.2.2.2.2.2.1,z187.2.2.2.2.2.2.2]:Vector UInt32 8) p1 s.1 s.2) F ((0:Int),p1)) fun z202=>(k z202))))))))))))
def T200x1 (F:Nat) (p0:List UInt8) (p1:Vector UInt32 8):Option ((Vector UInt32 8)):=T200x1c F p0 p1 some
theorem T200x1n (F:Nat) (p0:List UInt8) (p1:Vector UInt32 8) {β:Type} (k:((Vector UInt32 8))->Option β):T200x1c F p0 p1 k=(T200x1 F p0 p1).bind k:=by
 simp only [T200x1,T200x1c,Option.bind_assoc,cond_bind,Option.bind_some,Option.bind_none,elimS_bind]
abbrev cA200x1:List Sh:=[(.pt 0 []),(.ro .u8)]
abbrev cB200x1:List Sh:=[]
abbrev cT200x1:List TSh:=[.blk 223 (.pr (.ar 8 .u32) (.pr (.ar 64 .u8) (.pr .i .un)))]
abbrev cU200x1:List TSh:=[.blk 223 (.pr (.ar 8 .u32) (.pr (.ar 64 .u8) (.pr .i .un)))]
def ct200x1 (F:Nat):Ct:=mkC 1 cA200x1 cT200x1 cB200x1 cU200x1 (fun x y=>T200x1 F x.2.1 y.1.1) (fun x y (z:(Vector UInt32 8))=>((),((z,y.1.2.1,y.1.2.2.1,()),())))
theorem eq200x1 (F:Nat) (x:dens cA200x1) (y:tdens cT200x1):sev (E200x1 F) 1 [([1,0,1],lc200x1_4 F),([1,0,1,1,1,1],lc200x1_5 F),([1,1,1,1,1,1],lc200x1_6 F)] (bodyOf Tryz.f200) [] (mkSt (rng 2) cA200x1 cT200x1 x y) (kFn (E200x1 F) 1 Tryz.f200.results.toList cB200x1 cU200x1 fun p q=>some (p,q)) =
  T200x1c F x.2.1 y.1.1 (fun z=>some ((),((z,y.1.2.1,y.1.2.2.1,()),()))):=by kernel_rfl
theorem ok200x1 (F:Nat):Sound Tryz.prog cfg 200 (ct200x1 F):=
 mkC_ok (E:=E200x1 F) (lp:=[([1,0,1],lc200x1_4 F),([1,0,1,1,1,1],lc200x1_5 F),([1,1,1,1,1,1],lc200x1_6 F)]) (code:=bodyOf Tryz.f200) Tryz.func200 rfl Tryz.ntmps200 rfl rfl cok (cts200x1 F) mixed ⟨lo200x1_4 F,⟨lo200x1_5 F,⟨lo200x1_6 F,trivial⟩⟩⟩ (by kernel_rfl) (fun x y k=>T200x1c F x.2.1 y.1.1 k) (fun x y k=>T200x1n F x.2.1 y.1.1 k) (eq200x1 F)
def E176 (F:Nat):Ev:=⟨cfg,57,ctOf [(200,ct200 F),(200,ct200x1 F)],fun _=>[],ctOf [],fun _=>none,fun _=>none⟩
theorem cts176 (F:Nat):CtsOk Tryz.prog (E176 F):=cts_of (l:=[(200,ct200 F),(200,ct200x1 F)]) (l':=[]) rfl rfl ⟨⟨ok200 F,_,Tryz.func200,rfl,rfl⟩,⟨⟨ok200x1 F,_,Tryz.func200,rfl,rfl⟩,trivial⟩⟩ trivial
def L176_3c (F:Nat) (y28:List UInt8) (y29:Int) (y30:Bool) (y31:Vector UInt32 8) (y32:Vector UInt8 64) {β:Type} (kO:(Za×Ze×Zg)->Option β) (kR:(Zg)->Option β):Option β:=
 (bif y30 then (Option.bind (gslb 64 y29 ((64:Nat):Int)) fun x38=>(Option.bind (gsl y28 ((Nat.min y28.length (x38.2 - x38.1)):Int) (y28.length:Int)) fun x39=>(bif (decide ((w64 (y29 + ((Nat.min y28.length (x38.2 - x38.1)):Int))) < (64:Int))) then (kR (vspl y32 x38.1 y28 (Nat.min y28.length (x38.2 - x38.1)))) else (Option.bind (gslb 64 (0:Int) ((64:Nat):Int)) fun x40=>(Option.bind (T200 F (x40.1,x40.2) y31 (vspl y32 x38.1 y28 (Nat.min y28.length (x38.2 - x38.1)))) fun z41=>(kO (x39,z41,(vspl y32 x38.1 y28 (Nat.min y28.length (x38.2 - x38.1)))))))))) else (kO (y28,y31,y32)))
def L176_3 (F:Nat) (y28:List UInt8) (y29:Int) (y30:Bool) (y31:Vector UInt32 8) (y32:Vector UInt8 64):Option ((Za×Ze×Zg) ⊕ (Zg)):=L176_3c F y28 y29 y30 y31 y32 (fun z=>some (.inl z)) (fun z=>some (.inr z))
theorem L176_3n (F:Nat) (y28:List UInt8) (y29:Int) (y30:Bool) (y31:Vector UInt32 8) (y32:Vector UInt8 64) {β:Type} (kO:(Za×Ze×Zg)->Option β) (kR:(Zg)->Option β):L176_3c F y28 y29 y30 y31 y32 kO kR=(L176_3 F y28 y29 y30 y31 y32).bind (elimS kO kR):=by
 simp only [L176_3,L176_3c,oA,oC,oS,oN,elimS_l,elimS_r,elimS_bind]
def lc176_3 (F:Nat):Lc:=mkK [0,1,4,21] [(.pt 0 []),(.ro .u8),.i,.bo] [.blk 223 (.pr (.ar 8 .u32) (.pr (.ar 64 .u8) (.pr .i .un)))] [0,1] [(.pt 0 []),(.ro .u8)] [.blk 223 (.pr (.ar 8 .u32) (.pr (.ar 64 .u8) (.pr .i .un)))] [] [] [.blk 223 (.pr (.ar 8 .u32) (.pr (.ar 64 .u8) (.pr .i .un)))] (fun x y=>L176_3 F x.2.1 x.2.2.1 x.2.2.2.1 y.1.1 y.1.2.1) (fun x y (z:Za×Ze×Zg)=>(((),z.1,()),((z.2.1,z.2.2,y.1.2.2.1,()),()))) (fun x y (z:Zg)=>((),((y.1.1,z,y.1.2.2.1,()),())))
theorem lo176_3 (F:Nat):LcOk Tryz.prog (E176 F) 1 (lc176_3 F) (cAt (bodyOf Tryz.f176) [1,0,1,1]):=
 mkK_ok (lp:=[]) cok (cts176 F) mixed trivial (by kernel_rfl) (fun x y kO kR=>L176_3c F x.2.1 x.2.2.1 x.2.2.2.1 y.1.1 y.1.2.1 kO kR) (fun x y kO kR=>L176_3n F x.2.1 x.2.2.1 x.2.2.2.1 y.1.1 y.1.2.1 kO kR) (fun _ _=>by kernel_rfl)
def L176_4c (F:Nat) (y43:List UInt8) (y44:Vector UInt32 8) {β:Type} (kA:(Za×Ze)->Option β) (kO:(Za×Ze)->Option β):Option β:=
 (bif (decide ((64:Int)≤(y43.length:Int))) then (Option.bind (gsl y43 (0:Int) (64:Int)) fun x50=>(Option.bind (T200x1 F x50 y44) fun z51=>(Option.bind (gsl y43 (64:Int) (y43.length:Int)) fun x52=>(kA (x52,z51))))) else (kO (y43,y44)))
def L176_4 (F:Nat) (y43:List UInt8) (y44:Vector UInt32 8):=L176_4c F y43 y44 (fun s=>some (Sum.inl s)) (fun z=>some (Sum.inr z))
def lc176_4 (F:Nat):Lc:=mkL [0,1] [(.pt 0 []),(.ro .u8)] [.blk 223 (.pr (.ar 8 .u32) (.pr (.ar 64 .u8) (.pr .i .un)))] [0,1] [(.pt 0 []),(.ro .u8)] [.blk 223 (.pr (.ar 8 .u32) (.pr (.ar 64 .u8) (.pr .i .un)))] F (fun x y (s:Za×Ze)=>L176_4 F s.1 s.2) (fun x y=>(x.2.1,y.1.1)) (fun x y (z:Za×Ze)=>(((),z.1,()),((z.2,y.1.2.1,y.1.2.2.1,()),())))
theorem lo176_4 (F:Nat):LcOk Tryz.prog (E176 F) 1 (lc176_4 F) (cAt (bodyOf Tryz.f176) [0,1,1,1]):=
 mkL_ok (lp:=[]) (id:=0) (b:=cAt (bodyOf Tryz.f176) (0 :: 0 :: [0,1,1,1])) cok (cts176 F) mixed trivial (by kernel_rfl) (by kernel_rfl) (fun x y s=>((),s.1,())) (fun x y s=>((s.2,y.1.2.1,y.1.2.2.1,()),())) (fun x y=>rfl) (fun x y=>rfl) (fun x y s kA kO=>L176_4c F s.1 s.2 kA kO) (fun _ _ _ _ _=>by simp only [L176_4,L176_4c,oA,oC,oS,oN,elimS_l,elimS_r,elimS_bind]) (fun _ _ _=>by kernel_rfl)
def T176c (F:Nat) (p0:List UInt8) (p1:Vector UInt32 8) (p2:Vector UInt8 64) (p3:Int) {β:Type} (k:(Ze×Zg×Int)->Option β):Option β:=
 (Option.bind (L176_3 F p0 (Int.tmod p3 (64:Int)) (decide ((0:Int) < (Int.tmod p3 (64:Int)))) p1 p2) fun z42=>elimS (fun z42=>(Option.bind (iter (fun s=>L176_4 F s.1 s.2) F (z42.1,z42.2.1)) fun z53=>(Option.bind (gslb 64 (0:Int) ((64:Nat):Int)) fun x54=>(k (z53.2,(vspl z42.2.2 x54.1 z53.1 (Nat.min z53.1.length (x54.2 - x54.1))),(w64 (p3 + (p0.length:Int)))))))) (fun z42=>(k (p1,z42,(w64 (p3 + (p0.length:Int)))))) z42)
def T176 (F:Nat) (p0:List UInt8) (p1:Vector UInt32 8) (p2:Vector UInt8 64) (p3:Int):=T176c F p0 p1 p2 p3 some
def ct176 (F:Nat):Ct:=mkC 1 [(.pt 0 []),(.ro .u8)] [.blk 223 (.pr (.ar 8 .u32) (.pr (.ar 64 .u8) (.pr .i .un)))] [] [.blk 223 (.pr (.ar 8 .u32) (.pr (.ar 64 .u8) (.pr .i .un)))] (fun x y=>T176 F x.2.1 y.1.1 y.1.2.1 y.1.2.2.1) (fun x y (z:Ze×Zg×Int)=>((),((z.1,z.2.1,z.2.2,()),())))
theorem ok176 (F:Nat):Sound Tryz.prog cfg 176 (ct176 F):=
 mkC_ok (E:=E176 F) (lp:=[([1,0,1,1],lc176_3 F),([0,1,1,1],lc176_4 F)]) (code:=bodyOf Tryz.f176) Tryz.func176 rfl Tryz.ntmps176 rfl rfl cok (cts176 F) mixed ⟨lo176_3 F,⟨lo176_4 F,trivial⟩⟩ (by kernel_rfl) (fun x y k=>T176c F x.2.1 y.1.1 y.1.2.1 y.1.2.2.1 k) (fun _ _ _=>by simp only [T176,T176c,oA,oC,oS,oN,elimS_bind]) (fun _ _=>by kernel_rfl)
def E177 (F:Nat):Ev:=⟨cfg,68,ctOf [(176,ct176 F)],fun _=>[],ctOf [],fun _=>none,fun _=>none⟩
theorem cts177 (F:Nat):CtsOk Tryz.prog (E177 F):=cts_of (l:=[(176,ct176 F)]) (l':=[]) rfl rfl ⟨⟨ok176 F,_,Tryz.func176,rfl,rfl⟩,trivial⟩ trivial
def L177_4c (F:Nat) (y30:Ze×Zg×Int×Unit) (y34:List UInt8) {β:Type} (kA:(Za)->Option β) (kO:(Za)->Option β):Option β:=
 (bif ((Int.tmod (w64 (y30.2.2.1 + (y34.length:Int))) (64:Int)) != (56:Int)) then (Option.bind (gapp y34 ([(UInt8.ofNat 0)]:List UInt8)) fun x36=>(kA x36)) else (kO y34))
def L177_4 (F:Nat) (y30:Ze×Zg×Int×Unit) (y34:List UInt8):=L177_4c F y30 y34 (fun s=>some (Sum.inl s)) (fun z=>some (Sum.inr z))
def lc177_4 (F:Nat):Lc:=mkL [0,3,4] [(.re (.pr (.ar 8 .u32) (.pr (.ar 64 .u8) (.pr .i .un)))),(.pt 0 []),(.rw 1)] [.blk 223 (.pr (.ar 8 .u32) (.pr (.ar 64 .u8) (.pr .i .un))),.row 5 .u8] [0,3,4] [(.re (.pr (.ar 8 .u32) (.pr (.ar 64 .u8) (.pr .i .un)))),(.pt 0 []),(.rw 1)] [.blk 223 (.pr (.ar 8 .u32) (.pr (.ar 64 .u8) (.pr .i .un))),.row 5 .u8] F (fun x y (s:Za)=>L177_4 F x.1 s) (fun x y=>y.2.1) (fun x y (z:Za)=>((x.1,(),(),()),((y.1.1,y.1.2.1,y.1.2.2.1,()),z,())))
theorem lo177_4 (F:Nat):LcOk Tryz.prog (E177 F) 0 (lc177_4 F) (cAt (bodyOf Tryz.f177) [0,1,1,1]):=
 mkL_ok (lp:=[]) (id:=0) (b:=cAt (bodyOf Tryz.f177) (0 :: 0 :: [0,1,1,1])) cok (cts177 F) mixed trivial (by kernel_rfl) (by kernel_rfl) (fun x y s=>(x.1,(),(),())) (fun x y s=>((y.1.1,y.1.2.1,y.1.2.2.1,()),s,())) (fun x y=>rfl) (fun x y=>rfl) (fun x y s kA kO=>L177_4c F x.1 s kA kO) (fun _ _ _ _ _=>by simp only [L177_4,L177_4c,oA,oC,oS,oN,elimS_l,elimS_r,elimS_bind]) (fun _ _ _=>by kernel_rfl)
def L177_5c (F:Nat) (y38:UInt64) (y39:Int) (y43:List UInt8) {β:Type} (kA:Zh->Option β) (kO:(Za)->Option β):Option β:=
 (bif (decide ((0:Int)≤y39)) then (Option.bind (gnn y39) fun x46=>(Option.bind (gapp y43 ([((shr64 y38 x46).toUInt8)]:List UInt8)) fun x47=>(kA ((w64 (y39 - (8:Int))),x47)))) else (kO y43))
def L177_5 (F:Nat) (y38:UInt64) (y39:Int) (y43:List UInt8):=L177_5c F y38 y39 y43 (fun s=>some (Sum.inl s)) (fun z=>some (Sum.inr z))
def lc177_5 (F:Nat):Lc:=mkL [3,4,5,6] [(.pt 0 []),(.rw 1),.u64,.i] [.blk 223 (.pr (.ar 8 .u32) (.pr (.ar 64 .u8) (.pr .i .un))),.row 5 .u8] [3,4] [(.pt 0 []),(.rw 1)] [.blk 223 (.pr (.ar 8 .u32) (.pr (.ar 64 .u8) (.pr .i .un))),.row 5 .u8] F (fun x y (s:Int×Za)=>L177_5 F x.2.2.1 s.1 s.2) (fun x y=>(x.2.2.2.1,y.2.1)) (fun x y (z:Za)=>(((),(),()),((y.1.1,y.1.2.1,y.1.2.2.1,()),z,())))
theorem lo177_5 (F:Nat):LcOk Tryz.prog (E177 F) 0 (lc177_5 F) (cAt (bodyOf Tryz.f177) [1,0,1,1,1,1,1]):=
 mkL_ok (lp:=[]) (id:=2) (b:=cAt (bodyOf Tryz.f177) (0 :: 0 :: [1,0,1,1,1,1,1])) cok (cts177 F) mixed trivial (by kernel_rfl) (by kernel_rfl) (fun x y s=>((),(),x.2.2.1,s.1,())) (fun x y s=>((y.1.1,y.1.2.1,y.1.2.2.1,()),s.2,())) (fun x y=>rfl) (fun x y=>rfl) (fun x y s kA kO=>L177_5c F x.2.2.1 s.1 s.2 kA kO) (fun _ _ _ _ _=>by simp only [L177_5,L177_5c,oA,oC,oS,oN,elimS_l,elimS_r,elimS_bind]) (fun _ _ _=>by kernel_rfl)
def L177_6c (F:Nat) (y51:Vector UInt32 8) (y52:Int) (y53:List UInt8) {β:Type} (kA:Zh->Option β) (kO:(Za)->Option β):Option β:=
 (bif (decide (y52 < (8:Int))) then (Option.bind (vix y51 y52) fun x56=>(Option.bind (gapp y53 ([((shr32 x56 ((UInt64.ofNat 24).toNat)).toUInt8),((shr32 x56 ((UInt64.ofNat 16).toNat)).toUInt8),((shr32 x56 ((UInt64.ofNat 8).toNat)).toUInt8),(x56.toUInt8)]:List UInt8)) fun x57=>(kA ((w64 (y52 + (1:Int))),x57)))) else (kO y53))
def L177_6 (F:Nat) (y51:Vector UInt32 8) (y52:Int) (y53:List UInt8):=L177_6c F y51 y52 y53 (fun s=>some (Sum.inl s)) (fun z=>some (Sum.inr z))
def lc177_6 (F:Nat):Lc:=mkL [7,47,48] [(.rw 0),(.ar 8 .u32),.i] [.row 5 .u8] [7] [(.rw 0)] [.row 5 .u8] F (fun x y (s:Int×Za)=>L177_6 F x.2.1 s.1 s.2) (fun x y=>(x.2.2.1,y.1)) (fun x y (z:Za)=>(((),()),(z,())))
theorem lo177_6 (F:Nat):LcOk Tryz.prog (E177 F) 0 (lc177_6 F) (cAt (bodyOf Tryz.f177) [1,0,1,1,1,1,1,1,1,1]):=
 mkL_ok (lp:=[]) (id:=4) (b:=cAt (bodyOf Tryz.f177) (0 :: 0 :: [1,0,1,1,1,1,1,1,1,1])) cok (cts177 F) mixed trivial (by kernel_rfl) (by kernel_rfl) (fun x y s=>((),x.2.1,s.1,())) (fun x y s=>(s.2,())) (fun x y=>rfl) (fun x y=>rfl) (fun x y s kA kO=>L177_6c F x.2.1 s.1 s.2 kA kO) (fun _ _ _ _ _=>by simp only [L177_6,L177_6c,oA,oC,oS,oN,elimS_l,elimS_r,elimS_bind]) (fun _ _ _=>by kernel_rfl)
def T177c (F:Nat) (p0:Ze×Zg×Int×Unit) {β:Type} (k:(Za)->Option β):Option β:=
 (Option.bind (iter (fun s=>L177_4 F p0 s) F ([(UInt8.ofNat 128)]:List UInt8)) fun z37=>(Option.bind (iter (fun s=>L177_5 F ((UInt64.ofInt p0.2.2.1) * (UInt64.ofNat 8)) s.1 s.2) F ((56:Int),z37)) fun z48=>(Option.bind (T176 F z48 p0.1 p0.2.1 p0.2.2.1) fun z49=>(Option.bind (gmake (0:UInt8) (0:Int) (32:Int)) fun x50=>(Option.bind (iter (fun s=>L177_6 F z49.1 s.1 s.2) F ((0:Int),x50)) fun z58=>(k z58))))))
def T177 (F:Nat) (p0:Ze×Zg×Int×Unit):=T177c F p0 some
def ct177 (F:Nat):Ct:=mkC 0 [(.re (.pr (.ar 8 .u32) (.pr (.ar 64 .u8) (.pr .i .un))))] [] [.str] [] (fun x y=>T177 F x.1) (fun x y (z:Za)=>((z,()),()))
theorem ok177 (F:Nat):Sound Tryz.prog cfg 177 (ct177 F):=
 mkC_ok (E:=E177 F) (lp:=[([0,1,1,1],lc177_4 F),([1,0,1,1,1,1,1],lc177_5 F),([1,0,1,1,1,1,1,1,1,1],lc177_6 F)]) (code:=bodyOf Tryz.f177) Tryz.func177 rfl Tryz.ntmps177 rfl rfl cok (cts177 F) mixed ⟨lo177_4 F,⟨lo177_5 F,⟨lo177_6 F,trivial⟩⟩⟩ (by kernel_rfl) (fun x y k=>T177c F x.1 k) (fun _ _ _=>by simp only [T177,T177c,oA,oC,oS,oN,elimS_bind]) (fun _ _=>by kernel_rfl)
def E173 (F:Nat):Ev:=⟨cfg,20,ctOf [(175,ct175 F),(176,ct176 F),(177,ct177 F)],fun _=>[],ctOf [],fun _=>none,fun _=>none⟩
theorem cts173 (F:Nat):CtsOk Tryz.prog (E173 F):=cts_of (l:=[(175,ct175 F),(176,ct176 F),(177,ct177 F)]) (l':=[]) rfl rfl ⟨⟨ok175 F,_,Tryz.func175,rfl,rfl⟩,⟨⟨ok176 F,_,Tryz.func176,rfl,rfl⟩,⟨⟨ok177 F,_,Tryz.func177,rfl,rfl⟩,trivial⟩⟩⟩ trivial
def L173_2c (F:Nat) (y17:List Za) (y18:Int) (y19:Int) (y20:Vector UInt32 8) (y21:Vector UInt8 64) (y22:Int) {β:Type} (kA:(Int×Ze×Zg×Int)->Option β) (kO:(Ze×Zg×Int)->Option β):Option β:=
 (bif (decide (y19 < y18)) then (Option.bind (ix y17 y19) fun x26=>(Option.bind (gstr x26) fun x27=>(Option.bind (T176 F x27 y20 y21 y22) fun z28=>(kA ((w64 (y19 + (1:Int))),z28.1,z28.2.1,z28.2.2))))) else (kO (y20,y21,y22)))
def L173_2 (F:Nat) (y17:List Za) (y18:Int) (y19:Int) (y20:Vector UInt32 8) (y21:Vector UInt8 64) (y22:Int):=L173_2c F y17 y18 y19 y20 y21 y22 (fun s=>some (Sum.inl s)) (fun z=>some (Sum.inr z))
def lc173_2 (F:Nat):Lc:=mkL [3,7,8,9] [(.pt 0 []),(.ro .s),.i,.i] [.blk 223 (.pr (.ar 8 .u32) (.pr (.ar 64 .u8) (.pr .i .un)))] [3] [(.pt 0 [])] [.blk 223 (.pr (.ar 8 .u32) (.pr (.ar 64 .u8) (.pr .i .un)))] F (fun x y (s:Int×Ze×Zg×Int)=>L173_2 F x.2.1 x.2.2.1 s.1 s.2.1 s.2.2.1 s.2.2.2) (fun x y=>(x.2.2.2.1,y.1.1,y.1.2.1,y.1.2.2.1)) (fun x y (z:Ze×Zg×Int)=>(((),()),((z.1,z.2.1,z.2.2,()),())))
theorem lo173_2 (F:Nat):LcOk Tryz.prog (E173 F) 0 (lc173_2 F) (cAt (bodyOf Tryz.f173) [1,0,1,1]):=
 mkL_ok (lp:=[]) (id:=0) (b:=cAt (bodyOf Tryz.f173) (0 :: 0 :: [1,0,1,1])) cok (cts173 F) mixed trivial (by kernel_rfl) (by kernel_rfl) (fun x y s=>((),x.2.1,x.2.2.1,s.1,())) (fun x y s=>((s.2.1,s.2.2.1,s.2.2.2,()),())) (fun x y=>rfl) (fun x y=>rfl) (fun x y s kA kO=>L173_2c F x.2.1 x.2.2.1 s.1 s.2.1 s.2.2.1 s.2.2.2 kA kO) (fun _ _ _ _ _=>by simp only [L173_2,L173_2c,oA,oC,oS,oN,elimS_l,elimS_r,elimS_bind]) (fun _ _ _=>by kernel_rfl)
def T173c (F:Nat) (p0:List Za) {β:Type} (k:(Za)->Option β):Option β:=
 (Option.bind (T175 F) fun z16=>(Option.bind (iter (fun s=>L173_2 F p0 (p0.length:Int) s.1 s.2.1 s.2.2.1 s.2.2.2) F ((0:Int),z16.1,z16.2.1,z16.2.2)) fun z29=>(Option.bind (T177 F (z29.1,z29.2.1,z29.2.2,())) fun z30=>(k z30))))
def T173 (F:Nat) (p0:List Za):=T173c F p0 some
def ct173 (F:Nat):Ct:=mkC 0 [(.ro .s)] [] [.str] [] (fun x y=>T173 F x.1) (fun x y (z:Za)=>((z,()),()))
theorem ok173 (F:Nat):Sound Tryz.prog cfg 173 (ct173 F):=
 mkC_ok (E:=E173 F) (lp:=[([1,0,1,1],lc173_2 F)]) (code:=bodyOf Tryz.f173) Tryz.func173 rfl Tryz.ntmps173 rfl rfl cok (cts173 F) mixed ⟨lo173_2 F,trivial⟩ (by kernel_rfl) (fun x y k=>T173c F x.1 k) (fun _ _ _=>by simp only [T173,T173c,oA,oC,oS,oN,elimS_bind]) (fun _ _=>by kernel_rfl)
def E174 (F:Nat):Ev:=⟨cfg,18,ctOf [],fun _=>[],ctOf [],fun _=>none,fun _=>none⟩
theorem cts174 (F:Nat):CtsOk Tryz.prog (E174 F):=cts_of (l:=[]) (l':=[]) rfl rfl trivial trivial
def L174_2c (F:Nat) (y10:UInt8) (y11:Vector UInt8 64) (y12:Int) (y13:Vector UInt8 64) {β:Type} (kA:(Int×Zg)->Option β) (kO:(Zg)->Option β):Option β:=
 (bif (decide (y12 < (64:Int))) then (Option.bind (vix y11 y12) fun x16=>(Option.bind (inb 64 y12) fun x17=>(kA ((w64 (y12 + (1:Int))),(Vector.setIfInBounds y13 x17 (x16 ^^^ y10)))))) else (kO y13))
def L174_2 (F:Nat) (y10:UInt8) (y11:Vector UInt8 64) (y12:Int) (y13:Vector UInt8 64):=L174_2c F y10 y11 y12 y13 (fun s=>some (Sum.inl s)) (fun z=>some (Sum.inr z))
def lc174_2 (F:Nat):Lc:=mkL [0,3,6,7] [.u8,(.pt 0 []),(.ar 64 .u8),.i] [.blk 220 (.ar 64 .u8)] [3] [(.pt 0 [])] [.blk 220 (.ar 64 .u8)] F (fun x y (s:Int×Zg)=>L174_2 F x.1 x.2.2.1 s.1 s.2) (fun x y=>(x.2.2.2.1,y.1)) (fun x y (z:Zg)=>(((),()),(z,())))
theorem lo174_2 (F:Nat):LcOk Tryz.prog (E174 F) 0 (lc174_2 F) (cAt (bodyOf Tryz.f174) [1,0,1]):=
 mkL_ok (lp:=[]) (id:=0) (b:=cAt (bodyOf Tryz.f174) (0 :: 0 :: [1,0,1])) cok (cts174 F) mixed trivial (by kernel_rfl) (by kernel_rfl) (fun x y s=>(x.1,(),x.2.2.1,s.1,())) (fun x y s=>(s.2,())) (fun x y=>rfl) (fun x y=>rfl) (fun x y s kA kO=>L174_2c F x.1 x.2.2.1 s.1 s.2 kA kO) (fun _ _ _ _ _=>by simp only [L174_2,L174_2c,oA,oC,oS,oN,elimS_l,elimS_r,elimS_bind]) (fun _ _ _=>by kernel_rfl)
def T174c (F:Nat) (p0:UInt8) (p1:Vector UInt8 64) {β:Type} (k:(Zg)->Option β):Option β:=
 (Option.bind (iter (fun s=>L174_2 F p0 p1 s.1 s.2) F ((0:Int),(Vector.replicate 64 (0:UInt8)))) fun z18=>(k z18))
def T174 (F:Nat) (p0:UInt8) (p1:Vector UInt8 64):=T174c F p0 p1 some
def ct174 (F:Nat):Ct:=mkC 0 [.u8,(.re (.ar 64 .u8))] [] [(.ar 64 .u8)] [] (fun x y=>T174 F x.1 x.2.1) (fun x y (z:Zg)=>((z,()),()))
theorem ok174 (F:Nat):Sound Tryz.prog cfg 174 (ct174 F):=
 mkC_ok (E:=E174 F) (lp:=[([1,0,1],lc174_2 F)]) (code:=bodyOf Tryz.f174) Tryz.func174 rfl Tryz.ntmps174 rfl rfl cok (cts174 F) mixed ⟨lo174_2 F,trivial⟩ (by kernel_rfl) (fun x y k=>T174c F x.1 x.2.1 k) (fun _ _ _=>by simp only [T174,T174c,oA,oC,oS,oN,elimS_bind]) (fun _ _=>by kernel_rfl)
def ord200x2:Nat->List (Tag×Nat)
 | 6=>[(.p,0),(.p,1),(.p,2),(.r,3),(.p,4),(.p,5),(.p,6),(.p,7),(.r,8),(.p,9),(.p,10),(.p,11),(.p,12),(.p,13),(.r,14),(.p,15),(.p,16),(.p,17),(.p,18),(.p,19),(.r,20),(.p,21),(.p,22),(.p,23),(.w,24)]
 | 7=>[(.p,0),(.p,1),(.p,2),(.r,3),(.p,4),(.p,5),(.p,6),(.r,7),(.p,8),(.p,9)]
 | 10=>[(.p,0),(.p,1),(.p,2),(.p,3),(.p,4),(.r,5),(.p,6),(.p,7),(.p,8),(.p,9),(.p,10),(.p,11),(.r,12),(.p,13),(.p,14),(.w,15)]
 | 13=>[(.p,0),(.r,1),(.p,2),(.r,3),(.p,4),(.r,5),(.p,6),(.r,7),(.p,8),(.r,9),(.p,10),(.r,11),(.p,12),(.r,13),(.p,14),(.r,15),(.p,16),(.p,17),(.p,18),(.p,19),(.p,20),(.p,21),(.p,22),(.p,23)]
 | 19=>[(.p,0),(.p,1),(.p,2),(.p,3),(.p,4),(.p,5),(.p,6),(.p,7),(.p,8),(.p,9),(.p,10),(.p,11),(.p,12),(.p,13),(.r,14),(.p,15),(.p,16),(.p,17),(.r,18),(.p,19),(.p,20)]
 | 26=>[(.p,0),(.p,1),(.p,2),(.p,3),(.r,4),(.p,5),(.p,6),(.p,7),(.p,8),(.p,9),(.w,10)]
 | _=>[]
def al200x2:Nat->Option Nat
 | _=>none
def ms200x2:Nat->Option (List (Option Tag×Nat×List Nat))
 | _=>none
def E200x2 (F:Nat):Ev:=⟨cfg,212,ctOf [(201,ct201 F)],ord200x2,ctOf [],al200x2,ms200x2⟩
theorem cts200x2 (F:Nat):CtsOk Tryz.prog (E200x2 F):=cts_of (l:=[(201,ct201 F)]) (l':=[]) rfl rfl ⟨⟨ok201 F,_,Tryz.func201,rfl,rfl⟩,trivial⟩ trivial
def L200x2_4c (F:Nat) (y116:Vector UInt8 64) (y113:Nat×Nat) (y114:Int) (y119:Vector UInt32 64) {β:Type} (kA:((Nat×Nat)×Int×(Vector UInt32 64))->Option β) (kO:((Vector UInt32 64))->Option β):Option β:=
 (bif (decide (y114 < (64:Int))) then (bif (decide (y114 < (16:Int))) then (Option.bind (gslb (y113.2 - y113.1) (w64 ((4:Int) * y114)) (w64 ((w64 ((4:Int) * y114)) + (4:Int)))) fun x143=>(Option.bind (inb ((y113.1 + x143.2) - (y113.1 + x143.1)) (0:Int)) fun x144=>(Option.bind (vat y116 ((y113.1 + x143.1) + x144)) fun x145=>(Option.bind (inb ((y113.1 + x143.2) - (y113.1 + x143.1)) (1:Int)) fun x146=>(Option.bind (vat y116 ((y113.1 + x143.1) + x146)) fun x147=>(Option.bind (inb ((y113.1 + x143.2) - (y113.1 + x143.1)) (2:Int)) fun x148=>(Option.bind (vat y116 ((y113.1 + x143.1) + x148)) fun x149=>(Option.bind (inb ((y113.1 + x143.2) - (y113.1 + x143.1)) (3:Int)) fun x150=>(Option.bind (vat y116 ((y113.1 + x143.1) + x150)) fun x151=>(Option.bind (inb 64 y114) fun x152=>(kA ((y113.1,y113.2),(w64 (y114 + (1:Int))),(Vector.setIfInBounds y119 x152 ((((shl32 (x145.toUInt32) ((UInt64.ofNat 24).toNat)) ||| (shl32 (x147.toUInt32) ((UInt64.ofNat 16).toNat))) ||| (shl32 (x149.toUInt32) ((UInt64.ofNat 8).toNat))) ||| (x151.toUInt32))))))))))))))) else (Option.bind (inb 64 (w64 (y114 - (2:Int)))) fun x153=>(Option.bind (vat y119 x153) fun x154=>(Option.bind (inb 64 (w64 (y114 - (15:Int)))) fun x155=>(Option.bind (vat y119 x155) fun x156=>(Option.bind (T201 F x154 (-17:Int)) fun z157=>(Option.bind (T201 F x154 (-19:Int)) fun z158=>(Option.bind (T201 F x156 (-7:Int)) fun z159=>(Option.bind (T201 F x156 (-18:Int)) fun z160=>(Option.bind (inb 64 (w64 (y114 - (7:Int)))) fun x161=>(Option.bind (vat y119 x161) fun x162=>(Option.bind (inb 64 (w64 (y114 - (16:Int)))) fun x163=>(Option.bind (vat y119 x163) fun x164=>(Option.bind (inb 64 y114) fun x165=>(kA ((y113.1,y113.2),(w64 (y114 + (1:Int))),(Vector.setIfInBounds y119 x165 (((((z157 ^^^ z158) ^^^ (shr32 x154 ((UInt64.ofNat 10).toNat))) + x162) + ((z159 ^^^ z160) ^^^ (shr32 x156 ((UInt64.ofNat 3).toNat)))) + x164)))))))))))))))))) else (kO y119))
def L200x2_4 (F:Nat) (y116:Vector UInt8 64) (y113:Nat×Nat) (y114:Int) (y119:Vector UInt32 64):Option (((Nat×Nat)×Int×(Vector UInt32 64)) ⊕ ((Vector UInt32 64))):=L200x2_4c F y116 y113 y114 y119 (fun s=>some (.inl s)) (fun z=>some (.inr z))
theorem L200x2_4n (F:Nat) (y116:Vector UInt8 64) (y113:Nat×Nat) (y114:Int) (y119:Vector UInt32 64) {β:Type} (kA:((Nat×Nat)×Int×(Vector UInt32 64))->Option β) (kO:((Vector UInt32 64))->Option β):L200x2_4c F y116 y113 y114 y119 kA kO=(L200x2_4 F y116 y113 y114 y119).bind (elimS kA kO):=by
 simp only [L200x2_4,L200x2_4c,Option.bind_assoc,cond_bind,Option.bind_some,Option.bind_none,elimS_l,elimS_r,elimS_bind]
abbrev sA200x2_4:List Sh:=[(.pt 0 [0,0]),(.ap 0 [0,0,1]),(.pt 1 []),.i]
abbrev sAp1200x2_4:List Sh:=[(.pt 0 [0,0]),(.pt 1 [])]
abbrev sT200x2_4:List TSh:=[.blk 230 (.pr (.pr (.pr (.ar 8 .u32) (.pr (.ar 64 .u8) (.pr .i .un))) (.pr (.ar 64 .u8) .un)) .un),.blk 231 (.ar 64 .u32)]
abbrev sTp1200x2_4:List TSh:=[.blk 230 (.pr (.pr (.pr (.ar 8 .u32) (.pr (.ar 64 .u8) (.pr .i .un))) (.pr (.ar 64 .u8) .un)) .un),.blk 231 (.ar 64 .u32)]
def lc200x2_4 (F:Nat):Lc:=mkL [0,1,4,27] sA200x2_4 sT200x2_4 [0,4] sAp1200x2_4 sTp1200x2_4 F (fun x y (s:(Nat×Nat)×Int×(Vector UInt32 64))=>L200x2_4 F y.1.1.1.2.1 s.1 s.2.1 s.2.2) (fun x y=>(x.2.1,x.2.2.2.1,y.2.1)) (fun x y (z:(Vector UInt32 64))=>(((),(),()),((((y.1.1.1.1,y.1.1.1.2.1,y.1.1.1.2.2.1,()),y.1.1.2.1,()),()),z,())))
theorem le200x2_4 (F:Nat) (x:dens sA200x2_4) (y:tdens sT200x2_4) (s:(Nat×Nat)×Int×(Vector UInt32 64)):sev (E200x2 F) 1 [] (cAt (bodyOf Tryz.f200) (0 :: 0 :: [1,0,1])) (0 :: 0 :: [1,0,1]) (mkSt [0,1,4,27] sA200x2_4 sT200x2_4 ((),s.1,(),s.2.1,()) ((((y.1.1.1.1,y.1.1.1.2.1,y.1.1.1.2.2.1,()),y.1.1.2.1,()),()),s.2.2,())) (kLoop 1 [0,1,4,27] sA200x2_4 sT200x2_4 [0,4] sAp1200x2_4 sTp1200x2_4 [] [] [] 0 (fun x y=>some (.inl (x,y))) (fun x y=>some (.inr (.inl (x,y)))) (fun x y=>some (.inr (.inr (x,y))))) =
  L200x2_4c (β:=Full sA200x2_4 sT200x2_4 sAp1200x2_4 sTp1200x2_4 [] []) F y.1.1.1.2.1 s.1 s.2.1 s.2.2 (fun s=>some (.inl (((),s.1,(),s.2.1,()),((((y.1.1.1.1,y.1.1.1.2.1,y.1.1.1.2.2.1,()),y.1.1.2.1,()),()),s.2.2,())))) (fun z=>some (.inr (.inl (((),(),()),((((y.1.1.1.1,y.1.1.1.2.1,y.1.1.1.2.2.1,()),y.1.1.2.1,()),()),z,()))))):=by kernel_rfl
theorem lo200x2_4 (F:Nat):LcOk Tryz.prog (E200x2 F) 1 (lc200x2_4 F) (cAt (bodyOf Tryz.f200) [1,0,1]):=
 mkL_ok (lp:=[]) (id:=0) (b:=cAt (bodyOf Tryz.f200) (0 :: 0 :: [1,0,1])) cok (cts200x2 F) mixed trivial (by kernel_rfl) (by kernel_rfl) (fun x y s=>((),s.1,(),s.2.1,())) (fun x y s=>((((y.1.1.1.1,y.1.1.1.2.1,y.1.1.1.2.2.1,()),y.1.1.2.1,()),()),s.2.2,())) (fun x y=>rfl) (fun x y=>rfl) (fun x y s kA kO=>L200x2_4c F y.1.1.1.2.1 s.1 s.2.1 s.2.2 kA kO) (fun x y s kA kO=>L200x2_4n F y.1.1.1.2.1 s.1 s.2.1 s.2.2 kA kO) (le200x2_4 F)
def L200x2_5c (F:Nat) (y188:Vector UInt32 64) (y175:UInt32) (y176:UInt32) (y177:UInt32) (y178:UInt32) (y179:UInt32) (y180:UInt32) (y181:UInt32) (y182:UInt32) (y183:Int) {β:Type} (kA:(UInt32×UInt32×UInt32×UInt32×UInt32×UInt32×UInt32×UInt32×Int)->Option β) (kO:(UInt32×UInt32×UInt32×UInt32×UInt32×UInt32×UInt32×UInt32)->Option β):Option β:=
 (bif (decide (y183 < (64:Int))) then (Option.bind (T201 F y179 (-6:Int)) fun z199=>(Option.bind (T201 F y179 (-11:Int)) fun z200=>(Option.bind (T201 F y179 (-25:Int)) fun z201=>(Option.bind (T201 F y175 (-2:Int)) fun z202=>(Option.bind (T201 F y175 (-13:Int)) fun z203=>(Option.bind (T201 F y175 (-22:Int)) fun z204=>(Option.bind (vix (gv2) y183) fun x205=>(Option.bind (inb 64 y183) fun x206=>(Option.bind (vat y188 x206) fun x207=>(kA ((((((y182 + ((z199 ^^^ z200) ^^^ z201)) + ((y179 &&& y180) ^^^ ((~~~y179) &&& y181))) + x205) + x207) + (((z202 ^^^ z203) ^^^ z204) + (((y175 &&& y176) ^^^ (y175 &&& y177)) ^^^ (y176 &&& y177)))),y175,y176,y177,(y178 + ((((y182 + ((z199 ^^^ z200) ^^^ z201)) + ((y179 &&& y180) ^^^ ((~~~y179) &&& y181))) + x205) + x207)),y179,y180,y181,(w64 (y183 + (1:Int)))))))))))))) else (kO (y175,y176,y177,y178,y179,y180,y181,y182)))
def L200x2_5 (F:Nat) (y188:Vector UInt32 64) (y175:UInt32) (y176:UInt32) (y177:UInt32) (y178:UInt32) (y179:UInt32) (y180:UInt32) (y181:UInt32) (y182:UInt32) (y183:Int):Option ((UInt32×UInt32×UInt32×UInt32×UInt32×UInt32×UInt32×UInt32×Int) ⊕ (UInt32×UInt32×UInt32×UInt32×UInt32×UInt32×UInt32×UInt32)):=L200x2_5c F y188 y175 y176 y177 y178 y179 y180 y181 y182 y183 (fun s=>some (.inl s)) (fun z=>some (.inr z))
theorem L200x2_5n (F:Nat) (y188:Vector UInt32 64) (y175:UInt32) (y176:UInt32) (y177:UInt32) (y178:UInt32) (y179:UInt32) (y180:UInt32) (y181:UInt32) (y182:UInt32) (y183:Int) {β:Type} (kA:(UInt32×UInt32×UInt32×UInt32×UInt32×UInt32×UInt32×UInt32×Int)->Option β) (kO:(UInt32×UInt32×UInt32×UInt32×UInt32×UInt32×UInt32×UInt32)->Option β):L200x2_5c F y188 y175 y176 y177 y178 y179 y180 y181 y182 y183 kA kO=(L200x2_5 F y188 y175 y176 y177 y178 y179 y180 y181 y182 y183).bind (elimS kA kO):=by
 simp only [L200x2_5,L200x2_5c,Option.bind_assoc,cond_bind,Option.bind_some,Option.bind_none,elimS_l,elimS_r,elimS_bind]
abbrev sA200x2_5:List Sh:=[(.pt 0 [0,0]),(.pt 1 []),(.pt 2 []),.u32,.u32,.u32,.u32,.u32,.u32,.u32,.u32,.i]
abbrev sAp1200x2_5:List Sh:=[(.pt 0 [0,0]),(.pt 1 []),.u32,.u32,.u32,.u32,.u32,.u32,.u32,.u32]
abbrev sT200x2_5:List TSh:=[.blk 230 (.pr (.pr (.pr (.ar 8 .u32) (.pr (.ar 64 .u8) (.pr .i .un))) (.pr (.ar 64 .u8) .un)) .un),.blk 231 (.ar 64 .u32),.blk 192 (.ar 8 .u32)]
abbrev sTp1200x2_5:List TSh:=[.blk 230 (.pr (.pr (.pr (.ar 8 .u32) (.pr (.ar 64 .u8) (.pr .i .un))) (.pr (.ar 64 .u8) .un)) .un),.blk 192 (.ar 8 .u32)]
def lc200x2_5 (F:Nat):Lc:=mkL [0,4,11,12,13,14,15,16,17,18,19,123] sA200x2_5 sT200x2_5 [0,11,12,13,14,15,16,17,18,19] sAp1200x2_5 sTp1200x2_5 F (fun x y (s:UInt32×UInt32×UInt32×UInt32×UInt32×UInt32×UInt32×UInt32×Int)=>L200x2_5 F y.2.1 s.1 s.2.1 s.2.2.1 s.2.2.2.1 s.2.2.2.2.1 s.2.2.2.2.2.1 s.2.2.2.2.2.2.1 s.2.2.2.2.2.2.2.1 s.2.2.2.2.2.2.2.2) (fun x y=>(x.2.2.2.1,x.2.2.2.2.1,x.2.2.2.2.2.1,x.2.2.2.2.2.2.1,x.2.2.2.2.2.2.2.1,x.2.2.2.2.2.2.2.2.1,x.2.2.2.2.2.2.2.2.2.1,x.2.2.2.2.2.2.2.2.2.2.1,x.2.2.2.2.2.2.2.2.2.2.2.1)) (fun x y (z:UInt32×UInt32×UInt32×UInt32×UInt32×UInt32×UInt32×UInt32)=>(((),(),z.1,z.2.1,z.2.2.1,z.2.2.2.1,z.2.2.2.2.1,z.2.2.2.2.2.1,z.2.2.2.2.2.2.1,z.2.2.2.2.2.2.2,()),((((y.1.1.1.1,y.1.1.1.2.1,y.1.1.1.2.2.1,()),y.1.1.2.1,()),()),y.2.2.1,())))
theorem le200x2_5 (F:Nat) (x:dens sA200x2_5) (y:tdens sT200x2_5) (s:UInt32×UInt32×UInt32×UInt32×UInt32×UInt32×UInt32×UInt32×Int):sev (E200x2 F) 1 [] (cAt (bodyOf Tryz.f200) (0 :: 0 :: [1,0,1,1,1,1])) (0 :: 0 :: [1,0,1,1,1,1]) (mkSt [0,4,11,12,13,14,15,16,17,18,19,123] sA200x2_5 sT200x2_5 ((),(),(),s.1,s.2.1,s.2.2.1,s.2.2.2.1,s.2.2.2.2.1,s.2.2.2.2.2.1,s.2.2.2.2.2.2.1,s.2.2.2.2.2.2.2.1,s.2.2.2.2.2.2.2.2,()) ((((y.1.1.1.1,y.1.1.1.2.1,y.1.1.1.2.2.1,()),y.1.1.2.1,()),()),y.2.1,y.2.2.1,())) (kLoop 1 [0,4,11,12,13,14,15,16,17,18,19,123] sA200x2_5 sT200x2_5 [0,11,12,13,14,15,16,17,18,19] sAp1200x2_5 sTp1200x2_5 [] [] [] 2 (fun x y=>some (.inl (x,y))) (fun x y=>some (.inr (.inl (x,y)))) (fun x y=>some (.inr (.inr (x,y))))) =
  L200x2_5c (β:=Full sA200x2_5 sT200x2_5 sAp1200x2_5 sTp1200x2_5 [] []) F y.2.1 s.1 s.2.1 s.2.2.1 s.2.2.2.1 s.2.2.2.2.1 s.2.2.2.2.2.1 s.2.2.2.2.2.2.1 s.2.2.2.2.2.2.2.1 s.2.2.2.2.2.2.2.2 (fun s=>some (.inl (((),(),(),s.1,s.2.1,s.2.2.1,s.2.2.2.1,s.2.2.2.2.1,s.2.2.2.2.2.1,s.2.2.2.2.2.2.1,s.2.2.2.2.2.2.2.1,s.2.2.2.2.2.2.2.2,()),((((y.1.1.1.1,y.1.1.1.2.1,y.1.1.1.2.2.1,()),y.1.1.2.1,()),()),y.2.1,y.2.2.1,())))) (fun z=>some (.inr (.inl (((),(),z.1,z.2.1,z.2.2.1,z.2.2.2.1,z.2.2.2.2.1,z.2.2.2.2.2.1,z.2.2.2.2.2.2.1,z.2.2.2.2.2.2.2,()),((((y.1.1.1.1,y.1.1.1.2.1,y.1.1.1.2.2.1,()),y.1.1.2.1,()),()),y.2.2.1,()))))):=by kernel_rfl
theorem lo200x2_5 (F:Nat):LcOk Tryz.prog (E200x2 F) 1 (lc200x2_5 F) (cAt (bodyOf Tryz.f200) [1,0,1,1,1,1]):=
 mkL_ok (lp:=[]) (id:=2) (b:=cAt (bodyOf Tryz.f200) (0 :: 0 :: [1,0,1,1,1,1])) cok (cts200x2 F) mixed trivial (by kernel_rfl) (by kernel_rfl) (fun x y s=>((),(),(),s.1,s.2.1,s.2.2.1,s.2.2.2.1,s.2.2.2.2.1,s.2.2.2.2.2.1,s.2.2.2.2.2.2.1,s.2.2.2.2.2.2.2.1,s.2.2.2.2.2.2.2.2,())) (fun x y s=>((((y.1.1.1.1,y.1.1.1.2.1,y.1.1.1.2.2.1,()),y.1.1.2.1,()),()),y.2.1,y.2.2.1,())) (fun x y=>rfl) (fun x y=>rfl) (fun x y s kA kO=>L200x2_5c F y.2.1 s.1 s.2.1 s.2.2.1 s.2.2.2.1 s.2.2.2.2.1 s.2.2.2.2.2.1 s.2.2.2.2.2.2.1 s.2.2.2.2.2.2.2.1 s.2.2.2.2.2.2.2.2 kA kO) (fun x y s kA kO=>L200x2_5n F y.2.1 s.1 s.2.1 s.2.2.1 s.2.2.2.1 s.2.2.2.2.1 s.2.2.2.2.2.1 s.2.2.2.2.2.2.1 s.2.2.2.2.2.2.2.1 s.2.2.2.2.2.2.2.2 kA kO) (le200x2_5 F)
def L200x2_6c (F:Nat) (y209:Vector UInt32 8) (y215:Vector UInt32 8) (y210:Int) (y211:Vector UInt32 8) {β:Type} (kA:(Int×(Vector UInt32 8))->Option β) (kO:((Vector UInt32 8))->Option β):Option β:=
 (bif (decide (y210 < (8:Int))) then (Option.bind (vix y209 y210) fun x220=>(Option.bind (inb 8 y210) fun x221=>(Option.bind (vat y215 x221) fun x222=>(Option.bind (inb 8 y210) fun x223=>(kA ((w64 (y210 + (1:Int))),(Vector.setIfInBounds y211 x223 (x222 + x220)))))))) else (kO y211))
def L200x2_6 (F:Nat) (y209:Vector UInt32 8) (y215:Vector UInt32 8) (y210:Int) (y211:Vector UInt32 8):Option ((Int×(Vector UInt32 8)) ⊕ ((Vector UInt32 8))):=L200x2_6c F y209 y215 y210 y211 (fun s=>some (.inl s)) (fun z=>some (.inr z))
theorem L200x2_6n (F:Nat) (y209:Vector UInt32 8) (y215:Vector UInt32 8) (y210:Int) (y211:Vector UInt32 8) {β:Type} (kA:(Int×(Vector UInt32 8))->Option β) (kO:((Vector UInt32 8))->Option β):L200x2_6c F y209 y215 y210 y211 kA kO=(L200x2_6 F y209 y215 y210 y211).bind (elimS kA kO):=by
 simp only [L200x2_6,L200x2_6c,Option.bind_assoc,cond_bind,Option.bind_some,Option.bind_none,elimS_l,elimS_r,elimS_bind]
abbrev sA200x2_6:List Sh:=[(.pt 0 [0,0]),(.pt 1 []),(.ar 8 .u32),.i]
abbrev sAp1200x2_6:List Sh:=[]
abbrev sT200x2_6:List TSh:=[.blk 230 (.pr (.pr (.pr (.ar 8 .u32) (.pr (.ar 64 .u8) (.pr .i .un))) (.pr (.ar 64 .u8) .un)) .un),.blk 192 (.ar 8 .u32)]
abbrev sTp1200x2_6:List TSh:=[.blk 230 (.pr (.pr (.pr (.ar 8 .u32) (.pr (.ar 64 .u8) (.pr .i .un))) (.pr (.ar 64 .u8) .un)) .un)]
def lc200x2_6 (F:Nat):Lc:=mkL [0,11,196,197] sA200x2_6 sT200x2_6 [] sAp1200x2_6 sTp1200x2_6 F (fun x y (s:Int×(Vector UInt32 8))=>L200x2_6 F x.2.2.1 y.2.1 s.1 s.2) (fun x y=>(x.2.2.2.1,y.1.1.1.1)) (fun x y (z:(Vector UInt32 8))=>((),((((z,y.1.1.1.2.1,y.1.1.1.2.2.1,()),y.1.1.2.1,()),()),())))
theorem le200x2_6 (F:Nat) (x:dens sA200x2_6) (y:tdens sT200x2_6) (s:Int×(Vector UInt32 8)):sev (E200x2 F) 1 [] (cAt (bodyOf Tryz.f200) (0 :: 0 :: [1,1,1,1,1,1])) (0 :: 0 :: [1,1,1,1,1,1]) (mkSt [0,11,196,197] sA200x2_6 sT200x2_6 ((),(),x.2.2.1,s.1,()) ((((s.2,y.1.1.1.2.1,y.1.1.1.2.2.1,()),y.1.1.2.1,()),()),y.2.1,())) (kLoop 1 [0,11,196,197] sA200x2_6 sT200x2_6 [] sAp1200x2_6 sTp1200x2_6 [] [] [] 4 (fun x y=>some (.inl (x,y))) (fun x y=>some (.inr (.inl (x,y)))) (fun x y=>some (.inr (.inr (x,y))))) =
  L200x2_6c (β:=Full sA200x2_6 sT200x2_6 sAp1200x2_6 sTp1200x2_6 [] []) F x.2.2.1 y.2.1 s.1 s.2 (fun s=>some (.inl (((),(),x.2.2.1,s.1,()),((((s.2,y.1.1.1.2.1,y.1.1.1.2.2.1,()),y.1.1.2.1,()),()),y.2.1,())))) (fun z=>some (.inr (.inl ((),((((z,y.1.1.1.2.1,y.1.1.1.2.2.1,()),y.1.1.2.1,()),()),()))))):=by kernel_rfl
theorem lo200x2_6 (F:Nat):LcOk Tryz.prog (E200x2 F) 1 (lc200x2_6 F) (cAt (bodyOf Tryz.f200) [1,1,1,1,1,1]):=
 mkL_ok (lp:=[]) (id:=4) (b:=cAt (bodyOf Tryz.f200) (0 :: 0 :: [1,1,1,1,1,1])) cok (cts200x2 F) mixed trivial (by kernel_rfl) (by kernel_rfl) (fun x y s=>((),(),x.2.2.1,s.1,())) (fun x y s=>((((s.2,y.1.1.1.2.1,y.1.1.1.2.2.1,()),y.1.1.2.1,()),()),y.2.1,())) (fun x y=>rfl) (fun x y=>rfl) (fun x y s kA kO=>L200x2_6c F x.2.2.1 y.2.1 s.1 s.2 kA kO) (fun x y s kA kO=>L200x2_6n F x.2.2.1 y.2.1 s.1 s.2 kA kO) (le200x2_6 F)
def T200x2c (F:Nat) (p0:Nat×Nat) (p1:Vector UInt32 8) (p2:Vector UInt8 64) {β:Type} (k:((Vector UInt32 8))->Option β):Option β:=
 (Option.bind (iter (fun s=>L200x2_4 F p2 s.1 s.2.1 s.2.2) F ((p0.1,p0.2),(0:Int),(Vector.replicate 64 (0:UInt32)))) fun z166=>(Option.bind (vat p1 0) fun x167=>(Option.bind (vat p1 1) fun x168=>(Option.bind (vat p1 2) fun x169=>(Option.bind (vat p1 3) fun x170=>(Option.bind (vat p1 4) fun x171=>(Option.bind (vat p1 5) fun x172=>(Option.bind (vat p1 6) fun x173=>(Option.bind (vat p1 7) fun x174=>(Option.bind (iter (fun s=>L200x2_5 F z166 s.1 s.2.1 s.2.2.1 s.2.2.2.1 s.2.2.2.2.1 s.2.2.2.2.2.1 s.2.2.2.2.2.2.1 s.2.2.2.2.2.2.2.1 s.2.2.2.2.2.2.2.2) F (x167,x168,x169,x170,x171,x172,x173,x174,(0:Int))) fun z208=>(Option.bind (iter (fun s=>L200x2_6 F (#v[z208.1,z208.2.1,z208.2.2.1,z208.2.2.2.1,z208.2.2.2.2.1,z208.2.2.2.2.2.1,z208.2.2.2.2.2.2.1,z208.2.2.2.2.2.2.2]:Vector UInt32 8) p1 s.1 s.2) F ((0:Int),p1)) fun z224=>(k z224))))))))))))
def T200x2 (F:Nat) (p0:Nat×Nat) (p1:Vector UInt32 8) (p2:Vector UInt8 64):Option ((Vector UInt32 8)):=T200x2c F p0 p1 p2 some
theorem T200x2n (F:Nat) (p0:Nat×Nat) (p1:Vector UInt32 8) (p2:Vector UInt8 64) {β:Type} (k:((Vector UInt32 8))->Option β):T200x2c F p0 p1 p2 k=(T200x2 F p0 p1 p2).bind k:=by
 simp only [T200x2,T200x2c,Option.bind_assoc,cond_bind,Option.bind_some,Option.bind_none,elimS_bind]
abbrev cA200x2:List Sh:=[(.pt 0 [0,0]),(.ap 0 [0,0,1])]
abbrev cB200x2:List Sh:=[]
abbrev cT200x2:List TSh:=[.blk 230 (.pr (.pr (.pr (.ar 8 .u32) (.pr (.ar 64 .u8) (.pr .i .un))) (.pr (.ar 64 .u8) .un)) .un)]
abbrev cU200x2:List TSh:=[.blk 230 (.pr (.pr (.pr (.ar 8 .u32) (.pr (.ar 64 .u8) (.pr .i .un))) (.pr (.ar 64 .u8) .un)) .un)]
def ct200x2 (F:Nat):Ct:=mkC 1 cA200x2 cT200x2 cB200x2 cU200x2 (fun x y=>T200x2 F x.2.1 y.1.1.1.1 y.1.1.1.2.1) (fun x y (z:(Vector UInt32 8))=>((),((((z,y.1.1.1.2.1,y.1.1.1.2.2.1,()),y.1.1.2.1,()),()),())))
theorem eq200x2 (F:Nat) (x:dens cA200x2) (y:tdens cT200x2):sev (E200x2 F) 1 [([1,0,1],lc200x2_4 F),([1,0,1,1,1,1],lc200x2_5 F),([1,1,1,1,1,1],lc200x2_6 F)] (bodyOf Tryz.f200) [] (mkSt (rng 2) cA200x2 cT200x2 x y) (kFn (E200x2 F) 1 Tryz.f200.results.toList cB200x2 cU200x2 fun p q=>some (p,q)) =
  T200x2c F x.2.1 y.1.1.1.1 y.1.1.1.2.1 (fun z=>some ((),((((z,y.1.1.1.2.1,y.1.1.1.2.2.1,()),y.1.1.2.1,()),()),()))):=by kernel_rfl
theorem ok200x2 (F:Nat):Sound Tryz.prog cfg 200 (ct200x2 F):=
 mkC_ok (E:=E200x2 F) (lp:=[([1,0,1],lc200x2_4 F),([1,0,1,1,1,1],lc200x2_5 F),([1,1,1,1,1,1],lc200x2_6 F)]) (code:=bodyOf Tryz.f200) Tryz.func200 rfl Tryz.ntmps200 rfl rfl cok (cts200x2 F) mixed ⟨lo200x2_4 F,⟨lo200x2_5 F,⟨lo200x2_6 F,trivial⟩⟩⟩ (by kernel_rfl) (fun x y k=>T200x2c F x.2.1 y.1.1.1.1 y.1.1.1.2.1 k) (fun x y k=>T200x2n F x.2.1 y.1.1.1.1 y.1.1.1.2.1 k) (eq200x2 F)
def ord200x3:Nat->List (Tag×Nat)
 | 6=>[(.p,0),(.p,1),(.p,2),(.r,3),(.p,4),(.p,5),(.p,6),(.p,7),(.r,8),(.p,9),(.p,10),(.p,11),(.p,12),(.p,13),(.r,14),(.p,15),(.p,16),(.p,17),(.p,18),(.p,19),(.r,20),(.p,21),(.p,22),(.p,23),(.w,24)]
 | 7=>[(.p,0),(.p,1),(.p,2),(.r,3),(.p,4),(.p,5),(.p,6),(.r,7),(.p,8),(.p,9)]
 | 10=>[(.p,0),(.p,1),(.p,2),(.p,3),(.p,4),(.r,5),(.p,6),(.p,7),(.p,8),(.p,9),(.p,10),(.p,11),(.r,12),(.p,13),(.p,14),(.w,15)]
 | 13=>[(.p,0),(.r,1),(.p,2),(.r,3),(.p,4),(.r,5),(.p,6),(.r,7),(.p,8),(.r,9),(.p,10),(.r,11),(.p,12),(.r,13),(.p,14),(.r,15),(.p,16),(.p,17),(.p,18),(.p,19),(.p,20),(.p,21),(.p,22),(.p,23)]
 | 19=>[(.p,0),(.p,1),(.p,2),(.p,3),(.p,4),(.p,5),(.p,6),(.p,7),(.p,8),(.p,9),(.p,10),(.p,11),(.p,12),(.p,13),(.r,14),(.p,15),(.p,16),(.p,17),(.r,18),(.p,19),(.p,20)]
 | 26=>[(.p,0),(.p,1),(.p,2),(.p,3),(.r,4),(.p,5),(.p,6),(.p,7),(.p,8),(.p,9),(.w,10)]
 | _=>[]
def al200x3:Nat->Option Nat
 | _=>none
def ms200x3:Nat->Option (List (Option Tag×Nat×List Nat))
 | _=>none
def E200x3 (F:Nat):Ev:=⟨cfg,212,ctOf [(201,ct201 F)],ord200x3,ctOf [],al200x3,ms200x3⟩
theorem cts200x3 (F:Nat):CtsOk Tryz.prog (E200x3 F):=cts_of (l:=[(201,ct201 F)]) (l':=[]) rfl rfl ⟨⟨ok201 F,_,Tryz.func201,rfl,rfl⟩,trivial⟩ trivial
def L200x3_4c (F:Nat) (y105:List UInt8) (y106:Int) (y111:Vector UInt32 64) {β:Type} (kA:(Int×(Vector UInt32 64))->Option β) (kO:((Vector UInt32 64))->Option β):Option β:=
 (bif (decide (y106 < (64:Int))) then (bif (decide (y106 < (16:Int))) then (Option.bind (gsl y105 (w64 ((4:Int) * y106)) (w64 ((w64 ((4:Int) * y106)) + (4:Int)))) fun x131=>(Option.bind (ix x131 (0:Int)) fun x132=>(Option.bind (ix x131 (1:Int)) fun x133=>(Option.bind (ix x131 (2:Int)) fun x134=>(Option.bind (ix x131 (3:Int)) fun x135=>(Option.bind (inb 64 y106) fun x136=>(kA ((w64 (y106 + (1:Int))),(Vector.setIfInBounds y111 x136 ((((shl32 (x132.toUInt32) ((UInt64.ofNat 24).toNat)) ||| (shl32 (x133.toUInt32) ((UInt64.ofNat 16).toNat))) ||| (shl32 (x134.toUInt32) ((UInt64.ofNat 8).toNat))) ||| (x135.toUInt32))))))))))) else (Option.bind (inb 64 (w64 (y106 - (2:Int)))) fun x137=>(Option.bind (vat y111 x137) fun x138=>(Option.bind (inb 64 (w64 (y106 - (15:Int)))) fun x139=>(Option.bind (vat y111 x139) fun x140=>(Option.bind (T201 F x138 (-17:Int)) fun z141=>(Option.bind (T201 F x138 (-19:Int)) fun z142=>(Option.bind (T201 F x140 (-7:Int)) fun z143=>(Option.bind (T201 F x140 (-18:Int)) fun z144=>(Option.bind (inb 64 (w64 (y106 - (7:Int)))) fun x145=>(Option.bind (vat y111 x145) fun x146=>(Option.bind (inb 64 (w64 (y106 - (16:Int)))) fun x147=>(Option.bind (vat y111 x147) fun x148=>(Option.bind (inb 64 y106) fun x149=>(kA ((w64 (y106 + (1:Int))),(Vector.setIfInBounds y111 x149 (((((z141 ^^^ z142) ^^^ (shr32 x138 ((UInt64.ofNat 10).toNat))) + x146) + ((z143 ^^^ z144) ^^^ (shr32 x140 ((UInt64.ofNat 3).toNat)))) + x148)))))))))))))))))) else (kO y111))
def L200x3_4 (F:Nat) (y105:List UInt8) (y106:Int) (y111:Vector UInt32 64):Option ((Int×(Vector UInt32 64)) ⊕ ((Vector UInt32 64))):=L200x3_4c F y105 y106 y111 (fun s=>some (.inl s)) (fun z=>some (.inr z))
theorem L200x3_4n (F:Nat) (y105:List UInt8) (y106:Int) (y111:Vector UInt32 64) {β:Type} (kA:(Int×(Vector UInt32 64))->Option β) (kO:((Vector UInt32 64))->Option β):L200x3_4c F y105 y106 y111 kA kO=(L200x3_4 F y105 y106 y111).bind (elimS kA kO):=by
 simp only [L200x3_4,L200x3_4c,Option.bind_assoc,cond_bind,Option.bind_some,Option.bind_none,elimS_l,elimS_r,elimS_bind]
abbrev sA200x3_4:List Sh:=[(.pt 0 [0,0]),(.ro .u8),(.pt 1 []),.i]
abbrev sAp1200x3_4:List Sh:=[(.pt 0 [0,0]),(.pt 1 [])]
abbrev sT200x3_4:List TSh:=[.blk 230 (.pr (.pr (.pr (.ar 8 .u32) (.pr (.ar 64 .u8) (.pr .i .un))) (.pr (.ar 64 .u8) .un)) .un),.blk 231 (.ar 64 .u32)]
abbrev sTp1200x3_4:List TSh:=[.blk 230 (.pr (.pr (.pr (.ar 8 .u32) (.pr (.ar 64 .u8) (.pr .i .un))) (.pr (.ar 64 .u8) .un)) .un),.blk 231 (.ar 64 .u32)]
def lc200x3_4 (F:Nat):Lc:=mkL [0,1,4,27] sA200x3_4 sT200x3_4 [0,4] sAp1200x3_4 sTp1200x3_4 F (fun x y (s:Int×(Vector UInt32 64))=>L200x3_4 F x.2.1 s.1 s.2) (fun x y=>(x.2.2.2.1,y.2.1)) (fun x y (z:(Vector UInt32 64))=>(((),(),()),((((y.1.1.1.1,y.1.1.1.2.1,y.1.1.1.2.2.1,()),y.1.1.2.1,()),()),z,())))
theorem le200x3_4 (F:Nat) (x:dens sA200x3_4) (y:tdens sT200x3_4) (s:Int×(Vector UInt32 64)):sev (E200x3 F) 1 [] (cAt (bodyOf Tryz.f200) (0 :: 0 :: [1,0,1])) (0 :: 0 :: [1,0,1]) (mkSt [0,1,4,27] sA200x3_4 sT200x3_4 ((),x.2.1,(),s.1,()) ((((y.1.1.1.1,y.1.1.1.2.1,y.1.1.1.2.2.1,()),y.1.1.2.1,()),()),s.2,())) (kLoop 1 [0,1,4,27] sA200x3_4 sT200x3_4 [0,4] sAp1200x3_4 sTp1200x3_4 [] [] [] 0 (fun x y=>some (.inl (x,y))) (fun x y=>some (.inr (.inl (x,y)))) (fun x y=>some (.inr (.inr (x,y))))) =
  L200x3_4c (β:=Full sA200x3_4 sT200x3_4 sAp1200x3_4 sTp1200x3_4 [] []) F x.2.1 s.1 s.2 (fun s=>some (.inl (((),x.2.1,(),s.1,()),((((y.1.1.1.1,y.1.1.1.2.1,y.1.1.1.2.2.1,()),y.1.1.2.1,()),()),s.2,())))) (fun z=>some (.inr (.inl (((),(),()),((((y.1.1.1.1,y.1.1.1.2.1,y.1.1.1.2.2.1,()),y.1.1.2.1,()),()),z,()))))):=by kernel_rfl
theorem lo200x3_4 (F:Nat):LcOk Tryz.prog (E200x3 F) 1 (lc200x3_4 F) (cAt (bodyOf Tryz.f200) [1,0,1]):=
 mkL_ok (lp:=[]) (id:=0) (b:=cAt (bodyOf Tryz.f200) (0 :: 0 :: [1,0,1])) cok (cts200x3 F) mixed trivial (by kernel_rfl) (by kernel_rfl) (fun x y s=>((),x.2.1,(),s.1,())) (fun x y s=>((((y.1.1.1.1,y.1.1.1.2.1,y.1.1.1.2.2.1,()),y.1.1.2.1,()),()),s.2,())) (fun x y=>rfl) (fun x y=>rfl) (fun x y s kA kO=>L200x3_4c F x.2.1 s.1 s.2 kA kO) (fun x y s kA kO=>L200x3_4n F x.2.1 s.1 s.2 kA kO) (le200x3_4 F)
def L200x3_5c (F:Nat) (y172:Vector UInt32 64) (y159:UInt32) (y160:UInt32) (y161:UInt32) (y162:UInt32) (y163:UInt32) (y164:UInt32) (y165:UInt32) (y166:UInt32) (y167:Int) {β:Type} (kA:(UInt32×UInt32×UInt32×UInt32×UInt32×UInt32×UInt32×UInt32×Int)->Option β) (kO:(UInt32×UInt32×UInt32×UInt32×UInt32×UInt32×UInt32×UInt32)->Option β):Option β:=
 (bif (decide (y167 < (64:Int))) then (Option.bind (T201 F y163 (-6:Int)) fun z183=>(Option.bind (T201 F y163 (-11:Int)) fun z184=>(Option.bind (T201 F y163 (-25:Int)) fun z185=>(Option.bind (T201 F y159 (-2:Int)) fun z186=>(Option.bind (T201 F y159 (-13:Int)) fun z187=>(Option.bind (T201 F y159 (-22:Int)) fun z188=>(Option.bind (vix (gv2) y167) fun x189=>(Option.bind (inb 64 y167) fun x190=>(Option.bind (vat y172 x190) fun x191=>(kA ((((((y166 + ((z183 ^^^ z184) ^^^ z185)) + ((y163 &&& y164) ^^^ ((~~~y163) &&& y165))) + x189) + x191) + (((z186 ^^^ z187) ^^^ z188) + (((y159 &&& y160) ^^^ (y159 &&& y161)) ^^^ (y160 &&& y161)))),y159,y160,y161,(y162 + ((((y166 + ((z183 ^^^ z184) ^^^ z185)) + ((y163 &&& y164) ^^^ ((~~~y163) &&& y165))) + x189) + x191)),y163,y164,y165,(w64 (y167 + (1:Int)))))))))))))) else (kO (y159,y160,y161,y162,y163,y164,y165,y166)))
def L200x3_5 (F:Nat) (y172:Vector UInt32 64) (y159:UInt32) (y160:UInt32) (y161:UInt32) (y162:UInt32) (y163:UInt32) (y164:UInt32) (y165:UInt32) (y166:UInt32) (y167:Int):Option ((UInt32×UInt32×UInt32×UInt32×UInt32×UInt32×UInt32×UInt32×Int) ⊕ (UInt32×UInt32×UInt32×UInt32×UInt32×UInt32×UInt32×UInt32)):=L200x3_5c F y172 y159 y160 y161 y162 y163 y164 y165 y166 y167 (fun s=>some (.inl s)) (fun z=>some (.inr z))
theorem L200x3_5n (F:Nat) (y172:Vector UInt32 64) (y159:UInt32) (y160:UInt32) (y161:UInt32) (y162:UInt32) (y163:UInt32) (y164:UInt32) (y165:UInt32) (y166:UInt32) (y167:Int) {β:Type} (kA:(UInt32×UInt32×UInt32×UInt32×UInt32×UInt32×UInt32×UInt32×Int)->Option β) (kO:(UInt32×UInt32×UInt32×UInt32×UInt32×UInt32×UInt32×UInt32)->Option β):L200x3_5c F y172 y159 y160 y161 y162 y163 y164 y165 y166 y167 kA kO=(L200x3_5 F y172 y159 y160 y161 y162 y163 y164 y165 y166 y167).bind (elimS kA kO):=by
 simp only [L200x3_5,L200x3_5c,Option.bind_assoc,cond_bind,Option.bind_some,Option.bind_none,elimS_l,elimS_r,elimS_bind]
abbrev sA200x3_5:List Sh:=[(.pt 0 [0,0]),(.pt 1 []),(.pt 2 []),.u32,.u32,.u32,.u32,.u32,.u32,.u32,.u32,.i]
abbrev sAp1200x3_5:List Sh:=[(.pt 0 [0,0]),(.pt 1 []),.u32,.u32,.u32,.u32,.u32,.u32,.u32,.u32]
abbrev sT200x3_5:List TSh:=[.blk 230 (.pr (.pr (.pr (.ar 8 .u32) (.pr (.ar 64 .u8) (.pr .i .un))) (.pr (.ar 64 .u8) .un)) .un),.blk 231 (.ar 64 .u32),.blk 192 (.ar 8 .u32)]
abbrev sTp1200x3_5:List TSh:=[.blk 230 (.pr (.pr (.pr (.ar 8 .u32) (.pr (.ar 64 .u8) (.pr .i .un))) (.pr (.ar 64 .u8) .un)) .un),.blk 192 (.ar 8 .u32)]
def lc200x3_5 (F:Nat):Lc:=mkL [0,4,11,12,13,14,15,16,17,18,19,123] sA200x3_5 sT200x3_5 [0,11,12,13,14,15,16,17,18,19] sAp1200x3_5 sTp1200x3_5 F (fun x y (s:UInt32×UInt32×UInt32×UInt32×UInt32×UInt32×UInt32×UInt32×Int)=>L200x3_5 F y.2.1 s.1 s.2.1 s.2.2.1 s.2.2.2.1 s.2.2.2.2.1 s.2.2.2.2.2.1 s.2.2.2.2.2.2.1 s.2.2.2.2.2.2.2.1 s.2.2.2.2.2.2.2.2) (fun x y=>(x.2.2.2.1,x.2.2.2.2.1,x.2.2.2.2.2.1,x.2.2.2.2.2.2.1,x.2.2.2.2.2.2.2.1,x.2.2.2.2.2.2.2.2.1,x.2.2.2.2.2.2.2.2.2.1,x.2.2.2.2.2.2.2.2.2.2.1,x.2.2.2.2.2.2.2.2.2.2.2.1)) (fun x y (z:UInt32×UInt32×UInt32×UInt32×UInt32×UInt32×UInt32×UInt32)=>(((),(),z.1,z.2.1,z.2.2.1,z.2.2.2.1,z.2.2.2.2.1,z.2.2.2.2.2.1,z.2.2.2.2.2.2.1,z.2.2.2.2.2.2.2,()),((((y.1.1.1.1,y.1.1.1.2.1,y.1.1.1.2.2.1,()),y.1.1.2.1,()),()),y.2.2.1,())))
theorem le200x3_5 (F:Nat) (x:dens sA200x3_5) (y:tdens sT200x3_5) (s:UInt32×UInt32×UInt32×UInt32×UInt32×UInt32×UInt32×UInt32×Int):sev (E200x3 F) 1 [] (cAt (bodyOf Tryz.f200) (0 :: 0 :: [1,0,1,1,1,1])) (0 :: 0 :: [1,0,1,1,1,1]) (mkSt [0,4,11,12,13,14,15,16,17,18,19,123] sA200x3_5 sT200x3_5 ((),(),(),s.1,s.2.1,s.2.2.1,s.2.2.2.1,s.2.2.2.2.1,s.2.2.2.2.2.1,s.2.2.2.2.2.2.1,s.2.2.2.2.2.2.2.1,s.2.2.2.2.2.2.2.2,()) ((((y.1.1.1.1,y.1.1.1.2.1,y.1.1.1.2.2.1,()),y.1.1.2.1,()),()),y.2.1,y.2.2.1,())) (kLoop 1 [0,4,11,12,13,14,15,16,17,18,19,123] sA200x3_5 sT200x3_5 [0,11,12,13,14,15,16,17,18,19] sAp1200x3_5 sTp1200x3_5 [] [] [] 2 (fun x y=>some (.inl (x,y))) (fun x y=>some (.inr (.inl (x,y)))) (fun x y=>some (.inr (.inr (x,y))))) =
  L200x3_5c (β:=Full sA200x3_5 sT200x3_5 sAp1200x3_5 sTp1200x3_5 [] []) F y.2.1 s.1 s.2.1 s.2.2.1 s.2.2.2.1 s.2.2.2.2.1 s.2.2.2.2.2.1 s.2.2.2.2.2.2.1 s.2.2.2.2.2.2.2.1 s.2.2.2.2.2.2.2.2 (fun s=>some (.inl (((),(),(),s.1,s.2.1,s.2.2.1,s.2.2.2.1,s.2.2.2.2.1,s.2.2.2.2.2.1,s.2.2.2.2.2.2.1,s.2.2.2.2.2.2.2.1,s.2.2.2.2.2.2.2.2,()),((((y.1.1.1.1,y.1.1.1.2.1,y.1.1.1.2.2.1,()),y.1.1.2.1,()),()),y.2.1,y.2.2.1,())))) (fun z=>some (.inr (.inl (((),(),z.1,z.2.1,z.2.2.1,z.2.2.2.1,z.2.2.2.2.1,z.2.2.2.2.2.1,z.2.2.2.2.2.2.1,z.2.2.2.2.2.2.2,()),((((y.1.1.1.1,y.1.1.1.2.1,y.1.1.1.2.2.1,()),y.1.1.2.1,()),()),y.2.2.1,()))))):=by kernel_rfl
theorem lo200x3_5 (F:Nat):LcOk Tryz.prog (E200x3 F) 1 (lc200x3_5 F) (cAt (bodyOf Tryz.f200) [1,0,1,1,1,1]):=
 mkL_ok (lp:=[]) (id:=2) (b:=cAt (bodyOf Tryz.f200) (0 :: 0 :: [1,0,1,1,1,1])) cok (cts200x3 F) mixed trivial (by kernel_rfl) (by kernel_rfl) (fun x y s=>((),(),(),s.1,s.2.1,s.2.2.1,s.2.2.2.1,s.2.2.2.2.1,s.2.2.2.2.2.1,s.2.2.2.2.2.2.1,s.2.2.2.2.2.2.2.1,s.2.2.2.2.2.2.2.2,())) (fun x y s=>((((y.1.1.1.1,y.1.1.1.2.1,y.1.1.1.2.2.1,()),y.1.1.2.1,()),()),y.2.1,y.2.2.1,())) (fun x y=>rfl) (fun x y=>rfl) (fun x y s kA kO=>L200x3_5c F y.2.1 s.1 s.2.1 s.2.2.1 s.2.2.2.1 s.2.2.2.2.1 s.2.2.2.2.2.1 s.2.2.2.2.2.2.1 s.2.2.2.2.2.2.2.1 s.2.2.2.2.2.2.2.2 kA kO) (fun x y s kA kO=>L200x3_5n F y.2.1 s.1 s.2.1 s.2.2.1 s.2.2.2.1 s.2.2.2.2.1 s.2.2.2.2.2.1 s.2.2.2.2.2.2.1 s.2.2.2.2.2.2.2.1 s.2.2.2.2.2.2.2.2 kA kO) (le200x3_5 F)
def L200x3_6c (F:Nat) (y193:Vector UInt32 8) (y199:Vector UInt32 8) (y194:Int) (y195:Vector UInt32 8) {β:Type} (kA:(Int×(Vector UInt32 8))->Option β) (kO:((Vector UInt32 8))->Option β):Option β:=
 (bif (decide (y194 < (8:Int))) then (Option.bind (vix y193 y194) fun x204=>(Option.bind (inb 8 y194) fun x205=>(Option.bind (vat y199 x205) fun x206=>(Option.bind (inb 8 y194) fun x207=>(kA ((w64 (y194 + (1:Int))),(Vector.setIfInBounds y195 x207 (x206 + x204)))))))) else (kO y195))
def L200x3_6 (F:Nat) (y193:Vector UInt32 8) (y199:Vector UInt32 8) (y194:Int) (y195:Vector UInt32 8):Option ((Int×(Vector UInt32 8)) ⊕ ((Vector UInt32 8))):=L200x3_6c F y193 y199 y194 y195 (fun s=>some (.inl s)) (fun z=>some (.inr z))
theorem L200x3_6n (F:Nat) (y193:Vector UInt32 8) (y199:Vector UInt32 8) (y194:Int) (y195:Vector UInt32 8) {β:Type} (kA:(Int×(Vector UInt32 8))->Option β) (kO:((Vector UInt32 8))->Option β):L200x3_6c F y193 y199 y194 y195 kA kO=(L200x3_6 F y193 y199 y194 y195).bind (elimS kA kO):=by
 simp only [L200x3_6,L200x3_6c,Option.bind_assoc,cond_bind,Option.bind_some,Option.bind_none,elimS_l,elimS_r,elimS_bind]
abbrev sA200x3_6:List Sh:=[(.pt 0 [0,0]),(.pt 1 []),(.ar 8 .u32),.i]
abbrev sAp1200x3_6:List Sh:=[]
abbrev sT200x3_6:List TSh:=[.blk 230 (.pr (.pr (.pr (.ar 8 .u32) (.pr (.ar 64 .u8) (.pr .i .un))) (.pr (.ar 64 .u8) .un)) .un),.blk 192 (.ar 8 .u32)]
abbrev sTp1200x3_6:List TSh:=[.blk 230 (.pr (.pr (.pr (.ar 8 .u32) (.pr (.ar 64 .u8) (.pr .i .un))) (.pr (.ar 64 .u8) .un)) .un)]
def lc200x3_6 (F:Nat):Lc:=mkL [0,11,196,197] sA200x3_6 sT200x3_6 [] sAp1200x3_6 sTp1200x3_6 F (fun x y (s:Int×(Vector UInt32 8))=>L200x3_6 F x.2.2.1 y.2.1 s.1 s.2) (fun x y=>(x.2.2.2.1,y.1.1.1.1)) (fun x y (z:(Vector UInt32 8))=>((),((((z,y.1.1.1.2.1,y.1.1.1.2.2.1,()),y.1.1.2.1,()),()),())))
theorem le200x3_6 (F:Nat) (x:dens sA200x3_6) (y:tdens sT200x3_6) (s:Int×(Vector UInt32 8)):sev (E200x3 F) 1 [] (cAt (bodyOf Tryz.f200) (0 :: 0 :: [1,1,1,1,1,1])) (0 :: 0 :: [1,1,1,1,1,1]) (mkSt [0,11,196,197] sA200x3_6 sT200x3_6 ((),(),x.2.2.1,s.1,()) ((((s.2,y.1.1.1.2.1,y.1.1.1.2.2.1,()),y.1.1.2.1,()),()),y.2.1,())) (kLoop 1 [0,11,196,197] sA200x3_6 sT200x3_6 [] sAp1200x3_6 sTp1200x3_6 [] [] [] 4 (fun x y=>some (.inl (x,y))) (fun x y=>some (.inr (.inl (x,y)))) (fun x y=>some (.inr (.inr (x,y))))) =
  L200x3_6c (β:=Full sA200x3_6 sT200x3_6 sAp1200x3_6 sTp1200x3_6 [] []) F x.2.2.1 y.2.1 s.1 s.2 (fun s=>some (.inl (((),(),x.2.2.1,s.1,()),((((s.2,y.1.1.1.2.1,y.1.1.1.2.2.1,()),y.1.1.2.1,()),()),y.2.1,())))) (fun z=>some (.inr (.inl ((),((((z,y.1.1.1.2.1,y.1.1.1.2.2.1,()),y.1.1.2.1,()),()),()))))):=by kernel_rfl
theorem lo200x3_6 (F:Nat):LcOk Tryz.prog (E200x3 F) 1 (lc200x3_6 F) (cAt (bodyOf Tryz.f200) [1,1,1,1,1,1]):=
 mkL_ok (lp:=[]) (id:=4) (b:=cAt (bodyOf Tryz.f200) (0 :: 0 :: [1,1,1,1,1,1])) cok (cts200x3 F) mixed trivial (by kernel_rfl) (by kernel_rfl) (fun x y s=>((),(),x.2.2.1,s.1,())) (fun x y s=>((((s.2,y.1.1.1.2.1,y.1.1.1.2.2.1,()),y.1.1.2.1,()),()),y.2.1,())) (fun x y=>rfl) (fun x y=>rfl) (fun x y s kA kO=>L200x3_6c F x.2.2.1 y.2.1 s.1 s.2 kA kO) (fun x y s kA kO=>L200x3_6n F x.2.2.1 y.2.1 s.1 s.2 kA kO) (le200x3_6 F)
def T200x3c (F:Nat) (p0:List UInt8) (p1:Vector UInt32 8) {β:Type} (k:((Vector UInt32 8))->Option β):Option β:=
 (Option.bind (iter (fun s=>L200x3_4 F p0 s.1 s.2) F ((0:Int),(Vector.replicate 64 (0:UInt32)))) fun z150=>(Option.bind (vat p1 0) fun x151=>(Option.bind (vat p1 1) fun x152=>(Option.bind (vat p1 2) fun x153=>(Option.bind (vat p1 3) fun x154=>(Option.bind (vat p1 4) fun x155=>(Option.bind (vat p1 5) fun x156=>(Option.bind (vat p1 6) fun x157=>(Option.bind (vat p1 7) fun x158=>(Option.bind (iter (fun s=>L200x3_5 F z150 s.1 s.2.1 s.2.2.1 s.2.2.2.1 s.2.2.2.2.1 s.2.2.2.2.2.1 s.2.2.2.2.2.2.1 s.2.2.2.2.2.2.2.1 s.2.2.2.2.2.2.2.2) F (x151,x152,x153,x154,x155,x156,x157,x158,(0:Int))) fun z192=>(Option.bind (iter (fun s=>L200x3_6 F (#v[z192.1,z192.2.1,z192.2.2.1,z192.2.2.2.1,z192.2.2.2.2.1,z192.2.2.2.2.2.1,z192.2.2.2.2.2.2.1,z192.2.2.2.2.2.2.2]:Vector UInt32 8) p1 s.1 s.2) F ((0:Int),p1)) fun z208=>(k z208))))))))))))
def T200x3 (F:Nat) (p0:List UInt8) (p1:Vector UInt32 8):Option ((Vector UInt32 8)):=T200x3c F p0 p1 some
theorem T200x3n (F:Nat) (p0:List UInt8) (p1:Vector UInt32 8) {β:Type} (k:((Vector UInt32 8))->Option β):T200x3c F p0 p1 k=(T200x3 F p0 p1).bind k:=by
 simp only [T200x3,T200x3c,Option.bind_assoc,cond_bind,Option.bind_some,Option.bind_none,elimS_bind]
abbrev cA200x3:List Sh:=[(.pt 0 [0,0]),(.ro .u8)]
abbrev cB200x3:List Sh:=[]
abbrev cT200x3:List TSh:=[.blk 230 (.pr (.pr (.pr (.ar 8 .u32) (.pr (.ar 64 .u8) (.pr .i .un))) (.pr (.ar 64 .u8) .un)) .un)]
abbrev cU200x3:List TSh:=[.blk 230 (.pr (.pr (.pr (.ar 8 .u32) (.pr (.ar 64 .u8) (.pr .i .un))) (.pr (.ar 64 .u8) .un)) .un)]
def ct200x3 (F:Nat):Ct:=mkC 1 cA200x3 cT200x3 cB200x3 cU200x3 (fun x y=>T200x3 F x.2.1 y.1.1.1.1) (fun x y (z:(Vector UInt32 8))=>((),((((z,y.1.1.1.2.1,y.1.1.1.2.2.1,()),y.1.1.2.1,()),()),())))
theorem eq200x3 (F:Nat) (x:dens cA200x3) (y:tdens cT200x3):sev (E200x3 F) 1 [([1,0,1],lc200x3_4 F),([1,0,1,1,1,1],lc200x3_5 F),([1,1,1,1,1,1],lc200x3_6 F)] (bodyOf Tryz.f200) [] (mkSt (rng 2) cA200x3 cT200x3 x y) (kFn (E200x3 F) 1 Tryz.f200.results.toList cB200x3 cU200x3 fun p q=>some (p,q)) =
  T200x3c F x.2.1 y.1.1.1.1 (fun z=>some ((),((((z,y.1.1.1.2.1,y.1.1.1.2.2.1,()),y.1.1.2.1,()),()),()))):=by kernel_rfl
theorem ok200x3 (F:Nat):Sound Tryz.prog cfg 200 (ct200x3 F):=
 mkC_ok (E:=E200x3 F) (lp:=[([1,0,1],lc200x3_4 F),([1,0,1,1,1,1],lc200x3_5 F),([1,1,1,1,1,1],lc200x3_6 F)]) (code:=bodyOf Tryz.f200) Tryz.func200 rfl Tryz.ntmps200 rfl rfl cok (cts200x3 F) mixed ⟨lo200x3_4 F,⟨lo200x3_5 F,⟨lo200x3_6 F,trivial⟩⟩⟩ (by kernel_rfl) (fun x y k=>T200x3c F x.2.1 y.1.1.1.1 k) (fun x y k=>T200x3n F x.2.1 y.1.1.1.1 k) (eq200x3 F)
def ord176x1:Nat->List (Tag×Nat)
 | _=>[]
def al176x1:Nat->Option Nat
 | _=>none
def ms176x1:Nat->Option (List (Option Tag×Nat×List Nat))
 | _=>none
def E176x1 (F:Nat):Ev:=⟨cfg,57,ctOf [(200,ct200x2 F),(200,ct200x3 F)],ord176x1,ctOf [],al176x1,ms176x1⟩
theorem cts176x1 (F:Nat):CtsOk Tryz.prog (E176x1 F):=cts_of (l:=[(200,ct200x2 F),(200,ct200x3 F)]) (l':=[]) rfl rfl ⟨⟨ok200x2 F,_,Tryz.func200,rfl,rfl⟩,⟨⟨ok200x3 F,_,Tryz.func200,rfl,rfl⟩,trivial⟩⟩ trivial
def L176x1_3c (F:Nat) (y30:List UInt8) (y31:Int) (y32:Bool) (y33:Vector UInt32 8) (y34:Vector UInt8 64) {β:Type} (kO:((List UInt8)×(Vector UInt32 8)×(Vector UInt8 64))->Option β) (kR:((Vector UInt8 64))->Option β):Option β:=
 (bif y32 then (Option.bind (gslb 64 y31 ((64:Nat):Int)) fun x41=>(Option.bind (gsl y30 ((Nat.min y30.length (x41.2 - x41.1)):Int) (y30.length:Int)) fun x42=>(bif (decide ((w64 (y31 + ((Nat.min y30.length (x41.2 - x41.1)):Int))) < (64:Int))) then (kR (vspl y34 x41.1 y30 (Nat.min y30.length (x41.2 - x41.1)))) else (Option.bind (gslb 64 (0:Int) ((64:Nat):Int)) fun x43=>(Option.bind (T200x2 F (x43.1,x43.2) y33 (vspl y34 x41.1 y30 (Nat.min y30.length (x41.2 - x41.1)))) fun z44=>(kO (x42,z44,(vspl y34 x41.1 y30 (Nat.min y30.length (x41.2 - x41.1)))))))))) else (kO (y30,y33,y34)))
def L176x1_3 (F:Nat) (y30:List UInt8) (y31:Int) (y32:Bool) (y33:Vector UInt32 8) (y34:Vector UInt8 64):Option (((List UInt8)×(Vector UInt32 8)×(Vector UInt8 64)) ⊕ ((Vector UInt8 64))):=L176x1_3c F y30 y31 y32 y33 y34 (fun z=>some (.inl z)) (fun z=>some (.inr z))
theorem L176x1_3n (F:Nat) (y30:List UInt8) (y31:Int) (y32:Bool) (y33:Vector UInt32 8) (y34:Vector UInt8 64) {β:Type} (kO:((List UInt8)×(Vector UInt32 8)×(Vector UInt8 64))->Option β) (kR:((Vector UInt8 64))->Option β):L176x1_3c F y30 y31 y32 y33 y34 kO kR=(L176x1_3 F y30 y31 y32 y33 y34).bind (elimS kO kR):=by
 simp only [L176x1_3,L176x1_3c,Option.bind_assoc,cond_bind,Option.bind_some,Option.bind_none,elimS_l,elimS_r,elimS_bind]
abbrev sA176x1_3:List Sh:=[(.pt 0 [0,0]),(.ro .u8),.i,.bo]
abbrev sAp1176x1_3:List Sh:=[(.pt 0 [0,0]),(.ro .u8)]
abbrev sAp2176x1_3:List Sh:=[]
abbrev sT176x1_3:List TSh:=[.blk 230 (.pr (.pr (.pr (.ar 8 .u32) (.pr (.ar 64 .u8) (.pr .i .un))) (.pr (.ar 64 .u8) .un)) .un)]
abbrev sTp1176x1_3:List TSh:=[.blk 230 (.pr (.pr (.pr (.ar 8 .u32) (.pr (.ar 64 .u8) (.pr .i .un))) (.pr (.ar 64 .u8) .un)) .un)]
abbrev sTp2176x1_3:List TSh:=[.blk 230 (.pr (.pr (.pr (.ar 8 .u32) (.pr (.ar 64 .u8) (.pr .i .un))) (.pr (.ar 64 .u8) .un)) .un)]
def lc176x1_3 (F:Nat):Lc:=mkK [0,1,4,21] sA176x1_3 sT176x1_3 [0,1] sAp1176x1_3 sTp1176x1_3 [] sAp2176x1_3 sTp2176x1_3 (fun x y=>L176x1_3 F x.2.1 x.2.2.1 x.2.2.2.1 y.1.1.1.1 y.1.1.1.2.1) (fun x y (z:(List UInt8)×(Vector UInt32 8)×(Vector UInt8 64))=>(((),z.1,()),((((z.2.1,z.2.2,y.1.1.1.2.2.1,()),y.1.1.2.1,()),()),()))) (fun x y (z:(Vector UInt8 64))=>((),((((y.1.1.1.1,z,y.1.1.1.2.2.1,()),y.1.1.2.1,()),()),())))
theorem le176x1_3 (F:Nat) (x:dens sA176x1_3) (y:tdens sT176x1_3):sev (E176x1 F) 1 [] (cAt (bodyOf Tryz.f176) [1,0,1,1]) [1,0,1,1] (mkSt [0,1,4,21] sA176x1_3 sT176x1_3 x y) (kJoinR 1 [0,1] sAp1176x1_3 sTp1176x1_3 [] sAp2176x1_3 sTp2176x1_3 (fun x y=>some (.inl (x,y))) (fun x y=>some (.inr (x,y)))) =
  L176x1_3c (β:=(dens sAp1176x1_3×tdens sTp1176x1_3) ⊕ (dens sAp2176x1_3×tdens sTp2176x1_3)) F x.2.1 x.2.2.1 x.2.2.2.1 y.1.1.1.1 y.1.1.1.2.1 (fun z=>some (.inl (((),z.1,()),((((z.2.1,z.2.2,y.1.1.1.2.2.1,()),y.1.1.2.1,()),()),())))) (fun z=>some (.inr ((),((((y.1.1.1.1,z,y.1.1.1.2.2.1,()),y.1.1.2.1,()),()),())))):=by kernel_rfl
theorem lo176x1_3 (F:Nat):LcOk Tryz.prog (E176x1 F) 1 (lc176x1_3 F) (cAt (bodyOf Tryz.f176) [1,0,1,1]):=
 mkK_ok (lp:=[]) cok (cts176x1 F) mixed trivial (by kernel_rfl) (fun x y kO kR=>L176x1_3c F x.2.1 x.2.2.1 x.2.2.2.1 y.1.1.1.1 y.1.1.1.2.1 kO kR) (fun x y kO kR=>L176x1_3n F x.2.1 x.2.2.1 x.2.2.2.1 y.1.1.1.1 y.1.1.1.2.1 kO kR) (le176x1_3 F)
def L176x1_4c (F:Nat) (y46:List UInt8) (y47:Vector UInt32 8) {β:Type} (kA:((List UInt8)×(Vector UInt32 8))->Option β) (kO:((List UInt8)×(Vector UInt32 8))->Option β):Option β:=
 (bif (decide ((64:Int)≤(y46.length:Int))) then (Option.bind (gsl y46 (0:Int) (64:Int)) fun x54=>(Option.bind (T200x3 F x54 y47) fun z55=>(Option.bind (gsl y46 (64:Int) (y46.length:Int)) fun x56=>(kA (x56,z55))))) else (kO (y46,y47)))
def L176x1_4 (F:Nat) (y46:List UInt8) (y47:Vector UInt32 8):Option (((List UInt8)×(Vector UInt32 8)) ⊕ ((List UInt8)×(Vector UInt32 8))):=L176x1_4c F y46 y47 (fun s=>some (.inl s)) (fun z=>some (.inr z))
theorem L176x1_4n (F:Nat) (y46:List UInt8) (y47:Vector UInt32 8) {β:Type} (kA:((List UInt8)×(Vector UInt32 8))->Option β) (kO:((List UInt8)×(Vector UInt32 8))->Option β):L176x1_4c F y46 y47 kA kO=(L176x1_4 F y46 y47).bind (elimS kA kO):=by
 simp only [L176x1_4,L176x1_4c,Option.bind_assoc,cond_bind,Option.bind_some,Option.bind_none,elimS_l,elimS_r,elimS_bind]
abbrev sA176x1_4:List Sh:=[(.pt 0 [0,0]),(.ro .u8)]
abbrev sAp1176x1_4:List Sh:=[(.pt 0 [0,0]),(.ro .u8)]
abbrev sT176x1_4:List TSh:=[.blk 230 (.pr (.pr (.pr (.ar 8 .u32) (.pr (.ar 64 .u8) (.pr .i .un))) (.pr (.ar 64 .u8) .un)) .un)]
abbrev sTp1176x1_4:List TSh:=[.blk 230 (.pr (.pr (.pr (.ar 8 .u32) (.pr (.ar 64 .u8) (.pr .i .un))) (.pr (.ar 64 .u8) .un)) .un)]
def lc176x1_4 (F:Nat):Lc:=mkL [0,1] sA176x1_4 sT176x1_4 [0,1] sAp1176x1_4 sTp1176x1_4 F (fun x y (s:(List UInt8)×(Vector UInt32 8))=>L176x1_4 F s.1 s.2) (fun x y=>(x.2.1,y.1.1.1.1)) (fun x y (z:(List UInt8)×(Vector UInt32 8))=>(((),z.1,()),((((z.2,y.1.1.1.2.1,y.1.1.1.2.2.1,()),y.1.1.2.1,()),()),())))
theorem le176x1_4 (F:Nat) (x:dens sA176x1_4) (y:tdens sT176x1_4) (s:(List UInt8)×(Vector UInt32 8)):sev (E176x1 F) 1 [] (cAt (bodyOf Tryz.f176) (0 :: 0 :: [0,1,1,1])) (0 :: 0 :: [0,1,1,1]) (mkSt [0,1] sA176x1_4 sT176x1_4 ((),s.1,()) ((((s.2,y.1.1.1.2.1,y.1.1.1.2.2.1,()),y.1.1.2.1,()),()),())) (kLoop 1 [0,1] sA176x1_4 sT176x1_4 [0,1] sAp1176x1_4 sTp1176x1_4 [] [] [] 0 (fun x y=>some (.inl (x,y))) (fun x y=>some (.inr (.inl (x,y)))) (fun x y=>some (.inr (.inr (x,y))))) =
  L176x1_4c (β:=Full sA176x1_4 sT176x1_4 sAp1176x1_4 sTp1176x1_4 [] []) F s.1 s.2 (fun s=>some (.inl (((),s.1,()),((((s.2,y.1.1.1.2.1,y.1.1.1.2.2.1,()),y.1.1.2.1,()),()),())))) (fun z=>some (.inr (.inl (((),z.1,()),((((z.2,y.1.1.1.2.1,y.1.1.1.2.2.1,()),y.1.1.2.1,()),()),()))))):=by kernel_rfl
theorem lo176x1_4 (F:Nat):LcOk Tryz.prog (E176x1 F) 1 (lc176x1_4 F) (cAt (bodyOf Tryz.f176) [0,1,1,1]):=
 mkL_ok (lp:=[]) (id:=0) (b:=cAt (bodyOf Tryz.f176) (0 :: 0 :: [0,1,1,1])) cok (cts176x1 F) mixed trivial (by kernel_rfl) (by kernel_rfl) (fun x y s=>((),s.1,())) (fun x y s=>((((s.2,y.1.1.1.2.1,y.1.1.1.2.2.1,()),y.1.1.2.1,()),()),())) (fun x y=>rfl) (fun x y=>rfl) (fun x y s kA kO=>L176x1_4c F s.1 s.2 kA kO) (fun x y s kA kO=>L176x1_4n F s.1 s.2 kA kO) (le176x1_4 F)
def T176x1c (F:Nat) (p0:List UInt8) (p1:Vector UInt32 8) (p2:Vector UInt8 64) (p3:Int) {β:Type} (k:((Vector UInt32 8)×(Vector UInt8 64)×Int)->Option β):Option β:=
 (Option.bind (L176x1_3 F p0 (Int.tmod p3 (64:Int)) (decide ((0:Int) < (Int.tmod p3 (64:Int)))) p1 p2) fun z45=>elimS (fun z45=>(Option.bind (iter (fun s=>L176x1_4 F s.1 s.2) F (z45.1,z45.2.1)) fun z57=>(Option.bind (gslb 64 (0:Int) ((64:Nat):Int)) fun x58=>(k (z57.2,(vspl z45.2.2 x58.1 z57.1 (Nat.min z57.1.length (x58.2 - x58.1))),(w64 (p3 + (p0.length:Int)))))))) (fun z45=>(k (p1,z45,(w64 (p3 + (p0.length:Int)))))) z45)
def T176x1 (F:Nat) (p0:List UInt8) (p1:Vector UInt32 8) (p2:Vector UInt8 64) (p3:Int):Option ((Vector UInt32 8)×(Vector UInt8 64)×Int):=T176x1c F p0 p1 p2 p3 some
theorem T176x1n (F:Nat) (p0:List UInt8) (p1:Vector UInt32 8) (p2:Vector UInt8 64) (p3:Int) {β:Type} (k:((Vector UInt32 8)×(Vector UInt8 64)×Int)->Option β):T176x1c F p0 p1 p2 p3 k=(T176x1 F p0 p1 p2 p3).bind k:=by
 simp only [T176x1,T176x1c,Option.bind_assoc,cond_bind,Option.bind_some,Option.bind_none,elimS_bind]
abbrev cA176x1:List Sh:=[(.pt 0 [0,0]),(.ro .u8)]
abbrev cB176x1:List Sh:=[]
abbrev cT176x1:List TSh:=[.blk 230 (.pr (.pr (.pr (.ar 8 .u32) (.pr (.ar 64 .u8) (.pr .i .un))) (.pr (.ar 64 .u8) .un)) .un)]
abbrev cU176x1:List TSh:=[.blk 230 (.pr (.pr (.pr (.ar 8 .u32) (.pr (.ar 64 .u8) (.pr .i .un))) (.pr (.ar 64 .u8) .un)) .un)]
def ct176x1 (F:Nat):Ct:=mkC 1 cA176x1 cT176x1 cB176x1 cU176x1 (fun x y=>T176x1 F x.2.1 y.1.1.1.1 y.1.1.1.2.1 y.1.1.1.2.2.1) (fun x y (z:(Vector UInt32 8)×(Vector UInt8 64)×Int)=>((),((((z.1,z.2.1,z.2.2,()),y.1.1.2.1,()),()),())))
theorem eq176x1 (F:Nat) (x:dens cA176x1) (y:tdens cT176x1):sev (E176x1 F) 1 [([1,0,1,1],lc176x1_3 F),([0,1,1,1],lc176x1_4 F)] (bodyOf Tryz.f176) [] (mkSt (rng 2) cA176x1 cT176x1 x y) (kFn (E176x1 F) 1 Tryz.f176.results.toList cB176x1 cU176x1 fun p q=>some (p,q)) =
  T176x1c F x.2.1 y.1.1.1.1 y.1.1.1.2.1 y.1.1.1.2.2.1 (fun z=>some ((),((((z.1,z.2.1,z.2.2,()),y.1.1.2.1,()),()),()))):=by kernel_rfl
theorem ok176x1 (F:Nat):Sound Tryz.prog cfg 176 (ct176x1 F):=
 mkC_ok (E:=E176x1 F) (lp:=[([1,0,1,1],lc176x1_3 F),([0,1,1,1],lc176x1_4 F)]) (code:=bodyOf Tryz.f176) Tryz.func176 rfl Tryz.ntmps176 rfl rfl cok (cts176x1 F) mixed ⟨lo176x1_3 F,⟨lo176x1_4 F,trivial⟩⟩ (by kernel_rfl) (fun x y k=>T176x1c F x.2.1 y.1.1.1.1 y.1.1.1.2.1 y.1.1.1.2.2.1 k) (fun x y k=>T176x1n F x.2.1 y.1.1.1.1 y.1.1.1.2.1 y.1.1.1.2.2.1 k) (eq176x1 F)
def ord140:Nat->List (Tag×Nat)
 | 6=>[(.p,3),(.p,4),(.c,5),(.w,0),(.p,1),(.c,2),(.w,6),(.p,7),(.p,8),(.w,9),(.p,10)]
 | 8=>[(.p,0),(.p,1),(.p,2),(.p,3),(.p,4),(.w,5)]
 | _=>[]
def E140 (F:Nat):Ev:=⟨cfg,38,ctOf [(173,ct173 F),(175,ct175 F),(174,ct174 F),(176,ct176x1 F)],ord140,ctOf [],fun _=>none,fun _=>none⟩
theorem cts140 (F:Nat):CtsOk Tryz.prog (E140 F):=cts_of (l:=[(173,ct173 F),(175,ct175 F),(174,ct174 F),(176,ct176x1 F)]) (l':=[]) rfl rfl ⟨⟨ok173 F,_,Tryz.func173,rfl,rfl⟩,⟨⟨ok175 F,_,Tryz.func175,rfl,rfl⟩,⟨⟨ok174 F,_,Tryz.func174,rfl,rfl⟩,⟨⟨ok176x1 F,_,Tryz.func176,rfl,rfl⟩,trivial⟩⟩⟩⟩ trivial
def T140c (F:Nat) (p0:List UInt8) {β:Type} (k:(Ze×Zg×Int×Zg)->Option β):Option β:=
 (bif (decide ((64:Int) < (p0.length:Int))) then (Option.bind (T173 F ([p0]:List Za)) fun z18=>(Option.bind (gslb 64 (0:Int) ((64:Nat):Int)) fun x19=>(Option.bind (vix (gv0) (1:Int)) fun x20=>(Option.bind (T175 F) fun z21=>(Option.bind (T174 F x20 (vspl (Vector.replicate 64 (0:UInt8)) x19.1 z18 (Nat.min z18.length (x19.2 - x19.1)))) fun z22=>(Option.bind (vix (gv0) (0:Int)) fun x23=>(Option.bind (T174 F x23 (vspl (Vector.replicate 64 (0:UInt8)) x19.1 z18 (Nat.min z18.length (x19.2 - x19.1)))) fun z24=>(Option.bind (gslb 64 (0:Int) ((64:Nat):Int)) fun x25=>(Option.bind (T176x1 F ((z24.toList.drop x25.1).take (x25.2 - x25.1)) z21.1 z21.2.1 z21.2.2) fun z26=>(k (z26.1,z26.2.1,z26.2.2,z22))))))))))) else (Option.bind (gslb 64 (0:Int) ((64:Nat):Int)) fun x27=>(Option.bind (vix (gv0) (1:Int)) fun x28=>(Option.bind (T175 F) fun z29=>(Option.bind (T174 F x28 (vspl (Vector.replicate 64 (0:UInt8)) x27.1 p0 (Nat.min p0.length (x27.2 - x27.1)))) fun z30=>(Option.bind (vix (gv0) (0:Int)) fun x31=>(Option.bind (T174 F x31 (vspl (Vector.replicate 64 (0:UInt8)) x27.1 p0 (Nat.min p0.length (x27.2 - x27.1)))) fun z32=>(Option.bind (gslb 64 (0:Int) ((64:Nat):Int)) fun x33=>(Option.bind (T176x1 F ((z32.toList.drop x33.1).take (x33.2 - x33.1)) z29.1 z29.2.1 z29.2.2) fun z34=>(k (z34.1,z34.2.1,z34.2.2,z30)))))))))))
def T140 (F:Nat) (p0:List UInt8):=T140c F p0 some
def ct140 (F:Nat):Ct:=mkC 0 [.str] [] [(.pt 0 [])] [.blk 230 (.pr (.pr (.pr (.ar 8 .u32) (.pr (.ar 64 .u8) (.pr .i .un))) (.pr (.ar 64 .u8) .un)) .un)] (fun x y=>T140 F x.1) (fun x y (z:Ze×Zg×Int×Zg)=>(((),()),((((z.1,z.2.1,z.2.2.1,()),z.2.2.2,()),()),())))
theorem ok140 (F:Nat):Sound Tryz.prog cfg 140 (ct140 F):=
 mkC_ok (E:=E140 F) (lp:=[]) (code:=bodyOf Tryz.f140) Tryz.func140 rfl Tryz.ntmps140 rfl rfl cok (cts140 F) mixed trivial (by kernel_rfl) (fun x y k=>T140c F x.1 k) (fun _ _ _=>by simp only [T140,T140c,oA,oC,oS,oN,elimS_bind]) (fun _ _=>by kernel_rfl)
def E141 (F:Nat):Ev:=⟨cfg,10,ctOf [(176,ct176x1 F)],fun _=>[],ctOf [],fun _=>none,fun _=>none⟩
theorem cts141 (F:Nat):CtsOk Tryz.prog (E141 F):=cts_of (l:=[(176,ct176x1 F)]) (l':=[]) rfl rfl ⟨⟨ok176x1 F,_,Tryz.func176,rfl,rfl⟩,trivial⟩ trivial
def T141c (F:Nat) (p0:List UInt8) (p1:Vector UInt32 8) (p2:Vector UInt8 64) (p3:Int) {β:Type} (k:(Ze×Zg×Int)->Option β):Option β:=
 (Option.bind (T176x1 F p0 p1 p2 p3) fun z2=>(k (z2.1,z2.2.1,z2.2.2)))
def T141 (F:Nat) (p0:List UInt8) (p1:Vector UInt32 8) (p2:Vector UInt8 64) (p3:Int):=T141c F p0 p1 p2 p3 some
def ct141 (F:Nat):Ct:=mkC 1 [(.pt 0 []),(.ro .u8)] [.blk 230 (.pr (.pr (.pr (.ar 8 .u32) (.pr (.ar 64 .u8) (.pr .i .un))) (.pr (.ar 64 .u8) .un)) .un)] [] [.blk 230 (.pr (.pr (.pr (.ar 8 .u32) (.pr (.ar 64 .u8) (.pr .i .un))) (.pr (.ar 64 .u8) .un)) .un)] (fun x y=>T141 F x.2.1 y.1.1.1.1 y.1.1.1.2.1 y.1.1.1.2.2.1) (fun x y (z:Ze×Zg×Int)=>((),((((z.1,z.2.1,z.2.2,()),y.1.1.2.1,()),()),())))
theorem ok141 (F:Nat):Sound Tryz.prog cfg 141 (ct141 F):=
 mkC_ok (E:=E141 F) (lp:=[]) (code:=bodyOf Tryz.f141) Tryz.func141 rfl Tryz.ntmps141 rfl rfl cok (cts141 F) mixed trivial (by kernel_rfl) (fun x y k=>T141c F x.2.1 y.1.1.1.1 y.1.1.1.2.1 y.1.1.1.2.2.1 k) (fun _ _ _=>by simp only [T141,T141c,oA,oC,oS,oN,elimS_bind]) (fun _ _=>by kernel_rfl)
def ord142:Nat->List (Tag×Nat)
 | 1=>[(.p,0),(.p,1),(.p,2),(.p,3),(.p,4),(.c,5),(.p,6),(.p,7),(.p,8),(.p,9),(.w,10),(.w,11),(.b,12),(.p,13)]
 | _=>[]
def E142 (F:Nat):Ev:=⟨cfg,16,ctOf [(177,ct177 F),(173,ct173 F)],ord142,ctOf [],fun _=>none,fun _=>none⟩
theorem cts142 (F:Nat):CtsOk Tryz.prog (E142 F):=cts_of (l:=[(177,ct177 F),(173,ct173 F)]) (l':=[]) rfl rfl ⟨⟨ok177 F,_,Tryz.func177,rfl,rfl⟩,⟨⟨ok173 F,_,Tryz.func173,rfl,rfl⟩,trivial⟩⟩ trivial
def T142c (F:Nat) (p0:Vector UInt32 8) (p1:Vector UInt8 64) (p2:Int) (p3:Vector UInt8 64) {β:Type} (k:(Za)->Option β):Option β:=
 (Option.bind (gslb 64 (0:Int) ((64:Nat):Int)) fun x4=>(Option.bind (T177 F (p0,p1,p2,())) fun z5=>(Option.bind (T173 F ([((p3.toList.drop x4.1).take (x4.2 - x4.1)),z5]:List Za)) fun z6=>(k z6))))
def T142 (F:Nat) (p0:Vector UInt32 8) (p1:Vector UInt8 64) (p2:Int) (p3:Vector UInt8 64):=T142c F p0 p1 p2 p3 some
def ct142 (F:Nat):Ct:=mkC 1 [(.pt 0 [])] [.blk 230 (.pr (.pr (.pr (.ar 8 .u32) (.pr (.ar 64 .u8) (.pr .i .un))) (.pr (.ar 64 .u8) .un)) .un)] [.str] [.blk 230 (.pr (.pr (.pr (.ar 8 .u32) (.pr (.ar 64 .u8) (.pr .i .un))) (.pr (.ar 64 .u8) .un)) .un)] (fun x y=>T142 F y.1.1.1.1 y.1.1.1.2.1 y.1.1.1.2.2.1 y.1.1.2.1) (fun x y (z:Za)=>((z,()),((((y.1.1.1.1,y.1.1.1.2.1,y.1.1.1.2.2.1,()),y.1.1.2.1,()),()),())))
theorem ok142 (F:Nat):Sound Tryz.prog cfg 142 (ct142 F):=
 mkC_ok (E:=E142 F) (lp:=[]) (code:=bodyOf Tryz.f142) Tryz.func142 rfl Tryz.ntmps142 rfl rfl cok (cts142 F) mixed trivial (by kernel_rfl) (fun x y k=>T142c F y.1.1.1.1 y.1.1.1.2.1 y.1.1.1.2.2.1 y.1.1.2.1 k) (fun _ _ _=>by simp only [T142,T142c,oA,oC,oS,oN,elimS_bind]) (fun _ _=>by kernel_rfl)
def E96 (F:Nat):Ev:=⟨cfg,13,ctOf [(140,ct140 F),(141,ct141 F),(142,ct142 F)],fun _=>[],ctOf [],fun _=>none,fun _=>none⟩
theorem cts96 (F:Nat):CtsOk Tryz.prog (E96 F):=cts_of (l:=[(140,ct140 F),(141,ct141 F),(142,ct142 F)]) (l':=[]) rfl rfl ⟨⟨ok140 F,_,Tryz.func140,rfl,rfl⟩,⟨⟨ok141 F,_,Tryz.func141,rfl,rfl⟩,⟨⟨ok142 F,_,Tryz.func142,rfl,rfl⟩,trivial⟩⟩⟩ trivial
def T96c (F:Nat) (p0:List UInt8) (p1:List UInt8) {β:Type} (k:(Za)->Option β):Option β:=
 (Option.bind (T140 F p0) fun z4=>(Option.bind (T141 F p1 z4.1 z4.2.1 z4.2.2.1) fun z5=>(Option.bind (T142 F z5.1 z5.2.1 z5.2.2 z4.2.2.2) fun z6=>(k z6))))
def T96 (F:Nat) (p0:List UInt8) (p1:List UInt8):=T96c F p0 p1 some
def ct96 (F:Nat):Ct:=mkC 0 [.str,(.ro .u8)] [] [.str] [] (fun x y=>T96 F x.1 x.2.1) (fun x y (z:Za)=>((z,()),()))
theorem ok96 (F:Nat):Sound Tryz.prog cfg 96 (ct96 F):=
 mkC_ok (E:=E96 F) (lp:=[]) (code:=bodyOf Tryz.f96) Tryz.func96 rfl Tryz.ntmps96 rfl rfl cok (cts96 F) mixed trivial (by kernel_rfl) (fun x y k=>T96c F x.1 x.2.1 k) (fun _ _ _=>by simp only [T96,T96c,oA,oC,oS,oN,elimS_bind]) (fun _ _=>by kernel_rfl)
def E94 (F:Nat):Ev:=⟨cfg,9,ctOf [(96,ct96 F)],fun _=>[],ctOf [],fun _=>none,fun _=>none⟩
theorem cts94 (F:Nat):CtsOk Tryz.prog (E94 F):=cts_of (l:=[(96,ct96 F)]) (l':=[]) rfl rfl ⟨⟨ok96 F,_,Tryz.func96,rfl,rfl⟩,trivial⟩ trivial
def T94c (F:Nat) (p0:List UInt8) (p1:List UInt8) {β:Type} (k:(Za)->Option β):Option β:=
 (Option.bind (gstr p1) fun x3=>(Option.bind (T96 F p0 x3) fun z4=>(k z4)))
def T94 (F:Nat) (p0:List UInt8) (p1:List UInt8):=T94c F p0 p1 some
def ct94 (F:Nat):Ct:=mkC 0 [.str,.str] [] [.str] [] (fun x y=>T94 F x.1 x.2.1) (fun x y (z:Za)=>((z,()),()))
theorem ok94 (F:Nat):Sound Tryz.prog cfg 94 (ct94 F):=
 mkC_ok (E:=E94 F) (lp:=[]) (code:=bodyOf Tryz.f94) Tryz.func94 rfl Tryz.ntmps94 rfl rfl cok (cts94 F) mixed trivial (by kernel_rfl) (fun x y k=>T94c F x.1 x.2.1 k) (fun _ _ _=>by simp only [T94,T94c,oA,oC,oS,oN,elimS_bind]) (fun _ _=>by kernel_rfl)
def E93 (F:Nat):Ev:=⟨cfg,51,ctOf [(140,ct140 F),(141,ct141 F),(142,ct142 F)],fun _=>[],ctOf [],fun _=>none,fun _=>none⟩
theorem cts93 (F:Nat):CtsOk Tryz.prog (E93 F):=cts_of (l:=[(140,ct140 F),(141,ct141 F),(142,ct142 F)]) (l':=[]) rfl rfl ⟨⟨ok140 F,_,Tryz.func140,rfl,rfl⟩,⟨⟨ok141 F,_,Tryz.func141,rfl,rfl⟩,⟨⟨ok142 F,_,Tryz.func142,rfl,rfl⟩,trivial⟩⟩⟩ trivial
def L93_2c (F:Nat) (y51:List UInt8) (y52:List UInt8) (y53:Int) (y54:List UInt8) (y55:Int) (y56:List UInt8) {β:Type} (kA:(Za×Int×Za)->Option β) (kO:(Za)->Option β):Option β:=
 (bif (decide ((y56.length:Int) < y53)) then (Option.bind (T140 F y51) fun z65=>(Option.bind (gstr y54) fun x66=>(Option.bind (T141 F x66 z65.1 z65.2.1 z65.2.2.1) fun z67=>(Option.bind (gstr y52) fun x68=>(Option.bind (T141 F x68 z67.1 z67.2.1 z67.2.2) fun z69=>(Option.bind (T141 F ([(UInt8.ofInt y55)]:List UInt8) z69.1 z69.2.1 z69.2.2) fun z70=>(Option.bind (T142 F z70.1 z70.2.1 z70.2.2 z65.2.2.2) fun z71=>(Option.bind (gapp y56 z71) fun x72=>(kA (z71,(w64 (y55 + (1:Int))),x72)))))))))) else (kO y56))
def L93_2 (F:Nat) (y51:List UInt8) (y52:List UInt8) (y53:Int) (y54:List UInt8) (y55:Int) (y56:List UInt8):=L93_2c F y51 y52 y53 y54 y55 y56 (fun s=>some (Sum.inl s)) (fun z=>some (Sum.inr z))
def lc93_2 (F:Nat):Lc:=mkL [0,1,2,8,9,10] [.str,.str,.i,(.rw 0),.str,.i] [.row 5 .u8] [2,8] [.i,(.rw 0)] [.row 5 .u8] F (fun x y (s:Za×Int×Za)=>L93_2 F x.1 x.2.1 x.2.2.1 s.1 s.2.1 s.2.2) (fun x y=>(x.2.2.2.2.1,x.2.2.2.2.2.1,y.1)) (fun x y (z:Za)=>((x.2.2.1,(),()),(z,())))
theorem lo93_2 (F:Nat):LcOk Tryz.prog (E93 F) 0 (lc93_2 F) (cAt (bodyOf Tryz.f93) [1,0,1,1,1,1,1]):=
 mkL_ok (lp:=[]) (id:=0) (b:=cAt (bodyOf Tryz.f93) (0 :: 0 :: [1,0,1,1,1,1,1])) cok (cts93 F) mixed trivial (by kernel_rfl) (by kernel_rfl) (fun x y s=>(x.1,x.2.1,x.2.2.1,(),s.1,s.2.1,())) (fun x y s=>(s.2.2,())) (fun x y=>rfl) (fun x y=>rfl) (fun x y s kA kO=>L93_2c F x.1 x.2.1 x.2.2.1 s.1 s.2.1 s.2.2 kA kO) (fun _ _ _ _ _=>by simp only [L93_2,L93_2c,oA,oC,oS,oN,elimS_l,elimS_r,elimS_bind]) (fun _ _ _=>by kernel_rfl)
def T93c (F:Nat) (p0:List UInt8) (p1:List UInt8) (p2:Int) {β:Type} (k:(Za×Int)->Option β):Option β:=
 (bif (decide ((p0.length:Int) < (32:Int))) then (k (([]:List UInt8),(1:Int))) else (bif (decide (p2 < (0:Int))) then (k (([]:List UInt8),(1:Int))) else (bif (decide ((8160:Int) < p2)) then (k (([]:List UInt8),(2:Int))) else (Option.bind (iter (fun s=>L93_2 F p0 p1 p2 s.1 s.2.1 s.2.2) F (([]:List UInt8),(1:Int),([]:List UInt8))) fun z73=>(Option.bind (gslb z73.length (0:Int) p2) fun x74=>(k (((z73.drop x74.1).take (x74.2 - x74.1)),(0:Int))))))))
def T93 (F:Nat) (p0:List UInt8) (p1:List UInt8) (p2:Int):=T93c F p0 p1 p2 some
def ct93 (F:Nat):Ct:=mkC 0 [.str,.str,.i] [] [.str,.i] [] (fun x y=>T93 F x.1 x.2.1 x.2.2.1) (fun x y (z:Za×Int)=>((z.1,z.2,()),()))
theorem ok93 (F:Nat):Sound Tryz.prog cfg 93 (ct93 F):=
 mkC_ok (E:=E93 F) (lp:=[([1,0,1,1,1,1,1],lc93_2 F)]) (code:=bodyOf Tryz.f93) Tryz.func93 rfl Tryz.ntmps93 rfl rfl cok (cts93 F) mixed ⟨lo93_2 F,trivial⟩ (by kernel_rfl) (fun x y k=>T93c F x.1 x.2.1 x.2.2.1 k) (fun _ _ _=>by simp only [T93,T93c,oA,oC,oS,oN,elimS_bind]) (fun _ _=>by kernel_rfl)
def E28 (F:Nat):Ev:=⟨cfg,24,ctOf [(94,ct94 F),(93,ct93 F)],fun _=>[],ctOf [],fun _=>none,fun _=>none⟩
theorem cts28 (F:Nat):CtsOk Tryz.prog (E28 F):=cts_of (l:=[(94,ct94 F),(93,ct93 F)]) (l':=[]) rfl rfl ⟨⟨ok94 F,_,Tryz.func94,rfl,rfl⟩,⟨⟨ok93 F,_,Tryz.func93,rfl,rfl⟩,trivial⟩⟩ trivial
def T28c (F:Nat) (p0:List UInt8) (p1:List UInt8) {β:Type} (k:(Za×Int)->Option β):Option β:=
 (bif ((p0.length:Int) != (32:Int)) then (k (([]:List UInt8),(1:Int))) else (bif (p1 == ([]:List UInt8)) then (k (([]:List UInt8),(1:Int))) else (bif (decide ((64:Int) < (p1.length:Int))) then (k (([]:List UInt8),(1:Int))) else (Option.bind (T94 F ([]:List UInt8) p0) fun z3=>(Option.bind (T93 F z3 p1 (32:Int)) fun z4=>(k (z4.1,z4.2)))))))
def T28 (F:Nat) (p0:List UInt8) (p1:List UInt8):=T28c F p0 p1 some
def ct28 (F:Nat):Ct:=mkC 0 [.str,.str] [] [.str,.i] [] (fun x y=>T28 F x.1 x.2.1) (fun x y (z:Za×Int)=>((z.1,z.2,()),()))
theorem ok28 (F:Nat):Sound Tryz.prog cfg 28 (ct28 F):=
 mkC_ok (E:=E28 F) (lp:=[]) (code:=bodyOf Tryz.f28) Tryz.func28 rfl Tryz.ntmps28 rfl rfl cok (cts28 F) mixed trivial (by kernel_rfl) (fun x y k=>T28c F x.1 x.2.1 k) (fun _ _ _=>by simp only [T28,T28c,oA,oC,oS,oN,elimS_bind]) (fun _ _=>by kernel_rfl)
def E12 (F:Nat):Ev:=⟨cfg,39,ctOf [(28,ct28 F)],fun _=>[],ctOf [],fun _=>none,fun _=>none⟩
theorem cts12 (F:Nat):CtsOk Tryz.prog (E12 F):=cts_of (l:=[(28,ct28 F)]) (l':=[]) rfl rfl ⟨⟨ok28 F,_,Tryz.func28,rfl,rfl⟩,trivial⟩ trivial
def T12c (F:Nat) (p0:List UInt8) {β:Type} (k:(Za×Za×Za×Za×Za×Int)->Option β):Option β:=
 (Option.bind (inb 5 (0:Int)) fun x16=>(Option.bind (vat (#v[([110,97,109,101]:List UInt8),([115,116,114,101,97,109]:List UInt8),([99,104,101,99,107]:List UInt8),([105,110,100,101,120]:List UInt8),([116,111,107,101,110]:List UInt8)]:Vector Za 5) x16) fun x17=>(Option.bind (T28 F p0 x17) fun z18=>(bif (z18.2 != (0:Int)) then (k (([]:List UInt8),([]:List UInt8),([]:List UInt8),([]:List UInt8),([]:List UInt8),(1:Int))) else (Option.bind (inb 5 (w64 ((0:Int) + (1:Int)))) fun x19=>(Option.bind (vat (#v[([110,97,109,101]:List UInt8),([115,116,114,101,97,109]:List UInt8),([99,104,101,99,107]:List UInt8),([105,110,100,101,120]:List UInt8),([116,111,107,101,110]:List UInt8)]:Vector Za 5) x19) fun x20=>(Option.bind (T28 F p0 x20) fun z21=>(bif (z21.2 != (0:Int)) then (k (([]:List UInt8),([]:List UInt8),([]:List UInt8),([]:List UInt8),([]:List UInt8),(1:Int))) else (Option.bind (inb 5 (w64 ((w64 ((0:Int) + (1:Int))) + (1:Int)))) fun x22=>(Option.bind (vat (#v[([110,97,109,101]:List UInt8),([115,116,114,101,97,109]:List UInt8),([99,104,101,99,107]:List UInt8),([105,110,100,101,120]:List UInt8),([116,111,107,101,110]:List UInt8)]:Vector Za 5) x22) fun x23=>(Option.bind (T28 F p0 x23) fun z24=>(bif (z24.2 != (0:Int)) then (k (([]:List UInt8),([]:List UInt8),([]:List UInt8),([]:List UInt8),([]:List UInt8),(1:Int))) else (Option.bind (inb 5 (w64 ((w64 ((w64 ((0:Int) + (1:Int))) + (1:Int))) + (1:Int)))) fun x25=>(Option.bind (vat (#v[([110,97,109,101]:List UInt8),([115,116,114,101,97,109]:List UInt8),([99,104,101,99,107]:List UInt8),([105,110,100,101,120]:List UInt8),([116,111,107,101,110]:List UInt8)]:Vector Za 5) x25) fun x26=>(Option.bind (T28 F p0 x26) fun z27=>(bif (z27.2 != (0:Int)) then (k (([]:List UInt8),([]:List UInt8),([]:List UInt8),([]:List UInt8),([]:List UInt8),(1:Int))) else (Option.bind (inb 5 (w64 ((w64 ((w64 ((w64 ((0:Int) + (1:Int))) + (1:Int))) + (1:Int))) + (1:Int)))) fun x28=>(Option.bind (vat (#v[([110,97,109,101]:List UInt8),([115,116,114,101,97,109]:List UInt8),([99,104,101,99,107]:List UInt8),([105,110,100,101,120]:List UInt8),([116,111,107,101,110]:List UInt8)]:Vector Za 5) x28) fun x29=>(Option.bind (T28 F p0 x29) fun z30=>(bif (z30.2 != (0:Int)) then (k (([]:List UInt8),([]:List UInt8),([]:List UInt8),([]:List UInt8),([]:List UInt8),(1:Int))) else (k (z18.1,z21.1,z24.1,z27.1,z30.1,(0:Int)))))))))))))))))))))))
def T12 (F:Nat) (p0:List UInt8):=T12c F p0 some
def ct12 (F:Nat):Ct:=mkC 0 [.str] [] [(.pr .str (.pr .str (.pr .str (.pr .str (.pr .str .un))))),.i] [] (fun x y=>T12 F x.1) (fun x y (z:Za×Za×Za×Za×Za×Int)=>(((z.1,z.2.1,z.2.2.1,z.2.2.2.1,z.2.2.2.2.1,()),z.2.2.2.2.2,()),()))
theorem ok12 (F:Nat):Sound Tryz.prog cfg 12 (ct12 F):=
 mkC_ok (E:=E12 F) (lp:=[]) (code:=bodyOf Tryz.f12) Tryz.func12 rfl Tryz.ntmps12 rfl rfl cok (cts12 F) mixed trivial (by kernel_rfl) (fun x y k=>T12c F x.1 k) (fun _ _ _=>by simp only [T12,T12c,oA,oC,oS,oN,elimS_bind]) (fun _ _=>by kernel_rfl)
def E134 (F:Nat):Ev:=⟨cfg,19,ctOf [],fun _=>[],ctOf [],fun _=>none,fun _=>none⟩
theorem cts134 (F:Nat):CtsOk Tryz.prog (E134 F):=cts_of (l:=[]) (l':=[]) rfl rfl trivial trivial
def L134_2c (F:Nat) (y8:List Int) (y9:Int) (y10:Int) (y11:Int) {β:Type} (kA:Int->Option β) (kO:Unit->Option β) (kR:Int->Option β):Option β:=
 (bif (decide (y11 < y10)) then (Option.bind (ix y8 y11) fun x13=>(bif (y9 == x13) then (kR y11) else (kA (w64 (y11 + (1:Int)))))) else (kO ()))
def L134_2 (F:Nat) (y8:List Int) (y9:Int) (y10:Int) (y11:Int):Option ((Int) ⊕ ((Unit) ⊕ (Int))):=L134_2c F y8 y9 y10 y11 (fun s=>some (.inl s)) (fun z=>some (.inr (.inl z))) (fun z=>some (.inr (.inr z)))
theorem L134_2n (F:Nat) (y8:List Int) (y9:Int) (y10:Int) (y11:Int) {β:Type} (kA:Int->Option β) (kO:Unit->Option β) (kR:Int->Option β):L134_2c F y8 y9 y10 y11 kA kO kR=(L134_2 F y8 y9 y10 y11).bind (elimS kA (elimS kO kR)):=by
 simp only [L134_2,L134_2c,oA,oC,oS,oN,elimS_l,elimS_r,elimS_bind]
def lc134_2 (F:Nat):Lc:=mkR [0,1,7,8] [(.ro .i),.i,.i,.i] [] [] [] [] [4] [.i] [] F (fun x y (s:Int)=>L134_2 F x.1 x.2.1 x.2.2.1 s) (fun x y=>x.2.2.2.1) (fun x y (z:Unit)=>((),())) (fun x y (z:Int)=>((z,()),()))
theorem lo134_2 (F:Nat):LcOk Tryz.prog (E134 F) 0 (lc134_2 F) (cAt (bodyOf Tryz.f134) [1,0,1]):=
 mkR_ok (lp:=[]) (id:=0) (b:=cAt (bodyOf Tryz.f134) (0 :: 0 :: [1,0,1])) cok (cts134 F) mixed trivial (by kernel_rfl) (by kernel_rfl) (fun x y s=>(x.1,x.2.1,x.2.2.1,s,())) (fun x y s=>()) (fun x y=>rfl) (fun x y=>rfl) (fun x y s kA kO kR=>L134_2c F x.1 x.2.1 x.2.2.1 s kA kO kR) (fun x y s kA kO kR=>L134_2n F x.1 x.2.1 x.2.2.1 s kA kO kR) (fun _ _ _=>by kernel_rfl)
def T134c (F:Nat) (p0:List Int) (p1:Int) {β:Type} (k:Int->Option β):Option β:=
 (Option.bind (iter (fun s=>L134_2 F p0 p1 (p0.length:Int) s) F (0:Int)) fun z14=>elimS (fun z14=>(k (-1:Int))) (fun z14=>(k z14)) z14)
def T134 (F:Nat) (p0:List Int) (p1:Int):=T134c F p0 p1 some
def ct134 (F:Nat):Ct:=mkC 0 [(.ro .i),.i] [] [.i] [] (fun x y=>T134 F x.1 x.2.1) (fun x y (z:Int)=>((z,()),()))
theorem ok134 (F:Nat):Sound Tryz.prog cfg 134 (ct134 F):=
 mkC_ok (E:=E134 F) (lp:=[([1,0,1],lc134_2 F)]) (code:=bodyOf Tryz.f134) Tryz.func134 rfl Tryz.ntmps134 rfl rfl cok (cts134 F) mixed ⟨lo134_2 F,trivial⟩ (by kernel_rfl) (fun x y k=>T134c F x.1 x.2.1 k) (fun _ _ _=>by simp only [T134,T134c,oA,oC,oS,oN,elimS_bind]) (fun _ _=>by kernel_rfl)
def E90 (F:Nat):Ev:=⟨cfg,9,ctOf [(134,ct134 F)],fun _=>[],ctOf [],fun _=>none,fun _=>none⟩
theorem cts90 (F:Nat):CtsOk Tryz.prog (E90 F):=cts_of (l:=[(134,ct134 F)]) (l':=[]) rfl rfl ⟨⟨ok134 F,_,Tryz.func134,rfl,rfl⟩,trivial⟩ trivial
def T90c (F:Nat) (p0:List Int) (p1:Int) {β:Type} (k:Bool->Option β):Option β:=
 (Option.bind (T134 F p0 p1) fun z2=>(k (decide ((0:Int)≤z2))))
def T90 (F:Nat) (p0:List Int) (p1:Int):=T90c F p0 p1 some
def ct90 (F:Nat):Ct:=mkC 0 [(.ro .i),.i] [] [.bo] [] (fun x y=>T90 F x.1 x.2.1) (fun x y (z:Bool)=>((z,()),()))
theorem ok90 (F:Nat):Sound Tryz.prog cfg 90 (ct90 F):=
 mkC_ok (E:=E90 F) (lp:=[]) (code:=bodyOf Tryz.f90) Tryz.func90 rfl Tryz.ntmps90 rfl rfl cok (cts90 F) mixed trivial (by kernel_rfl) (fun x y k=>T90c F x.1 x.2.1 k) (fun _ _ _=>by simp only [T90,T90c,oA,oC,oS,oN,elimS_bind]) (fun _ _=>by kernel_rfl)
def E91 (F:Nat):Ev:=⟨cfg,9,ctOf [],fun _=>[],ctOf [],fun _=>none,fun _=>none⟩
theorem cts91 (F:Nat):CtsOk Tryz.prog (E91 F):=cts_of (l:=[]) (l':=[]) rfl rfl trivial trivial
def T91c (F:Nat) (p1:Int) {β:Type} (k:Unit->Option β):Option β:=
 (bif (decide (p1 < (1:Int))) then none else (k ()))
def T91 (F:Nat) (p1:Int):=T91c F p1 some
def ct91 (F:Nat):Ct:=mkC 0 [(.ro .u8),.i] [] [(.fn 135 .un (.pr (.pt 0 []) (.pr (.pt 1 []) .un)))] [.blk 36 (.ro .u8),.blk 3 .i] (fun x y=>T91 F x.2.1) (fun x y (z:Unit)=>((((),((),(),())),()),(x.1,x.2.1,())))
theorem ok91 (F:Nat):Sound Tryz.prog cfg 91 (ct91 F):=
 mkC_ok (E:=E91 F) (lp:=[]) (code:=bodyOf Tryz.f91) Tryz.func91 rfl Tryz.ntmps91 rfl rfl cok (cts91 F) mixed trivial (by kernel_rfl) (fun x y k=>T91c F x.2.1 k) (fun _ _ _=>by simp only [T91,T91c,oA,oC,oS,oN,elimS_bind]) (fun _ _=>by kernel_rfl)
def E136 (F:Nat):Ev:=⟨cfg,21,ctOf [],fun _=>[],ctOf [],fun _=>none,fun _=>none⟩
theorem cts136 (F:Nat):CtsOk Tryz.prog (E136 F):=cts_of (l:=[]) (l':=[]) rfl rfl trivial trivial
def L136_2c (F:Nat) (y10:Int) (y11:List Za) (y12:Int) (y13:Int) {β:Type} (kA:Int->Option β) (kO:Unit->Option β) (kR:Bool->Option β):Option β:=
 (bif (decide (y13 < y12)) then (Option.bind (ix y11 y13) fun x15=>(bif ((x15.length:Int) != y10) then (kR false) else (kA (w64 (y13 + (1:Int)))))) else (kO ()))
def L136_2 (F:Nat) (y10:Int) (y11:List Za) (y12:Int) (y13:Int):Option ((Int) ⊕ ((Unit) ⊕ (Bool))):=L136_2c F y10 y11 y12 y13 (fun s=>some (.inl s)) (fun z=>some (.inr (.inl z))) (fun z=>some (.inr (.inr z)))
theorem L136_2n (F:Nat) (y10:Int) (y11:List Za) (y12:Int) (y13:Int) {β:Type} (kA:Int->Option β) (kO:Unit->Option β) (kR:Bool->Option β):L136_2c F y10 y11 y12 y13 kA kO kR=(L136_2 F y10 y11 y12 y13).bind (elimS kA (elimS kO kR)):=by
 simp only [L136_2,L136_2c,oA,oC,oS,oN,elimS_l,elimS_r,elimS_bind]
def lc136_2 (F:Nat):Lc:=mkR [0,1,7,8,9] [(.ro (.sl .u8)),.i,(.ro (.sl .u8)),.i,.i] [] [0] [(.ro (.sl .u8))] [] [4] [.bo] [] F (fun x y (s:Int)=>L136_2 F x.2.1 x.2.2.1 x.2.2.2.1 s) (fun x y=>x.2.2.2.2.1) (fun x y (z:Unit)=>((x.1,()),())) (fun x y (z:Bool)=>((z,()),()))
theorem lo136_2 (F:Nat):LcOk Tryz.prog (E136 F) 0 (lc136_2 F) (cAt (bodyOf Tryz.f136) [1,0,1]):=
 mkR_ok (lp:=[]) (id:=0) (b:=cAt (bodyOf Tryz.f136) (0 :: 0 :: [1,0,1])) cok (cts136 F) mixed trivial (by kernel_rfl) (by kernel_rfl) (fun x y s=>(x.1,x.2.1,x.2.2.1,x.2.2.2.1,s,())) (fun x y s=>()) (fun x y=>rfl) (fun x y=>rfl) (fun x y s kA kO kR=>L136_2c F x.2.1 x.2.2.1 x.2.2.2.1 s kA kO kR) (fun x y s kA kO kR=>L136_2n F x.2.1 x.2.2.1 x.2.2.2.1 s kA kO kR) (fun _ _ _=>by kernel_rfl)
def T136c (F:Nat) (p0:List Za) (p1:Int) {β:Type} (k:Bool->Option β):Option β:=
 (Option.bind (iter (fun s=>L136_2 F p1 p0 (p0.length:Int) s) F (0:Int)) fun z16=>elimS (fun z16=>(k (decide ((p0.length:Int) < (16:Int))))) (fun z16=>(k z16)) z16)
def T136 (F:Nat) (p0:List Za) (p1:Int):=T136c F p0 p1 some
def ct136 (F:Nat):Ct:=mkC 0 [(.ro (.sl .u8)),.i] [] [.bo] [] (fun x y=>T136 F x.1 x.2.1) (fun x y (z:Bool)=>((z,()),()))
theorem ok136 (F:Nat):Sound Tryz.prog cfg 136 (ct136 F):=
 mkC_ok (E:=E136 F) (lp:=[([1,0,1],lc136_2 F)]) (code:=bodyOf Tryz.f136) Tryz.func136 rfl Tryz.ntmps136 rfl rfl cok (cts136 F) mixed ⟨lo136_2 F,trivial⟩ (by kernel_rfl) (fun x y k=>T136c F x.1 x.2.1 k) (fun _ _ _=>by simp only [T136,T136c,oA,oC,oS,oN,elimS_bind]) (fun _ _=>by kernel_rfl)
def E168 (F:Nat):Ev:=⟨cfg,9,ctOf [],fun _=>[],ctOf [],fun _=>none,fun _=>none⟩
theorem cts168 (F:Nat):CtsOk Tryz.prog (E168 F):=cts_of (l:=[]) (l':=[]) rfl rfl trivial trivial
def T168c (F:Nat) (p0:Int) {β:Type} (k:Bool->Option β):Option β:=
 (bif (decide ((1:Int)≤p0)) then (k (decide (p0≤(255:Int)))) else (k false))
def T168 (F:Nat) (p0:Int):=T168c F p0 some
def ct168 (F:Nat):Ct:=mkC 0 [.i] [] [.bo] [] (fun x y=>T168 F x.1) (fun x y (z:Bool)=>((z,()),()))
theorem ok168 (F:Nat):Sound Tryz.prog cfg 168 (ct168 F):=
 mkC_ok (E:=E168 F) (lp:=[]) (code:=bodyOf Tryz.f168) Tryz.func168 rfl Tryz.ntmps168 rfl rfl cok (cts168 F) mixed trivial (by kernel_rfl) (fun x y k=>T168c F x.1 k) (fun _ _ _=>by simp only [T168,T168c,oA,oC,oS,oN,elimS_bind]) (fun _ _=>by kernel_rfl)
def E137 (F:Nat):Ev:=⟨cfg,26,ctOf [(168,ct168 F)],fun _=>[],ctOf [],fun _=>none,fun _=>none⟩
theorem cts137 (F:Nat):CtsOk Tryz.prog (E137 F):=cts_of (l:=[(168,ct168 F)]) (l':=[]) rfl rfl ⟨⟨ok168 F,_,Tryz.func168,rfl,rfl⟩,trivial⟩ trivial
def L137_2c (F:Nat) (y16:List Int) (y17:Int) (y18:Int) (y19:Vector Bool 256) {β:Type} (kA:(Int×(Vector Bool 256))->Option β) (kO:Unit->Option β) (kR:Bool->Option β):Option β:=
 (bif (decide (y18 < y17)) then (Option.bind (ix y16 y18) fun x25=>(Option.bind (T168 F x25) fun z26=>(bif (!z26) then (kR false) else (Option.bind (inb 256 x25) fun x27=>(Option.bind (vat y19 x27) fun x28=>(bif x28 then (kR false) else (Option.bind (inb 256 x25) fun x29=>(kA ((w64 (y18 + (1:Int))),(Vector.setIfInBounds y19 x29 true)))))))))) else (kO ()))
def L137_2 (F:Nat) (y16:List Int) (y17:Int) (y18:Int) (y19:Vector Bool 256):Option ((Int×(Vector Bool 256)) ⊕ ((Unit) ⊕ (Bool))):=L137_2c F y16 y17 y18 y19 (fun s=>some (.inl s)) (fun z=>some (.inr (.inl z))) (fun z=>some (.inr (.inr z)))
theorem L137_2n (F:Nat) (y16:List Int) (y17:Int) (y18:Int) (y19:Vector Bool 256) {β:Type} (kA:(Int×(Vector Bool 256))->Option β) (kO:Unit->Option β) (kR:Bool->Option β):L137_2c F y16 y17 y18 y19 kA kO kR=(L137_2 F y16 y17 y18 y19).bind (elimS kA (elimS kO kR)):=by
 simp only [L137_2,L137_2c,oA,oC,oS,oN,elimS_l,elimS_r,elimS_bind]
def lc137_2 (F:Nat):Lc:=mkR [3,9,10,11] [(.pt 0 []),(.ro .i),.i,.i] [.blk 211 (.ar 256 .bo)] [] [] [] [2] [.bo] [] F (fun x y (s:Int×(Vector Bool 256))=>L137_2 F x.2.1 x.2.2.1 s.1 s.2) (fun x y=>(x.2.2.2.1,y.1)) (fun x y (z:Unit)=>((),())) (fun x y (z:Bool)=>((z,()),()))
theorem lo137_2 (F:Nat):LcOk Tryz.prog (E137 F) 0 (lc137_2 F) (cAt (bodyOf Tryz.f137) [1,0,1,1,1]):=
 mkR_ok (lp:=[]) (id:=0) (b:=cAt (bodyOf Tryz.f137) (0 :: 0 :: [1,0,1,1,1])) cok (cts137 F) mixed trivial (by kernel_rfl) (by kernel_rfl) (fun x y s=>((),x.2.1,x.2.2.1,s.1,())) (fun x y s=>(s.2,())) (fun x y=>rfl) (fun x y=>rfl) (fun x y s kA kO kR=>L137_2c F x.2.1 x.2.2.1 s.1 s.2 kA kO kR) (fun x y s kA kO kR=>L137_2n F x.2.1 x.2.2.1 s.1 s.2 kA kO kR) (fun _ _ _=>by kernel_rfl)
def T137c (F:Nat) (p0:List Int) {β:Type} (k:Bool->Option β):Option β:=
 (bif (decide ((64:Int) < (p0.length:Int))) then (k false) else (Option.bind (iter (fun s=>L137_2 F p0 (p0.length:Int) s.1 s.2) F ((0:Int),(Vector.replicate 256 false))) fun z30=>elimS (fun z30=>(k true)) (fun z30=>(k z30)) z30))
def T137 (F:Nat) (p0:List Int):=T137c F p0 some
def ct137 (F:Nat):Ct:=mkC 0 [(.ro .i)] [] [.bo] [] (fun x y=>T137 F x.1) (fun x y (z:Bool)=>((z,()),()))
theorem ok137 (F:Nat):Sound Tryz.prog cfg 137 (ct137 F):=
 mkC_ok (E:=E137 F) (lp:=[([1,0,1,1,1],lc137_2 F)]) (code:=bodyOf Tryz.f137) Tryz.func137 rfl Tryz.ntmps137 rfl rfl cok (cts137 F) mixed ⟨lo137_2 F,trivial⟩ (by kernel_rfl) (fun x y k=>T137c F x.1 k) (fun _ _ _=>by simp only [T137,T137c,oA,oC,oS,oN,elimS_bind]) (fun _ _=>by kernel_rfl)
def T172 (F:Nat) (p1:Int):Option Zm:=TGrow F p1
def ct172 (F:Nat):Ct:=mkC 0 [.ns,.i] [] [(.rw 0)] [.row 36 (.sl .u8)] (fun x y=>T172 F x.2.1) (fun x y (z:List Za)=>(((),()),(z,())))
theorem ok172 (F:Nat):Sound Tryz.prog cfg 172 (ct172 F):=grow_ok F
def E139 (F:Nat):Ev:=⟨cfg,36,ctOf [(172,ct172 F)],fun _=>[],ctOf [],fun _=>none,fun _=>none⟩
theorem cts139 (F:Nat):CtsOk Tryz.prog (E139 F):=cts_of (l:=[(172,ct172 F)]) (l':=[]) rfl rfl ⟨⟨ok172 F,_,Tryz.func172,rfl,rfl⟩,trivial⟩ trivial
def L139_3c (F:Nat) (y21:List Zm) (y22:Int) (y20:Int) (y23:Int) {β:Type} (kA:(Int×Int)->Option β) (kO:Int->Option β):Option β:=
 (bif (decide (y23 < y22)) then (Option.bind (ix y21 y23) fun x25=>(bif (decide ((w64 (y20 + (x25.length:Int))) < (0:Int))) then none else (kA ((w64 (y20 + (x25.length:Int))),(w64 (y23 + (1:Int))))))) else (kO y20))
def L139_3 (F:Nat) (y21:List Zm) (y22:Int) (y20:Int) (y23:Int):=L139_3c F y21 y22 y20 y23 (fun s=>some (Sum.inl s)) (fun z=>some (Sum.inr z))
def lc139_3 (F:Nat):Lc:=mkL [0,3,9,10,11] [(.ro (.sl (.sl .u8))),.i,(.ro (.sl (.sl .u8))),.i,.i] [] [0,3] [(.ro (.sl (.sl .u8))),.i] [] F (fun x y (s:Int×Int)=>L139_3 F x.2.2.1 x.2.2.2.1 s.1 s.2) (fun x y=>(x.2.1,x.2.2.2.2.1)) (fun x y (z:Int)=>((x.1,z,()),()))
theorem lo139_3 (F:Nat):LcOk Tryz.prog (E139 F) 0 (lc139_3 F) (cAt (bodyOf Tryz.f139) [1,0,1,1]):=
 mkL_ok (lp:=[]) (id:=0) (b:=cAt (bodyOf Tryz.f139) (0 :: 0 :: [1,0,1,1])) cok (cts139 F) mixed trivial (by kernel_rfl) (by kernel_rfl) (fun x y s=>(x.1,s.1,x.2.2.1,x.2.2.2.1,s.2,())) (fun x y s=>()) (fun x y=>rfl) (fun x y=>rfl) (fun x y s kA kO=>L139_3c F x.2.2.1 x.2.2.2.1 s.1 s.2 kA kO) (fun _ _ _ _ _=>by simp only [L139_3,L139_3c,oA,oC,oS,oN,elimS_l,elimS_r,elimS_bind]) (fun _ _ _=>by kernel_rfl)
def L139_4c (F:Nat) (y28:List Zm) (y29:Int) (y30:Int) (y31:List Za) {β:Type} (kA:(Int×Zm)->Option β) (kO:(Zm)->Option β):Option β:=
 (bif (decide (y30 < y29)) then (Option.bind (ix y28 y30) fun x34=>(Option.bind (gapp y31 x34) fun x35=>(kA ((w64 (y30 + (1:Int))),x35)))) else (kO y31))
def L139_4 (F:Nat) (y28:List Zm) (y29:Int) (y30:Int) (y31:List Za):=L139_4c F y28 y29 y30 y31 (fun s=>some (Sum.inl s)) (fun z=>some (Sum.inr z))
def lc139_4 (F:Nat):Lc:=mkL [6,25,26,27] [(.rw 0),(.ro (.sl (.sl .u8))),.i,.i] [.row 36 (.sl .u8)] [6] [(.rw 0)] [.row 36 (.sl .u8)] F (fun x y (s:Int×Zm)=>L139_4 F x.2.1 x.2.2.1 s.1 s.2) (fun x y=>(x.2.2.2.1,y.1)) (fun x y (z:Zm)=>(((),()),(z,())))
theorem lo139_4 (F:Nat):LcOk Tryz.prog (E139 F) 0 (lc139_4 F) (cAt (bodyOf Tryz.f139) [1,0,1,1,1,1]):=
 mkL_ok (lp:=[]) (id:=2) (b:=cAt (bodyOf Tryz.f139) (0 :: 0 :: [1,0,1,1,1,1])) cok (cts139 F) mixed trivial (by kernel_rfl) (by kernel_rfl) (fun x y s=>((),x.2.1,x.2.2.1,s.1,())) (fun x y s=>(s.2,())) (fun x y=>rfl) (fun x y=>rfl) (fun x y s kA kO=>L139_4c F x.2.1 x.2.2.1 s.1 s.2 kA kO) (fun _ _ _ _ _=>by simp only [L139_4,L139_4c,oA,oC,oS,oN,elimS_l,elimS_r,elimS_bind]) (fun _ _ _=>by kernel_rfl)
def T139c (F:Nat) (p0:List Zm) {β:Type} (k:(Zm)->Option β):Option β:=
 (Option.bind (iter (fun s=>L139_3 F p0 (p0.length:Int) s.1 s.2) F ((0:Int),(0:Int))) fun z26=>(Option.bind (T172 F z26) fun z27=>(Option.bind (iter (fun s=>L139_4 F p0 (p0.length:Int) s.1 s.2) F ((0:Int),z27)) fun z36=>(k z36))))
def T139 (F:Nat) (p0:List Zm):=T139c F p0 some
def ct139 (F:Nat):Ct:=mkC 0 [(.ro (.sl (.sl .u8)))] [] [(.rw 0)] [.row 36 (.sl .u8)] (fun x y=>T139 F x.1) (fun x y (z:Zm)=>(((),()),(z,())))
theorem ok139 (F:Nat):Sound Tryz.prog cfg 139 (ct139 F):=
 mkC_ok (E:=E139 F) (lp:=[([1,0,1,1],lc139_3 F),([1,0,1,1,1,1],lc139_4 F)]) (code:=bodyOf Tryz.f139) Tryz.func139 rfl Tryz.ntmps139 rfl rfl cok (cts139 F) mixed ⟨lo139_3 F,⟨lo139_4 F,trivial⟩⟩ (by kernel_rfl) (fun x y k=>T139c F x.1 k) (fun _ _ _=>by simp only [T139,T139c,oA,oC,oS,oN,elimS_bind]) (fun _ _=>by kernel_rfl)
def E138 (F:Nat):Ev:=⟨cfg,4,ctOf [],fun _=>[],ctOf [],fun _=>none,fun _=>none⟩
theorem cts138 (F:Nat):CtsOk Tryz.prog (E138 F):=cts_of (l:=[]) (l':=[]) rfl rfl trivial trivial
def T138c (F:Nat) {β:Type} (k:Unit->Option β):Option β:=
 (k ())
def T138 (F:Nat):=T138c F some
def ct138 (F:Nat):Ct:=mkC 0 [(.ro (.sl .u8))] [] [(.fn 169 .un (.pr (.pt 0 []) .un))] [.blk 141 (.ro (.sl .u8))] (fun x y=>T138 F) (fun x y (z:Unit)=>((((),((),())),()),(x.1,())))
theorem ok138 (F:Nat):Sound Tryz.prog cfg 138 (ct138 F):=
 mkC_ok (E:=E138 F) (lp:=[]) (code:=bodyOf Tryz.f138) Tryz.func138 rfl Tryz.ntmps138 rfl rfl cok (cts138 F) mixed trivial (by kernel_rfl) (fun x y k=>T138c F k) (fun _ _ _=>by simp only [T138,T138c,oA,oC,oS,oN,elimS_bind]) (fun _ _=>by kernel_rfl)
def E170 (F:Nat):Ev:=⟨cfg,4,ctOf [],fun _=>[],ctOf [],fun _=>none,fun _=>none⟩
theorem cts170 (F:Nat):CtsOk Tryz.prog (E170 F):=cts_of (l:=[]) (l':=[]) rfl rfl trivial trivial
def T170c (F:Nat) {β:Type} (k:Unit->Option β):Option β:=
 (k ())
def T170 (F:Nat):=T170c F some
def ct170 (F:Nat):Ct:=mkC 0 [(.ro (.sl .u8))] [] [(.fn 198 .un (.pr (.pt 0 []) .un))] [.blk 141 (.ro (.sl .u8))] (fun x y=>T170 F) (fun x y (z:Unit)=>((((),((),())),()),(x.1,())))
theorem ok170 (F:Nat):Sound Tryz.prog cfg 170 (ct170 F):=
 mkC_ok (E:=E170 F) (lp:=[]) (code:=bodyOf Tryz.f170) Tryz.func170 rfl Tryz.ntmps170 rfl rfl cok (cts170 F) mixed trivial (by kernel_rfl) (fun x y k=>T170c F k) (fun _ _ _=>by simp only [T170,T170c,oA,oC,oS,oN,elimS_bind]) (fun _ _=>by kernel_rfl)
def E203 (F:Nat):Ev:=⟨cfg,11,ctOf [],fun _=>[],ctOf [],fun _=>none,fun _=>none⟩
theorem cts203 (F:Nat):CtsOk Tryz.prog (E203 F):=cts_of (l:=[]) (l':=[]) rfl rfl trivial trivial
def T203c (F:Nat) (p0:UInt8) {β:Type} (k:UInt8->Option β):Option β:=
 (bif ((p0 &&& (UInt8.ofNat 128)) != (UInt8.ofNat 0)) then (k ((shl8 p0 ((UInt64.ofNat 1).toNat)) ^^^ (UInt8.ofNat 29))) else (k (shl8 p0 ((UInt64.ofNat 1).toNat))))
def T203 (F:Nat) (p0:UInt8):=T203c F p0 some
def ct203 (F:Nat):Ct:=mkC 0 [.u8] [] [.u8] [] (fun x y=>T203 F x.1) (fun x y (z:UInt8)=>((z,()),()))
theorem ok203 (F:Nat):Sound Tryz.prog cfg 203 (ct203 F):=
 mkC_ok (E:=E203 F) (lp:=[]) (code:=bodyOf Tryz.f203) Tryz.func203 rfl Tryz.ntmps203 rfl rfl cok (cts203 F) mixed trivial (by kernel_rfl) (fun x y k=>T203c F x.1 k) (fun _ _ _=>by simp only [T203,T203c,oA,oC,oS,oN,elimS_bind]) (fun _ _=>by kernel_rfl)
def E186 (F:Nat):Ev:=⟨cfg,19,ctOf [(203,ct203 F)],fun _=>[],ctOf [],fun _=>none,fun _=>none⟩
theorem cts186 (F:Nat):CtsOk Tryz.prog (E186 F):=cts_of (l:=[(203,ct203 F)]) (l':=[]) rfl rfl ⟨⟨ok203 F,_,Tryz.func203,rfl,rfl⟩,trivial⟩ trivial
def L186_2c (F:Nat) (y9:UInt8) (y10:UInt8) (y11:UInt8) {β:Type} (kA:(UInt8×UInt8×UInt8)->Option β) (kO:UInt8->Option β):Option β:=
 (bif (y10 != (UInt8.ofNat 0)) then (bif ((y10 &&& (UInt8.ofNat 1)) == (UInt8.ofNat 1)) then (Option.bind (T203 F y9) fun z14=>(kA (z14,(shr8 y10 ((UInt64.ofNat 1).toNat)),(y11 ^^^ y9)))) else (Option.bind (T203 F y9) fun z15=>(kA (z15,(shr8 y10 ((UInt64.ofNat 1).toNat)),y11)))) else (kO y11))
def L186_2 (F:Nat) (y9:UInt8) (y10:UInt8) (y11:UInt8):=L186_2c F y9 y10 y11 (fun s=>some (Sum.inl s)) (fun z=>some (Sum.inr z))
def lc186_2 (F:Nat):Lc:=mkL [0,1,5] [.u8,.u8,.u8] [] [5] [.u8] [] F (fun x y (s:UInt8×UInt8×UInt8)=>L186_2 F s.1 s.2.1 s.2.2) (fun x y=>(x.1,x.2.1,x.2.2.1)) (fun x y (z:UInt8)=>((z,()),()))
theorem lo186_2 (F:Nat):LcOk Tryz.prog (E186 F) 0 (lc186_2 F) (cAt (bodyOf Tryz.f186) [0,1,1]):=
 mkL_ok (lp:=[]) (id:=0) (b:=cAt (bodyOf Tryz.f186) (0 :: 0 :: [0,1,1])) cok (cts186 F) mixed trivial (by kernel_rfl) (by kernel_rfl) (fun x y s=>(s.1,s.2.1,s.2.2,())) (fun x y s=>()) (fun x y=>rfl) (fun x y=>rfl) (fun x y s kA kO=>L186_2c F s.1 s.2.1 s.2.2 kA kO) (fun _ _ _ _ _=>by simp only [L186_2,L186_2c,oA,oC,oS,oN,elimS_l,elimS_r,elimS_bind]) (fun _ _ _=>by kernel_rfl)
def T186c (F:Nat) (p0:UInt8) (p1:UInt8) {β:Type} (k:UInt8->Option β):Option β:=
 (Option.bind (iter (fun s=>L186_2 F s.1 s.2.1 s.2.2) F (p0,p1,(UInt8.ofNat 0))) fun z16=>(k z16))
def T186 (F:Nat) (p0:UInt8) (p1:UInt8):=T186c F p0 p1 some
def ct186 (F:Nat):Ct:=mkC 0 [.u8,.u8] [] [.u8] [] (fun x y=>T186 F x.1 x.2.1) (fun x y (z:UInt8)=>((z,()),()))
theorem ok186 (F:Nat):Sound Tryz.prog cfg 186 (ct186 F):=
 mkC_ok (E:=E186 F) (lp:=[([0,1,1],lc186_2 F)]) (code:=bodyOf Tryz.f186) Tryz.func186 rfl Tryz.ntmps186 rfl rfl cok (cts186 F) mixed ⟨lo186_2 F,trivial⟩ (by kernel_rfl) (fun x y k=>T186c F x.1 x.2.1 k) (fun _ _ _=>by simp only [T186,T186c,oA,oC,oS,oN,elimS_bind]) (fun _ _=>by kernel_rfl)
def E206 (F:Nat):Ev:=⟨cfg,24,ctOf [(186,ct186 F)],fun _=>[],ctOf [],fun _=>none,fun _=>none⟩
theorem cts206 (F:Nat):CtsOk Tryz.prog (E206 F):=cts_of (l:=[(186,ct186 F)]) (l':=[]) rfl rfl ⟨⟨ok186 F,_,Tryz.func186,rfl,rfl⟩,trivial⟩ trivial
def L206_2c (F:Nat) (y14:UInt8) (y15:Int) (y16:Vector UInt8 16) (y17:Vector UInt8 16) {β:Type} (kA:(Int×Zl×Zl)->Option β) (kO:(Zl×Zl)->Option β):Option β:=
 (bif (decide (y15 < (16:Int))) then (Option.bind (T186 F y14 (UInt8.ofInt y15)) fun z22=>(Option.bind (inb 16 y15) fun x23=>(Option.bind (T186 F y14 (UInt8.ofInt (w64 (y15 * 2 ^ min ((UInt64.ofNat 4).toNat) 64)))) fun z24=>(Option.bind (inb 16 y15) fun x25=>(kA ((w64 (y15 + (1:Int))),(Vector.setIfInBounds y16 x23 z22),(Vector.setIfInBounds y17 x25 z24))))))) else (kO (y16,y17)))
def L206_2 (F:Nat) (y14:UInt8) (y15:Int) (y16:Vector UInt8 16) (y17:Vector UInt8 16):=L206_2c F y14 y15 y16 y17 (fun s=>some (Sum.inl s)) (fun z=>some (Sum.inr z))
def lc206_2 (F:Nat):Lc:=mkL [0,3,4,6] [.u8,(.pt 0 []),(.pt 1 []),.i] [.blk 248 (.ar 16 .u8),.blk 248 (.ar 16 .u8)] [3,4] [(.pt 0 []),(.pt 1 [])] [.blk 248 (.ar 16 .u8),.blk 248 (.ar 16 .u8)] F (fun x y (s:Int×Zl×Zl)=>L206_2 F x.1 s.1 s.2.1 s.2.2) (fun x y=>(x.2.2.2.1,y.1,y.2.1)) (fun x y (z:Zl×Zl)=>(((),(),()),(z.1,z.2,())))
theorem lo206_2 (F:Nat):LcOk Tryz.prog (E206 F) 0 (lc206_2 F) (cAt (bodyOf Tryz.f206) [1,0,1,1]):=
 mkL_ok (lp:=[]) (id:=0) (b:=cAt (bodyOf Tryz.f206) (0 :: 0 :: [1,0,1,1])) cok (cts206 F) mixed trivial (by kernel_rfl) (by kernel_rfl) (fun x y s=>(x.1,(),(),s.1,())) (fun x y s=>(s.2.1,s.2.2,())) (fun x y=>rfl) (fun x y=>rfl) (fun x y s kA kO=>L206_2c F x.1 s.1 s.2.1 s.2.2 kA kO) (fun _ _ _ _ _=>by simp only [L206_2,L206_2c,oA,oC,oS,oN,elimS_l,elimS_r,elimS_bind]) (fun _ _ _=>by kernel_rfl)
def T206c (F:Nat) (p0:UInt8) {β:Type} (k:(Zl×Zl)->Option β):Option β:=
 (Option.bind (iter (fun s=>L206_2 F p0 s.1 s.2.1 s.2.2) F ((0:Int),(Vector.replicate 16 (0:UInt8)),(Vector.replicate 16 (0:UInt8)))) fun z26=>(k (z26.1,z26.2)))
def T206 (F:Nat) (p0:UInt8):=T206c F p0 some
def ct206 (F:Nat):Ct:=mkC 0 [.u8] [] [(.fn 207 .un (.pr (.pt 0 []) (.pr (.pt 1 []) .un)))] [.blk 248 (.ar 16 .u8),.blk 248 (.ar 16 .u8)] (fun x y=>T206 F x.1) (fun x y (z:Zl×Zl)=>((((),((),(),())),()),(z.1,z.2,())))
theorem ok206 (F:Nat):Sound Tryz.prog cfg 206 (ct206 F):=
 mkC_ok (E:=E206 F) (lp:=[([1,0,1,1],lc206_2 F)]) (code:=bodyOf Tryz.f206) Tryz.func206 rfl Tryz.ntmps206 rfl rfl cok (cts206 F) mixed ⟨lo206_2 F,trivial⟩ (by kernel_rfl) (fun x y k=>T206c F x.1 k) (fun _ _ _=>by simp only [T206,T206c,oA,oC,oS,oN,elimS_bind]) (fun _ _=>by kernel_rfl)
def ord207:Nat->List (Tag×Nat)
 | 1=>[(.p,0),(.p,1),(.p,2),(.r,3),(.p,4),(.p,5),(.p,6),(.r,7),(.p,8),(.p,9)]
 | _=>[]
def E207 (F:Nat):Ev:=⟨cfg,14,ctOf [],ord207,ctOf [],fun _=>none,fun _=>none⟩
theorem cts207 (F:Nat):CtsOk Tryz.prog (E207 F):=cts_of (l:=[]) (l':=[]) rfl rfl trivial trivial
def T207c (F:Nat) (p0:UInt8) (p1:Vector UInt8 16) (p2:Vector UInt8 16) {β:Type} (k:UInt8->Option β):Option β:=
 (Option.bind (vix p1 ((p0 &&& (UInt8.ofNat 15)).toNat:Int)) fun x3=>(Option.bind (vix p2 ((shr8 p0 ((UInt64.ofNat 4).toNat)).toNat:Int)) fun x4=>(k (x3 ^^^ x4))))
def T207 (F:Nat) (p0:UInt8) (p1:Vector UInt8 16) (p2:Vector UInt8 16):=T207c F p0 p1 p2 some
def ct207 (F:Nat):Ct:=mkC 0 [.u8,(.re (.ar 16 .u8)),(.re (.ar 16 .u8))] [] [.u8] [] (fun x y=>T207 F x.1 x.2.1 x.2.2.1) (fun x y (z:UInt8)=>((z,()),()))
theorem ok207 (F:Nat):Sound Tryz.prog cfg 207 (ct207 F):=
 mkC_ok (E:=E207 F) (lp:=[]) (code:=bodyOf Tryz.f207) Tryz.func207 rfl Tryz.ntmps207 rfl rfl cok (cts207 F) mixed trivial (by kernel_rfl) (fun x y k=>T207c F x.1 x.2.1 x.2.2.1 k) (fun _ _ _=>by simp only [T207,T207c,oA,oC,oS,oN,elimS_bind]) (fun _ _=>by kernel_rfl)
def E199 (F:Nat):Ev:=⟨cfg,29,ctOf [(206,ct206 F),(207,ct207 F)],fun _=>[],ctOf [],fun _=>none,fun _=>none⟩
theorem cts199 (F:Nat):CtsOk Tryz.prog (E199 F):=cts_of (l:=[(206,ct206 F),(207,ct207 F)]) (l':=[]) rfl rfl ⟨⟨ok206 F,_,Tryz.func206,rfl,rfl⟩,⟨⟨ok207 F,_,Tryz.func207,rfl,rfl⟩,trivial⟩⟩ trivial
def L199_2c (F:Nat) (y18:List UInt8) (y19:Int) (y21:Vector UInt8 16) (y22:Vector UInt8 16) (y20:Int) (y23:List UInt8) {β:Type} (kA:Zh->Option β) (kO:(Za)->Option β):Option β:=
 (bif (decide (y20 < y19)) then (Option.bind (ix y18 y20) fun x27=>(Option.bind (T207 F x27 y21 y22) fun z28=>(Option.bind (inb y23.length y20) fun x29=>(kA ((w64 (y20 + (1:Int))),(List.set y23 x29 z28)))))) else (kO y23))
def L199_2 (F:Nat) (y18:List UInt8) (y19:Int) (y21:Vector UInt8 16) (y22:Vector UInt8 16) (y20:Int) (y23:List UInt8):=L199_2c F y18 y19 y21 y22 y20 y23 (fun s=>some (Sum.inl s)) (fun z=>some (Sum.inr z))
def lc199_2 (F:Nat):Lc:=mkL [5,6,14,15,16] [(.fn 207 .un (.pr (.pt 0 []) (.pr (.pt 1 []) .un))),(.rw 2),(.ro .u8),.i,.i] [.blk 248 (.ar 16 .u8),.blk 248 (.ar 16 .u8),.row 5 .u8] [6] [(.rw 0)] [.row 5 .u8] F (fun x y (s:Int×Za)=>L199_2 F x.2.2.1 x.2.2.2.1 y.1 y.2.1 s.1 s.2) (fun x y=>(x.2.2.2.2.1,y.2.2.1)) (fun x y (z:Za)=>(((),()),(z,())))
theorem lo199_2 (F:Nat):LcOk Tryz.prog (E199 F) 0 (lc199_2 F) (cAt (bodyOf Tryz.f199) [1,0,1,1,1]):=
 mkL_ok (lp:=[]) (id:=0) (b:=cAt (bodyOf Tryz.f199) (0 :: 0 :: [1,0,1,1,1])) cok (cts199 F) mixed trivial (by kernel_rfl) (by kernel_rfl) (fun x y s=>(((),((),(),())),(),x.2.2.1,x.2.2.2.1,s.1,())) (fun x y s=>(y.1,y.2.1,s.2,())) (fun x y=>rfl) (fun x y=>rfl) (fun x y s kA kO=>L199_2c F x.2.2.1 x.2.2.2.1 y.1 y.2.1 s.1 s.2 kA kO) (fun _ _ _ _ _=>by simp only [L199_2,L199_2c,oA,oC,oS,oN,elimS_l,elimS_r,elimS_bind]) (fun _ _ _=>by kernel_rfl)
def T199c (F:Nat) (p0:List UInt8) (p1:UInt8) {β:Type} (k:(Za)->Option β):Option β:=
 (Option.bind (T206 F p1) fun z16=>(Option.bind (gmake (0:UInt8) (p0.length:Int) (p0.length:Int)) fun x17=>(Option.bind (iter (fun s=>L199_2 F p0 (p0.length:Int) z16.1 z16.2 s.1 s.2) F ((0:Int),x17)) fun z30=>(k z30))))
def T199 (F:Nat) (p0:List UInt8) (p1:UInt8):=T199c F p0 p1 some
def ct199 (F:Nat):Ct:=mkC 0 [(.ro .u8),.u8] [] [(.rw 0)] [.row 5 .u8] (fun x y=>T199 F x.1 x.2.1) (fun x y (z:Za)=>(((),()),(z,())))
theorem ok199 (F:Nat):Sound Tryz.prog cfg 199 (ct199 F):=
 mkC_ok (E:=E199 F) (lp:=[([1,0,1,1,1],lc199_2 F)]) (code:=bodyOf Tryz.f199) Tryz.func199 rfl Tryz.ntmps199 rfl rfl cok (cts199 F) mixed ⟨lo199_2 F,trivial⟩ (by kernel_rfl) (fun x y k=>T199c F x.1 x.2.1 k) (fun _ _ _=>by simp only [T199,T199c,oA,oC,oS,oN,elimS_bind]) (fun _ _=>by kernel_rfl)
def E171 (F:Nat):Ev:=⟨cfg,35,ctOf [(199,ct199 F)],fun _=>[],ctOf [],fun _=>none,fun _=>none⟩
theorem cts171 (F:Nat):CtsOk Tryz.prog (E171 F):=cts_of (l:=[(199,ct199 F)]) (l':=[]) rfl rfl ⟨⟨ok199 F,_,Tryz.func199,rfl,rfl⟩,trivial⟩ trivial
def L171_2c (F:Nat) (y16:List UInt8) (y17:Int) (y18:Int) (y19:List UInt8) {β:Type} (kA:Zh->Option β) (kO:(Za)->Option β):Option β:=
 (bif (decide (y18 < y17)) then (Option.bind (ix y16 y18) fun x24=>(Option.bind (inb y19.length y18) fun x25=>(Option.bind (y19[x25]?) fun x26=>(Option.bind (inb y19.length y18) fun x27=>(kA ((w64 (y18 + (1:Int))),(List.set y19 x27 (x26 ^^^ x24)))))))) else (kO y19))
def L171_2 (F:Nat) (y16:List UInt8) (y17:Int) (y18:Int) (y19:List UInt8):=L171_2c F y16 y17 y18 y19 (fun s=>some (Sum.inl s)) (fun z=>some (Sum.inr z))
def lc171_2 (F:Nat):Lc:=mkL [8,19,20,21] [(.rw 0),(.ro .u8),.i,.i] [.row 5 .u8] [8] [(.rw 0)] [.row 5 .u8] F (fun x y (s:Int×Za)=>L171_2 F x.2.1 x.2.2.1 s.1 s.2) (fun x y=>(x.2.2.2.1,y.1)) (fun x y (z:Za)=>(((),()),(z,())))
theorem lo171_2 (F:Nat):LcOk Tryz.prog (E171 F) 0 (lc171_2 F) (cAt (bodyOf Tryz.f171) [1,0,1,1,1]):=
 mkL_ok (lp:=[]) (id:=0) (b:=cAt (bodyOf Tryz.f171) (0 :: 0 :: [1,0,1,1,1])) cok (cts171 F) mixed trivial (by kernel_rfl) (by kernel_rfl) (fun x y s=>((),x.2.1,x.2.2.1,s.1,())) (fun x y s=>(s.2,())) (fun x y=>rfl) (fun x y=>rfl) (fun x y s kA kO=>L171_2c F x.2.1 x.2.2.1 s.1 s.2 kA kO) (fun _ _ _ _ _=>by simp only [L171_2,L171_2c,oA,oC,oS,oN,elimS_l,elimS_r,elimS_bind]) (fun _ _ _=>by kernel_rfl)
def T171c (F:Nat) (p0:List UInt8) (p1:List UInt8) (p2:UInt8) {β:Type} (k:Zh->Option β):Option β:=
 (bif ((p0.length:Int) != (p1.length:Int)) then (k ((1:Int),([]:List UInt8))) else (Option.bind (T199 F p1 p2) fun z15=>(Option.bind (iter (fun s=>L171_2 F p0 (p0.length:Int) s.1 s.2) F ((0:Int),z15)) fun z28=>(k ((0:Int),z28)))))
def T171 (F:Nat) (p0:List UInt8) (p1:List UInt8) (p2:UInt8):=T171c F p0 p1 p2 some
def ct171 (F:Nat):Ct:=mkC 0 [(.ro .u8),(.ro .u8),.u8] [] [(.rw 0),.i] [.row 5 .u8] (fun x y=>T171 F x.1 x.2.1 x.2.2.1) (fun x y (z:Int×Za)=>(((),z.1,()),(z.2,())))
theorem ok171 (F:Nat):Sound Tryz.prog cfg 171 (ct171 F):=
 mkC_ok (E:=E171 F) (lp:=[([1,0,1,1,1],lc171_2 F)]) (code:=bodyOf Tryz.f171) Tryz.func171 rfl Tryz.ntmps171 rfl rfl cok (cts171 F) mixed ⟨lo171_2 F,trivial⟩ (by kernel_rfl) (fun x y k=>T171c F x.1 x.2.1 x.2.2.1 k) (fun _ _ _=>by simp only [T171,T171c,oA,oC,oS,oN,elimS_bind]) (fun _ _=>by kernel_rfl)
def E169 (F:Nat):Ev:=⟨cfg,25,ctOf [(170,ct170 F),(171,ct171 F)],fun _=>[],ctOf [],fun _=>none,fun _=>none⟩
theorem cts169 (F:Nat):CtsOk Tryz.prog (E169 F):=cts_of (l:=[(170,ct170 F),(171,ct171 F)]) (l':=[]) rfl rfl ⟨⟨ok170 F,_,Tryz.func170,rfl,rfl⟩,⟨⟨ok171 F,_,Tryz.func171,rfl,rfl⟩,trivial⟩⟩ trivial
abbrev rA169_2:List Sh:=[(.pt 1 []),(.pt 2 [])]
abbrev rB169_2:List Sh:=[(.pt 0 []),(.pt 1 [])]
abbrev rZ169_2:List Sh:=[.i,(.ro .u8)]
abbrev rT169_2:List TSh:=[.blk 141 (.ro (.sl .u8)),.blk 3 .i,.blk 36 (.rw 3),.row 5 .u8]
abbrev rU169_2:List TSh:=[.blk 3 .i,.blk 36 (.rw 2),.row 5 .u8]
def L169_2 (F:Nat) (y14:Int) (y15:List UInt8) (e17:List UInt8):Option (dens rB169_2×tdens rU169_2):=
 (Option.bind (T171 F e17 y15 (UInt8.ofInt y14)) fun z19=>some (((),(),()),(y14,(),z19.2,())))
def R169_2 (F:Nat) (x:dens (.fn 198 .un (.pr (.pt 0 []) .un) :: rA169_2)) (y:tdens rT169_2):Option (dens rB169_2×tdens rU169_2):=bif okBack y.1 then rfold ((fun (x:dens (.fn 198 .un (.pr (.pt 0 []) .un) :: rA169_2)) (y:tdens rT169_2) (s:dens rB169_2×tdens rU169_2) (e:dens rZ169_2)=>L169_2 F s.2.1 s.2.2.2.1 e.2.1) x y) (backE y.1) ((((),(),()),(y.2.1,(),y.2.2.2.1,())):dens rB169_2×tdens rU169_2) else none
def lc169_2 (F:Nat):Lc:=mkF 13 198 (.pr (.pt 0 []) .un) [2,4] rA169_2 rB169_2 rT169_2 rU169_2 (ε:=dens rZ169_2) (fun x y=>backE y.1) (fun x y=>(((),(),()),(y.2.1,(),y.2.2.2.1,()))) (fun x y=>okBack y.1) (fun x y s e=>L169_2 F s.2.1 s.2.2.2.1 e.2.1)
theorem le169_2 (F:Nat) (x:dens (.fn 198 .un (.pr (.pt 0 []) .un) :: rA169_2)) (y:tdens rT169_2) (s:dens rB169_2×tdens rU169_2) (e:dens rZ169_2):sev (E169 F) 0 [] (rfBody (cAt (bodyOf Tryz.f169) [0,1,0,1,1])) [] ⟨(6,.ro .u8 e.2.1) :: putI [14,15] (encs rZ169_2 e) (zipS [2,4] (encs rB169_2 s.1)),encTs rU169_2 s.2,[]⟩ (kRd 0 [2,4] rB169_2 rU169_2 (encs rB169_2 s.1))=(fun x y s e=>L169_2 F s.2.1 s.2.2.2.1 e.2.1) x y s e:=by kernel_rfl
theorem li169_2 (x:dens (.fn 198 .un (.pr (.pt 0 []) .un) :: rA169_2)) (y:tdens rT169_2):uniS 0 [2,4] rB169_2 rU169_2 ⟨zipS [2,4] (encs rA169_2 x.2),dropB [0] (encTs rT169_2 y),[]⟩ (fun p q=>some (p,q))=some (((),(),()),(y.2.1,(),y.2.2.2.1,())):=by kernel_rfl
theorem lo169_2 (F:Nat):LcOkM Tryz.prog (E169 F) 0 (lc169_2 F) (cAt (bodyOf Tryz.f169) [0,1,0,1,1]):=
 rf_okP (ida:=3) (d:=6) (s_:=15) (ps:=[14,15]) (Ae:=rZ169_2) (bx:=[0]) (ve:=fun e=>.ro .u8 e.2.1) cok (cts169 F) mixed (by kernel_rfl) (by kernel_rfl) (by kernel_rfl) (fun y=>rfl) (li169_2) rfl rfl rfl rfl rfl (fun e=>rfl) (fun e il=>rfl) (fun args w=>by kernel_rfl)
  (fun x y O ρ lb hok h hb=>hit_back h hb rfl hok) (le169_2 F)
def T169c (F:Nat) (p0:Int) (p1:List Za) {β:Type} (k:(Za)->Option β):Option β:=
 (Option.bind (ix p1 (0:Int)) fun x11=>(Option.bind (gmake (0:UInt8) (x11.length:Int) (x11.length:Int)) fun x12=>(Option.bind (T170 F) fun z13=>(Option.bind (R169_2 F (((),((),())),(),(),()) (p1,p0,(),x12,())) fun z20=>(k z20.2.2.2.1)))))
def T169 (F:Nat) (p0:Int) (p1:List Za):=T169c F p0 p1 some
def ct169 (F:Nat):Ct:=mkC 0 [.i,(.re (.sl (.sl .u8)))] [] [(.rw 0)] [.row 5 .u8] (fun x y=>T169 F x.1 x.2.1) (fun x y (z:Za)=>(((),()),(z,())))
theorem ok169 (F:Nat):Sound Tryz.prog cfg 169 (ct169 F):=
 mkC_okM (E:=E169 F) (lp:=[([0,1,0,1,1],lc169_2 F)]) (code:=bodyOf Tryz.f169) Tryz.func169 rfl Tryz.ntmps169 rfl rfl cok (cts169 F) mixed ⟨lo169_2 F,trivial⟩ (by kernel_rfl) (fun x y k=>T169c F x.1 x.2.1 k) (fun _ _ _=>by simp only [T169,T169c,oA,oC,oS,oN,elimS_bind]) (fun _ _=>by kernel_rfl)
def E92 (F:Nat):Ev:=⟨cfg,50,ctOf [(136,ct136 F),(137,ct137 F),(139,ct139 F),(138,ct138 F),(169,ct169 F)],fun _=>[],ctOf [],fun _=>none,fun _=>none⟩
theorem cts92 (F:Nat):CtsOk Tryz.prog (E92 F):=cts_of (l:=[(136,ct136 F),(137,ct137 F),(139,ct139 F),(138,ct138 F),(169,ct169 F)]) (l':=[]) rfl rfl ⟨⟨ok136 F,_,Tryz.func136,rfl,rfl⟩,⟨⟨ok137 F,_,Tryz.func137,rfl,rfl⟩,⟨⟨ok139 F,_,Tryz.func139,rfl,rfl⟩,⟨⟨ok138 F,_,Tryz.func138,rfl,rfl⟩,⟨⟨ok169 F,_,Tryz.func169,rfl,rfl⟩,trivial⟩⟩⟩⟩⟩ trivial
def L92_2c (F:Nat) (y23:List Int) (y24:Int) (y26:List Za) (y25:Int) (y27:List Zb) {β:Type} (kA:(Int×Zi)->Option β) (kO:(Zi)->Option β):Option β:=
 (bif (decide (y25 < y24)) then (Option.bind (ix y23 y25) fun x31=>(Option.bind (T169 F x31 y26) fun z32=>(Option.bind (gapp y27 ([(x31,z32,())]:List Zb)) fun x33=>(kA ((w64 (y25 + (1:Int))),x33))))) else (kO y27))
def L92_2 (F:Nat) (y23:List Int) (y24:Int) (y26:List Za) (y25:Int) (y27:List Zb):=L92_2c F y23 y24 y26 y25 y27 (fun s=>some (Sum.inl s)) (fun z=>some (Sum.inr z))
def lc92_2 (F:Nat):Lc:=mkL [8,9,34,35,36] [(.fn 169 .un (.pr (.pt 0 []) .un)),(.rw 1),(.ro .i),.i,.i] [.blk 141 (.ro (.sl .u8)),.row 59 (.pr .i (.pr (.sl .u8) .un))] [9] [(.rw 0)] [.row 59 (.pr .i (.pr (.sl .u8) .un))] F (fun x y (s:Int×Zi)=>L92_2 F x.2.2.1 x.2.2.2.1 y.1 s.1 s.2) (fun x y=>(x.2.2.2.2.1,y.2.1)) (fun x y (z:Zi)=>(((),()),(z,())))
theorem lo92_2 (F:Nat):LcOk Tryz.prog (E92 F) 0 (lc92_2 F) (cAt (bodyOf Tryz.f92) [1,0,1,1,1,1,1]):=
 mkL_ok (lp:=[]) (id:=0) (b:=cAt (bodyOf Tryz.f92) (0 :: 0 :: [1,0,1,1,1,1,1])) cok (cts92 F) mixed trivial (by kernel_rfl) (by kernel_rfl) (fun x y s=>(((),((),())),(),x.2.2.1,x.2.2.2.1,s.1,())) (fun x y s=>(y.1,s.2,())) (fun x y=>rfl) (fun x y=>rfl) (fun x y s kA kO=>L92_2c F x.2.2.1 x.2.2.2.1 y.1 s.1 s.2 kA kO) (fun _ _ _ _ _=>by simp only [L92_2,L92_2c,oA,oC,oS,oN,elimS_l,elimS_r,elimS_bind]) (fun _ _ _=>by kernel_rfl)
def T92c (F:Nat) (p0:List UInt8) (p1:List Za) (p2:List Int) {β:Type} (k:(Int×Zi)->Option β):Option β:=
 (Option.bind (T136 F p1 (p0.length:Int)) fun z18=>(bif (!z18) then (k ((1:Int),([]:List Zb))) else (Option.bind (T137 F p2) fun z19=>(bif (!z19) then (k ((1:Int),([]:List Zb))) else (bif (decide ((1024:Int) < (p0.length:Int))) then (k ((2:Int),([]:List Zb))) else (Option.bind (T139 F ([([p0]:List Za),p1]:List Zm)) fun z20=>(Option.bind (T138 F) fun z21=>(Option.bind (gmake ((0:Int),([]:List UInt8),()) (0:Int) (p2.length:Int)) fun x22=>(Option.bind (iter (fun s=>L92_2 F p2 (p2.length:Int) z20 s.1 s.2) F ((0:Int),x22)) fun z34=>(k ((0:Int),z34)))))))))))
def T92 (F:Nat) (p0:List UInt8) (p1:List Za) (p2:List Int):=T92c F p0 p1 p2 some
def ct92 (F:Nat):Ct:=mkC 0 [(.ro .u8),(.ro (.sl .u8)),(.ro .i)] [] [(.rw 0),.i] [.row 59 (.pr .i (.pr (.sl .u8) .un))] (fun x y=>T92 F x.1 x.2.1 x.2.2.1) (fun x y (z:Int×Zi)=>(((),z.1,()),(z.2,())))
theorem ok92 (F:Nat):Sound Tryz.prog cfg 92 (ct92 F):=
 mkC_ok (E:=E92 F) (lp:=[([1,0,1,1,1,1,1],lc92_2 F)]) (code:=bodyOf Tryz.f92) Tryz.func92 rfl Tryz.ntmps92 rfl rfl cok (cts92 F) mixed ⟨lo92_2 F,trivial⟩ (by kernel_rfl) (fun x y k=>T92c F x.1 x.2.1 x.2.2.1 k) (fun _ _ _=>by simp only [T92,T92c,oA,oC,oS,oN,elimS_bind]) (fun _ _=>by kernel_rfl)
def E27 (F:Nat):Ev:=⟨cfg,78,ctOf [(90,ct90 F),(91,ct91 F),(92,ct92 F)],fun _=>[],ctOf [],fun _=>none,fun _=>none⟩
theorem cts27 (F:Nat):CtsOk Tryz.prog (E27 F):=cts_of (l:=[(90,ct90 F),(91,ct91 F),(92,ct92 F)]) (l':=[]) rfl rfl ⟨⟨ok90 F,_,Tryz.func90,rfl,rfl⟩,⟨⟨ok91 F,_,Tryz.func91,rfl,rfl⟩,⟨⟨ok92 F,_,Tryz.func92,rfl,rfl⟩,trivial⟩⟩⟩ trivial
def L27_3c (F:Nat) (y56:List Int) (y58:List Int) (y59:Int) (y60:Int) (y61:List Int) {β:Type} (kA:(Int×Zk)->Option β) (kO:(Zk)->Option β) (kR:Int->Option β):Option β:=
 (bif (decide (y60 < y59)) then (Option.bind (ix y58 y60) fun x66=>(bif (decide (x66 < (0:Int))) then (kR (1:Int)) else (bif (decide ((12:Int)≤x66)) then (kR (1:Int)) else (Option.bind (gsl y56 (0:Int) y60) fun x67=>(Option.bind (T90 F x67 x66) fun z68=>(bif z68 then (kR (1:Int)) else (Option.bind (gapp y61 ([(w64 (x66 + (1:Int)))]:List Int)) fun x69=>(kA ((w64 (y60 + (1:Int))),x69))))))))) else (kO y61))
def L27_3 (F:Nat) (y56:List Int) (y58:List Int) (y59:Int) (y60:Int) (y61:List Int):Option ((Int×Zk) ⊕ ((Zk) ⊕ (Int))):=L27_3c F y56 y58 y59 y60 y61 (fun s=>some (.inl s)) (fun z=>some (.inr (.inl z))) (fun z=>some (.inr (.inr z)))
theorem L27_3n (F:Nat) (y56:List Int) (y58:List Int) (y59:Int) (y60:Int) (y61:List Int) {β:Type} (kA:(Int×Zk)->Option β) (kO:(Zk)->Option β) (kR:Int->Option β):L27_3c F y56 y58 y59 y60 y61 kA kO kR=(L27_3 F y56 y58 y59 y60 y61).bind (elimS kA (elimS kO kR)):=by
 simp only [L27_3,L27_3c,oA,oC,oS,oN,elimS_l,elimS_r,elimS_bind]
def lc27_3 (F:Nat):Lc:=mkR [0,1,2,3,10,26,27,28] [.str,.i,(.ro .i),(.ro .u8),(.rw 0),(.ro .i),.i,.i] [.row 3 .i] [0,1,2,3,10] [.str,.i,(.ro .i),(.ro .u8),(.rw 0)] [.row 3 .i] [8,9] [.ns,.i] [] F (fun x y (s:Int×Zk)=>L27_3 F x.2.2.1 x.2.2.2.2.2.1 x.2.2.2.2.2.2.1 s.1 s.2) (fun x y=>(x.2.2.2.2.2.2.2.1,y.1)) (fun x y (z:Zk)=>((x.1,x.2.1,x.2.2.1,x.2.2.2.1,(),()),(z,()))) (fun x y (z:Int)=>(((),z,()),()))
theorem lo27_3 (F:Nat):LcOk Tryz.prog (E27 F) 0 (lc27_3 F) (cAt (bodyOf Tryz.f27) [1,0,1,1,1]):=
 mkR_ok (lp:=[]) (id:=0) (b:=cAt (bodyOf Tryz.f27) (0 :: 0 :: [1,0,1,1,1])) cok (cts27 F) mixed trivial (by kernel_rfl) (by kernel_rfl) (fun x y s=>(x.1,x.2.1,x.2.2.1,x.2.2.2.1,(),x.2.2.2.2.2.1,x.2.2.2.2.2.2.1,s.1,())) (fun x y s=>(s.2,())) (fun x y=>rfl) (fun x y=>rfl) (fun x y s kA kO kR=>L27_3c F x.2.2.1 x.2.2.2.2.2.1 x.2.2.2.2.2.2.1 s.1 s.2 kA kO kR) (fun x y s kA kO kR=>L27_3n F x.2.2.1 x.2.2.2.2.2.1 x.2.2.2.2.2.2.1 s.1 s.2 kA kO kR) (fun _ _ _=>by kernel_rfl)
abbrev rA27_4:List Sh:=[.str,(.rw 2),(.pt 3 [])]
abbrev rB27_4:List Sh:=[.str,(.rw 0),(.pt 1 [])]
abbrev rZ27_4:List Sh:=[(.ro .u8)]
abbrev rT27_4:List TSh:=[.blk 36 (.ro .u8),.blk 3 .i,.row 3 .i,.blk 141 .ns]
abbrev rU27_4:List TSh:=[.row 3 .i,.blk 141 (.rw 2),.row 36 (.sl .u8)]
def L27_4 (F:Nat) (y76:List UInt8) (y77:List Int) (y78:List Za) (e79:List UInt8):Option (dens rB27_4×tdens rU27_4):=
 (Option.bind (gapp y78 ([e79]:List Za)) fun x81=>some ((y76,(),(),()),(y77,(),x81,())))
def R27_4 (F:Nat) (x:dens (.fn 135 .un (.pr (.pt 0 []) (.pr (.pt 1 []) .un)) :: rA27_4)) (y:tdens rT27_4):Option (dens rB27_4×tdens rU27_4):=bif okChunk (y.2.1) y.1 then rfold ((fun (x:dens (.fn 135 .un (.pr (.pt 0 []) (.pr (.pt 1 []) .un)) :: rA27_4)) (y:tdens rT27_4) (s:dens rB27_4×tdens rU27_4) (e:dens rZ27_4)=>L27_4 F s.1.1 s.2.1 s.2.2.2.1 e.1) x y) (chunkE (y.2.1).toNat y.1) (((x.2.1,(),(),()),(y.2.2.1,(),([]:List Za),())):dens rB27_4×tdens rU27_4) else none
def lc27_4 (F:Nat):Lc:=mkF 65 135 (.pr (.pt 0 []) (.pr (.pt 1 []) .un)) [0,10,13] rA27_4 rB27_4 rT27_4 rU27_4 (ε:=dens rZ27_4) (fun x y=>chunkE (y.2.1).toNat y.1) (fun x y=>((x.2.1,(),(),()),(y.2.2.1,(),([]:List Za),()))) (fun x y=>okChunk (y.2.1) y.1) (fun x y s e=>L27_4 F s.1.1 s.2.1 s.2.2.2.1 e.1)
theorem le27_4 (F:Nat) (x:dens (.fn 135 .un (.pr (.pt 0 []) (.pr (.pt 1 []) .un)) :: rA27_4)) (y:tdens rT27_4) (s:dens rB27_4×tdens rU27_4) (e:dens rZ27_4):sev (E27 F) 0 [] (rfBody (cAt (bodyOf Tryz.f27) [0,1,0,1,1,1,1,1,1])) [] ⟨(14,.ro .u8 e.1) :: putI [66] (encs rZ27_4 e) (zipS [0,10,13] (encs rB27_4 s.1)),encTs rU27_4 s.2,[]⟩ (kRd 0 [0,10,13] rB27_4 rU27_4 (encs rB27_4 s.1))=(fun x y s e=>L27_4 F s.1.1 s.2.1 s.2.2.2.1 e.1) x y s e:=by kernel_rfl
theorem li27_4 (x:dens (.fn 135 .un (.pr (.pt 0 []) (.pr (.pt 1 []) .un)) :: rA27_4)) (y:tdens rT27_4):uniS 0 [0,10,13] rB27_4 rU27_4 ⟨zipS [0,10,13] (encs rA27_4 x.2),dropB [0,1] (encTs rT27_4 y),[]⟩ (fun p q=>some (p,q))=some ((x.2.1,(),(),()),(y.2.2.1,(),([]:List Za),())):=by kernel_rfl
theorem lo27_4 (F:Nat):LcOkM Tryz.prog (E27 F) 0 (lc27_4 F) (cAt (bodyOf Tryz.f27) [0,1,0,1,1,1,1,1,1]):=
 rf_okP (ida:=15) (d:=14) (s_:=66) (ps:=[66]) (Ae:=rZ27_4) (bx:=[0,1]) (ve:=fun e=>.ro .u8 e.1) cok (cts27 F) mixed (by kernel_rfl) (by kernel_rfl) (by kernel_rfl) (fun y=>rfl) (li27_4) rfl rfl rfl rfl rfl (fun e=>rfl) (fun e il=>rfl) (fun args w=>by kernel_rfl)
  (fun x y O ρ lb hok h hb=>hit_chunk h hb rfl rfl hok) (le27_4 F)
def T27c (F:Nat) (p0:List UInt8) (p1:Int) (p2:List Int) (p3:List UInt8) {β:Type} (k:(Int×Zi)->Option β):Option β:=
 (bif ((p0.length:Int) != (32:Int)) then (k ((1:Int),([]:List Zb))) else (bif (decide (p1 < (1:Int))) then (k ((1:Int),([]:List Zb))) else (bif (decide ((12:Int) < p1)) then (k ((1:Int),([]:List Zb))) else (Option.bind (iter (fun s=>L27_3 F p2 p2 (p2.length:Int) s.1 s.2) F ((0:Int),([]:List Int))) fun z70=>elimS (fun z70=>(bif (decide ((p2.length:Int) < p1)) then (k ((1:Int),([]:List Zb))) else (bif ((p3.length:Int) != (w64 ((32:Int) * (w64 (p1 - (1:Int)))))) then (k ((1:Int),([]:List Zb))) else (Option.bind (T91 F (32:Int)) fun z71=>(Option.bind (R27_4 F (((),((),(),())),p0,(),(),()) (p3,(32:Int),z70,(),())) fun z82=>(Option.bind (gstr z82.1.1) fun x83=>(Option.bind (T92 F x83 z82.2.2.2.1 z82.2.1) fun z84=>(k (z84.1,z84.2))))))))) (fun z70=>(k (z70,([]:List Zb)))) z70))))
def T27 (F:Nat) (p0:List UInt8) (p1:Int) (p2:List Int) (p3:List UInt8):=T27c F p0 p1 p2 p3 some
def ct27 (F:Nat):Ct:=mkC 0 [.str,.i,(.ro .i),(.ro .u8)] [] [(.rw 0),.i] [.row 59 (.pr .i (.pr (.sl .u8) .un))] (fun x y=>T27 F x.1 x.2.1 x.2.2.1 x.2.2.2.1) (fun x y (z:Int×Zi)=>(((),z.1,()),(z.2,())))
theorem ok27 (F:Nat):Sound Tryz.prog cfg 27 (ct27 F):=
 mkC_okM (E:=E27 F) (lp:=[([1,0,1,1,1],lc27_3 F),([0,1,0,1,1,1,1,1,1],lc27_4 F)]) (code:=bodyOf Tryz.f27) Tryz.func27 rfl Tryz.ntmps27 rfl rfl cok (cts27 F) mixed ⟨lo27_3 F,⟨lo27_4 F,trivial⟩⟩ (by kernel_rfl) (fun x y k=>T27c F x.1 x.2.1 x.2.2.1 x.2.2.2.1 k) (fun _ _ _=>by simp only [T27,T27c,oA,oC,oS,oN,elimS_bind]) (fun _ _=>by kernel_rfl)
def E110 (F:Nat):Ev:=⟨cfg,15,ctOf [],fun _=>[],ctOf [],fun _=>none,fun _=>none⟩
theorem cts110 (F:Nat):CtsOk Tryz.prog (E110 F):=cts_of (l:=[]) (l':=[]) rfl rfl trivial trivial
def T110c (F:Nat) (p0:Int) (p1:Int) (p2:Int) {β:Type} (k:Bool->Option β):Option β:=
 (bif (decide (p1≤p0)) then (k (decide (p0≤p2))) else (k false))
def T110 (F:Nat) (p0:Int) (p1:Int) (p2:Int):=T110c F p0 p1 p2 some
def ct110 (F:Nat):Ct:=mkC 0 [.i,.i,.i] [] [.bo] [] (fun x y=>T110 F x.1 x.2.1 x.2.2.1) (fun x y (z:Bool)=>((z,()),()))
theorem ok110 (F:Nat):Sound Tryz.prog cfg 110 (ct110 F):=
 mkC_ok (E:=E110 F) (lp:=[]) (code:=bodyOf Tryz.f110) Tryz.func110 rfl Tryz.ntmps110 rfl rfl cok (cts110 F) mixed trivial (by kernel_rfl) (fun x y k=>T110c F x.1 x.2.1 x.2.2.1 k) (fun _ _ _=>by simp only [T110,T110c,oA,oC,oS,oN,elimS_bind]) (fun _ _=>by kernel_rfl)
def E155 (F:Nat):Ev:=⟨cfg,17,ctOf [(110,ct110 F)],fun _=>[],ctOf [],fun _=>none,fun _=>none⟩
theorem cts155 (F:Nat):CtsOk Tryz.prog (E155 F):=cts_of (l:=[(110,ct110 F)]) (l':=[]) rfl rfl ⟨⟨ok110 F,_,Tryz.func110,rfl,rfl⟩,trivial⟩ trivial
def T155c (F:Nat) (p0:List UInt8) (p1:Int) (p2:Int) {β:Type} (k:Bool->Option β):Option β:=
 (bif ((p0.length:Int) == (32:Int)) then (Option.bind (T110 F p1 (0:Int) (1099511627776:Int)) fun z3=>(bif z3 then (Option.bind (T110 F p2 (0:Int) (32768:Int)) fun z4=>(k z4)) else (k false))) else (k false))
def T155 (F:Nat) (p0:List UInt8) (p1:Int) (p2:Int):=T155c F p0 p1 p2 some
def ct155 (F:Nat):Ct:=mkC 0 [(.pr .str (.pr .i (.pr .i .un)))] [] [.bo] [] (fun x y=>T155 F x.1.1 x.1.2.1 x.1.2.2.1) (fun x y (z:Bool)=>((z,()),()))
theorem ok155 (F:Nat):Sound Tryz.prog cfg 155 (ct155 F):=
 mkC_ok (E:=E155 F) (lp:=[]) (code:=bodyOf Tryz.f155) Tryz.func155 rfl Tryz.ntmps155 rfl rfl cok (cts155 F) mixed trivial (by kernel_rfl) (fun x y k=>T155c F x.1.1 x.1.2.1 x.1.2.2.1 k) (fun _ _ _=>by simp only [T155,T155c,oA,oC,oS,oN,elimS_bind]) (fun _ _=>by kernel_rfl)
def E111 (F:Nat):Ev:=⟨cfg,44,ctOf [(110,ct110 F),(155,ct155 F)],fun _=>[],ctOf [],fun _=>none,fun _=>none⟩
theorem cts111 (F:Nat):CtsOk Tryz.prog (E111 F):=cts_of (l:=[(110,ct110 F),(155,ct155 F)]) (l':=[]) rfl rfl ⟨⟨ok110 F,_,Tryz.func110,rfl,rfl⟩,⟨⟨ok155 F,_,Tryz.func155,rfl,rfl⟩,trivial⟩⟩ trivial
def T111c (F:Nat) (p0:Int) (p1:Int) (p2:Int) (p3:List UInt8) (p4:Int) (p5:Int) (p6:Int) (p7:Int) (p8:List UInt8) {β:Type} (k:Bool->Option β):Option β:=
 (Option.bind (T110 F p0 (0:Int) (11:Int)) fun z7=>(bif (!z7) then (k false) else (Option.bind (T110 F p1 (1:Int) (1099511627776:Int)) fun z8=>(bif (!z8) then (k false) else (Option.bind (T110 F p2 (0:Int) (999999:Int)) fun z9=>(bif (!z9) then (k false) else (Option.bind (T110 F p6 (0:Int) (1099511627776:Int)) fun z10=>(bif (!z10) then (k false) else (Option.bind (T110 F p7 (0:Int) (1099511627776:Int)) fun z11=>(bif (!z11) then (k false) else (Option.bind (T155 F p3 p4 p5) fun z12=>(bif z12 then (bif ((p8.length:Int) == (0:Int)) then (k true) else (k ((p8.length:Int) == (32:Int)))) else (k false)))))))))))))
def T111 (F:Nat) (p0:Int) (p1:Int) (p2:Int) (p3:List UInt8) (p4:Int) (p5:Int) (p6:Int) (p7:Int) (p8:List UInt8):=T111c F p0 p1 p2 p3 p4 p5 p6 p7 p8 some
def ct111 (F:Nat):Ct:=mkC 0 [(.pr .i (.pr .i (.pr .i (.pr (.pr .str (.pr .i (.pr .i .un))) (.pr .i (.pr .i (.pr .str (.pr .bo .un))))))))] [] [.bo] [] (fun x y=>T111 F x.1.1 x.1.2.1 x.1.2.2.1 x.1.2.2.2.1.1 x.1.2.2.2.1.2.1 x.1.2.2.2.1.2.2.1 x.1.2.2.2.2.1 x.1.2.2.2.2.2.1 x.1.2.2.2.2.2.2.1) (fun x y (z:Bool)=>((z,()),()))
theorem ok111 (F:Nat):Sound Tryz.prog cfg 111 (ct111 F):=
 mkC_ok (E:=E111 F) (lp:=[]) (code:=bodyOf Tryz.f111) Tryz.func111 rfl Tryz.ntmps111 rfl rfl cok (cts111 F) mixed trivial (by kernel_rfl) (fun x y k=>T111c F x.1.1 x.1.2.1 x.1.2.2.1 x.1.2.2.2.1.1 x.1.2.2.2.1.2.1 x.1.2.2.2.1.2.2.1 x.1.2.2.2.2.1 x.1.2.2.2.2.2.1 x.1.2.2.2.2.2.2.1 k) (fun _ _ _=>by simp only [T111,T111c,oA,oC,oS,oN,elimS_bind]) (fun _ _=>by kernel_rfl)
def E157 (F:Nat):Ev:=⟨cfg,6,ctOf [(155,ct155 F)],fun _=>[],ctOf [],fun _=>none,fun _=>none⟩
theorem cts157 (F:Nat):CtsOk Tryz.prog (E157 F):=cts_of (l:=[(155,ct155 F)]) (l':=[]) rfl rfl ⟨⟨ok155 F,_,Tryz.func155,rfl,rfl⟩,trivial⟩ trivial
def T157c (F:Nat) (p0:List UInt8) (p1:Int) (p2:Int) {β:Type} (k:Bool->Option β):Option β:=
 (Option.bind (T155 F p0 p1 p2) fun z2=>(k (!z2)))
def T157 (F:Nat) (p0:List UInt8) (p1:Int) (p2:Int):=T157c F p0 p1 p2 some
def ct157 (F:Nat):Ct:=mkC 0 [(.pr .str (.pr .i (.pr .i .un)))] [] [.bo] [] (fun x y=>T157 F x.1.1 x.1.2.1 x.1.2.2.1) (fun x y (z:Bool)=>((z,()),()))
theorem ok157 (F:Nat):Sound Tryz.prog cfg 157 (ct157 F):=
 mkC_ok (E:=E157 F) (lp:=[]) (code:=bodyOf Tryz.f157) Tryz.func157 rfl Tryz.ntmps157 rfl rfl cok (cts157 F) mixed trivial (by kernel_rfl) (fun x y k=>T157c F x.1.1 x.1.2.1 x.1.2.2.1 k) (fun _ _ _=>by simp only [T157,T157c,oA,oC,oS,oN,elimS_bind]) (fun _ _=>by kernel_rfl)
def E195 (F:Nat):Ev:=⟨cfg,19,ctOf [(157,ct157 F)],fun _=>[],ctOf [],fun _=>none,fun _=>none⟩
theorem cts195 (F:Nat):CtsOk Tryz.prog (E195 F):=cts_of (l:=[(157,ct157 F)]) (l':=[]) rfl rfl ⟨⟨ok157 F,_,Tryz.func157,rfl,rfl⟩,trivial⟩ trivial
def L195_2c (F:Nat) (y9:List Zc) (y10:Int) (y11:Int) {β:Type} (kA:Int->Option β) (kO:Unit->Option β) (kR:Int->Option β):Option β:=
 (bif (decide (y11 < y10)) then (Option.bind (ix y9 y11) fun x14=>(Option.bind (T157 F x14.1 x14.2.1 x14.2.2.1) fun z15=>(bif z15 then (kR y11) else (kA (w64 (y11 + (1:Int))))))) else (kO ()))
def L195_2 (F:Nat) (y9:List Zc) (y10:Int) (y11:Int):Option ((Int) ⊕ ((Unit) ⊕ (Int))):=L195_2c F y9 y10 y11 (fun s=>some (.inl s)) (fun z=>some (.inr (.inl z))) (fun z=>some (.inr (.inr z)))
theorem L195_2n (F:Nat) (y9:List Zc) (y10:Int) (y11:Int) {β:Type} (kA:Int->Option β) (kO:Unit->Option β) (kR:Int->Option β):L195_2c F y9 y10 y11 kA kO kR=(L195_2 F y9 y10 y11).bind (elimS kA (elimS kO kR)):=by
 simp only [L195_2,L195_2c,oA,oC,oS,oN,elimS_l,elimS_r,elimS_bind]
def lc195_2 (F:Nat):Lc:=mkR [0,1,7,8] [(.ro (.pr .s (.pr .i (.pr .i .un)))),(.fn 157 .un .un),.i,.i] [] [] [] [] [4] [.i] [] F (fun x y (s:Int)=>L195_2 F x.1 x.2.2.1 s) (fun x y=>x.2.2.2.1) (fun x y (z:Unit)=>((),())) (fun x y (z:Int)=>((z,()),()))
theorem lo195_2 (F:Nat):LcOk Tryz.prog (E195 F) 0 (lc195_2 F) (cAt (bodyOf Tryz.f195) [1,0,1]):=
 mkR_ok (lp:=[]) (id:=0) (b:=cAt (bodyOf Tryz.f195) (0 :: 0 :: [1,0,1])) cok (cts195 F) mixed trivial (by kernel_rfl) (by kernel_rfl) (fun x y s=>(x.1,((),()),x.2.2.1,s,())) (fun x y s=>()) (fun x y=>rfl) (fun x y=>rfl) (fun x y s kA kO kR=>L195_2c F x.1 x.2.2.1 s kA kO kR) (fun x y s kA kO kR=>L195_2n F x.1 x.2.2.1 s kA kO kR) (fun _ _ _=>by kernel_rfl)
def T195c (F:Nat) (p0:List Zc) {β:Type} (k:Int->Option β):Option β:=
 (Option.bind (iter (fun s=>L195_2 F p0 (p0.length:Int) s) F (0:Int)) fun z16=>elimS (fun z16=>(k (-1:Int))) (fun z16=>(k z16)) z16)
def T195 (F:Nat) (p0:List Zc):=T195c F p0 some
def ct195 (F:Nat):Ct:=mkC 0 [(.ro (.pr .s (.pr .i (.pr .i .un)))),(.fn 157 .un .un)] [] [.i] [] (fun x y=>T195 F x.1) (fun x y (z:Int)=>((z,()),()))
theorem ok195 (F:Nat):Sound Tryz.prog cfg 195 (ct195 F):=
 mkC_ok (E:=E195 F) (lp:=[([1,0,1],lc195_2 F)]) (code:=bodyOf Tryz.f195) Tryz.func195 rfl Tryz.ntmps195 rfl rfl cok (cts195 F) mixed ⟨lo195_2 F,trivial⟩ (by kernel_rfl) (fun x y k=>T195c F x.1 k) (fun _ _ _=>by simp only [T195,T195c,oA,oC,oS,oN,elimS_bind]) (fun _ _=>by kernel_rfl)
def E156 (F:Nat):Ev:=⟨cfg,9,ctOf [(195,ct195 F)],fun _=>[],ctOf [],fun _=>none,fun _=>none⟩
theorem cts156 (F:Nat):CtsOk Tryz.prog (E156 F):=cts_of (l:=[(195,ct195 F)]) (l':=[]) rfl rfl ⟨⟨ok195 F,_,Tryz.func195,rfl,rfl⟩,trivial⟩ trivial
def T156c (F:Nat) (p0:List Zc) {β:Type} (k:Bool->Option β):Option β:=
 (Option.bind (T195 F p0) fun z2=>(k (decide ((0:Int)≤z2))))
def T156 (F:Nat) (p0:List Zc):=T156c F p0 some
def ct156 (F:Nat):Ct:=mkC 0 [(.ro (.pr .s (.pr .i (.pr .i .un)))),(.fn 157 .un .un)] [] [.bo] [] (fun x y=>T156 F x.1) (fun x y (z:Bool)=>((z,()),()))
theorem ok156 (F:Nat):Sound Tryz.prog cfg 156 (ct156 F):=
 mkC_ok (E:=E156 F) (lp:=[]) (code:=bodyOf Tryz.f156) Tryz.func156 rfl Tryz.ntmps156 rfl rfl cok (cts156 F) mixed trivial (by kernel_rfl) (fun x y k=>T156c F x.1 k) (fun _ _ _=>by simp only [T156,T156c,oA,oC,oS,oN,elimS_bind]) (fun _ _=>by kernel_rfl)
def E113 (F:Nat):Ev:=⟨cfg,6,ctOf [(156,ct156 F)],fun _=>[],ctOf [],fun _=>none,fun _=>none⟩
theorem cts113 (F:Nat):CtsOk Tryz.prog (E113 F):=cts_of (l:=[(156,ct156 F)]) (l':=[]) rfl rfl ⟨⟨ok156 F,_,Tryz.func156,rfl,rfl⟩,trivial⟩ trivial
def T113c (F:Nat) (p0:List Zc) {β:Type} (k:Bool->Option β):Option β:=
 (Option.bind (T156 F p0) fun z2=>(k (!z2)))
def T113 (F:Nat) (p0:List Zc):=T113c F p0 some
def ct113 (F:Nat):Ct:=mkC 0 [(.ro (.pr .s (.pr .i (.pr .i .un))))] [] [.bo] [] (fun x y=>T113 F x.1) (fun x y (z:Bool)=>((z,()),()))
theorem ok113 (F:Nat):Sound Tryz.prog cfg 113 (ct113 F):=
 mkC_ok (E:=E113 F) (lp:=[]) (code:=bodyOf Tryz.f113) Tryz.func113 rfl Tryz.ntmps113 rfl rfl cok (cts113 F) mixed trivial (by kernel_rfl) (fun x y k=>T113c F x.1 k) (fun _ _ _=>by simp only [T113,T113c,oA,oC,oS,oN,elimS_bind]) (fun _ _=>by kernel_rfl)
def E112 (F:Nat):Ev:=⟨cfg,38,ctOf [(110,ct110 F),(113,ct113 F)],fun _=>[],ctOf [],fun _=>none,fun _=>none⟩
theorem cts112 (F:Nat):CtsOk Tryz.prog (E112 F):=cts_of (l:=[(110,ct110 F),(113,ct113 F)]) (l':=[]) rfl rfl ⟨⟨ok110 F,_,Tryz.func110,rfl,rfl⟩,⟨⟨ok113 F,_,Tryz.func113,rfl,rfl⟩,trivial⟩⟩ trivial
def T112c (F:Nat) (p0:List UInt8) (p1:Int) (p2:Int) (p3:Int) (p4:Int) (p5:List Zc) {β:Type} (k:Bool->Option β):Option β:=
 (bif ((p0.length:Int) != (32:Int)) then (k false) else (Option.bind (T110 F p1 (0:Int) (1000:Int)) fun z6=>(bif (!z6) then (k false) else (Option.bind (T110 F p2 (1:Int) (65536:Int)) fun z7=>(bif (!z7) then (k false) else (Option.bind (T110 F p3 (1:Int) (8:Int)) fun z8=>(bif (!z8) then (k false) else (Option.bind (T110 F p4 (1:Int) (16:Int)) fun z9=>(bif (!z9) then (k false) else (bif (decide ((p5.length:Int)≤(8:Int))) then (Option.bind (T113 F p5) fun z10=>(k z10)) else (k false)))))))))))
def T112 (F:Nat) (p0:List UInt8) (p1:Int) (p2:Int) (p3:Int) (p4:Int) (p5:List Zc):=T112c F p0 p1 p2 p3 p4 p5 some
def ct112 (F:Nat):Ct:=mkC 0 [(.pr .str (.pr .i (.pr .i (.pr .i (.pr .i (.pr (.ro (.pr .s (.pr .i (.pr .i .un)))) .un))))))] [] [.bo] [] (fun x y=>T112 F x.1.1 x.1.2.1 x.1.2.2.1 x.1.2.2.2.1 x.1.2.2.2.2.1 x.1.2.2.2.2.2.1) (fun x y (z:Bool)=>((z,()),()))
theorem ok112 (F:Nat):Sound Tryz.prog cfg 112 (ct112 F):=
 mkC_ok (E:=E112 F) (lp:=[]) (code:=bodyOf Tryz.f112) Tryz.func112 rfl Tryz.ntmps112 rfl rfl cok (cts112 F) mixed trivial (by kernel_rfl) (fun x y k=>T112c F x.1.1 x.1.2.1 x.1.2.2.1 x.1.2.2.2.1 x.1.2.2.2.2.1 x.1.2.2.2.2.2.1 k) (fun _ _ _=>by simp only [T112,T112c,oA,oC,oS,oN,elimS_bind]) (fun _ _=>by kernel_rfl)
def E43 (F:Nat):Ev:=⟨cfg,77,ctOf [(110,ct110 F),(111,ct111 F),(112,ct112 F),(113,ct113 F)],fun _=>[],ctOf [],fun _=>none,fun _=>none⟩
theorem cts43 (F:Nat):CtsOk Tryz.prog (E43 F):=cts_of (l:=[(110,ct110 F),(111,ct111 F),(112,ct112 F),(113,ct113 F)]) (l':=[]) rfl rfl ⟨⟨ok110 F,_,Tryz.func110,rfl,rfl⟩,⟨⟨ok111 F,_,Tryz.func111,rfl,rfl⟩,⟨⟨ok112 F,_,Tryz.func112,rfl,rfl⟩,⟨⟨ok113 F,_,Tryz.func113,rfl,rfl⟩,trivial⟩⟩⟩⟩ trivial
def L43_4c (F:Nat) (y48:List Int) (y49:Int) (y50:Int) {β:Type} (kA:Int->Option β) (kO:Unit->Option β) (kR:Bool->Option β):Option β:=
 (bif (decide (y50 < y49)) then (Option.bind (ix y48 y50) fun x59=>(Option.bind (T110 F x59 (0:Int) (1099511627776:Int)) fun z60=>(bif (!z60) then (kR false) else (kA (w64 (y50 + (1:Int))))))) else (kO ()))
def L43_4 (F:Nat) (y48:List Int) (y49:Int) (y50:Int):Option ((Int) ⊕ ((Unit) ⊕ (Bool))):=L43_4c F y48 y49 y50 (fun s=>some (.inl s)) (fun z=>some (.inr (.inl z))) (fun z=>some (.inr (.inr z)))
theorem L43_4n (F:Nat) (y48:List Int) (y49:Int) (y50:Int) {β:Type} (kA:Int->Option β) (kO:Unit->Option β) (kR:Bool->Option β):L43_4c F y48 y49 y50 kA kO kR=(L43_4 F y48 y49 y50).bind (elimS kA (elimS kO kR)):=by
 simp only [L43_4,L43_4c,oA,oC,oS,oN,elimS_l,elimS_r,elimS_bind]
def lc43_4 (F:Nat):Lc:=mkR [1,42,43,44] [(.pt 0 []),(.ro .i),.i,.i] [.blk 27 (.pr .i (.pr .i (.pr (.ro .i) (.pr (.ro (.pr .i (.pr .i (.pr .i (.pr (.pr .s (.pr .i (.pr .i .un))) (.pr .i (.pr .i (.pr .s (.pr .bo .un))))))))) (.pr (.ro (.pr .s (.pr .i (.pr .i (.pr .i (.pr .i (.pr (.sl (.pr .s (.pr .i (.pr .i .un)))) .un))))))) (.pr (.ro (.pr .s (.pr .i (.pr .i .un)))) .un))))))] [1] [(.pt 0 [])] [.blk 27 (.pr .i (.pr .i (.pr (.ro .i) (.pr (.ro (.pr .i (.pr .i (.pr .i (.pr (.pr .s (.pr .i (.pr .i .un))) (.pr .i (.pr .i (.pr .s (.pr .bo .un))))))))) (.pr (.ro (.pr .s (.pr .i (.pr .i (.pr .i (.pr .i (.pr (.sl (.pr .s (.pr .i (.pr .i .un)))) .un))))))) (.pr (.ro (.pr .s (.pr .i (.pr .i .un)))) .un))))))] [2] [.bo] [] F (fun x y (s:Int)=>L43_4 F x.2.1 x.2.2.1 s) (fun x y=>x.2.2.2.1) (fun x y (z:Unit)=>(((),()),((y.1.1,y.1.2.1,y.1.2.2.1,y.1.2.2.2.1,y.1.2.2.2.2.1,y.1.2.2.2.2.2.1,()),()))) (fun x y (z:Bool)=>((z,()),()))
theorem lo43_4 (F:Nat):LcOk Tryz.prog (E43 F) 0 (lc43_4 F) (cAt (bodyOf Tryz.f43) [1,0,1,1,1]):=
 mkR_ok (lp:=[]) (id:=0) (b:=cAt (bodyOf Tryz.f43) (0 :: 0 :: [1,0,1,1,1])) cok (cts43 F) mixed trivial (by kernel_rfl) (by kernel_rfl) (fun x y s=>((),x.2.1,x.2.2.1,s,())) (fun x y s=>((y.1.1,y.1.2.1,y.1.2.2.1,y.1.2.2.2.1,y.1.2.2.2.2.1,y.1.2.2.2.2.2.1,()),())) (fun x y=>rfl) (fun x y=>rfl) (fun x y s kA kO kR=>L43_4c F x.2.1 x.2.2.1 s kA kO kR) (fun x y s kA kO kR=>L43_4n F x.2.1 x.2.2.1 s kA kO kR) (fun _ _ _=>by kernel_rfl)
def L43_5c (F:Nat) (y62:List Zd) (y63:Int) (y64:Int) {β:Type} (kA:Int->Option β) (kO:Unit->Option β) (kR:Bool->Option β):Option β:=
 (bif (decide (y64 < y63)) then (Option.bind (ix y62 y64) fun x73=>(Option.bind (T111 F x73.1 x73.2.1 x73.2.2.1 x73.2.2.2.1.1 x73.2.2.2.1.2.1 x73.2.2.2.1.2.2.1 x73.2.2.2.2.1 x73.2.2.2.2.2.1 x73.2.2.2.2.2.2.1) fun z74=>(bif (!z74) then (kR false) else (kA (w64 (y64 + (1:Int))))))) else (kO ()))
def L43_5 (F:Nat) (y62:List Zd) (y63:Int) (y64:Int):Option ((Int) ⊕ ((Unit) ⊕ (Bool))):=L43_5c F y62 y63 y64 (fun s=>some (.inl s)) (fun z=>some (.inr (.inl z))) (fun z=>some (.inr (.inr z)))
theorem L43_5n (F:Nat) (y62:List Zd) (y63:Int) (y64:Int) {β:Type} (kA:Int->Option β) (kO:Unit->Option β) (kR:Bool->Option β):L43_5c F y62 y63 y64 kA kO kR=(L43_5 F y62 y63 y64).bind (elimS kA (elimS kO kR)):=by
 simp only [L43_5,L43_5c,oA,oC,oS,oN,elimS_l,elimS_r,elimS_bind]
def lc43_5 (F:Nat):Lc:=mkR [1,53,54,55] [(.pt 0 []),(.ro (.pr .i (.pr .i (.pr .i (.pr (.pr .s (.pr .i (.pr .i .un))) (.pr .i (.pr .i (.pr .s (.pr .bo .un))))))))),.i,.i] [.blk 27 (.pr .i (.pr .i (.pr (.ro .i) (.pr (.ro (.pr .i (.pr .i (.pr .i (.pr (.pr .s (.pr .i (.pr .i .un))) (.pr .i (.pr .i (.pr .s (.pr .bo .un))))))))) (.pr (.ro (.pr .s (.pr .i (.pr .i (.pr .i (.pr .i (.pr (.sl (.pr .s (.pr .i (.pr .i .un)))) .un))))))) (.pr (.ro (.pr .s (.pr .i (.pr .i .un)))) .un))))))] [1] [(.pt 0 [])] [.blk 27 (.pr .i (.pr .i (.pr (.ro .i) (.pr (.ro (.pr .i (.pr .i (.pr .i (.pr (.pr .s (.pr .i (.pr .i .un))) (.pr .i (.pr .i (.pr .s (.pr .bo .un))))))))) (.pr (.ro (.pr .s (.pr .i (.pr .i (.pr .i (.pr .i (.pr (.sl (.pr .s (.pr .i (.pr .i .un)))) .un))))))) (.pr (.ro (.pr .s (.pr .i (.pr .i .un)))) .un))))))] [2] [.bo] [] F (fun x y (s:Int)=>L43_5 F x.2.1 x.2.2.1 s) (fun x y=>x.2.2.2.1) (fun x y (z:Unit)=>(((),()),((y.1.1,y.1.2.1,y.1.2.2.1,y.1.2.2.2.1,y.1.2.2.2.2.1,y.1.2.2.2.2.2.1,()),()))) (fun x y (z:Bool)=>((z,()),()))
theorem lo43_5 (F:Nat):LcOk Tryz.prog (E43 F) 0 (lc43_5 F) (cAt (bodyOf Tryz.f43) [1,0,1,1,1,1]):=
 mkR_ok (lp:=[]) (id:=2) (b:=cAt (bodyOf Tryz.f43) (0 :: 0 :: [1,0,1,1,1,1])) cok (cts43 F) mixed trivial (by kernel_rfl) (by kernel_rfl) (fun x y s=>((),x.2.1,x.2.2.1,s,())) (fun x y s=>((y.1.1,y.1.2.1,y.1.2.2.1,y.1.2.2.2.1,y.1.2.2.2.2.1,y.1.2.2.2.2.2.1,()),())) (fun x y=>rfl) (fun x y=>rfl) (fun x y s kA kO kR=>L43_5c F x.2.1 x.2.2.1 s kA kO kR) (fun x y s kA kO kR=>L43_5n F x.2.1 x.2.2.1 s kA kO kR) (fun _ _ _=>by kernel_rfl)
def L43_6c (F:Nat) (y76:List Zf) (y77:Int) (y78:Int) {β:Type} (kA:Int->Option β) (kO:Unit->Option β) (kR:Bool->Option β):Option β:=
 (bif (decide (y78 < y77)) then (Option.bind (ix y76 y78) fun x87=>(Option.bind (T112 F x87.1 x87.2.1 x87.2.2.1 x87.2.2.2.1 x87.2.2.2.2.1 x87.2.2.2.2.2.1) fun z88=>(bif (!z88) then (kR false) else (kA (w64 (y78 + (1:Int))))))) else (kO ()))
def L43_6 (F:Nat) (y76:List Zf) (y77:Int) (y78:Int):Option ((Int) ⊕ ((Unit) ⊕ (Bool))):=L43_6c F y76 y77 y78 (fun s=>some (.inl s)) (fun z=>some (.inr (.inl z))) (fun z=>some (.inr (.inr z)))
theorem L43_6n (F:Nat) (y76:List Zf) (y77:Int) (y78:Int) {β:Type} (kA:Int->Option β) (kO:Unit->Option β) (kR:Bool->Option β):L43_6c F y76 y77 y78 kA kO kR=(L43_6 F y76 y77 y78).bind (elimS kA (elimS kO kR)):=by
 simp only [L43_6,L43_6c,oA,oC,oS,oN,elimS_l,elimS_r,elimS_bind]
def lc43_6 (F:Nat):Lc:=mkR [1,64,65,66] [(.pt 0 []),(.ro (.pr .s (.pr .i (.pr .i (.pr .i (.pr .i (.pr (.sl (.pr .s (.pr .i (.pr .i .un)))) .un))))))),.i,.i] [.blk 27 (.pr .i (.pr .i (.pr (.ro .i) (.pr (.ro (.pr .i (.pr .i (.pr .i (.pr (.pr .s (.pr .i (.pr .i .un))) (.pr .i (.pr .i (.pr .s (.pr .bo .un))))))))) (.pr (.ro (.pr .s (.pr .i (.pr .i (.pr .i (.pr .i (.pr (.sl (.pr .s (.pr .i (.pr .i .un)))) .un))))))) (.pr (.ro (.pr .s (.pr .i (.pr .i .un)))) .un))))))] [1] [(.pt 0 [])] [.blk 27 (.pr .i (.pr .i (.pr (.ro .i) (.pr (.ro (.pr .i (.pr .i (.pr .i (.pr (.pr .s (.pr .i (.pr .i .un))) (.pr .i (.pr .i (.pr .s (.pr .bo .un))))))))) (.pr (.ro (.pr .s (.pr .i (.pr .i (.pr .i (.pr .i (.pr (.sl (.pr .s (.pr .i (.pr .i .un)))) .un))))))) (.pr (.ro (.pr .s (.pr .i (.pr .i .un)))) .un))))))] [2] [.bo] [] F (fun x y (s:Int)=>L43_6 F x.2.1 x.2.2.1 s) (fun x y=>x.2.2.2.1) (fun x y (z:Unit)=>(((),()),((y.1.1,y.1.2.1,y.1.2.2.1,y.1.2.2.2.1,y.1.2.2.2.2.1,y.1.2.2.2.2.2.1,()),()))) (fun x y (z:Bool)=>((z,()),()))
theorem lo43_6 (F:Nat):LcOk Tryz.prog (E43 F) 0 (lc43_6 F) (cAt (bodyOf Tryz.f43) [1,0,1,1,1,1,1]):=
 mkR_ok (lp:=[]) (id:=4) (b:=cAt (bodyOf Tryz.f43) (0 :: 0 :: [1,0,1,1,1,1,1])) cok (cts43 F) mixed trivial (by kernel_rfl) (by kernel_rfl) (fun x y s=>((),x.2.1,x.2.2.1,s,())) (fun x y s=>((y.1.1,y.1.2.1,y.1.2.2.1,y.1.2.2.2.1,y.1.2.2.2.2.1,y.1.2.2.2.2.2.1,()),())) (fun x y=>rfl) (fun x y=>rfl) (fun x y s kA kO kR=>L43_6c F x.2.1 x.2.2.1 s kA kO kR) (fun x y s kA kO kR=>L43_6n F x.2.1 x.2.2.1 s kA kO kR) (fun _ _ _=>by kernel_rfl)
def T43c (F:Nat) (p0:Int) (p1:Int) (p2:List Int) (p3:List Zd) (p4:List Zf) (p5:List Zc) {β:Type} (k:Bool->Option β):Option β:=
 (Option.bind (T110 F p0 (0:Int) (1000:Int)) fun z46=>(bif (!z46) then (k false) else (Option.bind (T110 F p1 (0:Int) (1000:Int)) fun z47=>(bif (!z47) then (k false) else (bif (decide ((12:Int) < (p2.length:Int))) then (k false) else (bif (decide ((4096:Int) < (p3.length:Int))) then (k false) else (bif (decide ((4096:Int) < (p4.length:Int))) then (k false) else (bif (decide ((4096:Int) < (p5.length:Int))) then (k false) else (Option.bind (iter (fun s=>L43_4 F p2 (p2.length:Int) s) F (0:Int)) fun z61=>elimS (fun z61=>(Option.bind (iter (fun s=>L43_5 F p3 (p3.length:Int) s) F (0:Int)) fun z75=>elimS (fun z75=>(Option.bind (iter (fun s=>L43_6 F p4 (p4.length:Int) s) F (0:Int)) fun z89=>elimS (fun z89=>(Option.bind (T113 F p5) fun z90=>(k z90))) (fun z89=>(k z89)) z89)) (fun z75=>(k z75)) z75)) (fun z61=>(k z61)) z61)))))))))
def T43 (F:Nat) (p0:Int) (p1:Int) (p2:List Int) (p3:List Zd) (p4:List Zf) (p5:List Zc):=T43c F p0 p1 p2 p3 p4 p5 some
def ct43 (F:Nat):Ct:=mkC 0 [(.pr .i (.pr .i (.pr (.ro .i) (.pr (.ro (.pr .i (.pr .i (.pr .i (.pr (.pr .s (.pr .i (.pr .i .un))) (.pr .i (.pr .i (.pr .s (.pr .bo .un))))))))) (.pr (.ro (.pr .s (.pr .i (.pr .i (.pr .i (.pr .i (.pr (.sl (.pr .s (.pr .i (.pr .i .un)))) .un))))))) (.pr (.ro (.pr .s (.pr .i (.pr .i .un)))) .un))))))] [] [.bo] [] (fun x y=>T43 F x.1.1 x.1.2.1 x.1.2.2.1 x.1.2.2.2.1 x.1.2.2.2.2.1 x.1.2.2.2.2.2.1) (fun x y (z:Bool)=>((z,()),()))
theorem ok43 (F:Nat):Sound Tryz.prog cfg 43 (ct43 F):=
 mkC_ok (E:=E43 F) (lp:=[([1,0,1,1,1],lc43_4 F),([1,0,1,1,1,1],lc43_5 F),([1,0,1,1,1,1,1],lc43_6 F)]) (code:=bodyOf Tryz.f43) Tryz.func43 rfl Tryz.ntmps43 rfl rfl cok (cts43 F) mixed ⟨lo43_4 F,⟨lo43_5 F,⟨lo43_6 F,trivial⟩⟩⟩ (by kernel_rfl) (fun x y k=>T43c F x.1.1 x.1.2.1 x.1.2.2.1 x.1.2.2.2.1 x.1.2.2.2.2.1 x.1.2.2.2.2.2.1 k) (fun _ _ _=>by simp only [T43,T43c,oA,oC,oS,oN,elimS_bind]) (fun _ _=>by kernel_rfl)
def E44 (F:Nat):Ev:=⟨cfg,3,ctOf [],fun _=>[],ctOf [],fun _=>none,fun _=>none⟩
theorem cts44 (F:Nat):CtsOk Tryz.prog (E44 F):=cts_of (l:=[]) (l':=[]) rfl rfl trivial trivial
def T44c (F:Nat) {β:Type} (k:Int->Option β):Option β:=
 (k (0:Int))
def T44 (F:Nat):=T44c F some
def ct44 (F:Nat):Ct:=mkC 0 [] [] [(.pt 0 [])] [.blk 166 (.pr .ns (.pr .i .un))] (fun x y=>T44 F) (fun x y (z:Int)=>(((),()),(((),z,()),())))
theorem ok44 (F:Nat):Sound Tryz.prog cfg 44 (ct44 F):=
 mkC_ok (E:=E44 F) (lp:=[]) (code:=bodyOf Tryz.f44) Tryz.func44 rfl Tryz.ntmps44 rfl rfl cok (cts44 F) mixed trivial (by kernel_rfl) (fun x y k=>T44c F k) (fun _ _ _=>by simp only [T44,T44c,oA,oC,oS,oN,elimS_bind]) (fun _ _=>by kernel_rfl)
def E116 (F:Nat):Ev:=⟨cfg,14,ctOf [],fun _=>[],ctOf [],fun _=>none,fun _=>none⟩
theorem cts116 (F:Nat):CtsOk Tryz.prog (E116 F):=cts_of (l:=[]) (l':=[]) rfl rfl trivial trivial
def T116c (F:Nat) (p0:Int) {β:Type} (k:UInt64->Option β):Option β:=
 (bif (decide (p0 < (0:Int))) then (k (((UInt64.ofInt (w64 (0 - (w64 (p0 + (1:Int)))))) * (UInt64.ofNat 2)) + (UInt64.ofNat 1))) else (k ((UInt64.ofInt p0) * (UInt64.ofNat 2))))
def T116 (F:Nat) (p0:Int):=T116c F p0 some
def ct116 (F:Nat):Ct:=mkC 0 [.i] [] [.u64] [] (fun x y=>T116 F x.1) (fun x y (z:UInt64)=>((z,()),()))
theorem ok116 (F:Nat):Sound Tryz.prog cfg 116 (ct116 F):=
 mkC_ok (E:=E116 F) (lp:=[]) (code:=bodyOf Tryz.f116) Tryz.func116 rfl Tryz.ntmps116 rfl rfl cok (cts116 F) mixed trivial (by kernel_rfl) (fun x y k=>T116c F x.1 k) (fun _ _ _=>by simp only [T116,T116c,oA,oC,oS,oN,elimS_bind]) (fun _ _=>by kernel_rfl)
def E117 (F:Nat):Ev:=⟨cfg,20,ctOf [],fun _=>[],ctOf [],fun _=>none,fun _=>none⟩
theorem cts117 (F:Nat):CtsOk Tryz.prog (E117 F):=cts_of (l:=[]) (l':=[]) rfl rfl trivial trivial
def L117_2c (F:Nat) (y7:UInt64) (y8:List UInt8) {β:Type} (kA:(UInt64×Za)->Option β) (kO:(UInt64×Za)->Option β):Option β:=
 (bif (decide ((UInt64.ofNat 128)≤y7)) then (Option.bind (gapp y8 ([((y7.toUInt8) ||| (UInt8.ofNat 128))]:List UInt8)) fun x10=>(kA ((shr64 y7 ((UInt64.ofNat 7).toNat)),x10))) else (kO (y7,y8)))
def L117_2 (F:Nat) (y7:UInt64) (y8:List UInt8):=L117_2c F y7 y8 (fun s=>some (Sum.inl s)) (fun z=>some (Sum.inr z))
def lc117_2 (F:Nat):Lc:=mkL [0,1] [(.rw 0),.u64] [.row 5 .u8] [0,1] [(.rw 0),.u64] [.row 5 .u8] F (fun x y (s:UInt64×Za)=>L117_2 F s.1 s.2) (fun x y=>(x.2.1,y.1)) (fun x y (z:UInt64×Za)=>(((),z.1,()),(z.2,())))
theorem lo117_2 (F:Nat):LcOk Tryz.prog (E117 F) 0 (lc117_2 F) (cAt (bodyOf Tryz.f117) [0,1]):=
 mkL_ok (lp:=[]) (id:=0) (b:=cAt (bodyOf Tryz.f117) (0 :: 0 :: [0,1])) cok (cts117 F) mixed trivial (by kernel_rfl) (by kernel_rfl) (fun x y s=>((),s.1,())) (fun x y s=>(s.2,())) (fun x y=>rfl) (fun x y=>rfl) (fun x y s kA kO=>L117_2c F s.1 s.2 kA kO) (fun _ _ _ _ _=>by simp only [L117_2,L117_2c,oA,oC,oS,oN,elimS_l,elimS_r,elimS_bind]) (fun _ _ _=>by kernel_rfl)
def T117c (F:Nat) (p0:UInt64) (p1:List UInt8) {β:Type} (k:(Za)->Option β):Option β:=
 (Option.bind (iter (fun s=>L117_2 F s.1 s.2) F (p0,p1)) fun z11=>(Option.bind (gapp z11.2 ([(z11.1.toUInt8)]:List UInt8)) fun x12=>(k x12)))
def T117 (F:Nat) (p0:UInt64) (p1:List UInt8):=T117c F p0 p1 some
def ct117 (F:Nat):Ct:=mkC 0 [(.rw 0),.u64] [.row 5 .u8] [(.rw 0)] [.row 5 .u8] (fun x y=>T117 F x.2.1 y.1) (fun x y (z:Za)=>(((),()),(z,())))
theorem ok117 (F:Nat):Sound Tryz.prog cfg 117 (ct117 F):=
 mkC_ok (E:=E117 F) (lp:=[([0,1],lc117_2 F)]) (code:=bodyOf Tryz.f117) Tryz.func117 rfl Tryz.ntmps117 rfl rfl cok (cts117 F) mixed ⟨lo117_2 F,trivial⟩ (by kernel_rfl) (fun x y k=>T117c F x.2.1 y.1 k) (fun _ _ _=>by simp only [T117,T117c,oA,oC,oS,oN,elimS_bind]) (fun _ _=>by kernel_rfl)
def E115 (F:Nat):Ev:=⟨cfg,18,ctOf [(117,ct117 F)],fun _=>[],ctOf [],fun _=>none,fun _=>none⟩
theorem cts115 (F:Nat):CtsOk Tryz.prog (E115 F):=cts_of (l:=[(117,ct117 F)]) (l':=[]) rfl rfl ⟨⟨ok117 F,_,Tryz.func117,rfl,rfl⟩,trivial⟩ trivial
def T115c (F:Nat) (p0:UInt64) (p1:Int) {β:Type} (k:(Za)->Option β):Option β:=
 (bif (p1 == (0:Int)) then (Option.bind (T117 F p0 ([]:List UInt8)) fun z2=>(k z2)) else (k ([]:List UInt8)))
def T115 (F:Nat) (p0:UInt64) (p1:Int):=T115c F p0 p1 some
def ct115 (F:Nat):Ct:=mkC 1 [(.pt 0 []),.u64] [.blk 166 (.pr .ns (.pr .i .un))] [] [.blk 166 (.pr (.rw 1) (.pr .i .un)),.row 5 .u8] (fun x y=>T115 F x.2.1 y.1.2.1) (fun x y (z:Za)=>((),(((),y.1.2.1,()),z,())))
theorem ok115 (F:Nat):Sound Tryz.prog cfg 115 (ct115 F):=
 mkC_ok (E:=E115 F) (lp:=[]) (code:=bodyOf Tryz.f115) Tryz.func115 rfl Tryz.ntmps115 rfl rfl cok (cts115 F) mixed trivial (by kernel_rfl) (fun x y k=>T115c F x.2.1 y.1.2.1 k) (fun _ _ _=>by simp only [T115,T115c,oA,oC,oS,oN,elimS_bind]) (fun _ _=>by kernel_rfl)
def E48 (F:Nat):Ev:=⟨cfg,8,ctOf [(116,ct116 F),(115,ct115 F)],fun _=>[],ctOf [],fun _=>none,fun _=>none⟩
theorem cts48 (F:Nat):CtsOk Tryz.prog (E48 F):=cts_of (l:=[(116,ct116 F),(115,ct115 F)]) (l':=[]) rfl rfl ⟨⟨ok116 F,_,Tryz.func116,rfl,rfl⟩,⟨⟨ok115 F,_,Tryz.func115,rfl,rfl⟩,trivial⟩⟩ trivial
def T48c (F:Nat) (p0:Int) (p1:Int) {β:Type} (k:(Za)->Option β):Option β:=
 (Option.bind (T116 F p0) fun z3=>(Option.bind (T115 F z3 p1) fun z4=>(k z4)))
def T48 (F:Nat) (p0:Int) (p1:Int):=T48c F p0 p1 some
def ct48 (F:Nat):Ct:=mkC 1 [(.pt 0 []),.i] [.blk 166 (.pr .ns (.pr .i .un))] [] [.blk 166 (.pr (.rw 1) (.pr .i .un)),.row 5 .u8] (fun x y=>T48 F x.2.1 y.1.2.1) (fun x y (z:Za)=>((),(((),y.1.2.1,()),z,())))
theorem ok48 (F:Nat):Sound Tryz.prog cfg 48 (ct48 F):=
 mkC_ok (E:=E48 F) (lp:=[]) (code:=bodyOf Tryz.f48) Tryz.func48 rfl Tryz.ntmps48 rfl rfl cok (cts48 F) mixed trivial (by kernel_rfl) (fun x y k=>T48c F x.2.1 y.1.2.1 k) (fun _ _ _=>by simp only [T48,T48c,oA,oC,oS,oN,elimS_bind]) (fun _ _=>by kernel_rfl)
def ord115x1:Nat->List (Tag×Nat)
 | _=>[]
def al115x1:Nat->Option Nat
 | _=>none
def ms115x1:Nat->Option (List (Option Tag×Nat×List Nat))
 | _=>none
def E115x1 (F:Nat):Ev:=⟨cfg,18,ctOf [(117,ct117 F)],ord115x1,ctOf [],al115x1,ms115x1⟩
theorem cts115x1 (F:Nat):CtsOk Tryz.prog (E115x1 F):=cts_of (l:=[(117,ct117 F)]) (l':=[]) rfl rfl ⟨⟨ok117 F,_,Tryz.func117,rfl,rfl⟩,trivial⟩ trivial
def T115x1c (F:Nat) (p0:UInt64) (p1:Int) (p2:List UInt8) {β:Type} (k:((List UInt8))->Option β):Option β:=
 (bif (p1 == (0:Int)) then (Option.bind (T117 F p0 p2) fun z2=>(k z2)) else (k p2))
def T115x1 (F:Nat) (p0:UInt64) (p1:Int) (p2:List UInt8):Option ((List UInt8)):=T115x1c F p0 p1 p2 some
theorem T115x1n (F:Nat) (p0:UInt64) (p1:Int) (p2:List UInt8) {β:Type} (k:((List UInt8))->Option β):T115x1c F p0 p1 p2 k=(T115x1 F p0 p1 p2).bind k:=by
 simp only [T115x1,T115x1c,Option.bind_assoc,cond_bind,Option.bind_some,Option.bind_none,elimS_bind]
abbrev cA115x1:List Sh:=[(.pt 0 []),.u64]
abbrev cB115x1:List Sh:=[]
abbrev cT115x1:List TSh:=[.blk 166 (.pr (.rw 1) (.pr .i .un)),.row 5 .u8]
abbrev cU115x1:List TSh:=[.blk 166 (.pr (.rw 1) (.pr .i .un)),.row 5 .u8]
def ct115x1 (F:Nat):Ct:=mkC 1 cA115x1 cT115x1 cB115x1 cU115x1 (fun x y=>T115x1 F x.2.1 y.1.2.1 y.2.1) (fun x y (z:(List UInt8))=>((),(((),y.1.2.1,()),z,())))
theorem eq115x1 (F:Nat) (x:dens cA115x1) (y:tdens cT115x1):sev (E115x1 F) 1 [] (bodyOf Tryz.f115) [] (mkSt (rng 2) cA115x1 cT115x1 x y) (kFn (E115x1 F) 1 Tryz.f115.results.toList cB115x1 cU115x1 fun p q=>some (p,q)) =
  T115x1c F x.2.1 y.1.2.1 y.2.1 (fun z=>some ((),(((),y.1.2.1,()),z,()))):=by kernel_rfl
theorem ok115x1 (F:Nat):Sound Tryz.prog cfg 115 (ct115x1 F):=
 mkC_ok (E:=E115x1 F) (lp:=[]) (code:=bodyOf Tryz.f115) Tryz.func115 rfl Tryz.ntmps115 rfl rfl cok (cts115x1 F) mixed trivial (by kernel_rfl) (fun x y k=>T115x1c F x.2.1 y.1.2.1 y.2.1 k) (fun x y k=>T115x1n F x.2.1 y.1.2.1 y.2.1 k) (eq115x1 F)
def ord48x1:Nat->List (Tag×Nat)
 | _=>[]
def al48x1:Nat->Option Nat
 | _=>none
def ms48x1:Nat->Option (List (Option Tag×Nat×List Nat))
 | _=>none
def E48x1 (F:Nat):Ev:=⟨cfg,8,ctOf [(116,ct116 F),(115,ct115x1 F)],ord48x1,ctOf [],al48x1,ms48x1⟩
theorem cts48x1 (F:Nat):CtsOk Tryz.prog (E48x1 F):=cts_of (l:=[(116,ct116 F),(115,ct115x1 F)]) (l':=[]) rfl rfl ⟨⟨ok116 F,_,Tryz.func116,rfl,rfl⟩,⟨⟨ok115x1 F,_,Tryz.func115,rfl,rfl⟩,trivial⟩⟩ trivial
def T48x1c (F:Nat) (p0:Int) (p1:Int) (p2:List UInt8) {β:Type} (k:((List UInt8))->Option β):Option β:=
 (Option.bind (T116 F p0) fun z3=>(Option.bind (T115x1 F z3 p1 p2) fun z4=>(k z4)))
def T48x1 (F:Nat) (p0:Int) (p1:Int) (p2:List UInt8):Option ((List UInt8)):=T48x1c F p0 p1 p2 some
theorem T48x1n (F:Nat) (p0:Int) (p1:Int) (p2:List UInt8) {β:Type} (k:((List UInt8))->Option β):T48x1c F p0 p1 p2 k=(T48x1 F p0 p1 p2).bind k:=by
 simp only [T48x1,T48x1c,Option.bind_assoc,cond_bind,Option.bind_some,Option.bind_none,elimS_bind]
abbrev cA48x1:List Sh:=[(.pt 0 []),.i]
abbrev cB48x1:List Sh:=[]
abbrev cT48x1:List TSh:=[.blk 166 (.pr (.rw 1) (.pr .i .un)),.row 5 .u8]
abbrev cU48x1:List TSh:=[.blk 166 (.pr (.rw 2) (.pr .i .un)),.no,.row 5 .u8]
def ct48x1 (F:Nat):Ct:=mkC 2 cA48x1 cT48x1 cB48x1 cU48x1 (fun x y=>T48x1 F x.2.1 y.1.2.1 y.2.1) (fun x y (z:(List UInt8))=>((),(((),y.1.2.1,()),(),z,())))
theorem eq48x1 (F:Nat) (x:dens cA48x1) (y:tdens cT48x1):sev (E48x1 F) 2 [] (bodyOf Tryz.f48) [] (mkSt (rng 2) cA48x1 cT48x1 x y) (kFn (E48x1 F) 2 Tryz.f48.results.toList cB48x1 cU48x1 fun p q=>some (p,q)) =
  T48x1c F x.2.1 y.1.2.1 y.2.1 (fun z=>some ((),(((),y.1.2.1,()),(),z,()))):=by kernel_rfl
theorem ok48x1 (F:Nat):Sound Tryz.prog cfg 48 (ct48x1 F):=
 mkC_ok (E:=E48x1 F) (lp:=[]) (code:=bodyOf Tryz.f48) Tryz.func48 rfl Tryz.ntmps48 rfl rfl cok (cts48x1 F) mixed trivial (by kernel_rfl) (fun x y k=>T48x1c F x.2.1 y.1.2.1 y.2.1 k) (fun x y k=>T48x1n F x.2.1 y.1.2.1 y.2.1 k) (eq48x1 F)
def E45 (F:Nat):Ev:=⟨cfg,16,ctOf [(48,ct48 F),(48,ct48x1 F)],fun _=>[],ctOf [],fun _=>none,fun _=>none⟩
theorem cts45 (F:Nat):CtsOk Tryz.prog (E45 F):=cts_of (l:=[(48,ct48 F),(48,ct48x1 F)]) (l':=[]) rfl rfl ⟨⟨ok48 F,_,Tryz.func48,rfl,rfl⟩,⟨⟨ok48x1 F,_,Tryz.func48,rfl,rfl⟩,trivial⟩⟩ trivial
def L45_2c (F:Nat) (y23:List Int) (y24:Int) (y26:Int) (y25:Int) (y27:List UInt8) {β:Type} (kA:Zh->Option β) (kO:(Za)->Option β):Option β:=
 (bif (decide (y25 < y24)) then (Option.bind (ix y23 y25) fun x30=>(Option.bind (T48x1 F x30 y26 y27) fun z31=>(kA ((w64 (y25 + (1:Int))),z31)))) else (kO y27))
def L45_2 (F:Nat) (y23:List Int) (y24:Int) (y26:Int) (y25:Int) (y27:List UInt8):=L45_2c F y23 y24 y26 y25 y27 (fun s=>some (Sum.inl s)) (fun z=>some (Sum.inr z))
def lc45_2 (F:Nat):Lc:=mkL [0,6,7,8] [(.pt 0 []),(.ro .i),.i,.i] [.blk 166 (.pr (.rw 1) (.pr .i .un)),.row 5 .u8] [] [] [.blk 166 (.pr (.rw 1) (.pr .i .un)),.row 5 .u8] F (fun x y (s:Int×Za)=>L45_2 F x.2.1 x.2.2.1 y.1.2.1 s.1 s.2) (fun x y=>(x.2.2.2.1,y.2.1)) (fun x y (z:Za)=>((),(((),y.1.2.1,()),z,())))
theorem lo45_2 (F:Nat):LcOk Tryz.prog (E45 F) 1 (lc45_2 F) (cAt (bodyOf Tryz.f45) [1]):=
 mkL_ok (lp:=[]) (id:=0) (b:=cAt (bodyOf Tryz.f45) (0 :: 0 :: [1])) cok (cts45 F) mixed trivial (by kernel_rfl) (by kernel_rfl) (fun x y s=>((),x.2.1,x.2.2.1,s.1,())) (fun x y s=>(((),y.1.2.1,()),s.2,())) (fun x y=>rfl) (fun x y=>rfl) (fun x y s kA kO=>L45_2c F x.2.1 x.2.2.1 y.1.2.1 s.1 s.2 kA kO) (fun _ _ _ _ _=>by simp only [L45_2,L45_2c,oA,oC,oS,oN,elimS_l,elimS_r,elimS_bind]) (fun _ _ _=>by kernel_rfl)
def T45c (F:Nat) (p0:List Int) (p1:Int) {β:Type} (k:(Za)->Option β):Option β:=
 (Option.bind (iter (fun s=>L45_2 F p0 (p0.length:Int) p1 s.1 s.2) F ((0:Int),([]:List UInt8))) fun z32=>(k z32))
def T45 (F:Nat) (p0:List Int) (p1:Int):=T45c F p0 p1 some
def ct45 (F:Nat):Ct:=mkC 1 [(.pt 0 []),(.ro .i)] [.blk 166 (.pr .ns (.pr .i .un))] [] [.blk 166 (.pr (.rw 1) (.pr .i .un)),.row 5 .u8] (fun x y=>T45 F x.2.1 y.1.2.1) (fun x y (z:Za)=>((),(((),y.1.2.1,()),z,())))
theorem ok45 (F:Nat):Sound Tryz.prog cfg 45 (ct45 F):=
 mkC_ok (E:=E45 F) (lp:=[([1],lc45_2 F)]) (code:=bodyOf Tryz.f45) Tryz.func45 rfl Tryz.ntmps45 rfl rfl cok (cts45 F) mixed ⟨lo45_2 F,trivial⟩ (by kernel_rfl) (fun x y k=>T45c F x.2.1 y.1.2.1 k) (fun _ _ _=>by simp only [T45,T45c,oA,oC,oS,oN,elimS_bind]) (fun _ _=>by kernel_rfl)
def E114 (F:Nat):Ev:=⟨cfg,18,ctOf [(115,ct115x1 F)],fun _=>[],ctOf [],fun _=>none,fun _=>none⟩
theorem cts114 (F:Nat):CtsOk Tryz.prog (E114 F):=cts_of (l:=[(115,ct115x1 F)]) (l':=[]) rfl rfl ⟨⟨ok115x1 F,_,Tryz.func115,rfl,rfl⟩,trivial⟩ trivial
def T114c (F:Nat) (p0:Int) (p1:Int) (p2:List UInt8) {β:Type} (k:Zh->Option β):Option β:=
 (bif (p1 != (0:Int)) then (k (p1,p2)) else (bif (decide (p0 < (0:Int))) then (k ((1:Int),p2)) else (Option.bind (T115x1 F (UInt64.ofInt p0) p1 p2) fun z2=>(k (p1,z2)))))
def T114 (F:Nat) (p0:Int) (p1:Int) (p2:List UInt8):=T114c F p0 p1 p2 some
def ct114 (F:Nat):Ct:=mkC 1 [(.pt 0 []),.i] [.blk 166 (.pr (.rw 1) (.pr .i .un)),.row 5 .u8] [] [.blk 166 (.pr (.rw 1) (.pr .i .un)),.row 5 .u8] (fun x y=>T114 F x.2.1 y.1.2.1 y.2.1) (fun x y (z:Int×Za)=>((),(((),z.1,()),z.2,())))
theorem ok114 (F:Nat):Sound Tryz.prog cfg 114 (ct114 F):=
 mkC_ok (E:=E114 F) (lp:=[]) (code:=bodyOf Tryz.f114) Tryz.func114 rfl Tryz.ntmps114 rfl rfl cok (cts114 F) mixed trivial (by kernel_rfl) (fun x y k=>T114c F x.2.1 y.1.2.1 y.2.1 k) (fun _ _ _=>by simp only [T114,T114c,oA,oC,oS,oN,elimS_bind]) (fun _ _=>by kernel_rfl)
def E47 (F:Nat):Ev:=⟨cfg,6,ctOf [(48,ct48x1 F)],fun _=>[],ctOf [],fun _=>none,fun _=>none⟩
theorem cts47 (F:Nat):CtsOk Tryz.prog (E47 F):=cts_of (l:=[(48,ct48x1 F)]) (l':=[]) rfl rfl ⟨⟨ok48x1 F,_,Tryz.func48,rfl,rfl⟩,trivial⟩ trivial
def T47c (F:Nat) (p0:Int) (p1:Int) (p2:List UInt8) {β:Type} (k:(Za)->Option β):Option β:=
 (Option.bind (T48x1 F p0 p1 p2) fun z2=>(k z2))
def T47 (F:Nat) (p0:Int) (p1:Int) (p2:List UInt8):=T47c F p0 p1 p2 some
def ct47 (F:Nat):Ct:=mkC 3 [.i,(.pt 0 [])] [.blk 81 (.pt 1 []),.blk 166 (.pr (.rw 2) (.pr .i .un)),.row 5 .u8] [] [.blk 81 (.pt 1 []),.blk 166 (.pr (.rw 3) (.pr .i .un)),.no,.row 5 .u8] (fun x y=>T47 F x.1 y.2.1.2.1 y.2.2.1) (fun x y (z:Za)=>((),((),((),y.2.1.2.1,()),(),z,())))
theorem ok47 (F:Nat):Sound Tryz.prog cfg 47 (ct47 F):=
 mkC_ok (E:=E47 F) (lp:=[]) (code:=bodyOf Tryz.f47) Tryz.func47 rfl Tryz.ntmps47 rfl rfl cok (cts47 F) mixed trivial (by kernel_rfl) (fun x y k=>T47c F x.1 y.2.1.2.1 y.2.2.1 k) (fun _ _ _=>by simp only [T47,T47c,oA,oC,oS,oN,elimS_bind]) (fun _ _=>by kernel_rfl)
def E46 (F:Nat):Ev:=⟨cfg,22,ctOf [(114,ct114 F),(47,ct47 F)],fun _=>[],ctOf [],fun _=>none,fun _=>none⟩
theorem cts46 (F:Nat):CtsOk Tryz.prog (E46 F):=cts_of (l:=[(114,ct114 F),(47,ct47 F)]) (l':=[]) rfl rfl ⟨⟨ok114 F,_,Tryz.func114,rfl,rfl⟩,⟨⟨ok47 F,_,Tryz.func47,rfl,rfl⟩,trivial⟩⟩ trivial
def L46_2c (F:Nat) (y13:List Int) (y14:Int) (y16:Int) (y15:Int) (y17:List UInt8) {β:Type} (kA:Zh->Option β) (kO:(Za)->Option β):Option β:=
 (bif (decide (y15 < y14)) then (Option.bind (ix y13 y15) fun x20=>(Option.bind (T47 F x20 y16 y17) fun z21=>(kA ((w64 (y15 + (1:Int))),z21)))) else (kO y17))
def L46_2 (F:Nat) (y13:List Int) (y14:Int) (y16:Int) (y15:Int) (y17:List UInt8):=L46_2c F y13 y14 y16 y15 y17 (fun s=>some (Sum.inl s)) (fun z=>some (Sum.inr z))
def lc46_2 (F:Nat):Lc:=mkL [2,12,13,14] [(.fn 47 .un (.pr (.pt 1 []) .un)),(.ro .i),.i,.i] [.blk 166 (.pr (.rw 3) (.pr .i .un)),.blk 81 (.pt 0 []),.no,.row 5 .u8] [] [] [.blk 166 (.pr (.rw 3) (.pr .i .un)),.blk 81 (.pt 0 []),.no,.row 5 .u8] F (fun x y (s:Int×Za)=>L46_2 F x.2.1 x.2.2.1 y.1.2.1 s.1 s.2) (fun x y=>(x.2.2.2.1,y.2.2.2.1)) (fun x y (z:Za)=>((),(((),y.1.2.1,()),(),(),z,())))
theorem lo46_2 (F:Nat):LcOk Tryz.prog (E46 F) 3 (lc46_2 F) (cAt (bodyOf Tryz.f46) [1,1]):=
 mkL_ok (lp:=[]) (id:=0) (b:=cAt (bodyOf Tryz.f46) (0 :: 0 :: [1,1])) cok (cts46 F) mixed trivial (by kernel_rfl) (by kernel_rfl) (fun x y s=>(((),((),())),x.2.1,x.2.2.1,s.1,())) (fun x y s=>(((),y.1.2.1,()),(),(),s.2,())) (fun x y=>rfl) (fun x y=>rfl) (fun x y s kA kO=>L46_2c F x.2.1 x.2.2.1 y.1.2.1 s.1 s.2 kA kO) (fun _ _ _ _ _=>by simp only [L46_2,L46_2c,oA,oC,oS,oN,elimS_l,elimS_r,elimS_bind]) (fun _ _ _=>by kernel_rfl)
def T46c (F:Nat) (p0:List Int) (p1:Int) (p2:List UInt8) {β:Type} (k:Zh->Option β):Option β:=
 (Option.bind (T114 F (p0.length:Int) p1 p2) fun z12=>(Option.bind (iter (fun s=>L46_2 F p0 (p0.length:Int) z12.1 s.1 s.2) F ((0:Int),z12.2)) fun z22=>(k (z12.1,z22))))
def T46 (F:Nat) (p0:List Int) (p1:Int) (p2:List UInt8):=T46c F p0 p1 p2 some
def ct46 (F:Nat):Ct:=mkC 3 [(.pt 0 []),(.ro .i),(.fn 47 .un (.pr (.pt 1 []) .un))] [.blk 166 (.pr (.rw 2) (.pr .i .un)),.blk 81 (.pt 0 []),.row 5 .u8] [] [.blk 166 (.pr (.rw 3) (.pr .i .un)),.blk 81 (.pt 0 []),.no,.row 5 .u8] (fun x y=>T46 F x.2.1 y.1.2.1 y.2.2.1) (fun x y (z:Int×Za)=>((),(((),z.1,()),(),(),z.2,())))
theorem ok46 (F:Nat):Sound Tryz.prog cfg 46 (ct46 F):=
 mkC_ok (E:=E46 F) (lp:=[([1,1],lc46_2 F)]) (code:=bodyOf Tryz.f46) Tryz.func46 rfl Tryz.ntmps46 rfl rfl cok (cts46 F) mixed ⟨lo46_2 F,trivial⟩ (by kernel_rfl) (fun x y k=>T46c F x.2.1 y.1.2.1 y.2.2.1 k) (fun _ _ _=>by simp only [T46,T46c,oA,oC,oS,oN,elimS_bind]) (fun _ _=>by kernel_rfl)
def ord45x1:Nat->List (Tag×Nat)
 | _=>[]
def al45x1:Nat->Option Nat
 | _=>none
def ms45x1:Nat->Option (List (Option Tag×Nat×List Nat))
 | _=>none
def E45x1 (F:Nat):Ev:=⟨cfg,16,ctOf [(48,ct48x1 F)],ord45x1,ctOf [],al45x1,ms45x1⟩
theorem cts45x1 (F:Nat):CtsOk Tryz.prog (E45x1 F):=cts_of (l:=[(48,ct48x1 F)]) (l':=[]) rfl rfl ⟨⟨ok48x1 F,_,Tryz.func48,rfl,rfl⟩,trivial⟩ trivial
def L45x1_2c (F:Nat) (y11:List Int) (y12:Int) (y14:Int) (y13:Int) (y15:List UInt8) {β:Type} (kA:(Int×(List UInt8))->Option β) (kO:((List UInt8))->Option β):Option β:=
 (bif (decide (y13 < y12)) then (Option.bind (ix y11 y13) fun x18=>(Option.bind (T48x1 F x18 y14 y15) fun z19=>(kA ((w64 (y13 + (1:Int))),z19)))) else (kO y15))
def L45x1_2 (F:Nat) (y11:List Int) (y12:Int) (y14:Int) (y13:Int) (y15:List UInt8):Option ((Int×(List UInt8)) ⊕ ((List UInt8))):=L45x1_2c F y11 y12 y14 y13 y15 (fun s=>some (.inl s)) (fun z=>some (.inr z))
theorem L45x1_2n (F:Nat) (y11:List Int) (y12:Int) (y14:Int) (y13:Int) (y15:List UInt8) {β:Type} (kA:(Int×(List UInt8))->Option β) (kO:((List UInt8))->Option β):L45x1_2c F y11 y12 y14 y13 y15 kA kO=(L45x1_2 F y11 y12 y14 y13 y15).bind (elimS kA kO):=by
 simp only [L45x1_2,L45x1_2c,Option.bind_assoc,cond_bind,Option.bind_some,Option.bind_none,elimS_l,elimS_r,elimS_bind]
abbrev sA45x1_2:List Sh:=[(.pt 0 []),(.ro .i),.i,.i]
abbrev sAp145x1_2:List Sh:=[]
abbrev sT45x1_2:List TSh:=[.blk 166 (.pr (.rw 1) (.pr .i .un)),.row 5 .u8]
abbrev sTp145x1_2:List TSh:=[.blk 166 (.pr (.rw 1) (.pr .i .un)),.row 5 .u8]
def lc45x1_2 (F:Nat):Lc:=mkL [0,6,7,8] sA45x1_2 sT45x1_2 [] sAp145x1_2 sTp145x1_2 F (fun x y (s:Int×(List UInt8))=>L45x1_2 F x.2.1 x.2.2.1 y.1.2.1 s.1 s.2) (fun x y=>(x.2.2.2.1,y.2.1)) (fun x y (z:(List UInt8))=>((),(((),y.1.2.1,()),z,())))
theorem le45x1_2 (F:Nat) (x:dens sA45x1_2) (y:tdens sT45x1_2) (s:Int×(List UInt8)):sev (E45x1 F) 1 [] (cAt (bodyOf Tryz.f45) (0 :: 0 :: [1])) (0 :: 0 :: [1]) (mkSt [0,6,7,8] sA45x1_2 sT45x1_2 ((),x.2.1,x.2.2.1,s.1,()) (((),y.1.2.1,()),s.2,())) (kLoop 1 [0,6,7,8] sA45x1_2 sT45x1_2 [] sAp145x1_2 sTp145x1_2 [] [] [] 0 (fun x y=>some (.inl (x,y))) (fun x y=>some (.inr (.inl (x,y)))) (fun x y=>some (.inr (.inr (x,y))))) =
  L45x1_2c (β:=Full sA45x1_2 sT45x1_2 sAp145x1_2 sTp145x1_2 [] []) F x.2.1 x.2.2.1 y.1.2.1 s.1 s.2 (fun s=>some (.inl (((),x.2.1,x.2.2.1,s.1,()),(((),y.1.2.1,()),s.2,())))) (fun z=>some (.inr (.inl ((),(((),y.1.2.1,()),z,()))))):=by kernel_rfl
theorem lo45x1_2 (F:Nat):LcOk Tryz.prog (E45x1 F) 1 (lc45x1_2 F) (cAt (bodyOf Tryz.f45) [1]):=
 mkL_ok (lp:=[]) (id:=0) (b:=cAt (bodyOf Tryz.f45) (0 :: 0 :: [1])) cok (cts45x1 F) mixed trivial (by kernel_rfl) (by kernel_rfl) (fun x y s=>((),x.2.1,x.2.2.1,s.1,())) (fun x y s=>(((),y.1.2.1,()),s.2,())) (fun x y=>rfl) (fun x y=>rfl) (fun x y s kA kO=>L45x1_2c F x.2.1 x.2.2.1 y.1.2.1 s.1 s.2 kA kO) (fun x y s kA kO=>L45x1_2n F x.2.1 x.2.2.1 y.1.2.1 s.1 s.2 kA kO) (le45x1_2 F)
def T45x1c (F:Nat) (p0:List Int) (p1:Int) (p2:List UInt8) {β:Type} (k:((List UInt8))->Option β):Option β:=
 (Option.bind (iter (fun s=>L45x1_2 F p0 (p0.length:Int) p1 s.1 s.2) F ((0:Int),p2)) fun z20=>(k z20))
def T45x1 (F:Nat) (p0:List Int) (p1:Int) (p2:List UInt8):Option ((List UInt8)):=T45x1c F p0 p1 p2 some
theorem T45x1n (F:Nat) (p0:List Int) (p1:Int) (p2:List UInt8) {β:Type} (k:((List UInt8))->Option β):T45x1c F p0 p1 p2 k=(T45x1 F p0 p1 p2).bind k:=by
 simp only [T45x1,T45x1c,Option.bind_assoc,cond_bind,Option.bind_some,Option.bind_none,elimS_bind]
abbrev cA45x1:List Sh:=[(.pt 0 []),(.ro .i)]
abbrev cB45x1:List Sh:=[]
abbrev cT45x1:List TSh:=[.blk 166 (.pr (.rw 1) (.pr .i .un)),.row 5 .u8]
abbrev cU45x1:List TSh:=[.blk 166 (.pr (.rw 1) (.pr .i .un)),.row 5 .u8]
def ct45x1 (F:Nat):Ct:=mkC 1 cA45x1 cT45x1 cB45x1 cU45x1 (fun x y=>T45x1 F x.2.1 y.1.2.1 y.2.1) (fun x y (z:(List UInt8))=>((),(((),y.1.2.1,()),z,())))
theorem eq45x1 (F:Nat) (x:dens cA45x1) (y:tdens cT45x1):sev (E45x1 F) 1 [([1],lc45x1_2 F)] (bodyOf Tryz.f45) [] (mkSt (rng 2) cA45x1 cT45x1 x y) (kFn (E45x1 F) 1 Tryz.f45.results.toList cB45x1 cU45x1 fun p q=>some (p,q)) =
  T45x1c F x.2.1 y.1.2.1 y.2.1 (fun z=>some ((),(((),y.1.2.1,()),z,()))):=by kernel_rfl
theorem ok45x1 (F:Nat):Sound Tryz.prog cfg 45 (ct45x1 F):=
 mkC_ok (E:=E45x1 F) (lp:=[([1],lc45x1_2 F)]) (code:=bodyOf Tryz.f45) Tryz.func45 rfl Tryz.ntmps45 rfl rfl cok (cts45x1 F) mixed ⟨lo45x1_2 F,trivial⟩ (by kernel_rfl) (fun x y k=>T45x1c F x.2.1 y.1.2.1 y.2.1 k) (fun x y k=>T45x1n F x.2.1 y.1.2.1 y.2.1 k) (eq45x1 F)
def E57 (F:Nat):Ev:=⟨cfg,24,ctOf [],fun _=>[],ctOf [],fun _=>none,fun _=>none⟩
theorem cts57 (F:Nat):CtsOk Tryz.prog (E57 F):=cts_of (l:=[]) (l':=[]) rfl rfl trivial trivial
def T57c (F:Nat) (p0:List UInt8) (p1:Int) (p2:List UInt8) {β:Type} (k:Zh->Option β):Option β:=
 (bif (p1 != (0:Int)) then (k (p1,p2)) else (bif ((p0.length:Int) != (32:Int)) then (k ((1:Int),p2)) else (Option.bind (gapp p2 p0) fun x2=>(k (p1,x2)))))
def T57 (F:Nat) (p0:List UInt8) (p1:Int) (p2:List UInt8):=T57c F p0 p1 p2 some
def ct57 (F:Nat):Ct:=mkC 1 [(.pt 0 []),.str] [.blk 166 (.pr (.rw 1) (.pr .i .un)),.row 5 .u8] [] [.blk 166 (.pr (.rw 1) (.pr .i .un)),.row 5 .u8] (fun x y=>T57 F x.2.1 y.1.2.1 y.2.1) (fun x y (z:Int×Za)=>((),(((),z.1,()),z.2,())))
theorem ok57 (F:Nat):Sound Tryz.prog cfg 57 (ct57 F):=
 mkC_ok (E:=E57 F) (lp:=[]) (code:=bodyOf Tryz.f57) Tryz.func57 rfl Tryz.ntmps57 rfl rfl cok (cts57 F) mixed trivial (by kernel_rfl) (fun x y k=>T57c F x.2.1 y.1.2.1 y.2.1 k) (fun _ _ _=>by simp only [T57,T57c,oA,oC,oS,oN,elimS_bind]) (fun _ _=>by kernel_rfl)
def E51 (F:Nat):Ev:=⟨cfg,15,ctOf [(57,ct57 F),(45,ct45x1 F)],fun _=>[],ctOf [],fun _=>none,fun _=>none⟩
theorem cts51 (F:Nat):CtsOk Tryz.prog (E51 F):=cts_of (l:=[(57,ct57 F),(45,ct45x1 F)]) (l':=[]) rfl rfl ⟨⟨ok57 F,_,Tryz.func57,rfl,rfl⟩,⟨⟨ok45x1 F,_,Tryz.func45,rfl,rfl⟩,trivial⟩⟩ trivial
def T51c (F:Nat) (p0:List UInt8) (p1:Int) (p2:Int) (p3:Int) (p4:List UInt8) {β:Type} (k:Zh->Option β):Option β:=
 (Option.bind (T57 F p0 p3 p4) fun z3=>(Option.bind (T45x1 F ([p1,p2]:List Int) z3.1 z3.2) fun z4=>(k (z3.1,z4))))
def T51 (F:Nat) (p0:List UInt8) (p1:Int) (p2:Int) (p3:Int) (p4:List UInt8):=T51c F p0 p1 p2 p3 p4 some
def ct51 (F:Nat):Ct:=mkC 2 [(.pt 0 []),(.pr .str (.pr .i (.pr .i .un)))] [.blk 166 (.pr (.rw 1) (.pr .i .un)),.row 5 .u8] [] [.blk 166 (.pr (.rw 2) (.pr .i .un)),.no,.row 5 .u8] (fun x y=>T51 F x.2.1.1 x.2.1.2.1 x.2.1.2.2.1 y.1.2.1 y.2.1) (fun x y (z:Int×Za)=>((),(((),z.1,()),(),z.2,())))
theorem ok51 (F:Nat):Sound Tryz.prog cfg 51 (ct51 F):=
 mkC_ok (E:=E51 F) (lp:=[]) (code:=bodyOf Tryz.f51) Tryz.func51 rfl Tryz.ntmps51 rfl rfl cok (cts51 F) mixed trivial (by kernel_rfl) (fun x y k=>T51c F x.2.1.1 x.2.1.2.1 x.2.1.2.2.1 y.1.2.1 y.2.1 k) (fun _ _ _=>by simp only [T51,T51c,oA,oC,oS,oN,elimS_bind]) (fun _ _=>by kernel_rfl)
def E52 (F:Nat):Ev:=⟨cfg,22,ctOf [(117,ct117 F)],fun _=>[],ctOf [],fun _=>none,fun _=>none⟩
theorem cts52 (F:Nat):CtsOk Tryz.prog (E52 F):=cts_of (l:=[(117,ct117 F)]) (l':=[]) rfl rfl ⟨⟨ok117 F,_,Tryz.func117,rfl,rfl⟩,trivial⟩ trivial
def T52c (F:Nat) (p0:List UInt8) (p1:Int) (p2:List UInt8) {β:Type} (k:(Za)->Option β):Option β:=
 (bif (p1 == (0:Int)) then (Option.bind (T117 F (UInt64.ofInt (p0.length:Int)) p2) fun z3=>(Option.bind (gapp z3 p0) fun x4=>(k x4))) else (k p2))
def T52 (F:Nat) (p0:List UInt8) (p1:Int) (p2:List UInt8):=T52c F p0 p1 p2 some
def ct52 (F:Nat):Ct:=mkC 1 [(.pt 0 []),.str] [.blk 166 (.pr (.rw 1) (.pr .i .un)),.row 5 .u8] [] [.blk 166 (.pr (.rw 1) (.pr .i .un)),.row 5 .u8] (fun x y=>T52 F x.2.1 y.1.2.1 y.2.1) (fun x y (z:Za)=>((),(((),y.1.2.1,()),z,())))
theorem ok52 (F:Nat):Sound Tryz.prog cfg 52 (ct52 F):=
 mkC_ok (E:=E52 F) (lp:=[]) (code:=bodyOf Tryz.f52) Tryz.func52 rfl Tryz.ntmps52 rfl rfl cok (cts52 F) mixed trivial (by kernel_rfl) (fun x y k=>T52c F x.2.1 y.1.2.1 y.2.1 k) (fun _ _ _=>by simp only [T52,T52c,oA,oC,oS,oN,elimS_bind]) (fun _ _=>by kernel_rfl)
def E53 (F:Nat):Ev:=⟨cfg,9,ctOf [(115,ct115x1 F)],fun _=>[],ctOf [],fun _=>none,fun _=>none⟩
theorem cts53 (F:Nat):CtsOk Tryz.prog (E53 F):=cts_of (l:=[(115,ct115x1 F)]) (l':=[]) rfl rfl ⟨⟨ok115x1 F,_,Tryz.func115,rfl,rfl⟩,trivial⟩ trivial
def T53c (F:Nat) (p0:Bool) (p1:Int) (p2:List UInt8) {β:Type} (k:(Za)->Option β):Option β:=
 (bif p0 then (Option.bind (T115x1 F (UInt64.ofNat 1) p1 p2) fun z3=>(k z3)) else (Option.bind (T115x1 F (UInt64.ofNat 0) p1 p2) fun z4=>(k z4)))
def T53 (F:Nat) (p0:Bool) (p1:Int) (p2:List UInt8):=T53c F p0 p1 p2 some
def ct53 (F:Nat):Ct:=mkC 2 [(.pt 0 []),.bo] [.blk 166 (.pr (.rw 1) (.pr .i .un)),.row 5 .u8] [] [.blk 166 (.pr (.rw 2) (.pr .i .un)),.no,.row 5 .u8] (fun x y=>T53 F x.2.1 y.1.2.1 y.2.1) (fun x y (z:Za)=>((),(((),y.1.2.1,()),(),z,())))
theorem ok53 (F:Nat):Sound Tryz.prog cfg 53 (ct53 F):=
 mkC_ok (E:=E53 F) (lp:=[]) (code:=bodyOf Tryz.f53) Tryz.func53 rfl Tryz.ntmps53 rfl rfl cok (cts53 F) mixed trivial (by kernel_rfl) (fun x y k=>T53c F x.2.1 y.1.2.1 y.2.1 k) (fun _ _ _=>by simp only [T53,T53c,oA,oC,oS,oN,elimS_bind]) (fun _ _=>by kernel_rfl)
def E50 (F:Nat):Ev:=⟨cfg,31,ctOf [(45,ct45x1 F),(51,ct51 F),(52,ct52 F),(53,ct53 F)],fun _=>[],ctOf [],fun _=>none,fun _=>none⟩
theorem cts50 (F:Nat):CtsOk Tryz.prog (E50 F):=cts_of (l:=[(45,ct45x1 F),(51,ct51 F),(52,ct52 F),(53,ct53 F)]) (l':=[]) rfl rfl ⟨⟨ok45x1 F,_,Tryz.func45,rfl,rfl⟩,⟨⟨ok51 F,_,Tryz.func51,rfl,rfl⟩,⟨⟨ok52 F,_,Tryz.func52,rfl,rfl⟩,⟨⟨ok53 F,_,Tryz.func53,rfl,rfl⟩,trivial⟩⟩⟩⟩ trivial
def T50c (F:Nat) (p0:Int) (p1:Int) (p2:Int) (p3:List UInt8) (p4:Int) (p5:Int) (p6:Int) (p7:Int) (p8:List UInt8) (p9:Bool) (p10:Int) (p11:List UInt8) {β:Type} (k:Zh->Option β):Option β:=
 (Option.bind (T45x1 F ([p0,p1,p2]:List Int) p10 p11) fun z6=>(Option.bind (T51 F p3 p4 p5 p10 z6) fun z7=>(Option.bind (T45x1 F ([p6,p7]:List Int) z7.1 z7.2) fun z8=>(Option.bind (T52 F p8 z7.1 z8) fun z9=>(Option.bind (T53 F p9 z7.1 z9) fun z10=>(k (z7.1,z10)))))))
def T50 (F:Nat) (p0:Int) (p1:Int) (p2:Int) (p3:List UInt8) (p4:Int) (p5:Int) (p6:Int) (p7:Int) (p8:List UInt8) (p9:Bool) (p10:Int) (p11:List UInt8):=T50c F p0 p1 p2 p3 p4 p5 p6 p7 p8 p9 p10 p11 some
def ct50 (F:Nat):Ct:=mkC 3 [(.pr .i (.pr .i (.pr .i (.pr (.pr .str (.pr .i (.pr .i .un))) (.pr .i (.pr .i (.pr .str (.pr .bo .un)))))))),(.pt 0 [])] [.blk 81 (.pt 1 []),.blk 166 (.pr (.rw 2) (.pr .i .un)),.row 5 .u8] [] [.blk 81 (.pt 1 []),.blk 166 (.pr (.rw 3) (.pr .i .un)),.no,.row 5 .u8] (fun x y=>T50 F x.1.1 x.1.2.1 x.1.2.2.1 x.1.2.2.2.1.1 x.1.2.2.2.1.2.1 x.1.2.2.2.1.2.2.1 x.1.2.2.2.2.1 x.1.2.2.2.2.2.1 x.1.2.2.2.2.2.2.1 x.1.2.2.2.2.2.2.2.1 y.2.1.2.1 y.2.2.1) (fun x y (z:Int×Za)=>((),((),((),z.1,()),(),z.2,())))
theorem ok50 (F:Nat):Sound Tryz.prog cfg 50 (ct50 F):=
 mkC_ok (E:=E50 F) (lp:=[]) (code:=bodyOf Tryz.f50) Tryz.func50 rfl Tryz.ntmps50 rfl rfl cok (cts50 F) mixed trivial (by kernel_rfl) (fun x y k=>T50c F x.1.1 x.1.2.1 x.1.2.2.1 x.1.2.2.2.1.1 x.1.2.2.2.1.2.1 x.1.2.2.2.1.2.2.1 x.1.2.2.2.2.1 x.1.2.2.2.2.2.1 x.1.2.2.2.2.2.2.1 x.1.2.2.2.2.2.2.2.1 y.2.1.2.1 y.2.2.1 k) (fun _ _ _=>by simp only [T50,T50c,oA,oC,oS,oN,elimS_bind]) (fun _ _=>by kernel_rfl)
def E49 (F:Nat):Ev:=⟨cfg,22,ctOf [(114,ct114 F),(50,ct50 F)],fun _=>[],ctOf [],fun _=>none,fun _=>none⟩
theorem cts49 (F:Nat):CtsOk Tryz.prog (E49 F):=cts_of (l:=[(114,ct114 F),(50,ct50 F)]) (l':=[]) rfl rfl ⟨⟨ok114 F,_,Tryz.func114,rfl,rfl⟩,⟨⟨ok50 F,_,Tryz.func50,rfl,rfl⟩,trivial⟩⟩ trivial
def L49_2c (F:Nat) (y13:List Zd) (y14:Int) (y15:Int) (y16:Int) (y17:List UInt8) {β:Type} (kA:(Int×Int×Za)->Option β) (kO:Zh->Option β):Option β:=
 (bif (decide (y15 < y14)) then (Option.bind (ix y13 y15) fun x20=>(Option.bind (T50 F x20.1 x20.2.1 x20.2.2.1 x20.2.2.2.1.1 x20.2.2.2.1.2.1 x20.2.2.2.1.2.2.1 x20.2.2.2.2.1 x20.2.2.2.2.2.1 x20.2.2.2.2.2.2.1 x20.2.2.2.2.2.2.2.1 y16 y17) fun z21=>(kA ((w64 (y15 + (1:Int))),z21.1,z21.2)))) else (kO (y16,y17)))
def L49_2 (F:Nat) (y13:List Zd) (y14:Int) (y15:Int) (y16:Int) (y17:List UInt8):=L49_2c F y13 y14 y15 y16 y17 (fun s=>some (Sum.inl s)) (fun z=>some (Sum.inr z))
def lc49_2 (F:Nat):Lc:=mkL [2,12,13,14] [(.fn 50 .un (.pr (.pt 1 []) .un)),(.ro (.pr .i (.pr .i (.pr .i (.pr (.pr .s (.pr .i (.pr .i .un))) (.pr .i (.pr .i (.pr .s (.pr .bo .un))))))))),.i,.i] [.blk 166 (.pr (.rw 3) (.pr .i .un)),.blk 81 (.pt 0 []),.no,.row 5 .u8] [] [] [.blk 166 (.pr (.rw 3) (.pr .i .un)),.blk 81 (.pt 0 []),.no,.row 5 .u8] F (fun x y (s:Int×Int×Za)=>L49_2 F x.2.1 x.2.2.1 s.1 s.2.1 s.2.2) (fun x y=>(x.2.2.2.1,y.1.2.1,y.2.2.2.1)) (fun x y (z:Int×Za)=>((),(((),z.1,()),(),(),z.2,())))
theorem lo49_2 (F:Nat):LcOk Tryz.prog (E49 F) 3 (lc49_2 F) (cAt (bodyOf Tryz.f49) [1,1]):=
 mkL_ok (lp:=[]) (id:=0) (b:=cAt (bodyOf Tryz.f49) (0 :: 0 :: [1,1])) cok (cts49 F) mixed trivial (by kernel_rfl) (by kernel_rfl) (fun x y s=>(((),((),())),x.2.1,x.2.2.1,s.1,())) (fun x y s=>(((),s.2.1,()),(),(),s.2.2,())) (fun x y=>rfl) (fun x y=>rfl) (fun x y s kA kO=>L49_2c F x.2.1 x.2.2.1 s.1 s.2.1 s.2.2 kA kO) (fun _ _ _ _ _=>by simp only [L49_2,L49_2c,oA,oC,oS,oN,elimS_l,elimS_r,elimS_bind]) (fun _ _ _=>by kernel_rfl)
def T49c (F:Nat) (p0:List Zd) (p1:Int) (p2:List UInt8) {β:Type} (k:Zh->Option β):Option β:=
 (Option.bind (T114 F (p0.length:Int) p1 p2) fun z12=>(Option.bind (iter (fun s=>L49_2 F p0 (p0.length:Int) s.1 s.2.1 s.2.2) F ((0:Int),z12.1,z12.2)) fun z22=>(k (z22.1,z22.2))))
def T49 (F:Nat) (p0:List Zd) (p1:Int) (p2:List UInt8):=T49c F p0 p1 p2 some
def ct49 (F:Nat):Ct:=mkC 3 [(.pt 0 []),(.ro (.pr .i (.pr .i (.pr .i (.pr (.pr .s (.pr .i (.pr .i .un))) (.pr .i (.pr .i (.pr .s (.pr .bo .un))))))))),(.fn 50 .un (.pr (.pt 1 []) .un))] [.blk 166 (.pr (.rw 2) (.pr .i .un)),.blk 81 (.pt 0 []),.row 5 .u8] [] [.blk 166 (.pr (.rw 3) (.pr .i .un)),.blk 81 (.pt 0 []),.no,.row 5 .u8] (fun x y=>T49 F x.2.1 y.1.2.1 y.2.2.1) (fun x y (z:Int×Za)=>((),(((),z.1,()),(),(),z.2,())))
theorem ok49 (F:Nat):Sound Tryz.prog cfg 49 (ct49 F):=
 mkC_ok (E:=E49 F) (lp:=[([1,1],lc49_2 F)]) (code:=bodyOf Tryz.f49) Tryz.func49 rfl Tryz.ntmps49 rfl rfl cok (cts49 F) mixed ⟨lo49_2 F,trivial⟩ (by kernel_rfl) (fun x y k=>T49c F x.2.1 y.1.2.1 y.2.2.1 k) (fun _ _ _=>by simp only [T49,T49c,oA,oC,oS,oN,elimS_bind]) (fun _ _=>by kernel_rfl)
def E54 (F:Nat):Ev:=⟨cfg,6,ctOf [(51,ct51 F)],fun _=>[],ctOf [],fun _=>none,fun _=>none⟩
theorem cts54 (F:Nat):CtsOk Tryz.prog (E54 F):=cts_of (l:=[(51,ct51 F)]) (l':=[]) rfl rfl ⟨⟨ok51 F,_,Tryz.func51,rfl,rfl⟩,trivial⟩ trivial
def T54c (F:Nat) (p0:List UInt8) (p1:Int) (p2:Int) (p3:Int) (p4:List UInt8) {β:Type} (k:Zh->Option β):Option β:=
 (Option.bind (T51 F p0 p1 p2 p3 p4) fun z2=>(k (z2.1,z2.2)))
def T54 (F:Nat) (p0:List UInt8) (p1:Int) (p2:Int) (p3:Int) (p4:List UInt8):=T54c F p0 p1 p2 p3 p4 some
def ct54 (F:Nat):Ct:=mkC 3 [(.pr .str (.pr .i (.pr .i .un))),(.pt 0 [])] [.blk 81 (.pt 1 []),.blk 166 (.pr (.rw 2) (.pr .i .un)),.row 5 .u8] [] [.blk 81 (.pt 1 []),.blk 166 (.pr (.rw 3) (.pr .i .un)),.no,.row 5 .u8] (fun x y=>T54 F x.1.1 x.1.2.1 x.1.2.2.1 y.2.1.2.1 y.2.2.1) (fun x y (z:Int×Za)=>((),((),((),z.1,()),(),z.2,())))
theorem ok54 (F:Nat):Sound Tryz.prog cfg 54 (ct54 F):=
 mkC_ok (E:=E54 F) (lp:=[]) (code:=bodyOf Tryz.f54) Tryz.func54 rfl Tryz.ntmps54 rfl rfl cok (cts54 F) mixed trivial (by kernel_rfl) (fun x y k=>T54c F x.1.1 x.1.2.1 x.1.2.2.1 y.2.1.2.1 y.2.2.1 k) (fun _ _ _=>by simp only [T54,T54c,oA,oC,oS,oN,elimS_bind]) (fun _ _=>by kernel_rfl)
def E58 (F:Nat):Ev:=⟨cfg,22,ctOf [(114,ct114 F),(54,ct54 F)],fun _=>[],ctOf [],fun _=>none,fun _=>none⟩
theorem cts58 (F:Nat):CtsOk Tryz.prog (E58 F):=cts_of (l:=[(114,ct114 F),(54,ct54 F)]) (l':=[]) rfl rfl ⟨⟨ok114 F,_,Tryz.func114,rfl,rfl⟩,⟨⟨ok54 F,_,Tryz.func54,rfl,rfl⟩,trivial⟩⟩ trivial
def L58_2c (F:Nat) (y13:List Zc) (y14:Int) (y15:Int) (y16:Int) (y17:List UInt8) {β:Type} (kA:(Int×Int×Za)->Option β) (kO:Zh->Option β):Option β:=
 (bif (decide (y15 < y14)) then (Option.bind (ix y13 y15) fun x20=>(Option.bind (T54 F x20.1 x20.2.1 x20.2.2.1 y16 y17) fun z21=>(kA ((w64 (y15 + (1:Int))),z21.1,z21.2)))) else (kO (y16,y17)))
def L58_2 (F:Nat) (y13:List Zc) (y14:Int) (y15:Int) (y16:Int) (y17:List UInt8):=L58_2c F y13 y14 y15 y16 y17 (fun s=>some (Sum.inl s)) (fun z=>some (Sum.inr z))
def lc58_2 (F:Nat):Lc:=mkL [2,12,13,14] [(.fn 54 .un (.pr (.pt 1 []) .un)),(.ro (.pr .s (.pr .i (.pr .i .un)))),.i,.i] [.blk 166 (.pr (.rw 3) (.pr .i .un)),.blk 81 (.pt 0 []),.no,.row 5 .u8] [] [] [.blk 166 (.pr (.rw 3) (.pr .i .un)),.blk 81 (.pt 0 []),.no,.row 5 .u8] F (fun x y (s:Int×Int×Za)=>L58_2 F x.2.1 x.2.2.1 s.1 s.2.1 s.2.2) (fun x y=>(x.2.2.2.1,y.1.2.1,y.2.2.2.1)) (fun x y (z:Int×Za)=>((),(((),z.1,()),(),(),z.2,())))
theorem lo58_2 (F:Nat):LcOk Tryz.prog (E58 F) 3 (lc58_2 F) (cAt (bodyOf Tryz.f58) [1,1]):=
 mkL_ok (lp:=[]) (id:=0) (b:=cAt (bodyOf Tryz.f58) (0 :: 0 :: [1,1])) cok (cts58 F) mixed trivial (by kernel_rfl) (by kernel_rfl) (fun x y s=>(((),((),())),x.2.1,x.2.2.1,s.1,())) (fun x y s=>(((),s.2.1,()),(),(),s.2.2,())) (fun x y=>rfl) (fun x y=>rfl) (fun x y s kA kO=>L58_2c F x.2.1 x.2.2.1 s.1 s.2.1 s.2.2 kA kO) (fun _ _ _ _ _=>by simp only [L58_2,L58_2c,oA,oC,oS,oN,elimS_l,elimS_r,elimS_bind]) (fun _ _ _=>by kernel_rfl)
def T58c (F:Nat) (p0:List Zc) (p1:Int) (p2:List UInt8) {β:Type} (k:Zh->Option β):Option β:=
 (Option.bind (T114 F (p0.length:Int) p1 p2) fun z12=>(Option.bind (iter (fun s=>L58_2 F p0 (p0.length:Int) s.1 s.2.1 s.2.2) F ((0:Int),z12.1,z12.2)) fun z22=>(k (z22.1,z22.2))))
def T58 (F:Nat) (p0:List Zc) (p1:Int) (p2:List UInt8):=T58c F p0 p1 p2 some
def ct58 (F:Nat):Ct:=mkC 3 [(.pt 0 []),(.ro (.pr .s (.pr .i (.pr .i .un)))),(.fn 54 .un (.pr (.pt 1 []) .un))] [.blk 166 (.pr (.rw 2) (.pr .i .un)),.blk 81 (.pt 0 []),.row 5 .u8] [] [.blk 166 (.pr (.rw 3) (.pr .i .un)),.blk 81 (.pt 0 []),.no,.row 5 .u8] (fun x y=>T58 F x.2.1 y.1.2.1 y.2.2.1) (fun x y (z:Int×Za)=>((),(((),z.1,()),(),(),z.2,())))
theorem ok58 (F:Nat):Sound Tryz.prog cfg 58 (ct58 F):=
 mkC_ok (E:=E58 F) (lp:=[([1,1],lc58_2 F)]) (code:=bodyOf Tryz.f58) Tryz.func58 rfl Tryz.ntmps58 rfl rfl cok (cts58 F) mixed ⟨lo58_2 F,trivial⟩ (by kernel_rfl) (fun x y k=>T58c F x.2.1 y.1.2.1 y.2.2.1 k) (fun _ _ _=>by simp only [T58,T58c,oA,oC,oS,oN,elimS_bind]) (fun _ _=>by kernel_rfl)
def E56 (F:Nat):Ev:=⟨cfg,24,ctOf [(57,ct57 F),(45,ct45x1 F),(58,ct58 F)],fun _=>[],ctOf [],fun _=>none,fun _=>none⟩
theorem cts56 (F:Nat):CtsOk Tryz.prog (E56 F):=cts_of (l:=[(57,ct57 F),(45,ct45x1 F),(58,ct58 F)]) (l':=[]) rfl rfl ⟨⟨ok57 F,_,Tryz.func57,rfl,rfl⟩,⟨⟨ok45x1 F,_,Tryz.func45,rfl,rfl⟩,⟨⟨ok58 F,_,Tryz.func58,rfl,rfl⟩,trivial⟩⟩⟩ trivial
def T56c (F:Nat) (p0:List UInt8) (p1:Int) (p2:Int) (p3:Int) (p4:Int) (p5:List Zc) (p6:Int) (p7:List UInt8) {β:Type} (k:Zh->Option β):Option β:=
 (Option.bind (T57 F p0 p6 p7) fun z4=>(Option.bind (T45x1 F ([p1,p2,p3,p4]:List Int) z4.1 z4.2) fun z5=>(Option.bind (T58 F p5 z4.1 z5) fun z6=>(k (z6.1,z6.2)))))
def T56 (F:Nat) (p0:List UInt8) (p1:Int) (p2:Int) (p3:Int) (p4:Int) (p5:List Zc) (p6:Int) (p7:List UInt8):=T56c F p0 p1 p2 p3 p4 p5 p6 p7 some
def ct56 (F:Nat):Ct:=mkC 4 [(.pr .str (.pr .i (.pr .i (.pr .i (.pr .i (.pr (.ro (.pr .s (.pr .i (.pr .i .un)))) .un)))))),(.pt 0 []),(.pt 1 [])] [.blk 81 (.pt 2 []),.blk 95 (.fn 54 .un (.pr (.pt 0 []) .un)),.blk 166 (.pr (.rw 3) (.pr .i .un)),.row 5 .u8] [] [.blk 81 (.pt 2 []),.blk 95 (.fn 54 .un (.pr (.pt 0 []) .un)),.blk 166 (.pr (.rw 4) (.pr .i .un)),.no,.row 5 .u8] (fun x y=>T56 F x.1.1 x.1.2.1 x.1.2.2.1 x.1.2.2.2.1 x.1.2.2.2.2.1 x.1.2.2.2.2.2.1 y.2.2.1.2.1 y.2.2.2.1) (fun x y (z:Int×Za)=>((),((),((),((),())),((),z.1,()),(),z.2,())))
theorem ok56 (F:Nat):Sound Tryz.prog cfg 56 (ct56 F):=
 mkC_ok (E:=E56 F) (lp:=[]) (code:=bodyOf Tryz.f56) Tryz.func56 rfl Tryz.ntmps56 rfl rfl cok (cts56 F) mixed trivial (by kernel_rfl) (fun x y k=>T56c F x.1.1 x.1.2.1 x.1.2.2.1 x.1.2.2.2.1 x.1.2.2.2.2.1 x.1.2.2.2.2.2.1 y.2.2.1.2.1 y.2.2.2.1 k) (fun _ _ _=>by simp only [T56,T56c,oA,oC,oS,oN,elimS_bind]) (fun _ _=>by kernel_rfl)
def E55 (F:Nat):Ev:=⟨cfg,22,ctOf [(114,ct114 F),(56,ct56 F)],fun _=>[],ctOf [],fun _=>none,fun _=>none⟩
theorem cts55 (F:Nat):CtsOk Tryz.prog (E55 F):=cts_of (l:=[(114,ct114 F),(56,ct56 F)]) (l':=[]) rfl rfl ⟨⟨ok114 F,_,Tryz.func114,rfl,rfl⟩,⟨⟨ok56 F,_,Tryz.func56,rfl,rfl⟩,trivial⟩⟩ trivial
def L55_2c (F:Nat) (y13:List Zf) (y14:Int) (y15:Int) (y16:Int) (y17:List UInt8) {β:Type} (kA:(Int×Int×Za)->Option β) (kO:Zh->Option β):Option β:=
 (bif (decide (y15 < y14)) then (Option.bind (ix y13 y15) fun x20=>(Option.bind (T56 F x20.1 x20.2.1 x20.2.2.1 x20.2.2.2.1 x20.2.2.2.2.1 x20.2.2.2.2.2.1 y16 y17) fun z21=>(kA ((w64 (y15 + (1:Int))),z21.1,z21.2)))) else (kO (y16,y17)))
def L55_2 (F:Nat) (y13:List Zf) (y14:Int) (y15:Int) (y16:Int) (y17:List UInt8):=L55_2c F y13 y14 y15 y16 y17 (fun s=>some (Sum.inl s)) (fun z=>some (Sum.inr z))
def lc55_2 (F:Nat):Lc:=mkL [2,12,13,14] [(.fn 56 .un (.pr (.pt 1 []) (.pr (.pt 2 []) .un))),(.ro (.pr .s (.pr .i (.pr .i (.pr .i (.pr .i (.pr (.sl (.pr .s (.pr .i (.pr .i .un)))) .un))))))),.i,.i] [.blk 166 (.pr (.rw 4) (.pr .i .un)),.blk 81 (.pt 0 []),.blk 95 (.fn 54 .un (.pr (.pt 1 []) .un)),.no,.row 5 .u8] [] [] [.blk 166 (.pr (.rw 4) (.pr .i .un)),.blk 81 (.pt 0 []),.blk 95 (.fn 54 .un (.pr (.pt 1 []) .un)),.no,.row 5 .u8] F (fun x y (s:Int×Int×Za)=>L55_2 F x.2.1 x.2.2.1 s.1 s.2.1 s.2.2) (fun x y=>(x.2.2.2.1,y.1.2.1,y.2.2.2.2.1)) (fun x y (z:Int×Za)=>((),(((),z.1,()),(),((),((),())),(),z.2,())))
theorem lo55_2 (F:Nat):LcOk Tryz.prog (E55 F) 4 (lc55_2 F) (cAt (bodyOf Tryz.f55) [1,1]):=
 mkL_ok (lp:=[]) (id:=0) (b:=cAt (bodyOf Tryz.f55) (0 :: 0 :: [1,1])) cok (cts55 F) mixed trivial (by kernel_rfl) (by kernel_rfl) (fun x y s=>(((),((),(),())),x.2.1,x.2.2.1,s.1,())) (fun x y s=>(((),s.2.1,()),(),((),((),())),(),s.2.2,())) (fun x y=>rfl) (fun x y=>rfl) (fun x y s kA kO=>L55_2c F x.2.1 x.2.2.1 s.1 s.2.1 s.2.2 kA kO) (fun _ _ _ _ _=>by simp only [L55_2,L55_2c,oA,oC,oS,oN,elimS_l,elimS_r,elimS_bind]) (fun _ _ _=>by kernel_rfl)
def T55c (F:Nat) (p0:List Zf) (p1:Int) (p2:List UInt8) {β:Type} (k:Zh->Option β):Option β:=
 (Option.bind (T114 F (p0.length:Int) p1 p2) fun z12=>(Option.bind (iter (fun s=>L55_2 F p0 (p0.length:Int) s.1 s.2.1 s.2.2) F ((0:Int),z12.1,z12.2)) fun z22=>(k (z22.1,z22.2))))
def T55 (F:Nat) (p0:List Zf) (p1:Int) (p2:List UInt8):=T55c F p0 p1 p2 some
def ct55 (F:Nat):Ct:=mkC 4 [(.pt 0 []),(.ro (.pr .s (.pr .i (.pr .i (.pr .i (.pr .i (.pr (.sl (.pr .s (.pr .i (.pr .i .un)))) .un))))))),(.fn 56 .un (.pr (.pt 1 []) (.pr (.pt 2 []) .un)))] [.blk 166 (.pr (.rw 3) (.pr .i .un)),.blk 81 (.pt 0 []),.blk 95 (.fn 54 .un (.pr (.pt 1 []) .un)),.row 5 .u8] [] [.blk 166 (.pr (.rw 4) (.pr .i .un)),.blk 81 (.pt 0 []),.blk 95 (.fn 54 .un (.pr (.pt 1 []) .un)),.no,.row 5 .u8] (fun x y=>T55 F x.2.1 y.1.2.1 y.2.2.2.1) (fun x y (z:Int×Za)=>((),(((),z.1,()),(),((),((),())),(),z.2,())))
theorem ok55 (F:Nat):Sound Tryz.prog cfg 55 (ct55 F):=
 mkC_ok (E:=E55 F) (lp:=[([1,1],lc55_2 F)]) (code:=bodyOf Tryz.f55) Tryz.func55 rfl Tryz.ntmps55 rfl rfl cok (cts55 F) mixed ⟨lo55_2 F,trivial⟩ (by kernel_rfl) (fun x y k=>T55c F x.2.1 y.1.2.1 y.2.2.2.1 k) (fun _ _ _=>by simp only [T55,T55c,oA,oC,oS,oN,elimS_bind]) (fun _ _=>by kernel_rfl)
def ord59:Nat->List (Tag×Nat)
 | 2=>[(.p,0),(.p,1),(.p,2),(.r,3),(.p,4),(.p,5)]
 | _=>[]
def E59 (F:Nat):Ev:=⟨cfg,25,ctOf [],ord59,ctOf [],fun _=>none,fun _=>none⟩
theorem cts59 (F:Nat):CtsOk Tryz.prog (E59 F):=cts_of (l:=[]) (l':=[]) rfl rfl trivial trivial
def T59c (F:Nat) (p0:Int) (p1:List UInt8) {β:Type} (k:Zh->Option β):Option β:=
 (bif (p0 != (0:Int)) then (k (p0,([]:List UInt8))) else (bif (decide ((1048576:Int) < (p1.length:Int))) then (k ((2:Int),([]:List UInt8))) else (Option.bind (gapp ([]:List UInt8) p1) fun x2=>(k ((0:Int),x2)))))
def T59 (F:Nat) (p0:Int) (p1:List UInt8):=T59c F p0 p1 some
def ct59 (F:Nat):Ct:=mkC 2 [(.pt 0 [])] [.blk 166 (.pr (.rw 1) (.pr .i .un)),.row 5 .u8] [(.rw 2),.i] [.blk 166 (.pr (.rw 1) (.pr .i .un)),.row 5 .u8,.row 5 .u8] (fun x y=>T59 F y.1.2.1 y.2.1) (fun x y (z:Int×Za)=>(((),z.1,()),(((),y.1.2.1,()),y.2.1,z.2,())))
theorem ok59 (F:Nat):Sound Tryz.prog cfg 59 (ct59 F):=
 mkC_ok (E:=E59 F) (lp:=[]) (code:=bodyOf Tryz.f59) Tryz.func59 rfl Tryz.ntmps59 rfl rfl cok (cts59 F) mixed trivial (by kernel_rfl) (fun x y k=>T59c F y.1.2.1 y.2.1 k) (fun _ _ _=>by simp only [T59,T59c,oA,oC,oS,oN,elimS_bind]) (fun _ _=>by kernel_rfl)
def E19 (F:Nat):Ev:=⟨cfg,53,ctOf [(43,ct43 F),(44,ct44 F),(45,ct45 F),(46,ct46 F),(49,ct49 F),(55,ct55 F),(58,ct58 F),(59,ct59 F)],fun _=>[],ctOf [],fun _=>none,fun _=>none⟩
theorem cts19 (F:Nat):CtsOk Tryz.prog (E19 F):=cts_of (l:=[(43,ct43 F),(44,ct44 F),(45,ct45 F),(46,ct46 F),(49,ct49 F),(55,ct55 F),(58,ct58 F),(59,ct59 F)]) (l':=[]) rfl rfl ⟨⟨ok43 F,_,Tryz.func43,rfl,rfl⟩,⟨⟨ok44 F,_,Tryz.func44,rfl,rfl⟩,⟨⟨ok45 F,_,Tryz.func45,rfl,rfl⟩,⟨⟨ok46 F,_,Tryz.func46,rfl,rfl⟩,⟨⟨ok49 F,_,Tryz.func49,rfl,rfl⟩,⟨⟨ok55 F,_,Tryz.func55,rfl,rfl⟩,⟨⟨ok58 F,_,Tryz.func58,rfl,rfl⟩,⟨⟨ok59 F,_,Tryz.func59,rfl,rfl⟩,trivial⟩⟩⟩⟩⟩⟩⟩⟩ trivial
def T19c (F:Nat) (p0:Int) (p1:Int) (p2:List Int) (p3:List Zd) (p4:List Zf) (p5:List Zc) {β:Type} (k:Zh->Option β):Option β:=
 (Option.bind (T43 F p0 p1 p2 p3 p4 p5) fun z9=>(bif (!z9) then (k ((1:Int),([]:List UInt8))) else (Option.bind (T44 F) fun z10=>(Option.bind (T45 F ([p0,p1]:List Int) z10) fun z11=>(Option.bind (T46 F p2 z10 z11) fun z12=>(Option.bind (T49 F p3 z12.1 z12.2) fun z13=>(Option.bind (T55 F p4 z13.1 z13.2) fun z14=>(Option.bind (T58 F p5 z14.1 z14.2) fun z15=>(Option.bind (T59 F z15.1 z15.2) fun z16=>(bif (z16.1 != (0:Int)) then (k ((2:Int),([]:List UInt8))) else (bif (decide ((1048560:Int) < (z16.2.length:Int))) then (k ((2:Int),([]:List UInt8))) else (k ((0:Int),z16.2)))))))))))))
def T19 (F:Nat) (p0:Int) (p1:Int) (p2:List Int) (p3:List Zd) (p4:List Zf) (p5:List Zc):=T19c F p0 p1 p2 p3 p4 p5 some
def ct19 (F:Nat):Ct:=mkC 0 [(.pr .i (.pr .i (.pr (.ro .i) (.pr (.ro (.pr .i (.pr .i (.pr .i (.pr (.pr .s (.pr .i (.pr .i .un))) (.pr .i (.pr .i (.pr .s (.pr .bo .un))))))))) (.pr (.ro (.pr .s (.pr .i (.pr .i (.pr .i (.pr .i (.pr (.sl (.pr .s (.pr .i (.pr .i .un)))) .un))))))) (.pr (.ro (.pr .s (.pr .i (.pr .i .un)))) .un))))))] [] [(.rw 0),.i] [.row 5 .u8] (fun x y=>T19 F x.1.1 x.1.2.1 x.1.2.2.1 x.1.2.2.2.1 x.1.2.2.2.2.1 x.1.2.2.2.2.2.1) (fun x y (z:Int×Za)=>(((),z.1,()),(z.2,())))
theorem ok19 (F:Nat):Sound Tryz.prog cfg 19 (ct19 F):=
 mkC_ok (E:=E19 F) (lp:=[]) (code:=bodyOf Tryz.f19) Tryz.func19 rfl Tryz.ntmps19 rfl rfl cok (cts19 F) mixed trivial (by kernel_rfl) (fun x y k=>T19c F x.1.1 x.1.2.1 x.1.2.2.1 x.1.2.2.2.1 x.1.2.2.2.2.1 x.1.2.2.2.2.2.1 k) (fun _ _ _=>by simp only [T19,T19c,oA,oC,oS,oN,elimS_bind]) (fun _ _=>by kernel_rfl)
def E26 (F:Nat):Ev:=⟨cfg,16,ctOf [],fun _=>[],ctOf [],fun _=>none,fun _=>none⟩
theorem cts26 (F:Nat):CtsOk Tryz.prog (E26 F):=cts_of (l:=[]) (l':=[]) rfl rfl trivial trivial
def L26_2c (F:Nat) (y4:Int) (y5:Int) {β:Type} (kA:Int->Option β) (kO:Int->Option β):Option β:=
 (bif (decide (y5 < (w64 (y4 + (10:Int))))) then (kA (w64 (y5 * (2:Int)))) else (kO y5))
def L26_2 (F:Nat) (y4:Int) (y5:Int):=L26_2c F y4 y5 (fun s=>some (Sum.inl s)) (fun z=>some (Sum.inr z))
def lc26_2 (F:Nat):Lc:=mkL [0,4] [.i,.i] [] [4] [.i] [] F (fun x y (s:Int)=>L26_2 F x.1 s) (fun x y=>x.2.1) (fun x y (z:Int)=>((z,()),()))
theorem lo26_2 (F:Nat):LcOk Tryz.prog (E26 F) 0 (lc26_2 F) (cAt (bodyOf Tryz.f26) [0,1,1,1,1]):=
 mkL_ok (lp:=[]) (id:=0) (b:=cAt (bodyOf Tryz.f26) (0 :: 0 :: [0,1,1,1,1])) cok (cts26 F) mixed trivial (by kernel_rfl) (by kernel_rfl) (fun x y s=>(x.1,s,())) (fun x y s=>()) (fun x y=>rfl) (fun x y=>rfl) (fun x y s kA kO=>L26_2c F x.1 s kA kO) (fun _ _ _ _ _=>by simp only [L26_2,L26_2c,oA,oC,oS,oN,elimS_l,elimS_r,elimS_bind]) (fun _ _ _=>by kernel_rfl)
def T26c (F:Nat) (p0:Int) {β:Type} (k:(Int×Int)->Option β):Option β:=
 (bif (decide (p0 < (0:Int))) then (k ((0:Int),(1:Int))) else (bif (decide ((1048560:Int) < p0)) then (k ((0:Int),(2:Int))) else (Option.bind (iter (fun s=>L26_2 F p0 s) F (1024:Int)) fun z6=>(k (z6,(0:Int))))))
def T26 (F:Nat) (p0:Int):=T26c F p0 some
def ct26 (F:Nat):Ct:=mkC 0 [.i] [] [.i,.i] [] (fun x y=>T26 F x.1) (fun x y (z:Int×Int)=>((z.1,z.2,()),()))
theorem ok26 (F:Nat):Sound Tryz.prog cfg 26 (ct26 F):=
 mkC_ok (E:=E26 F) (lp:=[([0,1,1,1,1],lc26_2 F)]) (code:=bodyOf Tryz.f26) Tryz.func26 rfl Tryz.ntmps26 rfl rfl cok (cts26 F) mixed ⟨lo26_2 F,trivial⟩ (by kernel_rfl) (fun x y k=>T26c F x.1 k) (fun _ _ _=>by simp only [T26,T26c,oA,oC,oS,oN,elimS_bind]) (fun _ _=>by kernel_rfl)
def ord10:Nat->List (Tag×Nat)
 | 2=>[]
 | 5=>[(.p,0),(.p,1),(.p,2),(.p,3),(.r,4),(.p,5),(.r,6),(.p,7),(.p,8),(.p,9),(.p,10),(.r,11),(.p,12),(.p,13),(.p,14),(.p,15),(.p,16),(.p,17),(.p,18),(.p,19),(.p,20),(.p,21),(.p,22),(.p,23),(.p,24),(.p,25),(.p,26),(.p,27),(.r,28),(.p,29),(.p,30),(.p,31),(.p,32),(.p,33),(.p,34),(.c,35),(.c,36),(.w,37),(.p,38),(.p,39),(.p,40),(.p,41),(.p,42),(.p,43),(.p,44),(.p,45),(.p,46),(.p,47),(.p,48),(.p,49),(.p,50),(.p,51),(.p,52),(.p,53),(.p,54),(.p,55),(.p,56),(.p,57)]
 | _=>[]
def ms10:Nat->Option (List (Option Tag×Nat×List Nat))
 | 2=>some [(some .w,0,[1,2]),(none,1,[2]),(none,2,[]),(some .w,3,[]),(some .p,4,[]),(some .p,5,[]),(some .p,6,[]),(some .p,7,[]),(some .p,8,[])]
 | _=>none
def E10 (F:Nat):Ev:=⟨cfg,87,ctOf [(13,ct13 F),(12,ct12 F),(27,ct27 F),(19,ct19 F),(26,ct26 F)],ord10,ctOf [],fun _=>none,ms10⟩
theorem cts10 (F:Nat):CtsOk Tryz.prog (E10 F):=cts_of (l:=[(13,ct13 F),(12,ct12 F),(27,ct27 F),(19,ct19 F),(26,ct26 F)]) (l':=[]) rfl rfl ⟨⟨ok13 F,_,Tryz.func13,rfl,rfl⟩,⟨⟨ok12 F,_,Tryz.func12,rfl,rfl⟩,⟨⟨ok27 F,_,Tryz.func27,rfl,rfl⟩,⟨⟨ok19 F,_,Tryz.func19,rfl,rfl⟩,⟨⟨ok26 F,_,Tryz.func26,rfl,rfl⟩,trivial⟩⟩⟩⟩⟩ trivial
def T10c (F:Nat) {β:Type} (k:Bool->Option β):Option β:=
 (Option.bind (T13 F (UInt8.ofNat 1)) fun z12=>(Option.bind (T12 F z12) fun z13=>(Option.bind (T13 F (UInt8.ofNat 1)) fun z14=>(Option.bind (T27 F z14 (2:Int) ([(0:Int),(3:Int),(5:Int)]:List Int) (List.replicate 32 (0:UInt8))) fun z15=>(Option.bind (T19 F (0:Int) (0:Int) ([]:List Int) ([]:List Zd) ([]:List Zf) ([]:List Zc)) fun z16=>(Option.bind (T26 F (1015:Int)) fun z17=>(bif (z13.2.2.2.2.2 == (0:Int)) then (bif (z13.1 != z13.2.1) then (bif ((z13.2.2.2.2.1.length:Int) == (32:Int)) then (bif (z15.1 == (0:Int)) then (bif ((z15.2.length:Int) == (3:Int)) then (Option.bind (inb z15.2.length (1:Int)) fun x18=>(Option.bind (z15.2[x18]?) fun x19=>(bif (x19.1 == (4:Int)) then (Option.bind (inb z15.2.length (1:Int)) fun x20=>(Option.bind (z15.2[x20]?) fun x21=>(Option.bind (T13 F (UInt8.ofNat 1)) fun z22=>(bif (x21.2.1 == z22) then (bif (z16.1 == (0:Int)) then (bif ((z16.2.length:Int) == (6:Int)) then (bif (z17.1 == (2048:Int)) then (k (z17.2 == (0:Int))) else (k false)) else (k false)) else (k false)) else (k false))))) else (k false)))) else (k false)) else (k false)) else (k false)) else (k false)) else (k false))))))))
def T10 (F:Nat):=T10c F some
def ct10 (F:Nat):Ct:=mkC 0 [] [] [.bo] [] (fun x y=>T10 F) (fun x y (z:Bool)=>((z,()),()))
theorem ok10 (F:Nat):Sound Tryz.prog cfg 10 (ct10 F):=
 mkC_ok (E:=E10 F) (lp:=[]) (code:=bodyOf Tryz.f10) Tryz.func10 rfl Tryz.ntmps10 rfl rfl cok (cts10 F) mixed trivial (by kernel_rfl) (fun x y k=>T10c F k) (fun _ _ _=>by simp only [T10,T10c,oA,oC,oS,oN,elimS_bind]) (fun _ _=>by kernel_rfl)
def E16 (F:Nat):Ev:=⟨cfg,20,ctOf [],fun _=>[],ctOf [],fun _=>none,fun _=>none⟩
theorem cts16 (F:Nat):CtsOk Tryz.prog (E16 F):=cts_of (l:=[]) (l':=[]) rfl rfl trivial trivial
def L16_2c (F:Nat) (y6:List Zb) (y7:Int) {β:Type} (kA:Int->Option β) (kO:Unit->Option β) (kR:Bool->Option β):Option β:=
 (bif (decide (y7 < (y6.length:Int))) then (Option.bind (ix y6 y7) fun x9=>(bif (decide ((64:Int) < (x9.2.1.length:Int))) then (kR false) else (kA (w64 (y7 + (1:Int)))))) else (kO ()))
def L16_2 (F:Nat) (y6:List Zb) (y7:Int):Option ((Int) ⊕ ((Unit) ⊕ (Bool))):=L16_2c F y6 y7 (fun s=>some (.inl s)) (fun z=>some (.inr (.inl z))) (fun z=>some (.inr (.inr z)))
theorem L16_2n (F:Nat) (y6:List Zb) (y7:Int) {β:Type} (kA:Int->Option β) (kO:Unit->Option β) (kR:Bool->Option β):L16_2c F y6 y7 kA kO kR=(L16_2 F y6 y7).bind (elimS kA (elimS kO kR)):=by
 simp only [L16_2,L16_2c,oA,oC,oS,oN,elimS_l,elimS_r,elimS_bind]
def lc16_2 (F:Nat):Lc:=mkR [0,3] [(.ro (.pr .i (.pr (.sl .u8) .un))),.i] [] [0] [(.ro (.pr .i (.pr (.sl .u8) .un)))] [] [2] [.bo] [] F (fun x y (s:Int)=>L16_2 F x.1 s) (fun x y=>x.2.1) (fun x y (z:Unit)=>((x.1,()),())) (fun x y (z:Bool)=>((z,()),()))
theorem lo16_2 (F:Nat):LcOk Tryz.prog (E16 F) 0 (lc16_2 F) (cAt (bodyOf Tryz.f16) [1,0,1]):=
 mkR_ok (lp:=[]) (id:=0) (b:=cAt (bodyOf Tryz.f16) (0 :: 0 :: [1,0,1])) cok (cts16 F) mixed trivial (by kernel_rfl) (by kernel_rfl) (fun x y s=>(x.1,s,())) (fun x y s=>()) (fun x y=>rfl) (fun x y=>rfl) (fun x y s kA kO kR=>L16_2c F x.1 s kA kO kR) (fun x y s kA kO kR=>L16_2n F x.1 s kA kO kR) (fun _ _ _=>by kernel_rfl)
def T16wc (F:Nat) (p0:List Zb) {β:Type} (k:Bool->Option β):Option β:=
 (Option.bind (iter (fun s=>L16_2 F p0 s) F (0:Int)) fun z10=>elimS (fun z10=>(k (decide ((p0.length:Int)≤(8:Int))))) (fun z10=>(k z10)) z10)
def T16w (F:Nat) (p0:List Zb):=T16wc F p0 some
abbrev cA16:List Sh:=[(.ro (.pr .i (.pr (.sl .u8) .un)))]
abbrev cB16:List Sh:=[.bo]
abbrev cT16:List TSh:=[]
abbrev cU16:List TSh:=[]
def ct16w (F:Nat):Ct:=mkC 0 cA16 cT16 cB16 cU16 (fun x y=>T16w F x.1) (fun x y (z:Bool)=>((z,()),()))
theorem ok16w (F:Nat):Sound Tryz.prog cfg 16 (ct16w F):=
 mkC_ok (E:=E16 F) (lp:=[([1,0,1],lc16_2 F)]) (code:=bodyOf Tryz.f16) Tryz.func16 rfl Tryz.ntmps16 rfl rfl cok (cts16 F) mixed ⟨lo16_2 F,trivial⟩ (by kernel_rfl) (fun x y k=>T16wc F x.1 k) (fun _ _ _=>by simp only [T16w,T16wc,oA,oC,oS,oN,elimS_bind]) (fun _ _=>by kernel_rfl)
def T16 (F:Nat) (p0:List Zb):Option (Bool):=T16w (F + p0.length) p0
def ct16 (F:Nat):Ct:=mkC 0 cA16 cT16 cB16 cU16 (fun x y=>T16 F x.1) (fun x y (z:Bool)=>((z,()),()))
theorem ok16 (F:Nat):Sound Tryz.prog cfg 16 (ct16 F):=sound_fuel (m:=0) (A:=cA16) (T:=cT16) (B:=cB16) (U:=cU16) (e:=(fun x y (z:Bool)=>((z,()),()))) (fun (x:dens cA16) (y:tdens cT16)=>F + (x.1).length) (fun F (x:dens cA16) (y:tdens cT16)=>T16w F x.1) ok16w
def ord183:Nat->List (Tag×Nat)
 | 5=>[(.p,0),(.r,1),(.p,2),(.p,3),(.p,4),(.p,5),(.r,6),(.p,7),(.p,8),(.p,9),(.p,10),(.r,11),(.p,12),(.p,13),(.p,14)]
 | _=>[]
def E183 (F:Nat):Ev:=⟨cfg,35,ctOf [(137,ct137 F)],ord183,ctOf [],fun _=>none,fun _=>none⟩
theorem cts183 (F:Nat):CtsOk Tryz.prog (E183 F):=cts_of (l:=[(137,ct137 F)]) (l':=[]) rfl rfl ⟨⟨ok137 F,_,Tryz.func137,rfl,rfl⟩,trivial⟩ trivial
def L183_2c (F:Nat) (y28:List Zb) (y29:List Zb) (y30:Int) (y31:Int) (y32:List Int) {β:Type} (kA:(Int×Zk)->Option β) (kO:(Zk)->Option β) (kR:Bool->Option β):Option β:=
 (bif (decide (y31 < y30)) then (Option.bind (ix y29 y31) fun x36=>(Option.bind (ix y28 (0:Int)) fun x37=>(bif ((x36.2.1.length:Int) != (x37.2.1.length:Int)) then (kR false) else (bif (decide ((1024:Int) < (x36.2.1.length:Int))) then (kR false) else (Option.bind (gapp y32 ([x36.1]:List Int)) fun x38=>(kA ((w64 (y31 + (1:Int))),x38))))))) else (kO y32))
def L183_2 (F:Nat) (y28:List Zb) (y29:List Zb) (y30:Int) (y31:Int) (y32:List Int):Option ((Int×Zk) ⊕ ((Zk) ⊕ (Bool))):=L183_2c F y28 y29 y30 y31 y32 (fun s=>some (.inl s)) (fun z=>some (.inr (.inl z))) (fun z=>some (.inr (.inr z)))
theorem L183_2n (F:Nat) (y28:List Zb) (y29:List Zb) (y30:Int) (y31:Int) (y32:List Int) {β:Type} (kA:(Int×Zk)->Option β) (kO:(Zk)->Option β) (kR:Bool->Option β):L183_2c F y28 y29 y30 y31 y32 kA kO kR=(L183_2 F y28 y29 y30 y31 y32).bind (elimS kA (elimS kO kR)):=by
 simp only [L183_2,L183_2c,oA,oC,oS,oN,elimS_l,elimS_r,elimS_bind]
def lc183_2 (F:Nat):Lc:=mkR [0,3,6,7,8] [(.ro (.pr .i (.pr (.sl .u8) .un))),(.rw 0),(.ro (.pr .i (.pr (.sl .u8) .un))),.i,.i] [.row 3 .i] [3] [(.rw 0)] [.row 3 .i] [2] [.bo] [] F (fun x y (s:Int×Zk)=>L183_2 F x.1 x.2.2.1 x.2.2.2.1 s.1 s.2) (fun x y=>(x.2.2.2.2.1,y.1)) (fun x y (z:Zk)=>(((),()),(z,()))) (fun x y (z:Bool)=>((z,()),()))
theorem lo183_2 (F:Nat):LcOk Tryz.prog (E183 F) 0 (lc183_2 F) (cAt (bodyOf Tryz.f183) [1,0,1,1]):=
 mkR_ok (lp:=[]) (id:=0) (b:=cAt (bodyOf Tryz.f183) (0 :: 0 :: [1,0,1,1])) cok (cts183 F) mixed trivial (by kernel_rfl) (by kernel_rfl) (fun x y s=>(x.1,(),x.2.2.1,x.2.2.2.1,s.1,())) (fun x y s=>(s.2,())) (fun x y=>rfl) (fun x y=>rfl) (fun x y s kA kO kR=>L183_2c F x.1 x.2.2.1 x.2.2.2.1 s.1 s.2 kA kO kR) (fun x y s kA kO kR=>L183_2n F x.1 x.2.2.1 x.2.2.2.1 s.1 s.2 kA kO kR) (fun _ _ _=>by kernel_rfl)
def T183c (F:Nat) (p0:List Zb) {β:Type} (k:Bool->Option β):Option β:=
 (Option.bind (iter (fun s=>L183_2 F p0 p0 (p0.length:Int) s.1 s.2) F ((0:Int),([]:List Int))) fun z39=>elimS (fun z39=>(Option.bind (T137 F z39) fun z40=>(k z40))) (fun z39=>(k z39)) z39)
def T183 (F:Nat) (p0:List Zb):=T183c F p0 some
def ct183 (F:Nat):Ct:=mkC 0 [(.ro (.pr .i (.pr (.sl .u8) .un)))] [] [.bo] [] (fun x y=>T183 F x.1) (fun x y (z:Bool)=>((z,()),()))
theorem ok183 (F:Nat):Sound Tryz.prog cfg 183 (ct183 F):=
 mkC_ok (E:=E183 F) (lp:=[([1,0,1,1],lc183_2 F)]) (code:=bodyOf Tryz.f183) Tryz.func183 rfl Tryz.ntmps183 rfl rfl cok (cts183 F) mixed ⟨lo183_2 F,trivial⟩ (by kernel_rfl) (fun x y k=>T183c F x.1 k) (fun _ _ _=>by simp only [T183,T183c,oA,oC,oS,oN,elimS_bind]) (fun _ _=>by kernel_rfl)
def E184 (F:Nat):Ev:=⟨cfg,9,ctOf [],fun _=>[],ctOf [],fun _=>none,fun _=>none⟩
theorem cts184 (F:Nat):CtsOk Tryz.prog (E184 F):=cts_of (l:=[]) (l':=[]) rfl rfl trivial trivial
def T184c (F:Nat) (p0:Int) {β:Type} (k:Bool->Option β):Option β:=
 (bif (decide ((1:Int)≤p0)) then (k (decide (p0≤(16:Int)))) else (k false))
def T184 (F:Nat) (p0:Int):=T184c F p0 some
def ct184 (F:Nat):Ct:=mkC 0 [.i] [] [.bo] [] (fun x y=>T184 F x.1) (fun x y (z:Bool)=>((z,()),()))
theorem ok184 (F:Nat):Sound Tryz.prog cfg 184 (ct184 F):=
 mkC_ok (E:=E184 F) (lp:=[]) (code:=bodyOf Tryz.f184) Tryz.func184 rfl Tryz.ntmps184 rfl rfl cok (cts184 F) mixed trivial (by kernel_rfl) (fun x y k=>T184c F x.1 k) (fun _ _ _=>by simp only [T184,T184c,oA,oC,oS,oN,elimS_bind]) (fun _ _=>by kernel_rfl)
def E204 (F:Nat):Ev:=⟨cfg,17,ctOf [(186,ct186 F)],fun _=>[],ctOf [],fun _=>none,fun _=>none⟩
theorem cts204 (F:Nat):CtsOk Tryz.prog (E204 F):=cts_of (l:=[(186,ct186 F)]) (l':=[]) rfl rfl ⟨⟨ok186 F,_,Tryz.func186,rfl,rfl⟩,trivial⟩ trivial
def L204_2c (F:Nat) (y9:UInt8) (y10:UInt8) (y11:Int) {β:Type} (kA:(UInt8×UInt8×Int)->Option β) (kO:UInt8->Option β):Option β:=
 (bif (decide (y11 < (7:Int))) then (Option.bind (T186 F y9 y9) fun z14=>(Option.bind (T186 F y10 z14) fun z15=>(kA (z14,z15,(w64 (y11 + (1:Int))))))) else (kO y10))
def L204_2 (F:Nat) (y9:UInt8) (y10:UInt8) (y11:Int):=L204_2c F y9 y10 y11 (fun s=>some (Sum.inl s)) (fun z=>some (Sum.inr z))
def lc204_2 (F:Nat):Lc:=mkL [0,4,7] [.u8,.u8,.i] [] [4] [.u8] [] F (fun x y (s:UInt8×UInt8×Int)=>L204_2 F s.1 s.2.1 s.2.2) (fun x y=>(x.1,x.2.1,x.2.2.1)) (fun x y (z:UInt8)=>((z,()),()))
theorem lo204_2 (F:Nat):LcOk Tryz.prog (E204 F) 0 (lc204_2 F) (cAt (bodyOf Tryz.f204) [1,0,1,1,1]):=
 mkL_ok (lp:=[]) (id:=0) (b:=cAt (bodyOf Tryz.f204) (0 :: 0 :: [1,0,1,1,1])) cok (cts204 F) mixed trivial (by kernel_rfl) (by kernel_rfl) (fun x y s=>(s.1,s.2.1,s.2.2,())) (fun x y s=>()) (fun x y=>rfl) (fun x y=>rfl) (fun x y s kA kO=>L204_2c F s.1 s.2.1 s.2.2 kA kO) (fun _ _ _ _ _=>by simp only [L204_2,L204_2c,oA,oC,oS,oN,elimS_l,elimS_r,elimS_bind]) (fun _ _ _=>by kernel_rfl)
def T204c (F:Nat) (p0:UInt8) {β:Type} (k:(UInt8×Int)->Option β):Option β:=
 (bif (p0 == (UInt8.ofNat 0)) then (k ((UInt8.ofNat 0),(1:Int))) else (Option.bind (iter (fun s=>L204_2 F s.1 s.2.1 s.2.2) F (p0,(UInt8.ofNat 1),(0:Int))) fun z16=>(k (z16,(0:Int)))))
def T204 (F:Nat) (p0:UInt8):=T204c F p0 some
def ct204 (F:Nat):Ct:=mkC 0 [.u8] [] [.u8,.i] [] (fun x y=>T204 F x.1) (fun x y (z:UInt8×Int)=>((z.1,z.2,()),()))
theorem ok204 (F:Nat):Sound Tryz.prog cfg 204 (ct204 F):=
 mkC_ok (E:=E204 F) (lp:=[([1,0,1,1,1],lc204_2 F)]) (code:=bodyOf Tryz.f204) Tryz.func204 rfl Tryz.ntmps204 rfl rfl cok (cts204 F) mixed ⟨lo204_2 F,trivial⟩ (by kernel_rfl) (fun x y k=>T204c F x.1 k) (fun _ _ _=>by simp only [T204,T204c,oA,oC,oS,oN,elimS_bind]) (fun _ _=>by kernel_rfl)
def E187 (F:Nat):Ev:=⟨cfg,19,ctOf [(204,ct204 F),(186,ct186 F)],fun _=>[],ctOf [],fun _=>none,fun _=>none⟩
theorem cts187 (F:Nat):CtsOk Tryz.prog (E187 F):=cts_of (l:=[(204,ct204 F),(186,ct186 F)]) (l':=[]) rfl rfl ⟨⟨ok204 F,_,Tryz.func204,rfl,rfl⟩,⟨⟨ok186 F,_,Tryz.func186,rfl,rfl⟩,trivial⟩⟩ trivial
def T187c (F:Nat) (p0:UInt8) (p1:UInt8) {β:Type} (k:(UInt8×Int)->Option β):Option β:=
 (Option.bind (T204 F p1) fun z3=>(bif (z3.2 != (0:Int)) then (k ((UInt8.ofNat 0),z3.2)) else (Option.bind (T186 F p0 z3.1) fun z4=>(k (z4,(0:Int))))))
def T187 (F:Nat) (p0:UInt8) (p1:UInt8):=T187c F p0 p1 some
def ct187 (F:Nat):Ct:=mkC 0 [.u8,.u8] [] [.u8,.i] [] (fun x y=>T187 F x.1 x.2.1) (fun x y (z:UInt8×Int)=>((z.1,z.2,()),()))
theorem ok187 (F:Nat):Sound Tryz.prog cfg 187 (ct187 F):=
 mkC_ok (E:=E187 F) (lp:=[]) (code:=bodyOf Tryz.f187) Tryz.func187 rfl Tryz.ntmps187 rfl rfl cok (cts187 F) mixed trivial (by kernel_rfl) (fun x y k=>T187c F x.1 x.2.1 k) (fun _ _ _=>by simp only [T187,T187c,oA,oC,oS,oN,elimS_bind]) (fun _ _=>by kernel_rfl)
def E150 (F:Nat):Ev:=⟨cfg,69,ctOf [(186,ct186 F),(187,ct187 F),(171,ct171 F)],fun _=>[],ctOf [],fun _=>none,fun _=>none⟩
theorem cts150 (F:Nat):CtsOk Tryz.prog (E150 F):=cts_of (l:=[(186,ct186 F),(187,ct187 F),(171,ct171 F)]) (l':=[]) rfl rfl ⟨⟨ok186 F,_,Tryz.func186,rfl,rfl⟩,⟨⟨ok187 F,_,Tryz.func187,rfl,rfl⟩,⟨⟨ok171 F,_,Tryz.func171,rfl,rfl⟩,trivial⟩⟩⟩ trivial
def L150_4c (F:Nat) (y52:Int) (y53:Int) (y59:List Zb) (y60:Int) (y63:Int) (y54:UInt8) (y55:UInt8) (y61:Int) {β:Type} (kA:(UInt8×UInt8×Int)->Option β) (kO:(UInt8×UInt8)->Option β):Option β:=
 (bif (decide (y61 < y60)) then (Option.bind (ix y59 y61) fun x68=>(bif (y61 != y53) then (Option.bind (T186 F y54 (UInt8.ofInt (ixor y52 x68.1))) fun z69=>(Option.bind (T186 F y55 (UInt8.ofInt (ixor y63 x68.1))) fun z70=>(kA (z69,z70,(w64 (y61 + (1:Int))))))) else (kA (y54,y55,(w64 (y61 + (1:Int))))))) else (kO (y54,y55)))
def L150_4 (F:Nat) (y52:Int) (y53:Int) (y59:List Zb) (y60:Int) (y63:Int) (y54:UInt8) (y55:UInt8) (y61:Int):=L150_4c F y52 y53 y59 y60 y63 y54 y55 y61 (fun s=>some (Sum.inl s)) (fun z=>some (Sum.inr z))
def lc150_4 (F:Nat):Lc:=mkL [0,1,5,6,7,8,9,20,21,22,27,28,29] [(.ro (.pr .i (.pr (.sl .u8) .un))),.i,(.rw 0),.i,(.pt 1 []),.u8,.u8,(.ro (.pr .i (.pr (.sl .u8) .un))),.i,.i,(.ro (.pr .i (.pr (.sl .u8) .un))),.i,.i] [.row 5 .u8,.blk 59 (.pr .i (.pr (.ro .u8) .un))] [0,1,5,7,8,9,20,21,22] [(.ro (.pr .i (.pr (.sl .u8) .un))),.i,(.rw 0),(.pt 1 []),.u8,.u8,(.ro (.pr .i (.pr (.sl .u8) .un))),.i,.i] [.row 5 .u8,.blk 59 (.pr .i (.pr (.ro .u8) .un))] F (fun x y (s:UInt8×UInt8×Int)=>L150_4 F x.2.1 x.2.2.2.1 x.2.2.2.2.2.2.2.2.2.2.1 x.2.2.2.2.2.2.2.2.2.2.2.1 y.2.1.1 s.1 s.2.1 s.2.2) (fun x y=>(x.2.2.2.2.2.1,x.2.2.2.2.2.2.1,x.2.2.2.2.2.2.2.2.2.2.2.2.1)) (fun x y (z:UInt8×UInt8)=>((x.1,x.2.1,(),(),z.1,z.2,x.2.2.2.2.2.2.2.1,x.2.2.2.2.2.2.2.2.1,x.2.2.2.2.2.2.2.2.2.1,()),(y.1,(y.2.1.1,y.2.1.2.1,()),())))
theorem lo150_4 (F:Nat):LcOk Tryz.prog (E150 F) 0 (lc150_4 F) (cAt (bodyOf Tryz.f150) [1,0,1,1,0,0,1,1,0,0,1,0,1,1]):=
 mkL_ok (lp:=[]) (id:=2) (b:=cAt (bodyOf Tryz.f150) (0 :: 0 :: [1,0,1,1,0,0,1,1,0,0,1,0,1,1])) cok (cts150 F) mixed trivial (by kernel_rfl) (by kernel_rfl) (fun x y s=>(x.1,x.2.1,(),x.2.2.2.1,(),s.1,s.2.1,x.2.2.2.2.2.2.2.1,x.2.2.2.2.2.2.2.2.1,x.2.2.2.2.2.2.2.2.2.1,x.2.2.2.2.2.2.2.2.2.2.1,x.2.2.2.2.2.2.2.2.2.2.2.1,s.2.2,())) (fun x y s=>(y.1,(y.2.1.1,y.2.1.2.1,()),())) (fun x y=>rfl) (fun x y=>rfl) (fun x y s kA kO=>L150_4c F x.2.1 x.2.2.2.1 x.2.2.2.2.2.2.2.2.2.2.1 x.2.2.2.2.2.2.2.2.2.2.2.1 y.2.1.1 s.1 s.2.1 s.2.2 kA kO) (fun _ _ _ _ _=>by simp only [L150_4,L150_4c,oA,oC,oS,oN,elimS_l,elimS_r,elimS_bind]) (fun _ _ _=>by kernel_rfl)
def L150_3c (F:Nat) (y40:List Zb) (y41:Int) (y42:List Zb) (y43:Int) (y44:Int) (y45:List UInt8) {β:Type} (kA:Zh->Option β) (kO:(Za)->Option β):Option β:=
 (bif (decide (y44 < y43)) then (Option.bind (ix y42 y44) fun x50=>(Option.bind (iter (fun s=>L150_4 F y41 y44 y40 (y40.length:Int) x50.1 s.1 s.2.1 s.2.2) F ((UInt8.ofNat 1),(UInt8.ofNat 1),(0:Int))) fun z71=>(Option.bind (T187 F z71.1 z71.2) fun z72=>(Option.bind (T171 F y45 x50.2.1 z72.1) fun z73=>(kA ((w64 (y44 + (1:Int))),z73.2)))))) else (kO y45))
def L150_3 (F:Nat) (y40:List Zb) (y41:Int) (y42:List Zb) (y43:Int) (y44:Int) (y45:List UInt8):=L150_3c F y40 y41 y42 y43 y44 y45 (fun s=>some (Sum.inl s)) (fun z=>some (Sum.inr z))
def lc150_3 (F:Nat):Lc:=mkL [0,1,5,20,21,22] [(.ro (.pr .i (.pr (.sl .u8) .un))),.i,(.rw 0),(.ro (.pr .i (.pr (.sl .u8) .un))),.i,.i] [.row 5 .u8] [5] [(.rw 0)] [.row 5 .u8] F (fun x y (s:Int×Za)=>L150_3 F x.1 x.2.1 x.2.2.2.1 x.2.2.2.2.1 s.1 s.2) (fun x y=>(x.2.2.2.2.2.1,y.1)) (fun x y (z:Za)=>(((),()),(z,())))
theorem lo150_3 (F:Nat):LcOk Tryz.prog (E150 F) 0 (lc150_3 F) (cAt (bodyOf Tryz.f150) [1,0,1,1]):=
 mkL_ok (lp:=[([1,0,1,1,0,0,1,1,0,0,1,0,1,1],lc150_4 F)]) (id:=0) (b:=cAt (bodyOf Tryz.f150) (0 :: 0 :: [1,0,1,1])) cok (cts150 F) mixed ⟨lo150_4 F,trivial⟩ (by kernel_rfl) (by kernel_rfl) (fun x y s=>(x.1,x.2.1,(),x.2.2.2.1,x.2.2.2.2.1,s.1,())) (fun x y s=>(s.2,())) (fun x y=>rfl) (fun x y=>rfl) (fun x y s kA kO=>L150_3c F x.1 x.2.1 x.2.2.2.1 x.2.2.2.2.1 s.1 s.2 kA kO) (fun _ _ _ _ _=>by simp only [L150_3,L150_3c,oA,oC,oS,oN,elimS_l,elimS_r,elimS_bind]) (fun _ _ _=>by kernel_rfl)
def T150c (F:Nat) (p0:List Zb) (p1:Int) {β:Type} (k:(Za)->Option β):Option β:=
 (Option.bind (ix p0 (0:Int)) fun x38=>(Option.bind (gmake (0:UInt8) (x38.2.1.length:Int) (x38.2.1.length:Int)) fun x39=>(Option.bind (iter (fun s=>L150_3 F p0 p1 p0 (p0.length:Int) s.1 s.2) F ((0:Int),x39)) fun z74=>(k z74))))
def T150 (F:Nat) (p0:List Zb) (p1:Int):=T150c F p0 p1 some
def ct150 (F:Nat):Ct:=mkC 0 [(.ro (.pr .i (.pr (.sl .u8) .un))),.i] [] [(.rw 0)] [.row 5 .u8] (fun x y=>T150 F x.1 x.2.1) (fun x y (z:Za)=>(((),()),(z,())))
theorem ok150 (F:Nat):Sound Tryz.prog cfg 150 (ct150 F):=
 mkC_ok (E:=E150 F) (lp:=[([1,0,1,1],lc150_3 F)]) (code:=bodyOf Tryz.f150) Tryz.func150 rfl Tryz.ntmps150 rfl rfl cok (cts150 F) mixed ⟨lo150_3 F,trivial⟩ (by kernel_rfl) (fun x y k=>T150c F x.1 x.2.1 k) (fun _ _ _=>by simp only [T150,T150c,oA,oC,oS,oN,elimS_bind]) (fun _ _=>by kernel_rfl)
def E202 (F:Nat):Ev:=⟨cfg,10,ctOf [],fun _=>[],ctOf [],fun _=>none,fun _=>none⟩
theorem cts202 (F:Nat):CtsOk Tryz.prog (E202 F):=cts_of (l:=[]) (l':=[]) rfl rfl trivial trivial
def T202c (F:Nat) (p0:List UInt8) (p1:List UInt8) {β:Type} (k:Bool->Option β):Option β:=
 (k (p0 == p1))
def T202 (F:Nat) (p0:List UInt8) (p1:List UInt8):=T202c F p0 p1 some
def ct202 (F:Nat):Ct:=mkC 0 [(.ro .u8),(.ro .u8)] [] [.bo] [] (fun x y=>T202 F x.1 x.2.1) (fun x y (z:Bool)=>((z,()),()))
theorem ok202 (F:Nat):Sound Tryz.prog cfg 202 (ct202 F):=
 mkC_ok (E:=E202 F) (lp:=[]) (code:=bodyOf Tryz.f202) Tryz.func202 rfl Tryz.ntmps202 rfl rfl cok (cts202 F) mixed trivial (by kernel_rfl) (fun x y k=>T202c F x.1 x.2.1 k) (fun _ _ _=>by simp only [T202,T202c,oA,oC,oS,oN,elimS_bind]) (fun _ _=>by kernel_rfl)
def ord185:Nat->List (Tag×Nat)
 | 4=>[(.p,0),(.p,1),(.p,2),(.p,3),(.p,4),(.p,5),(.p,6),(.r,7),(.p,9),(.p,10),(.p,11),(.p,12),(.c,13),(.w,8),(.b,14),(.p,15)]
 | _=>[]
def E185 (F:Nat):Ev:=⟨cfg,29,ctOf [(150,ct150 F),(202,ct202 F)],ord185,ctOf [],fun _=>none,fun _=>none⟩
theorem cts185 (F:Nat):CtsOk Tryz.prog (E185 F):=cts_of (l:=[(150,ct150 F),(202,ct202 F)]) (l':=[]) rfl rfl ⟨⟨ok150 F,_,Tryz.func150,rfl,rfl⟩,⟨⟨ok202 F,_,Tryz.func202,rfl,rfl⟩,trivial⟩⟩ trivial
def L185_2c (F:Nat) (y15:List Zb) (y16:Int) (y17:Int) {β:Type} (kA:Int->Option β) (kO:Unit->Option β) (kR:Bool->Option β):Option β:=
 (bif (decide (y17 < (y15.length:Int))) then (Option.bind (gsl y15 (0:Int) y16) fun x23=>(Option.bind (ix y15 y17) fun x24=>(Option.bind (ix y15 y17) fun x25=>(Option.bind (T150 F x23 x24.1) fun z26=>(Option.bind (T202 F z26 x25.2.1) fun z27=>(bif (!z27) then (kR false) else (kA (w64 (y17 + (1:Int)))))))))) else (kO ()))
def L185_2 (F:Nat) (y15:List Zb) (y16:Int) (y17:Int):Option ((Int) ⊕ ((Unit) ⊕ (Bool))):=L185_2c F y15 y16 y17 (fun s=>some (.inl s)) (fun z=>some (.inr (.inl z))) (fun z=>some (.inr (.inr z)))
theorem L185_2n (F:Nat) (y15:List Zb) (y16:Int) (y17:Int) {β:Type} (kA:Int->Option β) (kO:Unit->Option β) (kR:Bool->Option β):L185_2c F y15 y16 y17 kA kO kR=(L185_2 F y15 y16 y17).bind (elimS kA (elimS kO kR)):=by
 simp only [L185_2,L185_2c,oA,oC,oS,oN,elimS_l,elimS_r,elimS_bind]
def lc185_2 (F:Nat):Lc:=mkR [0,1,5] [(.ro (.pr .i (.pr (.sl .u8) .un))),.i,.i] [] [] [] [] [4] [.bo] [] F (fun x y (s:Int)=>L185_2 F x.1 x.2.1 s) (fun x y=>x.2.2.1) (fun x y (z:Unit)=>((),())) (fun x y (z:Bool)=>((z,()),()))
theorem lo185_2 (F:Nat):LcOk Tryz.prog (E185 F) 0 (lc185_2 F) (cAt (bodyOf Tryz.f185) [1,0,1]):=
 mkR_ok (lp:=[]) (id:=0) (b:=cAt (bodyOf Tryz.f185) (0 :: 0 :: [1,0,1])) cok (cts185 F) mixed trivial (by kernel_rfl) (by kernel_rfl) (fun x y s=>(x.1,x.2.1,s,())) (fun x y s=>()) (fun x y=>rfl) (fun x y=>rfl) (fun x y s kA kO kR=>L185_2c F x.1 x.2.1 s kA kO kR) (fun x y s kA kO kR=>L185_2n F x.1 x.2.1 s kA kO kR) (fun _ _ _=>by kernel_rfl)
def T185c (F:Nat) (p0:List Zb) (p1:Int) {β:Type} (k:Bool->Option β):Option β:=
 (Option.bind (iter (fun s=>L185_2 F p0 p1 s) F p1) fun z28=>elimS (fun z28=>(k true)) (fun z28=>(k z28)) z28)
def T185 (F:Nat) (p0:List Zb) (p1:Int):=T185c F p0 p1 some
def ct185 (F:Nat):Ct:=mkC 0 [(.ro (.pr .i (.pr (.sl .u8) .un))),.i] [] [.bo] [] (fun x y=>T185 F x.1 x.2.1) (fun x y (z:Bool)=>((z,()),()))
theorem ok185 (F:Nat):Sound Tryz.prog cfg 185 (ct185 F):=
 mkC_ok (E:=E185 F) (lp:=[([1,0,1],lc185_2 F)]) (code:=bodyOf Tryz.f185) Tryz.func185 rfl Tryz.ntmps185 rfl rfl cok (cts185 F) mixed ⟨lo185_2 F,trivial⟩ (by kernel_rfl) (fun x y k=>T185c F x.1 x.2.1 k) (fun _ _ _=>by simp only [T185,T185c,oA,oC,oS,oN,elimS_bind]) (fun _ _=>by kernel_rfl)
def E149 (F:Nat):Ev:=⟨cfg,21,ctOf [(183,ct183 F),(184,ct184 F),(185,ct185 F)],fun _=>[],ctOf [],fun _=>none,fun _=>none⟩
theorem cts149 (F:Nat):CtsOk Tryz.prog (E149 F):=cts_of (l:=[(183,ct183 F),(184,ct184 F),(185,ct185 F)]) (l':=[]) rfl rfl ⟨⟨ok183 F,_,Tryz.func183,rfl,rfl⟩,⟨⟨ok184 F,_,Tryz.func184,rfl,rfl⟩,⟨⟨ok185 F,_,Tryz.func185,rfl,rfl⟩,trivial⟩⟩⟩ trivial
def T149c (F:Nat) (p0:List Zb) (p1:Int) {β:Type} (k:Int->Option β):Option β:=
 (Option.bind (T183 F p0) fun z4=>(bif (!z4) then (k (1:Int)) else (Option.bind (T184 F p1) fun z5=>(bif (!z5) then (k (1:Int)) else (bif (decide ((p0.length:Int) < p1)) then (k (10:Int)) else (Option.bind (T185 F p0 p1) fun z6=>(bif (!z6) then (k (13:Int)) else (k (0:Int)))))))))
def T149 (F:Nat) (p0:List Zb) (p1:Int):=T149c F p0 p1 some
def ct149 (F:Nat):Ct:=mkC 0 [(.ro (.pr .i (.pr (.sl .u8) .un))),.i] [] [.i] [] (fun x y=>T149 F x.1 x.2.1) (fun x y (z:Int)=>((z,()),()))
theorem ok149 (F:Nat):Sound Tryz.prog cfg 149 (ct149 F):=
 mkC_ok (E:=E149 F) (lp:=[]) (code:=bodyOf Tryz.f149) Tryz.func149 rfl Tryz.ntmps149 rfl rfl cok (cts149 F) mixed trivial (by kernel_rfl) (fun x y k=>T149c F x.1 x.2.1 k) (fun _ _ _=>by simp only [T149,T149c,oA,oC,oS,oN,elimS_bind]) (fun _ _=>by kernel_rfl)
def E105 (F:Nat):Ev:=⟨cfg,17,ctOf [(149,ct149 F),(150,ct150 F)],fun _=>[],ctOf [],fun _=>none,fun _=>none⟩
theorem cts105 (F:Nat):CtsOk Tryz.prog (E105 F):=cts_of (l:=[(149,ct149 F),(150,ct150 F)]) (l':=[]) rfl rfl ⟨⟨ok149 F,_,Tryz.func149,rfl,rfl⟩,⟨⟨ok150 F,_,Tryz.func150,rfl,rfl⟩,trivial⟩⟩ trivial
def T105c (F:Nat) (p0:List Zb) (p1:Int) {β:Type} (k:Zh->Option β):Option β:=
 (Option.bind (T149 F p0 p1) fun z4=>(bif (z4 != (0:Int)) then (k (z4,([]:List UInt8))) else (Option.bind (gsl p0 (0:Int) p1) fun x5=>(Option.bind (T150 F x5 (0:Int)) fun z6=>(k ((0:Int),z6))))))
def T105 (F:Nat) (p0:List Zb) (p1:Int):=T105c F p0 p1 some
def ct105 (F:Nat):Ct:=mkC 0 [(.ro (.pr .i (.pr (.sl .u8) .un))),.i] [] [(.rw 0),.i] [.row 5 .u8] (fun x y=>T105 F x.1 x.2.1) (fun x y (z:Int×Za)=>(((),z.1,()),(z.2,())))
theorem ok105 (F:Nat):Sound Tryz.prog cfg 105 (ct105 F):=
 mkC_ok (E:=E105 F) (lp:=[]) (code:=bodyOf Tryz.f105) Tryz.func105 rfl Tryz.ntmps105 rfl rfl cok (cts105 F) mixed trivial (by kernel_rfl) (fun x y k=>T105c F x.1 x.2.1 k) (fun _ _ _=>by simp only [T105,T105c,oA,oC,oS,oN,elimS_bind]) (fun _ _=>by kernel_rfl)
def E151 (F:Nat):Ev:=⟨cfg,17,ctOf [(28,ct28 F)],fun _=>[],ctOf [],fun _=>none,fun _=>none⟩
theorem cts151 (F:Nat):CtsOk Tryz.prog (E151 F):=cts_of (l:=[(28,ct28 F)]) (l':=[]) rfl rfl ⟨⟨ok28 F,_,Tryz.func28,rfl,rfl⟩,trivial⟩ trivial
def T151c (F:Nat) (p0:List UInt8) (p1:List UInt8) {β:Type} (k:(Za×Int)->Option β):Option β:=
 (Option.bind (T28 F p0 p1) fun z2=>(bif (z2.2 != (0:Int)) then (k (([]:List UInt8),(1:Int))) else (k (z2.1,(0:Int)))))
def T151 (F:Nat) (p0:List UInt8) (p1:List UInt8):=T151c F p0 p1 some
def ct151 (F:Nat):Ct:=mkC 0 [.str,.str] [] [.str,.i] [] (fun x y=>T151 F x.1 x.2.1) (fun x y (z:Za×Int)=>((z.1,z.2,()),()))
theorem ok151 (F:Nat):Sound Tryz.prog cfg 151 (ct151 F):=
 mkC_ok (E:=E151 F) (lp:=[]) (code:=bodyOf Tryz.f151) Tryz.func151 rfl Tryz.ntmps151 rfl rfl cok (cts151 F) mixed trivial (by kernel_rfl) (fun x y k=>T151c F x.1 x.2.1 k) (fun _ _ _=>by simp only [T151,T151c,oA,oC,oS,oN,elimS_bind]) (fun _ _=>by kernel_rfl)
def E106 (F:Nat):Ev:=⟨cfg,8,ctOf [(151,ct151 F)],fun _=>[],ctOf [],fun _=>none,fun _=>none⟩
theorem cts106 (F:Nat):CtsOk Tryz.prog (E106 F):=cts_of (l:=[(151,ct151 F)]) (l':=[]) rfl rfl ⟨⟨ok151 F,_,Tryz.func151,rfl,rfl⟩,trivial⟩ trivial
def T106c (F:Nat) (p0:List UInt8) {β:Type} (k:(Za×Int)->Option β):Option β:=
 (Option.bind (T151 F p0 ([112,114,105,110,116]:List UInt8)) fun z2=>(k (z2.1,z2.2)))
def T106 (F:Nat) (p0:List UInt8):=T106c F p0 some
def ct106 (F:Nat):Ct:=mkC 0 [.str] [] [.str,.i] [] (fun x y=>T106 F x.1) (fun x y (z:Za×Int)=>((z.1,z.2,()),()))
theorem ok106 (F:Nat):Sound Tryz.prog cfg 106 (ct106 F):=
 mkC_ok (E:=E106 F) (lp:=[]) (code:=bodyOf Tryz.f106) Tryz.func106 rfl Tryz.ntmps106 rfl rfl cok (cts106 F) mixed trivial (by kernel_rfl) (fun x y k=>T106c F x.1 k) (fun _ _ _=>by simp only [T106,T106c,oA,oC,oS,oN,elimS_bind]) (fun _ _=>by kernel_rfl)
def E39 (F:Nat):Ev:=⟨cfg,35,ctOf [(105,ct105 F),(106,ct106 F)],fun _=>[],ctOf [],fun _=>none,fun _=>none⟩
theorem cts39 (F:Nat):CtsOk Tryz.prog (E39 F):=cts_of (l:=[(105,ct105 F),(106,ct106 F)]) (l':=[]) rfl rfl ⟨⟨ok105 F,_,Tryz.func105,rfl,rfl⟩,⟨⟨ok106 F,_,Tryz.func106,rfl,rfl⟩,trivial⟩⟩ trivial
def T39c (F:Nat) (p0:List Zb) (p1:Int) (p2:List UInt8) {β:Type} (k:(Za×Bool)->Option β):Option β:=
 (Option.bind (T105 F p0 p1) fun z3=>(bif (z3.1 != (0:Int)) then (k (([]:List UInt8),false)) else (Option.bind (T106 F z3.2) fun z4=>(bif (z4.2 != (0:Int)) then (k (([]:List UInt8),false)) else (bif (z4.1 != p2) then (k (([]:List UInt8),false)) else (k (z3.2,true)))))))
def T39 (F:Nat) (p0:List Zb) (p1:Int) (p2:List UInt8):=T39c F p0 p1 p2 some
def ct39 (F:Nat):Ct:=mkC 0 [(.ro (.pr .i (.pr (.sl .u8) .un))),.i,.str] [] [.str,.bo] [] (fun x y=>T39 F x.1 x.2.1 x.2.2.1) (fun x y (z:Za×Bool)=>((z.1,z.2,()),()))
theorem ok39 (F:Nat):Sound Tryz.prog cfg 39 (ct39 F):=
 mkC_ok (E:=E39 F) (lp:=[]) (code:=bodyOf Tryz.f39) Tryz.func39 rfl Tryz.ntmps39 rfl rfl cok (cts39 F) mixed trivial (by kernel_rfl) (fun x y k=>T39c F x.1 x.2.1 x.2.2.1 k) (fun _ _ _=>by simp only [T39,T39c,oA,oC,oS,oN,elimS_bind]) (fun _ _=>by kernel_rfl)
def ord40x1:Nat->List (Tag×Nat)
 | _=>[]
def al40x1:Nat->Option Nat
 | _=>none
def ms40x1:Nat->Option (List (Option Tag×Nat×List Nat))
 | _=>none
def E40x1 (F:Nat):Ev:=⟨cfg,8,ctOf [],ord40x1,ctOf [],al40x1,ms40x1⟩
theorem cts40x1 (F:Nat):CtsOk Tryz.prog (E40x1 F):=cts_of (l:=[]) (l':=[]) rfl rfl trivial trivial
def T40x1c (F:Nat) {β:Type} (k:((List (Int×(List UInt8)×Unit)))->Option β):Option β:=
 (k ([]:List (Int×(List UInt8)×Unit)))
def T40x1 (F:Nat):Option ((List (Int×(List UInt8)×Unit))):=T40x1c F some
theorem T40x1n (F:Nat) {β:Type} (k:((List (Int×(List UInt8)×Unit)))->Option β):T40x1c F k=(T40x1 F).bind k:=by
 simp only [T40x1,T40x1c,Option.bind_assoc,cond_bind,Option.bind_some,Option.bind_none,elimS_bind]
abbrev cA40x1:List Sh:=[.nn]
abbrev cB40x1:List Sh:=[(.rw 0)]
abbrev cT40x1:List TSh:=[]
abbrev cU40x1:List TSh:=[.row 59 (.pr .i (.pr (.sl .u8) .un))]
def ct40x1 (F:Nat):Ct:=mkC 0 cA40x1 cT40x1 cB40x1 cU40x1 (fun x y=>T40x1 F) (fun x y (z:(List (Int×(List UInt8)×Unit)))=>(((),()),(z,())))
theorem eq40x1 (F:Nat) (x:dens cA40x1) (y:tdens cT40x1):sev (E40x1 F) 0 [] (bodyOf Tryz.f40) [] (mkSt (rng 1) cA40x1 cT40x1 x y) (kFn (E40x1 F) 0 Tryz.f40.results.toList cB40x1 cU40x1 fun p q=>some (p,q)) =
  T40x1c F (fun z=>some (((),()),(z,()))):=by kernel_rfl
theorem ok40x1 (F:Nat):Sound Tryz.prog cfg 40 (ct40x1 F):=
 mkC_ok (E:=E40x1 F) (lp:=[]) (code:=bodyOf Tryz.f40) Tryz.func40 rfl Tryz.ntmps40 rfl rfl cok (cts40x1 F) mixed trivial (by kernel_rfl) (fun x y k=>T40x1c F k) (fun x y k=>T40x1n F k) (eq40x1 F)
def ord40x2:Nat->List (Tag×Nat)
 | _=>[]
def al40x2:Nat->Option Nat
 | _=>none
def ms40x2:Nat->Option (List (Option Tag×Nat×List Nat))
 | _=>none
def E40x2 (F:Nat):Ev:=⟨cfg,8,ctOf [],ord40x2,ctOf [],al40x2,ms40x2⟩
theorem cts40x2 (F:Nat):CtsOk Tryz.prog (E40x2 F):=cts_of (l:=[]) (l':=[]) rfl rfl trivial trivial
def T40x2c (F:Nat) (p0:List (Int×(List UInt8)×Unit)) {β:Type} (k:((List (Int×(List UInt8)×Unit)))->Option β):Option β:=
 (Option.bind (gapp ([]:List (Int×(List UInt8)×Unit)) p0) fun x2=>(k x2))
def T40x2 (F:Nat) (p0:List (Int×(List UInt8)×Unit)):Option ((List (Int×(List UInt8)×Unit))):=T40x2c F p0 some
theorem T40x2n (F:Nat) (p0:List (Int×(List UInt8)×Unit)) {β:Type} (k:((List (Int×(List UInt8)×Unit)))->Option β):T40x2c F p0 k=(T40x2 F p0).bind k:=by
 simp only [T40x2,T40x2c,Option.bind_assoc,cond_bind,Option.bind_some,Option.bind_none,elimS_bind]
abbrev cA40x2:List Sh:=[(.rn (.pr .i (.pr (.sl .u8) .un)))]
abbrev cB40x2:List Sh:=[(.rw 0)]
abbrev cT40x2:List TSh:=[]
abbrev cU40x2:List TSh:=[.row 59 (.pr .i (.pr (.sl .u8) .un))]
def ct40x2 (F:Nat):Ct:=mkC 0 cA40x2 cT40x2 cB40x2 cU40x2 (fun x y=>T40x2 F x.1) (fun x y (z:(List (Int×(List UInt8)×Unit)))=>(((),()),(z,())))
theorem eq40x2 (F:Nat) (x:dens cA40x2) (y:tdens cT40x2):sev (E40x2 F) 0 [] (bodyOf Tryz.f40) [] (mkSt (rng 1) cA40x2 cT40x2 x y) (kFn (E40x2 F) 0 Tryz.f40.results.toList cB40x2 cU40x2 fun p q=>some (p,q)) =
  T40x2c F x.1 (fun z=>some (((),()),(z,()))):=by kernel_rfl
theorem ok40x2 (F:Nat):Sound Tryz.prog cfg 40 (ct40x2 F):=
 mkC_ok (E:=E40x2 F) (lp:=[]) (code:=bodyOf Tryz.f40) Tryz.func40 rfl Tryz.ntmps40 rfl rfl cok (cts40x2 F) mixed trivial (by kernel_rfl) (fun x y k=>T40x2c F x.1 k) (fun x y k=>T40x2n F x.1 k) (eq40x2 F)
def T40 (F:Nat) (p0:List Zb):Option Zi:=T40x2 F p0
def ct40 (F:Nat):Ct:=mkC 0 [.ro (.pr .i (.pr (.sl .u8) .un))] [] [.rw 0] [.row 59 (.pr .i (.pr (.sl .u8) .un))] (fun x _=>T40 F x.1) (fun _ _ (z:List Zb)=>(((),()),(z,())))
theorem ok40 (F:Nat):Sound Tryz.prog cfg 40 (ct40 F):=clone_ok (t:=(.pr .i (.pr (.sl .u8) .un))) (T40x1 F) (fun p=>T40x2 F p) (ok40x1 F) (ok40x2 F) rfl
def L38r_2c (F:Nat) (rc:(Zi->Int->Int->Za->Zi->Option (Za×Bool))) (y17:List Zb) (y19:Int) (y20:List UInt8) (y21:List Zb) (y18:Int) {β:Type} (kA:Int->Option β) (kO:Unit->Option β) (kR:(Za×Bool)->Option β):Option β:=
 (bif (decide (y18 < (y21.length:Int))) then (Option.bind (ix y21 y18) fun x26=>(Option.bind (T40 F y17) fun z27=>(Option.bind (gapp z27 ([(x26.1,x26.2.1,())]:List Zb)) fun x28=>(Option.bind (rc x28 (w64 (y18 + (1:Int))) y19 y20 y21) fun z29=>(bif z29.2 then (kR (z29.1,true)) else (kA (w64 (y18 + (1:Int))))))))) else (kO ()))
def L38r_2 (F:Nat) (rc:(Zi->Int->Int->Za->Zi->Option (Za×Bool))) (y17:List Zb) (y19:Int) (y20:List UInt8) (y21:List Zb) (y18:Int):Option ((Int) ⊕ ((Unit) ⊕ (Za×Bool))):=L38r_2c F rc y17 y19 y20 y21 y18 (fun s=>some (.inl s)) (fun z=>some (.inr (.inl z))) (fun z=>some (.inr (.inr z)))
theorem L38r_2n (F:Nat) (rc:(Zi->Int->Int->Za->Zi->Option (Za×Bool))) (y17:List Zb) (y19:Int) (y20:List UInt8) (y21:List Zb) (y18:Int) {β:Type} (kA:Int->Option β) (kO:Unit->Option β) (kR:(Za×Bool)->Option β):L38r_2c F rc y17 y19 y20 y21 y18 kA kO kR=(L38r_2 F rc y17 y19 y20 y21 y18).bind (elimS kA (elimS kO kR)):=by
 simp only [L38r_2,L38r_2c,oA,oC,oS,oN,elimS_l,elimS_r,elimS_bind]
def T38rc (F:Nat) (rc:(Zi->Int->Int->Za->Zi->Option (Za×Bool))) (p0:List Zb) (p1:Int) (p2:Int) (p3:List UInt8) (p4:List Zb) {β:Type} (k:(Za×Bool)->Option β):Option β:=
 (bif ((p0.length:Int) == p2) then (Option.bind (T39 F p0 p2 p3) fun z16=>(k (z16.1,z16.2))) else (Option.bind (iter (fun s=>L38r_2 F rc p0 p2 p3 p4 s) F p1) fun z30=>elimS (fun z30=>(k (([]:List UInt8),false))) (fun z30=>(k (z30.1,z30.2))) z30))
def T38r (F:Nat) (rc:(Zi->Int->Int->Za->Zi->Option (Za×Bool))) (p0:List Zb) (p1:Int) (p2:Int) (p3:List UInt8) (p4:List Zb):=T38rc F rc p0 p1 p2 p3 p4 some
def T38g (F:Nat):Nat->Zi->Int->Int->Za->Zi->Option (Za×Bool)
 | 0=>fun _ _ _ _ _=>none
 | g + 1=>T38r F (T38g F g)
abbrev cA38r:List Sh:=[(.ro (.pr .i (.pr (.sl .u8) .un))),.i,(.pt 0 []),(.pt 1 []),(.pt 2 []),(.pt 3 [])]
abbrev cB38r:List Sh:=[.str,.bo]
abbrev cT38r:List TSh:=[.blk 3 .i,.blk 9 .str,.blk 40 (.ro (.pr .i (.pr (.sl .u8) .un))),.blk 75 (.fn 38 .un (.pr (.pt 0 []) (.pr (.pt 1 []) (.pr (.pt 2 []) (.pr (.pt 3 []) .un)))))]
abbrev cU38r:List TSh:=[.blk 3 .i,.blk 9 .str,.blk 40 (.ro (.pr .i (.pr (.sl .u8) .un))),.blk 75 (.fn 38 .un (.pr (.pt 0 []) (.pr (.pt 1 []) (.pr (.pt 2 []) (.pr (.pt 3 []) .un)))))]
abbrev sA38r_2:List Sh:=[(.ro (.pr .i (.pr (.sl .u8) .un))),(.pt 2 []),(.pt 3 []),.i]
abbrev sA138r_2:List Sh:=[]
abbrev sA238r_2:List Sh:=[.str,.bo]
abbrev sT38r_2:List TSh:=[.blk 3 .i,.blk 9 .str,.blk 40 (.ro (.pr .i (.pr (.sl .u8) .un))),.blk 75 (.fn 38 .un (.pr (.pt 0 []) (.pr (.pt 1 []) (.pr (.pt 2 []) (.pr (.pt 3 []) .un)))))]
abbrev sT138r_2:List TSh:=[.blk 3 .i,.blk 9 .str,.blk 40 (.ro (.pr .i (.pr (.sl .u8) .un))),.blk 75 (.fn 38 .un (.pr (.pt 0 []) (.pr (.pt 1 []) (.pr (.pt 2 []) (.pr (.pt 3 []) .un)))))]
abbrev sT238r_2:List TSh:=[.blk 3 .i,.blk 9 .str,.blk 40 (.ro (.pr .i (.pr (.sl .u8) .un))),.blk 75 (.fn 38 .un (.pr (.pt 0 []) (.pr (.pt 1 []) (.pr (.pt 2 []) (.pr (.pt 3 []) .un)))))]
def ctg38 (F g:Nat):Ct:=mkC 4 cA38r cT38r cB38r cU38r (fun x y=>T38g F g x.1 x.2.1 y.1 y.2.1 y.2.2.1) (fun x y (z:Za×Bool)=>((z.1,z.2,()),(y.1,y.2.1,y.2.2.1,((),((),(),(),(),())),())))
def ord38r:Nat->List (Tag×Nat)
 | 6=>[]
 | _=>[]
def ms38r:Nat->Option (List (Option Tag×Nat×List Nat))
 | 6=>some [(some .c,0,[]),(some .p,1,[]),(some .c,3,[]),(some .p,4,[]),(some .p,5,[]),(some .c,6,[]),(some .p,9,[]),(some .p,10,[]),(some .w,2,[7]),(none,7,[]),(some .w,8,[]),(some .b,11,[]),(some .p,12,[]),(some .p,13,[]),(some .p,14,[]),(some .p,15,[]),(some .p,16,[])]
 | _=>none
def E38r (F g:Nat):Ev:=⟨cfg,47,ctOf [(39,ct39 F),(40,ct40 F),(38,ctg38 F g)],ord38r,ctOf [],fun _=>none,ms38r⟩
theorem cts38r (F g:Nat) (h:Sound Tryz.prog cfg 38 (ctg38 F g)):CtsOk Tryz.prog (E38r F g):=cts_of (l:=[(39,ct39 F),(40,ct40 F),(38,ctg38 F g)]) (l':=[]) rfl rfl ⟨⟨ok39 F,_,Tryz.func39,rfl,rfl⟩,⟨⟨ok40 F,_,Tryz.func40,rfl,rfl⟩,⟨⟨h,_,Tryz.func38,rfl,rfl⟩,trivial⟩⟩⟩ trivial
def lc38r_2 (F g:Nat):Lc:=mkR [0,4,5,10] sA38r_2 sT38r_2 [] sA138r_2 sT138r_2 [8,9] sA238r_2 sT238r_2 F (fun x y (s:Int)=>L38r_2 F (T38g F g) x.1 y.1 y.2.1 y.2.2.1 s) (fun x y=>x.2.2.2.1) (fun x y (z:Unit)=>((),(y.1,y.2.1,y.2.2.1,((),((),(),(),(),())),()))) (fun x y (z:Za×Bool)=>((z.1,z.2,()),(y.1,y.2.1,y.2.2.1,((),((),(),(),(),())),())))
theorem le38r_2 (F g:Nat) (x:dens sA38r_2) (y:tdens sT38r_2) (s:Int):sev (E38r F g) 4 [] (cAt (bodyOf Tryz.f38) (0 :: 0 :: [1,0,1,1])) (0 :: 0 :: [1,0,1,1]) (mkSt [0,4,5,10] sA38r_2 sT38r_2 (x.1,(),(),s,()) (y.1,y.2.1,y.2.2.1,((),((),(),(),(),())),())) (kLoop 4 [0,4,5,10] sA38r_2 sT38r_2 [] sA138r_2 sT138r_2 [8,9] sA238r_2 sT238r_2 0 (fun x y=>some (.inl (x,y))) (fun x y=>some (.inr (.inl (x,y)))) (fun x y=>some (.inr (.inr (x,y))))) =
  L38r_2c (β:=Full sA38r_2 sT38r_2 sA138r_2 sT138r_2 sA238r_2 sT238r_2) F (T38g F g) x.1 y.1 y.2.1 y.2.2.1 s (fun s=>some (.inl ((x.1,(),(),s,()),(y.1,y.2.1,y.2.2.1,((),((),(),(),(),())),())))) (fun z=>some (.inr (.inl ((),(y.1,y.2.1,y.2.2.1,((),((),(),(),(),())),()))))) (fun z=>some (.inr (.inr ((z.1,z.2,()),(y.1,y.2.1,y.2.2.1,((),((),(),(),(),())),()))))):=by kernel_rfl
theorem lo38r_2 (F g:Nat) (h:Sound Tryz.prog cfg 38 (ctg38 F g)):LcOk Tryz.prog (E38r F g) 4 (lc38r_2 F g) (cAt (bodyOf Tryz.f38) [1,0,1,1]):=
 mkR_ok (lp:=[]) (id:=0) (b:=cAt (bodyOf Tryz.f38) (0 :: 0 :: [1,0,1,1])) cok (cts38r F g h) mixed trivial (by kernel_rfl) (by kernel_rfl) (fun x y s=>(x.1,(),(),s,())) (fun x y s=>(y.1,y.2.1,y.2.2.1,((),((),(),(),(),())),())) (fun x y=>rfl) (fun x y=>rfl) (fun x y s kA kO kR=>L38r_2c F (T38g F g) x.1 y.1 y.2.1 y.2.2.1 s kA kO kR) (fun x y s kA kO kR=>L38r_2n F (T38g F g) x.1 y.1 y.2.1 y.2.2.1 s kA kO kR) (le38r_2 F g)
def ct38r (F g:Nat):Ct:=mkC 4 cA38r cT38r cB38r cU38r (fun x y=>T38r F (T38g F g) x.1 x.2.1 y.1 y.2.1 y.2.2.1) (fun x y (z:Za×Bool)=>((z.1,z.2,()),(y.1,y.2.1,y.2.2.1,((),((),(),(),(),())),())))
theorem eq38r (F g:Nat) (x:dens cA38r) (y:tdens cT38r):sev (E38r F g) 4 [([1,0,1,1],lc38r_2 F g)] (bodyOf Tryz.f38) [] (mkSt (rng 6) cA38r cT38r x y) (kFn (E38r F g) 4 Tryz.f38.results.toList cB38r cU38r fun p q=>some (p,q)) =
  T38rc F (T38g F g) x.1 x.2.1 y.1 y.2.1 y.2.2.1 (fun z=>some ((z.1,z.2,()),(y.1,y.2.1,y.2.2.1,((),((),(),(),(),())),()))):=by kernel_rfl
theorem ok38r (F g:Nat) (h:Sound Tryz.prog cfg 38 (ctg38 F g)):Sound Tryz.prog cfg 38 (ct38r F g):=
 mkC_ok (E:=E38r F g) (lp:=[([1,0,1,1],lc38r_2 F g)]) (code:=bodyOf Tryz.f38) Tryz.func38 rfl Tryz.ntmps38 rfl rfl cok (cts38r F g h) mixed ⟨lo38r_2 F g h,trivial⟩ (by kernel_rfl) (fun x y k=>T38rc F (T38g F g) x.1 x.2.1 y.1 y.2.1 y.2.2.1 k) (fun _ _ _=>by simp only [T38r,T38rc,oA,oC,oS,oN,elimS_bind]) (eq38r F g)
def T38 (F:Nat) (p0:List Zb) (p1:Int) (p2:Int) (p3:List UInt8) (p4:List Zb):Option (Za×Bool):=T38g F F p0 p1 p2 p3 p4
def ct38 (F:Nat):Ct:=mkC 4 cA38r cT38r cB38r cU38r (fun x y=>T38 F x.1 x.2.1 y.1 y.2.1 y.2.2.1) (fun x y (z:Za×Bool)=>((z.1,z.2,()),(y.1,y.2.1,y.2.2.1,((),((),(),(),(),())),())))
theorem okg38 (F:Nat):∀ g,Sound Tryz.prog cfg 38 (ctg38 F g)
 | 0=>fun x y p q h=>absurd (show (none:Option _)=some (p,q) from h) (by simp)
 | g + 1=>ok38r F g (okg38 F g)
theorem ok38 (F:Nat):Sound Tryz.prog cfg 38 (ct38 F):=okg38 F F
def E17 (F:Nat):Ev:=⟨cfg,68,ctOf [(38,ct38 F)],fun _=>[],ctOf [],fun _=>none,fun _=>none⟩
theorem cts17 (F:Nat):CtsOk Tryz.prog (E17 F):=cts_of (l:=[(38,ct38 F)]) (l':=[]) rfl rfl ⟨⟨ok38 F,_,Tryz.func38,rfl,rfl⟩,trivial⟩ trivial
def L17_2c (F:Nat) (y18:List Zb) (y19:Int) (y20:Int) (y24:Vector Bool 13) {β:Type} (kA:(Int×(Vector Bool 13))->Option β) (kO:Unit->Option β) (kR:(Za×Int)->Option β):Option β:=
 (bif (decide (y20 < y19)) then (Option.bind (ix y18 y20) fun x29=>(bif (decide (x29.1 < (1:Int))) then (kR (([]:List UInt8),(1:Int))) else (bif (decide ((12:Int) < x29.1)) then (kR (([]:List UInt8),(1:Int))) else (Option.bind (inb 13 x29.1) fun x30=>(Option.bind (vat y24 x30) fun x31=>(bif x31 then (kR (([]:List UInt8),(1:Int))) else (bif ((x29.2.1.length:Int) != (32:Int)) then (kR (([]:List UInt8),(1:Int))) else (Option.bind (inb 13 x29.1) fun x32=>(kA ((w64 (y20 + (1:Int))),(Vector.setIfInBounds y24 x32 true))))))))))) else (kO ()))
def L17_2 (F:Nat) (y18:List Zb) (y19:Int) (y20:Int) (y24:Vector Bool 13):Option ((Int×(Vector Bool 13)) ⊕ ((Unit) ⊕ (Za×Int))):=L17_2c F y18 y19 y20 y24 (fun s=>some (.inl s)) (fun z=>some (.inr (.inl z))) (fun z=>some (.inr (.inr z)))
theorem L17_2n (F:Nat) (y18:List Zb) (y19:Int) (y20:Int) (y24:Vector Bool 13) {β:Type} (kA:(Int×(Vector Bool 13))->Option β) (kO:Unit->Option β) (kR:(Za×Int)->Option β):L17_2c F y18 y19 y20 y24 kA kO kR=(L17_2 F y18 y19 y20 y24).bind (elimS kA (elimS kO kR)):=by
 simp only [L17_2,L17_2c,oA,oC,oS,oN,elimS_l,elimS_r,elimS_bind]
def lc17_2 (F:Nat):Lc:=mkR [3,4,5,8,25,26,27] [(.pt 0 []),(.pt 1 []),(.pt 2 []),(.pt 3 []),(.ro (.pr .i (.pr (.sl .u8) .un))),.i,.i] [.blk 3 .i,.blk 40 (.ro (.pr .i (.pr (.sl .u8) .un))),.blk 9 .str,.blk 74 (.ar 13 .bo)] [3,4,5] [(.pt 0 []),(.pt 1 []),(.pt 2 [])] [.blk 3 .i,.blk 40 (.ro (.pr .i (.pr (.sl .u8) .un))),.blk 9 .str] [6,7] [.str,.i] [] F (fun x y (s:Int×(Vector Bool 13))=>L17_2 F x.2.2.2.2.1 x.2.2.2.2.2.1 s.1 s.2) (fun x y=>(x.2.2.2.2.2.2.1,y.2.2.2.1)) (fun x y (z:Unit)=>(((),(),(),()),(y.1,y.2.1,y.2.2.1,()))) (fun x y (z:Za×Int)=>((z.1,z.2,()),()))
theorem lo17_2 (F:Nat):LcOk Tryz.prog (E17 F) 0 (lc17_2 F) (cAt (bodyOf Tryz.f17) [1,0,1,1,1]):=
 mkR_ok (lp:=[]) (id:=0) (b:=cAt (bodyOf Tryz.f17) (0 :: 0 :: [1,0,1,1,1])) cok (cts17 F) mixed trivial (by kernel_rfl) (by kernel_rfl) (fun x y s=>((),(),(),(),x.2.2.2.2.1,x.2.2.2.2.2.1,s.1,())) (fun x y s=>(y.1,y.2.1,y.2.2.1,s.2,())) (fun x y=>rfl) (fun x y=>rfl) (fun x y s kA kO kR=>L17_2c F x.2.2.2.2.1 x.2.2.2.2.2.1 s.1 s.2 kA kO kR) (fun x y s kA kO kR=>L17_2n F x.2.2.2.2.1 x.2.2.2.2.2.1 s.1 s.2 kA kO kR) (fun _ _ _=>by kernel_rfl)
def T17c (F:Nat) (p0:Int) (p1:List Zb) (p2:List UInt8) {β:Type} (k:(Za×Int)->Option β):Option β:=
 (bif (decide (p0 < (1:Int))) then (k (([]:List UInt8),(1:Int))) else (bif (decide ((12:Int) < p0)) then (k (([]:List UInt8),(1:Int))) else (bif ((p2.length:Int) != (32:Int)) then (k (([]:List UInt8),(1:Int))) else (Option.bind (iter (fun s=>L17_2 F p1 (p1.length:Int) s.1 s.2) F ((0:Int),(Vector.replicate 13 false))) fun z33=>elimS (fun z33=>(bif (decide ((p1.length:Int) < p0)) then (k (([]:List UInt8),(10:Int))) else (Option.bind (T38 F ([]:List Zb) (0:Int) p0 p2 p1) fun z34=>(bif (!z34.2) then (k (([]:List UInt8),(9:Int))) else (k (z34.1,(0:Int))))))) (fun z33=>(k (z33.1,z33.2))) z33))))
def T17 (F:Nat) (p0:Int) (p1:List Zb) (p2:List UInt8):=T17c F p0 p1 p2 some
def ct17 (F:Nat):Ct:=mkC 0 [.i,(.ro (.pr .i (.pr (.sl .u8) .un))),.str] [] [.str,.i] [] (fun x y=>T17 F x.1 x.2.1 x.2.2.1) (fun x y (z:Za×Int)=>((z.1,z.2,()),()))
theorem ok17 (F:Nat):Sound Tryz.prog cfg 17 (ct17 F):=
 mkC_ok (E:=E17 F) (lp:=[([1,0,1,1,1],lc17_2 F)]) (code:=bodyOf Tryz.f17) Tryz.func17 rfl Tryz.ntmps17 rfl rfl cok (cts17 F) mixed ⟨lo17_2 F,trivial⟩ (by kernel_rfl) (fun x y k=>T17c F x.1 x.2.1 x.2.2.1 k) (fun _ _ _=>by simp only [T17,T17c,oA,oC,oS,oN,elimS_bind]) (fun _ _=>by kernel_rfl)
def E41 (F:Nat):Ev:=⟨cfg,39,ctOf [],fun _=>[],ctOf [],fun _=>none,fun _=>none⟩
theorem cts41 (F:Nat):CtsOk Tryz.prog (E41 F):=cts_of (l:=[]) (l':=[]) rfl rfl trivial trivial
def L41_4c (F:Nat) (y40:Int) (y44:List Int) (y45:Int) (y46:Int) {β:Type} (kA:Int->Option β) (kO:Unit->Option β) (kR:Bool->Option β):Option β:=
 (bif (decide (y46 < y45)) then (Option.bind (ix y44 y46) fun x48=>(bif (y40 == x48) then (kR false) else (kA (w64 (y46 + (1:Int)))))) else (kO ()))
def L41_4 (F:Nat) (y40:Int) (y44:List Int) (y45:Int) (y46:Int):Option ((Int) ⊕ ((Unit) ⊕ (Bool))):=L41_4c F y40 y44 y45 y46 (fun s=>some (.inl s)) (fun z=>some (.inr (.inl z))) (fun z=>some (.inr (.inr z)))
theorem L41_4n (F:Nat) (y40:Int) (y44:List Int) (y45:Int) (y46:Int) {β:Type} (kA:Int->Option β) (kO:Unit->Option β) (kR:Bool->Option β):L41_4c F y40 y44 y45 y46 kA kO kR=(L41_4 F y40 y44 y45 y46).bind (elimS kA (elimS kO kR)):=by
 simp only [L41_4,L41_4c,oA,oC,oS,oN,elimS_l,elimS_r,elimS_bind]
def lc41_4 (F:Nat):Lc:=mkR [0,1,2,8,11,12,13,28,29,30] [(.ro .i),.i,.i,.i,(.ro .i),.i,.i,(.ro .i),.i,.i] [] [0,1,2,11,12,13] [(.ro .i),.i,.i,(.ro .i),.i,.i] [] [6] [.bo] [] F (fun x y (s:Int)=>L41_4 F x.2.2.2.1 x.2.2.2.2.2.2.2.1 x.2.2.2.2.2.2.2.2.1 s) (fun x y=>x.2.2.2.2.2.2.2.2.2.1) (fun x y (z:Unit)=>((x.1,x.2.1,x.2.2.1,x.2.2.2.2.1,x.2.2.2.2.2.1,x.2.2.2.2.2.2.1,()),())) (fun x y (z:Bool)=>((z,()),()))
theorem lo41_4 (F:Nat):LcOk Tryz.prog (E41 F) 0 (lc41_4 F) (cAt (bodyOf Tryz.f41) [1,1,1,0,0,1,1,0,0,1,0,1]):=
 mkR_ok (lp:=[]) (id:=2) (b:=cAt (bodyOf Tryz.f41) (0 :: 0 :: [1,1,1,0,0,1,1,0,0,1,0,1])) cok (cts41 F) mixed trivial (by kernel_rfl) (by kernel_rfl) (fun x y s=>(x.1,x.2.1,x.2.2.1,x.2.2.2.1,x.2.2.2.2.1,x.2.2.2.2.2.1,x.2.2.2.2.2.2.1,x.2.2.2.2.2.2.2.1,x.2.2.2.2.2.2.2.2.1,s,())) (fun x y s=>()) (fun x y=>rfl) (fun x y=>rfl) (fun x y s kA kO kR=>L41_4c F x.2.2.2.1 x.2.2.2.2.2.2.2.1 x.2.2.2.2.2.2.2.2.1 s kA kO kR) (fun x y s kA kO kR=>L41_4n F x.2.2.2.1 x.2.2.2.2.2.2.2.1 x.2.2.2.2.2.2.2.2.1 s kA kO kR) (fun _ _ _=>by kernel_rfl)
def L41_3c (F:Nat) (y26:List Int) (y27:Int) (y28:Int) (y29:List Int) (y30:Int) (y31:Int) {β:Type} (kA:Int->Option β) (kO:Unit->Option β) (kR:Bool->Option β):Option β:=
 (bif (decide (y31 < y30)) then (Option.bind (ix y29 y31) fun x35=>(bif (decide (x35 < y27)) then (kR false) else (bif (decide (y28 < x35)) then (kR false) else (Option.bind (gsl y26 (0:Int) y31) fun x36=>(Option.bind (iter (fun s=>L41_4 F x35 x36 (x36.length:Int) s) F (0:Int)) fun z49=>elimS (fun z49=>(kA (w64 (y31 + (1:Int))))) (fun z49=>(kR z49)) z49))))) else (kO ()))
def L41_3 (F:Nat) (y26:List Int) (y27:Int) (y28:Int) (y29:List Int) (y30:Int) (y31:Int):Option ((Int) ⊕ ((Unit) ⊕ (Bool))):=L41_3c F y26 y27 y28 y29 y30 y31 (fun s=>some (.inl s)) (fun z=>some (.inr (.inl z))) (fun z=>some (.inr (.inr z)))
theorem L41_3n (F:Nat) (y26:List Int) (y27:Int) (y28:Int) (y29:List Int) (y30:Int) (y31:Int) {β:Type} (kA:Int->Option β) (kO:Unit->Option β) (kR:Bool->Option β):L41_3c F y26 y27 y28 y29 y30 y31 kA kO kR=(L41_3 F y26 y27 y28 y29 y30 y31).bind (elimS kA (elimS kO kR)):=by
 simp only [L41_3,L41_3c,oA,oC,oS,oN,elimS_l,elimS_r,elimS_bind]
def lc41_3 (F:Nat):Lc:=mkR [0,1,2,11,12,13] [(.ro .i),.i,.i,(.ro .i),.i,.i] [] [] [] [] [6] [.bo] [] F (fun x y (s:Int)=>L41_3 F x.1 x.2.1 x.2.2.1 x.2.2.2.1 x.2.2.2.2.1 s) (fun x y=>x.2.2.2.2.2.1) (fun x y (z:Unit)=>((),())) (fun x y (z:Bool)=>((z,()),()))
theorem lo41_3 (F:Nat):LcOk Tryz.prog (E41 F) 0 (lc41_3 F) (cAt (bodyOf Tryz.f41) [1,0,1]):=
 mkR_ok (lp:=[([1,1,1,0,0,1,1,0,0,1,0,1],lc41_4 F)]) (id:=0) (b:=cAt (bodyOf Tryz.f41) (0 :: 0 :: [1,0,1])) cok (cts41 F) mixed ⟨lo41_4 F,trivial⟩ (by kernel_rfl) (by kernel_rfl) (fun x y s=>(x.1,x.2.1,x.2.2.1,x.2.2.2.1,x.2.2.2.2.1,s,())) (fun x y s=>()) (fun x y=>rfl) (fun x y=>rfl) (fun x y s kA kO kR=>L41_3c F x.1 x.2.1 x.2.2.1 x.2.2.2.1 x.2.2.2.2.1 s kA kO kR) (fun x y s kA kO kR=>L41_3n F x.1 x.2.1 x.2.2.1 x.2.2.2.1 x.2.2.2.2.1 s kA kO kR) (fun _ _ _=>by kernel_rfl)
def T41c (F:Nat) (p0:List Int) (p1:Int) (p2:Int) {β:Type} (k:Bool->Option β):Option β:=
 (Option.bind (iter (fun s=>L41_3 F p0 p1 p2 p0 (p0.length:Int) s) F (0:Int)) fun z50=>elimS (fun z50=>(k true)) (fun z50=>(k z50)) z50)
def T41 (F:Nat) (p0:List Int) (p1:Int) (p2:Int):=T41c F p0 p1 p2 some
def ct41 (F:Nat):Ct:=mkC 0 [(.ro .i),.i,.i] [] [.bo] [] (fun x y=>T41 F x.1 x.2.1 x.2.2.1) (fun x y (z:Bool)=>((z,()),()))
theorem ok41 (F:Nat):Sound Tryz.prog cfg 41 (ct41 F):=
 mkC_ok (E:=E41 F) (lp:=[([1,0,1],lc41_3 F)]) (code:=bodyOf Tryz.f41) Tryz.func41 rfl Tryz.ntmps41 rfl rfl cok (cts41 F) mixed ⟨lo41_3 F,trivial⟩ (by kernel_rfl) (fun x y k=>T41c F x.1 x.2.1 x.2.2.1 k) (fun _ _ _=>by simp only [T41,T41c,oA,oC,oS,oN,elimS_bind]) (fun _ _=>by kernel_rfl)
def E192 (F:Nat):Ev:=⟨cfg,25,ctOf [],fun _=>[],ctOf [],fun _=>none,fun _=>none⟩
theorem cts192 (F:Nat):CtsOk Tryz.prog (E192 F):=cts_of (l:=[]) (l':=[]) rfl rfl trivial trivial
def L192_2c (F:Nat) (y5:UInt8) (y6:UInt8) (y7:UInt8) {β:Type} (kA:(UInt8×UInt8×UInt8)->Option β) (kO:UInt8->Option β):Option β:=
 (bif (y6 != (UInt8.ofNat 0)) then (bif ((y6 % (UInt8.ofNat 2)) == (UInt8.ofNat 1)) then (bif (decide ((UInt8.ofNat 128)≤y5)) then (kA (((shl8 y5 ((UInt64.ofNat 1).toNat)) ^^^ (UInt8.ofNat 29)),(y6 / (UInt8.ofNat 2)),(y7 ^^^ y5))) else (kA ((shl8 y5 ((UInt64.ofNat 1).toNat)),(y6 / (UInt8.ofNat 2)),(y7 ^^^ y5)))) else (bif (decide ((UInt8.ofNat 128)≤y5)) then (kA (((shl8 y5 ((UInt64.ofNat 1).toNat)) ^^^ (UInt8.ofNat 29)),(y6 / (UInt8.ofNat 2)),y7)) else (kA ((shl8 y5 ((UInt64.ofNat 1).toNat)),(y6 / (UInt8.ofNat 2)),y7)))) else (kO y7))
def L192_2 (F:Nat) (y5:UInt8) (y6:UInt8) (y7:UInt8):=L192_2c F y5 y6 y7 (fun s=>some (Sum.inl s)) (fun z=>some (Sum.inr z))
def lc192_2 (F:Nat):Lc:=mkL [0,1,5] [.u8,.u8,.u8] [] [5] [.u8] [] F (fun x y (s:UInt8×UInt8×UInt8)=>L192_2 F s.1 s.2.1 s.2.2) (fun x y=>(x.1,x.2.1,x.2.2.1)) (fun x y (z:UInt8)=>((z,()),()))
theorem lo192_2 (F:Nat):LcOk Tryz.prog (E192 F) 0 (lc192_2 F) (cAt (bodyOf Tryz.f192) [0,1,1]):=
 mkL_ok (lp:=[]) (id:=0) (b:=cAt (bodyOf Tryz.f192) (0 :: 0 :: [0,1,1])) cok (cts192 F) mixed trivial (by kernel_rfl) (by kernel_rfl) (fun x y s=>(s.1,s.2.1,s.2.2,())) (fun x y s=>()) (fun x y=>rfl) (fun x y=>rfl) (fun x y s kA kO=>L192_2c F s.1 s.2.1 s.2.2 kA kO) (fun _ _ _ _ _=>by simp only [L192_2,L192_2c,oA,oC,oS,oN,elimS_l,elimS_r,elimS_bind]) (fun _ _ _=>by kernel_rfl)
def T192c (F:Nat) (p0:UInt8) (p1:UInt8) {β:Type} (k:UInt8->Option β):Option β:=
 (Option.bind (iter (fun s=>L192_2 F s.1 s.2.1 s.2.2) F (p0,p1,(UInt8.ofNat 0))) fun z8=>(k z8))
def T192 (F:Nat) (p0:UInt8) (p1:UInt8):=T192c F p0 p1 some
def ct192 (F:Nat):Ct:=mkC 0 [.u8,.u8] [] [.u8] [] (fun x y=>T192 F x.1 x.2.1) (fun x y (z:UInt8)=>((z,()),()))
theorem ok192 (F:Nat):Sound Tryz.prog cfg 192 (ct192 F):=
 mkC_ok (E:=E192 F) (lp:=[([0,1,1],lc192_2 F)]) (code:=bodyOf Tryz.f192) Tryz.func192 rfl Tryz.ntmps192 rfl rfl cok (cts192 F) mixed ⟨lo192_2 F,trivial⟩ (by kernel_rfl) (fun x y k=>T192c F x.1 x.2.1 k) (fun _ _ _=>by simp only [T192,T192c,oA,oC,oS,oN,elimS_bind]) (fun _ _=>by kernel_rfl)
end Go.Proofs.YthikoaamigiceaaGreatDoor
