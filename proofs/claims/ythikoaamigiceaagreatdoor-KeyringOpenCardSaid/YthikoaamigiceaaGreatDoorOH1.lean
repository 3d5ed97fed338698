/- The functions, each with its twin, and plain facts about them. -/
import Derived.Test.YthikoaamigiceaaGreatDoorOB
import Derived.Test.YthikoaamigiceaaGreatDoorOSGr80
import Derived.Test.YthikoaamigiceaaGreatDoorOSIt94
import Derived.Test.YthikoaamigiceaaGreatDoorOSIt57
namespace Go.Proofs.YthikoaamigiceaaGreatDoor
open Go.Tw
set_option linter.unusedSimpArgs false
set_option linter.unusedVariables false
abbrev Zs:Type:=Int×Int×Int×Int
abbrev Zr:Type:=UInt64×Int×Int
abbrev Zq:Type:=UInt64×Int×Bool
abbrev Zo:Type:=Vector UInt8 16
abbrev Zn:Type:=List Int
abbrev Zm:Type:=Vector Int 4
abbrev Zl:Type:=Vector UInt32 64
abbrev Zh:Type:=Vector UInt8 64
abbrev Zg:Type:=Vector UInt32 16
abbrev Zf:Type:=Vector UInt32 8
abbrev Zb:Type:=List UInt8
abbrev Zj:Type:=Int×Zb×Unit
abbrev Zi:Type:=Int×Zb
abbrev Ze:Type:=Int×UInt64×Int×Bool×Zb×Int×Unit
abbrev Zp:Type:=List Ze
abbrev Za:Type:=Zb×Int×Int×Unit
abbrev Zd:Type:=Zb×Int×Int×Int×Int×(List Za)×Unit
abbrev Zc:Type:=Int×Int×Int×Za×Int×Int×Zb×Bool×Unit
abbrev Zk:Type:=Int×Int×Int×Zn×(List Zc)×(List Zd)×(List Za)
abbrev Qz:Sh:=.pt 1 []
abbrev Qy:Sh:=.pr (.rw 4) (.pr .i (.pr .i (.pr .i .un)))
abbrev Qx:Sh:=.ar 64 .u32
abbrev Qw:Sh:=.pt 2 []
abbrev Qv:Sh:=.ar 8 (.ar 4 .i)
abbrev Qu:Ty:=.sl .u8
abbrev Qt:Sh:=.fn 76 .un (.pr (.pt 1 []) .un)
abbrev Qs:Sh:=.pr (.rw 2) (.pr .i .un)
abbrev Qr:Sh:=.ar 8 .u32
abbrev Qq:Sh:=.pt 0 []
abbrev Qp:Sh:=.pr (.rw 3) (.pr .i .un)
abbrev Qo:Sh:=.pr .i (.pr .i (.pr .i (.pr (.pr .str (.pr .i (.pr .i .un))) (.pr .i (.pr .i (.pr .str (.pr .bo .un)))))))
abbrev Qn:Sh:=.pr (.rw 1) (.pr .i .un)
abbrev Qm:Sh:=.pr (.pr (.pr (.ar 8 .u32) (.pr (.ar 64 .u8) (.pr .i .un))) (.pr (.ar 64 .u8) .un)) .un
abbrev Ql:Sh:=.ar 16 .u32
abbrev Qk:Sh:=.pr .i (.pr .i (.pr .ns (.pr .ns (.pr .ns (.pr .ns .un)))))
abbrev Qj:Ty:=.pr .i (.pr .u64 (.pr .i (.pr .bo (.pr .s (.pr .i .un)))))
abbrev Qi:Ty:=.pr .s (.pr .i (.pr .i .un))
abbrev Qh:Sh:=.pr (.rw 3) (.pr .i (.pr .i (.pr .i .un)))
abbrev Qg:Sh:=.pr (.pr (.ro .u8) (.pr .i (.pr .i (.pr .i .un)))) .un
abbrev Qf:Sh:=.pr (.ar 8 .u32) (.pr (.ar 64 .u8) (.pr .i .un))
abbrev Qe:Sh:=.pr (.rw 2) (.pr .i (.pr .i (.pr .i .un)))
abbrev Qd:Sh:=.pr (.rw 1) (.pr .i (.pr .i (.pr .i .un)))
abbrev Qc:Ty:=.pr .s (.pr .i (.pr .i (.pr .i (.pr .i (.pr (.sl Qi) .un)))))
abbrev Qb:Ty:=.pr .i (.pr .i (.pr .i (.pr (.pr .s (.pr .i (.pr .i .un))) (.pr .i (.pr .i (.pr .s (.pr .bo .un)))))))
abbrev Qa:Sh:=.pr .i (.pr .i (.pr (.ro .i) (.pr (.ro Qb) (.pr (.ro Qc) (.pr (.ro Qi) .un)))))
theorem oA {α β γ:Type} (x:Option α) (f:α->Option β) (g:β->Option γ):(x.bind f).bind g=x.bind fun y=>(f y).bind g:=Option.bind_assoc x f g
theorem oC {α β:Type} (c:Bool) (x y:Option α) (k:α->Option β):(bif c then x else y).bind k=bif c then x.bind k else y.bind k:=cond_bind c x y k
theorem oS {α β:Type} (a:α) (f:α->Option β):(some a).bind f=f a:=rfl
theorem oN {α β:Type} (f:α->Option β):(none:Option α).bind f=none:=rfl
def E13 (F:Nat):Ev:=⟨cfg,10,ctOf [],fun _=>[],ctOf [],fun _=>none,fun _=>none⟩
theorem cts13 (F:Nat):CtsOk Tryz.prog (E13 F):=cts_of (l:=[]) (l':=[]) rfl rfl trivial trivial
def T13c (F:Nat) (p0:UInt8) {β:Type} (k:(Zb)->Option β):Option β:=
 (Option.bind (gmake (0:UInt8) (32:Int) (32:Int)) fun x3=>(Option.bind (inb x3.length (0:Int)) fun x4=>(k (List.set x3 x4 p0))))
def T13 (F:Nat) (p0:UInt8):=T13c F p0 some
def ct13 (F:Nat):Ct:=mkC 0 [.u8] [] [.str] [] (fun x y=>T13 F x.1) (fun x y (z:Zb)=>((z,()),()))
theorem ok13 (F:Nat):Sound Tryz.prog cfg 13 (ct13 F):=
 mkC_ok (E:=E13 F) (lp:=[]) (code:=bodyOf Tryz.f13) Tryz.func13 rfl Tryz.ntmps13 rfl rfl cok (cts13 F) mixed trivial (by kernel_rfl) (fun x y k=>T13c F x.1 k) (fun _ _ _=>by simp only [T13,T13c,oA,oC,oS,oN,elimS_bind]) (fun _ _=>by kernel_rfl)
def E175 (F:Nat):Ev:=⟨cfg,4,ctOf [],fun _=>[],ctOf [],fun _=>none,fun _=>none⟩
theorem cts175 (F:Nat):CtsOk Tryz.prog (E175 F):=cts_of (l:=[]) (l':=[]) rfl rfl trivial trivial
def T175c (F:Nat) {β:Type} (k:(Zf×Zh×Int)->Option β):Option β:=
 (k ((gv1),(Vector.replicate 64 (0:UInt8)),(0:Int)))
def T175 (F:Nat):=T175c F some
def ct175 (F:Nat):Ct:=mkC 0 [] [] [(.pt 0 [])] [.blk 223 Qf] (fun x y=>T175 F) (fun x y (z:Zf×Zh×Int)=>(((),()),((z.1,z.2.1,z.2.2,()),())))
theorem ok175 (F:Nat):Sound Tryz.prog cfg 175 (ct175 F):=
 mkC_ok (E:=E175 F) (lp:=[]) (code:=bodyOf Tryz.f175) Tryz.func175 rfl Tryz.ntmps175 rfl rfl cok (cts175 F) mixed trivial (by kernel_rfl) (fun x y k=>T175c F k) (fun _ _ _=>by simp only [T175,T175c,oA,oC,oS,oN,elimS_bind]) (fun _ _=>by kernel_rfl)
def E201 (F:Nat):Ev:=⟨cfg,17,ctOf [],fun _=>[],ctOf [],fun _=>none,fun _=>none⟩
theorem cts201 (F:Nat):CtsOk Tryz.prog (E201 F):=cts_of (l:=[]) (l':=[]) rfl rfl trivial trivial
def T201c (F:Nat) (p0:UInt32) (p1:Int) {β:Type} (k:UInt32->Option β):Option β:=
 (k ((shl32 p0 (((UInt64.ofInt p1) &&& (UInt64.ofNat 31)).toNat)) ||| (shr32 p0 (((UInt64.ofNat 32) - ((UInt64.ofInt p1) &&& (UInt64.ofNat 31))).toNat))))
def T201 (F:Nat) (p0:UInt32) (p1:Int):=T201c F p0 p1 some
def ct201 (F:Nat):Ct:=mkC 0 [.u32,.i] [] [.u32] [] (fun x y=>T201 F x.1 x.2.1) (fun x y (z:UInt32)=>((z,()),()))
theorem ok201 (F:Nat):Sound Tryz.prog cfg 201 (ct201 F):=
 mkC_ok (E:=E201 F) (lp:=[]) (code:=bodyOf Tryz.f201) Tryz.func201 rfl Tryz.ntmps201 rfl rfl cok (cts201 F) mixed trivial (by kernel_rfl) (fun x y k=>T201c F x.1 x.2.1 k) (fun _ _ _=>by simp only [T201,T201c,oA,oC,oS,oN,elimS_bind]) (fun _ _=>by kernel_rfl)
def ord200:Nat->List (Tag×Nat)
 | 6=>[(.p,0),(.p,1),(.p,2),(.r,3),(.p,4),(.p,5),(.p,6),(.p,7),(.r,8),(.p,9),(.p,10),(.p,11),(.p,12),(.p,13),(.r,14),(.p,15),(.p,16),(.p,17),(.p,18),(.p,19),(.r,20),(.p,21),(.p,22),(.p,23),(.w,24)]
 | 7=>[(.p,0),(.p,1),(.p,2),(.r,3),(.p,4),(.p,5),(.p,6),(.r,7),(.p,8),(.p,9)]
 | 10=>[(.p,0),(.p,1),(.p,2),(.p,3),(.p,4),(.r,5),(.p,6),(.p,7),(.p,8),(.p,9),(.p,10),(.p,11),(.r,12),(.p,13),(.p,14),(.w,15)]
 | 13=>[(.p,0),(.r,1),(.p,2),(.r,3),(.p,4),(.r,5),(.p,6),(.r,7),(.p,8),(.r,9),(.p,10),(.r,11),(.p,12),(.r,13),(.p,14),(.r,15),(.p,16),(.p,17),(.p,18),(.p,19),(.p,20),(.p,21),(.p,22),(.p,23)]
 | 19=>[(.p,0),(.p,1),(.p,2),(.p,3),(.p,4),(.p,5),(.p,6),(.p,7),(.p,8),(.p,9),(.p,10),(.p,11),(.p,12),(.p,13),(.r,14),(.p,15),(.p,16),(.p,17),(.r,18),(.p,19),(.p,20)]
 | 26=>[(.p,0),(.p,1),(.p,2),(.p,3),(.r,4),(.p,5),(.p,6),(.p,7),(.p,8),(.p,9),(.w,10)]
 | _=>[]
def E200 (F:Nat):Ev:=⟨cfg,212,ctOf [(201,ct201 F)],ord200,ctOf [],fun _=>none,fun _=>none⟩
theorem cts200 (F:Nat):CtsOk Tryz.prog (E200 F):=cts_of (l:=[(201,ct201 F)]) (l':=[]) rfl rfl ⟨⟨ok201 F,_,Tryz.func201,rfl,rfl⟩,trivial⟩ trivial
def L200_4c (F:Nat) (y113:Vector UInt8 64) (y110:Nat×Nat) (y111:Int) (y115:Vector UInt32 64) {β:Type} (kA:((Nat×Nat)×Int×Zl)->Option β) (kO:(Zl)->Option β):Option β:=
 (bif (decide (y111 < (64:Int))) then (bif (decide (y111 < (16:Int))) then (Option.bind (gslb (y110.2 - y110.1) (w64 ((4:Int) * y111)) (w64 ((w64 ((4:Int) * y111)) + (4:Int)))) fun x139=>(Option.bind (inb ((y110.1 + x139.2) - (y110.1 + x139.1)) (0:Int)) fun x140=>(Option.bind (vat y113 ((y110.1 + x139.1) + x140)) fun x141=>(Option.bind (inb ((y110.1 + x139.2) - (y110.1 + x139.1)) (1:Int)) fun x142=>(Option.bind (vat y113 ((y110.1 + x139.1) + x142)) fun x143=>(Option.bind (inb ((y110.1 + x139.2) - (y110.1 + x139.1)) (2:Int)) fun x144=>(Option.bind (vat y113 ((y110.1 + x139.1) + x144)) fun x145=>(Option.bind (inb ((y110.1 + x139.2) - (y110.1 + x139.1)) (3:Int)) fun x146=>(Option.bind (vat y113 ((y110.1 + x139.1) + x146)) fun x147=>(Option.bind (inb 64 y111) fun x148=>(kA ((y110.1,y110.2),(w64 (y111 + (1:Int))),(Vector.setIfInBounds y115 x148 ((((shl32 (x141.toUInt32) ((UInt64.ofNat 24).toNat)) ||| (shl32 (x143.toUInt32) ((UInt64.ofNat 16).toNat))) ||| (shl32 (x145.toUInt32) ((UInt64.ofNat 8).toNat))) ||| (x147.toUInt32))))))))))))))) else (Option.bind (inb 64 (w64 (y111 - (2:Int)))) fun x149=>(Option.bind (vat y115 x149) fun x150=>(Option.bind (inb 64 (w64 (y111 - (15:Int)))) fun x151=>(Option.bind (vat y115 x151) fun x152=>(Option.bind (T201 F x150 (-17:Int)) fun z153=>(Option.bind (T201 F x150 (-19:Int)) fun z154=>(Option.bind (T201 F x152 (-7:Int)) fun z155=>(Option.bind (T201 F x152 (-18:Int)) fun z156=>(Option.bind (inb 64 (w64 (y111 - (7:Int)))) fun x157=>(Option.bind (vat y115 x157) fun x158=>(Option.bind (inb 64 (w64 (y111 - (16:Int)))) fun x159=>(Option.bind (vat y115 x159) fun x160=>(Option.bind (inb 64 y111) fun x161=>(kA ((y110.1,y110.2),(w64 (y111 + (1:Int))),(Vector.setIfInBounds y115 x161 (((((z153 ^^^ z154) ^^^ (shr32 x150 ((UInt64.ofNat 10).toNat))) + x158) + ((z155 ^^^ z156) ^^^ (shr32 x152 ((UInt64.ofNat 3).toNat)))) + x160)))))))))))))))))) else (kO y115))
def L200_4 (F:Nat) (y113:Vector UInt8 64) (y110:Nat×Nat) (y111:Int) (y115:Vector UInt32 64):=L200_4c F y113 y110 y111 y115 (fun s=>some (Sum.inl s)) (fun z=>some (Sum.inr z))
def lc200_4 (F:Nat):Lc:=mkL [0,1,4,27] [(.pt 0 []),(.ap 0 [1]),(.pt 1 []),.i] [.blk 223 Qf,.blk 231 Qx] [0,4] [(.pt 0 []),(.pt 1 [])] [.blk 223 Qf,.blk 231 Qx] F (fun x y (s:(Nat×Nat)×Int×Zl)=>L200_4 F y.1.2.1 s.1 s.2.1 s.2.2) (fun x y=>(x.2.1,x.2.2.2.1,y.2.1)) (fun x y (z:Zl)=>(((),(),()),((y.1.1,y.1.2.1,y.1.2.2.1,()),z,())))
theorem lo200_4 (F:Nat):LcOk Tryz.prog (E200 F) 1 (lc200_4 F) (cAt (bodyOf Tryz.f200) [1,0,1]):=
 mkL_ok (lp:=[]) (id:=0) (b:=cAt (bodyOf Tryz.f200) (0 :: 0 :: [1,0,1])) cok (cts200 F) mixed trivial (by kernel_rfl) (by kernel_rfl) (fun x y s=>((),s.1,(),s.2.1,())) (fun x y s=>((y.1.1,y.1.2.1,y.1.2.2.1,()),s.2.2,())) (fun x y=>rfl) (fun x y=>rfl) (fun x y s kA kO=>L200_4c F y.1.2.1 s.1 s.2.1 s.2.2 kA kO) (fun _ _ _ _ _=>by simp only [L200_4,L200_4c,oA,oC,oS,oN,elimS_l,elimS_r,elimS_bind]) (fun _ _ _=>by kernel_rfl)
def L200_5c (F:Nat) (y183:Vector UInt32 64) (y171:UInt32) (y172:UInt32) (y173:UInt32) (y174:UInt32) (y175:UInt32) (y176:UInt32) (y177:UInt32) (y178:UInt32) (y179:Int) {β:Type} (kA:(UInt32×UInt32×UInt32×UInt32×UInt32×UInt32×UInt32×UInt32×Int)->Option β) (kO:(UInt32×UInt32×UInt32×UInt32×UInt32×UInt32×UInt32×UInt32)->Option β):Option β:=
 (bif (decide (y179 < (64:Int))) then (Option.bind (T201 F y175 (-6:Int)) fun z194=>(Option.bind (T201 F y175 (-11:Int)) fun z195=>(Option.bind (T201 F y175 (-25:Int)) fun z196=>(Option.bind (T201 F y171 (-2:Int)) fun z197=>(Option.bind (T201 F y171 (-13:Int)) fun z198=>(Option.bind (T201 F y171 (-22:Int)) fun z199=>(Option.bind (vix (gv2) y179) fun x200=>(Option.bind (inb 64 y179) fun x201=>(Option.bind (vat y183 x201) fun x202=>(kA ((((((y178 + ((z194 ^^^ z195) ^^^ z196)) + ((y175 &&& y176) ^^^ ((~~~y175) &&& y177))) + x200) + x202) + (((z197 ^^^ z198) ^^^ z199) + (((y171 &&& y172) ^^^ (y171 &&& y173)) ^^^ (y172 &&& y173)))),y171,y172,y173,(y174 + ((((y178 + ((z194 ^^^ z195) ^^^ z196)) + ((y175 &&& y176) ^^^ ((~~~y175) &&& y177))) + x200) + x202)),y175,y176,y177,(w64 (y179 + (1:Int)))))))))))))) else (kO (y171,y172,y173,y174,y175,y176,y177,y178)))
def L200_5 (F:Nat) (y183:Vector UInt32 64) (y171:UInt32) (y172:UInt32) (y173:UInt32) (y174:UInt32) (y175:UInt32) (y176:UInt32) (y177:UInt32) (y178:UInt32) (y179:Int):=L200_5c F y183 y171 y172 y173 y174 y175 y176 y177 y178 y179 (fun s=>some (Sum.inl s)) (fun z=>some (Sum.inr z))
def lc200_5 (F:Nat):Lc:=mkL [0,4,11,12,13,14,15,16,17,18,19,123] [(.pt 0 []),(.pt 1 []),(.pt 2 []),.u32,.u32,.u32,.u32,.u32,.u32,.u32,.u32,.i] [.blk 223 Qf,.blk 231 Qx,.blk 192 Qr] [0,11,12,13,14,15,16,17,18,19] [(.pt 0 []),(.pt 1 []),.u32,.u32,.u32,.u32,.u32,.u32,.u32,.u32] [.blk 223 Qf,.blk 192 Qr] F (fun x y (s:UInt32×UInt32×UInt32×UInt32×UInt32×UInt32×UInt32×UInt32×Int)=>L200_5 F y.2.1 s.1 s.2.1 s.2.2.1 s.2.2.2.1 s.2.2.2.2.1 s.2.2.2.2.2.1 s.2.2.2.2.2.2.1 s.2.2.2.2.2.2.2.1 s.2.2.2.2.2.2.2.2) (fun x y=>(x.2.2.2.1,x.2.2.2.2.1,x.2.2.2.2.2.1,x.2.2.2.2.2.2.1,x.2.2.2.2.2.2.2.1,x.2.2.2.2.2.2.2.2.1,x.2.2.2.2.2.2.2.2.2.1,x.2.2.2.2.2.2.2.2.2.2.1,x.2.2.2.2.2.2.2.2.2.2.2.1)) (fun x y (z:UInt32×UInt32×UInt32×UInt32×UInt32×UInt32×UInt32×UInt32)=>(((),(),z.1,z.2.1,z.2.2.1,z.2.2.2.1,z.2.2.2.2.1,z.2.2.2.2.2.1,z.2.2.2.2.2.2.1,z.2.2.2.2.2.2.2,()),((y.1.1,y.1.2.1,y.1.2.2.1,()),y.2.2.1,())))
theorem lo200_5 (F:Nat):LcOk Tryz.prog (E200 F) 1 (lc200_5 F) (cAt (bodyOf Tryz.f200) [1,0,1,1,1,1]):=
 mkL_ok (lp:=[]) (id:=2) (b:=cAt (bodyOf Tryz.f200) (0 :: 0 :: [1,0,1,1,1,1])) cok (cts200 F) mixed trivial (by kernel_rfl) (by kernel_rfl) (fun x y s=>((),(),(),s.1,s.2.1,s.2.2.1,s.2.2.2.1,s.2.2.2.2.1,s.2.2.2.2.2.1,s.2.2.2.2.2.2.1,s.2.2.2.2.2.2.2.1,s.2.2.2.2.2.2.2.2,())) (fun x y s=>((y.1.1,y.1.2.1,y.1.2.2.1,()),y.2.1,y.2.2.1,())) (fun x y=>rfl) (fun x y=>rfl) (fun x y s kA kO=>L200_5c F y.2.1 s.1 s.2.1 s.2.2.1 s.2.2.2.1 s.2.2.2.2.1 s.2.2.2.2.2.1 s.2.2.2.2.2.2.1 s.2.2.2.2.2.2.2.1 s.2.2.2.2.2.2.2.2 kA kO) (fun _ _ _ _ _=>by simp only [L200_5,L200_5c,oA,oC,oS,oN,elimS_l,elimS_r,elimS_bind]) (fun _ _ _=>by kernel_rfl)
def L200_6c (F:Nat) (y204:Vector UInt32 8) (y209:Vector UInt32 8) (y205:Int) (y206:Vector UInt32 8) {β:Type} (kA:(Int×Zf)->Option β) (kO:(Zf)->Option β):Option β:=
 (bif (decide (y205 < (8:Int))) then (Option.bind (vix y204 y205) fun x214=>(Option.bind (inb 8 y205) fun x215=>(Option.bind (vat y209 x215) fun x216=>(Option.bind (inb 8 y205) fun x217=>(kA ((w64 (y205 + (1:Int))),(Vector.setIfInBounds y206 x217 (x216 + x214)))))))) else (kO y206))
def L200_6 (F:Nat) (y204:Vector UInt32 8) (y209:Vector UInt32 8) (y205:Int) (y206:Vector UInt32 8):=L200_6c F y204 y209 y205 y206 (fun s=>some (Sum.inl s)) (fun z=>some (Sum.inr z))
def lc200_6 (F:Nat):Lc:=mkL [0,11,196,197] [(.pt 0 []),(.pt 1 []),(.ar 8 .u32),.i] [.blk 223 Qf,.blk 192 Qr] [] [] [.blk 223 Qf] F (fun x y (s:Int×Zf)=>L200_6 F x.2.2.1 y.2.1 s.1 s.2) (fun x y=>(x.2.2.2.1,y.1.1)) (fun x y (z:Zf)=>((),((z,y.1.2.1,y.1.2.2.1,()),())))
theorem lo200_6 (F:Nat):LcOk Tryz.prog (E200 F) 1 (lc200_6 F) (cAt (bodyOf Tryz.f200) [1,1,1,1,1,1]):=
 mkL_ok (lp:=[]) (id:=4) (b:=cAt (bodyOf Tryz.f200) (0 :: 0 :: [1,1,1,1,1,1])) cok (cts200 F) mixed trivial (by kernel_rfl) (by kernel_rfl) (fun x y s=>((),(),x.2.2.1,s.1,())) (fun x y s=>((s.2,y.1.2.1,y.1.2.2.1,()),y.2.1,())) (fun x y=>rfl) (fun x y=>rfl) (fun x y s kA kO=>L200_6c F x.2.2.1 y.2.1 s.1 s.2 kA kO) (fun _ _ _ _ _=>by simp only [L200_6,L200_6c,oA,oC,oS,oN,elimS_l,elimS_r,elimS_bind]) (fun _ _ _=>by kernel_rfl)
def T200c (F:Nat) (p0:Nat×Nat) (p1:Vector UInt32 8) (p2:Vector UInt8 64) {β:Type} (k:(Zf)->Option β):Option β:=
 (Option.bind (iter (fun s=>L200_4 F p2 s.1 s.2.1 s.2.2) F ((p0.1,p0.2),(0:Int),(Vector.replicate 64 (0:UInt32)))) fun z162=>(Option.bind (vat p1 0) fun x163=>(Option.bind (vat p1 1) fun x164=>(Option.bind (vat p1 2) fun x165=>(Option.bind (vat p1 3) fun x166=>(Option.bind (vat p1 4) fun x167=>(Option.bind (vat p1 5) fun x168=>(Option.bind (vat p1 6) fun x169=>(Option.bind (vat p1 7) fun x170=>(Option.bind (iter (fun s=>L200_5 F z162 s.1 s.2.1 s.2.2.1 s.2.2.2.1 s.2.2.2.2.1 s.2.2.2.2.2.1 s.2.2.2.2.2.2.1 s.2.2.2.2.2.2.2.1 s.2.2.2.2.2.2.2.2) F (x163,x164,x165,x166,x167,x168,x169,x170,(0:Int))) fun z203=>(Option.bind (iter (fun s=>L200_6 F (#v[z203.1,z203.2.1,z203.2.2.1,z203.2.2.2.1,z203.2.2.2.2.1,z203.2.2.2.2.2.1,z203.2.2.2.2.2.2.1,z203.2.2.2.2.2.2.2]:Vector UInt32 8) p1 s.1 s.2) F ((0:Int),p1)) fun z218=>(k z218))))))))))))
def T200 (F:Nat) (p0:Nat×Nat) (p1:Vector UInt32 8) (p2:Vector UInt8 64):=T200c F p0 p1 p2 some
def ct200 (F:Nat):Ct:=mkC 1 [(.pt 0 []),(.ap 0 [1])] [.blk 223 Qf] [] [.blk 223 Qf] (fun x y=>T200 F x.2.1 y.1.1 y.1.2.1) (fun x y (z:Zf)=>((),((z,y.1.2.1,y.1.2.2.1,()),())))
theorem ok200 (F:Nat):Sound Tryz.prog cfg 200 (ct200 F):=
 mkC_ok (E:=E200 F) (lp:=[([1,0,1],lc200_4 F),([1,0,1,1,1,1],lc200_5 F),([1,1,1,1,1,1],lc200_6 F)]) (code:=bodyOf Tryz.f200) Tryz.func200 rfl Tryz.ntmps200 rfl rfl cok (cts200 F) mixed ⟨lo200_4 F,⟨lo200_5 F,⟨lo200_6 F,trivial⟩⟩⟩ (by kernel_rfl) (fun x y k=>T200c F x.2.1 y.1.1 y.1.2.1 k) (fun _ _ _=>by simp only [T200,T200c,oA,oC,oS,oN,elimS_bind]) (fun _ _=>by kernel_rfl)
def ord200x1:Nat->List (Tag×Nat)
 | 6=>[(.p,0),(.p,1),(.p,2),(.r,3),(.p,4),(.p,5),(.p,6),(.p,7),(.r,8),(.p,9),(.p,10),(.p,11),(.p,12),(.p,13),(.r,14),(.p,15),(.p,16),(.p,17),(.p,18),(.p,19),(.r,20),(.p,21),(.p,22),(.p,23),(.w,24)]
 | 7=>[(.p,0),(.p,1),(.p,2),(.r,3),(.p,4),(.p,5),(.p,6),(.r,7),(.p,8),(.p,9)]
 | 10=>[(.p,0),(.p,1),(.p,2),(.p,3),(.p,4),(.r,5),(.p,6),(.p,7),(.p,8),(.p,9),(.p,10),(.p,11),(.r,12),(.p,13),(.p,14),(.w,15)]
 | 13=>[(.p,0),(.r,1),(.p,2),(.r,3),(.p,4),(.r,5),(.p,6),(.r,7),(.p,8),(.r,9),(.p,10),(.r,11),(.p,12),(.r,13),(.p,14),(.r,15),(.p,16),(.p,17),(.p,18),(.p,19),(.p,20),(.p,21),(.p,22),(.p,23)]
 | 19=>[(.p,0),(.p,1),(.p,2),(.p,3),(.p,4),(.p,5),(.p,6),(.p,7),(.p,8),(.p,9),(.p,10),(.p,11),(.p,12),(.p,13),(.r,14),(.p,15),(.p,16),(.p,17),(.r,18),(.p,19),(.p,20)]
 | 26=>[(.p,0),(.p,1),(.p,2),(.p,3),(.r,4),(.p,5),(.p,6),(.p,7),(.p,8),(.p,9),(.w,10)]
 | _=>[]
def al200x1:Nat->Option Nat
 | _=>none
def ms200x1:Nat->Option (List (Option Tag×Nat×List Nat))
 | _=>none
def E200x1 (F:Nat):Ev:=⟨cfg,212,ctOf [(201,ct201 F)],ord200x1,ctOf [],al200x1,ms200x1⟩
theorem cts200x1 (F:Nat):CtsOk Tryz.prog (E200x1 F):=cts_of (l:=[(201,ct201 F)]) (l':=[]) rfl rfl ⟨⟨ok201 F,_,Tryz.func201,rfl,rfl⟩,trivial⟩ trivial
def L200x1_4c (F:Nat) (y102:List UInt8) (y103:Int) (y107:Vector UInt32 64) {β:Type} (kA:(Int×(Vector UInt32 64))->Option β) (kO:((Vector UInt32 64))->Option β):Option β:=
 (bif (decide (y103 < (64:Int))) then (bif (decide (y103 < (16:Int))) then (Option.bind (gsl y102 (w64 ((4:Int) * y103)) (w64 ((w64 ((4:Int) * y103)) + (4:Int)))) fun x127=>(Option.bind (ix x127 (0:Int)) fun x128=>(Option.bind (ix x127 (1:Int)) fun x129=>(Option.bind (ix x127 (2:Int)) fun x130=>(Option.bind (ix x127 (3:Int)) fun x131=>(Option.bind (inb 64 y103) fun x132=>(kA ((w64 (y103 + (1:Int))),(Vector.setIfInBounds y107 x132 ((((shl32 (x128.toUInt32) ((UInt64.ofNat 24).toNat)) ||| (shl32 (x129.toUInt32) ((UInt64.ofNat 16).toNat))) ||| (shl32 (x130.toUInt32) ((UInt64.ofNat 8).toNat))) ||| (x131.toUInt32))))))))))) else (Option.bind (inb 64 (w64 (y103 - (2:Int)))) fun x133=>(Option.bind (vat y107 x133) fun x134=>(Option.bind (inb 64 (w64 (y103 - (15:Int)))) fun x135=>(Option.bind (vat y107 x135) fun x136=>(Option.bind (T201 F x134 (-17:Int)) fun z137=>(Option.bind (T201 F x134 (-19:Int)) fun z138=>(Option.bind (T201 F x136 (-7:Int)) fun z139=>(Option.bind (T201 F x136 (-18:Int)) fun z140=>(Option.bind (inb 64 (w64 (y103 - (7:Int)))) fun x141=>(Option.bind (vat y107 x141) fun x142=>(Option.bind (inb 64 (w64 (y103 - (16:Int)))) fun x143=>(Option.bind (vat y107 x143) fun x144=>(Option.bind (inb 64 y103) fun x145=>(kA ((w64 (y103 + (1:Int))),(Vector.setIfInBounds y107 x145 (((((z137 ^^^ z138) ^^^ (shr32 x134 ((UInt64.ofNat 10).toNat))) + x142) + ((z139 ^^^ z140) ^^^ (shr32 x136 ((UInt64.ofNat 3).toNat)))) + x144)))))))))))))))))) else (kO y107))
def L200x1_4 (F:Nat) (y102:List UInt8) (y103:Int) (y107:Vector UInt32 64):Option ((Int×(Vector UInt32 64)) ⊕ ((Vector UInt32 64))):=L200x1_4c F y102 y103 y107 (fun s=>some (.inl s)) (fun z=>some (.inr z))
theorem L200x1_4n (F:Nat) (y102:List UInt8) (y103:Int) (y107:Vector UInt32 64) {β:Type} (kA:(Int×(Vector UInt32 64))->Option β) (kO:((Vector UInt32 64))->Option β):L200x1_4c F y102 y103 y107 kA kO=(L200x1_4 F y102 y103 y107).bind (elimS kA kO):=by
 simp only [L200x1_4,L200x1_4c,Option.bind_assoc,cond_bind,Option.bind_some,Option.bind_none,elimS_l,elimS_r,elimS_bind]
abbrev sA200x1_4:List Sh:=[(.pt 0 []),(.ro .u8),(.pt 1 []),.i]
abbrev sAp1200x1_4:List Sh:=[(.pt 0 []),(.pt 1 [])]
abbrev sT200x1_4:List TSh:=[.blk 223 (.pr (.ar 8 .u32) (.pr (.ar 64 .u8) (.pr .i .un))),.blk 231 (.ar 64 .u32)]
abbrev sTp1200x1_4:List TSh:=[.blk 223 (.pr (.ar 8 .u32) (.pr (.ar 64 .u8) (.pr .i .un))),.blk 231 (.ar 64 .u32)]
def lc200x1_4 (F:Nat):Lc:=mkL [0,1,4,27] sA200x1_4 sT200x1_4 [0,4] sAp1200x1_4 sTp1200x1_4 F (fun x y (s:Int×(Vector UInt32 64))=>L200x1_4 F x.2.1 s.1 s.2) (fun x y=>(x.2.2.2.1,y.2.1)) (fun x y (z:(Vector UInt32 64))=>(((),(),()),((y.1.1,y.1.2.1,y.1.2.2.1,()),z,())))
theorem le200x1_4 (F:Nat) (x:dens sA200x1_4) (y:tdens sT200x1_4) (s:Int×(Vector UInt32 64)):sev (E200x1 F) 1 [] (cAt (bodyOf Tryz.f200) (0 :: 0 :: [1,0,1])) (0 :: 0 :: [1,0,1]) (mkSt [0,1,4,27] sA200x1_4 sT200x1_4 ((),x.2.1,(),s.1,()) ((y.1.1,y.1.2.1,y.1.2.2.1,()),s.2,())) (kLoop 1 [0,1,4,27] sA200x1_4 sT200x1_4 [0,4] sAp1200x1_4 sTp1200x1_4 [] [] [] 0 (fun x y=>some (.inl (x,y))) (fun x y=>some (.inr (.inl (x,y)))) (fun x y=>some (.inr (.inr (x,y))))) =
  L200x1_4c (β:=Full sA200x1_4 sT200x1_4 sAp1200x1_4 sTp1200x1_4 [] []) F x.2.1 s.1 s.2 (fun s=>some (.inl (((),x.2.1,(),s.1,()),((y.1.1,y.1.2.1,y.1.2.2.1,()),s.2,())))) (fun z=>some (.inr (.inl (((),(),()),((y.1.1,y.1.2.1,y.1.2.2.1,()),z,()))))):=by kernel_rfl
theorem lo200x1_4 (F:Nat):LcOk Tryz.prog (E200x1 F) 1 (lc200x1_4 F) (cAt (bodyOf Tryz.f200) [1,0,1]):=
 mkL_ok (lp:=[]) (id:=0) (b:=cAt (bodyOf Tryz.f200) (0 :: 0 :: [1,0,1])) cok (cts200x1 F) mixed trivial (by kernel_rfl) (by kernel_rfl) (fun x y s=>((),x.2.1,(),s.1,())) (fun x y s=>((y.1.1,y.1.2.1,y.1.2.2.1,()),s.2,())) (fun x y=>rfl) (fun x y=>rfl) (fun x y s kA kO=>L200x1_4c F x.2.1 s.1 s.2 kA kO) (fun x y s kA kO=>L200x1_4n F x.2.1 s.1 s.2 kA kO) (le200x1_4 F)
def L200x1_5c (F:Nat) (y167:Vector UInt32 64) (y155:UInt32) (y156:UInt32) (y157:UInt32) (y158:UInt32) (y159:UInt32) (y160:UInt32) (y161:UInt32) (y162:UInt32) (y163:Int) {β:Type} (kA:(UInt32×UInt32×UInt32×UInt32×UInt32×UInt32×UInt32×UInt32×Int)->Option β) (kO:(UInt32×UInt32×UInt32×UInt32×UInt32×UInt32×UInt32×UInt32)->Option β):Option β:=
 (bif (decide (y163 < (64:Int))) then (Option.bind (T201 F y159 (-6:Int)) fun z178=>(Option.bind (T201 F y159 (-11:Int)) fun z179=>(Option.bind (T201 F y159 (-25:Int)) fun z180=>(Option.bind (T201 F y155 (-2:Int)) fun z181=>(Option.bind (T201 F y155 (-13:Int)) fun z182=>(Option.bind (T201 F y155 (-22:Int)) fun z183=>(Option.bind (vix (gv2) y163) fun x184=>(Option.bind (inb 64 y163) fun x185=>(Option.bind (vat y167 x185) fun x186=>(kA ((((((y162 + ((z178 ^^^ z179) ^^^ z180)) + ((y159 &&& y160) ^^^ ((~~~y159) &&& y161))) + x184) + x186) + (((z181 ^^^ z182) ^^^ z183) + (((y155 &&& y156) ^^^ (y155 &&& y157)) ^^^ (y156 &&& y157)))),y155,y156,y157,(y158 + ((((y162 + ((z178 ^^^ z179) ^^^ z180)) + ((y159 &&& y160) ^^^ ((~~~y159) &&& y161))) + x184) + x186)),y159,y160,y161,(w64 (y163 + (1:Int)))))))))))))) else (kO (y155,y156,y157,y158,y159,y160,y161,y162)))
def L200x1_5 (F:Nat) (y167:Vector UInt32 64) (y155:UInt32) (y156:UInt32) (y157:UInt32) (y158:UInt32) (y159:UInt32) (y160:UInt32) (y161:UInt32) (y162:UInt32) (y163:Int):Option ((UInt32×UInt32×UInt32×UInt32×UInt32×UInt32×UInt32×UInt32×Int) ⊕ (UInt32×UInt32×UInt32×UInt32×UInt32×UInt32×UInt32×UInt32)):=L200x1_5c F y167 y155 y156 y157 y158 y159 y160 y161 y162 y163 (fun s=>some (.inl s)) (fun z=>some (.inr z))
theorem L200x1_5n (F:Nat) (y167:Vector UInt32 64) (y155:UInt32) (y156:UInt32) (y157:UInt32) (y158:UInt32) (y159:UInt32) (y160:UInt32) (y161:UInt32) (y162:UInt32) (y163:Int) {β:Type} (kA:(UInt32×UInt32×UInt32×UInt32×UInt32×UInt32×UInt32×UInt32×Int)->Option β) (kO:(UInt32×UInt32×UInt32×UInt32×UInt32×UInt32×UInt32×UInt32)->Option β):L200x1_5c F y167 y155 y156 y157 y158 y159 y160 y161 y162 y163 kA kO=(L200x1_5 F y167 y155 y156 y157 y158 y159 y160 y161 y162 y163).bind (elimS kA kO):=by
 simp only [L200x1_5,L200x1_5c,Option.bind_assoc,cond_bind,Option.bind_some,Option.bind_none,elimS_l,elimS_r,elimS_bind]
abbrev sA200x1_5:List Sh:=[(.pt 0 []),(.pt 1 []),(.pt 2 []),.u32,.u32,.u32,.u32,.u32,.u32,.u32,.u32,.i]
abbrev sAp1200x1_5:List Sh:=[(.pt 0 []),(.pt 1 []),.u32,.u32,.u32,.u32,.u32,.u32,.u32,.u32]
abbrev sT200x1_5:List TSh:=[.blk 223 (.pr (.ar 8 .u32) (.pr (.ar 64 .u8) (.pr .i .un))),.blk 231 (.ar 64 .u32),.blk 192 (.ar 8 .u32)]
abbrev sTp1200x1_5:List TSh:=[.blk 223 (.pr (.ar 8 .u32) (.pr (.ar 64 .u8) (.pr .i .un))),.blk 192 (.ar 8 .u32)]
def lc200x1_5 (F:Nat):Lc:=mkL [0,4,11,12,13,14,15,16,17,18,19,123] sA200x1_5 sT200x1_5 [0,11,12,13,14,15,16,17,18,19] sAp1200x1_5 sTp1200x1_5 F (fun x y (s:UInt32×UInt32×UInt32×UInt32×UInt32×UInt32×UInt32×UInt32×Int)=>L200x1_5 F y.2.1 s.1 s.2.1 s.2.2.1 s.2.2.2.1 s.2.2.2.2.1 s.2.2.2.2.2.1 s.2.2.2.2.2.2.1 s.2.2.2.2.2.2.2.1 s.2.2.2.2.2.2.2.2) (fun x y=>(x.2.2.2.1,x.2.2.2.2.1,x.2.2.2.2.2.1,x.2.2.2.2.2.2.1,x.2.2.2.2.2.2.2.1,x.2.2.2.2.2.2.2.2.1,x.2.2.2.2.2.2.2.2.2.1,x.2.2.2.2.2.2.2.2.2.2.1,x.2.2.2.2.2.2.2.2.2.2.2.1)) (fun x y (z:UInt32×UInt32×UInt32×UInt32×UInt32×UInt32×UInt32×UInt32)=>(((),(),z.1,z.2.1,z.2.2.1,z.2.2.2.1,z.2.2.2.2.1,z.2.2.2.2.2.1,z.2.2.2.2.2.2.1,z.2.2.2.2.2.2.2,()),((y.1.1,y.1.2.1,y.1.2.2.1,()),y.2.2.1,())))
theorem le200x1_5 (F:Nat) (x:dens sA200x1_5) (y:tdens sT200x1_5) (s:UInt32×UInt32×UInt32×UInt32×UInt32×UInt32×UInt32×UInt32×Int):sev (E200x1 F) 1 [] (cAt (bodyOf Tryz.f200) (0 :: 0 :: [1,0,1,1,1,1])) (0 :: 0 :: [1,0,1,1,1,1]) (mkSt [0,4,11,12,13,14,15,16,17,18,19,123] sA200x1_5 sT200x1_5 ((),(),(),s.1,s.2.1,s.2.2.1,s.2.2.2.1,s.2.2.2.2.1,s.2.2.2.2.2.1,s.2.2.2.2.2.2.1,s.2.2.2.2.2.2.2.1,s.2.2.2.2.2.2.2.2,()) ((y.1.1,y.1.2.1,y.1.2.2.1,()),y.2.1,y.2.2.1,())) (kLoop 1 [0,4,11,12,13,14,15,16,17,18,19,123] sA200x1_5 sT200x1_5 [0,11,12,13,14,15,16,17,18,19] sAp1200x1_5 sTp1200x1_5 [] [] [] 2 (fun x y=>some (.inl (x,y))) (fun x y=>some (.inr (.inl (x,y)))) (fun x y=>some (.inr (.inr (x,y))))) =
  L200x1_5c (β:=Full sA200x1_5 sT200x1_5 sAp1200x1_5 sTp1200x1_5 [] []) F y.2.1 s.1 s.2.1 s.2.2.1 s.2.2.2.1 s.2.2.2.2.1 s.2.2.2.2.2.1 s.2.2.2.2.2.2.1 s.2.2.2.2.2.2.2.1 s.2.2.2.2.2.2.2.2 (fun s=>some (.inl (((),(),(),s.1,s.2.1,s.2.2.1,s.2.2.2.1,s.2.2.2.2.1,s.2.2.2.2.2.1,s.2.2.2.2.2.2.1,s.2.2.2.2.2.2.2.1,s.2.2.2.2.2.2.2.2,()),((y.1.1,y.1.2.1,y.1.2.2.1,()),y.2.1,y.2.2.1,())))) (fun z=>some (.inr (.inl (((),(),z.1,z.2.1,z.2.2.1,z.2.2.2.1,z.2.2.2.2.1,z.2.2.2.2.2.1,z.2.2.2.2.2.2.1,z.2.2.2.2.2.2.2,()),((y.1.1,y.1.2.1,y.1.2.2.1,()),y.2.2.1,()))))):=by kernel_rfl
theorem lo200x1_5 (F:Nat):LcOk Tryz.prog (E200x1 F) 1 (lc200x1_5 F) (cAt (bodyOf Tryz.f200) [1,0,1,1,1,1]):=
 mkL_ok (lp:=[]) (id:=2) (b:=cAt (bodyOf Tryz.f200) (0 :: 0 :: [1,0,1,1,1,1])) cok (cts200x1 F) mixed trivial (by kernel_rfl) (by kernel_rfl) (fun x y s=>((),(),(),s.1,s.2.1,s.2.2.1,s.2.2.2.1,s.2.2.2.2.1,s.2.2.2.2.2.1,s.2.2.2.2.2.2.1,s.2.2.2.2.2.2.2.1,s.2.2.2.2.2.2.2.2,())) (fun x y s=>((y.1.1,y.1.2.1,y.1.2.2.1,()),y.2.1,y.2.2.1,())) (fun x y=>rfl) (fun x y=>rfl) (fun x y s kA kO=>L200x1_5c F y.2.1 s.1 s.2.1 s.2.2.1 s.2.2.2.1 s.2.2.2.2.1 s.2.2.2.2.2.1 s.2.2.2.2.2.2.1 s.2.2.2.2.2.2.2.1 s.2.2.2.2.2.2.2.2 kA kO) (fun x y s kA kO=>L200x1_5n F y.2.1 s.1 s.2.1 s.2.2.1 s.2.2.2.1 s.2.2.2.2.1 s.2.2.2.2.2.1 s.2.2.2.2.2.2.1 s.2.2.2.2.2.2.2.1 s.2.2.2.2.2.2.2.2 kA kO) (le200x1_5 F)
def L200x1_6c (F:Nat) (y188:Vector UInt32 8) (y193:Vector UInt32 8) (y189:Int) (y190:Vector UInt32 8) {β:Type} (kA:(Int×(Vector UInt32 8))->Option β) (kO:((Vector UInt32 8))->Option β):Option β:=
 (bif (decide (y189 < (8:Int))) then (Option.bind (vix y188 y189) fun x198=>(Option.bind (inb 8 y189) fun x199=>(Option.bind (vat y193 x199) fun x200=>(Option.bind (inb 8 y189) fun x201=>(kA ((w64 (y189 + (1:Int))),(Vector.setIfInBounds y190 x201 (x200 + x198)))))))) else (kO y190))
def L200x1_6 (F:Nat) (y188:Vector UInt32 8) (y193:Vector UInt32 8) (y189:Int) (y190:Vector UInt32 8):Option ((Int×(Vector UInt32 8)) ⊕ ((Vector UInt32 8))):=L200x1_6c F y188 y193 y189 y190 (fun s=>some (.inl s)) (fun z=>some (.inr z))
theorem L200x1_6n (F:Nat) (y188:Vector UInt32 8) (y193:Vector UInt32 8) (y189:Int) (y190:Vector UInt32 8) {β:Type} (kA:(Int×(Vector UInt32 8))->Option β) (kO:((Vector UInt32 8))->Option β):L200x1_6c F y188 y193 y189 y190 kA kO=(L200x1_6 F y188 y193 y189 y190).bind (elimS kA kO):=by
 simp only [L200x1_6,L200x1_6c,Option.bind_assoc,cond_bind,Option.bind_some,Option.bind_none,elimS_l,elimS_r,elimS_bind]
abbrev sA200x1_6:List Sh:=[(.pt 0 []),(.pt 1 []),(.ar 8 .u32),.i]
abbrev sAp1200x1_6:List Sh:=[]
abbrev sT200x1_6:List TSh:=[.blk 223 (.pr (.ar 8 .u32) (.pr (.ar 64 .u8) (.pr .i .un))),.blk 192 (.ar 8 .u32)]
abbrev sTp1200x1_6:List TSh:=[.blk 223 (.pr (.ar 8 .u32) (.pr (.ar 64 .u8) (.pr .i .un)))]
def lc200x1_6 (F:Nat):Lc:=mkL [0,11,196,197] sA200x1_6 sT200x1_6 [] sAp1200x1_6 sTp1200x1_6 F (fun x y (s:Int×(Vector UInt32 8))=>L200x1_6 F x.2.2.1 y.2.1 s.1 s.2) (fun x y=>(x.2.2.2.1,y.1.1)) (fun x y (z:(Vector UInt32 8))=>((),((z,y.1.2.1,y.1.2.2.1,()),())))
theorem le200x1_6 (F:Nat) (x:dens sA200x1_6) (y:tdens sT200x1_6) (s:Int×(Vector UInt32 8)):sev (E200x1 F) 1 [] (cAt (bodyOf Tryz.f200) (0 :: 0 :: [1,1,1,1,1,1])) (0 :: 0 :: [1,1,1,1,1,1]) (mkSt [0,11,196,197] sA200x1_6 sT200x1_6 ((),(),x.2.2.1,s.1,()) ((s.2,y.1.2.1,y.1.2.2.1,()),y.2.1,())) (kLoop 1 [0,11,196,197] sA200x1_6 sT200x1_6 [] sAp1200x1_6 sTp1200x1_6 [] [] [] 4 (fun x y=>some (.inl (x,y))) (fun x y=>some (.inr (.inl (x,y)))) (fun x y=>some (.inr (.inr (x,y))))) =
  L200x1_6c (β:=Full sA200x1_6 sT200x1_6 sAp1200x1_6 sTp1200x1_6 [] []) F x.2.2.1 y.2.1 s.1 s.2 (fun s=>some (.inl (((),(),x.2.2.1,s.1,()),((s.2,y.1.2.1,y.1.2.2.1,()),y.2.1,())))) (fun z=>some (.inr (.inl ((),((z,y.1.2.1,y.1.2.2.1,()),()))))):=by kernel_rfl
theorem lo200x1_6 (F:Nat):LcOk Tryz.prog (E200x1 F) 1 (lc200x1_6 F) (cAt (bodyOf Tryz.f200) [1,1,1,1,1,1]):=
 mkL_ok (lp:=[]) (id:=4) (b:=cAt (bodyOf Tryz.f200) (0 :: 0 :: [1,1,1,1,1,1])) cok (cts200x1 F) mixed trivial (by kernel_rfl) (by kernel_rfl) (fun x y s=>((),(),x.2.2.1,s.1,())) (fun x y s=>((s.2,y.1.2.1,y.1.2.2.1,()),y.2.1,())) (fun x y=>rfl) (fun x y=>rfl) (fun x y s kA kO=>L200x1_6c F x.2.2.1 y.2.1 s.1 s.2 kA kO) (fun x y s kA kO=>L200x1_6n F x.2.2.1 y.2.1 s.1 s.2 kA kO) (le200x1_6 F)
def T200x1c (F:Nat) (p0:List UInt8) (p1:Vector UInt32 8) {β:Type} (k:((Vector UInt32 8))->Option β):Option β:=
 (Option.bind (iter (fun s=>L200x1_4 F p0 s.1 s.2) F ((0:Int),(Vector.replicate 64 (0:UInt32)))) fun z146=>(Option.bind (vat p1 0) fun x147=>(Option.bind (vat p1 1) fun x148=>(Option.bind (vat p1 2) fun x149=>(Option.bind (vat p1 3) fun x150=>(Option.bind (vat p1 4) fun x151=>(Option.bind (vat p1 5) fun x152=>(Option.bind (vat p1 6) fun x153=>(Option.bind (vat p1 7) fun x154=>(Option.bind (iter (fun s=>L200x1_5 F z146 s.1 s.2.1 s.2.2.1 s.2.2.2.1 s.2.2.2.2.1 s.2.2.2.2.2.1 s.2.2.2.2.2.2.1 s.2.2.2.2.2.2.2.1 s.2.2.2.2.2.2.2.2) F (x147,x148,x149,x150,x151,x152,x153,x154,(0:Int))) fun z187=>(Option.bind (iter (fun s=>L200x1_6 F (#v[z187.1,z187.2.1,z187.2.2.1,z187.2.2.2.1,z187.2.2.2.2.1,z187.2.2.2.2.2.1,z187.2.2.2.2.2.2.1,z187.2.2.2.2.2.2.2]:Vector UInt32 8) p1 s.1 s.2) F ((0:Int),p1)) fun z202=>(k z202))))))))))))
def T200x1 (F:Nat) (p0:List UInt8) (p1:Vector UInt32 8):Option ((Vector UInt32 8)):=T200x1c F p0 p1 some
theorem T200x1n (F:Nat) (p0:List UInt8) (p1:Vector UInt32 8) {β:Type} (k:((Vector UInt32 8))->Option β):T200x1c F p0 p1 k=(T200x1 F p0 p1).bind k:=by
 simp only [T200x1,T200x1c,Option.bind_assoc,cond_bind,Option.bind_some,Option.bind_none,elimS_bind]
abbrev cA200x1:List Sh:=[(.pt 0 []),(.ro .u8)]
abbrev cB200x1:List Sh:=[]
abbrev cT200x1:List TSh:=[.blk 223 (.pr (.ar 8 .u32) (.pr (.ar 64 .u8) (.pr .i .un)))]
abbrev cU200x1:List TSh:=[.blk 223 (.pr (.ar 8 .u32) (.pr (.ar 64 .u8) (.pr .i .un)))]
def ct200x1 (F:Nat):Ct:=mkC 1 cA200x1 cT200x1 cB200x1 cU200x1 (fun x y=>T200x1 F x.2.1 y.1.1) (fun x y (z:(Vector UInt32 8))=>((),((z,y.1.2.1,y.1.2.2.1,()),())))
theorem eq200x1 (F:Nat) (x:dens cA200x1) (y:tdens cT200x1):sev (E200x1 F) 1 [([1,0,1],lc200x1_4 F),([1,0,1,1,1,1],lc200x1_5 F),([1,1,1,1,1,1],lc200x1_6 F)] (bodyOf Tryz.f200) [] (mkSt (rng 2) cA200x1 cT200x1 x y) (kFn (E200x1 F) 1 Tryz.f200.results.toList cB200x1 cU200x1 fun p q=>some (p,q)) =
  T200x1c F x.2.1 y.1.1 (fun z=>some ((),((z,y.1.2.1,y.1.2.2.1,()),()))):=by kernel_rfl
theorem ok200x1 (F:Nat):Sound Tryz.prog cfg 200 (ct200x1 F):=
 mkC_ok (E:=E200x1 F) (lp:=[([1,0,1],lc200x1_4 F),([1,0,1,1,1,1],lc200x1_5 F),([1,1,1,1,1,1],lc200x1_6 F)]) (code:=bodyOf Tryz.f200) Tryz.func200 rfl Tryz.ntmps200 rfl rfl cok (cts200x1 F) mixed ⟨lo200x1_4 F,⟨lo200x1_5 F,⟨lo200x1_6 F,trivial⟩⟩⟩ (by kernel_rfl) (fun x y k=>T200x1c F x.2.1 y.1.1 k) (fun x y k=>T200x1n F x.2.1 y.1.1 k) (eq200x1 F)
def E176 (F:Nat):Ev:=⟨cfg,57,ctOf [(200,ct200 F),(200,ct200x1 F)],fun _=>[],ctOf [],fun _=>none,fun _=>none⟩
theorem cts176 (F:Nat):CtsOk Tryz.prog (E176 F):=cts_of (l:=[(200,ct200 F),(200,ct200x1 F)]) (l':=[]) rfl rfl ⟨⟨ok200 F,_,Tryz.func200,rfl,rfl⟩,⟨⟨ok200x1 F,_,Tryz.func200,rfl,rfl⟩,trivial⟩⟩ trivial
def L176_3c (F:Nat) (y28:List UInt8) (y29:Int) (y30:Bool) (y31:Vector UInt32 8) (y32:Vector UInt8 64) {β:Type} (kO:(Zb×Zf×Zh)->Option β) (kR:(Zh)->Option β):Option β:=
 (bif y30 then (Option.bind (gslb 64 y29 ((64:Nat):Int)) fun x38=>(Option.bind (gsl y28 ((Nat.min y28.length (x38.2 - x38.1)):Int) (y28.length:Int)) fun x39=>(bif (decide ((w64 (y29 + ((Nat.min y28.length (x38.2 - x38.1)):Int))) < (64:Int))) then (kR (vspl y32 x38.1 y28 (Nat.min y28.length (x38.2 - x38.1)))) else (Option.bind (gslb 64 (0:Int) ((64:Nat):Int)) fun x40=>(Option.bind (T200 F (x40.1,x40.2) y31 (vspl y32 x38.1 y28 (Nat.min y28.length (x38.2 - x38.1)))) fun z41=>(kO (x39,z41,(vspl y32 x38.1 y28 (Nat.min y28.length (x38.2 - x38.1)))))))))) else (kO (y28,y31,y32)))
def L176_3 (F:Nat) (y28:List UInt8) (y29:Int) (y30:Bool) (y31:Vector UInt32 8) (y32:Vector UInt8 64):Option ((Zb×Zf×Zh) ⊕ (Zh)):=L176_3c F y28 y29 y30 y31 y32 (fun z=>some (.inl z)) (fun z=>some (.inr z))
theorem L176_3n (F:Nat) (y28:List UInt8) (y29:Int) (y30:Bool) (y31:Vector UInt32 8) (y32:Vector UInt8 64) {β:Type} (kO:(Zb×Zf×Zh)->Option β) (kR:(Zh)->Option β):L176_3c F y28 y29 y30 y31 y32 kO kR=(L176_3 F y28 y29 y30 y31 y32).bind (elimS kO kR):=by
 simp only [L176_3,L176_3c,oA,oC,oS,oN,elimS_l,elimS_r,elimS_bind]
def lc176_3 (F:Nat):Lc:=mkK [0,1,4,21] [(.pt 0 []),(.ro .u8),.i,.bo] [.blk 223 Qf] [0,1] [(.pt 0 []),(.ro .u8)] [.blk 223 Qf] [] [] [.blk 223 Qf] (fun x y=>L176_3 F x.2.1 x.2.2.1 x.2.2.2.1 y.1.1 y.1.2.1) (fun x y (z:Zb×Zf×Zh)=>(((),z.1,()),((z.2.1,z.2.2,y.1.2.2.1,()),()))) (fun x y (z:Zh)=>((),((y.1.1,z,y.1.2.2.1,()),())))
theorem lo176_3 (F:Nat):LcOk Tryz.prog (E176 F) 1 (lc176_3 F) (cAt (bodyOf Tryz.f176) [1,0,1,1]):=
 mkK_ok (lp:=[]) cok (cts176 F) mixed trivial (by kernel_rfl) (fun x y kO kR=>L176_3c F x.2.1 x.2.2.1 x.2.2.2.1 y.1.1 y.1.2.1 kO kR) (fun x y kO kR=>L176_3n F x.2.1 x.2.2.1 x.2.2.2.1 y.1.1 y.1.2.1 kO kR) (fun _ _=>by kernel_rfl)
def L176_4c (F:Nat) (y43:List UInt8) (y44:Vector UInt32 8) {β:Type} (kA:(Zb×Zf)->Option β) (kO:(Zb×Zf)->Option β):Option β:=
 (bif (decide ((64:Int)≤(y43.length:Int))) then (Option.bind (gsl y43 (0:Int) (64:Int)) fun x50=>(Option.bind (T200x1 F x50 y44) fun z51=>(Option.bind (gsl y43 (64:Int) (y43.length:Int)) fun x52=>(kA (x52,z51))))) else (kO (y43,y44)))
def L176_4 (F:Nat) (y43:List UInt8) (y44:Vector UInt32 8):=L176_4c F y43 y44 (fun s=>some (Sum.inl s)) (fun z=>some (Sum.inr z))
def lc176_4 (F:Nat):Lc:=mkL [0,1] [(.pt 0 []),(.ro .u8)] [.blk 223 Qf] [0,1] [(.pt 0 []),(.ro .u8)] [.blk 223 Qf] F (fun x y (s:Zb×Zf)=>L176_4 F s.1 s.2) (fun x y=>(x.2.1,y.1.1)) (fun x y (z:Zb×Zf)=>(((),z.1,()),((z.2,y.1.2.1,y.1.2.2.1,()),())))
theorem lo176_4 (F:Nat):LcOk Tryz.prog (E176 F) 1 (lc176_4 F) (cAt (bodyOf Tryz.f176) [0,1,1,1]):=
 mkL_ok (lp:=[]) (id:=0) (b:=cAt (bodyOf Tryz.f176) (0 :: 0 :: [0,1,1,1])) cok (cts176 F) mixed trivial (by kernel_rfl) (by kernel_rfl) (fun x y s=>((),s.1,())) (fun x y s=>((s.2,y.1.2.1,y.1.2.2.1,()),())) (fun x y=>rfl) (fun x y=>rfl) (fun x y s kA kO=>L176_4c F s.1 s.2 kA kO) (fun _ _ _ _ _=>by simp only [L176_4,L176_4c,oA,oC,oS,oN,elimS_l,elimS_r,elimS_bind]) (fun _ _ _=>by kernel_rfl)
def T176c (F:Nat) (p0:List UInt8) (p1:Vector UInt32 8) (p2:Vector UInt8 64) (p3:Int) {β:Type} (k:(Zf×Zh×Int)->Option β):Option β:=
 (Option.bind (L176_3 F p0 (Int.tmod p3 (64:Int)) (decide ((0:Int) < (Int.tmod p3 (64:Int)))) p1 p2) fun z42=>elimS (fun z42=>(Option.bind (iter (fun s=>L176_4 F s.1 s.2) F (z42.1,z42.2.1)) fun z53=>(Option.bind (gslb 64 (0:Int) ((64:Nat):Int)) fun x54=>(k (z53.2,(vspl z42.2.2 x54.1 z53.1 (Nat.min z53.1.length (x54.2 - x54.1))),(w64 (p3 + (p0.length:Int)))))))) (fun z42=>(k (p1,z42,(w64 (p3 + (p0.length:Int)))))) z42)
def T176 (F:Nat) (p0:List UInt8) (p1:Vector UInt32 8) (p2:Vector UInt8 64) (p3:Int):=T176c F p0 p1 p2 p3 some
def ct176 (F:Nat):Ct:=mkC 1 [(.pt 0 []),(.ro .u8)] [.blk 223 Qf] [] [.blk 223 Qf] (fun x y=>T176 F x.2.1 y.1.1 y.1.2.1 y.1.2.2.1) (fun x y (z:Zf×Zh×Int)=>((),((z.1,z.2.1,z.2.2,()),())))
theorem ok176 (F:Nat):Sound Tryz.prog cfg 176 (ct176 F):=
 mkC_ok (E:=E176 F) (lp:=[([1,0,1,1],lc176_3 F),([0,1,1,1],lc176_4 F)]) (code:=bodyOf Tryz.f176) Tryz.func176 rfl Tryz.ntmps176 rfl rfl cok (cts176 F) mixed ⟨lo176_3 F,⟨lo176_4 F,trivial⟩⟩ (by kernel_rfl) (fun x y k=>T176c F x.2.1 y.1.1 y.1.2.1 y.1.2.2.1 k) (fun _ _ _=>by simp only [T176,T176c,oA,oC,oS,oN,elimS_bind]) (fun _ _=>by kernel_rfl)
def E177 (F:Nat):Ev:=⟨cfg,68,ctOf [(176,ct176 F)],fun _=>[],ctOf [],fun _=>none,fun _=>none⟩
theorem cts177 (F:Nat):CtsOk Tryz.prog (E177 F):=cts_of (l:=[(176,ct176 F)]) (l':=[]) rfl rfl ⟨⟨ok176 F,_,Tryz.func176,rfl,rfl⟩,trivial⟩ trivial
def L177_4c (F:Nat) (y30:Zf×Zh×Int×Unit) (y34:List UInt8) {β:Type} (kA:(Zb)->Option β) (kO:(Zb)->Option β):Option β:=
 (bif ((Int.tmod (w64 (y30.2.2.1 + (y34.length:Int))) (64:Int)) != (56:Int)) then (Option.bind (gapp y34 ([(UInt8.ofNat 0)]:List UInt8)) fun x36=>(kA x36)) else (kO y34))
def L177_4 (F:Nat) (y30:Zf×Zh×Int×Unit) (y34:List UInt8):=L177_4c F y30 y34 (fun s=>some (Sum.inl s)) (fun z=>some (Sum.inr z))
def lc177_4 (F:Nat):Lc:=mkL [0,3,4] [(.re (.pr (.ar 8 .u32) (.pr (.ar 64 .u8) (.pr .i .un)))),(.pt 0 []),(.rw 1)] [.blk 223 Qf,.row 5 .u8] [0,3,4] [(.re (.pr (.ar 8 .u32) (.pr (.ar 64 .u8) (.pr .i .un)))),(.pt 0 []),(.rw 1)] [.blk 223 Qf,.row 5 .u8] F (fun x y (s:Zb)=>L177_4 F x.1 s) (fun x y=>y.2.1) (fun x y (z:Zb)=>((x.1,(),(),()),((y.1.1,y.1.2.1,y.1.2.2.1,()),z,())))
theorem lo177_4 (F:Nat):LcOk Tryz.prog (E177 F) 0 (lc177_4 F) (cAt (bodyOf Tryz.f177) [0,1,1,1]):=
 mkL_ok (lp:=[]) (id:=0) (b:=cAt (bodyOf Tryz.f177) (0 :: 0 :: [0,1,1,1])) cok (cts177 F) mixed trivial (by kernel_rfl) (by kernel_rfl) (fun x y s=>(x.1,(),(),())) (fun x y s=>((y.1.1,y.1.2.1,y.1.2.2.1,()),s,())) (fun x y=>rfl) (fun x y=>rfl) (fun x y s kA kO=>L177_4c F x.1 s kA kO) (fun _ _ _ _ _=>by simp only [L177_4,L177_4c,oA,oC,oS,oN,elimS_l,elimS_r,elimS_bind]) (fun _ _ _=>by kernel_rfl)
def L177_5c (F:Nat) (y38:UInt64) (y39:Int) (y43:List UInt8) {β:Type} (kA:Zi->Option β) (kO:(Zb)->Option β):Option β:=
 (bif (decide ((0:Int)≤y39)) then (Option.bind (gnn y39) fun x46=>(Option.bind (gapp y43 ([((shr64 y38 x46).toUInt8)]:List UInt8)) fun x47=>(kA ((w64 (y39 - (8:Int))),x47)))) else (kO y43))
def L177_5 (F:Nat) (y38:UInt64) (y39:Int) (y43:List UInt8):=L177_5c F y38 y39 y43 (fun s=>some (Sum.inl s)) (fun z=>some (Sum.inr z))
def lc177_5 (F:Nat):Lc:=mkL [3,4,5,6] [(.pt 0 []),(.rw 1),.u64,.i] [.blk 223 Qf,.row 5 .u8] [3,4] [(.pt 0 []),(.rw 1)] [.blk 223 Qf,.row 5 .u8] F (fun x y (s:Int×Zb)=>L177_5 F x.2.2.1 s.1 s.2) (fun x y=>(x.2.2.2.1,y.2.1)) (fun x y (z:Zb)=>(((),(),()),((y.1.1,y.1.2.1,y.1.2.2.1,()),z,())))
theorem lo177_5 (F:Nat):LcOk Tryz.prog (E177 F) 0 (lc177_5 F) (cAt (bodyOf Tryz.f177) [1,0,1,1,1,1,1]):=
 mkL_ok (lp:=[]) (id:=2) (b:=cAt (bodyOf Tryz.f177) (0 :: 0 :: [1,0,1,1,1,1,1])) cok (cts177 F) mixed trivial (by kernel_rfl) (by kernel_rfl) (fun x y s=>((),(),x.2.2.1,s.1,())) (fun x y s=>((y.1.1,y.1.2.1,y.1.2.2.1,()),s.2,())) (fun x y=>rfl) (fun x y=>rfl) (fun x y s kA kO=>L177_5c F x.2.2.1 s.1 s.2 kA kO) (fun _ _ _ _ _=>by simp only [L177_5,L177_5c,oA,oC,oS,oN,elimS_l,elimS_r,elimS_bind]) (fun _ _ _=>by kernel_rfl)
def L177_6c (F:Nat) (y51:Vector UInt32 8) (y52:Int) (y53:List UInt8) {β:Type} (kA:Zi->Option β) (kO:(Zb)->Option β):Option β:=
 (bif (decide (y52 < (8:Int))) then (Option.bind (vix y51 y52) fun x56=>(Option.bind (gapp y53 ([((shr32 x56 ((UInt64.ofNat 24).toNat)).toUInt8),((shr32 x56 ((UInt64.ofNat 16).toNat)).toUInt8),((shr32 x56 ((UInt64.ofNat 8).toNat)).toUInt8),(x56.toUInt8)]:List UInt8)) fun x57=>(kA ((w64 (y52 + (1:Int))),x57)))) else (kO y53))
def L177_6 (F:Nat) (y51:Vector UInt32 8) (y52:Int) (y53:List UInt8):=L177_6c F y51 y52 y53 (fun s=>some (Sum.inl s)) (fun z=>some (Sum.inr z))
def lc177_6 (F:Nat):Lc:=mkL [7,47,48] [(.rw 0),(.ar 8 .u32),.i] [.row 5 .u8] [7] [(.rw 0)] [.row 5 .u8] F (fun x y (s:Int×Zb)=>L177_6 F x.2.1 s.1 s.2) (fun x y=>(x.2.2.1,y.1)) (fun x y (z:Zb)=>(((),()),(z,())))
theorem lo177_6 (F:Nat):LcOk Tryz.prog (E177 F) 0 (lc177_6 F) (cAt (bodyOf Tryz.f177) [1,0,1,1,1,1,1,1,1,1]):=
 mkL_ok (lp:=[]) (id:=4) (b:=cAt (bodyOf Tryz.f177) (0 :: 0 :: [1,0,1,1,1,1,1,1,1,1])) cok (cts177 F) mixed trivial (by kernel_rfl) (by kernel_rfl) (fun x y s=>((),x.2.1,s.1,())) (fun x y s=>(s.2,())) (fun x y=>rfl) (fun x y=>rfl) (fun x y s kA kO=>L177_6c F x.2.1 s.1 s.2 kA kO) (fun _ _ _ _ _=>by simp only [L177_6,L177_6c,oA,oC,oS,oN,elimS_l,elimS_r,elimS_bind]) (fun _ _ _=>by kernel_rfl)
def T177c (F:Nat) (p0:Zf×Zh×Int×Unit) {β:Type} (k:(Zb)->Option β):Option β:=
 (Option.bind (iter (fun s=>L177_4 F p0 s) F ([(UInt8.ofNat 128)]:List UInt8)) fun z37=>(Option.bind (iter (fun s=>L177_5 F ((UInt64.ofInt p0.2.2.1) * (UInt64.ofNat 8)) s.1 s.2) F ((56:Int),z37)) fun z48=>(Option.bind (T176 F z48 p0.1 p0.2.1 p0.2.2.1) fun z49=>(Option.bind (gmake (0:UInt8) (0:Int) (32:Int)) fun x50=>(Option.bind (iter (fun s=>L177_6 F z49.1 s.1 s.2) F ((0:Int),x50)) fun z58=>(k z58))))))
def T177 (F:Nat) (p0:Zf×Zh×Int×Unit):=T177c F p0 some
def ct177 (F:Nat):Ct:=mkC 0 [(.re (.pr (.ar 8 .u32) (.pr (.ar 64 .u8) (.pr .i .un))))] [] [.str] [] (fun x y=>T177 F x.1) (fun x y (z:Zb)=>((z,()),()))
theorem ok177 (F:Nat):Sound Tryz.prog cfg 177 (ct177 F):=
 mkC_ok (E:=E177 F) (lp:=[([0,1,1,1],lc177_4 F),([1,0,1,1,1,1,1],lc177_5 F),([1,0,1,1,1,1,1,1,1,1],lc177_6 F)]) (code:=bodyOf Tryz.f177) Tryz.func177 rfl Tryz.ntmps177 rfl rfl cok (cts177 F) mixed ⟨lo177_4 F,⟨lo177_5 F,⟨lo177_6 F,trivial⟩⟩⟩ (by kernel_rfl) (fun x y k=>T177c F x.1 k) (fun _ _ _=>by simp only [T177,T177c,oA,oC,oS,oN,elimS_bind]) (fun _ _=>by kernel_rfl)
def E173 (F:Nat):Ev:=⟨cfg,20,ctOf [(175,ct175 F),(176,ct176 F),(177,ct177 F)],fun _=>[],ctOf [],fun _=>none,fun _=>none⟩
theorem cts173 (F:Nat):CtsOk Tryz.prog (E173 F):=cts_of (l:=[(175,ct175 F),(176,ct176 F),(177,ct177 F)]) (l':=[]) rfl rfl ⟨⟨ok175 F,_,Tryz.func175,rfl,rfl⟩,⟨⟨ok176 F,_,Tryz.func176,rfl,rfl⟩,⟨⟨ok177 F,_,Tryz.func177,rfl,rfl⟩,trivial⟩⟩⟩ trivial
def L173_2c (F:Nat) (y17:List Zb) (y18:Int) (y19:Int) (y20:Vector UInt32 8) (y21:Vector UInt8 64) (y22:Int) {β:Type} (kA:(Int×Zf×Zh×Int)->Option β) (kO:(Zf×Zh×Int)->Option β):Option β:=
 (bif (decide (y19 < y18)) then (Option.bind (ix y17 y19) fun x26=>(Option.bind (gstr x26) fun x27=>(Option.bind (T176 F x27 y20 y21 y22) fun z28=>(kA ((w64 (y19 + (1:Int))),z28.1,z28.2.1,z28.2.2))))) else (kO (y20,y21,y22)))
def L173_2 (F:Nat) (y17:List Zb) (y18:Int) (y19:Int) (y20:Vector UInt32 8) (y21:Vector UInt8 64) (y22:Int):=L173_2c F y17 y18 y19 y20 y21 y22 (fun s=>some (Sum.inl s)) (fun z=>some (Sum.inr z))
def lc173_2 (F:Nat):Lc:=mkL [3,7,8,9] [(.pt 0 []),(.ro .s),.i,.i] [.blk 223 Qf] [3] [(.pt 0 [])] [.blk 223 Qf] F (fun x y (s:Int×Zf×Zh×Int)=>L173_2 F x.2.1 x.2.2.1 s.1 s.2.1 s.2.2.1 s.2.2.2) (fun x y=>(x.2.2.2.1,y.1.1,y.1.2.1,y.1.2.2.1)) (fun x y (z:Zf×Zh×Int)=>(((),()),((z.1,z.2.1,z.2.2,()),())))
theorem lo173_2 (F:Nat):LcOk Tryz.prog (E173 F) 0 (lc173_2 F) (cAt (bodyOf Tryz.f173) [1,0,1,1]):=
 mkL_ok (lp:=[]) (id:=0) (b:=cAt (bodyOf Tryz.f173) (0 :: 0 :: [1,0,1,1])) cok (cts173 F) mixed trivial (by kernel_rfl) (by kernel_rfl) (fun x y s=>((),x.2.1,x.2.2.1,s.1,())) (fun x y s=>((s.2.1,s.2.2.1,s.2.2.2,()),())) (fun x y=>rfl) (fun x y=>rfl) (fun x y s kA kO=>L173_2c F x.2.1 x.2.2.1 s.1 s.2.1 s.2.2.1 s.2.2.2 kA kO) (fun _ _ _ _ _=>by simp only [L173_2,L173_2c,oA,oC,oS,oN,elimS_l,elimS_r,elimS_bind]) (fun _ _ _=>by kernel_rfl)
def T173c (F:Nat) (p0:List Zb) {β:Type} (k:(Zb)->Option β):Option β:=
 (Option.bind (T175 F) fun z16=>(Option.bind (iter (fun s=>L173_2 F p0 (p0.length:Int) s.1 s.2.1 s.2.2.1 s.2.2.2) F ((0:Int),z16.1,z16.2.1,z16.2.2)) fun z29=>(Option.bind (T177 F (z29.1,z29.2.1,z29.2.2,())) fun z30=>(k z30))))
def T173 (F:Nat) (p0:List Zb):=T173c F p0 some
def ct173 (F:Nat):Ct:=mkC 0 [(.ro .s)] [] [.str] [] (fun x y=>T173 F x.1) (fun x y (z:Zb)=>((z,()),()))
theorem ok173 (F:Nat):Sound Tryz.prog cfg 173 (ct173 F):=
 mkC_ok (E:=E173 F) (lp:=[([1,0,1,1],lc173_2 F)]) (code:=bodyOf Tryz.f173) Tryz.func173 rfl Tryz.ntmps173 rfl rfl cok (cts173 F) mixed ⟨lo173_2 F,trivial⟩ (by kernel_rfl) (fun x y k=>T173c F x.1 k) (fun _ _ _=>by simp only [T173,T173c,oA,oC,oS,oN,elimS_bind]) (fun _ _=>by kernel_rfl)
def E174 (F:Nat):Ev:=⟨cfg,18,ctOf [],fun _=>[],ctOf [],fun _=>none,fun _=>none⟩
theorem cts174 (F:Nat):CtsOk Tryz.prog (E174 F):=cts_of (l:=[]) (l':=[]) rfl rfl trivial trivial
def L174_2c (F:Nat) (y10:UInt8) (y11:Vector UInt8 64) (y12:Int) (y13:Vector UInt8 64) {β:Type} (kA:(Int×Zh)->Option β) (kO:(Zh)->Option β):Option β:=
 (bif (decide (y12 < (64:Int))) then (Option.bind (vix y11 y12) fun x16=>(Option.bind (inb 64 y12) fun x17=>(kA ((w64 (y12 + (1:Int))),(Vector.setIfInBounds y13 x17 (x16 ^^^ y10)))))) else (kO y13))
def L174_2 (F:Nat) (y10:UInt8) (y11:Vector UInt8 64) (y12:Int) (y13:Vector UInt8 64):=L174_2c F y10 y11 y12 y13 (fun s=>some (Sum.inl s)) (fun z=>some (Sum.inr z))
def lc174_2 (F:Nat):Lc:=mkL [0,3,6,7] [.u8,(.pt 0 []),(.ar 64 .u8),.i] [.blk 220 (.ar 64 .u8)] [3] [(.pt 0 [])] [.blk 220 (.ar 64 .u8)] F (fun x y (s:Int×Zh)=>L174_2 F x.1 x.2.2.1 s.1 s.2) (fun x y=>(x.2.2.2.1,y.1)) (fun x y (z:Zh)=>(((),()),(z,())))
theorem lo174_2 (F:Nat):LcOk Tryz.prog (E174 F) 0 (lc174_2 F) (cAt (bodyOf Tryz.f174) [1,0,1]):=
 mkL_ok (lp:=[]) (id:=0) (b:=cAt (bodyOf Tryz.f174) (0 :: 0 :: [1,0,1])) cok (cts174 F) mixed trivial (by kernel_rfl) (by kernel_rfl) (fun x y s=>(x.1,(),x.2.2.1,s.1,())) (fun x y s=>(s.2,())) (fun x y=>rfl) (fun x y=>rfl) (fun x y s kA kO=>L174_2c F x.1 x.2.2.1 s.1 s.2 kA kO) (fun _ _ _ _ _=>by simp only [L174_2,L174_2c,oA,oC,oS,oN,elimS_l,elimS_r,elimS_bind]) (fun _ _ _=>by kernel_rfl)
def T174c (F:Nat) (p0:UInt8) (p1:Vector UInt8 64) {β:Type} (k:(Zh)->Option β):Option β:=
 (Option.bind (iter (fun s=>L174_2 F p0 p1 s.1 s.2) F ((0:Int),(Vector.replicate 64 (0:UInt8)))) fun z18=>(k z18))
def T174 (F:Nat) (p0:UInt8) (p1:Vector UInt8 64):=T174c F p0 p1 some
def ct174 (F:Nat):Ct:=mkC 0 [.u8,(.re (.ar 64 .u8))] [] [(.ar 64 .u8)] [] (fun x y=>T174 F x.1 x.2.1) (fun x y (z:Zh)=>((z,()),()))
theorem ok174 (F:Nat):Sound Tryz.prog cfg 174 (ct174 F):=
 mkC_ok (E:=E174 F) (lp:=[([1,0,1],lc174_2 F)]) (code:=bodyOf Tryz.f174) Tryz.func174 rfl Tryz.ntmps174 rfl rfl cok (cts174 F) mixed ⟨lo174_2 F,trivial⟩ (by kernel_rfl) (fun x y k=>T174c F x.1 x.2.1 k) (fun _ _ _=>by simp only [T174,T174c,oA,oC,oS,oN,elimS_bind]) (fun _ _=>by kernel_rfl)
def ord200x2:Nat->List (Tag×Nat)
 | 6=>[(.p,0),(.p,1),(.p,2),(.r,3),(.p,4),(.p,5),(.p,6),(.p,7),(.r,8),(.p,9),(.p,10),(.p,11),(.p,12),(.p,13),(.r,14),(.p,15),(.p,16),(.p,17),(.p,18),(.p,19),(.r,20),(.p,21),(.p,22),(.p,23),(.w,24)]
 | 7=>[(.p,0),(.p,1),(.p,2),(.r,3),(.p,4),(.p,5),(.p,6),(.r,7),(.p,8),(.p,9)]
 | 10=>[(.p,0),(.p,1),(.p,2),(.p,3),(.p,4),(.r,5),(.p,6),(.p,7),(.p,8),(.p,9),(.p,10),(.p,11),(.r,12),(.p,13),(.p,14),(.w,15)]
 | 13=>[(.p,0),(.r,1),(.p,2),(.r,3),(.p,4),(.r,5),(.p,6),(.r,7),(.p,8),(.r,9),(.p,10),(.r,11),(.p,12),(.r,13),(.p,14),(.r,15),(.p,16),(.p,17),(.p,18),(.p,19),(.p,20),(.p,21),(.p,22),(.p,23)]
 | 19=>[(.p,0),(.p,1),(.p,2),(.p,3),(.p,4),(.p,5),(.p,6),(.p,7),(.p,8),(.p,9),(.p,10),(.p,11),(.p,12),(.p,13),(.r,14),(.p,15),(.p,16),(.p,17),(.r,18),(.p,19),(.p,20)]
 | 26=>[(.p,0),(.p,1),(.p,2),(.p,3),(.r,4),(.p,5),(.p,6),(.p,7),(.p,8),(.p,9),(.w,10)]
 | _=>[]
def al200x2:Nat->Option Nat
 | _=>none
def ms200x2:Nat->Option (List (Option Tag×Nat×List Nat))
 | _=>none
def E200x2 (F:Nat):Ev:=⟨cfg,212,ctOf [(201,ct201 F)],ord200x2,ctOf [],al200x2,ms200x2⟩
theorem cts200x2 (F:Nat):CtsOk Tryz.prog (E200x2 F):=cts_of (l:=[(201,ct201 F)]) (l':=[]) rfl rfl ⟨⟨ok201 F,_,Tryz.func201,rfl,rfl⟩,trivial⟩ trivial
def L200x2_4c (F:Nat) (y116:Vector UInt8 64) (y113:Nat×Nat) (y114:Int) (y119:Vector UInt32 64) {β:Type} (kA:((Nat×Nat)×Int×(Vector UInt32 64))->Option β) (kO:((Vector UInt32 64))->Option β):Option β:=
 (bif (decide (y114 < (64:Int))) then (bif (decide (y114 < (16:Int))) then (Option.bind (gslb (y113.2 - y113.1) (w64 ((4:Int) * y114)) (w64 ((w64 ((4:Int) * y114)) + (4:Int)))) fun x143=>(Option.bind (inb ((y113.1 + x143.2) - (y113.1 + x143.1)) (0:Int)) fun x144=>(Option.bind (vat y116 ((y113.1 + x143.1) + x144)) fun x145=>(Option.bind (inb ((y113.1 + x143.2) - (y113.1 + x143.1)) (1:Int)) fun x146=>(Option.bind (vat y116 ((y113.1 + x143.1) + x146)) fun x147=>(Option.bind (inb ((y113.1 + x143.2) - (y113.1 + x143.1)) (2:Int)) fun x148=>(Option.bind (vat y116 ((y113.1 + x143.1) + x148)) fun x149=>(Option.bind (inb ((y113.1 + x143.2) - (y113.1 + x143.1)) (3:Int)) fun x150=>(Option.bind (vat y116 ((y113.1 + x143.1) + x150)) fun x151=>(Option.bind (inb 64 y114) fun x152=>(kA ((y113.1,y113.2),(w64 (y114 + (1:Int))),(Vector.setIfInBounds y119 x152 ((((shl32 (x145.toUInt32) ((UInt64.ofNat 24).toNat)) ||| (shl32 (x147.toUInt32) ((UInt64.ofNat 16).toNat))) ||| (shl32 (x149.toUInt32) ((UInt64.ofNat 8).toNat))) ||| (x151.toUInt32))))))))))))))) else (Option.bind (inb 64 (w64 (y114 - (2:Int)))) fun x153=>(Option.bind (vat y119 x153) fun x154=>(Option.bind (inb 64 (w64 (y114 - (15:Int)))) fun x155=>(Option.bind (vat y119 x155) fun x156=>(Option.bind (T201 F x154 (-17:Int)) fun z157=>(Option.bind (T201 F x154 (-19:Int)) fun z158=>(Option.bind (T201 F x156 (-7:Int)) fun z159=>(Option.bind (T201 F x156 (-18:Int)) fun z160=>(Option.bind (inb 64 (w64 (y114 - (7:Int)))) fun x161=>(Option.bind (vat y119 x161) fun x162=>(Option.bind (inb 64 (w64 (y114 - (16:Int)))) fun x163=>(Option.bind (vat y119 x163) fun x164=>(Option.bind (inb 64 y114) fun x165=>(kA ((y113.1,y113.2),(w64 (y114 + (1:Int))),(Vector.setIfInBounds y119 x165 (((((z157 ^^^ z158) ^^^ (shr32 x154 ((UInt64.ofNat 10).toNat))) + x162) + ((z159 ^^^ z160) ^^^ (shr32 x156 ((UInt64.ofNat 3).toNat)))) + x164)))))))))))))))))) else (kO y119))
def L200x2_4 (F:Nat) (y116:Vector UInt8 64) (y113:Nat×Nat) (y114:Int) (y119:Vector UInt32 64):Option (((Nat×Nat)×Int×(Vector UInt32 64)) ⊕ ((Vector UInt32 64))):=L200x2_4c F y116 y113 y114 y119 (fun s=>some (.inl s)) (fun z=>some (.inr z))
theorem L200x2_4n (F:Nat) (y116:Vector UInt8 64) (y113:Nat×Nat) (y114:Int) (y119:Vector UInt32 64) {β:Type} (kA:((Nat×Nat)×Int×(Vector UInt32 64))->Option β) (kO:((Vector UInt32 64))->Option β):L200x2_4c F y116 y113 y114 y119 kA kO=(L200x2_4 F y116 y113 y114 y119).bind (elimS kA kO):=by
 simp only [L200x2_4,L200x2_4c,Option.bind_assoc,cond_bind,Option.bind_some,Option.bind_none,elimS_l,elimS_r,elimS_bind]
abbrev sA200x2_4:List Sh:=[(.pt 0 [0,0]),(.ap 0 [0,0,1]),(.pt 1 []),.i]
abbrev sAp1200x2_4:List Sh:=[(.pt 0 [0,0]),(.pt 1 [])]
abbrev sT200x2_4:List TSh:=[.blk 230 (.pr (.pr (.pr (.ar 8 .u32) (.pr (.ar 64 .u8) (.pr .i .un))) (.pr (.ar 64 .u8) .un)) .un),.blk 231 (.ar 64 .u32)]
abbrev sTp1200x2_4:List TSh:=[.blk 230 (.pr (.pr (.pr (.ar 8 .u32) (.pr (.ar 64 .u8) (.pr .i .un))) (.pr (.ar 64 .u8) .un)) .un),.blk 231 (.ar 64 .u32)]
def lc200x2_4 (F:Nat):Lc:=mkL [0,1,4,27] sA200x2_4 sT200x2_4 [0,4] sAp1200x2_4 sTp1200x2_4 F (fun x y (s:(Nat×Nat)×Int×(Vector UInt32 64))=>L200x2_4 F y.1.1.1.2.1 s.1 s.2.1 s.2.2) (fun x y=>(x.2.1,x.2.2.2.1,y.2.1)) (fun x y (z:(Vector UInt32 64))=>(((),(),()),((((y.1.1.1.1,y.1.1.1.2.1,y.1.1.1.2.2.1,()),y.1.1.2.1,()),()),z,())))
theorem le200x2_4 (F:Nat) (x:dens sA200x2_4) (y:tdens sT200x2_4) (s:(Nat×Nat)×Int×(Vector UInt32 64)):sev (E200x2 F) 1 [] (cAt (bodyOf Tryz.f200) (0 :: 0 :: [1,0,1])) (0 :: 0 :: [1,0,1]) (mkSt [0,1,4,27] sA200x2_4 sT200x2_4 ((),s.1,(),s.2.1,()) ((((y.1.1.1.1,y.1.1.1.2.1,y.1.1.1.2.2.1,()),y.1.1.2.1,()),()),s.2.2,())) (kLoop 1 [0,1,4,27] sA200x2_4 sT200x2_4 [0,4] sAp1200x2_4 sTp1200x2_4 [] [] [] 0 (fun x y=>some (.inl (x,y))) (fun x y=>some (.inr (.inl (x,y)))) (fun x y=>some (.inr (.inr (x,y))))) =
  L200x2_4c (β:=Full sA200x2_4 sT200x2_4 sAp1200x2_4 sTp1200x2_4 [] []) F y.1.1.1.2.1 s.1 s.2.1 s.2.2 (fun s=>some (.inl (((),s.1,(),s.2.1,()),((((y.1.1.1.1,y.1.1.1.2.1,y.1.1.1.2.2.1,()),y.1.1.2.1,()),()),s.2.2,())))) (fun z=>some (.inr (.inl (((),(),()),((((y.1.1.1.1,y.1.1.1.2.1,y.1.1.1.2.2.1,()),y.1.1.2.1,()),()),z,()))))):=by kernel_rfl
theorem lo200x2_4 (F:Nat):LcOk Tryz.prog (E200x2 F) 1 (lc200x2_4 F) (cAt (bodyOf Tryz.f200) [1,0,1]):=
 mkL_ok (lp:=[]) (id:=0) (b:=cAt (bodyOf Tryz.f200) (0 :: 0 :: [1,0,1])) cok (cts200x2 F) mixed trivial (by kernel_rfl) (by kernel_rfl) (fun x y s=>((),s.1,(),s.2.1,())) (fun x y s=>((((y.1.1.1.1,y.1.1.1.2.1,y.1.1.1.2.2.1,()),y.1.1.2.1,()),()),s.2.2,())) (fun x y=>rfl) (fun x y=>rfl) (fun x y s kA kO=>L200x2_4c F y.1.1.1.2.1 s.1 s.2.1 s.2.2 kA kO) (fun x y s kA kO=>L200x2_4n F y.1.1.1.2.1 s.1 s.2.1 s.2.2 kA kO) (le200x2_4 F)
def L200x2_5c (F:Nat) (y188:Vector UInt32 64) (y175:UInt32) (y176:UInt32) (y177:UInt32) (y178:UInt32) (y179:UInt32) (y180:UInt32) (y181:UInt32) (y182:UInt32) (y183:Int) {β:Type} (kA:(UInt32×UInt32×UInt32×UInt32×UInt32×UInt32×UInt32×UInt32×Int)->Option β) (kO:(UInt32×UInt32×UInt32×UInt32×UInt32×UInt32×UInt32×UInt32)->Option β):Option β:=
 (bif (decide (y183 < (64:Int))) then (Option.bind (T201 F y179 (-6:Int)) fun z199=>(Option.bind (T201 F y179 (-11:Int)) fun z200=>(Option.bind (T201 F y179 (-25:Int)) fun z201=>(Option.bind (T201 F y175 (-2:Int)) fun z202=>(Option.bind (T201 F y175 (-13:Int)) fun z203=>(Option.bind (T201 F y175 (-22:Int)) fun z204=>(Option.bind (vix (gv2) y183) fun x205=>(Option.bind (inb 64 y183) fun x206=>(Option.bind (vat y188 x206) fun x207=>(kA ((((((y182 + ((z199 ^^^ z200) ^^^ z201)) + ((y179 &&& y180) ^^^ ((~~~y179) &&& y181))) + x205) + x207) + (((z202 ^^^ z203) ^^^ z204) + (((y175 &&& y176) ^^^ (y175 &&& y177)) ^^^ (y176 &&& y177)))),y175,y176,y177,(y178 + ((((y182 + ((z199 ^^^ z200) ^^^ z201)) + ((y179 &&& y180) ^^^ ((~~~y179) &&& y181))) + x205) + x207)),y179,y180,y181,(w64 (y183 + (1:Int)))))))))))))) else (kO (y175,y176,y177,y178,y179,y180,y181,y182)))
def L200x2_5 (F:Nat) (y188:Vector UInt32 64) (y175:UInt32) (y176:UInt32) (y177:UInt32) (y178:UInt32) (y179:UInt32) (y180:UInt32) (y181:UInt32) (y182:UInt32) (y183:Int):Option ((UInt32×UInt32×UInt32×UInt32×UInt32×UInt32×UInt32×UInt32×Int) ⊕ (UInt32×UInt32×UInt32×UInt32×UInt32×UInt32×UInt32×UInt32)):=L200x2_5c F y188 y175 y176 y177 y178 y179 y180 y181 y182 y183 (fun s=>some (.inl s)) (fun z=>some (.inr z))
theorem L200x2_5n (F:Nat) (y188:Vector UInt32 64) (y175:UInt32) (y176:UInt32) (y177:UInt32) (y178:UInt32) (y179:UInt32) (y180:UInt32) (y181:UInt32) (y182:UInt32) (y183:Int) {β:Type} (kA:(UInt32×UInt32×UInt32×UInt32×UInt32×UInt32×UInt32×UInt32×Int)->Option β) (kO:(UInt32×UInt32×UInt32×UInt32×UInt32×UInt32×UInt32×UInt32)->Option β):L200x2_5c F y188 y175 y176 y177 y178 y179 y180 y181 y182 y183 kA kO=(L200x2_5 F y188 y175 y176 y177 y178 y179 y180 y181 y182 y183).bind (elimS kA kO):=by
 simp only [L200x2_5,L200x2_5c,Option.bind_assoc,cond_bind,Option.bind_some,Option.bind_none,elimS_l,elimS_r,elimS_bind]
abbrev sA200x2_5:List Sh:=[(.pt 0 [0,0]),(.pt 1 []),(.pt 2 []),.u32,.u32,.u32,.u32,.u32,.u32,.u32,.u32,.i]
abbrev sAp1200x2_5:List Sh:=[(.pt 0 [0,0]),(.pt 1 []),.u32,.u32,.u32,.u32,.u32,.u32,.u32,.u32]
abbrev sT200x2_5:List TSh:=[.blk 230 (.pr (.pr (.pr (.ar 8 .u32) (.pr (.ar 64 .u8) (.pr .i .un))) (.pr (.ar 64 .u8) .un)) .un),.blk 231 (.ar 64 .u32),.blk 192 (.ar 8 .u32)]
abbrev sTp1200x2_5:List TSh:=[.blk 230 (.pr (.pr (.pr (.ar 8 .u32) (.pr (.ar 64 .u8) (.pr .i .un))) (.pr (.ar 64 .u8) .un)) .un),.blk 192 (.ar 8 .u32)]
def lc200x2_5 (F:Nat):Lc:=mkL [0,4,11,12,13,14,15,16,17,18,19,123] sA200x2_5 sT200x2_5 [0,11,12,13,14,15,16,17,18,19] sAp1200x2_5 sTp1200x2_5 F (fun x y (s:UInt32×UInt32×UInt32×UInt32×UInt32×UInt32×UInt32×UInt32×Int)=>L200x2_5 F y.2.1 s.1 s.2.1 s.2.2.1 s.2.2.2.1 s.2.2.2.2.1 s.2.2.2.2.2.1 s.2.2.2.2.2.2.1 s.2.2.2.2.2.2.2.1 s.2.2.2.2.2.2.2.2) (fun x y=>(x.2.2.2.1,x.2.2.2.2.1,x.2.2.2.2.2.1,x.2.2.2.2.2.2.1,x.2.2.2.2.2.2.2.1,x.2.2.2.2.2.2.2.2.1,x.2.2.2.2.2.2.2.2.2.1,x.2.2.2.2.2.2.2.2.2.2.1,x.2.2.2.2.2.2.2.2.2.2.2.1)) (fun x y (z:UInt32×UInt32×UInt32×UInt32×UInt32×UInt32×UInt32×UInt32)=>(((),(),z.1,z.2.1,z.2.2.1,z.2.2.2.1,z.2.2.2.2.1,z.2.2.2.2.2.1,z.2.2.2.2.2.2.1,z.2.2.2.2.2.2.2,()),((((y.1.1.1.1,y.1.1.1.2.1,y.1.1.1.2.2.1,()),y.1.1.2.1,()),()),y.2.2.1,())))
theorem le200x2_5 (F:Nat) (x:dens sA200x2_5) (y:tdens sT200x2_5) (s:UInt32×UInt32×UInt32×UInt32×UInt32×UInt32×UInt32×UInt32×Int):sev (E200x2 F) 1 [] (cAt (bodyOf Tryz.f200) (0 :: 0 :: [1,0,1,1,1,1])) (0 :: 0 :: [1,0,1,1,1,1]) (mkSt [0,4,11,12,13,14,15,16,17,18,19,123] sA200x2_5 sT200x2_5 ((),(),(),s.1,s.2.1,s.2.2.1,s.2.2.2.1,s.2.2.2.2.1,s.2.2.2.2.2.1,s.2.2.2.2.2.2.1,s.2.2.2.2.2.2.2.1,s.2.2.2.2.2.2.2.2,()) ((((y.1.1.1.1,y.1.1.1.2.1,y.1.1.1.2.2.1,()),y.1.1.2.1,()),()),y.2.1,y.2.2.1,())) (kLoop 1 [0,4,11,12,13,14,15,16,17,18,19,123] sA200x2_5 sT200x2_5 [0,11,12,13,14,15,16,17,18,19] sAp1200x2_5 sTp1200x2_5 [] [] [] 2 (fun x y=>some (.inl (x,y))) (fun x y=>some (.inr (.inl (x,y)))) (fun x y=>some (.inr (.inr (x,y))))) =
  L200x2_5c (β:=Full sA200x2_5 sT200x2_5 sAp1200x2_5 sTp1200x2_5 [] []) F y.2.1 s.1 s.2.1 s.2.2.1 s.2.2.2.1 s.2.2.2.2.1 s.2.2.2.2.2.1 s.2.2.2.2.2.2.1 s.2.2.2.2.2.2.2.1 s.2.2.2.2.2.2.2.2 (fun s=>some (.inl (((),(),(),s.1,s.2.1,s.2.2.1,s.2.2.2.1,s.2.2.2.2.1,s.2.2.2.2.2.1,s.2.2.2.2.2.2.1,s.2.2.2.2.2.2.2.1,s.2.2.2.2.2.2.2.2,()),((((y.1.1.1.1,y.1.1.1.2.1,y.1.1.1.2.2.1,()),y.1.1.2.1,()),()),y.2.1,y.2.2.1,())))) (fun z=>some (.inr (.inl (((),(),z.1,z.2.1,z.2.2.1,z.2.2.2.1,z.2.2.2.2.1,z.2.2.2.2.2.1,z.2.2.2.2.2.2.1,z.2.2.2.2.2.2.2,()),((((y.1.1.1.1,y.1.1.1.2.1,y.1.1.1.2.2.1,()),y.1.1.2.1,()),()),y.2.2.1,()))))):=by kernel_rfl
theorem lo200x2_5 (F:Nat):LcOk Tryz.prog (E200x2 F) 1 (lc200x2_5 F) (cAt (bodyOf Tryz.f200) [1,0,1,1,1,1]):=
 mkL_ok (lp:=[]) (id:=2) (b:=cAt (bodyOf Tryz.f200) (0 :: 0 :: [1,0,1,1,1,1])) cok (cts200x2 F) mixed trivial (by kernel_rfl) (by kernel_rfl) (fun x y s=>((),(),(),s.1,s.2.1,s.2.2.1,s.2.2.2.1,s.2.2.2.2.1,s.2.2.2.2.2.1,s.2.2.2.2.2.2.1,s.2.2.2.2.2.2.2.1,s.2.2.2.2.2.2.2.2,())) (fun x y s=>((((y.1.1.1.1,y.1.1.1.2.1,y.1.1.1.2.2.1,()),y.1.1.2.1,()),()),y.2.1,y.2.2.1,())) (fun x y=>rfl) (fun x y=>rfl) (fun x y s kA kO=>L200x2_5c F y.2.1 s.1 s.2.1 s.2.2.1 s.2.2.2.1 s.2.2.2.2.1 s.2.2.2.2.2.1 s.2.2.2.2.2.2.1 s.2.2.2.2.2.2.2.1 s.2.2.2.2.2.2.2.2 kA kO) (fun x y s kA kO=>L200x2_5n F y.2.1 s.1 s.2.1 s.2.2.1 s.2.2.2.1 s.2.2.2.2.1 s.2.2.2.2.2.1 s.2.2.2.2.2.2.1 s.2.2.2.2.2.2.2.1 s.2.2.2.2.2.2.2.2 kA kO) (le200x2_5 F)
def L200x2_6c (F:Nat) (y209:Vector UInt32 8) (y215:Vector UInt32 8) (y210:Int) (y211:Vector UInt32 8) {β:Type} (kA:(Int×(Vector UInt32 8))->Option β) (kO:((Vector UInt32 8))->Option β):Option β:=
 (bif (decide (y210 < (8:Int))) then (Option.bind (vix y209 y210) fun x220=>(Option.bind (inb 8 y210) fun x221=>(Option.bind (vat y215 x221) fun x222=>(Option.bind (inb 8 y210) fun x223=>(kA ((w64 (y210 + (1:Int))),(Vector.setIfInBounds y211 x223 (x222 + x220)))))))) else (kO y211))
def L200x2_6 (F:Nat) (y209:Vector UInt32 8) (y215:Vector UInt32 8) (y210:Int) (y211:Vector UInt32 8):Option ((Int×(Vector UInt32 8)) ⊕ ((Vector UInt32 8))):=L200x2_6c F y209 y215 y210 y211 (fun s=>some (.inl s)) (fun z=>some (.inr z))
theorem L200x2_6n (F:Nat) (y209:Vector UInt32 8) (y215:Vector UInt32 8) (y210:Int) (y211:Vector UInt32 8) {β:Type} (kA:(Int×(Vector UInt32 8))->Option β) (kO:((Vector UInt32 8))->Option β):L200x2_6c F y209 y215 y210 y211 kA kO=(L200x2_6 F y209 y215 y210 y211).bind (elimS kA kO):=by
 simp only [L200x2_6,L200x2_6c,Option.bind_assoc,cond_bind,Option.bind_some,Option.bind_none,elimS_l,elimS_r,elimS_bind]
abbrev sA200x2_6:List Sh:=[(.pt 0 [0,0]),(.pt 1 []),(.ar 8 .u32),.i]
abbrev sAp1200x2_6:List Sh:=[]
abbrev sT200x2_6:List TSh:=[.blk 230 (.pr (.pr (.pr (.ar 8 .u32) (.pr (.ar 64 .u8) (.pr .i .un))) (.pr (.ar 64 .u8) .un)) .un),.blk 192 (.ar 8 .u32)]
abbrev sTp1200x2_6:List TSh:=[.blk 230 (.pr (.pr (.pr (.ar 8 .u32) (.pr (.ar 64 .u8) (.pr .i .un))) (.pr (.ar 64 .u8) .un)) .un)]
def lc200x2_6 (F:Nat):Lc:=mkL [0,11,196,197] sA200x2_6 sT200x2_6 [] sAp1200x2_6 sTp1200x2_6 F (fun x y (s:Int×(Vector UInt32 8))=>L200x2_6 F x.2.2.1 y.2.1 s.1 s.2) (fun x y=>(x.2.2.2.1,y.1.1.1.1)) (fun x y (z:(Vector UInt32 8))=>((),((((z,y.1.1.1.2.1,y.1.1.1.2.2.1,()),y.1.1.2.1,()),()),())))
theorem le200x2_6 (F:Nat) (x:dens sA200x2_6) (y:tdens sT200x2_6) (s:Int×(Vector UInt32 8)):sev (E200x2 F) 1 [] (cAt (bodyOf Tryz.f200) (0 :: 0 :: [1,1,1,1,1,1])) (0 :: 0 :: [1,1,1,1,1,1]) (mkSt [0,11,196,197] sA200x2_6 sT200x2_6 ((),(),x.2.2.1,s.1,()) ((((s.2,y.1.1.1.2.1,y.1.1.1.2.2.1,()),y.1.1.2.1,()),()),y.2.1,())) (kLoop 1 [0,11,196,197] sA200x2_6 sT200x2_6 [] sAp1200x2_6 sTp1200x2_6 [] [] [] 4 (fun x y=>some (.inl (x,y))) (fun x y=>some (.inr (.inl (x,y)))) (fun x y=>some (.inr (.inr (x,y))))) =
  L200x2_6c (β:=Full sA200x2_6 sT200x2_6 sAp1200x2_6 sTp1200x2_6 [] []) F x.2.2.1 y.2.1 s.1 s.2 (fun s=>some (.inl (((),(),x.2.2.1,s.1,()),((((s.2,y.1.1.1.2.1,y.1.1.1.2.2.1,()),y.1.1.2.1,()),()),y.2.1,())))) (fun z=>some (.inr (.inl ((),((((z,y.1.1.1.2.1,y.1.1.1.2.2.1,()),y.1.1.2.1,()),()),()))))):=by kernel_rfl
theorem lo200x2_6 (F:Nat):LcOk Tryz.prog (E200x2 F) 1 (lc200x2_6 F) (cAt (bodyOf Tryz.f200) [1,1,1,1,1,1]):=
 mkL_ok (lp:=[]) (id:=4) (b:=cAt (bodyOf Tryz.f200) (0 :: 0 :: [1,1,1,1,1,1])) cok (cts200x2 F) mixed trivial (by kernel_rfl) (by kernel_rfl) (fun x y s=>((),(),x.2.2.1,s.1,())) (fun x y s=>((((s.2,y.1.1.1.2.1,y.1.1.1.2.2.1,()),y.1.1.2.1,()),()),y.2.1,())) (fun x y=>rfl) (fun x y=>rfl) (fun x y s kA kO=>L200x2_6c F x.2.2.1 y.2.1 s.1 s.2 kA kO) (fun x y s kA kO=>L200x2_6n F x.2.2.1 y.2.1 s.1 s.2 kA kO) (le200x2_6 F)
def T200x2c (F:Nat) (p0:Nat×Nat) (p1:Vector UInt32 8) (p2:Vector UInt8 64) {β:Type} (k:((Vector UInt32 8))->Option β):Option β:=
 (Option.bind (iter (fun s=>L200x2_4 F p2 s.1 s.2.1 s.2.2) F ((p0.1,p0.2),(0:Int),(Vector.replicate 64 (0:UInt32)))) fun z166=>(Option.bind (vat p1 0) fun x167=>(Option.bind (vat p1 1) fun x168=>(Option.bind (vat p1 2) fun x169=>(Option.bind (vat p1 3) fun x170=>(Option.bind (vat p1 4) fun x171=>(Option.bind (vat p1 5) fun x172=>(Option.bind (vat p1 6) fun x173=>(Option.bind (vat p1 7) fun x174=>(Option.bind (iter (fun s=>L200x2_5 F z166 s.1 s.2.1 s.2.2.1 s.2.2.2.1 s.2.2.2.2.1 s.2.2.2.2.2.1 s.2.2.2.2.2.2.1 s.2.2.2.2.2.2.2.1 s.2.2.2.2.2.2.2.2) F (x167,x168,x169,x170,x171,x172,x173,x174,(0:Int))) fun z208=>(Option.bind (iter (fun s=>L200x2_6 F (#v[z208.1,z208.2.1,z208.2.2.1,z208.2.2.2.1,z208.2.2.2.2.1,z208.2.2.2.2.2.1,z208.2.2.2.2.2.2.1,z208.2.2.2.2.2.2.2]:Vector UInt32 8) p1 s.1 s.2) F ((0:Int),p1)) fun z224=>(k z224))))))))))))
def T200x2 (F:Nat) (p0:Nat×Nat) (p1:Vector UInt32 8) (p2:Vector UInt8 64):Option ((Vector UInt32 8)):=T200x2c F p0 p1 p2 some
theorem T200x2n (F:Nat) (p0:Nat×Nat) (p1:Vector UInt32 8) (p2:Vector UInt8 64) {β:Type} (k:((Vector UInt32 8))->Option β):T200x2c F p0 p1 p2 k=(T200x2 F p0 p1 p2).bind k:=by
 simp only [T200x2,T200x2c,Option.bind_assoc,cond_bind,Option.bind_some,Option.bind_none,elimS_bind]
abbrev cA200x2:List Sh:=[(.pt 0 [0,0]),(.ap 0 [0,0,1])]
abbrev cB200x2:List Sh:=[]
abbrev cT200x2:List TSh:=[.blk 230 (.pr (.pr (.pr (.ar 8 .u32) (.pr (.ar 64 .u8) (.pr .i .un))) (.pr (.ar 64 .u8) .un)) .un)]
abbrev cU200x2:List TSh:=[.blk 230 (.pr (.pr (.pr (.ar 8 .u32) (.pr (.ar 64 .u8) (.pr .i .un))) (.pr (.ar 64 .u8) .un)) .un)]
def ct200x2 (F:Nat):Ct:=mkC 1 cA200x2 cT200x2 cB200x2 cU200x2 (fun x y=>T200x2 F x.2.1 y.1.1.1.1 y.1.1.1.2.1) (fun x y (z:(Vector UInt32 8))=>((),((((z,y.1.1.1.2.1,y.1.1.1.2.2.1,()),y.1.1.2.1,()),()),())))
theorem eq200x2 (F:Nat) (x:dens cA200x2) (y:tdens cT200x2):sev (E200x2 F) 1 [([1,0,1],lc200x2_4 F),([1,0,1,1,1,1],lc200x2_5 F),([1,1,1,1,1,1],lc200x2_6 F)] (bodyOf Tryz.f200) [] (mkSt (rng 2) cA200x2 cT200x2 x y) (kFn (E200x2 F) 1 Tryz.f200.results.toList cB200x2 cU200x2 fun p q=>some (p,q)) =
  T200x2c F x.2.1 y.1.1.1.1 y.1.1.1.2.1 (fun z=>some ((),((((z,y.1.1.1.2.1,y.1.1.1.2.2.1,()),y.1.1.2.1,()),()),()))):=by kernel_rfl
theorem ok200x2 (F:Nat):Sound Tryz.prog cfg 200 (ct200x2 F):=
 mkC_ok (E:=E200x2 F) (lp:=[([1,0,1],lc200x2_4 F),([1,0,1,1,1,1],lc200x2_5 F),([1,1,1,1,1,1],lc200x2_6 F)]) (code:=bodyOf Tryz.f200) Tryz.func200 rfl Tryz.ntmps200 rfl rfl cok (cts200x2 F) mixed ⟨lo200x2_4 F,⟨lo200x2_5 F,⟨lo200x2_6 F,trivial⟩⟩⟩ (by kernel_rfl) (fun x y k=>T200x2c F x.2.1 y.1.1.1.1 y.1.1.1.2.1 k) (fun x y k=>T200x2n F x.2.1 y.1.1.1.1 y.1.1.1.2.1 k) (eq200x2 F)
def ord200x3:Nat->List (Tag×Nat)
 | 6=>[(.p,0),(.p,1),(.p,2),(.r,3),(.p,4),(.p,5),(.p,6),(.p,7),(.r,8),(.p,9),(.p,10),(.p,11),(.p,12),(.p,13),(.r,14),(.p,15),(.p,16),(.p,17),(.p,18),(.p,19),(.r,20),(.p,21),(.p,22),(.p,23),(.w,24)]
 | 7=>[(.p,0),(.p,1),(.p,2),(.r,3),(.p,4),(.p,5),(.p,6),(.r,7),(.p,8),(.p,9)]
 | 10=>[(.p,0),(.p,1),(.p,2),(.p,3),(.p,4),(.r,5),(.p,6),(.p,7),(.p,8),(.p,9),(.p,10),(.p,11),(.r,12),(.p,13),(.p,14),(.w,15)]
 | 13=>[(.p,0),(.r,1),(.p,2),(.r,3),(.p,4),(.r,5),(.p,6),(.r,7),(.p,8),(.r,9),(.p,10),(.r,11),(.p,12),(.r,13),(.p,14),(.r,15),(.p,16),(.p,17),(.p,18),(.p,19),(.p,20),(.p,21),(.p,22),(.p,23)]
 | 19=>[(.p,0),(.p,1),(.p,2),(.p,3),(.p,4),(.p,5),(.p,6),(.p,7),(.p,8),(.p,9),(.p,10),(.p,11),(.p,12),(.p,13),(.r,14),(.p,15),(.p,16),(.p,17),(.r,18),(.p,19),(.p,20)]
 | 26=>[(.p,0),(.p,1),(.p,2),(.p,3),(.r,4),(.p,5),(.p,6),(.p,7),(.p,8),(.p,9),(.w,10)]
 | _=>[]
def al200x3:Nat->Option Nat
 | _=>none
def ms200x3:Nat->Option (List (Option Tag×Nat×List Nat))
 | _=>none
def E200x3 (F:Nat):Ev:=⟨cfg,212,ctOf [(201,ct201 F)],ord200x3,ctOf [],al200x3,ms200x3⟩
theorem cts200x3 (F:Nat):CtsOk Tryz.prog (E200x3 F):=cts_of (l:=[(201,ct201 F)]) (l':=[]) rfl rfl ⟨⟨ok201 F,_,Tryz.func201,rfl,rfl⟩,trivial⟩ trivial
def L200x3_4c (F:Nat) (y105:List UInt8) (y106:Int) (y111:Vector UInt32 64) {β:Type} (kA:(Int×(Vector UInt32 64))->Option β) (kO:((Vector UInt32 64))->Option β):Option β:=
 (bif (decide (y106 < (64:Int))) then (bif (decide (y106 < (16:Int))) then (Option.bind (gsl y105 (w64 ((4:Int) * y106)) (w64 ((w64 ((4:Int) * y106)) + (4:Int)))) fun x131=>(Option.bind (ix x131 (0:Int)) fun x132=>(Option.bind (ix x131 (1:Int)) fun x133=>(Option.bind (ix x131 (2:Int)) fun x134=>(Option.bind (ix x131 (3:Int)) fun x135=>(Option.bind (inb 64 y106) fun x136=>(kA ((w64 (y106 + (1:Int))),(Vector.setIfInBounds y111 x136 ((((shl32 (x132.toUInt32) ((UInt64.ofNat 24).toNat)) ||| (shl32 (x133.toUInt32) ((UInt64.ofNat 16).toNat))) ||| (shl32 (x134.toUInt32) ((UInt64.ofNat 8).toNat))) ||| (x135.toUInt32))))))))))) else (Option.bind (inb 64 (w64 (y106 - (2:Int)))) fun x137=>(Option.bind (vat y111 x137) fun x138=>(Option.bind (inb 64 (w64 (y106 - (15:Int)))) fun x139=>(Option.bind (vat y111 x139) fun x140=>(Option.bind (T201 F x138 (-17:Int)) fun z141=>(Option.bind (T201 F x138 (-19:Int)) fun z142=>(Option.bind (T201 F x140 (-7:Int)) fun z143=>(Option.bind (T201 F x140 (-18:Int)) fun z144=>(Option.bind (inb 64 (w64 (y106 - (7:Int)))) fun x145=>(Option.bind (vat y111 x145) fun x146=>(Option.bind (inb 64 (w64 (y106 - (16:Int)))) fun x147=>(Option.bind (vat y111 x147) fun x148=>(Option.bind (inb 64 y106) fun x149=>(kA ((w64 (y106 + (1:Int))),(Vector.setIfInBounds y111 x149 (((((z141 ^^^ z142) ^^^ (shr32 x138 ((UInt64.ofNat 10).toNat))) + x146) + ((z143 ^^^ z144) ^^^ (shr32 x140 ((UInt64.ofNat 3).toNat)))) + x148)))))))))))))))))) else (kO y111))
def L200x3_4 (F:Nat) (y105:List UInt8) (y106:Int) (y111:Vector UInt32 64):Option ((Int×(Vector UInt32 64)) ⊕ ((Vector UInt32 64))):=L200x3_4c F y105 y106 y111 (fun s=>some (.inl s)) (fun z=>some (.inr z))
theorem L200x3_4n (F:Nat) (y105:List UInt8) (y106:Int) (y111:Vector UInt32 64) {β:Type} (kA:(Int×(Vector UInt32 64))->Option β) (kO:((Vector UInt32 64))->Option β):L200x3_4c F y105 y106 y111 kA kO=(L200x3_4 F y105 y106 y111).bind (elimS kA kO):=by
 simp only [L200x3_4,L200x3_4c,Option.bind_assoc,cond_bind,Option.bind_some,Option.bind_none,elimS_l,elimS_r,elimS_bind]
abbrev sA200x3_4:List Sh:=[(.pt 0 [0,0]),(.ro .u8),(.pt 1 []),.i]
abbrev sAp1200x3_4:List Sh:=[(.pt 0 [0,0]),(.pt 1 [])]
abbrev sT200x3_4:List TSh:=[.blk 230 (.pr (.pr (.pr (.ar 8 .u32) (.pr (.ar 64 .u8) (.pr .i .un))) (.pr (.ar 64 .u8) .un)) .un),.blk 231 (.ar 64 .u32)]
abbrev sTp1200x3_4:List TSh:=[.blk 230 (.pr (.pr (.pr (.ar 8 .u32) (.pr (.ar 64 .u8) (.pr .i .un))) (.pr (.ar 64 .u8) .un)) .un),.blk 231 (.ar 64 .u32)]
def lc200x3_4 (F:Nat):Lc:=mkL [0,1,4,27] sA200x3_4 sT200x3_4 [0,4] sAp1200x3_4 sTp1200x3_4 F (fun x y (s:Int×(Vector UInt32 64))=>L200x3_4 F x.2.1 s.1 s.2) (fun x y=>(x.2.2.2.1,y.2.1)) (fun x y (z:(Vector UInt32 64))=>(((),(),()),((((y.1.1.1.1,y.1.1.1.2.1,y.1.1.1.2.2.1,()),y.1.1.2.1,()),()),z,())))
theorem le200x3_4 (F:Nat) (x:dens sA200x3_4) (y:tdens sT200x3_4) (s:Int×(Vector UInt32 64)):sev (E200x3 F) 1 [] (cAt (bodyOf Tryz.f200) (0 :: 0 :: [1,0,1])) (0 :: 0 :: [1,0,1]) (mkSt [0,1,4,27] sA200x3_4 sT200x3_4 ((),x.2.1,(),s.1,()) ((((y.1.1.1.1,y.1.1.1.2.1,y.1.1.1.2.2.1,()),y.1.1.2.1,()),()),s.2,())) (kLoop 1 [0,1,4,27] sA200x3_4 sT200x3_4 [0,4] sAp1200x3_4 sTp1200x3_4 [] [] [] 0 (fun x y=>some (.inl (x,y))) (fun x y=>some (.inr (.inl (x,y)))) (fun x y=>some (.inr (.inr (x,y))))) =
  L200x3_4c (β:=Full sA200x3_4 sT200x3_4 sAp1200x3_4 sTp1200x3_4 [] []) F x.2.1 s.1 s.2 (fun s=>some (.inl (((),x.2.1,(),s.1,()),((((y.1.1.1.1,y.1.1.1.2.1,y.1.1.1.2.2.1,()),y.1.1.2.1,()),()),s.2,())))) (fun z=>some (.inr (.inl (((),(),()),((((y.1.1.1.1,y.1.1.1.2.1,y.1.1.1.2.2.1,()),y.1.1.2.1,()),()),z,()))))):=by kernel_rfl
theorem lo200x3_4 (F:Nat):LcOk Tryz.prog (E200x3 F) 1 (lc200x3_4 F) (cAt (bodyOf Tryz.f200) [1,0,1]):=
 mkL_ok (lp:=[]) (id:=0) (b:=cAt (bodyOf Tryz.f200) (0 :: 0 :: [1,0,1])) cok (cts200x3 F) mixed trivial (by kernel_rfl) (by kernel_rfl) (fun x y s=>((),x.2.1,(),s.1,())) (fun x y s=>((((y.1.1.1.1,y.1.1.1.2.1,y.1.1.1.2.2.1,()),y.1.1.2.1,()),()),s.2,())) (fun x y=>rfl) (fun x y=>rfl) (fun x y s kA kO=>L200x3_4c F x.2.1 s.1 s.2 kA kO) (fun x y s kA kO=>L200x3_4n F x.2.1 s.1 s.2 kA kO) (le200x3_4 F)
def L200x3_5c (F:Nat) (y172:Vector UInt32 64) (y159:UInt32) (y160:UInt32) (y161:UInt32) (y162:UInt32) (y163:UInt32) (y164:UInt32) (y165:UInt32) (y166:UInt32) (y167:Int) {β:Type} (kA:(UInt32×UInt32×UInt32×UInt32×UInt32×UInt32×UInt32×UInt32×Int)->Option β) (kO:(UInt32×UInt32×UInt32×UInt32×UInt32×UInt32×UInt32×UInt32)->Option β):Option β:=
 (bif (decide (y167 < (64:Int))) then (Option.bind (T201 F y163 (-6:Int)) fun z183=>(Option.bind (T201 F y163 (-11:Int)) fun z184=>(Option.bind (T201 F y163 (-25:Int)) fun z185=>(Option.bind (T201 F y159 (-2:Int)) fun z186=>(Option.bind (T201 F y159 (-13:Int)) fun z187=>(Option.bind (T201 F y159 (-22:Int)) fun z188=>(Option.bind (vix (gv2) y167) fun x189=>(Option.bind (inb 64 y167) fun x190=>(Option.bind (vat y172 x190) fun x191=>(kA ((((((y166 + ((z183 ^^^ z184) ^^^ z185)) + ((y163 &&& y164) ^^^ ((~~~y163) &&& y165))) + x189) + x191) + (((z186 ^^^ z187) ^^^ z188) + (((y159 &&& y160) ^^^ (y159 &&& y161)) ^^^ (y160 &&& y161)))),y159,y160,y161,(y162 + ((((y166 + ((z183 ^^^ z184) ^^^ z185)) + ((y163 &&& y164) ^^^ ((~~~y163) &&& y165))) + x189) + x191)),y163,y164,y165,(w64 (y167 + (1:Int)))))))))))))) else (kO (y159,y160,y161,y162,y163,y164,y165,y166)))
def L200x3_5 (F:Nat) (y172:Vector UInt32 64) (y159:UInt32) (y160:UInt32) (y161:UInt32) (y162:UInt32) (y163:UInt32) (y164:UInt32) (y165:UInt32) (y166:UInt32) (y167:Int):Option ((UInt32×UInt32×UInt32×UInt32×UInt32×UInt32×UInt32×UInt32×Int) ⊕ (UInt32×UInt32×UInt32×UInt32×UInt32×UInt32×UInt32×UInt32)):=L200x3_5c F y172 y159 y160 y161 y162 y163 y164 y165 y166 y167 (fun s=>some (.inl s)) (fun z=>some (.inr z))
theorem L200x3_5n (F:Nat) (y172:Vector UInt32 64) (y159:UInt32) (y160:UInt32) (y161:UInt32) (y162:UInt32) (y163:UInt32) (y164:UInt32) (y165:UInt32) (y166:UInt32) (y167:Int) {β:Type} (kA:(UInt32×UInt32×UInt32×UInt32×UInt32×UInt32×UInt32×UInt32×Int)->Option β) (kO:(UInt32×UInt32×UInt32×UInt32×UInt32×UInt32×UInt32×UInt32)->Option β):L200x3_5c F y172 y159 y160 y161 y162 y163 y164 y165 y166 y167 kA kO=(L200x3_5 F y172 y159 y160 y161 y162 y163 y164 y165 y166 y167).bind (elimS kA kO):=by
 simp only [L200x3_5,L200x3_5c,Option.bind_assoc,cond_bind,Option.bind_some,Option.bind_none,elimS_l,elimS_r,elimS_bind]
abbrev sA200x3_5:List Sh:=[(.pt 0 [0,0]),(.pt 1 []),(.pt 2 []),.u32,.u32,.u32,.u32,.u32,.u32,.u32,.u32,.i]
abbrev sAp1200x3_5:List Sh:=[(.pt 0 [0,0]),(.pt 1 []),.u32,.u32,.u32,.u32,.u32,.u32,.u32,.u32]
abbrev sT200x3_5:List TSh:=[.blk 230 (.pr (.pr (.pr (.ar 8 .u32) (.pr (.ar 64 .u8) (.pr .i .un))) (.pr (.ar 64 .u8) .un)) .un),.blk 231 (.ar 64 .u32),.blk 192 (.ar 8 .u32)]
abbrev sTp1200x3_5:List TSh:=[.blk 230 (.pr (.pr (.pr (.ar 8 .u32) (.pr (.ar 64 .u8) (.pr .i .un))) (.pr (.ar 64 .u8) .un)) .un),.blk 192 (.ar 8 .u32)]
def lc200x3_5 (F:Nat):Lc:=mkL [0,4,11,12,13,14,15,16,17,18,19,123] sA200x3_5 sT200x3_5 [0,11,12,13,14,15,16,17,18,19] sAp1200x3_5 sTp1200x3_5 F (fun x y (s:UInt32×UInt32×UInt32×UInt32×UInt32×UInt32×UInt32×UInt32×Int)=>L200x3_5 F y.2.1 s.1 s.2.1 s.2.2.1 s.2.2.2.1 s.2.2.2.2.1 s.2.2.2.2.2.1 s.2.2.2.2.2.2.1 s.2.2.2.2.2.2.2.1 s.2.2.2.2.2.2.2.2) (fun x y=>(x.2.2.2.1,x.2.2.2.2.1,x.2.2.2.2.2.1,x.2.2.2.2.2.2.1,x.2.2.2.2.2.2.2.1,x.2.2.2.2.2.2.2.2.1,x.2.2.2.2.2.2.2.2.2.1,x.2.2.2.2.2.2.2.2.2.2.1,x.2.2.2.2.2.2.2.2.2.2.2.1)) (fun x y (z:UInt32×UInt32×UInt32×UInt32×UInt32×UInt32×UInt32×UInt32)=>(((),(),z.1,z.2.1,z.2.2.1,z.2.2.2.1,z.2.2.2.2.1,z.2.2.2.2.2.1,z.2.2.2.2.2.2.1,z.2.2.2.2.2.2.2,()),((((y.1.1.1.1,y.1.1.1.2.1,y.1.1.1.2.2.1,()),y.1.1.2.1,()),()),y.2.2.1,())))
theorem le200x3_5 (F:Nat) (x:dens sA200x3_5) (y:tdens sT200x3_5) (s:UInt32×UInt32×UInt32×UInt32×UInt32×UInt32×UInt32×UInt32×Int):sev (E200x3 F) 1 [] (cAt (bodyOf Tryz.f200) (0 :: 0 :: [1,0,1,1,1,1])) (0 :: 0 :: [1,0,1,1,1,1]) (mkSt [0,4,11,12,13,14,15,16,17,18,19,123] sA200x3_5 sT200x3_5 ((),(),(),s.1,s.2.1,s.2.2.1,s.2.2.2.1,s.2.2.2.2.1,s.2.2.2.2.2.1,s.2.2.2.2.2.2.1,s.2.2.2.2.2.2.2.1,s.2.2.2.2.2.2.2.2,()) ((((y.1.1.1.1,y.1.1.1.2.1,y.1.1.1.2.2.1,()),y.1.1.2.1,()),()),y.2.1,y.2.2.1,())) (kLoop 1 [0,4,11,12,13,14,15,16,17,18,19,123] sA200x3_5 sT200x3_5 [0,11,12,13,14,15,16,17,18,19] sAp1200x3_5 sTp1200x3_5 [] [] [] 2 (fun x y=>some (.inl (x,y))) (fun x y=>some (.inr (.inl (x,y)))) (fun x y=>some (.inr (.inr (x,y))))) =
  L200x3_5c (β:=Full sA200x3_5 sT200x3_5 sAp1200x3_5 sTp1200x3_5 [] []) F y.2.1 s.1 s.2.1 s.2.2.1 s.2.2.2.1 s.2.2.2.2.1 s.2.2.2.2.2.1 s.2.2.2.2.2.2.1 s.2.2.2.2.2.2.2.1 s.2.2.2.2.2.2.2.2 (fun s=>some (.inl (((),(),(),s.1,s.2.1,s.2.2.1,s.2.2.2.1,s.2.2.2.2.1,s.2.2.2.2.2.1,s.2.2.2.2.2.2.1,s.2.2.2.2.2.2.2.1,s.2.2.2.2.2.2.2.2,()),((((y.1.1.1.1,y.1.1.1.2.1,y.1.1.1.2.2.1,()),y.1.1.2.1,()),()),y.2.1,y.2.2.1,())))) (fun z=>some (.inr (.inl (((),(),z.1,z.2.1,z.2.2.1,z.2.2.2.1,z.2.2.2.2.1,z.2.2.2.2.2.1,z.2.2.2.2.2.2.1,z.2.2.2.2.2.2.2,()),((((y.1.1.1.1,y.1.1.1.2.1,y.1.1.1.2.2.1,()),y.1.1.2.1,()),()),y.2.2.1,()))))):=by kernel_rfl
theorem lo200x3_5 (F:Nat):LcOk Tryz.prog (E200x3 F) 1 (lc200x3_5 F) (cAt (bodyOf Tryz.f200) [1,0,1,1,1,1]):=
 mkL_ok (lp:=[]) (id:=2) (b:=cAt (bodyOf Tryz.f200) (0 :: 0 :: [1,0,1,1,1,1])) cok (cts200x3 F) mixed trivial (by kernel_rfl) (by kernel_rfl) (fun x y s=>((),(),(),s.1,s.2.1,s.2.2.1,s.2.2.2.1,s.2.2.2.2.1,s.2.2.2.2.2.1,s.2.2.2.2.2.2.1,s.2.2.2.2.2.2.2.1,s.2.2.2.2.2.2.2.2,())) (fun x y s=>((((y.1.1.1.1,y.1.1.1.2.1,y.1.1.1.2.2.1,()),y.1.1.2.1,()),()),y.2.1,y.2.2.1,())) (fun x y=>rfl) (fun x y=>rfl) (fun x y s kA kO=>L200x3_5c F y.2.1 s.1 s.2.1 s.2.2.1 s.2.2.2.1 s.2.2.2.2.1 s.2.2.2.2.2.1 s.2.2.2.2.2.2.1 s.2.2.2.2.2.2.2.1 s.2.2.2.2.2.2.2.2 kA kO) (fun x y s kA kO=>L200x3_5n F y.2.1 s.1 s.2.1 s.2.2.1 s.2.2.2.1 s.2.2.2.2.1 s.2.2.2.2.2.1 s.2.2.2.2.2.2.1 s.2.2.2.2.2.2.2.1 s.2.2.2.2.2.2.2.2 kA kO) (le200x3_5 F)
def L200x3_6c (F:Nat) (y193:Vector UInt32 8) (y199:Vector UInt32 8) (y194:Int) (y195:Vector UInt32 8) {β:Type} (kA:(Int×(Vector UInt32 8))->Option β) (kO:((Vector UInt32 8))->Option β):Option β:=
 (bif (decide (y194 < (8:Int))) then (Option.bind (vix y193 y194) fun x204=>(Option.bind (inb 8 y194) fun x205=>(Option.bind (vat y199 x205) fun x206=>(Option.bind (inb 8 y194) fun x207=>(kA ((w64 (y194 + (1:Int))),(Vector.setIfInBounds y195 x207 (x206 + x204)))))))) else (kO y195))
def L200x3_6 (F:Nat) (y193:Vector UInt32 8) (y199:Vector UInt32 8) (y194:Int) (y195:Vector UInt32 8):Option ((Int×(Vector UInt32 8)) ⊕ ((Vector UInt32 8))):=L200x3_6c F y193 y199 y194 y195 (fun s=>some (.inl s)) (fun z=>some (.inr z))
theorem L200x3_6n (F:Nat) (y193:Vector UInt32 8) (y199:Vector UInt32 8) (y194:Int) (y195:Vector UInt32 8) {β:Type} (kA:(Int×(Vector UInt32 8))->Option β) (kO:((Vector UInt32 8))->Option β):L200x3_6c F y193 y199 y194 y195 kA kO=(L200x3_6 F y193 y199 y194 y195).bind (elimS kA kO):=by
 simp only [L200x3_6,L200x3_6c,Option.bind_assoc,cond_bind,Option.bind_some,Option.bind_none,elimS_l,elimS_r,elimS_bind]
abbrev sA200x3_6:List Sh:=[(.pt 0 [0,0]),(.pt 1 []),(.ar 8 .u32),.i]
abbrev sAp1200x3_6:List Sh:=[]
abbrev sT200x3_6:List TSh:=[.blk 230 (.pr (.pr (.pr (.ar 8 .u32) (.pr (.ar 64 .u8) (.pr .i .un))) (.pr (.ar 64 .u8) .un)) .un),.blk 192 (.ar 8 .u32)]
abbrev sTp1200x3_6:List TSh:=[.blk 230 (.pr (.pr (.pr (.ar 8 .u32) (.pr (.ar 64 .u8) (.pr .i .un))) (.pr (.ar 64 .u8) .un)) .un)]
def lc200x3_6 (F:Nat):Lc:=mkL [0,11,196,197] sA200x3_6 sT200x3_6 [] sAp1200x3_6 sTp1200x3_6 F (fun x y (s:Int×(Vector UInt32 8))=>L200x3_6 F x.2.2.1 y.2.1 s.1 s.2) (fun x y=>(x.2.2.2.1,y.1.1.1.1)) (fun x y (z:(Vector UInt32 8))=>((),((((z,y.1.1.1.2.1,y.1.1.1.2.2.1,()),y.1.1.2.1,()),()),())))
theorem le200x3_6 (F:Nat) (x:dens sA200x3_6) (y:tdens sT200x3_6) (s:Int×(Vector UInt32 8)):sev (E200x3 F) 1 [] (cAt (bodyOf Tryz.f200) (0 :: 0 :: [1,1,1,1,1,1])) (0 :: 0 :: [1,1,1,1,1,1]) (mkSt [0,11,196,197] sA200x3_6 sT200x3_6 ((),(),x.2.2.1,s.1,()) ((((s.2,y.1.1.1.2.1,y.1.1.1.2.2.1,()),y.1.1.2.1,()),()),y.2.1,())) (kLoop 1 [0,11,196,197] sA200x3_6 sT200x3_6 [] sAp1200x3_6 sTp1200x3_6 [] [] [] 4 (fun x y=>some (.inl (x,y))) (fun x y=>some (.inr (.inl (x,y)))) (fun x y=>some (.inr (.inr (x,y))))) =
  L200x3_6c (β:=Full sA200x3_6 sT200x3_6 sAp1200x3_6 sTp1200x3_6 [] []) F x.2.2.1 y.2.1 s.1 s.2 (fun s=>some (.inl (((),(),x.2.2.1,s.1,()),((((s.2,y.1.1.1.2.1,y.1.1.1.2.2.1,()),y.1.1.2.1,()),()),y.2.1,())))) (fun z=>some (.inr (.inl ((),((((z,y.1.1.1.2.1,y.1.1.1.2.2.1,()),y.1.1.2.1,()),()),()))))):=by kernel_rfl
theorem lo200x3_6 (F:Nat):LcOk Tryz.prog (E200x3 F) 1 (lc200x3_6 F) (cAt (bodyOf Tryz.f200) [1,1,1,1,1,1]):=
 mkL_ok (lp:=[]) (id:=4) (b:=cAt (bodyOf Tryz.f200) (0 :: 0 :: [1,1,1,1,1,1])) cok (cts200x3 F) mixed trivial (by kernel_rfl) (by kernel_rfl) (fun x y s=>((),(),x.2.2.1,s.1,())) (fun x y s=>((((s.2,y.1.1.1.2.1,y.1.1.1.2.2.1,()),y.1.1.2.1,()),()),y.2.1,())) (fun x y=>rfl) (fun x y=>rfl) (fun x y s kA kO=>L200x3_6c F x.2.2.1 y.2.1 s.1 s.2 kA kO) (fun x y s kA kO=>L200x3_6n F x.2.2.1 y.2.1 s.1 s.2 kA kO) (le200x3_6 F)
def T200x3c (F:Nat) (p0:List UInt8) (p1:Vector UInt32 8) {β:Type} (k:((Vector UInt32 8))->Option β):Option β:=
 (Option.bind (iter (fun s=>L200x3_4 F p0 s.1 s.2) F ((0:Int),(Vector.replicate 64 (0:UInt32)))) fun z150=>(Option.bind (vat p1 0) fun x151=>(Option.bind (vat p1 1) fun x152=>(Option.bind (vat p1 2) fun x153=>(Option.bind (vat p1 3) fun x154=>(Option.bind (vat p1 4) fun x155=>(Option.bind (vat p1 5) fun x156=>(Option.bind (vat p1 6) fun x157=>(Option.bind (vat p1 7) fun x158=>(Option.bind (iter (fun s=>L200x3_5 F z150 s.1 s.2.1 s.2.2.1 s.2.2.2.1 s.2.2.2.2.1 s.2.2.2.2.2.1 s.2.2.2.2.2.2.1 s.2.2.2.2.2.2.2.1 s.2.2.2.2.2.2.2.2) F (x151,x152,x153,x154,x155,x156,x157,x158,(0:Int))) fun z192=>(Option.bind (iter (fun s=>L200x3_6 F (#v[z192.1,z192.2.1,z192.2.2.1,z192.2.2.2.1,z192.2.2.2.2.1,z192.2.2.2.2.2.1,z192.2.2.2.2.2.2.1,z192.2.2.2.2.2.2.2]:Vector UInt32 8) p1 s.1 s.2) F ((0:Int),p1)) fun z208=>(k z208))))))))))))
def T200x3 (F:Nat) (p0:List UInt8) (p1:Vector UInt32 8):Option ((Vector UInt32 8)):=T200x3c F p0 p1 some
theorem T200x3n (F:Nat) (p0:List UInt8) (p1:Vector UInt32 8) {β:Type} (k:((Vector UInt32 8))->Option β):T200x3c F p0 p1 k=(T200x3 F p0 p1).bind k:=by
 simp only [T200x3,T200x3c,Option.bind_assoc,cond_bind,Option.bind_some,Option.bind_none,elimS_bind]
abbrev cA200x3:List Sh:=[(.pt 0 [0,0]),(.ro .u8)]
abbrev cB200x3:List Sh:=[]
abbrev cT200x3:List TSh:=[.blk 230 (.pr (.pr (.pr (.ar 8 .u32) (.pr (.ar 64 .u8) (.pr .i .un))) (.pr (.ar 64 .u8) .un)) .un)]
abbrev cU200x3:List TSh:=[.blk 230 (.pr (.pr (.pr (.ar 8 .u32) (.pr (.ar 64 .u8) (.pr .i .un))) (.pr (.ar 64 .u8) .un)) .un)]
def ct200x3 (F:Nat):Ct:=mkC 1 cA200x3 cT200x3 cB200x3 cU200x3 (fun x y=>T200x3 F x.2.1 y.1.1.1.1) (fun x y (z:(Vector UInt32 8))=>((),((((z,y.1.1.1.2.1,y.1.1.1.2.2.1,()),y.1.1.2.1,()),()),())))
theorem eq200x3 (F:Nat) (x:dens cA200x3) (y:tdens cT200x3):sev (E200x3 F) 1 [([1,0,1],lc200x3_4 F),([1,0,1,1,1,1],lc200x3_5 F),([1,1,1,1,1,1],lc200x3_6 F)] (bodyOf Tryz.f200) [] (mkSt (rng 2) cA200x3 cT200x3 x y) (kFn (E200x3 F) 1 Tryz.f200.results.toList cB200x3 cU200x3 fun p q=>some (p,q)) =
  T200x3c F x.2.1 y.1.1.1.1 (fun z=>some ((),((((z,y.1.1.1.2.1,y.1.1.1.2.2.1,()),y.1.1.2.1,()),()),()))):=by kernel_rfl
theorem ok200x3 (F:Nat):Sound Tryz.prog cfg 200 (ct200x3 F):=
 mkC_ok (E:=E200x3 F) (lp:=[([1,0,1],lc200x3_4 F),([1,0,1,1,1,1],lc200x3_5 F),([1,1,1,1,1,1],lc200x3_6 F)]) (code:=bodyOf Tryz.f200) Tryz.func200 rfl Tryz.ntmps200 rfl rfl cok (cts200x3 F) mixed ⟨lo200x3_4 F,⟨lo200x3_5 F,⟨lo200x3_6 F,trivial⟩⟩⟩ (by kernel_rfl) (fun x y k=>T200x3c F x.2.1 y.1.1.1.1 k) (fun x y k=>T200x3n F x.2.1 y.1.1.1.1 k) (eq200x3 F)
def ord176x1:Nat->List (Tag×Nat)
 | _=>[]
def al176x1:Nat->Option Nat
 | _=>none
def ms176x1:Nat->Option (List (Option Tag×Nat×List Nat))
 | _=>none
def E176x1 (F:Nat):Ev:=⟨cfg,57,ctOf [(200,ct200x2 F),(200,ct200x3 F)],ord176x1,ctOf [],al176x1,ms176x1⟩
theorem cts176x1 (F:Nat):CtsOk Tryz.prog (E176x1 F):=cts_of (l:=[(200,ct200x2 F),(200,ct200x3 F)]) (l':=[]) rfl rfl ⟨⟨ok200x2 F,_,Tryz.func200,rfl,rfl⟩,⟨⟨ok200x3 F,_,Tryz.func200,rfl,rfl⟩,trivial⟩⟩ trivial
def L176x1_3c (F:Nat) (y30:List UInt8) (y31:Int) (y32:Bool) (y33:Vector UInt32 8) (y34:Vector UInt8 64) {β:Type} (kO:((List UInt8)×(Vector UInt32 8)×(Vector UInt8 64))->Option β) (kR:((Vector UInt8 64))->Option β):Option β:=
 (bif y32 then (Option.bind (gslb 64 y31 ((64:Nat):Int)) fun x41=>(Option.bind (gsl y30 ((Nat.min y30.length (x41.2 - x41.1)):Int) (y30.length:Int)) fun x42=>(bif (decide ((w64 (y31 + ((Nat.min y30.length (x41.2 - x41.1)):Int))) < (64:Int))) then (kR (vspl y34 x41.1 y30 (Nat.min y30.length (x41.2 - x41.1)))) else (Option.bind (gslb 64 (0:Int) ((64:Nat):Int)) fun x43=>(Option.bind (T200x2 F (x43.1,x43.2) y33 (vspl y34 x41.1 y30 (Nat.min y30.length (x41.2 - x41.1)))) fun z44=>(kO (x42,z44,(vspl y34 x41.1 y30 (Nat.min y30.length (x41.2 - x41.1)))))))))) else (kO (y30,y33,y34)))
def L176x1_3 (F:Nat) (y30:List UInt8) (y31:Int) (y32:Bool) (y33:Vector UInt32 8) (y34:Vector UInt8 64):Option (((List UInt8)×(Vector UInt32 8)×(Vector UInt8 64)) ⊕ ((Vector UInt8 64))):=L176x1_3c F y30 y31 y32 y33 y34 (fun z=>some (.inl z)) (fun z=>some (.inr z))
theorem L176x1_3n (F:Nat) (y30:List UInt8) (y31:Int) (y32:Bool) (y33:Vector UInt32 8) (y34:Vector UInt8 64) {β:Type} (kO:((List UInt8)×(Vector UInt32 8)×(Vector UInt8 64))->Option β) (kR:((Vector UInt8 64))->Option β):L176x1_3c F y30 y31 y32 y33 y34 kO kR=(L176x1_3 F y30 y31 y32 y33 y34).bind (elimS kO kR):=by
 simp only [L176x1_3,L176x1_3c,Option.bind_assoc,cond_bind,Option.bind_some,Option.bind_none,elimS_l,elimS_r,elimS_bind]
abbrev sA176x1_3:List Sh:=[(.pt 0 [0,0]),(.ro .u8),.i,.bo]
abbrev sAp1176x1_3:List Sh:=[(.pt 0 [0,0]),(.ro .u8)]
abbrev sAp2176x1_3:List Sh:=[]
abbrev sT176x1_3:List TSh:=[.blk 230 (.pr (.pr (.pr (.ar 8 .u32) (.pr (.ar 64 .u8) (.pr .i .un))) (.pr (.ar 64 .u8) .un)) .un)]
abbrev sTp1176x1_3:List TSh:=[.blk 230 (.pr (.pr (.pr (.ar 8 .u32) (.pr (.ar 64 .u8) (.pr .i .un))) (.pr (.ar 64 .u8) .un)) .un)]
abbrev sTp2176x1_3:List TSh:=[.blk 230 (.pr (.pr (.pr (.ar 8 .u32) (.pr (.ar 64 .u8) (.pr .i .un))) (.pr (.ar 64 .u8) .un)) .un)]
def lc176x1_3 (F:Nat):Lc:=mkK [0,1,4,21] sA176x1_3 sT176x1_3 [0,1] sAp1176x1_3 sTp1176x1_3 [] sAp2176x1_3 sTp2176x1_3 (fun x y=>L176x1_3 F x.2.1 x.2.2.1 x.2.2.2.1 y.1.1.1.1 y.1.1.1.2.1) (fun x y (z:(List UInt8)×(Vector UInt32 8)×(Vector UInt8 64))=>(((),z.1,()),((((z.2.1,z.2.2,y.1.1.1.2.2.1,()),y.1.1.2.1,()),()),()))) (fun x y (z:(Vector UInt8 64))=>((),((((y.1.1.1.1,z,y.1.1.1.2.2.1,()),y.1.1.2.1,()),()),())))
theorem le176x1_3 (F:Nat) (x:dens sA176x1_3) (y:tdens sT176x1_3):sev (E176x1 F) 1 [] (cAt (bodyOf Tryz.f176) [1,0,1,1]) [1,0,1,1] (mkSt [0,1,4,21] sA176x1_3 sT176x1_3 x y) (kJoinR 1 [0,1] sAp1176x1_3 sTp1176x1_3 [] sAp2176x1_3 sTp2176x1_3 (fun x y=>some (.inl (x,y))) (fun x y=>some (.inr (x,y)))) =
  L176x1_3c (β:=(dens sAp1176x1_3×tdens sTp1176x1_3) ⊕ (dens sAp2176x1_3×tdens sTp2176x1_3)) F x.2.1 x.2.2.1 x.2.2.2.1 y.1.1.1.1 y.1.1.1.2.1 (fun z=>some (.inl (((),z.1,()),((((z.2.1,z.2.2,y.1.1.1.2.2.1,()),y.1.1.2.1,()),()),())))) (fun z=>some (.inr ((),((((y.1.1.1.1,z,y.1.1.1.2.2.1,()),y.1.1.2.1,()),()),())))):=by kernel_rfl
theorem lo176x1_3 (F:Nat):LcOk Tryz.prog (E176x1 F) 1 (lc176x1_3 F) (cAt (bodyOf Tryz.f176) [1,0,1,1]):=
 mkK_ok (lp:=[]) cok (cts176x1 F) mixed trivial (by kernel_rfl) (fun x y kO kR=>L176x1_3c F x.2.1 x.2.2.1 x.2.2.2.1 y.1.1.1.1 y.1.1.1.2.1 kO kR) (fun x y kO kR=>L176x1_3n F x.2.1 x.2.2.1 x.2.2.2.1 y.1.1.1.1 y.1.1.1.2.1 kO kR) (le176x1_3 F)
def L176x1_4c (F:Nat) (y46:List UInt8) (y47:Vector UInt32 8) {β:Type} (kA:((List UInt8)×(Vector UInt32 8))->Option β) (kO:((List UInt8)×(Vector UInt32 8))->Option β):Option β:=
 (bif (decide ((64:Int)≤(y46.length:Int))) then (Option.bind (gsl y46 (0:Int) (64:Int)) fun x54=>(Option.bind (T200x3 F x54 y47) fun z55=>(Option.bind (gsl y46 (64:Int) (y46.length:Int)) fun x56=>(kA (x56,z55))))) else (kO (y46,y47)))
def L176x1_4 (F:Nat) (y46:List UInt8) (y47:Vector UInt32 8):Option (((List UInt8)×(Vector UInt32 8)) ⊕ ((List UInt8)×(Vector UInt32 8))):=L176x1_4c F y46 y47 (fun s=>some (.inl s)) (fun z=>some (.inr z))
theorem L176x1_4n (F:Nat) (y46:List UInt8) (y47:Vector UInt32 8) {β:Type} (kA:((List UInt8)×(Vector UInt32 8))->Option β) (kO:((List UInt8)×(Vector UInt32 8))->Option β):L176x1_4c F y46 y47 kA kO=(L176x1_4 F y46 y47).bind (elimS kA kO):=by
 simp only [L176x1_4,L176x1_4c,Option.bind_assoc,cond_bind,Option.bind_some,Option.bind_none,elimS_l,elimS_r,elimS_bind]
abbrev sA176x1_4:List Sh:=[(.pt 0 [0,0]),(.ro .u8)]
abbrev sAp1176x1_4:List Sh:=[(.pt 0 [0,0]),(.ro .u8)]
abbrev sT176x1_4:List TSh:=[.blk 230 (.pr (.pr (.pr (.ar 8 .u32) (.pr (.ar 64 .u8) (.pr .i .un))) (.pr (.ar 64 .u8) .un)) .un)]
abbrev sTp1176x1_4:List TSh:=[.blk 230 (.pr (.pr (.pr (.ar 8 .u32) (.pr (.ar 64 .u8) (.pr .i .un))) (.pr (.ar 64 .u8) .un)) .un)]
def lc176x1_4 (F:Nat):Lc:=mkL [0,1] sA176x1_4 sT176x1_4 [0,1] sAp1176x1_4 sTp1176x1_4 F (fun x y (s:(List UInt8)×(Vector UInt32 8))=>L176x1_4 F s.1 s.2) (fun x y=>(x.2.1,y.1.1.1.1)) (fun x y (z:(List UInt8)×(Vector UInt32 8))=>(((),z.1,()),((((z.2,y.1.1.1.2.1,y.1.1.1.2.2.1,()),y.1.1.2.1,()),()),())))
theorem le176x1_4 (F:Nat) (x:dens sA176x1_4) (y:tdens sT176x1_4) (s:(List UInt8)×(Vector UInt32 8)):sev (E176x1 F) 1 [] (cAt (bodyOf Tryz.f176) (0 :: 0 :: [0,1,1,1])) (0 :: 0 :: [0,1,1,1]) (mkSt [0,1] sA176x1_4 sT176x1_4 ((),s.1,()) ((((s.2,y.1.1.1.2.1,y.1.1.1.2.2.1,()),y.1.1.2.1,()),()),())) (kLoop 1 [0,1] sA176x1_4 sT176x1_4 [0,1] sAp1176x1_4 sTp1176x1_4 [] [] [] 0 (fun x y=>some (.inl (x,y))) (fun x y=>some (.inr (.inl (x,y)))) (fun x y=>some (.inr (.inr (x,y))))) =
  L176x1_4c (β:=Full sA176x1_4 sT176x1_4 sAp1176x1_4 sTp1176x1_4 [] []) F s.1 s.2 (fun s=>some (.inl (((),s.1,()),((((s.2,y.1.1.1.2.1,y.1.1.1.2.2.1,()),y.1.1.2.1,()),()),())))) (fun z=>some (.inr (.inl (((),z.1,()),((((z.2,y.1.1.1.2.1,y.1.1.1.2.2.1,()),y.1.1.2.1,()),()),()))))):=by kernel_rfl
theorem lo176x1_4 (F:Nat):LcOk Tryz.prog (E176x1 F) 1 (lc176x1_4 F) (cAt (bodyOf Tryz.f176) [0,1,1,1]):=
 mkL_ok (lp:=[]) (id:=0) (b:=cAt (bodyOf Tryz.f176) (0 :: 0 :: [0,1,1,1])) cok (cts176x1 F) mixed trivial (by kernel_rfl) (by kernel_rfl) (fun x y s=>((),s.1,())) (fun x y s=>((((s.2,y.1.1.1.2.1,y.1.1.1.2.2.1,()),y.1.1.2.1,()),()),())) (fun x y=>rfl) (fun x y=>rfl) (fun x y s kA kO=>L176x1_4c F s.1 s.2 kA kO) (fun x y s kA kO=>L176x1_4n F s.1 s.2 kA kO) (le176x1_4 F)
def T176x1c (F:Nat) (p0:List UInt8) (p1:Vector UInt32 8) (p2:Vector UInt8 64) (p3:Int) {β:Type} (k:((Vector UInt32 8)×(Vector UInt8 64)×Int)->Option β):Option β:=
 (Option.bind (L176x1_3 F p0 (Int.tmod p3 (64:Int)) (decide ((0:Int) < (Int.tmod p3 (64:Int)))) p1 p2) fun z45=>elimS (fun z45=>(Option.bind (iter (fun s=>L176x1_4 F s.1 s.2) F (z45.1,z45.2.1)) fun z57=>(Option.bind (gslb 64 (0:Int) ((64:Nat):Int)) fun x58=>(k (z57.2,(vspl z45.2.2 x58.1 z57.1 (Nat.min z57.1.length (x58.2 - x58.1))),(w64 (p3 + (p0.length:Int)))))))) (fun z45=>(k (p1,z45,(w64 (p3 + (p0.length:Int)))))) z45)
def T176x1 (F:Nat) (p0:List UInt8) (p1:Vector UInt32 8) (p2:Vector UInt8 64) (p3:Int):Option ((Vector UInt32 8)×(Vector UInt8 64)×Int):=T176x1c F p0 p1 p2 p3 some
theorem T176x1n (F:Nat) (p0:List UInt8) (p1:Vector UInt32 8) (p2:Vector UInt8 64) (p3:Int) {β:Type} (k:((Vector UInt32 8)×(Vector UInt8 64)×Int)->Option β):T176x1c F p0 p1 p2 p3 k=(T176x1 F p0 p1 p2 p3).bind k:=by
 simp only [T176x1,T176x1c,Option.bind_assoc,cond_bind,Option.bind_some,Option.bind_none,elimS_bind]
abbrev cA176x1:List Sh:=[(.pt 0 [0,0]),(.ro .u8)]
abbrev cB176x1:List Sh:=[]
abbrev cT176x1:List TSh:=[.blk 230 (.pr (.pr (.pr (.ar 8 .u32) (.pr (.ar 64 .u8) (.pr .i .un))) (.pr (.ar 64 .u8) .un)) .un)]
abbrev cU176x1:List TSh:=[.blk 230 (.pr (.pr (.pr (.ar 8 .u32) (.pr (.ar 64 .u8) (.pr .i .un))) (.pr (.ar 64 .u8) .un)) .un)]
def ct176x1 (F:Nat):Ct:=mkC 1 cA176x1 cT176x1 cB176x1 cU176x1 (fun x y=>T176x1 F x.2.1 y.1.1.1.1 y.1.1.1.2.1 y.1.1.1.2.2.1) (fun x y (z:(Vector UInt32 8)×(Vector UInt8 64)×Int)=>((),((((z.1,z.2.1,z.2.2,()),y.1.1.2.1,()),()),())))
theorem eq176x1 (F:Nat) (x:dens cA176x1) (y:tdens cT176x1):sev (E176x1 F) 1 [([1,0,1,1],lc176x1_3 F),([0,1,1,1],lc176x1_4 F)] (bodyOf Tryz.f176) [] (mkSt (rng 2) cA176x1 cT176x1 x y) (kFn (E176x1 F) 1 Tryz.f176.results.toList cB176x1 cU176x1 fun p q=>some (p,q)) =
  T176x1c F x.2.1 y.1.1.1.1 y.1.1.1.2.1 y.1.1.1.2.2.1 (fun z=>some ((),((((z.1,z.2.1,z.2.2,()),y.1.1.2.1,()),()),()))):=by kernel_rfl
theorem ok176x1 (F:Nat):Sound Tryz.prog cfg 176 (ct176x1 F):=
 mkC_ok (E:=E176x1 F) (lp:=[([1,0,1,1],lc176x1_3 F),([0,1,1,1],lc176x1_4 F)]) (code:=bodyOf Tryz.f176) Tryz.func176 rfl Tryz.ntmps176 rfl rfl cok (cts176x1 F) mixed ⟨lo176x1_3 F,⟨lo176x1_4 F,trivial⟩⟩ (by kernel_rfl) (fun x y k=>T176x1c F x.2.1 y.1.1.1.1 y.1.1.1.2.1 y.1.1.1.2.2.1 k) (fun x y k=>T176x1n F x.2.1 y.1.1.1.1 y.1.1.1.2.1 y.1.1.1.2.2.1 k) (eq176x1 F)
def ord140:Nat->List (Tag×Nat)
 | 6=>[(.p,3),(.p,4),(.c,5),(.w,0),(.p,1),(.c,2),(.w,6),(.p,7),(.p,8),(.w,9),(.p,10)]
 | 8=>[(.p,0),(.p,1),(.p,2),(.p,3),(.p,4),(.w,5)]
 | _=>[]
def E140 (F:Nat):Ev:=⟨cfg,38,ctOf [(173,ct173 F),(175,ct175 F),(174,ct174 F),(176,ct176x1 F)],ord140,ctOf [],fun _=>none,fun _=>none⟩
theorem cts140 (F:Nat):CtsOk Tryz.prog (E140 F):=cts_of (l:=[(173,ct173 F),(175,ct175 F),(174,ct174 F),(176,ct176x1 F)]) (l':=[]) rfl rfl ⟨⟨ok173 F,_,Tryz.func173,rfl,rfl⟩,⟨⟨ok175 F,_,Tryz.func175,rfl,rfl⟩,⟨⟨ok174 F,_,Tryz.func174,rfl,rfl⟩,⟨⟨ok176x1 F,_,Tryz.func176,rfl,rfl⟩,trivial⟩⟩⟩⟩ trivial
def T140c (F:Nat) (p0:List UInt8) {β:Type} (k:(Zf×Zh×Int×Zh)->Option β):Option β:=
 (bif (decide ((64:Int) < (p0.length:Int))) then (Option.bind (T173 F ([p0]:List Zb)) fun z18=>(Option.bind (gslb 64 (0:Int) ((64:Nat):Int)) fun x19=>(Option.bind (vix (gv0) (1:Int)) fun x20=>(Option.bind (T175 F) fun z21=>(Option.bind (T174 F x20 (vspl (Vector.replicate 64 (0:UInt8)) x19.1 z18 (Nat.min z18.length (x19.2 - x19.1)))) fun z22=>(Option.bind (vix (gv0) (0:Int)) fun x23=>(Option.bind (T174 F x23 (vspl (Vector.replicate 64 (0:UInt8)) x19.1 z18 (Nat.min z18.length (x19.2 - x19.1)))) fun z24=>(Option.bind (gslb 64 (0:Int) ((64:Nat):Int)) fun x25=>(Option.bind (T176x1 F ((z24.toList.drop x25.1).take (x25.2 - x25.1)) z21.1 z21.2.1 z21.2.2) fun z26=>(k (z26.1,z26.2.1,z26.2.2,z22))))))))))) else (Option.bind (gslb 64 (0:Int) ((64:Nat):Int)) fun x27=>(Option.bind (vix (gv0) (1:Int)) fun x28=>(Option.bind (T175 F) fun z29=>(Option.bind (T174 F x28 (vspl (Vector.replicate 64 (0:UInt8)) x27.1 p0 (Nat.min p0.length (x27.2 - x27.1)))) fun z30=>(Option.bind (vix (gv0) (0:Int)) fun x31=>(Option.bind (T174 F x31 (vspl (Vector.replicate 64 (0:UInt8)) x27.1 p0 (Nat.min p0.length (x27.2 - x27.1)))) fun z32=>(Option.bind (gslb 64 (0:Int) ((64:Nat):Int)) fun x33=>(Option.bind (T176x1 F ((z32.toList.drop x33.1).take (x33.2 - x33.1)) z29.1 z29.2.1 z29.2.2) fun z34=>(k (z34.1,z34.2.1,z34.2.2,z30)))))))))))
def T140 (F:Nat) (p0:List UInt8):=T140c F p0 some
def ct140 (F:Nat):Ct:=mkC 0 [.str] [] [(.pt 0 [])] [.blk 230 Qm] (fun x y=>T140 F x.1) (fun x y (z:Zf×Zh×Int×Zh)=>(((),()),((((z.1,z.2.1,z.2.2.1,()),z.2.2.2,()),()),())))
theorem ok140 (F:Nat):Sound Tryz.prog cfg 140 (ct140 F):=
 mkC_ok (E:=E140 F) (lp:=[]) (code:=bodyOf Tryz.f140) Tryz.func140 rfl Tryz.ntmps140 rfl rfl cok (cts140 F) mixed trivial (by kernel_rfl) (fun x y k=>T140c F x.1 k) (fun _ _ _=>by simp only [T140,T140c,oA,oC,oS,oN,elimS_bind]) (fun _ _=>by kernel_rfl)
def E141 (F:Nat):Ev:=⟨cfg,10,ctOf [(176,ct176x1 F)],fun _=>[],ctOf [],fun _=>none,fun _=>none⟩
theorem cts141 (F:Nat):CtsOk Tryz.prog (E141 F):=cts_of (l:=[(176,ct176x1 F)]) (l':=[]) rfl rfl ⟨⟨ok176x1 F,_,Tryz.func176,rfl,rfl⟩,trivial⟩ trivial
def T141c (F:Nat) (p0:List UInt8) (p1:Vector UInt32 8) (p2:Vector UInt8 64) (p3:Int) {β:Type} (k:(Zf×Zh×Int)->Option β):Option β:=
 (Option.bind (T176x1 F p0 p1 p2 p3) fun z2=>(k (z2.1,z2.2.1,z2.2.2)))
def T141 (F:Nat) (p0:List UInt8) (p1:Vector UInt32 8) (p2:Vector UInt8 64) (p3:Int):=T141c F p0 p1 p2 p3 some
def ct141 (F:Nat):Ct:=mkC 1 [(.pt 0 []),(.ro .u8)] [.blk 230 Qm] [] [.blk 230 Qm] (fun x y=>T141 F x.2.1 y.1.1.1.1 y.1.1.1.2.1 y.1.1.1.2.2.1) (fun x y (z:Zf×Zh×Int)=>((),((((z.1,z.2.1,z.2.2,()),y.1.1.2.1,()),()),())))
theorem ok141 (F:Nat):Sound Tryz.prog cfg 141 (ct141 F):=
 mkC_ok (E:=E141 F) (lp:=[]) (code:=bodyOf Tryz.f141) Tryz.func141 rfl Tryz.ntmps141 rfl rfl cok (cts141 F) mixed trivial (by kernel_rfl) (fun x y k=>T141c F x.2.1 y.1.1.1.1 y.1.1.1.2.1 y.1.1.1.2.2.1 k) (fun _ _ _=>by simp only [T141,T141c,oA,oC,oS,oN,elimS_bind]) (fun _ _=>by kernel_rfl)
def ord142:Nat->List (Tag×Nat)
 | 1=>[(.p,0),(.p,1),(.p,2),(.p,3),(.p,4),(.c,5),(.p,6),(.p,7),(.p,8),(.p,9),(.w,10),(.w,11),(.b,12),(.p,13)]
 | _=>[]
def E142 (F:Nat):Ev:=⟨cfg,16,ctOf [(177,ct177 F),(173,ct173 F)],ord142,ctOf [],fun _=>none,fun _=>none⟩
theorem cts142 (F:Nat):CtsOk Tryz.prog (E142 F):=cts_of (l:=[(177,ct177 F),(173,ct173 F)]) (l':=[]) rfl rfl ⟨⟨ok177 F,_,Tryz.func177,rfl,rfl⟩,⟨⟨ok173 F,_,Tryz.func173,rfl,rfl⟩,trivial⟩⟩ trivial
def T142c (F:Nat) (p0:Vector UInt32 8) (p1:Vector UInt8 64) (p2:Int) (p3:Vector UInt8 64) {β:Type} (k:(Zb)->Option β):Option β:=
 (Option.bind (gslb 64 (0:Int) ((64:Nat):Int)) fun x4=>(Option.bind (T177 F (p0,p1,p2,())) fun z5=>(Option.bind (T173 F ([((p3.toList.drop x4.1).take (x4.2 - x4.1)),z5]:List Zb)) fun z6=>(k z6))))
def T142 (F:Nat) (p0:Vector UInt32 8) (p1:Vector UInt8 64) (p2:Int) (p3:Vector UInt8 64):=T142c F p0 p1 p2 p3 some
def ct142 (F:Nat):Ct:=mkC 1 [(.pt 0 [])] [.blk 230 Qm] [.str] [.blk 230 Qm] (fun x y=>T142 F y.1.1.1.1 y.1.1.1.2.1 y.1.1.1.2.2.1 y.1.1.2.1) (fun x y (z:Zb)=>((z,()),((((y.1.1.1.1,y.1.1.1.2.1,y.1.1.1.2.2.1,()),y.1.1.2.1,()),()),())))
theorem ok142 (F:Nat):Sound Tryz.prog cfg 142 (ct142 F):=
 mkC_ok (E:=E142 F) (lp:=[]) (code:=bodyOf Tryz.f142) Tryz.func142 rfl Tryz.ntmps142 rfl rfl cok (cts142 F) mixed trivial (by kernel_rfl) (fun x y k=>T142c F y.1.1.1.1 y.1.1.1.2.1 y.1.1.1.2.2.1 y.1.1.2.1 k) (fun _ _ _=>by simp only [T142,T142c,oA,oC,oS,oN,elimS_bind]) (fun _ _=>by kernel_rfl)
def E96 (F:Nat):Ev:=⟨cfg,13,ctOf [(140,ct140 F),(141,ct141 F),(142,ct142 F)],fun _=>[],ctOf [],fun _=>none,fun _=>none⟩
theorem cts96 (F:Nat):CtsOk Tryz.prog (E96 F):=cts_of (l:=[(140,ct140 F),(141,ct141 F),(142,ct142 F)]) (l':=[]) rfl rfl ⟨⟨ok140 F,_,Tryz.func140,rfl,rfl⟩,⟨⟨ok141 F,_,Tryz.func141,rfl,rfl⟩,⟨⟨ok142 F,_,Tryz.func142,rfl,rfl⟩,trivial⟩⟩⟩ trivial
def T96c (F:Nat) (p0:List UInt8) (p1:List UInt8) {β:Type} (k:(Zb)->Option β):Option β:=
 (Option.bind (T140 F p0) fun z4=>(Option.bind (T141 F p1 z4.1 z4.2.1 z4.2.2.1) fun z5=>(Option.bind (T142 F z5.1 z5.2.1 z5.2.2 z4.2.2.2) fun z6=>(k z6))))
def T96 (F:Nat) (p0:List UInt8) (p1:List UInt8):=T96c F p0 p1 some
def ct96 (F:Nat):Ct:=mkC 0 [.str,(.ro .u8)] [] [.str] [] (fun x y=>T96 F x.1 x.2.1) (fun x y (z:Zb)=>((z,()),()))
theorem ok96 (F:Nat):Sound Tryz.prog cfg 96 (ct96 F):=
 mkC_ok (E:=E96 F) (lp:=[]) (code:=bodyOf Tryz.f96) Tryz.func96 rfl Tryz.ntmps96 rfl rfl cok (cts96 F) mixed trivial (by kernel_rfl) (fun x y k=>T96c F x.1 x.2.1 k) (fun _ _ _=>by simp only [T96,T96c,oA,oC,oS,oN,elimS_bind]) (fun _ _=>by kernel_rfl)
def E94 (F:Nat):Ev:=⟨cfg,9,ctOf [(96,ct96 F)],fun _=>[],ctOf [],fun _=>none,fun _=>none⟩
theorem cts94 (F:Nat):CtsOk Tryz.prog (E94 F):=cts_of (l:=[(96,ct96 F)]) (l':=[]) rfl rfl ⟨⟨ok96 F,_,Tryz.func96,rfl,rfl⟩,trivial⟩ trivial
def T94c (F:Nat) (p0:List UInt8) (p1:List UInt8) {β:Type} (k:(Zb)->Option β):Option β:=
 (Option.bind (gstr p1) fun x3=>(Option.bind (T96 F p0 x3) fun z4=>(k z4)))
def T94 (F:Nat) (p0:List UInt8) (p1:List UInt8):=T94c F p0 p1 some
def ct94 (F:Nat):Ct:=mkC 0 [.str,.str] [] [.str] [] (fun x y=>T94 F x.1 x.2.1) (fun x y (z:Zb)=>((z,()),()))
theorem ok94 (F:Nat):Sound Tryz.prog cfg 94 (ct94 F):=
 mkC_ok (E:=E94 F) (lp:=[]) (code:=bodyOf Tryz.f94) Tryz.func94 rfl Tryz.ntmps94 rfl rfl cok (cts94 F) mixed trivial (by kernel_rfl) (fun x y k=>T94c F x.1 x.2.1 k) (fun _ _ _=>by simp only [T94,T94c,oA,oC,oS,oN,elimS_bind]) (fun _ _=>by kernel_rfl)
def E93 (F:Nat):Ev:=⟨cfg,51,ctOf [(140,ct140 F),(141,ct141 F),(142,ct142 F)],fun _=>[],ctOf [],fun _=>none,fun _=>none⟩
theorem cts93 (F:Nat):CtsOk Tryz.prog (E93 F):=cts_of (l:=[(140,ct140 F),(141,ct141 F),(142,ct142 F)]) (l':=[]) rfl rfl ⟨⟨ok140 F,_,Tryz.func140,rfl,rfl⟩,⟨⟨ok141 F,_,Tryz.func141,rfl,rfl⟩,⟨⟨ok142 F,_,Tryz.func142,rfl,rfl⟩,trivial⟩⟩⟩ trivial
def L93_2c (F:Nat) (y51:List UInt8) (y52:List UInt8) (y53:Int) (y54:List UInt8) (y55:Int) (y56:List UInt8) {β:Type} (kA:(Zb×Int×Zb)->Option β) (kO:(Zb)->Option β):Option β:=
 (bif (decide ((y56.length:Int) < y53)) then (Option.bind (T140 F y51) fun z65=>(Option.bind (gstr y54) fun x66=>(Option.bind (T141 F x66 z65.1 z65.2.1 z65.2.2.1) fun z67=>(Option.bind (gstr y52) fun x68=>(Option.bind (T141 F x68 z67.1 z67.2.1 z67.2.2) fun z69=>(Option.bind (T141 F ([(UInt8.ofInt y55)]:List UInt8) z69.1 z69.2.1 z69.2.2) fun z70=>(Option.bind (T142 F z70.1 z70.2.1 z70.2.2 z65.2.2.2) fun z71=>(Option.bind (gapp y56 z71) fun x72=>(kA (z71,(w64 (y55 + (1:Int))),x72)))))))))) else (kO y56))
def L93_2 (F:Nat) (y51:List UInt8) (y52:List UInt8) (y53:Int) (y54:List UInt8) (y55:Int) (y56:List UInt8):=L93_2c F y51 y52 y53 y54 y55 y56 (fun s=>some (Sum.inl s)) (fun z=>some (Sum.inr z))
def lc93_2 (F:Nat):Lc:=mkL [0,1,2,8,9,10] [.str,.str,.i,(.rw 0),.str,.i] [.row 5 .u8] [2,8] [.i,(.rw 0)] [.row 5 .u8] F (fun x y (s:Zb×Int×Zb)=>L93_2 F x.1 x.2.1 x.2.2.1 s.1 s.2.1 s.2.2) (fun x y=>(x.2.2.2.2.1,x.2.2.2.2.2.1,y.1)) (fun x y (z:Zb)=>((x.2.2.1,(),()),(z,())))
theorem lo93_2 (F:Nat):LcOk Tryz.prog (E93 F) 0 (lc93_2 F) (cAt (bodyOf Tryz.f93) [1,0,1,1,1,1,1]):=
 mkL_ok (lp:=[]) (id:=0) (b:=cAt (bodyOf Tryz.f93) (0 :: 0 :: [1,0,1,1,1,1,1])) cok (cts93 F) mixed trivial (by kernel_rfl) (by kernel_rfl) (fun x y s=>(x.1,x.2.1,x.2.2.1,(),s.1,s.2.1,())) (fun x y s=>(s.2.2,())) (fun x y=>rfl) (fun x y=>rfl) (fun x y s kA kO=>L93_2c F x.1 x.2.1 x.2.2.1 s.1 s.2.1 s.2.2 kA kO) (fun _ _ _ _ _=>by simp only [L93_2,L93_2c,oA,oC,oS,oN,elimS_l,elimS_r,elimS_bind]) (fun _ _ _=>by kernel_rfl)
def T93c (F:Nat) (p0:List UInt8) (p1:List UInt8) (p2:Int) {β:Type} (k:(Zb×Int)->Option β):Option β:=
 (bif (decide ((p0.length:Int) < (32:Int))) then (k (([]:List UInt8),(1:Int))) else (bif (decide (p2 < (0:Int))) then (k (([]:List UInt8),(1:Int))) else (bif (decide ((8160:Int) < p2)) then (k (([]:List UInt8),(2:Int))) else (Option.bind (iter (fun s=>L93_2 F p0 p1 p2 s.1 s.2.1 s.2.2) F (([]:List UInt8),(1:Int),([]:List UInt8))) fun z73=>(Option.bind (gslb z73.length (0:Int) p2) fun x74=>(k (((z73.drop x74.1).take (x74.2 - x74.1)),(0:Int))))))))
def T93 (F:Nat) (p0:List UInt8) (p1:List UInt8) (p2:Int):=T93c F p0 p1 p2 some
def ct93 (F:Nat):Ct:=mkC 0 [.str,.str,.i] [] [.str,.i] [] (fun x y=>T93 F x.1 x.2.1 x.2.2.1) (fun x y (z:Zb×Int)=>((z.1,z.2,()),()))
theorem ok93 (F:Nat):Sound Tryz.prog cfg 93 (ct93 F):=
 mkC_ok (E:=E93 F) (lp:=[([1,0,1,1,1,1,1],lc93_2 F)]) (code:=bodyOf Tryz.f93) Tryz.func93 rfl Tryz.ntmps93 rfl rfl cok (cts93 F) mixed ⟨lo93_2 F,trivial⟩ (by kernel_rfl) (fun x y k=>T93c F x.1 x.2.1 x.2.2.1 k) (fun _ _ _=>by simp only [T93,T93c,oA,oC,oS,oN,elimS_bind]) (fun _ _=>by kernel_rfl)
def E28 (F:Nat):Ev:=⟨cfg,24,ctOf [(94,ct94 F),(93,ct93 F)],fun _=>[],ctOf [],fun _=>none,fun _=>none⟩
theorem cts28 (F:Nat):CtsOk Tryz.prog (E28 F):=cts_of (l:=[(94,ct94 F),(93,ct93 F)]) (l':=[]) rfl rfl ⟨⟨ok94 F,_,Tryz.func94,rfl,rfl⟩,⟨⟨ok93 F,_,Tryz.func93,rfl,rfl⟩,trivial⟩⟩ trivial
def T28c (F:Nat) (p0:List UInt8) (p1:List UInt8) {β:Type} (k:(Zb×Int)->Option β):Option β:=
 (bif ((p0.length:Int) != (32:Int)) then (k (([]:List UInt8),(1:Int))) else (bif (p1 == ([]:List UInt8)) then (k (([]:List UInt8),(1:Int))) else (bif (decide ((64:Int) < (p1.length:Int))) then (k (([]:List UInt8),(1:Int))) else (Option.bind (T94 F ([]:List UInt8) p0) fun z3=>(Option.bind (T93 F z3 p1 (32:Int)) fun z4=>(k (z4.1,z4.2)))))))
def T28 (F:Nat) (p0:List UInt8) (p1:List UInt8):=T28c F p0 p1 some
def ct28 (F:Nat):Ct:=mkC 0 [.str,.str] [] [.str,.i] [] (fun x y=>T28 F x.1 x.2.1) (fun x y (z:Zb×Int)=>((z.1,z.2,()),()))
theorem ok28 (F:Nat):Sound Tryz.prog cfg 28 (ct28 F):=
 mkC_ok (E:=E28 F) (lp:=[]) (code:=bodyOf Tryz.f28) Tryz.func28 rfl Tryz.ntmps28 rfl rfl cok (cts28 F) mixed trivial (by kernel_rfl) (fun x y k=>T28c F x.1 x.2.1 k) (fun _ _ _=>by simp only [T28,T28c,oA,oC,oS,oN,elimS_bind]) (fun _ _=>by kernel_rfl)
def E12 (F:Nat):Ev:=⟨cfg,39,ctOf [(28,ct28 F)],fun _=>[],ctOf [],fun _=>none,fun _=>none⟩
theorem cts12 (F:Nat):CtsOk Tryz.prog (E12 F):=cts_of (l:=[(28,ct28 F)]) (l':=[]) rfl rfl ⟨⟨ok28 F,_,Tryz.func28,rfl,rfl⟩,trivial⟩ trivial
def T12c (F:Nat) (p0:List UInt8) {β:Type} (k:(Zb×Zb×Zb×Zb×Zb×Int)->Option β):Option β:=
 (Option.bind (inb 5 (0:Int)) fun x16=>(Option.bind (vat (#v[([110,97,109,101]:List UInt8),([115,116,114,101,97,109]:List UInt8),([99,104,101,99,107]:List UInt8),([105,110,100,101,120]:List UInt8),([116,111,107,101,110]:List UInt8)]:Vector Zb 5) x16) fun x17=>(Option.bind (T28 F p0 x17) fun z18=>(bif (z18.2 != (0:Int)) then (k (([]:List UInt8),([]:List UInt8),([]:List UInt8),([]:List UInt8),([]:List UInt8),(1:Int))) else (Option.bind (inb 5 (w64 ((0:Int) + (1:Int)))) fun x19=>(Option.bind (vat (#v[([110,97,109,101]:List UInt8),([115,116,114,101,97,109]:List UInt8),([99,104,101,99,107]:List UInt8),([105,110,100,101,120]:List UInt8),([116,111,107,101,110]:List UInt8)]:Vector Zb 5) x19) fun x20=>(Option.bind (T28 F p0 x20) fun z21=>(bif (z21.2 != (0:Int)) then (k (([]:List UInt8),([]:List UInt8),([]:List UInt8),([]:List UInt8),([]:List UInt8),(1:Int))) else (Option.bind (inb 5 (w64 ((w64 ((0:Int) + (1:Int))) + (1:Int)))) fun x22=>(Option.bind (vat (#v[([110,97,109,101]:List UInt8),([115,116,114,101,97,109]:List UInt8),([99,104,101,99,107]:List UInt8),([105,110,100,101,120]:List UInt8),([116,111,107,101,110]:List UInt8)]:Vector Zb 5) x22) fun x23=>(Option.bind (T28 F p0 x23) fun z24=>(bif (z24.2 != (0:Int)) then (k (([]:List UInt8),([]:List UInt8),([]:List UInt8),([]:List UInt8),([]:List UInt8),(1:Int))) else (Option.bind (inb 5 (w64 ((w64 ((w64 ((0:Int) + (1:Int))) + (1:Int))) + (1:Int)))) fun x25=>(Option.bind (vat (#v[([110,97,109,101]:List UInt8),([115,116,114,101,97,109]:List UInt8),([99,104,101,99,107]:List UInt8),([105,110,100,101,120]:List UInt8),([116,111,107,101,110]:List UInt8)]:Vector Zb 5) x25) fun x26=>(Option.bind (T28 F p0 x26) fun z27=>(bif (z27.2 != (0:Int)) then (k (([]:List UInt8),([]:List UInt8),([]:List UInt8),([]:List UInt8),([]:List UInt8),(1:Int))) else (Option.bind (inb 5 (w64 ((w64 ((w64 ((w64 ((0:Int) + (1:Int))) + (1:Int))) + (1:Int))) + (1:Int)))) fun x28=>(Option.bind (vat (#v[([110,97,109,101]:List UInt8),([115,116,114,101,97,109]:List UInt8),([99,104,101,99,107]:List UInt8),([105,110,100,101,120]:List UInt8),([116,111,107,101,110]:List UInt8)]:Vector Zb 5) x28) fun x29=>(Option.bind (T28 F p0 x29) fun z30=>(bif (z30.2 != (0:Int)) then (k (([]:List UInt8),([]:List UInt8),([]:List UInt8),([]:List UInt8),([]:List UInt8),(1:Int))) else (k (z18.1,z21.1,z24.1,z27.1,z30.1,(0:Int)))))))))))))))))))))))
def T12 (F:Nat) (p0:List UInt8):=T12c F p0 some
def ct12 (F:Nat):Ct:=mkC 0 [.str] [] [(.pr .str (.pr .str (.pr .str (.pr .str (.pr .str .un))))),.i] [] (fun x y=>T12 F x.1) (fun x y (z:Zb×Zb×Zb×Zb×Zb×Int)=>(((z.1,z.2.1,z.2.2.1,z.2.2.2.1,z.2.2.2.2.1,()),z.2.2.2.2.2,()),()))
theorem ok12 (F:Nat):Sound Tryz.prog cfg 12 (ct12 F):=
 mkC_ok (E:=E12 F) (lp:=[]) (code:=bodyOf Tryz.f12) Tryz.func12 rfl Tryz.ntmps12 rfl rfl cok (cts12 F) mixed trivial (by kernel_rfl) (fun x y k=>T12c F x.1 k) (fun _ _ _=>by simp only [T12,T12c,oA,oC,oS,oN,elimS_bind]) (fun _ _=>by kernel_rfl)
def E134 (F:Nat):Ev:=⟨cfg,19,ctOf [],fun _=>[],ctOf [],fun _=>none,fun _=>none⟩
theorem cts134 (F:Nat):CtsOk Tryz.prog (E134 F):=cts_of (l:=[]) (l':=[]) rfl rfl trivial trivial
def L134_2c (F:Nat) (y8:List Int) (y9:Int) (y10:Int) (y11:Int) {β:Type} (kA:Int->Option β) (kO:Unit->Option β) (kR:Int->Option β):Option β:=
 (bif (decide (y11 < y10)) then (Option.bind (ix y8 y11) fun x13=>(bif (y9 == x13) then (kR y11) else (kA (w64 (y11 + (1:Int)))))) else (kO ()))
def L134_2 (F:Nat) (y8:List Int) (y9:Int) (y10:Int) (y11:Int):Option ((Int) ⊕ ((Unit) ⊕ (Int))):=L134_2c F y8 y9 y10 y11 (fun s=>some (.inl s)) (fun z=>some (.inr (.inl z))) (fun z=>some (.inr (.inr z)))
theorem L134_2n (F:Nat) (y8:List Int) (y9:Int) (y10:Int) (y11:Int) {β:Type} (kA:Int->Option β) (kO:Unit->Option β) (kR:Int->Option β):L134_2c F y8 y9 y10 y11 kA kO kR=(L134_2 F y8 y9 y10 y11).bind (elimS kA (elimS kO kR)):=by
 simp only [L134_2,L134_2c,oA,oC,oS,oN,elimS_l,elimS_r,elimS_bind]
def lc134_2 (F:Nat):Lc:=mkR [0,1,7,8] [(.ro .i),.i,.i,.i] [] [] [] [] [4] [.i] [] F (fun x y (s:Int)=>L134_2 F x.1 x.2.1 x.2.2.1 s) (fun x y=>x.2.2.2.1) (fun x y (z:Unit)=>((),())) (fun x y (z:Int)=>((z,()),()))
theorem lo134_2 (F:Nat):LcOk Tryz.prog (E134 F) 0 (lc134_2 F) (cAt (bodyOf Tryz.f134) [1,0,1]):=
 mkR_ok (lp:=[]) (id:=0) (b:=cAt (bodyOf Tryz.f134) (0 :: 0 :: [1,0,1])) cok (cts134 F) mixed trivial (by kernel_rfl) (by kernel_rfl) (fun x y s=>(x.1,x.2.1,x.2.2.1,s,())) (fun x y s=>()) (fun x y=>rfl) (fun x y=>rfl) (fun x y s kA kO kR=>L134_2c F x.1 x.2.1 x.2.2.1 s kA kO kR) (fun x y s kA kO kR=>L134_2n F x.1 x.2.1 x.2.2.1 s kA kO kR) (fun _ _ _=>by kernel_rfl)
def T134c (F:Nat) (p0:List Int) (p1:Int) {β:Type} (k:Int->Option β):Option β:=
 (Option.bind (iter (fun s=>L134_2 F p0 p1 (p0.length:Int) s) F (0:Int)) fun z14=>elimS (fun z14=>(k (-1:Int))) (fun z14=>(k z14)) z14)
def T134 (F:Nat) (p0:List Int) (p1:Int):=T134c F p0 p1 some
def ct134 (F:Nat):Ct:=mkC 0 [(.ro .i),.i] [] [.i] [] (fun x y=>T134 F x.1 x.2.1) (fun x y (z:Int)=>((z,()),()))
theorem ok134 (F:Nat):Sound Tryz.prog cfg 134 (ct134 F):=
 mkC_ok (E:=E134 F) (lp:=[([1,0,1],lc134_2 F)]) (code:=bodyOf Tryz.f134) Tryz.func134 rfl Tryz.ntmps134 rfl rfl cok (cts134 F) mixed ⟨lo134_2 F,trivial⟩ (by kernel_rfl) (fun x y k=>T134c F x.1 x.2.1 k) (fun _ _ _=>by simp only [T134,T134c,oA,oC,oS,oN,elimS_bind]) (fun _ _=>by kernel_rfl)
def E90 (F:Nat):Ev:=⟨cfg,9,ctOf [(134,ct134 F)],fun _=>[],ctOf [],fun _=>none,fun _=>none⟩
theorem cts90 (F:Nat):CtsOk Tryz.prog (E90 F):=cts_of (l:=[(134,ct134 F)]) (l':=[]) rfl rfl ⟨⟨ok134 F,_,Tryz.func134,rfl,rfl⟩,trivial⟩ trivial
def T90c (F:Nat) (p0:List Int) (p1:Int) {β:Type} (k:Bool->Option β):Option β:=
 (Option.bind (T134 F p0 p1) fun z2=>(k (decide ((0:Int)≤z2))))
def T90 (F:Nat) (p0:List Int) (p1:Int):=T90c F p0 p1 some
def ct90 (F:Nat):Ct:=mkC 0 [(.ro .i),.i] [] [.bo] [] (fun x y=>T90 F x.1 x.2.1) (fun x y (z:Bool)=>((z,()),()))
theorem ok90 (F:Nat):Sound Tryz.prog cfg 90 (ct90 F):=
 mkC_ok (E:=E90 F) (lp:=[]) (code:=bodyOf Tryz.f90) Tryz.func90 rfl Tryz.ntmps90 rfl rfl cok (cts90 F) mixed trivial (by kernel_rfl) (fun x y k=>T90c F x.1 x.2.1 k) (fun _ _ _=>by simp only [T90,T90c,oA,oC,oS,oN,elimS_bind]) (fun _ _=>by kernel_rfl)
def E91 (F:Nat):Ev:=⟨cfg,9,ctOf [],fun _=>[],ctOf [],fun _=>none,fun _=>none⟩
theorem cts91 (F:Nat):CtsOk Tryz.prog (E91 F):=cts_of (l:=[]) (l':=[]) rfl rfl trivial trivial
def T91c (F:Nat) (p1:Int) {β:Type} (k:Unit->Option β):Option β:=
 (bif (decide (p1 < (1:Int))) then none else (k ()))
def T91 (F:Nat) (p1:Int):=T91c F p1 some
def ct91 (F:Nat):Ct:=mkC 0 [(.ro .u8),.i] [] [(.fn 135 .un (.pr (.pt 0 []) (.pr (.pt 1 []) .un)))] [.blk 36 (.ro .u8),.blk 3 .i] (fun x y=>T91 F x.2.1) (fun x y (z:Unit)=>((((),((),(),())),()),(x.1,x.2.1,())))
theorem ok91 (F:Nat):Sound Tryz.prog cfg 91 (ct91 F):=
 mkC_ok (E:=E91 F) (lp:=[]) (code:=bodyOf Tryz.f91) Tryz.func91 rfl Tryz.ntmps91 rfl rfl cok (cts91 F) mixed trivial (by kernel_rfl) (fun x y k=>T91c F x.2.1 k) (fun _ _ _=>by simp only [T91,T91c,oA,oC,oS,oN,elimS_bind]) (fun _ _=>by kernel_rfl)
def E136 (F:Nat):Ev:=⟨cfg,21,ctOf [],fun _=>[],ctOf [],fun _=>none,fun _=>none⟩
theorem cts136 (F:Nat):CtsOk Tryz.prog (E136 F):=cts_of (l:=[]) (l':=[]) rfl rfl trivial trivial
def L136_2c (F:Nat) (y10:Int) (y11:List Zb) (y12:Int) (y13:Int) {β:Type} (kA:Int->Option β) (kO:Unit->Option β) (kR:Bool->Option β):Option β:=
 (bif (decide (y13 < y12)) then (Option.bind (ix y11 y13) fun x15=>(bif ((x15.length:Int) != y10) then (kR false) else (kA (w64 (y13 + (1:Int)))))) else (kO ()))
def L136_2 (F:Nat) (y10:Int) (y11:List Zb) (y12:Int) (y13:Int):Option ((Int) ⊕ ((Unit) ⊕ (Bool))):=L136_2c F y10 y11 y12 y13 (fun s=>some (.inl s)) (fun z=>some (.inr (.inl z))) (fun z=>some (.inr (.inr z)))
theorem L136_2n (F:Nat) (y10:Int) (y11:List Zb) (y12:Int) (y13:Int) {β:Type} (kA:Int->Option β) (kO:Unit->Option β) (kR:Bool->Option β):L136_2c F y10 y11 y12 y13 kA kO kR=(L136_2 F y10 y11 y12 y13).bind (elimS kA (elimS kO kR)):=by
 simp only [L136_2,L136_2c,oA,oC,oS,oN,elimS_l,elimS_r,elimS_bind]
def lc136_2 (F:Nat):Lc:=mkR [0,1,7,8,9] [(.ro Qu),.i,(.ro Qu),.i,.i] [] [0] [(.ro Qu)] [] [4] [.bo] [] F (fun x y (s:Int)=>L136_2 F x.2.1 x.2.2.1 x.2.2.2.1 s) (fun x y=>x.2.2.2.2.1) (fun x y (z:Unit)=>((x.1,()),())) (fun x y (z:Bool)=>((z,()),()))
theorem lo136_2 (F:Nat):LcOk Tryz.prog (E136 F) 0 (lc136_2 F) (cAt (bodyOf Tryz.f136) [1,0,1]):=
 mkR_ok (lp:=[]) (id:=0) (b:=cAt (bodyOf Tryz.f136) (0 :: 0 :: [1,0,1])) cok (cts136 F) mixed trivial (by kernel_rfl) (by kernel_rfl) (fun x y s=>(x.1,x.2.1,x.2.2.1,x.2.2.2.1,s,())) (fun x y s=>()) (fun x y=>rfl) (fun x y=>rfl) (fun x y s kA kO kR=>L136_2c F x.2.1 x.2.2.1 x.2.2.2.1 s kA kO kR) (fun x y s kA kO kR=>L136_2n F x.2.1 x.2.2.1 x.2.2.2.1 s kA kO kR) (fun _ _ _=>by kernel_rfl)
def T136c (F:Nat) (p0:List Zb) (p1:Int) {β:Type} (k:Bool->Option β):Option β:=
 (Option.bind (iter (fun s=>L136_2 F p1 p0 (p0.length:Int) s) F (0:Int)) fun z16=>elimS (fun z16=>(k (decide ((p0.length:Int) < (16:Int))))) (fun z16=>(k z16)) z16)
def T136 (F:Nat) (p0:List Zb) (p1:Int):=T136c F p0 p1 some
def ct136 (F:Nat):Ct:=mkC 0 [(.ro Qu),.i] [] [.bo] [] (fun x y=>T136 F x.1 x.2.1) (fun x y (z:Bool)=>((z,()),()))
theorem ok136 (F:Nat):Sound Tryz.prog cfg 136 (ct136 F):=
 mkC_ok (E:=E136 F) (lp:=[([1,0,1],lc136_2 F)]) (code:=bodyOf Tryz.f136) Tryz.func136 rfl Tryz.ntmps136 rfl rfl cok (cts136 F) mixed ⟨lo136_2 F,trivial⟩ (by kernel_rfl) (fun x y k=>T136c F x.1 x.2.1 k) (fun _ _ _=>by simp only [T136,T136c,oA,oC,oS,oN,elimS_bind]) (fun _ _=>by kernel_rfl)
def E168 (F:Nat):Ev:=⟨cfg,9,ctOf [],fun _=>[],ctOf [],fun _=>none,fun _=>none⟩
theorem cts168 (F:Nat):CtsOk Tryz.prog (E168 F):=cts_of (l:=[]) (l':=[]) rfl rfl trivial trivial
def T168c (F:Nat) (p0:Int) {β:Type} (k:Bool->Option β):Option β:=
 (bif (decide ((1:Int)≤p0)) then (k (decide (p0≤(255:Int)))) else (k false))
def T168 (F:Nat) (p0:Int):=T168c F p0 some
def ct168 (F:Nat):Ct:=mkC 0 [.i] [] [.bo] [] (fun x y=>T168 F x.1) (fun x y (z:Bool)=>((z,()),()))
theorem ok168 (F:Nat):Sound Tryz.prog cfg 168 (ct168 F):=
 mkC_ok (E:=E168 F) (lp:=[]) (code:=bodyOf Tryz.f168) Tryz.func168 rfl Tryz.ntmps168 rfl rfl cok (cts168 F) mixed trivial (by kernel_rfl) (fun x y k=>T168c F x.1 k) (fun _ _ _=>by simp only [T168,T168c,oA,oC,oS,oN,elimS_bind]) (fun _ _=>by kernel_rfl)
def E137 (F:Nat):Ev:=⟨cfg,26,ctOf [(168,ct168 F)],fun _=>[],ctOf [],fun _=>none,fun _=>none⟩
theorem cts137 (F:Nat):CtsOk Tryz.prog (E137 F):=cts_of (l:=[(168,ct168 F)]) (l':=[]) rfl rfl ⟨⟨ok168 F,_,Tryz.func168,rfl,rfl⟩,trivial⟩ trivial
def L137_2c (F:Nat) (y16:List Int) (y17:Int) (y18:Int) (y19:Vector Bool 256) {β:Type} (kA:(Int×(Vector Bool 256))->Option β) (kO:Unit->Option β) (kR:Bool->Option β):Option β:=
 (bif (decide (y18 < y17)) then (Option.bind (ix y16 y18) fun x25=>(Option.bind (T168 F x25) fun z26=>(bif (!z26) then (kR false) else (Option.bind (inb 256 x25) fun x27=>(Option.bind (vat y19 x27) fun x28=>(bif x28 then (kR false) else (Option.bind (inb 256 x25) fun x29=>(kA ((w64 (y18 + (1:Int))),(Vector.setIfInBounds y19 x29 true)))))))))) else (kO ()))
def L137_2 (F:Nat) (y16:List Int) (y17:Int) (y18:Int) (y19:Vector Bool 256):Option ((Int×(Vector Bool 256)) ⊕ ((Unit) ⊕ (Bool))):=L137_2c F y16 y17 y18 y19 (fun s=>some (.inl s)) (fun z=>some (.inr (.inl z))) (fun z=>some (.inr (.inr z)))
theorem L137_2n (F:Nat) (y16:List Int) (y17:Int) (y18:Int) (y19:Vector Bool 256) {β:Type} (kA:(Int×(Vector Bool 256))->Option β) (kO:Unit->Option β) (kR:Bool->Option β):L137_2c F y16 y17 y18 y19 kA kO kR=(L137_2 F y16 y17 y18 y19).bind (elimS kA (elimS kO kR)):=by
 simp only [L137_2,L137_2c,oA,oC,oS,oN,elimS_l,elimS_r,elimS_bind]
def lc137_2 (F:Nat):Lc:=mkR [3,9,10,11] [(.pt 0 []),(.ro .i),.i,.i] [.blk 211 (.ar 256 .bo)] [] [] [] [2] [.bo] [] F (fun x y (s:Int×(Vector Bool 256))=>L137_2 F x.2.1 x.2.2.1 s.1 s.2) (fun x y=>(x.2.2.2.1,y.1)) (fun x y (z:Unit)=>((),())) (fun x y (z:Bool)=>((z,()),()))
theorem lo137_2 (F:Nat):LcOk Tryz.prog (E137 F) 0 (lc137_2 F) (cAt (bodyOf Tryz.f137) [1,0,1,1,1]):=
 mkR_ok (lp:=[]) (id:=0) (b:=cAt (bodyOf Tryz.f137) (0 :: 0 :: [1,0,1,1,1])) cok (cts137 F) mixed trivial (by kernel_rfl) (by kernel_rfl) (fun x y s=>((),x.2.1,x.2.2.1,s.1,())) (fun x y s=>(s.2,())) (fun x y=>rfl) (fun x y=>rfl) (fun x y s kA kO kR=>L137_2c F x.2.1 x.2.2.1 s.1 s.2 kA kO kR) (fun x y s kA kO kR=>L137_2n F x.2.1 x.2.2.1 s.1 s.2 kA kO kR) (fun _ _ _=>by kernel_rfl)
def T137c (F:Nat) (p0:List Int) {β:Type} (k:Bool->Option β):Option β:=
 (bif (decide ((64:Int) < (p0.length:Int))) then (k false) else (Option.bind (iter (fun s=>L137_2 F p0 (p0.length:Int) s.1 s.2) F ((0:Int),(Vector.replicate 256 false))) fun z30=>elimS (fun z30=>(k true)) (fun z30=>(k z30)) z30))
def T137 (F:Nat) (p0:List Int):=T137c F p0 some
def ct137 (F:Nat):Ct:=mkC 0 [(.ro .i)] [] [.bo] [] (fun x y=>T137 F x.1) (fun x y (z:Bool)=>((z,()),()))
theorem ok137 (F:Nat):Sound Tryz.prog cfg 137 (ct137 F):=
 mkC_ok (E:=E137 F) (lp:=[([1,0,1,1,1],lc137_2 F)]) (code:=bodyOf Tryz.f137) Tryz.func137 rfl Tryz.ntmps137 rfl rfl cok (cts137 F) mixed ⟨lo137_2 F,trivial⟩ (by kernel_rfl) (fun x y k=>T137c F x.1 k) (fun _ _ _=>by simp only [T137,T137c,oA,oC,oS,oN,elimS_bind]) (fun _ _=>by kernel_rfl)
def T172 (F:Nat) (p1:Int):Option (List Zb):=TGrow F p1
def ct172 (F:Nat):Ct:=mkC 0 [.ns,.i] [] [(.rw 0)] [.row 36 Qu] (fun x y=>T172 F x.2.1) (fun x y (z:List Zb)=>(((),()),(z,())))
theorem ok172 (F:Nat):Sound Tryz.prog cfg 172 (ct172 F):=grow_ok F
def E139 (F:Nat):Ev:=⟨cfg,36,ctOf [(172,ct172 F)],fun _=>[],ctOf [],fun _=>none,fun _=>none⟩
theorem cts139 (F:Nat):CtsOk Tryz.prog (E139 F):=cts_of (l:=[(172,ct172 F)]) (l':=[]) rfl rfl ⟨⟨ok172 F,_,Tryz.func172,rfl,rfl⟩,trivial⟩ trivial
def L139_3c (F:Nat) (y21:List (List Zb)) (y22:Int) (y20:Int) (y23:Int) {β:Type} (kA:(Int×Int)->Option β) (kO:Int->Option β):Option β:=
 (bif (decide (y23 < y22)) then (Option.bind (ix y21 y23) fun x25=>(bif (decide ((w64 (y20 + (x25.length:Int))) < (0:Int))) then none else (kA ((w64 (y20 + (x25.length:Int))),(w64 (y23 + (1:Int))))))) else (kO y20))
def L139_3 (F:Nat) (y21:List (List Zb)) (y22:Int) (y20:Int) (y23:Int):=L139_3c F y21 y22 y20 y23 (fun s=>some (Sum.inl s)) (fun z=>some (Sum.inr z))
def lc139_3 (F:Nat):Lc:=mkL [0,3,9,10,11] [(.ro (.sl Qu)),.i,(.ro (.sl Qu)),.i,.i] [] [0,3] [(.ro (.sl Qu)),.i] [] F (fun x y (s:Int×Int)=>L139_3 F x.2.2.1 x.2.2.2.1 s.1 s.2) (fun x y=>(x.2.1,x.2.2.2.2.1)) (fun x y (z:Int)=>((x.1,z,()),()))
theorem lo139_3 (F:Nat):LcOk Tryz.prog (E139 F) 0 (lc139_3 F) (cAt (bodyOf Tryz.f139) [1,0,1,1]):=
 mkL_ok (lp:=[]) (id:=0) (b:=cAt (bodyOf Tryz.f139) (0 :: 0 :: [1,0,1,1])) cok (cts139 F) mixed trivial (by kernel_rfl) (by kernel_rfl) (fun x y s=>(x.1,s.1,x.2.2.1,x.2.2.2.1,s.2,())) (fun x y s=>()) (fun x y=>rfl) (fun x y=>rfl) (fun x y s kA kO=>L139_3c F x.2.2.1 x.2.2.2.1 s.1 s.2 kA kO) (fun _ _ _ _ _=>by simp only [L139_3,L139_3c,oA,oC,oS,oN,elimS_l,elimS_r,elimS_bind]) (fun _ _ _=>by kernel_rfl)
def L139_4c (F:Nat) (y28:List (List Zb)) (y29:Int) (y30:Int) (y31:List Zb) {β:Type} (kA:(Int×(List Zb))->Option β) (kO:((List Zb))->Option β):Option β:=
 (bif (decide (y30 < y29)) then (Option.bind (ix y28 y30) fun x34=>(Option.bind (gapp y31 x34) fun x35=>(kA ((w64 (y30 + (1:Int))),x35)))) else (kO y31))
def L139_4 (F:Nat) (y28:List (List Zb)) (y29:Int) (y30:Int) (y31:List Zb):=L139_4c F y28 y29 y30 y31 (fun s=>some (Sum.inl s)) (fun z=>some (Sum.inr z))
def lc139_4 (F:Nat):Lc:=mkL [6,25,26,27] [(.rw 0),(.ro (.sl Qu)),.i,.i] [.row 36 Qu] [6] [(.rw 0)] [.row 36 Qu] F (fun x y (s:Int×(List Zb))=>L139_4 F x.2.1 x.2.2.1 s.1 s.2) (fun x y=>(x.2.2.2.1,y.1)) (fun x y (z:(List Zb))=>(((),()),(z,())))
theorem lo139_4 (F:Nat):LcOk Tryz.prog (E139 F) 0 (lc139_4 F) (cAt (bodyOf Tryz.f139) [1,0,1,1,1,1]):=
 mkL_ok (lp:=[]) (id:=2) (b:=cAt (bodyOf Tryz.f139) (0 :: 0 :: [1,0,1,1,1,1])) cok (cts139 F) mixed trivial (by kernel_rfl) (by kernel_rfl) (fun x y s=>((),x.2.1,x.2.2.1,s.1,())) (fun x y s=>(s.2,())) (fun x y=>rfl) (fun x y=>rfl) (fun x y s kA kO=>L139_4c F x.2.1 x.2.2.1 s.1 s.2 kA kO) (fun _ _ _ _ _=>by simp only [L139_4,L139_4c,oA,oC,oS,oN,elimS_l,elimS_r,elimS_bind]) (fun _ _ _=>by kernel_rfl)
def T139c (F:Nat) (p0:List (List Zb)) {β:Type} (k:((List Zb))->Option β):Option β:=
 (Option.bind (iter (fun s=>L139_3 F p0 (p0.length:Int) s.1 s.2) F ((0:Int),(0:Int))) fun z26=>(Option.bind (T172 F z26) fun z27=>(Option.bind (iter (fun s=>L139_4 F p0 (p0.length:Int) s.1 s.2) F ((0:Int),z27)) fun z36=>(k z36))))
def T139 (F:Nat) (p0:List (List Zb)):=T139c F p0 some
def ct139 (F:Nat):Ct:=mkC 0 [(.ro (.sl Qu))] [] [(.rw 0)] [.row 36 Qu] (fun x y=>T139 F x.1) (fun x y (z:(List Zb))=>(((),()),(z,())))
theorem ok139 (F:Nat):Sound Tryz.prog cfg 139 (ct139 F):=
 mkC_ok (E:=E139 F) (lp:=[([1,0,1,1],lc139_3 F),([1,0,1,1,1,1],lc139_4 F)]) (code:=bodyOf Tryz.f139) Tryz.func139 rfl Tryz.ntmps139 rfl rfl cok (cts139 F) mixed ⟨lo139_3 F,⟨lo139_4 F,trivial⟩⟩ (by kernel_rfl) (fun x y k=>T139c F x.1 k) (fun _ _ _=>by simp only [T139,T139c,oA,oC,oS,oN,elimS_bind]) (fun _ _=>by kernel_rfl)
def E138 (F:Nat):Ev:=⟨cfg,4,ctOf [],fun _=>[],ctOf [],fun _=>none,fun _=>none⟩
theorem cts138 (F:Nat):CtsOk Tryz.prog (E138 F):=cts_of (l:=[]) (l':=[]) rfl rfl trivial trivial
def T138c (F:Nat) {β:Type} (k:Unit->Option β):Option β:=
 (k ())
def T138 (F:Nat):=T138c F some
def ct138 (F:Nat):Ct:=mkC 0 [(.ro Qu)] [] [(.fn 169 .un (.pr (.pt 0 []) .un))] [.blk 141 (.ro Qu)] (fun x y=>T138 F) (fun x y (z:Unit)=>((((),((),())),()),(x.1,())))
theorem ok138 (F:Nat):Sound Tryz.prog cfg 138 (ct138 F):=
 mkC_ok (E:=E138 F) (lp:=[]) (code:=bodyOf Tryz.f138) Tryz.func138 rfl Tryz.ntmps138 rfl rfl cok (cts138 F) mixed trivial (by kernel_rfl) (fun x y k=>T138c F k) (fun _ _ _=>by simp only [T138,T138c,oA,oC,oS,oN,elimS_bind]) (fun _ _=>by kernel_rfl)
def E170 (F:Nat):Ev:=⟨cfg,4,ctOf [],fun _=>[],ctOf [],fun _=>none,fun _=>none⟩
theorem cts170 (F:Nat):CtsOk Tryz.prog (E170 F):=cts_of (l:=[]) (l':=[]) rfl rfl trivial trivial
def T170c (F:Nat) {β:Type} (k:Unit->Option β):Option β:=
 (k ())
def T170 (F:Nat):=T170c F some
def ct170 (F:Nat):Ct:=mkC 0 [(.ro Qu)] [] [(.fn 198 .un (.pr (.pt 0 []) .un))] [.blk 141 (.ro Qu)] (fun x y=>T170 F) (fun x y (z:Unit)=>((((),((),())),()),(x.1,())))
theorem ok170 (F:Nat):Sound Tryz.prog cfg 170 (ct170 F):=
 mkC_ok (E:=E170 F) (lp:=[]) (code:=bodyOf Tryz.f170) Tryz.func170 rfl Tryz.ntmps170 rfl rfl cok (cts170 F) mixed trivial (by kernel_rfl) (fun x y k=>T170c F k) (fun _ _ _=>by simp only [T170,T170c,oA,oC,oS,oN,elimS_bind]) (fun _ _=>by kernel_rfl)
def E203 (F:Nat):Ev:=⟨cfg,11,ctOf [],fun _=>[],ctOf [],fun _=>none,fun _=>none⟩
theorem cts203 (F:Nat):CtsOk Tryz.prog (E203 F):=cts_of (l:=[]) (l':=[]) rfl rfl trivial trivial
def T203c (F:Nat) (p0:UInt8) {β:Type} (k:UInt8->Option β):Option β:=
 (bif ((p0 &&& (UInt8.ofNat 128)) != (UInt8.ofNat 0)) then (k ((shl8 p0 ((UInt64.ofNat 1).toNat)) ^^^ (UInt8.ofNat 29))) else (k (shl8 p0 ((UInt64.ofNat 1).toNat))))
def T203 (F:Nat) (p0:UInt8):=T203c F p0 some
def ct203 (F:Nat):Ct:=mkC 0 [.u8] [] [.u8] [] (fun x y=>T203 F x.1) (fun x y (z:UInt8)=>((z,()),()))
theorem ok203 (F:Nat):Sound Tryz.prog cfg 203 (ct203 F):=
 mkC_ok (E:=E203 F) (lp:=[]) (code:=bodyOf Tryz.f203) Tryz.func203 rfl Tryz.ntmps203 rfl rfl cok (cts203 F) mixed trivial (by kernel_rfl) (fun x y k=>T203c F x.1 k) (fun _ _ _=>by simp only [T203,T203c,oA,oC,oS,oN,elimS_bind]) (fun _ _=>by kernel_rfl)
def E186 (F:Nat):Ev:=⟨cfg,19,ctOf [(203,ct203 F)],fun _=>[],ctOf [],fun _=>none,fun _=>none⟩
theorem cts186 (F:Nat):CtsOk Tryz.prog (E186 F):=cts_of (l:=[(203,ct203 F)]) (l':=[]) rfl rfl ⟨⟨ok203 F,_,Tryz.func203,rfl,rfl⟩,trivial⟩ trivial
def L186_2c (F:Nat) (y9:UInt8) (y10:UInt8) (y11:UInt8) {β:Type} (kA:(UInt8×UInt8×UInt8)->Option β) (kO:UInt8->Option β):Option β:=
 (bif (y10 != (UInt8.ofNat 0)) then (bif ((y10 &&& (UInt8.ofNat 1)) == (UInt8.ofNat 1)) then (Option.bind (T203 F y9) fun z14=>(kA (z14,(shr8 y10 ((UInt64.ofNat 1).toNat)),(y11 ^^^ y9)))) else (Option.bind (T203 F y9) fun z15=>(kA (z15,(shr8 y10 ((UInt64.ofNat 1).toNat)),y11)))) else (kO y11))
def L186_2 (F:Nat) (y9:UInt8) (y10:UInt8) (y11:UInt8):=L186_2c F y9 y10 y11 (fun s=>some (Sum.inl s)) (fun z=>some (Sum.inr z))
def lc186_2 (F:Nat):Lc:=mkL [0,1,5] [.u8,.u8,.u8] [] [5] [.u8] [] F (fun x y (s:UInt8×UInt8×UInt8)=>L186_2 F s.1 s.2.1 s.2.2) (fun x y=>(x.1,x.2.1,x.2.2.1)) (fun x y (z:UInt8)=>((z,()),()))
theorem lo186_2 (F:Nat):LcOk Tryz.prog (E186 F) 0 (lc186_2 F) (cAt (bodyOf Tryz.f186) [0,1,1]):=
 mkL_ok (lp:=[]) (id:=0) (b:=cAt (bodyOf Tryz.f186) (0 :: 0 :: [0,1,1])) cok (cts186 F) mixed trivial (by kernel_rfl) (by kernel_rfl) (fun x y s=>(s.1,s.2.1,s.2.2,())) (fun x y s=>()) (fun x y=>rfl) (fun x y=>rfl) (fun x y s kA kO=>L186_2c F s.1 s.2.1 s.2.2 kA kO) (fun _ _ _ _ _=>by simp only [L186_2,L186_2c,oA,oC,oS,oN,elimS_l,elimS_r,elimS_bind]) (fun _ _ _=>by kernel_rfl)
def T186c (F:Nat) (p0:UInt8) (p1:UInt8) {β:Type} (k:UInt8->Option β):Option β:=
 (Option.bind (iter (fun s=>L186_2 F s.1 s.2.1 s.2.2) F (p0,p1,(UInt8.ofNat 0))) fun z16=>(k z16))
def T186 (F:Nat) (p0:UInt8) (p1:UInt8):=T186c F p0 p1 some
def ct186 (F:Nat):Ct:=mkC 0 [.u8,.u8] [] [.u8] [] (fun x y=>T186 F x.1 x.2.1) (fun x y (z:UInt8)=>((z,()),()))
theorem ok186 (F:Nat):Sound Tryz.prog cfg 186 (ct186 F):=
 mkC_ok (E:=E186 F) (lp:=[([0,1,1],lc186_2 F)]) (code:=bodyOf Tryz.f186) Tryz.func186 rfl Tryz.ntmps186 rfl rfl cok (cts186 F) mixed ⟨lo186_2 F,trivial⟩ (by kernel_rfl) (fun x y k=>T186c F x.1 x.2.1 k) (fun _ _ _=>by simp only [T186,T186c,oA,oC,oS,oN,elimS_bind]) (fun _ _=>by kernel_rfl)
def E206 (F:Nat):Ev:=⟨cfg,24,ctOf [(186,ct186 F)],fun _=>[],ctOf [],fun _=>none,fun _=>none⟩
theorem cts206 (F:Nat):CtsOk Tryz.prog (E206 F):=cts_of (l:=[(186,ct186 F)]) (l':=[]) rfl rfl ⟨⟨ok186 F,_,Tryz.func186,rfl,rfl⟩,trivial⟩ trivial
def L206_2c (F:Nat) (y14:UInt8) (y15:Int) (y16:Vector UInt8 16) (y17:Vector UInt8 16) {β:Type} (kA:(Int×Zo×Zo)->Option β) (kO:(Zo×Zo)->Option β):Option β:=
 (bif (decide (y15 < (16:Int))) then (Option.bind (T186 F y14 (UInt8.ofInt y15)) fun z22=>(Option.bind (inb 16 y15) fun x23=>(Option.bind (T186 F y14 (UInt8.ofInt (w64 (y15 * 2 ^ min ((UInt64.ofNat 4).toNat) 64)))) fun z24=>(Option.bind (inb 16 y15) fun x25=>(kA ((w64 (y15 + (1:Int))),(Vector.setIfInBounds y16 x23 z22),(Vector.setIfInBounds y17 x25 z24))))))) else (kO (y16,y17)))
def L206_2 (F:Nat) (y14:UInt8) (y15:Int) (y16:Vector UInt8 16) (y17:Vector UInt8 16):=L206_2c F y14 y15 y16 y17 (fun s=>some (Sum.inl s)) (fun z=>some (Sum.inr z))
def lc206_2 (F:Nat):Lc:=mkL [0,3,4,6] [.u8,(.pt 0 []),(.pt 1 []),.i] [.blk 248 (.ar 16 .u8),.blk 248 (.ar 16 .u8)] [3,4] [(.pt 0 []),(.pt 1 [])] [.blk 248 (.ar 16 .u8),.blk 248 (.ar 16 .u8)] F (fun x y (s:Int×Zo×Zo)=>L206_2 F x.1 s.1 s.2.1 s.2.2) (fun x y=>(x.2.2.2.1,y.1,y.2.1)) (fun x y (z:Zo×Zo)=>(((),(),()),(z.1,z.2,())))
theorem lo206_2 (F:Nat):LcOk Tryz.prog (E206 F) 0 (lc206_2 F) (cAt (bodyOf Tryz.f206) [1,0,1,1]):=
 mkL_ok (lp:=[]) (id:=0) (b:=cAt (bodyOf Tryz.f206) (0 :: 0 :: [1,0,1,1])) cok (cts206 F) mixed trivial (by kernel_rfl) (by kernel_rfl) (fun x y s=>(x.1,(),(),s.1,())) (fun x y s=>(s.2.1,s.2.2,())) (fun x y=>rfl) (fun x y=>rfl) (fun x y s kA kO=>L206_2c F x.1 s.1 s.2.1 s.2.2 kA kO) (fun _ _ _ _ _=>by simp only [L206_2,L206_2c,oA,oC,oS,oN,elimS_l,elimS_r,elimS_bind]) (fun _ _ _=>by kernel_rfl)
def T206c (F:Nat) (p0:UInt8) {β:Type} (k:(Zo×Zo)->Option β):Option β:=
 (Option.bind (iter (fun s=>L206_2 F p0 s.1 s.2.1 s.2.2) F ((0:Int),(Vector.replicate 16 (0:UInt8)),(Vector.replicate 16 (0:UInt8)))) fun z26=>(k (z26.1,z26.2)))
def T206 (F:Nat) (p0:UInt8):=T206c F p0 some
def ct206 (F:Nat):Ct:=mkC 0 [.u8] [] [(.fn 207 .un (.pr (.pt 0 []) (.pr (.pt 1 []) .un)))] [.blk 248 (.ar 16 .u8),.blk 248 (.ar 16 .u8)] (fun x y=>T206 F x.1) (fun x y (z:Zo×Zo)=>((((),((),(),())),()),(z.1,z.2,())))
theorem ok206 (F:Nat):Sound Tryz.prog cfg 206 (ct206 F):=
 mkC_ok (E:=E206 F) (lp:=[([1,0,1,1],lc206_2 F)]) (code:=bodyOf Tryz.f206) Tryz.func206 rfl Tryz.ntmps206 rfl rfl cok (cts206 F) mixed ⟨lo206_2 F,trivial⟩ (by kernel_rfl) (fun x y k=>T206c F x.1 k) (fun _ _ _=>by simp only [T206,T206c,oA,oC,oS,oN,elimS_bind]) (fun _ _=>by kernel_rfl)
def ord207:Nat->List (Tag×Nat)
 | 1=>[(.p,0),(.p,1),(.p,2),(.r,3),(.p,4),(.p,5),(.p,6),(.r,7),(.p,8),(.p,9)]
 | _=>[]
def E207 (F:Nat):Ev:=⟨cfg,14,ctOf [],ord207,ctOf [],fun _=>none,fun _=>none⟩
theorem cts207 (F:Nat):CtsOk Tryz.prog (E207 F):=cts_of (l:=[]) (l':=[]) rfl rfl trivial trivial
def T207c (F:Nat) (p0:UInt8) (p1:Vector UInt8 16) (p2:Vector UInt8 16) {β:Type} (k:UInt8->Option β):Option β:=
 (Option.bind (vix p1 ((p0 &&& (UInt8.ofNat 15)).toNat:Int)) fun x3=>(Option.bind (vix p2 ((shr8 p0 ((UInt64.ofNat 4).toNat)).toNat:Int)) fun x4=>(k (x3 ^^^ x4))))
def T207 (F:Nat) (p0:UInt8) (p1:Vector UInt8 16) (p2:Vector UInt8 16):=T207c F p0 p1 p2 some
def ct207 (F:Nat):Ct:=mkC 0 [.u8,(.re (.ar 16 .u8)),(.re (.ar 16 .u8))] [] [.u8] [] (fun x y=>T207 F x.1 x.2.1 x.2.2.1) (fun x y (z:UInt8)=>((z,()),()))
theorem ok207 (F:Nat):Sound Tryz.prog cfg 207 (ct207 F):=
 mkC_ok (E:=E207 F) (lp:=[]) (code:=bodyOf Tryz.f207) Tryz.func207 rfl Tryz.ntmps207 rfl rfl cok (cts207 F) mixed trivial (by kernel_rfl) (fun x y k=>T207c F x.1 x.2.1 x.2.2.1 k) (fun _ _ _=>by simp only [T207,T207c,oA,oC,oS,oN,elimS_bind]) (fun _ _=>by kernel_rfl)
def E199 (F:Nat):Ev:=⟨cfg,29,ctOf [(206,ct206 F),(207,ct207 F)],fun _=>[],ctOf [],fun _=>none,fun _=>none⟩
theorem cts199 (F:Nat):CtsOk Tryz.prog (E199 F):=cts_of (l:=[(206,ct206 F),(207,ct207 F)]) (l':=[]) rfl rfl ⟨⟨ok206 F,_,Tryz.func206,rfl,rfl⟩,⟨⟨ok207 F,_,Tryz.func207,rfl,rfl⟩,trivial⟩⟩ trivial
def L199_2c (F:Nat) (y18:List UInt8) (y19:Int) (y21:Vector UInt8 16) (y22:Vector UInt8 16) (y20:Int) (y23:List UInt8) {β:Type} (kA:Zi->Option β) (kO:(Zb)->Option β):Option β:=
 (bif (decide (y20 < y19)) then (Option.bind (ix y18 y20) fun x27=>(Option.bind (T207 F x27 y21 y22) fun z28=>(Option.bind (inb y23.length y20) fun x29=>(kA ((w64 (y20 + (1:Int))),(List.set y23 x29 z28)))))) else (kO y23))
def L199_2 (F:Nat) (y18:List UInt8) (y19:Int) (y21:Vector UInt8 16) (y22:Vector UInt8 16) (y20:Int) (y23:List UInt8):=L199_2c F y18 y19 y21 y22 y20 y23 (fun s=>some (Sum.inl s)) (fun z=>some (Sum.inr z))
def lc199_2 (F:Nat):Lc:=mkL [5,6,14,15,16] [(.fn 207 .un (.pr (.pt 0 []) (.pr (.pt 1 []) .un))),(.rw 2),(.ro .u8),.i,.i] [.blk 248 (.ar 16 .u8),.blk 248 (.ar 16 .u8),.row 5 .u8] [6] [(.rw 0)] [.row 5 .u8] F (fun x y (s:Int×Zb)=>L199_2 F x.2.2.1 x.2.2.2.1 y.1 y.2.1 s.1 s.2) (fun x y=>(x.2.2.2.2.1,y.2.2.1)) (fun x y (z:Zb)=>(((),()),(z,())))
theorem lo199_2 (F:Nat):LcOk Tryz.prog (E199 F) 0 (lc199_2 F) (cAt (bodyOf Tryz.f199) [1,0,1,1,1]):=
 mkL_ok (lp:=[]) (id:=0) (b:=cAt (bodyOf Tryz.f199) (0 :: 0 :: [1,0,1,1,1])) cok (cts199 F) mixed trivial (by kernel_rfl) (by kernel_rfl) (fun x y s=>(((),((),(),())),(),x.2.2.1,x.2.2.2.1,s.1,())) (fun x y s=>(y.1,y.2.1,s.2,())) (fun x y=>rfl) (fun x y=>rfl) (fun x y s kA kO=>L199_2c F x.2.2.1 x.2.2.2.1 y.1 y.2.1 s.1 s.2 kA kO) (fun _ _ _ _ _=>by simp only [L199_2,L199_2c,oA,oC,oS,oN,elimS_l,elimS_r,elimS_bind]) (fun _ _ _=>by kernel_rfl)
def T199c (F:Nat) (p0:List UInt8) (p1:UInt8) {β:Type} (k:(Zb)->Option β):Option β:=
 (Option.bind (T206 F p1) fun z16=>(Option.bind (gmake (0:UInt8) (p0.length:Int) (p0.length:Int)) fun x17=>(Option.bind (iter (fun s=>L199_2 F p0 (p0.length:Int) z16.1 z16.2 s.1 s.2) F ((0:Int),x17)) fun z30=>(k z30))))
def T199 (F:Nat) (p0:List UInt8) (p1:UInt8):=T199c F p0 p1 some
def ct199 (F:Nat):Ct:=mkC 0 [(.ro .u8),.u8] [] [(.rw 0)] [.row 5 .u8] (fun x y=>T199 F x.1 x.2.1) (fun x y (z:Zb)=>(((),()),(z,())))
theorem ok199 (F:Nat):Sound Tryz.prog cfg 199 (ct199 F):=
 mkC_ok (E:=E199 F) (lp:=[([1,0,1,1,1],lc199_2 F)]) (code:=bodyOf Tryz.f199) Tryz.func199 rfl Tryz.ntmps199 rfl rfl cok (cts199 F) mixed ⟨lo199_2 F,trivial⟩ (by kernel_rfl) (fun x y k=>T199c F x.1 x.2.1 k) (fun _ _ _=>by simp only [T199,T199c,oA,oC,oS,oN,elimS_bind]) (fun _ _=>by kernel_rfl)
def E171 (F:Nat):Ev:=⟨cfg,35,ctOf [(199,ct199 F)],fun _=>[],ctOf [],fun _=>none,fun _=>none⟩
theorem cts171 (F:Nat):CtsOk Tryz.prog (E171 F):=cts_of (l:=[(199,ct199 F)]) (l':=[]) rfl rfl ⟨⟨ok199 F,_,Tryz.func199,rfl,rfl⟩,trivial⟩ trivial
def L171_2c (F:Nat) (y16:List UInt8) (y17:Int) (y18:Int) (y19:List UInt8) {β:Type} (kA:Zi->Option β) (kO:(Zb)->Option β):Option β:=
 (bif (decide (y18 < y17)) then (Option.bind (ix y16 y18) fun x24=>(Option.bind (inb y19.length y18) fun x25=>(Option.bind (y19[x25]?) fun x26=>(Option.bind (inb y19.length y18) fun x27=>(kA ((w64 (y18 + (1:Int))),(List.set y19 x27 (x26 ^^^ x24)))))))) else (kO y19))
def L171_2 (F:Nat) (y16:List UInt8) (y17:Int) (y18:Int) (y19:List UInt8):=L171_2c F y16 y17 y18 y19 (fun s=>some (Sum.inl s)) (fun z=>some (Sum.inr z))
def lc171_2 (F:Nat):Lc:=mkL [8,19,20,21] [(.rw 0),(.ro .u8),.i,.i] [.row 5 .u8] [8] [(.rw 0)] [.row 5 .u8] F (fun x y (s:Int×Zb)=>L171_2 F x.2.1 x.2.2.1 s.1 s.2) (fun x y=>(x.2.2.2.1,y.1)) (fun x y (z:Zb)=>(((),()),(z,())))
theorem lo171_2 (F:Nat):LcOk Tryz.prog (E171 F) 0 (lc171_2 F) (cAt (bodyOf Tryz.f171) [1,0,1,1,1]):=
 mkL_ok (lp:=[]) (id:=0) (b:=cAt (bodyOf Tryz.f171) (0 :: 0 :: [1,0,1,1,1])) cok (cts171 F) mixed trivial (by kernel_rfl) (by kernel_rfl) (fun x y s=>((),x.2.1,x.2.2.1,s.1,())) (fun x y s=>(s.2,())) (fun x y=>rfl) (fun x y=>rfl) (fun x y s kA kO=>L171_2c F x.2.1 x.2.2.1 s.1 s.2 kA kO) (fun _ _ _ _ _=>by simp only [L171_2,L171_2c,oA,oC,oS,oN,elimS_l,elimS_r,elimS_bind]) (fun _ _ _=>by kernel_rfl)
def T171c (F:Nat) (p0:List UInt8) (p1:List UInt8) (p2:UInt8) {β:Type} (k:Zi->Option β):Option β:=
 (bif ((p0.length:Int) != (p1.length:Int)) then (k ((1:Int),([]:List UInt8))) else (Option.bind (T199 F p1 p2) fun z15=>(Option.bind (iter (fun s=>L171_2 F p0 (p0.length:Int) s.1 s.2) F ((0:Int),z15)) fun z28=>(k ((0:Int),z28)))))
def T171 (F:Nat) (p0:List UInt8) (p1:List UInt8) (p2:UInt8):=T171c F p0 p1 p2 some
def ct171 (F:Nat):Ct:=mkC 0 [(.ro .u8),(.ro .u8),.u8] [] [(.rw 0),.i] [.row 5 .u8] (fun x y=>T171 F x.1 x.2.1 x.2.2.1) (fun x y (z:Int×Zb)=>(((),z.1,()),(z.2,())))
theorem ok171 (F:Nat):Sound Tryz.prog cfg 171 (ct171 F):=
 mkC_ok (E:=E171 F) (lp:=[([1,0,1,1,1],lc171_2 F)]) (code:=bodyOf Tryz.f171) Tryz.func171 rfl Tryz.ntmps171 rfl rfl cok (cts171 F) mixed ⟨lo171_2 F,trivial⟩ (by kernel_rfl) (fun x y k=>T171c F x.1 x.2.1 x.2.2.1 k) (fun _ _ _=>by simp only [T171,T171c,oA,oC,oS,oN,elimS_bind]) (fun _ _=>by kernel_rfl)
def E169 (F:Nat):Ev:=⟨cfg,25,ctOf [(170,ct170 F),(171,ct171 F)],fun _=>[],ctOf [],fun _=>none,fun _=>none⟩
theorem cts169 (F:Nat):CtsOk Tryz.prog (E169 F):=cts_of (l:=[(170,ct170 F),(171,ct171 F)]) (l':=[]) rfl rfl ⟨⟨ok170 F,_,Tryz.func170,rfl,rfl⟩,⟨⟨ok171 F,_,Tryz.func171,rfl,rfl⟩,trivial⟩⟩ trivial
abbrev rA169_2:List Sh:=[(.pt 1 []),(.pt 2 [])]
abbrev rB169_2:List Sh:=[(.pt 0 []),(.pt 1 [])]
abbrev rZ169_2:List Sh:=[.i,(.ro .u8)]
abbrev rT169_2:List TSh:=[.blk 141 (.ro Qu),.blk 3 .i,.blk 36 (.rw 3),.row 5 .u8]
abbrev rU169_2:List TSh:=[.blk 3 .i,.blk 36 (.rw 2),.row 5 .u8]
def L169_2 (F:Nat) (y14:Int) (y15:List UInt8) (e17:List UInt8):Option (dens rB169_2×tdens rU169_2):=
 (Option.bind (T171 F e17 y15 (UInt8.ofInt y14)) fun z19=>some (((),(),()),(y14,(),z19.2,())))
def R169_2 (F:Nat) (x:dens (.fn 198 .un (.pr (.pt 0 []) .un) :: rA169_2)) (y:tdens rT169_2):Option (dens rB169_2×tdens rU169_2):=bif okBack y.1 then rfold ((fun (x:dens (.fn 198 .un (.pr (.pt 0 []) .un) :: rA169_2)) (y:tdens rT169_2) (s:dens rB169_2×tdens rU169_2) (e:dens rZ169_2)=>L169_2 F s.2.1 s.2.2.2.1 e.2.1) x y) (backE y.1) ((((),(),()),(y.2.1,(),y.2.2.2.1,())):dens rB169_2×tdens rU169_2) else none
def lc169_2 (F:Nat):Lc:=mkF 13 198 (.pr (.pt 0 []) .un) [2,4] rA169_2 rB169_2 rT169_2 rU169_2 (ε:=dens rZ169_2) (fun x y=>backE y.1) (fun x y=>(((),(),()),(y.2.1,(),y.2.2.2.1,()))) (fun x y=>okBack y.1) (fun x y s e=>L169_2 F s.2.1 s.2.2.2.1 e.2.1)
theorem le169_2 (F:Nat) (x:dens (.fn 198 .un (.pr (.pt 0 []) .un) :: rA169_2)) (y:tdens rT169_2) (s:dens rB169_2×tdens rU169_2) (e:dens rZ169_2):sev (E169 F) 0 [] (rfBody (cAt (bodyOf Tryz.f169) [0,1,0,1,1])) [] ⟨(6,.ro .u8 e.2.1) :: putI [14,15] (encs rZ169_2 e) (zipS [2,4] (encs rB169_2 s.1)),encTs rU169_2 s.2,[]⟩ (kRd 0 [2,4] rB169_2 rU169_2 (encs rB169_2 s.1))=(fun x y s e=>L169_2 F s.2.1 s.2.2.2.1 e.2.1) x y s e:=by kernel_rfl
theorem li169_2 (x:dens (.fn 198 .un (.pr (.pt 0 []) .un) :: rA169_2)) (y:tdens rT169_2):uniS 0 [2,4] rB169_2 rU169_2 ⟨zipS [2,4] (encs rA169_2 x.2),dropB [0] (encTs rT169_2 y),[]⟩ (fun p q=>some (p,q))=some (((),(),()),(y.2.1,(),y.2.2.2.1,())):=by kernel_rfl
theorem lo169_2 (F:Nat):LcOkM Tryz.prog (E169 F) 0 (lc169_2 F) (cAt (bodyOf Tryz.f169) [0,1,0,1,1]):=
 rf_okP (ida:=3) (d:=6) (s_:=15) (ps:=[14,15]) (Ae:=rZ169_2) (bx:=[0]) (ve:=fun e=>.ro .u8 e.2.1) cok (cts169 F) mixed (by kernel_rfl) (by kernel_rfl) (by kernel_rfl) (fun y=>rfl) (li169_2) rfl rfl rfl rfl rfl (fun e=>rfl) (fun e il=>rfl) (fun args w=>by kernel_rfl)
  (fun x y O ρ lb hok h hb=>hit_back h hb rfl hok) (le169_2 F)
def T169c (F:Nat) (p0:Int) (p1:List Zb) {β:Type} (k:(Zb)->Option β):Option β:=
 (Option.bind (ix p1 (0:Int)) fun x11=>(Option.bind (gmake (0:UInt8) (x11.length:Int) (x11.length:Int)) fun x12=>(Option.bind (T170 F) fun z13=>(Option.bind (R169_2 F (((),((),())),(),(),()) (p1,p0,(),x12,())) fun z20=>(k z20.2.2.2.1)))))
def T169 (F:Nat) (p0:Int) (p1:List Zb):=T169c F p0 p1 some
def ct169 (F:Nat):Ct:=mkC 0 [.i,(.re (.sl Qu))] [] [(.rw 0)] [.row 5 .u8] (fun x y=>T169 F x.1 x.2.1) (fun x y (z:Zb)=>(((),()),(z,())))
theorem ok169 (F:Nat):Sound Tryz.prog cfg 169 (ct169 F):=
 mkC_okM (E:=E169 F) (lp:=[([0,1,0,1,1],lc169_2 F)]) (code:=bodyOf Tryz.f169) Tryz.func169 rfl Tryz.ntmps169 rfl rfl cok (cts169 F) mixed ⟨lo169_2 F,trivial⟩ (by kernel_rfl) (fun x y k=>T169c F x.1 x.2.1 k) (fun _ _ _=>by simp only [T169,T169c,oA,oC,oS,oN,elimS_bind]) (fun _ _=>by kernel_rfl)
def E92 (F:Nat):Ev:=⟨cfg,50,ctOf [(136,ct136 F),(137,ct137 F),(139,ct139 F),(138,ct138 F),(169,ct169 F)],fun _=>[],ctOf [],fun _=>none,fun _=>none⟩
theorem cts92 (F:Nat):CtsOk Tryz.prog (E92 F):=cts_of (l:=[(136,ct136 F),(137,ct137 F),(139,ct139 F),(138,ct138 F),(169,ct169 F)]) (l':=[]) rfl rfl ⟨⟨ok136 F,_,Tryz.func136,rfl,rfl⟩,⟨⟨ok137 F,_,Tryz.func137,rfl,rfl⟩,⟨⟨ok139 F,_,Tryz.func139,rfl,rfl⟩,⟨⟨ok138 F,_,Tryz.func138,rfl,rfl⟩,⟨⟨ok169 F,_,Tryz.func169,rfl,rfl⟩,trivial⟩⟩⟩⟩⟩ trivial
def L92_2c (F:Nat) (y23:List Int) (y24:Int) (y26:List Zb) (y25:Int) (y27:List Zj) {β:Type} (kA:(Int×(List Zj))->Option β) (kO:((List Zj))->Option β):Option β:=
 (bif (decide (y25 < y24)) then (Option.bind (ix y23 y25) fun x31=>(Option.bind (T169 F x31 y26) fun z32=>(Option.bind (gapp y27 ([(x31,z32,())]:List Zj)) fun x33=>(kA ((w64 (y25 + (1:Int))),x33))))) else (kO y27))
def L92_2 (F:Nat) (y23:List Int) (y24:Int) (y26:List Zb) (y25:Int) (y27:List Zj):=L92_2c F y23 y24 y26 y25 y27 (fun s=>some (Sum.inl s)) (fun z=>some (Sum.inr z))
def lc92_2 (F:Nat):Lc:=mkL [8,9,34,35,36] [(.fn 169 .un (.pr (.pt 0 []) .un)),(.rw 1),(.ro .i),.i,.i] [.blk 141 (.ro Qu),.row 59 (.pr .i (.pr (.sl .u8) .un))] [9] [(.rw 0)] [.row 59 (.pr .i (.pr (.sl .u8) .un))] F (fun x y (s:Int×(List Zj))=>L92_2 F x.2.2.1 x.2.2.2.1 y.1 s.1 s.2) (fun x y=>(x.2.2.2.2.1,y.2.1)) (fun x y (z:(List Zj))=>(((),()),(z,())))
theorem lo92_2 (F:Nat):LcOk Tryz.prog (E92 F) 0 (lc92_2 F) (cAt (bodyOf Tryz.f92) [1,0,1,1,1,1,1]):=
 mkL_ok (lp:=[]) (id:=0) (b:=cAt (bodyOf Tryz.f92) (0 :: 0 :: [1,0,1,1,1,1,1])) cok (cts92 F) mixed trivial (by kernel_rfl) (by kernel_rfl) (fun x y s=>(((),((),())),(),x.2.2.1,x.2.2.2.1,s.1,())) (fun x y s=>(y.1,s.2,())) (fun x y=>rfl) (fun x y=>rfl) (fun x y s kA kO=>L92_2c F x.2.2.1 x.2.2.2.1 y.1 s.1 s.2 kA kO) (fun _ _ _ _ _=>by simp only [L92_2,L92_2c,oA,oC,oS,oN,elimS_l,elimS_r,elimS_bind]) (fun _ _ _=>by kernel_rfl)
def T92c (F:Nat) (p0:List UInt8) (p1:List Zb) (p2:List Int) {β:Type} (k:(Int×(List Zj))->Option β):Option β:=
 (Option.bind (T136 F p1 (p0.length:Int)) fun z18=>(bif (!z18) then (k ((1:Int),([]:List Zj))) else (Option.bind (T137 F p2) fun z19=>(bif (!z19) then (k ((1:Int),([]:List Zj))) else (bif (decide ((1024:Int) < (p0.length:Int))) then (k ((2:Int),([]:List Zj))) else (Option.bind (T139 F ([([p0]:List Zb),p1]:List (List Zb))) fun z20=>(Option.bind (T138 F) fun z21=>(Option.bind (gmake ((0:Int),([]:List UInt8),()) (0:Int) (p2.length:Int)) fun x22=>(Option.bind (iter (fun s=>L92_2 F p2 (p2.length:Int) z20 s.1 s.2) F ((0:Int),x22)) fun z34=>(k ((0:Int),z34)))))))))))
def T92 (F:Nat) (p0:List UInt8) (p1:List Zb) (p2:List Int):=T92c F p0 p1 p2 some
def ct92 (F:Nat):Ct:=mkC 0 [(.ro .u8),(.ro Qu),(.ro .i)] [] [(.rw 0),.i] [.row 59 (.pr .i (.pr (.sl .u8) .un))] (fun x y=>T92 F x.1 x.2.1 x.2.2.1) (fun x y (z:Int×(List Zj))=>(((),z.1,()),(z.2,())))
theorem ok92 (F:Nat):Sound Tryz.prog cfg 92 (ct92 F):=
 mkC_ok (E:=E92 F) (lp:=[([1,0,1,1,1,1,1],lc92_2 F)]) (code:=bodyOf Tryz.f92) Tryz.func92 rfl Tryz.ntmps92 rfl rfl cok (cts92 F) mixed ⟨lo92_2 F,trivial⟩ (by kernel_rfl) (fun x y k=>T92c F x.1 x.2.1 x.2.2.1 k) (fun _ _ _=>by simp only [T92,T92c,oA,oC,oS,oN,elimS_bind]) (fun _ _=>by kernel_rfl)
def E27 (F:Nat):Ev:=⟨cfg,78,ctOf [(90,ct90 F),(91,ct91 F),(92,ct92 F)],fun _=>[],ctOf [],fun _=>none,fun _=>none⟩
theorem cts27 (F:Nat):CtsOk Tryz.prog (E27 F):=cts_of (l:=[(90,ct90 F),(91,ct91 F),(92,ct92 F)]) (l':=[]) rfl rfl ⟨⟨ok90 F,_,Tryz.func90,rfl,rfl⟩,⟨⟨ok91 F,_,Tryz.func91,rfl,rfl⟩,⟨⟨ok92 F,_,Tryz.func92,rfl,rfl⟩,trivial⟩⟩⟩ trivial
def L27_3c (F:Nat) (y56:List Int) (y58:List Int) (y59:Int) (y60:Int) (y61:List Int) {β:Type} (kA:(Int×Zn)->Option β) (kO:(Zn)->Option β) (kR:Int->Option β):Option β:=
 (bif (decide (y60 < y59)) then (Option.bind (ix y58 y60) fun x66=>(bif (decide (x66 < (0:Int))) then (kR (1:Int)) else (bif (decide ((12:Int)≤x66)) then (kR (1:Int)) else (Option.bind (gsl y56 (0:Int) y60) fun x67=>(Option.bind (T90 F x67 x66) fun z68=>(bif z68 then (kR (1:Int)) else (Option.bind (gapp y61 ([(w64 (x66 + (1:Int)))]:List Int)) fun x69=>(kA ((w64 (y60 + (1:Int))),x69))))))))) else (kO y61))
def L27_3 (F:Nat) (y56:List Int) (y58:List Int) (y59:Int) (y60:Int) (y61:List Int):Option ((Int×Zn) ⊕ ((Zn) ⊕ (Int))):=L27_3c F y56 y58 y59 y60 y61 (fun s=>some (.inl s)) (fun z=>some (.inr (.inl z))) (fun z=>some (.inr (.inr z)))
theorem L27_3n (F:Nat) (y56:List Int) (y58:List Int) (y59:Int) (y60:Int) (y61:List Int) {β:Type} (kA:(Int×Zn)->Option β) (kO:(Zn)->Option β) (kR:Int->Option β):L27_3c F y56 y58 y59 y60 y61 kA kO kR=(L27_3 F y56 y58 y59 y60 y61).bind (elimS kA (elimS kO kR)):=by
 simp only [L27_3,L27_3c,oA,oC,oS,oN,elimS_l,elimS_r,elimS_bind]
def lc27_3 (F:Nat):Lc:=mkR [0,1,2,3,10,26,27,28] [.str,.i,(.ro .i),(.ro .u8),(.rw 0),(.ro .i),.i,.i] [.row 3 .i] [0,1,2,3,10] [.str,.i,(.ro .i),(.ro .u8),(.rw 0)] [.row 3 .i] [8,9] [.ns,.i] [] F (fun x y (s:Int×Zn)=>L27_3 F x.2.2.1 x.2.2.2.2.2.1 x.2.2.2.2.2.2.1 s.1 s.2) (fun x y=>(x.2.2.2.2.2.2.2.1,y.1)) (fun x y (z:Zn)=>((x.1,x.2.1,x.2.2.1,x.2.2.2.1,(),()),(z,()))) (fun x y (z:Int)=>(((),z,()),()))
theorem lo27_3 (F:Nat):LcOk Tryz.prog (E27 F) 0 (lc27_3 F) (cAt (bodyOf Tryz.f27) [1,0,1,1,1]):=
 mkR_ok (lp:=[]) (id:=0) (b:=cAt (bodyOf Tryz.f27) (0 :: 0 :: [1,0,1,1,1])) cok (cts27 F) mixed trivial (by kernel_rfl) (by kernel_rfl) (fun x y s=>(x.1,x.2.1,x.2.2.1,x.2.2.2.1,(),x.2.2.2.2.2.1,x.2.2.2.2.2.2.1,s.1,())) (fun x y s=>(s.2,())) (fun x y=>rfl) (fun x y=>rfl) (fun x y s kA kO kR=>L27_3c F x.2.2.1 x.2.2.2.2.2.1 x.2.2.2.2.2.2.1 s.1 s.2 kA kO kR) (fun x y s kA kO kR=>L27_3n F x.2.2.1 x.2.2.2.2.2.1 x.2.2.2.2.2.2.1 s.1 s.2 kA kO kR) (fun _ _ _=>by kernel_rfl)
abbrev rA27_4:List Sh:=[.str,(.rw 2),(.pt 3 [])]
abbrev rB27_4:List Sh:=[.str,(.rw 0),(.pt 1 [])]
abbrev rZ27_4:List Sh:=[(.ro .u8)]
abbrev rT27_4:List TSh:=[.blk 36 (.ro .u8),.blk 3 .i,.row 3 .i,.blk 141 .ns]
abbrev rU27_4:List TSh:=[.row 3 .i,.blk 141 (.rw 2),.row 36 Qu]
def L27_4 (F:Nat) (y76:List UInt8) (y77:List Int) (y78:List Zb) (e79:List UInt8):Option (dens rB27_4×tdens rU27_4):=
 (Option.bind (gapp y78 ([e79]:List Zb)) fun x81=>some ((y76,(),(),()),(y77,(),x81,())))
def R27_4 (F:Nat) (x:dens (.fn 135 .un (.pr (.pt 0 []) (.pr (.pt 1 []) .un)) :: rA27_4)) (y:tdens rT27_4):Option (dens rB27_4×tdens rU27_4):=bif okChunk (y.2.1) y.1 then rfold ((fun (x:dens (.fn 135 .un (.pr (.pt 0 []) (.pr (.pt 1 []) .un)) :: rA27_4)) (y:tdens rT27_4) (s:dens rB27_4×tdens rU27_4) (e:dens rZ27_4)=>L27_4 F s.1.1 s.2.1 s.2.2.2.1 e.1) x y) (chunkE (y.2.1).toNat y.1) (((x.2.1,(),(),()),(y.2.2.1,(),([]:List Zb),())):dens rB27_4×tdens rU27_4) else none
def lc27_4 (F:Nat):Lc:=mkF 65 135 (.pr (.pt 0 []) (.pr (.pt 1 []) .un)) [0,10,13] rA27_4 rB27_4 rT27_4 rU27_4 (ε:=dens rZ27_4) (fun x y=>chunkE (y.2.1).toNat y.1) (fun x y=>((x.2.1,(),(),()),(y.2.2.1,(),([]:List Zb),()))) (fun x y=>okChunk (y.2.1) y.1) (fun x y s e=>L27_4 F s.1.1 s.2.1 s.2.2.2.1 e.1)
theorem le27_4 (F:Nat) (x:dens (.fn 135 .un (.pr (.pt 0 []) (.pr (.pt 1 []) .un)) :: rA27_4)) (y:tdens rT27_4) (s:dens rB27_4×tdens rU27_4) (e:dens rZ27_4):sev (E27 F) 0 [] (rfBody (cAt (bodyOf Tryz.f27) [0,1,0,1,1,1,1,1,1])) [] ⟨(14,.ro .u8 e.1) :: putI [66] (encs rZ27_4 e) (zipS [0,10,13] (encs rB27_4 s.1)),encTs rU27_4 s.2,[]⟩ (kRd 0 [0,10,13] rB27_4 rU27_4 (encs rB27_4 s.1))=(fun x y s e=>L27_4 F s.1.1 s.2.1 s.2.2.2.1 e.1) x y s e:=by kernel_rfl
theorem li27_4 (x:dens (.fn 135 .un (.pr (.pt 0 []) (.pr (.pt 1 []) .un)) :: rA27_4)) (y:tdens rT27_4):uniS 0 [0,10,13] rB27_4 rU27_4 ⟨zipS [0,10,13] (encs rA27_4 x.2),dropB [0,1] (encTs rT27_4 y),[]⟩ (fun p q=>some (p,q))=some ((x.2.1,(),(),()),(y.2.2.1,(),([]:List Zb),())):=by kernel_rfl
theorem lo27_4 (F:Nat):LcOkM Tryz.prog (E27 F) 0 (lc27_4 F) (cAt (bodyOf Tryz.f27) [0,1,0,1,1,1,1,1,1]):=
 rf_okP (ida:=15) (d:=14) (s_:=66) (ps:=[66]) (Ae:=rZ27_4) (bx:=[0,1]) (ve:=fun e=>.ro .u8 e.1) cok (cts27 F) mixed (by kernel_rfl) (by kernel_rfl) (by kernel_rfl) (fun y=>rfl) (li27_4) rfl rfl rfl rfl rfl (fun e=>rfl) (fun e il=>rfl) (fun args w=>by kernel_rfl)
  (fun x y O ρ lb hok h hb=>hit_chunk h hb rfl rfl hok) (le27_4 F)
def T27c (F:Nat) (p0:List UInt8) (p1:Int) (p2:List Int) (p3:List UInt8) {β:Type} (k:(Int×(List Zj))->Option β):Option β:=
 (bif ((p0.length:Int) != (32:Int)) then (k ((1:Int),([]:List Zj))) else (bif (decide (p1 < (1:Int))) then (k ((1:Int),([]:List Zj))) else (bif (decide ((12:Int) < p1)) then (k ((1:Int),([]:List Zj))) else (Option.bind (iter (fun s=>L27_3 F p2 p2 (p2.length:Int) s.1 s.2) F ((0:Int),([]:List Int))) fun z70=>elimS (fun z70=>(bif (decide ((p2.length:Int) < p1)) then (k ((1:Int),([]:List Zj))) else (bif ((p3.length:Int) != (w64 ((32:Int) * (w64 (p1 - (1:Int)))))) then (k ((1:Int),([]:List Zj))) else (Option.bind (T91 F (32:Int)) fun z71=>(Option.bind (R27_4 F (((),((),(),())),p0,(),(),()) (p3,(32:Int),z70,(),())) fun z82=>(Option.bind (gstr z82.1.1) fun x83=>(Option.bind (T92 F x83 z82.2.2.2.1 z82.2.1) fun z84=>(k (z84.1,z84.2))))))))) (fun z70=>(k (z70,([]:List Zj)))) z70))))
def T27 (F:Nat) (p0:List UInt8) (p1:Int) (p2:List Int) (p3:List UInt8):=T27c F p0 p1 p2 p3 some
def ct27 (F:Nat):Ct:=mkC 0 [.str,.i,(.ro .i),(.ro .u8)] [] [(.rw 0),.i] [.row 59 (.pr .i (.pr (.sl .u8) .un))] (fun x y=>T27 F x.1 x.2.1 x.2.2.1 x.2.2.2.1) (fun x y (z:Int×(List Zj))=>(((),z.1,()),(z.2,())))
theorem ok27 (F:Nat):Sound Tryz.prog cfg 27 (ct27 F):=
 mkC_okM (E:=E27 F) (lp:=[([1,0,1,1,1],lc27_3 F),([0,1,0,1,1,1,1,1,1],lc27_4 F)]) (code:=bodyOf Tryz.f27) Tryz.func27 rfl Tryz.ntmps27 rfl rfl cok (cts27 F) mixed ⟨lo27_3 F,⟨lo27_4 F,trivial⟩⟩ (by kernel_rfl) (fun x y k=>T27c F x.1 x.2.1 x.2.2.1 x.2.2.2.1 k) (fun _ _ _=>by simp only [T27,T27c,oA,oC,oS,oN,elimS_bind]) (fun _ _=>by kernel_rfl)
def E110 (F:Nat):Ev:=⟨cfg,15,ctOf [],fun _=>[],ctOf [],fun _=>none,fun _=>none⟩
theorem cts110 (F:Nat):CtsOk Tryz.prog (E110 F):=cts_of (l:=[]) (l':=[]) rfl rfl trivial trivial
def T110c (F:Nat) (p0:Int) (p1:Int) (p2:Int) {β:Type} (k:Bool->Option β):Option β:=
 (bif (decide (p1≤p0)) then (k (decide (p0≤p2))) else (k false))
def T110 (F:Nat) (p0:Int) (p1:Int) (p2:Int):=T110c F p0 p1 p2 some
def ct110 (F:Nat):Ct:=mkC 0 [.i,.i,.i] [] [.bo] [] (fun x y=>T110 F x.1 x.2.1 x.2.2.1) (fun x y (z:Bool)=>((z,()),()))
theorem ok110 (F:Nat):Sound Tryz.prog cfg 110 (ct110 F):=
 mkC_ok (E:=E110 F) (lp:=[]) (code:=bodyOf Tryz.f110) Tryz.func110 rfl Tryz.ntmps110 rfl rfl cok (cts110 F) mixed trivial (by kernel_rfl) (fun x y k=>T110c F x.1 x.2.1 x.2.2.1 k) (fun _ _ _=>by simp only [T110,T110c,oA,oC,oS,oN,elimS_bind]) (fun _ _=>by kernel_rfl)
def E155 (F:Nat):Ev:=⟨cfg,17,ctOf [(110,ct110 F)],fun _=>[],ctOf [],fun _=>none,fun _=>none⟩
theorem cts155 (F:Nat):CtsOk Tryz.prog (E155 F):=cts_of (l:=[(110,ct110 F)]) (l':=[]) rfl rfl ⟨⟨ok110 F,_,Tryz.func110,rfl,rfl⟩,trivial⟩ trivial
def T155c (F:Nat) (p0:List UInt8) (p1:Int) (p2:Int) {β:Type} (k:Bool->Option β):Option β:=
 (bif ((p0.length:Int) == (32:Int)) then (Option.bind (T110 F p1 (0:Int) (1099511627776:Int)) fun z3=>(bif z3 then (Option.bind (T110 F p2 (0:Int) (32768:Int)) fun z4=>(k z4)) else (k false))) else (k false))
def T155 (F:Nat) (p0:List UInt8) (p1:Int) (p2:Int):=T155c F p0 p1 p2 some
def ct155 (F:Nat):Ct:=mkC 0 [(.pr .str (.pr .i (.pr .i .un)))] [] [.bo] [] (fun x y=>T155 F x.1.1 x.1.2.1 x.1.2.2.1) (fun x y (z:Bool)=>((z,()),()))
theorem ok155 (F:Nat):Sound Tryz.prog cfg 155 (ct155 F):=
 mkC_ok (E:=E155 F) (lp:=[]) (code:=bodyOf Tryz.f155) Tryz.func155 rfl Tryz.ntmps155 rfl rfl cok (cts155 F) mixed trivial (by kernel_rfl) (fun x y k=>T155c F x.1.1 x.1.2.1 x.1.2.2.1 k) (fun _ _ _=>by simp only [T155,T155c,oA,oC,oS,oN,elimS_bind]) (fun _ _=>by kernel_rfl)
def E111 (F:Nat):Ev:=⟨cfg,44,ctOf [(110,ct110 F),(155,ct155 F)],fun _=>[],ctOf [],fun _=>none,fun _=>none⟩
theorem cts111 (F:Nat):CtsOk Tryz.prog (E111 F):=cts_of (l:=[(110,ct110 F),(155,ct155 F)]) (l':=[]) rfl rfl ⟨⟨ok110 F,_,Tryz.func110,rfl,rfl⟩,⟨⟨ok155 F,_,Tryz.func155,rfl,rfl⟩,trivial⟩⟩ trivial
def T111c (F:Nat) (p0:Int) (p1:Int) (p2:Int) (p3:List UInt8) (p4:Int) (p5:Int) (p6:Int) (p7:Int) (p8:List UInt8) {β:Type} (k:Bool->Option β):Option β:=
 (Option.bind (T110 F p0 (0:Int) (11:Int)) fun z7=>(bif (!z7) then (k false) else (Option.bind (T110 F p1 (1:Int) (1099511627776:Int)) fun z8=>(bif (!z8) then (k false) else (Option.bind (T110 F p2 (0:Int) (999999:Int)) fun z9=>(bif (!z9) then (k false) else (Option.bind (T110 F p6 (0:Int) (1099511627776:Int)) fun z10=>(bif (!z10) then (k false) else (Option.bind (T110 F p7 (0:Int) (1099511627776:Int)) fun z11=>(bif (!z11) then (k false) else (Option.bind (T155 F p3 p4 p5) fun z12=>(bif z12 then (bif ((p8.length:Int) == (0:Int)) then (k true) else (k ((p8.length:Int) == (32:Int)))) else (k false)))))))))))))
def T111 (F:Nat) (p0:Int) (p1:Int) (p2:Int) (p3:List UInt8) (p4:Int) (p5:Int) (p6:Int) (p7:Int) (p8:List UInt8):=T111c F p0 p1 p2 p3 p4 p5 p6 p7 p8 some
def ct111 (F:Nat):Ct:=mkC 0 [(.pr .i (.pr .i (.pr .i (.pr (.pr .str (.pr .i (.pr .i .un))) (.pr .i (.pr .i (.pr .str (.pr .bo .un))))))))] [] [.bo] [] (fun x y=>T111 F x.1.1 x.1.2.1 x.1.2.2.1 x.1.2.2.2.1.1 x.1.2.2.2.1.2.1 x.1.2.2.2.1.2.2.1 x.1.2.2.2.2.1 x.1.2.2.2.2.2.1 x.1.2.2.2.2.2.2.1) (fun x y (z:Bool)=>((z,()),()))
theorem ok111 (F:Nat):Sound Tryz.prog cfg 111 (ct111 F):=
 mkC_ok (E:=E111 F) (lp:=[]) (code:=bodyOf Tryz.f111) Tryz.func111 rfl Tryz.ntmps111 rfl rfl cok (cts111 F) mixed trivial (by kernel_rfl) (fun x y k=>T111c F x.1.1 x.1.2.1 x.1.2.2.1 x.1.2.2.2.1.1 x.1.2.2.2.1.2.1 x.1.2.2.2.1.2.2.1 x.1.2.2.2.2.1 x.1.2.2.2.2.2.1 x.1.2.2.2.2.2.2.1 k) (fun _ _ _=>by simp only [T111,T111c,oA,oC,oS,oN,elimS_bind]) (fun _ _=>by kernel_rfl)
def E157 (F:Nat):Ev:=⟨cfg,6,ctOf [(155,ct155 F)],fun _=>[],ctOf [],fun _=>none,fun _=>none⟩
theorem cts157 (F:Nat):CtsOk Tryz.prog (E157 F):=cts_of (l:=[(155,ct155 F)]) (l':=[]) rfl rfl ⟨⟨ok155 F,_,Tryz.func155,rfl,rfl⟩,trivial⟩ trivial
def T157c (F:Nat) (p0:List UInt8) (p1:Int) (p2:Int) {β:Type} (k:Bool->Option β):Option β:=
 (Option.bind (T155 F p0 p1 p2) fun z2=>(k (!z2)))
def T157 (F:Nat) (p0:List UInt8) (p1:Int) (p2:Int):=T157c F p0 p1 p2 some
def ct157 (F:Nat):Ct:=mkC 0 [(.pr .str (.pr .i (.pr .i .un)))] [] [.bo] [] (fun x y=>T157 F x.1.1 x.1.2.1 x.1.2.2.1) (fun x y (z:Bool)=>((z,()),()))
theorem ok157 (F:Nat):Sound Tryz.prog cfg 157 (ct157 F):=
 mkC_ok (E:=E157 F) (lp:=[]) (code:=bodyOf Tryz.f157) Tryz.func157 rfl Tryz.ntmps157 rfl rfl cok (cts157 F) mixed trivial (by kernel_rfl) (fun x y k=>T157c F x.1.1 x.1.2.1 x.1.2.2.1 k) (fun _ _ _=>by simp only [T157,T157c,oA,oC,oS,oN,elimS_bind]) (fun _ _=>by kernel_rfl)
def E195 (F:Nat):Ev:=⟨cfg,19,ctOf [(157,ct157 F)],fun _=>[],ctOf [],fun _=>none,fun _=>none⟩
theorem cts195 (F:Nat):CtsOk Tryz.prog (E195 F):=cts_of (l:=[(157,ct157 F)]) (l':=[]) rfl rfl ⟨⟨ok157 F,_,Tryz.func157,rfl,rfl⟩,trivial⟩ trivial
def L195_2c (F:Nat) (y9:List Za) (y10:Int) (y11:Int) {β:Type} (kA:Int->Option β) (kO:Unit->Option β) (kR:Int->Option β):Option β:=
 (bif (decide (y11 < y10)) then (Option.bind (ix y9 y11) fun x14=>(Option.bind (T157 F x14.1 x14.2.1 x14.2.2.1) fun z15=>(bif z15 then (kR y11) else (kA (w64 (y11 + (1:Int))))))) else (kO ()))
def L195_2 (F:Nat) (y9:List Za) (y10:Int) (y11:Int):Option ((Int) ⊕ ((Unit) ⊕ (Int))):=L195_2c F y9 y10 y11 (fun s=>some (.inl s)) (fun z=>some (.inr (.inl z))) (fun z=>some (.inr (.inr z)))
theorem L195_2n (F:Nat) (y9:List Za) (y10:Int) (y11:Int) {β:Type} (kA:Int->Option β) (kO:Unit->Option β) (kR:Int->Option β):L195_2c F y9 y10 y11 kA kO kR=(L195_2 F y9 y10 y11).bind (elimS kA (elimS kO kR)):=by
 simp only [L195_2,L195_2c,oA,oC,oS,oN,elimS_l,elimS_r,elimS_bind]
def lc195_2 (F:Nat):Lc:=mkR [0,1,7,8] [(.ro Qi),(.fn 157 .un .un),.i,.i] [] [] [] [] [4] [.i] [] F (fun x y (s:Int)=>L195_2 F x.1 x.2.2.1 s) (fun x y=>x.2.2.2.1) (fun x y (z:Unit)=>((),())) (fun x y (z:Int)=>((z,()),()))
theorem lo195_2 (F:Nat):LcOk Tryz.prog (E195 F) 0 (lc195_2 F) (cAt (bodyOf Tryz.f195) [1,0,1]):=
 mkR_ok (lp:=[]) (id:=0) (b:=cAt (bodyOf Tryz.f195) (0 :: 0 :: [1,0,1])) cok (cts195 F) mixed trivial (by kernel_rfl) (by kernel_rfl) (fun x y s=>(x.1,((),()),x.2.2.1,s,())) (fun x y s=>()) (fun x y=>rfl) (fun x y=>rfl) (fun x y s kA kO kR=>L195_2c F x.1 x.2.2.1 s kA kO kR) (fun x y s kA kO kR=>L195_2n F x.1 x.2.2.1 s kA kO kR) (fun _ _ _=>by kernel_rfl)
def T195c (F:Nat) (p0:List Za) {β:Type} (k:Int->Option β):Option β:=
 (Option.bind (iter (fun s=>L195_2 F p0 (p0.length:Int) s) F (0:Int)) fun z16=>elimS (fun z16=>(k (-1:Int))) (fun z16=>(k z16)) z16)
def T195 (F:Nat) (p0:List Za):=T195c F p0 some
def ct195 (F:Nat):Ct:=mkC 0 [(.ro Qi),(.fn 157 .un .un)] [] [.i] [] (fun x y=>T195 F x.1) (fun x y (z:Int)=>((z,()),()))
theorem ok195 (F:Nat):Sound Tryz.prog cfg 195 (ct195 F):=
 mkC_ok (E:=E195 F) (lp:=[([1,0,1],lc195_2 F)]) (code:=bodyOf Tryz.f195) Tryz.func195 rfl Tryz.ntmps195 rfl rfl cok (cts195 F) mixed ⟨lo195_2 F,trivial⟩ (by kernel_rfl) (fun x y k=>T195c F x.1 k) (fun _ _ _=>by simp only [T195,T195c,oA,oC,oS,oN,elimS_bind]) (fun _ _=>by kernel_rfl)
def E156 (F:Nat):Ev:=⟨cfg,9,ctOf [(195,ct195 F)],fun _=>[],ctOf [],fun _=>none,fun _=>none⟩
theorem cts156 (F:Nat):CtsOk Tryz.prog (E156 F):=cts_of (l:=[(195,ct195 F)]) (l':=[]) rfl rfl ⟨⟨ok195 F,_,Tryz.func195,rfl,rfl⟩,trivial⟩ trivial
def T156c (F:Nat) (p0:List Za) {β:Type} (k:Bool->Option β):Option β:=
 (Option.bind (T195 F p0) fun z2=>(k (decide ((0:Int)≤z2))))
def T156 (F:Nat) (p0:List Za):=T156c F p0 some
def ct156 (F:Nat):Ct:=mkC 0 [(.ro Qi),(.fn 157 .un .un)] [] [.bo] [] (fun x y=>T156 F x.1) (fun x y (z:Bool)=>((z,()),()))
theorem ok156 (F:Nat):Sound Tryz.prog cfg 156 (ct156 F):=
 mkC_ok (E:=E156 F) (lp:=[]) (code:=bodyOf Tryz.f156) Tryz.func156 rfl Tryz.ntmps156 rfl rfl cok (cts156 F) mixed trivial (by kernel_rfl) (fun x y k=>T156c F x.1 k) (fun _ _ _=>by simp only [T156,T156c,oA,oC,oS,oN,elimS_bind]) (fun _ _=>by kernel_rfl)
def E113 (F:Nat):Ev:=⟨cfg,6,ctOf [(156,ct156 F)],fun _=>[],ctOf [],fun _=>none,fun _=>none⟩
theorem cts113 (F:Nat):CtsOk Tryz.prog (E113 F):=cts_of (l:=[(156,ct156 F)]) (l':=[]) rfl rfl ⟨⟨ok156 F,_,Tryz.func156,rfl,rfl⟩,trivial⟩ trivial
def T113c (F:Nat) (p0:List Za) {β:Type} (k:Bool->Option β):Option β:=
 (Option.bind (T156 F p0) fun z2=>(k (!z2)))
def T113 (F:Nat) (p0:List Za):=T113c F p0 some
def ct113 (F:Nat):Ct:=mkC 0 [(.ro Qi)] [] [.bo] [] (fun x y=>T113 F x.1) (fun x y (z:Bool)=>((z,()),()))
theorem ok113 (F:Nat):Sound Tryz.prog cfg 113 (ct113 F):=
 mkC_ok (E:=E113 F) (lp:=[]) (code:=bodyOf Tryz.f113) Tryz.func113 rfl Tryz.ntmps113 rfl rfl cok (cts113 F) mixed trivial (by kernel_rfl) (fun x y k=>T113c F x.1 k) (fun _ _ _=>by simp only [T113,T113c,oA,oC,oS,oN,elimS_bind]) (fun _ _=>by kernel_rfl)
def E112 (F:Nat):Ev:=⟨cfg,38,ctOf [(110,ct110 F),(113,ct113 F)],fun _=>[],ctOf [],fun _=>none,fun _=>none⟩
theorem cts112 (F:Nat):CtsOk Tryz.prog (E112 F):=cts_of (l:=[(110,ct110 F),(113,ct113 F)]) (l':=[]) rfl rfl ⟨⟨ok110 F,_,Tryz.func110,rfl,rfl⟩,⟨⟨ok113 F,_,Tryz.func113,rfl,rfl⟩,trivial⟩⟩ trivial
def T112c (F:Nat) (p0:List UInt8) (p1:Int) (p2:Int) (p3:Int) (p4:Int) (p5:List Za) {β:Type} (k:Bool->Option β):Option β:=
 (bif ((p0.length:Int) != (32:Int)) then (k false) else (Option.bind (T110 F p1 (0:Int) (1000:Int)) fun z6=>(bif (!z6) then (k false) else (Option.bind (T110 F p2 (1:Int) (65536:Int)) fun z7=>(bif (!z7) then (k false) else (Option.bind (T110 F p3 (1:Int) (8:Int)) fun z8=>(bif (!z8) then (k false) else (Option.bind (T110 F p4 (1:Int) (16:Int)) fun z9=>(bif (!z9) then (k false) else (bif (decide ((p5.length:Int)≤(8:Int))) then (Option.bind (T113 F p5) fun z10=>(k z10)) else (k false)))))))))))
def T112 (F:Nat) (p0:List UInt8) (p1:Int) (p2:Int) (p3:Int) (p4:Int) (p5:List Za):=T112c F p0 p1 p2 p3 p4 p5 some
def ct112 (F:Nat):Ct:=mkC 0 [(.pr .str (.pr .i (.pr .i (.pr .i (.pr .i (.pr (.ro Qi) .un))))))] [] [.bo] [] (fun x y=>T112 F x.1.1 x.1.2.1 x.1.2.2.1 x.1.2.2.2.1 x.1.2.2.2.2.1 x.1.2.2.2.2.2.1) (fun x y (z:Bool)=>((z,()),()))
theorem ok112 (F:Nat):Sound Tryz.prog cfg 112 (ct112 F):=
 mkC_ok (E:=E112 F) (lp:=[]) (code:=bodyOf Tryz.f112) Tryz.func112 rfl Tryz.ntmps112 rfl rfl cok (cts112 F) mixed trivial (by kernel_rfl) (fun x y k=>T112c F x.1.1 x.1.2.1 x.1.2.2.1 x.1.2.2.2.1 x.1.2.2.2.2.1 x.1.2.2.2.2.2.1 k) (fun _ _ _=>by simp only [T112,T112c,oA,oC,oS,oN,elimS_bind]) (fun _ _=>by kernel_rfl)
def E43 (F:Nat):Ev:=⟨cfg,77,ctOf [(110,ct110 F),(111,ct111 F),(112,ct112 F),(113,ct113 F)],fun _=>[],ctOf [],fun _=>none,fun _=>none⟩
theorem cts43 (F:Nat):CtsOk Tryz.prog (E43 F):=cts_of (l:=[(110,ct110 F),(111,ct111 F),(112,ct112 F),(113,ct113 F)]) (l':=[]) rfl rfl ⟨⟨ok110 F,_,Tryz.func110,rfl,rfl⟩,⟨⟨ok111 F,_,Tryz.func111,rfl,rfl⟩,⟨⟨ok112 F,_,Tryz.func112,rfl,rfl⟩,⟨⟨ok113 F,_,Tryz.func113,rfl,rfl⟩,trivial⟩⟩⟩⟩ trivial
def L43_4c (F:Nat) (y48:List Int) (y49:Int) (y50:Int) {β:Type} (kA:Int->Option β) (kO:Unit->Option β) (kR:Bool->Option β):Option β:=
 (bif (decide (y50 < y49)) then (Option.bind (ix y48 y50) fun x59=>(Option.bind (T110 F x59 (0:Int) (1099511627776:Int)) fun z60=>(bif (!z60) then (kR false) else (kA (w64 (y50 + (1:Int))))))) else (kO ()))
def L43_4 (F:Nat) (y48:List Int) (y49:Int) (y50:Int):Option ((Int) ⊕ ((Unit) ⊕ (Bool))):=L43_4c F y48 y49 y50 (fun s=>some (.inl s)) (fun z=>some (.inr (.inl z))) (fun z=>some (.inr (.inr z)))
theorem L43_4n (F:Nat) (y48:List Int) (y49:Int) (y50:Int) {β:Type} (kA:Int->Option β) (kO:Unit->Option β) (kR:Bool->Option β):L43_4c F y48 y49 y50 kA kO kR=(L43_4 F y48 y49 y50).bind (elimS kA (elimS kO kR)):=by
 simp only [L43_4,L43_4c,oA,oC,oS,oN,elimS_l,elimS_r,elimS_bind]
def lc43_4 (F:Nat):Lc:=mkR [1,42,43,44] [(.pt 0 []),(.ro .i),.i,.i] [.blk 27 Qa] [1] [(.pt 0 [])] [.blk 27 Qa] [2] [.bo] [] F (fun x y (s:Int)=>L43_4 F x.2.1 x.2.2.1 s) (fun x y=>x.2.2.2.1) (fun x y (z:Unit)=>(((),()),((y.1.1,y.1.2.1,y.1.2.2.1,y.1.2.2.2.1,y.1.2.2.2.2.1,y.1.2.2.2.2.2.1,()),()))) (fun x y (z:Bool)=>((z,()),()))
theorem lo43_4 (F:Nat):LcOk Tryz.prog (E43 F) 0 (lc43_4 F) (cAt (bodyOf Tryz.f43) [1,0,1,1,1]):=
 mkR_ok (lp:=[]) (id:=0) (b:=cAt (bodyOf Tryz.f43) (0 :: 0 :: [1,0,1,1,1])) cok (cts43 F) mixed trivial (by kernel_rfl) (by kernel_rfl) (fun x y s=>((),x.2.1,x.2.2.1,s,())) (fun x y s=>((y.1.1,y.1.2.1,y.1.2.2.1,y.1.2.2.2.1,y.1.2.2.2.2.1,y.1.2.2.2.2.2.1,()),())) (fun x y=>rfl) (fun x y=>rfl) (fun x y s kA kO kR=>L43_4c F x.2.1 x.2.2.1 s kA kO kR) (fun x y s kA kO kR=>L43_4n F x.2.1 x.2.2.1 s kA kO kR) (fun _ _ _=>by kernel_rfl)
def L43_5c (F:Nat) (y62:List Zc) (y63:Int) (y64:Int) {β:Type} (kA:Int->Option β) (kO:Unit->Option β) (kR:Bool->Option β):Option β:=
 (bif (decide (y64 < y63)) then (Option.bind (ix y62 y64) fun x73=>(Option.bind (T111 F x73.1 x73.2.1 x73.2.2.1 x73.2.2.2.1.1 x73.2.2.2.1.2.1 x73.2.2.2.1.2.2.1 x73.2.2.2.2.1 x73.2.2.2.2.2.1 x73.2.2.2.2.2.2.1) fun z74=>(bif (!z74) then (kR false) else (kA (w64 (y64 + (1:Int))))))) else (kO ()))
def L43_5 (F:Nat) (y62:List Zc) (y63:Int) (y64:Int):Option ((Int) ⊕ ((Unit) ⊕ (Bool))):=L43_5c F y62 y63 y64 (fun s=>some (.inl s)) (fun z=>some (.inr (.inl z))) (fun z=>some (.inr (.inr z)))
theorem L43_5n (F:Nat) (y62:List Zc) (y63:Int) (y64:Int) {β:Type} (kA:Int->Option β) (kO:Unit->Option β) (kR:Bool->Option β):L43_5c F y62 y63 y64 kA kO kR=(L43_5 F y62 y63 y64).bind (elimS kA (elimS kO kR)):=by
 simp only [L43_5,L43_5c,oA,oC,oS,oN,elimS_l,elimS_r,elimS_bind]
def lc43_5 (F:Nat):Lc:=mkR [1,53,54,55] [(.pt 0 []),(.ro Qb),.i,.i] [.blk 27 Qa] [1] [(.pt 0 [])] [.blk 27 Qa] [2] [.bo] [] F (fun x y (s:Int)=>L43_5 F x.2.1 x.2.2.1 s) (fun x y=>x.2.2.2.1) (fun x y (z:Unit)=>(((),()),((y.1.1,y.1.2.1,y.1.2.2.1,y.1.2.2.2.1,y.1.2.2.2.2.1,y.1.2.2.2.2.2.1,()),()))) (fun x y (z:Bool)=>((z,()),()))
theorem lo43_5 (F:Nat):LcOk Tryz.prog (E43 F) 0 (lc43_5 F) (cAt (bodyOf Tryz.f43) [1,0,1,1,1,1]):=
 mkR_ok (lp:=[]) (id:=2) (b:=cAt (bodyOf Tryz.f43) (0 :: 0 :: [1,0,1,1,1,1])) cok (cts43 F) mixed trivial (by kernel_rfl) (by kernel_rfl) (fun x y s=>((),x.2.1,x.2.2.1,s,())) (fun x y s=>((y.1.1,y.1.2.1,y.1.2.2.1,y.1.2.2.2.1,y.1.2.2.2.2.1,y.1.2.2.2.2.2.1,()),())) (fun x y=>rfl) (fun x y=>rfl) (fun x y s kA kO kR=>L43_5c F x.2.1 x.2.2.1 s kA kO kR) (fun x y s kA kO kR=>L43_5n F x.2.1 x.2.2.1 s kA kO kR) (fun _ _ _=>by kernel_rfl)
def L43_6c (F:Nat) (y76:List Zd) (y77:Int) (y78:Int) {β:Type} (kA:Int->Option β) (kO:Unit->Option β) (kR:Bool->Option β):Option β:=
 (bif (decide (y78 < y77)) then (Option.bind (ix y76 y78) fun x87=>(Option.bind (T112 F x87.1 x87.2.1 x87.2.2.1 x87.2.2.2.1 x87.2.2.2.2.1 x87.2.2.2.2.2.1) fun z88=>(bif (!z88) then (kR false) else (kA (w64 (y78 + (1:Int))))))) else (kO ()))
def L43_6 (F:Nat) (y76:List Zd) (y77:Int) (y78:Int):Option ((Int) ⊕ ((Unit) ⊕ (Bool))):=L43_6c F y76 y77 y78 (fun s=>some (.inl s)) (fun z=>some (.inr (.inl z))) (fun z=>some (.inr (.inr z)))
theorem L43_6n (F:Nat) (y76:List Zd) (y77:Int) (y78:Int) {β:Type} (kA:Int->Option β) (kO:Unit->Option β) (kR:Bool->Option β):L43_6c F y76 y77 y78 kA kO kR=(L43_6 F y76 y77 y78).bind (elimS kA (elimS kO kR)):=by
 simp only [L43_6,L43_6c,oA,oC,oS,oN,elimS_l,elimS_r,elimS_bind]
def lc43_6 (F:Nat):Lc:=mkR [1,64,65,66] [(.pt 0 []),(.ro Qc),.i,.i] [.blk 27 Qa] [1] [(.pt 0 [])] [.blk 27 Qa] [2] [.bo] [] F (fun x y (s:Int)=>L43_6 F x.2.1 x.2.2.1 s) (fun x y=>x.2.2.2.1) (fun x y (z:Unit)=>(((),()),((y.1.1,y.1.2.1,y.1.2.2.1,y.1.2.2.2.1,y.1.2.2.2.2.1,y.1.2.2.2.2.2.1,()),()))) (fun x y (z:Bool)=>((z,()),()))
theorem lo43_6 (F:Nat):LcOk Tryz.prog (E43 F) 0 (lc43_6 F) (cAt (bodyOf Tryz.f43) [1,0,1,1,1,1,1]):=
 mkR_ok (lp:=[]) (id:=4) (b:=cAt (bodyOf Tryz.f43) (0 :: 0 :: [1,0,1,1,1,1,1])) cok (cts43 F) mixed trivial (by kernel_rfl) (by kernel_rfl) (fun x y s=>((),x.2.1,x.2.2.1,s,())) (fun x y s=>((y.1.1,y.1.2.1,y.1.2.2.1,y.1.2.2.2.1,y.1.2.2.2.2.1,y.1.2.2.2.2.2.1,()),())) (fun x y=>rfl) (fun x y=>rfl) (fun x y s kA kO kR=>L43_6c F x.2.1 x.2.2.1 s kA kO kR) (fun x y s kA kO kR=>L43_6n F x.2.1 x.2.2.1 s kA kO kR) (fun _ _ _=>by kernel_rfl)
def T43c (F:Nat) (p0:Int) (p1:Int) (p2:List Int) (p3:List Zc) (p4:List Zd) (p5:List Za) {β:Type} (k:Bool->Option β):Option β:=
 (Option.bind (T110 F p0 (0:Int) (1000:Int)) fun z46=>(bif (!z46) then (k false) else (Option.bind (T110 F p1 (0:Int) (1000:Int)) fun z47=>(bif (!z47) then (k false) else (bif (decide ((12:Int) < (p2.length:Int))) then (k false) else (bif (decide ((4096:Int) < (p3.length:Int))) then (k false) else (bif (decide ((4096:Int) < (p4.length:Int))) then (k false) else (bif (decide ((4096:Int) < (p5.length:Int))) then (k false) else (Option.bind (iter (fun s=>L43_4 F p2 (p2.length:Int) s) F (0:Int)) fun z61=>elimS (fun z61=>(Option.bind (iter (fun s=>L43_5 F p3 (p3.length:Int) s) F (0:Int)) fun z75=>elimS (fun z75=>(Option.bind (iter (fun s=>L43_6 F p4 (p4.length:Int) s) F (0:Int)) fun z89=>elimS (fun z89=>(Option.bind (T113 F p5) fun z90=>(k z90))) (fun z89=>(k z89)) z89)) (fun z75=>(k z75)) z75)) (fun z61=>(k z61)) z61)))))))))
def T43 (F:Nat) (p0:Int) (p1:Int) (p2:List Int) (p3:List Zc) (p4:List Zd) (p5:List Za):=T43c F p0 p1 p2 p3 p4 p5 some
def ct43 (F:Nat):Ct:=mkC 0 [(.pr .i (.pr .i (.pr (.ro .i) (.pr (.ro Qb) (.pr (.ro Qc) (.pr (.ro Qi) .un))))))] [] [.bo] [] (fun x y=>T43 F x.1.1 x.1.2.1 x.1.2.2.1 x.1.2.2.2.1 x.1.2.2.2.2.1 x.1.2.2.2.2.2.1) (fun x y (z:Bool)=>((z,()),()))
theorem ok43 (F:Nat):Sound Tryz.prog cfg 43 (ct43 F):=
 mkC_ok (E:=E43 F) (lp:=[([1,0,1,1,1],lc43_4 F),([1,0,1,1,1,1],lc43_5 F),([1,0,1,1,1,1,1],lc43_6 F)]) (code:=bodyOf Tryz.f43) Tryz.func43 rfl Tryz.ntmps43 rfl rfl cok (cts43 F) mixed ⟨lo43_4 F,⟨lo43_5 F,⟨lo43_6 F,trivial⟩⟩⟩ (by kernel_rfl) (fun x y k=>T43c F x.1.1 x.1.2.1 x.1.2.2.1 x.1.2.2.2.1 x.1.2.2.2.2.1 x.1.2.2.2.2.2.1 k) (fun _ _ _=>by simp only [T43,T43c,oA,oC,oS,oN,elimS_bind]) (fun _ _=>by kernel_rfl)
def E44 (F:Nat):Ev:=⟨cfg,3,ctOf [],fun _=>[],ctOf [],fun _=>none,fun _=>none⟩
theorem cts44 (F:Nat):CtsOk Tryz.prog (E44 F):=cts_of (l:=[]) (l':=[]) rfl rfl trivial trivial
def T44c (F:Nat) {β:Type} (k:Int->Option β):Option β:=
 (k (0:Int))
def T44 (F:Nat):=T44c F some
def ct44 (F:Nat):Ct:=mkC 0 [] [] [(.pt 0 [])] [.blk 166 (.pr .ns (.pr .i .un))] (fun x y=>T44 F) (fun x y (z:Int)=>(((),()),(((),z,()),())))
theorem ok44 (F:Nat):Sound Tryz.prog cfg 44 (ct44 F):=
 mkC_ok (E:=E44 F) (lp:=[]) (code:=bodyOf Tryz.f44) Tryz.func44 rfl Tryz.ntmps44 rfl rfl cok (cts44 F) mixed trivial (by kernel_rfl) (fun x y k=>T44c F k) (fun _ _ _=>by simp only [T44,T44c,oA,oC,oS,oN,elimS_bind]) (fun _ _=>by kernel_rfl)
def E116 (F:Nat):Ev:=⟨cfg,14,ctOf [],fun _=>[],ctOf [],fun _=>none,fun _=>none⟩
theorem cts116 (F:Nat):CtsOk Tryz.prog (E116 F):=cts_of (l:=[]) (l':=[]) rfl rfl trivial trivial
def T116c (F:Nat) (p0:Int) {β:Type} (k:UInt64->Option β):Option β:=
 (bif (decide (p0 < (0:Int))) then (k (((UInt64.ofInt (w64 (0 - (w64 (p0 + (1:Int)))))) * (UInt64.ofNat 2)) + (UInt64.ofNat 1))) else (k ((UInt64.ofInt p0) * (UInt64.ofNat 2))))
def T116 (F:Nat) (p0:Int):=T116c F p0 some
def ct116 (F:Nat):Ct:=mkC 0 [.i] [] [.u64] [] (fun x y=>T116 F x.1) (fun x y (z:UInt64)=>((z,()),()))
theorem ok116 (F:Nat):Sound Tryz.prog cfg 116 (ct116 F):=
 mkC_ok (E:=E116 F) (lp:=[]) (code:=bodyOf Tryz.f116) Tryz.func116 rfl Tryz.ntmps116 rfl rfl cok (cts116 F) mixed trivial (by kernel_rfl) (fun x y k=>T116c F x.1 k) (fun _ _ _=>by simp only [T116,T116c,oA,oC,oS,oN,elimS_bind]) (fun _ _=>by kernel_rfl)
def E117 (F:Nat):Ev:=⟨cfg,20,ctOf [],fun _=>[],ctOf [],fun _=>none,fun _=>none⟩
theorem cts117 (F:Nat):CtsOk Tryz.prog (E117 F):=cts_of (l:=[]) (l':=[]) rfl rfl trivial trivial
def L117_2c (F:Nat) (y7:UInt64) (y8:List UInt8) {β:Type} (kA:(UInt64×Zb)->Option β) (kO:(UInt64×Zb)->Option β):Option β:=
 (bif (decide ((UInt64.ofNat 128)≤y7)) then (Option.bind (gapp y8 ([((y7.toUInt8) ||| (UInt8.ofNat 128))]:List UInt8)) fun x10=>(kA ((shr64 y7 ((UInt64.ofNat 7).toNat)),x10))) else (kO (y7,y8)))
def L117_2 (F:Nat) (y7:UInt64) (y8:List UInt8):=L117_2c F y7 y8 (fun s=>some (Sum.inl s)) (fun z=>some (Sum.inr z))
def lc117_2 (F:Nat):Lc:=mkL [0,1] [(.rw 0),.u64] [.row 5 .u8] [0,1] [(.rw 0),.u64] [.row 5 .u8] F (fun x y (s:UInt64×Zb)=>L117_2 F s.1 s.2) (fun x y=>(x.2.1,y.1)) (fun x y (z:UInt64×Zb)=>(((),z.1,()),(z.2,())))
theorem lo117_2 (F:Nat):LcOk Tryz.prog (E117 F) 0 (lc117_2 F) (cAt (bodyOf Tryz.f117) [0,1]):=
 mkL_ok (lp:=[]) (id:=0) (b:=cAt (bodyOf Tryz.f117) (0 :: 0 :: [0,1])) cok (cts117 F) mixed trivial (by kernel_rfl) (by kernel_rfl) (fun x y s=>((),s.1,())) (fun x y s=>(s.2,())) (fun x y=>rfl) (fun x y=>rfl) (fun x y s kA kO=>L117_2c F s.1 s.2 kA kO) (fun _ _ _ _ _=>by simp only [L117_2,L117_2c,oA,oC,oS,oN,elimS_l,elimS_r,elimS_bind]) (fun _ _ _=>by kernel_rfl)
def T117c (F:Nat) (p0:UInt64) (p1:List UInt8) {β:Type} (k:(Zb)->Option β):Option β:=
 (Option.bind (iter (fun s=>L117_2 F s.1 s.2) F (p0,p1)) fun z11=>(Option.bind (gapp z11.2 ([(z11.1.toUInt8)]:List UInt8)) fun x12=>(k x12)))
def T117 (F:Nat) (p0:UInt64) (p1:List UInt8):=T117c F p0 p1 some
def ct117 (F:Nat):Ct:=mkC 0 [(.rw 0),.u64] [.row 5 .u8] [(.rw 0)] [.row 5 .u8] (fun x y=>T117 F x.2.1 y.1) (fun x y (z:Zb)=>(((),()),(z,())))
theorem ok117 (F:Nat):Sound Tryz.prog cfg 117 (ct117 F):=
 mkC_ok (E:=E117 F) (lp:=[([0,1],lc117_2 F)]) (code:=bodyOf Tryz.f117) Tryz.func117 rfl Tryz.ntmps117 rfl rfl cok (cts117 F) mixed ⟨lo117_2 F,trivial⟩ (by kernel_rfl) (fun x y k=>T117c F x.2.1 y.1 k) (fun _ _ _=>by simp only [T117,T117c,oA,oC,oS,oN,elimS_bind]) (fun _ _=>by kernel_rfl)
def E115 (F:Nat):Ev:=⟨cfg,18,ctOf [(117,ct117 F)],fun _=>[],ctOf [],fun _=>none,fun _=>none⟩
theorem cts115 (F:Nat):CtsOk Tryz.prog (E115 F):=cts_of (l:=[(117,ct117 F)]) (l':=[]) rfl rfl ⟨⟨ok117 F,_,Tryz.func117,rfl,rfl⟩,trivial⟩ trivial
def T115c (F:Nat) (p0:UInt64) (p1:Int) {β:Type} (k:(Zb)->Option β):Option β:=
 (bif (p1 == (0:Int)) then (Option.bind (T117 F p0 ([]:List UInt8)) fun z2=>(k z2)) else (k ([]:List UInt8)))
def T115 (F:Nat) (p0:UInt64) (p1:Int):=T115c F p0 p1 some
def ct115 (F:Nat):Ct:=mkC 1 [(.pt 0 []),.u64] [.blk 166 (.pr .ns (.pr .i .un))] [] [.blk 166 Qn,.row 5 .u8] (fun x y=>T115 F x.2.1 y.1.2.1) (fun x y (z:Zb)=>((),(((),y.1.2.1,()),z,())))
theorem ok115 (F:Nat):Sound Tryz.prog cfg 115 (ct115 F):=
 mkC_ok (E:=E115 F) (lp:=[]) (code:=bodyOf Tryz.f115) Tryz.func115 rfl Tryz.ntmps115 rfl rfl cok (cts115 F) mixed trivial (by kernel_rfl) (fun x y k=>T115c F x.2.1 y.1.2.1 k) (fun _ _ _=>by simp only [T115,T115c,oA,oC,oS,oN,elimS_bind]) (fun _ _=>by kernel_rfl)
def E48 (F:Nat):Ev:=⟨cfg,8,ctOf [(116,ct116 F),(115,ct115 F)],fun _=>[],ctOf [],fun _=>none,fun _=>none⟩
theorem cts48 (F:Nat):CtsOk Tryz.prog (E48 F):=cts_of (l:=[(116,ct116 F),(115,ct115 F)]) (l':=[]) rfl rfl ⟨⟨ok116 F,_,Tryz.func116,rfl,rfl⟩,⟨⟨ok115 F,_,Tryz.func115,rfl,rfl⟩,trivial⟩⟩ trivial
def T48c (F:Nat) (p0:Int) (p1:Int) {β:Type} (k:(Zb)->Option β):Option β:=
 (Option.bind (T116 F p0) fun z3=>(Option.bind (T115 F z3 p1) fun z4=>(k z4)))
def T48 (F:Nat) (p0:Int) (p1:Int):=T48c F p0 p1 some
def ct48 (F:Nat):Ct:=mkC 1 [(.pt 0 []),.i] [.blk 166 (.pr .ns (.pr .i .un))] [] [.blk 166 Qn,.row 5 .u8] (fun x y=>T48 F x.2.1 y.1.2.1) (fun x y (z:Zb)=>((),(((),y.1.2.1,()),z,())))
theorem ok48 (F:Nat):Sound Tryz.prog cfg 48 (ct48 F):=
 mkC_ok (E:=E48 F) (lp:=[]) (code:=bodyOf Tryz.f48) Tryz.func48 rfl Tryz.ntmps48 rfl rfl cok (cts48 F) mixed trivial (by kernel_rfl) (fun x y k=>T48c F x.2.1 y.1.2.1 k) (fun _ _ _=>by simp only [T48,T48c,oA,oC,oS,oN,elimS_bind]) (fun _ _=>by kernel_rfl)
def ord115x1:Nat->List (Tag×Nat)
 | _=>[]
def al115x1:Nat->Option Nat
 | _=>none
def ms115x1:Nat->Option (List (Option Tag×Nat×List Nat))
 | _=>none
def E115x1 (F:Nat):Ev:=⟨cfg,18,ctOf [(117,ct117 F)],ord115x1,ctOf [],al115x1,ms115x1⟩
theorem cts115x1 (F:Nat):CtsOk Tryz.prog (E115x1 F):=cts_of (l:=[(117,ct117 F)]) (l':=[]) rfl rfl ⟨⟨ok117 F,_,Tryz.func117,rfl,rfl⟩,trivial⟩ trivial
def T115x1c (F:Nat) (p0:UInt64) (p1:Int) (p2:List UInt8) {β:Type} (k:((List UInt8))->Option β):Option β:=
 (bif (p1 == (0:Int)) then (Option.bind (T117 F p0 p2) fun z2=>(k z2)) else (k p2))
def T115x1 (F:Nat) (p0:UInt64) (p1:Int) (p2:List UInt8):Option ((List UInt8)):=T115x1c F p0 p1 p2 some
theorem T115x1n (F:Nat) (p0:UInt64) (p1:Int) (p2:List UInt8) {β:Type} (k:((List UInt8))->Option β):T115x1c F p0 p1 p2 k=(T115x1 F p0 p1 p2).bind k:=by
 simp only [T115x1,T115x1c,Option.bind_assoc,cond_bind,Option.bind_some,Option.bind_none,elimS_bind]
abbrev cA115x1:List Sh:=[(.pt 0 []),.u64]
abbrev cB115x1:List Sh:=[]
abbrev cT115x1:List TSh:=[.blk 166 (.pr (.rw 1) (.pr .i .un)),.row 5 .u8]
abbrev cU115x1:List TSh:=[.blk 166 (.pr (.rw 1) (.pr .i .un)),.row 5 .u8]
def ct115x1 (F:Nat):Ct:=mkC 1 cA115x1 cT115x1 cB115x1 cU115x1 (fun x y=>T115x1 F x.2.1 y.1.2.1 y.2.1) (fun x y (z:(List UInt8))=>((),(((),y.1.2.1,()),z,())))
theorem eq115x1 (F:Nat) (x:dens cA115x1) (y:tdens cT115x1):sev (E115x1 F) 1 [] (bodyOf Tryz.f115) [] (mkSt (rng 2) cA115x1 cT115x1 x y) (kFn (E115x1 F) 1 Tryz.f115.results.toList cB115x1 cU115x1 fun p q=>some (p,q)) =
  T115x1c F x.2.1 y.1.2.1 y.2.1 (fun z=>some ((),(((),y.1.2.1,()),z,()))):=by kernel_rfl
theorem ok115x1 (F:Nat):Sound Tryz.prog cfg 115 (ct115x1 F):=
 mkC_ok (E:=E115x1 F) (lp:=[]) (code:=bodyOf Tryz.f115) Tryz.func115 rfl Tryz.ntmps115 rfl rfl cok (cts115x1 F) mixed trivial (by kernel_rfl) (fun x y k=>T115x1c F x.2.1 y.1.2.1 y.2.1 k) (fun x y k=>T115x1n F x.2.1 y.1.2.1 y.2.1 k) (eq115x1 F)
def ord48x1:Nat->List (Tag×Nat)
 | _=>[]
def al48x1:Nat->Option Nat
 | _=>none
def ms48x1:Nat->Option (List (Option Tag×Nat×List Nat))
 | _=>none
def E48x1 (F:Nat):Ev:=⟨cfg,8,ctOf [(116,ct116 F),(115,ct115x1 F)],ord48x1,ctOf [],al48x1,ms48x1⟩
theorem cts48x1 (F:Nat):CtsOk Tryz.prog (E48x1 F):=cts_of (l:=[(116,ct116 F),(115,ct115x1 F)]) (l':=[]) rfl rfl ⟨⟨ok116 F,_,Tryz.func116,rfl,rfl⟩,⟨⟨ok115x1 F,_,Tryz.func115,rfl,rfl⟩,trivial⟩⟩ trivial
def T48x1c (F:Nat) (p0:Int) (p1:Int) (p2:List UInt8) {β:Type} (k:((List UInt8))->Option β):Option β:=
 (Option.bind (T116 F p0) fun z3=>(Option.bind (T115x1 F z3 p1 p2) fun z4=>(k z4)))
def T48x1 (F:Nat) (p0:Int) (p1:Int) (p2:List UInt8):Option ((List UInt8)):=T48x1c F p0 p1 p2 some
theorem T48x1n (F:Nat) (p0:Int) (p1:Int) (p2:List UInt8) {β:Type} (k:((List UInt8))->Option β):T48x1c F p0 p1 p2 k=(T48x1 F p0 p1 p2).bind k:=by
 simp only [T48x1,T48x1c,Option.bind_assoc,cond_bind,Option.bind_some,Option.bind_none,elimS_bind]
abbrev cA48x1:List Sh:=[(.pt 0 []),.i]
abbrev cB48x1:List Sh:=[]
abbrev cT48x1:List TSh:=[.blk 166 (.pr (.rw 1) (.pr .i .un)),.row 5 .u8]
abbrev cU48x1:List TSh:=[.blk 166 (.pr (.rw 2) (.pr .i .un)),.no,.row 5 .u8]
def ct48x1 (F:Nat):Ct:=mkC 2 cA48x1 cT48x1 cB48x1 cU48x1 (fun x y=>T48x1 F x.2.1 y.1.2.1 y.2.1) (fun x y (z:(List UInt8))=>((),(((),y.1.2.1,()),(),z,())))
theorem eq48x1 (F:Nat) (x:dens cA48x1) (y:tdens cT48x1):sev (E48x1 F) 2 [] (bodyOf Tryz.f48) [] (mkSt (rng 2) cA48x1 cT48x1 x y) (kFn (E48x1 F) 2 Tryz.f48.results.toList cB48x1 cU48x1 fun p q=>some (p,q)) =
  T48x1c F x.2.1 y.1.2.1 y.2.1 (fun z=>some ((),(((),y.1.2.1,()),(),z,()))):=by kernel_rfl
theorem ok48x1 (F:Nat):Sound Tryz.prog cfg 48 (ct48x1 F):=
 mkC_ok (E:=E48x1 F) (lp:=[]) (code:=bodyOf Tryz.f48) Tryz.func48 rfl Tryz.ntmps48 rfl rfl cok (cts48x1 F) mixed trivial (by kernel_rfl) (fun x y k=>T48x1c F x.2.1 y.1.2.1 y.2.1 k) (fun x y k=>T48x1n F x.2.1 y.1.2.1 y.2.1 k) (eq48x1 F)
def E45 (F:Nat):Ev:=⟨cfg,16,ctOf [(48,ct48 F),(48,ct48x1 F)],fun _=>[],ctOf [],fun _=>none,fun _=>none⟩
theorem cts45 (F:Nat):CtsOk Tryz.prog (E45 F):=cts_of (l:=[(48,ct48 F),(48,ct48x1 F)]) (l':=[]) rfl rfl ⟨⟨ok48 F,_,Tryz.func48,rfl,rfl⟩,⟨⟨ok48x1 F,_,Tryz.func48,rfl,rfl⟩,trivial⟩⟩ trivial
def L45_2c (F:Nat) (y23:List Int) (y24:Int) (y26:Int) (y25:Int) (y27:List UInt8) {β:Type} (kA:Zi->Option β) (kO:(Zb)->Option β):Option β:=
 (bif (decide (y25 < y24)) then (Option.bind (ix y23 y25) fun x30=>(Option.bind (T48x1 F x30 y26 y27) fun z31=>(kA ((w64 (y25 + (1:Int))),z31)))) else (kO y27))
def L45_2 (F:Nat) (y23:List Int) (y24:Int) (y26:Int) (y25:Int) (y27:List UInt8):=L45_2c F y23 y24 y26 y25 y27 (fun s=>some (Sum.inl s)) (fun z=>some (Sum.inr z))
def lc45_2 (F:Nat):Lc:=mkL [0,6,7,8] [(.pt 0 []),(.ro .i),.i,.i] [.blk 166 Qn,.row 5 .u8] [] [] [.blk 166 Qn,.row 5 .u8] F (fun x y (s:Int×Zb)=>L45_2 F x.2.1 x.2.2.1 y.1.2.1 s.1 s.2) (fun x y=>(x.2.2.2.1,y.2.1)) (fun x y (z:Zb)=>((),(((),y.1.2.1,()),z,())))
theorem lo45_2 (F:Nat):LcOk Tryz.prog (E45 F) 1 (lc45_2 F) (cAt (bodyOf Tryz.f45) [1]):=
 mkL_ok (lp:=[]) (id:=0) (b:=cAt (bodyOf Tryz.f45) (0 :: 0 :: [1])) cok (cts45 F) mixed trivial (by kernel_rfl) (by kernel_rfl) (fun x y s=>((),x.2.1,x.2.2.1,s.1,())) (fun x y s=>(((),y.1.2.1,()),s.2,())) (fun x y=>rfl) (fun x y=>rfl) (fun x y s kA kO=>L45_2c F x.2.1 x.2.2.1 y.1.2.1 s.1 s.2 kA kO) (fun _ _ _ _ _=>by simp only [L45_2,L45_2c,oA,oC,oS,oN,elimS_l,elimS_r,elimS_bind]) (fun _ _ _=>by kernel_rfl)
def T45c (F:Nat) (p0:List Int) (p1:Int) {β:Type} (k:(Zb)->Option β):Option β:=
 (Option.bind (iter (fun s=>L45_2 F p0 (p0.length:Int) p1 s.1 s.2) F ((0:Int),([]:List UInt8))) fun z32=>(k z32))
def T45 (F:Nat) (p0:List Int) (p1:Int):=T45c F p0 p1 some
def ct45 (F:Nat):Ct:=mkC 1 [(.pt 0 []),(.ro .i)] [.blk 166 (.pr .ns (.pr .i .un))] [] [.blk 166 Qn,.row 5 .u8] (fun x y=>T45 F x.2.1 y.1.2.1) (fun x y (z:Zb)=>((),(((),y.1.2.1,()),z,())))
theorem ok45 (F:Nat):Sound Tryz.prog cfg 45 (ct45 F):=
 mkC_ok (E:=E45 F) (lp:=[([1],lc45_2 F)]) (code:=bodyOf Tryz.f45) Tryz.func45 rfl Tryz.ntmps45 rfl rfl cok (cts45 F) mixed ⟨lo45_2 F,trivial⟩ (by kernel_rfl) (fun x y k=>T45c F x.2.1 y.1.2.1 k) (fun _ _ _=>by simp only [T45,T45c,oA,oC,oS,oN,elimS_bind]) (fun _ _=>by kernel_rfl)
def E114 (F:Nat):Ev:=⟨cfg,18,ctOf [(115,ct115x1 F)],fun _=>[],ctOf [],fun _=>none,fun _=>none⟩
theorem cts114 (F:Nat):CtsOk Tryz.prog (E114 F):=cts_of (l:=[(115,ct115x1 F)]) (l':=[]) rfl rfl ⟨⟨ok115x1 F,_,Tryz.func115,rfl,rfl⟩,trivial⟩ trivial
def T114c (F:Nat) (p0:Int) (p1:Int) (p2:List UInt8) {β:Type} (k:Zi->Option β):Option β:=
 (bif (p1 != (0:Int)) then (k (p1,p2)) else (bif (decide (p0 < (0:Int))) then (k ((1:Int),p2)) else (Option.bind (T115x1 F (UInt64.ofInt p0) p1 p2) fun z2=>(k (p1,z2)))))
def T114 (F:Nat) (p0:Int) (p1:Int) (p2:List UInt8):=T114c F p0 p1 p2 some
def ct114 (F:Nat):Ct:=mkC 1 [(.pt 0 []),.i] [.blk 166 Qn,.row 5 .u8] [] [.blk 166 Qn,.row 5 .u8] (fun x y=>T114 F x.2.1 y.1.2.1 y.2.1) (fun x y (z:Int×Zb)=>((),(((),z.1,()),z.2,())))
theorem ok114 (F:Nat):Sound Tryz.prog cfg 114 (ct114 F):=
 mkC_ok (E:=E114 F) (lp:=[]) (code:=bodyOf Tryz.f114) Tryz.func114 rfl Tryz.ntmps114 rfl rfl cok (cts114 F) mixed trivial (by kernel_rfl) (fun x y k=>T114c F x.2.1 y.1.2.1 y.2.1 k) (fun _ _ _=>by simp only [T114,T114c,oA,oC,oS,oN,elimS_bind]) (fun _ _=>by kernel_rfl)
def E47 (F:Nat):Ev:=⟨cfg,6,ctOf [(48,ct48x1 F)],fun _=>[],ctOf [],fun _=>none,fun _=>none⟩
theorem cts47 (F:Nat):CtsOk Tryz.prog (E47 F):=cts_of (l:=[(48,ct48x1 F)]) (l':=[]) rfl rfl ⟨⟨ok48x1 F,_,Tryz.func48,rfl,rfl⟩,trivial⟩ trivial
def T47c (F:Nat) (p0:Int) (p1:Int) (p2:List UInt8) {β:Type} (k:(Zb)->Option β):Option β:=
 (Option.bind (T48x1 F p0 p1 p2) fun z2=>(k z2))
def T47 (F:Nat) (p0:Int) (p1:Int) (p2:List UInt8):=T47c F p0 p1 p2 some
def ct47 (F:Nat):Ct:=mkC 3 [.i,(.pt 0 [])] [.blk 81 Qz,.blk 166 Qs,.row 5 .u8] [] [.blk 81 Qz,.blk 166 Qp,.no,.row 5 .u8] (fun x y=>T47 F x.1 y.2.1.2.1 y.2.2.1) (fun x y (z:Zb)=>((),((),((),y.2.1.2.1,()),(),z,())))
theorem ok47 (F:Nat):Sound Tryz.prog cfg 47 (ct47 F):=
 mkC_ok (E:=E47 F) (lp:=[]) (code:=bodyOf Tryz.f47) Tryz.func47 rfl Tryz.ntmps47 rfl rfl cok (cts47 F) mixed trivial (by kernel_rfl) (fun x y k=>T47c F x.1 y.2.1.2.1 y.2.2.1 k) (fun _ _ _=>by simp only [T47,T47c,oA,oC,oS,oN,elimS_bind]) (fun _ _=>by kernel_rfl)
def E46 (F:Nat):Ev:=⟨cfg,22,ctOf [(114,ct114 F),(47,ct47 F)],fun _=>[],ctOf [],fun _=>none,fun _=>none⟩
theorem cts46 (F:Nat):CtsOk Tryz.prog (E46 F):=cts_of (l:=[(114,ct114 F),(47,ct47 F)]) (l':=[]) rfl rfl ⟨⟨ok114 F,_,Tryz.func114,rfl,rfl⟩,⟨⟨ok47 F,_,Tryz.func47,rfl,rfl⟩,trivial⟩⟩ trivial
def L46_2c (F:Nat) (y13:List Int) (y14:Int) (y16:Int) (y15:Int) (y17:List UInt8) {β:Type} (kA:Zi->Option β) (kO:(Zb)->Option β):Option β:=
 (bif (decide (y15 < y14)) then (Option.bind (ix y13 y15) fun x20=>(Option.bind (T47 F x20 y16 y17) fun z21=>(kA ((w64 (y15 + (1:Int))),z21)))) else (kO y17))
def L46_2 (F:Nat) (y13:List Int) (y14:Int) (y16:Int) (y15:Int) (y17:List UInt8):=L46_2c F y13 y14 y16 y15 y17 (fun s=>some (Sum.inl s)) (fun z=>some (Sum.inr z))
def lc46_2 (F:Nat):Lc:=mkL [2,12,13,14] [(.fn 47 .un (.pr (.pt 1 []) .un)),(.ro .i),.i,.i] [.blk 166 Qp,.blk 81 Qq,.no,.row 5 .u8] [] [] [.blk 166 Qp,.blk 81 Qq,.no,.row 5 .u8] F (fun x y (s:Int×Zb)=>L46_2 F x.2.1 x.2.2.1 y.1.2.1 s.1 s.2) (fun x y=>(x.2.2.2.1,y.2.2.2.1)) (fun x y (z:Zb)=>((),(((),y.1.2.1,()),(),(),z,())))
theorem lo46_2 (F:Nat):LcOk Tryz.prog (E46 F) 3 (lc46_2 F) (cAt (bodyOf Tryz.f46) [1,1]):=
 mkL_ok (lp:=[]) (id:=0) (b:=cAt (bodyOf Tryz.f46) (0 :: 0 :: [1,1])) cok (cts46 F) mixed trivial (by kernel_rfl) (by kernel_rfl) (fun x y s=>(((),((),())),x.2.1,x.2.2.1,s.1,())) (fun x y s=>(((),y.1.2.1,()),(),(),s.2,())) (fun x y=>rfl) (fun x y=>rfl) (fun x y s kA kO=>L46_2c F x.2.1 x.2.2.1 y.1.2.1 s.1 s.2 kA kO) (fun _ _ _ _ _=>by simp only [L46_2,L46_2c,oA,oC,oS,oN,elimS_l,elimS_r,elimS_bind]) (fun _ _ _=>by kernel_rfl)
def T46c (F:Nat) (p0:List Int) (p1:Int) (p2:List UInt8) {β:Type} (k:Zi->Option β):Option β:=
 (Option.bind (T114 F (p0.length:Int) p1 p2) fun z12=>(Option.bind (iter (fun s=>L46_2 F p0 (p0.length:Int) z12.1 s.1 s.2) F ((0:Int),z12.2)) fun z22=>(k (z12.1,z22))))
def T46 (F:Nat) (p0:List Int) (p1:Int) (p2:List UInt8):=T46c F p0 p1 p2 some
def ct46 (F:Nat):Ct:=mkC 3 [(.pt 0 []),(.ro .i),(.fn 47 .un (.pr (.pt 1 []) .un))] [.blk 166 Qs,.blk 81 Qq,.row 5 .u8] [] [.blk 166 Qp,.blk 81 Qq,.no,.row 5 .u8] (fun x y=>T46 F x.2.1 y.1.2.1 y.2.2.1) (fun x y (z:Int×Zb)=>((),(((),z.1,()),(),(),z.2,())))
theorem ok46 (F:Nat):Sound Tryz.prog cfg 46 (ct46 F):=
 mkC_ok (E:=E46 F) (lp:=[([1,1],lc46_2 F)]) (code:=bodyOf Tryz.f46) Tryz.func46 rfl Tryz.ntmps46 rfl rfl cok (cts46 F) mixed ⟨lo46_2 F,trivial⟩ (by kernel_rfl) (fun x y k=>T46c F x.2.1 y.1.2.1 y.2.2.1 k) (fun _ _ _=>by simp only [T46,T46c,oA,oC,oS,oN,elimS_bind]) (fun _ _=>by kernel_rfl)
def ord45x1:Nat->List (Tag×Nat)
 | _=>[]
def al45x1:Nat->Option Nat
 | _=>none
def ms45x1:Nat->Option (List (Option Tag×Nat×List Nat))
 | _=>none
def E45x1 (F:Nat):Ev:=⟨cfg,16,ctOf [(48,ct48x1 F)],ord45x1,ctOf [],al45x1,ms45x1⟩
theorem cts45x1 (F:Nat):CtsOk Tryz.prog (E45x1 F):=cts_of (l:=[(48,ct48x1 F)]) (l':=[]) rfl rfl ⟨⟨ok48x1 F,_,Tryz.func48,rfl,rfl⟩,trivial⟩ trivial
def L45x1_2c (F:Nat) (y11:List Int) (y12:Int) (y14:Int) (y13:Int) (y15:List UInt8) {β:Type} (kA:(Int×(List UInt8))->Option β) (kO:((List UInt8))->Option β):Option β:=
 (bif (decide (y13 < y12)) then (Option.bind (ix y11 y13) fun x18=>(Option.bind (T48x1 F x18 y14 y15) fun z19=>(kA ((w64 (y13 + (1:Int))),z19)))) else (kO y15))
def L45x1_2 (F:Nat) (y11:List Int) (y12:Int) (y14:Int) (y13:Int) (y15:List UInt8):Option ((Int×(List UInt8)) ⊕ ((List UInt8))):=L45x1_2c F y11 y12 y14 y13 y15 (fun s=>some (.inl s)) (fun z=>some (.inr z))
theorem L45x1_2n (F:Nat) (y11:List Int) (y12:Int) (y14:Int) (y13:Int) (y15:List UInt8) {β:Type} (kA:(Int×(List UInt8))->Option β) (kO:((List UInt8))->Option β):L45x1_2c F y11 y12 y14 y13 y15 kA kO=(L45x1_2 F y11 y12 y14 y13 y15).bind (elimS kA kO):=by
 simp only [L45x1_2,L45x1_2c,Option.bind_assoc,cond_bind,Option.bind_some,Option.bind_none,elimS_l,elimS_r,elimS_bind]
abbrev sA45x1_2:List Sh:=[(.pt 0 []),(.ro .i),.i,.i]
abbrev sAp145x1_2:List Sh:=[]
abbrev sT45x1_2:List TSh:=[.blk 166 (.pr (.rw 1) (.pr .i .un)),.row 5 .u8]
abbrev sTp145x1_2:List TSh:=[.blk 166 (.pr (.rw 1) (.pr .i .un)),.row 5 .u8]
def lc45x1_2 (F:Nat):Lc:=mkL [0,6,7,8] sA45x1_2 sT45x1_2 [] sAp145x1_2 sTp145x1_2 F (fun x y (s:Int×(List UInt8))=>L45x1_2 F x.2.1 x.2.2.1 y.1.2.1 s.1 s.2) (fun x y=>(x.2.2.2.1,y.2.1)) (fun x y (z:(List UInt8))=>((),(((),y.1.2.1,()),z,())))
theorem le45x1_2 (F:Nat) (x:dens sA45x1_2) (y:tdens sT45x1_2) (s:Int×(List UInt8)):sev (E45x1 F) 1 [] (cAt (bodyOf Tryz.f45) (0 :: 0 :: [1])) (0 :: 0 :: [1]) (mkSt [0,6,7,8] sA45x1_2 sT45x1_2 ((),x.2.1,x.2.2.1,s.1,()) (((),y.1.2.1,()),s.2,())) (kLoop 1 [0,6,7,8] sA45x1_2 sT45x1_2 [] sAp145x1_2 sTp145x1_2 [] [] [] 0 (fun x y=>some (.inl (x,y))) (fun x y=>some (.inr (.inl (x,y)))) (fun x y=>some (.inr (.inr (x,y))))) =
  L45x1_2c (β:=Full sA45x1_2 sT45x1_2 sAp145x1_2 sTp145x1_2 [] []) F x.2.1 x.2.2.1 y.1.2.1 s.1 s.2 (fun s=>some (.inl (((),x.2.1,x.2.2.1,s.1,()),(((),y.1.2.1,()),s.2,())))) (fun z=>some (.inr (.inl ((),(((),y.1.2.1,()),z,()))))):=by kernel_rfl
theorem lo45x1_2 (F:Nat):LcOk Tryz.prog (E45x1 F) 1 (lc45x1_2 F) (cAt (bodyOf Tryz.f45) [1]):=
 mkL_ok (lp:=[]) (id:=0) (b:=cAt (bodyOf Tryz.f45) (0 :: 0 :: [1])) cok (cts45x1 F) mixed trivial (by kernel_rfl) (by kernel_rfl) (fun x y s=>((),x.2.1,x.2.2.1,s.1,())) (fun x y s=>(((),y.1.2.1,()),s.2,())) (fun x y=>rfl) (fun x y=>rfl) (fun x y s kA kO=>L45x1_2c F x.2.1 x.2.2.1 y.1.2.1 s.1 s.2 kA kO) (fun x y s kA kO=>L45x1_2n F x.2.1 x.2.2.1 y.1.2.1 s.1 s.2 kA kO) (le45x1_2 F)
def T45x1c (F:Nat) (p0:List Int) (p1:Int) (p2:List UInt8) {β:Type} (k:((List UInt8))->Option β):Option β:=
 (Option.bind (iter (fun s=>L45x1_2 F p0 (p0.length:Int) p1 s.1 s.2) F ((0:Int),p2)) fun z20=>(k z20))
def T45x1 (F:Nat) (p0:List Int) (p1:Int) (p2:List UInt8):Option ((List UInt8)):=T45x1c F p0 p1 p2 some
theorem T45x1n (F:Nat) (p0:List Int) (p1:Int) (p2:List UInt8) {β:Type} (k:((List UInt8))->Option β):T45x1c F p0 p1 p2 k=(T45x1 F p0 p1 p2).bind k:=by
 simp only [T45x1,T45x1c,Option.bind_assoc,cond_bind,Option.bind_some,Option.bind_none,elimS_bind]
abbrev cA45x1:List Sh:=[(.pt 0 []),(.ro .i)]
abbrev cB45x1:List Sh:=[]
abbrev cT45x1:List TSh:=[.blk 166 (.pr (.rw 1) (.pr .i .un)),.row 5 .u8]
abbrev cU45x1:List TSh:=[.blk 166 (.pr (.rw 1) (.pr .i .un)),.row 5 .u8]
def ct45x1 (F:Nat):Ct:=mkC 1 cA45x1 cT45x1 cB45x1 cU45x1 (fun x y=>T45x1 F x.2.1 y.1.2.1 y.2.1) (fun x y (z:(List UInt8))=>((),(((),y.1.2.1,()),z,())))
theorem eq45x1 (F:Nat) (x:dens cA45x1) (y:tdens cT45x1):sev (E45x1 F) 1 [([1],lc45x1_2 F)] (bodyOf Tryz.f45) [] (mkSt (rng 2) cA45x1 cT45x1 x y) (kFn (E45x1 F) 1 Tryz.f45.results.toList cB45x1 cU45x1 fun p q=>some (p,q)) =
  T45x1c F x.2.1 y.1.2.1 y.2.1 (fun z=>some ((),(((),y.1.2.1,()),z,()))):=by kernel_rfl
theorem ok45x1 (F:Nat):Sound Tryz.prog cfg 45 (ct45x1 F):=
 mkC_ok (E:=E45x1 F) (lp:=[([1],lc45x1_2 F)]) (code:=bodyOf Tryz.f45) Tryz.func45 rfl Tryz.ntmps45 rfl rfl cok (cts45x1 F) mixed ⟨lo45x1_2 F,trivial⟩ (by kernel_rfl) (fun x y k=>T45x1c F x.2.1 y.1.2.1 y.2.1 k) (fun x y k=>T45x1n F x.2.1 y.1.2.1 y.2.1 k) (eq45x1 F)
def E57 (F:Nat):Ev:=⟨cfg,24,ctOf [],fun _=>[],ctOf [],fun _=>none,fun _=>none⟩
theorem cts57 (F:Nat):CtsOk Tryz.prog (E57 F):=cts_of (l:=[]) (l':=[]) rfl rfl trivial trivial
def T57c (F:Nat) (p0:List UInt8) (p1:Int) (p2:List UInt8) {β:Type} (k:Zi->Option β):Option β:=
 (bif (p1 != (0:Int)) then (k (p1,p2)) else (bif ((p0.length:Int) != (32:Int)) then (k ((1:Int),p2)) else (Option.bind (gapp p2 p0) fun x2=>(k (p1,x2)))))
def T57 (F:Nat) (p0:List UInt8) (p1:Int) (p2:List UInt8):=T57c F p0 p1 p2 some
def ct57 (F:Nat):Ct:=mkC 1 [(.pt 0 []),.str] [.blk 166 Qn,.row 5 .u8] [] [.blk 166 Qn,.row 5 .u8] (fun x y=>T57 F x.2.1 y.1.2.1 y.2.1) (fun x y (z:Int×Zb)=>((),(((),z.1,()),z.2,())))
theorem ok57 (F:Nat):Sound Tryz.prog cfg 57 (ct57 F):=
 mkC_ok (E:=E57 F) (lp:=[]) (code:=bodyOf Tryz.f57) Tryz.func57 rfl Tryz.ntmps57 rfl rfl cok (cts57 F) mixed trivial (by kernel_rfl) (fun x y k=>T57c F x.2.1 y.1.2.1 y.2.1 k) (fun _ _ _=>by simp only [T57,T57c,oA,oC,oS,oN,elimS_bind]) (fun _ _=>by kernel_rfl)
def E51 (F:Nat):Ev:=⟨cfg,15,ctOf [(57,ct57 F),(45,ct45x1 F)],fun _=>[],ctOf [],fun _=>none,fun _=>none⟩
theorem cts51 (F:Nat):CtsOk Tryz.prog (E51 F):=cts_of (l:=[(57,ct57 F),(45,ct45x1 F)]) (l':=[]) rfl rfl ⟨⟨ok57 F,_,Tryz.func57,rfl,rfl⟩,⟨⟨ok45x1 F,_,Tryz.func45,rfl,rfl⟩,trivial⟩⟩ trivial
def T51c (F:Nat) (p0:List UInt8) (p1:Int) (p2:Int) (p3:Int) (p4:List UInt8) {β:Type} (k:Zi->Option β):Option β:=
 (Option.bind (T57 F p0 p3 p4) fun z3=>(Option.bind (T45x1 F ([p1,p2]:List Int) z3.1 z3.2) fun z4=>(k (z3.1,z4))))
def T51 (F:Nat) (p0:List UInt8) (p1:Int) (p2:Int) (p3:Int) (p4:List UInt8):=T51c F p0 p1 p2 p3 p4 some
def ct51 (F:Nat):Ct:=mkC 2 [(.pt 0 []),(.pr .str (.pr .i (.pr .i .un)))] [.blk 166 Qn,.row 5 .u8] [] [.blk 166 Qs,.no,.row 5 .u8] (fun x y=>T51 F x.2.1.1 x.2.1.2.1 x.2.1.2.2.1 y.1.2.1 y.2.1) (fun x y (z:Int×Zb)=>((),(((),z.1,()),(),z.2,())))
theorem ok51 (F:Nat):Sound Tryz.prog cfg 51 (ct51 F):=
 mkC_ok (E:=E51 F) (lp:=[]) (code:=bodyOf Tryz.f51) Tryz.func51 rfl Tryz.ntmps51 rfl rfl cok (cts51 F) mixed trivial (by kernel_rfl) (fun x y k=>T51c F x.2.1.1 x.2.1.2.1 x.2.1.2.2.1 y.1.2.1 y.2.1 k) (fun _ _ _=>by simp only [T51,T51c,oA,oC,oS,oN,elimS_bind]) (fun _ _=>by kernel_rfl)
def E52 (F:Nat):Ev:=⟨cfg,22,ctOf [(117,ct117 F)],fun _=>[],ctOf [],fun _=>none,fun _=>none⟩
theorem cts52 (F:Nat):CtsOk Tryz.prog (E52 F):=cts_of (l:=[(117,ct117 F)]) (l':=[]) rfl rfl ⟨⟨ok117 F,_,Tryz.func117,rfl,rfl⟩,trivial⟩ trivial
def T52c (F:Nat) (p0:List UInt8) (p1:Int) (p2:List UInt8) {β:Type} (k:(Zb)->Option β):Option β:=
 (bif (p1 == (0:Int)) then (Option.bind (T117 F (UInt64.ofInt (p0.length:Int)) p2) fun z3=>(Option.bind (gapp z3 p0) fun x4=>(k x4))) else (k p2))
def T52 (F:Nat) (p0:List UInt8) (p1:Int) (p2:List UInt8):=T52c F p0 p1 p2 some
def ct52 (F:Nat):Ct:=mkC 1 [(.pt 0 []),.str] [.blk 166 Qn,.row 5 .u8] [] [.blk 166 Qn,.row 5 .u8] (fun x y=>T52 F x.2.1 y.1.2.1 y.2.1) (fun x y (z:Zb)=>((),(((),y.1.2.1,()),z,())))
theorem ok52 (F:Nat):Sound Tryz.prog cfg 52 (ct52 F):=
 mkC_ok (E:=E52 F) (lp:=[]) (code:=bodyOf Tryz.f52) Tryz.func52 rfl Tryz.ntmps52 rfl rfl cok (cts52 F) mixed trivial (by kernel_rfl) (fun x y k=>T52c F x.2.1 y.1.2.1 y.2.1 k) (fun _ _ _=>by simp only [T52,T52c,oA,oC,oS,oN,elimS_bind]) (fun _ _=>by kernel_rfl)
def E53 (F:Nat):Ev:=⟨cfg,9,ctOf [(115,ct115x1 F)],fun _=>[],ctOf [],fun _=>none,fun _=>none⟩
theorem cts53 (F:Nat):CtsOk Tryz.prog (E53 F):=cts_of (l:=[(115,ct115x1 F)]) (l':=[]) rfl rfl ⟨⟨ok115x1 F,_,Tryz.func115,rfl,rfl⟩,trivial⟩ trivial
def T53c (F:Nat) (p0:Bool) (p1:Int) (p2:List UInt8) {β:Type} (k:(Zb)->Option β):Option β:=
 (bif p0 then (Option.bind (T115x1 F (UInt64.ofNat 1) p1 p2) fun z3=>(k z3)) else (Option.bind (T115x1 F (UInt64.ofNat 0) p1 p2) fun z4=>(k z4)))
def T53 (F:Nat) (p0:Bool) (p1:Int) (p2:List UInt8):=T53c F p0 p1 p2 some
def ct53 (F:Nat):Ct:=mkC 2 [(.pt 0 []),.bo] [.blk 166 Qn,.row 5 .u8] [] [.blk 166 Qs,.no,.row 5 .u8] (fun x y=>T53 F x.2.1 y.1.2.1 y.2.1) (fun x y (z:Zb)=>((),(((),y.1.2.1,()),(),z,())))
theorem ok53 (F:Nat):Sound Tryz.prog cfg 53 (ct53 F):=
 mkC_ok (E:=E53 F) (lp:=[]) (code:=bodyOf Tryz.f53) Tryz.func53 rfl Tryz.ntmps53 rfl rfl cok (cts53 F) mixed trivial (by kernel_rfl) (fun x y k=>T53c F x.2.1 y.1.2.1 y.2.1 k) (fun _ _ _=>by simp only [T53,T53c,oA,oC,oS,oN,elimS_bind]) (fun _ _=>by kernel_rfl)
def E50 (F:Nat):Ev:=⟨cfg,31,ctOf [(45,ct45x1 F),(51,ct51 F),(52,ct52 F),(53,ct53 F)],fun _=>[],ctOf [],fun _=>none,fun _=>none⟩
theorem cts50 (F:Nat):CtsOk Tryz.prog (E50 F):=cts_of (l:=[(45,ct45x1 F),(51,ct51 F),(52,ct52 F),(53,ct53 F)]) (l':=[]) rfl rfl ⟨⟨ok45x1 F,_,Tryz.func45,rfl,rfl⟩,⟨⟨ok51 F,_,Tryz.func51,rfl,rfl⟩,⟨⟨ok52 F,_,Tryz.func52,rfl,rfl⟩,⟨⟨ok53 F,_,Tryz.func53,rfl,rfl⟩,trivial⟩⟩⟩⟩ trivial
def T50c (F:Nat) (p0:Int) (p1:Int) (p2:Int) (p3:List UInt8) (p4:Int) (p5:Int) (p6:Int) (p7:Int) (p8:List UInt8) (p9:Bool) (p10:Int) (p11:List UInt8) {β:Type} (k:Zi->Option β):Option β:=
 (Option.bind (T45x1 F ([p0,p1,p2]:List Int) p10 p11) fun z6=>(Option.bind (T51 F p3 p4 p5 p10 z6) fun z7=>(Option.bind (T45x1 F ([p6,p7]:List Int) z7.1 z7.2) fun z8=>(Option.bind (T52 F p8 z7.1 z8) fun z9=>(Option.bind (T53 F p9 z7.1 z9) fun z10=>(k (z7.1,z10)))))))
def T50 (F:Nat) (p0:Int) (p1:Int) (p2:Int) (p3:List UInt8) (p4:Int) (p5:Int) (p6:Int) (p7:Int) (p8:List UInt8) (p9:Bool) (p10:Int) (p11:List UInt8):=T50c F p0 p1 p2 p3 p4 p5 p6 p7 p8 p9 p10 p11 some
def ct50 (F:Nat):Ct:=mkC 3 [(.pr .i (.pr .i (.pr .i (.pr (.pr .str (.pr .i (.pr .i .un))) (.pr .i (.pr .i (.pr .str (.pr .bo .un)))))))),(.pt 0 [])] [.blk 81 Qz,.blk 166 Qs,.row 5 .u8] [] [.blk 81 Qz,.blk 166 Qp,.no,.row 5 .u8] (fun x y=>T50 F x.1.1 x.1.2.1 x.1.2.2.1 x.1.2.2.2.1.1 x.1.2.2.2.1.2.1 x.1.2.2.2.1.2.2.1 x.1.2.2.2.2.1 x.1.2.2.2.2.2.1 x.1.2.2.2.2.2.2.1 x.1.2.2.2.2.2.2.2.1 y.2.1.2.1 y.2.2.1) (fun x y (z:Int×Zb)=>((),((),((),z.1,()),(),z.2,())))
theorem ok50 (F:Nat):Sound Tryz.prog cfg 50 (ct50 F):=
 mkC_ok (E:=E50 F) (lp:=[]) (code:=bodyOf Tryz.f50) Tryz.func50 rfl Tryz.ntmps50 rfl rfl cok (cts50 F) mixed trivial (by kernel_rfl) (fun x y k=>T50c F x.1.1 x.1.2.1 x.1.2.2.1 x.1.2.2.2.1.1 x.1.2.2.2.1.2.1 x.1.2.2.2.1.2.2.1 x.1.2.2.2.2.1 x.1.2.2.2.2.2.1 x.1.2.2.2.2.2.2.1 x.1.2.2.2.2.2.2.2.1 y.2.1.2.1 y.2.2.1 k) (fun _ _ _=>by simp only [T50,T50c,oA,oC,oS,oN,elimS_bind]) (fun _ _=>by kernel_rfl)
def E49 (F:Nat):Ev:=⟨cfg,22,ctOf [(114,ct114 F),(50,ct50 F)],fun _=>[],ctOf [],fun _=>none,fun _=>none⟩
theorem cts49 (F:Nat):CtsOk Tryz.prog (E49 F):=cts_of (l:=[(114,ct114 F),(50,ct50 F)]) (l':=[]) rfl rfl ⟨⟨ok114 F,_,Tryz.func114,rfl,rfl⟩,⟨⟨ok50 F,_,Tryz.func50,rfl,rfl⟩,trivial⟩⟩ trivial
def L49_2c (F:Nat) (y13:List Zc) (y14:Int) (y15:Int) (y16:Int) (y17:List UInt8) {β:Type} (kA:(Int×Int×Zb)->Option β) (kO:Zi->Option β):Option β:=
 (bif (decide (y15 < y14)) then (Option.bind (ix y13 y15) fun x20=>(Option.bind (T50 F x20.1 x20.2.1 x20.2.2.1 x20.2.2.2.1.1 x20.2.2.2.1.2.1 x20.2.2.2.1.2.2.1 x20.2.2.2.2.1 x20.2.2.2.2.2.1 x20.2.2.2.2.2.2.1 x20.2.2.2.2.2.2.2.1 y16 y17) fun z21=>(kA ((w64 (y15 + (1:Int))),z21.1,z21.2)))) else (kO (y16,y17)))
def L49_2 (F:Nat) (y13:List Zc) (y14:Int) (y15:Int) (y16:Int) (y17:List UInt8):=L49_2c F y13 y14 y15 y16 y17 (fun s=>some (Sum.inl s)) (fun z=>some (Sum.inr z))
def lc49_2 (F:Nat):Lc:=mkL [2,12,13,14] [(.fn 50 .un (.pr (.pt 1 []) .un)),(.ro Qb),.i,.i] [.blk 166 Qp,.blk 81 Qq,.no,.row 5 .u8] [] [] [.blk 166 Qp,.blk 81 Qq,.no,.row 5 .u8] F (fun x y (s:Int×Int×Zb)=>L49_2 F x.2.1 x.2.2.1 s.1 s.2.1 s.2.2) (fun x y=>(x.2.2.2.1,y.1.2.1,y.2.2.2.1)) (fun x y (z:Int×Zb)=>((),(((),z.1,()),(),(),z.2,())))
theorem lo49_2 (F:Nat):LcOk Tryz.prog (E49 F) 3 (lc49_2 F) (cAt (bodyOf Tryz.f49) [1,1]):=
 mkL_ok (lp:=[]) (id:=0) (b:=cAt (bodyOf Tryz.f49) (0 :: 0 :: [1,1])) cok (cts49 F) mixed trivial (by kernel_rfl) (by kernel_rfl) (fun x y s=>(((),((),())),x.2.1,x.2.2.1,s.1,())) (fun x y s=>(((),s.2.1,()),(),(),s.2.2,())) (fun x y=>rfl) (fun x y=>rfl) (fun x y s kA kO=>L49_2c F x.2.1 x.2.2.1 s.1 s.2.1 s.2.2 kA kO) (fun _ _ _ _ _=>by simp only [L49_2,L49_2c,oA,oC,oS,oN,elimS_l,elimS_r,elimS_bind]) (fun _ _ _=>by kernel_rfl)
def T49c (F:Nat) (p0:List Zc) (p1:Int) (p2:List UInt8) {β:Type} (k:Zi->Option β):Option β:=
 (Option.bind (T114 F (p0.length:Int) p1 p2) fun z12=>(Option.bind (iter (fun s=>L49_2 F p0 (p0.length:Int) s.1 s.2.1 s.2.2) F ((0:Int),z12.1,z12.2)) fun z22=>(k (z22.1,z22.2))))
def T49 (F:Nat) (p0:List Zc) (p1:Int) (p2:List UInt8):=T49c F p0 p1 p2 some
def ct49 (F:Nat):Ct:=mkC 3 [(.pt 0 []),(.ro Qb),(.fn 50 .un (.pr (.pt 1 []) .un))] [.blk 166 Qs,.blk 81 Qq,.row 5 .u8] [] [.blk 166 Qp,.blk 81 Qq,.no,.row 5 .u8] (fun x y=>T49 F x.2.1 y.1.2.1 y.2.2.1) (fun x y (z:Int×Zb)=>((),(((),z.1,()),(),(),z.2,())))
theorem ok49 (F:Nat):Sound Tryz.prog cfg 49 (ct49 F):=
 mkC_ok (E:=E49 F) (lp:=[([1,1],lc49_2 F)]) (code:=bodyOf Tryz.f49) Tryz.func49 rfl Tryz.ntmps49 rfl rfl cok (cts49 F) mixed ⟨lo49_2 F,trivial⟩ (by kernel_rfl) (fun x y k=>T49c F x.2.1 y.1.2.1 y.2.2.1 k) (fun _ _ _=>by simp only [T49,T49c,oA,oC,oS,oN,elimS_bind]) (fun _ _=>by kernel_rfl)
def E54 (F:Nat):Ev:=⟨cfg,6,ctOf [(51,ct51 F)],fun _=>[],ctOf [],fun _=>none,fun _=>none⟩
theorem cts54 (F:Nat):CtsOk Tryz.prog (E54 F):=cts_of (l:=[(51,ct51 F)]) (l':=[]) rfl rfl ⟨⟨ok51 F,_,Tryz.func51,rfl,rfl⟩,trivial⟩ trivial
def T54c (F:Nat) (p0:List UInt8) (p1:Int) (p2:Int) (p3:Int) (p4:List UInt8) {β:Type} (k:Zi->Option β):Option β:=
 (Option.bind (T51 F p0 p1 p2 p3 p4) fun z2=>(k (z2.1,z2.2)))
def T54 (F:Nat) (p0:List UInt8) (p1:Int) (p2:Int) (p3:Int) (p4:List UInt8):=T54c F p0 p1 p2 p3 p4 some
def ct54 (F:Nat):Ct:=mkC 3 [(.pr .str (.pr .i (.pr .i .un))),(.pt 0 [])] [.blk 81 Qz,.blk 166 Qs,.row 5 .u8] [] [.blk 81 Qz,.blk 166 Qp,.no,.row 5 .u8] (fun x y=>T54 F x.1.1 x.1.2.1 x.1.2.2.1 y.2.1.2.1 y.2.2.1) (fun x y (z:Int×Zb)=>((),((),((),z.1,()),(),z.2,())))
theorem ok54 (F:Nat):Sound Tryz.prog cfg 54 (ct54 F):=
 mkC_ok (E:=E54 F) (lp:=[]) (code:=bodyOf Tryz.f54) Tryz.func54 rfl Tryz.ntmps54 rfl rfl cok (cts54 F) mixed trivial (by kernel_rfl) (fun x y k=>T54c F x.1.1 x.1.2.1 x.1.2.2.1 y.2.1.2.1 y.2.2.1 k) (fun _ _ _=>by simp only [T54,T54c,oA,oC,oS,oN,elimS_bind]) (fun _ _=>by kernel_rfl)
def E58 (F:Nat):Ev:=⟨cfg,22,ctOf [(114,ct114 F),(54,ct54 F)],fun _=>[],ctOf [],fun _=>none,fun _=>none⟩
theorem cts58 (F:Nat):CtsOk Tryz.prog (E58 F):=cts_of (l:=[(114,ct114 F),(54,ct54 F)]) (l':=[]) rfl rfl ⟨⟨ok114 F,_,Tryz.func114,rfl,rfl⟩,⟨⟨ok54 F,_,Tryz.func54,rfl,rfl⟩,trivial⟩⟩ trivial
def L58_2c (F:Nat) (y13:List Za) (y14:Int) (y15:Int) (y16:Int) (y17:List UInt8) {β:Type} (kA:(Int×Int×Zb)->Option β) (kO:Zi->Option β):Option β:=
 (bif (decide (y15 < y14)) then (Option.bind (ix y13 y15) fun x20=>(Option.bind (T54 F x20.1 x20.2.1 x20.2.2.1 y16 y17) fun z21=>(kA ((w64 (y15 + (1:Int))),z21.1,z21.2)))) else (kO (y16,y17)))
def L58_2 (F:Nat) (y13:List Za) (y14:Int) (y15:Int) (y16:Int) (y17:List UInt8):=L58_2c F y13 y14 y15 y16 y17 (fun s=>some (Sum.inl s)) (fun z=>some (Sum.inr z))
def lc58_2 (F:Nat):Lc:=mkL [2,12,13,14] [(.fn 54 .un (.pr (.pt 1 []) .un)),(.ro Qi),.i,.i] [.blk 166 Qp,.blk 81 Qq,.no,.row 5 .u8] [] [] [.blk 166 Qp,.blk 81 Qq,.no,.row 5 .u8] F (fun x y (s:Int×Int×Zb)=>L58_2 F x.2.1 x.2.2.1 s.1 s.2.1 s.2.2) (fun x y=>(x.2.2.2.1,y.1.2.1,y.2.2.2.1)) (fun x y (z:Int×Zb)=>((),(((),z.1,()),(),(),z.2,())))
theorem lo58_2 (F:Nat):LcOk Tryz.prog (E58 F) 3 (lc58_2 F) (cAt (bodyOf Tryz.f58) [1,1]):=
 mkL_ok (lp:=[]) (id:=0) (b:=cAt (bodyOf Tryz.f58) (0 :: 0 :: [1,1])) cok (cts58 F) mixed trivial (by kernel_rfl) (by kernel_rfl) (fun x y s=>(((),((),())),x.2.1,x.2.2.1,s.1,())) (fun x y s=>(((),s.2.1,()),(),(),s.2.2,())) (fun x y=>rfl) (fun x y=>rfl) (fun x y s kA kO=>L58_2c F x.2.1 x.2.2.1 s.1 s.2.1 s.2.2 kA kO) (fun _ _ _ _ _=>by simp only [L58_2,L58_2c,oA,oC,oS,oN,elimS_l,elimS_r,elimS_bind]) (fun _ _ _=>by kernel_rfl)
def T58c (F:Nat) (p0:List Za) (p1:Int) (p2:List UInt8) {β:Type} (k:Zi->Option β):Option β:=
 (Option.bind (T114 F (p0.length:Int) p1 p2) fun z12=>(Option.bind (iter (fun s=>L58_2 F p0 (p0.length:Int) s.1 s.2.1 s.2.2) F ((0:Int),z12.1,z12.2)) fun z22=>(k (z22.1,z22.2))))
def T58 (F:Nat) (p0:List Za) (p1:Int) (p2:List UInt8):=T58c F p0 p1 p2 some
def ct58 (F:Nat):Ct:=mkC 3 [(.pt 0 []),(.ro Qi),(.fn 54 .un (.pr (.pt 1 []) .un))] [.blk 166 Qs,.blk 81 Qq,.row 5 .u8] [] [.blk 166 Qp,.blk 81 Qq,.no,.row 5 .u8] (fun x y=>T58 F x.2.1 y.1.2.1 y.2.2.1) (fun x y (z:Int×Zb)=>((),(((),z.1,()),(),(),z.2,())))
theorem ok58 (F:Nat):Sound Tryz.prog cfg 58 (ct58 F):=
 mkC_ok (E:=E58 F) (lp:=[([1,1],lc58_2 F)]) (code:=bodyOf Tryz.f58) Tryz.func58 rfl Tryz.ntmps58 rfl rfl cok (cts58 F) mixed ⟨lo58_2 F,trivial⟩ (by kernel_rfl) (fun x y k=>T58c F x.2.1 y.1.2.1 y.2.2.1 k) (fun _ _ _=>by simp only [T58,T58c,oA,oC,oS,oN,elimS_bind]) (fun _ _=>by kernel_rfl)
def E56 (F:Nat):Ev:=⟨cfg,24,ctOf [(57,ct57 F),(45,ct45x1 F),(58,ct58 F)],fun _=>[],ctOf [],fun _=>none,fun _=>none⟩
theorem cts56 (F:Nat):CtsOk Tryz.prog (E56 F):=cts_of (l:=[(57,ct57 F),(45,ct45x1 F),(58,ct58 F)]) (l':=[]) rfl rfl ⟨⟨ok57 F,_,Tryz.func57,rfl,rfl⟩,⟨⟨ok45x1 F,_,Tryz.func45,rfl,rfl⟩,⟨⟨ok58 F,_,Tryz.func58,rfl,rfl⟩,trivial⟩⟩⟩ trivial
def T56c (F:Nat) (p0:List UInt8) (p1:Int) (p2:Int) (p3:Int) (p4:Int) (p5:List Za) (p6:Int) (p7:List UInt8) {β:Type} (k:Zi->Option β):Option β:=
 (Option.bind (T57 F p0 p6 p7) fun z4=>(Option.bind (T45x1 F ([p1,p2,p3,p4]:List Int) z4.1 z4.2) fun z5=>(Option.bind (T58 F p5 z4.1 z5) fun z6=>(k (z6.1,z6.2)))))
def T56 (F:Nat) (p0:List UInt8) (p1:Int) (p2:Int) (p3:Int) (p4:Int) (p5:List Za) (p6:Int) (p7:List UInt8):=T56c F p0 p1 p2 p3 p4 p5 p6 p7 some
def ct56 (F:Nat):Ct:=mkC 4 [(.pr .str (.pr .i (.pr .i (.pr .i (.pr .i (.pr (.ro Qi) .un)))))),(.pt 0 []),(.pt 1 [])] [.blk 81 Qw,.blk 95 (.fn 54 .un (.pr (.pt 0 []) .un)),.blk 166 Qp,.row 5 .u8] [] [.blk 81 Qw,.blk 95 (.fn 54 .un (.pr (.pt 0 []) .un)),.blk 166 (.pr (.rw 4) (.pr .i .un)),.no,.row 5 .u8] (fun x y=>T56 F x.1.1 x.1.2.1 x.1.2.2.1 x.1.2.2.2.1 x.1.2.2.2.2.1 x.1.2.2.2.2.2.1 y.2.2.1.2.1 y.2.2.2.1) (fun x y (z:Int×Zb)=>((),((),((),((),())),((),z.1,()),(),z.2,())))
theorem ok56 (F:Nat):Sound Tryz.prog cfg 56 (ct56 F):=
 mkC_ok (E:=E56 F) (lp:=[]) (code:=bodyOf Tryz.f56) Tryz.func56 rfl Tryz.ntmps56 rfl rfl cok (cts56 F) mixed trivial (by kernel_rfl) (fun x y k=>T56c F x.1.1 x.1.2.1 x.1.2.2.1 x.1.2.2.2.1 x.1.2.2.2.2.1 x.1.2.2.2.2.2.1 y.2.2.1.2.1 y.2.2.2.1 k) (fun _ _ _=>by simp only [T56,T56c,oA,oC,oS,oN,elimS_bind]) (fun _ _=>by kernel_rfl)
def E55 (F:Nat):Ev:=⟨cfg,22,ctOf [(114,ct114 F),(56,ct56 F)],fun _=>[],ctOf [],fun _=>none,fun _=>none⟩
theorem cts55 (F:Nat):CtsOk Tryz.prog (E55 F):=cts_of (l:=[(114,ct114 F),(56,ct56 F)]) (l':=[]) rfl rfl ⟨⟨ok114 F,_,Tryz.func114,rfl,rfl⟩,⟨⟨ok56 F,_,Tryz.func56,rfl,rfl⟩,trivial⟩⟩ trivial
def L55_2c (F:Nat) (y13:List Zd) (y14:Int) (y15:Int) (y16:Int) (y17:List UInt8) {β:Type} (kA:(Int×Int×Zb)->Option β) (kO:Zi->Option β):Option β:=
 (bif (decide (y15 < y14)) then (Option.bind (ix y13 y15) fun x20=>(Option.bind (T56 F x20.1 x20.2.1 x20.2.2.1 x20.2.2.2.1 x20.2.2.2.2.1 x20.2.2.2.2.2.1 y16 y17) fun z21=>(kA ((w64 (y15 + (1:Int))),z21.1,z21.2)))) else (kO (y16,y17)))
def L55_2 (F:Nat) (y13:List Zd) (y14:Int) (y15:Int) (y16:Int) (y17:List UInt8):=L55_2c F y13 y14 y15 y16 y17 (fun s=>some (Sum.inl s)) (fun z=>some (Sum.inr z))
def lc55_2 (F:Nat):Lc:=mkL [2,12,13,14] [(.fn 56 .un (.pr (.pt 1 []) (.pr (.pt 2 []) .un))),(.ro Qc),.i,.i] [.blk 166 (.pr (.rw 4) (.pr .i .un)),.blk 81 Qq,.blk 95 (.fn 54 .un (.pr (.pt 1 []) .un)),.no,.row 5 .u8] [] [] [.blk 166 (.pr (.rw 4) (.pr .i .un)),.blk 81 Qq,.blk 95 (.fn 54 .un (.pr (.pt 1 []) .un)),.no,.row 5 .u8] F (fun x y (s:Int×Int×Zb)=>L55_2 F x.2.1 x.2.2.1 s.1 s.2.1 s.2.2) (fun x y=>(x.2.2.2.1,y.1.2.1,y.2.2.2.2.1)) (fun x y (z:Int×Zb)=>((),(((),z.1,()),(),((),((),())),(),z.2,())))
theorem lo55_2 (F:Nat):LcOk Tryz.prog (E55 F) 4 (lc55_2 F) (cAt (bodyOf Tryz.f55) [1,1]):=
 mkL_ok (lp:=[]) (id:=0) (b:=cAt (bodyOf Tryz.f55) (0 :: 0 :: [1,1])) cok (cts55 F) mixed trivial (by kernel_rfl) (by kernel_rfl) (fun x y s=>(((),((),(),())),x.2.1,x.2.2.1,s.1,())) (fun x y s=>(((),s.2.1,()),(),((),((),())),(),s.2.2,())) (fun x y=>rfl) (fun x y=>rfl) (fun x y s kA kO=>L55_2c F x.2.1 x.2.2.1 s.1 s.2.1 s.2.2 kA kO) (fun _ _ _ _ _=>by simp only [L55_2,L55_2c,oA,oC,oS,oN,elimS_l,elimS_r,elimS_bind]) (fun _ _ _=>by kernel_rfl)
def T55c (F:Nat) (p0:List Zd) (p1:Int) (p2:List UInt8) {β:Type} (k:Zi->Option β):Option β:=
 (Option.bind (T114 F (p0.length:Int) p1 p2) fun z12=>(Option.bind (iter (fun s=>L55_2 F p0 (p0.length:Int) s.1 s.2.1 s.2.2) F ((0:Int),z12.1,z12.2)) fun z22=>(k (z22.1,z22.2))))
def T55 (F:Nat) (p0:List Zd) (p1:Int) (p2:List UInt8):=T55c F p0 p1 p2 some
def ct55 (F:Nat):Ct:=mkC 4 [(.pt 0 []),(.ro Qc),(.fn 56 .un (.pr (.pt 1 []) (.pr (.pt 2 []) .un)))] [.blk 166 Qp,.blk 81 Qq,.blk 95 (.fn 54 .un (.pr (.pt 1 []) .un)),.row 5 .u8] [] [.blk 166 (.pr (.rw 4) (.pr .i .un)),.blk 81 Qq,.blk 95 (.fn 54 .un (.pr (.pt 1 []) .un)),.no,.row 5 .u8] (fun x y=>T55 F x.2.1 y.1.2.1 y.2.2.2.1) (fun x y (z:Int×Zb)=>((),(((),z.1,()),(),((),((),())),(),z.2,())))
theorem ok55 (F:Nat):Sound Tryz.prog cfg 55 (ct55 F):=
 mkC_ok (E:=E55 F) (lp:=[([1,1],lc55_2 F)]) (code:=bodyOf Tryz.f55) Tryz.func55 rfl Tryz.ntmps55 rfl rfl cok (cts55 F) mixed ⟨lo55_2 F,trivial⟩ (by kernel_rfl) (fun x y k=>T55c F x.2.1 y.1.2.1 y.2.2.2.1 k) (fun _ _ _=>by simp only [T55,T55c,oA,oC,oS,oN,elimS_bind]) (fun _ _=>by kernel_rfl)
def ord59:Nat->List (Tag×Nat)
 | 2=>[(.p,0),(.p,1),(.p,2),(.r,3),(.p,4),(.p,5)]
 | _=>[]
def E59 (F:Nat):Ev:=⟨cfg,25,ctOf [],ord59,ctOf [],fun _=>none,fun _=>none⟩
theorem cts59 (F:Nat):CtsOk Tryz.prog (E59 F):=cts_of (l:=[]) (l':=[]) rfl rfl trivial trivial
def T59c (F:Nat) (p0:Int) (p1:List UInt8) {β:Type} (k:Zi->Option β):Option β:=
 (bif (p0 != (0:Int)) then (k (p0,([]:List UInt8))) else (bif (decide ((1048576:Int) < (p1.length:Int))) then (k ((2:Int),([]:List UInt8))) else (Option.bind (gapp ([]:List UInt8) p1) fun x2=>(k ((0:Int),x2)))))
def T59 (F:Nat) (p0:Int) (p1:List UInt8):=T59c F p0 p1 some
def ct59 (F:Nat):Ct:=mkC 2 [(.pt 0 [])] [.blk 166 Qn,.row 5 .u8] [(.rw 2),.i] [.blk 166 Qn,.row 5 .u8,.row 5 .u8] (fun x y=>T59 F y.1.2.1 y.2.1) (fun x y (z:Int×Zb)=>(((),z.1,()),(((),y.1.2.1,()),y.2.1,z.2,())))
theorem ok59 (F:Nat):Sound Tryz.prog cfg 59 (ct59 F):=
 mkC_ok (E:=E59 F) (lp:=[]) (code:=bodyOf Tryz.f59) Tryz.func59 rfl Tryz.ntmps59 rfl rfl cok (cts59 F) mixed trivial (by kernel_rfl) (fun x y k=>T59c F y.1.2.1 y.2.1 k) (fun _ _ _=>by simp only [T59,T59c,oA,oC,oS,oN,elimS_bind]) (fun _ _=>by kernel_rfl)
def E19 (F:Nat):Ev:=⟨cfg,53,ctOf [(43,ct43 F),(44,ct44 F),(45,ct45 F),(46,ct46 F),(49,ct49 F),(55,ct55 F),(58,ct58 F),(59,ct59 F)],fun _=>[],ctOf [],fun _=>none,fun _=>none⟩
theorem cts19 (F:Nat):CtsOk Tryz.prog (E19 F):=cts_of (l:=[(43,ct43 F),(44,ct44 F),(45,ct45 F),(46,ct46 F),(49,ct49 F),(55,ct55 F),(58,ct58 F),(59,ct59 F)]) (l':=[]) rfl rfl ⟨⟨ok43 F,_,Tryz.func43,rfl,rfl⟩,⟨⟨ok44 F,_,Tryz.func44,rfl,rfl⟩,⟨⟨ok45 F,_,Tryz.func45,rfl,rfl⟩,⟨⟨ok46 F,_,Tryz.func46,rfl,rfl⟩,⟨⟨ok49 F,_,Tryz.func49,rfl,rfl⟩,⟨⟨ok55 F,_,Tryz.func55,rfl,rfl⟩,⟨⟨ok58 F,_,Tryz.func58,rfl,rfl⟩,⟨⟨ok59 F,_,Tryz.func59,rfl,rfl⟩,trivial⟩⟩⟩⟩⟩⟩⟩⟩ trivial
def T19c (F:Nat) (p0:Int) (p1:Int) (p2:List Int) (p3:List Zc) (p4:List Zd) (p5:List Za) {β:Type} (k:Zi->Option β):Option β:=
 (Option.bind (T43 F p0 p1 p2 p3 p4 p5) fun z9=>(bif (!z9) then (k ((1:Int),([]:List UInt8))) else (Option.bind (T44 F) fun z10=>(Option.bind (T45 F ([p0,p1]:List Int) z10) fun z11=>(Option.bind (T46 F p2 z10 z11) fun z12=>(Option.bind (T49 F p3 z12.1 z12.2) fun z13=>(Option.bind (T55 F p4 z13.1 z13.2) fun z14=>(Option.bind (T58 F p5 z14.1 z14.2) fun z15=>(Option.bind (T59 F z15.1 z15.2) fun z16=>(bif (z16.1 != (0:Int)) then (k ((2:Int),([]:List UInt8))) else (bif (decide ((1048560:Int) < (z16.2.length:Int))) then (k ((2:Int),([]:List UInt8))) else (k ((0:Int),z16.2)))))))))))))
def T19 (F:Nat) (p0:Int) (p1:Int) (p2:List Int) (p3:List Zc) (p4:List Zd) (p5:List Za):=T19c F p0 p1 p2 p3 p4 p5 some
def ct19 (F:Nat):Ct:=mkC 0 [(.pr .i (.pr .i (.pr (.ro .i) (.pr (.ro Qb) (.pr (.ro Qc) (.pr (.ro Qi) .un))))))] [] [(.rw 0),.i] [.row 5 .u8] (fun x y=>T19 F x.1.1 x.1.2.1 x.1.2.2.1 x.1.2.2.2.1 x.1.2.2.2.2.1 x.1.2.2.2.2.2.1) (fun x y (z:Int×Zb)=>(((),z.1,()),(z.2,())))
theorem ok19 (F:Nat):Sound Tryz.prog cfg 19 (ct19 F):=
 mkC_ok (E:=E19 F) (lp:=[]) (code:=bodyOf Tryz.f19) Tryz.func19 rfl Tryz.ntmps19 rfl rfl cok (cts19 F) mixed trivial (by kernel_rfl) (fun x y k=>T19c F x.1.1 x.1.2.1 x.1.2.2.1 x.1.2.2.2.1 x.1.2.2.2.2.1 x.1.2.2.2.2.2.1 k) (fun _ _ _=>by simp only [T19,T19c,oA,oC,oS,oN,elimS_bind]) (fun _ _=>by kernel_rfl)
def E26 (F:Nat):Ev:=⟨cfg,16,ctOf [],fun _=>[],ctOf [],fun _=>none,fun _=>none⟩
theorem cts26 (F:Nat):CtsOk Tryz.prog (E26 F):=cts_of (l:=[]) (l':=[]) rfl rfl trivial trivial
def L26_2c (F:Nat) (y4:Int) (y5:Int) {β:Type} (kA:Int->Option β) (kO:Int->Option β):Option β:=
 (bif (decide (y5 < (w64 (y4 + (10:Int))))) then (kA (w64 (y5 * (2:Int)))) else (kO y5))
def L26_2 (F:Nat) (y4:Int) (y5:Int):=L26_2c F y4 y5 (fun s=>some (Sum.inl s)) (fun z=>some (Sum.inr z))
def lc26_2 (F:Nat):Lc:=mkL [0,4] [.i,.i] [] [4] [.i] [] F (fun x y (s:Int)=>L26_2 F x.1 s) (fun x y=>x.2.1) (fun x y (z:Int)=>((z,()),()))
theorem lo26_2 (F:Nat):LcOk Tryz.prog (E26 F) 0 (lc26_2 F) (cAt (bodyOf Tryz.f26) [0,1,1,1,1]):=
 mkL_ok (lp:=[]) (id:=0) (b:=cAt (bodyOf Tryz.f26) (0 :: 0 :: [0,1,1,1,1])) cok (cts26 F) mixed trivial (by kernel_rfl) (by kernel_rfl) (fun x y s=>(x.1,s,())) (fun x y s=>()) (fun x y=>rfl) (fun x y=>rfl) (fun x y s kA kO=>L26_2c F x.1 s kA kO) (fun _ _ _ _ _=>by simp only [L26_2,L26_2c,oA,oC,oS,oN,elimS_l,elimS_r,elimS_bind]) (fun _ _ _=>by kernel_rfl)
def T26c (F:Nat) (p0:Int) {β:Type} (k:(Int×Int)->Option β):Option β:=
 (bif (decide (p0 < (0:Int))) then (k ((0:Int),(1:Int))) else (bif (decide ((1048560:Int) < p0)) then (k ((0:Int),(2:Int))) else (Option.bind (iter (fun s=>L26_2 F p0 s) F (1024:Int)) fun z6=>(k (z6,(0:Int))))))
def T26 (F:Nat) (p0:Int):=T26c F p0 some
def ct26 (F:Nat):Ct:=mkC 0 [.i] [] [.i,.i] [] (fun x y=>T26 F x.1) (fun x y (z:Int×Int)=>((z.1,z.2,()),()))
theorem ok26 (F:Nat):Sound Tryz.prog cfg 26 (ct26 F):=
 mkC_ok (E:=E26 F) (lp:=[([0,1,1,1,1],lc26_2 F)]) (code:=bodyOf Tryz.f26) Tryz.func26 rfl Tryz.ntmps26 rfl rfl cok (cts26 F) mixed ⟨lo26_2 F,trivial⟩ (by kernel_rfl) (fun x y k=>T26c F x.1 k) (fun _ _ _=>by simp only [T26,T26c,oA,oC,oS,oN,elimS_bind]) (fun _ _=>by kernel_rfl)
def ord10:Nat->List (Tag×Nat)
 | 2=>[]
 | 5=>[(.p,0),(.p,1),(.p,2),(.p,3),(.r,4),(.p,5),(.r,6),(.p,7),(.p,8),(.p,9),(.p,10),(.r,11),(.p,12),(.p,13),(.p,14),(.p,15),(.p,16),(.p,17),(.p,18),(.p,19),(.p,20),(.p,21),(.p,22),(.p,23),(.p,24),(.p,25),(.p,26),(.p,27),(.r,28),(.p,29),(.p,30),(.p,31),(.p,32),(.p,33),(.p,34),(.c,35),(.c,36),(.w,37),(.p,38),(.p,39),(.p,40),(.p,41),(.p,42),(.p,43),(.p,44),(.p,45),(.p,46),(.p,47),(.p,48),(.p,49),(.p,50),(.p,51),(.p,52),(.p,53),(.p,54),(.p,55),(.p,56),(.p,57)]
 | _=>[]
def ms10:Nat->Option (List (Option Tag×Nat×List Nat))
 | 2=>some [(some .w,0,[1,2]),(none,1,[2]),(none,2,[]),(some .w,3,[]),(some .p,4,[]),(some .p,5,[]),(some .p,6,[]),(some .p,7,[]),(some .p,8,[])]
 | _=>none
def E10 (F:Nat):Ev:=⟨cfg,87,ctOf [(13,ct13 F),(12,ct12 F),(27,ct27 F),(19,ct19 F),(26,ct26 F)],ord10,ctOf [],fun _=>none,ms10⟩
theorem cts10 (F:Nat):CtsOk Tryz.prog (E10 F):=cts_of (l:=[(13,ct13 F),(12,ct12 F),(27,ct27 F),(19,ct19 F),(26,ct26 F)]) (l':=[]) rfl rfl ⟨⟨ok13 F,_,Tryz.func13,rfl,rfl⟩,⟨⟨ok12 F,_,Tryz.func12,rfl,rfl⟩,⟨⟨ok27 F,_,Tryz.func27,rfl,rfl⟩,⟨⟨ok19 F,_,Tryz.func19,rfl,rfl⟩,⟨⟨ok26 F,_,Tryz.func26,rfl,rfl⟩,trivial⟩⟩⟩⟩⟩ trivial
def T10c (F:Nat) {β:Type} (k:Bool->Option β):Option β:=
 (Option.bind (T13 F (UInt8.ofNat 1)) fun z12=>(Option.bind (T12 F z12) fun z13=>(Option.bind (T13 F (UInt8.ofNat 1)) fun z14=>(Option.bind (T27 F z14 (2:Int) ([(0:Int),(3:Int),(5:Int)]:List Int) (List.replicate 32 (0:UInt8))) fun z15=>(Option.bind (T19 F (0:Int) (0:Int) ([]:List Int) ([]:List Zc) ([]:List Zd) ([]:List Za)) fun z16=>(Option.bind (T26 F (1015:Int)) fun z17=>(bif (z13.2.2.2.2.2 == (0:Int)) then (bif (z13.1 != z13.2.1) then (bif ((z13.2.2.2.2.1.length:Int) == (32:Int)) then (bif (z15.1 == (0:Int)) then (bif ((z15.2.length:Int) == (3:Int)) then (Option.bind (inb z15.2.length (1:Int)) fun x18=>(Option.bind (z15.2[x18]?) fun x19=>(bif (x19.1 == (4:Int)) then (Option.bind (inb z15.2.length (1:Int)) fun x20=>(Option.bind (z15.2[x20]?) fun x21=>(Option.bind (T13 F (UInt8.ofNat 1)) fun z22=>(bif (x21.2.1 == z22) then (bif (z16.1 == (0:Int)) then (bif ((z16.2.length:Int) == (6:Int)) then (bif (z17.1 == (2048:Int)) then (k (z17.2 == (0:Int))) else (k false)) else (k false)) else (k false)) else (k false))))) else (k false)))) else (k false)) else (k false)) else (k false)) else (k false)) else (k false))))))))
def T10 (F:Nat):=T10c F some
def ct10 (F:Nat):Ct:=mkC 0 [] [] [.bo] [] (fun x y=>T10 F) (fun x y (z:Bool)=>((z,()),()))
theorem ok10 (F:Nat):Sound Tryz.prog cfg 10 (ct10 F):=
 mkC_ok (E:=E10 F) (lp:=[]) (code:=bodyOf Tryz.f10) Tryz.func10 rfl Tryz.ntmps10 rfl rfl cok (cts10 F) mixed trivial (by kernel_rfl) (fun x y k=>T10c F k) (fun _ _ _=>by simp only [T10,T10c,oA,oC,oS,oN,elimS_bind]) (fun _ _=>by kernel_rfl)
def E29 (F:Nat):Ev:=⟨cfg,25,ctOf [],fun _=>[],ctOf [],fun _=>none,fun _=>none⟩
theorem cts29 (F:Nat):CtsOk Tryz.prog (E29 F):=cts_of (l:=[]) (l':=[]) rfl rfl trivial trivial
def L29_2c (F:Nat) (y9:Int) (y11:List Zb) (y10:Int) {β:Type} (kA:Int->Option β) (kO:Unit->Option β) (kR:Bool->Option β):Option β:=
 (bif (decide (y10 < y9)) then (Option.bind (inb y11.length y10) fun x14=>(Option.bind (y11[x14]?) fun x15=>(bif ((x15.length:Int) != (32:Int)) then (kR false) else (kA (w64 (y10 + (1:Int))))))) else (kO ()))
def L29_2 (F:Nat) (y9:Int) (y11:List Zb) (y10:Int):Option ((Int) ⊕ ((Unit) ⊕ (Bool))):=L29_2c F y9 y11 y10 (fun s=>some (.inl s)) (fun z=>some (.inr (.inl z))) (fun z=>some (.inr (.inr z)))
theorem L29_2n (F:Nat) (y9:Int) (y11:List Zb) (y10:Int) {β:Type} (kA:Int->Option β) (kO:Unit->Option β) (kR:Bool->Option β):L29_2c F y9 y11 y10 kA kO kR=(L29_2 F y9 y11 y10).bind (elimS kA (elimS kO kR)):=by
 simp only [L29_2,L29_2c,oA,oC,oS,oN,elimS_l,elimS_r,elimS_bind]
def lc29_2 (F:Nat):Lc:=mkR [15,16,17] [(.rw 0),.i,.i] [.row 9 .s] [] [] [] [2] [.bo] [] F (fun x y (s:Int)=>L29_2 F x.2.1 y.1 s) (fun x y=>x.2.2.1) (fun x y (z:Unit)=>((),())) (fun x y (z:Bool)=>((z,()),()))
theorem lo29_2 (F:Nat):LcOk Tryz.prog (E29 F) 0 (lc29_2 F) (cAt (bodyOf Tryz.f29) [1,0,1]):=
 mkR_ok (lp:=[]) (id:=0) (b:=cAt (bodyOf Tryz.f29) (0 :: 0 :: [1,0,1])) cok (cts29 F) mixed trivial (by kernel_rfl) (by kernel_rfl) (fun x y s=>((),x.2.1,s,())) (fun x y s=>(y.1,())) (fun x y=>rfl) (fun x y=>rfl) (fun x y s kA kO kR=>L29_2c F x.2.1 y.1 s kA kO kR) (fun x y s kA kO kR=>L29_2n F x.2.1 y.1 s kA kO kR) (fun _ _ _=>by kernel_rfl)
def T29c (F:Nat) (p0:List UInt8) (p1:List UInt8) (p2:List UInt8) (p3:List UInt8) (p4:List UInt8) {β:Type} (k:Bool->Option β):Option β:=
 (Option.bind (iter (fun s=>L29_2 F (([p0,p1,p2,p3,p4]:List Zb).length:Int) ([p0,p1,p2,p3,p4]:List Zb) s) F (0:Int)) fun z16=>elimS (fun z16=>(k true)) (fun z16=>(k z16)) z16)
def T29 (F:Nat) (p0:List UInt8) (p1:List UInt8) (p2:List UInt8) (p3:List UInt8) (p4:List UInt8):=T29c F p0 p1 p2 p3 p4 some
def ct29 (F:Nat):Ct:=mkC 0 [(.pr .str (.pr .str (.pr .str (.pr .str (.pr .str .un)))))] [] [.bo] [] (fun x y=>T29 F x.1.1 x.1.2.1 x.1.2.2.1 x.1.2.2.2.1 x.1.2.2.2.2.1) (fun x y (z:Bool)=>((z,()),()))
theorem ok29 (F:Nat):Sound Tryz.prog cfg 29 (ct29 F):=
 mkC_ok (E:=E29 F) (lp:=[([1,0,1],lc29_2 F)]) (code:=bodyOf Tryz.f29) Tryz.func29 rfl Tryz.ntmps29 rfl rfl cok (cts29 F) mixed ⟨lo29_2 F,trivial⟩ (by kernel_rfl) (fun x y k=>T29c F x.1.1 x.1.2.1 x.1.2.2.1 x.1.2.2.2.1 x.1.2.2.2.2.1 k) (fun _ _ _=>by simp only [T29,T29c,oA,oC,oS,oN,elimS_bind]) (fun _ _=>by kernel_rfl)
def E143 (F:Nat):Ev:=⟨cfg,13,ctOf [],fun _=>[],ctOf [],fun _=>none,fun _=>none⟩
theorem cts143 (F:Nat):CtsOk Tryz.prog (E143 F):=cts_of (l:=[]) (l':=[]) rfl rfl trivial trivial
def T143c (F:Nat) (p0:List UInt8) (p1:List UInt8) {β:Type} (k:Bool->Option β):Option β:=
 (bif ((p0.length:Int) == (32:Int)) then (k ((p1.length:Int) == (12:Int))) else (k false))
def T143 (F:Nat) (p0:List UInt8) (p1:List UInt8):=T143c F p0 p1 some
def ct143 (F:Nat):Ct:=mkC 0 [.str,.str] [] [.bo] [] (fun x y=>T143 F x.1 x.2.1) (fun x y (z:Bool)=>((z,()),()))
theorem ok143 (F:Nat):Sound Tryz.prog cfg 143 (ct143 F):=
 mkC_ok (E:=E143 F) (lp:=[]) (code:=bodyOf Tryz.f143) Tryz.func143 rfl Tryz.ntmps143 rfl rfl cok (cts143 F) mixed trivial (by kernel_rfl) (fun x y k=>T143c F x.1 x.2.1 k) (fun _ _ _=>by simp only [T143,T143c,oA,oC,oS,oN,elimS_bind]) (fun _ _=>by kernel_rfl)
def ord178:Nat->List (Tag×Nat)
 | 1=>[(.p,0),(.p,1),(.p,2),(.p,3),(.p,4),(.p,5),(.p,6),(.p,7),(.p,8),(.p,9),(.p,10),(.p,11),(.p,12),(.p,13),(.p,14),(.p,15),(.p,16),(.p,17),(.p,18),(.p,19),(.p,20),(.p,21),(.p,22),(.p,23),(.p,24),(.p,25)]
 | _=>[]
def E178 (F:Nat):Ev:=⟨cfg,30,ctOf [],ord178,ctOf [],fun _=>none,fun _=>none⟩
theorem cts178 (F:Nat):CtsOk Tryz.prog (E178 F):=cts_of (l:=[]) (l':=[]) rfl rfl trivial trivial
def T178c (F:Nat) (p0:List UInt8) (p1:Int) {β:Type} (k:UInt32->Option β):Option β:=
 (Option.bind (ix p0 p1) fun x5=>(Option.bind (ix p0 (w64 (p1 + (1:Int)))) fun x6=>(Option.bind (ix p0 (w64 (p1 + (2:Int)))) fun x7=>(Option.bind (ix p0 (w64 (p1 + (3:Int)))) fun x8=>(k ((((x5.toUInt32) ||| (shl32 (x6.toUInt32) ((UInt64.ofNat 8).toNat))) ||| (shl32 (x7.toUInt32) ((UInt64.ofNat 16).toNat))) ||| (shl32 (x8.toUInt32) ((UInt64.ofNat 24).toNat))))))))
def T178 (F:Nat) (p0:List UInt8) (p1:Int):=T178c F p0 p1 some
def ct178 (F:Nat):Ct:=mkC 0 [.str,.i] [] [.u32] [] (fun x y=>T178 F x.1 x.2.1) (fun x y (z:UInt32)=>((z,()),()))
theorem ok178 (F:Nat):Sound Tryz.prog cfg 178 (ct178 F):=
 mkC_ok (E:=E178 F) (lp:=[]) (code:=bodyOf Tryz.f178) Tryz.func178 rfl Tryz.ntmps178 rfl rfl cok (cts178 F) mixed trivial (by kernel_rfl) (fun x y k=>T178c F x.1 x.2.1 k) (fun _ _ _=>by simp only [T178,T178c,oA,oC,oS,oN,elimS_bind]) (fun _ _=>by kernel_rfl)
def E179 (F:Nat):Ev:=⟨cfg,44,ctOf [(201,ct201 F)],fun _=>[],ctOf [],fun _=>none,fun _=>none⟩
theorem cts179 (F:Nat):CtsOk Tryz.prog (E179 F):=cts_of (l:=[(201,ct201 F)]) (l':=[]) rfl rfl ⟨⟨ok201 F,_,Tryz.func201,rfl,rfl⟩,trivial⟩ trivial
def T179c (F:Nat) (p0:UInt32) (p1:UInt32) (p2:UInt32) (p3:UInt32) {β:Type} (k:(UInt32×UInt32×UInt32×UInt32)->Option β):Option β:=
 (Option.bind (T201 F (p3 ^^^ (p0 + p1)) (16:Int)) fun z5=>(Option.bind (T201 F (p1 ^^^ (p2 + z5)) (12:Int)) fun z6=>(Option.bind (T201 F (z5 ^^^ ((p0 + p1) + z6)) (8:Int)) fun z7=>(Option.bind (T201 F (z6 ^^^ ((p2 + z5) + z7)) (7:Int)) fun z8=>(k (((p0 + p1) + z6),z8,((p2 + z5) + z7),z7))))))
def T179 (F:Nat) (p0:UInt32) (p1:UInt32) (p2:UInt32) (p3:UInt32):=T179c F p0 p1 p2 p3 some
def ct179 (F:Nat):Ct:=mkC 0 [.u32,.u32,.u32,.u32] [] [.u32,.u32,.u32,.u32] [] (fun x y=>T179 F x.1 x.2.1 x.2.2.1 x.2.2.2.1) (fun x y (z:UInt32×UInt32×UInt32×UInt32)=>((z.1,z.2.1,z.2.2.1,z.2.2.2,()),()))
theorem ok179 (F:Nat):Sound Tryz.prog cfg 179 (ct179 F):=
 mkC_ok (E:=E179 F) (lp:=[]) (code:=bodyOf Tryz.f179) Tryz.func179 rfl Tryz.ntmps179 rfl rfl cok (cts179 F) mixed trivial (by kernel_rfl) (fun x y k=>T179c F x.1 x.2.1 x.2.2.1 x.2.2.2.1 k) (fun _ _ _=>by simp only [T179,T179c,oA,oC,oS,oN,elimS_bind]) (fun _ _=>by kernel_rfl)
def ord144:Nat->List (Tag×Nat)
 | 22=>[(.p,0),(.c,1),(.p,2),(.c,3),(.p,4),(.c,5),(.p,6),(.c,7),(.p,8),(.r,9),(.p,10),(.r,11),(.p,12),(.r,13),(.p,14),(.r,15),(.p,16),(.r,17),(.p,18),(.r,19),(.p,20),(.r,21),(.p,22),(.r,23),(.w,24),(.p,25),(.p,26),(.p,27),(.p,28),(.p,29),(.p,30),(.w,31),(.p,32),(.w,33),(.p,34),(.w,35),(.p,36),(.b,37)]
 | _=>[]
def E144 (F:Nat):Ev:=⟨cfg,126,ctOf [(143,ct143 F),(178,ct178 F),(179,ct179 F)],ord144,ctOf [],fun _=>none,fun _=>none⟩
theorem cts144 (F:Nat):CtsOk Tryz.prog (E144 F):=cts_of (l:=[(143,ct143 F),(178,ct178 F),(179,ct179 F)]) (l':=[]) rfl rfl ⟨⟨ok143 F,_,Tryz.func143,rfl,rfl⟩,⟨⟨ok178 F,_,Tryz.func178,rfl,rfl⟩,⟨⟨ok179 F,_,Tryz.func179,rfl,rfl⟩,trivial⟩⟩⟩ trivial
def L144_7c (F:Nat) (y100:List UInt8) (y103:Int) (y104:Vector UInt32 16) {β:Type} (kA:(Int×Zg)->Option β) (kO:(Zg)->Option β):Option β:=
 (bif (decide (y103 < (8:Int))) then (Option.bind (T178 F y100 (w64 ((4:Int) * y103))) fun z107=>(Option.bind (inb 16 (w64 ((4:Int) + y103))) fun x108=>(kA ((w64 (y103 + (1:Int))),(Vector.setIfInBounds y104 x108 z107))))) else (kO y104))
def L144_7 (F:Nat) (y100:List UInt8) (y103:Int) (y104:Vector UInt32 16):=L144_7c F y100 y103 y104 (fun s=>some (Sum.inl s)) (fun z=>some (Sum.inr z))
def lc144_7 (F:Nat):Lc:=mkL [0,1,2,8,23] [.str,.str,.u32,(.pt 0 []),.i] [.blk 195 Ql] [1,2,8] [.str,.u32,(.pt 0 [])] [.blk 195 Ql] F (fun x y (s:Int×Zg)=>L144_7 F x.1 s.1 s.2) (fun x y=>(x.2.2.2.2.1,y.1)) (fun x y (z:Zg)=>((x.2.1,x.2.2.1,(),()),(z,())))
theorem lo144_7 (F:Nat):LcOk Tryz.prog (E144 F) 0 (lc144_7 F) (cAt (bodyOf Tryz.f144) [1,0,1,1,1]):=
 mkL_ok (lp:=[]) (id:=0) (b:=cAt (bodyOf Tryz.f144) (0 :: 0 :: [1,0,1,1,1])) cok (cts144 F) mixed trivial (by kernel_rfl) (by kernel_rfl) (fun x y s=>(x.1,x.2.1,x.2.2.1,(),s.1,())) (fun x y s=>(s.2,())) (fun x y=>rfl) (fun x y=>rfl) (fun x y s kA kO=>L144_7c F x.1 s.1 s.2 kA kO) (fun _ _ _ _ _=>by simp only [L144_7,L144_7c,oA,oC,oS,oN,elimS_l,elimS_r,elimS_bind]) (fun _ _ _=>by kernel_rfl)
def L144_8c (F:Nat) (y110:List UInt8) (y111:Int) (y112:Vector UInt32 16) {β:Type} (kA:(Int×Zg)->Option β) (kO:(Zg)->Option β):Option β:=
 (bif (decide (y111 < (3:Int))) then (Option.bind (T178 F y110 (w64 ((4:Int) * y111))) fun z115=>(Option.bind (inb 16 (w64 ((13:Int) + y111))) fun x116=>(kA ((w64 (y111 + (1:Int))),(Vector.setIfInBounds y112 x116 z115))))) else (kO y112))
def L144_8 (F:Nat) (y110:List UInt8) (y111:Int) (y112:Vector UInt32 16):=L144_8c F y110 y111 y112 (fun s=>some (Sum.inl s)) (fun z=>some (Sum.inr z))
def lc144_8 (F:Nat):Lc:=mkL [1,8,36] [.str,(.pt 0 []),.i] [.blk 195 Ql] [8] [(.pt 0 [])] [.blk 195 Ql] F (fun x y (s:Int×Zg)=>L144_8 F x.1 s.1 s.2) (fun x y=>(x.2.2.1,y.1)) (fun x y (z:Zg)=>(((),()),(z,())))
theorem lo144_8 (F:Nat):LcOk Tryz.prog (E144 F) 0 (lc144_8 F) (cAt (bodyOf Tryz.f144) [1,0,1,1,1,1,1]):=
 mkL_ok (lp:=[]) (id:=2) (b:=cAt (bodyOf Tryz.f144) (0 :: 0 :: [1,0,1,1,1,1,1])) cok (cts144 F) mixed trivial (by kernel_rfl) (by kernel_rfl) (fun x y s=>(x.1,(),s.1,())) (fun x y s=>(s.2,())) (fun x y=>rfl) (fun x y=>rfl) (fun x y s kA kO=>L144_8c F x.1 s.1 s.2 kA kO) (fun _ _ _ _ _=>by simp only [L144_8,L144_8c,oA,oC,oS,oN,elimS_l,elimS_r,elimS_bind]) (fun _ _ _=>by kernel_rfl)
def L144_11c (F:Nat) (y131:Vector Zm 8) (y132:Int) (y134:Vector UInt32 16) {β:Type} (kO:(Int×Zg)->Option β):Option β:=
 (Option.bind (vix y131 y132) fun x158=>(Option.bind (vat x158 0) fun x159=>(Option.bind (vat x158 1) fun x160=>(Option.bind (vat x158 2) fun x161=>(Option.bind (vat x158 3) fun x162=>(Option.bind (vat x158 0) fun x163=>(Option.bind (inb 16 x163) fun x164=>(Option.bind (vat y134 x164) fun x165=>(Option.bind (vat x158 1) fun x166=>(Option.bind (inb 16 x166) fun x167=>(Option.bind (vat y134 x167) fun x168=>(Option.bind (vat x158 2) fun x169=>(Option.bind (inb 16 x169) fun x170=>(Option.bind (vat y134 x170) fun x171=>(Option.bind (vat x158 3) fun x172=>(Option.bind (inb 16 x172) fun x173=>(Option.bind (vat y134 x173) fun x174=>(Option.bind (T179 F x165 x168 x171 x174) fun z175=>(Option.bind (inb 16 x159) fun x176=>(Option.bind (inb 16 x160) fun x177=>(Option.bind (inb 16 x161) fun x178=>(Option.bind (inb 16 x162) fun x179=>(kO ((w64 (y132 + (1:Int))),(Vector.setIfInBounds (Vector.setIfInBounds (Vector.setIfInBounds (Vector.setIfInBounds y134 x176 z175.1) x177 z175.2.1) x178 z175.2.2.1) x179 z175.2.2.2)))))))))))))))))))))))))
def L144_11 (F:Nat) (y131:Vector Zm 8) (y132:Int) (y134:Vector UInt32 16):Option (Int×Zg):=L144_11c F y131 y132 y134 (fun z=>some z)
theorem L144_11n (F:Nat) (y131:Vector Zm 8) (y132:Int) (y134:Vector UInt32 16) {β:Type} (kO:(Int×Zg)->Option β):L144_11c F y131 y132 y134 kO=(L144_11 F y131 y132 y134).bind (kO):=by
 simp only [L144_11,L144_11c,oA,oC,oS,oN,elimS_l,elimS_r,elimS_bind]
def lc144_11 (F:Nat):Lc:=mkJ [8,11,12,57,59,60] [(.pt 0 []),(.pt 1 []),(.pt 2 []),.i,(.ar 8 (.ar 4 .i)),.i] [.blk 195 Ql,.blk 195 Ql,.blk 198 Qv] [8,11,12,57,59,60] [(.pt 0 []),(.pt 1 []),(.pt 2 []),.i,(.ar 8 (.ar 4 .i)),.i] [.blk 195 Ql,.blk 195 Ql,.blk 198 Qv] (fun x y=>L144_11 F x.2.2.2.2.1 x.2.2.2.2.2.1 y.2.1) (fun x y (z:Int×Zg)=>(((),(),(),x.2.2.2.1,x.2.2.2.2.1,z.1,()),(y.1,z.2,y.2.2.1,())))
theorem lo144_11 (F:Nat):LcOk Tryz.prog (E144 F) 0 (lc144_11 F) (cAt (bodyOf Tryz.f144) [1,1,0,0,1,0,0,1,1,0,0,1,0,1,1,1,1,1,1,1,1]):=
 mkJ_ok (lp:=[]) cok (cts144 F) mixed trivial (by kernel_rfl) (fun x y kO=>L144_11c F x.2.2.2.2.1 x.2.2.2.2.2.1 y.2.1 kO) (fun x y kO=>L144_11n F x.2.2.2.2.1 x.2.2.2.2.2.1 y.2.1 kO) (fun _ _=>by kernel_rfl)
def L144_10c (F:Nat) (y124:Vector Zm 8) (y125:Int) (y127:Vector UInt32 16) {β:Type} (kA:(Int×Zg)->Option β) (kO:(Zg)->Option β):Option β:=
 (bif (decide (y125 < (8:Int))) then (Option.bind (L144_11 F y124 y125 y127) fun z180=>(kA (z180.1,z180.2))) else (kO y127))
def L144_10 (F:Nat) (y124:Vector Zm 8) (y125:Int) (y127:Vector UInt32 16):=L144_10c F y124 y125 y127 (fun s=>some (Sum.inl s)) (fun z=>some (Sum.inr z))
def lc144_10 (F:Nat):Lc:=mkL [8,11,12,57,59,60] [(.pt 0 []),(.pt 1 []),(.pt 2 []),.i,(.ar 8 (.ar 4 .i)),.i] [.blk 195 Ql,.blk 195 Ql,.blk 198 Qv] [8,11,12,57] [(.pt 0 []),(.pt 1 []),(.pt 2 []),.i] [.blk 195 Ql,.blk 195 Ql,.blk 198 Qv] F (fun x y (s:Int×Zg)=>L144_10 F x.2.2.2.2.1 s.1 s.2) (fun x y=>(x.2.2.2.2.2.1,y.2.1)) (fun x y (z:Zg)=>(((),(),(),x.2.2.2.1,()),(y.1,z,y.2.2.1,())))
theorem lo144_10 (F:Nat):LcOk Tryz.prog (E144 F) 0 (lc144_10 F) (cAt (bodyOf Tryz.f144) [1,0,0,1,1,0,0,1,0,1,1,1,1,1,1,1,1]):=
 mkL_ok (lp:=[([1,1,0,0,1,0,0,1,1,0,0,1,0,1,1,1,1,1,1,1,1],lc144_11 F)]) (id:=6) (b:=cAt (bodyOf Tryz.f144) (0 :: 0 :: [1,0,0,1,1,0,0,1,0,1,1,1,1,1,1,1,1])) cok (cts144 F) mixed ⟨lo144_11 F,trivial⟩ (by kernel_rfl) (by kernel_rfl) (fun x y s=>((),(),(),x.2.2.2.1,x.2.2.2.2.1,s.1,())) (fun x y s=>(y.1,s.2,y.2.2.1,())) (fun x y=>rfl) (fun x y=>rfl) (fun x y s kA kO=>L144_10c F x.2.2.2.2.1 s.1 s.2 kA kO) (fun _ _ _ _ _=>by simp only [L144_10,L144_10c,oA,oC,oS,oN,elimS_l,elimS_r,elimS_bind]) (fun _ _ _=>by kernel_rfl)
def L144_9c (F:Nat) (y121:Vector Zm 8) (y118:Int) (y120:Vector UInt32 16) {β:Type} (kA:(Int×Zg)->Option β) (kO:(Zg)->Option β):Option β:=
 (bif (decide (y118 < (10:Int))) then (Option.bind (iter (fun s=>L144_10 F y121 s.1 s.2) F ((0:Int),y120)) fun z181=>(kA ((w64 (y118 + (1:Int))),z181))) else (kO y120))
def L144_9 (F:Nat) (y121:Vector Zm 8) (y118:Int) (y120:Vector UInt32 16):=L144_9c F y121 y118 y120 (fun s=>some (Sum.inl s)) (fun z=>some (Sum.inr z))
def lc144_9 (F:Nat):Lc:=mkL [8,11,12,57] [(.pt 0 []),(.pt 1 []),(.pt 2 []),.i] [.blk 195 Ql,.blk 195 Ql,.blk 198 Qv] [8,11] [(.pt 0 []),(.pt 1 [])] [.blk 195 Ql,.blk 195 Ql] F (fun x y (s:Int×Zg)=>L144_9 F y.2.2.1 s.1 s.2) (fun x y=>(x.2.2.2.1,y.2.1)) (fun x y (z:Zg)=>(((),(),()),(y.1,z,())))
theorem lo144_9 (F:Nat):LcOk Tryz.prog (E144 F) 0 (lc144_9 F) (cAt (bodyOf Tryz.f144) [1,0,1,1,1,1,1,1,1,1]):=
 mkL_ok (lp:=[([1,0,0,1,1,0,0,1,0,1,1,1,1,1,1,1,1],lc144_10 F)]) (id:=4) (b:=cAt (bodyOf Tryz.f144) (0 :: 0 :: [1,0,1,1,1,1,1,1,1,1])) cok (cts144 F) mixed ⟨lo144_10 F,trivial⟩ (by kernel_rfl) (by kernel_rfl) (fun x y s=>((),(),(),s.1,())) (fun x y s=>(y.1,s.2,y.2.2.1,())) (fun x y=>rfl) (fun x y=>rfl) (fun x y s kA kO=>L144_9c F y.2.2.1 s.1 s.2 kA kO) (fun _ _ _ _ _=>by simp only [L144_9,L144_9c,oA,oC,oS,oN,elimS_l,elimS_r,elimS_bind]) (fun _ _ _=>by kernel_rfl)
def L144_12c (F:Nat) (y184:Vector UInt32 16) (y186:Vector UInt32 16) (y185:Int) (y187:List UInt8) {β:Type} (kA:Zi->Option β) (kO:(Zb)->Option β):Option β:=
 (bif (decide (y185 < (16:Int))) then (Option.bind (vix y184 y185) fun x192=>(Option.bind (inb 16 y185) fun x193=>(Option.bind (vat y186 x193) fun x194=>(Option.bind (gapp y187 ([((x192 + x194).toUInt8),((shr32 (x192 + x194) ((UInt64.ofNat 8).toNat)).toUInt8),((shr32 (x192 + x194) ((UInt64.ofNat 16).toNat)).toUInt8),((shr32 (x192 + x194) ((UInt64.ofNat 24).toNat)).toUInt8)]:List UInt8)) fun x195=>(kA ((w64 (y185 + (1:Int))),x195)))))) else (kO y187))
def L144_12 (F:Nat) (y184:Vector UInt32 16) (y186:Vector UInt32 16) (y185:Int) (y187:List UInt8):=L144_12c F y184 y186 y185 y187 (fun s=>some (Sum.inl s)) (fun z=>some (Sum.inr z))
def lc144_12 (F:Nat):Lc:=mkL [8,15,100,101] [(.pt 0 []),(.rw 1),(.ar 16 .u32),.i] [.blk 195 Ql,.row 5 .u8] [15] [(.rw 0)] [.row 5 .u8] F (fun x y (s:Int×Zb)=>L144_12 F x.2.2.1 y.1 s.1 s.2) (fun x y=>(x.2.2.2.1,y.2.1)) (fun x y (z:Zb)=>(((),()),(z,())))
theorem lo144_12 (F:Nat):LcOk Tryz.prog (E144 F) 0 (lc144_12 F) (cAt (bodyOf Tryz.f144) [1,0,1,1,1,1,1,1,1,1,1,1]):=
 mkL_ok (lp:=[]) (id:=8) (b:=cAt (bodyOf Tryz.f144) (0 :: 0 :: [1,0,1,1,1,1,1,1,1,1,1,1])) cok (cts144 F) mixed trivial (by kernel_rfl) (by kernel_rfl) (fun x y s=>((),(),x.2.2.1,s.1,())) (fun x y s=>(y.1,s.2,())) (fun x y=>rfl) (fun x y=>rfl) (fun x y s kA kO=>L144_12c F x.2.2.1 y.1 s.1 s.2 kA kO) (fun _ _ _ _ _=>by simp only [L144_12,L144_12c,oA,oC,oS,oN,elimS_l,elimS_r,elimS_bind]) (fun _ _ _=>by kernel_rfl)
def T144c (F:Nat) (p0:List UInt8) (p1:List UInt8) (p2:UInt32) {β:Type} (k:Zi->Option β):Option β:=
 (Option.bind (T143 F p0 p1) fun z99=>(bif (!z99) then (k ((1:Int),([]:List UInt8))) else (Option.bind (iter (fun s=>L144_7 F p0 s.1 s.2) F ((0:Int),(Vector.setIfInBounds (Vector.setIfInBounds (Vector.setIfInBounds (Vector.setIfInBounds (Vector.replicate 16 (0:UInt32)) 0 (UInt32.ofNat 1634760805)) 1 (UInt32.ofNat 857760878)) 2 (UInt32.ofNat 2036477234)) 3 (UInt32.ofNat 1797285236)))) fun z109=>(Option.bind (iter (fun s=>L144_8 F p1 s.1 s.2) F ((0:Int),(Vector.setIfInBounds z109 12 p2))) fun z117=>(Option.bind (iter (fun s=>L144_9 F (#v[(#v[(0:Int),(4:Int),(8:Int),(12:Int)]:Vector Int 4),(#v[(1:Int),(5:Int),(9:Int),(13:Int)]:Vector Int 4),(#v[(2:Int),(6:Int),(10:Int),(14:Int)]:Vector Int 4),(#v[(3:Int),(7:Int),(11:Int),(15:Int)]:Vector Int 4),(#v[(0:Int),(5:Int),(10:Int),(15:Int)]:Vector Int 4),(#v[(1:Int),(6:Int),(11:Int),(12:Int)]:Vector Int 4),(#v[(2:Int),(7:Int),(8:Int),(13:Int)]:Vector Int 4),(#v[(3:Int),(4:Int),(9:Int),(14:Int)]:Vector Int 4)]:Vector Zm 8) s.1 s.2) F ((0:Int),z117)) fun z182=>(Option.bind (gmake (0:UInt8) (0:Int) (64:Int)) fun x183=>(Option.bind (iter (fun s=>L144_12 F z182 z117 s.1 s.2) F ((0:Int),x183)) fun z196=>(k ((0:Int),z196)))))))))
def T144 (F:Nat) (p0:List UInt8) (p1:List UInt8) (p2:UInt32):=T144c F p0 p1 p2 some
def ct144 (F:Nat):Ct:=mkC 0 [.str,.str,.u32] [] [(.rw 0),.i] [.row 5 .u8] (fun x y=>T144 F x.1 x.2.1 x.2.2.1) (fun x y (z:Int×Zb)=>(((),z.1,()),(z.2,())))
theorem ok144 (F:Nat):Sound Tryz.prog cfg 144 (ct144 F):=
 mkC_ok (E:=E144 F) (lp:=[([1,0,1,1,1],lc144_7 F),([1,0,1,1,1,1,1],lc144_8 F),([1,0,1,1,1,1,1,1,1,1],lc144_9 F),([1,0,1,1,1,1,1,1,1,1,1,1],lc144_12 F)]) (code:=bodyOf Tryz.f144) Tryz.func144 rfl Tryz.ntmps144 rfl rfl cok (cts144 F) mixed ⟨lo144_7 F,⟨lo144_8 F,⟨lo144_9 F,⟨lo144_12 F,trivial⟩⟩⟩⟩ (by kernel_rfl) (fun x y k=>T144c F x.1 x.2.1 x.2.2.1 k) (fun _ _ _=>by simp only [T144,T144c,oA,oC,oS,oN,elimS_bind]) (fun _ _=>by kernel_rfl)
def ord97:Nat->List (Tag×Nat)
 | 10=>[(.p,0),(.p,1),(.p,2),(.p,3),(.p,4),(.p,5),(.p,6),(.p,7),(.w,8),(.p,9),(.p,10)]
 | _=>[]
def E97 (F:Nat):Ev:=⟨cfg,63,ctOf [(143,ct143 F),(144,ct144 F)],ord97,ctOf [],fun _=>none,fun _=>none⟩
theorem cts97 (F:Nat):CtsOk Tryz.prog (E97 F):=cts_of (l:=[(143,ct143 F),(144,ct144 F)]) (l':=[]) rfl rfl ⟨⟨ok143 F,_,Tryz.func143,rfl,rfl⟩,⟨⟨ok144 F,_,Tryz.func144,rfl,rfl⟩,trivial⟩⟩ trivial
def L97_2c (F:Nat) (y18:List UInt8) (y19:List UInt8) (y20:Int) (y21:Int) (y22:Int) (y23:List UInt8) {β:Type} (kA:Zi->Option β) (kO:(Zb)->Option β):Option β:=
 (bif (decide (y22 < y21)) then (Option.bind (T144 F y18 y19 (UInt32.ofInt (w64 (Int.tdiv (w64 (y20 + y22)) (64:Int))))) fun z27=>(Option.bind (gslb y23.length y22 (y23.length:Int)) fun x28=>(Option.bind (gslb z27.2.length (Int.tmod (w64 (y20 + y22)) (64:Int)) (z27.2.length:Int)) fun x29=>(kA ((w64 (y22 + ((Nat.min ((z27.2.drop x29.1).take (x29.2 - x29.1)).length (x28.2 - x28.1)):Int))),(splice y23 x28.1 ((z27.2.drop x29.1).take (x29.2 - x29.1)) (Nat.min ((z27.2.drop x29.1).take (x29.2 - x29.1)).length (x28.2 - x28.1)))))))) else (kO y23))
def L97_2 (F:Nat) (y18:List UInt8) (y19:List UInt8) (y20:Int) (y21:Int) (y22:Int) (y23:List UInt8):=L97_2c F y18 y19 y20 y21 y22 y23 (fun s=>some (Sum.inl s)) (fun z=>some (Sum.inr z))
def lc97_2 (F:Nat):Lc:=mkL [0,1,2,3,10,11] [.str,.str,.i,.i,(.rw 0),.i] [.row 5 .u8] [10] [(.rw 0)] [.row 5 .u8] F (fun x y (s:Int×Zb)=>L97_2 F x.1 x.2.1 x.2.2.1 x.2.2.2.1 s.1 s.2) (fun x y=>(x.2.2.2.2.2.1,y.1)) (fun x y (z:Zb)=>(((),()),(z,())))
theorem lo97_2 (F:Nat):LcOk Tryz.prog (E97 F) 0 (lc97_2 F) (cAt (bodyOf Tryz.f97) [1,0,1,1,1,1]):=
 mkL_ok (lp:=[]) (id:=0) (b:=cAt (bodyOf Tryz.f97) (0 :: 0 :: [1,0,1,1,1,1])) cok (cts97 F) mixed trivial (by kernel_rfl) (by kernel_rfl) (fun x y s=>(x.1,x.2.1,x.2.2.1,x.2.2.2.1,(),s.1,())) (fun x y s=>(s.2,())) (fun x y=>rfl) (fun x y=>rfl) (fun x y s kA kO=>L97_2c F x.1 x.2.1 x.2.2.1 x.2.2.2.1 s.1 s.2 kA kO) (fun _ _ _ _ _=>by simp only [L97_2,L97_2c,oA,oC,oS,oN,elimS_l,elimS_r,elimS_bind]) (fun _ _ _=>by kernel_rfl)
def T97c (F:Nat) (p0:List UInt8) (p1:List UInt8) (p2:Int) (p3:Int) {β:Type} (k:Zi->Option β):Option β:=
 (Option.bind (T143 F p0 p1) fun z16=>(bif (!z16) then (k ((1:Int),([]:List UInt8))) else (bif (decide (p2 < (0:Int))) then (k ((1:Int),([]:List UInt8))) else (bif (decide (p3 < (0:Int))) then (k ((1:Int),([]:List UInt8))) else (bif (decide ((1048576:Int) < p3)) then (k ((2:Int),([]:List UInt8))) else (bif (decide ((w64 ((274877906944:Int) - p3)) < p2)) then (k ((2:Int),([]:List UInt8))) else (Option.bind (gmake (0:UInt8) p3 p3) fun x17=>(Option.bind (iter (fun s=>L97_2 F p0 p1 p2 p3 s.1 s.2) F ((0:Int),x17)) fun z30=>(k ((0:Int),z30))))))))))
def T97 (F:Nat) (p0:List UInt8) (p1:List UInt8) (p2:Int) (p3:Int):=T97c F p0 p1 p2 p3 some
def ct97 (F:Nat):Ct:=mkC 0 [.str,.str,.i,.i] [] [(.rw 0),.i] [.row 5 .u8] (fun x y=>T97 F x.1 x.2.1 x.2.2.1 x.2.2.2.1) (fun x y (z:Int×Zb)=>(((),z.1,()),(z.2,())))
theorem ok97 (F:Nat):Sound Tryz.prog cfg 97 (ct97 F):=
 mkC_ok (E:=E97 F) (lp:=[([1,0,1,1,1,1],lc97_2 F)]) (code:=bodyOf Tryz.f97) Tryz.func97 rfl Tryz.ntmps97 rfl rfl cok (cts97 F) mixed ⟨lo97_2 F,trivial⟩ (by kernel_rfl) (fun x y k=>T97c F x.1 x.2.1 x.2.2.1 x.2.2.2.1 k) (fun _ _ _=>by simp only [T97,T97c,oA,oC,oS,oN,elimS_bind]) (fun _ _=>by kernel_rfl)
def ord98:Nat->List (Tag×Nat)
 | 7=>[(.p,0),(.p,1),(.p,2),(.p,3),(.p,4),(.r,5),(.p,6),(.p,7),(.p,8),(.r,9),(.p,10),(.p,11),(.w,12)]
 | _=>[]
def E98 (F:Nat):Ev:=⟨cfg,35,ctOf [],ord98,ctOf [],fun _=>none,fun _=>none⟩
theorem cts98 (F:Nat):CtsOk Tryz.prog (E98 F):=cts_of (l:=[]) (l':=[]) rfl rfl trivial trivial
def L98_2c (F:Nat) (y15:List UInt8) (y16:List UInt8) (y17:Int) (y18:Int) (y19:List UInt8) {β:Type} (kA:Zi->Option β) (kO:(Zb)->Option β):Option β:=
 (bif (decide (y18 < y17)) then (Option.bind (ix y15 y18) fun x23=>(Option.bind (ix y16 y18) fun x24=>(Option.bind (inb y19.length y18) fun x25=>(kA ((w64 (y18 + (1:Int))),(List.set y19 x25 (x23 ^^^ x24))))))) else (kO y19))
def L98_2 (F:Nat) (y15:List UInt8) (y16:List UInt8) (y17:Int) (y18:Int) (y19:List UInt8):=L98_2c F y15 y16 y17 y18 y19 (fun s=>some (Sum.inl s)) (fun z=>some (Sum.inr z))
def lc98_2 (F:Nat):Lc:=mkL [0,1,6,17,18] [(.ro .u8),(.ro .u8),(.rw 0),.i,.i] [.row 5 .u8] [6] [(.rw 0)] [.row 5 .u8] F (fun x y (s:Int×Zb)=>L98_2 F x.1 x.2.1 x.2.2.2.1 s.1 s.2) (fun x y=>(x.2.2.2.2.1,y.1)) (fun x y (z:Zb)=>(((),()),(z,())))
theorem lo98_2 (F:Nat):LcOk Tryz.prog (E98 F) 0 (lc98_2 F) (cAt (bodyOf Tryz.f98) [1,0,1,1,1]):=
 mkL_ok (lp:=[]) (id:=0) (b:=cAt (bodyOf Tryz.f98) (0 :: 0 :: [1,0,1,1,1])) cok (cts98 F) mixed trivial (by kernel_rfl) (by kernel_rfl) (fun x y s=>(x.1,x.2.1,(),x.2.2.2.1,s.1,())) (fun x y s=>(s.2,())) (fun x y=>rfl) (fun x y=>rfl) (fun x y s kA kO=>L98_2c F x.1 x.2.1 x.2.2.2.1 s.1 s.2 kA kO) (fun _ _ _ _ _=>by simp only [L98_2,L98_2c,oA,oC,oS,oN,elimS_l,elimS_r,elimS_bind]) (fun _ _ _=>by kernel_rfl)
def T98c (F:Nat) (p0:List UInt8) (p1:List UInt8) {β:Type} (k:Zi->Option β):Option β:=
 (bif ((p0.length:Int) != (p1.length:Int)) then (k ((1:Int),([]:List UInt8))) else (Option.bind (gmake (0:UInt8) (p0.length:Int) (p0.length:Int)) fun x14=>(Option.bind (iter (fun s=>L98_2 F p0 p1 (p0.length:Int) s.1 s.2) F ((0:Int),x14)) fun z26=>(k ((0:Int),z26)))))
def T98 (F:Nat) (p0:List UInt8) (p1:List UInt8):=T98c F p0 p1 some
def ct98 (F:Nat):Ct:=mkC 0 [(.ro .u8),(.ro .u8)] [] [(.rw 0),.i] [.row 5 .u8] (fun x y=>T98 F x.1 x.2.1) (fun x y (z:Int×Zb)=>(((),z.1,()),(z.2,())))
theorem ok98 (F:Nat):Sound Tryz.prog cfg 98 (ct98 F):=
 mkC_ok (E:=E98 F) (lp:=[([1,0,1,1,1],lc98_2 F)]) (code:=bodyOf Tryz.f98) Tryz.func98 rfl Tryz.ntmps98 rfl rfl cok (cts98 F) mixed ⟨lo98_2 F,trivial⟩ (by kernel_rfl) (fun x y k=>T98c F x.1 x.2.1 k) (fun _ _ _=>by simp only [T98,T98c,oA,oC,oS,oN,elimS_bind]) (fun _ _=>by kernel_rfl)
def E32 (F:Nat):Ev:=⟨cfg,27,ctOf [(97,ct97 F),(98,ct98 F)],fun _=>[],ctOf [],fun _=>none,fun _=>none⟩
theorem cts32 (F:Nat):CtsOk Tryz.prog (E32 F):=cts_of (l:=[(97,ct97 F),(98,ct98 F)]) (l':=[]) rfl rfl ⟨⟨ok97 F,_,Tryz.func97,rfl,rfl⟩,⟨⟨ok98 F,_,Tryz.func98,rfl,rfl⟩,trivial⟩⟩ trivial
def T32c (F:Nat) (p3:List UInt8) (p5:List UInt8) (p6:List UInt8) {β:Type} (k:Zi->Option β):Option β:=
 (Option.bind (T97 F p3 p5 (0:Int) (p6.length:Int)) fun z3=>(bif (z3.1 != (0:Int)) then (k (z3.1,([]:List UInt8))) else (Option.bind (T98 F p6 z3.2) fun z4=>(k (z4.1,z4.2)))))
def T32 (F:Nat) (p3:List UInt8) (p5:List UInt8) (p6:List UInt8):=T32c F p3 p5 p6 some
def ct32 (F:Nat):Ct:=mkC 0 [(.pr .str (.pr .str (.pr .str (.pr .str (.pr .str .un))))),.str,(.ro .u8)] [] [(.rw 0),.i] [.row 5 .u8] (fun x y=>T32 F x.1.2.2.2.1 x.2.1 x.2.2.1) (fun x y (z:Int×Zb)=>(((),z.1,()),(z.2,())))
theorem ok32 (F:Nat):Sound Tryz.prog cfg 32 (ct32 F):=
 mkC_ok (E:=E32 F) (lp:=[]) (code:=bodyOf Tryz.f32) Tryz.func32 rfl Tryz.ntmps32 rfl rfl cok (cts32 F) mixed trivial (by kernel_rfl) (fun x y k=>T32c F x.1.2.2.2.1 x.2.1 x.2.2.1 k) (fun _ _ _=>by simp only [T32,T32c,oA,oC,oS,oN,elimS_bind]) (fun _ _=>by kernel_rfl)
def E31 (F:Nat):Ev:=⟨cfg,10,ctOf [(96,ct96 F)],fun _=>[],ctOf [],fun _=>none,fun _=>none⟩
theorem cts31 (F:Nat):CtsOk Tryz.prog (E31 F):=cts_of (l:=[(96,ct96 F)]) (l':=[]) rfl rfl ⟨⟨ok96 F,_,Tryz.func96,rfl,rfl⟩,trivial⟩ trivial
def T31c (F:Nat) (p3:List UInt8) (p5:List UInt8) {β:Type} (k:(Zb)->Option β):Option β:=
 (Option.bind (T96 F p3 p5) fun z3=>(Option.bind (gsl z3 (0:Int) (12:Int)) fun x4=>(k x4)))
def T31 (F:Nat) (p3:List UInt8) (p5:List UInt8):=T31c F p3 p5 some
def ct31 (F:Nat):Ct:=mkC 0 [(.pr .str (.pr .str (.pr .str (.pr .str (.pr .str .un))))),(.ro .u8)] [] [.str] [] (fun x y=>T31 F x.1.2.2.2.1 x.2.1) (fun x y (z:Zb)=>((z,()),()))
theorem ok31 (F:Nat):Sound Tryz.prog cfg 31 (ct31 F):=
 mkC_ok (E:=E31 F) (lp:=[]) (code:=bodyOf Tryz.f31) Tryz.func31 rfl Tryz.ntmps31 rfl rfl cok (cts31 F) mixed trivial (by kernel_rfl) (fun x y k=>T31c F x.1.2.2.2.1 x.2.1 k) (fun _ _ _=>by simp only [T31,T31c,oA,oC,oS,oN,elimS_bind]) (fun _ _=>by kernel_rfl)
def E66 (F:Nat):Ev:=⟨cfg,8,ctOf [],fun _=>[],ctOf [],fun _=>none,fun _=>none⟩
theorem cts66 (F:Nat):CtsOk Tryz.prog (E66 F):=cts_of (l:=[]) (l':=[]) rfl rfl trivial trivial
def T66c (F:Nat) (p0:List UInt8) {β:Type} (k:(Int×Int×Int×Zb)->Option β):Option β:=
 (Option.bind (gapp ([]:List UInt8) p0) fun x2=>(k ((0:Int),(0:Int),(0:Int),x2)))
def T66 (F:Nat) (p0:List UInt8):=T66c F p0 some
def ct66 (F:Nat):Ct:=mkC 0 [(.ro .u8)] [] [(.pt 0 [])] [.blk 171 Qd,.row 5 .u8] (fun x y=>T66 F x.1) (fun x y (z:Int×Int×Int×Zb)=>(((),()),(((),z.1,z.2.1,z.2.2.1,()),z.2.2.2,())))
theorem ok66 (F:Nat):Sound Tryz.prog cfg 66 (ct66 F):=
 mkC_ok (E:=E66 F) (lp:=[]) (code:=bodyOf Tryz.f66) Tryz.func66 rfl Tryz.ntmps66 rfl rfl cok (cts66 F) mixed trivial (by kernel_rfl) (fun x y k=>T66c F x.1 k) (fun _ _ _=>by simp only [T66,T66c,oA,oC,oS,oN,elimS_bind]) (fun _ _=>by kernel_rfl)
def ord162:Nat->List (Tag×Nat)
 | 4=>[(.p,0),(.p,1),(.p,2),(.r,3),(.p,4),(.p,5),(.p,6),(.r,7),(.p,8),(.p,9)]
 | 6=>[(.p,0),(.p,1),(.p,2),(.r,3),(.p,4),(.p,5),(.p,6),(.r,7),(.p,8),(.r,9),(.p,10)]
 | _=>[]
def E162 (F:Nat):Ev:=⟨cfg,62,ctOf [],ord162,ctOf [],fun _=>none,fun _=>none⟩
theorem cts162 (F:Nat):CtsOk Tryz.prog (E162 F):=cts_of (l:=[]) (l':=[]) rfl rfl trivial trivial
def L162_2c (F:Nat) (y19:List UInt8) (y14:UInt64) (y15:Int) (y16:Int) {β:Type} (kA:Zr->Option β) (kO:Int->Option β) (kR:Zr->Option β):Option β:=
 (bif (decide (y15 < (10:Int))) then (bif (y16 == (y19.length:Int)) then (kR ((UInt64.ofNat 0),(3:Int),y16)) else (Option.bind (inb y19.length y16) fun x23=>(Option.bind (y19[x23]?) fun x24=>(Option.bind (gnn (w64 ((7:Int) * y15))) fun x25=>(bif (decide ((UInt8.ofNat 128)≤x24)) then (kA ((y14 ||| (shl64 ((x24 &&& (UInt8.ofNat 127)).toUInt64) x25)),(w64 (y15 + (1:Int))),(w64 (y16 + (1:Int))))) else (bif (decide ((0:Int) < y15)) then (bif (x24 == (UInt8.ofNat 0)) then (kR ((UInt64.ofNat 0),(3:Int),(w64 (y16 + (1:Int))))) else (bif (y15 == (9:Int)) then (bif (decide ((UInt8.ofNat 1) < x24)) then (kR ((UInt64.ofNat 0),(3:Int),(w64 (y16 + (1:Int))))) else (kR ((y14 ||| (shl64 ((x24 &&& (UInt8.ofNat 127)).toUInt64) x25)),(0:Int),(w64 (y16 + (1:Int)))))) else (kR ((y14 ||| (shl64 ((x24 &&& (UInt8.ofNat 127)).toUInt64) x25)),(0:Int),(w64 (y16 + (1:Int))))))) else (bif (y15 == (9:Int)) then (bif (decide ((UInt8.ofNat 1) < x24)) then (kR ((UInt64.ofNat 0),(3:Int),(w64 (y16 + (1:Int))))) else (kR ((y14 ||| (shl64 ((x24 &&& (UInt8.ofNat 127)).toUInt64) x25)),(0:Int),(w64 (y16 + (1:Int)))))) else (kR ((y14 ||| (shl64 ((x24 &&& (UInt8.ofNat 127)).toUInt64) x25)),(0:Int),(w64 (y16 + (1:Int)))))))))))) else (kO y16))
def L162_2 (F:Nat) (y19:List UInt8) (y14:UInt64) (y15:Int) (y16:Int):Option (Zr ⊕ ((Int) ⊕ Zr)):=L162_2c F y19 y14 y15 y16 (fun s=>some (.inl s)) (fun z=>some (.inr (.inl z))) (fun z=>some (.inr (.inr z)))
theorem L162_2n (F:Nat) (y19:List UInt8) (y14:UInt64) (y15:Int) (y16:Int) {β:Type} (kA:Zr->Option β) (kO:Int->Option β) (kR:Zr->Option β):L162_2c F y19 y14 y15 y16 kA kO kR=(L162_2 F y19 y14 y15 y16).bind (elimS kA (elimS kO kR)):=by
 simp only [L162_2,L162_2c,oA,oC,oS,oN,elimS_l,elimS_r,elimS_bind]
def lc162_2 (F:Nat):Lc:=mkR [0,2,6] [(.pt 0 []),.u64,.i] [.blk 171 Qd,.row 5 .u8] [] [] [.blk 171 Qd,.row 5 .u8] [2,3] [.u64,.i] [.blk 171 Qd,.row 5 .u8] F (fun x y (s:UInt64×Int×Int)=>L162_2 F y.2.1 s.1 s.2.1 s.2.2) (fun x y=>(x.2.1,x.2.2.1,y.1.2.1)) (fun x y (z:Int)=>((),(((),z,y.1.2.2.1,y.1.2.2.2.1,()),y.2.1,()))) (fun x y (z:UInt64×Int×Int)=>((z.1,z.2.1,()),(((),z.2.2,y.1.2.2.1,y.1.2.2.2.1,()),y.2.1,())))
theorem lo162_2 (F:Nat):LcOk Tryz.prog (E162 F) 2 (lc162_2 F) (cAt (bodyOf Tryz.f162) [1,0,1]):=
 mkR_ok (lp:=[]) (id:=0) (b:=cAt (bodyOf Tryz.f162) (0 :: 0 :: [1,0,1])) cok (cts162 F) mixed trivial (by kernel_rfl) (by kernel_rfl) (fun x y s=>((),s.1,s.2.1,())) (fun x y s=>(((),s.2.2,y.1.2.2.1,y.1.2.2.2.1,()),y.2.1,())) (fun x y=>rfl) (fun x y=>rfl) (fun x y s kA kO kR=>L162_2c F y.2.1 s.1 s.2.1 s.2.2 kA kO kR) (fun x y s kA kO kR=>L162_2n F y.2.1 s.1 s.2.1 s.2.2 kA kO kR) (fun _ _ _=>by kernel_rfl)
def T162c (F:Nat) (p0:Int) (p3:List UInt8) {β:Type} (k:Zr->Option β):Option β:=
 (Option.bind (iter (fun s=>L162_2 F p3 s.1 s.2.1 s.2.2) F ((UInt64.ofNat 0),(0:Int),p0)) fun z26=>elimS (fun z26=>(k ((UInt64.ofNat 0),(3:Int),z26))) (fun z26=>(k (z26.1,z26.2.1,z26.2.2))) z26)
def T162 (F:Nat) (p0:Int) (p3:List UInt8):=T162c F p0 p3 some
def ct162 (F:Nat):Ct:=mkC 2 [(.pt 0 [])] [.blk 171 Qd,.row 5 .u8] [.u64,.i] [.blk 171 Qd,.row 5 .u8] (fun x y=>T162 F y.1.2.1 y.2.1) (fun x y (z:UInt64×Int×Int)=>((z.1,z.2.1,()),(((),z.2.2,y.1.2.2.1,y.1.2.2.2.1,()),y.2.1,())))
theorem ok162 (F:Nat):Sound Tryz.prog cfg 162 (ct162 F):=
 mkC_ok (E:=E162 F) (lp:=[([1,0,1],lc162_2 F)]) (code:=bodyOf Tryz.f162) Tryz.func162 rfl Tryz.ntmps162 rfl rfl cok (cts162 F) mixed ⟨lo162_2 F,trivial⟩ (by kernel_rfl) (fun x y k=>T162c F y.1.2.1 y.2.1 k) (fun _ _ _=>by simp only [T162,T162c,oA,oC,oS,oN,elimS_bind]) (fun _ _=>by kernel_rfl)
def E160 (F:Nat):Ev:=⟨cfg,23,ctOf [(162,ct162 F)],fun _=>[],ctOf [],fun _=>none,fun _=>none⟩
theorem cts160 (F:Nat):CtsOk Tryz.prog (E160 F):=cts_of (l:=[(162,ct162 F)]) (l':=[]) rfl rfl ⟨⟨ok162 F,_,Tryz.func162,rfl,rfl⟩,trivial⟩ trivial
def T160c (F:Nat) (p0:Int) (p1:Int) (p4:List UInt8) {β:Type} (k:(Int×Int×Int)->Option β):Option β:=
 (Option.bind (T162 F p1 p4) fun z2=>(bif (z2.2.1 != (0:Int)) then (k ((0:Int),z2.2.1,z2.2.2)) else (bif (decide ((UInt64.ofInt (if p0 < (0:Int) then (0:Int) else p0)) < z2.1)) then (k ((0:Int),(2:Int),z2.2.2)) else (k ((w64 (z2.1.toNat:Int)),(0:Int),z2.2.2)))))
def T160 (F:Nat) (p0:Int) (p1:Int) (p4:List UInt8):=T160c F p0 p1 p4 some
def ct160 (F:Nat):Ct:=mkC 2 [(.pt 0 []),.i] [.blk 171 Qd,.row 5 .u8] [.i,.i] [.blk 171 Qd,.row 5 .u8] (fun x y=>T160 F x.2.1 y.1.2.1 y.2.1) (fun x y (z:Int×Int×Int)=>((z.1,z.2.1,()),(((),z.2.2,y.1.2.2.1,y.1.2.2.2.1,()),y.2.1,())))
theorem ok160 (F:Nat):Sound Tryz.prog cfg 160 (ct160 F):=
 mkC_ok (E:=E160 F) (lp:=[]) (code:=bodyOf Tryz.f160) Tryz.func160 rfl Tryz.ntmps160 rfl rfl cok (cts160 F) mixed trivial (by kernel_rfl) (fun x y k=>T160c F x.2.1 y.1.2.1 y.2.1 k) (fun _ _ _=>by simp only [T160,T160c,oA,oC,oS,oN,elimS_bind]) (fun _ _=>by kernel_rfl)
def ord130:Nat->List (Tag×Nat)
 | 1=>[(.p,0),(.p,1),(.p,2),(.p,3),(.r,4),(.p,5),(.p,6),(.p,7),(.p,8),(.r,9),(.p,10),(.p,11)]
 | 3=>[(.p,0),(.p,1),(.p,2),(.r,3),(.p,4),(.p,5),(.p,6),(.r,7),(.p,8),(.p,9),(.p,10),(.r,11),(.p,12),(.p,13),(.p,14),(.p,15)]
 | _=>[]
def E130 (F:Nat):Ev:=⟨cfg,43,ctOf [],ord130,ctOf [],fun _=>none,fun _=>none⟩
theorem cts130 (F:Nat):CtsOk Tryz.prog (E130 F):=cts_of (l:=[]) (l':=[]) rfl rfl trivial trivial
def T130c (F:Nat) (p0:Int) (p1:Int) (p4:List UInt8) {β:Type} (k:((Nat×Nat)×Int×Int)->Option β):Option β:=
 (bif (decide ((w64 ((p4.length:Int) - p1)) < p0)) then (k ((0,0),(3:Int),p1)) else (Option.bind (gslb p4.length p1 (w64 (p1 + p0))) fun x2=>(k ((x2.1,x2.2),(0:Int),(w64 (p1 + p0))))))
def T130 (F:Nat) (p0:Int) (p1:Int) (p4:List UInt8):=T130c F p0 p1 p4 some
def ct130 (F:Nat):Ct:=mkC 2 [(.pt 0 []),.i] [.blk 171 Qd,.row 5 .u8] [(.rp 1),.i] [.blk 171 Qd,.row 5 .u8] (fun x y=>T130 F x.2.1 y.1.2.1 y.2.1) (fun x y (z:(Nat×Nat)×Int×Int)=>((z.1,z.2.1,()),(((),z.2.2,y.1.2.2.1,y.1.2.2.2.1,()),y.2.1,())))
theorem ok130 (F:Nat):Sound Tryz.prog cfg 130 (ct130 F):=
 mkC_ok (E:=E130 F) (lp:=[]) (code:=bodyOf Tryz.f130) Tryz.func130 rfl Tryz.ntmps130 rfl rfl cok (cts130 F) mixed trivial (by kernel_rfl) (fun x y k=>T130c F x.2.1 y.1.2.1 y.2.1 k) (fun _ _ _=>by simp only [T130,T130c,oA,oC,oS,oN,elimS_bind]) (fun _ _=>by kernel_rfl)
def E126 (F:Nat):Ev:=⟨cfg,22,ctOf [(160,ct160 F),(130,ct130 F)],fun _=>[],ctOf [],fun _=>none,fun _=>none⟩
theorem cts126 (F:Nat):CtsOk Tryz.prog (E126 F):=cts_of (l:=[(160,ct160 F),(130,ct130 F)]) (l':=[]) rfl rfl ⟨⟨ok160 F,_,Tryz.func160,rfl,rfl⟩,⟨⟨ok130 F,_,Tryz.func130,rfl,rfl⟩,trivial⟩⟩ trivial
def T126c (F:Nat) (p0:Int) (p1:Int) (p4:List UInt8) {β:Type} (k:((Nat×Nat)×Int×Int)->Option β):Option β:=
 (Option.bind (T160 F p0 p1 p4) fun z3=>(bif (z3.2.1 != (0:Int)) then (k ((0,0),z3.2.1,z3.2.2)) else (Option.bind (T130 F z3.1 z3.2.2 p4) fun z4=>(k ((z4.1.1,z4.1.2),z4.2.1,z4.2.2)))))
def T126 (F:Nat) (p0:Int) (p1:Int) (p4:List UInt8):=T126c F p0 p1 p4 some
def ct126 (F:Nat):Ct:=mkC 2 [(.pt 0 []),.i] [.blk 171 Qd,.row 5 .u8] [(.rp 1),.i] [.blk 171 Qd,.row 5 .u8] (fun x y=>T126 F x.2.1 y.1.2.1 y.2.1) (fun x y (z:(Nat×Nat)×Int×Int)=>((z.1,z.2.1,()),(((),z.2.2,y.1.2.2.1,y.1.2.2.2.1,()),y.2.1,())))
theorem ok126 (F:Nat):Sound Tryz.prog cfg 126 (ct126 F):=
 mkC_ok (E:=E126 F) (lp:=[]) (code:=bodyOf Tryz.f126) Tryz.func126 rfl Tryz.ntmps126 rfl rfl cok (cts126 F) mixed trivial (by kernel_rfl) (fun x y k=>T126c F x.2.1 y.1.2.1 y.2.1 k) (fun _ _ _=>by simp only [T126,T126c,oA,oC,oS,oN,elimS_bind]) (fun _ _=>by kernel_rfl)
def E133 (F:Nat):Ev:=⟨cfg,15,ctOf [(126,ct126 F)],fun _=>[],ctOf [],fun _=>none,fun _=>none⟩
theorem cts133 (F:Nat):CtsOk Tryz.prog (E133 F):=cts_of (l:=[(126,ct126 F)]) (l':=[]) rfl rfl ⟨⟨ok126 F,_,Tryz.func126,rfl,rfl⟩,trivial⟩ trivial
def T133c (F:Nat) (p0:Int) (p1:Int) (p4:List UInt8) {β:Type} (k:(Int×Int×Zb)->Option β):Option β:=
 (Option.bind (T126 F p0 p1 p4) fun z3=>(Option.bind (gapp ([]:List UInt8) ((p4.drop z3.1.1).take (z3.1.2 - z3.1.1))) fun x4=>(k (z3.2.1,z3.2.2,x4))))
def T133 (F:Nat) (p0:Int) (p1:Int) (p4:List UInt8):=T133c F p0 p1 p4 some
def ct133 (F:Nat):Ct:=mkC 3 [(.pt 0 []),(.re .i)] [.blk 108 Qz,.blk 171 Qe,.row 5 .u8] [(.rw 3),.i] [.blk 108 Qz,.blk 171 Qe,.row 5 .u8,.row 5 .u8] (fun x y=>T133 F x.2.1 y.2.1.2.1 y.2.2.1) (fun x y (z:Int×Int×Zb)=>(((),z.1,()),((),((),z.2.1,y.2.1.2.2.1,y.2.1.2.2.2.1,()),y.2.2.1,z.2.2,())))
theorem ok133 (F:Nat):Sound Tryz.prog cfg 133 (ct133 F):=
 mkC_ok (E:=E133 F) (lp:=[]) (code:=bodyOf Tryz.f133) Tryz.func133 rfl Tryz.ntmps133 rfl rfl cok (cts133 F) mixed trivial (by kernel_rfl) (fun x y k=>T133c F x.2.1 y.2.1.2.1 y.2.2.1 k) (fun _ _ _=>by simp only [T133,T133c,oA,oC,oS,oN,elimS_bind]) (fun _ _=>by kernel_rfl)
def E167 (F:Nat):Ev:=⟨cfg,18,ctOf [],fun _=>[],ctOf [],fun _=>none,fun _=>none⟩
theorem cts167 (F:Nat):CtsOk Tryz.prog (E167 F):=cts_of (l:=[]) (l':=[]) rfl rfl trivial trivial
def T167c (F:Nat) (p0:Int) (p1:Int) (p3:Int) (p4:List UInt8) {β:Type} (k:((Nat×Nat)×Int)->Option β):Option β:=
 (bif (p3 != (0:Int)) then (k ((0,0),p0)) else (k ((0,p4.length),p1)))
def T167 (F:Nat) (p0:Int) (p1:Int) (p3:Int) (p4:List UInt8):=T167c F p0 p1 p3 p4 some
def ct167 (F:Nat):Ct:=mkC 5 [(.re .i),(.pt 0 []),(.pt 1 [])] [.blk 108 Qw,.blk 36 (.rw 3),.blk 171 Qy,.row 5 .u8,.row 5 .u8] [] [.blk 108 Qw,.blk 36 (.rp 3),.blk 171 Qy,.row 5 .u8,.row 5 .u8] (fun x y=>T167 F x.1 y.2.2.1.2.1 y.2.2.1.2.2.2.1 y.2.2.2.1) (fun x y (z:(Nat×Nat)×Int)=>((),((),z.1,((),z.2,x.1,y.2.2.1.2.2.2.1,()),y.2.2.2.1,y.2.2.2.2.1,())))
theorem okd167 (F:Nat):SoundK Tryz.prog cfg true 167 (ct167 F):=
 mkC_okK (E:=E167 F) true (fun _ _=>rfl) (lp:=[]) (code:=bodyOf Tryz.f167) Tryz.func167 rfl Tryz.ntmps167 rfl rfl cok (cts167 F) mixed trivial (by kernel_rfl) (fun x y k=>T167c F x.1 y.2.2.1.2.1 y.2.2.1.2.2.2.1 y.2.2.2.1 k) (fun _ _ _=>by simp only [T167,T167c,oA,oC,oS,oN,elimS_bind]) (fun _ _=>by kernel_rfl)
def ord132:Nat->List (Tag×Nat)
 | 5=>[(.c,0),(.p,1),(.w,2),(.p,3),(.p,4),(.p,5),(.w,6),(.p,7),(.p,8),(.b,9)]
 | _=>[]
def E132 (F:Nat):Ev:=⟨cfg,26,ctOf [(133,ct133 F)],ord132,ctOf [(167,ct167 F)],fun _=>none,fun _=>none⟩
theorem cts132 (F:Nat):CtsOk Tryz.prog (E132 F):=cts_of (l:=[(133,ct133 F)]) (l':=[(167,ct167 F)]) rfl rfl ⟨⟨ok133 F,_,Tryz.func133,rfl,rfl⟩,trivial⟩ ⟨⟨okd167 F,_,Tryz.func167,rfl,rfl⟩,trivial⟩
def T132c (F:Nat) (p0:Int) (p1:Int) (p2:Int) (p3:Int) (p4:List UInt8) {β:Type} (k:(Zb×Int×Int×Int)->Option β):Option β:=
 (bif (p2 != (0:Int)) then (k (([]:List UInt8),p0,p1,p2)) else (Option.bind (T133 F p3 p0 p4) fun z3=>(Option.bind (T167 F p0 z3.2.1 z3.1 z3.2.2) fun z4=>(k (((z3.2.2.drop z4.1.1).take (z4.1.2 - z4.1.1)),z4.2,p0,z3.1)))))
def T132 (F:Nat) (p0:Int) (p1:Int) (p2:Int) (p3:Int) (p4:List UInt8):=T132c F p0 p1 p2 p3 p4 some
def ct132 (F:Nat):Ct:=mkC 4 [(.pt 0 []),(.fn 133 .un (.pr (.pt 1 []) (.pr (.pt 2 []) .un)))] [.blk 171 Qh,.blk 108 Qq,.blk 3 .i,.row 5 .u8] [(.ro .u8)] [.blk 171 Qh,.blk 108 Qq,.blk 3 .i,.row 5 .u8] (fun x y=>T132 F y.1.2.1 y.1.2.2.1 y.1.2.2.2.1 y.2.2.1 y.2.2.2.1) (fun x y (z:Zb×Int×Int×Int)=>((z.1,()),(((),z.2.1,z.2.2.1,z.2.2.2,()),(),y.2.2.1,y.2.2.2.1,())))
theorem ok132 (F:Nat):Sound Tryz.prog cfg 132 (ct132 F):=
 mkC_ok (E:=E132 F) (lp:=[]) (code:=bodyOf Tryz.f132) Tryz.func132 rfl Tryz.ntmps132 rfl rfl cok (cts132 F) mixed trivial (by kernel_rfl) (fun x y k=>T132c F y.1.2.1 y.1.2.2.1 y.1.2.2.2.1 y.2.2.1 y.2.2.2.1 k) (fun _ _ _=>by simp only [T132,T132c,oA,oC,oS,oN,elimS_bind]) (fun _ _=>by kernel_rfl)
def E88 (F:Nat):Ev:=⟨cfg,8,ctOf [(132,ct132 F)],fun _=>[],ctOf [],fun _=>none,fun _=>none⟩
theorem cts88 (F:Nat):CtsOk Tryz.prog (E88 F):=cts_of (l:=[(132,ct132 F)]) (l':=[]) rfl rfl ⟨⟨ok132 F,_,Tryz.func132,rfl,rfl⟩,trivial⟩ trivial
def T88c (F:Nat) (p0:Int) (p1:Int) (p2:Int) (p3:Int) (p4:List UInt8) {β:Type} (k:(Zb×Int×Int×Int)->Option β):Option β:=
 (Option.bind (T132 F p1 p2 p3 p0 p4) fun z2=>(k (z2.1,z2.2.1,z2.2.2.1,z2.2.2.2)))
def T88 (F:Nat) (p0:Int) (p1:Int) (p2:Int) (p3:Int) (p4:List UInt8):=T88c F p0 p1 p2 p3 p4 some
def ct88 (F:Nat):Ct:=mkC 2 [(.pt 0 []),.i] [.blk 171 Qd,.row 5 .u8] [(.ro .u8)] [.blk 171 Qd,.row 5 .u8] (fun x y=>T88 F x.2.1 y.1.2.1 y.1.2.2.1 y.1.2.2.2.1 y.2.1) (fun x y (z:Zb×Int×Int×Int)=>((z.1,()),(((),z.2.1,z.2.2.1,z.2.2.2,()),y.2.1,())))
theorem ok88 (F:Nat):Sound Tryz.prog cfg 88 (ct88 F):=
 mkC_ok (E:=E88 F) (lp:=[]) (code:=bodyOf Tryz.f88) Tryz.func88 rfl Tryz.ntmps88 rfl rfl cok (cts88 F) mixed trivial (by kernel_rfl) (fun x y k=>T88c F x.2.1 y.1.2.1 y.1.2.2.1 y.1.2.2.2.1 y.2.1 k) (fun _ _ _=>by simp only [T88,T88c,oA,oC,oS,oN,elimS_bind]) (fun _ _=>by kernel_rfl)
def E95 (F:Nat):Ev:=⟨cfg,13,ctOf [(117,ct117 F)],fun _=>[],ctOf [],fun _=>none,fun _=>none⟩
theorem cts95 (F:Nat):CtsOk Tryz.prog (E95 F):=cts_of (l:=[(117,ct117 F)]) (l':=[]) rfl rfl ⟨⟨ok117 F,_,Tryz.func117,rfl,rfl⟩,trivial⟩ trivial
def T95c (F:Nat) (p0:List UInt8) (p1:UInt64) {β:Type} (k:(Zb)->Option β):Option β:=
 (Option.bind (gmake (0:UInt8) (0:Int) (w64 ((p0.length:Int) + (10:Int)))) fun x4=>(Option.bind (gapp x4 p0) fun x5=>(Option.bind (T117 F p1 x5) fun z6=>(k z6))))
def T95 (F:Nat) (p0:List UInt8) (p1:UInt64):=T95c F p0 p1 some
def ct95 (F:Nat):Ct:=mkC 0 [(.ro .u8),.u64] [] [(.rw 0)] [.row 5 .u8] (fun x y=>T95 F x.1 x.2.1) (fun x y (z:Zb)=>(((),()),(z,())))
theorem ok95 (F:Nat):Sound Tryz.prog cfg 95 (ct95 F):=
 mkC_ok (E:=E95 F) (lp:=[]) (code:=bodyOf Tryz.f95) Tryz.func95 rfl Tryz.ntmps95 rfl rfl cok (cts95 F) mixed trivial (by kernel_rfl) (fun x y k=>T95c F x.1 x.2.1 k) (fun _ _ _=>by simp only [T95,T95c,oA,oC,oS,oN,elimS_bind]) (fun _ _=>by kernel_rfl)
def E30 (F:Nat):Ev:=⟨cfg,31,ctOf [(26,ct26 F),(95,ct95 F)],fun _=>[],ctOf [],fun _=>none,fun _=>none⟩
theorem cts30 (F:Nat):CtsOk Tryz.prog (E30 F):=cts_of (l:=[(26,ct26 F),(95,ct95 F)]) (l':=[]) rfl rfl ⟨⟨ok26 F,_,Tryz.func26,rfl,rfl⟩,⟨⟨ok95 F,_,Tryz.func95,rfl,rfl⟩,trivial⟩⟩ trivial
def T30c (F:Nat) (p0:List UInt8) {β:Type} (k:Zi->Option β):Option β:=
 (Option.bind (T26 F (p0.length:Int)) fun z5=>(bif (z5.2 != (0:Int)) then (k (z5.2,([]:List UInt8))) else (Option.bind (gmake (0:UInt8) z5.1 z5.1) fun x6=>(Option.bind (T95 F ([]:List UInt8) (UInt64.ofInt (p0.length:Int))) fun z7=>(Option.bind (gslb (splice x6 0 z7 (Nat.min z7.length (x6.length))).length ((Nat.min z7.length (x6.length)):Int) ((splice x6 0 z7 (Nat.min z7.length (x6.length))).length:Int)) fun x8=>(k ((0:Int),(splice (splice x6 0 z7 (Nat.min z7.length (x6.length))) x8.1 p0 (Nat.min p0.length (x8.2 - x8.1))))))))))
def T30 (F:Nat) (p0:List UInt8):=T30c F p0 some
def ct30 (F:Nat):Ct:=mkC 0 [(.ro .u8)] [] [(.rw 0),.i] [.row 5 .u8] (fun x y=>T30 F x.1) (fun x y (z:Int×Zb)=>(((),z.1,()),(z.2,())))
theorem ok30 (F:Nat):Sound Tryz.prog cfg 30 (ct30 F):=
 mkC_ok (E:=E30 F) (lp:=[]) (code:=bodyOf Tryz.f30) Tryz.func30 rfl Tryz.ntmps30 rfl rfl cok (cts30 F) mixed trivial (by kernel_rfl) (fun x y k=>T30c F x.1 k) (fun _ _ _=>by simp only [T30,T30c,oA,oC,oS,oN,elimS_bind]) (fun _ _=>by kernel_rfl)
def ord89:Nat->List (Tag×Nat)
 | 6=>[(.p,0),(.p,1),(.p,2),(.r,3),(.p,4),(.p,5),(.p,6),(.r,7),(.p,8)]
 | _=>[]
def E89 (F:Nat):Ev:=⟨cfg,26,ctOf [],ord89,ctOf [],fun _=>none,fun _=>none⟩
theorem cts89 (F:Nat):CtsOk Tryz.prog (E89 F):=cts_of (l:=[]) (l':=[]) rfl rfl trivial trivial
def L89_2c (F:Nat) (y10:List UInt8) (y11:List UInt8) (y12:Int) (y13:Int) {β:Type} (kA:Int->Option β) (kO:Unit->Option β) (kR:Bool->Option β):Option β:=
 (bif (decide (y13 < y12)) then (Option.bind (ix y10 y13) fun x16=>(Option.bind (ix y11 y13) fun x17=>(bif (x16 != x17) then (kR false) else (kA (w64 (y13 + (1:Int))))))) else (kO ()))
def L89_2 (F:Nat) (y10:List UInt8) (y11:List UInt8) (y12:Int) (y13:Int):Option ((Int) ⊕ ((Unit) ⊕ (Bool))):=L89_2c F y10 y11 y12 y13 (fun s=>some (.inl s)) (fun z=>some (.inr (.inl z))) (fun z=>some (.inr (.inr z)))
theorem L89_2n (F:Nat) (y10:List UInt8) (y11:List UInt8) (y12:Int) (y13:Int) {β:Type} (kA:Int->Option β) (kO:Unit->Option β) (kR:Bool->Option β):L89_2c F y10 y11 y12 y13 kA kO kR=(L89_2 F y10 y11 y12 y13).bind (elimS kA (elimS kO kR)):=by
 simp only [L89_2,L89_2c,oA,oC,oS,oN,elimS_l,elimS_r,elimS_bind]
def lc89_2 (F:Nat):Lc:=mkR [0,1,12,13] [(.ro .u8),(.ro .u8),.i,.i] [] [] [] [] [4] [.bo] [] F (fun x y (s:Int)=>L89_2 F x.1 x.2.1 x.2.2.1 s) (fun x y=>x.2.2.2.1) (fun x y (z:Unit)=>((),())) (fun x y (z:Bool)=>((z,()),()))
theorem lo89_2 (F:Nat):LcOk Tryz.prog (E89 F) 0 (lc89_2 F) (cAt (bodyOf Tryz.f89) [1,0,1,1]):=
 mkR_ok (lp:=[]) (id:=0) (b:=cAt (bodyOf Tryz.f89) (0 :: 0 :: [1,0,1,1])) cok (cts89 F) mixed trivial (by kernel_rfl) (by kernel_rfl) (fun x y s=>(x.1,x.2.1,x.2.2.1,s,())) (fun x y s=>()) (fun x y=>rfl) (fun x y=>rfl) (fun x y s kA kO kR=>L89_2c F x.1 x.2.1 x.2.2.1 s kA kO kR) (fun x y s kA kO kR=>L89_2n F x.1 x.2.1 x.2.2.1 s kA kO kR) (fun _ _ _=>by kernel_rfl)
def T89c (F:Nat) (p0:List UInt8) (p1:List UInt8) {β:Type} (k:Bool->Option β):Option β:=
 (bif ((p0.length:Int) != (p1.length:Int)) then (k false) else (Option.bind (iter (fun s=>L89_2 F p0 p1 (p0.length:Int) s) F (0:Int)) fun z18=>elimS (fun z18=>(k true)) (fun z18=>(k z18)) z18))
def T89 (F:Nat) (p0:List UInt8) (p1:List UInt8):=T89c F p0 p1 some
def ct89 (F:Nat):Ct:=mkC 0 [(.ro .u8),(.ro .u8)] [] [.bo] [] (fun x y=>T89 F x.1 x.2.1) (fun x y (z:Bool)=>((z,()),()))
theorem ok89 (F:Nat):Sound Tryz.prog cfg 89 (ct89 F):=
 mkC_ok (E:=E89 F) (lp:=[([1,0,1,1],lc89_2 F)]) (code:=bodyOf Tryz.f89) Tryz.func89 rfl Tryz.ntmps89 rfl rfl cok (cts89 F) mixed ⟨lo89_2 F,trivial⟩ (by kernel_rfl) (fun x y k=>T89c F x.1 x.2.1 k) (fun _ _ _=>by simp only [T89,T89c,oA,oC,oS,oN,elimS_bind]) (fun _ _=>by kernel_rfl)
def E197 (F:Nat):Ev:=⟨cfg,18,ctOf [],fun _=>[],ctOf [],fun _=>none,fun _=>none⟩
theorem cts197 (F:Nat):CtsOk Tryz.prog (E197 F):=cts_of (l:=[]) (l':=[]) rfl rfl trivial trivial
def T197c (F:Nat) (p0:Int) (p1:UInt64) (p2:Int) (p4:Int) {β:Type} (k:(UInt64×Int)->Option β):Option β:=
 (bif (p4 != (0:Int)) then (k ((UInt64.ofNat 0),p0)) else (k (p1,p2)))
def T197 (F:Nat) (p0:Int) (p1:UInt64) (p2:Int) (p4:Int):=T197c F p0 p1 p2 p4 some
def ct197 (F:Nat):Ct:=mkC 4 [(.re .i),(.pt 0 []),(.pt 1 [])] [.blk 108 Qw,.blk 100 .u64,.blk 171 Qh,.row 5 .u8] [] [.blk 108 Qw,.blk 100 .u64,.blk 171 Qh,.row 5 .u8] (fun x y=>T197 F x.1 y.2.1 y.2.2.1.2.1 y.2.2.1.2.2.2.1) (fun x y (z:UInt64×Int)=>((),((),z.1,((),z.2,x.1,y.2.2.1.2.2.2.1,()),y.2.2.2.1,())))
theorem okd197 (F:Nat):SoundK Tryz.prog cfg true 197 (ct197 F):=
 mkC_okK (E:=E197 F) true (fun _ _=>rfl) (lp:=[]) (code:=bodyOf Tryz.f197) Tryz.func197 rfl Tryz.ntmps197 rfl rfl cok (cts197 F) mixed trivial (by kernel_rfl) (fun x y k=>T197c F x.1 y.2.1 y.2.2.1.2.1 y.2.2.1.2.2.2.1 k) (fun _ _ _=>by simp only [T197,T197c,oA,oC,oS,oN,elimS_bind]) (fun _ _=>by kernel_rfl)
def ord161:Nat->List (Tag×Nat)
 | 5=>[(.c,0),(.p,1),(.w,2),(.p,3),(.p,4),(.p,5),(.w,6),(.p,7),(.p,8),(.b,9)]
 | _=>[]
def E161 (F:Nat):Ev:=⟨cfg,26,ctOf [(162,ct162 F)],ord161,ctOf [(197,ct197 F)],fun _=>none,fun _=>none⟩
theorem cts161 (F:Nat):CtsOk Tryz.prog (E161 F):=cts_of (l:=[(162,ct162 F)]) (l':=[(197,ct197 F)]) rfl rfl ⟨⟨ok162 F,_,Tryz.func162,rfl,rfl⟩,trivial⟩ ⟨⟨okd197 F,_,Tryz.func197,rfl,rfl⟩,trivial⟩
def T161c (F:Nat) (p0:Int) (p1:Int) (p2:Int) (p3:List UInt8) {β:Type} (k:(UInt64×Int×Int×Int)->Option β):Option β:=
 (bif (p2 != (0:Int)) then (k ((0:UInt64),p0,p1,p2)) else (Option.bind (T162 F p0 p3) fun z3=>(Option.bind (T197 F p0 z3.1 z3.2.2 z3.2.1) fun z4=>(k (z4.1,z4.2,p0,z3.2.1)))))
def T161 (F:Nat) (p0:Int) (p1:Int) (p2:Int) (p3:List UInt8):=T161c F p0 p1 p2 p3 some
def ct161 (F:Nat):Ct:=mkC 2 [(.pt 0 []),(.fn 162 (.pr (.pt 0 []) .un) .un)] [.blk 171 Qd,.row 5 .u8] [.u64] [.blk 171 Qd,.row 5 .u8] (fun x y=>T161 F y.1.2.1 y.1.2.2.1 y.1.2.2.2.1 y.2.1) (fun x y (z:UInt64×Int×Int×Int)=>((z.1,()),(((),z.2.1,z.2.2.1,z.2.2.2,()),y.2.1,())))
theorem ok161 (F:Nat):Sound Tryz.prog cfg 161 (ct161 F):=
 mkC_ok (E:=E161 F) (lp:=[]) (code:=bodyOf Tryz.f161) Tryz.func161 rfl Tryz.ntmps161 rfl rfl cok (cts161 F) mixed trivial (by kernel_rfl) (fun x y k=>T161c F y.1.2.1 y.1.2.2.1 y.1.2.2.2.1 y.2.1 k) (fun _ _ _=>by simp only [T161,T161c,oA,oC,oS,oN,elimS_bind]) (fun _ _=>by kernel_rfl)
def E123 (F:Nat):Ev:=⟨cfg,7,ctOf [(161,ct161 F)],fun _=>[],ctOf [],fun _=>none,fun _=>none⟩
theorem cts123 (F:Nat):CtsOk Tryz.prog (E123 F):=cts_of (l:=[(161,ct161 F)]) (l':=[]) rfl rfl ⟨⟨ok161 F,_,Tryz.func161,rfl,rfl⟩,trivial⟩ trivial
def T123c (F:Nat) (p0:Int) (p1:Int) (p2:Int) (p3:List UInt8) {β:Type} (k:(UInt64×Int×Int×Int)->Option β):Option β:=
 (Option.bind (T161 F p0 p1 p2 p3) fun z2=>(k (z2.1,z2.2.1,z2.2.2.1,z2.2.2.2)))
def T123 (F:Nat) (p0:Int) (p1:Int) (p2:Int) (p3:List UInt8):=T123c F p0 p1 p2 p3 some
def ct123 (F:Nat):Ct:=mkC 2 [(.pt 0 [])] [.blk 171 Qd,.row 5 .u8] [.u64] [.blk 171 Qd,.row 5 .u8] (fun x y=>T123 F y.1.2.1 y.1.2.2.1 y.1.2.2.2.1 y.2.1) (fun x y (z:UInt64×Int×Int×Int)=>((z.1,()),(((),z.2.1,z.2.2.1,z.2.2.2,()),y.2.1,())))
theorem ok123 (F:Nat):Sound Tryz.prog cfg 123 (ct123 F):=
 mkC_ok (E:=E123 F) (lp:=[]) (code:=bodyOf Tryz.f123) Tryz.func123 rfl Tryz.ntmps123 rfl rfl cok (cts123 F) mixed trivial (by kernel_rfl) (fun x y k=>T123c F y.1.2.1 y.1.2.2.1 y.1.2.2.2.1 y.2.1 k) (fun _ _ _=>by simp only [T123,T123c,oA,oC,oS,oN,elimS_bind]) (fun _ _=>by kernel_rfl)
def E122 (F:Nat):Ev:=⟨cfg,14,ctOf [],fun _=>[],ctOf [],fun _=>none,fun _=>none⟩
theorem cts122 (F:Nat):CtsOk Tryz.prog (E122 F):=cts_of (l:=[]) (l':=[]) rfl rfl trivial trivial
def T122c (F:Nat) (p0:UInt64) {β:Type} (k:Int->Option β):Option β:=
 (bif ((p0 % (UInt64.ofNat 2)) == (UInt64.ofNat 1)) then (k (w64 ((w64 (0 - (w64 ((p0 / (UInt64.ofNat 2)).toNat:Int)))) - (1:Int)))) else (k (w64 ((p0 / (UInt64.ofNat 2)).toNat:Int))))
def T122 (F:Nat) (p0:UInt64):=T122c F p0 some
def ct122 (F:Nat):Ct:=mkC 0 [.u64] [] [.i] [] (fun x y=>T122 F x.1) (fun x y (z:Int)=>((z,()),()))
theorem ok122 (F:Nat):Sound Tryz.prog cfg 122 (ct122 F):=
 mkC_ok (E:=E122 F) (lp:=[]) (code:=bodyOf Tryz.f122) Tryz.func122 rfl Tryz.ntmps122 rfl rfl cok (cts122 F) mixed trivial (by kernel_rfl) (fun x y k=>T122c F x.1 k) (fun _ _ _=>by simp only [T122,T122c,oA,oC,oS,oN,elimS_bind]) (fun _ _=>by kernel_rfl)
end Go.Proofs.YthikoaamigiceaaGreatDoor
