/- The functions, each with its twin, and plain facts about them. -/
import Derived.Test.YtpnhgldpeiogbaaGreatDoorOB
namespace Go.Proofs.YtpnhgldpeiogbaaGreatDoor
open Go.Tw
set_option linter.unusedSimpArgs false
set_option linter.unusedVariables false
abbrev Zn:Type:=UInt64×Int×Int
abbrev Zl:Type:=Vector UInt8 16
abbrev Zk:Type:=List Int
abbrev Zi:Type:=Int×Int
abbrev Zh:Type:=Vector UInt8 8
abbrev Zg:Type:=Vector UInt32 16
abbrev Zf:Type:=Vector UInt32 8
abbrev Ze:Type:=Vector UInt8 64
abbrev Za:Type:=List UInt8
abbrev Zm:Type:=Int×Za
abbrev Zd:Type:=List Za
abbrev Zc:Type:=Za×Int×Int×Unit
abbrev Zj:Type:=List Zc
abbrev Zb:Type:=(Za×Int×Unit)×Za×Zd×Unit
abbrev Qj:Sh:=.ar 16 .u32
abbrev Qi:Sh:=.pr (.rw 1) (.pr .ns (.pr .u8 .un))
abbrev Qg:Sh:=.pr (.pr (.pr (.ar 8 .u32) (.pr (.ar 64 .u8) (.pr .i .un))) (.pr (.ar 64 .u8) .un)) .un
abbrev Qf:Sh:=.pr .i (.pr (.ar 16 (.ar 8 .u8)) .un)
abbrev Qe:Sh:=.pr (.rw 1) (.pr .i (.pr .i (.pr .i .un)))
abbrev Qd:Ty:=.sl .u8
abbrev Qc:Ty:=.pr (.pr .s (.pr .i .un)) (.pr (.sl .u8) (.pr (.sl .s) .un))
abbrev Qb:Ty:=.pr .s (.pr .i (.pr .i .un))
abbrev Qh:Sh:=.pr .str (.pr .i (.pr .i (.pr .i (.pr .i (.pr (.ro Qb) .un)))))
abbrev Qa:Sh:=.pr (.ar 8 .u32) (.pr (.ar 64 .u8) (.pr .i .un))
theorem oA {α β γ:Type} (x:Option α) (f:α->Option β) (g:β->Option γ):(x.bind f).bind g=x.bind fun y=>(f y).bind g:=Option.bind_assoc x f g
theorem oC {α β:Type} (c:Bool) (x y:Option α) (k:α->Option β):(bif c then x else y).bind k=bif c then x.bind k else y.bind k:=cond_bind c x y k
theorem oS {α β:Type} (a:α) (f:α->Option β):(some a).bind f=f a:=rfl
theorem oN {α β:Type} (f:α->Option β):(none:Option α).bind f=none:=rfl
def E32 (F:Nat):Ev:=⟨cfg,14,ctOf [],fun _=>[],ctOf [],fun _=>none,fun _=>none⟩
theorem cts32 (F:Nat):CtsOk Tryz.prog (E32 F):=cts_of (l:=[]) (l':=[]) rfl rfl trivial trivial
def T32c (F:Nat) (p0:UInt8) {β:Type} (k:(Za×Int)->Option β):Option β:=
 (Option.bind (gmake (0:UInt8) (32:Int) (32:Int)) fun x3=>(Option.bind (inb x3.length (0:Int)) fun x4=>(k ((List.set x3 x4 p0),(0:Int)))))
def T32 (F:Nat) (p0:UInt8):=T32c F p0 some
def ct32 (F:Nat):Ct:=mkC 0 [.u8,.i] [] [(.pr .str (.pr .i (.pr .i .un)))] [] (fun x y=>T32 F x.1) (fun x y (z:Za×Int)=>(((z.1,z.2,x.2.1,()),()),()))
theorem ok32 (F:Nat):Sound Tryz.prog cfg 32 (ct32 F):=
 mkC_ok (E:=E32 F) (lp:=[]) (code:=bodyOf Tryz.f32) Tryz.func32 rfl Tryz.ntmps32 rfl rfl cok (cts32 F) mixed trivial (by kernel_rfl) (fun x y k=>T32c F x.1 k) (fun _ _ _=>by simp only [T32,T32c,oA,oC,oS,oN,elimS_bind]) (fun _ _=>by kernel_rfl)
def E36 (F:Nat):Ev:=⟨cfg,44,ctOf [],fun _=>[],ctOf [],fun _=>none,fun _=>none⟩
theorem cts36 (F:Nat):CtsOk Tryz.prog (E36 F):=cts_of (l:=[]) (l':=[]) rfl rfl trivial trivial
def L36_2c (F:Nat) (y8:List Zc) (y9:Int) (y10:Int) (y11:List (Za×Bool)) {β:Type} (kA:(Int×(List (Za×Bool)))->Option β) (kO:Unit->Option β) (kR:Bool->Option β):Option β:=
 (bif (decide (y10 < y9)) then (Option.bind (ix y8 y10) fun x13=>(bif ((x13.1.length:Int) != (32:Int)) then (kR false) else (bif (decide (x13.2.1 < (0:Int))) then (kR false) else (bif (decide (x13.2.2.1 < (0:Int))) then (kR false) else (bif (decide ((32768:Int) < x13.2.2.1)) then (kR false) else (bif (mgd .s y11 x13.1 false) then (kR false) else (kA ((w64 (y10 + (1:Int))),(mpt .s y11 x13.1 true))))))))) else (kO ()))
def L36_2 (F:Nat) (y8:List Zc) (y9:Int) (y10:Int) (y11:List (Za×Bool)):Option ((Int×(List (Za×Bool))) ⊕ ((Unit) ⊕ (Bool))):=L36_2c F y8 y9 y10 y11 (fun s=>some (.inl s)) (fun z=>some (.inr (.inl z))) (fun z=>some (.inr (.inr z)))
theorem L36_2n (F:Nat) (y8:List Zc) (y9:Int) (y10:Int) (y11:List (Za×Bool)) {β:Type} (kA:(Int×(List (Za×Bool)))->Option β) (kO:Unit->Option β) (kR:Bool->Option β):L36_2c F y8 y9 y10 y11 kA kO kR=(L36_2 F y8 y9 y10 y11).bind (elimS kA (elimS kO kR)):=by
 simp only [L36_2,L36_2c,oA,oC,oS,oN,elimS_l,elimS_r,elimS_bind]
def lc36_2 (F:Nat):Lc:=mkR [3,9,10,11] [(.mp 0),(.ro Qb),.i,.i] [.mp .s .bo] [] [] [] [2] [.bo] [] F (fun x y (s:Int×(List (Za×Bool)))=>L36_2 F x.2.1 x.2.2.1 s.1 s.2) (fun x y=>(x.2.2.2.1,y.1)) (fun x y (z:Unit)=>((),())) (fun x y (z:Bool)=>((z,()),()))
theorem lo36_2 (F:Nat):LcOk Tryz.prog (E36 F) 0 (lc36_2 F) (cAt (bodyOf Tryz.f36) [1,0,1,1]):=
 mkR_ok (lp:=[]) (id:=0) (b:=cAt (bodyOf Tryz.f36) (0 :: 0 :: [1,0,1,1])) cok (cts36 F) mixed trivial (by kernel_rfl) (by kernel_rfl) (fun x y s=>((),x.2.1,x.2.2.1,s.1,())) (fun x y s=>(s.2,())) (fun x y=>rfl) (fun x y=>rfl) (fun x y s kA kO kR=>L36_2c F x.2.1 x.2.2.1 s.1 s.2 kA kO kR) (fun x y s kA kO kR=>L36_2n F x.2.1 x.2.2.1 s.1 s.2 kA kO kR) (fun _ _ _=>by kernel_rfl)
def T36c (F:Nat) (p0:List Zc) {β:Type} (k:Bool->Option β):Option β:=
 (Option.bind (iter (fun s=>L36_2 F p0 (p0.length:Int) s.1 s.2) F ((0:Int),([]:List (Za×Bool)))) fun z14=>elimS (fun z14=>(k true)) (fun z14=>(k z14)) z14)
def T36 (F:Nat) (p0:List Zc):=T36c F p0 some
def ct36 (F:Nat):Ct:=mkC 0 [(.ro Qb)] [] [.bo] [] (fun x y=>T36 F x.1) (fun x y (z:Bool)=>((z,()),()))
theorem ok36 (F:Nat):Sound Tryz.prog cfg 36 (ct36 F):=
 mkC_ok (E:=E36 F) (lp:=[([1,0,1,1],lc36_2 F)]) (code:=bodyOf Tryz.f36) Tryz.func36 rfl Tryz.ntmps36 rfl rfl cok (cts36 F) mixed ⟨lo36_2 F,trivial⟩ (by kernel_rfl) (fun x y k=>T36c F x.1 k) (fun _ _ _=>by simp only [T36,T36c,oA,oC,oS,oN,elimS_bind]) (fun _ _=>by kernel_rfl)
def E74 (F:Nat):Ev:=⟨cfg,11,ctOf [],fun _=>[],ctOf [],fun _=>none,fun _=>none⟩
theorem cts74 (F:Nat):CtsOk Tryz.prog (E74 F):=cts_of (l:=[]) (l':=[]) rfl rfl trivial trivial
def L74_2c (F:Nat) (y4:UInt64) (y5:Int) {β:Type} (kA:(UInt64×Int)->Option β) (kO:Int->Option β):Option β:=
 (bif (decide ((UInt64.ofNat 128)≤y4)) then (kA ((shr64 y4 ((UInt64.ofNat 7).toNat)),(w64 (y5 + (1:Int))))) else (kO y5))
def L74_2 (F:Nat) (y4:UInt64) (y5:Int):=L74_2c F y4 y5 (fun s=>some (Sum.inl s)) (fun z=>some (Sum.inr z))
def lc74_2 (F:Nat):Lc:=mkL [0,3] [.u64,.i] [] [3] [.i] [] F (fun x y (s:UInt64×Int)=>L74_2 F s.1 s.2) (fun x y=>(x.1,x.2.1)) (fun x y (z:Int)=>((z,()),()))
theorem lo74_2 (F:Nat):LcOk Tryz.prog (E74 F) 0 (lc74_2 F) (cAt (bodyOf Tryz.f74) [0,1,1]):=
 mkL_ok (lp:=[]) (id:=0) (b:=cAt (bodyOf Tryz.f74) (0 :: 0 :: [0,1,1])) cok (cts74 F) mixed trivial (by kernel_rfl) (by kernel_rfl) (fun x y s=>(s.1,s.2,())) (fun x y s=>()) (fun x y=>rfl) (fun x y=>rfl) (fun x y s kA kO=>L74_2c F s.1 s.2 kA kO) (fun _ _ _ _ _=>by simp only [L74_2,L74_2c,oA,oC,oS,oN,elimS_l,elimS_r,elimS_bind]) (fun _ _ _=>by kernel_rfl)
def T74c (F:Nat) (p0:UInt64) {β:Type} (k:Int->Option β):Option β:=
 (Option.bind (iter (fun s=>L74_2 F s.1 s.2) F (p0,(1:Int))) fun z6=>(k z6))
def T74 (F:Nat) (p0:UInt64):=T74c F p0 some
def ct74 (F:Nat):Ct:=mkC 0 [.u64] [] [.i] [] (fun x y=>T74 F x.1) (fun x y (z:Int)=>((z,()),()))
theorem ok74 (F:Nat):Sound Tryz.prog cfg 74 (ct74 F):=
 mkC_ok (E:=E74 F) (lp:=[([0,1,1],lc74_2 F)]) (code:=bodyOf Tryz.f74) Tryz.func74 rfl Tryz.ntmps74 rfl rfl cok (cts74 F) mixed ⟨lo74_2 F,trivial⟩ (by kernel_rfl) (fun x y k=>T74c F x.1 k) (fun _ _ _=>by simp only [T74,T74c,oA,oC,oS,oN,elimS_bind]) (fun _ _=>by kernel_rfl)
def E75 (F:Nat):Ev:=⟨cfg,4,ctOf [],fun _=>[],ctOf [],fun _=>none,fun _=>none⟩
theorem cts75 (F:Nat):CtsOk Tryz.prog (E75 F):=cts_of (l:=[]) (l':=[]) rfl rfl trivial trivial
def T75c (F:Nat) {β:Type} (k:Zi->Option β):Option β:=
 (k ((1:Int),(0:Int)))
def T75 (F:Nat):=T75c F some
def ct75 (F:Nat):Ct:=mkC 0 [] [] [(.fn 115 .un (.pr (.pt 0 []) (.pr (.pt 1 []) .un)))] [.blk 3 .i,.blk 3 .i] (fun x y=>T75 F) (fun x y (z:Int×Int)=>((((),((),(),())),()),(z.1,z.2,())))
theorem ok75 (F:Nat):Sound Tryz.prog cfg 75 (ct75 F):=
 mkC_ok (E:=E75 F) (lp:=[]) (code:=bodyOf Tryz.f75) Tryz.func75 rfl Tryz.ntmps75 rfl rfl cok (cts75 F) mixed trivial (by kernel_rfl) (fun x y k=>T75c F k) (fun _ _ _=>by simp only [T75,T75c,oA,oC,oS,oN,elimS_bind]) (fun _ _=>by kernel_rfl)
def E115 (F:Nat):Ev:=⟨cfg,16,ctOf [],fun _=>[],ctOf [],fun _=>none,fun _=>none⟩
theorem cts115 (F:Nat):CtsOk Tryz.prog (E115 F):=cts_of (l:=[]) (l':=[]) rfl rfl trivial trivial
def T115c (F:Nat) (p0:Int) (p1:Int) {β:Type} (k:(Int×Int×Int)->Option β):Option β:=
 (bif ((w64 (p1 + (1:Int))) == (4:Int)) then (k ((w64 (p0 * (w64 ((64:Int) + (w64 ((16:Int) * p1)))))),(w64 ((2:Int) * p0)),(0:Int))) else (k ((w64 (p0 * (w64 ((64:Int) + (w64 ((16:Int) * p1)))))),p0,(w64 (p1 + (1:Int))))))
def T115 (F:Nat) (p0:Int) (p1:Int):=T115c F p0 p1 some
def ct115 (F:Nat):Ct:=mkC 2 [(.pt 0 []),(.pt 1 [])] [.blk 3 .i,.blk 3 .i] [.i] [.blk 3 .i,.blk 3 .i] (fun x y=>T115 F y.1 y.2.1) (fun x y (z:Int×Int×Int)=>((z.1,()),(z.2.1,z.2.2,())))
theorem ok115 (F:Nat):Sound Tryz.prog cfg 115 (ct115 F):=
 mkC_ok (E:=E115 F) (lp:=[]) (code:=bodyOf Tryz.f115) Tryz.func115 rfl Tryz.ntmps115 rfl rfl cok (cts115 F) mixed trivial (by kernel_rfl) (fun x y k=>T115c F y.1 y.2.1 k) (fun _ _ _=>by simp only [T115,T115c,oA,oC,oS,oN,elimS_bind]) (fun _ _=>by kernel_rfl)
def E37 (F:Nat):Ev:=⟨cfg,26,ctOf [(74,ct74 F),(75,ct75 F),(115,ct115 F)],fun _=>[],ctOf [],fun _=>none,fun _=>none⟩
theorem cts37 (F:Nat):CtsOk Tryz.prog (E37 F):=cts_of (l:=[(74,ct74 F),(75,ct75 F),(115,ct115 F)]) (l':=[]) rfl rfl ⟨⟨ok74 F,_,Tryz.func74,rfl,rfl⟩,⟨⟨ok75 F,_,Tryz.func75,rfl,rfl⟩,⟨⟨ok115 F,_,Tryz.func115,rfl,rfl⟩,trivial⟩⟩⟩ trivial
def L37_2c (F:Nat) (y14:Int) (y15:Int) (y16:Int) (y17:Int) {β:Type} (kA:(Int×Int×Int)->Option β) (kO:Int->Option β):Option β:=
 (bif (decide (y15 < y14)) then (Option.bind (T115 F y16 y17) fun z19=>(kA (z19.1,z19.2.1,z19.2.2))) else (kO y15))
def L37_2 (F:Nat) (y14:Int) (y15:Int) (y16:Int) (y17:Int):=L37_2c F y14 y15 y16 y17 (fun s=>some (Sum.inl s)) (fun z=>some (Sum.inr z))
def lc37_2 (F:Nat):Lc:=mkL [4,5,6] [.i,(.fn 115 .un (.pr (.pt 0 []) (.pr (.pt 1 []) .un))),.i] [.blk 3 .i,.blk 3 .i] [6] [.i] [] F (fun x y (s:Int×Int×Int)=>L37_2 F x.1 s.1 s.2.1 s.2.2) (fun x y=>(x.2.2.1,y.1,y.2.1)) (fun x y (z:Int)=>((z,()),()))
theorem lo37_2 (F:Nat):LcOk Tryz.prog (E37 F) 0 (lc37_2 F) (cAt (bodyOf Tryz.f37) [0,1,1,1,1,1,1]):=
 mkL_ok (lp:=[]) (id:=0) (b:=cAt (bodyOf Tryz.f37) (0 :: 0 :: [0,1,1,1,1,1,1])) cok (cts37 F) mixed trivial (by kernel_rfl) (by kernel_rfl) (fun x y s=>(x.1,((),((),(),())),s.1,())) (fun x y s=>(s.2.1,s.2.2,())) (fun x y=>rfl) (fun x y=>rfl) (fun x y s kA kO=>L37_2c F x.1 s.1 s.2.1 s.2.2 kA kO) (fun _ _ _ _ _=>by simp only [L37_2,L37_2c,oA,oC,oS,oN,elimS_l,elimS_r,elimS_bind]) (fun _ _ _=>by kernel_rfl)
def T37c (F:Nat) (p0:Int) {β:Type} (k:Zi->Option β):Option β:=
 (bif (decide (p0 < (0:Int))) then (k ((0:Int),(1:Int))) else (bif (decide ((32768:Int) < p0)) then (k ((0:Int),(2:Int))) else (Option.bind (T74 F (UInt64.ofInt p0)) fun z11=>(Option.bind (T75 F) fun z12=>(Option.bind (T115 F z12.1 z12.2) fun z13=>(Option.bind (iter (fun s=>L37_2 F (w64 ((w64 (z11 + p0)) + (16:Int))) s.1 s.2.1 s.2.2) F (z13.1,z13.2.1,z13.2.2)) fun z20=>(k (z20,(0:Int)))))))))
def T37 (F:Nat) (p0:Int):=T37c F p0 some
def ct37 (F:Nat):Ct:=mkC 0 [.i] [] [.i,.i] [] (fun x y=>T37 F x.1) (fun x y (z:Int×Int)=>((z.1,z.2,()),()))
theorem ok37 (F:Nat):Sound Tryz.prog cfg 37 (ct37 F):=
 mkC_ok (E:=E37 F) (lp:=[([0,1,1,1,1,1,1],lc37_2 F)]) (code:=bodyOf Tryz.f37) Tryz.func37 rfl Tryz.ntmps37 rfl rfl cok (cts37 F) mixed ⟨lo37_2 F,trivial⟩ (by kernel_rfl) (fun x y k=>T37c F x.1 k) (fun _ _ _=>by simp only [T37,T37c,oA,oC,oS,oN,elimS_bind]) (fun _ _=>by kernel_rfl)
def ord33:Nat->List (Tag×Nat)
 | 14=>[(.p,0),(.p,1),(.p,2),(.p,3),(.p,4),(.c,5),(.r,6),(.w,7),(.b,8),(.p,9),(.b,10)]
 | _=>[]
def E33 (F:Nat):Ev:=⟨cfgR,75,ctOf [(36,ct36 F),(37,ct37 F)],ord33,ctOf [],fun _=>none,fun _=>none⟩
theorem cts33 (F:Nat):CtsOk Tryz.prog (E33 F):=cts_of (l:=[(36,ct36 F),(37,ct37 F)]) (l':=[]) rfl rfl ⟨⟨ok36 F,_,Tryz.func36,rfl,rfl⟩,⟨⟨ok37 F,_,Tryz.func37,rfl,rfl⟩,trivial⟩⟩ trivial
def L33_2c (F:Nat) (y90:Int) (y91:List Zc) (y92:Int) (y93:Int) (y94:List (Option Zj)×List Nat) (y95:List Zi) {β:Type} (kA:(Int×(List (Option Zj)×List Nat)×(List Zi))->Option β) (kO:((List (Option Zj)×List Nat))->Option β):Option β:=
 (bif (decide (y93 < y92)) then (Option.bind (ix y91 y93) fun x122=>(Option.bind (T37 F x122.2.2.1) fun z123=>(bif (!(mhs .i y95 z123.1)) then (Option.bind (gapp y94.2 (shO y94.1.length ([0]:List Nat))) fun x124=>(Option.bind (inb x124.length (y94.2.length:Int)) fun x125=>(Option.bind (outG x124 x125) fun x126=>(Option.bind (rxG (y94.1 ++ ([some []]:List (Option Zj))) x126) fun x127=>(Option.bind (rxG (y94.1 ++ ([some []]:List (Option Zj))) x126) fun x128=>(Option.bind (gapp x128 ([(x122.1,x122.2.1,x122.2.2.1,())]:List Zc)) fun x129=>(Option.bind (inb x124.length (y94.2.length:Int)) fun x130=>(kA ((w64 (y93 + (1:Int))),(((List.set (y94.1 ++ ([some []]:List (Option Zj))) x126 none) ++ [some x129]),(List.set x124 x130 (List.set (y94.1 ++ ([some []]:List (Option Zj))) x126 none).length)),(mpt .i y95 z123.1 (y94.2.length:Int))))))))))) else (Option.bind (inb y94.2.length (mgd .i y95 z123.1 (0:Int))) fun x131=>(Option.bind (outG y94.2 x131) fun x132=>(Option.bind (rxG y94.1 x132) fun x133=>(Option.bind (rxG y94.1 x132) fun x134=>(bif (decide (y90≤(x134.length:Int))) then (Option.bind (gapp y94.2 (shO y94.1.length ([0]:List Nat))) fun x135=>(Option.bind (inb x135.length (y94.2.length:Int)) fun x136=>(Option.bind (outG x135 x136) fun x137=>(Option.bind (rxG (y94.1 ++ ([some []]:List (Option Zj))) x137) fun x138=>(Option.bind (rxG (y94.1 ++ ([some []]:List (Option Zj))) x137) fun x139=>(Option.bind (gapp x139 ([(x122.1,x122.2.1,x122.2.2.1,())]:List Zc)) fun x140=>(Option.bind (inb x135.length (y94.2.length:Int)) fun x141=>(kA ((w64 (y93 + (1:Int))),(((List.set (y94.1 ++ ([some []]:List (Option Zj))) x137 none) ++ [some x140]),(List.set x135 x141 (List.set (y94.1 ++ ([some []]:List (Option Zj))) x137 none).length)),(mpt .i y95 z123.1 (y94.2.length:Int))))))))))) else (Option.bind (inb y94.2.length (mgd .i y95 z123.1 (0:Int))) fun x142=>(Option.bind (outG y94.2 x142) fun x143=>(Option.bind (rxG y94.1 x143) fun x144=>(Option.bind (rxG y94.1 x143) fun x145=>(Option.bind (gapp x145 ([(x122.1,x122.2.1,x122.2.2.1,())]:List Zc)) fun x146=>(Option.bind (inb y94.2.length (mgd .i y95 z123.1 (0:Int))) fun x147=>(kA ((w64 (y93 + (1:Int))),(((List.set y94.1 x143 none) ++ [some x146]),(List.set y94.2 x147 (List.set y94.1 x143 none).length)),y95)))))))))))))))) else (kO y94))
def L33_2 (F:Nat) (y90:Int) (y91:List Zc) (y92:Int) (y93:Int) (y94:List (Option Zj)×List Nat) (y95:List Zi):=L33_2c F y90 y91 y92 y93 y94 y95 (fun s=>some (Sum.inl s)) (fun z=>some (Sum.inr z))
def lc33_2 (F:Nat):Lc:=mkL [1,6,7,26,27,28] [.i,(.rw 0),(.mp 1),(.ro Qb),.i,.i] [.rr 22 45 (.pr .s (.pr .i (.pr .i .un))),.mp .i .i] [6] [(.rw 0)] [.rr 22 45 (.pr .s (.pr .i (.pr .i .un)))] F (fun x y (s:Int×(List (Option Zj)×List Nat)×(List Zi))=>L33_2 F x.1 x.2.2.2.1 x.2.2.2.2.1 s.1 s.2.1 s.2.2) (fun x y=>(x.2.2.2.2.2.1,y.1,y.2.1)) (fun x y (z:(List (Option Zj)×List Nat))=>(((),()),(z,())))
theorem lo33_2 (F:Nat):LcOk Tryz.prog (E33 F) 0 (lc33_2 F) (cAt (bodyOf Tryz.f33) [1,0,1,1,1,1]):=
 mkL_ok (lp:=[]) (id:=0) (b:=cAt (bodyOf Tryz.f33) (0 :: 0 :: [1,0,1,1,1,1])) cokR (cts33 F) mixed trivial (by kernel_rfl) (by kernel_rfl) (fun x y s=>(x.1,(),(),x.2.2.2.1,x.2.2.2.2.1,s.1,())) (fun x y s=>(s.2.1,s.2.2,())) (fun x y=>rfl) (fun x y=>rfl) (fun x y s kA kO=>L33_2c F x.1 x.2.2.2.1 x.2.2.2.2.1 s.1 s.2.1 s.2.2 kA kO) (fun _ _ _ _ _=>by simp only [L33_2,L33_2c,oA,oC,oS,oN,elimS_l,elimS_r,elimS_bind]) (fun _ _ _=>by kernel_rfl)
def T33c (F:Nat) (p0:List Zc) (p1:Int) {β:Type} (k:((List Zj)×Int)->Option β):Option β:=
 (bif (decide (p1 < (1:Int))) then (k (([]:List Zj),(1:Int))) else (bif (decide ((8:Int) < p1)) then (k (([]:List Zj),(1:Int))) else (Option.bind (T36 F p0) fun z75=>(bif (!z75) then (k (([]:List Zj),(1:Int))) else (Option.bind (iter (fun s=>L33_2 F p1 p0 (p0.length:Int) s.1 s.2.1 s.2.2) F ((0:Int),(([]:List (Option Zj)),([]:List Nat)),([]:List Zi))) fun z148=>(Option.bind (mat z148.1 z148.2) fun x149=>(k (x149,(0:Int)))))))))
def T33 (F:Nat) (p0:List Zc) (p1:Int):=T33c F p0 p1 some
def ct33 (F:Nat):Ct:=mkC 0 [(.ro Qb),.i] [] [(.ro (.sl Qb)),.i] [] (fun x y=>T33 F x.1 x.2.1) (fun x y (z:(List Zj)×Int)=>((z.1,z.2,()),()))
theorem ok33 (F:Nat):Sound Tryz.prog cfg 33 (ct33 F):=
 mkC_ok (E:=E33 F) (lp:=[([1,0,1,1,1,1],lc33_2 F)]) (code:=bodyOf Tryz.f33) Tryz.func33 rfl Tryz.ntmps33 rfl rfl cokR (cts33 F) mixed ⟨lo33_2 F,trivial⟩ (by kernel_rfl) (fun x y k=>T33c F x.1 x.2.1 k) (fun _ _ _=>by simp only [T33,T33c,oA,oC,oS,oN,elimS_bind]) (fun _ _=>by kernel_rfl)
def E35 (F:Nat):Ev:=⟨cfg,20,ctOf [],fun _=>[],ctOf [],fun _=>none,fun _=>none⟩
theorem cts35 (F:Nat):CtsOk Tryz.prog (E35 F):=cts_of (l:=[]) (l':=[]) rfl rfl trivial trivial
def T35c (F:Nat) (p0:Int) (p1:Int) {β:Type} (k:Bool->Option β):Option β:=
 (bif (decide ((1:Int)≤p0)) then (bif (decide (p0≤(8:Int))) then (bif (decide (p0≤p1)) then (k (decide (p1≤(16:Int)))) else (k false)) else (k false)) else (k false))
def T35 (F:Nat) (p0:Int) (p1:Int):=T35c F p0 p1 some
def ct35 (F:Nat):Ct:=mkC 0 [.i,.i] [] [.bo] [] (fun x y=>T35 F x.1 x.2.1) (fun x y (z:Bool)=>((z,()),()))
theorem ok35 (F:Nat):Sound Tryz.prog cfg 35 (ct35 F):=
 mkC_ok (E:=E35 F) (lp:=[]) (code:=bodyOf Tryz.f35) Tryz.func35 rfl Tryz.ntmps35 rfl rfl cok (cts35 F) mixed trivial (by kernel_rfl) (fun x y k=>T35c F x.1 x.2.1 k) (fun _ _ _=>by simp only [T35,T35c,oA,oC,oS,oN,elimS_bind]) (fun _ _=>by kernel_rfl)
def E38 (F:Nat):Ev:=⟨cfg,20,ctOf [(37,ct37 F)],fun _=>[],ctOf [],fun _=>none,fun _=>none⟩
theorem cts38 (F:Nat):CtsOk Tryz.prog (E38 F):=cts_of (l:=[(37,ct37 F)]) (l':=[]) rfl rfl ⟨⟨ok37 F,_,Tryz.func37,rfl,rfl⟩,trivial⟩ trivial
def T38c (F:Nat) (p2:Int) (p3:Int) {β:Type} (k:Bool->Option β):Option β:=
 (Option.bind (T37 F p2) fun z2=>(bif (z2.2 == (0:Int)) then (k (z2.1 == p3)) else (k false)))
def T38 (F:Nat) (p2:Int) (p3:Int):=T38c F p2 p3 some
def ct38 (F:Nat):Ct:=mkC 0 [(.pr .str (.pr .i (.pr .i .un))),.i] [] [.bo] [] (fun x y=>T38 F x.1.2.2.1 x.2.1) (fun x y (z:Bool)=>((z,()),()))
theorem ok38 (F:Nat):Sound Tryz.prog cfg 38 (ct38 F):=
 mkC_ok (E:=E38 F) (lp:=[]) (code:=bodyOf Tryz.f38) Tryz.func38 rfl Tryz.ntmps38 rfl rfl cok (cts38 F) mixed trivial (by kernel_rfl) (fun x y k=>T38c F x.1.2.2.1 x.2.1 k) (fun _ _ _=>by simp only [T38,T38c,oA,oC,oS,oN,elimS_bind]) (fun _ _=>by kernel_rfl)
def E116 (F:Nat):Ev:=⟨cfg,29,ctOf [],fun _=>[],ctOf [],fun _=>none,fun _=>none⟩
theorem cts116 (F:Nat):CtsOk Tryz.prog (E116 F):=cts_of (l:=[]) (l':=[]) rfl rfl trivial trivial
def L116_2c (F:Nat) (y10:List Za) (y11:List Za) (y12:Int) (y13:Int) {β:Type} (kA:Int->Option β) (kO:Unit->Option β) (kR:Bool->Option β):Option β:=
 (bif (decide (y13 < y12)) then (Option.bind (ix y11 y13) fun x16=>(bif ((x16.length:Int) == (0:Int)) then (kR false) else (bif (decide ((65536:Int) < (x16.length:Int))) then (kR false) else (Option.bind (ix y10 (0:Int)) fun x17=>(bif ((x16.length:Int) != (x17.length:Int)) then (kR false) else (kA (w64 (y13 + (1:Int))))))))) else (kO ()))
def L116_2 (F:Nat) (y10:List Za) (y11:List Za) (y12:Int) (y13:Int):Option ((Int) ⊕ ((Unit) ⊕ (Bool))):=L116_2c F y10 y11 y12 y13 (fun s=>some (.inl s)) (fun z=>some (.inr (.inl z))) (fun z=>some (.inr (.inr z)))
theorem L116_2n (F:Nat) (y10:List Za) (y11:List Za) (y12:Int) (y13:Int) {β:Type} (kA:Int->Option β) (kO:Unit->Option β) (kR:Bool->Option β):L116_2c F y10 y11 y12 y13 kA kO kR=(L116_2 F y10 y11 y12 y13).bind (elimS kA (elimS kO kR)):=by
 simp only [L116_2,L116_2c,oA,oC,oS,oN,elimS_l,elimS_r,elimS_bind]
def lc116_2 (F:Nat):Lc:=mkR [0,5,6,7] [(.ro Qd),(.ro Qd),.i,.i] [] [] [] [] [2] [.bo] [] F (fun x y (s:Int)=>L116_2 F x.1 x.2.1 x.2.2.1 s) (fun x y=>x.2.2.2.1) (fun x y (z:Unit)=>((),())) (fun x y (z:Bool)=>((z,()),()))
theorem lo116_2 (F:Nat):LcOk Tryz.prog (E116 F) 0 (lc116_2 F) (cAt (bodyOf Tryz.f116) [1,0,1]):=
 mkR_ok (lp:=[]) (id:=0) (b:=cAt (bodyOf Tryz.f116) (0 :: 0 :: [1,0,1])) cok (cts116 F) mixed trivial (by kernel_rfl) (by kernel_rfl) (fun x y s=>(x.1,x.2.1,x.2.2.1,s,())) (fun x y s=>()) (fun x y=>rfl) (fun x y=>rfl) (fun x y s kA kO kR=>L116_2c F x.1 x.2.1 x.2.2.1 s kA kO kR) (fun x y s kA kO kR=>L116_2n F x.1 x.2.1 x.2.2.1 s kA kO kR) (fun _ _ _=>by kernel_rfl)
def T116c (F:Nat) (p0:List Za) {β:Type} (k:Bool->Option β):Option β:=
 (Option.bind (iter (fun s=>L116_2 F p0 p0 (p0.length:Int) s) F (0:Int)) fun z18=>elimS (fun z18=>(k true)) (fun z18=>(k z18)) z18)
def T116 (F:Nat) (p0:List Za):=T116c F p0 some
def ct116 (F:Nat):Ct:=mkC 0 [(.ro Qd)] [] [.bo] [] (fun x y=>T116 F x.1) (fun x y (z:Bool)=>((z,()),()))
theorem ok116 (F:Nat):Sound Tryz.prog cfg 116 (ct116 F):=
 mkC_ok (E:=E116 F) (lp:=[([1,0,1],lc116_2 F)]) (code:=bodyOf Tryz.f116) Tryz.func116 rfl Tryz.ntmps116 rfl rfl cok (cts116 F) mixed ⟨lo116_2 F,trivial⟩ (by kernel_rfl) (fun x y k=>T116c F x.1 k) (fun _ _ _=>by simp only [T116,T116c,oA,oC,oS,oN,elimS_bind]) (fun _ _=>by kernel_rfl)
def ord97x1:Nat->List (Tag×Nat)
 | _=>[]
def al97x1:Nat->Option Nat
 | _=>none
def ms97x1:Nat->Option (List (Option Tag×Nat×List Nat))
 | _=>none
def E97x1 (F:Nat):Ev:=⟨cfg,8,ctOf [],ord97x1,ctOf [],al97x1,ms97x1⟩
theorem cts97x1 (F:Nat):CtsOk Tryz.prog (E97x1 F):=cts_of (l:=[]) (l':=[]) rfl rfl trivial trivial
def T97x1c (F:Nat) {β:Type} (k:((List (List UInt8)))->Option β):Option β:=
 (k ([]:List (List UInt8)))
def T97x1 (F:Nat):Option ((List (List UInt8))):=T97x1c F some
theorem T97x1n (F:Nat) {β:Type} (k:((List (List UInt8)))->Option β):T97x1c F k=(T97x1 F).bind k:=by
 simp only [T97x1,T97x1c,Option.bind_assoc,cond_bind,Option.bind_some,Option.bind_none,elimS_bind]
abbrev cA97x1:List Sh:=[.nn]
abbrev cB97x1:List Sh:=[(.rw 0)]
abbrev cT97x1:List TSh:=[]
abbrev cU97x1:List TSh:=[.row 39 (.sl .u8)]
def ct97x1 (F:Nat):Ct:=mkC 0 cA97x1 cT97x1 cB97x1 cU97x1 (fun x y=>T97x1 F) (fun x y (z:(List (List UInt8)))=>(((),()),(z,())))
theorem eq97x1 (F:Nat) (x:dens cA97x1) (y:tdens cT97x1):sev (E97x1 F) 0 [] (bodyOf Tryz.f97) [] (mkSt (rng 1) cA97x1 cT97x1 x y) (kFn (E97x1 F) 0 Tryz.f97.results.toList cB97x1 cU97x1 fun p q=>some (p,q)) =
  T97x1c F (fun z=>some (((),()),(z,()))):=by kernel_rfl
theorem ok97x1 (F:Nat):Sound Tryz.prog cfg 97 (ct97x1 F):=
 mkC_ok (E:=E97x1 F) (lp:=[]) (code:=bodyOf Tryz.f97) Tryz.func97 rfl Tryz.ntmps97 rfl rfl cok (cts97x1 F) mixed trivial (by kernel_rfl) (fun x y k=>T97x1c F k) (fun x y k=>T97x1n F k) (eq97x1 F)
def ord97x2:Nat->List (Tag×Nat)
 | _=>[]
def al97x2:Nat->Option Nat
 | _=>none
def ms97x2:Nat->Option (List (Option Tag×Nat×List Nat))
 | _=>none
def E97x2 (F:Nat):Ev:=⟨cfg,8,ctOf [],ord97x2,ctOf [],al97x2,ms97x2⟩
theorem cts97x2 (F:Nat):CtsOk Tryz.prog (E97x2 F):=cts_of (l:=[]) (l':=[]) rfl rfl trivial trivial
def T97x2c (F:Nat) (p0:List (List UInt8)) {β:Type} (k:((List (List UInt8)))->Option β):Option β:=
 (Option.bind (gapp ([]:List (List UInt8)) p0) fun x2=>(k x2))
def T97x2 (F:Nat) (p0:List (List UInt8)):Option ((List (List UInt8))):=T97x2c F p0 some
theorem T97x2n (F:Nat) (p0:List (List UInt8)) {β:Type} (k:((List (List UInt8)))->Option β):T97x2c F p0 k=(T97x2 F p0).bind k:=by
 simp only [T97x2,T97x2c,Option.bind_assoc,cond_bind,Option.bind_some,Option.bind_none,elimS_bind]
abbrev cA97x2:List Sh:=[(.rn (.sl .u8))]
abbrev cB97x2:List Sh:=[(.rw 0)]
abbrev cT97x2:List TSh:=[]
abbrev cU97x2:List TSh:=[.row 39 (.sl .u8)]
def ct97x2 (F:Nat):Ct:=mkC 0 cA97x2 cT97x2 cB97x2 cU97x2 (fun x y=>T97x2 F x.1) (fun x y (z:(List (List UInt8)))=>(((),()),(z,())))
theorem eq97x2 (F:Nat) (x:dens cA97x2) (y:tdens cT97x2):sev (E97x2 F) 0 [] (bodyOf Tryz.f97) [] (mkSt (rng 1) cA97x2 cT97x2 x y) (kFn (E97x2 F) 0 Tryz.f97.results.toList cB97x2 cU97x2 fun p q=>some (p,q)) =
  T97x2c F x.1 (fun z=>some (((),()),(z,()))):=by kernel_rfl
theorem ok97x2 (F:Nat):Sound Tryz.prog cfg 97 (ct97x2 F):=
 mkC_ok (E:=E97x2 F) (lp:=[]) (code:=bodyOf Tryz.f97) Tryz.func97 rfl Tryz.ntmps97 rfl rfl cok (cts97x2 F) mixed trivial (by kernel_rfl) (fun x y k=>T97x2c F x.1 k) (fun x y k=>T97x2n F x.1 k) (eq97x2 F)
def T97 (F:Nat) (p0:List Za):Option Zd:=T97x2 F p0
def ct97 (F:Nat):Ct:=mkC 0 [.ro Qd] [] [.rw 0] [.row 39 Qd] (fun x _=>T97 F x.1) (fun _ _ (z:List Za)=>(((),()),(z,())))
theorem ok97 (F:Nat):Sound Tryz.prog cfg 97 (ct97 F):=clone_ok (t:=(.sl .u8)) (T97x1 F) (fun p=>T97x2 F p) (ok97x1 F) (ok97x2 F) rfl
def E175 (F:Nat):Ev:=⟨cfg,11,ctOf [],fun _=>[],ctOf [],fun _=>none,fun _=>none⟩
theorem cts175 (F:Nat):CtsOk Tryz.prog (E175 F):=cts_of (l:=[]) (l':=[]) rfl rfl trivial trivial
def T175c (F:Nat) (p0:UInt8) {β:Type} (k:UInt8->Option β):Option β:=
 (bif ((p0 &&& (UInt8.ofNat 128)) != (UInt8.ofNat 0)) then (k ((shl8 p0 ((UInt64.ofNat 1).toNat)) ^^^ (UInt8.ofNat 29))) else (k (shl8 p0 ((UInt64.ofNat 1).toNat))))
def T175 (F:Nat) (p0:UInt8):=T175c F p0 some
def ct175 (F:Nat):Ct:=mkC 0 [.u8] [] [.u8] [] (fun x y=>T175 F x.1) (fun x y (z:UInt8)=>((z,()),()))
theorem ok175 (F:Nat):Sound Tryz.prog cfg 175 (ct175 F):=
 mkC_ok (E:=E175 F) (lp:=[]) (code:=bodyOf Tryz.f175) Tryz.func175 rfl Tryz.ntmps175 rfl rfl cok (cts175 F) mixed trivial (by kernel_rfl) (fun x y k=>T175c F x.1 k) (fun _ _ _=>by simp only [T175,T175c,oA,oC,oS,oN,elimS_bind]) (fun _ _=>by kernel_rfl)
def E169 (F:Nat):Ev:=⟨cfg,19,ctOf [(175,ct175 F)],fun _=>[],ctOf [],fun _=>none,fun _=>none⟩
theorem cts169 (F:Nat):CtsOk Tryz.prog (E169 F):=cts_of (l:=[(175,ct175 F)]) (l':=[]) rfl rfl ⟨⟨ok175 F,_,Tryz.func175,rfl,rfl⟩,trivial⟩ trivial
def L169_2c (F:Nat) (y9:UInt8) (y10:UInt8) (y11:UInt8) {β:Type} (kA:(UInt8×UInt8×UInt8)->Option β) (kO:UInt8->Option β):Option β:=
 (bif (y10 != (UInt8.ofNat 0)) then (bif ((y10 &&& (UInt8.ofNat 1)) == (UInt8.ofNat 1)) then (Option.bind (T175 F y9) fun z14=>(kA (z14,(shr8 y10 ((UInt64.ofNat 1).toNat)),(y11 ^^^ y9)))) else (Option.bind (T175 F y9) fun z15=>(kA (z15,(shr8 y10 ((UInt64.ofNat 1).toNat)),y11)))) else (kO y11))
def L169_2 (F:Nat) (y9:UInt8) (y10:UInt8) (y11:UInt8):=L169_2c F y9 y10 y11 (fun s=>some (Sum.inl s)) (fun z=>some (Sum.inr z))
def lc169_2 (F:Nat):Lc:=mkL [0,1,5] [.u8,.u8,.u8] [] [5] [.u8] [] F (fun x y (s:UInt8×UInt8×UInt8)=>L169_2 F s.1 s.2.1 s.2.2) (fun x y=>(x.1,x.2.1,x.2.2.1)) (fun x y (z:UInt8)=>((z,()),()))
theorem lo169_2 (F:Nat):LcOk Tryz.prog (E169 F) 0 (lc169_2 F) (cAt (bodyOf Tryz.f169) [0,1,1]):=
 mkL_ok (lp:=[]) (id:=0) (b:=cAt (bodyOf Tryz.f169) (0 :: 0 :: [0,1,1])) cok (cts169 F) mixed trivial (by kernel_rfl) (by kernel_rfl) (fun x y s=>(s.1,s.2.1,s.2.2,())) (fun x y s=>()) (fun x y=>rfl) (fun x y=>rfl) (fun x y s kA kO=>L169_2c F s.1 s.2.1 s.2.2 kA kO) (fun _ _ _ _ _=>by simp only [L169_2,L169_2c,oA,oC,oS,oN,elimS_l,elimS_r,elimS_bind]) (fun _ _ _=>by kernel_rfl)
def T169c (F:Nat) (p0:UInt8) (p1:UInt8) {β:Type} (k:UInt8->Option β):Option β:=
 (Option.bind (iter (fun s=>L169_2 F s.1 s.2.1 s.2.2) F (p0,p1,(UInt8.ofNat 0))) fun z16=>(k z16))
def T169 (F:Nat) (p0:UInt8) (p1:UInt8):=T169c F p0 p1 some
def ct169 (F:Nat):Ct:=mkC 0 [.u8,.u8] [] [.u8] [] (fun x y=>T169 F x.1 x.2.1) (fun x y (z:UInt8)=>((z,()),()))
theorem ok169 (F:Nat):Sound Tryz.prog cfg 169 (ct169 F):=
 mkC_ok (E:=E169 F) (lp:=[([0,1,1],lc169_2 F)]) (code:=bodyOf Tryz.f169) Tryz.func169 rfl Tryz.ntmps169 rfl rfl cok (cts169 F) mixed ⟨lo169_2 F,trivial⟩ (by kernel_rfl) (fun x y k=>T169c F x.1 x.2.1 k) (fun _ _ _=>by simp only [T169,T169c,oA,oC,oS,oN,elimS_bind]) (fun _ _=>by kernel_rfl)
def E152 (F:Nat):Ev:=⟨cfg,17,ctOf [(169,ct169 F)],fun _=>[],ctOf [],fun _=>none,fun _=>none⟩
theorem cts152 (F:Nat):CtsOk Tryz.prog (E152 F):=cts_of (l:=[(169,ct169 F)]) (l':=[]) rfl rfl ⟨⟨ok169 F,_,Tryz.func169,rfl,rfl⟩,trivial⟩ trivial
def L152_2c (F:Nat) (y9:UInt8) (y10:UInt8) (y11:Int) {β:Type} (kA:(UInt8×UInt8×Int)->Option β) (kO:UInt8->Option β):Option β:=
 (bif (decide (y11 < (7:Int))) then (Option.bind (T169 F y9 y9) fun z14=>(Option.bind (T169 F y10 z14) fun z15=>(kA (z14,z15,(w64 (y11 + (1:Int))))))) else (kO y10))
def L152_2 (F:Nat) (y9:UInt8) (y10:UInt8) (y11:Int):=L152_2c F y9 y10 y11 (fun s=>some (Sum.inl s)) (fun z=>some (Sum.inr z))
def lc152_2 (F:Nat):Lc:=mkL [0,4,7] [.u8,.u8,.i] [] [4] [.u8] [] F (fun x y (s:UInt8×UInt8×Int)=>L152_2 F s.1 s.2.1 s.2.2) (fun x y=>(x.1,x.2.1,x.2.2.1)) (fun x y (z:UInt8)=>((z,()),()))
theorem lo152_2 (F:Nat):LcOk Tryz.prog (E152 F) 0 (lc152_2 F) (cAt (bodyOf Tryz.f152) [1,0,1,1,1]):=
 mkL_ok (lp:=[]) (id:=0) (b:=cAt (bodyOf Tryz.f152) (0 :: 0 :: [1,0,1,1,1])) cok (cts152 F) mixed trivial (by kernel_rfl) (by kernel_rfl) (fun x y s=>(s.1,s.2.1,s.2.2,())) (fun x y s=>()) (fun x y=>rfl) (fun x y=>rfl) (fun x y s kA kO=>L152_2c F s.1 s.2.1 s.2.2 kA kO) (fun _ _ _ _ _=>by simp only [L152_2,L152_2c,oA,oC,oS,oN,elimS_l,elimS_r,elimS_bind]) (fun _ _ _=>by kernel_rfl)
def T152c (F:Nat) (p0:UInt8) {β:Type} (k:(UInt8×Int)->Option β):Option β:=
 (bif (p0 == (UInt8.ofNat 0)) then (k ((UInt8.ofNat 0),(1:Int))) else (Option.bind (iter (fun s=>L152_2 F s.1 s.2.1 s.2.2) F (p0,(UInt8.ofNat 1),(0:Int))) fun z16=>(k (z16,(0:Int)))))
def T152 (F:Nat) (p0:UInt8):=T152c F p0 some
def ct152 (F:Nat):Ct:=mkC 0 [.u8] [] [.u8,.i] [] (fun x y=>T152 F x.1) (fun x y (z:UInt8×Int)=>((z.1,z.2,()),()))
theorem ok152 (F:Nat):Sound Tryz.prog cfg 152 (ct152 F):=
 mkC_ok (E:=E152 F) (lp:=[([1,0,1,1,1],lc152_2 F)]) (code:=bodyOf Tryz.f152) Tryz.func152 rfl Tryz.ntmps152 rfl rfl cok (cts152 F) mixed ⟨lo152_2 F,trivial⟩ (by kernel_rfl) (fun x y k=>T152c F x.1 k) (fun _ _ _=>by simp only [T152,T152c,oA,oC,oS,oN,elimS_bind]) (fun _ _=>by kernel_rfl)
def ord118:Nat->List (Tag×Nat)
 | 9=>[(.p,0),(.p,1),(.p,2),(.p,3),(.p,4),(.p,5),(.p,6),(.p,11),(.p,12),(.p,13),(.w,7),(.p,8),(.p,9),(.p,10),(.p,14),(.w,15)]
 | _=>[]
def E118 (F:Nat):Ev:=⟨cfg,47,ctOf [(152,ct152 F)],ord118,ctOf [],fun _=>none,fun _=>none⟩
theorem cts118 (F:Nat):CtsOk Tryz.prog (E118 F):=cts_of (l:=[(152,ct152 F)]) (l':=[]) rfl rfl ⟨⟨ok152 F,_,Tryz.func152,rfl,rfl⟩,trivial⟩ trivial
def L118_4c (F:Nat) (y34:Int) (y35:Int) (y37:Int) (y38:Int) (y40:Vector Zh 16) {β:Type} (kA:(Int×(Vector Zh 16))->Option β) (kO:((Vector Zh 16))->Option β):Option β:=
 (bif (decide (y38 < y37)) then (bif (decide (y34≤y35)) then (Option.bind (inb 16 y35) fun x48=>(Option.bind (T152 F (UInt8.ofInt (ixor y35 y38))) fun z49=>(Option.bind (inb 8 y38) fun x50=>(Option.bind (vat y40 x48) fun x51=>(kA ((w64 (y38 + (1:Int))),(Vector.setIfInBounds y40 x48 (Vector.setIfInBounds x51 x50 z49.1)))))))) else (bif (y35 == y38) then (Option.bind (inb 16 y35) fun x52=>(Option.bind (inb 8 y38) fun x53=>(Option.bind (vat y40 x52) fun x54=>(kA ((w64 (y38 + (1:Int))),(Vector.setIfInBounds y40 x52 (Vector.setIfInBounds x54 x53 (UInt8.ofNat 1)))))))) else (kA ((w64 (y38 + (1:Int))),y40)))) else (kO y40))
def L118_4 (F:Nat) (y34:Int) (y35:Int) (y37:Int) (y38:Int) (y40:Vector Zh 16):=L118_4c F y34 y35 y37 y38 y40 (fun s=>some (Sum.inl s)) (fun z=>some (Sum.inr z))
def lc118_4 (F:Nat):Lc:=mkL [0,3,4,9,12,13] [.i,(.pt 0 []),.i,.i,.i,.i] [.blk 193 Qf] [0,3,9] [.i,(.pt 0 []),.i] [.blk 193 Qf] F (fun x y (s:Int×(Vector Zh 16))=>L118_4 F x.1 x.2.2.1 x.2.2.2.2.1 s.1 s.2) (fun x y=>(x.2.2.2.2.2.1,y.1.2.1)) (fun x y (z:(Vector Zh 16))=>((x.1,(),x.2.2.2.1,()),((y.1.1,z,()),())))
theorem lo118_4 (F:Nat):LcOk Tryz.prog (E118 F) 0 (lc118_4 F) (cAt (bodyOf Tryz.f118) [1,1,0,0,1,1,0,0,1,0,1,1]):=
 mkL_ok (lp:=[]) (id:=2) (b:=cAt (bodyOf Tryz.f118) (0 :: 0 :: [1,1,0,0,1,1,0,0,1,0,1,1])) cok (cts118 F) mixed trivial (by kernel_rfl) (by kernel_rfl) (fun x y s=>(x.1,(),x.2.2.1,x.2.2.2.1,x.2.2.2.2.1,s.1,())) (fun x y s=>((y.1.1,s.2,()),())) (fun x y=>rfl) (fun x y=>rfl) (fun x y s kA kO=>L118_4c F x.1 x.2.2.1 x.2.2.2.2.1 s.1 s.2 kA kO) (fun _ _ _ _ _=>by simp only [L118_4,L118_4c,oA,oC,oS,oN,elimS_l,elimS_r,elimS_bind]) (fun _ _ _=>by kernel_rfl)
def L118_3c (F:Nat) (y29:Int) (y30:Int) (y32:Vector Zh 16) {β:Type} (kA:(Int×(Vector Zh 16))->Option β) (kO:((Vector Zh 16))->Option β):Option β:=
 (bif (decide (y30 < (16:Int))) then (Option.bind (iter (fun s=>L118_4 F y29 y30 y29 s.1 s.2) F ((0:Int),y32)) fun z55=>(kA ((w64 (y30 + (1:Int))),z55))) else (kO y32))
def L118_3 (F:Nat) (y29:Int) (y30:Int) (y32:Vector Zh 16):=L118_3c F y29 y30 y32 (fun s=>some (Sum.inl s)) (fun z=>some (Sum.inr z))
def lc118_3 (F:Nat):Lc:=mkL [0,3,9] [.i,(.pt 0 []),.i] [.blk 193 Qf] [3] [(.pt 0 [])] [.blk 193 Qf] F (fun x y (s:Int×(Vector Zh 16))=>L118_3 F x.1 s.1 s.2) (fun x y=>(x.2.2.1,y.1.2.1)) (fun x y (z:(Vector Zh 16))=>(((),()),((y.1.1,z,()),())))
theorem lo118_3 (F:Nat):LcOk Tryz.prog (E118 F) 0 (lc118_3 F) (cAt (bodyOf Tryz.f118) [1,0,1,1]):=
 mkL_ok (lp:=[([1,1,0,0,1,1,0,0,1,0,1,1],lc118_4 F)]) (id:=0) (b:=cAt (bodyOf Tryz.f118) (0 :: 0 :: [1,0,1,1])) cok (cts118 F) mixed ⟨lo118_4 F,trivial⟩ (by kernel_rfl) (by kernel_rfl) (fun x y s=>(x.1,(),s.1,())) (fun x y s=>((y.1.1,s.2,()),())) (fun x y=>rfl) (fun x y=>rfl) (fun x y s kA kO=>L118_3c F x.1 s.1 s.2 kA kO) (fun _ _ _ _ _=>by simp only [L118_3,L118_3c,oA,oC,oS,oN,elimS_l,elimS_r,elimS_bind]) (fun _ _ _=>by kernel_rfl)
def T118c (F:Nat) (p0:Int) {β:Type} (k:((Vector Zh 16))->Option β):Option β:=
 (Option.bind (iter (fun s=>L118_3 F p0 s.1 s.2) F ((0:Int),(Vector.replicate 16 (Vector.replicate 8 (0:UInt8))))) fun z56=>(k z56))
def T118 (F:Nat) (p0:Int):=T118c F p0 some
def ct118 (F:Nat):Ct:=mkC 0 [.i] [] [(.pt 0 [])] [.blk 193 Qf] (fun x y=>T118 F x.1) (fun x y (z:(Vector Zh 16))=>(((),()),((x.1,z,()),())))
theorem ok118 (F:Nat):Sound Tryz.prog cfg 118 (ct118 F):=
 mkC_ok (E:=E118 F) (lp:=[([1,0,1,1],lc118_3 F)]) (code:=bodyOf Tryz.f118) Tryz.func118 rfl Tryz.ntmps118 rfl rfl cok (cts118 F) mixed ⟨lo118_3 F,trivial⟩ (by kernel_rfl) (fun x y k=>T118c F x.1 k) (fun _ _ _=>by simp only [T118,T118c,oA,oC,oS,oN,elimS_bind]) (fun _ _=>by kernel_rfl)
def ord119:Nat->List (Tag×Nat)
 | 5=>[(.p,0),(.p,1),(.p,3),(.p,4),(.p,5),(.p,6),(.p,7),(.p,8),(.p,9),(.p,10),(.c,11),(.p,12),(.w,2),(.w,13),(.p,14),(.b,15)]
 | _=>[]
def E119 (F:Nat):Ev:=⟨cfg,35,ctOf [],ord119,ctOf [],fun _=>none,fun _=>none⟩
theorem cts119 (F:Nat):CtsOk Tryz.prog (E119 F):=cts_of (l:=[]) (l':=[]) rfl rfl trivial trivial
def L119_2c (F:Nat) (y22:List Int) (y23:Int) (y25:Int) (y26:Vector Zh 16) (y24:Int) (y27:List Za) {β:Type} (kA:(Int×Zd)->Option β) (kO:(Zd)->Option β):Option β:=
 (bif (decide (y24 < y23)) then (Option.bind (ix y22 y24) fun x34=>(Option.bind (inb 16 x34) fun x35=>(Option.bind (gslb 8 (0:Int) y25) fun x36=>(Option.bind (vat y26 x35) fun x37=>(Option.bind (gapp ([]:List UInt8) ((x37.toList.drop x36.1).take (x36.2 - x36.1))) fun x38=>(Option.bind (inb y27.length y24) fun x39=>(kA ((w64 (y24 + (1:Int))),(List.set y27 x39 x38))))))))) else (kO y27))
def L119_2 (F:Nat) (y22:List Int) (y23:Int) (y25:Int) (y26:Vector Zh 16) (y24:Int) (y27:List Za):=L119_2c F y22 y23 y25 y26 y24 y27 (fun s=>some (Sum.inl s)) (fun z=>some (Sum.inr z))
def lc119_2 (F:Nat):Lc:=mkL [0,5,11,12,13] [(.pt 0 []),(.rw 1),(.ro .i),.i,.i] [.blk 193 Qf,.row 39 Qd] [5] [(.rw 1)] [.blk 193 Qf,.row 39 Qd] F (fun x y (s:Int×Zd)=>L119_2 F x.2.2.1 x.2.2.2.1 y.1.1 y.1.2.1 s.1 s.2) (fun x y=>(x.2.2.2.2.1,y.2.1)) (fun x y (z:Zd)=>(((),()),((y.1.1,y.1.2.1,()),z,())))
theorem lo119_2 (F:Nat):LcOk Tryz.prog (E119 F) 1 (lc119_2 F) (cAt (bodyOf Tryz.f119) [1,0,1,1]):=
 mkL_ok (lp:=[]) (id:=0) (b:=cAt (bodyOf Tryz.f119) (0 :: 0 :: [1,0,1,1])) cok (cts119 F) mixed trivial (by kernel_rfl) (by kernel_rfl) (fun x y s=>((),(),x.2.2.1,x.2.2.2.1,s.1,())) (fun x y s=>((y.1.1,y.1.2.1,()),s.2,())) (fun x y=>rfl) (fun x y=>rfl) (fun x y s kA kO=>L119_2c F x.2.2.1 x.2.2.2.1 y.1.1 y.1.2.1 s.1 s.2 kA kO) (fun _ _ _ _ _=>by simp only [L119_2,L119_2c,oA,oC,oS,oN,elimS_l,elimS_r,elimS_bind]) (fun _ _ _=>by kernel_rfl)
def T119c (F:Nat) (p0:List Int) (p1:Int) (p2:Vector Zh 16) {β:Type} (k:(Zd)->Option β):Option β:=
 (Option.bind (gmake ([]:List UInt8) (p0.length:Int) (p0.length:Int)) fun x21=>(Option.bind (iter (fun s=>L119_2 F p0 (p0.length:Int) p1 p2 s.1 s.2) F ((0:Int),x21)) fun z40=>(k z40)))
def T119 (F:Nat) (p0:List Int) (p1:Int) (p2:Vector Zh 16):=T119c F p0 p1 p2 some
def ct119 (F:Nat):Ct:=mkC 1 [(.pt 0 []),(.ro .i)] [.blk 193 Qf] [(.rw 1)] [.blk 193 Qf,.row 39 Qd] (fun x y=>T119 F x.2.1 y.1.1 y.1.2.1) (fun x y (z:Zd)=>(((),()),((y.1.1,y.1.2.1,()),z,())))
theorem ok119 (F:Nat):Sound Tryz.prog cfg 119 (ct119 F):=
 mkC_ok (E:=E119 F) (lp:=[([1,0,1,1],lc119_2 F)]) (code:=bodyOf Tryz.f119) Tryz.func119 rfl Tryz.ntmps119 rfl rfl cok (cts119 F) mixed ⟨lo119_2 F,trivial⟩ (by kernel_rfl) (fun x y k=>T119c F x.2.1 y.1.1 y.1.2.1 k) (fun _ _ _=>by simp only [T119,T119c,oA,oC,oS,oN,elimS_bind]) (fun _ _=>by kernel_rfl)
def E150 (F:Nat):Ev:=⟨cfg,10,ctOf [],fun _=>[],ctOf [],fun _=>none,fun _=>none⟩
theorem cts150 (F:Nat):CtsOk Tryz.prog (E150 F):=cts_of (l:=[]) (l':=[]) rfl rfl trivial trivial
def T150c (F:Nat) (p0:List Za) {β:Type} (k:Int->Option β):Option β:=
 (bif ((p0.length:Int) == (0:Int)) then (k (0:Int)) else (Option.bind (ix p0 (0:Int)) fun x2=>(k (x2.length:Int))))
def T150 (F:Nat) (p0:List Za):=T150c F p0 some
def ct150 (F:Nat):Ct:=mkC 0 [(.ro Qd)] [] [.i] [] (fun x y=>T150 F x.1) (fun x y (z:Int)=>((z,()),()))
theorem ok150 (F:Nat):Sound Tryz.prog cfg 150 (ct150 F):=
 mkC_ok (E:=E150 F) (lp:=[]) (code:=bodyOf Tryz.f150) Tryz.func150 rfl Tryz.ntmps150 rfl rfl cok (cts150 F) mixed trivial (by kernel_rfl) (fun x y k=>T150c F x.1 k) (fun _ _ _=>by simp only [T150,T150c,oA,oC,oS,oN,elimS_bind]) (fun _ _=>by kernel_rfl)
def E149 (F:Nat):Ev:=⟨cfg,27,ctOf [(150,ct150 F)],fun _=>[],ctOf [],fun _=>none,fun _=>none⟩
theorem cts149 (F:Nat):CtsOk Tryz.prog (E149 F):=cts_of (l:=[(150,ct150 F)]) (l':=[]) rfl rfl ⟨⟨ok150 F,_,Tryz.func150,rfl,rfl⟩,trivial⟩ trivial
def L149_2c (F:Nat) (y12:List Za) (y13:List Za) (y14:Int) (y15:Int) {β:Type} (kA:Int->Option β) (kO:Unit->Option β) (kR:Bool->Option β):Option β:=
 (bif (decide (y15 < y14)) then (Option.bind (ix y13 y15) fun x18=>(Option.bind (ix y12 (0:Int)) fun x19=>(bif ((x18.length:Int) != (x19.length:Int)) then (kR false) else (kA (w64 (y15 + (1:Int))))))) else (kO ()))
def L149_2 (F:Nat) (y12:List Za) (y13:List Za) (y14:Int) (y15:Int):Option ((Int) ⊕ ((Unit) ⊕ (Bool))):=L149_2c F y12 y13 y14 y15 (fun s=>some (.inl s)) (fun z=>some (.inr (.inl z))) (fun z=>some (.inr (.inr z)))
theorem L149_2n (F:Nat) (y12:List Za) (y13:List Za) (y14:Int) (y15:Int) {β:Type} (kA:Int->Option β) (kO:Unit->Option β) (kR:Bool->Option β):L149_2c F y12 y13 y14 y15 kA kO kR=(L149_2 F y12 y13 y14 y15).bind (elimS kA (elimS kO kR)):=by
 simp only [L149_2,L149_2c,oA,oC,oS,oN,elimS_l,elimS_r,elimS_bind]
def lc149_2 (F:Nat):Lc:=mkR [0,13,14,15] [(.ro Qd),(.ro Qd),.i,.i] [] [] [] [] [2] [.bo] [] F (fun x y (s:Int)=>L149_2 F x.1 x.2.1 x.2.2.1 s) (fun x y=>x.2.2.2.1) (fun x y (z:Unit)=>((),())) (fun x y (z:Bool)=>((z,()),()))
theorem lo149_2 (F:Nat):LcOk Tryz.prog (E149 F) 0 (lc149_2 F) (cAt (bodyOf Tryz.f149) [1,0,1,1]):=
 mkR_ok (lp:=[]) (id:=0) (b:=cAt (bodyOf Tryz.f149) (0 :: 0 :: [1,0,1,1])) cok (cts149 F) mixed trivial (by kernel_rfl) (by kernel_rfl) (fun x y s=>(x.1,x.2.1,x.2.2.1,s,())) (fun x y s=>()) (fun x y=>rfl) (fun x y=>rfl) (fun x y s kA kO kR=>L149_2c F x.1 x.2.1 x.2.2.1 s kA kO kR) (fun x y s kA kO kR=>L149_2n F x.1 x.2.1 x.2.2.1 s kA kO kR) (fun _ _ _=>by kernel_rfl)
def T149c (F:Nat) (p0:List Za) {β:Type} (k:Bool->Option β):Option β:=
 (bif (decide ((64:Int) < (p0.length:Int))) then (k false) else (Option.bind (T150 F p0) fun z11=>(bif (decide ((64:Int) < z11)) then (k false) else (Option.bind (iter (fun s=>L149_2 F p0 p0 (p0.length:Int) s) F (0:Int)) fun z20=>elimS (fun z20=>(k true)) (fun z20=>(k z20)) z20))))
def T149 (F:Nat) (p0:List Za):=T149c F p0 some
def ct149 (F:Nat):Ct:=mkC 0 [(.ro Qd)] [] [.bo] [] (fun x y=>T149 F x.1) (fun x y (z:Bool)=>((z,()),()))
theorem ok149 (F:Nat):Sound Tryz.prog cfg 149 (ct149 F):=
 mkC_ok (E:=E149 F) (lp:=[([1,0,1,1],lc149_2 F)]) (code:=bodyOf Tryz.f149) Tryz.func149 rfl Tryz.ntmps149 rfl rfl cok (cts149 F) mixed ⟨lo149_2 F,trivial⟩ (by kernel_rfl) (fun x y k=>T149c F x.1 k) (fun _ _ _=>by simp only [T149,T149c,oA,oC,oS,oN,elimS_bind]) (fun _ _=>by kernel_rfl)
def E167 (F:Nat):Ev:=⟨cfgR,21,ctOf [],fun _=>[],ctOf [],fun _=>none,fun _=>none⟩
theorem cts167 (F:Nat):CtsOk Tryz.prog (E167 F):=cts_of (l:=[]) (l':=[]) rfl rfl trivial trivial
def L167_2c (F:Nat) (y12:Int) (y13:Int) (y14:Int) (y15:List (Option Za)×List Nat) {β:Type} (kA:(Int×(List (Option Za)×List Nat))->Option β) (kO:((List (Option Za)×List Nat))->Option β):Option β:=
 (bif (decide (y14 < y13)) then (Option.bind (gmake (0:UInt8) y12 y12) fun x18=>(Option.bind (inb y15.2.length y14) fun x19=>(kA ((w64 (y14 + (1:Int))),((y15.1 ++ [some x18]),(List.set y15.2 x19 y15.1.length)))))) else (kO y15))
def L167_2 (F:Nat) (y12:Int) (y13:Int) (y14:Int) (y15:List (Option Za)×List Nat):=L167_2c F y12 y13 y14 y15 (fun s=>some (Sum.inl s)) (fun z=>some (Sum.inr z))
def lc167_2 (F:Nat):Lc:=mkL [1,5,10,11] [.i,(.rw 0),.i,.i] [.rr 39 5 .u8] [5] [(.rw 0)] [.rr 39 5 .u8] F (fun x y (s:Int×(List (Option Za)×List Nat))=>L167_2 F x.1 x.2.2.1 s.1 s.2) (fun x y=>(x.2.2.2.1,y.1)) (fun x y (z:(List (Option Za)×List Nat))=>(((),()),(z,())))
theorem lo167_2 (F:Nat):LcOk Tryz.prog (E167 F) 0 (lc167_2 F) (cAt (bodyOf Tryz.f167) [1,0,1,1]):=
 mkL_ok (lp:=[]) (id:=0) (b:=cAt (bodyOf Tryz.f167) (0 :: 0 :: [1,0,1,1])) cokR (cts167 F) mixed trivial (by kernel_rfl) (by kernel_rfl) (fun x y s=>(x.1,(),x.2.2.1,s.1,())) (fun x y s=>(s.2,())) (fun x y=>rfl) (fun x y=>rfl) (fun x y s kA kO=>L167_2c F x.1 x.2.2.1 s.1 s.2 kA kO) (fun _ _ _ _ _=>by simp only [L167_2,L167_2c,oA,oC,oS,oN,elimS_l,elimS_r,elimS_bind]) (fun _ _ _=>by kernel_rfl)
def T167c (F:Nat) (p0:Int) (p1:Int) {β:Type} (k:((List (Option Za)×List Nat))->Option β):Option β:=
 (Option.bind (gmake () p0 p0) fun x11=>(Option.bind (iter (fun s=>L167_2 F p1 ((List.range x11.length).length:Int) s.1 s.2) F ((0:Int),((List.replicate x11.length (some ([]:List UInt8))),(List.range x11.length)))) fun z20=>(k z20)))
def T167 (F:Nat) (p0:Int) (p1:Int):=T167c F p0 p1 some
def ct167 (F:Nat):Ct:=mkC 0 [.i,.i] [] [(.rw 0)] [.rr 39 5 .u8] (fun x y=>T167 F x.1 x.2.1) (fun x y (z:(List (Option Za)×List Nat))=>(((),()),(z,())))
theorem ok167 (F:Nat):Sound Tryz.prog cfg 167 (ct167 F):=
 mkC_ok (E:=E167 F) (lp:=[([1,0,1,1],lc167_2 F)]) (code:=bodyOf Tryz.f167) Tryz.func167 rfl Tryz.ntmps167 rfl rfl cokR (cts167 F) mixed ⟨lo167_2 F,trivial⟩ (by kernel_rfl) (fun x y k=>T167c F x.1 x.2.1 k) (fun _ _ _=>by simp only [T167,T167c,oA,oC,oS,oN,elimS_bind]) (fun _ _=>by kernel_rfl)
def E178 (F:Nat):Ev:=⟨cfg,24,ctOf [(169,ct169 F)],fun _=>[],ctOf [],fun _=>none,fun _=>none⟩
theorem cts178 (F:Nat):CtsOk Tryz.prog (E178 F):=cts_of (l:=[(169,ct169 F)]) (l':=[]) rfl rfl ⟨⟨ok169 F,_,Tryz.func169,rfl,rfl⟩,trivial⟩ trivial
def L178_2c (F:Nat) (y14:UInt8) (y15:Int) (y16:Vector UInt8 16) (y17:Vector UInt8 16) {β:Type} (kA:(Int×Zl×Zl)->Option β) (kO:(Zl×Zl)->Option β):Option β:=
 (bif (decide (y15 < (16:Int))) then (Option.bind (T169 F y14 (UInt8.ofInt y15)) fun z22=>(Option.bind (inb 16 y15) fun x23=>(Option.bind (T169 F y14 (UInt8.ofInt (w64 (y15 * 2 ^ min ((UInt64.ofNat 4).toNat) 64)))) fun z24=>(Option.bind (inb 16 y15) fun x25=>(kA ((w64 (y15 + (1:Int))),(Vector.setIfInBounds y16 x23 z22),(Vector.setIfInBounds y17 x25 z24))))))) else (kO (y16,y17)))
def L178_2 (F:Nat) (y14:UInt8) (y15:Int) (y16:Vector UInt8 16) (y17:Vector UInt8 16):=L178_2c F y14 y15 y16 y17 (fun s=>some (Sum.inl s)) (fun z=>some (Sum.inr z))
def lc178_2 (F:Nat):Lc:=mkL [0,3,4,6] [.u8,(.pt 0 []),(.pt 1 []),.i] [.blk 229 (.ar 16 .u8),.blk 229 (.ar 16 .u8)] [3,4] [(.pt 0 []),(.pt 1 [])] [.blk 229 (.ar 16 .u8),.blk 229 (.ar 16 .u8)] F (fun x y (s:Int×Zl×Zl)=>L178_2 F x.1 s.1 s.2.1 s.2.2) (fun x y=>(x.2.2.2.1,y.1,y.2.1)) (fun x y (z:Zl×Zl)=>(((),(),()),(z.1,z.2,())))
theorem lo178_2 (F:Nat):LcOk Tryz.prog (E178 F) 0 (lc178_2 F) (cAt (bodyOf Tryz.f178) [1,0,1,1]):=
 mkL_ok (lp:=[]) (id:=0) (b:=cAt (bodyOf Tryz.f178) (0 :: 0 :: [1,0,1,1])) cok (cts178 F) mixed trivial (by kernel_rfl) (by kernel_rfl) (fun x y s=>(x.1,(),(),s.1,())) (fun x y s=>(s.2.1,s.2.2,())) (fun x y=>rfl) (fun x y=>rfl) (fun x y s kA kO=>L178_2c F x.1 s.1 s.2.1 s.2.2 kA kO) (fun _ _ _ _ _=>by simp only [L178_2,L178_2c,oA,oC,oS,oN,elimS_l,elimS_r,elimS_bind]) (fun _ _ _=>by kernel_rfl)
def T178c (F:Nat) (p0:UInt8) {β:Type} (k:(Zl×Zl)->Option β):Option β:=
 (Option.bind (iter (fun s=>L178_2 F p0 s.1 s.2.1 s.2.2) F ((0:Int),(Vector.replicate 16 (0:UInt8)),(Vector.replicate 16 (0:UInt8)))) fun z26=>(k (z26.1,z26.2)))
def T178 (F:Nat) (p0:UInt8):=T178c F p0 some
def ct178 (F:Nat):Ct:=mkC 0 [.u8] [] [(.fn 181 .un (.pr (.pt 0 []) (.pr (.pt 1 []) .un)))] [.blk 229 (.ar 16 .u8),.blk 229 (.ar 16 .u8)] (fun x y=>T178 F x.1) (fun x y (z:Zl×Zl)=>((((),((),(),())),()),(z.1,z.2,())))
theorem ok178 (F:Nat):Sound Tryz.prog cfg 178 (ct178 F):=
 mkC_ok (E:=E178 F) (lp:=[([1,0,1,1],lc178_2 F)]) (code:=bodyOf Tryz.f178) Tryz.func178 rfl Tryz.ntmps178 rfl rfl cok (cts178 F) mixed ⟨lo178_2 F,trivial⟩ (by kernel_rfl) (fun x y k=>T178c F x.1 k) (fun _ _ _=>by simp only [T178,T178c,oA,oC,oS,oN,elimS_bind]) (fun _ _=>by kernel_rfl)
def ord181:Nat->List (Tag×Nat)
 | 1=>[(.p,0),(.p,1),(.p,2),(.r,3),(.p,4),(.p,5),(.p,6),(.r,7),(.p,8),(.p,9)]
 | _=>[]
def E181 (F:Nat):Ev:=⟨cfg,14,ctOf [],ord181,ctOf [],fun _=>none,fun _=>none⟩
theorem cts181 (F:Nat):CtsOk Tryz.prog (E181 F):=cts_of (l:=[]) (l':=[]) rfl rfl trivial trivial
def T181c (F:Nat) (p0:UInt8) (p1:Vector UInt8 16) (p2:Vector UInt8 16) {β:Type} (k:UInt8->Option β):Option β:=
 (Option.bind (vix p1 ((p0 &&& (UInt8.ofNat 15)).toNat:Int)) fun x3=>(Option.bind (vix p2 ((shr8 p0 ((UInt64.ofNat 4).toNat)).toNat:Int)) fun x4=>(k (x3 ^^^ x4))))
def T181 (F:Nat) (p0:UInt8) (p1:Vector UInt8 16) (p2:Vector UInt8 16):=T181c F p0 p1 p2 some
def ct181 (F:Nat):Ct:=mkC 0 [.u8,(.re (.ar 16 .u8)),(.re (.ar 16 .u8))] [] [.u8] [] (fun x y=>T181 F x.1 x.2.1 x.2.2.1) (fun x y (z:UInt8)=>((z,()),()))
theorem ok181 (F:Nat):Sound Tryz.prog cfg 181 (ct181 F):=
 mkC_ok (E:=E181 F) (lp:=[]) (code:=bodyOf Tryz.f181) Tryz.func181 rfl Tryz.ntmps181 rfl rfl cok (cts181 F) mixed trivial (by kernel_rfl) (fun x y k=>T181c F x.1 x.2.1 x.2.2.1 k) (fun _ _ _=>by simp only [T181,T181c,oA,oC,oS,oN,elimS_bind]) (fun _ _=>by kernel_rfl)
def E174 (F:Nat):Ev:=⟨cfg,29,ctOf [(178,ct178 F),(181,ct181 F)],fun _=>[],ctOf [],fun _=>none,fun _=>none⟩
theorem cts174 (F:Nat):CtsOk Tryz.prog (E174 F):=cts_of (l:=[(178,ct178 F),(181,ct181 F)]) (l':=[]) rfl rfl ⟨⟨ok178 F,_,Tryz.func178,rfl,rfl⟩,⟨⟨ok181 F,_,Tryz.func181,rfl,rfl⟩,trivial⟩⟩ trivial
def L174_2c (F:Nat) (y18:List UInt8) (y19:Int) (y21:Vector UInt8 16) (y22:Vector UInt8 16) (y20:Int) (y23:List UInt8) {β:Type} (kA:Zm->Option β) (kO:(Za)->Option β):Option β:=
 (bif (decide (y20 < y19)) then (Option.bind (ix y18 y20) fun x27=>(Option.bind (T181 F x27 y21 y22) fun z28=>(Option.bind (inb y23.length y20) fun x29=>(kA ((w64 (y20 + (1:Int))),(List.set y23 x29 z28)))))) else (kO y23))
def L174_2 (F:Nat) (y18:List UInt8) (y19:Int) (y21:Vector UInt8 16) (y22:Vector UInt8 16) (y20:Int) (y23:List UInt8):=L174_2c F y18 y19 y21 y22 y20 y23 (fun s=>some (Sum.inl s)) (fun z=>some (Sum.inr z))
def lc174_2 (F:Nat):Lc:=mkL [5,6,14,15,16] [(.fn 181 .un (.pr (.pt 0 []) (.pr (.pt 1 []) .un))),(.rw 2),(.ro .u8),.i,.i] [.blk 229 (.ar 16 .u8),.blk 229 (.ar 16 .u8),.row 5 .u8] [6] [(.rw 0)] [.row 5 .u8] F (fun x y (s:Int×Za)=>L174_2 F x.2.2.1 x.2.2.2.1 y.1 y.2.1 s.1 s.2) (fun x y=>(x.2.2.2.2.1,y.2.2.1)) (fun x y (z:Za)=>(((),()),(z,())))
theorem lo174_2 (F:Nat):LcOk Tryz.prog (E174 F) 0 (lc174_2 F) (cAt (bodyOf Tryz.f174) [1,0,1,1,1]):=
 mkL_ok (lp:=[]) (id:=0) (b:=cAt (bodyOf Tryz.f174) (0 :: 0 :: [1,0,1,1,1])) cok (cts174 F) mixed trivial (by kernel_rfl) (by kernel_rfl) (fun x y s=>(((),((),(),())),(),x.2.2.1,x.2.2.2.1,s.1,())) (fun x y s=>(y.1,y.2.1,s.2,())) (fun x y=>rfl) (fun x y=>rfl) (fun x y s kA kO=>L174_2c F x.2.2.1 x.2.2.2.1 y.1 y.2.1 s.1 s.2 kA kO) (fun _ _ _ _ _=>by simp only [L174_2,L174_2c,oA,oC,oS,oN,elimS_l,elimS_r,elimS_bind]) (fun _ _ _=>by kernel_rfl)
def T174c (F:Nat) (p0:List UInt8) (p1:UInt8) {β:Type} (k:(Za)->Option β):Option β:=
 (Option.bind (T178 F p1) fun z16=>(Option.bind (gmake (0:UInt8) (p0.length:Int) (p0.length:Int)) fun x17=>(Option.bind (iter (fun s=>L174_2 F p0 (p0.length:Int) z16.1 z16.2 s.1 s.2) F ((0:Int),x17)) fun z30=>(k z30))))
def T174 (F:Nat) (p0:List UInt8) (p1:UInt8):=T174c F p0 p1 some
def ct174 (F:Nat):Ct:=mkC 0 [(.ro .u8),.u8] [] [(.rw 0)] [.row 5 .u8] (fun x y=>T174 F x.1 x.2.1) (fun x y (z:Za)=>(((),()),(z,())))
theorem ok174 (F:Nat):Sound Tryz.prog cfg 174 (ct174 F):=
 mkC_ok (E:=E174 F) (lp:=[([1,0,1,1,1],lc174_2 F)]) (code:=bodyOf Tryz.f174) Tryz.func174 rfl Tryz.ntmps174 rfl rfl cok (cts174 F) mixed ⟨lo174_2 F,trivial⟩ (by kernel_rfl) (fun x y k=>T174c F x.1 x.2.1 k) (fun _ _ _=>by simp only [T174,T174c,oA,oC,oS,oN,elimS_bind]) (fun _ _=>by kernel_rfl)
def E168 (F:Nat):Ev:=⟨cfg,35,ctOf [(174,ct174 F)],fun _=>[],ctOf [],fun _=>none,fun _=>none⟩
theorem cts168 (F:Nat):CtsOk Tryz.prog (E168 F):=cts_of (l:=[(174,ct174 F)]) (l':=[]) rfl rfl ⟨⟨ok174 F,_,Tryz.func174,rfl,rfl⟩,trivial⟩ trivial
def L168_2c (F:Nat) (y16:List UInt8) (y17:Int) (y18:Int) (y19:List UInt8) {β:Type} (kA:Zm->Option β) (kO:(Za)->Option β):Option β:=
 (bif (decide (y18 < y17)) then (Option.bind (ix y16 y18) fun x24=>(Option.bind (inb y19.length y18) fun x25=>(Option.bind (y19[x25]?) fun x26=>(Option.bind (inb y19.length y18) fun x27=>(kA ((w64 (y18 + (1:Int))),(List.set y19 x27 (x26 ^^^ x24)))))))) else (kO y19))
def L168_2 (F:Nat) (y16:List UInt8) (y17:Int) (y18:Int) (y19:List UInt8):=L168_2c F y16 y17 y18 y19 (fun s=>some (Sum.inl s)) (fun z=>some (Sum.inr z))
def lc168_2 (F:Nat):Lc:=mkL [8,19,20,21] [(.rw 0),(.ro .u8),.i,.i] [.row 5 .u8] [8] [(.rw 0)] [.row 5 .u8] F (fun x y (s:Int×Za)=>L168_2 F x.2.1 x.2.2.1 s.1 s.2) (fun x y=>(x.2.2.2.1,y.1)) (fun x y (z:Za)=>(((),()),(z,())))
theorem lo168_2 (F:Nat):LcOk Tryz.prog (E168 F) 0 (lc168_2 F) (cAt (bodyOf Tryz.f168) [1,0,1,1,1]):=
 mkL_ok (lp:=[]) (id:=0) (b:=cAt (bodyOf Tryz.f168) (0 :: 0 :: [1,0,1,1,1])) cok (cts168 F) mixed trivial (by kernel_rfl) (by kernel_rfl) (fun x y s=>((),x.2.1,x.2.2.1,s.1,())) (fun x y s=>(s.2,())) (fun x y=>rfl) (fun x y=>rfl) (fun x y s kA kO=>L168_2c F x.2.1 x.2.2.1 s.1 s.2 kA kO) (fun _ _ _ _ _=>by simp only [L168_2,L168_2c,oA,oC,oS,oN,elimS_l,elimS_r,elimS_bind]) (fun _ _ _=>by kernel_rfl)
def T168c (F:Nat) (p0:List UInt8) (p1:List UInt8) (p2:UInt8) {β:Type} (k:Zm->Option β):Option β:=
 (bif ((p0.length:Int) != (p1.length:Int)) then (k ((1:Int),([]:List UInt8))) else (Option.bind (T174 F p1 p2) fun z15=>(Option.bind (iter (fun s=>L168_2 F p0 (p0.length:Int) s.1 s.2) F ((0:Int),z15)) fun z28=>(k ((0:Int),z28)))))
def T168 (F:Nat) (p0:List UInt8) (p1:List UInt8) (p2:UInt8):=T168c F p0 p1 p2 some
def ct168 (F:Nat):Ct:=mkC 0 [(.ro .u8),(.ro .u8),.u8] [] [(.rw 0),.i] [.row 5 .u8] (fun x y=>T168 F x.1 x.2.1 x.2.2.1) (fun x y (z:Int×Za)=>(((),z.1,()),(z.2,())))
theorem ok168 (F:Nat):Sound Tryz.prog cfg 168 (ct168 F):=
 mkC_ok (E:=E168 F) (lp:=[([1,0,1,1,1],lc168_2 F)]) (code:=bodyOf Tryz.f168) Tryz.func168 rfl Tryz.ntmps168 rfl rfl cok (cts168 F) mixed ⟨lo168_2 F,trivial⟩ (by kernel_rfl) (fun x y k=>T168c F x.1 x.2.1 x.2.2.1 k) (fun _ _ _=>by simp only [T168,T168c,oA,oC,oS,oN,elimS_bind]) (fun _ _=>by kernel_rfl)
def ord151:Nat->List (Tag×Nat)
 | 9=>[(.p,0),(.p,1),(.p,2),(.p,3),(.p,4),(.r,5),(.p,6),(.p,7),(.p,8),(.r,9),(.p,10),(.w,11),(.p,12),(.p,13),(.p,14),(.p,15),(.w,16)]
 | _=>[]
def E151 (F:Nat):Ev:=⟨cfgR,51,ctOf [(167,ct167 F),(168,ct168 F)],ord151,ctOf [],fun _=>none,fun _=>none⟩
theorem cts151 (F:Nat):CtsOk Tryz.prog (E151 F):=cts_of (l:=[(167,ct167 F),(168,ct168 F)]) (l':=[]) rfl rfl ⟨⟨ok167 F,_,Tryz.func167,rfl,rfl⟩,⟨⟨ok168 F,_,Tryz.func168,rfl,rfl⟩,trivial⟩⟩ trivial
def L151_4c (F:Nat) (y46:List Za) (y47:Int) (y51:List UInt8) (y52:Int) (y53:Int) (y54:List (Option Za)×List Nat) {β:Type} (kA:(Int×(List (Option Za)×List Nat))->Option β) (kO:((List (Option Za)×List Nat))->Option β):Option β:=
 (bif (decide (y53 < y52)) then (Option.bind (ix y51 y53) fun x63=>(bif (x63 != (UInt8.ofNat 0)) then (Option.bind (inb y54.2.length y47) fun x64=>(Option.bind (outG y54.2 x64) fun x65=>(Option.bind (rxG y54.1 x65) fun x66=>(Option.bind (ix y46 y53) fun x67=>(Option.bind (rxG y54.1 x65) fun x68=>(Option.bind (T168 F x68 x67 x63) fun z69=>(Option.bind (inb y54.2.length y47) fun x70=>(kA ((w64 (y53 + (1:Int))),((y54.1 ++ [some z69.2]),(List.set y54.2 x70 y54.1.length))))))))))) else (kA ((w64 (y53 + (1:Int))),y54)))) else (kO y54))
def L151_4 (F:Nat) (y46:List Za) (y47:Int) (y51:List UInt8) (y52:Int) (y53:Int) (y54:List (Option Za)×List Nat):=L151_4c F y46 y47 y51 y52 y53 y54 (fun s=>some (Sum.inl s)) (fun z=>some (Sum.inr z))
def lc151_4 (F:Nat):Lc:=mkL [1,7,8,16,17,18,23,24,25] [(.ro Qd),(.rw 0),.i,(.ro Qd),.i,.i,(.ro .u8),.i,.i] [.rr 39 5 .u8] [1,7,16,17,18] [(.ro Qd),(.rw 0),(.ro Qd),.i,.i] [.rr 39 5 .u8] F (fun x y (s:Int×(List (Option Za)×List Nat))=>L151_4 F x.1 x.2.2.1 x.2.2.2.2.2.2.1 x.2.2.2.2.2.2.2.1 s.1 s.2) (fun x y=>(x.2.2.2.2.2.2.2.2.1,y.1)) (fun x y (z:(List (Option Za)×List Nat))=>((x.1,(),x.2.2.2.1,x.2.2.2.2.1,x.2.2.2.2.2.1,()),(z,())))
theorem lo151_4 (F:Nat):LcOk Tryz.prog (E151 F) 0 (lc151_4 F) (cAt (bodyOf Tryz.f151) [1,1,0,0,1,1,0,0,1,0,1,1]):=
 mkL_ok (lp:=[]) (id:=2) (b:=cAt (bodyOf Tryz.f151) (0 :: 0 :: [1,1,0,0,1,1,0,0,1,0,1,1])) cokR (cts151 F) mixed trivial (by kernel_rfl) (by kernel_rfl) (fun x y s=>(x.1,(),x.2.2.1,x.2.2.2.1,x.2.2.2.2.1,x.2.2.2.2.2.1,x.2.2.2.2.2.2.1,x.2.2.2.2.2.2.2.1,s.1,())) (fun x y s=>(s.2,())) (fun x y=>rfl) (fun x y=>rfl) (fun x y s kA kO=>L151_4c F x.1 x.2.2.1 x.2.2.2.2.2.2.1 x.2.2.2.2.2.2.2.1 s.1 s.2 kA kO) (fun _ _ _ _ _=>by simp only [L151_4,L151_4c,oA,oC,oS,oN,elimS_l,elimS_r,elimS_bind]) (fun _ _ _=>by kernel_rfl)
def L151_3c (F:Nat) (y38:List Za) (y39:List Za) (y40:Int) (y41:Int) (y42:List (Option Za)×List Nat) {β:Type} (kA:(Int×(List (Option Za)×List Nat))->Option β) (kO:((List (Option Za)×List Nat))->Option β):Option β:=
 (bif (decide (y41 < y40)) then (Option.bind (ix y39 y41) fun x45=>(Option.bind (iter (fun s=>L151_4 F y38 y41 x45 (x45.length:Int) s.1 s.2) F ((0:Int),y42)) fun z71=>(kA ((w64 (y41 + (1:Int))),z71)))) else (kO y42))
def L151_3 (F:Nat) (y38:List Za) (y39:List Za) (y40:Int) (y41:Int) (y42:List (Option Za)×List Nat):=L151_3c F y38 y39 y40 y41 y42 (fun s=>some (Sum.inl s)) (fun z=>some (Sum.inr z))
def lc151_3 (F:Nat):Lc:=mkL [1,7,16,17,18] [(.ro Qd),(.rw 0),(.ro Qd),.i,.i] [.rr 39 5 .u8] [7] [(.rw 0)] [.rr 39 5 .u8] F (fun x y (s:Int×(List (Option Za)×List Nat))=>L151_3 F x.1 x.2.2.1 x.2.2.2.1 s.1 s.2) (fun x y=>(x.2.2.2.2.1,y.1)) (fun x y (z:(List (Option Za)×List Nat))=>(((),()),(z,())))
theorem lo151_3 (F:Nat):LcOk Tryz.prog (E151 F) 0 (lc151_3 F) (cAt (bodyOf Tryz.f151) [1,0,1,1]):=
 mkL_ok (lp:=[([1,1,0,0,1,1,0,0,1,0,1,1],lc151_4 F)]) (id:=0) (b:=cAt (bodyOf Tryz.f151) (0 :: 0 :: [1,0,1,1])) cokR (cts151 F) mixed ⟨lo151_4 F,trivial⟩ (by kernel_rfl) (by kernel_rfl) (fun x y s=>(x.1,(),x.2.2.1,x.2.2.2.1,s.1,())) (fun x y s=>(s.2,())) (fun x y=>rfl) (fun x y=>rfl) (fun x y s kA kO=>L151_3c F x.1 x.2.2.1 x.2.2.2.1 s.1 s.2 kA kO) (fun _ _ _ _ _=>by simp only [L151_3,L151_3c,oA,oC,oS,oN,elimS_l,elimS_r,elimS_bind]) (fun _ _ _=>by kernel_rfl)
def T151c (F:Nat) (p0:List Za) (p1:List Za) (p2:Int) {β:Type} (k:(Zd)->Option β):Option β:=
 (Option.bind (T167 F (p0.length:Int) p2) fun z37=>(Option.bind (iter (fun s=>L151_3 F p1 p0 (p0.length:Int) s.1 s.2) F ((0:Int),z37)) fun z72=>(Option.bind (mat z72.1 z72.2) fun x73=>(k x73))))
def T151 (F:Nat) (p0:List Za) (p1:List Za) (p2:Int):=T151c F p0 p1 p2 some
def ct151 (F:Nat):Ct:=mkC 0 [(.ro Qd),(.ro Qd),.i] [] [(.ro Qd)] [] (fun x y=>T151 F x.1 x.2.1 x.2.2.1) (fun x y (z:Zd)=>((z,()),()))
theorem ok151 (F:Nat):Sound Tryz.prog cfg 151 (ct151 F):=
 mkC_ok (E:=E151 F) (lp:=[([1,0,1,1],lc151_3 F)]) (code:=bodyOf Tryz.f151) Tryz.func151 rfl Tryz.ntmps151 rfl rfl cokR (cts151 F) mixed ⟨lo151_3 F,trivial⟩ (by kernel_rfl) (fun x y k=>T151c F x.1 x.2.1 x.2.2.1 k) (fun _ _ _=>by simp only [T151,T151c,oA,oC,oS,oN,elimS_bind]) (fun _ _=>by kernel_rfl)
def E117 (F:Nat):Ev:=⟨cfg,37,ctOf [(149,ct149 F),(150,ct150 F),(151,ct151 F)],fun _=>[],ctOf [],fun _=>none,fun _=>none⟩
theorem cts117 (F:Nat):CtsOk Tryz.prog (E117 F):=cts_of (l:=[(149,ct149 F),(150,ct150 F),(151,ct151 F)]) (l':=[]) rfl rfl ⟨⟨ok149 F,_,Tryz.func149,rfl,rfl⟩,⟨⟨ok150 F,_,Tryz.func150,rfl,rfl⟩,⟨⟨ok151 F,_,Tryz.func151,rfl,rfl⟩,trivial⟩⟩⟩ trivial
def L117_2c (F:Nat) (y18:List Za) (y19:List Za) (y20:Int) (y21:Int) {β:Type} (kA:Int->Option β) (kO:Unit->Option β) (kR:Int->Option β):Option β:=
 (bif (decide (y21 < y20)) then (Option.bind (ix y19 y21) fun x24=>(Option.bind (ix y18 (0:Int)) fun x25=>(bif ((x24.length:Int) != (x25.length:Int)) then (kR (1:Int)) else (kA (w64 (y21 + (1:Int))))))) else (kO ()))
def L117_2 (F:Nat) (y18:List Za) (y19:List Za) (y20:Int) (y21:Int):Option ((Int) ⊕ ((Unit) ⊕ (Int))):=L117_2c F y18 y19 y20 y21 (fun s=>some (.inl s)) (fun z=>some (.inr (.inl z))) (fun z=>some (.inr (.inr z)))
theorem L117_2n (F:Nat) (y18:List Za) (y19:List Za) (y20:Int) (y21:Int) {β:Type} (kA:Int->Option β) (kO:Unit->Option β) (kR:Int->Option β):L117_2c F y18 y19 y20 y21 kA kO kR=(L117_2 F y18 y19 y20 y21).bind (elimS kA (elimS kO kR)):=by
 simp only [L117_2,L117_2c,oA,oC,oS,oN,elimS_l,elimS_r,elimS_bind]
def lc117_2 (F:Nat):Lc:=mkR [0,1,18,19,20] [(.ro Qd),(.ro Qd),(.ro Qd),.i,.i] [] [0,1] [(.ro Qd),(.ro Qd)] [] [4,5] [.ns,.i] [] F (fun x y (s:Int)=>L117_2 F x.2.1 x.2.2.1 x.2.2.2.1 s) (fun x y=>x.2.2.2.2.1) (fun x y (z:Unit)=>((x.1,x.2.1,()),())) (fun x y (z:Int)=>(((),z,()),()))
theorem lo117_2 (F:Nat):LcOk Tryz.prog (E117 F) 0 (lc117_2 F) (cAt (bodyOf Tryz.f117) [1,0,1,1]):=
 mkR_ok (lp:=[]) (id:=0) (b:=cAt (bodyOf Tryz.f117) (0 :: 0 :: [1,0,1,1])) cok (cts117 F) mixed trivial (by kernel_rfl) (by kernel_rfl) (fun x y s=>(x.1,x.2.1,x.2.2.1,x.2.2.2.1,s,())) (fun x y s=>()) (fun x y=>rfl) (fun x y=>rfl) (fun x y s kA kO kR=>L117_2c F x.2.1 x.2.2.1 x.2.2.2.1 s kA kO kR) (fun x y s kA kO kR=>L117_2n F x.2.1 x.2.2.1 x.2.2.2.1 s kA kO kR) (fun _ _ _=>by kernel_rfl)
def T117c (F:Nat) (p0:List Za) (p1:List Za) {β:Type} (k:(Zd×Int)->Option β):Option β:=
 (Option.bind (T149 F p0) fun z15=>(bif (!z15) then (k (([]:List Za),(1:Int))) else (Option.bind (T150 F p0) fun z16=>(bif ((p1.length:Int) != z16) then (k (([]:List Za),(1:Int))) else (Option.bind (iter (fun s=>L117_2 F p1 p1 (p1.length:Int) s) F (0:Int)) fun z26=>elimS (fun z26=>(Option.bind (T150 F p1) fun z27=>(Option.bind (T151 F p0 p1 z27) fun z28=>(k (z28,(0:Int)))))) (fun z26=>(k (([]:List Za),z26))) z26)))))
def T117 (F:Nat) (p0:List Za) (p1:List Za):=T117c F p0 p1 some
def ct117 (F:Nat):Ct:=mkC 0 [(.ro Qd),(.ro Qd)] [] [(.ro Qd),.i] [] (fun x y=>T117 F x.1 x.2.1) (fun x y (z:Zd×Int)=>((z.1,z.2,()),()))
theorem ok117 (F:Nat):Sound Tryz.prog cfg 117 (ct117 F):=
 mkC_ok (E:=E117 F) (lp:=[([1,0,1,1],lc117_2 F)]) (code:=bodyOf Tryz.f117) Tryz.func117 rfl Tryz.ntmps117 rfl rfl cok (cts117 F) mixed ⟨lo117_2 F,trivial⟩ (by kernel_rfl) (fun x y k=>T117c F x.1 x.2.1 k) (fun _ _ _=>by simp only [T117,T117c,oA,oC,oS,oN,elimS_bind]) (fun _ _=>by kernel_rfl)
def E76 (F:Nat):Ev:=⟨cfg,62,ctOf [(35,ct35 F),(116,ct116 F),(97,ct97 F),(118,ct118 F),(119,ct119 F),(117,ct117 F)],fun _=>[],ctOf [],fun _=>none,fun _=>none⟩
theorem cts76 (F:Nat):CtsOk Tryz.prog (E76 F):=cts_of (l:=[(35,ct35 F),(116,ct116 F),(97,ct97 F),(118,ct118 F),(119,ct119 F),(117,ct117 F)]) (l':=[]) rfl rfl ⟨⟨ok35 F,_,Tryz.func35,rfl,rfl⟩,⟨⟨ok116 F,_,Tryz.func116,rfl,rfl⟩,⟨⟨ok97 F,_,Tryz.func97,rfl,rfl⟩,⟨⟨ok118 F,_,Tryz.func118,rfl,rfl⟩,⟨⟨ok119 F,_,Tryz.func119,rfl,rfl⟩,⟨⟨ok117 F,_,Tryz.func117,rfl,rfl⟩,trivial⟩⟩⟩⟩⟩⟩ trivial
def L76_3c (F:Nat) (y34:Int) (y36:List Za) (y37:List Za) {β:Type} (kA:(Zd)->Option β) (kO:(Zd)->Option β):Option β:=
 (bif (decide ((y37.length:Int) < y34)) then (Option.bind (ix y36 (0:Int)) fun x41=>(Option.bind (gmake (0:UInt8) (x41.length:Int) (x41.length:Int)) fun x42=>(Option.bind (gapp y37 ([x42]:List Za)) fun x43=>(kA x43)))) else (kO y37))
def L76_3 (F:Nat) (y34:Int) (y36:List Za) (y37:List Za):=L76_3c F y34 y36 y37 (fun s=>some (Sum.inl s)) (fun z=>some (Sum.inr z))
def lc76_3 (F:Nat):Lc:=mkL [0,1,2,8] [.i,.i,(.ro Qd),(.rw 0)] [.row 39 Qd] [0,1,8] [.i,.i,(.rw 0)] [.row 39 Qd] F (fun x y (s:Zd)=>L76_3 F x.1 x.2.2.1 s) (fun x y=>y.1) (fun x y (z:Zd)=>((x.1,x.2.1,(),()),(z,())))
theorem lo76_3 (F:Nat):LcOk Tryz.prog (E76 F) 0 (lc76_3 F) (cAt (bodyOf Tryz.f76) [0,1,1,1]):=
 mkL_ok (lp:=[]) (id:=0) (b:=cAt (bodyOf Tryz.f76) (0 :: 0 :: [0,1,1,1])) cok (cts76 F) mixed trivial (by kernel_rfl) (by kernel_rfl) (fun x y s=>(x.1,x.2.1,x.2.2.1,(),())) (fun x y s=>(s,())) (fun x y=>rfl) (fun x y=>rfl) (fun x y s kA kO=>L76_3c F x.1 x.2.2.1 s kA kO) (fun _ _ _ _ _=>by simp only [L76_3,L76_3c,oA,oC,oS,oN,elimS_l,elimS_r,elimS_bind]) (fun _ _ _=>by kernel_rfl)
def L76_4c (F:Nat) (y51:Int) (y52:Int) (y54:List Int) {β:Type} (kA:(Int×Zk)->Option β) (kO:(Zk)->Option β):Option β:=
 (bif (decide (y52 < y51)) then (Option.bind (gapp y54 ([y52]:List Int)) fun x56=>(kA ((w64 (y52 + (1:Int))),x56))) else (kO y54))
def L76_4 (F:Nat) (y51:Int) (y52:Int) (y54:List Int):=L76_4c F y51 y52 y54 (fun s=>some (Sum.inl s)) (fun z=>some (Sum.inr z))
def lc76_4 (F:Nat):Lc:=mkL [0,8,9,45,46] [.i,(.rw 0),(.rw 1),.i,.i] [.row 39 Qd,.row 3 .i] [0,8,9] [.i,(.rw 0),(.rw 1)] [.row 39 Qd,.row 3 .i] F (fun x y (s:Int×Zk)=>L76_4 F x.2.2.2.1 s.1 s.2) (fun x y=>(x.2.2.2.2.1,y.2.1)) (fun x y (z:Zk)=>((x.1,(),(),()),(y.1,z,())))
theorem lo76_4 (F:Nat):LcOk Tryz.prog (E76 F) 0 (lc76_4 F) (cAt (bodyOf Tryz.f76) [1,0,1,1,1,1,1]):=
 mkL_ok (lp:=[]) (id:=2) (b:=cAt (bodyOf Tryz.f76) (0 :: 0 :: [1,0,1,1,1,1,1])) cok (cts76 F) mixed trivial (by kernel_rfl) (by kernel_rfl) (fun x y s=>(x.1,(),(),x.2.2.2.1,s.1,())) (fun x y s=>(y.1,s.2,())) (fun x y=>rfl) (fun x y=>rfl) (fun x y s kA kO=>L76_4c F x.2.2.2.1 s.1 s.2 kA kO) (fun _ _ _ _ _=>by simp only [L76_4,L76_4c,oA,oC,oS,oN,elimS_l,elimS_r,elimS_bind]) (fun _ _ _=>by kernel_rfl)
def T76c (F:Nat) (p0:Int) (p1:Int) (p2:List Za) {β:Type} (k:(Zd×Int)->Option β):Option β:=
 (Option.bind (T35 F p0 p1) fun z31=>(bif (!z31) then (k (([]:List Za),(1:Int))) else (bif ((p2.length:Int) == (0:Int)) then (k (([]:List Za),(1:Int))) else (bif (decide (p0 < (p2.length:Int))) then (k (([]:List Za),(1:Int))) else (Option.bind (T116 F p2) fun z32=>(bif (!z32) then (k (([]:List Za),(1:Int))) else (Option.bind (T97 F p2) fun z33=>(Option.bind (iter (fun s=>L76_3 F p0 p2 s) F z33) fun z44=>(Option.bind (iter (fun s=>L76_4 F p1 s.1 s.2) F ((0:Int),([]:List Int))) fun z57=>(Option.bind (T118 F p0) fun z58=>(Option.bind (T119 F z57 p0 z58) fun z59=>(Option.bind (T117 F z59 z44) fun z60=>(k (z60.1,z60.2))))))))))))))
def T76 (F:Nat) (p0:Int) (p1:Int) (p2:List Za):=T76c F p0 p1 p2 some
def ct76 (F:Nat):Ct:=mkC 0 [.i,.i,(.ro Qd)] [] [(.ro Qd),.i] [] (fun x y=>T76 F x.1 x.2.1 x.2.2.1) (fun x y (z:Zd×Int)=>((z.1,z.2,()),()))
theorem ok76 (F:Nat):Sound Tryz.prog cfg 76 (ct76 F):=
 mkC_ok (E:=E76 F) (lp:=[([0,1,1,1],lc76_3 F),([1,0,1,1,1,1,1],lc76_4 F)]) (code:=bodyOf Tryz.f76) Tryz.func76 rfl Tryz.ntmps76 rfl rfl cok (cts76 F) mixed ⟨lo76_3 F,⟨lo76_4 F,trivial⟩⟩ (by kernel_rfl) (fun x y k=>T76c F x.1 x.2.1 x.2.2.1 k) (fun _ _ _=>by simp only [T76,T76c,oA,oC,oS,oN,elimS_bind]) (fun _ _=>by kernel_rfl)
def E122 (F:Nat):Ev:=⟨cfg,4,ctOf [],fun _=>[],ctOf [],fun _=>none,fun _=>none⟩
theorem cts122 (F:Nat):CtsOk Tryz.prog (E122 F):=cts_of (l:=[]) (l':=[]) rfl rfl trivial trivial
def T122c (F:Nat) {β:Type} (k:(Zf×Ze×Int)->Option β):Option β:=
 (k ((gv0),(Vector.replicate 64 (0:UInt8)),(0:Int)))
def T122 (F:Nat):=T122c F some
def ct122 (F:Nat):Ct:=mkC 0 [] [] [(.pt 0 [])] [.blk 198 Qa] (fun x y=>T122 F) (fun x y (z:Zf×Ze×Int)=>(((),()),((z.1,z.2.1,z.2.2,()),())))
theorem ok122 (F:Nat):Sound Tryz.prog cfg 122 (ct122 F):=
 mkC_ok (E:=E122 F) (lp:=[]) (code:=bodyOf Tryz.f122) Tryz.func122 rfl Tryz.ntmps122 rfl rfl cok (cts122 F) mixed trivial (by kernel_rfl) (fun x y k=>T122c F k) (fun _ _ _=>by simp only [T122,T122c,oA,oC,oS,oN,elimS_bind]) (fun _ _=>by kernel_rfl)
def E170 (F:Nat):Ev:=⟨cfg,17,ctOf [],fun _=>[],ctOf [],fun _=>none,fun _=>none⟩
theorem cts170 (F:Nat):CtsOk Tryz.prog (E170 F):=cts_of (l:=[]) (l':=[]) rfl rfl trivial trivial
def T170c (F:Nat) (p0:UInt32) (p1:Int) {β:Type} (k:UInt32->Option β):Option β:=
 (k ((shl32 p0 (((UInt64.ofInt p1) &&& (UInt64.ofNat 31)).toNat)) ||| (shr32 p0 (((UInt64.ofNat 32) - ((UInt64.ofInt p1) &&& (UInt64.ofNat 31))).toNat))))
def T170 (F:Nat) (p0:UInt32) (p1:Int):=T170c F p0 p1 some
def ct170 (F:Nat):Ct:=mkC 0 [.u32,.i] [] [.u32] [] (fun x y=>T170 F x.1 x.2.1) (fun x y (z:UInt32)=>((z,()),()))
theorem ok170 (F:Nat):Sound Tryz.prog cfg 170 (ct170 F):=
 mkC_ok (E:=E170 F) (lp:=[]) (code:=bodyOf Tryz.f170) Tryz.func170 rfl Tryz.ntmps170 rfl rfl cok (cts170 F) mixed trivial (by kernel_rfl) (fun x y k=>T170c F x.1 x.2.1 k) (fun _ _ _=>by simp only [T170,T170c,oA,oC,oS,oN,elimS_bind]) (fun _ _=>by kernel_rfl)
def ord153:Nat->List (Tag×Nat)
 | 6=>[(.p,0),(.p,1),(.p,2),(.r,3),(.p,4),(.p,5),(.p,6),(.p,7),(.r,8),(.p,9),(.p,10),(.p,11),(.p,12),(.p,13),(.r,14),(.p,15),(.p,16),(.p,17),(.p,18),(.p,19),(.r,20),(.p,21),(.p,22),(.p,23),(.w,24)]
 | 7=>[(.p,0),(.p,1),(.p,2),(.r,3),(.p,4),(.p,5),(.p,6),(.r,7),(.p,8),(.p,9)]
 | 10=>[(.p,0),(.p,1),(.p,2),(.p,3),(.p,4),(.r,5),(.p,6),(.p,7),(.p,8),(.p,9),(.p,10),(.p,11),(.r,12),(.p,13),(.p,14),(.w,15)]
 | 13=>[(.p,0),(.r,1),(.p,2),(.r,3),(.p,4),(.r,5),(.p,6),(.r,7),(.p,8),(.r,9),(.p,10),(.r,11),(.p,12),(.r,13),(.p,14),(.r,15),(.p,16),(.p,17),(.p,18),(.p,19),(.p,20),(.p,21),(.p,22),(.p,23)]
 | 19=>[(.p,0),(.p,1),(.p,2),(.p,3),(.p,4),(.p,5),(.p,6),(.p,7),(.p,8),(.p,9),(.p,10),(.p,11),(.p,12),(.p,13),(.r,14),(.p,15),(.p,16),(.p,17),(.r,18),(.p,19),(.p,20)]
 | 26=>[(.p,0),(.p,1),(.p,2),(.p,3),(.r,4),(.p,5),(.p,6),(.p,7),(.p,8),(.p,9),(.w,10)]
 | _=>[]
def E153 (F:Nat):Ev:=⟨cfg,212,ctOf [(170,ct170 F)],ord153,ctOf [],fun _=>none,fun _=>none⟩
theorem cts153 (F:Nat):CtsOk Tryz.prog (E153 F):=cts_of (l:=[(170,ct170 F)]) (l':=[]) rfl rfl ⟨⟨ok170 F,_,Tryz.func170,rfl,rfl⟩,trivial⟩ trivial
def L153_4c (F:Nat) (y113:Vector UInt8 64) (y110:Nat×Nat) (y111:Int) (y115:Vector UInt32 64) {β:Type} (kA:((Nat×Nat)×Int×(Vector UInt32 64))->Option β) (kO:((Vector UInt32 64))->Option β):Option β:=
 (bif (decide (y111 < (64:Int))) then (bif (decide (y111 < (16:Int))) then (Option.bind (gslb (y110.2 - y110.1) (w64 ((4:Int) * y111)) (w64 ((w64 ((4:Int) * y111)) + (4:Int)))) fun x139=>(Option.bind (inb ((y110.1 + x139.2) - (y110.1 + x139.1)) (0:Int)) fun x140=>(Option.bind (vat y113 ((y110.1 + x139.1) + x140)) fun x141=>(Option.bind (inb ((y110.1 + x139.2) - (y110.1 + x139.1)) (1:Int)) fun x142=>(Option.bind (vat y113 ((y110.1 + x139.1) + x142)) fun x143=>(Option.bind (inb ((y110.1 + x139.2) - (y110.1 + x139.1)) (2:Int)) fun x144=>(Option.bind (vat y113 ((y110.1 + x139.1) + x144)) fun x145=>(Option.bind (inb ((y110.1 + x139.2) - (y110.1 + x139.1)) (3:Int)) fun x146=>(Option.bind (vat y113 ((y110.1 + x139.1) + x146)) fun x147=>(Option.bind (inb 64 y111) fun x148=>(kA ((y110.1,y110.2),(w64 (y111 + (1:Int))),(Vector.setIfInBounds y115 x148 ((((shl32 (x141.toUInt32) ((UInt64.ofNat 24).toNat)) ||| (shl32 (x143.toUInt32) ((UInt64.ofNat 16).toNat))) ||| (shl32 (x145.toUInt32) ((UInt64.ofNat 8).toNat))) ||| (x147.toUInt32))))))))))))))) else (Option.bind (inb 64 (w64 (y111 - (2:Int)))) fun x149=>(Option.bind (vat y115 x149) fun x150=>(Option.bind (inb 64 (w64 (y111 - (15:Int)))) fun x151=>(Option.bind (vat y115 x151) fun x152=>(Option.bind (T170 F x150 (-17:Int)) fun z153=>(Option.bind (T170 F x150 (-19:Int)) fun z154=>(Option.bind (T170 F x152 (-7:Int)) fun z155=>(Option.bind (T170 F x152 (-18:Int)) fun z156=>(Option.bind (inb 64 (w64 (y111 - (7:Int)))) fun x157=>(Option.bind (vat y115 x157) fun x158=>(Option.bind (inb 64 (w64 (y111 - (16:Int)))) fun x159=>(Option.bind (vat y115 x159) fun x160=>(Option.bind (inb 64 y111) fun x161=>(kA ((y110.1,y110.2),(w64 (y111 + (1:Int))),(Vector.setIfInBounds y115 x161 (((((z153 ^^^ z154) ^^^ (shr32 x150 ((UInt64.ofNat 10).toNat))) + x158) + ((z155 ^^^ z156) ^^^ (shr32 x152 ((UInt64.ofNat 3).toNat)))) + x160)))))))))))))))))) else (kO y115))
def L153_4 (F:Nat) (y113:Vector UInt8 64) (y110:Nat×Nat) (y111:Int) (y115:Vector UInt32 64):=L153_4c F y113 y110 y111 y115 (fun s=>some (Sum.inl s)) (fun z=>some (Sum.inr z))
def lc153_4 (F:Nat):Lc:=mkL [0,1,4,27] [(.pt 0 []),(.ap 0 [1]),(.pt 1 []),.i] [.blk 198 Qa,.blk 200 (.ar 64 .u32)] [0,4] [(.pt 0 []),(.pt 1 [])] [.blk 198 Qa,.blk 200 (.ar 64 .u32)] F (fun x y (s:(Nat×Nat)×Int×(Vector UInt32 64))=>L153_4 F y.1.2.1 s.1 s.2.1 s.2.2) (fun x y=>(x.2.1,x.2.2.2.1,y.2.1)) (fun x y (z:(Vector UInt32 64))=>(((),(),()),((y.1.1,y.1.2.1,y.1.2.2.1,()),z,())))
theorem lo153_4 (F:Nat):LcOk Tryz.prog (E153 F) 1 (lc153_4 F) (cAt (bodyOf Tryz.f153) [1,0,1]):=
 mkL_ok (lp:=[]) (id:=0) (b:=cAt (bodyOf Tryz.f153) (0 :: 0 :: [1,0,1])) cok (cts153 F) mixed trivial (by kernel_rfl) (by kernel_rfl) (fun x y s=>((),s.1,(),s.2.1,())) (fun x y s=>((y.1.1,y.1.2.1,y.1.2.2.1,()),s.2.2,())) (fun x y=>rfl) (fun x y=>rfl) (fun x y s kA kO=>L153_4c F y.1.2.1 s.1 s.2.1 s.2.2 kA kO) (fun _ _ _ _ _=>by simp only [L153_4,L153_4c,oA,oC,oS,oN,elimS_l,elimS_r,elimS_bind]) (fun _ _ _=>by kernel_rfl)
def L153_5c (F:Nat) (y183:Vector UInt32 64) (y171:UInt32) (y172:UInt32) (y173:UInt32) (y174:UInt32) (y175:UInt32) (y176:UInt32) (y177:UInt32) (y178:UInt32) (y179:Int) {β:Type} (kA:(UInt32×UInt32×UInt32×UInt32×UInt32×UInt32×UInt32×UInt32×Int)->Option β) (kO:(UInt32×UInt32×UInt32×UInt32×UInt32×UInt32×UInt32×UInt32)->Option β):Option β:=
 (bif (decide (y179 < (64:Int))) then (Option.bind (T170 F y175 (-6:Int)) fun z194=>(Option.bind (T170 F y175 (-11:Int)) fun z195=>(Option.bind (T170 F y175 (-25:Int)) fun z196=>(Option.bind (T170 F y171 (-2:Int)) fun z197=>(Option.bind (T170 F y171 (-13:Int)) fun z198=>(Option.bind (T170 F y171 (-22:Int)) fun z199=>(Option.bind (vix (gv2) y179) fun x200=>(Option.bind (inb 64 y179) fun x201=>(Option.bind (vat y183 x201) fun x202=>(kA ((((((y178 + ((z194 ^^^ z195) ^^^ z196)) + ((y175 &&& y176) ^^^ ((~~~y175) &&& y177))) + x200) + x202) + (((z197 ^^^ z198) ^^^ z199) + (((y171 &&& y172) ^^^ (y171 &&& y173)) ^^^ (y172 &&& y173)))),y171,y172,y173,(y174 + ((((y178 + ((z194 ^^^ z195) ^^^ z196)) + ((y175 &&& y176) ^^^ ((~~~y175) &&& y177))) + x200) + x202)),y175,y176,y177,(w64 (y179 + (1:Int)))))))))))))) else (kO (y171,y172,y173,y174,y175,y176,y177,y178)))
def L153_5 (F:Nat) (y183:Vector UInt32 64) (y171:UInt32) (y172:UInt32) (y173:UInt32) (y174:UInt32) (y175:UInt32) (y176:UInt32) (y177:UInt32) (y178:UInt32) (y179:Int):=L153_5c F y183 y171 y172 y173 y174 y175 y176 y177 y178 y179 (fun s=>some (Sum.inl s)) (fun z=>some (Sum.inr z))
def lc153_5 (F:Nat):Lc:=mkL [0,4,11,12,13,14,15,16,17,18,19,123] [(.pt 0 []),(.pt 1 []),(.pt 2 []),.u32,.u32,.u32,.u32,.u32,.u32,.u32,.u32,.i] [.blk 198 Qa,.blk 200 (.ar 64 .u32),.blk 174 (.ar 8 .u32)] [0,11,12,13,14,15,16,17,18,19] [(.pt 0 []),(.pt 1 []),.u32,.u32,.u32,.u32,.u32,.u32,.u32,.u32] [.blk 198 Qa,.blk 174 (.ar 8 .u32)] F (fun x y (s:UInt32×UInt32×UInt32×UInt32×UInt32×UInt32×UInt32×UInt32×Int)=>L153_5 F y.2.1 s.1 s.2.1 s.2.2.1 s.2.2.2.1 s.2.2.2.2.1 s.2.2.2.2.2.1 s.2.2.2.2.2.2.1 s.2.2.2.2.2.2.2.1 s.2.2.2.2.2.2.2.2) (fun x y=>(x.2.2.2.1,x.2.2.2.2.1,x.2.2.2.2.2.1,x.2.2.2.2.2.2.1,x.2.2.2.2.2.2.2.1,x.2.2.2.2.2.2.2.2.1,x.2.2.2.2.2.2.2.2.2.1,x.2.2.2.2.2.2.2.2.2.2.1,x.2.2.2.2.2.2.2.2.2.2.2.1)) (fun x y (z:UInt32×UInt32×UInt32×UInt32×UInt32×UInt32×UInt32×UInt32)=>(((),(),z.1,z.2.1,z.2.2.1,z.2.2.2.1,z.2.2.2.2.1,z.2.2.2.2.2.1,z.2.2.2.2.2.2.1,z.2.2.2.2.2.2.2,()),((y.1.1,y.1.2.1,y.1.2.2.1,()),y.2.2.1,())))
theorem lo153_5 (F:Nat):LcOk Tryz.prog (E153 F) 1 (lc153_5 F) (cAt (bodyOf Tryz.f153) [1,0,1,1,1,1]):=
 mkL_ok (lp:=[]) (id:=2) (b:=cAt (bodyOf Tryz.f153) (0 :: 0 :: [1,0,1,1,1,1])) cok (cts153 F) mixed trivial (by kernel_rfl) (by kernel_rfl) (fun x y s=>((),(),(),s.1,s.2.1,s.2.2.1,s.2.2.2.1,s.2.2.2.2.1,s.2.2.2.2.2.1,s.2.2.2.2.2.2.1,s.2.2.2.2.2.2.2.1,s.2.2.2.2.2.2.2.2,())) (fun x y s=>((y.1.1,y.1.2.1,y.1.2.2.1,()),y.2.1,y.2.2.1,())) (fun x y=>rfl) (fun x y=>rfl) (fun x y s kA kO=>L153_5c F y.2.1 s.1 s.2.1 s.2.2.1 s.2.2.2.1 s.2.2.2.2.1 s.2.2.2.2.2.1 s.2.2.2.2.2.2.1 s.2.2.2.2.2.2.2.1 s.2.2.2.2.2.2.2.2 kA kO) (fun _ _ _ _ _=>by simp only [L153_5,L153_5c,oA,oC,oS,oN,elimS_l,elimS_r,elimS_bind]) (fun _ _ _=>by kernel_rfl)
def L153_6c (F:Nat) (y204:Vector UInt32 8) (y209:Vector UInt32 8) (y205:Int) (y206:Vector UInt32 8) {β:Type} (kA:(Int×Zf)->Option β) (kO:(Zf)->Option β):Option β:=
 (bif (decide (y205 < (8:Int))) then (Option.bind (vix y204 y205) fun x214=>(Option.bind (inb 8 y205) fun x215=>(Option.bind (vat y209 x215) fun x216=>(Option.bind (inb 8 y205) fun x217=>(kA ((w64 (y205 + (1:Int))),(Vector.setIfInBounds y206 x217 (x216 + x214)))))))) else (kO y206))
def L153_6 (F:Nat) (y204:Vector UInt32 8) (y209:Vector UInt32 8) (y205:Int) (y206:Vector UInt32 8):=L153_6c F y204 y209 y205 y206 (fun s=>some (Sum.inl s)) (fun z=>some (Sum.inr z))
def lc153_6 (F:Nat):Lc:=mkL [0,11,196,197] [(.pt 0 []),(.pt 1 []),(.ar 8 .u32),.i] [.blk 198 Qa,.blk 174 (.ar 8 .u32)] [] [] [.blk 198 Qa] F (fun x y (s:Int×Zf)=>L153_6 F x.2.2.1 y.2.1 s.1 s.2) (fun x y=>(x.2.2.2.1,y.1.1)) (fun x y (z:Zf)=>((),((z,y.1.2.1,y.1.2.2.1,()),())))
theorem lo153_6 (F:Nat):LcOk Tryz.prog (E153 F) 1 (lc153_6 F) (cAt (bodyOf Tryz.f153) [1,1,1,1,1,1]):=
 mkL_ok (lp:=[]) (id:=4) (b:=cAt (bodyOf Tryz.f153) (0 :: 0 :: [1,1,1,1,1,1])) cok (cts153 F) mixed trivial (by kernel_rfl) (by kernel_rfl) (fun x y s=>((),(),x.2.2.1,s.1,())) (fun x y s=>((s.2,y.1.2.1,y.1.2.2.1,()),y.2.1,())) (fun x y=>rfl) (fun x y=>rfl) (fun x y s kA kO=>L153_6c F x.2.2.1 y.2.1 s.1 s.2 kA kO) (fun _ _ _ _ _=>by simp only [L153_6,L153_6c,oA,oC,oS,oN,elimS_l,elimS_r,elimS_bind]) (fun _ _ _=>by kernel_rfl)
def T153c (F:Nat) (p0:Nat×Nat) (p1:Vector UInt32 8) (p2:Vector UInt8 64) {β:Type} (k:(Zf)->Option β):Option β:=
 (Option.bind (iter (fun s=>L153_4 F p2 s.1 s.2.1 s.2.2) F ((p0.1,p0.2),(0:Int),(Vector.replicate 64 (0:UInt32)))) fun z162=>(Option.bind (vat p1 0) fun x163=>(Option.bind (vat p1 1) fun x164=>(Option.bind (vat p1 2) fun x165=>(Option.bind (vat p1 3) fun x166=>(Option.bind (vat p1 4) fun x167=>(Option.bind (vat p1 5) fun x168=>(Option.bind (vat p1 6) fun x169=>(Option.bind (vat p1 7) fun x170=>(Option.bind (iter (fun s=>L153_5 F z162 s.1 s.2.1 s.2.2.1 s.2.2.2.1 s.2.2.2.2.1 s.2.2.2.2.2.1 s.2.2.2.2.2.2.1 s.2.2.2.2.2.2.2.1 s.2.2.2.2.2.2.2.2) F (x163,x164,x165,x166,x167,x168,x169,x170,(0:Int))) fun z203=>(Option.bind (iter (fun s=>L153_6 F (#v[z203.1,z203.2.1,z203.2.2.1,z203.2.2.2.1,z203.2.2.2.2.1,z203.2.2.2.2.2.1,z203.2.2.2.2.2.2.1,z203.2.2.2.2.2.2.2]:Vector UInt32 8) p1 s.1 s.2) F ((0:Int),p1)) fun z218=>(k z218))))))))))))
def T153 (F:Nat) (p0:Nat×Nat) (p1:Vector UInt32 8) (p2:Vector UInt8 64):=T153c F p0 p1 p2 some
def ct153 (F:Nat):Ct:=mkC 1 [(.pt 0 []),(.ap 0 [1])] [.blk 198 Qa] [] [.blk 198 Qa] (fun x y=>T153 F x.2.1 y.1.1 y.1.2.1) (fun x y (z:Zf)=>((),((z,y.1.2.1,y.1.2.2.1,()),())))
theorem ok153 (F:Nat):Sound Tryz.prog cfg 153 (ct153 F):=
 mkC_ok (E:=E153 F) (lp:=[([1,0,1],lc153_4 F),([1,0,1,1,1,1],lc153_5 F),([1,1,1,1,1,1],lc153_6 F)]) (code:=bodyOf Tryz.f153) Tryz.func153 rfl Tryz.ntmps153 rfl rfl cok (cts153 F) mixed ⟨lo153_4 F,⟨lo153_5 F,⟨lo153_6 F,trivial⟩⟩⟩ (by kernel_rfl) (fun x y k=>T153c F x.2.1 y.1.1 y.1.2.1 k) (fun _ _ _=>by simp only [T153,T153c,oA,oC,oS,oN,elimS_bind]) (fun _ _=>by kernel_rfl)
def ord153x1:Nat->List (Tag×Nat)
 | 6=>[(.p,0),(.p,1),(.p,2),(.r,3),(.p,4),(.p,5),(.p,6),(.p,7),(.r,8),(.p,9),(.p,10),(.p,11),(.p,12),(.p,13),(.r,14),(.p,15),(.p,16),(.p,17),(.p,18),(.p,19),(.r,20),(.p,21),(.p,22),(.p,23),(.w,24)]
 | 7=>[(.p,0),(.p,1),(.p,2),(.r,3),(.p,4),(.p,5),(.p,6),(.r,7),(.p,8),(.p,9)]
 | 10=>[(.p,0),(.p,1),(.p,2),(.p,3),(.p,4),(.r,5),(.p,6),(.p,7),(.p,8),(.p,9),(.p,10),(.p,11),(.r,12),(.p,13),(.p,14),(.w,15)]
 | 13=>[(.p,0),(.r,1),(.p,2),(.r,3),(.p,4),(.r,5),(.p,6),(.r,7),(.p,8),(.r,9),(.p,10),(.r,11),(.p,12),(.r,13),(.p,14),(.r,15),(.p,16),(.p,17),(.p,18),(.p,19),(.p,20),(.p,21),(.p,22),(.p,23)]
 | 19=>[(.p,0),(.p,1),(.p,2),(.p,3),(.p,4),(.p,5),(.p,6),(.p,7),(.p,8),(.p,9),(.p,10),(.p,11),(.p,12),(.p,13),(.r,14),(.p,15),(.p,16),(.p,17),(.r,18),(.p,19),(.p,20)]
 | 26=>[(.p,0),(.p,1),(.p,2),(.p,3),(.r,4),(.p,5),(.p,6),(.p,7),(.p,8),(.p,9),(.w,10)]
 | _=>[]
def al153x1:Nat->Option Nat
 | _=>none
def ms153x1:Nat->Option (List (Option Tag×Nat×List Nat))
 | _=>none
def E153x1 (F:Nat):Ev:=⟨cfg,212,ctOf [(170,ct170 F)],ord153x1,ctOf [],al153x1,ms153x1⟩
theorem cts153x1 (F:Nat):CtsOk Tryz.prog (E153x1 F):=cts_of (l:=[(170,ct170 F)]) (l':=[]) rfl rfl ⟨⟨ok170 F,_,Tryz.func170,rfl,rfl⟩,trivial⟩ trivial
def L153x1_4c (F:Nat) (y102:List UInt8) (y103:Int) (y107:Vector UInt32 64) {β:Type} (kA:(Int×(Vector UInt32 64))->Option β) (kO:((Vector UInt32 64))->Option β):Option β:=
 (bif (decide (y103 < (64:Int))) then (bif (decide (y103 < (16:Int))) then (Option.bind (gsl y102 (w64 ((4:Int) * y103)) (w64 ((w64 ((4:Int) * y103)) + (4:Int)))) fun x127=>(Option.bind (ix x127 (0:Int)) fun x128=>(Option.bind (ix x127 (1:Int)) fun x129=>(Option.bind (ix x127 (2:Int)) fun x130=>(Option.bind (ix x127 (3:Int)) fun x131=>(Option.bind (inb 64 y103) fun x132=>(kA ((w64 (y103 + (1:Int))),(Vector.setIfInBounds y107 x132 ((((shl32 (x128.toUInt32) ((UInt64.ofNat 24).toNat)) ||| (shl32 (x129.toUInt32) ((UInt64.ofNat 16).toNat))) ||| (shl32 (x130.toUInt32) ((UInt64.ofNat 8).toNat))) ||| (x131.toUInt32))))))))))) else (Option.bind (inb 64 (w64 (y103 - (2:Int)))) fun x133=>(Option.bind (vat y107 x133) fun x134=>(Option.bind (inb 64 (w64 (y103 - (15:Int)))) fun x135=>(Option.bind (vat y107 x135) fun x136=>(Option.bind (T170 F x134 (-17:Int)) fun z137=>(Option.bind (T170 F x134 (-19:Int)) fun z138=>(Option.bind (T170 F x136 (-7:Int)) fun z139=>(Option.bind (T170 F x136 (-18:Int)) fun z140=>(Option.bind (inb 64 (w64 (y103 - (7:Int)))) fun x141=>(Option.bind (vat y107 x141) fun x142=>(Option.bind (inb 64 (w64 (y103 - (16:Int)))) fun x143=>(Option.bind (vat y107 x143) fun x144=>(Option.bind (inb 64 y103) fun x145=>(kA ((w64 (y103 + (1:Int))),(Vector.setIfInBounds y107 x145 (((((z137 ^^^ z138) ^^^ (shr32 x134 ((UInt64.ofNat 10).toNat))) + x142) + ((z139 ^^^ z140) ^^^ (shr32 x136 ((UInt64.ofNat 3).toNat)))) + x144)))))))))))))))))) else (kO y107))
def L153x1_4 (F:Nat) (y102:List UInt8) (y103:Int) (y107:Vector UInt32 64):Option ((Int×(Vector UInt32 64)) ⊕ ((Vector UInt32 64))):=L153x1_4c F y102 y103 y107 (fun s=>some (.inl s)) (fun z=>some (.inr z))
theorem L153x1_4n (F:Nat) (y102:List UInt8) (y103:Int) (y107:Vector UInt32 64) {β:Type} (kA:(Int×(Vector UInt32 64))->Option β) (kO:((Vector UInt32 64))->Option β):L153x1_4c F y102 y103 y107 kA kO=(L153x1_4 F y102 y103 y107).bind (elimS kA kO):=by
 simp only [L153x1_4,L153x1_4c,Option.bind_assoc,cond_bind,Option.bind_some,Option.bind_none,elimS_l,elimS_r,elimS_bind]
abbrev sA153x1_4:List Sh:=[(.pt 0 []),(.ro .u8),(.pt 1 []),.i]
abbrev sAp1153x1_4:List Sh:=[(.pt 0 []),(.pt 1 [])]
abbrev sT153x1_4:List TSh:=[.blk 198 (.pr (.ar 8 .u32) (.pr (.ar 64 .u8) (.pr .i .un))),.blk 200 (.ar 64 .u32)]
abbrev sTp1153x1_4:List TSh:=[.blk 198 (.pr (.ar 8 .u32) (.pr (.ar 64 .u8) (.pr .i .un))),.blk 200 (.ar 64 .u32)]
def lc153x1_4 (F:Nat):Lc:=mkL [0,1,4,27] sA153x1_4 sT153x1_4 [0,4] sAp1153x1_4 sTp1153x1_4 F (fun x y (s:Int×(Vector UInt32 64))=>L153x1_4 F x.2.1 s.1 s.2) (fun x y=>(x.2.2.2.1,y.2.1)) (fun x y (z:(Vector UInt32 64))=>(((),(),()),((y.1.1,y.1.2.1,y.1.2.2.1,()),z,())))
theorem le153x1_4 (F:Nat) (x:dens sA153x1_4) (y:tdens sT153x1_4) (s:Int×(Vector UInt32 64)):sev (E153x1 F) 1 [] (cAt (bodyOf Tryz.f153) (0 :: 0 :: [1,0,1])) (0 :: 0 :: [1,0,1]) (mkSt [0,1,4,27] sA153x1_4 sT153x1_4 ((),x.2.1,(),s.1,()) ((y.1.1,y.1.2.1,y.1.2.2.1,()),s.2,())) (kLoop 1 [0,1,4,27] sA153x1_4 sT153x1_4 [0,4] sAp1153x1_4 sTp1153x1_4 [] [] [] 0 (fun x y=>some (.inl (x,y))) (fun x y=>some (.inr (.inl (x,y)))) (fun x y=>some (.inr (.inr (x,y))))) =
  L153x1_4c (β:=Full sA153x1_4 sT153x1_4 sAp1153x1_4 sTp1153x1_4 [] []) F x.2.1 s.1 s.2 (fun s=>some (.inl (((),x.2.1,(),s.1,()),((y.1.1,y.1.2.1,y.1.2.2.1,()),s.2,())))) (fun z=>some (.inr (.inl (((),(),()),((y.1.1,y.1.2.1,y.1.2.2.1,()),z,()))))):=by kernel_rfl
theorem lo153x1_4 (F:Nat):LcOk Tryz.prog (E153x1 F) 1 (lc153x1_4 F) (cAt (bodyOf Tryz.f153) [1,0,1]):=
 mkL_ok (lp:=[]) (id:=0) (b:=cAt (bodyOf Tryz.f153) (0 :: 0 :: [1,0,1])) cok (cts153x1 F) mixed trivial (by kernel_rfl) (by kernel_rfl) (fun x y s=>((),x.2.1,(),s.1,())) (fun x y s=>((y.1.1,y.1.2.1,y.1.2.2.1,()),s.2,())) (fun x y=>rfl) (fun x y=>rfl) (fun x y s kA kO=>L153x1_4c F x.2.1 s.1 s.2 kA kO) (fun x y s kA kO=>L153x1_4n F x.2.1 s.1 s.2 kA kO) (le153x1_4 F)
def L153x1_5c (F:Nat) (y167:Vector UInt32 64) (y155:UInt32) (y156:UInt32) (y157:UInt32) (y158:UInt32) (y159:UInt32) (y160:UInt32) (y161:UInt32) (y162:UInt32) (y163:Int) {β:Type} (kA:(UInt32×UInt32×UInt32×UInt32×UInt32×UInt32×UInt32×UInt32×Int)->Option β) (kO:(UInt32×UInt32×UInt32×UInt32×UInt32×UInt32×UInt32×UInt32)->Option β):Option β:=
 (bif (decide (y163 < (64:Int))) then (Option.bind (T170 F y159 (-6:Int)) fun z178=>(Option.bind (T170 F y159 (-11:Int)) fun z179=>(Option.bind (T170 F y159 (-25:Int)) fun z180=>(Option.bind (T170 F y155 (-2:Int)) fun z181=>(Option.bind (T170 F y155 (-13:Int)) fun z182=>(Option.bind (T170 F y155 (-22:Int)) fun z183=>(Option.bind (vix (gv2) y163) fun x184=>(Option.bind (inb 64 y163) fun x185=>(Option.bind (vat y167 x185) fun x186=>(kA ((((((y162 + ((z178 ^^^ z179) ^^^ z180)) + ((y159 &&& y160) ^^^ ((~~~y159) &&& y161))) + x184) + x186) + (((z181 ^^^ z182) ^^^ z183) + (((y155 &&& y156) ^^^ (y155 &&& y157)) ^^^ (y156 &&& y157)))),y155,y156,y157,(y158 + ((((y162 + ((z178 ^^^ z179) ^^^ z180)) + ((y159 &&& y160) ^^^ ((~~~y159) &&& y161))) + x184) + x186)),y159,y160,y161,(w64 (y163 + (1:Int)))))))))))))) else (kO (y155,y156,y157,y158,y159,y160,y161,y162)))
def L153x1_5 (F:Nat) (y167:Vector UInt32 64) (y155:UInt32) (y156:UInt32) (y157:UInt32) (y158:UInt32) (y159:UInt32) (y160:UInt32) (y161:UInt32) (y162:UInt32) (y163:Int):Option ((UInt32×UInt32×UInt32×UInt32×UInt32×UInt32×UInt32×UInt32×Int) ⊕ (UInt32×UInt32×UInt32×UInt32×UInt32×UInt32×UInt32×UInt32)):=L153x1_5c F y167 y155 y156 y157 y158 y159 y160 y161 y162 y163 (fun s=>some (.inl s)) (fun z=>some (.inr z))
theorem L153x1_5n (F:Nat) (y167:Vector UInt32 64) (y155:UInt32) (y156:UInt32) (y157:UInt32) (y158:UInt32) (y159:UInt32) (y160:UInt32) (y161:UInt32) (y162:UInt32) (y163:Int) {β:Type} (kA:(UInt32×UInt32×UInt32×UInt32×UInt32×UInt32×UInt32×UInt32×Int)->Option β) (kO:(UInt32×UInt32×UInt32×UInt32×UInt32×UInt32×UInt32×UInt32)->Option β):L153x1_5c F y167 y155 y156 y157 y158 y159 y160 y161 y162 y163 kA kO=(L153x1_5 F y167 y155 y156 y157 y158 y159 y160 y161 y162 y163).bind (elimS kA kO):=by
 simp only [L153x1_5,L153x1_5c,Option.bind_assoc,cond_bind,Option.bind_some,Option.bind_none,elimS_l,elimS_r,elimS_bind]
abbrev sA153x1_5:List Sh:=[(.pt 0 []),(.pt 1 []),(.pt 2 []),.u32,.u32,.u32,.u32,.u32,.u32,.u32,.u32,.i]
abbrev sAp1153x1_5:List Sh:=[(.pt 0 []),(.pt 1 []),.u32,.u32,.u32,.u32,.u32,.u32,.u32,.u32]
abbrev sT153x1_5:List TSh:=[.blk 198 (.pr (.ar 8 .u32) (.pr (.ar 64 .u8) (.pr .i .un))),.blk 200 (.ar 64 .u32),.blk 174 (.ar 8 .u32)]
abbrev sTp1153x1_5:List TSh:=[.blk 198 (.pr (.ar 8 .u32) (.pr (.ar 64 .u8) (.pr .i .un))),.blk 174 (.ar 8 .u32)]
def lc153x1_5 (F:Nat):Lc:=mkL [0,4,11,12,13,14,15,16,17,18,19,123] sA153x1_5 sT153x1_5 [0,11,12,13,14,15,16,17,18,19] sAp1153x1_5 sTp1153x1_5 F (fun x y (s:UInt32×UInt32×UInt32×UInt32×UInt32×UInt32×UInt32×UInt32×Int)=>L153x1_5 F y.2.1 s.1 s.2.1 s.2.2.1 s.2.2.2.1 s.2.2.2.2.1 s.2.2.2.2.2.1 s.2.2.2.2.2.2.1 s.2.2.2.2.2.2.2.1 s.2.2.2.2.2.2.2.2) (fun x y=>(x.2.2.2.1,x.2.2.2.2.1,x.2.2.2.2.2.1,x.2.2.2.2.2.2.1,x.2.2.2.2.2.2.2.1,x.2.2.2.2.2.2.2.2.1,x.2.2.2.2.2.2.2.2.2.1,x.2.2.2.2.2.2.2.2.2.2.1,x.2.2.2.2.2.2.2.2.2.2.2.1)) (fun x y (z:UInt32×UInt32×UInt32×UInt32×UInt32×UInt32×UInt32×UInt32)=>(((),(),z.1,z.2.1,z.2.2.1,z.2.2.2.1,z.2.2.2.2.1,z.2.2.2.2.2.1,z.2.2.2.2.2.2.1,z.2.2.2.2.2.2.2,()),((y.1.1,y.1.2.1,y.1.2.2.1,()),y.2.2.1,())))
theorem le153x1_5 (F:Nat) (x:dens sA153x1_5) (y:tdens sT153x1_5) (s:UInt32×UInt32×UInt32×UInt32×UInt32×UInt32×UInt32×UInt32×Int):sev (E153x1 F) 1 [] (cAt (bodyOf Tryz.f153) (0 :: 0 :: [1,0,1,1,1,1])) (0 :: 0 :: [1,0,1,1,1,1]) (mkSt [0,4,11,12,13,14,15,16,17,18,19,123] sA153x1_5 sT153x1_5 ((),(),(),s.1,s.2.1,s.2.2.1,s.2.2.2.1,s.2.2.2.2.1,s.2.2.2.2.2.1,s.2.2.2.2.2.2.1,s.2.2.2.2.2.2.2.1,s.2.2.2.2.2.2.2.2,()) ((y.1.1,y.1.2.1,y.1.2.2.1,()),y.2.1,y.2.2.1,())) (kLoop 1 [0,4,11,12,13,14,15,16,17,18,19,123] sA153x1_5 sT153x1_5 [0,11,12,13,14,15,16,17,18,19] sAp1153x1_5 sTp1153x1_5 [] [] [] 2 (fun x y=>some (.inl (x,y))) (fun x y=>some (.inr (.inl (x,y)))) (fun x y=>some (.inr (.inr (x,y))))) =
  L153x1_5c (β:=Full sA153x1_5 sT153x1_5 sAp1153x1_5 sTp1153x1_5 [] []) F y.2.1 s.1 s.2.1 s.2.2.1 s.2.2.2.1 s.2.2.2.2.1 s.2.2.2.2.2.1 s.2.2.2.2.2.2.1 s.2.2.2.2.2.2.2.1 s.2.2.2.2.2.2.2.2 (fun s=>some (.inl (((),(),(),s.1,s.2.1,s.2.2.1,s.2.2.2.1,s.2.2.2.2.1,s.2.2.2.2.2.1,s.2.2.2.2.2.2.1,s.2.2.2.2.2.2.2.1,s.2.2.2.2.2.2.2.2,()),((y.1.1,y.1.2.1,y.1.2.2.1,()),y.2.1,y.2.2.1,())))) (fun z=>some (.inr (.inl (((),(),z.1,z.2.1,z.2.2.1,z.2.2.2.1,z.2.2.2.2.1,z.2.2.2.2.2.1,z.2.2.2.2.2.2.1,z.2.2.2.2.2.2.2,()),((y.1.1,y.1.2.1,y.1.2.2.1,()),y.2.2.1,()))))):=by kernel_rfl
theorem lo153x1_5 (F:Nat):LcOk Tryz.prog (E153x1 F) 1 (lc153x1_5 F) (cAt (bodyOf Tryz.f153) [1,0,1,1,1,1]):=
 mkL_ok (lp:=[]) (id:=2) (b:=cAt (bodyOf Tryz.f153) (0 :: 0 :: [1,0,1,1,1,1])) cok (cts153x1 F) mixed trivial (by kernel_rfl) (by kernel_rfl) (fun x y s=>((),(),(),s.1,s.2.1,s.2.2.1,s.2.2.2.1,s.2.2.2.2.1,s.2.2.2.2.2.1,s.2.2.2.2.2.2.1,s.2.2.2.2.2.2.2.1,s.2.2.2.2.2.2.2.2,())) (fun x y s=>((y.1.1,y.1.2.1,y.1.2.2.1,()),y.2.1,y.2.2.1,())) (fun x y=>rfl) (fun x y=>rfl) (fun x y s kA kO=>L153x1_5c F y.2.1 s.1 s.2.1 s.2.2.1 s.2.2.2.1 s.2.2.2.2.1 s.2.2.2.2.2.1 s.2.2.2.2.2.2.1 s.2.2.2.2.2.2.2.1 s.2.2.2.2.2.2.2.2 kA kO) (fun x y s kA kO=>L153x1_5n F y.2.1 s.1 s.2.1 s.2.2.1 s.2.2.2.1 s.2.2.2.2.1 s.2.2.2.2.2.1 s.2.2.2.2.2.2.1 s.2.2.2.2.2.2.2.1 s.2.2.2.2.2.2.2.2 kA kO) (le153x1_5 F)
def L153x1_6c (F:Nat) (y188:Vector UInt32 8) (y193:Vector UInt32 8) (y189:Int) (y190:Vector UInt32 8) {β:Type} (kA:(Int×(Vector UInt32 8))->Option β) (kO:((Vector UInt32 8))->Option β):Option β:=
 (bif (decide (y189 < (8:Int))) then (Option.bind (vix y188 y189) fun x198=>(Option.bind (inb 8 y189) fun x199=>(Option.bind (vat y193 x199) fun x200=>(Option.bind (inb 8 y189) fun x201=>(kA ((w64 (y189 + (1:Int))),(Vector.setIfInBounds y190 x201 (x200 + x198)))))))) else (kO y190))
def L153x1_6 (F:Nat) (y188:Vector UInt32 8) (y193:Vector UInt32 8) (y189:Int) (y190:Vector UInt32 8):Option ((Int×(Vector UInt32 8)) ⊕ ((Vector UInt32 8))):=L153x1_6c F y188 y193 y189 y190 (fun s=>some (.inl s)) (fun z=>some (.inr z))
theorem L153x1_6n (F:Nat) (y188:Vector UInt32 8) (y193:Vector UInt32 8) (y189:Int) (y190:Vector UInt32 8) {β:Type} (kA:(Int×(Vector UInt32 8))->Option β) (kO:((Vector UInt32 8))->Option β):L153x1_6c F y188 y193 y189 y190 kA kO=(L153x1_6 F y188 y193 y189 y190).bind (elimS kA kO):=by
 simp only [L153x1_6,L153x1_6c,Option.bind_assoc,cond_bind,Option.bind_some,Option.bind_none,elimS_l,elimS_r,elimS_bind]
abbrev sA153x1_6:List Sh:=[(.pt 0 []),(.pt 1 []),(.ar 8 .u32),.i]
abbrev sAp1153x1_6:List Sh:=[]
abbrev sT153x1_6:List TSh:=[.blk 198 (.pr (.ar 8 .u32) (.pr (.ar 64 .u8) (.pr .i .un))),.blk 174 (.ar 8 .u32)]
abbrev sTp1153x1_6:List TSh:=[.blk 198 (.pr (.ar 8 .u32) (.pr (.ar 64 .u8) (.pr .i .un)))]
def lc153x1_6 (F:Nat):Lc:=mkL [0,11,196,197] sA153x1_6 sT153x1_6 [] sAp1153x1_6 sTp1153x1_6 F (fun x y (s:Int×(Vector UInt32 8))=>L153x1_6 F x.2.2.1 y.2.1 s.1 s.2) (fun x y=>(x.2.2.2.1,y.1.1)) (fun x y (z:(Vector UInt32 8))=>((),((z,y.1.2.1,y.1.2.2.1,()),())))
theorem le153x1_6 (F:Nat) (x:dens sA153x1_6) (y:tdens sT153x1_6) (s:Int×(Vector UInt32 8)):sev (E153x1 F) 1 [] (cAt (bodyOf Tryz.f153) (0 :: 0 :: [1,1,1,1,1,1])) (0 :: 0 :: [1,1,1,1,1,1]) (mkSt [0,11,196,197] sA153x1_6 sT153x1_6 ((),(),x.2.2.1,s.1,()) ((s.2,y.1.2.1,y.1.2.2.1,()),y.2.1,())) (kLoop 1 [0,11,196,197] sA153x1_6 sT153x1_6 [] sAp1153x1_6 sTp1153x1_6 [] [] [] 4 (fun x y=>some (.inl (x,y))) (fun x y=>some (.inr (.inl (x,y)))) (fun x y=>some (.inr (.inr (x,y))))) =
  L153x1_6c (β:=Full sA153x1_6 sT153x1_6 sAp1153x1_6 sTp1153x1_6 [] []) F x.2.2.1 y.2.1 s.1 s.2 (fun s=>some (.inl (((),(),x.2.2.1,s.1,()),((s.2,y.1.2.1,y.1.2.2.1,()),y.2.1,())))) (fun z=>some (.inr (.inl ((),((z,y.1.2.1,y.1.2.2.1,()),()))))):=by kernel_rfl
theorem lo153x1_6 (F:Nat):LcOk Tryz.prog (E153x1 F) 1 (lc153x1_6 F) (cAt (bodyOf Tryz.f153) [1,1,1,1,1,1]):=
 mkL_ok (lp:=[]) (id:=4) (b:=cAt (bodyOf Tryz.f153) (0 :: 0 :: [1,1,1,1,1,1])) cok (cts153x1 F) mixed trivial (by kernel_rfl) (by kernel_rfl) (fun x y s=>((),(),x.2.2.1,s.1,())) (fun x y s=>((s.2,y.1.2.1,y.1.2.2.1,()),y.2.1,())) (fun x y=>rfl) (fun x y=>rfl) (fun x y s kA kO=>L153x1_6c F x.2.2.1 y.2.1 s.1 s.2 kA kO) (fun x y s kA kO=>L153x1_6n F x.2.2.1 y.2.1 s.1 s.2 kA kO) (le153x1_6 F)
def T153x1c (F:Nat) (p0:List UInt8) (p1:Vector UInt32 8) {β:Type} (k:((Vector UInt32 8))->Option β):Option β:=
 (Option.bind (iter (fun s=>L153x1_4 F p0 s.1 s.2) F ((0:Int),(Vector.replicate 64 (0:UInt32)))) fun z146=>(Option.bind (vat p1 0) fun x147=>(Option.bind (vat p1 1) fun x148=>(Option.bind (vat p1 2) fun x149=>(Option.bind (vat p1 3) fun x150=>(Option.bind (vat p1 4) fun x151=>(Option.bind (vat p1 5) fun x152=>(Option.bind (vat p1 6) fun x153=>(Option.bind (vat p1 7) fun x154=>(Option.bind (iter (fun s=>L153x1_5 F z146 s.1 s.2.1 s.2.2.1 s.2.2.2.1 s.2.2.2.2.1 s.2.2.2.2.2.1 s.2.2.2.2.2.2.1 s.2.2.2.2.2.2.2.1 s.2.2.2.2.2.2.2.2) F (x147,x148,x149,x150,x151,x152,x153,x154,(0:Int))) fun z187=>(Option.bind (iter (fun s=>L153x1_6 F (#v[z187.1,z187.2.1,z187.2.2.1,z187.2.2.2.1,z187.2.2.2.2.1,z187.2.2.2.2.2.1,z187.2.2.2.2.2.2.1,z187.2.2.2.2.2.2.2]:Vector UInt32 8) p1 s.1 s.2) F ((0:Int),p1)) fun z202=>(k z202))))))))))))
def T153x1 (F:Nat) (p0:List UInt8) (p1:Vector UInt32 8):Option ((Vector UInt32 8)):=T153x1c F p0 p1 some
theorem T153x1n (F:Nat) (p0:List UInt8) (p1:Vector UInt32 8) {β:Type} (k:((Vector UInt32 8))->Option β):T153x1c F p0 p1 k=(T153x1 F p0 p1).bind k:=by
 simp only [T153x1,T153x1c,Option.bind_assoc,cond_bind,Option.bind_some,Option.bind_none,elimS_bind]
abbrev cA153x1:List Sh:=[(.pt 0 []),(.ro .u8)]
abbrev cB153x1:List Sh:=[]
abbrev cT153x1:List TSh:=[.blk 198 (.pr (.ar 8 .u32) (.pr (.ar 64 .u8) (.pr .i .un)))]
abbrev cU153x1:List TSh:=[.blk 198 (.pr (.ar 8 .u32) (.pr (.ar 64 .u8) (.pr .i .un)))]
def ct153x1 (F:Nat):Ct:=mkC 1 cA153x1 cT153x1 cB153x1 cU153x1 (fun x y=>T153x1 F x.2.1 y.1.1) (fun x y (z:(Vector UInt32 8))=>((),((z,y.1.2.1,y.1.2.2.1,()),())))
theorem eq153x1 (F:Nat) (x:dens cA153x1) (y:tdens cT153x1):sev (E153x1 F) 1 [([1,0,1],lc153x1_4 F),([1,0,1,1,1,1],lc153x1_5 F),([1,1,1,1,1,1],lc153x1_6 F)] (bodyOf Tryz.f153) [] (mkSt (rng 2) cA153x1 cT153x1 x y) (kFn (E153x1 F) 1 Tryz.f153.results.toList cB153x1 cU153x1 fun p q=>some (p,q)) =
  T153x1c F x.2.1 y.1.1 (fun z=>some ((),((z,y.1.2.1,y.1.2.2.1,()),()))):=by kernel_rfl
theorem ok153x1 (F:Nat):Sound Tryz.prog cfg 153 (ct153x1 F):=
 mkC_ok (E:=E153x1 F) (lp:=[([1,0,1],lc153x1_4 F),([1,0,1,1,1,1],lc153x1_5 F),([1,1,1,1,1,1],lc153x1_6 F)]) (code:=bodyOf Tryz.f153) Tryz.func153 rfl Tryz.ntmps153 rfl rfl cok (cts153x1 F) mixed ⟨lo153x1_4 F,⟨lo153x1_5 F,⟨lo153x1_6 F,trivial⟩⟩⟩ (by kernel_rfl) (fun x y k=>T153x1c F x.2.1 y.1.1 k) (fun x y k=>T153x1n F x.2.1 y.1.1 k) (eq153x1 F)
def E123 (F:Nat):Ev:=⟨cfg,57,ctOf [(153,ct153 F),(153,ct153x1 F)],fun _=>[],ctOf [],fun _=>none,fun _=>none⟩
theorem cts123 (F:Nat):CtsOk Tryz.prog (E123 F):=cts_of (l:=[(153,ct153 F),(153,ct153x1 F)]) (l':=[]) rfl rfl ⟨⟨ok153 F,_,Tryz.func153,rfl,rfl⟩,⟨⟨ok153x1 F,_,Tryz.func153,rfl,rfl⟩,trivial⟩⟩ trivial
def L123_3c (F:Nat) (y28:List UInt8) (y29:Int) (y30:Bool) (y31:Vector UInt32 8) (y32:Vector UInt8 64) {β:Type} (kO:(Za×Zf×Ze)->Option β) (kR:(Ze)->Option β):Option β:=
 (bif y30 then (Option.bind (gslb 64 y29 ((64:Nat):Int)) fun x38=>(Option.bind (gsl y28 ((Nat.min y28.length (x38.2 - x38.1)):Int) (y28.length:Int)) fun x39=>(bif (decide ((w64 (y29 + ((Nat.min y28.length (x38.2 - x38.1)):Int))) < (64:Int))) then (kR (vspl y32 x38.1 y28 (Nat.min y28.length (x38.2 - x38.1)))) else (Option.bind (gslb 64 (0:Int) ((64:Nat):Int)) fun x40=>(Option.bind (T153 F (x40.1,x40.2) y31 (vspl y32 x38.1 y28 (Nat.min y28.length (x38.2 - x38.1)))) fun z41=>(kO (x39,z41,(vspl y32 x38.1 y28 (Nat.min y28.length (x38.2 - x38.1)))))))))) else (kO (y28,y31,y32)))
def L123_3 (F:Nat) (y28:List UInt8) (y29:Int) (y30:Bool) (y31:Vector UInt32 8) (y32:Vector UInt8 64):Option ((Za×Zf×Ze) ⊕ (Ze)):=L123_3c F y28 y29 y30 y31 y32 (fun z=>some (.inl z)) (fun z=>some (.inr z))
theorem L123_3n (F:Nat) (y28:List UInt8) (y29:Int) (y30:Bool) (y31:Vector UInt32 8) (y32:Vector UInt8 64) {β:Type} (kO:(Za×Zf×Ze)->Option β) (kR:(Ze)->Option β):L123_3c F y28 y29 y30 y31 y32 kO kR=(L123_3 F y28 y29 y30 y31 y32).bind (elimS kO kR):=by
 simp only [L123_3,L123_3c,oA,oC,oS,oN,elimS_l,elimS_r,elimS_bind]
def lc123_3 (F:Nat):Lc:=mkK [0,1,4,21] [(.pt 0 []),(.ro .u8),.i,.bo] [.blk 198 Qa] [0,1] [(.pt 0 []),(.ro .u8)] [.blk 198 Qa] [] [] [.blk 198 Qa] (fun x y=>L123_3 F x.2.1 x.2.2.1 x.2.2.2.1 y.1.1 y.1.2.1) (fun x y (z:Za×Zf×Ze)=>(((),z.1,()),((z.2.1,z.2.2,y.1.2.2.1,()),()))) (fun x y (z:Ze)=>((),((y.1.1,z,y.1.2.2.1,()),())))
theorem lo123_3 (F:Nat):LcOk Tryz.prog (E123 F) 1 (lc123_3 F) (cAt (bodyOf Tryz.f123) [1,0,1,1]):=
 mkK_ok (lp:=[]) cok (cts123 F) mixed trivial (by kernel_rfl) (fun x y kO kR=>L123_3c F x.2.1 x.2.2.1 x.2.2.2.1 y.1.1 y.1.2.1 kO kR) (fun x y kO kR=>L123_3n F x.2.1 x.2.2.1 x.2.2.2.1 y.1.1 y.1.2.1 kO kR) (fun _ _=>by kernel_rfl)
def L123_4c (F:Nat) (y43:List UInt8) (y44:Vector UInt32 8) {β:Type} (kA:(Za×Zf)->Option β) (kO:(Za×Zf)->Option β):Option β:=
 (bif (decide ((64:Int)≤(y43.length:Int))) then (Option.bind (gsl y43 (0:Int) (64:Int)) fun x50=>(Option.bind (T153x1 F x50 y44) fun z51=>(Option.bind (gsl y43 (64:Int) (y43.length:Int)) fun x52=>(kA (x52,z51))))) else (kO (y43,y44)))
def L123_4 (F:Nat) (y43:List UInt8) (y44:Vector UInt32 8):=L123_4c F y43 y44 (fun s=>some (Sum.inl s)) (fun z=>some (Sum.inr z))
def lc123_4 (F:Nat):Lc:=mkL [0,1] [(.pt 0 []),(.ro .u8)] [.blk 198 Qa] [0,1] [(.pt 0 []),(.ro .u8)] [.blk 198 Qa] F (fun x y (s:Za×Zf)=>L123_4 F s.1 s.2) (fun x y=>(x.2.1,y.1.1)) (fun x y (z:Za×Zf)=>(((),z.1,()),((z.2,y.1.2.1,y.1.2.2.1,()),())))
theorem lo123_4 (F:Nat):LcOk Tryz.prog (E123 F) 1 (lc123_4 F) (cAt (bodyOf Tryz.f123) [0,1,1,1]):=
 mkL_ok (lp:=[]) (id:=0) (b:=cAt (bodyOf Tryz.f123) (0 :: 0 :: [0,1,1,1])) cok (cts123 F) mixed trivial (by kernel_rfl) (by kernel_rfl) (fun x y s=>((),s.1,())) (fun x y s=>((s.2,y.1.2.1,y.1.2.2.1,()),())) (fun x y=>rfl) (fun x y=>rfl) (fun x y s kA kO=>L123_4c F s.1 s.2 kA kO) (fun _ _ _ _ _=>by simp only [L123_4,L123_4c,oA,oC,oS,oN,elimS_l,elimS_r,elimS_bind]) (fun _ _ _=>by kernel_rfl)
def T123c (F:Nat) (p0:List UInt8) (p1:Vector UInt32 8) (p2:Vector UInt8 64) (p3:Int) {β:Type} (k:(Zf×Ze×Int)->Option β):Option β:=
 (Option.bind (L123_3 F p0 (Int.tmod p3 (64:Int)) (decide ((0:Int) < (Int.tmod p3 (64:Int)))) p1 p2) fun z42=>elimS (fun z42=>(Option.bind (iter (fun s=>L123_4 F s.1 s.2) F (z42.1,z42.2.1)) fun z53=>(Option.bind (gslb 64 (0:Int) ((64:Nat):Int)) fun x54=>(k (z53.2,(vspl z42.2.2 x54.1 z53.1 (Nat.min z53.1.length (x54.2 - x54.1))),(w64 (p3 + (p0.length:Int)))))))) (fun z42=>(k (p1,z42,(w64 (p3 + (p0.length:Int)))))) z42)
def T123 (F:Nat) (p0:List UInt8) (p1:Vector UInt32 8) (p2:Vector UInt8 64) (p3:Int):=T123c F p0 p1 p2 p3 some
def ct123 (F:Nat):Ct:=mkC 1 [(.pt 0 []),(.ro .u8)] [.blk 198 Qa] [] [.blk 198 Qa] (fun x y=>T123 F x.2.1 y.1.1 y.1.2.1 y.1.2.2.1) (fun x y (z:Zf×Ze×Int)=>((),((z.1,z.2.1,z.2.2,()),())))
theorem ok123 (F:Nat):Sound Tryz.prog cfg 123 (ct123 F):=
 mkC_ok (E:=E123 F) (lp:=[([1,0,1,1],lc123_3 F),([0,1,1,1],lc123_4 F)]) (code:=bodyOf Tryz.f123) Tryz.func123 rfl Tryz.ntmps123 rfl rfl cok (cts123 F) mixed ⟨lo123_3 F,⟨lo123_4 F,trivial⟩⟩ (by kernel_rfl) (fun x y k=>T123c F x.2.1 y.1.1 y.1.2.1 y.1.2.2.1 k) (fun _ _ _=>by simp only [T123,T123c,oA,oC,oS,oN,elimS_bind]) (fun _ _=>by kernel_rfl)
def E124 (F:Nat):Ev:=⟨cfg,68,ctOf [(123,ct123 F)],fun _=>[],ctOf [],fun _=>none,fun _=>none⟩
theorem cts124 (F:Nat):CtsOk Tryz.prog (E124 F):=cts_of (l:=[(123,ct123 F)]) (l':=[]) rfl rfl ⟨⟨ok123 F,_,Tryz.func123,rfl,rfl⟩,trivial⟩ trivial
def L124_4c (F:Nat) (y30:Zf×Ze×Int×Unit) (y34:List UInt8) {β:Type} (kA:(Za)->Option β) (kO:(Za)->Option β):Option β:=
 (bif ((Int.tmod (w64 (y30.2.2.1 + (y34.length:Int))) (64:Int)) != (56:Int)) then (Option.bind (gapp y34 ([(UInt8.ofNat 0)]:List UInt8)) fun x36=>(kA x36)) else (kO y34))
def L124_4 (F:Nat) (y30:Zf×Ze×Int×Unit) (y34:List UInt8):=L124_4c F y30 y34 (fun s=>some (Sum.inl s)) (fun z=>some (Sum.inr z))
def lc124_4 (F:Nat):Lc:=mkL [0,3,4] [(.re (.pr (.ar 8 .u32) (.pr (.ar 64 .u8) (.pr .i .un)))),(.pt 0 []),(.rw 1)] [.blk 198 Qa,.row 5 .u8] [0,3,4] [(.re (.pr (.ar 8 .u32) (.pr (.ar 64 .u8) (.pr .i .un)))),(.pt 0 []),(.rw 1)] [.blk 198 Qa,.row 5 .u8] F (fun x y (s:Za)=>L124_4 F x.1 s) (fun x y=>y.2.1) (fun x y (z:Za)=>((x.1,(),(),()),((y.1.1,y.1.2.1,y.1.2.2.1,()),z,())))
theorem lo124_4 (F:Nat):LcOk Tryz.prog (E124 F) 0 (lc124_4 F) (cAt (bodyOf Tryz.f124) [0,1,1,1]):=
 mkL_ok (lp:=[]) (id:=0) (b:=cAt (bodyOf Tryz.f124) (0 :: 0 :: [0,1,1,1])) cok (cts124 F) mixed trivial (by kernel_rfl) (by kernel_rfl) (fun x y s=>(x.1,(),(),())) (fun x y s=>((y.1.1,y.1.2.1,y.1.2.2.1,()),s,())) (fun x y=>rfl) (fun x y=>rfl) (fun x y s kA kO=>L124_4c F x.1 s kA kO) (fun _ _ _ _ _=>by simp only [L124_4,L124_4c,oA,oC,oS,oN,elimS_l,elimS_r,elimS_bind]) (fun _ _ _=>by kernel_rfl)
def L124_5c (F:Nat) (y38:UInt64) (y39:Int) (y43:List UInt8) {β:Type} (kA:Zm->Option β) (kO:(Za)->Option β):Option β:=
 (bif (decide ((0:Int)≤y39)) then (Option.bind (gnn y39) fun x46=>(Option.bind (gapp y43 ([((shr64 y38 x46).toUInt8)]:List UInt8)) fun x47=>(kA ((w64 (y39 - (8:Int))),x47)))) else (kO y43))
def L124_5 (F:Nat) (y38:UInt64) (y39:Int) (y43:List UInt8):=L124_5c F y38 y39 y43 (fun s=>some (Sum.inl s)) (fun z=>some (Sum.inr z))
def lc124_5 (F:Nat):Lc:=mkL [3,4,5,6] [(.pt 0 []),(.rw 1),.u64,.i] [.blk 198 Qa,.row 5 .u8] [3,4] [(.pt 0 []),(.rw 1)] [.blk 198 Qa,.row 5 .u8] F (fun x y (s:Int×Za)=>L124_5 F x.2.2.1 s.1 s.2) (fun x y=>(x.2.2.2.1,y.2.1)) (fun x y (z:Za)=>(((),(),()),((y.1.1,y.1.2.1,y.1.2.2.1,()),z,())))
theorem lo124_5 (F:Nat):LcOk Tryz.prog (E124 F) 0 (lc124_5 F) (cAt (bodyOf Tryz.f124) [1,0,1,1,1,1,1]):=
 mkL_ok (lp:=[]) (id:=2) (b:=cAt (bodyOf Tryz.f124) (0 :: 0 :: [1,0,1,1,1,1,1])) cok (cts124 F) mixed trivial (by kernel_rfl) (by kernel_rfl) (fun x y s=>((),(),x.2.2.1,s.1,())) (fun x y s=>((y.1.1,y.1.2.1,y.1.2.2.1,()),s.2,())) (fun x y=>rfl) (fun x y=>rfl) (fun x y s kA kO=>L124_5c F x.2.2.1 s.1 s.2 kA kO) (fun _ _ _ _ _=>by simp only [L124_5,L124_5c,oA,oC,oS,oN,elimS_l,elimS_r,elimS_bind]) (fun _ _ _=>by kernel_rfl)
def L124_6c (F:Nat) (y51:Vector UInt32 8) (y52:Int) (y53:List UInt8) {β:Type} (kA:Zm->Option β) (kO:(Za)->Option β):Option β:=
 (bif (decide (y52 < (8:Int))) then (Option.bind (vix y51 y52) fun x56=>(Option.bind (gapp y53 ([((shr32 x56 ((UInt64.ofNat 24).toNat)).toUInt8),((shr32 x56 ((UInt64.ofNat 16).toNat)).toUInt8),((shr32 x56 ((UInt64.ofNat 8).toNat)).toUInt8),(x56.toUInt8)]:List UInt8)) fun x57=>(kA ((w64 (y52 + (1:Int))),x57)))) else (kO y53))
def L124_6 (F:Nat) (y51:Vector UInt32 8) (y52:Int) (y53:List UInt8):=L124_6c F y51 y52 y53 (fun s=>some (Sum.inl s)) (fun z=>some (Sum.inr z))
def lc124_6 (F:Nat):Lc:=mkL [7,47,48] [(.rw 0),(.ar 8 .u32),.i] [.row 5 .u8] [7] [(.rw 0)] [.row 5 .u8] F (fun x y (s:Int×Za)=>L124_6 F x.2.1 s.1 s.2) (fun x y=>(x.2.2.1,y.1)) (fun x y (z:Za)=>(((),()),(z,())))
theorem lo124_6 (F:Nat):LcOk Tryz.prog (E124 F) 0 (lc124_6 F) (cAt (bodyOf Tryz.f124) [1,0,1,1,1,1,1,1,1,1]):=
 mkL_ok (lp:=[]) (id:=4) (b:=cAt (bodyOf Tryz.f124) (0 :: 0 :: [1,0,1,1,1,1,1,1,1,1])) cok (cts124 F) mixed trivial (by kernel_rfl) (by kernel_rfl) (fun x y s=>((),x.2.1,s.1,())) (fun x y s=>(s.2,())) (fun x y=>rfl) (fun x y=>rfl) (fun x y s kA kO=>L124_6c F x.2.1 s.1 s.2 kA kO) (fun _ _ _ _ _=>by simp only [L124_6,L124_6c,oA,oC,oS,oN,elimS_l,elimS_r,elimS_bind]) (fun _ _ _=>by kernel_rfl)
def T124c (F:Nat) (p0:Zf×Ze×Int×Unit) {β:Type} (k:(Za)->Option β):Option β:=
 (Option.bind (iter (fun s=>L124_4 F p0 s) F ([(UInt8.ofNat 128)]:List UInt8)) fun z37=>(Option.bind (iter (fun s=>L124_5 F ((UInt64.ofInt p0.2.2.1) * (UInt64.ofNat 8)) s.1 s.2) F ((56:Int),z37)) fun z48=>(Option.bind (T123 F z48 p0.1 p0.2.1 p0.2.2.1) fun z49=>(Option.bind (gmake (0:UInt8) (0:Int) (32:Int)) fun x50=>(Option.bind (iter (fun s=>L124_6 F z49.1 s.1 s.2) F ((0:Int),x50)) fun z58=>(k z58))))))
def T124 (F:Nat) (p0:Zf×Ze×Int×Unit):=T124c F p0 some
def ct124 (F:Nat):Ct:=mkC 0 [(.re (.pr (.ar 8 .u32) (.pr (.ar 64 .u8) (.pr .i .un))))] [] [.str] [] (fun x y=>T124 F x.1) (fun x y (z:Za)=>((z,()),()))
theorem ok124 (F:Nat):Sound Tryz.prog cfg 124 (ct124 F):=
 mkC_ok (E:=E124 F) (lp:=[([0,1,1,1],lc124_4 F),([1,0,1,1,1,1,1],lc124_5 F),([1,0,1,1,1,1,1,1,1,1],lc124_6 F)]) (code:=bodyOf Tryz.f124) Tryz.func124 rfl Tryz.ntmps124 rfl rfl cok (cts124 F) mixed ⟨lo124_4 F,⟨lo124_5 F,⟨lo124_6 F,trivial⟩⟩⟩ (by kernel_rfl) (fun x y k=>T124c F x.1 k) (fun _ _ _=>by simp only [T124,T124c,oA,oC,oS,oN,elimS_bind]) (fun _ _=>by kernel_rfl)
def E121 (F:Nat):Ev:=⟨cfg,13,ctOf [(122,ct122 F),(123,ct123 F),(124,ct124 F)],fun _=>[],ctOf [],fun _=>none,fun _=>none⟩
theorem cts121 (F:Nat):CtsOk Tryz.prog (E121 F):=cts_of (l:=[(122,ct122 F),(123,ct123 F),(124,ct124 F)]) (l':=[]) rfl rfl ⟨⟨ok122 F,_,Tryz.func122,rfl,rfl⟩,⟨⟨ok123 F,_,Tryz.func123,rfl,rfl⟩,⟨⟨ok124 F,_,Tryz.func124,rfl,rfl⟩,trivial⟩⟩⟩ trivial
def T121c (F:Nat) (p0:List UInt8) {β:Type} (k:(Za)->Option β):Option β:=
 (Option.bind (T122 F) fun z5=>(Option.bind (T123 F ([(UInt8.ofNat 0)]:List UInt8) z5.1 z5.2.1 z5.2.2) fun z6=>(Option.bind (T123 F p0 z6.1 z6.2.1 z6.2.2) fun z7=>(Option.bind (T124 F (z7.1,z7.2.1,z7.2.2,())) fun z8=>(k z8)))))
def T121 (F:Nat) (p0:List UInt8):=T121c F p0 some
def ct121 (F:Nat):Ct:=mkC 0 [(.ro .u8)] [] [.str] [] (fun x y=>T121 F x.1) (fun x y (z:Za)=>((z,()),()))
theorem ok121 (F:Nat):Sound Tryz.prog cfg 121 (ct121 F):=
 mkC_ok (E:=E121 F) (lp:=[]) (code:=bodyOf Tryz.f121) Tryz.func121 rfl Tryz.ntmps121 rfl rfl cok (cts121 F) mixed trivial (by kernel_rfl) (fun x y k=>T121c F x.1 k) (fun _ _ _=>by simp only [T121,T121c,oA,oC,oS,oN,elimS_bind]) (fun _ _=>by kernel_rfl)
def E84 (F:Nat):Ev:=⟨cfg,31,ctOf [(121,ct121 F)],fun _=>[],ctOf [],fun _=>none,fun _=>none⟩
theorem cts84 (F:Nat):CtsOk Tryz.prog (E84 F):=cts_of (l:=[(121,ct121 F)]) (l':=[]) rfl rfl ⟨⟨ok121 F,_,Tryz.func121,rfl,rfl⟩,trivial⟩ trivial
def L84_2c (F:Nat) (y26:Int) (y25:List UInt8) (y27:List Za) {β:Type} (kA:(Za×Zd)->Option β) (kO:(Zd)->Option β):Option β:=
 (bif (decide ((0:Int) < (y25.length:Int))) then (Option.bind (gsl y25 (0:Int) (if (y25.length:Int) < y26 then (y25.length:Int) else y26)) fun x32=>(Option.bind (T121 F x32) fun z33=>(Option.bind (gapp y27 ([z33]:List Za)) fun x34=>(Option.bind (gsl y25 (if (y25.length:Int) < y26 then (y25.length:Int) else y26) (y25.length:Int)) fun x35=>(kA (x35,x34)))))) else (kO y27))
def L84_2 (F:Nat) (y26:Int) (y25:List UInt8) (y27:List Za):=L84_2c F y26 y25 y27 (fun s=>some (Sum.inl s)) (fun z=>some (Sum.inr z))
def lc84_2 (F:Nat):Lc:=mkL [0,1,6] [(.ro .u8),.i,(.rw 0)] [.row 9 .s] [6] [(.rw 0)] [.row 9 .s] F (fun x y (s:Za×Zd)=>L84_2 F x.2.1 s.1 s.2) (fun x y=>(x.1,y.1)) (fun x y (z:Zd)=>(((),()),(z,())))
theorem lo84_2 (F:Nat):LcOk Tryz.prog (E84 F) 0 (lc84_2 F) (cAt (bodyOf Tryz.f84) [0,1,1,1,1]):=
 mkL_ok (lp:=[]) (id:=0) (b:=cAt (bodyOf Tryz.f84) (0 :: 0 :: [0,1,1,1,1])) cok (cts84 F) mixed trivial (by kernel_rfl) (by kernel_rfl) (fun x y s=>(s.1,x.2.1,(),())) (fun x y s=>(s.2,())) (fun x y=>rfl) (fun x y=>rfl) (fun x y s kA kO=>L84_2c F x.2.1 s.1 s.2 kA kO) (fun _ _ _ _ _=>by simp only [L84_2,L84_2c,oA,oC,oS,oN,elimS_l,elimS_r,elimS_bind]) (fun _ _ _=>by kernel_rfl)
def T84c (F:Nat) (p0:List UInt8) (p1:Int) {β:Type} (k:(Int×Zd)->Option β):Option β:=
 (bif (decide (p1 < (1:Int))) then (k ((1:Int),([]:List Za))) else (bif (decide ((1048576:Int) < (p0.length:Int))) then (k ((2:Int),([]:List Za))) else (Option.bind (iter (fun s=>L84_2 F p1 s.1 s.2) F (p0,([]:List Za))) fun z36=>(k ((0:Int),z36)))))
def T84 (F:Nat) (p0:List UInt8) (p1:Int):=T84c F p0 p1 some
def ct84 (F:Nat):Ct:=mkC 0 [(.ro .u8),.i] [] [(.rw 0),.i] [.row 9 .s] (fun x y=>T84 F x.1 x.2.1) (fun x y (z:Int×Zd)=>(((),z.1,()),(z.2,())))
theorem ok84 (F:Nat):Sound Tryz.prog cfg 84 (ct84 F):=
 mkC_ok (E:=E84 F) (lp:=[([0,1,1,1,1],lc84_2 F)]) (code:=bodyOf Tryz.f84) Tryz.func84 rfl Tryz.ntmps84 rfl rfl cok (cts84 F) mixed ⟨lo84_2 F,trivial⟩ (by kernel_rfl) (fun x y k=>T84c F x.1 x.2.1 k) (fun _ _ _=>by simp only [T84,T84c,oA,oC,oS,oN,elimS_bind]) (fun _ _=>by kernel_rfl)
def E85 (F:Nat):Ev:=⟨cfg,10,ctOf [(122,ct122 F),(123,ct123 F),(124,ct124 F)],fun _=>[],ctOf [],fun _=>none,fun _=>none⟩
theorem cts85 (F:Nat):CtsOk Tryz.prog (E85 F):=cts_of (l:=[(122,ct122 F),(123,ct123 F),(124,ct124 F)]) (l':=[]) rfl rfl ⟨⟨ok122 F,_,Tryz.func122,rfl,rfl⟩,⟨⟨ok123 F,_,Tryz.func123,rfl,rfl⟩,⟨⟨ok124 F,_,Tryz.func124,rfl,rfl⟩,trivial⟩⟩⟩ trivial
def T85c (F:Nat) (p0:List UInt8) {β:Type} (k:(Za)->Option β):Option β:=
 (Option.bind (T122 F) fun z4=>(Option.bind (T123 F p0 z4.1 z4.2.1 z4.2.2) fun z5=>(Option.bind (T124 F (z5.1,z5.2.1,z5.2.2,())) fun z6=>(k z6))))
def T85 (F:Nat) (p0:List UInt8):=T85c F p0 some
def ct85 (F:Nat):Ct:=mkC 0 [(.ro .u8)] [] [.str] [] (fun x y=>T85 F x.1) (fun x y (z:Za)=>((z,()),()))
theorem ok85 (F:Nat):Sound Tryz.prog cfg 85 (ct85 F):=
 mkC_ok (E:=E85 F) (lp:=[]) (code:=bodyOf Tryz.f85) Tryz.func85 rfl Tryz.ntmps85 rfl rfl cok (cts85 F) mixed trivial (by kernel_rfl) (fun x y k=>T85c F x.1 k) (fun _ _ _=>by simp only [T85,T85c,oA,oC,oS,oN,elimS_bind]) (fun _ _=>by kernel_rfl)
def str155_0:List UInt8:=[0,1,2,2,3,3,3,3,4,4,4,4,4,4,4,4,5,5,5,5,5,5,5,5,5,5,5,5,5,5,5,5,6,6,6,6,6,6,6,6,6,6,6,6,6,6,6,6,6,6,6,6,6,6,6,6,6,6,6,6,6,6,6,6,7,7,7,7,7,7,7,7,7,7,7,7,7,7,7,7,7,7,7,7,7,7,7,7,7,7,7,7,7,7,7,7,7,7,7,7,7,7,7,7,7,7,7,7,7,7,7,7,7,7,7,7,7,7,7,7,7,7,7,7,7,7,7,7,8,8,8,8,8,8,8,8,8,8,8,8,8,8,8,8,8,8,8,8,8,8,8,8,8,8,8,8,8,8,8,8,8,8,8,8,8,8,8,8,8,8,8,8,8,8,8,8,8,8,8,8,8,8,8,8,8,8,8,8,8,8,8,8,8,8,8,8,8,8,8,8,8,8,8,8,8,8,8,8,8,8,8,8,8,8,8,8,8,8,8,8,8,8,8,8,8,8,8,8,8,8,8,8,8,8,8,8,8,8,8,8,8,8,8,8,8,8,8,8,8,8,8,8,8,8,8,8]
def E155 (F:Nat):Ev:=⟨cfg,25,ctOf [],fun _=>[],ctOf [],fun _=>none,fun _=>none⟩
theorem cts155 (F:Nat):CtsOk Tryz.prog (E155 F):=cts_of (l:=[]) (l':=[]) rfl rfl trivial trivial
def T155c (F:Nat) (p0:UInt64) {β:Type} (k:Int->Option β):Option β:=
 (bif (decide ((UInt64.ofNat 4294967296)≤p0)) then (bif (decide ((UInt64.ofNat 65536)≤(shr64 p0 ((UInt64.ofNat 32).toNat)))) then (bif (decide ((UInt64.ofNat 256)≤(shr64 (shr64 p0 ((UInt64.ofNat 32).toNat)) ((UInt64.ofNat 16).toNat)))) then (Option.bind (ix (str155_0) (((shr64 (shr64 (shr64 p0 ((UInt64.ofNat 32).toNat)) ((UInt64.ofNat 16).toNat)) ((UInt64.ofNat 8).toNat)).toUInt8).toNat:Int)) fun x9=>(k (w64 ((w64 ((w64 ((32:Int) + (16:Int))) + (8:Int))) + (x9.toNat:Int))))) else (Option.bind (ix (str155_0) (((shr64 (shr64 p0 ((UInt64.ofNat 32).toNat)) ((UInt64.ofNat 16).toNat)).toUInt8).toNat:Int)) fun x10=>(k (w64 ((w64 ((32:Int) + (16:Int))) + (x10.toNat:Int)))))) else (bif (decide ((UInt64.ofNat 256)≤(shr64 p0 ((UInt64.ofNat 32).toNat)))) then (Option.bind (ix (str155_0) (((shr64 (shr64 p0 ((UInt64.ofNat 32).toNat)) ((UInt64.ofNat 8).toNat)).toUInt8).toNat:Int)) fun x11=>(k (w64 ((w64 ((32:Int) + (8:Int))) + (x11.toNat:Int))))) else (Option.bind (ix (str155_0) (((shr64 p0 ((UInt64.ofNat 32).toNat)).toUInt8).toNat:Int)) fun x12=>(k (w64 ((32:Int) + (x12.toNat:Int))))))) else (bif (decide ((UInt64.ofNat 65536)≤p0)) then (bif (decide ((UInt64.ofNat 256)≤(shr64 p0 ((UInt64.ofNat 16).toNat)))) then (Option.bind (ix (str155_0) (((shr64 (shr64 p0 ((UInt64.ofNat 16).toNat)) ((UInt64.ofNat 8).toNat)).toUInt8).toNat:Int)) fun x13=>(k (w64 ((w64 ((w64 ((0:Int) + (16:Int))) + (8:Int))) + (x13.toNat:Int))))) else (Option.bind (ix (str155_0) (((shr64 p0 ((UInt64.ofNat 16).toNat)).toUInt8).toNat:Int)) fun x14=>(k (w64 ((w64 ((0:Int) + (16:Int))) + (x14.toNat:Int)))))) else (bif (decide ((UInt64.ofNat 256)≤p0)) then (Option.bind (ix (str155_0) (((shr64 p0 ((UInt64.ofNat 8).toNat)).toUInt8).toNat:Int)) fun x15=>(k (w64 ((w64 ((0:Int) + (8:Int))) + (x15.toNat:Int))))) else (Option.bind (ix (str155_0) ((p0.toUInt8).toNat:Int)) fun x16=>(k (w64 ((0:Int) + (x16.toNat:Int))))))))
def T155 (F:Nat) (p0:UInt64):=T155c F p0 some
def ct155 (F:Nat):Ct:=mkC 0 [.u64] [] [.i] [] (fun x y=>T155 F x.1) (fun x y (z:Int)=>((z,()),()))
theorem ok155 (F:Nat):Sound Tryz.prog cfg 155 (ct155 F):=
 mkC_ok (E:=E155 F) (lp:=[]) (code:=bodyOf Tryz.f155) Tryz.func155 rfl Tryz.ntmps155 rfl rfl cok (cts155 F) mixed trivial (by kernel_rfl) (fun x y k=>T155c F x.1 k) (fun _ _ _=>by simp only [T155,T155c,oA,oC,oS,oN,elimS_bind]) (fun _ _=>by kernel_rfl)
def E125 (F:Nat):Ev:=⟨cfg,8,ctOf [(155,ct155 F)],fun _=>[],ctOf [],fun _=>none,fun _=>none⟩
theorem cts125 (F:Nat):CtsOk Tryz.prog (E125 F):=cts_of (l:=[(155,ct155 F)]) (l':=[]) rfl rfl ⟨⟨ok155 F,_,Tryz.func155,rfl,rfl⟩,trivial⟩ trivial
def T125c (F:Nat) (p0:UInt64) {β:Type} (k:Int->Option β):Option β:=
 (Option.bind (T155 F p0) fun z2=>(k z2))
def T125 (F:Nat) (p0:UInt64):=T125c F p0 some
def ct125 (F:Nat):Ct:=mkC 0 [.u64] [] [.i] [] (fun x y=>T125 F x.1) (fun x y (z:Int)=>((z,()),()))
theorem ok125 (F:Nat):Sound Tryz.prog cfg 125 (ct125 F):=
 mkC_ok (E:=E125 F) (lp:=[]) (code:=bodyOf Tryz.f125) Tryz.func125 rfl Tryz.ntmps125 rfl rfl cok (cts125 F) mixed trivial (by kernel_rfl) (fun x y k=>T125c F x.1 k) (fun _ _ _=>by simp only [T125,T125c,oA,oC,oS,oN,elimS_bind]) (fun _ _=>by kernel_rfl)
def E86 (F:Nat):Ev:=⟨cfg,9,ctOf [(125,ct125 F)],fun _=>[],ctOf [],fun _=>none,fun _=>none⟩
theorem cts86 (F:Nat):CtsOk Tryz.prog (E86 F):=cts_of (l:=[(125,ct125 F)]) (l':=[]) rfl rfl ⟨⟨ok125 F,_,Tryz.func125,rfl,rfl⟩,trivial⟩ trivial
def T86c (F:Nat) (p0:Int) {β:Type} (k:Int->Option β):Option β:=
 (Option.bind (T125 F (UInt64.ofInt (w64 (p0 - (1:Int))))) fun z3=>(Option.bind (gnn (w64 (z3 - (1:Int)))) fun x4=>(k (w64 ((1:Int) * 2 ^ min x4 64)))))
def T86 (F:Nat) (p0:Int):=T86c F p0 some
def ct86 (F:Nat):Ct:=mkC 0 [.i] [] [.i] [] (fun x y=>T86 F x.1) (fun x y (z:Int)=>((z,()),()))
theorem ok86 (F:Nat):Sound Tryz.prog cfg 86 (ct86 F):=
 mkC_ok (E:=E86 F) (lp:=[]) (code:=bodyOf Tryz.f86) Tryz.func86 rfl Tryz.ntmps86 rfl rfl cok (cts86 F) mixed trivial (by kernel_rfl) (fun x y k=>T86c F x.1 k) (fun _ _ _=>by simp only [T86,T86c,oA,oC,oS,oN,elimS_bind]) (fun _ _=>by kernel_rfl)
def E126 (F:Nat):Ev:=⟨cfg,20,ctOf [(122,ct122 F),(123,ct123 F),(124,ct124 F)],fun _=>[],ctOf [],fun _=>none,fun _=>none⟩
theorem cts126 (F:Nat):CtsOk Tryz.prog (E126 F):=cts_of (l:=[(122,ct122 F),(123,ct123 F),(124,ct124 F)]) (l':=[]) rfl rfl ⟨⟨ok122 F,_,Tryz.func122,rfl,rfl⟩,⟨⟨ok123 F,_,Tryz.func123,rfl,rfl⟩,⟨⟨ok124 F,_,Tryz.func124,rfl,rfl⟩,trivial⟩⟩⟩ trivial
def L126_2c (F:Nat) (y17:List Za) (y18:Int) (y19:Int) (y20:Vector UInt32 8) (y21:Vector UInt8 64) (y22:Int) {β:Type} (kA:(Int×Zf×Ze×Int)->Option β) (kO:(Zf×Ze×Int)->Option β):Option β:=
 (bif (decide (y19 < y18)) then (Option.bind (ix y17 y19) fun x26=>(Option.bind (gstr x26) fun x27=>(Option.bind (T123 F x27 y20 y21 y22) fun z28=>(kA ((w64 (y19 + (1:Int))),z28.1,z28.2.1,z28.2.2))))) else (kO (y20,y21,y22)))
def L126_2 (F:Nat) (y17:List Za) (y18:Int) (y19:Int) (y20:Vector UInt32 8) (y21:Vector UInt8 64) (y22:Int):=L126_2c F y17 y18 y19 y20 y21 y22 (fun s=>some (Sum.inl s)) (fun z=>some (Sum.inr z))
def lc126_2 (F:Nat):Lc:=mkL [3,7,8,9] [(.pt 0 []),(.ro .s),.i,.i] [.blk 198 Qa] [3] [(.pt 0 [])] [.blk 198 Qa] F (fun x y (s:Int×Zf×Ze×Int)=>L126_2 F x.2.1 x.2.2.1 s.1 s.2.1 s.2.2.1 s.2.2.2) (fun x y=>(x.2.2.2.1,y.1.1,y.1.2.1,y.1.2.2.1)) (fun x y (z:Zf×Ze×Int)=>(((),()),((z.1,z.2.1,z.2.2,()),())))
theorem lo126_2 (F:Nat):LcOk Tryz.prog (E126 F) 0 (lc126_2 F) (cAt (bodyOf Tryz.f126) [1,0,1,1]):=
 mkL_ok (lp:=[]) (id:=0) (b:=cAt (bodyOf Tryz.f126) (0 :: 0 :: [1,0,1,1])) cok (cts126 F) mixed trivial (by kernel_rfl) (by kernel_rfl) (fun x y s=>((),x.2.1,x.2.2.1,s.1,())) (fun x y s=>((s.2.1,s.2.2.1,s.2.2.2,()),())) (fun x y=>rfl) (fun x y=>rfl) (fun x y s kA kO=>L126_2c F x.2.1 x.2.2.1 s.1 s.2.1 s.2.2.1 s.2.2.2 kA kO) (fun _ _ _ _ _=>by simp only [L126_2,L126_2c,oA,oC,oS,oN,elimS_l,elimS_r,elimS_bind]) (fun _ _ _=>by kernel_rfl)
def T126c (F:Nat) (p0:List Za) {β:Type} (k:(Za)->Option β):Option β:=
 (Option.bind (T122 F) fun z16=>(Option.bind (iter (fun s=>L126_2 F p0 (p0.length:Int) s.1 s.2.1 s.2.2.1 s.2.2.2) F ((0:Int),z16.1,z16.2.1,z16.2.2)) fun z29=>(Option.bind (T124 F (z29.1,z29.2.1,z29.2.2,())) fun z30=>(k z30))))
def T126 (F:Nat) (p0:List Za):=T126c F p0 some
def ct126 (F:Nat):Ct:=mkC 0 [(.ro .s)] [] [.str] [] (fun x y=>T126 F x.1) (fun x y (z:Za)=>((z,()),()))
theorem ok126 (F:Nat):Sound Tryz.prog cfg 126 (ct126 F):=
 mkC_ok (E:=E126 F) (lp:=[([1,0,1,1],lc126_2 F)]) (code:=bodyOf Tryz.f126) Tryz.func126 rfl Tryz.ntmps126 rfl rfl cok (cts126 F) mixed ⟨lo126_2 F,trivial⟩ (by kernel_rfl) (fun x y k=>T126c F x.1 k) (fun _ _ _=>by simp only [T126,T126c,oA,oC,oS,oN,elimS_bind]) (fun _ _=>by kernel_rfl)
def E87 (F:Nat):Ev:=⟨cfg,9,ctOf [(126,ct126 F)],fun _=>[],ctOf [],fun _=>none,fun _=>none⟩
theorem cts87 (F:Nat):CtsOk Tryz.prog (E87 F):=cts_of (l:=[(126,ct126 F)]) (l':=[]) rfl rfl ⟨⟨ok126 F,_,Tryz.func126,rfl,rfl⟩,trivial⟩ trivial
def T87c (F:Nat) (p0:List UInt8) (p1:List UInt8) {β:Type} (k:(Za)->Option β):Option β:=
 (Option.bind (T126 F ([([1]:List UInt8),p0,p1]:List Za)) fun z2=>(k z2))
def T87 (F:Nat) (p0:List UInt8) (p1:List UInt8):=T87c F p0 p1 some
def ct87 (F:Nat):Ct:=mkC 0 [.str,.str] [] [.str] [] (fun x y=>T87 F x.1 x.2.1) (fun x y (z:Za)=>((z,()),()))
theorem ok87 (F:Nat):Sound Tryz.prog cfg 87 (ct87 F):=
 mkC_ok (E:=E87 F) (lp:=[]) (code:=bodyOf Tryz.f87) Tryz.func87 rfl Tryz.ntmps87 rfl rfl cok (cts87 F) mixed trivial (by kernel_rfl) (fun x y k=>T87c F x.1 x.2.1 k) (fun _ _ _=>by simp only [T87,T87c,oA,oC,oS,oN,elimS_bind]) (fun _ _=>by kernel_rfl)
def T49rc (F:Nat) (rc:(Zd->Option (Za))) (p0:List Za) {β:Type} (k:(Za)->Option β):Option β:=
 (bif ((p0.length:Int) == (0:Int)) then (Option.bind (T85 F ([]:List UInt8)) fun z9=>(k z9)) else (bif ((p0.length:Int) == (1:Int)) then (Option.bind (ix p0 (0:Int)) fun x10=>(k x10)) else (Option.bind (T86 F (p0.length:Int)) fun z11=>(Option.bind (gsl p0 (0:Int) z11) fun x12=>(Option.bind (gsl p0 z11 (p0.length:Int)) fun x13=>(Option.bind (rc x12) fun z14=>(Option.bind (rc x13) fun z15=>(Option.bind (T87 F z14 z15) fun z16=>(k z16)))))))))
def T49r (F:Nat) (rc:(Zd->Option (Za))) (p0:List Za):=T49rc F rc p0 some
def T49g (F:Nat):Nat->Zd->Option (Za)
 | 0=>fun _=>none
 | g + 1=>T49r F (T49g F g)
abbrev cA49r:List Sh:=[(.ro .s)]
abbrev cB49r:List Sh:=[.str]
abbrev cT49r:List TSh:=[]
abbrev cU49r:List TSh:=[]
def ctg49 (F g:Nat):Ct:=mkC 0 cA49r cT49r cB49r cU49r (fun x y=>T49g F g x.1) (fun x y (z:Za)=>((z,()),()))
def ord49r:Nat->List (Tag×Nat)
 | 7=>[(.p,0),(.p,1),(.p,2),(.p,4),(.p,5),(.p,6),(.w,3),(.w,7),(.w,8),(.p,9)]
 | _=>[]
def E49r (F g:Nat):Ev:=⟨cfg,26,ctOf [(85,ct85 F),(86,ct86 F),(49,ctg49 F g),(87,ct87 F)],ord49r,ctOf [],fun _=>none,fun _=>none⟩
theorem cts49r (F g:Nat) (h:Sound Tryz.prog cfg 49 (ctg49 F g)):CtsOk Tryz.prog (E49r F g):=cts_of (l:=[(85,ct85 F),(86,ct86 F),(49,ctg49 F g),(87,ct87 F)]) (l':=[]) rfl rfl ⟨⟨ok85 F,_,Tryz.func85,rfl,rfl⟩,⟨⟨ok86 F,_,Tryz.func86,rfl,rfl⟩,⟨⟨h,_,Tryz.func49,rfl,rfl⟩,⟨⟨ok87 F,_,Tryz.func87,rfl,rfl⟩,trivial⟩⟩⟩⟩ trivial
def ct49r (F g:Nat):Ct:=mkC 0 cA49r cT49r cB49r cU49r (fun x y=>T49r F (T49g F g) x.1) (fun x y (z:Za)=>((z,()),()))
theorem eq49r (F g:Nat) (x:dens cA49r) (y:tdens cT49r):sev (E49r F g) 0 [] (bodyOf Tryz.f49) [] (mkSt (rng 1) cA49r cT49r x y) (kFn (E49r F g) 0 Tryz.f49.results.toList cB49r cU49r fun p q=>some (p,q)) =
  T49rc F (T49g F g) x.1 (fun z=>some ((z,()),())):=by kernel_rfl
theorem ok49r (F g:Nat) (h:Sound Tryz.prog cfg 49 (ctg49 F g)):Sound Tryz.prog cfg 49 (ct49r F g):=
 mkC_ok (E:=E49r F g) (lp:=[]) (code:=bodyOf Tryz.f49) Tryz.func49 rfl Tryz.ntmps49 rfl rfl cok (cts49r F g h) mixed trivial (by kernel_rfl) (fun x y k=>T49rc F (T49g F g) x.1 k) (fun _ _ _=>by simp only [T49r,T49rc,oA,oC,oS,oN,elimS_bind]) (eq49r F g)
def T49 (F:Nat) (p0:List Za):Option (Za):=T49g F F p0
def ct49 (F:Nat):Ct:=mkC 0 cA49r cT49r cB49r cU49r (fun x y=>T49 F x.1) (fun x y (z:Za)=>((z,()),()))
theorem okg49 (F:Nat):∀ g,Sound Tryz.prog cfg 49 (ctg49 F g)
 | 0=>fun x y p q h=>absurd (show (none:Option _)=some (p,q) from h) (by simp)
 | g + 1=>ok49r F g (okg49 F g)
theorem ok49 (F:Nat):Sound Tryz.prog cfg 49 (ct49 F):=okg49 F F
def E48 (F:Nat):Ev:=⟨cfg,19,ctOf [(84,ct84 F),(49,ct49 F)],fun _=>[],ctOf [],fun _=>none,fun _=>none⟩
theorem cts48 (F:Nat):CtsOk Tryz.prog (E48 F):=cts_of (l:=[(84,ct84 F),(49,ct49 F)]) (l':=[]) rfl rfl ⟨⟨ok84 F,_,Tryz.func84,rfl,rfl⟩,⟨⟨ok49 F,_,Tryz.func49,rfl,rfl⟩,trivial⟩⟩ trivial
def T48c (F:Nat) (p0:List UInt8) (p1:Int) {β:Type} (k:(Za×Int)->Option β):Option β:=
 (Option.bind (T84 F p0 p1) fun z3=>(bif (z3.1 != (0:Int)) then (k (([]:List UInt8),z3.1)) else (Option.bind (T49 F z3.2) fun z4=>(k (z4,(0:Int))))))
def T48 (F:Nat) (p0:List UInt8) (p1:Int):=T48c F p0 p1 some
def ct48 (F:Nat):Ct:=mkC 0 [(.ro .u8),.i] [] [.str,.i] [] (fun x y=>T48 F x.1 x.2.1) (fun x y (z:Za×Int)=>((z.1,z.2,()),()))
theorem ok48 (F:Nat):Sound Tryz.prog cfg 48 (ct48 F):=
 mkC_ok (E:=E48 F) (lp:=[]) (code:=bodyOf Tryz.f48) Tryz.func48 rfl Tryz.ntmps48 rfl rfl cok (cts48 F) mixed trivial (by kernel_rfl) (fun x y k=>T48c F x.1 x.2.1 k) (fun _ _ _=>by simp only [T48,T48c,oA,oC,oS,oN,elimS_bind]) (fun _ _=>by kernel_rfl)
def ord77x1:Nat->List (Tag×Nat)
 | _=>[]
def al77x1:Nat->Option Nat
 | _=>none
def ms77x1:Nat->Option (List (Option Tag×Nat×List Nat))
 | _=>none
def E77x1 (F:Nat):Ev:=⟨cfg,8,ctOf [],ord77x1,ctOf [],al77x1,ms77x1⟩
theorem cts77x1 (F:Nat):CtsOk Tryz.prog (E77x1 F):=cts_of (l:=[]) (l':=[]) rfl rfl trivial trivial
def T77x1c (F:Nat) {β:Type} (k:((List UInt8))->Option β):Option β:=
 (k ([]:List UInt8))
def T77x1 (F:Nat):Option ((List UInt8)):=T77x1c F some
theorem T77x1n (F:Nat) {β:Type} (k:((List UInt8))->Option β):T77x1c F k=(T77x1 F).bind k:=by
 simp only [T77x1,T77x1c,Option.bind_assoc,cond_bind,Option.bind_some,Option.bind_none,elimS_bind]
abbrev cA77x1:List Sh:=[.nn]
abbrev cB77x1:List Sh:=[(.rw 0)]
abbrev cT77x1:List TSh:=[]
abbrev cU77x1:List TSh:=[.row 5 .u8]
def ct77x1 (F:Nat):Ct:=mkC 0 cA77x1 cT77x1 cB77x1 cU77x1 (fun x y=>T77x1 F) (fun x y (z:(List UInt8))=>(((),()),(z,())))
theorem eq77x1 (F:Nat) (x:dens cA77x1) (y:tdens cT77x1):sev (E77x1 F) 0 [] (bodyOf Tryz.f77) [] (mkSt (rng 1) cA77x1 cT77x1 x y) (kFn (E77x1 F) 0 Tryz.f77.results.toList cB77x1 cU77x1 fun p q=>some (p,q)) =
  T77x1c F (fun z=>some (((),()),(z,()))):=by kernel_rfl
theorem ok77x1 (F:Nat):Sound Tryz.prog cfg 77 (ct77x1 F):=
 mkC_ok (E:=E77x1 F) (lp:=[]) (code:=bodyOf Tryz.f77) Tryz.func77 rfl Tryz.ntmps77 rfl rfl cok (cts77x1 F) mixed trivial (by kernel_rfl) (fun x y k=>T77x1c F k) (fun x y k=>T77x1n F k) (eq77x1 F)
def ord77x2:Nat->List (Tag×Nat)
 | _=>[]
def al77x2:Nat->Option Nat
 | _=>none
def ms77x2:Nat->Option (List (Option Tag×Nat×List Nat))
 | _=>none
def E77x2 (F:Nat):Ev:=⟨cfg,8,ctOf [],ord77x2,ctOf [],al77x2,ms77x2⟩
theorem cts77x2 (F:Nat):CtsOk Tryz.prog (E77x2 F):=cts_of (l:=[]) (l':=[]) rfl rfl trivial trivial
def T77x2c (F:Nat) (p0:List UInt8) {β:Type} (k:((List UInt8))->Option β):Option β:=
 (Option.bind (gapp ([]:List UInt8) p0) fun x2=>(k x2))
def T77x2 (F:Nat) (p0:List UInt8):Option ((List UInt8)):=T77x2c F p0 some
theorem T77x2n (F:Nat) (p0:List UInt8) {β:Type} (k:((List UInt8))->Option β):T77x2c F p0 k=(T77x2 F p0).bind k:=by
 simp only [T77x2,T77x2c,Option.bind_assoc,cond_bind,Option.bind_some,Option.bind_none,elimS_bind]
abbrev cA77x2:List Sh:=[(.rn .u8)]
abbrev cB77x2:List Sh:=[(.rw 0)]
abbrev cT77x2:List TSh:=[]
abbrev cU77x2:List TSh:=[.row 5 .u8]
def ct77x2 (F:Nat):Ct:=mkC 0 cA77x2 cT77x2 cB77x2 cU77x2 (fun x y=>T77x2 F x.1) (fun x y (z:(List UInt8))=>(((),()),(z,())))
theorem eq77x2 (F:Nat) (x:dens cA77x2) (y:tdens cT77x2):sev (E77x2 F) 0 [] (bodyOf Tryz.f77) [] (mkSt (rng 1) cA77x2 cT77x2 x y) (kFn (E77x2 F) 0 Tryz.f77.results.toList cB77x2 cU77x2 fun p q=>some (p,q)) =
  T77x2c F x.1 (fun z=>some (((),()),(z,()))):=by kernel_rfl
theorem ok77x2 (F:Nat):Sound Tryz.prog cfg 77 (ct77x2 F):=
 mkC_ok (E:=E77x2 F) (lp:=[]) (code:=bodyOf Tryz.f77) Tryz.func77 rfl Tryz.ntmps77 rfl rfl cok (cts77x2 F) mixed trivial (by kernel_rfl) (fun x y k=>T77x2c F x.1 k) (fun x y k=>T77x2n F x.1 k) (eq77x2 F)
def T77 (F:Nat) (p0:List UInt8):Option Za:=T77x2 F p0
def ct77 (F:Nat):Ct:=mkC 0 [.ro .u8] [] [.rw 0] [.row 5 .u8] (fun x _=>T77 F x.1) (fun _ _ (z:List UInt8)=>(((),()),(z,())))
theorem ok77 (F:Nat):Sound Tryz.prog cfg 77 (ct77 F):=clone_ok (t:=.u8) (T77x1 F) (fun p=>T77x2 F p) (ok77x1 F) (ok77x2 F) rfl
def ord78x1:Nat->List (Tag×Nat)
 | _=>[]
def al78x1:Nat->Option Nat
 | _=>none
def ms78x1:Nat->Option (List (Option Tag×Nat×List Nat))
 | _=>none
def E78x1 (F:Nat):Ev:=⟨cfg,8,ctOf [],ord78x1,ctOf [],al78x1,ms78x1⟩
theorem cts78x1 (F:Nat):CtsOk Tryz.prog (E78x1 F):=cts_of (l:=[]) (l':=[]) rfl rfl trivial trivial
def T78x1c (F:Nat) {β:Type} (k:((List (List UInt8)))->Option β):Option β:=
 (k ([]:List (List UInt8)))
def T78x1 (F:Nat):Option ((List (List UInt8))):=T78x1c F some
theorem T78x1n (F:Nat) {β:Type} (k:((List (List UInt8)))->Option β):T78x1c F k=(T78x1 F).bind k:=by
 simp only [T78x1,T78x1c,Option.bind_assoc,cond_bind,Option.bind_some,Option.bind_none,elimS_bind]
abbrev cA78x1:List Sh:=[.nn]
abbrev cB78x1:List Sh:=[(.rw 0)]
abbrev cT78x1:List TSh:=[]
abbrev cU78x1:List TSh:=[.row 9 .s]
def ct78x1 (F:Nat):Ct:=mkC 0 cA78x1 cT78x1 cB78x1 cU78x1 (fun x y=>T78x1 F) (fun x y (z:(List (List UInt8)))=>(((),()),(z,())))
theorem eq78x1 (F:Nat) (x:dens cA78x1) (y:tdens cT78x1):sev (E78x1 F) 0 [] (bodyOf Tryz.f78) [] (mkSt (rng 1) cA78x1 cT78x1 x y) (kFn (E78x1 F) 0 Tryz.f78.results.toList cB78x1 cU78x1 fun p q=>some (p,q)) =
  T78x1c F (fun z=>some (((),()),(z,()))):=by kernel_rfl
theorem ok78x1 (F:Nat):Sound Tryz.prog cfg 78 (ct78x1 F):=
 mkC_ok (E:=E78x1 F) (lp:=[]) (code:=bodyOf Tryz.f78) Tryz.func78 rfl Tryz.ntmps78 rfl rfl cok (cts78x1 F) mixed trivial (by kernel_rfl) (fun x y k=>T78x1c F k) (fun x y k=>T78x1n F k) (eq78x1 F)
def ord78x2:Nat->List (Tag×Nat)
 | _=>[]
def al78x2:Nat->Option Nat
 | _=>none
def ms78x2:Nat->Option (List (Option Tag×Nat×List Nat))
 | _=>none
def E78x2 (F:Nat):Ev:=⟨cfg,8,ctOf [],ord78x2,ctOf [],al78x2,ms78x2⟩
theorem cts78x2 (F:Nat):CtsOk Tryz.prog (E78x2 F):=cts_of (l:=[]) (l':=[]) rfl rfl trivial trivial
def T78x2c (F:Nat) (p0:List (List UInt8)) {β:Type} (k:((List (List UInt8)))->Option β):Option β:=
 (Option.bind (gapp ([]:List (List UInt8)) p0) fun x2=>(k x2))
def T78x2 (F:Nat) (p0:List (List UInt8)):Option ((List (List UInt8))):=T78x2c F p0 some
theorem T78x2n (F:Nat) (p0:List (List UInt8)) {β:Type} (k:((List (List UInt8)))->Option β):T78x2c F p0 k=(T78x2 F p0).bind k:=by
 simp only [T78x2,T78x2c,Option.bind_assoc,cond_bind,Option.bind_some,Option.bind_none,elimS_bind]
abbrev cA78x2:List Sh:=[(.rn .s)]
abbrev cB78x2:List Sh:=[(.rw 0)]
abbrev cT78x2:List TSh:=[]
abbrev cU78x2:List TSh:=[.row 9 .s]
def ct78x2 (F:Nat):Ct:=mkC 0 cA78x2 cT78x2 cB78x2 cU78x2 (fun x y=>T78x2 F x.1) (fun x y (z:(List (List UInt8)))=>(((),()),(z,())))
theorem eq78x2 (F:Nat) (x:dens cA78x2) (y:tdens cT78x2):sev (E78x2 F) 0 [] (bodyOf Tryz.f78) [] (mkSt (rng 1) cA78x2 cT78x2 x y) (kFn (E78x2 F) 0 Tryz.f78.results.toList cB78x2 cU78x2 fun p q=>some (p,q)) =
  T78x2c F x.1 (fun z=>some (((),()),(z,()))):=by kernel_rfl
theorem ok78x2 (F:Nat):Sound Tryz.prog cfg 78 (ct78x2 F):=
 mkC_ok (E:=E78x2 F) (lp:=[]) (code:=bodyOf Tryz.f78) Tryz.func78 rfl Tryz.ntmps78 rfl rfl cok (cts78x2 F) mixed trivial (by kernel_rfl) (fun x y k=>T78x2c F x.1 k) (fun x y k=>T78x2n F x.1 k) (eq78x2 F)
def T78 (F:Nat) (p0:List Za):Option Zd:=T78x2 F p0
def ct78 (F:Nat):Ct:=mkC 0 [.ro .s] [] [.rw 0] [.row 9 .s] (fun x _=>T78 F x.1) (fun _ _ (z:List Za)=>(((),()),(z,())))
theorem ok78 (F:Nat):Sound Tryz.prog cfg 78 (ct78 F):=clone_ok (t:=.s) (T78x1 F) (fun p=>T78x2 F p) (ok78x1 F) (ok78x2 F) rfl
def E39 (F:Nat):Ev:=⟨cfg,72,ctOf [(76,ct76 F),(48,ct48 F),(49,ct49 F),(77,ct77 F),(78,ct78 F)],fun _=>[],ctOf [],fun _=>none,fun _=>none⟩
theorem cts39 (F:Nat):CtsOk Tryz.prog (E39 F):=cts_of (l:=[(76,ct76 F),(48,ct48 F),(49,ct49 F),(77,ct77 F),(78,ct78 F)]) (l':=[]) rfl rfl ⟨⟨ok76 F,_,Tryz.func76,rfl,rfl⟩,⟨⟨ok48 F,_,Tryz.func48,rfl,rfl⟩,⟨⟨ok49 F,_,Tryz.func49,rfl,rfl⟩,⟨⟨ok77 F,_,Tryz.func77,rfl,rfl⟩,⟨⟨ok78 F,_,Tryz.func78,rfl,rfl⟩,trivial⟩⟩⟩⟩⟩ trivial
def L39_3c (F:Nat) (y55:List Za) (y56:Int) (y57:Int) (y58:List Za) {β:Type} (kA:(Int×Zd)->Option β) (kO:(Zd)->Option β) (kR:(Za×Int)->Option β):Option β:=
 (bif (decide (y57 < y56)) then (Option.bind (ix y55 y57) fun x62=>(Option.bind (T48 F x62 (512:Int)) fun z63=>(bif (z63.2 != (0:Int)) then (kR (([]:List UInt8),z63.2)) else (Option.bind (gapp y58 ([z63.1]:List Za)) fun x64=>(kA ((w64 (y57 + (1:Int))),x64)))))) else (kO y58))
def L39_3 (F:Nat) (y55:List Za) (y56:Int) (y57:Int) (y58:List Za):Option ((Int×Zd) ⊕ ((Zd) ⊕ (Za×Int))):=L39_3c F y55 y56 y57 y58 (fun s=>some (.inl s)) (fun z=>some (.inr (.inl z))) (fun z=>some (.inr (.inr z)))
theorem L39_3n (F:Nat) (y55:List Za) (y56:Int) (y57:Int) (y58:List Za) {β:Type} (kA:(Int×Zd)->Option β) (kO:(Zd)->Option β) (kR:(Za×Int)->Option β):L39_3c F y55 y56 y57 y58 kA kO kR=(L39_3 F y55 y56 y57 y58).bind (elimS kA (elimS kO kR)):=by
 simp only [L39_3,L39_3c,oA,oC,oS,oN,elimS_l,elimS_r,elimS_bind]
def lc39_3 (F:Nat):Lc:=mkR [9,11,30,31,32] [(.ro Qd),(.rw 0),(.ro Qd),.i,.i] [.row 9 .s] [9,11] [(.ro Qd),(.rw 0)] [.row 9 .s] [6,7,8] [.str,.ns,.i] [] F (fun x y (s:Int×Zd)=>L39_3 F x.2.2.1 x.2.2.2.1 s.1 s.2) (fun x y=>(x.2.2.2.2.1,y.1)) (fun x y (z:Zd)=>((x.1,(),()),(z,()))) (fun x y (z:Za×Int)=>((z.1,(),z.2,()),()))
theorem lo39_3 (F:Nat):LcOk Tryz.prog (E39 F) 0 (lc39_3 F) (cAt (bodyOf Tryz.f39) [1,0,1,1,1,1]):=
 mkR_ok (lp:=[]) (id:=0) (b:=cAt (bodyOf Tryz.f39) (0 :: 0 :: [1,0,1,1,1,1])) cok (cts39 F) mixed trivial (by kernel_rfl) (by kernel_rfl) (fun x y s=>(x.1,(),x.2.2.1,x.2.2.2.1,s.1,())) (fun x y s=>(s.2,())) (fun x y=>rfl) (fun x y=>rfl) (fun x y s kA kO kR=>L39_3c F x.2.2.1 x.2.2.2.1 s.1 s.2 kA kO kR) (fun x y s kA kO kR=>L39_3n F x.2.2.1 x.2.2.2.1 s.1 s.2 kA kO kR) (fun _ _ _=>by kernel_rfl)
def L39_4c (F:Nat) (y76:List UInt8) (y77:List Za) (y78:Int) (y80:List Za) (y79:Int) (y81:List Zb) {β:Type} (kA:(Int×(List Zb))->Option β) (kO:((List Zb))->Option β):Option β:=
 (bif (decide (y79 < y78)) then (Option.bind (ix y77 y79) fun x86=>(Option.bind (T77 F x86) fun z87=>(Option.bind (T78 F y80) fun z88=>(Option.bind (gapp y81 ([((y76,y79,()),z87,z88,())]:List Zb)) fun x89=>(kA ((w64 (y79 + (1:Int))),x89)))))) else (kO y81))
def L39_4 (F:Nat) (y76:List UInt8) (y77:List Za) (y78:Int) (y80:List Za) (y79:Int) (y81:List Zb):=L39_4c F y76 y77 y78 y80 y79 y81 (fun s=>some (Sum.inl s)) (fun z=>some (Sum.inr z))
def lc39_4 (F:Nat):Lc:=mkL [11,16,17,51,52,53] [(.rw 0),.str,(.rw 1),(.ro Qd),.i,.i] [.row 9 .s,.row 42 Qc] [16,17] [.str,(.rw 0)] [.row 42 Qc] F (fun x y (s:Int×(List Zb))=>L39_4 F x.2.1 x.2.2.2.1 x.2.2.2.2.1 y.1 s.1 s.2) (fun x y=>(x.2.2.2.2.2.1,y.2.1)) (fun x y (z:(List Zb))=>((x.2.1,(),()),(z,())))
theorem lo39_4 (F:Nat):LcOk Tryz.prog (E39 F) 0 (lc39_4 F) (cAt (bodyOf Tryz.f39) [1,0,1,1,1,1,1,1,1]):=
 mkL_ok (lp:=[]) (id:=2) (b:=cAt (bodyOf Tryz.f39) (0 :: 0 :: [1,0,1,1,1,1,1,1,1])) cok (cts39 F) mixed trivial (by kernel_rfl) (by kernel_rfl) (fun x y s=>((),x.2.1,(),x.2.2.2.1,x.2.2.2.2.1,s.1,())) (fun x y s=>(y.1,s.2,())) (fun x y=>rfl) (fun x y=>rfl) (fun x y s kA kO=>L39_4c F x.2.1 x.2.2.2.1 x.2.2.2.2.1 y.1 s.1 s.2 kA kO) (fun _ _ _ _ _=>by simp only [L39_4,L39_4c,oA,oC,oS,oN,elimS_l,elimS_r,elimS_bind]) (fun _ _ _=>by kernel_rfl)
def T39c (F:Nat) (p0:Int) (p1:Int) (p2:List Za) {β:Type} (k:(Za×Int×(List Zb))->Option β):Option β:=
 (Option.bind (T76 F p0 p1 p2) fun z46=>(bif (z46.2 != (0:Int)) then (k (([]:List UInt8),z46.2,([]:List Zb))) else (Option.bind (iter (fun s=>L39_3 F z46.1 (z46.1.length:Int) s.1 s.2) F ((0:Int),([]:List Za))) fun z65=>elimS (fun z65=>(Option.bind (T49 F z65) fun z66=>(Option.bind (iter (fun s=>L39_4 F z66 z46.1 (z46.1.length:Int) z65 s.1 s.2) F ((0:Int),([]:List Zb))) fun z90=>(k (z66,(0:Int),z90))))) (fun z65=>(k (z65.1,z65.2,([]:List Zb)))) z65)))
def T39 (F:Nat) (p0:Int) (p1:Int) (p2:List Za):=T39c F p0 p1 p2 some
def ct39 (F:Nat):Ct:=mkC 0 [.i,.i,(.ro Qd)] [] [.str,(.rw 0),.i] [.row 42 Qc] (fun x y=>T39 F x.1 x.2.1 x.2.2.1) (fun x y (z:Za×Int×(List Zb))=>((z.1,(),z.2.1,()),(z.2.2,())))
theorem ok39 (F:Nat):Sound Tryz.prog cfg 39 (ct39 F):=
 mkC_ok (E:=E39 F) (lp:=[([1,0,1,1,1,1],lc39_3 F),([1,0,1,1,1,1,1,1,1],lc39_4 F)]) (code:=bodyOf Tryz.f39) Tryz.func39 rfl Tryz.ntmps39 rfl rfl cok (cts39 F) mixed ⟨lo39_3 F,⟨lo39_4 F,trivial⟩⟩ (by kernel_rfl) (fun x y k=>T39c F x.1 x.2.1 x.2.2.1 k) (fun _ _ _=>by simp only [T39,T39c,oA,oC,oS,oN,elimS_bind]) (fun _ _=>by kernel_rfl)
def ord40x1:Nat->List (Tag×Nat)
 | _=>[]
def al40x1:Nat->Option Nat
 | _=>none
def ms40x1:Nat->Option (List (Option Tag×Nat×List Nat))
 | _=>none
def E40x1 (F:Nat):Ev:=⟨cfg,8,ctOf [],ord40x1,ctOf [],al40x1,ms40x1⟩
theorem cts40x1 (F:Nat):CtsOk Tryz.prog (E40x1 F):=cts_of (l:=[]) (l':=[]) rfl rfl trivial trivial
def T40x1c (F:Nat) {β:Type} (k:((List ((List UInt8)×Int×Int×Unit)))->Option β):Option β:=
 (k ([]:List ((List UInt8)×Int×Int×Unit)))
def T40x1 (F:Nat):Option ((List ((List UInt8)×Int×Int×Unit))):=T40x1c F some
theorem T40x1n (F:Nat) {β:Type} (k:((List ((List UInt8)×Int×Int×Unit)))->Option β):T40x1c F k=(T40x1 F).bind k:=by
 simp only [T40x1,T40x1c,Option.bind_assoc,cond_bind,Option.bind_some,Option.bind_none,elimS_bind]
abbrev cA40x1:List Sh:=[.nn]
abbrev cB40x1:List Sh:=[(.rw 0)]
abbrev cT40x1:List TSh:=[]
abbrev cU40x1:List TSh:=[.row 45 (.pr .s (.pr .i (.pr .i .un)))]
def ct40x1 (F:Nat):Ct:=mkC 0 cA40x1 cT40x1 cB40x1 cU40x1 (fun x y=>T40x1 F) (fun x y (z:(List ((List UInt8)×Int×Int×Unit)))=>(((),()),(z,())))
theorem eq40x1 (F:Nat) (x:dens cA40x1) (y:tdens cT40x1):sev (E40x1 F) 0 [] (bodyOf Tryz.f40) [] (mkSt (rng 1) cA40x1 cT40x1 x y) (kFn (E40x1 F) 0 Tryz.f40.results.toList cB40x1 cU40x1 fun p q=>some (p,q)) =
  T40x1c F (fun z=>some (((),()),(z,()))):=by kernel_rfl
theorem ok40x1 (F:Nat):Sound Tryz.prog cfg 40 (ct40x1 F):=
 mkC_ok (E:=E40x1 F) (lp:=[]) (code:=bodyOf Tryz.f40) Tryz.func40 rfl Tryz.ntmps40 rfl rfl cok (cts40x1 F) mixed trivial (by kernel_rfl) (fun x y k=>T40x1c F k) (fun x y k=>T40x1n F k) (eq40x1 F)
def ord40x2:Nat->List (Tag×Nat)
 | _=>[]
def al40x2:Nat->Option Nat
 | _=>none
def ms40x2:Nat->Option (List (Option Tag×Nat×List Nat))
 | _=>none
def E40x2 (F:Nat):Ev:=⟨cfg,8,ctOf [],ord40x2,ctOf [],al40x2,ms40x2⟩
theorem cts40x2 (F:Nat):CtsOk Tryz.prog (E40x2 F):=cts_of (l:=[]) (l':=[]) rfl rfl trivial trivial
def T40x2c (F:Nat) (p0:List ((List UInt8)×Int×Int×Unit)) {β:Type} (k:((List ((List UInt8)×Int×Int×Unit)))->Option β):Option β:=
 (Option.bind (gapp ([]:List ((List UInt8)×Int×Int×Unit)) p0) fun x2=>(k x2))
def T40x2 (F:Nat) (p0:List ((List UInt8)×Int×Int×Unit)):Option ((List ((List UInt8)×Int×Int×Unit))):=T40x2c F p0 some
theorem T40x2n (F:Nat) (p0:List ((List UInt8)×Int×Int×Unit)) {β:Type} (k:((List ((List UInt8)×Int×Int×Unit)))->Option β):T40x2c F p0 k=(T40x2 F p0).bind k:=by
 simp only [T40x2,T40x2c,Option.bind_assoc,cond_bind,Option.bind_some,Option.bind_none,elimS_bind]
abbrev cA40x2:List Sh:=[(.rn (.pr .s (.pr .i (.pr .i .un))))]
abbrev cB40x2:List Sh:=[(.rw 0)]
abbrev cT40x2:List TSh:=[]
abbrev cU40x2:List TSh:=[.row 45 (.pr .s (.pr .i (.pr .i .un)))]
def ct40x2 (F:Nat):Ct:=mkC 0 cA40x2 cT40x2 cB40x2 cU40x2 (fun x y=>T40x2 F x.1) (fun x y (z:(List ((List UInt8)×Int×Int×Unit)))=>(((),()),(z,())))
theorem eq40x2 (F:Nat) (x:dens cA40x2) (y:tdens cT40x2):sev (E40x2 F) 0 [] (bodyOf Tryz.f40) [] (mkSt (rng 1) cA40x2 cT40x2 x y) (kFn (E40x2 F) 0 Tryz.f40.results.toList cB40x2 cU40x2 fun p q=>some (p,q)) =
  T40x2c F x.1 (fun z=>some (((),()),(z,()))):=by kernel_rfl
theorem ok40x2 (F:Nat):Sound Tryz.prog cfg 40 (ct40x2 F):=
 mkC_ok (E:=E40x2 F) (lp:=[]) (code:=bodyOf Tryz.f40) Tryz.func40 rfl Tryz.ntmps40 rfl rfl cok (cts40x2 F) mixed trivial (by kernel_rfl) (fun x y k=>T40x2c F x.1 k) (fun x y k=>T40x2n F x.1 k) (eq40x2 F)
def T40 (F:Nat) (p0:List Zc):Option Zj:=T40x2 F p0
def ct40 (F:Nat):Ct:=mkC 0 [.ro Qb] [] [.rw 0] [.row 45 Qb] (fun x _=>T40 F x.1) (fun _ _ (z:List Zc)=>(((),()),(z,())))
theorem ok40 (F:Nat):Sound Tryz.prog cfg 40 (ct40 F):=clone_ok (t:=(.pr .s (.pr .i (.pr .i .un)))) (T40x1 F) (fun p=>T40x2 F p) (ok40x1 F) (ok40x2 F) rfl
def E10 (F:Nat):Ev:=⟨cfg,108,ctOf [(35,ct35 F),(36,ct36 F),(37,ct37 F),(38,ct38 F),(39,ct39 F),(40,ct40 F)],fun _=>[],ctOf [],fun _=>none,fun _=>none⟩
theorem cts10 (F:Nat):CtsOk Tryz.prog (E10 F):=cts_of (l:=[(35,ct35 F),(36,ct36 F),(37,ct37 F),(38,ct38 F),(39,ct39 F),(40,ct40 F)]) (l':=[]) rfl rfl ⟨⟨ok35 F,_,Tryz.func35,rfl,rfl⟩,⟨⟨ok36 F,_,Tryz.func36,rfl,rfl⟩,⟨⟨ok37 F,_,Tryz.func37,rfl,rfl⟩,⟨⟨ok38 F,_,Tryz.func38,rfl,rfl⟩,⟨⟨ok39 F,_,Tryz.func39,rfl,rfl⟩,⟨⟨ok40 F,_,Tryz.func40,rfl,rfl⟩,trivial⟩⟩⟩⟩⟩⟩ trivial
def L10_2c (F:Nat) (y36:List Za) (y37:Int) (y38:List Zc) (y39:Int) (y40:Int) {β:Type} (kA:Int->Option β) (kO:Unit->Option β) (kR:(Int×Za×Int×Int×Int×Int)->Option β):Option β:=
 (bif (decide (y40 < y39)) then (Option.bind (ix y38 y40) fun x49=>(Option.bind (T38 F x49.2.2.1 y37) fun z50=>(bif (!z50) then (kR ((1:Int),([]:List UInt8),(0:Int),(0:Int),(0:Int),(0:Int))) else (Option.bind (ix y36 y40) fun x51=>(bif ((x51.length:Int) != y37) then (kR ((1:Int),([]:List UInt8),(0:Int),(0:Int),(0:Int),(0:Int))) else (kA (w64 (y40 + (1:Int))))))))) else (kO ()))
def L10_2 (F:Nat) (y36:List Za) (y37:Int) (y38:List Zc) (y39:Int) (y40:Int):Option ((Int) ⊕ ((Unit) ⊕ (Int×Za×Int×Int×Int×Int))):=L10_2c F y36 y37 y38 y39 y40 (fun s=>some (.inl s)) (fun z=>some (.inr (.inl z))) (fun z=>some (.inr (.inr z)))
theorem L10_2n (F:Nat) (y36:List Za) (y37:Int) (y38:List Zc) (y39:Int) (y40:Int) {β:Type} (kA:Int->Option β) (kO:Unit->Option β) (kR:(Int×Za×Int×Int×Int×Int)->Option β):L10_2c F y36 y37 y38 y39 y40 kA kO kR=(L10_2 F y36 y37 y38 y39 y40).bind (elimS kA (elimS kO kR)):=by
 simp only [L10_2,L10_2c,oA,oC,oS,oN,elimS_l,elimS_r,elimS_bind]
def lc10_2 (F:Nat):Lc:=mkR [0,1,2,3,4,10,13,64,65,66] [.i,.i,.i,(.ro Qb),(.ro Qd),(.pt 0 []),.i,(.ro Qb),.i,.i] [.blk 27 (.pr .str (.pr .i (.pr .i (.pr .i (.pr .i (.pr .ns .un))))))] [0,1,2,3,4,10,13] [.i,.i,.i,(.ro Qb),(.ro Qd),(.pt 0 []),.i] [.blk 27 (.pr .str (.pr .i (.pr .i (.pr .i (.pr .i (.pr .ns .un))))))] [10,11,12] [(.pt 0 []),.ns,.i] [.blk 27 (.pr .str (.pr .i (.pr .i (.pr .i (.pr .i (.pr .ns .un))))))] F (fun x y (s:Int)=>L10_2 F x.2.2.2.2.1 x.2.2.2.2.2.2.1 x.2.2.2.2.2.2.2.1 x.2.2.2.2.2.2.2.2.1 s) (fun x y=>x.2.2.2.2.2.2.2.2.2.1) (fun x y (z:Unit)=>((x.1,x.2.1,x.2.2.1,x.2.2.2.1,x.2.2.2.2.1,(),x.2.2.2.2.2.2.1,()),((y.1.1,y.1.2.1,y.1.2.2.1,y.1.2.2.2.1,y.1.2.2.2.2.1,(),()),()))) (fun x y (z:Int×Za×Int×Int×Int×Int)=>(((),(),z.1,()),((z.2.1,z.2.2.1,z.2.2.2.1,z.2.2.2.2.1,z.2.2.2.2.2,(),()),())))
theorem lo10_2 (F:Nat):LcOk Tryz.prog (E10 F) 0 (lc10_2 F) (cAt (bodyOf Tryz.f10) [1,0,1,1,1,1]):=
 mkR_ok (lp:=[]) (id:=0) (b:=cAt (bodyOf Tryz.f10) (0 :: 0 :: [1,0,1,1,1,1])) cok (cts10 F) mixed trivial (by kernel_rfl) (by kernel_rfl) (fun x y s=>(x.1,x.2.1,x.2.2.1,x.2.2.2.1,x.2.2.2.2.1,(),x.2.2.2.2.2.2.1,x.2.2.2.2.2.2.2.1,x.2.2.2.2.2.2.2.2.1,s,())) (fun x y s=>((y.1.1,y.1.2.1,y.1.2.2.1,y.1.2.2.2.1,y.1.2.2.2.2.1,(),()),())) (fun x y=>rfl) (fun x y=>rfl) (fun x y s kA kO kR=>L10_2c F x.2.2.2.2.1 x.2.2.2.2.2.2.1 x.2.2.2.2.2.2.2.1 x.2.2.2.2.2.2.2.2.1 s kA kO kR) (fun x y s kA kO kR=>L10_2n F x.2.2.2.2.1 x.2.2.2.2.2.2.1 x.2.2.2.2.2.2.2.1 x.2.2.2.2.2.2.2.2.1 s kA kO kR) (fun _ _ _=>by kernel_rfl)
def T10c (F:Nat) (p0:Int) (p1:Int) (p2:Int) (p3:List Zc) (p4:List Za) {β:Type} (k:(Za×Int×Int×Int×Int×Int×Zj×(List Zb))->Option β):Option β:=
 (bif (decide (p0 < (0:Int))) then (k (([]:List UInt8),(0:Int),(0:Int),(0:Int),(0:Int),(1:Int),([]:List Zc),([]:List Zb))) else (bif (decide ((11:Int) < p0)) then (k (([]:List UInt8),(0:Int),(0:Int),(0:Int),(0:Int),(1:Int),([]:List Zc),([]:List Zb))) else (Option.bind (T35 F p1 p2) fun z28=>(bif (!z28) then (k (([]:List UInt8),(0:Int),(0:Int),(0:Int),(0:Int),(1:Int),([]:List Zc),([]:List Zb))) else (bif (decide ((p3.length:Int) < (1:Int))) then (k (([]:List UInt8),(0:Int),(0:Int),(0:Int),(0:Int),(1:Int),([]:List Zc),([]:List Zb))) else (bif (decide (p1 < (p3.length:Int))) then (k (([]:List UInt8),(0:Int),(0:Int),(0:Int),(0:Int),(1:Int),([]:List Zc),([]:List Zb))) else (Option.bind (T36 F p3) fun z29=>(bif (!z29) then (k (([]:List UInt8),(0:Int),(0:Int),(0:Int),(0:Int),(1:Int),([]:List Zc),([]:List Zb))) else (bif ((p4.length:Int) != (p3.length:Int)) then (k (([]:List UInt8),(0:Int),(0:Int),(0:Int),(0:Int),(1:Int),([]:List Zc),([]:List Zb))) else (Option.bind (ix p3 (0:Int)) fun x30=>(Option.bind (T37 F x30.2.2.1) fun z31=>(Option.bind (iter (fun s=>L10_2 F p4 z31.1 p3 (p3.length:Int) s) F (0:Int)) fun z52=>elimS (fun z52=>(Option.bind (T39 F p1 p2 p4) fun z53=>(bif (z53.2.1 != (0:Int)) then (k (([]:List UInt8),(0:Int),(0:Int),(0:Int),(0:Int),z53.2.1,([]:List Zc),([]:List Zb))) else (Option.bind (T40 F p3) fun z54=>(k (z53.1,p0,z31.1,p1,p2,(0:Int),z54,z53.2.2)))))) (fun z52=>(k (z52.2.1,z52.2.2.1,z52.2.2.2.1,z52.2.2.2.2.1,z52.2.2.2.2.2,z52.1,([]:List Zc),([]:List Zb)))) z52))))))))))))
def T10 (F:Nat) (p0:Int) (p1:Int) (p2:Int) (p3:List Zc) (p4:List Za):=T10c F p0 p1 p2 p3 p4 some
def ct10 (F:Nat):Ct:=mkC 0 [.i,.i,.i,(.ro Qb),(.ro Qd)] [] [(.pr .str (.pr .i (.pr .i (.pr .i (.pr .i (.pr (.rw 0) .un)))))),(.rw 1),.i] [.row 45 Qb,.row 42 Qc] (fun x y=>T10 F x.1 x.2.1 x.2.2.1 x.2.2.2.1 x.2.2.2.2.1) (fun x y (z:Za×Int×Int×Int×Int×Int×Zj×(List Zb))=>(((z.1,z.2.1,z.2.2.1,z.2.2.2.1,z.2.2.2.2.1,(),()),(),z.2.2.2.2.2.1,()),(z.2.2.2.2.2.2.1,z.2.2.2.2.2.2.2,())))
theorem ok10 (F:Nat):Sound Tryz.prog cfg 10 (ct10 F):=
 mkC_ok (E:=E10 F) (lp:=[([1,0,1,1,1,1],lc10_2 F)]) (code:=bodyOf Tryz.f10) Tryz.func10 rfl Tryz.ntmps10 rfl rfl cok (cts10 F) mixed ⟨lo10_2 F,trivial⟩ (by kernel_rfl) (fun x y k=>T10c F x.1 x.2.1 x.2.2.1 x.2.2.2.1 x.2.2.2.2.1 k) (fun _ _ _=>by simp only [T10,T10c,oA,oC,oS,oN,elimS_bind]) (fun _ _=>by kernel_rfl)
def E16 (F:Nat):Ev:=⟨cfg,58,ctOf [(35,ct35 F),(36,ct36 F),(38,ct38 F)],fun _=>[],ctOf [],fun _=>none,fun _=>none⟩
theorem cts16 (F:Nat):CtsOk Tryz.prog (E16 F):=cts_of (l:=[(35,ct35 F),(36,ct36 F),(38,ct38 F)]) (l':=[]) rfl rfl ⟨⟨ok35 F,_,Tryz.func35,rfl,rfl⟩,⟨⟨ok36 F,_,Tryz.func36,rfl,rfl⟩,⟨⟨ok38 F,_,Tryz.func38,rfl,rfl⟩,trivial⟩⟩⟩ trivial
def L16_2c (F:Nat) (y19:List Zc) (y20:Int) (y24:Int) (y21:Int) {β:Type} (kA:Int->Option β) (kO:Unit->Option β) (kR:Int->Option β):Option β:=
 (bif (decide (y21 < y20)) then (Option.bind (ix y19 y21) fun x30=>(Option.bind (T38 F x30.2.2.1 y24) fun z31=>(bif (!z31) then (kR (1:Int)) else (kA (w64 (y21 + (1:Int))))))) else (kO ()))
def L16_2 (F:Nat) (y19:List Zc) (y20:Int) (y24:Int) (y21:Int):Option ((Int) ⊕ ((Unit) ⊕ (Int))):=L16_2c F y19 y20 y24 y21 (fun s=>some (.inl s)) (fun z=>some (.inr (.inl z))) (fun z=>some (.inr (.inr z)))
theorem L16_2n (F:Nat) (y19:List Zc) (y20:Int) (y24:Int) (y21:Int) {β:Type} (kA:Int->Option β) (kO:Unit->Option β) (kR:Int->Option β):L16_2c F y19 y20 y24 y21 kA kO kR=(L16_2 F y19 y20 y24 y21).bind (elimS kA (elimS kO kR)):=by
 simp only [L16_2,L16_2c,oA,oC,oS,oN,elimS_l,elimS_r,elimS_bind]
def lc16_2 (F:Nat):Lc:=mkR [1,46,47,48] [(.pt 0 []),(.ro Qb),.i,.i] [.blk 27 Qh] [] [] [] [2] [.i] [] F (fun x y (s:Int)=>L16_2 F x.2.1 x.2.2.1 y.1.2.2.1 s) (fun x y=>x.2.2.2.1) (fun x y (z:Unit)=>((),())) (fun x y (z:Int)=>((z,()),()))
theorem lo16_2 (F:Nat):LcOk Tryz.prog (E16 F) 0 (lc16_2 F) (cAt (bodyOf Tryz.f16) [1,0,1,1,1]):=
 mkR_ok (lp:=[]) (id:=0) (b:=cAt (bodyOf Tryz.f16) (0 :: 0 :: [1,0,1,1,1])) cok (cts16 F) mixed trivial (by kernel_rfl) (by kernel_rfl) (fun x y s=>((),x.2.1,x.2.2.1,s,())) (fun x y s=>((y.1.1,y.1.2.1,y.1.2.2.1,y.1.2.2.2.1,y.1.2.2.2.2.1,y.1.2.2.2.2.2.1,()),())) (fun x y=>rfl) (fun x y=>rfl) (fun x y s kA kO kR=>L16_2c F x.2.1 x.2.2.1 y.1.2.2.1 s kA kO kR) (fun x y s kA kO kR=>L16_2n F x.2.1 x.2.2.1 y.1.2.2.1 s kA kO kR) (fun _ _ _=>by kernel_rfl)
def T16c (F:Nat) (p0:List UInt8) (p1:Int) (p2:Int) (p3:Int) (p4:Int) (p5:List Zc) {β:Type} (k:Int->Option β):Option β:=
 (bif ((p0.length:Int) != (32:Int)) then (k (1:Int)) else (bif (decide (p1 < (0:Int))) then (k (1:Int)) else (bif (decide ((11:Int) < p1)) then (k (1:Int)) else (Option.bind (T35 F p3 p4) fun z17=>(bif (!z17) then (k (1:Int)) else (bif (decide ((p5.length:Int) < (1:Int))) then (k (1:Int)) else (bif (decide (p3 < (p5.length:Int))) then (k (1:Int)) else (Option.bind (T36 F p5) fun z18=>(bif (!z18) then (k (1:Int)) else (Option.bind (iter (fun s=>L16_2 F p5 (p5.length:Int) p2 s) F (0:Int)) fun z32=>elimS (fun z32=>(k (0:Int))) (fun z32=>(k z32)) z32))))))))))
def T16 (F:Nat) (p0:List UInt8) (p1:Int) (p2:Int) (p3:Int) (p4:Int) (p5:List Zc):=T16c F p0 p1 p2 p3 p4 p5 some
def ct16 (F:Nat):Ct:=mkC 0 [(.pr .str (.pr .i (.pr .i (.pr .i (.pr .i (.pr (.ro Qb) .un))))))] [] [.i] [] (fun x y=>T16 F x.1.1 x.1.2.1 x.1.2.2.1 x.1.2.2.2.1 x.1.2.2.2.2.1 x.1.2.2.2.2.2.1) (fun x y (z:Int)=>((z,()),()))
theorem ok16 (F:Nat):Sound Tryz.prog cfg 16 (ct16 F):=
 mkC_ok (E:=E16 F) (lp:=[([1,0,1,1,1],lc16_2 F)]) (code:=bodyOf Tryz.f16) Tryz.func16 rfl Tryz.ntmps16 rfl rfl cok (cts16 F) mixed ⟨lo16_2 F,trivial⟩ (by kernel_rfl) (fun x y k=>T16c F x.1.1 x.1.2.1 x.1.2.2.1 x.1.2.2.2.1 x.1.2.2.2.2.1 x.1.2.2.2.2.2.1 k) (fun _ _ _=>by simp only [T16,T16c,oA,oC,oS,oN,elimS_bind]) (fun _ _=>by kernel_rfl)
def E131 (F:Nat):Ev:=⟨cfg,19,ctOf [],fun _=>[],ctOf [],fun _=>none,fun _=>none⟩
theorem cts131 (F:Nat):CtsOk Tryz.prog (E131 F):=cts_of (l:=[]) (l':=[]) rfl rfl trivial trivial
def L131_2c (F:Nat) (y8:List Int) (y9:Int) (y10:Int) (y11:Int) {β:Type} (kA:Int->Option β) (kO:Unit->Option β) (kR:Int->Option β):Option β:=
 (bif (decide (y11 < y10)) then (Option.bind (ix y8 y11) fun x13=>(bif (y9 == x13) then (kR y11) else (kA (w64 (y11 + (1:Int)))))) else (kO ()))
def L131_2 (F:Nat) (y8:List Int) (y9:Int) (y10:Int) (y11:Int):Option ((Int) ⊕ ((Unit) ⊕ (Int))):=L131_2c F y8 y9 y10 y11 (fun s=>some (.inl s)) (fun z=>some (.inr (.inl z))) (fun z=>some (.inr (.inr z)))
theorem L131_2n (F:Nat) (y8:List Int) (y9:Int) (y10:Int) (y11:Int) {β:Type} (kA:Int->Option β) (kO:Unit->Option β) (kR:Int->Option β):L131_2c F y8 y9 y10 y11 kA kO kR=(L131_2 F y8 y9 y10 y11).bind (elimS kA (elimS kO kR)):=by
 simp only [L131_2,L131_2c,oA,oC,oS,oN,elimS_l,elimS_r,elimS_bind]
def lc131_2 (F:Nat):Lc:=mkR [0,1,7,8] [(.ro .i),.i,.i,.i] [] [] [] [] [4] [.i] [] F (fun x y (s:Int)=>L131_2 F x.1 x.2.1 x.2.2.1 s) (fun x y=>x.2.2.2.1) (fun x y (z:Unit)=>((),())) (fun x y (z:Int)=>((z,()),()))
theorem lo131_2 (F:Nat):LcOk Tryz.prog (E131 F) 0 (lc131_2 F) (cAt (bodyOf Tryz.f131) [1,0,1]):=
 mkR_ok (lp:=[]) (id:=0) (b:=cAt (bodyOf Tryz.f131) (0 :: 0 :: [1,0,1])) cok (cts131 F) mixed trivial (by kernel_rfl) (by kernel_rfl) (fun x y s=>(x.1,x.2.1,x.2.2.1,s,())) (fun x y s=>()) (fun x y=>rfl) (fun x y=>rfl) (fun x y s kA kO kR=>L131_2c F x.1 x.2.1 x.2.2.1 s kA kO kR) (fun x y s kA kO kR=>L131_2n F x.1 x.2.1 x.2.2.1 s kA kO kR) (fun _ _ _=>by kernel_rfl)
def T131c (F:Nat) (p0:List Int) (p1:Int) {β:Type} (k:Int->Option β):Option β:=
 (Option.bind (iter (fun s=>L131_2 F p0 p1 (p0.length:Int) s) F (0:Int)) fun z14=>elimS (fun z14=>(k (-1:Int))) (fun z14=>(k z14)) z14)
def T131 (F:Nat) (p0:List Int) (p1:Int):=T131c F p0 p1 some
def ct131 (F:Nat):Ct:=mkC 0 [(.ro .i),.i] [] [.i] [] (fun x y=>T131 F x.1 x.2.1) (fun x y (z:Int)=>((z,()),()))
theorem ok131 (F:Nat):Sound Tryz.prog cfg 131 (ct131 F):=
 mkC_ok (E:=E131 F) (lp:=[([1,0,1],lc131_2 F)]) (code:=bodyOf Tryz.f131) Tryz.func131 rfl Tryz.ntmps131 rfl rfl cok (cts131 F) mixed ⟨lo131_2 F,trivial⟩ (by kernel_rfl) (fun x y k=>T131c F x.1 x.2.1 k) (fun _ _ _=>by simp only [T131,T131c,oA,oC,oS,oN,elimS_bind]) (fun _ _=>by kernel_rfl)
def E93 (F:Nat):Ev:=⟨cfg,9,ctOf [(131,ct131 F)],fun _=>[],ctOf [],fun _=>none,fun _=>none⟩
theorem cts93 (F:Nat):CtsOk Tryz.prog (E93 F):=cts_of (l:=[(131,ct131 F)]) (l':=[]) rfl rfl ⟨⟨ok131 F,_,Tryz.func131,rfl,rfl⟩,trivial⟩ trivial
def T93c (F:Nat) (p0:List Int) (p1:Int) {β:Type} (k:Bool->Option β):Option β:=
 (Option.bind (T131 F p0 p1) fun z2=>(k (decide ((0:Int)≤z2))))
def T93 (F:Nat) (p0:List Int) (p1:Int):=T93c F p0 p1 some
def ct93 (F:Nat):Ct:=mkC 0 [(.ro .i),.i] [] [.bo] [] (fun x y=>T93 F x.1 x.2.1) (fun x y (z:Bool)=>((z,()),()))
theorem ok93 (F:Nat):Sound Tryz.prog cfg 93 (ct93 F):=
 mkC_ok (E:=E93 F) (lp:=[]) (code:=bodyOf Tryz.f93) Tryz.func93 rfl Tryz.ntmps93 rfl rfl cok (cts93 F) mixed trivial (by kernel_rfl) (fun x y k=>T93c F x.1 x.2.1 k) (fun _ _ _=>by simp only [T93,T93c,oA,oC,oS,oN,elimS_bind]) (fun _ _=>by kernel_rfl)
def E47 (F:Nat):Ev:=⟨cfg,6,ctOf [],fun _=>[],ctOf [],fun _=>none,fun _=>none⟩
theorem cts47 (F:Nat):CtsOk Tryz.prog (E47 F):=cts_of (l:=[]) (l':=[]) rfl rfl trivial trivial
def T47c (F:Nat) (p0:List UInt8) {β:Type} (k:Bool->Option β):Option β:=
 (k ((p0.length:Int) != (32:Int)))
def T47 (F:Nat) (p0:List UInt8):=T47c F p0 some
def ct47 (F:Nat):Ct:=mkC 0 [.str] [] [.bo] [] (fun x y=>T47 F x.1) (fun x y (z:Bool)=>((z,()),()))
theorem ok47 (F:Nat):Sound Tryz.prog cfg 47 (ct47 F):=
 mkC_ok (E:=E47 F) (lp:=[]) (code:=bodyOf Tryz.f47) Tryz.func47 rfl Tryz.ntmps47 rfl rfl cok (cts47 F) mixed trivial (by kernel_rfl) (fun x y k=>T47c F x.1 k) (fun _ _ _=>by simp only [T47,T47c,oA,oC,oS,oN,elimS_bind]) (fun _ _=>by kernel_rfl)
def E83 (F:Nat):Ev:=⟨cfg,19,ctOf [(47,ct47 F)],fun _=>[],ctOf [],fun _=>none,fun _=>none⟩
theorem cts83 (F:Nat):CtsOk Tryz.prog (E83 F):=cts_of (l:=[(47,ct47 F)]) (l':=[]) rfl rfl ⟨⟨ok47 F,_,Tryz.func47,rfl,rfl⟩,trivial⟩ trivial
def L83_2c (F:Nat) (y9:List Za) (y10:Int) (y11:Int) {β:Type} (kA:Int->Option β) (kO:Unit->Option β) (kR:Int->Option β):Option β:=
 (bif (decide (y11 < y10)) then (Option.bind (ix y9 y11) fun x14=>(Option.bind (T47 F x14) fun z15=>(bif z15 then (kR y11) else (kA (w64 (y11 + (1:Int))))))) else (kO ()))
def L83_2 (F:Nat) (y9:List Za) (y10:Int) (y11:Int):Option ((Int) ⊕ ((Unit) ⊕ (Int))):=L83_2c F y9 y10 y11 (fun s=>some (.inl s)) (fun z=>some (.inr (.inl z))) (fun z=>some (.inr (.inr z)))
theorem L83_2n (F:Nat) (y9:List Za) (y10:Int) (y11:Int) {β:Type} (kA:Int->Option β) (kO:Unit->Option β) (kR:Int->Option β):L83_2c F y9 y10 y11 kA kO kR=(L83_2 F y9 y10 y11).bind (elimS kA (elimS kO kR)):=by
 simp only [L83_2,L83_2c,oA,oC,oS,oN,elimS_l,elimS_r,elimS_bind]
def lc83_2 (F:Nat):Lc:=mkR [0,1,7,8] [(.ro .s),(.fn 47 .un .un),.i,.i] [] [] [] [] [4] [.i] [] F (fun x y (s:Int)=>L83_2 F x.1 x.2.2.1 s) (fun x y=>x.2.2.2.1) (fun x y (z:Unit)=>((),())) (fun x y (z:Int)=>((z,()),()))
theorem lo83_2 (F:Nat):LcOk Tryz.prog (E83 F) 0 (lc83_2 F) (cAt (bodyOf Tryz.f83) [1,0,1]):=
 mkR_ok (lp:=[]) (id:=0) (b:=cAt (bodyOf Tryz.f83) (0 :: 0 :: [1,0,1])) cok (cts83 F) mixed trivial (by kernel_rfl) (by kernel_rfl) (fun x y s=>(x.1,((),()),x.2.2.1,s,())) (fun x y s=>()) (fun x y=>rfl) (fun x y=>rfl) (fun x y s kA kO kR=>L83_2c F x.1 x.2.2.1 s kA kO kR) (fun x y s kA kO kR=>L83_2n F x.1 x.2.2.1 s kA kO kR) (fun _ _ _=>by kernel_rfl)
def T83c (F:Nat) (p0:List Za) {β:Type} (k:Int->Option β):Option β:=
 (Option.bind (iter (fun s=>L83_2 F p0 (p0.length:Int) s) F (0:Int)) fun z16=>elimS (fun z16=>(k (-1:Int))) (fun z16=>(k z16)) z16)
def T83 (F:Nat) (p0:List Za):=T83c F p0 some
def ct83 (F:Nat):Ct:=mkC 0 [(.ro .s),(.fn 47 .un .un)] [] [.i] [] (fun x y=>T83 F x.1) (fun x y (z:Int)=>((z,()),()))
theorem ok83 (F:Nat):Sound Tryz.prog cfg 83 (ct83 F):=
 mkC_ok (E:=E83 F) (lp:=[([1,0,1],lc83_2 F)]) (code:=bodyOf Tryz.f83) Tryz.func83 rfl Tryz.ntmps83 rfl rfl cok (cts83 F) mixed ⟨lo83_2 F,trivial⟩ (by kernel_rfl) (fun x y k=>T83c F x.1 k) (fun _ _ _=>by simp only [T83,T83c,oA,oC,oS,oN,elimS_bind]) (fun _ _=>by kernel_rfl)
def E46 (F:Nat):Ev:=⟨cfg,9,ctOf [(83,ct83 F)],fun _=>[],ctOf [],fun _=>none,fun _=>none⟩
theorem cts46 (F:Nat):CtsOk Tryz.prog (E46 F):=cts_of (l:=[(83,ct83 F)]) (l':=[]) rfl rfl ⟨⟨ok83 F,_,Tryz.func83,rfl,rfl⟩,trivial⟩ trivial
def T46c (F:Nat) (p0:List Za) {β:Type} (k:Bool->Option β):Option β:=
 (Option.bind (T83 F p0) fun z2=>(k (decide ((0:Int)≤z2))))
def T46 (F:Nat) (p0:List Za):=T46c F p0 some
def ct46 (F:Nat):Ct:=mkC 0 [(.ro .s),(.fn 47 .un .un)] [] [.bo] [] (fun x y=>T46 F x.1) (fun x y (z:Bool)=>((z,()),()))
theorem ok46 (F:Nat):Sound Tryz.prog cfg 46 (ct46 F):=
 mkC_ok (E:=E46 F) (lp:=[]) (code:=bodyOf Tryz.f46) Tryz.func46 rfl Tryz.ntmps46 rfl rfl cok (cts46 F) mixed trivial (by kernel_rfl) (fun x y k=>T46c F x.1 k) (fun _ _ _=>by simp only [T46,T46c,oA,oC,oS,oN,elimS_bind]) (fun _ _=>by kernel_rfl)
def ord18:Nat->List (Tag×Nat)
 | 8=>[(.p,0),(.p,1),(.p,2),(.p,3),(.p,4),(.r,5),(.p,6),(.p,7),(.r,8),(.p,9),(.r,10),(.p,11),(.p,12),(.p,13),(.p,14),(.r,15),(.p,17),(.p,18),(.c,19),(.w,16),(.p,20),(.p,21),(.p,22)]
 | _=>[]
def E18 (F:Nat):Ev:=⟨cfg,78,ctOf [(46,ct46 F),(48,ct48 F),(49,ct49 F)],ord18,ctOf [],fun _=>none,fun _=>none⟩
theorem cts18 (F:Nat):CtsOk Tryz.prog (E18 F):=cts_of (l:=[(46,ct46 F),(48,ct48 F),(49,ct49 F)]) (l':=[]) rfl rfl ⟨⟨ok46 F,_,Tryz.func46,rfl,rfl⟩,⟨⟨ok48 F,_,Tryz.func48,rfl,rfl⟩,⟨⟨ok49 F,_,Tryz.func49,rfl,rfl⟩,trivial⟩⟩⟩ trivial
def T18c (F:Nat) (p0:List UInt8) (p1:Int) (p2:List UInt8) (p3:List Za) {β:Type} (k:Bool->Option β):Option β:=
 (bif ((p0.length:Int) != (32:Int)) then (k false) else (bif (decide ((p3.length:Int) < (1:Int))) then (k false) else (bif (decide ((16:Int) < (p3.length:Int))) then (k false) else (Option.bind (T46 F p3) fun z5=>(bif z5 then (k false) else (bif (decide (p1 < (0:Int))) then (k false) else (bif (decide ((p3.length:Int)≤p1)) then (k false) else (bif (decide ((p2.length:Int) < (1:Int))) then (k false) else (bif (decide ((65536:Int) < (p2.length:Int))) then (k false) else (Option.bind (T48 F p2 (512:Int)) fun z6=>(bif (z6.2 == (0:Int)) then (Option.bind (ix p3 p1) fun x7=>(bif (z6.1 == x7) then (Option.bind (T49 F p3) fun z8=>(k (z8 == p0))) else (k false))) else (k false))))))))))))
def T18 (F:Nat) (p0:List UInt8) (p1:Int) (p2:List UInt8) (p3:List Za):=T18c F p0 p1 p2 p3 some
def ct18 (F:Nat):Ct:=mkC 0 [(.pr (.pr .str (.pr .i .un)) (.pr (.ro .u8) (.pr (.ro .s) .un)))] [] [.bo] [] (fun x y=>T18 F x.1.1.1 x.1.1.2.1 x.1.2.1 x.1.2.2.1) (fun x y (z:Bool)=>((z,()),()))
theorem ok18 (F:Nat):Sound Tryz.prog cfg 18 (ct18 F):=
 mkC_ok (E:=E18 F) (lp:=[]) (code:=bodyOf Tryz.f18) Tryz.func18 rfl Tryz.ntmps18 rfl rfl cok (cts18 F) mixed trivial (by kernel_rfl) (fun x y k=>T18c F x.1.1.1 x.1.1.2.1 x.1.2.1 x.1.2.2.1 k) (fun _ _ _=>by simp only [T18,T18c,oA,oC,oS,oN,elimS_bind]) (fun _ _=>by kernel_rfl)
def E52 (F:Nat):Ev:=⟨cfg,31,ctOf [(18,ct18 F)],fun _=>[],ctOf [],fun _=>none,fun _=>none⟩
theorem cts52 (F:Nat):CtsOk Tryz.prog (E52 F):=cts_of (l:=[(18,ct18 F)]) (l':=[]) rfl rfl ⟨⟨ok18 F,_,Tryz.func18,rfl,rfl⟩,trivial⟩ trivial
def T52c (F:Nat) (p0:List UInt8) (p2:Int) (p4:Int) (p6:List UInt8) (p7:Int) (p8:List UInt8) (p9:List Za) {β:Type} (k:Bool->Option β):Option β:=
 (bif (p6 == p0) then (bif ((p9.length:Int) == p4) then (bif ((p8.length:Int) == p2) then (Option.bind (T18 F p6 p7 p8 p9) fun z2=>(k z2)) else (k false)) else (k false)) else (k false))
def T52 (F:Nat) (p0:List UInt8) (p2:Int) (p4:Int) (p6:List UInt8) (p7:Int) (p8:List UInt8) (p9:List Za):=T52c F p0 p2 p4 p6 p7 p8 p9 some
def ct52 (F:Nat):Ct:=mkC 0 [(.pr .str (.pr .i (.pr .i (.pr .i (.pr .i (.pr (.ro Qb) .un)))))),(.pr (.pr .str (.pr .i .un)) (.pr (.ro .u8) (.pr (.ro .s) .un)))] [] [.bo] [] (fun x y=>T52 F x.1.1 x.1.2.2.1 x.1.2.2.2.2.1 x.2.1.1.1 x.2.1.1.2.1 x.2.1.2.1 x.2.1.2.2.1) (fun x y (z:Bool)=>((z,()),()))
theorem ok52 (F:Nat):Sound Tryz.prog cfg 52 (ct52 F):=
 mkC_ok (E:=E52 F) (lp:=[]) (code:=bodyOf Tryz.f52) Tryz.func52 rfl Tryz.ntmps52 rfl rfl cok (cts52 F) mixed trivial (by kernel_rfl) (fun x y k=>T52c F x.1.1 x.1.2.2.1 x.1.2.2.2.2.1 x.2.1.1.1 x.2.1.1.2.1 x.2.1.2.1 x.2.1.2.2.1 k) (fun _ _ _=>by simp only [T52,T52c,oA,oC,oS,oN,elimS_bind]) (fun _ _=>by kernel_rfl)
def ord92x1:Nat->List (Tag×Nat)
 | _=>[]
def al92x1:Nat->Option Nat
 | _=>none
def ms92x1:Nat->Option (List (Option Tag×Nat×List Nat))
 | _=>none
def E92x1 (F:Nat):Ev:=⟨cfg,27,ctOf [(93,ct93 F),(52,ct52 F)],ord92x1,ctOf [],al92x1,ms92x1⟩
theorem cts92x1 (F:Nat):CtsOk Tryz.prog (E92x1 F):=cts_of (l:=[(93,ct93 F),(52,ct52 F)]) (l':=[]) rfl rfl ⟨⟨ok93 F,_,Tryz.func93,rfl,rfl⟩,⟨⟨ok52 F,_,Tryz.func52,rfl,rfl⟩,trivial⟩⟩ trivial
def T92x1c (F:Nat) (p0:List UInt8) (p1:Int) (p2:List UInt8) (p3:List (List UInt8)) (p4:List UInt8) (p6:Int) (p8:Int) {β:Type} (k:((List Int)×(List (List UInt8)))->Option β):Option β:=
 (Option.bind (T93 F ([]:List Int) p1) fun z5=>(bif (!z5) then (Option.bind (T52 F p4 p6 p8 p0 p1 p2 p3) fun z6=>(bif z6 then (Option.bind (gapp ([]:List Int) ([p1]:List Int)) fun x7=>(Option.bind (gapp ([]:List (List UInt8)) ([p2]:List (List UInt8))) fun x8=>(k (x7,x8)))) else (k (([]:List Int),([]:List (List UInt8)))))) else (k (([]:List Int),([]:List (List UInt8))))))
def T92x1 (F:Nat) (p0:List UInt8) (p1:Int) (p2:List UInt8) (p3:List (List UInt8)) (p4:List UInt8) (p6:Int) (p8:Int):Option ((List Int)×(List (List UInt8))):=T92x1c F p0 p1 p2 p3 p4 p6 p8 some
theorem T92x1n (F:Nat) (p0:List UInt8) (p1:Int) (p2:List UInt8) (p3:List (List UInt8)) (p4:List UInt8) (p6:Int) (p8:Int) {β:Type} (k:((List Int)×(List (List UInt8)))->Option β):T92x1c F p0 p1 p2 p3 p4 p6 p8 k=(T92x1 F p0 p1 p2 p3 p4 p6 p8).bind k:=by
 simp only [T92x1,T92x1c,Option.bind_assoc,cond_bind,Option.bind_some,Option.bind_none,elimS_bind]
abbrev cA92x1:List Sh:=[(.pr (.pr .str (.pr .i .un)) (.pr (.ro .u8) (.pr (.ro .s) .un))),(.pt 0 []),(.pt 1 []),(.pt 2 [])]
abbrev cB92x1:List Sh:=[]
abbrev cT92x1:List TSh:=[.blk 79 .ns,.blk 27 (.pr .str (.pr .i (.pr .i (.pr .i (.pr .i (.pr (.ro (.pr .s (.pr .i (.pr .i .un)))) .un)))))),.blk 23 .ns]
abbrev cU92x1:List TSh:=[.blk 79 (.rw 3),.blk 27 (.pr .str (.pr .i (.pr .i (.pr .i (.pr .i (.pr (.ro (.pr .s (.pr .i (.pr .i .un)))) .un)))))),.blk 23 (.rw 4),.row 3 .i,.row 39 (.sl .u8)]
def ct92x1 (F:Nat):Ct:=mkC 3 cA92x1 cT92x1 cB92x1 cU92x1 (fun x y=>T92x1 F x.1.1.1 x.1.1.2.1 x.1.2.1 x.1.2.2.1 y.2.1.1 y.2.1.2.2.1 y.2.1.2.2.2.2.1) (fun x y (z:(List Int)×(List (List UInt8)))=>((),((),(y.2.1.1,y.2.1.2.1,y.2.1.2.2.1,y.2.1.2.2.2.1,y.2.1.2.2.2.2.1,y.2.1.2.2.2.2.2.1,()),(),z.1,z.2,())))
theorem eq92x1 (F:Nat) (x:dens cA92x1) (y:tdens cT92x1):sev (E92x1 F) 3 [] (bodyOf Tryz.f92) [] (mkSt (rng 4) cA92x1 cT92x1 x y) (kFn (E92x1 F) 3 Tryz.f92.results.toList cB92x1 cU92x1 fun p q=>some (p,q)) =
  T92x1c F x.1.1.1 x.1.1.2.1 x.1.2.1 x.1.2.2.1 y.2.1.1 y.2.1.2.2.1 y.2.1.2.2.2.2.1 (fun z=>some ((),((),(y.2.1.1,y.2.1.2.1,y.2.1.2.2.1,y.2.1.2.2.2.1,y.2.1.2.2.2.2.1,y.2.1.2.2.2.2.2.1,()),(),z.1,z.2,()))):=by kernel_rfl
theorem ok92x1 (F:Nat):Sound Tryz.prog cfg 92 (ct92x1 F):=
 mkC_ok (E:=E92x1 F) (lp:=[]) (code:=bodyOf Tryz.f92) Tryz.func92 rfl Tryz.ntmps92 rfl rfl cok (cts92x1 F) mixed trivial (by kernel_rfl) (fun x y k=>T92x1c F x.1.1.1 x.1.1.2.1 x.1.2.1 x.1.2.2.1 y.2.1.1 y.2.1.2.2.1 y.2.1.2.2.2.2.1 k) (fun x y k=>T92x1n F x.1.1.1 x.1.1.2.1 x.1.2.1 x.1.2.2.1 y.2.1.1 y.2.1.2.2.1 y.2.1.2.2.2.2.1 k) (eq92x1 F)
def ord92x3:Nat->List (Tag×Nat)
 | _=>[]
def al92x3:Nat->Option Nat
 | _=>none
def ms92x3:Nat->Option (List (Option Tag×Nat×List Nat))
 | _=>none
def E92x3 (F:Nat):Ev:=⟨cfg,27,ctOf [(93,ct93 F),(52,ct52 F)],ord92x3,ctOf [],al92x3,ms92x3⟩
theorem cts92x3 (F:Nat):CtsOk Tryz.prog (E92x3 F):=cts_of (l:=[(93,ct93 F),(52,ct52 F)]) (l':=[]) rfl rfl ⟨⟨ok93 F,_,Tryz.func93,rfl,rfl⟩,⟨⟨ok52 F,_,Tryz.func52,rfl,rfl⟩,trivial⟩⟩ trivial
def T92x3c (F:Nat) (p0:List UInt8) (p1:Int) (p2:List UInt8) (p3:List (List UInt8)) (p4:List UInt8) (p6:Int) (p8:Int) (p10:List Int) (p11:List (List UInt8)) {β:Type} (k:((List Int)×(List (List UInt8)))->Option β):Option β:=
 (Option.bind (T93 F p10 p1) fun z5=>(bif (!z5) then (Option.bind (T52 F p4 p6 p8 p0 p1 p2 p3) fun z6=>(bif z6 then (Option.bind (gapp p10 ([p1]:List Int)) fun x7=>(Option.bind (gapp p11 ([p2]:List (List UInt8))) fun x8=>(k (x7,x8)))) else (k (p10,p11)))) else (k (p10,p11))))
def T92x3 (F:Nat) (p0:List UInt8) (p1:Int) (p2:List UInt8) (p3:List (List UInt8)) (p4:List UInt8) (p6:Int) (p8:Int) (p10:List Int) (p11:List (List UInt8)):Option ((List Int)×(List (List UInt8))):=T92x3c F p0 p1 p2 p3 p4 p6 p8 p10 p11 some
theorem T92x3n (F:Nat) (p0:List UInt8) (p1:Int) (p2:List UInt8) (p3:List (List UInt8)) (p4:List UInt8) (p6:Int) (p8:Int) (p10:List Int) (p11:List (List UInt8)) {β:Type} (k:((List Int)×(List (List UInt8)))->Option β):T92x3c F p0 p1 p2 p3 p4 p6 p8 p10 p11 k=(T92x3 F p0 p1 p2 p3 p4 p6 p8 p10 p11).bind k:=by
 simp only [T92x3,T92x3c,Option.bind_assoc,cond_bind,Option.bind_some,Option.bind_none,elimS_bind]
abbrev cA92x3:List Sh:=[(.pr (.pr .str (.pr .i .un)) (.pr (.ro .u8) (.pr (.ro .s) .un))),(.pt 0 []),(.pt 1 []),(.pt 2 [])]
abbrev cB92x3:List Sh:=[]
abbrev cT92x3:List TSh:=[.blk 79 (.rw 3),.blk 27 (.pr .str (.pr .i (.pr .i (.pr .i (.pr .i (.pr (.ro (.pr .s (.pr .i (.pr .i .un)))) .un)))))),.blk 23 (.rw 4),.row 3 .i,.row 39 (.sl .u8)]
abbrev cU92x3:List TSh:=[.blk 79 (.rw 3),.blk 27 (.pr .str (.pr .i (.pr .i (.pr .i (.pr .i (.pr (.ro (.pr .s (.pr .i (.pr .i .un)))) .un)))))),.blk 23 (.rw 4),.row 3 .i,.row 39 (.sl .u8)]
def ct92x3 (F:Nat):Ct:=mkC 3 cA92x3 cT92x3 cB92x3 cU92x3 (fun x y=>T92x3 F x.1.1.1 x.1.1.2.1 x.1.2.1 x.1.2.2.1 y.2.1.1 y.2.1.2.2.1 y.2.1.2.2.2.2.1 y.2.2.2.1 y.2.2.2.2.1) (fun x y (z:(List Int)×(List (List UInt8)))=>((),((),(y.2.1.1,y.2.1.2.1,y.2.1.2.2.1,y.2.1.2.2.2.1,y.2.1.2.2.2.2.1,y.2.1.2.2.2.2.2.1,()),(),z.1,z.2,())))
theorem eq92x3 (F:Nat) (x:dens cA92x3) (y:tdens cT92x3):sev (E92x3 F) 3 [] (bodyOf Tryz.f92) [] (mkSt (rng 4) cA92x3 cT92x3 x y) (kFn (E92x3 F) 3 Tryz.f92.results.toList cB92x3 cU92x3 fun p q=>some (p,q)) =
  T92x3c F x.1.1.1 x.1.1.2.1 x.1.2.1 x.1.2.2.1 y.2.1.1 y.2.1.2.2.1 y.2.1.2.2.2.2.1 y.2.2.2.1 y.2.2.2.2.1 (fun z=>some ((),((),(y.2.1.1,y.2.1.2.1,y.2.1.2.2.1,y.2.1.2.2.2.1,y.2.1.2.2.2.2.1,y.2.1.2.2.2.2.2.1,()),(),z.1,z.2,()))):=by kernel_rfl
theorem ok92x3 (F:Nat):Sound Tryz.prog cfg 92 (ct92x3 F):=
 mkC_ok (E:=E92x3 F) (lp:=[]) (code:=bodyOf Tryz.f92) Tryz.func92 rfl Tryz.ntmps92 rfl rfl cok (cts92x3 F) mixed trivial (by kernel_rfl) (fun x y k=>T92x3c F x.1.1.1 x.1.1.2.1 x.1.2.1 x.1.2.2.1 y.2.1.1 y.2.1.2.2.1 y.2.1.2.2.2.2.1 y.2.2.2.1 y.2.2.2.2.1 k) (fun x y k=>T92x3n F x.1.1.1 x.1.1.2.1 x.1.2.1 x.1.2.2.1 y.2.1.1 y.2.1.2.2.1 y.2.1.2.2.2.2.1 y.2.2.2.1 y.2.2.2.2.1 k) (eq92x3 F)
def E159 (F:Nat):Ev:=⟨cfg,35,ctOf [(35,ct35 F)],fun _=>[],ctOf [],fun _=>none,fun _=>none⟩
theorem cts159 (F:Nat):CtsOk Tryz.prog (E159 F):=cts_of (l:=[(35,ct35 F)]) (l':=[]) rfl rfl ⟨⟨ok35 F,_,Tryz.func35,rfl,rfl⟩,trivial⟩ trivial
def L159_2c (F:Nat) (y17:Int) (y18:List Int) (y19:Int) (y20:Int) (y21:Vector Bool 16) {β:Type} (kA:(Int×(Vector Bool 16))->Option β) (kO:Unit->Option β) (kR:Int->Option β):Option β:=
 (bif (decide (y20 < y19)) then (Option.bind (ix y18 y20) fun x26=>(bif (decide (x26 < (0:Int))) then (kR (1:Int)) else (bif (decide (y17≤x26)) then (kR (1:Int)) else (Option.bind (inb 16 x26) fun x27=>(Option.bind (vat y21 x27) fun x28=>(bif x28 then (kR (1:Int)) else (Option.bind (inb 16 x26) fun x29=>(kA ((w64 (y20 + (1:Int))),(Vector.setIfInBounds y21 x29 true)))))))))) else (kO ()))
def L159_2 (F:Nat) (y17:Int) (y18:List Int) (y19:Int) (y20:Int) (y21:Vector Bool 16):Option ((Int×(Vector Bool 16)) ⊕ ((Unit) ⊕ (Int))):=L159_2c F y17 y18 y19 y20 y21 (fun s=>some (.inl s)) (fun z=>some (.inr (.inl z))) (fun z=>some (.inr (.inr z)))
theorem L159_2n (F:Nat) (y17:Int) (y18:List Int) (y19:Int) (y20:Int) (y21:Vector Bool 16) {β:Type} (kA:(Int×(Vector Bool 16))->Option β) (kO:Unit->Option β) (kR:Int->Option β):L159_2c F y17 y18 y19 y20 y21 kA kO kR=(L159_2 F y17 y18 y19 y20 y21).bind (elimS kA (elimS kO kR)):=by
 simp only [L159_2,L159_2c,oA,oC,oS,oN,elimS_l,elimS_r,elimS_bind]
def lc159_2 (F:Nat):Lc:=mkR [1,7,14,15,16] [.i,(.pt 0 []),(.ro .i),.i,.i] [.blk 219 (.ar 16 .bo)] [] [] [] [6] [.i] [] F (fun x y (s:Int×(Vector Bool 16))=>L159_2 F x.1 x.2.2.1 x.2.2.2.1 s.1 s.2) (fun x y=>(x.2.2.2.2.1,y.1)) (fun x y (z:Unit)=>((),())) (fun x y (z:Int)=>((z,()),()))
theorem lo159_2 (F:Nat):LcOk Tryz.prog (E159 F) 0 (lc159_2 F) (cAt (bodyOf Tryz.f159) [1,0,1,1,1]):=
 mkR_ok (lp:=[]) (id:=0) (b:=cAt (bodyOf Tryz.f159) (0 :: 0 :: [1,0,1,1,1])) cok (cts159 F) mixed trivial (by kernel_rfl) (by kernel_rfl) (fun x y s=>(x.1,(),x.2.2.1,x.2.2.2.1,s.1,())) (fun x y s=>(s.2,())) (fun x y=>rfl) (fun x y=>rfl) (fun x y s kA kO kR=>L159_2c F x.1 x.2.2.1 x.2.2.2.1 s.1 s.2 kA kO kR) (fun x y s kA kO kR=>L159_2n F x.1 x.2.2.1 x.2.2.2.1 s.1 s.2 kA kO kR) (fun _ _ _=>by kernel_rfl)
def T159c (F:Nat) (p0:Int) (p1:Int) (p2:List Int) {β:Type} (k:Int->Option β):Option β:=
 (Option.bind (T35 F p0 p1) fun z16=>(bif (!z16) then (k (1:Int)) else (Option.bind (iter (fun s=>L159_2 F p1 p2 (p2.length:Int) s.1 s.2) F ((0:Int),(Vector.replicate 16 false))) fun z30=>elimS (fun z30=>(k (0:Int))) (fun z30=>(k z30)) z30)))
def T159 (F:Nat) (p0:Int) (p1:Int) (p2:List Int):=T159c F p0 p1 p2 some
def ct159 (F:Nat):Ct:=mkC 0 [.i,.i,(.ro .i)] [] [.i] [] (fun x y=>T159 F x.1 x.2.1 x.2.2.1) (fun x y (z:Int)=>((z,()),()))
theorem ok159 (F:Nat):Sound Tryz.prog cfg 159 (ct159 F):=
 mkC_ok (E:=E159 F) (lp:=[([1,0,1,1,1],lc159_2 F)]) (code:=bodyOf Tryz.f159) Tryz.func159 rfl Tryz.ntmps159 rfl rfl cok (cts159 F) mixed ⟨lo159_2 F,trivial⟩ (by kernel_rfl) (fun x y k=>T159c F x.1 x.2.1 x.2.2.1 k) (fun _ _ _=>by simp only [T159,T159c,oA,oC,oS,oN,elimS_bind]) (fun _ _=>by kernel_rfl)
def E132 (F:Nat):Ev:=⟨cfg,31,ctOf [(159,ct159 F),(116,ct116 F)],fun _=>[],ctOf [],fun _=>none,fun _=>none⟩
theorem cts132 (F:Nat):CtsOk Tryz.prog (E132 F):=cts_of (l:=[(159,ct159 F),(116,ct116 F)]) (l':=[]) rfl rfl ⟨⟨ok159 F,_,Tryz.func159,rfl,rfl⟩,⟨⟨ok116 F,_,Tryz.func116,rfl,rfl⟩,trivial⟩⟩ trivial
def T132c (F:Nat) (p0:Int) (p1:Int) (p2:List Int) (p3:List Za) {β:Type} (k:Int->Option β):Option β:=
 (Option.bind (T159 F p0 p1 p2) fun z3=>(bif (z3 != (0:Int)) then (k z3) else (bif ((p2.length:Int) != (p3.length:Int)) then (k (1:Int)) else (Option.bind (T116 F p3) fun z4=>(bif (!z4) then (k (1:Int)) else (bif (decide ((p2.length:Int) < p0)) then (k (10:Int)) else (k (0:Int))))))))
def T132 (F:Nat) (p0:Int) (p1:Int) (p2:List Int) (p3:List Za):=T132c F p0 p1 p2 p3 some
def ct132 (F:Nat):Ct:=mkC 0 [.i,.i,(.ro .i),(.ro Qd)] [] [.i] [] (fun x y=>T132 F x.1 x.2.1 x.2.2.1 x.2.2.2.1) (fun x y (z:Int)=>((z,()),()))
theorem ok132 (F:Nat):Sound Tryz.prog cfg 132 (ct132 F):=
 mkC_ok (E:=E132 F) (lp:=[]) (code:=bodyOf Tryz.f132) Tryz.func132 rfl Tryz.ntmps132 rfl rfl cok (cts132 F) mixed trivial (by kernel_rfl) (fun x y k=>T132c F x.1 x.2.1 x.2.2.1 x.2.2.2.1 k) (fun _ _ _=>by simp only [T132,T132c,oA,oC,oS,oN,elimS_bind]) (fun _ _=>by kernel_rfl)
def E177 (F:Nat):Ev:=⟨cfg,9,ctOf [],fun _=>[],ctOf [],fun _=>none,fun _=>none⟩
theorem cts177 (F:Nat):CtsOk Tryz.prog (E177 F):=cts_of (l:=[]) (l':=[]) rfl rfl trivial trivial
def T177c (F:Nat) (p0:Int) {β:Type} (k:Bool->Option β):Option β:=
 (bif (decide ((0:Int)≤p0)) then (k (decide (p0≤(64:Int)))) else (k false))
def T177 (F:Nat) (p0:Int):=T177c F p0 some
def ct177 (F:Nat):Ct:=mkC 0 [.i] [] [.bo] [] (fun x y=>T177 F x.1) (fun x y (z:Bool)=>((z,()),()))
theorem ok177 (F:Nat):Sound Tryz.prog cfg 177 (ct177 F):=
 mkC_ok (E:=E177 F) (lp:=[]) (code:=bodyOf Tryz.f177) Tryz.func177 rfl Tryz.ntmps177 rfl rfl cok (cts177 F) mixed trivial (by kernel_rfl) (fun x y k=>T177c F x.1 k) (fun _ _ _=>by simp only [T177,T177c,oA,oC,oS,oN,elimS_bind]) (fun _ _=>by kernel_rfl)
def E172 (F:Nat):Ev:=⟨cfgR,24,ctOf [(177,ct177 F),(167,ct167 F)],fun _=>[],ctOf [],fun _=>none,fun _=>none⟩
theorem cts172 (F:Nat):CtsOk Tryz.prog (E172 F):=cts_of (l:=[(177,ct177 F),(167,ct167 F)]) (l':=[]) rfl rfl ⟨⟨ok177 F,_,Tryz.func177,rfl,rfl⟩,⟨⟨ok167 F,_,Tryz.func167,rfl,rfl⟩,trivial⟩⟩ trivial
def L172_2c (F:Nat) (y21:Int) (y22:Int) (y23:List (Option Za)×List Nat) {β:Type} (kA:(Int×(List (Option Za)×List Nat))->Option β) (kO:((List (Option Za)×List Nat))->Option β):Option β:=
 (bif (decide (y22 < y21)) then (Option.bind (inb y23.2.length y22) fun x30=>(Option.bind (outG y23.2 x30) fun x31=>(Option.bind (rxG y23.1 x31) fun x32=>(Option.bind (rxG y23.1 x31) fun x33=>(Option.bind (inb x33.length y22) fun x34=>(Option.bind (rxG y23.1 x31) fun x35=>(kA ((w64 (y22 + (1:Int))),((List.set y23.1 x31 (some (List.set x35 x34 (UInt8.ofNat 1)))),y23.2))))))))) else (kO y23))
def L172_2 (F:Nat) (y21:Int) (y22:Int) (y23:List (Option Za)×List Nat):=L172_2c F y21 y22 y23 (fun s=>some (Sum.inl s)) (fun z=>some (Sum.inr z))
def lc172_2 (F:Nat):Lc:=mkL [3,12,13] [(.rw 0),.i,.i] [.rr 39 5 .u8] [3] [(.rw 0)] [.rr 39 5 .u8] F (fun x y (s:Int×(List (Option Za)×List Nat))=>L172_2 F x.2.1 s.1 s.2) (fun x y=>(x.2.2.1,y.1)) (fun x y (z:(List (Option Za)×List Nat))=>(((),()),(z,())))
theorem lo172_2 (F:Nat):LcOk Tryz.prog (E172 F) 0 (lc172_2 F) (cAt (bodyOf Tryz.f172) [1,0,1,1,1]):=
 mkL_ok (lp:=[]) (id:=0) (b:=cAt (bodyOf Tryz.f172) (0 :: 0 :: [1,0,1,1,1])) cokR (cts172 F) mixed trivial (by kernel_rfl) (by kernel_rfl) (fun x y s=>((),x.2.1,s.1,())) (fun x y s=>(s.2,())) (fun x y=>rfl) (fun x y=>rfl) (fun x y s kA kO=>L172_2c F x.2.1 s.1 s.2 kA kO) (fun _ _ _ _ _=>by simp only [L172_2,L172_2c,oA,oC,oS,oN,elimS_l,elimS_r,elimS_bind]) (fun _ _ _=>by kernel_rfl)
def T172c (F:Nat) (p0:Int) {β:Type} (k:(Zd)->Option β):Option β:=
 (Option.bind (T177 F p0) fun z19=>(bif (!z19) then (k ([]:List Za)) else (Option.bind (T167 F p0 p0) fun z20=>(Option.bind (iter (fun s=>L172_2 F (z20.2.length:Int) s.1 s.2) F ((0:Int),z20)) fun z36=>(Option.bind (mat z36.1 z36.2) fun x37=>(k x37))))))
def T172 (F:Nat) (p0:Int):=T172c F p0 some
def ct172 (F:Nat):Ct:=mkC 0 [.i] [] [(.ro Qd)] [] (fun x y=>T172 F x.1) (fun x y (z:Zd)=>((z,()),()))
theorem ok172 (F:Nat):Sound Tryz.prog cfg 172 (ct172 F):=
 mkC_ok (E:=E172 F) (lp:=[([1,0,1,1,1],lc172_2 F)]) (code:=bodyOf Tryz.f172) Tryz.func172 rfl Tryz.ntmps172 rfl rfl cokR (cts172 F) mixed ⟨lo172_2 F,trivial⟩ (by kernel_rfl) (fun x y k=>T172c F x.1 k) (fun _ _ _=>by simp only [T172,T172c,oA,oC,oS,oN,elimS_bind]) (fun _ _=>by kernel_rfl)
def ord179x1:Nat->List (Tag×Nat)
 | 4=>[(.r,0),(.p,1),(.p,2),(.r,3),(.p,4),(.p,5),(.r,6),(.r,7),(.p,8),(.r,9),(.p,10)]
 | _=>[]
def al179x1:Nat->Option Nat
 | _=>none
def ms179x1:Nat->Option (List (Option Tag×Nat×List Nat))
 | _=>none
def E179x1 (F:Nat):Ev:=⟨cfg,27,ctOf [],ord179x1,ctOf [],al179x1,ms179x1⟩
theorem cts179x1 (F:Nat):CtsOk Tryz.prog (E179x1 F):=cts_of (l:=[]) (l':=[]) rfl rfl trivial trivial
def L179x1_2c (F:Nat) (y15:Int) (y17:List (List UInt8)) (y13:Int) {β:Type} (kA:Int->Option β) (kO:Unit->Option β) (kR:Int->Option β):Option β:=
 (bif (decide (y13 < (y17.length:Int))) then (Option.bind (inb y17.length y13) fun x21=>(Option.bind (y17[x21]?) fun x22=>(Option.bind (ix x22 y15) fun x23=>(bif (x23 != (UInt8.ofNat 0)) then (kR y13) else (kA (w64 (y13 + (1:Int)))))))) else (kO ()))
def L179x1_2 (F:Nat) (y15:Int) (y17:List (List UInt8)) (y13:Int):Option ((Int) ⊕ ((Unit) ⊕ (Int))):=L179x1_2c F y15 y17 y13 (fun s=>some (.inl s)) (fun z=>some (.inr (.inl z))) (fun z=>some (.inr (.inr z)))
theorem L179x1_2n (F:Nat) (y15:Int) (y17:List (List UInt8)) (y13:Int) {β:Type} (kA:Int->Option β) (kO:Unit->Option β) (kR:Int->Option β):L179x1_2c F y15 y17 y13 kA kO kR=(L179x1_2 F y15 y17 y13).bind (elimS kA (elimS kO kR)):=by
 simp only [L179x1_2,L179x1_2c,Option.bind_assoc,cond_bind,Option.bind_some,Option.bind_none,elimS_l,elimS_r,elimS_bind]
abbrev sA179x1_2:List Sh:=[(.pt 1 []),(.pt 2 []),.i]
abbrev sAp1179x1_2:List Sh:=[]
abbrev sAp2179x1_2:List Sh:=[.i]
abbrev sT179x1_2:List TSh:=[.blk 3 .i,.blk 220 (.pt 3 []),.blk 3 .i,.blk 224 (.pr (.rw 4) (.pr .ns (.pr .u8 .un))),.row 39 (.sl .u8)]
abbrev sTp1179x1_2:List TSh:=[.blk 3 .i,.blk 220 (.pt 3 []),.blk 3 .i,.blk 224 (.pr (.rw 4) (.pr .ns (.pr .u8 .un))),.row 39 (.sl .u8)]
abbrev sTp2179x1_2:List TSh:=[.blk 3 .i,.blk 220 (.pt 3 []),.blk 3 .i,.blk 224 (.pr (.rw 4) (.pr .ns (.pr .u8 .un))),.row 39 (.sl .u8)]
def lc179x1_2 (F:Nat):Lc:=mkR [1,2,4] sA179x1_2 sT179x1_2 [] sAp1179x1_2 sTp1179x1_2 [3] sAp2179x1_2 sTp2179x1_2 F (fun x y (s:Int)=>L179x1_2 F y.2.2.1 y.2.2.2.2.1 s) (fun x y=>x.2.2.1) (fun x y (z:Unit)=>((),(y.1,(),y.2.2.1,((),(),y.2.2.2.1.2.2.1,()),y.2.2.2.2.1,()))) (fun x y (z:Int)=>((z,()),(y.1,(),y.2.2.1,((),(),y.2.2.2.1.2.2.1,()),y.2.2.2.2.1,())))
theorem le179x1_2 (F:Nat) (x:dens sA179x1_2) (y:tdens sT179x1_2) (s:Int):sev (E179x1 F) 5 [] (cAt (bodyOf Tryz.f179) (0 :: 0 :: [1,0,1])) (0 :: 0 :: [1,0,1]) (mkSt [1,2,4] sA179x1_2 sT179x1_2 ((),(),s,()) (y.1,(),y.2.2.1,((),(),y.2.2.2.1.2.2.1,()),y.2.2.2.2.1,())) (kLoop 5 [1,2,4] sA179x1_2 sT179x1_2 [] sAp1179x1_2 sTp1179x1_2 [3] sAp2179x1_2 sTp2179x1_2 0 (fun x y=>some (.inl (x,y))) (fun x y=>some (.inr (.inl (x,y)))) (fun x y=>some (.inr (.inr (x,y))))) =
  L179x1_2c (β:=Full sA179x1_2 sT179x1_2 sAp1179x1_2 sTp1179x1_2 sAp2179x1_2 sTp2179x1_2) F y.2.2.1 y.2.2.2.2.1 s (fun s=>some (.inl (((),(),s,()),(y.1,(),y.2.2.1,((),(),y.2.2.2.1.2.2.1,()),y.2.2.2.2.1,())))) (fun z=>some (.inr (.inl ((),(y.1,(),y.2.2.1,((),(),y.2.2.2.1.2.2.1,()),y.2.2.2.2.1,()))))) (fun z=>some (.inr (.inr ((z,()),(y.1,(),y.2.2.1,((),(),y.2.2.2.1.2.2.1,()),y.2.2.2.2.1,()))))):=by kernel_rfl
theorem lo179x1_2 (F:Nat):LcOk Tryz.prog (E179x1 F) 5 (lc179x1_2 F) (cAt (bodyOf Tryz.f179) [1,0,1]):=
 mkR_ok (lp:=[]) (id:=0) (b:=cAt (bodyOf Tryz.f179) (0 :: 0 :: [1,0,1])) cok (cts179x1 F) mixed trivial (by kernel_rfl) (by kernel_rfl) (fun x y s=>((),(),s,())) (fun x y s=>(y.1,(),y.2.2.1,((),(),y.2.2.2.1.2.2.1,()),y.2.2.2.2.1,())) (fun x y=>rfl) (fun x y=>rfl) (fun x y s kA kO kR=>L179x1_2c F y.2.2.1 y.2.2.2.2.1 s kA kO kR) (fun x y s kA kO kR=>L179x1_2n F y.2.2.1 y.2.2.2.2.1 s kA kO kR) (le179x1_2 F)
def T179x1c (F:Nat) (p0:Int) (p1:Int) (p3:List (List UInt8)) {β:Type} (k:Int->Option β):Option β:=
 (Option.bind (iter (fun s=>L179x1_2 F p1 p3 s) F p0) fun z24=>elimS (fun z24=>(k (-1:Int))) (fun z24=>(k z24)) z24)
def T179x1 (F:Nat) (p0:Int) (p1:Int) (p3:List (List UInt8)):Option (Int):=T179x1c F p0 p1 p3 some
theorem T179x1n (F:Nat) (p0:Int) (p1:Int) (p3:List (List UInt8)) {β:Type} (k:Int->Option β):T179x1c F p0 p1 p3 k=(T179x1 F p0 p1 p3).bind k:=by
 simp only [T179x1,T179x1c,Option.bind_assoc,cond_bind,Option.bind_some,Option.bind_none,elimS_bind]
abbrev cA179x1:List Sh:=[(.pt 0 []),(.pt 1 []),(.pt 2 [])]
abbrev cB179x1:List Sh:=[.i]
abbrev cT179x1:List TSh:=[.blk 3 .i,.blk 220 (.pt 3 []),.blk 3 .i,.blk 224 (.pr (.rw 4) (.pr .ns (.pr .u8 .un))),.row 39 (.sl .u8)]
abbrev cU179x1:List TSh:=[.blk 3 .i,.blk 220 (.pt 3 []),.blk 3 .i,.blk 224 (.pr (.rw 4) (.pr .ns (.pr .u8 .un))),.row 39 (.sl .u8)]
def ct179x1 (F:Nat):Ct:=mkC 5 cA179x1 cT179x1 cB179x1 cU179x1 (fun x y=>T179x1 F y.1 y.2.2.1 y.2.2.2.2.1) (fun x y (z:Int)=>((z,()),(y.1,(),y.2.2.1,((),(),y.2.2.2.1.2.2.1,()),y.2.2.2.2.1,())))
theorem eq179x1 (F:Nat) (x:dens cA179x1) (y:tdens cT179x1):sev (E179x1 F) 5 [([1,0,1],lc179x1_2 F)] (bodyOf Tryz.f179) [] (mkSt (rng 3) cA179x1 cT179x1 x y) (kFn (E179x1 F) 5 Tryz.f179.results.toList cB179x1 cU179x1 fun p q=>some (p,q)) =
  T179x1c F y.1 y.2.2.1 y.2.2.2.2.1 (fun z=>some ((z,()),(y.1,(),y.2.2.1,((),(),y.2.2.2.1.2.2.1,()),y.2.2.2.2.1,()))):=by kernel_rfl
theorem ok179x1 (F:Nat):Sound Tryz.prog cfg 179 (ct179x1 F):=
 mkC_ok (E:=E179x1 F) (lp:=[([1,0,1],lc179x1_2 F)]) (code:=bodyOf Tryz.f179) Tryz.func179 rfl Tryz.ntmps179 rfl rfl cok (cts179x1 F) mixed ⟨lo179x1_2 F,trivial⟩ (by kernel_rfl) (fun x y k=>T179x1c F y.1 y.2.2.1 y.2.2.2.2.1 k) (fun x y k=>T179x1n F y.1 y.2.2.1 y.2.2.2.2.1 k) (eq179x1 F)
def ord180:Nat->List (Tag×Nat)
 | 1=>[(.p,0),(.p,1),(.p,2),(.c,3),(.p,4),(.p,5),(.p,6),(.p,7),(.r,8),(.p,9),(.p,10),(.r,11),(.p,12),(.w,13),(.p,14),(.b,15)]
 | 6=>[(.p,0),(.p,1),(.p,2),(.c,3),(.p,4),(.p,5),(.p,6),(.p,7),(.p,8),(.r,9),(.p,10),(.p,11),(.r,12),(.p,13),(.p,14),(.p,15),(.r,16),(.w,17),(.p,18),(.p,19),(.p,20),(.p,21),(.b,22)]
 | _=>[]
def E180 (F:Nat):Ev:=⟨cfg,82,ctOf [(152,ct152 F),(174,ct174 F),(168,ct168 F)],ord180,ctOf [],fun _=>none,fun _=>none⟩
theorem cts180 (F:Nat):CtsOk Tryz.prog (E180 F):=cts_of (l:=[(152,ct152 F),(174,ct174 F),(168,ct168 F)]) (l':=[]) rfl rfl ⟨⟨ok152 F,_,Tryz.func152,rfl,rfl⟩,⟨⟨ok174 F,_,Tryz.func174,rfl,rfl⟩,⟨⟨ok168 F,_,Tryz.func168,rfl,rfl⟩,trivial⟩⟩⟩ trivial
def L180_2c (F:Nat) (y40:Int) (y41:Int) (y42:Int) (y43:Int) (y45:List Za) {β:Type} (kA:(Int×Zd)->Option β) (kO:(Zd)->Option β):Option β:=
 (bif (decide (y43 < y42)) then (Option.bind (inb y45.length y43) fun x54=>(Option.bind (y45[x54]?) fun x55=>(bif (y43 != y40) then (Option.bind (ix x55 y41) fun x56=>(bif (x56 != (UInt8.ofNat 0)) then (Option.bind (inb y45.length y40) fun x57=>(Option.bind (y45[x57]?) fun x58=>(Option.bind (ix x55 y41) fun x59=>(Option.bind (T168 F x55 x58 x59) fun z60=>(Option.bind (inb y45.length y43) fun x61=>(kA ((w64 (y43 + (1:Int))),(List.set y45 x61 z60.2)))))))) else (kA ((w64 (y43 + (1:Int))),y45)))) else (kA ((w64 (y43 + (1:Int))),y45))))) else (kO y45))
def L180_2 (F:Nat) (y40:Int) (y41:Int) (y42:Int) (y43:Int) (y45:List Za):=L180_2c F y40 y41 y42 y43 y45 (fun s=>some (Sum.inl s)) (fun z=>some (Sum.inr z))
def lc180_2 (F:Nat):Lc:=mkL [0,1,2,42,43,44] [(.pt 0 []),.i,.i,(.rw 1),.i,.i] [.blk 224 Qi,.row 39 Qd] [] [] [.blk 224 Qi,.row 39 Qd] F (fun x y (s:Int×Zd)=>L180_2 F x.2.1 x.2.2.1 x.2.2.2.2.1 s.1 s.2) (fun x y=>(x.2.2.2.2.2.1,y.2.1)) (fun x y (z:Zd)=>((),(((),(),y.1.2.2.1,()),z,())))
theorem lo180_2 (F:Nat):LcOk Tryz.prog (E180 F) 2 (lc180_2 F) (cAt (bodyOf Tryz.f180) [1,1,1]):=
 mkL_ok (lp:=[]) (id:=0) (b:=cAt (bodyOf Tryz.f180) (0 :: 0 :: [1,1,1])) cok (cts180 F) mixed trivial (by kernel_rfl) (by kernel_rfl) (fun x y s=>((),x.2.1,x.2.2.1,(),x.2.2.2.2.1,s.1,())) (fun x y s=>(((),(),y.1.2.2.1,()),s.2,())) (fun x y=>rfl) (fun x y=>rfl) (fun x y s kA kO=>L180_2c F x.2.1 x.2.2.1 x.2.2.2.2.1 s.1 s.2 kA kO) (fun _ _ _ _ _=>by simp only [L180_2,L180_2c,oA,oC,oS,oN,elimS_l,elimS_r,elimS_bind]) (fun _ _ _=>by kernel_rfl)
def T180c (F:Nat) (p0:Int) (p1:Int) (p3:List Za) {β:Type} (k:(Zd)->Option β):Option β:=
 (Option.bind (inb p3.length p0) fun x32=>(Option.bind (p3[x32]?) fun x33=>(Option.bind (ix x33 p1) fun x34=>(Option.bind (T152 F x34) fun z35=>(Option.bind (inb p3.length p0) fun x36=>(Option.bind (p3[x36]?) fun x37=>(Option.bind (T174 F x37 z35.1) fun z38=>(Option.bind (inb p3.length p0) fun x39=>(Option.bind (iter (fun s=>L180_2 F p0 p1 ((List.set p3 x39 z38).length:Int) s.1 s.2) F ((0:Int),(List.set p3 x39 z38))) fun z62=>(k z62))))))))))
def T180 (F:Nat) (p0:Int) (p1:Int) (p3:List Za):=T180c F p0 p1 p3 some
def ct180 (F:Nat):Ct:=mkC 2 [(.pt 0 []),.i,.i] [.blk 224 Qi,.row 39 Qd] [] [.blk 224 Qi,.row 39 Qd] (fun x y=>T180 F x.2.1 x.2.2.1 y.2.1) (fun x y (z:Zd)=>((),(((),(),y.1.2.2.1,()),z,())))
theorem ok180 (F:Nat):Sound Tryz.prog cfg 180 (ct180 F):=
 mkC_ok (E:=E180 F) (lp:=[([1,1,1],lc180_2 F)]) (code:=bodyOf Tryz.f180) Tryz.func180 rfl Tryz.ntmps180 rfl rfl cok (cts180 F) mixed ⟨lo180_2 F,trivial⟩ (by kernel_rfl) (fun x y k=>T180c F x.2.1 x.2.2.1 y.2.1 k) (fun _ _ _=>by simp only [T180,T180c,oA,oC,oS,oN,elimS_bind]) (fun _ _=>by kernel_rfl)
def ord179x3:Nat->List (Tag×Nat)
 | 4=>[(.r,0),(.p,1),(.p,2),(.r,3),(.p,4),(.p,5),(.r,6),(.r,7),(.p,8),(.r,9),(.p,10)]
 | _=>[]
def al179x3:Nat->Option Nat
 | _=>none
def ms179x3:Nat->Option (List (Option Tag×Nat×List Nat))
 | _=>none
def E179x3 (F:Nat):Ev:=⟨cfg,27,ctOf [],ord179x3,ctOf [],al179x3,ms179x3⟩
theorem cts179x3 (F:Nat):CtsOk Tryz.prog (E179x3 F):=cts_of (l:=[]) (l':=[]) rfl rfl trivial trivial
def L179x3_2c (F:Nat) (y16:Int) (y18:List (List UInt8)) (y14:Int) {β:Type} (kA:Int->Option β) (kO:Unit->Option β) (kR:Int->Option β):Option β:=
 (bif (decide (y14 < (y18.length:Int))) then (Option.bind (inb y18.length y14) fun x23=>(Option.bind (y18[x23]?) fun x24=>(Option.bind (ix x24 y16) fun x25=>(bif (x25 != (UInt8.ofNat 0)) then (kR y14) else (kA (w64 (y14 + (1:Int)))))))) else (kO ()))
def L179x3_2 (F:Nat) (y16:Int) (y18:List (List UInt8)) (y14:Int):Option ((Int) ⊕ ((Unit) ⊕ (Int))):=L179x3_2c F y16 y18 y14 (fun s=>some (.inl s)) (fun z=>some (.inr (.inl z))) (fun z=>some (.inr (.inr z)))
theorem L179x3_2n (F:Nat) (y16:Int) (y18:List (List UInt8)) (y14:Int) {β:Type} (kA:Int->Option β) (kO:Unit->Option β) (kR:Int->Option β):L179x3_2c F y16 y18 y14 kA kO kR=(L179x3_2 F y16 y18 y14).bind (elimS kA (elimS kO kR)):=by
 simp only [L179x3_2,L179x3_2c,Option.bind_assoc,cond_bind,Option.bind_some,Option.bind_none,elimS_l,elimS_r,elimS_bind]
abbrev sA179x3_2:List Sh:=[(.pt 1 []),(.pt 2 []),.i]
abbrev sAp1179x3_2:List Sh:=[]
abbrev sAp2179x3_2:List Sh:=[.i]
abbrev sT179x3_2:List TSh:=[.blk 3 .i,.blk 220 (.pt 3 []),.blk 3 .i,.blk 224 (.pr (.rw 4) (.pr (.rw 5) (.pr .u8 .un))),.row 39 (.sl .u8),.row 3 .i]
abbrev sTp1179x3_2:List TSh:=[.blk 3 .i,.blk 220 (.pt 3 []),.blk 3 .i,.blk 224 (.pr (.rw 4) (.pr (.rw 5) (.pr .u8 .un))),.row 39 (.sl .u8),.row 3 .i]
abbrev sTp2179x3_2:List TSh:=[.blk 3 .i,.blk 220 (.pt 3 []),.blk 3 .i,.blk 224 (.pr (.rw 4) (.pr (.rw 5) (.pr .u8 .un))),.row 39 (.sl .u8),.row 3 .i]
def lc179x3_2 (F:Nat):Lc:=mkR [1,2,4] sA179x3_2 sT179x3_2 [] sAp1179x3_2 sTp1179x3_2 [3] sAp2179x3_2 sTp2179x3_2 F (fun x y (s:Int)=>L179x3_2 F y.2.2.1 y.2.2.2.2.1 s) (fun x y=>x.2.2.1) (fun x y (z:Unit)=>((),(y.1,(),y.2.2.1,((),(),y.2.2.2.1.2.2.1,()),y.2.2.2.2.1,y.2.2.2.2.2.1,()))) (fun x y (z:Int)=>((z,()),(y.1,(),y.2.2.1,((),(),y.2.2.2.1.2.2.1,()),y.2.2.2.2.1,y.2.2.2.2.2.1,())))
theorem le179x3_2 (F:Nat) (x:dens sA179x3_2) (y:tdens sT179x3_2) (s:Int):sev (E179x3 F) 6 [] (cAt (bodyOf Tryz.f179) (0 :: 0 :: [1,0,1])) (0 :: 0 :: [1,0,1]) (mkSt [1,2,4] sA179x3_2 sT179x3_2 ((),(),s,()) (y.1,(),y.2.2.1,((),(),y.2.2.2.1.2.2.1,()),y.2.2.2.2.1,y.2.2.2.2.2.1,())) (kLoop 6 [1,2,4] sA179x3_2 sT179x3_2 [] sAp1179x3_2 sTp1179x3_2 [3] sAp2179x3_2 sTp2179x3_2 0 (fun x y=>some (.inl (x,y))) (fun x y=>some (.inr (.inl (x,y)))) (fun x y=>some (.inr (.inr (x,y))))) =
  L179x3_2c (β:=Full sA179x3_2 sT179x3_2 sAp1179x3_2 sTp1179x3_2 sAp2179x3_2 sTp2179x3_2) F y.2.2.1 y.2.2.2.2.1 s (fun s=>some (.inl (((),(),s,()),(y.1,(),y.2.2.1,((),(),y.2.2.2.1.2.2.1,()),y.2.2.2.2.1,y.2.2.2.2.2.1,())))) (fun z=>some (.inr (.inl ((),(y.1,(),y.2.2.1,((),(),y.2.2.2.1.2.2.1,()),y.2.2.2.2.1,y.2.2.2.2.2.1,()))))) (fun z=>some (.inr (.inr ((z,()),(y.1,(),y.2.2.1,((),(),y.2.2.2.1.2.2.1,()),y.2.2.2.2.1,y.2.2.2.2.2.1,()))))):=by kernel_rfl
theorem lo179x3_2 (F:Nat):LcOk Tryz.prog (E179x3 F) 6 (lc179x3_2 F) (cAt (bodyOf Tryz.f179) [1,0,1]):=
 mkR_ok (lp:=[]) (id:=0) (b:=cAt (bodyOf Tryz.f179) (0 :: 0 :: [1,0,1])) cok (cts179x3 F) mixed trivial (by kernel_rfl) (by kernel_rfl) (fun x y s=>((),(),s,())) (fun x y s=>(y.1,(),y.2.2.1,((),(),y.2.2.2.1.2.2.1,()),y.2.2.2.2.1,y.2.2.2.2.2.1,())) (fun x y=>rfl) (fun x y=>rfl) (fun x y s kA kO kR=>L179x3_2c F y.2.2.1 y.2.2.2.2.1 s kA kO kR) (fun x y s kA kO kR=>L179x3_2n F y.2.2.1 y.2.2.2.2.1 s kA kO kR) (le179x3_2 F)
def T179x3c (F:Nat) (p0:Int) (p1:Int) (p3:List (List UInt8)) {β:Type} (k:Int->Option β):Option β:=
 (Option.bind (iter (fun s=>L179x3_2 F p1 p3 s) F p0) fun z26=>elimS (fun z26=>(k (-1:Int))) (fun z26=>(k z26)) z26)
def T179x3 (F:Nat) (p0:Int) (p1:Int) (p3:List (List UInt8)):Option (Int):=T179x3c F p0 p1 p3 some
theorem T179x3n (F:Nat) (p0:Int) (p1:Int) (p3:List (List UInt8)) {β:Type} (k:Int->Option β):T179x3c F p0 p1 p3 k=(T179x3 F p0 p1 p3).bind k:=by
 simp only [T179x3,T179x3c,Option.bind_assoc,cond_bind,Option.bind_some,Option.bind_none,elimS_bind]
abbrev cA179x3:List Sh:=[(.pt 0 []),(.pt 1 []),(.pt 2 [])]
abbrev cB179x3:List Sh:=[.i]
abbrev cT179x3:List TSh:=[.blk 3 .i,.blk 220 (.pt 3 []),.blk 3 .i,.blk 224 (.pr (.rw 4) (.pr (.rw 5) (.pr .u8 .un))),.row 39 (.sl .u8),.row 3 .i]
abbrev cU179x3:List TSh:=[.blk 3 .i,.blk 220 (.pt 3 []),.blk 3 .i,.blk 224 (.pr (.rw 4) (.pr (.rw 5) (.pr .u8 .un))),.row 39 (.sl .u8),.row 3 .i]
def ct179x3 (F:Nat):Ct:=mkC 6 cA179x3 cT179x3 cB179x3 cU179x3 (fun x y=>T179x3 F y.1 y.2.2.1 y.2.2.2.2.1) (fun x y (z:Int)=>((z,()),(y.1,(),y.2.2.1,((),(),y.2.2.2.1.2.2.1,()),y.2.2.2.2.1,y.2.2.2.2.2.1,())))
theorem eq179x3 (F:Nat) (x:dens cA179x3) (y:tdens cT179x3):sev (E179x3 F) 6 [([1,0,1],lc179x3_2 F)] (bodyOf Tryz.f179) [] (mkSt (rng 3) cA179x3 cT179x3 x y) (kFn (E179x3 F) 6 Tryz.f179.results.toList cB179x3 cU179x3 fun p q=>some (p,q)) =
  T179x3c F y.1 y.2.2.1 y.2.2.2.2.1 (fun z=>some ((z,()),(y.1,(),y.2.2.1,((),(),y.2.2.2.1.2.2.1,()),y.2.2.2.2.1,y.2.2.2.2.2.1,()))):=by kernel_rfl
theorem ok179x3 (F:Nat):Sound Tryz.prog cfg 179 (ct179x3 F):=
 mkC_ok (E:=E179x3 F) (lp:=[([1,0,1],lc179x3_2 F)]) (code:=bodyOf Tryz.f179) Tryz.func179 rfl Tryz.ntmps179 rfl rfl cok (cts179x3 F) mixed ⟨lo179x3_2 F,trivial⟩ (by kernel_rfl) (fun x y k=>T179x3c F y.1 y.2.2.1 y.2.2.2.2.1 k) (fun x y k=>T179x3n F y.1 y.2.2.1 y.2.2.2.2.1 k) (eq179x3 F)
def ord180x1:Nat->List (Tag×Nat)
 | 1=>[(.p,0),(.p,1),(.p,2),(.c,3),(.p,4),(.p,5),(.p,6),(.p,7),(.r,8),(.p,9),(.p,10),(.r,11),(.p,12),(.w,13),(.p,14),(.b,15)]
 | 6=>[(.p,0),(.p,1),(.p,2),(.c,3),(.p,4),(.p,5),(.p,6),(.p,7),(.p,8),(.r,9),(.p,10),(.p,11),(.r,12),(.p,13),(.p,14),(.p,15),(.r,16),(.w,17),(.p,18),(.p,19),(.p,20),(.p,21),(.b,22)]
 | _=>[]
def al180x1:Nat->Option Nat
 | _=>none
def ms180x1:Nat->Option (List (Option Tag×Nat×List Nat))
 | _=>none
def E180x1 (F:Nat):Ev:=⟨cfg,82,ctOf [(152,ct152 F),(174,ct174 F),(168,ct168 F)],ord180x1,ctOf [],al180x1,ms180x1⟩
theorem cts180x1 (F:Nat):CtsOk Tryz.prog (E180x1 F):=cts_of (l:=[(152,ct152 F),(174,ct174 F),(168,ct168 F)]) (l':=[]) rfl rfl ⟨⟨ok152 F,_,Tryz.func152,rfl,rfl⟩,⟨⟨ok174 F,_,Tryz.func174,rfl,rfl⟩,⟨⟨ok168 F,_,Tryz.func168,rfl,rfl⟩,trivial⟩⟩⟩ trivial
def L180x1_2c (F:Nat) (y41:Int) (y42:Int) (y43:Int) (y44:Int) (y46:List (List UInt8)) {β:Type} (kA:(Int×(List (List UInt8)))->Option β) (kO:((List (List UInt8)))->Option β):Option β:=
 (bif (decide (y44 < y43)) then (Option.bind (inb y46.length y44) fun x56=>(Option.bind (y46[x56]?) fun x57=>(bif (y44 != y41) then (Option.bind (ix x57 y42) fun x58=>(bif (x58 != (UInt8.ofNat 0)) then (Option.bind (inb y46.length y41) fun x59=>(Option.bind (y46[x59]?) fun x60=>(Option.bind (ix x57 y42) fun x61=>(Option.bind (T168 F x57 x60 x61) fun z62=>(Option.bind (inb y46.length y44) fun x63=>(kA ((w64 (y44 + (1:Int))),(List.set y46 x63 z62.2)))))))) else (kA ((w64 (y44 + (1:Int))),y46)))) else (kA ((w64 (y44 + (1:Int))),y46))))) else (kO y46))
def L180x1_2 (F:Nat) (y41:Int) (y42:Int) (y43:Int) (y44:Int) (y46:List (List UInt8)):Option ((Int×(List (List UInt8))) ⊕ ((List (List UInt8)))):=L180x1_2c F y41 y42 y43 y44 y46 (fun s=>some (.inl s)) (fun z=>some (.inr z))
theorem L180x1_2n (F:Nat) (y41:Int) (y42:Int) (y43:Int) (y44:Int) (y46:List (List UInt8)) {β:Type} (kA:(Int×(List (List UInt8)))->Option β) (kO:((List (List UInt8)))->Option β):L180x1_2c F y41 y42 y43 y44 y46 kA kO=(L180x1_2 F y41 y42 y43 y44 y46).bind (elimS kA kO):=by
 simp only [L180x1_2,L180x1_2c,Option.bind_assoc,cond_bind,Option.bind_some,Option.bind_none,elimS_l,elimS_r,elimS_bind]
abbrev sA180x1_2:List Sh:=[(.pt 0 []),.i,.i,(.rw 1),.i,.i]
abbrev sAp1180x1_2:List Sh:=[]
abbrev sT180x1_2:List TSh:=[.blk 224 (.pr (.rw 1) (.pr (.rw 2) (.pr .u8 .un))),.row 39 (.sl .u8),.row 3 .i]
abbrev sTp1180x1_2:List TSh:=[.blk 224 (.pr (.rw 1) (.pr (.rw 2) (.pr .u8 .un))),.row 39 (.sl .u8),.row 3 .i]
def lc180x1_2 (F:Nat):Lc:=mkL [0,1,2,42,43,44] sA180x1_2 sT180x1_2 [] sAp1180x1_2 sTp1180x1_2 F (fun x y (s:Int×(List (List UInt8)))=>L180x1_2 F x.2.1 x.2.2.1 x.2.2.2.2.1 s.1 s.2) (fun x y=>(x.2.2.2.2.2.1,y.2.1)) (fun x y (z:(List (List UInt8)))=>((),(((),(),y.1.2.2.1,()),z,y.2.2.1,())))
theorem le180x1_2 (F:Nat) (x:dens sA180x1_2) (y:tdens sT180x1_2) (s:Int×(List (List UInt8))):sev (E180x1 F) 3 [] (cAt (bodyOf Tryz.f180) (0 :: 0 :: [1,1,1])) (0 :: 0 :: [1,1,1]) (mkSt [0,1,2,42,43,44] sA180x1_2 sT180x1_2 ((),x.2.1,x.2.2.1,(),x.2.2.2.2.1,s.1,()) (((),(),y.1.2.2.1,()),s.2,y.2.2.1,())) (kLoop 3 [0,1,2,42,43,44] sA180x1_2 sT180x1_2 [] sAp1180x1_2 sTp1180x1_2 [] [] [] 0 (fun x y=>some (.inl (x,y))) (fun x y=>some (.inr (.inl (x,y)))) (fun x y=>some (.inr (.inr (x,y))))) =
  L180x1_2c (β:=Full sA180x1_2 sT180x1_2 sAp1180x1_2 sTp1180x1_2 [] []) F x.2.1 x.2.2.1 x.2.2.2.2.1 s.1 s.2 (fun s=>some (.inl (((),x.2.1,x.2.2.1,(),x.2.2.2.2.1,s.1,()),(((),(),y.1.2.2.1,()),s.2,y.2.2.1,())))) (fun z=>some (.inr (.inl ((),(((),(),y.1.2.2.1,()),z,y.2.2.1,()))))):=by kernel_rfl
theorem lo180x1_2 (F:Nat):LcOk Tryz.prog (E180x1 F) 3 (lc180x1_2 F) (cAt (bodyOf Tryz.f180) [1,1,1]):=
 mkL_ok (lp:=[]) (id:=0) (b:=cAt (bodyOf Tryz.f180) (0 :: 0 :: [1,1,1])) cok (cts180x1 F) mixed trivial (by kernel_rfl) (by kernel_rfl) (fun x y s=>((),x.2.1,x.2.2.1,(),x.2.2.2.2.1,s.1,())) (fun x y s=>(((),(),y.1.2.2.1,()),s.2,y.2.2.1,())) (fun x y=>rfl) (fun x y=>rfl) (fun x y s kA kO=>L180x1_2c F x.2.1 x.2.2.1 x.2.2.2.2.1 s.1 s.2 kA kO) (fun x y s kA kO=>L180x1_2n F x.2.1 x.2.2.1 x.2.2.2.2.1 s.1 s.2 kA kO) (le180x1_2 F)
def T180x1c (F:Nat) (p0:Int) (p1:Int) (p3:List (List UInt8)) {β:Type} (k:((List (List UInt8)))->Option β):Option β:=
 (Option.bind (inb p3.length p0) fun x33=>(Option.bind (p3[x33]?) fun x34=>(Option.bind (ix x34 p1) fun x35=>(Option.bind (T152 F x35) fun z36=>(Option.bind (inb p3.length p0) fun x37=>(Option.bind (p3[x37]?) fun x38=>(Option.bind (T174 F x38 z36.1) fun z39=>(Option.bind (inb p3.length p0) fun x40=>(Option.bind (iter (fun s=>L180x1_2 F p0 p1 ((List.set p3 x40 z39).length:Int) s.1 s.2) F ((0:Int),(List.set p3 x40 z39))) fun z64=>(k z64))))))))))
def T180x1 (F:Nat) (p0:Int) (p1:Int) (p3:List (List UInt8)):Option ((List (List UInt8))):=T180x1c F p0 p1 p3 some
theorem T180x1n (F:Nat) (p0:Int) (p1:Int) (p3:List (List UInt8)) {β:Type} (k:((List (List UInt8)))->Option β):T180x1c F p0 p1 p3 k=(T180x1 F p0 p1 p3).bind k:=by
 simp only [T180x1,T180x1c,Option.bind_assoc,cond_bind,Option.bind_some,Option.bind_none,elimS_bind]
abbrev cA180x1:List Sh:=[(.pt 0 []),.i,.i]
abbrev cB180x1:List Sh:=[]
abbrev cT180x1:List TSh:=[.blk 224 (.pr (.rw 1) (.pr (.rw 2) (.pr .u8 .un))),.row 39 (.sl .u8),.row 3 .i]
abbrev cU180x1:List TSh:=[.blk 224 (.pr (.rw 1) (.pr (.rw 2) (.pr .u8 .un))),.row 39 (.sl .u8),.row 3 .i]
def ct180x1 (F:Nat):Ct:=mkC 3 cA180x1 cT180x1 cB180x1 cU180x1 (fun x y=>T180x1 F x.2.1 x.2.2.1 y.2.1) (fun x y (z:(List (List UInt8)))=>((),(((),(),y.1.2.2.1,()),z,y.2.2.1,())))
theorem eq180x1 (F:Nat) (x:dens cA180x1) (y:tdens cT180x1):sev (E180x1 F) 3 [([1,1,1],lc180x1_2 F)] (bodyOf Tryz.f180) [] (mkSt (rng 3) cA180x1 cT180x1 x y) (kFn (E180x1 F) 3 Tryz.f180.results.toList cB180x1 cU180x1 fun p q=>some (p,q)) =
  T180x1c F x.2.1 x.2.2.1 y.2.1 (fun z=>some ((),(((),(),y.1.2.2.1,()),z,y.2.2.1,()))):=by kernel_rfl
theorem ok180x1 (F:Nat):Sound Tryz.prog cfg 180 (ct180x1 F):=
 mkC_ok (E:=E180x1 F) (lp:=[([1,1,1],lc180x1_2 F)]) (code:=bodyOf Tryz.f180) Tryz.func180 rfl Tryz.ntmps180 rfl rfl cok (cts180x1 F) mixed ⟨lo180x1_2 F,trivial⟩ (by kernel_rfl) (fun x y k=>T180x1c F x.2.1 x.2.2.1 y.2.1 k) (fun x y k=>T180x1n F x.2.1 x.2.2.1 y.2.1 k) (eq180x1 F)
def ord176:Nat->List (Tag×Nat)
 | 8=>[(.r,0),(.p,1),(.p,2),(.r,3),(.r,4),(.r,5),(.p,6),(.p,7),(.r,8),(.p,9),(.r,10),(.p,11),(.p,12),(.r,13),(.p,14),(.p,15),(.r,16),(.r,17),(.p,18),(.p,19),(.r,20),(.r,21),(.p,22),(.r,23),(.p,24),(.w,25),(.p,26),(.w,27)]
 | 9=>[(.c,0),(.r,1),(.p,2),(.p,3),(.r,4),(.r,5),(.p,6),(.p,7),(.r,8),(.r,9),(.p,10),(.r,11),(.r,12),(.p,13),(.r,14),(.w,15),(.p,16),(.p,17),(.b,18)]
 | 11=>[(.c,0),(.c,1),(.p,2),(.p,3),(.c,4),(.r,5),(.w,6),(.w,7),(.p,8),(.p,9),(.b,10)]
 | _=>[]
def E176 (F:Nat):Ev:=⟨cfg,81,ctOf [(179,ct179x1 F),(169,ct169 F),(180,ct180 F),(179,ct179x3 F),(180,ct180x1 F)],ord176,ctOf [],fun _=>none,fun _=>none⟩
theorem cts176 (F:Nat):CtsOk Tryz.prog (E176 F):=cts_of (l:=[(179,ct179x1 F),(169,ct169 F),(180,ct180 F),(179,ct179x3 F),(180,ct180x1 F)]) (l':=[]) rfl rfl ⟨⟨ok179x1 F,_,Tryz.func179,rfl,rfl⟩,⟨⟨ok169 F,_,Tryz.func169,rfl,rfl⟩,⟨⟨ok180 F,_,Tryz.func180,rfl,rfl⟩,⟨⟨ok179x3 F,_,Tryz.func179,rfl,rfl⟩,⟨⟨ok180x1 F,_,Tryz.func180,rfl,rfl⟩,trivial⟩⟩⟩⟩⟩ trivial
def L176_8c (F:Nat) (y113:Int) (y116:UInt8) (y117:List Za) (y118:Int) (y119:Int) (y120:List Int) {β:Type} (kO:(UInt8×Zd×Zk)->Option β):Option β:=
 (Option.bind (inb y117.length y113) fun x133=>(Option.bind (y117[x133]?) fun x134=>(Option.bind (inb y117.length y119) fun x135=>(Option.bind (y117[x135]?) fun x136=>(Option.bind (inb y117.length y119) fun x137=>(Option.bind (inb (List.set y117 x137 x134).length y113) fun x138=>(Option.bind (inb (List.set (List.set y117 x137 x134) x138 x136).length y119) fun x139=>(Option.bind ((List.set (List.set y117 x137 x134) x138 x136)[x139]?) fun x140=>(Option.bind (ix x140 y118) fun x141=>(Option.bind (T169 F y116 x141) fun z142=>(Option.bind (T180x1 F y119 y118 (List.set (List.set y117 x137 x134) x138 x136)) fun z143=>(Option.bind (gapp y120 ([y118]:List Int)) fun x144=>(kO (z142,z143,x144))))))))))))))
def L176_8 (F:Nat) (y113:Int) (y116:UInt8) (y117:List Za) (y118:Int) (y119:Int) (y120:List Int):Option (UInt8×Zd×Zk):=L176_8c F y113 y116 y117 y118 y119 y120 (fun z=>some z)
theorem L176_8n (F:Nat) (y113:Int) (y116:UInt8) (y117:List Za) (y118:Int) (y119:Int) (y120:List Int) {β:Type} (kO:(UInt8×Zd×Zk)->Option β):L176_8c F y113 y116 y117 y118 y119 y120 kO=(L176_8 F y113 y116 y117 y118 y119 y120).bind (kO):=by
 simp only [L176_8,L176_8c,oA,oC,oS,oN,elimS_l,elimS_r,elimS_bind]
def lc176_8 (F:Nat):Lc:=mkJ [2,4,5,7,8,9] [(.pt 2 []),(.pt 3 []),(.pt 4 []),.i,.i,.i] [.blk 224 (.pr (.rw 1) (.pr (.rw 5) (.pr .u8 .un))),.row 39 Qd,.blk 220 (.pt 0 []),.blk 3 .i,.blk 3 .i,.row 3 .i] [2,8,9] [(.pt 2 []),.i,.i] [.blk 224 (.pr (.rw 1) (.pr (.rw 3) (.pr .u8 .un))),.row 39 Qd,.blk 220 (.pt 0 []),.row 3 .i] (fun x y=>L176_8 F x.2.2.2.1 y.1.2.2.1 y.2.1 y.2.2.2.1 y.2.2.2.2.1 y.2.2.2.2.2.1) (fun x y (z:UInt8×Zd×Zk)=>(((),x.2.2.2.2.1,x.2.2.2.2.2.1,()),(((),(),z.1,()),z.2.1,(),z.2.2,())))
theorem lo176_8 (F:Nat):LcOk Tryz.prog (E176 F) 2 (lc176_8 F) (cAt (bodyOf Tryz.f176) [1,1,1,1,1,0,0,1,1,0,0,1,1,0,1]):=
 mkJ_ok (lp:=[]) cok (cts176 F) mixed trivial (by kernel_rfl) (fun x y kO=>L176_8c F x.2.2.2.1 y.1.2.2.1 y.2.1 y.2.2.2.1 y.2.2.2.2.1 y.2.2.2.2.2.1 kO) (fun x y kO=>L176_8n F x.2.2.2.1 y.1.2.2.1 y.2.1 y.2.2.2.1 y.2.2.2.2.1 y.2.2.2.2.2.1 kO) (fun _ _=>by kernel_rfl)
def L176_7c (F:Nat) (y106:Int) (y107:UInt8) (y108:List Za) (y109:List Int) {β:Type} (kO:(Int×UInt8×Zd×Zk)->Option β):Option β:=
 (Option.bind (T179x3 F (y109.length:Int) y106 y108) fun z112=>(bif (decide (z112 < (0:Int))) then (kO ((w64 (y106 + (1:Int))),y107,y108,y109)) else (Option.bind (L176_8 F z112 y107 y108 y106 (y109.length:Int) y109) fun z145=>(kO ((w64 (y106 + (1:Int))),z145.1,z145.2.1,z145.2.2)))))
def L176_7 (F:Nat) (y106:Int) (y107:UInt8) (y108:List Za) (y109:List Int):Option (Int×UInt8×Zd×Zk):=L176_7c F y106 y107 y108 y109 (fun z=>some z)
theorem L176_7n (F:Nat) (y106:Int) (y107:UInt8) (y108:List Za) (y109:List Int) {β:Type} (kO:(Int×UInt8×Zd×Zk)->Option β):L176_7c F y106 y107 y108 y109 kO=(L176_7 F y106 y107 y108 y109).bind (kO):=by
 simp only [L176_7,L176_7c,oA,oC,oS,oN,elimS_l,elimS_r,elimS_bind]
def lc176_7 (F:Nat):Lc:=mkJ [2,8,9] [(.pt 2 []),.i,.i] [.blk 224 (.pr (.rw 1) (.pr (.rw 3) (.pr .u8 .un))),.row 39 Qd,.blk 220 (.pt 0 []),.row 3 .i] [2,8,9] [(.pt 2 []),.i,.i] [.blk 224 (.pr (.rw 1) (.pr (.rw 3) (.pr .u8 .un))),.row 39 Qd,.blk 220 (.pt 0 []),.row 3 .i] (fun x y=>L176_7 F x.2.2.1 y.1.2.2.1 y.2.1 y.2.2.2.1) (fun x y (z:Int×UInt8×Zd×Zk)=>(((),x.2.1,z.1,()),(((),(),z.2.1,()),z.2.2.1,(),z.2.2.2,())))
theorem lo176_7 (F:Nat):LcOk Tryz.prog (E176 F) 2 (lc176_7 F) (cAt (bodyOf Tryz.f176) [1,1,0,0,1,1,0,1]):=
 mkJ_ok (lp:=[([1,1,1,1,1,0,0,1,1,0,0,1,1,0,1],lc176_8 F)]) cok (cts176 F) mixed ⟨lo176_8 F,trivial⟩ (by kernel_rfl) (fun x y kO=>L176_7c F x.2.2.1 y.1.2.2.1 y.2.1 y.2.2.2.1 kO) (fun x y kO=>L176_7n F x.2.2.1 y.1.2.2.1 y.2.1 y.2.2.2.1 kO) (fun _ _=>by kernel_rfl)
def L176_6c (F:Nat) (y99:Int) (y100:Int) (y101:UInt8) (y102:List Za) (y103:List Int) {β:Type} (kA:(Int×UInt8×Zd×Zk)->Option β) (kO:(UInt8×Zd×Zk)->Option β):Option β:=
 (bif (decide (y100 < y99)) then (Option.bind (L176_7 F y100 y101 y102 y103) fun z146=>(kA (z146.1,z146.2.1,z146.2.2.1,z146.2.2.2))) else (kO (y101,y102,y103)))
def L176_6 (F:Nat) (y99:Int) (y100:Int) (y101:UInt8) (y102:List Za) (y103:List Int):=L176_6c F y99 y100 y101 y102 y103 (fun s=>some (Sum.inl s)) (fun z=>some (Sum.inr z))
def lc176_6 (F:Nat):Lc:=mkL [2,8,9] [(.pt 2 []),.i,.i] [.blk 224 (.pr (.rw 1) (.pr (.rw 3) (.pr .u8 .un))),.row 39 Qd,.blk 220 (.pt 0 []),.row 3 .i] [] [] [.blk 224 (.pr (.rw 1) (.pr (.rw 2) (.pr .u8 .un))),.row 39 Qd,.row 3 .i] F (fun x y (s:Int×UInt8×Zd×Zk)=>L176_6 F x.2.1 s.1 s.2.1 s.2.2.1 s.2.2.2) (fun x y=>(x.2.2.1,y.1.2.2.1,y.2.1,y.2.2.2.1)) (fun x y (z:UInt8×Zd×Zk)=>((),(((),(),z.1,()),z.2.1,z.2.2,())))
theorem lo176_6 (F:Nat):LcOk Tryz.prog (E176 F) 2 (lc176_6 F) (cAt (bodyOf Tryz.f176) [1,1,0,1]):=
 mkL_ok (lp:=[([1,1,0,0,1,1,0,1],lc176_7 F)]) (id:=0) (b:=cAt (bodyOf Tryz.f176) (0 :: 0 :: [1,1,0,1])) cok (cts176 F) mixed ⟨lo176_7 F,trivial⟩ (by kernel_rfl) (by kernel_rfl) (fun x y s=>((),x.2.1,s.1,())) (fun x y s=>(((),(),s.2.1,()),s.2.2.1,(),s.2.2.2,())) (fun x y=>rfl) (fun x y=>rfl) (fun x y s kA kO=>L176_6c F x.2.1 s.1 s.2.1 s.2.2.1 s.2.2.2 kA kO) (fun _ _ _ _ _=>by simp only [L176_6,L176_6c,oA,oC,oS,oN,elimS_l,elimS_r,elimS_bind]) (fun _ _ _=>by kernel_rfl)
def T176c (F:Nat) (p0:Int) (p1:UInt8) (p2:List Za) {β:Type} (k:(UInt8×Zd×Zk)->Option β):Option β:=
 (Option.bind (iter (fun s=>L176_6 F p0 s.1 s.2.1 s.2.2.1 s.2.2.2) F ((0:Int),p1,p2,([]:List Int))) fun z147=>(k (z147.1,z147.2.1,z147.2.2)))
def T176 (F:Nat) (p0:Int) (p1:UInt8) (p2:List Za):=T176c F p0 p1 p2 some
def ct176 (F:Nat):Ct:=mkC 2 [(.pt 0 []),.i] [.blk 224 Qi,.row 39 Qd] [] [.blk 224 (.pr (.rw 1) (.pr (.rw 2) (.pr .u8 .un))),.row 39 Qd,.row 3 .i] (fun x y=>T176 F x.2.1 y.1.2.2.1 y.2.1) (fun x y (z:UInt8×Zd×Zk)=>((),(((),(),z.1,()),z.2.1,z.2.2,())))
theorem ok176 (F:Nat):Sound Tryz.prog cfg 176 (ct176 F):=
 mkC_ok (E:=E176 F) (lp:=[([1,1,0,1],lc176_6 F)]) (code:=bodyOf Tryz.f176) Tryz.func176 rfl Tryz.ntmps176 rfl rfl cok (cts176 F) mixed ⟨lo176_6 F,trivial⟩ (by kernel_rfl) (fun x y k=>T176c F x.2.1 y.1.2.2.1 y.2.1 k) (fun _ _ _=>by simp only [T176,T176c,oA,oC,oS,oN,elimS_bind]) (fun _ _=>by kernel_rfl)
def E171 (F:Nat):Ev:=⟨cfg,45,ctOf [(150,ct150 F),(176,ct176 F)],fun _=>[],ctOf [],fun _=>none,fun _=>none⟩
theorem cts171 (F:Nat):CtsOk Tryz.prog (E171 F):=cts_of (l:=[(150,ct150 F),(176,ct176 F)]) (l':=[]) rfl rfl ⟨⟨ok150 F,_,Tryz.func150,rfl,rfl⟩,⟨⟨ok176 F,_,Tryz.func176,rfl,rfl⟩,trivial⟩⟩ trivial
def L171_2c (F:Nat) (y48:List Za) (y49:List Za) (y50:Int) (y51:Int) (y53:List Za) {β:Type} (kA:(Int×Zd)->Option β) (kO:(Zd)->Option β):Option β:=
 (bif (decide (y51 < y50)) then (Option.bind (ix y49 y51) fun x60=>(Option.bind (gapp ([]:List UInt8) x60) fun x61=>(Option.bind (gne y48) fun x62=>(Option.bind (ix y48 y51) fun x63=>(Option.bind (gapp x61 x63) fun x64=>(Option.bind (gapp y53 ([x64]:List Za)) fun x65=>(kA ((w64 (y51 + (1:Int))),x65)))))))) else (kO y53))
def L171_2 (F:Nat) (y48:List Za) (y49:List Za) (y50:Int) (y51:Int) (y53:List Za):=L171_2c F y48 y49 y50 y51 y53 (fun s=>some (Sum.inl s)) (fun z=>some (Sum.inr z))
def lc171_2 (F:Nat):Lc:=mkL [0,1,5,11,12,13] [(.ro Qd),(.ro Qd),(.pt 0 []),(.ro Qd),.i,.i] [.blk 224 Qi,.row 39 Qd] [0,5] [(.ro Qd),(.pt 0 [])] [.blk 224 Qi,.row 39 Qd] F (fun x y (s:Int×Zd)=>L171_2 F x.2.1 x.2.2.2.1 x.2.2.2.2.1 s.1 s.2) (fun x y=>(x.2.2.2.2.2.1,y.2.1)) (fun x y (z:Zd)=>((x.1,(),()),(((),(),y.1.2.2.1,()),z,())))
theorem lo171_2 (F:Nat):LcOk Tryz.prog (E171 F) 0 (lc171_2 F) (cAt (bodyOf Tryz.f171) [1,0,1,1]):=
 mkL_ok (lp:=[]) (id:=0) (b:=cAt (bodyOf Tryz.f171) (0 :: 0 :: [1,0,1,1])) cok (cts171 F) mixed trivial (by kernel_rfl) (by kernel_rfl) (fun x y s=>(x.1,x.2.1,(),x.2.2.2.1,x.2.2.2.2.1,s.1,())) (fun x y s=>(((),(),y.1.2.2.1,()),s.2,())) (fun x y=>rfl) (fun x y=>rfl) (fun x y s kA kO=>L171_2c F x.2.1 x.2.2.2.1 x.2.2.2.2.1 s.1 s.2 kA kO) (fun _ _ _ _ _=>by simp only [L171_2,L171_2c,oA,oC,oS,oN,elimS_l,elimS_r,elimS_bind]) (fun _ _ _=>by kernel_rfl)
def T171c (F:Nat) (p0:List Za) (p1:List Za) {β:Type} (k:(UInt8×Zd×Zk)->Option β):Option β:=
 (Option.bind (iter (fun s=>L171_2 F p1 p0 (p0.length:Int) s.1 s.2) F ((0:Int),([]:List Za))) fun z66=>(Option.bind (T150 F p0) fun z67=>(Option.bind (T176 F z67 (UInt8.ofNat 1) z66) fun z68=>(k (z68.1,z68.2.1,z68.2.2)))))
def T171 (F:Nat) (p0:List Za) (p1:List Za):=T171c F p0 p1 some
def ct171 (F:Nat):Ct:=mkC 0 [(.ro Qd),(.ro Qd)] [] [(.pt 0 [])] [.blk 224 (.pr (.rw 1) (.pr (.rw 2) (.pr .u8 .un))),.row 39 Qd,.row 3 .i] (fun x y=>T171 F x.1 x.2.1) (fun x y (z:UInt8×Zd×Zk)=>(((),()),(((),(),z.1,()),z.2.1,z.2.2,())))
theorem ok171 (F:Nat):Sound Tryz.prog cfg 171 (ct171 F):=
 mkC_ok (E:=E171 F) (lp:=[([1,0,1,1],lc171_2 F)]) (code:=bodyOf Tryz.f171) Tryz.func171 rfl Tryz.ntmps171 rfl rfl cok (cts171 F) mixed ⟨lo171_2 F,trivial⟩ (by kernel_rfl) (fun x y k=>T171c F x.1 x.2.1 k) (fun _ _ _=>by simp only [T171,T171c,oA,oC,oS,oN,elimS_bind]) (fun _ _=>by kernel_rfl)
def E160 (F:Nat):Ev:=⟨cfg,55,ctOf [(149,ct149 F),(150,ct150 F),(172,ct172 F),(171,ct171 F)],fun _=>[],ctOf [],fun _=>none,fun _=>none⟩
theorem cts160 (F:Nat):CtsOk Tryz.prog (E160 F):=cts_of (l:=[(149,ct149 F),(150,ct150 F),(172,ct172 F),(171,ct171 F)]) (l':=[]) rfl rfl ⟨⟨ok149 F,_,Tryz.func149,rfl,rfl⟩,⟨⟨ok150 F,_,Tryz.func150,rfl,rfl⟩,⟨⟨ok172 F,_,Tryz.func172,rfl,rfl⟩,⟨⟨ok171 F,_,Tryz.func171,rfl,rfl⟩,trivial⟩⟩⟩⟩ trivial
def L160_2c (F:Nat) (y27:List Za) (y28:Int) (y31:List Za) (y29:Int) (y30:List Za) {β:Type} (kA:(Int×Zd)->Option β) (kO:(Zd)->Option β):Option β:=
 (bif (decide (y29 < y28)) then (Option.bind (inb y31.length y29) fun x37=>(Option.bind (y31[x37]?) fun x38=>(Option.bind (gsl x38 (y27.length:Int) (x38.length:Int)) fun x39=>(Option.bind (gapp ([]:List UInt8) x39) fun x40=>(Option.bind (inb y30.length y29) fun x41=>(kA ((w64 (y29 + (1:Int))),(List.set y30 x41 x40)))))))) else (kO y30))
def L160_2 (F:Nat) (y27:List Za) (y28:Int) (y31:List Za) (y29:Int) (y30:List Za):=L160_2c F y27 y28 y31 y29 y30 (fun s=>some (Sum.inl s)) (fun z=>some (Sum.inr z))
def lc160_2 (F:Nat):Lc:=mkL [0,5,37,38,39] [(.ro Qd),(.rw 0),(.rw 1),.i,.i] [.row 39 Qd,.row 39 Qd] [5] [(.rw 0)] [.row 39 Qd] F (fun x y (s:Int×Zd)=>L160_2 F x.1 x.2.2.2.1 y.2.1 s.1 s.2) (fun x y=>(x.2.2.2.2.1,y.1)) (fun x y (z:Zd)=>(((),()),(z,())))
theorem lo160_2 (F:Nat):LcOk Tryz.prog (E160 F) 0 (lc160_2 F) (cAt (bodyOf Tryz.f160) [1,0,1,1,1,1,1]):=
 mkL_ok (lp:=[]) (id:=0) (b:=cAt (bodyOf Tryz.f160) (0 :: 0 :: [1,0,1,1,1,1,1])) cok (cts160 F) mixed trivial (by kernel_rfl) (by kernel_rfl) (fun x y s=>(x.1,(),(),x.2.2.2.1,s.1,())) (fun x y s=>(s.2,y.2.1,())) (fun x y=>rfl) (fun x y=>rfl) (fun x y s kA kO=>L160_2c F x.1 x.2.2.2.1 y.2.1 s.1 s.2 kA kO) (fun _ _ _ _ _=>by simp only [L160_2,L160_2c,oA,oC,oS,oN,elimS_l,elimS_r,elimS_bind]) (fun _ _ _=>by kernel_rfl)
def T160c (F:Nat) (p0:List Za) {β:Type} (k:(Int×Zd)->Option β):Option β:=
 (Option.bind (T149 F p0) fun z22=>(bif (!z22) then (k ((1:Int),([]:List Za))) else (Option.bind (T150 F p0) fun z23=>(bif ((p0.length:Int) != z23) then (k ((1:Int),([]:List Za))) else (Option.bind (T172 F (p0.length:Int)) fun z24=>(Option.bind (T171 F p0 z24) fun z25=>(bif (decide ((z25.2.2.length:Int) < (p0.length:Int))) then (k ((4:Int),([]:List Za))) else (Option.bind (gmake ([]:List UInt8) (p0.length:Int) (p0.length:Int)) fun x26=>(Option.bind (iter (fun s=>L160_2 F p0 (z25.2.1.length:Int) z25.2.1 s.1 s.2) F ((0:Int),x26)) fun z42=>(k ((0:Int),z42)))))))))))
def T160 (F:Nat) (p0:List Za):=T160c F p0 some
def ct160 (F:Nat):Ct:=mkC 0 [(.ro Qd)] [] [(.rw 0),.i] [.row 39 Qd] (fun x y=>T160 F x.1) (fun x y (z:Int×Zd)=>(((),z.1,()),(z.2,())))
theorem ok160 (F:Nat):Sound Tryz.prog cfg 160 (ct160 F):=
 mkC_ok (E:=E160 F) (lp:=[([1,0,1,1,1,1,1],lc160_2 F)]) (code:=bodyOf Tryz.f160) Tryz.func160 rfl Tryz.ntmps160 rfl rfl cok (cts160 F) mixed ⟨lo160_2 F,trivial⟩ (by kernel_rfl) (fun x y k=>T160c F x.1 k) (fun _ _ _=>by simp only [T160,T160c,oA,oC,oS,oN,elimS_bind]) (fun _ _=>by kernel_rfl)
def E133 (F:Nat):Ev:=⟨cfg,20,ctOf [(119,ct119 F),(160,ct160 F)],fun _=>[],ctOf [],fun _=>none,fun _=>none⟩
theorem cts133 (F:Nat):CtsOk Tryz.prog (E133 F):=cts_of (l:=[(119,ct119 F),(160,ct160 F)]) (l':=[]) rfl rfl ⟨⟨ok119 F,_,Tryz.func119,rfl,rfl⟩,⟨⟨ok160 F,_,Tryz.func160,rfl,rfl⟩,trivial⟩⟩ trivial
def T133c (F:Nat) (p0:List Int) (p1:Int) (p2:Vector Zh 16) {β:Type} (k:(Zd)->Option β):Option β:=
 (Option.bind (gsl p0 (0:Int) p1) fun x4=>(Option.bind (T119 F x4 p1 p2) fun z5=>(Option.bind (T160 F z5) fun z6=>(k z6.2))))
def T133 (F:Nat) (p0:List Int) (p1:Int) (p2:Vector Zh 16):=T133c F p0 p1 p2 some
def ct133 (F:Nat):Ct:=mkC 1 [(.pt 0 []),(.ro .i)] [.blk 193 Qf] [(.rw 1)] [.blk 193 Qf,.row 39 Qd] (fun x y=>T133 F x.2.1 y.1.1 y.1.2.1) (fun x y (z:Zd)=>(((),()),((y.1.1,y.1.2.1,()),z,())))
theorem ok133 (F:Nat):Sound Tryz.prog cfg 133 (ct133 F):=
 mkC_ok (E:=E133 F) (lp:=[]) (code:=bodyOf Tryz.f133) Tryz.func133 rfl Tryz.ntmps133 rfl rfl cok (cts133 F) mixed trivial (by kernel_rfl) (fun x y k=>T133c F x.2.1 y.1.1 y.1.2.1 k) (fun _ _ _=>by simp only [T133,T133c,oA,oC,oS,oN,elimS_bind]) (fun _ _=>by kernel_rfl)
def ord94:Nat->List (Tag×Nat)
 | 4=>[(.p,0),(.p,2),(.p,4),(.p,5),(.p,6),(.w,1),(.w,3),(.w,7),(.p,8),(.p,9),(.p,10),(.p,11)]
 | _=>[]
def E94 (F:Nat):Ev:=⟨cfg,29,ctOf [(132,ct132 F),(118,ct118 F),(133,ct133 F),(117,ct117 F)],ord94,ctOf [],fun _=>none,fun _=>none⟩
theorem cts94 (F:Nat):CtsOk Tryz.prog (E94 F):=cts_of (l:=[(132,ct132 F),(118,ct118 F),(133,ct133 F),(117,ct117 F)]) (l':=[]) rfl rfl ⟨⟨ok132 F,_,Tryz.func132,rfl,rfl⟩,⟨⟨ok118 F,_,Tryz.func118,rfl,rfl⟩,⟨⟨ok133 F,_,Tryz.func133,rfl,rfl⟩,⟨⟨ok117 F,_,Tryz.func117,rfl,rfl⟩,trivial⟩⟩⟩⟩ trivial
def T94c (F:Nat) (p0:Int) (p1:Int) (p2:List Int) (p3:List Za) {β:Type} (k:(Zd×Int)->Option β):Option β:=
 (Option.bind (T132 F p0 p1 p2 p3) fun z6=>(bif (z6 != (0:Int)) then (k (([]:List Za),z6)) else (Option.bind (gsl p3 (0:Int) p0) fun x7=>(Option.bind (T118 F p0) fun z8=>(Option.bind (T133 F p2 p0 z8) fun z9=>(Option.bind (T117 F z9 x7) fun z10=>(k (z10.1,z10.2))))))))
def T94 (F:Nat) (p0:Int) (p1:Int) (p2:List Int) (p3:List Za):=T94c F p0 p1 p2 p3 some
def ct94 (F:Nat):Ct:=mkC 0 [.i,.i,(.ro .i),(.ro Qd)] [] [(.ro Qd),.i] [] (fun x y=>T94 F x.1 x.2.1 x.2.2.1 x.2.2.2.1) (fun x y (z:Zd×Int)=>((z.1,z.2,()),()))
theorem ok94 (F:Nat):Sound Tryz.prog cfg 94 (ct94 F):=
 mkC_ok (E:=E94 F) (lp:=[]) (code:=bodyOf Tryz.f94) Tryz.func94 rfl Tryz.ntmps94 rfl rfl cok (cts94 F) mixed trivial (by kernel_rfl) (fun x y k=>T94c F x.1 x.2.1 x.2.2.1 x.2.2.2.1 k) (fun _ _ _=>by simp only [T94,T94c,oA,oC,oS,oN,elimS_bind]) (fun _ _=>by kernel_rfl)
def E96 (F:Nat):Ev:=⟨cfg,5,ctOf [],fun _=>[],ctOf [],fun _=>none,fun _=>none⟩
theorem cts96 (F:Nat):CtsOk Tryz.prog (E96 F):=cts_of (l:=[]) (l':=[]) rfl rfl trivial trivial
def T96c (F:Nat) (p0:UInt8) {β:Type} (k:Bool->Option β):Option β:=
 (k (p0 != (UInt8.ofNat 0)))
def T96 (F:Nat) (p0:UInt8):=T96c F p0 some
def ct96 (F:Nat):Ct:=mkC 0 [.u8] [] [.bo] [] (fun x y=>T96 F x.1) (fun x y (z:Bool)=>((z,()),()))
theorem ok96 (F:Nat):Sound Tryz.prog cfg 96 (ct96 F):=
 mkC_ok (E:=E96 F) (lp:=[]) (code:=bodyOf Tryz.f96) Tryz.func96 rfl Tryz.ntmps96 rfl rfl cok (cts96 F) mixed trivial (by kernel_rfl) (fun x y k=>T96c F x.1 k) (fun _ _ _=>by simp only [T96,T96c,oA,oC,oS,oN,elimS_bind]) (fun _ _=>by kernel_rfl)
def E134 (F:Nat):Ev:=⟨cfg,19,ctOf [(96,ct96 F)],fun _=>[],ctOf [],fun _=>none,fun _=>none⟩
theorem cts134 (F:Nat):CtsOk Tryz.prog (E134 F):=cts_of (l:=[(96,ct96 F)]) (l':=[]) rfl rfl ⟨⟨ok96 F,_,Tryz.func96,rfl,rfl⟩,trivial⟩ trivial
def L134_2c (F:Nat) (y9:List UInt8) (y10:Int) (y11:Int) {β:Type} (kA:Int->Option β) (kO:Unit->Option β) (kR:Int->Option β):Option β:=
 (bif (decide (y11 < y10)) then (Option.bind (ix y9 y11) fun x14=>(Option.bind (T96 F x14) fun z15=>(bif z15 then (kR y11) else (kA (w64 (y11 + (1:Int))))))) else (kO ()))
def L134_2 (F:Nat) (y9:List UInt8) (y10:Int) (y11:Int):Option ((Int) ⊕ ((Unit) ⊕ (Int))):=L134_2c F y9 y10 y11 (fun s=>some (.inl s)) (fun z=>some (.inr (.inl z))) (fun z=>some (.inr (.inr z)))
theorem L134_2n (F:Nat) (y9:List UInt8) (y10:Int) (y11:Int) {β:Type} (kA:Int->Option β) (kO:Unit->Option β) (kR:Int->Option β):L134_2c F y9 y10 y11 kA kO kR=(L134_2 F y9 y10 y11).bind (elimS kA (elimS kO kR)):=by
 simp only [L134_2,L134_2c,oA,oC,oS,oN,elimS_l,elimS_r,elimS_bind]
def lc134_2 (F:Nat):Lc:=mkR [0,1,7,8] [(.ro .u8),(.fn 96 .un .un),.i,.i] [] [] [] [] [4] [.i] [] F (fun x y (s:Int)=>L134_2 F x.1 x.2.2.1 s) (fun x y=>x.2.2.2.1) (fun x y (z:Unit)=>((),())) (fun x y (z:Int)=>((z,()),()))
theorem lo134_2 (F:Nat):LcOk Tryz.prog (E134 F) 0 (lc134_2 F) (cAt (bodyOf Tryz.f134) [1,0,1]):=
 mkR_ok (lp:=[]) (id:=0) (b:=cAt (bodyOf Tryz.f134) (0 :: 0 :: [1,0,1])) cok (cts134 F) mixed trivial (by kernel_rfl) (by kernel_rfl) (fun x y s=>(x.1,((),()),x.2.2.1,s,())) (fun x y s=>()) (fun x y=>rfl) (fun x y=>rfl) (fun x y s kA kO kR=>L134_2c F x.1 x.2.2.1 s kA kO kR) (fun x y s kA kO kR=>L134_2n F x.1 x.2.2.1 s kA kO kR) (fun _ _ _=>by kernel_rfl)
def T134c (F:Nat) (p0:List UInt8) {β:Type} (k:Int->Option β):Option β:=
 (Option.bind (iter (fun s=>L134_2 F p0 (p0.length:Int) s) F (0:Int)) fun z16=>elimS (fun z16=>(k (-1:Int))) (fun z16=>(k z16)) z16)
def T134 (F:Nat) (p0:List UInt8):=T134c F p0 some
def ct134 (F:Nat):Ct:=mkC 0 [(.ro .u8),(.fn 96 .un .un)] [] [.i] [] (fun x y=>T134 F x.1) (fun x y (z:Int)=>((z,()),()))
theorem ok134 (F:Nat):Sound Tryz.prog cfg 134 (ct134 F):=
 mkC_ok (E:=E134 F) (lp:=[([1,0,1],lc134_2 F)]) (code:=bodyOf Tryz.f134) Tryz.func134 rfl Tryz.ntmps134 rfl rfl cok (cts134 F) mixed ⟨lo134_2 F,trivial⟩ (by kernel_rfl) (fun x y k=>T134c F x.1 k) (fun _ _ _=>by simp only [T134,T134c,oA,oC,oS,oN,elimS_bind]) (fun _ _=>by kernel_rfl)
def E95 (F:Nat):Ev:=⟨cfg,9,ctOf [(134,ct134 F)],fun _=>[],ctOf [],fun _=>none,fun _=>none⟩
theorem cts95 (F:Nat):CtsOk Tryz.prog (E95 F):=cts_of (l:=[(134,ct134 F)]) (l':=[]) rfl rfl ⟨⟨ok134 F,_,Tryz.func134,rfl,rfl⟩,trivial⟩ trivial
def T95c (F:Nat) (p0:List UInt8) {β:Type} (k:Bool->Option β):Option β:=
 (Option.bind (T134 F p0) fun z2=>(k (decide ((0:Int)≤z2))))
def T95 (F:Nat) (p0:List UInt8):=T95c F p0 some
def ct95 (F:Nat):Ct:=mkC 0 [(.ro .u8),(.fn 96 .un .un)] [] [.bo] [] (fun x y=>T95 F x.1) (fun x y (z:Bool)=>((z,()),()))
theorem ok95 (F:Nat):Sound Tryz.prog cfg 95 (ct95 F):=
 mkC_ok (E:=E95 F) (lp:=[]) (code:=bodyOf Tryz.f95) Tryz.func95 rfl Tryz.ntmps95 rfl rfl cok (cts95 F) mixed trivial (by kernel_rfl) (fun x y k=>T95c F x.1 k) (fun _ _ _=>by simp only [T95,T95c,oA,oC,oS,oN,elimS_bind]) (fun _ _=>by kernel_rfl)
def E55 (F:Nat):Ev:=⟨cfg,92,ctOf [(16,ct16 F),(92,ct92x1 F),(92,ct92x3 F),(94,ct94 F),(95,ct95 F),(39,ct39 F),(97,ct97 F)],fun _=>[],ctOf [],fun _=>none,fun _=>none⟩
theorem cts55 (F:Nat):CtsOk Tryz.prog (E55 F):=cts_of (l:=[(16,ct16 F),(92,ct92x1 F),(92,ct92x3 F),(94,ct94 F),(95,ct95 F),(39,ct39 F),(97,ct97 F)]) (l':=[]) rfl rfl ⟨⟨ok16 F,_,Tryz.func16,rfl,rfl⟩,⟨⟨ok92x1 F,_,Tryz.func92,rfl,rfl⟩,⟨⟨ok92x3 F,_,Tryz.func92,rfl,rfl⟩,⟨⟨ok94 F,_,Tryz.func94,rfl,rfl⟩,⟨⟨ok95 F,_,Tryz.func95,rfl,rfl⟩,⟨⟨ok39 F,_,Tryz.func39,rfl,rfl⟩,⟨⟨ok97 F,_,Tryz.func97,rfl,rfl⟩,trivial⟩⟩⟩⟩⟩⟩⟩ trivial
def L55_3c (F:Nat) (y61:List Zb) (y62:Int) (y64:List UInt8) (y66:Int) (y67:Int) (y68:Int) (y63:Int) (y70:List Int) (y71:List Za) {β:Type} (kA:(Int×Zk×Zd)->Option β) (kO:(Zk×Zd)->Option β):Option β:=
 (bif (decide (y63 < y62)) then (Option.bind (ix y61 y63) fun x74=>(bif ((y71.length:Int) == y67) then (kO (y70,y71)) else (Option.bind (T92x3 F x74.1.1 x74.1.2.1 x74.2.1 x74.2.2.1 y64 y66 y68 y70 y71) fun z75=>(kA ((w64 (y63 + (1:Int))),z75.1,z75.2))))) else (kO (y70,y71)))
def L55_3 (F:Nat) (y61:List Zb) (y62:Int) (y64:List UInt8) (y66:Int) (y67:Int) (y68:Int) (y63:Int) (y70:List Int) (y71:List Za):=L55_3c F y61 y62 y64 y66 y67 y68 y63 y70 y71 (fun s=>some (Sum.inl s)) (fun z=>some (Sum.inr z))
def lc55_3 (F:Nat):Lc:=mkL [2,7,8,9,22,23,24] [(.pt 0 []),(.pt 1 []),(.pt 2 []),(.fn 92 .un (.pr (.pt 1 []) (.pr (.pt 0 []) (.pr (.pt 2 []) .un)))),(.ro Qc),.i,.i] [.blk 27 Qh,.blk 79 (.rw 3),.blk 23 (.rw 4),.row 3 .i,.row 39 Qd] [2,7,8] [(.pt 0 []),(.pt 1 []),(.pt 2 [])] [.blk 27 Qh,.blk 79 (.rw 3),.blk 23 (.rw 4),.row 3 .i,.row 39 Qd] F (fun x y (s:Int×Zk×Zd)=>L55_3 F x.2.2.2.2.1 x.2.2.2.2.2.1 y.1.1 y.1.2.2.1 y.1.2.2.2.1 y.1.2.2.2.2.1 s.1 s.2.1 s.2.2) (fun x y=>(x.2.2.2.2.2.2.1,y.2.2.2.1,y.2.2.2.2.1)) (fun x y (z:Zk×Zd)=>(((),(),(),()),((y.1.1,y.1.2.1,y.1.2.2.1,y.1.2.2.2.1,y.1.2.2.2.2.1,y.1.2.2.2.2.2.1,()),(),(),z.1,z.2,())))
theorem lo55_3 (F:Nat):LcOk Tryz.prog (E55 F) 0 (lc55_3 F) (cAt (bodyOf Tryz.f55) [1,0,1,1,1,1,1]):=
 mkL_ok (lp:=[]) (id:=0) (b:=cAt (bodyOf Tryz.f55) (0 :: 0 :: [1,0,1,1,1,1,1])) cok (cts55 F) mixed trivial (by kernel_rfl) (by kernel_rfl) (fun x y s=>((),(),(),((),((),(),(),())),x.2.2.2.2.1,x.2.2.2.2.2.1,s.1,())) (fun x y s=>((y.1.1,y.1.2.1,y.1.2.2.1,y.1.2.2.2.1,y.1.2.2.2.2.1,y.1.2.2.2.2.2.1,()),(),(),s.2.1,s.2.2,())) (fun x y=>rfl) (fun x y=>rfl) (fun x y s kA kO=>L55_3c F x.2.2.2.2.1 x.2.2.2.2.2.1 y.1.1 y.1.2.2.1 y.1.2.2.2.1 y.1.2.2.2.2.1 s.1 s.2.1 s.2.2 kA kO) (fun _ _ _ _ _=>by simp only [L55_3,L55_3c,oA,oC,oS,oN,elimS_l,elimS_r,elimS_bind]) (fun _ _ _=>by kernel_rfl)
def L55_4c (F:Nat) (y80:List Za) (y81:Int) (y82:Int) {β:Type} (kA:Int->Option β) (kO:Unit->Option β) (kR:Int->Option β):Option β:=
 (bif (decide (y82 < y81)) then (Option.bind (ix y80 y82) fun x91=>(Option.bind (T95 F x91) fun z92=>(bif z92 then (kR (9:Int)) else (kA (w64 (y82 + (1:Int))))))) else (kO ()))
def L55_4 (F:Nat) (y80:List Za) (y81:Int) (y82:Int):Option ((Int) ⊕ ((Unit) ⊕ (Int))):=L55_4c F y80 y81 y82 (fun s=>some (.inl s)) (fun z=>some (.inr (.inl z))) (fun z=>some (.inr (.inr z)))
theorem L55_4n (F:Nat) (y80:List Za) (y81:Int) (y82:Int) {β:Type} (kA:Int->Option β) (kO:Unit->Option β) (kR:Int->Option β):L55_4c F y80 y81 y82 kA kO kR=(L55_4 F y80 y81 y82).bind (elimS kA (elimS kO kR)):=by
 simp only [L55_4,L55_4c,oA,oC,oS,oN,elimS_l,elimS_r,elimS_bind]
def lc55_4 (F:Nat):Lc:=mkR [2,12,58,59,60] [(.pt 0 []),(.ro Qd),(.ro Qd),.i,.i] [.blk 27 Qh] [2,12] [(.pt 0 []),(.ro Qd)] [.blk 27 Qh] [4,5,6] [.ns,.ns,.i] [] F (fun x y (s:Int)=>L55_4 F x.2.2.1 x.2.2.2.1 s) (fun x y=>x.2.2.2.2.1) (fun x y (z:Unit)=>(((),x.2.1,()),((y.1.1,y.1.2.1,y.1.2.2.1,y.1.2.2.2.1,y.1.2.2.2.2.1,y.1.2.2.2.2.2.1,()),()))) (fun x y (z:Int)=>(((),(),z,()),()))
theorem lo55_4 (F:Nat):LcOk Tryz.prog (E55 F) 0 (lc55_4 F) (cAt (bodyOf Tryz.f55) [1,0,1,1,1,1,1,1,1,1,1]):=
 mkR_ok (lp:=[]) (id:=2) (b:=cAt (bodyOf Tryz.f55) (0 :: 0 :: [1,0,1,1,1,1,1,1,1,1,1])) cok (cts55 F) mixed trivial (by kernel_rfl) (by kernel_rfl) (fun x y s=>((),x.2.1,x.2.2.1,x.2.2.2.1,s,())) (fun x y s=>((y.1.1,y.1.2.1,y.1.2.2.1,y.1.2.2.2.1,y.1.2.2.2.2.1,y.1.2.2.2.2.2.1,()),())) (fun x y=>rfl) (fun x y=>rfl) (fun x y s kA kO kR=>L55_4c F x.2.2.1 x.2.2.2.1 s kA kO kR) (fun x y s kA kO kR=>L55_4n F x.2.2.1 x.2.2.2.1 s kA kO kR) (fun _ _ _=>by kernel_rfl)
def T55c (F:Nat) (p0:List UInt8) (p1:Int) (p2:Int) (p3:Int) (p4:Int) (p5:List Zc) (p6:List Zb) {β:Type} (k:(Int×Zd×(List Zb))->Option β):Option β:=
 (Option.bind (T16 F p0 p1 p2 p3 p4 p5) fun z49=>(bif (z49 != (0:Int)) then (k ((1:Int),([]:List Za),([]:List Zb))) else (Option.bind (iter (fun s=>L55_3 F p6 (p6.length:Int) p0 p2 p3 p4 s.1 s.2.1 s.2.2) F ((0:Int),([]:List Int),([]:List Za))) fun z76=>(bif (decide ((z76.2.length:Int) < p3)) then (k ((10:Int),([]:List Za),([]:List Zb))) else (Option.bind (T94 F p3 p4 z76.1 z76.2) fun z77=>(bif (z77.2 != (0:Int)) then (k ((9:Int),([]:List Za),([]:List Zb))) else (Option.bind (gsl z77.1 (p5.length:Int) (z77.1.length:Int)) fun x78=>(Option.bind (iter (fun s=>L55_4 F x78 (x78.length:Int) s) F (0:Int)) fun z93=>elimS (fun z93=>(Option.bind (T39 F p3 p4 z77.1) fun z94=>(bif (z94.2.1 != (0:Int)) then (k ((9:Int),([]:List Za),([]:List Zb))) else (bif (z94.1 != p0) then (k ((9:Int),([]:List Za),([]:List Zb))) else (Option.bind (gsl z77.1 (0:Int) (p5.length:Int)) fun x95=>(Option.bind (T97 F x95) fun z96=>(k ((0:Int),z96,z94.2.2)))))))) (fun z93=>(k (z93,([]:List Za),([]:List Zb)))) z93))))))))
def T55 (F:Nat) (p0:List UInt8) (p1:Int) (p2:Int) (p3:Int) (p4:Int) (p5:List Zc) (p6:List Zb):=T55c F p0 p1 p2 p3 p4 p5 p6 some
def ct55 (F:Nat):Ct:=mkC 0 [(.pr .str (.pr .i (.pr .i (.pr .i (.pr .i (.pr (.ro Qb) .un)))))),(.ro Qc)] [] [(.rw 0),(.rw 1),.i] [.row 39 Qd,.row 42 Qc] (fun x y=>T55 F x.1.1 x.1.2.1 x.1.2.2.1 x.1.2.2.2.1 x.1.2.2.2.2.1 x.1.2.2.2.2.2.1 x.2.1) (fun x y (z:Int×Zd×(List Zb))=>(((),(),z.1,()),(z.2.1,z.2.2,())))
theorem ok55 (F:Nat):Sound Tryz.prog cfg 55 (ct55 F):=
 mkC_ok (E:=E55 F) (lp:=[([1,0,1,1,1,1,1],lc55_3 F),([1,0,1,1,1,1,1,1,1,1,1],lc55_4 F)]) (code:=bodyOf Tryz.f55) Tryz.func55 rfl Tryz.ntmps55 rfl rfl cok (cts55 F) mixed ⟨lo55_3 F,⟨lo55_4 F,trivial⟩⟩ (by kernel_rfl) (fun x y k=>T55c F x.1.1 x.1.2.1 x.1.2.2.1 x.1.2.2.2.1 x.1.2.2.2.2.1 x.1.2.2.2.2.2.1 x.2.1 k) (fun _ _ _=>by simp only [T55,T55c,oA,oC,oS,oN,elimS_bind]) (fun _ _=>by kernel_rfl)
def E23 (F:Nat):Ev:=⟨cfg,18,ctOf [(55,ct55 F)],fun _=>[],ctOf [],fun _=>none,fun _=>none⟩
theorem cts23 (F:Nat):CtsOk Tryz.prog (E23 F):=cts_of (l:=[(55,ct55 F)]) (l':=[]) rfl rfl ⟨⟨ok55 F,_,Tryz.func55,rfl,rfl⟩,trivial⟩ trivial
def T23c (F:Nat) (p0:List UInt8) (p1:Int) (p2:Int) (p3:Int) (p4:Int) (p5:List Zc) (p6:List Zb) {β:Type} (k:(Int×Zd)->Option β):Option β:=
 (Option.bind (T55 F p0 p1 p2 p3 p4 p5 p6) fun z2=>(k (z2.1,z2.2.1)))
def T23 (F:Nat) (p0:List UInt8) (p1:Int) (p2:Int) (p3:Int) (p4:Int) (p5:List Zc) (p6:List Zb):=T23c F p0 p1 p2 p3 p4 p5 p6 some
def ct23 (F:Nat):Ct:=mkC 0 [(.pr .str (.pr .i (.pr .i (.pr .i (.pr .i (.pr (.ro Qb) .un)))))),(.ro Qc)] [] [(.rw 0),.i] [.row 39 Qd] (fun x y=>T23 F x.1.1 x.1.2.1 x.1.2.2.1 x.1.2.2.2.1 x.1.2.2.2.2.1 x.1.2.2.2.2.2.1 x.2.1) (fun x y (z:Int×Zd)=>(((),z.1,()),(z.2,())))
theorem ok23 (F:Nat):Sound Tryz.prog cfg 23 (ct23 F):=
 mkC_ok (E:=E23 F) (lp:=[]) (code:=bodyOf Tryz.f23) Tryz.func23 rfl Tryz.ntmps23 rfl rfl cok (cts23 F) mixed trivial (by kernel_rfl) (fun x y k=>T23c F x.1.1 x.1.2.1 x.1.2.2.1 x.1.2.2.2.1 x.1.2.2.2.2.1 x.1.2.2.2.2.2.1 x.2.1 k) (fun _ _ _=>by simp only [T23,T23c,oA,oC,oS,oN,elimS_bind]) (fun _ _=>by kernel_rfl)
def E34 (F:Nat):Ev:=⟨cfg,65,ctOf [(35,ct35 F),(37,ct37 F)],fun _=>[],ctOf [],fun _=>none,fun _=>none⟩
theorem cts34 (F:Nat):CtsOk Tryz.prog (E34 F):=cts_of (l:=[(35,ct35 F),(37,ct37 F)]) (l':=[]) rfl rfl ⟨⟨ok35 F,_,Tryz.func35,rfl,rfl⟩,⟨⟨ok37 F,_,Tryz.func37,rfl,rfl⟩,trivial⟩⟩ trivial
def L34_3c (F:Nat) (y32:List Int) (y33:Int) (y31:Int) (y34:Int) (y35:List Zi) {β:Type} (kA:(Int×Int×(List Zi))->Option β) (kO:(Int×(List Zi))->Option β) (kR:(Int×Int×Int)->Option β):Option β:=
 (bif (decide (y34 < y33)) then (Option.bind (ix y32 y34) fun x38=>(Option.bind (T37 F x38) fun z39=>(bif (z39.2 != (0:Int)) then (kR ((0:Int),(0:Int),(1:Int))) else (kA ((w64 (y31 + x38)),(w64 (y34 + (1:Int))),(mpt .i y35 z39.1 (w64 ((mgd .i y35 z39.1 (0:Int)) + (1:Int))))))))) else (kO (y31,y35)))
def L34_3 (F:Nat) (y32:List Int) (y33:Int) (y31:Int) (y34:Int) (y35:List Zi):Option ((Int×Int×(List Zi)) ⊕ ((Int×(List Zi)) ⊕ (Int×Int×Int))):=L34_3c F y32 y33 y31 y34 y35 (fun s=>some (.inl s)) (fun z=>some (.inr (.inl z))) (fun z=>some (.inr (.inr z)))
theorem L34_3n (F:Nat) (y32:List Int) (y33:Int) (y31:Int) (y34:Int) (y35:List Zi) {β:Type} (kA:(Int×Int×(List Zi))->Option β) (kO:(Int×(List Zi))->Option β) (kR:(Int×Int×Int)->Option β):L34_3c F y32 y33 y31 y34 y35 kA kO kR=(L34_3 F y32 y33 y31 y34 y35).bind (elimS kA (elimS kO kR)):=by
 simp only [L34_3,L34_3c,oA,oC,oS,oN,elimS_l,elimS_r,elimS_bind]
def lc34_3 (F:Nat):Lc:=mkR [1,2,9,10,23,24,25] [.i,.i,(.mp 0),.i,(.ro .i),.i,.i] [.mp .i .i] [1,2,9,10] [.i,.i,(.mp 0),.i] [.mp .i .i] [6,7,8] [.i,.i,.i] [] F (fun x y (s:Int×Int×(List Zi))=>L34_3 F x.2.2.2.2.1 x.2.2.2.2.2.1 s.1 s.2.1 s.2.2) (fun x y=>(x.2.2.2.1,x.2.2.2.2.2.2.1,y.1)) (fun x y (z:Int×(List Zi))=>((x.1,x.2.1,(),z.1,()),(z.2,()))) (fun x y (z:Int×Int×Int)=>((z.1,z.2.1,z.2.2,()),()))
theorem lo34_3 (F:Nat):LcOk Tryz.prog (E34 F) 0 (lc34_3 F) (cAt (bodyOf Tryz.f34) [1,0,1,1,1,1]):=
 mkR_ok (lp:=[]) (id:=0) (b:=cAt (bodyOf Tryz.f34) (0 :: 0 :: [1,0,1,1,1,1])) cok (cts34 F) mixed trivial (by kernel_rfl) (by kernel_rfl) (fun x y s=>(x.1,x.2.1,(),s.1,x.2.2.2.2.1,x.2.2.2.2.2.1,s.2.1,())) (fun x y s=>(s.2.2,())) (fun x y=>rfl) (fun x y=>rfl) (fun x y s kA kO kR=>L34_3c F x.2.2.2.2.1 x.2.2.2.2.2.1 s.1 s.2.1 s.2.2 kA kO kR) (fun x y s kA kO kR=>L34_3n F x.2.2.2.2.1 x.2.2.2.2.2.1 s.1 s.2.1 s.2.2 kA kO kR) (fun _ _ _=>by kernel_rfl)
def L34_4c (F:Nat) (y41:Int) (y42:Int) (y45:Nat×List Nat) (y46:List Zi) (y44:Int) (q50:Nat) {β:Type} (kA:Int->Option β):Option β:=
 (Option.bind (gsame y45.1 y46.length) fun x51=>(Option.bind (y46[q50]?) fun x52=>(Option.bind (gquo (w64 ((w64 (x52.2 + y41)) - (1:Int))) y41) fun x53=>(kA (w64 (y44 + (w64 ((w64 (x53 * y42)) * x52.1))))))))
def L34_4 (F:Nat) (y41:Int) (y42:Int) (y45:Nat×List Nat) (y46:List Zi) (y44:Int) (q50:Nat):Option (Int):=L34_4c F y41 y42 y45 y46 y44 q50 some
theorem L34_4n (F:Nat) (y41:Int) (y42:Int) (y45:Nat×List Nat) (y46:List Zi) (y44:Int) (q50:Nat) {β:Type} (kA:Int->Option β):L34_4c F y41 y42 y45 y46 y44 q50 kA=(L34_4 F y41 y42 y45 y46 y44 q50).bind kA:=by
 simp only [L34_4,L34_4c,oA,oC,oS,oN]
abbrev sA34_4:List Sh:=[.i,.i,.i,.i,(.it 0 1)]
abbrev sAp134_4:List Sh:=[.i,.i]
abbrev sT34_4:List TSh:=[.it,.mp .i .i]
abbrev sTp134_4:List TSh:=[]
def lc34_4 (F:Nat):Lc:=mkM [1,2,10,15,45] sA34_4 sT34_4 [10,15] sAp134_4 sTp134_4 (fun y=>y.1) (fun y=>y.2.1.length) (fun x y (s:Int) q=>L34_4 F x.1 x.2.1 y.1 y.2.1 s q) (fun x y=>x.2.2.2.1) (fun x y s=>((x.2.2.1,s,()),()))
def LG34_4 (F:Nat) (y41:Int) (y42:Int) (y45:Nat×List Nat) (y46:List Zi) (q50:Nat):Option Int:=
 (Option.bind (gsame y45.1 y46.length) fun x51=>(Option.bind (y46[q50]?) fun x52=>(Option.bind (gquo (w64 ((w64 (x52.2 + y41)) - (1:Int))) y41) fun x53=>(some (w64 ((w64 (x53 * y42)) * x52.1))))))
theorem lm34_4 (F:Nat) (x:dens sA34_4) (y:tdens sT34_4) (s:Int) (p q:Nat):(L34_4 F x.1 x.2.1 y.1 y.2.1 s p).bind (fun s=>L34_4 F x.1 x.2.1 y.1 y.2.1 s q)=(L34_4 F x.1 x.2.1 y.1 y.2.1 s q).bind (fun s=>L34_4 F x.1 x.2.1 y.1 y.2.1 s p):=
 comm_add (f:=fun s q=>L34_4 F x.1 x.2.1 y.1 y.2.1 s q) (fun q=>LG34_4 F x.1 x.2.1 y.1 y.2.1 q) (fun s q=>by simp only [L34_4,L34_4c,LG34_4,Option.bind_assoc,Option.bind_some]) s p q
theorem lf34_4 (F:Nat) (x:dens sA34_4) (y:tdens sT34_4) (s:Int) (seen:List Nat):sev (E34 F) 0 [] (cAt (bodyOf Tryz.f34) (1 :: 0 :: 0 :: [1,0,1,1,1,1,1,1])) (1 :: 0 :: 0 :: [1,0,1,1,1,1,1,1]) ⟨(47,.o (.b false)) :: zipS [1,2,10,15,45] (encs sA34_4 (x.1,x.2.1,x.2.2.1,s,(),())),encTs sT34_4 (((y.1).1,seen),y.2.1,()),[]⟩ (kLoop (β:=Full sA34_4 sT34_4 sAp134_4 sTp134_4 [] []) 0 [1,2,10,15,45] sA34_4 sT34_4 [10,15] sAp134_4 sTp134_4 [] [] [] 2 (fun x y=>some (.inl (x,y))) (fun x y=>some (.inr (.inl (x,y)))) (fun x y=>some (.inr (.inr (x,y))))) =
  some (.inr (.inl ((x.2.2.1,s,()),()))):=by kernel_rfl
theorem lo34_4 (F:Nat):LcOk Tryz.prog (E34 F) 0 (lc34_4 F) (cAt (bodyOf Tryz.f34) [1,0,1,1,1,1,1,1]):=
 mr_ok (lp:=[]) (ti:=45) (d1:=46) (d2:=47) cok (cts34 F) mixed trivial (by kernel_rfl) rfl rfl rfl rfl rfl rfl rfl rfl rfl 0 1 (fun x y s=>(x.1,x.2.1,x.2.2.1,s,(),())) (fun x y s L=>(L,y.2.1,())) (fun x y=>rfl) (fun x y=>rfl) (fun x y s=>rfl) (fun x y s=>rfl) (fun x y s L=>rfl) (fun x y s L=>⟨_,_,_,rfl,rfl⟩) (fun x y s n q seen=>rfl) (lm34_4 F) (fun x y s q k=>L34_4c F x.1 x.2.1 y.1 y.2.1 s q k) (fun x y s q k=>L34_4n F x.1 x.2.1 y.1 y.2.1 s q k) (fun _ _ _ _ _=>by kernel_rfl) (lf34_4 F)
def T34c (F:Nat) (p0:List Int) (p1:Int) (p2:Int) {β:Type} (k:(Int×Int×Int)->Option β):Option β:=
 (Option.bind (T35 F p1 p2) fun z28=>(bif (!z28) then (k ((0:Int),(0:Int),(1:Int))) else (Option.bind (iter (fun s=>L34_3 F p0 (p0.length:Int) s.1 s.2.1 s.2.2) F ((0:Int),(0:Int),([]:List Zi))) fun z40=>elimS (fun z40=>(bif Nat.beq z40.2.length z40.2.length && isNil ([]:List Nat) then (Option.bind (mfold (fun s q=>L34_4 F p1 p2 (z40.2.length,([]:List Nat)) z40.2 s q) (List.range z40.2.length) (0:Int)) fun z54=>(k (z54,z40.1,(0:Int)))) else none)) (fun z40=>(k (z40.1,z40.2.1,z40.2.2))) z40)))
def T34 (F:Nat) (p0:List Int) (p1:Int) (p2:Int):=T34c F p0 p1 p2 some
def ct34 (F:Nat):Ct:=mkC 0 [(.ro .i),.i,.i] [] [.i,.i,.i] [] (fun x y=>T34 F x.1 x.2.1 x.2.2.1) (fun x y (z:Int×Int×Int)=>((z.1,z.2.1,z.2.2,()),()))
theorem ok34 (F:Nat):Sound Tryz.prog cfg 34 (ct34 F):=
 mkC_ok (E:=E34 F) (lp:=[([1,0,1,1,1,1],lc34_3 F),([1,0,1,1,1,1,1,1],lc34_4 F)]) (code:=bodyOf Tryz.f34) Tryz.func34 rfl Tryz.ntmps34 rfl rfl cok (cts34 F) mixed ⟨lo34_3 F,⟨lo34_4 F,trivial⟩⟩ (by kernel_rfl) (fun x y k=>T34c F x.1 x.2.1 x.2.2.1 k) (fun _ _ _=>by simp only [T34,T34c,oA,oC,oS,oN,elimS_bind]) (fun _ _=>by kernel_rfl)
def ord8:Nat->List (Tag×Nat)
 | 3=>[]
 | 8=>[(.c,0),(.p,1),(.p,2),(.r,3),(.p,4),(.p,5),(.r,6),(.w,7),(.b,8),(.p,9),(.p,10),(.p,11),(.p,12),(.p,13)]
 | 9=>[(.r,0),(.p,1),(.p,2),(.w,3),(.p,4),(.p,5),(.p,6),(.p,7),(.p,8)]
 | 11=>[(.p,0),(.p,1),(.p,2),(.p,3),(.p,4),(.p,5),(.p,6),(.p,7),(.p,8),(.p,9),(.r,10),(.r,11),(.p,12),(.r,13),(.p,14),(.p,15),(.p,16),(.p,17),(.p,18),(.p,19),(.r,20),(.r,21),(.p,22),(.r,23),(.p,24),(.p,25),(.p,26),(.p,27),(.p,28),(.p,29),(.p,30),(.p,31),(.p,32),(.p,33),(.p,34),(.p,35),(.p,36),(.p,37),(.p,38),(.p,39),(.p,40),(.p,41),(.p,42),(.p,43),(.p,44),(.r,45),(.w,46),(.p,47),(.p,48),(.r,49),(.w,50),(.p,51),(.p,52),(.p,53)]
 | _=>[]
def ms8:Nat->Option (List (Option Tag×Nat×List Nat))
 | 3=>some [(none,0,[1]),(some .p,2,[]),(none,1,[]),(some .p,3,[])]
 | _=>none
def E8 (F:Nat):Ev:=⟨cfg,135,ctOf [(32,ct32 F),(33,ct33 F),(10,ct10 F),(23,ct23 F),(34,ct34 F),(18,ct18 F),(16,ct16 F)],ord8,ctOf [],fun _=>none,ms8⟩
theorem cts8 (F:Nat):CtsOk Tryz.prog (E8 F):=cts_of (l:=[(32,ct32 F),(33,ct33 F),(10,ct10 F),(23,ct23 F),(34,ct34 F),(18,ct18 F),(16,ct16 F)]) (l':=[]) rfl rfl ⟨⟨ok32 F,_,Tryz.func32,rfl,rfl⟩,⟨⟨ok33 F,_,Tryz.func33,rfl,rfl⟩,⟨⟨ok10 F,_,Tryz.func10,rfl,rfl⟩,⟨⟨ok23 F,_,Tryz.func23,rfl,rfl⟩,⟨⟨ok34 F,_,Tryz.func34,rfl,rfl⟩,⟨⟨ok18 F,_,Tryz.func18,rfl,rfl⟩,⟨⟨ok16 F,_,Tryz.func16,rfl,rfl⟩,trivial⟩⟩⟩⟩⟩⟩⟩ trivial
def T8c (F:Nat) {β:Type} (k:Bool->Option β):Option β:=
 (Option.bind (T32 F (UInt8.ofNat 97)) fun z23=>(Option.bind (T32 F (UInt8.ofNat 98)) fun z24=>(Option.bind (T32 F (UInt8.ofNat 99)) fun z25=>(Option.bind (T33 F ([(z23.1,z23.2,(10:Int),()),(z24.1,z24.2,(20:Int),()),(z25.1,z25.2,(30:Int),())]:List Zc) (2:Int)) fun z26=>(Option.bind (inb (List.replicate 64 (0:UInt8)).length (0:Int)) fun x27=>(Option.bind (inb (List.replicate 64 (0:UInt8)).length (63:Int)) fun x28=>(Option.bind (gsl ([(z23.1,z23.2,(10:Int),()),(z24.1,z24.2,(20:Int),()),(z25.1,z25.2,(30:Int),())]:List Zc) (0:Int) (2:Int)) fun x29=>(Option.bind (T10 F (0:Int) (2:Int) (3:Int) x29 ([(List.set (List.replicate 64 (0:UInt8)) x27 (UInt8.ofNat 1)),(List.set (List.replicate 64 (0:UInt8)) x28 (UInt8.ofNat 2))]:List Za)) fun z30=>(bif (z26.2 != (0:Int)) then (k false) else (bif (z30.2.2.2.2.2.1 != (0:Int)) then (k false) else (bif ((z26.1.length:Int) != (2:Int)) then (k false) else (bif ((z30.2.2.2.2.2.2.2.length:Int) != (3:Int)) then (k false) else (Option.bind (inb z30.2.2.2.2.2.2.2.length (0:Int)) fun x31=>(Option.bind (z30.2.2.2.2.2.2.2[x31]?) fun x32=>(Option.bind (inb z30.2.2.2.2.2.2.2.length (2:Int)) fun x33=>(Option.bind (z30.2.2.2.2.2.2.2[x33]?) fun x34=>(Option.bind (T23 F z30.1 z30.2.1 z30.2.2.1 z30.2.2.2.1 z30.2.2.2.2.1 z30.2.2.2.2.2.2.1 ([((x32.1.1,x32.1.2.1,()),x32.2.1,x32.2.2.1,()),((x34.1.1,x34.1.2.1,()),x34.2.1,x34.2.2.1,())]:List Zb)) fun z35=>(Option.bind (gslb z30.2.2.2.2.2.2.2.length (0:Int) (1:Int)) fun x36=>(Option.bind (T23 F z30.1 z30.2.1 z30.2.2.1 z30.2.2.2.1 z30.2.2.2.2.1 z30.2.2.2.2.2.2.1 ((z30.2.2.2.2.2.2.2.drop x36.1).take (x36.2 - x36.1))) fun z37=>(Option.bind (T34 F ([(10:Int),(20:Int),(30:Int)]:List Int) (2:Int) (3:Int)) fun z38=>(bif (z35.1 == (0:Int)) then (bif ((z35.2.length:Int) == (2:Int)) then (Option.bind (inb z35.2.length (1:Int)) fun x39=>(Option.bind (z35.2[x39]?) fun x40=>(bif (x40 == (List.set (List.replicate 64 (0:UInt8)) x28 (UInt8.ofNat 2))) then (Option.bind (ix z30.2.2.2.2.2.2.2 (0:Int)) fun x41=>(bif (x41.2.1 == (List.set (List.replicate 64 (0:UInt8)) x27 (UInt8.ofNat 1))) then (bif (z37.1 == (10:Int)) then (bif (z38.1 == (384:Int)) then (bif (z38.2.1 == (60:Int)) then (bif (z38.2.2 == (0:Int)) then (Option.bind (ix z30.2.2.2.2.2.2.2 (2:Int)) fun x42=>(Option.bind (T18 F x42.1.1 x42.1.2.1 x42.2.1 x42.2.2.1) fun z43=>(bif z43 then (Option.bind (T16 F z30.1 z30.2.1 z30.2.2.1 z30.2.2.2.1 z30.2.2.2.2.1 z30.2.2.2.2.2.2.1) fun z44=>(k (z44 == (0:Int)))) else (k false)))) else (k false)) else (k false)) else (k false)) else (k false)) else (k false))) else (k false)))) else (k false)) else (k false))))))))))))))))))))))
def T8 (F:Nat):=T8c F some
def ct8 (F:Nat):Ct:=mkC 0 [] [] [.bo] [] (fun x y=>T8 F) (fun x y (z:Bool)=>((z,()),()))
theorem ok8 (F:Nat):Sound Tryz.prog cfg 8 (ct8 F):=
 mkC_ok (E:=E8 F) (lp:=[]) (code:=bodyOf Tryz.f8) Tryz.func8 rfl Tryz.ntmps8 rfl rfl cok (cts8 F) mixed trivial (by kernel_rfl) (fun x y k=>T8c F k) (fun _ _ _=>by simp only [T8,T8c,oA,oC,oS,oN,elimS_bind]) (fun _ _=>by kernel_rfl)
def E72 (F:Nat):Ev:=⟨cfg,25,ctOf [],fun _=>[],ctOf [],fun _=>none,fun _=>none⟩
theorem cts72 (F:Nat):CtsOk Tryz.prog (E72 F):=cts_of (l:=[]) (l':=[]) rfl rfl trivial trivial
def L72_2c (F:Nat) (y9:Int) (y11:List Za) (y10:Int) {β:Type} (kA:Int->Option β) (kO:Unit->Option β) (kR:Bool->Option β):Option β:=
 (bif (decide (y10 < y9)) then (Option.bind (inb y11.length y10) fun x14=>(Option.bind (y11[x14]?) fun x15=>(bif ((x15.length:Int) != (32:Int)) then (kR false) else (kA (w64 (y10 + (1:Int))))))) else (kO ()))
def L72_2 (F:Nat) (y9:Int) (y11:List Za) (y10:Int):Option ((Int) ⊕ ((Unit) ⊕ (Bool))):=L72_2c F y9 y11 y10 (fun s=>some (.inl s)) (fun z=>some (.inr (.inl z))) (fun z=>some (.inr (.inr z)))
theorem L72_2n (F:Nat) (y9:Int) (y11:List Za) (y10:Int) {β:Type} (kA:Int->Option β) (kO:Unit->Option β) (kR:Bool->Option β):L72_2c F y9 y11 y10 kA kO kR=(L72_2 F y9 y11 y10).bind (elimS kA (elimS kO kR)):=by
 simp only [L72_2,L72_2c,oA,oC,oS,oN,elimS_l,elimS_r,elimS_bind]
def lc72_2 (F:Nat):Lc:=mkR [15,16,17] [(.rw 0),.i,.i] [.row 9 .s] [] [] [] [2] [.bo] [] F (fun x y (s:Int)=>L72_2 F x.2.1 y.1 s) (fun x y=>x.2.2.1) (fun x y (z:Unit)=>((),())) (fun x y (z:Bool)=>((z,()),()))
theorem lo72_2 (F:Nat):LcOk Tryz.prog (E72 F) 0 (lc72_2 F) (cAt (bodyOf Tryz.f72) [1,0,1]):=
 mkR_ok (lp:=[]) (id:=0) (b:=cAt (bodyOf Tryz.f72) (0 :: 0 :: [1,0,1])) cok (cts72 F) mixed trivial (by kernel_rfl) (by kernel_rfl) (fun x y s=>((),x.2.1,s,())) (fun x y s=>(y.1,())) (fun x y=>rfl) (fun x y=>rfl) (fun x y s kA kO kR=>L72_2c F x.2.1 y.1 s kA kO kR) (fun x y s kA kO kR=>L72_2n F x.2.1 y.1 s kA kO kR) (fun _ _ _=>by kernel_rfl)
def T72c (F:Nat) (p0:List UInt8) (p1:List UInt8) (p2:List UInt8) (p3:List UInt8) (p4:List UInt8) {β:Type} (k:Bool->Option β):Option β:=
 (Option.bind (iter (fun s=>L72_2 F (([p0,p1,p2,p3,p4]:List Za).length:Int) ([p0,p1,p2,p3,p4]:List Za) s) F (0:Int)) fun z16=>elimS (fun z16=>(k true)) (fun z16=>(k z16)) z16)
def T72 (F:Nat) (p0:List UInt8) (p1:List UInt8) (p2:List UInt8) (p3:List UInt8) (p4:List UInt8):=T72c F p0 p1 p2 p3 p4 some
def ct72 (F:Nat):Ct:=mkC 0 [(.pr .str (.pr .str (.pr .str (.pr .str (.pr .str .un)))))] [] [.bo] [] (fun x y=>T72 F x.1.1 x.1.2.1 x.1.2.2.1 x.1.2.2.2.1 x.1.2.2.2.2.1) (fun x y (z:Bool)=>((z,()),()))
theorem ok72 (F:Nat):Sound Tryz.prog cfg 72 (ct72 F):=
 mkC_ok (E:=E72 F) (lp:=[([1,0,1],lc72_2 F)]) (code:=bodyOf Tryz.f72) Tryz.func72 rfl Tryz.ntmps72 rfl rfl cok (cts72 F) mixed ⟨lo72_2 F,trivial⟩ (by kernel_rfl) (fun x y k=>T72c F x.1.1 x.1.2.1 x.1.2.2.1 x.1.2.2.2.1 x.1.2.2.2.2.1 k) (fun _ _ _=>by simp only [T72,T72c,oA,oC,oS,oN,elimS_bind]) (fun _ _=>by kernel_rfl)
def E100 (F:Nat):Ev:=⟨cfg,20,ctOf [],fun _=>[],ctOf [],fun _=>none,fun _=>none⟩
theorem cts100 (F:Nat):CtsOk Tryz.prog (E100 F):=cts_of (l:=[]) (l':=[]) rfl rfl trivial trivial
def L100_2c (F:Nat) (y7:UInt64) (y8:List UInt8) {β:Type} (kA:(UInt64×Za)->Option β) (kO:(UInt64×Za)->Option β):Option β:=
 (bif (decide ((UInt64.ofNat 128)≤y7)) then (Option.bind (gapp y8 ([((y7.toUInt8) ||| (UInt8.ofNat 128))]:List UInt8)) fun x10=>(kA ((shr64 y7 ((UInt64.ofNat 7).toNat)),x10))) else (kO (y7,y8)))
def L100_2 (F:Nat) (y7:UInt64) (y8:List UInt8):=L100_2c F y7 y8 (fun s=>some (Sum.inl s)) (fun z=>some (Sum.inr z))
def lc100_2 (F:Nat):Lc:=mkL [0,1] [(.rw 0),.u64] [.row 5 .u8] [0,1] [(.rw 0),.u64] [.row 5 .u8] F (fun x y (s:UInt64×Za)=>L100_2 F s.1 s.2) (fun x y=>(x.2.1,y.1)) (fun x y (z:UInt64×Za)=>(((),z.1,()),(z.2,())))
theorem lo100_2 (F:Nat):LcOk Tryz.prog (E100 F) 0 (lc100_2 F) (cAt (bodyOf Tryz.f100) [0,1]):=
 mkL_ok (lp:=[]) (id:=0) (b:=cAt (bodyOf Tryz.f100) (0 :: 0 :: [0,1])) cok (cts100 F) mixed trivial (by kernel_rfl) (by kernel_rfl) (fun x y s=>((),s.1,())) (fun x y s=>(s.2,())) (fun x y=>rfl) (fun x y=>rfl) (fun x y s kA kO=>L100_2c F s.1 s.2 kA kO) (fun _ _ _ _ _=>by simp only [L100_2,L100_2c,oA,oC,oS,oN,elimS_l,elimS_r,elimS_bind]) (fun _ _ _=>by kernel_rfl)
def T100c (F:Nat) (p0:UInt64) (p1:List UInt8) {β:Type} (k:(Za)->Option β):Option β:=
 (Option.bind (iter (fun s=>L100_2 F s.1 s.2) F (p0,p1)) fun z11=>(Option.bind (gapp z11.2 ([(z11.1.toUInt8)]:List UInt8)) fun x12=>(k x12)))
def T100 (F:Nat) (p0:UInt64) (p1:List UInt8):=T100c F p0 p1 some
def ct100 (F:Nat):Ct:=mkC 0 [(.rw 0),.u64] [.row 5 .u8] [(.rw 0)] [.row 5 .u8] (fun x y=>T100 F x.2.1 y.1) (fun x y (z:Za)=>(((),()),(z,())))
theorem ok100 (F:Nat):Sound Tryz.prog cfg 100 (ct100 F):=
 mkC_ok (E:=E100 F) (lp:=[([0,1],lc100_2 F)]) (code:=bodyOf Tryz.f100) Tryz.func100 rfl Tryz.ntmps100 rfl rfl cok (cts100 F) mixed ⟨lo100_2 F,trivial⟩ (by kernel_rfl) (fun x y k=>T100c F x.2.1 y.1 k) (fun _ _ _=>by simp only [T100,T100c,oA,oC,oS,oN,elimS_bind]) (fun _ _=>by kernel_rfl)
def E110 (F:Nat):Ev:=⟨cfg,13,ctOf [(100,ct100 F)],fun _=>[],ctOf [],fun _=>none,fun _=>none⟩
theorem cts110 (F:Nat):CtsOk Tryz.prog (E110 F):=cts_of (l:=[(100,ct100 F)]) (l':=[]) rfl rfl ⟨⟨ok100 F,_,Tryz.func100,rfl,rfl⟩,trivial⟩ trivial
def T110c (F:Nat) (p0:List UInt8) (p1:UInt64) {β:Type} (k:(Za)->Option β):Option β:=
 (Option.bind (gmake (0:UInt8) (0:Int) (w64 ((p0.length:Int) + (10:Int)))) fun x4=>(Option.bind (gapp x4 p0) fun x5=>(Option.bind (T100 F p1 x5) fun z6=>(k z6))))
def T110 (F:Nat) (p0:List UInt8) (p1:UInt64):=T110c F p0 p1 some
def ct110 (F:Nat):Ct:=mkC 0 [(.ro .u8),.u64] [] [(.rw 0)] [.row 5 .u8] (fun x y=>T110 F x.1 x.2.1) (fun x y (z:Za)=>(((),()),(z,())))
theorem ok110 (F:Nat):Sound Tryz.prog cfg 110 (ct110 F):=
 mkC_ok (E:=E110 F) (lp:=[]) (code:=bodyOf Tryz.f110) Tryz.func110 rfl Tryz.ntmps110 rfl rfl cok (cts110 F) mixed trivial (by kernel_rfl) (fun x y k=>T110c F x.1 x.2.1 k) (fun _ _ _=>by simp only [T110,T110c,oA,oC,oS,oN,elimS_bind]) (fun _ _=>by kernel_rfl)
def E161 (F:Nat):Ev:=⟨cfg,18,ctOf [],fun _=>[],ctOf [],fun _=>none,fun _=>none⟩
theorem cts161 (F:Nat):CtsOk Tryz.prog (E161 F):=cts_of (l:=[]) (l':=[]) rfl rfl trivial trivial
def L161_2c (F:Nat) (y10:UInt8) (y11:Vector UInt8 64) (y12:Int) (y13:Vector UInt8 64) {β:Type} (kA:(Int×Ze)->Option β) (kO:(Ze)->Option β):Option β:=
 (bif (decide (y12 < (64:Int))) then (Option.bind (vix y11 y12) fun x16=>(Option.bind (inb 64 y12) fun x17=>(kA ((w64 (y12 + (1:Int))),(Vector.setIfInBounds y13 x17 (x16 ^^^ y10)))))) else (kO y13))
def L161_2 (F:Nat) (y10:UInt8) (y11:Vector UInt8 64) (y12:Int) (y13:Vector UInt8 64):=L161_2c F y10 y11 y12 y13 (fun s=>some (Sum.inl s)) (fun z=>some (Sum.inr z))
def lc161_2 (F:Nat):Lc:=mkL [0,3,6,7] [.u8,(.pt 0 []),(.ar 64 .u8),.i] [.blk 196 (.ar 64 .u8)] [3] [(.pt 0 [])] [.blk 196 (.ar 64 .u8)] F (fun x y (s:Int×Ze)=>L161_2 F x.1 x.2.2.1 s.1 s.2) (fun x y=>(x.2.2.2.1,y.1)) (fun x y (z:Ze)=>(((),()),(z,())))
theorem lo161_2 (F:Nat):LcOk Tryz.prog (E161 F) 0 (lc161_2 F) (cAt (bodyOf Tryz.f161) [1,0,1]):=
 mkL_ok (lp:=[]) (id:=0) (b:=cAt (bodyOf Tryz.f161) (0 :: 0 :: [1,0,1])) cok (cts161 F) mixed trivial (by kernel_rfl) (by kernel_rfl) (fun x y s=>(x.1,(),x.2.2.1,s.1,())) (fun x y s=>(s.2,())) (fun x y=>rfl) (fun x y=>rfl) (fun x y s kA kO=>L161_2c F x.1 x.2.2.1 s.1 s.2 kA kO) (fun _ _ _ _ _=>by simp only [L161_2,L161_2c,oA,oC,oS,oN,elimS_l,elimS_r,elimS_bind]) (fun _ _ _=>by kernel_rfl)
def T161c (F:Nat) (p0:UInt8) (p1:Vector UInt8 64) {β:Type} (k:(Ze)->Option β):Option β:=
 (Option.bind (iter (fun s=>L161_2 F p0 p1 s.1 s.2) F ((0:Int),(Vector.replicate 64 (0:UInt8)))) fun z18=>(k z18))
def T161 (F:Nat) (p0:UInt8) (p1:Vector UInt8 64):=T161c F p0 p1 some
def ct161 (F:Nat):Ct:=mkC 0 [.u8,(.re (.ar 64 .u8))] [] [(.ar 64 .u8)] [] (fun x y=>T161 F x.1 x.2.1) (fun x y (z:Ze)=>((z,()),()))
theorem ok161 (F:Nat):Sound Tryz.prog cfg 161 (ct161 F):=
 mkC_ok (E:=E161 F) (lp:=[([1,0,1],lc161_2 F)]) (code:=bodyOf Tryz.f161) Tryz.func161 rfl Tryz.ntmps161 rfl rfl cok (cts161 F) mixed ⟨lo161_2 F,trivial⟩ (by kernel_rfl) (fun x y k=>T161c F x.1 x.2.1 k) (fun _ _ _=>by simp only [T161,T161c,oA,oC,oS,oN,elimS_bind]) (fun _ _=>by kernel_rfl)
def ord153x2:Nat->List (Tag×Nat)
 | 6=>[(.p,0),(.p,1),(.p,2),(.r,3),(.p,4),(.p,5),(.p,6),(.p,7),(.r,8),(.p,9),(.p,10),(.p,11),(.p,12),(.p,13),(.r,14),(.p,15),(.p,16),(.p,17),(.p,18),(.p,19),(.r,20),(.p,21),(.p,22),(.p,23),(.w,24)]
 | 7=>[(.p,0),(.p,1),(.p,2),(.r,3),(.p,4),(.p,5),(.p,6),(.r,7),(.p,8),(.p,9)]
 | 10=>[(.p,0),(.p,1),(.p,2),(.p,3),(.p,4),(.r,5),(.p,6),(.p,7),(.p,8),(.p,9),(.p,10),(.p,11),(.r,12),(.p,13),(.p,14),(.w,15)]
 | 13=>[(.p,0),(.r,1),(.p,2),(.r,3),(.p,4),(.r,5),(.p,6),(.r,7),(.p,8),(.r,9),(.p,10),(.r,11),(.p,12),(.r,13),(.p,14),(.r,15),(.p,16),(.p,17),(.p,18),(.p,19),(.p,20),(.p,21),(.p,22),(.p,23)]
 | 19=>[(.p,0),(.p,1),(.p,2),(.p,3),(.p,4),(.p,5),(.p,6),(.p,7),(.p,8),(.p,9),(.p,10),(.p,11),(.p,12),(.p,13),(.r,14),(.p,15),(.p,16),(.p,17),(.r,18),(.p,19),(.p,20)]
 | 26=>[(.p,0),(.p,1),(.p,2),(.p,3),(.r,4),(.p,5),(.p,6),(.p,7),(.p,8),(.p,9),(.w,10)]
 | _=>[]
def al153x2:Nat->Option Nat
 | _=>none
def ms153x2:Nat->Option (List (Option Tag×Nat×List Nat))
 | _=>none
def E153x2 (F:Nat):Ev:=⟨cfg,212,ctOf [(170,ct170 F)],ord153x2,ctOf [],al153x2,ms153x2⟩
theorem cts153x2 (F:Nat):CtsOk Tryz.prog (E153x2 F):=cts_of (l:=[(170,ct170 F)]) (l':=[]) rfl rfl ⟨⟨ok170 F,_,Tryz.func170,rfl,rfl⟩,trivial⟩ trivial
def L153x2_4c (F:Nat) (y116:Vector UInt8 64) (y113:Nat×Nat) (y114:Int) (y119:Vector UInt32 64) {β:Type} (kA:((Nat×Nat)×Int×(Vector UInt32 64))->Option β) (kO:((Vector UInt32 64))->Option β):Option β:=
 (bif (decide (y114 < (64:Int))) then (bif (decide (y114 < (16:Int))) then (Option.bind (gslb (y113.2 - y113.1) (w64 ((4:Int) * y114)) (w64 ((w64 ((4:Int) * y114)) + (4:Int)))) fun x143=>(Option.bind (inb ((y113.1 + x143.2) - (y113.1 + x143.1)) (0:Int)) fun x144=>(Option.bind (vat y116 ((y113.1 + x143.1) + x144)) fun x145=>(Option.bind (inb ((y113.1 + x143.2) - (y113.1 + x143.1)) (1:Int)) fun x146=>(Option.bind (vat y116 ((y113.1 + x143.1) + x146)) fun x147=>(Option.bind (inb ((y113.1 + x143.2) - (y113.1 + x143.1)) (2:Int)) fun x148=>(Option.bind (vat y116 ((y113.1 + x143.1) + x148)) fun x149=>(Option.bind (inb ((y113.1 + x143.2) - (y113.1 + x143.1)) (3:Int)) fun x150=>(Option.bind (vat y116 ((y113.1 + x143.1) + x150)) fun x151=>(Option.bind (inb 64 y114) fun x152=>(kA ((y113.1,y113.2),(w64 (y114 + (1:Int))),(Vector.setIfInBounds y119 x152 ((((shl32 (x145.toUInt32) ((UInt64.ofNat 24).toNat)) ||| (shl32 (x147.toUInt32) ((UInt64.ofNat 16).toNat))) ||| (shl32 (x149.toUInt32) ((UInt64.ofNat 8).toNat))) ||| (x151.toUInt32))))))))))))))) else (Option.bind (inb 64 (w64 (y114 - (2:Int)))) fun x153=>(Option.bind (vat y119 x153) fun x154=>(Option.bind (inb 64 (w64 (y114 - (15:Int)))) fun x155=>(Option.bind (vat y119 x155) fun x156=>(Option.bind (T170 F x154 (-17:Int)) fun z157=>(Option.bind (T170 F x154 (-19:Int)) fun z158=>(Option.bind (T170 F x156 (-7:Int)) fun z159=>(Option.bind (T170 F x156 (-18:Int)) fun z160=>(Option.bind (inb 64 (w64 (y114 - (7:Int)))) fun x161=>(Option.bind (vat y119 x161) fun x162=>(Option.bind (inb 64 (w64 (y114 - (16:Int)))) fun x163=>(Option.bind (vat y119 x163) fun x164=>(Option.bind (inb 64 y114) fun x165=>(kA ((y113.1,y113.2),(w64 (y114 + (1:Int))),(Vector.setIfInBounds y119 x165 (((((z157 ^^^ z158) ^^^ (shr32 x154 ((UInt64.ofNat 10).toNat))) + x162) + ((z159 ^^^ z160) ^^^ (shr32 x156 ((UInt64.ofNat 3).toNat)))) + x164)))))))))))))))))) else (kO y119))
def L153x2_4 (F:Nat) (y116:Vector UInt8 64) (y113:Nat×Nat) (y114:Int) (y119:Vector UInt32 64):Option (((Nat×Nat)×Int×(Vector UInt32 64)) ⊕ ((Vector UInt32 64))):=L153x2_4c F y116 y113 y114 y119 (fun s=>some (.inl s)) (fun z=>some (.inr z))
theorem L153x2_4n (F:Nat) (y116:Vector UInt8 64) (y113:Nat×Nat) (y114:Int) (y119:Vector UInt32 64) {β:Type} (kA:((Nat×Nat)×Int×(Vector UInt32 64))->Option β) (kO:((Vector UInt32 64))->Option β):L153x2_4c F y116 y113 y114 y119 kA kO=(L153x2_4 F y116 y113 y114 y119).bind (elimS kA kO):=by
 simp only [L153x2_4,L153x2_4c,Option.bind_assoc,cond_bind,Option.bind_some,Option.bind_none,elimS_l,elimS_r,elimS_bind]
abbrev sA153x2_4:List Sh:=[(.pt 0 [0,0]),(.ap 0 [0,0,1]),(.pt 1 []),.i]
abbrev sAp1153x2_4:List Sh:=[(.pt 0 [0,0]),(.pt 1 [])]
abbrev sT153x2_4:List TSh:=[.blk 210 (.pr (.pr (.pr (.ar 8 .u32) (.pr (.ar 64 .u8) (.pr .i .un))) (.pr (.ar 64 .u8) .un)) .un),.blk 200 (.ar 64 .u32)]
abbrev sTp1153x2_4:List TSh:=[.blk 210 (.pr (.pr (.pr (.ar 8 .u32) (.pr (.ar 64 .u8) (.pr .i .un))) (.pr (.ar 64 .u8) .un)) .un),.blk 200 (.ar 64 .u32)]
def lc153x2_4 (F:Nat):Lc:=mkL [0,1,4,27] sA153x2_4 sT153x2_4 [0,4] sAp1153x2_4 sTp1153x2_4 F (fun x y (s:(Nat×Nat)×Int×(Vector UInt32 64))=>L153x2_4 F y.1.1.1.2.1 s.1 s.2.1 s.2.2) (fun x y=>(x.2.1,x.2.2.2.1,y.2.1)) (fun x y (z:(Vector UInt32 64))=>(((),(),()),((((y.1.1.1.1,y.1.1.1.2.1,y.1.1.1.2.2.1,()),y.1.1.2.1,()),()),z,())))
theorem le153x2_4 (F:Nat) (x:dens sA153x2_4) (y:tdens sT153x2_4) (s:(Nat×Nat)×Int×(Vector UInt32 64)):sev (E153x2 F) 1 [] (cAt (bodyOf Tryz.f153) (0 :: 0 :: [1,0,1])) (0 :: 0 :: [1,0,1]) (mkSt [0,1,4,27] sA153x2_4 sT153x2_4 ((),s.1,(),s.2.1,()) ((((y.1.1.1.1,y.1.1.1.2.1,y.1.1.1.2.2.1,()),y.1.1.2.1,()),()),s.2.2,())) (kLoop 1 [0,1,4,27] sA153x2_4 sT153x2_4 [0,4] sAp1153x2_4 sTp1153x2_4 [] [] [] 0 (fun x y=>some (.inl (x,y))) (fun x y=>some (.inr (.inl (x,y)))) (fun x y=>some (.inr (.inr (x,y))))) =
  L153x2_4c (β:=Full sA153x2_4 sT153x2_4 sAp1153x2_4 sTp1153x2_4 [] []) F y.1.1.1.2.1 s.1 s.2.1 s.2.2 (fun s=>some (.inl (((),s.1,(),s.2.1,()),((((y.1.1.1.1,y.1.1.1.2.1,y.1.1.1.2.2.1,()),y.1.1.2.1,()),()),s.2.2,())))) (fun z=>some (.inr (.inl (((),(),()),((((y.1.1.1.1,y.1.1.1.2.1,y.1.1.1.2.2.1,()),y.1.1.2.1,()),()),z,()))))):=by kernel_rfl
theorem lo153x2_4 (F:Nat):LcOk Tryz.prog (E153x2 F) 1 (lc153x2_4 F) (cAt (bodyOf Tryz.f153) [1,0,1]):=
 mkL_ok (lp:=[]) (id:=0) (b:=cAt (bodyOf Tryz.f153) (0 :: 0 :: [1,0,1])) cok (cts153x2 F) mixed trivial (by kernel_rfl) (by kernel_rfl) (fun x y s=>((),s.1,(),s.2.1,())) (fun x y s=>((((y.1.1.1.1,y.1.1.1.2.1,y.1.1.1.2.2.1,()),y.1.1.2.1,()),()),s.2.2,())) (fun x y=>rfl) (fun x y=>rfl) (fun x y s kA kO=>L153x2_4c F y.1.1.1.2.1 s.1 s.2.1 s.2.2 kA kO) (fun x y s kA kO=>L153x2_4n F y.1.1.1.2.1 s.1 s.2.1 s.2.2 kA kO) (le153x2_4 F)
def L153x2_5c (F:Nat) (y188:Vector UInt32 64) (y175:UInt32) (y176:UInt32) (y177:UInt32) (y178:UInt32) (y179:UInt32) (y180:UInt32) (y181:UInt32) (y182:UInt32) (y183:Int) {β:Type} (kA:(UInt32×UInt32×UInt32×UInt32×UInt32×UInt32×UInt32×UInt32×Int)->Option β) (kO:(UInt32×UInt32×UInt32×UInt32×UInt32×UInt32×UInt32×UInt32)->Option β):Option β:=
 (bif (decide (y183 < (64:Int))) then (Option.bind (T170 F y179 (-6:Int)) fun z199=>(Option.bind (T170 F y179 (-11:Int)) fun z200=>(Option.bind (T170 F y179 (-25:Int)) fun z201=>(Option.bind (T170 F y175 (-2:Int)) fun z202=>(Option.bind (T170 F y175 (-13:Int)) fun z203=>(Option.bind (T170 F y175 (-22:Int)) fun z204=>(Option.bind (vix (gv2) y183) fun x205=>(Option.bind (inb 64 y183) fun x206=>(Option.bind (vat y188 x206) fun x207=>(kA ((((((y182 + ((z199 ^^^ z200) ^^^ z201)) + ((y179 &&& y180) ^^^ ((~~~y179) &&& y181))) + x205) + x207) + (((z202 ^^^ z203) ^^^ z204) + (((y175 &&& y176) ^^^ (y175 &&& y177)) ^^^ (y176 &&& y177)))),y175,y176,y177,(y178 + ((((y182 + ((z199 ^^^ z200) ^^^ z201)) + ((y179 &&& y180) ^^^ ((~~~y179) &&& y181))) + x205) + x207)),y179,y180,y181,(w64 (y183 + (1:Int)))))))))))))) else (kO (y175,y176,y177,y178,y179,y180,y181,y182)))
def L153x2_5 (F:Nat) (y188:Vector UInt32 64) (y175:UInt32) (y176:UInt32) (y177:UInt32) (y178:UInt32) (y179:UInt32) (y180:UInt32) (y181:UInt32) (y182:UInt32) (y183:Int):Option ((UInt32×UInt32×UInt32×UInt32×UInt32×UInt32×UInt32×UInt32×Int) ⊕ (UInt32×UInt32×UInt32×UInt32×UInt32×UInt32×UInt32×UInt32)):=L153x2_5c F y188 y175 y176 y177 y178 y179 y180 y181 y182 y183 (fun s=>some (.inl s)) (fun z=>some (.inr z))
theorem L153x2_5n (F:Nat) (y188:Vector UInt32 64) (y175:UInt32) (y176:UInt32) (y177:UInt32) (y178:UInt32) (y179:UInt32) (y180:UInt32) (y181:UInt32) (y182:UInt32) (y183:Int) {β:Type} (kA:(UInt32×UInt32×UInt32×UInt32×UInt32×UInt32×UInt32×UInt32×Int)->Option β) (kO:(UInt32×UInt32×UInt32×UInt32×UInt32×UInt32×UInt32×UInt32)->Option β):L153x2_5c F y188 y175 y176 y177 y178 y179 y180 y181 y182 y183 kA kO=(L153x2_5 F y188 y175 y176 y177 y178 y179 y180 y181 y182 y183).bind (elimS kA kO):=by
 simp only [L153x2_5,L153x2_5c,Option.bind_assoc,cond_bind,Option.bind_some,Option.bind_none,elimS_l,elimS_r,elimS_bind]
abbrev sA153x2_5:List Sh:=[(.pt 0 [0,0]),(.pt 1 []),(.pt 2 []),.u32,.u32,.u32,.u32,.u32,.u32,.u32,.u32,.i]
abbrev sAp1153x2_5:List Sh:=[(.pt 0 [0,0]),(.pt 1 []),.u32,.u32,.u32,.u32,.u32,.u32,.u32,.u32]
abbrev sT153x2_5:List TSh:=[.blk 210 (.pr (.pr (.pr (.ar 8 .u32) (.pr (.ar 64 .u8) (.pr .i .un))) (.pr (.ar 64 .u8) .un)) .un),.blk 200 (.ar 64 .u32),.blk 174 (.ar 8 .u32)]
abbrev sTp1153x2_5:List TSh:=[.blk 210 (.pr (.pr (.pr (.ar 8 .u32) (.pr (.ar 64 .u8) (.pr .i .un))) (.pr (.ar 64 .u8) .un)) .un),.blk 174 (.ar 8 .u32)]
def lc153x2_5 (F:Nat):Lc:=mkL [0,4,11,12,13,14,15,16,17,18,19,123] sA153x2_5 sT153x2_5 [0,11,12,13,14,15,16,17,18,19] sAp1153x2_5 sTp1153x2_5 F (fun x y (s:UInt32×UInt32×UInt32×UInt32×UInt32×UInt32×UInt32×UInt32×Int)=>L153x2_5 F y.2.1 s.1 s.2.1 s.2.2.1 s.2.2.2.1 s.2.2.2.2.1 s.2.2.2.2.2.1 s.2.2.2.2.2.2.1 s.2.2.2.2.2.2.2.1 s.2.2.2.2.2.2.2.2) (fun x y=>(x.2.2.2.1,x.2.2.2.2.1,x.2.2.2.2.2.1,x.2.2.2.2.2.2.1,x.2.2.2.2.2.2.2.1,x.2.2.2.2.2.2.2.2.1,x.2.2.2.2.2.2.2.2.2.1,x.2.2.2.2.2.2.2.2.2.2.1,x.2.2.2.2.2.2.2.2.2.2.2.1)) (fun x y (z:UInt32×UInt32×UInt32×UInt32×UInt32×UInt32×UInt32×UInt32)=>(((),(),z.1,z.2.1,z.2.2.1,z.2.2.2.1,z.2.2.2.2.1,z.2.2.2.2.2.1,z.2.2.2.2.2.2.1,z.2.2.2.2.2.2.2,()),((((y.1.1.1.1,y.1.1.1.2.1,y.1.1.1.2.2.1,()),y.1.1.2.1,()),()),y.2.2.1,())))
theorem le153x2_5 (F:Nat) (x:dens sA153x2_5) (y:tdens sT153x2_5) (s:UInt32×UInt32×UInt32×UInt32×UInt32×UInt32×UInt32×UInt32×Int):sev (E153x2 F) 1 [] (cAt (bodyOf Tryz.f153) (0 :: 0 :: [1,0,1,1,1,1])) (0 :: 0 :: [1,0,1,1,1,1]) (mkSt [0,4,11,12,13,14,15,16,17,18,19,123] sA153x2_5 sT153x2_5 ((),(),(),s.1,s.2.1,s.2.2.1,s.2.2.2.1,s.2.2.2.2.1,s.2.2.2.2.2.1,s.2.2.2.2.2.2.1,s.2.2.2.2.2.2.2.1,s.2.2.2.2.2.2.2.2,()) ((((y.1.1.1.1,y.1.1.1.2.1,y.1.1.1.2.2.1,()),y.1.1.2.1,()),()),y.2.1,y.2.2.1,())) (kLoop 1 [0,4,11,12,13,14,15,16,17,18,19,123] sA153x2_5 sT153x2_5 [0,11,12,13,14,15,16,17,18,19] sAp1153x2_5 sTp1153x2_5 [] [] [] 2 (fun x y=>some (.inl (x,y))) (fun x y=>some (.inr (.inl (x,y)))) (fun x y=>some (.inr (.inr (x,y))))) =
  L153x2_5c (β:=Full sA153x2_5 sT153x2_5 sAp1153x2_5 sTp1153x2_5 [] []) F y.2.1 s.1 s.2.1 s.2.2.1 s.2.2.2.1 s.2.2.2.2.1 s.2.2.2.2.2.1 s.2.2.2.2.2.2.1 s.2.2.2.2.2.2.2.1 s.2.2.2.2.2.2.2.2 (fun s=>some (.inl (((),(),(),s.1,s.2.1,s.2.2.1,s.2.2.2.1,s.2.2.2.2.1,s.2.2.2.2.2.1,s.2.2.2.2.2.2.1,s.2.2.2.2.2.2.2.1,s.2.2.2.2.2.2.2.2,()),((((y.1.1.1.1,y.1.1.1.2.1,y.1.1.1.2.2.1,()),y.1.1.2.1,()),()),y.2.1,y.2.2.1,())))) (fun z=>some (.inr (.inl (((),(),z.1,z.2.1,z.2.2.1,z.2.2.2.1,z.2.2.2.2.1,z.2.2.2.2.2.1,z.2.2.2.2.2.2.1,z.2.2.2.2.2.2.2,()),((((y.1.1.1.1,y.1.1.1.2.1,y.1.1.1.2.2.1,()),y.1.1.2.1,()),()),y.2.2.1,()))))):=by kernel_rfl
theorem lo153x2_5 (F:Nat):LcOk Tryz.prog (E153x2 F) 1 (lc153x2_5 F) (cAt (bodyOf Tryz.f153) [1,0,1,1,1,1]):=
 mkL_ok (lp:=[]) (id:=2) (b:=cAt (bodyOf Tryz.f153) (0 :: 0 :: [1,0,1,1,1,1])) cok (cts153x2 F) mixed trivial (by kernel_rfl) (by kernel_rfl) (fun x y s=>((),(),(),s.1,s.2.1,s.2.2.1,s.2.2.2.1,s.2.2.2.2.1,s.2.2.2.2.2.1,s.2.2.2.2.2.2.1,s.2.2.2.2.2.2.2.1,s.2.2.2.2.2.2.2.2,())) (fun x y s=>((((y.1.1.1.1,y.1.1.1.2.1,y.1.1.1.2.2.1,()),y.1.1.2.1,()),()),y.2.1,y.2.2.1,())) (fun x y=>rfl) (fun x y=>rfl) (fun x y s kA kO=>L153x2_5c F y.2.1 s.1 s.2.1 s.2.2.1 s.2.2.2.1 s.2.2.2.2.1 s.2.2.2.2.2.1 s.2.2.2.2.2.2.1 s.2.2.2.2.2.2.2.1 s.2.2.2.2.2.2.2.2 kA kO) (fun x y s kA kO=>L153x2_5n F y.2.1 s.1 s.2.1 s.2.2.1 s.2.2.2.1 s.2.2.2.2.1 s.2.2.2.2.2.1 s.2.2.2.2.2.2.1 s.2.2.2.2.2.2.2.1 s.2.2.2.2.2.2.2.2 kA kO) (le153x2_5 F)
def L153x2_6c (F:Nat) (y209:Vector UInt32 8) (y215:Vector UInt32 8) (y210:Int) (y211:Vector UInt32 8) {β:Type} (kA:(Int×(Vector UInt32 8))->Option β) (kO:((Vector UInt32 8))->Option β):Option β:=
 (bif (decide (y210 < (8:Int))) then (Option.bind (vix y209 y210) fun x220=>(Option.bind (inb 8 y210) fun x221=>(Option.bind (vat y215 x221) fun x222=>(Option.bind (inb 8 y210) fun x223=>(kA ((w64 (y210 + (1:Int))),(Vector.setIfInBounds y211 x223 (x222 + x220)))))))) else (kO y211))
def L153x2_6 (F:Nat) (y209:Vector UInt32 8) (y215:Vector UInt32 8) (y210:Int) (y211:Vector UInt32 8):Option ((Int×(Vector UInt32 8)) ⊕ ((Vector UInt32 8))):=L153x2_6c F y209 y215 y210 y211 (fun s=>some (.inl s)) (fun z=>some (.inr z))
theorem L153x2_6n (F:Nat) (y209:Vector UInt32 8) (y215:Vector UInt32 8) (y210:Int) (y211:Vector UInt32 8) {β:Type} (kA:(Int×(Vector UInt32 8))->Option β) (kO:((Vector UInt32 8))->Option β):L153x2_6c F y209 y215 y210 y211 kA kO=(L153x2_6 F y209 y215 y210 y211).bind (elimS kA kO):=by
 simp only [L153x2_6,L153x2_6c,Option.bind_assoc,cond_bind,Option.bind_some,Option.bind_none,elimS_l,elimS_r,elimS_bind]
abbrev sA153x2_6:List Sh:=[(.pt 0 [0,0]),(.pt 1 []),(.ar 8 .u32),.i]
abbrev sAp1153x2_6:List Sh:=[]
abbrev sT153x2_6:List TSh:=[.blk 210 (.pr (.pr (.pr (.ar 8 .u32) (.pr (.ar 64 .u8) (.pr .i .un))) (.pr (.ar 64 .u8) .un)) .un),.blk 174 (.ar 8 .u32)]
abbrev sTp1153x2_6:List TSh:=[.blk 210 (.pr (.pr (.pr (.ar 8 .u32) (.pr (.ar 64 .u8) (.pr .i .un))) (.pr (.ar 64 .u8) .un)) .un)]
def lc153x2_6 (F:Nat):Lc:=mkL [0,11,196,197] sA153x2_6 sT153x2_6 [] sAp1153x2_6 sTp1153x2_6 F (fun x y (s:Int×(Vector UInt32 8))=>L153x2_6 F x.2.2.1 y.2.1 s.1 s.2) (fun x y=>(x.2.2.2.1,y.1.1.1.1)) (fun x y (z:(Vector UInt32 8))=>((),((((z,y.1.1.1.2.1,y.1.1.1.2.2.1,()),y.1.1.2.1,()),()),())))
theorem le153x2_6 (F:Nat) (x:dens sA153x2_6) (y:tdens sT153x2_6) (s:Int×(Vector UInt32 8)):sev (E153x2 F) 1 [] (cAt (bodyOf Tryz.f153) (0 :: 0 :: [1,1,1,1,1,1])) (0 :: 0 :: [1,1,1,1,1,1]) (mkSt [0,11,196,197] sA153x2_6 sT153x2_6 ((),(),x.2.2.1,s.1,()) ((((s.2,y.1.1.1.2.1,y.1.1.1.2.2.1,()),y.1.1.2.1,()),()),y.2.1,())) (kLoop 1 [0,11,196,197] sA153x2_6 sT153x2_6 [] sAp1153x2_6 sTp1153x2_6 [] [] [] 4 (fun x y=>some (.inl (x,y))) (fun x y=>some (.inr (.inl (x,y)))) (fun x y=>some (.inr (.inr (x,y))))) =
  L153x2_6c (β:=Full sA153x2_6 sT153x2_6 sAp1153x2_6 sTp1153x2_6 [] []) F x.2.2.1 y.2.1 s.1 s.2 (fun s=>some (.inl (((),(),x.2.2.1,s.1,()),((((s.2,y.1.1.1.2.1,y.1.1.1.2.2.1,()),y.1.1.2.1,()),()),y.2.1,())))) (fun z=>some (.inr (.inl ((),((((z,y.1.1.1.2.1,y.1.1.1.2.2.1,()),y.1.1.2.1,()),()),()))))):=by kernel_rfl
theorem lo153x2_6 (F:Nat):LcOk Tryz.prog (E153x2 F) 1 (lc153x2_6 F) (cAt (bodyOf Tryz.f153) [1,1,1,1,1,1]):=
 mkL_ok (lp:=[]) (id:=4) (b:=cAt (bodyOf Tryz.f153) (0 :: 0 :: [1,1,1,1,1,1])) cok (cts153x2 F) mixed trivial (by kernel_rfl) (by kernel_rfl) (fun x y s=>((),(),x.2.2.1,s.1,())) (fun x y s=>((((s.2,y.1.1.1.2.1,y.1.1.1.2.2.1,()),y.1.1.2.1,()),()),y.2.1,())) (fun x y=>rfl) (fun x y=>rfl) (fun x y s kA kO=>L153x2_6c F x.2.2.1 y.2.1 s.1 s.2 kA kO) (fun x y s kA kO=>L153x2_6n F x.2.2.1 y.2.1 s.1 s.2 kA kO) (le153x2_6 F)
def T153x2c (F:Nat) (p0:Nat×Nat) (p1:Vector UInt32 8) (p2:Vector UInt8 64) {β:Type} (k:((Vector UInt32 8))->Option β):Option β:=
 (Option.bind (iter (fun s=>L153x2_4 F p2 s.1 s.2.1 s.2.2) F ((p0.1,p0.2),(0:Int),(Vector.replicate 64 (0:UInt32)))) fun z166=>(Option.bind (vat p1 0) fun x167=>(Option.bind (vat p1 1) fun x168=>(Option.bind (vat p1 2) fun x169=>(Option.bind (vat p1 3) fun x170=>(Option.bind (vat p1 4) fun x171=>(Option.bind (vat p1 5) fun x172=>(Option.bind (vat p1 6) fun x173=>(Option.bind (vat p1 7) fun x174=>(Option.bind (iter (fun s=>L153x2_5 F z166 s.1 s.2.1 s.2.2.1 s.2.2.2.1 s.2.2.2.2.1 s.2.2.2.2.2.1 s.2.2.2.2.2.2.1 s.2.2.2.2.2.2.2.1 s.2.2.2.2.2.2.2.2) F (x167,x168,x169,x170,x171,x172,x173,x174,(0:Int))) fun z208=>(Option.bind (iter (fun s=>L153x2_6 F (#v[z208.1,z208.2.1,z208.2.2.1,z208.2.2.2.1,z208.2.2.2.2.1,z208.2.2.2.2.2.1,z208.2.2.2.2.2.2.1,z208.2.2.2.2.2.2.2]:Vector UInt32 8) p1 s.1 s.2) F ((0:Int),p1)) fun z224=>(k z224))))))))))))
def T153x2 (F:Nat) (p0:Nat×Nat) (p1:Vector UInt32 8) (p2:Vector UInt8 64):Option ((Vector UInt32 8)):=T153x2c F p0 p1 p2 some
theorem T153x2n (F:Nat) (p0:Nat×Nat) (p1:Vector UInt32 8) (p2:Vector UInt8 64) {β:Type} (k:((Vector UInt32 8))->Option β):T153x2c F p0 p1 p2 k=(T153x2 F p0 p1 p2).bind k:=by
 simp only [T153x2,T153x2c,Option.bind_assoc,cond_bind,Option.bind_some,Option.bind_none,elimS_bind]
abbrev cA153x2:List Sh:=[(.pt 0 [0,0]),(.ap 0 [0,0,1])]
abbrev cB153x2:List Sh:=[]
abbrev cT153x2:List TSh:=[.blk 210 (.pr (.pr (.pr (.ar 8 .u32) (.pr (.ar 64 .u8) (.pr .i .un))) (.pr (.ar 64 .u8) .un)) .un)]
abbrev cU153x2:List TSh:=[.blk 210 (.pr (.pr (.pr (.ar 8 .u32) (.pr (.ar 64 .u8) (.pr .i .un))) (.pr (.ar 64 .u8) .un)) .un)]
def ct153x2 (F:Nat):Ct:=mkC 1 cA153x2 cT153x2 cB153x2 cU153x2 (fun x y=>T153x2 F x.2.1 y.1.1.1.1 y.1.1.1.2.1) (fun x y (z:(Vector UInt32 8))=>((),((((z,y.1.1.1.2.1,y.1.1.1.2.2.1,()),y.1.1.2.1,()),()),())))
theorem eq153x2 (F:Nat) (x:dens cA153x2) (y:tdens cT153x2):sev (E153x2 F) 1 [([1,0,1],lc153x2_4 F),([1,0,1,1,1,1],lc153x2_5 F),([1,1,1,1,1,1],lc153x2_6 F)] (bodyOf Tryz.f153) [] (mkSt (rng 2) cA153x2 cT153x2 x y) (kFn (E153x2 F) 1 Tryz.f153.results.toList cB153x2 cU153x2 fun p q=>some (p,q)) =
  T153x2c F x.2.1 y.1.1.1.1 y.1.1.1.2.1 (fun z=>some ((),((((z,y.1.1.1.2.1,y.1.1.1.2.2.1,()),y.1.1.2.1,()),()),()))):=by kernel_rfl
theorem ok153x2 (F:Nat):Sound Tryz.prog cfg 153 (ct153x2 F):=
 mkC_ok (E:=E153x2 F) (lp:=[([1,0,1],lc153x2_4 F),([1,0,1,1,1,1],lc153x2_5 F),([1,1,1,1,1,1],lc153x2_6 F)]) (code:=bodyOf Tryz.f153) Tryz.func153 rfl Tryz.ntmps153 rfl rfl cok (cts153x2 F) mixed ⟨lo153x2_4 F,⟨lo153x2_5 F,⟨lo153x2_6 F,trivial⟩⟩⟩ (by kernel_rfl) (fun x y k=>T153x2c F x.2.1 y.1.1.1.1 y.1.1.1.2.1 k) (fun x y k=>T153x2n F x.2.1 y.1.1.1.1 y.1.1.1.2.1 k) (eq153x2 F)
end Go.Proofs.YtpnhgldpeiogbaaGreatDoor
