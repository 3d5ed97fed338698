/- The functions, each with its twin, and plain facts about them. -/
import Derived.Test.YtooplgiihmdfgaaDoorAB
namespace Go.Proofs.YtooplgiihmdfgaaDoor
open Go.Tw
set_option linter.unusedSimpArgs false
set_option linter.unusedVariables false
abbrev Zk:Type:=Vector UInt8 16
abbrev Zj:Type:=List Int
abbrev Zh:Type:=Int×Int
abbrev Zg:Type:=Vector UInt8 8
abbrev Zf:Type:=Vector UInt8 64
abbrev Ze:Type:=Vector UInt32 8
abbrev Za:Type:=List UInt8
abbrev Zd:Type:=List Za
abbrev Zc:Type:=Za×Int×Int×Unit
abbrev Zi:Type:=List Zc
abbrev Zb:Type:=(Za×Int×Unit)×Za×Zd×Unit
theorem oA {α β γ:Type} (x:Option α) (f:α->Option β) (g:β->Option γ):(x.bind f).bind g=x.bind fun y=>(f y).bind g:=Option.bind_assoc x f g
theorem oC {α β:Type} (c:Bool) (x y:Option α) (k:α->Option β):(bif c then x else y).bind k=bif c then x.bind k else y.bind k:=cond_bind c x y k
theorem oS {α β:Type} (a:α) (f:α->Option β):(some a).bind f=f a:=rfl
theorem oN {α β:Type} (f:α->Option β):(none:Option α).bind f=none:=rfl
def E28 (F:Nat):Ev:=⟨cfg,14,ctOf [],fun _=>[],ctOf [],fun _=>none,fun _=>none⟩
theorem cts28 (F:Nat):CtsOk Tryd.prog (E28 F):=cts_of (l:=[]) (l':=[]) rfl rfl trivial trivial
def T28c (F:Nat) (p0:UInt8) {β:Type} (k:(Za×Int)->Option β):Option β:=
 (Option.bind (gmake (0:UInt8) (32:Int) (32:Int)) fun x3=>(Option.bind (inb x3.length (0:Int)) fun x4=>(k ((List.set x3 x4 p0),(0:Int)))))
def T28 (F:Nat) (p0:UInt8):=T28c F p0 some
def ct28 (F:Nat):Ct:=mkC 0 [.u8,.i] [] [(.pr .str (.pr .i (.pr .i .un)))] [] (fun x y=>T28 F x.1) (fun x y (z:Za×Int)=>(((z.1,z.2,x.2.1,()),()),()))
theorem ok28 (F:Nat):Sound Tryd.prog cfg 28 (ct28 F):=
 mkC_ok (E:=E28 F) (lp:=[]) (code:=bodyOf Tryd.f28) Tryd.func28 rfl Tryd.ntmps28 rfl rfl cok (cts28 F) mixed trivial (by kernel_rfl) (fun x y k=>T28c F x.1 k) (fun _ _ _=>by simp only [T28,T28c,oA,oC,oS,oN,elimS_bind]) (fun _ _=>by kernel_rfl)
def E30 (F:Nat):Ev:=⟨cfg,44,ctOf [],fun _=>[],ctOf [],fun _=>none,fun _=>none⟩
theorem cts30 (F:Nat):CtsOk Tryd.prog (E30 F):=cts_of (l:=[]) (l':=[]) rfl rfl trivial trivial
def L30_2c (F:Nat) (y8:List Zc) (y9:Int) (y10:Int) (y11:List (Za×Bool)) {β:Type} (kA:(Int×(List (Za×Bool)))->Option β) (kO:Unit->Option β) (kR:Bool->Option β):Option β:=
 (bif (decide (y10 < y9)) then (Option.bind (ix y8 y10) fun x13=>(bif ((x13.1.length:Int) != (32:Int)) then (kR false) else (bif (decide (x13.2.1 < (0:Int))) then (kR false) else (bif (decide (x13.2.2.1 < (0:Int))) then (kR false) else (bif (decide ((32768:Int) < x13.2.2.1)) then (kR false) else (bif (mgd .s y11 x13.1 false) then (kR false) else (kA ((w64 (y10 + (1:Int))),(mpt .s y11 x13.1 true))))))))) else (kO ()))
def L30_2 (F:Nat) (y8:List Zc) (y9:Int) (y10:Int) (y11:List (Za×Bool)):Option ((Int×(List (Za×Bool))) ⊕ ((Unit) ⊕ (Bool))):=L30_2c F y8 y9 y10 y11 (fun s=>some (.inl s)) (fun z=>some (.inr (.inl z))) (fun z=>some (.inr (.inr z)))
theorem L30_2n (F:Nat) (y8:List Zc) (y9:Int) (y10:Int) (y11:List (Za×Bool)) {β:Type} (kA:(Int×(List (Za×Bool)))->Option β) (kO:Unit->Option β) (kR:Bool->Option β):L30_2c F y8 y9 y10 y11 kA kO kR=(L30_2 F y8 y9 y10 y11).bind (elimS kA (elimS kO kR)):=by
 simp only [L30_2,L30_2c,oA,oC,oS,oN,elimS_l,elimS_r,elimS_bind]
def lc30_2 (F:Nat):Lc:=mkR [3,9,10,11] [(.mp 0),(.ro (.pr .s (.pr .i (.pr .i .un)))),.i,.i] [.mp .s .bo] [] [] [] [2] [.bo] [] F (fun x y (s:Int×(List (Za×Bool)))=>L30_2 F x.2.1 x.2.2.1 s.1 s.2) (fun x y=>(x.2.2.2.1,y.1)) (fun x y (z:Unit)=>((),())) (fun x y (z:Bool)=>((z,()),()))
theorem lo30_2 (F:Nat):LcOk Tryd.prog (E30 F) 0 (lc30_2 F) (cAt (bodyOf Tryd.f30) [1,0,1,1]):=
 mkR_ok (lp:=[]) (id:=0) (b:=cAt (bodyOf Tryd.f30) (0 :: 0 :: [1,0,1,1])) cok (cts30 F) mixed trivial (by kernel_rfl) (by kernel_rfl) (fun x y s=>((),x.2.1,x.2.2.1,s.1,())) (fun x y s=>(s.2,())) (fun x y=>rfl) (fun x y=>rfl) (fun x y s kA kO kR=>L30_2c F x.2.1 x.2.2.1 s.1 s.2 kA kO kR) (fun x y s kA kO kR=>L30_2n F x.2.1 x.2.2.1 s.1 s.2 kA kO kR) (fun _ _ _=>by kernel_rfl)
def T30c (F:Nat) (p0:List Zc) {β:Type} (k:Bool->Option β):Option β:=
 (Option.bind (iter (fun s=>L30_2 F p0 (p0.length:Int) s.1 s.2) F ((0:Int),([]:List (Za×Bool)))) fun z14=>elimS (fun z14=>(k true)) (fun z14=>(k z14)) z14)
def T30 (F:Nat) (p0:List Zc):=T30c F p0 some
def ct30 (F:Nat):Ct:=mkC 0 [(.ro (.pr .s (.pr .i (.pr .i .un))))] [] [.bo] [] (fun x y=>T30 F x.1) (fun x y (z:Bool)=>((z,()),()))
theorem ok30 (F:Nat):Sound Tryd.prog cfg 30 (ct30 F):=
 mkC_ok (E:=E30 F) (lp:=[([1,0,1,1],lc30_2 F)]) (code:=bodyOf Tryd.f30) Tryd.func30 rfl Tryd.ntmps30 rfl rfl cok (cts30 F) mixed ⟨lo30_2 F,trivial⟩ (by kernel_rfl) (fun x y k=>T30c F x.1 k) (fun _ _ _=>by simp only [T30,T30c,oA,oC,oS,oN,elimS_bind]) (fun _ _=>by kernel_rfl)
def E34 (F:Nat):Ev:=⟨cfg,11,ctOf [],fun _=>[],ctOf [],fun _=>none,fun _=>none⟩
theorem cts34 (F:Nat):CtsOk Tryd.prog (E34 F):=cts_of (l:=[]) (l':=[]) rfl rfl trivial trivial
def L34_2c (F:Nat) (y4:UInt64) (y5:Int) {β:Type} (kA:(UInt64×Int)->Option β) (kO:Int->Option β):Option β:=
 (bif (decide ((UInt64.ofNat 128)≤y4)) then (kA ((shr64 y4 ((UInt64.ofNat 7).toNat)),(w64 (y5 + (1:Int))))) else (kO y5))
def L34_2 (F:Nat) (y4:UInt64) (y5:Int):=L34_2c F y4 y5 (fun s=>some (Sum.inl s)) (fun z=>some (Sum.inr z))
def lc34_2 (F:Nat):Lc:=mkL [0,3] [.u64,.i] [] [3] [.i] [] F (fun x y (s:UInt64×Int)=>L34_2 F s.1 s.2) (fun x y=>(x.1,x.2.1)) (fun x y (z:Int)=>((z,()),()))
theorem lo34_2 (F:Nat):LcOk Tryd.prog (E34 F) 0 (lc34_2 F) (cAt (bodyOf Tryd.f34) [0,1,1]):=
 mkL_ok (lp:=[]) (id:=0) (b:=cAt (bodyOf Tryd.f34) (0 :: 0 :: [0,1,1])) cok (cts34 F) mixed trivial (by kernel_rfl) (by kernel_rfl) (fun x y s=>(s.1,s.2,())) (fun x y s=>()) (fun x y=>rfl) (fun x y=>rfl) (fun x y s kA kO=>L34_2c F s.1 s.2 kA kO) (fun _ _ _ _ _=>by simp only [L34_2,L34_2c,oA,oC,oS,oN,elimS_l,elimS_r,elimS_bind]) (fun _ _ _=>by kernel_rfl)
def T34c (F:Nat) (p0:UInt64) {β:Type} (k:Int->Option β):Option β:=
 (Option.bind (iter (fun s=>L34_2 F s.1 s.2) F (p0,(1:Int))) fun z6=>(k z6))
def T34 (F:Nat) (p0:UInt64):=T34c F p0 some
def ct34 (F:Nat):Ct:=mkC 0 [.u64] [] [.i] [] (fun x y=>T34 F x.1) (fun x y (z:Int)=>((z,()),()))
theorem ok34 (F:Nat):Sound Tryd.prog cfg 34 (ct34 F):=
 mkC_ok (E:=E34 F) (lp:=[([0,1,1],lc34_2 F)]) (code:=bodyOf Tryd.f34) Tryd.func34 rfl Tryd.ntmps34 rfl rfl cok (cts34 F) mixed ⟨lo34_2 F,trivial⟩ (by kernel_rfl) (fun x y k=>T34c F x.1 k) (fun _ _ _=>by simp only [T34,T34c,oA,oC,oS,oN,elimS_bind]) (fun _ _=>by kernel_rfl)
def E35 (F:Nat):Ev:=⟨cfg,4,ctOf [],fun _=>[],ctOf [],fun _=>none,fun _=>none⟩
theorem cts35 (F:Nat):CtsOk Tryd.prog (E35 F):=cts_of (l:=[]) (l':=[]) rfl rfl trivial trivial
def T35c (F:Nat) {β:Type} (k:Zh->Option β):Option β:=
 (k ((1:Int),(0:Int)))
def T35 (F:Nat):=T35c F some
def ct35 (F:Nat):Ct:=mkC 0 [] [] [(.fn 50 .un (.pr (.pt 0 []) (.pr (.pt 1 []) .un)))] [.blk 3 .i,.blk 3 .i] (fun x y=>T35 F) (fun x y (z:Int×Int)=>((((),((),(),())),()),(z.1,z.2,())))
theorem ok35 (F:Nat):Sound Tryd.prog cfg 35 (ct35 F):=
 mkC_ok (E:=E35 F) (lp:=[]) (code:=bodyOf Tryd.f35) Tryd.func35 rfl Tryd.ntmps35 rfl rfl cok (cts35 F) mixed trivial (by kernel_rfl) (fun x y k=>T35c F k) (fun _ _ _=>by simp only [T35,T35c,oA,oC,oS,oN,elimS_bind]) (fun _ _=>by kernel_rfl)
def E50 (F:Nat):Ev:=⟨cfg,16,ctOf [],fun _=>[],ctOf [],fun _=>none,fun _=>none⟩
theorem cts50 (F:Nat):CtsOk Tryd.prog (E50 F):=cts_of (l:=[]) (l':=[]) rfl rfl trivial trivial
def T50c (F:Nat) (p0:Int) (p1:Int) {β:Type} (k:(Int×Int×Int)->Option β):Option β:=
 (bif ((w64 (p1 + (1:Int))) == (4:Int)) then (k ((w64 (p0 * (w64 ((64:Int) + (w64 ((16:Int) * p1)))))),(w64 ((2:Int) * p0)),(0:Int))) else (k ((w64 (p0 * (w64 ((64:Int) + (w64 ((16:Int) * p1)))))),p0,(w64 (p1 + (1:Int))))))
def T50 (F:Nat) (p0:Int) (p1:Int):=T50c F p0 p1 some
def ct50 (F:Nat):Ct:=mkC 2 [(.pt 0 []),(.pt 1 [])] [.blk 3 .i,.blk 3 .i] [.i] [.blk 3 .i,.blk 3 .i] (fun x y=>T50 F y.1 y.2.1) (fun x y (z:Int×Int×Int)=>((z.1,()),(z.2.1,z.2.2,())))
theorem ok50 (F:Nat):Sound Tryd.prog cfg 50 (ct50 F):=
 mkC_ok (E:=E50 F) (lp:=[]) (code:=bodyOf Tryd.f50) Tryd.func50 rfl Tryd.ntmps50 rfl rfl cok (cts50 F) mixed trivial (by kernel_rfl) (fun x y k=>T50c F y.1 y.2.1 k) (fun _ _ _=>by simp only [T50,T50c,oA,oC,oS,oN,elimS_bind]) (fun _ _=>by kernel_rfl)
def E15 (F:Nat):Ev:=⟨cfg,26,ctOf [(34,ct34 F),(35,ct35 F),(50,ct50 F)],fun _=>[],ctOf [],fun _=>none,fun _=>none⟩
theorem cts15 (F:Nat):CtsOk Tryd.prog (E15 F):=cts_of (l:=[(34,ct34 F),(35,ct35 F),(50,ct50 F)]) (l':=[]) rfl rfl ⟨⟨ok34 F,_,Tryd.func34,rfl,rfl⟩,⟨⟨ok35 F,_,Tryd.func35,rfl,rfl⟩,⟨⟨ok50 F,_,Tryd.func50,rfl,rfl⟩,trivial⟩⟩⟩ trivial
def L15_2c (F:Nat) (y14:Int) (y15:Int) (y16:Int) (y17:Int) {β:Type} (kA:(Int×Int×Int)->Option β) (kO:Int->Option β):Option β:=
 (bif (decide (y15 < y14)) then (Option.bind (T50 F y16 y17) fun z19=>(kA (z19.1,z19.2.1,z19.2.2))) else (kO y15))
def L15_2 (F:Nat) (y14:Int) (y15:Int) (y16:Int) (y17:Int):=L15_2c F y14 y15 y16 y17 (fun s=>some (Sum.inl s)) (fun z=>some (Sum.inr z))
def lc15_2 (F:Nat):Lc:=mkL [4,5,6] [.i,(.fn 50 .un (.pr (.pt 0 []) (.pr (.pt 1 []) .un))),.i] [.blk 3 .i,.blk 3 .i] [6] [.i] [] F (fun x y (s:Int×Int×Int)=>L15_2 F x.1 s.1 s.2.1 s.2.2) (fun x y=>(x.2.2.1,y.1,y.2.1)) (fun x y (z:Int)=>((z,()),()))
theorem lo15_2 (F:Nat):LcOk Tryd.prog (E15 F) 0 (lc15_2 F) (cAt (bodyOf Tryd.f15) [0,1,1,1,1,1,1]):=
 mkL_ok (lp:=[]) (id:=0) (b:=cAt (bodyOf Tryd.f15) (0 :: 0 :: [0,1,1,1,1,1,1])) cok (cts15 F) mixed trivial (by kernel_rfl) (by kernel_rfl) (fun x y s=>(x.1,((),((),(),())),s.1,())) (fun x y s=>(s.2.1,s.2.2,())) (fun x y=>rfl) (fun x y=>rfl) (fun x y s kA kO=>L15_2c F x.1 s.1 s.2.1 s.2.2 kA kO) (fun _ _ _ _ _=>by simp only [L15_2,L15_2c,oA,oC,oS,oN,elimS_l,elimS_r,elimS_bind]) (fun _ _ _=>by kernel_rfl)
def T15c (F:Nat) (p0:Int) {β:Type} (k:Zh->Option β):Option β:=
 (bif (decide (p0 < (0:Int))) then (k ((0:Int),(1:Int))) else (bif (decide ((32768:Int) < p0)) then (k ((0:Int),(2:Int))) else (Option.bind (T34 F (UInt64.ofInt p0)) fun z11=>(Option.bind (T35 F) fun z12=>(Option.bind (T50 F z12.1 z12.2) fun z13=>(Option.bind (iter (fun s=>L15_2 F (w64 ((w64 (z11 + p0)) + (16:Int))) s.1 s.2.1 s.2.2) F (z13.1,z13.2.1,z13.2.2)) fun z20=>(k (z20,(0:Int)))))))))
def T15 (F:Nat) (p0:Int):=T15c F p0 some
def ct15 (F:Nat):Ct:=mkC 0 [.i] [] [.i,.i] [] (fun x y=>T15 F x.1) (fun x y (z:Int×Int)=>((z.1,z.2,()),()))
theorem ok15 (F:Nat):Sound Tryd.prog cfg 15 (ct15 F):=
 mkC_ok (E:=E15 F) (lp:=[([0,1,1,1,1,1,1],lc15_2 F)]) (code:=bodyOf Tryd.f15) Tryd.func15 rfl Tryd.ntmps15 rfl rfl cok (cts15 F) mixed ⟨lo15_2 F,trivial⟩ (by kernel_rfl) (fun x y k=>T15c F x.1 k) (fun _ _ _=>by simp only [T15,T15c,oA,oC,oS,oN,elimS_bind]) (fun _ _=>by kernel_rfl)
def ord9:Nat->List (Tag×Nat)
 | 14=>[(.p,0),(.p,1),(.p,2),(.p,3),(.p,4),(.c,5),(.r,6),(.w,7),(.b,8),(.p,9),(.b,10)]
 | _=>[]
def E9 (F:Nat):Ev:=⟨cfgR,75,ctOf [(30,ct30 F),(15,ct15 F)],ord9,ctOf [],fun _=>none,fun _=>none⟩
theorem cts9 (F:Nat):CtsOk Tryd.prog (E9 F):=cts_of (l:=[(30,ct30 F),(15,ct15 F)]) (l':=[]) rfl rfl ⟨⟨ok30 F,_,Tryd.func30,rfl,rfl⟩,⟨⟨ok15 F,_,Tryd.func15,rfl,rfl⟩,trivial⟩⟩ trivial
def L9_2c (F:Nat) (y90:Int) (y91:List Zc) (y92:Int) (y93:Int) (y94:List (Option Zi)×List Nat) (y95:List Zh) {β:Type} (kA:(Int×(List (Option Zi)×List Nat)×(List Zh))->Option β) (kO:((List (Option Zi)×List Nat))->Option β):Option β:=
 (bif (decide (y93 < y92)) then (Option.bind (ix y91 y93) fun x122=>(Option.bind (T15 F x122.2.2.1) fun z123=>(bif (!(mhs .i y95 z123.1)) then (Option.bind (gapp y94.2 (shO y94.1.length ([0]:List Nat))) fun x124=>(Option.bind (inb x124.length (y94.2.length:Int)) fun x125=>(Option.bind (outG x124 x125) fun x126=>(Option.bind (rxG (y94.1 ++ ([some []]:List (Option Zi))) x126) fun x127=>(Option.bind (rxG (y94.1 ++ ([some []]:List (Option Zi))) x126) fun x128=>(Option.bind (gapp x128 ([(x122.1,x122.2.1,x122.2.2.1,())]:List Zc)) fun x129=>(Option.bind (inb x124.length (y94.2.length:Int)) fun x130=>(kA ((w64 (y93 + (1:Int))),(((List.set (y94.1 ++ ([some []]:List (Option Zi))) x126 none) ++ [some x129]),(List.set x124 x130 (List.set (y94.1 ++ ([some []]:List (Option Zi))) x126 none).length)),(mpt .i y95 z123.1 (y94.2.length:Int))))))))))) else (Option.bind (inb y94.2.length (mgd .i y95 z123.1 (0:Int))) fun x131=>(Option.bind (outG y94.2 x131) fun x132=>(Option.bind (rxG y94.1 x132) fun x133=>(Option.bind (rxG y94.1 x132) fun x134=>(bif (decide (y90≤(x134.length:Int))) then (Option.bind (gapp y94.2 (shO y94.1.length ([0]:List Nat))) fun x135=>(Option.bind (inb x135.length (y94.2.length:Int)) fun x136=>(Option.bind (outG x135 x136) fun x137=>(Option.bind (rxG (y94.1 ++ ([some []]:List (Option Zi))) x137) fun x138=>(Option.bind (rxG (y94.1 ++ ([some []]:List (Option Zi))) x137) fun x139=>(Option.bind (gapp x139 ([(x122.1,x122.2.1,x122.2.2.1,())]:List Zc)) fun x140=>(Option.bind (inb x135.length (y94.2.length:Int)) fun x141=>(kA ((w64 (y93 + (1:Int))),(((List.set (y94.1 ++ ([some []]:List (Option Zi))) x137 none) ++ [some x140]),(List.set x135 x141 (List.set (y94.1 ++ ([some []]:List (Option Zi))) x137 none).length)),(mpt .i y95 z123.1 (y94.2.length:Int))))))))))) else (Option.bind (inb y94.2.length (mgd .i y95 z123.1 (0:Int))) fun x142=>(Option.bind (outG y94.2 x142) fun x143=>(Option.bind (rxG y94.1 x143) fun x144=>(Option.bind (rxG y94.1 x143) fun x145=>(Option.bind (gapp x145 ([(x122.1,x122.2.1,x122.2.2.1,())]:List Zc)) fun x146=>(Option.bind (inb y94.2.length (mgd .i y95 z123.1 (0:Int))) fun x147=>(kA ((w64 (y93 + (1:Int))),(((List.set y94.1 x143 none) ++ [some x146]),(List.set y94.2 x147 (List.set y94.1 x143 none).length)),y95)))))))))))))))) else (kO y94))
def L9_2 (F:Nat) (y90:Int) (y91:List Zc) (y92:Int) (y93:Int) (y94:List (Option Zi)×List Nat) (y95:List Zh):=L9_2c F y90 y91 y92 y93 y94 y95 (fun s=>some (Sum.inl s)) (fun z=>some (Sum.inr z))
def lc9_2 (F:Nat):Lc:=mkL [1,6,7,26,27,28] [.i,(.rw 0),(.mp 1),(.ro (.pr .s (.pr .i (.pr .i .un)))),.i,.i] [.rr 22 41 (.pr .s (.pr .i (.pr .i .un))),.mp .i .i] [6] [(.rw 0)] [.rr 22 41 (.pr .s (.pr .i (.pr .i .un)))] F (fun x y (s:Int×(List (Option Zi)×List Nat)×(List Zh))=>L9_2 F x.1 x.2.2.2.1 x.2.2.2.2.1 s.1 s.2.1 s.2.2) (fun x y=>(x.2.2.2.2.2.1,y.1,y.2.1)) (fun x y (z:(List (Option Zi)×List Nat))=>(((),()),(z,())))
theorem lo9_2 (F:Nat):LcOk Tryd.prog (E9 F) 0 (lc9_2 F) (cAt (bodyOf Tryd.f9) [1,0,1,1,1,1]):=
 mkL_ok (lp:=[]) (id:=0) (b:=cAt (bodyOf Tryd.f9) (0 :: 0 :: [1,0,1,1,1,1])) cokR (cts9 F) mixed trivial (by kernel_rfl) (by kernel_rfl) (fun x y s=>(x.1,(),(),x.2.2.2.1,x.2.2.2.2.1,s.1,())) (fun x y s=>(s.2.1,s.2.2,())) (fun x y=>rfl) (fun x y=>rfl) (fun x y s kA kO=>L9_2c F x.1 x.2.2.2.1 x.2.2.2.2.1 s.1 s.2.1 s.2.2 kA kO) (fun _ _ _ _ _=>by simp only [L9_2,L9_2c,oA,oC,oS,oN,elimS_l,elimS_r,elimS_bind]) (fun _ _ _=>by kernel_rfl)
def T9c (F:Nat) (p0:List Zc) (p1:Int) {β:Type} (k:((List Zi)×Int)->Option β):Option β:=
 (bif (decide (p1 < (1:Int))) then (k (([]:List Zi),(1:Int))) else (bif (decide ((8:Int) < p1)) then (k (([]:List Zi),(1:Int))) else (Option.bind (T30 F p0) fun z75=>(bif (!z75) then (k (([]:List Zi),(1:Int))) else (Option.bind (iter (fun s=>L9_2 F p1 p0 (p0.length:Int) s.1 s.2.1 s.2.2) F ((0:Int),(([]:List (Option Zi)),([]:List Nat)),([]:List Zh))) fun z148=>(Option.bind (mat z148.1 z148.2) fun x149=>(k (x149,(0:Int)))))))))
def T9 (F:Nat) (p0:List Zc) (p1:Int):=T9c F p0 p1 some
def ct9 (F:Nat):Ct:=mkC 0 [(.ro (.pr .s (.pr .i (.pr .i .un)))),.i] [] [(.ro (.sl (.pr .s (.pr .i (.pr .i .un))))),.i] [] (fun x y=>T9 F x.1 x.2.1) (fun x y (z:(List Zi)×Int)=>((z.1,z.2,()),()))
theorem ok9 (F:Nat):Sound Tryd.prog cfg 9 (ct9 F):=
 mkC_ok (E:=E9 F) (lp:=[([1,0,1,1,1,1],lc9_2 F)]) (code:=bodyOf Tryd.f9) Tryd.func9 rfl Tryd.ntmps9 rfl rfl cokR (cts9 F) mixed ⟨lo9_2 F,trivial⟩ (by kernel_rfl) (fun x y k=>T9c F x.1 x.2.1 k) (fun _ _ _=>by simp only [T9,T9c,oA,oC,oS,oN,elimS_bind]) (fun _ _=>by kernel_rfl)
def E31 (F:Nat):Ev:=⟨cfg,20,ctOf [],fun _=>[],ctOf [],fun _=>none,fun _=>none⟩
theorem cts31 (F:Nat):CtsOk Tryd.prog (E31 F):=cts_of (l:=[]) (l':=[]) rfl rfl trivial trivial
def T31c (F:Nat) (p0:Int) (p1:Int) {β:Type} (k:Bool->Option β):Option β:=
 (bif (decide ((1:Int)≤p0)) then (bif (decide (p0≤(8:Int))) then (bif (decide (p0≤p1)) then (k (decide (p1≤(16:Int)))) else (k false)) else (k false)) else (k false))
def T31 (F:Nat) (p0:Int) (p1:Int):=T31c F p0 p1 some
def ct31 (F:Nat):Ct:=mkC 0 [.i,.i] [] [.bo] [] (fun x y=>T31 F x.1 x.2.1) (fun x y (z:Bool)=>((z,()),()))
theorem ok31 (F:Nat):Sound Tryd.prog cfg 31 (ct31 F):=
 mkC_ok (E:=E31 F) (lp:=[]) (code:=bodyOf Tryd.f31) Tryd.func31 rfl Tryd.ntmps31 rfl rfl cok (cts31 F) mixed trivial (by kernel_rfl) (fun x y k=>T31c F x.1 x.2.1 k) (fun _ _ _=>by simp only [T31,T31c,oA,oC,oS,oN,elimS_bind]) (fun _ _=>by kernel_rfl)
def E43 (F:Nat):Ev:=⟨cfg,20,ctOf [(15,ct15 F)],fun _=>[],ctOf [],fun _=>none,fun _=>none⟩
theorem cts43 (F:Nat):CtsOk Tryd.prog (E43 F):=cts_of (l:=[(15,ct15 F)]) (l':=[]) rfl rfl ⟨⟨ok15 F,_,Tryd.func15,rfl,rfl⟩,trivial⟩ trivial
def T43c (F:Nat) (p2:Int) (p3:Int) {β:Type} (k:Bool->Option β):Option β:=
 (Option.bind (T15 F p2) fun z2=>(bif (z2.2 == (0:Int)) then (k (z2.1 == p3)) else (k false)))
def T43 (F:Nat) (p2:Int) (p3:Int):=T43c F p2 p3 some
def ct43 (F:Nat):Ct:=mkC 0 [(.pr .str (.pr .i (.pr .i .un))),.i] [] [.bo] [] (fun x y=>T43 F x.1.2.2.1 x.2.1) (fun x y (z:Bool)=>((z,()),()))
theorem ok43 (F:Nat):Sound Tryd.prog cfg 43 (ct43 F):=
 mkC_ok (E:=E43 F) (lp:=[]) (code:=bodyOf Tryd.f43) Tryd.func43 rfl Tryd.ntmps43 rfl rfl cok (cts43 F) mixed trivial (by kernel_rfl) (fun x y k=>T43c F x.1.2.2.1 x.2.1 k) (fun _ _ _=>by simp only [T43,T43c,oA,oC,oS,oN,elimS_bind]) (fun _ _=>by kernel_rfl)
def E79 (F:Nat):Ev:=⟨cfg,29,ctOf [],fun _=>[],ctOf [],fun _=>none,fun _=>none⟩
theorem cts79 (F:Nat):CtsOk Tryd.prog (E79 F):=cts_of (l:=[]) (l':=[]) rfl rfl trivial trivial
def L79_2c (F:Nat) (y10:List Za) (y11:List Za) (y12:Int) (y13:Int) {β:Type} (kA:Int->Option β) (kO:Unit->Option β) (kR:Bool->Option β):Option β:=
 (bif (decide (y13 < y12)) then (Option.bind (ix y11 y13) fun x16=>(bif ((x16.length:Int) == (0:Int)) then (kR false) else (bif (decide ((65536:Int) < (x16.length:Int))) then (kR false) else (Option.bind (ix y10 (0:Int)) fun x17=>(bif ((x16.length:Int) != (x17.length:Int)) then (kR false) else (kA (w64 (y13 + (1:Int))))))))) else (kO ()))
def L79_2 (F:Nat) (y10:List Za) (y11:List Za) (y12:Int) (y13:Int):Option ((Int) ⊕ ((Unit) ⊕ (Bool))):=L79_2c F y10 y11 y12 y13 (fun s=>some (.inl s)) (fun z=>some (.inr (.inl z))) (fun z=>some (.inr (.inr z)))
theorem L79_2n (F:Nat) (y10:List Za) (y11:List Za) (y12:Int) (y13:Int) {β:Type} (kA:Int->Option β) (kO:Unit->Option β) (kR:Bool->Option β):L79_2c F y10 y11 y12 y13 kA kO kR=(L79_2 F y10 y11 y12 y13).bind (elimS kA (elimS kO kR)):=by
 simp only [L79_2,L79_2c,oA,oC,oS,oN,elimS_l,elimS_r,elimS_bind]
def lc79_2 (F:Nat):Lc:=mkR [0,5,6,7] [(.ro (.sl .u8)),(.ro (.sl .u8)),.i,.i] [] [] [] [] [2] [.bo] [] F (fun x y (s:Int)=>L79_2 F x.1 x.2.1 x.2.2.1 s) (fun x y=>x.2.2.2.1) (fun x y (z:Unit)=>((),())) (fun x y (z:Bool)=>((z,()),()))
theorem lo79_2 (F:Nat):LcOk Tryd.prog (E79 F) 0 (lc79_2 F) (cAt (bodyOf Tryd.f79) [1,0,1]):=
 mkR_ok (lp:=[]) (id:=0) (b:=cAt (bodyOf Tryd.f79) (0 :: 0 :: [1,0,1])) cok (cts79 F) mixed trivial (by kernel_rfl) (by kernel_rfl) (fun x y s=>(x.1,x.2.1,x.2.2.1,s,())) (fun x y s=>()) (fun x y=>rfl) (fun x y=>rfl) (fun x y s kA kO kR=>L79_2c F x.1 x.2.1 x.2.2.1 s kA kO kR) (fun x y s kA kO kR=>L79_2n F x.1 x.2.1 x.2.2.1 s kA kO kR) (fun _ _ _=>by kernel_rfl)
def T79c (F:Nat) (p0:List Za) {β:Type} (k:Bool->Option β):Option β:=
 (Option.bind (iter (fun s=>L79_2 F p0 p0 (p0.length:Int) s) F (0:Int)) fun z18=>elimS (fun z18=>(k true)) (fun z18=>(k z18)) z18)
def T79 (F:Nat) (p0:List Za):=T79c F p0 some
def ct79 (F:Nat):Ct:=mkC 0 [(.ro (.sl .u8))] [] [.bo] [] (fun x y=>T79 F x.1) (fun x y (z:Bool)=>((z,()),()))
theorem ok79 (F:Nat):Sound Tryd.prog cfg 79 (ct79 F):=
 mkC_ok (E:=E79 F) (lp:=[([1,0,1],lc79_2 F)]) (code:=bodyOf Tryd.f79) Tryd.func79 rfl Tryd.ntmps79 rfl rfl cok (cts79 F) mixed ⟨lo79_2 F,trivial⟩ (by kernel_rfl) (fun x y k=>T79c F x.1 k) (fun _ _ _=>by simp only [T79,T79c,oA,oC,oS,oN,elimS_bind]) (fun _ _=>by kernel_rfl)
def ord61x1:Nat->List (Tag×Nat)
 | _=>[]
def al61x1:Nat->Option Nat
 | _=>none
def ms61x1:Nat->Option (List (Option Tag×Nat×List Nat))
 | _=>none
def E61x1 (F:Nat):Ev:=⟨cfg,8,ctOf [],ord61x1,ctOf [],al61x1,ms61x1⟩
theorem cts61x1 (F:Nat):CtsOk Tryd.prog (E61x1 F):=cts_of (l:=[]) (l':=[]) rfl rfl trivial trivial
def T61x1c (F:Nat) {β:Type} (k:((List (List UInt8)))->Option β):Option β:=
 (k ([]:List (List UInt8)))
def T61x1 (F:Nat):Option ((List (List UInt8))):=T61x1c F some
theorem T61x1n (F:Nat) {β:Type} (k:((List (List UInt8)))->Option β):T61x1c F k=(T61x1 F).bind k:=by
 simp only [T61x1,T61x1c,Option.bind_assoc,cond_bind,Option.bind_some,Option.bind_none,elimS_bind]
abbrev cA61x1:List Sh:=[.nn]
abbrev cB61x1:List Sh:=[(.rw 0)]
abbrev cT61x1:List TSh:=[]
abbrev cU61x1:List TSh:=[.row 55 (.sl .u8)]
def ct61x1 (F:Nat):Ct:=mkC 0 cA61x1 cT61x1 cB61x1 cU61x1 (fun x y=>T61x1 F) (fun x y (z:(List (List UInt8)))=>(((),()),(z,())))
theorem eq61x1 (F:Nat) (x:dens cA61x1) (y:tdens cT61x1):sev (E61x1 F) 0 [] (bodyOf Tryd.f61) [] (mkSt (rng 1) cA61x1 cT61x1 x y) (kFn (E61x1 F) 0 Tryd.f61.results.toList cB61x1 cU61x1 fun p q=>some (p,q)) =
  T61x1c F (fun z=>some (((),()),(z,()))):=by kernel_rfl
theorem ok61x1 (F:Nat):Sound Tryd.prog cfg 61 (ct61x1 F):=
 mkC_ok (E:=E61x1 F) (lp:=[]) (code:=bodyOf Tryd.f61) Tryd.func61 rfl Tryd.ntmps61 rfl rfl cok (cts61x1 F) mixed trivial (by kernel_rfl) (fun x y k=>T61x1c F k) (fun x y k=>T61x1n F k) (eq61x1 F)
def ord61x2:Nat->List (Tag×Nat)
 | _=>[]
def al61x2:Nat->Option Nat
 | _=>none
def ms61x2:Nat->Option (List (Option Tag×Nat×List Nat))
 | _=>none
def E61x2 (F:Nat):Ev:=⟨cfg,8,ctOf [],ord61x2,ctOf [],al61x2,ms61x2⟩
theorem cts61x2 (F:Nat):CtsOk Tryd.prog (E61x2 F):=cts_of (l:=[]) (l':=[]) rfl rfl trivial trivial
def T61x2c (F:Nat) (p0:List (List UInt8)) {β:Type} (k:((List (List UInt8)))->Option β):Option β:=
 (Option.bind (gapp ([]:List (List UInt8)) p0) fun x2=>(k x2))
def T61x2 (F:Nat) (p0:List (List UInt8)):Option ((List (List UInt8))):=T61x2c F p0 some
theorem T61x2n (F:Nat) (p0:List (List UInt8)) {β:Type} (k:((List (List UInt8)))->Option β):T61x2c F p0 k=(T61x2 F p0).bind k:=by
 simp only [T61x2,T61x2c,Option.bind_assoc,cond_bind,Option.bind_some,Option.bind_none,elimS_bind]
abbrev cA61x2:List Sh:=[(.rn (.sl .u8))]
abbrev cB61x2:List Sh:=[(.rw 0)]
abbrev cT61x2:List TSh:=[]
abbrev cU61x2:List TSh:=[.row 55 (.sl .u8)]
def ct61x2 (F:Nat):Ct:=mkC 0 cA61x2 cT61x2 cB61x2 cU61x2 (fun x y=>T61x2 F x.1) (fun x y (z:(List (List UInt8)))=>(((),()),(z,())))
theorem eq61x2 (F:Nat) (x:dens cA61x2) (y:tdens cT61x2):sev (E61x2 F) 0 [] (bodyOf Tryd.f61) [] (mkSt (rng 1) cA61x2 cT61x2 x y) (kFn (E61x2 F) 0 Tryd.f61.results.toList cB61x2 cU61x2 fun p q=>some (p,q)) =
  T61x2c F x.1 (fun z=>some (((),()),(z,()))):=by kernel_rfl
theorem ok61x2 (F:Nat):Sound Tryd.prog cfg 61 (ct61x2 F):=
 mkC_ok (E:=E61x2 F) (lp:=[]) (code:=bodyOf Tryd.f61) Tryd.func61 rfl Tryd.ntmps61 rfl rfl cok (cts61x2 F) mixed trivial (by kernel_rfl) (fun x y k=>T61x2c F x.1 k) (fun x y k=>T61x2n F x.1 k) (eq61x2 F)
def T61 (F:Nat) (p0:List Za):Option Zd:=T61x2 F p0
def ct61 (F:Nat):Ct:=mkC 0 [.ro (.sl .u8)] [] [.rw 0] [.row 55 (.sl .u8)] (fun x _=>T61 F x.1) (fun _ _ (z:List Za)=>(((),()),(z,())))
theorem ok61 (F:Nat):Sound Tryd.prog cfg 61 (ct61 F):=clone_ok (t:=(.sl .u8)) (T61x1 F) (fun p=>T61x2 F p) (ok61x1 F) (ok61x2 F) rfl
def E97 (F:Nat):Ev:=⟨cfg,11,ctOf [],fun _=>[],ctOf [],fun _=>none,fun _=>none⟩
theorem cts97 (F:Nat):CtsOk Tryd.prog (E97 F):=cts_of (l:=[]) (l':=[]) rfl rfl trivial trivial
def T97c (F:Nat) (p0:UInt8) {β:Type} (k:UInt8->Option β):Option β:=
 (bif ((p0 &&& (UInt8.ofNat 128)) != (UInt8.ofNat 0)) then (k ((shl8 p0 ((UInt64.ofNat 1).toNat)) ^^^ (UInt8.ofNat 29))) else (k (shl8 p0 ((UInt64.ofNat 1).toNat))))
def T97 (F:Nat) (p0:UInt8):=T97c F p0 some
def ct97 (F:Nat):Ct:=mkC 0 [.u8] [] [.u8] [] (fun x y=>T97 F x.1) (fun x y (z:UInt8)=>((z,()),()))
theorem ok97 (F:Nat):Sound Tryd.prog cfg 97 (ct97 F):=
 mkC_ok (E:=E97 F) (lp:=[]) (code:=bodyOf Tryd.f97) Tryd.func97 rfl Tryd.ntmps97 rfl rfl cok (cts97 F) mixed trivial (by kernel_rfl) (fun x y k=>T97c F x.1 k) (fun _ _ _=>by simp only [T97,T97c,oA,oC,oS,oN,elimS_bind]) (fun _ _=>by kernel_rfl)
def E93 (F:Nat):Ev:=⟨cfg,19,ctOf [(97,ct97 F)],fun _=>[],ctOf [],fun _=>none,fun _=>none⟩
theorem cts93 (F:Nat):CtsOk Tryd.prog (E93 F):=cts_of (l:=[(97,ct97 F)]) (l':=[]) rfl rfl ⟨⟨ok97 F,_,Tryd.func97,rfl,rfl⟩,trivial⟩ trivial
def L93_2c (F:Nat) (y9:UInt8) (y10:UInt8) (y11:UInt8) {β:Type} (kA:(UInt8×UInt8×UInt8)->Option β) (kO:UInt8->Option β):Option β:=
 (bif (y10 != (UInt8.ofNat 0)) then (bif ((y10 &&& (UInt8.ofNat 1)) == (UInt8.ofNat 1)) then (Option.bind (T97 F y9) fun z14=>(kA (z14,(shr8 y10 ((UInt64.ofNat 1).toNat)),(y11 ^^^ y9)))) else (Option.bind (T97 F y9) fun z15=>(kA (z15,(shr8 y10 ((UInt64.ofNat 1).toNat)),y11)))) else (kO y11))
def L93_2 (F:Nat) (y9:UInt8) (y10:UInt8) (y11:UInt8):=L93_2c F y9 y10 y11 (fun s=>some (Sum.inl s)) (fun z=>some (Sum.inr z))
def lc93_2 (F:Nat):Lc:=mkL [0,1,5] [.u8,.u8,.u8] [] [5] [.u8] [] F (fun x y (s:UInt8×UInt8×UInt8)=>L93_2 F s.1 s.2.1 s.2.2) (fun x y=>(x.1,x.2.1,x.2.2.1)) (fun x y (z:UInt8)=>((z,()),()))
theorem lo93_2 (F:Nat):LcOk Tryd.prog (E93 F) 0 (lc93_2 F) (cAt (bodyOf Tryd.f93) [0,1,1]):=
 mkL_ok (lp:=[]) (id:=0) (b:=cAt (bodyOf Tryd.f93) (0 :: 0 :: [0,1,1])) cok (cts93 F) mixed trivial (by kernel_rfl) (by kernel_rfl) (fun x y s=>(s.1,s.2.1,s.2.2,())) (fun x y s=>()) (fun x y=>rfl) (fun x y=>rfl) (fun x y s kA kO=>L93_2c F s.1 s.2.1 s.2.2 kA kO) (fun _ _ _ _ _=>by simp only [L93_2,L93_2c,oA,oC,oS,oN,elimS_l,elimS_r,elimS_bind]) (fun _ _ _=>by kernel_rfl)
def T93c (F:Nat) (p0:UInt8) (p1:UInt8) {β:Type} (k:UInt8->Option β):Option β:=
 (Option.bind (iter (fun s=>L93_2 F s.1 s.2.1 s.2.2) F (p0,p1,(UInt8.ofNat 0))) fun z16=>(k z16))
def T93 (F:Nat) (p0:UInt8) (p1:UInt8):=T93c F p0 p1 some
def ct93 (F:Nat):Ct:=mkC 0 [.u8,.u8] [] [.u8] [] (fun x y=>T93 F x.1 x.2.1) (fun x y (z:UInt8)=>((z,()),()))
theorem ok93 (F:Nat):Sound Tryd.prog cfg 93 (ct93 F):=
 mkC_ok (E:=E93 F) (lp:=[([0,1,1],lc93_2 F)]) (code:=bodyOf Tryd.f93) Tryd.func93 rfl Tryd.ntmps93 rfl rfl cok (cts93 F) mixed ⟨lo93_2 F,trivial⟩ (by kernel_rfl) (fun x y k=>T93c F x.1 x.2.1 k) (fun _ _ _=>by simp only [T93,T93c,oA,oC,oS,oN,elimS_bind]) (fun _ _=>by kernel_rfl)
def E88 (F:Nat):Ev:=⟨cfg,17,ctOf [(93,ct93 F)],fun _=>[],ctOf [],fun _=>none,fun _=>none⟩
theorem cts88 (F:Nat):CtsOk Tryd.prog (E88 F):=cts_of (l:=[(93,ct93 F)]) (l':=[]) rfl rfl ⟨⟨ok93 F,_,Tryd.func93,rfl,rfl⟩,trivial⟩ trivial
def L88_2c (F:Nat) (y9:UInt8) (y10:UInt8) (y11:Int) {β:Type} (kA:(UInt8×UInt8×Int)->Option β) (kO:UInt8->Option β):Option β:=
 (bif (decide (y11 < (7:Int))) then (Option.bind (T93 F y9 y9) fun z14=>(Option.bind (T93 F y10 z14) fun z15=>(kA (z14,z15,(w64 (y11 + (1:Int))))))) else (kO y10))
def L88_2 (F:Nat) (y9:UInt8) (y10:UInt8) (y11:Int):=L88_2c F y9 y10 y11 (fun s=>some (Sum.inl s)) (fun z=>some (Sum.inr z))
def lc88_2 (F:Nat):Lc:=mkL [0,4,7] [.u8,.u8,.i] [] [4] [.u8] [] F (fun x y (s:UInt8×UInt8×Int)=>L88_2 F s.1 s.2.1 s.2.2) (fun x y=>(x.1,x.2.1,x.2.2.1)) (fun x y (z:UInt8)=>((z,()),()))
theorem lo88_2 (F:Nat):LcOk Tryd.prog (E88 F) 0 (lc88_2 F) (cAt (bodyOf Tryd.f88) [1,0,1,1,1]):=
 mkL_ok (lp:=[]) (id:=0) (b:=cAt (bodyOf Tryd.f88) (0 :: 0 :: [1,0,1,1,1])) cok (cts88 F) mixed trivial (by kernel_rfl) (by kernel_rfl) (fun x y s=>(s.1,s.2.1,s.2.2,())) (fun x y s=>()) (fun x y=>rfl) (fun x y=>rfl) (fun x y s kA kO=>L88_2c F s.1 s.2.1 s.2.2 kA kO) (fun _ _ _ _ _=>by simp only [L88_2,L88_2c,oA,oC,oS,oN,elimS_l,elimS_r,elimS_bind]) (fun _ _ _=>by kernel_rfl)
def T88c (F:Nat) (p0:UInt8) {β:Type} (k:(UInt8×Int)->Option β):Option β:=
 (bif (p0 == (UInt8.ofNat 0)) then (k ((UInt8.ofNat 0),(1:Int))) else (Option.bind (iter (fun s=>L88_2 F s.1 s.2.1 s.2.2) F (p0,(UInt8.ofNat 1),(0:Int))) fun z16=>(k (z16,(0:Int)))))
def T88 (F:Nat) (p0:UInt8):=T88c F p0 some
def ct88 (F:Nat):Ct:=mkC 0 [.u8] [] [.u8,.i] [] (fun x y=>T88 F x.1) (fun x y (z:UInt8×Int)=>((z.1,z.2,()),()))
theorem ok88 (F:Nat):Sound Tryd.prog cfg 88 (ct88 F):=
 mkC_ok (E:=E88 F) (lp:=[([1,0,1,1,1],lc88_2 F)]) (code:=bodyOf Tryd.f88) Tryd.func88 rfl Tryd.ntmps88 rfl rfl cok (cts88 F) mixed ⟨lo88_2 F,trivial⟩ (by kernel_rfl) (fun x y k=>T88c F x.1 k) (fun _ _ _=>by simp only [T88,T88c,oA,oC,oS,oN,elimS_bind]) (fun _ _=>by kernel_rfl)
def ord75:Nat->List (Tag×Nat)
 | 9=>[(.p,0),(.p,1),(.p,2),(.p,3),(.p,4),(.p,5),(.p,6),(.p,11),(.p,12),(.p,13),(.w,7),(.p,8),(.p,9),(.p,10),(.p,14),(.w,15)]
 | _=>[]
def E75 (F:Nat):Ev:=⟨cfg,47,ctOf [(88,ct88 F)],ord75,ctOf [],fun _=>none,fun _=>none⟩
theorem cts75 (F:Nat):CtsOk Tryd.prog (E75 F):=cts_of (l:=[(88,ct88 F)]) (l':=[]) rfl rfl ⟨⟨ok88 F,_,Tryd.func88,rfl,rfl⟩,trivial⟩ trivial
def L75_4c (F:Nat) (y34:Int) (y35:Int) (y37:Int) (y38:Int) (y40:Vector Zg 16) {β:Type} (kA:(Int×(Vector Zg 16))->Option β) (kO:((Vector Zg 16))->Option β):Option β:=
 (bif (decide (y38 < y37)) then (bif (decide (y34≤y35)) then (Option.bind (inb 16 y35) fun x48=>(Option.bind (T88 F (UInt8.ofInt (ixor y35 y38))) fun z49=>(Option.bind (inb 8 y38) fun x50=>(Option.bind (vat y40 x48) fun x51=>(kA ((w64 (y38 + (1:Int))),(Vector.setIfInBounds y40 x48 (Vector.setIfInBounds x51 x50 z49.1)))))))) else (bif (y35 == y38) then (Option.bind (inb 16 y35) fun x52=>(Option.bind (inb 8 y38) fun x53=>(Option.bind (vat y40 x52) fun x54=>(kA ((w64 (y38 + (1:Int))),(Vector.setIfInBounds y40 x52 (Vector.setIfInBounds x54 x53 (UInt8.ofNat 1)))))))) else (kA ((w64 (y38 + (1:Int))),y40)))) else (kO y40))
def L75_4 (F:Nat) (y34:Int) (y35:Int) (y37:Int) (y38:Int) (y40:Vector Zg 16):=L75_4c F y34 y35 y37 y38 y40 (fun s=>some (Sum.inl s)) (fun z=>some (Sum.inr z))
def lc75_4 (F:Nat):Lc:=mkL [0,3,4,9,12,13] [.i,(.pt 0 []),.i,.i,.i,.i] [.blk 142 (.pr .i (.pr (.ar 16 (.ar 8 .u8)) .un))] [0,3,9] [.i,(.pt 0 []),.i] [.blk 142 (.pr .i (.pr (.ar 16 (.ar 8 .u8)) .un))] F (fun x y (s:Int×(Vector Zg 16))=>L75_4 F x.1 x.2.2.1 x.2.2.2.2.1 s.1 s.2) (fun x y=>(x.2.2.2.2.2.1,y.1.2.1)) (fun x y (z:(Vector Zg 16))=>((x.1,(),x.2.2.2.1,()),((y.1.1,z,()),())))
theorem lo75_4 (F:Nat):LcOk Tryd.prog (E75 F) 0 (lc75_4 F) (cAt (bodyOf Tryd.f75) [1,1,0,0,1,1,0,0,1,0,1,1]):=
 mkL_ok (lp:=[]) (id:=2) (b:=cAt (bodyOf Tryd.f75) (0 :: 0 :: [1,1,0,0,1,1,0,0,1,0,1,1])) cok (cts75 F) mixed trivial (by kernel_rfl) (by kernel_rfl) (fun x y s=>(x.1,(),x.2.2.1,x.2.2.2.1,x.2.2.2.2.1,s.1,())) (fun x y s=>((y.1.1,s.2,()),())) (fun x y=>rfl) (fun x y=>rfl) (fun x y s kA kO=>L75_4c F x.1 x.2.2.1 x.2.2.2.2.1 s.1 s.2 kA kO) (fun _ _ _ _ _=>by simp only [L75_4,L75_4c,oA,oC,oS,oN,elimS_l,elimS_r,elimS_bind]) (fun _ _ _=>by kernel_rfl)
def L75_3c (F:Nat) (y29:Int) (y30:Int) (y32:Vector Zg 16) {β:Type} (kA:(Int×(Vector Zg 16))->Option β) (kO:((Vector Zg 16))->Option β):Option β:=
 (bif (decide (y30 < (16:Int))) then (Option.bind (iter (fun s=>L75_4 F y29 y30 y29 s.1 s.2) F ((0:Int),y32)) fun z55=>(kA ((w64 (y30 + (1:Int))),z55))) else (kO y32))
def L75_3 (F:Nat) (y29:Int) (y30:Int) (y32:Vector Zg 16):=L75_3c F y29 y30 y32 (fun s=>some (Sum.inl s)) (fun z=>some (Sum.inr z))
def lc75_3 (F:Nat):Lc:=mkL [0,3,9] [.i,(.pt 0 []),.i] [.blk 142 (.pr .i (.pr (.ar 16 (.ar 8 .u8)) .un))] [3] [(.pt 0 [])] [.blk 142 (.pr .i (.pr (.ar 16 (.ar 8 .u8)) .un))] F (fun x y (s:Int×(Vector Zg 16))=>L75_3 F x.1 s.1 s.2) (fun x y=>(x.2.2.1,y.1.2.1)) (fun x y (z:(Vector Zg 16))=>(((),()),((y.1.1,z,()),())))
theorem lo75_3 (F:Nat):LcOk Tryd.prog (E75 F) 0 (lc75_3 F) (cAt (bodyOf Tryd.f75) [1,0,1,1]):=
 mkL_ok (lp:=[([1,1,0,0,1,1,0,0,1,0,1,1],lc75_4 F)]) (id:=0) (b:=cAt (bodyOf Tryd.f75) (0 :: 0 :: [1,0,1,1])) cok (cts75 F) mixed ⟨lo75_4 F,trivial⟩ (by kernel_rfl) (by kernel_rfl) (fun x y s=>(x.1,(),s.1,())) (fun x y s=>((y.1.1,s.2,()),())) (fun x y=>rfl) (fun x y=>rfl) (fun x y s kA kO=>L75_3c F x.1 s.1 s.2 kA kO) (fun _ _ _ _ _=>by simp only [L75_3,L75_3c,oA,oC,oS,oN,elimS_l,elimS_r,elimS_bind]) (fun _ _ _=>by kernel_rfl)
def T75c (F:Nat) (p0:Int) {β:Type} (k:((Vector Zg 16))->Option β):Option β:=
 (Option.bind (iter (fun s=>L75_3 F p0 s.1 s.2) F ((0:Int),(Vector.replicate 16 (Vector.replicate 8 (0:UInt8))))) fun z56=>(k z56))
def T75 (F:Nat) (p0:Int):=T75c F p0 some
def ct75 (F:Nat):Ct:=mkC 0 [.i] [] [(.pt 0 [])] [.blk 142 (.pr .i (.pr (.ar 16 (.ar 8 .u8)) .un))] (fun x y=>T75 F x.1) (fun x y (z:(Vector Zg 16))=>(((),()),((x.1,z,()),())))
theorem ok75 (F:Nat):Sound Tryd.prog cfg 75 (ct75 F):=
 mkC_ok (E:=E75 F) (lp:=[([1,0,1,1],lc75_3 F)]) (code:=bodyOf Tryd.f75) Tryd.func75 rfl Tryd.ntmps75 rfl rfl cok (cts75 F) mixed ⟨lo75_3 F,trivial⟩ (by kernel_rfl) (fun x y k=>T75c F x.1 k) (fun _ _ _=>by simp only [T75,T75c,oA,oC,oS,oN,elimS_bind]) (fun _ _=>by kernel_rfl)
def ord80:Nat->List (Tag×Nat)
 | 5=>[(.p,0),(.p,1),(.p,3),(.p,4),(.p,5),(.p,6),(.p,7),(.p,8),(.p,9),(.p,10),(.c,11),(.p,12),(.w,2),(.w,13),(.p,14),(.b,15)]
 | _=>[]
def E80 (F:Nat):Ev:=⟨cfg,35,ctOf [],ord80,ctOf [],fun _=>none,fun _=>none⟩
theorem cts80 (F:Nat):CtsOk Tryd.prog (E80 F):=cts_of (l:=[]) (l':=[]) rfl rfl trivial trivial
def L80_2c (F:Nat) (y22:List Int) (y23:Int) (y25:Int) (y26:Vector Zg 16) (y24:Int) (y27:List Za) {β:Type} (kA:(Int×Zd)->Option β) (kO:(Zd)->Option β):Option β:=
 (bif (decide (y24 < y23)) then (Option.bind (ix y22 y24) fun x34=>(Option.bind (inb 16 x34) fun x35=>(Option.bind (gslb 8 (0:Int) y25) fun x36=>(Option.bind (vat y26 x35) fun x37=>(Option.bind (gapp ([]:List UInt8) ((x37.toList.drop x36.1).take (x36.2 - x36.1))) fun x38=>(Option.bind (inb y27.length y24) fun x39=>(kA ((w64 (y24 + (1:Int))),(List.set y27 x39 x38))))))))) else (kO y27))
def L80_2 (F:Nat) (y22:List Int) (y23:Int) (y25:Int) (y26:Vector Zg 16) (y24:Int) (y27:List Za):=L80_2c F y22 y23 y25 y26 y24 y27 (fun s=>some (Sum.inl s)) (fun z=>some (Sum.inr z))
def lc80_2 (F:Nat):Lc:=mkL [0,5,11,12,13] [(.pt 0 []),(.rw 1),(.ro .i),.i,.i] [.blk 142 (.pr .i (.pr (.ar 16 (.ar 8 .u8)) .un)),.row 55 (.sl .u8)] [5] [(.rw 1)] [.blk 142 (.pr .i (.pr (.ar 16 (.ar 8 .u8)) .un)),.row 55 (.sl .u8)] F (fun x y (s:Int×Zd)=>L80_2 F x.2.2.1 x.2.2.2.1 y.1.1 y.1.2.1 s.1 s.2) (fun x y=>(x.2.2.2.2.1,y.2.1)) (fun x y (z:Zd)=>(((),()),((y.1.1,y.1.2.1,()),z,())))
theorem lo80_2 (F:Nat):LcOk Tryd.prog (E80 F) 1 (lc80_2 F) (cAt (bodyOf Tryd.f80) [1,0,1,1]):=
 mkL_ok (lp:=[]) (id:=0) (b:=cAt (bodyOf Tryd.f80) (0 :: 0 :: [1,0,1,1])) cok (cts80 F) mixed trivial (by kernel_rfl) (by kernel_rfl) (fun x y s=>((),(),x.2.2.1,x.2.2.2.1,s.1,())) (fun x y s=>((y.1.1,y.1.2.1,()),s.2,())) (fun x y=>rfl) (fun x y=>rfl) (fun x y s kA kO=>L80_2c F x.2.2.1 x.2.2.2.1 y.1.1 y.1.2.1 s.1 s.2 kA kO) (fun _ _ _ _ _=>by simp only [L80_2,L80_2c,oA,oC,oS,oN,elimS_l,elimS_r,elimS_bind]) (fun _ _ _=>by kernel_rfl)
def T80c (F:Nat) (p0:List Int) (p1:Int) (p2:Vector Zg 16) {β:Type} (k:(Zd)->Option β):Option β:=
 (Option.bind (gmake ([]:List UInt8) (p0.length:Int) (p0.length:Int)) fun x21=>(Option.bind (iter (fun s=>L80_2 F p0 (p0.length:Int) p1 p2 s.1 s.2) F ((0:Int),x21)) fun z40=>(k z40)))
def T80 (F:Nat) (p0:List Int) (p1:Int) (p2:Vector Zg 16):=T80c F p0 p1 p2 some
def ct80 (F:Nat):Ct:=mkC 1 [(.pt 0 []),(.ro .i)] [.blk 142 (.pr .i (.pr (.ar 16 (.ar 8 .u8)) .un))] [(.rw 1)] [.blk 142 (.pr .i (.pr (.ar 16 (.ar 8 .u8)) .un)),.row 55 (.sl .u8)] (fun x y=>T80 F x.2.1 y.1.1 y.1.2.1) (fun x y (z:Zd)=>(((),()),((y.1.1,y.1.2.1,()),z,())))
theorem ok80 (F:Nat):Sound Tryd.prog cfg 80 (ct80 F):=
 mkC_ok (E:=E80 F) (lp:=[([1,0,1,1],lc80_2 F)]) (code:=bodyOf Tryd.f80) Tryd.func80 rfl Tryd.ntmps80 rfl rfl cok (cts80 F) mixed ⟨lo80_2 F,trivial⟩ (by kernel_rfl) (fun x y k=>T80c F x.2.1 y.1.1 y.1.2.1 k) (fun _ _ _=>by simp only [T80,T80c,oA,oC,oS,oN,elimS_bind]) (fun _ _=>by kernel_rfl)
def E86 (F:Nat):Ev:=⟨cfg,10,ctOf [],fun _=>[],ctOf [],fun _=>none,fun _=>none⟩
theorem cts86 (F:Nat):CtsOk Tryd.prog (E86 F):=cts_of (l:=[]) (l':=[]) rfl rfl trivial trivial
def T86c (F:Nat) (p0:List Za) {β:Type} (k:Int->Option β):Option β:=
 (bif ((p0.length:Int) == (0:Int)) then (k (0:Int)) else (Option.bind (ix p0 (0:Int)) fun x2=>(k (x2.length:Int))))
def T86 (F:Nat) (p0:List Za):=T86c F p0 some
def ct86 (F:Nat):Ct:=mkC 0 [(.ro (.sl .u8))] [] [.i] [] (fun x y=>T86 F x.1) (fun x y (z:Int)=>((z,()),()))
theorem ok86 (F:Nat):Sound Tryd.prog cfg 86 (ct86 F):=
 mkC_ok (E:=E86 F) (lp:=[]) (code:=bodyOf Tryd.f86) Tryd.func86 rfl Tryd.ntmps86 rfl rfl cok (cts86 F) mixed trivial (by kernel_rfl) (fun x y k=>T86c F x.1 k) (fun _ _ _=>by simp only [T86,T86c,oA,oC,oS,oN,elimS_bind]) (fun _ _=>by kernel_rfl)
def E85 (F:Nat):Ev:=⟨cfg,27,ctOf [(86,ct86 F)],fun _=>[],ctOf [],fun _=>none,fun _=>none⟩
theorem cts85 (F:Nat):CtsOk Tryd.prog (E85 F):=cts_of (l:=[(86,ct86 F)]) (l':=[]) rfl rfl ⟨⟨ok86 F,_,Tryd.func86,rfl,rfl⟩,trivial⟩ trivial
def L85_2c (F:Nat) (y12:List Za) (y13:List Za) (y14:Int) (y15:Int) {β:Type} (kA:Int->Option β) (kO:Unit->Option β) (kR:Bool->Option β):Option β:=
 (bif (decide (y15 < y14)) then (Option.bind (ix y13 y15) fun x18=>(Option.bind (ix y12 (0:Int)) fun x19=>(bif ((x18.length:Int) != (x19.length:Int)) then (kR false) else (kA (w64 (y15 + (1:Int))))))) else (kO ()))
def L85_2 (F:Nat) (y12:List Za) (y13:List Za) (y14:Int) (y15:Int):Option ((Int) ⊕ ((Unit) ⊕ (Bool))):=L85_2c F y12 y13 y14 y15 (fun s=>some (.inl s)) (fun z=>some (.inr (.inl z))) (fun z=>some (.inr (.inr z)))
theorem L85_2n (F:Nat) (y12:List Za) (y13:List Za) (y14:Int) (y15:Int) {β:Type} (kA:Int->Option β) (kO:Unit->Option β) (kR:Bool->Option β):L85_2c F y12 y13 y14 y15 kA kO kR=(L85_2 F y12 y13 y14 y15).bind (elimS kA (elimS kO kR)):=by
 simp only [L85_2,L85_2c,oA,oC,oS,oN,elimS_l,elimS_r,elimS_bind]
def lc85_2 (F:Nat):Lc:=mkR [0,13,14,15] [(.ro (.sl .u8)),(.ro (.sl .u8)),.i,.i] [] [] [] [] [2] [.bo] [] F (fun x y (s:Int)=>L85_2 F x.1 x.2.1 x.2.2.1 s) (fun x y=>x.2.2.2.1) (fun x y (z:Unit)=>((),())) (fun x y (z:Bool)=>((z,()),()))
theorem lo85_2 (F:Nat):LcOk Tryd.prog (E85 F) 0 (lc85_2 F) (cAt (bodyOf Tryd.f85) [1,0,1,1]):=
 mkR_ok (lp:=[]) (id:=0) (b:=cAt (bodyOf Tryd.f85) (0 :: 0 :: [1,0,1,1])) cok (cts85 F) mixed trivial (by kernel_rfl) (by kernel_rfl) (fun x y s=>(x.1,x.2.1,x.2.2.1,s,())) (fun x y s=>()) (fun x y=>rfl) (fun x y=>rfl) (fun x y s kA kO kR=>L85_2c F x.1 x.2.1 x.2.2.1 s kA kO kR) (fun x y s kA kO kR=>L85_2n F x.1 x.2.1 x.2.2.1 s kA kO kR) (fun _ _ _=>by kernel_rfl)
def T85c (F:Nat) (p0:List Za) {β:Type} (k:Bool->Option β):Option β:=
 (bif (decide ((64:Int) < (p0.length:Int))) then (k false) else (Option.bind (T86 F p0) fun z11=>(bif (decide ((64:Int) < z11)) then (k false) else (Option.bind (iter (fun s=>L85_2 F p0 p0 (p0.length:Int) s) F (0:Int)) fun z20=>elimS (fun z20=>(k true)) (fun z20=>(k z20)) z20))))
def T85 (F:Nat) (p0:List Za):=T85c F p0 some
def ct85 (F:Nat):Ct:=mkC 0 [(.ro (.sl .u8))] [] [.bo] [] (fun x y=>T85 F x.1) (fun x y (z:Bool)=>((z,()),()))
theorem ok85 (F:Nat):Sound Tryd.prog cfg 85 (ct85 F):=
 mkC_ok (E:=E85 F) (lp:=[([1,0,1,1],lc85_2 F)]) (code:=bodyOf Tryd.f85) Tryd.func85 rfl Tryd.ntmps85 rfl rfl cok (cts85 F) mixed ⟨lo85_2 F,trivial⟩ (by kernel_rfl) (fun x y k=>T85c F x.1 k) (fun _ _ _=>by simp only [T85,T85c,oA,oC,oS,oN,elimS_bind]) (fun _ _=>by kernel_rfl)
def E91 (F:Nat):Ev:=⟨cfgR,21,ctOf [],fun _=>[],ctOf [],fun _=>none,fun _=>none⟩
theorem cts91 (F:Nat):CtsOk Tryd.prog (E91 F):=cts_of (l:=[]) (l':=[]) rfl rfl trivial trivial
def L91_2c (F:Nat) (y12:Int) (y13:Int) (y14:Int) (y15:List (Option Za)×List Nat) {β:Type} (kA:(Int×(List (Option Za)×List Nat))->Option β) (kO:((List (Option Za)×List Nat))->Option β):Option β:=
 (bif (decide (y14 < y13)) then (Option.bind (gmake (0:UInt8) y12 y12) fun x18=>(Option.bind (inb y15.2.length y14) fun x19=>(kA ((w64 (y14 + (1:Int))),((y15.1 ++ [some x18]),(List.set y15.2 x19 y15.1.length)))))) else (kO y15))
def L91_2 (F:Nat) (y12:Int) (y13:Int) (y14:Int) (y15:List (Option Za)×List Nat):=L91_2c F y12 y13 y14 y15 (fun s=>some (Sum.inl s)) (fun z=>some (Sum.inr z))
def lc91_2 (F:Nat):Lc:=mkL [1,5,10,11] [.i,(.rw 0),.i,.i] [.rr 55 5 .u8] [5] [(.rw 0)] [.rr 55 5 .u8] F (fun x y (s:Int×(List (Option Za)×List Nat))=>L91_2 F x.1 x.2.2.1 s.1 s.2) (fun x y=>(x.2.2.2.1,y.1)) (fun x y (z:(List (Option Za)×List Nat))=>(((),()),(z,())))
theorem lo91_2 (F:Nat):LcOk Tryd.prog (E91 F) 0 (lc91_2 F) (cAt (bodyOf Tryd.f91) [1,0,1,1]):=
 mkL_ok (lp:=[]) (id:=0) (b:=cAt (bodyOf Tryd.f91) (0 :: 0 :: [1,0,1,1])) cokR (cts91 F) mixed trivial (by kernel_rfl) (by kernel_rfl) (fun x y s=>(x.1,(),x.2.2.1,s.1,())) (fun x y s=>(s.2,())) (fun x y=>rfl) (fun x y=>rfl) (fun x y s kA kO=>L91_2c F x.1 x.2.2.1 s.1 s.2 kA kO) (fun _ _ _ _ _=>by simp only [L91_2,L91_2c,oA,oC,oS,oN,elimS_l,elimS_r,elimS_bind]) (fun _ _ _=>by kernel_rfl)
def T91c (F:Nat) (p0:Int) (p1:Int) {β:Type} (k:((List (Option Za)×List Nat))->Option β):Option β:=
 (Option.bind (gmake () p0 p0) fun x11=>(Option.bind (iter (fun s=>L91_2 F p1 ((List.range x11.length).length:Int) s.1 s.2) F ((0:Int),((List.replicate x11.length (some ([]:List UInt8))),(List.range x11.length)))) fun z20=>(k z20)))
def T91 (F:Nat) (p0:Int) (p1:Int):=T91c F p0 p1 some
def ct91 (F:Nat):Ct:=mkC 0 [.i,.i] [] [(.rw 0)] [.rr 55 5 .u8] (fun x y=>T91 F x.1 x.2.1) (fun x y (z:(List (Option Za)×List Nat))=>(((),()),(z,())))
theorem ok91 (F:Nat):Sound Tryd.prog cfg 91 (ct91 F):=
 mkC_ok (E:=E91 F) (lp:=[([1,0,1,1],lc91_2 F)]) (code:=bodyOf Tryd.f91) Tryd.func91 rfl Tryd.ntmps91 rfl rfl cokR (cts91 F) mixed ⟨lo91_2 F,trivial⟩ (by kernel_rfl) (fun x y k=>T91c F x.1 x.2.1 k) (fun _ _ _=>by simp only [T91,T91c,oA,oC,oS,oN,elimS_bind]) (fun _ _=>by kernel_rfl)
def E100 (F:Nat):Ev:=⟨cfg,24,ctOf [(93,ct93 F)],fun _=>[],ctOf [],fun _=>none,fun _=>none⟩
theorem cts100 (F:Nat):CtsOk Tryd.prog (E100 F):=cts_of (l:=[(93,ct93 F)]) (l':=[]) rfl rfl ⟨⟨ok93 F,_,Tryd.func93,rfl,rfl⟩,trivial⟩ trivial
def L100_2c (F:Nat) (y14:UInt8) (y15:Int) (y16:Vector UInt8 16) (y17:Vector UInt8 16) {β:Type} (kA:(Int×Zk×Zk)->Option β) (kO:(Zk×Zk)->Option β):Option β:=
 (bif (decide (y15 < (16:Int))) then (Option.bind (T93 F y14 (UInt8.ofInt y15)) fun z22=>(Option.bind (inb 16 y15) fun x23=>(Option.bind (T93 F y14 (UInt8.ofInt (w64 (y15 * 2 ^ min ((UInt64.ofNat 4).toNat) 64)))) fun z24=>(Option.bind (inb 16 y15) fun x25=>(kA ((w64 (y15 + (1:Int))),(Vector.setIfInBounds y16 x23 z22),(Vector.setIfInBounds y17 x25 z24))))))) else (kO (y16,y17)))
def L100_2 (F:Nat) (y14:UInt8) (y15:Int) (y16:Vector UInt8 16) (y17:Vector UInt8 16):=L100_2c F y14 y15 y16 y17 (fun s=>some (Sum.inl s)) (fun z=>some (Sum.inr z))
def lc100_2 (F:Nat):Lc:=mkL [0,3,4,6] [.u8,(.pt 0 []),(.pt 1 []),.i] [.blk 163 (.ar 16 .u8),.blk 163 (.ar 16 .u8)] [3,4] [(.pt 0 []),(.pt 1 [])] [.blk 163 (.ar 16 .u8),.blk 163 (.ar 16 .u8)] F (fun x y (s:Int×Zk×Zk)=>L100_2 F x.1 s.1 s.2.1 s.2.2) (fun x y=>(x.2.2.2.1,y.1,y.2.1)) (fun x y (z:Zk×Zk)=>(((),(),()),(z.1,z.2,())))
theorem lo100_2 (F:Nat):LcOk Tryd.prog (E100 F) 0 (lc100_2 F) (cAt (bodyOf Tryd.f100) [1,0,1,1]):=
 mkL_ok (lp:=[]) (id:=0) (b:=cAt (bodyOf Tryd.f100) (0 :: 0 :: [1,0,1,1])) cok (cts100 F) mixed trivial (by kernel_rfl) (by kernel_rfl) (fun x y s=>(x.1,(),(),s.1,())) (fun x y s=>(s.2.1,s.2.2,())) (fun x y=>rfl) (fun x y=>rfl) (fun x y s kA kO=>L100_2c F x.1 s.1 s.2.1 s.2.2 kA kO) (fun _ _ _ _ _=>by simp only [L100_2,L100_2c,oA,oC,oS,oN,elimS_l,elimS_r,elimS_bind]) (fun _ _ _=>by kernel_rfl)
def T100c (F:Nat) (p0:UInt8) {β:Type} (k:(Zk×Zk)->Option β):Option β:=
 (Option.bind (iter (fun s=>L100_2 F p0 s.1 s.2.1 s.2.2) F ((0:Int),(Vector.replicate 16 (0:UInt8)),(Vector.replicate 16 (0:UInt8)))) fun z26=>(k (z26.1,z26.2)))
def T100 (F:Nat) (p0:UInt8):=T100c F p0 some
def ct100 (F:Nat):Ct:=mkC 0 [.u8] [] [(.fn 103 .un (.pr (.pt 0 []) (.pr (.pt 1 []) .un)))] [.blk 163 (.ar 16 .u8),.blk 163 (.ar 16 .u8)] (fun x y=>T100 F x.1) (fun x y (z:Zk×Zk)=>((((),((),(),())),()),(z.1,z.2,())))
theorem ok100 (F:Nat):Sound Tryd.prog cfg 100 (ct100 F):=
 mkC_ok (E:=E100 F) (lp:=[([1,0,1,1],lc100_2 F)]) (code:=bodyOf Tryd.f100) Tryd.func100 rfl Tryd.ntmps100 rfl rfl cok (cts100 F) mixed ⟨lo100_2 F,trivial⟩ (by kernel_rfl) (fun x y k=>T100c F x.1 k) (fun _ _ _=>by simp only [T100,T100c,oA,oC,oS,oN,elimS_bind]) (fun _ _=>by kernel_rfl)
def ord103:Nat->List (Tag×Nat)
 | 1=>[(.p,0),(.p,1),(.p,2),(.r,3),(.p,4),(.p,5),(.p,6),(.r,7),(.p,8),(.p,9)]
 | _=>[]
def E103 (F:Nat):Ev:=⟨cfg,14,ctOf [],ord103,ctOf [],fun _=>none,fun _=>none⟩
theorem cts103 (F:Nat):CtsOk Tryd.prog (E103 F):=cts_of (l:=[]) (l':=[]) rfl rfl trivial trivial
def T103c (F:Nat) (p0:UInt8) (p1:Vector UInt8 16) (p2:Vector UInt8 16) {β:Type} (k:UInt8->Option β):Option β:=
 (Option.bind (vix p1 ((p0 &&& (UInt8.ofNat 15)).toNat:Int)) fun x3=>(Option.bind (vix p2 ((shr8 p0 ((UInt64.ofNat 4).toNat)).toNat:Int)) fun x4=>(k (x3 ^^^ x4))))
def T103 (F:Nat) (p0:UInt8) (p1:Vector UInt8 16) (p2:Vector UInt8 16):=T103c F p0 p1 p2 some
def ct103 (F:Nat):Ct:=mkC 0 [.u8,(.re (.ar 16 .u8)),(.re (.ar 16 .u8))] [] [.u8] [] (fun x y=>T103 F x.1 x.2.1 x.2.2.1) (fun x y (z:UInt8)=>((z,()),()))
theorem ok103 (F:Nat):Sound Tryd.prog cfg 103 (ct103 F):=
 mkC_ok (E:=E103 F) (lp:=[]) (code:=bodyOf Tryd.f103) Tryd.func103 rfl Tryd.ntmps103 rfl rfl cok (cts103 F) mixed trivial (by kernel_rfl) (fun x y k=>T103c F x.1 x.2.1 x.2.2.1 k) (fun _ _ _=>by simp only [T103,T103c,oA,oC,oS,oN,elimS_bind]) (fun _ _=>by kernel_rfl)
def E96 (F:Nat):Ev:=⟨cfg,29,ctOf [(100,ct100 F),(103,ct103 F)],fun _=>[],ctOf [],fun _=>none,fun _=>none⟩
theorem cts96 (F:Nat):CtsOk Tryd.prog (E96 F):=cts_of (l:=[(100,ct100 F),(103,ct103 F)]) (l':=[]) rfl rfl ⟨⟨ok100 F,_,Tryd.func100,rfl,rfl⟩,⟨⟨ok103 F,_,Tryd.func103,rfl,rfl⟩,trivial⟩⟩ trivial
def L96_2c (F:Nat) (y18:List UInt8) (y19:Int) (y21:Vector UInt8 16) (y22:Vector UInt8 16) (y20:Int) (y23:List UInt8) {β:Type} (kA:(Int×Za)->Option β) (kO:(Za)->Option β):Option β:=
 (bif (decide (y20 < y19)) then (Option.bind (ix y18 y20) fun x27=>(Option.bind (T103 F x27 y21 y22) fun z28=>(Option.bind (inb y23.length y20) fun x29=>(kA ((w64 (y20 + (1:Int))),(List.set y23 x29 z28)))))) else (kO y23))
def L96_2 (F:Nat) (y18:List UInt8) (y19:Int) (y21:Vector UInt8 16) (y22:Vector UInt8 16) (y20:Int) (y23:List UInt8):=L96_2c F y18 y19 y21 y22 y20 y23 (fun s=>some (Sum.inl s)) (fun z=>some (Sum.inr z))
def lc96_2 (F:Nat):Lc:=mkL [5,6,14,15,16] [(.fn 103 .un (.pr (.pt 0 []) (.pr (.pt 1 []) .un))),(.rw 2),(.ro .u8),.i,.i] [.blk 163 (.ar 16 .u8),.blk 163 (.ar 16 .u8),.row 5 .u8] [6] [(.rw 0)] [.row 5 .u8] F (fun x y (s:Int×Za)=>L96_2 F x.2.2.1 x.2.2.2.1 y.1 y.2.1 s.1 s.2) (fun x y=>(x.2.2.2.2.1,y.2.2.1)) (fun x y (z:Za)=>(((),()),(z,())))
theorem lo96_2 (F:Nat):LcOk Tryd.prog (E96 F) 0 (lc96_2 F) (cAt (bodyOf Tryd.f96) [1,0,1,1,1]):=
 mkL_ok (lp:=[]) (id:=0) (b:=cAt (bodyOf Tryd.f96) (0 :: 0 :: [1,0,1,1,1])) cok (cts96 F) mixed trivial (by kernel_rfl) (by kernel_rfl) (fun x y s=>(((),((),(),())),(),x.2.2.1,x.2.2.2.1,s.1,())) (fun x y s=>(y.1,y.2.1,s.2,())) (fun x y=>rfl) (fun x y=>rfl) (fun x y s kA kO=>L96_2c F x.2.2.1 x.2.2.2.1 y.1 y.2.1 s.1 s.2 kA kO) (fun _ _ _ _ _=>by simp only [L96_2,L96_2c,oA,oC,oS,oN,elimS_l,elimS_r,elimS_bind]) (fun _ _ _=>by kernel_rfl)
def T96c (F:Nat) (p0:List UInt8) (p1:UInt8) {β:Type} (k:(Za)->Option β):Option β:=
 (Option.bind (T100 F p1) fun z16=>(Option.bind (gmake (0:UInt8) (p0.length:Int) (p0.length:Int)) fun x17=>(Option.bind (iter (fun s=>L96_2 F p0 (p0.length:Int) z16.1 z16.2 s.1 s.2) F ((0:Int),x17)) fun z30=>(k z30))))
def T96 (F:Nat) (p0:List UInt8) (p1:UInt8):=T96c F p0 p1 some
def ct96 (F:Nat):Ct:=mkC 0 [(.ro .u8),.u8] [] [(.rw 0)] [.row 5 .u8] (fun x y=>T96 F x.1 x.2.1) (fun x y (z:Za)=>(((),()),(z,())))
theorem ok96 (F:Nat):Sound Tryd.prog cfg 96 (ct96 F):=
 mkC_ok (E:=E96 F) (lp:=[([1,0,1,1,1],lc96_2 F)]) (code:=bodyOf Tryd.f96) Tryd.func96 rfl Tryd.ntmps96 rfl rfl cok (cts96 F) mixed ⟨lo96_2 F,trivial⟩ (by kernel_rfl) (fun x y k=>T96c F x.1 x.2.1 k) (fun _ _ _=>by simp only [T96,T96c,oA,oC,oS,oN,elimS_bind]) (fun _ _=>by kernel_rfl)
def E92 (F:Nat):Ev:=⟨cfg,35,ctOf [(96,ct96 F)],fun _=>[],ctOf [],fun _=>none,fun _=>none⟩
theorem cts92 (F:Nat):CtsOk Tryd.prog (E92 F):=cts_of (l:=[(96,ct96 F)]) (l':=[]) rfl rfl ⟨⟨ok96 F,_,Tryd.func96,rfl,rfl⟩,trivial⟩ trivial
def L92_2c (F:Nat) (y16:List UInt8) (y17:Int) (y18:Int) (y19:List UInt8) {β:Type} (kA:(Int×Za)->Option β) (kO:(Za)->Option β):Option β:=
 (bif (decide (y18 < y17)) then (Option.bind (ix y16 y18) fun x24=>(Option.bind (inb y19.length y18) fun x25=>(Option.bind (y19[x25]?) fun x26=>(Option.bind (inb y19.length y18) fun x27=>(kA ((w64 (y18 + (1:Int))),(List.set y19 x27 (x26 ^^^ x24)))))))) else (kO y19))
def L92_2 (F:Nat) (y16:List UInt8) (y17:Int) (y18:Int) (y19:List UInt8):=L92_2c F y16 y17 y18 y19 (fun s=>some (Sum.inl s)) (fun z=>some (Sum.inr z))
def lc92_2 (F:Nat):Lc:=mkL [8,19,20,21] [(.rw 0),(.ro .u8),.i,.i] [.row 5 .u8] [8] [(.rw 0)] [.row 5 .u8] F (fun x y (s:Int×Za)=>L92_2 F x.2.1 x.2.2.1 s.1 s.2) (fun x y=>(x.2.2.2.1,y.1)) (fun x y (z:Za)=>(((),()),(z,())))
theorem lo92_2 (F:Nat):LcOk Tryd.prog (E92 F) 0 (lc92_2 F) (cAt (bodyOf Tryd.f92) [1,0,1,1,1]):=
 mkL_ok (lp:=[]) (id:=0) (b:=cAt (bodyOf Tryd.f92) (0 :: 0 :: [1,0,1,1,1])) cok (cts92 F) mixed trivial (by kernel_rfl) (by kernel_rfl) (fun x y s=>((),x.2.1,x.2.2.1,s.1,())) (fun x y s=>(s.2,())) (fun x y=>rfl) (fun x y=>rfl) (fun x y s kA kO=>L92_2c F x.2.1 x.2.2.1 s.1 s.2 kA kO) (fun _ _ _ _ _=>by simp only [L92_2,L92_2c,oA,oC,oS,oN,elimS_l,elimS_r,elimS_bind]) (fun _ _ _=>by kernel_rfl)
def T92c (F:Nat) (p0:List UInt8) (p1:List UInt8) (p2:UInt8) {β:Type} (k:(Int×Za)->Option β):Option β:=
 (bif ((p0.length:Int) != (p1.length:Int)) then (k ((1:Int),([]:List UInt8))) else (Option.bind (T96 F p1 p2) fun z15=>(Option.bind (iter (fun s=>L92_2 F p0 (p0.length:Int) s.1 s.2) F ((0:Int),z15)) fun z28=>(k ((0:Int),z28)))))
def T92 (F:Nat) (p0:List UInt8) (p1:List UInt8) (p2:UInt8):=T92c F p0 p1 p2 some
def ct92 (F:Nat):Ct:=mkC 0 [(.ro .u8),(.ro .u8),.u8] [] [(.rw 0),.i] [.row 5 .u8] (fun x y=>T92 F x.1 x.2.1 x.2.2.1) (fun x y (z:Int×Za)=>(((),z.1,()),(z.2,())))
theorem ok92 (F:Nat):Sound Tryd.prog cfg 92 (ct92 F):=
 mkC_ok (E:=E92 F) (lp:=[([1,0,1,1,1],lc92_2 F)]) (code:=bodyOf Tryd.f92) Tryd.func92 rfl Tryd.ntmps92 rfl rfl cok (cts92 F) mixed ⟨lo92_2 F,trivial⟩ (by kernel_rfl) (fun x y k=>T92c F x.1 x.2.1 x.2.2.1 k) (fun _ _ _=>by simp only [T92,T92c,oA,oC,oS,oN,elimS_bind]) (fun _ _=>by kernel_rfl)
def ord87:Nat->List (Tag×Nat)
 | 9=>[(.p,0),(.p,1),(.p,2),(.p,3),(.p,4),(.r,5),(.p,6),(.p,7),(.p,8),(.r,9),(.p,10),(.w,11),(.p,12),(.p,13),(.p,14),(.p,15),(.w,16)]
 | _=>[]
def E87 (F:Nat):Ev:=⟨cfgR,51,ctOf [(91,ct91 F),(92,ct92 F)],ord87,ctOf [],fun _=>none,fun _=>none⟩
theorem cts87 (F:Nat):CtsOk Tryd.prog (E87 F):=cts_of (l:=[(91,ct91 F),(92,ct92 F)]) (l':=[]) rfl rfl ⟨⟨ok91 F,_,Tryd.func91,rfl,rfl⟩,⟨⟨ok92 F,_,Tryd.func92,rfl,rfl⟩,trivial⟩⟩ trivial
def L87_4c (F:Nat) (y46:List Za) (y47:Int) (y51:List UInt8) (y52:Int) (y53:Int) (y54:List (Option Za)×List Nat) {β:Type} (kA:(Int×(List (Option Za)×List Nat))->Option β) (kO:((List (Option Za)×List Nat))->Option β):Option β:=
 (bif (decide (y53 < y52)) then (Option.bind (ix y51 y53) fun x63=>(bif (x63 != (UInt8.ofNat 0)) then (Option.bind (inb y54.2.length y47) fun x64=>(Option.bind (outG y54.2 x64) fun x65=>(Option.bind (rxG y54.1 x65) fun x66=>(Option.bind (ix y46 y53) fun x67=>(Option.bind (rxG y54.1 x65) fun x68=>(Option.bind (T92 F x68 x67 x63) fun z69=>(Option.bind (inb y54.2.length y47) fun x70=>(kA ((w64 (y53 + (1:Int))),((y54.1 ++ [some z69.2]),(List.set y54.2 x70 y54.1.length))))))))))) else (kA ((w64 (y53 + (1:Int))),y54)))) else (kO y54))
def L87_4 (F:Nat) (y46:List Za) (y47:Int) (y51:List UInt8) (y52:Int) (y53:Int) (y54:List (Option Za)×List Nat):=L87_4c F y46 y47 y51 y52 y53 y54 (fun s=>some (Sum.inl s)) (fun z=>some (Sum.inr z))
def lc87_4 (F:Nat):Lc:=mkL [1,7,8,16,17,18,23,24,25] [(.ro (.sl .u8)),(.rw 0),.i,(.ro (.sl .u8)),.i,.i,(.ro .u8),.i,.i] [.rr 55 5 .u8] [1,7,16,17,18] [(.ro (.sl .u8)),(.rw 0),(.ro (.sl .u8)),.i,.i] [.rr 55 5 .u8] F (fun x y (s:Int×(List (Option Za)×List Nat))=>L87_4 F x.1 x.2.2.1 x.2.2.2.2.2.2.1 x.2.2.2.2.2.2.2.1 s.1 s.2) (fun x y=>(x.2.2.2.2.2.2.2.2.1,y.1)) (fun x y (z:(List (Option Za)×List Nat))=>((x.1,(),x.2.2.2.1,x.2.2.2.2.1,x.2.2.2.2.2.1,()),(z,())))
theorem lo87_4 (F:Nat):LcOk Tryd.prog (E87 F) 0 (lc87_4 F) (cAt (bodyOf Tryd.f87) [1,1,0,0,1,1,0,0,1,0,1,1]):=
 mkL_ok (lp:=[]) (id:=2) (b:=cAt (bodyOf Tryd.f87) (0 :: 0 :: [1,1,0,0,1,1,0,0,1,0,1,1])) cokR (cts87 F) mixed trivial (by kernel_rfl) (by kernel_rfl) (fun x y s=>(x.1,(),x.2.2.1,x.2.2.2.1,x.2.2.2.2.1,x.2.2.2.2.2.1,x.2.2.2.2.2.2.1,x.2.2.2.2.2.2.2.1,s.1,())) (fun x y s=>(s.2,())) (fun x y=>rfl) (fun x y=>rfl) (fun x y s kA kO=>L87_4c F x.1 x.2.2.1 x.2.2.2.2.2.2.1 x.2.2.2.2.2.2.2.1 s.1 s.2 kA kO) (fun _ _ _ _ _=>by simp only [L87_4,L87_4c,oA,oC,oS,oN,elimS_l,elimS_r,elimS_bind]) (fun _ _ _=>by kernel_rfl)
def L87_3c (F:Nat) (y38:List Za) (y39:List Za) (y40:Int) (y41:Int) (y42:List (Option Za)×List Nat) {β:Type} (kA:(Int×(List (Option Za)×List Nat))->Option β) (kO:((List (Option Za)×List Nat))->Option β):Option β:=
 (bif (decide (y41 < y40)) then (Option.bind (ix y39 y41) fun x45=>(Option.bind (iter (fun s=>L87_4 F y38 y41 x45 (x45.length:Int) s.1 s.2) F ((0:Int),y42)) fun z71=>(kA ((w64 (y41 + (1:Int))),z71)))) else (kO y42))
def L87_3 (F:Nat) (y38:List Za) (y39:List Za) (y40:Int) (y41:Int) (y42:List (Option Za)×List Nat):=L87_3c F y38 y39 y40 y41 y42 (fun s=>some (Sum.inl s)) (fun z=>some (Sum.inr z))
def lc87_3 (F:Nat):Lc:=mkL [1,7,16,17,18] [(.ro (.sl .u8)),(.rw 0),(.ro (.sl .u8)),.i,.i] [.rr 55 5 .u8] [7] [(.rw 0)] [.rr 55 5 .u8] F (fun x y (s:Int×(List (Option Za)×List Nat))=>L87_3 F x.1 x.2.2.1 x.2.2.2.1 s.1 s.2) (fun x y=>(x.2.2.2.2.1,y.1)) (fun x y (z:(List (Option Za)×List Nat))=>(((),()),(z,())))
theorem lo87_3 (F:Nat):LcOk Tryd.prog (E87 F) 0 (lc87_3 F) (cAt (bodyOf Tryd.f87) [1,0,1,1]):=
 mkL_ok (lp:=[([1,1,0,0,1,1,0,0,1,0,1,1],lc87_4 F)]) (id:=0) (b:=cAt (bodyOf Tryd.f87) (0 :: 0 :: [1,0,1,1])) cokR (cts87 F) mixed ⟨lo87_4 F,trivial⟩ (by kernel_rfl) (by kernel_rfl) (fun x y s=>(x.1,(),x.2.2.1,x.2.2.2.1,s.1,())) (fun x y s=>(s.2,())) (fun x y=>rfl) (fun x y=>rfl) (fun x y s kA kO=>L87_3c F x.1 x.2.2.1 x.2.2.2.1 s.1 s.2 kA kO) (fun _ _ _ _ _=>by simp only [L87_3,L87_3c,oA,oC,oS,oN,elimS_l,elimS_r,elimS_bind]) (fun _ _ _=>by kernel_rfl)
def T87c (F:Nat) (p0:List Za) (p1:List Za) (p2:Int) {β:Type} (k:(Zd)->Option β):Option β:=
 (Option.bind (T91 F (p0.length:Int) p2) fun z37=>(Option.bind (iter (fun s=>L87_3 F p1 p0 (p0.length:Int) s.1 s.2) F ((0:Int),z37)) fun z72=>(Option.bind (mat z72.1 z72.2) fun x73=>(k x73))))
def T87 (F:Nat) (p0:List Za) (p1:List Za) (p2:Int):=T87c F p0 p1 p2 some
def ct87 (F:Nat):Ct:=mkC 0 [(.ro (.sl .u8)),(.ro (.sl .u8)),.i] [] [(.ro (.sl .u8))] [] (fun x y=>T87 F x.1 x.2.1 x.2.2.1) (fun x y (z:Zd)=>((z,()),()))
theorem ok87 (F:Nat):Sound Tryd.prog cfg 87 (ct87 F):=
 mkC_ok (E:=E87 F) (lp:=[([1,0,1,1],lc87_3 F)]) (code:=bodyOf Tryd.f87) Tryd.func87 rfl Tryd.ntmps87 rfl rfl cokR (cts87 F) mixed ⟨lo87_3 F,trivial⟩ (by kernel_rfl) (fun x y k=>T87c F x.1 x.2.1 x.2.2.1 k) (fun _ _ _=>by simp only [T87,T87c,oA,oC,oS,oN,elimS_bind]) (fun _ _=>by kernel_rfl)
def E74 (F:Nat):Ev:=⟨cfg,37,ctOf [(85,ct85 F),(86,ct86 F),(87,ct87 F)],fun _=>[],ctOf [],fun _=>none,fun _=>none⟩
theorem cts74 (F:Nat):CtsOk Tryd.prog (E74 F):=cts_of (l:=[(85,ct85 F),(86,ct86 F),(87,ct87 F)]) (l':=[]) rfl rfl ⟨⟨ok85 F,_,Tryd.func85,rfl,rfl⟩,⟨⟨ok86 F,_,Tryd.func86,rfl,rfl⟩,⟨⟨ok87 F,_,Tryd.func87,rfl,rfl⟩,trivial⟩⟩⟩ trivial
def L74_2c (F:Nat) (y18:List Za) (y19:List Za) (y20:Int) (y21:Int) {β:Type} (kA:Int->Option β) (kO:Unit->Option β) (kR:Int->Option β):Option β:=
 (bif (decide (y21 < y20)) then (Option.bind (ix y19 y21) fun x24=>(Option.bind (ix y18 (0:Int)) fun x25=>(bif ((x24.length:Int) != (x25.length:Int)) then (kR (1:Int)) else (kA (w64 (y21 + (1:Int))))))) else (kO ()))
def L74_2 (F:Nat) (y18:List Za) (y19:List Za) (y20:Int) (y21:Int):Option ((Int) ⊕ ((Unit) ⊕ (Int))):=L74_2c F y18 y19 y20 y21 (fun s=>some (.inl s)) (fun z=>some (.inr (.inl z))) (fun z=>some (.inr (.inr z)))
theorem L74_2n (F:Nat) (y18:List Za) (y19:List Za) (y20:Int) (y21:Int) {β:Type} (kA:Int->Option β) (kO:Unit->Option β) (kR:Int->Option β):L74_2c F y18 y19 y20 y21 kA kO kR=(L74_2 F y18 y19 y20 y21).bind (elimS kA (elimS kO kR)):=by
 simp only [L74_2,L74_2c,oA,oC,oS,oN,elimS_l,elimS_r,elimS_bind]
def lc74_2 (F:Nat):Lc:=mkR [0,1,18,19,20] [(.ro (.sl .u8)),(.ro (.sl .u8)),(.ro (.sl .u8)),.i,.i] [] [0,1] [(.ro (.sl .u8)),(.ro (.sl .u8))] [] [4,5] [.ns,.i] [] F (fun x y (s:Int)=>L74_2 F x.2.1 x.2.2.1 x.2.2.2.1 s) (fun x y=>x.2.2.2.2.1) (fun x y (z:Unit)=>((x.1,x.2.1,()),())) (fun x y (z:Int)=>(((),z,()),()))
theorem lo74_2 (F:Nat):LcOk Tryd.prog (E74 F) 0 (lc74_2 F) (cAt (bodyOf Tryd.f74) [1,0,1,1]):=
 mkR_ok (lp:=[]) (id:=0) (b:=cAt (bodyOf Tryd.f74) (0 :: 0 :: [1,0,1,1])) cok (cts74 F) mixed trivial (by kernel_rfl) (by kernel_rfl) (fun x y s=>(x.1,x.2.1,x.2.2.1,x.2.2.2.1,s,())) (fun x y s=>()) (fun x y=>rfl) (fun x y=>rfl) (fun x y s kA kO kR=>L74_2c F x.2.1 x.2.2.1 x.2.2.2.1 s kA kO kR) (fun x y s kA kO kR=>L74_2n F x.2.1 x.2.2.1 x.2.2.2.1 s kA kO kR) (fun _ _ _=>by kernel_rfl)
def T74c (F:Nat) (p0:List Za) (p1:List Za) {β:Type} (k:(Zd×Int)->Option β):Option β:=
 (Option.bind (T85 F p0) fun z15=>(bif (!z15) then (k (([]:List Za),(1:Int))) else (Option.bind (T86 F p0) fun z16=>(bif ((p1.length:Int) != z16) then (k (([]:List Za),(1:Int))) else (Option.bind (iter (fun s=>L74_2 F p1 p1 (p1.length:Int) s) F (0:Int)) fun z26=>elimS (fun z26=>(Option.bind (T86 F p1) fun z27=>(Option.bind (T87 F p0 p1 z27) fun z28=>(k (z28,(0:Int)))))) (fun z26=>(k (([]:List Za),z26))) z26)))))
def T74 (F:Nat) (p0:List Za) (p1:List Za):=T74c F p0 p1 some
def ct74 (F:Nat):Ct:=mkC 0 [(.ro (.sl .u8)),(.ro (.sl .u8))] [] [(.ro (.sl .u8)),.i] [] (fun x y=>T74 F x.1 x.2.1) (fun x y (z:Zd×Int)=>((z.1,z.2,()),()))
theorem ok74 (F:Nat):Sound Tryd.prog cfg 74 (ct74 F):=
 mkC_ok (E:=E74 F) (lp:=[([1,0,1,1],lc74_2 F)]) (code:=bodyOf Tryd.f74) Tryd.func74 rfl Tryd.ntmps74 rfl rfl cok (cts74 F) mixed ⟨lo74_2 F,trivial⟩ (by kernel_rfl) (fun x y k=>T74c F x.1 x.2.1 k) (fun _ _ _=>by simp only [T74,T74c,oA,oC,oS,oN,elimS_bind]) (fun _ _=>by kernel_rfl)
def E63 (F:Nat):Ev:=⟨cfg,62,ctOf [(31,ct31 F),(79,ct79 F),(61,ct61 F),(75,ct75 F),(80,ct80 F),(74,ct74 F)],fun _=>[],ctOf [],fun _=>none,fun _=>none⟩
theorem cts63 (F:Nat):CtsOk Tryd.prog (E63 F):=cts_of (l:=[(31,ct31 F),(79,ct79 F),(61,ct61 F),(75,ct75 F),(80,ct80 F),(74,ct74 F)]) (l':=[]) rfl rfl ⟨⟨ok31 F,_,Tryd.func31,rfl,rfl⟩,⟨⟨ok79 F,_,Tryd.func79,rfl,rfl⟩,⟨⟨ok61 F,_,Tryd.func61,rfl,rfl⟩,⟨⟨ok75 F,_,Tryd.func75,rfl,rfl⟩,⟨⟨ok80 F,_,Tryd.func80,rfl,rfl⟩,⟨⟨ok74 F,_,Tryd.func74,rfl,rfl⟩,trivial⟩⟩⟩⟩⟩⟩ trivial
def L63_3c (F:Nat) (y34:Int) (y36:List Za) (y37:List Za) {β:Type} (kA:(Zd)->Option β) (kO:(Zd)->Option β):Option β:=
 (bif (decide ((y37.length:Int) < y34)) then (Option.bind (ix y36 (0:Int)) fun x41=>(Option.bind (gmake (0:UInt8) (x41.length:Int) (x41.length:Int)) fun x42=>(Option.bind (gapp y37 ([x42]:List Za)) fun x43=>(kA x43)))) else (kO y37))
def L63_3 (F:Nat) (y34:Int) (y36:List Za) (y37:List Za):=L63_3c F y34 y36 y37 (fun s=>some (Sum.inl s)) (fun z=>some (Sum.inr z))
def lc63_3 (F:Nat):Lc:=mkL [0,1,2,8] [.i,.i,(.ro (.sl .u8)),(.rw 0)] [.row 55 (.sl .u8)] [0,1,8] [.i,.i,(.rw 0)] [.row 55 (.sl .u8)] F (fun x y (s:Zd)=>L63_3 F x.1 x.2.2.1 s) (fun x y=>y.1) (fun x y (z:Zd)=>((x.1,x.2.1,(),()),(z,())))
theorem lo63_3 (F:Nat):LcOk Tryd.prog (E63 F) 0 (lc63_3 F) (cAt (bodyOf Tryd.f63) [0,1,1,1]):=
 mkL_ok (lp:=[]) (id:=0) (b:=cAt (bodyOf Tryd.f63) (0 :: 0 :: [0,1,1,1])) cok (cts63 F) mixed trivial (by kernel_rfl) (by kernel_rfl) (fun x y s=>(x.1,x.2.1,x.2.2.1,(),())) (fun x y s=>(s,())) (fun x y=>rfl) (fun x y=>rfl) (fun x y s kA kO=>L63_3c F x.1 x.2.2.1 s kA kO) (fun _ _ _ _ _=>by simp only [L63_3,L63_3c,oA,oC,oS,oN,elimS_l,elimS_r,elimS_bind]) (fun _ _ _=>by kernel_rfl)
def L63_4c (F:Nat) (y51:Int) (y52:Int) (y54:List Int) {β:Type} (kA:(Int×Zj)->Option β) (kO:(Zj)->Option β):Option β:=
 (bif (decide (y52 < y51)) then (Option.bind (gapp y54 ([y52]:List Int)) fun x56=>(kA ((w64 (y52 + (1:Int))),x56))) else (kO y54))
def L63_4 (F:Nat) (y51:Int) (y52:Int) (y54:List Int):=L63_4c F y51 y52 y54 (fun s=>some (Sum.inl s)) (fun z=>some (Sum.inr z))
def lc63_4 (F:Nat):Lc:=mkL [0,8,9,45,46] [.i,(.rw 0),(.rw 1),.i,.i] [.row 55 (.sl .u8),.row 3 .i] [0,8,9] [.i,(.rw 0),(.rw 1)] [.row 55 (.sl .u8),.row 3 .i] F (fun x y (s:Int×Zj)=>L63_4 F x.2.2.2.1 s.1 s.2) (fun x y=>(x.2.2.2.2.1,y.2.1)) (fun x y (z:Zj)=>((x.1,(),(),()),(y.1,z,())))
theorem lo63_4 (F:Nat):LcOk Tryd.prog (E63 F) 0 (lc63_4 F) (cAt (bodyOf Tryd.f63) [1,0,1,1,1,1,1]):=
 mkL_ok (lp:=[]) (id:=2) (b:=cAt (bodyOf Tryd.f63) (0 :: 0 :: [1,0,1,1,1,1,1])) cok (cts63 F) mixed trivial (by kernel_rfl) (by kernel_rfl) (fun x y s=>(x.1,(),(),x.2.2.2.1,s.1,())) (fun x y s=>(y.1,s.2,())) (fun x y=>rfl) (fun x y=>rfl) (fun x y s kA kO=>L63_4c F x.2.2.2.1 s.1 s.2 kA kO) (fun _ _ _ _ _=>by simp only [L63_4,L63_4c,oA,oC,oS,oN,elimS_l,elimS_r,elimS_bind]) (fun _ _ _=>by kernel_rfl)
def T63c (F:Nat) (p0:Int) (p1:Int) (p2:List Za) {β:Type} (k:(Zd×Int)->Option β):Option β:=
 (Option.bind (T31 F p0 p1) fun z31=>(bif (!z31) then (k (([]:List Za),(1:Int))) else (bif ((p2.length:Int) == (0:Int)) then (k (([]:List Za),(1:Int))) else (bif (decide (p0 < (p2.length:Int))) then (k (([]:List Za),(1:Int))) else (Option.bind (T79 F p2) fun z32=>(bif (!z32) then (k (([]:List Za),(1:Int))) else (Option.bind (T61 F p2) fun z33=>(Option.bind (iter (fun s=>L63_3 F p0 p2 s) F z33) fun z44=>(Option.bind (iter (fun s=>L63_4 F p1 s.1 s.2) F ((0:Int),([]:List Int))) fun z57=>(Option.bind (T75 F p0) fun z58=>(Option.bind (T80 F z57 p0 z58) fun z59=>(Option.bind (T74 F z59 z44) fun z60=>(k (z60.1,z60.2))))))))))))))
def T63 (F:Nat) (p0:Int) (p1:Int) (p2:List Za):=T63c F p0 p1 p2 some
def ct63 (F:Nat):Ct:=mkC 0 [.i,.i,(.ro (.sl .u8))] [] [(.ro (.sl .u8)),.i] [] (fun x y=>T63 F x.1 x.2.1 x.2.2.1) (fun x y (z:Zd×Int)=>((z.1,z.2,()),()))
theorem ok63 (F:Nat):Sound Tryd.prog cfg 63 (ct63 F):=
 mkC_ok (E:=E63 F) (lp:=[([0,1,1,1],lc63_3 F),([1,0,1,1,1,1,1],lc63_4 F)]) (code:=bodyOf Tryd.f63) Tryd.func63 rfl Tryd.ntmps63 rfl rfl cok (cts63 F) mixed ⟨lo63_3 F,⟨lo63_4 F,trivial⟩⟩ (by kernel_rfl) (fun x y k=>T63c F x.1 x.2.1 x.2.2.1 k) (fun _ _ _=>by simp only [T63,T63c,oA,oC,oS,oN,elimS_bind]) (fun _ _=>by kernel_rfl)
def E67 (F:Nat):Ev:=⟨cfg,4,ctOf [],fun _=>[],ctOf [],fun _=>none,fun _=>none⟩
theorem cts67 (F:Nat):CtsOk Tryd.prog (E67 F):=cts_of (l:=[]) (l':=[]) rfl rfl trivial trivial
def T67c (F:Nat) {β:Type} (k:(Ze×Zf×Int)->Option β):Option β:=
 (k ((gv0),(Vector.replicate 64 (0:UInt8)),(0:Int)))
def T67 (F:Nat):=T67c F some
def ct67 (F:Nat):Ct:=mkC 0 [] [] [(.pt 0 [])] [.blk 134 (.pr (.ar 8 .u32) (.pr (.ar 64 .u8) (.pr .i .un)))] (fun x y=>T67 F) (fun x y (z:Ze×Zf×Int)=>(((),()),((z.1,z.2.1,z.2.2,()),())))
theorem ok67 (F:Nat):Sound Tryd.prog cfg 67 (ct67 F):=
 mkC_ok (E:=E67 F) (lp:=[]) (code:=bodyOf Tryd.f67) Tryd.func67 rfl Tryd.ntmps67 rfl rfl cok (cts67 F) mixed trivial (by kernel_rfl) (fun x y k=>T67c F k) (fun _ _ _=>by simp only [T67,T67c,oA,oC,oS,oN,elimS_bind]) (fun _ _=>by kernel_rfl)
def E90 (F:Nat):Ev:=⟨cfg,17,ctOf [],fun _=>[],ctOf [],fun _=>none,fun _=>none⟩
theorem cts90 (F:Nat):CtsOk Tryd.prog (E90 F):=cts_of (l:=[]) (l':=[]) rfl rfl trivial trivial
def T90c (F:Nat) (p0:UInt32) (p1:Int) {β:Type} (k:UInt32->Option β):Option β:=
 (k ((shl32 p0 (((UInt64.ofInt p1) &&& (UInt64.ofNat 31)).toNat)) ||| (shr32 p0 (((UInt64.ofNat 32) - ((UInt64.ofInt p1) &&& (UInt64.ofNat 31))).toNat))))
def T90 (F:Nat) (p0:UInt32) (p1:Int):=T90c F p0 p1 some
def ct90 (F:Nat):Ct:=mkC 0 [.u32,.i] [] [.u32] [] (fun x y=>T90 F x.1 x.2.1) (fun x y (z:UInt32)=>((z,()),()))
theorem ok90 (F:Nat):Sound Tryd.prog cfg 90 (ct90 F):=
 mkC_ok (E:=E90 F) (lp:=[]) (code:=bodyOf Tryd.f90) Tryd.func90 rfl Tryd.ntmps90 rfl rfl cok (cts90 F) mixed trivial (by kernel_rfl) (fun x y k=>T90c F x.1 x.2.1 k) (fun _ _ _=>by simp only [T90,T90c,oA,oC,oS,oN,elimS_bind]) (fun _ _=>by kernel_rfl)
def ord81:Nat->List (Tag×Nat)
 | 6=>[(.p,0),(.p,1),(.p,2),(.r,3),(.p,4),(.p,5),(.p,6),(.p,7),(.r,8),(.p,9),(.p,10),(.p,11),(.p,12),(.p,13),(.r,14),(.p,15),(.p,16),(.p,17),(.p,18),(.p,19),(.r,20),(.p,21),(.p,22),(.p,23),(.w,24)]
 | 7=>[(.p,0),(.p,1),(.p,2),(.r,3),(.p,4),(.p,5),(.p,6),(.r,7),(.p,8),(.p,9)]
 | 10=>[(.p,0),(.p,1),(.p,2),(.p,3),(.p,4),(.r,5),(.p,6),(.p,7),(.p,8),(.p,9),(.p,10),(.p,11),(.r,12),(.p,13),(.p,14),(.w,15)]
 | 13=>[(.p,0),(.r,1),(.p,2),(.r,3),(.p,4),(.r,5),(.p,6),(.r,7),(.p,8),(.r,9),(.p,10),(.r,11),(.p,12),(.r,13),(.p,14),(.r,15),(.p,16),(.p,17),(.p,18),(.p,19),(.p,20),(.p,21),(.p,22),(.p,23)]
 | 19=>[(.p,0),(.p,1),(.p,2),(.p,3),(.p,4),(.p,5),(.p,6),(.p,7),(.p,8),(.p,9),(.p,10),(.p,11),(.p,12),(.p,13),(.r,14),(.p,15),(.p,16),(.p,17),(.r,18),(.p,19),(.p,20)]
 | 26=>[(.p,0),(.p,1),(.p,2),(.p,3),(.r,4),(.p,5),(.p,6),(.p,7),(.p,8),(.p,9),(.w,10)]
 | _=>[]
def E81 (F:Nat):Ev:=⟨cfg,212,ctOf [(90,ct90 F)],ord81,ctOf [],fun _=>none,fun _=>none⟩
theorem cts81 (F:Nat):CtsOk Tryd.prog (E81 F):=cts_of (l:=[(90,ct90 F)]) (l':=[]) rfl rfl ⟨⟨ok90 F,_,Tryd.func90,rfl,rfl⟩,trivial⟩ trivial
def L81_4c (F:Nat) (y113:Vector UInt8 64) (y110:Nat×Nat) (y111:Int) (y115:Vector UInt32 64) {β:Type} (kA:((Nat×Nat)×Int×(Vector UInt32 64))->Option β) (kO:((Vector UInt32 64))->Option β):Option β:=
 (bif (decide (y111 < (64:Int))) then (bif (decide (y111 < (16:Int))) then (Option.bind (gslb (y110.2 - y110.1) (w64 ((4:Int) * y111)) (w64 ((w64 ((4:Int) * y111)) + (4:Int)))) fun x139=>(Option.bind (inb ((y110.1 + x139.2) - (y110.1 + x139.1)) (0:Int)) fun x140=>(Option.bind (vat y113 ((y110.1 + x139.1) + x140)) fun x141=>(Option.bind (inb ((y110.1 + x139.2) - (y110.1 + x139.1)) (1:Int)) fun x142=>(Option.bind (vat y113 ((y110.1 + x139.1) + x142)) fun x143=>(Option.bind (inb ((y110.1 + x139.2) - (y110.1 + x139.1)) (2:Int)) fun x144=>(Option.bind (vat y113 ((y110.1 + x139.1) + x144)) fun x145=>(Option.bind (inb ((y110.1 + x139.2) - (y110.1 + x139.1)) (3:Int)) fun x146=>(Option.bind (vat y113 ((y110.1 + x139.1) + x146)) fun x147=>(Option.bind (inb 64 y111) fun x148=>(kA ((y110.1,y110.2),(w64 (y111 + (1:Int))),(Vector.setIfInBounds y115 x148 ((((shl32 (x141.toUInt32) ((UInt64.ofNat 24).toNat)) ||| (shl32 (x143.toUInt32) ((UInt64.ofNat 16).toNat))) ||| (shl32 (x145.toUInt32) ((UInt64.ofNat 8).toNat))) ||| (x147.toUInt32))))))))))))))) else (Option.bind (inb 64 (w64 (y111 - (2:Int)))) fun x149=>(Option.bind (vat y115 x149) fun x150=>(Option.bind (inb 64 (w64 (y111 - (15:Int)))) fun x151=>(Option.bind (vat y115 x151) fun x152=>(Option.bind (T90 F x150 (-17:Int)) fun z153=>(Option.bind (T90 F x150 (-19:Int)) fun z154=>(Option.bind (T90 F x152 (-7:Int)) fun z155=>(Option.bind (T90 F x152 (-18:Int)) fun z156=>(Option.bind (inb 64 (w64 (y111 - (7:Int)))) fun x157=>(Option.bind (vat y115 x157) fun x158=>(Option.bind (inb 64 (w64 (y111 - (16:Int)))) fun x159=>(Option.bind (vat y115 x159) fun x160=>(Option.bind (inb 64 y111) fun x161=>(kA ((y110.1,y110.2),(w64 (y111 + (1:Int))),(Vector.setIfInBounds y115 x161 (((((z153 ^^^ z154) ^^^ (shr32 x150 ((UInt64.ofNat 10).toNat))) + x158) + ((z155 ^^^ z156) ^^^ (shr32 x152 ((UInt64.ofNat 3).toNat)))) + x160)))))))))))))))))) else (kO y115))
def L81_4 (F:Nat) (y113:Vector UInt8 64) (y110:Nat×Nat) (y111:Int) (y115:Vector UInt32 64):=L81_4c F y113 y110 y111 y115 (fun s=>some (Sum.inl s)) (fun z=>some (Sum.inr z))
def lc81_4 (F:Nat):Lc:=mkL [0,1,4,27] [(.pt 0 []),(.ap 0 [1]),(.pt 1 []),.i] [.blk 134 (.pr (.ar 8 .u32) (.pr (.ar 64 .u8) (.pr .i .un))),.blk 146 (.ar 64 .u32)] [0,4] [(.pt 0 []),(.pt 1 [])] [.blk 134 (.pr (.ar 8 .u32) (.pr (.ar 64 .u8) (.pr .i .un))),.blk 146 (.ar 64 .u32)] F (fun x y (s:(Nat×Nat)×Int×(Vector UInt32 64))=>L81_4 F y.1.2.1 s.1 s.2.1 s.2.2) (fun x y=>(x.2.1,x.2.2.2.1,y.2.1)) (fun x y (z:(Vector UInt32 64))=>(((),(),()),((y.1.1,y.1.2.1,y.1.2.2.1,()),z,())))
theorem lo81_4 (F:Nat):LcOk Tryd.prog (E81 F) 1 (lc81_4 F) (cAt (bodyOf Tryd.f81) [1,0,1]):=
 mkL_ok (lp:=[]) (id:=0) (b:=cAt (bodyOf Tryd.f81) (0 :: 0 :: [1,0,1])) cok (cts81 F) mixed trivial (by kernel_rfl) (by kernel_rfl) (fun x y s=>((),s.1,(),s.2.1,())) (fun x y s=>((y.1.1,y.1.2.1,y.1.2.2.1,()),s.2.2,())) (fun x y=>rfl) (fun x y=>rfl) (fun x y s kA kO=>L81_4c F y.1.2.1 s.1 s.2.1 s.2.2 kA kO) (fun _ _ _ _ _=>by simp only [L81_4,L81_4c,oA,oC,oS,oN,elimS_l,elimS_r,elimS_bind]) (fun _ _ _=>by kernel_rfl)
def L81_5c (F:Nat) (y183:Vector UInt32 64) (y171:UInt32) (y172:UInt32) (y173:UInt32) (y174:UInt32) (y175:UInt32) (y176:UInt32) (y177:UInt32) (y178:UInt32) (y179:Int) {β:Type} (kA:(UInt32×UInt32×UInt32×UInt32×UInt32×UInt32×UInt32×UInt32×Int)->Option β) (kO:(UInt32×UInt32×UInt32×UInt32×UInt32×UInt32×UInt32×UInt32)->Option β):Option β:=
 (bif (decide (y179 < (64:Int))) then (Option.bind (T90 F y175 (-6:Int)) fun z194=>(Option.bind (T90 F y175 (-11:Int)) fun z195=>(Option.bind (T90 F y175 (-25:Int)) fun z196=>(Option.bind (T90 F y171 (-2:Int)) fun z197=>(Option.bind (T90 F y171 (-13:Int)) fun z198=>(Option.bind (T90 F y171 (-22:Int)) fun z199=>(Option.bind (vix (gv1) y179) fun x200=>(Option.bind (inb 64 y179) fun x201=>(Option.bind (vat y183 x201) fun x202=>(kA ((((((y178 + ((z194 ^^^ z195) ^^^ z196)) + ((y175 &&& y176) ^^^ ((~~~y175) &&& y177))) + x200) + x202) + (((z197 ^^^ z198) ^^^ z199) + (((y171 &&& y172) ^^^ (y171 &&& y173)) ^^^ (y172 &&& y173)))),y171,y172,y173,(y174 + ((((y178 + ((z194 ^^^ z195) ^^^ z196)) + ((y175 &&& y176) ^^^ ((~~~y175) &&& y177))) + x200) + x202)),y175,y176,y177,(w64 (y179 + (1:Int)))))))))))))) else (kO (y171,y172,y173,y174,y175,y176,y177,y178)))
def L81_5 (F:Nat) (y183:Vector UInt32 64) (y171:UInt32) (y172:UInt32) (y173:UInt32) (y174:UInt32) (y175:UInt32) (y176:UInt32) (y177:UInt32) (y178:UInt32) (y179:Int):=L81_5c F y183 y171 y172 y173 y174 y175 y176 y177 y178 y179 (fun s=>some (Sum.inl s)) (fun z=>some (Sum.inr z))
def lc81_5 (F:Nat):Lc:=mkL [0,4,11,12,13,14,15,16,17,18,19,123] [(.pt 0 []),(.pt 1 []),(.pt 2 []),.u32,.u32,.u32,.u32,.u32,.u32,.u32,.u32,.i] [.blk 134 (.pr (.ar 8 .u32) (.pr (.ar 64 .u8) (.pr .i .un))),.blk 146 (.ar 64 .u32),.blk 131 (.ar 8 .u32)] [0,11,12,13,14,15,16,17,18,19] [(.pt 0 []),(.pt 1 []),.u32,.u32,.u32,.u32,.u32,.u32,.u32,.u32] [.blk 134 (.pr (.ar 8 .u32) (.pr (.ar 64 .u8) (.pr .i .un))),.blk 131 (.ar 8 .u32)] F (fun x y (s:UInt32×UInt32×UInt32×UInt32×UInt32×UInt32×UInt32×UInt32×Int)=>L81_5 F y.2.1 s.1 s.2.1 s.2.2.1 s.2.2.2.1 s.2.2.2.2.1 s.2.2.2.2.2.1 s.2.2.2.2.2.2.1 s.2.2.2.2.2.2.2.1 s.2.2.2.2.2.2.2.2) (fun x y=>(x.2.2.2.1,x.2.2.2.2.1,x.2.2.2.2.2.1,x.2.2.2.2.2.2.1,x.2.2.2.2.2.2.2.1,x.2.2.2.2.2.2.2.2.1,x.2.2.2.2.2.2.2.2.2.1,x.2.2.2.2.2.2.2.2.2.2.1,x.2.2.2.2.2.2.2.2.2.2.2.1)) (fun x y (z:UInt32×UInt32×UInt32×UInt32×UInt32×UInt32×UInt32×UInt32)=>(((),(),z.1,z.2.1,z.2.2.1,z.2.2.2.1,z.2.2.2.2.1,z.2.2.2.2.2.1,z.2.2.2.2.2.2.1,z.2.2.2.2.2.2.2,()),((y.1.1,y.1.2.1,y.1.2.2.1,()),y.2.2.1,())))
theorem lo81_5 (F:Nat):LcOk Tryd.prog (E81 F) 1 (lc81_5 F) (cAt (bodyOf Tryd.f81) [1,0,1,1,1,1]):=
 mkL_ok (lp:=[]) (id:=2) (b:=cAt (bodyOf Tryd.f81) (0 :: 0 :: [1,0,1,1,1,1])) cok (cts81 F) mixed trivial (by kernel_rfl) (by kernel_rfl) (fun x y s=>((),(),(),s.1,s.2.1,s.2.2.1,s.2.2.2.1,s.2.2.2.2.1,s.2.2.2.2.2.1,s.2.2.2.2.2.2.1,s.2.2.2.2.2.2.2.1,s.2.2.2.2.2.2.2.2,())) (fun x y s=>((y.1.1,y.1.2.1,y.1.2.2.1,()),y.2.1,y.2.2.1,())) (fun x y=>rfl) (fun x y=>rfl) (fun x y s kA kO=>L81_5c F y.2.1 s.1 s.2.1 s.2.2.1 s.2.2.2.1 s.2.2.2.2.1 s.2.2.2.2.2.1 s.2.2.2.2.2.2.1 s.2.2.2.2.2.2.2.1 s.2.2.2.2.2.2.2.2 kA kO) (fun _ _ _ _ _=>by simp only [L81_5,L81_5c,oA,oC,oS,oN,elimS_l,elimS_r,elimS_bind]) (fun _ _ _=>by kernel_rfl)
def L81_6c (F:Nat) (y204:Vector UInt32 8) (y209:Vector UInt32 8) (y205:Int) (y206:Vector UInt32 8) {β:Type} (kA:(Int×Ze)->Option β) (kO:(Ze)->Option β):Option β:=
 (bif (decide (y205 < (8:Int))) then (Option.bind (vix y204 y205) fun x214=>(Option.bind (inb 8 y205) fun x215=>(Option.bind (vat y209 x215) fun x216=>(Option.bind (inb 8 y205) fun x217=>(kA ((w64 (y205 + (1:Int))),(Vector.setIfInBounds y206 x217 (x216 + x214)))))))) else (kO y206))
def L81_6 (F:Nat) (y204:Vector UInt32 8) (y209:Vector UInt32 8) (y205:Int) (y206:Vector UInt32 8):=L81_6c F y204 y209 y205 y206 (fun s=>some (Sum.inl s)) (fun z=>some (Sum.inr z))
def lc81_6 (F:Nat):Lc:=mkL [0,11,196,197] [(.pt 0 []),(.pt 1 []),(.ar 8 .u32),.i] [.blk 134 (.pr (.ar 8 .u32) (.pr (.ar 64 .u8) (.pr .i .un))),.blk 131 (.ar 8 .u32)] [] [] [.blk 134 (.pr (.ar 8 .u32) (.pr (.ar 64 .u8) (.pr .i .un)))] F (fun x y (s:Int×Ze)=>L81_6 F x.2.2.1 y.2.1 s.1 s.2) (fun x y=>(x.2.2.2.1,y.1.1)) (fun x y (z:Ze)=>((),((z,y.1.2.1,y.1.2.2.1,()),())))
theorem lo81_6 (F:Nat):LcOk Tryd.prog (E81 F) 1 (lc81_6 F) (cAt (bodyOf Tryd.f81) [1,1,1,1,1,1]):=
 mkL_ok (lp:=[]) (id:=4) (b:=cAt (bodyOf Tryd.f81) (0 :: 0 :: [1,1,1,1,1,1])) cok (cts81 F) mixed trivial (by kernel_rfl) (by kernel_rfl) (fun x y s=>((),(),x.2.2.1,s.1,())) (fun x y s=>((s.2,y.1.2.1,y.1.2.2.1,()),y.2.1,())) (fun x y=>rfl) (fun x y=>rfl) (fun x y s kA kO=>L81_6c F x.2.2.1 y.2.1 s.1 s.2 kA kO) (fun _ _ _ _ _=>by simp only [L81_6,L81_6c,oA,oC,oS,oN,elimS_l,elimS_r,elimS_bind]) (fun _ _ _=>by kernel_rfl)
def T81c (F:Nat) (p0:Nat×Nat) (p1:Vector UInt32 8) (p2:Vector UInt8 64) {β:Type} (k:(Ze)->Option β):Option β:=
 (Option.bind (iter (fun s=>L81_4 F p2 s.1 s.2.1 s.2.2) F ((p0.1,p0.2),(0:Int),(Vector.replicate 64 (0:UInt32)))) fun z162=>(Option.bind (vat p1 0) fun x163=>(Option.bind (vat p1 1) fun x164=>(Option.bind (vat p1 2) fun x165=>(Option.bind (vat p1 3) fun x166=>(Option.bind (vat p1 4) fun x167=>(Option.bind (vat p1 5) fun x168=>(Option.bind (vat p1 6) fun x169=>(Option.bind (vat p1 7) fun x170=>(Option.bind (iter (fun s=>L81_5 F z162 s.1 s.2.1 s.2.2.1 s.2.2.2.1 s.2.2.2.2.1 s.2.2.2.2.2.1 s.2.2.2.2.2.2.1 s.2.2.2.2.2.2.2.1 s.2.2.2.2.2.2.2.2) F (x163,x164,x165,x166,x167,x168,x169,x170,(0:Int))) fun z203=>(Option.bind (iter (fun s=>L81_6 F (#v[z203.1,z203.2.1,z203.2.2.1,z203.2.2.2.1,z203.2.2.2.2.1,z203.2.2.2.2.2.1,z203.2.2.2.2.2.2.1,z203.2.2.2.2.2.2.2]:Vector UInt32 8) p1 s.1 s.2) F ((0:Int),p1)) fun z218=>(k z218))))))))))))
def T81 (F:Nat) (p0:Nat×Nat) (p1:Vector UInt32 8) (p2:Vector UInt8 64):=T81c F p0 p1 p2 some
def ct81 (F:Nat):Ct:=mkC 1 [(.pt 0 []),(.ap 0 [1])] [.blk 134 (.pr (.ar 8 .u32) (.pr (.ar 64 .u8) (.pr .i .un)))] [] [.blk 134 (.pr (.ar 8 .u32) (.pr (.ar 64 .u8) (.pr .i .un)))] (fun x y=>T81 F x.2.1 y.1.1 y.1.2.1) (fun x y (z:Ze)=>((),((z,y.1.2.1,y.1.2.2.1,()),())))
theorem ok81 (F:Nat):Sound Tryd.prog cfg 81 (ct81 F):=
 mkC_ok (E:=E81 F) (lp:=[([1,0,1],lc81_4 F),([1,0,1,1,1,1],lc81_5 F),([1,1,1,1,1,1],lc81_6 F)]) (code:=bodyOf Tryd.f81) Tryd.func81 rfl Tryd.ntmps81 rfl rfl cok (cts81 F) mixed ⟨lo81_4 F,⟨lo81_5 F,⟨lo81_6 F,trivial⟩⟩⟩ (by kernel_rfl) (fun x y k=>T81c F x.2.1 y.1.1 y.1.2.1 k) (fun _ _ _=>by simp only [T81,T81c,oA,oC,oS,oN,elimS_bind]) (fun _ _=>by kernel_rfl)
def ord81x1:Nat->List (Tag×Nat)
 | 6=>[(.p,0),(.p,1),(.p,2),(.r,3),(.p,4),(.p,5),(.p,6),(.p,7),(.r,8),(.p,9),(.p,10),(.p,11),(.p,12),(.p,13),(.r,14),(.p,15),(.p,16),(.p,17),(.p,18),(.p,19),(.r,20),(.p,21),(.p,22),(.p,23),(.w,24)]
 | 7=>[(.p,0),(.p,1),(.p,2),(.r,3),(.p,4),(.p,5),(.p,6),(.r,7),(.p,8),(.p,9)]
 | 10=>[(.p,0),(.p,1),(.p,2),(.p,3),(.p,4),(.r,5),(.p,6),(.p,7),(.p,8),(.p,9),(.p,10),(.p,11),(.r,12),(.p,13),(.p,14),(.w,15)]
 | 13=>[(.p,0),(.r,1),(.p,2),(.r,3),(.p,4),(.r,5),(.p,6),(.r,7),(.p,8),(.r,9),(.p,10),(.r,11),(.p,12),(.r,13),(.p,14),(.r,15),(.p,16),(.p,17),(.p,18),(.p,19),(.p,20),(.p,21),(.p,22),(.p,23)]
 | 19=>[(.p,0),(.p,1),(.p,2),(.p,3),(.p,4),(.p,5),(.p,6),(.p,7),(.p,8),(.p,9),(.p,10),(.p,11),(.p,12),(.p,13),(.r,14),(.p,15),(.p,16),(.p,17),(.r,18),(.p,19),(.p,20)]
 | 26=>[(.p,0),(.p,1),(.p,2),(.p,3),(.r,4),(.p,5),(.p,6),(.p,7),(.p,8),(.p,9),(.w,10)]
 | _=>[]
def al81x1:Nat->Option Nat
 | _=>none
def ms81x1:Nat->Option (List (Option Tag×Nat×List Nat))
 | _=>none
def E81x1 (F:Nat):Ev:=⟨cfg,212,ctOf [(90,ct90 F)],ord81x1,ctOf [],al81x1,ms81x1⟩
theorem cts81x1 (F:Nat):CtsOk Tryd.prog (E81x1 F):=cts_of (l:=[(90,ct90 F)]) (l':=[]) rfl rfl ⟨⟨ok90 F,_,Tryd.func90,rfl,rfl⟩,trivial⟩ trivial
def L81x1_4c (F:Nat) (y102:List UInt8) (y103:Int) (y107:Vector UInt32 64) {β:Type} (kA:(Int×(Vector UInt32 64))->Option β) (kO:((Vector UInt32 64))->Option β):Option β:=
 (bif (decide (y103 < (64:Int))) then (bif (decide (y103 < (16:Int))) then (Option.bind (gsl y102 (w64 ((4:Int) * y103)) (w64 ((w64 ((4:Int) * y103)) + (4:Int)))) fun x127=>(Option.bind (ix x127 (0:Int)) fun x128=>(Option.bind (ix x127 (1:Int)) fun x129=>(Option.bind (ix x127 (2:Int)) fun x130=>(Option.bind (ix x127 (3:Int)) fun x131=>(Option.bind (inb 64 y103) fun x132=>(kA ((w64 (y103 + (1:Int))),(Vector.setIfInBounds y107 x132 ((((shl32 (x128.toUInt32) ((UInt64.ofNat 24).toNat)) ||| (shl32 (x129.toUInt32) ((UInt64.ofNat 16).toNat))) ||| (shl32 (x130.toUInt32) ((UInt64.ofNat 8).toNat))) ||| (x131.toUInt32))))))))))) else (Option.bind (inb 64 (w64 (y103 - (2:Int)))) fun x133=>(Option.bind (vat y107 x133) fun x134=>(Option.bind (inb 64 (w64 (y103 - (15:Int)))) fun x135=>(Option.bind (vat y107 x135) fun x136=>(Option.bind (T90 F x134 (-17:Int)) fun z137=>(Option.bind (T90 F x134 (-19:Int)) fun z138=>(Option.bind (T90 F x136 (-7:Int)) fun z139=>(Option.bind (T90 F x136 (-18:Int)) fun z140=>(Option.bind (inb 64 (w64 (y103 - (7:Int)))) fun x141=>(Option.bind (vat y107 x141) fun x142=>(Option.bind (inb 64 (w64 (y103 - (16:Int)))) fun x143=>(Option.bind (vat y107 x143) fun x144=>(Option.bind (inb 64 y103) fun x145=>(kA ((w64 (y103 + (1:Int))),(Vector.setIfInBounds y107 x145 (((((z137 ^^^ z138) ^^^ (shr32 x134 ((UInt64.ofNat 10).toNat))) + x142) + ((z139 ^^^ z140) ^^^ (shr32 x136 ((UInt64.ofNat 3).toNat)))) + x144)))))))))))))))))) else (kO y107))
def L81x1_4 (F:Nat) (y102:List UInt8) (y103:Int) (y107:Vector UInt32 64):Option ((Int×(Vector UInt32 64)) ⊕ ((Vector UInt32 64))):=L81x1_4c F y102 y103 y107 (fun s=>some (.inl s)) (fun z=>some (.inr z))
theorem L81x1_4n (F:Nat) (y102:List UInt8) (y103:Int) (y107:Vector UInt32 64) {β:Type} (kA:(Int×(Vector UInt32 64))->Option β) (kO:((Vector UInt32 64))->Option β):L81x1_4c F y102 y103 y107 kA kO=(L81x1_4 F y102 y103 y107).bind (elimS kA kO):=by
 simp only [L81x1_4,L81x1_4c,Option.bind_assoc,cond_bind,Option.bind_some,Option.bind_none,elimS_l,elimS_r,elimS_bind]
abbrev sA81x1_4:List Sh:=[(.pt 0 []),(.ro .u8),(.pt 1 []),.i]
abbrev sAp181x1_4:List Sh:=[(.pt 0 []),(.pt 1 [])]
abbrev sT81x1_4:List TSh:=[.blk 134 (.pr (.ar 8 .u32) (.pr (.ar 64 .u8) (.pr .i .un))),.blk 146 (.ar 64 .u32)]
abbrev sTp181x1_4:List TSh:=[.blk 134 (.pr (.ar 8 .u32) (.pr (.ar 64 .u8) (.pr .i .un))),.blk 146 (.ar 64 .u32)]
def lc81x1_4 (F:Nat):Lc:=mkL [0,1,4,27] sA81x1_4 sT81x1_4 [0,4] sAp181x1_4 sTp181x1_4 F (fun x y (s:Int×(Vector UInt32 64))=>L81x1_4 F x.2.1 s.1 s.2) (fun x y=>(x.2.2.2.1,y.2.1)) (fun x y (z:(Vector UInt32 64))=>(((),(),()),((y.1.1,y.1.2.1,y.1.2.2.1,()),z,())))
theorem le81x1_4 (F:Nat) (x:dens sA81x1_4) (y:tdens sT81x1_4) (s:Int×(Vector UInt32 64)):sev (E81x1 F) 1 [] (cAt (bodyOf Tryd.f81) (0 :: 0 :: [1,0,1])) (0 :: 0 :: [1,0,1]) (mkSt [0,1,4,27] sA81x1_4 sT81x1_4 ((),x.2.1,(),s.1,()) ((y.1.1,y.1.2.1,y.1.2.2.1,()),s.2,())) (kLoop 1 [0,1,4,27] sA81x1_4 sT81x1_4 [0,4] sAp181x1_4 sTp181x1_4 [] [] [] 0 (fun x y=>some (.inl (x,y))) (fun x y=>some (.inr (.inl (x,y)))) (fun x y=>some (.inr (.inr (x,y))))) =
  L81x1_4c (β:=Full sA81x1_4 sT81x1_4 sAp181x1_4 sTp181x1_4 [] []) F x.2.1 s.1 s.2 (fun s=>some (.inl (((),x.2.1,(),s.1,()),((y.1.1,y.1.2.1,y.1.2.2.1,()),s.2,())))) (fun z=>some (.inr (.inl (((),(),()),((y.1.1,y.1.2.1,y.1.2.2.1,()),z,()))))):=by kernel_rfl
theorem lo81x1_4 (F:Nat):LcOk Tryd.prog (E81x1 F) 1 (lc81x1_4 F) (cAt (bodyOf Tryd.f81) [1,0,1]):=
 mkL_ok (lp:=[]) (id:=0) (b:=cAt (bodyOf Tryd.f81) (0 :: 0 :: [1,0,1])) cok (cts81x1 F) mixed trivial (by kernel_rfl) (by kernel_rfl) (fun x y s=>((),x.2.1,(),s.1,())) (fun x y s=>((y.1.1,y.1.2.1,y.1.2.2.1,()),s.2,())) (fun x y=>rfl) (fun x y=>rfl) (fun x y s kA kO=>L81x1_4c F x.2.1 s.1 s.2 kA kO) (fun x y s kA kO=>L81x1_4n F x.2.1 s.1 s.2 kA kO) (le81x1_4 F)
def L81x1_5c (F:Nat) (y167:Vector UInt32 64) (y155:UInt32) (y156:UInt32) (y157:UInt32) (y158:UInt32) (y159:UInt32) (y160:UInt32) (y161:UInt32) (y162:UInt32) (y163:Int) {β:Type} (kA:(UInt32×UInt32×UInt32×UInt32×UInt32×UInt32×UInt32×UInt32×Int)->Option β) (kO:(UInt32×UInt32×UInt32×UInt32×UInt32×UInt32×UInt32×UInt32)->Option β):Option β:=
 (bif (decide (y163 < (64:Int))) then (Option.bind (T90 F y159 (-6:Int)) fun z178=>(Option.bind (T90 F y159 (-11:Int)) fun z179=>(Option.bind (T90 F y159 (-25:Int)) fun z180=>(Option.bind (T90 F y155 (-2:Int)) fun z181=>(Option.bind (T90 F y155 (-13:Int)) fun z182=>(Option.bind (T90 F y155 (-22:Int)) fun z183=>(Option.bind (vix (gv1) y163) fun x184=>(Option.bind (inb 64 y163) fun x185=>(Option.bind (vat y167 x185) fun x186=>(kA ((((((y162 + ((z178 ^^^ z179) ^^^ z180)) + ((y159 &&& y160) ^^^ ((~~~y159) &&& y161))) + x184) + x186) + (((z181 ^^^ z182) ^^^ z183) + (((y155 &&& y156) ^^^ (y155 &&& y157)) ^^^ (y156 &&& y157)))),y155,y156,y157,(y158 + ((((y162 + ((z178 ^^^ z179) ^^^ z180)) + ((y159 &&& y160) ^^^ ((~~~y159) &&& y161))) + x184) + x186)),y159,y160,y161,(w64 (y163 + (1:Int)))))))))))))) else (kO (y155,y156,y157,y158,y159,y160,y161,y162)))
def L81x1_5 (F:Nat) (y167:Vector UInt32 64) (y155:UInt32) (y156:UInt32) (y157:UInt32) (y158:UInt32) (y159:UInt32) (y160:UInt32) (y161:UInt32) (y162:UInt32) (y163:Int):Option ((UInt32×UInt32×UInt32×UInt32×UInt32×UInt32×UInt32×UInt32×Int) ⊕ (UInt32×UInt32×UInt32×UInt32×UInt32×UInt32×UInt32×UInt32)):=L81x1_5c F y167 y155 y156 y157 y158 y159 y160 y161 y162 y163 (fun s=>some (.inl s)) (fun z=>some (.inr z))
theorem L81x1_5n (F:Nat) (y167:Vector UInt32 64) (y155:UInt32) (y156:UInt32) (y157:UInt32) (y158:UInt32) (y159:UInt32) (y160:UInt32) (y161:UInt32) (y162:UInt32) (y163:Int) {β:Type} (kA:(UInt32×UInt32×UInt32×UInt32×UInt32×UInt32×UInt32×UInt32×Int)->Option β) (kO:(UInt32×UInt32×UInt32×UInt32×UInt32×UInt32×UInt32×UInt32)->Option β):L81x1_5c F y167 y155 y156 y157 y158 y159 y160 y161 y162 y163 kA kO=(L81x1_5 F y167 y155 y156 y157 y158 y159 y160 y161 y162 y163).bind (elimS kA kO):=by
 simp only [L81x1_5,L81x1_5c,Option.bind_assoc,cond_bind,Option.bind_some,Option.bind_none,elimS_l,elimS_r,elimS_bind]
abbrev sA81x1_5:List Sh:=[(.pt 0 []),(.pt 1 []),(.pt 2 []),.u32,.u32,.u32,.u32,.u32,.u32,.u32,.u32,.i]
abbrev sAp181x1_5:List Sh:=[(.pt 0 []),(.pt 1 []),.u32,.u32,.u32,.u32,.u32,.u32,.u32,.u32]
abbrev sT81x1_5:List TSh:=[.blk 134 (.pr (.ar 8 .u32) (.pr (.ar 64 .u8) (.pr .i .un))),.blk 146 (.ar 64 .u32),.blk 131 (.ar 8 .u32)]
abbrev sTp181x1_5:List TSh:=[.blk 134 (.pr (.ar 8 .u32) (.pr (.ar 64 .u8) (.pr .i .un))),.blk 131 (.ar 8 .u32)]
def lc81x1_5 (F:Nat):Lc:=mkL [0,4,11,12,13,14,15,16,17,18,19,123] sA81x1_5 sT81x1_5 [0,11,12,13,14,15,16,17,18,19] sAp181x1_5 sTp181x1_5 F (fun x y (s:UInt32×UInt32×UInt32×UInt32×UInt32×UInt32×UInt32×UInt32×Int)=>L81x1_5 F y.2.1 s.1 s.2.1 s.2.2.1 s.2.2.2.1 s.2.2.2.2.1 s.2.2.2.2.2.1 s.2.2.2.2.2.2.1 s.2.2.2.2.2.2.2.1 s.2.2.2.2.2.2.2.2) (fun x y=>(x.2.2.2.1,x.2.2.2.2.1,x.2.2.2.2.2.1,x.2.2.2.2.2.2.1,x.2.2.2.2.2.2.2.1,x.2.2.2.2.2.2.2.2.1,x.2.2.2.2.2.2.2.2.2.1,x.2.2.2.2.2.2.2.2.2.2.1,x.2.2.2.2.2.2.2.2.2.2.2.1)) (fun x y (z:UInt32×UInt32×UInt32×UInt32×UInt32×UInt32×UInt32×UInt32)=>(((),(),z.1,z.2.1,z.2.2.1,z.2.2.2.1,z.2.2.2.2.1,z.2.2.2.2.2.1,z.2.2.2.2.2.2.1,z.2.2.2.2.2.2.2,()),((y.1.1,y.1.2.1,y.1.2.2.1,()),y.2.2.1,())))
theorem le81x1_5 (F:Nat) (x:dens sA81x1_5) (y:tdens sT81x1_5) (s:UInt32×UInt32×UInt32×UInt32×UInt32×UInt32×UInt32×UInt32×Int):sev (E81x1 F) 1 [] (cAt (bodyOf Tryd.f81) (0 :: 0 :: [1,0,1,1,1,1])) (0 :: 0 :: [1,0,1,1,1,1]) (mkSt [0,4,11,12,13,14,15,16,17,18,19,123] sA81x1_5 sT81x1_5 ((),(),(),s.1,s.2.1,s.2.2.1,s.2.2.2.1,s.2.2.2.2.1,s.2.2.2.2.2.1,s.2.2.2.2.2.2.1,s.2.2.2.2.2.2.2.1,s.2.2.2.2.2.2.2.2,()) ((y.1.1,y.1.2.1,y.1.2.2.1,()),y.2.1,y.2.2.1,())) (kLoop 1 [0,4,11,12,13,14,15,16,17,18,19,123] sA81x1_5 sT81x1_5 [0,11,12,13,14,15,16,17,18,19] sAp181x1_5 sTp181x1_5 [] [] [] 2 (fun x y=>some (.inl (x,y))) (fun x y=>some (.inr (.inl (x,y)))) (fun x y=>some (.inr (.inr (x,y))))) =
  L81x1_5c (β:=Full sA81x1_5 sT81x1_5 sAp181x1_5 sTp181x1_5 [] []) F y.2.1 s.1 s.2.1 s.2.2.1 s.2.2.2.1 s.2.2.2.2.1 s.2.2.2.2.2.1 s.2.2.2.2.2.2.1 s.2.2.2.2.2.2.2.1 s.2.2.2.2.2.2.2.2 (fun s=>some (.inl (((),(),(),s.1,s.2.1,s.2.2.1,s.2.2.2.1,s.2.2.2.2.1,s.2.2.2.2.2.1,s.2.2.2.2.2.2.1,s.2.2.2.2.2.2.2.1,s.2.2.2.2.2.2.2.2,()),((y.1.1,y.1.2.1,y.1.2.2.1,()),y.2.1,y.2.2.1,())))) (fun z=>some (.inr (.inl (((),(),z.1,z.2.1,z.2.2.1,z.2.2.2.1,z.2.2.2.2.1,z.2.2.2.2.2.1,z.2.2.2.2.2.2.1,z.2.2.2.2.2.2.2,()),((y.1.1,y.1.2.1,y.1.2.2.1,()),y.2.2.1,()))))):=by kernel_rfl
theorem lo81x1_5 (F:Nat):LcOk Tryd.prog (E81x1 F) 1 (lc81x1_5 F) (cAt (bodyOf Tryd.f81) [1,0,1,1,1,1]):=
 mkL_ok (lp:=[]) (id:=2) (b:=cAt (bodyOf Tryd.f81) (0 :: 0 :: [1,0,1,1,1,1])) cok (cts81x1 F) mixed trivial (by kernel_rfl) (by kernel_rfl) (fun x y s=>((),(),(),s.1,s.2.1,s.2.2.1,s.2.2.2.1,s.2.2.2.2.1,s.2.2.2.2.2.1,s.2.2.2.2.2.2.1,s.2.2.2.2.2.2.2.1,s.2.2.2.2.2.2.2.2,())) (fun x y s=>((y.1.1,y.1.2.1,y.1.2.2.1,()),y.2.1,y.2.2.1,())) (fun x y=>rfl) (fun x y=>rfl) (fun x y s kA kO=>L81x1_5c F y.2.1 s.1 s.2.1 s.2.2.1 s.2.2.2.1 s.2.2.2.2.1 s.2.2.2.2.2.1 s.2.2.2.2.2.2.1 s.2.2.2.2.2.2.2.1 s.2.2.2.2.2.2.2.2 kA kO) (fun x y s kA kO=>L81x1_5n F y.2.1 s.1 s.2.1 s.2.2.1 s.2.2.2.1 s.2.2.2.2.1 s.2.2.2.2.2.1 s.2.2.2.2.2.2.1 s.2.2.2.2.2.2.2.1 s.2.2.2.2.2.2.2.2 kA kO) (le81x1_5 F)
def L81x1_6c (F:Nat) (y188:Vector UInt32 8) (y193:Vector UInt32 8) (y189:Int) (y190:Vector UInt32 8) {β:Type} (kA:(Int×(Vector UInt32 8))->Option β) (kO:((Vector UInt32 8))->Option β):Option β:=
 (bif (decide (y189 < (8:Int))) then (Option.bind (vix y188 y189) fun x198=>(Option.bind (inb 8 y189) fun x199=>(Option.bind (vat y193 x199) fun x200=>(Option.bind (inb 8 y189) fun x201=>(kA ((w64 (y189 + (1:Int))),(Vector.setIfInBounds y190 x201 (x200 + x198)))))))) else (kO y190))
def L81x1_6 (F:Nat) (y188:Vector UInt32 8) (y193:Vector UInt32 8) (y189:Int) (y190:Vector UInt32 8):Option ((Int×(Vector UInt32 8)) ⊕ ((Vector UInt32 8))):=L81x1_6c F y188 y193 y189 y190 (fun s=>some (.inl s)) (fun z=>some (.inr z))
theorem L81x1_6n (F:Nat) (y188:Vector UInt32 8) (y193:Vector UInt32 8) (y189:Int) (y190:Vector UInt32 8) {β:Type} (kA:(Int×(Vector UInt32 8))->Option β) (kO:((Vector UInt32 8))->Option β):L81x1_6c F y188 y193 y189 y190 kA kO=(L81x1_6 F y188 y193 y189 y190).bind (elimS kA kO):=by
 simp only [L81x1_6,L81x1_6c,Option.bind_assoc,cond_bind,Option.bind_some,Option.bind_none,elimS_l,elimS_r,elimS_bind]
abbrev sA81x1_6:List Sh:=[(.pt 0 []),(.pt 1 []),(.ar 8 .u32),.i]
abbrev sAp181x1_6:List Sh:=[]
abbrev sT81x1_6:List TSh:=[.blk 134 (.pr (.ar 8 .u32) (.pr (.ar 64 .u8) (.pr .i .un))),.blk 131 (.ar 8 .u32)]
abbrev sTp181x1_6:List TSh:=[.blk 134 (.pr (.ar 8 .u32) (.pr (.ar 64 .u8) (.pr .i .un)))]
def lc81x1_6 (F:Nat):Lc:=mkL [0,11,196,197] sA81x1_6 sT81x1_6 [] sAp181x1_6 sTp181x1_6 F (fun x y (s:Int×(Vector UInt32 8))=>L81x1_6 F x.2.2.1 y.2.1 s.1 s.2) (fun x y=>(x.2.2.2.1,y.1.1)) (fun x y (z:(Vector UInt32 8))=>((),((z,y.1.2.1,y.1.2.2.1,()),())))
theorem le81x1_6 (F:Nat) (x:dens sA81x1_6) (y:tdens sT81x1_6) (s:Int×(Vector UInt32 8)):sev (E81x1 F) 1 [] (cAt (bodyOf Tryd.f81) (0 :: 0 :: [1,1,1,1,1,1])) (0 :: 0 :: [1,1,1,1,1,1]) (mkSt [0,11,196,197] sA81x1_6 sT81x1_6 ((),(),x.2.2.1,s.1,()) ((s.2,y.1.2.1,y.1.2.2.1,()),y.2.1,())) (kLoop 1 [0,11,196,197] sA81x1_6 sT81x1_6 [] sAp181x1_6 sTp181x1_6 [] [] [] 4 (fun x y=>some (.inl (x,y))) (fun x y=>some (.inr (.inl (x,y)))) (fun x y=>some (.inr (.inr (x,y))))) =
  L81x1_6c (β:=Full sA81x1_6 sT81x1_6 sAp181x1_6 sTp181x1_6 [] []) F x.2.2.1 y.2.1 s.1 s.2 (fun s=>some (.inl (((),(),x.2.2.1,s.1,()),((s.2,y.1.2.1,y.1.2.2.1,()),y.2.1,())))) (fun z=>some (.inr (.inl ((),((z,y.1.2.1,y.1.2.2.1,()),()))))):=by kernel_rfl
theorem lo81x1_6 (F:Nat):LcOk Tryd.prog (E81x1 F) 1 (lc81x1_6 F) (cAt (bodyOf Tryd.f81) [1,1,1,1,1,1]):=
 mkL_ok (lp:=[]) (id:=4) (b:=cAt (bodyOf Tryd.f81) (0 :: 0 :: [1,1,1,1,1,1])) cok (cts81x1 F) mixed trivial (by kernel_rfl) (by kernel_rfl) (fun x y s=>((),(),x.2.2.1,s.1,())) (fun x y s=>((s.2,y.1.2.1,y.1.2.2.1,()),y.2.1,())) (fun x y=>rfl) (fun x y=>rfl) (fun x y s kA kO=>L81x1_6c F x.2.2.1 y.2.1 s.1 s.2 kA kO) (fun x y s kA kO=>L81x1_6n F x.2.2.1 y.2.1 s.1 s.2 kA kO) (le81x1_6 F)
def T81x1c (F:Nat) (p0:List UInt8) (p1:Vector UInt32 8) {β:Type} (k:((Vector UInt32 8))->Option β):Option β:=
 (Option.bind (iter (fun s=>L81x1_4 F p0 s.1 s.2) F ((0:Int),(Vector.replicate 64 (0:UInt32)))) fun z146=>(Option.bind (vat p1 0) fun x147=>(Option.bind (vat p1 1) fun x148=>(Option.bind (vat p1 2) fun x149=>(Option.bind (vat p1 3) fun x150=>(Option.bind (vat p1 4) fun x151=>(Option.bind (vat p1 5) fun x152=>(Option.bind (vat p1 6) fun x153=>(Option.bind (vat p1 7) fun x154=>(Option.bind (iter (fun s=>L81x1_5 F z146 s.1 s.2.1 s.2.2.1 s.2.2.2.1 s.2.2.2.2.1 s.2.2.2.2.2.1 s.2.2.2.2.2.2.1 s.2.2.2.2.2.2.2.1 s.2.2.2.2.2.2.2.2) F (x147,x148,x149,x150,x151,x152,x153,x154,(0:Int))) fun z187=>(Option.bind (iter (fun s=>L81x1_6 F (#v[z187.1,z187.2.1,z187.2.2.1,z187.2.2.2.1,z187.2.2.2.2.1,z187.2.2.2.2.2.1,z187.2.2.2.2.2.2.1,z187.2.2.2.2.2.2.2]:Vector UInt32 8) p1 s.1 s.2) F ((0:Int),p1)) fun z202=>(k z202))))))))))))
def T81x1 (F:Nat) (p0:List UInt8) (p1:Vector UInt32 8):Option ((Vector UInt32 8)):=T81x1c F p0 p1 some
theorem T81x1n (F:Nat) (p0:List UInt8) (p1:Vector UInt32 8) {β:Type} (k:((Vector UInt32 8))->Option β):T81x1c F p0 p1 k=(T81x1 F p0 p1).bind k:=by
 simp only [T81x1,T81x1c,Option.bind_assoc,cond_bind,Option.bind_some,Option.bind_none,elimS_bind]
abbrev cA81x1:List Sh:=[(.pt 0 []),(.ro .u8)]
abbrev cB81x1:List Sh:=[]
abbrev cT81x1:List TSh:=[.blk 134 (.pr (.ar 8 .u32) (.pr (.ar 64 .u8) (.pr .i .un)))]
abbrev cU81x1:List TSh:=[.blk 134 (.pr (.ar 8 .u32) (.pr (.ar 64 .u8) (.pr .i .un)))]
def ct81x1 (F:Nat):Ct:=mkC 1 cA81x1 cT81x1 cB81x1 cU81x1 (fun x y=>T81x1 F x.2.1 y.1.1) (fun x y (z:(Vector UInt32 8))=>((),((z,y.1.2.1,y.1.2.2.1,()),())))
theorem eq81x1 (F:Nat) (x:dens cA81x1) (y:tdens cT81x1):sev (E81x1 F) 1 [([1,0,1],lc81x1_4 F),([1,0,1,1,1,1],lc81x1_5 F),([1,1,1,1,1,1],lc81x1_6 F)] (bodyOf Tryd.f81) [] (mkSt (rng 2) cA81x1 cT81x1 x y) (kFn (E81x1 F) 1 Tryd.f81.results.toList cB81x1 cU81x1 fun p q=>some (p,q)) =
  T81x1c F x.2.1 y.1.1 (fun z=>some ((),((z,y.1.2.1,y.1.2.2.1,()),()))):=by kernel_rfl
theorem ok81x1 (F:Nat):Sound Tryd.prog cfg 81 (ct81x1 F):=
 mkC_ok (E:=E81x1 F) (lp:=[([1,0,1],lc81x1_4 F),([1,0,1,1,1,1],lc81x1_5 F),([1,1,1,1,1,1],lc81x1_6 F)]) (code:=bodyOf Tryd.f81) Tryd.func81 rfl Tryd.ntmps81 rfl rfl cok (cts81x1 F) mixed ⟨lo81x1_4 F,⟨lo81x1_5 F,⟨lo81x1_6 F,trivial⟩⟩⟩ (by kernel_rfl) (fun x y k=>T81x1c F x.2.1 y.1.1 k) (fun x y k=>T81x1n F x.2.1 y.1.1 k) (eq81x1 F)
def E68 (F:Nat):Ev:=⟨cfg,57,ctOf [(81,ct81 F),(81,ct81x1 F)],fun _=>[],ctOf [],fun _=>none,fun _=>none⟩
theorem cts68 (F:Nat):CtsOk Tryd.prog (E68 F):=cts_of (l:=[(81,ct81 F),(81,ct81x1 F)]) (l':=[]) rfl rfl ⟨⟨ok81 F,_,Tryd.func81,rfl,rfl⟩,⟨⟨ok81x1 F,_,Tryd.func81,rfl,rfl⟩,trivial⟩⟩ trivial
def L68_3c (F:Nat) (y28:List UInt8) (y29:Int) (y30:Bool) (y31:Vector UInt32 8) (y32:Vector UInt8 64) {β:Type} (kO:(Za×Ze×Zf)->Option β) (kR:(Zf)->Option β):Option β:=
 (bif y30 then (Option.bind (gslb 64 y29 ((64:Nat):Int)) fun x38=>(Option.bind (gsl y28 ((Nat.min y28.length (x38.2 - x38.1)):Int) (y28.length:Int)) fun x39=>(bif (decide ((w64 (y29 + ((Nat.min y28.length (x38.2 - x38.1)):Int))) < (64:Int))) then (kR (vspl y32 x38.1 y28 (Nat.min y28.length (x38.2 - x38.1)))) else (Option.bind (gslb 64 (0:Int) ((64:Nat):Int)) fun x40=>(Option.bind (T81 F (x40.1,x40.2) y31 (vspl y32 x38.1 y28 (Nat.min y28.length (x38.2 - x38.1)))) fun z41=>(kO (x39,z41,(vspl y32 x38.1 y28 (Nat.min y28.length (x38.2 - x38.1)))))))))) else (kO (y28,y31,y32)))
def L68_3 (F:Nat) (y28:List UInt8) (y29:Int) (y30:Bool) (y31:Vector UInt32 8) (y32:Vector UInt8 64):Option ((Za×Ze×Zf) ⊕ (Zf)):=L68_3c F y28 y29 y30 y31 y32 (fun z=>some (.inl z)) (fun z=>some (.inr z))
theorem L68_3n (F:Nat) (y28:List UInt8) (y29:Int) (y30:Bool) (y31:Vector UInt32 8) (y32:Vector UInt8 64) {β:Type} (kO:(Za×Ze×Zf)->Option β) (kR:(Zf)->Option β):L68_3c F y28 y29 y30 y31 y32 kO kR=(L68_3 F y28 y29 y30 y31 y32).bind (elimS kO kR):=by
 simp only [L68_3,L68_3c,oA,oC,oS,oN,elimS_l,elimS_r,elimS_bind]
def lc68_3 (F:Nat):Lc:=mkK [0,1,4,21] [(.pt 0 []),(.ro .u8),.i,.bo] [.blk 134 (.pr (.ar 8 .u32) (.pr (.ar 64 .u8) (.pr .i .un)))] [0,1] [(.pt 0 []),(.ro .u8)] [.blk 134 (.pr (.ar 8 .u32) (.pr (.ar 64 .u8) (.pr .i .un)))] [] [] [.blk 134 (.pr (.ar 8 .u32) (.pr (.ar 64 .u8) (.pr .i .un)))] (fun x y=>L68_3 F x.2.1 x.2.2.1 x.2.2.2.1 y.1.1 y.1.2.1) (fun x y (z:Za×Ze×Zf)=>(((),z.1,()),((z.2.1,z.2.2,y.1.2.2.1,()),()))) (fun x y (z:Zf)=>((),((y.1.1,z,y.1.2.2.1,()),())))
theorem lo68_3 (F:Nat):LcOk Tryd.prog (E68 F) 1 (lc68_3 F) (cAt (bodyOf Tryd.f68) [1,0,1,1]):=
 mkK_ok (lp:=[]) cok (cts68 F) mixed trivial (by kernel_rfl) (fun x y kO kR=>L68_3c F x.2.1 x.2.2.1 x.2.2.2.1 y.1.1 y.1.2.1 kO kR) (fun x y kO kR=>L68_3n F x.2.1 x.2.2.1 x.2.2.2.1 y.1.1 y.1.2.1 kO kR) (fun _ _=>by kernel_rfl)
def L68_4c (F:Nat) (y43:List UInt8) (y44:Vector UInt32 8) {β:Type} (kA:(Za×Ze)->Option β) (kO:(Za×Ze)->Option β):Option β:=
 (bif (decide ((64:Int)≤(y43.length:Int))) then (Option.bind (gsl y43 (0:Int) (64:Int)) fun x50=>(Option.bind (T81x1 F x50 y44) fun z51=>(Option.bind (gsl y43 (64:Int) (y43.length:Int)) fun x52=>(kA (x52,z51))))) else (kO (y43,y44)))
def L68_4 (F:Nat) (y43:List UInt8) (y44:Vector UInt32 8):=L68_4c F y43 y44 (fun s=>some (Sum.inl s)) (fun z=>some (Sum.inr z))
def lc68_4 (F:Nat):Lc:=mkL [0,1] [(.pt 0 []),(.ro .u8)] [.blk 134 (.pr (.ar 8 .u32) (.pr (.ar 64 .u8) (.pr .i .un)))] [0,1] [(.pt 0 []),(.ro .u8)] [.blk 134 (.pr (.ar 8 .u32) (.pr (.ar 64 .u8) (.pr .i .un)))] F (fun x y (s:Za×Ze)=>L68_4 F s.1 s.2) (fun x y=>(x.2.1,y.1.1)) (fun x y (z:Za×Ze)=>(((),z.1,()),((z.2,y.1.2.1,y.1.2.2.1,()),())))
theorem lo68_4 (F:Nat):LcOk Tryd.prog (E68 F) 1 (lc68_4 F) (cAt (bodyOf Tryd.f68) [0,1,1,1]):=
 mkL_ok (lp:=[]) (id:=0) (b:=cAt (bodyOf Tryd.f68) (0 :: 0 :: [0,1,1,1])) cok (cts68 F) mixed trivial (by kernel_rfl) (by kernel_rfl) (fun x y s=>((),s.1,())) (fun x y s=>((s.2,y.1.2.1,y.1.2.2.1,()),())) (fun x y=>rfl) (fun x y=>rfl) (fun x y s kA kO=>L68_4c F s.1 s.2 kA kO) (fun _ _ _ _ _=>by simp only [L68_4,L68_4c,oA,oC,oS,oN,elimS_l,elimS_r,elimS_bind]) (fun _ _ _=>by kernel_rfl)
def T68c (F:Nat) (p0:List UInt8) (p1:Vector UInt32 8) (p2:Vector UInt8 64) (p3:Int) {β:Type} (k:(Ze×Zf×Int)->Option β):Option β:=
 (Option.bind (L68_3 F p0 (Int.tmod p3 (64:Int)) (decide ((0:Int) < (Int.tmod p3 (64:Int)))) p1 p2) fun z42=>elimS (fun z42=>(Option.bind (iter (fun s=>L68_4 F s.1 s.2) F (z42.1,z42.2.1)) fun z53=>(Option.bind (gslb 64 (0:Int) ((64:Nat):Int)) fun x54=>(k (z53.2,(vspl z42.2.2 x54.1 z53.1 (Nat.min z53.1.length (x54.2 - x54.1))),(w64 (p3 + (p0.length:Int)))))))) (fun z42=>(k (p1,z42,(w64 (p3 + (p0.length:Int)))))) z42)
def T68 (F:Nat) (p0:List UInt8) (p1:Vector UInt32 8) (p2:Vector UInt8 64) (p3:Int):=T68c F p0 p1 p2 p3 some
def ct68 (F:Nat):Ct:=mkC 1 [(.pt 0 []),(.ro .u8)] [.blk 134 (.pr (.ar 8 .u32) (.pr (.ar 64 .u8) (.pr .i .un)))] [] [.blk 134 (.pr (.ar 8 .u32) (.pr (.ar 64 .u8) (.pr .i .un)))] (fun x y=>T68 F x.2.1 y.1.1 y.1.2.1 y.1.2.2.1) (fun x y (z:Ze×Zf×Int)=>((),((z.1,z.2.1,z.2.2,()),())))
theorem ok68 (F:Nat):Sound Tryd.prog cfg 68 (ct68 F):=
 mkC_ok (E:=E68 F) (lp:=[([1,0,1,1],lc68_3 F),([0,1,1,1],lc68_4 F)]) (code:=bodyOf Tryd.f68) Tryd.func68 rfl Tryd.ntmps68 rfl rfl cok (cts68 F) mixed ⟨lo68_3 F,⟨lo68_4 F,trivial⟩⟩ (by kernel_rfl) (fun x y k=>T68c F x.2.1 y.1.1 y.1.2.1 y.1.2.2.1 k) (fun _ _ _=>by simp only [T68,T68c,oA,oC,oS,oN,elimS_bind]) (fun _ _=>by kernel_rfl)
def E69 (F:Nat):Ev:=⟨cfg,68,ctOf [(68,ct68 F)],fun _=>[],ctOf [],fun _=>none,fun _=>none⟩
theorem cts69 (F:Nat):CtsOk Tryd.prog (E69 F):=cts_of (l:=[(68,ct68 F)]) (l':=[]) rfl rfl ⟨⟨ok68 F,_,Tryd.func68,rfl,rfl⟩,trivial⟩ trivial
def L69_4c (F:Nat) (y30:Ze×Zf×Int×Unit) (y34:List UInt8) {β:Type} (kA:(Za)->Option β) (kO:(Za)->Option β):Option β:=
 (bif ((Int.tmod (w64 (y30.2.2.1 + (y34.length:Int))) (64:Int)) != (56:Int)) then (Option.bind (gapp y34 ([(UInt8.ofNat 0)]:List UInt8)) fun x36=>(kA x36)) else (kO y34))
def L69_4 (F:Nat) (y30:Ze×Zf×Int×Unit) (y34:List UInt8):=L69_4c F y30 y34 (fun s=>some (Sum.inl s)) (fun z=>some (Sum.inr z))
def lc69_4 (F:Nat):Lc:=mkL [0,3,4] [(.re (.pr (.ar 8 .u32) (.pr (.ar 64 .u8) (.pr .i .un)))),(.pt 0 []),(.rw 1)] [.blk 134 (.pr (.ar 8 .u32) (.pr (.ar 64 .u8) (.pr .i .un))),.row 5 .u8] [0,3,4] [(.re (.pr (.ar 8 .u32) (.pr (.ar 64 .u8) (.pr .i .un)))),(.pt 0 []),(.rw 1)] [.blk 134 (.pr (.ar 8 .u32) (.pr (.ar 64 .u8) (.pr .i .un))),.row 5 .u8] F (fun x y (s:Za)=>L69_4 F x.1 s) (fun x y=>y.2.1) (fun x y (z:Za)=>((x.1,(),(),()),((y.1.1,y.1.2.1,y.1.2.2.1,()),z,())))
theorem lo69_4 (F:Nat):LcOk Tryd.prog (E69 F) 0 (lc69_4 F) (cAt (bodyOf Tryd.f69) [0,1,1,1]):=
 mkL_ok (lp:=[]) (id:=0) (b:=cAt (bodyOf Tryd.f69) (0 :: 0 :: [0,1,1,1])) cok (cts69 F) mixed trivial (by kernel_rfl) (by kernel_rfl) (fun x y s=>(x.1,(),(),())) (fun x y s=>((y.1.1,y.1.2.1,y.1.2.2.1,()),s,())) (fun x y=>rfl) (fun x y=>rfl) (fun x y s kA kO=>L69_4c F x.1 s kA kO) (fun _ _ _ _ _=>by simp only [L69_4,L69_4c,oA,oC,oS,oN,elimS_l,elimS_r,elimS_bind]) (fun _ _ _=>by kernel_rfl)
def L69_5c (F:Nat) (y38:UInt64) (y39:Int) (y43:List UInt8) {β:Type} (kA:(Int×Za)->Option β) (kO:(Za)->Option β):Option β:=
 (bif (decide ((0:Int)≤y39)) then (Option.bind (gnn y39) fun x46=>(Option.bind (gapp y43 ([((shr64 y38 x46).toUInt8)]:List UInt8)) fun x47=>(kA ((w64 (y39 - (8:Int))),x47)))) else (kO y43))
def L69_5 (F:Nat) (y38:UInt64) (y39:Int) (y43:List UInt8):=L69_5c F y38 y39 y43 (fun s=>some (Sum.inl s)) (fun z=>some (Sum.inr z))
def lc69_5 (F:Nat):Lc:=mkL [3,4,5,6] [(.pt 0 []),(.rw 1),.u64,.i] [.blk 134 (.pr (.ar 8 .u32) (.pr (.ar 64 .u8) (.pr .i .un))),.row 5 .u8] [3,4] [(.pt 0 []),(.rw 1)] [.blk 134 (.pr (.ar 8 .u32) (.pr (.ar 64 .u8) (.pr .i .un))),.row 5 .u8] F (fun x y (s:Int×Za)=>L69_5 F x.2.2.1 s.1 s.2) (fun x y=>(x.2.2.2.1,y.2.1)) (fun x y (z:Za)=>(((),(),()),((y.1.1,y.1.2.1,y.1.2.2.1,()),z,())))
theorem lo69_5 (F:Nat):LcOk Tryd.prog (E69 F) 0 (lc69_5 F) (cAt (bodyOf Tryd.f69) [1,0,1,1,1,1,1]):=
 mkL_ok (lp:=[]) (id:=2) (b:=cAt (bodyOf Tryd.f69) (0 :: 0 :: [1,0,1,1,1,1,1])) cok (cts69 F) mixed trivial (by kernel_rfl) (by kernel_rfl) (fun x y s=>((),(),x.2.2.1,s.1,())) (fun x y s=>((y.1.1,y.1.2.1,y.1.2.2.1,()),s.2,())) (fun x y=>rfl) (fun x y=>rfl) (fun x y s kA kO=>L69_5c F x.2.2.1 s.1 s.2 kA kO) (fun _ _ _ _ _=>by simp only [L69_5,L69_5c,oA,oC,oS,oN,elimS_l,elimS_r,elimS_bind]) (fun _ _ _=>by kernel_rfl)
def L69_6c (F:Nat) (y51:Vector UInt32 8) (y52:Int) (y53:List UInt8) {β:Type} (kA:(Int×Za)->Option β) (kO:(Za)->Option β):Option β:=
 (bif (decide (y52 < (8:Int))) then (Option.bind (vix y51 y52) fun x56=>(Option.bind (gapp y53 ([((shr32 x56 ((UInt64.ofNat 24).toNat)).toUInt8),((shr32 x56 ((UInt64.ofNat 16).toNat)).toUInt8),((shr32 x56 ((UInt64.ofNat 8).toNat)).toUInt8),(x56.toUInt8)]:List UInt8)) fun x57=>(kA ((w64 (y52 + (1:Int))),x57)))) else (kO y53))
def L69_6 (F:Nat) (y51:Vector UInt32 8) (y52:Int) (y53:List UInt8):=L69_6c F y51 y52 y53 (fun s=>some (Sum.inl s)) (fun z=>some (Sum.inr z))
def lc69_6 (F:Nat):Lc:=mkL [7,47,48] [(.rw 0),(.ar 8 .u32),.i] [.row 5 .u8] [7] [(.rw 0)] [.row 5 .u8] F (fun x y (s:Int×Za)=>L69_6 F x.2.1 s.1 s.2) (fun x y=>(x.2.2.1,y.1)) (fun x y (z:Za)=>(((),()),(z,())))
theorem lo69_6 (F:Nat):LcOk Tryd.prog (E69 F) 0 (lc69_6 F) (cAt (bodyOf Tryd.f69) [1,0,1,1,1,1,1,1,1,1]):=
 mkL_ok (lp:=[]) (id:=4) (b:=cAt (bodyOf Tryd.f69) (0 :: 0 :: [1,0,1,1,1,1,1,1,1,1])) cok (cts69 F) mixed trivial (by kernel_rfl) (by kernel_rfl) (fun x y s=>((),x.2.1,s.1,())) (fun x y s=>(s.2,())) (fun x y=>rfl) (fun x y=>rfl) (fun x y s kA kO=>L69_6c F x.2.1 s.1 s.2 kA kO) (fun _ _ _ _ _=>by simp only [L69_6,L69_6c,oA,oC,oS,oN,elimS_l,elimS_r,elimS_bind]) (fun _ _ _=>by kernel_rfl)
def T69c (F:Nat) (p0:Ze×Zf×Int×Unit) {β:Type} (k:(Za)->Option β):Option β:=
 (Option.bind (iter (fun s=>L69_4 F p0 s) F ([(UInt8.ofNat 128)]:List UInt8)) fun z37=>(Option.bind (iter (fun s=>L69_5 F ((UInt64.ofInt p0.2.2.1) * (UInt64.ofNat 8)) s.1 s.2) F ((56:Int),z37)) fun z48=>(Option.bind (T68 F z48 p0.1 p0.2.1 p0.2.2.1) fun z49=>(Option.bind (gmake (0:UInt8) (0:Int) (32:Int)) fun x50=>(Option.bind (iter (fun s=>L69_6 F z49.1 s.1 s.2) F ((0:Int),x50)) fun z58=>(k z58))))))
def T69 (F:Nat) (p0:Ze×Zf×Int×Unit):=T69c F p0 some
def ct69 (F:Nat):Ct:=mkC 0 [(.re (.pr (.ar 8 .u32) (.pr (.ar 64 .u8) (.pr .i .un))))] [] [.str] [] (fun x y=>T69 F x.1) (fun x y (z:Za)=>((z,()),()))
theorem ok69 (F:Nat):Sound Tryd.prog cfg 69 (ct69 F):=
 mkC_ok (E:=E69 F) (lp:=[([0,1,1,1],lc69_4 F),([1,0,1,1,1,1,1],lc69_5 F),([1,0,1,1,1,1,1,1,1,1],lc69_6 F)]) (code:=bodyOf Tryd.f69) Tryd.func69 rfl Tryd.ntmps69 rfl rfl cok (cts69 F) mixed ⟨lo69_4 F,⟨lo69_5 F,⟨lo69_6 F,trivial⟩⟩⟩ (by kernel_rfl) (fun x y k=>T69c F x.1 k) (fun _ _ _=>by simp only [T69,T69c,oA,oC,oS,oN,elimS_bind]) (fun _ _=>by kernel_rfl)
def E51 (F:Nat):Ev:=⟨cfg,13,ctOf [(67,ct67 F),(68,ct68 F),(69,ct69 F)],fun _=>[],ctOf [],fun _=>none,fun _=>none⟩
theorem cts51 (F:Nat):CtsOk Tryd.prog (E51 F):=cts_of (l:=[(67,ct67 F),(68,ct68 F),(69,ct69 F)]) (l':=[]) rfl rfl ⟨⟨ok67 F,_,Tryd.func67,rfl,rfl⟩,⟨⟨ok68 F,_,Tryd.func68,rfl,rfl⟩,⟨⟨ok69 F,_,Tryd.func69,rfl,rfl⟩,trivial⟩⟩⟩ trivial
def T51c (F:Nat) (p0:List UInt8) {β:Type} (k:(Za)->Option β):Option β:=
 (Option.bind (T67 F) fun z5=>(Option.bind (T68 F ([(UInt8.ofNat 0)]:List UInt8) z5.1 z5.2.1 z5.2.2) fun z6=>(Option.bind (T68 F p0 z6.1 z6.2.1 z6.2.2) fun z7=>(Option.bind (T69 F (z7.1,z7.2.1,z7.2.2,())) fun z8=>(k z8)))))
def T51 (F:Nat) (p0:List UInt8):=T51c F p0 some
def ct51 (F:Nat):Ct:=mkC 0 [(.ro .u8)] [] [.str] [] (fun x y=>T51 F x.1) (fun x y (z:Za)=>((z,()),()))
theorem ok51 (F:Nat):Sound Tryd.prog cfg 51 (ct51 F):=
 mkC_ok (E:=E51 F) (lp:=[]) (code:=bodyOf Tryd.f51) Tryd.func51 rfl Tryd.ntmps51 rfl rfl cok (cts51 F) mixed trivial (by kernel_rfl) (fun x y k=>T51c F x.1 k) (fun _ _ _=>by simp only [T51,T51c,oA,oC,oS,oN,elimS_bind]) (fun _ _=>by kernel_rfl)
def E37 (F:Nat):Ev:=⟨cfg,31,ctOf [(51,ct51 F)],fun _=>[],ctOf [],fun _=>none,fun _=>none⟩
theorem cts37 (F:Nat):CtsOk Tryd.prog (E37 F):=cts_of (l:=[(51,ct51 F)]) (l':=[]) rfl rfl ⟨⟨ok51 F,_,Tryd.func51,rfl,rfl⟩,trivial⟩ trivial
def L37_2c (F:Nat) (y26:Int) (y25:List UInt8) (y27:List Za) {β:Type} (kA:(Za×Zd)->Option β) (kO:(Zd)->Option β):Option β:=
 (bif (decide ((0:Int) < (y25.length:Int))) then (Option.bind (gsl y25 (0:Int) (if (y25.length:Int) < y26 then (y25.length:Int) else y26)) fun x32=>(Option.bind (T51 F x32) fun z33=>(Option.bind (gapp y27 ([z33]:List Za)) fun x34=>(Option.bind (gsl y25 (if (y25.length:Int) < y26 then (y25.length:Int) else y26) (y25.length:Int)) fun x35=>(kA (x35,x34)))))) else (kO y27))
def L37_2 (F:Nat) (y26:Int) (y25:List UInt8) (y27:List Za):=L37_2c F y26 y25 y27 (fun s=>some (Sum.inl s)) (fun z=>some (Sum.inr z))
def lc37_2 (F:Nat):Lc:=mkL [0,1,6] [(.ro .u8),.i,(.rw 0)] [.row 9 .s] [6] [(.rw 0)] [.row 9 .s] F (fun x y (s:Za×Zd)=>L37_2 F x.2.1 s.1 s.2) (fun x y=>(x.1,y.1)) (fun x y (z:Zd)=>(((),()),(z,())))
theorem lo37_2 (F:Nat):LcOk Tryd.prog (E37 F) 0 (lc37_2 F) (cAt (bodyOf Tryd.f37) [0,1,1,1,1]):=
 mkL_ok (lp:=[]) (id:=0) (b:=cAt (bodyOf Tryd.f37) (0 :: 0 :: [0,1,1,1,1])) cok (cts37 F) mixed trivial (by kernel_rfl) (by kernel_rfl) (fun x y s=>(s.1,x.2.1,(),())) (fun x y s=>(s.2,())) (fun x y=>rfl) (fun x y=>rfl) (fun x y s kA kO=>L37_2c F x.2.1 s.1 s.2 kA kO) (fun _ _ _ _ _=>by simp only [L37_2,L37_2c,oA,oC,oS,oN,elimS_l,elimS_r,elimS_bind]) (fun _ _ _=>by kernel_rfl)
def T37c (F:Nat) (p0:List UInt8) (p1:Int) {β:Type} (k:(Int×Zd)->Option β):Option β:=
 (bif (decide (p1 < (1:Int))) then (k ((1:Int),([]:List Za))) else (bif (decide ((1048576:Int) < (p0.length:Int))) then (k ((2:Int),([]:List Za))) else (Option.bind (iter (fun s=>L37_2 F p1 s.1 s.2) F (p0,([]:List Za))) fun z36=>(k ((0:Int),z36)))))
def T37 (F:Nat) (p0:List UInt8) (p1:Int):=T37c F p0 p1 some
def ct37 (F:Nat):Ct:=mkC 0 [(.ro .u8),.i] [] [(.rw 0),.i] [.row 9 .s] (fun x y=>T37 F x.1 x.2.1) (fun x y (z:Int×Zd)=>(((),z.1,()),(z.2,())))
theorem ok37 (F:Nat):Sound Tryd.prog cfg 37 (ct37 F):=
 mkC_ok (E:=E37 F) (lp:=[([0,1,1,1,1],lc37_2 F)]) (code:=bodyOf Tryd.f37) Tryd.func37 rfl Tryd.ntmps37 rfl rfl cok (cts37 F) mixed ⟨lo37_2 F,trivial⟩ (by kernel_rfl) (fun x y k=>T37c F x.1 x.2.1 k) (fun _ _ _=>by simp only [T37,T37c,oA,oC,oS,oN,elimS_bind]) (fun _ _=>by kernel_rfl)
def E52 (F:Nat):Ev:=⟨cfg,10,ctOf [(67,ct67 F),(68,ct68 F),(69,ct69 F)],fun _=>[],ctOf [],fun _=>none,fun _=>none⟩
theorem cts52 (F:Nat):CtsOk Tryd.prog (E52 F):=cts_of (l:=[(67,ct67 F),(68,ct68 F),(69,ct69 F)]) (l':=[]) rfl rfl ⟨⟨ok67 F,_,Tryd.func67,rfl,rfl⟩,⟨⟨ok68 F,_,Tryd.func68,rfl,rfl⟩,⟨⟨ok69 F,_,Tryd.func69,rfl,rfl⟩,trivial⟩⟩⟩ trivial
def T52c (F:Nat) (p0:List UInt8) {β:Type} (k:(Za)->Option β):Option β:=
 (Option.bind (T67 F) fun z4=>(Option.bind (T68 F p0 z4.1 z4.2.1 z4.2.2) fun z5=>(Option.bind (T69 F (z5.1,z5.2.1,z5.2.2,())) fun z6=>(k z6))))
def T52 (F:Nat) (p0:List UInt8):=T52c F p0 some
def ct52 (F:Nat):Ct:=mkC 0 [(.ro .u8)] [] [.str] [] (fun x y=>T52 F x.1) (fun x y (z:Za)=>((z,()),()))
theorem ok52 (F:Nat):Sound Tryd.prog cfg 52 (ct52 F):=
 mkC_ok (E:=E52 F) (lp:=[]) (code:=bodyOf Tryd.f52) Tryd.func52 rfl Tryd.ntmps52 rfl rfl cok (cts52 F) mixed trivial (by kernel_rfl) (fun x y k=>T52c F x.1 k) (fun _ _ _=>by simp only [T52,T52c,oA,oC,oS,oN,elimS_bind]) (fun _ _=>by kernel_rfl)
def str83_0:List UInt8:=[0,1,2,2,3,3,3,3,4,4,4,4,4,4,4,4,5,5,5,5,5,5,5,5,5,5,5,5,5,5,5,5,6,6,6,6,6,6,6,6,6,6,6,6,6,6,6,6,6,6,6,6,6,6,6,6,6,6,6,6,6,6,6,6,7,7,7,7,7,7,7,7,7,7,7,7,7,7,7,7,7,7,7,7,7,7,7,7,7,7,7,7,7,7,7,7,7,7,7,7,7,7,7,7,7,7,7,7,7,7,7,7,7,7,7,7,7,7,7,7,7,7,7,7,7,7,7,7,8,8,8,8,8,8,8,8,8,8,8,8,8,8,8,8,8,8,8,8,8,8,8,8,8,8,8,8,8,8,8,8,8,8,8,8,8,8,8,8,8,8,8,8,8,8,8,8,8,8,8,8,8,8,8,8,8,8,8,8,8,8,8,8,8,8,8,8,8,8,8,8,8,8,8,8,8,8,8,8,8,8,8,8,8,8,8,8,8,8,8,8,8,8,8,8,8,8,8,8,8,8,8,8,8,8,8,8,8,8,8,8,8,8,8,8,8,8,8,8,8,8,8,8,8,8,8,8]
def E83 (F:Nat):Ev:=⟨cfg,25,ctOf [],fun _=>[],ctOf [],fun _=>none,fun _=>none⟩
theorem cts83 (F:Nat):CtsOk Tryd.prog (E83 F):=cts_of (l:=[]) (l':=[]) rfl rfl trivial trivial
def T83c (F:Nat) (p0:UInt64) {β:Type} (k:Int->Option β):Option β:=
 (bif (decide ((UInt64.ofNat 4294967296)≤p0)) then (bif (decide ((UInt64.ofNat 65536)≤(shr64 p0 ((UInt64.ofNat 32).toNat)))) then (bif (decide ((UInt64.ofNat 256)≤(shr64 (shr64 p0 ((UInt64.ofNat 32).toNat)) ((UInt64.ofNat 16).toNat)))) then (Option.bind (ix (str83_0) (((shr64 (shr64 (shr64 p0 ((UInt64.ofNat 32).toNat)) ((UInt64.ofNat 16).toNat)) ((UInt64.ofNat 8).toNat)).toUInt8).toNat:Int)) fun x9=>(k (w64 ((w64 ((w64 ((32:Int) + (16:Int))) + (8:Int))) + (x9.toNat:Int))))) else (Option.bind (ix (str83_0) (((shr64 (shr64 p0 ((UInt64.ofNat 32).toNat)) ((UInt64.ofNat 16).toNat)).toUInt8).toNat:Int)) fun x10=>(k (w64 ((w64 ((32:Int) + (16:Int))) + (x10.toNat:Int)))))) else (bif (decide ((UInt64.ofNat 256)≤(shr64 p0 ((UInt64.ofNat 32).toNat)))) then (Option.bind (ix (str83_0) (((shr64 (shr64 p0 ((UInt64.ofNat 32).toNat)) ((UInt64.ofNat 8).toNat)).toUInt8).toNat:Int)) fun x11=>(k (w64 ((w64 ((32:Int) + (8:Int))) + (x11.toNat:Int))))) else (Option.bind (ix (str83_0) (((shr64 p0 ((UInt64.ofNat 32).toNat)).toUInt8).toNat:Int)) fun x12=>(k (w64 ((32:Int) + (x12.toNat:Int))))))) else (bif (decide ((UInt64.ofNat 65536)≤p0)) then (bif (decide ((UInt64.ofNat 256)≤(shr64 p0 ((UInt64.ofNat 16).toNat)))) then (Option.bind (ix (str83_0) (((shr64 (shr64 p0 ((UInt64.ofNat 16).toNat)) ((UInt64.ofNat 8).toNat)).toUInt8).toNat:Int)) fun x13=>(k (w64 ((w64 ((w64 ((0:Int) + (16:Int))) + (8:Int))) + (x13.toNat:Int))))) else (Option.bind (ix (str83_0) (((shr64 p0 ((UInt64.ofNat 16).toNat)).toUInt8).toNat:Int)) fun x14=>(k (w64 ((w64 ((0:Int) + (16:Int))) + (x14.toNat:Int)))))) else (bif (decide ((UInt64.ofNat 256)≤p0)) then (Option.bind (ix (str83_0) (((shr64 p0 ((UInt64.ofNat 8).toNat)).toUInt8).toNat:Int)) fun x15=>(k (w64 ((w64 ((0:Int) + (8:Int))) + (x15.toNat:Int))))) else (Option.bind (ix (str83_0) ((p0.toUInt8).toNat:Int)) fun x16=>(k (w64 ((0:Int) + (x16.toNat:Int))))))))
def T83 (F:Nat) (p0:UInt64):=T83c F p0 some
def ct83 (F:Nat):Ct:=mkC 0 [.u64] [] [.i] [] (fun x y=>T83 F x.1) (fun x y (z:Int)=>((z,()),()))
theorem ok83 (F:Nat):Sound Tryd.prog cfg 83 (ct83 F):=
 mkC_ok (E:=E83 F) (lp:=[]) (code:=bodyOf Tryd.f83) Tryd.func83 rfl Tryd.ntmps83 rfl rfl cok (cts83 F) mixed trivial (by kernel_rfl) (fun x y k=>T83c F x.1 k) (fun _ _ _=>by simp only [T83,T83c,oA,oC,oS,oN,elimS_bind]) (fun _ _=>by kernel_rfl)
def E70 (F:Nat):Ev:=⟨cfg,8,ctOf [(83,ct83 F)],fun _=>[],ctOf [],fun _=>none,fun _=>none⟩
theorem cts70 (F:Nat):CtsOk Tryd.prog (E70 F):=cts_of (l:=[(83,ct83 F)]) (l':=[]) rfl rfl ⟨⟨ok83 F,_,Tryd.func83,rfl,rfl⟩,trivial⟩ trivial
def T70c (F:Nat) (p0:UInt64) {β:Type} (k:Int->Option β):Option β:=
 (Option.bind (T83 F p0) fun z2=>(k z2))
def T70 (F:Nat) (p0:UInt64):=T70c F p0 some
def ct70 (F:Nat):Ct:=mkC 0 [.u64] [] [.i] [] (fun x y=>T70 F x.1) (fun x y (z:Int)=>((z,()),()))
theorem ok70 (F:Nat):Sound Tryd.prog cfg 70 (ct70 F):=
 mkC_ok (E:=E70 F) (lp:=[]) (code:=bodyOf Tryd.f70) Tryd.func70 rfl Tryd.ntmps70 rfl rfl cok (cts70 F) mixed trivial (by kernel_rfl) (fun x y k=>T70c F x.1 k) (fun _ _ _=>by simp only [T70,T70c,oA,oC,oS,oN,elimS_bind]) (fun _ _=>by kernel_rfl)
def E53 (F:Nat):Ev:=⟨cfg,9,ctOf [(70,ct70 F)],fun _=>[],ctOf [],fun _=>none,fun _=>none⟩
theorem cts53 (F:Nat):CtsOk Tryd.prog (E53 F):=cts_of (l:=[(70,ct70 F)]) (l':=[]) rfl rfl ⟨⟨ok70 F,_,Tryd.func70,rfl,rfl⟩,trivial⟩ trivial
def T53c (F:Nat) (p0:Int) {β:Type} (k:Int->Option β):Option β:=
 (Option.bind (T70 F (UInt64.ofInt (w64 (p0 - (1:Int))))) fun z3=>(Option.bind (gnn (w64 (z3 - (1:Int)))) fun x4=>(k (w64 ((1:Int) * 2 ^ min x4 64)))))
def T53 (F:Nat) (p0:Int):=T53c F p0 some
def ct53 (F:Nat):Ct:=mkC 0 [.i] [] [.i] [] (fun x y=>T53 F x.1) (fun x y (z:Int)=>((z,()),()))
theorem ok53 (F:Nat):Sound Tryd.prog cfg 53 (ct53 F):=
 mkC_ok (E:=E53 F) (lp:=[]) (code:=bodyOf Tryd.f53) Tryd.func53 rfl Tryd.ntmps53 rfl rfl cok (cts53 F) mixed trivial (by kernel_rfl) (fun x y k=>T53c F x.1 k) (fun _ _ _=>by simp only [T53,T53c,oA,oC,oS,oN,elimS_bind]) (fun _ _=>by kernel_rfl)
def E71 (F:Nat):Ev:=⟨cfg,20,ctOf [(67,ct67 F),(68,ct68 F),(69,ct69 F)],fun _=>[],ctOf [],fun _=>none,fun _=>none⟩
theorem cts71 (F:Nat):CtsOk Tryd.prog (E71 F):=cts_of (l:=[(67,ct67 F),(68,ct68 F),(69,ct69 F)]) (l':=[]) rfl rfl ⟨⟨ok67 F,_,Tryd.func67,rfl,rfl⟩,⟨⟨ok68 F,_,Tryd.func68,rfl,rfl⟩,⟨⟨ok69 F,_,Tryd.func69,rfl,rfl⟩,trivial⟩⟩⟩ trivial
def L71_2c (F:Nat) (y17:List Za) (y18:Int) (y19:Int) (y20:Vector UInt32 8) (y21:Vector UInt8 64) (y22:Int) {β:Type} (kA:(Int×Ze×Zf×Int)->Option β) (kO:(Ze×Zf×Int)->Option β):Option β:=
 (bif (decide (y19 < y18)) then (Option.bind (ix y17 y19) fun x26=>(Option.bind (gstr x26) fun x27=>(Option.bind (T68 F x27 y20 y21 y22) fun z28=>(kA ((w64 (y19 + (1:Int))),z28.1,z28.2.1,z28.2.2))))) else (kO (y20,y21,y22)))
def L71_2 (F:Nat) (y17:List Za) (y18:Int) (y19:Int) (y20:Vector UInt32 8) (y21:Vector UInt8 64) (y22:Int):=L71_2c F y17 y18 y19 y20 y21 y22 (fun s=>some (Sum.inl s)) (fun z=>some (Sum.inr z))
def lc71_2 (F:Nat):Lc:=mkL [3,7,8,9] [(.pt 0 []),(.ro .s),.i,.i] [.blk 134 (.pr (.ar 8 .u32) (.pr (.ar 64 .u8) (.pr .i .un)))] [3] [(.pt 0 [])] [.blk 134 (.pr (.ar 8 .u32) (.pr (.ar 64 .u8) (.pr .i .un)))] F (fun x y (s:Int×Ze×Zf×Int)=>L71_2 F x.2.1 x.2.2.1 s.1 s.2.1 s.2.2.1 s.2.2.2) (fun x y=>(x.2.2.2.1,y.1.1,y.1.2.1,y.1.2.2.1)) (fun x y (z:Ze×Zf×Int)=>(((),()),((z.1,z.2.1,z.2.2,()),())))
theorem lo71_2 (F:Nat):LcOk Tryd.prog (E71 F) 0 (lc71_2 F) (cAt (bodyOf Tryd.f71) [1,0,1,1]):=
 mkL_ok (lp:=[]) (id:=0) (b:=cAt (bodyOf Tryd.f71) (0 :: 0 :: [1,0,1,1])) cok (cts71 F) mixed trivial (by kernel_rfl) (by kernel_rfl) (fun x y s=>((),x.2.1,x.2.2.1,s.1,())) (fun x y s=>((s.2.1,s.2.2.1,s.2.2.2,()),())) (fun x y=>rfl) (fun x y=>rfl) (fun x y s kA kO=>L71_2c F x.2.1 x.2.2.1 s.1 s.2.1 s.2.2.1 s.2.2.2 kA kO) (fun _ _ _ _ _=>by simp only [L71_2,L71_2c,oA,oC,oS,oN,elimS_l,elimS_r,elimS_bind]) (fun _ _ _=>by kernel_rfl)
def T71c (F:Nat) (p0:List Za) {β:Type} (k:(Za)->Option β):Option β:=
 (Option.bind (T67 F) fun z16=>(Option.bind (iter (fun s=>L71_2 F p0 (p0.length:Int) s.1 s.2.1 s.2.2.1 s.2.2.2) F ((0:Int),z16.1,z16.2.1,z16.2.2)) fun z29=>(Option.bind (T69 F (z29.1,z29.2.1,z29.2.2,())) fun z30=>(k z30))))
def T71 (F:Nat) (p0:List Za):=T71c F p0 some
def ct71 (F:Nat):Ct:=mkC 0 [(.ro .s)] [] [.str] [] (fun x y=>T71 F x.1) (fun x y (z:Za)=>((z,()),()))
theorem ok71 (F:Nat):Sound Tryd.prog cfg 71 (ct71 F):=
 mkC_ok (E:=E71 F) (lp:=[([1,0,1,1],lc71_2 F)]) (code:=bodyOf Tryd.f71) Tryd.func71 rfl Tryd.ntmps71 rfl rfl cok (cts71 F) mixed ⟨lo71_2 F,trivial⟩ (by kernel_rfl) (fun x y k=>T71c F x.1 k) (fun _ _ _=>by simp only [T71,T71c,oA,oC,oS,oN,elimS_bind]) (fun _ _=>by kernel_rfl)
def E54 (F:Nat):Ev:=⟨cfg,9,ctOf [(71,ct71 F)],fun _=>[],ctOf [],fun _=>none,fun _=>none⟩
theorem cts54 (F:Nat):CtsOk Tryd.prog (E54 F):=cts_of (l:=[(71,ct71 F)]) (l':=[]) rfl rfl ⟨⟨ok71 F,_,Tryd.func71,rfl,rfl⟩,trivial⟩ trivial
def T54c (F:Nat) (p0:List UInt8) (p1:List UInt8) {β:Type} (k:(Za)->Option β):Option β:=
 (Option.bind (T71 F ([([1]:List UInt8),p0,p1]:List Za)) fun z2=>(k z2))
def T54 (F:Nat) (p0:List UInt8) (p1:List UInt8):=T54c F p0 p1 some
def ct54 (F:Nat):Ct:=mkC 0 [.str,.str] [] [.str] [] (fun x y=>T54 F x.1 x.2.1) (fun x y (z:Za)=>((z,()),()))
theorem ok54 (F:Nat):Sound Tryd.prog cfg 54 (ct54 F):=
 mkC_ok (E:=E54 F) (lp:=[]) (code:=bodyOf Tryd.f54) Tryd.func54 rfl Tryd.ntmps54 rfl rfl cok (cts54 F) mixed trivial (by kernel_rfl) (fun x y k=>T54c F x.1 x.2.1 k) (fun _ _ _=>by simp only [T54,T54c,oA,oC,oS,oN,elimS_bind]) (fun _ _=>by kernel_rfl)
def T38rc (F:Nat) (rc:(Zd->Option (Za))) (p0:List Za) {β:Type} (k:(Za)->Option β):Option β:=
 (bif ((p0.length:Int) == (0:Int)) then (Option.bind (T52 F ([]:List UInt8)) fun z9=>(k z9)) else (bif ((p0.length:Int) == (1:Int)) then (Option.bind (ix p0 (0:Int)) fun x10=>(k x10)) else (Option.bind (T53 F (p0.length:Int)) fun z11=>(Option.bind (gsl p0 (0:Int) z11) fun x12=>(Option.bind (gsl p0 z11 (p0.length:Int)) fun x13=>(Option.bind (rc x12) fun z14=>(Option.bind (rc x13) fun z15=>(Option.bind (T54 F z14 z15) fun z16=>(k z16)))))))))
def T38r (F:Nat) (rc:(Zd->Option (Za))) (p0:List Za):=T38rc F rc p0 some
def T38g (F:Nat):Nat->Zd->Option (Za)
 | 0=>fun _=>none
 | g + 1=>T38r F (T38g F g)
abbrev cA38r:List Sh:=[(.ro .s)]
abbrev cB38r:List Sh:=[.str]
abbrev cT38r:List TSh:=[]
abbrev cU38r:List TSh:=[]
def ctg38 (F g:Nat):Ct:=mkC 0 cA38r cT38r cB38r cU38r (fun x y=>T38g F g x.1) (fun x y (z:Za)=>((z,()),()))
def ord38r:Nat->List (Tag×Nat)
 | 7=>[(.p,0),(.p,1),(.p,2),(.p,4),(.p,5),(.p,6),(.w,3),(.w,7),(.w,8),(.p,9)]
 | _=>[]
def E38r (F g:Nat):Ev:=⟨cfg,26,ctOf [(52,ct52 F),(53,ct53 F),(38,ctg38 F g),(54,ct54 F)],ord38r,ctOf [],fun _=>none,fun _=>none⟩
theorem cts38r (F g:Nat) (h:Sound Tryd.prog cfg 38 (ctg38 F g)):CtsOk Tryd.prog (E38r F g):=cts_of (l:=[(52,ct52 F),(53,ct53 F),(38,ctg38 F g),(54,ct54 F)]) (l':=[]) rfl rfl ⟨⟨ok52 F,_,Tryd.func52,rfl,rfl⟩,⟨⟨ok53 F,_,Tryd.func53,rfl,rfl⟩,⟨⟨h,_,Tryd.func38,rfl,rfl⟩,⟨⟨ok54 F,_,Tryd.func54,rfl,rfl⟩,trivial⟩⟩⟩⟩ trivial
def ct38r (F g:Nat):Ct:=mkC 0 cA38r cT38r cB38r cU38r (fun x y=>T38r F (T38g F g) x.1) (fun x y (z:Za)=>((z,()),()))
theorem eq38r (F g:Nat) (x:dens cA38r) (y:tdens cT38r):sev (E38r F g) 0 [] (bodyOf Tryd.f38) [] (mkSt (rng 1) cA38r cT38r x y) (kFn (E38r F g) 0 Tryd.f38.results.toList cB38r cU38r fun p q=>some (p,q)) =
  T38rc F (T38g F g) x.1 (fun z=>some ((z,()),())):=by kernel_rfl
theorem ok38r (F g:Nat) (h:Sound Tryd.prog cfg 38 (ctg38 F g)):Sound Tryd.prog cfg 38 (ct38r F g):=
 mkC_ok (E:=E38r F g) (lp:=[]) (code:=bodyOf Tryd.f38) Tryd.func38 rfl Tryd.ntmps38 rfl rfl cok (cts38r F g h) mixed trivial (by kernel_rfl) (fun x y k=>T38rc F (T38g F g) x.1 k) (fun _ _ _=>by simp only [T38r,T38rc,oA,oC,oS,oN,elimS_bind]) (eq38r F g)
def T38 (F:Nat) (p0:List Za):Option (Za):=T38g F F p0
def ct38 (F:Nat):Ct:=mkC 0 cA38r cT38r cB38r cU38r (fun x y=>T38 F x.1) (fun x y (z:Za)=>((z,()),()))
theorem okg38 (F:Nat):∀ g,Sound Tryd.prog cfg 38 (ctg38 F g)
 | 0=>fun x y p q h=>absurd (show (none:Option _)=some (p,q) from h) (by simp)
 | g + 1=>ok38r F g (okg38 F g)
theorem ok38 (F:Nat):Sound Tryd.prog cfg 38 (ct38 F):=okg38 F F
def E17 (F:Nat):Ev:=⟨cfg,19,ctOf [(37,ct37 F),(38,ct38 F)],fun _=>[],ctOf [],fun _=>none,fun _=>none⟩
theorem cts17 (F:Nat):CtsOk Tryd.prog (E17 F):=cts_of (l:=[(37,ct37 F),(38,ct38 F)]) (l':=[]) rfl rfl ⟨⟨ok37 F,_,Tryd.func37,rfl,rfl⟩,⟨⟨ok38 F,_,Tryd.func38,rfl,rfl⟩,trivial⟩⟩ trivial
def T17c (F:Nat) (p0:List UInt8) (p1:Int) {β:Type} (k:(Za×Int)->Option β):Option β:=
 (Option.bind (T37 F p0 p1) fun z3=>(bif (z3.1 != (0:Int)) then (k (([]:List UInt8),z3.1)) else (Option.bind (T38 F z3.2) fun z4=>(k (z4,(0:Int))))))
def T17 (F:Nat) (p0:List UInt8) (p1:Int):=T17c F p0 p1 some
def ct17 (F:Nat):Ct:=mkC 0 [(.ro .u8),.i] [] [.str,.i] [] (fun x y=>T17 F x.1 x.2.1) (fun x y (z:Za×Int)=>((z.1,z.2,()),()))
theorem ok17 (F:Nat):Sound Tryd.prog cfg 17 (ct17 F):=
 mkC_ok (E:=E17 F) (lp:=[]) (code:=bodyOf Tryd.f17) Tryd.func17 rfl Tryd.ntmps17 rfl rfl cok (cts17 F) mixed trivial (by kernel_rfl) (fun x y k=>T17c F x.1 x.2.1 k) (fun _ _ _=>by simp only [T17,T17c,oA,oC,oS,oN,elimS_bind]) (fun _ _=>by kernel_rfl)
def ord64x1:Nat->List (Tag×Nat)
 | _=>[]
def al64x1:Nat->Option Nat
 | _=>none
def ms64x1:Nat->Option (List (Option Tag×Nat×List Nat))
 | _=>none
def E64x1 (F:Nat):Ev:=⟨cfg,8,ctOf [],ord64x1,ctOf [],al64x1,ms64x1⟩
theorem cts64x1 (F:Nat):CtsOk Tryd.prog (E64x1 F):=cts_of (l:=[]) (l':=[]) rfl rfl trivial trivial
def T64x1c (F:Nat) {β:Type} (k:((List UInt8))->Option β):Option β:=
 (k ([]:List UInt8))
def T64x1 (F:Nat):Option ((List UInt8)):=T64x1c F some
theorem T64x1n (F:Nat) {β:Type} (k:((List UInt8))->Option β):T64x1c F k=(T64x1 F).bind k:=by
 simp only [T64x1,T64x1c,Option.bind_assoc,cond_bind,Option.bind_some,Option.bind_none,elimS_bind]
abbrev cA64x1:List Sh:=[.nn]
abbrev cB64x1:List Sh:=[(.rw 0)]
abbrev cT64x1:List TSh:=[]
abbrev cU64x1:List TSh:=[.row 5 .u8]
def ct64x1 (F:Nat):Ct:=mkC 0 cA64x1 cT64x1 cB64x1 cU64x1 (fun x y=>T64x1 F) (fun x y (z:(List UInt8))=>(((),()),(z,())))
theorem eq64x1 (F:Nat) (x:dens cA64x1) (y:tdens cT64x1):sev (E64x1 F) 0 [] (bodyOf Tryd.f64) [] (mkSt (rng 1) cA64x1 cT64x1 x y) (kFn (E64x1 F) 0 Tryd.f64.results.toList cB64x1 cU64x1 fun p q=>some (p,q)) =
  T64x1c F (fun z=>some (((),()),(z,()))):=by kernel_rfl
theorem ok64x1 (F:Nat):Sound Tryd.prog cfg 64 (ct64x1 F):=
 mkC_ok (E:=E64x1 F) (lp:=[]) (code:=bodyOf Tryd.f64) Tryd.func64 rfl Tryd.ntmps64 rfl rfl cok (cts64x1 F) mixed trivial (by kernel_rfl) (fun x y k=>T64x1c F k) (fun x y k=>T64x1n F k) (eq64x1 F)
def ord64x2:Nat->List (Tag×Nat)
 | _=>[]
def al64x2:Nat->Option Nat
 | _=>none
def ms64x2:Nat->Option (List (Option Tag×Nat×List Nat))
 | _=>none
def E64x2 (F:Nat):Ev:=⟨cfg,8,ctOf [],ord64x2,ctOf [],al64x2,ms64x2⟩
theorem cts64x2 (F:Nat):CtsOk Tryd.prog (E64x2 F):=cts_of (l:=[]) (l':=[]) rfl rfl trivial trivial
def T64x2c (F:Nat) (p0:List UInt8) {β:Type} (k:((List UInt8))->Option β):Option β:=
 (Option.bind (gapp ([]:List UInt8) p0) fun x2=>(k x2))
def T64x2 (F:Nat) (p0:List UInt8):Option ((List UInt8)):=T64x2c F p0 some
theorem T64x2n (F:Nat) (p0:List UInt8) {β:Type} (k:((List UInt8))->Option β):T64x2c F p0 k=(T64x2 F p0).bind k:=by
 simp only [T64x2,T64x2c,Option.bind_assoc,cond_bind,Option.bind_some,Option.bind_none,elimS_bind]
abbrev cA64x2:List Sh:=[(.rn .u8)]
abbrev cB64x2:List Sh:=[(.rw 0)]
abbrev cT64x2:List TSh:=[]
abbrev cU64x2:List TSh:=[.row 5 .u8]
def ct64x2 (F:Nat):Ct:=mkC 0 cA64x2 cT64x2 cB64x2 cU64x2 (fun x y=>T64x2 F x.1) (fun x y (z:(List UInt8))=>(((),()),(z,())))
theorem eq64x2 (F:Nat) (x:dens cA64x2) (y:tdens cT64x2):sev (E64x2 F) 0 [] (bodyOf Tryd.f64) [] (mkSt (rng 1) cA64x2 cT64x2 x y) (kFn (E64x2 F) 0 Tryd.f64.results.toList cB64x2 cU64x2 fun p q=>some (p,q)) =
  T64x2c F x.1 (fun z=>some (((),()),(z,()))):=by kernel_rfl
theorem ok64x2 (F:Nat):Sound Tryd.prog cfg 64 (ct64x2 F):=
 mkC_ok (E:=E64x2 F) (lp:=[]) (code:=bodyOf Tryd.f64) Tryd.func64 rfl Tryd.ntmps64 rfl rfl cok (cts64x2 F) mixed trivial (by kernel_rfl) (fun x y k=>T64x2c F x.1 k) (fun x y k=>T64x2n F x.1 k) (eq64x2 F)
def T64 (F:Nat) (p0:List UInt8):Option Za:=T64x2 F p0
def ct64 (F:Nat):Ct:=mkC 0 [.ro .u8] [] [.rw 0] [.row 5 .u8] (fun x _=>T64 F x.1) (fun _ _ (z:List UInt8)=>(((),()),(z,())))
theorem ok64 (F:Nat):Sound Tryd.prog cfg 64 (ct64 F):=clone_ok (t:=.u8) (T64x1 F) (fun p=>T64x2 F p) (ok64x1 F) (ok64x2 F) rfl
def ord65x1:Nat->List (Tag×Nat)
 | _=>[]
def al65x1:Nat->Option Nat
 | _=>none
def ms65x1:Nat->Option (List (Option Tag×Nat×List Nat))
 | _=>none
def E65x1 (F:Nat):Ev:=⟨cfg,8,ctOf [],ord65x1,ctOf [],al65x1,ms65x1⟩
theorem cts65x1 (F:Nat):CtsOk Tryd.prog (E65x1 F):=cts_of (l:=[]) (l':=[]) rfl rfl trivial trivial
def T65x1c (F:Nat) {β:Type} (k:((List (List UInt8)))->Option β):Option β:=
 (k ([]:List (List UInt8)))
def T65x1 (F:Nat):Option ((List (List UInt8))):=T65x1c F some
theorem T65x1n (F:Nat) {β:Type} (k:((List (List UInt8)))->Option β):T65x1c F k=(T65x1 F).bind k:=by
 simp only [T65x1,T65x1c,Option.bind_assoc,cond_bind,Option.bind_some,Option.bind_none,elimS_bind]
abbrev cA65x1:List Sh:=[.nn]
abbrev cB65x1:List Sh:=[(.rw 0)]
abbrev cT65x1:List TSh:=[]
abbrev cU65x1:List TSh:=[.row 9 .s]
def ct65x1 (F:Nat):Ct:=mkC 0 cA65x1 cT65x1 cB65x1 cU65x1 (fun x y=>T65x1 F) (fun x y (z:(List (List UInt8)))=>(((),()),(z,())))
theorem eq65x1 (F:Nat) (x:dens cA65x1) (y:tdens cT65x1):sev (E65x1 F) 0 [] (bodyOf Tryd.f65) [] (mkSt (rng 1) cA65x1 cT65x1 x y) (kFn (E65x1 F) 0 Tryd.f65.results.toList cB65x1 cU65x1 fun p q=>some (p,q)) =
  T65x1c F (fun z=>some (((),()),(z,()))):=by kernel_rfl
theorem ok65x1 (F:Nat):Sound Tryd.prog cfg 65 (ct65x1 F):=
 mkC_ok (E:=E65x1 F) (lp:=[]) (code:=bodyOf Tryd.f65) Tryd.func65 rfl Tryd.ntmps65 rfl rfl cok (cts65x1 F) mixed trivial (by kernel_rfl) (fun x y k=>T65x1c F k) (fun x y k=>T65x1n F k) (eq65x1 F)
def ord65x2:Nat->List (Tag×Nat)
 | _=>[]
def al65x2:Nat->Option Nat
 | _=>none
def ms65x2:Nat->Option (List (Option Tag×Nat×List Nat))
 | _=>none
def E65x2 (F:Nat):Ev:=⟨cfg,8,ctOf [],ord65x2,ctOf [],al65x2,ms65x2⟩
theorem cts65x2 (F:Nat):CtsOk Tryd.prog (E65x2 F):=cts_of (l:=[]) (l':=[]) rfl rfl trivial trivial
def T65x2c (F:Nat) (p0:List (List UInt8)) {β:Type} (k:((List (List UInt8)))->Option β):Option β:=
 (Option.bind (gapp ([]:List (List UInt8)) p0) fun x2=>(k x2))
def T65x2 (F:Nat) (p0:List (List UInt8)):Option ((List (List UInt8))):=T65x2c F p0 some
theorem T65x2n (F:Nat) (p0:List (List UInt8)) {β:Type} (k:((List (List UInt8)))->Option β):T65x2c F p0 k=(T65x2 F p0).bind k:=by
 simp only [T65x2,T65x2c,Option.bind_assoc,cond_bind,Option.bind_some,Option.bind_none,elimS_bind]
abbrev cA65x2:List Sh:=[(.rn .s)]
abbrev cB65x2:List Sh:=[(.rw 0)]
abbrev cT65x2:List TSh:=[]
abbrev cU65x2:List TSh:=[.row 9 .s]
def ct65x2 (F:Nat):Ct:=mkC 0 cA65x2 cT65x2 cB65x2 cU65x2 (fun x y=>T65x2 F x.1) (fun x y (z:(List (List UInt8)))=>(((),()),(z,())))
theorem eq65x2 (F:Nat) (x:dens cA65x2) (y:tdens cT65x2):sev (E65x2 F) 0 [] (bodyOf Tryd.f65) [] (mkSt (rng 1) cA65x2 cT65x2 x y) (kFn (E65x2 F) 0 Tryd.f65.results.toList cB65x2 cU65x2 fun p q=>some (p,q)) =
  T65x2c F x.1 (fun z=>some (((),()),(z,()))):=by kernel_rfl
theorem ok65x2 (F:Nat):Sound Tryd.prog cfg 65 (ct65x2 F):=
 mkC_ok (E:=E65x2 F) (lp:=[]) (code:=bodyOf Tryd.f65) Tryd.func65 rfl Tryd.ntmps65 rfl rfl cok (cts65x2 F) mixed trivial (by kernel_rfl) (fun x y k=>T65x2c F x.1 k) (fun x y k=>T65x2n F x.1 k) (eq65x2 F)
def T65 (F:Nat) (p0:List Za):Option Zd:=T65x2 F p0
def ct65 (F:Nat):Ct:=mkC 0 [.ro .s] [] [.rw 0] [.row 9 .s] (fun x _=>T65 F x.1) (fun _ _ (z:List Za)=>(((),()),(z,())))
theorem ok65 (F:Nat):Sound Tryd.prog cfg 65 (ct65 F):=clone_ok (t:=.s) (T65x1 F) (fun p=>T65x2 F p) (ok65x1 F) (ok65x2 F) rfl
def E46 (F:Nat):Ev:=⟨cfg,72,ctOf [(63,ct63 F),(17,ct17 F),(38,ct38 F),(64,ct64 F),(65,ct65 F)],fun _=>[],ctOf [],fun _=>none,fun _=>none⟩
theorem cts46 (F:Nat):CtsOk Tryd.prog (E46 F):=cts_of (l:=[(63,ct63 F),(17,ct17 F),(38,ct38 F),(64,ct64 F),(65,ct65 F)]) (l':=[]) rfl rfl ⟨⟨ok63 F,_,Tryd.func63,rfl,rfl⟩,⟨⟨ok17 F,_,Tryd.func17,rfl,rfl⟩,⟨⟨ok38 F,_,Tryd.func38,rfl,rfl⟩,⟨⟨ok64 F,_,Tryd.func64,rfl,rfl⟩,⟨⟨ok65 F,_,Tryd.func65,rfl,rfl⟩,trivial⟩⟩⟩⟩⟩ trivial
def L46_3c (F:Nat) (y55:List Za) (y56:Int) (y57:Int) (y58:List Za) {β:Type} (kA:(Int×Zd)->Option β) (kO:(Zd)->Option β) (kR:(Za×Int)->Option β):Option β:=
 (bif (decide (y57 < y56)) then (Option.bind (ix y55 y57) fun x62=>(Option.bind (T17 F x62 (512:Int)) fun z63=>(bif (z63.2 != (0:Int)) then (kR (([]:List UInt8),z63.2)) else (Option.bind (gapp y58 ([z63.1]:List Za)) fun x64=>(kA ((w64 (y57 + (1:Int))),x64)))))) else (kO y58))
def L46_3 (F:Nat) (y55:List Za) (y56:Int) (y57:Int) (y58:List Za):Option ((Int×Zd) ⊕ ((Zd) ⊕ (Za×Int))):=L46_3c F y55 y56 y57 y58 (fun s=>some (.inl s)) (fun z=>some (.inr (.inl z))) (fun z=>some (.inr (.inr z)))
theorem L46_3n (F:Nat) (y55:List Za) (y56:Int) (y57:Int) (y58:List Za) {β:Type} (kA:(Int×Zd)->Option β) (kO:(Zd)->Option β) (kR:(Za×Int)->Option β):L46_3c F y55 y56 y57 y58 kA kO kR=(L46_3 F y55 y56 y57 y58).bind (elimS kA (elimS kO kR)):=by
 simp only [L46_3,L46_3c,oA,oC,oS,oN,elimS_l,elimS_r,elimS_bind]
def lc46_3 (F:Nat):Lc:=mkR [9,11,30,31,32] [(.ro (.sl .u8)),(.rw 0),(.ro (.sl .u8)),.i,.i] [.row 9 .s] [9,11] [(.ro (.sl .u8)),(.rw 0)] [.row 9 .s] [6,7,8] [.str,.ns,.i] [] F (fun x y (s:Int×Zd)=>L46_3 F x.2.2.1 x.2.2.2.1 s.1 s.2) (fun x y=>(x.2.2.2.2.1,y.1)) (fun x y (z:Zd)=>((x.1,(),()),(z,()))) (fun x y (z:Za×Int)=>((z.1,(),z.2,()),()))
theorem lo46_3 (F:Nat):LcOk Tryd.prog (E46 F) 0 (lc46_3 F) (cAt (bodyOf Tryd.f46) [1,0,1,1,1,1]):=
 mkR_ok (lp:=[]) (id:=0) (b:=cAt (bodyOf Tryd.f46) (0 :: 0 :: [1,0,1,1,1,1])) cok (cts46 F) mixed trivial (by kernel_rfl) (by kernel_rfl) (fun x y s=>(x.1,(),x.2.2.1,x.2.2.2.1,s.1,())) (fun x y s=>(s.2,())) (fun x y=>rfl) (fun x y=>rfl) (fun x y s kA kO kR=>L46_3c F x.2.2.1 x.2.2.2.1 s.1 s.2 kA kO kR) (fun x y s kA kO kR=>L46_3n F x.2.2.1 x.2.2.2.1 s.1 s.2 kA kO kR) (fun _ _ _=>by kernel_rfl)
def L46_4c (F:Nat) (y76:List UInt8) (y77:List Za) (y78:Int) (y80:List Za) (y79:Int) (y81:List Zb) {β:Type} (kA:(Int×(List Zb))->Option β) (kO:((List Zb))->Option β):Option β:=
 (bif (decide (y79 < y78)) then (Option.bind (ix y77 y79) fun x86=>(Option.bind (T64 F x86) fun z87=>(Option.bind (T65 F y80) fun z88=>(Option.bind (gapp y81 ([((y76,y79,()),z87,z88,())]:List Zb)) fun x89=>(kA ((w64 (y79 + (1:Int))),x89)))))) else (kO y81))
def L46_4 (F:Nat) (y76:List UInt8) (y77:List Za) (y78:Int) (y80:List Za) (y79:Int) (y81:List Zb):=L46_4c F y76 y77 y78 y80 y79 y81 (fun s=>some (Sum.inl s)) (fun z=>some (Sum.inr z))
def lc46_4 (F:Nat):Lc:=mkL [11,16,17,51,52,53] [(.rw 0),.str,(.rw 1),(.ro (.sl .u8)),.i,.i] [.row 9 .s,.row 58 (.pr (.pr .s (.pr .i .un)) (.pr (.sl .u8) (.pr (.sl .s) .un)))] [16,17] [.str,(.rw 0)] [.row 58 (.pr (.pr .s (.pr .i .un)) (.pr (.sl .u8) (.pr (.sl .s) .un)))] F (fun x y (s:Int×(List Zb))=>L46_4 F x.2.1 x.2.2.2.1 x.2.2.2.2.1 y.1 s.1 s.2) (fun x y=>(x.2.2.2.2.2.1,y.2.1)) (fun x y (z:(List Zb))=>((x.2.1,(),()),(z,())))
theorem lo46_4 (F:Nat):LcOk Tryd.prog (E46 F) 0 (lc46_4 F) (cAt (bodyOf Tryd.f46) [1,0,1,1,1,1,1,1,1]):=
 mkL_ok (lp:=[]) (id:=2) (b:=cAt (bodyOf Tryd.f46) (0 :: 0 :: [1,0,1,1,1,1,1,1,1])) cok (cts46 F) mixed trivial (by kernel_rfl) (by kernel_rfl) (fun x y s=>((),x.2.1,(),x.2.2.2.1,x.2.2.2.2.1,s.1,())) (fun x y s=>(y.1,s.2,())) (fun x y=>rfl) (fun x y=>rfl) (fun x y s kA kO=>L46_4c F x.2.1 x.2.2.2.1 x.2.2.2.2.1 y.1 s.1 s.2 kA kO) (fun _ _ _ _ _=>by simp only [L46_4,L46_4c,oA,oC,oS,oN,elimS_l,elimS_r,elimS_bind]) (fun _ _ _=>by kernel_rfl)
def T46c (F:Nat) (p0:Int) (p1:Int) (p2:List Za) {β:Type} (k:(Za×Int×(List Zb))->Option β):Option β:=
 (Option.bind (T63 F p0 p1 p2) fun z46=>(bif (z46.2 != (0:Int)) then (k (([]:List UInt8),z46.2,([]:List Zb))) else (Option.bind (iter (fun s=>L46_3 F z46.1 (z46.1.length:Int) s.1 s.2) F ((0:Int),([]:List Za))) fun z65=>elimS (fun z65=>(Option.bind (T38 F z65) fun z66=>(Option.bind (iter (fun s=>L46_4 F z66 z46.1 (z46.1.length:Int) z65 s.1 s.2) F ((0:Int),([]:List Zb))) fun z90=>(k (z66,(0:Int),z90))))) (fun z65=>(k (z65.1,z65.2,([]:List Zb)))) z65)))
def T46 (F:Nat) (p0:Int) (p1:Int) (p2:List Za):=T46c F p0 p1 p2 some
def ct46 (F:Nat):Ct:=mkC 0 [.i,.i,(.ro (.sl .u8))] [] [.str,(.rw 0),.i] [.row 58 (.pr (.pr .s (.pr .i .un)) (.pr (.sl .u8) (.pr (.sl .s) .un)))] (fun x y=>T46 F x.1 x.2.1 x.2.2.1) (fun x y (z:Za×Int×(List Zb))=>((z.1,(),z.2.1,()),(z.2.2,())))
theorem ok46 (F:Nat):Sound Tryd.prog cfg 46 (ct46 F):=
 mkC_ok (E:=E46 F) (lp:=[([1,0,1,1,1,1],lc46_3 F),([1,0,1,1,1,1,1,1,1],lc46_4 F)]) (code:=bodyOf Tryd.f46) Tryd.func46 rfl Tryd.ntmps46 rfl rfl cok (cts46 F) mixed ⟨lo46_3 F,⟨lo46_4 F,trivial⟩⟩ (by kernel_rfl) (fun x y k=>T46c F x.1 x.2.1 x.2.2.1 k) (fun _ _ _=>by simp only [T46,T46c,oA,oC,oS,oN,elimS_bind]) (fun _ _=>by kernel_rfl)
def ord47x1:Nat->List (Tag×Nat)
 | _=>[]
def al47x1:Nat->Option Nat
 | _=>none
def ms47x1:Nat->Option (List (Option Tag×Nat×List Nat))
 | _=>none
def E47x1 (F:Nat):Ev:=⟨cfg,8,ctOf [],ord47x1,ctOf [],al47x1,ms47x1⟩
theorem cts47x1 (F:Nat):CtsOk Tryd.prog (E47x1 F):=cts_of (l:=[]) (l':=[]) rfl rfl trivial trivial
def T47x1c (F:Nat) {β:Type} (k:((List ((List UInt8)×Int×Int×Unit)))->Option β):Option β:=
 (k ([]:List ((List UInt8)×Int×Int×Unit)))
def T47x1 (F:Nat):Option ((List ((List UInt8)×Int×Int×Unit))):=T47x1c F some
theorem T47x1n (F:Nat) {β:Type} (k:((List ((List UInt8)×Int×Int×Unit)))->Option β):T47x1c F k=(T47x1 F).bind k:=by
 simp only [T47x1,T47x1c,Option.bind_assoc,cond_bind,Option.bind_some,Option.bind_none,elimS_bind]
abbrev cA47x1:List Sh:=[.nn]
abbrev cB47x1:List Sh:=[(.rw 0)]
abbrev cT47x1:List TSh:=[]
abbrev cU47x1:List TSh:=[.row 41 (.pr .s (.pr .i (.pr .i .un)))]
def ct47x1 (F:Nat):Ct:=mkC 0 cA47x1 cT47x1 cB47x1 cU47x1 (fun x y=>T47x1 F) (fun x y (z:(List ((List UInt8)×Int×Int×Unit)))=>(((),()),(z,())))
theorem eq47x1 (F:Nat) (x:dens cA47x1) (y:tdens cT47x1):sev (E47x1 F) 0 [] (bodyOf Tryd.f47) [] (mkSt (rng 1) cA47x1 cT47x1 x y) (kFn (E47x1 F) 0 Tryd.f47.results.toList cB47x1 cU47x1 fun p q=>some (p,q)) =
  T47x1c F (fun z=>some (((),()),(z,()))):=by kernel_rfl
theorem ok47x1 (F:Nat):Sound Tryd.prog cfg 47 (ct47x1 F):=
 mkC_ok (E:=E47x1 F) (lp:=[]) (code:=bodyOf Tryd.f47) Tryd.func47 rfl Tryd.ntmps47 rfl rfl cok (cts47x1 F) mixed trivial (by kernel_rfl) (fun x y k=>T47x1c F k) (fun x y k=>T47x1n F k) (eq47x1 F)
def ord47x2:Nat->List (Tag×Nat)
 | _=>[]
def al47x2:Nat->Option Nat
 | _=>none
def ms47x2:Nat->Option (List (Option Tag×Nat×List Nat))
 | _=>none
def E47x2 (F:Nat):Ev:=⟨cfg,8,ctOf [],ord47x2,ctOf [],al47x2,ms47x2⟩
theorem cts47x2 (F:Nat):CtsOk Tryd.prog (E47x2 F):=cts_of (l:=[]) (l':=[]) rfl rfl trivial trivial
def T47x2c (F:Nat) (p0:List ((List UInt8)×Int×Int×Unit)) {β:Type} (k:((List ((List UInt8)×Int×Int×Unit)))->Option β):Option β:=
 (Option.bind (gapp ([]:List ((List UInt8)×Int×Int×Unit)) p0) fun x2=>(k x2))
def T47x2 (F:Nat) (p0:List ((List UInt8)×Int×Int×Unit)):Option ((List ((List UInt8)×Int×Int×Unit))):=T47x2c F p0 some
theorem T47x2n (F:Nat) (p0:List ((List UInt8)×Int×Int×Unit)) {β:Type} (k:((List ((List UInt8)×Int×Int×Unit)))->Option β):T47x2c F p0 k=(T47x2 F p0).bind k:=by
 simp only [T47x2,T47x2c,Option.bind_assoc,cond_bind,Option.bind_some,Option.bind_none,elimS_bind]
abbrev cA47x2:List Sh:=[(.rn (.pr .s (.pr .i (.pr .i .un))))]
abbrev cB47x2:List Sh:=[(.rw 0)]
abbrev cT47x2:List TSh:=[]
abbrev cU47x2:List TSh:=[.row 41 (.pr .s (.pr .i (.pr .i .un)))]
def ct47x2 (F:Nat):Ct:=mkC 0 cA47x2 cT47x2 cB47x2 cU47x2 (fun x y=>T47x2 F x.1) (fun x y (z:(List ((List UInt8)×Int×Int×Unit)))=>(((),()),(z,())))
theorem eq47x2 (F:Nat) (x:dens cA47x2) (y:tdens cT47x2):sev (E47x2 F) 0 [] (bodyOf Tryd.f47) [] (mkSt (rng 1) cA47x2 cT47x2 x y) (kFn (E47x2 F) 0 Tryd.f47.results.toList cB47x2 cU47x2 fun p q=>some (p,q)) =
  T47x2c F x.1 (fun z=>some (((),()),(z,()))):=by kernel_rfl
theorem ok47x2 (F:Nat):Sound Tryd.prog cfg 47 (ct47x2 F):=
 mkC_ok (E:=E47x2 F) (lp:=[]) (code:=bodyOf Tryd.f47) Tryd.func47 rfl Tryd.ntmps47 rfl rfl cok (cts47x2 F) mixed trivial (by kernel_rfl) (fun x y k=>T47x2c F x.1 k) (fun x y k=>T47x2n F x.1 k) (eq47x2 F)
def T47 (F:Nat) (p0:List Zc):Option Zi:=T47x2 F p0
def ct47 (F:Nat):Ct:=mkC 0 [.ro (.pr .s (.pr .i (.pr .i .un)))] [] [.rw 0] [.row 41 (.pr .s (.pr .i (.pr .i .un)))] (fun x _=>T47 F x.1) (fun _ _ (z:List Zc)=>(((),()),(z,())))
theorem ok47 (F:Nat):Sound Tryd.prog cfg 47 (ct47 F):=clone_ok (t:=(.pr .s (.pr .i (.pr .i .un)))) (T47x1 F) (fun p=>T47x2 F p) (ok47x1 F) (ok47x2 F) rfl
def E29 (F:Nat):Ev:=⟨cfg,108,ctOf [(31,ct31 F),(30,ct30 F),(15,ct15 F),(43,ct43 F),(46,ct46 F),(47,ct47 F)],fun _=>[],ctOf [],fun _=>none,fun _=>none⟩
theorem cts29 (F:Nat):CtsOk Tryd.prog (E29 F):=cts_of (l:=[(31,ct31 F),(30,ct30 F),(15,ct15 F),(43,ct43 F),(46,ct46 F),(47,ct47 F)]) (l':=[]) rfl rfl ⟨⟨ok31 F,_,Tryd.func31,rfl,rfl⟩,⟨⟨ok30 F,_,Tryd.func30,rfl,rfl⟩,⟨⟨ok15 F,_,Tryd.func15,rfl,rfl⟩,⟨⟨ok43 F,_,Tryd.func43,rfl,rfl⟩,⟨⟨ok46 F,_,Tryd.func46,rfl,rfl⟩,⟨⟨ok47 F,_,Tryd.func47,rfl,rfl⟩,trivial⟩⟩⟩⟩⟩⟩ trivial
def L29_2c (F:Nat) (y37:List Za) (y38:Int) (y39:List Zc) (y40:Int) (y41:Int) {β:Type} (kA:Int->Option β) (kO:Unit->Option β) (kR:(Int×Za×Int×Int×Int×Int×Zi)->Option β):Option β:=
 (bif (decide (y41 < y40)) then (Option.bind (ix y39 y41) fun x51=>(Option.bind (T43 F x51.2.2.1 y38) fun z52=>(bif (!z52) then (kR ((1:Int),([]:List UInt8),(0:Int),(0:Int),(0:Int),(0:Int),([]:List Zc))) else (Option.bind (ix y37 y41) fun x53=>(bif ((x53.length:Int) != y38) then (kR ((1:Int),([]:List UInt8),(0:Int),(0:Int),(0:Int),(0:Int),([]:List Zc))) else (kA (w64 (y41 + (1:Int))))))))) else (kO ()))
def L29_2 (F:Nat) (y37:List Za) (y38:Int) (y39:List Zc) (y40:Int) (y41:Int):Option ((Int) ⊕ ((Unit) ⊕ (Int×Za×Int×Int×Int×Int×Zi))):=L29_2c F y37 y38 y39 y40 y41 (fun s=>some (.inl s)) (fun z=>some (.inr (.inl z))) (fun z=>some (.inr (.inr z)))
theorem L29_2n (F:Nat) (y37:List Za) (y38:Int) (y39:List Zc) (y40:Int) (y41:Int) {β:Type} (kA:Int->Option β) (kO:Unit->Option β) (kR:(Int×Za×Int×Int×Int×Int×Zi)->Option β):L29_2c F y37 y38 y39 y40 y41 kA kO kR=(L29_2 F y37 y38 y39 y40 y41).bind (elimS kA (elimS kO kR)):=by
 simp only [L29_2,L29_2c,oA,oC,oS,oN,elimS_l,elimS_r,elimS_bind]
def lc29_2 (F:Nat):Lc:=mkR [0,1,2,3,4,10,13,64,65,66] [.i,.i,.i,(.ro (.pr .s (.pr .i (.pr .i .un)))),(.ro (.sl .u8)),(.pt 0 []),.i,(.ro (.pr .s (.pr .i (.pr .i .un)))),.i,.i] [.blk 49 (.pr .str (.pr .i (.pr .i (.pr .i (.pr .i (.pr (.ro (.pr .s (.pr .i (.pr .i .un)))) .un))))))] [0,1,2,3,4,10,13] [.i,.i,.i,(.ro (.pr .s (.pr .i (.pr .i .un)))),(.ro (.sl .u8)),(.pt 0 []),.i] [.blk 49 (.pr .str (.pr .i (.pr .i (.pr .i (.pr .i (.pr (.ro (.pr .s (.pr .i (.pr .i .un)))) .un))))))] [10,11,12] [(.pt 0 []),.ns,.i] [.blk 49 (.pr .str (.pr .i (.pr .i (.pr .i (.pr .i (.pr (.ro (.pr .s (.pr .i (.pr .i .un)))) .un))))))] F (fun x y (s:Int)=>L29_2 F x.2.2.2.2.1 x.2.2.2.2.2.2.1 x.2.2.2.2.2.2.2.1 x.2.2.2.2.2.2.2.2.1 s) (fun x y=>x.2.2.2.2.2.2.2.2.2.1) (fun x y (z:Unit)=>((x.1,x.2.1,x.2.2.1,x.2.2.2.1,x.2.2.2.2.1,(),x.2.2.2.2.2.2.1,()),((y.1.1,y.1.2.1,y.1.2.2.1,y.1.2.2.2.1,y.1.2.2.2.2.1,y.1.2.2.2.2.2.1,()),()))) (fun x y (z:Int×Za×Int×Int×Int×Int×Zi)=>(((),(),z.1,()),((z.2.1,z.2.2.1,z.2.2.2.1,z.2.2.2.2.1,z.2.2.2.2.2.1,z.2.2.2.2.2.2,()),())))
theorem lo29_2 (F:Nat):LcOk Tryd.prog (E29 F) 0 (lc29_2 F) (cAt (bodyOf Tryd.f29) [1,0,1,1,1,1]):=
 mkR_ok (lp:=[]) (id:=0) (b:=cAt (bodyOf Tryd.f29) (0 :: 0 :: [1,0,1,1,1,1])) cok (cts29 F) mixed trivial (by kernel_rfl) (by kernel_rfl) (fun x y s=>(x.1,x.2.1,x.2.2.1,x.2.2.2.1,x.2.2.2.2.1,(),x.2.2.2.2.2.2.1,x.2.2.2.2.2.2.2.1,x.2.2.2.2.2.2.2.2.1,s,())) (fun x y s=>((y.1.1,y.1.2.1,y.1.2.2.1,y.1.2.2.2.1,y.1.2.2.2.2.1,y.1.2.2.2.2.2.1,()),())) (fun x y=>rfl) (fun x y=>rfl) (fun x y s kA kO kR=>L29_2c F x.2.2.2.2.1 x.2.2.2.2.2.2.1 x.2.2.2.2.2.2.2.1 x.2.2.2.2.2.2.2.2.1 s kA kO kR) (fun x y s kA kO kR=>L29_2n F x.2.2.2.2.1 x.2.2.2.2.2.2.1 x.2.2.2.2.2.2.2.1 x.2.2.2.2.2.2.2.2.1 s kA kO kR) (fun _ _ _=>by kernel_rfl)
def T29c (F:Nat) (p0:Int) (p1:Int) (p2:Int) (p3:List Zc) (p4:List Za) {β:Type} (k:(Za×Int×Int×Int×Int×Zi×Int×(List Zb))->Option β):Option β:=
 (bif (decide (p0 < (0:Int))) then (k (([]:List UInt8),(0:Int),(0:Int),(0:Int),(0:Int),([]:List Zc),(1:Int),([]:List Zb))) else (bif (decide ((11:Int) < p0)) then (k (([]:List UInt8),(0:Int),(0:Int),(0:Int),(0:Int),([]:List Zc),(1:Int),([]:List Zb))) else (Option.bind (T31 F p1 p2) fun z29=>(bif (!z29) then (k (([]:List UInt8),(0:Int),(0:Int),(0:Int),(0:Int),([]:List Zc),(1:Int),([]:List Zb))) else (bif (decide ((p3.length:Int) < (1:Int))) then (k (([]:List UInt8),(0:Int),(0:Int),(0:Int),(0:Int),([]:List Zc),(1:Int),([]:List Zb))) else (bif (decide (p1 < (p3.length:Int))) then (k (([]:List UInt8),(0:Int),(0:Int),(0:Int),(0:Int),([]:List Zc),(1:Int),([]:List Zb))) else (Option.bind (T30 F p3) fun z30=>(bif (!z30) then (k (([]:List UInt8),(0:Int),(0:Int),(0:Int),(0:Int),([]:List Zc),(1:Int),([]:List Zb))) else (bif ((p4.length:Int) != (p3.length:Int)) then (k (([]:List UInt8),(0:Int),(0:Int),(0:Int),(0:Int),([]:List Zc),(1:Int),([]:List Zb))) else (Option.bind (ix p3 (0:Int)) fun x31=>(Option.bind (T15 F x31.2.2.1) fun z32=>(Option.bind (iter (fun s=>L29_2 F p4 z32.1 p3 (p3.length:Int) s) F (0:Int)) fun z54=>elimS (fun z54=>(Option.bind (T46 F p1 p2 p4) fun z55=>(bif (z55.2.1 != (0:Int)) then (k (([]:List UInt8),(0:Int),(0:Int),(0:Int),(0:Int),([]:List Zc),z55.2.1,([]:List Zb))) else (Option.bind (T47 F p3) fun z56=>(k (z55.1,p0,z32.1,p1,p2,z56,(0:Int),z55.2.2)))))) (fun z54=>(k (z54.2.1,z54.2.2.1,z54.2.2.2.1,z54.2.2.2.2.1,z54.2.2.2.2.2.1,z54.2.2.2.2.2.2,z54.1,([]:List Zb)))) z54))))))))))))
def T29 (F:Nat) (p0:Int) (p1:Int) (p2:Int) (p3:List Zc) (p4:List Za):=T29c F p0 p1 p2 p3 p4 some
def ct29 (F:Nat):Ct:=mkC 0 [.i,.i,.i,(.ro (.pr .s (.pr .i (.pr .i .un)))),(.ro (.sl .u8))] [] [(.pr .str (.pr .i (.pr .i (.pr .i (.pr .i (.pr (.ro (.pr .s (.pr .i (.pr .i .un)))) .un)))))),(.rw 0),.i] [.row 58 (.pr (.pr .s (.pr .i .un)) (.pr (.sl .u8) (.pr (.sl .s) .un)))] (fun x y=>T29 F x.1 x.2.1 x.2.2.1 x.2.2.2.1 x.2.2.2.2.1) (fun x y (z:Za×Int×Int×Int×Int×Zi×Int×(List Zb))=>(((z.1,z.2.1,z.2.2.1,z.2.2.2.1,z.2.2.2.2.1,z.2.2.2.2.2.1,()),(),z.2.2.2.2.2.2.1,()),(z.2.2.2.2.2.2.2,())))
theorem ok29 (F:Nat):Sound Tryd.prog cfg 29 (ct29 F):=
 mkC_ok (E:=E29 F) (lp:=[([1,0,1,1,1,1],lc29_2 F)]) (code:=bodyOf Tryd.f29) Tryd.func29 rfl Tryd.ntmps29 rfl rfl cok (cts29 F) mixed ⟨lo29_2 F,trivial⟩ (by kernel_rfl) (fun x y k=>T29c F x.1 x.2.1 x.2.2.1 x.2.2.2.1 x.2.2.2.2.1 k) (fun _ _ _=>by simp only [T29,T29c,oA,oC,oS,oN,elimS_bind]) (fun _ _=>by kernel_rfl)
def E25 (F:Nat):Ev:=⟨cfg,58,ctOf [(31,ct31 F),(30,ct30 F),(43,ct43 F)],fun _=>[],ctOf [],fun _=>none,fun _=>none⟩
theorem cts25 (F:Nat):CtsOk Tryd.prog (E25 F):=cts_of (l:=[(31,ct31 F),(30,ct30 F),(43,ct43 F)]) (l':=[]) rfl rfl ⟨⟨ok31 F,_,Tryd.func31,rfl,rfl⟩,⟨⟨ok30 F,_,Tryd.func30,rfl,rfl⟩,⟨⟨ok43 F,_,Tryd.func43,rfl,rfl⟩,trivial⟩⟩⟩ trivial
def L25_2c (F:Nat) (y19:List Zc) (y20:Int) (y24:Int) (y21:Int) {β:Type} (kA:Int->Option β) (kO:Unit->Option β) (kR:Int->Option β):Option β:=
 (bif (decide (y21 < y20)) then (Option.bind (ix y19 y21) fun x30=>(Option.bind (T43 F x30.2.2.1 y24) fun z31=>(bif (!z31) then (kR (1:Int)) else (kA (w64 (y21 + (1:Int))))))) else (kO ()))
def L25_2 (F:Nat) (y19:List Zc) (y20:Int) (y24:Int) (y21:Int):Option ((Int) ⊕ ((Unit) ⊕ (Int))):=L25_2c F y19 y20 y24 y21 (fun s=>some (.inl s)) (fun z=>some (.inr (.inl z))) (fun z=>some (.inr (.inr z)))
theorem L25_2n (F:Nat) (y19:List Zc) (y20:Int) (y24:Int) (y21:Int) {β:Type} (kA:Int->Option β) (kO:Unit->Option β) (kR:Int->Option β):L25_2c F y19 y20 y24 y21 kA kO kR=(L25_2 F y19 y20 y24 y21).bind (elimS kA (elimS kO kR)):=by
 simp only [L25_2,L25_2c,oA,oC,oS,oN,elimS_l,elimS_r,elimS_bind]
def lc25_2 (F:Nat):Lc:=mkR [1,46,47,48] [(.pt 0 []),(.ro (.pr .s (.pr .i (.pr .i .un)))),.i,.i] [.blk 49 (.pr .str (.pr .i (.pr .i (.pr .i (.pr .i (.pr (.ro (.pr .s (.pr .i (.pr .i .un)))) .un))))))] [] [] [] [2] [.i] [] F (fun x y (s:Int)=>L25_2 F x.2.1 x.2.2.1 y.1.2.2.1 s) (fun x y=>x.2.2.2.1) (fun x y (z:Unit)=>((),())) (fun x y (z:Int)=>((z,()),()))
theorem lo25_2 (F:Nat):LcOk Tryd.prog (E25 F) 0 (lc25_2 F) (cAt (bodyOf Tryd.f25) [1,0,1,1,1]):=
 mkR_ok (lp:=[]) (id:=0) (b:=cAt (bodyOf Tryd.f25) (0 :: 0 :: [1,0,1,1,1])) cok (cts25 F) mixed trivial (by kernel_rfl) (by kernel_rfl) (fun x y s=>((),x.2.1,x.2.2.1,s,())) (fun x y s=>((y.1.1,y.1.2.1,y.1.2.2.1,y.1.2.2.2.1,y.1.2.2.2.2.1,y.1.2.2.2.2.2.1,()),())) (fun x y=>rfl) (fun x y=>rfl) (fun x y s kA kO kR=>L25_2c F x.2.1 x.2.2.1 y.1.2.2.1 s kA kO kR) (fun x y s kA kO kR=>L25_2n F x.2.1 x.2.2.1 y.1.2.2.1 s kA kO kR) (fun _ _ _=>by kernel_rfl)
def T25c (F:Nat) (p0:List UInt8) (p1:Int) (p2:Int) (p3:Int) (p4:Int) (p5:List Zc) {β:Type} (k:Int->Option β):Option β:=
 (bif ((p0.length:Int) != (32:Int)) then (k (1:Int)) else (bif (decide (p1 < (0:Int))) then (k (1:Int)) else (bif (decide ((11:Int) < p1)) then (k (1:Int)) else (Option.bind (T31 F p3 p4) fun z17=>(bif (!z17) then (k (1:Int)) else (bif (decide ((p5.length:Int) < (1:Int))) then (k (1:Int)) else (bif (decide (p3 < (p5.length:Int))) then (k (1:Int)) else (Option.bind (T30 F p5) fun z18=>(bif (!z18) then (k (1:Int)) else (Option.bind (iter (fun s=>L25_2 F p5 (p5.length:Int) p2 s) F (0:Int)) fun z32=>elimS (fun z32=>(k (0:Int))) (fun z32=>(k z32)) z32))))))))))
def T25 (F:Nat) (p0:List UInt8) (p1:Int) (p2:Int) (p3:Int) (p4:Int) (p5:List Zc):=T25c F p0 p1 p2 p3 p4 p5 some
def ct25 (F:Nat):Ct:=mkC 0 [(.pr .str (.pr .i (.pr .i (.pr .i (.pr .i (.pr (.ro (.pr .s (.pr .i (.pr .i .un)))) .un))))))] [] [.i] [] (fun x y=>T25 F x.1.1 x.1.2.1 x.1.2.2.1 x.1.2.2.2.1 x.1.2.2.2.2.1 x.1.2.2.2.2.2.1) (fun x y (z:Int)=>((z,()),()))
theorem ok25 (F:Nat):Sound Tryd.prog cfg 25 (ct25 F):=
 mkC_ok (E:=E25 F) (lp:=[([1,0,1,1,1],lc25_2 F)]) (code:=bodyOf Tryd.f25) Tryd.func25 rfl Tryd.ntmps25 rfl rfl cok (cts25 F) mixed ⟨lo25_2 F,trivial⟩ (by kernel_rfl) (fun x y k=>T25c F x.1.1 x.1.2.1 x.1.2.2.1 x.1.2.2.2.1 x.1.2.2.2.2.1 x.1.2.2.2.2.2.1 k) (fun _ _ _=>by simp only [T25,T25c,oA,oC,oS,oN,elimS_bind]) (fun _ _=>by kernel_rfl)
def E72 (F:Nat):Ev:=⟨cfg,19,ctOf [],fun _=>[],ctOf [],fun _=>none,fun _=>none⟩
theorem cts72 (F:Nat):CtsOk Tryd.prog (E72 F):=cts_of (l:=[]) (l':=[]) rfl rfl trivial trivial
def L72_2c (F:Nat) (y8:List Int) (y9:Int) (y10:Int) (y11:Int) {β:Type} (kA:Int->Option β) (kO:Unit->Option β) (kR:Int->Option β):Option β:=
 (bif (decide (y11 < y10)) then (Option.bind (ix y8 y11) fun x13=>(bif (y9 == x13) then (kR y11) else (kA (w64 (y11 + (1:Int)))))) else (kO ()))
def L72_2 (F:Nat) (y8:List Int) (y9:Int) (y10:Int) (y11:Int):Option ((Int) ⊕ ((Unit) ⊕ (Int))):=L72_2c F y8 y9 y10 y11 (fun s=>some (.inl s)) (fun z=>some (.inr (.inl z))) (fun z=>some (.inr (.inr z)))
theorem L72_2n (F:Nat) (y8:List Int) (y9:Int) (y10:Int) (y11:Int) {β:Type} (kA:Int->Option β) (kO:Unit->Option β) (kR:Int->Option β):L72_2c F y8 y9 y10 y11 kA kO kR=(L72_2 F y8 y9 y10 y11).bind (elimS kA (elimS kO kR)):=by
 simp only [L72_2,L72_2c,oA,oC,oS,oN,elimS_l,elimS_r,elimS_bind]
def lc72_2 (F:Nat):Lc:=mkR [0,1,7,8] [(.ro .i),.i,.i,.i] [] [] [] [] [4] [.i] [] F (fun x y (s:Int)=>L72_2 F x.1 x.2.1 x.2.2.1 s) (fun x y=>x.2.2.2.1) (fun x y (z:Unit)=>((),())) (fun x y (z:Int)=>((z,()),()))
theorem lo72_2 (F:Nat):LcOk Tryd.prog (E72 F) 0 (lc72_2 F) (cAt (bodyOf Tryd.f72) [1,0,1]):=
 mkR_ok (lp:=[]) (id:=0) (b:=cAt (bodyOf Tryd.f72) (0 :: 0 :: [1,0,1])) cok (cts72 F) mixed trivial (by kernel_rfl) (by kernel_rfl) (fun x y s=>(x.1,x.2.1,x.2.2.1,s,())) (fun x y s=>()) (fun x y=>rfl) (fun x y=>rfl) (fun x y s kA kO kR=>L72_2c F x.1 x.2.1 x.2.2.1 s kA kO kR) (fun x y s kA kO kR=>L72_2n F x.1 x.2.1 x.2.2.1 s kA kO kR) (fun _ _ _=>by kernel_rfl)
def T72c (F:Nat) (p0:List Int) (p1:Int) {β:Type} (k:Int->Option β):Option β:=
 (Option.bind (iter (fun s=>L72_2 F p0 p1 (p0.length:Int) s) F (0:Int)) fun z14=>elimS (fun z14=>(k (-1:Int))) (fun z14=>(k z14)) z14)
def T72 (F:Nat) (p0:List Int) (p1:Int):=T72c F p0 p1 some
def ct72 (F:Nat):Ct:=mkC 0 [(.ro .i),.i] [] [.i] [] (fun x y=>T72 F x.1 x.2.1) (fun x y (z:Int)=>((z,()),()))
theorem ok72 (F:Nat):Sound Tryd.prog cfg 72 (ct72 F):=
 mkC_ok (E:=E72 F) (lp:=[([1,0,1],lc72_2 F)]) (code:=bodyOf Tryd.f72) Tryd.func72 rfl Tryd.ntmps72 rfl rfl cok (cts72 F) mixed ⟨lo72_2 F,trivial⟩ (by kernel_rfl) (fun x y k=>T72c F x.1 x.2.1 k) (fun _ _ _=>by simp only [T72,T72c,oA,oC,oS,oN,elimS_bind]) (fun _ _=>by kernel_rfl)
def E57 (F:Nat):Ev:=⟨cfg,9,ctOf [(72,ct72 F)],fun _=>[],ctOf [],fun _=>none,fun _=>none⟩
theorem cts57 (F:Nat):CtsOk Tryd.prog (E57 F):=cts_of (l:=[(72,ct72 F)]) (l':=[]) rfl rfl ⟨⟨ok72 F,_,Tryd.func72,rfl,rfl⟩,trivial⟩ trivial
def T57c (F:Nat) (p0:List Int) (p1:Int) {β:Type} (k:Bool->Option β):Option β:=
 (Option.bind (T72 F p0 p1) fun z2=>(k (decide ((0:Int)≤z2))))
def T57 (F:Nat) (p0:List Int) (p1:Int):=T57c F p0 p1 some
def ct57 (F:Nat):Ct:=mkC 0 [(.ro .i),.i] [] [.bo] [] (fun x y=>T57 F x.1 x.2.1) (fun x y (z:Bool)=>((z,()),()))
theorem ok57 (F:Nat):Sound Tryd.prog cfg 57 (ct57 F):=
 mkC_ok (E:=E57 F) (lp:=[]) (code:=bodyOf Tryd.f57) Tryd.func57 rfl Tryd.ntmps57 rfl rfl cok (cts57 F) mixed trivial (by kernel_rfl) (fun x y k=>T57c F x.1 x.2.1 k) (fun _ _ _=>by simp only [T57,T57c,oA,oC,oS,oN,elimS_bind]) (fun _ _=>by kernel_rfl)
def E41 (F:Nat):Ev:=⟨cfg,6,ctOf [],fun _=>[],ctOf [],fun _=>none,fun _=>none⟩
theorem cts41 (F:Nat):CtsOk Tryd.prog (E41 F):=cts_of (l:=[]) (l':=[]) rfl rfl trivial trivial
def T41c (F:Nat) (p0:List UInt8) {β:Type} (k:Bool->Option β):Option β:=
 (k ((p0.length:Int) != (32:Int)))
def T41 (F:Nat) (p0:List UInt8):=T41c F p0 some
def ct41 (F:Nat):Ct:=mkC 0 [.str] [] [.bo] [] (fun x y=>T41 F x.1) (fun x y (z:Bool)=>((z,()),()))
theorem ok41 (F:Nat):Sound Tryd.prog cfg 41 (ct41 F):=
 mkC_ok (E:=E41 F) (lp:=[]) (code:=bodyOf Tryd.f41) Tryd.func41 rfl Tryd.ntmps41 rfl rfl cok (cts41 F) mixed trivial (by kernel_rfl) (fun x y k=>T41c F x.1 k) (fun _ _ _=>by simp only [T41,T41c,oA,oC,oS,oN,elimS_bind]) (fun _ _=>by kernel_rfl)
def E55 (F:Nat):Ev:=⟨cfg,19,ctOf [(41,ct41 F)],fun _=>[],ctOf [],fun _=>none,fun _=>none⟩
theorem cts55 (F:Nat):CtsOk Tryd.prog (E55 F):=cts_of (l:=[(41,ct41 F)]) (l':=[]) rfl rfl ⟨⟨ok41 F,_,Tryd.func41,rfl,rfl⟩,trivial⟩ trivial
def L55_2c (F:Nat) (y9:List Za) (y10:Int) (y11:Int) {β:Type} (kA:Int->Option β) (kO:Unit->Option β) (kR:Int->Option β):Option β:=
 (bif (decide (y11 < y10)) then (Option.bind (ix y9 y11) fun x14=>(Option.bind (T41 F x14) fun z15=>(bif z15 then (kR y11) else (kA (w64 (y11 + (1:Int))))))) else (kO ()))
def L55_2 (F:Nat) (y9:List Za) (y10:Int) (y11:Int):Option ((Int) ⊕ ((Unit) ⊕ (Int))):=L55_2c F y9 y10 y11 (fun s=>some (.inl s)) (fun z=>some (.inr (.inl z))) (fun z=>some (.inr (.inr z)))
theorem L55_2n (F:Nat) (y9:List Za) (y10:Int) (y11:Int) {β:Type} (kA:Int->Option β) (kO:Unit->Option β) (kR:Int->Option β):L55_2c F y9 y10 y11 kA kO kR=(L55_2 F y9 y10 y11).bind (elimS kA (elimS kO kR)):=by
 simp only [L55_2,L55_2c,oA,oC,oS,oN,elimS_l,elimS_r,elimS_bind]
def lc55_2 (F:Nat):Lc:=mkR [0,1,7,8] [(.ro .s),(.fn 41 .un .un),.i,.i] [] [] [] [] [4] [.i] [] F (fun x y (s:Int)=>L55_2 F x.1 x.2.2.1 s) (fun x y=>x.2.2.2.1) (fun x y (z:Unit)=>((),())) (fun x y (z:Int)=>((z,()),()))
theorem lo55_2 (F:Nat):LcOk Tryd.prog (E55 F) 0 (lc55_2 F) (cAt (bodyOf Tryd.f55) [1,0,1]):=
 mkR_ok (lp:=[]) (id:=0) (b:=cAt (bodyOf Tryd.f55) (0 :: 0 :: [1,0,1])) cok (cts55 F) mixed trivial (by kernel_rfl) (by kernel_rfl) (fun x y s=>(x.1,((),()),x.2.2.1,s,())) (fun x y s=>()) (fun x y=>rfl) (fun x y=>rfl) (fun x y s kA kO kR=>L55_2c F x.1 x.2.2.1 s kA kO kR) (fun x y s kA kO kR=>L55_2n F x.1 x.2.2.1 s kA kO kR) (fun _ _ _=>by kernel_rfl)
def T55c (F:Nat) (p0:List Za) {β:Type} (k:Int->Option β):Option β:=
 (Option.bind (iter (fun s=>L55_2 F p0 (p0.length:Int) s) F (0:Int)) fun z16=>elimS (fun z16=>(k (-1:Int))) (fun z16=>(k z16)) z16)
def T55 (F:Nat) (p0:List Za):=T55c F p0 some
def ct55 (F:Nat):Ct:=mkC 0 [(.ro .s),(.fn 41 .un .un)] [] [.i] [] (fun x y=>T55 F x.1) (fun x y (z:Int)=>((z,()),()))
theorem ok55 (F:Nat):Sound Tryd.prog cfg 55 (ct55 F):=
 mkC_ok (E:=E55 F) (lp:=[([1,0,1],lc55_2 F)]) (code:=bodyOf Tryd.f55) Tryd.func55 rfl Tryd.ntmps55 rfl rfl cok (cts55 F) mixed ⟨lo55_2 F,trivial⟩ (by kernel_rfl) (fun x y k=>T55c F x.1 k) (fun _ _ _=>by simp only [T55,T55c,oA,oC,oS,oN,elimS_bind]) (fun _ _=>by kernel_rfl)
def E40 (F:Nat):Ev:=⟨cfg,9,ctOf [(55,ct55 F)],fun _=>[],ctOf [],fun _=>none,fun _=>none⟩
theorem cts40 (F:Nat):CtsOk Tryd.prog (E40 F):=cts_of (l:=[(55,ct55 F)]) (l':=[]) rfl rfl ⟨⟨ok55 F,_,Tryd.func55,rfl,rfl⟩,trivial⟩ trivial
def T40c (F:Nat) (p0:List Za) {β:Type} (k:Bool->Option β):Option β:=
 (Option.bind (T55 F p0) fun z2=>(k (decide ((0:Int)≤z2))))
def T40 (F:Nat) (p0:List Za):=T40c F p0 some
def ct40 (F:Nat):Ct:=mkC 0 [(.ro .s),(.fn 41 .un .un)] [] [.bo] [] (fun x y=>T40 F x.1) (fun x y (z:Bool)=>((z,()),()))
theorem ok40 (F:Nat):Sound Tryd.prog cfg 40 (ct40 F):=
 mkC_ok (E:=E40 F) (lp:=[]) (code:=bodyOf Tryd.f40) Tryd.func40 rfl Tryd.ntmps40 rfl rfl cok (cts40 F) mixed trivial (by kernel_rfl) (fun x y k=>T40c F x.1 k) (fun _ _ _=>by simp only [T40,T40c,oA,oC,oS,oN,elimS_bind]) (fun _ _=>by kernel_rfl)
def ord19:Nat->List (Tag×Nat)
 | 8=>[(.p,0),(.p,1),(.p,2),(.p,3),(.p,4),(.r,5),(.p,6),(.p,7),(.r,8),(.p,9),(.r,10),(.p,11),(.p,12),(.p,13),(.p,14),(.r,15),(.p,17),(.p,18),(.c,19),(.w,16),(.p,20),(.p,21),(.p,22)]
 | _=>[]
def E19 (F:Nat):Ev:=⟨cfg,78,ctOf [(40,ct40 F),(17,ct17 F),(38,ct38 F)],ord19,ctOf [],fun _=>none,fun _=>none⟩
theorem cts19 (F:Nat):CtsOk Tryd.prog (E19 F):=cts_of (l:=[(40,ct40 F),(17,ct17 F),(38,ct38 F)]) (l':=[]) rfl rfl ⟨⟨ok40 F,_,Tryd.func40,rfl,rfl⟩,⟨⟨ok17 F,_,Tryd.func17,rfl,rfl⟩,⟨⟨ok38 F,_,Tryd.func38,rfl,rfl⟩,trivial⟩⟩⟩ trivial
def T19c (F:Nat) (p0:List UInt8) (p1:Int) (p2:List UInt8) (p3:List Za) {β:Type} (k:Bool->Option β):Option β:=
 (bif ((p0.length:Int) != (32:Int)) then (k false) else (bif (decide ((p3.length:Int) < (1:Int))) then (k false) else (bif (decide ((16:Int) < (p3.length:Int))) then (k false) else (Option.bind (T40 F p3) fun z5=>(bif z5 then (k false) else (bif (decide (p1 < (0:Int))) then (k false) else (bif (decide ((p3.length:Int)≤p1)) then (k false) else (bif (decide ((p2.length:Int) < (1:Int))) then (k false) else (bif (decide ((65536:Int) < (p2.length:Int))) then (k false) else (Option.bind (T17 F p2 (512:Int)) fun z6=>(bif (z6.2 == (0:Int)) then (Option.bind (ix p3 p1) fun x7=>(bif (z6.1 == x7) then (Option.bind (T38 F p3) fun z8=>(k (z8 == p0))) else (k false))) else (k false))))))))))))
def T19 (F:Nat) (p0:List UInt8) (p1:Int) (p2:List UInt8) (p3:List Za):=T19c F p0 p1 p2 p3 some
def ct19 (F:Nat):Ct:=mkC 0 [(.pr (.pr .str (.pr .i .un)) (.pr (.ro .u8) (.pr (.ro .s) .un)))] [] [.bo] [] (fun x y=>T19 F x.1.1.1 x.1.1.2.1 x.1.2.1 x.1.2.2.1) (fun x y (z:Bool)=>((z,()),()))
theorem ok19 (F:Nat):Sound Tryd.prog cfg 19 (ct19 F):=
 mkC_ok (E:=E19 F) (lp:=[]) (code:=bodyOf Tryd.f19) Tryd.func19 rfl Tryd.ntmps19 rfl rfl cok (cts19 F) mixed trivial (by kernel_rfl) (fun x y k=>T19c F x.1.1.1 x.1.1.2.1 x.1.2.1 x.1.2.2.1 k) (fun _ _ _=>by simp only [T19,T19c,oA,oC,oS,oN,elimS_bind]) (fun _ _=>by kernel_rfl)
def E39 (F:Nat):Ev:=⟨cfg,31,ctOf [(19,ct19 F)],fun _=>[],ctOf [],fun _=>none,fun _=>none⟩
theorem cts39 (F:Nat):CtsOk Tryd.prog (E39 F):=cts_of (l:=[(19,ct19 F)]) (l':=[]) rfl rfl ⟨⟨ok19 F,_,Tryd.func19,rfl,rfl⟩,trivial⟩ trivial
def T39c (F:Nat) (p0:List UInt8) (p2:Int) (p4:Int) (p6:List UInt8) (p7:Int) (p8:List UInt8) (p9:List Za) {β:Type} (k:Bool->Option β):Option β:=
 (bif (p6 == p0) then (bif ((p9.length:Int) == p4) then (bif ((p8.length:Int) == p2) then (Option.bind (T19 F p6 p7 p8 p9) fun z2=>(k z2)) else (k false)) else (k false)) else (k false))
def T39 (F:Nat) (p0:List UInt8) (p2:Int) (p4:Int) (p6:List UInt8) (p7:Int) (p8:List UInt8) (p9:List Za):=T39c F p0 p2 p4 p6 p7 p8 p9 some
def ct39 (F:Nat):Ct:=mkC 0 [(.pr .str (.pr .i (.pr .i (.pr .i (.pr .i (.pr (.ro (.pr .s (.pr .i (.pr .i .un)))) .un)))))),(.pr (.pr .str (.pr .i .un)) (.pr (.ro .u8) (.pr (.ro .s) .un)))] [] [.bo] [] (fun x y=>T39 F x.1.1 x.1.2.2.1 x.1.2.2.2.2.1 x.2.1.1.1 x.2.1.1.2.1 x.2.1.2.1 x.2.1.2.2.1) (fun x y (z:Bool)=>((z,()),()))
theorem ok39 (F:Nat):Sound Tryd.prog cfg 39 (ct39 F):=
 mkC_ok (E:=E39 F) (lp:=[]) (code:=bodyOf Tryd.f39) Tryd.func39 rfl Tryd.ntmps39 rfl rfl cok (cts39 F) mixed trivial (by kernel_rfl) (fun x y k=>T39c F x.1.1 x.1.2.2.1 x.1.2.2.2.2.1 x.2.1.1.1 x.2.1.1.2.1 x.2.1.2.1 x.2.1.2.2.1 k) (fun _ _ _=>by simp only [T39,T39c,oA,oC,oS,oN,elimS_bind]) (fun _ _=>by kernel_rfl)
def ord56x1:Nat->List (Tag×Nat)
 | _=>[]
def al56x1:Nat->Option Nat
 | _=>none
def ms56x1:Nat->Option (List (Option Tag×Nat×List Nat))
 | _=>none
def E56x1 (F:Nat):Ev:=⟨cfg,27,ctOf [(57,ct57 F),(39,ct39 F)],ord56x1,ctOf [],al56x1,ms56x1⟩
theorem cts56x1 (F:Nat):CtsOk Tryd.prog (E56x1 F):=cts_of (l:=[(57,ct57 F),(39,ct39 F)]) (l':=[]) rfl rfl ⟨⟨ok57 F,_,Tryd.func57,rfl,rfl⟩,⟨⟨ok39 F,_,Tryd.func39,rfl,rfl⟩,trivial⟩⟩ trivial
def T56x1c (F:Nat) (p0:List UInt8) (p1:Int) (p2:List UInt8) (p3:List (List UInt8)) (p4:List UInt8) (p6:Int) (p8:Int) {β:Type} (k:((List Int)×(List (List UInt8)))->Option β):Option β:=
 (Option.bind (T57 F ([]:List Int) p1) fun z5=>(bif (!z5) then (Option.bind (T39 F p4 p6 p8 p0 p1 p2 p3) fun z6=>(bif z6 then (Option.bind (gapp ([]:List Int) ([p1]:List Int)) fun x7=>(Option.bind (gapp ([]:List (List UInt8)) ([p2]:List (List UInt8))) fun x8=>(k (x7,x8)))) else (k (([]:List Int),([]:List (List UInt8)))))) else (k (([]:List Int),([]:List (List UInt8))))))
def T56x1 (F:Nat) (p0:List UInt8) (p1:Int) (p2:List UInt8) (p3:List (List UInt8)) (p4:List UInt8) (p6:Int) (p8:Int):Option ((List Int)×(List (List UInt8))):=T56x1c F p0 p1 p2 p3 p4 p6 p8 some
theorem T56x1n (F:Nat) (p0:List UInt8) (p1:Int) (p2:List UInt8) (p3:List (List UInt8)) (p4:List UInt8) (p6:Int) (p8:Int) {β:Type} (k:((List Int)×(List (List UInt8)))->Option β):T56x1c F p0 p1 p2 p3 p4 p6 p8 k=(T56x1 F p0 p1 p2 p3 p4 p6 p8).bind k:=by
 simp only [T56x1,T56x1c,Option.bind_assoc,cond_bind,Option.bind_some,Option.bind_none,elimS_bind]
abbrev cA56x1:List Sh:=[(.pr (.pr .str (.pr .i .un)) (.pr (.ro .u8) (.pr (.ro .s) .un))),(.pt 0 []),(.pt 1 []),(.pt 2 [])]
abbrev cB56x1:List Sh:=[]
abbrev cT56x1:List TSh:=[.blk 23 .ns,.blk 49 (.pr .str (.pr .i (.pr .i (.pr .i (.pr .i (.pr (.ro (.pr .s (.pr .i (.pr .i .un)))) .un)))))),.blk 43 .ns]
abbrev cU56x1:List TSh:=[.blk 23 (.rw 3),.blk 49 (.pr .str (.pr .i (.pr .i (.pr .i (.pr .i (.pr (.ro (.pr .s (.pr .i (.pr .i .un)))) .un)))))),.blk 43 (.rw 4),.row 3 .i,.row 55 (.sl .u8)]
def ct56x1 (F:Nat):Ct:=mkC 3 cA56x1 cT56x1 cB56x1 cU56x1 (fun x y=>T56x1 F x.1.1.1 x.1.1.2.1 x.1.2.1 x.1.2.2.1 y.2.1.1 y.2.1.2.2.1 y.2.1.2.2.2.2.1) (fun x y (z:(List Int)×(List (List UInt8)))=>((),((),(y.2.1.1,y.2.1.2.1,y.2.1.2.2.1,y.2.1.2.2.2.1,y.2.1.2.2.2.2.1,y.2.1.2.2.2.2.2.1,()),(),z.1,z.2,())))
theorem eq56x1 (F:Nat) (x:dens cA56x1) (y:tdens cT56x1):sev (E56x1 F) 3 [] (bodyOf Tryd.f56) [] (mkSt (rng 4) cA56x1 cT56x1 x y) (kFn (E56x1 F) 3 Tryd.f56.results.toList cB56x1 cU56x1 fun p q=>some (p,q)) =
  T56x1c F x.1.1.1 x.1.1.2.1 x.1.2.1 x.1.2.2.1 y.2.1.1 y.2.1.2.2.1 y.2.1.2.2.2.2.1 (fun z=>some ((),((),(y.2.1.1,y.2.1.2.1,y.2.1.2.2.1,y.2.1.2.2.2.1,y.2.1.2.2.2.2.1,y.2.1.2.2.2.2.2.1,()),(),z.1,z.2,()))):=by kernel_rfl
theorem ok56x1 (F:Nat):Sound Tryd.prog cfg 56 (ct56x1 F):=
 mkC_ok (E:=E56x1 F) (lp:=[]) (code:=bodyOf Tryd.f56) Tryd.func56 rfl Tryd.ntmps56 rfl rfl cok (cts56x1 F) mixed trivial (by kernel_rfl) (fun x y k=>T56x1c F x.1.1.1 x.1.1.2.1 x.1.2.1 x.1.2.2.1 y.2.1.1 y.2.1.2.2.1 y.2.1.2.2.2.2.1 k) (fun x y k=>T56x1n F x.1.1.1 x.1.1.2.1 x.1.2.1 x.1.2.2.1 y.2.1.1 y.2.1.2.2.1 y.2.1.2.2.2.2.1 k) (eq56x1 F)
def ord56x3:Nat->List (Tag×Nat)
 | _=>[]
def al56x3:Nat->Option Nat
 | _=>none
def ms56x3:Nat->Option (List (Option Tag×Nat×List Nat))
 | _=>none
def E56x3 (F:Nat):Ev:=⟨cfg,27,ctOf [(57,ct57 F),(39,ct39 F)],ord56x3,ctOf [],al56x3,ms56x3⟩
theorem cts56x3 (F:Nat):CtsOk Tryd.prog (E56x3 F):=cts_of (l:=[(57,ct57 F),(39,ct39 F)]) (l':=[]) rfl rfl ⟨⟨ok57 F,_,Tryd.func57,rfl,rfl⟩,⟨⟨ok39 F,_,Tryd.func39,rfl,rfl⟩,trivial⟩⟩ trivial
def T56x3c (F:Nat) (p0:List UInt8) (p1:Int) (p2:List UInt8) (p3:List (List UInt8)) (p4:List UInt8) (p6:Int) (p8:Int) (p10:List Int) (p11:List (List UInt8)) {β:Type} (k:((List Int)×(List (List UInt8)))->Option β):Option β:=
 (Option.bind (T57 F p10 p1) fun z5=>(bif (!z5) then (Option.bind (T39 F p4 p6 p8 p0 p1 p2 p3) fun z6=>(bif z6 then (Option.bind (gapp p10 ([p1]:List Int)) fun x7=>(Option.bind (gapp p11 ([p2]:List (List UInt8))) fun x8=>(k (x7,x8)))) else (k (p10,p11)))) else (k (p10,p11))))
def T56x3 (F:Nat) (p0:List UInt8) (p1:Int) (p2:List UInt8) (p3:List (List UInt8)) (p4:List UInt8) (p6:Int) (p8:Int) (p10:List Int) (p11:List (List UInt8)):Option ((List Int)×(List (List UInt8))):=T56x3c F p0 p1 p2 p3 p4 p6 p8 p10 p11 some
theorem T56x3n (F:Nat) (p0:List UInt8) (p1:Int) (p2:List UInt8) (p3:List (List UInt8)) (p4:List UInt8) (p6:Int) (p8:Int) (p10:List Int) (p11:List (List UInt8)) {β:Type} (k:((List Int)×(List (List UInt8)))->Option β):T56x3c F p0 p1 p2 p3 p4 p6 p8 p10 p11 k=(T56x3 F p0 p1 p2 p3 p4 p6 p8 p10 p11).bind k:=by
 simp only [T56x3,T56x3c,Option.bind_assoc,cond_bind,Option.bind_some,Option.bind_none,elimS_bind]
abbrev cA56x3:List Sh:=[(.pr (.pr .str (.pr .i .un)) (.pr (.ro .u8) (.pr (.ro .s) .un))),(.pt 0 []),(.pt 1 []),(.pt 2 [])]
abbrev cB56x3:List Sh:=[]
abbrev cT56x3:List TSh:=[.blk 23 (.rw 3),.blk 49 (.pr .str (.pr .i (.pr .i (.pr .i (.pr .i (.pr (.ro (.pr .s (.pr .i (.pr .i .un)))) .un)))))),.blk 43 (.rw 4),.row 3 .i,.row 55 (.sl .u8)]
abbrev cU56x3:List TSh:=[.blk 23 (.rw 3),.blk 49 (.pr .str (.pr .i (.pr .i (.pr .i (.pr .i (.pr (.ro (.pr .s (.pr .i (.pr .i .un)))) .un)))))),.blk 43 (.rw 4),.row 3 .i,.row 55 (.sl .u8)]
def ct56x3 (F:Nat):Ct:=mkC 3 cA56x3 cT56x3 cB56x3 cU56x3 (fun x y=>T56x3 F x.1.1.1 x.1.1.2.1 x.1.2.1 x.1.2.2.1 y.2.1.1 y.2.1.2.2.1 y.2.1.2.2.2.2.1 y.2.2.2.1 y.2.2.2.2.1) (fun x y (z:(List Int)×(List (List UInt8)))=>((),((),(y.2.1.1,y.2.1.2.1,y.2.1.2.2.1,y.2.1.2.2.2.1,y.2.1.2.2.2.2.1,y.2.1.2.2.2.2.2.1,()),(),z.1,z.2,())))
theorem eq56x3 (F:Nat) (x:dens cA56x3) (y:tdens cT56x3):sev (E56x3 F) 3 [] (bodyOf Tryd.f56) [] (mkSt (rng 4) cA56x3 cT56x3 x y) (kFn (E56x3 F) 3 Tryd.f56.results.toList cB56x3 cU56x3 fun p q=>some (p,q)) =
  T56x3c F x.1.1.1 x.1.1.2.1 x.1.2.1 x.1.2.2.1 y.2.1.1 y.2.1.2.2.1 y.2.1.2.2.2.2.1 y.2.2.2.1 y.2.2.2.2.1 (fun z=>some ((),((),(y.2.1.1,y.2.1.2.1,y.2.1.2.2.1,y.2.1.2.2.2.1,y.2.1.2.2.2.2.1,y.2.1.2.2.2.2.2.1,()),(),z.1,z.2,()))):=by kernel_rfl
theorem ok56x3 (F:Nat):Sound Tryd.prog cfg 56 (ct56x3 F):=
 mkC_ok (E:=E56x3 F) (lp:=[]) (code:=bodyOf Tryd.f56) Tryd.func56 rfl Tryd.ntmps56 rfl rfl cok (cts56x3 F) mixed trivial (by kernel_rfl) (fun x y k=>T56x3c F x.1.1.1 x.1.1.2.1 x.1.2.1 x.1.2.2.1 y.2.1.1 y.2.1.2.2.1 y.2.1.2.2.2.2.1 y.2.2.2.1 y.2.2.2.2.1 k) (fun x y k=>T56x3n F x.1.1.1 x.1.1.2.1 x.1.2.1 x.1.2.2.1 y.2.1.1 y.2.1.2.2.1 y.2.1.2.2.2.2.1 y.2.2.2.1 y.2.2.2.2.1 k) (eq56x3 F)
def E84 (F:Nat):Ev:=⟨cfg,35,ctOf [(31,ct31 F)],fun _=>[],ctOf [],fun _=>none,fun _=>none⟩
theorem cts84 (F:Nat):CtsOk Tryd.prog (E84 F):=cts_of (l:=[(31,ct31 F)]) (l':=[]) rfl rfl ⟨⟨ok31 F,_,Tryd.func31,rfl,rfl⟩,trivial⟩ trivial
def L84_2c (F:Nat) (y17:Int) (y18:List Int) (y19:Int) (y20:Int) (y21:Vector Bool 16) {β:Type} (kA:(Int×(Vector Bool 16))->Option β) (kO:Unit->Option β) (kR:Int->Option β):Option β:=
 (bif (decide (y20 < y19)) then (Option.bind (ix y18 y20) fun x26=>(bif (decide (x26 < (0:Int))) then (kR (1:Int)) else (bif (decide (y17≤x26)) then (kR (1:Int)) else (Option.bind (inb 16 x26) fun x27=>(Option.bind (vat y21 x27) fun x28=>(bif x28 then (kR (1:Int)) else (Option.bind (inb 16 x26) fun x29=>(kA ((w64 (y20 + (1:Int))),(Vector.setIfInBounds y21 x29 true)))))))))) else (kO ()))
def L84_2 (F:Nat) (y17:Int) (y18:List Int) (y19:Int) (y20:Int) (y21:Vector Bool 16):Option ((Int×(Vector Bool 16)) ⊕ ((Unit) ⊕ (Int))):=L84_2c F y17 y18 y19 y20 y21 (fun s=>some (.inl s)) (fun z=>some (.inr (.inl z))) (fun z=>some (.inr (.inr z)))
theorem L84_2n (F:Nat) (y17:Int) (y18:List Int) (y19:Int) (y20:Int) (y21:Vector Bool 16) {β:Type} (kA:(Int×(Vector Bool 16))->Option β) (kO:Unit->Option β) (kR:Int->Option β):L84_2c F y17 y18 y19 y20 y21 kA kO kR=(L84_2 F y17 y18 y19 y20 y21).bind (elimS kA (elimS kO kR)):=by
 simp only [L84_2,L84_2c,oA,oC,oS,oN,elimS_l,elimS_r,elimS_bind]
def lc84_2 (F:Nat):Lc:=mkR [1,7,14,15,16] [.i,(.pt 0 []),(.ro .i),.i,.i] [.blk 148 (.ar 16 .bo)] [] [] [] [6] [.i] [] F (fun x y (s:Int×(Vector Bool 16))=>L84_2 F x.1 x.2.2.1 x.2.2.2.1 s.1 s.2) (fun x y=>(x.2.2.2.2.1,y.1)) (fun x y (z:Unit)=>((),())) (fun x y (z:Int)=>((z,()),()))
theorem lo84_2 (F:Nat):LcOk Tryd.prog (E84 F) 0 (lc84_2 F) (cAt (bodyOf Tryd.f84) [1,0,1,1,1]):=
 mkR_ok (lp:=[]) (id:=0) (b:=cAt (bodyOf Tryd.f84) (0 :: 0 :: [1,0,1,1,1])) cok (cts84 F) mixed trivial (by kernel_rfl) (by kernel_rfl) (fun x y s=>(x.1,(),x.2.2.1,x.2.2.2.1,s.1,())) (fun x y s=>(s.2,())) (fun x y=>rfl) (fun x y=>rfl) (fun x y s kA kO kR=>L84_2c F x.1 x.2.2.1 x.2.2.2.1 s.1 s.2 kA kO kR) (fun x y s kA kO kR=>L84_2n F x.1 x.2.2.1 x.2.2.2.1 s.1 s.2 kA kO kR) (fun _ _ _=>by kernel_rfl)
def T84c (F:Nat) (p0:Int) (p1:Int) (p2:List Int) {β:Type} (k:Int->Option β):Option β:=
 (Option.bind (T31 F p0 p1) fun z16=>(bif (!z16) then (k (1:Int)) else (Option.bind (iter (fun s=>L84_2 F p1 p2 (p2.length:Int) s.1 s.2) F ((0:Int),(Vector.replicate 16 false))) fun z30=>elimS (fun z30=>(k (0:Int))) (fun z30=>(k z30)) z30)))
def T84 (F:Nat) (p0:Int) (p1:Int) (p2:List Int):=T84c F p0 p1 p2 some
def ct84 (F:Nat):Ct:=mkC 0 [.i,.i,(.ro .i)] [] [.i] [] (fun x y=>T84 F x.1 x.2.1 x.2.2.1) (fun x y (z:Int)=>((z,()),()))
theorem ok84 (F:Nat):Sound Tryd.prog cfg 84 (ct84 F):=
 mkC_ok (E:=E84 F) (lp:=[([1,0,1,1,1],lc84_2 F)]) (code:=bodyOf Tryd.f84) Tryd.func84 rfl Tryd.ntmps84 rfl rfl cok (cts84 F) mixed ⟨lo84_2 F,trivial⟩ (by kernel_rfl) (fun x y k=>T84c F x.1 x.2.1 x.2.2.1 k) (fun _ _ _=>by simp only [T84,T84c,oA,oC,oS,oN,elimS_bind]) (fun _ _=>by kernel_rfl)
def E73 (F:Nat):Ev:=⟨cfg,31,ctOf [(84,ct84 F),(79,ct79 F)],fun _=>[],ctOf [],fun _=>none,fun _=>none⟩
theorem cts73 (F:Nat):CtsOk Tryd.prog (E73 F):=cts_of (l:=[(84,ct84 F),(79,ct79 F)]) (l':=[]) rfl rfl ⟨⟨ok84 F,_,Tryd.func84,rfl,rfl⟩,⟨⟨ok79 F,_,Tryd.func79,rfl,rfl⟩,trivial⟩⟩ trivial
def T73c (F:Nat) (p0:Int) (p1:Int) (p2:List Int) (p3:List Za) {β:Type} (k:Int->Option β):Option β:=
 (Option.bind (T84 F p0 p1 p2) fun z3=>(bif (z3 != (0:Int)) then (k z3) else (bif ((p2.length:Int) != (p3.length:Int)) then (k (1:Int)) else (Option.bind (T79 F p3) fun z4=>(bif (!z4) then (k (1:Int)) else (bif (decide ((p2.length:Int) < p0)) then (k (10:Int)) else (k (0:Int))))))))
def T73 (F:Nat) (p0:Int) (p1:Int) (p2:List Int) (p3:List Za):=T73c F p0 p1 p2 p3 some
def ct73 (F:Nat):Ct:=mkC 0 [.i,.i,(.ro .i),(.ro (.sl .u8))] [] [.i] [] (fun x y=>T73 F x.1 x.2.1 x.2.2.1 x.2.2.2.1) (fun x y (z:Int)=>((z,()),()))
theorem ok73 (F:Nat):Sound Tryd.prog cfg 73 (ct73 F):=
 mkC_ok (E:=E73 F) (lp:=[]) (code:=bodyOf Tryd.f73) Tryd.func73 rfl Tryd.ntmps73 rfl rfl cok (cts73 F) mixed trivial (by kernel_rfl) (fun x y k=>T73c F x.1 x.2.1 x.2.2.1 x.2.2.2.1 k) (fun _ _ _=>by simp only [T73,T73c,oA,oC,oS,oN,elimS_bind]) (fun _ _=>by kernel_rfl)
def E99 (F:Nat):Ev:=⟨cfg,9,ctOf [],fun _=>[],ctOf [],fun _=>none,fun _=>none⟩
theorem cts99 (F:Nat):CtsOk Tryd.prog (E99 F):=cts_of (l:=[]) (l':=[]) rfl rfl trivial trivial
def T99c (F:Nat) (p0:Int) {β:Type} (k:Bool->Option β):Option β:=
 (bif (decide ((0:Int)≤p0)) then (k (decide (p0≤(64:Int)))) else (k false))
def T99 (F:Nat) (p0:Int):=T99c F p0 some
def ct99 (F:Nat):Ct:=mkC 0 [.i] [] [.bo] [] (fun x y=>T99 F x.1) (fun x y (z:Bool)=>((z,()),()))
theorem ok99 (F:Nat):Sound Tryd.prog cfg 99 (ct99 F):=
 mkC_ok (E:=E99 F) (lp:=[]) (code:=bodyOf Tryd.f99) Tryd.func99 rfl Tryd.ntmps99 rfl rfl cok (cts99 F) mixed trivial (by kernel_rfl) (fun x y k=>T99c F x.1 k) (fun _ _ _=>by simp only [T99,T99c,oA,oC,oS,oN,elimS_bind]) (fun _ _=>by kernel_rfl)
def E95 (F:Nat):Ev:=⟨cfgR,24,ctOf [(99,ct99 F),(91,ct91 F)],fun _=>[],ctOf [],fun _=>none,fun _=>none⟩
theorem cts95 (F:Nat):CtsOk Tryd.prog (E95 F):=cts_of (l:=[(99,ct99 F),(91,ct91 F)]) (l':=[]) rfl rfl ⟨⟨ok99 F,_,Tryd.func99,rfl,rfl⟩,⟨⟨ok91 F,_,Tryd.func91,rfl,rfl⟩,trivial⟩⟩ trivial
def L95_2c (F:Nat) (y21:Int) (y22:Int) (y23:List (Option Za)×List Nat) {β:Type} (kA:(Int×(List (Option Za)×List Nat))->Option β) (kO:((List (Option Za)×List Nat))->Option β):Option β:=
 (bif (decide (y22 < y21)) then (Option.bind (inb y23.2.length y22) fun x30=>(Option.bind (outG y23.2 x30) fun x31=>(Option.bind (rxG y23.1 x31) fun x32=>(Option.bind (rxG y23.1 x31) fun x33=>(Option.bind (inb x33.length y22) fun x34=>(Option.bind (rxG y23.1 x31) fun x35=>(kA ((w64 (y22 + (1:Int))),((List.set y23.1 x31 (some (List.set x35 x34 (UInt8.ofNat 1)))),y23.2))))))))) else (kO y23))
def L95_2 (F:Nat) (y21:Int) (y22:Int) (y23:List (Option Za)×List Nat):=L95_2c F y21 y22 y23 (fun s=>some (Sum.inl s)) (fun z=>some (Sum.inr z))
def lc95_2 (F:Nat):Lc:=mkL [3,12,13] [(.rw 0),.i,.i] [.rr 55 5 .u8] [3] [(.rw 0)] [.rr 55 5 .u8] F (fun x y (s:Int×(List (Option Za)×List Nat))=>L95_2 F x.2.1 s.1 s.2) (fun x y=>(x.2.2.1,y.1)) (fun x y (z:(List (Option Za)×List Nat))=>(((),()),(z,())))
theorem lo95_2 (F:Nat):LcOk Tryd.prog (E95 F) 0 (lc95_2 F) (cAt (bodyOf Tryd.f95) [1,0,1,1,1]):=
 mkL_ok (lp:=[]) (id:=0) (b:=cAt (bodyOf Tryd.f95) (0 :: 0 :: [1,0,1,1,1])) cokR (cts95 F) mixed trivial (by kernel_rfl) (by kernel_rfl) (fun x y s=>((),x.2.1,s.1,())) (fun x y s=>(s.2,())) (fun x y=>rfl) (fun x y=>rfl) (fun x y s kA kO=>L95_2c F x.2.1 s.1 s.2 kA kO) (fun _ _ _ _ _=>by simp only [L95_2,L95_2c,oA,oC,oS,oN,elimS_l,elimS_r,elimS_bind]) (fun _ _ _=>by kernel_rfl)
def T95c (F:Nat) (p0:Int) {β:Type} (k:(Zd)->Option β):Option β:=
 (Option.bind (T99 F p0) fun z19=>(bif (!z19) then (k ([]:List Za)) else (Option.bind (T91 F p0 p0) fun z20=>(Option.bind (iter (fun s=>L95_2 F (z20.2.length:Int) s.1 s.2) F ((0:Int),z20)) fun z36=>(Option.bind (mat z36.1 z36.2) fun x37=>(k x37))))))
def T95 (F:Nat) (p0:Int):=T95c F p0 some
def ct95 (F:Nat):Ct:=mkC 0 [.i] [] [(.ro (.sl .u8))] [] (fun x y=>T95 F x.1) (fun x y (z:Zd)=>((z,()),()))
theorem ok95 (F:Nat):Sound Tryd.prog cfg 95 (ct95 F):=
 mkC_ok (E:=E95 F) (lp:=[([1,0,1,1,1],lc95_2 F)]) (code:=bodyOf Tryd.f95) Tryd.func95 rfl Tryd.ntmps95 rfl rfl cokR (cts95 F) mixed ⟨lo95_2 F,trivial⟩ (by kernel_rfl) (fun x y k=>T95c F x.1 k) (fun _ _ _=>by simp only [T95,T95c,oA,oC,oS,oN,elimS_bind]) (fun _ _=>by kernel_rfl)
def ord101x1:Nat->List (Tag×Nat)
 | 4=>[(.r,0),(.p,1),(.p,2),(.r,3),(.p,4),(.p,5),(.r,6),(.r,7),(.p,8),(.r,9),(.p,10)]
 | _=>[]
def al101x1:Nat->Option Nat
 | _=>none
def ms101x1:Nat->Option (List (Option Tag×Nat×List Nat))
 | _=>none
def E101x1 (F:Nat):Ev:=⟨cfg,27,ctOf [],ord101x1,ctOf [],al101x1,ms101x1⟩
theorem cts101x1 (F:Nat):CtsOk Tryd.prog (E101x1 F):=cts_of (l:=[]) (l':=[]) rfl rfl trivial trivial
def L101x1_2c (F:Nat) (y15:Int) (y17:List (List UInt8)) (y13:Int) {β:Type} (kA:Int->Option β) (kO:Unit->Option β) (kR:Int->Option β):Option β:=
 (bif (decide (y13 < (y17.length:Int))) then (Option.bind (inb y17.length y13) fun x21=>(Option.bind (y17[x21]?) fun x22=>(Option.bind (ix x22 y15) fun x23=>(bif (x23 != (UInt8.ofNat 0)) then (kR y13) else (kA (w64 (y13 + (1:Int)))))))) else (kO ()))
def L101x1_2 (F:Nat) (y15:Int) (y17:List (List UInt8)) (y13:Int):Option ((Int) ⊕ ((Unit) ⊕ (Int))):=L101x1_2c F y15 y17 y13 (fun s=>some (.inl s)) (fun z=>some (.inr (.inl z))) (fun z=>some (.inr (.inr z)))
theorem L101x1_2n (F:Nat) (y15:Int) (y17:List (List UInt8)) (y13:Int) {β:Type} (kA:Int->Option β) (kO:Unit->Option β) (kR:Int->Option β):L101x1_2c F y15 y17 y13 kA kO kR=(L101x1_2 F y15 y17 y13).bind (elimS kA (elimS kO kR)):=by
 simp only [L101x1_2,L101x1_2c,Option.bind_assoc,cond_bind,Option.bind_some,Option.bind_none,elimS_l,elimS_r,elimS_bind]
abbrev sA101x1_2:List Sh:=[(.pt 1 []),(.pt 2 []),.i]
abbrev sAp1101x1_2:List Sh:=[]
abbrev sAp2101x1_2:List Sh:=[.i]
abbrev sT101x1_2:List TSh:=[.blk 3 .i,.blk 152 (.pt 3 []),.blk 3 .i,.blk 156 (.pr (.rw 4) (.pr .ns (.pr .u8 .un))),.row 55 (.sl .u8)]
abbrev sTp1101x1_2:List TSh:=[.blk 3 .i,.blk 152 (.pt 3 []),.blk 3 .i,.blk 156 (.pr (.rw 4) (.pr .ns (.pr .u8 .un))),.row 55 (.sl .u8)]
abbrev sTp2101x1_2:List TSh:=[.blk 3 .i,.blk 152 (.pt 3 []),.blk 3 .i,.blk 156 (.pr (.rw 4) (.pr .ns (.pr .u8 .un))),.row 55 (.sl .u8)]
def lc101x1_2 (F:Nat):Lc:=mkR [1,2,4] sA101x1_2 sT101x1_2 [] sAp1101x1_2 sTp1101x1_2 [3] sAp2101x1_2 sTp2101x1_2 F (fun x y (s:Int)=>L101x1_2 F y.2.2.1 y.2.2.2.2.1 s) (fun x y=>x.2.2.1) (fun x y (z:Unit)=>((),(y.1,(),y.2.2.1,((),(),y.2.2.2.1.2.2.1,()),y.2.2.2.2.1,()))) (fun x y (z:Int)=>((z,()),(y.1,(),y.2.2.1,((),(),y.2.2.2.1.2.2.1,()),y.2.2.2.2.1,())))
theorem le101x1_2 (F:Nat) (x:dens sA101x1_2) (y:tdens sT101x1_2) (s:Int):sev (E101x1 F) 5 [] (cAt (bodyOf Tryd.f101) (0 :: 0 :: [1,0,1])) (0 :: 0 :: [1,0,1]) (mkSt [1,2,4] sA101x1_2 sT101x1_2 ((),(),s,()) (y.1,(),y.2.2.1,((),(),y.2.2.2.1.2.2.1,()),y.2.2.2.2.1,())) (kLoop 5 [1,2,4] sA101x1_2 sT101x1_2 [] sAp1101x1_2 sTp1101x1_2 [3] sAp2101x1_2 sTp2101x1_2 0 (fun x y=>some (.inl (x,y))) (fun x y=>some (.inr (.inl (x,y)))) (fun x y=>some (.inr (.inr (x,y))))) =
  L101x1_2c (β:=Full sA101x1_2 sT101x1_2 sAp1101x1_2 sTp1101x1_2 sAp2101x1_2 sTp2101x1_2) F y.2.2.1 y.2.2.2.2.1 s (fun s=>some (.inl (((),(),s,()),(y.1,(),y.2.2.1,((),(),y.2.2.2.1.2.2.1,()),y.2.2.2.2.1,())))) (fun z=>some (.inr (.inl ((),(y.1,(),y.2.2.1,((),(),y.2.2.2.1.2.2.1,()),y.2.2.2.2.1,()))))) (fun z=>some (.inr (.inr ((z,()),(y.1,(),y.2.2.1,((),(),y.2.2.2.1.2.2.1,()),y.2.2.2.2.1,()))))):=by kernel_rfl
theorem lo101x1_2 (F:Nat):LcOk Tryd.prog (E101x1 F) 5 (lc101x1_2 F) (cAt (bodyOf Tryd.f101) [1,0,1]):=
 mkR_ok (lp:=[]) (id:=0) (b:=cAt (bodyOf Tryd.f101) (0 :: 0 :: [1,0,1])) cok (cts101x1 F) mixed trivial (by kernel_rfl) (by kernel_rfl) (fun x y s=>((),(),s,())) (fun x y s=>(y.1,(),y.2.2.1,((),(),y.2.2.2.1.2.2.1,()),y.2.2.2.2.1,())) (fun x y=>rfl) (fun x y=>rfl) (fun x y s kA kO kR=>L101x1_2c F y.2.2.1 y.2.2.2.2.1 s kA kO kR) (fun x y s kA kO kR=>L101x1_2n F y.2.2.1 y.2.2.2.2.1 s kA kO kR) (le101x1_2 F)
def T101x1c (F:Nat) (p0:Int) (p1:Int) (p3:List (List UInt8)) {β:Type} (k:Int->Option β):Option β:=
 (Option.bind (iter (fun s=>L101x1_2 F p1 p3 s) F p0) fun z24=>elimS (fun z24=>(k (-1:Int))) (fun z24=>(k z24)) z24)
def T101x1 (F:Nat) (p0:Int) (p1:Int) (p3:List (List UInt8)):Option (Int):=T101x1c F p0 p1 p3 some
theorem T101x1n (F:Nat) (p0:Int) (p1:Int) (p3:List (List UInt8)) {β:Type} (k:Int->Option β):T101x1c F p0 p1 p3 k=(T101x1 F p0 p1 p3).bind k:=by
 simp only [T101x1,T101x1c,Option.bind_assoc,cond_bind,Option.bind_some,Option.bind_none,elimS_bind]
abbrev cA101x1:List Sh:=[(.pt 0 []),(.pt 1 []),(.pt 2 [])]
abbrev cB101x1:List Sh:=[.i]
abbrev cT101x1:List TSh:=[.blk 3 .i,.blk 152 (.pt 3 []),.blk 3 .i,.blk 156 (.pr (.rw 4) (.pr .ns (.pr .u8 .un))),.row 55 (.sl .u8)]
abbrev cU101x1:List TSh:=[.blk 3 .i,.blk 152 (.pt 3 []),.blk 3 .i,.blk 156 (.pr (.rw 4) (.pr .ns (.pr .u8 .un))),.row 55 (.sl .u8)]
def ct101x1 (F:Nat):Ct:=mkC 5 cA101x1 cT101x1 cB101x1 cU101x1 (fun x y=>T101x1 F y.1 y.2.2.1 y.2.2.2.2.1) (fun x y (z:Int)=>((z,()),(y.1,(),y.2.2.1,((),(),y.2.2.2.1.2.2.1,()),y.2.2.2.2.1,())))
theorem eq101x1 (F:Nat) (x:dens cA101x1) (y:tdens cT101x1):sev (E101x1 F) 5 [([1,0,1],lc101x1_2 F)] (bodyOf Tryd.f101) [] (mkSt (rng 3) cA101x1 cT101x1 x y) (kFn (E101x1 F) 5 Tryd.f101.results.toList cB101x1 cU101x1 fun p q=>some (p,q)) =
  T101x1c F y.1 y.2.2.1 y.2.2.2.2.1 (fun z=>some ((z,()),(y.1,(),y.2.2.1,((),(),y.2.2.2.1.2.2.1,()),y.2.2.2.2.1,()))):=by kernel_rfl
theorem ok101x1 (F:Nat):Sound Tryd.prog cfg 101 (ct101x1 F):=
 mkC_ok (E:=E101x1 F) (lp:=[([1,0,1],lc101x1_2 F)]) (code:=bodyOf Tryd.f101) Tryd.func101 rfl Tryd.ntmps101 rfl rfl cok (cts101x1 F) mixed ⟨lo101x1_2 F,trivial⟩ (by kernel_rfl) (fun x y k=>T101x1c F y.1 y.2.2.1 y.2.2.2.2.1 k) (fun x y k=>T101x1n F y.1 y.2.2.1 y.2.2.2.2.1 k) (eq101x1 F)
def ord102:Nat->List (Tag×Nat)
 | 1=>[(.p,0),(.p,1),(.p,2),(.c,3),(.p,4),(.p,5),(.p,6),(.p,7),(.r,8),(.p,9),(.p,10),(.r,11),(.p,12),(.w,13),(.p,14),(.b,15)]
 | 6=>[(.p,0),(.p,1),(.p,2),(.c,3),(.p,4),(.p,5),(.p,6),(.p,7),(.p,8),(.r,9),(.p,10),(.p,11),(.r,12),(.p,13),(.p,14),(.p,15),(.r,16),(.w,17),(.p,18),(.p,19),(.p,20),(.p,21),(.b,22)]
 | _=>[]
def E102 (F:Nat):Ev:=⟨cfg,82,ctOf [(88,ct88 F),(96,ct96 F),(92,ct92 F)],ord102,ctOf [],fun _=>none,fun _=>none⟩
theorem cts102 (F:Nat):CtsOk Tryd.prog (E102 F):=cts_of (l:=[(88,ct88 F),(96,ct96 F),(92,ct92 F)]) (l':=[]) rfl rfl ⟨⟨ok88 F,_,Tryd.func88,rfl,rfl⟩,⟨⟨ok96 F,_,Tryd.func96,rfl,rfl⟩,⟨⟨ok92 F,_,Tryd.func92,rfl,rfl⟩,trivial⟩⟩⟩ trivial
def L102_2c (F:Nat) (y40:Int) (y41:Int) (y42:Int) (y43:Int) (y45:List Za) {β:Type} (kA:(Int×Zd)->Option β) (kO:(Zd)->Option β):Option β:=
 (bif (decide (y43 < y42)) then (Option.bind (inb y45.length y43) fun x54=>(Option.bind (y45[x54]?) fun x55=>(bif (y43 != y40) then (Option.bind (ix x55 y41) fun x56=>(bif (x56 != (UInt8.ofNat 0)) then (Option.bind (inb y45.length y40) fun x57=>(Option.bind (y45[x57]?) fun x58=>(Option.bind (ix x55 y41) fun x59=>(Option.bind (T92 F x55 x58 x59) fun z60=>(Option.bind (inb y45.length y43) fun x61=>(kA ((w64 (y43 + (1:Int))),(List.set y45 x61 z60.2)))))))) else (kA ((w64 (y43 + (1:Int))),y45)))) else (kA ((w64 (y43 + (1:Int))),y45))))) else (kO y45))
def L102_2 (F:Nat) (y40:Int) (y41:Int) (y42:Int) (y43:Int) (y45:List Za):=L102_2c F y40 y41 y42 y43 y45 (fun s=>some (Sum.inl s)) (fun z=>some (Sum.inr z))
def lc102_2 (F:Nat):Lc:=mkL [0,1,2,42,43,44] [(.pt 0 []),.i,.i,(.rw 1),.i,.i] [.blk 156 (.pr (.rw 1) (.pr .ns (.pr .u8 .un))),.row 55 (.sl .u8)] [] [] [.blk 156 (.pr (.rw 1) (.pr .ns (.pr .u8 .un))),.row 55 (.sl .u8)] F (fun x y (s:Int×Zd)=>L102_2 F x.2.1 x.2.2.1 x.2.2.2.2.1 s.1 s.2) (fun x y=>(x.2.2.2.2.2.1,y.2.1)) (fun x y (z:Zd)=>((),(((),(),y.1.2.2.1,()),z,())))
theorem lo102_2 (F:Nat):LcOk Tryd.prog (E102 F) 2 (lc102_2 F) (cAt (bodyOf Tryd.f102) [1,1,1]):=
 mkL_ok (lp:=[]) (id:=0) (b:=cAt (bodyOf Tryd.f102) (0 :: 0 :: [1,1,1])) cok (cts102 F) mixed trivial (by kernel_rfl) (by kernel_rfl) (fun x y s=>((),x.2.1,x.2.2.1,(),x.2.2.2.2.1,s.1,())) (fun x y s=>(((),(),y.1.2.2.1,()),s.2,())) (fun x y=>rfl) (fun x y=>rfl) (fun x y s kA kO=>L102_2c F x.2.1 x.2.2.1 x.2.2.2.2.1 s.1 s.2 kA kO) (fun _ _ _ _ _=>by simp only [L102_2,L102_2c,oA,oC,oS,oN,elimS_l,elimS_r,elimS_bind]) (fun _ _ _=>by kernel_rfl)
def T102c (F:Nat) (p0:Int) (p1:Int) (p3:List Za) {β:Type} (k:(Zd)->Option β):Option β:=
 (Option.bind (inb p3.length p0) fun x32=>(Option.bind (p3[x32]?) fun x33=>(Option.bind (ix x33 p1) fun x34=>(Option.bind (T88 F x34) fun z35=>(Option.bind (inb p3.length p0) fun x36=>(Option.bind (p3[x36]?) fun x37=>(Option.bind (T96 F x37 z35.1) fun z38=>(Option.bind (inb p3.length p0) fun x39=>(Option.bind (iter (fun s=>L102_2 F p0 p1 ((List.set p3 x39 z38).length:Int) s.1 s.2) F ((0:Int),(List.set p3 x39 z38))) fun z62=>(k z62))))))))))
def T102 (F:Nat) (p0:Int) (p1:Int) (p3:List Za):=T102c F p0 p1 p3 some
def ct102 (F:Nat):Ct:=mkC 2 [(.pt 0 []),.i,.i] [.blk 156 (.pr (.rw 1) (.pr .ns (.pr .u8 .un))),.row 55 (.sl .u8)] [] [.blk 156 (.pr (.rw 1) (.pr .ns (.pr .u8 .un))),.row 55 (.sl .u8)] (fun x y=>T102 F x.2.1 x.2.2.1 y.2.1) (fun x y (z:Zd)=>((),(((),(),y.1.2.2.1,()),z,())))
theorem ok102 (F:Nat):Sound Tryd.prog cfg 102 (ct102 F):=
 mkC_ok (E:=E102 F) (lp:=[([1,1,1],lc102_2 F)]) (code:=bodyOf Tryd.f102) Tryd.func102 rfl Tryd.ntmps102 rfl rfl cok (cts102 F) mixed ⟨lo102_2 F,trivial⟩ (by kernel_rfl) (fun x y k=>T102c F x.2.1 x.2.2.1 y.2.1 k) (fun _ _ _=>by simp only [T102,T102c,oA,oC,oS,oN,elimS_bind]) (fun _ _=>by kernel_rfl)
def ord101x3:Nat->List (Tag×Nat)
 | 4=>[(.r,0),(.p,1),(.p,2),(.r,3),(.p,4),(.p,5),(.r,6),(.r,7),(.p,8),(.r,9),(.p,10)]
 | _=>[]
def al101x3:Nat->Option Nat
 | _=>none
def ms101x3:Nat->Option (List (Option Tag×Nat×List Nat))
 | _=>none
def E101x3 (F:Nat):Ev:=⟨cfg,27,ctOf [],ord101x3,ctOf [],al101x3,ms101x3⟩
theorem cts101x3 (F:Nat):CtsOk Tryd.prog (E101x3 F):=cts_of (l:=[]) (l':=[]) rfl rfl trivial trivial
def L101x3_2c (F:Nat) (y16:Int) (y18:List (List UInt8)) (y14:Int) {β:Type} (kA:Int->Option β) (kO:Unit->Option β) (kR:Int->Option β):Option β:=
 (bif (decide (y14 < (y18.length:Int))) then (Option.bind (inb y18.length y14) fun x23=>(Option.bind (y18[x23]?) fun x24=>(Option.bind (ix x24 y16) fun x25=>(bif (x25 != (UInt8.ofNat 0)) then (kR y14) else (kA (w64 (y14 + (1:Int)))))))) else (kO ()))
def L101x3_2 (F:Nat) (y16:Int) (y18:List (List UInt8)) (y14:Int):Option ((Int) ⊕ ((Unit) ⊕ (Int))):=L101x3_2c F y16 y18 y14 (fun s=>some (.inl s)) (fun z=>some (.inr (.inl z))) (fun z=>some (.inr (.inr z)))
theorem L101x3_2n (F:Nat) (y16:Int) (y18:List (List UInt8)) (y14:Int) {β:Type} (kA:Int->Option β) (kO:Unit->Option β) (kR:Int->Option β):L101x3_2c F y16 y18 y14 kA kO kR=(L101x3_2 F y16 y18 y14).bind (elimS kA (elimS kO kR)):=by
 simp only [L101x3_2,L101x3_2c,Option.bind_assoc,cond_bind,Option.bind_some,Option.bind_none,elimS_l,elimS_r,elimS_bind]
abbrev sA101x3_2:List Sh:=[(.pt 1 []),(.pt 2 []),.i]
abbrev sAp1101x3_2:List Sh:=[]
abbrev sAp2101x3_2:List Sh:=[.i]
abbrev sT101x3_2:List TSh:=[.blk 3 .i,.blk 152 (.pt 3 []),.blk 3 .i,.blk 156 (.pr (.rw 4) (.pr (.rw 5) (.pr .u8 .un))),.row 55 (.sl .u8),.row 3 .i]
abbrev sTp1101x3_2:List TSh:=[.blk 3 .i,.blk 152 (.pt 3 []),.blk 3 .i,.blk 156 (.pr (.rw 4) (.pr (.rw 5) (.pr .u8 .un))),.row 55 (.sl .u8),.row 3 .i]
abbrev sTp2101x3_2:List TSh:=[.blk 3 .i,.blk 152 (.pt 3 []),.blk 3 .i,.blk 156 (.pr (.rw 4) (.pr (.rw 5) (.pr .u8 .un))),.row 55 (.sl .u8),.row 3 .i]
def lc101x3_2 (F:Nat):Lc:=mkR [1,2,4] sA101x3_2 sT101x3_2 [] sAp1101x3_2 sTp1101x3_2 [3] sAp2101x3_2 sTp2101x3_2 F (fun x y (s:Int)=>L101x3_2 F y.2.2.1 y.2.2.2.2.1 s) (fun x y=>x.2.2.1) (fun x y (z:Unit)=>((),(y.1,(),y.2.2.1,((),(),y.2.2.2.1.2.2.1,()),y.2.2.2.2.1,y.2.2.2.2.2.1,()))) (fun x y (z:Int)=>((z,()),(y.1,(),y.2.2.1,((),(),y.2.2.2.1.2.2.1,()),y.2.2.2.2.1,y.2.2.2.2.2.1,())))
theorem le101x3_2 (F:Nat) (x:dens sA101x3_2) (y:tdens sT101x3_2) (s:Int):sev (E101x3 F) 6 [] (cAt (bodyOf Tryd.f101) (0 :: 0 :: [1,0,1])) (0 :: 0 :: [1,0,1]) (mkSt [1,2,4] sA101x3_2 sT101x3_2 ((),(),s,()) (y.1,(),y.2.2.1,((),(),y.2.2.2.1.2.2.1,()),y.2.2.2.2.1,y.2.2.2.2.2.1,())) (kLoop 6 [1,2,4] sA101x3_2 sT101x3_2 [] sAp1101x3_2 sTp1101x3_2 [3] sAp2101x3_2 sTp2101x3_2 0 (fun x y=>some (.inl (x,y))) (fun x y=>some (.inr (.inl (x,y)))) (fun x y=>some (.inr (.inr (x,y))))) =
  L101x3_2c (β:=Full sA101x3_2 sT101x3_2 sAp1101x3_2 sTp1101x3_2 sAp2101x3_2 sTp2101x3_2) F y.2.2.1 y.2.2.2.2.1 s (fun s=>some (.inl (((),(),s,()),(y.1,(),y.2.2.1,((),(),y.2.2.2.1.2.2.1,()),y.2.2.2.2.1,y.2.2.2.2.2.1,())))) (fun z=>some (.inr (.inl ((),(y.1,(),y.2.2.1,((),(),y.2.2.2.1.2.2.1,()),y.2.2.2.2.1,y.2.2.2.2.2.1,()))))) (fun z=>some (.inr (.inr ((z,()),(y.1,(),y.2.2.1,((),(),y.2.2.2.1.2.2.1,()),y.2.2.2.2.1,y.2.2.2.2.2.1,()))))):=by kernel_rfl
theorem lo101x3_2 (F:Nat):LcOk Tryd.prog (E101x3 F) 6 (lc101x3_2 F) (cAt (bodyOf Tryd.f101) [1,0,1]):=
 mkR_ok (lp:=[]) (id:=0) (b:=cAt (bodyOf Tryd.f101) (0 :: 0 :: [1,0,1])) cok (cts101x3 F) mixed trivial (by kernel_rfl) (by kernel_rfl) (fun x y s=>((),(),s,())) (fun x y s=>(y.1,(),y.2.2.1,((),(),y.2.2.2.1.2.2.1,()),y.2.2.2.2.1,y.2.2.2.2.2.1,())) (fun x y=>rfl) (fun x y=>rfl) (fun x y s kA kO kR=>L101x3_2c F y.2.2.1 y.2.2.2.2.1 s kA kO kR) (fun x y s kA kO kR=>L101x3_2n F y.2.2.1 y.2.2.2.2.1 s kA kO kR) (le101x3_2 F)
def T101x3c (F:Nat) (p0:Int) (p1:Int) (p3:List (List UInt8)) {β:Type} (k:Int->Option β):Option β:=
 (Option.bind (iter (fun s=>L101x3_2 F p1 p3 s) F p0) fun z26=>elimS (fun z26=>(k (-1:Int))) (fun z26=>(k z26)) z26)
def T101x3 (F:Nat) (p0:Int) (p1:Int) (p3:List (List UInt8)):Option (Int):=T101x3c F p0 p1 p3 some
theorem T101x3n (F:Nat) (p0:Int) (p1:Int) (p3:List (List UInt8)) {β:Type} (k:Int->Option β):T101x3c F p0 p1 p3 k=(T101x3 F p0 p1 p3).bind k:=by
 simp only [T101x3,T101x3c,Option.bind_assoc,cond_bind,Option.bind_some,Option.bind_none,elimS_bind]
abbrev cA101x3:List Sh:=[(.pt 0 []),(.pt 1 []),(.pt 2 [])]
abbrev cB101x3:List Sh:=[.i]
abbrev cT101x3:List TSh:=[.blk 3 .i,.blk 152 (.pt 3 []),.blk 3 .i,.blk 156 (.pr (.rw 4) (.pr (.rw 5) (.pr .u8 .un))),.row 55 (.sl .u8),.row 3 .i]
abbrev cU101x3:List TSh:=[.blk 3 .i,.blk 152 (.pt 3 []),.blk 3 .i,.blk 156 (.pr (.rw 4) (.pr (.rw 5) (.pr .u8 .un))),.row 55 (.sl .u8),.row 3 .i]
def ct101x3 (F:Nat):Ct:=mkC 6 cA101x3 cT101x3 cB101x3 cU101x3 (fun x y=>T101x3 F y.1 y.2.2.1 y.2.2.2.2.1) (fun x y (z:Int)=>((z,()),(y.1,(),y.2.2.1,((),(),y.2.2.2.1.2.2.1,()),y.2.2.2.2.1,y.2.2.2.2.2.1,())))
theorem eq101x3 (F:Nat) (x:dens cA101x3) (y:tdens cT101x3):sev (E101x3 F) 6 [([1,0,1],lc101x3_2 F)] (bodyOf Tryd.f101) [] (mkSt (rng 3) cA101x3 cT101x3 x y) (kFn (E101x3 F) 6 Tryd.f101.results.toList cB101x3 cU101x3 fun p q=>some (p,q)) =
  T101x3c F y.1 y.2.2.1 y.2.2.2.2.1 (fun z=>some ((z,()),(y.1,(),y.2.2.1,((),(),y.2.2.2.1.2.2.1,()),y.2.2.2.2.1,y.2.2.2.2.2.1,()))):=by kernel_rfl
theorem ok101x3 (F:Nat):Sound Tryd.prog cfg 101 (ct101x3 F):=
 mkC_ok (E:=E101x3 F) (lp:=[([1,0,1],lc101x3_2 F)]) (code:=bodyOf Tryd.f101) Tryd.func101 rfl Tryd.ntmps101 rfl rfl cok (cts101x3 F) mixed ⟨lo101x3_2 F,trivial⟩ (by kernel_rfl) (fun x y k=>T101x3c F y.1 y.2.2.1 y.2.2.2.2.1 k) (fun x y k=>T101x3n F y.1 y.2.2.1 y.2.2.2.2.1 k) (eq101x3 F)
def ord102x1:Nat->List (Tag×Nat)
 | 1=>[(.p,0),(.p,1),(.p,2),(.c,3),(.p,4),(.p,5),(.p,6),(.p,7),(.r,8),(.p,9),(.p,10),(.r,11),(.p,12),(.w,13),(.p,14),(.b,15)]
 | 6=>[(.p,0),(.p,1),(.p,2),(.c,3),(.p,4),(.p,5),(.p,6),(.p,7),(.p,8),(.r,9),(.p,10),(.p,11),(.r,12),(.p,13),(.p,14),(.p,15),(.r,16),(.w,17),(.p,18),(.p,19),(.p,20),(.p,21),(.b,22)]
 | _=>[]
def al102x1:Nat->Option Nat
 | _=>none
def ms102x1:Nat->Option (List (Option Tag×Nat×List Nat))
 | _=>none
def E102x1 (F:Nat):Ev:=⟨cfg,82,ctOf [(88,ct88 F),(96,ct96 F),(92,ct92 F)],ord102x1,ctOf [],al102x1,ms102x1⟩
theorem cts102x1 (F:Nat):CtsOk Tryd.prog (E102x1 F):=cts_of (l:=[(88,ct88 F),(96,ct96 F),(92,ct92 F)]) (l':=[]) rfl rfl ⟨⟨ok88 F,_,Tryd.func88,rfl,rfl⟩,⟨⟨ok96 F,_,Tryd.func96,rfl,rfl⟩,⟨⟨ok92 F,_,Tryd.func92,rfl,rfl⟩,trivial⟩⟩⟩ trivial
def L102x1_2c (F:Nat) (y41:Int) (y42:Int) (y43:Int) (y44:Int) (y46:List (List UInt8)) {β:Type} (kA:(Int×(List (List UInt8)))->Option β) (kO:((List (List UInt8)))->Option β):Option β:=
 (bif (decide (y44 < y43)) then (Option.bind (inb y46.length y44) fun x56=>(Option.bind (y46[x56]?) fun x57=>(bif (y44 != y41) then (Option.bind (ix x57 y42) fun x58=>(bif (x58 != (UInt8.ofNat 0)) then (Option.bind (inb y46.length y41) fun x59=>(Option.bind (y46[x59]?) fun x60=>(Option.bind (ix x57 y42) fun x61=>(Option.bind (T92 F x57 x60 x61) fun z62=>(Option.bind (inb y46.length y44) fun x63=>(kA ((w64 (y44 + (1:Int))),(List.set y46 x63 z62.2)))))))) else (kA ((w64 (y44 + (1:Int))),y46)))) else (kA ((w64 (y44 + (1:Int))),y46))))) else (kO y46))
def L102x1_2 (F:Nat) (y41:Int) (y42:Int) (y43:Int) (y44:Int) (y46:List (List UInt8)):Option ((Int×(List (List UInt8))) ⊕ ((List (List UInt8)))):=L102x1_2c F y41 y42 y43 y44 y46 (fun s=>some (.inl s)) (fun z=>some (.inr z))
theorem L102x1_2n (F:Nat) (y41:Int) (y42:Int) (y43:Int) (y44:Int) (y46:List (List UInt8)) {β:Type} (kA:(Int×(List (List UInt8)))->Option β) (kO:((List (List UInt8)))->Option β):L102x1_2c F y41 y42 y43 y44 y46 kA kO=(L102x1_2 F y41 y42 y43 y44 y46).bind (elimS kA kO):=by
 simp only [L102x1_2,L102x1_2c,Option.bind_assoc,cond_bind,Option.bind_some,Option.bind_none,elimS_l,elimS_r,elimS_bind]
abbrev sA102x1_2:List Sh:=[(.pt 0 []),.i,.i,(.rw 1),.i,.i]
abbrev sAp1102x1_2:List Sh:=[]
abbrev sT102x1_2:List TSh:=[.blk 156 (.pr (.rw 1) (.pr (.rw 2) (.pr .u8 .un))),.row 55 (.sl .u8),.row 3 .i]
abbrev sTp1102x1_2:List TSh:=[.blk 156 (.pr (.rw 1) (.pr (.rw 2) (.pr .u8 .un))),.row 55 (.sl .u8),.row 3 .i]
def lc102x1_2 (F:Nat):Lc:=mkL [0,1,2,42,43,44] sA102x1_2 sT102x1_2 [] sAp1102x1_2 sTp1102x1_2 F (fun x y (s:Int×(List (List UInt8)))=>L102x1_2 F x.2.1 x.2.2.1 x.2.2.2.2.1 s.1 s.2) (fun x y=>(x.2.2.2.2.2.1,y.2.1)) (fun x y (z:(List (List UInt8)))=>((),(((),(),y.1.2.2.1,()),z,y.2.2.1,())))
theorem le102x1_2 (F:Nat) (x:dens sA102x1_2) (y:tdens sT102x1_2) (s:Int×(List (List UInt8))):sev (E102x1 F) 3 [] (cAt (bodyOf Tryd.f102) (0 :: 0 :: [1,1,1])) (0 :: 0 :: [1,1,1]) (mkSt [0,1,2,42,43,44] sA102x1_2 sT102x1_2 ((),x.2.1,x.2.2.1,(),x.2.2.2.2.1,s.1,()) (((),(),y.1.2.2.1,()),s.2,y.2.2.1,())) (kLoop 3 [0,1,2,42,43,44] sA102x1_2 sT102x1_2 [] sAp1102x1_2 sTp1102x1_2 [] [] [] 0 (fun x y=>some (.inl (x,y))) (fun x y=>some (.inr (.inl (x,y)))) (fun x y=>some (.inr (.inr (x,y))))) =
  L102x1_2c (β:=Full sA102x1_2 sT102x1_2 sAp1102x1_2 sTp1102x1_2 [] []) F x.2.1 x.2.2.1 x.2.2.2.2.1 s.1 s.2 (fun s=>some (.inl (((),x.2.1,x.2.2.1,(),x.2.2.2.2.1,s.1,()),(((),(),y.1.2.2.1,()),s.2,y.2.2.1,())))) (fun z=>some (.inr (.inl ((),(((),(),y.1.2.2.1,()),z,y.2.2.1,()))))):=by kernel_rfl
theorem lo102x1_2 (F:Nat):LcOk Tryd.prog (E102x1 F) 3 (lc102x1_2 F) (cAt (bodyOf Tryd.f102) [1,1,1]):=
 mkL_ok (lp:=[]) (id:=0) (b:=cAt (bodyOf Tryd.f102) (0 :: 0 :: [1,1,1])) cok (cts102x1 F) mixed trivial (by kernel_rfl) (by kernel_rfl) (fun x y s=>((),x.2.1,x.2.2.1,(),x.2.2.2.2.1,s.1,())) (fun x y s=>(((),(),y.1.2.2.1,()),s.2,y.2.2.1,())) (fun x y=>rfl) (fun x y=>rfl) (fun x y s kA kO=>L102x1_2c F x.2.1 x.2.2.1 x.2.2.2.2.1 s.1 s.2 kA kO) (fun x y s kA kO=>L102x1_2n F x.2.1 x.2.2.1 x.2.2.2.2.1 s.1 s.2 kA kO) (le102x1_2 F)
def T102x1c (F:Nat) (p0:Int) (p1:Int) (p3:List (List UInt8)) {β:Type} (k:((List (List UInt8)))->Option β):Option β:=
 (Option.bind (inb p3.length p0) fun x33=>(Option.bind (p3[x33]?) fun x34=>(Option.bind (ix x34 p1) fun x35=>(Option.bind (T88 F x35) fun z36=>(Option.bind (inb p3.length p0) fun x37=>(Option.bind (p3[x37]?) fun x38=>(Option.bind (T96 F x38 z36.1) fun z39=>(Option.bind (inb p3.length p0) fun x40=>(Option.bind (iter (fun s=>L102x1_2 F p0 p1 ((List.set p3 x40 z39).length:Int) s.1 s.2) F ((0:Int),(List.set p3 x40 z39))) fun z64=>(k z64))))))))))
def T102x1 (F:Nat) (p0:Int) (p1:Int) (p3:List (List UInt8)):Option ((List (List UInt8))):=T102x1c F p0 p1 p3 some
theorem T102x1n (F:Nat) (p0:Int) (p1:Int) (p3:List (List UInt8)) {β:Type} (k:((List (List UInt8)))->Option β):T102x1c F p0 p1 p3 k=(T102x1 F p0 p1 p3).bind k:=by
 simp only [T102x1,T102x1c,Option.bind_assoc,cond_bind,Option.bind_some,Option.bind_none,elimS_bind]
abbrev cA102x1:List Sh:=[(.pt 0 []),.i,.i]
abbrev cB102x1:List Sh:=[]
abbrev cT102x1:List TSh:=[.blk 156 (.pr (.rw 1) (.pr (.rw 2) (.pr .u8 .un))),.row 55 (.sl .u8),.row 3 .i]
abbrev cU102x1:List TSh:=[.blk 156 (.pr (.rw 1) (.pr (.rw 2) (.pr .u8 .un))),.row 55 (.sl .u8),.row 3 .i]
def ct102x1 (F:Nat):Ct:=mkC 3 cA102x1 cT102x1 cB102x1 cU102x1 (fun x y=>T102x1 F x.2.1 x.2.2.1 y.2.1) (fun x y (z:(List (List UInt8)))=>((),(((),(),y.1.2.2.1,()),z,y.2.2.1,())))
theorem eq102x1 (F:Nat) (x:dens cA102x1) (y:tdens cT102x1):sev (E102x1 F) 3 [([1,1,1],lc102x1_2 F)] (bodyOf Tryd.f102) [] (mkSt (rng 3) cA102x1 cT102x1 x y) (kFn (E102x1 F) 3 Tryd.f102.results.toList cB102x1 cU102x1 fun p q=>some (p,q)) =
  T102x1c F x.2.1 x.2.2.1 y.2.1 (fun z=>some ((),(((),(),y.1.2.2.1,()),z,y.2.2.1,()))):=by kernel_rfl
theorem ok102x1 (F:Nat):Sound Tryd.prog cfg 102 (ct102x1 F):=
 mkC_ok (E:=E102x1 F) (lp:=[([1,1,1],lc102x1_2 F)]) (code:=bodyOf Tryd.f102) Tryd.func102 rfl Tryd.ntmps102 rfl rfl cok (cts102x1 F) mixed ⟨lo102x1_2 F,trivial⟩ (by kernel_rfl) (fun x y k=>T102x1c F x.2.1 x.2.2.1 y.2.1 k) (fun x y k=>T102x1n F x.2.1 x.2.2.1 y.2.1 k) (eq102x1 F)
def ord98:Nat->List (Tag×Nat)
 | 8=>[(.r,0),(.p,1),(.p,2),(.r,3),(.r,4),(.r,5),(.p,6),(.p,7),(.r,8),(.p,9),(.r,10),(.p,11),(.p,12),(.r,13),(.p,14),(.p,15),(.r,16),(.r,17),(.p,18),(.p,19),(.r,20),(.r,21),(.p,22),(.r,23),(.p,24),(.w,25),(.p,26),(.w,27)]
 | 9=>[(.c,0),(.r,1),(.p,2),(.p,3),(.r,4),(.r,5),(.p,6),(.p,7),(.r,8),(.r,9),(.p,10),(.r,11),(.r,12),(.p,13),(.r,14),(.w,15),(.p,16),(.p,17),(.b,18)]
 | 11=>[(.c,0),(.c,1),(.p,2),(.p,3),(.c,4),(.r,5),(.w,6),(.w,7),(.p,8),(.p,9),(.b,10)]
 | _=>[]
def E98 (F:Nat):Ev:=⟨cfg,81,ctOf [(101,ct101x1 F),(93,ct93 F),(102,ct102 F),(101,ct101x3 F),(102,ct102x1 F)],ord98,ctOf [],fun _=>none,fun _=>none⟩
theorem cts98 (F:Nat):CtsOk Tryd.prog (E98 F):=cts_of (l:=[(101,ct101x1 F),(93,ct93 F),(102,ct102 F),(101,ct101x3 F),(102,ct102x1 F)]) (l':=[]) rfl rfl ⟨⟨ok101x1 F,_,Tryd.func101,rfl,rfl⟩,⟨⟨ok93 F,_,Tryd.func93,rfl,rfl⟩,⟨⟨ok102 F,_,Tryd.func102,rfl,rfl⟩,⟨⟨ok101x3 F,_,Tryd.func101,rfl,rfl⟩,⟨⟨ok102x1 F,_,Tryd.func102,rfl,rfl⟩,trivial⟩⟩⟩⟩⟩ trivial
def L98_8c (F:Nat) (y113:Int) (y116:UInt8) (y117:List Za) (y118:Int) (y119:Int) (y120:List Int) {β:Type} (kO:(UInt8×Zd×Zj)->Option β):Option β:=
 (Option.bind (inb y117.length y113) fun x133=>(Option.bind (y117[x133]?) fun x134=>(Option.bind (inb y117.length y119) fun x135=>(Option.bind (y117[x135]?) fun x136=>(Option.bind (inb y117.length y119) fun x137=>(Option.bind (inb (List.set y117 x137 x134).length y113) fun x138=>(Option.bind (inb (List.set (List.set y117 x137 x134) x138 x136).length y119) fun x139=>(Option.bind ((List.set (List.set y117 x137 x134) x138 x136)[x139]?) fun x140=>(Option.bind (ix x140 y118) fun x141=>(Option.bind (T93 F y116 x141) fun z142=>(Option.bind (T102x1 F y119 y118 (List.set (List.set y117 x137 x134) x138 x136)) fun z143=>(Option.bind (gapp y120 ([y118]:List Int)) fun x144=>(kO (z142,z143,x144))))))))))))))
def L98_8 (F:Nat) (y113:Int) (y116:UInt8) (y117:List Za) (y118:Int) (y119:Int) (y120:List Int):Option (UInt8×Zd×Zj):=L98_8c F y113 y116 y117 y118 y119 y120 (fun z=>some z)
theorem L98_8n (F:Nat) (y113:Int) (y116:UInt8) (y117:List Za) (y118:Int) (y119:Int) (y120:List Int) {β:Type} (kO:(UInt8×Zd×Zj)->Option β):L98_8c F y113 y116 y117 y118 y119 y120 kO=(L98_8 F y113 y116 y117 y118 y119 y120).bind (kO):=by
 simp only [L98_8,L98_8c,oA,oC,oS,oN,elimS_l,elimS_r,elimS_bind]
def lc98_8 (F:Nat):Lc:=mkJ [2,4,5,7,8,9] [(.pt 2 []),(.pt 3 []),(.pt 4 []),.i,.i,.i] [.blk 156 (.pr (.rw 1) (.pr (.rw 5) (.pr .u8 .un))),.row 55 (.sl .u8),.blk 152 (.pt 0 []),.blk 3 .i,.blk 3 .i,.row 3 .i] [2,8,9] [(.pt 2 []),.i,.i] [.blk 156 (.pr (.rw 1) (.pr (.rw 3) (.pr .u8 .un))),.row 55 (.sl .u8),.blk 152 (.pt 0 []),.row 3 .i] (fun x y=>L98_8 F x.2.2.2.1 y.1.2.2.1 y.2.1 y.2.2.2.1 y.2.2.2.2.1 y.2.2.2.2.2.1) (fun x y (z:UInt8×Zd×Zj)=>(((),x.2.2.2.2.1,x.2.2.2.2.2.1,()),(((),(),z.1,()),z.2.1,(),z.2.2,())))
theorem lo98_8 (F:Nat):LcOk Tryd.prog (E98 F) 2 (lc98_8 F) (cAt (bodyOf Tryd.f98) [1,1,1,1,1,0,0,1,1,0,0,1,1,0,1]):=
 mkJ_ok (lp:=[]) cok (cts98 F) mixed trivial (by kernel_rfl) (fun x y kO=>L98_8c F x.2.2.2.1 y.1.2.2.1 y.2.1 y.2.2.2.1 y.2.2.2.2.1 y.2.2.2.2.2.1 kO) (fun x y kO=>L98_8n F x.2.2.2.1 y.1.2.2.1 y.2.1 y.2.2.2.1 y.2.2.2.2.1 y.2.2.2.2.2.1 kO) (fun _ _=>by kernel_rfl)
def L98_7c (F:Nat) (y106:Int) (y107:UInt8) (y108:List Za) (y109:List Int) {β:Type} (kO:(Int×UInt8×Zd×Zj)->Option β):Option β:=
 (Option.bind (T101x3 F (y109.length:Int) y106 y108) fun z112=>(bif (decide (z112 < (0:Int))) then (kO ((w64 (y106 + (1:Int))),y107,y108,y109)) else (Option.bind (L98_8 F z112 y107 y108 y106 (y109.length:Int) y109) fun z145=>(kO ((w64 (y106 + (1:Int))),z145.1,z145.2.1,z145.2.2)))))
def L98_7 (F:Nat) (y106:Int) (y107:UInt8) (y108:List Za) (y109:List Int):Option (Int×UInt8×Zd×Zj):=L98_7c F y106 y107 y108 y109 (fun z=>some z)
theorem L98_7n (F:Nat) (y106:Int) (y107:UInt8) (y108:List Za) (y109:List Int) {β:Type} (kO:(Int×UInt8×Zd×Zj)->Option β):L98_7c F y106 y107 y108 y109 kO=(L98_7 F y106 y107 y108 y109).bind (kO):=by
 simp only [L98_7,L98_7c,oA,oC,oS,oN,elimS_l,elimS_r,elimS_bind]
def lc98_7 (F:Nat):Lc:=mkJ [2,8,9] [(.pt 2 []),.i,.i] [.blk 156 (.pr (.rw 1) (.pr (.rw 3) (.pr .u8 .un))),.row 55 (.sl .u8),.blk 152 (.pt 0 []),.row 3 .i] [2,8,9] [(.pt 2 []),.i,.i] [.blk 156 (.pr (.rw 1) (.pr (.rw 3) (.pr .u8 .un))),.row 55 (.sl .u8),.blk 152 (.pt 0 []),.row 3 .i] (fun x y=>L98_7 F x.2.2.1 y.1.2.2.1 y.2.1 y.2.2.2.1) (fun x y (z:Int×UInt8×Zd×Zj)=>(((),x.2.1,z.1,()),(((),(),z.2.1,()),z.2.2.1,(),z.2.2.2,())))
theorem lo98_7 (F:Nat):LcOk Tryd.prog (E98 F) 2 (lc98_7 F) (cAt (bodyOf Tryd.f98) [1,1,0,0,1,1,0,1]):=
 mkJ_ok (lp:=[([1,1,1,1,1,0,0,1,1,0,0,1,1,0,1],lc98_8 F)]) cok (cts98 F) mixed ⟨lo98_8 F,trivial⟩ (by kernel_rfl) (fun x y kO=>L98_7c F x.2.2.1 y.1.2.2.1 y.2.1 y.2.2.2.1 kO) (fun x y kO=>L98_7n F x.2.2.1 y.1.2.2.1 y.2.1 y.2.2.2.1 kO) (fun _ _=>by kernel_rfl)
def L98_6c (F:Nat) (y99:Int) (y100:Int) (y101:UInt8) (y102:List Za) (y103:List Int) {β:Type} (kA:(Int×UInt8×Zd×Zj)->Option β) (kO:(UInt8×Zd×Zj)->Option β):Option β:=
 (bif (decide (y100 < y99)) then (Option.bind (L98_7 F y100 y101 y102 y103) fun z146=>(kA (z146.1,z146.2.1,z146.2.2.1,z146.2.2.2))) else (kO (y101,y102,y103)))
def L98_6 (F:Nat) (y99:Int) (y100:Int) (y101:UInt8) (y102:List Za) (y103:List Int):=L98_6c F y99 y100 y101 y102 y103 (fun s=>some (Sum.inl s)) (fun z=>some (Sum.inr z))
def lc98_6 (F:Nat):Lc:=mkL [2,8,9] [(.pt 2 []),.i,.i] [.blk 156 (.pr (.rw 1) (.pr (.rw 3) (.pr .u8 .un))),.row 55 (.sl .u8),.blk 152 (.pt 0 []),.row 3 .i] [] [] [.blk 156 (.pr (.rw 1) (.pr (.rw 2) (.pr .u8 .un))),.row 55 (.sl .u8),.row 3 .i] F (fun x y (s:Int×UInt8×Zd×Zj)=>L98_6 F x.2.1 s.1 s.2.1 s.2.2.1 s.2.2.2) (fun x y=>(x.2.2.1,y.1.2.2.1,y.2.1,y.2.2.2.1)) (fun x y (z:UInt8×Zd×Zj)=>((),(((),(),z.1,()),z.2.1,z.2.2,())))
theorem lo98_6 (F:Nat):LcOk Tryd.prog (E98 F) 2 (lc98_6 F) (cAt (bodyOf Tryd.f98) [1,1,0,1]):=
 mkL_ok (lp:=[([1,1,0,0,1,1,0,1],lc98_7 F)]) (id:=0) (b:=cAt (bodyOf Tryd.f98) (0 :: 0 :: [1,1,0,1])) cok (cts98 F) mixed ⟨lo98_7 F,trivial⟩ (by kernel_rfl) (by kernel_rfl) (fun x y s=>((),x.2.1,s.1,())) (fun x y s=>(((),(),s.2.1,()),s.2.2.1,(),s.2.2.2,())) (fun x y=>rfl) (fun x y=>rfl) (fun x y s kA kO=>L98_6c F x.2.1 s.1 s.2.1 s.2.2.1 s.2.2.2 kA kO) (fun _ _ _ _ _=>by simp only [L98_6,L98_6c,oA,oC,oS,oN,elimS_l,elimS_r,elimS_bind]) (fun _ _ _=>by kernel_rfl)
def T98c (F:Nat) (p0:Int) (p1:UInt8) (p2:List Za) {β:Type} (k:(UInt8×Zd×Zj)->Option β):Option β:=
 (Option.bind (iter (fun s=>L98_6 F p0 s.1 s.2.1 s.2.2.1 s.2.2.2) F ((0:Int),p1,p2,([]:List Int))) fun z147=>(k (z147.1,z147.2.1,z147.2.2)))
def T98 (F:Nat) (p0:Int) (p1:UInt8) (p2:List Za):=T98c F p0 p1 p2 some
def ct98 (F:Nat):Ct:=mkC 2 [(.pt 0 []),.i] [.blk 156 (.pr (.rw 1) (.pr .ns (.pr .u8 .un))),.row 55 (.sl .u8)] [] [.blk 156 (.pr (.rw 1) (.pr (.rw 2) (.pr .u8 .un))),.row 55 (.sl .u8),.row 3 .i] (fun x y=>T98 F x.2.1 y.1.2.2.1 y.2.1) (fun x y (z:UInt8×Zd×Zj)=>((),(((),(),z.1,()),z.2.1,z.2.2,())))
theorem ok98 (F:Nat):Sound Tryd.prog cfg 98 (ct98 F):=
 mkC_ok (E:=E98 F) (lp:=[([1,1,0,1],lc98_6 F)]) (code:=bodyOf Tryd.f98) Tryd.func98 rfl Tryd.ntmps98 rfl rfl cok (cts98 F) mixed ⟨lo98_6 F,trivial⟩ (by kernel_rfl) (fun x y k=>T98c F x.2.1 y.1.2.2.1 y.2.1 k) (fun _ _ _=>by simp only [T98,T98c,oA,oC,oS,oN,elimS_bind]) (fun _ _=>by kernel_rfl)
def E94 (F:Nat):Ev:=⟨cfg,45,ctOf [(86,ct86 F),(98,ct98 F)],fun _=>[],ctOf [],fun _=>none,fun _=>none⟩
theorem cts94 (F:Nat):CtsOk Tryd.prog (E94 F):=cts_of (l:=[(86,ct86 F),(98,ct98 F)]) (l':=[]) rfl rfl ⟨⟨ok86 F,_,Tryd.func86,rfl,rfl⟩,⟨⟨ok98 F,_,Tryd.func98,rfl,rfl⟩,trivial⟩⟩ trivial
def L94_2c (F:Nat) (y48:List Za) (y49:List Za) (y50:Int) (y51:Int) (y53:List Za) {β:Type} (kA:(Int×Zd)->Option β) (kO:(Zd)->Option β):Option β:=
 (bif (decide (y51 < y50)) then (Option.bind (ix y49 y51) fun x60=>(Option.bind (gapp ([]:List UInt8) x60) fun x61=>(Option.bind (gne y48) fun x62=>(Option.bind (ix y48 y51) fun x63=>(Option.bind (gapp x61 x63) fun x64=>(Option.bind (gapp y53 ([x64]:List Za)) fun x65=>(kA ((w64 (y51 + (1:Int))),x65)))))))) else (kO y53))
def L94_2 (F:Nat) (y48:List Za) (y49:List Za) (y50:Int) (y51:Int) (y53:List Za):=L94_2c F y48 y49 y50 y51 y53 (fun s=>some (Sum.inl s)) (fun z=>some (Sum.inr z))
def lc94_2 (F:Nat):Lc:=mkL [0,1,5,11,12,13] [(.ro (.sl .u8)),(.ro (.sl .u8)),(.pt 0 []),(.ro (.sl .u8)),.i,.i] [.blk 156 (.pr (.rw 1) (.pr .ns (.pr .u8 .un))),.row 55 (.sl .u8)] [0,5] [(.ro (.sl .u8)),(.pt 0 [])] [.blk 156 (.pr (.rw 1) (.pr .ns (.pr .u8 .un))),.row 55 (.sl .u8)] F (fun x y (s:Int×Zd)=>L94_2 F x.2.1 x.2.2.2.1 x.2.2.2.2.1 s.1 s.2) (fun x y=>(x.2.2.2.2.2.1,y.2.1)) (fun x y (z:Zd)=>((x.1,(),()),(((),(),y.1.2.2.1,()),z,())))
theorem lo94_2 (F:Nat):LcOk Tryd.prog (E94 F) 0 (lc94_2 F) (cAt (bodyOf Tryd.f94) [1,0,1,1]):=
 mkL_ok (lp:=[]) (id:=0) (b:=cAt (bodyOf Tryd.f94) (0 :: 0 :: [1,0,1,1])) cok (cts94 F) mixed trivial (by kernel_rfl) (by kernel_rfl) (fun x y s=>(x.1,x.2.1,(),x.2.2.2.1,x.2.2.2.2.1,s.1,())) (fun x y s=>(((),(),y.1.2.2.1,()),s.2,())) (fun x y=>rfl) (fun x y=>rfl) (fun x y s kA kO=>L94_2c F x.2.1 x.2.2.2.1 x.2.2.2.2.1 s.1 s.2 kA kO) (fun _ _ _ _ _=>by simp only [L94_2,L94_2c,oA,oC,oS,oN,elimS_l,elimS_r,elimS_bind]) (fun _ _ _=>by kernel_rfl)
def T94c (F:Nat) (p0:List Za) (p1:List Za) {β:Type} (k:(UInt8×Zd×Zj)->Option β):Option β:=
 (Option.bind (iter (fun s=>L94_2 F p1 p0 (p0.length:Int) s.1 s.2) F ((0:Int),([]:List Za))) fun z66=>(Option.bind (T86 F p0) fun z67=>(Option.bind (T98 F z67 (UInt8.ofNat 1) z66) fun z68=>(k (z68.1,z68.2.1,z68.2.2)))))
def T94 (F:Nat) (p0:List Za) (p1:List Za):=T94c F p0 p1 some
def ct94 (F:Nat):Ct:=mkC 0 [(.ro (.sl .u8)),(.ro (.sl .u8))] [] [(.pt 0 [])] [.blk 156 (.pr (.rw 1) (.pr (.rw 2) (.pr .u8 .un))),.row 55 (.sl .u8),.row 3 .i] (fun x y=>T94 F x.1 x.2.1) (fun x y (z:UInt8×Zd×Zj)=>(((),()),(((),(),z.1,()),z.2.1,z.2.2,())))
theorem ok94 (F:Nat):Sound Tryd.prog cfg 94 (ct94 F):=
 mkC_ok (E:=E94 F) (lp:=[([1,0,1,1],lc94_2 F)]) (code:=bodyOf Tryd.f94) Tryd.func94 rfl Tryd.ntmps94 rfl rfl cok (cts94 F) mixed ⟨lo94_2 F,trivial⟩ (by kernel_rfl) (fun x y k=>T94c F x.1 x.2.1 k) (fun _ _ _=>by simp only [T94,T94c,oA,oC,oS,oN,elimS_bind]) (fun _ _=>by kernel_rfl)
def E89 (F:Nat):Ev:=⟨cfg,55,ctOf [(85,ct85 F),(86,ct86 F),(95,ct95 F),(94,ct94 F)],fun _=>[],ctOf [],fun _=>none,fun _=>none⟩
theorem cts89 (F:Nat):CtsOk Tryd.prog (E89 F):=cts_of (l:=[(85,ct85 F),(86,ct86 F),(95,ct95 F),(94,ct94 F)]) (l':=[]) rfl rfl ⟨⟨ok85 F,_,Tryd.func85,rfl,rfl⟩,⟨⟨ok86 F,_,Tryd.func86,rfl,rfl⟩,⟨⟨ok95 F,_,Tryd.func95,rfl,rfl⟩,⟨⟨ok94 F,_,Tryd.func94,rfl,rfl⟩,trivial⟩⟩⟩⟩ trivial
def L89_2c (F:Nat) (y27:List Za) (y28:Int) (y31:List Za) (y29:Int) (y30:List Za) {β:Type} (kA:(Int×Zd)->Option β) (kO:(Zd)->Option β):Option β:=
 (bif (decide (y29 < y28)) then (Option.bind (inb y31.length y29) fun x37=>(Option.bind (y31[x37]?) fun x38=>(Option.bind (gsl x38 (y27.length:Int) (x38.length:Int)) fun x39=>(Option.bind (gapp ([]:List UInt8) x39) fun x40=>(Option.bind (inb y30.length y29) fun x41=>(kA ((w64 (y29 + (1:Int))),(List.set y30 x41 x40)))))))) else (kO y30))
def L89_2 (F:Nat) (y27:List Za) (y28:Int) (y31:List Za) (y29:Int) (y30:List Za):=L89_2c F y27 y28 y31 y29 y30 (fun s=>some (Sum.inl s)) (fun z=>some (Sum.inr z))
def lc89_2 (F:Nat):Lc:=mkL [0,5,37,38,39] [(.ro (.sl .u8)),(.rw 0),(.rw 1),.i,.i] [.row 55 (.sl .u8),.row 55 (.sl .u8)] [5] [(.rw 0)] [.row 55 (.sl .u8)] F (fun x y (s:Int×Zd)=>L89_2 F x.1 x.2.2.2.1 y.2.1 s.1 s.2) (fun x y=>(x.2.2.2.2.1,y.1)) (fun x y (z:Zd)=>(((),()),(z,())))
theorem lo89_2 (F:Nat):LcOk Tryd.prog (E89 F) 0 (lc89_2 F) (cAt (bodyOf Tryd.f89) [1,0,1,1,1,1,1]):=
 mkL_ok (lp:=[]) (id:=0) (b:=cAt (bodyOf Tryd.f89) (0 :: 0 :: [1,0,1,1,1,1,1])) cok (cts89 F) mixed trivial (by kernel_rfl) (by kernel_rfl) (fun x y s=>(x.1,(),(),x.2.2.2.1,s.1,())) (fun x y s=>(s.2,y.2.1,())) (fun x y=>rfl) (fun x y=>rfl) (fun x y s kA kO=>L89_2c F x.1 x.2.2.2.1 y.2.1 s.1 s.2 kA kO) (fun _ _ _ _ _=>by simp only [L89_2,L89_2c,oA,oC,oS,oN,elimS_l,elimS_r,elimS_bind]) (fun _ _ _=>by kernel_rfl)
def T89c (F:Nat) (p0:List Za) {β:Type} (k:(Int×Zd)->Option β):Option β:=
 (Option.bind (T85 F p0) fun z22=>(bif (!z22) then (k ((1:Int),([]:List Za))) else (Option.bind (T86 F p0) fun z23=>(bif ((p0.length:Int) != z23) then (k ((1:Int),([]:List Za))) else (Option.bind (T95 F (p0.length:Int)) fun z24=>(Option.bind (T94 F p0 z24) fun z25=>(bif (decide ((z25.2.2.length:Int) < (p0.length:Int))) then (k ((4:Int),([]:List Za))) else (Option.bind (gmake ([]:List UInt8) (p0.length:Int) (p0.length:Int)) fun x26=>(Option.bind (iter (fun s=>L89_2 F p0 (z25.2.1.length:Int) z25.2.1 s.1 s.2) F ((0:Int),x26)) fun z42=>(k ((0:Int),z42)))))))))))
def T89 (F:Nat) (p0:List Za):=T89c F p0 some
def ct89 (F:Nat):Ct:=mkC 0 [(.ro (.sl .u8))] [] [(.rw 0),.i] [.row 55 (.sl .u8)] (fun x y=>T89 F x.1) (fun x y (z:Int×Zd)=>(((),z.1,()),(z.2,())))
theorem ok89 (F:Nat):Sound Tryd.prog cfg 89 (ct89 F):=
 mkC_ok (E:=E89 F) (lp:=[([1,0,1,1,1,1,1],lc89_2 F)]) (code:=bodyOf Tryd.f89) Tryd.func89 rfl Tryd.ntmps89 rfl rfl cok (cts89 F) mixed ⟨lo89_2 F,trivial⟩ (by kernel_rfl) (fun x y k=>T89c F x.1 k) (fun _ _ _=>by simp only [T89,T89c,oA,oC,oS,oN,elimS_bind]) (fun _ _=>by kernel_rfl)
def E76 (F:Nat):Ev:=⟨cfg,20,ctOf [(80,ct80 F),(89,ct89 F)],fun _=>[],ctOf [],fun _=>none,fun _=>none⟩
theorem cts76 (F:Nat):CtsOk Tryd.prog (E76 F):=cts_of (l:=[(80,ct80 F),(89,ct89 F)]) (l':=[]) rfl rfl ⟨⟨ok80 F,_,Tryd.func80,rfl,rfl⟩,⟨⟨ok89 F,_,Tryd.func89,rfl,rfl⟩,trivial⟩⟩ trivial
def T76c (F:Nat) (p0:List Int) (p1:Int) (p2:Vector Zg 16) {β:Type} (k:(Zd)->Option β):Option β:=
 (Option.bind (gsl p0 (0:Int) p1) fun x4=>(Option.bind (T80 F x4 p1 p2) fun z5=>(Option.bind (T89 F z5) fun z6=>(k z6.2))))
def T76 (F:Nat) (p0:List Int) (p1:Int) (p2:Vector Zg 16):=T76c F p0 p1 p2 some
def ct76 (F:Nat):Ct:=mkC 1 [(.pt 0 []),(.ro .i)] [.blk 142 (.pr .i (.pr (.ar 16 (.ar 8 .u8)) .un))] [(.rw 1)] [.blk 142 (.pr .i (.pr (.ar 16 (.ar 8 .u8)) .un)),.row 55 (.sl .u8)] (fun x y=>T76 F x.2.1 y.1.1 y.1.2.1) (fun x y (z:Zd)=>(((),()),((y.1.1,y.1.2.1,()),z,())))
theorem ok76 (F:Nat):Sound Tryd.prog cfg 76 (ct76 F):=
 mkC_ok (E:=E76 F) (lp:=[]) (code:=bodyOf Tryd.f76) Tryd.func76 rfl Tryd.ntmps76 rfl rfl cok (cts76 F) mixed trivial (by kernel_rfl) (fun x y k=>T76c F x.2.1 y.1.1 y.1.2.1 k) (fun _ _ _=>by simp only [T76,T76c,oA,oC,oS,oN,elimS_bind]) (fun _ _=>by kernel_rfl)
def ord58:Nat->List (Tag×Nat)
 | 4=>[(.p,0),(.p,2),(.p,4),(.p,5),(.p,6),(.w,1),(.w,3),(.w,7),(.p,8),(.p,9),(.p,10),(.p,11)]
 | _=>[]
def E58 (F:Nat):Ev:=⟨cfg,29,ctOf [(73,ct73 F),(75,ct75 F),(76,ct76 F),(74,ct74 F)],ord58,ctOf [],fun _=>none,fun _=>none⟩
theorem cts58 (F:Nat):CtsOk Tryd.prog (E58 F):=cts_of (l:=[(73,ct73 F),(75,ct75 F),(76,ct76 F),(74,ct74 F)]) (l':=[]) rfl rfl ⟨⟨ok73 F,_,Tryd.func73,rfl,rfl⟩,⟨⟨ok75 F,_,Tryd.func75,rfl,rfl⟩,⟨⟨ok76 F,_,Tryd.func76,rfl,rfl⟩,⟨⟨ok74 F,_,Tryd.func74,rfl,rfl⟩,trivial⟩⟩⟩⟩ trivial
def T58c (F:Nat) (p0:Int) (p1:Int) (p2:List Int) (p3:List Za) {β:Type} (k:(Zd×Int)->Option β):Option β:=
 (Option.bind (T73 F p0 p1 p2 p3) fun z6=>(bif (z6 != (0:Int)) then (k (([]:List Za),z6)) else (Option.bind (gsl p3 (0:Int) p0) fun x7=>(Option.bind (T75 F p0) fun z8=>(Option.bind (T76 F p2 p0 z8) fun z9=>(Option.bind (T74 F z9 x7) fun z10=>(k (z10.1,z10.2))))))))
def T58 (F:Nat) (p0:Int) (p1:Int) (p2:List Int) (p3:List Za):=T58c F p0 p1 p2 p3 some
def ct58 (F:Nat):Ct:=mkC 0 [.i,.i,(.ro .i),(.ro (.sl .u8))] [] [(.ro (.sl .u8)),.i] [] (fun x y=>T58 F x.1 x.2.1 x.2.2.1 x.2.2.2.1) (fun x y (z:Zd×Int)=>((z.1,z.2,()),()))
theorem ok58 (F:Nat):Sound Tryd.prog cfg 58 (ct58 F):=
 mkC_ok (E:=E58 F) (lp:=[]) (code:=bodyOf Tryd.f58) Tryd.func58 rfl Tryd.ntmps58 rfl rfl cok (cts58 F) mixed trivial (by kernel_rfl) (fun x y k=>T58c F x.1 x.2.1 x.2.2.1 x.2.2.2.1 k) (fun _ _ _=>by simp only [T58,T58c,oA,oC,oS,oN,elimS_bind]) (fun _ _=>by kernel_rfl)
def E60 (F:Nat):Ev:=⟨cfg,5,ctOf [],fun _=>[],ctOf [],fun _=>none,fun _=>none⟩
theorem cts60 (F:Nat):CtsOk Tryd.prog (E60 F):=cts_of (l:=[]) (l':=[]) rfl rfl trivial trivial
def T60c (F:Nat) (p0:UInt8) {β:Type} (k:Bool->Option β):Option β:=
 (k (p0 != (UInt8.ofNat 0)))
def T60 (F:Nat) (p0:UInt8):=T60c F p0 some
def ct60 (F:Nat):Ct:=mkC 0 [.u8] [] [.bo] [] (fun x y=>T60 F x.1) (fun x y (z:Bool)=>((z,()),()))
theorem ok60 (F:Nat):Sound Tryd.prog cfg 60 (ct60 F):=
 mkC_ok (E:=E60 F) (lp:=[]) (code:=bodyOf Tryd.f60) Tryd.func60 rfl Tryd.ntmps60 rfl rfl cok (cts60 F) mixed trivial (by kernel_rfl) (fun x y k=>T60c F x.1 k) (fun _ _ _=>by simp only [T60,T60c,oA,oC,oS,oN,elimS_bind]) (fun _ _=>by kernel_rfl)
def E77 (F:Nat):Ev:=⟨cfg,19,ctOf [(60,ct60 F)],fun _=>[],ctOf [],fun _=>none,fun _=>none⟩
theorem cts77 (F:Nat):CtsOk Tryd.prog (E77 F):=cts_of (l:=[(60,ct60 F)]) (l':=[]) rfl rfl ⟨⟨ok60 F,_,Tryd.func60,rfl,rfl⟩,trivial⟩ trivial
def L77_2c (F:Nat) (y9:List UInt8) (y10:Int) (y11:Int) {β:Type} (kA:Int->Option β) (kO:Unit->Option β) (kR:Int->Option β):Option β:=
 (bif (decide (y11 < y10)) then (Option.bind (ix y9 y11) fun x14=>(Option.bind (T60 F x14) fun z15=>(bif z15 then (kR y11) else (kA (w64 (y11 + (1:Int))))))) else (kO ()))
def L77_2 (F:Nat) (y9:List UInt8) (y10:Int) (y11:Int):Option ((Int) ⊕ ((Unit) ⊕ (Int))):=L77_2c F y9 y10 y11 (fun s=>some (.inl s)) (fun z=>some (.inr (.inl z))) (fun z=>some (.inr (.inr z)))
theorem L77_2n (F:Nat) (y9:List UInt8) (y10:Int) (y11:Int) {β:Type} (kA:Int->Option β) (kO:Unit->Option β) (kR:Int->Option β):L77_2c F y9 y10 y11 kA kO kR=(L77_2 F y9 y10 y11).bind (elimS kA (elimS kO kR)):=by
 simp only [L77_2,L77_2c,oA,oC,oS,oN,elimS_l,elimS_r,elimS_bind]
def lc77_2 (F:Nat):Lc:=mkR [0,1,7,8] [(.ro .u8),(.fn 60 .un .un),.i,.i] [] [] [] [] [4] [.i] [] F (fun x y (s:Int)=>L77_2 F x.1 x.2.2.1 s) (fun x y=>x.2.2.2.1) (fun x y (z:Unit)=>((),())) (fun x y (z:Int)=>((z,()),()))
theorem lo77_2 (F:Nat):LcOk Tryd.prog (E77 F) 0 (lc77_2 F) (cAt (bodyOf Tryd.f77) [1,0,1]):=
 mkR_ok (lp:=[]) (id:=0) (b:=cAt (bodyOf Tryd.f77) (0 :: 0 :: [1,0,1])) cok (cts77 F) mixed trivial (by kernel_rfl) (by kernel_rfl) (fun x y s=>(x.1,((),()),x.2.2.1,s,())) (fun x y s=>()) (fun x y=>rfl) (fun x y=>rfl) (fun x y s kA kO kR=>L77_2c F x.1 x.2.2.1 s kA kO kR) (fun x y s kA kO kR=>L77_2n F x.1 x.2.2.1 s kA kO kR) (fun _ _ _=>by kernel_rfl)
def T77c (F:Nat) (p0:List UInt8) {β:Type} (k:Int->Option β):Option β:=
 (Option.bind (iter (fun s=>L77_2 F p0 (p0.length:Int) s) F (0:Int)) fun z16=>elimS (fun z16=>(k (-1:Int))) (fun z16=>(k z16)) z16)
def T77 (F:Nat) (p0:List UInt8):=T77c F p0 some
def ct77 (F:Nat):Ct:=mkC 0 [(.ro .u8),(.fn 60 .un .un)] [] [.i] [] (fun x y=>T77 F x.1) (fun x y (z:Int)=>((z,()),()))
theorem ok77 (F:Nat):Sound Tryd.prog cfg 77 (ct77 F):=
 mkC_ok (E:=E77 F) (lp:=[([1,0,1],lc77_2 F)]) (code:=bodyOf Tryd.f77) Tryd.func77 rfl Tryd.ntmps77 rfl rfl cok (cts77 F) mixed ⟨lo77_2 F,trivial⟩ (by kernel_rfl) (fun x y k=>T77c F x.1 k) (fun _ _ _=>by simp only [T77,T77c,oA,oC,oS,oN,elimS_bind]) (fun _ _=>by kernel_rfl)
def E59 (F:Nat):Ev:=⟨cfg,9,ctOf [(77,ct77 F)],fun _=>[],ctOf [],fun _=>none,fun _=>none⟩
theorem cts59 (F:Nat):CtsOk Tryd.prog (E59 F):=cts_of (l:=[(77,ct77 F)]) (l':=[]) rfl rfl ⟨⟨ok77 F,_,Tryd.func77,rfl,rfl⟩,trivial⟩ trivial
def T59c (F:Nat) (p0:List UInt8) {β:Type} (k:Bool->Option β):Option β:=
 (Option.bind (T77 F p0) fun z2=>(k (decide ((0:Int)≤z2))))
def T59 (F:Nat) (p0:List UInt8):=T59c F p0 some
def ct59 (F:Nat):Ct:=mkC 0 [(.ro .u8),(.fn 60 .un .un)] [] [.bo] [] (fun x y=>T59 F x.1) (fun x y (z:Bool)=>((z,()),()))
theorem ok59 (F:Nat):Sound Tryd.prog cfg 59 (ct59 F):=
 mkC_ok (E:=E59 F) (lp:=[]) (code:=bodyOf Tryd.f59) Tryd.func59 rfl Tryd.ntmps59 rfl rfl cok (cts59 F) mixed trivial (by kernel_rfl) (fun x y k=>T59c F x.1 k) (fun _ _ _=>by simp only [T59,T59c,oA,oC,oS,oN,elimS_bind]) (fun _ _=>by kernel_rfl)
def E42 (F:Nat):Ev:=⟨cfg,92,ctOf [(25,ct25 F),(56,ct56x1 F),(56,ct56x3 F),(58,ct58 F),(59,ct59 F),(46,ct46 F),(61,ct61 F)],fun _=>[],ctOf [],fun _=>none,fun _=>none⟩
theorem cts42 (F:Nat):CtsOk Tryd.prog (E42 F):=cts_of (l:=[(25,ct25 F),(56,ct56x1 F),(56,ct56x3 F),(58,ct58 F),(59,ct59 F),(46,ct46 F),(61,ct61 F)]) (l':=[]) rfl rfl ⟨⟨ok25 F,_,Tryd.func25,rfl,rfl⟩,⟨⟨ok56x1 F,_,Tryd.func56,rfl,rfl⟩,⟨⟨ok56x3 F,_,Tryd.func56,rfl,rfl⟩,⟨⟨ok58 F,_,Tryd.func58,rfl,rfl⟩,⟨⟨ok59 F,_,Tryd.func59,rfl,rfl⟩,⟨⟨ok46 F,_,Tryd.func46,rfl,rfl⟩,⟨⟨ok61 F,_,Tryd.func61,rfl,rfl⟩,trivial⟩⟩⟩⟩⟩⟩⟩ trivial
def L42_3c (F:Nat) (y61:List Zb) (y62:Int) (y64:List UInt8) (y66:Int) (y67:Int) (y68:Int) (y63:Int) (y70:List Int) (y71:List Za) {β:Type} (kA:(Int×Zj×Zd)->Option β) (kO:(Zj×Zd)->Option β):Option β:=
 (bif (decide (y63 < y62)) then (Option.bind (ix y61 y63) fun x74=>(bif ((y71.length:Int) == y67) then (kO (y70,y71)) else (Option.bind (T56x3 F x74.1.1 x74.1.2.1 x74.2.1 x74.2.2.1 y64 y66 y68 y70 y71) fun z75=>(kA ((w64 (y63 + (1:Int))),z75.1,z75.2))))) else (kO (y70,y71)))
def L42_3 (F:Nat) (y61:List Zb) (y62:Int) (y64:List UInt8) (y66:Int) (y67:Int) (y68:Int) (y63:Int) (y70:List Int) (y71:List Za):=L42_3c F y61 y62 y64 y66 y67 y68 y63 y70 y71 (fun s=>some (Sum.inl s)) (fun z=>some (Sum.inr z))
def lc42_3 (F:Nat):Lc:=mkL [2,7,8,9,22,23,24] [(.pt 0 []),(.pt 1 []),(.pt 2 []),(.fn 56 .un (.pr (.pt 1 []) (.pr (.pt 0 []) (.pr (.pt 2 []) .un)))),(.ro (.pr (.pr .s (.pr .i .un)) (.pr (.sl .u8) (.pr (.sl .s) .un)))),.i,.i] [.blk 49 (.pr .str (.pr .i (.pr .i (.pr .i (.pr .i (.pr (.ro (.pr .s (.pr .i (.pr .i .un)))) .un)))))),.blk 23 (.rw 3),.blk 43 (.rw 4),.row 3 .i,.row 55 (.sl .u8)] [2,7,8] [(.pt 0 []),(.pt 1 []),(.pt 2 [])] [.blk 49 (.pr .str (.pr .i (.pr .i (.pr .i (.pr .i (.pr (.ro (.pr .s (.pr .i (.pr .i .un)))) .un)))))),.blk 23 (.rw 3),.blk 43 (.rw 4),.row 3 .i,.row 55 (.sl .u8)] F (fun x y (s:Int×Zj×Zd)=>L42_3 F x.2.2.2.2.1 x.2.2.2.2.2.1 y.1.1 y.1.2.2.1 y.1.2.2.2.1 y.1.2.2.2.2.1 s.1 s.2.1 s.2.2) (fun x y=>(x.2.2.2.2.2.2.1,y.2.2.2.1,y.2.2.2.2.1)) (fun x y (z:Zj×Zd)=>(((),(),(),()),((y.1.1,y.1.2.1,y.1.2.2.1,y.1.2.2.2.1,y.1.2.2.2.2.1,y.1.2.2.2.2.2.1,()),(),(),z.1,z.2,())))
theorem lo42_3 (F:Nat):LcOk Tryd.prog (E42 F) 0 (lc42_3 F) (cAt (bodyOf Tryd.f42) [1,0,1,1,1,1,1]):=
 mkL_ok (lp:=[]) (id:=0) (b:=cAt (bodyOf Tryd.f42) (0 :: 0 :: [1,0,1,1,1,1,1])) cok (cts42 F) mixed trivial (by kernel_rfl) (by kernel_rfl) (fun x y s=>((),(),(),((),((),(),(),())),x.2.2.2.2.1,x.2.2.2.2.2.1,s.1,())) (fun x y s=>((y.1.1,y.1.2.1,y.1.2.2.1,y.1.2.2.2.1,y.1.2.2.2.2.1,y.1.2.2.2.2.2.1,()),(),(),s.2.1,s.2.2,())) (fun x y=>rfl) (fun x y=>rfl) (fun x y s kA kO=>L42_3c F x.2.2.2.2.1 x.2.2.2.2.2.1 y.1.1 y.1.2.2.1 y.1.2.2.2.1 y.1.2.2.2.2.1 s.1 s.2.1 s.2.2 kA kO) (fun _ _ _ _ _=>by simp only [L42_3,L42_3c,oA,oC,oS,oN,elimS_l,elimS_r,elimS_bind]) (fun _ _ _=>by kernel_rfl)
def L42_4c (F:Nat) (y80:List Za) (y81:Int) (y82:Int) {β:Type} (kA:Int->Option β) (kO:Unit->Option β) (kR:Int->Option β):Option β:=
 (bif (decide (y82 < y81)) then (Option.bind (ix y80 y82) fun x91=>(Option.bind (T59 F x91) fun z92=>(bif z92 then (kR (9:Int)) else (kA (w64 (y82 + (1:Int))))))) else (kO ()))
def L42_4 (F:Nat) (y80:List Za) (y81:Int) (y82:Int):Option ((Int) ⊕ ((Unit) ⊕ (Int))):=L42_4c F y80 y81 y82 (fun s=>some (.inl s)) (fun z=>some (.inr (.inl z))) (fun z=>some (.inr (.inr z)))
theorem L42_4n (F:Nat) (y80:List Za) (y81:Int) (y82:Int) {β:Type} (kA:Int->Option β) (kO:Unit->Option β) (kR:Int->Option β):L42_4c F y80 y81 y82 kA kO kR=(L42_4 F y80 y81 y82).bind (elimS kA (elimS kO kR)):=by
 simp only [L42_4,L42_4c,oA,oC,oS,oN,elimS_l,elimS_r,elimS_bind]
def lc42_4 (F:Nat):Lc:=mkR [2,12,58,59,60] [(.pt 0 []),(.ro (.sl .u8)),(.ro (.sl .u8)),.i,.i] [.blk 49 (.pr .str (.pr .i (.pr .i (.pr .i (.pr .i (.pr (.ro (.pr .s (.pr .i (.pr .i .un)))) .un))))))] [2,12] [(.pt 0 []),(.ro (.sl .u8))] [.blk 49 (.pr .str (.pr .i (.pr .i (.pr .i (.pr .i (.pr (.ro (.pr .s (.pr .i (.pr .i .un)))) .un))))))] [4,5,6] [.ns,.ns,.i] [] F (fun x y (s:Int)=>L42_4 F x.2.2.1 x.2.2.2.1 s) (fun x y=>x.2.2.2.2.1) (fun x y (z:Unit)=>(((),x.2.1,()),((y.1.1,y.1.2.1,y.1.2.2.1,y.1.2.2.2.1,y.1.2.2.2.2.1,y.1.2.2.2.2.2.1,()),()))) (fun x y (z:Int)=>(((),(),z,()),()))
theorem lo42_4 (F:Nat):LcOk Tryd.prog (E42 F) 0 (lc42_4 F) (cAt (bodyOf Tryd.f42) [1,0,1,1,1,1,1,1,1,1,1]):=
 mkR_ok (lp:=[]) (id:=2) (b:=cAt (bodyOf Tryd.f42) (0 :: 0 :: [1,0,1,1,1,1,1,1,1,1,1])) cok (cts42 F) mixed trivial (by kernel_rfl) (by kernel_rfl) (fun x y s=>((),x.2.1,x.2.2.1,x.2.2.2.1,s,())) (fun x y s=>((y.1.1,y.1.2.1,y.1.2.2.1,y.1.2.2.2.1,y.1.2.2.2.2.1,y.1.2.2.2.2.2.1,()),())) (fun x y=>rfl) (fun x y=>rfl) (fun x y s kA kO kR=>L42_4c F x.2.2.1 x.2.2.2.1 s kA kO kR) (fun x y s kA kO kR=>L42_4n F x.2.2.1 x.2.2.2.1 s kA kO kR) (fun _ _ _=>by kernel_rfl)
def T42c (F:Nat) (p0:List UInt8) (p1:Int) (p2:Int) (p3:Int) (p4:Int) (p5:List Zc) (p6:List Zb) {β:Type} (k:(Int×Zd×(List Zb))->Option β):Option β:=
 (Option.bind (T25 F p0 p1 p2 p3 p4 p5) fun z49=>(bif (z49 != (0:Int)) then (k ((1:Int),([]:List Za),([]:List Zb))) else (Option.bind (iter (fun s=>L42_3 F p6 (p6.length:Int) p0 p2 p3 p4 s.1 s.2.1 s.2.2) F ((0:Int),([]:List Int),([]:List Za))) fun z76=>(bif (decide ((z76.2.length:Int) < p3)) then (k ((10:Int),([]:List Za),([]:List Zb))) else (Option.bind (T58 F p3 p4 z76.1 z76.2) fun z77=>(bif (z77.2 != (0:Int)) then (k ((9:Int),([]:List Za),([]:List Zb))) else (Option.bind (gsl z77.1 (p5.length:Int) (z77.1.length:Int)) fun x78=>(Option.bind (iter (fun s=>L42_4 F x78 (x78.length:Int) s) F (0:Int)) fun z93=>elimS (fun z93=>(Option.bind (T46 F p3 p4 z77.1) fun z94=>(bif (z94.2.1 != (0:Int)) then (k ((9:Int),([]:List Za),([]:List Zb))) else (bif (z94.1 != p0) then (k ((9:Int),([]:List Za),([]:List Zb))) else (Option.bind (gsl z77.1 (0:Int) (p5.length:Int)) fun x95=>(Option.bind (T61 F x95) fun z96=>(k ((0:Int),z96,z94.2.2)))))))) (fun z93=>(k (z93,([]:List Za),([]:List Zb)))) z93))))))))
def T42 (F:Nat) (p0:List UInt8) (p1:Int) (p2:Int) (p3:Int) (p4:Int) (p5:List Zc) (p6:List Zb):=T42c F p0 p1 p2 p3 p4 p5 p6 some
def ct42 (F:Nat):Ct:=mkC 0 [(.pr .str (.pr .i (.pr .i (.pr .i (.pr .i (.pr (.ro (.pr .s (.pr .i (.pr .i .un)))) .un)))))),(.ro (.pr (.pr .s (.pr .i .un)) (.pr (.sl .u8) (.pr (.sl .s) .un))))] [] [(.rw 0),(.rw 1),.i] [.row 55 (.sl .u8),.row 58 (.pr (.pr .s (.pr .i .un)) (.pr (.sl .u8) (.pr (.sl .s) .un)))] (fun x y=>T42 F x.1.1 x.1.2.1 x.1.2.2.1 x.1.2.2.2.1 x.1.2.2.2.2.1 x.1.2.2.2.2.2.1 x.2.1) (fun x y (z:Int×Zd×(List Zb))=>(((),(),z.1,()),(z.2.1,z.2.2,())))
theorem ok42 (F:Nat):Sound Tryd.prog cfg 42 (ct42 F):=
 mkC_ok (E:=E42 F) (lp:=[([1,0,1,1,1,1,1],lc42_3 F),([1,0,1,1,1,1,1,1,1,1,1],lc42_4 F)]) (code:=bodyOf Tryd.f42) Tryd.func42 rfl Tryd.ntmps42 rfl rfl cok (cts42 F) mixed ⟨lo42_3 F,⟨lo42_4 F,trivial⟩⟩ (by kernel_rfl) (fun x y k=>T42c F x.1.1 x.1.2.1 x.1.2.2.1 x.1.2.2.2.1 x.1.2.2.2.2.1 x.1.2.2.2.2.2.1 x.2.1 k) (fun _ _ _=>by simp only [T42,T42c,oA,oC,oS,oN,elimS_bind]) (fun _ _=>by kernel_rfl)
def E21 (F:Nat):Ev:=⟨cfg,18,ctOf [(42,ct42 F)],fun _=>[],ctOf [],fun _=>none,fun _=>none⟩
theorem cts21 (F:Nat):CtsOk Tryd.prog (E21 F):=cts_of (l:=[(42,ct42 F)]) (l':=[]) rfl rfl ⟨⟨ok42 F,_,Tryd.func42,rfl,rfl⟩,trivial⟩ trivial
def T21c (F:Nat) (p0:List UInt8) (p1:Int) (p2:Int) (p3:Int) (p4:Int) (p5:List Zc) (p6:List Zb) {β:Type} (k:(Int×Zd)->Option β):Option β:=
 (Option.bind (T42 F p0 p1 p2 p3 p4 p5 p6) fun z2=>(k (z2.1,z2.2.1)))
def T21 (F:Nat) (p0:List UInt8) (p1:Int) (p2:Int) (p3:Int) (p4:Int) (p5:List Zc) (p6:List Zb):=T21c F p0 p1 p2 p3 p4 p5 p6 some
def ct21 (F:Nat):Ct:=mkC 0 [(.pr .str (.pr .i (.pr .i (.pr .i (.pr .i (.pr (.ro (.pr .s (.pr .i (.pr .i .un)))) .un)))))),(.ro (.pr (.pr .s (.pr .i .un)) (.pr (.sl .u8) (.pr (.sl .s) .un))))] [] [(.rw 0),.i] [.row 55 (.sl .u8)] (fun x y=>T21 F x.1.1 x.1.2.1 x.1.2.2.1 x.1.2.2.2.1 x.1.2.2.2.2.1 x.1.2.2.2.2.2.1 x.2.1) (fun x y (z:Int×Zd)=>(((),z.1,()),(z.2,())))
theorem ok21 (F:Nat):Sound Tryd.prog cfg 21 (ct21 F):=
 mkC_ok (E:=E21 F) (lp:=[]) (code:=bodyOf Tryd.f21) Tryd.func21 rfl Tryd.ntmps21 rfl rfl cok (cts21 F) mixed trivial (by kernel_rfl) (fun x y k=>T21c F x.1.1 x.1.2.1 x.1.2.2.1 x.1.2.2.2.1 x.1.2.2.2.2.1 x.1.2.2.2.2.2.1 x.2.1 k) (fun _ _ _=>by simp only [T21,T21c,oA,oC,oS,oN,elimS_bind]) (fun _ _=>by kernel_rfl)
def E10 (F:Nat):Ev:=⟨cfg,65,ctOf [(31,ct31 F),(15,ct15 F)],fun _=>[],ctOf [],fun _=>none,fun _=>none⟩
theorem cts10 (F:Nat):CtsOk Tryd.prog (E10 F):=cts_of (l:=[(31,ct31 F),(15,ct15 F)]) (l':=[]) rfl rfl ⟨⟨ok31 F,_,Tryd.func31,rfl,rfl⟩,⟨⟨ok15 F,_,Tryd.func15,rfl,rfl⟩,trivial⟩⟩ trivial
def L10_3c (F:Nat) (y32:List Int) (y33:Int) (y31:Int) (y34:Int) (y35:List Zh) {β:Type} (kA:(Int×Int×(List Zh))->Option β) (kO:(Int×(List Zh))->Option β) (kR:(Int×Int×Int)->Option β):Option β:=
 (bif (decide (y34 < y33)) then (Option.bind (ix y32 y34) fun x38=>(Option.bind (T15 F x38) fun z39=>(bif (z39.2 != (0:Int)) then (kR ((0:Int),(0:Int),(1:Int))) else (kA ((w64 (y31 + x38)),(w64 (y34 + (1:Int))),(mpt .i y35 z39.1 (w64 ((mgd .i y35 z39.1 (0:Int)) + (1:Int))))))))) else (kO (y31,y35)))
def L10_3 (F:Nat) (y32:List Int) (y33:Int) (y31:Int) (y34:Int) (y35:List Zh):Option ((Int×Int×(List Zh)) ⊕ ((Int×(List Zh)) ⊕ (Int×Int×Int))):=L10_3c F y32 y33 y31 y34 y35 (fun s=>some (.inl s)) (fun z=>some (.inr (.inl z))) (fun z=>some (.inr (.inr z)))
theorem L10_3n (F:Nat) (y32:List Int) (y33:Int) (y31:Int) (y34:Int) (y35:List Zh) {β:Type} (kA:(Int×Int×(List Zh))->Option β) (kO:(Int×(List Zh))->Option β) (kR:(Int×Int×Int)->Option β):L10_3c F y32 y33 y31 y34 y35 kA kO kR=(L10_3 F y32 y33 y31 y34 y35).bind (elimS kA (elimS kO kR)):=by
 simp only [L10_3,L10_3c,oA,oC,oS,oN,elimS_l,elimS_r,elimS_bind]
def lc10_3 (F:Nat):Lc:=mkR [1,2,9,10,23,24,25] [.i,.i,(.mp 0),.i,(.ro .i),.i,.i] [.mp .i .i] [1,2,9,10] [.i,.i,(.mp 0),.i] [.mp .i .i] [6,7,8] [.i,.i,.i] [] F (fun x y (s:Int×Int×(List Zh))=>L10_3 F x.2.2.2.2.1 x.2.2.2.2.2.1 s.1 s.2.1 s.2.2) (fun x y=>(x.2.2.2.1,x.2.2.2.2.2.2.1,y.1)) (fun x y (z:Int×(List Zh))=>((x.1,x.2.1,(),z.1,()),(z.2,()))) (fun x y (z:Int×Int×Int)=>((z.1,z.2.1,z.2.2,()),()))
theorem lo10_3 (F:Nat):LcOk Tryd.prog (E10 F) 0 (lc10_3 F) (cAt (bodyOf Tryd.f10) [1,0,1,1,1,1]):=
 mkR_ok (lp:=[]) (id:=0) (b:=cAt (bodyOf Tryd.f10) (0 :: 0 :: [1,0,1,1,1,1])) cok (cts10 F) mixed trivial (by kernel_rfl) (by kernel_rfl) (fun x y s=>(x.1,x.2.1,(),s.1,x.2.2.2.2.1,x.2.2.2.2.2.1,s.2.1,())) (fun x y s=>(s.2.2,())) (fun x y=>rfl) (fun x y=>rfl) (fun x y s kA kO kR=>L10_3c F x.2.2.2.2.1 x.2.2.2.2.2.1 s.1 s.2.1 s.2.2 kA kO kR) (fun x y s kA kO kR=>L10_3n F x.2.2.2.2.1 x.2.2.2.2.2.1 s.1 s.2.1 s.2.2 kA kO kR) (fun _ _ _=>by kernel_rfl)
def L10_4c (F:Nat) (y41:Int) (y42:Int) (y45:Nat×List Nat) (y46:List Zh) (y44:Int) (q50:Nat) {β:Type} (kA:Int->Option β):Option β:=
 (Option.bind (gsame y45.1 y46.length) fun x51=>(Option.bind (y46[q50]?) fun x52=>(Option.bind (gquo (w64 ((w64 (x52.2 + y41)) - (1:Int))) y41) fun x53=>(kA (w64 (y44 + (w64 ((w64 (x53 * y42)) * x52.1))))))))
def L10_4 (F:Nat) (y41:Int) (y42:Int) (y45:Nat×List Nat) (y46:List Zh) (y44:Int) (q50:Nat):Option (Int):=L10_4c F y41 y42 y45 y46 y44 q50 some
theorem L10_4n (F:Nat) (y41:Int) (y42:Int) (y45:Nat×List Nat) (y46:List Zh) (y44:Int) (q50:Nat) {β:Type} (kA:Int->Option β):L10_4c F y41 y42 y45 y46 y44 q50 kA=(L10_4 F y41 y42 y45 y46 y44 q50).bind kA:=by
 simp only [L10_4,L10_4c,oA,oC,oS,oN]
abbrev sA10_4:List Sh:=[.i,.i,.i,.i,(.it 0 1)]
abbrev sAp110_4:List Sh:=[.i,.i]
abbrev sT10_4:List TSh:=[.it,.mp .i .i]
abbrev sTp110_4:List TSh:=[]
def lc10_4 (F:Nat):Lc:=mkM [1,2,10,15,45] sA10_4 sT10_4 [10,15] sAp110_4 sTp110_4 (fun y=>y.1) (fun y=>y.2.1.length) (fun x y (s:Int) q=>L10_4 F x.1 x.2.1 y.1 y.2.1 s q) (fun x y=>x.2.2.2.1) (fun x y s=>((x.2.2.1,s,()),()))
def LG10_4 (F:Nat) (y41:Int) (y42:Int) (y45:Nat×List Nat) (y46:List Zh) (q50:Nat):Option Int:=
 (Option.bind (gsame y45.1 y46.length) fun x51=>(Option.bind (y46[q50]?) fun x52=>(Option.bind (gquo (w64 ((w64 (x52.2 + y41)) - (1:Int))) y41) fun x53=>(some (w64 ((w64 (x53 * y42)) * x52.1))))))
theorem lm10_4 (F:Nat) (x:dens sA10_4) (y:tdens sT10_4) (s:Int) (p q:Nat):(L10_4 F x.1 x.2.1 y.1 y.2.1 s p).bind (fun s=>L10_4 F x.1 x.2.1 y.1 y.2.1 s q)=(L10_4 F x.1 x.2.1 y.1 y.2.1 s q).bind (fun s=>L10_4 F x.1 x.2.1 y.1 y.2.1 s p):=
 comm_add (f:=fun s q=>L10_4 F x.1 x.2.1 y.1 y.2.1 s q) (fun q=>LG10_4 F x.1 x.2.1 y.1 y.2.1 q) (fun s q=>by simp only [L10_4,L10_4c,LG10_4,Option.bind_assoc,Option.bind_some]) s p q
theorem lf10_4 (F:Nat) (x:dens sA10_4) (y:tdens sT10_4) (s:Int) (seen:List Nat):sev (E10 F) 0 [] (cAt (bodyOf Tryd.f10) (1 :: 0 :: 0 :: [1,0,1,1,1,1,1,1])) (1 :: 0 :: 0 :: [1,0,1,1,1,1,1,1]) ⟨(47,.o (.b false)) :: zipS [1,2,10,15,45] (encs sA10_4 (x.1,x.2.1,x.2.2.1,s,(),())),encTs sT10_4 (((y.1).1,seen),y.2.1,()),[]⟩ (kLoop (β:=Full sA10_4 sT10_4 sAp110_4 sTp110_4 [] []) 0 [1,2,10,15,45] sA10_4 sT10_4 [10,15] sAp110_4 sTp110_4 [] [] [] 2 (fun x y=>some (.inl (x,y))) (fun x y=>some (.inr (.inl (x,y)))) (fun x y=>some (.inr (.inr (x,y))))) =
  some (.inr (.inl ((x.2.2.1,s,()),()))):=by kernel_rfl
theorem lo10_4 (F:Nat):LcOk Tryd.prog (E10 F) 0 (lc10_4 F) (cAt (bodyOf Tryd.f10) [1,0,1,1,1,1,1,1]):=
 mr_ok (lp:=[]) (ti:=45) (d1:=46) (d2:=47) cok (cts10 F) mixed trivial (by kernel_rfl) rfl rfl rfl rfl rfl rfl rfl rfl rfl 0 1 (fun x y s=>(x.1,x.2.1,x.2.2.1,s,(),())) (fun x y s L=>(L,y.2.1,())) (fun x y=>rfl) (fun x y=>rfl) (fun x y s=>rfl) (fun x y s=>rfl) (fun x y s L=>rfl) (fun x y s L=>⟨_,_,_,rfl,rfl⟩) (fun x y s n q seen=>rfl) (lm10_4 F) (fun x y s q k=>L10_4c F x.1 x.2.1 y.1 y.2.1 s q k) (fun x y s q k=>L10_4n F x.1 x.2.1 y.1 y.2.1 s q k) (fun _ _ _ _ _=>by kernel_rfl) (lf10_4 F)
def T10c (F:Nat) (p0:List Int) (p1:Int) (p2:Int) {β:Type} (k:(Int×Int×Int)->Option β):Option β:=
 (Option.bind (T31 F p1 p2) fun z28=>(bif (!z28) then (k ((0:Int),(0:Int),(1:Int))) else (Option.bind (iter (fun s=>L10_3 F p0 (p0.length:Int) s.1 s.2.1 s.2.2) F ((0:Int),(0:Int),([]:List Zh))) fun z40=>elimS (fun z40=>(bif Nat.beq z40.2.length z40.2.length && isNil ([]:List Nat) then (Option.bind (mfold (fun s q=>L10_4 F p1 p2 (z40.2.length,([]:List Nat)) z40.2 s q) (List.range z40.2.length) (0:Int)) fun z54=>(k (z54,z40.1,(0:Int)))) else none)) (fun z40=>(k (z40.1,z40.2.1,z40.2.2))) z40)))
def T10 (F:Nat) (p0:List Int) (p1:Int) (p2:Int):=T10c F p0 p1 p2 some
def ct10 (F:Nat):Ct:=mkC 0 [(.ro .i),.i,.i] [] [.i,.i,.i] [] (fun x y=>T10 F x.1 x.2.1 x.2.2.1) (fun x y (z:Int×Int×Int)=>((z.1,z.2.1,z.2.2,()),()))
theorem ok10 (F:Nat):Sound Tryd.prog cfg 10 (ct10 F):=
 mkC_ok (E:=E10 F) (lp:=[([1,0,1,1,1,1],lc10_3 F),([1,0,1,1,1,1,1,1],lc10_4 F)]) (code:=bodyOf Tryd.f10) Tryd.func10 rfl Tryd.ntmps10 rfl rfl cok (cts10 F) mixed ⟨lo10_3 F,⟨lo10_4 F,trivial⟩⟩ (by kernel_rfl) (fun x y k=>T10c F x.1 x.2.1 x.2.2.1 k) (fun _ _ _=>by simp only [T10,T10c,oA,oC,oS,oN,elimS_bind]) (fun _ _=>by kernel_rfl)
def ord8:Nat->List (Tag×Nat)
 | 3=>[]
 | 8=>[(.c,0),(.p,1),(.p,2),(.r,3),(.p,4),(.p,5),(.r,6),(.w,7),(.b,8),(.p,9),(.p,10),(.p,11),(.p,12),(.p,13)]
 | 9=>[(.r,0),(.p,1),(.p,2),(.w,3),(.p,4),(.p,5),(.p,6),(.p,7),(.p,8)]
 | 11=>[(.p,0),(.p,1),(.p,2),(.p,3),(.p,4),(.p,5),(.p,6),(.p,7),(.p,8),(.p,9),(.r,10),(.r,11),(.p,12),(.r,13),(.p,14),(.p,15),(.p,16),(.p,17),(.p,18),(.p,19),(.r,20),(.r,21),(.p,22),(.r,23),(.p,24),(.p,25),(.p,26),(.p,27),(.p,28),(.p,29),(.p,30),(.p,31),(.p,32),(.p,33),(.p,34),(.p,35),(.p,36),(.p,37),(.p,38),(.p,39),(.p,40),(.p,41),(.p,42),(.p,43),(.p,44),(.r,45),(.w,46),(.p,47),(.p,48),(.r,49),(.w,50),(.p,51),(.p,52),(.p,53)]
 | _=>[]
def ms8:Nat->Option (List (Option Tag×Nat×List Nat))
 | 3=>some [(none,0,[1]),(some .p,2,[]),(none,1,[]),(some .p,3,[])]
 | _=>none
def E8 (F:Nat):Ev:=⟨cfg,135,ctOf [(28,ct28 F),(9,ct9 F),(29,ct29 F),(21,ct21 F),(10,ct10 F),(19,ct19 F),(25,ct25 F)],ord8,ctOf [],fun _=>none,ms8⟩
theorem cts8 (F:Nat):CtsOk Tryd.prog (E8 F):=cts_of (l:=[(28,ct28 F),(9,ct9 F),(29,ct29 F),(21,ct21 F),(10,ct10 F),(19,ct19 F),(25,ct25 F)]) (l':=[]) rfl rfl ⟨⟨ok28 F,_,Tryd.func28,rfl,rfl⟩,⟨⟨ok9 F,_,Tryd.func9,rfl,rfl⟩,⟨⟨ok29 F,_,Tryd.func29,rfl,rfl⟩,⟨⟨ok21 F,_,Tryd.func21,rfl,rfl⟩,⟨⟨ok10 F,_,Tryd.func10,rfl,rfl⟩,⟨⟨ok19 F,_,Tryd.func19,rfl,rfl⟩,⟨⟨ok25 F,_,Tryd.func25,rfl,rfl⟩,trivial⟩⟩⟩⟩⟩⟩⟩ trivial
def T8c (F:Nat) {β:Type} (k:Bool->Option β):Option β:=
 (Option.bind (T28 F (UInt8.ofNat 97)) fun z23=>(Option.bind (T28 F (UInt8.ofNat 98)) fun z24=>(Option.bind (T28 F (UInt8.ofNat 99)) fun z25=>(Option.bind (T9 F ([(z23.1,z23.2,(10:Int),()),(z24.1,z24.2,(20:Int),()),(z25.1,z25.2,(30:Int),())]:List Zc) (2:Int)) fun z26=>(Option.bind (inb (List.replicate 64 (0:UInt8)).length (0:Int)) fun x27=>(Option.bind (inb (List.replicate 64 (0:UInt8)).length (63:Int)) fun x28=>(Option.bind (gsl ([(z23.1,z23.2,(10:Int),()),(z24.1,z24.2,(20:Int),()),(z25.1,z25.2,(30:Int),())]:List Zc) (0:Int) (2:Int)) fun x29=>(Option.bind (T29 F (0:Int) (2:Int) (3:Int) x29 ([(List.set (List.replicate 64 (0:UInt8)) x27 (UInt8.ofNat 1)),(List.set (List.replicate 64 (0:UInt8)) x28 (UInt8.ofNat 2))]:List Za)) fun z30=>(bif (z26.2 != (0:Int)) then (k false) else (bif (z30.2.2.2.2.2.2.1 != (0:Int)) then (k false) else (bif ((z26.1.length:Int) != (2:Int)) then (k false) else (bif ((z30.2.2.2.2.2.2.2.length:Int) != (3:Int)) then (k false) else (Option.bind (inb z30.2.2.2.2.2.2.2.length (0:Int)) fun x31=>(Option.bind (z30.2.2.2.2.2.2.2[x31]?) fun x32=>(Option.bind (inb z30.2.2.2.2.2.2.2.length (2:Int)) fun x33=>(Option.bind (z30.2.2.2.2.2.2.2[x33]?) fun x34=>(Option.bind (T21 F z30.1 z30.2.1 z30.2.2.1 z30.2.2.2.1 z30.2.2.2.2.1 z30.2.2.2.2.2.1 ([((x32.1.1,x32.1.2.1,()),x32.2.1,x32.2.2.1,()),((x34.1.1,x34.1.2.1,()),x34.2.1,x34.2.2.1,())]:List Zb)) fun z35=>(Option.bind (gslb z30.2.2.2.2.2.2.2.length (0:Int) (1:Int)) fun x36=>(Option.bind (T21 F z30.1 z30.2.1 z30.2.2.1 z30.2.2.2.1 z30.2.2.2.2.1 z30.2.2.2.2.2.1 ((z30.2.2.2.2.2.2.2.drop x36.1).take (x36.2 - x36.1))) fun z37=>(Option.bind (T10 F ([(10:Int),(20:Int),(30:Int)]:List Int) (2:Int) (3:Int)) fun z38=>(bif (z35.1 == (0:Int)) then (bif ((z35.2.length:Int) == (2:Int)) then (Option.bind (inb z35.2.length (1:Int)) fun x39=>(Option.bind (z35.2[x39]?) fun x40=>(bif (x40 == (List.set (List.replicate 64 (0:UInt8)) x28 (UInt8.ofNat 2))) then (Option.bind (ix z30.2.2.2.2.2.2.2 (0:Int)) fun x41=>(bif (x41.2.1 == (List.set (List.replicate 64 (0:UInt8)) x27 (UInt8.ofNat 1))) then (bif (z37.1 == (10:Int)) then (bif (z38.1 == (384:Int)) then (bif (z38.2.1 == (60:Int)) then (bif (z38.2.2 == (0:Int)) then (Option.bind (ix z30.2.2.2.2.2.2.2 (2:Int)) fun x42=>(Option.bind (T19 F x42.1.1 x42.1.2.1 x42.2.1 x42.2.2.1) fun z43=>(bif z43 then (Option.bind (T25 F z30.1 z30.2.1 z30.2.2.1 z30.2.2.2.1 z30.2.2.2.2.1 z30.2.2.2.2.2.1) fun z44=>(k (z44 == (0:Int)))) else (k false)))) else (k false)) else (k false)) else (k false)) else (k false)) else (k false))) else (k false)))) else (k false)) else (k false))))))))))))))))))))))
def T8 (F:Nat):=T8c F some
def ct8 (F:Nat):Ct:=mkC 0 [] [] [.bo] [] (fun x y=>T8 F) (fun x y (z:Bool)=>((z,()),()))
theorem ok8 (F:Nat):Sound Tryd.prog cfg 8 (ct8 F):=
 mkC_ok (E:=E8 F) (lp:=[]) (code:=bodyOf Tryd.f8) Tryd.func8 rfl Tryd.ntmps8 rfl rfl cok (cts8 F) mixed trivial (by kernel_rfl) (fun x y k=>T8c F k) (fun _ _ _=>by simp only [T8,T8c,oA,oC,oS,oN,elimS_bind]) (fun _ _=>by kernel_rfl)
def E36 (F:Nat):Ev:=⟨cfg,18,ctOf [],fun _=>[],ctOf [],fun _=>none,fun _=>none⟩
theorem cts36 (F:Nat):CtsOk Tryd.prog (E36 F):=cts_of (l:=[]) (l':=[]) rfl rfl trivial trivial
def L36_2c (F:Nat) (y9:List Za) (y10:Int) (y11:Int) {β:Type} (kA:Int->Option β) (kO:Unit->Option β) (kR:Bool->Option β):Option β:=
 (bif (decide (y11 < y10)) then (Option.bind (ix y9 y11) fun x13=>(bif (decide ((400:Int) < (x13.length:Int))) then (kR true) else (kA (w64 (y11 + (1:Int)))))) else (kO ()))
def L36_2 (F:Nat) (y9:List Za) (y10:Int) (y11:Int):Option ((Int) ⊕ ((Unit) ⊕ (Bool))):=L36_2c F y9 y10 y11 (fun s=>some (.inl s)) (fun z=>some (.inr (.inl z))) (fun z=>some (.inr (.inr z)))
theorem L36_2n (F:Nat) (y9:List Za) (y10:Int) (y11:Int) {β:Type} (kA:Int->Option β) (kO:Unit->Option β) (kR:Bool->Option β):L36_2c F y9 y10 y11 kA kO kR=(L36_2 F y9 y10 y11).bind (elimS kA (elimS kO kR)):=by
 simp only [L36_2,L36_2c,oA,oC,oS,oN,elimS_l,elimS_r,elimS_bind]
def lc36_2 (F:Nat):Lc:=mkR [0,5,6,7] [(.ro (.sl .u8)),(.ro (.sl .u8)),.i,.i] [] [0] [(.ro (.sl .u8))] [] [2] [.bo] [] F (fun x y (s:Int)=>L36_2 F x.2.1 x.2.2.1 s) (fun x y=>x.2.2.2.1) (fun x y (z:Unit)=>((x.1,()),())) (fun x y (z:Bool)=>((z,()),()))
theorem lo36_2 (F:Nat):LcOk Tryd.prog (E36 F) 0 (lc36_2 F) (cAt (bodyOf Tryd.f36) [1,0,1]):=
 mkR_ok (lp:=[]) (id:=0) (b:=cAt (bodyOf Tryd.f36) (0 :: 0 :: [1,0,1])) cok (cts36 F) mixed trivial (by kernel_rfl) (by kernel_rfl) (fun x y s=>(x.1,x.2.1,x.2.2.1,s,())) (fun x y s=>()) (fun x y=>rfl) (fun x y=>rfl) (fun x y s kA kO kR=>L36_2c F x.2.1 x.2.2.1 s kA kO kR) (fun x y s kA kO kR=>L36_2n F x.2.1 x.2.2.1 s kA kO kR) (fun _ _ _=>by kernel_rfl)
def T36wc (F:Nat) (p0:List Za) {β:Type} (k:Bool->Option β):Option β:=
 (Option.bind (iter (fun s=>L36_2 F p0 (p0.length:Int) s) F (0:Int)) fun z14=>elimS (fun z14=>(k (decide ((20:Int) < (p0.length:Int))))) (fun z14=>(k z14)) z14)
def T36w (F:Nat) (p0:List Za):=T36wc F p0 some
abbrev cA36:List Sh:=[(.ro (.sl .u8))]
abbrev cB36:List Sh:=[.bo]
abbrev cT36:List TSh:=[]
abbrev cU36:List TSh:=[]
def ct36w (F:Nat):Ct:=mkC 0 cA36 cT36 cB36 cU36 (fun x y=>T36w F x.1) (fun x y (z:Bool)=>((z,()),()))
theorem ok36w (F:Nat):Sound Tryd.prog cfg 36 (ct36w F):=
 mkC_ok (E:=E36 F) (lp:=[([1,0,1],lc36_2 F)]) (code:=bodyOf Tryd.f36) Tryd.func36 rfl Tryd.ntmps36 rfl rfl cok (cts36 F) mixed ⟨lo36_2 F,trivial⟩ (by kernel_rfl) (fun x y k=>T36wc F x.1 k) (fun _ _ _=>by simp only [T36w,T36wc,oA,oC,oS,oN,elimS_bind]) (fun _ _=>by kernel_rfl)
def T36 (F:Nat) (p0:List Za):Option (Bool):=T36w (F + p0.length) p0
def ct36 (F:Nat):Ct:=mkC 0 cA36 cT36 cB36 cU36 (fun x y=>T36 F x.1) (fun x y (z:Bool)=>((z,()),()))
theorem ok36 (F:Nat):Sound Tryd.prog cfg 36 (ct36 F):=sound_fuel (m:=0) (A:=cA36) (T:=cT36) (B:=cB36) (U:=cU36) (e:=(fun x y (z:Bool)=>((z,()),()))) (fun (x:dens cA36) (y:tdens cT36)=>F + (x.1).length) (fun F (x:dens cA36) (y:tdens cT36)=>T36w F x.1) ok36w
def E16 (F:Nat):Ev:=⟨cfg,37,ctOf [(36,ct36 F),(29,ct29 F)],fun _=>[],ctOf [],fun _=>none,fun _=>none⟩
theorem cts16 (F:Nat):CtsOk Tryd.prog (E16 F):=cts_of (l:=[(36,ct36 F),(29,ct29 F)]) (l':=[]) rfl rfl ⟨⟨ok36 F,_,Tryd.func36,rfl,rfl⟩,⟨⟨ok29 F,_,Tryd.func29,rfl,rfl⟩,trivial⟩⟩ trivial
def T16c (F:Nat) (p0:Int) (p1:Int) (p2:Int) (p3:List Zc) (p4:List Za) {β:Type} (k:(Za×Int×Int×Int×Int×Zi×Bool×(List Zb))->Option β):Option β:=
 (Option.bind (T36 F p4) fun z3=>(bif z3 then (k (([]:List UInt8),(0:Int),(0:Int),(0:Int),(0:Int),([]:List Zc),false,([]:List Zb))) else (bif (decide ((20:Int) < (p3.length:Int))) then (k (([]:List UInt8),(0:Int),(0:Int),(0:Int),(0:Int),([]:List Zc),false,([]:List Zb))) else (Option.bind (T29 F p0 p1 p2 p3 p4) fun z4=>(k (z4.1,z4.2.1,z4.2.2.1,z4.2.2.2.1,z4.2.2.2.2.1,z4.2.2.2.2.2.1,(z4.2.2.2.2.2.2.1 == (0:Int)),z4.2.2.2.2.2.2.2))))))
def T16 (F:Nat) (p0:Int) (p1:Int) (p2:Int) (p3:List Zc) (p4:List Za):=T16c F p0 p1 p2 p3 p4 some
def ct16 (F:Nat):Ct:=mkC 0 [(.pr .i (.pr .i (.pr .i (.pr (.ro (.pr .s (.pr .i (.pr .i .un)))) (.pr (.ro (.sl .u8)) .un)))))] [] [(.pr .str (.pr .i (.pr .i (.pr .i (.pr .i (.pr (.ro (.pr .s (.pr .i (.pr .i .un)))) .un)))))),(.rw 0),.bo] [.row 58 (.pr (.pr .s (.pr .i .un)) (.pr (.sl .u8) (.pr (.sl .s) .un)))] (fun x y=>T16 F x.1.1 x.1.2.1 x.1.2.2.1 x.1.2.2.2.1 x.1.2.2.2.2.1) (fun x y (z:Za×Int×Int×Int×Int×Zi×Bool×(List Zb))=>(((z.1,z.2.1,z.2.2.1,z.2.2.2.1,z.2.2.2.2.1,z.2.2.2.2.2.1,()),(),z.2.2.2.2.2.2.1,()),(z.2.2.2.2.2.2.2,())))
theorem ok16 (F:Nat):Sound Tryd.prog cfg 16 (ct16 F):=
 mkC_ok (E:=E16 F) (lp:=[]) (code:=bodyOf Tryd.f16) Tryd.func16 rfl Tryd.ntmps16 rfl rfl cok (cts16 F) mixed trivial (by kernel_rfl) (fun x y k=>T16c F x.1.1 x.1.2.1 x.1.2.2.1 x.1.2.2.2.1 x.1.2.2.2.2.1 k) (fun _ _ _=>by simp only [T16,T16c,oA,oC,oS,oN,elimS_bind]) (fun _ _=>by kernel_rfl)
def E20 (F:Nat):Ev:=⟨cfg,37,ctOf [],fun _=>[],ctOf [],fun _=>none,fun _=>none⟩
theorem cts20 (F:Nat):CtsOk Tryd.prog (E20 F):=cts_of (l:=[]) (l':=[]) rfl rfl trivial trivial
def L20_2c (F:Nat) (y39:List Zb) (y40:UInt32) (y41:Int) (y42:Int) (y43:List Zb) {β:Type} (kA:(Int×(List Zb))->Option β) (kO:((List Zb))->Option β):Option β:=
 (bif (decide (y42 < y41)) then (bif ((y40 % (UInt32.ofNat 2)) == (UInt32.ofNat 1)) then (Option.bind (gnn (w64 ((1:Int) + (w64 ((w64 ((y39.length:Int) - (1:Int))) - y42))))) fun x50=>(bif (((shr32 y40 x50) &&& (UInt32.ofNat 1)) == (UInt32.ofNat 1)) then (Option.bind (ix y39 (w64 ((w64 ((y39.length:Int) - (1:Int))) - y42))) fun x51=>(Option.bind (gapp y43 ([((x51.1.1,x51.1.2.1,()),x51.2.1,x51.2.2.1,())]:List Zb)) fun x52=>(kA ((w64 (y42 + (1:Int))),x52)))) else (kA ((w64 (y42 + (1:Int))),y43)))) else (Option.bind (gnn (w64 ((1:Int) + y42))) fun x53=>(bif (((shr32 y40 x53) &&& (UInt32.ofNat 1)) == (UInt32.ofNat 1)) then (Option.bind (ix y39 y42) fun x54=>(Option.bind (gapp y43 ([((x54.1.1,x54.1.2.1,()),x54.2.1,x54.2.2.1,())]:List Zb)) fun x55=>(kA ((w64 (y42 + (1:Int))),x55)))) else (kA ((w64 (y42 + (1:Int))),y43))))) else (kO y43))
def L20_2 (F:Nat) (y39:List Zb) (y40:UInt32) (y41:Int) (y42:Int) (y43:List Zb):=L20_2c F y39 y40 y41 y42 y43 (fun s=>some (Sum.inl s)) (fun z=>some (Sum.inr z))
def lc20_2 (F:Nat):Lc:=mkL [0,1,5,9,10] [(.ro (.pr (.pr .s (.pr .i .un)) (.pr (.sl .u8) (.pr (.sl .s) .un)))),.u32,(.rw 0),.i,.i] [.row 58 (.pr (.pr .s (.pr .i .un)) (.pr (.sl .u8) (.pr (.sl .s) .un)))] [5] [(.rw 0)] [.row 58 (.pr (.pr .s (.pr .i .un)) (.pr (.sl .u8) (.pr (.sl .s) .un)))] F (fun x y (s:Int×(List Zb))=>L20_2 F x.1 x.2.1 x.2.2.2.1 s.1 s.2) (fun x y=>(x.2.2.2.2.1,y.1)) (fun x y (z:(List Zb))=>(((),()),(z,())))
theorem lo20_2 (F:Nat):LcOk Tryd.prog (E20 F) 0 (lc20_2 F) (cAt (bodyOf Tryd.f20) [1,0,1,1]):=
 mkL_ok (lp:=[]) (id:=0) (b:=cAt (bodyOf Tryd.f20) (0 :: 0 :: [1,0,1,1])) cok (cts20 F) mixed trivial (by kernel_rfl) (by kernel_rfl) (fun x y s=>(x.1,x.2.1,(),x.2.2.2.1,s.1,())) (fun x y s=>(s.2,())) (fun x y=>rfl) (fun x y=>rfl) (fun x y s kA kO=>L20_2c F x.1 x.2.1 x.2.2.2.1 s.1 s.2 kA kO) (fun _ _ _ _ _=>by simp only [L20_2,L20_2c,oA,oC,oS,oN,elimS_l,elimS_r,elimS_bind]) (fun _ _ _=>by kernel_rfl)
def T20c (F:Nat) (p0:List Zb) (p1:UInt32) {β:Type} (k:((List Zb))->Option β):Option β:=
 (Option.bind (iter (fun s=>L20_2 F p0 p1 (p0.length:Int) s.1 s.2) F ((0:Int),([]:List Zb))) fun z56=>(k z56))
def T20 (F:Nat) (p0:List Zb) (p1:UInt32):=T20c F p0 p1 some
def ct20 (F:Nat):Ct:=mkC 0 [(.ro (.pr (.pr .s (.pr .i .un)) (.pr (.sl .u8) (.pr (.sl .s) .un)))),.u32] [] [(.rw 0)] [.row 58 (.pr (.pr .s (.pr .i .un)) (.pr (.sl .u8) (.pr (.sl .s) .un)))] (fun x y=>T20 F x.1 x.2.1) (fun x y (z:(List Zb))=>(((),()),(z,())))
theorem ok20 (F:Nat):Sound Tryd.prog cfg 20 (ct20 F):=
 mkC_ok (E:=E20 F) (lp:=[([1,0,1,1],lc20_2 F)]) (code:=bodyOf Tryd.f20) Tryd.func20 rfl Tryd.ntmps20 rfl rfl cok (cts20 F) mixed ⟨lo20_2 F,trivial⟩ (by kernel_rfl) (fun x y k=>T20c F x.1 x.2.1 k) (fun _ _ _=>by simp only [T20,T20c,oA,oC,oS,oN,elimS_bind]) (fun _ _=>by kernel_rfl)
def ord22:Nat->List (Tag×Nat)
 | 6=>[(.p,0),(.p,1),(.p,2),(.r,3),(.r,4),(.p,5),(.p,6),(.p,7),(.r,8),(.r,9),(.p,10)]
 | _=>[]
def E22 (F:Nat):Ev:=⟨cfg,28,ctOf [],ord22,ctOf [],fun _=>none,fun _=>none⟩
theorem cts22 (F:Nat):CtsOk Tryd.prog (E22 F):=cts_of (l:=[]) (l':=[]) rfl rfl trivial trivial
def L22_2c (F:Nat) (y10:List Za) (y11:List Za) (y12:Int) (y13:Int) {β:Type} (kA:Int->Option β) (kO:Unit->Option β) (kR:Bool->Option β):Option β:=
 (bif (decide (y13 < y12)) then (Option.bind (ix y10 y13) fun x16=>(Option.bind (ix y11 y13) fun x17=>(bif (x16 != x17) then (kR false) else (kA (w64 (y13 + (1:Int))))))) else (kO ()))
def L22_2 (F:Nat) (y10:List Za) (y11:List Za) (y12:Int) (y13:Int):Option ((Int) ⊕ ((Unit) ⊕ (Bool))):=L22_2c F y10 y11 y12 y13 (fun s=>some (.inl s)) (fun z=>some (.inr (.inl z))) (fun z=>some (.inr (.inr z)))
theorem L22_2n (F:Nat) (y10:List Za) (y11:List Za) (y12:Int) (y13:Int) {β:Type} (kA:Int->Option β) (kO:Unit->Option β) (kR:Bool->Option β):L22_2c F y10 y11 y12 y13 kA kO kR=(L22_2 F y10 y11 y12 y13).bind (elimS kA (elimS kO kR)):=by
 simp only [L22_2,L22_2c,oA,oC,oS,oN,elimS_l,elimS_r,elimS_bind]
def lc22_2 (F:Nat):Lc:=mkR [0,1,12,13] [(.ro (.sl .u8)),(.ro (.sl .u8)),.i,.i] [] [] [] [] [4] [.bo] [] F (fun x y (s:Int)=>L22_2 F x.1 x.2.1 x.2.2.1 s) (fun x y=>x.2.2.2.1) (fun x y (z:Unit)=>((),())) (fun x y (z:Bool)=>((z,()),()))
theorem lo22_2 (F:Nat):LcOk Tryd.prog (E22 F) 0 (lc22_2 F) (cAt (bodyOf Tryd.f22) [1,0,1,1]):=
 mkR_ok (lp:=[]) (id:=0) (b:=cAt (bodyOf Tryd.f22) (0 :: 0 :: [1,0,1,1])) cok (cts22 F) mixed trivial (by kernel_rfl) (by kernel_rfl) (fun x y s=>(x.1,x.2.1,x.2.2.1,s,())) (fun x y s=>()) (fun x y=>rfl) (fun x y=>rfl) (fun x y s kA kO kR=>L22_2c F x.1 x.2.1 x.2.2.1 s kA kO kR) (fun x y s kA kO kR=>L22_2n F x.1 x.2.1 x.2.2.1 s kA kO kR) (fun _ _ _=>by kernel_rfl)
def T22c (F:Nat) (p0:List Za) (p1:List Za) {β:Type} (k:Bool->Option β):Option β:=
 (bif ((p0.length:Int) != (p1.length:Int)) then (k false) else (Option.bind (iter (fun s=>L22_2 F p0 p1 (p0.length:Int) s) F (0:Int)) fun z18=>elimS (fun z18=>(k true)) (fun z18=>(k z18)) z18))
def T22 (F:Nat) (p0:List Za) (p1:List Za):=T22c F p0 p1 some
def ct22 (F:Nat):Ct:=mkC 0 [(.ro (.sl .u8)),(.ro (.sl .u8))] [] [.bo] [] (fun x y=>T22 F x.1 x.2.1) (fun x y (z:Bool)=>((z,()),()))
theorem ok22 (F:Nat):Sound Tryd.prog cfg 22 (ct22 F):=
 mkC_ok (E:=E22 F) (lp:=[([1,0,1,1],lc22_2 F)]) (code:=bodyOf Tryd.f22) Tryd.func22 rfl Tryd.ntmps22 rfl rfl cok (cts22 F) mixed ⟨lo22_2 F,trivial⟩ (by kernel_rfl) (fun x y k=>T22c F x.1 x.2.1 k) (fun _ _ _=>by simp only [T22,T22c,oA,oC,oS,oN,elimS_bind]) (fun _ _=>by kernel_rfl)
def E23 (F:Nat):Ev:=⟨cfg,40,ctOf [(25,ct25 F),(42,ct42 F)],fun _=>[],ctOf [],fun _=>none,fun _=>none⟩
theorem cts23 (F:Nat):CtsOk Tryd.prog (E23 F):=cts_of (l:=[(25,ct25 F),(42,ct42 F)]) (l':=[]) rfl rfl ⟨⟨ok25 F,_,Tryd.func25,rfl,rfl⟩,⟨⟨ok42 F,_,Tryd.func42,rfl,rfl⟩,trivial⟩⟩ trivial
def T23c (F:Nat) (p0:List UInt8) (p1:Int) (p2:Int) (p3:Int) (p4:Int) (p5:List Zc) (p6:List Zb) (p7:Int) {β:Type} (k:(Za×Int×Za×Zd×Int)->Option β):Option β:=
 (Option.bind (T25 F p0 p1 p2 p3 p4 p5) fun z5=>(bif (z5 != (0:Int)) then (k (([]:List UInt8),(0:Int),([]:List UInt8),([]:List Za),(1:Int))) else (bif (decide (p7 < (0:Int))) then (k (([]:List UInt8),(0:Int),([]:List UInt8),([]:List Za),(1:Int))) else (bif (decide (p4≤p7)) then (k (([]:List UInt8),(0:Int),([]:List UInt8),([]:List Za),(1:Int))) else (Option.bind (T42 F p0 p1 p2 p3 p4 p5 p6) fun z6=>(bif (z6.1 != (0:Int)) then (k (([]:List UInt8),(0:Int),([]:List UInt8),([]:List Za),z6.1)) else (Option.bind (inb z6.2.2.length p7) fun x7=>(Option.bind (z6.2.2[x7]?) fun x8=>(k (x8.1.1,x8.1.2.1,x8.2.1,x8.2.2.1,(0:Int)))))))))))
def T23 (F:Nat) (p0:List UInt8) (p1:Int) (p2:Int) (p3:Int) (p4:Int) (p5:List Zc) (p6:List Zb) (p7:Int):=T23c F p0 p1 p2 p3 p4 p5 p6 p7 some
def ct23 (F:Nat):Ct:=mkC 0 [(.pr .str (.pr .i (.pr .i (.pr .i (.pr .i (.pr (.ro (.pr .s (.pr .i (.pr .i .un)))) .un)))))),(.ro (.pr (.pr .s (.pr .i .un)) (.pr (.sl .u8) (.pr (.sl .s) .un)))),.i] [] [(.pr (.pr .str (.pr .i .un)) (.pr (.ro .u8) (.pr (.ro .s) .un))),.i] [] (fun x y=>T23 F x.1.1 x.1.2.1 x.1.2.2.1 x.1.2.2.2.1 x.1.2.2.2.2.1 x.1.2.2.2.2.2.1 x.2.1 x.2.2.1) (fun x y (z:Za×Int×Za×Zd×Int)=>((((z.1,z.2.1,()),z.2.2.1,z.2.2.2.1,()),z.2.2.2.2,()),()))
theorem ok23 (F:Nat):Sound Tryd.prog cfg 23 (ct23 F):=
 mkC_ok (E:=E23 F) (lp:=[]) (code:=bodyOf Tryd.f23) Tryd.func23 rfl Tryd.ntmps23 rfl rfl cok (cts23 F) mixed trivial (by kernel_rfl) (fun x y k=>T23c F x.1.1 x.1.2.1 x.1.2.2.1 x.1.2.2.2.1 x.1.2.2.2.2.1 x.1.2.2.2.2.2.1 x.2.1 x.2.2.1 k) (fun _ _ _=>by simp only [T23,T23c,oA,oC,oS,oN,elimS_bind]) (fun _ _=>by kernel_rfl)
def ord24:Nat->List (Tag×Nat)
 | 6=>[(.p,0),(.r,1),(.p,2),(.p,3),(.r,4),(.p,5),(.r,6),(.p,7),(.p,8),(.r,9),(.p,10)]
 | _=>[]
def E24 (F:Nat):Ev:=⟨cfg,47,ctOf [],ord24,ctOf [],fun _=>none,fun _=>none⟩
theorem cts24 (F:Nat):CtsOk Tryd.prog (E24 F):=cts_of (l:=[]) (l':=[]) rfl rfl trivial trivial
def L24_2c (F:Nat) (y16:Int) (y21:List Za) (y25:List Za) (y17:Int) {β:Type} (kA:Int->Option β) (kO:Unit->Option β) (kR:Bool->Option β):Option β:=
 (bif (decide (y17 < y16)) then (Option.bind (ix y21 y17) fun x28=>(Option.bind (ix y25 y17) fun x29=>(bif (x28 != x29) then (kR false) else (kA (w64 (y17 + (1:Int))))))) else (kO ()))
def L24_2 (F:Nat) (y16:Int) (y21:List Za) (y25:List Za) (y17:Int):Option ((Int) ⊕ ((Unit) ⊕ (Bool))):=L24_2c F y16 y21 y25 y17 (fun s=>some (.inl s)) (fun z=>some (.inr (.inl z))) (fun z=>some (.inr (.inr z)))
theorem L24_2n (F:Nat) (y16:Int) (y21:List Za) (y25:List Za) (y17:Int) {β:Type} (kA:Int->Option β) (kO:Unit->Option β) (kR:Bool->Option β):L24_2c F y16 y21 y25 y17 kA kO kR=(L24_2 F y16 y21 y25 y17).bind (elimS kA (elimS kO kR)):=by
 simp only [L24_2,L24_2c,oA,oC,oS,oN,elimS_l,elimS_r,elimS_bind]
def lc24_2 (F:Nat):Lc:=mkR [2,3,31,32] [(.pt 0 []),(.pt 1 []),.i,.i] [.blk 58 (.pr (.pr .str (.pr .i .un)) (.pr (.ro .u8) (.pr (.ro .s) .un))),.blk 58 (.pr (.pr .str (.pr .i .un)) (.pr (.ro .u8) (.pr (.ro .s) .un)))] [] [] [] [4] [.bo] [] F (fun x y (s:Int)=>L24_2 F x.2.2.1 y.1.2.2.1 y.2.1.2.2.1 s) (fun x y=>x.2.2.2.1) (fun x y (z:Unit)=>((),())) (fun x y (z:Bool)=>((z,()),()))
theorem lo24_2 (F:Nat):LcOk Tryd.prog (E24 F) 0 (lc24_2 F) (cAt (bodyOf Tryd.f24) [1,0,1,1]):=
 mkR_ok (lp:=[]) (id:=0) (b:=cAt (bodyOf Tryd.f24) (0 :: 0 :: [1,0,1,1])) cok (cts24 F) mixed trivial (by kernel_rfl) (by kernel_rfl) (fun x y s=>((),(),x.2.2.1,s,())) (fun x y s=>(((y.1.1.1,y.1.1.2.1,()),y.1.2.1,y.1.2.2.1,()),((y.2.1.1.1,y.2.1.1.2.1,()),y.2.1.2.1,y.2.1.2.2.1,()),())) (fun x y=>rfl) (fun x y=>rfl) (fun x y s kA kO kR=>L24_2c F x.2.2.1 y.1.2.2.1 y.2.1.2.2.1 s kA kO kR) (fun x y s kA kO kR=>L24_2n F x.2.2.1 y.1.2.2.1 y.2.1.2.2.1 s kA kO kR) (fun _ _ _=>by kernel_rfl)
def T24c (F:Nat) (p0:List UInt8) (p1:Int) (p2:List UInt8) (p3:List Za) (p4:List UInt8) (p5:Int) (p6:List UInt8) (p7:List Za) {β:Type} (k:Bool->Option β):Option β:=
 (bif (!(p0 == p4 && (p1 == p5 && true))) then (k false) else (bif (p2 != p6) then (k false) else (bif ((p3.length:Int) != (p7.length:Int)) then (k false) else (Option.bind (iter (fun s=>L24_2 F (p3.length:Int) p3 p7 s) F (0:Int)) fun z30=>elimS (fun z30=>(k true)) (fun z30=>(k z30)) z30))))
def T24 (F:Nat) (p0:List UInt8) (p1:Int) (p2:List UInt8) (p3:List Za) (p4:List UInt8) (p5:Int) (p6:List UInt8) (p7:List Za):=T24c F p0 p1 p2 p3 p4 p5 p6 p7 some
def ct24 (F:Nat):Ct:=mkC 0 [(.pr (.pr .str (.pr .i .un)) (.pr (.ro .u8) (.pr (.ro .s) .un))),(.pr (.pr .str (.pr .i .un)) (.pr (.ro .u8) (.pr (.ro .s) .un)))] [] [.bo] [] (fun x y=>T24 F x.1.1.1 x.1.1.2.1 x.1.2.1 x.1.2.2.1 x.2.1.1.1 x.2.1.1.2.1 x.2.1.2.1 x.2.1.2.2.1) (fun x y (z:Bool)=>((z,()),()))
theorem ok24 (F:Nat):Sound Tryd.prog cfg 24 (ct24 F):=
 mkC_ok (E:=E24 F) (lp:=[([1,0,1,1],lc24_2 F)]) (code:=bodyOf Tryd.f24) Tryd.func24 rfl Tryd.ntmps24 rfl rfl cok (cts24 F) mixed ⟨lo24_2 F,trivial⟩ (by kernel_rfl) (fun x y k=>T24c F x.1.1.1 x.1.1.2.1 x.1.2.1 x.1.2.2.1 x.2.1.1.1 x.2.1.1.2.1 x.2.1.2.1 x.2.1.2.2.1 k) (fun _ _ _=>by simp only [T24,T24c,oA,oC,oS,oN,elimS_bind]) (fun _ _=>by kernel_rfl)
def ord6:Nat->List (Tag×Nat)
 | 16=>[(.p,0),(.p,1),(.p,2),(.r,3),(.p,4),(.p,5),(.p,6),(.r,7),(.w,8),(.p,9),(.p,10)]
 | _=>[]
def E6 (F:Nat):Ev:=⟨cfg,81,ctOf [(8,ct8 F),(16,ct16 F),(20,ct20 F),(21,ct21 F),(22,ct22 F),(23,ct23 F),(24,ct24 F),(25,ct25 F)],ord6,ctOf [],fun _=>none,fun _=>none⟩
theorem cts6 (F:Nat):CtsOk Tryd.prog (E6 F):=cts_of (l:=[(8,ct8 F),(16,ct16 F),(20,ct20 F),(21,ct21 F),(22,ct22 F),(23,ct23 F),(24,ct24 F),(25,ct25 F)]) (l':=[]) rfl rfl ⟨⟨ok8 F,_,Tryd.func8,rfl,rfl⟩,⟨⟨ok16 F,_,Tryd.func16,rfl,rfl⟩,⟨⟨ok20 F,_,Tryd.func20,rfl,rfl⟩,⟨⟨ok21 F,_,Tryd.func21,rfl,rfl⟩,⟨⟨ok22 F,_,Tryd.func22,rfl,rfl⟩,⟨⟨ok23 F,_,Tryd.func23,rfl,rfl⟩,⟨⟨ok24 F,_,Tryd.func24,rfl,rfl⟩,⟨⟨ok25 F,_,Tryd.func25,rfl,rfl⟩,trivial⟩⟩⟩⟩⟩⟩⟩⟩ trivial
def L6_2c (F:Nat) (y29:List Zb) (y30:List Zb) (y31:Int) (y33:List UInt8) (y34:Int) (y35:Int) (y36:Int) (y37:Int) (y38:List Zc) (y32:Int) {β:Type} (kA:Int->Option β) (kO:Unit->Option β) (kR:Bool->Option β):Option β:=
 (bif (decide (y32 < y31)) then (Option.bind (T23 F y33 y34 y35 y36 y37 y38 y30 y32) fun z42=>(bif (z42.2.2.2.2 != (0:Int)) then (kR false) else (Option.bind (ix y29 y32) fun x43=>(Option.bind (T24 F z42.1 z42.2.1 z42.2.2.1 z42.2.2.2.1 x43.1.1 x43.1.2.1 x43.2.1 x43.2.2.1) fun z44=>(bif (!z44) then (kR false) else (kA (w64 (y32 + (1:Int))))))))) else (kO ()))
def L6_2 (F:Nat) (y29:List Zb) (y30:List Zb) (y31:Int) (y33:List UInt8) (y34:Int) (y35:Int) (y36:Int) (y37:Int) (y38:List Zc) (y32:Int):Option ((Int) ⊕ ((Unit) ⊕ (Bool))):=L6_2c F y29 y30 y31 y33 y34 y35 y36 y37 y38 y32 (fun s=>some (.inl s)) (fun z=>some (.inr (.inl z))) (fun z=>some (.inr (.inr z)))
theorem L6_2n (F:Nat) (y29:List Zb) (y30:List Zb) (y31:Int) (y33:List UInt8) (y34:Int) (y35:Int) (y36:Int) (y37:Int) (y38:List Zc) (y32:Int) {β:Type} (kA:Int->Option β) (kO:Unit->Option β) (kR:Bool->Option β):L6_2c F y29 y30 y31 y33 y34 y35 y36 y37 y38 y32 kA kO kR=(L6_2 F y29 y30 y31 y33 y34 y35 y36 y37 y38 y32).bind (elimS kA (elimS kO kR)):=by
 simp only [L6_2,L6_2c,oA,oC,oS,oN,elimS_l,elimS_r,elimS_bind]
def lc6_2 (F:Nat):Lc:=mkR [5,6,8,55,56] [(.pt 0 []),(.ro (.pr (.pr .s (.pr .i .un)) (.pr (.sl .u8) (.pr (.sl .s) .un)))),(.ro (.pr (.pr .s (.pr .i .un)) (.pr (.sl .u8) (.pr (.sl .s) .un)))),.i,.i] [.blk 49 (.pr .str (.pr .i (.pr .i (.pr .i (.pr .i (.pr (.ro (.pr .s (.pr .i (.pr .i .un)))) .un))))))] [5] [(.pt 0 [])] [.blk 49 (.pr .str (.pr .i (.pr .i (.pr .i (.pr .i (.pr (.ro (.pr .s (.pr .i (.pr .i .un)))) .un))))))] [4] [.bo] [] F (fun x y (s:Int)=>L6_2 F x.2.1 x.2.2.1 x.2.2.2.1 y.1.1 y.1.2.1 y.1.2.2.1 y.1.2.2.2.1 y.1.2.2.2.2.1 y.1.2.2.2.2.2.1 s) (fun x y=>x.2.2.2.2.1) (fun x y (z:Unit)=>(((),()),((y.1.1,y.1.2.1,y.1.2.2.1,y.1.2.2.2.1,y.1.2.2.2.2.1,y.1.2.2.2.2.2.1,()),()))) (fun x y (z:Bool)=>((z,()),()))
theorem lo6_2 (F:Nat):LcOk Tryd.prog (E6 F) 0 (lc6_2 F) (cAt (bodyOf Tryd.f6) [1,0,1,1,1,1,1,1,1,1]):=
 mkR_ok (lp:=[]) (id:=0) (b:=cAt (bodyOf Tryd.f6) (0 :: 0 :: [1,0,1,1,1,1,1,1,1,1])) cok (cts6 F) mixed trivial (by kernel_rfl) (by kernel_rfl) (fun x y s=>((),x.2.1,x.2.2.1,x.2.2.2.1,s,())) (fun x y s=>((y.1.1,y.1.2.1,y.1.2.2.1,y.1.2.2.2.1,y.1.2.2.2.2.1,y.1.2.2.2.2.2.1,()),())) (fun x y=>rfl) (fun x y=>rfl) (fun x y s kA kO kR=>L6_2c F x.2.1 x.2.2.1 x.2.2.2.1 y.1.1 y.1.2.1 y.1.2.2.1 y.1.2.2.2.1 y.1.2.2.2.2.1 y.1.2.2.2.2.2.1 s kA kO kR) (fun x y s kA kO kR=>L6_2n F x.2.1 x.2.2.1 x.2.2.2.1 y.1.1 y.1.2.1 y.1.2.2.1 y.1.2.2.2.1 y.1.2.2.2.2.1 y.1.2.2.2.2.2.1 s kA kO kR) (fun _ _ _=>by kernel_rfl)
def T6c (F:Nat) (p0:Int) (p1:Int) (p2:Int) (p3:List Zc) (p4:List Za) (p5:UInt32) {β:Type} (k:Bool->Option β):Option β:=
 (Option.bind (T8 F) fun z24=>(bif (!z24) then (k false) else (Option.bind (T16 F p0 p1 p2 p3 p4) fun z25=>(bif (!z25.2.2.2.2.2.2.1) then (k true) else (Option.bind (T20 F z25.2.2.2.2.2.2.2 p5) fun z26=>(Option.bind (T21 F z25.1 z25.2.1 z25.2.2.1 z25.2.2.2.1 z25.2.2.2.2.1 z25.2.2.2.2.2.1 z26) fun z27=>(bif (decide ((z26.length:Int) < z25.2.2.2.1)) then (bif (z27.1 == (10:Int)) then (k ((z27.2.length:Int) == (0:Int))) else (k false)) else (bif (z27.1 != (0:Int)) then (k false) else (Option.bind (T22 F z27.2 p4) fun z28=>(bif (!z28) then (k false) else (Option.bind (iter (fun s=>L6_2 F z25.2.2.2.2.2.2.2 z26 (z25.2.2.2.2.2.2.2.length:Int) z25.1 z25.2.1 z25.2.2.1 z25.2.2.2.1 z25.2.2.2.2.1 z25.2.2.2.2.2.1 s) F (0:Int)) fun z45=>elimS (fun z45=>(Option.bind (T25 F z25.1 z25.2.1 z25.2.2.1 z25.2.2.2.1 z25.2.2.2.2.1 z25.2.2.2.2.2.1) fun z46=>(k (z46 == (0:Int))))) (fun z45=>(k z45)) z45)))))))))))
def T6 (F:Nat) (p0:Int) (p1:Int) (p2:Int) (p3:List Zc) (p4:List Za) (p5:UInt32):=T6c F p0 p1 p2 p3 p4 p5 some
abbrev cA6:List Sh:=[(.pr .i (.pr .i (.pr .i (.pr (.ro (.pr .s (.pr .i (.pr .i .un)))) (.pr (.ro (.sl .u8)) .un))))),.u32]
def ct6 (F:Nat):Ct:=mkC 0 cA6 [] [.bo] [] (fun x y=>T6 F x.1.1 x.1.2.1 x.1.2.2.1 x.1.2.2.2.1 x.1.2.2.2.2.1 x.2.1) (fun x y (z:Bool)=>((z,()),()))
theorem ok6 (F:Nat):Sound Tryd.prog cfg 6 (ct6 F):=
 mkC_ok (E:=E6 F) (lp:=[([1,0,1,1,1,1,1,1,1,1],lc6_2 F)]) (code:=bodyOf Tryd.f6) Tryd.func6 rfl Tryd.ntmps6 rfl rfl cok (cts6 F) mixed ⟨lo6_2 F,trivial⟩ (by kernel_rfl) (fun x y k=>T6c F x.1.1 x.1.2.1 x.1.2.2.1 x.1.2.2.2.1 x.1.2.2.2.2.1 x.2.1 k) (fun _ _ _=>by simp only [T6,T6c,oA,oC,oS,oN,elimS_bind]) (fun _ _=>by kernel_rfl)
end Go.Proofs.YtooplgiihmdfgaaDoor
namespace Go.Proofs.YtooplgiihmdfgaaDoor
open Go.Tw
set_option linter.unusedSimpArgs false
set_option linter.unusedVariables false
structure Rows {α:Type} (rows:List (Option (List α))) (out:List Nat) (gs:List (List α)):Prop where
 len:out.length=gs.length
 at_:∀ (i:Nat) (g:List α),gs[i]? = some g->∃ q:Nat,out[i]? = some q∧rows[q]? = some (some g)
 nd:out.Nodup
section
variable {α:Type} {rows:List (Option (List α))} {out:List Nat} {gs:List (List α)}
theorem Rows.lt (H:Rows rows out gs) {q:Nat} (h:q ∈ out):q < rows.length:=by
 obtain ⟨i,hi⟩:=List.mem_iff_getElem?.1 h
 have hl:=(List.getElem?_eq_some_iff.1 hi).1
 obtain ⟨q',h1,h2⟩:=H.at_ i _ (List.getElem?_eq_getElem (by rw [← H.len];exact hl))
 rw [hi] at h1;cases h1
 exact (List.getElem?_eq_some_iff.1 h2).1
theorem rxG_of {q:Nat} {g:List α} (h:rows[q]? = some (some g)):rxG rows q=some g:=by unfold rxG;rw [h]
theorem Rows.get (H:Rows rows out gs) {i:Nat} {g:List α} (h:gs[i]? = some g):∃ q,outG out i=some q∧rxG rows q=some g∧out[i]? = some q:=by
 obtain ⟨q,h1,h2⟩:=H.at_ i g h
 exact ⟨q,h1,rxG_of h2,h1⟩
theorem Rows.mat_eq:∀ {out:List Nat} {gs:List (List α)},Rows rows out gs->mat rows out=some gs
 | [],[],_=>rfl
 | [],_ :: _,H=>by have:=H.len;simp at this
 | _ :: _,[],H=>by have:=H.len;simp at this
 | q :: out,g :: gs,H=>by
  obtain ⟨q',h1,h2⟩:=H.at_ 0 g rfl
  simp at h1;subst h1
  have ih:=Rows.mat_eq (out:=out) (gs:=gs) ⟨by have:=H.len;simpa using this,fun i g' h=>by simpa using H.at_ (i + 1) g' (by simpa using h),(List.nodup_cons.1 H.nd).2⟩
  simp [mat,rxG_of h2,ih]
theorem nodup_at {l:List Nat} (h:l.Nodup) {i j q:Nat} (hi:l[i]? = some q) (hj:l[j]? = some q):i=j:=by
 obtain ⟨hi1,hi2⟩:=List.getElem?_eq_some_iff.1 hi
 obtain ⟨hj1,hj2⟩:=List.getElem?_eq_some_iff.1 hj
 have hp:=List.pairwise_iff_getElem.1 h
 rcases Nat.lt_trichotomy i j with h' | h' | h'
 ·exact absurd (hi2.trans hj2.symm) (hp i j hi1 hj1 h')
 ·exact h'
 ·exact absurd (hj2.trans hi2.symm) (hp j i hj1 hi1 h')
theorem nodup_of {l:List Nat} (h:∀ i j q:Nat,l[i]? = some q->l[j]? = some q->i=j):l.Nodup:=
 List.pairwise_iff_getElem.2 fun i j hi hj hij e=>by
  have:=h i j l[i] (List.getElem?_eq_getElem hi) (by rw [List.getElem?_eq_getElem hj,e])
  omega
theorem Rows.put (H:Rows rows out gs) {i q:Nat} (hq:out[i]? = some q) (y:List α):Rows (rows.set q (some y)) out (gs.set i y):=by
 have hil:=(List.getElem?_eq_some_iff.1 hq).1
 have hql:=H.lt (List.mem_of_getElem? hq)
 refine ⟨by simp [H.len],fun k g h=>?_,H.nd⟩
 by_cases hk:i=k
 ·subst hk
  rw [List.getElem?_set_self (by rw [← H.len];exact hil)] at h
  cases h
  exact ⟨q,hq,List.getElem?_set_self hql⟩
 ·rw [List.getElem?_set_ne hk] at h
  obtain ⟨q',h1,h2⟩:=H.at_ k g h
  have hne:q ≠ q':=fun e=>hk (nodup_at H.nd hq (e ▸ h1))
  exact ⟨q',h1,by rw [List.getElem?_set_ne hne];exact h2⟩
end
theorem it_again' {σ ρ:Type} {f:σ->Option (σ ⊕ ρ)} {n:Nat} {s s':σ} (h:f s=some (.inl s')):iter f (n + 1) s=iter f n s':=by simp [iter,h]
theorem it_out' {σ ρ:Type} {f:σ->Option (σ ⊕ ρ)} {n:Nat} {s:σ} {r:ρ} (h:f s=some (.inr r)):iter f (n + 1) s=some r:=by simp [iter,h]
theorem iter1 {σ ρ:Type} {f:σ->Option (σ ⊕ ρ)} (R:σ->Prop) (Q:ρ->Prop) (μ:σ->Nat)
  (step:∀ s,R s->(∃ s',f s=some (.inl s')∧R s'∧μ s' < μ s)∨(∃ r,f s=some (.inr r)∧Q r)) :
  ∀ (n:Nat) (s:σ),R s->μ s < n->∃ r,iter f n s=some r∧Q r
 | 0,s,_,h=>by omega
 | n + 1,s,hR,h=>by
  rcases step s hR with ⟨s',h1,h2,h3⟩ | ⟨r,h1,h2⟩
  ·rw [it_again' h1];exact iter1 R Q μ step n s' h2 (by omega)
  ·exact ⟨r,it_out' h1,h2⟩
theorem ixn {α:Type} {l:List α} {i:Nat} {x:α} (h:l[i]? = some x):ix l ((i:Nat):Int)=some x:=by
 have hi:=(List.getElem?_eq_some_iff.1 h).1
 unfold ix
 rw [if_pos (by omega),Int.toNat_natCast];exact h
theorem inbn {n i:Nat} (h:i < n):inb n ((i:Nat):Int)=some i:=by unfold inb;simp [h]
theorem gappn {α:Type} {xs ys:List α} (h:xs.length + ys.length≤1099511627776):gapp xs ys=some (xs ++ ys):=by unfold gapp;rw [if_pos h]
theorem w64n {n:Nat} (h:n < 9223372036854775807):w64 (((n:Nat):Int) + 1)=((n + 1:Nat):Int):=by rw [w64_in (by omega) (by omega)];omega
end Go.Proofs.YtooplgiihmdfgaaDoor
namespace Go.Proofs.YtooplgiihmdfgaaDoor
open Go.Tw
set_option linter.unusedSimpArgs false
set_option linter.unusedVariables false
def L66_2c (F:Nat) (y7:UInt64) (y8:List UInt8) {β:Type} (kA:(UInt64×Za)->Option β) (kO:(UInt64×Za)->Option β):Option β:=
 (bif (decide ((UInt64.ofNat 127) < y7)) then (Option.bind (gapp y8 ([(((y7 % (UInt64.ofNat 128)).toUInt8) + (UInt8.ofNat 128))]:List UInt8)) fun x10=>(kA ((y7 / (UInt64.ofNat 128)),x10))) else (kO (y7,y8)))
def L66_2 (F:Nat) (y7:UInt64) (y8:List UInt8):=L66_2c F y7 y8 (fun s=>some (Sum.inl s)) (fun z=>some (Sum.inr z))
def T66c (F:Nat) (p0:UInt64) {β:Type} (k:(Za)->Option β):Option β:=
 (Option.bind (iter (fun s=>L66_2 F s.1 s.2) F (p0,([]:List UInt8))) fun z11=>(Option.bind (gapp z11.2 ([(z11.1.toUInt8)]:List UInt8)) fun x12=>(k x12)))
def T66 (F:Nat) (p0:UInt64):=T66c F p0 some
def T49c (F:Nat) (p0:Int) {β:Type} (k:Int->Option β):Option β:=
 (Option.bind (T66 F (UInt64.ofInt p0)) fun z2=>(k (w64 ((w64 ((z2.length:Int) + p0)) + (16:Int)))))
def T49 (F:Nat) (p0:Int):=T49c F p0 some
def L48_4c (F:Nat) (y12:Int) (y13:Int) (y14:Int) {β:Type} (kA:Int->Option β) (kO:Unit->Option β) (kR:Int->Option β):Option β:=
 (bif (decide (y14 < (4:Int))) then (bif (decide (y12≤(w64 (y13 + (w64 ((w64 (Int.tdiv y13 (4:Int))) * y14)))))) then (kR (w64 (y13 + (w64 ((w64 (Int.tdiv y13 (4:Int))) * y14))))) else (kA (w64 (y14 + (1:Int))))) else (kO ()))
def L48_4 (F:Nat) (y12:Int) (y13:Int) (y14:Int):Option ((Int) ⊕ ((Unit) ⊕ (Int))):=L48_4c F y12 y13 y14 (fun s=>some (.inl s)) (fun z=>some (.inr (.inl z))) (fun z=>some (.inr (.inr z)))
def L48_3c (F:Nat) (y9:Int) (y10:Int) {β:Type} (kA:Int->Option β) (kR:Int->Option β):Option β:=
 (Option.bind (iter (fun s=>L48_4 F y9 y10 s) F (0:Int)) fun z15=>elimS (fun z15=>(kA (w64 ((2:Int) * y10)))) (fun z15=>(kR z15)) z15)
def L48_3 (F:Nat) (y9:Int) (y10:Int):=L48_3c F y9 y10 (fun s=>some (Sum.inl s)) (fun z=>some (Sum.inr z))
def T48c (F:Nat) (p0:Int) {β:Type} (k:Int->Option β):Option β:=
 (Option.bind (iter (fun s=>L48_3 F p0 s) F (64:Int)) fun z16=>(k z16))
def T48 (F:Nat) (p0:Int):=T48c F p0 some
end Go.Proofs.YtooplgiihmdfgaaDoor
