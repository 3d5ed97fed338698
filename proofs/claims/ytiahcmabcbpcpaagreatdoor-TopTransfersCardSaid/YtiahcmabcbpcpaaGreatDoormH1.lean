/- The functions, each with its twin, and plain facts about them. -/
import Derived.Test.YtiahcmabcbpcpaaGreatDoormB
import Derived.Test.YtiahcmabcbpcpaaGreatDoormSGr109
set_option linter.unusedSimpArgs false
set_option linter.unusedVariables false
set_option maxRecDepth 100000
namespace Go.Proofs.YtiahcmabcbpcpaaGreatDoor
open Go.Tw
abbrev Zv:Type:=Int×Int
abbrev Zu:Type:=Vector UInt8 16
abbrev Zr:Type:=UInt32×UInt32×UInt32×UInt32×UInt32×UInt32×UInt32×UInt32
abbrev Zq:Type:=Vector UInt8 8
abbrev Zp:Type:=Vector UInt32 64
abbrev Zo:Type:=UInt32×UInt32×UInt32×UInt32×UInt32×UInt32×UInt32×UInt32×Int
abbrev Zk:Type:=Vector UInt32 16
abbrev Zj:Type:=Int×Bool
abbrev Zh:Type:=Vector UInt8 64
abbrev Ze:Type:=Vector UInt32 8
abbrev Za:Type:=List UInt8
abbrev Zw:Type:=Za×Int×Unit
abbrev Zm:Type:=Int×Za
abbrev Zl:Type:=Za×Za×Unit
abbrev Zd:Type:=List Za
abbrev Zs:Type:=List Zd
abbrev Zx:Type:=Int×(List Zj)×Bool×Int×Zd×Zs×Za×Za×Za×Za×Za
abbrev Zi:Type:=(Zw×Int×Zd×Unit)×Zd×Zs×Unit
abbrev Zg:Type:=Zw×Int×Za×Zd×Unit
abbrev Zc:Type:=Zw×Za×Zd×Unit
abbrev Zt:Type:=List Zc
abbrev Zb:Type:=Za×Int×Int×Unit
abbrev Zn:Type:=List Zb
abbrev Zf:Type:=Za×Int×Int×Int×Int×Zn×Unit
abbrev Qy:Sh:=.ar 64 .u32
abbrev Qx:Sh:=.pr (.pr (.pr .str (.pr .i .un)) (.pr .i (.pr (.rw 4) .un))) (.pr (.rw 5) .un)
abbrev Qw:Sh:=.ar 16 .u32
abbrev Qv:Sh:=.pr (.pr (.pr (.pr .str (.pr .i .un)) (.pr .i (.pr (.rw 6) .un))) (.pr (.rw 7) (.pr (.rw 8) .un))) .un
abbrev Qu:Ty:=.sn .u8
abbrev Qt:Ty:=.pr (.pr .s (.pr .i .un)) (.pr .i (.pr (.sl .u8) (.pr (.sl .s) .un)))
abbrev Qs:Sh:=.pr (.rw 1) (.pr .i (.pr (.fn 37 .un .un) .un))
abbrev Qr:Sh:=.pr (.rw 2) (.pr .i (.pr .i (.pr .i .un)))
abbrev Qq:Sh:=.pr .i (.pr (.ar 16 (.ar 8 .u8)) .un)
abbrev Qo:Sh:=.pr (.pr (.pr (.pr .str (.pr .i .un)) (.pr .i (.pr (.rw 2) .un))) (.pr (.rw 3) (.pr (.rw 4) .un))) .un
abbrev Qn:Sh:=.pr (.pr .str (.pr .i .un)) (.pr (.ro .u8) (.pr (.ro .s) .un))
abbrev Qm:Ty:=.sl .u8
abbrev Ql:Sh:=.pr (.rw 1) (.pr .i .un)
abbrev Qk:Sh:=.pr (.pr (.pr (.rw 2) (.pr (.rw 3) .un)) (.pr (.pr (.rw 4) (.pr (.rw 5) .un)) .un)) (.pr .i (.pr .i (.pr .bo .un)))
abbrev Qj:Sh:=.pr (.pr (.pr .ns (.pr .ns .un)) (.pr (.pr .ns (.pr .ns .un)) .un)) (.pr .i (.pr .i (.pr .bo .un)))
abbrev Qi:Sh:=.pr (.rw 3) (.pr .i (.pr .i (.pr .i .un)))
abbrev Qh:Ty:=.pr (.pr .s (.pr .i .un)) (.pr (.sl .u8) (.pr (.sl .s) .un))
abbrev Qg:Sh:=.pr (.pr (.pr (.rw 1) (.pr (.rw 2) .un)) (.pr (.pr (.rw 3) (.pr (.rw 4) .un)) .un)) (.pr .i (.pr .i (.pr .bo .un)))
abbrev Qf:Sh:=.pr (.pr (.pr .str (.pr .i .un)) (.pr .i (.pr (.rw 1) .un))) (.pr (.rw 2) .un)
abbrev Qe:Ty:=.pr .s (.pr .i (.pr .i .un))
abbrev Qp:Ty:=.pr .s (.pr .i (.pr .i (.pr .i (.pr .i (.pr (.sl Qe) .un)))))
abbrev Qd:Sh:=.pr (.pr (.pr (.pr .str (.pr .i .un)) (.pr .i (.pr (.rw 1) .un))) (.pr (.rw 2) (.pr (.rw 3) .un))) .un
abbrev Qc:Sh:=.pr (.rw 1) (.pr .i (.pr .i (.pr .i .un)))
abbrev Qb:Sh:=.pr (.ar 8 .u32) (.pr (.ar 64 .u8) (.pr .i .un))
abbrev Qa:Sh:=.pr (.pr (.pr (.ar 8 .u32) (.pr (.ar 64 .u8) (.pr .i .un))) (.pr (.ar 64 .u8) .un)) .un
theorem oA {α β γ:Type} (x:Option α) (f:α->Option β) (g:β->Option γ):(x.bind f).bind g=x.bind fun y=>(f y).bind g:=Option.bind_assoc x f g
theorem oC {α β:Type} (c:Bool) (x y:Option α) (k:α->Option β):(bif c then x else y).bind k=bif c then x.bind k else y.bind k:=asc c x y k
theorem oS {α β:Type} (a:α) (f:α->Option β):(some a).bind f=f a:=rfl
theorem oN {α β:Type} (f:α->Option β):(none:Option α).bind f=none:=rfl
def E75 (F:Nat):Ev:=ev 10 [] (fun _=>[])
def RM (F:Nat) (p0:UInt8) (p1:UInt8) {β:Type} (k:(Za)->Option β):Option β:=
 ((Ep ([p0,p1]:List UInt8) ([50,51,52,53,54,55,56,57,97,98,99,100,101,102,48,49,50,51,52,53,54,55,56,57,97,98,99,100,101,102]:List UInt8)).bind fun x2=>(k x2))
def yP (F:Nat) (p0:UInt8) (p1:UInt8):=RM F p0 p1 some
def amO (F:Nat):BN:=
 aq (E:=E75 F) st Tryz.func75 ai 0 [] [.u8,.u8] [] [.str] [] (fun x y (z:Za)=>((z,()),())) (fun x y _ k=>RM F x.1 x.2.1 k) (fun _ _ _ _=>by simp only [RM,oA,oC,oS,oN,ah]) (by kernel_rfl) (fun _ _=>by kernel_rfl)
def E28 (F:Nat):Ev:=ev 14 [amO F] (fun _=>[])
def Gq (F:Nat) (p0:UInt8) {β:Type} (k:(Za×Za×Za×Za×Za)->Option β):Option β:=
 ((yP F p0 (UInt8.ofNat 110)).bind fun z6=>((yP F p0 (UInt8.ofNat 115)).bind fun z7=>((yP F p0 (UInt8.ofNat 99)).bind fun z8=>((yP F p0 (UInt8.ofNat 105)).bind fun z9=>((yP F p0 (UInt8.ofNat 116)).bind fun bg=>(k (z6,z7,z8,z9,bg)))))))
def Dm (F:Nat) (p0:UInt8):=Gq F p0 some
def QV (F:Nat):BN:=
 aq (E:=E28 F) st Tryz.func28 ai 0 [] [.u8] [] [(.pr .str (.pr .str (.pr .str (.pr .str (.pr .str .un)))))] [] (fun x y (z:Za×Za×Za×Za×Za)=>(((z.1,z.2.1,z.2.2.1,z.2.2.2.1,z.2.2.2.2,()),()),())) (fun x y _ k=>Gq F x.1 k) (fun _ _ _ _=>by simp only [Gq,oA,oC,oS,oN,ah]) (by kernel_rfl) (fun _ _=>by kernel_rfl)
def Ut (F:Nat):Ev:=ev 25 [] (fun _=>[])
def yI (F:Nat) (y9:Int) (bw:List Za) (bP:Int) {β:Type} (kA:Int->Option β) (kO:Unit->Option β) (kR:Bool->Option β):Option β:=
 (bif (decide (bP < y9)) then ((an bw.length bP).bind fun fw=>((bw[fw]?).bind fun ko=>(bif ((ko.length:Int) != (32:Int)) then (kR false) else (kA (ag (bP + (1:Int))))))) else (kO ()))
def yD (F:Nat) (y9:Int) (bw:List Za) (bP:Int):Option ((Int) ⊕ ((Unit) ⊕ (Bool))):=yI F y9 bw bP (fun s=>some (.inl s)) (fun z=>some (.inr (.inl z))) (fun z=>some (.inr (.inr z)))
def ajl (F:Nat):LB (Ut F) 0 Tryz.f143:=
 gH st ai [] [1,0,1] 0 [15,16,17] [(.rw 0),.i,.i] [.row 9 .s] [] [] [] [2] [.bo] [] F (fun x y (s:Int)=>((),x.2.1,s,())) (fun x y s=>(y.1,())) (fun x y=>x.2.2.1) (fun x y (z:Unit)=>((),())) (fun x y (z:Bool)=>((z,()),())) (fun x y s _ kA kO kR=>yI F x.2.1 y.1 s kA kO kR) (fun _ _ _ _ _ _ _=>by simp only [yI,oA,oC,oS,oN,aU,aT,ah]) (by kernel_rfl) (by kernel_rfl) (fun _ _ _=>by kernel_rfl)
def I9 (F:Nat) (p0:List UInt8) (p1:List UInt8) (p2:List UInt8) (p3:List UInt8) (p4:List UInt8) {β:Type} (k:Bool->Option β):Option β:=
 ((iter (fun s=>yD F (([p0,p1,p2,p3,p4]:List Za).length:Int) ([p0,p1,p2,p3,p4]:List Za) s) F (0:Int)).bind fun cq=>bz (fun cq=>(k true)) (fun cq=>(k cq)) cq)
def r7 (F:Nat) (p0:List UInt8) (p1:List UInt8) (p2:List UInt8) (p3:List UInt8) (p4:List UInt8):=I9 F p0 p1 p2 p3 p4 some
def Ng (F:Nat):BN:=
 aq (E:=Ut F) st Tryz.func143 ai 0 [ajl F] [(.pr .str (.pr .str (.pr .str (.pr .str (.pr .str .un)))))] [] [.bo] [] (fun x y (z:Bool)=>((z,()),())) (fun x y _ k=>I9 F x.1.1 x.1.2.1 x.1.2.2.1 x.1.2.2.2.1 x.1.2.2.2.2.1 k) (fun _ _ _ _=>by simp only [I9,oA,oC,oS,oN,ah]) (by kernel_rfl) (fun _ _=>by kernel_rfl)
def VB (F:Nat):Ev:=ev 20 [] (fun _=>[])
def wq (F:Nat) (y7:UInt64) (y8:List UInt8) {β:Type} (kA:(UInt64×Za)->Option β) (kO:(UInt64×Za)->Option β):Option β:=
 (bif (decide ((UInt64.ofNat 128)≤y7)) then ((aD y8 ([((y7.toUInt8) ||| (UInt8.ofNat 128))]:List UInt8)).bind fun jy=>(kA ((cY y7 ((UInt64.ofNat 7).toNat)),jy))) else (kO (y7,y8)))
def lM (F:Nat) (y7:UInt64) (y8:List UInt8):=wq F y7 y8 (fun s=>some (Sum.inl s)) (fun z=>some (Sum.inr z))
def amh (F:Nat):LB (VB F) 0 Tryz.f108:=
 bH st ai [] [0,1] 0 [0,1] [(.rw 0),.u64] [.row 5 .u8] [0,1] [(.rw 0),.u64] [.row 5 .u8] F (fun x y (s:UInt64×Za)=>((),s.1,())) (fun x y s=>(s.2,())) (fun x y=>(x.2.1,y.1)) (fun x y (z:UInt64×Za)=>(((),z.1,()),(z.2,()))) (fun x y s _ kA kO=>wq F s.1 s.2 kA kO) (fun _ _ _ _ _ _=>by simp only [wq,oA,oC,oS,oN,aU,aT,ah]) (by kernel_rfl) (by kernel_rfl) (fun _ _ _=>by kernel_rfl)
def Cc (F:Nat) (p0:UInt64) (p1:List UInt8) {β:Type} (k:(Za)->Option β):Option β:=
 ((iter (fun s=>lM F s.1 s.2) F (p0,p1)).bind fun dG=>((aD dG.2 ([(dG.1.toUInt8)]:List UInt8)).bind fun mq=>(k mq)))
def t5 (F:Nat) (p0:UInt64) (p1:List UInt8):=Cc F p0 p1 some
def Gl (F:Nat):BN:=
 aq (E:=VB F) st Tryz.func108 ai 0 [amh F] [(.rw 0),.u64] [.row 5 .u8] [(.rw 0)] [.row 5 .u8] (fun x y (z:Za)=>(((),()),(z,()))) (fun x y _ k=>Cc F x.2.1 y.1 k) (fun _ _ _ _=>by simp only [Cc,oA,oC,oS,oN,ah]) (by kernel_rfl) (fun _ _=>by kernel_rfl)
def E92 (F:Nat):Ev:=ev 13 [Gl F] (fun _=>[])
def Bd (F:Nat) (p0:List UInt8) (p1:UInt64) {β:Type} (k:(Za)->Option β):Option β:=
 ((cw (0:UInt8) (0:Int) (ag ((p0.length:Int) + (10:Int)))).bind fun x4=>((aD x4 p0).bind fun x5=>((t5 F p1 x5).bind fun z6=>(k z6))))
def tY (F:Nat) (p0:List UInt8) (p1:UInt64):=Bd F p0 p1 some
def OE (F:Nat):BN:=
 aq (E:=E92 F) st Tryz.func92 ai 0 [] [(.ro .u8),.u64] [] [(.rw 0)] [.row 5 .u8] (fun x y (z:Za)=>(((),()),(z,()))) (fun x y _ k=>Bd F x.1 x.2.1 k) (fun _ _ _ _=>by simp only [Bd,oA,oC,oS,oN,ah]) (by kernel_rfl) (fun _ _=>by kernel_rfl)
def asv (F:Nat):Ev:=ev 4 [] (fun _=>[])
def sg (F:Nat) {β:Type} (k:(Ze×Zh×Int)->Option β):Option β:=
 (k ((uE),(Vector.replicate 64 (0:UInt8)),(0:Int)))
def nQ (F:Nat):=sg F some
def Hz (F:Nat):BN:=
 aq (E:=asv F) st Tryz.func127 ai 0 [] [] [] [(.pt 0 [])] [.blk 260 Qb] (fun x y (z:Ze×Zh×Int)=>(((),()),((z.1,z.2.1,z.2.2,()),()))) (fun x y _ k=>sg F k) (fun _ _ _ _=>by simp only [sg,oA,oC,oS,oN,ah]) (by kernel_rfl) (fun _ _=>by kernel_rfl)
def ags (F:Nat):Ev:=ev 17 [] (fun _=>[])
def iK (F:Nat) (p0:UInt32) (p1:Int) {β:Type} (k:UInt32->Option β):Option β:=
 (k ((ey p0 (((UInt64.ofInt p1) &&& (UInt64.ofNat 31)).toNat)) ||| (cn p0 (((UInt64.ofNat 32) - ((UInt64.ofInt p1) &&& (UInt64.ofNat 31))).toNat))))
def bc (F:Nat) (p0:UInt32) (p1:Int):=iK F p0 p1 some
def DY (F:Nat):BN:=
 aq (E:=ags F) st Tryz.func198 ai 0 [] [.u32,.i] [] [.u32] [] (fun x y (z:UInt32)=>((z,()),())) (fun x y _ k=>iK F x.1 x.2.1 k) (fun _ _ _ _=>by simp only [iK,oA,oC,oS,oN,ah]) (by kernel_rfl) (fun _ _=>by kernel_rfl)
def aen:Nat->List (Tag×Nat)
 | 6=>[(.p,0),(.p,1),(.p,2),(.r,3),(.p,4),(.p,5),(.p,6),(.p,7),(.r,8),(.p,9),(.p,10),(.p,11),(.p,12),(.p,13),(.r,14),(.p,15),(.p,16),(.p,17),(.p,18),(.p,19),(.r,20),(.p,21),(.p,22),(.p,23),(.w,24)]
 | 7=>[(.p,0),(.p,1),(.p,2),(.r,3),(.p,4),(.p,5),(.p,6),(.r,7),(.p,8),(.p,9)]
 | 10=>[(.p,0),(.p,1),(.p,2),(.p,3),(.p,4),(.r,5),(.p,6),(.p,7),(.p,8),(.p,9),(.p,10),(.p,11),(.r,12),(.p,13),(.p,14),(.w,15)]
 | 13=>[(.p,0),(.r,1),(.p,2),(.r,3),(.p,4),(.r,5),(.p,6),(.r,7),(.p,8),(.r,9),(.p,10),(.r,11),(.p,12),(.r,13),(.p,14),(.r,15),(.p,16),(.p,17),(.p,18),(.p,19),(.p,20),(.p,21),(.p,22),(.p,23)]
 | 19=>[(.p,0),(.p,1),(.p,2),(.p,3),(.p,4),(.p,5),(.p,6),(.p,7),(.p,8),(.p,9),(.p,10),(.p,11),(.p,12),(.p,13),(.r,14),(.p,15),(.p,16),(.p,17),(.r,18),(.p,19),(.p,20)]
 | 26=>[(.p,0),(.p,1),(.p,2),(.p,3),(.r,4),(.p,5),(.p,6),(.p,7),(.p,8),(.p,9),(.w,10)]
 | _=>[]
def Ga (F:Nat):Ev:=ev 212 [DY F] aen
def B9 (F:Nat) (eG:Vector UInt8 64) (fu:Nat×Nat) (dZ:Int) (pK:Vector UInt32 64) {β:Type} (kA:((Nat×Nat)×Int×Zp)->Option β) (kO:(Zp)->Option β):Option β:=
 (bif (decide (dZ < (64:Int))) then (bif (decide (dZ < (16:Int))) then ((bW (fu.2 - fu.1) (ag ((4:Int) * dZ)) (ag ((ag ((4:Int) * dZ)) + (4:Int)))).bind fun g_=>((an ((fu.1 + g_.2) - (fu.1 + g_.1)) (0:Int)).bind fun oF=>((aA eG ((fu.1 + g_.1) + oF)).bind fun vn=>((an ((fu.1 + g_.2) - (fu.1 + g_.1)) (1:Int)).bind fun Ch=>((aA eG ((fu.1 + g_.1) + Ch)).bind fun fZ=>((an ((fu.1 + g_.2) - (fu.1 + g_.1)) (2:Int)).bind fun yo=>((aA eG ((fu.1 + g_.1) + yo)).bind fun ph=>((an ((fu.1 + g_.2) - (fu.1 + g_.1)) (3:Int)).bind fun qc=>((aA eG ((fu.1 + g_.1) + qc)).bind fun mB=>((an 64 dZ).bind fun oy=>(kA ((fu.1,fu.2),(ag (dZ + (1:Int))),(Vector.setIfInBounds pK oy ((((ey (vn.toUInt32) ((UInt64.ofNat 24).toNat)) ||| (ey (fZ.toUInt32) ((UInt64.ofNat 16).toNat))) ||| (ey (ph.toUInt32) ((UInt64.ofNat 8).toNat))) ||| (mB.toUInt32))))))))))))))) else ((an 64 (ag (dZ - (2:Int)))).bind fun mz=>((aA pK mz).bind fun uL=>((an 64 (ag (dZ - (15:Int)))).bind fun tI=>((aA pK tI).bind fun o6=>((bc F uL (-17:Int)).bind fun apB=>((bc F uL (-19:Int)).bind fun alv=>((bc F o6 (-7:Int)).bind fun afx=>((bc F o6 (-18:Int)).bind fun atb=>((an 64 (ag (dZ - (7:Int)))).bind fun Nw=>((aA pK Nw).bind fun lm=>((an 64 (ag (dZ - (16:Int)))).bind fun Sb=>((aA pK Sb).bind fun NW=>((an 64 dZ).bind fun zC=>(kA ((fu.1,fu.2),(ag (dZ + (1:Int))),(Vector.setIfInBounds pK zC (((((apB ^^^ alv) ^^^ (cn uL ((UInt64.ofNat 10).toNat))) + lm) + ((afx ^^^ atb) ^^^ (cn o6 ((UInt64.ofNat 3).toNat)))) + NW)))))))))))))))))) else (kO pK))
def vC (F:Nat) (eG:Vector UInt8 64) (fu:Nat×Nat) (dZ:Int) (pK:Vector UInt32 64):=B9 F eG fu dZ pK (fun s=>some (Sum.inl s)) (fun z=>some (Sum.inr z))
def ac0 (F:Nat):LB (Ga F) 1 Tryz.f161:=
 bH st ai [] [1,0,1] 0 [0,1,4,27] [(.pt 0 []),(.ap 0 [1]),(.pt 1 []),.i] [.blk 260 Qb,.blk 312 Qy] [0,4] [(.pt 0 []),(.pt 1 [])] [.blk 260 Qb,.blk 312 Qy] F (fun x y (s:(Nat×Nat)×Int×Zp)=>((),s.1,(),s.2.1,())) (fun x y s=>((y.1.1,y.1.2.1,y.1.2.2.1,()),s.2.2,())) (fun x y=>(x.2.1,x.2.2.2.1,y.2.1)) (fun x y (z:Zp)=>(((),(),()),((y.1.1,y.1.2.1,y.1.2.2.1,()),z,()))) (fun x y s _ kA kO=>B9 F y.1.2.1 s.1 s.2.1 s.2.2 kA kO) (fun _ _ _ _ _ _=>by simp only [B9,oA,oC,oS,oN,aU,aT,ah]) (by kernel_rfl) (by kernel_rfl) (fun _ _ _=>by kernel_rfl)
def SJ (F:Nat) (m_:Vector UInt32 64) (oD:UInt32) (nY:UInt32) (wH:UInt32) (HU:UInt32) (gj:UInt32) (kg:UInt32) (kC:UInt32) (mY:UInt32) (ic:Int) {β:Type} (kA:Zo->Option β) (kO:Zr->Option β):Option β:=
 (bif (decide (ic < (64:Int))) then ((bc F gj (-6:Int)).bind fun WT=>((bc F gj (-11:Int)).bind fun WD=>((bc F gj (-25:Int)).bind fun Lr=>((bc F oD (-2:Int)).bind fun afA=>((bc F oD (-13:Int)).bind fun ac8=>((bc F oD (-22:Int)).bind fun GI=>((dc (iD) ic).bind fun JQ=>((an 64 ic).bind fun QC=>((aA m_ QC).bind fun Us=>(kA ((((((mY + ((WT ^^^ WD) ^^^ Lr)) + ((gj &&& kg) ^^^ ((~~~gj) &&& kC))) + JQ) + Us) + (((afA ^^^ ac8) ^^^ GI) + (((oD &&& nY) ^^^ (oD &&& wH)) ^^^ (nY &&& wH)))),oD,nY,wH,(HU + ((((mY + ((WT ^^^ WD) ^^^ Lr)) + ((gj &&& kg) ^^^ ((~~~gj) &&& kC))) + JQ) + Us)),gj,kg,kC,(ag (ic + (1:Int)))))))))))))) else (kO (oD,nY,wH,HU,gj,kg,kC,mY)))
def aqv (F:Nat) (m_:Vector UInt32 64) (oD:UInt32) (nY:UInt32) (wH:UInt32) (HU:UInt32) (gj:UInt32) (kg:UInt32) (kC:UInt32) (mY:UInt32) (ic:Int):=SJ F m_ oD nY wH HU gj kg kC mY ic (fun s=>some (Sum.inl s)) (fun z=>some (Sum.inr z))
def ad_ (F:Nat):LB (Ga F) 1 Tryz.f161:=
 bH st ai [] [1,0,1,1,1,1] 2 [0,4,11,12,13,14,15,16,17,18,19,123] [(.pt 0 []),(.pt 1 []),(.pt 2 []),.u32,.u32,.u32,.u32,.u32,.u32,.u32,.u32,.i] [.blk 260 Qb,.blk 312 Qy,.blk 257 (.ar 8 .u32)] [0,11,12,13,14,15,16,17,18,19] [(.pt 0 []),(.pt 1 []),.u32,.u32,.u32,.u32,.u32,.u32,.u32,.u32] [.blk 260 Qb,.blk 257 (.ar 8 .u32)] F (fun x y (s:UInt32×UInt32×UInt32×UInt32×UInt32×UInt32×UInt32×UInt32×Int)=>((),(),(),s.1,s.2.1,s.2.2.1,s.2.2.2.1,s.2.2.2.2.1,s.2.2.2.2.2.1,s.2.2.2.2.2.2.1,s.2.2.2.2.2.2.2.1,s.2.2.2.2.2.2.2.2,())) (fun x y s=>((y.1.1,y.1.2.1,y.1.2.2.1,()),y.2.1,y.2.2.1,())) (fun x y=>(x.2.2.2.1,x.2.2.2.2.1,x.2.2.2.2.2.1,x.2.2.2.2.2.2.1,x.2.2.2.2.2.2.2.1,x.2.2.2.2.2.2.2.2.1,x.2.2.2.2.2.2.2.2.2.1,x.2.2.2.2.2.2.2.2.2.2.1,x.2.2.2.2.2.2.2.2.2.2.2.1)) (fun x y (z:UInt32×UInt32×UInt32×UInt32×UInt32×UInt32×UInt32×UInt32)=>(((),(),z.1,z.2.1,z.2.2.1,z.2.2.2.1,z.2.2.2.2.1,z.2.2.2.2.2.1,z.2.2.2.2.2.2.1,z.2.2.2.2.2.2.2,()),((y.1.1,y.1.2.1,y.1.2.2.1,()),y.2.2.1,()))) (fun x y s _ kA kO=>SJ F y.2.1 s.1 s.2.1 s.2.2.1 s.2.2.2.1 s.2.2.2.2.1 s.2.2.2.2.2.1 s.2.2.2.2.2.2.1 s.2.2.2.2.2.2.2.1 s.2.2.2.2.2.2.2.2 kA kO) (fun _ _ _ _ _ _=>by simp only [SJ,oA,oC,oS,oN,aU,aT,ah]) (by kernel_rfl) (by kernel_rfl) (fun _ _ _=>by kernel_rfl)
def Ok (F:Nat) (kU:Vector UInt32 8) (uZ:Vector UInt32 8) (t_:Int) (FX:Vector UInt32 8) {β:Type} (kA:(Int×Ze)->Option β) (kO:(Ze)->Option β):Option β:=
 (bif (decide (t_ < (8:Int))) then ((dc kU t_).bind fun ale=>((an 8 t_).bind fun sE=>((aA uZ sE).bind fun B3=>((an 8 t_).bind fun DU=>(kA ((ag (t_ + (1:Int))),(Vector.setIfInBounds FX DU (B3 + ale)))))))) else (kO FX))
def akv (F:Nat) (kU:Vector UInt32 8) (uZ:Vector UInt32 8) (t_:Int) (FX:Vector UInt32 8):=Ok F kU uZ t_ FX (fun s=>some (Sum.inl s)) (fun z=>some (Sum.inr z))
def ajr (F:Nat):LB (Ga F) 1 Tryz.f161:=
 bH st ai [] [1,1,1,1,1,1] 4 [0,11,196,197] [(.pt 0 []),(.pt 1 []),(.ar 8 .u32),.i] [.blk 260 Qb,.blk 257 (.ar 8 .u32)] [] [] [.blk 260 Qb] F (fun x y (s:Int×Ze)=>((),(),x.2.2.1,s.1,())) (fun x y s=>((s.2,y.1.2.1,y.1.2.2.1,()),y.2.1,())) (fun x y=>(x.2.2.2.1,y.1.1)) (fun x y (z:Ze)=>((),((z,y.1.2.1,y.1.2.2.1,()),()))) (fun x y s _ kA kO=>Ok F x.2.2.1 y.2.1 s.1 s.2 kA kO) (fun _ _ _ _ _ _=>by simp only [Ok,oA,oC,oS,oN,aU,aT,ah]) (by kernel_rfl) (by kernel_rfl) (fun _ _ _=>by kernel_rfl)
def Jn (F:Nat) (p0:Nat×Nat) (p1:Vector UInt32 8) (p2:Vector UInt8 64) {β:Type} (k:(Ze)->Option β):Option β:=
 ((iter (fun s=>vC F p2 s.1 s.2.1 s.2.2) F ((p0.1,p0.2),(0:Int),(Vector.replicate 64 (0:UInt32)))).bind fun amQ=>((aA p1 0).bind fun zJ=>((aA p1 1).bind fun DL=>((aA p1 2).bind fun A6=>((aA p1 3).bind fun Tm=>((aA p1 4).bind fun AB=>((aA p1 5).bind fun Bg=>((aA p1 6).bind fun ur=>((aA p1 7).bind fun tZ=>((iter (fun s=>aqv F amQ s.1 s.2.1 s.2.2.1 s.2.2.2.1 s.2.2.2.2.1 s.2.2.2.2.2.1 s.2.2.2.2.2.2.1 s.2.2.2.2.2.2.2.1 s.2.2.2.2.2.2.2.2) F (zJ,DL,A6,Tm,AB,Bg,ur,tZ,(0:Int))).bind fun nv=>((iter (fun s=>akv F (#v[nv.1,nv.2.1,nv.2.2.1,nv.2.2.2.1,nv.2.2.2.2.1,nv.2.2.2.2.2.1,nv.2.2.2.2.2.2.1,nv.2.2.2.2.2.2.2]:Vector UInt32 8) p1 s.1 s.2) F ((0:Int),p1)).bind fun agU=>(k agU))))))))))))
def GA (F:Nat) (p0:Nat×Nat) (p1:Vector UInt32 8) (p2:Vector UInt8 64):=Jn F p0 p1 p2 some
def amy (F:Nat):BN:=
 aq (E:=Ga F) st Tryz.func161 ai 1 [ac0 F,ad_ F,ajr F] [(.pt 0 []),(.ap 0 [1])] [.blk 260 Qb] [] [.blk 260 Qb] (fun x y (z:Ze)=>((),((z,y.1.2.1,y.1.2.2.1,()),()))) (fun x y _ k=>Jn F x.2.1 y.1.1 y.1.2.1 k) (fun _ _ _ _=>by simp only [Jn,oA,oC,oS,oN,ah]) (by kernel_rfl) (fun _ _=>by kernel_rfl)
def aln:Nat->List (Tag×Nat)
 | 6=>[(.p,0),(.p,1),(.p,2),(.r,3),(.p,4),(.p,5),(.p,6),(.p,7),(.r,8),(.p,9),(.p,10),(.p,11),(.p,12),(.p,13),(.r,14),(.p,15),(.p,16),(.p,17),(.p,18),(.p,19),(.r,20),(.p,21),(.p,22),(.p,23),(.w,24)]
 | 7=>[(.p,0),(.p,1),(.p,2),(.r,3),(.p,4),(.p,5),(.p,6),(.r,7),(.p,8),(.p,9)]
 | 10=>[(.p,0),(.p,1),(.p,2),(.p,3),(.p,4),(.r,5),(.p,6),(.p,7),(.p,8),(.p,9),(.p,10),(.p,11),(.r,12),(.p,13),(.p,14),(.w,15)]
 | 13=>[(.p,0),(.r,1),(.p,2),(.r,3),(.p,4),(.r,5),(.p,6),(.r,7),(.p,8),(.r,9),(.p,10),(.r,11),(.p,12),(.r,13),(.p,14),(.r,15),(.p,16),(.p,17),(.p,18),(.p,19),(.p,20),(.p,21),(.p,22),(.p,23)]
 | 19=>[(.p,0),(.p,1),(.p,2),(.p,3),(.p,4),(.p,5),(.p,6),(.p,7),(.p,8),(.p,9),(.p,10),(.p,11),(.p,12),(.p,13),(.r,14),(.p,15),(.p,16),(.p,17),(.r,18),(.p,19),(.p,20)]
 | 26=>[(.p,0),(.p,1),(.p,2),(.p,3),(.r,4),(.p,5),(.p,6),(.p,7),(.p,8),(.p,9),(.w,10)]
 | _=>[]
def JB (F:Nat):Ev:=ev 212 [DY F] aln
def Ef (F:Nat) (rQ:List UInt8) (fX:Int) (pT:Vector UInt32 64) {β:Type} (kA:(Int×Zp)->Option β) (kO:(Zp)->Option β):Option β:=
 (bif (decide (fX < (64:Int))) then (bif (decide (fX < (16:Int))) then ((bk rQ (ag ((4:Int) * fX)) (ag ((ag ((4:Int) * fX)) + (4:Int)))).bind fun zA=>((ix zA (0:Int)).bind fun MN=>((ix zA (1:Int)).bind fun SC=>((ix zA (2:Int)).bind fun D8=>((ix zA (3:Int)).bind fun jS=>((an 64 fX).bind fun yK=>(kA ((ag (fX + (1:Int))),(Vector.setIfInBounds pT yK ((((ey (MN.toUInt32) ((UInt64.ofNat 24).toNat)) ||| (ey (SC.toUInt32) ((UInt64.ofNat 16).toNat))) ||| (ey (D8.toUInt32) ((UInt64.ofNat 8).toNat))) ||| (jS.toUInt32))))))))))) else ((an 64 (ag (fX - (2:Int)))).bind fun JJ=>((aA pT JJ).bind fun uY=>((an 64 (ag (fX - (15:Int)))).bind fun rH=>((aA pT rH).bind fun uw=>((bc F uY (-17:Int)).bind fun asn=>((bc F uY (-19:Int)).bind fun akd=>((bc F uw (-7:Int)).bind fun an8=>((bc F uw (-18:Int)).bind fun alD=>((an 64 (ag (fX - (7:Int)))).bind fun vn=>((aA pT vn).bind fun Ch=>((an 64 (ag (fX - (16:Int)))).bind fun fZ=>((aA pT fZ).bind fun yo=>((an 64 fX).bind fun ph=>(kA ((ag (fX + (1:Int))),(Vector.setIfInBounds pT ph (((((asn ^^^ akd) ^^^ (cn uY ((UInt64.ofNat 10).toNat))) + Ch) + ((an8 ^^^ alD) ^^^ (cn uw ((UInt64.ofNat 3).toNat)))) + yo)))))))))))))))))) else (kO pT))
def ol (F:Nat) (rQ:List UInt8) (fX:Int) (pT:Vector UInt32 64):=Ef F rQ fX pT (fun s=>some (Sum.inl s)) (fun z=>some (Sum.inr z))
def arP (F:Nat):LB (JB F) 1 Tryz.f161:=
 bH st ai [] [1,0,1] 0 [0,1,4,27] [(.pt 0 []),(.ro .u8),(.pt 1 []),.i] [.blk 260 Qb,.blk 312 Qy] [0,4] [(.pt 0 []),(.pt 1 [])] [.blk 260 Qb,.blk 312 Qy] F (fun x y (s:Int×Zp)=>((),x.2.1,(),s.1,())) (fun x y s=>((y.1.1,y.1.2.1,y.1.2.2.1,()),s.2,())) (fun x y=>(x.2.2.2.1,y.2.1)) (fun x y (z:Zp)=>(((),(),()),((y.1.1,y.1.2.1,y.1.2.2.1,()),z,()))) (fun x y s _ kA kO=>Ef F x.2.1 s.1 s.2 kA kO) (fun _ _ _ _ _ _=>by simp only [Ef,oA,oC,oS,oN,aU,aT,ah]) (by kernel_rfl) (by kernel_rfl) (fun _ _ _=>by kernel_rfl)
def GB (F:Nat) (n5:Vector UInt32 64) (oK:UInt32) (wN:UInt32) (yy:UInt32) (Jx:UInt32) (fP:UInt32) (ku:UInt32) (j5:UInt32) (om:UInt32) (iq:Int) {β:Type} (kA:Zo->Option β) (kO:Zr->Option β):Option β:=
 (bif (decide (iq < (64:Int))) then ((bc F fP (-6:Int)).bind fun X9=>((bc F fP (-11:Int)).bind fun XW=>((bc F fP (-25:Int)).bind fun zG=>((bc F oK (-2:Int)).bind fun Ti=>((bc F oK (-13:Int)).bind fun Dx=>((bc F oK (-22:Int)).bind fun gQ=>((dc (iD) iq).bind fun UR=>((an 64 iq).bind fun O4=>((aA n5 O4).bind fun EE=>(kA ((((((om + ((X9 ^^^ XW) ^^^ zG)) + ((fP &&& ku) ^^^ ((~~~fP) &&& j5))) + UR) + EE) + (((Ti ^^^ Dx) ^^^ gQ) + (((oK &&& wN) ^^^ (oK &&& yy)) ^^^ (wN &&& yy)))),oK,wN,yy,(Jx + ((((om + ((X9 ^^^ XW) ^^^ zG)) + ((fP &&& ku) ^^^ ((~~~fP) &&& j5))) + UR) + EE)),fP,ku,j5,(ag (iq + (1:Int)))))))))))))) else (kO (oK,wN,yy,Jx,fP,ku,j5,om)))
def zK (F:Nat) (n5:Vector UInt32 64) (oK:UInt32) (wN:UInt32) (yy:UInt32) (Jx:UInt32) (fP:UInt32) (ku:UInt32) (j5:UInt32) (om:UInt32) (iq:Int):=GB F n5 oK wN yy Jx fP ku j5 om iq (fun s=>some (Sum.inl s)) (fun z=>some (Sum.inr z))
def ag9 (F:Nat):LB (JB F) 1 Tryz.f161:=
 bH st ai [] [1,0,1,1,1,1] 2 [0,4,11,12,13,14,15,16,17,18,19,123] [(.pt 0 []),(.pt 1 []),(.pt 2 []),.u32,.u32,.u32,.u32,.u32,.u32,.u32,.u32,.i] [.blk 260 Qb,.blk 312 Qy,.blk 257 (.ar 8 .u32)] [0,11,12,13,14,15,16,17,18,19] [(.pt 0 []),(.pt 1 []),.u32,.u32,.u32,.u32,.u32,.u32,.u32,.u32] [.blk 260 Qb,.blk 257 (.ar 8 .u32)] F (fun x y (s:UInt32×UInt32×UInt32×UInt32×UInt32×UInt32×UInt32×UInt32×Int)=>((),(),(),s.1,s.2.1,s.2.2.1,s.2.2.2.1,s.2.2.2.2.1,s.2.2.2.2.2.1,s.2.2.2.2.2.2.1,s.2.2.2.2.2.2.2.1,s.2.2.2.2.2.2.2.2,())) (fun x y s=>((y.1.1,y.1.2.1,y.1.2.2.1,()),y.2.1,y.2.2.1,())) (fun x y=>(x.2.2.2.1,x.2.2.2.2.1,x.2.2.2.2.2.1,x.2.2.2.2.2.2.1,x.2.2.2.2.2.2.2.1,x.2.2.2.2.2.2.2.2.1,x.2.2.2.2.2.2.2.2.2.1,x.2.2.2.2.2.2.2.2.2.2.1,x.2.2.2.2.2.2.2.2.2.2.2.1)) (fun x y (z:UInt32×UInt32×UInt32×UInt32×UInt32×UInt32×UInt32×UInt32)=>(((),(),z.1,z.2.1,z.2.2.1,z.2.2.2.1,z.2.2.2.2.1,z.2.2.2.2.2.1,z.2.2.2.2.2.2.1,z.2.2.2.2.2.2.2,()),((y.1.1,y.1.2.1,y.1.2.2.1,()),y.2.2.1,()))) (fun x y s _ kA kO=>GB F y.2.1 s.1 s.2.1 s.2.2.1 s.2.2.2.1 s.2.2.2.2.1 s.2.2.2.2.2.1 s.2.2.2.2.2.2.1 s.2.2.2.2.2.2.2.1 s.2.2.2.2.2.2.2.2 kA kO) (fun _ _ _ _ _ _=>by simp only [GB,oA,oC,oS,oN,aU,aT,ah]) (by kernel_rfl) (by kernel_rfl) (fun _ _ _=>by kernel_rfl)
def Js (F:Nat) (gZ:Vector UInt32 8) (jG:Vector UInt32 8) (uP:Int) (Ho:Vector UInt32 8) {β:Type} (kA:(Int×Ze)->Option β) (kO:(Ze)->Option β):Option β:=
 (bif (decide (uP < (8:Int))) then ((dc gZ uP).bind fun ai2=>((an 8 uP).bind fun am_=>((aA jG am_).bind fun JQ=>((an 8 uP).bind fun QC=>(kA ((ag (uP + (1:Int))),(Vector.setIfInBounds Ho QC (JQ + ai2)))))))) else (kO Ho))
def CD (F:Nat) (gZ:Vector UInt32 8) (jG:Vector UInt32 8) (uP:Int) (Ho:Vector UInt32 8):=Js F gZ jG uP Ho (fun s=>some (Sum.inl s)) (fun z=>some (Sum.inr z))
def alB (F:Nat):LB (JB F) 1 Tryz.f161:=
 bH st ai [] [1,1,1,1,1,1] 4 [0,11,196,197] [(.pt 0 []),(.pt 1 []),(.ar 8 .u32),.i] [.blk 260 Qb,.blk 257 (.ar 8 .u32)] [] [] [.blk 260 Qb] F (fun x y (s:Int×Ze)=>((),(),x.2.2.1,s.1,())) (fun x y s=>((s.2,y.1.2.1,y.1.2.2.1,()),y.2.1,())) (fun x y=>(x.2.2.2.1,y.1.1)) (fun x y (z:Ze)=>((),((z,y.1.2.1,y.1.2.2.1,()),()))) (fun x y s _ kA kO=>Js F x.2.2.1 y.2.1 s.1 s.2 kA kO) (fun _ _ _ _ _ _=>by simp only [Js,oA,oC,oS,oN,aU,aT,ah]) (by kernel_rfl) (by kernel_rfl) (fun _ _ _=>by kernel_rfl)
def Cz (F:Nat) (p0:List UInt8) (p1:Vector UInt32 8) {β:Type} (k:(Ze)->Option β):Option β:=
 ((iter (fun s=>ol F p0 s.1 s.2) F ((0:Int),(Vector.replicate 64 (0:UInt32)))).bind fun apb=>((aA p1 0).bind fun mB=>((aA p1 1).bind fun oy=>((aA p1 2).bind fun mz=>((aA p1 3).bind fun uL=>((aA p1 4).bind fun tI=>((aA p1 5).bind fun o6=>((aA p1 6).bind fun B_=>((aA p1 7).bind fun tG=>((iter (fun s=>zK F apb s.1 s.2.1 s.2.2.1 s.2.2.2.1 s.2.2.2.2.1 s.2.2.2.2.2.1 s.2.2.2.2.2.2.1 s.2.2.2.2.2.2.2.1 s.2.2.2.2.2.2.2.2) F (mB,oy,mz,uL,tI,o6,B_,tG,(0:Int))).bind fun nI=>((iter (fun s=>CD F (#v[nI.1,nI.2.1,nI.2.2.1,nI.2.2.2.1,nI.2.2.2.2.1,nI.2.2.2.2.2.1,nI.2.2.2.2.2.2.1,nI.2.2.2.2.2.2.2]:Vector UInt32 8) p1 s.1 s.2) F ((0:Int),p1)).bind fun Tu=>(k Tu))))))))))))
def yA (F:Nat) (p0:List UInt8) (p1:Vector UInt32 8):=Cz F p0 p1 some
def alP (F:Nat):BN:=
 aq (E:=JB F) st Tryz.func161 ai 1 [arP F,ag9 F,alB F] [(.pt 0 []),(.ro .u8)] [.blk 260 Qb] [] [.blk 260 Qb] (fun x y (z:Ze)=>((),((z,y.1.2.1,y.1.2.2.1,()),()))) (fun x y _ k=>Cz F x.2.1 y.1.1 k) (fun _ _ _ _=>by simp only [Cz,oA,oC,oS,oN,ah]) (by kernel_rfl) (fun _ _=>by kernel_rfl)
def P_ (F:Nat):Ev:=ev 57 [amy F,alP F] (fun _=>[])
def yg (F:Nat) (j0:List UInt8) (oM:Int) (dW:Bool) (kH:Vector UInt32 8) (fJ:Vector UInt8 64) {β:Type} (kO:(Za×Ze×Zh)->Option β) (kR:(Zh)->Option β):Option β:=
 (bif dW then ((bW 64 oM ((64:Nat):Int)).bind fun f9=>((bk j0 ((Nat.min j0.length (f9.2 - f9.1)):Int) (j0.length:Int)).bind fun C8=>(bif (decide ((ag (oM + ((Nat.min j0.length (f9.2 - f9.1)):Int))) < (64:Int))) then (kR (dV fJ f9.1 j0 (Nat.min j0.length (f9.2 - f9.1)))) else ((bW 64 (0:Int) ((64:Nat):Int)).bind fun WG=>((GA F (WG.1,WG.2) kH (dV fJ f9.1 j0 (Nat.min j0.length (f9.2 - f9.1)))).bind fun z41=>(kO (C8,z41,(dV fJ f9.1 j0 (Nat.min j0.length (f9.2 - f9.1)))))))))) else (kO (j0,kH,fJ)))
def tC (F:Nat) (j0:List UInt8) (oM:Int) (dW:Bool) (kH:Vector UInt32 8) (fJ:Vector UInt8 64):Option ((Za×Ze×Zh) ⊕ (Zh)):=yg F j0 oM dW kH fJ (fun z=>some (.inl z)) (fun z=>some (.inr z))
def aqT (F:Nat):LB (P_ F) 1 Tryz.f128:=
 Vn st ai [] [1,0,1,1] [0,1,4,21] [(.pt 0 []),(.ro .u8),.i,.bo] [.blk 260 Qb] [0,1] [(.pt 0 []),(.ro .u8)] [.blk 260 Qb] [] [] [.blk 260 Qb] (fun x y (z:Za×Ze×Zh)=>(((),z.1,()),((z.2.1,z.2.2,y.1.2.2.1,()),()))) (fun x y (z:Zh)=>((),((y.1.1,z,y.1.2.2.1,()),()))) (fun x y _ kO kR=>yg F x.2.1 x.2.2.1 x.2.2.2.1 y.1.1 y.1.2.1 kO kR) (fun _ _ _ _ _=>by simp only [yg,oA,oC,oS,oN,aU,aT,ah]) (by kernel_rfl) (fun _ _=>by kernel_rfl)
def Dw (F:Nat) (fV:List UInt8) (nw:Vector UInt32 8) {β:Type} (kA:(Za×Ze)->Option β) (kO:(Za×Ze)->Option β):Option β:=
 (bif (decide ((64:Int)≤(fV.length:Int))) then ((bk fV (0:Int) (64:Int)).bind fun Bj=>((yA F Bj nw).bind fun TS=>((bk fV (64:Int) (fV.length:Int)).bind fun vO=>(kA (vO,TS))))) else (kO (fV,nw)))
def o_ (F:Nat) (fV:List UInt8) (nw:Vector UInt32 8):=Dw F fV nw (fun s=>some (Sum.inl s)) (fun z=>some (Sum.inr z))
def ai4 (F:Nat):LB (P_ F) 1 Tryz.f128:=
 bH st ai [] [0,1,1,1] 0 [0,1] [(.pt 0 []),(.ro .u8)] [.blk 260 Qb] [0,1] [(.pt 0 []),(.ro .u8)] [.blk 260 Qb] F (fun x y (s:Za×Ze)=>((),s.1,())) (fun x y s=>((s.2,y.1.2.1,y.1.2.2.1,()),())) (fun x y=>(x.2.1,y.1.1)) (fun x y (z:Za×Ze)=>(((),z.1,()),((z.2,y.1.2.1,y.1.2.2.1,()),()))) (fun x y s _ kA kO=>Dw F s.1 s.2 kA kO) (fun _ _ _ _ _ _=>by simp only [Dw,oA,oC,oS,oN,aU,aT,ah]) (by kernel_rfl) (by kernel_rfl) (fun _ _ _=>by kernel_rfl)
def xm (F:Nat) (p0:List UInt8) (p1:Vector UInt32 8) (p2:Vector UInt8 64) (p3:Int) {β:Type} (k:(Ze×Zh×Int)->Option β):Option β:=
 ((tC F p0 (Int.tmod p3 (64:Int)) (decide ((0:Int) < (Int.tmod p3 (64:Int)))) p1 p2).bind fun vH=>bz (fun vH=>((iter (fun s=>o_ F s.1 s.2) F (vH.1,vH.2.1)).bind fun nX=>((bW 64 (0:Int) ((64:Nat):Int)).bind fun lO=>(k (nX.2,(dV vH.2.2 lO.1 nX.1 (Nat.min nX.1.length (lO.2 - lO.1))),(ag (p3 + (p0.length:Int)))))))) (fun vH=>(k (p1,vH,(ag (p3 + (p0.length:Int)))))) vH)
def nZ (F:Nat) (p0:List UInt8) (p1:Vector UInt32 8) (p2:Vector UInt8 64) (p3:Int):=xm F p0 p1 p2 p3 some
def Em (F:Nat):BN:=
 aq (E:=P_ F) st Tryz.func128 ai 1 [aqT F,ai4 F] [(.pt 0 []),(.ro .u8)] [.blk 260 Qb] [] [.blk 260 Qb] (fun x y (z:Ze×Zh×Int)=>((),((z.1,z.2.1,z.2.2,()),()))) (fun x y _ k=>xm F x.2.1 y.1.1 y.1.2.1 y.1.2.2.1 k) (fun _ _ _ _=>by simp only [xm,oA,oC,oS,oN,ah]) (by kernel_rfl) (fun _ _=>by kernel_rfl)
def Gb (F:Nat):Ev:=ev 68 [Em F] (fun _=>[])
def De (F:Nat) (dW:Ze×Zh×Int×Unit) (fh:List UInt8) {β:Type} (kA:(Za)->Option β) (kO:(Za)->Option β):Option β:=
 (bif ((Int.tmod (ag (dW.2.2.1 + (fh.length:Int))) (64:Int)) != (56:Int)) then ((aD fh ([(UInt8.ofNat 0)]:List UInt8)).bind fun BF=>(kA BF)) else (kO fh))
def BB (F:Nat) (dW:Ze×Zh×Int×Unit) (fh:List UInt8):=De F dW fh (fun s=>some (Sum.inl s)) (fun z=>some (Sum.inr z))
def agW (F:Nat):LB (Gb F) 0 Tryz.f129:=
 bH st ai [] [0,1,1,1] 0 [0,3,4] [(.re (.pr (.ar 8 .u32) (.pr (.ar 64 .u8) (.pr .i .un)))),(.pt 0 []),(.rw 1)] [.blk 260 Qb,.row 5 .u8] [0,3,4] [(.re (.pr (.ar 8 .u32) (.pr (.ar 64 .u8) (.pr .i .un)))),(.pt 0 []),(.rw 1)] [.blk 260 Qb,.row 5 .u8] F (fun x y (s:Za)=>(x.1,(),(),())) (fun x y s=>((y.1.1,y.1.2.1,y.1.2.2.1,()),s,())) (fun x y=>y.2.1) (fun x y (z:Za)=>((x.1,(),(),()),((y.1.1,y.1.2.1,y.1.2.2.1,()),z,()))) (fun x y s _ kA kO=>De F x.1 s kA kO) (fun _ _ _ _ _ _=>by simp only [De,oA,oC,oS,oN,aU,aT,ah]) (by kernel_rfl) (by kernel_rfl) (fun _ _ _=>by kernel_rfl)
def AW (F:Nat) (eS:UInt64) (kG:Int) (fV:List UInt8) {β:Type} (kA:Zm->Option β) (kO:(Za)->Option β):Option β:=
 (bif (decide ((0:Int)≤kG)) then ((cX kG).bind fun x46=>((aD fV ([((cY eS x46).toUInt8)]:List UInt8)).bind fun x47=>(kA ((ag (kG - (8:Int))),x47)))) else (kO fV))
def Cj (F:Nat) (eS:UInt64) (kG:Int) (fV:List UInt8):=AW F eS kG fV (fun s=>some (Sum.inl s)) (fun z=>some (Sum.inr z))
def adG (F:Nat):LB (Gb F) 0 Tryz.f129:=
 bH st ai [] [1,0,1,1,1,1,1] 2 [3,4,5,6] [(.pt 0 []),(.rw 1),.u64,.i] [.blk 260 Qb,.row 5 .u8] [3,4] [(.pt 0 []),(.rw 1)] [.blk 260 Qb,.row 5 .u8] F (fun x y (s:Int×Za)=>((),(),x.2.2.1,s.1,())) (fun x y s=>((y.1.1,y.1.2.1,y.1.2.2.1,()),s.2,())) (fun x y=>(x.2.2.2.1,y.2.1)) (fun x y (z:Za)=>(((),(),()),((y.1.1,y.1.2.1,y.1.2.2.1,()),z,()))) (fun x y s _ kA kO=>AW F x.2.2.1 s.1 s.2 kA kO) (fun _ _ _ _ _ _=>by simp only [AW,oA,oC,oS,oN,aU,aT,ah]) (by kernel_rfl) (by kernel_rfl) (fun _ _ _=>by kernel_rfl)
def Li (F:Nat) (mo:Vector UInt32 8) (gS:Int) (iU:List UInt8) {β:Type} (kA:Zm->Option β) (kO:(Za)->Option β):Option β:=
 (bif (decide (gS < (8:Int))) then ((dc mo gS).bind fun nO=>((aD iU ([((cn nO ((UInt64.ofNat 24).toNat)).toUInt8),((cn nO ((UInt64.ofNat 16).toNat)).toUInt8),((cn nO ((UInt64.ofNat 8).toNat)).toUInt8),(nO.toUInt8)]:List UInt8)).bind fun Mg=>(kA ((ag (gS + (1:Int))),Mg)))) else (kO iU))
def HD (F:Nat) (mo:Vector UInt32 8) (gS:Int) (iU:List UInt8):=Li F mo gS iU (fun s=>some (Sum.inl s)) (fun z=>some (Sum.inr z))
def apG (F:Nat):LB (Gb F) 0 Tryz.f129:=
 bH st ai [] [1,0,1,1,1,1,1,1,1,1] 4 [7,47,48] [(.rw 0),(.ar 8 .u32),.i] [.row 5 .u8] [7] [(.rw 0)] [.row 5 .u8] F (fun x y (s:Int×Za)=>((),x.2.1,s.1,())) (fun x y s=>(s.2,())) (fun x y=>(x.2.2.1,y.1)) (fun x y (z:Za)=>(((),()),(z,()))) (fun x y s _ kA kO=>Li F x.2.1 s.1 s.2 kA kO) (fun _ _ _ _ _ _=>by simp only [Li,oA,oC,oS,oN,aU,aT,ah]) (by kernel_rfl) (by kernel_rfl) (fun _ _ _=>by kernel_rfl)
def GW (F:Nat) (p0:Ze×Zh×Int×Unit) {β:Type} (k:(Za)->Option β):Option β:=
 ((iter (fun s=>BB F p0 s) F ([(UInt8.ofNat 128)]:List UInt8)).bind fun Mi=>((iter (fun s=>Cj F ((UInt64.ofInt p0.2.2.1) * (UInt64.ofNat 8)) s.1 s.2) F ((56:Int),Mi)).bind fun MU=>((nZ F MU p0.1 p0.2.1 p0.2.2.1).bind fun D6=>((cw (0:UInt8) (0:Int) (32:Int)).bind fun Bj=>((iter (fun s=>HD F D6.1 s.1 s.2) F ((0:Int),Bj)).bind fun tQ=>(k tQ))))))
def yG (F:Nat) (p0:Ze×Zh×Int×Unit):=GW F p0 some
def LM (F:Nat):BN:=
 aq (E:=Gb F) st Tryz.func129 ai 0 [agW F,adG F,apG F] [(.re (.pr (.ar 8 .u32) (.pr (.ar 64 .u8) (.pr .i .un))))] [] [.str] [] (fun x y (z:Za)=>((z,()),())) (fun x y _ k=>GW F x.1 k) (fun _ _ _ _=>by simp only [GW,oA,oC,oS,oN,ah]) (by kernel_rfl) (fun _ _=>by kernel_rfl)
def VC (F:Nat):Ev:=ev 20 [Hz F,Em F,LM F] (fun _=>[])
def BH (F:Nat) (ek:List Za) (dA:Int) (bN:Int) (dQ:Vector UInt32 8) (dP:Vector UInt8 64) (cP:Int) {β:Type} (kA:(Int×Ze×Zh×Int)->Option β) (kO:(Ze×Zh×Int)->Option β):Option β:=
 (bif (decide (bN < dA)) then ((ix ek bN).bind fun AK=>((p_ AK).bind fun gF=>((nZ F gF dQ dP cP).bind fun gr=>(kA ((ag (bN + (1:Int))),gr.1,gr.2.1,gr.2.2))))) else (kO (dQ,dP,cP)))
def K9 (F:Nat) (ek:List Za) (dA:Int) (bN:Int) (dQ:Vector UInt32 8) (dP:Vector UInt8 64) (cP:Int):=BH F ek dA bN dQ dP cP (fun s=>some (Sum.inl s)) (fun z=>some (Sum.inr z))
def akf (F:Nat):LB (VC F) 0 Tryz.f131:=
 bH st ai [] [1,0,1,1] 0 [3,7,8,9] [(.pt 0 []),(.ro .s),.i,.i] [.blk 260 Qb] [3] [(.pt 0 [])] [.blk 260 Qb] F (fun x y (s:Int×Ze×Zh×Int)=>((),x.2.1,x.2.2.1,s.1,())) (fun x y s=>((s.2.1,s.2.2.1,s.2.2.2,()),())) (fun x y=>(x.2.2.2.1,y.1.1,y.1.2.1,y.1.2.2.1)) (fun x y (z:Ze×Zh×Int)=>(((),()),((z.1,z.2.1,z.2.2,()),()))) (fun x y s _ kA kO=>BH F x.2.1 x.2.2.1 s.1 s.2.1 s.2.2.1 s.2.2.2 kA kO) (fun _ _ _ _ _ _=>by simp only [BH,oA,oC,oS,oN,aU,aT,ah]) (by kernel_rfl) (by kernel_rfl) (fun _ _ _=>by kernel_rfl)
def Lq (F:Nat) (p0:List Za) {β:Type} (k:(Za)->Option β):Option β:=
 ((nQ F).bind fun cq=>((iter (fun s=>K9 F p0 (p0.length:Int) s.1 s.2.1 s.2.2.1 s.2.2.2) F ((0:Int),cq.1,cq.2.1,cq.2.2)).bind fun mT=>((yG F (mT.1,mT.2.1,mT.2.2,())).bind fun lU=>(k lU))))
def CA (F:Nat) (p0:List Za):=Lq F p0 some
def ON (F:Nat):BN:=
 aq (E:=VC F) st Tryz.func131 ai 0 [akf F] [(.ro .s)] [] [.str] [] (fun x y (z:Za)=>((z,()),())) (fun x y _ k=>Lq F x.1 k) (fun _ _ _ _=>by simp only [Lq,oA,oC,oS,oN,ah]) (by kernel_rfl) (fun _ _=>by kernel_rfl)
def W0 (F:Nat):Ev:=ev 18 [] (fun _=>[])
def I5 (F:Nat) (bP:UInt8) (bw:Vector UInt8 64) (fF:Int) (ea:Vector UInt8 64) {β:Type} (kA:(Int×Zh)->Option β) (kO:(Zh)->Option β):Option β:=
 (bif (decide (fF < (64:Int))) then ((dc bw fF).bind fun gV=>((an 64 fF).bind fun j4=>(kA ((ag (fF + (1:Int))),(Vector.setIfInBounds ea j4 (gV ^^^ bP)))))) else (kO ea))
def Oz (F:Nat) (bP:UInt8) (bw:Vector UInt8 64) (fF:Int) (ea:Vector UInt8 64):=I5 F bP bw fF ea (fun s=>some (Sum.inl s)) (fun z=>some (Sum.inr z))
def amq (F:Nat):LB (W0 F) 0 Tryz.f199:=
 bH st ai [] [1,0,1] 0 [0,3,6,7] [.u8,(.pt 0 []),(.ar 64 .u8),.i] [.blk 258 (.ar 64 .u8)] [3] [(.pt 0 [])] [.blk 258 (.ar 64 .u8)] F (fun x y (s:Int×Zh)=>(x.1,(),x.2.2.1,s.1,())) (fun x y s=>(s.2,())) (fun x y=>(x.2.2.2.1,y.1)) (fun x y (z:Zh)=>(((),()),(z,()))) (fun x y s _ kA kO=>I5 F x.1 x.2.2.1 s.1 s.2 kA kO) (fun _ _ _ _ _ _=>by simp only [I5,oA,oC,oS,oN,aU,aT,ah]) (by kernel_rfl) (by kernel_rfl) (fun _ _ _=>by kernel_rfl)
def Ki (F:Nat) (p0:UInt8) (p1:Vector UInt8 64) {β:Type} (k:(Zh)->Option β):Option β:=
 ((iter (fun s=>Oz F p0 p1 s.1 s.2) F ((0:Int),(Vector.replicate 64 (0:UInt8)))).bind fun gU=>(k gU))
def nB (F:Nat) (p0:UInt8) (p1:Vector UInt8 64):=Ki F p0 p1 some
def aj8 (F:Nat):BN:=
 aq (E:=W0 F) st Tryz.func199 ai 0 [amq F] [.u8,(.re (.ar 64 .u8))] [] [(.ar 64 .u8)] [] (fun x y (z:Zh)=>((z,()),())) (fun x y _ k=>Ki F x.1 x.2.1 k) (fun _ _ _ _=>by simp only [Ki,oA,oC,oS,oN,ah]) (by kernel_rfl) (fun _ _=>by kernel_rfl)
def al7:Nat->List (Tag×Nat)
 | 6=>[(.p,0),(.p,1),(.p,2),(.r,3),(.p,4),(.p,5),(.p,6),(.p,7),(.r,8),(.p,9),(.p,10),(.p,11),(.p,12),(.p,13),(.r,14),(.p,15),(.p,16),(.p,17),(.p,18),(.p,19),(.r,20),(.p,21),(.p,22),(.p,23),(.w,24)]
 | 7=>[(.p,0),(.p,1),(.p,2),(.r,3),(.p,4),(.p,5),(.p,6),(.r,7),(.p,8),(.p,9)]
 | 10=>[(.p,0),(.p,1),(.p,2),(.p,3),(.p,4),(.r,5),(.p,6),(.p,7),(.p,8),(.p,9),(.p,10),(.p,11),(.r,12),(.p,13),(.p,14),(.w,15)]
 | 13=>[(.p,0),(.r,1),(.p,2),(.r,3),(.p,4),(.r,5),(.p,6),(.r,7),(.p,8),(.r,9),(.p,10),(.r,11),(.p,12),(.r,13),(.p,14),(.r,15),(.p,16),(.p,17),(.p,18),(.p,19),(.p,20),(.p,21),(.p,22),(.p,23)]
 | 19=>[(.p,0),(.p,1),(.p,2),(.p,3),(.p,4),(.p,5),(.p,6),(.p,7),(.p,8),(.p,9),(.p,10),(.p,11),(.p,12),(.p,13),(.r,14),(.p,15),(.p,16),(.p,17),(.r,18),(.p,19),(.p,20)]
 | 26=>[(.p,0),(.p,1),(.p,2),(.p,3),(.r,4),(.p,5),(.p,6),(.p,7),(.p,8),(.p,9),(.w,10)]
 | _=>[]
def JP (F:Nat):Ev:=ev 212 [DY F] al7
def TU (F:Nat) (wU:Vector UInt8 64) (eG:Nat×Nat) (jP:Int) (jd:Vector UInt32 64) {β:Type} (kA:((Nat×Nat)×Int×Zp)->Option β) (kO:(Zp)->Option β):Option β:=
 (bif (decide (jP < (64:Int))) then (bif (decide (jP < (16:Int))) then ((bW (eG.2 - eG.1) (ag ((4:Int) * jP)) (ag ((ag ((4:Int) * jP)) + (4:Int)))).bind fun fZ=>((an ((eG.1 + fZ.2) - (eG.1 + fZ.1)) (0:Int)).bind fun yo=>((aA wU ((eG.1 + fZ.1) + yo)).bind fun ph=>((an ((eG.1 + fZ.2) - (eG.1 + fZ.1)) (1:Int)).bind fun qc=>((aA wU ((eG.1 + fZ.1) + qc)).bind fun mB=>((an ((eG.1 + fZ.2) - (eG.1 + fZ.1)) (2:Int)).bind fun oy=>((aA wU ((eG.1 + fZ.1) + oy)).bind fun mz=>((an ((eG.1 + fZ.2) - (eG.1 + fZ.1)) (3:Int)).bind fun uL=>((aA wU ((eG.1 + fZ.1) + uL)).bind fun tI=>((an 64 jP).bind fun o6=>(kA ((eG.1,eG.2),(ag (jP + (1:Int))),(Vector.setIfInBounds jd o6 ((((ey (ph.toUInt32) ((UInt64.ofNat 24).toNat)) ||| (ey (mB.toUInt32) ((UInt64.ofNat 16).toNat))) ||| (ey (mz.toUInt32) ((UInt64.ofNat 8).toNat))) ||| (tI.toUInt32))))))))))))))) else ((an 64 (ag (jP - (2:Int)))).bind fun B_=>((aA jd B_).bind fun tG=>((an 64 (ag (jP - (15:Int)))).bind fun Tl=>((aA jd Tl).bind fun zy=>((bc F tG (-17:Int)).bind fun art=>((bc F tG (-19:Int)).bind fun aqz=>((bc F zy (-7:Int)).bind fun aeH=>((bc F zy (-18:Int)).bind fun agG=>((an 64 (ag (jP - (7:Int)))).bind fun zC=>((aA jd zC).bind fun Tv=>((an 64 (ag (jP - (16:Int)))).bind fun zJ=>((aA jd zJ).bind fun DL=>((an 64 jP).bind fun A6=>(kA ((eG.1,eG.2),(ag (jP + (1:Int))),(Vector.setIfInBounds jd A6 (((((art ^^^ aqz) ^^^ (cn tG ((UInt64.ofNat 10).toNat))) + Tv) + ((aeH ^^^ agG) ^^^ (cn zy ((UInt64.ofNat 3).toNat)))) + DL)))))))))))))))))) else (kO jd))
def aph (F:Nat) (wU:Vector UInt8 64) (eG:Nat×Nat) (jP:Int) (jd:Vector UInt32 64):=TU F wU eG jP jd (fun s=>some (Sum.inl s)) (fun z=>some (Sum.inr z))
def ara (F:Nat):LB (JP F) 1 Tryz.f161:=
 bH st ai [] [1,0,1] 0 [0,1,4,27] [(.pt 0 [0,0]),(.ap 0 [0,0,1]),(.pt 1 []),.i] [.blk 319 Qa,.blk 312 Qy] [0,4] [(.pt 0 [0,0]),(.pt 1 [])] [.blk 319 Qa,.blk 312 Qy] F (fun x y (s:(Nat×Nat)×Int×Zp)=>((),s.1,(),s.2.1,())) (fun x y s=>((((y.1.1.1.1,y.1.1.1.2.1,y.1.1.1.2.2.1,()),y.1.1.2.1,()),()),s.2.2,())) (fun x y=>(x.2.1,x.2.2.2.1,y.2.1)) (fun x y (z:Zp)=>(((),(),()),((((y.1.1.1.1,y.1.1.1.2.1,y.1.1.1.2.2.1,()),y.1.1.2.1,()),()),z,()))) (fun x y s _ kA kO=>TU F y.1.1.1.2.1 s.1 s.2.1 s.2.2 kA kO) (fun _ _ _ _ _ _=>by simp only [TU,oA,oC,oS,oN,aU,aT,ah]) (by kernel_rfl) (by kernel_rfl) (fun _ _ _=>by kernel_rfl)
def Pp (F:Nat) (gZ:Vector UInt32 64) (gj:UInt32) (kg:UInt32) (kC:UInt32) (mY:UInt32) (ic:UInt32) (xQ:UInt32) (xE:UInt32) (DM:UInt32) (m_:Int) {β:Type} (kA:Zo->Option β) (kO:Zr->Option β):Option β:=
 (bif (decide (m_ < (64:Int))) then ((bc F ic (-6:Int)).bind fun GI=>((bc F ic (-11:Int)).bind fun Xj=>((bc F ic (-25:Int)).bind fun Wz=>((bc F gj (-2:Int)).bind fun Tu=>((bc F gj (-13:Int)).bind fun nv=>((bc F gj (-22:Int)).bind fun air=>((dc (iD) m_).bind fun Ku=>((an 64 m_).bind fun OD=>((aA gZ OD).bind fun Ie=>(kA ((((((DM + ((GI ^^^ Xj) ^^^ Wz)) + ((ic &&& xQ) ^^^ ((~~~ic) &&& xE))) + Ku) + Ie) + (((Tu ^^^ nv) ^^^ air) + (((gj &&& kg) ^^^ (gj &&& kC)) ^^^ (kg &&& kC)))),gj,kg,kC,(mY + ((((DM + ((GI ^^^ Xj) ^^^ Wz)) + ((ic &&& xQ) ^^^ ((~~~ic) &&& xE))) + Ku) + Ie)),ic,xQ,xE,(ag (m_ + (1:Int)))))))))))))) else (kO (gj,kg,kC,mY,ic,xQ,xE,DM)))
def adn (F:Nat) (gZ:Vector UInt32 64) (gj:UInt32) (kg:UInt32) (kC:UInt32) (mY:UInt32) (ic:UInt32) (xQ:UInt32) (xE:UInt32) (DM:UInt32) (m_:Int):=Pp F gZ gj kg kC mY ic xQ xE DM m_ (fun s=>some (Sum.inl s)) (fun z=>some (Sum.inr z))
def ain (F:Nat):LB (JP F) 1 Tryz.f161:=
 bH st ai [] [1,0,1,1,1,1] 2 [0,4,11,12,13,14,15,16,17,18,19,123] [(.pt 0 [0,0]),(.pt 1 []),(.pt 2 []),.u32,.u32,.u32,.u32,.u32,.u32,.u32,.u32,.i] [.blk 319 Qa,.blk 312 Qy,.blk 257 (.ar 8 .u32)] [0,11,12,13,14,15,16,17,18,19] [(.pt 0 [0,0]),(.pt 1 []),.u32,.u32,.u32,.u32,.u32,.u32,.u32,.u32] [.blk 319 Qa,.blk 257 (.ar 8 .u32)] F (fun x y (s:UInt32×UInt32×UInt32×UInt32×UInt32×UInt32×UInt32×UInt32×Int)=>((),(),(),s.1,s.2.1,s.2.2.1,s.2.2.2.1,s.2.2.2.2.1,s.2.2.2.2.2.1,s.2.2.2.2.2.2.1,s.2.2.2.2.2.2.2.1,s.2.2.2.2.2.2.2.2,())) (fun x y s=>((((y.1.1.1.1,y.1.1.1.2.1,y.1.1.1.2.2.1,()),y.1.1.2.1,()),()),y.2.1,y.2.2.1,())) (fun x y=>(x.2.2.2.1,x.2.2.2.2.1,x.2.2.2.2.2.1,x.2.2.2.2.2.2.1,x.2.2.2.2.2.2.2.1,x.2.2.2.2.2.2.2.2.1,x.2.2.2.2.2.2.2.2.2.1,x.2.2.2.2.2.2.2.2.2.2.1,x.2.2.2.2.2.2.2.2.2.2.2.1)) (fun x y (z:UInt32×UInt32×UInt32×UInt32×UInt32×UInt32×UInt32×UInt32)=>(((),(),z.1,z.2.1,z.2.2.1,z.2.2.2.1,z.2.2.2.2.1,z.2.2.2.2.2.1,z.2.2.2.2.2.2.1,z.2.2.2.2.2.2.2,()),((((y.1.1.1.1,y.1.1.1.2.1,y.1.1.1.2.2.1,()),y.1.1.2.1,()),()),y.2.2.1,()))) (fun x y s _ kA kO=>Pp F y.2.1 s.1 s.2.1 s.2.2.1 s.2.2.2.1 s.2.2.2.2.1 s.2.2.2.2.2.1 s.2.2.2.2.2.2.1 s.2.2.2.2.2.2.2.1 s.2.2.2.2.2.2.2.2 kA kO) (fun _ _ _ _ _ _=>by simp only [Pp,oA,oC,oS,oN,aU,aT,ah]) (by kernel_rfl) (by kernel_rfl) (fun _ _ _=>by kernel_rfl)
def P2 (F:Nat) (uZ:Vector UInt32 8) (Mx:Vector UInt32 8) (s6:Int) (EN:Vector UInt32 8) {β:Type} (kA:(Int×Ze)->Option β) (kO:(Ze)->Option β):Option β:=
 (bif (decide (s6 < (8:Int))) then ((dc uZ s6).bind fun Ai=>((an 8 s6).bind fun F9=>((aA Mx F9).bind fun QH=>((an 8 s6).bind fun HJ=>(kA ((ag (s6 + (1:Int))),(Vector.setIfInBounds EN HJ (QH + Ai)))))))) else (kO EN))
def ak4 (F:Nat) (uZ:Vector UInt32 8) (Mx:Vector UInt32 8) (s6:Int) (EN:Vector UInt32 8):=P2 F uZ Mx s6 EN (fun s=>some (Sum.inl s)) (fun z=>some (Sum.inr z))
def agH (F:Nat):LB (JP F) 1 Tryz.f161:=
 bH st ai [] [1,1,1,1,1,1] 4 [0,11,196,197] [(.pt 0 [0,0]),(.pt 1 []),(.ar 8 .u32),.i] [.blk 319 Qa,.blk 257 (.ar 8 .u32)] [] [] [.blk 319 Qa] F (fun x y (s:Int×Ze)=>((),(),x.2.2.1,s.1,())) (fun x y s=>((((s.2,y.1.1.1.2.1,y.1.1.1.2.2.1,()),y.1.1.2.1,()),()),y.2.1,())) (fun x y=>(x.2.2.2.1,y.1.1.1.1)) (fun x y (z:Ze)=>((),((((z,y.1.1.1.2.1,y.1.1.1.2.2.1,()),y.1.1.2.1,()),()),()))) (fun x y s _ kA kO=>P2 F x.2.2.1 y.2.1 s.1 s.2 kA kO) (fun _ _ _ _ _ _=>by simp only [P2,oA,oC,oS,oN,aU,aT,ah]) (by kernel_rfl) (by kernel_rfl) (fun _ _ _=>by kernel_rfl)
def L6 (F:Nat) (p0:Nat×Nat) (p1:Vector UInt32 8) (p2:Vector UInt8 64) {β:Type} (k:(Ze)->Option β):Option β:=
 ((iter (fun s=>aph F p2 s.1 s.2.1 s.2.2) F ((p0.1,p0.2),(0:Int),(Vector.replicate 64 (0:UInt32)))).bind fun ao4=>((aA p1 0).bind fun AB=>((aA p1 1).bind fun Bg=>((aA p1 2).bind fun ur=>((aA p1 3).bind fun tZ=>((aA p1 4).bind fun CM=>((aA p1 5).bind fun D3=>((aA p1 6).bind fun DZ=>((aA p1 7).bind fun CT=>((iter (fun s=>adn F ao4 s.1 s.2.1 s.2.2.1 s.2.2.2.1 s.2.2.2.2.1 s.2.2.2.2.2.1 s.2.2.2.2.2.2.1 s.2.2.2.2.2.2.2.1 s.2.2.2.2.2.2.2.2) F (AB,Bg,ur,tZ,CM,D3,DZ,CT,(0:Int))).bind fun nq=>((iter (fun s=>ak4 F (#v[nq.1,nq.2.1,nq.2.2.1,nq.2.2.2.1,nq.2.2.2.2.1,nq.2.2.2.2.2.1,nq.2.2.2.2.2.2.1,nq.2.2.2.2.2.2.2]:Vector UInt32 8) p1 s.1 s.2) F ((0:Int),p1)).bind fun arB=>(k arB))))))))))))
def afO (F:Nat) (p0:Nat×Nat) (p1:Vector UInt32 8) (p2:Vector UInt8 64):=L6 F p0 p1 p2 some
def anp (F:Nat):BN:=
 aq (E:=JP F) st Tryz.func161 ai 1 [ara F,ain F,agH F] [(.pt 0 [0,0]),(.ap 0 [0,0,1])] [.blk 319 Qa] [] [.blk 319 Qa] (fun x y (z:Ze)=>((),((((z,y.1.1.1.2.1,y.1.1.1.2.2.1,()),y.1.1.2.1,()),()),()))) (fun x y _ k=>L6 F x.2.1 y.1.1.1.1 y.1.1.1.2.1 k) (fun _ _ _ _=>by simp only [L6,oA,oC,oS,oN,ah]) (by kernel_rfl) (fun _ _=>by kernel_rfl)
def am7:Nat->List (Tag×Nat)
 | 6=>[(.p,0),(.p,1),(.p,2),(.r,3),(.p,4),(.p,5),(.p,6),(.p,7),(.r,8),(.p,9),(.p,10),(.p,11),(.p,12),(.p,13),(.r,14),(.p,15),(.p,16),(.p,17),(.p,18),(.p,19),(.r,20),(.p,21),(.p,22),(.p,23),(.w,24)]
 | 7=>[(.p,0),(.p,1),(.p,2),(.r,3),(.p,4),(.p,5),(.p,6),(.r,7),(.p,8),(.p,9)]
 | 10=>[(.p,0),(.p,1),(.p,2),(.p,3),(.p,4),(.r,5),(.p,6),(.p,7),(.p,8),(.p,9),(.p,10),(.p,11),(.r,12),(.p,13),(.p,14),(.w,15)]
 | 13=>[(.p,0),(.r,1),(.p,2),(.r,3),(.p,4),(.r,5),(.p,6),(.r,7),(.p,8),(.r,9),(.p,10),(.r,11),(.p,12),(.r,13),(.p,14),(.r,15),(.p,16),(.p,17),(.p,18),(.p,19),(.p,20),(.p,21),(.p,22),(.p,23)]
 | 19=>[(.p,0),(.p,1),(.p,2),(.p,3),(.p,4),(.p,5),(.p,6),(.p,7),(.p,8),(.p,9),(.p,10),(.p,11),(.p,12),(.p,13),(.r,14),(.p,15),(.p,16),(.p,17),(.r,18),(.p,19),(.p,20)]
 | 26=>[(.p,0),(.p,1),(.p,2),(.p,3),(.r,4),(.p,5),(.p,6),(.p,7),(.p,8),(.p,9),(.w,10)]
 | _=>[]
def HG (F:Nat):Ev:=ev 212 [DY F] am7
def Of (F:Nat) (qY:List UInt8) (gI:Int) (dZ:Vector UInt32 64) {β:Type} (kA:(Int×Zp)->Option β) (kO:(Zp)->Option β):Option β:=
 (bif (decide (gI < (64:Int))) then (bif (decide (gI < (16:Int))) then ((bk qY (ag ((4:Int) * gI)) (ag ((ag ((4:Int) * gI)) + (4:Int)))).bind fun jS=>((ix jS (0:Int)).bind fun yK=>((ix jS (1:Int)).bind fun JJ=>((ix jS (2:Int)).bind fun uY=>((ix jS (3:Int)).bind fun rH=>((an 64 gI).bind fun uw=>(kA ((ag (gI + (1:Int))),(Vector.setIfInBounds dZ uw ((((ey (yK.toUInt32) ((UInt64.ofNat 24).toNat)) ||| (ey (JJ.toUInt32) ((UInt64.ofNat 16).toNat))) ||| (ey (uY.toUInt32) ((UInt64.ofNat 8).toNat))) ||| (rH.toUInt32))))))))))) else ((an 64 (ag (gI - (2:Int)))).bind fun sK=>((aA dZ sK).bind fun wE=>((an 64 (ag (gI - (15:Int)))).bind fun g_=>((aA dZ g_).bind fun oF=>((bc F wE (-17:Int)).bind fun ai7=>((bc F wE (-19:Int)).bind fun R5=>((bc F oF (-7:Int)).bind fun aiG=>((bc F oF (-18:Int)).bind fun aim=>((an 64 (ag (gI - (7:Int)))).bind fun ph=>((aA dZ ph).bind fun qc=>((an 64 (ag (gI - (16:Int)))).bind fun mB=>((aA dZ mB).bind fun oy=>((an 64 gI).bind fun mz=>(kA ((ag (gI + (1:Int))),(Vector.setIfInBounds dZ mz (((((ai7 ^^^ R5) ^^^ (cn wE ((UInt64.ofNat 10).toNat))) + qc) + ((aiG ^^^ aim) ^^^ (cn oF ((UInt64.ofNat 3).toNat)))) + oy)))))))))))))))))) else (kO dZ))
def aqA (F:Nat) (qY:List UInt8) (gI:Int) (dZ:Vector UInt32 64):=Of F qY gI dZ (fun s=>some (Sum.inl s)) (fun z=>some (Sum.inr z))
def aiw (F:Nat):LB (HG F) 1 Tryz.f161:=
 bH st ai [] [1,0,1] 0 [0,1,4,27] [(.pt 0 [0,0]),(.ro .u8),(.pt 1 []),.i] [.blk 319 Qa,.blk 312 Qy] [0,4] [(.pt 0 [0,0]),(.pt 1 [])] [.blk 319 Qa,.blk 312 Qy] F (fun x y (s:Int×Zp)=>((),x.2.1,(),s.1,())) (fun x y s=>((((y.1.1.1.1,y.1.1.1.2.1,y.1.1.1.2.2.1,()),y.1.1.2.1,()),()),s.2,())) (fun x y=>(x.2.2.2.1,y.2.1)) (fun x y (z:Zp)=>(((),(),()),((((y.1.1.1.1,y.1.1.1.2.1,y.1.1.1.2.2.1,()),y.1.1.2.1,()),()),z,()))) (fun x y s _ kA kO=>Of F x.2.1 s.1 s.2 kA kO) (fun _ _ _ _ _ _=>by simp only [Of,oA,oC,oS,oN,aU,aT,ah]) (by kernel_rfl) (by kernel_rfl) (fun _ _ _=>by kernel_rfl)
def RT (F:Nat) (nY:Vector UInt32 64) (fP:UInt32) (ku:UInt32) (j5:UInt32) (om:UInt32) (iq:UInt32) (xp:UInt32) (w8:UInt32) (D1:UInt32) (n5:Int) {β:Type} (kA:Zo->Option β) (kO:Zr->Option β):Option β:=
 (bif (decide (n5 < (64:Int))) then ((bc F iq (-6:Int)).bind fun gQ=>((bc F iq (-11:Int)).bind fun oY=>((bc F iq (-25:Int)).bind fun LP=>((bc F fP (-2:Int)).bind fun qa=>((bc F fP (-13:Int)).bind fun nI=>((bc F fP (-22:Int)).bind fun aj4=>((dc (iD) n5).bind fun HF=>((an 64 n5).bind fun akZ=>((aA nY akZ).bind fun WH=>(kA ((((((D1 + ((gQ ^^^ oY) ^^^ LP)) + ((iq &&& xp) ^^^ ((~~~iq) &&& w8))) + HF) + WH) + (((qa ^^^ nI) ^^^ aj4) + (((fP &&& ku) ^^^ (fP &&& j5)) ^^^ (ku &&& j5)))),fP,ku,j5,(om + ((((D1 + ((gQ ^^^ oY) ^^^ LP)) + ((iq &&& xp) ^^^ ((~~~iq) &&& w8))) + HF) + WH)),iq,xp,w8,(ag (n5 + (1:Int)))))))))))))) else (kO (fP,ku,j5,om,iq,xp,w8,D1)))
def aoX (F:Nat) (nY:Vector UInt32 64) (fP:UInt32) (ku:UInt32) (j5:UInt32) (om:UInt32) (iq:UInt32) (xp:UInt32) (w8:UInt32) (D1:UInt32) (n5:Int):=RT F nY fP ku j5 om iq xp w8 D1 n5 (fun s=>some (Sum.inl s)) (fun z=>some (Sum.inr z))
def ae6 (F:Nat):LB (HG F) 1 Tryz.f161:=
 bH st ai [] [1,0,1,1,1,1] 2 [0,4,11,12,13,14,15,16,17,18,19,123] [(.pt 0 [0,0]),(.pt 1 []),(.pt 2 []),.u32,.u32,.u32,.u32,.u32,.u32,.u32,.u32,.i] [.blk 319 Qa,.blk 312 Qy,.blk 257 (.ar 8 .u32)] [0,11,12,13,14,15,16,17,18,19] [(.pt 0 [0,0]),(.pt 1 []),.u32,.u32,.u32,.u32,.u32,.u32,.u32,.u32] [.blk 319 Qa,.blk 257 (.ar 8 .u32)] F (fun x y (s:UInt32×UInt32×UInt32×UInt32×UInt32×UInt32×UInt32×UInt32×Int)=>((),(),(),s.1,s.2.1,s.2.2.1,s.2.2.2.1,s.2.2.2.2.1,s.2.2.2.2.2.1,s.2.2.2.2.2.2.1,s.2.2.2.2.2.2.2.1,s.2.2.2.2.2.2.2.2,())) (fun x y s=>((((y.1.1.1.1,y.1.1.1.2.1,y.1.1.1.2.2.1,()),y.1.1.2.1,()),()),y.2.1,y.2.2.1,())) (fun x y=>(x.2.2.2.1,x.2.2.2.2.1,x.2.2.2.2.2.1,x.2.2.2.2.2.2.1,x.2.2.2.2.2.2.2.1,x.2.2.2.2.2.2.2.2.1,x.2.2.2.2.2.2.2.2.2.1,x.2.2.2.2.2.2.2.2.2.2.1,x.2.2.2.2.2.2.2.2.2.2.2.1)) (fun x y (z:UInt32×UInt32×UInt32×UInt32×UInt32×UInt32×UInt32×UInt32)=>(((),(),z.1,z.2.1,z.2.2.1,z.2.2.2.1,z.2.2.2.2.1,z.2.2.2.2.2.1,z.2.2.2.2.2.2.1,z.2.2.2.2.2.2.2,()),((((y.1.1.1.1,y.1.1.1.2.1,y.1.1.1.2.2.1,()),y.1.1.2.1,()),()),y.2.2.1,()))) (fun x y s _ kA kO=>RT F y.2.1 s.1 s.2.1 s.2.2.1 s.2.2.2.1 s.2.2.2.2.1 s.2.2.2.2.2.1 s.2.2.2.2.2.2.1 s.2.2.2.2.2.2.2.1 s.2.2.2.2.2.2.2.2 kA kO) (fun _ _ _ _ _ _=>by simp only [RT,oA,oC,oS,oN,aU,aT,ah]) (by kernel_rfl) (by kernel_rfl) (fun _ _ _=>by kernel_rfl)
def Td (F:Nat) (jG:Vector UInt32 8) (nh:Vector UInt32 8) (iu:Int) (qT:Vector UInt32 8) {β:Type} (kA:(Int×Ze)->Option β) (kO:(Ze)->Option β):Option β:=
 (bif (decide (iu < (8:Int))) then ((dc jG iu).bind fun aqS=>((an 8 iu).bind fun Ku=>((aA nh Ku).bind fun OD=>((an 8 iu).bind fun Ie=>(kA ((ag (iu + (1:Int))),(Vector.setIfInBounds qT Ie (OD + aqS)))))))) else (kO qT))
def aoz (F:Nat) (jG:Vector UInt32 8) (nh:Vector UInt32 8) (iu:Int) (qT:Vector UInt32 8):=Td F jG nh iu qT (fun s=>some (Sum.inl s)) (fun z=>some (Sum.inr z))
def ajB (F:Nat):LB (HG F) 1 Tryz.f161:=
 bH st ai [] [1,1,1,1,1,1] 4 [0,11,196,197] [(.pt 0 [0,0]),(.pt 1 []),(.ar 8 .u32),.i] [.blk 319 Qa,.blk 257 (.ar 8 .u32)] [] [] [.blk 319 Qa] F (fun x y (s:Int×Ze)=>((),(),x.2.2.1,s.1,())) (fun x y s=>((((s.2,y.1.1.1.2.1,y.1.1.1.2.2.1,()),y.1.1.2.1,()),()),y.2.1,())) (fun x y=>(x.2.2.2.1,y.1.1.1.1)) (fun x y (z:Ze)=>((),((((z,y.1.1.1.2.1,y.1.1.1.2.2.1,()),y.1.1.2.1,()),()),()))) (fun x y s _ kA kO=>Td F x.2.2.1 y.2.1 s.1 s.2 kA kO) (fun _ _ _ _ _ _=>by simp only [Td,oA,oC,oS,oN,aU,aT,ah]) (by kernel_rfl) (by kernel_rfl) (fun _ _ _=>by kernel_rfl)
def Pj (F:Nat) (p0:List UInt8) (p1:Vector UInt32 8) {β:Type} (k:(Ze)->Option β):Option β:=
 ((iter (fun s=>aqA F p0 s.1 s.2) F ((0:Int),(Vector.replicate 64 (0:UInt32)))).bind fun As=>((aA p1 0).bind fun tI=>((aA p1 1).bind fun o6=>((aA p1 2).bind fun B_=>((aA p1 3).bind fun tG=>((aA p1 4).bind fun Tl=>((aA p1 5).bind fun zy=>((aA p1 6).bind fun Nw=>((aA p1 7).bind fun lm=>((iter (fun s=>aoX F As s.1 s.2.1 s.2.2.1 s.2.2.2.1 s.2.2.2.2.1 s.2.2.2.2.2.1 s.2.2.2.2.2.2.1 s.2.2.2.2.2.2.2.1 s.2.2.2.2.2.2.2.2) F (tI,o6,B_,tG,Tl,zy,Nw,lm,(0:Int))).bind fun sC=>((iter (fun s=>aoz F (#v[sC.1,sC.2.1,sC.2.2.1,sC.2.2.2.1,sC.2.2.2.2.1,sC.2.2.2.2.2.1,sC.2.2.2.2.2.2.1,sC.2.2.2.2.2.2.2]:Vector UInt32 8) p1 s.1 s.2) F ((0:Int),p1)).bind fun nq=>(k nq))))))))))))
def ajV (F:Nat) (p0:List UInt8) (p1:Vector UInt32 8):=Pj F p0 p1 some
def ae7 (F:Nat):BN:=
 aq (E:=HG F) st Tryz.func161 ai 1 [aiw F,ae6 F,ajB F] [(.pt 0 [0,0]),(.ro .u8)] [.blk 319 Qa] [] [.blk 319 Qa] (fun x y (z:Ze)=>((),((((z,y.1.1.1.2.1,y.1.1.1.2.2.1,()),y.1.1.2.1,()),()),()))) (fun x y _ k=>Pj F x.2.1 y.1.1.1.1 k) (fun _ _ _ _=>by simp only [Pj,oA,oC,oS,oN,ah]) (by kernel_rfl) (fun _ _=>by kernel_rfl)
def PU (F:Nat):Ev:=ev 57 [anp F,ae7 F] (fun _=>[])
def Rj (F:Nat) (dW:List UInt8) (kH:Int) (fJ:Bool) (iJ:Vector UInt32 8) (fh:Vector UInt8 64) {β:Type} (kO:(Za×Ze×Zh)->Option β) (kR:(Zh)->Option β):Option β:=
 (bif fJ then ((bW 64 kH ((64:Nat):Int)).bind fun iV=>((bk dW ((Nat.min dW.length (iV.2 - iV.1)):Int) (dW.length:Int)).bind fun OA=>(bif (decide ((ag (kH + ((Nat.min dW.length (iV.2 - iV.1)):Int))) < (64:Int))) then (kR (dV fh iV.1 dW (Nat.min dW.length (iV.2 - iV.1)))) else ((bW 64 (0:Int) ((64:Nat):Int)).bind fun IT=>((afO F (IT.1,IT.2) iJ (dV fh iV.1 dW (Nat.min dW.length (iV.2 - iV.1)))).bind fun P9=>(kO (OA,P9,(dV fh iV.1 dW (Nat.min dW.length (iV.2 - iV.1)))))))))) else (kO (dW,iJ,fh)))
def asE (F:Nat) (dW:List UInt8) (kH:Int) (fJ:Bool) (iJ:Vector UInt32 8) (fh:Vector UInt8 64):Option ((Za×Ze×Zh) ⊕ (Zh)):=Rj F dW kH fJ iJ fh (fun z=>some (.inl z)) (fun z=>some (.inr z))
def aqb (F:Nat):LB (PU F) 1 Tryz.f128:=
 Vn st ai [] [1,0,1,1] [0,1,4,21] [(.pt 0 [0,0]),(.ro .u8),.i,.bo] [.blk 319 Qa] [0,1] [(.pt 0 [0,0]),(.ro .u8)] [.blk 319 Qa] [] [] [.blk 319 Qa] (fun x y (z:Za×Ze×Zh)=>(((),z.1,()),((((z.2.1,z.2.2,y.1.1.1.2.2.1,()),y.1.1.2.1,()),()),()))) (fun x y (z:Zh)=>((),((((y.1.1.1.1,z,y.1.1.1.2.2.1,()),y.1.1.2.1,()),()),()))) (fun x y _ kO kR=>Rj F x.2.1 x.2.2.1 x.2.2.2.1 y.1.1.1.1 y.1.1.1.2.1 kO kR) (fun _ _ _ _ _=>by simp only [Rj,oA,oC,oS,oN,aU,aT,ah]) (by kernel_rfl) (fun _ _=>by kernel_rfl)
def Rm (F:Nat) (mV:List UInt8) (pz:Vector UInt32 8) {β:Type} (kA:(Za×Ze)->Option β) (kO:(Za×Ze)->Option β):Option β:=
 (bif (decide ((64:Int)≤(mV.length:Int))) then ((bk mV (0:Int) (64:Int)).bind fun lO=>((ajV F lO pz).bind fun CN=>((bk mV (64:Int) (mV.length:Int)).bind fun nO=>(kA (nO,CN))))) else (kO (mV,pz)))
def agP (F:Nat) (mV:List UInt8) (pz:Vector UInt32 8):=Rm F mV pz (fun s=>some (Sum.inl s)) (fun z=>some (Sum.inr z))
def as2 (F:Nat):LB (PU F) 1 Tryz.f128:=
 bH st ai [] [0,1,1,1] 0 [0,1] [(.pt 0 [0,0]),(.ro .u8)] [.blk 319 Qa] [0,1] [(.pt 0 [0,0]),(.ro .u8)] [.blk 319 Qa] F (fun x y (s:Za×Ze)=>((),s.1,())) (fun x y s=>((((s.2,y.1.1.1.2.1,y.1.1.1.2.2.1,()),y.1.1.2.1,()),()),())) (fun x y=>(x.2.1,y.1.1.1.1)) (fun x y (z:Za×Ze)=>(((),z.1,()),((((z.2,y.1.1.1.2.1,y.1.1.1.2.2.1,()),y.1.1.2.1,()),()),()))) (fun x y s _ kA kO=>Rm F s.1 s.2 kA kO) (fun _ _ _ _ _ _=>by simp only [Rm,oA,oC,oS,oN,aU,aT,ah]) (by kernel_rfl) (by kernel_rfl) (fun _ _ _=>by kernel_rfl)
def S7 (F:Nat) (p0:List UInt8) (p1:Vector UInt32 8) (p2:Vector UInt8 64) (p3:Int) {β:Type} (k:(Ze×Zh×Int)->Option β):Option β:=
 ((asE F p0 (Int.tmod p3 (64:Int)) (decide ((0:Int) < (Int.tmod p3 (64:Int)))) p1 p2).bind fun vk=>bz (fun vk=>((iter (fun s=>agP F s.1 s.2) F (vk.1,vk.2.1)).bind fun uc=>((bW 64 (0:Int) ((64:Nat):Int)).bind fun zZ=>(k (uc.2,(dV vk.2.2 zZ.1 uc.1 (Nat.min uc.1.length (zZ.2 - zZ.1))),(ag (p3 + (p0.length:Int)))))))) (fun vk=>(k (p1,vk,(ag (p3 + (p0.length:Int)))))) vk)
def xw (F:Nat) (p0:List UInt8) (p1:Vector UInt32 8) (p2:Vector UInt8 64) (p3:Int):=S7 F p0 p1 p2 p3 some
def Z2 (F:Nat):BN:=
 aq (E:=PU F) st Tryz.func128 ai 1 [aqb F,as2 F] [(.pt 0 [0,0]),(.ro .u8)] [.blk 319 Qa] [] [.blk 319 Qa] (fun x y (z:Ze×Zh×Int)=>((),((((z.1,z.2.1,z.2.2,()),y.1.1.2.1,()),()),()))) (fun x y _ k=>S7 F x.2.1 y.1.1.1.1 y.1.1.1.2.1 y.1.1.1.2.2.1 k) (fun _ _ _ _=>by simp only [S7,oA,oC,oS,oN,ah]) (by kernel_rfl) (fun _ _=>by kernel_rfl)
def aik:Nat->List (Tag×Nat)
 | 6=>[(.p,3),(.p,4),(.c,5),(.w,0),(.p,1),(.c,2),(.w,6),(.p,7),(.p,8),(.w,9),(.p,10)]
 | 8=>[(.p,0),(.p,1),(.p,2),(.p,3),(.p,4),(.w,5)]
 | _=>[]
def an_ (F:Nat):Ev:=ev 38 [ON F,Hz F,aj8 F,Z2 F] aik
def Ee (F:Nat) (p0:List UInt8) {β:Type} (k:(Ze×Zh×Int×Zh)->Option β):Option β:=
 (bif (decide ((64:Int) < (p0.length:Int))) then ((CA F ([p0]:List Za)).bind fun gU=>((bW 64 (0:Int) ((64:Nat):Int)).bind fun nF=>((dc (tw) (1:Int)).bind fun Dq=>((nQ F).bind fun xG=>((nB F Dq (dV (Vector.replicate 64 (0:UInt8)) nF.1 gU (Nat.min gU.length (nF.2 - nF.1)))).bind fun sL=>((dc (tw) (0:Int)).bind fun ve=>((nB F ve (dV (Vector.replicate 64 (0:UInt8)) nF.1 gU (Nat.min gU.length (nF.2 - nF.1)))).bind fun OK=>((bW 64 (0:Int) ((64:Nat):Int)).bind fun iL=>((xw F ((OK.toList.drop iL.1).take (iL.2 - iL.1)) xG.1 xG.2.1 xG.2.2).bind fun eY=>(k (eY.1,eY.2.1,eY.2.2,sL))))))))))) else ((bW 64 (0:Int) ((64:Nat):Int)).bind fun gF=>((dc (tw) (1:Int)).bind fun oL=>((nQ F).bind fun mT=>((nB F oL (dV (Vector.replicate 64 (0:UInt8)) gF.1 p0 (Nat.min p0.length (gF.2 - gF.1)))).bind fun lU=>((dc (tw) (0:Int)).bind fun x31=>((nB F x31 (dV (Vector.replicate 64 (0:UInt8)) gF.1 p0 (Nat.min p0.length (gF.2 - gF.1)))).bind fun k8=>((bW 64 (0:Int) ((64:Nat):Int)).bind fun NF=>((xw F ((k8.toList.drop NF.1).take (NF.2 - NF.1)) mT.1 mT.2.1 mT.2.2).bind fun t6=>(k (t6.1,t6.2.1,t6.2.2,lU)))))))))))
def zQ (F:Nat) (p0:List UInt8):=Ee F p0 some
def aoU (F:Nat):BN:=
 aq (E:=an_ F) st Tryz.func165 ai 0 [] [.str] [] [(.pt 0 [])] [.blk 319 Qa] (fun x y (z:Ze×Zh×Int×Zh)=>(((),()),((((z.1,z.2.1,z.2.2.1,()),z.2.2.2,()),()),()))) (fun x y _ k=>Ee F x.1 k) (fun _ _ _ _=>by simp only [Ee,oA,oC,oS,oN,ah]) (by kernel_rfl) (fun _ _=>by kernel_rfl)
def aqr (F:Nat):Ev:=ev 10 [Z2 F] (fun _=>[])
def Lg (F:Nat) (p0:List UInt8) (p1:Vector UInt32 8) (p2:Vector UInt8 64) (p3:Int) {β:Type} (k:(Ze×Zh×Int)->Option β):Option β:=
 ((xw F p0 p1 p2 p3).bind fun z2=>(k (z2.1,z2.2.1,z2.2.2)))
def SD (F:Nat) (p0:List UInt8) (p1:Vector UInt32 8) (p2:Vector UInt8 64) (p3:Int):=Lg F p0 p1 p2 p3 some
def are (F:Nat):BN:=
 aq (E:=aqr F) st Tryz.func166 ai 1 [] [(.pt 0 []),(.ro .u8)] [.blk 319 Qa] [] [.blk 319 Qa] (fun x y (z:Ze×Zh×Int)=>((),((((z.1,z.2.1,z.2.2,()),y.1.1.2.1,()),()),()))) (fun x y _ k=>Lg F x.2.1 y.1.1.1.1 y.1.1.1.2.1 y.1.1.1.2.2.1 k) (fun _ _ _ _=>by simp only [Lg,oA,oC,oS,oN,ah]) (by kernel_rfl) (fun _ _=>by kernel_rfl)
def aj2:Nat->List (Tag×Nat)
 | 1=>[(.p,0),(.p,1),(.p,2),(.p,3),(.p,4),(.c,5),(.p,6),(.p,7),(.p,8),(.p,9),(.w,10),(.w,11),(.b,12),(.p,13)]
 | _=>[]
def acw (F:Nat):Ev:=ev 16 [LM F,ON F] aj2
def G3 (F:Nat) (p0:Vector UInt32 8) (p1:Vector UInt8 64) (p2:Int) (p3:Vector UInt8 64) {β:Type} (k:(Za)->Option β):Option β:=
 ((bW 64 (0:Int) ((64:Nat):Int)).bind fun x4=>((yG F (p0,p1,p2,())).bind fun z5=>((CA F ([((p3.toList.drop x4.1).take (x4.2 - x4.1)),z5]:List Za)).bind fun z6=>(k z6))))
def Po (F:Nat) (p0:Vector UInt32 8) (p1:Vector UInt8 64) (p2:Int) (p3:Vector UInt8 64):=G3 F p0 p1 p2 p3 some
def atl (F:Nat):BN:=
 aq (E:=acw F) st Tryz.func167 ai 1 [] [(.pt 0 [])] [.blk 319 Qa] [.str] [.blk 319 Qa] (fun x y (z:Za)=>((z,()),((((y.1.1.1.1,y.1.1.1.2.1,y.1.1.1.2.2.1,()),y.1.1.2.1,()),()),()))) (fun x y _ k=>G3 F y.1.1.1.1 y.1.1.1.2.1 y.1.1.1.2.2.1 y.1.1.2.1 k) (fun _ _ _ _=>by simp only [G3,oA,oC,oS,oN,ah]) (by kernel_rfl) (fun _ _=>by kernel_rfl)
def aeS (F:Nat):Ev:=ev 13 [aoU F,are F,atl F] (fun _=>[])
def B1 (F:Nat) (p0:List UInt8) (p1:List UInt8) {β:Type} (k:(Za)->Option β):Option β:=
 ((zQ F p0).bind fun z4=>((SD F p1 z4.1 z4.2.1 z4.2.2.1).bind fun z5=>((Po F z5.1 z5.2.1 z5.2.2 z4.2.2.2).bind fun z6=>(k z6))))
def Ad (F:Nat) (p0:List UInt8) (p1:List UInt8):=B1 F p0 p1 some
def VN (F:Nat):BN:=
 aq (E:=aeS F) st Tryz.func144 ai 0 [] [.str,(.ro .u8)] [] [.str] [] (fun x y (z:Za)=>((z,()),())) (fun x y _ k=>B1 F x.1 x.2.1 k) (fun _ _ _ _=>by simp only [B1,oA,oC,oS,oN,ah]) (by kernel_rfl) (fun _ _=>by kernel_rfl)
def ao2:Nat->List (Tag×Nat)
 | 5=>[(.p,0),(.c,1),(.p,2),(.p,3),(.p,5),(.w,4),(.w,6),(.b,7),(.p,8),(.p,9)]
 | _=>[]
def akA (F:Nat):Ev:=ev 26 [Ng F,OE F,VN F] ao2
def Kk (F:Nat) (p0:List UInt8) (p1:List UInt8) (p2:List UInt8) (p3:List UInt8) (p4:List UInt8) (p5:Int) (p6:List UInt8) {β:Type} (k:(Za×Int)->Option β):Option β:=
 ((r7 F p0 p1 p2 p3 p4).bind fun z5=>(bif (!z5) then (k (([]:List UInt8),(1:Int))) else (bif (decide (p5 < (0:Int))) then (k (([]:List UInt8),(1:Int))) else (bif (decide ((32768:Int) < (p6.length:Int))) then (k (([]:List UInt8),(2:Int))) else ((tY F ([]:List UInt8) (UInt64.ofInt p5)).bind fun z6=>((aD z6 p6).bind fun x7=>((Ad F p0 x7).bind fun z8=>(k (z8,(0:Int))))))))))
def MP (F:Nat) (p0:List UInt8) (p1:List UInt8) (p2:List UInt8) (p3:List UInt8) (p4:List UInt8) (p5:Int) (p6:List UInt8):=Kk F p0 p1 p2 p3 p4 p5 p6 some
def agI (F:Nat):BN:=
 aq (E:=akA F) st Tryz.func112 ai 0 [] [(.pr .str (.pr .str (.pr .str (.pr .str (.pr .str .un))))),.i,(.ro .u8)] [] [.str,.i] [] (fun x y (z:Za×Int)=>((z.1,z.2,()),())) (fun x y _ k=>Kk F x.1.1 x.1.2.1 x.1.2.2.1 x.1.2.2.2.1 x.1.2.2.2.2.1 x.2.1 x.2.2.1 k) (fun _ _ _ _=>by simp only [Kk,oA,oC,oS,oN,ah]) (by kernel_rfl) (fun _ _=>by kernel_rfl)
def ajF (F:Nat):Ev:=ev 18 [Ng F,VN F] (fun _=>[])
def Jv (F:Nat) (p0:List UInt8) (p1:List UInt8) (p2:List UInt8) (p3:List UInt8) (p4:List UInt8) (p5:List UInt8) {β:Type} (k:Zm->Option β):Option β:=
 ((r7 F p0 p1 p2 p3 p4).bind fun z5=>(bif (!z5) then (k ((1:Int),([]:List UInt8))) else (bif (decide ((32768:Int) < (p5.length:Int))) then (k ((2:Int),([]:List UInt8))) else ((Ad F p2 p5).bind fun z6=>((bk z6 (0:Int) (16:Int)).bind fun x7=>((p_ x7).bind fun x8=>(k ((0:Int),x8))))))))
def PD (F:Nat) (p0:List UInt8) (p1:List UInt8) (p2:List UInt8) (p3:List UInt8) (p4:List UInt8) (p5:List UInt8):=Jv F p0 p1 p2 p3 p4 p5 some
def alW (F:Nat):BN:=
 aq (E:=ajF F) st Tryz.func113 ai 0 [] [(.pr .str (.pr .str (.pr .str (.pr .str (.pr .str .un))))),(.ro .u8)] [] [(.rw 0),.i] [.row 5 .u8] (fun x y (z:Int×Za)=>(((),z.1,()),(z.2,()))) (fun x y _ k=>Jv F x.1.1 x.1.2.1 x.1.2.2.1 x.1.2.2.2.1 x.1.2.2.2.2.1 x.2.1 k) (fun _ _ _ _=>by simp only [Jv,oA,oC,oS,oN,ah]) (by kernel_rfl) (fun _ _=>by kernel_rfl)
def Z7 (F:Nat):Ev:=ev 11 [] (fun _=>[])
def zL (F:Nat) (y4:UInt64) (y5:Int) {β:Type} (kA:(UInt64×Int)->Option β) (kO:Int->Option β):Option β:=
 (bif (decide ((UInt64.ofNat 128)≤y4)) then (kA ((cY y4 ((UInt64.ofNat 7).toNat)),(ag (y5 + (1:Int))))) else (kO y5))
def CO (F:Nat) (y4:UInt64) (y5:Int):=zL F y4 y5 (fun s=>some (Sum.inl s)) (fun z=>some (Sum.inr z))
def alH (F:Nat):LB (Z7 F) 0 Tryz.f111:=
 bH st ai [] [0,1,1] 0 [0,3] [.u64,.i] [] [3] [.i] [] F (fun x y (s:UInt64×Int)=>(s.1,s.2,())) (fun x y s=>()) (fun x y=>(x.1,x.2.1)) (fun x y (z:Int)=>((z,()),())) (fun x y s _ kA kO=>zL F s.1 s.2 kA kO) (fun _ _ _ _ _ _=>by simp only [zL,oA,oC,oS,oN,aU,aT,ah]) (by kernel_rfl) (by kernel_rfl) (fun _ _ _=>by kernel_rfl)
def HB (F:Nat) (p0:UInt64) {β:Type} (k:Int->Option β):Option β:=
 ((iter (fun s=>CO F s.1 s.2) F (p0,(1:Int))).bind fun z6=>(k z6))
def JK (F:Nat) (p0:UInt64):=HB F p0 some
def X7 (F:Nat):BN:=
 aq (E:=Z7 F) st Tryz.func111 ai 0 [alH F] [.u64] [] [.i] [] (fun x y (z:Int)=>((z,()),())) (fun x y _ k=>HB F x.1 k) (fun _ _ _ _=>by simp only [HB,oA,oC,oS,oN,ah]) (by kernel_rfl) (fun _ _=>by kernel_rfl)
def adK (F:Nat):Ev:=ev 4 [] (fun _=>[])
def Ot (F:Nat) {β:Type} (k:Zv->Option β):Option β:=
 (k ((1:Int),(0:Int)))
def Xh (F:Nat):=Ot F some
def ali (F:Nat):BN:=
 aq (E:=adK F) st Tryz.func145 ai 0 [] [] [] [(.fn 168 .un (.pr (.pt 0 []) (.pr (.pt 1 []) .un)))] [.blk 3 .i,.blk 3 .i] (fun x y (z:Int×Int)=>((((),((),(),())),()),(z.1,z.2,()))) (fun x y _ k=>Ot F k) (fun _ _ _ _=>by simp only [Ot,oA,oC,oS,oN,ah]) (by kernel_rfl) (fun _ _=>by kernel_rfl)
def acD (F:Nat):Ev:=ev 16 [] (fun _=>[])
def Rc (F:Nat) (p0:Int) (p1:Int) {β:Type} (k:(Int×Int×Int)->Option β):Option β:=
 (bif ((ag (p1 + (1:Int))) == (4:Int)) then (k ((ag (p0 * (ag ((64:Int) + (ag ((16:Int) * p1)))))),(ag ((2:Int) * p0)),(0:Int))) else (k ((ag (p0 * (ag ((64:Int) + (ag ((16:Int) * p1)))))),p0,(ag (p1 + (1:Int))))))
def Jb (F:Nat) (p0:Int) (p1:Int):=Rc F p0 p1 some
def afV (F:Nat):BN:=
 aq (E:=acD F) st Tryz.func168 ai 2 [] [(.pt 0 []),(.pt 1 [])] [.blk 3 .i,.blk 3 .i] [.i] [.blk 3 .i,.blk 3 .i] (fun x y (z:Int×Int×Int)=>((z.1,()),(z.2.1,z.2.2,()))) (fun x y _ k=>Rc F y.1 y.2.1 k) (fun _ _ _ _=>by simp only [Rc,oA,oC,oS,oN,ah]) (by kernel_rfl) (fun _ _=>by kernel_rfl)
def V8 (F:Nat):Ev:=ev 26 [X7 F,ali F,afV F] (fun _=>[])
def yE (F:Nat) (dx:Int) (bZ:Int) (dy:Int) (ek:Int) {β:Type} (kA:(Int×Int×Int)->Option β) (kO:Int->Option β):Option β:=
 (bif (decide (bZ < dx)) then ((Jb F dy ek).bind fun Bv=>(kA (Bv.1,Bv.2.1,Bv.2.2))) else (kO bZ))
def Ca (F:Nat) (dx:Int) (bZ:Int) (dy:Int) (ek:Int):=yE F dx bZ dy ek (fun s=>some (Sum.inl s)) (fun z=>some (Sum.inr z))
def adU (F:Nat):LB (V8 F) 0 Tryz.f114:=
 bH st ai [] [0,1,1,1,1,1,1] 0 [4,5,6] [.i,(.fn 168 .un (.pr (.pt 0 []) (.pr (.pt 1 []) .un))),.i] [.blk 3 .i,.blk 3 .i] [6] [.i] [] F (fun x y (s:Int×Int×Int)=>(x.1,((),((),(),())),s.1,())) (fun x y s=>(s.2.1,s.2.2,())) (fun x y=>(x.2.2.1,y.1,y.2.1)) (fun x y (z:Int)=>((z,()),())) (fun x y s _ kA kO=>yE F x.1 s.1 s.2.1 s.2.2 kA kO) (fun _ _ _ _ _ _=>by simp only [yE,oA,oC,oS,oN,aU,aT,ah]) (by kernel_rfl) (by kernel_rfl) (fun _ _ _=>by kernel_rfl)
def Lt (F:Nat) (p0:Int) {β:Type} (k:Zv->Option β):Option β:=
 (bif (decide (p0 < (0:Int))) then (k ((0:Int),(1:Int))) else (bif (decide ((32768:Int) < p0)) then (k ((0:Int),(2:Int))) else ((JK F (UInt64.ofInt p0)).bind fun dG=>((Xh F).bind fun ca=>((Jb F ca.1 ca.2).bind fun gz=>((iter (fun s=>Ca F (ag ((ag (dG + p0)) + (16:Int))) s.1 s.2.1 s.2.2) F (gz.1,gz.2.1,gz.2.2)).bind fun qm=>(k (qm,(0:Int)))))))))
def kN (F:Nat) (p0:Int):=Lt F p0 some
def BJ (F:Nat):BN:=
 aq (E:=V8 F) st Tryz.func114 ai 0 [adU F] [.i] [] [.i,.i] [] (fun x y (z:Int×Int)=>((z.1,z.2,()),())) (fun x y _ k=>Lt F x.1 k) (fun _ _ _ _=>by simp only [Lt,oA,oC,oS,oN,ah]) (by kernel_rfl) (fun _ _=>by kernel_rfl)
def ata (F:Nat):Ev:=ev 13 [] (fun _=>[])
def yM (F:Nat) (p0:List UInt8) (p1:List UInt8) {β:Type} (k:Bool->Option β):Option β:=
 (bif ((p0.length:Int) == (32:Int)) then (k ((p1.length:Int) == (12:Int))) else (k false))
def wY (F:Nat) (p0:List UInt8) (p1:List UInt8):=yM F p0 p1 some
def Y7 (F:Nat):BN:=
 aq (E:=ata F) st Tryz.func169 ai 0 [] [.str,.str] [] [.bo] [] (fun x y (z:Bool)=>((z,()),())) (fun x y _ k=>yM F x.1 x.2.1 k) (fun _ _ _ _=>by simp only [yM,oA,oC,oS,oN,ah]) (by kernel_rfl) (fun _ _=>by kernel_rfl)
def asJ:Nat->List (Tag×Nat)
 | 1=>[(.p,0),(.p,1),(.p,2),(.p,3),(.p,4),(.p,5),(.p,6),(.p,7),(.p,8),(.p,9),(.p,10),(.p,11),(.p,12),(.p,13),(.p,14),(.p,15),(.p,16),(.p,17),(.p,18),(.p,19),(.p,20),(.p,21),(.p,22),(.p,23),(.p,24),(.p,25)]
 | _=>[]
def adM (F:Nat):Ev:=ev 30 [] asJ
def KS (F:Nat) (p0:List UInt8) (p1:Int) {β:Type} (k:UInt32->Option β):Option β:=
 ((ix p0 p1).bind fun x5=>((ix p0 (ag (p1 + (1:Int)))).bind fun x6=>((ix p0 (ag (p1 + (2:Int)))).bind fun x7=>((ix p0 (ag (p1 + (3:Int)))).bind fun x8=>(k ((((x5.toUInt32) ||| (ey (x6.toUInt32) ((UInt64.ofNat 8).toNat))) ||| (ey (x7.toUInt32) ((UInt64.ofNat 16).toNat))) ||| (ey (x8.toUInt32) ((UInt64.ofNat 24).toNat))))))))
def I3 (F:Nat) (p0:List UInt8) (p1:Int):=KS F p0 p1 some
def apw (F:Nat):BN:=
 aq (E:=adM F) st Tryz.func200 ai 0 [] [.str,.i] [] [.u32] [] (fun x y (z:UInt32)=>((z,()),())) (fun x y _ k=>KS F x.1 x.2.1 k) (fun _ _ _ _=>by simp only [KS,oA,oC,oS,oN,ah]) (by kernel_rfl) (fun _ _=>by kernel_rfl)
def apa (F:Nat):Ev:=ev 44 [DY F] (fun _=>[])
def Ko (F:Nat) (p0:UInt32) (p1:UInt32) (p2:UInt32) (p3:UInt32) {β:Type} (k:(UInt32×UInt32×UInt32×UInt32)->Option β):Option β:=
 ((bc F (p3 ^^^ (p0 + p1)) (16:Int)).bind fun z5=>((bc F (p1 ^^^ (p2 + z5)) (12:Int)).bind fun z6=>((bc F (z5 ^^^ ((p0 + p1) + z6)) (8:Int)).bind fun z7=>((bc F (z6 ^^^ ((p2 + z5) + z7)) (7:Int)).bind fun z8=>(k (((p0 + p1) + z6),z8,((p2 + z5) + z7),z7))))))
def RC (F:Nat) (p0:UInt32) (p1:UInt32) (p2:UInt32) (p3:UInt32):=Ko F p0 p1 p2 p3 some
def apc (F:Nat):BN:=
 aq (E:=apa F) st Tryz.func201 ai 0 [] [.u32,.u32,.u32,.u32] [] [.u32,.u32,.u32,.u32] [] (fun x y (z:UInt32×UInt32×UInt32×UInt32)=>((z.1,z.2.1,z.2.2.1,z.2.2.2,()),())) (fun x y _ k=>Ko F x.1 x.2.1 x.2.2.1 x.2.2.2.1 k) (fun _ _ _ _=>by simp only [Ko,oA,oC,oS,oN,ah]) (by kernel_rfl) (fun _ _=>by kernel_rfl)
def alN:Nat->List (Tag×Nat)
 | 22=>[(.p,0),(.c,1),(.p,2),(.c,3),(.p,4),(.c,5),(.p,6),(.c,7),(.p,8),(.r,9),(.p,10),(.r,11),(.p,12),(.r,13),(.p,14),(.r,15),(.p,16),(.r,17),(.p,18),(.r,19),(.p,20),(.r,21),(.p,22),(.r,23),(.w,24),(.p,25),(.p,26),(.p,27),(.p,28),(.p,29),(.p,30),(.w,31),(.p,32),(.w,33),(.p,34),(.w,35),(.p,36),(.b,37)]
 | _=>[]
def vK (F:Nat):Ev:=ev 126 [Y7 F,apw F,apc F] alN
def Hw (F:Nat) (rK:List UInt8) (fX:Int) (I0:Vector UInt32 16) {β:Type} (kA:(Int×Zk)->Option β) (kO:(Zk)->Option β):Option β:=
 (bif (decide (fX < (8:Int))) then ((I3 F rK (ag ((4:Int) * fX))).bind fun asL=>((an 16 (ag ((4:Int) + fX))).bind fun Q7=>(kA ((ag (fX + (1:Int))),(Vector.setIfInBounds I0 Q7 asL))))) else (kO I0))
def EI (F:Nat) (rK:List UInt8) (fX:Int) (I0:Vector UInt32 16):=Hw F rK fX I0 (fun s=>some (Sum.inl s)) (fun z=>some (Sum.inr z))
def anN (F:Nat):LB (vK F) 0 Tryz.f170:=
 bH st ai [] [1,0,1,1,1] 0 [0,1,2,8,23] [.str,.str,.u32,(.pt 0 []),.i] [.blk 320 Qw] [1,2,8] [.str,.u32,(.pt 0 [])] [.blk 320 Qw] F (fun x y (s:Int×Zk)=>(x.1,x.2.1,x.2.2.1,(),s.1,())) (fun x y s=>(s.2,())) (fun x y=>(x.2.2.2.2.1,y.1)) (fun x y (z:Zk)=>((x.2.1,x.2.2.1,(),()),(z,()))) (fun x y s _ kA kO=>Hw F x.1 s.1 s.2 kA kO) (fun _ _ _ _ _ _=>by simp only [Hw,oA,oC,oS,oN,aU,aT,ah]) (by kernel_rfl) (by kernel_rfl) (fun _ _ _=>by kernel_rfl)
def EO (F:Nat) (fu:List UInt8) (dZ:Int) (KH:Vector UInt32 16) {β:Type} (kA:(Int×Zk)->Option β) (kO:(Zk)->Option β):Option β:=
 (bif (decide (dZ < (3:Int))) then ((I3 F fu (ag ((4:Int) * dZ))).bind fun od=>((an 16 (ag ((13:Int) + dZ))).bind fun aso=>(kA ((ag (dZ + (1:Int))),(Vector.setIfInBounds KH aso od))))) else (kO KH))
def H8 (F:Nat) (fu:List UInt8) (dZ:Int) (KH:Vector UInt32 16):=EO F fu dZ KH (fun s=>some (Sum.inl s)) (fun z=>some (Sum.inr z))
def ah4 (F:Nat):LB (vK F) 0 Tryz.f170:=
 bH st ai [] [1,0,1,1,1,1,1] 2 [1,8,36] [.str,(.pt 0 []),.i] [.blk 320 Qw] [8] [(.pt 0 [])] [.blk 320 Qw] F (fun x y (s:Int×Zk)=>(x.1,(),s.1,())) (fun x y s=>(s.2,())) (fun x y=>(x.2.2.1,y.1)) (fun x y (z:Zk)=>(((),()),(z,()))) (fun x y s _ kA kO=>EO F x.1 s.1 s.2 kA kO) (fun _ _ _ _ _ _=>by simp only [EO,oA,oC,oS,oN,aU,aT,ah]) (by kernel_rfl) (by kernel_rfl) (fun _ _ _=>by kernel_rfl)
def FD (F:Nat) (qC:Vector (Vector Int 4) 8) (EV:Int) (jJ:Vector UInt32 16) {β:Type} (kO:(Int×Zk)->Option β):Option β:=
 ((dc qC EV).bind fun lm=>((aA lm 0).bind fun Sb=>((aA lm 1).bind fun NW=>((aA lm 2).bind fun zC=>((aA lm 3).bind fun Tv=>((aA lm 0).bind fun zJ=>((an 16 zJ).bind fun DL=>((aA jJ DL).bind fun A6=>((aA lm 1).bind fun Tm=>((an 16 Tm).bind fun AB=>((aA jJ AB).bind fun Bg=>((aA lm 2).bind fun ur=>((an 16 ur).bind fun tZ=>((aA jJ tZ).bind fun CM=>((aA lm 3).bind fun D3=>((an 16 D3).bind fun DZ=>((aA jJ DZ).bind fun CT=>((RC F A6 Bg CM CT).bind fun yC=>((an 16 Sb).bind fun afc=>((an 16 NW).bind fun Q3=>((an 16 zC).bind fun R7=>((an 16 Tv).bind fun OB=>(kO ((ag (EV + (1:Int))),(Vector.setIfInBounds (Vector.setIfInBounds (Vector.setIfInBounds (Vector.setIfInBounds jJ afc yC.1) Q3 yC.2.1) R7 yC.2.2.1) OB yC.2.2.2)))))))))))))))))))))))))
def PX (F:Nat) (qC:Vector (Vector Int 4) 8) (EV:Int) (jJ:Vector UInt32 16):Option (Int×Zk):=FD F qC EV jJ (fun z=>some z)
def aqo (F:Nat):LB (vK F) 0 Tryz.f170:=
 SI st ai [] [1,1,0,0,1,0,0,1,1,0,0,1,0,1,1,1,1,1,1,1,1] [8,11,12,57,59,60] [(.pt 0 []),(.pt 1 []),(.pt 2 []),.i,(.ar 8 (.ar 4 .i)),.i] [.blk 320 Qw,.blk 320 Qw,.blk 323 (.ar 8 (.ar 4 .i))] [8,11,12,57,59,60] [(.pt 0 []),(.pt 1 []),(.pt 2 []),.i,(.ar 8 (.ar 4 .i)),.i] [.blk 320 Qw,.blk 320 Qw,.blk 323 (.ar 8 (.ar 4 .i))] (fun x y (z:Int×Zk)=>(((),(),(),x.2.2.2.1,x.2.2.2.2.1,z.1,()),(y.1,z.2,y.2.2.1,()))) (fun x y _ kO=>FD F x.2.2.2.2.1 x.2.2.2.2.2.1 y.2.1 kO) (fun _ _ _ _=>by simp only [FD,oA,oC,oS,oN,aU,aT,ah]) (by kernel_rfl) (fun _ _=>by kernel_rfl)
def HA (F:Nat) (uG:Vector (Vector Int 4) 8) (o7:Int) (jQ:Vector UInt32 16) {β:Type} (kA:(Int×Zk)->Option β) (kO:(Zk)->Option β):Option β:=
 (bif (decide (o7 < (8:Int))) then ((PX F uG o7 jQ).bind fun zG=>(kA (zG.1,zG.2))) else (kO jQ))
def Ky (F:Nat) (uG:Vector (Vector Int 4) 8) (o7:Int) (jQ:Vector UInt32 16):=HA F uG o7 jQ (fun s=>some (Sum.inl s)) (fun z=>some (Sum.inr z))
def asW (F:Nat):LB (vK F) 0 Tryz.f170:=
 bH st ai [aqo F] [1,0,0,1,1,0,0,1,0,1,1,1,1,1,1,1,1] 6 [8,11,12,57,59,60] [(.pt 0 []),(.pt 1 []),(.pt 2 []),.i,(.ar 8 (.ar 4 .i)),.i] [.blk 320 Qw,.blk 320 Qw,.blk 323 (.ar 8 (.ar 4 .i))] [8,11,12,57] [(.pt 0 []),(.pt 1 []),(.pt 2 []),.i] [.blk 320 Qw,.blk 320 Qw,.blk 323 (.ar 8 (.ar 4 .i))] F (fun x y (s:Int×Zk)=>((),(),(),x.2.2.2.1,x.2.2.2.2.1,s.1,())) (fun x y s=>(y.1,s.2,y.2.2.1,())) (fun x y=>(x.2.2.2.2.2.1,y.2.1)) (fun x y (z:Zk)=>(((),(),(),x.2.2.2.1,()),(y.1,z,y.2.2.1,()))) (fun x y s _ kA kO=>HA F x.2.2.2.2.1 s.1 s.2 kA kO) (fun _ _ _ _ _ _=>by simp only [HA,oA,oC,oS,oN,aU,aT,ah]) (by kernel_rfl) (by kernel_rfl) (fun _ _ _=>by kernel_rfl)
def I6 (F:Nat) (uN:Vector (Vector Int 4) 8) (rT:Int) (o8:Vector UInt32 16) {β:Type} (kA:(Int×Zk)->Option β) (kO:(Zk)->Option β):Option β:=
 (bif (decide (rT < (10:Int))) then ((iter (fun s=>Ky F uN s.1 s.2) F ((0:Int),o8)).bind fun Ti=>(kA ((ag (rT + (1:Int))),Ti))) else (kO o8))
def FV (F:Nat) (uN:Vector (Vector Int 4) 8) (rT:Int) (o8:Vector UInt32 16):=I6 F uN rT o8 (fun s=>some (Sum.inl s)) (fun z=>some (Sum.inr z))
def ak7 (F:Nat):LB (vK F) 0 Tryz.f170:=
 bH st ai [asW F] [1,0,1,1,1,1,1,1,1,1] 4 [8,11,12,57] [(.pt 0 []),(.pt 1 []),(.pt 2 []),.i] [.blk 320 Qw,.blk 320 Qw,.blk 323 (.ar 8 (.ar 4 .i))] [8,11] [(.pt 0 []),(.pt 1 [])] [.blk 320 Qw,.blk 320 Qw] F (fun x y (s:Int×Zk)=>((),(),(),s.1,())) (fun x y s=>(y.1,s.2,y.2.2.1,())) (fun x y=>(x.2.2.2.1,y.2.1)) (fun x y (z:Zk)=>(((),(),()),(y.1,z,()))) (fun x y s _ kA kO=>I6 F y.2.2.1 s.1 s.2 kA kO) (fun _ _ _ _ _ _=>by simp only [I6,oA,oC,oS,oN,aU,aT,ah]) (by kernel_rfl) (by kernel_rfl) (fun _ _ _=>by kernel_rfl)
def JW (F:Nat) (M9:Vector UInt32 16) (OF:Vector UInt32 16) (wJ:Int) (j9:List UInt8) {β:Type} (kA:Zm->Option β) (kO:(Za)->Option β):Option β:=
 (bif (decide (wJ < (16:Int))) then ((dc M9 wJ).bind fun Kz=>((an 16 wJ).bind fun ahG=>((aA OF ahG).bind fun JZ=>((aD j9 ([((Kz + JZ).toUInt8),((cn (Kz + JZ) ((UInt64.ofNat 8).toNat)).toUInt8),((cn (Kz + JZ) ((UInt64.ofNat 16).toNat)).toUInt8),((cn (Kz + JZ) ((UInt64.ofNat 24).toNat)).toUInt8)]:List UInt8)).bind fun adN=>(kA ((ag (wJ + (1:Int))),adN)))))) else (kO j9))
def Iw (F:Nat) (M9:Vector UInt32 16) (OF:Vector UInt32 16) (wJ:Int) (j9:List UInt8):=JW F M9 OF wJ j9 (fun s=>some (Sum.inl s)) (fun z=>some (Sum.inr z))
def ac1 (F:Nat):LB (vK F) 0 Tryz.f170:=
 bH st ai [] [1,0,1,1,1,1,1,1,1,1,1,1] 8 [8,15,100,101] [(.pt 0 []),(.rw 1),(.ar 16 .u32),.i] [.blk 320 Qw,.row 5 .u8] [15] [(.rw 0)] [.row 5 .u8] F (fun x y (s:Int×Za)=>((),(),x.2.2.1,s.1,())) (fun x y s=>(y.1,s.2,())) (fun x y=>(x.2.2.2.1,y.2.1)) (fun x y (z:Za)=>(((),()),(z,()))) (fun x y s _ kA kO=>JW F x.2.2.1 y.1 s.1 s.2 kA kO) (fun _ _ _ _ _ _=>by simp only [JW,oA,oC,oS,oN,aU,aT,ah]) (by kernel_rfl) (by kernel_rfl) (fun _ _ _=>by kernel_rfl)
def Hf (F:Nat) (p0:List UInt8) (p1:List UInt8) (p2:UInt32) {β:Type} (k:Zm->Option β):Option β:=
 ((wY F p0 p1).bind fun z99=>(bif (!z99) then (k ((1:Int),([]:List UInt8))) else ((iter (fun s=>EI F p0 s.1 s.2) F ((0:Int),(Vector.setIfInBounds (Vector.setIfInBounds (Vector.setIfInBounds (Vector.setIfInBounds (Vector.replicate 16 (0:UInt32)) 0 (UInt32.ofNat 1634760805)) 1 (UInt32.ofNat 857760878)) 2 (UInt32.ofNat 2036477234)) 3 (UInt32.ofNat 1797285236)))).bind fun aiz=>((iter (fun s=>H8 F p1 s.1 s.2) F ((0:Int),(Vector.setIfInBounds aiz 12 p2))).bind fun jF=>((iter (fun s=>FV F (#v[(#v[(0:Int),(4:Int),(8:Int),(12:Int)]:Vector Int 4),(#v[(1:Int),(5:Int),(9:Int),(13:Int)]:Vector Int 4),(#v[(2:Int),(6:Int),(10:Int),(14:Int)]:Vector Int 4),(#v[(3:Int),(7:Int),(11:Int),(15:Int)]:Vector Int 4),(#v[(0:Int),(5:Int),(10:Int),(15:Int)]:Vector Int 4),(#v[(1:Int),(6:Int),(11:Int),(12:Int)]:Vector Int 4),(#v[(2:Int),(7:Int),(8:Int),(13:Int)]:Vector Int 4),(#v[(3:Int),(4:Int),(9:Int),(14:Int)]:Vector Int 4)]:Vector (Vector Int 4) 8) s.1 s.2) F ((0:Int),jF)).bind fun Dx=>((cw (0:UInt8) (0:Int) (64:Int)).bind fun ail=>((iter (fun s=>Iw F Dx jF s.1 s.2) F ((0:Int),ail)).bind fun Lr=>(k ((0:Int),Lr)))))))))
def PC (F:Nat) (p0:List UInt8) (p1:List UInt8) (p2:UInt32):=Hf F p0 p1 p2 some
def akp (F:Nat):BN:=
 aq (E:=vK F) st Tryz.func170 ai 0 [anN F,ah4 F,ak7 F,ac1 F] [.str,.str,.u32] [] [(.rw 0),.i] [.row 5 .u8] (fun x y (z:Int×Za)=>(((),z.1,()),(z.2,()))) (fun x y _ k=>Hf F x.1 x.2.1 x.2.2.1 k) (fun _ _ _ _=>by simp only [Hf,oA,oC,oS,oN,ah]) (by kernel_rfl) (fun _ _=>by kernel_rfl)
def amz:Nat->List (Tag×Nat)
 | 10=>[(.p,0),(.p,1),(.p,2),(.p,3),(.p,4),(.p,5),(.p,6),(.p,7),(.w,8),(.p,9),(.p,10)]
 | _=>[]
def aaC (F:Nat):Ev:=ev 63 [Y7 F,akp F] amz
def Cv (F:Nat) (dA:List UInt8) (bN:List UInt8) (dQ:Int) (dP:Int) (cP:Int) (dK:List UInt8) {β:Type} (kA:Zm->Option β) (kO:(Za)->Option β):Option β:=
 (bif (decide (cP < dP)) then ((PC F dA bN (UInt32.ofInt (ag (Int.tdiv (ag (dQ + cP)) (64:Int))))).bind fun uz=>((bW dK.length cP (dK.length:Int)).bind fun oL=>((bW uz.2.length (Int.tmod (ag (dQ + cP)) (64:Int)) (uz.2.length:Int)).bind fun j7=>(kA ((ag (cP + ((Nat.min ((uz.2.drop j7.1).take (j7.2 - j7.1)).length (oL.2 - oL.1)):Int))),(bC dK oL.1 ((uz.2.drop j7.1).take (j7.2 - j7.1)) (Nat.min ((uz.2.drop j7.1).take (j7.2 - j7.1)).length (oL.2 - oL.1)))))))) else (kO dK))
def Gy (F:Nat) (dA:List UInt8) (bN:List UInt8) (dQ:Int) (dP:Int) (cP:Int) (dK:List UInt8):=Cv F dA bN dQ dP cP dK (fun s=>some (Sum.inl s)) (fun z=>some (Sum.inr z))
def ase (F:Nat):LB (aaC F) 0 Tryz.f146:=
 bH st ai [] [1,0,1,1,1,1] 0 [0,1,2,3,10,11] [.str,.str,.i,.i,(.rw 0),.i] [.row 5 .u8] [10] [(.rw 0)] [.row 5 .u8] F (fun x y (s:Int×Za)=>(x.1,x.2.1,x.2.2.1,x.2.2.2.1,(),s.1,())) (fun x y s=>(s.2,())) (fun x y=>(x.2.2.2.2.2.1,y.1)) (fun x y (z:Za)=>(((),()),(z,()))) (fun x y s _ kA kO=>Cv F x.1 x.2.1 x.2.2.1 x.2.2.2.1 s.1 s.2 kA kO) (fun _ _ _ _ _ _=>by simp only [Cv,oA,oC,oS,oN,aU,aT,ah]) (by kernel_rfl) (by kernel_rfl) (fun _ _ _=>by kernel_rfl)
def K7 (F:Nat) (p0:List UInt8) (p1:List UInt8) (p2:Int) (p3:Int) {β:Type} (k:Zm->Option β):Option β:=
 ((wY F p0 p1).bind fun cq=>(bif (!cq) then (k ((1:Int),([]:List UInt8))) else (bif (decide (p2 < (0:Int))) then (k ((1:Int),([]:List UInt8))) else (bif (decide (p3 < (0:Int))) then (k ((1:Int),([]:List UInt8))) else (bif (decide ((1048576:Int) < p3)) then (k ((2:Int),([]:List UInt8))) else (bif (decide ((ag ((274877906944:Int) - p3)) < p2)) then (k ((2:Int),([]:List UInt8))) else ((cw (0:UInt8) p3 p3).bind fun j4=>((iter (fun s=>Gy F p0 p1 p2 p3 s.1 s.2) F ((0:Int),j4)).bind fun lU=>(k ((0:Int),lU))))))))))
def P3 (F:Nat) (p0:List UInt8) (p1:List UInt8) (p2:Int) (p3:Int):=K7 F p0 p1 p2 p3 some
def ad0 (F:Nat):BN:=
 aq (E:=aaC F) st Tryz.func146 ai 0 [ase F] [.str,.str,.i,.i] [] [(.rw 0),.i] [.row 5 .u8] (fun x y (z:Int×Za)=>(((),z.1,()),(z.2,()))) (fun x y _ k=>K7 F x.1 x.2.1 x.2.2.1 x.2.2.2.1 k) (fun _ _ _ _=>by simp only [K7,oA,oC,oS,oN,ah]) (by kernel_rfl) (fun _ _=>by kernel_rfl)
def aiF:Nat->List (Tag×Nat)
 | 5=>[(.p,0),(.r,1),(.p,2),(.p,3),(.p,4),(.w,5),(.p,6),(.p,7),(.p,8),(.p,9)]
 | _=>[]
def adL (F:Nat):Ev:=ev 30 [Ng F,ad0 F] aiF
def Fc (F:Nat) (p0:List UInt8) (p1:List UInt8) (p2:List UInt8) (p3:List UInt8) (p4:List UInt8) (p5:List UInt8) (p6:Int) {β:Type} (k:Zm->Option β):Option β:=
 ((r7 F p0 p1 p2 p3 p4).bind fun z4=>(bif (!z4) then (k ((1:Int),([]:List UInt8))) else (bif ((p5.length:Int) != (32:Int)) then (k ((1:Int),([]:List UInt8))) else (bif (decide (p6 < (0:Int))) then (k ((1:Int),([]:List UInt8))) else (bif (decide ((65536:Int) < p6)) then (k ((2:Int),([]:List UInt8))) else ((bk p5 (0:Int) (12:Int)).bind fun x5=>((P3 F p1 x5 (0:Int) p6).bind fun z6=>(k (z6.1,z6.2)))))))))
def QE (F:Nat) (p0:List UInt8) (p1:List UInt8) (p2:List UInt8) (p3:List UInt8) (p4:List UInt8) (p5:List UInt8) (p6:Int):=Fc F p0 p1 p2 p3 p4 p5 p6 some
def aqV (F:Nat):BN:=
 aq (E:=adL F) st Tryz.func115 ai 0 [] [(.pr .str (.pr .str (.pr .str (.pr .str (.pr .str .un))))),.str,.i] [] [(.rw 0),.i] [.row 5 .u8] (fun x y (z:Int×Za)=>(((),z.1,()),(z.2,()))) (fun x y _ k=>Fc F x.1.1 x.1.2.1 x.1.2.2.1 x.1.2.2.2.1 x.1.2.2.2.2.1 x.2.1 x.2.2.1 k) (fun _ _ _ _=>by simp only [Fc,oA,oC,oS,oN,ah]) (by kernel_rfl) (fun _ _=>by kernel_rfl)
def arv (F:Nat):Ev:=ev 42 [BJ F,OE F] (fun _=>[])
def ES (F:Nat) (p0:List UInt8) (p1:List UInt8) {β:Type} (k:Zm->Option β):Option β:=
 (bif ((p1.length:Int) != (16:Int)) then (k ((1:Int),([]:List UInt8))) else ((kN F (p0.length:Int)).bind fun z6=>(bif (z6.2 != (0:Int)) then (k (z6.2,([]:List UInt8))) else ((cw (0:UInt8) z6.1 z6.1).bind fun x7=>((tY F ([]:List UInt8) (UInt64.ofInt (p0.length:Int))).bind fun z8=>((bW (bC x7 0 z8 (Nat.min z8.length (x7.length))).length ((Nat.min z8.length (x7.length)):Int) ((bC x7 0 z8 (Nat.min z8.length (x7.length))).length:Int)).bind fun x9=>((bW (bC (bC x7 0 z8 (Nat.min z8.length (x7.length))) x9.1 p0 (Nat.min p0.length (x9.2 - x9.1))).length (ag (z6.1 - (16:Int))) ((bC (bC x7 0 z8 (Nat.min z8.length (x7.length))) x9.1 p0 (Nat.min p0.length (x9.2 - x9.1))).length:Int)).bind fun jy=>(k ((0:Int),(bC (bC (bC x7 0 z8 (Nat.min z8.length (x7.length))) x9.1 p0 (Nat.min p0.length (x9.2 - x9.1))) jy.1 p1 (Nat.min p1.length (jy.2 - jy.1))))))))))))
def NO (F:Nat) (p0:List UInt8) (p1:List UInt8):=ES F p0 p1 some
def agQ (F:Nat):BN:=
 aq (E:=arv F) st Tryz.func147 ai 0 [] [(.ro .u8),(.ro .u8)] [] [(.rw 0),.i] [.row 5 .u8] (fun x y (z:Int×Za)=>(((),z.1,()),(z.2,()))) (fun x y _ k=>ES F x.1 x.2.1 k) (fun _ _ _ _=>by simp only [ES,oA,oC,oS,oN,ah]) (by kernel_rfl) (fun _ _=>by kernel_rfl)
def atj:Nat->List (Tag×Nat)
 | 7=>[(.p,0),(.p,1),(.p,2),(.p,3),(.p,4),(.r,5),(.p,6),(.p,7),(.p,8),(.r,9),(.p,10),(.p,11),(.w,12)]
 | _=>[]
def WJ (F:Nat):Ev:=ev 35 [] atj
def Dj (F:Nat) (bZ:List UInt8) (dy:List UInt8) (ek:Int) (dA:Int) (bN:List UInt8) {β:Type} (kA:Zm->Option β) (kO:(Za)->Option β):Option β:=
 (bif (decide (dA < ek)) then ((ix bZ dA).bind fun ve=>((ix dy dA).bind fun jx=>((an bN.length dA).bind fun iL=>(kA ((ag (dA + (1:Int))),(List.set bN iL (ve ^^^ jx))))))) else (kO bN))
def qv (F:Nat) (bZ:List UInt8) (dy:List UInt8) (ek:Int) (dA:Int) (bN:List UInt8):=Dj F bZ dy ek dA bN (fun s=>some (Sum.inl s)) (fun z=>some (Sum.inr z))
def asD (F:Nat):LB (WJ F) 0 Tryz.f148:=
 bH st ai [] [1,0,1,1,1] 0 [0,1,6,17,18] [(.ro .u8),(.ro .u8),(.rw 0),.i,.i] [.row 5 .u8] [6] [(.rw 0)] [.row 5 .u8] F (fun x y (s:Int×Za)=>(x.1,x.2.1,(),x.2.2.2.1,s.1,())) (fun x y s=>(s.2,())) (fun x y=>(x.2.2.2.2.1,y.1)) (fun x y (z:Za)=>(((),()),(z,()))) (fun x y s _ kA kO=>Dj F x.1 x.2.1 x.2.2.2.1 s.1 s.2 kA kO) (fun _ _ _ _ _ _=>by simp only [Dj,oA,oC,oS,oN,aU,aT,ah]) (by kernel_rfl) (by kernel_rfl) (fun _ _ _=>by kernel_rfl)
def Jj (F:Nat) (p0:List UInt8) (p1:List UInt8) {β:Type} (k:Zm->Option β):Option β:=
 (bif ((p0.length:Int) != (p1.length:Int)) then (k ((1:Int),([]:List UInt8))) else ((cw (0:UInt8) (p0.length:Int) (p0.length:Int)).bind fun fw=>((iter (fun s=>qv F p0 p1 (p0.length:Int) s.1 s.2) F ((0:Int),fw)).bind fun eY=>(k ((0:Int),eY)))))
def QD (F:Nat) (p0:List UInt8) (p1:List UInt8):=Jj F p0 p1 some
def adv (F:Nat):BN:=
 aq (E:=WJ F) st Tryz.func148 ai 0 [asD F] [(.ro .u8),(.ro .u8)] [] [(.rw 0),.i] [.row 5 .u8] (fun x y (z:Int×Za)=>(((),z.1,()),(z.2,()))) (fun x y _ k=>Jj F x.1 x.2.1 k) (fun _ _ _ _=>by simp only [Jj,oA,oC,oS,oN,ah]) (by kernel_rfl) (fun _ _=>by kernel_rfl)
def aon (F:Nat):Ev:=ev 24 [agQ F,adv F] (fun _=>[])
def FC (F:Nat) (p0:List UInt8) (p1:List UInt8) (p2:List UInt8) {β:Type} (k:Zm->Option β):Option β:=
 ((NO F p2 p1).bind fun z3=>(bif (z3.1 != (0:Int)) then (k (z3.1,([]:List UInt8))) else ((QD F z3.2 p0).bind fun z4=>(k (z4.1,z4.2)))))
def NN (F:Nat) (p0:List UInt8) (p1:List UInt8) (p2:List UInt8):=FC F p0 p1 p2 some
def ahz (F:Nat):BN:=
 aq (E:=aon F) st Tryz.func116 ai 0 [] [(.ro .u8),(.ro .u8),(.ro .u8)] [] [(.rw 0),.i] [.row 5 .u8] (fun x y (z:Int×Za)=>(((),z.1,()),(z.2,()))) (fun x y _ k=>FC F x.1 x.2.1 x.2.2.1 k) (fun _ _ _ _=>by simp only [FC,oA,oC,oS,oN,ah]) (by kernel_rfl) (fun _ _=>by kernel_rfl)
def E70 (F:Nat):Ev:=ev 62 [agI F,alW F,BJ F,aqV F,ahz F] (fun _=>[])
def GJ (F:Nat) (p0:List UInt8) (p1:List UInt8) (p2:List UInt8) (p3:List UInt8) (p4:List UInt8) (p5:Int) (p6:List UInt8) {β:Type} (k:(Za×Int×Int×Int×Za)->Option β):Option β:=
 ((MP F p0 p1 p2 p3 p4 p5 p6).bind fun z6=>(bif (z6.2 != (0:Int)) then (k (([]:List UInt8),(0:Int),(0:Int),z6.2,([]:List UInt8))) else ((PD F p0 p1 p2 p3 p4 p6).bind fun z7=>((kN F (p6.length:Int)).bind fun z8=>((QE F p0 p1 p2 p3 p4 z6.1 z8.1).bind fun z9=>((NN F z9.2 z7.2 p6).bind fun bg=>(k (z6.1,p5,(p6.length:Int),(0:Int),bg.2))))))))
def wF (F:Nat) (p0:List UInt8) (p1:List UInt8) (p2:List UInt8) (p3:List UInt8) (p4:List UInt8) (p5:Int) (p6:List UInt8):=GJ F p0 p1 p2 p3 p4 p5 p6 some
def Ou (F:Nat):BN:=
 aq (E:=E70 F) st Tryz.func70 ai 0 [] [(.pr .str (.pr .str (.pr .str (.pr .str (.pr .str .un))))),.i,(.ro .u8)] [] [(.pr .str (.pr .i (.pr .i .un))),(.rw 0),.i] [.row 5 .u8] (fun x y (z:Za×Int×Int×Int×Za)=>(((z.1,z.2.1,z.2.2.1,()),(),z.2.2.2.1,()),(z.2.2.2.2,()))) (fun x y _ k=>GJ F x.1.1 x.1.2.1 x.1.2.2.1 x.1.2.2.2.1 x.1.2.2.2.2.1 x.2.1 x.2.2.1 k) (fun _ _ _ _=>by simp only [GJ,oA,oC,oS,oN,ah]) (by kernel_rfl) (fun _ _=>by kernel_rfl)
def E76 (F:Nat):Ev:=ev 19 [QV F,Ou F] (fun _=>[])
def K5 (F:Nat) (p0:UInt8) (p1:List UInt8) {β:Type} (k:(Za×Int×Int×Int)->Option β):Option β:=
 ((Dm F p0).bind fun z3=>((wF F z3.1 z3.2.1 z3.2.2.1 z3.2.2.2.1 z3.2.2.2.2 (0:Int) p1).bind fun z4=>(k (z4.1,z4.2.1,z4.2.2.1,z4.2.2.2.1))))
def WN (F:Nat) (p0:UInt8) (p1:List UInt8):=K5 F p0 p1 some
def anH (F:Nat):BN:=
 aq (E:=E76 F) st Tryz.func76 ai 0 [] [.u8,(.ro .u8)] [] [(.pr .str (.pr .i (.pr .i .un))),.i] [] (fun x y (z:Za×Int×Int×Int)=>(((z.1,z.2.1,z.2.2.1,()),z.2.2.2,()),())) (fun x y _ k=>K5 F x.1 x.2.1 k) (fun _ _ _ _=>by simp only [K5,oA,oC,oS,oN,ah]) (by kernel_rfl) (fun _ _=>by kernel_rfl)
def E29 (F:Nat):Ev:=ev 37 [anH F] (fun _=>[])
def DS (F:Nat) (bw:UInt8) (fF:Int) (ea:Int) (dx:List UInt8) {β:Type} (kA:Zm->Option β) (kO:(Za)->Option β):Option β:=
 (bif (decide (ea < fF)) then ((an dx.length ea).bind fun gV=>(kA ((ag (ea + (1:Int))),(List.set dx gV ((UInt8.ofInt (ag (ea * ea))) + bw))))) else (kO dx))
def Ii (F:Nat) (bw:UInt8) (fF:Int) (ea:Int) (dx:List UInt8):=DS F bw fF ea dx (fun s=>some (Sum.inl s)) (fun z=>some (Sum.inr z))
def akr (F:Nat):LB (E29 F) 0 Tryz.f29:=
 bH st ai [] [1,0,1,1] 0 [0,1,5,6] [.u8,.i,(.rw 0),.i] [.row 5 .u8] [0,5] [.u8,(.rw 0)] [.row 5 .u8] F (fun x y (s:Int×Za)=>(x.1,x.2.1,(),s.1,())) (fun x y s=>(s.2,())) (fun x y=>(x.2.2.2.1,y.1)) (fun x y (z:Za)=>((x.1,(),()),(z,()))) (fun x y s _ kA kO=>DS F x.1 x.2.1 s.1 s.2 kA kO) (fun _ _ _ _ _ _=>by simp only [DS,oA,oC,oS,oN,aU,aT,ah]) (by kernel_rfl) (by kernel_rfl) (fun _ _ _=>by kernel_rfl)
def H6 (F:Nat) (p0:UInt8) (p1:Int) {β:Type} (k:((List (Zb×Za×Unit)))->Option β):Option β:=
 ((cw (0:UInt8) p1 p1).bind fun jy=>((iter (fun s=>Ii F p0 p1 s.1 s.2) F ((0:Int),jy)).bind fun sU=>((WN F p0 sU).bind fun gU=>(bif (gU.2.2.2 != (0:Int)) then (k ([]:List (Zb×Za×Unit))) else (k ([((gU.1,gU.2.1,gU.2.2.1,()),sU,())]:List (Zb×Za×Unit)))))))
def Ss (F:Nat) (p0:UInt8) (p1:Int):=H6 F p0 p1 some
def agm (F:Nat):BN:=
 aq (E:=E29 F) st Tryz.func29 ai 0 [akr F] [.u8,.i] [] [(.rw 0)] [.row 148 (.pr (.pr .s (.pr .i (.pr .i .un))) (.pr (.sl .u8) .un))] (fun x y (z:(List (Zb×Za×Unit)))=>(((),()),(z,()))) (fun x y _ k=>H6 F x.1 x.2.1 k) (fun _ _ _ _=>by simp only [H6,oA,oC,oS,oN,ah]) (by kernel_rfl) (fun _ _=>by kernel_rfl)
def aax (F:Nat):Ev:=ev 44 [] (fun _=>[])
def vg (F:Nat) (y8:List Zb) (y9:Int) (bP:Int) (bw:List (Za×Bool)) {β:Type} (kA:(Int×(List (Za×Bool)))->Option β) (kO:Unit->Option β) (kR:Bool->Option β):Option β:=
 (bif (decide (bP < y9)) then ((ix y8 bP).bind fun i4=>(bif ((i4.1.length:Int) != (32:Int)) then (kR false) else (bif (decide (i4.2.1 < (0:Int))) then (kR false) else (bif (decide (i4.2.2.1 < (0:Int))) then (kR false) else (bif (decide ((32768:Int) < i4.2.2.1)) then (kR false) else (bif (eM .s bw i4.1 false) then (kR false) else (kA ((ag (bP + (1:Int))),(cJ .s bw i4.1 true))))))))) else (kO ()))
def yU (F:Nat) (y8:List Zb) (y9:Int) (bP:Int) (bw:List (Za×Bool)):Option ((Int×(List (Za×Bool))) ⊕ ((Unit) ⊕ (Bool))):=vg F y8 y9 bP bw (fun s=>some (.inl s)) (fun z=>some (.inr (.inl z))) (fun z=>some (.inr (.inr z)))
def aq7 (F:Nat):LB (aax F) 0 Tryz.f118:=
 gH st ai [] [1,0,1,1] 0 [3,9,10,11] [(.mp 0),(.ro Qe),.i,.i] [.mp .s .bo] [] [] [] [2] [.bo] [] F (fun x y (s:Int×(List (Za×Bool)))=>((),x.2.1,x.2.2.1,s.1,())) (fun x y s=>(s.2,())) (fun x y=>(x.2.2.2.1,y.1)) (fun x y (z:Unit)=>((),())) (fun x y (z:Bool)=>((z,()),())) (fun x y s _ kA kO kR=>vg F x.2.1 x.2.2.1 s.1 s.2 kA kO kR) (fun _ _ _ _ _ _ _=>by simp only [vg,oA,oC,oS,oN,aU,aT,ah]) (by kernel_rfl) (by kernel_rfl) (fun _ _ _=>by kernel_rfl)
def KO (F:Nat) (p0:List Zb) {β:Type} (k:Bool->Option β):Option β:=
 ((iter (fun s=>yU F p0 (p0.length:Int) s.1 s.2) F ((0:Int),([]:List (Za×Bool)))).bind fun fk=>bz (fun fk=>(k true)) (fun fk=>(k fk)) fk)
def xS (F:Nat) (p0:List Zb):=KO F p0 some
def Nc (F:Nat):BN:=
 aq (E:=aax F) st Tryz.func118 ai 0 [aq7 F] [(.ro Qe)] [] [.bo] [] (fun x y (z:Bool)=>((z,()),())) (fun x y _ k=>KO F x.1 k) (fun _ _ _ _=>by simp only [KO,oA,oC,oS,oN,ah]) (by kernel_rfl) (fun _ _=>by kernel_rfl)
def ar6:Nat->List (Tag×Nat)
 | 14=>[(.p,0),(.p,1),(.p,2),(.p,3),(.p,4),(.c,5),(.r,6),(.w,7),(.b,8),(.p,9),(.b,10)]
 | _=>[]
def UB (F:Nat):Ev:=rW 75 [Nc F,BJ F] ar6
def Bk (F:Nat) (RJ:Int) (Pe:List Zb) (PR:Int) (vT:Int) (dU:List (Option Zn)×List Nat) (qb:List Zv) {β:Type} (kA:(Int×(List (Option Zn)×List Nat)×(List Zv))->Option β) (kO:((List (Option Zn)×List Nat))->Option β):Option β:=
 (bif (decide (vT < PR)) then ((ix Pe vT).bind fun nN=>((kN F nN.2.2.1).bind fun zj=>(bif (!(mc .i qb zj.1)) then ((aD dU.2 (ng dU.1.length ([0]:List Nat))).bind fun Ft=>((an Ft.length (dU.2.length:Int)).bind fun ae9=>((so Ft ae9).bind fun Fz=>((fC (dU.1 ++ ([some []]:List (Option Zn))) Fz).bind fun zA=>((fC (dU.1 ++ ([some []]:List (Option Zn))) Fz).bind fun MN=>((aD MN ([(nN.1,nN.2.1,nN.2.2.1,())]:List Zb)).bind fun SC=>((an Ft.length (dU.2.length:Int)).bind fun D8=>(kA ((ag (vT + (1:Int))),(((List.set (dU.1 ++ ([some []]:List (Option Zn))) Fz none) ++ [some SC]),(List.set Ft D8 (List.set (dU.1 ++ ([some []]:List (Option Zn))) Fz none).length)),(cJ .i qb zj.1 (dU.2.length:Int))))))))))) else ((an dU.2.length (eM .i qb zj.1 (0:Int))).bind fun jS=>((so dU.2 jS).bind fun yK=>((fC dU.1 yK).bind fun JJ=>((fC dU.1 yK).bind fun uY=>(bif (decide (RJ≤(uY.length:Int))) then ((aD dU.2 (ng dU.1.length ([0]:List Nat))).bind fun rH=>((an rH.length (dU.2.length:Int)).bind fun uw=>((so rH uw).bind fun sK=>((fC (dU.1 ++ ([some []]:List (Option Zn))) sK).bind fun wE=>((fC (dU.1 ++ ([some []]:List (Option Zn))) sK).bind fun g_=>((aD g_ ([(nN.1,nN.2.1,nN.2.2.1,())]:List Zb)).bind fun oF=>((an rH.length (dU.2.length:Int)).bind fun vn=>(kA ((ag (vT + (1:Int))),(((List.set (dU.1 ++ ([some []]:List (Option Zn))) sK none) ++ [some oF]),(List.set rH vn (List.set (dU.1 ++ ([some []]:List (Option Zn))) sK none).length)),(cJ .i qb zj.1 (dU.2.length:Int))))))))))) else ((an dU.2.length (eM .i qb zj.1 (0:Int))).bind fun Ch=>((so dU.2 Ch).bind fun fZ=>((fC dU.1 fZ).bind fun yo=>((fC dU.1 fZ).bind fun ph=>((aD ph ([(nN.1,nN.2.1,nN.2.2.1,())]:List Zb)).bind fun qc=>((an dU.2.length (eM .i qb zj.1 (0:Int))).bind fun mB=>(kA ((ag (vT + (1:Int))),(((List.set dU.1 fZ none) ++ [some qc]),(List.set dU.2 mB (List.set dU.1 fZ none).length)),qb)))))))))))))))) else (kO dU))
def uH (F:Nat) (RJ:Int) (Pe:List Zb) (PR:Int) (vT:Int) (dU:List (Option Zn)×List Nat) (qb:List Zv):=Bk F RJ Pe PR vT dU qb (fun s=>some (Sum.inl s)) (fun z=>some (Sum.inr z))
def ah0 (F:Nat):LB (UB F) 0 Tryz.f74:=
 bH vX ai [] [1,0,1,1,1,1] 0 [1,6,7,26,27,28] [.i,(.rw 0),(.mp 1),(.ro Qe),.i,.i] [.rr 139 136 (.pr .s (.pr .i (.pr .i .un))),.mp .i .i] [6] [(.rw 0)] [.rr 139 136 (.pr .s (.pr .i (.pr .i .un)))] F (fun x y (s:Int×(List (Option Zn)×List Nat)×(List Zv))=>(x.1,(),(),x.2.2.2.1,x.2.2.2.2.1,s.1,())) (fun x y s=>(s.2.1,s.2.2,())) (fun x y=>(x.2.2.2.2.2.1,y.1,y.2.1)) (fun x y (z:(List (Option Zn)×List Nat))=>(((),()),(z,()))) (fun x y s _ kA kO=>Bk F x.1 x.2.2.2.1 x.2.2.2.2.1 s.1 s.2.1 s.2.2 kA kO) (fun _ _ _ _ _ _=>by simp only [Bk,oA,oC,oS,oN,aU,aT,ah]) (by kernel_rfl) (by kernel_rfl) (fun _ _ _=>by kernel_rfl)
def KV (F:Nat) (p0:List Zb) (p1:Int) {β:Type} (k:((List Zn)×Int)->Option β):Option β:=
 (bif (decide (p1 < (1:Int))) then (k (([]:List Zn),(1:Int))) else (bif (decide ((8:Int) < p1)) then (k (([]:List Zn),(1:Int))) else ((xS F p0).bind fun z75=>(bif (!z75) then (k (([]:List Zn),(1:Int))) else ((iter (fun s=>uH F p1 p0 (p0.length:Int) s.1 s.2.1 s.2.2) F ((0:Int),(([]:List (Option Zn)),([]:List Nat)),([]:List Zv))).bind fun Uq=>((n9 Uq.1 Uq.2).bind fun mz=>(k (mz,(0:Int)))))))))
def Q0 (F:Nat) (p0:List Zb) (p1:Int):=KV F p0 p1 some
def acv (F:Nat):BN:=
 aq (E:=UB F) vX Tryz.func74 ai 0 [ah0 F] [(.ro Qe),.i] [] [(.ro (.sl Qe)),.i] [] (fun x y (z:(List Zn)×Int)=>((z.1,z.2,()),())) (fun x y _ k=>KV F x.1 x.2.1 k) (fun _ _ _ _=>by simp only [KV,oA,oC,oS,oN,ah]) (by kernel_rfl) (fun _ _=>by kernel_rfl)
def aiv (F:Nat):Ev:=ev 20 [] (fun _=>[])
def Cu (F:Nat) (p0:Int) (p1:Int) {β:Type} (k:Bool->Option β):Option β:=
 (bif (decide ((1:Int)≤p0)) then (bif (decide (p0≤(8:Int))) then (bif (decide (p0≤p1)) then (k (decide (p1≤(16:Int)))) else (k false)) else (k false)) else (k false))
def vU (F:Nat) (p0:Int) (p1:Int):=Cu F p0 p1 some
def RY (F:Nat):BN:=
 aq (E:=aiv F) st Tryz.func117 ai 0 [] [.i,.i] [] [.bo] [] (fun x y (z:Bool)=>((z,()),())) (fun x y _ k=>Cu F x.1 x.2.1 k) (fun _ _ _ _=>by simp only [Cu,oA,oC,oS,oN,ah]) (by kernel_rfl) (fun _ _=>by kernel_rfl)
def aem (F:Nat):Ev:=ev 20 [BJ F] (fun _=>[])
def Ew (F:Nat) (p2:Int) (p3:Int) {β:Type} (k:Bool->Option β):Option β:=
 ((kN F p2).bind fun z2=>(bif (z2.2 == (0:Int)) then (k (z2.1 == p3)) else (k false)))
def JD (F:Nat) (p2:Int) (p3:Int):=Ew F p2 p3 some
def aaN (F:Nat):BN:=
 aq (E:=aem F) st Tryz.func119 ai 0 [] [(.pr .str (.pr .i (.pr .i .un))),.i] [] [.bo] [] (fun x y (z:Bool)=>((z,()),())) (fun x y _ k=>Ew F x.1.2.2.1 x.2.1 k) (fun _ _ _ _=>by simp only [Ew,oA,oC,oS,oN,ah]) (by kernel_rfl) (fun _ _=>by kernel_rfl)
def Z5 (F:Nat):Ev:=ev 29 [] (fun _=>[])
def DT (F:Nat) (bP:List Za) (bw:List Za) (fF:Int) (ea:Int) {β:Type} (kA:Int->Option β) (kO:Unit->Option β) (kR:Bool->Option β):Option β:=
 (bif (decide (ea < fF)) then ((ix bw ea).bind fun gV=>(bif ((gV.length:Int) == (0:Int)) then (kR false) else (bif (decide ((65536:Int) < (gV.length:Int))) then (kR false) else ((ix bP (0:Int)).bind fun j4=>(bif ((gV.length:Int) != (j4.length:Int)) then (kR false) else (kA (ag (ea + (1:Int))))))))) else (kO ()))
def Gr (F:Nat) (bP:List Za) (bw:List Za) (fF:Int) (ea:Int):Option ((Int) ⊕ ((Unit) ⊕ (Bool))):=DT F bP bw fF ea (fun s=>some (.inl s)) (fun z=>some (.inr (.inl z))) (fun z=>some (.inr (.inr z)))
def aej (F:Nat):LB (Z5 F) 0 Tryz.f171:=
 gH st ai [] [1,0,1] 0 [0,5,6,7] [(.ro Qm),(.ro Qm),.i,.i] [] [] [] [] [2] [.bo] [] F (fun x y (s:Int)=>(x.1,x.2.1,x.2.2.1,s,())) (fun x y s=>()) (fun x y=>x.2.2.2.1) (fun x y (z:Unit)=>((),())) (fun x y (z:Bool)=>((z,()),())) (fun x y s _ kA kO kR=>DT F x.1 x.2.1 x.2.2.1 s kA kO kR) (fun _ _ _ _ _ _ _=>by simp only [DT,oA,oC,oS,oN,aU,aT,ah]) (by kernel_rfl) (by kernel_rfl) (fun _ _ _=>by kernel_rfl)
def I8 (F:Nat) (p0:List Za) {β:Type} (k:Bool->Option β):Option β:=
 ((iter (fun s=>Gr F p0 p0 (p0.length:Int) s) F (0:Int)).bind fun gU=>bz (fun gU=>(k true)) (fun gU=>(k gU)) gU)
def MW (F:Nat) (p0:List Za):=I8 F p0 some
def adE (F:Nat):BN:=
 aq (E:=Z5 F) st Tryz.func171 ai 0 [aej F] [(.ro Qm)] [] [.bo] [] (fun x y (z:Bool)=>((z,()),())) (fun x y _ k=>I8 F x.1 k) (fun _ _ _ _=>by simp only [I8,oA,oC,oS,oN,ah]) (by kernel_rfl) (fun _ _=>by kernel_rfl)
def aqK (F:Nat):Ev:=ev 8 [] (fun _=>[])
def SS (F:Nat) {β:Type} (k:(Zd)->Option β):Option β:=
 (k ([]:List Za))
def aop (F:Nat):=SS F some
def akR (F:Nat):BN:=
 aq (E:=aqK F) st Tryz.func172 ai 0 [] [.nn] [] [(.rw 0)] [.row 26 Qm] (fun x y (z:Zd)=>(((),()),(z,()))) (fun x y _ k=>SS F k) (fun _ _ _ _=>by simp only [SS,oA,oC,oS,oN,ah]) (by kernel_rfl) (fun _ _=>by kernel_rfl)
def aeY (F:Nat):Ev:=ev 8 [] (fun _=>[])
def Q6 (F:Nat) (p0:List Za) {β:Type} (k:(Zd)->Option β):Option β:=
 ((aD ([]:List Za) p0).bind fun x2=>(k x2))
def Vh (F:Nat) (p0:List Za):=Q6 F p0 some
def ajH (F:Nat):BN:=
 aq (E:=aeY F) st Tryz.func172 ai 0 [] [(.rn (.sl .u8))] [] [(.rw 0)] [.row 26 Qm] (fun x y (z:Zd)=>(((),()),(z,()))) (fun x y _ k=>Q6 F x.1 k) (fun _ _ _ _=>by simp only [Q6,oA,oC,oS,oN,ah]) (by kernel_rfl) (fun _ _=>by kernel_rfl)
def Pa (F:Nat) (p0:List Za):Option Zd:=Vh F p0
def XU (F:Nat):Ct:=cu 0 [.ro Qm] [] [.rw 0] [.row 26 Qm] (fun x _=>Pa F x.1) (fun _ _ (z:List Za)=>(((),()),(z,())))
theorem ame (F:Nat):Sound Tryz.prog cfg 172 (XU F):=FR (t:=(.sl .u8)) (aop F) (fun p=>Vh F p) ((akR F).ok) ((ajH F).ok) rfl
def anY (F:Nat):BN:=⟨172,XU F,ame F,_,Tryz.func172,rfl,rfl⟩
def agX (F:Nat):Ev:=ev 11 [] (fun _=>[])
def L2 (F:Nat) (p0:UInt8) {β:Type} (k:UInt8->Option β):Option β:=
 (bif ((p0 &&& (UInt8.ofNat 128)) != (UInt8.ofNat 0)) then (k ((Aj p0 ((UInt64.ofNat 1).toNat)) ^^^ (UInt8.ofNat 29))) else (k (Aj p0 ((UInt64.ofNat 1).toNat))))
def Ej (F:Nat) (p0:UInt8):=L2 F p0 some
def aix (F:Nat):BN:=
 aq (E:=agX F) st Tryz.func253 ai 0 [] [.u8] [] [.u8] [] (fun x y (z:UInt8)=>((z,()),())) (fun x y _ k=>L2 F x.1 k) (fun _ _ _ _=>by simp only [L2,oA,oC,oS,oN,ah]) (by kernel_rfl) (fun _ _=>by kernel_rfl)
def UX (F:Nat):Ev:=ev 19 [aix F] (fun _=>[])
def HX (F:Nat) (y9:UInt8) (bP:UInt8) (bw:UInt8) {β:Type} (kA:(UInt8×UInt8×UInt8)->Option β) (kO:UInt8->Option β):Option β:=
 (bif (bP != (UInt8.ofNat 0)) then (bif ((bP &&& (UInt8.ofNat 1)) == (UInt8.ofNat 1)) then ((Ej F y9).bind fun fk=>(kA (fk,(lf bP ((UInt64.ofNat 1).toNat)),(bw ^^^ y9)))) else ((Ej F y9).bind fun eR=>(kA (eR,(lf bP ((UInt64.ofNat 1).toNat)),bw)))) else (kO bw))
def vq (F:Nat) (y9:UInt8) (bP:UInt8) (bw:UInt8):=HX F y9 bP bw (fun s=>some (Sum.inl s)) (fun z=>some (Sum.inr z))
def af3 (F:Nat):LB (UX F) 0 Tryz.f227:=
 bH st ai [] [0,1,1] 0 [0,1,5] [.u8,.u8,.u8] [] [5] [.u8] [] F (fun x y (s:UInt8×UInt8×UInt8)=>(s.1,s.2.1,s.2.2,())) (fun x y s=>()) (fun x y=>(x.1,x.2.1,x.2.2.1)) (fun x y (z:UInt8)=>((z,()),())) (fun x y s _ kA kO=>HX F s.1 s.2.1 s.2.2 kA kO) (fun _ _ _ _ _ _=>by simp only [HX,oA,oC,oS,oN,aU,aT,ah]) (by kernel_rfl) (by kernel_rfl) (fun _ _ _=>by kernel_rfl)
def I7 (F:Nat) (p0:UInt8) (p1:UInt8) {β:Type} (k:UInt8->Option β):Option β:=
 ((iter (fun s=>vq F s.1 s.2.1 s.2.2) F (p0,p1,(UInt8.ofNat 0))).bind fun cq=>(k cq))
def yd (F:Nat) (p0:UInt8) (p1:UInt8):=I7 F p0 p1 some
def XD (F:Nat):BN:=
 aq (E:=UX F) st Tryz.func227 ai 0 [af3 F] [.u8,.u8] [] [.u8] [] (fun x y (z:UInt8)=>((z,()),())) (fun x y _ k=>I7 F x.1 x.2.1 k) (fun _ _ _ _=>by simp only [I7,oA,oC,oS,oN,ah]) (by kernel_rfl) (fun _ _=>by kernel_rfl)
def abF (F:Nat):Ev:=ev 17 [XD F] (fun _=>[])
def AQ (F:Nat) (y9:UInt8) (bP:UInt8) (bw:Int) {β:Type} (kA:(UInt8×UInt8×Int)->Option β) (kO:UInt8->Option β):Option β:=
 (bif (decide (bw < (7:Int))) then ((yd F y9 y9).bind fun fk=>((yd F bP fk).bind fun eR=>(kA (fk,eR,(ag (bw + (1:Int))))))) else (kO bP))
def CI (F:Nat) (y9:UInt8) (bP:UInt8) (bw:Int):=AQ F y9 bP bw (fun s=>some (Sum.inl s)) (fun z=>some (Sum.inr z))
def ap7 (F:Nat):LB (abF F) 0 Tryz.f205:=
 bH st ai [] [1,0,1,1,1] 0 [0,4,7] [.u8,.u8,.i] [] [4] [.u8] [] F (fun x y (s:UInt8×UInt8×Int)=>(s.1,s.2.1,s.2.2,())) (fun x y s=>()) (fun x y=>(x.1,x.2.1,x.2.2.1)) (fun x y (z:UInt8)=>((z,()),())) (fun x y s _ kA kO=>AQ F s.1 s.2.1 s.2.2 kA kO) (fun _ _ _ _ _ _=>by simp only [AQ,oA,oC,oS,oN,aU,aT,ah]) (by kernel_rfl) (by kernel_rfl) (fun _ _ _=>by kernel_rfl)
def Ah (F:Nat) (p0:UInt8) {β:Type} (k:(UInt8×Int)->Option β):Option β:=
 (bif (p0 == (UInt8.ofNat 0)) then (k ((UInt8.ofNat 0),(1:Int))) else ((iter (fun s=>CI F s.1 s.2.1 s.2.2) F (p0,(UInt8.ofNat 1),(0:Int))).bind fun cq=>(k (cq,(0:Int)))))
def Jq (F:Nat) (p0:UInt8):=Ah F p0 some
def ahg (F:Nat):BN:=
 aq (E:=abF F) st Tryz.func205 ai 0 [ap7 F] [.u8] [] [.u8,.i] [] (fun x y (z:UInt8×Int)=>((z.1,z.2,()),())) (fun x y _ k=>Ah F x.1 k) (fun _ _ _ _=>by simp only [Ah,oA,oC,oS,oN,ah]) (by kernel_rfl) (fun _ _=>by kernel_rfl)
def aol:Nat->List (Tag×Nat)
 | 9=>[(.p,0),(.p,1),(.p,2),(.p,3),(.p,4),(.p,5),(.p,6),(.p,11),(.p,12),(.p,13),(.w,7),(.p,8),(.p,9),(.p,10),(.p,14),(.w,15)]
 | _=>[]
def TL (F:Nat):Ev:=ev 47 [ahg F] aol
def tr (F:Nat) (fh:Int) (iC:Int) (gY:Int) (eS:Int) (gL:Vector Zq 16) {β:Type} (kA:(Int×(Vector Zq 16))->Option β) (kO:((Vector Zq 16))->Option β):Option β:=
 (bif (decide (eS < gY)) then (bif (decide (fh≤iC)) then ((an 16 iC).bind fun Wm=>((Jq F (UInt8.ofInt (AG iC eS))).bind fun D6=>((an 8 eS).bind fun Bj=>((aA gL Wm).bind fun CU=>(kA ((ag (eS + (1:Int))),(Vector.setIfInBounds gL Wm (Vector.setIfInBounds CU Bj D6.1)))))))) else (bif (iC == eS) then ((an 16 iC).bind fun vO=>((an 8 eS).bind fun BW=>((aA gL vO).bind fun lO=>(kA ((ag (eS + (1:Int))),(Vector.setIfInBounds gL vO (Vector.setIfInBounds lO BW (UInt8.ofNat 1)))))))) else (kA ((ag (eS + (1:Int))),gL)))) else (kO gL))
def tW (F:Nat) (fh:Int) (iC:Int) (gY:Int) (eS:Int) (gL:Vector Zq 16):=tr F fh iC gY eS gL (fun s=>some (Sum.inl s)) (fun z=>some (Sum.inr z))
def ado (F:Nat):LB (TL F) 0 Tryz.f174:=
 bH st ai [] [1,1,0,0,1,1,0,0,1,0,1,1] 2 [0,3,4,9,12,13] [.i,(.pt 0 []),.i,.i,.i,.i] [.blk 331 Qq] [0,3,9] [.i,(.pt 0 []),.i] [.blk 331 Qq] F (fun x y (s:Int×(Vector Zq 16))=>(x.1,(),x.2.2.1,x.2.2.2.1,x.2.2.2.2.1,s.1,())) (fun x y s=>((y.1.1,s.2,()),())) (fun x y=>(x.2.2.2.2.2.1,y.1.2.1)) (fun x y (z:(Vector Zq 16))=>((x.1,(),x.2.2.2.1,()),((y.1.1,z,()),()))) (fun x y s _ kA kO=>tr F x.1 x.2.2.1 x.2.2.2.2.1 s.1 s.2 kA kO) (fun _ _ _ _ _ _=>by simp only [tr,oA,oC,oS,oN,aU,aT,ah]) (by kernel_rfl) (by kernel_rfl) (fun _ _ _=>by kernel_rfl)
def Am (F:Nat) (oM:Int) (dW:Int) (fJ:Vector Zq 16) {β:Type} (kA:(Int×(Vector Zq 16))->Option β) (kO:((Vector Zq 16))->Option β):Option β:=
 (bif (decide (dW < (16:Int))) then ((iter (fun s=>tW F oM dW oM s.1 s.2) F ((0:Int),fJ)).bind fun CN=>(kA ((ag (dW + (1:Int))),CN))) else (kO fJ))
def JT (F:Nat) (oM:Int) (dW:Int) (fJ:Vector Zq 16):=Am F oM dW fJ (fun s=>some (Sum.inl s)) (fun z=>some (Sum.inr z))
def af7 (F:Nat):LB (TL F) 0 Tryz.f174:=
 bH st ai [ado F] [1,0,1,1] 0 [0,3,9] [.i,(.pt 0 []),.i] [.blk 331 Qq] [3] [(.pt 0 [])] [.blk 331 Qq] F (fun x y (s:Int×(Vector Zq 16))=>(x.1,(),s.1,())) (fun x y s=>((y.1.1,s.2,()),())) (fun x y=>(x.2.2.1,y.1.2.1)) (fun x y (z:(Vector Zq 16))=>(((),()),((y.1.1,z,()),()))) (fun x y s _ kA kO=>Am F x.1 s.1 s.2 kA kO) (fun _ _ _ _ _ _=>by simp only [Am,oA,oC,oS,oN,aU,aT,ah]) (by kernel_rfl) (by kernel_rfl) (fun _ _ _=>by kernel_rfl)
def FJ (F:Nat) (p0:Int) {β:Type} (k:((Vector Zq 16))->Option β):Option β:=
 ((iter (fun s=>JT F p0 s.1 s.2) F ((0:Int),(Vector.replicate 16 (Vector.replicate 8 (0:UInt8))))).bind fun PJ=>(k PJ))
def NM (F:Nat) (p0:Int):=FJ F p0 some
def aeo (F:Nat):BN:=
 aq (E:=TL F) st Tryz.func174 ai 0 [af7 F] [.i] [] [(.pt 0 [])] [.blk 331 Qq] (fun x y (z:(Vector Zq 16))=>(((),()),((x.1,z,()),()))) (fun x y _ k=>FJ F x.1 k) (fun _ _ _ _=>by simp only [FJ,oA,oC,oS,oN,ah]) (by kernel_rfl) (fun _ _=>by kernel_rfl)
def anB:Nat->List (Tag×Nat)
 | 5=>[(.p,0),(.p,1),(.p,3),(.p,4),(.p,5),(.p,6),(.p,7),(.p,8),(.p,9),(.p,10),(.c,11),(.p,12),(.w,2),(.w,13),(.p,14),(.b,15)]
 | _=>[]
def X5 (F:Nat):Ev:=ev 35 [] anB
def AZ (F:Nat) (cP:List Int) (dK:Int) (eP:Int) (nL:Vector Zq 16) (gp:Int) (ny:List Za) {β:Type} (kA:(Int×Zd)->Option β) (kO:(Zd)->Option β):Option β:=
 (bif (decide (gp < dK)) then ((ix cP gp).bind fun PP=>((an 16 PP).bind fun QB=>((bW 8 (0:Int) eP).bind fun BF=>((aA nL QB).bind fun FG=>((aD ([]:List UInt8) ((FG.toList.drop BF.1).take (BF.2 - BF.1))).bind fun f9=>((an ny.length gp).bind fun C8=>(kA ((ag (gp + (1:Int))),(List.set ny C8 f9))))))))) else (kO ny))
def AF (F:Nat) (cP:List Int) (dK:Int) (eP:Int) (nL:Vector Zq 16) (gp:Int) (ny:List Za):=AZ F cP dK eP nL gp ny (fun s=>some (Sum.inl s)) (fun z=>some (Sum.inr z))
def aoZ (F:Nat):LB (X5 F) 1 Tryz.f175:=
 bH st ai [] [1,0,1,1] 0 [0,5,11,12,13] [(.pt 0 []),(.rw 1),(.ro .i),.i,.i] [.blk 331 Qq,.row 26 Qm] [5] [(.rw 1)] [.blk 331 Qq,.row 26 Qm] F (fun x y (s:Int×Zd)=>((),(),x.2.2.1,x.2.2.2.1,s.1,())) (fun x y s=>((y.1.1,y.1.2.1,()),s.2,())) (fun x y=>(x.2.2.2.2.1,y.2.1)) (fun x y (z:Zd)=>(((),()),((y.1.1,y.1.2.1,()),z,()))) (fun x y s _ kA kO=>AZ F x.2.2.1 x.2.2.2.1 y.1.1 y.1.2.1 s.1 s.2 kA kO) (fun _ _ _ _ _ _=>by simp only [AZ,oA,oC,oS,oN,aU,aT,ah]) (by kernel_rfl) (by kernel_rfl) (fun _ _ _=>by kernel_rfl)
def JH (F:Nat) (p0:List Int) (p1:Int) (p2:Vector Zq 16) {β:Type} (k:(Zd)->Option β):Option β:=
 ((cw ([]:List UInt8) (p0.length:Int) (p0.length:Int)).bind fun Mk=>((iter (fun s=>AF F p0 (p0.length:Int) p1 p2 s.1 s.2) F ((0:Int),Mk)).bind fun BR=>(k BR)))
def Rr (F:Nat) (p0:List Int) (p1:Int) (p2:Vector Zq 16):=JH F p0 p1 p2 some
def ah7 (F:Nat):BN:=
 aq (E:=X5 F) st Tryz.func175 ai 1 [aoZ F] [(.pt 0 []),(.ro .i)] [.blk 331 Qq] [(.rw 1)] [.blk 331 Qq,.row 26 Qm] (fun x y (z:Zd)=>(((),()),((y.1.1,y.1.2.1,()),z,()))) (fun x y _ k=>JH F x.2.1 y.1.1 y.1.2.1 k) (fun _ _ _ _=>by simp only [JH,oA,oC,oS,oN,ah]) (by kernel_rfl) (fun _ _=>by kernel_rfl)
def aeN (F:Nat):Ev:=ev 10 [] (fun _=>[])
def FK (F:Nat) (p0:List Za) {β:Type} (k:Int->Option β):Option β:=
 (bif ((p0.length:Int) == (0:Int)) then (k (0:Int)) else ((ix p0 (0:Int)).bind fun x2=>(k (x2.length:Int))))
def AU (F:Nat) (p0:List Za):=FK F p0 some
def Yj (F:Nat):BN:=
 aq (E:=aeN F) st Tryz.func203 ai 0 [] [(.ro Qm)] [] [.i] [] (fun x y (z:Int)=>((z,()),())) (fun x y _ k=>FK F x.1 k) (fun _ _ _ _=>by simp only [FK,oA,oC,oS,oN,ah]) (by kernel_rfl) (fun _ _=>by kernel_rfl)
def Vj (F:Nat):Ev:=ev 27 [Yj F] (fun _=>[])
def At (F:Nat) (fF:List Za) (ea:List Za) (dx:Int) (bZ:Int) {β:Type} (kA:Int->Option β) (kO:Unit->Option β) (kR:Bool->Option β):Option β:=
 (bif (decide (bZ < dx)) then ((ix ea bZ).bind fun m8=>((ix fF (0:Int)).bind fun nF=>(bif ((m8.length:Int) != (nF.length:Int)) then (kR false) else (kA (ag (bZ + (1:Int))))))) else (kO ()))
def J1 (F:Nat) (fF:List Za) (ea:List Za) (dx:Int) (bZ:Int):Option ((Int) ⊕ ((Unit) ⊕ (Bool))):=At F fF ea dx bZ (fun s=>some (.inl s)) (fun z=>some (.inr (.inl z))) (fun z=>some (.inr (.inr z)))
def af0 (F:Nat):LB (Vj F) 0 Tryz.f202:=
 gH st ai [] [1,0,1,1] 0 [0,13,14,15] [(.ro Qm),(.ro Qm),.i,.i] [] [] [] [] [2] [.bo] [] F (fun x y (s:Int)=>(x.1,x.2.1,x.2.2.1,s,())) (fun x y s=>()) (fun x y=>x.2.2.2.1) (fun x y (z:Unit)=>((),())) (fun x y (z:Bool)=>((z,()),())) (fun x y s _ kA kO kR=>At F x.1 x.2.1 x.2.2.1 s kA kO kR) (fun _ _ _ _ _ _ _=>by simp only [At,oA,oC,oS,oN,aU,aT,ah]) (by kernel_rfl) (by kernel_rfl) (fun _ _ _=>by kernel_rfl)
def IW (F:Nat) (p0:List Za) {β:Type} (k:Bool->Option β):Option β:=
 (bif (decide ((64:Int) < (p0.length:Int))) then (k false) else ((AU F p0).bind fun dG=>(bif (decide ((64:Int) < dG)) then (k false) else ((iter (fun s=>J1 F p0 p0 (p0.length:Int) s) F (0:Int)).bind fun qm=>bz (fun qm=>(k true)) (fun qm=>(k qm)) qm))))
def Pb (F:Nat) (p0:List Za):=IW F p0 some
def ag6 (F:Nat):BN:=
 aq (E:=Vj F) st Tryz.func202 ai 0 [af0 F] [(.ro Qm)] [] [.bo] [] (fun x y (z:Bool)=>((z,()),())) (fun x y _ k=>IW F x.1 k) (fun _ _ _ _=>by simp only [IW,oA,oC,oS,oN,ah]) (by kernel_rfl) (fun _ _=>by kernel_rfl)
def ZV (F:Nat):Ev:=rW 21 [] (fun _=>[])
def Ak (F:Nat) (fF:Int) (ea:Int) (dx:Int) (bZ:List (Option Za)×List Nat) {β:Type} (kA:(Int×(List (Option Za)×List Nat))->Option β) (kO:((List (Option Za)×List Nat))->Option β):Option β:=
 (bif (decide (dx < ea)) then ((cw (0:UInt8) fF fF).bind fun m8=>((an bZ.2.length dx).bind fun nF=>(kA ((ag (dx + (1:Int))),((bZ.1 ++ [some m8]),(List.set bZ.2 nF bZ.1.length)))))) else (kO bZ))
def EF (F:Nat) (fF:Int) (ea:Int) (dx:Int) (bZ:List (Option Za)×List Nat):=Ak F fF ea dx bZ (fun s=>some (Sum.inl s)) (fun z=>some (Sum.inr z))
def ann (F:Nat):LB (ZV F) 0 Tryz.f225:=
 bH vX ai [] [1,0,1,1] 0 [1,5,10,11] [.i,(.rw 0),.i,.i] [.rr 26 5 .u8] [5] [(.rw 0)] [.rr 26 5 .u8] F (fun x y (s:Int×(List (Option Za)×List Nat))=>(x.1,(),x.2.2.1,s.1,())) (fun x y s=>(s.2,())) (fun x y=>(x.2.2.2.1,y.1)) (fun x y (z:(List (Option Za)×List Nat))=>(((),()),(z,()))) (fun x y s _ kA kO=>Ak F x.1 x.2.2.1 s.1 s.2 kA kO) (fun _ _ _ _ _ _=>by simp only [Ak,oA,oC,oS,oN,aU,aT,ah]) (by kernel_rfl) (by kernel_rfl) (fun _ _ _=>by kernel_rfl)
def KQ (F:Nat) (p0:Int) (p1:Int) {β:Type} (k:((List (Option Za)×List Nat))->Option β):Option β:=
 ((cw () p0 p0).bind fun jc=>((iter (fun s=>EF F p1 ((List.range jc.length).length:Int) s.1 s.2) F ((0:Int),((List.replicate jc.length (some ([]:List UInt8))),(List.range jc.length)))).bind fun qm=>(k qm)))
def Qz (F:Nat) (p0:Int) (p1:Int):=KQ F p0 p1 some
def ajE (F:Nat):BN:=
 aq (E:=ZV F) vX Tryz.func225 ai 0 [ann F] [.i,.i] [] [(.rw 0)] [.rr 26 5 .u8] (fun x y (z:(List (Option Za)×List Nat))=>(((),()),(z,()))) (fun x y _ k=>KQ F x.1 x.2.1 k) (fun _ _ _ _=>by simp only [KQ,oA,oC,oS,oN,ah]) (by kernel_rfl) (fun _ _=>by kernel_rfl)
def Z4 (F:Nat):Ev:=ev 24 [XD F] (fun _=>[])
def AD (F:Nat) (dx:UInt8) (bZ:Int) (dy:Vector UInt8 16) (ek:Vector UInt8 16) {β:Type} (kA:(Int×Zu×Zu)->Option β) (kO:(Zu×Zu)->Option β):Option β:=
 (bif (decide (bZ < (16:Int))) then ((yd F dx (UInt8.ofInt bZ)).bind fun sL=>((an 16 bZ).bind fun ve=>((yd F dx (UInt8.ofInt (ag (bZ * 2 ^ min ((UInt64.ofNat 4).toNat) 64)))).bind fun OK=>((an 16 bZ).bind fun iL=>(kA ((ag (bZ + (1:Int))),(Vector.setIfInBounds dy ve sL),(Vector.setIfInBounds ek iL OK))))))) else (kO (dy,ek)))
def LD (F:Nat) (dx:UInt8) (bZ:Int) (dy:Vector UInt8 16) (ek:Vector UInt8 16):=AD F dx bZ dy ek (fun s=>some (Sum.inl s)) (fun z=>some (Sum.inr z))
def aqN (F:Nat):LB (Z4 F) 0 Tryz.f273:=
 bH st ai [] [1,0,1,1] 0 [0,3,4,6] [.u8,(.pt 0 []),(.pt 1 []),.i] [.blk 417 (.ar 16 .u8),.blk 417 (.ar 16 .u8)] [3,4] [(.pt 0 []),(.pt 1 [])] [.blk 417 (.ar 16 .u8),.blk 417 (.ar 16 .u8)] F (fun x y (s:Int×Zu×Zu)=>(x.1,(),(),s.1,())) (fun x y s=>(s.2.1,s.2.2,())) (fun x y=>(x.2.2.2.1,y.1,y.2.1)) (fun x y (z:Zu×Zu)=>(((),(),()),(z.1,z.2,()))) (fun x y s _ kA kO=>AD F x.1 s.1 s.2.1 s.2.2 kA kO) (fun _ _ _ _ _ _=>by simp only [AD,oA,oC,oS,oN,aU,aT,ah]) (by kernel_rfl) (by kernel_rfl) (fun _ _ _=>by kernel_rfl)
def FN (F:Nat) (p0:UInt8) {β:Type} (k:(Zu×Zu)->Option β):Option β:=
 ((iter (fun s=>LD F p0 s.1 s.2.1 s.2.2) F ((0:Int),(Vector.replicate 16 (0:UInt8)),(Vector.replicate 16 (0:UInt8)))).bind fun eY=>(k (eY.1,eY.2)))
def So (F:Nat) (p0:UInt8):=FN F p0 some
def acy (F:Nat):BN:=
 aq (E:=Z4 F) st Tryz.func273 ai 0 [aqN F] [.u8] [] [(.fn 288 .un (.pr (.pt 0 []) (.pr (.pt 1 []) .un)))] [.blk 417 (.ar 16 .u8),.blk 417 (.ar 16 .u8)] (fun x y (z:Zu×Zu)=>((((),((),(),())),()),(z.1,z.2,()))) (fun x y _ k=>FN F x.1 k) (fun _ _ _ _=>by simp only [FN,oA,oC,oS,oN,ah]) (by kernel_rfl) (fun _ _=>by kernel_rfl)
def asz:Nat->List (Tag×Nat)
 | 1=>[(.p,0),(.p,1),(.p,2),(.r,3),(.p,4),(.p,5),(.p,6),(.r,7),(.p,8),(.p,9)]
 | _=>[]
def anq (F:Nat):Ev:=ev 14 [] asz
def II (F:Nat) (p0:UInt8) (p1:Vector UInt8 16) (p2:Vector UInt8 16) {β:Type} (k:UInt8->Option β):Option β:=
 ((dc p1 ((p0 &&& (UInt8.ofNat 15)).toNat:Int)).bind fun x3=>((dc p2 ((lf p0 ((UInt64.ofNat 4).toNat)).toNat:Int)).bind fun x4=>(k (x3 ^^^ x4))))
def TO (F:Nat) (p0:UInt8) (p1:Vector UInt8 16) (p2:Vector UInt8 16):=II F p0 p1 p2 some
def atg (F:Nat):BN:=
 aq (E:=anq F) st Tryz.func288 ai 0 [] [.u8,(.re (.ar 16 .u8)),(.re (.ar 16 .u8))] [] [.u8] [] (fun x y (z:UInt8)=>((z,()),())) (fun x y _ k=>II F x.1 x.2.1 x.2.2.1 k) (fun _ _ _ _=>by simp only [II,oA,oC,oS,oN,ah]) (by kernel_rfl) (fun _ _=>by kernel_rfl)
def aa3 (F:Nat):Ev:=ev 29 [acy F,atg F] (fun _=>[])
def Cx (F:Nat) (dA:List UInt8) (bN:Int) (dP:Vector UInt8 16) (cP:Vector UInt8 16) (dQ:Int) (dK:List UInt8) {β:Type} (kA:Zm->Option β) (kO:(Za)->Option β):Option β:=
 (bif (decide (dQ < bN)) then ((ix dA dQ).bind fun gF=>((TO F gF dP cP).bind fun gr=>((an dK.length dQ).bind fun j7=>(kA ((ag (dQ + (1:Int))),(List.set dK j7 gr)))))) else (kO dK))
def C1 (F:Nat) (dA:List UInt8) (bN:Int) (dP:Vector UInt8 16) (cP:Vector UInt8 16) (dQ:Int) (dK:List UInt8):=Cx F dA bN dP cP dQ dK (fun s=>some (Sum.inl s)) (fun z=>some (Sum.inr z))
def akO (F:Nat):LB (aa3 F) 0 Tryz.f252:=
 bH st ai [] [1,0,1,1,1] 0 [5,6,14,15,16] [(.fn 288 .un (.pr (.pt 0 []) (.pr (.pt 1 []) .un))),(.rw 2),(.ro .u8),.i,.i] [.blk 417 (.ar 16 .u8),.blk 417 (.ar 16 .u8),.row 5 .u8] [6] [(.rw 0)] [.row 5 .u8] F (fun x y (s:Int×Za)=>(((),((),(),())),(),x.2.2.1,x.2.2.2.1,s.1,())) (fun x y s=>(y.1,y.2.1,s.2,())) (fun x y=>(x.2.2.2.2.1,y.2.2.1)) (fun x y (z:Za)=>(((),()),(z,()))) (fun x y s _ kA kO=>Cx F x.2.2.1 x.2.2.2.1 y.1 y.2.1 s.1 s.2 kA kO) (fun _ _ _ _ _ _=>by simp only [Cx,oA,oC,oS,oN,aU,aT,ah]) (by kernel_rfl) (by kernel_rfl) (fun _ _ _=>by kernel_rfl)
def EK (F:Nat) (p0:List UInt8) (p1:UInt8) {β:Type} (k:(Za)->Option β):Option β:=
 ((So F p1).bind fun cq=>((cw (0:UInt8) (p0.length:Int) (p0.length:Int)).bind fun j4=>((iter (fun s=>C1 F p0 (p0.length:Int) cq.1 cq.2 s.1 s.2) F ((0:Int),j4)).bind fun lU=>(k lU))))
def Nl (F:Nat) (p0:List UInt8) (p1:UInt8):=EK F p0 p1 some
def asq (F:Nat):BN:=
 aq (E:=aa3 F) st Tryz.func252 ai 0 [akO F] [(.ro .u8),.u8] [] [(.rw 0)] [.row 5 .u8] (fun x y (z:Za)=>(((),()),(z,()))) (fun x y _ k=>EK F x.1 x.2.1 k) (fun _ _ _ _=>by simp only [EK,oA,oC,oS,oN,ah]) (by kernel_rfl) (fun _ _=>by kernel_rfl)
def Y8 (F:Nat):Ev:=ev 35 [asq F] (fun _=>[])
def Ek (F:Nat) (dy:List UInt8) (ek:Int) (dA:Int) (bN:List UInt8) {β:Type} (kA:Zm->Option β) (kO:(Za)->Option β):Option β:=
 (bif (decide (dA < ek)) then ((ix dy dA).bind fun jx=>((an bN.length dA).bind fun iL=>((bN[iL]?).bind fun AK=>((an bN.length dA).bind fun gF=>(kA ((ag (dA + (1:Int))),(List.set bN gF (AK ^^^ jx)))))))) else (kO bN))
def DJ (F:Nat) (dy:List UInt8) (ek:Int) (dA:Int) (bN:List UInt8):=Ek F dy ek dA bN (fun s=>some (Sum.inl s)) (fun z=>some (Sum.inr z))
def aqn (F:Nat):LB (Y8 F) 0 Tryz.f226:=
 bH st ai [] [1,0,1,1,1] 0 [8,19,20,21] [(.rw 0),(.ro .u8),.i,.i] [.row 5 .u8] [8] [(.rw 0)] [.row 5 .u8] F (fun x y (s:Int×Za)=>((),x.2.1,x.2.2.1,s.1,())) (fun x y s=>(s.2,())) (fun x y=>(x.2.2.2.1,y.1)) (fun x y (z:Za)=>(((),()),(z,()))) (fun x y s _ kA kO=>Ek F x.2.1 x.2.2.1 s.1 s.2 kA kO) (fun _ _ _ _ _ _=>by simp only [Ek,oA,oC,oS,oN,aU,aT,ah]) (by kernel_rfl) (by kernel_rfl) (fun _ _ _=>by kernel_rfl)
def G9 (F:Nat) (p0:List UInt8) (p1:List UInt8) (p2:UInt8) {β:Type} (k:Zm->Option β):Option β:=
 (bif ((p0.length:Int) != (p1.length:Int)) then (k ((1:Int),([]:List UInt8))) else ((Nl F p1 p2).bind fun eR=>((iter (fun s=>DJ F p0 (p0.length:Int) s.1 s.2) F ((0:Int),eR)).bind fun gr=>(k ((0:Int),gr)))))
def Ny (F:Nat) (p0:List UInt8) (p1:List UInt8) (p2:UInt8):=G9 F p0 p1 p2 some
def ad8 (F:Nat):BN:=
 aq (E:=Y8 F) st Tryz.func226 ai 0 [aqn F] [(.ro .u8),(.ro .u8),.u8] [] [(.rw 0),.i] [.row 5 .u8] (fun x y (z:Int×Za)=>(((),z.1,()),(z.2,()))) (fun x y _ k=>G9 F x.1 x.2.1 x.2.2.1 k) (fun _ _ _ _=>by simp only [G9,oA,oC,oS,oN,ah]) (by kernel_rfl) (fun _ _=>by kernel_rfl)
def apW:Nat->List (Tag×Nat)
 | 9=>[(.p,0),(.p,1),(.p,2),(.p,3),(.p,4),(.r,5),(.p,6),(.p,7),(.p,8),(.r,9),(.p,10),(.w,11),(.p,12),(.p,13),(.p,14),(.p,15),(.w,16)]
 | _=>[]
def SP (F:Nat):Ev:=rW 51 [ajE F,ad8 F] apW
def yV (F:Nat) (mV:List Za) (pz:Int) (mo:List UInt8) (gS:Int) (iU:Int) (fR:List (Option Za)×List Nat) {β:Type} (kA:(Int×(List (Option Za)×List Nat))->Option β) (kO:((List (Option Za)×List Nat))->Option β):Option β:=
 (bif (decide (iU < gS)) then ((ix mo iU).bind fun BD=>(bif (BD != (UInt8.ofNat 0)) then ((an fR.2.length pz).bind fun Aa=>((so fR.2 Aa).bind fun Bo=>((fC fR.1 Bo).bind fun YQ=>((ix mV iU).bind fun Hy=>((fC fR.1 Bo).bind fun C0=>((Ny F C0 Hy BD).bind fun z69=>((an fR.2.length pz).bind fun Cw=>(kA ((ag (iU + (1:Int))),((fR.1 ++ [some z69.2]),(List.set fR.2 Cw fR.1.length))))))))))) else (kA ((ag (iU + (1:Int))),fR)))) else (kO fR))
def yF (F:Nat) (mV:List Za) (pz:Int) (mo:List UInt8) (gS:Int) (iU:Int) (fR:List (Option Za)×List Nat):=yV F mV pz mo gS iU fR (fun s=>some (Sum.inl s)) (fun z=>some (Sum.inr z))
def ah3 (F:Nat):LB (SP F) 0 Tryz.f204:=
 bH vX ai [] [1,1,0,0,1,1,0,0,1,0,1,1] 2 [1,7,8,16,17,18,23,24,25] [(.ro Qm),(.rw 0),.i,(.ro Qm),.i,.i,(.ro .u8),.i,.i] [.rr 26 5 .u8] [1,7,16,17,18] [(.ro Qm),(.rw 0),(.ro Qm),.i,.i] [.rr 26 5 .u8] F (fun x y (s:Int×(List (Option Za)×List Nat))=>(x.1,(),x.2.2.1,x.2.2.2.1,x.2.2.2.2.1,x.2.2.2.2.2.1,x.2.2.2.2.2.2.1,x.2.2.2.2.2.2.2.1,s.1,())) (fun x y s=>(s.2,())) (fun x y=>(x.2.2.2.2.2.2.2.2.1,y.1)) (fun x y (z:(List (Option Za)×List Nat))=>((x.1,(),x.2.2.2.1,x.2.2.2.2.1,x.2.2.2.2.2.1,()),(z,()))) (fun x y s _ kA kO=>yV F x.1 x.2.2.1 x.2.2.2.2.2.2.1 x.2.2.2.2.2.2.2.1 s.1 s.2 kA kO) (fun _ _ _ _ _ _=>by simp only [yV,oA,oC,oS,oN,aU,aT,ah]) (by kernel_rfl) (by kernel_rfl) (fun _ _ _=>by kernel_rfl)
def Cm (F:Nat) (eS:List Za) (kG:List Za) (gL:Int) (gv:Int) (i_:List (Option Za)×List Nat) {β:Type} (kA:(Int×(List (Option Za)×List Nat))->Option β) (kO:((List (Option Za)×List Nat))->Option β):Option β:=
 (bif (decide (gv < gL)) then ((ix kG gv).bind fun WE=>((iter (fun s=>yF F eS gv WE (WE.length:Int) s.1 s.2) F ((0:Int),i_)).bind fun z71=>(kA ((ag (gv + (1:Int))),z71)))) else (kO i_))
def HS (F:Nat) (eS:List Za) (kG:List Za) (gL:Int) (gv:Int) (i_:List (Option Za)×List Nat):=Cm F eS kG gL gv i_ (fun s=>some (Sum.inl s)) (fun z=>some (Sum.inr z))
def aoH (F:Nat):LB (SP F) 0 Tryz.f204:=
 bH vX ai [ah3 F] [1,0,1,1] 0 [1,7,16,17,18] [(.ro Qm),(.rw 0),(.ro Qm),.i,.i] [.rr 26 5 .u8] [7] [(.rw 0)] [.rr 26 5 .u8] F (fun x y (s:Int×(List (Option Za)×List Nat))=>(x.1,(),x.2.2.1,x.2.2.2.1,s.1,())) (fun x y s=>(s.2,())) (fun x y=>(x.2.2.2.2.1,y.1)) (fun x y (z:(List (Option Za)×List Nat))=>(((),()),(z,()))) (fun x y s _ kA kO=>Cm F x.1 x.2.2.1 x.2.2.2.1 s.1 s.2 kA kO) (fun _ _ _ _ _ _=>by simp only [Cm,oA,oC,oS,oN,aU,aT,ah]) (by kernel_rfl) (by kernel_rfl) (fun _ _ _=>by kernel_rfl)
def LU (F:Nat) (p0:List Za) (p1:List Za) (p2:Int) {β:Type} (k:(Zd)->Option β):Option β:=
 ((Qz F (p0.length:Int) p2).bind fun Mi=>((iter (fun s=>HS F p1 p0 (p0.length:Int) s.1 s.2) F ((0:Int),Mi)).bind fun V_=>((n9 V_.1 V_.2).bind fun vG=>(k vG))))
def OG (F:Nat) (p0:List Za) (p1:List Za) (p2:Int):=LU F p0 p1 p2 some
def adg (F:Nat):BN:=
 aq (E:=SP F) vX Tryz.func204 ai 0 [aoH F] [(.ro Qm),(.ro Qm),.i] [] [(.ro Qm)] [] (fun x y (z:Zd)=>((z,()),())) (fun x y _ k=>LU F x.1 x.2.1 x.2.2.1 k) (fun _ _ _ _=>by simp only [LU,oA,oC,oS,oN,ah]) (by kernel_rfl) (fun _ _=>by kernel_rfl)
def Z6 (F:Nat):Ev:=ev 37 [ag6 F,Yj F,adg F] (fun _=>[])
def Bs (F:Nat) (dA:List Za) (bN:List Za) (dQ:Int) (dP:Int) {β:Type} (kA:Int->Option β) (kO:Unit->Option β) (kR:Int->Option β):Option β:=
 (bif (decide (dP < dQ)) then ((ix bN dP).bind fun jx=>((ix dA (0:Int)).bind fun iL=>(bif ((jx.length:Int) != (iL.length:Int)) then (kR (1:Int)) else (kA (ag (dP + (1:Int))))))) else (kO ()))
def KZ (F:Nat) (dA:List Za) (bN:List Za) (dQ:Int) (dP:Int):Option ((Int) ⊕ ((Unit) ⊕ (Int))):=Bs F dA bN dQ dP (fun s=>some (.inl s)) (fun z=>some (.inr (.inl z))) (fun z=>some (.inr (.inr z)))
def ag7 (F:Nat):LB (Z6 F) 0 Tryz.f173:=
 gH st ai [] [1,0,1,1] 0 [0,1,18,19,20] [(.ro Qm),(.ro Qm),(.ro Qm),.i,.i] [] [0,1] [(.ro Qm),(.ro Qm)] [] [4,5] [.ns,.i] [] F (fun x y (s:Int)=>(x.1,x.2.1,x.2.2.1,x.2.2.2.1,s,())) (fun x y s=>()) (fun x y=>x.2.2.2.2.1) (fun x y (z:Unit)=>((x.1,x.2.1,()),())) (fun x y (z:Int)=>(((),z,()),())) (fun x y s _ kA kO kR=>Bs F x.2.1 x.2.2.1 x.2.2.2.1 s kA kO kR) (fun _ _ _ _ _ _ _=>by simp only [Bs,oA,oC,oS,oN,aU,aT,ah]) (by kernel_rfl) (by kernel_rfl) (fun _ _ _=>by kernel_rfl)
def KE (F:Nat) (p0:List Za) (p1:List Za) {β:Type} (k:(Zd×Int)->Option β):Option β:=
 ((Pb F p0).bind fun eR=>(bif (!eR) then (k (([]:List Za),(1:Int))) else ((AU F p0).bind fun cq=>(bif ((p1.length:Int) != cq) then (k (([]:List Za),(1:Int))) else ((iter (fun s=>KZ F p1 p1 (p1.length:Int) s) F (0:Int)).bind fun eY=>bz (fun eY=>((AU F p1).bind fun uz=>((OG F p0 p1 uz).bind fun gr=>(k (gr,(0:Int)))))) (fun eY=>(k (([]:List Za),eY))) eY)))))
def Mr (F:Nat) (p0:List Za) (p1:List Za):=KE F p0 p1 some
def apF (F:Nat):BN:=
 aq (E:=Z6 F) st Tryz.func173 ai 0 [ag7 F] [(.ro Qm),(.ro Qm)] [] [(.ro Qm),.i] [] (fun x y (z:Zd×Int)=>((z.1,z.2,()),())) (fun x y _ k=>KE F x.1 x.2.1 k) (fun _ _ _ _=>by simp only [KE,oA,oC,oS,oN,ah]) (by kernel_rfl) (fun _ _=>by kernel_rfl)
def TT (F:Nat):Ev:=ev 62 [RY F,adE F,anY F,aeo F,ah7 F,apF F] (fun _=>[])
def DH (F:Nat) (fh:Int) (iZ:List Za) (gY:List Za) {β:Type} (kA:(Zd)->Option β) (kO:(Zd)->Option β):Option β:=
 (bif (decide ((gY.length:Int) < fh)) then ((ix iZ (0:Int)).bind fun iV=>((cw (0:UInt8) (iV.length:Int) (iV.length:Int)).bind fun OA=>((aD gY ([OA]:List Za)).bind fun IT=>(kA IT)))) else (kO gY))
def DA (F:Nat) (fh:Int) (iZ:List Za) (gY:List Za):=DH F fh iZ gY (fun s=>some (Sum.inl s)) (fun z=>some (Sum.inr z))
def aqO (F:Nat):LB (TT F) 0 Tryz.f149:=
 bH st ai [] [0,1,1,1] 0 [0,1,2,8] [.i,.i,(.ro Qm),(.rw 0)] [.row 26 Qm] [0,1,8] [.i,.i,(.rw 0)] [.row 26 Qm] F (fun x y (s:Zd)=>(x.1,x.2.1,x.2.2.1,(),())) (fun x y s=>(s,())) (fun x y=>y.1) (fun x y (z:Zd)=>((x.1,x.2.1,(),()),(z,()))) (fun x y s _ kA kO=>DH F x.1 x.2.2.1 s kA kO) (fun _ _ _ _ _ _=>by simp only [DH,oA,oC,oS,oN,aU,aT,ah]) (by kernel_rfl) (by kernel_rfl) (fun _ _ _=>by kernel_rfl)
def Cq (F:Nat) (mo:Int) (gS:Int) (fR:List Int) {β:Type} (kA:(Int×(List Int))->Option β) (kO:((List Int))->Option β):Option β:=
 (bif (decide (gS < mo)) then ((aD fR ([gS]:List Int)).bind fun nO=>(kA ((ag (gS + (1:Int))),nO))) else (kO fR))
def AH (F:Nat) (mo:Int) (gS:Int) (fR:List Int):=Cq F mo gS fR (fun s=>some (Sum.inl s)) (fun z=>some (Sum.inr z))
def ahu (F:Nat):LB (TT F) 0 Tryz.f149:=
 bH st ai [] [1,0,1,1,1,1,1] 2 [0,8,9,45,46] [.i,(.rw 0),(.rw 1),.i,.i] [.row 26 Qm,.row 3 .i] [0,8,9] [.i,(.rw 0),(.rw 1)] [.row 26 Qm,.row 3 .i] F (fun x y (s:Int×(List Int))=>(x.1,(),(),x.2.2.2.1,s.1,())) (fun x y s=>(y.1,s.2,())) (fun x y=>(x.2.2.2.2.1,y.2.1)) (fun x y (z:(List Int))=>((x.1,(),(),()),(y.1,z,()))) (fun x y s _ kA kO=>Cq F x.2.2.2.1 s.1 s.2 kA kO) (fun _ _ _ _ _ _=>by simp only [Cq,oA,oC,oS,oN,aU,aT,ah]) (by kernel_rfl) (by kernel_rfl) (fun _ _ _=>by kernel_rfl)
def Fx (F:Nat) (p0:Int) (p1:Int) (p2:List Za) {β:Type} (k:(Zd×Int)->Option β):Option β:=
 ((vU F p0 p1).bind fun pI=>(bif (!pI) then (k (([]:List Za),(1:Int))) else (bif ((p2.length:Int) == (0:Int)) then (k (([]:List Za),(1:Int))) else (bif (decide (p0 < (p2.length:Int))) then (k (([]:List Za),(1:Int))) else ((MW F p2).bind fun k8=>(bif (!k8) then (k (([]:List Za),(1:Int))) else ((Pa F p2).bind fun zW=>((iter (fun s=>DA F p0 p2 s) F zW).bind fun P9=>((iter (fun s=>AH F p1 s.1 s.2) F ((0:Int),([]:List Int))).bind fun uc=>((NM F p0).bind fun tQ=>((Rr F uc p0 tQ).bind fun ed=>((Mr F ed P9).bind fun z60=>(k (z60.1,z60.2))))))))))))))
def MC (F:Nat) (p0:Int) (p1:Int) (p2:List Za):=Fx F p0 p1 p2 some
def ag3 (F:Nat):BN:=
 aq (E:=TT F) st Tryz.func149 ai 0 [aqO F,ahu F] [.i,.i,(.ro Qm)] [] [(.ro Qm),.i] [] (fun x y (z:Zd×Int)=>((z.1,z.2,()),())) (fun x y _ k=>Fx F x.1 x.2.1 x.2.2.1 k) (fun _ _ _ _=>by simp only [Fx,oA,oC,oS,oN,ah]) (by kernel_rfl) (fun _ _=>by kernel_rfl)
def ahh (F:Nat):Ev:=ev 13 [Hz F,Em F,LM F] (fun _=>[])
def ID (F:Nat) (p0:List UInt8) {β:Type} (k:(Za)->Option β):Option β:=
 ((nQ F).bind fun z5=>((nZ F ([(UInt8.ofNat 0)]:List UInt8) z5.1 z5.2.1 z5.2.2).bind fun z6=>((nZ F p0 z6.1 z6.2.1 z6.2.2).bind fun z7=>((yG F (z7.1,z7.2.1,z7.2.2,())).bind fun z8=>(k z8)))))
def Jc (F:Nat) (p0:List UInt8):=ID F p0 some
def abS (F:Nat):BN:=
 aq (E:=ahh F) st Tryz.func103 ai 0 [] [(.ro .u8)] [] [.str] [] (fun x y (z:Za)=>((z,()),())) (fun x y _ k=>ID F x.1 k) (fun _ _ _ _=>by simp only [ID,oA,oC,oS,oN,ah]) (by kernel_rfl) (fun _ _=>by kernel_rfl)
def Vf (F:Nat):Ev:=ev 31 [abS F] (fun _=>[])
def yc (F:Nat) (nL:Int) (eP:List UInt8) (ny:List Za) {β:Type} (kA:(Za×Zd)->Option β) (kO:(Zd)->Option β):Option β:=
 (bif (decide ((0:Int) < (eP.length:Int))) then ((bk eP (0:Int) (if (eP.length:Int) < nL then (eP.length:Int) else nL)).bind fun x32=>((Jc F x32).bind fun zW=>((aD ny ([zW]:List Za)).bind fun PP=>((bk eP (if (eP.length:Int) < nL then (eP.length:Int) else nL) (eP.length:Int)).bind fun QB=>(kA (QB,PP)))))) else (kO ny))
def C4 (F:Nat) (nL:Int) (eP:List UInt8) (ny:List Za):=yc F nL eP ny (fun s=>some (Sum.inl s)) (fun z=>some (Sum.inr z))
def agx (F:Nat):LB (Vf F) 0 Tryz.f85:=
 bH st ai [] [0,1,1,1,1] 0 [0,1,6] [(.ro .u8),.i,(.rw 0)] [.row 9 .s] [6] [(.rw 0)] [.row 9 .s] F (fun x y (s:Za×Zd)=>(s.1,x.2.1,(),())) (fun x y s=>(s.2,())) (fun x y=>(x.1,y.1)) (fun x y (z:Zd)=>(((),()),(z,()))) (fun x y s _ kA kO=>yc F x.2.1 s.1 s.2 kA kO) (fun _ _ _ _ _ _=>by simp only [yc,oA,oC,oS,oN,aU,aT,ah]) (by kernel_rfl) (by kernel_rfl) (fun _ _ _=>by kernel_rfl)
def BY (F:Nat) (p0:List UInt8) (p1:Int) {β:Type} (k:(Int×Zd)->Option β):Option β:=
 (bif (decide (p1 < (1:Int))) then (k ((1:Int),([]:List Za))) else (bif (decide ((1048576:Int) < (p0.length:Int))) then (k ((2:Int),([]:List Za))) else ((iter (fun s=>C4 F p1 s.1 s.2) F (p0,([]:List Za))).bind fun z36=>(k ((0:Int),z36)))))
def wo (F:Nat) (p0:List UInt8) (p1:Int):=BY F p0 p1 some
def ZO (F:Nat):BN:=
 aq (E:=Vf F) st Tryz.func85 ai 0 [agx F] [(.ro .u8),.i] [] [(.rw 0),.i] [.row 9 .s] (fun x y (z:Int×Zd)=>(((),z.1,()),(z.2,()))) (fun x y _ k=>BY F x.1 x.2.1 k) (fun _ _ _ _=>by simp only [BY,oA,oC,oS,oN,ah]) (by kernel_rfl) (fun _ _=>by kernel_rfl)
def E79 (F:Nat):Ev:=ev 10 [Hz F,Em F,LM F] (fun _=>[])
def HL (F:Nat) (p0:List UInt8) {β:Type} (k:(Za)->Option β):Option β:=
 ((nQ F).bind fun z4=>((nZ F p0 z4.1 z4.2.1 z4.2.2).bind fun z5=>((yG F (z5.1,z5.2.1,z5.2.2,())).bind fun z6=>(k z6))))
def Jz (F:Nat) (p0:List UInt8):=HL F p0 some
def zU (F:Nat):BN:=
 aq (E:=E79 F) st Tryz.func79 ai 0 [] [(.ro .u8)] [] [.str] [] (fun x y (z:Za)=>((z,()),())) (fun x y _ k=>HL F x.1 k) (fun _ _ _ _=>by simp only [HL,oA,oC,oS,oN,ah]) (by kernel_rfl) (fun _ _=>by kernel_rfl)
def sk:List UInt8:=[0,1,2,2,3,3,3,3,4,4,4,4,4,4,4,4,5,5,5,5,5,5,5,5,5,5,5,5,5,5,5,5,6,6,6,6,6,6,6,6,6,6,6,6,6,6,6,6,6,6,6,6,6,6,6,6,6,6,6,6,6,6,6,6,7,7,7,7,7,7,7,7,7,7,7,7,7,7,7,7,7,7,7,7,7,7,7,7,7,7,7,7,7,7,7,7,7,7,7,7,7,7,7,7,7,7,7,7,7,7,7,7,7,7,7,7,7,7,7,7,7,7,7,7,7,7,7,7,8,8,8,8,8,8,8,8,8,8,8,8,8,8,8,8,8,8,8,8,8,8,8,8,8,8,8,8,8,8,8,8,8,8,8,8,8,8,8,8,8,8,8,8,8,8,8,8,8,8,8,8,8,8,8,8,8,8,8,8,8,8,8,8,8,8,8,8,8,8,8,8,8,8,8,8,8,8,8,8,8,8,8,8,8,8,8,8,8,8,8,8,8,8,8,8,8,8,8,8,8,8,8,8,8,8,8,8,8,8,8,8,8,8,8,8,8,8,8,8,8,8,8,8,8,8,8,8]
def akE (F:Nat):Ev:=ev 25 [] (fun _=>[])
def OT (F:Nat) (p0:UInt64) {β:Type} (k:Int->Option β):Option β:=
 (bif (decide ((UInt64.ofNat 4294967296)≤p0)) then (bif (decide ((UInt64.ofNat 65536)≤(cY p0 ((UInt64.ofNat 32).toNat)))) then (bif (decide ((UInt64.ofNat 256)≤(cY (cY p0 ((UInt64.ofNat 32).toNat)) ((UInt64.ofNat 16).toNat)))) then ((ix (sk) (((cY (cY (cY p0 ((UInt64.ofNat 32).toNat)) ((UInt64.ofNat 16).toNat)) ((UInt64.ofNat 8).toNat)).toUInt8).toNat:Int)).bind fun x9=>(k (ag ((ag ((ag ((32:Int) + (16:Int))) + (8:Int))) + (x9.toNat:Int))))) else ((ix (sk) (((cY (cY p0 ((UInt64.ofNat 32).toNat)) ((UInt64.ofNat 16).toNat)).toUInt8).toNat:Int)).bind fun jy=>(k (ag ((ag ((32:Int) + (16:Int))) + (jy.toNat:Int)))))) else (bif (decide ((UInt64.ofNat 256)≤(cY p0 ((UInt64.ofNat 32).toNat)))) then ((ix (sk) (((cY (cY p0 ((UInt64.ofNat 32).toNat)) ((UInt64.ofNat 8).toNat)).toUInt8).toNat:Int)).bind fun jc=>(k (ag ((ag ((32:Int) + (8:Int))) + (jc.toNat:Int))))) else ((ix (sk) (((cY p0 ((UInt64.ofNat 32).toNat)).toUInt8).toNat:Int)).bind fun mq=>(k (ag ((32:Int) + (mq.toNat:Int))))))) else (bif (decide ((UInt64.ofNat 65536)≤p0)) then (bif (decide ((UInt64.ofNat 256)≤(cY p0 ((UInt64.ofNat 16).toNat)))) then ((ix (sk) (((cY (cY p0 ((UInt64.ofNat 16).toNat)) ((UInt64.ofNat 8).toNat)).toUInt8).toNat:Int)).bind fun i4=>(k (ag ((ag ((ag ((0:Int) + (16:Int))) + (8:Int))) + (i4.toNat:Int))))) else ((ix (sk) (((cY p0 ((UInt64.ofNat 16).toNat)).toUInt8).toNat:Int)).bind fun fw=>(k (ag ((ag ((0:Int) + (16:Int))) + (fw.toNat:Int)))))) else (bif (decide ((UInt64.ofNat 256)≤p0)) then ((ix (sk) (((cY p0 ((UInt64.ofNat 8).toNat)).toUInt8).toNat:Int)).bind fun ko=>(k (ag ((ag ((0:Int) + (8:Int))) + (ko.toNat:Int))))) else ((ix (sk) ((p0.toUInt8).toNat:Int)).bind fun gV=>(k (ag ((0:Int) + (gV.toNat:Int))))))))
def afJ (F:Nat) (p0:UInt64):=OT F p0 some
def acu (F:Nat):BN:=
 aq (E:=akE F) st Tryz.func163 ai 0 [] [.u64] [] [.i] [] (fun x y (z:Int)=>((z,()),())) (fun x y _ k=>OT F x.1 k) (fun _ _ _ _=>by simp only [OT,oA,oC,oS,oN,ah]) (by kernel_rfl) (fun _ _=>by kernel_rfl)
def ati (F:Nat):Ev:=ev 8 [acu F] (fun _=>[])
def SN (F:Nat) (p0:UInt64) {β:Type} (k:Int->Option β):Option β:=
 ((afJ F p0).bind fun z2=>(k z2))
def adi (F:Nat) (p0:UInt64):=SN F p0 some
def ad3 (F:Nat):BN:=
 aq (E:=ati F) st Tryz.func130 ai 0 [] [.u64] [] [.i] [] (fun x y (z:Int)=>((z,()),())) (fun x y _ k=>SN F x.1 k) (fun _ _ _ _=>by simp only [SN,oA,oC,oS,oN,ah]) (by kernel_rfl) (fun _ _=>by kernel_rfl)
def E80 (F:Nat):Ev:=ev 9 [ad3 F] (fun _=>[])
def Mv (F:Nat) (p0:Int) {β:Type} (k:Int->Option β):Option β:=
 ((adi F (UInt64.ofInt (ag (p0 - (1:Int))))).bind fun z3=>((cX (ag (z3 - (1:Int)))).bind fun x4=>(k (ag ((1:Int) * 2 ^ min x4 64)))))
def xW (F:Nat) (p0:Int):=Mv F p0 some
def ql (F:Nat):BN:=
 aq (E:=E80 F) st Tryz.func80 ai 0 [] [.i] [] [.i] [] (fun x y (z:Int)=>((z,()),())) (fun x y _ k=>Mv F x.1 k) (fun _ _ _ _=>by simp only [Mv,oA,oC,oS,oN,ah]) (by kernel_rfl) (fun _ _=>by kernel_rfl)
def E81 (F:Nat):Ev:=ev 9 [ON F] (fun _=>[])
def G1 (F:Nat) (p0:List UInt8) (p1:List UInt8) {β:Type} (k:(Za)->Option β):Option β:=
 ((CA F ([([1]:List UInt8),p0,p1]:List Za)).bind fun z2=>(k z2))
def B0 (F:Nat) (p0:List UInt8) (p1:List UInt8):=G1 F p0 p1 some
def yh (F:Nat):BN:=
 aq (E:=E81 F) st Tryz.func81 ai 0 [] [.str,.str] [] [.str] [] (fun x y (z:Za)=>((z,()),())) (fun x y _ k=>G1 F x.1 x.2.1 k) (fun _ _ _ _=>by simp only [G1,oA,oC,oS,oN,ah]) (by kernel_rfl) (fun _ _=>by kernel_rfl)
def Af (F:Nat) (rc:(Zd->Option (Za))) (p0:List Za) {β:Type} (k:(Za)->Option β):Option β:=
 (bif ((p0.length:Int) == (0:Int)) then ((Jz F ([]:List UInt8)).bind fun z9=>(k z9)) else (bif ((p0.length:Int) == (1:Int)) then ((ix p0 (0:Int)).bind fun jy=>(k jy)) else ((xW F (p0.length:Int)).bind fun dG=>((bk p0 (0:Int) dG).bind fun mq=>((bk p0 dG (p0.length:Int)).bind fun i4=>((rc mq).bind fun fk=>((rc i4).bind fun eR=>((B0 F fk eR).bind fun cq=>(k cq)))))))))
def Ar (F:Nat) (rc:(Zd->Option (Za))) (p0:List Za):=Af F rc p0 some
def rm (F:Nat):Nat->Zd->Option (Za)
 | 0=>fun _=>none
 | g + 1=>Ar F (rm F g)
abbrev AI:List Sh:=[(.ro .s)]
abbrev K6:List Sh:=[.str]
abbrev CW:List aK:=[]
abbrev J3:List aK:=[]
def Br (F g:Nat):Ct:=cu 0 AI CW K6 J3 (fun x y=>rm F g x.1) (fun x y (z:Za)=>((z,()),()))
def akx:Nat->List (Tag×Nat)
 | 7=>[(.p,0),(.p,1),(.p,2),(.p,4),(.p,5),(.p,6),(.w,3),(.w,7),(.w,8),(.p,9)]
 | _=>[]
def Hi (F g:Nat):Ev:=⟨cfg,26,dM [(79,(zU F).ct),(80,(ql F).ct),(34,Br F g),(81,(yh F).ct)],akx,dM [],fun _=>none,fun _=>none,fun _=>none⟩
theorem acC (F g:Nat) (h:Sound Tryz.prog cfg 34 (Br F g)):bS Tryz.prog (Hi F g):=kD (l:=[(79,(zU F).ct),(80,(ql F).ct),(34,Br F g),(81,(yh F).ct)]) (l':=[]) rfl rfl ⟨⟨(zU F).ok,_,Tryz.func79,rfl,rfl⟩,⟨⟨(ql F).ok,_,Tryz.func80,rfl,rfl⟩,⟨⟨h,_,Tryz.func34,rfl,rfl⟩,⟨⟨(yh F).ok,_,Tryz.func81,rfl,rfl⟩,trivial⟩⟩⟩⟩ trivial
def aor (F g:Nat):Ct:=cu 0 AI CW K6 J3 (fun x y=>Ar F (rm F g) x.1) (fun x y (z:Za)=>((z,()),()))
theorem am2 (F g:Nat) (x:au AI) (y:ax CW):cj (Hi F g) 0 [] (cC Tryz.f34) [] (dN (b_ 1) AI CW x y) (tX (Hi F g) 0 Tryz.f34.results.toList K6 J3 fun p q=>some (p,q)) =
  Af F (rm F g) x.1 (fun z=>some ((z,()),())):=by kernel_rfl
theorem aeE (F g:Nat) (h:Sound Tryz.prog cfg 34 (Br F g)):Sound Tryz.prog cfg 34 (aor F g):=
 ov (E:=Hi F g) (lp:=[]) (code:=cC Tryz.f34) Tryz.func34 rfl Tryz.ntmps34 rfl rfl iY (acC F g h) mixed trivial (by kernel_rfl) (fun x y k=>Af F (rm F g) x.1 k) (fun _ _ _=>by simp only [Ar,Af,oA,oC,oS,oN,ah]) (am2 F g)
def tP (F:Nat) (p0:List Za):Option (Za):=rm F F p0
def Zy (F:Nat):Ct:=cu 0 AI CW K6 J3 (fun x y=>tP F x.1) (fun x y (z:Za)=>((z,()),()))
theorem aaV (F:Nat):∀ g,Sound Tryz.prog cfg 34 (Br F g)
 | 0=>fun x y p q h=>absurd (show (none:Option _)=some (p,q) from h) (by simp)
 | g + 1=>aeE F g (aaV F g)
theorem aqW (F:Nat):Sound Tryz.prog cfg 34 (Zy F):=aaV F F
def Bt (F:Nat):BN:=⟨34,Zy F,aqW F,_,Tryz.func34,rfl,rfl⟩
def E68 (F:Nat):Ev:=ev 19 [ZO F,Bt F] (fun _=>[])
def G0 (F:Nat) (p0:List UInt8) (p1:Int) {β:Type} (k:(Za×Int)->Option β):Option β:=
 ((wo F p0 p1).bind fun z3=>(bif (z3.1 != (0:Int)) then (k (([]:List UInt8),z3.1)) else ((tP F z3.2).bind fun z4=>(k (z4,(0:Int))))))
def Kl (F:Nat) (p0:List UInt8) (p1:Int):=G0 F p0 p1 some
def Zz (F:Nat):BN:=
 aq (E:=E68 F) st Tryz.func68 ai 0 [] [(.ro .u8),.i] [] [.str,.i] [] (fun x y (z:Za×Int)=>((z.1,z.2,()),())) (fun x y _ k=>G0 F x.1 x.2.1 k) (fun _ _ _ _=>by simp only [G0,oA,oC,oS,oN,ah]) (by kernel_rfl) (fun _ _=>by kernel_rfl)
def afW (F:Nat):Ev:=ev 8 [] (fun _=>[])
def Q9 (F:Nat) {β:Type} (k:(Za)->Option β):Option β:=
 (k ([]:List UInt8))
def ajd (F:Nat):=Q9 F some
def acF (F:Nat):BN:=
 aq (E:=afW F) st Tryz.func32 ai 0 [] [.nn] [] [(.rw 0)] [.row 5 .u8] (fun x y (z:Za)=>(((),()),(z,()))) (fun x y _ k=>Q9 F k) (fun _ _ _ _=>by simp only [Q9,oA,oC,oS,oN,ah]) (by kernel_rfl) (fun _ _=>by kernel_rfl)
def as_ (F:Nat):Ev:=ev 8 [] (fun _=>[])
def RV (F:Nat) (p0:List UInt8) {β:Type} (k:(Za)->Option β):Option β:=
 ((aD ([]:List UInt8) p0).bind fun x2=>(k x2))
def YL (F:Nat) (p0:List UInt8):=RV F p0 some
def anj (F:Nat):BN:=
 aq (E:=as_ F) st Tryz.func32 ai 0 [] [(.rn .u8)] [] [(.rw 0)] [.row 5 .u8] (fun x y (z:Za)=>(((),()),(z,()))) (fun x y _ k=>RV F x.1 k) (fun _ _ _ _=>by simp only [RV,oA,oC,oS,oN,ah]) (by kernel_rfl) (fun _ _=>by kernel_rfl)
def Aq (F:Nat) (p0:List UInt8):Option Za:=YL F p0
def aaI (F:Nat):Ct:=cu 0 [.ro .u8] [] [.rw 0] [.row 5 .u8] (fun x _=>Aq F x.1) (fun _ _ (z:List UInt8)=>(((),()),(z,())))
theorem an0 (F:Nat):Sound Tryz.prog cfg 32 (aaI F):=FR (t:=.u8) (ajd F) (fun p=>YL F p) ((acF F).ok) ((anj F).ok) rfl
def Pk (F:Nat):BN:=⟨32,aaI F,an0 F,_,Tryz.func32,rfl,rfl⟩
def afa (F:Nat):Ev:=ev 8 [] (fun _=>[])
def Na (F:Nat) {β:Type} (k:(Zd)->Option β):Option β:=
 (k ([]:List Za))
def aox (F:Nat):=Na F some
def aoj (F:Nat):BN:=
 aq (E:=afa F) st Tryz.func31 ai 0 [] [.nn] [] [(.rw 0)] [.row 9 .s] (fun x y (z:Zd)=>(((),()),(z,()))) (fun x y _ k=>Na F k) (fun _ _ _ _=>by simp only [Na,oA,oC,oS,oN,ah]) (by kernel_rfl) (fun _ _=>by kernel_rfl)
def agh (F:Nat):Ev:=ev 8 [] (fun _=>[])
def Mj (F:Nat) (p0:List Za) {β:Type} (k:(Zd)->Option β):Option β:=
 ((aD ([]:List Za) p0).bind fun x2=>(k x2))
def V3 (F:Nat) (p0:List Za):=Mj F p0 some
def arp (F:Nat):BN:=
 aq (E:=agh F) st Tryz.func31 ai 0 [] [(.rn .s)] [] [(.rw 0)] [.row 9 .s] (fun x y (z:Zd)=>(((),()),(z,()))) (fun x y _ k=>Mj F x.1 k) (fun _ _ _ _=>by simp only [Mj,oA,oC,oS,oN,ah]) (by kernel_rfl) (fun _ _=>by kernel_rfl)
def qA (F:Nat) (p0:List Za):Option Zd:=V3 F p0
def Yx (F:Nat):Ct:=cu 0 [.ro .s] [] [.rw 0] [.row 9 .s] (fun x _=>qA F x.1) (fun _ _ (z:List Za)=>(((),()),(z,())))
theorem amj (F:Nat):Sound Tryz.prog cfg 31 (Yx F):=FR (t:=.s) (aox F) (fun p=>V3 F p) ((aoj F).ok) ((arp F).ok) rfl
def we (F:Nat):BN:=⟨31,Yx F,amj F,_,Tryz.func31,rfl,rfl⟩
def TH (F:Nat):Ev:=ev 72 [ag3 F,Zz F,Bt F,Pk F,we F] (fun _=>[])
def CX (F:Nat) (qz:List Za) (lG:Int) (pZ:Int) (rS:List Za) {β:Type} (kA:(Int×Zd)->Option β) (kO:(Zd)->Option β) (kR:(Za×Int)->Option β):Option β:=
 (bif (decide (pZ < lG)) then ((ix qz pZ).bind fun NV=>((Kl F NV (512:Int)).bind fun Oh=>(bif (Oh.2 != (0:Int)) then (kR (([]:List UInt8),Oh.2)) else ((aD rS ([Oh.1]:List Za)).bind fun Aa=>(kA ((ag (pZ + (1:Int))),Aa)))))) else (kO rS))
def zY (F:Nat) (qz:List Za) (lG:Int) (pZ:Int) (rS:List Za):Option ((Int×Zd) ⊕ ((Zd) ⊕ (Za×Int))):=CX F qz lG pZ rS (fun s=>some (.inl s)) (fun z=>some (.inr (.inl z))) (fun z=>some (.inr (.inr z)))
def asR (F:Nat):LB (TH F) 0 Tryz.f120:=
 gH st ai [] [1,0,1,1,1,1] 0 [9,11,30,31,32] [(.ro Qm),(.rw 0),(.ro Qm),.i,.i] [.row 9 .s] [9,11] [(.ro Qm),(.rw 0)] [.row 9 .s] [6,7,8] [.str,.ns,.i] [] F (fun x y (s:Int×Zd)=>(x.1,(),x.2.2.1,x.2.2.2.1,s.1,())) (fun x y s=>(s.2,())) (fun x y=>(x.2.2.2.2.1,y.1)) (fun x y (z:Zd)=>((x.1,(),()),(z,()))) (fun x y (z:Za×Int)=>((z.1,(),z.2,()),())) (fun x y s _ kA kO kR=>CX F x.2.2.1 x.2.2.2.1 s.1 s.2 kA kO kR) (fun _ _ _ _ _ _ _=>by simp only [CX,oA,oC,oS,oN,aU,aT,ah]) (by kernel_rfl) (by kernel_rfl) (fun _ _ _=>by kernel_rfl)
def Bh (F:Nat) (SG:List UInt8) (RH:List Za) (RZ:Int) (Rw:List Za) (wD:Int) (Kt:List Zc) {β:Type} (kA:(Int×Zt)->Option β) (kO:(Zt)->Option β):Option β:=
 (bif (decide (wD < RZ)) then ((ix RH wD).bind fun ux=>((Aq F ux).bind fun z87=>((qA F Rw).bind fun z88=>((aD Kt ([((SG,wD,()),z87,z88,())]:List Zc)).bind fun CL=>(kA ((ag (wD + (1:Int))),CL)))))) else (kO Kt))
def Bi (F:Nat) (SG:List UInt8) (RH:List Za) (RZ:Int) (Rw:List Za) (wD:Int) (Kt:List Zc):=Bh F SG RH RZ Rw wD Kt (fun s=>some (Sum.inl s)) (fun z=>some (Sum.inr z))
def amP (F:Nat):LB (TH F) 0 Tryz.f120:=
 bH st ai [] [1,0,1,1,1,1,1,1,1] 2 [11,16,17,51,52,53] [(.rw 0),.str,(.rw 1),(.ro Qm),.i,.i] [.row 9 .s,.row 29 Qh] [16,17] [.str,(.rw 0)] [.row 29 Qh] F (fun x y (s:Int×Zt)=>((),x.2.1,(),x.2.2.2.1,x.2.2.2.2.1,s.1,())) (fun x y s=>(y.1,s.2,())) (fun x y=>(x.2.2.2.2.2.1,y.2.1)) (fun x y (z:Zt)=>((x.2.1,(),()),(z,()))) (fun x y s _ kA kO=>Bh F x.2.1 x.2.2.2.1 x.2.2.2.2.1 y.1 s.1 s.2 kA kO) (fun _ _ _ _ _ _=>by simp only [Bh,oA,oC,oS,oN,aU,aT,ah]) (by kernel_rfl) (by kernel_rfl) (fun _ _ _=>by kernel_rfl)
def F_ (F:Nat) (p0:Int) (p1:Int) (p2:List Za) {β:Type} (k:(Za×Int×Zt)->Option β):Option β:=
 ((MC F p0 p1 p2).bind fun xF=>(bif (xF.2 != (0:Int)) then (k (([]:List UInt8),xF.2,([]:List Zc))) else ((iter (fun s=>zY F xF.1 (xF.1.length:Int) s.1 s.2) F ((0:Int),([]:List Za))).bind fun tE=>bz (fun tE=>((tP F tE).bind fun HC=>((iter (fun s=>Bi F HC xF.1 (xF.1.length:Int) tE s.1 s.2) F ((0:Int),([]:List Zc))).bind fun z90=>(k (HC,(0:Int),z90))))) (fun tE=>(k (tE.1,tE.2,([]:List Zc)))) tE)))
def Q1 (F:Nat) (p0:Int) (p1:Int) (p2:List Za):=F_ F p0 p1 p2 some
def aeW (F:Nat):BN:=
 aq (E:=TH F) st Tryz.func120 ai 0 [asR F,amP F] [.i,.i,(.ro Qm)] [] [.str,(.rw 0),.i] [.row 29 Qh] (fun x y (z:Za×Int×Zt)=>((z.1,(),z.2.1,()),(z.2.2,()))) (fun x y _ k=>F_ F x.1 x.2.1 x.2.2.1 k) (fun _ _ _ _=>by simp only [F_,oA,oC,oS,oN,ah]) (by kernel_rfl) (fun _ _=>by kernel_rfl)
def aqY (F:Nat):Ev:=ev 8 [] (fun _=>[])
def QR (F:Nat) {β:Type} (k:(Zn)->Option β):Option β:=
 (k ([]:List Zb))
def aev (F:Nat):=QR F some
def alc (F:Nat):BN:=
 aq (E:=aqY F) st Tryz.func121 ai 0 [] [.nn] [] [(.rw 0)] [.row 136 Qe] (fun x y (z:Zn)=>(((),()),(z,()))) (fun x y _ k=>QR F k) (fun _ _ _ _=>by simp only [QR,oA,oC,oS,oN,ah]) (by kernel_rfl) (fun _ _=>by kernel_rfl)
def acQ (F:Nat):Ev:=ev 8 [] (fun _=>[])
def NP (F:Nat) (p0:List Zb) {β:Type} (k:(Zn)->Option β):Option β:=
 ((aD ([]:List Zb) p0).bind fun x2=>(k x2))
def abi (F:Nat) (p0:List Zb):=NP F p0 some
def anZ (F:Nat):BN:=
 aq (E:=acQ F) st Tryz.func121 ai 0 [] [(.rn (.pr .s (.pr .i (.pr .i .un))))] [] [(.rw 0)] [.row 136 Qe] (fun x y (z:Zn)=>(((),()),(z,()))) (fun x y _ k=>NP F x.1 k) (fun _ _ _ _=>by simp only [NP,oA,oC,oS,oN,ah]) (by kernel_rfl) (fun _ _=>by kernel_rfl)
def NR (F:Nat) (p0:List Zb):Option Zn:=abi F p0
def Yd (F:Nat):Ct:=cu 0 [.ro Qe] [] [.rw 0] [.row 136 Qe] (fun x _=>NR F x.1) (fun _ _ (z:List Zb)=>(((),()),(z,())))
theorem al2 (F:Nat):Sound Tryz.prog cfg 121 (Yd F):=FR (t:=(.pr .s (.pr .i (.pr .i .un)))) (aev F) (fun p=>abi F p) ((alc F).ok) ((anZ F).ok) rfl
def asd (F:Nat):BN:=⟨121,Yd F,al2 F,_,Tryz.func121,rfl,rfl⟩
def WO (F:Nat):Ev:=ev 108 [RY F,Nc F,BJ F,aaN F,aeW F,asd F] (fun _=>[])
def t9 (F:Nat) (iZ:List Za) (gY:Int) (eS:List Zb) (kG:Int) (gL:Int) {β:Type} (kA:Int->Option β) (kO:Unit->Option β) (kR:(Int×Za×Int×Int×Int×Int)->Option β):Option β:=
 (bif (decide (gL < kG)) then ((ix eS gL).bind fun x49=>((JD F x49.2.2.1 gY).bind fun z50=>(bif (!z50) then (kR ((1:Int),([]:List UInt8),(0:Int),(0:Int),(0:Int),(0:Int))) else ((ix iZ gL).bind fun CU=>(bif ((CU.length:Int) != gY) then (kR ((1:Int),([]:List UInt8),(0:Int),(0:Int),(0:Int),(0:Int))) else (kA (ag (gL + (1:Int))))))))) else (kO ()))
def u5 (F:Nat) (iZ:List Za) (gY:Int) (eS:List Zb) (kG:Int) (gL:Int):Option ((Int) ⊕ ((Unit) ⊕ (Int×Za×Int×Int×Int×Int))):=t9 F iZ gY eS kG gL (fun s=>some (.inl s)) (fun z=>some (.inr (.inl z))) (fun z=>some (.inr (.inr z)))
def amW (F:Nat):LB (WO F) 0 Tryz.f71:=
 gH st ai [] [1,0,1,1,1,1] 0 [0,1,2,3,4,10,13,64,65,66] [.i,.i,.i,(.ro Qe),(.ro Qm),(.pt 0 []),.i,(.ro Qe),.i,.i] [.blk 141 (.pr .str (.pr .i (.pr .i (.pr .i (.pr .i (.pr .ns .un))))))] [0,1,2,3,4,10,13] [.i,.i,.i,(.ro Qe),(.ro Qm),(.pt 0 []),.i] [.blk 141 (.pr .str (.pr .i (.pr .i (.pr .i (.pr .i (.pr .ns .un))))))] [10,11,12] [(.pt 0 []),.ns,.i] [.blk 141 (.pr .str (.pr .i (.pr .i (.pr .i (.pr .i (.pr .ns .un))))))] F (fun x y (s:Int)=>(x.1,x.2.1,x.2.2.1,x.2.2.2.1,x.2.2.2.2.1,(),x.2.2.2.2.2.2.1,x.2.2.2.2.2.2.2.1,x.2.2.2.2.2.2.2.2.1,s,())) (fun x y s=>((y.1.1,y.1.2.1,y.1.2.2.1,y.1.2.2.2.1,y.1.2.2.2.2.1,(),()),())) (fun x y=>x.2.2.2.2.2.2.2.2.2.1) (fun x y (z:Unit)=>((x.1,x.2.1,x.2.2.1,x.2.2.2.1,x.2.2.2.2.1,(),x.2.2.2.2.2.2.1,()),((y.1.1,y.1.2.1,y.1.2.2.1,y.1.2.2.2.1,y.1.2.2.2.2.1,(),()),()))) (fun x y (z:Int×Za×Int×Int×Int×Int)=>(((),(),z.1,()),((z.2.1,z.2.2.1,z.2.2.2.1,z.2.2.2.2.1,z.2.2.2.2.2,(),()),()))) (fun x y s _ kA kO kR=>t9 F x.2.2.2.2.1 x.2.2.2.2.2.2.1 x.2.2.2.2.2.2.2.1 x.2.2.2.2.2.2.2.2.1 s kA kO kR) (fun _ _ _ _ _ _ _=>by simp only [t9,oA,oC,oS,oN,aU,aT,ah]) (by kernel_rfl) (by kernel_rfl) (fun _ _ _=>by kernel_rfl)
def LV (F:Nat) (p0:Int) (p1:Int) (p2:Int) (p3:List Zb) (p4:List Za) {β:Type} (k:(Za×Int×Int×Int×Int×Int×Zn×Zt)->Option β):Option β:=
 (bif (decide (p0 < (0:Int))) then (k (([]:List UInt8),(0:Int),(0:Int),(0:Int),(0:Int),(1:Int),([]:List Zb),([]:List Zc))) else (bif (decide ((11:Int) < p0)) then (k (([]:List UInt8),(0:Int),(0:Int),(0:Int),(0:Int),(1:Int),([]:List Zb),([]:List Zc))) else ((vU F p1 p2).bind fun gr=>(bif (!gr) then (k (([]:List UInt8),(0:Int),(0:Int),(0:Int),(0:Int),(1:Int),([]:List Zb),([]:List Zc))) else (bif (decide ((p3.length:Int) < (1:Int))) then (k (([]:List UInt8),(0:Int),(0:Int),(0:Int),(0:Int),(1:Int),([]:List Zb),([]:List Zc))) else (bif (decide (p1 < (p3.length:Int))) then (k (([]:List UInt8),(0:Int),(0:Int),(0:Int),(0:Int),(1:Int),([]:List Zb),([]:List Zc))) else ((xS F p3).bind fun mT=>(bif (!mT) then (k (([]:List UInt8),(0:Int),(0:Int),(0:Int),(0:Int),(1:Int),([]:List Zb),([]:List Zc))) else (bif ((p4.length:Int) != (p3.length:Int)) then (k (([]:List UInt8),(0:Int),(0:Int),(0:Int),(0:Int),(1:Int),([]:List Zb),([]:List Zc))) else ((ix p3 (0:Int)).bind fun Sk=>((kN F Sk.2.2.1).bind fun pI=>((iter (fun s=>u5 F p4 pI.1 p3 (p3.length:Int) s) F (0:Int)).bind fun lQ=>bz (fun lQ=>((Q1 F p1 p2 p4).bind fun nX=>(bif (nX.2.1 != (0:Int)) then (k (([]:List UInt8),(0:Int),(0:Int),(0:Int),(0:Int),nX.2.1,([]:List Zb),([]:List Zc))) else ((NR F p3).bind fun z54=>(k (nX.1,p0,pI.1,p1,p2,(0:Int),z54,nX.2.2)))))) (fun lQ=>(k (lQ.2.1,lQ.2.2.1,lQ.2.2.2.1,lQ.2.2.2.2.1,lQ.2.2.2.2.2,lQ.1,([]:List Zb),([]:List Zc)))) lQ))))))))))))
def Ip (F:Nat) (p0:Int) (p1:Int) (p2:Int) (p3:List Zb) (p4:List Za):=LV F p0 p1 p2 p3 p4 some
def VU (F:Nat):BN:=
 aq (E:=WO F) st Tryz.func71 ai 0 [amW F] [.i,.i,.i,(.ro Qe),(.ro Qm)] [] [(.pr .str (.pr .i (.pr .i (.pr .i (.pr .i (.pr (.rw 0) .un)))))),(.rw 1),.i] [.row 136 Qe,.row 29 Qh] (fun x y (z:Za×Int×Int×Int×Int×Int×Zn×Zt)=>(((z.1,z.2.1,z.2.2.1,z.2.2.2.1,z.2.2.2.2.1,(),()),(),z.2.2.2.2.2.1,()),(z.2.2.2.2.2.2.1,z.2.2.2.2.2.2.2,()))) (fun x y _ k=>LV F x.1 x.2.1 x.2.2.1 x.2.2.2.1 x.2.2.2.2.1 k) (fun _ _ _ _=>by simp only [LV,oA,oC,oS,oN,ah]) (by kernel_rfl) (fun _ _=>by kernel_rfl)
def aiB:Nat->List (Tag×Nat)
 | 6=>[(.c,0),(.p,1),(.p,2),(.p,3),(.p,4),(.p,5),(.c,6),(.p,7),(.p,8),(.p,9),(.p,10),(.c,11),(.w,12),(.p,13),(.p,14),(.p,15),(.p,16),(.w,17),(.b,18),(.p,19),(.p,20)]
 | 7=>[(.p,0),(.p,1),(.p,2),(.r,3),(.p,4),(.p,5),(.p,6),(.p,7),(.r,8),(.p,9),(.p,10)]
 | _=>[]
def api:Nat->Option Nat
 | 6=>some 17
 | _=>none
def J5 (F:Nat):Ev:=R8 cfg 132 [Ou F,acv F,VU F] aiB api (fun _=>none)
def DO (F:Nat) (mJ:List (Zb×Za×Unit)) (tH:List UInt8) (tT:List UInt8) (Pq:List UInt8) (RX:List UInt8) (Nj:List UInt8) (lI:Int) (FA:List Zb) (FQ:List (Zb×Za)) {β:Type} (kA:(Int×Zn×(List (Zb×Za)))->Option β) (kO:(Zn×(List (Zb×Za)))->Option β) (kR:Bool->Option β):Option β:=
 (bif (decide (lI < (mJ.length:Int))) then ((ix mJ lI).bind fun sV=>((ix mJ lI).bind fun L7=>((wF F tH tT Pq RX Nj sV.1.2.1 L7.2.1).bind fun kE=>(bif (kE.2.2.2.1 != (0:Int)) then (kR false) else ((ix mJ lI).bind fun q_=>(bif (!(kE.1 == q_.1.1 && (kE.2.1 == q_.1.2.1 && (kE.2.2.1 == q_.1.2.2.1 && true)))) then (kR false) else ((aD FA ([(kE.1,kE.2.1,kE.2.2.1,())]:List Zb)).bind fun wh=>(kA ((ag (lI + (1:Int))),wh,(cJ (.pr .s (.pr .i (.pr .i .un))) FQ (kE.1,kE.2.1,kE.2.2.1,()) kE.2.2.2.2)))))))))) else (kO (FA,FQ)))
def JX (F:Nat) (mJ:List (Zb×Za×Unit)) (tH:List UInt8) (tT:List UInt8) (Pq:List UInt8) (RX:List UInt8) (Nj:List UInt8) (lI:Int) (FA:List Zb) (FQ:List (Zb×Za)):Option ((Int×Zn×(List (Zb×Za))) ⊕ ((Zn×(List (Zb×Za))) ⊕ (Bool))):=DO F mJ tH tT Pq RX Nj lI FA FQ (fun s=>some (.inl s)) (fun z=>some (.inr (.inl z))) (fun z=>some (.inr (.inr z)))
def alh (F:Nat):LB (J5 F) 0 Tryz.f27:=
 gH st ai [] [1,0,1,1,1] 0 [1,2,3,4,11,12,13] [(.ro (.pr (.pr .s (.pr .i (.pr .i .un))) (.pr (.sl .u8) .un))),.i,.i,(.pt 0 []),(.rw 1),(.mp 2),.i] [.blk 76 (.pr .str (.pr .str (.pr .str (.pr .str (.pr .str .un))))),.row 136 Qe,.mp (.pr .s (.pr .i (.pr .i .un))) (.sl .u8)] [2,3,11,12] [.i,.i,(.rw 0),(.mp 1)] [.row 136 Qe,.mp (.pr .s (.pr .i (.pr .i .un))) (.sl .u8)] [8,9,10] [.ns,.ns,.bo] [] F (fun x y (s:Int×Zn×(List (Zb×Za)))=>(x.1,x.2.1,x.2.2.1,(),(),(),s.1,())) (fun x y s=>((y.1.1,y.1.2.1,y.1.2.2.1,y.1.2.2.2.1,y.1.2.2.2.2.1,()),s.2.1,s.2.2,())) (fun x y=>(x.2.2.2.2.2.2.1,y.2.1,y.2.2.1)) (fun x y (z:Zn×(List (Zb×Za)))=>((x.2.1,x.2.2.1,(),(),()),(z.1,z.2,()))) (fun x y (z:Bool)=>(((),(),z,()),())) (fun x y s _ kA kO kR=>DO F x.1 y.1.1 y.1.2.1 y.1.2.2.1 y.1.2.2.2.1 y.1.2.2.2.2.1 s.1 s.2.1 s.2.2 kA kO kR) (fun _ _ _ _ _ _ _=>by simp only [DO,oA,oC,oS,oN,aU,aT,ah]) (by kernel_rfl) (by kernel_rfl) (fun _ _ _=>by kernel_rfl)
def An (F:Nat) (qQ:List Zn) (oV:Int) (qJ:List (Zb×Za)) (mI:Int) (rQ:List Za) {β:Type} (kA:(Int×Zd)->Option β) (kO:(Zd)->Option β):Option β:=
 ((ix qQ oV).bind fun afh=>(bif (decide (mI < (afh.length:Int))) then ((ix qQ oV).bind fun Q7=>((ix Q7 mI).bind fun N0=>((aD rQ ([(eM (.pr .s (.pr .i (.pr .i .un))) qJ (N0.1,N0.2.1,N0.2.2.1,()) ([]:List UInt8))]:List Za)).bind fun aq4=>(kA ((ag (mI + (1:Int))),aq4))))) else (kO rQ)))
def KG (F:Nat) (qQ:List Zn) (oV:Int) (qJ:List (Zb×Za)) (mI:Int) (rQ:List Za):=An F qQ oV qJ mI rQ (fun s=>some (Sum.inl s)) (fun z=>some (Sum.inr z))
def afE (F:Nat):LB (J5 F) 0 Tryz.f27:=
 bH st ai [] [1,0,1,0,0,1,0,0,1,0,1,1,1,1,1,1,1] 4 [2,3,12,17,19,20,21,22,23] [.i,.i,(.mp 0),(.ro (.sl Qe)),(.rw 1),(.rw 2),.i,(.rw 3),.i] [.mp (.pr .s (.pr .i (.pr .i .un))) (.sl .u8),.row 141 Qp,.row 142 (.sl Qh),.row 26 Qm] [2,3,12,17,19,20,21,22] [.i,.i,(.mp 0),(.ro (.sl Qe)),(.rw 1),(.rw 2),.i,(.rw 3)] [.mp (.pr .s (.pr .i (.pr .i .un))) (.sl .u8),.row 141 Qp,.row 142 (.sl Qh),.row 26 Qm] F (fun x y (s:Int×Zd)=>(x.1,x.2.1,(),x.2.2.2.1,(),(),x.2.2.2.2.2.2.1,(),s.1,())) (fun x y s=>(y.1,y.2.1,y.2.2.1,s.2,())) (fun x y=>(x.2.2.2.2.2.2.2.2.1,y.2.2.2.1)) (fun x y (z:Zd)=>((x.1,x.2.1,(),x.2.2.2.1,(),(),x.2.2.2.2.2.2.1,(),()),(y.1,y.2.1,y.2.2.1,z,()))) (fun x y s _ kA kO=>An F x.2.2.2.1 x.2.2.2.2.2.2.1 y.1 s.1 s.2 kA kO) (fun _ _ _ _ _ _=>by simp only [An,oA,oC,oS,oN,aU,aT,ah]) (by kernel_rfl) (by kernel_rfl) (fun _ _ _=>by kernel_rfl)
def Dy (F:Nat) (NU:Int) (Nt:Int) (Db:List Zn) (R9:List (Zb×Za)) (w_:Int) (LJ:List Zf) (F0:List Zt) {β:Type} (kA:(Int×(List Zf)×(List Zt))->Option β) (kO:((List Zf)×(List Zt))->Option β) (kR:Bool->Option β):Option β:=
 (bif (decide (w_ < (Db.length:Int))) then ((iter (fun s=>KG F Db w_ R9 s.1 s.2) F ((0:Int),([]:List Za))).bind fun S8=>((ix Db w_).bind fun aee=>((Ip F (0:Int) NU Nt aee S8).bind fun jz=>(bif (jz.2.2.2.2.2.1 != (0:Int)) then (kR false) else ((aD LJ ([(jz.1,jz.2.1,jz.2.2.1,jz.2.2.2.1,jz.2.2.2.2.1,jz.2.2.2.2.2.2.1,())]:List Zf)).bind fun Rp=>((aD F0 ([jz.2.2.2.2.2.2.2]:List Zt)).bind fun adW=>(kA ((ag (w_ + (1:Int))),Rp,adW)))))))) else (kO (LJ,F0)))
def JN (F:Nat) (NU:Int) (Nt:Int) (Db:List Zn) (R9:List (Zb×Za)) (w_:Int) (LJ:List Zf) (F0:List Zt):Option ((Int×(List Zf)×(List Zt)) ⊕ (((List Zf)×(List Zt)) ⊕ (Bool))):=Dy F NU Nt Db R9 w_ LJ F0 (fun s=>some (.inl s)) (fun z=>some (.inr (.inl z))) (fun z=>some (.inr (.inr z)))
def an6 (F:Nat):LB (J5 F) 0 Tryz.f27:=
 gH st ai [afE F] [1,0,1,1,1,1,1,1,1] 2 [2,3,12,17,19,20,21] [.i,.i,(.mp 0),(.ro (.sl Qe)),(.rw 1),(.rw 2),.i] [.mp (.pr .s (.pr .i (.pr .i .un))) (.sl .u8),.row 141 Qp,.row 142 (.sl Qh)] [19,20] [(.rw 0),(.rw 1)] [.row 141 Qp,.row 142 (.sl Qh)] [8,9,10] [.ns,.ns,.bo] [] F (fun x y (s:Int×(List Zf)×(List Zt))=>(x.1,x.2.1,(),x.2.2.2.1,(),(),s.1,())) (fun x y s=>(y.1,s.2.1,s.2.2,())) (fun x y=>(x.2.2.2.2.2.2.1,y.2.1,y.2.2.1)) (fun x y (z:(List Zf)×(List Zt))=>(((),(),()),(z.1,z.2,()))) (fun x y (z:Bool)=>(((),(),z,()),())) (fun x y s _ kA kO kR=>Dy F x.1 x.2.1 x.2.2.2.1 y.1 s.1 s.2.1 s.2.2 kA kO kR) (fun _ _ _ _ _ _ _=>by simp only [Dy,oA,oC,oS,oN,aU,aT,ah]) (by kernel_rfl) (by kernel_rfl) (fun _ _ _=>by kernel_rfl)
def JM (F:Nat) (p0:List UInt8) (p1:List UInt8) (p2:List UInt8) (p3:List UInt8) (p4:List UInt8) (p5:List (Zb×Za×Unit)) (p6:Int) (p7:Int) {β:Type} (k:(Bool×(List Zf)×(List Zt))->Option β):Option β:=
 ((iter (fun s=>JX F p5 p0 p1 p2 p3 p4 s.1 s.2.1 s.2.2) F ((0:Int),([]:List Zb),([]:List (Zb×Za)))).bind fun rI=>bz (fun rI=>((Q0 F rI.1 p6).bind fun vz=>(bif (vz.2 != (0:Int)) then (k (false,([]:List Zf),([]:List Zt))) else ((iter (fun s=>JN F p6 p7 vz.1 rI.2 s.1 s.2.1 s.2.2) F ((0:Int),([]:List Zf),([]:List Zt))).bind fun rE=>bz (fun rE=>(k (true,rE.1,rE.2))) (fun rE=>(k (rE,([]:List Zf),([]:List Zt)))) rE)))) (fun rI=>(k (rI,([]:List Zf),([]:List Zt)))) rI)
def WC (F:Nat) (p0:List UInt8) (p1:List UInt8) (p2:List UInt8) (p3:List UInt8) (p4:List UInt8) (p5:List (Zb×Za×Unit)) (p6:Int) (p7:Int):=JM F p0 p1 p2 p3 p4 p5 p6 p7 some
def aow (F:Nat):BN:=
 aq (E:=J5 F) st Tryz.func27 ai 0 [alh F,an6 F] [(.pr .str (.pr .str (.pr .str (.pr .str (.pr .str .un))))),(.ro (.pr (.pr .s (.pr .i (.pr .i .un))) (.pr (.sl .u8) .un))),.i,.i] [] [(.rw 0),(.rw 1),.bo] [.row 141 Qp,.row 142 (.sl Qh)] (fun x y (z:Bool×(List Zf)×(List Zt))=>(((),(),z.1,()),(z.2.1,z.2.2,()))) (fun x y _ k=>JM F x.1.1 x.1.2.1 x.1.2.2.1 x.1.2.2.2.1 x.1.2.2.2.2.1 x.2.1 x.2.2.1 x.2.2.2.1 k) (fun _ _ _ _=>by simp only [JM,oA,oC,oS,oN,ah]) (by kernel_rfl) (fun _ _=>by kernel_rfl)
def E30 (F:Nat):Ev:=ev 28 [] (fun _=>[])
def KY (F:Nat) (p0:List Zf) (p1:List Zt) (p2:Bool) {β:Type} (k:(Za×Int×Za×Zd×Bool)->Option β):Option β:=
 (bif (!p2) then (k (([]:List UInt8),(0:Int),([]:List UInt8),([]:List Za),false)) else (bif ((p0.length:Int) == (0:Int)) then (k (([]:List UInt8),(0:Int),([]:List UInt8),([]:List Za),false)) else ((ix p1 (0:Int)).bind fun x4=>(bif ((x4.length:Int) == (0:Int)) then (k (([]:List UInt8),(0:Int),([]:List UInt8),([]:List Za),false)) else ((ix p1 (0:Int)).bind fun x5=>((ix x5 (0:Int)).bind fun x6=>(k (x6.1.1,x6.1.2.1,x6.2.1,x6.2.2.1,true))))))))
def W9 (F:Nat) (p0:List Zf) (p1:List Zt) (p2:Bool):=KY F p0 p1 p2 some
def aeI (F:Nat):BN:=
 aq (E:=E30 F) st Tryz.func30 ai 0 [] [(.ro Qp),(.ro (.sl Qh)),.bo] [] [(.pr (.pr .str (.pr .i .un)) (.pr (.ro .u8) (.pr (.ro .s) .un))),.bo] [] (fun x y (z:Za×Int×Za×Zd×Bool)=>((((z.1,z.2.1,()),z.2.2.1,z.2.2.2.1,()),z.2.2.2.2,()),())) (fun x y _ k=>KY F x.1 x.2.1 x.2.2.1 k) (fun _ _ _ _=>by simp only [KY,oA,oC,oS,oN,ah]) (by kernel_rfl) (fun _ _=>by kernel_rfl)
def E5 (F:Nat):Ev:=ev 25 [QV F,agm F,aow F,aeI F] (fun _=>[])
def Lw (F:Nat) (p0:UInt8) (p1:Int) {β:Type} (k:(Za×Int×Za×Zd×Bool)->Option β):Option β:=
 ((Dm F p0).bind fun z5=>((Ss F p0 p1).bind fun z6=>((WC F z5.1 z5.2.1 z5.2.2.1 z5.2.2.2.1 z5.2.2.2.2 z6 (1:Int) (2:Int)).bind fun z7=>((W9 F z7.2.1 z7.2.2 z7.1).bind fun z8=>(k (z8.1,z8.2.1,z8.2.2.1,z8.2.2.2.1,z8.2.2.2.2))))))
def T5 (F:Nat) (p0:UInt8) (p1:Int):=Lw F p0 p1 some
def HZ (F:Nat):BN:=
 aq (E:=E5 F) st Tryz.func5 ai 0 [] [.u8,.i] [] [(.pr (.pr .str (.pr .i .un)) (.pr (.ro .u8) (.pr (.ro .s) .un))),.bo] [] (fun x y (z:Za×Int×Za×Zd×Bool)=>((((z.1,z.2.1,()),z.2.2.1,z.2.2.2.1,()),z.2.2.2.2,()),())) (fun x y _ k=>Lw F x.1 x.2.1 k) (fun _ _ _ _=>by simp only [Lw,oA,oC,oS,oN,ah]) (by kernel_rfl) (fun _ _=>by kernel_rfl)
def E67 (F:Nat):Ev:=ev 6 [] (fun _=>[])
def LY (F:Nat) (p0:List UInt8) {β:Type} (k:Bool->Option β):Option β:=
 (k ((p0.length:Int) != (32:Int)))
def MD (F:Nat) (p0:List UInt8):=LY F p0 some
def amT (F:Nat):BN:=
 aq (E:=E67 F) st Tryz.func67 ai 0 [] [.str] [] [.bo] [] (fun x y (z:Bool)=>((z,()),())) (fun x y _ k=>LY F x.1 k) (fun _ _ _ _=>by simp only [LY,oA,oC,oS,oN,ah]) (by kernel_rfl) (fun _ _=>by kernel_rfl)
def Z_ (F:Nat):Ev:=ev 19 [amT F] (fun _=>[])
def xH (F:Nat) (y9:List Za) (bP:Int) (bw:Int) {β:Type} (kA:Int->Option β) (kO:Unit->Option β) (kR:Int->Option β):Option β:=
 (bif (decide (bw < bP)) then ((ix y9 bw).bind fun fw=>((MD F fw).bind fun eR=>(bif eR then (kR bw) else (kA (ag (bw + (1:Int))))))) else (kO ()))
def zn (F:Nat) (y9:List Za) (bP:Int) (bw:Int):Option ((Int) ⊕ ((Unit) ⊕ (Int))):=xH F y9 bP bw (fun s=>some (.inl s)) (fun z=>some (.inr (.inl z))) (fun z=>some (.inr (.inr z)))
def arI (F:Nat):LB (Z_ F) 0 Tryz.f110:=
 gH st ai [] [1,0,1] 0 [0,1,7,8] [(.ro .s),(.fn 67 .un .un),.i,.i] [] [] [] [] [4] [.i] [] F (fun x y (s:Int)=>(x.1,((),()),x.2.2.1,s,())) (fun x y s=>()) (fun x y=>x.2.2.2.1) (fun x y (z:Unit)=>((),())) (fun x y (z:Int)=>((z,()),())) (fun x y s _ kA kO kR=>xH F x.1 x.2.2.1 s kA kO kR) (fun _ _ _ _ _ _ _=>by simp only [xH,oA,oC,oS,oN,aU,aT,ah]) (by kernel_rfl) (by kernel_rfl) (fun _ _ _=>by kernel_rfl)
def Il (F:Nat) (p0:List Za) {β:Type} (k:Int->Option β):Option β:=
 ((iter (fun s=>zn F p0 (p0.length:Int) s) F (0:Int)).bind fun cq=>bz (fun cq=>(k (-1:Int))) (fun cq=>(k cq)) cq)
def UN (F:Nat) (p0:List Za):=Il F p0 some
def akj (F:Nat):BN:=
 aq (E:=Z_ F) st Tryz.func110 ai 0 [arI F] [(.ro .s),(.fn 67 .un .un)] [] [.i] [] (fun x y (z:Int)=>((z,()),())) (fun x y _ k=>Il F x.1 k) (fun _ _ _ _=>by simp only [Il,oA,oC,oS,oN,ah]) (by kernel_rfl) (fun _ _=>by kernel_rfl)
def E66 (F:Nat):Ev:=ev 9 [akj F] (fun _=>[])
def Lm (F:Nat) (p0:List Za) {β:Type} (k:Bool->Option β):Option β:=
 ((UN F p0).bind fun z2=>(k (decide ((0:Int)≤z2))))
def N5 (F:Nat) (p0:List Za):=Lm F p0 some
def akk (F:Nat):BN:=
 aq (E:=E66 F) st Tryz.func66 ai 0 [] [(.ro .s),(.fn 67 .un .un)] [] [.bo] [] (fun x y (z:Bool)=>((z,()),())) (fun x y _ k=>Lm F x.1 k) (fun _ _ _ _=>by simp only [Lm,oA,oC,oS,oN,ah]) (by kernel_rfl) (fun _ _=>by kernel_rfl)
def aep:Nat->List (Tag×Nat)
 | 8=>[(.p,0),(.p,1),(.p,2),(.p,3),(.p,4),(.r,5),(.p,6),(.p,7),(.r,8),(.p,9),(.r,10),(.p,11),(.p,12),(.p,13),(.p,14),(.r,15),(.p,17),(.p,18),(.c,19),(.w,16),(.p,20),(.p,21),(.p,22)]
 | _=>[]
def E23 (F:Nat):Ev:=ev 78 [akk F,Zz F,Bt F] aep
def HP (F:Nat) (p0:List UInt8) (p1:Int) (p2:List UInt8) (p3:List Za) {β:Type} (k:Bool->Option β):Option β:=
 (bif ((p0.length:Int) != (32:Int)) then (k false) else (bif (decide ((p3.length:Int) < (1:Int))) then (k false) else (bif (decide ((16:Int) < (p3.length:Int))) then (k false) else ((N5 F p3).bind fun z5=>(bif z5 then (k false) else (bif (decide (p1 < (0:Int))) then (k false) else (bif (decide ((p3.length:Int)≤p1)) then (k false) else (bif (decide ((p2.length:Int) < (1:Int))) then (k false) else (bif (decide ((65536:Int) < (p2.length:Int))) then (k false) else ((Kl F p2 (512:Int)).bind fun z6=>(bif (z6.2 == (0:Int)) then ((ix p3 p1).bind fun x7=>(bif (z6.1 == x7) then ((tP F p3).bind fun z8=>(k (z8 == p0))) else (k false))) else (k false))))))))))))
def Ih (F:Nat) (p0:List UInt8) (p1:Int) (p2:List UInt8) (p3:List Za):=HP F p0 p1 p2 p3 some
def Ib (F:Nat):BN:=
 aq (E:=E23 F) st Tryz.func23 ai 0 [] [(.pr (.pr .str (.pr .i .un)) (.pr (.ro .u8) (.pr (.ro .s) .un)))] [] [.bo] [] (fun x y (z:Bool)=>((z,()),())) (fun x y _ k=>HP F x.1.1.1 x.1.1.2.1 x.1.2.1 x.1.2.2.1 k) (fun _ _ _ _=>by simp only [HP,oA,oC,oS,oN,ah]) (by kernel_rfl) (fun _ _=>by kernel_rfl)
def aew:Nat->List (Tag×Nat)
 | 3=>[(.p,0),(.c,1),(.p,2),(.c,3),(.p,4),(.p,5),(.c,6),(.w,7),(.p,8),(.w,9),(.b,10)]
 | 4=>[(.c,0),(.p,1),(.r,2),(.w,3),(.p,4),(.w,5),(.p,6),(.p,7)]
 | _=>[]
def al6:Nat->Option Nat
 | 3=>some 9
 | _=>none
def E6 (F:Nat):Ev:=R8 cfg 23 [Ib F,we F,Pk F] aew al6 (fun _=>none)
def BQ (F:Nat) (p0:List UInt8) (p1:Int) (p2:List UInt8) (p3:List Za) {β:Type} (k:(Int×Int×Zd×Za)->Option β):Option β:=
 ((Ih F p0 p1 p2 p3).bind fun z4=>(bif (!z4) then none else ((qA F p3).bind fun z5=>((Aq F p2).bind fun z6=>(k ((0:Int),(p2.length:Int),z5,z6))))))
def T6 (F:Nat) (p0:List UInt8) (p1:Int) (p2:List UInt8) (p3:List Za):=BQ F p0 p1 p2 p3 some
def HN (F:Nat):BN:=
 aq (E:=E6 F) st Tryz.func6 ai 0 [] [(.pr (.pr .str (.pr .i .un)) (.pr (.ro .u8) (.pr (.ro .s) .un)))] [] [(.pt 0 []),.i] [.blk 84 Qf,.row 9 .s,.row 5 .u8] (fun x y (z:Int×Int×Zd×Za)=>(((),z.1,()),((((x.1.1.1,x.1.1.2.1,()),z.2.1,(),()),(),()),z.2.2.1,z.2.2.2,()))) (fun x y _ k=>BQ F x.1.1.1 x.1.1.2.1 x.1.2.1 x.1.2.2.1 k) (fun _ _ _ _=>by simp only [BQ,oA,oC,oS,oN,ah]) (by kernel_rfl) (fun _ _=>by kernel_rfl)
def E9 (F:Nat):Ev:=ev 16 [] (fun _=>[])
def E_ (F:Nat) (p0:Int) {β:Type} (k:Zj->Option β):Option β:=
 (bif (decide (p0 < (0:Int))) then none else (bif (decide ((1073741824:Int) < p0)) then none else (k ((0:Int),false))))
def T9 (F:Nat) (p0:Int):=E_ F p0 some
def JF (F:Nat):BN:=
 aq (E:=E9 F) st Tryz.func9 ai 0 [] [.i,.i] [] [(.pt 0 []),.i] [.blk 96 Qj] (fun x y (z:Int×Bool)=>(((),z.1,()),(((((),(),()),((),(),()),()),x.1,x.2.1,z.2,()),()))) (fun x y _ k=>E_ F x.1 k) (fun _ _ _ _=>by simp only [E_,oA,oC,oS,oN,ah]) (by kernel_rfl) (fun _ _=>by kernel_rfl)
def E69 (F:Nat):Ev:=ev 10 [X7 F] (fun _=>[])
def Pm (F:Nat) (p0:Int) {β:Type} (k:Int->Option β):Option β:=
 ((JK F (UInt64.ofInt p0)).bind fun z2=>(k (ag ((ag ((ag ((1:Int) + z2)) + p0)) + (8:Int)))))
def T69 (F:Nat) (p0:Int):=Pm F p0 some
def am0 (F:Nat):BN:=
 aq (E:=E69 F) st Tryz.func69 ai 0 [] [.i] [] [.i] [] (fun x y (z:Int)=>((z,()),())) (fun x y _ k=>Pm F x.1 k) (fun _ _ _ _=>by simp only [Pm,oA,oC,oS,oN,ah]) (by kernel_rfl) (fun _ _=>by kernel_rfl)
def E24 (F:Nat):Ev:=ev 10 [am0 F] (fun _=>[])
def Nf (F:Nat) (p0:Int) {β:Type} (k:Zv->Option β):Option β:=
 (bif (decide (p0 < (0:Int))) then (k ((0:Int),(1:Int))) else (bif (decide ((65536:Int) < p0)) then (k ((0:Int),(2:Int))) else ((T69 F p0).bind fun z2=>(k (z2,(0:Int))))))
def T24 (F:Nat) (p0:Int):=Nf F p0 some
def apL (F:Nat):BN:=
 aq (E:=E24 F) st Tryz.func24 ai 0 [] [.i] [] [.i,.i] [] (fun x y (z:Int×Int)=>((z.1,z.2,()),())) (fun x y _ k=>Nf F x.1 k) (fun _ _ _ _=>by simp only [Nf,oA,oC,oS,oN,ah]) (by kernel_rfl) (fun _ _=>by kernel_rfl)
structure Xb:Type 1 where
 f:Nat
 x:jf
 ok:pH Tryz.prog nM f x∧∃ fn,Tryz.prog.funcs[f]? = some fn∧fn.body.isSome=true∧(fn.name == "runtime.NumGoroutine")=false
def xl (l:List Xb):List (Nat×jf):=l.map fun b=>(b.f,b.x)
theorem abQ:∀ l:List Xb,tM Tryz.prog nM (xl l)
 | []=>trivial
 | b :: l=>⟨b.ok,abQ l⟩
def oX (n:Nat) (l:List BN) (o:Nat->List (Tag×Nat)) (al:Nat->Option Nat) (ms:Nat->Option (List hU)) (lx:List Xb):Ev:=⟨nM,n,dM (xV (P:=Tryz.prog) (c:=cfg) l),o,fun _=>[],al,ms,wR (xl lx)⟩
theorem AV (n:Nat) (l:List BN) (o:Nat->List (Tag×Nat)) (al:Nat->Option Nat) (ms:Nat->Option (List hU)) (lx:List Xb):bS Tryz.prog (oX n l o al ms lx):=
 aeg (l:=xV (P:=Tryz.prog) (c:=cfg) l) (l':=[]) (lx:=xl lx) rfl rfl rfl (Sn (c:=cfg) (c':=nM) (fun _ _ h=>h) _) trivial (abQ lx)
def bR (n:Nat) (l:List BN) (o:Nat->List (Tag×Nat)) (al:Nat->Option Nat) (ms:Nat->Option (List hU)) (lx:List Xb) {f:Nat} {fn:Func} (hf:Tryz.prog.funcs[f]? = some fn) (hn:fn.ntmps=n) (hb:fn.body=some (cC fn)) (hm:(fn.name == "runtime.NumGoroutine")=false) (h:cA (oX n l o al ms lx) (cC fn)=true):Xb:=
 ⟨f,inl (oX n l o al ms lx) (cC fn) fn.results.toList,alg hf hb hn r8 (AV ..) mixed h,fn,hf,by rw [hb];rfl,hm⟩
def rZ (n:Nat) (l:List BN) (o:Nat->List (Tag×Nat)) (al:Nat->Option Nat) (ms:Nat->Option (List hU)) (lx:List Xb) {f:Nat} {fn:Func} (hf:Tryz.prog.funcs[f]? = some fn) (hn:fn.ntmps=n) (hb:fn.body=some (cC fn)) (hm:(fn.name == "runtime.NumGoroutine")=false) (h:cA (oX n l o al ms lx) (cC fn)=true):Xb:=
 ⟨f,N3 (oX n l o al ms lx) (cC fn) fn.results.toList,aqR hf hb hn r8 (AV ..) mixed h,fn,hf,by rw [hb];rfl,hm⟩
def aaL (n:Nat) (l:List BN) (o:Nat->List (Tag×Nat)) (al:Nat->Option Nat) (ms:Nat->Option (List hU)) (lx:List Xb) {f:Nat} {fn:Func} (hf:Tryz.prog.funcs[f]? = some fn) (hn:fn.ntmps=n) (hb:fn.body=some (cC fn)) (hm:(fn.name == "runtime.NumGoroutine")=false):Xb:=
 ⟨f,QS (oX n l o al ms lx) (cC fn) fn.results.toList,apX hf hb hn r8,fn,hf,by rw [hb];rfl,hm⟩
def bY:Nat->List (Tag×Nat):=fun _=>[]
def bB:Nat->Option Nat:=fun _=>none
def bA:Nat->Option (List hU):=fun _=>none
def bE:Nat->Nat->List (Tag×Nat)->List (Tag×Nat)
 | 0,_,r=>r
 | n + 1,a,r=>(.p,a) :: bE n (a + 1) r
noncomputable def asw (F:Nat):Xb:=bR 8 [] bY bB bA [] Tryz.func250 Tryz.ntmps250 rfl rfl (by kernel_rfl)
noncomputable def amA (F:Nat):Xb:=bR 143 [] bY bB bA [asw F] Tryz.func262 Tryz.ntmps262 rfl rfl (by kernel_rfl)
noncomputable def Np (F:Nat):Xb:=bR 8 [] bY bB bA [amA F] Tryz.func239 Tryz.ntmps239 rfl rfl (by kernel_rfl)
noncomputable def apN (F:Nat):Xb:=bR 34 [] bY bB bA [Np F] Tryz.func238 Tryz.ntmps238 rfl rfl (by kernel_rfl)
noncomputable def aif (F:Nat):Xb:=bR 66 [] bY bB bA [apN F,Np F] Tryz.func209 Tryz.ntmps209 rfl rfl (by kernel_rfl)
noncomputable def YO (F:Nat):Xb:=bR 8 [] bY bB bA [aif F] Tryz.func183 Tryz.ntmps183 rfl rfl (by kernel_rfl)
noncomputable def ajT (F:Nat):Xb:=bR 9 [] bY bB bA [Np F] Tryz.func213 Tryz.ntmps213 rfl rfl (by kernel_rfl)
def acW:Nat->List (Tag×Nat)
 | 1=>bE 19 0 []
 | 2=>bE 39 0 []
 | _=>[]
noncomputable def adz (F:Nat):Xb:=bR 59 [] acW bB bA [] Tryz.func279 Tryz.ntmps279 rfl rfl (by kernel_rfl)
def aiT:Nat->List (Tag×Nat)
 | 7=>bE 5 0 ((.p,6) :: (.p,7) :: (.w,5) :: (.w,8) :: bE 4 9 [])
 | 9=>bE 5 0 ((.p,6) :: (.p,7) :: (.p,10) :: (.p,11) :: (.p,13) :: (.p,14) :: (.w,5) :: (.w,8) :: (.p,9) :: (.w,12) :: (.w,15) :: bE 5 16 [])
 | 17=>bE 7 0 ((.r,7) :: bE 4 8 ((.r,12) :: bE 4 13 []))
 | 21=>bE 7 0 ((.r,7) :: bE 4 8 ((.r,12) :: bE 14 13 []))
 | 25=>bE 7 0 ((.r,7) :: bE 4 8 ((.r,12) :: bE 24 13 []))
 | _=>[]
noncomputable def aqC (F:Nat):Xb:=bR 169 [] aiT bB bA [adz F] Tryz.func264 Tryz.ntmps264 rfl rfl (by kernel_rfl)
noncomputable def ajf (F:Nat):Xb:=bR 14 [] bY bB bA [aqC F] Tryz.func242 Tryz.ntmps242 rfl rfl (by kernel_rfl)
noncomputable def amw (F:Nat):Xb:=bR 27 [] bY bB bA [ajT F,ajf F] Tryz.func214 Tryz.ntmps214 rfl rfl (by kernel_rfl)
noncomputable def abu (F:Nat):Xb:=bR 26 [] bY bB bA [YO F,amw F] Tryz.func186 Tryz.ntmps186 rfl rfl (by kernel_rfl)
noncomputable def YU (F:Nat):Xb:=bR 12 [] bY bB bA [abu F] Tryz.func193 Tryz.ntmps193 rfl rfl (by kernel_rfl)
noncomputable def acA (F:Nat):Xb:=bR 57 [] bY bB bA [YU F] Tryz.func158 Tryz.ntmps158 rfl rfl (by kernel_rfl)
noncomputable def ap0 (F:Nat):Xb:=bR 6 [] bY bB bA [] Tryz.func222 Tryz.ntmps222 rfl rfl (by kernel_rfl)
noncomputable def amU (F:Nat):Xb:=bR 20 [] bY bB bA [ap0 F] Tryz.func196 Tryz.ntmps196 rfl rfl (by kernel_rfl)
def aoR:Nat->List (Tag×Nat)
 | 5=>bE 7 0 []
 | 6=>bE 4 0 (bE 4 5 ((.w,4) :: (.w,9) :: (.w,10) :: (.p,11) :: []))
 | _=>[]
noncomputable def MH (F:Nat):Xb:=bR 39 [] aoR bB bA [amU F] Tryz.func159 Tryz.ntmps159 rfl rfl (by kernel_rfl)
noncomputable def asP (F:Nat):Xb:=bR 19 [] bY bB bA [] Tryz.func223 Tryz.ntmps223 rfl rfl (by kernel_rfl)
noncomputable def ahI (F:Nat):Xb:=bR 36 [] bY bB bA [asP F] Tryz.func197 Tryz.ntmps197 rfl rfl (by kernel_rfl)
noncomputable def aeG (F:Nat):Xb:=bR 12 [] bY bB bA [YU F,ahI F] Tryz.func160 Tryz.ntmps160 rfl rfl (by kernel_rfl)
def ajy:Nat->List (Tag×Nat)
 | 9=>bE 8 0 ((.r,8) :: (.p,9) :: (.r,10) :: (.w,11) :: (.p,12) :: (.p,13) :: [])
 | _=>[]
noncomputable def EM (F:Nat):Xb:=bR 64 [] ajy bB bA [acA F,MH F,aeG F] Tryz.func125 Tryz.ntmps125 rfl rfl (by kernel_rfl)
noncomputable def ai0 (F:Nat):Xb:=bR 21 [] bY bB bA [] Tryz.func176 Tryz.ntmps176 rfl rfl (by kernel_rfl)
noncomputable def apk (F:Nat):Xb:=bR 26 [] bY bB bA [] Tryz.func177 Tryz.ntmps177 rfl rfl (by kernel_rfl)
noncomputable def aaM (F:Nat):Xb:=rZ 8 [] bY bB bA [] Tryz.func207 Tryz.ntmps207 rfl rfl (by kernel_rfl)
noncomputable def amR (F:Nat):Xb:=rZ 8 [] bY bB bA [aaM F] Tryz.func179 Tryz.ntmps179 rfl rfl (by kernel_rfl)
noncomputable def agl (F:Nat):Xb:=bR 19 [] bY bB bA [] Tryz.func162 Tryz.ntmps162 rfl rfl (by kernel_rfl)
noncomputable def afl (F:Nat):Xb:=bR 25 [] bY bB bA [] Tryz.func163 Tryz.ntmps163 rfl rfl (by kernel_rfl)
noncomputable def akQ (F:Nat):Xb:=bR 8 [] bY bB bA [agl F,afl F] Tryz.func130 Tryz.ntmps130 rfl rfl (by kernel_rfl)
noncomputable def anr (F:Nat):Xb:=bR 20 [] bY bB bA [MH F] Tryz.func181 Tryz.ntmps181 rfl rfl (by kernel_rfl)
def amm:Nat->List (Tag×Nat)
 | 4=>bE 8 0 ((.r,8) :: bE 4 9 ((.r,13) :: (.w,14) :: (.p,15) :: (.p,16) :: []))
 | 6=>bE 9 0 ((.r,9) :: bE 3 10 ((.r,13) :: (.p,14) :: (.w,15) :: (.p,16) :: (.w,17) :: []))
 | _=>[]
noncomputable def ahc (F:Nat):Xb:=bR 53 [] amm bB bA [anr F] Tryz.func229 Tryz.ntmps229 rfl rfl (by kernel_rfl)
def aqu:Nat->List (Tag×Nat)
 | 17=>bE 8 0 ((.r,8) :: bE 3 9 ((.r,12) :: (.w,13) :: bE 3 14 []))
 | _=>[]
noncomputable def aj9 (F:Nat):Xb:=bR 148 [] aqu bB bA [ahc F] Tryz.func208 Tryz.ntmps208 rfl rfl (by kernel_rfl)
noncomputable def ae2 (F:Nat):Xb:=bR 14 [] bY bB bA [akQ F,aj9 F] Tryz.func180 Tryz.ntmps180 rfl rfl (by kernel_rfl)
def ao3:Nat->List (Tag×Nat)
 | 21=>(.p,0) :: (.p,1) :: (.c,2) :: (.r,3) :: (.w,4) :: (.p,5) :: (.w,6) :: (.w,7) :: (.p,8) :: []
 | 22=>(.p,0) :: (.c,1) :: (.c,2) :: (.w,3) :: (.p,4) :: (.w,5) :: (.b,6) :: []
 | 27=>(.p,0) :: (.r,1) :: (.p,2) :: (.r,3) :: (.r,4) :: (.p,5) :: (.w,6) :: []
 | _=>[]
def afn:Nat->Option Nat
 | 22=>some 5
 | _=>none
noncomputable def ahX (F:Nat):Xb:=bR 156 [] ao3 afn bA [ai0 F,apk F,amR F,ae2 F] Tryz.func150 Tryz.ntmps150 rfl rfl (by kernel_rfl)
noncomputable def ahB (F:Nat):Xb:=bR 21 [] bY bB bA [EM F,ahX F] Tryz.func122 Tryz.ntmps122 rfl rfl (by kernel_rfl)
noncomputable def adk (F:Nat):Xb:=bR 5 [] bY bB bA [] Tryz.func124 Tryz.ntmps124 rfl rfl (by kernel_rfl)
noncomputable def agd (F:Nat):Xb:=bR 47 [] bY bB bA [EM F] Tryz.func151 Tryz.ntmps151 rfl rfl (by kernel_rfl)
noncomputable def M2 (F:Nat):Xb:=bR 40 [] bY bB bA [] Tryz.func126 Tryz.ntmps126 rfl rfl (by kernel_rfl)
noncomputable def afI (F:Nat):Xb:=bR 47 [] bY bB bA [YO F] Tryz.func152 Tryz.ntmps152 rfl rfl (by kernel_rfl)
noncomputable def ad4 (F:Nat):Xb:=rZ 23 [] bY bB bA [] Tryz.func153 Tryz.ntmps153 rfl rfl (by kernel_rfl)
noncomputable def ada (F:Nat):Xb:=rZ 29 [] bY bB bA [] Tryz.func154 Tryz.ntmps154 rfl rfl (by kernel_rfl)
noncomputable def ah1 (F:Nat):Xb:=bR 107 [] bY bB bA [abu F] Tryz.func155 Tryz.ntmps155 rfl rfl (by kernel_rfl)
noncomputable def asM (F:Nat):Xb:=bR 20 [] bY bB bA [M2 F] Tryz.func248 Tryz.ntmps248 rfl rfl (by kernel_rfl)
noncomputable def adh (F:Nat):Xb:=bR 37 [] bY bB bA [] Tryz.func292 Tryz.ntmps292 rfl rfl (by kernel_rfl)
def ac4:Nat->List (Tag×Nat)
 | 2=>bE 5 0 ((.w,5) :: (.w,6) :: [])
 | _=>[]
noncomputable def aeF (F:Nat):Xb:=rZ 19 [] ac4 bB bA [adh F] Tryz.func283 Tryz.ntmps283 rfl rfl (by kernel_rfl)
def ajm:Nat->List (Tag×Nat)
 | 1=>(.p,0) :: (.r,1) :: (.p,2) :: (.r,3) :: (.c,7) :: (.p,8) :: (.c,9) :: (.p,10) :: (.w,4) :: (.p,5) :: (.r,6) :: (.p,11) :: (.b,12) :: []
 | _=>[]
noncomputable def abm (F:Nat):Xb:=bR 15 [] ajm bB bA [aeF F] Tryz.func270 Tryz.ntmps270 rfl rfl (by kernel_rfl)
noncomputable def amb (F:Nat):Xb:=rZ 17 [] bY bB bA [] Tryz.func293 Tryz.ntmps293 rfl rfl (by kernel_rfl)
def adm:Nat->List (Tag×Nat)
 | 0=>bE 4 0 ((.r,4) :: bE 5 6 ((.c,11) :: (.w,5) :: bE 3 12 ((.b,15) :: [])))
 | 1=>bE 3 0 ((.r,3) :: bE 3 4 ((.r,7) :: (.p,8) :: []))
 | 2=>bE 3 0 ((.c,3) :: bE 5 4 ((.r,9) :: bE 3 10 ((.r,13) :: bE 3 14 ((.r,17) :: bE 3 18 ((.r,21) :: (.w,22) :: bE 3 23 ((.b,26) :: []))))))
 | 5=>bE 4 0 ((.r,4) :: bE 3 5 ((.r,8) :: bE 6 9 ((.w,15) :: [])))
 | _=>[]
noncomputable def aqL (F:Nat):Xb:=bR 92 [] adm bB bA [amb F] Tryz.func284 Tryz.ntmps284 rfl rfl (by kernel_rfl)
noncomputable def aqj (F:Nat):Xb:=aaL 7 [] bY bB bA [] Tryz.func285 Tryz.ntmps285 rfl rfl
noncomputable def ah5 (F:Nat):Xb:=aaL 7 [] bY bB bA [] Tryz.func287 Tryz.ntmps287 rfl rfl
noncomputable def ahm (F:Nat):Xb:=bR 14 [] bY bB bA [] Tryz.func294 Tryz.ntmps294 rfl rfl (by kernel_rfl)
noncomputable def akS (F:Nat):Xb:=rZ 5 [] bY bB bA [ahm F] Tryz.func286 Tryz.ntmps286 rfl rfl (by kernel_rfl)
def akY:Nat->List (Tag×Nat)
 | 3=>bE 3 0 (bE 4 4 ((.c,8) :: (.w,3) :: bE 5 9 (bE 4 16 ((.c,20) :: (.w,14) :: (.w,15) :: (.p,21) :: (.p,22) :: []))))
 | 5=>bE 3 0 ((.r,3) :: bE 3 4 ((.r,7) :: (.p,8) :: (.p,9) :: []))
 | _=>[]
noncomputable def WZ (F:Nat):Xb:=bR 64 [] akY bB bA [aqL F,aqj F,ah5 F,akS F] Tryz.func271 Tryz.ntmps271 rfl rfl (by kernel_rfl)
noncomputable def X_ (F:Nat):Ev:=oX 43 [] bY bB bA [abm F,WZ F]
theorem amB (F:Nat):bS Tryz.prog (X_ F):=AV ..
noncomputable def afX (F:Nat):Xb:=bR 43 [] bY bB bA [abm F,WZ F] Tryz.func269 Tryz.ntmps269 rfl rfl (by kernel_rfl)
noncomputable def akc (F:Nat):Xb:=bR 6 [] bY bB bA [afX F] Tryz.func249 Tryz.ntmps249 rfl rfl (by kernel_rfl)
def ar0:Nat->List (Tag×Nat)
 | 8=>(.c,0) :: (.r,1) :: (.r,2) :: (.p,3) :: (.p,4) :: (.w,5) :: (.w,6) :: (.w,7) :: (.b,8) :: []
 | _=>[]
noncomputable def Dk (F:Nat):Ev:=oX 31 [] ar0 bB bA [asM F,akc F,aaM F]
theorem P1 (F:Nat):bS Tryz.prog (Dk F):=AV ..
noncomputable def aes (F:Nat):Nat->St->(Exit->St->Option (IV×aj))->Option (IV×aj):=fun m st k=>jw (Dk F) m [0,1,0,1,1,1,1] (R3 (Dk F) (X_ F) 19 269 (cC Tryz.f269) (MJ (bh (cC Tryz.f219) [0,1,0,1,1,1,1])) [0,0,1,1,1,0,0,1,1,0,0,1,1,1] 9 20 8 37 38 39 40) (cC Tryz.f219) [] st k
noncomputable def Yy (F:Nat):jf:=Md (Dk F) (aes F) Tryz.f219.results.toList
theorem B7 (F:Nat):pH Tryz.prog nM 219 (Yy F):=by
 refine arh (E:=Dk F) Tryz.func219 rfl Tryz.ntmps219 r8 (P1 F) mixed (fun hm st k N X Y a w e hG hK=>?_)
 refine Xn (root:=(cC Tryz.f219)) r8 (P1 F) mixed hm (fun st k N X Y a w e hG hK=>?_) (cC Tryz.f219) [] st k N X Y a w rfl (by kernel_rfl) e hG hK
 obtain ⟨oa,h1,h2⟩:=afN (c:=bh (cC Tryz.f219) [0,1,0,1,1,1,1]) (gt:=19) (oI:=7) (d:=9) (s:=20) (ps:=[20]) (by kernel_rfl)
 obtain ⟨o1,o2,o3,o4,ats,g1,g2,g3,g4,g5⟩:=aoK (c:=bh (cC Tryz.f269) [0,0,1,1,1,0,0,1,1,0,0,1,1,1]) (pP:=7) (sv:=8) (d1:=37) (d2:=38) (d3:=39) (d4:=40) (by kernel_rfl)
 rw [h1]
 exact alS r8 (P1 F) (amB F) rfl mixed h2 Tryz.func269 rfl Tryz.ntmps269 rfl (fun args w=>by kernel_rfl) (by kernel_rfl) (by kernel_rfl) (by kernel_rfl) g1 g2 g3 g4 g5 (by kernel_rfl) (by kernel_rfl) (by kernel_rfl) (by kernel_rfl) (by kernel_rfl) (by kernel_rfl) (by decide) st k N X Y a w e hG hK
noncomputable def adS (F:Nat):Xb:=⟨219,Yy F,B7 F,_,Tryz.func219,rfl,rfl⟩
noncomputable def uJ (F:Nat):Xb:=rZ 8 [] bY bB bA [] Tryz.func32 Tryz.ntmps32 rfl rfl (by kernel_rfl)
def aqG:Nat->List (Tag×Nat)
 | 12=>bE 5 0 ((.c,5) :: (.p,6) :: (.w,7) :: (.w,8) :: (.w,9) :: bE 3 10 ((.b,13) :: []))
 | _=>[]
noncomputable def arL (F:Nat):Xb:=bR 66 [zU F] aqG bB bA [adS F,uJ F] Tryz.func191 Tryz.ntmps191 rfl rfl (by kernel_rfl)
def aid:Nat->List (Tag×Nat)
 | 3=>bE 3 0 ((.c,3) :: (.p,4) :: (.c,5) :: (.c,6) :: bE 3 7 ((.w,10) :: (.b,11) :: (.p,12) :: []))
 | 4=>bE 5 0 ((.r,5) :: (.r,6) :: (.r,7) :: (.w,8) :: (.p,9) :: [])
 | 12=>bE 6 0 ((.c,6) :: (.r,7) :: (.w,8) :: (.w,9) :: bE 4 10 ((.b,14) :: []))
 | _=>[]
noncomputable def adO (F:Nat):Xb:=bR 95 [] aid bB bA [arL F] Tryz.func156 Tryz.ntmps156 rfl rfl (by kernel_rfl)
def aoS:Nat->List (Tag×Nat)
 | 5=>(.p,0) :: (.r,1) :: bE 3 2 ((.r,5) :: (.p,6) :: (.r,7) :: bE 3 8 ((.r,11) :: (.w,12) :: (.p,13) :: []))
 | 10=>(.p,0) :: (.r,1) :: (.p,2) :: (.p,3) :: (.r,4) :: (.p,5) :: (.r,6) :: (.p,7) :: (.p,8) :: (.r,9) :: (.w,10) :: (.p,11) :: []
 | _=>[]
noncomputable def agJ (F:Nat):Xb:=bR 106 [] aoS bB bA [MH F] Tryz.func157 Tryz.ntmps157 rfl rfl (by kernel_rfl)
def ag8:Nat->List (Tag×Nat)
 | 9=>(.p,0) :: (.c,1) :: (.r,2) :: (.c,4) :: (.c,6) :: (.w,3) :: (.w,5) :: (.p,7) :: (.w,8) :: (.p,9) :: []
 | 22=>(.p,0) :: (.r,1) :: bE 4 2 ((.r,6) :: (.w,7) :: bE 3 8 ((.w,11) :: []))
 | _=>[]
noncomputable def arm (F:Nat):Xb:=bR 112 [] ag8 bB bA [agd F,M2 F,afI F,EM F,ad4 F,ada F,ah1 F,adO F,agJ F] Tryz.func123 Tryz.ntmps123 rfl rfl (by kernel_rfl)
noncomputable def ab0 (F:Nat):Ev:=oX 49 [] bY bB bA [ahB F,adk F,arm F,EM F,M2 F]
theorem ahA (F:Nat):bS Tryz.prog (ab0 F):=AV ..
theorem alX (F:Nat):Sound Tryz.prog cfg 72 (cu 0 [] [] [.bo] [] (fun x y=>bif Nat.beq F 50000 then some true else none) (fun x y (z:Bool)=>((z,()),()))):=by
 cases hF:Nat.beq F 50000 with
 | false=>intro x y p q hrun;cases hrun
 | true=>
  have h:=ay hF
  subst h
  exact ov (E:=ab0 50000) (code:=cC Tryz.f72) (lp:=[]) Tryz.func72 rfl Tryz.ntmps72 rfl rfl r8 (ahA 50000) mixed trivial (by kernel_rfl) (fun _ _ k=>k true) (fun _ _ _=>rfl) (fun _ _=>by kernel_rfl)
def ZQ (F:Nat):Option (Bool):=bif Nat.beq F 50000 then some true else none
def UZ (F:Nat):Ct:=cu 0 [] [] [.bo] [] (fun x y=>ZQ F) (fun x y (z:Bool)=>((z,()),()))
theorem agY (F:Nat):Sound Tryz.prog cfg 72 (UZ F):=alX F
def aiQ (F:Nat):BN:=⟨72,UZ F,agY F,_,Tryz.func72,rfl,rfl⟩
def ZU (F:Nat):Ev:=ev 58 [RY F,Nc F,aaN F] (fun _=>[])
def PE (F:Nat) (bN:List Zb) (dQ:Int) (gp:Int) (dP:Int) {β:Type} (kA:Int->Option β) (kO:Unit->Option β) (kR:Int->Option β):Option β:=
 (bif (decide (dP < dQ)) then ((ix bN dP).bind fun Sk=>((JD F Sk.2.2.1 gp).bind fun pI=>(bif (!pI) then (kR (1:Int)) else (kA (ag (dP + (1:Int))))))) else (kO ()))
def ake (F:Nat) (bN:List Zb) (dQ:Int) (gp:Int) (dP:Int):Option ((Int) ⊕ ((Unit) ⊕ (Int))):=PE F bN dQ gp dP (fun s=>some (.inl s)) (fun z=>some (.inr (.inl z))) (fun z=>some (.inr (.inr z)))
def agR (F:Nat):LB (ZU F) 0 Tryz.f73:=
 gH st ai [] [1,0,1,1,1] 0 [1,46,47,48] [(.pt 0 []),(.ro Qe),.i,.i] [.blk 141 (.pr .str (.pr .i (.pr .i (.pr .i (.pr .i (.pr (.ro Qe) .un))))))] [] [] [] [2] [.i] [] F (fun x y (s:Int)=>((),x.2.1,x.2.2.1,s,())) (fun x y s=>((y.1.1,y.1.2.1,y.1.2.2.1,y.1.2.2.2.1,y.1.2.2.2.2.1,y.1.2.2.2.2.2.1,()),())) (fun x y=>x.2.2.2.1) (fun x y (z:Unit)=>((),())) (fun x y (z:Int)=>((z,()),())) (fun x y s _ kA kO kR=>PE F x.2.1 x.2.2.1 y.1.2.2.1 s kA kO kR) (fun _ _ _ _ _ _ _=>by simp only [PE,oA,oC,oS,oN,aU,aT,ah]) (by kernel_rfl) (by kernel_rfl) (fun _ _ _=>by kernel_rfl)
def NE (F:Nat) (p0:List UInt8) (p1:Int) (p2:Int) (p3:Int) (p4:Int) (p5:List Zb) {β:Type} (k:Int->Option β):Option β:=
 (bif ((p0.length:Int) != (32:Int)) then (k (1:Int)) else (bif (decide (p1 < (0:Int))) then (k (1:Int)) else (bif (decide ((11:Int) < p1)) then (k (1:Int)) else ((vU F p3 p4).bind fun sU=>(bif (!sU) then (k (1:Int)) else (bif (decide ((p5.length:Int) < (1:Int))) then (k (1:Int)) else (bif (decide (p3 < (p5.length:Int))) then (k (1:Int)) else ((xS F p5).bind fun gU=>(bif (!gU) then (k (1:Int)) else ((iter (fun s=>ake F p5 (p5.length:Int) p2 s) F (0:Int)).bind fun k8=>bz (fun k8=>(k (0:Int))) (fun k8=>(k k8)) k8))))))))))
def T73 (F:Nat) (p0:List UInt8) (p1:Int) (p2:Int) (p3:Int) (p4:Int) (p5:List Zb):=NE F p0 p1 p2 p3 p4 p5 some
def adZ (F:Nat):BN:=
 aq (E:=ZU F) st Tryz.func73 ai 0 [agR F] [(.pr .str (.pr .i (.pr .i (.pr .i (.pr .i (.pr (.ro Qe) .un))))))] [] [.i] [] (fun x y (z:Int)=>((z,()),())) (fun x y _ k=>NE F x.1.1 x.1.2.1 x.1.2.2.1 x.1.2.2.2.1 x.1.2.2.2.2.1 x.1.2.2.2.2.2.1 k) (fun _ _ _ _=>by simp only [NE,oA,oC,oS,oN,ah]) (by kernel_rfl) (fun _ _=>by kernel_rfl)
def E25 (F:Nat):Ev:=ev 41 [QV F,Ou F,VU F,aiQ F,adZ F] (fun _=>[])
def O6 (F:Nat) {β:Type} (k:Bool->Option β):Option β:=
 ((Dm F (UInt8.ofNat 1)).bind fun z6=>((wF F z6.1 z6.2.1 z6.2.2.1 z6.2.2.2.1 z6.2.2.2.2 (0:Int) ([(UInt8.ofNat 120)]:List UInt8)).bind fun z7=>(bif (z7.2.2.2.1 != (0:Int)) then (k false) else ((Ip F (0:Int) (1:Int) (2:Int) ([(z7.1,z7.2.1,z7.2.2.1,())]:List Zb) ([z7.2.2.2.2]:List Za)).bind fun z8=>((ZQ F).bind fun z9=>(bif z9 then (bif (z8.2.2.2.2.2.1 == (0:Int)) then (bif ((z8.2.2.2.2.2.2.2.length:Int) == (2:Int)) then ((T73 F z8.1 z8.2.1 z8.2.2.1 z8.2.2.2.1 z8.2.2.2.2.1 z8.2.2.2.2.2.2.1).bind fun bg=>(k (bg == (0:Int)))) else (k false)) else (k false)) else (k false)))))))
def VS (F:Nat):=O6 F some
def aiS (F:Nat):BN:=
 aq (E:=E25 F) st Tryz.func25 ai 0 [] [] [] [.bo] [] (fun x y (z:Bool)=>((z,()),())) (fun x y _ k=>O6 F k) (fun _ _ _ _=>by simp only [O6,oA,oC,oS,oN,ah]) (by kernel_rfl) (fun _ _=>by kernel_rfl)
def E35 (F:Nat):Ev:=ev 7 [] (fun _=>[])
def Ey (F:Nat) (p0:Int) {β:Type} (k:Int->Option β):Option β:=
 (k (ag (Int.tdiv (ag ((ag (p0 + (512:Int))) - (1:Int))) (512:Int))))
def LX (F:Nat) (p0:Int):=Ey F p0 some
def WQ (F:Nat):BN:=
 aq (E:=E35 F) st Tryz.func35 ai 0 [] [.i] [] [.i] [] (fun x y (z:Int)=>((z,()),())) (fun x y _ k=>Ey F x.1 k) (fun _ _ _ _=>by simp only [Ey,oA,oC,oS,oN,ah]) (by kernel_rfl) (fun _ _=>by kernel_rfl)
def E26 (F:Nat):Ev:=ev 9 [WQ F] (fun _=>[])
def IX (F:Nat) (p4:List UInt8) {β:Type} (k:Int->Option β):Option β:=
 ((LX F (p4.length:Int)).bind fun z2=>(k z2))
def Jp (F:Nat) (p4:List UInt8):=IX F p4 some
def ahW (F:Nat):BN:=
 aq (E:=E26 F) st Tryz.func26 ai 3 [] [(.pt 0 [])] [.blk 84 Qf,.row 9 .s,.row 5 .u8] [.i] [.blk 84 Qf,.row 9 .s,.row 5 .u8] (fun x y (z:Int)=>((z,()),((((y.1.1.1.1,y.1.1.1.2.1,()),y.1.1.2.1,(),()),(),()),y.2.1,y.2.2.1,()))) (fun x y _ k=>IX F y.2.2.1 k) (fun _ _ _ _=>by simp only [IX,oA,oC,oS,oN,ah]) (by kernel_rfl) (fun _ _=>by kernel_rfl)
def apH:Nat->List (Tag×Nat)
 | 1=>[(.p,0),(.p,1),(.p,2),(.p,3),(.p,4),(.r,5),(.p,6),(.p,7),(.p,8),(.p,9),(.p,10),(.p,11),(.r,12),(.p,13),(.p,14),(.p,15)]
 | _=>[]
def E57 (F:Nat):Ev:=ev 18 [] apH
def H7 (F:Nat) (p0:(Vector Zl 2)×Int×Int×Bool×Unit) {β:Type} (k:Int->Option β):Option β:=
 ((dc p0.1 (0:Int)).bind fun x3=>((dc p0.1 (1:Int)).bind fun x4=>(k (ag ((x3.1.length:Int) + (x4.1.length:Int))))))
def tc (F:Nat) (p0:(Vector Zl 2)×Int×Int×Bool×Unit):=H7 F p0 some
def PK (F:Nat):BN:=
 aq (E:=E57 F) st Tryz.func57 ai 0 [] [(.re (.pr (.ar 2 (.pr (.sl .u8) (.pr (.sl .u8) .un))) (.pr .i (.pr .i (.pr .bo .un)))))] [] [.i] [] (fun x y (z:Int)=>((z,()),())) (fun x y _ k=>H7 F x.1 k) (fun _ _ _ _=>by simp only [H7,oA,oC,oS,oN,ah]) (by kernel_rfl) (fun _ _=>by kernel_rfl)
def af4:Nat->List (Tag×Nat)
 | 1=>[(.p,0),(.p,1),(.p,2),(.c,3),(.p,4),(.w,5),(.p,6),(.p,7)]
 | _=>[]
def E18 (F:Nat):Ev:=ev 10 [PK F] af4
def Ld (F:Nat) (p0:(Vector Zl 2)×Int×Int×Bool×Unit) {β:Type} (k:Int->Option β):Option β:=
 ((tc F p0).bind fun z2=>(k (ag (p0.2.1 - z2))))
def sX (F:Nat) (p0:(Vector Zl 2)×Int×Int×Bool×Unit):=Ld F p0 some
def yt (F:Nat):BN:=
 aq (E:=E18 F) st Tryz.func18 ai 0 [] [(.re (.pr (.ar 2 (.pr (.sl .u8) (.pr (.sl .u8) .un))) (.pr .i (.pr .i (.pr .bo .un)))))] [] [.i] [] (fun x y (z:Int)=>((z,()),())) (fun x y _ k=>Ld F x.1 k) (fun _ _ _ _=>by simp only [Ld,oA,oC,oS,oN,ah]) (by kernel_rfl) (fun _ _=>by kernel_rfl)
def E4 (F:Nat):Ev:=ev 56 [HZ F,HN F,JF F,apL F,aiS F,ahW F,yt F] (fun _=>[])
def G7 (F:Nat) {β:Type} (k:Bool->Option β):Option β:=
 ((T5 F (UInt8.ofNat 1) (600:Int)).bind fun z8=>((T6 F z8.1 z8.2.1 z8.2.2.1 z8.2.2.2.1).bind fun z9=>((T9 F (10:Int)).bind fun bg=>((T24 F (0:Int)).bind fun dG=>((VS F).bind fun ca=>(bif ca then (bif z8.2.2.2.2 then (bif (z9.1 == (0:Int)) then ((Jp F z9.2.2.2).bind fun gz=>(bif (gz == (2:Int)) then (bif (bg.1 == (0:Int)) then ((sX F ((#v[(([]:List UInt8),([]:List UInt8),()),(([]:List UInt8),([]:List UInt8),())]:Vector Zl 2),(10:Int),(-1:Int),bg.2,())).bind fun fk=>(bif (fk == (10:Int)) then (bif (dG.2 == (0:Int)) then (k (dG.1 == (10:Int))) else (k false)) else (k false))) else (k false)) else (k false))) else (k false)) else (k false)) else (k false)))))))
def T4 (F:Nat):=G7 F some
def L0 (F:Nat):BN:=
 aq (E:=E4 F) st Tryz.func4 ai 0 [] [] [] [.bo] [] (fun x y (z:Bool)=>((z,()),())) (fun x y _ k=>G7 F k) (fun _ _ _ _=>by simp only [G7,oA,oC,oS,oN,ah]) (by kernel_rfl) (fun _ _=>by kernel_rfl)
def aih:Nat->List (Tag×Nat)
 | 1=>[(.p,0),(.p,1),(.p,2),(.c,3),(.p,4),(.p,5),(.p,6),(.c,7),(.p,8),(.p,9),(.p,10),(.r,11),(.w,12),(.p,13),(.b,14)]
 | _=>[]
def E36 (F:Nat):Ev:=ev 17 [we F] aih
def Es (F:Nat) (p3:List Za) {β:Type} (k:(Zd)->Option β):Option β:=
 ((qA F p3).bind fun z2=>(k z2))
def T36 (F:Nat) (p3:List Za):=Es F p3 some
def alC (F:Nat):BN:=
 aq (E:=E36 F) st Tryz.func36 ai 3 [] [(.pt 0 [0])] [.blk 84 Qf,.row 9 .s,.row 5 .u8] [(.pr (.pr .str (.pr .i .un)) (.pr .i (.pr (.rw 3) .un)))] [.blk 84 Qf,.row 9 .s,.row 5 .u8,.row 9 .s] (fun x y (z:Zd)=>((((y.1.1.1.1,y.1.1.1.2.1,()),y.1.1.2.1,(),()),()),((((y.1.1.1.1,y.1.1.1.2.1,()),y.1.1.2.1,(),()),(),()),y.2.1,y.2.2.1,z,()))) (fun x y _ k=>Es F y.2.1 k) (fun _ _ _ _=>by simp only [Es,oA,oC,oS,oN,ah]) (by kernel_rfl) (fun _ _=>by kernel_rfl)
def E8 (F:Nat):Ev:=ev 7 [alC F] (fun _=>[])
def Kv (F:Nat) (p3:List Za) {β:Type} (k:(Zd)->Option β):Option β:=
 ((T36 F p3).bind fun z2=>(k z2))
def T8 (F:Nat) (p3:List Za):=Kv F p3 some
def Pu (F:Nat):BN:=
 aq (E:=E8 F) st Tryz.func8 ai 3 [] [(.pt 0 [])] [.blk 84 Qf,.row 9 .s,.row 5 .u8] [(.pr (.pr .str (.pr .i .un)) (.pr .i (.pr (.rw 3) .un)))] [.blk 84 Qf,.row 9 .s,.row 5 .u8,.row 9 .s] (fun x y (z:Zd)=>((((y.1.1.1.1,y.1.1.1.2.1,()),y.1.1.2.1,(),()),()),((((y.1.1.1.1,y.1.1.1.2.1,()),y.1.1.2.1,(),()),(),()),y.2.1,y.2.2.1,z,()))) (fun x y _ k=>Kv F y.2.1 k) (fun _ _ _ _=>by simp only [Kv,oA,oC,oS,oN,ah]) (by kernel_rfl) (fun _ _=>by kernel_rfl)
def E77 (F:Nat):Ev:=ev 15 [] (fun _=>[])
def Au (F:Nat) (y7:List Za) (y8:Int) (y9:Int) {β:Type} (kA:Int->Option β) (kO:Unit->Option β) (kR:Bool->Option β):Option β:=
 (bif (decide (y9 < y8)) then ((ix y7 y9).bind fun jc=>(bif ((jc.length:Int) != (32:Int)) then (kR false) else (kA (ag (y9 + (1:Int)))))) else (kO ()))
def Hs (F:Nat) (y7:List Za) (y8:Int) (y9:Int):Option ((Int) ⊕ ((Unit) ⊕ (Bool))):=Au F y7 y8 y9 (fun s=>some (.inl s)) (fun z=>some (.inr (.inl z))) (fun z=>some (.inr (.inr z)))
def aju (F:Nat):LB (E77 F) 0 Tryz.f77:=
 gH st ai [] [1,0,1] 0 [5,6,7] [(.ro .s),.i,.i] [] [] [] [] [2] [.bo] [] F (fun x y (s:Int)=>(x.1,x.2.1,s,())) (fun x y s=>()) (fun x y=>x.2.2.1) (fun x y (z:Unit)=>((),())) (fun x y (z:Bool)=>((z,()),())) (fun x y s _ kA kO kR=>Au F x.1 x.2.1 s kA kO kR) (fun _ _ _ _ _ _ _=>by simp only [Au,oA,oC,oS,oN,aU,aT,ah]) (by kernel_rfl) (by kernel_rfl) (fun _ _ _=>by kernel_rfl)
def IR (F:Nat) (p0:List Za) {β:Type} (k:Bool->Option β):Option β:=
 ((iter (fun s=>Hs F p0 (p0.length:Int) s) F (0:Int)).bind fun ca=>bz (fun ca=>(k true)) (fun ca=>(k ca)) ca)
def yj (F:Nat) (p0:List Za):=IR F p0 some
def Gv (F:Nat):BN:=
 aq (E:=E77 F) st Tryz.func77 ai 0 [aju F] [(.ro .s)] [] [.bo] [] (fun x y (z:Bool)=>((z,()),())) (fun x y _ k=>IR F x.1 k) (fun _ _ _ _=>by simp only [IR,oA,oC,oS,oN,ah]) (by kernel_rfl) (fun _ _=>by kernel_rfl)
def E78 (F:Nat):Ev:=ev 20 [] (fun _=>[])
def Gk (F:Nat) (p0:List UInt8) (p1:Int) (p2:Int) {β:Type} (k:Bool->Option β):Option β:=
 (bif ((p0.length:Int) == (32:Int)) then (bif (decide ((0:Int)≤p1)) then (k (decide (p1 < p2))) else (k false)) else (k false))
def xq (F:Nat) (p0:List UInt8) (p1:Int) (p2:Int):=Gk F p0 p1 p2 some
def F6 (F:Nat):BN:=
 aq (E:=E78 F) st Tryz.func78 ai 0 [] [(.pr .str (.pr .i .un)),.i] [] [.bo] [] (fun x y (z:Bool)=>((z,()),())) (fun x y _ k=>Gk F x.1.1 x.1.2.1 x.2.1 k) (fun _ _ _ _=>by simp only [Gk,oA,oC,oS,oN,ah]) (by kernel_rfl) (fun _ _=>by kernel_rfl)
def E33 (F:Nat):Ev:=ev 44 [Gv F,F6 F] (fun _=>[])
def Jg (F:Nat) (p0:Zw×Int×Zd×Unit) {β:Type} (k:Bool->Option β):Option β:=
 (bif (decide ((1:Int)≤(p0.2.2.1.length:Int))) then (bif (decide ((p0.2.2.1.length:Int)≤(16:Int))) then ((yj F p0.2.2.1).bind fun z3=>(bif z3 then ((xq F p0.1.1 p0.1.2.1 (p0.2.2.1.length:Int)).bind fun z4=>(bif z4 then (bif (decide ((1:Int)≤p0.2.1)) then (k (decide (p0.2.1≤(65536:Int)))) else (k false)) else (k false))) else (k false))) else (k false)) else (k false))
def Je (F:Nat) (p0:Zw×Int×Zd×Unit):=Jg F p0 some
def VP (F:Nat):BN:=
 aq (E:=E33 F) st Tryz.func33 ai 0 [] [(.re (.pr (.pr .s (.pr .i .un)) (.pr .i (.pr (.sl .s) .un))))] [] [.bo] [] (fun x y (z:Bool)=>((z,()),())) (fun x y _ k=>Jg F x.1 k) (fun _ _ _ _=>by simp only [Jg,oA,oC,oS,oN,ah]) (by kernel_rfl) (fun _ _=>by kernel_rfl)
def aqI:Nat->List (Tag×Nat)
 | 1=>[(.p,0),(.p,1),(.p,2),(.c,3),(.p,4),(.p,5),(.p,6),(.c,7),(.p,8),(.p,9),(.p,10),(.r,11),(.w,12),(.p,13),(.b,14)]
 | _=>[]
def ap4 (F:Nat):Ev:=ev 17 [we F] aqI
def KM (F:Nat) (p0:Zw×Int×Zd×Unit) {β:Type} (k:(Za×Int×Int×Zd)->Option β):Option β:=
 ((qA F p0.2.2.1).bind fun z2=>(k (p0.1.1,p0.1.2.1,p0.2.1,z2)))
def Wf (F:Nat) (p0:Zw×Int×Zd×Unit):=KM F p0 some
def aqh (F:Nat):BN:=
 aq (E:=ap4 F) st Tryz.func36 ai 0 [] [(.re (.pr (.pr .s (.pr .i .un)) (.pr .i (.pr (.sl .s) .un))))] [] [(.pr (.pr .str (.pr .i .un)) (.pr .i (.pr (.rw 0) .un)))] [.row 9 .s] (fun x y (z:Za×Int×Int×Zd)=>((((z.1,z.2.1,()),z.2.2.1,(),()),()),(z.2.2.2,()))) (fun x y _ k=>KM F x.1 k) (fun _ _ _ _=>by simp only [KM,oA,oC,oS,oN,ah]) (by kernel_rfl) (fun _ _=>by kernel_rfl)
def acY:Nat->List (Tag×Nat)
 | 3=>[(.p,0),(.r,1),(.p,3),(.p,4),(.c,5),(.w,2),(.p,6)]
 | 6=>[]
 | _=>[]
def ms7:Nat->Option (List (Option Tag×Nat×List Nat))
 | 6=>some [(some .p,1,[]),(some .p,3,[]),(some .w,0,[2,4,6]),(none,2,[4,6]),(none,4,[6]),(some .p,5,[]),(none,6,[]),(some .w,7,[])]
 | _=>none
def E7 (F:Nat):Ev:=R8 nM 27 [VP F,Bt F,WQ F,aqh F] acY (fun _=>none) ms7
def JG (F:Nat) (p0:List UInt8) (p1:Int) (p2:Int) (p3:List Za) {β:Type} (k:(Int×Za×Int×Int×Zd×Zd×Zs)->Option β):Option β:=
 ((Je F ((p0,p1,()),p2,p3,())).bind fun bg=>(bif (!bg) then none else ((tP F p3).bind fun dG=>(bif (dG != p0) then none else ((LX F p2).bind fun ca=>((cw ([]:List UInt8) ca ca).bind fun i4=>((cw ([]:List Za) ca ca).bind fun fw=>((Wf F ((p0,p1,()),p2,p3,())).bind fun eR=>((cw ([]:List Za) ca ca).bind fun gV=>((cw ([]:List UInt8) ca ca).bind fun j4=>((cw ([]:List Za) ca ca).bind fun m8=>(k ((0:Int),eR.1,eR.2.1,eR.2.2.1,eR.2.2.2,j4,m8)))))))))))))
def T7 (F:Nat) (p0:List UInt8) (p1:Int) (p2:Int) (p3:List Za):=JG F p0 p1 p2 p3 some
def HM (F:Nat):BN:=
 aq (E:=E7 F) stS Tryz.func7 ai 0 [] [(.pr (.pr .str (.pr .i .un)) (.pr .i (.pr (.ro .s) .un)))] [] [(.pt 0 []),.i] [.blk 91 Qd,.row 9 .s,.row 26 Qu,.row 27 (.sl .s)] (fun x y (z:Int×Za×Int×Int×Zd×Zd×Zs)=>(((),z.1,()),(((((z.2.1,z.2.2.1,()),z.2.2.2.1,(),()),(),(),()),()),z.2.2.2.2.1,z.2.2.2.2.2.1,z.2.2.2.2.2.2,()))) (fun x y _ k=>JG F x.1.1.1 x.1.1.2.1 x.1.2.1 x.1.2.2.1 k) (fun _ _ _ _=>by simp only [JG,oA,oC,oS,oN,ah]) (by kernel_rfl) (fun _ _=>by kernel_rfl)
def E10 (F:Nat):Ev:=ev 3 [] (fun _=>[])
def Tz (F:Nat) {β:Type} (k:Int->Option β):Option β:=
 (k (0:Int))
def ZR (F:Nat):=Tz F some
def OP (F:Nat):BN:=
 aq (E:=E10 F) st Tryz.func10 ai 0 [] [] [] [(.pt 0 [])] [.blk 100 (.pr .ns (.pr .i (.pr (.fn 37 .un .un) .un)))] (fun x y (z:Int)=>(((),()),(((),z,((),()),()),()))) (fun x y _ k=>Tz F k) (fun _ _ _ _=>by simp only [Tz,oA,oC,oS,oN,ah]) (by kernel_rfl) (fun _ _=>by kernel_rfl)
def ZH (F:Nat):Ev:=ev 26 [] (fun _=>[])
def xd (F:Nat) (dQ:List Za) (dP:Int) (cP:Int) (dK:List Int) {β:Type} (kA:(Int×(List Int))->Option β) (kO:((List Int))->Option β):Option β:=
 (bif (decide (cP < dP)) then ((ix dQ cP).bind fun AK=>(bif fA AK then ((aD dK ([(ag (cP * (512:Int)))]:List Int)).bind fun gF=>(kA ((ag (cP + (1:Int))),gF))) else (kA ((ag (cP + (1:Int))),dK)))) else (kO dK))
def DB (F:Nat) (dQ:List Za) (dP:Int) (cP:Int) (dK:List Int):=xd F dQ dP cP dK (fun s=>some (Sum.inl s)) (fun z=>some (Sum.inr z))
def ahq (F:Nat):LB (ZH F) 0 Tryz.f11:=
 bH st ai [] [1,0,1,1] 0 [3,10,11,12] [(.rw 0),(.ro Qu),.i,.i] [.row 3 .i] [3] [(.rw 0)] [.row 3 .i] F (fun x y (s:Int×(List Int))=>((),x.2.1,x.2.2.1,s.1,())) (fun x y s=>(s.2,())) (fun x y=>(x.2.2.2.1,y.1)) (fun x y (z:(List Int))=>(((),()),(z,()))) (fun x y s _ kA kO=>xd F x.2.1 x.2.2.1 s.1 s.2 kA kO) (fun _ _ _ _ _ _=>by simp only [xd,oA,oC,oS,oN,aU,aT,ah]) (by kernel_rfl) (by kernel_rfl) (fun _ _ _=>by kernel_rfl)
def J0 (F:Nat) (p0:Zi×Unit) {β:Type} (k:((List Int))->Option β):Option β:=
 ((iter (fun s=>DB F p0.1.2.1 (p0.1.2.1.length:Int) s.1 s.2) F ((0:Int),([]:List Int))).bind fun gr=>(k gr))
def Fv (F:Nat) (p0:Zi×Unit):=J0 F p0 some
def Is (F:Nat):BN:=
 aq (E:=ZH F) st Tryz.func11 ai 0 [ahq F] [(.re (.pr (.pr (.pr (.pr .s (.pr .i .un)) (.pr .i (.pr (.sl .s) .un))) (.pr (.sl Qu) (.pr (.sl (.sl .s)) .un))) .un))] [] [(.rw 0)] [.row 3 .i] (fun x y (z:(List Int))=>(((),()),(z,()))) (fun x y _ k=>J0 F x.1 k) (fun _ _ _ _=>by simp only [J0,oA,oC,oS,oN,ah]) (by kernel_rfl) (fun _ _=>by kernel_rfl)
def E38 (F:Nat):Ev:=ev 20 [] (fun _=>[])
def JA (F:Nat) (p0:Int) (p1:Int) {β:Type} (k:Zj->Option β):Option β:=
 (bif (decide (p0 < (0:Int))) then (k ((0:Int),false)) else (bif (decide (p1≤p0)) then (k ((0:Int),false)) else (bif ((Int.tmod p0 (512:Int)) != (0:Int)) then (k ((0:Int),false)) else (k ((ag (Int.tdiv p0 (512:Int))),true)))))
def G6 (F:Nat) (p0:Int) (p1:Int):=JA F p0 p1 some
def V6 (F:Nat):BN:=
 aq (E:=E38 F) st Tryz.func38 ai 0 [] [.i,.i] [] [.i,.bo] [] (fun x y (z:Int×Bool)=>((z.1,z.2,()),())) (fun x y _ k=>JA F x.1 x.2.1 k) (fun _ _ _ _=>by simp only [JA,oA,oC,oS,oN,ah]) (by kernel_rfl) (fun _ _=>by kernel_rfl)
def arG (F:Nat):Ev:=ev 13 [Bt F] (fun _=>[])
def E0 (F:Nat) (p0:Int) (p1:Int) (p2:List Za) {β:Type} (k:(Za)->Option β):Option β:=
 ((bk p2 p0 (ag (p0 + p1))).bind fun x3=>((tP F x3).bind fun z4=>(k z4)))
def I1 (F:Nat) (p0:Int) (p1:Int) (p2:List Za):=E0 F p0 p1 p2 some
def M4 (F:Nat):BN:=
 aq (E:=arG F) st Tryz.func133 ai 0 [] [.i,.i,(.re (.sl .s))] [] [.str] [] (fun x y (z:Za)=>((z,()),())) (fun x y _ k=>E0 F x.1 x.2.1 x.2.2.1 k) (fun _ _ _ _=>by simp only [E0,oA,oC,oS,oN,ah]) (by kernel_rfl) (fun _ _=>by kernel_rfl)
def B6 (F:Nat) (rc:(Int->Int->Int->Zd->Option (Zd))) (p0:Int) (p1:Int) (p2:Int) (p3:List Za) {β:Type} (k:(Zd)->Option β):Option β:=
 (bif (p2 == (1:Int)) then (k ([]:List Za)) else ((xW F p2).bind fun z8=>(bif (decide (p1 < z8)) then ((rc p0 p1 z8 p3).bind fun z9=>((I1 F (ag (p0 + z8)) (ag (p2 - z8)) p3).bind fun bg=>((aD z9 ([bg]:List Za)).bind fun jc=>(k jc)))) else ((rc (ag (p0 + z8)) (ag (p1 - z8)) (ag (p2 - z8)) p3).bind fun ca=>((I1 F p0 z8 p3).bind fun gz=>((aD ca ([gz]:List Za)).bind fun fw=>(k fw)))))))
def Ae (F:Nat) (rc:(Int->Int->Int->Zd->Option (Zd))) (p0:Int) (p1:Int) (p2:Int) (p3:List Za):=B6 F rc p0 p1 p2 p3 some
def sJ (F:Nat):Nat->Int->Int->Int->Zd->Option (Zd)
 | 0=>fun _ _ _ _=>none
 | g + 1=>Ae F (sJ F g)
abbrev BC:List Sh:=[(.fn 133 .un (.pr (.pt 0 []) .un)),.i,.i,.i]
abbrev JC:List Sh:=[(.rw 1)]
abbrev Cs:List aK:=[.blk 27 (.ro .s)]
abbrev IZ:List aK:=[.blk 27 (.ro .s),.row 9 .s]
def Dv (F g:Nat):Ct:=cu 1 BC Cs JC IZ (fun x y=>sJ F g x.2.1 x.2.2.1 x.2.2.2.1 y.1) (fun x y (z:Zd)=>(((),()),(y.1,z,())))
def I2 (F g:Nat):Ev:=⟨cfg,49,dM [(80,(ql F).ct),(134,Dv F g),(133,(M4 F).ct)],fun _=>[],dM [],fun _=>none,fun _=>none,fun _=>none⟩
theorem adf (F g:Nat) (h:Sound Tryz.prog cfg 134 (Dv F g)):bS Tryz.prog (I2 F g):=kD (l:=[(80,(ql F).ct),(134,Dv F g),(133,(M4 F).ct)]) (l':=[]) rfl rfl ⟨⟨(ql F).ok,_,Tryz.func80,rfl,rfl⟩,⟨⟨h,_,Tryz.func134,rfl,rfl⟩,⟨⟨(M4 F).ok,_,Tryz.func133,rfl,rfl⟩,trivial⟩⟩⟩ trivial
def aiO (F g:Nat):Ct:=cu 1 BC Cs JC IZ (fun x y=>Ae F (sJ F g) x.2.1 x.2.2.1 x.2.2.2.1 y.1) (fun x y (z:Zd)=>(((),()),(y.1,z,())))
theorem aoN (F g:Nat) (x:au BC) (y:ax Cs):cj (I2 F g) 1 [] (cC Tryz.f134) [] (dN (b_ 4) BC Cs x y) (tX (I2 F g) 1 Tryz.f134.results.toList JC IZ fun p q=>some (p,q)) =
  B6 F (sJ F g) x.2.1 x.2.2.1 x.2.2.2.1 y.1 (fun z=>some (((),()),(y.1,z,()))):=by kernel_rfl
theorem as3 (F g:Nat) (h:Sound Tryz.prog cfg 134 (Dv F g)):Sound Tryz.prog cfg 134 (aiO F g):=
 ov (E:=I2 F g) (lp:=[]) (code:=cC Tryz.f134) Tryz.func134 rfl Tryz.ntmps134 rfl rfl iY (adf F g h) mixed trivial (by kernel_rfl) (fun x y k=>B6 F (sJ F g) x.2.1 x.2.2.1 x.2.2.2.1 y.1 k) (fun _ _ _=>by simp only [Ae,B6,oA,oC,oS,oN,ah]) (aoN F g)
def Ts (F:Nat) (p0:Int) (p1:Int) (p2:Int) (p3:List Za):Option (Zd):=sJ F F p0 p1 p2 p3
def aaH (F:Nat):Ct:=cu 1 BC Cs JC IZ (fun x y=>Ts F x.2.1 x.2.2.1 x.2.2.2.1 y.1) (fun x y (z:Zd)=>(((),()),(y.1,z,())))
theorem Xm (F:Nat):∀ g,Sound Tryz.prog cfg 134 (Dv F g)
 | 0=>fun x y p q h=>absurd (show (none:Option _)=some (p,q) from h) (by simp)
 | g + 1=>as3 F g (Xm F g)
theorem ahj (F:Nat):Sound Tryz.prog cfg 134 (aaH F):=Xm F F
def ag2 (F:Nat):BN:=⟨134,aaH F,ahj F,_,Tryz.func134,rfl,rfl⟩
def E86 (F:Nat):Ev:=ev 21 [ag2 F] (fun _=>[])
def KR (F:Nat) (p0:List Za) (p1:Int) {β:Type} (k:(Int×Zd)->Option β):Option β:=
 (bif (decide (p1 < (0:Int))) then (k ((1:Int),([]:List Za))) else (bif (decide ((p0.length:Int)≤p1)) then (k ((1:Int),([]:List Za))) else ((Ts F (0:Int) p1 (p0.length:Int) p0).bind fun z2=>(k ((0:Int),z2)))))
def Ox (F:Nat) (p0:List Za) (p1:Int):=KR F p0 p1 some
def aob (F:Nat):BN:=
 aq (E:=E86 F) st Tryz.func86 ai 0 [] [(.ro .s),.i] [] [(.rw 0),.i] [.row 9 .s] (fun x y (z:Int×Zd)=>(((),z.1,()),(z.2,()))) (fun x y _ k=>KR F x.1 x.2.1 k) (fun _ _ _ _=>by simp only [KR,oA,oC,oS,oN,ah]) (by kernel_rfl) (fun _ _=>by kernel_rfl)
def E87 (F:Nat):Ev:=ev 14 [] (fun _=>[])
def EJ (F:Nat) (p0:Int) (p1:Int) (p2:Int) {β:Type} (k:Int->Option β):Option β:=
 (k (if (ag (p0 - (ag (p2 * p1)))) < p1 then (ag (p0 - (ag (p2 * p1)))) else p1))
def Hg (F:Nat) (p0:Int) (p1:Int) (p2:Int):=EJ F p0 p1 p2 some
def VM (F:Nat):BN:=
 aq (E:=E87 F) st Tryz.func87 ai 0 [] [.i,.i,.i] [] [.i] [] (fun x y (z:Int)=>((z,()),())) (fun x y _ k=>EJ F x.1 x.2.1 x.2.2.1 k) (fun _ _ _ _=>by simp only [EJ,oA,oC,oS,oN,ah]) (by kernel_rfl) (fun _ _=>by kernel_rfl)
def E39 (F:Nat):Ev:=ev 47 [ZO F,aob F,VM F] (fun _=>[])
def En (F:Nat) (p0:List UInt8) (p1:Int) (p2:Int) {β:Type} (k:(Int×Za×Zd)->Option β):Option β:=
 ((wo F p0 p1).bind fun z6=>(bif (z6.1 != (0:Int)) then (k (z6.1,([]:List UInt8),([]:List Za))) else ((Ox F z6.2 p2).bind fun z7=>(bif (z7.1 != (0:Int)) then (k (z7.1,([]:List UInt8),([]:List Za))) else ((Hg F (p0.length:Int) p1 p2).bind fun z8=>((bk p0 (ag (p2 * p1)) (ag ((ag (p2 * p1)) + z8))).bind fun x9=>((aD ([]:List UInt8) x9).bind fun jy=>(k ((0:Int),jy,z7.2)))))))))
def Yu (F:Nat) (p0:List UInt8) (p1:Int) (p2:Int):=En F p0 p1 p2 some
def ajs (F:Nat):BN:=
 aq (E:=E39 F) st Tryz.func39 ai 0 [] [(.ro .u8),.i,.i] [] [(.rw 0),(.rw 1),.i] [.row 5 .u8,.row 9 .s] (fun x y (z:Int×Za×Zd)=>(((),(),z.1,()),(z.2.1,z.2.2,()))) (fun x y _ k=>En F x.1 x.2.1 x.2.2.1 k) (fun _ _ _ _=>by simp only [En,oA,oC,oS,oN,ah]) (by kernel_rfl) (fun _ _=>by kernel_rfl)
def E12 (F:Nat):Ev:=ev 47 [V6 F,ajs F] (fun _=>[])
def GV (F:Nat) (p0:Int) (p1:List UInt8) (p2:Int) (p5:List UInt8) {β:Type} (k:(Za×Int×Int×Za×Zd×Int)->Option β):Option β:=
 ((G6 F p0 (p5.length:Int)).bind fun z3=>(bif (!z3.2) then (k (([]:List UInt8),(0:Int),(0:Int),([]:List UInt8),([]:List Za),(1:Int))) else ((Yu F p5 (512:Int) z3.1).bind fun z4=>(bif (z4.1 != (0:Int)) then (k (([]:List UInt8),(0:Int),(0:Int),([]:List UInt8),([]:List Za),z4.1)) else (k (p1,p2,p0,z4.2.1,z4.2.2,(0:Int)))))))
def Oy (F:Nat) (p0:Int) (p1:List UInt8) (p2:Int) (p5:List UInt8):=GV F p0 p1 p2 p5 some
def Tt (F:Nat):BN:=
 aq (E:=E12 F) st Tryz.func12 ai 3 [] [(.pt 0 []),.i] [.blk 84 Qf,.row 9 .s,.row 5 .u8] [(.pr (.pr .str (.pr .i .un)) (.pr .i (.pr (.ro .u8) (.pr (.ro .s) .un)))),.i] [.blk 84 Qf,.row 9 .s,.row 5 .u8] (fun x y (z:Za×Int×Int×Za×Zd×Int)=>((((z.1,z.2.1,()),z.2.2.1,z.2.2.2.1,z.2.2.2.2.1,()),z.2.2.2.2.2,()),((((y.1.1.1.1,y.1.1.1.2.1,()),y.1.1.2.1,(),()),(),()),y.2.1,y.2.2.1,()))) (fun x y _ k=>GV F x.2.1 y.1.1.1.1 y.1.1.1.2.1 y.2.2.1 k) (fun _ _ _ _=>by simp only [GV,oA,oC,oS,oN,ah]) (by kernel_rfl) (fun _ _=>by kernel_rfl)
def E40 (F:Nat):Ev:=ev 61 [F6 F,Gv F] (fun _=>[])
def H_ (F:Nat) (p0:Zw×Int×Za×Zd×Unit) {β:Type} (k:Bool->Option β):Option β:=
 ((xq F p0.1.1 p0.1.2.1 (16:Int)).bind fun z3=>(bif z3 then (bif (decide ((0:Int)≤p0.2.1)) then (bif (decide (p0.2.1≤(65024:Int))) then (bif ((Int.tmod p0.2.1 (512:Int)) == (0:Int)) then (bif (decide ((1:Int)≤(p0.2.2.1.length:Int))) then (bif (decide ((p0.2.2.1.length:Int)≤(512:Int))) then (bif (decide ((p0.2.2.2.1.length:Int)≤(16:Int))) then ((yj F p0.2.2.2.1).bind fun z4=>(k z4)) else (k false)) else (k false)) else (k false)) else (k false)) else (k false)) else (k false)) else (k false)))
def RB (F:Nat) (p0:Zw×Int×Za×Zd×Unit):=H_ F p0 some
def ao1 (F:Nat):BN:=
 aq (E:=E40 F) st Tryz.func40 ai 0 [] [(.re (.pr (.pr .s (.pr .i .un)) (.pr .i (.pr (.sl .u8) (.pr (.sl .s) .un)))))] [] [.bo] [] (fun x y (z:Bool)=>((z,()),())) (fun x y _ k=>H_ F x.1 k) (fun _ _ _ _=>by simp only [H_,oA,oC,oS,oN,ah]) (by kernel_rfl) (fun _ _=>by kernel_rfl)
def E41 (F:Nat):Ev:=ev 3 [] (fun _=>[])
def v7 (F:Nat) {β:Type} (k:Int->Option β):Option β:=
 (k (0:Int))
def xR (F:Nat):=v7 F some
def Nb (F:Nat):BN:=
 aq (E:=E41 F) st Tryz.func41 ai 0 [] [] [] [(.pt 0 [])] [.blk 168 (.pr .ns (.pr .i .un))] (fun x y (z:Int)=>(((),()),(((),z,()),()))) (fun x y _ k=>v7 F k) (fun _ _ _ _=>by simp only [v7,oA,oC,oS,oN,ah]) (by kernel_rfl) (fun _ _=>by kernel_rfl)
def E88 (F:Nat):Ev:=ev 24 [] (fun _=>[])
def Hq (F:Nat) (p0:List UInt8) (p1:Int) {β:Type} (k:Zm->Option β):Option β:=
 (bif (p1 != (0:Int)) then (k (p1,([]:List UInt8))) else (bif ((p0.length:Int) != (32:Int)) then (k ((1:Int),([]:List UInt8))) else ((aD ([]:List UInt8) p0).bind fun x2=>(k (p1,x2)))))
def Jf (F:Nat) (p0:List UInt8) (p1:Int):=Hq F p0 p1 some
def Vp (F:Nat):BN:=
 aq (E:=E88 F) st Tryz.func88 ai 1 [] [(.pt 0 []),.str] [.blk 168 (.pr .ns (.pr .i .un))] [] [.blk 168 Ql,.row 5 .u8] (fun x y (z:Int×Za)=>((),(((),z.1,()),z.2,()))) (fun x y _ k=>Hq F x.2.1 y.1.2.1 k) (fun _ _ _ _=>by simp only [Hq,oA,oC,oS,oN,ah]) (by kernel_rfl) (fun _ _=>by kernel_rfl)
def E89 (F:Nat):Ev:=ev 18 [Gl F] (fun _=>[])
def J7 (F:Nat) (p0:UInt64) (p1:Int) (p2:List UInt8) {β:Type} (k:(Za)->Option β):Option β:=
 (bif (p1 == (0:Int)) then ((t5 F p0 p2).bind fun z2=>(k z2)) else (k p2))
def u7 (F:Nat) (p0:UInt64) (p1:Int) (p2:List UInt8):=J7 F p0 p1 p2 some
def NZ (F:Nat):BN:=
 aq (E:=E89 F) st Tryz.func89 ai 1 [] [(.pt 0 []),.u64] [.blk 168 Ql,.row 5 .u8] [] [.blk 168 Ql,.row 5 .u8] (fun x y (z:Za)=>((),(((),y.1.2.1,()),z,()))) (fun x y _ k=>J7 F x.2.1 y.1.2.1 y.2.1 k) (fun _ _ _ _=>by simp only [J7,oA,oC,oS,oN,ah]) (by kernel_rfl) (fun _ _=>by kernel_rfl)
def E62 (F:Nat):Ev:=ev 22 [Gl F] (fun _=>[])
def GM (F:Nat) (p0:List UInt8) (p1:Int) (p2:List UInt8) {β:Type} (k:(Za)->Option β):Option β:=
 (bif (p1 == (0:Int)) then ((t5 F (UInt64.ofInt (p0.length:Int)) p2).bind fun z3=>((aD z3 p0).bind fun x4=>(k x4))) else (k p2))
def KP (F:Nat) (p0:List UInt8) (p1:Int) (p2:List UInt8):=GM F p0 p1 p2 some
def aci (F:Nat):BN:=
 aq (E:=E62 F) st Tryz.func62 ai 1 [] [(.pt 0 []),(.ro .u8)] [.blk 168 Ql,.row 5 .u8] [] [.blk 168 Ql,.row 5 .u8] (fun x y (z:Za)=>((),(((),y.1.2.1,()),z,()))) (fun x y _ k=>GM F x.2.1 y.1.2.1 y.2.1 k) (fun _ _ _ _=>by simp only [GM,oA,oC,oS,oN,ah]) (by kernel_rfl) (fun _ _=>by kernel_rfl)
def E63 (F:Nat):Ev:=ev 18 [NZ F] (fun _=>[])
def Jr (F:Nat) (p0:Int) (p1:Int) (p2:List UInt8) {β:Type} (k:Zm->Option β):Option β:=
 (bif (p1 != (0:Int)) then (k (p1,p2)) else (bif (decide (p0 < (0:Int))) then (k ((1:Int),p2)) else ((u7 F (UInt64.ofInt p0) p1 p2).bind fun z2=>(k (p1,z2)))))
def Ju (F:Nat) (p0:Int) (p1:Int) (p2:List UInt8):=Jr F p0 p1 p2 some
def ZZ (F:Nat):BN:=
 aq (E:=E63 F) st Tryz.func63 ai 1 [] [(.pt 0 []),.i] [.blk 168 Ql,.row 5 .u8] [] [.blk 168 Ql,.row 5 .u8] (fun x y (z:Int×Za)=>((),(((),z.1,()),z.2,()))) (fun x y _ k=>Jr F x.2.1 y.1.2.1 y.2.1 k) (fun _ _ _ _=>by simp only [Jr,oA,oC,oS,oN,ah]) (by kernel_rfl) (fun _ _=>by kernel_rfl)
def ap_ (F:Nat):Ev:=ev 24 [] (fun _=>[])
def EC (F:Nat) (p0:List UInt8) (p1:Int) (p2:List UInt8) {β:Type} (k:Zm->Option β):Option β:=
 (bif (p1 != (0:Int)) then (k (p1,p2)) else (bif ((p0.length:Int) != (32:Int)) then (k ((1:Int),p2)) else ((aD p2 p0).bind fun x2=>(k (p1,x2)))))
def RE (F:Nat) (p0:List UInt8) (p1:Int) (p2:List UInt8):=EC F p0 p1 p2 some
def ajz (F:Nat):BN:=
 aq (E:=ap_ F) st Tryz.func88 ai 1 [] [(.pt 0 []),.str] [.blk 168 Ql,.row 5 .u8] [] [.blk 168 Ql,.row 5 .u8] (fun x y (z:Int×Za)=>((),(((),z.1,()),z.2,()))) (fun x y _ k=>EC F x.2.1 y.1.2.1 y.2.1 k) (fun _ _ _ _=>by simp only [EC,oA,oC,oS,oN,ah]) (by kernel_rfl) (fun _ _=>by kernel_rfl)
def E90 (F:Nat):Ev:=ev 20 [ZZ F,ajz F] (fun _=>[])
def zH (F:Nat) (ea:List Za) (dx:Int) (bZ:Int) (dy:Int) (ek:List UInt8) {β:Type} (kA:(Int×Int×Za)->Option β) (kO:Zm->Option β):Option β:=
 (bif (decide (bZ < dx)) then ((ix ea bZ).bind fun Dq=>((RE F Dq dy ek).bind fun xG=>(kA ((ag (bZ + (1:Int))),xG.1,xG.2)))) else (kO (dy,ek)))
def Er (F:Nat) (ea:List Za) (dx:Int) (bZ:Int) (dy:Int) (ek:List UInt8):=zH F ea dx bZ dy ek (fun s=>some (Sum.inl s)) (fun z=>some (Sum.inr z))
def afS (F:Nat):LB (E90 F) 2 Tryz.f90:=
 bH st ai [] [1,1] 0 [0,10,11,12] [(.pt 0 []),(.ro .s),.i,.i] [.blk 168 (.pr (.rw 2) (.pr .i .un)),.no,.row 5 .u8] [] [] [.blk 168 (.pr (.rw 2) (.pr .i .un)),.no,.row 5 .u8] F (fun x y (s:Int×Int×Za)=>((),x.2.1,x.2.2.1,s.1,())) (fun x y s=>(((),s.2.1,()),(),s.2.2,())) (fun x y=>(x.2.2.2.1,y.1.2.1,y.2.2.1)) (fun x y (z:Int×Za)=>((),(((),z.1,()),(),z.2,()))) (fun x y s _ kA kO=>zH F x.2.1 x.2.2.1 s.1 s.2.1 s.2.2 kA kO) (fun _ _ _ _ _ _=>by simp only [zH,oA,oC,oS,oN,aU,aT,ah]) (by kernel_rfl) (by kernel_rfl) (fun _ _ _=>by kernel_rfl)
def Fi (F:Nat) (p0:List Za) (p1:Int) (p2:List UInt8) {β:Type} (k:Zm->Option β):Option β:=
 ((Ju F (p0.length:Int) p1 p2).bind fun ca=>((iter (fun s=>Er F p0 (p0.length:Int) s.1 s.2.1 s.2.2) F ((0:Int),ca.1,ca.2)).bind fun sL=>(k (sL.1,sL.2))))
def FL (F:Nat) (p0:List Za) (p1:Int) (p2:List UInt8):=Fi F p0 p1 p2 some
def Uu (F:Nat):BN:=
 aq (E:=E90 F) st Tryz.func90 ai 2 [afS F] [(.pt 0 []),(.ro .s)] [.blk 168 Ql,.row 5 .u8] [] [.blk 168 (.pr (.rw 2) (.pr .i .un)),.no,.row 5 .u8] (fun x y (z:Int×Za)=>((),(((),z.1,()),(),z.2,()))) (fun x y _ k=>Fi F x.2.1 y.1.2.1 y.2.1 k) (fun _ _ _ _=>by simp only [Fi,oA,oC,oS,oN,ah]) (by kernel_rfl) (fun _ _=>by kernel_rfl)
def E42 (F:Nat):Ev:=ev 38 [Vp F,NZ F,aci F,Uu F] (fun _=>[])
def K_ (F:Nat) (p0:Zw×Int×Za×Zd×Unit) (p1:Int) {β:Type} (k:Zm->Option β):Option β:=
 ((Jf F p0.1.1 p1).bind fun z6=>((u7 F (UInt64.ofInt p0.1.2.1) z6.1 z6.2).bind fun z7=>((u7 F (UInt64.ofInt p0.2.1) z6.1 z7).bind fun z8=>((KP F p0.2.2.1 z6.1 z8).bind fun z9=>((FL F p0.2.2.2.1 z6.1 z9).bind fun bg=>(k (bg.1,bg.2)))))))
def T42 (F:Nat) (p0:Zw×Int×Za×Zd×Unit) (p1:Int):=K_ F p0 p1 some
def ars (F:Nat):BN:=
 aq (E:=E42 F) st Tryz.func42 ai 1 [] [(.re (.pr (.pr .s (.pr .i .un)) (.pr .i (.pr (.sl .u8) (.pr (.sl .s) .un))))),(.pt 0 [])] [.blk 168 (.pr .ns (.pr .i .un))] [] [.blk 168 Ql,.row 5 .u8] (fun x y (z:Int×Za)=>((),(((),z.1,()),z.2,()))) (fun x y _ k=>K_ F x.1 y.1.2.1 k) (fun _ _ _ _=>by simp only [K_,oA,oC,oS,oN,ah]) (by kernel_rfl) (fun _ _=>by kernel_rfl)
def adV:Nat->List (Tag×Nat)
 | 2=>[(.p,0),(.p,1),(.p,2),(.r,3),(.p,4),(.p,5)]
 | _=>[]
def E43 (F:Nat):Ev:=ev 25 [] adV
def Fu (F:Nat) (p0:Int) (p1:List UInt8) {β:Type} (k:Zm->Option β):Option β:=
 (bif (p0 != (0:Int)) then (k (p0,([]:List UInt8))) else (bif (decide ((1048576:Int) < (p1.length:Int))) then (k ((2:Int),([]:List UInt8))) else ((aD ([]:List UInt8) p1).bind fun x2=>(k ((0:Int),x2)))))
def z_ (F:Nat) (p0:Int) (p1:List UInt8):=Fu F p0 p1 some
def Tp (F:Nat):BN:=
 aq (E:=E43 F) st Tryz.func43 ai 2 [] [(.pt 0 [])] [.blk 168 Ql,.row 5 .u8] [(.rw 2),.i] [.blk 168 Ql,.row 5 .u8,.row 5 .u8] (fun x y (z:Int×Za)=>(((),z.1,()),(((),y.1.2.1,()),y.2.1,z.2,()))) (fun x y _ k=>Fu F y.1.2.1 y.2.1 k) (fun _ _ _ _=>by simp only [Fu,oA,oC,oS,oN,ah]) (by kernel_rfl) (fun _ _=>by kernel_rfl)
def E13 (F:Nat):Ev:=ev 14 [ao1 F,Nb F,ars F,Tp F] (fun _=>[])
def IG (F:Nat) (p0:List UInt8) (p1:Int) (p2:Int) (p3:List UInt8) (p4:List Za) {β:Type} (k:Zm->Option β):Option β:=
 ((RB F ((p0,p1,()),p2,p3,p4,())).bind fun z5=>(bif (!z5) then (k ((1:Int),([]:List UInt8))) else ((xR F).bind fun z6=>((T42 F ((p0,p1,()),p2,p3,p4,()) z6).bind fun z7=>((z_ F z7.1 z7.2).bind fun z8=>(k (z8.1,z8.2)))))))
def HT (F:Nat) (p0:List UInt8) (p1:Int) (p2:Int) (p3:List UInt8) (p4:List Za):=IG F p0 p1 p2 p3 p4 some
def FY (F:Nat):BN:=
 aq (E:=E13 F) st Tryz.func13 ai 0 [] [(.pr (.pr .str (.pr .i .un)) (.pr .i (.pr (.ro .u8) (.pr (.ro .s) .un))))] [] [(.rw 0),.i] [.row 5 .u8] (fun x y (z:Int×Za)=>(((),z.1,()),(z.2,()))) (fun x y _ k=>IG F x.1.1.1 x.1.1.2.1 x.1.2.1 x.1.2.2.1 x.1.2.2.2.1 k) (fun _ _ _ _=>by simp only [IG,oA,oC,oS,oN,ah]) (by kernel_rfl) (fun _ _=>by kernel_rfl)
def E91 (F:Nat):Ev:=ev 9 [] (fun _=>[])
def N4 (F:Nat) (p0:Int) {β:Type} (k:Bool->Option β):Option β:=
 (bif (decide ((0:Int)≤p0)) then (k (decide (p0≤(255:Int)))) else (k false))
def T91 (F:Nat) (p0:Int):=N4 F p0 some
def aeR (F:Nat):BN:=
 aq (E:=E91 F) st Tryz.func91 ai 0 [] [.i] [] [.bo] [] (fun x y (z:Bool)=>((z,()),())) (fun x y _ k=>N4 F x.1 k) (fun _ _ _ _=>by simp only [N4,oA,oC,oS,oN,ah]) (by kernel_rfl) (fun _ _=>by kernel_rfl)
def E84 (F:Nat):Ev:=ev 6 [zU F] (fun _=>[])
def Gt (F:Nat) (p0:List UInt8) {β:Type} (k:(Za)->Option β):Option β:=
 ((Jz F p0).bind fun z3=>((bk z3 (0:Int) (8:Int)).bind fun x4=>(k x4)))
def Hx (F:Nat) (p0:List UInt8):=Gt F p0 some
def U5 (F:Nat):BN:=
 aq (E:=E84 F) st Tryz.func84 ai 0 [] [(.ro .u8)] [] [.str] [] (fun x y (z:Za)=>((z,()),())) (fun x y _ k=>Gt F x.1 k) (fun _ _ _ _=>by simp only [Gt,oA,oC,oS,oN,ah]) (by kernel_rfl) (fun _ _=>by kernel_rfl)
def E44 (F:Nat):Ev:=ev 29 [aeR F,OE F,U5 F] (fun _=>[])
def Gd (F:Nat) (p0:Int) (p1:List UInt8) {β:Type} (k:Zm->Option β):Option β:=
 ((T91 F p0).bind fun z6=>(bif (!z6) then (k ((1:Int),([]:List UInt8))) else (bif (decide ((65536:Int) < (p1.length:Int))) then (k ((2:Int),([]:List UInt8))) else ((tY F ([(UInt8.ofInt p0)]:List UInt8) (UInt64.ofInt (p1.length:Int))).bind fun z7=>((aD z7 p1).bind fun x8=>((Hx F x8).bind fun z9=>((aD x8 z9).bind fun jy=>(k ((0:Int),jy)))))))))
def Lo (F:Nat) (p0:Int) (p1:List UInt8):=Gd F p0 p1 some
def Uc (F:Nat):BN:=
 aq (E:=E44 F) st Tryz.func44 ai 0 [] [(.pr .i (.pr (.ro .u8) .un))] [] [(.rw 0),.i] [.row 5 .u8] (fun x y (z:Int×Za)=>(((),z.1,()),(z.2,()))) (fun x y _ k=>Gd F x.1.1 x.1.2.1 k) (fun _ _ _ _=>by simp only [Gd,oA,oC,oS,oN,ah]) (by kernel_rfl) (fun _ _=>by kernel_rfl)
def E56 (F:Nat):Ev:=ev 9 [] (fun _=>[])
def Sc (F:Nat) (p0:Int) {β:Type} (k:Bool->Option β):Option β:=
 (bif (p0 == (0:Int)) then (k true) else (k (p0 == (1:Int))))
def vQ (F:Nat) (p0:Int):=Sc F p0 some
def Le (F:Nat):BN:=
 aq (E:=E56 F) st Tryz.func56 ai 0 [] [.i] [] [.bo] [] (fun x y (z:Bool)=>((z,()),())) (fun x y _ k=>Sc F x.1 k) (fun _ _ _ _=>by simp only [Sc,oA,oC,oS,oN,ah]) (by kernel_rfl) (fun _ _=>by kernel_rfl)
def ao5:Nat->List (Tag×Nat)
 | 8=>[(.p,0),(.p,1),(.p,2),(.r,3),(.p,4),(.p,5),(.p,6),(.p,7),(.p,8),(.p,9),(.c,10),(.p,11),(.w,12),(.p,13),(.p,14),(.p,15)]
 | 9=>[(.p,0),(.p,1),(.p,2),(.c,3),(.p,4),(.w,5),(.p,6),(.p,7)]
 | 11=>[(.p,0),(.p,1),(.p,2),(.p,3),(.p,4),(.p,5),(.p,6),(.p,7),(.p,8),(.p,9),(.p,10),(.p,11),(.p,12)]
 | 12=>[(.p,0),(.p,1),(.p,2),(.p,3),(.r,4),(.p,5),(.p,6),(.p,7),(.w,8),(.p,9),(.p,10),(.w,11)]
 | 13=>[(.p,0),(.p,1),(.p,2),(.p,3),(.r,4),(.p,5),(.p,6),(.p,7),(.w,8),(.p,9),(.p,10),(.w,11)]
 | _=>[]
def Uy (F:Nat):Ev:=ev 90 [Le F,yt F,PK F] ao5
def Sj (F:Nat) (gS:Int) (iU:Bool) (fR:Int) (qz:Int) (lG:Bool) {β:Type} (kO:Zj->Option β):Option β:=
 (bif iU then ((tc F ((#v[(([]:List UInt8),([]:List UInt8),()),(([]:List UInt8),([]:List UInt8),())]:Vector Zl 2),fR,qz,lG,())).bind fun tQ=>(kO ((ag (qz - tQ)),true))) else (kO (gS,lG)))
def ZN (F:Nat) (gS:Int) (iU:Bool) (fR:Int) (qz:Int) (lG:Bool):Option Zj:=Sj F gS iU fR qz lG (fun z=>some z)
def agy (F:Nat):LB (Uy F) 1 Tryz.f45:=
 SI st ai [] [1,0,1,1,1,1,1] [0,1,2,8,40] [(.pt 0 []),.i,(.ro .u8),.i,.bo] [.blk 96 Qj] [0,1,2,8] [(.pt 0 []),.i,(.ro .u8),.i] [.blk 96 Qj] (fun x y (z:Int×Bool)=>(((),x.2.1,x.2.2.1,z.1,()),(((((),(),()),((),(),()),()),y.1.2.1,y.1.2.2.1,z.2,()),()))) (fun x y _ kO=>Sj F x.2.2.2.1 x.2.2.2.2.1 y.1.2.1 y.1.2.2.1 y.1.2.2.2.1 kO) (fun _ _ _ _=>by simp only [Sj,oA,oC,oS,oN,aU,aT,ah]) (by kernel_rfl) (fun _ _=>by kernel_rfl)
def OW (F:Nat) (p0:Int) (p1:List UInt8) (p2:Int) (p3:Int) (p4:Bool) {β:Type} (k:(Int×Int×Bool×Za×Za×Za×Za)->Option β):Option β:=
 ((vQ F p0).bind fun z47=>(bif (!z47) then (k ((0:Int),(1:Int),p4,([]:List UInt8),([]:List UInt8),([]:List UInt8),([]:List UInt8))) else (bif p4 then (k ((0:Int),(15:Int),p4,([]:List UInt8),([]:List UInt8),([]:List UInt8),([]:List UInt8))) else ((sX F ((#v[(([]:List UInt8),([]:List UInt8),()),(([]:List UInt8),([]:List UInt8),())]:Vector Zl 2),p2,p3,p4,())).bind fun MU=>(bif (decide (MU < (p1.length:Int))) then (k ((0:Int),(7:Int),p4,([]:List UInt8),([]:List UInt8),([]:List UInt8),([]:List UInt8))) else (bif (decide ((0:Int)≤p3)) then ((tc F ((#v[(([]:List UInt8),([]:List UInt8),()),(([]:List UInt8),([]:List UInt8),())]:Vector Zl 2),p2,p3,p4,())).bind fun D6=>((ZN F (p1.length:Int) (decide ((ag (p3 - D6)) < (p1.length:Int))) p2 p3 p4).bind fun ed=>(bif (p0 == (1:Int)) then (bif ((ag ((1:Int) - p0)) == (1:Int)) then ((bk p1 (0:Int) ed.1).bind fun NA=>((aD ([]:List UInt8) NA).bind fun vG=>((bk p1 (0:Int) ed.1).bind fun Ob=>((aD ([]:List UInt8) Ob).bind fun sV=>(bif ed.2 then (k (ed.1,(15:Int),ed.2,([]:List UInt8),([]:List UInt8),vG,sV)) else (k (ed.1,(0:Int),ed.2,([]:List UInt8),([]:List UInt8),vG,sV))))))) else (bif ((ag ((1:Int) - p0)) == (0:Int)) then ((bk p1 (0:Int) ed.1).bind fun C0=>((aD ([]:List UInt8) C0).bind fun A3=>((bk p1 (0:Int) ed.1).bind fun Cw=>((aD ([]:List UInt8) Cw).bind fun DQ=>(bif ed.2 then (k (ed.1,(15:Int),ed.2,([]:List UInt8),DQ,A3,([]:List UInt8))) else (k (ed.1,(0:Int),ed.2,([]:List UInt8),DQ,A3,([]:List UInt8)))))))) else none)) else (bif (p0 == (0:Int)) then (bif ((ag ((1:Int) - p0)) == (1:Int)) then ((bk p1 (0:Int) ed.1).bind fun Aa=>((aD ([]:List UInt8) Aa).bind fun Bo=>((bk p1 (0:Int) ed.1).bind fun YQ=>((aD ([]:List UInt8) YQ).bind fun Hy=>(bif ed.2 then (k (ed.1,(15:Int),ed.2,Bo,([]:List UInt8),([]:List UInt8),Hy)) else (k (ed.1,(0:Int),ed.2,Bo,([]:List UInt8),([]:List UInt8),Hy))))))) else (bif ((ag ((1:Int) - p0)) == (0:Int)) then ((bk p1 (0:Int) ed.1).bind fun Mh=>((aD ([]:List UInt8) Mh).bind fun IF=>((bk p1 (0:Int) ed.1).bind fun NV=>((aD ([]:List UInt8) NV).bind fun BD=>(bif ed.2 then (k (ed.1,(15:Int),ed.2,IF,BD,([]:List UInt8),([]:List UInt8))) else (k (ed.1,(0:Int),ed.2,IF,BD,([]:List UInt8),([]:List UInt8)))))))) else none)) else none)))) else ((ZN F (p1.length:Int) false p2 p3 p4).bind fun cT=>(bif (p0 == (1:Int)) then (bif ((ag ((1:Int) - p0)) == (1:Int)) then ((bk p1 (0:Int) cT.1).bind fun CL=>((aD ([]:List UInt8) CL).bind fun zN=>((bk p1 (0:Int) cT.1).bind fun MX=>((aD ([]:List UInt8) MX).bind fun Av=>(bif cT.2 then (k (cT.1,(15:Int),cT.2,([]:List UInt8),([]:List UInt8),zN,Av)) else (k (cT.1,(0:Int),cT.2,([]:List UInt8),([]:List UInt8),zN,Av))))))) else (bif ((ag ((1:Int) - p0)) == (0:Int)) then ((bk p1 (0:Int) cT.1).bind fun SO=>((aD ([]:List UInt8) SO).bind fun ux=>((bk p1 (0:Int) cT.1).bind fun P6=>((aD ([]:List UInt8) P6).bind fun A8=>(bif cT.2 then (k (cT.1,(15:Int),cT.2,([]:List UInt8),A8,ux,([]:List UInt8))) else (k (cT.1,(0:Int),cT.2,([]:List UInt8),A8,ux,([]:List UInt8)))))))) else none)) else (bif (p0 == (0:Int)) then (bif ((ag ((1:Int) - p0)) == (1:Int)) then ((bk p1 (0:Int) cT.1).bind fun LZ=>((aD ([]:List UInt8) LZ).bind fun He=>((bk p1 (0:Int) cT.1).bind fun HH=>((aD ([]:List UInt8) HH).bind fun Vz=>(bif cT.2 then (k (cT.1,(15:Int),cT.2,He,([]:List UInt8),([]:List UInt8),Vz)) else (k (cT.1,(0:Int),cT.2,He,([]:List UInt8),([]:List UInt8),Vz))))))) else (bif ((ag ((1:Int) - p0)) == (0:Int)) then ((bk p1 (0:Int) cT.1).bind fun LA=>((aD ([]:List UInt8) LA).bind fun q_=>((bk p1 (0:Int) cT.1).bind fun wh=>((aD ([]:List UInt8) wh).bind fun Ka=>(bif cT.2 then (k (cT.1,(15:Int),cT.2,q_,Ka,([]:List UInt8),([]:List UInt8))) else (k (cT.1,(0:Int),cT.2,q_,Ka,([]:List UInt8),([]:List UInt8)))))))) else none)) else none)))))))))
def T45 (F:Nat) (p0:Int) (p1:List UInt8) (p2:Int) (p3:Int) (p4:Bool):=OW F p0 p1 p2 p3 p4 some
def am8 (F:Nat):BN:=
 aq (E:=Uy F) st Tryz.func45 ai 1 [agy F] [(.pt 0 []),.i,(.ro .u8)] [.blk 96 Qj] [.i,.i] [.blk 96 Qg,.row 5 .u8,.row 5 .u8,.row 5 .u8,.row 5 .u8] (fun x y (z:Int×Int×Bool×Za×Za×Za×Za)=>((z.1,z.2.1,()),(((((),(),()),((),(),()),()),y.1.2.1,y.1.2.2.1,z.2.2.1,()),z.2.2.2.1,z.2.2.2.2.1,z.2.2.2.2.2.1,z.2.2.2.2.2.2,()))) (fun x y _ k=>OW F x.2.1 x.2.2.1 y.1.2.1 y.1.2.2.1 y.1.2.2.2.1 k) (fun _ _ _ _=>by simp only [OW,oA,oC,oS,oN,ah]) (by kernel_rfl) (fun _ _=>by kernel_rfl)
def E46 (F:Nat):Ev:=ev 32 [Le F] (fun _=>[])
def G4 (F:Nat) (p0:Int) (p5:List UInt8) (p7:List UInt8) {β:Type} (k:(Int×Za×Za×Za)->Option β):Option β:=
 ((vQ F p0).bind fun z4=>(bif (!z4) then (k ((1:Int),([]:List UInt8),p5,p7)) else (bif (p0 == (1:Int)) then ((cw (0:UInt8) (p7.length:Int) (p7.length:Int)).bind fun x6=>(k ((0:Int),(bC x6 0 p7 (Nat.min p7.length (x6.length))),p5,([]:List UInt8)))) else (bif (p0 == (0:Int)) then ((cw (0:UInt8) (p5.length:Int) (p5.length:Int)).bind fun x5=>(k ((0:Int),(bC x5 0 p5 (Nat.min p5.length (x5.length))),([]:List UInt8),p7))) else none))))
def Kq (F:Nat) (p0:Int) (p5:List UInt8) (p7:List UInt8):=G4 F p0 p5 p7 some
def Yl (F:Nat):BN:=
 aq (E:=E46 F) st Tryz.func46 ai 1 [] [(.pt 0 []),.i] [.blk 96 Qg,.row 5 .u8,.row 5 .u8,.row 5 .u8,.row 5 .u8] [(.rw 1),.i] [.blk 96 Qk,.row 5 .u8,.row 5 .u8,.row 5 .u8,.row 5 .u8,.row 5 .u8] (fun x y (z:Int×Za×Za×Za)=>(((),z.1,()),(((((),(),()),((),(),()),()),y.1.2.1,y.1.2.2.1,y.1.2.2.2.1,()),z.2.1,y.2.1,z.2.2.1,y.2.2.2.1,z.2.2.2,()))) (fun x y _ k=>G4 F x.2.1 y.2.2.1 y.2.2.2.2.1 k) (fun _ _ _ _=>by simp only [G4,oA,oC,oS,oN,ah]) (by kernel_rfl) (fun _ _=>by kernel_rfl)
def E47 (F:Nat):Ev:=ev 27 [] (fun _=>[])
def M0 (F:Nat) (p0:List UInt8) (p1:Int) {β:Type} (k:Zm->Option β):Option β:=
 (bif (decide ((0:Int) < p1)) then (k ((ag (p1 + (p0.length:Int))),([]:List UInt8))) else ((aD ([]:List UInt8) p0).bind fun x2=>(k (p1,x2))))
def T47 (F:Nat) (p0:List UInt8) (p1:Int):=M0 F p0 p1 some
def aoQ (F:Nat):BN:=
 aq (E:=E47 F) st Tryz.func47 ai 1 [] [(.pt 0 []),(.ro .u8)] [.blk 100 (.pr .ns (.pr .i (.pr (.fn 37 .un .un) .un)))] [] [.blk 100 Qs,.row 5 .u8] (fun x y (z:Int×Za)=>((),(((),z.1,((),()),()),z.2,()))) (fun x y _ k=>M0 F x.2.1 y.1.2.1 k) (fun _ _ _ _=>by simp only [M0,oA,oC,oS,oN,ah]) (by kernel_rfl) (fun _ _=>by kernel_rfl)
def Xg (F:Nat):Ev:=ev 45 [] (fun _=>[])
def r_ (F:Nat) (y9:List UInt8) (bP:Int) (bw:Int) {β:Type} (kA:Zv->Option β) (kO:Unit->Option β) (kR:(Int×Int×Bool×Bool)->Option β):Option β:=
 (bif (decide (bw < (3:Int))) then (bif (decide ((y9.length:Int)≤(ag ((1:Int) + bw)))) then (kR ((0:Int),(0:Int),false,true)) else ((ix y9 (ag ((1:Int) + bw))).bind fun fw=>((cX (ag ((7:Int) * bw))).bind fun ko=>(bif (decide ((fw.toNat:Int) < (128:Int))) then (bif (decide ((pF bP (ag ((qh (fw.toNat:Int) (127:Int)) * 2 ^ min ko 64)))≤(65536:Int))) then (bif (decide ((0:Int) < (fw.toNat:Int))) then (kR ((ag ((2:Int) + bw)),(pF bP (ag ((qh (fw.toNat:Int) (127:Int)) * 2 ^ min ko 64))),true,true)) else (kR ((ag ((2:Int) + bw)),(pF bP (ag ((qh (fw.toNat:Int) (127:Int)) * 2 ^ min ko 64))),true,(bw == (0:Int))))) else (kR ((ag ((2:Int) + bw)),(pF bP (ag ((qh (fw.toNat:Int) (127:Int)) * 2 ^ min ko 64))),true,false))) else (kA ((pF bP (ag ((qh (fw.toNat:Int) (127:Int)) * 2 ^ min ko 64))),(ag (bw + (1:Int))))))))) else (kO ()))
def nU (F:Nat) (y9:List UInt8) (bP:Int) (bw:Int):Option (Zv ⊕ ((Unit) ⊕ (Int×Int×Bool×Bool))):=r_ F y9 bP bw (fun s=>some (.inl s)) (fun z=>some (.inr (.inl z))) (fun z=>some (.inr (.inr z)))
def ahx (F:Nat):LB (Xg F) 0 Tryz.f82:=
 gH st ai [] [1,0,1] 0 [0,3,8] [(.ro .u8),.i,.i] [] [] [] [] [2,3,4,5] [.i,.i,.bo,.bo] [] F (fun x y (s:Int×Int)=>(x.1,s.1,s.2,())) (fun x y s=>()) (fun x y=>(x.2.1,x.2.2.1)) (fun x y (z:Unit)=>((),())) (fun x y (z:Int×Int×Bool×Bool)=>((z.1,z.2.1,z.2.2.1,z.2.2.2,()),())) (fun x y s _ kA kO kR=>r_ F x.1 s.1 s.2 kA kO kR) (fun _ _ _ _ _ _ _=>by simp only [r_,oA,oC,oS,oN,aU,aT,ah]) (by kernel_rfl) (by kernel_rfl) (fun _ _ _=>by kernel_rfl)
def IM (F:Nat) (p0:List UInt8) {β:Type} (k:(Int×Int×Bool×Bool)->Option β):Option β:=
 ((iter (fun s=>nU F p0 s.1 s.2) F ((0:Int),(0:Int))).bind fun cq=>bz (fun cq=>(k ((0:Int),(0:Int),false,false))) (fun cq=>(k (cq.1,cq.2.1,cq.2.2.1,cq.2.2.2))) cq)
def GU (F:Nat) (p0:List UInt8):=IM F p0 some
def ac2 (F:Nat):BN:=
 aq (E:=Xg F) st Tryz.func82 ai 0 [ahx F] [(.ro .u8)] [] [.i,.i,.bo,.bo] [] (fun x y (z:Int×Int×Bool×Bool)=>((z.1,z.2.1,z.2.2.1,z.2.2.2,()),())) (fun x y _ k=>IM F x.1 k) (fun _ _ _ _=>by simp only [IM,oA,oC,oS,oN,ah]) (by kernel_rfl) (fun _ _=>by kernel_rfl)
def aqt:Nat->List (Tag×Nat)
 | 7=>[(.p,0),(.p,1),(.p,2),(.r,3),(.p,4),(.p,5),(.p,7),(.p,8),(.p,9),(.c,10),(.p,11),(.p,12),(.p,13),(.p,14),(.c,15),(.w,6),(.p,16)]
 | _=>[]
def E37 (F:Nat):Ev:=ev 104 [ac2 F,U5 F] aqt
def v9 (F:Nat) (p1:List UInt8) {β:Type} (k:(Int×Za×Bool×Int×Za)->Option β):Option β:=
 ((GU F p1).bind fun bg=>(bif (!bg.2.2.2) then none else (bif (!bg.2.2.1) then (k ((0:Int),([]:List UInt8),false,(0:Int),p1)) else (bif (decide ((p1.length:Int) < (ag ((ag (bg.1 + bg.2.1)) + (8:Int))))) then (k ((0:Int),([]:List UInt8),false,(0:Int),p1)) else ((bW p1.length (0:Int) (ag (bg.1 + bg.2.1))).bind fun jc=>((bW p1.length (ag (bg.1 + bg.2.1)) (ag ((ag (bg.1 + bg.2.1)) + (8:Int)))).bind fun mq=>((Hx F ((p1.drop jc.1).take (jc.2 - jc.1))).bind fun gz=>(bif (gz != ((p1.drop mq.1).take (mq.2 - mq.1))) then none else ((an p1.length (0:Int)).bind fun fw=>((p1[fw]?).bind fun ko=>((bW p1.length bg.1 (ag (bg.1 + bg.2.1))).bind fun gV=>((aD ([]:List UInt8) ((p1.drop gV.1).take (gV.2 - gV.1))).bind fun j4=>((bW p1.length (ag ((ag (bg.1 + bg.2.1)) + (8:Int))) (p1.length:Int)).bind fun m8=>(bif (((m8.2 - m8.1:Nat):Int) == (0:Int)) then (k ((ko.toNat:Int),j4,true,(0:Int),([]:List UInt8))) else none))))))))))))))
def F4 (F:Nat) (p1:List UInt8):=v9 F p1 some
def afy (F:Nat):BN:=
 aq (E:=E37 F) st Tryz.func37 ai 1 [] [(.pt 0 [])] [.blk 100 Qs,.row 5 .u8] [(.pr .i (.pr (.ro .u8) .un)),.bo,.i] [.blk 100 Qs,.row 5 .u8] (fun x y (z:Int×Za×Bool×Int×Za)=>(((z.1,z.2.1,()),z.2.2.1,z.2.2.2.1,()),(((),y.1.2.1,((),()),()),z.2.2.2.2,()))) (fun x y _ k=>v9 F y.2.1 k) (fun _ _ _ _=>by simp only [v9,oA,oC,oS,oN,ah]) (by kernel_rfl) (fun _ _=>by kernel_rfl)
def E48 (F:Nat):Ev:=ev 22 [afy F] (fun _=>[])
def xL (F:Nat) (p1:List UInt8) {β:Type} (k:(Int×Za×Bool×Int×Za)->Option β):Option β:=
 ((F4 F p1).bind fun z2=>(k (z2.1,z2.2.1,z2.2.2.1,z2.2.2.2.1,z2.2.2.2.2)))
def uO (F:Nat) (p1:List UInt8):=xL F p1 some
def abb (F:Nat):BN:=
 aq (E:=E48 F) st Tryz.func48 ai 1 [] [(.pt 0 [])] [.blk 100 Qs,.row 5 .u8] [(.pr .i (.pr (.ro .u8) .un)),.bo,.i] [.blk 100 Qs,.row 5 .u8] (fun x y (z:Int×Za×Bool×Int×Za)=>(((z.1,z.2.1,()),z.2.2.1,z.2.2.2.1,()),(((),y.1.2.1,((),()),()),z.2.2.2.2,()))) (fun x y _ k=>xL F y.2.1 k) (fun _ _ _ _=>by simp only [xL,oA,oC,oS,oN,ah]) (by kernel_rfl) (fun _ _=>by kernel_rfl)
def E14 (F:Nat):Ev:=ev 59 [Uc F,am8 F,Yl F,aoQ F,abb F] (fun _=>[])
def YS (F:Nat) (p0:Int) (p1:List UInt8) (p2:Int) (p3:Int) (p4:Bool) (p5:Int) {β:Type} (k:(Int×Za×Bool×Bool×Bool×Int×Za×Za×Za×Za×Za)->Option β):Option β:=
 ((Lo F p0 p1).bind fun z6=>(bif (z6.1 != (0:Int)) then (k ((0:Int),([]:List UInt8),false,false,p4,p5,([]:List UInt8),([]:List UInt8),([]:List UInt8),([]:List UInt8),([]:List UInt8))) else ((T45 F (0:Int) z6.2 p2 p3 p4).bind fun z7=>((Kq F (1:Int) z7.2.2.2.2.1 z7.2.2.2.2.2.2).bind fun z8=>(bif (z8.1 != (0:Int)) then (k ((0:Int),([]:List UInt8),false,false,z7.2.2.1,p5,z7.2.2.2.1,z8.2.2.1,z7.2.2.2.2.2.1,z8.2.2.2,([]:List UInt8))) else ((T47 F z8.2.1 p5).bind fun z9=>((uO F z9.2).bind fun bg=>(bif (bg.2.2.2.1 == (0:Int)) then (k (bg.1,bg.2.1,bg.2.2.1,(bg.2.2.1 == (z7.2.1 == (0:Int))),z7.2.2.1,z9.1,z7.2.2.2.1,z8.2.2.1,z7.2.2.2.2.2.1,z8.2.2.2,bg.2.2.2.2)) else (k (bg.1,bg.2.1,bg.2.2.1,false,z7.2.2.1,z9.1,z7.2.2.2.1,z8.2.2.1,z7.2.2.2.2.2.1,z8.2.2.2,bg.2.2.2.2))))))))))
def Tk (F:Nat):BN:=
 aq (E:=E14 F) st Tryz.func14 ai 2 [] [(.pt 0 []),(.pt 1 []),(.pr .i (.pr (.ro .u8) .un))] [.blk 96 Qj,.blk 100 (.pr .ns (.pr .i (.pr (.fn 37 .un .un) .un)))] [(.pr .i (.pr (.ro .u8) .un)),.bo,.bo] [.blk 96 Qk,.blk 100 (.pr (.rw 6) (.pr .i (.pr (.fn 37 .un .un) .un))),.row 5 .u8,.row 5 .u8,.row 5 .u8,.row 5 .u8,.row 5 .u8] (fun x y (z:Int×Za×Bool×Bool×Bool×Int×Za×Za×Za×Za×Za)=>(((z.1,z.2.1,()),z.2.2.1,z.2.2.2.1,()),(((((),(),()),((),(),()),()),y.1.2.1,y.1.2.2.1,z.2.2.2.2.1,()),((),z.2.2.2.2.2.1,((),()),()),z.2.2.2.2.2.2.1,z.2.2.2.2.2.2.2.1,z.2.2.2.2.2.2.2.2.1,z.2.2.2.2.2.2.2.2.2.1,z.2.2.2.2.2.2.2.2.2.2,()))) (fun x y _ k=>YS F x.2.2.1.1 x.2.2.1.2.1 y.1.2.1 y.1.2.2.1 y.1.2.2.2.1 y.2.1.2.1 k) (fun _ _ _ _=>by simp only [YS,oA,oC,oS,oN,ah]) (by kernel_rfl) (fun _ _=>by kernel_rfl)
def E49 (F:Nat):Ev:=ev 8 [] (fun _=>[])
def Fo (F:Nat) (p0:List UInt8) {β:Type} (k:(Int×Int×Int×Za)->Option β):Option β:=
 ((aD ([]:List UInt8) p0).bind fun x2=>(k ((0:Int),(0:Int),(0:Int),x2)))
def A4 (F:Nat) (p0:List UInt8):=Fo F p0 some
def QU (F:Nat):BN:=
 aq (E:=E49 F) st Tryz.func49 ai 0 [] [(.ro .u8)] [] [(.pt 0 [])] [.blk 176 Qc,.row 5 .u8] (fun x y (z:Int×Int×Int×Za)=>(((),()),(((),z.1,z.2.1,z.2.2.1,()),z.2.2.2,()))) (fun x y _ k=>Fo F x.1 k) (fun _ _ _ _=>by simp only [Fo,oA,oC,oS,oN,ah]) (by kernel_rfl) (fun _ _=>by kernel_rfl)
def ahR:Nat->List (Tag×Nat)
 | 1=>[(.p,0),(.p,1),(.p,2),(.p,3),(.r,4),(.p,5),(.p,6),(.p,7),(.p,8),(.r,9),(.p,10),(.p,11)]
 | 3=>[(.p,0),(.p,1),(.p,2),(.r,3),(.p,4),(.p,5),(.p,6),(.r,7),(.p,8),(.p,9),(.p,10),(.r,11),(.p,12),(.p,13),(.p,14),(.p,15)]
 | _=>[]
def E95 (F:Nat):Ev:=ev 43 [] ahR
def Du (F:Nat) (p0:Int) (p1:Int) (p4:List UInt8) {β:Type} (k:((Nat×Nat)×Int×Int)->Option β):Option β:=
 (bif (decide ((ag ((p4.length:Int) - p1)) < p0)) then (k ((0,0),(3:Int),p1)) else ((bW p4.length p1 (ag (p1 + p0))).bind fun x2=>(k ((x2.1,x2.2),(0:Int),(ag (p1 + p0))))))
def JV (F:Nat) (p0:Int) (p1:Int) (p4:List UInt8):=Du F p0 p1 p4 some
def Wd (F:Nat):BN:=
 aq (E:=E95 F) st Tryz.func95 ai 2 [] [(.pt 0 []),.i] [.blk 176 Qc,.row 5 .u8] [(.rp 1),.i] [.blk 176 Qc,.row 5 .u8] (fun x y (z:(Nat×Nat)×Int×Int)=>((z.1,z.2.1,()),(((),z.2.2,y.1.2.2.1,y.1.2.2.2.1,()),y.2.1,()))) (fun x y _ k=>Du F x.2.1 y.1.2.1 y.2.1 k) (fun _ _ _ _=>by simp only [Du,oA,oC,oS,oN,ah]) (by kernel_rfl) (fun _ _=>by kernel_rfl)
def E94 (F:Nat):Ev:=ev 13 [Wd F] (fun _=>[])
def Fq (F:Nat) (p0:Int) (p3:List UInt8) {β:Type} (k:(Za×Int×Int)->Option β):Option β:=
 ((JV F (32:Int) p0 p3).bind fun z2=>(k (((p3.drop z2.1.1).take (z2.1.2 - z2.1.1)),z2.2.1,z2.2.2)))
def UU (F:Nat) (p0:Int) (p3:List UInt8):=Fq F p0 p3 some
def Q4 (F:Nat):BN:=
 aq (E:=E94 F) st Tryz.func94 ai 3 [] [(.pt 0 [])] [.blk 114 (.pt 1 []),.blk 176 Qr,.row 5 .u8] [.str,.i] [.blk 114 (.pt 1 []),.blk 176 Qr,.row 5 .u8] (fun x y (z:Za×Int×Int)=>((z.1,z.2.1,()),((),((),z.2.2,y.2.1.2.2.1,y.2.1.2.2.2.1,()),y.2.2.1,()))) (fun x y _ k=>Fq F y.2.1.2.1 y.2.2.1 k) (fun _ _ _ _=>by simp only [Fq,oA,oC,oS,oN,ah]) (by kernel_rfl) (fun _ _=>by kernel_rfl)
def aat (F:Nat):Ev:=⟨cfg,18,dM [],fun _=>[],dM [],fun _=>none,fun _=>none,fun _=>none⟩
theorem aj0 (F:Nat):bS Tryz.prog (aat F):=kD (l:=[]) (l':=[]) rfl rfl trivial trivial
def LH (F:Nat) (p0:Int) (p1:List UInt8) (p2:Int) (p4:Int) {β:Type} (k:(Za×Int)->Option β):Option β:=
 (bif (p4 != (0:Int)) then (k (([]:List UInt8),p0)) else (k (p1,p2)))
def EU (F:Nat) (p0:Int) (p1:List UInt8) (p2:Int) (p4:Int):=LH F p0 p1 p2 p4 some
def QG (F:Nat):Ct:=cu 4 [(.re .i),(.pt 0 []),(.pt 1 [])] [.blk 114 (.pt 2 []),.blk 9 .str,.blk 176 Qi,.row 5 .u8] [] [.blk 114 (.pt 2 []),.blk 9 .str,.blk 176 Qi,.row 5 .u8] (fun x y=>EU F x.1 y.2.1 y.2.2.1.2.1 y.2.2.1.2.2.2.1) (fun x y (z:Za×Int)=>((),((),z.1,((),z.2,x.1,y.2.2.1.2.2.2.1,()),y.2.2.2.1,())))
theorem akB (F:Nat):lN Tryz.prog cfg true 135 (QG F):=
 zB (E:=aat F) true (fun _ _=>rfl) (lp:=[]) (code:=cC Tryz.f135) Tryz.func135 rfl Tryz.ntmps135 rfl rfl iY (aj0 F) mixed trivial (by kernel_rfl) (fun x y k=>LH F x.1 y.2.1 y.2.2.1.2.1 y.2.2.1.2.2.2.1 k) (fun _ _ _=>by simp only [EU,LH,oA,oC,oS,oN,ah]) (fun _ _=>by kernel_rfl)
def arQ:Nat->List (Tag×Nat)
 | 5=>[(.c,0),(.p,1),(.w,2),(.p,3),(.p,4),(.p,5),(.w,6),(.p,7),(.p,8),(.b,9)]
 | _=>[]
def Z9 (F:Nat):Ev:=⟨cfg,26,dM [(94,(Q4 F).ct)],arQ,dM [(135,QG F)],fun _=>none,fun _=>none,fun _=>none⟩
theorem ah_ (F:Nat):bS Tryz.prog (Z9 F):=kD (l:=[(94,(Q4 F).ct)]) (l':=[(135,QG F)]) rfl rfl ⟨⟨(Q4 F).ok,_,Tryz.func94,rfl,rfl⟩,trivial⟩ ⟨⟨akB F,_,Tryz.func135,rfl,rfl⟩,trivial⟩
def Kj (F:Nat) (p0:Int) (p1:Int) (p2:Int) (p3:List UInt8) {β:Type} (k:(Za×Int×Int×Int)->Option β):Option β:=
 (bif (p2 != (0:Int)) then (k (([]:List UInt8),p0,p1,p2)) else ((UU F p0 p3).bind fun z3=>((EU F p0 z3.1 z3.2.2 z3.2.1).bind fun z4=>(k (z4.1,z4.2,p0,z3.2.1)))))
def GH (F:Nat) (p0:Int) (p1:Int) (p2:Int) (p3:List UInt8):=Kj F p0 p1 p2 p3 some
def ZY (F:Nat):Ct:=cu 3 [(.pt 0 []),(.fn 94 .un (.pr (.pt 1 []) .un))] [.blk 176 Qr,.blk 114 (.pt 0 []),.row 5 .u8] [.str] [.blk 176 Qr,.blk 114 (.pt 0 []),.row 5 .u8] (fun x y=>GH F y.1.2.1 y.1.2.2.1 y.1.2.2.2.1 y.2.2.1) (fun x y (z:Za×Int×Int×Int)=>((z.1,()),(((),z.2.1,z.2.2.1,z.2.2.2,()),(),y.2.2.1,())))
theorem acs (F:Nat):Sound Tryz.prog cfg 93 (ZY F):=
 ov (E:=Z9 F) (lp:=[]) (code:=cC Tryz.f93) Tryz.func93 rfl Tryz.ntmps93 rfl rfl iY (ah_ F) mixed trivial (by kernel_rfl) (fun x y k=>Kj F y.1.2.1 y.1.2.2.1 y.1.2.2.2.1 y.2.2.1 k) (fun _ _ _=>by simp only [GH,Kj,oA,oC,oS,oN,ah]) (fun _ _=>by kernel_rfl)
def amM (F:Nat):BN:=⟨93,ZY F,acs F,_,Tryz.func93,rfl,rfl⟩
def E50 (F:Nat):Ev:=ev 6 [amM F] (fun _=>[])
def Fa (F:Nat) (p0:Int) (p1:Int) (p2:Int) (p3:List UInt8) {β:Type} (k:(Za×Int×Int×Int)->Option β):Option β:=
 ((GH F p0 p1 p2 p3).bind fun z2=>(k (z2.1,z2.2.1,z2.2.2.1,z2.2.2.2)))
def Bw (F:Nat) (p0:Int) (p1:Int) (p2:Int) (p3:List UInt8):=Fa F p0 p1 p2 p3 some
def Tq (F:Nat):BN:=
 aq (E:=E50 F) st Tryz.func50 ai 2 [] [(.pt 0 [])] [.blk 176 Qc,.row 5 .u8] [.str] [.blk 176 Qc,.row 5 .u8] (fun x y (z:Za×Int×Int×Int)=>((z.1,()),(((),z.2.1,z.2.2.1,z.2.2.2,()),y.2.1,()))) (fun x y _ k=>Fa F y.1.2.1 y.1.2.2.1 y.1.2.2.2.1 y.2.1 k) (fun _ _ _ _=>by simp only [Fa,oA,oC,oS,oN,ah]) (by kernel_rfl) (fun _ _=>by kernel_rfl)
def aok:Nat->List (Tag×Nat)
 | 4=>[(.p,0),(.p,1),(.p,2),(.r,3),(.p,4),(.p,5),(.p,6),(.r,7),(.p,8),(.p,9)]
 | 6=>[(.p,0),(.p,1),(.p,2),(.r,3),(.p,4),(.p,5),(.p,6),(.r,7),(.p,8),(.r,9),(.p,10)]
 | _=>[]
def aaj (F:Nat):Ev:=ev 62 [] aok
def qU (F:Nat) (bN:List UInt8) (dx:UInt64) (bZ:Int) (dy:Int) {β:Type} (kA:(UInt64×Int×Int)->Option β) (kO:Int->Option β) (kR:(UInt64×Int×Int)->Option β):Option β:=
 (bif (decide (bZ < (10:Int))) then (bif (dy == (bN.length:Int)) then (kR ((UInt64.ofNat 0),(3:Int),dy)) else ((an bN.length dy).bind fun ve=>((bN[ve]?).bind fun jx=>((cX (ag ((7:Int) * bZ))).bind fun iL=>(bif (decide ((UInt8.ofNat 128)≤jx)) then (kA ((dx ||| (iA ((jx &&& (UInt8.ofNat 127)).toUInt64) iL)),(ag (bZ + (1:Int))),(ag (dy + (1:Int))))) else (bif (decide ((0:Int) < bZ)) then (bif (jx == (UInt8.ofNat 0)) then (kR ((UInt64.ofNat 0),(3:Int),(ag (dy + (1:Int))))) else (bif (bZ == (9:Int)) then (bif (decide ((UInt8.ofNat 1) < jx)) then (kR ((UInt64.ofNat 0),(3:Int),(ag (dy + (1:Int))))) else (kR ((dx ||| (iA ((jx &&& (UInt8.ofNat 127)).toUInt64) iL)),(0:Int),(ag (dy + (1:Int)))))) else (kR ((dx ||| (iA ((jx &&& (UInt8.ofNat 127)).toUInt64) iL)),(0:Int),(ag (dy + (1:Int))))))) else (bif (bZ == (9:Int)) then (bif (decide ((UInt8.ofNat 1) < jx)) then (kR ((UInt64.ofNat 0),(3:Int),(ag (dy + (1:Int))))) else (kR ((dx ||| (iA ((jx &&& (UInt8.ofNat 127)).toUInt64) iL)),(0:Int),(ag (dy + (1:Int)))))) else (kR ((dx ||| (iA ((jx &&& (UInt8.ofNat 127)).toUInt64) iL)),(0:Int),(ag (dy + (1:Int)))))))))))) else (kO dy))
def fp (F:Nat) (bN:List UInt8) (dx:UInt64) (bZ:Int) (dy:Int):Option ((UInt64×Int×Int) ⊕ ((Int) ⊕ (UInt64×Int×Int))):=qU F bN dx bZ dy (fun s=>some (.inl s)) (fun z=>some (.inr (.inl z))) (fun z=>some (.inr (.inr z)))
def amr (F:Nat):LB (aaj F) 2 Tryz.f137:=
 gH st ai [] [1,0,1] 0 [0,2,6] [(.pt 0 []),.u64,.i] [.blk 176 Qc,.row 5 .u8] [] [] [.blk 176 Qc,.row 5 .u8] [2,3] [.u64,.i] [.blk 176 Qc,.row 5 .u8] F (fun x y (s:UInt64×Int×Int)=>((),s.1,s.2.1,())) (fun x y s=>(((),s.2.2,y.1.2.2.1,y.1.2.2.2.1,()),y.2.1,())) (fun x y=>(x.2.1,x.2.2.1,y.1.2.1)) (fun x y (z:Int)=>((),(((),z,y.1.2.2.1,y.1.2.2.2.1,()),y.2.1,()))) (fun x y (z:UInt64×Int×Int)=>((z.1,z.2.1,()),(((),z.2.2,y.1.2.2.1,y.1.2.2.2.1,()),y.2.1,()))) (fun x y s _ kA kO kR=>qU F y.2.1 s.1 s.2.1 s.2.2 kA kO kR) (fun _ _ _ _ _ _ _=>by simp only [qU,oA,oC,oS,oN,aU,aT,ah]) (by kernel_rfl) (by kernel_rfl) (fun _ _ _=>by kernel_rfl)
def zi (F:Nat) (p0:Int) (p3:List UInt8) {β:Type} (k:(UInt64×Int×Int)->Option β):Option β:=
 ((iter (fun s=>fp F p3 s.1 s.2.1 s.2.2) F ((UInt64.ofNat 0),(0:Int),p0)).bind fun eY=>bz (fun eY=>(k ((UInt64.ofNat 0),(3:Int),eY))) (fun eY=>(k (eY.1,eY.2.1,eY.2.2))) eY)
def r9 (F:Nat) (p0:Int) (p3:List UInt8):=zi F p0 p3 some
def LQ (F:Nat):BN:=
 aq (E:=aaj F) st Tryz.func137 ai 2 [amr F] [(.pt 0 [])] [.blk 176 Qc,.row 5 .u8] [.u64,.i] [.blk 176 Qc,.row 5 .u8] (fun x y (z:UInt64×Int×Int)=>((z.1,z.2.1,()),(((),z.2.2,y.1.2.2.1,y.1.2.2.2.1,()),y.2.1,()))) (fun x y _ k=>zi F y.1.2.1 y.2.1 k) (fun _ _ _ _=>by simp only [zi,oA,oC,oS,oN,ah]) (by kernel_rfl) (fun _ _=>by kernel_rfl)
def Yh (F:Nat):Ev:=⟨cfg,18,dM [],fun _=>[],dM [],fun _=>none,fun _=>none,fun _=>none⟩
theorem alf (F:Nat):bS Tryz.prog (Yh F):=kD (l:=[]) (l':=[]) rfl rfl trivial trivial
def IU (F:Nat) (p0:Int) (p1:UInt64) (p2:Int) (p4:Int) {β:Type} (k:(UInt64×Int)->Option β):Option β:=
 (bif (p4 != (0:Int)) then (k ((UInt64.ofNat 0),p0)) else (k (p1,p2)))
def KD (F:Nat) (p0:Int) (p1:UInt64) (p2:Int) (p4:Int):=IU F p0 p1 p2 p4 some
def Pt (F:Nat):Ct:=cu 4 [(.re .i),(.pt 0 []),(.pt 1 [])] [.blk 114 (.pt 2 []),.blk 171 .u64,.blk 176 Qi,.row 5 .u8] [] [.blk 114 (.pt 2 []),.blk 171 .u64,.blk 176 Qi,.row 5 .u8] (fun x y=>KD F x.1 y.2.1 y.2.2.1.2.1 y.2.2.1.2.2.2.1) (fun x y (z:UInt64×Int)=>((),((),z.1,((),z.2,x.1,y.2.2.1.2.2.2.1,()),y.2.2.2.1,())))
theorem ac_ (F:Nat):lN Tryz.prog cfg true 164 (Pt F):=
 zB (E:=Yh F) true (fun _ _=>rfl) (lp:=[]) (code:=cC Tryz.f164) Tryz.func164 rfl Tryz.ntmps164 rfl rfl iY (alf F) mixed trivial (by kernel_rfl) (fun x y k=>IU F x.1 y.2.1 y.2.2.1.2.1 y.2.2.1.2.2.2.1 k) (fun _ _ _=>by simp only [KD,IU,oA,oC,oS,oN,ah]) (fun _ _=>by kernel_rfl)
def ahV:Nat->List (Tag×Nat)
 | 5=>[(.c,0),(.p,1),(.w,2),(.p,3),(.p,4),(.p,5),(.w,6),(.p,7),(.p,8),(.b,9)]
 | _=>[]
def abc (F:Nat):Ev:=⟨cfg,26,dM [(137,(LQ F).ct)],ahV,dM [(164,Pt F)],fun _=>none,fun _=>none,fun _=>none⟩
theorem acB (F:Nat):bS Tryz.prog (abc F):=kD (l:=[(137,(LQ F).ct)]) (l':=[(164,Pt F)]) rfl rfl ⟨⟨(LQ F).ok,_,Tryz.func137,rfl,rfl⟩,trivial⟩ ⟨⟨ac_ F,_,Tryz.func164,rfl,rfl⟩,trivial⟩
def Jl (F:Nat) (p0:Int) (p1:Int) (p2:Int) (p3:List UInt8) {β:Type} (k:(UInt64×Int×Int×Int)->Option β):Option β:=
 (bif (p2 != (0:Int)) then (k ((0:UInt64),p0,p1,p2)) else ((r9 F p0 p3).bind fun z3=>((KD F p0 z3.1 z3.2.2 z3.2.1).bind fun z4=>(k (z4.1,z4.2,p0,z3.2.1)))))
def Gc (F:Nat) (p0:Int) (p1:Int) (p2:Int) (p3:List UInt8):=Jl F p0 p1 p2 p3 some
def Yf (F:Nat):Ct:=cu 2 [(.pt 0 []),(.fn 137 (.pr (.pt 0 []) .un) .un)] [.blk 176 Qc,.row 5 .u8] [.u64] [.blk 176 Qc,.row 5 .u8] (fun x y=>Gc F y.1.2.1 y.1.2.2.1 y.1.2.2.2.1 y.2.1) (fun x y (z:UInt64×Int×Int×Int)=>((z.1,()),(((),z.2.1,z.2.2.1,z.2.2.2,()),y.2.1,())))
theorem af1 (F:Nat):Sound Tryz.prog cfg 136 (Yf F):=
 ov (E:=abc F) (lp:=[]) (code:=cC Tryz.f136) Tryz.func136 rfl Tryz.ntmps136 rfl rfl iY (acB F) mixed trivial (by kernel_rfl) (fun x y k=>Jl F y.1.2.1 y.1.2.2.1 y.1.2.2.2.1 y.2.1 k) (fun _ _ _=>by simp only [Gc,Jl,oA,oC,oS,oN,ah]) (fun _ _=>by kernel_rfl)
def ae5 (F:Nat):BN:=⟨136,Yf F,af1 F,_,Tryz.func136,rfl,rfl⟩
def E96 (F:Nat):Ev:=ev 7 [ae5 F] (fun _=>[])
def Kc (F:Nat) (p0:Int) (p1:Int) (p2:Int) (p3:List UInt8) {β:Type} (k:(UInt64×Int×Int×Int)->Option β):Option β:=
 ((Gc F p0 p1 p2 p3).bind fun z2=>(k (z2.1,z2.2.1,z2.2.2.1,z2.2.2.2)))
def Yk (F:Nat) (p0:Int) (p1:Int) (p2:Int) (p3:List UInt8):=Kc F p0 p1 p2 p3 some
def ang (F:Nat):BN:=
 aq (E:=E96 F) st Tryz.func96 ai 2 [] [(.pt 0 [])] [.blk 176 Qc,.row 5 .u8] [.u64] [.blk 176 Qc,.row 5 .u8] (fun x y (z:UInt64×Int×Int×Int)=>((z.1,()),(((),z.2.1,z.2.2.1,z.2.2.2,()),y.2.1,()))) (fun x y _ k=>Kc F y.1.2.1 y.1.2.2.1 y.1.2.2.2.1 y.2.1 k) (fun _ _ _ _=>by simp only [Kc,oA,oC,oS,oN,ah]) (by kernel_rfl) (fun _ _=>by kernel_rfl)
def E97 (F:Nat):Ev:=ev 17 [] (fun _=>[])
def Mb (F:Nat) (p0:Int) (p1:Int) (p2:Int) {β:Type} (k:Zv->Option β):Option β:=
 (bif (p2 == (0:Int)) then (k (p1,(3:Int))) else (k (p0,p2)))
def T97 (F:Nat) (p0:Int) (p1:Int) (p2:Int):=Mb F p0 p1 p2 some
def arR (F:Nat):BN:=
 aq (E:=E97 F) st Tryz.func97 ai 2 [] [(.pt 0 [])] [.blk 176 Qc,.row 5 .u8] [] [.blk 176 Qc,.row 5 .u8] (fun x y (z:Int×Int)=>((),(((),z.1,y.1.2.2.1,z.2,()),y.2.1,()))) (fun x y _ k=>Mb F y.1.2.1 y.1.2.2.1 y.1.2.2.2.1 k) (fun _ _ _ _=>by simp only [Mb,oA,oC,oS,oN,ah]) (by kernel_rfl) (fun _ _=>by kernel_rfl)
def E51 (F:Nat):Ev:=ev 16 [ang F,arR F] (fun _=>[])
def Fw (F:Nat) (p0:Int) (p1:Int) (p2:Int) (p3:Int) (p4:List UInt8) {β:Type} (k:(Int×Int×Int×Int)->Option β):Option β:=
 ((Yk F p1 p2 p3 p4).bind fun z3=>(bif (decide ((UInt64.ofInt p0) < z3.1)) then ((T97 F z3.2.1 z3.2.2.1 z3.2.2.2).bind fun z4=>(k ((0:Int),z4.1,z3.2.2.1,z4.2))) else (k ((ag (z3.1.toNat:Int)),z3.2.1,z3.2.2.1,z3.2.2.2))))
def wi (F:Nat) (p0:Int) (p1:Int) (p2:Int) (p3:Int) (p4:List UInt8):=Fw F p0 p1 p2 p3 p4 some
def Y0 (F:Nat):BN:=
 aq (E:=E51 F) st Tryz.func51 ai 2 [] [(.pt 0 []),.i] [.blk 176 Qc,.row 5 .u8] [.i] [.blk 176 Qc,.row 5 .u8] (fun x y (z:Int×Int×Int×Int)=>((z.1,()),(((),z.2.1,z.2.2.1,z.2.2.2,()),y.2.1,()))) (fun x y _ k=>Fw F x.2.1 y.1.2.1 y.1.2.2.1 y.1.2.2.2.1 y.2.1 k) (fun _ _ _ _=>by simp only [Fw,oA,oC,oS,oN,ah]) (by kernel_rfl) (fun _ _=>by kernel_rfl)
def aeQ (F:Nat):Ev:=ev 23 [LQ F] (fun _=>[])
def K0 (F:Nat) (p0:Int) (p1:Int) (p4:List UInt8) {β:Type} (k:(Int×Int×Int)->Option β):Option β:=
 ((r9 F p1 p4).bind fun z2=>(bif (z2.2.1 != (0:Int)) then (k ((0:Int),z2.2.1,z2.2.2)) else (bif (decide ((UInt64.ofInt (if p0 < (0:Int) then (0:Int) else p0)) < z2.1)) then (k ((0:Int),(2:Int),z2.2.2)) else (k ((ag (z2.1.toNat:Int)),(0:Int),z2.2.2)))))
def Lz (F:Nat) (p0:Int) (p1:Int) (p4:List UInt8):=K0 F p0 p1 p4 some
def aaf (F:Nat):BN:=
 aq (E:=aeQ F) st Tryz.func106 ai 2 [] [(.pt 0 []),.i] [.blk 176 Qc,.row 5 .u8] [.i,.i] [.blk 176 Qc,.row 5 .u8] (fun x y (z:Int×Int×Int)=>((z.1,z.2.1,()),(((),z.2.2,y.1.2.2.1,y.1.2.2.2.1,()),y.2.1,()))) (fun x y _ k=>K0 F x.2.1 y.1.2.1 y.2.1 k) (fun _ _ _ _=>by simp only [K0,oA,oC,oS,oN,ah]) (by kernel_rfl) (fun _ _=>by kernel_rfl)
def aeb (F:Nat):Ev:=ev 22 [aaf F,Wd F] (fun _=>[])
def G2 (F:Nat) (p0:Int) (p1:Int) (p4:List UInt8) {β:Type} (k:((Nat×Nat)×Int×Int)->Option β):Option β:=
 ((Lz F p0 p1 p4).bind fun z3=>(bif (z3.2.1 != (0:Int)) then (k ((0,0),z3.2.1,z3.2.2)) else ((JV F z3.1 z3.2.2 p4).bind fun z4=>(k ((z4.1.1,z4.1.2),z4.2.1,z4.2.2)))))
def X3 (F:Nat) (p0:Int) (p1:Int) (p4:List UInt8):=G2 F p0 p1 p4 some
def ans (F:Nat):BN:=
 aq (E:=aeb F) st Tryz.func100 ai 2 [] [(.pt 0 []),.i] [.blk 176 Qc,.row 5 .u8] [(.rp 1),.i] [.blk 176 Qc,.row 5 .u8] (fun x y (z:(Nat×Nat)×Int×Int)=>((z.1,z.2.1,()),(((),z.2.2,y.1.2.2.1,y.1.2.2.2.1,()),y.2.1,()))) (fun x y _ k=>G2 F x.2.1 y.1.2.1 y.2.1 k) (fun _ _ _ _=>by simp only [G2,oA,oC,oS,oN,ah]) (by kernel_rfl) (fun _ _=>by kernel_rfl)
def E99 (F:Nat):Ev:=ev 15 [ans F] (fun _=>[])
def Ic (F:Nat) (p0:Int) (p1:Int) (p4:List UInt8) {β:Type} (k:(Int×Int×Za)->Option β):Option β:=
 ((X3 F p0 p1 p4).bind fun z3=>((aD ([]:List UInt8) ((p4.drop z3.1.1).take (z3.1.2 - z3.1.1))).bind fun x4=>(k (z3.2.1,z3.2.2,x4))))
def Uo (F:Nat) (p0:Int) (p1:Int) (p4:List UInt8):=Ic F p0 p1 p4 some
def Nq (F:Nat):BN:=
 aq (E:=E99 F) st Tryz.func99 ai 3 [] [(.pt 0 []),(.re .i)] [.blk 114 (.pt 1 []),.blk 176 Qr,.row 5 .u8] [(.rw 3),.i] [.blk 114 (.pt 1 []),.blk 176 Qr,.row 5 .u8,.row 5 .u8] (fun x y (z:Int×Int×Za)=>(((),z.1,()),((),((),z.2.1,y.2.1.2.2.1,y.2.1.2.2.2.1,()),y.2.2.1,z.2.2,()))) (fun x y _ k=>Ic F x.2.1 y.2.1.2.1 y.2.2.1 k) (fun _ _ _ _=>by simp only [Ic,oA,oC,oS,oN,ah]) (by kernel_rfl) (fun _ _=>by kernel_rfl)
end Go.Proofs.YtiahcmabcbpcpaaGreatDoor
