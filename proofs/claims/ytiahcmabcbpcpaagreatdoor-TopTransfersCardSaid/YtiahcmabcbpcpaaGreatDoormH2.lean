/- The functions, each with its twin, and plain facts about them. -/
import Derived.Test.YtiahcmabcbpcpaaGreatDoormH1
set_option linter.unusedSimpArgs false
set_option linter.unusedVariables false
set_option maxRecDepth 100000
namespace Go.Proofs.YtiahcmabcbpcpaaGreatDoor
open Go.Tw
def XB (F:Nat):Ev:=⟨cfg,18,dM [],fun _=>[],dM [],fun _=>none,fun _=>none,fun _=>none⟩
theorem aiW (F:Nat):bS Tryz.prog (XB F):=kD (l:=[]) (l':=[]) rfl rfl trivial trivial
def Ln (F:Nat) (p0:Int) (p1:Int) (p3:Int) (p4:List UInt8) {β:Type} (k:((Nat×Nat)×Int)->Option β):Option β:=
 (bif (p3 != (0:Int)) then (k ((0,0),p0)) else (k ((0,p4.length),p1)))
def FW (F:Nat) (p0:Int) (p1:Int) (p3:Int) (p4:List UInt8):=Ln F p0 p1 p3 p4 some
def PS (F:Nat):Ct:=cu 5 [(.re .i),(.pt 0 []),(.pt 1 [])] [.blk 114 (.pt 2 []),.blk 26 (.rw 3),.blk 176 (.pr (.rw 4) (.pr .i (.pr .i (.pr .i .un)))),.row 5 .u8,.row 5 .u8] [] [.blk 114 (.pt 2 []),.blk 26 (.rp 3),.blk 176 (.pr (.rw 4) (.pr .i (.pr .i (.pr .i .un)))),.row 5 .u8,.row 5 .u8] (fun x y=>FW F x.1 y.2.2.1.2.1 y.2.2.1.2.2.2.1 y.2.2.2.1) (fun x y (z:(Nat×Nat)×Int)=>((),((),z.1,((),z.2,x.1,y.2.2.1.2.2.2.1,()),y.2.2.2.1,y.2.2.2.2.1,())))
theorem aqw (F:Nat):lN Tryz.prog cfg true 138 (PS F):=
 zB (E:=XB F) true (fun _ _=>rfl) (lp:=[]) (code:=cC Tryz.f138) Tryz.func138 rfl Tryz.ntmps138 rfl rfl iY (aiW F) mixed trivial (by kernel_rfl) (fun x y k=>Ln F x.1 y.2.2.1.2.1 y.2.2.1.2.2.2.1 y.2.2.2.1 k) (fun _ _ _=>by simp only [FW,Ln,oA,oC,oS,oN,ah]) (fun _ _=>by kernel_rfl)
def ads:Nat->List (Tag×Nat)
 | 5=>[(.c,0),(.p,1),(.w,2),(.p,3),(.p,4),(.p,5),(.w,6),(.p,7),(.p,8),(.b,9)]
 | _=>[]
def UF (F:Nat):Ev:=⟨cfg,26,dM [(99,(Nq F).ct)],ads,dM [(138,PS F)],fun _=>none,fun _=>none,fun _=>none⟩
theorem acI (F:Nat):bS Tryz.prog (UF F):=kD (l:=[(99,(Nq F).ct)]) (l':=[(138,PS F)]) rfl rfl ⟨⟨(Nq F).ok,_,Tryz.func99,rfl,rfl⟩,trivial⟩ ⟨⟨aqw F,_,Tryz.func138,rfl,rfl⟩,trivial⟩
def KB (F:Nat) (p0:Int) (p1:Int) (p2:Int) (p3:Int) (p4:List UInt8) {β:Type} (k:(Za×Int×Int×Int)->Option β):Option β:=
 (bif (p2 != (0:Int)) then (k (([]:List UInt8),p0,p1,p2)) else ((Uo F p3 p0 p4).bind fun z3=>((FW F p0 z3.2.1 z3.1 z3.2.2).bind fun z4=>(k (((z3.2.2.drop z4.1.1).take (z4.1.2 - z4.1.1)),z4.2,p0,z3.1)))))
def La (F:Nat) (p0:Int) (p1:Int) (p2:Int) (p3:Int) (p4:List UInt8):=KB F p0 p1 p2 p3 p4 some
def XP (F:Nat):Ct:=cu 4 [(.pt 0 []),(.fn 99 .un (.pr (.pt 1 []) (.pr (.pt 2 []) .un)))] [.blk 176 Qi,.blk 114 (.pt 0 []),.blk 3 .i,.row 5 .u8] [(.ro .u8)] [.blk 176 Qi,.blk 114 (.pt 0 []),.blk 3 .i,.row 5 .u8] (fun x y=>La F y.1.2.1 y.1.2.2.1 y.1.2.2.2.1 y.2.2.1 y.2.2.2.1) (fun x y (z:Za×Int×Int×Int)=>((z.1,()),(((),z.2.1,z.2.2.1,z.2.2.2,()),(),y.2.2.1,y.2.2.2.1,())))
theorem apQ (F:Nat):Sound Tryz.prog cfg 98 (XP F):=
 ov (E:=UF F) (lp:=[]) (code:=cC Tryz.f98) Tryz.func98 rfl Tryz.ntmps98 rfl rfl iY (acI F) mixed trivial (by kernel_rfl) (fun x y k=>KB F y.1.2.1 y.1.2.2.1 y.1.2.2.2.1 y.2.2.1 y.2.2.2.1 k) (fun _ _ _=>by simp only [La,KB,oA,oC,oS,oN,ah]) (fun _ _=>by kernel_rfl)
def arN (F:Nat):BN:=⟨98,XP F,apQ F,_,Tryz.func98,rfl,rfl⟩
def E52 (F:Nat):Ev:=ev 8 [arN F] (fun _=>[])
def FU (F:Nat) (p0:Int) (p1:Int) (p2:Int) (p3:Int) (p4:List UInt8) {β:Type} (k:(Za×Int×Int×Int)->Option β):Option β:=
 ((La F p1 p2 p3 p0 p4).bind fun z2=>(k (z2.1,z2.2.1,z2.2.2.1,z2.2.2.2)))
def DF (F:Nat) (p0:Int) (p1:Int) (p2:Int) (p3:Int) (p4:List UInt8):=FU F p0 p1 p2 p3 p4 some
def U3 (F:Nat):BN:=
 aq (E:=E52 F) st Tryz.func52 ai 2 [] [(.pt 0 []),.i] [.blk 176 Qc,.row 5 .u8] [(.ro .u8)] [.blk 176 Qc,.row 5 .u8] (fun x y (z:Za×Int×Int×Int)=>((z.1,()),(((),z.2.1,z.2.2.1,z.2.2.2,()),y.2.1,()))) (fun x y _ k=>FU F x.2.1 y.1.2.1 y.1.2.2.1 y.1.2.2.2.1 y.2.1 k) (fun _ _ _ _=>by simp only [FU,oA,oC,oS,oN,ah]) (by kernel_rfl) (fun _ _=>by kernel_rfl)
def ams (F:Nat):Ev:=ev 9 [aaf F] (fun _=>[])
def Gn (F:Nat) (p0:Int) (p1:Int) (p4:List UInt8) {β:Type} (k:(Int×Int×Int)->Option β):Option β:=
 ((Lz F p0 p1 p4).bind fun z2=>(k (z2.1,z2.2.1,z2.2.2)))
def YC (F:Nat) (p0:Int) (p1:Int) (p4:List UInt8):=Gn F p0 p1 p4 some
def SZ (F:Nat):BN:=
 aq (E:=ams F) st Tryz.func105 ai 3 [] [(.pt 0 []),(.re .i)] [.blk 114 (.pt 1 []),.blk 176 Qr,.row 5 .u8] [.i,.i] [.blk 114 (.pt 1 []),.blk 176 Qr,.row 5 .u8] (fun x y (z:Int×Int×Int)=>((z.1,z.2.1,()),((),((),z.2.2,y.2.1.2.2.1,y.2.1.2.2.2.1,()),y.2.2.1,()))) (fun x y _ k=>Gn F x.2.1 y.2.1.2.1 y.2.2.1 k) (fun _ _ _ _=>by simp only [Gn,oA,oC,oS,oN,ah]) (by kernel_rfl) (fun _ _=>by kernel_rfl)
def UA (F:Nat):Ev:=⟨cfg,18,dM [],fun _=>[],dM [],fun _=>none,fun _=>none,fun _=>none⟩
theorem agM (F:Nat):bS Tryz.prog (UA F):=kD (l:=[]) (l':=[]) rfl rfl trivial trivial
def Fs (F:Nat) (p0:Int) (p1:Int) (p2:Int) (p4:Int) {β:Type} (k:Zv->Option β):Option β:=
 (bif (p4 != (0:Int)) then (k ((0:Int),p0)) else (k (p1,p2)))
def Jm (F:Nat) (p0:Int) (p1:Int) (p2:Int) (p4:Int):=Fs F p0 p1 p2 p4 some
def RD (F:Nat):Ct:=cu 4 [(.re .i),(.pt 0 []),(.pt 1 [])] [.blk 114 (.pt 2 []),.blk 3 .i,.blk 176 Qi,.row 5 .u8] [] [.blk 114 (.pt 2 []),.blk 3 .i,.blk 176 Qi,.row 5 .u8] (fun x y=>Jm F x.1 y.2.1 y.2.2.1.2.1 y.2.2.1.2.2.2.1) (fun x y (z:Int×Int)=>((),((),z.1,((),z.2,x.1,y.2.2.1.2.2.2.1,()),y.2.2.2.1,())))
theorem apP (F:Nat):lN Tryz.prog cfg true 142 (RD F):=
 zB (E:=UA F) true (fun _ _=>rfl) (lp:=[]) (code:=cC Tryz.f142) Tryz.func142 rfl Tryz.ntmps142 rfl rfl iY (agM F) mixed trivial (by kernel_rfl) (fun x y k=>Fs F x.1 y.2.1 y.2.2.1.2.1 y.2.2.1.2.2.2.1 k) (fun _ _ _=>by simp only [Jm,Fs,oA,oC,oS,oN,ah]) (fun _ _=>by kernel_rfl)
def aqJ:Nat->List (Tag×Nat)
 | 5=>[(.c,0),(.p,1),(.w,2),(.p,3),(.p,4),(.p,5),(.w,6),(.p,7),(.p,8),(.b,9)]
 | _=>[]
def UO (F:Nat):Ev:=⟨cfg,26,dM [(105,(SZ F).ct)],aqJ,dM [(142,RD F)],fun _=>none,fun _=>none,fun _=>none⟩
theorem apZ (F:Nat):bS Tryz.prog (UO F):=kD (l:=[(105,(SZ F).ct)]) (l':=[(142,RD F)]) rfl rfl ⟨⟨(SZ F).ok,_,Tryz.func105,rfl,rfl⟩,trivial⟩ ⟨⟨apP F,_,Tryz.func142,rfl,rfl⟩,trivial⟩
def HQ (F:Nat) (p0:Int) (p1:Int) (p2:Int) (p3:Int) (p4:List UInt8) {β:Type} (k:(Int×Int×Int×Int)->Option β):Option β:=
 (bif (p2 != (0:Int)) then (k ((0:Int),p0,p1,p2)) else ((YC F p3 p0 p4).bind fun z3=>((Jm F p0 z3.1 z3.2.2 z3.2.1).bind fun z4=>(k (z4.1,z4.2,p0,z3.2.1)))))
def Gf (F:Nat) (p0:Int) (p1:Int) (p2:Int) (p3:Int) (p4:List UInt8):=HQ F p0 p1 p2 p3 p4 some
def UK (F:Nat):Ct:=cu 4 [(.pt 0 []),(.fn 105 .un (.pr (.pt 1 []) (.pr (.pt 2 []) .un)))] [.blk 176 Qi,.blk 114 (.pt 0 []),.blk 3 .i,.row 5 .u8] [.i] [.blk 176 Qi,.blk 114 (.pt 0 []),.blk 3 .i,.row 5 .u8] (fun x y=>Gf F y.1.2.1 y.1.2.2.1 y.1.2.2.2.1 y.2.2.1 y.2.2.2.1) (fun x y (z:Int×Int×Int×Int)=>((z.1,()),(((),z.2.1,z.2.2.1,z.2.2.2,()),(),y.2.2.1,y.2.2.2.1,())))
theorem afC (F:Nat):Sound Tryz.prog cfg 104 (UK F):=
 ov (E:=UO F) (lp:=[]) (code:=cC Tryz.f104) Tryz.func104 rfl Tryz.ntmps104 rfl rfl iY (apZ F) mixed trivial (by kernel_rfl) (fun x y k=>HQ F y.1.2.1 y.1.2.2.1 y.1.2.2.2.1 y.2.2.1 y.2.2.2.1 k) (fun _ _ _=>by simp only [Gf,HQ,oA,oC,oS,oN,ah]) (fun _ _=>by kernel_rfl)
def ajL (F:Nat):BN:=⟨104,UK F,afC F,_,Tryz.func104,rfl,rfl⟩
def E60 (F:Nat):Ev:=ev 8 [ajL F] (fun _=>[])
def EX (F:Nat) (p0:Int) (p1:Int) (p2:Int) (p3:Int) (p4:List UInt8) {β:Type} (k:(Int×Int×Int×Int)->Option β):Option β:=
 ((Gf F p1 p2 p3 p0 p4).bind fun z2=>(k (z2.1,z2.2.1,z2.2.2.1,z2.2.2.2)))
def Ez (F:Nat) (p0:Int) (p1:Int) (p2:Int) (p3:Int) (p4:List UInt8):=EX F p0 p1 p2 p3 p4 some
def ZA (F:Nat):BN:=
 aq (E:=E60 F) st Tryz.func60 ai 2 [] [(.pt 0 []),.i] [.blk 176 Qc,.row 5 .u8] [.i] [.blk 176 Qc,.row 5 .u8] (fun x y (z:Int×Int×Int×Int)=>((z.1,()),(((),z.2.1,z.2.2.1,z.2.2.2,()),y.2.1,()))) (fun x y _ k=>EX F x.2.1 y.1.2.1 y.1.2.2.1 y.1.2.2.2.1 y.2.1 k) (fun _ _ _ _=>by simp only [EX,oA,oC,oS,oN,ah]) (by kernel_rfl) (fun _ _=>by kernel_rfl)
def WK (F:Nat):Ev:=ev 22 [ZA F,Tq F] (fun _=>[])
def Dh (F:Nat) (ek:Int) (cP:List UInt8) (dA:Int) (bN:Int) (dQ:Int) (dP:Int) (dK:List Za) {β:Type} (kA:(Int×Int×Int×Int×Zd)->Option β) (kO:(Int×Int×Int×Zd)->Option β):Option β:=
 (bif (decide (dA < ek)) then ((Bw F bN dQ dP cP).bind fun eY=>((aD dK ([eY.1]:List Za)).bind fun gF=>(kA ((ag (dA + (1:Int))),eY.2.1,eY.2.2.1,eY.2.2.2,gF)))) else (kO (bN,dQ,dP,dK)))
def Ir (F:Nat) (ek:Int) (cP:List UInt8) (dA:Int) (bN:Int) (dQ:Int) (dP:Int) (dK:List Za):=Dh F ek cP dA bN dQ dP dK (fun s=>some (Sum.inl s)) (fun z=>some (Sum.inr z))
def apo (F:Nat):LB (WK F) 2 Tryz.f53:=
 bH st ai [] [1,0,1,1,1] 0 [0,6,12,13] [(.pt 0 []),(.rw 2),.i,.i] [.blk 176 Qc,.row 5 .u8,.row 9 .s] [6] [(.rw 2)] [.blk 176 Qc,.row 5 .u8,.row 9 .s] F (fun x y (s:Int×Int×Int×Int×Zd)=>((),(),x.2.2.1,s.1,())) (fun x y s=>(((),s.2.1,s.2.2.1,s.2.2.2.1,()),y.2.1,s.2.2.2.2,())) (fun x y=>(x.2.2.2.1,y.1.2.1,y.1.2.2.1,y.1.2.2.2.1,y.2.2.1)) (fun x y (z:Int×Int×Int×Zd)=>(((),()),(((),z.1,z.2.1,z.2.2.1,()),y.2.1,z.2.2.2,()))) (fun x y s _ kA kO=>Dh F x.2.2.1 y.2.1 s.1 s.2.1 s.2.2.1 s.2.2.2.1 s.2.2.2.2 kA kO) (fun _ _ _ _ _ _=>by simp only [Dh,oA,oC,oS,oN,aU,aT,ah]) (by kernel_rfl) (by kernel_rfl) (fun _ _ _=>by kernel_rfl)
def Lf (F:Nat) (p0:Int) (p1:Int) (p2:Int) (p3:Int) (p4:List UInt8) {β:Type} (k:(Int×Int×Int×Zd)->Option β):Option β:=
 ((Ez F p0 p1 p2 p3 p4).bind fun eR=>((cw ([]:List UInt8) (0:Int) eR.1).bind fun gV=>((iter (fun s=>Ir F eR.1 p4 s.1 s.2.1 s.2.2.1 s.2.2.2.1 s.2.2.2.2) F ((0:Int),eR.2.1,eR.2.2.1,eR.2.2.2,gV)).bind fun gr=>(k (gr.1,gr.2.1,gr.2.2.1,gr.2.2.2)))))
def Iq (F:Nat) (p0:Int) (p1:Int) (p2:Int) (p3:Int) (p4:List UInt8):=Lf F p0 p1 p2 p3 p4 some
def ab1 (F:Nat):BN:=
 aq (E:=WK F) st Tryz.func53 ai 2 [apo F] [(.pt 0 []),.i] [.blk 176 Qc,.row 5 .u8] [(.rw 2)] [.blk 176 Qc,.row 5 .u8,.row 9 .s] (fun x y (z:Int×Int×Int×Zd)=>(((),()),(((),z.1,z.2.1,z.2.2.1,()),y.2.1,z.2.2.2,()))) (fun x y _ k=>Lf F x.2.1 y.1.2.1 y.1.2.2.1 y.1.2.2.2.1 y.2.1 k) (fun _ _ _ _=>by simp only [Lf,oA,oC,oS,oN,ah]) (by kernel_rfl) (fun _ _=>by kernel_rfl)
def asN:Nat->List (Tag×Nat)
 | 2=>[(.p,0),(.p,1),(.p,2),(.r,3),(.p,4),(.p,5),(.p,6),(.r,7),(.p,8),(.p,9)]
 | 3=>[(.p,0),(.p,1),(.p,2),(.r,3),(.p,4),(.p,5),(.p,6),(.r,7),(.p,8),(.p,9)]
 | _=>[]
def E54 (F:Nat):Ev:=ev 35 [] asN
def KA (F:Nat) (p0:Int) (p2:Int) (p3:List UInt8) {β:Type} (k:Int->Option β):Option β:=
 (bif (p2 != (0:Int)) then (k p2) else (bif (decide (p0 < (p3.length:Int))) then (k (3:Int)) else (k (0:Int))))
def zO (F:Nat) (p0:Int) (p2:Int) (p3:List UInt8):=KA F p0 p2 p3 some
def Pd (F:Nat):BN:=
 aq (E:=E54 F) st Tryz.func54 ai 2 [] [(.pt 0 [])] [.blk 176 Qc,.row 5 .u8] [.i,.i] [.blk 176 Qc,.row 5 .u8] (fun x y (z:Int)=>((y.1.2.1,z,()),(((),y.1.2.1,y.1.2.2.1,y.1.2.2.2.1,()),y.2.1,()))) (fun x y _ k=>KA F y.1.2.1 y.1.2.2.2.1 y.2.1 k) (fun _ _ _ _=>by simp only [KA,oA,oC,oS,oN,ah]) (by kernel_rfl) (fun _ _=>by kernel_rfl)
def aia (F:Nat):Ev:=ev 61 [F6 F,Gv F] (fun _=>[])
def Iu (F:Nat) (p0:List UInt8) (p1:Int) (p2:Int) (p3:List UInt8) (p4:List Za) {β:Type} (k:Bool->Option β):Option β:=
 ((xq F p0 p1 (16:Int)).bind fun z3=>(bif z3 then (bif (decide ((0:Int)≤p2)) then (bif (decide (p2≤(65024:Int))) then (bif ((Int.tmod p2 (512:Int)) == (0:Int)) then (bif (decide ((1:Int)≤(p3.length:Int))) then (bif (decide ((p3.length:Int)≤(512:Int))) then (bif (decide ((p4.length:Int)≤(16:Int))) then ((yj F p4).bind fun z4=>(k z4)) else (k false)) else (k false)) else (k false)) else (k false)) else (k false)) else (k false)) else (k false)))
def R2 (F:Nat) (p0:List UInt8) (p1:Int) (p2:Int) (p3:List UInt8) (p4:List Za):=Iu F p0 p1 p2 p3 p4 some
def arD (F:Nat):BN:=
 aq (E:=aia F) st Tryz.func40 ai 2 [] [(.pt 0 [])] [.blk 50 (.pr (.pr .str (.pr .i .un)) (.pr .i (.pr (.ro .u8) (.pr (.rw 1) .un)))),.row 9 .s] [.bo] [.blk 50 (.pr (.pr .str (.pr .i .un)) (.pr .i (.pr (.ro .u8) (.pr (.rw 1) .un)))),.row 9 .s] (fun x y (z:Bool)=>((z,()),(((y.1.1.1,y.1.1.2.1,()),y.1.2.1,y.1.2.2.1,(),()),y.2.1,()))) (fun x y _ k=>Iu F y.1.1.1 y.1.1.2.1 y.1.2.1 y.1.2.2.1 y.2.1 k) (fun _ _ _ _=>by simp only [Iu,oA,oC,oS,oN,ah]) (by kernel_rfl) (fun _ _=>by kernel_rfl)
def E15 (F:Nat):Ev:=ev 40 [QU F,Tq F,Y0 F,U3 F,ab1 F,Pd F,arD F] (fun _=>[])
def Ex (F:Nat) (p0:List UInt8) {β:Type} (k:(Za×Int×Int×Za×Zd×Int)->Option β):Option β:=
 ((A4 F p0).bind fun z9=>((Bw F z9.1 z9.2.1 z9.2.2.1 z9.2.2.2).bind fun bg=>((wi F (15:Int) bg.2.1 bg.2.2.1 bg.2.2.2 z9.2.2.2).bind fun dG=>((wi F (65024:Int) dG.2.1 dG.2.2.1 dG.2.2.2 z9.2.2.2).bind fun ca=>((DF F (512:Int) ca.2.1 ca.2.2.1 ca.2.2.2 z9.2.2.2).bind fun gz=>((Iq F (16:Int) gz.2.1 gz.2.2.1 gz.2.2.2 z9.2.2.2).bind fun fk=>((zO F fk.1 fk.2.2.1 z9.2.2.2).bind fun eR=>(bif (eR != (0:Int)) then (k (([]:List UInt8),(0:Int),(0:Int),([]:List UInt8),([]:List Za),(3:Int))) else ((R2 F bg.1 dG.1 ca.1 gz.1 fk.2.2.2).bind fun cq=>(bif (!cq) then (k (([]:List UInt8),(0:Int),(0:Int),([]:List UInt8),([]:List Za),(3:Int))) else (k (bg.1,dG.1,ca.1,gz.1,fk.2.2.2,(0:Int)))))))))))))
def Ht (F:Nat) (p0:List UInt8):=Ex F p0 some
def Fb (F:Nat):BN:=
 aq (E:=E15 F) st Tryz.func15 ai 0 [] [(.ro .u8)] [] [(.pr (.pr .str (.pr .i .un)) (.pr .i (.pr (.ro .u8) (.pr (.ro .s) .un)))),.i] [] (fun x y (z:Za×Int×Int×Za×Zd×Int)=>((((z.1,z.2.1,()),z.2.2.1,z.2.2.2.1,z.2.2.2.2.1,()),z.2.2.2.2.2,()),())) (fun x y _ k=>Ex F x.1 k) (fun _ _ _ _=>by simp only [Ex,oA,oC,oS,oN,ah]) (by kernel_rfl) (fun _ _=>by kernel_rfl)
def as7 (F:Nat):Ev:=ev 12 [] (fun _=>[])
def KC (F:Nat) (p0:Int) (p1:Int) {β:Type} (k:Int->Option β):Option β:=
 (bif (p0 == (0:Int)) then (k (0:Int)) else ((BT (ag (p0 - (1:Int))) p1).bind fun x2=>(k (ag (x2 + (1:Int))))))
def HY (F:Nat) (p0:Int) (p1:Int):=KC F p0 p1 some
def ao0 (F:Nat):BN:=
 aq (E:=as7 F) st Tryz.func101 ai 0 [] [.i,.i] [] [.i] [] (fun x y (z:Int)=>((z,()),())) (fun x y _ k=>KC F x.1 x.2.1 k) (fun _ _ _ _=>by simp only [KC,oA,oC,oS,oN,ah]) (by kernel_rfl) (fun _ _=>by kernel_rfl)
def aef (F:Nat):Ev:=ev 6 [] (fun _=>[])
def Az (F:Nat) (p0:List UInt8) {β:Type} (k:Bool->Option β):Option β:=
 (k ((p0.length:Int) == (32:Int)))
def By (F:Nat) (p0:List UInt8):=Az F p0 some
def V2 (F:Nat):BN:=
 aq (E:=aef F) st Tryz.func139 ai 0 [] [.str] [] [.bo] [] (fun x y (z:Bool)=>((z,()),())) (fun x y _ k=>Az F x.1 k) (fun _ _ _ _=>by simp only [Az,oA,oC,oS,oN,ah]) (by kernel_rfl) (fun _ _=>by kernel_rfl)
def Yz (F:Nat):Ev:=ev 15 [V2 F] (fun _=>[])
def A7 (F:Nat) (y9:List Za) (bP:Int) (bw:Int) {β:Type} (kA:Int->Option β) (kO:Unit->Option β) (kR:Bool->Option β):Option β:=
 (bif (decide (bw < bP)) then ((ix y9 bw).bind fun fw=>((By F fw).bind fun eR=>(bif (!eR) then (kR false) else (kA (ag (bw + (1:Int))))))) else (kO ()))
def FF (F:Nat) (y9:List Za) (bP:Int) (bw:Int):Option ((Int) ⊕ ((Unit) ⊕ (Bool))):=A7 F y9 bP bw (fun s=>some (.inl s)) (fun z=>some (.inr (.inl z))) (fun z=>some (.inr (.inr z)))
def aqE (F:Nat):LB (Yz F) 0 Tryz.f140:=
 gH st ai [] [1,0,1] 0 [5,6,7] [(.ro .s),.i,.i] [] [] [] [] [2] [.bo] [] F (fun x y (s:Int)=>(x.1,x.2.1,s,())) (fun x y s=>()) (fun x y=>x.2.2.1) (fun x y (z:Unit)=>((),())) (fun x y (z:Bool)=>((z,()),())) (fun x y s _ kA kO kR=>A7 F x.1 x.2.1 s kA kO kR) (fun _ _ _ _ _ _ _=>by simp only [A7,oA,oC,oS,oN,aU,aT,ah]) (by kernel_rfl) (by kernel_rfl) (fun _ _ _=>by kernel_rfl)
def FZ (F:Nat) (p0:List Za) {β:Type} (k:Bool->Option β):Option β:=
 ((iter (fun s=>FF F p0 (p0.length:Int) s) F (0:Int)).bind fun cq=>bz (fun cq=>(k true)) (fun cq=>(k cq)) cq)
def PM (F:Nat) (p0:List Za):=FZ F p0 some
def aoM (F:Nat):BN:=
 aq (E:=Yz F) st Tryz.func140 ai 0 [aqE F] [(.ro .s)] [] [.bo] [] (fun x y (z:Bool)=>((z,()),())) (fun x y _ k=>FZ F x.1 k) (fun _ _ _ _=>by simp only [FZ,oA,oC,oS,oN,ah]) (by kernel_rfl) (fun _ _=>by kernel_rfl)
def Ce (F:Nat) (rc:(Za->Int->Int->Zd->Option (Za×Bool))) (p0:List UInt8) (p1:Int) (p2:Int) (p3:List Za) {β:Type} (k:(Za×Bool)->Option β):Option β:=
 (bif (p2 == (1:Int)) then (k (p0,((p3.length:Int) == (0:Int)))) else (bif ((p3.length:Int) == (0:Int)) then (k (([]:List UInt8),false)) else ((bk p3 (0:Int) (ag ((p3.length:Int) - (1:Int)))).bind fun x8=>((ix p3 (ag ((p3.length:Int) - (1:Int)))).bind fun x9=>((xW F p2).bind fun bg=>(bif (decide (p1 < bg)) then ((rc p0 p1 bg x8).bind fun dG=>((B0 F dG.1 x9).bind fun ca=>(k (ca,dG.2)))) else ((rc p0 (ag (p1 - bg)) (ag (p2 - bg)) x8).bind fun gz=>((B0 F x9 gz.1).bind fun fk=>(k (fk,gz.2))))))))))
def B5 (F:Nat) (rc:(Za->Int->Int->Zd->Option (Za×Bool))) (p0:List UInt8) (p1:Int) (p2:Int) (p3:List Za):=Ce F rc p0 p1 p2 p3 some
def rX (F:Nat):Nat->Za->Int->Int->Zd->Option (Za×Bool)
 | 0=>fun _ _ _ _=>none
 | g + 1=>B5 F (rX F g)
abbrev BM:List Sh:=[.str,.i,.i,(.ro .s)]
abbrev GC:List Sh:=[.str,.bo]
abbrev DC:List aK:=[]
abbrev GD:List aK:=[]
def zD (F g:Nat):Ct:=cu 0 BM DC GC GD (fun x y=>rX F g x.1 x.2.1 x.2.2.1 x.2.2.2.1) (fun x y (z:Za×Bool)=>((z.1,z.2,()),()))
def agL:Nat->List (Tag×Nat)
 | 5=>[(.p,0),(.p,1),(.p,2),(.p,3),(.p,4),(.p,5),(.p,6),(.p,7),(.p,8),(.p,9),(.r,10),(.p,11),(.p,12)]
 | _=>[]
def Gj (F g:Nat):Ev:=⟨cfg,70,dM [(80,(ql F).ct),(141,zD F g),(81,(yh F).ct)],agL,dM [],fun _=>none,fun _=>none,fun _=>none⟩
theorem aer (F g:Nat) (h:Sound Tryz.prog cfg 141 (zD F g)):bS Tryz.prog (Gj F g):=kD (l:=[(80,(ql F).ct),(141,zD F g),(81,(yh F).ct)]) (l':=[]) rfl rfl ⟨⟨(ql F).ok,_,Tryz.func80,rfl,rfl⟩,⟨⟨h,_,Tryz.func141,rfl,rfl⟩,⟨⟨(yh F).ok,_,Tryz.func81,rfl,rfl⟩,trivial⟩⟩⟩ trivial
def anU (F g:Nat):Ct:=cu 0 BM DC GC GD (fun x y=>B5 F (rX F g) x.1 x.2.1 x.2.2.1 x.2.2.2.1) (fun x y (z:Za×Bool)=>((z.1,z.2,()),()))
theorem ar8 (F g:Nat) (x:au BM) (y:ax DC):cj (Gj F g) 0 [] (cC Tryz.f141) [] (dN (b_ 4) BM DC x y) (tX (Gj F g) 0 Tryz.f141.results.toList GC GD fun p q=>some (p,q)) =
  Ce F (rX F g) x.1 x.2.1 x.2.2.1 x.2.2.2.1 (fun z=>some ((z.1,z.2,()),())):=by kernel_rfl
theorem atp (F g:Nat) (h:Sound Tryz.prog cfg 141 (zD F g)):Sound Tryz.prog cfg 141 (anU F g):=
 ov (E:=Gj F g) (lp:=[]) (code:=cC Tryz.f141) Tryz.func141 rfl Tryz.ntmps141 rfl rfl iY (aer F g h) mixed trivial (by kernel_rfl) (fun x y k=>Ce F (rX F g) x.1 x.2.1 x.2.2.1 x.2.2.2.1 k) (fun _ _ _=>by simp only [B5,Ce,oA,oC,oS,oN,ah]) (ar8 F g)
def NS (F:Nat) (p0:List UInt8) (p1:Int) (p2:Int) (p3:List Za):Option (Za×Bool):=rX F F p0 p1 p2 p3
def aa4 (F:Nat):Ct:=cu 0 BM DC GC GD (fun x y=>NS F x.1 x.2.1 x.2.2.1 x.2.2.2.1) (fun x y (z:Za×Bool)=>((z.1,z.2,()),()))
theorem YM (F:Nat):∀ g,Sound Tryz.prog cfg 141 (zD F g)
 | 0=>fun x y p q h=>absurd (show (none:Option _)=some (p,q) from h) (by simp)
 | g + 1=>atp F g (YM F g)
theorem apl (F:Nat):Sound Tryz.prog cfg 141 (aa4 F):=YM F F
def am1 (F:Nat):BN:=⟨141,aa4 F,apl F,_,Tryz.func141,rfl,rfl⟩
def akn (F:Nat):Ev:=ev 49 [V2 F,aoM F,am1 F] (fun _=>[])
def IK (F:Nat) (p0:List UInt8) (p1:Int) (p2:Int) (p3:List Za) (p4:List UInt8) {β:Type} (k:Bool->Option β):Option β:=
 (bif (decide (p1 < (0:Int))) then (k false) else (bif (decide (p2≤p1)) then (k false) else ((By F p0).bind fun z5=>(bif (!z5) then (k false) else ((By F p4).bind fun z6=>(bif (!z6) then (k false) else ((PM F p3).bind fun z7=>(bif (!z7) then (k false) else ((NS F p0 p1 p2 p3).bind fun z8=>(bif z8.2 then (k (z8.1 == p4)) else (k false)))))))))))
def Q8 (F:Nat) (p0:List UInt8) (p1:Int) (p2:Int) (p3:List Za) (p4:List UInt8):=IK F p0 p1 p2 p3 p4 some
def aoT (F:Nat):BN:=
 aq (E:=akn F) st Tryz.func102 ai 0 [] [.str,.i,.i,(.ro .s),.str] [] [.bo] [] (fun x y (z:Bool)=>((z,()),())) (fun x y _ k=>IK F x.1 x.2.1 x.2.2.1 x.2.2.2.1 x.2.2.2.2.1 k) (fun _ _ _ _=>by simp only [IK,oA,oC,oS,oN,ah]) (by kernel_rfl) (fun _ _=>by kernel_rfl)
def E55 (F:Nat):Ev:=ev 46 [ao0 F,VM F,abS F,aoT F] (fun _=>[])
def HO (F:Nat) (p0:List UInt8) (p1:Int) (p2:Int) (p3:Int) (p4:List UInt8) (p5:List Za) {β:Type} (k:Bool->Option β):Option β:=
 (bif (decide (p1 < (1:Int))) then (k false) else (bif (decide (p2 < (1:Int))) then (k false) else (bif (decide (p3 < (0:Int))) then (k false) else ((HY F p1 p2).bind fun z6=>(bif (decide (z6≤p3)) then (k false) else ((Hg F p1 p2 p3).bind fun z7=>(bif ((p4.length:Int) != z7) then (k false) else ((Jc F p4).bind fun z8=>((HY F p1 p2).bind fun z9=>((Q8 F z8 p3 z9 p5 p0).bind fun bg=>(k bg)))))))))))
def TX (F:Nat) (p0:List UInt8) (p1:Int) (p2:Int) (p3:Int) (p4:List UInt8) (p5:List Za):=HO F p0 p1 p2 p3 p4 p5 some
def amg (F:Nat):BN:=
 aq (E:=E55 F) st Tryz.func55 ai 0 [] [.str,.i,.i,.i,(.ro .u8),(.ro .s)] [] [.bo] [] (fun x y (z:Bool)=>((z,()),())) (fun x y _ k=>HO F x.1 x.2.1 x.2.2.1 x.2.2.2.1 x.2.2.2.2.1 x.2.2.2.2.2.1 k) (fun _ _ _ _=>by simp only [HO,oA,oC,oS,oN,ah]) (by kernel_rfl) (fun _ _=>by kernel_rfl)
def aka:Nat->List (Tag×Nat)
 | 2=>[(.p,0),(.r,1),(.p,2),(.p,3),(.p,4),(.p,5),(.r,6),(.w,7),(.p,8),(.p,9),(.p,10),(.p,11),(.p,12)]
 | 3=>[(.p,0),(.p,1),(.p,2),(.p,3),(.r,4),(.p,5),(.p,6),(.p,7),(.p,8),(.r,9),(.p,10),(.p,11)]
 | 7=>[(.p,0),(.p,1),(.p,2),(.p,3),(.r,4),(.p,5),(.p,6),(.p,7),(.p,8),(.p,9),(.r,10),(.p,11),(.r,12),(.p,13),(.p,14),(.p,15),(.p,16),(.r,17),(.p,18),(.p,19),(.r,20),(.p,21),(.r,22),(.w,23),(.p,24)]
 | 9=>[(.p,0),(.p,1),(.p,2),(.c,3),(.p,4),(.p,5),(.r,6),(.w,7),(.p,8),(.b,9)]
 | 10=>[(.p,0),(.p,1),(.p,2),(.c,3),(.p,4),(.p,5),(.r,6),(.w,7),(.p,8),(.b,9)]
 | _=>[]
def E16 (F:Nat):Ev:=ev 85 [V6 F,amg F,Pk F,we F] aka
def Lu (F:Nat) (p0:List UInt8) (p1:Int) (p2:Int) (p3:List UInt8) (p4:List Za) (p5:List UInt8) (p6:Int) (p7:Int) (p8:List Za) (p9:List Za) (jN:List Zd) {β:Type} (k:(Int×Zd×Zs)->Option β):Option β:=
 ((G6 F p2 p7).bind fun dG=>(bif (!dG.2) then (k ((1:Int),p9,jN)) else (bif (!(p0 == p5 && (p1 == p6 && true))) then (k ((1:Int),p9,jN)) else ((an p9.length dG.1).bind fun mq=>((p9[mq]?).bind fun i4=>(bif fA i4 then ((an p8.length p6).bind fun fw=>((p8[fw]?).bind fun ko=>((TX F ko p7 (512:Int) dG.1 p3 p4).bind fun cq=>(bif (!cq) then (k ((9:Int),p9,jN)) else ((Aq F p3).bind fun sU=>((an p9.length dG.1).bind fun m8=>(bif fA sU then none else ((qA F p4).bind fun Bv=>((an jN.length dG.1).bind fun Dq=>(k ((0:Int),(List.set p9 m8 sU),(List.set jN Dq Bv)))))))))))) else (k ((5:Int),p9,jN))))))))
def JS (F:Nat) (p0:List UInt8) (p1:Int) (p2:Int) (p3:List UInt8) (p4:List Za) (p5:List UInt8) (p6:Int) (p7:Int) (p8:List Za) (p9:List Za) (jN:List Zd):=Lu F p0 p1 p2 p3 p4 p5 p6 p7 p8 p9 jN some
def LN (F:Nat):BN:=
 aq (E:=E16 F) st Tryz.func16 ai 4 [] [(.pt 0 []),(.pr (.pr .str (.pr .i .un)) (.pr .i (.pr (.ro .u8) (.pr (.ro .s) .un))))] [.blk 91 Qd,.row 9 .s,.row 26 Qu,.row 27 (.sl .s)] [.i] [.blk 91 Qd,.row 9 .s,.row 26 Qu,.row 27 (.sl .s)] (fun x y (z:Int×Zd×Zs)=>((z.1,()),(((((y.1.1.1.1.1,y.1.1.1.1.2.1,()),y.1.1.1.2.1,(),()),(),(),()),()),y.2.1,z.2.1,z.2.2,()))) (fun x y _ k=>Lu F x.2.1.1.1 x.2.1.1.2.1 x.2.1.2.1 x.2.1.2.2.1 x.2.1.2.2.2.1 y.1.1.1.1.1 y.1.1.1.1.2.1 y.1.1.1.2.1 y.2.1 y.2.2.1 y.2.2.2.1 k) (fun _ _ _ _=>by simp only [Lu,oA,oC,oS,oN,ah]) (by kernel_rfl) (fun _ _=>by kernel_rfl)
def af2:Nat->List (Tag×Nat)
 | 8=>[(.p,0),(.p,1),(.p,2),(.r,3),(.p,4),(.p,5),(.p,6),(.p,7),(.p,8),(.p,9),(.c,10),(.p,11),(.w,12),(.p,13),(.p,14),(.p,15)]
 | 9=>[(.p,0),(.p,1),(.p,2),(.c,3),(.p,4),(.w,5),(.p,6),(.p,7)]
 | 11=>[(.p,0),(.p,1),(.p,2),(.p,3),(.p,4),(.p,5),(.p,6),(.p,7),(.p,8),(.p,9),(.p,10),(.p,11),(.p,12)]
 | 12=>[(.p,0),(.p,1),(.p,2),(.p,3),(.r,4),(.p,5),(.p,6),(.p,7),(.w,8),(.p,9),(.p,10),(.w,11)]
 | 13=>[(.p,0),(.p,1),(.p,2),(.p,3),(.r,4),(.p,5),(.p,6),(.p,7),(.w,8),(.p,9),(.p,10),(.w,11)]
 | _=>[]
def YJ (F:Nat):Ev:=ev 90 [Le F,yt F,PK F] af2
def wj (F:Nat) (lG:Int) (pZ:Bool) (rS:Int) (mJ:Int) (Gs:Bool) (RQ:List UInt8) (lI:List UInt8) (tH:List UInt8) (tT:List UInt8) {β:Type} (kO:Zj->Option β):Option β:=
 (bif pZ then ((tc F ((#v[(RQ,lI,()),(tH,tT,())]:Vector Zl 2),rS,mJ,Gs,())).bind fun HC=>(kO ((ag (mJ - HC)),true))) else (kO (lG,Gs)))
def CE (F:Nat) (lG:Int) (pZ:Bool) (rS:Int) (mJ:Int) (Gs:Bool) (RQ:List UInt8) (lI:List UInt8) (tH:List UInt8) (tT:List UInt8):Option Zj:=wj F lG pZ rS mJ Gs RQ lI tH tT (fun z=>some z)
def arM (F:Nat):LB (YJ F) 1 Tryz.f45:=
 SI st ai [] [1,0,1,1,1,1,1] [0,1,2,8,40] [(.pt 0 []),.i,(.ro .u8),.i,.bo] [.blk 96 Qg,.row 5 .u8,.row 5 .u8,.row 5 .u8,.row 5 .u8] [0,1,2,8] [(.pt 0 []),.i,(.ro .u8),.i] [.blk 96 Qg,.row 5 .u8,.row 5 .u8,.row 5 .u8,.row 5 .u8] (fun x y (z:Int×Bool)=>(((),x.2.1,x.2.2.1,z.1,()),(((((),(),()),((),(),()),()),y.1.2.1,y.1.2.2.1,z.2,()),y.2.1,y.2.2.1,y.2.2.2.1,y.2.2.2.2.1,()))) (fun x y _ kO=>wj F x.2.2.2.1 x.2.2.2.2.1 y.1.2.1 y.1.2.2.1 y.1.2.2.2.1 y.2.1 y.2.2.1 y.2.2.2.1 y.2.2.2.2.1 kO) (fun _ _ _ _=>by simp only [wj,oA,oC,oS,oN,aU,aT,ah]) (by kernel_rfl) (fun _ _=>by kernel_rfl)
def vv (F:Nat) (p0:Int) (p1:List UInt8) (p2:Int) (p3:Int) (p4:Bool) (p5:List UInt8) (p6:List UInt8) (p7:List UInt8) (p8:List UInt8) {β:Type} (k:(Int×Int×Bool×Za×Za×Za×Za)->Option β):Option β:=
 ((vQ F p0).bind fun TS=>(bif (!TS) then (k ((0:Int),(1:Int),p4,p5,p6,p7,p8)) else (bif p4 then (k ((0:Int),(15:Int),p4,p5,p6,p7,p8)) else ((sX F ((#v[(p5,p6,()),(p7,p8,())]:Vector Zl 2),p2,p3,p4,())).bind fun lQ=>(bif (decide (lQ < (p1.length:Int))) then (k ((0:Int),(7:Int),p4,p5,p6,p7,p8)) else (bif (decide ((0:Int)≤p3)) then ((tc F ((#v[(p5,p6,()),(p7,p8,())]:Vector Zl 2),p2,p3,p4,())).bind fun nX=>((CE F (p1.length:Int) (decide ((ag (p3 - nX)) < (p1.length:Int))) p2 p3 p4 p5 p6 p7 p8).bind fun eE=>(bif (p0 == (1:Int)) then (bif ((ag ((1:Int) - p0)) == (1:Int)) then ((bk p1 (0:Int) eE.1).bind fun Ka=>((aD p7 Ka).bind fun LZ=>((bk p1 (0:Int) eE.1).bind fun He=>((aD p8 He).bind fun HH=>(bif eE.2 then (k (eE.1,(15:Int),eE.2,p5,p6,LZ,HH)) else (k (eE.1,(0:Int),eE.2,p5,p6,LZ,HH))))))) else (bif ((ag ((1:Int) - p0)) == (0:Int)) then ((bk p1 (0:Int) eE.1).bind fun L7=>((aD p7 L7).bind fun LA=>((bk p1 (0:Int) eE.1).bind fun q_=>((aD p6 q_).bind fun wh=>(bif eE.2 then (k (eE.1,(15:Int),eE.2,p5,wh,LA,p8)) else (k (eE.1,(0:Int),eE.2,p5,wh,LA,p8))))))) else none)) else (bif (p0 == (0:Int)) then (bif ((ag ((1:Int) - p0)) == (1:Int)) then ((bk p1 (0:Int) eE.1).bind fun NA=>((aD p5 NA).bind fun vG=>((bk p1 (0:Int) eE.1).bind fun Ob=>((aD p8 Ob).bind fun sV=>(bif eE.2 then (k (eE.1,(15:Int),eE.2,vG,p6,p7,sV)) else (k (eE.1,(0:Int),eE.2,vG,p6,p7,sV))))))) else (bif ((ag ((1:Int) - p0)) == (0:Int)) then ((bk p1 (0:Int) eE.1).bind fun C0=>((aD p5 C0).bind fun A3=>((bk p1 (0:Int) eE.1).bind fun Cw=>((aD p6 Cw).bind fun DQ=>(bif eE.2 then (k (eE.1,(15:Int),eE.2,A3,DQ,p7,p8)) else (k (eE.1,(0:Int),eE.2,A3,DQ,p7,p8))))))) else none)) else none)))) else ((CE F (p1.length:Int) false p2 p3 p4 p5 p6 p7 p8).bind fun ew=>(bif (p0 == (1:Int)) then (bif ((ag ((1:Int) - p0)) == (1:Int)) then ((bk p1 (0:Int) ew.1).bind fun x97=>((aD p7 x97).bind fun Vv=>((bk p1 (0:Int) ew.1).bind fun x99=>((aD p8 x99).bind fun abV=>(bif ew.2 then (k (ew.1,(15:Int),ew.2,p5,p6,Vv,abV)) else (k (ew.1,(0:Int),ew.2,p5,p6,Vv,abV))))))) else (bif ((ag ((1:Int) - p0)) == (0:Int)) then ((bk p1 (0:Int) ew.1).bind fun x93=>((aD p7 x93).bind fun Vq=>((bk p1 (0:Int) ew.1).bind fun x95=>((aD p6 x95).bind fun Wo=>(bif ew.2 then (k (ew.1,(15:Int),ew.2,p5,Wo,Vq,p8)) else (k (ew.1,(0:Int),ew.2,p5,Wo,Vq,p8))))))) else none)) else (bif (p0 == (0:Int)) then (bif ((ag ((1:Int) - p0)) == (1:Int)) then ((bk p1 (0:Int) ew.1).bind fun CL=>((aD p5 CL).bind fun zN=>((bk p1 (0:Int) ew.1).bind fun MX=>((aD p8 MX).bind fun Av=>(bif ew.2 then (k (ew.1,(15:Int),ew.2,zN,p6,p7,Av)) else (k (ew.1,(0:Int),ew.2,zN,p6,p7,Av))))))) else (bif ((ag ((1:Int) - p0)) == (0:Int)) then ((bk p1 (0:Int) ew.1).bind fun SO=>((aD p5 SO).bind fun ux=>((bk p1 (0:Int) ew.1).bind fun P6=>((aD p6 P6).bind fun A8=>(bif ew.2 then (k (ew.1,(15:Int),ew.2,ux,A8,p7,p8)) else (k (ew.1,(0:Int),ew.2,ux,A8,p7,p8))))))) else none)) else none)))))))))
def ze (F:Nat) (p0:Int) (p1:List UInt8) (p2:Int) (p3:Int) (p4:Bool) (p5:List UInt8) (p6:List UInt8) (p7:List UInt8) (p8:List UInt8):=vv F p0 p1 p2 p3 p4 p5 p6 p7 p8 some
def ahs (F:Nat):BN:=
 aq (E:=YJ F) st Tryz.func45 ai 1 [arM F] [(.pt 0 []),.i,(.ro .u8)] [.blk 96 Qg,.row 5 .u8,.row 5 .u8,.row 5 .u8,.row 5 .u8] [.i,.i] [.blk 96 Qg,.row 5 .u8,.row 5 .u8,.row 5 .u8,.row 5 .u8] (fun x y (z:Int×Int×Bool×Za×Za×Za×Za)=>((z.1,z.2.1,()),(((((),(),()),((),(),()),()),y.1.2.1,y.1.2.2.1,z.2.2.1,()),z.2.2.2.1,z.2.2.2.2.1,z.2.2.2.2.2.1,z.2.2.2.2.2.2,()))) (fun x y _ k=>vv F x.2.1 x.2.2.1 y.1.2.1 y.1.2.2.1 y.1.2.2.2.1 y.2.1 y.2.2.1 y.2.2.2.1 y.2.2.2.2.1 k) (fun _ _ _ _=>by simp only [vv,oA,oC,oS,oN,ah]) (by kernel_rfl) (fun _ _=>by kernel_rfl)
def ak0 (F:Nat):Ev:=ev 27 [] (fun _=>[])
def F3 (F:Nat) (p0:List UInt8) (p1:Int) (p2:List UInt8) {β:Type} (k:Zm->Option β):Option β:=
 (bif (decide ((0:Int) < p1)) then (k ((ag (p1 + (p0.length:Int))),p2)) else ((aD p2 p0).bind fun x2=>(k (p1,x2))))
def Nv (F:Nat) (p0:List UInt8) (p1:Int) (p2:List UInt8):=F3 F p0 p1 p2 some
def alM (F:Nat):BN:=
 aq (E:=ak0 F) st Tryz.func47 ai 1 [] [(.pt 0 []),(.ro .u8)] [.blk 100 Qs,.row 5 .u8] [] [.blk 100 Qs,.row 5 .u8] (fun x y (z:Int×Za)=>((),(((),z.1,((),()),()),z.2,()))) (fun x y _ k=>F3 F x.2.1 y.1.2.1 y.2.1 k) (fun _ _ _ _=>by simp only [F3,oA,oC,oS,oN,ah]) (by kernel_rfl) (fun _ _=>by kernel_rfl)
def apd (F:Nat):Ev:=ev 59 [Uc F,ahs F,Yl F,alM F,abb F] (fun _=>[])
def xu (F:Nat) (p0:Int) (p1:List UInt8) (p2:Int) (p3:Int) (p4:Bool) (p5:Int) (p6:List UInt8) (p7:List UInt8) (p8:List UInt8) (p9:List UInt8) (jN:List UInt8) {β:Type} (k:(Int×Za×Bool×Bool×Bool×Int×Za×Za×Za×Za×Za)->Option β):Option β:=
 ((Lo F p0 p1).bind fun z6=>(bif (z6.1 != (0:Int)) then (k ((0:Int),([]:List UInt8),false,false,p4,p5,p6,p7,p8,p9,jN)) else ((ze F (0:Int) z6.2 p2 p3 p4 p6 p7 p8 p9).bind fun z7=>((Kq F (1:Int) z7.2.2.2.2.1 z7.2.2.2.2.2.2).bind fun z8=>(bif (z8.1 != (0:Int)) then (k ((0:Int),([]:List UInt8),false,false,z7.2.2.1,p5,z7.2.2.2.1,z8.2.2.1,z7.2.2.2.2.2.1,z8.2.2.2,jN)) else ((Nv F z8.2.1 p5 jN).bind fun z9=>((uO F z9.2).bind fun bg=>(bif (bg.2.2.2.1 == (0:Int)) then (k (bg.1,bg.2.1,bg.2.2.1,(bg.2.2.1 == (z7.2.1 == (0:Int))),z7.2.2.1,z9.1,z7.2.2.2.1,z8.2.2.1,z7.2.2.2.2.2.1,z8.2.2.2,bg.2.2.2.2)) else (k (bg.1,bg.2.1,bg.2.2.1,false,z7.2.2.1,z9.1,z7.2.2.2.1,z8.2.2.1,z7.2.2.2.2.2.1,z8.2.2.2,bg.2.2.2.2))))))))))
def wm (F:Nat) (p0:Int) (p1:List UInt8) (p2:Int) (p3:Int) (p4:Bool) (p5:Int) (p6:List UInt8) (p7:List UInt8) (p8:List UInt8) (p9:List UInt8) (jN:List UInt8):=xu F p0 p1 p2 p3 p4 p5 p6 p7 p8 p9 jN some
def PT (F:Nat):BN:=
 aq (E:=apd F) st Tryz.func14 ai 2 [] [(.pt 0 []),(.pt 1 []),(.pr .i (.pr (.ro .u8) .un))] [.blk 96 Qk,.blk 100 (.pr (.rw 6) (.pr .i (.pr (.fn 37 .un .un) .un))),.row 5 .u8,.row 5 .u8,.row 5 .u8,.row 5 .u8,.row 5 .u8] [(.pr .i (.pr (.ro .u8) .un)),.bo,.bo] [.blk 96 Qk,.blk 100 (.pr (.rw 6) (.pr .i (.pr (.fn 37 .un .un) .un))),.row 5 .u8,.row 5 .u8,.row 5 .u8,.row 5 .u8,.row 5 .u8] (fun x y (z:Int×Za×Bool×Bool×Bool×Int×Za×Za×Za×Za×Za)=>(((z.1,z.2.1,()),z.2.2.1,z.2.2.2.1,()),(((((),(),()),((),(),()),()),y.1.2.1,y.1.2.2.1,z.2.2.2.2.1,()),((),z.2.2.2.2.2.1,((),()),()),z.2.2.2.2.2.2.1,z.2.2.2.2.2.2.2.1,z.2.2.2.2.2.2.2.2.1,z.2.2.2.2.2.2.2.2.2.1,z.2.2.2.2.2.2.2.2.2.2,()))) (fun x y _ k=>xu F x.2.2.1.1 x.2.2.1.2.1 y.1.2.1 y.1.2.2.1 y.1.2.2.2.1 y.2.1.2.1 y.2.2.1 y.2.2.2.1 y.2.2.2.2.1 y.2.2.2.2.2.1 y.2.2.2.2.2.2.1 k) (fun _ _ _ _=>by simp only [xu,oA,oC,oS,oN,ah]) (by kernel_rfl) (fun _ _=>by kernel_rfl)
def E17 (F:Nat):Ev:=ev 16 [Le F] (fun _=>[])
def Jt (F:Nat) (p0:(Vector Zl 2)×Int×Int×Bool×Unit) (p1:Int) {β:Type} (k:Int->Option β):Option β:=
 ((vQ F p1).bind fun z3=>(bif (!z3) then (k (0:Int)) else ((dc p0.1 p1).bind fun x4=>(k (x4.1.length:Int)))))
def wv (F:Nat) (p0:(Vector Zl 2)×Int×Int×Bool×Unit) (p1:Int):=Jt F p0 p1 some
def TF (F:Nat):BN:=
 aq (E:=E17 F) st Tryz.func17 ai 0 [] [(.re (.pr (.ar 2 (.pr (.sl .u8) (.pr (.sl .u8) .un))) (.pr .i (.pr .i (.pr .bo .un))))),.i] [] [.i] [] (fun x y (z:Int)=>((z,()),())) (fun x y _ k=>Jt F x.1 x.2.1 k) (fun _ _ _ _=>by simp only [Jt,oA,oC,oS,oN,ah]) (by kernel_rfl) (fun _ _=>by kernel_rfl)
def afe (F:Nat):Ev:=ev 32 [Vp F,NZ F,Uu F] (fun _=>[])
def KF (F:Nat) (p0:Zw×Int×Zd×Unit) (p1:Int) {β:Type} (k:Zm->Option β):Option β:=
 ((Jf F p0.1.1 p1).bind fun z5=>((u7 F (UInt64.ofInt p0.1.2.1) z5.1 z5.2).bind fun z6=>((u7 F (UInt64.ofInt p0.2.1) z5.1 z6).bind fun z7=>((FL F p0.2.2.1 z5.1 z7).bind fun z8=>(k (z8.1,z8.2))))))
def Wj (F:Nat) (p0:Zw×Int×Zd×Unit) (p1:Int):=KF F p0 p1 some
def akN (F:Nat):BN:=
 aq (E:=afe F) st Tryz.func107 ai 1 [] [(.re (.pr (.pr .s (.pr .i .un)) (.pr .i (.pr (.sl .s) .un)))),(.pt 0 [])] [.blk 168 (.pr .ns (.pr .i .un))] [] [.blk 168 Ql,.row 5 .u8] (fun x y (z:Int×Za)=>((),(((),z.1,()),z.2,()))) (fun x y _ k=>KF F x.1 y.1.2.1 k) (fun _ _ _ _=>by simp only [KF,oA,oC,oS,oN,ah]) (by kernel_rfl) (fun _ _=>by kernel_rfl)
def E61 (F:Nat):Ev:=ev 14 [VP F,Nb F,akN F,Tp F] (fun _=>[])
def Jk (F:Nat) (p0:List UInt8) (p1:Int) (p2:Int) (p3:List Za) {β:Type} (k:Zm->Option β):Option β:=
 ((Je F ((p0,p1,()),p2,p3,())).bind fun z5=>(bif (!z5) then (k ((1:Int),([]:List UInt8))) else ((xR F).bind fun z6=>((Wj F ((p0,p1,()),p2,p3,()) z6).bind fun z7=>((z_ F z7.1 z7.2).bind fun z8=>(k (z8.1,z8.2)))))))
def TC (F:Nat) (p0:List UInt8) (p1:Int) (p2:Int) (p3:List Za):=Jk F p0 p1 p2 p3 some
def ad5 (F:Nat):BN:=
 aq (E:=E61 F) st Tryz.func61 ai 0 [] [(.pr (.pr .str (.pr .i .un)) (.pr .i (.pr (.ro .s) .un)))] [] [(.rw 0),.i] [.row 5 .u8] (fun x y (z:Int×Za)=>(((),z.1,()),(z.2,()))) (fun x y _ k=>Jk F x.1.1.1 x.1.1.2.1 x.1.2.1 x.1.2.2.1 k) (fun _ _ _ _=>by simp only [Jk,oA,oC,oS,oN,ah]) (by kernel_rfl) (fun _ _=>by kernel_rfl)
def amY (F:Nat):Ev:=ev 22 [Gl F] (fun _=>[])
def IY (F:Nat) (p0:List UInt8) (p1:Int) {β:Type} (k:(Za)->Option β):Option β:=
 (bif (p1 == (0:Int)) then ((t5 F (UInt64.ofInt (p0.length:Int)) ([]:List UInt8)).bind fun z3=>((aD z3 p0).bind fun x4=>(k x4))) else (k ([]:List UInt8)))
def No (F:Nat) (p0:List UInt8) (p1:Int):=IY F p0 p1 some
def apg (F:Nat):BN:=
 aq (E:=amY F) st Tryz.func62 ai 1 [] [(.pt 0 []),(.ro .u8)] [.blk 168 (.pr .ns (.pr .i .un))] [] [.blk 168 Ql,.row 5 .u8] (fun x y (z:Za)=>((),(((),y.1.2.1,()),z,()))) (fun x y _ k=>IY F x.2.1 y.1.2.1 k) (fun _ _ _ _=>by simp only [IY,oA,oC,oS,oN,ah]) (by kernel_rfl) (fun _ _=>by kernel_rfl)
def ar4:Nat->List (Tag×Nat)
 | 5=>[(.p,0),(.p,1),(.p,2),(.p,3),(.c,4),(.p,5),(.p,6),(.w,7),(.p,8),(.p,9),(.b,10)]
 | 10=>[(.p,0),(.p,1),(.p,2),(.p,3),(.r,4),(.p,5),(.p,6),(.p,7),(.p,8),(.p,9),(.p,10),(.r,11),(.p,12),(.p,13),(.r,14),(.p,15),(.w,16),(.p,17),(.p,18),(.p,19),(.p,20),(.p,21)]
 | _=>[]
def E20 (F:Nat):Ev:=ev 81 [ad5 F,Nb F,apg F,Is F,ZZ F,FY F,aci F,Tp F] ar4
def yq (F:Nat) (iC:Int) (gY:List UInt8) (eS:Int) (gv:List Za) (i_:List Zd) (fV:Int) (iZ:Int) (nw:List UInt8) {β:Type} (kA:Zm->Option β) (kO:(Za)->Option β):Option β:=
 (bif (decide (iZ < iC)) then ((an gv.length iZ).bind fun CU=>((gv[CU]?).bind fun vO=>(bif fA vO then (kA ((ag (iZ + (1:Int))),nw)) else ((an i_.length iZ).bind fun BW=>((i_[BW]?).bind fun lO=>((HT F gY eS (ag (iZ * (512:Int))) vO lO).bind fun CN=>((KP F CN.2 fV nw).bind fun PJ=>(kA ((ag (iZ + (1:Int))),PJ))))))))) else (kO nw))
def AX (F:Nat) (iC:Int) (gY:List UInt8) (eS:Int) (gv:List Za) (i_:List Zd) (fV:Int) (iZ:Int) (nw:List UInt8):=yq F iC gY eS gv i_ fV iZ nw (fun s=>some (Sum.inl s)) (fun z=>some (Sum.inr z))
def agc (F:Nat):LB (E20 F) 4 Tryz.f20:=
 bH st ai [] [1,0,1,1,1,1,1,1] 0 [3,6,42,43,44] [(.pt 0 [0]),(.pt 4 []),(.rw 2),.i,.i] [.blk 91 Qd,.row 9 .s,.row 26 Qu,.row 27 (.sl .s),.blk 168 (.pr (.rw 5) (.pr .i .un)),.row 5 .u8] [6] [(.pt 4 [])] [.blk 91 Qd,.row 9 .s,.row 26 Qu,.row 27 (.sl .s),.blk 168 (.pr (.rw 5) (.pr .i .un)),.row 5 .u8] F (fun x y (s:Int×Za)=>((),(),(),x.2.2.2.1,s.1,())) (fun x y s=>(((((y.1.1.1.1.1,y.1.1.1.1.2.1,()),y.1.1.1.2.1,(),()),(),(),()),()),y.2.1,y.2.2.1,y.2.2.2.1,((),y.2.2.2.2.1.2.1,()),s.2,())) (fun x y=>(x.2.2.2.2.1,y.2.2.2.2.2.1)) (fun x y (z:Za)=>(((),()),(((((y.1.1.1.1.1,y.1.1.1.1.2.1,()),y.1.1.1.2.1,(),()),(),(),()),()),y.2.1,y.2.2.1,y.2.2.2.1,((),y.2.2.2.2.1.2.1,()),z,()))) (fun x y s _ kA kO=>yq F x.2.2.2.1 y.1.1.1.1.1 y.1.1.1.1.2.1 y.2.2.1 y.2.2.2.1 y.2.2.2.2.1.2.1 s.1 s.2 kA kO) (fun _ _ _ _ _ _=>by simp only [yq,oA,oC,oS,oN,aU,aT,ah]) (by kernel_rfl) (by kernel_rfl) (fun _ _ _=>by kernel_rfl)
def Im (F:Nat) (p0:List UInt8) (p1:Int) (p2:Int) (p3:List Za) (p4:List Za) (p5:List Zd) {β:Type} (k:(Za)->Option β):Option β:=
 ((TC F p0 p1 p2 p3).bind fun lU=>((xR F).bind fun pI=>((No F lU.2 pI).bind fun k8=>((Fv F ((((p0,p1,()),p2,p3,()),p4,p5,()),())).bind fun zW=>((Ju F (ag ((p4.length:Int) - (zW.length:Int))) pI k8).bind fun t6=>((iter (fun s=>AX F (p4.length:Int) p0 p1 p4 p5 t6.1 s.1 s.2) F ((0:Int),t6.2)).bind fun uc=>((z_ F t6.1 uc).bind fun tQ=>(k tQ.2))))))))
def Fk (F:Nat) (p0:List UInt8) (p1:Int) (p2:Int) (p3:List Za) (p4:List Za) (p5:List Zd):=Im F p0 p1 p2 p3 p4 p5 some
def PF (F:Nat):BN:=
 aq (E:=E20 F) st Tryz.func20 ai 4 [agc F] [(.pt 0 [])] [.blk 91 Qd,.row 9 .s,.row 26 Qu,.row 27 (.sl .s)] [(.rw 4)] [.blk 91 Qd,.row 9 .s,.row 26 Qu,.row 27 (.sl .s),.row 5 .u8] (fun x y (z:Za)=>(((),()),(((((y.1.1.1.1.1,y.1.1.1.1.2.1,()),y.1.1.1.2.1,(),()),(),(),()),()),y.2.1,y.2.2.1,y.2.2.2.1,z,()))) (fun x y _ k=>Im F y.1.1.1.1.1 y.1.1.1.1.2.1 y.1.1.1.2.1 y.2.1 y.2.2.1 y.2.2.2.1 k) (fun _ _ _ _=>by simp only [Im,oA,oC,oS,oN,ah]) (by kernel_rfl) (fun _ _=>by kernel_rfl)
def akC:Nat->List (Tag×Nat)
 | 1=>[(.p,0),(.p,1),(.p,2),(.r,3),(.p,4),(.p,5),(.p,6),(.p,7),(.r,8),(.p,9),(.p,10)]
 | _=>[]
def E59 (F:Nat):Ev:=ev 13 [] akC
def D0 (F:Nat) (p0:Int) (p3:List UInt8) {β:Type} (k:Int->Option β):Option β:=
 (k (ag ((p3.length:Int) - p0)))
def D4 (F:Nat) (p0:Int) (p3:List UInt8):=D0 F p0 p3 some
def amI (F:Nat):BN:=
 aq (E:=E59 F) st Tryz.func59 ai 2 [] [(.pt 0 [])] [.blk 176 Qc,.row 5 .u8] [.i] [.blk 176 Qc,.row 5 .u8] (fun x y (z:Int)=>((z,()),(((),y.1.2.1,y.1.2.2.1,y.1.2.2.2.1,()),y.2.1,()))) (fun x y _ k=>D0 F y.1.2.1 y.2.1 k) (fun _ _ _ _=>by simp only [D0,oA,oC,oS,oN,ah]) (by kernel_rfl) (fun _ _=>by kernel_rfl)
def asx (F:Nat):Ev:=ev 44 [Gv F,F6 F] (fun _=>[])
def EG (F:Nat) (p0:List UInt8) (p1:Int) (p2:Int) (p3:List Za) {β:Type} (k:Bool->Option β):Option β:=
 (bif (decide ((1:Int)≤(p3.length:Int))) then (bif (decide ((p3.length:Int)≤(16:Int))) then ((yj F p3).bind fun z3=>(bif z3 then ((xq F p0 p1 (p3.length:Int)).bind fun z4=>(bif z4 then (bif (decide ((1:Int)≤p2)) then (k (decide (p2≤(65536:Int)))) else (k false)) else (k false))) else (k false))) else (k false)) else (k false))
def Rh (F:Nat) (p0:List UInt8) (p1:Int) (p2:Int) (p3:List Za):=EG F p0 p1 p2 p3 some
def al5 (F:Nat):BN:=
 aq (E:=asx F) st Tryz.func33 ai 2 [] [(.pt 0 [])] [.blk 40 (.pr (.pr .str (.pr .i .un)) (.pr .i (.pr (.rw 1) .un))),.row 9 .s] [.bo] [.blk 40 (.pr (.pr .str (.pr .i .un)) (.pr .i (.pr (.rw 1) .un))),.row 9 .s] (fun x y (z:Bool)=>((z,()),(((y.1.1.1,y.1.1.2.1,()),y.1.2.1,(),()),y.2.1,()))) (fun x y _ k=>EG F y.1.1.1 y.1.1.2.1 y.1.2.1 y.2.1 k) (fun _ _ _ _=>by simp only [EG,oA,oC,oS,oN,ah]) (by kernel_rfl) (fun _ _=>by kernel_rfl)
def E58 (F:Nat):Ev:=ev 37 [QU F,Tq F,Y0 F,ab1 F,Pd F,al5 F] (fun _=>[])
def Ll (F:Nat) (p0:List UInt8) {β:Type} (k:(Za×Int×Int×Zd×Int)->Option β):Option β:=
 ((A4 F p0).bind fun z8=>((Bw F z8.1 z8.2.1 z8.2.2.1 z8.2.2.2).bind fun z9=>((wi F (15:Int) z9.2.1 z9.2.2.1 z9.2.2.2 z8.2.2.2).bind fun bg=>((wi F (65536:Int) bg.2.1 bg.2.2.1 bg.2.2.2 z8.2.2.2).bind fun dG=>((Iq F (16:Int) dG.2.1 dG.2.2.1 dG.2.2.2 z8.2.2.2).bind fun ca=>((zO F ca.1 ca.2.2.1 z8.2.2.2).bind fun gz=>(bif (gz != (0:Int)) then (k (([]:List UInt8),(0:Int),(0:Int),([]:List Za),(3:Int))) else ((Rh F z9.1 bg.1 dG.1 ca.2.2.2).bind fun fk=>(bif (!fk) then (k (([]:List UInt8),(0:Int),(0:Int),([]:List Za),(3:Int))) else (k (z9.1,bg.1,dG.1,ca.2.2.2,(0:Int))))))))))))
def MM (F:Nat) (p0:List UInt8):=Ll F p0 some
def ar5 (F:Nat):BN:=
 aq (E:=E58 F) st Tryz.func58 ai 0 [] [(.ro .u8)] [] [(.pr (.pr .str (.pr .i .un)) (.pr .i (.pr (.ro .s) .un))),.i] [] (fun x y (z:Za×Int×Int×Zd×Int)=>((((z.1,z.2.1,()),z.2.2.1,z.2.2.2.1,()),z.2.2.2.2,()),())) (fun x y _ k=>Ll F x.1 k) (fun _ _ _ _=>by simp only [Ll,oA,oC,oS,oN,ah]) (by kernel_rfl) (fun _ _=>by kernel_rfl)
def ant:Nat->List (Tag×Nat)
 | 29=>[(.p,0),(.p,1),(.p,2),(.p,3),(.p,4),(.r,5),(.p,6),(.p,7),(.p,8),(.p,9),(.r,10),(.p,11)]
 | _=>[]
def GP (F:Nat):Ev:=ev 97 [QU F,amI F,U3 F,ar5 F,ZA F,Fb F,Pd F,HM F,LN F] ant
def DV (F:Nat) (qQ:Int) (gI:List UInt8) (oV:Int) (mI:Int) (qJ:Int) (rK:Int) (qY:List Zg) {β:Type} (kA:(Int×Int×Int×Int×(List Zg))->Option β) (kO:(Int×Int×Int×(List Zg))->Option β) (kR:Int->Option β):Option β:=
 (bif (decide (oV < qQ)) then ((D4 F mI gI).bind fun S8=>((DF F S8 mI qJ rK gI).bind fun FM=>((Ht F FM.1).bind fun jz=>(bif (jz.2.2.2.2.2 != (0:Int)) then (kR (3:Int)) else ((aD qY ([((jz.1,jz.2.1,()),jz.2.2.1,jz.2.2.2.1,jz.2.2.2.2.1,())]:List Zg)).bind fun Rp=>(kA ((ag (oV + (1:Int))),FM.2.1,FM.2.2.1,FM.2.2.2,Rp))))))) else (kO (mI,qJ,rK,qY)))
def zq (F:Nat) (qQ:Int) (gI:List UInt8) (oV:Int) (mI:Int) (qJ:Int) (rK:Int) (qY:List Zg):Option ((Int×Int×Int×Int×(List Zg)) ⊕ ((Int×Int×Int×(List Zg)) ⊕ (Int))):=DV F qQ gI oV mI qJ rK qY (fun s=>some (.inl s)) (fun z=>some (.inr (.inl z))) (fun z=>some (.inr (.inr z)))
def aoV (F:Nat):LB (GP F) 0 Tryz.f19:=
 gH st ai [] [1,0,1,1,1,1,1] 0 [4,5,7,32,33] [(.pt 0 []),(.pt 1 []),(.rw 2),.i,.i] [.blk 176 Qi,.blk 40 (.pr (.pr .str (.pr .i .un)) (.pr .i (.pr (.ro .s) .un))),.row 50 Qt,.row 5 .u8] [4,5,7] [(.pt 0 []),(.pt 1 []),(.rw 2)] [.blk 176 Qi,.blk 40 (.pr (.pr .str (.pr .i .un)) (.pr .i (.pr (.ro .s) .un))),.row 50 Qt,.row 5 .u8] [2,3] [.np,.i] [] F (fun x y (s:Int×Int×Int×Int×(List Zg))=>((),(),(),x.2.2.2.1,s.1,())) (fun x y s=>(((),s.2.1,s.2.2.1,s.2.2.2.1,()),((y.2.1.1.1,y.2.1.1.2.1,()),y.2.1.2.1,y.2.1.2.2.1,()),s.2.2.2.2,y.2.2.2.1,())) (fun x y=>(x.2.2.2.2.1,y.1.2.1,y.1.2.2.1,y.1.2.2.2.1,y.2.2.1)) (fun x y (z:Int×Int×Int×(List Zg))=>(((),(),(),()),(((),z.1,z.2.1,z.2.2.1,()),((y.2.1.1.1,y.2.1.1.2.1,()),y.2.1.2.1,y.2.1.2.2.1,()),z.2.2.2,y.2.2.2.1,()))) (fun x y (z:Int)=>(((),z,()),())) (fun x y s _ kA kO kR=>DV F x.2.2.2.1 y.2.2.2.1 s.1 s.2.1 s.2.2.1 s.2.2.2.1 s.2.2.2.2 kA kO kR) (fun _ _ _ _ _ _ _=>by simp only [DV,oA,oC,oS,oN,aU,aT,ah]) (by kernel_rfl) (by kernel_rfl) (fun _ _ _=>by kernel_rfl)
def zT (F:Nat) (rT:Int) (o8:List Zg) (uN:List UInt8) (OR:Int) (N9:Int) (uG:List Za) (jd:Int) (o7:List Za) (mN:List Zd) {β:Type} (kA:(Int×Zd×Zs)->Option β) (kO:(Zd×Zs)->Option β) (kR:Int->Option β):Option β:=
 (bif (decide (jd < rT)) then ((an o8.length jd).bind fun D8=>((o8[D8]?).bind fun jS=>((JS F jS.1.1 jS.1.2.1 jS.2.1 jS.2.2.1 jS.2.2.2.1 uN OR N9 uG o7 mN).bind fun Gp=>(bif (Gp.1 != (0:Int)) then (kR Gp.1) else (kA ((ag (jd + (1:Int))),Gp.2.1,Gp.2.2)))))) else (kO (o7,mN)))
def CC (F:Nat) (rT:Int) (o8:List Zg) (uN:List UInt8) (OR:Int) (N9:Int) (uG:List Za) (jd:Int) (o7:List Za) (mN:List Zd):Option ((Int×Zd×Zs) ⊕ ((Zd×Zs) ⊕ (Int))):=zT F rT o8 uN OR N9 uG jd o7 mN (fun s=>some (.inl s)) (fun z=>some (.inr (.inl z))) (fun z=>some (.inr (.inr z)))
def akg (F:Nat):LB (GP F) 0 Tryz.f19:=
 gH st ai [] [1,0,1,1,1,1,1,1,1,1,1] 2 [7,12,65,66,67] [(.rw 0),(.pt 1 []),(.rw 0),.i,.i] [.row 50 Qt,.blk 91 Qo,.row 9 .s,.row 26 Qu,.row 27 (.sl .s)] [7,12] [(.rw 0),(.pt 1 [])] [.row 50 Qt,.blk 91 Qo,.row 9 .s,.row 26 Qu,.row 27 (.sl .s)] [2,3] [.np,.i] [] F (fun x y (s:Int×Zd×Zs)=>((),(),(),x.2.2.2.1,s.1,())) (fun x y s=>(y.1,((((y.2.1.1.1.1.1,y.2.1.1.1.1.2.1,()),y.2.1.1.1.2.1,(),()),(),(),()),()),y.2.2.1,s.2.1,s.2.2,())) (fun x y=>(x.2.2.2.2.1,y.2.2.2.1,y.2.2.2.2.1)) (fun x y (z:Zd×Zs)=>(((),(),()),(y.1,((((y.2.1.1.1.1.1,y.2.1.1.1.1.2.1,()),y.2.1.1.1.2.1,(),()),(),(),()),()),y.2.2.1,z.1,z.2,()))) (fun x y (z:Int)=>(((),z,()),())) (fun x y s _ kA kO kR=>zT F x.2.2.2.1 y.1 y.2.1.1.1.1.1 y.2.1.1.1.1.2.1 y.2.1.1.1.2.1 y.2.2.1 s.1 s.2.1 s.2.2 kA kO kR) (fun _ _ _ _ _ _ _=>by simp only [zT,oA,oC,oS,oN,aU,aT,ah]) (by kernel_rfl) (by kernel_rfl) (fun _ _ _=>by kernel_rfl)
def C6 (F:Nat) (vJ:List Zg) (jJ:Int) {β:Type} (kA:Int->Option β) (kO:Unit->Option β) (kR:Int->Option β):Option β:=
 (bif (decide (jJ < (vJ.length:Int))) then ((an vJ.length (ag (jJ - (1:Int)))).bind fun qc=>((vJ[qc]?).bind fun mB=>((an vJ.length jJ).bind fun oy=>((vJ[oy]?).bind fun mz=>(bif (decide (mz.2.1≤mB.2.1)) then (kR (3:Int)) else (kA (ag (jJ + (1:Int))))))))) else (kO ()))
def Bq (F:Nat) (vJ:List Zg) (jJ:Int):Option ((Int) ⊕ ((Unit) ⊕ (Int))):=C6 F vJ jJ (fun s=>some (.inl s)) (fun z=>some (.inr (.inl z))) (fun z=>some (.inr (.inr z)))
def amV (F:Nat):LB (GP F) 0 Tryz.f19:=
 gH st ai [] [1,0,1,1,1,1,1,1,1,1,1,1] 4 [7,12,16] [(.rw 0),(.pt 1 []),.i] [.row 50 Qt,.blk 91 Qo,.row 9 .s,.row 26 Qu,.row 27 (.sl .s)] [12] [(.pt 0 [])] [.blk 91 Qd,.row 9 .s,.row 26 Qu,.row 27 (.sl .s)] [2,3] [.np,.i] [] F (fun x y (s:Int)=>((),(),s,())) (fun x y s=>(y.1,((((y.2.1.1.1.1.1,y.2.1.1.1.1.2.1,()),y.2.1.1.1.2.1,(),()),(),(),()),()),y.2.2.1,y.2.2.2.1,y.2.2.2.2.1,())) (fun x y=>x.2.2.1) (fun x y (z:Unit)=>(((),()),(((((y.2.1.1.1.1.1,y.2.1.1.1.1.2.1,()),y.2.1.1.1.2.1,(),()),(),(),()),()),y.2.2.1,y.2.2.2.1,y.2.2.2.2.1,()))) (fun x y (z:Int)=>(((),z,()),())) (fun x y s _ kA kO kR=>C6 F y.1 s kA kO kR) (fun _ _ _ _ _ _ _=>by simp only [C6,oA,oC,oS,oN,aU,aT,ah]) (by kernel_rfl) (by kernel_rfl) (fun _ _ _=>by kernel_rfl)
def EW (F:Nat) (p0:List UInt8) {β:Type} (k:(Int×Za×Int×Int×Zd×Zd×Zs)->Option β):Option β:=
 ((A4 F p0).bind fun cT=>((D4 F cT.1 cT.2.2.2).bind fun kE=>((DF F kE cT.1 cT.2.1 cT.2.2.1 cT.2.2.2).bind fun AL=>((MM F AL.1).bind fun DG=>(bif (DG.2.2.2.2 != (0:Int)) then none else ((D4 F AL.2.1 cT.2.2.2).bind fun rI=>((Ez F rI AL.2.1 AL.2.2.1 AL.2.2.2 cT.2.2.2).bind fun vz=>((iter (fun s=>zq F vz.1 cT.2.2.2 s.1 s.2.1 s.2.2.1 s.2.2.2.1 s.2.2.2.2) F ((0:Int),vz.2.1,vz.2.2.1,vz.2.2.2,([]:List Zg))).bind fun od=>bz (fun od=>((zO F od.1 od.2.2.1 cT.2.2.2).bind fun rE=>(bif (rE != (0:Int)) then none else ((T7 F DG.1 DG.2.1 DG.2.2.1 DG.2.2.2.1).bind fun jF=>(bif (jF.1 != (0:Int)) then none else ((iter (fun s=>CC F (od.2.2.2.length:Int) od.2.2.2 jF.2.1 jF.2.2.1 jF.2.2.2.1 jF.2.2.2.2.1 s.1 s.2.1 s.2.2) F ((0:Int),jF.2.2.2.2.2.1,jF.2.2.2.2.2.2)).bind fun zR=>bz (fun zR=>((iter (fun s=>Bq F od.2.2.2 s) F (1:Int)).bind fun As=>bz (fun As=>(k ((0:Int),jF.2.1,jF.2.2.1,jF.2.2.2.1,jF.2.2.2.2.1,zR.1,zR.2))) (fun As=>none) As)) (fun zR=>none) zR)))))) (fun od=>none) od))))))))
def Jw (F:Nat) (p0:List UInt8):=EW F p0 some
def M3 (F:Nat):BN:=
 aq (E:=GP F) st Tryz.func19 ai 0 [aoV F,akg F,amV F] [(.ro .u8)] [] [(.pt 0 []),.i] [.blk 91 Qd,.row 9 .s,.row 26 Qu,.row 27 (.sl .s)] (fun x y (z:Int×Za×Int×Int×Zd×Zd×Zs)=>(((),z.1,()),(((((z.2.1,z.2.2.1,()),z.2.2.2.1,(),()),(),(),()),()),z.2.2.2.2.1,z.2.2.2.2.2.1,z.2.2.2.2.2.2,()))) (fun x y _ k=>EW F x.1 k) (fun _ _ _ _=>by simp only [EW,oA,oC,oS,oN,ah]) (by kernel_rfl) (fun _ _=>by kernel_rfl)
def Uv (F:Nat):Ev:=ev 22 [] (fun _=>[])
def wZ (F:Nat) (y9:List Za) (bP:Int) (y8:Int) (bw:Int) {β:Type} (kA:Zv->Option β) (kO:Int->Option β):Option β:=
 (bif (decide (bw < bP)) then ((ix y9 bw).bind fun i4=>(bif fA i4 then (kA ((ag (y8 + (0:Int))),(ag (bw + (1:Int))))) else (kA ((ag (y8 + (i4.length:Int))),(ag (bw + (1:Int))))))) else (kO y8))
def Ay (F:Nat) (y9:List Za) (bP:Int) (y8:Int) (bw:Int):=wZ F y9 bP y8 bw (fun s=>some (Sum.inl s)) (fun z=>some (Sum.inr z))
def amJ (F:Nat):LB (Uv F) 0 Tryz.f21:=
 bH st ai [] [1,0,1,1] 0 [3,10,11,12] [.i,(.ro Qu),.i,.i] [] [3] [.i] [] F (fun x y (s:Int×Int)=>(s.1,x.2.1,x.2.2.1,s.2,())) (fun x y s=>()) (fun x y=>(x.1,x.2.2.2.1)) (fun x y (z:Int)=>((z,()),())) (fun x y s _ kA kO=>wZ F x.2.1 x.2.2.1 s.1 s.2 kA kO) (fun _ _ _ _ _ _=>by simp only [wZ,oA,oC,oS,oN,aU,aT,ah]) (by kernel_rfl) (by kernel_rfl) (fun _ _ _=>by kernel_rfl)
def Iv (F:Nat) (p0:Zi×Unit) {β:Type} (k:Int->Option β):Option β:=
 ((iter (fun s=>Ay F p0.1.2.1 (p0.1.2.1.length:Int) s.1 s.2) F ((0:Int),(0:Int))).bind fun fk=>(k fk))
def v_ (F:Nat) (p0:Zi×Unit):=Iv F p0 some
def Si (F:Nat):BN:=
 aq (E:=Uv F) st Tryz.func21 ai 0 [amJ F] [(.re (.pr (.pr (.pr (.pr .s (.pr .i .un)) (.pr .i (.pr (.sl .s) .un))) (.pr (.sl Qu) (.pr (.sl (.sl .s)) .un))) .un))] [] [.i] [] (fun x y (z:Int)=>((z,()),())) (fun x y _ k=>Iv F x.1 k) (fun _ _ _ _=>by simp only [Iv,oA,oC,oS,oN,ah]) (by kernel_rfl) (fun _ _=>by kernel_rfl)
def Uh (F:Nat):Ev:=ev 22 [] (fun _=>[])
def A9 (F:Nat) (y7:List Za) (y8:Int) (y9:Int) {β:Type} (kA:Int->Option β) (kO:Unit->Option β) (kR:Zj->Option β):Option β:=
 (bif (decide (y9 < y8)) then ((ix y7 y9).bind fun jc=>(bif fA jc then (kR ((ag (y9 * (512:Int))),true)) else (kA (ag (y9 + (1:Int)))))) else (kO ()))
def E1 (F:Nat) (y7:List Za) (y8:Int) (y9:Int):Option ((Int) ⊕ ((Unit) ⊕ Zj)):=A9 F y7 y8 y9 (fun s=>some (.inl s)) (fun z=>some (.inr (.inl z))) (fun z=>some (.inr (.inr z)))
def apJ (F:Nat):LB (Uh F) 0 Tryz.f64:=
 gH st ai [] [1,0,1] 0 [10,11,12] [(.ro Qu),.i,.i] [] [] [] [] [2,3] [.i,.bo] [] F (fun x y (s:Int)=>(x.1,x.2.1,s,())) (fun x y s=>()) (fun x y=>x.2.2.1) (fun x y (z:Unit)=>((),())) (fun x y (z:Int×Bool)=>((z.1,z.2,()),())) (fun x y s _ kA kO kR=>A9 F x.1 x.2.1 s kA kO kR) (fun _ _ _ _ _ _ _=>by simp only [A9,oA,oC,oS,oN,aU,aT,ah]) (by kernel_rfl) (by kernel_rfl) (fun _ _ _=>by kernel_rfl)
def Kb (F:Nat) (p0:Zi×Unit) {β:Type} (k:Zj->Option β):Option β:=
 ((iter (fun s=>E1 F p0.1.2.1 (p0.1.2.1.length:Int) s) F (0:Int)).bind fun ca=>bz (fun ca=>(k ((0:Int),false))) (fun ca=>(k (ca.1,ca.2))) ca)
def V1 (F:Nat) (p0:Zi×Unit):=Kb F p0 some
def atc (F:Nat):BN:=
 aq (E:=Uh F) st Tryz.func64 ai 0 [apJ F] [(.re (.pr (.pr (.pr (.pr .s (.pr .i .un)) (.pr .i (.pr (.sl .s) .un))) (.pr (.sl Qu) (.pr (.sl (.sl .s)) .un))) .un))] [] [.i,.bo] [] (fun x y (z:Int×Bool)=>((z.1,z.2,()),())) (fun x y _ k=>Kb F x.1 k) (fun _ _ _ _=>by simp only [Kb,oA,oC,oS,oN,ah]) (by kernel_rfl) (fun _ _=>by kernel_rfl)
def atf:Nat->List (Tag×Nat)
 | 1=>[(.p,0),(.p,1),(.p,2),(.c,3),(.p,4),(.p,5),(.p,6),(.c,7),(.p,8),(.p,9),(.p,10),(.r,11),(.w,12),(.p,13),(.b,14)]
 | _=>[]
def ajQ (F:Nat):Ev:=ev 17 [we F] atf
def F7 (F:Nat) (p3:List Za) {β:Type} (k:(Zd)->Option β):Option β:=
 ((qA F p3).bind fun z2=>(k z2))
def Vr (F:Nat) (p3:List Za):=F7 F p3 some
def aqe (F:Nat):BN:=
 aq (E:=ajQ F) st Tryz.func36 ai 4 [] [(.pt 0 [0,0])] [.blk 91 Qd,.row 9 .s,.row 26 Qu,.row 27 (.sl .s)] [(.pr (.pr .str (.pr .i .un)) (.pr .i (.pr (.rw 4) .un)))] [.blk 91 Qd,.row 9 .s,.row 26 Qu,.row 27 (.sl .s),.row 9 .s] (fun x y (z:Zd)=>((((y.1.1.1.1.1,y.1.1.1.1.2.1,()),y.1.1.1.2.1,(),()),()),(((((y.1.1.1.1.1,y.1.1.1.1.2.1,()),y.1.1.1.2.1,(),()),(),(),()),()),y.2.1,y.2.2.1,y.2.2.2.1,z,()))) (fun x y _ k=>F7 F y.2.1 k) (fun _ _ _ _=>by simp only [F7,oA,oC,oS,oN,ah]) (by kernel_rfl) (fun _ _=>by kernel_rfl)
def Jy (F:Nat) (p1:Int):Option Za:=DX F p1
def aah (F:Nat):Ct:=cu 0 [.ns,.i] [] [(.rw 0)] [.row 5 .u8] (fun x y=>Jy F x.2.1) (fun x y (z:List UInt8)=>(((),()),(z,())))
theorem afU (F:Nat):Sound Tryz.prog cfg 109 (aah F):=ajW F
def al0 (F:Nat):BN:=⟨109,aah F,afU F,_,Tryz.func109,rfl,rfl⟩
def R4 (F:Nat):Ev:=ev 36 [al0 F] (fun _=>[])
def AT (F:Nat) (dK:List Za) (gp:Int) (cP:Int) (eP:Int) {β:Type} (kA:Zv->Option β) (kO:Int->Option β):Option β:=
 (bif (decide (eP < gp)) then ((ix dK eP).bind fun gF=>(bif fA gF then (bif (decide ((ag (cP + (0:Int))) < (0:Int))) then none else (kA ((ag (cP + (0:Int))),(ag (eP + (1:Int)))))) else (bif (decide ((ag (cP + (gF.length:Int))) < (0:Int))) then none else (kA ((ag (cP + (gF.length:Int))),(ag (eP + (1:Int)))))))) else (kO cP))
def IP (F:Nat) (dK:List Za) (gp:Int) (cP:Int) (eP:Int):=AT F dK gp cP eP (fun s=>some (Sum.inl s)) (fun z=>some (Sum.inr z))
def aoO (F:Nat):LB (R4 F) 0 Tryz.f65:=
 bH st ai [] [1,0,1,1] 0 [0,3,9,10,11] [(.ro Qu),.i,(.ro Qu),.i,.i] [] [0,3] [(.ro Qu),.i] [] F (fun x y (s:Int×Int)=>(x.1,s.1,x.2.2.1,x.2.2.2.1,s.2,())) (fun x y s=>()) (fun x y=>(x.2.1,x.2.2.2.2.1)) (fun x y (z:Int)=>((x.1,z,()),())) (fun x y s _ kA kO=>AT F x.2.2.1 x.2.2.2.1 s.1 s.2 kA kO) (fun _ _ _ _ _ _=>by simp only [AT,oA,oC,oS,oN,aU,aT,ah]) (by kernel_rfl) (by kernel_rfl) (fun _ _ _=>by kernel_rfl)
def zS (F:Nat) (dW:List Za) (kH:Int) (fJ:Int) (iJ:List UInt8) {β:Type} (kA:Zm->Option β) (kO:(Za)->Option β):Option β:=
 (bif (decide (fJ < kH)) then ((ix dW fJ).bind fun FG=>(bif fA FG then ((aD iJ ([]:List UInt8)).bind fun f9=>(kA ((ag (fJ + (1:Int))),f9))) else ((aD iJ FG).bind fun C8=>(kA ((ag (fJ + (1:Int))),C8))))) else (kO iJ))
def G5 (F:Nat) (dW:List Za) (kH:Int) (fJ:Int) (iJ:List UInt8):=zS F dW kH fJ iJ (fun s=>some (Sum.inl s)) (fun z=>some (Sum.inr z))
def amD (F:Nat):LB (R4 F) 0 Tryz.f65:=
 bH st ai [] [1,0,1,1,1,1] 2 [6,25,26,27] [(.rw 0),(.ro Qu),.i,.i] [.row 5 .u8] [6] [(.rw 0)] [.row 5 .u8] F (fun x y (s:Int×Za)=>((),x.2.1,x.2.2.1,s.1,())) (fun x y s=>(s.2,())) (fun x y=>(x.2.2.2.1,y.1)) (fun x y (z:Za)=>(((),()),(z,()))) (fun x y s _ kA kO=>zS F x.2.1 x.2.2.1 s.1 s.2 kA kO) (fun _ _ _ _ _ _=>by simp only [zS,oA,oC,oS,oN,aU,aT,ah]) (by kernel_rfl) (by kernel_rfl) (fun _ _ _=>by kernel_rfl)
def Ge (F:Nat) (p0:List Za) {β:Type} (k:(Za)->Option β):Option β:=
 ((iter (fun s=>IP F p0 (p0.length:Int) s.1 s.2) F ((0:Int),(0:Int))).bind fun gr=>((Jy F gr).bind fun mT=>((iter (fun s=>G5 F p0 (p0.length:Int) s.1 s.2) F ((0:Int),mT)).bind fun BR=>(k BR))))
def VW (F:Nat) (p0:List Za):=Ge F p0 some
def aqs (F:Nat):BN:=
 aq (E:=R4 F) st Tryz.func65 ai 0 [aoO F,amD F] [(.ro Qu)] [] [(.rw 0)] [.row 5 .u8] (fun x y (z:Za)=>(((),()),(z,()))) (fun x y _ k=>Ge F x.1 k) (fun _ _ _ _=>by simp only [Ge,oA,oC,oS,oN,ah]) (by kernel_rfl) (fun _ _=>by kernel_rfl)
def aof:Nat->List (Tag×Nat)
 | 5=>[(.p,0),(.c,1),(.p,2),(.p,3),(.p,4),(.p,5),(.r,6),(.p,8),(.c,9),(.w,7),(.p,10),(.b,11),(.p,12)]
 | _=>[]
def E22 (F:Nat):Ev:=ev 30 [atc F,aqe F,aqs F] aof
def LL (F:Nat) (p0:List UInt8) (p1:Int) (p2:Int) (p3:List Za) (p4:List Za) (p5:List Zd) {β:Type} (k:(Za×Int×Za×Zd×Int)->Option β):Option β:=
 ((V1 F ((((p0,p1,()),p2,p3,()),p4,p5,()),())).bind fun z4=>(bif z4.2 then (k (([]:List UInt8),(0:Int),([]:List UInt8),([]:List Za),(10:Int))) else ((Vr F p3).bind fun z5=>((VW F p4).bind fun z6=>(k (p0,p1,z6,z5,(0:Int)))))))
def TA (F:Nat) (p0:List UInt8) (p1:Int) (p2:Int) (p3:List Za) (p4:List Za) (p5:List Zd):=LL F p0 p1 p2 p3 p4 p5 some
def OQ (F:Nat):BN:=
 aq (E:=E22 F) st Tryz.func22 ai 4 [] [(.pt 0 [])] [.blk 91 Qd,.row 9 .s,.row 26 Qu,.row 27 (.sl .s)] [(.pr (.pr .str (.pr .i .un)) (.pr (.ro .u8) (.pr (.ro .s) .un))),.i] [.blk 91 Qd,.row 9 .s,.row 26 Qu,.row 27 (.sl .s)] (fun x y (z:Za×Int×Za×Zd×Int)=>((((z.1,z.2.1,()),z.2.2.1,z.2.2.2.1,()),z.2.2.2.2,()),(((((y.1.1.1.1.1,y.1.1.1.1.2.1,()),y.1.1.1.2.1,(),()),(),(),()),()),y.2.1,y.2.2.1,y.2.2.2.1,()))) (fun x y _ k=>LL F y.1.1.1.1.1 y.1.1.1.1.2.1 y.1.1.1.2.1 y.2.1 y.2.2.1 y.2.2.2.1 k) (fun _ _ _ _=>by simp only [LL,oA,oC,oS,oN,ah]) (by kernel_rfl) (fun _ _=>by kernel_rfl)
def E3 (F:Nat):Ev:=⟨cfg,249,dM [(4,(L0 F).ct),(5,(HZ F).ct),(6,(HN F).ct),(8,(Pu F).ct),(7,(HM F).ct),(9,(JF F).ct),(10,(OP F).ct),(11,(Is F).ct),(12,(Tt F).ct),(13,(FY F).ct),(14,(Tk F).ct),(15,(Fb F).ct),(16,(LN F).ct),(14,(PT F).ct),(17,(TF F).ct),(18,(yt F).ct),(20,(PF F).ct),(19,(M3 F).ct),(21,(Si F).ct),(22,(OQ F).ct),(23,(Ib F).ct)],fun _=>[],dM [],fun _=>none,fun _=>none,fun _=>none⟩
theorem Kw (F:Nat):bS Tryz.prog (E3 F):=kD (l:=[(4,(L0 F).ct),(5,(HZ F).ct),(6,(HN F).ct),(8,(Pu F).ct),(7,(HM F).ct),(9,(JF F).ct),(10,(OP F).ct),(11,(Is F).ct),(12,(Tt F).ct),(13,(FY F).ct),(14,(Tk F).ct),(15,(Fb F).ct),(16,(LN F).ct),(14,(PT F).ct),(17,(TF F).ct),(18,(yt F).ct),(20,(PF F).ct),(19,(M3 F).ct),(21,(Si F).ct),(22,(OQ F).ct),(23,(Ib F).ct)]) (l':=[]) rfl rfl ⟨⟨(L0 F).ok,_,Tryz.func4,rfl,rfl⟩,⟨⟨(HZ F).ok,_,Tryz.func5,rfl,rfl⟩,⟨⟨(HN F).ok,_,Tryz.func6,rfl,rfl⟩,⟨⟨(Pu F).ok,_,Tryz.func8,rfl,rfl⟩,⟨⟨(HM F).ok,_,Tryz.func7,rfl,rfl⟩,⟨⟨(JF F).ok,_,Tryz.func9,rfl,rfl⟩,⟨⟨(OP F).ok,_,Tryz.func10,rfl,rfl⟩,⟨⟨(Is F).ok,_,Tryz.func11,rfl,rfl⟩,⟨⟨(Tt F).ok,_,Tryz.func12,rfl,rfl⟩,⟨⟨(FY F).ok,_,Tryz.func13,rfl,rfl⟩,⟨⟨(Tk F).ok,_,Tryz.func14,rfl,rfl⟩,⟨⟨(Fb F).ok,_,Tryz.func15,rfl,rfl⟩,⟨⟨(LN F).ok,_,Tryz.func16,rfl,rfl⟩,⟨⟨(PT F).ok,_,Tryz.func14,rfl,rfl⟩,⟨⟨(TF F).ok,_,Tryz.func17,rfl,rfl⟩,⟨⟨(yt F).ok,_,Tryz.func18,rfl,rfl⟩,⟨⟨(PF F).ok,_,Tryz.func20,rfl,rfl⟩,⟨⟨(M3 F).ok,_,Tryz.func19,rfl,rfl⟩,⟨⟨(Si F).ok,_,Tryz.func21,rfl,rfl⟩,⟨⟨(OQ F).ok,_,Tryz.func22,rfl,rfl⟩,⟨⟨(Ib F).ok,_,Tryz.func23,rfl,rfl⟩,trivial⟩⟩⟩⟩⟩⟩⟩⟩⟩⟩⟩⟩⟩⟩⟩⟩⟩⟩⟩⟩⟩ trivial
def sH (F:Nat) (qI:List Int) (pG:Int) (tD:Int) (xA:Int) (wK:Bool) {β:Type} (kO:Zv->Option β) (kR:Bool->Option β):Option β:=
 (bif wK then ((ix qI pG).bind fun anu=>(bif (decide (anu < (0:Int))) then (kR true) else ((ix qI pG).bind fun aeM=>(bif ((Int.tmod pG (2:Int)) == (1:Int)) then ((ix qI pG).bind fun aoo=>(kO ((Int.tmod aoo (1048576:Int)),(-1:Int)))) else (kO (tD,aeM)))))) else (kO (tD,xA)))
def mX (F:Nat) (qI:List Int) (pG:Int) (tD:Int) (xA:Int) (wK:Bool):Option (Zv ⊕ (Bool)):=sH F qI pG tD xA wK (fun z=>some (.inl z)) (fun z=>some (.inr z))
theorem an1 (F:Nat) (qI:List Int) (pG:Int) (tD:Int) (xA:Int) (wK:Bool) {β:Type} (kO:Zv->Option β) (kR:Bool->Option β):sH F qI pG tD xA wK kO kR=(mX F qI pG tD xA wK).bind (bz kO kR):=by
 simp only [mX,sH,oA,oC,oS,oN,aU,aT,ah]
def YE (F:Nat):Lc:=Nd [2,7,9,11,13,14,15,16,83] [(.ro .i),(.pt 0 []),(.pt 1 []),(.pt 2 []),(.mp 3),.i,.i,.i,.bo] [.blk 29 Qn,.blk 84 Qx,.blk 91 Qv,.mp .i .bo,.row 9 .s,.row 5 .u8,.row 9 .s,.row 26 Qu,.row 27 (.sl .s)] [2,7,9,11,13,14,15,16] [(.ro .i),(.pt 0 []),(.pt 1 []),(.pt 2 []),(.mp 3),.i,.i,.i] [.blk 29 Qn,.blk 84 Qx,.blk 91 Qv,.mp .i .bo,.row 9 .s,.row 5 .u8,.row 9 .s,.row 26 Qu,.row 27 (.sl .s)] [6] [.bo] [] (fun x y=>mX F x.1 x.2.2.2.2.2.1 x.2.2.2.2.2.2.1 x.2.2.2.2.2.2.2.1 x.2.2.2.2.2.2.2.2.1) (fun x y (z:Int×Int)=>((x.1,(),(),(),(),x.2.2.2.2.2.1,z.1,z.2,()),(((y.1.1.1,y.1.1.2.1,()),y.1.2.1,y.1.2.2.1,()),(((y.2.1.1.1.1,y.2.1.1.1.2.1,()),y.2.1.1.2.1,(),()),(),()),((((y.2.2.1.1.1.1.1,y.2.2.1.1.1.1.2.1,()),y.2.2.1.1.1.2.1,(),()),(),(),()),()),y.2.2.2.1,y.2.2.2.2.1,y.2.2.2.2.2.1,y.2.2.2.2.2.2.1,y.2.2.2.2.2.2.2.1,y.2.2.2.2.2.2.2.2.1,()))) (fun x y (z:Bool)=>((z,()),()))
theorem aoL (F:Nat):pL Tryz.prog (E3 F) 0 (YE F) (bh (cC Tryz.f3) [1,0,1,0,0,1,0,0,1,0,1,1,1,1,1,1,1,1,1]):=
 Xx (lp:=[]) iY (Kw F) mixed trivial (by kernel_rfl) (fun x y kO kR=>sH F x.1 x.2.2.2.2.2.1 x.2.2.2.2.2.2.1 x.2.2.2.2.2.2.2.1 x.2.2.2.2.2.2.2.2.1 kO kR) (fun x y kO kR=>an1 F x.1 x.2.2.2.2.2.1 x.2.2.2.2.2.2.1 x.2.2.2.2.2.2.2.1 x.2.2.2.2.2.2.2.2.1 kO kR) (fun _ _=>by kernel_rfl)
def vw (F:Nat) (xh:List UInt8) (yw:Int) (xJ:List UInt8) (x_:Int) (zh:Int) (xC:Int) (xU:Int) (kL:List Int) (yb:List UInt8) (yS:List Za) (nj:Int) (oB:List Zj) (vr:Bool) (yZ:Int) (qO:List Za) (rD:List Zd) (tV:List UInt8) (vN:List UInt8) (s8:List UInt8) (sW:List UInt8) (wB:List UInt8) {β:Type} (kA:Zx->Option β) (kO:((List Zj)×Bool×Zd×Zs×Za×Za×Za×Za)->Option β) (kR:Bool->Option β):Option β:=
 (bif (decide (nj < (kL.length:Int))) then ((an kL.length nj).bind fun aib=>((kL[aib]?).bind fun apu=>((Oy F apu xh yw yb).bind fun wV=>((HT F wV.1 wV.2.1 wV.2.2.1 wV.2.2.2.1 wV.2.2.2.2.1).bind fun abB=>(bif (wV.2.2.2.2.2 != (0:Int)) then (kR false) else (bif (abB.1 != (0:Int)) then (kR false) else ((an kL.length nj).bind fun am9=>((kL[am9]?).bind fun asf=>(bif (eM .i oB asf false) then (kR false) else ((wm F (11:Int) abB.2 xC xU vr yZ tV vN s8 sW wB).bind fun i5=>(bif (!i5.2.2.2.1) then (kR false) else (bif (!i5.2.2.1) then (kO (oB,i5.2.2.2.2.1,qO,rD,i5.2.2.2.2.2.2.1,i5.2.2.2.2.2.2.2.1,i5.2.2.2.2.2.2.2.2.1,i5.2.2.2.2.2.2.2.2.2.1)) else ((Ht F i5.2.1).bind fun xb=>(bif (xb.2.2.2.2.2 != (0:Int)) then (kR false) else (bif (i5.1 != (11:Int)) then (kR false) else ((JS F xb.1 xb.2.1 xb.2.2.1 xb.2.2.2.1 xb.2.2.2.2.1 xJ x_ zh yS qO rD).bind fun P7=>(bif (P7.1 != (0:Int)) then (kR false) else ((an kL.length nj).bind fun anI=>((kL[anI]?).bind fun asU=>(kA ((ag (nj + (1:Int))),(cJ .i oB asU true),i5.2.2.2.2.1,i5.2.2.2.2.2.1,P7.2.1,P7.2.2,i5.2.2.2.2.2.2.1,i5.2.2.2.2.2.2.2.1,i5.2.2.2.2.2.2.2.2.1,i5.2.2.2.2.2.2.2.2.2.1,i5.2.2.2.2.2.2.2.2.2.2))))))))))))))))))))) else (kO (oB,vr,qO,rD,tV,vN,s8,sW)))
def ow (F:Nat) (xh:List UInt8) (yw:Int) (xJ:List UInt8) (x_:Int) (zh:Int) (xC:Int) (xU:Int) (kL:List Int) (yb:List UInt8) (yS:List Za) (nj:Int) (oB:List Zj) (vr:Bool) (yZ:Int) (qO:List Za) (rD:List Zd) (tV:List UInt8) (vN:List UInt8) (s8:List UInt8) (sW:List UInt8) (wB:List UInt8):Option (Zx ⊕ (((List Zj)×Bool×Zd×Zs×Za×Za×Za×Za) ⊕ (Bool))):=vw F xh yw xJ x_ zh xC xU kL yb yS nj oB vr yZ qO rD tV vN s8 sW wB (fun s=>some (.inl s)) (fun z=>some (.inr (.inl z))) (fun z=>some (.inr (.inr z)))
theorem anP (F:Nat) (xh:List UInt8) (yw:Int) (xJ:List UInt8) (x_:Int) (zh:Int) (xC:Int) (xU:Int) (kL:List Int) (yb:List UInt8) (yS:List Za) (nj:Int) (oB:List Zj) (vr:Bool) (yZ:Int) (qO:List Za) (rD:List Zd) (tV:List UInt8) (vN:List UInt8) (s8:List UInt8) (sW:List UInt8) (wB:List UInt8) {β:Type} (kA:Zx->Option β) (kO:((List Zj)×Bool×Zd×Zs×Za×Za×Za×Za)->Option β) (kR:Bool->Option β):vw F xh yw xJ x_ zh xC xU kL yb yS nj oB vr yZ qO rD tV vN s8 sW wB kA kO kR=(ow F xh yw xJ x_ zh xC xU kL yb yS nj oB vr yZ qO rD tV vN s8 sW wB).bind (bz kA (bz kO kR)):=by
 simp only [ow,vw,oA,oC,oS,oN,aU,aT,ah]
def abD (F:Nat):Lc:=IS [2,7,9,11,13,14,15,16,17,19,20,21] [(.ro .i),(.pt 0 []),(.pt 1 []),(.pt 2 []),(.mp 3),.i,.i,.i,(.pt 4 []),(.pt 5 []),(.rw 6),.i] [.blk 29 Qn,.blk 84 (.pr (.pr (.pr .str (.pr .i .un)) (.pr .i (.pr (.rw 7) .un))) (.pr (.rw 8) .un)),.blk 91 (.pr (.pr (.pr (.pr .str (.pr .i .un)) (.pr .i (.pr (.rw 9) .un))) (.pr (.rw 10) (.pr (.rw 11) .un))) .un),.mp .i .bo,.blk 96 (.pr (.pr (.pr (.rw 12) (.pr (.rw 13) .un)) (.pr (.pr (.rw 14) (.pr (.rw 15) .un)) .un)) (.pr .i (.pr .i (.pr .bo .un)))),.blk 100 (.pr (.rw 16) (.pr .i (.pr (.fn 37 .un .un) .un))),.row 3 .i,.row 9 .s,.row 5 .u8,.row 9 .s,.row 26 Qu,.row 27 (.sl .s),.row 5 .u8,.row 5 .u8,.row 5 .u8,.row 5 .u8,.row 5 .u8] [2,7,9,11,13,14,15,16,17] [(.ro .i),(.pt 0 []),(.pt 1 []),(.pt 2 []),(.mp 3),.i,.i,.i,(.pt 4 [])] [.blk 29 Qn,.blk 84 (.pr (.pr (.pr .str (.pr .i .un)) (.pr .i (.pr (.rw 5) .un))) (.pr (.rw 6) .un)),.blk 91 (.pr (.pr (.pr (.pr .str (.pr .i .un)) (.pr .i (.pr (.rw 7) .un))) (.pr (.rw 8) (.pr (.rw 9) .un))) .un),.mp .i .bo,.blk 96 (.pr (.pr (.pr (.rw 10) (.pr (.rw 11) .un)) (.pr (.pr (.rw 12) (.pr (.rw 13) .un)) .un)) (.pr .i (.pr .i (.pr .bo .un)))),.row 9 .s,.row 5 .u8,.row 9 .s,.row 26 Qu,.row 27 (.sl .s),.row 5 .u8,.row 5 .u8,.row 5 .u8,.row 5 .u8] [6] [.bo] [] F (fun x y (s:Int×(List Zj)×Bool×Int×Zd×Zs×Za×Za×Za×Za×Za)=>ow F y.2.1.1.1.1 y.2.1.1.1.2.1 y.2.2.1.1.1.1.1 y.2.2.1.1.1.1.2.1 y.2.2.1.1.1.2.1 y.2.2.2.2.1.2.1 y.2.2.2.2.1.2.2.1 y.2.2.2.2.2.2.1 y.2.2.2.2.2.2.2.2.1 y.2.2.2.2.2.2.2.2.2.1 s.1 s.2.1 s.2.2.1 s.2.2.2.1 s.2.2.2.2.1 s.2.2.2.2.2.1 s.2.2.2.2.2.2.1 s.2.2.2.2.2.2.2.1 s.2.2.2.2.2.2.2.2.1 s.2.2.2.2.2.2.2.2.2.1 s.2.2.2.2.2.2.2.2.2.2) (fun x y=>(x.2.2.2.2.2.2.2.2.2.2.2.1,y.2.2.2.1,y.2.2.2.2.1.2.2.2.1,y.2.2.2.2.2.1.2.1,y.2.2.2.2.2.2.2.2.2.2.1,y.2.2.2.2.2.2.2.2.2.2.2.1,y.2.2.2.2.2.2.2.2.2.2.2.2.1,y.2.2.2.2.2.2.2.2.2.2.2.2.2.1,y.2.2.2.2.2.2.2.2.2.2.2.2.2.2.1,y.2.2.2.2.2.2.2.2.2.2.2.2.2.2.2.1,y.2.2.2.2.2.2.2.2.2.2.2.2.2.2.2.2.1)) (fun x y (z:(List Zj)×Bool×Zd×Zs×Za×Za×Za×Za)=>((x.1,(),(),(),(),x.2.2.2.2.2.1,x.2.2.2.2.2.2.1,x.2.2.2.2.2.2.2.1,(),()),(((y.1.1.1,y.1.1.2.1,()),y.1.2.1,y.1.2.2.1,()),(((y.2.1.1.1.1,y.2.1.1.1.2.1,()),y.2.1.1.2.1,(),()),(),()),((((y.2.2.1.1.1.1.1,y.2.2.1.1.1.1.2.1,()),y.2.2.1.1.1.2.1,(),()),(),(),()),()),z.1,((((),(),()),((),(),()),()),y.2.2.2.2.1.2.1,y.2.2.2.2.1.2.2.1,z.2.1,()),y.2.2.2.2.2.2.2.1,y.2.2.2.2.2.2.2.2.1,y.2.2.2.2.2.2.2.2.2.1,z.2.2.1,z.2.2.2.1,z.2.2.2.2.1,z.2.2.2.2.2.1,z.2.2.2.2.2.2.1,z.2.2.2.2.2.2.2,()))) (fun x y (z:Bool)=>((z,()),()))
theorem agN (F:Nat):pL Tryz.prog (E3 F) 0 (abD F) (bh (cC Tryz.f3) [1,0,1,1,1,1,1,1,0,0,1,0,0,1,0,1,1,1,1,1,1,1,1,1]):=
 SH (lp:=[]) (id:=2) (b:=bh (cC Tryz.f3) (0 :: 0 :: [1,0,1,1,1,1,1,1,0,0,1,0,0,1,0,1,1,1,1,1,1,1,1,1])) iY (Kw F) mixed trivial (by kernel_rfl) (by kernel_rfl) (fun x y s=>(x.1,(),(),(),(),x.2.2.2.2.2.1,x.2.2.2.2.2.2.1,x.2.2.2.2.2.2.2.1,(),(),(),s.1,())) (fun x y s=>(((y.1.1.1,y.1.1.2.1,()),y.1.2.1,y.1.2.2.1,()),(((y.2.1.1.1.1,y.2.1.1.1.2.1,()),y.2.1.1.2.1,(),()),(),()),((((y.2.2.1.1.1.1.1,y.2.2.1.1.1.1.2.1,()),y.2.2.1.1.1.2.1,(),()),(),(),()),()),s.2.1,((((),(),()),((),(),()),()),y.2.2.2.2.1.2.1,y.2.2.2.2.1.2.2.1,s.2.2.1,()),((),s.2.2.2.1,((),()),()),y.2.2.2.2.2.2.1,y.2.2.2.2.2.2.2.1,y.2.2.2.2.2.2.2.2.1,y.2.2.2.2.2.2.2.2.2.1,s.2.2.2.2.1,s.2.2.2.2.2.1,s.2.2.2.2.2.2.1,s.2.2.2.2.2.2.2.1,s.2.2.2.2.2.2.2.2.1,s.2.2.2.2.2.2.2.2.2.1,s.2.2.2.2.2.2.2.2.2.2,())) (fun x y=>rfl) (fun x y=>rfl) (fun x y s kA kO kR=>vw F y.2.1.1.1.1 y.2.1.1.1.2.1 y.2.2.1.1.1.1.1 y.2.2.1.1.1.1.2.1 y.2.2.1.1.1.2.1 y.2.2.2.2.1.2.1 y.2.2.2.2.1.2.2.1 y.2.2.2.2.2.2.1 y.2.2.2.2.2.2.2.2.1 y.2.2.2.2.2.2.2.2.2.1 s.1 s.2.1 s.2.2.1 s.2.2.2.1 s.2.2.2.2.1 s.2.2.2.2.2.1 s.2.2.2.2.2.2.1 s.2.2.2.2.2.2.2.1 s.2.2.2.2.2.2.2.2.1 s.2.2.2.2.2.2.2.2.2.1 s.2.2.2.2.2.2.2.2.2.2 kA kO kR) (fun x y s kA kO kR=>anP F y.2.1.1.1.1 y.2.1.1.1.2.1 y.2.2.1.1.1.1.1 y.2.2.1.1.1.1.2.1 y.2.2.1.1.1.2.1 y.2.2.2.2.1.2.1 y.2.2.2.2.1.2.2.1 y.2.2.2.2.2.2.1 y.2.2.2.2.2.2.2.2.1 y.2.2.2.2.2.2.2.2.2.1 s.1 s.2.1 s.2.2.1 s.2.2.2.1 s.2.2.2.2.1 s.2.2.2.2.2.1 s.2.2.2.2.2.2.1 s.2.2.2.2.2.2.2.1 s.2.2.2.2.2.2.2.2.1 s.2.2.2.2.2.2.2.2.2.1 s.2.2.2.2.2.2.2.2.2.2 kA kO kR) (fun _ _ _=>by kernel_rfl)
def rU (F:Nat) (j9:List Int) (jG:List UInt8) (iu:Int) (vY:List UInt8) (gZ:Int) (fy:List UInt8) (ld:Int) (lu:Int) (nh:List Zj) (lC:List Za) (qp:List Za) (kU:List Zd) {β:Type} (kA:(Int×Za×Int×Int×(List Zj)×Zd×Zd×Zs)->Option β) (kO:(Za×Int×Int×Zd×Zd×Zs)->Option β) (kR:Bool->Option β):Option β:=
 (bif (decide (gZ≤(j9.length:Int))) then ((mX F j9 gZ (1048576:Int) (-1:Int) (decide (gZ < (j9.length:Int)))).bind fun fB=>bz (fun fB=>((T9 F fB.1).bind fun ZE=>(bif (ZE.1 != (0:Int)) then (kR false) else ((ZR F).bind fun alR=>((Fv F ((((fy,ld,()),lu,lC,()),qp,kU,()),())).bind fun arW=>((iter (fun s=>ow F jG iu fy ld lu fB.1 fB.2 arW vY lC s.1 s.2.1 s.2.2.1 s.2.2.2.1 s.2.2.2.2.1 s.2.2.2.2.2.1 s.2.2.2.2.2.2.1 s.2.2.2.2.2.2.2.1 s.2.2.2.2.2.2.2.2.1 s.2.2.2.2.2.2.2.2.2.1 s.2.2.2.2.2.2.2.2.2.2) F ((0:Int),nh,ZE.2,alR,qp,kU,([]:List UInt8),([]:List UInt8),([]:List UInt8),([]:List UInt8),([]:List UInt8))).bind fun cg=>bz (fun cg=>((wv F ((#v[(cg.2.2.2.2.1,cg.2.2.2.2.2.1,()),(cg.2.2.2.2.2.2.1,cg.2.2.2.2.2.2.2,())]:Vector Zl 2),fB.1,fB.2,cg.2.1,()) (0:Int)).bind fun aj1=>(bif (decide (fB.1 < aj1)) then (kR false) else (bif (decide ((0:Int)≤fB.2)) then ((wv F ((#v[(cg.2.2.2.2.1,cg.2.2.2.2.2.1,()),(cg.2.2.2.2.2.2.1,cg.2.2.2.2.2.2.2,())]:Vector Zl 2),fB.1,fB.2,cg.2.1,()) (0:Int)).bind fun arj=>(bif (decide (fB.2 < arj)) then (kR false) else ((sX F ((#v[(cg.2.2.2.2.1,cg.2.2.2.2.2.1,()),(cg.2.2.2.2.2.2.1,cg.2.2.2.2.2.2.2,())]:Vector Zl 2),fB.1,fB.2,cg.2.1,())).bind fun alA=>((wv F ((#v[(cg.2.2.2.2.1,cg.2.2.2.2.2.1,()),(cg.2.2.2.2.2.2.1,cg.2.2.2.2.2.2.2,())]:Vector Zl 2),fB.1,fB.2,cg.2.1,()) (0:Int)).bind fun aeu=>(bif (alA != (ag (fB.1 - aeu))) then (kR false) else ((Fk F fy ld lu lC cg.2.2.1 cg.2.2.2.1).bind fun ahE=>((Jw F ahE).bind fun j8=>(bif (j8.1 != (0:Int)) then (kR false) else ((v_ F ((((j8.2.1,j8.2.2.1,()),j8.2.2.2.1,j8.2.2.2.2.1,()),j8.2.2.2.2.2.1,j8.2.2.2.2.2.2,()),())).bind fun akT=>((v_ F ((((fy,ld,()),lu,lC,()),cg.2.2.1,cg.2.2.2.1,()),())).bind fun agA=>(bif (akT != agA) then (kR false) else (kA ((ag (gZ + (1:Int))),j8.2.1,j8.2.2.1,j8.2.2.2.1,cg.1,j8.2.2.2.2.1,j8.2.2.2.2.2.1,j8.2.2.2.2.2.2))))))))))))) else ((sX F ((#v[(cg.2.2.2.2.1,cg.2.2.2.2.2.1,()),(cg.2.2.2.2.2.2.1,cg.2.2.2.2.2.2.2,())]:Vector Zl 2),fB.1,fB.2,cg.2.1,())).bind fun aqf=>((wv F ((#v[(cg.2.2.2.2.1,cg.2.2.2.2.2.1,()),(cg.2.2.2.2.2.2.1,cg.2.2.2.2.2.2.2,())]:Vector Zl 2),fB.1,fB.2,cg.2.1,()) (0:Int)).bind fun ahU=>(bif (aqf != (ag (fB.1 - ahU))) then (kR false) else ((Fk F fy ld lu lC cg.2.2.1 cg.2.2.2.1).bind fun anJ=>((Jw F anJ).bind fun kj=>(bif (kj.1 != (0:Int)) then (kR false) else ((v_ F ((((kj.2.1,kj.2.2.1,()),kj.2.2.2.1,kj.2.2.2.2.1,()),kj.2.2.2.2.2.1,kj.2.2.2.2.2.2,()),())).bind fun akI=>((v_ F ((((fy,ld,()),lu,lC,()),cg.2.2.1,cg.2.2.2.1,()),())).bind fun aex=>(bif (akI != aex) then (kR false) else (kA ((ag (gZ + (1:Int))),kj.2.1,kj.2.2.1,kj.2.2.2.1,cg.1,kj.2.2.2.2.1,kj.2.2.2.2.2.1,kj.2.2.2.2.2.2))))))))))))))) (fun cg=>(kR cg)) cg)))))) (fun fB=>(kR fB)) fB) else (kO (fy,ld,lu,lC,qp,kU)))
def mg (F:Nat) (j9:List Int) (jG:List UInt8) (iu:Int) (vY:List UInt8) (gZ:Int) (fy:List UInt8) (ld:Int) (lu:Int) (nh:List Zj) (lC:List Za) (qp:List Za) (kU:List Zd):Option ((Int×Za×Int×Int×(List Zj)×Zd×Zd×Zs) ⊕ ((Za×Int×Int×Zd×Zd×Zs) ⊕ (Bool))):=rU F j9 jG iu vY gZ fy ld lu nh lC qp kU (fun s=>some (.inl s)) (fun z=>some (.inr (.inl z))) (fun z=>some (.inr (.inr z)))
theorem ahY (F:Nat) (j9:List Int) (jG:List UInt8) (iu:Int) (vY:List UInt8) (gZ:Int) (fy:List UInt8) (ld:Int) (lu:Int) (nh:List Zj) (lC:List Za) (qp:List Za) (kU:List Zd) {β:Type} (kA:(Int×Za×Int×Int×(List Zj)×Zd×Zd×Zs)->Option β) (kO:(Za×Int×Int×Zd×Zd×Zs)->Option β) (kR:Bool->Option β):rU F j9 jG iu vY gZ fy ld lu nh lC qp kU kA kO kR=(mg F j9 jG iu vY gZ fy ld lu nh lC qp kU).bind (bz kA (bz kO kR)):=by
 simp only [mg,rU,oA,oC,oS,oN,aU,aT,ah]
def aaz (F:Nat):Lc:=IS [2,7,9,11,13,14] [(.ro .i),(.pt 0 []),(.pt 1 []),(.pt 2 []),(.mp 3),.i] [.blk 29 Qn,.blk 84 Qx,.blk 91 Qv,.mp .i .bo,.row 9 .s,.row 5 .u8,.row 9 .s,.row 26 Qu,.row 27 (.sl .s)] [7,11] [(.pt 0 []),(.pt 1 [])] [.blk 29 Qn,.blk 91 Qo,.row 9 .s,.row 26 Qu,.row 27 (.sl .s)] [6] [.bo] [] F (fun x y (s:Int×Za×Int×Int×(List Zj)×Zd×Zd×Zs)=>mg F x.1 y.2.1.1.1.1 y.2.1.1.1.2.1 y.2.2.2.2.2.1 s.1 s.2.1 s.2.2.1 s.2.2.2.1 s.2.2.2.2.1 s.2.2.2.2.2.1 s.2.2.2.2.2.2.1 s.2.2.2.2.2.2.2) (fun x y=>(x.2.2.2.2.2.1,y.2.2.1.1.1.1.1,y.2.2.1.1.1.1.2.1,y.2.2.1.1.1.2.1,y.2.2.2.1,y.2.2.2.2.2.2.1,y.2.2.2.2.2.2.2.1,y.2.2.2.2.2.2.2.2.1)) (fun x y (z:Za×Int×Int×Zd×Zd×Zs)=>(((),(),()),(((y.1.1.1,y.1.1.2.1,()),y.1.2.1,y.1.2.2.1,()),((((z.1,z.2.1,()),z.2.2.1,(),()),(),(),()),()),z.2.2.2.1,z.2.2.2.2.1,z.2.2.2.2.2,()))) (fun x y (z:Bool)=>((z,()),()))
theorem ad7 (F:Nat):pL Tryz.prog (E3 F) 0 (aaz F) (bh (cC Tryz.f3) [1,0,1,1,1,1,1,1,1,1,1]):=
 SH (lp:=[([1,0,1,0,0,1,0,0,1,0,1,1,1,1,1,1,1,1,1],YE F),([1,0,1,1,1,1,1,1,0,0,1,0,0,1,0,1,1,1,1,1,1,1,1,1],abD F)]) (id:=0) (b:=bh (cC Tryz.f3) (0 :: 0 :: [1,0,1,1,1,1,1,1,1,1,1])) iY (Kw F) mixed ⟨aoL F,⟨agN F,trivial⟩⟩ (by kernel_rfl) (by kernel_rfl) (fun x y s=>(x.1,(),(),(),(),s.1,())) (fun x y s=>(((y.1.1.1,y.1.1.2.1,()),y.1.2.1,y.1.2.2.1,()),(((y.2.1.1.1.1,y.2.1.1.1.2.1,()),y.2.1.1.2.1,(),()),(),()),((((s.2.1,s.2.2.1,()),s.2.2.2.1,(),()),(),(),()),()),s.2.2.2.2.1,y.2.2.2.2.1,y.2.2.2.2.2.1,s.2.2.2.2.2.1,s.2.2.2.2.2.2.1,s.2.2.2.2.2.2.2,())) (fun x y=>rfl) (fun x y=>rfl) (fun x y s kA kO kR=>rU F x.1 y.2.1.1.1.1 y.2.1.1.1.2.1 y.2.2.2.2.2.1 s.1 s.2.1 s.2.2.1 s.2.2.2.1 s.2.2.2.2.1 s.2.2.2.2.2.1 s.2.2.2.2.2.2.1 s.2.2.2.2.2.2.2 kA kO kR) (fun x y s kA kO kR=>ahY F x.1 y.2.1.1.1.1 y.2.1.1.1.2.1 y.2.2.2.2.2.1 s.1 s.2.1 s.2.2.1 s.2.2.2.1 s.2.2.2.2.1 s.2.2.2.2.2.1 s.2.2.2.2.2.2.1 s.2.2.2.2.2.2.2 kA kO kR) (fun _ _ _=>by kernel_rfl)
def q7 (F:Nat) (p0:UInt8) (p1:Int) (p2:List Int) {β:Type} (k:Bool->Option β):Option β:=
 ((T4 F).bind fun Dx=>(bif (!Dx) then (k false) else (bif (decide (p1 < (0:Int))) then (k true) else (bif (decide ((2500:Int) < p1)) then (k true) else (bif (decide ((5:Int) < (p2.length:Int))) then (k true) else ((T5 F p0 p1).bind fun gQ=>((T6 F gQ.1 gQ.2.1 gQ.2.2.1 gQ.2.2.2.1).bind fun oY=>(bif (!gQ.2.2.2.2) then (k false) else (bif (oY.1 != (0:Int)) then (k false) else ((T8 F oY.2.2.1).bind fun LP=>((T7 F gQ.1 gQ.2.1 oY.2.1 LP).bind fun qa=>(bif (qa.1 != (0:Int)) then (k false) else ((iter (fun s=>mg F p2 gQ.1 gQ.2.1 oY.2.2.2 s.1 s.2.1 s.2.2.1 s.2.2.2.1 s.2.2.2.2.1 s.2.2.2.2.2.1 s.2.2.2.2.2.2.1 s.2.2.2.2.2.2.2) F ((0:Int),qa.2.1,qa.2.2.1,qa.2.2.2.1,([]:List Zj),qa.2.2.2.2.1,qa.2.2.2.2.2.1,qa.2.2.2.2.2.2)).bind fun oe=>bz (fun oe=>((TA F oe.1 oe.2.1 oe.2.2.1 oe.2.2.2.1 oe.2.2.2.2.1 oe.2.2.2.2.2).bind fun qZ=>(bif (qZ.2.2.2.2 == (0:Int)) then ((Ih F qZ.1 qZ.2.1 qZ.2.2.1 qZ.2.2.2.1).bind fun aqD=>(bif aqD then (bif (qZ.1 == gQ.1 && (qZ.2.1 == gQ.2.1 && true)) then (k (qZ.2.2.1 == gQ.2.2.1)) else (k false)) else (k false))) else (k false)))) (fun oe=>(k oe)) oe)))))))))))))
def T3 (F:Nat) (p0:UInt8) (p1:Int) (p2:List Int):=q7 F p0 p1 p2 some
abbrev WY:List Sh:=[.u8,.i,(.ro .i)]
def ct3 (F:Nat):Ct:=cu 0 WY [] [.bo] [] (fun x y=>T3 F x.1 x.2.1 x.2.2.1) (fun x y (z:Bool)=>((z,()),()))
theorem ok3 (F:Nat):Sound Tryz.prog cfg 3 (ct3 F):=
 ov (E:=E3 F) (lp:=[([1,0,1,1,1,1,1,1,1,1,1],aaz F)]) (code:=cC Tryz.f3) Tryz.func3 rfl Tryz.ntmps3 rfl rfl iY (Kw F) mixed ⟨ad7 F,trivial⟩ (by kernel_rfl) (fun x y k=>q7 F x.1 x.2.1 x.2.2.1 k) (fun _ _ _=>by simp only [T3,q7,oA,oC,oS,oN,ah]) (fun _ _=>by kernel_rfl)
end Go.Proofs.YtiahcmabcbpcpaaGreatDoor
namespace Go.Proofs.YtiahcmabcbpcpaaGreatDoor
open Go.Tw
structure Rows {α:Type} (rows:List (Option (List α))) (out:List Nat) (gs:List (List α)):Prop where
 len:out.length=gs.length
 at_:∀ (i:Nat) (g:List α),gs[i]? = some g->∃ q:Nat,out[i]? = some q∧rows[q]? = some (some g)
 nd:out.Nodup
section
variable {α:Type} {rows:List (Option (List α))} {out:List Nat} {gs:List (List α)}
theorem Rows.lt (H:Rows rows out gs) {q:Nat} (h:q ∈ out):q < rows.length:=by
 obtain ⟨i,hi⟩:=List.mem_iff_getElem?.1 h
 have hl:=(aM hi).1
 obtain ⟨q',h1,h2⟩:=H.at_ i _ (List.getElem?_eq_getElem (by rw [← H.len];exact hl))
 rw [hi] at h1;cases h1
 exact (aM h2).1
theorem VD {q:Nat} {g:List α} (h:rows[q]? = some (some g)):fC rows q=some g:=by unfold fC;rw [h]
theorem Rows.get (H:Rows rows out gs) {i:Nat} {g:List α} (h:gs[i]? = some g):∃ q,so out i=some q∧fC rows q=some g∧out[i]? = some q:=by
 obtain ⟨q,h1,h2⟩:=H.at_ i g h
 exact ⟨q,h1,VD h2,h1⟩
theorem Rows.mat_eq:∀ {out:List Nat} {gs:List (List α)},Rows rows out gs->n9 rows out=some gs
 | [],[],_=>rfl
 | [],_ :: _,H=>by have:=H.len;simp at this
 | _ :: _,[],H=>by have:=H.len;simp at this
 | q :: out,g :: gs,H=>by
  obtain ⟨q',h1,h2⟩:=H.at_ 0 g rfl
  simp at h1;subst h1
  have ih:=Rows.mat_eq (out:=out) (gs:=gs) ⟨by have:=H.len;simpa using this,fun i g' h=>by simpa using H.at_ (i + 1) g' (by simpa using h),(List.nodup_cons.1 H.nd).2⟩
  simp [n9,VD h2,ih]
theorem apq {l:List Nat} (h:l.Nodup) {i j q:Nat} (hi:l[i]? = some q) (hj:l[j]? = some q):i=j:=by
 obtain ⟨hi1,hi2⟩:=aM hi
 obtain ⟨qS,hj2⟩:=aM hj
 have hp:=List.pairwise_iff_getElem.1 h
 rcases Nat.lt_trichotomy i j with h' | h' | h'
 ·exact absurd (hi2.trans hj2.symm) (hp i j hi1 qS h')
 ·exact h'
 ·exact absurd (hj2.trans hi2.symm) (hp j i qS hi1 h')
theorem afG {l:List Nat} (h:∀ i j q:Nat,l[i]? = some q->l[j]? = some q->i=j):l.Nodup:=
 List.pairwise_iff_getElem.2 fun i j hi hj hij e=>by
  have:=h i j l[i] (List.getElem?_eq_getElem hi) (by rw [List.getElem?_eq_getElem hj,e])
  omega
end
theorem uC {σ ρ:Type} {f:σ->Option (σ ⊕ ρ)} {n:Nat} {s s':σ} (h:f s=some (.inl s')):iter f (n + 1) s=iter f n s':=by simp [iter,h]
theorem m7 {σ ρ:Type} {f:σ->Option (σ ⊕ ρ)} {n:Nat} {s:σ} {r:ρ} (h:f s=some (.inr r)):iter f (n + 1) s=some r:=by simp [iter,h]
theorem cL {σ ρ:Type} {f:σ->Option (σ ⊕ ρ)} (R:σ->Prop) (Q:ρ->Prop) (μ:σ->Nat)
  (step:∀ s,R s->(∃ s',f s=some (.inl s')∧R s'∧μ s' < μ s)∨(∃ r,f s=some (.inr r)∧Q r)) :
  ∀ (n:Nat) (s:σ),R s->μ s < n->∃ r,iter f n s=some r∧Q r
 | 0,s,_,h=>by omega
 | n + 1,s,hR,h=>by
  rcases step s hR with ⟨s',h1,h2,h3⟩ | ⟨r,h1,h2⟩
  ·rw [uC h1];exact cL R Q μ step n s' h2 (by omega)
  ·exact ⟨r,m7 h1,h2⟩
theorem cU {α:Type} {l:List α} {i:Nat} {x:α} (h:l[i]? = some x):ix l ((i:Nat):Int)=some x:=by
 have hi:=(aM h).1
 unfold ix
 rw [if_pos (by omega),Int.toNat_natCast];exact h
theorem iy {n i:Nat} (h:i < n):an n ((i:Nat):Int)=some i:=by unfold an;simp [h]
theorem d9 {α:Type} {xs ys:List α} (h:xs.length + ys.length≤1099511627776):aD xs ys=some (xs ++ ys):=by unfold aD;rw [if_pos h]
theorem dH {n:Nat} (h:n < 9223372036854775807):ag (((n:Nat):Int) + 1)=((n + 1:Nat):Int):=by rw [aY (by omega) (by omega)];omega
end Go.Proofs.YtiahcmabcbpcpaaGreatDoor
namespace Go.Proofs.YtiahcmabcbpcpaaGreatDoor
open Go.Tw
def bq (k:Nat):Int:=2 ^ (k / 4) * (64 + 16 * (k % 4:Nat))
def fc (need:Int):Nat->Nat->Int
 | 0,k=>bq k
 | m + 1,k=>bif decide (bq k < need) then fc need m (k + 1) else bq k
theorem t59 {k:Nat} (hk:k < 39) (F:Nat):Jb F (2 ^ (k / 4):Int) ((k % 4:Nat):Int)=some (bq k,(2 ^ ((k + 1) / 4):Int),(((k + 1) % 4:Nat):Int)):=by
 have:∀ k:Fin 39,Jb 0 (2 ^ (k.val / 4):Int) ((k.val % 4:Nat):Int)=some (bq k.val,(2 ^ ((k.val + 1) / 4):Int),(((k.val + 1) % 4:Nat):Int)):=by decide
 exact this ⟨k,hk⟩
theorem UE (F:Nat) (need:Int):∀ (m k fuel:Nat),k + m=37->m < fuel->need≤bq 37->iter (fun s:Int×Int×Int=>Ca F need s.1 s.2.1 s.2.2) fuel (bq k,(2 ^ ((k + 1) / 4):Int),(((k + 1) % 4:Nat):Int))=some (fc need m k)
 | 0,k,fuel + 1,hk,hf,hn=>by
  have:k=37:=by omega
  subst this
  have h:¬ bq 37 < need:=by omega
  simp [iter,Ca,yE,h,fc]
 | m + 1,k,fuel + 1,hk,hf,hn=>by
  by_cases h:bq k < need
  ·simp only [iter,Ca,yE,h,decide_true,cond_true,fc]
   rw [t59 (by omega)]
   simp only [Option.bind_some]
   exact UE F need m (k + 1) fuel (by omega) (by omega) hn
  ·simp [iter,Ca,yE,h,fc]
theorem Ns (x:UInt64):(cY x 7).toNat=x.toNat / 128:=by
 show (x.toBitVec >>> 7).toNat=_
 rw [BitVec.toNat_ushiftRight,Nat.shiftRight_eq_div_pow];rfl
def sz (n:Nat):Nat:=if n < 128 then 1 else if n < 16384 then 2 else 3
theorem lK {σ ρ:Type} {f:σ->Option (σ ⊕ ρ)} {n:Nat} {s s':σ} (h:f s=some (.inl s')):iter f (n + 1) s=iter f n s':=by simp [iter,h]
theorem iW {σ ρ:Type} {f:σ->Option (σ ⊕ ρ)} {n:Nat} {s:σ} {r:ρ} (h:f s=some (.inr r)):iter f (n + 1) s=some r:=by simp [iter,h]
theorem XM (F:Nat) {x:UInt64} {c:Int} (h:128≤x.toNat):CO F x c=some (.inl (cY x 7,ag (c + 1))):=by
 have:UInt64.ofNat 128≤x:=h
 simp only [CO,zL,this,decide_true,cond_true];rfl
theorem Nn (F:Nat) {x:UInt64} {c:Int} (h:¬ 128≤x.toNat):CO F x c=some (.inr c):=by
 have:¬ UInt64.ofNat 128≤x:=h
 simp only [CO,zL,this,decide_false,cond_false]
theorem t40 {F:Nat} (hF:4 < F) (x:UInt64) (hx:x.toNat≤32768):JK F x=some ((sz x.toNat:Nat):Int):=by
 obtain ⟨n,rfl⟩:∃ n,F=n + 4:=⟨F - 4,by omega⟩
 have w1:ag ((1:Int) + 1)=2:=by decide
 have w2:ag ((2:Int) + 1)=3:=by decide
 have d1:=Ns x
 have d2:=Ns (cY x 7)
 simp only [JK,HB]
 by_cases h1:x.toNat < 128
 ·rw [iW (Nn _ (x:=x) (by omega))];simp [sz,h1]
 ·rw [lK (XM _ (x:=x) (by omega)),w1]
  by_cases h2:x.toNat < 16384
  ·rw [iW (Nn _ (x:=cY x 7) (by omega))];simp [sz,h1,h2]
  ·rw [lK (XM _ (x:=cY x 7) (by omega)),w2,iW (Nn _ (x:=cY (cY x 7) 7) (by omega))];simp [sz,h1,h2]
def need (n:Int):Int:=(sz n.toNat:Int) + n + 16
def eL (n:Int):Int:=fc (need n) 37 0
theorem Pr:∀ k:Nat,(1:Int)≤2 ^ k
 | 0=>by simp
 | k + 1=>by have:=Pr k;rw [Int.pow_succ];omega
theorem acp (need:Int):∀ (m k:Nat),64≤fc need m k
 | 0,k=>by
  have h1:(1:Int)≤2 ^ (k / 4):=Pr _
  have h2:(64:Int)≤64 + 16 * (k % 4:Nat):=by omega
  have:=Int.mul_le_mul h1 h2 (by omega) (by omega)
  simp only [fc,bq];omega
 | m + 1,k=>by
  have h1:(1:Int)≤2 ^ (k / 4):=Pr _
  have h2:(64:Int)≤64 + 16 * (k % 4:Nat):=by omega
  have:=Int.mul_le_mul h1 h2 (by omega) (by omega)
  simp only [fc]
  cases decide (bq k < need) with
  | true=>exact acp need m (k + 1)
  | false=>simp only [cond_false,bq];omega
theorem YP (n:Int):64≤eL n:=acp _ _ _
theorem FB {F:Nat} (hF:50 < F) {n:Int} (h0:0≤n) (h1:n≤32768):kN F n=some (eL n,0)∧True∧True:=by
 have JE:¬ n < 0:=by omega
 have je:¬ 32768 < n:=by omega
 have hx:(UInt64.ofInt n).toNat=n.toNat:=by
  show (UInt64.ofNat (n % 2 ^ 64).toNat).toNat=_
  rw [UInt64.toNat_ofNat'];omega
 have hx':(UInt64.ofInt n).toNat≤32768:=by omega
 have h41:Xh F=some ((2 ^ (0 / 4):Int),((0 % 4:Nat):Int)):=rfl
 have hs:1≤sz n.toNat∧sz n.toNat≤3:=by unfold sz;split<;>(try split)<;>omega
 have hw:ag (ag (((sz n.toNat:Nat):Int) + n) + 16)=need n:=by
  rw [aY (n:=((sz n.toNat:Nat):Int) + n) (by omega) (by omega),aY (by omega) (by omega)];rfl
 have arx:need n≤bq 37:=by
  have:bq 37=40960:=by decide
  unfold need
  omega
 refine ⟨?_,?_,?_⟩
 ·simp only [kN,Lt,JE,je,decide_false,cond_false]
  rw [t40 (by omega) _ hx',h41]
  simp only [Option.bind_some]
  rw [t59 (k:=0) (by omega)]
  simp only [Option.bind_some]
  have l14:=UE F (need n) 37 0 F (by omega) (by omega) arx
  rw [hx,hw,l14];rfl
 ·trivial
 ·trivial
def Nm (F:Nat) (bN:List UInt8) {β:Type} (kA:((List UInt8))->Option β) (kO:((List UInt8))->Option β):Option β:=
 (bif ((Int.tmod (bN.length:Int) (64:Int)) != (56:Int)) then (Option.bind (aD bN ([(UInt8.ofNat 0)]:List UInt8)) fun Mk=>(kA Mk)) else (kO bN))
def Bz (F:Nat) (bN:List UInt8):Option (((List UInt8)) ⊕ ((List UInt8))):=Nm F bN (fun s=>some (.inl s)) (fun z=>some (.inr z))
def Sr (F:Nat) (dK:UInt64) (gp:Int) (eP:List UInt8) {β:Type} (kA:(Int×(List UInt8))->Option β) (kO:((List UInt8))->Option β):Option β:=
 (bif (decide ((0:Int)≤gp)) then (Option.bind (cX (ag ((8:Int) * gp))) fun oL=>(Option.bind (aD eP ([((cY dK oL).toUInt8)]:List UInt8)) fun j7=>(kA ((ag (gp - (1:Int))),j7)))) else (kO eP))
def Cn (F:Nat) (dK:UInt64) (gp:Int) (eP:List UInt8):Option ((Int×(List UInt8)) ⊕ ((List UInt8))):=Sr F dK gp eP (fun s=>some (.inl s)) (fun z=>some (.inr z))
def Ys (F:Nat) (p0:List UInt8) {β:Type} (k:((List UInt8))->Option β):Option β:=
 (Option.bind (aD ([]:List UInt8) p0) fun gV=>(Option.bind (aD gV ([(UInt8.ofNat 128)]:List UInt8)) fun j4=>(Option.bind (iter (fun s=>Bz F s) F j4) fun sL=>(Option.bind (iter (fun s=>Cn F ((UInt64.ofInt (p0.length:Int)) * (UInt64.ofNat 8)) s.1 s.2) F ((7:Int),sL)) fun lU=>(k lU)))))
def Ub (F:Nat) (p0:List UInt8):Option ((List UInt8)):=Ys F p0 some
def ass (F:Nat) {β:Type} (k:((Vector UInt32 64))->Option β):Option β:=
 (k (#v[(UInt32.ofNat 1116352408),(UInt32.ofNat 1899447441),(UInt32.ofNat 3049323471),(UInt32.ofNat 3921009573),(UInt32.ofNat 961987163),(UInt32.ofNat 1508970993),(UInt32.ofNat 2453635748),(UInt32.ofNat 2870763221),(UInt32.ofNat 3624381080),(UInt32.ofNat 310598401),(UInt32.ofNat 607225278),(UInt32.ofNat 1426881987),(UInt32.ofNat 1925078388),(UInt32.ofNat 2162078206),(UInt32.ofNat 2614888103),(UInt32.ofNat 3248222580),(UInt32.ofNat 3835390401),(UInt32.ofNat 4022224774),(UInt32.ofNat 264347078),(UInt32.ofNat 604807628),(UInt32.ofNat 770255983),(UInt32.ofNat 1249150122),(UInt32.ofNat 1555081692),(UInt32.ofNat 1996064986),(UInt32.ofNat 2554220882),(UInt32.ofNat 2821834349),(UInt32.ofNat 2952996808),(UInt32.ofNat 3210313671),(UInt32.ofNat 3336571891),(UInt32.ofNat 3584528711),(UInt32.ofNat 113926993),(UInt32.ofNat 338241895),(UInt32.ofNat 666307205),(UInt32.ofNat 773529912),(UInt32.ofNat 1294757372),(UInt32.ofNat 1396182291),(UInt32.ofNat 1695183700),(UInt32.ofNat 1986661051),(UInt32.ofNat 2177026350),(UInt32.ofNat 2456956037),(UInt32.ofNat 2730485921),(UInt32.ofNat 2820302411),(UInt32.ofNat 3259730800),(UInt32.ofNat 3345764771),(UInt32.ofNat 3516065817),(UInt32.ofNat 3600352804),(UInt32.ofNat 4094571909),(UInt32.ofNat 275423344),(UInt32.ofNat 430227734),(UInt32.ofNat 506948616),(UInt32.ofNat 659060556),(UInt32.ofNat 883997877),(UInt32.ofNat 958139571),(UInt32.ofNat 1322822218),(UInt32.ofNat 1537002063),(UInt32.ofNat 1747873779),(UInt32.ofNat 1955562222),(UInt32.ofNat 2024104815),(UInt32.ofNat 2227730452),(UInt32.ofNat 2361852424),(UInt32.ofNat 2428436474),(UInt32.ofNat 2756734187),(UInt32.ofNat 3204031479),(UInt32.ofNat 3329325298)]:Vector UInt32 64))
def acn (F:Nat):Option ((Vector UInt32 64)):=ass F some
def mr (F:Nat) (p0:UInt32) (p1:Int) {β:Type} (k:UInt32->Option β):Option β:=
 (Option.bind (cX p1) fun x3=>(Option.bind (cX (ag ((32:Int) - p1))) fun x4=>(k ((cn p0 x3) ||| (ey p0 x4)))))
def ef (F:Nat) (p0:UInt32) (p1:Int):Option (UInt32):=mr F p0 p1 some
def YT (F:Nat) (mN:List UInt8) (jQ:Int) (qC:Vector UInt32 64) {β:Type} (kA:(Int×(Vector UInt32 64))->Option β) (kO:((Vector UInt32 64))->Option β):Option β:=
 (bif (decide (jQ < (16:Int))) then (Option.bind (ix mN (ag ((4:Int) * jQ))) fun sK=>(Option.bind (ix mN (ag ((ag ((4:Int) * jQ)) + (1:Int)))) fun wE=>(Option.bind (ix mN (ag ((ag ((4:Int) * jQ)) + (2:Int)))) fun g_=>(Option.bind (ix mN (ag ((ag ((4:Int) * jQ)) + (3:Int)))) fun oF=>(Option.bind (an 64 jQ) fun vn=>(kA ((ag (jQ + (1:Int))),(Vector.setIfInBounds qC vn ((((ey (sK.toUInt32) ((UInt64.ofNat 24).toNat)) ||| (ey (wE.toUInt32) ((UInt64.ofNat 16).toNat))) ||| (ey (g_.toUInt32) ((UInt64.ofNat 8).toNat))) ||| (oF.toUInt32)))))))))) else (kO qC))
def Eg (F:Nat) (mN:List UInt8) (jQ:Int) (qC:Vector UInt32 64):Option ((Int×(Vector UInt32 64)) ⊕ ((Vector UInt32 64))):=YT F mN jQ qC (fun s=>some (.inl s)) (fun z=>some (.inr z))
def Uf (F:Nat) (kx:Int) (k_:Vector UInt32 64) {β:Type} (kA:(Int×(Vector UInt32 64))->Option β) (kO:((Vector UInt32 64))->Option β):Option β:=
 (bif (decide (kx < (64:Int))) then (Option.bind (an 64 (ag (kx - (15:Int)))) fun ur=>(Option.bind (aA k_ ur) fun tZ=>(Option.bind (an 64 (ag (kx - (15:Int)))) fun CM=>(Option.bind (aA k_ CM) fun D3=>(Option.bind (an 64 (ag (kx - (15:Int)))) fun DZ=>(Option.bind (aA k_ DZ) fun CT=>(Option.bind (ef F tZ (7:Int)) fun yC=>(Option.bind (ef F D3 (18:Int)) fun adx=>(Option.bind (an 64 (ag (kx - (2:Int)))) fun Q3=>(Option.bind (aA k_ Q3) fun R7=>(Option.bind (an 64 (ag (kx - (2:Int)))) fun OB=>(Option.bind (aA k_ OB) fun apr=>(Option.bind (an 64 (ag (kx - (2:Int)))) fun ahD=>(Option.bind (aA k_ ahD) fun al3=>(Option.bind (ef F R7 (17:Int)) fun gQ=>(Option.bind (ef F apr (19:Int)) fun oY=>(Option.bind (an 64 (ag (kx - (7:Int)))) fun O4=>(Option.bind (aA k_ O4) fun EE=>(Option.bind (an 64 (ag (kx - (16:Int)))) fun akP=>(Option.bind (aA k_ akP) fun ae3=>(Option.bind (an 64 kx) fun HF=>(kA ((ag (kx + (1:Int))),(Vector.setIfInBounds k_ HF (((((gQ ^^^ oY) ^^^ (cn al3 ((UInt64.ofNat 10).toNat))) + EE) + ((yC ^^^ adx) ^^^ (cn CT ((UInt64.ofNat 3).toNat)))) + ae3))))))))))))))))))))))))) else (kO k_))
def Ec (F:Nat) (kx:Int) (k_:Vector UInt32 64):Option ((Int×(Vector UInt32 64)) ⊕ ((Vector UInt32 64))):=Uf F kx k_ (fun s=>some (.inl s)) (fun z=>some (.inr z))
def Va (F:Nat) (iu:Vector UInt32 64) (qT:Vector UInt32 64) (yX:Int) (fy:Vector UInt32 8) {β:Type} (kA:(Int×(Vector UInt32 8))->Option β) (kO:((Vector UInt32 8))->Option β):Option β:=
 (bif (decide (yX < (64:Int))) then (Option.bind (aA fy 0) fun sE=>(Option.bind (aA fy 1) fun B3=>(Option.bind (aA fy 2) fun DU=>(Option.bind (aA fy 4) fun qo=>(Option.bind (aA fy 5) fun B7=>(Option.bind (aA fy 6) fun Ai=>(Option.bind (aA fy 7) fun F9=>(Option.bind (an 64 yX) fun QH=>(Option.bind (aA iu QH) fun HJ=>(Option.bind (an 64 yX) fun afm=>(Option.bind (aA qT afm) fun Wu=>(Option.bind (ef F qo (6:Int)) fun X8=>(Option.bind (ef F qo (11:Int)) fun aab=>(Option.bind (ef F qo (25:Int)) fun Up=>(Option.bind (ef F sE (2:Int)) fun aiK=>(Option.bind (ef F sE (13:Int)) fun aey=>(Option.bind (ef F sE (22:Int)) fun adX=>(Option.bind (aA fy 3) fun ap6=>(kA ((ag (yX + (1:Int))),(#v[(((((F9 + ((X8 ^^^ aab) ^^^ Up)) + ((qo &&& B7) ^^^ ((~~~qo) &&& Ai))) + HJ) + Wu) + (((aiK ^^^ aey) ^^^ adX) + (((sE &&& B3) ^^^ (sE &&& DU)) ^^^ (B3 &&& DU)))),sE,B3,DU,(ap6 + ((((F9 + ((X8 ^^^ aab) ^^^ Up)) + ((qo &&& B7) ^^^ ((~~~qo) &&& Ai))) + HJ) + Wu)),qo,B7,Ai]:Vector UInt32 8))))))))))))))))))))) else (kO fy))
def AR (F:Nat) (iu:Vector UInt32 64) (qT:Vector UInt32 64) (yX:Int) (fy:Vector UInt32 8):Option ((Int×(Vector UInt32 8)) ⊕ ((Vector UInt32 8))):=Va F iu qT yX fy (fun s=>some (.inl s)) (fun z=>some (.inr z))
def XE (F:Nat) (OO:Vector UInt32 8) (tj:Int) (CQ:Vector UInt32 8) {β:Type} (kA:(Int×(Vector UInt32 8))->Option β) (kO:((Vector UInt32 8))->Option β):Option β:=
 (bif (decide (tj < (8:Int))) then (Option.bind (an 8 tj) fun ai_=>(Option.bind (aA CQ ai_) fun ar7=>(Option.bind (an 8 tj) fun af_=>(Option.bind (aA OO af_) fun aec=>(Option.bind (an 8 tj) fun am6=>(kA ((ag (tj + (1:Int))),(Vector.setIfInBounds CQ am6 (ar7 + aec))))))))) else (kO CQ))
def CH (F:Nat) (OO:Vector UInt32 8) (tj:Int) (CQ:Vector UInt32 8):Option ((Int×(Vector UInt32 8)) ⊕ ((Vector UInt32 8))):=XE F OO tj CQ (fun s=>some (.inl s)) (fun z=>some (.inr z))
def W5 (F:Nat) (p0:Vector UInt32 8) (p1:List UInt8) {β:Type} (k:((Vector UInt32 8))->Option β):Option β:=
 (Option.bind (acn F) fun adB=>(Option.bind (iter (fun s=>Eg F p1 s.1 s.2) F ((0:Int),(Vector.replicate 64 (0:UInt32)))) fun R5=>(Option.bind (iter (fun s=>Ec F s.1 s.2) F ((16:Int),R5)) fun acV=>(Option.bind (iter (fun s=>AR F adB acV s.1 s.2) F ((0:Int),p0)) fun ag_=>(Option.bind (iter (fun s=>CH F p0 s.1 s.2) F ((0:Int),ag_)) fun an5=>(k an5))))))
def Dt (F:Nat) (p0:Vector UInt32 8) (p1:List UInt8):Option ((Vector UInt32 8)):=W5 F p0 p1 some
def N8 (F:Nat) (iC:List UInt8) (iJ:Int) (fh:Vector UInt32 8) {β:Type} (kA:(Int×(Vector UInt32 8))->Option β) (kO:((Vector UInt32 8))->Option β):Option β:=
 (bif (decide (iJ < (iC.length:Int))) then (Option.bind (bW iC.length iJ (ag (iJ + (64:Int)))) fun f9=>(Option.bind (Dt F fh ((iC.drop f9.1).take (f9.2 - f9.1))) fun z39=>(kA ((ag (iJ + (64:Int))),z39)))) else (kO fh))
def rJ (F:Nat) (iC:List UInt8) (iJ:Int) (fh:Vector UInt32 8):Option ((Int×(Vector UInt32 8)) ⊕ ((Vector UInt32 8))):=N8 F iC iJ fh (fun s=>some (.inl s)) (fun z=>some (.inr z))
def Y1 (F:Nat) (i_:Vector UInt32 8) (gv:Int) (fV:List UInt8) {β:Type} (kA:(Int×(List UInt8))->Option β) (kO:((List UInt8))->Option β):Option β:=
 (bif (decide (gv < (8:Int))) then (Option.bind (an 8 gv) fun BW=>(Option.bind (aA i_ BW) fun lO=>(Option.bind (an 8 gv) fun x55=>(Option.bind (aA i_ x55) fun nO=>(Option.bind (an 8 gv) fun Mg=>(Option.bind (aA i_ Mg) fun zZ=>(Option.bind (an 8 gv) fun x59=>(Option.bind (aA i_ x59) fun Mh=>(Option.bind (aD fV ([((cn lO ((UInt64.ofNat 24).toNat)).toUInt8),((cn nO ((UInt64.ofNat 16).toNat)).toUInt8),((cn zZ ((UInt64.ofNat 8).toNat)).toUInt8),(Mh.toUInt8)]:List UInt8)) fun IF=>(kA ((ag (gv + (1:Int))),IF))))))))))) else (kO fV))
def Kg (F:Nat) (i_:Vector UInt32 8) (gv:Int) (fV:List UInt8):Option ((Int×(List UInt8)) ⊕ ((List UInt8))):=Y1 F i_ gv fV (fun s=>some (.inl s)) (fun z=>some (.inr z))
def VK (F:Nat) (p0:List UInt8) {β:Type} (k:((List UInt8))->Option β):Option β:=
 (Option.bind (Ub F p0) fun k8=>(Option.bind (iter (fun s=>rJ F k8 s.1 s.2) F ((0:Int),(#v[(UInt32.ofNat 1779033703),(UInt32.ofNat 3144134277),(UInt32.ofNat 1013904242),(UInt32.ofNat 2773480762),(UInt32.ofNat 1359893119),(UInt32.ofNat 2600822924),(UInt32.ofNat 528734635),(UInt32.ofNat 1541459225)]:Vector UInt32 8))) fun BR=>(Option.bind (iter (fun s=>Kg F BR s.1 s.2) F ((0:Int),([]:List UInt8))) fun z62=>(k z62))))
def sS (F:Nat) (p0:List UInt8):Option ((List UInt8)):=VK F p0 some
theorem qs {σ τ ρ ρ':Type} {f:σ->Option (σ ⊕ ρ)} {g:τ->Option (τ ⊕ ρ')} (R:σ->τ->Prop) (Q:ρ->ρ'->Prop) (μ:σ->Nat)
  (h:∀ s t,R s t->(∃ s' t',f s=some (.inl s')∧g t=some (.inl t')∧R s' t'∧μ s' < μ s)∨(∃ r r',f s=some (.inr r)∧g t=some (.inr r')∧Q r r')) :
  ∀ (n m:Nat) (s:σ) (t:τ),R s t->μ s < n->μ s < m->∃ r r',iter f n s=some r∧iter g m t=some r'∧Q r r'
 | 0,m,s,t,hR,hn,hm=>absurd hn (by omega)
 | n + 1,0,s,t,hR,hn,hm=>absurd hm (by omega)
 | n + 1,m + 1,s,t,hR,hn,hm=>by
  rcases h s t hR with ⟨s',t',h1,h2,h3,h4⟩ | ⟨r,r',h1,h2,h3⟩
  ·rw [lK h1,lK h2]
   exact qs R Q μ h n m s' t' h3 (by omega) (by omega)
  ·exact ⟨r,r',iW h1,iW h2,h3⟩
theorem VO {σ τ ρ ρ':Type} {f:σ->Option (σ ⊕ ρ)} {g:τ->Option (τ ⊕ ρ')} (R:σ->τ->Prop) (Q:σ->ρ'->Prop) (μ:σ->Nat)
  (h:∀ s t,R s t->(∃ s' t',f s=some (.inl s')∧g t=some (.inl t')∧R s' t'∧μ s' < μ s)∨(∃ r',g t=some (.inr r')∧Q s r')) :
  ∀ (m:Nat) (s:σ) (t:τ),R s t->μ s < m->∃ k s' r',k≤μ s∧iter g m t=some r'∧Q s' r'∧∀ n,iter f (n + k) s=iter f n s'
 | 0,s,t,hR,hm=>absurd hm (by omega)
 | m + 1,s,t,hR,hm=>by
  rcases h s t hR with ⟨s',t',h1,h2,h3,h4⟩ | ⟨r',h1,h2⟩
  ·obtain ⟨k,s'',r',a1,a2,a3,a4⟩:=VO R Q μ h m s' t' h3 (by omega)
   exact ⟨k + 1,s'',r',by omega,(lK h2).trans a2,a3,fun n=>(lK (n:=n + k) h1).trans (a4 n)⟩
  ·exact ⟨0,s,r',by omega,iW h1,h2,fun n=>rfl⟩
theorem dJ {n i:Nat} (h:i < n):an n ((i:Nat):Int)=some i:=by
 unfold an;rw [if_pos (by omega)];simp only [Int.toNat_natCast]
theorem de {α:Type} {n i:Nat} {v:Vector α n} (h:i < n):aA v i=some v[i]:=by
 rw [FP];exact getElem?_pos v i h
theorem wS {α:Type} {n i:Nat} {v:Vector α n} (h:i < n):dc v ((i:Nat):Int)=some v[i]:=by
 unfold dc;rw [if_pos (by omega)];simp only [Int.toNat_natCast];exact getElem?_pos v i h
theorem lR {α:Type} {l:List α} {a b:Nat} (h:a≤b) (hb:b≤l.length):bk l ((a:Nat):Int) ((b:Nat):Int)=some ((l.drop a).take (b - a)):=by
 unfold bk;rw [if_pos (by omega)];simp only [Int.toNat_natCast]
theorem jR {n a b:Nat} (h:a≤b) (hb:b≤n):bW n ((a:Nat):Int) ((b:Nat):Int)=some (a,b):=by
 unfold bW;rw [if_pos (by omega)];simp only [Int.toNat_natCast]
theorem l_ {α:Type} {l:List α} {i:Nat} (h:i < l.length):ix l ((i:Nat):Int)=some l[i]:=cU (List.getElem?_eq_getElem h)
theorem KI {p:List UInt8} {a k:Nat} (h:a + k < p.length) (hk:k < 4):ix ((p.drop a).take 4) ((k:Nat):Int)=some p[a + k]:=by
 rw [l_ (by simp;omega)];simp
def rr (x:UInt32) (k:Nat):UInt32:=cn x k ||| ey x (32 - k)
theorem UJ (F:Nat) (x:UInt32):bc F x (-17)=some (rr x 17):=by
 have e1:((UInt64.ofInt (-17)) &&& (UInt64.ofNat 31)).toNat=15:=by decide +kernel
 have e2:((UInt64.ofNat 32) - ((UInt64.ofInt (-17)) &&& (UInt64.ofNat 31))).toNat=17:=by decide +kernel
 simp only [bc,iK,e1,e2,rr]
 rw [UInt32.or_comm]
theorem aqZ (F:Nat) (x:UInt32):ef F x 17=some (rr x 17):=by
 have e1:cX (17:Int)=some 17:=by decide +kernel
 have e2:cX (ag ((32:Int) - 17))=some 15:=by decide +kernel
 simp only [ef,mr,e1,e2,rr,Option.bind_some]
theorem ab6 (F:Nat) (x:UInt32):bc F x (-19)=some (rr x 19):=by
 have e1:((UInt64.ofInt (-19)) &&& (UInt64.ofNat 31)).toNat=13:=by decide +kernel
 have e2:((UInt64.ofNat 32) - ((UInt64.ofInt (-19)) &&& (UInt64.ofNat 31))).toNat=19:=by decide +kernel
 simp only [bc,iK,e1,e2,rr]
 rw [UInt32.or_comm]
theorem amt (F:Nat) (x:UInt32):ef F x 19=some (rr x 19):=by
 have e1:cX (19:Int)=some 19:=by decide +kernel
 have e2:cX (ag ((32:Int) - 19))=some 13:=by decide +kernel
 simp only [ef,mr,e1,e2,rr,Option.bind_some]
theorem Yp (F:Nat) (x:UInt32):bc F x (-7)=some (rr x 7):=by
 have e1:((UInt64.ofInt (-7)) &&& (UInt64.ofNat 31)).toNat=25:=by decide +kernel
 have e2:((UInt64.ofNat 32) - ((UInt64.ofInt (-7)) &&& (UInt64.ofNat 31))).toNat=7:=by decide +kernel
 simp only [bc,iK,e1,e2,rr]
 rw [UInt32.or_comm]
theorem ad9 (F:Nat) (x:UInt32):ef F x 7=some (rr x 7):=by
 have e1:cX (7:Int)=some 7:=by decide +kernel
 have e2:cX (ag ((32:Int) - 7))=some 25:=by decide +kernel
 simp only [ef,mr,e1,e2,rr,Option.bind_some]
theorem aaU (F:Nat) (x:UInt32):bc F x (-18)=some (rr x 18):=by
 have e1:((UInt64.ofInt (-18)) &&& (UInt64.ofNat 31)).toNat=14:=by decide +kernel
 have e2:((UInt64.ofNat 32) - ((UInt64.ofInt (-18)) &&& (UInt64.ofNat 31))).toNat=18:=by decide +kernel
 simp only [bc,iK,e1,e2,rr]
 rw [UInt32.or_comm]
theorem ape (F:Nat) (x:UInt32):ef F x 18=some (rr x 18):=by
 have e1:cX (18:Int)=some 18:=by decide +kernel
 have e2:cX (ag ((32:Int) - 18))=some 14:=by decide +kernel
 simp only [ef,mr,e1,e2,rr,Option.bind_some]
theorem aq9 (F:Nat) (x:UInt32):bc F x (-6)=some (rr x 6):=by
 have e1:((UInt64.ofInt (-6)) &&& (UInt64.ofNat 31)).toNat=26:=by decide +kernel
 have e2:((UInt64.ofNat 32) - ((UInt64.ofInt (-6)) &&& (UInt64.ofNat 31))).toNat=6:=by decide +kernel
 simp only [bc,iK,e1,e2,rr]
 rw [UInt32.or_comm]
theorem arF (F:Nat) (x:UInt32):ef F x 6=some (rr x 6):=by
 have e1:cX (6:Int)=some 6:=by decide +kernel
 have e2:cX (ag ((32:Int) - 6))=some 26:=by decide +kernel
 simp only [ef,mr,e1,e2,rr,Option.bind_some]
theorem acz (F:Nat) (x:UInt32):bc F x (-11)=some (rr x 11):=by
 have e1:((UInt64.ofInt (-11)) &&& (UInt64.ofNat 31)).toNat=21:=by decide +kernel
 have e2:((UInt64.ofNat 32) - ((UInt64.ofInt (-11)) &&& (UInt64.ofNat 31))).toNat=11:=by decide +kernel
 simp only [bc,iK,e1,e2,rr]
 rw [UInt32.or_comm]
theorem alU (F:Nat) (x:UInt32):ef F x 11=some (rr x 11):=by
 have e1:cX (11:Int)=some 11:=by decide +kernel
 have e2:cX (ag ((32:Int) - 11))=some 21:=by decide +kernel
 simp only [ef,mr,e1,e2,rr,Option.bind_some]
theorem acX (F:Nat) (x:UInt32):bc F x (-25)=some (rr x 25):=by
 have e1:((UInt64.ofInt (-25)) &&& (UInt64.ofNat 31)).toNat=7:=by decide +kernel
 have e2:((UInt64.ofNat 32) - ((UInt64.ofInt (-25)) &&& (UInt64.ofNat 31))).toNat=25:=by decide +kernel
 simp only [bc,iK,e1,e2,rr]
 rw [UInt32.or_comm]
theorem alE (F:Nat) (x:UInt32):ef F x 25=some (rr x 25):=by
 have e1:cX (25:Int)=some 25:=by decide +kernel
 have e2:cX (ag ((32:Int) - 25))=some 7:=by decide +kernel
 simp only [ef,mr,e1,e2,rr,Option.bind_some]
theorem arT (F:Nat) (x:UInt32):bc F x (-2)=some (rr x 2):=by
 have e1:((UInt64.ofInt (-2)) &&& (UInt64.ofNat 31)).toNat=30:=by decide +kernel
 have e2:((UInt64.ofNat 32) - ((UInt64.ofInt (-2)) &&& (UInt64.ofNat 31))).toNat=2:=by decide +kernel
 simp only [bc,iK,e1,e2,rr]
 rw [UInt32.or_comm]
theorem ahn (F:Nat) (x:UInt32):ef F x 2=some (rr x 2):=by
 have e1:cX (2:Int)=some 2:=by decide +kernel
 have e2:cX (ag ((32:Int) - 2))=some 30:=by decide +kernel
 simp only [ef,mr,e1,e2,rr,Option.bind_some]
theorem ajI (F:Nat) (x:UInt32):bc F x (-13)=some (rr x 13):=by
 have e1:((UInt64.ofInt (-13)) &&& (UInt64.ofNat 31)).toNat=19:=by decide +kernel
 have e2:((UInt64.ofNat 32) - ((UInt64.ofInt (-13)) &&& (UInt64.ofNat 31))).toNat=13:=by decide +kernel
 simp only [bc,iK,e1,e2,rr]
 rw [UInt32.or_comm]
theorem ahv (F:Nat) (x:UInt32):ef F x 13=some (rr x 13):=by
 have e1:cX (13:Int)=some 13:=by decide +kernel
 have e2:cX (ag ((32:Int) - 13))=some 19:=by decide +kernel
 simp only [ef,mr,e1,e2,rr,Option.bind_some]
theorem ahZ (F:Nat) (x:UInt32):bc F x (-22)=some (rr x 22):=by
 have e1:((UInt64.ofInt (-22)) &&& (UInt64.ofNat 31)).toNat=10:=by decide +kernel
 have e2:((UInt64.ofNat 32) - ((UInt64.ofInt (-22)) &&& (UInt64.ofNat 31))).toNat=22:=by decide +kernel
 simp only [bc,iK,e1,e2,rr]
 rw [UInt32.or_comm]
theorem adP (F:Nat) (x:UInt32):ef F x 22=some (rr x 22):=by
 have e1:cX (22:Int)=some 22:=by decide +kernel
 have e2:cX (ag ((32:Int) - 22))=some 10:=by decide +kernel
 simp only [ef,mr,e1,e2,rr,Option.bind_some]
def yL (a b c d:UInt8):UInt32:=(((ey (a.toUInt32) ((UInt64.ofNat 24).toNat)) ||| (ey (b.toUInt32) ((UInt64.ofNat 16).toNat))) ||| (ey (c.toUInt32) ((UInt64.ofNat 8).toNat))) ||| (d.toUInt32)
def yT (a b c d:UInt32):UInt32:=((((rr a 17 ^^^ rr a 19) ^^^ (cn a ((UInt64.ofNat 10).toNat))) + b) + ((rr c 7 ^^^ rr c 18) ^^^ (cn c ((UInt64.ofNat 3).toNat)))) + d
theorem aaB (F:Nat) {p:List UInt8} (hp:p.length=64) {i:Nat} (hi:i < 16) (w:Vector UInt32 64) :
  ol F p ((i:Nat):Int) w=some (.inl (((i + 1:Nat):Int),w.setIfInBounds i (yL p[4 * i] p[4 * i + 1] p[4 * i + 2] p[4 * i + 3]))):=by
 have h1:(((i:Nat):Int) < 64):=by omega
 have h2:(((i:Nat):Int) < 16):=by omega
 have e1:ag ((4:Int) * ((i:Nat):Int))=((4 * i:Nat):Int):=by rw [aY (by omega) (by omega)];omega
 have e2:ag (((4 * i:Nat):Int) + 4)=((4 * i + 4:Nat):Int):=by rw [aY (by omega) (by omega)];omega
 have e3:ag (((i:Nat):Int) + 1)=((i + 1:Nat):Int):=by rw [aY (by omega) (by omega)];omega
 have g:bk p ((4 * i:Nat):Int) ((4 * i + 4:Nat):Int)=some ((p.drop (4 * i)).take 4):=by
  rw [lR (by omega) (by omega),Nat.add_sub_cancel_left]
 have x0:ix ((p.drop (4 * i)).take 4) (0:Int)=some p[4 * i]:=KI (k:=0) (by omega) (by omega)
 have x1:ix ((p.drop (4 * i)).take 4) (1:Int)=some p[4 * i + 1]:=KI (k:=1) (by omega) (by omega)
 have x2:ix ((p.drop (4 * i)).take 4) (2:Int)=some p[4 * i + 2]:=KI (k:=2) (by omega) (by omega)
 have x3:ix ((p.drop (4 * i)).take 4) (3:Int)=some p[4 * i + 3]:=KI (k:=3) (by omega) (by omega)
 have n:an 64 ((i:Nat):Int)=some i:=dJ (by omega)
 simp only [ol,Ef,h1,h2,decide_true,cond_true,e1,e2,e3,g,x0,x1,x2,x3,n,Option.bind_some,yL]
theorem anx (F:Nat) {p:List UInt8} (hp:p.length=64) {i:Nat} (hi:i < 16) (w:Vector UInt32 64) :
  Eg F p ((i:Nat):Int) w=some (.inl (((i + 1:Nat):Int),w.setIfInBounds i (yL p[4 * i] p[4 * i + 1] p[4 * i + 2] p[4 * i + 3]))):=by
 have h2:(((i:Nat):Int) < 16):=by omega
 have e1:ag ((4:Int) * ((i:Nat):Int))=((4 * i:Nat):Int):=by rw [aY (by omega) (by omega)];omega
 have f1:ag (((4 * i:Nat):Int) + 1)=((4 * i + 1:Nat):Int):=by rw [aY (by omega) (by omega)];omega
 have f2:ag (((4 * i:Nat):Int) + 2)=((4 * i + 2:Nat):Int):=by rw [aY (by omega) (by omega)];omega
 have f3:ag (((4 * i:Nat):Int) + 3)=((4 * i + 3:Nat):Int):=by rw [aY (by omega) (by omega)];omega
 have e3:ag (((i:Nat):Int) + 1)=((i + 1:Nat):Int):=by rw [aY (by omega) (by omega)];omega
 have x0:ix p ((4 * i:Nat):Int)=some p[4 * i]:=l_ (by omega)
 have x1:ix p ((4 * i + 1:Nat):Int)=some p[4 * i + 1]:=l_ (by omega)
 have x2:ix p ((4 * i + 2:Nat):Int)=some p[4 * i + 2]:=l_ (by omega)
 have x3:ix p ((4 * i + 3:Nat):Int)=some p[4 * i + 3]:=l_ (by omega)
 have n:an 64 ((i:Nat):Int)=some i:=dJ (by omega)
 simp only [Eg,YT,h2,decide_true,cond_true,e1,e3,f1,f2,f3,x0,x1,x2,x3,n,Option.bind_some,yL]
theorem aa_ (F:Nat) (p:List UInt8) {i:Nat} (gM:16≤i) (hi:i < 64) (w:Vector UInt32 64) :
  ol F p ((i:Nat):Int) w=some (.inl (((i + 1:Nat):Int),w.setIfInBounds i (yT w[i - 2] w[i - 7] w[i - 15] w[i - 16]))):=by
 have h1:(((i:Nat):Int) < 64):=by omega
 have h2:¬ (((i:Nat):Int) < 16):=by omega
 have e3:ag (((i:Nat):Int) + 1)=((i + 1:Nat):Int):=by rw [aY (by omega) (by omega)];omega
 have f1:ag (((i:Nat):Int) - 2)=((i - 2:Nat):Int):=by rw [aY (by omega) (by omega)];omega
 have f2:ag (((i:Nat):Int) - 7)=((i - 7:Nat):Int):=by rw [aY (by omega) (by omega)];omega
 have f3:ag (((i:Nat):Int) - 15)=((i - 15:Nat):Int):=by rw [aY (by omega) (by omega)];omega
 have f4:ag (((i:Nat):Int) - 16)=((i - 16:Nat):Int):=by rw [aY (by omega) (by omega)];omega
 have n:an 64 ((i:Nat):Int)=some i:=dJ (by omega)
 have n1:an 64 ((i - 2:Nat):Int)=some (i - 2):=dJ (by omega)
 have n2:an 64 ((i - 7:Nat):Int)=some (i - 7):=dJ (by omega)
 have n3:an 64 ((i - 15:Nat):Int)=some (i - 15):=dJ (by omega)
 have n4:an 64 ((i - 16:Nat):Int)=some (i - 16):=dJ (by omega)
 have v1:aA w (i - 2)=some w[i - 2]:=de (by omega)
 have v2:aA w (i - 7)=some w[i - 7]:=de (by omega)
 have v3:aA w (i - 15)=some w[i - 15]:=de (by omega)
 have v4:aA w (i - 16)=some w[i - 16]:=de (by omega)
 simp only [ol,Ef,h1,h2,decide_true,decide_false,cond_true,cond_false,e3,f1,f2,f3,f4,n,n1,n2,n3,n4,v1,v2,v3,v4,UJ,ab6,Yp,aaU,Option.bind_some,yT]
theorem ato (F:Nat) {i:Nat} (gM:16≤i) (hi:i < 64) (w:Vector UInt32 64) :
  Ec F ((i:Nat):Int) w=some (.inl (((i + 1:Nat):Int),w.setIfInBounds i (yT w[i - 2] w[i - 7] w[i - 15] w[i - 16]))):=by
 have h1:(((i:Nat):Int) < 64):=by omega
 have e3:ag (((i:Nat):Int) + 1)=((i + 1:Nat):Int):=by rw [aY (by omega) (by omega)];omega
 have f1:ag (((i:Nat):Int) - 2)=((i - 2:Nat):Int):=by rw [aY (by omega) (by omega)];omega
 have f2:ag (((i:Nat):Int) - 7)=((i - 7:Nat):Int):=by rw [aY (by omega) (by omega)];omega
 have f3:ag (((i:Nat):Int) - 15)=((i - 15:Nat):Int):=by rw [aY (by omega) (by omega)];omega
 have f4:ag (((i:Nat):Int) - 16)=((i - 16:Nat):Int):=by rw [aY (by omega) (by omega)];omega
 have n:an 64 ((i:Nat):Int)=some i:=dJ (by omega)
 have n1:an 64 ((i - 2:Nat):Int)=some (i - 2):=dJ (by omega)
 have n2:an 64 ((i - 7:Nat):Int)=some (i - 7):=dJ (by omega)
 have n3:an 64 ((i - 15:Nat):Int)=some (i - 15):=dJ (by omega)
 have n4:an 64 ((i - 16:Nat):Int)=some (i - 16):=dJ (by omega)
 have v1:aA w (i - 2)=some w[i - 2]:=de (by omega)
 have v2:aA w (i - 7)=some w[i - 7]:=de (by omega)
 have v3:aA w (i - 15)=some w[i - 15]:=de (by omega)
 have v4:aA w (i - 16)=some w[i - 16]:=de (by omega)
 simp only [Ec,Uf,h1,decide_true,cond_true,e3,f1,f2,f3,f4,n,n1,n2,n3,n4,v1,v2,v3,v4,aqZ,amt,ad9,ape,Option.bind_some,yT]
theorem sched {F:Nat} (hF:100 < F) {p:List UInt8} (hp:p.length=64):∃ w w0,iter (fun s:Int×Vector UInt32 64=>ol F p s.1 s.2) F ((0:Int),(Vector.replicate 64 (0:UInt32)))=some w ∧
  iter (fun s:Int×Vector UInt32 64=>Eg F p s.1 s.2) F ((0:Int),(Vector.replicate 64 (0:UInt32)))=some w0∧iter (fun s:Int×Vector UInt32 64=>Ec F s.1 s.2) F ((16:Int),w0)=some w:=by
 obtain ⟨k,s',w0,a1,a2,a3,a4⟩:=VO (f:=fun s:Int×Vector UInt32 64=>ol F p s.1 s.2) (g:=fun s:Int×Vector UInt32 64=>Eg F p s.1 s.2)
  (fun s t=>s=t∧∃ i:Nat,s.1=i∧i≤16) (fun s r=>s=((16:Int),r)) (fun s=>16 - s.1.toNat) (by
   rintro ⟨a,w⟩ t ⟨rfl,i,hi,gM⟩
   simp only at hi
   subst hi
   by_cases h:i < 16
   ·exact .inl ⟨_,_,aaB F hp h w,anx F hp h w,⟨rfl,i + 1,rfl,by omega⟩,by simp only [Int.toNat_natCast];omega⟩
   ·obtain rfl:i=16:=by omega
    exact .inr ⟨w,rfl,rfl⟩) F ((0:Int),(Vector.replicate 64 (0:UInt32))) ((0:Int),(Vector.replicate 64 (0:UInt32))) ⟨rfl,0,rfl,by omega⟩ (by simp only [Int.toNat_zero];omega)
 simp only [Int.toNat_zero,Nat.sub_zero] at a1
 subst a3
 obtain ⟨w,w',b1,b2,b3⟩:=qs (f:=fun s:Int×Vector UInt32 64=>ol F p s.1 s.2) (g:=fun s:Int×Vector UInt32 64=>Ec F s.1 s.2)
  (fun s t=>s=t∧∃ i:Nat,s.1=i∧16≤i∧i≤64) (fun r r'=>r=r') (fun s=>64 - s.1.toNat) (by
   rintro ⟨a,w⟩ t ⟨rfl,i,hi,gM,L5⟩
   simp only at hi
   subst hi
   by_cases h:i < 64
   ·exact .inl ⟨_,_,aa_ F p gM h w,ato F gM h w,⟨rfl,i + 1,rfl,by omega,by omega⟩,by simp only [Int.toNat_natCast];omega⟩
   ·obtain rfl:i=64:=by omega
    exact .inr ⟨w,w,rfl,rfl,rfl⟩) (F - k) F ((16:Int),w0) ((16:Int),w0) ⟨rfl,16,rfl,by omega,by omega⟩ (by have:((16:Int)).toNat=16:=rfl;simp only [this];omega) (by have:((16:Int)).toNat=16:=rfl;simp only [this];omega)
 subst b3
 refine ⟨w,w0,?_,a2,b2⟩
 have:=a4 (F - k)
 rw [Nat.sub_add_cancel (by omega)] at this
 rw [this,b1]
theorem aio (F:Nat) (v:Vector UInt8 64) {i:Nat} (hi:i < 16) (w:Vector UInt32 64) :
  vC F v (0,64) ((i:Nat):Int) w=some (.inl ((0,64),((i + 1:Nat):Int),w.setIfInBounds i (yL v[4 * i] v[4 * i + 1] v[4 * i + 2] v[4 * i + 3]))):=by
 have h1:(((i:Nat):Int) < 64):=by omega
 have h2:(((i:Nat):Int) < 16):=by omega
 have e1:ag ((4:Int) * ((i:Nat):Int))=((4 * i:Nat):Int):=by rw [aY (by omega) (by omega)];omega
 have e2:ag (((4 * i:Nat):Int) + 4)=((4 * i + 4:Nat):Int):=by rw [aY (by omega) (by omega)];omega
 have e3:ag (((i:Nat):Int) + 1)=((i + 1:Nat):Int):=by rw [aY (by omega) (by omega)];omega
 have g:bW 64 ((4 * i:Nat):Int) ((4 * i + 4:Nat):Int)=some (4 * i,4 * i + 4):=jR (by omega) (by omega)
 have m0:an 4 (0:Int)=some 0:=by decide
 have m1:an 4 (1:Int)=some 1:=by decide
 have m2:an 4 (2:Int)=some 2:=by decide
 have m3:an 4 (3:Int)=some 3:=by decide
 have x0:aA v (4 * i)=some v[4 * i]:=de (by omega)
 have x1:aA v (4 * i + 1)=some v[4 * i + 1]:=de (by omega)
 have x2:aA v (4 * i + 2)=some v[4 * i + 2]:=de (by omega)
 have x3:aA v (4 * i + 3)=some v[4 * i + 3]:=de (by omega)
 have n:an 64 ((i:Nat):Int)=some i:=dJ (by omega)
 simp only [vC,B9,h1,h2,decide_true,cond_true,e1,e2,e3,Nat.sub_zero,Nat.zero_add,g,Nat.add_sub_cancel_left,m0,m1,m2,m3,Nat.add_zero,x0,x1,x2,x3,n,Option.bind_some,yL]
theorem ajn (F:Nat) (v:Vector UInt8 64) {i:Nat} (gM:16≤i) (hi:i < 64) (w:Vector UInt32 64) :
  vC F v (0,64) ((i:Nat):Int) w=some (.inl ((0,64),((i + 1:Nat):Int),w.setIfInBounds i (yT w[i - 2] w[i - 7] w[i - 15] w[i - 16]))):=by
 have h1:(((i:Nat):Int) < 64):=by omega
 have h2:¬ (((i:Nat):Int) < 16):=by omega
 have e3:ag (((i:Nat):Int) + 1)=((i + 1:Nat):Int):=by rw [aY (by omega) (by omega)];omega
 have f1:ag (((i:Nat):Int) - 2)=((i - 2:Nat):Int):=by rw [aY (by omega) (by omega)];omega
 have f2:ag (((i:Nat):Int) - 7)=((i - 7:Nat):Int):=by rw [aY (by omega) (by omega)];omega
 have f3:ag (((i:Nat):Int) - 15)=((i - 15:Nat):Int):=by rw [aY (by omega) (by omega)];omega
 have f4:ag (((i:Nat):Int) - 16)=((i - 16:Nat):Int):=by rw [aY (by omega) (by omega)];omega
 have n:an 64 ((i:Nat):Int)=some i:=dJ (by omega)
 have n1:an 64 ((i - 2:Nat):Int)=some (i - 2):=dJ (by omega)
 have n2:an 64 ((i - 7:Nat):Int)=some (i - 7):=dJ (by omega)
 have n3:an 64 ((i - 15:Nat):Int)=some (i - 15):=dJ (by omega)
 have n4:an 64 ((i - 16:Nat):Int)=some (i - 16):=dJ (by omega)
 have v1:aA w (i - 2)=some w[i - 2]:=de (by omega)
 have v2:aA w (i - 7)=some w[i - 7]:=de (by omega)
 have v3:aA w (i - 15)=some w[i - 15]:=de (by omega)
 have v4:aA w (i - 16)=some w[i - 16]:=de (by omega)
 simp only [vC,B9,h1,h2,decide_true,decide_false,cond_true,cond_false,e3,f1,f2,f3,f4,n,n1,n2,n3,n4,v1,v2,v3,v4,UJ,ab6,Yp,aaU,Option.bind_some,yT]
theorem ae0 {F:Nat} (hF:100 < F) (v:Vector UInt8 64):∃ w,iter (fun s:(Nat×Nat)×Int×Vector UInt32 64=>vC F v s.1 s.2.1 s.2.2) F ((0,64),(0:Int),(Vector.replicate 64 (0:UInt32)))=some w ∧
  iter (fun s:Int×Vector UInt32 64=>ol F v.toList s.1 s.2) F ((0:Int),(Vector.replicate 64 (0:UInt32)))=some w:=by
 have hl:v.toList.length=64:=by simp
 obtain ⟨w,w',b1,b2,b3⟩:=qs (f:=fun s:(Nat×Nat)×Int×Vector UInt32 64=>vC F v s.1 s.2.1 s.2.2) (g:=fun s:Int×Vector UInt32 64=>ol F v.toList s.1 s.2)
  (fun s t=>s=((0,64),t.1,t.2)∧∃ i:Nat,t.1=i∧i≤64) (fun r r'=>r=r') (fun s=>64 - s.2.1.toNat) (by
   rintro s ⟨a,w⟩ ⟨rfl,i,hi,L5⟩
   simp only at hi
   subst hi
   by_cases h:i < 64
   ·by_cases gM:i < 16
    ·have g:=aaB F hl gM w
     simp only [Vector.getElem_toList] at g
     exact .inl ⟨_,_,aio F v gM w,g,⟨rfl,i + 1,rfl,by omega⟩,by simp only [Int.toNat_natCast];omega⟩
    ·exact .inl ⟨_,_,ajn F v (by omega) h w,aa_ F v.toList (by omega) h w,⟨rfl,i + 1,rfl,by omega⟩,by simp only [Int.toNat_natCast];omega⟩
   ·obtain rfl:i=64:=by omega
    exact .inr ⟨w,w,rfl,rfl,rfl⟩) F F ((0,64),(0:Int),(Vector.replicate 64 (0:UInt32))) ((0:Int),(Vector.replicate 64 (0:UInt32))) ⟨rfl,0,rfl,by omega⟩ (by simp only [Int.toNat_zero];omega) (by simp only [Int.toNat_zero];omega)
 subst b3
 exact ⟨w,b1,b2⟩
def t1 (e f g h k w:UInt32):UInt32:=(((h + ((rr e 6 ^^^ rr e 11) ^^^ rr e 25)) + ((e &&& f) ^^^ ((~~~e) &&& g))) + k) + w
def t2 (a b c:UInt32):UInt32:=((rr a 2 ^^^ rr a 13) ^^^ rr a 22) + (((a &&& b) ^^^ (a &&& c)) ^^^ (b &&& c))
theorem r91 (F:Nat) (w:Vector UInt32 64) (a b c d e f g h:UInt32) {i:Nat} (hi:i < 64) :
  zK F w a b c d e f g h ((i:Nat):Int)=some (.inl (t1 e f g h iD[i] w[i] + t2 a b c,a,b,c,d + t1 e f g h iD[i] w[i],e,f,g,((i + 1:Nat):Int))):=by
 have h1:(((i:Nat):Int) < 64):=by omega
 have e3:ag (((i:Nat):Int) + 1)=((i + 1:Nat):Int):=by rw [aY (by omega) (by omega)];omega
 have n:an 64 ((i:Nat):Int)=some i:=dJ (by omega)
 have v:aA w i=some w[i]:=de hi
 have x:dc iD ((i:Nat):Int)=some iD[i]:=wS hi
 simp only [zK,GB,h1,decide_true,cond_true,aq9,acz,acX,arT,ajI,ahZ,Option.bind_some,x,n,v,e3,t1,t2]
theorem r85 (F:Nat) (w:Vector UInt32 64) (a b c d e f g h:UInt32) {i:Nat} (hi:i < 64) :
  AR F iD w ((i:Nat):Int) #v[a,b,c,d,e,f,g,h]=some (.inl (((i + 1:Nat):Int),#v[t1 e f g h iD[i] w[i] + t2 a b c,a,b,c,d + t1 e f g h iD[i] w[i],e,f,g])):=by
 have h1:(((i:Nat):Int) < 64):=by omega
 have e3:ag (((i:Nat):Int) + 1)=((i + 1:Nat):Int):=by rw [aY (by omega) (by omega)];omega
 have n:an 64 ((i:Nat):Int)=some i:=dJ (by omega)
 have v:aA w i=some w[i]:=de hi
 have x:aA iD i=some iD[i]:=de hi
 have y0:aA #v[a,b,c,d,e,f,g,h] 0=some a:=rfl
 have y1:aA #v[a,b,c,d,e,f,g,h] 1=some b:=rfl
 have y2:aA #v[a,b,c,d,e,f,g,h] 2=some c:=rfl
 have y3:aA #v[a,b,c,d,e,f,g,h] 3=some d:=rfl
 have y4:aA #v[a,b,c,d,e,f,g,h] 4=some e:=rfl
 have y5:aA #v[a,b,c,d,e,f,g,h] 5=some f:=rfl
 have y6:aA #v[a,b,c,d,e,f,g,h] 6=some g:=rfl
 have y7:aA #v[a,b,c,d,e,f,g,h] 7=some h:=rfl
 simp only [AR,Va,h1,decide_true,cond_true,y0,y1,y2,y3,y4,y5,y6,y7,arF,alU,alE,ahn,ahv,adP,Option.bind_some,x,n,v,e3,t1,t2]
abbrev O8:=UInt32×UInt32×UInt32×UInt32×UInt32×UInt32×UInt32×UInt32
abbrev O9:=UInt32×UInt32×UInt32×UInt32×UInt32×UInt32×UInt32×UInt32×Int
def v8 (z:O8):Vector UInt32 8:=#v[z.1,z.2.1,z.2.2.1,z.2.2.2.1,z.2.2.2.2.1,z.2.2.2.2.2.1,z.2.2.2.2.2.2.1,z.2.2.2.2.2.2.2]
theorem rounds {F:Nat} (hF:100 < F) (w:Vector UInt32 64) (z:O8):∃ z':O8,
  iter (fun s:O9=>zK F w s.1 s.2.1 s.2.2.1 s.2.2.2.1 s.2.2.2.2.1 s.2.2.2.2.2.1 s.2.2.2.2.2.2.1 s.2.2.2.2.2.2.2.1 s.2.2.2.2.2.2.2.2) F (z.1,z.2.1,z.2.2.1,z.2.2.2.1,z.2.2.2.2.1,z.2.2.2.2.2.1,z.2.2.2.2.2.2.1,z.2.2.2.2.2.2.2,(0:Int))=some z' ∧
  iter (fun s:Int×Vector UInt32 8=>AR F iD w s.1 s.2) F ((0:Int),v8 z)=some (v8 z'):=by
 obtain ⟨r,r',b1,b2,b3⟩:=qs (f:=fun s:O9=>zK F w s.1 s.2.1 s.2.2.1 s.2.2.2.1 s.2.2.2.2.1 s.2.2.2.2.2.1 s.2.2.2.2.2.2.1 s.2.2.2.2.2.2.2.1 s.2.2.2.2.2.2.2.2) (g:=fun s:Int×Vector UInt32 8=>AR F iD w s.1 s.2)
  (fun s t=>t=(s.2.2.2.2.2.2.2.2,#v[s.1,s.2.1,s.2.2.1,s.2.2.2.1,s.2.2.2.2.1,s.2.2.2.2.2.1,s.2.2.2.2.2.2.1,s.2.2.2.2.2.2.2.1])∧∃ i:Nat,s.2.2.2.2.2.2.2.2=i∧i≤64) (fun r r'=>r'=v8 r) (fun s=>64 - s.2.2.2.2.2.2.2.2.toNat) (by
   rintro ⟨a,b,c,d,e,f,g,h,j⟩ t ⟨rfl,i,hi,L5⟩
   simp only at hi
   subst hi
   by_cases hi:i < 64
   ·exact .inl ⟨_,_,r91 F w a b c d e f g h hi,r85 F w a b c d e f g h hi,⟨rfl,i + 1,rfl,by omega⟩,by simp only [Int.toNat_natCast];omega⟩
   ·obtain rfl:i=64:=by omega
    exact .inr ⟨_,_,rfl,rfl,rfl⟩) F F (z.1,z.2.1,z.2.2.1,z.2.2.2.1,z.2.2.2.2.1,z.2.2.2.2.2.1,z.2.2.2.2.2.2.1,z.2.2.2.2.2.2.2,(0:Int)) ((0:Int),v8 z) ⟨rfl,0,rfl,by omega⟩ (by simp only [Int.toNat_zero];omega) (by simp only [Int.toNat_zero];omega)
 subst b3
 exact ⟨r,b1,b2⟩
theorem last {F:Nat} (hF:100 < F) (x p:Vector UInt32 8):∃ r,iter (fun s:Int×Vector UInt32 8=>CD F x p s.1 s.2) F ((0:Int),p)=some r∧iter (fun s:Int×Vector UInt32 8=>CH F p s.1 s.2) F ((0:Int),x)=some r:=by
 obtain ⟨r,r',b1,b2,b3⟩:=qs (f:=fun s:Int×Vector UInt32 8=>CD F x p s.1 s.2) (g:=fun s:Int×Vector UInt32 8=>CH F p s.1 s.2)
  (fun s t=>s.1=t.1∧∃ i:Nat,s.1=i∧i≤8∧(∀ j (hj:j < 8),j < i->s.2[j]=t.2[j])∧∀ j (hj:j < 8),i≤j->t.2[j]=x[j]) (fun r r'=>r=r') (fun s=>8 - s.1.toNat) (by
   rintro ⟨a,u⟩ ⟨a',v⟩ ⟨rfl,i,hi,h8,hu,hv⟩
   simp only at hi hu hv
   subst hi
   by_cases h:i < 8
   ·have h1:(((i:Nat):Int) < 8):=by omega
    have e3:ag (((i:Nat):Int) + 1)=((i + 1:Nat):Int):=by rw [aY (by omega) (by omega)];omega
    have n:an 8 ((i:Nat):Int)=some i:=dJ h
    have s1:CD F x p ((i:Nat):Int) u=some (.inl (((i + 1:Nat):Int),u.setIfInBounds i (p[i] + x[i]))):=by
     simp only [CD,Js,h1,decide_true,cond_true,wS h,n,de (v:=p) h,Option.bind_some,e3]
    have s2:CH F p ((i:Nat):Int) v=some (.inl (((i + 1:Nat):Int),v.setIfInBounds i (v[i] + p[i]))):=by
     simp only [CH,XE,h1,decide_true,cond_true,n,de (v:=p) h,de (v:=v) h,Option.bind_some,e3]
    refine .inl ⟨_,_,s1,s2,⟨rfl,i + 1,rfl,by omega,fun j hj hji=>?_,fun j hj hij=>?_⟩,by simp only [Int.toNat_natCast];omega⟩
    ·simp only [Vector.getElem_setIfInBounds]
     by_cases e:i=j
     ·subst e
      simp only [if_true]
      rw [hv i hj (Nat.le_refl _),UInt32.add_comm]
     ·rw [if_neg e,if_neg e]
      exact hu j hj (by omega)
    ·simp only [Vector.getElem_setIfInBounds]
     rw [if_neg (by omega)]
     exact hv j hj (by omega)
   ·obtain rfl:i=8:=by omega
    exact .inr ⟨u,v,rfl,rfl,Vector.ext fun j hj=>hu j hj hj⟩) F F ((0:Int),p) ((0:Int),x) ⟨rfl,0,rfl,by omega,fun j hj h0=>absurd h0 (by omega),fun j hj _=>rfl⟩ (by simp only [Int.toNat_zero];omega) (by simp only [Int.toNat_zero];omega)
 subst b3
 exact ⟨r,b1,b2⟩
theorem acG (v:Vector UInt32 8):v8 (v[0],v[1],v[2],v[3],v[4],v[5],v[6],v[7])=v:=by
 apply Vector.ext
 intro i hi
 match i,hi with
 | 0,_=>rfl
 | 1,_=>rfl
 | 2,_=>rfl
 | 3,_=>rfl
 | 4,_=>rfl
 | 5,_=>rfl
 | 6,_=>rfl
 | 7,_=>rfl
theorem k92 (F:Nat):acn F=some iD:=rfl
theorem t91 {F:Nat} (hF:100 < F) {p:List UInt8} (hp:p.length=64) (h:Vector UInt32 8):∃ r,yA F p h=some r∧Dt F h p=some r:=by
 obtain ⟨w,w0,a1,a2,a3⟩:=sched hF hp
 obtain ⟨z,b1,b2⟩:=rounds hF w (h[0],h[1],h[2],h[3],h[4],h[5],h[6],h[7])
 rw [acG] at b2
 obtain ⟨r,c1,c2⟩:=last hF (v8 z) h
 refine ⟨r,?_,?_⟩
 ·simp only [yA,Cz,a1,Option.bind_some,de (v:=h) (show 0 < 8 by omega),de (v:=h) (show 1 < 8 by omega),de (v:=h) (show 2 < 8 by omega),de (v:=h) (show 3 < 8 by omega),de (v:=h) (show 4 < 8 by omega),de (v:=h) (show 5 < 8 by omega),de (v:=h) (show 6 < 8 by omega),de (v:=h) (show 7 < 8 by omega)]
  simp only [b1,Option.bind_some]
  exact (congrArg (fun o=>Option.bind o fun z=>some z) c1)
 ·simp only [Dt,W5,k92,Option.bind_some,a2,a3,b2,c2]
theorem adr {F:Nat} (hF:100 < F) (v:Vector UInt8 64) (h:Vector UInt32 8):GA F (0,64) h v=yA F v.toList h:=by
 obtain ⟨w,a1,a2⟩:=ae0 hF v
 simp only [GA,Jn,yA,Cz,a1,a2,Option.bind_some]
 rfl
end Go.Proofs.YtiahcmabcbpcpaaGreatDoor
namespace Go.Tw
def gd (x:UInt8):UInt8:=bif (x &&& 128) != 0 then (x <<< 1) ^^^ 29 else x <<< 1
def ki (b a:UInt8):UInt8:=bif (b &&& 1) == 1 then a else 0
def gT:Nat->UInt8->UInt8->UInt8
 | 0,_,_=>0
 | n + 1,a,b=>ki b a ^^^ gT n (gd a) (b >>> 1)
def gm (a b:UInt8):UInt8:=gT 8 a b
theorem CJ {p:UInt8->Prop} (h:∀ i:_root_.Fin 256,p (UInt8.ofNat i.val)) (x:UInt8):p x:=by
 have:=h ⟨x.toNat,x.toNat_lt⟩
 simpa using this
theorem lo1 (b:UInt8):b &&& 1=0∨b &&& 1=1:=CJ (p:=fun b=>b &&& 1=0∨b &&& 1=1) (by decide +kernel) b
theorem hi1 (b:UInt8):b &&& 128=0∨b &&& 128=128:=CJ (p:=fun b=>b &&& 128=0∨b &&& 128=128) (by decide +kernel) b
theorem abq (a b c:UInt8):(a ^^^ b) &&& c=(a &&& c) ^^^ (b &&& c):=by
 apply UInt8.toBitVec_inj.1
 simp only [UInt8.toBitVec_and,UInt8.toBitVec_xor]
 ext i hi
 simp [Bool.and_xor_distrib_right]
theorem aoi (a b:UInt8):(a ^^^ b) >>> 1=(a >>> 1) ^^^ (b >>> 1):=by
 apply UInt8.toBitVec_inj.1
 simp only [UInt8.toBitVec_shiftRight,UInt8.toBitVec_xor]
 ext i hi
 simp
theorem adA (a b:UInt8):(a ^^^ b) <<< 1=(a <<< 1) ^^^ (b <<< 1):=by
 apply UInt8.toBitVec_inj.1
 simp only [UInt8.toBitVec_shiftLeft,UInt8.toBitVec_xor]
 ext i hi
 simp [Bool.and_xor_distrib_left]
theorem xz (a:UInt8):a ^^^ 0=a:=by simp
theorem zx (a:UInt8):0 ^^^ a=a:=by simp
theorem xx (a:UInt8):a ^^^ a=0:=by simp
theorem alO (a b:UInt8):gd (a ^^^ b)=gd a ^^^ gd b:=by
 have e1:((0:UInt8) != 0)=false:=rfl
 have e2:((128:UInt8) != 0)=true:=rfl
 have e3:((128 ^^^ 128:UInt8) != 0)=false:=rfl
 have e4:((0 ^^^ 128:UInt8) != 0)=true:=rfl
 have e5:((128 ^^^ 0:UInt8) != 0)=true:=rfl
 have e6:((0 ^^^ 0:UInt8) != 0)=false:=rfl
 unfold gd
 rw [abq,adA]
 rcases hi1 a with ha | ha<;>rcases hi1 b with hb | hb<;>rw [ha,hb]<;>simp only [e1,e2,e3,e4,e5,e6,cond_true,cond_false]
 ·rw [UInt8.xor_assoc]
 ·rw [UInt8.xor_assoc,UInt8.xor_assoc,UInt8.xor_comm (b <<< (1:UInt8)) (29:UInt8)]
 ·have:((a <<< (1:UInt8)) ^^^ (29:UInt8)) ^^^ ((b <<< (1:UInt8)) ^^^ (29:UInt8))=((a <<< (1:UInt8)) ^^^ (b <<< (1:UInt8))) ^^^ ((29:UInt8) ^^^ 29):=by ac_rfl
  rw [this,xx,xz]
theorem aot (b c a:UInt8):ki (b ^^^ c) a=ki b a ^^^ ki c a:=by
 have e1:((0:UInt8) == 1)=false:=rfl
 have e2:((1:UInt8) == 1)=true:=rfl
 have e3:((1 ^^^ 1:UInt8) == 1)=false:=rfl
 have e4:((0 ^^^ 1:UInt8) == 1)=true:=rfl
 have e5:((1 ^^^ 0:UInt8) == 1)=true:=rfl
 have e6:((0 ^^^ 0:UInt8) == 1)=false:=rfl
 unfold ki
 rw [abq]
 rcases lo1 b with hb | hb<;>rcases lo1 c with hc | hc<;>rw [hb,hc]<;>simp only [e1,e2,e3,e4,e5,e6,cond_true,cond_false,xx,xz,zx]
theorem acZ (b a c:UInt8):ki b (a ^^^ c)=ki b a ^^^ ki b c:=by
 unfold ki
 cases (b &&& 1) == 1
 ·simp only [cond_false,xx]
 ·rfl
theorem aar:∀ (n:Nat) (a b c:UInt8),gT n a (b ^^^ c)=gT n a b ^^^ gT n a c
 | 0,a,b,c=>by simp only [gT,xx]
 | n + 1,a,b,c=>by
  simp only [gT,aot,aoi,aar n]
  ac_rfl
theorem aaG:∀ (n:Nat) (a b c:UInt8),gT n (a ^^^ b) c=gT n a c ^^^ gT n b c
 | 0,a,b,c=>by simp only [gT,xx]
 | n + 1,a,b,c=>by
  simp only [gT,acZ,alO,aaG n]
  ac_rfl
theorem ajR (a b c:UInt8):gm a (b ^^^ c)=gm a b ^^^ gm a c:=aar 8 a b c
theorem arV (a b c:UInt8):gm (a ^^^ b) c=gm a c ^^^ gm b c:=aaG 8 a b c
def OV (f:UInt8->UInt8):Prop:=∀ x y,f (x ^^^ y)=f x ^^^ f y
theorem OV.zero {f:UInt8->UInt8} (h:OV f):f 0=0:=by
 have:=h 0 0
 rw [xx,xx] at this
 exact this
theorem ap5 (c:UInt8):OV (fun a=>gm a c):=fun a b=>arV a b c
theorem as0 (a:UInt8):gm 0 a=0:=(ap5 a).zero
end Go.Tw
namespace Go.Proofs.YtiahcmabcbpcpaaGreatDoor
open Go.Tw
theorem Tn {n:Nat} (h:n < 1000000000):ag (((n:Nat):Int) + 1)=((n + 1:Nat):Int):=by rw [aY (by omega) (by omega)];omega
theorem Xq:∀ (n:Nat) (a:UInt8),gT n a 0=0
 | 0,_=>rfl
 | n + 1,a=>by
  have h:ki 0 a=0:=rfl
  have h2:(0:UInt8) >>> 1=0:=rfl
  simp only [gT,h,h2,Xq n,xx]
theorem agk {n:Nat} {b:UInt8} (h:b.toNat < 2 ^ (n + 1)):(b >>> 1).toNat < 2 ^ n:=by
 have:(b >>> 1).toNat=b.toNat / 2:=by
  simp [UInt8.toNat_shiftRight,Nat.shiftRight_eq_div_pow]
 rw [this,Nat.pow_succ] at *
 omega
theorem sh8 (b:UInt8):lf b ((UInt64.ofNat 1).toNat)=b >>> 1:=CJ (p:=fun b=>lf b ((UInt64.ofNat 1).toNat)=b >>> 1) (by decide +kernel) b
theorem ad6 (F:Nat) (a:UInt8):Ej F a=some (gd a):=CJ (p:=fun a=>Ej F a=some (gd a)) (by intro i;revert i;show ∀ i:_root_.Fin 256,Ej 0 (UInt8.ofNat i.val)=some (gd (UInt8.ofNat i.val));decide +kernel) a
theorem abl (F:Nat) (a b c:UInt8):vq F a b c=bif b != 0 then some (.inl (gd a,b >>> 1,c ^^^ ki b a)) else some (.inr c):=by
 simp only [vq,HX,ad6,Option.bind_some,sh8]
 have e0:(b != UInt8.ofNat 0)=(b != 0):=rfl
 have e1:((b &&& UInt8.ofNat 1) == UInt8.ofNat 1)=((b &&& 1) == 1):=rfl
 rw [e0,e1]
 unfold ki
 cases b != 0<;>cases (b &&& 1) == 1<;>simp [xz]
theorem U6 (F:Nat):∀ (n fuel:Nat) (a b c:UInt8),b.toNat < 2 ^ n->n < fuel->iter (fun s:UInt8×UInt8×UInt8=>vq F s.1 s.2.1 s.2.2) fuel (a,b,c)=some (c ^^^ gT n a b)
 | 0,fuel + 1,a,b,c,hb,hf=>by
  have:b=0:=by apply UInt8.toNat_inj.1;simp at hb;simpa using hb
  subst this
  show (vq F a 0 c).bind _=_
  rw [abl]
  simp [gT,xz]
 | n + 1,fuel + 1,a,b,c,hb,hf=>by
  show (vq F a b c).bind _=_
  rw [abl]
  cases h0:b != 0 with
  | false=>
   have:b=0:=by simpa using h0
   subst this
   simp only [cond_false,Option.bind_some,Xq,xz]
  | true=>
   simp only [cond_true,Option.bind_some]
   rw [U6 F n fuel (gd a) (b >>> 1) (c ^^^ ki b a) (agk hb) (by omega)]
   simp only [gT,UInt8.xor_assoc]
theorem U0 {F:Nat} (hF:20 < F) (a b:UInt8):yd F a b=some (gm a b):=by
 have h:=U6 F 8 F a b 0 (by have:=b.toNat_lt;simpa using this) (by omega)
 have h:iter (fun s:UInt8×UInt8×UInt8=>vq F s.1 s.2.1 s.2.2) F (a,b,UInt8.ofNat 0)=some ((0:UInt8) ^^^ gT 8 a b):=h
 simp only [yd,I7,h,Option.bind_some,zx]
 rfl
theorem anG {n i:Nat} (h:i < n):an n ((i:Nat):Int)=some i:=dJ h
theorem ahl {i:Nat} (h:i < 16):UInt8.ofInt ((i:Nat):Int)=UInt8.ofNat i∧UInt8.ofInt (ag (((i:Nat):Int) * 2 ^ min ((UInt64.ofNat 4).toNat) 64))=UInt8.ofNat (16 * i):=by
 have:∀ i:_root_.Fin 16,UInt8.ofInt ((i.val:Nat):Int)=UInt8.ofNat i.val∧UInt8.ofInt (ag (((i.val:Nat):Int) * 2 ^ min ((UInt64.ofNat 4).toNat) 64))=UInt8.ofNat (16 * i.val):=by decide +kernel
 exact this ⟨i,h⟩
theorem afj {F:Nat} (hF:50 < F) (c:UInt8):∃ u v:Vector UInt8 16,So F c=some (u,v)∧∀ (i:Nat) (h:i < 16),u[i]=gm c (UInt8.ofNat i)∧v[i]=gm c (UInt8.ofNat (16 * i)):=by
 obtain ⟨r,h1,h2⟩:=cL (f:=fun s:Int×Vector UInt8 16×Vector UInt8 16=>LD F c s.1 s.2.1 s.2.2)
  (fun s=>∃ n:Nat,n≤16∧s.1=n∧∀ (i:Nat) (h:i < 16),i < n->s.2.1[i]=gm c (UInt8.ofNat i)∧s.2.2[i]=gm c (UInt8.ofNat (16 * i)))
  (fun r=>∀ (i:Nat) (h:i < 16),r.1[i]=gm c (UInt8.ofNat i)∧r.2[i]=gm c (UInt8.ofNat (16 * i)))
  (fun s=>(16 - s.1).toNat) (fun s ⟨n,hn,hs,hr⟩=>by
   obtain ⟨s1,s2,s3⟩:=s
   simp only at hs hr
   subst hs
   rcases Nat.lt_or_ge n 16 with hlt | hge
   ·left
    have h:((n:Nat):Int) < 16:=by omega
    have hw:ag (((n:Nat):Int) + 1)=((n + 1:Nat):Int):=by rw [aY (by omega) (by omega)];omega
    obtain ⟨o1,o2⟩:=ahl hlt
    refine ⟨_,by simp only [LD,AD,h,decide_true,cond_true,o1,o2,U0 (show 20 < F by omega),Option.bind_some,anG hlt,hw];rfl,⟨n + 1,by omega,rfl,fun i hi hin=>?_⟩,by simp only;omega⟩
    simp only [Vector.getElem_setIfInBounds]
    by_cases Xd:n=i
    ·subst Xd;simp
    ·simp only [Xd,if_false];exact hr i hi (by omega)
   ·right
    have:n=16:=by omega
    subst this
    have h:¬ (((16:Nat):Int) < 16):=by omega
    exact ⟨_,by simp only [LD,AD,h,decide_false,cond_false];rfl,fun i hi=>hr i hi hi⟩)
  F ((0:Int),(Vector.replicate 16 (0:UInt8)),(Vector.replicate 16 (0:UInt8))) ⟨0,by omega,rfl,fun i hi h=>by omega⟩ (by simp;omega)
 exact ⟨r.1,r.2,by simp only [So,FN,h1,Option.bind_some],h2⟩
theorem amc (b:UInt8):b=UInt8.ofNat (b &&& 15).toNat ^^^ UInt8.ofNat (16 * (lf b ((UInt64.ofNat 4).toNat)).toNat)∧(b &&& UInt8.ofNat 15).toNat < 16∧(lf b ((UInt64.ofNat 4).toNat)).toNat < 16:=
 CJ (p:=fun b=>b=UInt8.ofNat (b &&& 15).toNat ^^^ UInt8.ofNat (16 * (lf b ((UInt64.ofNat 4).toNat)).toNat)∧(b &&& UInt8.ofNat 15).toNat < 16∧(lf b ((UInt64.ofNat 4).toNat)).toNat < 16) (by decide +kernel) b
theorem ao_ (F:Nat) {c b:UInt8} {u v:Vector UInt8 16} (h:∀ (i:Nat) (h:i < 16),u[i]=gm c (UInt8.ofNat i)∧v[i]=gm c (UInt8.ofNat (16 * i))):TO F b u v=some (gm c b):=by
 obtain ⟨h1,h2,h3⟩:=amc b
 simp only [TO,II,wS h2,wS h3,Option.bind_some,(h _ h2).1,(h _ h3).2,← ajR]
 congr 2
 exact h1.symm
theorem ixU {l:List UInt8} {i:Nat} (h:i < l.length):ix l ((i:Nat):Int)=some l[i]:=l_ h
theorem LC {α:Type} {N:Nat} {f:Int×List α->Option ((Int×List α) ⊕ List α)} {g:Nat->α->α} (hN:N < 1000000)
  (hs:∀ (n:Nat) (l:List α) (h:n < l.length),l.length=N->f (((n:Nat):Int),l)=some (.inl (((n + 1:Nat):Int),l.set n (g n l[n])))) (he:∀ l:List α,l.length=N->f (((N:Nat):Int),l)=some (.inr l)) :
  ∀ (m n fuel:Nat) (l:List α),n + m=N->l.length=N->m < fuel->∃ r,iter f fuel (((n:Nat):Int),l)=some r∧r.length=N∧(∀ i (h1:i < r.length) (h2:i < l.length),i < n->r[i]=l[i])∧∀ i (h1:i < r.length) (h2:i < l.length),n≤i->r[i]=g i l[i]
 | 0,n,fuel + 1,l,hn,hl,hf=>by
  have:n=N:=by omega
  subst this
  exact ⟨l,by simp only [iter,he l hl,Option.bind_some],hl,fun _ _ _ _=>rfl,fun i h1 h2 h3=>by omega⟩
 | m + 1,n,fuel + 1,l,hn,hl,hf=>by
  obtain ⟨r,r1,r2,r3,r4⟩:=LC hN hs he m (n + 1) fuel (l.set n (g n (l[n]'(by omega)))) (by omega) (by simp [hl]) (by omega)
  refine ⟨r,?_,r2,fun i h1 h2 h3=>?_,fun i h1 h2 h3=>?_⟩
  ·simp only [iter,hs n l (by omega) hl,Option.bind_some];exact r1
  ·rw [r3 i h1 (by simp;omega) (by omega)]
   rw [List.getElem_set_ne (by omega)]
  ·by_cases hi:i=n
   ·subst hi
    rw [r3 i h1 (by simp;omega) (by omega),List.getElem_set_self]
   ·rw [r4 i h1 (by simp;omega) (by omega),List.getElem_set_ne (by omega)]
theorem ank {F:Nat} {l:List UInt8} (hF:100 + l.length < F) (hl:l.length < 1000000) (c:UInt8):Nl F l c=some (l.map (gm c)):=by
 obtain ⟨u,v,h1,h2⟩:=afj (F:=F) (by omega) c
 have hm:cw (0:UInt8) (l.length:Int) (l.length:Int)=some (List.replicate l.length 0):=by
  unfold cw;rw [if_pos (by omega)];simp
 obtain ⟨r,r1,r2,_,r4⟩:=LC (N:=l.length) (f:=fun s:Int×List UInt8=>C1 F l (l.length:Int) u v s.1 s.2) (g:=fun i _=>gm c (l.getD i 0)) hl
  (fun n x hx hxl=>by
   have h:((n:Nat):Int) < (l.length:Int):=by omega
   have hg:l.getD n 0=l[n]'(by omega):=by simp [show n < l.length by omega]
   simp only [C1,Cx,h,decide_true,cond_true,ixU (show n < l.length by omega),Option.bind_some,ao_ F h2,dJ hx,Tn (show n < 1000000000 by omega),hg])
  (fun x hx=>by
   have h:¬ ((l.length:Int) < (l.length:Int)):=by omega
   simp only [C1,Cx,h,decide_false,cond_false])
  l.length 0 F (List.replicate l.length 0) (by omega) (by simp) (by omega)
 have r1:iter (fun s:Int×List UInt8=>C1 F l (l.length:Int) u v s.1 s.2) F ((0:Int),List.replicate l.length 0)=some r:=r1
 simp only [Nl,EK,h1,hm,r1,Option.bind_some]
 congr 1
 apply List.ext_getElem
 ·simp [r2]
 ·intro i h3 h4
  rw [r4 i h3 (by simp;omega) (by omega)]
  simp [show i < l.length by omega]
theorem ahM {F:Nat} {l v:List UInt8} (hF:100 + l.length < F) (hl:l.length < 1000000) (hv:v.length=l.length) (c:UInt8):Ny F l v c=some (0,List.zipWith (fun a b=>a ^^^ gm c b) l v):=by
 have hne:((l.length:Int) != (v.length:Int))=false:=by simp [hv]
 have hsc:=ank (F:=F) (l:=v) (by omega) (by omega) c
 obtain ⟨r,r1,r2,_,r4⟩:=LC (N:=l.length) (f:=fun s:Int×List UInt8=>DJ F l (l.length:Int) s.1 s.2) (g:=fun i x=>x ^^^ l.getD i 0) hl
  (fun n x hx hxl=>by
   have h:((n:Nat):Int) < (l.length:Int):=by omega
   have hg:l.getD n 0=l[n]'(by omega):=by simp [show n < l.length by omega]
   simp only [DJ,Ek,h,decide_true,cond_true,ixU (show n < l.length by omega),Option.bind_some,dJ hx,List.getElem?_eq_getElem hx,Tn (show n < 1000000000 by omega),hg])
  (fun x hx=>by
   have h:¬ ((l.length:Int) < (l.length:Int)):=by omega
   simp only [DJ,Ek,h,decide_false,cond_false])
  l.length 0 F (v.map (gm c)) (by omega) (by simp [hv]) (by omega)
 have r1:iter (fun s:Int×List UInt8=>DJ F l (l.length:Int) s.1 s.2) F ((0:Int),v.map (gm c))=some r:=r1
 simp only [Ny,G9,hne,cond_false,hsc,r1,Option.bind_some]
 congr 2
 apply List.ext_getElem
 ·simp [r2,hv]
 ·intro i h3 h4
  rw [r4 i h3 (by simp;omega) (by omega)]
  simp [show i < l.length by omega]
  exact UInt8.xor_comm _ _
def TW:Nat->UInt8->UInt8->UInt8
 | 0,_,c=>c
 | n + 1,a,c=>TW n (gm a a) (gm c (gm a a))
def gi (b:UInt8):UInt8:=TW 7 b 1
theorem amk:gi 0=0:=by decide +kernel
theorem aky {F:Nat} (hF:50 < F) (a:UInt8):iter (fun s:UInt8×UInt8×Int=>CI F s.1 s.2.1 s.2.2) F (a,UInt8.ofNat 1,(0:Int))=some (gi a):=by
 have:∀ (n k fuel:Nat) (a c:UInt8),n + k=7->n < fuel->iter (fun s:UInt8×UInt8×Int=>CI F s.1 s.2.1 s.2.2) fuel (a,c,(k:Int))=some (TW n a c):=by
  intro n
  induction n with
  | zero=>
   intro k fuel a c h1 h2
   obtain ⟨f,rfl⟩:∃ f,fuel=f + 1:=⟨fuel - 1,by omega⟩
   have h:¬ ((k:Int) < 7):=by omega
   exact m7 (by simp only [CI,AQ,h,decide_false,cond_false];rfl)
  | succ n ih=>
   intro k fuel a c h1 h2
   obtain ⟨f,rfl⟩:∃ f,fuel=f + 1:=⟨fuel - 1,by omega⟩
   have h:(k:Int) < 7:=by omega
   refine (uC (s':=(gm a a,gm c (gm a a),((k + 1:Nat):Int))) ?_).trans (ih (k + 1) f _ _ (by omega) (by omega))
   simp only [CI,AQ,h,decide_true,cond_true,U0 (show 20 < F by omega),Option.bind_some,Tn (show k < 1000000000 by omega)]
 exact this 7 0 F a _ rfl (by omega)
theorem apY {F:Nat} (hF:50 < F) (a:UInt8):∃ e:Int,Jq F a=some (gi a,e):=by
 by_cases h:a=0
 ·subst h
  have:((0:UInt8) == UInt8.ofNat 0)=true:=rfl
  exact ⟨1,by simp only [Jq,Ah,this,cond_true,amk];rfl⟩
 ·have:(a == UInt8.ofNat 0)=false:=by have h2:a ≠ UInt8.ofNat 0:=h;simpa using h2
  exact ⟨0,by simp only [Jq,Ah,this,cond_false,aky hF,Option.bind_some]⟩
def B (F:Nat) (h:Vector UInt32 8) (p:List UInt8):Vector UInt32 8:=(Dt F h p).getD h
theorem b85 {F:Nat} (hF:100 < F) {p:List UInt8} (hp:p.length=64) (h:Vector UInt32 8):Dt F h p=some (B F h p):=by
 obtain ⟨r,h1,h2⟩:=t91 hF hp h
 simp only [B,h2,Option.getD_some]
theorem b91 {F:Nat} (hF:100 < F) {p:List UInt8} (hp:p.length=64) (h:Vector UInt32 8):yA F p h=some (B F h p):=by
 obtain ⟨r,h1,h2⟩:=t91 hF hp h
 simp only [B,h1,h2,Option.getD_some]
theorem ate {F:Nat} (hF:100 < F) (v:Vector UInt8 64) (h:Vector UInt32 8):GA F (0,64) h v=some (B F h v.toList):=by
 rw [adr hF,b91 hF (by simp)]
def hN (F:Nat):Nat->List UInt8->Vector UInt32 8
 | 0,_=>uE
 | k + 1,m=>B F (hN F k m) ((m.drop (64 * k)).take 64)
theorem GS (F:Nat) (m x:List UInt8):∀ k,64 * k≤m.length->hN F k (m ++ x)=hN F k m
 | 0,_=>rfl
 | k + 1,h=>by
  simp only [hN]
  rw [GS F m x k (by omega),List.drop_append_of_le_length (by omega),List.take_append_of_le_length (by simp;omega)]
structure Inv (F:Nat) (m:List UInt8) (h:Vector UInt32 8) (b:Vector UInt8 64) (n:Int):Prop where
 len:n=(m.length:Int)
 words:h=hN F (m.length / 64) m
 rest:b.toList.take (m.length % 64)=m.drop (64 * (m.length / 64))
theorem q9 (a:Nat):Int.tmod ((a:Nat):Int) 64=((a % 64:Nat):Int):=by
 rw [Int.tmod_eq_emod_of_nonneg (by omega)];omega
theorem Wp {F:Nat} (hF:100 < F) (M:List UInt8):∀ (fuel k:Nat),64 * k≤M.length->(M.length - 64 * k) / 64 < fuel ->
  iter (fun s:List UInt8×Vector UInt32 8=>o_ F s.1 s.2) fuel (M.drop (64 * k),hN F k M)=some (M.drop (64 * (M.length / 64)),hN F (M.length / 64) M)
 | 0,k,hk,hf=>absurd hf (by omega)
 | fuel + 1,k,hk,hf=>by
  by_cases h:64≤M.length - 64 * k
  ·have h1:((64:Int)≤((M.drop (64 * k)).length:Int)):=by simp;omega
   have g1:bk (M.drop (64 * k)) (0:Int) (64:Int)=some ((M.drop (64 * k)).take 64):=lR (a:=0) (b:=64) (by omega) (by simp;omega)
   have g2:bk (M.drop (64 * k)) (64:Int) ((M.drop (64 * k)).length:Int)=some (M.drop (64 * (k + 1))):=by
    have:=lR (l:=M.drop (64 * k)) (a:=64) (b:=(M.drop (64 * k)).length) (by simp;omega) (Nat.le_refl _)
    refine Eq.trans this ?_
    rw [List.take_of_length_le (by simp only [List.length_drop];omega),List.drop_drop]
    congr 2
   have step:o_ F (M.drop (64 * k)) (hN F k M)=some (.inl (M.drop (64 * (k + 1)),hN F (k + 1) M)):=by
    simp only [o_,Dw,h1,decide_true,cond_true,g1,g2,Option.bind_some,b91 hF (show ((M.drop (64 * k)).take 64).length=64 by simp;omega),hN]
   refine (lK (f:=fun s:List UInt8×Vector UInt32 8=>o_ F s.1 s.2) (s:=(M.drop (64 * k),hN F k M)) step).trans ?_
   exact Wp hF M fuel (k + 1) (by omega) (by omega)
  ·have h1:¬ ((64:Int)≤((M.drop (64 * k)).length:Int)):=by simp;omega
   have hk2:k=M.length / 64:=by omega
   have step:o_ F (M.drop (64 * k)) (hN F k M)=some (.inr (M.drop (64 * k),hN F k M)):=by
    simp only [o_,Dw,h1,decide_false,cond_false]
   refine (iW (f:=fun s:List UInt8×Vector UInt32 8=>o_ F s.1 s.2) (s:=(M.drop (64 * k),hN F k M)) step).trans ?_
   rw [← hk2]
theorem Ue {F:Nat} (hF:100 < F) (M:List UInt8) (hM:M.length < F) (b:Vector UInt8 64) {k:Nat} (hk:64 * k≤M.length) :
  iter (fun s:List UInt8×Vector UInt32 8=>o_ F s.1 s.2) F (M.drop (64 * k),hN F k M)=some (M.drop (64 * (M.length / 64)),hN F (M.length / 64) M) ∧
  (dV b 0 (M.drop (64 * (M.length / 64))) (M.drop (64 * (M.length / 64))).length).toList.take (M.length % 64)=M.drop (64 * (M.length / 64)):=by
 refine ⟨Wp hF M F k hk (by omega),?_⟩
 have hl:(M.drop (64 * (M.length / 64))).length=M.length % 64:=by simp;omega
 rw [Bm (by omega) (Nat.le_refl _)]
 simp only [bC,List.take_zero,List.nil_append,List.take_length]
 rw [← hl,List.take_append_of_le_length (Nat.le_refl _),List.take_length]
theorem tU {F:Nat} {m x:List UInt8} {h:Vector UInt32 8} {b:Vector UInt8 64} {n:Int} (hF:100 + m.length + x.length < F) (hb:m.length + x.length < 1000000000) (hI:Inv F m h b n) :
  ∃ h' b' n',nZ F x h b n=some (h',b',n')∧Inv F (m ++ x) h' b' n':=by
 obtain ⟨rfl,rfl,hr⟩:=hI
 have wn:ag ((m.length:Int) + (x.length:Int))=((m ++ x).length:Int):=by rw [aY (by omega) (by omega)];simp
 have g0:bW 64 (0:Int) ((64:Nat):Int)=some (0,64):=jR (a:=0) (by omega) (by omega)
 have hlen:(m ++ x).length=m.length + x.length:=by simp
 by_cases hu:m.length % 64=0
 ·have d:¬ ((0:Int) < ((m.length % 64:Nat):Int)):=by omega
  have s3:tC F x ((m.length % 64:Nat):Int) false (hN F (m.length / 64) m) b=some (.inl (x,hN F (m.length / 64) m,b)):=by
   simp only [tC,yg,cond_false]
  obtain ⟨q1,q2⟩:=Ue (F:=F) (by omega) (m ++ x) (by omega) b (k:=m.length / 64) (by omega)
  have e1:(m ++ x).drop (64 * (m.length / 64))=x:=by
   rw [show 64 * (m.length / 64)=m.length by omega];simp
  rw [e1,GS F m x _ (by omega)] at q1
  have hmin:Nat.min ((m ++ x).drop (64 * ((m ++ x).length / 64))).length (64 - 0)=((m ++ x).drop (64 * ((m ++ x).length / 64))).length:=Nat.min_eq_left (by simp;omega)
  refine ⟨hN F ((m ++ x).length / 64) (m ++ x),dV b 0 ((m ++ x).drop (64 * ((m ++ x).length / 64))) ((m ++ x).drop (64 * ((m ++ x).length / 64))).length,((m ++ x).length:Int),?_,rfl,rfl,q2⟩
  simp only [nZ,xm,q9,d,decide_false,s3,Option.bind_some,bz,q1,g0,hmin,wn]
 ·have d:((0:Int) < ((m.length % 64:Nat):Int)):=by omega
  have g1:bW 64 ((m.length % 64:Nat):Int) ((64:Nat):Int)=some (m.length % 64,64):=jR (by omega) (by omega)
  by_cases hc:x.length < 64 - m.length % 64
  ·have hmin:Nat.min x.length (64 - m.length % 64)=x.length:=Nat.min_eq_left (by omega)
   have g2:bk x (x.length:Int) (x.length:Int)=some []:=by
    rw [lR (Nat.le_refl _) (Nat.le_refl _)];simp
   have w:ag (((m.length % 64:Nat):Int) + (x.length:Int))=((m.length % 64 + x.length:Nat):Int):=by rw [aY (by omega) (by omega)];omega
   have d2:(((m.length % 64 + x.length:Nat):Int) < 64):=by omega
   have s3:tC F x ((m.length % 64:Nat):Int) true (hN F (m.length / 64) m) b=some (.inr (dV b (m.length % 64) x x.length)):=by
    simp only [tC,yg,cond_true,g1,Option.bind_some,hmin,g2,w,d2,decide_true]
   refine ⟨hN F (m.length / 64) m,dV b (m.length % 64) x x.length,((m ++ x).length:Int),?_,rfl,?_,?_⟩
   ·simp only [nZ,xm,q9,d,decide_true,s3,Option.bind_some,bz,wn]
   ·rw [hlen,show (m.length + x.length) / 64=m.length / 64 by omega,GS F m x _ (by omega)]
   ·rw [hlen,show (m.length + x.length) / 64=m.length / 64 by omega,show (m.length + x.length) % 64=m.length % 64 + x.length by omega,Bm (by omega) (Nat.le_refl _)]
    simp only [bC,List.take_length]
    rw [hr,List.drop_append_of_le_length (by omega)]
    rw [List.take_append_of_le_length (by simp;omega),List.take_of_length_le (by simp;omega)]
  ·have hmin:Nat.min x.length (64 - m.length % 64)=64 - m.length % 64:=Nat.min_eq_right (by omega)
   have g2:bk x ((64 - m.length % 64:Nat):Int) (x.length:Int)=some (x.drop (64 - m.length % 64)):=by
    rw [lR (by omega) (Nat.le_refl _),List.take_of_length_le (by simp)]
   have w:ag (((m.length % 64:Nat):Int) + ((64 - m.length % 64:Nat):Int))=64:=by rw [aY (by omega) (by omega)];omega
   have d2:¬ ((64:Int) < 64):=by omega
   have fe:(dV b (m.length % 64) x (64 - m.length % 64)).toList=((m ++ x).drop (64 * (m.length / 64))).take 64:=by
    rw [Bm (by omega) (by omega)]
    simp only [bC]
    have hz:b.toList.drop (m.length % 64 + (64 - m.length % 64))=[]:=List.drop_of_length_le (by rw [Vector.length_toList];omega)
    have Q5:(m.drop (64 * (m.length / 64))).length=m.length % 64:=by rw [List.length_drop];omega
    rw [hr,hz,List.append_nil,List.drop_append_of_le_length (by omega),List.take_append,List.take_of_length_le (l:=m.drop (64 * (m.length / 64))) (by omega),Q5]
   have s3:tC F x ((m.length % 64:Nat):Int) true (hN F (m.length / 64) m) b=some (.inl (x.drop (64 - m.length % 64),hN F (m.length / 64 + 1) (m ++ x),dV b (m.length % 64) x (64 - m.length % 64))):=by
    simp only [tC,yg,cond_true,g1,Option.bind_some,hmin,g2,w,d2,decide_false,cond_false,g0,ate (show 100 < F by omega),fe,hN,GS F m x (m.length / 64) (by omega)]
   obtain ⟨q1,q2⟩:=Ue (F:=F) (by omega) (m ++ x) (by omega) (dV b (m.length % 64) x (64 - m.length % 64)) (k:=m.length / 64 + 1) (by omega)
   have e1:(m ++ x).drop (64 * (m.length / 64 + 1))=x.drop (64 - m.length % 64):=by
    rw [List.drop_append,List.drop_of_length_le (by omega),List.nil_append]
    congr 1;omega
   rw [e1] at q1
   have afF:Nat.min ((m ++ x).drop (64 * ((m ++ x).length / 64))).length (64 - 0)=((m ++ x).drop (64 * ((m ++ x).length / 64))).length:=Nat.min_eq_left (by simp;omega)
   refine ⟨hN F ((m ++ x).length / 64) (m ++ x),dV (dV b (m.length % 64) x (64 - m.length % 64)) 0 ((m ++ x).drop (64 * ((m ++ x).length / 64))) ((m ++ x).drop (64 * ((m ++ x).length / 64))).length,((m ++ x).length:Int),?_,rfl,rfl,q2⟩
   simp only [nZ,xm,q9,d,decide_true,s3,Option.bind_some,bz,q1,g0,afF,wn]
theorem pJ {α:Type} {xs ys:List α} (h:xs.length + ys.length≤1099511627776):aD xs ys=some (xs ++ ys):=by unfold aD;rw [if_pos h]
theorem ak3 {F:Nat} {m:List UInt8} (hF:300 < F) (hb:m.length < 1000000000) (h:Vector UInt32 8) (b:Vector UInt8 64):∃ p:List UInt8,p.length≤64∧1≤p.length∧(m.length + p.length) % 64=56 ∧
  iter (fun s:List UInt8=>BB F (h,b,(m.length:Int),()) s) F [(UInt8.ofNat 128)]=some p∧iter (fun s:List UInt8=>Bz F s) F (m ++ [(UInt8.ofNat 128)])=some (m ++ p):=by
 obtain ⟨r,r',b1,b2,b3,b4,b5⟩:=qs (f:=fun s:List UInt8=>BB F (h,b,(m.length:Int),()) s) (g:=fun s:List UInt8=>Bz F s)
  (fun s t=>t=m ++ s∧1≤s.length∧s.length≤(119 - m.length % 64) % 64 + 1) (fun r r'=>r'=m ++ r∧(1≤r.length∧r.length≤64)∧(m.length + r.length) % 64=56) (fun s=>65 - s.length) (by
   rintro s t ⟨rfl,h1,h2⟩
   have w:ag ((m.length:Int) + (s.length:Int))=((m.length + s.length:Nat):Int):=by rw [aY (by omega) (by omega)];omega
   have hl:((m ++ s).length:Int)=((m.length + s.length:Nat):Int):=by simp
   by_cases hc:(m.length + s.length) % 64=56
   ·have e:((((m.length + s.length) % 64:Nat):Int) != 56)=false:=by rw [hc];rfl
    refine .inr ⟨s,m ++ s,?_,?_,rfl,⟨h1,by omega⟩,hc⟩
    ·simp only [BB,De,w,q9,e,cond_false]
    ·simp only [Bz,Nm,hl,q9,e,cond_false]
   ·have e:((((m.length + s.length) % 64:Nat):Int) != 56)=true:=by rw [bne_iff_ne];omega
    refine .inl ⟨s ++ [UInt8.ofNat 0],m ++ s ++ [UInt8.ofNat 0],?_,?_,⟨by simp,by simp,?_⟩,?_⟩
    ·simp only [BB,De,w,q9,e,cond_true,pJ (show s.length + [UInt8.ofNat 0].length≤1099511627776 by simp;omega),Option.bind_some]
    ·simp only [Bz,Nm,hl,q9,e,cond_true,pJ (show (m ++ s).length + [UInt8.ofNat 0].length≤1099511627776 by simp;omega),Option.bind_some]
    ·simp only [List.length_append,List.length_cons,List.length_nil];omega
    ·simp only [List.length_append,List.length_cons,List.length_nil];omega) F F [(UInt8.ofNat 128)] (m ++ [(UInt8.ofNat 128)]) ⟨rfl,by simp,by simp⟩ (by simp;omega) (by simp;omega)
 subst b3
 exact ⟨r,b4.2,b4.1,b5,b1,b2⟩
theorem afH {F:Nat} {m p:List UInt8} (hF:300 < F) (hb:m.length < 1000000000) (hp:p.length≤64) (c:UInt64):∃ q:List UInt8,q.length=p.length + 8 ∧
  iter (fun s:Int×List UInt8=>Cj F c s.1 s.2) F ((56:Int),p)=some q∧iter (fun s:Int×List UInt8=>Cn F c s.1 s.2) F ((7:Int),m ++ p)=some (m ++ q):=by
 obtain ⟨r,r',b1,b2,b3,b4⟩:=qs (f:=fun s:Int×List UInt8=>Cj F c s.1 s.2) (g:=fun s:Int×List UInt8=>Cn F c s.1 s.2)
  (fun s t=>∃ i:Nat,i≤8∧s.1=8 * (i:Int) - 8∧t.1=(i:Int) - 1∧t.2=m ++ s.2∧s.2.length + i=p.length + 8) (fun r r'=>r'=m ++ r∧r.length=p.length + 8) (fun s=>(s.1 + 8).toNat) (by
   rintro ⟨a,s⟩ ⟨a',t⟩ ⟨i,h8,h1,h2,h3,h4⟩
   simp only at h1 h2 h3 h4
   subst h1 h2 h3
   cases i with
   | zero=>
    refine .inr ⟨s,m ++ s,?_,?_,rfl,by omega⟩
    ·have d:¬ ((0:Int)≤8 * ((0:Nat):Int) - 8):=by omega
     simp only [Cj,AW,d,decide_false,cond_false]
    ·have d:¬ ((0:Int)≤((0:Nat):Int) - 1):=by omega
     simp only [Cn,Sr,d,decide_false,cond_false]
   | succ i=>
    have e1:8 * ((i + 1:Nat):Int) - 8=((8 * i:Nat):Int):=by omega
    have e2:((i + 1:Nat):Int) - 1=((i:Nat):Int):=by omega
    rw [e1,e2]
    have d1:((0:Int)≤((8 * i:Nat):Int)):=by omega
    have d2:((0:Int)≤((i:Nat):Int)):=by omega
    have n1:cX ((8 * i:Nat):Int)=some (8 * i):=by unfold cX;rw [if_pos d1];simp only [Int.toNat_natCast]
    have w0:ag ((8:Int) * ((i:Nat):Int))=((8 * i:Nat):Int):=by rw [aY (by omega) (by omega)];omega
    have w1:ag (((8 * i:Nat):Int) - 8)=8 * (i:Int) - 8:=by rw [aY (by omega) (by omega)];omega
    have w2:ag (((i:Nat):Int) - 1)=(i:Int) - 1:=by rw [aY (by omega) (by omega)]
    refine .inl ⟨(8 * (i:Int) - 8,s ++ [(cY c (8 * i)).toUInt8]),((i:Int) - 1,m ++ s ++ [(cY c (8 * i)).toUInt8]),?_,?_,⟨i,by omega,rfl,rfl,by simp,by simp;omega⟩,?_⟩
    ·simp only [Cj,AW,d1,decide_true,cond_true,n1,Option.bind_some,pJ (show s.length + [(cY c (8 * i)).toUInt8].length≤1099511627776 by simp;omega),w1]
    ·simp only [Cn,Sr,d2,decide_true,cond_true,w0,n1,Option.bind_some,pJ (show (m ++ s).length + [(cY c (8 * i)).toUInt8].length≤1099511627776 by simp;omega),w2]
    ·simp only;omega) F F ((56:Int),p) ((7:Int),m ++ p) ⟨8,by omega,by omega,by omega,rfl,rfl⟩ (by simp only;omega) (by simp only;omega)
 subst b3
 exact ⟨r,b4,b1,b2⟩
theorem outs {F:Nat} (hF:300 < F) (h:Vector UInt32 8):∃ d:List UInt8,d.length=32∧iter (fun s:Int×List UInt8=>HD F h s.1 s.2) F ((0:Int),([]:List UInt8))=some d∧iter (fun s:Int×List UInt8=>Kg F h s.1 s.2) F ((0:Int),([]:List UInt8))=some d:=by
 obtain ⟨r,r',b1,b2,b3,b4⟩:=qs (f:=fun s:Int×List UInt8=>HD F h s.1 s.2) (g:=fun s:Int×List UInt8=>Kg F h s.1 s.2)
  (fun s t=>s=t∧∃ i:Nat,s.1=i∧i≤8∧s.2.length=4 * i) (fun r r'=>r'=r∧r.length=32) (fun s=>8 - s.1.toNat) (by
   rintro ⟨a,s⟩ t ⟨rfl,i,hi,h8,hl⟩
   simp only at hi hl
   subst hi
   by_cases hlt:i < 8
   ·have h1:(((i:Nat):Int) < 8):=by omega
    have e3:ag (((i:Nat):Int) + 1)=((i + 1:Nat):Int):=by rw [aY (by omega) (by omega)];omega
    have n:an 8 ((i:Nat):Int)=some i:=dJ hlt
    have ga:aD s [((cn h[i] ((UInt64.ofNat 24).toNat)).toUInt8),((cn h[i] ((UInt64.ofNat 16).toNat)).toUInt8),((cn h[i] ((UInt64.ofNat 8).toNat)).toUInt8),(h[i].toUInt8)]=some (s ++ [((cn h[i] ((UInt64.ofNat 24).toNat)).toUInt8),((cn h[i] ((UInt64.ofNat 16).toNat)).toUInt8),((cn h[i] ((UInt64.ofNat 8).toNat)).toUInt8),(h[i].toUInt8)]):=pJ (by simp [hl];omega)
    refine .inl ⟨(((i + 1:Nat):Int),s ++ [((cn h[i] ((UInt64.ofNat 24).toNat)).toUInt8),((cn h[i] ((UInt64.ofNat 16).toNat)).toUInt8),((cn h[i] ((UInt64.ofNat 8).toNat)).toUInt8),(h[i].toUInt8)]),(((i + 1:Nat):Int),s ++ [((cn h[i] ((UInt64.ofNat 24).toNat)).toUInt8),((cn h[i] ((UInt64.ofNat 16).toNat)).toUInt8),((cn h[i] ((UInt64.ofNat 8).toNat)).toUInt8),(h[i].toUInt8)]),?_,?_,⟨rfl,i + 1,rfl,by omega,?_⟩,by simp only [Int.toNat_natCast];omega⟩
    ·simp only [HD,Li,h1,decide_true,cond_true,wS (v:=h) hlt,Option.bind_some,ga,e3]
    ·simp only [Kg,Y1,h1,decide_true,cond_true,n,de (v:=h) hlt,Option.bind_some,ga,e3]
    ·simp [hl];omega
   ·obtain rfl:i=8:=by omega
    exact .inr ⟨s,s,rfl,rfl,rfl,hl⟩) F F ((0:Int),([]:List UInt8)) ((0:Int),([]:List UInt8)) ⟨rfl,0,rfl,by omega,rfl⟩ (by simp only [Int.toNat_zero];omega) (by simp only [Int.toNat_zero];omega)
 subst b3
 exact ⟨r',b4,b1,b2⟩
theorem Wy {F:Nat} (hF:100 < F) {M:List UInt8} {K:Nat} (hM:M.length=64 * K) (hb:M.length < 2000000000):∀ (j fuel k:Nat),k + j=K->j < fuel ->
  iter (fun s:Int×Vector UInt32 8=>rJ F M s.1 s.2) fuel (((64 * k:Nat):Int),hN F k M)=some (hN F K M)
 | j,0,k,hk,hf=>absurd hf (by omega)
 | 0,fuel + 1,k,hk,hf=>by
  have h1:¬ (((64 * k:Nat):Int) < (M.length:Int)):=by omega
  obtain rfl:k=K:=by omega
  have step:rJ F M ((64 * k:Nat):Int) (hN F k M)=some (.inr (hN F k M)):=by
   simp only [rJ,N8,h1,decide_false,cond_false]
  exact iW (f:=fun s:Int×Vector UInt32 8=>rJ F M s.1 s.2) (s:=(((64 * k:Nat):Int),hN F k M)) step
 | j + 1,fuel + 1,k,hk,hf=>by
  have h1:(((64 * k:Nat):Int) < (M.length:Int)):=by omega
  have w:ag (((64 * k:Nat):Int) + 64)=((64 * (k + 1):Nat):Int):=by rw [aY (by omega) (by omega)];omega
  have g:bW M.length ((64 * k:Nat):Int) ((64 * (k + 1):Nat):Int)=some (64 * k,64 * (k + 1)):=jR (by omega) (by omega)
  have e:64 * (k + 1) - 64 * k=64:=by omega
  have step:rJ F M ((64 * k:Nat):Int) (hN F k M)=some (.inl (((64 * (k + 1):Nat):Int),hN F (k + 1) M)):=by
   simp only [rJ,N8,h1,decide_true,cond_true,w,g,Option.bind_some,e,b85 hF (show ((M.drop (64 * k)).take 64).length=64 by simp;omega),hN]
  refine (lK (f:=fun s:Int×Vector UInt32 8=>rJ F M s.1 s.2) (s:=(((64 * k:Nat):Int),hN F k M)) step).trans ?_
  exact Wy hF hM hb j fuel (k + 1) (by omega) (by omega)
theorem GG {F:Nat} {m:List UInt8} {h:Vector UInt32 8} {b:Vector UInt8 64} {n:Int} (hF:400 + m.length < F) (hb:m.length < 100000000) (hI:Inv F m h b n) :
  ∃ d,yG F (h,b,n,())=some d∧sS F m=some d∧d.length=32:=by
 have hn:=hI.len
 subst hn
 obtain ⟨p,p1,p2,p3,p4,p5⟩:=ak3 (F:=F) (m:=m) (by omega) (by omega) h b
 obtain ⟨q,q1,q2,q3⟩:=afH (F:=F) (m:=m) (p:=p) (by omega) (by omega) p1 ((UInt64.ofInt (m.length:Int)) * (UInt64.ofNat 8))
 obtain ⟨h',b',n',t1,t2⟩:=tU (x:=q) (by omega) (by omega) hI
 obtain ⟨d,d1,d2,d3⟩:=outs (F:=F) (by omega) h'
 have g0:cw (0:UInt8) (0:Int) (32:Int)=some []:=by decide +kernel
 have hl:(m ++ q).length=m.length + q.length:=by simp
 have hK:(m ++ q).length=64 * ((m ++ q).length / 64):=by omega
 have l:=Wy (F:=F) (by omega) hK (by omega) ((m ++ q).length / 64) F 0 (by omega) (by omega)
 rw [← t2.words] at l
 refine ⟨d,?_,?_,d1⟩
 ·simp only [yG,GW,p4,Option.bind_some,q2,t1,g0,d2]
 ·have ga:aD ([]:List UInt8) m=some m:=by rw [pJ (by simp;omega)];rfl
  have gb:aD m [UInt8.ofNat 128]=some (m ++ [UInt8.ofNat 128]):=pJ (by simp;omega)
  have h84:Ub F m=some (m ++ q):=by
   simp only [Ub,Ys,ga,gb,Option.bind_some,p5,q3]
  simp only [sS,VK,h84,Option.bind_some]
  refine Eq.trans (congrArg (fun o=>Option.bind o _) l) ?_
  simp only [Option.bind_some,d3]
theorem IC (F:Nat):Inv F [] uE (Vector.replicate 64 (0:UInt8)) 0:=⟨rfl,rfl,rfl⟩
theorem It {F:Nat} {ls:List (List UInt8)} (hF:400 + ls.flatten.length + ls.length < F) (hb:ls.flatten.length < 100000000) (hl:ls.length < 1000):∃ d,CA F ls=some d∧sS F ls.flatten=some d∧d.length=32:=by
 obtain ⟨r,b1,b2⟩:=cL (f:=fun s:Int×Vector UInt32 8×Vector UInt8 64×Int=>K9 F ls (ls.length:Int) s.1 s.2.1 s.2.2.1 s.2.2.2)
  (fun s=>∃ i:Nat,s.1=i∧i≤ls.length∧Inv F (ls.take i).flatten s.2.1 s.2.2.1 s.2.2.2) (fun r=>Inv F ls.flatten r.1 r.2.1 r.2.2) (fun s=>ls.length - s.1.toNat) (by
   rintro ⟨a,h,b,n⟩ ⟨i,hi,cm,hI⟩
   simp only at hi hI
   subst hi
   by_cases hlt:i < ls.length
   ·have h1:(((i:Nat):Int) < (ls.length:Int)):=by omega
    have e3:ag (((i:Nat):Int) + 1)=((i + 1:Nat):Int):=by rw [aY (by omega) (by omega)];omega
    have hs:(ls.take (i + 1)).flatten=(ls.take i).flatten ++ ls[i]:=by
     rw [List.take_succ_eq_append_getElem hlt,List.flatten_append];simp
    have hle:(ls.take (i + 1)).flatten.length≤ls.flatten.length:=by
     conv=>rhs;rw [← List.take_append_drop (i + 1) ls,List.flatten_append,List.length_append]
     omega
    rw [hs,List.length_append] at hle
    have gs:p_ ls[i]=some ls[i]:=by unfold p_;rw [if_pos (by omega)]
    obtain ⟨h',b',n',t1,t2⟩:=tU (x:=ls[i]) (by omega) (by omega) hI
    refine .inl ⟨(((i + 1:Nat):Int),h',b',n'),?_,⟨i + 1,rfl,by omega,?_⟩,by simp only [Int.toNat_natCast];omega⟩
    ·simp only [K9,BH,h1,decide_true,cond_true,l_ hlt,Option.bind_some,gs,t1,e3]
    ·rw [hs];exact t2
   ·obtain rfl:i=ls.length:=by omega
    have h1:¬ (((ls.length:Nat):Int) < (ls.length:Int)):=by omega
    rw [List.take_length] at hI
    refine .inr ⟨(h,b,n),?_,hI⟩
    simp only [K9,BH,h1,decide_false,cond_false]) F ((0:Int),uE,Vector.replicate 64 (0:UInt8),(0:Int)) ⟨0,rfl,by omega,IC F⟩ (by simp only [Int.toNat_zero];omega)
 obtain ⟨d,d1,d2,d3⟩:=GG (by omega) hb b2
 refine ⟨d,?_,d2,d3⟩
 simp only [CA,Lq,nQ,sg,Option.bind_some,b1,d1]
def sh (F:Nat) (x:List UInt8):List UInt8:=(sS F x).getD []
theorem EZ {F:Nat} {x:List UInt8} (hF:410 + x.length < F) (hb:x.length < 1000000):sS F x=some (sh F x)∧(sh F x).length=32:=by
 obtain ⟨d,_,d2,d3⟩:=It (F:=F) (ls:=[x]) (by simp;omega) (by simp;omega) (by simp)
 rw [List.flatten_singleton] at d2
 simp [sh,d2,d3]
theorem Wi {F:Nat} {x:List UInt8} (hF:410 + x.length < F) (hb:x.length < 1000000):Jz F x=some (sh F x):=by
 obtain ⟨h,b,n,a1,a2⟩:=tU (F:=F) (m:=[]) (x:=x) (by simp;omega) (by simp;omega) (IC F)
 rw [List.nil_append] at a2
 obtain ⟨d,d1,d2,d3⟩:=GG (by omega) (by omega) a2
 simp only [Jz,HL,nQ,sg,Option.bind_some,a1,d1]
 simp [sh,d2]
theorem XI {F:Nat} {x:List UInt8} (hF:420 + x.length < F) (hb:x.length < 1000000):Jc F x=some (sh F (0 :: x)):=by
 obtain ⟨h0,b0,n0,c1,c2⟩:=tU (F:=F) (m:=[]) (x:=[0]) (by simp;omega) (by simp) (IC F)
 obtain ⟨h,b,n,a1,a2⟩:=tU (F:=F) (x:=x) (by simp;omega) (by simp;omega) c2
 obtain ⟨d,d1,d2,d3⟩:=GG (by simp;omega) (by simp;omega) a2
 have e:[(UInt8.ofNat 0)]=[(0:UInt8)]:=rfl
 simp only [Jc,ID,nQ,sg,Option.bind_some,e,c1,a1,d1]
 have:[] ++ [(0:UInt8)] ++ x=0 :: x:=rfl
 rw [this] at d2
 simp [sh,d2]
theorem aaF {F:Nat} {x y:List UInt8} (hF:420 + x.length + y.length < F) (hb:x.length + y.length < 1000000):B0 F x y=some (sh F (1 :: (x ++ y))):=by
 obtain ⟨d,d1,d2,d3⟩:=It (F:=F) (ls:=[[1],x,y]) (by simp;omega) (by simp;omega) (by simp)
 simp only [B0,G1,d1,Option.bind_some]
 have:[[1],x,y].flatten=1 :: (x ++ y):=by simp
 rw [this] at d2
 simp [sh,d2]
def sp (n:Nat):Nat:=((xW 0 (n:Int)).getD 0).toNat
theorem ajZ:∀ n:Fin 140,2≤n.val->xW 0 (n.val:Int)=some ((sp n.val:Nat):Int)∧1≤sp n.val∧sp n.val < n.val:=by decide +kernel
theorem q8 {n:Nat} (h1:2≤n) (h2:n < 140) (F:Nat):xW F (n:Int)=some ((sp n:Nat):Int)∧1≤sp n∧sp n < n:=ajZ ⟨n,h2⟩ h1
def rt (F:Nat):Nat->List (List UInt8)->List UInt8
 | 0,_=>[]
 | g + 1,l=>if l.length=0 then sh F [] else if l.length=1 then l.headD [] else sh F (1 :: (rt F g (l.take (sp l.length)) ++ rt F g (l.drop (sp l.length))))
theorem AP {F:Nat} (hF:2000 < F):∀ (g:Nat) (l:List (List UInt8)),l.length≤g->l.length < 140->(∀ x ∈ l,x.length=32)->l.length=0∧g=0∨(rt F g l).length=32
 | 0,l,hg,hl,h=>.inl ⟨by omega,rfl⟩
 | g + 1,l,hg,hl,h=>by
  refine .inr ?_
  unfold rt
  split
  ·exact (EZ (by simp;omega) (by simp)).2
  ·split
   ·cases l with
    | nil=>simp at *
    | cons x l=>exact h x (by simp)
   ·obtain ⟨_,h1,h2⟩:=q8 (n:=l.length) (by omega) hl F
    have ha:=AP hF g (l.take (sp l.length)) (by simp;omega) (by simp;omega) fun x hx=>h x (List.mem_of_mem_take hx)
    have hb:=AP hF g (l.drop (sp l.length)) (by simp;omega) (by simp;omega) fun x hx=>h x (List.mem_of_mem_drop hx)
    have ha:(rt F g (l.take (sp l.length))).length=32:=by
     rcases ha with ⟨h3,h4⟩ | ha
     ·simp at h3;omega
     ·exact ha
    have hb:(rt F g (l.drop (sp l.length))).length=32:=by
     rcases hb with ⟨h3,h4⟩ | hb
     ·simp at h3;omega
     ·exact hb
    exact (EZ (by simp;omega) (by simp;omega)).2
theorem zz {α:Type} {l:List α} {k:Nat} (h:k≤l.length):bk l (0:Int) (k:Int)=some (l.take k):=by
 have:=lR (l:=l) (a:=0) (b:=k) (by omega) h
 simpa using this
theorem abJ {α:Type} {l:List α} {k:Nat} (h:k≤l.length):bk l (k:Int) (l.length:Int)=some (l.drop k):=by
 have:=lR (l:=l) (a:=k) (b:=l.length) h (by omega)
 rw [this];congr 1
 apply List.take_of_length_le;simp
theorem Ta {F:Nat} (hF:2000 < F):∀ (g:Nat) (l:List (List UInt8)),l.length≤g->0 < g->l.length < 140->(∀ x ∈ l,x.length=32)->rm F g l=some (rt F g l)
 | 0,l,hg,h0,hl,h=>by omega
 | g + 1,l,hg,h0,hl,h=>by
  show Ar F (rm F g) l=_
  simp only [Ar,Af,rt]
  by_cases c0:l.length=0
  ·have e0:((l.length:Int) == 0)=true:=by simpa using c0
   have:=Wi (F:=F) (x:=[]) (by simp;omega) (by simp)
   simp only [e0,cond_true,this,Option.bind_some,if_pos c0]
  ·have e0:((l.length:Int) == 0)=false:=by simpa using c0
   by_cases c1:l.length=1
   ·have e1:((l.length:Int) == 1)=true:=by rw [c1];rfl
    simp only [e0,e1,cond_true,cond_false,if_neg c0,if_pos c1]
    cases l with
    | nil=>simp at c1
    | cons x l=>
     have:ix (x :: l) (0:Int)=some x:=cU (i:=0) rfl
     rw [this];rfl
   ·have e1:((l.length:Int) == 1)=false:=by
     have:¬ (l.length:Int)=1:=by omega
     simpa using this
    obtain ⟨h3,h1,h2⟩:=q8 (n:=l.length) (by omega) hl F
    have ha:=Ta hF g (l.take (sp l.length)) (by simp;omega) (by omega) (by simp;omega) fun x hx=>h x (List.mem_of_mem_take hx)
    have hb:=Ta hF g (l.drop (sp l.length)) (by simp;omega) (by omega) (by simp;omega) fun x hx=>h x (List.mem_of_mem_drop hx)
    have la:=AP hF g (l.take (sp l.length)) (by simp;omega) (by simp;omega) fun x hx=>h x (List.mem_of_mem_take hx)
    have lb:=AP hF g (l.drop (sp l.length)) (by simp;omega) (by simp;omega) fun x hx=>h x (List.mem_of_mem_drop hx)
    have la:(rt F g (l.take (sp l.length))).length=32:=by
     rcases la with ⟨h3,h4⟩ | ha
     ·omega
     ·exact ha
    have lb:(rt F g (l.drop (sp l.length))).length=32:=by
     rcases lb with ⟨h3,h4⟩ | hb
     ·omega
     ·exact hb
    have hn:=aaF (F:=F) (x:=rt F g (l.take (sp l.length))) (y:=rt F g (l.drop (sp l.length))) (by omega) (by omega)
    simp only [e0,e1,cond_false,h3,Option.bind_some,zz (Nat.le_of_lt h2),abJ (Nat.le_of_lt h2),ha,hb,hn,if_neg c0,if_neg c1]
theorem lX {F:Nat} (hF:2000 < F) {l:List (List UInt8)} (hl:l.length < 140) (h:∀ x ∈ l,x.length=32):tP F l=some (rt F F l)∧(rt F F l).length=32:=by
 refine ⟨Ta hF F l (by omega) (by omega) hl h,?_⟩
 rcases AP hF F l (by omega) hl h with ⟨_,h⟩ | h
 ·omega
 ·exact h
def blk (F:Nat):Nat->List UInt8->List (List UInt8)
 | 0,_=>[]
 | n + 1,x=>if x.length=0 then [] else sh F (0 :: x.take 512) :: blk F n (x.drop 512)
theorem Yt (F:Nat):∀ (n:Nat) (x:List UInt8),(blk F n x).length≤n
 | 0,x=>by simp [blk]
 | n + 1,x=>by
  unfold blk;split
  ·simp
  ·have:=Yt F n (x.drop 512);simp;omega
theorem SB {F:Nat} (hF:2000 < F):∀ (n:Nat) (x:List UInt8),∀ y ∈ blk F n x,y.length=32
 | 0,x,y,h=>by simp [blk] at h
 | n + 1,x,y,h=>by
  unfold blk at h
  split at h
  ·simp at h
  ·rcases List.mem_cons.1 h with rfl | h
   ·exact (EZ (by simp;omega) (by simp;omega)).2
   ·exact SB hF n _ y h
theorem al_ (x:List UInt8):(if (x.length:Int) < 512 then (x.length:Int) else 512)=((min 512 x.length:Nat):Int):=by split<;>omega
theorem OJ {F:Nat} (hF:2000 < F):∀ (n fuel:Nat) (x:List UInt8) (acc:List (List UInt8)),x.length≤512 * n->n < fuel->acc.length + n < 100000->iter (fun s:List UInt8×List (List UInt8)=>C4 F (512:Int) s.1 s.2) fuel (x,acc)=some (acc ++ blk F n x)
 | n,0,x,acc,_,hf,_=>by omega
 | 0,fuel + 1,x,acc,hx,hf,_=>by
  have:¬ (0:Int) < (x.length:Int):=by omega
  refine (m7 (s:=(x,acc)) (r:=acc) (by simp only [C4,yc,this,decide_false,cond_false])).trans (by simp only [blk,List.append_nil])
 | n + 1,fuel + 1,x,acc,hx,hf,ha=>by
  by_cases h0:x.length=0
  ·have:¬ (0:Int) < (x.length:Int):=by omega
   refine (m7 (s:=(x,acc)) (r:=acc) (by simp only [C4,yc,this,decide_false,cond_false])).trans (by simp only [blk,if_pos h0,List.append_nil])
  ·have h1:(0:Int) < (x.length:Int):=by omega
   have hm:min 512 x.length≤x.length:=Nat.min_le_right _ _
   have hl:=XI (F:=F) (x:=x.take 512) (by simp;omega) (by simp;omega)
   have ht:x.take (min 512 x.length)=x.take 512:=by rw [← List.take_take,List.take_length]
   have hd:x.drop (min 512 x.length)=x.drop 512:=by
    rcases Nat.le_total 512 x.length with h | h
    ·rw [Nat.min_eq_left h]
    ·rw [Nat.min_eq_right h,List.drop_length,List.drop_eq_nil_of_le h]
   have hg:aD acc ([sh F (0 :: x.take 512)]:List (List UInt8))=some (acc ++ [sh F (0 :: x.take 512)]):=d9 (by simp;omega)
   have ih:=OJ hF n fuel (x.drop 512) (acc ++ [sh F (0 :: x.take 512)]) (by simp;omega) (by omega) (by simp;omega)
   refine (uC (s:=(x,acc)) (s':=(x.drop 512,acc ++ [sh F (0 :: x.take 512)])) (by simp only [C4,yc,h1,decide_true,cond_true,al_,zz hm,abJ hm,ht,hd,hl,hg,Option.bind_some])).trans (ih.trans (by simp only [blk,if_neg h0,List.append_assoc,List.singleton_append]))
def hsh (F:Nat) (x:List UInt8):List UInt8:=rt F F (blk F 128 x)
theorem NY {F:Nat} (hF:2000 < F) {x:List UInt8} (hx:x.length≤65536):Kl F x (512:Int)=some (hsh F x,0)∧(hsh F x).length=32:=by
 have hl:=OJ hF 128 F x [] (by omega) (by omega) (by simp)
 have hb:=Yt F 128 x
 obtain ⟨h1,h2⟩:=lX hF (l:=blk F 128 x) (by omega) (SB hF 128 x)
 refine ⟨?_,h2⟩
 have h3:¬ (1048576:Int) < (x.length:Int):=by omega
 have h4:¬ (512:Int) < (1:Int):=by omega
 rw [List.nil_append] at hl
 have hB:wo F x (512:Int)=some ((0:Int),blk F 128 x):=by
  simp only [wo,BY,h3,h4,decide_false,cond_false,hl,Option.bind_some]
 simp only [Kl,G0,hB,Option.bind_some,bne_self_eq_false,cond_false,h1]
 rfl
theorem Rows.fresh {α:Type} {rows:List (Option (List α))} {out:List Nat} {gs:List (List α)} (H:Rows rows out gs) {i:Nat} (hi:i < gs.length) (y:List α):Rows (rows ++ [some y]) (out.set i rows.length) (gs.set i y):=by
 have cm:i < out.length:=by rw [H.len];exact hi
 refine ⟨by simp [H.len],fun k g h=>?_,afG fun a b q' ha hb=>?_⟩
 ·by_cases hk:i=k
  ·subst hk
   rw [List.getElem?_set_self hi] at h
   cases h
   exact ⟨rows.length,List.getElem?_set_self cm,by simp⟩
  ·rw [List.getElem?_set_ne hk] at h
   obtain ⟨q',h1,h2⟩:=H.at_ k g h
   refine ⟨q',by rw [List.getElem?_set_ne hk];exact h1,?_⟩
   rw [List.getElem?_append_left (aM h2).1];exact h2
 ·by_cases rR:i=a
  ·subst rR
   rw [List.getElem?_set_self cm] at ha
   cases ha
   by_cases hb':i=b
   ·exact hb'
   ·rw [List.getElem?_set_ne hb'] at hb
    have:=H.lt (List.mem_of_getElem? hb);omega
  ·rw [List.getElem?_set_ne rR] at ha
   by_cases hb':i=b
   ·subst hb'
    rw [List.getElem?_set_self cm] at hb
    cases hb
    have:=H.lt (List.mem_of_getElem? ha);omega
   ·rw [List.getElem?_set_ne hb'] at hb
    exact apq H.nd ha hb
theorem Rows.init {α:Type} (n:Nat) (g:List α):Rows (List.replicate n (some g)) (List.range n) (List.replicate n g):=by
 refine ⟨by simp,fun i g' h=>?_,List.nodup_range⟩
 have hi:=(aM h).1
 simp at hi
 rw [List.getElem?_replicate,if_pos hi] at h
 cases h
 exact ⟨i,by simp [hi],by simp [hi]⟩
theorem rz {α:Type} (x:α) {n:Nat} (h:n≤1099511627776):cw x (n:Int) (n:Int)=some (List.replicate n x):=by unfold cw;rw [if_pos (by omega)];simp
theorem adu {F n len:Nat} (hF:n < F) (hn:n≤1000000) (hl:len≤1000000):∃ r,Qz F (n:Int) (len:Int)=some r∧Rows r.1 r.2 (List.replicate n (List.replicate len (0:UInt8))):=by
 obtain ⟨z,hz,gs,hR,qX,zg⟩:=cL (f:=fun s:Int×(List (Option (List UInt8))×List Nat)=>EF F (len:Int) (n:Int) s.1 s.2)
  (fun s=>∃ k:Nat,s.1=(k:Int)∧k≤n∧∃ gs:List (List UInt8),Rows s.2.1 s.2.2 gs∧gs.length=n∧∀ i,i < k->gs[i]? = some (List.replicate len 0))
  (fun z=>∃ gs:List (List UInt8),Rows z.1 z.2 gs∧gs.length=n∧∀ i,i < n->gs[i]? = some (List.replicate len 0)) (fun s=>n - s.1.toNat) (fun s hs=>by
   obtain ⟨k,e,hk,gs,hR,qX,zg⟩:=hs
   obtain ⟨s1,⟨rows,out⟩⟩:=s
   simp only at e hR
   subst e
   rcases Nat.lt_or_ge k n with hlt | hge
   ·have cz:((k:Nat):Int) < (n:Int):=by omega
    have hg:=rz (0:UInt8) (n:=len) (by omega)
    have hi:an out.length (k:Int)=some k:=iy (by rw [ad1 hR,qX];exact hlt)
    have hw:ag (((k:Nat):Int) + 1)=((k + 1:Nat):Int):=dH (by omega)
    refine .inl ⟨_,by simp only [EF,Ak,cz,decide_true,cond_true,hg,hi,Option.bind_some,hw];rfl,⟨k + 1,rfl,by omega,_,hR.fresh (i:=k) (by omega) _,by simp [qX],fun i hi=>?_⟩,by simp only [Int.toNat_natCast];omega⟩
    by_cases hik:k=i
    ·subst hik;rw [List.getElem?_set_self (by omega)]
    ·rw [List.getElem?_set_ne hik];exact zg i (by omega)
   ·have hkn:k=n:=by omega
    subst hkn
    refine .inr ⟨(rows,out),?_,gs,hR,qX,zg⟩
    simp [EF,Ak])
  F ((0:Int),(List.replicate n (some ([]:List UInt8)),List.range n)) ⟨0,rfl,by omega,_,Rows.init n [],by simp,fun i h=>by omega⟩ (by simp;omega)
 have SM:gs=List.replicate n (List.replicate len (0:UInt8)):=by
  apply List.ext_getElem?
  intro i
  rcases Nat.lt_or_ge i n with h | h
  ·rw [zg i h,List.getElem?_replicate,if_pos h]
  ·rw [List.getElem?_eq_none (by omega),List.getElem?_eq_none (by simp;omega)]
 subst SM
 refine ⟨z,?_,hR⟩
 have hg:=rz () (n:=n) (by omega)
 simp only [Qz,KQ,hg,Option.bind_some,List.length_replicate,List.length_range,hz]
where ad1 {rows:List (Option (List UInt8))} {out:List Nat} {gs:List (List UInt8)} (H:Rows rows out gs):out.length=gs.length:=H.len
def qy (a:UInt8) (d s:List UInt8):List UInt8:=List.zipWith (fun x y=>x ^^^ gm a y) d s
def eU:List UInt8->List (List UInt8)->List UInt8->List UInt8
 | a :: r,b :: bs,acc=>eU r bs (qy a acc b)
 | [],_,acc=>acc
 | _,[],acc=>acc
theorem RR {a:UInt8} {d s:List UInt8} (h:s.length=d.length):(qy a d s).length=d.length:=by simp [qy,h]
theorem aez {d s:List UInt8} (h:s.length=d.length):qy 0 d s=d:=by
 apply List.ext_getElem
 ·exact RR h
 ·intro i h1 h2
  simp [qy,as0]
theorem U9:∀ (r:List UInt8) (bs:List (List UInt8)) (acc:List UInt8) (a:UInt8) (b:List UInt8),r.length=bs.length->eU (r ++ [a]) (bs ++ [b]) acc=qy a (eU r bs acc) b
 | [],[],acc,a,b,_=>rfl
 | x :: r,y :: bs,acc,a,b,h=>by simp only [List.cons_append,eU];exact U9 r bs _ a b (by simpa using h)
 | [],_ :: _,_,_,_,h=>by simp at h
 | _ :: _,[],_,_,_,h=>by simp at h
theorem PV:∀ {r:List UInt8} {bs:List (List UInt8)} {acc:List UInt8},(∀ b ∈ bs,b.length=acc.length)->(eU r bs acc).length=acc.length
 | a :: r,b :: bs,acc,h=>by
  simp only [eU]
  have hb:=h b (by simp)
  rw [PV (fun b' hb'=>by rw [RR hb];exact h b' (by simp [hb'])),RR hb]
 | [],_,_,_=>by simp [eU]
 | _ :: _,[],_,_=>by simp [eU]
theorem sM {α:Type} {l:List α} {k:Nat} {x:α} (h:l[k]? = some x):l.take (k + 1)=l.take k ++ [x]:=by
 rw [List.take_add_one,h];rfl
theorem ar1 {F:Nat} {len:Nat} (hF:200 + len < F) (hlen:len < 1000000) {x:List UInt8} {bs:List (List UInt8)} (hx:x.length=bs.length) (mw:bs.length≤100) (hb:∀ b ∈ bs,b.length=len) {i:Nat} {gs:List (List UInt8)} {rows:List (Option (List UInt8))} {out:List Nat} (H:Rows rows out gs) {acc:List UInt8} (hi:gs[i]? = some acc) (ha:acc.length=len) :
  ∃ r,iter (fun s:Int×(List (Option (List UInt8))×List Nat)=>yF F bs (i:Int) x (x.length:Int) s.1 s.2) F ((0:Int),(rows,out))=some r∧Rows r.1 r.2 (gs.set i (eU x bs acc)):=by
 have cm:=(aM hi).1
 exact cL (f:=fun s:Int×(List (Option (List UInt8))×List Nat)=>yF F bs (i:Int) x (x.length:Int) s.1 s.2)
  (fun s=>∃ k:Nat,s.1=(k:Int)∧k≤x.length∧Rows s.2.1 s.2.2 (gs.set i (eU (x.take k) (bs.take k) acc)))
  (fun r=>Rows r.1 r.2 (gs.set i (eU x bs acc))) (fun s=>x.length - s.1.toNat) (fun s hs=>by
   obtain ⟨k,e,hk,hR⟩:=hs
   obtain ⟨s1,⟨rows,out⟩⟩:=s
   simp only at e hR
   subst e
   rcases Nat.lt_or_ge k x.length with hlt | hge
   ·have hr:x[k]? = some x[k]:=List.getElem?_eq_getElem hlt
    have rA:bs[k]? = some (bs[k]'(by omega)):=List.getElem?_eq_getElem (by omega)
    have cz:((k:Nat):Int) < (x.length:Int):=by omega
    have ej:=cU hr
    have Eu:=cU rA
    have hw:ag (((k:Nat):Int) + 1)=((k + 1:Nat):Int):=dH (by omega)
    have fe:=hb _ (List.getElem_mem (h:=(by omega:k < bs.length)))
    generalize x[k]=a at hr ej
    generalize bs[k]'(by omega)=b at rA Eu fe
    have ke:(eU (x.take k) (bs.take k) acc).length=len:=by
     rw [PV (fun b hb'=>by rw [hb b (List.mem_of_mem_take hb'),ha]),ha]
    have YB:eU (x.take (k + 1)) (bs.take (k + 1)) acc=qy a (eU (x.take k) (bs.take k) acc) b:=by
     rw [sM hr,sM rA];exact U9 _ _ _ _ _ (by simp [hx])
    obtain ⟨q,a1,a2,a3⟩:=hR.get (i:=i) (g:=eU (x.take k) (bs.take k) acc) (by rw [List.getElem?_set_self cm])
    have D2:out.length=gs.length:=by rw [hR.len];simp
    have hin:an out.length (i:Int)=some i:=iy (by omega)
    by_cases h0:a=0
    ·subst h0
     have e0:((0:UInt8) != UInt8.ofNat 0)=false:=rfl
     refine .inl ⟨(((k + 1:Nat):Int),(rows,out)),by simp only [yF,yV,cz,decide_true,cond_true,ej,e0,cond_false,Option.bind_some,hw],⟨k + 1,rfl,by omega,?_⟩,by simp only [Int.toNat_natCast];omega⟩
     rw [YB,aez (by rw [fe,ke])];exact hR
    ·have e0:(a != UInt8.ofNat 0)=true:=by have h2:a ≠ UInt8.ofNat 0:=h0;simpa using h2
     have hm:=ahM (F:=F) (l:=eU (x.take k) (bs.take k) acc) (v:=b) (by omega) (by omega) (by omega) a
     have hfr:=hR.fresh (i:=i) (by simp;exact cm) (qy a (eU (x.take k) (bs.take k) acc) b)
     rw [List.set_set] at hfr
     refine .inl ⟨_,by simp only [yF,yV,cz,decide_true,cond_true,ej,Eu,e0,hin,a1,a2,hm,Option.bind_some,hw];rfl,⟨k + 1,rfl,by omega,?_⟩,by simp only [Int.toNat_natCast];omega⟩
     rw [YB];exact hfr
   ·have hkn:k=x.length:=by omega
    subst hkn
    rw [List.take_length,hx,List.take_length] at hR
    refine .inr ⟨(rows,out),?_,hR⟩
    simp [yF,yV])
  F ((0:Int),(rows,out)) ⟨0,rfl,by omega,by
   have:gs.set i (eU (x.take 0) (bs.take 0) acc)=gs:=by
    simp only [List.take_zero,eU]
    apply List.ext_getElem?
    intro j
    by_cases h:i=j
    ·subst h;rw [List.getElem?_set_self cm,hi]
    ·rw [List.getElem?_set_ne h]
   rw [this];exact H⟩ (by simp;omega)
theorem ar3 {F:Nat} {len:Nat} (hF:200 + len < F) (hlen:len < 1000000) {m bs:List (List UInt8)} (hm:m.length≤100) (hx:∀ x ∈ m,x.length=bs.length) (mw:bs.length≤100) (hb:∀ b ∈ bs,b.length=len) :
  OG F m bs (len:Int)=some (m.map fun x=>eU x bs (List.replicate len 0)):=by
 obtain ⟨r0,hz,pQ⟩:=adu (F:=F) (n:=m.length) (len:=len) (by omega) (by omega) (by omega)
 obtain ⟨z,rG,gs,hR,qX,zg⟩:=cL (f:=fun s:Int×(List (Option (List UInt8))×List Nat)=>HS F bs m (m.length:Int) s.1 s.2)
  (fun s=>∃ k:Nat,s.1=(k:Int)∧k≤m.length∧∃ gs:List (List UInt8),Rows s.2.1 s.2.2 gs∧gs.length=m.length∧(∀ i x,i < k->m[i]? = some x->gs[i]? = some (eU x bs (List.replicate len 0)))∧(∀ i,k≤i->i < m.length->gs[i]? = some (List.replicate len 0)))
  (fun z=>∃ gs:List (List UInt8),Rows z.1 z.2 gs∧gs.length=m.length∧∀ i x,m[i]? = some x->gs[i]? = some (eU x bs (List.replicate len 0))) (fun s=>m.length - s.1.toNat) (fun s hs=>by
   obtain ⟨k,e,hk,gs,hR,qX,hg1,rC⟩:=hs
   obtain ⟨s1,⟨rows,out⟩⟩:=s
   simp only at e hR
   subst e
   rcases Nat.lt_or_ge k m.length with hlt | hge
   ·have hr:m[k]? = some m[k]:=List.getElem?_eq_getElem hlt
    have cz:((k:Nat):Int) < (m.length:Int):=by omega
    have ej:=cU hr
    have hw:ag (((k:Nat):Int) + 1)=((k + 1:Nat):Int):=dH (by omega)
    have hxl:=hx _ (List.getElem_mem hlt)
    generalize m[k]=x at hr ej hxl
    obtain ⟨r,q1,q2⟩:=ar1 hF hlen hxl mw hb hR (rC k (by omega) hlt) (by simp)
    refine .inl ⟨(((k + 1:Nat):Int),r),by simp only [HS,Cm,cz,decide_true,cond_true,ej,q1,Option.bind_some,hw],⟨k + 1,rfl,by omega,_,q2,by simp [qX],fun i y hi hy=>?_,fun i hi1 hi2=>?_⟩,by simp only [Int.toNat_natCast];omega⟩
    ·by_cases hik:k=i
     ·subst hik;rw [hr] at hy;cases hy;rw [List.getElem?_set_self (by omega)]
     ·rw [List.getElem?_set_ne hik];exact hg1 i y (by omega) hy
    ·rw [List.getElem?_set_ne (by omega)];exact rC i (by omega) hi2
   ·have hkn:k=m.length:=by omega
    subst hkn
    refine .inr ⟨(rows,out),?_,gs,hR,qX,fun i x hi=>hg1 i x (aM hi).1 hi⟩
    simp [HS,Cm])
  F ((0:Int),r0) ⟨0,rfl,by omega,_,pQ,by simp,fun i x h=>by omega,fun i h1 h2=>by simp [h2]⟩ (by simp;omega)
 have SM:gs=m.map fun x=>eU x bs (List.replicate len 0):=by
  apply List.ext_getElem?
  intro i
  rcases Nat.lt_or_ge i m.length with h | h
  ·rw [zg i m[i] (List.getElem?_eq_getElem h),List.getElem?_map,List.getElem?_eq_getElem h];rfl
  ·rw [List.getElem?_eq_none (by omega),List.getElem?_eq_none (by simp;omega)]
 subst SM
 have aga:=hR.mat_eq
 simp only [OG,LU,hz,Option.bind_some,rG,aga]
theorem Xk (F:Nat) (m:List (List UInt8)):AU F m=some (((m.headD []).length:Nat):Int):=by
 cases m with
 | nil=>rfl
 | cons x m=>
  have e:(((x :: m).length:Int) == 0)=false:=by
   have:¬ ((x :: m).length:Int)=0:=by simp;omega
   simpa using this
  have:ix (x :: m) (0:Int)=some x:=cU (i:=0) rfl
  simp only [AU,FK,e,cond_false,this,Option.bind_some];rfl
theorem M6 {ρ:Type} {F:Nat} {n:Nat} {f:Int->Option (Int ⊕ (Unit ⊕ ρ))} (hn:n < F) (hn2:n < 1000000)
  (hs:∀ k:Nat,k < n->f (k:Int)=some (.inl ((k + 1:Nat):Int))) (he:f (n:Int)=some (.inr (.inl ()))):iter f F (0:Int)=some (.inl ()):=by
 obtain ⟨z,hz,rfl⟩:=cL (f:=f) (fun s=>∃ k:Nat,s=(k:Int)∧k≤n) (fun z=>z=.inl ()) (fun s=>n - s.toNat) (fun s hs'=>by
   obtain ⟨k,e,hk⟩:=hs'
   subst e
   rcases Nat.lt_or_ge k n with hlt | hge
   ·exact .inl ⟨_,hs k hlt,⟨k + 1,rfl,by omega⟩,by simp only [Int.toNat_natCast];omega⟩
   ·have:k=n:=by omega
    subst this
    exact .inr ⟨_,he,rfl⟩)
  F (0:Int) ⟨0,rfl,by omega⟩ (by simp;omega)
 exact hz
theorem an9 {F:Nat} {m:List (List UInt8)} {w:Nat} (hF:200 < F) (h1:m.length≤64) (hw:w≤64) (h2:∀ x ∈ m,x.length=w):Pb F m=some true:=by
 have hc:(m.headD []).length≤64:=by
  cases m with
  | nil=>simp
  | cons x m=>have:=h2 x (by simp);simp;omega
 have e1:¬ (64:Int) < (m.length:Int):=by omega
 have e2:¬ (64:Int) < (((m.headD []).length:Nat):Int):=by omega
 have hl:iter (fun s=>J1 F m m (m.length:Int) s) F (0:Int)=some (.inl ()):=by
  refine M6 (n:=m.length) (by omega) (by omega) (fun k hk=>?_) ?_
  ·have hr:m[k]? = some m[k]:=List.getElem?_eq_getElem hk
   have j_:m[0]? = some (m[0]'(by omega)):=List.getElem?_eq_getElem (by omega)
   have hi0:ix m (0:Int)=some (m[0]'(by omega)):=cU (i:=0) j_
   have cz:((k:Nat):Int) < (m.length:Int):=by omega
   have oq:=h2 _ (List.getElem_mem hk)
   have dh:=h2 _ (List.getElem_mem (h:=(by omega:0 < m.length)))
   have e:((m[k].length:Int) != ((m[0]'(by omega)).length:Int))=false:=by rw [oq,dh];simp
   simp only [J1,At,cz,decide_true,cond_true,cU hr,hi0,Option.bind_some,e,cond_false,dH (show k < 9223372036854775807 by omega)]
  ·simp [J1,At]
 simp only [Pb,IW,e1,e2,decide_false,cond_false,Xk,Option.bind_some,hl,bz]
theorem arU {F:Nat} {len:Nat} (hF:200 + len < F) (hlen:len < 1000000) {m bs:List (List UInt8)} (hm:m.length≤64) (hm0:m ≠ []) (hx:∀ x ∈ m,x.length=bs.length) (mw:bs.length≤64) (hb0:bs ≠ []) (hb:∀ b ∈ bs,b.length=len) :
  Mr F m bs=some (m.map fun x=>eU x bs (List.replicate len 0),0):=by
 have hv:=an9 (F:=F) (m:=m) (w:=bs.length) (by omega) hm mw hx
 have hc:(m.headD []).length=bs.length:=by
  cases m with
  | nil=>exact absurd rfl hm0
  | cons x m=>exact hx x (by simp)
 have hcb:(bs.headD []).length=len:=by
  cases bs with
  | nil=>exact absurd rfl hb0
  | cons x m=>exact hb x (by simp)
 have hl:iter (fun s=>KZ F bs bs (bs.length:Int) s) F (0:Int)=some (.inl ()):=by
  refine M6 (n:=bs.length) (by omega) (by omega) (fun k hk=>?_) ?_
  ·have hr:bs[k]? = some bs[k]:=List.getElem?_eq_getElem hk
   have j_:bs[0]? = some (bs[0]'(by omega)):=List.getElem?_eq_getElem (by omega)
   have hi0:ix bs (0:Int)=some (bs[0]'(by omega)):=cU (i:=0) j_
   have cz:((k:Nat):Int) < (bs.length:Int):=by omega
   have oq:=hb _ (List.getElem_mem hk)
   have dh:=hb _ (List.getElem_mem (h:=(by omega:0 < bs.length)))
   have e:((bs[k].length:Int) != ((bs[0]'(by omega)).length:Int))=false:=by rw [oq,dh];simp
   simp only [KZ,Bs,cz,decide_true,cond_true,cU hr,hi0,Option.bind_some,e,cond_false,dH (show k < 9223372036854775807 by omega)]
  ·simp [KZ,Bs]
 have TM:=ar3 hF hlen (m:=m) (bs:=bs) (by omega) hx (by omega) hb
 simp only [Mr,KE,hv,Option.bind_some,Bool.not_true,cond_false,Xk,hc,bne_self_eq_false,hl,bz,hcb,TM]
def cell (d i c:Nat):UInt8:=if d≤i then gi (UInt8.ofNat (i ^^^ c)) else if i=c then 1 else 0
theorem afQ {i c:Nat} (hi:i < 16) (hc:c < 8):UInt8.ofInt (AG (i:Int) (c:Int))=UInt8.ofNat (i ^^^ c):=by
 have:∀ (i:_root_.Fin 16) (c:_root_.Fin 8),UInt8.ofInt (AG (i.val:Int) (c.val:Int))=UInt8.ofNat (i.val ^^^ c.val):=by decide +kernel
 exact this ⟨i,hi⟩ ⟨c,hc⟩
abbrev Tb:=Vector (Vector UInt8 8) 16
def fq (t:Tb) (i c:Nat):UInt8:=if h:i < 16∧c < 8 then (t[i]'h.1)[c]'h.2 else 0
theorem ZG {α:Type} {n i:Nat} {v:Vector α n} (h:i < n):aA v i=some v[i]:=de h
theorem KK {t:Tb} {i c:Nat} (hi:i < 16) (hc:c < 8) (x:UInt8) (i' c':Nat):fq (Vector.setIfInBounds t i (Vector.setIfInBounds (t[i]'hi) c x)) i' c'=if i'=i∧c'=c then x else fq t i' c':=by
 unfold fq
 by_cases h:i' < 16∧c' < 8
 ·rw [dif_pos h,dif_pos h]
  by_cases h1:i'=i
  ·subst h1
   by_cases h2:c'=c
   ·subst h2;simp
   ·rw [if_neg (fun e=>h2 e.2)]
    have h3:¬ c=c':=fun e=>h2 e.symm
    simp [Vector.getElem_setIfInBounds,h3]
  ·rw [if_neg (fun e=>h1 e.1)]
   rw [Vector.getElem_setIfInBounds_ne (h:=fun e=>h1 e.symm)]
 ·rw [dif_neg h,dif_neg h,if_neg (fun e=>h ⟨by omega,by omega⟩)]
theorem aoe {F d i:Nat} (hF:200 < F) (hd:d≤8) (hi:i < 16) (t:Tb) (h0:∀ i' c,i≤i'->fq t i' c=0) (h1:∀ i' c,i' < i->c < d->fq t i' c=cell d i' c) :
  ∃ t',iter (fun s:Int×Tb=>tW F (d:Int) (i:Int) (d:Int) s.1 s.2) F ((0:Int),t)=some t'∧(∀ i' c,i + 1≤i'->fq t' i' c=0)∧(∀ i' c,i' < i + 1->c < d->fq t' i' c=cell d i' c):=by
 exact cL (f:=fun s:Int×Tb=>tW F (d:Int) (i:Int) (d:Int) s.1 s.2)
  (fun s=>∃ k:Nat,s.1=(k:Int)∧k≤d∧(∀ i' c,i + 1≤i'->fq s.2 i' c=0)∧(∀ c,k≤c->fq s.2 i c=0)∧(∀ i' c,i' < i->c < d->fq s.2 i' c=cell d i' c)∧(∀ c,c < k->fq s.2 i c=cell d i c))
  _ (fun s=>d - s.1.toNat) (fun s hs=>by
   obtain ⟨k,e,hk,a1,a2,a3,a4⟩:=hs
   obtain ⟨s1,t⟩:=s
   simp only at e a1 a2 a3 a4
   subst e
   rcases Nat.lt_or_ge k d with hlt | hge
   ·have cz:((k:Nat):Int) < (d:Int):=by omega
    have hw:ag (((k:Nat):Int) + 1)=((k + 1:Nat):Int):=dH (by omega)
    have hi1:an 16 (i:Int)=some i:=iy hi
    have gu:an 8 (k:Int)=some k:=iy (by omega)
    have hv:aA t i=some t[i]:=ZG hi
    have put:∀ x:UInt8,x=cell d i k->(∀ i' c,i + 1≤i'->fq (Vector.setIfInBounds t i (Vector.setIfInBounds (t[i]'hi) k x)) i' c=0)∧(∀ c,k + 1≤c->fq (Vector.setIfInBounds t i (Vector.setIfInBounds (t[i]'hi) k x)) i c=0)∧(∀ i' c,i' < i->c < d->fq (Vector.setIfInBounds t i (Vector.setIfInBounds (t[i]'hi) k x)) i' c=cell d i' c)∧(∀ c,c < k + 1->fq (Vector.setIfInBounds t i (Vector.setIfInBounds (t[i]'hi) k x)) i c=cell d i c):=fun x hx=>by
     refine ⟨fun i' c h=>?_,fun c h=>?_,fun i' c h h2=>?_,fun c h=>?_⟩
     ·rw [KK hi (by omega),if_neg (by omega)];exact a1 i' c h
     ·rw [KK hi (by omega),if_neg (by omega)];exact a2 c (by omega)
     ·rw [KK hi (by omega),if_neg (by omega)];exact a3 i' c h h2
     ·rw [KK hi (by omega)]
      by_cases Kx:c=k
      ·subst Kx;rw [if_pos ⟨rfl,rfl⟩];exact hx
      ·rw [if_neg (fun e=>Kx e.2)];exact a4 c (by omega)
    by_cases M8:d≤i
    ·have c1:(d:Int)≤(i:Int):=by omega
     obtain ⟨er,hinv⟩:=apY (F:=F) (by omega) (UInt8.ofNat (i ^^^ k))
     refine .inl ⟨_,by simp only [tW,tr,cz,c1,decide_true,cond_true,hi1,gu,hv,afQ hi (show k < 8 by omega),hinv,Option.bind_some,hw];rfl,⟨k + 1,rfl,by omega,put _ ?_⟩,by simp only [Int.toNat_natCast];omega⟩
     unfold cell;rw [if_pos M8]
    ·have c1:¬ (d:Int)≤(i:Int):=by omega
     by_cases hik:i=k
     ·subst hik
      have c2:((i:Int) == (i:Int))=true:=by simp
      refine .inl ⟨_,by simp only [tW,tr,cz,c1,c2,decide_true,decide_false,cond_true,cond_false,hi1,gu,hv,Option.bind_some,hw];rfl,⟨i + 1,rfl,by omega,put _ ?_⟩,by simp only [Int.toNat_natCast];omega⟩
      unfold cell;rw [if_neg M8,if_pos rfl];rfl
     ·have c2:((i:Int) == (k:Int))=false:=by
       have:¬ (i:Int)=(k:Int):=by omega
       simpa using this
      refine .inl ⟨_,by simp only [tW,tr,cz,c1,c2,decide_true,decide_false,cond_true,cond_false,hw];rfl,⟨k + 1,rfl,by omega,a1,fun c h=>a2 c (by omega),a3,fun c h=>?_⟩,by simp only [Int.toNat_natCast];omega⟩
      by_cases Kx:c=k
      ·subst Kx
       show fq t i c=_
       rw [a2 c (by omega)]
       unfold cell;rw [if_neg M8,if_neg hik]
      ·exact a4 c (by omega)
   ·have hkn:k=d:=by omega
    subst hkn
    refine .inr ⟨t,?_,a1,fun i' c h h2=>?_⟩
    ·simp [tW,tr]
    ·by_cases h3:i'=i
     ·subst h3;exact a4 c h2
     ·exact a3 i' c (by omega) h2)
  F ((0:Int),t) ⟨0,rfl,by omega,fun i' c h=>h0 i' c (by omega),fun c _=>h0 i c (by omega),h1,fun c h=>by omega⟩ (by simp;omega)
theorem aqB {F d:Nat} (hF:200 < F) (hd:d≤8):∃ t:Tb,NM F (d:Int)=some t∧∀ i c,i < 16->c < d->fq t i c=cell d i c:=by
 obtain ⟨t,hz,hQ⟩:=cL (f:=fun s:Int×Tb=>JT F (d:Int) s.1 s.2)
  (fun s=>∃ k:Nat,s.1=(k:Int)∧k≤16∧(∀ i' c,k≤i'->fq s.2 i' c=0)∧(∀ i' c,i' < k->c < d->fq s.2 i' c=cell d i' c))
  (fun t=>∀ i c,i < 16->c < d->fq t i c=cell d i c) (fun s=>16 - s.1.toNat) (fun s hs=>by
   obtain ⟨k,e,hk,a1,a2⟩:=hs
   obtain ⟨s1,t⟩:=s
   simp only at e a1 a2
   subst e
   rcases Nat.lt_or_ge k 16 with hlt | hge
   ·have cz:((k:Nat):Int) < 16:=by omega
    have hw:ag (((k:Nat):Int) + 1)=((k + 1:Nat):Int):=dH (by omega)
    obtain ⟨t',q1,q2,q3⟩:=aoe hF hd hlt t a1 a2
    exact .inl ⟨_,by simp only [JT,Am,cz,decide_true,cond_true,q1,Option.bind_some,hw];rfl,⟨k + 1,rfl,by omega,q2,q3⟩,by simp only [Int.toNat_natCast];omega⟩
   ·have hkn:k=16:=by omega
    subst hkn
    refine .inr ⟨t,?_,a2⟩
    simp [JT,Am])
  F ((0:Int),(Vector.replicate 16 (Vector.replicate 8 (0:UInt8)))) ⟨0,rfl,by omega,fun i' c _=>by unfold fq;split<;>simp,fun i' c h=>by omega⟩ (by simp;omega)
 refine ⟨t,?_,hQ⟩
 simp only [NM,FJ,hz,Option.bind_some]
def jC (d i:Nat):List UInt8:=(List.range d).map (cell d i)
theorem Y6 (d i:Nat):(jC d i).length=d:=by simp [jC]
theorem alF {t:Tb} {d:Nat} (hd:d≤8) (h:∀ i c,i < 16->c < d->fq t i c=cell d i c) {i:Nat} (hi:i < 16):((t[i]'hi).toList.drop 0).take (d - 0)=jC d i:=by
 apply List.ext_getElem
 ·simp [jC];omega
 ·intro c h1 h2
  have hc:c < d:=by simpa [jC] using h2
  have:=h i c hi hc
  unfold fq at this
  rw [dif_pos ⟨hi,by omega⟩] at this
  simp [jC,this]
theorem anh {F d:Nat} {t:Tb} (hF:200 < F) (hd:d≤8) (h:∀ i c,i < 16->c < d->fq t i c=cell d i c) {is:List Nat} (hl:is.length≤100) (hi:∀ i ∈ is,i < 16):Rr F (is.map fun i:Nat=>(i:Int)) (d:Int) t=some (is.map (jC d)):=by
 have Rb:((is.map fun i:Nat=>(i:Int)).length:Int)=((is.length:Nat):Int):=by simp
 have hg:=rz ([]:List UInt8) (n:=is.length) (by omega)
 obtain ⟨r,r1,r2,_,r4⟩:=LC (N:=is.length) (f:=fun s:Int×List (List UInt8)=>AF F (is.map fun i:Nat=>(i:Int)) ((is.length:Nat):Int) (d:Int) t s.1 s.2) (g:=fun n _=>jC d (is.getD n 0)) (by omega)
  (fun n l h1 h2=>by
   have cz:((n:Nat):Int) < ((is.length:Nat):Int):=by omega
   have hn:n < is.length:=by omega
   have hr:(is.map fun i:Nat=>(i:Int))[n]? = some ((is[n]:Nat):Int):=by simp [hn]
   have G_:=hi _ (List.getElem_mem hn)
   have rC:is.getD n 0=is[n]:=by simp [hn]
   have hb:an 16 ((is[n]:Nat):Int)=some is[n]:=iy G_
   have hs:bW 8 (0:Int) (d:Int)=some (0,d):=jR (a:=0) (by omega) hd
   have hv:aA t is[n]=some (t[is[n]]'G_):=ZG G_
   have hga:aD ([]:List UInt8) (jC d is[n])=some (jC d is[n]):=d9 (by rw [Y6];simp;omega)
   have dw:an l.length (n:Int)=some n:=iy h1
   simp only [AF,AZ,cz,decide_true,cond_true,cU hr,hb,hs,hv,Option.bind_some,alF hd h G_,hga,dw,dH (show n < 9223372036854775807 by omega),rC])
  (fun l hl=>by simp [AF,AZ])
  is.length 0 F (List.replicate is.length []) (by omega) (by simp) (by omega)
 have r1:iter (fun s:Int×List (List UInt8)=>AF F (is.map fun i:Nat=>(i:Int)) ((is.length:Nat):Int) (d:Int) t s.1 s.2) F ((0:Int),List.replicate is.length [])=some r:=r1
 have hr:r=is.map (jC d):=by
  apply List.ext_getElem
  ·simp [r2]
  ·intro i h1 h2
   have Ks:i < is.length:=by simpa using h2
   rw [r4 i h1 (by simp;omega) (by omega)]
   simp [Ks]
 subst hr
 simp only [Rr,JH,Rb,hg,Option.bind_some,r1]
theorem ahC {F:Nat} {bs:List (List UInt8)} {len:Nat} (hF:200 < F) (hl:bs.length≤100) (h1:1≤len) (h2:len≤65536) (h:∀ b ∈ bs,b.length=len):MW F bs=some true:=by
 have hl:iter (fun s=>Gr F bs bs (bs.length:Int) s) F (0:Int)=some (.inl ()):=by
  refine M6 (n:=bs.length) (by omega) (by omega) (fun k hk=>?_) ?_
  ·have hr:bs[k]? = some bs[k]:=List.getElem?_eq_getElem hk
   have hi0:ix bs (0:Int)=some (bs[0]'(by omega)):=cU (i:=0) (List.getElem?_eq_getElem (by omega))
   have cz:((k:Nat):Int) < (bs.length:Int):=by omega
   have oq:=h _ (List.getElem_mem hk)
   have dh:=h _ (List.getElem_mem (h:=(by omega:0 < bs.length)))
   have e:((bs[k].length:Int) != ((bs[0]'(by omega)).length:Int))=false:=by rw [oq,dh];simp
   have e2:((bs[k].length:Int) == 0)=false:=by
    have:¬ (bs[k].length:Int)=0:=by omega
    simpa using this
   have e3:¬ (65536:Int) < (bs[k].length:Int):=by omega
   simp only [Gr,DT,cz,decide_true,cond_true,cU hr,hi0,Option.bind_some,e,e2,e3,decide_false,cond_false,dH (show k < 9223372036854775807 by omega)]
  ·simp [Gr,DT]
 simp only [MW,I8,hl,Option.bind_some,bz]
def nt (d len:Nat) (bs:List (List UInt8)):List (List UInt8):=bs ++ List.replicate (d - bs.length) (List.replicate len 0)
def lA (d t len:Nat) (bs:List (List UInt8)):List (List UInt8):=(List.range t).map fun i=>eU (jC d i) (nt d len bs) (List.replicate len 0)
theorem asO {F d t len:Nat} {bs:List (List UInt8)} (hF:70000 + len < F∨300 + len < F) (h1:1≤d) (h8:d≤8) (hdt:d≤t) (ht:t≤16) (pn:1≤bs.length) (hbd:bs.length≤d) (oq:1≤len) (dh:len≤65536) (h:∀ b ∈ bs,b.length=len) :
  MC F (d:Int) (t:Int) bs=some (lA d t len bs,0):=by
 have hF:300 + len < F:=by omega
 have hv:vU F (d:Int) (t:Int)=some true:=by
  have a1:(1:Int)≤(d:Int):=by omega
  have a2:(d:Int)≤8:=by omega
  have a3:(d:Int)≤(t:Int):=by omega
  have a4:(t:Int)≤16:=by omega
  simp only [vU,Cu,a1,a2,a3,a4,decide_true,cond_true]
 have e1:((bs.length:Int) == 0)=false:=by
  have:¬ (bs.length:Int)=0:=by omega
  simpa using this
 have e2:¬ (d:Int) < (bs.length:Int):=by omega
 have hone:=ahC (F:=F) (by omega) (by omega) oq dh h
 have ke:Pa F bs=some bs:=by
  show (aD ([]:List (List UInt8)) bs).bind some=_
  rw [d9 (by simp;omega)];rfl
 have jq:iter (fun s:List (List UInt8)=>DA F (d:Int) bs s) F bs=some (nt d len bs):=by
  obtain ⟨z,hz,hQ⟩:=cL (f:=fun s:List (List UInt8)=>DA F (d:Int) bs s)
   (fun s=>∃ k:Nat,s=bs ++ List.replicate k (List.replicate len 0)∧bs.length + k≤d) (fun z=>z=nt d len bs) (fun s=>d - s.length) (fun s hs=>by
    obtain ⟨k,rfl,hk⟩:=hs
    have hlen:(bs ++ List.replicate k (List.replicate len (0:UInt8))).length=bs.length + k:=by simp
    rcases Nat.lt_or_ge (bs.length + k) d with hlt | hge
    ·have cz:((bs ++ List.replicate k (List.replicate len (0:UInt8))).length:Int) < (d:Int):=by rw [hlen];omega
     have hi0:ix bs (0:Int)=some (bs[0]'(by omega)):=cU (i:=0) (List.getElem?_eq_getElem (by omega))
     have BX:=h _ (List.getElem_mem (h:=(by omega:0 < bs.length)))
     have hg:=rz (0:UInt8) (n:=len) (by omega)
     have rC:aD (bs ++ List.replicate k (List.replicate len (0:UInt8))) [List.replicate len (0:UInt8)]=some ((bs ++ List.replicate k (List.replicate len (0:UInt8))) ++ [List.replicate len (0:UInt8)]):=d9 (by rw [hlen];simp;omega)
     refine .inl ⟨(bs ++ List.replicate k (List.replicate len (0:UInt8))) ++ [List.replicate len (0:UInt8)],by simp only [DA,DH,cz,decide_true,cond_true,hi0,BX,hg,rC,Option.bind_some],⟨k + 1,by rw [List.replicate_succ',List.append_assoc],by omega⟩,by simp;omega⟩
    ·have cz:¬ ((bs ++ List.replicate k (List.replicate len (0:UInt8))).length:Int) < (d:Int):=by rw [hlen];omega
     refine .inr ⟨bs ++ List.replicate k (List.replicate len (0:UInt8)),by simp only [DA,DH,cz,decide_false,cond_false],?_⟩
     unfold nt
     rw [show d - bs.length=k by omega])
   F bs ⟨0,by simp,by omega⟩ (by omega)
  subst hQ
  exact hz
 have hidx:iter (fun s:Int×List Int=>AH F (t:Int) s.1 s.2) F ((0:Int),([]:List Int))=some ((List.range t).map fun i:Nat=>(i:Int)):=by
  obtain ⟨z,hz,hQ⟩:=cL (f:=fun s:Int×List Int=>AH F (t:Int) s.1 s.2)
   (fun s=>∃ k:Nat,s.1=(k:Int)∧k≤t∧s.2=(List.range k).map fun i:Nat=>(i:Int)) (fun z=>z=(List.range t).map fun i:Nat=>(i:Int)) (fun s=>t - s.1.toNat) (fun s hs=>by
    obtain ⟨k,e,hk,hl⟩:=hs
    obtain ⟨s1,l⟩:=s
    simp only at e hl
    subst e hl
    rcases Nat.lt_or_ge k t with hlt | hge
    ·have cz:((k:Nat):Int) < (t:Int):=by omega
     have hg:aD ((List.range k).map fun i:Nat=>(i:Int)) [(k:Int)]=some (((List.range k).map fun i:Nat=>(i:Int)) ++ [(k:Int)]):=d9 (by simp;omega)
     refine .inl ⟨(((k + 1:Nat):Int),((List.range k).map fun i:Nat=>(i:Int)) ++ [(k:Int)]),by simp only [AH,Cq,cz,decide_true,cond_true,hg,Option.bind_some,dH (show k < 9223372036854775807 by omega)],⟨k + 1,rfl,by omega,by rw [List.range_succ,List.map_append];rfl⟩,by simp only [Int.toNat_natCast];omega⟩
    ·have hkn:k=t:=by omega
     subst hkn
     refine .inr ⟨_,?_,rfl⟩
     simp [AH,Cq])
   F ((0:Int),([]:List Int)) ⟨0,rfl,by omega,rfl⟩ (by simp;omega)
  subst hQ
  exact hz
 obtain ⟨tb,ht1,ht2⟩:=aqB (F:=F) (d:=d) (by omega) h8
 have Dz:=anh (F:=F) (by omega) h8 ht2 (is:=List.range t) (by simp;omega) (fun i hi=>by simp at hi;omega)
 have iT:(nt d len bs).length=d:=by simp [nt];omega
 have hpb:∀ b ∈ nt d len bs,b.length=len:=fun b hb=>by
  rcases List.mem_append.1 hb with hb | hb
  ·exact h b hb
  ·have:=(List.mem_replicate.1 hb).2;subst this;simp
 have hap:=arU (F:=F) (len:=len) (by omega) (by omega) (m:=(List.range t).map (jC d)) (bs:=nt d len bs) (by simp;omega) (by
   intro e
   have:=congrArg List.length e
   simp at this;omega) (fun x hx=>by
   obtain ⟨i,_,rfl⟩:=List.mem_map.1 hx
   rw [Y6,iT]) (by omega) (by
   intro e
   rw [e] at iT;simp at iT;omega) hpb
 have NG:((List.range t).map (jC d)).map (fun x=>eU x (nt d len bs) (List.replicate len 0))=lA d t len bs:=by simp [lA]
 rw [NG] at hap
 simp only [MC,Fx,hv,Option.bind_some,Bool.not_true,cond_false,e1,e2,decide_false,hone,ke,jq,hidx,ht1,Dz,hap]
abbrev Rf:=List UInt8×Int×Int×Unit
def hc (g:List Rf):Int:=match g with
 | []=>-1
 | r :: _=>eL r.2.2.1
def vR (r:Rf):Bool:=decide ((r.1.length:Int)=32∧0≤r.2.1∧0≤r.2.2.1∧r.2.2.1≤32768)
def vF:List (List UInt8)->List Rf->Bool
 | _,[]=>true
 | seen,r :: rs=>vR r && (!seen.contains r.1 && vF (seen ++ [r.1]) rs)
def lz (refs:List Rf):Bool:=vF [] refs
theorem Iy {z x:List UInt8} (h:z ≠ x):eX .s z x=false:=by show (z == x)=false;simpa using h
theorem K8 (z:List UInt8):eX .s z z=true:=by show (z == z)=true;simp
theorem aac {β:Type}:∀ (l:List (List UInt8×β)) (x:List UInt8) (y:β) (z:List UInt8),fG .s (cJ .s l x y) z=if z=x then some y else fG .s l z
 | [],x,y,z=>by
  by_cases h:z=x
  ·subst h;simp only [cJ,fG,K8,cond_true,if_true]
  ·simp only [cJ,fG,Iy h,cond_false,if_neg h]
 | e :: l,x,y,z=>by
  have ih:=aac l x y z
  by_cases hx:x=e.1
  ·subst hx
   by_cases h:z=e.1
   ·subst h;simp only [cJ,fG,K8,cond_true,if_true]
   ·simp only [cJ,fG,K8,Iy h,cond_true,cond_false,if_neg h]
  ·simp only [cJ,Iy hx,cond_false,fG]
   by_cases h:z=e.1
   ·subst h
    have:¬ e.1=x:=fun h=>hx h.symm
    simp only [K8,cond_true,if_neg this]
   ·simp only [Iy h,cond_false];exact ih
def sA (l:List Rf):List (List UInt8):=l.map (·.1)
theorem Fl {α:Type} {l:List α} {k:Nat} {x:α} (h:l[k]? = some x):l.drop k=x :: l.drop (k + 1):=by
 obtain ⟨h1,h2⟩:=aM h
 rw [List.drop_eq_getElem_cons h1,h2]
theorem Yg {α:Type} {l:List α} {k:Nat} {x:α} (h:l[k]? = some x):l.take (k + 1)=l.take k ++ [x]:=by
 rw [List.take_add_one,h];rfl
theorem YA {F:Nat} {refs:List Rf} (hl:refs.length≤1000) (hF:2000 < F):xS F refs=some (lz refs):=by
 obtain ⟨z,hz,hQ⟩:=cL (f:=fun s:Int×List (List UInt8×Bool)=>yU F refs (refs.length:Int) s.1 s.2)
  (fun s=>∃ k:Nat,s.1=(k:Int)∧k≤refs.length∧(∀ x,eM .s s.2 x false=(sA (refs.take k)).contains x)∧vF (sA (refs.take k)) (refs.drop k)=lz refs)
  (fun z=>match z with | .inl _=>lz refs=true | .inr b=>b=lz refs) (fun s=>refs.length - s.1.toNat) (fun s hs=>by
   obtain ⟨k,e,hk,hm,hv⟩:=hs
   obtain ⟨s1,m⟩:=s
   simp only at e hm
   subst e
   rcases Nat.lt_or_ge k refs.length with hlt | hge
   ·have hr:refs[k]? = some refs[k]:=List.getElem?_eq_getElem hlt
    have cz:((k:Nat):Int) < (refs.length:Int):=by omega
    have ej:=cU hr
    have hw:ag (((k:Nat):Int) + 1)=((k + 1:Nat):Int):=dH (by omega)
    generalize refs[k]=r at hr ej
    rw [Fl hr] at hv
    simp only [vF] at hv
    have hmr:=hm r.1
    by_cases oz:vR r=true
    ·have hd:=of_decide_eq_true oz
     obtain ⟨q1,q2,q3,q4⟩:=hd
     have e1:((r.1.length:Int) != 32)=false:=by simpa using q1
     have e2:¬ r.2.1 < 0:=by omega
     have e3:¬ r.2.2.1 < 0:=by omega
     have e4:¬ (32768:Int) < r.2.2.1:=by omega
     cases KJ:(sA (refs.take k)).contains r.1 with
     | true=>
      rw [KJ] at hmr
      rw [oz,KJ] at hv
      refine .inr ⟨.inr false,?_,by rw [← hv];rfl⟩
      simp only [yU,vg,cz,decide_true,cond_true,ej,Option.bind_some,e1,e2,e3,e4,decide_false,cond_false,hmr]
     | false=>
      rw [KJ] at hmr
      rw [oz,KJ] at hv
      refine .inl ⟨(((k + 1:Nat):Int),cJ .s m r.1 true),?_,⟨k + 1,rfl,by omega,fun x=>?_,?_⟩,?_⟩
      ·simp only [yU,vg,cz,decide_true,cond_true,ej,Option.bind_some,e1,e2,e3,e4,decide_false,cond_false,hmr,hw]
      ·have dF:=hm x
       unfold eM at dF ⊢
       rw [aac,Yg hr]
       by_cases hx:x=r.1
       ·subst hx;simp [sA]
       ·rw [if_neg hx,dF]
        simp [sA,hx]
      ·rw [Yg hr]
       have:sA (refs.take k ++ [r])=sA (refs.take k) ++ [r.1]:=by simp [sA]
       rw [this];simpa using hv
      ·simp only [Int.toNat_natCast];omega
    ·have oz:vR r=false:=by simpa using oz
     rw [oz] at hv
     refine .inr ⟨.inr false,?_,by rw [← hv];rfl⟩
     have hd:=of_decide_eq_false oz
     simp only [yU,vg,cz,decide_true,cond_true,ej,Option.bind_some]
     by_cases q1:(r.1.length:Int)=32
     ·have e1:((r.1.length:Int) != 32)=false:=by simpa using q1
      simp only [e1,cond_false]
      by_cases e2:r.2.1 < 0
      ·simp only [e2,decide_true,cond_true]
      ·simp only [e2,decide_false,cond_false]
       by_cases e3:r.2.2.1 < 0
       ·simp only [e3,decide_true,cond_true]
       ·simp only [e3,decide_false,cond_false]
        by_cases e4:(32768:Int) < r.2.2.1
        ·simp only [e4,decide_true,cond_true]
        ·exact absurd ⟨q1,by omega,by omega,by omega⟩ hd
     ·have e1:((r.1.length:Int) != 32)=true:=by simpa using q1
      simp only [e1,cond_true]
   ·have Su:k=refs.length:=by omega
    subst Su
    rw [List.take_length,List.drop_length] at hv
    refine .inr ⟨.inl (),?_,by rw [← hv];rfl⟩
    simp [yU,vg])
  F ((0:Int),([]:List (List UInt8×Bool))) ⟨0,rfl,by omega,fun x=>rfl,rfl⟩ (by simp;omega)
 simp only [xS,KO]
 rw [hz]
 cases z with
 | inl u=>have hQ:lz refs=true:=hQ;rw [hQ];rfl
 | inr b=>have hQ:b=lz refs:=hQ;rw [← hQ];rfl
theorem aaW:∀ {seen:List (List UInt8)} {refs:List Rf},vF seen refs=true->∀ r ∈ refs,vR r=true
 | _,[],_,r,h=>by simp at h
 | seen,x :: refs,h,r,hr=>by
  simp only [vF,Bool.and_eq_true] at h
  rcases List.mem_cons.1 hr with rfl | hr
  ·exact h.1
  ·exact aaW h.2.2 r hr
theorem aqk {refs:List Rf} (h:lz refs=true):∀ r ∈ refs,0≤r.2.2.1∧r.2.2.1≤32768:=fun r hr=>by
 have:=of_decide_eq_true (aaW h r hr)
 exact ⟨this.2.2.1,this.2.2.2⟩
abbrev Pc:=(List UInt8×Int×Unit)×List UInt8×List (List UInt8)×Unit
def qB (F:Nat) (xs:List (List UInt8)):List Pc:=(List.range xs.length).map fun i:Nat=>((rt F F (xs.map (hsh F)),(i:Int),()),xs.getD i [],xs.map (hsh F),())
theorem IB {F:Nat} {x:List UInt8} (h:x.length≤1000000):Aq F x=some x:=by
 show (aD ([]:List UInt8) x).bind some=_
 rw [d9 (by simp;omega)];rfl
theorem tv {F:Nat} {x:List (List UInt8)} (h:x.length≤1000000):qA F x=some x:=by
 show (aD ([]:List (List UInt8)) x).bind some=_
 rw [d9 (by simp;omega)];rfl
theorem amG {F:Nat} {x:List Rf} (h:x.length≤1000000):NR F x=some x:=by
 show (aD ([]:List Rf) x).bind some=_
 rw [d9 (by simp;omega)];rfl
theorem abw (d t len:Nat) (bs:List (List UInt8)):(lA d t len bs).length=t:=by simp [lA]
theorem aq2 {d len:Nat} {bs:List (List UInt8)} (h:∀ b ∈ bs,b.length=len):∀ b ∈ nt d len bs,b.length=len:=fun b hb=>by
 rcases List.mem_append.1 hb with hb | hb
 ·exact h b hb
 ·have:=(List.mem_replicate.1 hb).2;subst this;simp
theorem aaq {d t len:Nat} {bs:List (List UInt8)} (h:∀ b ∈ bs,b.length=len):∀ x ∈ lA d t len bs,x.length=len:=fun x hx=>by
 obtain ⟨i,_,rfl⟩:=List.mem_map.1 hx
 rw [PV (fun b hb=>by rw [aq2 h b hb];simp)];simp
theorem RW {F:Nat} (hF:2000 < F) {x:List UInt8} (hx:x.length≤65536):(hsh F x).length=32:=(NY hF hx).2
theorem ac3 {F:Nat} (hF:2000 < F) {xs:List (List UInt8)} (hl:xs.length≤100) (h:∀ x ∈ xs,x.length≤65536):iter (fun s:Int×List (List UInt8)=>zY F xs (xs.length:Int) s.1 s.2) F ((0:Int),([]:List (List UInt8)))=some (.inl (xs.map (hsh F))):=by
 obtain ⟨z,hz,hQ⟩:=cL (f:=fun s:Int×List (List UInt8)=>zY F xs (xs.length:Int) s.1 s.2)
  (fun s=>∃ k:Nat,s.1=(k:Int)∧k≤xs.length∧s.2=(xs.take k).map (hsh F)) (fun z=>z=.inl (xs.map (hsh F))) (fun s=>xs.length - s.1.toNat) (fun s hs=>by
   obtain ⟨k,e,hk,dh⟩:=hs
   obtain ⟨s1,l⟩:=s
   simp only at e dh
   subst e dh
   rcases Nat.lt_or_ge k xs.length with hlt | hge
   ·have cz:((k:Nat):Int) < (xs.length:Int):=by omega
    have hr:xs[k]? = some xs[k]:=List.getElem?_eq_getElem hlt
    have ej:=cU hr
    have hx:=h _ (List.getElem_mem hlt)
    generalize xs[k]=x at hr ej hx
    have Dz:=(NY hF hx).1
    have hg:aD ((xs.take k).map (hsh F)) [hsh F x]=some ((xs.take k).map (hsh F) ++ [hsh F x]):=d9 (by simp;omega)
    refine .inl ⟨(((k + 1:Nat):Int),(xs.take k).map (hsh F) ++ [hsh F x]),by simp only [zY,CX,cz,decide_true,cond_true,ej,Dz,bne_self_eq_false,cond_false,hg,Option.bind_some,dH (show k < 9223372036854775807 by omega)],⟨k + 1,rfl,by omega,by rw [sM hr];simp⟩,by simp only [Int.toNat_natCast];omega⟩
   ·have hkn:k=xs.length:=by omega
    subst hkn
    refine .inr ⟨.inl ((xs.take xs.length).map (hsh F)),?_,by rw [List.take_length]⟩
    simp [zY,CX])
  F ((0:Int),([]:List (List UInt8))) ⟨0,rfl,by omega,rfl⟩ (by simp;omega)
 subst hQ
 exact hz
theorem agj {F:Nat} (hF:2000 < F) {xs:List (List UInt8)} (hl:xs.length≤100) (h:∀ x ∈ xs,x.length≤65536):iter (fun s:Int×List Pc=>Bi F (rt F F (xs.map (hsh F))) xs (xs.length:Int) (xs.map (hsh F)) s.1 s.2) F ((0:Int),([]:List Pc))=some (qB F xs):=by
 obtain ⟨z,hz,hQ⟩:=cL (f:=fun s:Int×List Pc=>Bi F (rt F F (xs.map (hsh F))) xs (xs.length:Int) (xs.map (hsh F)) s.1 s.2)
  (fun s=>∃ k:Nat,s.1=(k:Int)∧k≤xs.length∧s.2=(List.range k).map fun i:Nat=>((rt F F (xs.map (hsh F)),(i:Int),()),xs.getD i [],xs.map (hsh F),())) (fun z=>z=qB F xs) (fun s=>xs.length - s.1.toNat) (fun s hs=>by
   obtain ⟨k,e,hk,dh⟩:=hs
   obtain ⟨s1,l⟩:=s
   simp only at e dh
   subst e dh
   rcases Nat.lt_or_ge k xs.length with hlt | hge
   ·have cz:((k:Nat):Int) < (xs.length:Int):=by omega
    have hr:xs[k]? = some xs[k]:=List.getElem?_eq_getElem hlt
    have ej:=cU hr
    have hx:=h _ (List.getElem_mem hlt)
    have hgd:xs.getD k []=xs[k]:=by simp [hlt]
    have hc:=IB (F:=F) (x:=xs[k]) (by omega)
    have lD:=tv (F:=F) (x:=xs.map (hsh F)) (by simp;omega)
    have hg:∀ (l:List Pc) (y:Pc),l.length≤100->aD l [y]=some (l ++ [y]):=fun l y h=>d9 (by simp;omega)
    refine .inl ⟨(((k + 1:Nat):Int),((List.range k).map fun i:Nat=>((rt F F (xs.map (hsh F)),(i:Int),()),xs.getD i [],xs.map (hsh F),())) ++ [((rt F F (xs.map (hsh F)),(k:Int),()),xs[k],xs.map (hsh F),())]),by simp only [Bi,Bh,cz,decide_true,cond_true,ej,hc,lD,Option.bind_some,dH (show k < 9223372036854775807 by omega)];rw [hg _ _ (by simp;omega)];rfl,⟨k + 1,rfl,by omega,by rw [List.range_succ,List.map_append,← hgd];rfl⟩,by simp only [Int.toNat_natCast];omega⟩
   ·have hkn:k=xs.length:=by omega
    subst hkn
    refine .inr ⟨_,?_,rfl⟩
    simp only [Bi,Bh,show ¬ ((xs.length:Int) < (xs.length:Int)) by omega,decide_false,cond_false];rfl)
  F ((0:Int),([]:List Pc)) ⟨0,rfl,by omega,rfl⟩ (by simp;omega)
 subst hQ
 exact hz
theorem ajg {F d t len:Nat} {bs:List (List UInt8)} (hF:2000 + len < F) (h1:1≤d) (h8:d≤8) (hdt:d≤t) (ht:t≤16) (pn:1≤bs.length) (hbd:bs.length≤d) (oq:1≤len) (dh:len≤65536) (h:∀ b ∈ bs,b.length=len) :
  Q1 F (d:Int) (t:Int) bs=some (rt F F ((lA d t len bs).map (hsh F)),0,qB F (lA d t len bs)):=by
 have he:=asO (F:=F) (.inr (by omega)) h1 h8 hdt ht pn hbd oq dh h
 have hm:=aaq (d:=d) (t:=t) h
 have hlen:=abw d t len bs
 generalize lA d t len bs=xs at he hm hlen
 have hs:=ac3 (F:=F) (by omega) (xs:=xs) (by omega) (fun x hx=>by rw [hm x hx];exact dh)
 have hp:=agj (F:=F) (by omega) (xs:=xs) (by omega) (fun x hx=>by rw [hm x hx];exact dh)
 have hr:=(lX (F:=F) (by omega) (l:=xs.map (hsh F)) (by simp;omega) (fun y hy=>by
  obtain ⟨x,hx,rfl⟩:=List.mem_map.1 hy
  exact RW (by omega) (by rw [hm x hx];exact dh))).1
 simp only [Q1,F_,he,Option.bind_some,bne_self_eq_false,cond_false,hs,bz,hr,hp]
abbrev Sd:=List UInt8×Int×Int×Int×Int×Int×List Rf×List Pc
def Pv:Sd:=([],0,0,0,0,1,[],[])
abbrev Me:=Int×List UInt8×Int×Int×Int×Int
def W6:Me:=(1,[],0,0,0,0)
def mO (c:Int) (refs:List Rf) (bs:List (List UInt8)):Bool:=refs.all (fun r=>eL r.2.2.1 == c) && bs.all (fun b=>(b.length:Int) == c)
theorem anS {F:Nat} (hF:50 < F) {n:Int} (h0:0≤n) (h1:n≤32768) (c:Int):JD F n c=some (eL n == c):=by
 have:=(FB hF h0 h1).1
 simp only [JD,Ew,this,Option.bind_some,beq_self_eq_true,cond_true]
theorem aov {F:Nat} (hF:2000 < F) {refs:List Rf} {bs:List (List UInt8)} (hl:refs.length≤1000) (hb:bs.length=refs.length) (hv:∀ r ∈ refs,0≤r.2.2.1∧r.2.2.1≤32768) (c:Int) :
  iter (fun s=>u5 F bs c refs (refs.length:Int) s) F (0:Int)=some (bif mO c refs bs then .inl () else .inr W6):=by
 obtain ⟨z,hz,hQ⟩:=cL (f:=fun s:Int=>u5 F bs c refs (refs.length:Int) s)
  (fun s=>∃ k:Nat,s=(k:Int)∧k≤refs.length∧mO c (refs.drop k) (bs.drop k)=mO c refs bs) (fun z=>z=(bif mO c refs bs then .inl () else .inr W6)) (fun s=>refs.length - s.toNat) (fun s hs=>by
   obtain ⟨k,e,hk,ha⟩:=hs
   subst e
   rcases Nat.lt_or_ge k refs.length with hlt | hge
   ·have cz:((k:Nat):Int) < (refs.length:Int):=by omega
    have hr:refs[k]? = some refs[k]:=List.getElem?_eq_getElem hlt
    have hrb:bs[k]? = some (bs[k]'(by omega)):=List.getElem?_eq_getElem (by omega)
    have ej:=cU hr
    have QI:=cU hrb
    have hx:=hv _ (List.getElem_mem hlt)
    have hd:=Fl hr
    have hdb:=Fl hrb
    generalize refs[k]=x at hr ej hx hd
    generalize bs[k]'(by omega)=b at hrb QI hdb
    have hh:=anS (F:=F) (by omega) hx.1 hx.2 c
    rw [hd,hdb] at ha
    unfold mO at ha
    simp only [List.all_cons] at ha
    cases h1:eL x.2.2.1 == c with
    | false=>
     rw [h1] at ha hh
     simp only [Bool.false_and] at ha
     refine .inr ⟨_,by simp only [u5,t9,cz,decide_true,cond_true,ej,hh,Option.bind_some,Bool.not_false];rfl,?_⟩
     unfold mO;rw [← ha];rfl
    | true=>
     rw [h1] at ha hh
     simp only [Bool.true_and] at ha
     cases h2:(b.length:Int) == c with
     | false=>
      have xg:((b.length:Int) != c)=true:=by simp [bne,h2]
      rw [h2] at ha
      simp only [Bool.false_and,Bool.and_false] at ha
      refine .inr ⟨_,by simp only [u5,t9,cz,decide_true,cond_true,ej,QI,hh,xg,Option.bind_some,Bool.not_true,cond_false];rfl,?_⟩
      unfold mO;rw [← ha];rfl
     | true=>
      have xg:((b.length:Int) != c)=false:=by simp [bne,h2]
      rw [h2] at ha
      simp only [Bool.true_and] at ha
      exact .inl ⟨((k + 1:Nat):Int),by simp only [u5,t9,cz,decide_true,cond_true,ej,QI,hh,xg,Option.bind_some,Bool.not_true,cond_false,dH (show k < 9223372036854775807 by omega)],⟨k + 1,rfl,by omega,ha⟩,by simp only [Int.toNat_natCast];omega⟩
   ·have hkn:k=refs.length:=by omega
    subst hkn
    rw [List.drop_length,← hb,List.drop_length] at ha
    refine .inr ⟨.inl (),?_,by rw [← ha];rfl⟩
    simp [u5,t9])
  F (0:Int) ⟨0,rfl,by omega,rfl⟩ (by simp;omega)
 subst hQ
 exact hz
def LS (jD data total:Int) (refs:List Rf) (bs:List (List UInt8)):Bool:=
 decide (0≤jD∧jD≤11∧1≤data∧data≤8∧data≤total∧total≤16∧1≤refs.length∧(refs.length:Int)≤data∧bs.length=refs.length) && (lz refs && mO (hc refs) refs bs)
def A5 (F:Nat) (jD data total:Int) (refs:List Rf) (bs:List (List UInt8)):Sd:=
 (rt F F ((lA data.toNat total.toNat (hc refs).toNat bs).map (hsh F)),jD,hc refs,data,total,0,refs,qB F (lA data.toNat total.toNat (hc refs).toNat bs))
theorem aoI {F:Nat} (hF:50000≤F) {jD data total:Int} {refs:List Rf} {bs:List (List UInt8)} (hl:refs.length≤1000) (hb:∀ b ∈ bs,b.length≤40960) :
  Ip F jD data total refs bs=some (bif LS jD data total refs bs then A5 F jD data total refs bs else Pv):=by
 have h30:=YA (refs:=refs) hl (F:=F) (by omega)
 have mW:vU F data total=some (decide (1≤data∧data≤8∧data≤total∧total≤16)):=by
  simp only [vU,Cu]
  by_cases h1:1≤data<;>by_cases h2:data≤8<;>by_cases h3:data≤total<;>by_cases h4:total≤16<;>simp [h1,h2,h3,h4]
 simp only [Ip,LV,h30,mW,Option.bind_some]
 have bad:∀ {p:Prop} [Decidable p] {c:Bool},¬ p->(bif decide p && c then A5 F jD data total refs bs else Pv)=Pv:=fun {p} _ c h=>by simp [h]
 unfold LS
 by_cases c1:jD < 0
 ·simp only [c1,decide_true,cond_true];rw [bad (by omega)];rfl
 simp only [c1,decide_false,cond_false]
 by_cases c2:11 < jD
 ·simp only [c2,decide_true,cond_true];rw [bad (by omega)];rfl
 simp only [c2,decide_false,cond_false]
 by_cases c3:1≤data∧data≤8∧data≤total∧total≤16
 case neg=>simp only [c3,decide_false,Bool.not_false,cond_true];rw [bad (fun h=>c3 ⟨h.2.2.1,h.2.2.2.1,h.2.2.2.2.1,h.2.2.2.2.2.1⟩)];rfl
 have c3':decide (1≤data∧data≤8∧data≤total∧total≤16)=true:=by simpa using c3
 simp only [c3',Bool.not_true,cond_false]
 by_cases c4:(refs.length:Int) < 1
 ·simp only [c4,decide_true,cond_true];rw [bad (by omega)];rfl
 simp only [c4,decide_false,cond_false]
 by_cases c5:data < (refs.length:Int)
 ·simp only [c5,decide_true,cond_true];rw [bad (by omega)];rfl
 simp only [c5,decide_false,cond_false]
 cases c6:lz refs with
 | false=>simp only [Bool.not_false,cond_true,Bool.false_and,Bool.and_false,cond_false];rfl
 | true=>
 simp only [Bool.not_true,cond_false,Bool.true_and]
 by_cases c7:bs.length=refs.length
 case neg=>
  have:((bs.length:Int) != (refs.length:Int))=true:=by
   have:¬ (bs.length:Int)=(refs.length:Int):=by omega
   simpa using this
  simp only [this,cond_true];rw [bad (fun h=>c7 h.2.2.2.2.2.2.2.2)];rfl
 have e7:((bs.length:Int) != (refs.length:Int))=false:=by rw [c7];simp
 simp only [e7,cond_false]
 have hsz:=aqk c6
 obtain ⟨r,rs,DI⟩:∃ r rs,refs=r :: rs:=by
  cases refs with
  | nil=>simp at c4
  | cons r rs=>exact ⟨r,rs,rfl⟩
 have hi0:ix refs (0:Int)=some r:=by rw [DI];exact cU (i:=0) rfl
 have j_:=hsz r (by rw [DI];simp)
 have ke:=(FB (F:=F) (by omega) j_.1 j_.2).1
 have AJ:hc refs=eL r.2.2.1:=by rw [DI];rfl
 have hlo:=aov (F:=F) (by omega) hl c7 hsz (eL r.2.2.1)
 have hp:decide (0≤jD∧jD≤11∧1≤data∧data≤8∧data≤total∧total≤16∧1≤refs.length∧(refs.length:Int)≤data∧bs.length=refs.length)=true:=by
  have:=c3;apply decide_eq_true;omega
 simp only [hi0,ke,hlo,Option.bind_some,hp,Bool.true_and,AJ]
 cases c8:mO (eL r.2.2.1) refs bs with
 | false=>simp only [cond_false,bz];rfl
 | true=>
 simp only [cond_true,bz]
 obtain ⟨d,rfl⟩:∃ d:Nat,data=(d:Int):=⟨data.toNat,by omega⟩
 obtain ⟨t,rfl⟩:∃ t:Nat,total=(t:Int):=⟨total.toNat,by omega⟩
 have hge:=YP r.2.2.1
 obtain ⟨len,hlen⟩:∃ len:Nat,eL r.2.2.1=(len:Int):=⟨(eL r.2.2.1).toNat,by omega⟩
 have fe:∀ b ∈ bs,b.length=len:=fun b hb'=>by
  unfold mO at c8
  simp only [Bool.and_eq_true] at c8
  have:=List.all_eq_true.1 c8.2 b hb'
  rw [hlen] at this
  have:(b.length:Int)=(len:Int):=by simpa using this
  omega
 have dh:len≤40960:=by
  cases bs with
  | nil=>rw [DI] at c7;simp at c7
  | cons b bs=>rw [← fe b (by simp)];exact hb b (by simp)
 have TM:=ajg (F:=F) (d:=d) (t:=t) (len:=len) (bs:=bs) (by omega) (by omega) (by omega) (by omega) (by omega) (by rw [c7,DI];simp) (by omega) (by omega) (by omega) fe
 have Io:=amG (F:=F) (x:=refs) (by omega)
 simp only [TM,Option.bind_some,bne_self_eq_false,cond_false,Io]
 unfold A5
 rw [AJ,hlen]
 simp only [Int.toNat_natCast]
def pq (bO:List (List UInt8)):Bool:=bO.all fun s=>s.length == 32
def lP (F:Nat) (id:List UInt8) (index:Int) (data:List UInt8) (bO:List (List UInt8)):Bool:=
 decide (id.length=32∧1≤bO.length∧bO.length≤16∧0≤index∧index < (bO.length:Int)∧1≤data.length∧data.length≤65536) && (pq bO && (bO.getD index.toNat [] == hsh F data && rt F F bO == id))
theorem arO (s:List UInt8):((s.length:Int) != 32) = !(s.length == 32):=by
 by_cases h:s.length=32
 ·have:((s.length:Int) != 32)=false:=by rw [h];rfl
  rw [this,h];rfl
 ·have h1:(s.length == 32)=false:=by simpa using h
  have h2:((s.length:Int) != 32)=true:=by
   have:¬ (s.length:Int)=32:=by omega
   simpa using this
  rw [h1,h2];rfl
theorem aeD {F:Nat} (hF:2000 < F) {bO:List (List UInt8)} (hl:bO.length≤1000):N5 F bO=some (!pq bO):=by
 have h:∃ z,iter (fun s=>zn F bO (bO.length:Int) s) F (0:Int)=some z∧(z=.inl ()∧pq bO=true∨∃ k:Nat,z=.inr (k:Int)∧pq bO=false):=by
  exact cL (f:=fun s:Int=>zn F bO (bO.length:Int) s)
   (fun s=>∃ k:Nat,s=(k:Int)∧k≤bO.length∧(bO.drop k).all (fun s=>s.length == 32)=pq bO) _ (fun s=>bO.length - s.toNat) (fun s hs=>by
    obtain ⟨k,e,hk,ha⟩:=hs
    subst e
    rcases Nat.lt_or_ge k bO.length with hlt | hge
    ·have cz:((k:Nat):Int) < (bO.length:Int):=by omega
     have hr:bO[k]? = some bO[k]:=List.getElem?_eq_getElem hlt
     have ej:=cU hr
     have hd:=Fl hr
     generalize bO[k]=x at hr ej hd
     rw [hd,List.all_cons] at ha
     have ht:MD F x=some (!(x.length == 32)):=by simp only [MD,LY,arO]
     cases h1:x.length == 32 with
     | false=>
      rw [h1] at ht
      rw [h1,Bool.false_and] at ha
      exact .inr ⟨.inr (k:Int),by simp only [zn,xH,cz,decide_true,cond_true,ej,ht,Option.bind_some,Bool.not_false],.inr ⟨k,rfl,ha.symm⟩⟩
     | true=>
      rw [h1] at ht
      rw [h1,Bool.true_and] at ha
      exact .inl ⟨((k + 1:Nat):Int),by simp only [zn,xH,cz,decide_true,cond_true,ej,ht,Option.bind_some,Bool.not_true,cond_false,dH (show k < 9223372036854775807 by omega)],⟨k + 1,rfl,by omega,ha⟩,by simp only [Int.toNat_natCast];omega⟩
    ·have hkn:k=bO.length:=by omega
     subst hkn
     rw [List.drop_length] at ha
     refine .inr ⟨.inl (),?_,.inl ⟨rfl,by rw [← ha];rfl⟩⟩
     simp [zn,xH])
   F (0:Int) ⟨0,rfl,by omega,rfl⟩ (by simp;omega)
 obtain ⟨z,hz,hQ⟩:=h
 simp only [N5,Lm,UN,Il,hz,Option.bind_some]
 rcases hQ with ⟨rfl,h⟩ | ⟨k,rfl,h⟩
 ·rw [h];rfl
 ·have:(0:Int)≤(k:Int):=by omega
  rw [h];simp only [bz,Option.bind_some,this,decide_true,Bool.not_false]
theorem acP {bO:List (List UInt8)} (h:pq bO=true):∀ x ∈ bO,x.length=32:=fun x hx=>by
 have:=List.all_eq_true.1 h x hx
 simpa using this
theorem akU (a b:List UInt8):(a == b)=(b == a):=by
 by_cases h:a=b
 ·rw [h]
 ·have h1:(a == b)=false:=by simpa using h
  have h2:(b == a)=false:=by simpa using fun e:b=a=>h e.symm
  rw [h1,h2]
theorem Yb {F:Nat} (hF:2000 < F) (id:List UInt8) (index:Int) (data:List UInt8) {bO:List (List UInt8)}:Ih F id index data bO=some (lP F id index data bO):=by
 have bad:∀ {p:Prop} [Decidable p] {c:Bool},¬ p->(decide p && c)=false:=fun {p} _ c h=>by simp [h]
 simp only [Ih,HP]
 unfold lP
 by_cases c0:id.length=32
 case neg=>
  have:((id.length:Int) != 32)=true:=by
   have:¬ (id.length:Int)=32:=by omega
   simpa using this
  simp only [this,cond_true];rw [bad (fun h=>c0 h.1)]
 have e0:((id.length:Int) != 32)=false:=by rw [c0];rfl
 simp only [e0,cond_false]
 by_cases c1:(bO.length:Int) < 1
 ·simp only [c1,decide_true,cond_true];rw [bad (by omega)]
 simp only [c1,decide_false,cond_false]
 by_cases c2:16 < (bO.length:Int)
 ·simp only [c2,decide_true,cond_true];rw [bad (by omega)]
 have hs:=aeD hF (bO:=bO) (by omega)
 simp only [c2,decide_false,cond_false,hs,Option.bind_some]
 cases ha:pq bO with
 | false=>simp only [Bool.not_false,cond_true,Bool.false_and,Bool.and_false]
 | true=>
 simp only [Bool.not_true,cond_false,Bool.true_and]
 by_cases c3:index < 0
 ·simp only [c3,decide_true,cond_true];rw [bad (by omega)]
 simp only [c3,decide_false,cond_false]
 by_cases c4:(bO.length:Int)≤index
 ·simp only [c4,decide_true,cond_true];rw [bad (by omega)]
 simp only [c4,decide_false,cond_false]
 by_cases c5:(data.length:Int) < 1
 ·simp only [c5,decide_true,cond_true];rw [bad (by omega)]
 simp only [c5,decide_false,cond_false]
 by_cases c6:(65536:Int) < (data.length:Int)
 ·simp only [c6,decide_true,cond_true];rw [bad (by omega)]
 have Dz:=(NY hF (x:=data) (by omega)).1
 obtain ⟨i,rfl⟩:∃ i:Nat,index=(i:Int):=⟨index.toNat,by omega⟩
 have hr:bO[i]? = some (bO[i]'(by omega)):=List.getElem?_eq_getElem (by omega)
 have hgd:bO.getD i []=bO[i]'(by omega):=by simp [show i < bO.length by omega]
 have GR:=(lX hF (l:=bO) (by omega) (acP ha)).1
 have hp:decide (id.length=32∧1≤bO.length∧bO.length≤16∧0≤(i:Int)∧(i:Int) < (bO.length:Int)∧1≤data.length∧data.length≤65536)=true:=by apply decide_eq_true;omega
 simp only [c6,decide_false,cond_false,Dz,Option.bind_some,beq_self_eq_true,cond_true,cU hr,GR,hp,Bool.true_and,Int.toNat_natCast,hgd]
 rw [akU]
 cases bO[i]'(by omega) == hsh F data<;>simp
def bT (F:Nat):Nat->List (List UInt8)->Nat->List (List UInt8)
 | 0,_,_=>[]
 | g + 1,l,i=>if l.length=1 then [] else if i < sp l.length then bT F g (l.take (sp l.length)) i ++ [rt F F (l.drop (sp l.length))] else bT F g (l.drop (sp l.length)) (i - sp l.length) ++ [rt F F (l.take (sp l.length))]
theorem S9 (F:Nat):∀ (g:Nat) (l:List (List UInt8)) (i:Nat),(bT F g l i).length≤g
 | 0,l,i=>by simp [bT]
 | g + 1,l,i=>by
  unfold bT
  split
  ·simp
  ·split
   ·have:=S9 F g (l.take (sp l.length)) i;simp;omega
   ·have:=S9 F g (l.drop (sp l.length)) (i - sp l.length);simp;omega
theorem pU {F:Nat}:∀ (g:Nat) (l:List (List UInt8)) (i:Nat),l.length < 140->l.length≤g->i < l.length->(bT F g l i).length < l.length
 | 0,l,i,_,h,hi=>by omega
 | g + 1,l,i,hl,hg,hi=>by
  unfold bT
  split
  ·simp;omega
  ·rename_i h1
   obtain ⟨_,h2,h3⟩:=q8 (n:=l.length) (by omega) hl F
   split
   ·have:=pU (F:=F) g (l.take (sp l.length)) i (by simp;omega) (by simp;omega) (by simp;omega)
    simp at this ⊢;omega
   ·have:=pU (F:=F) g (l.drop (sp l.length)) (i - sp l.length) (by simp;omega) (by simp;omega) (by simp;omega)
    simp at this ⊢;omega
theorem Ij {F:Nat} (hF:2000 < F):∀ (g:Nat) (l:List (List UInt8)) (i:Nat),l.length < 140->(∀ x ∈ l,x.length=32)->l.length≤g->i < l.length->∀ y ∈ bT F g l i,y.length=32
 | 0,l,i,_,_,h,hi=>by omega
 | g + 1,l,i,hl,d_,hg,hi=>by
  intro y hy
  unfold bT at hy
  split at hy
  ·simp at hy
  ·rename_i h1
   obtain ⟨_,h2,h3⟩:=q8 (n:=l.length) (by omega) hl F
   have AE:∀ x ∈ l.take (sp l.length),x.length=32:=fun x hx=>d_ x (List.mem_of_mem_take hx)
   have uJ:∀ x ∈ l.drop (sp l.length),x.length=32:=fun x hx=>d_ x (List.mem_of_mem_drop hx)
   split at hy
   ·rcases List.mem_append.1 hy with hy | hy
    ·exact Ij hF g _ i (by simp;omega) AE (by simp;omega) (by simp;omega) y hy
    ·rw [List.mem_singleton.1 hy];exact (lX hF (by simp;omega) uJ).2
   ·rcases List.mem_append.1 hy with hy | hy
    ·exact Ij hF g _ _ (by simp;omega) uJ (by simp;omega) (by simp;omega) y hy
    ·rw [List.mem_singleton.1 hy];exact (lX hF (by simp;omega) AE).2
theorem F8 {F:Nat}:∀ (g g':Nat) (l:List (List UInt8)),l.length < 140->l.length≤g->l.length≤g'->0 < g->0 < g'->rt F g l=rt F g' l
 | 0,g',l,_,_,_,h,_=>by omega
 | g + 1,0,l,_,_,_,_,h=>by omega
 | g + 1,g' + 1,l,hl,h1,h2,_,_=>by
  unfold rt
  by_cases c0:l.length=0
  ·rw [if_pos c0,if_pos c0]
  by_cases c1:l.length=1
  ·rw [if_neg c0,if_neg c0,if_pos c1,if_pos c1]
  obtain ⟨_,h3,h4⟩:=q8 (n:=l.length) (by omega) hl F
  rw [if_neg c0,if_neg c0,if_neg c1,if_neg c1,F8 g g' (l.take (sp l.length)) (by simp;omega) (by simp;omega) (by simp;omega) (by omega) (by omega),F8 g g' (l.drop (sp l.length)) (by simp;omega) (by simp;omega) (by simp;omega) (by omega) (by omega)]
theorem apm {F:Nat} (hF:2000 < F) {l:List (List UInt8)} (hl:l.length < 140) (h2:2≤l.length):rt F F l=sh F (1 :: (rt F F (l.take (sp l.length)) ++ rt F F (l.drop (sp l.length)))):=by
 obtain ⟨_,h3,h4⟩:=q8 (n:=l.length) h2 hl F
 obtain ⟨g,rfl⟩:∃ g,F=g + 1:=⟨F - 1,by omega⟩
 conv=>lhs;unfold rt
 rw [if_neg (by omega),if_neg (by omega),F8 g (g + 1) (l.take (sp l.length)) (by simp;omega) (by simp;omega) (by simp;omega) (by omega) (by omega),F8 g (g + 1) (l.drop (sp l.length)) (by simp;omega) (by simp;omega) (by simp;omega) (by omega) (by omega)]
theorem adp {F:Nat} (hF:2000 < F) {l:List (List UInt8)} (h:l.length=1) (x:List UInt8) (hx:l[0]? = some x):rt F F l=x:=by
 obtain ⟨g,rfl⟩:∃ g,F=g + 1:=⟨F - 1,by omega⟩
 unfold rt
 rw [if_neg (by omega),if_pos h]
 cases l with
 | nil=>simp at h
 | cons y l=>simpa using hx
theorem cS {x:Int} (h1:-9223372036854775808≤x) (h2:x < 9223372036854775808):ag x=x:=aY h1 (by omega)
theorem W8 {α:Type} (L:List α) {s n k:Nat} (hk:k≤n):((L.drop s).take n).take k=(L.drop s).take k:=by rw [List.take_take,Nat.min_eq_left hk]
theorem Z1 {α:Type} (L:List α) (s n k:Nat):((L.drop s).take n).drop k=(L.drop (s + k)).take (n - k):=by rw [List.drop_take,List.drop_drop]
theorem abO {F:Nat} (hF:2000 < F) {L:List (List UInt8)} (d_:∀ x ∈ L,x.length=32) {s n:Nat} (h:s + n≤L.length) (hl:L.length < 140):I1 F (s:Int) (n:Int) L=some (rt F F ((L.drop s).take n)):=by
 have e:ag ((s:Int) + (n:Int))=((s + n:Nat):Int):=by rw [cS (by omega) (by omega)];omega
 have h34:=(lX hF (l:=(L.drop s).take n) (by simp;omega) fun x hx=>d_ x (List.mem_of_mem_drop (List.mem_of_mem_take hx))).1
 simp only [I1,E0,e,lR (Nat.le_add_right s n) h,Nat.add_sub_cancel_left,Option.bind_some,h34]
theorem Te {F:Nat} (hF:2000 < F) {L:List (List UInt8)} (d_:∀ x ∈ L,x.length=32) (hl:L.length < 140):∀ (g s n i:Nat),s + n≤L.length->n≤g->i < n->sJ F g (s:Int) (i:Int) (n:Int) L=some (bT F g ((L.drop s).take n) i)
 | 0,s,n,i,_,h,hi=>by omega
 | g + 1,s,n,i,hs,hg,hi=>by
  show Ae F (sJ F g) s i n L=_
  have hlen:((L.drop s).take n).length=n:=by simp;omega
  simp only [Ae,B6,bT,hlen]
  by_cases c1:n=1
  ·have e1:((n:Int) == 1)=true:=by rw [c1];rfl
   simp only [e1,cond_true,if_pos c1]
  ·have e1:((n:Int) == 1)=false:=by
    have:¬ (n:Int)=1:=by omega
    simpa using this
   obtain ⟨h3,h1,h2⟩:=q8 (n:=n) (by omega) (by omega) F
   have e2:ag ((s:Int) + ((sp n:Nat):Int))=((s + sp n:Nat):Int):=by rw [cS (by omega) (by omega)];omega
   have e3:ag ((n:Int) - ((sp n:Nat):Int))=((n - sp n:Nat):Int):=by rw [cS (by omega) (by omega)];omega
   have pl:=fun l i=>S9 F g l i
   simp only [e1,cond_false,if_neg c1,h3,Option.bind_some]
   by_cases ci:i < sp n
   ·have e4:decide ((i:Int) < ((sp n:Nat):Int))=true:=decide_eq_true (by omega)
    have ih:=Te hF d_ hl g s (sp n) i (by omega) (by omega) ci
    have hr:=abO hF d_ (s:=s + sp n) (n:=n - sp n) (by omega) hl
    have hp:=pU (F:=F) g ((L.drop s).take (sp n)) i (by simp;omega) (by simp;omega) (by simp;omega)
    simp only [e4,cond_true,ih,e2,e3,hr,Option.bind_some,if_pos ci,W8 L (Nat.le_of_lt h2),Z1,d9 (show (bT F g ((L.drop s).take (sp n)) i).length + [rt F F ((L.drop (s + sp n)).take (n - sp n))].length≤1099511627776 by simp at hp ⊢;omega)]
   ·have e4:decide ((i:Int) < ((sp n:Nat):Int))=false:=decide_eq_false (by omega)
    have e5:ag ((i:Int) - ((sp n:Nat):Int))=((i - sp n:Nat):Int):=by rw [cS (by omega) (by omega)];omega
    have ih:=Te hF d_ hl g (s + sp n) (n - sp n) (i - sp n) (by omega) (by omega) (by omega)
    have hr:=abO hF d_ (s:=s) (n:=sp n) (by omega) hl
    have hp:=pU (F:=F) g ((L.drop (s + sp n)).take (n - sp n)) (i - sp n) (by simp;omega) (by simp;omega) (by simp;omega)
    simp only [e4,cond_false,e5,e2,e3,ih,hr,Option.bind_some,if_neg ci,W8 L (Nat.le_of_lt h2),Z1,d9 (show (bT F g ((L.drop (s + sp n)).take (n - sp n)) (i - sp n)).length + [rt F F ((L.drop s).take (sp n))].length≤1099511627776 by simp at hp ⊢;omega)]
theorem ap9 {F:Nat} (hF:2000 < F) {L:List (List UInt8)} (d_:∀ x ∈ L,x.length=32) (hl:L.length < 140) {i:Nat} (hi:i < L.length):Ox F L (i:Int)=some (0,bT F F L i):=by
 have h1:decide ((i:Int) < 0)=false:=decide_eq_false (by omega)
 have h2:decide ((L.length:Int)≤(i:Int))=false:=decide_eq_false (by omega)
 have h:=Te hF d_ hl F 0 L.length i (by omega) (by omega) hi
 rw [List.drop_zero,List.take_length] at h
 have h':Ts F (0:Int) (i:Int) (L.length:Int) L=some (bT F F L i):=h
 simp only [Ox,KR,h1,h2,cond_false,h',Option.bind_some]
theorem Sy {F:Nat} (hF:2000 < F):∀ (g:Nat) (l:List (List UInt8)) (i:Nat) (x:List UInt8),l.length < 140->(∀ x ∈ l,x.length=32)->l.length≤g->l[i]? = some x->rX F g x (i:Int) (l.length:Int) (bT F g l i)=some (rt F F l,true)
 | 0,l,i,x,_,_,h,hi=>by have:=(aM hi).1;omega
 | g + 1,l,i,x,hl,d_,hg,hx=>by
  have hi:=(aM hx).1
  show B5 F (rX F g) x i l.length _=_
  simp only [B5,Ce,bT]
  by_cases c1:l.length=1
  ·have e1:((l.length:Int) == 1)=true:=by rw [c1];rfl
   have:i=0:=by omega
   subst this
   simp only [e1,cond_true,if_pos c1,adp hF c1 x hx]
   rfl
  ·have e1:((l.length:Int) == 1)=false:=by
    have:¬ (l.length:Int)=1:=by omega
    simpa using this
   obtain ⟨h3,h1,h2⟩:=q8 (n:=l.length) (by omega) hl F
   have AE:∀ x ∈ l.take (sp l.length),x.length=32:=fun x hx=>d_ x (List.mem_of_mem_take hx)
   have uJ:∀ x ∈ l.drop (sp l.length),x.length=32:=fun x hx=>d_ x (List.mem_of_mem_drop hx)
   have ra:=(lX hF (l:=l.take (sp l.length)) (by simp;omega) AE).2
   have rb:=(lX hF (l:=l.drop (sp l.length)) (by simp;omega) uJ).2
   have NH:=aaF (F:=F) (x:=rt F F (l.take (sp l.length))) (y:=rt F F (l.drop (sp l.length))) (by omega) (by omega)
   rw [← apm hF hl (by omega)] at NH
   have snoc:∀ (p:List (List UInt8)) (y:List UInt8),p.length < 1000->(((p ++ [y]).length:Int) == 0)=false∧ag (((p ++ [y]).length:Int) - 1)=((p.length:Nat):Int)∧bk (p ++ [y]) (0:Int) ((p.length:Nat):Int)=some p∧ix (p ++ [y]) ((p.length:Nat):Int)=some y:=fun p y hp=>by
    refine ⟨?_,?_,?_,cU (by simp)⟩
    ·have:¬ (((p ++ [y]).length:Int)=0):=by simp;omega
     simpa using this
    ·rw [cS (by simp<;>omega) (by simp<;>omega)];simp
    ·rw [zz (by simp)];simp
   by_cases ci:i < sp l.length
   ·have e4:decide ((i:Int) < ((sp l.length:Nat):Int))=true:=decide_eq_true (by omega)
    have hp:=pU (F:=F) g (l.take (sp l.length)) i (by simp;omega) (by simp;omega) (by simp;omega)
    obtain ⟨s1,s2,s3,s4⟩:=snoc (bT F g (l.take (sp l.length)) i) (rt F F (l.drop (sp l.length))) (by simp at hp;omega)
    have ih:=Sy hF g (l.take (sp l.length)) i x (by simp;omega) AE (by simp;omega) (by rw [List.getElem?_take_of_lt ci];exact hx)
    rw [show (l.take (sp l.length)).length=sp l.length by simp;omega] at ih
    simp only [e1,cond_false,if_neg c1,if_pos ci,s1,s2,s3,s4,Option.bind_some,h3,e4,cond_true,ih,NH]
   ·have e4:decide ((i:Int) < ((sp l.length:Nat):Int))=false:=decide_eq_false (by omega)
    have e5:ag ((i:Int) - ((sp l.length:Nat):Int))=((i - sp l.length:Nat):Int):=by rw [cS (by omega) (by omega)];omega
    have e6:ag ((l.length:Int) - ((sp l.length:Nat):Int))=((l.length - sp l.length:Nat):Int):=by rw [cS (by omega) (by omega)];omega
    have hp:=pU (F:=F) g (l.drop (sp l.length)) (i - sp l.length) (by simp;omega) (by simp;omega) (by simp;omega)
    obtain ⟨s1,s2,s3,s4⟩:=snoc (bT F g (l.drop (sp l.length)) (i - sp l.length)) (rt F F (l.take (sp l.length))) (by simp at hp;omega)
    have ih:=Sy hF g (l.drop (sp l.length)) (i - sp l.length) x (by simp;omega) uJ (by simp;omega) (by rw [List.getElem?_drop,Nat.add_sub_cancel' (by omega)];exact hx)
    rw [show (l.drop (sp l.length)).length=l.length - sp l.length by simp] at ih
    simp only [e1,cond_false,if_neg c1,if_neg ci,s1,s2,s3,s4,Option.bind_some,h3,e4,e5,e6,ih,NH]
theorem agb {F:Nat} (hF:2000 < F) {ls:List (List UInt8)} (hl:ls.length≤1000) (h:∀ x ∈ ls,x.length=32):PM F ls=some true:=by
 obtain ⟨z,hz,hQ⟩:=cL (f:=fun s:Int=>FF F ls (ls.length:Int) s) (fun s=>∃ i:Nat,s=i∧i≤ls.length) (fun z=>z=.inl ()) (fun s=>ls.length - s.toNat) (by
  rintro s ⟨i,rfl,hi⟩
  by_cases hlt:i < ls.length
  ·have h1:decide ((i:Int) < (ls.length:Int))=true:=decide_eq_true (by omega)
   have hx:ls[i]? = some ls[i]:=List.getElem?_eq_getElem hlt
   have d_:(((ls[i].length:Nat):Int) == 32)=true:=by rw [h _ (List.getElem_mem hlt)];rfl
   refine .inl ⟨((i + 1:Nat):Int),by simp only [FF,A7,h1,cond_true,cU hx,Option.bind_some,By,Az,d_,Bool.not_true,cond_false,dH (show i < 9223372036854775807 by omega)],⟨i + 1,rfl,by omega⟩,by omega⟩
  ·have h1:decide ((i:Int) < (ls.length:Int))=false:=decide_eq_false (by omega)
   exact .inr ⟨.inl (),by simp only [FF,A7,h1,cond_false],rfl⟩) F (0:Int) ⟨0,rfl,by omega⟩ (by simp;omega)
 subst hQ
 simp only [PM,FZ,hz,Option.bind_some,bz]
theorem ai9 {F:Nat} (hF:2000 < F) {L:List (List UInt8)} (d_:∀ x ∈ L,x.length=32) (hl:L.length < 140) {i:Nat} {x:List UInt8} (hx:L[i]? = some x):Q8 F x (i:Int) (L.length:Int) (bT F F L i) (rt F F L)=some true:=by
 have hi:=(aM hx).1
 have h1:decide ((i:Int) < 0)=false:=decide_eq_false (by omega)
 have h2:decide ((L.length:Int)≤(i:Int))=false:=decide_eq_false (by omega)
 have aoF:=d_ x (List.mem_of_getElem? hx)
 have hr:=(lX hF hl d_).2
 have e1:((x.length:Int) == 32)=true:=by rw [aoF];rfl
 have e2:(((rt F F L).length:Int) == 32)=true:=by rw [hr];rfl
 have hp:=pU (F:=F) F L i hl (by omega) hi
 have ha:=agb hF (ls:=bT F F L i) (by omega) (Ij hF F L i hl d_ (by omega) hi)
 have hc:NS F x (i:Int) (L.length:Int) (bT F F L i)=some (rt F F L,true):=Sy hF F L i x hl d_ (by omega) hx
 simp only [Q8,IK,h1,h2,cond_false,By,Az,e1,e2,Option.bind_some,Bool.not_true,ha,hc,cond_true,beq_self_eq_true]
def gJ:Nat->Nat->List UInt8
 | 0,n=>[UInt8.ofNat n]
 | m + 1,n=>if n < 128 then [UInt8.ofNat n] else UInt8.ofNat (n % 128 + 128) :: gJ m (n / 128)
theorem FT:∀ (m n:Nat),(gJ m n).length≤m + 1∧1≤(gJ m n).length
 | 0,n=>by simp [gJ]
 | m + 1,n=>by
  have:=FT m (n / 128)
  simp only [gJ];split<;>simp<;>omega
theorem afq:∀ b:_root_.Fin 256,(UInt8.ofNat b.val ||| UInt8.ofNat 128)=UInt8.ofNat (b.val % 128 + 128):=by decide +kernel
theorem ZB (x:UInt64):x.toUInt8=UInt8.ofNat x.toNat:=by
 apply UInt8.toNat_inj.1
 rw [UInt64.toNat_toUInt8,UInt8.toNat_ofNat']
theorem ala (x:UInt64):(x.toUInt8 ||| UInt8.ofNat 128)=UInt8.ofNat (x.toNat % 128 + 128):=by
 have h:=afq ⟨x.toNat % 256,Nat.mod_lt _ (by omega)⟩
 simp only at h
 have e:UInt8.ofNat (x.toNat % 256)=x.toUInt8:=by
  apply UInt8.toNat_inj.1
  rw [UInt64.toNat_toUInt8,UInt8.toNat_ofNat'];omega
 rw [e] at h
 rw [h]
 congr 1;omega
theorem Ph (F:Nat):∀ (m fuel:Nat) (x:UInt64) (l:List UInt8),x.toNat < 128 ^ (m + 1)->m < fuel->l.length + m < 1000000->∃ y pre,iter (fun s:UInt64×List UInt8=>lM F s.1 s.2) fuel (x,l)=some (y,l ++ pre)∧pre ++ [y.toUInt8]=gJ m x.toNat∧pre.length≤m
 | m,0,x,l,hx,hf,hl=>by omega
 | 0,fuel + 1,x,l,hx,hf,hl=>by
  have h:¬ UInt64.ofNat 128≤x:=by
   show ¬ (128≤x.toNat);omega
  have step:lM F x l=some (.inr (x,l)):=by simp only [lM,wq,h,decide_false,cond_false]
  refine ⟨x,[],?_,by rw [List.nil_append,ZB];simp only [gJ],by simp⟩
  rw [iW (f:=fun s:UInt64×List UInt8=>lM F s.1 s.2) (s:=(x,l)) step];simp
 | m + 1,fuel + 1,x,l,hx,hf,hl=>by
  by_cases h:128≤x.toNat
  ·have h':UInt64.ofNat 128≤x:=h
   have hd:=Ns x
   have hlt:(cY x 7).toNat < 128 ^ (m + 1):=by rw [hd];exact Nat.div_lt_of_lt_mul (by rw [Nat.pow_succ] at hx;omega)
   obtain ⟨y,pre,h1,h2,h3⟩:=Ph F m fuel (cY x 7) (l ++ [UInt8.ofNat (x.toNat % 128 + 128)]) hlt (by omega) (by simp;omega)
   refine ⟨y,UInt8.ofNat (x.toNat % 128 + 128) :: pre,?_,?_,by simp;omega⟩
   ·have e7:(UInt64.ofNat 7).toNat=7:=rfl
    have hg:aD l [x.toUInt8 ||| UInt8.ofNat 128]=some (l ++ [UInt8.ofNat (x.toNat % 128 + 128)]):=by
     rw [ala];unfold aD;rw [if_pos (by simp;omega)]
    have step:lM F x l=some (.inl (cY x 7,l ++ [UInt8.ofNat (x.toNat % 128 + 128)])):=by
     simp only [lM,wq,h',decide_true,cond_true,hg,Option.bind_some,e7]
    rw [lK (f:=fun s:UInt64×List UInt8=>lM F s.1 s.2) (s:=(x,l)) step,h1]
    simp
   ·rw [List.cons_append,h2,hd]
    simp [gJ,show ¬ x.toNat < 128 by omega]
  ·have h':¬ UInt64.ofNat 128≤x:=h
   have step:lM F x l=some (.inr (x,l)):=by simp only [lM,wq,h',decide_false,cond_false]
   refine ⟨x,[],?_,by rw [List.nil_append,ZB];simp only [gJ,show x.toNat < 128 by omega,if_true],by simp⟩
   rw [iW (f:=fun s:UInt64×List UInt8=>lM F s.1 s.2) (s:=(x,l)) step];simp
def enc (n:Nat):List UInt8:=gJ 9 n
theorem nA (x:UInt64):x.toNat < 128 ^ (9 + 1):=Nat.lt_of_lt_of_le x.toNat_lt (by decide)
theorem asa {m n:Nat} (h:n < 128):gJ m n=[UInt8.ofNat n]:=by
 cases m<;>simp [gJ,h]
theorem abd {n:Nat} (h:n≤32768):(enc n).length=sz n:=by
 unfold enc sz
 by_cases h1:n < 128
 ·simp [gJ,h1]
 ·by_cases h2:n < 16384
  ·simp [gJ,h1,h2,show n / 128 < 128 by omega]
  ·simp [gJ,h1,h2,show ¬ n / 128 < 128 by omega,show n / 128 / 128 < 128 by omega]
theorem Mf (n:Nat):1≤sz n∧sz n≤3:=by unfold sz;split<;>(try split)<;>omega
theorem U4 (need:Int):∀ (m k:Nat),need≤bq (k + m)->∃ j,k≤j∧j≤k + m∧fc need m k=bq j∧need≤bq j∧(j=k∨bq (j - 1) < need)
 | 0,k,h=>⟨k,by omega,by omega,rfl,h,.inl rfl⟩
 | m + 1,k,h=>by
  by_cases hk:bq k < need
  ·obtain ⟨j,h1,h2,h3,h4,h5⟩:=U4 need m (k + 1) (by rw [show k + 1 + m=k + (m + 1) by omega];exact h)
   refine ⟨j,by omega,by omega,by simp [fc,hk,h3],h4,.inr ?_⟩
   rcases h5 with rfl | h5
   ·simpa using hk
   ·exact h5
  ·exact ⟨k,by omega,by omega,by simp [fc,hk],by omega,.inl rfl⟩
theorem R1 {F:Nat} (hF:50 < F) {n:Int} (h0:0≤n) (h1:n≤32768):∃ j,j < 38∧kN F n=some (bq j,0)∧(sz n.toNat:Nat) + n + 16≤bq j∧(j=0∨bq (j - 1) < (sz n.toNat:Nat) + n + 16):=by
 have hs:=Mf n.toNat
 have hle:need n≤bq 37:=by
  have:bq 37=40960:=by decide
  unfold need;omega
 obtain ⟨j,a1,a2,a3,a4,a5⟩:=U4 (need n) 37 0 hle
 have hc:=(FB hF h0 h1).1
 unfold eL at hc
 unfold need at a4 a5
 exact ⟨j,by omega,by rw [hc,a3],a4,a5⟩
theorem ajk {n:Int} (h0:0≤n) (h1:n≤32768):(UInt64.ofInt n).toNat=n.toNat:=by
 show (UInt64.ofNat (n % 2 ^ 64).toNat).toNat=_
 rw [UInt64.toNat_ofNat'];omega
theorem YR:∀ j:_root_.Fin 38,64≤bq j.val∧bq j.val≤40960∧0≤(bq j.val).tdiv 4∧(bq j.val).tdiv 4≤40960:=by decide +kernel
theorem t44 {F:Nat} (hF:50 < F) (x:UInt64):tY F [] x=some (enc x.toNat):=by
 obtain ⟨y,pre,h1,h2,h3⟩:=Ph F 9 F x [] (nA x) (by omega) (by simp)
 have w:ag ((([]:List UInt8).length:Int) + 10)=10:=by decide
 have g1:cw (0:UInt8) (0:Int) 10=some []:=by decide
 have g2:aD ([]:List UInt8) []=some []:=by decide
 simp only [tY,Bd,w,g1,g2,Option.bind_some,t5,Cc]
 rw [h1]
 simp only [Option.bind_some,List.nil_append]
 have:aD pre [y.toUInt8]=some (pre ++ [y.toUInt8]):=by unfold aD;rw [if_pos (by simp;omega)]
 rw [this,h2];rfl
def yz (D:Nat) (c k:List UInt8):List UInt8:=enc c.length ++ c ++ List.replicate (D - 16 - (enc c.length).length - c.length) 0 ++ k
theorem anT {e c k:List UInt8} {D:Nat} (h:e.length + c.length + 16≤D) (hk:k.length=16) :
  bC (bC (bC (List.replicate D (0:UInt8)) 0 e e.length) e.length c c.length) (D - 16) k 16=e ++ c ++ List.replicate (D - 16 - e.length - c.length) 0 ++ k:=by
 have s1:bC (List.replicate D (0:UInt8)) 0 e e.length=e ++ List.replicate (D - e.length) 0:=by simp [bC]
 have s2:bC (e ++ List.replicate (D - e.length) 0) e.length c c.length=e ++ c ++ List.replicate (D - e.length - c.length) 0:=by
  simp only [bC,List.take_left,List.take_length]
  rw [List.drop_append,List.drop_eq_nil_of_le (by omega)]
  simp
 rw [s1,s2]
 have e1:(e ++ c).length=e.length + c.length:=by simp
 simp only [bC]
 rw [List.take_append,List.take_of_length_le (by omega:(e ++ c).length≤D - 16),List.take_of_length_le (by omega:k.length≤16),List.drop_eq_nil_of_le (by simp;omega)]
 simp [e1,List.take_replicate]
 omega
theorem S3 {α:Type} (xs ys:List α) {lo c:Nat} (h1:lo + c≤xs.length) (h2:c≤ys.length):(bC xs lo ys c).length=xs.length:=by simp [bC];omega
theorem t18 {F:Nat} (hF:50 < F) {c k:List UInt8} (hc:c.length≤32768) (hk:k.length=16):∃ j,j < 38∧kN F (c.length:Int)=some (bq j,0)∧(sz c.length:Nat) + (c.length:Int) + 16≤bq j∧NO F c k=some (0,yz (bq j).toNat c k):=by
 obtain ⟨j,hj,h1,h2,_⟩:=R1 hF (n:=(c.length:Int)) (by omega) (by omega)
 have hb:=YR ⟨j,hj⟩
 simp only at hb
 have hs:=Mf c.length
 rw [Int.toNat_natCast] at h2
 refine ⟨j,hj,h1,h2,?_⟩
 have hx:(UInt64.ofInt (c.length:Int)).toNat=c.length:=by rw [ajk (by omega) (by omega)];simp
 have he:=abd hc
 have hk':((k.length:Int) != 16)=false:=by simp [hk]
 have g1:cw (0:UInt8) (bq j) (bq j)=some (List.replicate (bq j).toNat 0):=by unfold cw;rw [if_pos (by omega)]
 simp only [NO,ES,hk',cond_false,h1,Option.bind_some,g1,t44 hF,hx]
 have e0:((0:Int) != 0)=false:=by decide
 simp only [e0,cond_false]
 have m1:Nat.min (enc c.length).length (List.replicate (bq j).toNat (0:UInt8)).length=(enc c.length).length:=by
  simp only [List.length_replicate];exact Nat.min_eq_left (by omega)
 have l1:(bC (List.replicate (bq j).toNat (0:UInt8)) 0 (enc c.length) (enc c.length).length).length=(bq j).toNat:=by
  rw [S3 _ _ (by simp;omega) (by omega)];simp
 rw [m1,l1]
 have g2:bW (bq j).toNat (((enc c.length).length:Nat):Int) (((bq j).toNat:Nat):Int)=some ((enc c.length).length,(bq j).toNat):=by
  unfold bW;rw [if_pos (by omega)];simp only [Int.toNat_natCast]
 rw [g2]
 simp only [Option.bind_some]
 have m2:Nat.min c.length ((bq j).toNat - (enc c.length).length)=c.length:=Nat.min_eq_left (by omega)
 rw [m2]
 have l2:(bC (bC (List.replicate (bq j).toNat (0:UInt8)) 0 (enc c.length) (enc c.length).length) (enc c.length).length c c.length).length=(bq j).toNat:=by
  rw [S3 _ _ (by rw [l1];omega) (by omega),l1]
 rw [l2]
 have w1:ag (bq j - 16)=bq j - 16:=aY (by omega) (by omega)
 have g3:bW (bq j).toNat (bq j - 16) (((bq j).toNat:Nat):Int)=some ((bq j).toNat - 16,(bq j).toNat):=by
  unfold bW;rw [if_pos (by omega)];simp only [Int.toNat_natCast,az,Prod.mk.injEq,and_true];omega
 rw [w1,g3]
 simp only [Option.bind_some]
 have m3:Nat.min k.length ((bq j).toNat - ((bq j).toNat - 16))=16:=by rw [hk];exact Nat.min_eq_left (by omega)
 rw [m3,anT (by omega) hk]
 rfl
def gO (a b:List UInt8):List UInt8:=List.zipWith (fun x y=>x ^^^ y) a b
theorem Y5 {a b:List UInt8} (h:a.length=b.length):(gO a b).length=a.length:=by simp [gO,h]
theorem Vd (F:Nat) {a b:List UInt8} (hab:a.length=b.length) (hn:a.length < 1000000):∀ (m fuel i:Nat),i + m=a.length->m < fuel->iter (fun s:Int×List UInt8=>qv F a b (a.length:Int) s.1 s.2) fuel (((i:Nat):Int),gO (a.take i) (b.take i) ++ List.replicate m 0)=some (gO a b)
 | m,0,i,hi,hf=>by omega
 | 0,fuel + 1,i,hi,hf=>by
  have h:¬ (((i:Nat):Int) < (a.length:Int)):=by omega
  have e1:a.take i=a:=List.take_of_length_le (by omega)
  have e2:b.take i=b:=List.take_of_length_le (by omega)
  have step:qv F a b (a.length:Int) ((i:Nat):Int) (gO (a.take i) (b.take i) ++ List.replicate 0 0)=some (.inr (gO a b)):=by
   simp only [qv,Dj,h,decide_false,cond_false,e1,e2,List.replicate_zero,List.append_nil]
  rw [iW (f:=fun s:Int×List UInt8=>qv F a b (a.length:Int) s.1 s.2) (s:=(((i:Nat):Int),_)) step]
 | m + 1,fuel + 1,i,hi,hf=>by
  have h:(((i:Nat):Int) < (a.length:Int)):=by omega
  have ha:i < a.length:=by omega
  have hb:i < b.length:=by omega
  have hx:ix a ((i:Nat):Int)=some a[i]:=by unfold ix;rw [if_pos (by omega)];simp [ha]
  have hy:ix b ((i:Nat):Int)=some b[i]:=by unfold ix;rw [if_pos (by omega)];simp [hb]
  have w:ag (((i:Nat):Int) + 1)=(((i + 1:Nat)):Int):=by rw [aY (by omega) (by omega)];omega
  have hl:(gO (a.take i) (b.take i)).length=i:=by rw [Y5 (by simp;omega)];simp;omega
  have hin:an (gO (a.take i) (b.take i) ++ List.replicate (m + 1) 0).length ((i:Nat):Int)=some i:=by
   unfold an;rw [if_pos (by simp [hl];omega)];simp
  have gy:List.set (gO (a.take i) (b.take i) ++ List.replicate (m + 1) 0) i (a[i] ^^^ b[i])=gO (a.take (i + 1)) (b.take (i + 1)) ++ List.replicate m 0:=by
   rw [List.set_append_right _ _ (by omega),hl,Nat.sub_self,List.replicate_succ,List.set_cons_zero]
   have:gO (a.take (i + 1)) (b.take (i + 1))=gO (a.take i) (b.take i) ++ [a[i] ^^^ b[i]]:=by
    simp only [gO]
    rw [List.take_succ_eq_append_getElem ha,List.take_succ_eq_append_getElem hb,List.zipWith_append (by simp;omega)]
    rfl
   rw [this];simp
  have step:qv F a b (a.length:Int) ((i:Nat):Int) (gO (a.take i) (b.take i) ++ List.replicate (m + 1) 0)=some (.inl (((i + 1:Nat):Int),gO (a.take (i + 1)) (b.take (i + 1)) ++ List.replicate m 0)):=by
   simp only [qv,Dj,h,decide_true,cond_true,hx,hy,hin,Option.bind_some,w,gy]
  rw [lK (f:=fun s:Int×List UInt8=>qv F a b (a.length:Int) s.1 s.2) (s:=(((i:Nat):Int),_)) step]
  exact Vd F hab hn m fuel (i + 1) (by omega) (by omega)
theorem t57 {F:Nat} {a b:List UInt8} (hF:a.length < F) (hn:a.length < 1000000) (h:a.length=b.length):QD F a b=some (0,gO a b):=by
 have e:((a.length:Int) != (b.length:Int))=false:=by simp [h]
 have g:cw (0:UInt8) (a.length:Int) (a.length:Int)=some (List.replicate a.length 0):=by unfold cw;rw [if_pos (by omega)];simp
 have l:=Vd F h hn a.length F 0 (by omega) hF
 have z:((0:Nat):Int)=0:=rfl
 simp only [List.take_zero,z] at l
 have x0:gO [] []=[]:=rfl
 rw [x0,List.nil_append] at l
 simp only [QD,Jj,e,cond_false,g,Option.bind_some,l]
theorem ajp {D:Nat} {c k:List UInt8} (hc:c.length≤32768) (hk:k.length=16) (h:sz c.length + c.length + 16≤D):(yz D c k).length=D:=by
 have:=abd hc
 simp [yz,hk,this];omega
theorem t34 {F:Nat} (hF:41000 < F) {s k c:List UInt8} (hc:c.length≤32768) (hk:k.length=16) {j:Nat} (hj:j < 38) (h1:kN F (c.length:Int)=some (bq j,0)) (hs:s.length=(bq j).toNat) :
  NN F s k c=some (0,gO (yz (bq j).toNat c k) s)∧(yz (bq j).toNat c k).length=(bq j).toNat:=by
 obtain ⟨j',hj',je,h2,h3⟩:=t18 (F:=F) (by omega) hc hk
 rw [h1] at je
 have tJ:bq j=bq j':=by simpa using je
 rw [← tJ] at h2 h3
 have hb:=YR ⟨j,hj⟩
 simp only at hb
 have hl:=ajp (D:=(bq j).toNat) hc hk (by omega)
 refine ⟨?_,hl⟩
 have e0:((0:Int) != 0)=false:=by decide
 simp only [NN,FC,h3,Option.bind_some,e0,cond_false]
 rw [t57 (by omega) (by omega) (by omega)]
 rfl
def iM:Nat->List UInt8->Option (Nat×Nat)
 | _,[]=>none
 | i,b :: r=>if 10≤i then none else if 128≤b.toNat then (match iM (i + 1) r with
   | some (v,n)=>some (b.toNat % 128 + 128 * v,n + 1)
   | none=>none) else if 0 < i∧b.toNat=0 then none else if i=9∧1 < b.toNat then none else some (b.toNat,1)
theorem ab5:∀ (m v:Nat) (r:List UInt8),m≤9->v * 128 ^ (9 - m) < 2 ^ 64->(m < 9->0 < v)->iM (9 - m) (gJ m v ++ r)=some (v,(gJ m v).length)
 | 0,v,r,hm,hv,h0=>by
  have hv1:v≤1:=by
   rcases Nat.lt_or_ge 1 v with h | h
   ·have:2 * 128 ^ 9≤v * 128 ^ 9:=Nat.mul_le_mul_right _ h
    have:2 * 128 ^ 9=2 ^ 64:=by decide
    simp only [Nat.sub_zero] at hv
    omega
   ·exact h
  have hp:=h0 (by omega)
  obtain rfl:v=1:=by omega
  rfl
 | m + 1,v,r,hm,hv,h0=>by
  simp only [gJ]
  by_cases h:v < 128
  ·rw [if_pos h]
   have hb:(UInt8.ofNat v).toNat=v:=by rw [UInt8.toNat_ofNat'];omega
   simp only [List.cons_append,List.nil_append,iM,hb]
   rw [if_neg (by omega),if_neg (by omega)]
   by_cases h9:m + 1=9
   ·rw [if_neg (by omega),if_neg (by omega)];rfl
   ·have:=h0 (by omega)
    rw [if_neg (by omega),if_neg (by omega)];rfl
  ·rw [if_neg h]
   have hb:(UInt8.ofNat (v % 128 + 128)).toNat=v % 128 + 128:=by rw [UInt8.toNat_ofNat'];omega
   have hd:v / 128 * 128 ^ (9 - m) < 2 ^ 64:=by
    have e:(128:Nat) ^ (9 - m)=128 ^ (9 - (m + 1)) * 128:=by rw [← Nat.pow_succ];congr 1;omega
    rw [e]
    calc v / 128 * (128 ^ (9 - (m + 1)) * 128)=(v / 128 * 128) * 128 ^ (9 - (m + 1)):=by ac_rfl
     _≤v * 128 ^ (9 - (m + 1)):=Nat.mul_le_mul_right _ (Nat.div_mul_le_self v 128)
     _ < 2 ^ 64:=hv
   have ih:=ab5 m (v / 128) r (by omega) hd (fun _=>by omega)
   simp only [List.cons_append,iM,hb]
   rw [if_neg (by omega),if_pos (by omega),show 9 - (m + 1) + 1=9 - m by omega,ih]
   simp only [az,Prod.mk.injEq,List.length_cons,and_true]
   omega
theorem aj_ {v:Nat} (hv:v < 2 ^ 64) (r:List UInt8):iM 0 (enc v ++ r)=some (v,(enc v).length):=
 ab5 9 v r (by omega) (by simpa using hv) (fun h=>by omega)
theorem anf {a x i:Nat} (h:a < 2 ^ i):a ||| (x * 2 ^ i)=a + x * 2 ^ i:=by
 rw [Nat.or_comm,Nat.add_comm,← Nat.shiftLeft_eq,Nat.shiftLeft_add_eq_or_of_lt h]
theorem aoa:∀ b:_root_.Fin 256,(UInt8.ofNat b.val &&& UInt8.ofNat 127).toNat=b.val % 128:=by decide +kernel
theorem aiY (b:UInt8):(b &&& UInt8.ofNat 127).toNat=b.toNat % 128:=by
 have:=aoa ⟨b.toNat,b.toNat_lt⟩
 simpa using this
theorem Wa {acc:UInt64} {b:UInt8} {i:Nat} (hi:i≤9) (ha:acc.toNat < 128 ^ i) (h9:i=9->b.toNat % 128≤1):(acc ||| (iA ((b &&& (UInt8.ofNat 127)).toUInt64) (7 * i))).toNat=acc.toNat + b.toNat % 128 * 128 ^ i∧b.toNat % 128 * 128 ^ i < 2 ^ 64:=by
 have hp:(128:Nat) ^ i=2 ^ (7 * i):=by rw [show (128:Nat)=2 ^ 7 from rfl,Nat.pow_mul]
 have hlt:b.toNat % 128 * 128 ^ i < 2 ^ 64:=by
  by_cases h:i=9
  ·subst h
   calc b.toNat % 128 * 128 ^ 9≤1 * 128 ^ 9:=Nat.mul_le_mul_right _ (h9 rfl)
    _ < 2 ^ 64:=by decide
  ·have h1:b.toNat % 128 * 128 ^ i < 128 * 128 ^ i:=Nat.mul_lt_mul_of_pos_right (Nat.mod_lt _ (by omega)) (Nat.pow_pos (by omega))
   have h2:128 * 128 ^ i≤128 * 128 ^ 8:=Nat.mul_le_mul_left _ (Nat.pow_le_pow_right (by omega) (by omega))
   have h3:128 * 128 ^ 8 < 2 ^ 64:=by decide
   omega
 refine ⟨?_,hlt⟩
 have hs:(iA ((b &&& (UInt8.ofNat 127)).toUInt64) (7 * i)).toNat=b.toNat % 128 * 128 ^ i:=by
  show (((b &&& (UInt8.ofNat 127)).toUInt64).toBitVec <<< (7 * i)).toNat=_
  rw [BitVec.toNat_shiftLeft]
  have e1:((b &&& (UInt8.ofNat 127)).toUInt64).toBitVec.toNat=b.toNat % 128:=by
   show ((b &&& (UInt8.ofNat 127)).toUInt64).toNat=_
   rw [UInt8.toNat_toUInt64,aiY]
  rw [e1,Nat.shiftLeft_eq,← hp,Nat.mod_eq_of_lt hlt]
 rw [UInt64.toNat_or,hs,hp]
 rw [hp] at ha
 exact anf ha
theorem Yv (F:Nat) (b:List UInt8) (hb:b.length < 1000000000):∀ (m i fuel pos:Nat) (acc:UInt64),i + m=10->m < fuel->acc.toNat < 128 ^ i->pos≤b.length ->
  (∃ v n,iM i (b.drop pos)=some (v,n)∧iter (fun s:UInt64×Int×Int=>fp F b s.1 s.2.1 s.2.2) fuel (acc,((i:Nat):Int),((pos:Nat):Int))=some (.inr (UInt64.ofNat (acc.toNat + v * 128 ^ i),0,((pos + n:Nat):Int)))) ∨
  (iM i (b.drop pos)=none∧((∃ p,iter (fun s:UInt64×Int×Int=>fp F b s.1 s.2.1 s.2.2) fuel (acc,((i:Nat):Int),((pos:Nat):Int))=some (.inl p))∨∃ p,iter (fun s:UInt64×Int×Int=>fp F b s.1 s.2.1 s.2.2) fuel (acc,((i:Nat):Int),((pos:Nat):Int))=some (.inr (UInt64.ofNat 0,3,p))))
 | m,i,0,pos,acc,iS,hf,ha,hp=>by omega
 | 0,i,fuel + 1,pos,acc,iS,hf,ha,hp=>by
  right
  have h:¬ (((i:Nat):Int) < 10):=by omega
  refine ⟨?_,.inl ⟨((pos:Nat):Int),?_⟩⟩
  ·cases b.drop pos with
   | nil=>rfl
   | cons x r=>simp only [iM];rw [if_pos (by omega)]
  ·have step:fp F b acc ((i:Nat):Int) ((pos:Nat):Int)=some (.inr (.inl ((pos:Nat):Int))):=by
    simp only [fp,qU,h,decide_false,cond_false]
   rw [iW (f:=fun s:UInt64×Int×Int=>fp F b s.1 s.2.1 s.2.2) (s:=(acc,((i:Nat):Int),((pos:Nat):Int))) step]
 | m + 1,i,fuel + 1,pos,acc,iS,hf,ha,hp=>by
  have h:(((i:Nat):Int) < 10):=by omega
  by_cases he:pos=b.length
  ·right
   have e1:(((pos:Nat):Int) == (b.length:Int))=true:=by simp [he]
   refine ⟨by rw [List.drop_eq_nil_of_le (by omega)];rfl,.inr ⟨((pos:Nat):Int),?_⟩⟩
   have step:fp F b acc ((i:Nat):Int) ((pos:Nat):Int)=some (.inr (.inr (UInt64.ofNat 0,3,((pos:Nat):Int)))):=by
    simp only [fp,qU,h,decide_true,cond_true,e1]
   rw [iW (f:=fun s:UInt64×Int×Int=>fp F b s.1 s.2.1 s.2.2) (s:=(acc,((i:Nat):Int),((pos:Nat):Int))) step]
  ·have hlt:pos < b.length:=by omega
   have e1:(((pos:Nat):Int) == (b.length:Int))=false:=by simp;omega
   have hin:an b.length ((pos:Nat):Int)=some pos:=by unfold an;rw [if_pos (by omega)];simp
   have hg:cX (ag ((7:Int) * ((i:Nat):Int)))=some (7 * i):=by
    have w:ag ((7:Int) * ((i:Nat):Int))=((7 * i:Nat):Int):=by rw [aY (by omega) (by omega)];omega
    rw [w];unfold cX;rw [if_pos (by omega)];simp only [Int.toNat_natCast]
   have w1:ag (((i:Nat):Int) + 1)=((i + 1:Nat):Int):=by rw [aY (by omega) (by omega)];omega
   have w2:ag (((pos:Nat):Int) + 1)=((pos + 1:Nat):Int):=by rw [aY (by omega) (by omega)];omega
   have hd:b.drop pos=b[pos] :: b.drop (pos + 1):=List.drop_eq_getElem_cons hlt
   rw [hd]
   have hx:b[pos].toNat < 256:=b[pos].toNat_lt
   have Y9:(128:Nat) ^ (i + 1)=128 ^ i * 128:=Nat.pow_succ ..
   by_cases hc:128≤b[pos].toNat
   ·have SY:UInt8.ofNat 128≤b[pos]:=hc
    have step:fp F b acc ((i:Nat):Int) ((pos:Nat):Int)=some (.inl (acc ||| (iA ((b[pos] &&& (UInt8.ofNat 127)).toUInt64) (7 * i)),((i + 1:Nat):Int),((pos + 1:Nat):Int))):=by
     simp only [fp,qU,h,decide_true,cond_true,e1,cond_false,hin,Option.bind_some,List.getElem?_eq_getElem hlt,hg,SY,w1,w2]
    rw [lK (f:=fun s:UInt64×Int×Int=>fp F b s.1 s.2.1 s.2.2) (s:=(acc,((i:Nat):Int),((pos:Nat):Int))) step]
    have hds:iM i (b[pos] :: b.drop (pos + 1))=(match iM (i + 1) (b.drop (pos + 1)) with
      | some (v,n)=>some (b[pos].toNat % 128 + 128 * v,n + 1)
      | none=>none):=by
     simp only [iM];rw [if_neg (by omega),if_pos hc]
    rw [hds]
    by_cases qK:i=9
    ·
     subst qK
     have hn:iM (9 + 1) (b.drop (pos + 1))=none:=by
      cases b.drop (pos + 1) with
      | nil=>rfl
      | cons x r=>simp [iM]
     rw [hn]
     right
     refine ⟨rfl,?_⟩
     obtain ⟨f,rfl⟩:∃ f,fuel=f + 1:=⟨fuel - 1,by omega⟩
     left
     have h':¬ (((9 + 1:Nat):Int) < 10):=by omega
     refine ⟨((pos + 1:Nat):Int),?_⟩
     have step2:∀ a:UInt64,fp F b a ((9 + 1:Nat):Int) ((pos + 1:Nat):Int)=some (.inr (.inl ((pos + 1:Nat):Int))):=fun a=>by
      simp only [fp,qU,h',decide_false,cond_false]
     rw [iW (f:=fun s:UInt64×Int×Int=>fp F b s.1 s.2.1 s.2.2) (s:=(_,((9 + 1:Nat):Int),((pos + 1:Nat):Int))) (step2 _)]
    ·obtain ⟨hacc,_⟩:=Wa (acc:=acc) (b:=b[pos]) (i:=i) (by omega) ha (fun h=>absurd h qK)
     have ac5:(acc ||| (iA ((b[pos] &&& (UInt8.ofNat 127)).toUInt64) (7 * i))).toNat < 128 ^ (i + 1):=by
      rw [hacc,Y9]
      have:b[pos].toNat % 128 * 128 ^ i≤127 * 128 ^ i:=Nat.mul_le_mul_right _ (by omega)
      omega
     rcases Yv F b hb m (i + 1) fuel (pos + 1) _ (by omega) (by omega) ac5 (by omega) with ⟨v,n,h1,h2⟩ | ⟨h1,h2⟩
     ·left
      rw [h1]
      refine ⟨_,_,rfl,?_⟩
      rw [h2,hacc]
      have e:acc.toNat + b[pos].toNat % 128 * 128 ^ i + v * 128 ^ (i + 1)=acc.toNat + (b[pos].toNat % 128 + 128 * v) * 128 ^ i:=by
       rw [Y9,Nat.add_mul,Nat.add_assoc];congr 2;ac_rfl
      rw [e,show pos + 1 + n=pos + (n + 1) by omega]
     ·right
      rw [h1]
      exact ⟨rfl,h2⟩
   ·have SY:¬ UInt8.ofNat 128≤b[pos]:=hc
    have hds:iM i (b[pos] :: b.drop (pos + 1))=(if 0 < i∧b[pos].toNat=0 then none else if i=9∧1 < b[pos].toNat then none else some (b[pos].toNat,1)):=by
     simp only [iM];rw [if_neg (by omega),if_neg hc]
    rw [hds]
    have good:(i=9->b[pos].toNat≤1)->fp F b acc ((i:Nat):Int) ((pos:Nat):Int)=some (.inr (.inr (acc ||| (iA ((b[pos] &&& (UInt8.ofNat 127)).toUInt64) (7 * i)),0,((pos + 1:Nat):Int)))) ->
      iter (fun s:UInt64×Int×Int=>fp F b s.1 s.2.1 s.2.2) (fuel + 1) (acc,((i:Nat):Int),((pos:Nat):Int))=some (.inr (UInt64.ofNat (acc.toNat + b[pos].toNat * 128 ^ i),0,((pos + 1:Nat):Int))):=fun h9 step=>by
     rw [iW (f:=fun s:UInt64×Int×Int=>fp F b s.1 s.2.1 s.2.2) (s:=(acc,((i:Nat):Int),((pos:Nat):Int))) step]
     obtain ⟨hacc,_⟩:=Wa (acc:=acc) (b:=b[pos]) (i:=i) (by omega) ha (fun h=>by have:=h9 h;omega)
     have hm:b[pos].toNat % 128=b[pos].toNat:=Nat.mod_eq_of_lt (by omega)
     rw [hm] at hacc
     rw [← hacc,UInt64.ofNat_toNat]
    have bad:fp F b acc ((i:Nat):Int) ((pos:Nat):Int)=some (.inr (.inr (UInt64.ofNat 0,3,((pos + 1:Nat):Int))))->∃ p,iter (fun s:UInt64×Int×Int=>fp F b s.1 s.2.1 s.2.2) (fuel + 1) (acc,((i:Nat):Int),((pos:Nat):Int))=some (.inr (UInt64.ofNat 0,3,p)):=fun step=>
     ⟨_,by rw [iW (f:=fun s:UInt64×Int×Int=>fp F b s.1 s.2.1 s.2.2) (s:=(acc,((i:Nat):Int),((pos:Nat):Int))) step]⟩
    have base:∀ z,(fp F b acc ((i:Nat):Int) ((pos:Nat):Int)=z) ↔ ((bif decide ((0:Int) < ((i:Nat):Int)) then (bif (b[pos] == (UInt8.ofNat 0)) then some (.inr (.inr (UInt64.ofNat 0,3,((pos + 1:Nat):Int)))) else (bif (((i:Nat):Int) == 9) then (bif decide (UInt8.ofNat 1 < b[pos]) then some (.inr (.inr (UInt64.ofNat 0,3,((pos + 1:Nat):Int)))) else some (.inr (.inr (acc ||| (iA ((b[pos] &&& (UInt8.ofNat 127)).toUInt64) (7 * i)),0,((pos + 1:Nat):Int))))) else some (.inr (.inr (acc ||| (iA ((b[pos] &&& (UInt8.ofNat 127)).toUInt64) (7 * i)),0,((pos + 1:Nat):Int)))))) else (bif (((i:Nat):Int) == 9) then (bif decide (UInt8.ofNat 1 < b[pos]) then some (.inr (.inr (UInt64.ofNat 0,3,((pos + 1:Nat):Int)))) else some (.inr (.inr (acc ||| (iA ((b[pos] &&& (UInt8.ofNat 127)).toUInt64) (7 * i)),0,((pos + 1:Nat):Int))))) else some (.inr (.inr (acc ||| (iA ((b[pos] &&& (UInt8.ofNat 127)).toUInt64) (7 * i)),0,((pos + 1:Nat):Int))))))=z):=fun z=>by
     simp only [fp,qU,h,decide_true,cond_true,e1,cond_false,hin,Option.bind_some,List.getElem?_eq_getElem hlt,hg,SY,decide_false,w2]
    have b0:(b[pos] == UInt8.ofNat 0)=decide (b[pos].toNat=0):=by
     rw [Bool.eq_iff_iff];simp only [beq_iff_eq,decide_eq_true_eq]
     exact ⟨fun h=>by rw [h];rfl,fun h=>UInt8.toNat_inj.1 (by rw [h];rfl)⟩
    have b1:decide (UInt8.ofNat 1 < b[pos])=decide (1 < b[pos].toNat):=rfl
    have i0:decide ((0:Int) < ((i:Nat):Int))=decide (0 < i):=by rw [Bool.eq_iff_iff];simp
    have i9:(((i:Nat):Int) == 9)=decide (i=9):=by rw [Bool.eq_iff_iff];simp;omega
    rw [b0,b1,i0,i9] at base
    by_cases c1:0 < i∧b[pos].toNat=0
    ·right
     rw [if_pos c1]
     exact ⟨rfl,.inr (bad ((base _).2 (by simp [c1.1,c1.2])))⟩
    ·rw [if_neg c1]
     by_cases c2:i=9∧1 < b[pos].toNat
     ·right
      rw [if_pos c2]
      have hz:¬ b[pos].toNat=0:=by omega
      exact ⟨rfl,.inr (bad ((base _).2 (by simp [c2.1,c2.2,hz])))⟩
     ·left
      rw [if_neg c2]
      refine ⟨_,_,rfl,good (fun h=>by omega) ((base _).2 ?_)⟩
      by_cases hi0:0 < i
      ·have hz:¬ b[pos].toNat=0:=fun h=>c1 ⟨hi0,h⟩
       by_cases qK:i=9
       ·have:¬ 1 < b[pos].toNat:=fun h=>c2 ⟨qK,h⟩
        simp [hi0,hz,qK,this]
       ·simp [hi0,hz,qK]
      ·have qK:¬ i=9:=by omega
       simp [hi0,qK]
theorem t90 {F:Nat} (hF:50 < F) (b:List UInt8) (hb:b.length < 1000000000) {pos:Nat} (hp:pos≤b.length) :
  (∃ v n,iM 0 (b.drop pos)=some (v,n)∧r9 F ((pos:Nat):Int) b=some (UInt64.ofNat v,0,((pos + n:Nat):Int))) ∨
  (iM 0 (b.drop pos)=none∧∃ p,r9 F ((pos:Nat):Int) b=some (UInt64.ofNat 0,3,p)):=by
 have z:((0:Nat):Int)=0:=rfl
 rcases Yv F b hb 10 0 F pos (UInt64.ofNat 0) (by omega) (by omega) (by decide) hp with ⟨v,n,h1,h2⟩ | ⟨h1,h2⟩
 ·left
  rw [z] at h2
  refine ⟨v,n,h1,?_⟩
  simp only [r9,zi]
  rw [h2]
  simp [bz]
 ·right
  rw [z] at h2
  refine ⟨h1,?_⟩
  rcases h2 with ⟨p,h2⟩ | ⟨p,h2⟩
  ·exact ⟨p,by simp only [r9,zi];rw [h2];rfl⟩
  ·exact ⟨p,by simp only [r9,zi];rw [h2];rfl⟩
end Go.Proofs.YtiahcmabcbpcpaaGreatDoor
