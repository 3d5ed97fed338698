/- The functions, each with its twin, and plain facts about them. -/
import Derived.Test.YthikoaamigiceaaGreatDoorOH1
namespace Go.Proofs.YthikoaamigiceaaGreatDoor
open Go.Tw
set_option linter.unusedSimpArgs false
set_option linter.unusedVariables false
def E70 (F:Nat):Ev:=⟨cfg,6,ctOf [(123,ct123 F),(122,ct122 F)],fun _=>[],ctOf [],fun _=>none,fun _=>none⟩
theorem cts70 (F:Nat):CtsOk Tryz.prog (E70 F):=cts_of (l:=[(123,ct123 F),(122,ct122 F)]) (l':=[]) rfl rfl ⟨⟨ok123 F,_,Tryz.func123,rfl,rfl⟩,⟨⟨ok122 F,_,Tryz.func122,rfl,rfl⟩,trivial⟩⟩ trivial
def T70c (F:Nat) (p0:Int) (p1:Int) (p2:Int) (p3:List UInt8) {β:Type} (k:Zs->Option β):Option β:=
 (Option.bind (T123 F p0 p1 p2 p3) fun z3=>(Option.bind (T122 F z3.1) fun z4=>(k (z4,z3.2.1,z3.2.2.1,z3.2.2.2))))
def T70 (F:Nat) (p0:Int) (p1:Int) (p2:Int) (p3:List UInt8):=T70c F p0 p1 p2 p3 some
def ct70 (F:Nat):Ct:=mkC 2 [(.pt 0 [])] [.blk 171 Qd,.row 5 .u8] [.i] [.blk 171 Qd,.row 5 .u8] (fun x y=>T70 F y.1.2.1 y.1.2.2.1 y.1.2.2.2.1 y.2.1) (fun x y (z:Int×Int×Int×Int)=>((z.1,()),(((),z.2.1,z.2.2.1,z.2.2.2,()),y.2.1,())))
theorem ok70 (F:Nat):Sound Tryz.prog cfg 70 (ct70 F):=
 mkC_ok (E:=E70 F) (lp:=[]) (code:=bodyOf Tryz.f70) Tryz.func70 rfl Tryz.ntmps70 rfl rfl cok (cts70 F) mixed trivial (by kernel_rfl) (fun x y k=>T70c F y.1.2.1 y.1.2.2.1 y.1.2.2.2.1 y.2.1 k) (fun _ _ _=>by simp only [T70,T70c,oA,oC,oS,oN,elimS_bind]) (fun _ _=>by kernel_rfl)
def E67 (F:Nat):Ev:=⟨cfg,17,ctOf [(70,ct70 F)],fun _=>[],ctOf [],fun _=>none,fun _=>none⟩
theorem cts67 (F:Nat):CtsOk Tryz.prog (E67 F):=cts_of (l:=[(70,ct70 F)]) (l':=[]) rfl rfl ⟨⟨ok70 F,_,Tryz.func70,rfl,rfl⟩,trivial⟩ trivial
def T67c (F:Nat) (p0:Int) (p1:Int) (p2:Int) (p3:List UInt8) {β:Type} (k:(Int×Int×Int×Int×Int)->Option β):Option β:=
 (Option.bind (T70 F p0 p1 p2 p3) fun z3=>(Option.bind (T70 F z3.2.1 z3.2.2.1 z3.2.2.2 p3) fun z4=>(k (z4.2.1,z4.2.2.1,z4.2.2.2,z3.1,z4.1))))
def T67 (F:Nat) (p0:Int) (p1:Int) (p2:Int) (p3:List UInt8):=T67c F p0 p1 p2 p3 some
def ct67 (F:Nat):Ct:=mkC 4 [(.pt 0 []),(.ps 1 2)] [.blk 171 Qe,.blk 111 (.pr (.pt 3 [0]) (.pr (.pt 3 [1]) .un)),.row 5 .u8,.blk 27 Qk] [] [.blk 171 Qe,.blk 111 (.pr (.pt 3 [0]) (.pr (.pt 3 [1]) .un)),.row 5 .u8,.blk 27 Qk] (fun x y=>T67 F y.1.2.1 y.1.2.2.1 y.1.2.2.2.1 y.2.2.1) (fun x y (z:Int×Int×Int×Int×Int)=>((),(((),z.1,z.2.1,z.2.2.1,()),((),(),()),y.2.2.1,(z.2.2.2.1,z.2.2.2.2,(),(),(),(),()),())))
theorem ok67 (F:Nat):Sound Tryz.prog cfg 67 (ct67 F):=
 mkC_ok (E:=E67 F) (lp:=[]) (code:=bodyOf Tryz.f67) Tryz.func67 rfl Tryz.ntmps67 rfl rfl cok (cts67 F) mixed trivial (by kernel_rfl) (fun x y k=>T67c F y.1.2.1 y.1.2.2.1 y.1.2.2.2.1 y.2.2.1 k) (fun _ _ _=>by simp only [T67,T67c,oA,oC,oS,oN,elimS_bind]) (fun _ _=>by kernel_rfl)
def E159 (F:Nat):Ev:=⟨cfg,9,ctOf [(160,ct160 F)],fun _=>[],ctOf [],fun _=>none,fun _=>none⟩
theorem cts159 (F:Nat):CtsOk Tryz.prog (E159 F):=cts_of (l:=[(160,ct160 F)]) (l':=[]) rfl rfl ⟨⟨ok160 F,_,Tryz.func160,rfl,rfl⟩,trivial⟩ trivial
def T159c (F:Nat) (p0:Int) (p1:Int) (p4:List UInt8) {β:Type} (k:(Int×Int×Int)->Option β):Option β:=
 (Option.bind (T160 F p0 p1 p4) fun z2=>(k (z2.1,z2.2.1,z2.2.2)))
def T159 (F:Nat) (p0:Int) (p1:Int) (p4:List UInt8):=T159c F p0 p1 p4 some
def ct159 (F:Nat):Ct:=mkC 3 [(.pt 0 []),(.re .i)] [.blk 108 Qz,.blk 171 Qe,.row 5 .u8] [.i,.i] [.blk 108 Qz,.blk 171 Qe,.row 5 .u8] (fun x y=>T159 F x.2.1 y.2.1.2.1 y.2.2.1) (fun x y (z:Int×Int×Int)=>((z.1,z.2.1,()),((),((),z.2.2,y.2.1.2.2.1,y.2.1.2.2.2.1,()),y.2.2.1,())))
theorem ok159 (F:Nat):Sound Tryz.prog cfg 159 (ct159 F):=
 mkC_ok (E:=E159 F) (lp:=[]) (code:=bodyOf Tryz.f159) Tryz.func159 rfl Tryz.ntmps159 rfl rfl cok (cts159 F) mixed trivial (by kernel_rfl) (fun x y k=>T159c F x.2.1 y.2.1.2.1 y.2.2.1 k) (fun _ _ _=>by simp only [T159,T159c,oA,oC,oS,oN,elimS_bind]) (fun _ _=>by kernel_rfl)
def E196 (F:Nat):Ev:=⟨cfg,18,ctOf [],fun _=>[],ctOf [],fun _=>none,fun _=>none⟩
theorem cts196 (F:Nat):CtsOk Tryz.prog (E196 F):=cts_of (l:=[]) (l':=[]) rfl rfl trivial trivial
def T196c (F:Nat) (p0:Int) (p1:Int) (p2:Int) (p4:Int) {β:Type} (k:(Int×Int)->Option β):Option β:=
 (bif (p4 != (0:Int)) then (k ((0:Int),p0)) else (k (p1,p2)))
def T196 (F:Nat) (p0:Int) (p1:Int) (p2:Int) (p4:Int):=T196c F p0 p1 p2 p4 some
def ct196 (F:Nat):Ct:=mkC 4 [(.re .i),(.pt 0 []),(.pt 1 [])] [.blk 108 Qw,.blk 3 .i,.blk 171 Qh,.row 5 .u8] [] [.blk 108 Qw,.blk 3 .i,.blk 171 Qh,.row 5 .u8] (fun x y=>T196 F x.1 y.2.1 y.2.2.1.2.1 y.2.2.1.2.2.2.1) (fun x y (z:Int×Int)=>((),((),z.1,((),z.2,x.1,y.2.2.1.2.2.2.1,()),y.2.2.2.1,())))
theorem okd196 (F:Nat):SoundK Tryz.prog cfg true 196 (ct196 F):=
 mkC_okK (E:=E196 F) true (fun _ _=>rfl) (lp:=[]) (code:=bodyOf Tryz.f196) Tryz.func196 rfl Tryz.ntmps196 rfl rfl cok (cts196 F) mixed trivial (by kernel_rfl) (fun x y k=>T196c F x.1 y.2.1 y.2.2.1.2.1 y.2.2.1.2.2.2.1 k) (fun _ _ _=>by simp only [T196,T196c,oA,oC,oS,oN,elimS_bind]) (fun _ _=>by kernel_rfl)
def ord158:Nat->List (Tag×Nat)
 | 5=>[(.c,0),(.p,1),(.w,2),(.p,3),(.p,4),(.p,5),(.w,6),(.p,7),(.p,8),(.b,9)]
 | _=>[]
def E158 (F:Nat):Ev:=⟨cfg,26,ctOf [(159,ct159 F)],ord158,ctOf [(196,ct196 F)],fun _=>none,fun _=>none⟩
theorem cts158 (F:Nat):CtsOk Tryz.prog (E158 F):=cts_of (l:=[(159,ct159 F)]) (l':=[(196,ct196 F)]) rfl rfl ⟨⟨ok159 F,_,Tryz.func159,rfl,rfl⟩,trivial⟩ ⟨⟨okd196 F,_,Tryz.func196,rfl,rfl⟩,trivial⟩
def T158c (F:Nat) (p0:Int) (p1:Int) (p2:Int) (p3:Int) (p4:List UInt8) {β:Type} (k:Zs->Option β):Option β:=
 (bif (p2 != (0:Int)) then (k ((0:Int),p0,p1,p2)) else (Option.bind (T159 F p3 p0 p4) fun z3=>(Option.bind (T196 F p0 z3.1 z3.2.2 z3.2.1) fun z4=>(k (z4.1,z4.2,p0,z3.2.1)))))
def T158 (F:Nat) (p0:Int) (p1:Int) (p2:Int) (p3:Int) (p4:List UInt8):=T158c F p0 p1 p2 p3 p4 some
def ct158 (F:Nat):Ct:=mkC 4 [(.pt 0 []),(.fn 159 .un (.pr (.pt 1 []) (.pr (.pt 2 []) .un)))] [.blk 171 Qh,.blk 108 Qq,.blk 3 .i,.row 5 .u8] [.i] [.blk 171 Qh,.blk 108 Qq,.blk 3 .i,.row 5 .u8] (fun x y=>T158 F y.1.2.1 y.1.2.2.1 y.1.2.2.2.1 y.2.2.1 y.2.2.2.1) (fun x y (z:Int×Int×Int×Int)=>((z.1,()),(((),z.2.1,z.2.2.1,z.2.2.2,()),(),y.2.2.1,y.2.2.2.1,())))
theorem ok158 (F:Nat):Sound Tryz.prog cfg 158 (ct158 F):=
 mkC_ok (E:=E158 F) (lp:=[]) (code:=bodyOf Tryz.f158) Tryz.func158 rfl Tryz.ntmps158 rfl rfl cok (cts158 F) mixed trivial (by kernel_rfl) (fun x y k=>T158c F y.1.2.1 y.1.2.2.1 y.1.2.2.2.1 y.2.2.1 y.2.2.2.1 k) (fun _ _ _=>by simp only [T158,T158c,oA,oC,oS,oN,elimS_bind]) (fun _ _=>by kernel_rfl)
def E121 (F:Nat):Ev:=⟨cfg,8,ctOf [(158,ct158 F)],fun _=>[],ctOf [],fun _=>none,fun _=>none⟩
theorem cts121 (F:Nat):CtsOk Tryz.prog (E121 F):=cts_of (l:=[(158,ct158 F)]) (l':=[]) rfl rfl ⟨⟨ok158 F,_,Tryz.func158,rfl,rfl⟩,trivial⟩ trivial
def T121c (F:Nat) (p0:Int) (p1:Int) (p2:Int) (p3:Int) (p4:List UInt8) {β:Type} (k:Zs->Option β):Option β:=
 (Option.bind (T158 F p1 p2 p3 p0 p4) fun z2=>(k (z2.1,z2.2.1,z2.2.2.1,z2.2.2.2)))
def T121 (F:Nat) (p0:Int) (p1:Int) (p2:Int) (p3:Int) (p4:List UInt8):=T121c F p0 p1 p2 p3 p4 some
def ct121 (F:Nat):Ct:=mkC 2 [(.pt 0 []),.i] [.blk 171 Qd,.row 5 .u8] [.i] [.blk 171 Qd,.row 5 .u8] (fun x y=>T121 F x.2.1 y.1.2.1 y.1.2.2.1 y.1.2.2.2.1 y.2.1) (fun x y (z:Int×Int×Int×Int)=>((z.1,()),(((),z.2.1,z.2.2.1,z.2.2.2,()),y.2.1,())))
theorem ok121 (F:Nat):Sound Tryz.prog cfg 121 (ct121 F):=
 mkC_ok (E:=E121 F) (lp:=[]) (code:=bodyOf Tryz.f121) Tryz.func121 rfl Tryz.ntmps121 rfl rfl cok (cts121 F) mixed trivial (by kernel_rfl) (fun x y k=>T121c F x.2.1 y.1.2.1 y.1.2.2.1 y.1.2.2.2.1 y.2.1 k) (fun _ _ _=>by simp only [T121,T121c,oA,oC,oS,oN,elimS_bind]) (fun _ _=>by kernel_rfl)
def E69 (F:Nat):Ev:=⟨cfg,7,ctOf [(70,ct70 F)],fun _=>[],ctOf [],fun _=>none,fun _=>none⟩
theorem cts69 (F:Nat):CtsOk Tryz.prog (E69 F):=cts_of (l:=[(70,ct70 F)]) (l':=[]) rfl rfl ⟨⟨ok70 F,_,Tryz.func70,rfl,rfl⟩,trivial⟩ trivial
def T69c (F:Nat) (p1:Int) (p2:Int) (p3:Int) (p4:List UInt8) {β:Type} (k:Zs->Option β):Option β:=
 (Option.bind (T70 F p1 p2 p3 p4) fun z2=>(k (z2.1,z2.2.1,z2.2.2.1,z2.2.2.2)))
def T69 (F:Nat) (p1:Int) (p2:Int) (p3:Int) (p4:List UInt8):=T69c F p1 p2 p3 p4 some
def ct69 (F:Nat):Ct:=mkC 4 [(.pt 0 []),(.pt 1 [])] [.blk 3 .i,.blk 108 Qw,.blk 171 Qh,.row 5 .u8] [] [.blk 3 .i,.blk 108 Qw,.blk 171 Qh,.row 5 .u8] (fun x y=>T69 F y.2.2.1.2.1 y.2.2.1.2.2.1 y.2.2.1.2.2.2.1 y.2.2.2.1) (fun x y (z:Int×Int×Int×Int)=>((),(z.1,(),((),z.2.1,z.2.2.1,z.2.2.2,()),y.2.2.2.1,())))
theorem ok69 (F:Nat):Sound Tryz.prog cfg 69 (ct69 F):=
 mkC_ok (E:=E69 F) (lp:=[]) (code:=bodyOf Tryz.f69) Tryz.func69 rfl Tryz.ntmps69 rfl rfl cok (cts69 F) mixed trivial (by kernel_rfl) (fun x y k=>T69c F y.2.2.1.2.1 y.2.2.1.2.2.1 y.2.2.1.2.2.2.1 y.2.2.2.1 k) (fun _ _ _=>by simp only [T69,T69c,oA,oC,oS,oN,elimS_bind]) (fun _ _=>by kernel_rfl)
def E68 (F:Nat):Ev:=⟨cfg,22,ctOf [(121,ct121 F),(69,ct69 F)],fun _=>[],ctOf [],fun _=>none,fun _=>none⟩
theorem cts68 (F:Nat):CtsOk Tryz.prog (E68 F):=cts_of (l:=[(121,ct121 F),(69,ct69 F)]) (l':=[]) rfl rfl ⟨⟨ok121 F,_,Tryz.func121,rfl,rfl⟩,⟨⟨ok69 F,_,Tryz.func69,rfl,rfl⟩,trivial⟩⟩ trivial
def L68_2c (F:Nat) (y31:Int) (y36:List UInt8) (y32:Int) (y33:Int) (y34:Int) (y35:Int) (y37:List Int) {β:Type} (kA:(Int×Int×Int×Int×Zn)->Option β) (kO:(Int×Int×Int×Zn)->Option β):Option β:=
 (bif (decide (y32 < y31)) then (Option.bind (T69 F y33 y34 y35 y36) fun z40=>(Option.bind (gapp y37 ([z40.1]:List Int)) fun x41=>(kA ((w64 (y32 + (1:Int))),z40.2.1,z40.2.2.1,z40.2.2.2,x41)))) else (kO (y33,y34,y35,y37)))
def L68_2 (F:Nat) (y31:Int) (y36:List UInt8) (y32:Int) (y33:Int) (y34:Int) (y35:Int) (y37:List Int):=L68_2c F y31 y36 y32 y33 y34 y35 y37 (fun s=>some (Sum.inl s)) (fun z=>some (Sum.inr z))
def lc68_2 (F:Nat):Lc:=mkL [2,7,11,12] [(.fn 69 .un (.pr (.pt 1 []) .un)),(.rw 3),.i,.i] [.blk 171 Qe,.blk 108 Qq,.row 5 .u8,.row 3 .i] [7] [(.rw 3)] [.blk 171 Qe,.blk 108 Qq,.row 5 .u8,.row 3 .i] F (fun x y (s:Int×Int×Int×Int×Zn)=>L68_2 F x.2.2.1 y.2.2.1 s.1 s.2.1 s.2.2.1 s.2.2.2.1 s.2.2.2.2) (fun x y=>(x.2.2.2.1,y.1.2.1,y.1.2.2.1,y.1.2.2.2.1,y.2.2.2.1)) (fun x y (z:Int×Int×Int×Zn)=>(((),()),(((),z.1,z.2.1,z.2.2.1,()),(),y.2.2.1,z.2.2.2,())))
theorem lo68_2 (F:Nat):LcOk Tryz.prog (E68 F) 3 (lc68_2 F) (cAt (bodyOf Tryz.f68) [1,0,1,1]):=
 mkL_ok (lp:=[]) (id:=0) (b:=cAt (bodyOf Tryz.f68) (0 :: 0 :: [1,0,1,1])) cok (cts68 F) mixed trivial (by kernel_rfl) (by kernel_rfl) (fun x y s=>(((),((),())),(),x.2.2.1,s.1,())) (fun x y s=>(((),s.2.1,s.2.2.1,s.2.2.2.1,()),(),y.2.2.1,s.2.2.2.2,())) (fun x y=>rfl) (fun x y=>rfl) (fun x y s kA kO=>L68_2c F x.2.2.1 y.2.2.1 s.1 s.2.1 s.2.2.1 s.2.2.2.1 s.2.2.2.2 kA kO) (fun _ _ _ _ _=>by simp only [L68_2,L68_2c,oA,oC,oS,oN,elimS_l,elimS_r,elimS_bind]) (fun _ _ _=>by kernel_rfl)
def T68c (F:Nat) (p0:Int) (p1:Int) (p2:Int) (p3:Int) (p4:List UInt8) {β:Type} (k:(Int×Int×Int×Zn)->Option β):Option β:=
 (Option.bind (T121 F p0 p1 p2 p3 p4) fun z22=>(Option.bind (iter (fun s=>L68_2 F z22.1 p4 s.1 s.2.1 s.2.2.1 s.2.2.2.1 s.2.2.2.2) F ((0:Int),z22.2.1,z22.2.2.1,z22.2.2.2,([]:List Int))) fun z42=>(k (z42.1,z42.2.1,z42.2.2.1,z42.2.2.2))))
def T68 (F:Nat) (p0:Int) (p1:Int) (p2:Int) (p3:Int) (p4:List UInt8):=T68c F p0 p1 p2 p3 p4 some
def ct68 (F:Nat):Ct:=mkC 3 [(.pt 0 []),.i,(.fn 69 .un (.pr (.pt 1 []) .un))] [.blk 171 Qe,.blk 108 Qq,.row 5 .u8] [(.rw 3)] [.blk 171 Qe,.blk 108 Qq,.row 5 .u8,.row 3 .i] (fun x y=>T68 F x.2.1 y.1.2.1 y.1.2.2.1 y.1.2.2.2.1 y.2.2.1) (fun x y (z:Int×Int×Int×Zn)=>(((),()),(((),z.1,z.2.1,z.2.2.1,()),(),y.2.2.1,z.2.2.2,())))
theorem ok68 (F:Nat):Sound Tryz.prog cfg 68 (ct68 F):=
 mkC_ok (E:=E68 F) (lp:=[([1,0,1,1],lc68_2 F)]) (code:=bodyOf Tryz.f68) Tryz.func68 rfl Tryz.ntmps68 rfl rfl cok (cts68 F) mixed ⟨lo68_2 F,trivial⟩ (by kernel_rfl) (fun x y k=>T68c F x.2.1 y.1.2.1 y.1.2.2.1 y.1.2.2.2.1 y.2.2.1 k) (fun _ _ _=>by simp only [T68,T68c,oA,oC,oS,oN,elimS_bind]) (fun _ _=>by kernel_rfl)
def ord67x1:Nat->List (Tag×Nat)
 | _=>[]
def al67x1:Nat->Option Nat
 | _=>none
def ms67x1:Nat->Option (List (Option Tag×Nat×List Nat))
 | _=>none
def E67x1 (F:Nat):Ev:=⟨cfg,17,ctOf [(70,ct70 F)],ord67x1,ctOf [],al67x1,ms67x1⟩
theorem cts67x1 (F:Nat):CtsOk Tryz.prog (E67x1 F):=cts_of (l:=[(70,ct70 F)]) (l':=[]) rfl rfl ⟨⟨ok70 F,_,Tryz.func70,rfl,rfl⟩,trivial⟩ trivial
def T67x1c (F:Nat) (p0:Int) (p1:Int) (p2:Int) (p3:List UInt8) {β:Type} (k:(Int×Int×Int×Int×Int×Int)->Option β):Option β:=
 (Option.bind (T70 F p0 p1 p2 p3) fun z4=>(Option.bind (T70 F z4.2.1 z4.2.2.1 z4.2.2.2 p3) fun z5=>(Option.bind (T70 F z5.2.1 z5.2.2.1 z5.2.2.2 p3) fun z6=>(k (z6.2.1,z6.2.2.1,z6.2.2.2,z4.1,z5.1,z6.1)))))
def T67x1 (F:Nat) (p0:Int) (p1:Int) (p2:Int) (p3:List UInt8):Option (Int×Int×Int×Int×Int×Int):=T67x1c F p0 p1 p2 p3 some
theorem T67x1n (F:Nat) (p0:Int) (p1:Int) (p2:Int) (p3:List UInt8) {β:Type} (k:(Int×Int×Int×Int×Int×Int)->Option β):T67x1c F p0 p1 p2 p3 k=(T67x1 F p0 p1 p2 p3).bind k:=by
 simp only [T67x1,T67x1c,Option.bind_assoc,cond_bind,Option.bind_some,Option.bind_none,elimS_bind]
abbrev cA67x1:List Sh:=[(.pt 0 []),(.ps 1 3)]
abbrev cB67x1:List Sh:=[]
abbrev cT67x1:List TSh:=[.blk 171 (.pr (.rw 2) (.pr .i (.pr .i (.pr .i .un)))),.blk 111 (.pr (.pt 3 [0]) (.pr (.pt 3 [1]) (.pr (.pt 3 [2]) .un))),.row 5 .u8,.blk 90 (.pr .i (.pr .i (.pr .i (.pr (.pr .str (.pr .i (.pr .i .un))) (.pr .i (.pr .i (.pr .str (.pr .bo .un))))))))]
abbrev cU67x1:List TSh:=[.blk 171 (.pr (.rw 2) (.pr .i (.pr .i (.pr .i .un)))),.blk 111 (.pr (.pt 3 [0]) (.pr (.pt 3 [1]) (.pr (.pt 3 [2]) .un))),.row 5 .u8,.blk 90 (.pr .i (.pr .i (.pr .i (.pr (.pr .str (.pr .i (.pr .i .un))) (.pr .i (.pr .i (.pr .str (.pr .bo .un))))))))]
def ct67x1 (F:Nat):Ct:=mkC 4 cA67x1 cT67x1 cB67x1 cU67x1 (fun x y=>T67x1 F y.1.2.1 y.1.2.2.1 y.1.2.2.2.1 y.2.2.1) (fun x y (z:Int×Int×Int×Int×Int×Int)=>((),(((),z.1,z.2.1,z.2.2.1,()),((),(),(),()),y.2.2.1,(z.2.2.2.1,z.2.2.2.2.1,z.2.2.2.2.2,(y.2.2.2.1.2.2.2.1.1,y.2.2.2.1.2.2.2.1.2.1,y.2.2.2.1.2.2.2.1.2.2.1,()),y.2.2.2.1.2.2.2.2.1,y.2.2.2.1.2.2.2.2.2.1,y.2.2.2.1.2.2.2.2.2.2.1,y.2.2.2.1.2.2.2.2.2.2.2.1,()),())))
theorem eq67x1 (F:Nat) (x:dens cA67x1) (y:tdens cT67x1):sev (E67x1 F) 4 [] (bodyOf Tryz.f67) [] (mkSt (rng 2) cA67x1 cT67x1 x y) (kFn (E67x1 F) 4 Tryz.f67.results.toList cB67x1 cU67x1 fun p q=>some (p,q)) =
  T67x1c F y.1.2.1 y.1.2.2.1 y.1.2.2.2.1 y.2.2.1 (fun z=>some ((),(((),z.1,z.2.1,z.2.2.1,()),((),(),(),()),y.2.2.1,(z.2.2.2.1,z.2.2.2.2.1,z.2.2.2.2.2,(y.2.2.2.1.2.2.2.1.1,y.2.2.2.1.2.2.2.1.2.1,y.2.2.2.1.2.2.2.1.2.2.1,()),y.2.2.2.1.2.2.2.2.1,y.2.2.2.1.2.2.2.2.2.1,y.2.2.2.1.2.2.2.2.2.2.1,y.2.2.2.1.2.2.2.2.2.2.2.1,()),()))):=by kernel_rfl
theorem ok67x1 (F:Nat):Sound Tryz.prog cfg 67 (ct67x1 F):=
 mkC_ok (E:=E67x1 F) (lp:=[]) (code:=bodyOf Tryz.f67) Tryz.func67 rfl Tryz.ntmps67 rfl rfl cok (cts67x1 F) mixed trivial (by kernel_rfl) (fun x y k=>T67x1c F y.1.2.1 y.1.2.2.1 y.1.2.2.2.1 y.2.2.1 k) (fun x y k=>T67x1n F y.1.2.1 y.1.2.2.1 y.1.2.2.2.1 y.2.2.1 k) (eq67x1 F)
def E129 (F:Nat):Ev:=⟨cfg,13,ctOf [(130,ct130 F)],fun _=>[],ctOf [],fun _=>none,fun _=>none⟩
theorem cts129 (F:Nat):CtsOk Tryz.prog (E129 F):=cts_of (l:=[(130,ct130 F)]) (l':=[]) rfl rfl ⟨⟨ok130 F,_,Tryz.func130,rfl,rfl⟩,trivial⟩ trivial
def T129c (F:Nat) (p0:Int) (p3:List UInt8) {β:Type} (k:(Zb×Int×Int)->Option β):Option β:=
 (Option.bind (T130 F (32:Int) p0 p3) fun z2=>(k (((p3.drop z2.1.1).take (z2.1.2 - z2.1.1)),z2.2.1,z2.2.2)))
def T129 (F:Nat) (p0:Int) (p3:List UInt8):=T129c F p0 p3 some
def ct129 (F:Nat):Ct:=mkC 3 [(.pt 0 [])] [.blk 108 Qz,.blk 171 Qe,.row 5 .u8] [.str,.i] [.blk 108 Qz,.blk 171 Qe,.row 5 .u8] (fun x y=>T129 F y.2.1.2.1 y.2.2.1) (fun x y (z:Zb×Int×Int)=>((z.1,z.2.1,()),((),((),z.2.2,y.2.1.2.2.1,y.2.1.2.2.2.1,()),y.2.2.1,())))
theorem ok129 (F:Nat):Sound Tryz.prog cfg 129 (ct129 F):=
 mkC_ok (E:=E129 F) (lp:=[]) (code:=bodyOf Tryz.f129) Tryz.func129 rfl Tryz.ntmps129 rfl rfl cok (cts129 F) mixed trivial (by kernel_rfl) (fun x y k=>T129c F y.2.1.2.1 y.2.2.1 k) (fun _ _ _=>by simp only [T129,T129c,oA,oC,oS,oN,elimS_bind]) (fun _ _=>by kernel_rfl)
def E163 (F:Nat):Ev:=⟨cfg,18,ctOf [],fun _=>[],ctOf [],fun _=>none,fun _=>none⟩
theorem cts163 (F:Nat):CtsOk Tryz.prog (E163 F):=cts_of (l:=[]) (l':=[]) rfl rfl trivial trivial
def T163c (F:Nat) (p0:Int) (p1:List UInt8) (p2:Int) (p4:Int) {β:Type} (k:(Zb×Int)->Option β):Option β:=
 (bif (p4 != (0:Int)) then (k (([]:List UInt8),p0)) else (k (p1,p2)))
def T163 (F:Nat) (p0:Int) (p1:List UInt8) (p2:Int) (p4:Int):=T163c F p0 p1 p2 p4 some
def ct163 (F:Nat):Ct:=mkC 4 [(.re .i),(.pt 0 []),(.pt 1 [])] [.blk 108 Qw,.blk 9 .str,.blk 171 Qh,.row 5 .u8] [] [.blk 108 Qw,.blk 9 .str,.blk 171 Qh,.row 5 .u8] (fun x y=>T163 F x.1 y.2.1 y.2.2.1.2.1 y.2.2.1.2.2.2.1) (fun x y (z:Zb×Int)=>((),((),z.1,((),z.2,x.1,y.2.2.1.2.2.2.1,()),y.2.2.2.1,())))
theorem okd163 (F:Nat):SoundK Tryz.prog cfg true 163 (ct163 F):=
 mkC_okK (E:=E163 F) true (fun _ _=>rfl) (lp:=[]) (code:=bodyOf Tryz.f163) Tryz.func163 rfl Tryz.ntmps163 rfl rfl cok (cts163 F) mixed trivial (by kernel_rfl) (fun x y k=>T163c F x.1 y.2.1 y.2.2.1.2.1 y.2.2.1.2.2.2.1 k) (fun _ _ _=>by simp only [T163,T163c,oA,oC,oS,oN,elimS_bind]) (fun _ _=>by kernel_rfl)
def ord124:Nat->List (Tag×Nat)
 | 5=>[(.c,0),(.p,1),(.w,2),(.p,3),(.p,4),(.p,5),(.w,6),(.p,7),(.p,8),(.b,9)]
 | _=>[]
def E124 (F:Nat):Ev:=⟨cfg,26,ctOf [(129,ct129 F)],ord124,ctOf [(163,ct163 F)],fun _=>none,fun _=>none⟩
theorem cts124 (F:Nat):CtsOk Tryz.prog (E124 F):=cts_of (l:=[(129,ct129 F)]) (l':=[(163,ct163 F)]) rfl rfl ⟨⟨ok129 F,_,Tryz.func129,rfl,rfl⟩,trivial⟩ ⟨⟨okd163 F,_,Tryz.func163,rfl,rfl⟩,trivial⟩
def T124c (F:Nat) (p0:Int) (p1:Int) (p2:Int) (p3:List UInt8) {β:Type} (k:(Zb×Int×Int×Int)->Option β):Option β:=
 (bif (p2 != (0:Int)) then (k (([]:List UInt8),p0,p1,p2)) else (Option.bind (T129 F p0 p3) fun z3=>(Option.bind (T163 F p0 z3.1 z3.2.2 z3.2.1) fun z4=>(k (z4.1,z4.2,p0,z3.2.1)))))
def T124 (F:Nat) (p0:Int) (p1:Int) (p2:Int) (p3:List UInt8):=T124c F p0 p1 p2 p3 some
def ct124 (F:Nat):Ct:=mkC 3 [(.pt 0 []),(.fn 129 .un (.pr (.pt 1 []) .un))] [.blk 171 Qe,.blk 108 Qq,.row 5 .u8] [.str] [.blk 171 Qe,.blk 108 Qq,.row 5 .u8] (fun x y=>T124 F y.1.2.1 y.1.2.2.1 y.1.2.2.2.1 y.2.2.1) (fun x y (z:Zb×Int×Int×Int)=>((z.1,()),(((),z.2.1,z.2.2.1,z.2.2.2,()),(),y.2.2.1,())))
theorem ok124 (F:Nat):Sound Tryz.prog cfg 124 (ct124 F):=
 mkC_ok (E:=E124 F) (lp:=[]) (code:=bodyOf Tryz.f124) Tryz.func124 rfl Tryz.ntmps124 rfl rfl cok (cts124 F) mixed trivial (by kernel_rfl) (fun x y k=>T124c F y.1.2.1 y.1.2.2.1 y.1.2.2.2.1 y.2.2.1 k) (fun _ _ _=>by simp only [T124,T124c,oA,oC,oS,oN,elimS_bind]) (fun _ _=>by kernel_rfl)
def E79 (F:Nat):Ev:=⟨cfg,6,ctOf [(124,ct124 F)],fun _=>[],ctOf [],fun _=>none,fun _=>none⟩
theorem cts79 (F:Nat):CtsOk Tryz.prog (E79 F):=cts_of (l:=[(124,ct124 F)]) (l':=[]) rfl rfl ⟨⟨ok124 F,_,Tryz.func124,rfl,rfl⟩,trivial⟩ trivial
def T79c (F:Nat) (p0:Int) (p1:Int) (p2:Int) (p3:List UInt8) {β:Type} (k:(Zb×Int×Int×Int)->Option β):Option β:=
 (Option.bind (T124 F p0 p1 p2 p3) fun z2=>(k (z2.1,z2.2.1,z2.2.2.1,z2.2.2.2)))
def T79 (F:Nat) (p0:Int) (p1:Int) (p2:Int) (p3:List UInt8):=T79c F p0 p1 p2 p3 some
def ct79 (F:Nat):Ct:=mkC 2 [(.pt 0 [])] [.blk 171 Qd,.row 5 .u8] [.str] [.blk 171 Qd,.row 5 .u8] (fun x y=>T79 F y.1.2.1 y.1.2.2.1 y.1.2.2.2.1 y.2.1) (fun x y (z:Zb×Int×Int×Int)=>((z.1,()),(((),z.2.1,z.2.2.1,z.2.2.2,()),y.2.1,())))
theorem ok79 (F:Nat):Sound Tryz.prog cfg 79 (ct79 F):=
 mkC_ok (E:=E79 F) (lp:=[]) (code:=bodyOf Tryz.f79) Tryz.func79 rfl Tryz.ntmps79 rfl rfl cok (cts79 F) mixed trivial (by kernel_rfl) (fun x y k=>T79c F y.1.2.1 y.1.2.2.1 y.1.2.2.2.1 y.2.1 k) (fun _ _ _=>by simp only [T79,T79c,oA,oC,oS,oN,elimS_bind]) (fun _ _=>by kernel_rfl)
def ord67x2:Nat->List (Tag×Nat)
 | _=>[]
def al67x2:Nat->Option Nat
 | _=>none
def ms67x2:Nat->Option (List (Option Tag×Nat×List Nat))
 | _=>none
def E67x2 (F:Nat):Ev:=⟨cfg,17,ctOf [(70,ct70 F)],ord67x2,ctOf [],al67x2,ms67x2⟩
theorem cts67x2 (F:Nat):CtsOk Tryz.prog (E67x2 F):=cts_of (l:=[(70,ct70 F)]) (l':=[]) rfl rfl ⟨⟨ok70 F,_,Tryz.func70,rfl,rfl⟩,trivial⟩ trivial
def T67x2c (F:Nat) (p0:Int) (p1:Int) (p2:Int) (p3:List UInt8) {β:Type} (k:(Int×Int×Int×Int×Int)->Option β):Option β:=
 (Option.bind (T70 F p0 p1 p2 p3) fun z3=>(Option.bind (T70 F z3.2.1 z3.2.2.1 z3.2.2.2 p3) fun z4=>(k (z4.2.1,z4.2.2.1,z4.2.2.2,z3.1,z4.1))))
def T67x2 (F:Nat) (p0:Int) (p1:Int) (p2:Int) (p3:List UInt8):Option (Int×Int×Int×Int×Int):=T67x2c F p0 p1 p2 p3 some
theorem T67x2n (F:Nat) (p0:Int) (p1:Int) (p2:Int) (p3:List UInt8) {β:Type} (k:(Int×Int×Int×Int×Int)->Option β):T67x2c F p0 p1 p2 p3 k=(T67x2 F p0 p1 p2 p3).bind k:=by
 simp only [T67x2,T67x2c,Option.bind_assoc,cond_bind,Option.bind_some,Option.bind_none,elimS_bind]
abbrev cA67x2:List Sh:=[(.pt 0 []),(.ps 1 2)]
abbrev cB67x2:List Sh:=[]
abbrev cT67x2:List TSh:=[.blk 171 (.pr (.rw 2) (.pr .i (.pr .i (.pr .i .un)))),.blk 111 (.pr (.pt 3 [3,1]) (.pr (.pt 3 [3,2]) .un)),.row 5 .u8,.blk 90 (.pr .i (.pr .i (.pr .i (.pr (.pr .str (.pr .i (.pr .i .un))) (.pr .i (.pr .i (.pr .str (.pr .bo .un))))))))]
abbrev cU67x2:List TSh:=[.blk 171 (.pr (.rw 2) (.pr .i (.pr .i (.pr .i .un)))),.blk 111 (.pr (.pt 3 [3,1]) (.pr (.pt 3 [3,2]) .un)),.row 5 .u8,.blk 90 (.pr .i (.pr .i (.pr .i (.pr (.pr .str (.pr .i (.pr .i .un))) (.pr .i (.pr .i (.pr .str (.pr .bo .un))))))))]
def ct67x2 (F:Nat):Ct:=mkC 4 cA67x2 cT67x2 cB67x2 cU67x2 (fun x y=>T67x2 F y.1.2.1 y.1.2.2.1 y.1.2.2.2.1 y.2.2.1) (fun x y (z:Int×Int×Int×Int×Int)=>((),(((),z.1,z.2.1,z.2.2.1,()),((),(),()),y.2.2.1,(y.2.2.2.1.1,y.2.2.2.1.2.1,y.2.2.2.1.2.2.1,(y.2.2.2.1.2.2.2.1.1,z.2.2.2.1,z.2.2.2.2,()),y.2.2.2.1.2.2.2.2.1,y.2.2.2.1.2.2.2.2.2.1,y.2.2.2.1.2.2.2.2.2.2.1,y.2.2.2.1.2.2.2.2.2.2.2.1,()),())))
theorem eq67x2 (F:Nat) (x:dens cA67x2) (y:tdens cT67x2):sev (E67x2 F) 4 [] (bodyOf Tryz.f67) [] (mkSt (rng 2) cA67x2 cT67x2 x y) (kFn (E67x2 F) 4 Tryz.f67.results.toList cB67x2 cU67x2 fun p q=>some (p,q)) =
  T67x2c F y.1.2.1 y.1.2.2.1 y.1.2.2.2.1 y.2.2.1 (fun z=>some ((),(((),z.1,z.2.1,z.2.2.1,()),((),(),()),y.2.2.1,(y.2.2.2.1.1,y.2.2.2.1.2.1,y.2.2.2.1.2.2.1,(y.2.2.2.1.2.2.2.1.1,z.2.2.2.1,z.2.2.2.2,()),y.2.2.2.1.2.2.2.2.1,y.2.2.2.1.2.2.2.2.2.1,y.2.2.2.1.2.2.2.2.2.2.1,y.2.2.2.1.2.2.2.2.2.2.2.1,()),()))):=by kernel_rfl
theorem ok67x2 (F:Nat):Sound Tryz.prog cfg 67 (ct67x2 F):=
 mkC_ok (E:=E67x2 F) (lp:=[]) (code:=bodyOf Tryz.f67) Tryz.func67 rfl Tryz.ntmps67 rfl rfl cok (cts67x2 F) mixed trivial (by kernel_rfl) (fun x y k=>T67x2c F y.1.2.1 y.1.2.2.1 y.1.2.2.2.1 y.2.2.1 k) (fun x y k=>T67x2n F y.1.2.1 y.1.2.2.1 y.1.2.2.2.1 y.2.2.1 k) (eq67x2 F)
def ord73:Nat->List (Tag×Nat)
 | 1=>[(.p,0),(.p,1),(.p,2),(.p,3),(.p,4),(.p,5),(.p,6),(.w,7),(.w,8)]
 | _=>[]
def E73 (F:Nat):Ev:=⟨cfg,18,ctOf [(79,ct79 F),(67,ct67x2 F)],ord73,ctOf [],fun _=>none,fun _=>none⟩
theorem cts73 (F:Nat):CtsOk Tryz.prog (E73 F):=cts_of (l:=[(79,ct79 F),(67,ct67x2 F)]) (l':=[]) rfl rfl ⟨⟨ok79 F,_,Tryz.func79,rfl,rfl⟩,⟨⟨ok67x2 F,_,Tryz.func67,rfl,rfl⟩,trivial⟩⟩ trivial
def T73c (F:Nat) (p0:Int) (p1:Int) (p2:Int) (p13:List UInt8) {β:Type} (k:(Int×Int×Int×Zb×Int×Int)->Option β):Option β:=
 (Option.bind (T79 F p0 p1 p2 p13) fun z3=>(Option.bind (T67x2 F z3.2.1 z3.2.2.1 z3.2.2.2 p13) fun z4=>(k (z4.1,z4.2.1,z4.2.2.1,z3.1,z4.2.2.2.1,z4.2.2.2.2))))
def T73 (F:Nat) (p0:Int) (p1:Int) (p2:Int) (p13:List UInt8):=T73c F p0 p1 p2 p13 some
def ct73 (F:Nat):Ct:=mkC 3 [(.pt 0 []),(.pt 1 [3])] [.blk 171 Qe,.blk 90 Qo,.row 5 .u8] [] [.blk 171 Qe,.blk 90 Qo,.row 5 .u8] (fun x y=>T73 F y.1.2.1 y.1.2.2.1 y.1.2.2.2.1 y.2.2.1) (fun x y (z:Int×Int×Int×Zb×Int×Int)=>((),(((),z.1,z.2.1,z.2.2.1,()),(y.2.1.1,y.2.1.2.1,y.2.1.2.2.1,(z.2.2.2.1,z.2.2.2.2.1,z.2.2.2.2.2,()),y.2.1.2.2.2.2.1,y.2.1.2.2.2.2.2.1,y.2.1.2.2.2.2.2.2.1,y.2.1.2.2.2.2.2.2.2.1,()),y.2.2.1,())))
theorem ok73 (F:Nat):Sound Tryz.prog cfg 73 (ct73 F):=
 mkC_ok (E:=E73 F) (lp:=[]) (code:=bodyOf Tryz.f73) Tryz.func73 rfl Tryz.ntmps73 rfl rfl cok (cts73 F) mixed trivial (by kernel_rfl) (fun x y k=>T73c F y.1.2.1 y.1.2.2.1 y.1.2.2.2.1 y.2.2.1 k) (fun _ _ _=>by simp only [T73,T73c,oA,oC,oS,oN,elimS_bind]) (fun _ _=>by kernel_rfl)
def ord67x3:Nat->List (Tag×Nat)
 | _=>[]
def al67x3:Nat->Option Nat
 | _=>none
def ms67x3:Nat->Option (List (Option Tag×Nat×List Nat))
 | _=>none
def E67x3 (F:Nat):Ev:=⟨cfg,17,ctOf [(70,ct70 F)],ord67x3,ctOf [],al67x3,ms67x3⟩
theorem cts67x3 (F:Nat):CtsOk Tryz.prog (E67x3 F):=cts_of (l:=[(70,ct70 F)]) (l':=[]) rfl rfl ⟨⟨ok70 F,_,Tryz.func70,rfl,rfl⟩,trivial⟩ trivial
def T67x3c (F:Nat) (p0:Int) (p1:Int) (p2:Int) (p3:List UInt8) {β:Type} (k:(Int×Int×Int×Int×Int)->Option β):Option β:=
 (Option.bind (T70 F p0 p1 p2 p3) fun z3=>(Option.bind (T70 F z3.2.1 z3.2.2.1 z3.2.2.2 p3) fun z4=>(k (z4.2.1,z4.2.2.1,z4.2.2.2,z3.1,z4.1))))
def T67x3 (F:Nat) (p0:Int) (p1:Int) (p2:Int) (p3:List UInt8):Option (Int×Int×Int×Int×Int):=T67x3c F p0 p1 p2 p3 some
theorem T67x3n (F:Nat) (p0:Int) (p1:Int) (p2:Int) (p3:List UInt8) {β:Type} (k:(Int×Int×Int×Int×Int)->Option β):T67x3c F p0 p1 p2 p3 k=(T67x3 F p0 p1 p2 p3).bind k:=by
 simp only [T67x3,T67x3c,Option.bind_assoc,cond_bind,Option.bind_some,Option.bind_none,elimS_bind]
abbrev cA67x3:List Sh:=[(.pt 0 []),(.ps 1 2)]
abbrev cB67x3:List Sh:=[]
abbrev cT67x3:List TSh:=[.blk 171 (.pr (.rw 2) (.pr .i (.pr .i (.pr .i .un)))),.blk 111 (.pr (.pt 3 [4]) (.pr (.pt 3 [5]) .un)),.row 5 .u8,.blk 90 (.pr .i (.pr .i (.pr .i (.pr (.pr .str (.pr .i (.pr .i .un))) (.pr .i (.pr .i (.pr .str (.pr .bo .un))))))))]
abbrev cU67x3:List TSh:=[.blk 171 (.pr (.rw 2) (.pr .i (.pr .i (.pr .i .un)))),.blk 111 (.pr (.pt 3 [4]) (.pr (.pt 3 [5]) .un)),.row 5 .u8,.blk 90 (.pr .i (.pr .i (.pr .i (.pr (.pr .str (.pr .i (.pr .i .un))) (.pr .i (.pr .i (.pr .str (.pr .bo .un))))))))]
def ct67x3 (F:Nat):Ct:=mkC 4 cA67x3 cT67x3 cB67x3 cU67x3 (fun x y=>T67x3 F y.1.2.1 y.1.2.2.1 y.1.2.2.2.1 y.2.2.1) (fun x y (z:Int×Int×Int×Int×Int)=>((),(((),z.1,z.2.1,z.2.2.1,()),((),(),()),y.2.2.1,(y.2.2.2.1.1,y.2.2.2.1.2.1,y.2.2.2.1.2.2.1,(y.2.2.2.1.2.2.2.1.1,y.2.2.2.1.2.2.2.1.2.1,y.2.2.2.1.2.2.2.1.2.2.1,()),z.2.2.2.1,z.2.2.2.2,y.2.2.2.1.2.2.2.2.2.2.1,y.2.2.2.1.2.2.2.2.2.2.2.1,()),())))
theorem eq67x3 (F:Nat) (x:dens cA67x3) (y:tdens cT67x3):sev (E67x3 F) 4 [] (bodyOf Tryz.f67) [] (mkSt (rng 2) cA67x3 cT67x3 x y) (kFn (E67x3 F) 4 Tryz.f67.results.toList cB67x3 cU67x3 fun p q=>some (p,q)) =
  T67x3c F y.1.2.1 y.1.2.2.1 y.1.2.2.2.1 y.2.2.1 (fun z=>some ((),(((),z.1,z.2.1,z.2.2.1,()),((),(),()),y.2.2.1,(y.2.2.2.1.1,y.2.2.2.1.2.1,y.2.2.2.1.2.2.1,(y.2.2.2.1.2.2.2.1.1,y.2.2.2.1.2.2.2.1.2.1,y.2.2.2.1.2.2.2.1.2.2.1,()),z.2.2.2.1,z.2.2.2.2,y.2.2.2.1.2.2.2.2.2.2.1,y.2.2.2.1.2.2.2.2.2.2.2.1,()),()))):=by kernel_rfl
theorem ok67x3 (F:Nat):Sound Tryz.prog cfg 67 (ct67x3 F):=
 mkC_ok (E:=E67x3 F) (lp:=[]) (code:=bodyOf Tryz.f67) Tryz.func67 rfl Tryz.ntmps67 rfl rfl cok (cts67x3 F) mixed trivial (by kernel_rfl) (fun x y k=>T67x3c F y.1.2.1 y.1.2.2.1 y.1.2.2.2.1 y.2.2.1 k) (fun x y k=>T67x3n F y.1.2.1 y.1.2.2.1 y.1.2.2.2.1 y.2.2.1 k) (eq67x3 F)
def E125 (F:Nat):Ev:=⟨cfg,15,ctOf [(126,ct126 F)],fun _=>[],ctOf [],fun _=>none,fun _=>none⟩
theorem cts125 (F:Nat):CtsOk Tryz.prog (E125 F):=cts_of (l:=[(126,ct126 F)]) (l':=[]) rfl rfl ⟨⟨ok126 F,_,Tryz.func126,rfl,rfl⟩,trivial⟩ trivial
def T125c (F:Nat) (p0:Int) (p1:Int) (p4:List UInt8) {β:Type} (k:(Zb×Int×Int)->Option β):Option β:=
 (Option.bind (T126 F p0 p1 p4) fun z2=>(k (((p4.drop z2.1.1).take (z2.1.2 - z2.1.1)),z2.2.1,z2.2.2)))
def T125 (F:Nat) (p0:Int) (p1:Int) (p4:List UInt8):=T125c F p0 p1 p4 some
def ct125 (F:Nat):Ct:=mkC 3 [(.pt 0 []),(.re .i)] [.blk 108 Qz,.blk 171 Qe,.row 5 .u8] [.str,.i] [.blk 108 Qz,.blk 171 Qe,.row 5 .u8] (fun x y=>T125 F x.2.1 y.2.1.2.1 y.2.2.1) (fun x y (z:Zb×Int×Int)=>((z.1,z.2.1,()),((),((),z.2.2,y.2.1.2.2.1,y.2.1.2.2.2.1,()),y.2.2.1,())))
theorem ok125 (F:Nat):Sound Tryz.prog cfg 125 (ct125 F):=
 mkC_ok (E:=E125 F) (lp:=[]) (code:=bodyOf Tryz.f125) Tryz.func125 rfl Tryz.ntmps125 rfl rfl cok (cts125 F) mixed trivial (by kernel_rfl) (fun x y k=>T125c F x.2.1 y.2.1.2.1 y.2.2.1 k) (fun _ _ _=>by simp only [T125,T125c,oA,oC,oS,oN,elimS_bind]) (fun _ _=>by kernel_rfl)
def ord124x1:Nat->List (Tag×Nat)
 | 5=>[(.c,0),(.p,1),(.w,2),(.p,3),(.p,4),(.p,5),(.w,6),(.p,7),(.p,8),(.b,9)]
 | _=>[]
def al124x1:Nat->Option Nat
 | _=>none
def ms124x1:Nat->Option (List (Option Tag×Nat×List Nat))
 | _=>none
def E124x1 (F:Nat):Ev:=⟨cfg,26,ctOf [(125,ct125 F)],ord124x1,ctOf [(163,ct163 F)],al124x1,ms124x1⟩
theorem cts124x1 (F:Nat):CtsOk Tryz.prog (E124x1 F):=cts_of (l:=[(125,ct125 F)]) (l':=[(163,ct163 F)]) rfl rfl ⟨⟨ok125 F,_,Tryz.func125,rfl,rfl⟩,trivial⟩ ⟨⟨okd163 F,_,Tryz.func163,rfl,rfl⟩,trivial⟩
def T124x1c (F:Nat) (p0:Int) (p1:Int) (p2:Int) (p3:Int) (p4:List UInt8) {β:Type} (k:((List UInt8)×Int×Int×Int)->Option β):Option β:=
 (bif (p2 != (0:Int)) then (k (([]:List UInt8),p0,p1,p2)) else (Option.bind (T125 F p3 p0 p4) fun z3=>(Option.bind (T163 F p0 z3.1 z3.2.2 z3.2.1) fun z4=>(k (z4.1,z4.2,p0,z3.2.1)))))
def T124x1 (F:Nat) (p0:Int) (p1:Int) (p2:Int) (p3:Int) (p4:List UInt8):Option ((List UInt8)×Int×Int×Int):=T124x1c F p0 p1 p2 p3 p4 some
theorem T124x1n (F:Nat) (p0:Int) (p1:Int) (p2:Int) (p3:Int) (p4:List UInt8) {β:Type} (k:((List UInt8)×Int×Int×Int)->Option β):T124x1c F p0 p1 p2 p3 p4 k=(T124x1 F p0 p1 p2 p3 p4).bind k:=by
 simp only [T124x1,T124x1c,Option.bind_assoc,cond_bind,Option.bind_some,Option.bind_none,elimS_bind]
abbrev cA124x1:List Sh:=[(.pt 0 []),(.fn 125 .un (.pr (.pt 1 []) (.pr (.pt 2 []) .un)))]
abbrev cB124x1:List Sh:=[.str]
abbrev cT124x1:List TSh:=[.blk 171 (.pr (.rw 3) (.pr .i (.pr .i (.pr .i .un)))),.blk 108 (.pt 0 []),.blk 3 .i,.row 5 .u8]
abbrev cU124x1:List TSh:=[.blk 171 (.pr (.rw 3) (.pr .i (.pr .i (.pr .i .un)))),.blk 108 (.pt 0 []),.blk 3 .i,.row 5 .u8]
def ct124x1 (F:Nat):Ct:=mkC 4 cA124x1 cT124x1 cB124x1 cU124x1 (fun x y=>T124x1 F y.1.2.1 y.1.2.2.1 y.1.2.2.2.1 y.2.2.1 y.2.2.2.1) (fun x y (z:(List UInt8)×Int×Int×Int)=>((z.1,()),(((),z.2.1,z.2.2.1,z.2.2.2,()),(),y.2.2.1,y.2.2.2.1,())))
theorem eq124x1 (F:Nat) (x:dens cA124x1) (y:tdens cT124x1):sev (E124x1 F) 4 [] (bodyOf Tryz.f124) [] (mkSt (rng 2) cA124x1 cT124x1 x y) (kFn (E124x1 F) 4 Tryz.f124.results.toList cB124x1 cU124x1 fun p q=>some (p,q)) =
  T124x1c F y.1.2.1 y.1.2.2.1 y.1.2.2.2.1 y.2.2.1 y.2.2.2.1 (fun z=>some ((z.1,()),(((),z.2.1,z.2.2.1,z.2.2.2,()),(),y.2.2.1,y.2.2.2.1,()))):=by kernel_rfl
theorem ok124x1 (F:Nat):Sound Tryz.prog cfg 124 (ct124x1 F):=
 mkC_ok (E:=E124x1 F) (lp:=[]) (code:=bodyOf Tryz.f124) Tryz.func124 rfl Tryz.ntmps124 rfl rfl cok (cts124x1 F) mixed trivial (by kernel_rfl) (fun x y k=>T124x1c F y.1.2.1 y.1.2.2.1 y.1.2.2.2.1 y.2.2.1 y.2.2.2.1 k) (fun x y k=>T124x1n F y.1.2.1 y.1.2.2.1 y.1.2.2.2.1 y.2.2.1 y.2.2.2.1 k) (eq124x1 F)
def E74 (F:Nat):Ev:=⟨cfg,8,ctOf [(124,ct124x1 F)],fun _=>[],ctOf [],fun _=>none,fun _=>none⟩
theorem cts74 (F:Nat):CtsOk Tryz.prog (E74 F):=cts_of (l:=[(124,ct124x1 F)]) (l':=[]) rfl rfl ⟨⟨ok124x1 F,_,Tryz.func124,rfl,rfl⟩,trivial⟩ trivial
def T74c (F:Nat) (p0:Int) (p1:Int) (p2:Int) (p3:Int) (p4:List UInt8) {β:Type} (k:(Zb×Int×Int×Int)->Option β):Option β:=
 (Option.bind (T124x1 F p1 p2 p3 p0 p4) fun z2=>(k (z2.1,z2.2.1,z2.2.2.1,z2.2.2.2)))
def T74 (F:Nat) (p0:Int) (p1:Int) (p2:Int) (p3:Int) (p4:List UInt8):=T74c F p0 p1 p2 p3 p4 some
def ct74 (F:Nat):Ct:=mkC 2 [(.pt 0 []),.i] [.blk 171 Qd,.row 5 .u8] [.str] [.blk 171 Qd,.row 5 .u8] (fun x y=>T74 F x.2.1 y.1.2.1 y.1.2.2.1 y.1.2.2.2.1 y.2.1) (fun x y (z:Zb×Int×Int×Int)=>((z.1,()),(((),z.2.1,z.2.2.1,z.2.2.2,()),y.2.1,())))
theorem ok74 (F:Nat):Sound Tryz.prog cfg 74 (ct74 F):=
 mkC_ok (E:=E74 F) (lp:=[]) (code:=bodyOf Tryz.f74) Tryz.func74 rfl Tryz.ntmps74 rfl rfl cok (cts74 F) mixed trivial (by kernel_rfl) (fun x y k=>T74c F x.2.1 y.1.2.1 y.1.2.2.1 y.1.2.2.2.1 y.2.1 k) (fun _ _ _=>by simp only [T74,T74c,oA,oC,oS,oN,elimS_bind]) (fun _ _=>by kernel_rfl)
def ord128:Nat->List (Tag×Nat)
 | 1=>[(.r,0),(.p,1),(.p,2),(.r,3),(.r,4),(.p,5),(.p,6),(.r,7),(.p,8),(.p,9),(.p,10),(.r,11),(.p,12),(.p,13),(.r,14),(.r,15),(.p,16),(.p,17),(.r,18),(.p,19),(.r,20),(.p,21),(.p,22)]
 | 3=>[(.r,0),(.p,1),(.p,2),(.r,3),(.r,4),(.p,5),(.p,6),(.r,7),(.p,8),(.r,9),(.p,10)]
 | _=>[]
def E128 (F:Nat):Ev:=⟨cfg,46,ctOf [],ord128,ctOf [],fun _=>none,fun _=>none⟩
theorem cts128 (F:Nat):CtsOk Tryz.prog (E128 F):=cts_of (l:=[]) (l':=[]) rfl rfl trivial trivial
def T128c (F:Nat) (p0:Int) (p3:List UInt8) {β:Type} (k:(Bool×Int×Int)->Option β):Option β:=
 (bif (p0 == (p3.length:Int)) then (k (false,(3:Int),p0)) else (Option.bind (inb p3.length p0) fun x5=>(Option.bind (p3[x5]?) fun x6=>(bif (decide ((UInt8.ofNat 1) < x6)) then (k (false,(3:Int),p0)) else (Option.bind (inb p3.length p0) fun x7=>(Option.bind (p3[x7]?) fun x8=>(k ((x8 == (UInt8.ofNat 1)),(0:Int),(w64 (p0 + (1:Int)))))))))))
def T128 (F:Nat) (p0:Int) (p3:List UInt8):=T128c F p0 p3 some
def ct128 (F:Nat):Ct:=mkC 3 [(.pt 0 [])] [.blk 108 Qz,.blk 171 Qe,.row 5 .u8] [.bo,.i] [.blk 108 Qz,.blk 171 Qe,.row 5 .u8] (fun x y=>T128 F y.2.1.2.1 y.2.2.1) (fun x y (z:Bool×Int×Int)=>((z.1,z.2.1,()),((),((),z.2.2,y.2.1.2.2.1,y.2.1.2.2.2.1,()),y.2.2.1,())))
theorem ok128 (F:Nat):Sound Tryz.prog cfg 128 (ct128 F):=
 mkC_ok (E:=E128 F) (lp:=[]) (code:=bodyOf Tryz.f128) Tryz.func128 rfl Tryz.ntmps128 rfl rfl cok (cts128 F) mixed trivial (by kernel_rfl) (fun x y k=>T128c F y.2.1.2.1 y.2.2.1 k) (fun _ _ _=>by simp only [T128,T128c,oA,oC,oS,oN,elimS_bind]) (fun _ _=>by kernel_rfl)
def E164 (F:Nat):Ev:=⟨cfg,18,ctOf [],fun _=>[],ctOf [],fun _=>none,fun _=>none⟩
theorem cts164 (F:Nat):CtsOk Tryz.prog (E164 F):=cts_of (l:=[]) (l':=[]) rfl rfl trivial trivial
def T164c (F:Nat) (p0:Int) (p1:Bool) (p2:Int) (p4:Int) {β:Type} (k:(Bool×Int)->Option β):Option β:=
 (bif (p4 != (0:Int)) then (k (false,p0)) else (k (p1,p2)))
def T164 (F:Nat) (p0:Int) (p1:Bool) (p2:Int) (p4:Int):=T164c F p0 p1 p2 p4 some
def ct164 (F:Nat):Ct:=mkC 4 [(.re .i),(.pt 0 []),(.pt 1 [])] [.blk 108 Qw,.blk 4 .bo,.blk 171 Qh,.row 5 .u8] [] [.blk 108 Qw,.blk 4 .bo,.blk 171 Qh,.row 5 .u8] (fun x y=>T164 F x.1 y.2.1 y.2.2.1.2.1 y.2.2.1.2.2.2.1) (fun x y (z:Bool×Int)=>((),((),z.1,((),z.2,x.1,y.2.2.1.2.2.2.1,()),y.2.2.2.1,())))
theorem okd164 (F:Nat):SoundK Tryz.prog cfg true 164 (ct164 F):=
 mkC_okK (E:=E164 F) true (fun _ _=>rfl) (lp:=[]) (code:=bodyOf Tryz.f164) Tryz.func164 rfl Tryz.ntmps164 rfl rfl cok (cts164 F) mixed trivial (by kernel_rfl) (fun x y k=>T164c F x.1 y.2.1 y.2.2.1.2.1 y.2.2.1.2.2.2.1 k) (fun _ _ _=>by simp only [T164,T164c,oA,oC,oS,oN,elimS_bind]) (fun _ _=>by kernel_rfl)
def ord127:Nat->List (Tag×Nat)
 | 5=>[(.c,0),(.p,1),(.w,2),(.p,3),(.p,4),(.p,5),(.w,6),(.p,7),(.p,8),(.b,9)]
 | _=>[]
def E127 (F:Nat):Ev:=⟨cfg,26,ctOf [(128,ct128 F)],ord127,ctOf [(164,ct164 F)],fun _=>none,fun _=>none⟩
theorem cts127 (F:Nat):CtsOk Tryz.prog (E127 F):=cts_of (l:=[(128,ct128 F)]) (l':=[(164,ct164 F)]) rfl rfl ⟨⟨ok128 F,_,Tryz.func128,rfl,rfl⟩,trivial⟩ ⟨⟨okd164 F,_,Tryz.func164,rfl,rfl⟩,trivial⟩
def T127c (F:Nat) (p0:Int) (p1:Int) (p2:Int) (p3:List UInt8) {β:Type} (k:(Bool×Int×Int×Int)->Option β):Option β:=
 (bif (p2 != (0:Int)) then (k (false,p0,p1,p2)) else (Option.bind (T128 F p0 p3) fun z3=>(Option.bind (T164 F p0 z3.1 z3.2.2 z3.2.1) fun z4=>(k (z4.1,z4.2,p0,z3.2.1)))))
def T127 (F:Nat) (p0:Int) (p1:Int) (p2:Int) (p3:List UInt8):=T127c F p0 p1 p2 p3 some
def ct127 (F:Nat):Ct:=mkC 3 [(.pt 0 []),(.fn 128 .un (.pr (.pt 1 []) .un))] [.blk 171 Qe,.blk 108 Qq,.row 5 .u8] [.bo] [.blk 171 Qe,.blk 108 Qq,.row 5 .u8] (fun x y=>T127 F y.1.2.1 y.1.2.2.1 y.1.2.2.2.1 y.2.2.1) (fun x y (z:Bool×Int×Int×Int)=>((z.1,()),(((),z.2.1,z.2.2.1,z.2.2.2,()),(),y.2.2.1,())))
theorem ok127 (F:Nat):Sound Tryz.prog cfg 127 (ct127 F):=
 mkC_ok (E:=E127 F) (lp:=[]) (code:=bodyOf Tryz.f127) Tryz.func127 rfl Tryz.ntmps127 rfl rfl cok (cts127 F) mixed trivial (by kernel_rfl) (fun x y k=>T127c F y.1.2.1 y.1.2.2.1 y.1.2.2.2.1 y.2.2.1 k) (fun _ _ _=>by simp only [T127,T127c,oA,oC,oS,oN,elimS_bind]) (fun _ _=>by kernel_rfl)
def E75 (F:Nat):Ev:=⟨cfg,6,ctOf [(127,ct127 F)],fun _=>[],ctOf [],fun _=>none,fun _=>none⟩
theorem cts75 (F:Nat):CtsOk Tryz.prog (E75 F):=cts_of (l:=[(127,ct127 F)]) (l':=[]) rfl rfl ⟨⟨ok127 F,_,Tryz.func127,rfl,rfl⟩,trivial⟩ trivial
def T75c (F:Nat) (p0:Int) (p1:Int) (p2:Int) (p3:List UInt8) {β:Type} (k:(Bool×Int×Int×Int)->Option β):Option β:=
 (Option.bind (T127 F p0 p1 p2 p3) fun z2=>(k (z2.1,z2.2.1,z2.2.2.1,z2.2.2.2)))
def T75 (F:Nat) (p0:Int) (p1:Int) (p2:Int) (p3:List UInt8):=T75c F p0 p1 p2 p3 some
def ct75 (F:Nat):Ct:=mkC 2 [(.pt 0 [])] [.blk 171 Qd,.row 5 .u8] [.bo] [.blk 171 Qd,.row 5 .u8] (fun x y=>T75 F y.1.2.1 y.1.2.2.1 y.1.2.2.2.1 y.2.1) (fun x y (z:Bool×Int×Int×Int)=>((z.1,()),(((),z.2.1,z.2.2.1,z.2.2.2,()),y.2.1,())))
theorem ok75 (F:Nat):Sound Tryz.prog cfg 75 (ct75 F):=
 mkC_ok (E:=E75 F) (lp:=[]) (code:=bodyOf Tryz.f75) Tryz.func75 rfl Tryz.ntmps75 rfl rfl cok (cts75 F) mixed trivial (by kernel_rfl) (fun x y k=>T75c F y.1.2.1 y.1.2.2.1 y.1.2.2.2.1 y.2.1 k) (fun _ _ _=>by simp only [T75,T75c,oA,oC,oS,oN,elimS_bind]) (fun _ _=>by kernel_rfl)
def ord72:Nat->List (Tag×Nat)
 | 0=>[(.c,0),(.p,1),(.p,2),(.p,3),(.p,4),(.p,5),(.p,6),(.p,7),(.p,8),(.p,9),(.w,10),(.b,11)]
 | 1=>[(.r,0),(.p,1),(.p,2),(.p,3),(.w,4)]
 | 2=>[(.c,0),(.p,1),(.p,2),(.p,3),(.p,4),(.p,5),(.p,6),(.w,7),(.b,8)]
 | _=>[]
def E72 (F:Nat):Ev:=⟨cfg,39,ctOf [(67,ct67x1 F),(73,ct73 F),(67,ct67x3 F),(74,ct74 F),(75,ct75 F)],ord72,ctOf [],fun _=>none,fun _=>none⟩
theorem cts72 (F:Nat):CtsOk Tryz.prog (E72 F):=cts_of (l:=[(67,ct67x1 F),(73,ct73 F),(67,ct67x3 F),(74,ct74 F),(75,ct75 F)]) (l':=[]) rfl rfl ⟨⟨ok67x1 F,_,Tryz.func67,rfl,rfl⟩,⟨⟨ok73 F,_,Tryz.func73,rfl,rfl⟩,⟨⟨ok67x3 F,_,Tryz.func67,rfl,rfl⟩,⟨⟨ok74 F,_,Tryz.func74,rfl,rfl⟩,⟨⟨ok75 F,_,Tryz.func75,rfl,rfl⟩,trivial⟩⟩⟩⟩⟩ trivial
def T72c (F:Nat) (p10:Int) (p11:Int) (p12:Int) (p13:List UInt8) {β:Type} (k:(Int×Int×Int×Zb×Int×Int×Int×Int×Zb×Bool×Int×Int×Int)->Option β):Option β:=
 (Option.bind (T67x1 F p10 p11 p12 p13) fun z6=>(Option.bind (T73 F z6.1 z6.2.1 z6.2.2.1 p13) fun z7=>(Option.bind (T67x3 F z7.1 z7.2.1 z7.2.2.1 p13) fun z8=>(Option.bind (T74 F (32:Int) z8.1 z8.2.1 z8.2.2.1 p13) fun z9=>(Option.bind (T75 F z9.2.1 z9.2.2.1 z9.2.2.2 p13) fun z10=>(k (z6.2.2.2.1,z6.2.2.2.2.1,z6.2.2.2.2.2,z7.2.2.2.1,z7.2.2.2.2.1,z7.2.2.2.2.2,z8.2.2.2.1,z8.2.2.2.2,z9.1,z10.1,z10.2.1,z10.2.2.1,z10.2.2.2)))))))
def T72 (F:Nat) (p10:Int) (p11:Int) (p12:Int) (p13:List UInt8):=T72c F p10 p11 p12 p13 some
def ct72 (F:Nat):Ct:=mkC 4 [(.pt 0 []),(.pt 1 [])] [.blk 90 Qo,.blk 108 Qw,.blk 171 Qh,.row 5 .u8] [] [.blk 90 Qo,.blk 108 Qw,.blk 171 Qh,.row 5 .u8] (fun x y=>T72 F y.2.2.1.2.1 y.2.2.1.2.2.1 y.2.2.1.2.2.2.1 y.2.2.2.1) (fun x y (z:Int×Int×Int×Zb×Int×Int×Int×Int×Zb×Bool×Int×Int×Int)=>((),((z.1,z.2.1,z.2.2.1,(z.2.2.2.1,z.2.2.2.2.1,z.2.2.2.2.2.1,()),z.2.2.2.2.2.2.1,z.2.2.2.2.2.2.2.1,z.2.2.2.2.2.2.2.2.1,z.2.2.2.2.2.2.2.2.2.1,()),(),((),z.2.2.2.2.2.2.2.2.2.2.1,z.2.2.2.2.2.2.2.2.2.2.2.1,z.2.2.2.2.2.2.2.2.2.2.2.2,()),y.2.2.2.1,())))
theorem ok72 (F:Nat):Sound Tryz.prog cfg 72 (ct72 F):=
 mkC_ok (E:=E72 F) (lp:=[]) (code:=bodyOf Tryz.f72) Tryz.func72 rfl Tryz.ntmps72 rfl rfl cok (cts72 F) mixed trivial (by kernel_rfl) (fun x y k=>T72c F y.2.2.1.2.1 y.2.2.1.2.2.1 y.2.2.1.2.2.2.1 y.2.2.2.1 k) (fun _ _ _=>by simp only [T72,T72c,oA,oC,oS,oN,elimS_bind]) (fun _ _=>by kernel_rfl)
def E71 (F:Nat):Ev:=⟨cfg,22,ctOf [(121,ct121 F),(72,ct72 F)],fun _=>[],ctOf [],fun _=>none,fun _=>none⟩
theorem cts71 (F:Nat):CtsOk Tryz.prog (E71 F):=cts_of (l:=[(121,ct121 F),(72,ct72 F)]) (l':=[]) rfl rfl ⟨⟨ok121 F,_,Tryz.func121,rfl,rfl⟩,⟨⟨ok72 F,_,Tryz.func72,rfl,rfl⟩,trivial⟩⟩ trivial
def L71_2c (F:Nat) (y31:Int) (y36:List UInt8) (y32:Int) (y33:Int) (y34:Int) (y35:Int) (y37:List Zc) {β:Type} (kA:(Int×Int×Int×Int×(List Zc))->Option β) (kO:(Int×Int×Int×(List Zc))->Option β):Option β:=
 (bif (decide (y32 < y31)) then (Option.bind (T72 F y33 y34 y35 y36) fun z40=>(Option.bind (gapp y37 ([(z40.1,z40.2.1,z40.2.2.1,(z40.2.2.2.1,z40.2.2.2.2.1,z40.2.2.2.2.2.1,()),z40.2.2.2.2.2.2.1,z40.2.2.2.2.2.2.2.1,z40.2.2.2.2.2.2.2.2.1,z40.2.2.2.2.2.2.2.2.2.1,())]:List Zc)) fun x41=>(kA ((w64 (y32 + (1:Int))),z40.2.2.2.2.2.2.2.2.2.2.1,z40.2.2.2.2.2.2.2.2.2.2.2.1,z40.2.2.2.2.2.2.2.2.2.2.2.2,x41)))) else (kO (y33,y34,y35,y37)))
def L71_2 (F:Nat) (y31:Int) (y36:List UInt8) (y32:Int) (y33:Int) (y34:Int) (y35:Int) (y37:List Zc):=L71_2c F y31 y36 y32 y33 y34 y35 y37 (fun s=>some (Sum.inl s)) (fun z=>some (Sum.inr z))
def lc71_2 (F:Nat):Lc:=mkL [2,7,11,12] [(.fn 72 .un (.pr (.pt 1 []) .un)),(.rw 3),.i,.i] [.blk 171 Qe,.blk 108 Qq,.row 5 .u8,.row 90 Qb] [7] [(.rw 3)] [.blk 171 Qe,.blk 108 Qq,.row 5 .u8,.row 90 Qb] F (fun x y (s:Int×Int×Int×Int×(List Zc))=>L71_2 F x.2.2.1 y.2.2.1 s.1 s.2.1 s.2.2.1 s.2.2.2.1 s.2.2.2.2) (fun x y=>(x.2.2.2.1,y.1.2.1,y.1.2.2.1,y.1.2.2.2.1,y.2.2.2.1)) (fun x y (z:Int×Int×Int×(List Zc))=>(((),()),(((),z.1,z.2.1,z.2.2.1,()),(),y.2.2.1,z.2.2.2,())))
theorem lo71_2 (F:Nat):LcOk Tryz.prog (E71 F) 3 (lc71_2 F) (cAt (bodyOf Tryz.f71) [1,0,1,1]):=
 mkL_ok (lp:=[]) (id:=0) (b:=cAt (bodyOf Tryz.f71) (0 :: 0 :: [1,0,1,1])) cok (cts71 F) mixed trivial (by kernel_rfl) (by kernel_rfl) (fun x y s=>(((),((),())),(),x.2.2.1,s.1,())) (fun x y s=>(((),s.2.1,s.2.2.1,s.2.2.2.1,()),(),y.2.2.1,s.2.2.2.2,())) (fun x y=>rfl) (fun x y=>rfl) (fun x y s kA kO=>L71_2c F x.2.2.1 y.2.2.1 s.1 s.2.1 s.2.2.1 s.2.2.2.1 s.2.2.2.2 kA kO) (fun _ _ _ _ _=>by simp only [L71_2,L71_2c,oA,oC,oS,oN,elimS_l,elimS_r,elimS_bind]) (fun _ _ _=>by kernel_rfl)
def T71c (F:Nat) (p0:Int) (p1:Int) (p2:Int) (p3:Int) (p4:List UInt8) {β:Type} (k:(Int×Int×Int×(List Zc))->Option β):Option β:=
 (Option.bind (T121 F p0 p1 p2 p3 p4) fun z22=>(Option.bind (iter (fun s=>L71_2 F z22.1 p4 s.1 s.2.1 s.2.2.1 s.2.2.2.1 s.2.2.2.2) F ((0:Int),z22.2.1,z22.2.2.1,z22.2.2.2,([]:List Zc))) fun z42=>(k (z42.1,z42.2.1,z42.2.2.1,z42.2.2.2))))
def T71 (F:Nat) (p0:Int) (p1:Int) (p2:Int) (p3:Int) (p4:List UInt8):=T71c F p0 p1 p2 p3 p4 some
def ct71 (F:Nat):Ct:=mkC 3 [(.pt 0 []),.i,(.fn 72 .un (.pr (.pt 1 []) .un))] [.blk 171 Qe,.blk 108 Qq,.row 5 .u8] [(.rw 3)] [.blk 171 Qe,.blk 108 Qq,.row 5 .u8,.row 90 Qb] (fun x y=>T71 F x.2.1 y.1.2.1 y.1.2.2.1 y.1.2.2.2.1 y.2.2.1) (fun x y (z:Int×Int×Int×(List Zc))=>(((),()),(((),z.1,z.2.1,z.2.2.1,()),(),y.2.2.1,z.2.2.2,())))
theorem ok71 (F:Nat):Sound Tryz.prog cfg 71 (ct71 F):=
 mkC_ok (E:=E71 F) (lp:=[([1,0,1,1],lc71_2 F)]) (code:=bodyOf Tryz.f71) Tryz.func71 rfl Tryz.ntmps71 rfl rfl cok (cts71 F) mixed ⟨lo71_2 F,trivial⟩ (by kernel_rfl) (fun x y k=>T71c F x.2.1 y.1.2.1 y.1.2.2.1 y.1.2.2.2.1 y.2.2.1 k) (fun _ _ _=>by simp only [T71,T71c,oA,oC,oS,oN,elimS_bind]) (fun _ _=>by kernel_rfl)
def ord67x4:Nat->List (Tag×Nat)
 | _=>[]
def al67x4:Nat->Option Nat
 | _=>none
def ms67x4:Nat->Option (List (Option Tag×Nat×List Nat))
 | _=>none
def E67x4 (F:Nat):Ev:=⟨cfg,17,ctOf [(70,ct70 F)],ord67x4,ctOf [],al67x4,ms67x4⟩
theorem cts67x4 (F:Nat):CtsOk Tryz.prog (E67x4 F):=cts_of (l:=[(70,ct70 F)]) (l':=[]) rfl rfl ⟨⟨ok70 F,_,Tryz.func70,rfl,rfl⟩,trivial⟩ trivial
def T67x4c (F:Nat) (p0:Int) (p1:Int) (p2:Int) (p3:List UInt8) {β:Type} (k:(Int×Int×Int×Int×Int×Int×Int)->Option β):Option β:=
 (Option.bind (T70 F p0 p1 p2 p3) fun z5=>(Option.bind (T70 F z5.2.1 z5.2.2.1 z5.2.2.2 p3) fun z6=>(Option.bind (T70 F z6.2.1 z6.2.2.1 z6.2.2.2 p3) fun z7=>(Option.bind (T70 F z7.2.1 z7.2.2.1 z7.2.2.2 p3) fun z8=>(k (z8.2.1,z8.2.2.1,z8.2.2.2,z5.1,z6.1,z7.1,z8.1))))))
def T67x4 (F:Nat) (p0:Int) (p1:Int) (p2:Int) (p3:List UInt8):Option (Int×Int×Int×Int×Int×Int×Int):=T67x4c F p0 p1 p2 p3 some
theorem T67x4n (F:Nat) (p0:Int) (p1:Int) (p2:Int) (p3:List UInt8) {β:Type} (k:(Int×Int×Int×Int×Int×Int×Int)->Option β):T67x4c F p0 p1 p2 p3 k=(T67x4 F p0 p1 p2 p3).bind k:=by
 simp only [T67x4,T67x4c,Option.bind_assoc,cond_bind,Option.bind_some,Option.bind_none,elimS_bind]
abbrev cA67x4:List Sh:=[(.pt 0 []),(.ps 1 4)]
abbrev cB67x4:List Sh:=[]
abbrev cT67x4:List TSh:=[.blk 171 (.pr (.rw 2) (.pr .i (.pr .i (.pr .i .un)))),.blk 111 (.pr (.pt 3 [1]) (.pr (.pt 3 [2]) (.pr (.pt 3 [3]) (.pr (.pt 3 [4]) .un)))),.row 5 .u8,.blk 61 (.pr .str (.pr .i (.pr .i (.pr .i (.pr .i (.pr (.ro (.pr .s (.pr .i (.pr .i .un)))) .un))))))]
abbrev cU67x4:List TSh:=[.blk 171 (.pr (.rw 2) (.pr .i (.pr .i (.pr .i .un)))),.blk 111 (.pr (.pt 3 [1]) (.pr (.pt 3 [2]) (.pr (.pt 3 [3]) (.pr (.pt 3 [4]) .un)))),.row 5 .u8,.blk 61 (.pr .str (.pr .i (.pr .i (.pr .i (.pr .i (.pr (.ro (.pr .s (.pr .i (.pr .i .un)))) .un))))))]
def ct67x4 (F:Nat):Ct:=mkC 4 cA67x4 cT67x4 cB67x4 cU67x4 (fun x y=>T67x4 F y.1.2.1 y.1.2.2.1 y.1.2.2.2.1 y.2.2.1) (fun x y (z:Int×Int×Int×Int×Int×Int×Int)=>((),(((),z.1,z.2.1,z.2.2.1,()),((),(),(),(),()),y.2.2.1,(y.2.2.2.1.1,z.2.2.2.1,z.2.2.2.2.1,z.2.2.2.2.2.1,z.2.2.2.2.2.2,y.2.2.2.1.2.2.2.2.2.1,()),())))
theorem eq67x4 (F:Nat) (x:dens cA67x4) (y:tdens cT67x4):sev (E67x4 F) 4 [] (bodyOf Tryz.f67) [] (mkSt (rng 2) cA67x4 cT67x4 x y) (kFn (E67x4 F) 4 Tryz.f67.results.toList cB67x4 cU67x4 fun p q=>some (p,q)) =
  T67x4c F y.1.2.1 y.1.2.2.1 y.1.2.2.2.1 y.2.2.1 (fun z=>some ((),(((),z.1,z.2.1,z.2.2.1,()),((),(),(),(),()),y.2.2.1,(y.2.2.2.1.1,z.2.2.2.1,z.2.2.2.2.1,z.2.2.2.2.2.1,z.2.2.2.2.2.2,y.2.2.2.1.2.2.2.2.2.1,()),()))):=by kernel_rfl
theorem ok67x4 (F:Nat):Sound Tryz.prog cfg 67 (ct67x4 F):=
 mkC_ok (E:=E67x4 F) (lp:=[]) (code:=bodyOf Tryz.f67) Tryz.func67 rfl Tryz.ntmps67 rfl rfl cok (cts67x4 F) mixed trivial (by kernel_rfl) (fun x y k=>T67x4c F y.1.2.1 y.1.2.2.1 y.1.2.2.2.1 y.2.2.1 k) (fun x y k=>T67x4n F y.1.2.1 y.1.2.2.1 y.1.2.2.2.1 y.2.2.1 k) (eq67x4 F)
def ord67x5:Nat->List (Tag×Nat)
 | _=>[]
def al67x5:Nat->Option Nat
 | _=>none
def ms67x5:Nat->Option (List (Option Tag×Nat×List Nat))
 | _=>none
def E67x5 (F:Nat):Ev:=⟨cfg,17,ctOf [(70,ct70 F)],ord67x5,ctOf [],al67x5,ms67x5⟩
theorem cts67x5 (F:Nat):CtsOk Tryz.prog (E67x5 F):=cts_of (l:=[(70,ct70 F)]) (l':=[]) rfl rfl ⟨⟨ok70 F,_,Tryz.func70,rfl,rfl⟩,trivial⟩ trivial
def T67x5c (F:Nat) (p0:Int) (p1:Int) (p2:Int) (p3:List UInt8) {β:Type} (k:(Int×Int×Int×Int×Int)->Option β):Option β:=
 (Option.bind (T70 F p0 p1 p2 p3) fun z3=>(Option.bind (T70 F z3.2.1 z3.2.2.1 z3.2.2.2 p3) fun z4=>(k (z4.2.1,z4.2.2.1,z4.2.2.2,z3.1,z4.1))))
def T67x5 (F:Nat) (p0:Int) (p1:Int) (p2:Int) (p3:List UInt8):Option (Int×Int×Int×Int×Int):=T67x5c F p0 p1 p2 p3 some
theorem T67x5n (F:Nat) (p0:Int) (p1:Int) (p2:Int) (p3:List UInt8) {β:Type} (k:(Int×Int×Int×Int×Int)->Option β):T67x5c F p0 p1 p2 p3 k=(T67x5 F p0 p1 p2 p3).bind k:=by
 simp only [T67x5,T67x5c,Option.bind_assoc,cond_bind,Option.bind_some,Option.bind_none,elimS_bind]
abbrev cA67x5:List Sh:=[(.pt 0 []),(.ps 1 2)]
abbrev cB67x5:List Sh:=[]
abbrev cT67x5:List TSh:=[.blk 171 (.pr (.rw 2) (.pr .i (.pr .i (.pr .i .un)))),.blk 111 (.pr (.pt 3 [1]) (.pr (.pt 3 [2]) .un)),.row 5 .u8,.blk 88 (.pr .str (.pr .i (.pr .i .un)))]
abbrev cU67x5:List TSh:=[.blk 171 (.pr (.rw 2) (.pr .i (.pr .i (.pr .i .un)))),.blk 111 (.pr (.pt 3 [1]) (.pr (.pt 3 [2]) .un)),.row 5 .u8,.blk 88 (.pr .str (.pr .i (.pr .i .un)))]
def ct67x5 (F:Nat):Ct:=mkC 4 cA67x5 cT67x5 cB67x5 cU67x5 (fun x y=>T67x5 F y.1.2.1 y.1.2.2.1 y.1.2.2.2.1 y.2.2.1) (fun x y (z:Int×Int×Int×Int×Int)=>((),(((),z.1,z.2.1,z.2.2.1,()),((),(),()),y.2.2.1,(y.2.2.2.1.1,z.2.2.2.1,z.2.2.2.2,()),())))
theorem eq67x5 (F:Nat) (x:dens cA67x5) (y:tdens cT67x5):sev (E67x5 F) 4 [] (bodyOf Tryz.f67) [] (mkSt (rng 2) cA67x5 cT67x5 x y) (kFn (E67x5 F) 4 Tryz.f67.results.toList cB67x5 cU67x5 fun p q=>some (p,q)) =
  T67x5c F y.1.2.1 y.1.2.2.1 y.1.2.2.2.1 y.2.2.1 (fun z=>some ((),(((),z.1,z.2.1,z.2.2.1,()),((),(),()),y.2.2.1,(y.2.2.2.1.1,z.2.2.2.1,z.2.2.2.2,()),()))):=by kernel_rfl
theorem ok67x5 (F:Nat):Sound Tryz.prog cfg 67 (ct67x5 F):=
 mkC_ok (E:=E67x5 F) (lp:=[]) (code:=bodyOf Tryz.f67) Tryz.func67 rfl Tryz.ntmps67 rfl rfl cok (cts67x5 F) mixed trivial (by kernel_rfl) (fun x y k=>T67x5c F y.1.2.1 y.1.2.2.1 y.1.2.2.2.1 y.2.2.1 k) (fun x y k=>T67x5n F y.1.2.1 y.1.2.2.1 y.1.2.2.2.1 y.2.2.1 k) (eq67x5 F)
def ord73x1:Nat->List (Tag×Nat)
 | 1=>[(.p,0),(.p,1),(.p,2),(.p,3),(.p,4),(.p,5),(.p,6),(.w,7),(.w,8)]
 | _=>[]
def al73x1:Nat->Option Nat
 | _=>none
def ms73x1:Nat->Option (List (Option Tag×Nat×List Nat))
 | _=>none
def E73x1 (F:Nat):Ev:=⟨cfg,18,ctOf [(79,ct79 F),(67,ct67x5 F)],ord73x1,ctOf [],al73x1,ms73x1⟩
theorem cts73x1 (F:Nat):CtsOk Tryz.prog (E73x1 F):=cts_of (l:=[(79,ct79 F),(67,ct67x5 F)]) (l':=[]) rfl rfl ⟨⟨ok79 F,_,Tryz.func79,rfl,rfl⟩,⟨⟨ok67x5 F,_,Tryz.func67,rfl,rfl⟩,trivial⟩⟩ trivial
def T73x1c (F:Nat) (p0:Int) (p1:Int) (p2:Int) (p6:List UInt8) {β:Type} (k:(Int×Int×Int×(List UInt8)×Int×Int)->Option β):Option β:=
 (Option.bind (T79 F p0 p1 p2 p6) fun z3=>(Option.bind (T67x5 F z3.2.1 z3.2.2.1 z3.2.2.2 p6) fun z4=>(k (z4.1,z4.2.1,z4.2.2.1,z3.1,z4.2.2.2.1,z4.2.2.2.2))))
def T73x1 (F:Nat) (p0:Int) (p1:Int) (p2:Int) (p6:List UInt8):Option (Int×Int×Int×(List UInt8)×Int×Int):=T73x1c F p0 p1 p2 p6 some
theorem T73x1n (F:Nat) (p0:Int) (p1:Int) (p2:Int) (p6:List UInt8) {β:Type} (k:(Int×Int×Int×(List UInt8)×Int×Int)->Option β):T73x1c F p0 p1 p2 p6 k=(T73x1 F p0 p1 p2 p6).bind k:=by
 simp only [T73x1,T73x1c,Option.bind_assoc,cond_bind,Option.bind_some,Option.bind_none,elimS_bind]
abbrev cA73x1:List Sh:=[(.pt 0 []),(.pt 1 [])]
abbrev cB73x1:List Sh:=[]
abbrev cT73x1:List TSh:=[.blk 171 (.pr (.rw 2) (.pr .i (.pr .i (.pr .i .un)))),.blk 88 (.pr .str (.pr .i (.pr .i .un))),.row 5 .u8]
abbrev cU73x1:List TSh:=[.blk 171 (.pr (.rw 2) (.pr .i (.pr .i (.pr .i .un)))),.blk 88 (.pr .str (.pr .i (.pr .i .un))),.row 5 .u8]
def ct73x1 (F:Nat):Ct:=mkC 3 cA73x1 cT73x1 cB73x1 cU73x1 (fun x y=>T73x1 F y.1.2.1 y.1.2.2.1 y.1.2.2.2.1 y.2.2.1) (fun x y (z:Int×Int×Int×(List UInt8)×Int×Int)=>((),(((),z.1,z.2.1,z.2.2.1,()),(z.2.2.2.1,z.2.2.2.2.1,z.2.2.2.2.2,()),y.2.2.1,())))
theorem eq73x1 (F:Nat) (x:dens cA73x1) (y:tdens cT73x1):sev (E73x1 F) 3 [] (bodyOf Tryz.f73) [] (mkSt (rng 2) cA73x1 cT73x1 x y) (kFn (E73x1 F) 3 Tryz.f73.results.toList cB73x1 cU73x1 fun p q=>some (p,q)) =
  T73x1c F y.1.2.1 y.1.2.2.1 y.1.2.2.2.1 y.2.2.1 (fun z=>some ((),(((),z.1,z.2.1,z.2.2.1,()),(z.2.2.2.1,z.2.2.2.2.1,z.2.2.2.2.2,()),y.2.2.1,()))):=by kernel_rfl
theorem ok73x1 (F:Nat):Sound Tryz.prog cfg 73 (ct73x1 F):=
 mkC_ok (E:=E73x1 F) (lp:=[]) (code:=bodyOf Tryz.f73) Tryz.func73 rfl Tryz.ntmps73 rfl rfl cok (cts73x1 F) mixed trivial (by kernel_rfl) (fun x y k=>T73x1c F y.1.2.1 y.1.2.2.1 y.1.2.2.2.1 y.2.2.1 k) (fun x y k=>T73x1n F y.1.2.1 y.1.2.2.1 y.1.2.2.2.1 y.2.2.1 k) (eq73x1 F)
def E76 (F:Nat):Ev:=⟨cfg,6,ctOf [(73,ct73x1 F)],fun _=>[],ctOf [],fun _=>none,fun _=>none⟩
theorem cts76 (F:Nat):CtsOk Tryz.prog (E76 F):=cts_of (l:=[(73,ct73x1 F)]) (l':=[]) rfl rfl ⟨⟨ok73x1 F,_,Tryz.func73,rfl,rfl⟩,trivial⟩ trivial
def T76c (F:Nat) (p3:Int) (p4:Int) (p5:Int) (p6:List UInt8) {β:Type} (k:(Zb×Int×Int×Int×Int×Int)->Option β):Option β:=
 (Option.bind (T73x1 F p3 p4 p5 p6) fun z2=>(k (z2.2.2.2.1,z2.2.2.2.2.1,z2.2.2.2.2.2,z2.1,z2.2.1,z2.2.2.1)))
def T76 (F:Nat) (p3:Int) (p4:Int) (p5:Int) (p6:List UInt8):=T76c F p3 p4 p5 p6 some
def ct76 (F:Nat):Ct:=mkC 4 [(.pt 0 []),(.pt 1 [])] [.blk 88 (.pr .str (.pr .i (.pr .i .un))),.blk 108 Qw,.blk 171 Qh,.row 5 .u8] [] [.blk 88 (.pr .str (.pr .i (.pr .i .un))),.blk 108 Qw,.blk 171 Qh,.row 5 .u8] (fun x y=>T76 F y.2.2.1.2.1 y.2.2.1.2.2.1 y.2.2.1.2.2.2.1 y.2.2.2.1) (fun x y (z:Zb×Int×Int×Int×Int×Int)=>((),((z.1,z.2.1,z.2.2.1,()),(),((),z.2.2.2.1,z.2.2.2.2.1,z.2.2.2.2.2,()),y.2.2.2.1,())))
theorem ok76 (F:Nat):Sound Tryz.prog cfg 76 (ct76 F):=
 mkC_ok (E:=E76 F) (lp:=[]) (code:=bodyOf Tryz.f76) Tryz.func76 rfl Tryz.ntmps76 rfl rfl cok (cts76 F) mixed trivial (by kernel_rfl) (fun x y k=>T76c F y.2.2.1.2.1 y.2.2.1.2.2.1 y.2.2.1.2.2.2.1 y.2.2.2.1 k) (fun _ _ _=>by simp only [T76,T76c,oA,oC,oS,oN,elimS_bind]) (fun _ _=>by kernel_rfl)
def E80 (F:Nat):Ev:=⟨cfg,22,ctOf [(121,ct121 F),(76,ct76 F)],fun _=>[],ctOf [],fun _=>none,fun _=>none⟩
theorem cts80 (F:Nat):CtsOk Tryz.prog (E80 F):=cts_of (l:=[(121,ct121 F),(76,ct76 F)]) (l':=[]) rfl rfl ⟨⟨ok121 F,_,Tryz.func121,rfl,rfl⟩,⟨⟨ok76 F,_,Tryz.func76,rfl,rfl⟩,trivial⟩⟩ trivial
def L80_2c (F:Nat) (y31:Int) (y36:List UInt8) (y32:Int) (y33:Int) (y34:Int) (y35:Int) (y37:List Za) {β:Type} (kA:(Int×Int×Int×Int×(List Za))->Option β) (kO:(Int×Int×Int×(List Za))->Option β):Option β:=
 (bif (decide (y32 < y31)) then (Option.bind (T76 F y33 y34 y35 y36) fun z40=>(Option.bind (gapp y37 ([(z40.1,z40.2.1,z40.2.2.1,())]:List Za)) fun x41=>(kA ((w64 (y32 + (1:Int))),z40.2.2.2.1,z40.2.2.2.2.1,z40.2.2.2.2.2,x41)))) else (kO (y33,y34,y35,y37)))
def L80_2 (F:Nat) (y31:Int) (y36:List UInt8) (y32:Int) (y33:Int) (y34:Int) (y35:Int) (y37:List Za):=L80_2c F y31 y36 y32 y33 y34 y35 y37 (fun s=>some (Sum.inl s)) (fun z=>some (Sum.inr z))
def lc80_2 (F:Nat):Lc:=mkL [2,7,11,12] [(.fn 76 .un (.pr (.pt 1 []) .un)),(.rw 3),.i,.i] [.blk 171 Qe,.blk 108 Qq,.row 5 .u8,.row 88 Qi] [7] [(.rw 3)] [.blk 171 Qe,.blk 108 Qq,.row 5 .u8,.row 88 Qi] F (fun x y (s:Int×Int×Int×Int×(List Za))=>L80_2 F x.2.2.1 y.2.2.1 s.1 s.2.1 s.2.2.1 s.2.2.2.1 s.2.2.2.2) (fun x y=>(x.2.2.2.1,y.1.2.1,y.1.2.2.1,y.1.2.2.2.1,y.2.2.2.1)) (fun x y (z:Int×Int×Int×(List Za))=>(((),()),(((),z.1,z.2.1,z.2.2.1,()),(),y.2.2.1,z.2.2.2,())))
theorem lo80_2 (F:Nat):LcOk Tryz.prog (E80 F) 3 (lc80_2 F) (cAt (bodyOf Tryz.f80) [1,0,1,1]):=
 mkL_ok (lp:=[]) (id:=0) (b:=cAt (bodyOf Tryz.f80) (0 :: 0 :: [1,0,1,1])) cok (cts80 F) mixed trivial (by kernel_rfl) (by kernel_rfl) (fun x y s=>(((),((),())),(),x.2.2.1,s.1,())) (fun x y s=>(((),s.2.1,s.2.2.1,s.2.2.2.1,()),(),y.2.2.1,s.2.2.2.2,())) (fun x y=>rfl) (fun x y=>rfl) (fun x y s kA kO=>L80_2c F x.2.2.1 y.2.2.1 s.1 s.2.1 s.2.2.1 s.2.2.2.1 s.2.2.2.2 kA kO) (fun _ _ _ _ _=>by simp only [L80_2,L80_2c,oA,oC,oS,oN,elimS_l,elimS_r,elimS_bind]) (fun _ _ _=>by kernel_rfl)
def T80c (F:Nat) (p0:Int) (p1:Int) (p2:Int) (p3:Int) (p4:List UInt8) {β:Type} (k:(Int×Int×Int×(List Za))->Option β):Option β:=
 (Option.bind (T121 F p0 p1 p2 p3 p4) fun z22=>(Option.bind (iter (fun s=>L80_2 F z22.1 p4 s.1 s.2.1 s.2.2.1 s.2.2.2.1 s.2.2.2.2) F ((0:Int),z22.2.1,z22.2.2.1,z22.2.2.2,([]:List Za))) fun z42=>(k (z42.1,z42.2.1,z42.2.2.1,z42.2.2.2))))
def T80 (F:Nat) (p0:Int) (p1:Int) (p2:Int) (p3:Int) (p4:List UInt8):=T80c F p0 p1 p2 p3 p4 some
def ct80 (F:Nat):Ct:=mkC 3 [(.pt 0 []),.i,(.fn 76 .un (.pr (.pt 1 []) .un))] [.blk 171 Qe,.blk 108 Qq,.row 5 .u8] [(.rw 3)] [.blk 171 Qe,.blk 108 Qq,.row 5 .u8,.row 88 Qi] (fun x y=>T80 F x.2.1 y.1.2.1 y.1.2.2.1 y.1.2.2.2.1 y.2.2.1) (fun x y (z:Int×Int×Int×(List Za))=>(((),()),(((),z.1,z.2.1,z.2.2.1,()),(),y.2.2.1,z.2.2.2,())))
theorem ok80 (F:Nat):Sound Tryz.prog cfg 80 (ct80 F):=
 mkC_ok (E:=E80 F) (lp:=[([1,0,1,1],lc80_2 F)]) (code:=bodyOf Tryz.f80) Tryz.func80 rfl Tryz.ntmps80 rfl rfl cok (cts80 F) mixed ⟨lo80_2 F,trivial⟩ (by kernel_rfl) (fun x y k=>T80c F x.2.1 y.1.2.1 y.1.2.2.1 y.1.2.2.2.1 y.2.2.1 k) (fun _ _ _=>by simp only [T80,T80c,oA,oC,oS,oN,elimS_bind]) (fun _ _=>by kernel_rfl)
def ord78:Nat->List (Tag×Nat)
 | 1=>[(.c,0),(.p,1),(.p,2),(.p,3),(.p,4),(.p,5),(.p,6),(.p,7),(.p,8),(.p,9),(.p,10),(.p,11),(.p,12),(.w,13),(.b,14)]
 | _=>[]
def E78 (F:Nat):Ev:=⟨cfg,30,ctOf [(79,ct79 F),(67,ct67x4 F),(80,ct80 F)],ord78,ctOf [],fun _=>none,fun _=>none⟩
theorem cts78 (F:Nat):CtsOk Tryz.prog (E78 F):=cts_of (l:=[(79,ct79 F),(67,ct67x4 F),(80,ct80 F)]) (l':=[]) rfl rfl ⟨⟨ok79 F,_,Tryz.func79,rfl,rfl⟩,⟨⟨ok67x4 F,_,Tryz.func67,rfl,rfl⟩,⟨⟨ok80 F,_,Tryz.func80,rfl,rfl⟩,trivial⟩⟩⟩ trivial
def T78c (F:Nat) (p6:Int) (p7:Int) (p8:Int) (p9:List UInt8) {β:Type} (k:(Zb×Int×Int×Int×Int×Int×Int×Int×(List Za))->Option β):Option β:=
 (Option.bind (T79 F p6 p7 p8 p9) fun z4=>(Option.bind (T67x4 F z4.2.1 z4.2.2.1 z4.2.2.2 p9) fun z5=>(Option.bind (T80 F (8:Int) z5.1 z5.2.1 z5.2.2.1 p9) fun z6=>(k (z4.1,z5.2.2.2.1,z5.2.2.2.2.1,z5.2.2.2.2.2.1,z5.2.2.2.2.2.2,z6.1,z6.2.1,z6.2.2.1,z6.2.2.2)))))
def T78 (F:Nat) (p6:Int) (p7:Int) (p8:Int) (p9:List UInt8):=T78c F p6 p7 p8 p9 some
def ct78 (F:Nat):Ct:=mkC 5 [(.pt 0 []),(.pt 1 []),(.pt 2 [])] [.blk 61 (.pr .str (.pr .i (.pr .i (.pr .i (.pr .i (.pr (.ro Qi) .un)))))),.blk 108 (.pt 3 []),.blk 121 Qt,.blk 171 Qy,.row 5 .u8] [] [.blk 61 (.pr .str (.pr .i (.pr .i (.pr .i (.pr .i (.pr (.rw 5) .un)))))),.blk 108 (.pt 3 []),.blk 121 Qt,.blk 171 Qy,.row 5 .u8,.row 88 Qi] (fun x y=>T78 F y.2.2.2.1.2.1 y.2.2.2.1.2.2.1 y.2.2.2.1.2.2.2.1 y.2.2.2.2.1) (fun x y (z:Zb×Int×Int×Int×Int×Int×Int×Int×(List Za))=>((),((z.1,z.2.1,z.2.2.1,z.2.2.2.1,z.2.2.2.2.1,(),()),(),((),((),())),((),z.2.2.2.2.2.1,z.2.2.2.2.2.2.1,z.2.2.2.2.2.2.2.1,()),y.2.2.2.2.1,z.2.2.2.2.2.2.2.2,())))
theorem ok78 (F:Nat):Sound Tryz.prog cfg 78 (ct78 F):=
 mkC_ok (E:=E78 F) (lp:=[]) (code:=bodyOf Tryz.f78) Tryz.func78 rfl Tryz.ntmps78 rfl rfl cok (cts78 F) mixed trivial (by kernel_rfl) (fun x y k=>T78c F y.2.2.2.1.2.1 y.2.2.2.1.2.2.1 y.2.2.2.1.2.2.2.1 y.2.2.2.2.1 k) (fun _ _ _=>by simp only [T78,T78c,oA,oC,oS,oN,elimS_bind]) (fun _ _=>by kernel_rfl)
def E77 (F:Nat):Ev:=⟨cfg,22,ctOf [(121,ct121 F),(78,ct78 F)],fun _=>[],ctOf [],fun _=>none,fun _=>none⟩
theorem cts77 (F:Nat):CtsOk Tryz.prog (E77 F):=cts_of (l:=[(121,ct121 F),(78,ct78 F)]) (l':=[]) rfl rfl ⟨⟨ok121 F,_,Tryz.func121,rfl,rfl⟩,⟨⟨ok78 F,_,Tryz.func78,rfl,rfl⟩,trivial⟩⟩ trivial
def L77_2c (F:Nat) (y31:Int) (y36:List UInt8) (y32:Int) (y33:Int) (y34:Int) (y35:Int) (y37:List Zd) {β:Type} (kA:(Int×Int×Int×Int×(List Zd))->Option β) (kO:(Int×Int×Int×(List Zd))->Option β):Option β:=
 (bif (decide (y32 < y31)) then (Option.bind (T78 F y33 y34 y35 y36) fun z40=>(Option.bind (gapp y37 ([(z40.1,z40.2.1,z40.2.2.1,z40.2.2.2.1,z40.2.2.2.2.1,z40.2.2.2.2.2.2.2.2,())]:List Zd)) fun x41=>(kA ((w64 (y32 + (1:Int))),z40.2.2.2.2.2.1,z40.2.2.2.2.2.2.1,z40.2.2.2.2.2.2.2.1,x41)))) else (kO (y33,y34,y35,y37)))
def L77_2 (F:Nat) (y31:Int) (y36:List UInt8) (y32:Int) (y33:Int) (y34:Int) (y35:Int) (y37:List Zd):=L77_2c F y31 y36 y32 y33 y34 y35 y37 (fun s=>some (Sum.inl s)) (fun z=>some (Sum.inr z))
def lc77_2 (F:Nat):Lc:=mkL [2,7,11,12] [(.fn 78 .un (.pr (.pt 1 []) (.pr (.pt 2 []) .un))),(.rw 4),.i,.i] [.blk 171 Qh,.blk 108 Qq,.blk 121 Qt,.row 5 .u8,.row 61 Qc] [7] [(.rw 4)] [.blk 171 Qh,.blk 108 Qq,.blk 121 Qt,.row 5 .u8,.row 61 Qc] F (fun x y (s:Int×Int×Int×Int×(List Zd))=>L77_2 F x.2.2.1 y.2.2.2.1 s.1 s.2.1 s.2.2.1 s.2.2.2.1 s.2.2.2.2) (fun x y=>(x.2.2.2.1,y.1.2.1,y.1.2.2.1,y.1.2.2.2.1,y.2.2.2.2.1)) (fun x y (z:Int×Int×Int×(List Zd))=>(((),()),(((),z.1,z.2.1,z.2.2.1,()),(),((),((),())),y.2.2.2.1,z.2.2.2,())))
theorem lo77_2 (F:Nat):LcOk Tryz.prog (E77 F) 4 (lc77_2 F) (cAt (bodyOf Tryz.f77) [1,0,1,1]):=
 mkL_ok (lp:=[]) (id:=0) (b:=cAt (bodyOf Tryz.f77) (0 :: 0 :: [1,0,1,1])) cok (cts77 F) mixed trivial (by kernel_rfl) (by kernel_rfl) (fun x y s=>(((),((),(),())),(),x.2.2.1,s.1,())) (fun x y s=>(((),s.2.1,s.2.2.1,s.2.2.2.1,()),(),((),((),())),y.2.2.2.1,s.2.2.2.2,())) (fun x y=>rfl) (fun x y=>rfl) (fun x y s kA kO=>L77_2c F x.2.2.1 y.2.2.2.1 s.1 s.2.1 s.2.2.1 s.2.2.2.1 s.2.2.2.2 kA kO) (fun _ _ _ _ _=>by simp only [L77_2,L77_2c,oA,oC,oS,oN,elimS_l,elimS_r,elimS_bind]) (fun _ _ _=>by kernel_rfl)
def T77c (F:Nat) (p0:Int) (p1:Int) (p2:Int) (p3:Int) (p4:List UInt8) {β:Type} (k:(Int×Int×Int×(List Zd))->Option β):Option β:=
 (Option.bind (T121 F p0 p1 p2 p3 p4) fun z22=>(Option.bind (iter (fun s=>L77_2 F z22.1 p4 s.1 s.2.1 s.2.2.1 s.2.2.2.1 s.2.2.2.2) F ((0:Int),z22.2.1,z22.2.2.1,z22.2.2.2,([]:List Zd))) fun z42=>(k (z42.1,z42.2.1,z42.2.2.1,z42.2.2.2))))
def T77 (F:Nat) (p0:Int) (p1:Int) (p2:Int) (p3:Int) (p4:List UInt8):=T77c F p0 p1 p2 p3 p4 some
def ct77 (F:Nat):Ct:=mkC 4 [(.pt 0 []),.i,(.fn 78 .un (.pr (.pt 1 []) (.pr (.pt 2 []) .un)))] [.blk 171 Qh,.blk 108 Qq,.blk 121 Qt,.row 5 .u8] [(.rw 4)] [.blk 171 Qh,.blk 108 Qq,.blk 121 Qt,.row 5 .u8,.row 61 Qc] (fun x y=>T77 F x.2.1 y.1.2.1 y.1.2.2.1 y.1.2.2.2.1 y.2.2.2.1) (fun x y (z:Int×Int×Int×(List Zd))=>(((),()),(((),z.1,z.2.1,z.2.2.1,()),(),((),((),())),y.2.2.2.1,z.2.2.2,())))
theorem ok77 (F:Nat):Sound Tryz.prog cfg 77 (ct77 F):=
 mkC_ok (E:=E77 F) (lp:=[([1,0,1,1],lc77_2 F)]) (code:=bodyOf Tryz.f77) Tryz.func77 rfl Tryz.ntmps77 rfl rfl cok (cts77 F) mixed ⟨lo77_2 F,trivial⟩ (by kernel_rfl) (fun x y k=>T77c F x.2.1 y.1.2.1 y.1.2.2.1 y.1.2.2.2.1 y.2.2.2.1 k) (fun _ _ _=>by simp only [T77,T77c,oA,oC,oS,oN,elimS_bind]) (fun _ _=>by kernel_rfl)
def ord81:Nat->List (Tag×Nat)
 | 2=>[(.p,0),(.p,1),(.p,2),(.r,3),(.p,4),(.p,5),(.p,6),(.r,7),(.p,8),(.p,9)]
 | 3=>[(.p,0),(.p,1),(.p,2),(.r,3),(.p,4),(.p,5),(.p,6),(.r,7),(.p,8),(.p,9)]
 | _=>[]
def E81 (F:Nat):Ev:=⟨cfg,35,ctOf [],ord81,ctOf [],fun _=>none,fun _=>none⟩
theorem cts81 (F:Nat):CtsOk Tryz.prog (E81 F):=cts_of (l:=[]) (l':=[]) rfl rfl trivial trivial
def T81c (F:Nat) (p0:Int) (p2:Int) (p3:List UInt8) {β:Type} (k:Int->Option β):Option β:=
 (bif (p2 != (0:Int)) then (k p2) else (bif (decide (p0 < (p3.length:Int))) then (k (3:Int)) else (k (0:Int))))
def T81 (F:Nat) (p0:Int) (p2:Int) (p3:List UInt8):=T81c F p0 p2 p3 some
def ct81 (F:Nat):Ct:=mkC 2 [(.pt 0 [])] [.blk 171 Qd,.row 5 .u8] [.i,.i] [.blk 171 Qd,.row 5 .u8] (fun x y=>T81 F y.1.2.1 y.1.2.2.2.1 y.2.1) (fun x y (z:Int)=>((y.1.2.1,z,()),(((),y.1.2.1,y.1.2.2.1,y.1.2.2.2.1,()),y.2.1,())))
theorem ok81 (F:Nat):Sound Tryz.prog cfg 81 (ct81 F):=
 mkC_ok (E:=E81 F) (lp:=[]) (code:=bodyOf Tryz.f81) Tryz.func81 rfl Tryz.ntmps81 rfl rfl cok (cts81 F) mixed trivial (by kernel_rfl) (fun x y k=>T81c F y.1.2.1 y.1.2.2.2.1 y.2.1 k) (fun _ _ _=>by simp only [T81,T81c,oA,oC,oS,oN,elimS_bind]) (fun _ _=>by kernel_rfl)
def E21 (F:Nat):Ev:=⟨cfg,51,ctOf [(66,ct66 F),(67,ct67 F),(68,ct68 F),(71,ct71 F),(77,ct77 F),(80,ct80 F),(81,ct81 F),(43,ct43 F)],fun _=>[],ctOf [],fun _=>none,fun _=>none⟩
theorem cts21 (F:Nat):CtsOk Tryz.prog (E21 F):=cts_of (l:=[(66,ct66 F),(67,ct67 F),(68,ct68 F),(71,ct71 F),(77,ct77 F),(80,ct80 F),(81,ct81 F),(43,ct43 F)]) (l':=[]) rfl rfl ⟨⟨ok66 F,_,Tryz.func66,rfl,rfl⟩,⟨⟨ok67 F,_,Tryz.func67,rfl,rfl⟩,⟨⟨ok68 F,_,Tryz.func68,rfl,rfl⟩,⟨⟨ok71 F,_,Tryz.func71,rfl,rfl⟩,⟨⟨ok77 F,_,Tryz.func77,rfl,rfl⟩,⟨⟨ok80 F,_,Tryz.func80,rfl,rfl⟩,⟨⟨ok81 F,_,Tryz.func81,rfl,rfl⟩,⟨⟨ok43 F,_,Tryz.func43,rfl,rfl⟩,trivial⟩⟩⟩⟩⟩⟩⟩⟩ trivial
def T21c (F:Nat) (p0:List UInt8) {β:Type} (k:Zk->Option β):Option β:=
 (bif (decide ((1048560:Int) < (p0.length:Int))) then (k ((0:Int),(0:Int),(3:Int),([]:List Int),([]:List Zc),([]:List Zd),([]:List Za))) else (Option.bind (T66 F p0) fun z9=>(Option.bind (T67 F z9.1 z9.2.1 z9.2.2.1 z9.2.2.2) fun z10=>(Option.bind (T68 F (12:Int) z10.1 z10.2.1 z10.2.2.1 z9.2.2.2) fun z11=>(Option.bind (T71 F (4096:Int) z11.1 z11.2.1 z11.2.2.1 z9.2.2.2) fun z12=>(Option.bind (T77 F (4096:Int) z12.1 z12.2.1 z12.2.2.1 z9.2.2.2) fun z13=>(Option.bind (T80 F (4096:Int) z13.1 z13.2.1 z13.2.2.1 z9.2.2.2) fun z14=>(Option.bind (T81 F z14.1 z14.2.2.1 z9.2.2.2) fun z15=>(bif (z15 != (0:Int)) then (k ((0:Int),(0:Int),(3:Int),([]:List Int),([]:List Zc),([]:List Zd),([]:List Za))) else (Option.bind (T43 F z10.2.2.2.1 z10.2.2.2.2 z11.2.2.2 z12.2.2.2 z13.2.2.2 z14.2.2.2) fun z16=>(bif (!z16) then (k ((0:Int),(0:Int),(3:Int),([]:List Int),([]:List Zc),([]:List Zd),([]:List Za))) else (k (z10.2.2.2.1,z10.2.2.2.2,(0:Int),z11.2.2.2,z12.2.2.2,z13.2.2.2,z14.2.2.2)))))))))))))
def T21 (F:Nat) (p0:List UInt8):=T21c F p0 some
def ct21 (F:Nat):Ct:=mkC 0 [(.ro .u8)] [] [(.pr .i (.pr .i (.pr (.rw 0) (.pr (.rw 1) (.pr (.rw 2) (.pr (.rw 3) .un)))))),.i] [.row 3 .i,.row 90 Qb,.row 61 Qc,.row 88 Qi] (fun x y=>T21 F x.1) (fun x y (z:Int×Int×Int×Zn×(List Zc)×(List Zd)×(List Za))=>(((z.1,z.2.1,(),(),(),(),()),z.2.2.1,()),(z.2.2.2.1,z.2.2.2.2.1,z.2.2.2.2.2.1,z.2.2.2.2.2.2,())))
theorem ok21 (F:Nat):Sound Tryz.prog cfg 21 (ct21 F):=
 mkC_ok (E:=E21 F) (lp:=[]) (code:=bodyOf Tryz.f21) Tryz.func21 rfl Tryz.ntmps21 rfl rfl cok (cts21 F) mixed trivial (by kernel_rfl) (fun x y k=>T21c F x.1 k) (fun _ _ _=>by simp only [T21,T21c,oA,oC,oS,oN,elimS_bind]) (fun _ _=>by kernel_rfl)
def ord24:Nat->List (Tag×Nat)
 | 6=>[(.r,0),(.p,1),(.p,2),(.p,3),(.w,4),(.p,5),(.p,6),(.p,7),(.p,8),(.p,9)]
 | _=>[]
def E24 (F:Nat):Ev:=⟨cfg,74,ctOf [(29,ct29 F),(32,ct32 F),(31,ct31 F),(66,ct66 F),(88,ct88 F),(30,ct30 F),(89,ct89 F),(21,ct21 F)],ord24,ctOf [],fun _=>none,fun _=>none⟩
theorem cts24 (F:Nat):CtsOk Tryz.prog (E24 F):=cts_of (l:=[(29,ct29 F),(32,ct32 F),(31,ct31 F),(66,ct66 F),(88,ct88 F),(30,ct30 F),(89,ct89 F),(21,ct21 F)]) (l':=[]) rfl rfl ⟨⟨ok29 F,_,Tryz.func29,rfl,rfl⟩,⟨⟨ok32 F,_,Tryz.func32,rfl,rfl⟩,⟨⟨ok31 F,_,Tryz.func31,rfl,rfl⟩,⟨⟨ok66 F,_,Tryz.func66,rfl,rfl⟩,⟨⟨ok88 F,_,Tryz.func88,rfl,rfl⟩,⟨⟨ok30 F,_,Tryz.func30,rfl,rfl⟩,⟨⟨ok89 F,_,Tryz.func89,rfl,rfl⟩,⟨⟨ok21 F,_,Tryz.func21,rfl,rfl⟩,trivial⟩⟩⟩⟩⟩⟩⟩⟩ trivial
def T24c (F:Nat) (p0:List UInt8) (p1:List UInt8) (p2:List UInt8) (p3:List UInt8) (p4:List UInt8) (p5:List UInt8) {β:Type} (k:Zk->Option β):Option β:=
 (Option.bind (T29 F p0 p1 p2 p3 p4) fun z11=>(bif (!z11) then (k ((0:Int),(0:Int),(1:Int),([]:List Int),([]:List Zc),([]:List Zd),([]:List Za))) else (bif (decide ((p5.length:Int) < (1036:Int))) then (k ((0:Int),(0:Int),(9:Int),([]:List Int),([]:List Zc),([]:List Zd),([]:List Za))) else (bif (decide ((1048588:Int) < (p5.length:Int))) then (k ((0:Int),(0:Int),(9:Int),([]:List Int),([]:List Zc),([]:List Zd),([]:List Za))) else (Option.bind (gsl p5 (0:Int) (12:Int)) fun x12=>(Option.bind (gsl p5 (12:Int) (p5.length:Int)) fun x13=>(Option.bind (T32 F p3 x12 x13) fun z14=>(bif (z14.1 != (0:Int)) then (k ((0:Int),(0:Int),(9:Int),([]:List Int),([]:List Zc),([]:List Zd),([]:List Za))) else (Option.bind (T31 F p3 z14.2) fun z15=>(bif (z15 != x12) then (k ((0:Int),(0:Int),(9:Int),([]:List Int),([]:List Zc),([]:List Zd),([]:List Za))) else (Option.bind (T66 F z14.2) fun z16=>(Option.bind (T88 F (1048560:Int) z16.1 z16.2.1 z16.2.2.1 z16.2.2.2) fun z17=>(Option.bind (T30 F z17.1) fun z18=>(bif (z18.1 != (0:Int)) then (k ((0:Int),(0:Int),(9:Int),([]:List Int),([]:List Zc),([]:List Zd),([]:List Za))) else (Option.bind (T89 F z18.2 z14.2) fun z19=>(bif (!z19) then (k ((0:Int),(0:Int),(9:Int),([]:List Int),([]:List Zc),([]:List Zd),([]:List Za))) else (Option.bind (T21 F z17.1) fun z20=>(bif (z20.2.2.1 != (0:Int)) then (k ((0:Int),(0:Int),(9:Int),([]:List Int),([]:List Zc),([]:List Zd),([]:List Za))) else (k (z20.1,z20.2.1,(0:Int),z20.2.2.2.1,z20.2.2.2.2.1,z20.2.2.2.2.2.1,z20.2.2.2.2.2.2))))))))))))))))))))
def T24 (F:Nat) (p0:List UInt8) (p1:List UInt8) (p2:List UInt8) (p3:List UInt8) (p4:List UInt8) (p5:List UInt8):=T24c F p0 p1 p2 p3 p4 p5 some
def ct24 (F:Nat):Ct:=mkC 0 [(.pr .str (.pr .str (.pr .str (.pr .str (.pr .str .un))))),(.ro .u8)] [] [(.pr .i (.pr .i (.pr (.rw 0) (.pr (.rw 1) (.pr (.rw 2) (.pr (.rw 3) .un)))))),.i] [.row 3 .i,.row 90 Qb,.row 61 Qc,.row 88 Qi] (fun x y=>T24 F x.1.1 x.1.2.1 x.1.2.2.1 x.1.2.2.2.1 x.1.2.2.2.2.1 x.2.1) (fun x y (z:Int×Int×Int×Zn×(List Zc)×(List Zd)×(List Za))=>(((z.1,z.2.1,(),(),(),(),()),z.2.2.1,()),(z.2.2.2.1,z.2.2.2.2.1,z.2.2.2.2.2.1,z.2.2.2.2.2.2,())))
theorem ok24 (F:Nat):Sound Tryz.prog cfg 24 (ct24 F):=
 mkC_ok (E:=E24 F) (lp:=[]) (code:=bodyOf Tryz.f24) Tryz.func24 rfl Tryz.ntmps24 rfl rfl cok (cts24 F) mixed trivial (by kernel_rfl) (fun x y k=>T24c F x.1.1 x.1.2.1 x.1.2.2.1 x.1.2.2.2.1 x.1.2.2.2.2.1 x.2.1 k) (fun _ _ _=>by simp only [T24,T24c,oA,oC,oS,oN,elimS_bind]) (fun _ _=>by kernel_rfl)
def E33 (F:Nat):Ev:=⟨cfg,31,ctOf [],fun _=>[],ctOf [],fun _=>none,fun _=>none⟩
theorem cts33 (F:Nat):CtsOk Tryz.prog (E33 F):=cts_of (l:=[]) (l':=[]) rfl rfl trivial trivial
def T33c (F:Nat) (p0:List UInt8) (p1:List UInt8) (p2:List UInt8) (p3:List UInt8) (p4:List UInt8) {β:Type} (k:Bool->Option β):Option β:=
 (bif ((p0.length:Int) == (32:Int)) then (bif ((p1.length:Int) == (32:Int)) then (bif ((p2.length:Int) == (32:Int)) then (bif ((p3.length:Int) == (32:Int)) then (k ((p4.length:Int) == (32:Int))) else (k false)) else (k false)) else (k false)) else (k false))
def T33 (F:Nat) (p0:List UInt8) (p1:List UInt8) (p2:List UInt8) (p3:List UInt8) (p4:List UInt8):=T33c F p0 p1 p2 p3 p4 some
def ct33 (F:Nat):Ct:=mkC 0 [(.pr .str (.pr .str (.pr .str (.pr .str (.pr .str .un)))))] [] [.bo] [] (fun x y=>T33 F x.1.1 x.1.2.1 x.1.2.2.1 x.1.2.2.2.1 x.1.2.2.2.2.1) (fun x y (z:Bool)=>((z,()),()))
theorem ok33 (F:Nat):Sound Tryz.prog cfg 33 (ct33 F):=
 mkC_ok (E:=E33 F) (lp:=[]) (code:=bodyOf Tryz.f33) Tryz.func33 rfl Tryz.ntmps33 rfl rfl cok (cts33 F) mixed trivial (by kernel_rfl) (fun x y k=>T33c F x.1.1 x.1.2.1 x.1.2.2.1 x.1.2.2.2.1 x.1.2.2.2.2.1 k) (fun _ _ _=>by simp only [T33,T33c,oA,oC,oS,oN,elimS_bind]) (fun _ _=>by kernel_rfl)
def ord147:Nat->List (Tag×Nat)
 | 1=>[(.p,0),(.p,1),(.p,2),(.p,3),(.p,4),(.p,5),(.p,6),(.p,7),(.p,8),(.p,9),(.p,10),(.p,11),(.p,12),(.p,13),(.p,14),(.p,15),(.p,16),(.p,17),(.p,18),(.p,19),(.p,20),(.p,21),(.p,22),(.p,23),(.p,24),(.p,25),(.p,26),(.p,27),(.p,28),(.p,29)]
 | _=>[]
def E147 (F:Nat):Ev:=⟨cfg,34,ctOf [],ord147,ctOf [],fun _=>none,fun _=>none⟩
theorem cts147 (F:Nat):CtsOk Tryz.prog (E147 F):=cts_of (l:=[]) (l':=[]) rfl rfl trivial trivial
def T147c (F:Nat) (p0:List UInt8) (p1:Int) {β:Type} (k:UInt32->Option β):Option β:=
 (Option.bind (ix p0 (w64 ((4:Int) * p1))) fun x5=>(Option.bind (ix p0 (w64 ((w64 ((4:Int) * p1)) + (1:Int)))) fun x6=>(Option.bind (ix p0 (w64 ((w64 ((4:Int) * p1)) + (2:Int)))) fun x7=>(Option.bind (ix p0 (w64 ((w64 ((4:Int) * p1)) + (3:Int)))) fun x8=>(k ((((x5.toUInt32) ||| (shl32 (x6.toUInt32) ((UInt64.ofNat 8).toNat))) ||| (shl32 (x7.toUInt32) ((UInt64.ofNat 16).toNat))) ||| (shl32 (x8.toUInt32) ((UInt64.ofNat 24).toNat))))))))
def T147 (F:Nat) (p0:List UInt8) (p1:Int):=T147c F p0 p1 some
def ct147 (F:Nat):Ct:=mkC 0 [.str,.i] [] [.u32] [] (fun x y=>T147 F x.1 x.2.1) (fun x y (z:UInt32)=>((z,()),()))
theorem ok147 (F:Nat):Sound Tryz.prog cfg 147 (ct147 F):=
 mkC_ok (E:=E147 F) (lp:=[]) (code:=bodyOf Tryz.f147) Tryz.func147 rfl Tryz.ntmps147 rfl rfl cok (cts147 F) mixed trivial (by kernel_rfl) (fun x y k=>T147c F x.1 x.2.1 k) (fun _ _ _=>by simp only [T147,T147c,oA,oC,oS,oN,elimS_bind]) (fun _ _=>by kernel_rfl)
def ord182:Nat->List (Tag×Nat)
 | 1=>[(.p,0),(.p,1),(.p,2),(.p,3),(.p,4),(.p,5),(.p,6),(.p,7),(.p,8)]
 | _=>[]
def E182 (F:Nat):Ev:=⟨cfg,13,ctOf [],ord182,ctOf [],fun _=>none,fun _=>none⟩
theorem cts182 (F:Nat):CtsOk Tryz.prog (E182 F):=cts_of (l:=[]) (l':=[]) rfl rfl trivial trivial
def T182c (F:Nat) (p0:UInt32) (p1:Int) {β:Type} (k:UInt32->Option β):Option β:=
 (Option.bind (gnn p1) fun x3=>(Option.bind (gnn (w64 ((32:Int) - p1))) fun x4=>(k ((shl32 p0 x3) ||| (shr32 p0 x4)))))
def T182 (F:Nat) (p0:UInt32) (p1:Int):=T182c F p0 p1 some
def ct182 (F:Nat):Ct:=mkC 0 [.u32,.i] [] [.u32] [] (fun x y=>T182 F x.1 x.2.1) (fun x y (z:UInt32)=>((z,()),()))
theorem ok182 (F:Nat):Sound Tryz.prog cfg 182 (ct182 F):=
 mkC_ok (E:=E182 F) (lp:=[]) (code:=bodyOf Tryz.f182) Tryz.func182 rfl Tryz.ntmps182 rfl rfl cok (cts182 F) mixed trivial (by kernel_rfl) (fun x y k=>T182c F x.1 x.2.1 k) (fun _ _ _=>by simp only [T182,T182c,oA,oC,oS,oN,elimS_bind]) (fun _ _=>by kernel_rfl)
def E148 (F:Nat):Ev:=⟨cfg,44,ctOf [(182,ct182 F)],fun _=>[],ctOf [],fun _=>none,fun _=>none⟩
theorem cts148 (F:Nat):CtsOk Tryz.prog (E148 F):=cts_of (l:=[(182,ct182 F)]) (l':=[]) rfl rfl ⟨⟨ok182 F,_,Tryz.func182,rfl,rfl⟩,trivial⟩ trivial
def T148c (F:Nat) (p0:UInt32) (p1:UInt32) (p2:UInt32) (p3:UInt32) {β:Type} (k:(UInt32×UInt32×UInt32×UInt32)->Option β):Option β:=
 (Option.bind (T182 F (p3 ^^^ (p0 + p1)) (16:Int)) fun z5=>(Option.bind (T182 F (p1 ^^^ (p2 + z5)) (12:Int)) fun z6=>(Option.bind (T182 F (z5 ^^^ ((p0 + p1) + z6)) (8:Int)) fun z7=>(Option.bind (T182 F (z6 ^^^ ((p2 + z5) + z7)) (7:Int)) fun z8=>(k (((p0 + p1) + z6),z8,((p2 + z5) + z7),z7))))))
def T148 (F:Nat) (p0:UInt32) (p1:UInt32) (p2:UInt32) (p3:UInt32):=T148c F p0 p1 p2 p3 some
def ct148 (F:Nat):Ct:=mkC 0 [.u32,.u32,.u32,.u32] [] [.u32,.u32,.u32,.u32] [] (fun x y=>T148 F x.1 x.2.1 x.2.2.1 x.2.2.2.1) (fun x y (z:UInt32×UInt32×UInt32×UInt32)=>((z.1,z.2.1,z.2.2.1,z.2.2.2,()),()))
theorem ok148 (F:Nat):Sound Tryz.prog cfg 148 (ct148 F):=
 mkC_ok (E:=E148 F) (lp:=[]) (code:=bodyOf Tryz.f148) Tryz.func148 rfl Tryz.ntmps148 rfl rfl cok (cts148 F) mixed trivial (by kernel_rfl) (fun x y k=>T148c F x.1 x.2.1 x.2.2.1 x.2.2.2.1 k) (fun _ _ _=>by simp only [T148,T148c,oA,oC,oS,oN,elimS_bind]) (fun _ _=>by kernel_rfl)
def ord103:Nat->List (Tag×Nat)
 | 21=>[(.p,0),(.c,1),(.p,2),(.c,3),(.p,4),(.c,5),(.p,6),(.c,7),(.p,8),(.r,9),(.p,10),(.r,11),(.p,12),(.r,13),(.p,14),(.r,15),(.p,16),(.r,17),(.p,18),(.r,19),(.p,20),(.r,21),(.p,22),(.r,23),(.w,24),(.p,25),(.p,26),(.p,27),(.p,28),(.p,29),(.p,30),(.w,31),(.p,32),(.w,33),(.p,34),(.w,35),(.p,36),(.b,37)]
 | 27=>[(.p,0),(.p,1),(.r,2),(.p,3),(.p,4),(.r,5),(.p,6),(.p,7)]
 | _=>[]
def E103 (F:Nat):Ev:=⟨cfg,130,ctOf [(147,ct147 F),(148,ct148 F)],ord103,ctOf [],fun _=>none,fun _=>none⟩
theorem cts103 (F:Nat):CtsOk Tryz.prog (E103 F):=cts_of (l:=[(147,ct147 F),(148,ct148 F)]) (l':=[]) rfl rfl ⟨⟨ok147 F,_,Tryz.func147,rfl,rfl⟩,⟨⟨ok148 F,_,Tryz.func148,rfl,rfl⟩,trivial⟩⟩ trivial
def L103_7c (F:Nat) (y99:List UInt8) (y102:Int) (y103:Vector UInt32 16) {β:Type} (kA:(Int×Zg)->Option β) (kO:(Zg)->Option β):Option β:=
 (bif (decide (y102 < (8:Int))) then (Option.bind (T147 F y99 y102) fun z106=>(Option.bind (inb 16 (w64 ((4:Int) + y102))) fun x107=>(kA ((w64 (y102 + (1:Int))),(Vector.setIfInBounds y103 x107 z106))))) else (kO y103))
def L103_7 (F:Nat) (y99:List UInt8) (y102:Int) (y103:Vector UInt32 16):=L103_7c F y99 y102 y103 (fun s=>some (Sum.inl s)) (fun z=>some (Sum.inr z))
def lc103_7 (F:Nat):Lc:=mkL [0,1,2,8,9] [.str,.str,.u32,(.pt 0 []),.i] [.blk 195 Ql] [1,2,8] [.str,.u32,(.pt 0 [])] [.blk 195 Ql] F (fun x y (s:Int×Zg)=>L103_7 F x.1 s.1 s.2) (fun x y=>(x.2.2.2.2.1,y.1)) (fun x y (z:Zg)=>((x.2.1,x.2.2.1,(),()),(z,())))
theorem lo103_7 (F:Nat):LcOk Tryz.prog (E103 F) 0 (lc103_7 F) (cAt (bodyOf Tryz.f103) [1,0,1,1,1]):=
 mkL_ok (lp:=[]) (id:=0) (b:=cAt (bodyOf Tryz.f103) (0 :: 0 :: [1,0,1,1,1])) cok (cts103 F) mixed trivial (by kernel_rfl) (by kernel_rfl) (fun x y s=>(x.1,x.2.1,x.2.2.1,(),s.1,())) (fun x y s=>(s.2,())) (fun x y=>rfl) (fun x y=>rfl) (fun x y s kA kO=>L103_7c F x.1 s.1 s.2 kA kO) (fun _ _ _ _ _=>by simp only [L103_7,L103_7c,oA,oC,oS,oN,elimS_l,elimS_r,elimS_bind]) (fun _ _ _=>by kernel_rfl)
def L103_8c (F:Nat) (y109:List UInt8) (y110:Int) (y111:Vector UInt32 16) {β:Type} (kA:(Int×Zg)->Option β) (kO:(Zg)->Option β):Option β:=
 (bif (decide (y110 < (3:Int))) then (Option.bind (T147 F y109 y110) fun z114=>(Option.bind (inb 16 (w64 ((13:Int) + y110))) fun x115=>(kA ((w64 (y110 + (1:Int))),(Vector.setIfInBounds y111 x115 z114))))) else (kO y111))
def L103_8 (F:Nat) (y109:List UInt8) (y110:Int) (y111:Vector UInt32 16):=L103_8c F y109 y110 y111 (fun s=>some (Sum.inl s)) (fun z=>some (Sum.inr z))
def lc103_8 (F:Nat):Lc:=mkL [1,8,10] [.str,(.pt 0 []),.i] [.blk 195 Ql] [8] [(.pt 0 [])] [.blk 195 Ql] F (fun x y (s:Int×Zg)=>L103_8 F x.1 s.1 s.2) (fun x y=>(x.2.2.1,y.1)) (fun x y (z:Zg)=>(((),()),(z,())))
theorem lo103_8 (F:Nat):LcOk Tryz.prog (E103 F) 0 (lc103_8 F) (cAt (bodyOf Tryz.f103) [1,0,1,1,1,1,1]):=
 mkL_ok (lp:=[]) (id:=2) (b:=cAt (bodyOf Tryz.f103) (0 :: 0 :: [1,0,1,1,1,1,1])) cok (cts103 F) mixed trivial (by kernel_rfl) (by kernel_rfl) (fun x y s=>(x.1,(),s.1,())) (fun x y s=>(s.2,())) (fun x y=>rfl) (fun x y=>rfl) (fun x y s kA kO=>L103_8c F x.1 s.1 s.2 kA kO) (fun _ _ _ _ _=>by simp only [L103_8,L103_8c,oA,oC,oS,oN,elimS_l,elimS_r,elimS_bind]) (fun _ _ _=>by kernel_rfl)
def L103_11c (F:Nat) (y130:Vector Zm 8) (y131:Int) (y134:Vector UInt32 16) {β:Type} (kO:(Int×Zg)->Option β):Option β:=
 (Option.bind (vix y130 y131) fun x157=>(Option.bind (vat x157 0) fun x158=>(Option.bind (vat x157 1) fun x159=>(Option.bind (vat x157 2) fun x160=>(Option.bind (vat x157 3) fun x161=>(Option.bind (vat x157 0) fun x162=>(Option.bind (inb 16 x162) fun x163=>(Option.bind (vat y134 x163) fun x164=>(Option.bind (vat x157 1) fun x165=>(Option.bind (inb 16 x165) fun x166=>(Option.bind (vat y134 x166) fun x167=>(Option.bind (vat x157 2) fun x168=>(Option.bind (inb 16 x168) fun x169=>(Option.bind (vat y134 x169) fun x170=>(Option.bind (vat x157 3) fun x171=>(Option.bind (inb 16 x171) fun x172=>(Option.bind (vat y134 x172) fun x173=>(Option.bind (T148 F x164 x167 x170 x173) fun z174=>(Option.bind (inb 16 x158) fun x175=>(Option.bind (inb 16 x159) fun x176=>(Option.bind (inb 16 x160) fun x177=>(Option.bind (inb 16 x161) fun x178=>(kO ((w64 (y131 + (1:Int))),(Vector.setIfInBounds (Vector.setIfInBounds (Vector.setIfInBounds (Vector.setIfInBounds y134 x175 z174.1) x176 z174.2.1) x177 z174.2.2.1) x178 z174.2.2.2)))))))))))))))))))))))))
def L103_11 (F:Nat) (y130:Vector Zm 8) (y131:Int) (y134:Vector UInt32 16):Option (Int×Zg):=L103_11c F y130 y131 y134 (fun z=>some z)
theorem L103_11n (F:Nat) (y130:Vector Zm 8) (y131:Int) (y134:Vector UInt32 16) {β:Type} (kO:(Int×Zg)->Option β):L103_11c F y130 y131 y134 kO=(L103_11 F y130 y131 y134).bind (kO):=by
 simp only [L103_11,L103_11c,oA,oC,oS,oN,elimS_l,elimS_r,elimS_bind]
def lc103_11 (F:Nat):Lc:=mkJ [8,11,12,13,64,65] [(.pt 0 []),(.pt 1 []),(.pt 2 []),.i,(.ar 8 (.ar 4 .i)),.i] [.blk 195 Ql,.blk 198 Qv,.blk 195 Ql] [8,11,12,13,64,65] [(.pt 0 []),(.pt 1 []),(.pt 2 []),.i,(.ar 8 (.ar 4 .i)),.i] [.blk 195 Ql,.blk 198 Qv,.blk 195 Ql] (fun x y=>L103_11 F x.2.2.2.2.1 x.2.2.2.2.2.1 y.2.2.1) (fun x y (z:Int×Zg)=>(((),(),(),x.2.2.2.1,x.2.2.2.2.1,z.1,()),(y.1,y.2.1,z.2,())))
theorem lo103_11 (F:Nat):LcOk Tryz.prog (E103 F) 0 (lc103_11 F) (cAt (bodyOf Tryz.f103) [1,1,0,0,1,0,0,1,0,0,1,0,1,1,1,1,1,1,1,1]):=
 mkJ_ok (lp:=[]) cok (cts103 F) mixed trivial (by kernel_rfl) (fun x y kO=>L103_11c F x.2.2.2.2.1 x.2.2.2.2.2.1 y.2.2.1 kO) (fun x y kO=>L103_11n F x.2.2.2.2.1 x.2.2.2.2.2.1 y.2.2.1 kO) (fun _ _=>by kernel_rfl)
def L103_10c (F:Nat) (y123:Vector Zm 8) (y124:Int) (y127:Vector UInt32 16) {β:Type} (kA:(Int×Zg)->Option β) (kO:(Zg)->Option β):Option β:=
 (bif (decide (y124 < (8:Int))) then (Option.bind (L103_11 F y123 y124 y127) fun z179=>(kA (z179.1,z179.2))) else (kO y127))
def L103_10 (F:Nat) (y123:Vector Zm 8) (y124:Int) (y127:Vector UInt32 16):=L103_10c F y123 y124 y127 (fun s=>some (Sum.inl s)) (fun z=>some (Sum.inr z))
def lc103_10 (F:Nat):Lc:=mkL [8,11,12,13,64,65] [(.pt 0 []),(.pt 1 []),(.pt 2 []),.i,(.ar 8 (.ar 4 .i)),.i] [.blk 195 Ql,.blk 198 Qv,.blk 195 Ql] [8,11,12,13] [(.pt 0 []),(.pt 1 []),(.pt 2 []),.i] [.blk 195 Ql,.blk 198 Qv,.blk 195 Ql] F (fun x y (s:Int×Zg)=>L103_10 F x.2.2.2.2.1 s.1 s.2) (fun x y=>(x.2.2.2.2.2.1,y.2.2.1)) (fun x y (z:Zg)=>(((),(),(),x.2.2.2.1,()),(y.1,y.2.1,z,())))
theorem lo103_10 (F:Nat):LcOk Tryz.prog (E103 F) 0 (lc103_10 F) (cAt (bodyOf Tryz.f103) [1,0,0,1,0,0,1,0,1,1,1,1,1,1,1,1]):=
 mkL_ok (lp:=[([1,1,0,0,1,0,0,1,0,0,1,0,1,1,1,1,1,1,1,1],lc103_11 F)]) (id:=6) (b:=cAt (bodyOf Tryz.f103) (0 :: 0 :: [1,0,0,1,0,0,1,0,1,1,1,1,1,1,1,1])) cok (cts103 F) mixed ⟨lo103_11 F,trivial⟩ (by kernel_rfl) (by kernel_rfl) (fun x y s=>((),(),(),x.2.2.2.1,x.2.2.2.2.1,s.1,())) (fun x y s=>(y.1,y.2.1,s.2,())) (fun x y=>rfl) (fun x y=>rfl) (fun x y s kA kO=>L103_10c F x.2.2.2.2.1 s.1 s.2 kA kO) (fun _ _ _ _ _=>by simp only [L103_10,L103_10c,oA,oC,oS,oN,elimS_l,elimS_r,elimS_bind]) (fun _ _ _=>by kernel_rfl)
def L103_9c (F:Nat) (y119:Vector Zm 8) (y117:Int) (y120:Vector UInt32 16) {β:Type} (kA:(Int×Zg)->Option β) (kO:(Zg)->Option β):Option β:=
 (bif (decide (y117 < (10:Int))) then (Option.bind (iter (fun s=>L103_10 F y119 s.1 s.2) F ((0:Int),y120)) fun z180=>(kA ((w64 (y117 + (1:Int))),z180))) else (kO y120))
def L103_9 (F:Nat) (y119:Vector Zm 8) (y117:Int) (y120:Vector UInt32 16):=L103_9c F y119 y117 y120 (fun s=>some (Sum.inl s)) (fun z=>some (Sum.inr z))
def lc103_9 (F:Nat):Lc:=mkL [8,11,12,13] [(.pt 0 []),(.pt 1 []),(.pt 2 []),.i] [.blk 195 Ql,.blk 198 Qv,.blk 195 Ql] [8,12] [(.pt 0 []),(.pt 1 [])] [.blk 195 Ql,.blk 195 Ql] F (fun x y (s:Int×Zg)=>L103_9 F y.2.1 s.1 s.2) (fun x y=>(x.2.2.2.1,y.2.2.1)) (fun x y (z:Zg)=>(((),(),()),(y.1,z,())))
theorem lo103_9 (F:Nat):LcOk Tryz.prog (E103 F) 0 (lc103_9 F) (cAt (bodyOf Tryz.f103) [1,0,1,1,1,1,1,1,1,1]):=
 mkL_ok (lp:=[([1,0,0,1,0,0,1,0,1,1,1,1,1,1,1,1],lc103_10 F)]) (id:=4) (b:=cAt (bodyOf Tryz.f103) (0 :: 0 :: [1,0,1,1,1,1,1,1,1,1])) cok (cts103 F) mixed ⟨lo103_10 F,trivial⟩ (by kernel_rfl) (by kernel_rfl) (fun x y s=>((),(),(),s.1,())) (fun x y s=>(y.1,y.2.1,s.2,())) (fun x y=>rfl) (fun x y=>rfl) (fun x y s kA kO=>L103_9c F y.2.1 s.1 s.2 kA kO) (fun _ _ _ _ _=>by simp only [L103_9,L103_9c,oA,oC,oS,oN,elimS_l,elimS_r,elimS_bind]) (fun _ _ _=>by kernel_rfl)
def L103_12c (F:Nat) (y183:Vector UInt32 16) (y184:Vector UInt32 16) (y182:Int) (y185:List UInt8) {β:Type} (kA:Zi->Option β) (kO:(Zb)->Option β):Option β:=
 (bif (decide (y182 < (16:Int))) then (Option.bind (inb 16 y182) fun x191=>(Option.bind (vat y184 x191) fun x192=>(Option.bind (inb 16 y182) fun x193=>(Option.bind (vat y183 x193) fun x194=>(Option.bind (gapp y185 ([((x192 + x194).toUInt8),((shr32 (x192 + x194) ((UInt64.ofNat 8).toNat)).toUInt8),((shr32 (x192 + x194) ((UInt64.ofNat 16).toNat)).toUInt8),((shr32 (x192 + x194) ((UInt64.ofNat 24).toNat)).toUInt8)]:List UInt8)) fun x195=>(kA ((w64 (y182 + (1:Int))),x195))))))) else (kO y185))
def L103_12 (F:Nat) (y183:Vector UInt32 16) (y184:Vector UInt32 16) (y182:Int) (y185:List UInt8):=L103_12c F y183 y184 y182 y185 (fun s=>some (Sum.inl s)) (fun z=>some (Sum.inr z))
def lc103_12 (F:Nat):Lc:=mkL [8,12,16,17] [(.pt 0 []),(.pt 1 []),(.rw 2),.i] [.blk 195 Ql,.blk 195 Ql,.row 5 .u8] [16] [(.rw 0)] [.row 5 .u8] F (fun x y (s:Int×Zb)=>L103_12 F y.1 y.2.1 s.1 s.2) (fun x y=>(x.2.2.2.1,y.2.2.1)) (fun x y (z:Zb)=>(((),()),(z,())))
theorem lo103_12 (F:Nat):LcOk Tryz.prog (E103 F) 0 (lc103_12 F) (cAt (bodyOf Tryz.f103) [1,0,1,1,1,1,1,1,1,1,1,1]):=
 mkL_ok (lp:=[]) (id:=8) (b:=cAt (bodyOf Tryz.f103) (0 :: 0 :: [1,0,1,1,1,1,1,1,1,1,1,1])) cok (cts103 F) mixed trivial (by kernel_rfl) (by kernel_rfl) (fun x y s=>((),(),(),s.1,())) (fun x y s=>(y.1,y.2.1,s.2,())) (fun x y=>rfl) (fun x y=>rfl) (fun x y s kA kO=>L103_12c F y.1 y.2.1 s.1 s.2 kA kO) (fun _ _ _ _ _=>by simp only [L103_12,L103_12c,oA,oC,oS,oN,elimS_l,elimS_r,elimS_bind]) (fun _ _ _=>by kernel_rfl)
def T103c (F:Nat) (p0:List UInt8) (p1:List UInt8) (p2:UInt32) {β:Type} (k:Zi->Option β):Option β:=
 (bif ((p0.length:Int) != (32:Int)) then (k ((1:Int),([]:List UInt8))) else (bif ((p1.length:Int) != (12:Int)) then (k ((1:Int),([]:List UInt8))) else (Option.bind (iter (fun s=>L103_7 F p0 s.1 s.2) F ((0:Int),(Vector.setIfInBounds (Vector.setIfInBounds (Vector.setIfInBounds (Vector.setIfInBounds (Vector.replicate 16 (0:UInt32)) 0 (UInt32.ofNat 1634760805)) 1 (UInt32.ofNat 857760878)) 2 (UInt32.ofNat 2036477234)) 3 (UInt32.ofNat 1797285236)))) fun z108=>(Option.bind (iter (fun s=>L103_8 F p1 s.1 s.2) F ((0:Int),(Vector.setIfInBounds z108 12 p2))) fun z116=>(Option.bind (iter (fun s=>L103_9 F (#v[(#v[(0:Int),(4:Int),(8:Int),(12:Int)]:Vector Int 4),(#v[(1:Int),(5:Int),(9:Int),(13:Int)]:Vector Int 4),(#v[(2:Int),(6:Int),(10:Int),(14:Int)]:Vector Int 4),(#v[(3:Int),(7:Int),(11:Int),(15:Int)]:Vector Int 4),(#v[(0:Int),(5:Int),(10:Int),(15:Int)]:Vector Int 4),(#v[(1:Int),(6:Int),(11:Int),(12:Int)]:Vector Int 4),(#v[(2:Int),(7:Int),(8:Int),(13:Int)]:Vector Int 4),(#v[(3:Int),(4:Int),(9:Int),(14:Int)]:Vector Int 4)]:Vector Zm 8) s.1 s.2) F ((0:Int),z116)) fun z181=>(Option.bind (iter (fun s=>L103_12 F z116 z181 s.1 s.2) F ((0:Int),([]:List UInt8))) fun z196=>(k ((0:Int),z196))))))))
def T103 (F:Nat) (p0:List UInt8) (p1:List UInt8) (p2:UInt32):=T103c F p0 p1 p2 some
def ct103 (F:Nat):Ct:=mkC 0 [.str,.str,.u32] [] [(.rw 0),.i] [.row 5 .u8] (fun x y=>T103 F x.1 x.2.1 x.2.2.1) (fun x y (z:Int×Zb)=>(((),z.1,()),(z.2,())))
theorem ok103 (F:Nat):Sound Tryz.prog cfg 103 (ct103 F):=
 mkC_ok (E:=E103 F) (lp:=[([1,0,1,1,1],lc103_7 F),([1,0,1,1,1,1,1],lc103_8 F),([1,0,1,1,1,1,1,1,1,1],lc103_9 F),([1,0,1,1,1,1,1,1,1,1,1,1],lc103_12 F)]) (code:=bodyOf Tryz.f103) Tryz.func103 rfl Tryz.ntmps103 rfl rfl cok (cts103 F) mixed ⟨lo103_7 F,⟨lo103_8 F,⟨lo103_9 F,⟨lo103_12 F,trivial⟩⟩⟩⟩ (by kernel_rfl) (fun x y k=>T103c F x.1 x.2.1 x.2.2.1 k) (fun _ _ _=>by simp only [T103,T103c,oA,oC,oS,oN,elimS_bind]) (fun _ _=>by kernel_rfl)
def E36 (F:Nat):Ev:=⟨cfg,82,ctOf [(103,ct103 F)],fun _=>[],ctOf [],fun _=>none,fun _=>none⟩
theorem cts36 (F:Nat):CtsOk Tryz.prog (E36 F):=cts_of (l:=[(103,ct103 F)]) (l':=[]) rfl rfl ⟨⟨ok103 F,_,Tryz.func103,rfl,rfl⟩,trivial⟩ trivial
def L36_2c (F:Nat) (y18:List UInt8) (y19:List UInt8) (y20:Int) (y21:Int) (y22:Int) (y23:List UInt8) {β:Type} (kA:Zi->Option β) (kO:(Zb)->Option β):Option β:=
 (bif (decide (y22 < (w64 (y20 + y21)))) then (Option.bind (T103 F y18 y19 (UInt32.ofInt (w64 (Int.tdiv y22 (64:Int))))) fun z29=>(Option.bind (gslb z29.2.length (Int.tmod y22 (64:Int)) (z29.2.length:Int)) fun x30=>(bif (decide ((w64 ((w64 (y20 + y21)) - y22)) < ((x30.2 - x30.1:Nat):Int))) then (Option.bind (gslb (x30.2 - x30.1) (0:Int) (w64 ((w64 (y20 + y21)) - y22))) fun x31=>(Option.bind (gapp y23 ((z29.2.drop (x30.1 + x31.1)).take ((x30.1 + x31.2) - (x30.1 + x31.1)))) fun x32=>(kA ((w64 (y22 + (((x30.1 + x31.2) - (x30.1 + x31.1):Nat):Int))),x32)))) else (Option.bind (gapp y23 ((z29.2.drop x30.1).take (x30.2 - x30.1))) fun x33=>(kA ((w64 (y22 + ((x30.2 - x30.1:Nat):Int))),x33)))))) else (kO y23))
def L36_2 (F:Nat) (y18:List UInt8) (y19:List UInt8) (y20:Int) (y21:Int) (y22:Int) (y23:List UInt8):=L36_2c F y18 y19 y20 y21 y22 y23 (fun s=>some (Sum.inl s)) (fun z=>some (Sum.inr z))
def lc36_2 (F:Nat):Lc:=mkL [0,1,2,3,10,11] [.str,.str,.i,.i,(.rw 0),.i] [.row 5 .u8] [10] [(.rw 0)] [.row 5 .u8] F (fun x y (s:Int×Zb)=>L36_2 F x.1 x.2.1 x.2.2.1 x.2.2.2.1 s.1 s.2) (fun x y=>(x.2.2.2.2.2.1,y.1)) (fun x y (z:Zb)=>(((),()),(z,())))
theorem lo36_2 (F:Nat):LcOk Tryz.prog (E36 F) 0 (lc36_2 F) (cAt (bodyOf Tryz.f36) [1,0,1,1,1,1]):=
 mkL_ok (lp:=[]) (id:=0) (b:=cAt (bodyOf Tryz.f36) (0 :: 0 :: [1,0,1,1,1,1])) cok (cts36 F) mixed trivial (by kernel_rfl) (by kernel_rfl) (fun x y s=>(x.1,x.2.1,x.2.2.1,x.2.2.2.1,(),s.1,())) (fun x y s=>(s.2,())) (fun x y=>rfl) (fun x y=>rfl) (fun x y s kA kO=>L36_2c F x.1 x.2.1 x.2.2.1 x.2.2.2.1 s.1 s.2 kA kO) (fun _ _ _ _ _=>by simp only [L36_2,L36_2c,oA,oC,oS,oN,elimS_l,elimS_r,elimS_bind]) (fun _ _ _=>by kernel_rfl)
def T36c (F:Nat) (p0:List UInt8) (p1:List UInt8) (p2:Int) (p3:Int) {β:Type} (k:Zi->Option β):Option β:=
 (bif ((p0.length:Int) != (32:Int)) then (k ((1:Int),([]:List UInt8))) else (bif ((p1.length:Int) != (12:Int)) then (k ((1:Int),([]:List UInt8))) else (bif (decide (p2 < (0:Int))) then (k ((1:Int),([]:List UInt8))) else (bif (decide (p3 < (0:Int))) then (k ((1:Int),([]:List UInt8))) else (bif (decide ((1048576:Int) < p3)) then (k ((2:Int),([]:List UInt8))) else (bif (decide ((w64 ((274877906944:Int) - p3)) < p2)) then (k ((2:Int),([]:List UInt8))) else (Option.bind (iter (fun s=>L36_2 F p0 p1 p2 p3 s.1 s.2) F (p2,([]:List UInt8))) fun z34=>(k ((0:Int),z34)))))))))
def T36 (F:Nat) (p0:List UInt8) (p1:List UInt8) (p2:Int) (p3:Int):=T36c F p0 p1 p2 p3 some
def ct36 (F:Nat):Ct:=mkC 0 [.str,.str,.i,.i] [] [(.rw 0),.i] [.row 5 .u8] (fun x y=>T36 F x.1 x.2.1 x.2.2.1 x.2.2.2.1) (fun x y (z:Int×Zb)=>(((),z.1,()),(z.2,())))
theorem ok36 (F:Nat):Sound Tryz.prog cfg 36 (ct36 F):=
 mkC_ok (E:=E36 F) (lp:=[([1,0,1,1,1,1],lc36_2 F)]) (code:=bodyOf Tryz.f36) Tryz.func36 rfl Tryz.ntmps36 rfl rfl cok (cts36 F) mixed ⟨lo36_2 F,trivial⟩ (by kernel_rfl) (fun x y k=>T36c F x.1 x.2.1 x.2.2.1 x.2.2.2.1 k) (fun _ _ _=>by simp only [T36,T36c,oA,oC,oS,oN,elimS_bind]) (fun _ _=>by kernel_rfl)
def ord104:Nat->List (Tag×Nat)
 | 7=>[(.p,0),(.p,1),(.p,2),(.p,3),(.r,4),(.p,5),(.p,6),(.p,7),(.r,8),(.p,9),(.w,10),(.w,11),(.p,12)]
 | _=>[]
def E104 (F:Nat):Ev:=⟨cfg,33,ctOf [],ord104,ctOf [],fun _=>none,fun _=>none⟩
theorem cts104 (F:Nat):CtsOk Tryz.prog (E104 F):=cts_of (l:=[]) (l':=[]) rfl rfl trivial trivial
def L104_2c (F:Nat) (y13:List UInt8) (y14:List UInt8) (y15:Int) (y16:Int) (y17:List UInt8) {β:Type} (kA:Zi->Option β) (kO:(Zb)->Option β):Option β:=
 (bif (decide (y16 < y15)) then (Option.bind (ix y13 y16) fun x21=>(Option.bind (ix y14 y16) fun x22=>(Option.bind (gapp y17 ([(x21 ^^^ x22)]:List UInt8)) fun x23=>(kA ((w64 (y16 + (1:Int))),x23))))) else (kO y17))
def L104_2 (F:Nat) (y13:List UInt8) (y14:List UInt8) (y15:Int) (y16:Int) (y17:List UInt8):=L104_2c F y13 y14 y15 y16 y17 (fun s=>some (Sum.inl s)) (fun z=>some (Sum.inr z))
def lc104_2 (F:Nat):Lc:=mkL [0,1,6,15,16] [(.ro .u8),(.ro .u8),(.rw 0),.i,.i] [.row 5 .u8] [6] [(.rw 0)] [.row 5 .u8] F (fun x y (s:Int×Zb)=>L104_2 F x.1 x.2.1 x.2.2.2.1 s.1 s.2) (fun x y=>(x.2.2.2.2.1,y.1)) (fun x y (z:Zb)=>(((),()),(z,())))
theorem lo104_2 (F:Nat):LcOk Tryz.prog (E104 F) 0 (lc104_2 F) (cAt (bodyOf Tryz.f104) [1,0,1,1,1]):=
 mkL_ok (lp:=[]) (id:=0) (b:=cAt (bodyOf Tryz.f104) (0 :: 0 :: [1,0,1,1,1])) cok (cts104 F) mixed trivial (by kernel_rfl) (by kernel_rfl) (fun x y s=>(x.1,x.2.1,(),x.2.2.2.1,s.1,())) (fun x y s=>(s.2,())) (fun x y=>rfl) (fun x y=>rfl) (fun x y s kA kO=>L104_2c F x.1 x.2.1 x.2.2.2.1 s.1 s.2 kA kO) (fun _ _ _ _ _=>by simp only [L104_2,L104_2c,oA,oC,oS,oN,elimS_l,elimS_r,elimS_bind]) (fun _ _ _=>by kernel_rfl)
def T104c (F:Nat) (p0:List UInt8) (p1:List UInt8) {β:Type} (k:Zi->Option β):Option β:=
 (bif ((p0.length:Int) != (p1.length:Int)) then (k ((1:Int),([]:List UInt8))) else (Option.bind (iter (fun s=>L104_2 F p0 p1 (p0.length:Int) s.1 s.2) F ((0:Int),([]:List UInt8))) fun z24=>(k ((0:Int),z24))))
def T104 (F:Nat) (p0:List UInt8) (p1:List UInt8):=T104c F p0 p1 some
def ct104 (F:Nat):Ct:=mkC 0 [(.ro .u8),(.ro .u8)] [] [(.rw 0),.i] [.row 5 .u8] (fun x y=>T104 F x.1 x.2.1) (fun x y (z:Int×Zb)=>(((),z.1,()),(z.2,())))
theorem ok104 (F:Nat):Sound Tryz.prog cfg 104 (ct104 F):=
 mkC_ok (E:=E104 F) (lp:=[([1,0,1,1,1],lc104_2 F)]) (code:=bodyOf Tryz.f104) Tryz.func104 rfl Tryz.ntmps104 rfl rfl cok (cts104 F) mixed ⟨lo104_2 F,trivial⟩ (by kernel_rfl) (fun x y k=>T104c F x.1 x.2.1 k) (fun _ _ _=>by simp only [T104,T104c,oA,oC,oS,oN,elimS_bind]) (fun _ _=>by kernel_rfl)
def E37 (F:Nat):Ev:=⟨cfg,14,ctOf [(104,ct104 F)],fun _=>[],ctOf [],fun _=>none,fun _=>none⟩
theorem cts37 (F:Nat):CtsOk Tryz.prog (E37 F):=cts_of (l:=[(104,ct104 F)]) (l':=[]) rfl rfl ⟨⟨ok104 F,_,Tryz.func104,rfl,rfl⟩,trivial⟩ trivial
def T37c (F:Nat) (p0:List UInt8) (p1:List UInt8) {β:Type} (k:(Zb)->Option β):Option β:=
 (Option.bind (T104 F p0 p1) fun z2=>(k z2.2))
def T37 (F:Nat) (p0:List UInt8) (p1:List UInt8):=T37c F p0 p1 some
def ct37 (F:Nat):Ct:=mkC 0 [(.ro .u8),(.ro .u8)] [] [(.rw 0)] [.row 5 .u8] (fun x y=>T37 F x.1 x.2.1) (fun x y (z:Zb)=>(((),()),(z,())))
theorem ok37 (F:Nat):Sound Tryz.prog cfg 37 (ct37 F):=
 mkC_ok (E:=E37 F) (lp:=[]) (code:=bodyOf Tryz.f37) Tryz.func37 rfl Tryz.ntmps37 rfl rfl cok (cts37 F) mixed trivial (by kernel_rfl) (fun x y k=>T37c F x.1 x.2.1 k) (fun _ _ _=>by simp only [T37,T37c,oA,oC,oS,oN,elimS_bind]) (fun _ _=>by kernel_rfl)
def E100 (F:Nat):Ev:=⟨cfg,21,ctOf [],fun _=>[],ctOf [],fun _=>none,fun _=>none⟩
theorem cts100 (F:Nat):CtsOk Tryz.prog (E100 F):=cts_of (l:=[]) (l':=[]) rfl rfl trivial trivial
def L100_2c (F:Nat) (y7:UInt64) (y8:List UInt8) {β:Type} (kA:(UInt64×Zb)->Option β) (kO:(UInt64×Zb)->Option β):Option β:=
 (bif (decide ((UInt64.ofNat 127) < y7)) then (Option.bind (gapp y8 ([(((y7 % (UInt64.ofNat 128)).toUInt8) + (UInt8.ofNat 128))]:List UInt8)) fun x10=>(kA ((y7 / (UInt64.ofNat 128)),x10))) else (kO (y7,y8)))
def L100_2 (F:Nat) (y7:UInt64) (y8:List UInt8):=L100_2c F y7 y8 (fun s=>some (Sum.inl s)) (fun z=>some (Sum.inr z))
def lc100_2 (F:Nat):Lc:=mkL [0,3] [.u64,(.rw 0)] [.row 5 .u8] [0,3] [.u64,(.rw 0)] [.row 5 .u8] F (fun x y (s:UInt64×Zb)=>L100_2 F s.1 s.2) (fun x y=>(x.1,y.1)) (fun x y (z:UInt64×Zb)=>((z.1,(),()),(z.2,())))
theorem lo100_2 (F:Nat):LcOk Tryz.prog (E100 F) 0 (lc100_2 F) (cAt (bodyOf Tryz.f100) [0,1,1]):=
 mkL_ok (lp:=[]) (id:=0) (b:=cAt (bodyOf Tryz.f100) (0 :: 0 :: [0,1,1])) cok (cts100 F) mixed trivial (by kernel_rfl) (by kernel_rfl) (fun x y s=>(s.1,(),())) (fun x y s=>(s.2,())) (fun x y=>rfl) (fun x y=>rfl) (fun x y s kA kO=>L100_2c F s.1 s.2 kA kO) (fun _ _ _ _ _=>by simp only [L100_2,L100_2c,oA,oC,oS,oN,elimS_l,elimS_r,elimS_bind]) (fun _ _ _=>by kernel_rfl)
def T100c (F:Nat) (p0:UInt64) {β:Type} (k:(Zb)->Option β):Option β:=
 (Option.bind (iter (fun s=>L100_2 F s.1 s.2) F (p0,([]:List UInt8))) fun z11=>(Option.bind (gapp z11.2 ([(z11.1.toUInt8)]:List UInt8)) fun x12=>(k x12)))
def T100 (F:Nat) (p0:UInt64):=T100c F p0 some
def ct100 (F:Nat):Ct:=mkC 0 [.u64] [] [(.rw 0)] [.row 5 .u8] (fun x y=>T100 F x.1) (fun x y (z:Zb)=>(((),()),(z,())))
theorem ok100 (F:Nat):Sound Tryz.prog cfg 100 (ct100 F):=
 mkC_ok (E:=E100 F) (lp:=[([0,1,1],lc100_2 F)]) (code:=bodyOf Tryz.f100) Tryz.func100 rfl Tryz.ntmps100 rfl rfl cok (cts100 F) mixed ⟨lo100_2 F,trivial⟩ (by kernel_rfl) (fun x y k=>T100c F x.1 k) (fun _ _ _=>by simp only [T100,T100c,oA,oC,oS,oN,elimS_bind]) (fun _ _=>by kernel_rfl)
def ord165:Nat->List (Tag×Nat)
 | 16=>[(.p,0),(.p,1),(.p,2),(.r,3),(.p,4),(.p,5),(.p,6),(.p,7),(.p,8),(.r,9),(.p,10)]
 | _=>[]
def E165 (F:Nat):Ev:=⟨cfg,75,ctOf [(100,ct100 F)],ord165,ctOf [],fun _=>none,fun _=>none⟩
theorem cts165 (F:Nat):CtsOk Tryz.prog (E165 F):=cts_of (l:=[(100,ct100 F)]) (l':=[]) rfl rfl ⟨⟨ok100 F,_,Tryz.func100,rfl,rfl⟩,trivial⟩ trivial
def L165_5c (F:Nat) (y40:List UInt8) (y41:Int) (y43:UInt64) (y44:Int) {β:Type} (kA:(UInt64×Int)->Option β) (kO:UInt64->Option β):Option β:=
 (bif (decide ((0:Int)≤y44)) then (Option.bind (ix y40 (w64 (y41 + y44))) fun x46=>(kA (((y43 * (UInt64.ofNat 128)) + ((x46 % (UInt8.ofNat 128)).toUInt64)),(w64 (y44 - (1:Int)))))) else (kO y43))
def L165_5 (F:Nat) (y40:List UInt8) (y41:Int) (y43:UInt64) (y44:Int):=L165_5c F y40 y41 y43 y44 (fun s=>some (Sum.inl s)) (fun z=>some (Sum.inr z))
def lc165_5 (F:Nat):Lc:=mkL [0,1,7,8,9] [(.ro .u8),.i,.i,.u64,.i] [] [0,1,7,8] [(.ro .u8),.i,.i,.u64] [] F (fun x y (s:UInt64×Int)=>L165_5 F x.1 x.2.1 s.1 s.2) (fun x y=>(x.2.2.2.1,x.2.2.2.2.1)) (fun x y (z:UInt64)=>((x.1,x.2.1,x.2.2.1,z,()),()))
theorem lo165_5 (F:Nat):LcOk Tryz.prog (E165 F) 0 (lc165_5 F) (cAt (bodyOf Tryz.f165) [1,0,1,1,0,0,1,0,0,1,0,1]):=
 mkL_ok (lp:=[]) (id:=2) (b:=cAt (bodyOf Tryz.f165) (0 :: 0 :: [1,0,1,1,0,0,1,0,0,1,0,1])) cok (cts165 F) mixed trivial (by kernel_rfl) (by kernel_rfl) (fun x y s=>(x.1,x.2.1,x.2.2.1,s.1,s.2,())) (fun x y s=>()) (fun x y=>rfl) (fun x y=>rfl) (fun x y s kA kO=>L165_5c F x.1 x.2.1 s.1 s.2 kA kO) (fun _ _ _ _ _=>by simp only [L165_5,L165_5c,oA,oC,oS,oN,elimS_l,elimS_r,elimS_bind]) (fun _ _ _=>by kernel_rfl)
def L165_6c (F:Nat) (y49:List UInt8) (y50:Int) (y51:Int) (y54:List UInt8) (y53:Int) {β:Type} (kA:Int->Option β) (kO:Unit->Option β) (kR:Zq->Option β):Option β:=
 (bif (decide (y53 < y51)) then (Option.bind (inb y54.length y53) fun x58=>(Option.bind (y54[x58]?) fun x59=>(Option.bind (ix y49 (w64 (y50 + y53))) fun x60=>(bif (x59 != x60) then (kR ((UInt64.ofNat 0),(0:Int),false)) else (kA (w64 (y53 + (1:Int)))))))) else (kO ()))
def L165_6 (F:Nat) (y49:List UInt8) (y50:Int) (y51:Int) (y54:List UInt8) (y53:Int):Option ((Int) ⊕ ((Unit) ⊕ Zq)):=L165_6c F y49 y50 y51 y54 y53 (fun s=>some (.inl s)) (fun z=>some (.inr (.inl z))) (fun z=>some (.inr (.inr z)))
theorem L165_6n (F:Nat) (y49:List UInt8) (y50:Int) (y51:Int) (y54:List UInt8) (y53:Int) {β:Type} (kA:Int->Option β) (kO:Unit->Option β) (kR:Zq->Option β):L165_6c F y49 y50 y51 y54 y53 kA kO kR=(L165_6 F y49 y50 y51 y54 y53).bind (elimS kA (elimS kO kR)):=by
 simp only [L165_6,L165_6c,oA,oC,oS,oN,elimS_l,elimS_r,elimS_bind]
def lc165_6 (F:Nat):Lc:=mkR [0,1,7,8,10,11] [(.ro .u8),.i,.i,.u64,(.rw 0),.i] [.row 5 .u8] [1,7,8] [.i,.i,.u64] [] [4,5,6] [.u64,.i,.bo] [] F (fun x y (s:Int)=>L165_6 F x.1 x.2.1 x.2.2.1 y.1 s) (fun x y=>x.2.2.2.2.2.1) (fun x y (z:Unit)=>((x.2.1,x.2.2.1,x.2.2.2.1,()),())) (fun x y (z:UInt64×Int×Bool)=>((z.1,z.2.1,z.2.2,()),()))
theorem lo165_6 (F:Nat):LcOk Tryz.prog (E165 F) 0 (lc165_6 F) (cAt (bodyOf Tryz.f165) [1,0,1,1,1,1,1,0,0,1,0,0,1,0,1]):=
 mkR_ok (lp:=[]) (id:=4) (b:=cAt (bodyOf Tryz.f165) (0 :: 0 :: [1,0,1,1,1,1,1,0,0,1,0,0,1,0,1])) cok (cts165 F) mixed trivial (by kernel_rfl) (by kernel_rfl) (fun x y s=>(x.1,x.2.1,x.2.2.1,x.2.2.2.1,(),s,())) (fun x y s=>(y.1,())) (fun x y=>rfl) (fun x y=>rfl) (fun x y s kA kO kR=>L165_6c F x.1 x.2.1 x.2.2.1 y.1 s kA kO kR) (fun x y s kA kO kR=>L165_6n F x.1 x.2.1 x.2.2.1 y.1 s kA kO kR) (fun _ _ _=>by kernel_rfl)
def L165_4c (F:Nat) (y32:List UInt8) (y33:Int) (y34:Int) {β:Type} (kA:Int->Option β) (kO:Unit->Option β) (kR:Zq->Option β):Option β:=
 (bif (decide (y34≤(10:Int))) then (bif (decide ((w64 (y33 + y34))≤(y32.length:Int))) then (Option.bind (ix y32 (w64 ((w64 (y33 + y34)) - (1:Int)))) fun x39=>(bif (decide ((UInt8.ofNat 128)≤x39)) then (kA (w64 (y34 + (1:Int)))) else (Option.bind (iter (fun s=>L165_5 F y32 y33 s.1 s.2) F ((UInt64.ofNat 0),(w64 (y34 - (1:Int))))) fun z47=>(Option.bind (T100 F z47) fun z48=>(bif ((z48.length:Int) != y34) then (kR ((UInt64.ofNat 0),(0:Int),false)) else (Option.bind (iter (fun s=>L165_6 F y32 y33 y34 z48 s) F (0:Int)) fun z61=>elimS (fun z61=>(kR (z47,(w64 (y33 + y34)),true))) (fun z61=>(kR (z61.1,z61.2.1,z61.2.2))) z61)))))) else (kO ())) else (kO ()))
def L165_4 (F:Nat) (y32:List UInt8) (y33:Int) (y34:Int):Option ((Int) ⊕ ((Unit) ⊕ Zq)):=L165_4c F y32 y33 y34 (fun s=>some (.inl s)) (fun z=>some (.inr (.inl z))) (fun z=>some (.inr (.inr z)))
theorem L165_4n (F:Nat) (y32:List UInt8) (y33:Int) (y34:Int) {β:Type} (kA:Int->Option β) (kO:Unit->Option β) (kR:Zq->Option β):L165_4c F y32 y33 y34 kA kO kR=(L165_4 F y32 y33 y34).bind (elimS kA (elimS kO kR)):=by
 simp only [L165_4,L165_4c,oA,oC,oS,oN,elimS_l,elimS_r,elimS_bind]
def lc165_4 (F:Nat):Lc:=mkR [0,1,7] [(.ro .u8),.i,.i] [] [] [] [] [4,5,6] [.u64,.i,.bo] [] F (fun x y (s:Int)=>L165_4 F x.1 x.2.1 s) (fun x y=>x.2.2.1) (fun x y (z:Unit)=>((),())) (fun x y (z:UInt64×Int×Bool)=>((z.1,z.2.1,z.2.2,()),()))
theorem lo165_4 (F:Nat):LcOk Tryz.prog (E165 F) 0 (lc165_4 F) (cAt (bodyOf Tryz.f165) [1,0,1]):=
 mkR_ok (lp:=[([1,0,1,1,0,0,1,0,0,1,0,1],lc165_5 F),([1,0,1,1,1,1,1,0,0,1,0,0,1,0,1],lc165_6 F)]) (id:=0) (b:=cAt (bodyOf Tryz.f165) (0 :: 0 :: [1,0,1])) cok (cts165 F) mixed ⟨lo165_5 F,⟨lo165_6 F,trivial⟩⟩ (by kernel_rfl) (by kernel_rfl) (fun x y s=>(x.1,x.2.1,s,())) (fun x y s=>()) (fun x y=>rfl) (fun x y=>rfl) (fun x y s kA kO kR=>L165_4c F x.1 x.2.1 s kA kO kR) (fun x y s kA kO kR=>L165_4n F x.1 x.2.1 s kA kO kR) (fun _ _ _=>by kernel_rfl)
def T165c (F:Nat) (p0:List UInt8) (p1:Int) {β:Type} (k:Zq->Option β):Option β:=
 (Option.bind (iter (fun s=>L165_4 F p0 p1 s) F (1:Int)) fun z62=>elimS (fun z62=>(k ((UInt64.ofNat 0),(0:Int),false))) (fun z62=>(k (z62.1,z62.2.1,z62.2.2))) z62)
def T165 (F:Nat) (p0:List UInt8) (p1:Int):=T165c F p0 p1 some
def ct165 (F:Nat):Ct:=mkC 0 [(.ro .u8),.i] [] [.u64,.i,.bo] [] (fun x y=>T165 F x.1 x.2.1) (fun x y (z:UInt64×Int×Bool)=>((z.1,z.2.1,z.2.2,()),()))
theorem ok165 (F:Nat):Sound Tryz.prog cfg 165 (ct165 F):=
 mkC_ok (E:=E165 F) (lp:=[([1,0,1],lc165_4 F)]) (code:=bodyOf Tryz.f165) Tryz.func165 rfl Tryz.ntmps165 rfl rfl cok (cts165 F) mixed ⟨lo165_4 F,trivial⟩ (by kernel_rfl) (fun x y k=>T165c F x.1 x.2.1 k) (fun _ _ _=>by simp only [T165,T165c,oA,oC,oS,oN,elimS_bind]) (fun _ _=>by kernel_rfl)
def E166 (F:Nat):Ev:=⟨cfg,14,ctOf [],fun _=>[],ctOf [],fun _=>none,fun _=>none⟩
theorem cts166 (F:Nat):CtsOk Tryz.prog (E166 F):=cts_of (l:=[]) (l':=[]) rfl rfl trivial trivial
def T166c (F:Nat) (p0:UInt64) {β:Type} (k:Int->Option β):Option β:=
 (bif ((p0 % (UInt64.ofNat 2)) == (UInt64.ofNat 0)) then (k (w64 ((p0 / (UInt64.ofNat 2)).toNat:Int))) else (k (w64 ((w64 (0 - (w64 ((p0 / (UInt64.ofNat 2)).toNat:Int)))) - (1:Int)))))
def T166 (F:Nat) (p0:UInt64):=T166c F p0 some
def ct166 (F:Nat):Ct:=mkC 0 [.u64] [] [.i] [] (fun x y=>T166 F x.1) (fun x y (z:Int)=>((z,()),()))
theorem ok166 (F:Nat):Sound Tryz.prog cfg 166 (ct166 F):=
 mkC_ok (E:=E166 F) (lp:=[]) (code:=bodyOf Tryz.f166) Tryz.func166 rfl Tryz.ntmps166 rfl rfl cok (cts166 F) mixed trivial (by kernel_rfl) (fun x y k=>T166c F x.1 k) (fun _ _ _=>by simp only [T166,T166c,oA,oC,oS,oN,elimS_bind]) (fun _ _=>by kernel_rfl)
def E131 (F:Nat):Ev:=⟨cfg,123,ctOf [(165,ct165 F),(166,ct166 F)],fun _=>[],ctOf [],fun _=>none,fun _=>none⟩
theorem cts131 (F:Nat):CtsOk Tryz.prog (E131 F):=cts_of (l:=[(165,ct165 F),(166,ct166 F)]) (l':=[]) rfl rfl ⟨⟨ok165 F,_,Tryz.func165,rfl,rfl⟩,⟨⟨ok166 F,_,Tryz.func166,rfl,rfl⟩,trivial⟩⟩ trivial
def T131c (F:Nat) (p0:List UInt8) (p1:Int) (p2:Int) (p3:Int) {β:Type} (k:(UInt64×Int×Bool×Zb×Int×Int)->Option β):Option β:=
 (bif (p2 == (6:Int)) then (bif (decide ((w64 ((p0.length:Int) - p1)) < (32:Int))) then (k ((0:UInt64),(0:Int),false,([]:List UInt8),p1,(3:Int))) else (Option.bind (gsl p0 p1 (w64 (p1 + (32:Int)))) fun x7=>(k ((0:UInt64),(0:Int),false,x7,(w64 (p1 + (32:Int))),(0:Int))))) else (bif (p2 == (3:Int)) then (bif (decide ((p0.length:Int)≤p1)) then (k ((0:UInt64),(0:Int),false,([]:List UInt8),p1,(3:Int))) else (Option.bind (ix p0 p1) fun x8=>(bif (decide ((UInt8.ofNat 1) < x8)) then (k ((0:UInt64),(0:Int),false,([]:List UInt8),p1,(3:Int))) else (Option.bind (ix p0 p1) fun x9=>(k ((0:UInt64),(0:Int),(x9 == (UInt8.ofNat 1)),([]:List UInt8),(w64 (p1 + (1:Int))),(0:Int))))))) else (Option.bind (T165 F p0 p1) fun z10=>(bif (!z10.2.2) then (k ((0:UInt64),(0:Int),false,([]:List UInt8),p1,(3:Int))) else (bif (p2 == (1:Int)) then (k (z10.1,(0:Int),false,([]:List UInt8),z10.2.1,(0:Int))) else (bif (p2 == (2:Int)) then (Option.bind (T166 F z10.1) fun z11=>(k ((0:UInt64),z11,false,([]:List UInt8),z10.2.1,(0:Int)))) else (bif (decide ((UInt64.ofInt (if p3 < (0:Int) then (0:Int) else p3)) < z10.1)) then (k ((0:UInt64),(0:Int),false,([]:List UInt8),p1,(2:Int))) else (bif (p2 == (7:Int)) then (k ((0:UInt64),(w64 (z10.1.toNat:Int)),false,([]:List UInt8),z10.2.1,(0:Int))) else (bif (decide ((UInt64.ofInt (w64 ((p0.length:Int) - z10.2.1))) < z10.1)) then (k ((0:UInt64),(0:Int),false,([]:List UInt8),p1,(3:Int))) else (Option.bind (gsl p0 z10.2.1 (w64 (z10.2.1 + (w64 (z10.1.toNat:Int))))) fun x12=>(k ((0:UInt64),(0:Int),false,x12,(w64 (z10.2.1 + (w64 (z10.1.toNat:Int)))),(0:Int)))))))))))))
def T131 (F:Nat) (p0:List UInt8) (p1:Int) (p2:Int) (p3:Int):=T131c F p0 p1 p2 p3 some
def ct131 (F:Nat):Ct:=mkC 0 [(.ro .u8),.i,.i,.i] [] [(.pr .i (.pr .u64 (.pr .i (.pr .bo (.pr .str (.pr .i .un)))))),.i,.i] [] (fun x y=>T131 F x.1 x.2.1 x.2.2.1 x.2.2.2.1) (fun x y (z:UInt64×Int×Bool×Zb×Int×Int)=>(((x.2.2.1,z.1,z.2.1,z.2.2.1,z.2.2.2.1,x.2.2.2.1,()),z.2.2.2.2.1,z.2.2.2.2.2,()),()))
theorem ok131 (F:Nat):Sound Tryz.prog cfg 131 (ct131 F):=
 mkC_ok (E:=E131 F) (lp:=[]) (code:=bodyOf Tryz.f131) Tryz.func131 rfl Tryz.ntmps131 rfl rfl cok (cts131 F) mixed trivial (by kernel_rfl) (fun x y k=>T131c F x.1 x.2.1 x.2.2.1 x.2.2.2.1 k) (fun _ _ _=>by simp only [T131,T131c,oA,oC,oS,oN,elimS_bind]) (fun _ _=>by kernel_rfl)
def ord85x1:Nat->List (Tag×Nat)
 | 7=>[(.p,0),(.p,1),(.p,2),(.c,3),(.p,4),(.p,5),(.p,6),(.c,7),(.p,8),(.p,9),(.w,10),(.p,11),(.p,12),(.p,13),(.p,14),(.w,15),(.b,16),(.p,17),(.p,18)]
 | _=>[]
def al85x1:Nat->Option Nat
 | 7=>some 15
 | _=>none
def ms85x1:Nat->Option (List (Option Tag×Nat×List Nat))
 | _=>none
def E85x1 (F:Nat):Ev:=⟨cfg,67,ctOf [(131,ct131 F)],ord85x1,ctOf [],al85x1,ms85x1⟩
theorem cts85x1 (F:Nat):CtsOk Tryz.prog (E85x1 F):=cts_of (l:=[(131,ct131 F)]) (l':=[]) rfl rfl ⟨⟨ok131 F,_,Tryz.func131,rfl,rfl⟩,trivial⟩ trivial
def T85x1c (F:Nat) (p0:Int) (p1:Int) (p2:Int) (p3:Int) (p4:Int) (p5:List UInt8) {β:Type} (k:(UInt64×Int×Bool×(List UInt8)×Int×Int×Int)->Option β):Option β:=
 (bif (p4 != (0:Int)) then (k ((0:UInt64),(0:Int),false,([]:List UInt8),p2,p3,p4)) else (bif (p0 == (0:Int)) then (k ((0:UInt64),(0:Int),false,([]:List UInt8),p3,p3,(3:Int))) else (Option.bind (T131 F p5 p2 p0 p1) fun z2=>(bif (z2.2.2.2.2.2 != (0:Int)) then (k ((0:UInt64),(0:Int),false,([]:List UInt8),p2,p3,z2.2.2.2.2.2)) else (k (z2.1,z2.2.1,z2.2.2.1,z2.2.2.2.1,z2.2.2.2.2.1,p2,p4))))))
def T85x1 (F:Nat) (p0:Int) (p1:Int) (p2:Int) (p3:Int) (p4:Int) (p5:List UInt8):Option (UInt64×Int×Bool×(List UInt8)×Int×Int×Int):=T85x1c F p0 p1 p2 p3 p4 p5 some
theorem T85x1n (F:Nat) (p0:Int) (p1:Int) (p2:Int) (p3:Int) (p4:Int) (p5:List UInt8) {β:Type} (k:(UInt64×Int×Bool×(List UInt8)×Int×Int×Int)->Option β):T85x1c F p0 p1 p2 p3 p4 p5 k=(T85x1 F p0 p1 p2 p3 p4 p5).bind k:=by
 simp only [T85x1,T85x1c,Option.bind_assoc,cond_bind,Option.bind_some,Option.bind_none,elimS_bind]
abbrev cA85x1:List Sh:=[(.pt 0 []),.i,.i]
abbrev cB85x1:List Sh:=[(.pr .i (.pr .u64 (.pr .i (.pr .bo (.pr .str (.pr .i .un))))))]
abbrev cT85x1:List TSh:=[.blk 130 (.pr (.rw 1) (.pr .i (.pr .i (.pr .i .un)))),.row 5 .u8]
abbrev cU85x1:List TSh:=[.blk 130 (.pr (.rw 1) (.pr .i (.pr .i (.pr .i .un)))),.row 5 .u8]
def ct85x1 (F:Nat):Ct:=mkC 2 cA85x1 cT85x1 cB85x1 cU85x1 (fun x y=>T85x1 F x.2.1 x.2.2.1 y.1.2.1 y.1.2.2.1 y.1.2.2.2.1 y.2.1) (fun x y (z:UInt64×Int×Bool×(List UInt8)×Int×Int×Int)=>(((x.2.1,z.1,z.2.1,z.2.2.1,z.2.2.2.1,x.2.2.1,()),()),(((),z.2.2.2.2.1,z.2.2.2.2.2.1,z.2.2.2.2.2.2,()),y.2.1,())))
theorem eq85x1 (F:Nat) (x:dens cA85x1) (y:tdens cT85x1):sev (E85x1 F) 2 [] (bodyOf Tryz.f85) [] (mkSt (rng 3) cA85x1 cT85x1 x y) (kFn (E85x1 F) 2 Tryz.f85.results.toList cB85x1 cU85x1 fun p q=>some (p,q)) =
  T85x1c F x.2.1 x.2.2.1 y.1.2.1 y.1.2.2.1 y.1.2.2.2.1 y.2.1 (fun z=>some (((x.2.1,z.1,z.2.1,z.2.2.1,z.2.2.2.1,x.2.2.1,()),()),(((),z.2.2.2.2.1,z.2.2.2.2.2.1,z.2.2.2.2.2.2,()),y.2.1,()))):=by kernel_rfl
theorem ok85x1 (F:Nat):Sound Tryz.prog cfg 85 (ct85x1 F):=
 mkC_ok (E:=E85x1 F) (lp:=[]) (code:=bodyOf Tryz.f85) Tryz.func85 rfl Tryz.ntmps85 rfl rfl cok (cts85x1 F) mixed trivial (by kernel_rfl) (fun x y k=>T85x1c F x.2.1 x.2.2.1 y.1.2.1 y.1.2.2.1 y.1.2.2.2.1 y.2.1 k) (fun x y k=>T85x1n F x.2.1 x.2.2.1 y.1.2.1 y.1.2.2.1 y.1.2.2.2.1 y.2.1 k) (eq85x1 F)
def ord85:Nat->List (Tag×Nat)
 | 7=>[(.p,0),(.p,1),(.p,2),(.c,3),(.p,4),(.p,5),(.p,6),(.c,7),(.p,8),(.p,9),(.w,10),(.p,11),(.p,12),(.p,13),(.p,14),(.w,15),(.b,16),(.p,17),(.p,18)]
 | _=>[]
def al85:Nat->Option Nat
 | 7=>some 15
 | _=>none
def E85 (F:Nat):Ev:=⟨cfg,67,ctOf [(131,ct131 F)],ord85,ctOf [],al85,fun _=>none⟩
theorem cts85 (F:Nat):CtsOk Tryz.prog (E85 F):=cts_of (l:=[(131,ct131 F)]) (l':=[]) rfl rfl ⟨⟨ok131 F,_,Tryz.func131,rfl,rfl⟩,trivial⟩ trivial
def T85c (F:Nat) (p0:Int) (p1:Int) (p2:List UInt8) (p3:Int) (p4:Int) (p5:Int) {β:Type} (k:(UInt64×Int×Bool×Zb×Int×Int×Int)->Option β):Option β:=
 (bif (p5 != (0:Int)) then (k ((0:UInt64),(0:Int),false,([]:List UInt8),p3,p4,p5)) else (bif (p0 == (0:Int)) then (k ((0:UInt64),(0:Int),false,([]:List UInt8),p4,p4,(3:Int))) else (Option.bind (T131 F p2 p3 p0 p1) fun z2=>(bif (z2.2.2.2.2.2 != (0:Int)) then (k ((0:UInt64),(0:Int),false,([]:List UInt8),p3,p4,z2.2.2.2.2.2)) else (k (z2.1,z2.2.1,z2.2.2.1,z2.2.2.2.1,z2.2.2.2.2.1,p3,p5))))))
def T85 (F:Nat) (p0:Int) (p1:Int) (p2:List UInt8) (p3:Int) (p4:Int) (p5:Int):=T85c F p0 p1 p2 p3 p4 p5 some
def ct85 (F:Nat):Ct:=mkC 1 [(.pt 0 [0]),.i,.i] [.blk 132 Qg] [(.pr .i (.pr .u64 (.pr .i (.pr .bo (.pr .str (.pr .i .un))))))] [.blk 132 Qg] (fun x y=>T85 F x.2.1 x.2.2.1 y.1.1.1 y.1.1.2.1 y.1.1.2.2.1 y.1.1.2.2.2.1) (fun x y (z:UInt64×Int×Bool×Zb×Int×Int×Int)=>(((x.2.1,z.1,z.2.1,z.2.2.1,z.2.2.2.1,x.2.2.1,()),()),(((y.1.1.1,z.2.2.2.2.1,z.2.2.2.2.2.1,z.2.2.2.2.2.2,()),()),())))
theorem ok85 (F:Nat):Sound Tryz.prog cfg 85 (ct85 F):=
 mkC_ok (E:=E85 F) (lp:=[]) (code:=bodyOf Tryz.f85) Tryz.func85 rfl Tryz.ntmps85 rfl rfl cok (cts85 F) mixed trivial (by kernel_rfl) (fun x y k=>T85c F x.2.1 x.2.2.1 y.1.1.1 y.1.1.2.1 y.1.1.2.2.1 y.1.1.2.2.2.1 k) (fun _ _ _=>by simp only [T85,T85c,oA,oC,oS,oN,elimS_bind]) (fun _ _=>by kernel_rfl)
def E82 (F:Nat):Ev:=⟨cfg,8,ctOf [(85,ct85 F)],fun _=>[],ctOf [],fun _=>none,fun _=>none⟩
theorem cts82 (F:Nat):CtsOk Tryz.prog (E82 F):=cts_of (l:=[(85,ct85 F)]) (l':=[]) rfl rfl ⟨⟨ok85 F,_,Tryz.func85,rfl,rfl⟩,trivial⟩ trivial
def T82c (F:Nat) (p0:List UInt8) (p1:Int) (p2:Int) (p3:Int) {β:Type} (k:Zs->Option β):Option β:=
 (Option.bind (T85 F (2:Int) (0:Int) p0 p1 p2 p3) fun z2=>(k (z2.2.1,z2.2.2.2.2.1,z2.2.2.2.2.2.1,z2.2.2.2.2.2.2)))
def T82 (F:Nat) (p0:List UInt8) (p1:Int) (p2:Int) (p3:Int):=T82c F p0 p1 p2 p3 some
def ct82 (F:Nat):Ct:=mkC 1 [(.pt 0 [])] [.blk 132 Qg] [.i] [.blk 132 Qg] (fun x y=>T82 F y.1.1.1 y.1.1.2.1 y.1.1.2.2.1 y.1.1.2.2.2.1) (fun x y (z:Int×Int×Int×Int)=>((z.1,()),(((y.1.1.1,z.2.1,z.2.2.1,z.2.2.2,()),()),())))
theorem ok82 (F:Nat):Sound Tryz.prog cfg 82 (ct82 F):=
 mkC_ok (E:=E82 F) (lp:=[]) (code:=bodyOf Tryz.f82) Tryz.func82 rfl Tryz.ntmps82 rfl rfl cok (cts82 F) mixed trivial (by kernel_rfl) (fun x y k=>T82c F y.1.1.1 y.1.1.2.1 y.1.1.2.2.1 y.1.1.2.2.2.1 k) (fun _ _ _=>by simp only [T82,T82c,oA,oC,oS,oN,elimS_bind]) (fun _ _=>by kernel_rfl)
def E83 (F:Nat):Ev:=⟨cfg,11,ctOf [(85,ct85 F)],fun _=>[],ctOf [],fun _=>none,fun _=>none⟩
theorem cts83 (F:Nat):CtsOk Tryz.prog (E83 F):=cts_of (l:=[(85,ct85 F)]) (l':=[]) rfl rfl ⟨⟨ok85 F,_,Tryz.func85,rfl,rfl⟩,trivial⟩ trivial
def T83c (F:Nat) (p0:Int) (p1:List UInt8) (p2:Int) (p3:Int) (p4:Int) {β:Type} (k:Zs->Option β):Option β:=
 (Option.bind (T85 F (7:Int) p0 p1 p2 p3 p4) fun z2=>(k (z2.2.1,z2.2.2.2.2.1,z2.2.2.2.2.2.1,z2.2.2.2.2.2.2)))
def T83 (F:Nat) (p0:Int) (p1:List UInt8) (p2:Int) (p3:Int) (p4:Int):=T83c F p0 p1 p2 p3 p4 some
def ct83 (F:Nat):Ct:=mkC 1 [(.pt 0 []),.i] [.blk 132 Qg] [.i] [.blk 132 Qg] (fun x y=>T83 F x.2.1 y.1.1.1 y.1.1.2.1 y.1.1.2.2.1 y.1.1.2.2.2.1) (fun x y (z:Int×Int×Int×Int)=>((z.1,()),(((y.1.1.1,z.2.1,z.2.2.1,z.2.2.2,()),()),())))
theorem ok83 (F:Nat):Sound Tryz.prog cfg 83 (ct83 F):=
 mkC_ok (E:=E83 F) (lp:=[]) (code:=bodyOf Tryz.f83) Tryz.func83 rfl Tryz.ntmps83 rfl rfl cok (cts83 F) mixed trivial (by kernel_rfl) (fun x y k=>T83c F x.2.1 y.1.1.1 y.1.1.2.1 y.1.1.2.2.1 y.1.1.2.2.2.1 k) (fun _ _ _=>by simp only [T83,T83c,oA,oC,oS,oN,elimS_bind]) (fun _ _=>by kernel_rfl)
def E84 (F:Nat):Ev:=⟨cfg,13,ctOf [(85,ct85 F),(82,ct82 F)],fun _=>[],ctOf [],fun _=>none,fun _=>none⟩
theorem cts84 (F:Nat):CtsOk Tryz.prog (E84 F):=cts_of (l:=[(85,ct85 F),(82,ct82 F)]) (l':=[]) rfl rfl ⟨⟨ok85 F,_,Tryz.func85,rfl,rfl⟩,⟨⟨ok82 F,_,Tryz.func82,rfl,rfl⟩,trivial⟩⟩ trivial
def T84c (F:Nat) (p0:List UInt8) (p1:Int) (p2:Int) (p3:Int) {β:Type} (k:(Zb×Int×Int×Int×Int×Int)->Option β):Option β:=
 (Option.bind (T85 F (6:Int) (0:Int) p0 p1 p2 p3) fun z4=>(Option.bind (T82 F p0 z4.2.2.2.2.1 z4.2.2.2.2.2.1 z4.2.2.2.2.2.2) fun z5=>(Option.bind (T82 F p0 z5.2.1 z5.2.2.1 z5.2.2.2) fun z6=>(k (z4.2.2.2.1,z5.1,z6.1,z6.2.1,z6.2.2.1,z6.2.2.2)))))
def T84 (F:Nat) (p0:List UInt8) (p1:Int) (p2:Int) (p3:Int):=T84c F p0 p1 p2 p3 some
def ct84 (F:Nat):Ct:=mkC 1 [(.pt 0 [])] [.blk 132 Qg] [(.pr .str (.pr .i (.pr .i .un)))] [.blk 132 Qg] (fun x y=>T84 F y.1.1.1 y.1.1.2.1 y.1.1.2.2.1 y.1.1.2.2.2.1) (fun x y (z:Zb×Int×Int×Int×Int×Int)=>(((z.1,z.2.1,z.2.2.1,()),()),(((y.1.1.1,z.2.2.2.1,z.2.2.2.2.1,z.2.2.2.2.2,()),()),())))
theorem ok84 (F:Nat):Sound Tryz.prog cfg 84 (ct84 F):=
 mkC_ok (E:=E84 F) (lp:=[]) (code:=bodyOf Tryz.f84) Tryz.func84 rfl Tryz.ntmps84 rfl rfl cok (cts84 F) mixed trivial (by kernel_rfl) (fun x y k=>T84c F y.1.1.1 y.1.1.2.1 y.1.1.2.2.1 y.1.1.2.2.2.1 k) (fun _ _ _=>by simp only [T84,T84c,oA,oC,oS,oN,elimS_bind]) (fun _ _=>by kernel_rfl)
def E86 (F:Nat):Ev:=⟨cfg,21,ctOf [(83,ct83 F),(84,ct84 F)],fun _=>[],ctOf [],fun _=>none,fun _=>none⟩
theorem cts86 (F:Nat):CtsOk Tryz.prog (E86 F):=cts_of (l:=[(83,ct83 F),(84,ct84 F)]) (l':=[]) rfl rfl ⟨⟨ok83 F,_,Tryz.func83,rfl,rfl⟩,⟨⟨ok84 F,_,Tryz.func84,rfl,rfl⟩,trivial⟩⟩ trivial
def L86_2c (F:Nat) (y15:List UInt8) (y14:Int) (y16:Int) (y17:Int) (y18:Int) (y19:List Za) {β:Type} (kA:(Int×Int×Int×Int×(List Za))->Option β) (kO:(Int×Int×Int×(List Za))->Option β):Option β:=
 (bif (decide ((0:Int) < y14)) then (Option.bind (T84 F y15 y16 y17 y18) fun z22=>(Option.bind (gapp y19 ([(z22.1,z22.2.1,z22.2.2.1,())]:List Za)) fun x23=>(kA ((w64 (y14 - (1:Int))),z22.2.2.2.1,z22.2.2.2.2.1,z22.2.2.2.2.2,x23)))) else (kO (y16,y17,y18,y19)))
def L86_2 (F:Nat) (y15:List UInt8) (y14:Int) (y16:Int) (y17:Int) (y18:Int) (y19:List Za):=L86_2c F y15 y14 y16 y17 y18 y19 (fun s=>some (Sum.inl s)) (fun z=>some (Sum.inr z))
def lc86_2 (F:Nat):Lc:=mkL [0,5,6] [(.pt 0 []),(.rw 1),.i] [.blk 132 Qg,.row 88 Qi] [5] [(.rw 1)] [.blk 132 Qg,.row 88 Qi] F (fun x y (s:Int×Int×Int×Int×(List Za))=>L86_2 F y.1.1.1 s.1 s.2.1 s.2.2.1 s.2.2.2.1 s.2.2.2.2) (fun x y=>(x.2.2.1,y.1.1.2.1,y.1.1.2.2.1,y.1.1.2.2.2.1,y.2.1)) (fun x y (z:Int×Int×Int×(List Za))=>(((),()),(((y.1.1.1,z.1,z.2.1,z.2.2.1,()),()),z.2.2.2,())))
theorem lo86_2 (F:Nat):LcOk Tryz.prog (E86 F) 1 (lc86_2 F) (cAt (bodyOf Tryz.f86) [1,0,1,1]):=
 mkL_ok (lp:=[]) (id:=0) (b:=cAt (bodyOf Tryz.f86) (0 :: 0 :: [1,0,1,1])) cok (cts86 F) mixed trivial (by kernel_rfl) (by kernel_rfl) (fun x y s=>((),(),s.1,())) (fun x y s=>(((y.1.1.1,s.2.1,s.2.2.1,s.2.2.2.1,()),()),s.2.2.2.2,())) (fun x y=>rfl) (fun x y=>rfl) (fun x y s kA kO=>L86_2c F y.1.1.1 s.1 s.2.1 s.2.2.1 s.2.2.2.1 s.2.2.2.2 kA kO) (fun _ _ _ _ _=>by simp only [L86_2,L86_2c,oA,oC,oS,oN,elimS_l,elimS_r,elimS_bind]) (fun _ _ _=>by kernel_rfl)
def T86c (F:Nat) (p0:Int) (p1:List UInt8) (p2:Int) (p3:Int) (p4:Int) {β:Type} (k:(Int×Int×Int×(List Za))->Option β):Option β:=
 (Option.bind (T83 F p0 p1 p2 p3 p4) fun z13=>(Option.bind (iter (fun s=>L86_2 F p1 s.1 s.2.1 s.2.2.1 s.2.2.2.1 s.2.2.2.2) F (z13.1,z13.2.1,z13.2.2.1,z13.2.2.2,([]:List Za))) fun z24=>(k (z24.1,z24.2.1,z24.2.2.1,z24.2.2.2))))
def T86 (F:Nat) (p0:Int) (p1:List UInt8) (p2:Int) (p3:Int) (p4:Int):=T86c F p0 p1 p2 p3 p4 some
def ct86 (F:Nat):Ct:=mkC 1 [(.pt 0 []),.i] [.blk 132 Qg] [(.rw 1)] [.blk 132 Qg,.row 88 Qi] (fun x y=>T86 F x.2.1 y.1.1.1 y.1.1.2.1 y.1.1.2.2.1 y.1.1.2.2.2.1) (fun x y (z:Int×Int×Int×(List Za))=>(((),()),(((y.1.1.1,z.1,z.2.1,z.2.2.1,()),()),z.2.2.2,())))
theorem ok86 (F:Nat):Sound Tryz.prog cfg 86 (ct86 F):=
 mkC_ok (E:=E86 F) (lp:=[([1,0,1,1],lc86_2 F)]) (code:=bodyOf Tryz.f86) Tryz.func86 rfl Tryz.ntmps86 rfl rfl cok (cts86 F) mixed ⟨lo86_2 F,trivial⟩ (by kernel_rfl) (fun x y k=>T86c F x.2.1 y.1.1.1 y.1.1.2.1 y.1.1.2.2.1 y.1.1.2.2.2.1 k) (fun _ _ _=>by simp only [T86,T86c,oA,oC,oS,oN,elimS_bind]) (fun _ _=>by kernel_rfl)
def ord87:Nat->List (Tag×Nat)
 | 1=>[(.p,0),(.p,1),(.p,2),(.r,3),(.p,4),(.p,5),(.p,6),(.p,7),(.p,8),(.r,9),(.p,10),(.p,11),(.p,12),(.r,13),(.p,14),(.p,15),(.p,16)]
 | 3=>[(.p,0),(.p,1),(.p,2),(.r,3),(.p,4),(.p,5),(.p,6),(.r,7),(.p,8),(.p,9)]
 | _=>[]
def E87 (F:Nat):Ev:=⟨cfg,33,ctOf [],ord87,ctOf [],fun _=>none,fun _=>none⟩
theorem cts87 (F:Nat):CtsOk Tryz.prog (E87 F):=cts_of (l:=[]) (l':=[]) rfl rfl trivial trivial
def T87c (F:Nat) (p0:Zb×Int×Int×Int×Unit) {β:Type} (k:(Int×Int)->Option β):Option β:=
 (bif (p0.2.2.2.1 == (0:Int)) then (bif (decide (p0.2.1 < (p0.1.length:Int))) then (k (p0.2.1,(3:Int))) else (k (p0.2.1,p0.2.2.2.1))) else (k (p0.2.1,p0.2.2.2.1)))
def T87 (F:Nat) (p0:Zb×Int×Int×Int×Unit):=T87c F p0 some
def ct87 (F:Nat):Ct:=mkC 0 [(.re (.pr (.sl .u8) (.pr .i (.pr .i (.pr .i .un)))))] [] [.i,.i] [] (fun x y=>T87 F x.1) (fun x y (z:Int×Int)=>((z.1,z.2,()),()))
theorem ok87 (F:Nat):Sound Tryz.prog cfg 87 (ct87 F):=
 mkC_ok (E:=E87 F) (lp:=[]) (code:=bodyOf Tryz.f87) Tryz.func87 rfl Tryz.ntmps87 rfl rfl cok (cts87 F) mixed trivial (by kernel_rfl) (fun x y k=>T87c F x.1 k) (fun _ _ _=>by simp only [T87,T87c,oA,oC,oS,oN,elimS_bind]) (fun _ _=>by kernel_rfl)
def E118 (F:Nat):Ev:=⟨cfg,15,ctOf [],fun _=>[],ctOf [],fun _=>none,fun _=>none⟩
theorem cts118 (F:Nat):CtsOk Tryz.prog (E118 F):=cts_of (l:=[]) (l':=[]) rfl rfl trivial trivial
def T118c (F:Nat) (p0:Int) (p1:Int) (p2:Int) {β:Type} (k:Bool->Option β):Option β:=
 (bif (decide (p1≤p0)) then (k (decide (p0≤p2))) else (k false))
def T118 (F:Nat) (p0:Int) (p1:Int) (p2:Int):=T118c F p0 p1 p2 some
def ct118 (F:Nat):Ct:=mkC 0 [.i,.i,.i] [] [.bo] [] (fun x y=>T118 F x.1 x.2.1 x.2.2.1) (fun x y (z:Bool)=>((z,()),()))
theorem ok118 (F:Nat):Sound Tryz.prog cfg 118 (ct118 F):=
 mkC_ok (E:=E118 F) (lp:=[]) (code:=bodyOf Tryz.f118) Tryz.func118 rfl Tryz.ntmps118 rfl rfl cok (cts118 F) mixed trivial (by kernel_rfl) (fun x y k=>T118c F x.1 x.2.1 x.2.2.1 k) (fun _ _ _=>by simp only [T118,T118c,oA,oC,oS,oN,elimS_bind]) (fun _ _=>by kernel_rfl)
def E119 (F:Nat):Ev:=⟨cfg,17,ctOf [(118,ct118 F)],fun _=>[],ctOf [],fun _=>none,fun _=>none⟩
theorem cts119 (F:Nat):CtsOk Tryz.prog (E119 F):=cts_of (l:=[(118,ct118 F)]) (l':=[]) rfl rfl ⟨⟨ok118 F,_,Tryz.func118,rfl,rfl⟩,trivial⟩ trivial
def T119c (F:Nat) (p0:List UInt8) (p1:Int) (p2:Int) {β:Type} (k:Bool->Option β):Option β:=
 (bif ((p0.length:Int) == (32:Int)) then (Option.bind (T118 F p1 (0:Int) (1099511627776:Int)) fun z3=>(bif z3 then (Option.bind (T118 F p2 (0:Int) (32768:Int)) fun z4=>(k z4)) else (k false))) else (k false))
def T119 (F:Nat) (p0:List UInt8) (p1:Int) (p2:Int):=T119c F p0 p1 p2 some
def ct119 (F:Nat):Ct:=mkC 0 [(.pr .str (.pr .i (.pr .i .un)))] [] [.bo] [] (fun x y=>T119 F x.1.1 x.1.2.1 x.1.2.2.1) (fun x y (z:Bool)=>((z,()),()))
theorem ok119 (F:Nat):Sound Tryz.prog cfg 119 (ct119 F):=
 mkC_ok (E:=E119 F) (lp:=[]) (code:=bodyOf Tryz.f119) Tryz.func119 rfl Tryz.ntmps119 rfl rfl cok (cts119 F) mixed trivial (by kernel_rfl) (fun x y k=>T119c F x.1.1 x.1.2.1 x.1.2.2.1 k) (fun _ _ _=>by simp only [T119,T119c,oA,oC,oS,oN,elimS_bind]) (fun _ _=>by kernel_rfl)
def E60 (F:Nat):Ev:=⟨cfg,176,ctOf [(118,ct118 F),(119,ct119 F)],fun _=>[],ctOf [],fun _=>none,fun _=>none⟩
theorem cts60 (F:Nat):CtsOk Tryz.prog (E60 F):=cts_of (l:=[(118,ct118 F),(119,ct119 F)]) (l':=[]) rfl rfl ⟨⟨ok118 F,_,Tryz.func118,rfl,rfl⟩,⟨⟨ok119 F,_,Tryz.func119,rfl,rfl⟩,trivial⟩⟩ trivial
def L60_7c (F:Nat) (y100:List Int) (y101:Int) (y102:Int) {β:Type} (kA:Int->Option β) (kO:Unit->Option β) (kR:Bool->Option β):Option β:=
 (bif (decide (y102 < y101)) then (Option.bind (ix y100 y102) fun x111=>(Option.bind (T118 F x111 (0:Int) (1099511627776:Int)) fun z112=>(bif (!z112) then (kR false) else (kA (w64 (y102 + (1:Int))))))) else (kO ()))
def L60_7 (F:Nat) (y100:List Int) (y101:Int) (y102:Int):Option ((Int) ⊕ ((Unit) ⊕ (Bool))):=L60_7c F y100 y101 y102 (fun s=>some (.inl s)) (fun z=>some (.inr (.inl z))) (fun z=>some (.inr (.inr z)))
theorem L60_7n (F:Nat) (y100:List Int) (y101:Int) (y102:Int) {β:Type} (kA:Int->Option β) (kO:Unit->Option β) (kR:Bool->Option β):L60_7c F y100 y101 y102 kA kO kR=(L60_7 F y100 y101 y102).bind (elimS kA (elimS kO kR)):=by
 simp only [L60_7,L60_7c,oA,oC,oS,oN,elimS_l,elimS_r,elimS_bind]
def lc60_7 (F:Nat):Lc:=mkR [1,48,49,50] [(.pt 0 []),(.ro .i),.i,.i] [.blk 27 Qa] [1] [(.pt 0 [])] [.blk 27 Qa] [2] [.bo] [] F (fun x y (s:Int)=>L60_7 F x.2.1 x.2.2.1 s) (fun x y=>x.2.2.2.1) (fun x y (z:Unit)=>(((),()),((y.1.1,y.1.2.1,y.1.2.2.1,y.1.2.2.2.1,y.1.2.2.2.2.1,y.1.2.2.2.2.2.1,()),()))) (fun x y (z:Bool)=>((z,()),()))
theorem lo60_7 (F:Nat):LcOk Tryz.prog (E60 F) 0 (lc60_7 F) (cAt (bodyOf Tryz.f60) [1,0,1,1]):=
 mkR_ok (lp:=[]) (id:=0) (b:=cAt (bodyOf Tryz.f60) (0 :: 0 :: [1,0,1,1])) cok (cts60 F) mixed trivial (by kernel_rfl) (by kernel_rfl) (fun x y s=>((),x.2.1,x.2.2.1,s,())) (fun x y s=>((y.1.1,y.1.2.1,y.1.2.2.1,y.1.2.2.2.1,y.1.2.2.2.2.1,y.1.2.2.2.2.2.1,()),())) (fun x y=>rfl) (fun x y=>rfl) (fun x y s kA kO kR=>L60_7c F x.2.1 x.2.2.1 s kA kO kR) (fun x y s kA kO kR=>L60_7n F x.2.1 x.2.2.1 s kA kO kR) (fun _ _ _=>by kernel_rfl)
def L60_9c (F:Nat) (y124:List Zc) (y126:Int) {β:Type} (kO:Int->Option β) (kR:Bool->Option β):Option β:=
 (Option.bind (ix y124 y126) fun x140=>(Option.bind (T118 F x140.1 (0:Int) (11:Int)) fun z141=>(bif (!z141) then (kR false) else (Option.bind (T118 F x140.2.1 (1:Int) (1099511627776:Int)) fun z142=>(bif (!z142) then (kR false) else (Option.bind (T118 F x140.2.2.1 (0:Int) (999999:Int)) fun z143=>(bif (!z143) then (kR false) else (Option.bind (T119 F x140.2.2.2.1.1 x140.2.2.2.1.2.1 x140.2.2.2.1.2.2.1) fun z144=>(bif (!z144) then (kR false) else (Option.bind (T118 F x140.2.2.2.2.1 (0:Int) (1099511627776:Int)) fun z145=>(bif (!z145) then (kR false) else (Option.bind (T118 F x140.2.2.2.2.2.1 (0:Int) (1099511627776:Int)) fun z146=>(bif (!z146) then (kR false) else (bif ((x140.2.2.2.2.2.2.1.length:Int) != (0:Int)) then (bif ((x140.2.2.2.2.2.2.1.length:Int) != (32:Int)) then (kR false) else (kO (w64 (y126 + (1:Int))))) else (kO (w64 (y126 + (1:Int))))))))))))))))))
def L60_9 (F:Nat) (y124:List Zc) (y126:Int):Option ((Int) ⊕ (Bool)):=L60_9c F y124 y126 (fun z=>some (.inl z)) (fun z=>some (.inr z))
theorem L60_9n (F:Nat) (y124:List Zc) (y126:Int) {β:Type} (kO:Int->Option β) (kR:Bool->Option β):L60_9c F y124 y126 kO kR=(L60_9 F y124 y126).bind (elimS kO kR):=by
 simp only [L60_9,L60_9c,oA,oC,oS,oN,elimS_l,elimS_r,elimS_bind]
def lc60_9 (F:Nat):Lc:=mkK [1,59,60,61] [(.pt 0 []),(.ro Qb),.i,.i] [.blk 27 Qa] [1,59,60,61] [(.pt 0 []),(.ro Qb),.i,.i] [.blk 27 Qa] [2] [.bo] [] (fun x y=>L60_9 F x.2.1 x.2.2.2.1) (fun x y (z:Int)=>(((),x.2.1,x.2.2.1,z,()),((y.1.1,y.1.2.1,y.1.2.2.1,y.1.2.2.2.1,y.1.2.2.2.2.1,y.1.2.2.2.2.2.1,()),()))) (fun x y (z:Bool)=>((z,()),()))
theorem lo60_9 (F:Nat):LcOk Tryz.prog (E60 F) 0 (lc60_9 F) (cAt (bodyOf Tryz.f60) [1,1,0,0,1,0,1,1,1]):=
 mkK_ok (lp:=[]) cok (cts60 F) mixed trivial (by kernel_rfl) (fun x y kO kR=>L60_9c F x.2.1 x.2.2.2.1 kO kR) (fun x y kO kR=>L60_9n F x.2.1 x.2.2.2.1 kO kR) (fun _ _=>by kernel_rfl)
def L60_8c (F:Nat) (y114:List Zc) (y115:Int) (y116:Int) {β:Type} (kA:Int->Option β) (kO:Unit->Option β) (kR:Bool->Option β):Option β:=
 (bif (decide (y116 < y115)) then (Option.bind (L60_9 F y114 y116) fun z147=>elimS (fun z147=>(kA z147)) (fun z147=>(kR z147)) z147) else (kO ()))
def L60_8 (F:Nat) (y114:List Zc) (y115:Int) (y116:Int):Option ((Int) ⊕ ((Unit) ⊕ (Bool))):=L60_8c F y114 y115 y116 (fun s=>some (.inl s)) (fun z=>some (.inr (.inl z))) (fun z=>some (.inr (.inr z)))
theorem L60_8n (F:Nat) (y114:List Zc) (y115:Int) (y116:Int) {β:Type} (kA:Int->Option β) (kO:Unit->Option β) (kR:Bool->Option β):L60_8c F y114 y115 y116 kA kO kR=(L60_8 F y114 y115 y116).bind (elimS kA (elimS kO kR)):=by
 simp only [L60_8,L60_8c,oA,oC,oS,oN,elimS_l,elimS_r,elimS_bind]
def lc60_8 (F:Nat):Lc:=mkR [1,59,60,61] [(.pt 0 []),(.ro Qb),.i,.i] [.blk 27 Qa] [1] [(.pt 0 [])] [.blk 27 Qa] [2] [.bo] [] F (fun x y (s:Int)=>L60_8 F x.2.1 x.2.2.1 s) (fun x y=>x.2.2.2.1) (fun x y (z:Unit)=>(((),()),((y.1.1,y.1.2.1,y.1.2.2.1,y.1.2.2.2.1,y.1.2.2.2.2.1,y.1.2.2.2.2.2.1,()),()))) (fun x y (z:Bool)=>((z,()),()))
theorem lo60_8 (F:Nat):LcOk Tryz.prog (E60 F) 0 (lc60_8 F) (cAt (bodyOf Tryz.f60) [1,0,1,1,1]):=
 mkR_ok (lp:=[([1,1,0,0,1,0,1,1,1],lc60_9 F)]) (id:=2) (b:=cAt (bodyOf Tryz.f60) (0 :: 0 :: [1,0,1,1,1])) cok (cts60 F) mixed ⟨lo60_9 F,trivial⟩ (by kernel_rfl) (by kernel_rfl) (fun x y s=>((),x.2.1,x.2.2.1,s,())) (fun x y s=>((y.1.1,y.1.2.1,y.1.2.2.1,y.1.2.2.2.1,y.1.2.2.2.2.1,y.1.2.2.2.2.2.1,()),())) (fun x y=>rfl) (fun x y=>rfl) (fun x y s kA kO kR=>L60_8c F x.2.1 x.2.2.1 s kA kO kR) (fun x y s kA kO kR=>L60_8n F x.2.1 x.2.2.1 s kA kO kR) (fun _ _ _=>by kernel_rfl)
def L60_11c (F:Nat) (y172:List Za) (y173:Int) (y174:Int) {β:Type} (kA:Int->Option β) (kO:Unit->Option β) (kR:Bool->Option β):Option β:=
 (bif (decide (y174 < y173)) then (Option.bind (ix y172 y174) fun x183=>(Option.bind (T119 F x183.1 x183.2.1 x183.2.2.1) fun z184=>(bif (!z184) then (kR false) else (kA (w64 (y174 + (1:Int))))))) else (kO ()))
def L60_11 (F:Nat) (y172:List Za) (y173:Int) (y174:Int):Option ((Int) ⊕ ((Unit) ⊕ (Bool))):=L60_11c F y172 y173 y174 (fun s=>some (.inl s)) (fun z=>some (.inr (.inl z))) (fun z=>some (.inr (.inr z)))
theorem L60_11n (F:Nat) (y172:List Za) (y173:Int) (y174:Int) {β:Type} (kA:Int->Option β) (kO:Unit->Option β) (kR:Bool->Option β):L60_11c F y172 y173 y174 kA kO kR=(L60_11 F y172 y173 y174).bind (elimS kA (elimS kO kR)):=by
 simp only [L60_11,L60_11c,oA,oC,oS,oN,elimS_l,elimS_r,elimS_bind]
def lc60_11 (F:Nat):Lc:=mkR [1,113,114,115,154,155,156] [(.pt 0 []),(.ro Qc),.i,.i,(.ro Qi),.i,.i] [.blk 27 Qa] [1,113,114,115] [(.pt 0 []),(.ro Qc),.i,.i] [.blk 27 Qa] [2] [.bo] [] F (fun x y (s:Int)=>L60_11 F x.2.2.2.2.1 x.2.2.2.2.2.1 s) (fun x y=>x.2.2.2.2.2.2.1) (fun x y (z:Unit)=>(((),x.2.1,x.2.2.1,x.2.2.2.1,()),((y.1.1,y.1.2.1,y.1.2.2.1,y.1.2.2.2.1,y.1.2.2.2.2.1,y.1.2.2.2.2.2.1,()),()))) (fun x y (z:Bool)=>((z,()),()))
theorem lo60_11 (F:Nat):LcOk Tryz.prog (E60 F) 0 (lc60_11 F) (cAt (bodyOf Tryz.f60) [1,1,1,0,0,1,1,0,0,1,0,1,1,1,1]):=
 mkR_ok (lp:=[]) (id:=6) (b:=cAt (bodyOf Tryz.f60) (0 :: 0 :: [1,1,1,0,0,1,1,0,0,1,0,1,1,1,1])) cok (cts60 F) mixed trivial (by kernel_rfl) (by kernel_rfl) (fun x y s=>((),x.2.1,x.2.2.1,x.2.2.2.1,x.2.2.2.2.1,x.2.2.2.2.2.1,s,())) (fun x y s=>((y.1.1,y.1.2.1,y.1.2.2.1,y.1.2.2.2.1,y.1.2.2.2.2.1,y.1.2.2.2.2.2.1,()),())) (fun x y=>rfl) (fun x y=>rfl) (fun x y s kA kO kR=>L60_11c F x.2.2.2.2.1 x.2.2.2.2.2.1 s kA kO kR) (fun x y s kA kO kR=>L60_11n F x.2.2.2.2.1 x.2.2.2.2.2.1 s kA kO kR) (fun _ _ _=>by kernel_rfl)
def L60_10c (F:Nat) (y149:List Zd) (y150:Int) (y151:Int) {β:Type} (kA:Int->Option β) (kO:Unit->Option β) (kR:Bool->Option β):Option β:=
 (bif (decide (y151 < y150)) then (Option.bind (ix y149 y151) fun x164=>(bif ((x164.1.length:Int) != (32:Int)) then (kR false) else (Option.bind (T118 F x164.2.1 (0:Int) (1000:Int)) fun z165=>(bif (!z165) then (kR false) else (Option.bind (T118 F x164.2.2.1 (1:Int) (65536:Int)) fun z166=>(bif (!z166) then (kR false) else (Option.bind (T118 F x164.2.2.2.1 (1:Int) (8:Int)) fun z167=>(bif (!z167) then (kR false) else (Option.bind (T118 F x164.2.2.2.2.1 (1:Int) (16:Int)) fun z168=>(bif (!z168) then (kR false) else (bif (decide ((8:Int) < (x164.2.2.2.2.2.1.length:Int))) then (kR false) else (Option.bind (iter (fun s=>L60_11 F x164.2.2.2.2.2.1 (x164.2.2.2.2.2.1.length:Int) s) F (0:Int)) fun z185=>elimS (fun z185=>(kA (w64 (y151 + (1:Int))))) (fun z185=>(kR z185)) z185)))))))))))) else (kO ()))
def L60_10 (F:Nat) (y149:List Zd) (y150:Int) (y151:Int):Option ((Int) ⊕ ((Unit) ⊕ (Bool))):=L60_10c F y149 y150 y151 (fun s=>some (.inl s)) (fun z=>some (.inr (.inl z))) (fun z=>some (.inr (.inr z)))
theorem L60_10n (F:Nat) (y149:List Zd) (y150:Int) (y151:Int) {β:Type} (kA:Int->Option β) (kO:Unit->Option β) (kR:Bool->Option β):L60_10c F y149 y150 y151 kA kO kR=(L60_10 F y149 y150 y151).bind (elimS kA (elimS kO kR)):=by
 simp only [L60_10,L60_10c,oA,oC,oS,oN,elimS_l,elimS_r,elimS_bind]
def lc60_10 (F:Nat):Lc:=mkR [1,113,114,115] [(.pt 0 []),(.ro Qc),.i,.i] [.blk 27 Qa] [1] [(.pt 0 [])] [.blk 27 Qa] [2] [.bo] [] F (fun x y (s:Int)=>L60_10 F x.2.1 x.2.2.1 s) (fun x y=>x.2.2.2.1) (fun x y (z:Unit)=>(((),()),((y.1.1,y.1.2.1,y.1.2.2.1,y.1.2.2.2.1,y.1.2.2.2.2.1,y.1.2.2.2.2.2.1,()),()))) (fun x y (z:Bool)=>((z,()),()))
theorem lo60_10 (F:Nat):LcOk Tryz.prog (E60 F) 0 (lc60_10 F) (cAt (bodyOf Tryz.f60) [1,0,1,1,1,1]):=
 mkR_ok (lp:=[([1,1,1,0,0,1,1,0,0,1,0,1,1,1,1],lc60_11 F)]) (id:=4) (b:=cAt (bodyOf Tryz.f60) (0 :: 0 :: [1,0,1,1,1,1])) cok (cts60 F) mixed ⟨lo60_11 F,trivial⟩ (by kernel_rfl) (by kernel_rfl) (fun x y s=>((),x.2.1,x.2.2.1,s,())) (fun x y s=>((y.1.1,y.1.2.1,y.1.2.2.1,y.1.2.2.2.1,y.1.2.2.2.2.1,y.1.2.2.2.2.2.1,()),())) (fun x y=>rfl) (fun x y=>rfl) (fun x y s kA kO kR=>L60_10c F x.2.1 x.2.2.1 s kA kO kR) (fun x y s kA kO kR=>L60_10n F x.2.1 x.2.2.1 s kA kO kR) (fun _ _ _=>by kernel_rfl)
def L60_12c (F:Nat) (y187:List Za) (y188:Int) (y189:Int) {β:Type} (kA:Int->Option β) (kO:Unit->Option β) (kR:Bool->Option β):Option β:=
 (bif (decide (y189 < y188)) then (Option.bind (ix y187 y189) fun x192=>(Option.bind (T119 F x192.1 x192.2.1 x192.2.2.1) fun z193=>(bif (!z193) then (kR false) else (kA (w64 (y189 + (1:Int))))))) else (kO ()))
def L60_12 (F:Nat) (y187:List Za) (y188:Int) (y189:Int):Option ((Int) ⊕ ((Unit) ⊕ (Bool))):=L60_12c F y187 y188 y189 (fun s=>some (.inl s)) (fun z=>some (.inr (.inl z))) (fun z=>some (.inr (.inr z)))
theorem L60_12n (F:Nat) (y187:List Za) (y188:Int) (y189:Int) {β:Type} (kA:Int->Option β) (kO:Unit->Option β) (kR:Bool->Option β):L60_12c F y187 y188 y189 kA kO kR=(L60_12 F y187 y188 y189).bind (elimS kA (elimS kO kR)):=by
 simp only [L60_12,L60_12c,oA,oC,oS,oN,elimS_l,elimS_r,elimS_bind]
def lc60_12 (F:Nat):Lc:=mkR [166,167,168] [(.ro Qi),.i,.i] [] [] [] [] [2] [.bo] [] F (fun x y (s:Int)=>L60_12 F x.1 x.2.1 s) (fun x y=>x.2.2.1) (fun x y (z:Unit)=>((),())) (fun x y (z:Bool)=>((z,()),()))
theorem lo60_12 (F:Nat):LcOk Tryz.prog (E60 F) 0 (lc60_12 F) (cAt (bodyOf Tryz.f60) [1,0,1,1,1,1,1]):=
 mkR_ok (lp:=[]) (id:=8) (b:=cAt (bodyOf Tryz.f60) (0 :: 0 :: [1,0,1,1,1,1,1])) cok (cts60 F) mixed trivial (by kernel_rfl) (by kernel_rfl) (fun x y s=>(x.1,x.2.1,s,())) (fun x y s=>()) (fun x y=>rfl) (fun x y=>rfl) (fun x y s kA kO kR=>L60_12c F x.1 x.2.1 s kA kO kR) (fun x y s kA kO kR=>L60_12n F x.1 x.2.1 s kA kO kR) (fun _ _ _=>by kernel_rfl)
def T60c (F:Nat) (p0:Int) (p1:Int) (p2:List Int) (p3:List Zc) (p4:List Zd) (p5:List Za) {β:Type} (k:Bool->Option β):Option β:=
 (Option.bind (T118 F p0 (0:Int) (1000:Int)) fun z98=>(bif (!z98) then (k false) else (Option.bind (T118 F p1 (0:Int) (1000:Int)) fun z99=>(bif (!z99) then (k false) else (bif (decide ((12:Int) < (p2.length:Int))) then (k false) else (bif (decide ((4096:Int) < (p3.length:Int))) then (k false) else (bif (decide ((4096:Int) < (p4.length:Int))) then (k false) else (bif (decide ((4096:Int) < (p5.length:Int))) then (k false) else (Option.bind (iter (fun s=>L60_7 F p2 (p2.length:Int) s) F (0:Int)) fun z113=>elimS (fun z113=>(Option.bind (iter (fun s=>L60_8 F p3 (p3.length:Int) s) F (0:Int)) fun z148=>elimS (fun z148=>(Option.bind (iter (fun s=>L60_10 F p4 (p4.length:Int) s) F (0:Int)) fun z186=>elimS (fun z186=>(Option.bind (iter (fun s=>L60_12 F p5 (p5.length:Int) s) F (0:Int)) fun z194=>elimS (fun z194=>(k true)) (fun z194=>(k z194)) z194)) (fun z186=>(k z186)) z186)) (fun z148=>(k z148)) z148)) (fun z113=>(k z113)) z113)))))))))
def T60 (F:Nat) (p0:Int) (p1:Int) (p2:List Int) (p3:List Zc) (p4:List Zd) (p5:List Za):=T60c F p0 p1 p2 p3 p4 p5 some
def ct60 (F:Nat):Ct:=mkC 0 [(.pr .i (.pr .i (.pr (.ro .i) (.pr (.ro Qb) (.pr (.ro Qc) (.pr (.ro Qi) .un))))))] [] [.bo] [] (fun x y=>T60 F x.1.1 x.1.2.1 x.1.2.2.1 x.1.2.2.2.1 x.1.2.2.2.2.1 x.1.2.2.2.2.2.1) (fun x y (z:Bool)=>((z,()),()))
theorem ok60 (F:Nat):Sound Tryz.prog cfg 60 (ct60 F):=
 mkC_ok (E:=E60 F) (lp:=[([1,0,1,1],lc60_7 F),([1,0,1,1,1],lc60_8 F),([1,0,1,1,1,1],lc60_10 F),([1,0,1,1,1,1,1],lc60_12 F)]) (code:=bodyOf Tryz.f60) Tryz.func60 rfl Tryz.ntmps60 rfl rfl cok (cts60 F) mixed ⟨lo60_7 F,⟨lo60_8 F,⟨lo60_10 F,⟨lo60_12 F,trivial⟩⟩⟩⟩ (by kernel_rfl) (fun x y k=>T60c F x.1.1 x.1.2.1 x.1.2.2.1 x.1.2.2.2.1 x.1.2.2.2.2.1 x.1.2.2.2.2.2.1 k) (fun _ _ _=>by simp only [T60,T60c,oA,oC,oS,oN,elimS_bind]) (fun _ _=>by kernel_rfl)
def ord23:Nat->List (Tag×Nat)
 | 6=>[(.p,0),(.c,1),(.p,2),(.w,3),(.w,4),(.w,5),(.p,6),(.b,7)]
 | 12=>[(.p,0),(.p,1),(.p,2),(.p,5),(.p,6),(.p,7),(.w,3),(.p,4),(.p,10),(.w,8),(.p,9),(.w,11),(.p,12),(.w,13)]
 | _=>[]
def E23 (F:Nat):Ev:=⟨cfg,128,ctOf [(82,ct82 F),(83,ct83 F),(84,ct84 F),(85,ct85 F),(86,ct86 F),(87,ct87 F),(60,ct60 F)],ord23,ctOf [],fun _=>none,fun _=>none⟩
theorem cts23 (F:Nat):CtsOk Tryz.prog (E23 F):=cts_of (l:=[(82,ct82 F),(83,ct83 F),(84,ct84 F),(85,ct85 F),(86,ct86 F),(87,ct87 F),(60,ct60 F)]) (l':=[]) rfl rfl ⟨⟨ok82 F,_,Tryz.func82,rfl,rfl⟩,⟨⟨ok83 F,_,Tryz.func83,rfl,rfl⟩,⟨⟨ok84 F,_,Tryz.func84,rfl,rfl⟩,⟨⟨ok85 F,_,Tryz.func85,rfl,rfl⟩,⟨⟨ok86 F,_,Tryz.func86,rfl,rfl⟩,⟨⟨ok87 F,_,Tryz.func87,rfl,rfl⟩,⟨⟨ok60 F,_,Tryz.func60,rfl,rfl⟩,trivial⟩⟩⟩⟩⟩⟩⟩ trivial
def L23_4c (F:Nat) (y154:List UInt8) (y151:Int) (y155:Int) (y156:Int) (y157:Int) (y160:List Int) {β:Type} (kA:(Int×Int×Int×Int×Zn)->Option β) (kO:(Int×Int×Int×Zn)->Option β):Option β:=
 (bif (decide ((0:Int) < y151)) then (Option.bind (T82 F y154 y155 y156 y157) fun z163=>(Option.bind (gapp y160 ([z163.1]:List Int)) fun x164=>(kA ((w64 (y151 - (1:Int))),z163.2.1,z163.2.2.1,z163.2.2.2,x164)))) else (kO (y155,y156,y157,y160)))
def L23_4 (F:Nat) (y154:List UInt8) (y151:Int) (y155:Int) (y156:Int) (y157:Int) (y160:List Int):=L23_4c F y154 y151 y155 y156 y157 y160 (fun s=>some (Sum.inl s)) (fun z=>some (Sum.inr z))
def lc23_4 (F:Nat):Lc:=mkL [0,2,4,5,6] [(.ro .u8),(.pt 0 []),(.pt 1 []),(.pt 2 []),.i] [.blk 27 Qk,.blk 132 Qg,.blk 27 (.pr .i (.pr .i (.pr (.rw 3) (.pr .ns (.pr .ns (.pr .ns .un)))))),.row 3 .i] [0,2,4,5] [(.ro .u8),(.pt 0 []),(.pt 1 []),(.pt 2 [])] [.blk 27 Qk,.blk 132 Qg,.blk 27 (.pr .i (.pr .i (.pr (.rw 3) (.pr .ns (.pr .ns (.pr .ns .un)))))),.row 3 .i] F (fun x y (s:Int×Int×Int×Int×Zn)=>L23_4 F y.2.1.1.1 s.1 s.2.1 s.2.2.1 s.2.2.2.1 s.2.2.2.2) (fun x y=>(x.2.2.2.2.1,y.2.1.1.2.1,y.2.1.1.2.2.1,y.2.1.1.2.2.2.1,y.2.2.2.1)) (fun x y (z:Int×Int×Int×Zn)=>((x.1,(),(),(),()),((y.1.1,y.1.2.1,(),(),(),(),()),((y.2.1.1.1,z.1,z.2.1,z.2.2.1,()),()),(y.2.2.1.1,y.2.2.1.2.1,(),(),(),(),()),z.2.2.2,())))
theorem lo23_4 (F:Nat):LcOk Tryz.prog (E23 F) 0 (lc23_4 F) (cAt (bodyOf Tryz.f23) [1,0,1,1,1]):=
 mkL_ok (lp:=[]) (id:=0) (b:=cAt (bodyOf Tryz.f23) (0 :: 0 :: [1,0,1,1,1])) cok (cts23 F) mixed trivial (by kernel_rfl) (by kernel_rfl) (fun x y s=>(x.1,(),(),(),s.1,())) (fun x y s=>((y.1.1,y.1.2.1,(),(),(),(),()),((y.2.1.1.1,s.2.1,s.2.2.1,s.2.2.2.1,()),()),(y.2.2.1.1,y.2.2.1.2.1,(),(),(),(),()),s.2.2.2.2,())) (fun x y=>rfl) (fun x y=>rfl) (fun x y s kA kO=>L23_4c F y.2.1.1.1 s.1 s.2.1 s.2.2.1 s.2.2.2.1 s.2.2.2.2 kA kO) (fun _ _ _ _ _=>by simp only [L23_4,L23_4c,oA,oC,oS,oN,elimS_l,elimS_r,elimS_bind]) (fun _ _ _=>by kernel_rfl)
def L23_5c (F:Nat) (y191:List UInt8) (y188:Int) (y192:Int) (y193:Int) (y194:Int) (y198:List Zc) {β:Type} (kA:(Int×Int×Int×Int×(List Zc))->Option β) (kO:(Int×Int×Int×(List Zc))->Option β):Option β:=
 (bif (decide ((0:Int) < y188)) then (Option.bind (T82 F y191 y192 y193 y194) fun z208=>(Option.bind (T82 F y191 z208.2.1 z208.2.2.1 z208.2.2.2) fun z209=>(Option.bind (T82 F y191 z209.2.1 z209.2.2.1 z209.2.2.2) fun z210=>(Option.bind (T84 F y191 z210.2.1 z210.2.2.1 z210.2.2.2) fun z211=>(Option.bind (T82 F y191 z211.2.2.2.1 z211.2.2.2.2.1 z211.2.2.2.2.2) fun z212=>(Option.bind (T82 F y191 z212.2.1 z212.2.2.1 z212.2.2.2) fun z213=>(Option.bind (T85 F (5:Int) (32:Int) y191 z213.2.1 z213.2.2.1 z213.2.2.2) fun z214=>(Option.bind (T85 F (3:Int) (0:Int) y191 z214.2.2.2.2.1 z214.2.2.2.2.2.1 z214.2.2.2.2.2.2) fun z215=>(Option.bind (gapp y198 ([(z208.1,z209.1,z210.1,(z211.1,z211.2.1,z211.2.2.1,()),z212.1,z213.1,z214.2.2.2.1,z215.2.2.1,())]:List Zc)) fun x216=>(kA ((w64 (y188 - (1:Int))),z215.2.2.2.2.1,z215.2.2.2.2.2.1,z215.2.2.2.2.2.2,x216))))))))))) else (kO (y192,y193,y194,y198)))
def L23_5 (F:Nat) (y191:List UInt8) (y188:Int) (y192:Int) (y193:Int) (y194:Int) (y198:List Zc):=L23_5c F y191 y188 y192 y193 y194 y198 (fun s=>some (Sum.inl s)) (fun z=>some (Sum.inr z))
def lc23_5 (F:Nat):Lc:=mkL [0,2,4,5,7] [(.ro .u8),(.pt 0 []),(.pt 1 []),(.pt 2 []),.i] [.blk 27 Qk,.blk 132 Qg,.blk 27 (.pr .i (.pr .i (.pr (.rw 3) (.pr (.rw 4) (.pr .ns (.pr .ns .un)))))),.row 3 .i,.row 90 Qb] [0,2,4,5] [(.ro .u8),(.pt 0 []),(.pt 1 []),(.pt 2 [])] [.blk 27 Qk,.blk 132 Qg,.blk 27 (.pr .i (.pr .i (.pr (.rw 3) (.pr (.rw 4) (.pr .ns (.pr .ns .un)))))),.row 3 .i,.row 90 Qb] F (fun x y (s:Int×Int×Int×Int×(List Zc))=>L23_5 F y.2.1.1.1 s.1 s.2.1 s.2.2.1 s.2.2.2.1 s.2.2.2.2) (fun x y=>(x.2.2.2.2.1,y.2.1.1.2.1,y.2.1.1.2.2.1,y.2.1.1.2.2.2.1,y.2.2.2.2.1)) (fun x y (z:Int×Int×Int×(List Zc))=>((x.1,(),(),(),()),((y.1.1,y.1.2.1,(),(),(),(),()),((y.2.1.1.1,z.1,z.2.1,z.2.2.1,()),()),(y.2.2.1.1,y.2.2.1.2.1,(),(),(),(),()),y.2.2.2.1,z.2.2.2,())))
theorem lo23_5 (F:Nat):LcOk Tryz.prog (E23 F) 0 (lc23_5 F) (cAt (bodyOf Tryz.f23) [1,0,1,1,1,1]):=
 mkL_ok (lp:=[]) (id:=2) (b:=cAt (bodyOf Tryz.f23) (0 :: 0 :: [1,0,1,1,1,1])) cok (cts23 F) mixed trivial (by kernel_rfl) (by kernel_rfl) (fun x y s=>(x.1,(),(),(),s.1,())) (fun x y s=>((y.1.1,y.1.2.1,(),(),(),(),()),((y.2.1.1.1,s.2.1,s.2.2.1,s.2.2.2.1,()),()),(y.2.2.1.1,y.2.2.1.2.1,(),(),(),(),()),y.2.2.2.1,s.2.2.2.2,())) (fun x y=>rfl) (fun x y=>rfl) (fun x y s kA kO=>L23_5c F y.2.1.1.1 s.1 s.2.1 s.2.2.1 s.2.2.2.1 s.2.2.2.2 kA kO) (fun _ _ _ _ _=>by simp only [L23_5,L23_5c,oA,oC,oS,oN,elimS_l,elimS_r,elimS_bind]) (fun _ _ _=>by kernel_rfl)
def L23_6c (F:Nat) (y242:List UInt8) (y239:Int) (y243:Int) (y244:Int) (y245:Int) (y250:List Zd) {β:Type} (kA:(Int×Int×Int×Int×(List Zd))->Option β) (kO:(Int×Int×Int×(List Zd))->Option β):Option β:=
 (bif (decide ((0:Int) < y239)) then (Option.bind (T85 F (6:Int) (0:Int) y242 y243 y244 y245) fun z258=>(Option.bind (T82 F y242 z258.2.2.2.2.1 z258.2.2.2.2.2.1 z258.2.2.2.2.2.2) fun z259=>(Option.bind (T82 F y242 z259.2.1 z259.2.2.1 z259.2.2.2) fun z260=>(Option.bind (T82 F y242 z260.2.1 z260.2.2.1 z260.2.2.2) fun z261=>(Option.bind (T82 F y242 z261.2.1 z261.2.2.1 z261.2.2.2) fun z262=>(Option.bind (T86 F (8:Int) y242 z262.2.1 z262.2.2.1 z262.2.2.2) fun z263=>(Option.bind (gapp y250 ([(z258.2.2.2.1,z259.1,z260.1,z261.1,z262.1,z263.2.2.2,())]:List Zd)) fun x264=>(kA ((w64 (y239 - (1:Int))),z263.1,z263.2.1,z263.2.2.1,x264))))))))) else (kO (y243,y244,y245,y250)))
def L23_6 (F:Nat) (y242:List UInt8) (y239:Int) (y243:Int) (y244:Int) (y245:Int) (y250:List Zd):=L23_6c F y242 y239 y243 y244 y245 y250 (fun s=>some (Sum.inl s)) (fun z=>some (Sum.inr z))
def lc23_6 (F:Nat):Lc:=mkL [0,2,4,5,9] [(.ro .u8),(.pt 0 []),(.pt 1 []),(.pt 2 []),.i] [.blk 27 Qk,.blk 132 Qg,.blk 27 (.pr .i (.pr .i (.pr (.rw 3) (.pr (.rw 4) (.pr (.rw 5) (.pr .ns .un)))))),.row 3 .i,.row 90 Qb,.row 61 Qc] [0,2,4,5] [(.ro .u8),(.pt 0 []),(.pt 1 []),(.pt 2 [])] [.blk 27 Qk,.blk 132 Qg,.blk 27 (.pr .i (.pr .i (.pr (.rw 3) (.pr (.rw 4) (.pr (.rw 5) (.pr .ns .un)))))),.row 3 .i,.row 90 Qb,.row 61 Qc] F (fun x y (s:Int×Int×Int×Int×(List Zd))=>L23_6 F y.2.1.1.1 s.1 s.2.1 s.2.2.1 s.2.2.2.1 s.2.2.2.2) (fun x y=>(x.2.2.2.2.1,y.2.1.1.2.1,y.2.1.1.2.2.1,y.2.1.1.2.2.2.1,y.2.2.2.2.2.1)) (fun x y (z:Int×Int×Int×(List Zd))=>((x.1,(),(),(),()),((y.1.1,y.1.2.1,(),(),(),(),()),((y.2.1.1.1,z.1,z.2.1,z.2.2.1,()),()),(y.2.2.1.1,y.2.2.1.2.1,(),(),(),(),()),y.2.2.2.1,y.2.2.2.2.1,z.2.2.2,())))
theorem lo23_6 (F:Nat):LcOk Tryz.prog (E23 F) 0 (lc23_6 F) (cAt (bodyOf Tryz.f23) [1,0,1,1,1,1,1]):=
 mkL_ok (lp:=[]) (id:=4) (b:=cAt (bodyOf Tryz.f23) (0 :: 0 :: [1,0,1,1,1,1,1])) cok (cts23 F) mixed trivial (by kernel_rfl) (by kernel_rfl) (fun x y s=>(x.1,(),(),(),s.1,())) (fun x y s=>((y.1.1,y.1.2.1,(),(),(),(),()),((y.2.1.1.1,s.2.1,s.2.2.1,s.2.2.2.1,()),()),(y.2.2.1.1,y.2.2.1.2.1,(),(),(),(),()),y.2.2.2.1,y.2.2.2.2.1,s.2.2.2.2,())) (fun x y=>rfl) (fun x y=>rfl) (fun x y s kA kO=>L23_6c F y.2.1.1.1 s.1 s.2.1 s.2.2.1 s.2.2.2.1 s.2.2.2.2 kA kO) (fun _ _ _ _ _=>by simp only [L23_6,L23_6c,oA,oC,oS,oN,elimS_l,elimS_r,elimS_bind]) (fun _ _ _=>by kernel_rfl)
def T23c (F:Nat) (p0:List UInt8) {β:Type} (k:Zk->Option β):Option β:=
 (Option.bind (T82 F p0 (0:Int) (0:Int) (0:Int)) fun z135=>(Option.bind (T82 F p0 z135.2.1 z135.2.2.1 z135.2.2.2) fun z136=>(Option.bind (T83 F (12:Int) p0 z136.2.1 z136.2.2.1 z136.2.2.2) fun z137=>(Option.bind (iter (fun s=>L23_4 F p0 s.1 s.2.1 s.2.2.1 s.2.2.2.1 s.2.2.2.2) F (z137.1,z137.2.1,z137.2.2.1,z137.2.2.2,([]:List Int))) fun z165=>(Option.bind (T83 F (4096:Int) p0 z165.1 z165.2.1 z165.2.2.1) fun z166=>(Option.bind (iter (fun s=>L23_5 F p0 s.1 s.2.1 s.2.2.1 s.2.2.2.1 s.2.2.2.2) F (z166.1,z166.2.1,z166.2.2.1,z166.2.2.2,([]:List Zc))) fun z217=>(Option.bind (T83 F (4096:Int) p0 z217.1 z217.2.1 z217.2.2.1) fun z218=>(Option.bind (iter (fun s=>L23_6 F p0 s.1 s.2.1 s.2.2.1 s.2.2.2.1 s.2.2.2.2) F (z218.1,z218.2.1,z218.2.2.1,z218.2.2.2,([]:List Zd))) fun z265=>(Option.bind (T86 F (4096:Int) p0 z265.1 z265.2.1 z265.2.2.1) fun z266=>(Option.bind (T87 F (p0,z266.1,z266.2.1,z266.2.2.1,())) fun z267=>(bif (z267.2 != (0:Int)) then (k ((0:Int),(0:Int),(3:Int),([]:List Int),([]:List Zc),([]:List Zd),([]:List Za))) else (bif (decide ((1048560:Int) < (p0.length:Int))) then (k ((0:Int),(0:Int),(3:Int),([]:List Int),([]:List Zc),([]:List Zd),([]:List Za))) else (Option.bind (T60 F z135.1 z136.1 z165.2.2.2 z217.2.2.2 z265.2.2.2 z266.2.2.2) fun z268=>(bif (!z268) then (k ((0:Int),(0:Int),(3:Int),([]:List Int),([]:List Zc),([]:List Zd),([]:List Za))) else (k (z135.1,z136.1,(0:Int),z165.2.2.2,z217.2.2.2,z265.2.2.2,z266.2.2.2))))))))))))))))
def T23 (F:Nat) (p0:List UInt8):=T23c F p0 some
def ct23 (F:Nat):Ct:=mkC 0 [(.ro .u8)] [] [(.pr .i (.pr .i (.pr (.rw 0) (.pr (.rw 1) (.pr (.rw 2) (.pr (.rw 3) .un)))))),.i] [.row 3 .i,.row 90 Qb,.row 61 Qc,.row 88 Qi] (fun x y=>T23 F x.1) (fun x y (z:Int×Int×Int×Zn×(List Zc)×(List Zd)×(List Za))=>(((z.1,z.2.1,(),(),(),(),()),z.2.2.1,()),(z.2.2.2.1,z.2.2.2.2.1,z.2.2.2.2.2.1,z.2.2.2.2.2.2,())))
theorem ok23 (F:Nat):Sound Tryz.prog cfg 23 (ct23 F):=
 mkC_ok (E:=E23 F) (lp:=[([1,0,1,1,1],lc23_4 F),([1,0,1,1,1,1],lc23_5 F),([1,0,1,1,1,1,1],lc23_6 F)]) (code:=bodyOf Tryz.f23) Tryz.func23 rfl Tryz.ntmps23 rfl rfl cok (cts23 F) mixed ⟨lo23_4 F,⟨lo23_5 F,⟨lo23_6 F,trivial⟩⟩⟩ (by kernel_rfl) (fun x y k=>T23c F x.1 k) (fun _ _ _=>by simp only [T23,T23c,oA,oC,oS,oN,elimS_bind]) (fun _ _=>by kernel_rfl)
def E61 (F:Nat):Ev:=⟨cfg,5,ctOf [],fun _=>[],ctOf [],fun _=>none,fun _=>none⟩
theorem cts61 (F:Nat):CtsOk Tryz.prog (E61 F):=cts_of (l:=[]) (l':=[]) rfl rfl trivial trivial
def T61c (F:Nat) {β:Type} (k:(Int×UInt64×Bool×Zb×Int)->Option β):Option β:=
 (k ((2:Int),(0:UInt64),false,([]:List UInt8),(0:Int)))
def T61 (F:Nat):=T61c F some
def ct61 (F:Nat):Ct:=mkC 0 [.i] [] [(.pr .i (.pr .u64 (.pr .i (.pr .bo (.pr .str (.pr .i .un))))))] [] (fun x y=>T61 F) (fun x y (z:Int×UInt64×Bool×Zb×Int)=>(((z.1,z.2.1,x.1,z.2.2.1,z.2.2.2.1,z.2.2.2.2,()),()),()))
theorem ok61 (F:Nat):Sound Tryz.prog cfg 61 (ct61 F):=
 mkC_ok (E:=E61 F) (lp:=[]) (code:=bodyOf Tryz.f61) Tryz.func61 rfl Tryz.ntmps61 rfl rfl cok (cts61 F) mixed trivial (by kernel_rfl) (fun x y k=>T61c F k) (fun _ _ _=>by simp only [T61,T61c,oA,oC,oS,oN,elimS_bind]) (fun _ _=>by kernel_rfl)
def E62 (F:Nat):Ev:=⟨cfg,5,ctOf [],fun _=>[],ctOf [],fun _=>none,fun _=>none⟩
theorem cts62 (F:Nat):CtsOk Tryz.prog (E62 F):=cts_of (l:=[]) (l':=[]) rfl rfl trivial trivial
def T62c (F:Nat) {β:Type} (k:(Int×UInt64×Bool×Zb×Int)->Option β):Option β:=
 (k ((7:Int),(0:UInt64),false,([]:List UInt8),(0:Int)))
def T62 (F:Nat):=T62c F some
def ct62 (F:Nat):Ct:=mkC 0 [.i] [] [(.pr .i (.pr .u64 (.pr .i (.pr .bo (.pr .str (.pr .i .un))))))] [] (fun x y=>T62 F) (fun x y (z:Int×UInt64×Bool×Zb×Int)=>(((z.1,z.2.1,x.1,z.2.2.1,z.2.2.2.1,z.2.2.2.2,()),()),()))
theorem ok62 (F:Nat):Sound Tryz.prog cfg 62 (ct62 F):=
 mkC_ok (E:=E62 F) (lp:=[]) (code:=bodyOf Tryz.f62) Tryz.func62 rfl Tryz.ntmps62 rfl rfl cok (cts62 F) mixed trivial (by kernel_rfl) (fun x y k=>T62c F k) (fun _ _ _=>by simp only [T62,T62c,oA,oC,oS,oN,elimS_bind]) (fun _ _=>by kernel_rfl)
def ord63:Nat->List (Tag×Nat)
 | 1=>[(.p,0),(.c,1),(.p,2),(.p,3),(.r,4),(.p,6),(.c,7),(.w,5),(.w,8),(.w,9),(.p,10)]
 | _=>[]
def E63 (F:Nat):Ev:=⟨cfg,13,ctOf [(61,ct61 F)],ord63,ctOf [],fun _=>none,fun _=>none⟩
theorem cts63 (F:Nat):CtsOk Tryz.prog (E63 F):=cts_of (l:=[(61,ct61 F)]) (l':=[]) rfl rfl ⟨⟨ok61 F,_,Tryz.func61,rfl,rfl⟩,trivial⟩ trivial
def T63c (F:Nat) (p0:List UInt8) (p1:Int) (p2:Int) {β:Type} (k:(Zp)->Option β):Option β:=
 (Option.bind (T61 F) fun z3=>(Option.bind (T61 F) fun z4=>(k ([((6:Int),(0:UInt64),(0:Int),false,p0,(0:Int),()),(z3.1,z3.2.1,p1,z3.2.2.1,z3.2.2.2.1,z3.2.2.2.2,()),(z4.1,z4.2.1,p2,z4.2.2.1,z4.2.2.2.1,z4.2.2.2.2,())]:List Ze))))
def T63 (F:Nat) (p0:List UInt8) (p1:Int) (p2:Int):=T63c F p0 p1 p2 some
def ct63 (F:Nat):Ct:=mkC 0 [(.pr .str (.pr .i (.pr .i .un)))] [] [(.rw 0)] [.row 102 Qj] (fun x y=>T63 F x.1.1 x.1.2.1 x.1.2.2.1) (fun x y (z:Zp)=>(((),()),(z,())))
theorem ok63 (F:Nat):Sound Tryz.prog cfg 63 (ct63 F):=
 mkC_ok (E:=E63 F) (lp:=[]) (code:=bodyOf Tryz.f63) Tryz.func63 rfl Tryz.ntmps63 rfl rfl cok (cts63 F) mixed trivial (by kernel_rfl) (fun x y k=>T63c F x.1.1 x.1.2.1 x.1.2.2.1 k) (fun _ _ _=>by simp only [T63,T63c,oA,oC,oS,oN,elimS_bind]) (fun _ _=>by kernel_rfl)
def E64 (F:Nat):Ev:=⟨cfg,22,ctOf [(62,ct62 F),(63,ct63 F)],fun _=>[],ctOf [],fun _=>none,fun _=>none⟩
theorem cts64 (F:Nat):CtsOk Tryz.prog (E64 F):=cts_of (l:=[(62,ct62 F),(63,ct63 F)]) (l':=[]) rfl rfl ⟨⟨ok62 F,_,Tryz.func62,rfl,rfl⟩,⟨⟨ok63 F,_,Tryz.func63,rfl,rfl⟩,trivial⟩⟩ trivial
def L64_2c (F:Nat) (y14:List Za) (y15:Int) (y16:Int) (y17:List Ze) {β:Type} (kA:(Int×Zp)->Option β) (kO:(Zp)->Option β):Option β:=
 (bif (decide (y16 < y15)) then (Option.bind (ix y14 y16) fun x21=>(Option.bind (T63 F x21.1 x21.2.1 x21.2.2.1) fun z22=>(Option.bind (gapp y17 z22) fun x23=>(kA ((w64 (y16 + (1:Int))),x23))))) else (kO y17))
def L64_2 (F:Nat) (y14:List Za) (y15:Int) (y16:Int) (y17:List Ze):=L64_2c F y14 y15 y16 y17 (fun s=>some (Sum.inl s)) (fun z=>some (Sum.inr z))
def lc64_2 (F:Nat):Lc:=mkL [3,10,11,12] [(.rw 0),(.ro Qi),.i,.i] [.row 102 Qj] [3] [(.rw 0)] [.row 102 Qj] F (fun x y (s:Int×Zp)=>L64_2 F x.2.1 x.2.2.1 s.1 s.2) (fun x y=>(x.2.2.2.1,y.1)) (fun x y (z:Zp)=>(((),()),(z,())))
theorem lo64_2 (F:Nat):LcOk Tryz.prog (E64 F) 0 (lc64_2 F) (cAt (bodyOf Tryz.f64) [1,0,1,1]):=
 mkL_ok (lp:=[]) (id:=0) (b:=cAt (bodyOf Tryz.f64) (0 :: 0 :: [1,0,1,1])) cok (cts64 F) mixed trivial (by kernel_rfl) (by kernel_rfl) (fun x y s=>((),x.2.1,x.2.2.1,s.1,())) (fun x y s=>(s.2,())) (fun x y=>rfl) (fun x y=>rfl) (fun x y s kA kO=>L64_2c F x.2.1 x.2.2.1 s.1 s.2 kA kO) (fun _ _ _ _ _=>by simp only [L64_2,L64_2c,oA,oC,oS,oN,elimS_l,elimS_r,elimS_bind]) (fun _ _ _=>by kernel_rfl)
def T64c (F:Nat) (p0:List Za) {β:Type} (k:(Zp)->Option β):Option β:=
 (Option.bind (T62 F) fun z13=>(Option.bind (iter (fun s=>L64_2 F p0 (p0.length:Int) s.1 s.2) F ((0:Int),([(z13.1,z13.2.1,(p0.length:Int),z13.2.2.1,z13.2.2.2.1,z13.2.2.2.2,())]:List Ze))) fun z24=>(k z24)))
def T64 (F:Nat) (p0:List Za):=T64c F p0 some
def ct64 (F:Nat):Ct:=mkC 0 [(.ro Qi)] [] [(.rw 0)] [.row 102 Qj] (fun x y=>T64 F x.1) (fun x y (z:Zp)=>(((),()),(z,())))
theorem ok64 (F:Nat):Sound Tryz.prog cfg 64 (ct64 F):=
 mkC_ok (E:=E64 F) (lp:=[([1,0,1,1],lc64_2 F)]) (code:=bodyOf Tryz.f64) Tryz.func64 rfl Tryz.ntmps64 rfl rfl cok (cts64 F) mixed ⟨lo64_2 F,trivial⟩ (by kernel_rfl) (fun x y k=>T64c F x.1 k) (fun _ _ _=>by simp only [T64,T64c,oA,oC,oS,oN,elimS_bind]) (fun _ _=>by kernel_rfl)
def E120 (F:Nat):Ev:=⟨cfg,14,ctOf [],fun _=>[],ctOf [],fun _=>none,fun _=>none⟩
theorem cts120 (F:Nat):CtsOk Tryz.prog (E120 F):=cts_of (l:=[]) (l':=[]) rfl rfl trivial trivial
def T120c (F:Nat) (p0:Int) {β:Type} (k:UInt64->Option β):Option β:=
 (bif (decide ((0:Int)≤p0)) then (k ((UInt64.ofNat 2) * (UInt64.ofInt p0))) else (k (((UInt64.ofNat 2) * (UInt64.ofInt (w64 (0 - (w64 (p0 + (1:Int))))))) + (UInt64.ofNat 1))))
def T120 (F:Nat) (p0:Int):=T120c F p0 some
def ct120 (F:Nat):Ct:=mkC 0 [.i] [] [.u64] [] (fun x y=>T120 F x.1) (fun x y (z:UInt64)=>((z,()),()))
theorem ok120 (F:Nat):Sound Tryz.prog cfg 120 (ct120 F):=
 mkC_ok (E:=E120 F) (lp:=[]) (code:=bodyOf Tryz.f120) Tryz.func120 rfl Tryz.ntmps120 rfl rfl cok (cts120 F) mixed trivial (by kernel_rfl) (fun x y k=>T120c F x.1 k) (fun _ _ _=>by simp only [T120,T120c,oA,oC,oS,oN,elimS_bind]) (fun _ _=>by kernel_rfl)
def ord65:Nat->List (Tag×Nat)
 | 17=>[(.p,0),(.p,1),(.r,2),(.p,3),(.p,4),(.p,7),(.c,8),(.w,5),(.w,6),(.w,9),(.p,10)]
 | _=>[]
def E65 (F:Nat):Ev:=⟨cfg,83,ctOf [(100,ct100 F),(120,ct120 F)],ord65,ctOf [],fun _=>none,fun _=>none⟩
theorem cts65 (F:Nat):CtsOk Tryz.prog (E65 F):=cts_of (l:=[(100,ct100 F),(120,ct120 F)]) (l':=[]) rfl rfl ⟨⟨ok100 F,_,Tryz.func100,rfl,rfl⟩,⟨⟨ok120 F,_,Tryz.func120,rfl,rfl⟩,trivial⟩⟩ trivial
def L65_4c (F:Nat) (y74:Int) (y75:Bool) {β:Type} (kO:Bool->Option β):Option β:=
 (bif y75 then (kO y75) else (kO (y74 == (5:Int))))
def L65_4 (F:Nat) (y74:Int) (y75:Bool):Option (Bool):=L65_4c F y74 y75 (fun z=>some z)
theorem L65_4n (F:Nat) (y74:Int) (y75:Bool) {β:Type} (kO:Bool->Option β):L65_4c F y74 y75 kO=(L65_4 F y74 y75).bind (kO):=by
 simp only [L65_4,L65_4c,oA,oC,oS,oN,elimS_l,elimS_r,elimS_bind]
def lc65_4 (F:Nat):Lc:=mkJ [0,4,5,6,19,45] [(.ro Qj),(.rw 0),.i,(.pt 1 []),.i,.bo] [.row 5 .u8,.blk 102 (.pr .i (.pr .u64 (.pr .i (.pr .bo (.pr .str (.pr .i .un))))))] [0,4,5,6,19,45] [(.ro Qj),(.rw 0),.i,(.pt 1 []),.i,.bo] [.row 5 .u8,.blk 102 (.pr .i (.pr .u64 (.pr .i (.pr .bo (.pr .str (.pr .i .un))))))] (fun x y=>L65_4 F x.2.2.2.2.1 x.2.2.2.2.2.1) (fun x y (z:Bool)=>((x.1,(),x.2.2.1,(),x.2.2.2.2.1,z,()),(y.1,(y.2.1.1,y.2.1.2.1,y.2.1.2.2.1,y.2.1.2.2.2.1,y.2.1.2.2.2.2.1,y.2.1.2.2.2.2.2.1,()),())))
theorem lo65_4 (F:Nat):LcOk Tryz.prog (E65 F) 0 (lc65_4 F) (cAt (bodyOf Tryz.f65) [1,0,1,1,1,1,1,1,0,1,1,0,0,1,0,0,1,0,1,1]):=
 mkJ_ok (lp:=[]) cok (cts65 F) mixed trivial (by kernel_rfl) (fun x y kO=>L65_4c F x.2.2.2.2.1 x.2.2.2.2.2.1 kO) (fun x y kO=>L65_4n F x.2.2.2.2.1 x.2.2.2.2.2.1 kO) (fun _ _=>by kernel_rfl)
def L65_3c (F:Nat) (y46:List Ze) (y47:Int) (y48:List UInt8) {β:Type} (kA:Zi->Option β) (kO:(Zb)->Option β) (kR:Int->Option β):Option β:=
 (bif (decide (y47 < (y46.length:Int))) then (Option.bind (ix y46 y47) fun x64=>(bif (x64.1 == (1:Int)) then (Option.bind (T100 F x64.2.1) fun z65=>(Option.bind (gapp y48 z65) fun x66=>(kA ((w64 (y47 + (1:Int))),x66)))) else (bif (x64.1 == (2:Int)) then (Option.bind (T120 F x64.2.2.1) fun z67=>(Option.bind (T100 F z67) fun z68=>(Option.bind (gapp y48 z68) fun x69=>(kA ((w64 (y47 + (1:Int))),x69))))) else (bif (x64.1 == (3:Int)) then (bif x64.2.2.2.1 then (Option.bind (gapp y48 ([(UInt8.ofNat 1)]:List UInt8)) fun x70=>(kA ((w64 (y47 + (1:Int))),x70))) else (Option.bind (gapp y48 ([(UInt8.ofNat 0)]:List UInt8)) fun x71=>(kA ((w64 (y47 + (1:Int))),x71)))) else (Option.bind (L65_4 F x64.1 (x64.1 == (4:Int))) fun z83=>(bif z83 then (Option.bind (T100 F (UInt64.ofInt (x64.2.2.2.2.1.length:Int))) fun z84=>(Option.bind (gapp y48 z84) fun x85=>(Option.bind (gapp x85 x64.2.2.2.2.1) fun x86=>(kA ((w64 (y47 + (1:Int))),x86))))) else (bif (x64.1 == (6:Int)) then (bif ((x64.2.2.2.2.1.length:Int) != (32:Int)) then (kR (1:Int)) else (Option.bind (gapp y48 x64.2.2.2.2.1) fun x87=>(kA ((w64 (y47 + (1:Int))),x87)))) else (bif (x64.1 == (7:Int)) then (bif (decide (x64.2.2.1 < (0:Int))) then (kR (1:Int)) else (Option.bind (T100 F (UInt64.ofInt x64.2.2.1)) fun z88=>(Option.bind (gapp y48 z88) fun x89=>(kA ((w64 (y47 + (1:Int))),x89))))) else (kA ((w64 (y47 + (1:Int))),y48)))))))))) else (kO y48))
def L65_3 (F:Nat) (y46:List Ze) (y47:Int) (y48:List UInt8):Option (Zi ⊕ ((Zb) ⊕ (Int))):=L65_3c F y46 y47 y48 (fun s=>some (.inl s)) (fun z=>some (.inr (.inl z))) (fun z=>some (.inr (.inr z)))
theorem L65_3n (F:Nat) (y46:List Ze) (y47:Int) (y48:List UInt8) {β:Type} (kA:Zi->Option β) (kO:(Zb)->Option β) (kR:Int->Option β):L65_3c F y46 y47 y48 kA kO kR=(L65_3 F y46 y47 y48).bind (elimS kA (elimS kO kR)):=by
 simp only [L65_3,L65_3c,oA,oC,oS,oN,elimS_l,elimS_r,elimS_bind]
def lc65_3 (F:Nat):Lc:=mkR [0,4,5] [(.ro Qj),(.rw 0),.i] [.row 5 .u8] [4] [(.rw 0)] [.row 5 .u8] [2,3] [.ns,.i] [] F (fun x y (s:Int×Zb)=>L65_3 F x.1 s.1 s.2) (fun x y=>(x.2.2.1,y.1)) (fun x y (z:Zb)=>(((),()),(z,()))) (fun x y (z:Int)=>(((),z,()),()))
theorem lo65_3 (F:Nat):LcOk Tryz.prog (E65 F) 0 (lc65_3 F) (cAt (bodyOf Tryz.f65) [1,0,1,1]):=
 mkR_ok (lp:=[([1,0,1,1,1,1,1,1,0,1,1,0,0,1,0,0,1,0,1,1],lc65_4 F)]) (id:=0) (b:=cAt (bodyOf Tryz.f65) (0 :: 0 :: [1,0,1,1])) cok (cts65 F) mixed ⟨lo65_4 F,trivial⟩ (by kernel_rfl) (by kernel_rfl) (fun x y s=>(x.1,(),s.1,())) (fun x y s=>(s.2,())) (fun x y=>rfl) (fun x y=>rfl) (fun x y s kA kO kR=>L65_3c F x.1 s.1 s.2 kA kO kR) (fun x y s kA kO kR=>L65_3n F x.1 s.1 s.2 kA kO kR) (fun _ _ _=>by kernel_rfl)
def T65c (F:Nat) (p0:List Ze) {β:Type} (k:Zi->Option β):Option β:=
 (Option.bind (iter (fun s=>L65_3 F p0 s.1 s.2) F ((0:Int),([]:List UInt8))) fun z90=>elimS (fun z90=>(bif (decide ((1048576:Int) < (z90.length:Int))) then (k ((2:Int),([]:List UInt8))) else (k ((0:Int),z90)))) (fun z90=>(k (z90,([]:List UInt8)))) z90)
def T65 (F:Nat) (p0:List Ze):=T65c F p0 some
def ct65 (F:Nat):Ct:=mkC 0 [(.ro Qj)] [] [(.rw 0),.i] [.row 5 .u8] (fun x y=>T65 F x.1) (fun x y (z:Int×Zb)=>(((),z.1,()),(z.2,())))
theorem ok65 (F:Nat):Sound Tryz.prog cfg 65 (ct65 F):=
 mkC_ok (E:=E65 F) (lp:=[([1,0,1,1],lc65_3 F)]) (code:=bodyOf Tryz.f65) Tryz.func65 rfl Tryz.ntmps65 rfl rfl cok (cts65 F) mixed ⟨lo65_3 F,trivial⟩ (by kernel_rfl) (fun x y k=>T65c F x.1 k) (fun _ _ _=>by simp only [T65,T65c,oA,oC,oS,oN,elimS_bind]) (fun _ _=>by kernel_rfl)
def ord20:Nat->List (Tag×Nat)
 | 3=>[(.p,0),(.r,1),(.p,3),(.c,4),(.p,6),(.c,7),(.p,8),(.w,2),(.w,5),(.b,9),(.w,10),(.p,11)]
 | 13=>[(.p,0),(.p,1),(.r,2),(.p,4),(.c,5),(.p,7),(.c,8),(.w,3),(.w,6),(.b,9),(.w,10),(.w,11),(.p,12)]
 | 15=>[(.p,0),(.p,1),(.r,2),(.p,4),(.c,5),(.p,7),(.c,8),(.p,9),(.p,10),(.c,11),(.p,12),(.w,3),(.w,6),(.w,13),(.w,14),(.p,15)]
 | 21=>[(.p,0),(.p,1),(.c,2),(.p,3),(.p,4),(.r,5),(.p,7),(.c,8),(.p,10),(.c,11),(.p,13),(.c,14),(.w,6),(.w,9),(.w,12),(.w,15),(.w,16),(.w,17),(.p,18)]
 | _=>[]
def E20 (F:Nat):Ev:=⟨cfg,143,ctOf [(60,ct60 F),(61,ct61 F),(62,ct62 F),(63,ct63 F),(64,ct64 F),(65,ct65 F)],ord20,ctOf [],fun _=>none,fun _=>none⟩
theorem cts20 (F:Nat):CtsOk Tryz.prog (E20 F):=cts_of (l:=[(60,ct60 F),(61,ct61 F),(62,ct62 F),(63,ct63 F),(64,ct64 F),(65,ct65 F)]) (l':=[]) rfl rfl ⟨⟨ok60 F,_,Tryz.func60,rfl,rfl⟩,⟨⟨ok61 F,_,Tryz.func61,rfl,rfl⟩,⟨⟨ok62 F,_,Tryz.func62,rfl,rfl⟩,⟨⟨ok63 F,_,Tryz.func63,rfl,rfl⟩,⟨⟨ok64 F,_,Tryz.func64,rfl,rfl⟩,⟨⟨ok65 F,_,Tryz.func65,rfl,rfl⟩,trivial⟩⟩⟩⟩⟩⟩ trivial
def L20_4c (F:Nat) (y91:List Int) (y92:Int) (y93:Int) (y100:List Ze) {β:Type} (kA:(Int×Zp)->Option β) (kO:(Zp)->Option β):Option β:=
 (bif (decide (y93 < y92)) then (Option.bind (ix y91 y93) fun x104=>(Option.bind (T61 F) fun z105=>(Option.bind (gapp y100 ([(z105.1,z105.2.1,x104,z105.2.2.1,z105.2.2.2.1,z105.2.2.2.2,())]:List Ze)) fun x106=>(kA ((w64 (y93 + (1:Int))),x106))))) else (kO y100))
def L20_4 (F:Nat) (y91:List Int) (y92:Int) (y93:Int) (y100:List Ze):=L20_4c F y91 y92 y93 y100 (fun s=>some (Sum.inl s)) (fun z=>some (Sum.inr z))
def lc20_4 (F:Nat):Lc:=mkL [1,4,28,29,30] [(.pt 0 []),(.rw 1),(.ro .i),.i,.i] [.blk 27 Qa,.row 102 Qj] [1,4] [(.pt 0 []),(.rw 1)] [.blk 27 Qa,.row 102 Qj] F (fun x y (s:Int×Zp)=>L20_4 F x.2.2.1 x.2.2.2.1 s.1 s.2) (fun x y=>(x.2.2.2.2.1,y.2.1)) (fun x y (z:Zp)=>(((),(),()),((y.1.1,y.1.2.1,y.1.2.2.1,y.1.2.2.2.1,y.1.2.2.2.2.1,y.1.2.2.2.2.2.1,()),z,())))
theorem lo20_4 (F:Nat):LcOk Tryz.prog (E20 F) 0 (lc20_4 F) (cAt (bodyOf Tryz.f20) [1,0,1,1,1]):=
 mkL_ok (lp:=[]) (id:=0) (b:=cAt (bodyOf Tryz.f20) (0 :: 0 :: [1,0,1,1,1])) cok (cts20 F) mixed trivial (by kernel_rfl) (by kernel_rfl) (fun x y s=>((),(),x.2.2.1,x.2.2.2.1,s.1,())) (fun x y s=>((y.1.1,y.1.2.1,y.1.2.2.1,y.1.2.2.2.1,y.1.2.2.2.2.1,y.1.2.2.2.2.2.1,()),s.2,())) (fun x y=>rfl) (fun x y=>rfl) (fun x y s kA kO=>L20_4c F x.2.2.1 x.2.2.2.1 s.1 s.2 kA kO) (fun _ _ _ _ _=>by simp only [L20_4,L20_4c,oA,oC,oS,oN,elimS_l,elimS_r,elimS_bind]) (fun _ _ _=>by kernel_rfl)
def L20_5c (F:Nat) (y110:List Zc) (y111:Int) (y112:Int) (y119:List Ze) {β:Type} (kA:(Int×Zp)->Option β) (kO:(Zp)->Option β):Option β:=
 (bif (decide (y112 < y111)) then (Option.bind (ix y110 y112) fun x130=>(Option.bind (T61 F) fun z131=>(Option.bind (T61 F) fun z132=>(Option.bind (T61 F) fun z133=>(Option.bind (gapp y119 ([(z131.1,z131.2.1,x130.1,z131.2.2.1,z131.2.2.2.1,z131.2.2.2.2,()),(z132.1,z132.2.1,x130.2.1,z132.2.2.1,z132.2.2.2.1,z132.2.2.2.2,()),(z133.1,z133.2.1,x130.2.2.1,z133.2.2.1,z133.2.2.2.1,z133.2.2.2.2,())]:List Ze)) fun x134=>(Option.bind (T63 F x130.2.2.2.1.1 x130.2.2.2.1.2.1 x130.2.2.2.1.2.2.1) fun z135=>(Option.bind (gapp x134 z135) fun x136=>(Option.bind (T61 F) fun z137=>(Option.bind (T61 F) fun z138=>(Option.bind (gapp x136 ([(z137.1,z137.2.1,x130.2.2.2.2.1,z137.2.2.1,z137.2.2.2.1,z137.2.2.2.2,()),(z138.1,z138.2.1,x130.2.2.2.2.2.1,z138.2.2.1,z138.2.2.2.1,z138.2.2.2.2,()),((5:Int),(0:UInt64),(0:Int),false,x130.2.2.2.2.2.2.1,(0:Int),()),((3:Int),(0:UInt64),(0:Int),x130.2.2.2.2.2.2.2.1,([]:List UInt8),(0:Int),())]:List Ze)) fun x139=>(kA ((w64 (y112 + (1:Int))),x139)))))))))))) else (kO y119))
def L20_5 (F:Nat) (y110:List Zc) (y111:Int) (y112:Int) (y119:List Ze):=L20_5c F y110 y111 y112 y119 (fun s=>some (Sum.inl s)) (fun z=>some (Sum.inr z))
def lc20_5 (F:Nat):Lc:=mkL [1,4,48,49,50] [(.pt 0 []),(.rw 1),(.ro Qb),.i,.i] [.blk 27 Qa,.row 102 Qj] [1,4] [(.pt 0 []),(.rw 1)] [.blk 27 Qa,.row 102 Qj] F (fun x y (s:Int×Zp)=>L20_5 F x.2.2.1 x.2.2.2.1 s.1 s.2) (fun x y=>(x.2.2.2.2.1,y.2.1)) (fun x y (z:Zp)=>(((),(),()),((y.1.1,y.1.2.1,y.1.2.2.1,y.1.2.2.2.1,y.1.2.2.2.2.1,y.1.2.2.2.2.2.1,()),z,())))
theorem lo20_5 (F:Nat):LcOk Tryz.prog (E20 F) 0 (lc20_5 F) (cAt (bodyOf Tryz.f20) [1,0,1,1,1,1,1]):=
 mkL_ok (lp:=[]) (id:=2) (b:=cAt (bodyOf Tryz.f20) (0 :: 0 :: [1,0,1,1,1,1,1])) cok (cts20 F) mixed trivial (by kernel_rfl) (by kernel_rfl) (fun x y s=>((),(),x.2.2.1,x.2.2.2.1,s.1,())) (fun x y s=>((y.1.1,y.1.2.1,y.1.2.2.1,y.1.2.2.2.1,y.1.2.2.2.2.1,y.1.2.2.2.2.2.1,()),s.2,())) (fun x y=>rfl) (fun x y=>rfl) (fun x y s kA kO=>L20_5c F x.2.2.1 x.2.2.2.1 s.1 s.2 kA kO) (fun _ _ _ _ _=>by simp only [L20_5,L20_5c,oA,oC,oS,oN,elimS_l,elimS_r,elimS_bind]) (fun _ _ _=>by kernel_rfl)
def L20_6c (F:Nat) (y143:List Zd) (y144:Int) (y145:Int) (y152:List Ze) {β:Type} (kA:(Int×Zp)->Option β) (kO:(Zp)->Option β):Option β:=
 (bif (decide (y145 < y144)) then (Option.bind (ix y143 y145) fun x161=>(Option.bind (T61 F) fun z162=>(Option.bind (T61 F) fun z163=>(Option.bind (T61 F) fun z164=>(Option.bind (T61 F) fun z165=>(Option.bind (gapp y152 ([((6:Int),(0:UInt64),(0:Int),false,x161.1,(0:Int),()),(z162.1,z162.2.1,x161.2.1,z162.2.2.1,z162.2.2.2.1,z162.2.2.2.2,()),(z163.1,z163.2.1,x161.2.2.1,z163.2.2.1,z163.2.2.2.1,z163.2.2.2.2,()),(z164.1,z164.2.1,x161.2.2.2.1,z164.2.2.1,z164.2.2.2.1,z164.2.2.2.2,()),(z165.1,z165.2.1,x161.2.2.2.2.1,z165.2.2.1,z165.2.2.2.1,z165.2.2.2.2,())]:List Ze)) fun x166=>(Option.bind (T64 F x161.2.2.2.2.2.1) fun z167=>(Option.bind (gapp x166 z167) fun x168=>(kA ((w64 (y145 + (1:Int))),x168)))))))))) else (kO y152))
def L20_6 (F:Nat) (y143:List Zd) (y144:Int) (y145:Int) (y152:List Ze):=L20_6c F y143 y144 y145 y152 (fun s=>some (Sum.inl s)) (fun z=>some (Sum.inr z))
def lc20_6 (F:Nat):Lc:=mkL [1,4,95,96,97] [(.pt 0 []),(.rw 1),(.ro Qc),.i,.i] [.blk 27 Qa,.row 102 Qj] [1,4] [(.pt 0 []),(.rw 1)] [.blk 27 Qa,.row 102 Qj] F (fun x y (s:Int×Zp)=>L20_6 F x.2.2.1 x.2.2.2.1 s.1 s.2) (fun x y=>(x.2.2.2.2.1,y.2.1)) (fun x y (z:Zp)=>(((),(),()),((y.1.1,y.1.2.1,y.1.2.2.1,y.1.2.2.2.1,y.1.2.2.2.2.1,y.1.2.2.2.2.2.1,()),z,())))
theorem lo20_6 (F:Nat):LcOk Tryz.prog (E20 F) 0 (lc20_6 F) (cAt (bodyOf Tryz.f20) [1,0,1,1,1,1,1,1,1]):=
 mkL_ok (lp:=[]) (id:=4) (b:=cAt (bodyOf Tryz.f20) (0 :: 0 :: [1,0,1,1,1,1,1,1,1])) cok (cts20 F) mixed trivial (by kernel_rfl) (by kernel_rfl) (fun x y s=>((),(),x.2.2.1,x.2.2.2.1,s.1,())) (fun x y s=>((y.1.1,y.1.2.1,y.1.2.2.1,y.1.2.2.2.1,y.1.2.2.2.2.1,y.1.2.2.2.2.2.1,()),s.2,())) (fun x y=>rfl) (fun x y=>rfl) (fun x y s kA kO=>L20_6c F x.2.2.1 x.2.2.2.1 s.1 s.2 kA kO) (fun _ _ _ _ _=>by simp only [L20_6,L20_6c,oA,oC,oS,oN,elimS_l,elimS_r,elimS_bind]) (fun _ _ _=>by kernel_rfl)
def T20c (F:Nat) (p0:Int) (p1:Int) (p2:List Int) (p3:List Zc) (p4:List Zd) (p5:List Za) {β:Type} (k:Zi->Option β):Option β:=
 (Option.bind (T60 F p0 p1 p2 p3 p4 p5) fun z87=>(bif (!z87) then (k ((1:Int),([]:List UInt8))) else (Option.bind (T61 F) fun z88=>(Option.bind (T61 F) fun z89=>(Option.bind (T62 F) fun z90=>(Option.bind (iter (fun s=>L20_4 F p2 (p2.length:Int) s.1 s.2) F ((0:Int),([(z88.1,z88.2.1,p0,z88.2.2.1,z88.2.2.2.1,z88.2.2.2.2,()),(z89.1,z89.2.1,p1,z89.2.2.1,z89.2.2.2.1,z89.2.2.2.2,()),(z90.1,z90.2.1,(p2.length:Int),z90.2.2.1,z90.2.2.2.1,z90.2.2.2.2,())]:List Ze))) fun z107=>(Option.bind (T62 F) fun z108=>(Option.bind (gapp z107 ([(z108.1,z108.2.1,(p3.length:Int),z108.2.2.1,z108.2.2.2.1,z108.2.2.2.2,())]:List Ze)) fun x109=>(Option.bind (iter (fun s=>L20_5 F p3 (p3.length:Int) s.1 s.2) F ((0:Int),x109)) fun z140=>(Option.bind (T62 F) fun z141=>(Option.bind (gapp z140 ([(z141.1,z141.2.1,(p4.length:Int),z141.2.2.1,z141.2.2.2.1,z141.2.2.2.2,())]:List Ze)) fun x142=>(Option.bind (iter (fun s=>L20_6 F p4 (p4.length:Int) s.1 s.2) F ((0:Int),x142)) fun z169=>(Option.bind (T64 F p5) fun z170=>(Option.bind (gapp z169 z170) fun x171=>(Option.bind (T65 F x171) fun z172=>(bif (z172.1 != (0:Int)) then (k ((2:Int),([]:List UInt8))) else (bif (decide ((1048560:Int) < (z172.2.length:Int))) then (k ((2:Int),([]:List UInt8))) else (k ((0:Int),z172.2)))))))))))))))))))
def T20 (F:Nat) (p0:Int) (p1:Int) (p2:List Int) (p3:List Zc) (p4:List Zd) (p5:List Za):=T20c F p0 p1 p2 p3 p4 p5 some
def ct20 (F:Nat):Ct:=mkC 0 [(.pr .i (.pr .i (.pr (.ro .i) (.pr (.ro Qb) (.pr (.ro Qc) (.pr (.ro Qi) .un))))))] [] [(.rw 0),.i] [.row 5 .u8] (fun x y=>T20 F x.1.1 x.1.2.1 x.1.2.2.1 x.1.2.2.2.1 x.1.2.2.2.2.1 x.1.2.2.2.2.2.1) (fun x y (z:Int×Zb)=>(((),z.1,()),(z.2,())))
theorem ok20 (F:Nat):Sound Tryz.prog cfg 20 (ct20 F):=
 mkC_ok (E:=E20 F) (lp:=[([1,0,1,1,1],lc20_4 F),([1,0,1,1,1,1,1],lc20_5 F),([1,0,1,1,1,1,1,1,1],lc20_6 F)]) (code:=bodyOf Tryz.f20) Tryz.func20 rfl Tryz.ntmps20 rfl rfl cok (cts20 F) mixed ⟨lo20_4 F,⟨lo20_5 F,⟨lo20_6 F,trivial⟩⟩⟩ (by kernel_rfl) (fun x y k=>T20c F x.1.1 x.1.2.1 x.1.2.2.1 x.1.2.2.2.1 x.1.2.2.2.2.1 x.1.2.2.2.2.2.1 k) (fun _ _ _=>by simp only [T20,T20c,oA,oC,oS,oN,elimS_bind]) (fun _ _=>by kernel_rfl)
def E99 (F:Nat):Ev:=⟨cfg,16,ctOf [],fun _=>[],ctOf [],fun _=>none,fun _=>none⟩
theorem cts99 (F:Nat):CtsOk Tryz.prog (E99 F):=cts_of (l:=[]) (l':=[]) rfl rfl trivial trivial
def L99_2c (F:Nat) (y4:Int) (y5:Int) {β:Type} (kA:Int->Option β) (kO:Int->Option β):Option β:=
 (bif (decide (y5 < (w64 (y4 + (10:Int))))) then (kA (w64 ((2:Int) * y5))) else (kO y5))
def L99_2 (F:Nat) (y4:Int) (y5:Int):=L99_2c F y4 y5 (fun s=>some (Sum.inl s)) (fun z=>some (Sum.inr z))
def lc99_2 (F:Nat):Lc:=mkL [0,4] [.i,.i] [] [4] [.i] [] F (fun x y (s:Int)=>L99_2 F x.1 s) (fun x y=>x.2.1) (fun x y (z:Int)=>((z,()),()))
theorem lo99_2 (F:Nat):LcOk Tryz.prog (E99 F) 0 (lc99_2 F) (cAt (bodyOf Tryz.f99) [0,1,1,1,1]):=
 mkL_ok (lp:=[]) (id:=0) (b:=cAt (bodyOf Tryz.f99) (0 :: 0 :: [0,1,1,1,1])) cok (cts99 F) mixed trivial (by kernel_rfl) (by kernel_rfl) (fun x y s=>(x.1,s,())) (fun x y s=>()) (fun x y=>rfl) (fun x y=>rfl) (fun x y s kA kO=>L99_2c F x.1 s kA kO) (fun _ _ _ _ _=>by simp only [L99_2,L99_2c,oA,oC,oS,oN,elimS_l,elimS_r,elimS_bind]) (fun _ _ _=>by kernel_rfl)
def T99c (F:Nat) (p0:Int) {β:Type} (k:(Int×Int)->Option β):Option β:=
 (bif (decide (p0 < (0:Int))) then (k ((0:Int),(1:Int))) else (bif (decide ((1048560:Int) < p0)) then (k ((0:Int),(2:Int))) else (Option.bind (iter (fun s=>L99_2 F p0 s) F (1024:Int)) fun z6=>(k (z6,(0:Int))))))
def T99 (F:Nat) (p0:Int):=T99c F p0 some
def ct99 (F:Nat):Ct:=mkC 0 [.i] [] [.i,.i] [] (fun x y=>T99 F x.1) (fun x y (z:Int×Int)=>((z.1,z.2,()),()))
theorem ok99 (F:Nat):Sound Tryz.prog cfg 99 (ct99 F):=
 mkC_ok (E:=E99 F) (lp:=[([0,1,1,1,1],lc99_2 F)]) (code:=bodyOf Tryz.f99) Tryz.func99 rfl Tryz.ntmps99 rfl rfl cok (cts99 F) mixed ⟨lo99_2 F,trivial⟩ (by kernel_rfl) (fun x y k=>T99c F x.1 k) (fun _ _ _=>by simp only [T99,T99c,oA,oC,oS,oN,elimS_bind]) (fun _ _=>by kernel_rfl)
def E34 (F:Nat):Ev:=⟨cfg,24,ctOf [(99,ct99 F),(100,ct100 F)],fun _=>[],ctOf [],fun _=>none,fun _=>none⟩
theorem cts34 (F:Nat):CtsOk Tryz.prog (E34 F):=cts_of (l:=[(99,ct99 F),(100,ct100 F)]) (l':=[]) rfl rfl ⟨⟨ok99 F,_,Tryz.func99,rfl,rfl⟩,⟨⟨ok100 F,_,Tryz.func100,rfl,rfl⟩,trivial⟩⟩ trivial
def T34c (F:Nat) (p0:List UInt8) {β:Type} (k:(Zb)->Option β):Option β:=
 (Option.bind (T99 F (p0.length:Int)) fun z6=>(Option.bind (T100 F (UInt64.ofInt (p0.length:Int))) fun z7=>(Option.bind (gapp z7 p0) fun x8=>(Option.bind (gnn (w64 (z6.1 - (x8.length:Int)))) fun x9=>(Option.bind (gapp x8 (List.replicate x9 (0:UInt8))) fun x10=>(k x10))))))
def T34 (F:Nat) (p0:List UInt8):=T34c F p0 some
def ct34 (F:Nat):Ct:=mkC 0 [(.ro .u8)] [] [(.rw 0)] [.row 5 .u8] (fun x y=>T34 F x.1) (fun x y (z:Zb)=>(((),()),(z,())))
theorem ok34 (F:Nat):Sound Tryz.prog cfg 34 (ct34 F):=
 mkC_ok (E:=E34 F) (lp:=[]) (code:=bodyOf Tryz.f34) Tryz.func34 rfl Tryz.ntmps34 rfl rfl cok (cts34 F) mixed trivial (by kernel_rfl) (fun x y k=>T34c F x.1 k) (fun _ _ _=>by simp only [T34,T34c,oA,oC,oS,oN,elimS_bind]) (fun _ _=>by kernel_rfl)
def E145 (F:Nat):Ev:=⟨cfg,35,ctOf [],fun _=>[],ctOf [],fun _=>none,fun _=>none⟩
theorem cts145 (F:Nat):CtsOk Tryz.prog (E145 F):=cts_of (l:=[]) (l':=[]) rfl rfl trivial trivial
def L145_3c (F:Nat) (y19:List UInt8) {β:Type} (kA:(Zb)->Option β) (kO:(Zb)->Option β):Option β:=
 (bif ((Int.tmod (y19.length:Int) (64:Int)) != (56:Int)) then (Option.bind (gapp y19 ([(UInt8.ofNat 0)]:List UInt8)) fun x21=>(kA x21)) else (kO y19))
def L145_3 (F:Nat) (y19:List UInt8):=L145_3c F y19 (fun s=>some (Sum.inl s)) (fun z=>some (Sum.inr z))
def lc145_3 (F:Nat):Lc:=mkL [0,3] [(.ro .u8),(.rw 0)] [.row 5 .u8] [0,3] [(.ro .u8),(.rw 0)] [.row 5 .u8] F (fun x y (s:Zb)=>L145_3 F s) (fun x y=>y.1) (fun x y (z:Zb)=>((x.1,(),()),(z,())))
theorem lo145_3 (F:Nat):LcOk Tryz.prog (E145 F) 0 (lc145_3 F) (cAt (bodyOf Tryz.f145) [0,1,1]):=
 mkL_ok (lp:=[]) (id:=0) (b:=cAt (bodyOf Tryz.f145) (0 :: 0 :: [0,1,1])) cok (cts145 F) mixed trivial (by kernel_rfl) (by kernel_rfl) (fun x y s=>(x.1,(),())) (fun x y s=>(s,())) (fun x y=>rfl) (fun x y=>rfl) (fun x y s kA kO=>L145_3c F s kA kO) (fun _ _ _ _ _=>by simp only [L145_3,L145_3c,oA,oC,oS,oN,elimS_l,elimS_r,elimS_bind]) (fun _ _ _=>by kernel_rfl)
def L145_4c (F:Nat) (y23:UInt64) (y24:Int) (y25:List UInt8) {β:Type} (kA:Zi->Option β) (kO:(Zb)->Option β):Option β:=
 (bif (decide ((0:Int)≤y24)) then (Option.bind (gnn (w64 ((8:Int) * y24))) fun x28=>(Option.bind (gapp y25 ([((shr64 y23 x28).toUInt8)]:List UInt8)) fun x29=>(kA ((w64 (y24 - (1:Int))),x29)))) else (kO y25))
def L145_4 (F:Nat) (y23:UInt64) (y24:Int) (y25:List UInt8):=L145_4c F y23 y24 y25 (fun s=>some (Sum.inl s)) (fun z=>some (Sum.inr z))
def lc145_4 (F:Nat):Lc:=mkL [3,4,5] [(.rw 0),.u64,.i] [.row 5 .u8] [3] [(.rw 0)] [.row 5 .u8] F (fun x y (s:Int×Zb)=>L145_4 F x.2.1 s.1 s.2) (fun x y=>(x.2.2.1,y.1)) (fun x y (z:Zb)=>(((),()),(z,())))
theorem lo145_4 (F:Nat):LcOk Tryz.prog (E145 F) 0 (lc145_4 F) (cAt (bodyOf Tryz.f145) [1,0,1,1,1,1]):=
 mkL_ok (lp:=[]) (id:=2) (b:=cAt (bodyOf Tryz.f145) (0 :: 0 :: [1,0,1,1,1,1])) cok (cts145 F) mixed trivial (by kernel_rfl) (by kernel_rfl) (fun x y s=>((),x.2.1,s.1,())) (fun x y s=>(s.2,())) (fun x y=>rfl) (fun x y=>rfl) (fun x y s kA kO=>L145_4c F x.2.1 s.1 s.2 kA kO) (fun _ _ _ _ _=>by simp only [L145_4,L145_4c,oA,oC,oS,oN,elimS_l,elimS_r,elimS_bind]) (fun _ _ _=>by kernel_rfl)
def T145c (F:Nat) (p0:List UInt8) {β:Type} (k:(Zb)->Option β):Option β:=
 (Option.bind (gapp ([]:List UInt8) p0) fun x16=>(Option.bind (gapp x16 ([(UInt8.ofNat 128)]:List UInt8)) fun x17=>(Option.bind (iter (fun s=>L145_3 F s) F x17) fun z22=>(Option.bind (iter (fun s=>L145_4 F ((UInt64.ofInt (p0.length:Int)) * (UInt64.ofNat 8)) s.1 s.2) F ((7:Int),z22)) fun z30=>(k z30)))))
def T145 (F:Nat) (p0:List UInt8):=T145c F p0 some
def ct145 (F:Nat):Ct:=mkC 0 [(.ro .u8)] [] [(.rw 0)] [.row 5 .u8] (fun x y=>T145 F x.1) (fun x y (z:Zb)=>(((),()),(z,())))
theorem ok145 (F:Nat):Sound Tryz.prog cfg 145 (ct145 F):=
 mkC_ok (E:=E145 F) (lp:=[([0,1,1],lc145_3 F),([1,0,1,1,1,1],lc145_4 F)]) (code:=bodyOf Tryz.f145) Tryz.func145 rfl Tryz.ntmps145 rfl rfl cok (cts145 F) mixed ⟨lo145_3 F,⟨lo145_4 F,trivial⟩⟩ (by kernel_rfl) (fun x y k=>T145c F x.1 k) (fun _ _ _=>by simp only [T145,T145c,oA,oC,oS,oN,elimS_bind]) (fun _ _=>by kernel_rfl)
def E180 (F:Nat):Ev:=⟨cfg,2,ctOf [],fun _=>[],ctOf [],fun _=>none,fun _=>none⟩
theorem cts180 (F:Nat):CtsOk Tryz.prog (E180 F):=cts_of (l:=[]) (l':=[]) rfl rfl trivial trivial
def T180c (F:Nat) {β:Type} (k:(Zl)->Option β):Option β:=
 (k (#v[(UInt32.ofNat 1116352408),(UInt32.ofNat 1899447441),(UInt32.ofNat 3049323471),(UInt32.ofNat 3921009573),(UInt32.ofNat 961987163),(UInt32.ofNat 1508970993),(UInt32.ofNat 2453635748),(UInt32.ofNat 2870763221),(UInt32.ofNat 3624381080),(UInt32.ofNat 310598401),(UInt32.ofNat 607225278),(UInt32.ofNat 1426881987),(UInt32.ofNat 1925078388),(UInt32.ofNat 2162078206),(UInt32.ofNat 2614888103),(UInt32.ofNat 3248222580),(UInt32.ofNat 3835390401),(UInt32.ofNat 4022224774),(UInt32.ofNat 264347078),(UInt32.ofNat 604807628),(UInt32.ofNat 770255983),(UInt32.ofNat 1249150122),(UInt32.ofNat 1555081692),(UInt32.ofNat 1996064986),(UInt32.ofNat 2554220882),(UInt32.ofNat 2821834349),(UInt32.ofNat 2952996808),(UInt32.ofNat 3210313671),(UInt32.ofNat 3336571891),(UInt32.ofNat 3584528711),(UInt32.ofNat 113926993),(UInt32.ofNat 338241895),(UInt32.ofNat 666307205),(UInt32.ofNat 773529912),(UInt32.ofNat 1294757372),(UInt32.ofNat 1396182291),(UInt32.ofNat 1695183700),(UInt32.ofNat 1986661051),(UInt32.ofNat 2177026350),(UInt32.ofNat 2456956037),(UInt32.ofNat 2730485921),(UInt32.ofNat 2820302411),(UInt32.ofNat 3259730800),(UInt32.ofNat 3345764771),(UInt32.ofNat 3516065817),(UInt32.ofNat 3600352804),(UInt32.ofNat 4094571909),(UInt32.ofNat 275423344),(UInt32.ofNat 430227734),(UInt32.ofNat 506948616),(UInt32.ofNat 659060556),(UInt32.ofNat 883997877),(UInt32.ofNat 958139571),(UInt32.ofNat 1322822218),(UInt32.ofNat 1537002063),(UInt32.ofNat 1747873779),(UInt32.ofNat 1955562222),(UInt32.ofNat 2024104815),(UInt32.ofNat 2227730452),(UInt32.ofNat 2361852424),(UInt32.ofNat 2428436474),(UInt32.ofNat 2756734187),(UInt32.ofNat 3204031479),(UInt32.ofNat 3329325298)]:Vector UInt32 64))
def T180 (F:Nat):=T180c F some
def ct180 (F:Nat):Ct:=mkC 0 [] [] [(.ar 64 .u32)] [] (fun x y=>T180 F) (fun x y (z:Zl)=>((z,()),()))
theorem ok180 (F:Nat):Sound Tryz.prog cfg 180 (ct180 F):=
 mkC_ok (E:=E180 F) (lp:=[]) (code:=bodyOf Tryz.f180) Tryz.func180 rfl Tryz.ntmps180 rfl rfl cok (cts180 F) mixed trivial (by kernel_rfl) (fun x y k=>T180c F k) (fun _ _ _=>by simp only [T180,T180c,oA,oC,oS,oN,elimS_bind]) (fun _ _=>by kernel_rfl)
def ord181:Nat->List (Tag×Nat)
 | 1=>[(.p,0),(.p,1),(.p,2),(.p,3),(.p,4),(.p,5),(.p,6),(.p,7),(.p,8)]
 | _=>[]
def E181 (F:Nat):Ev:=⟨cfg,13,ctOf [],ord181,ctOf [],fun _=>none,fun _=>none⟩
theorem cts181 (F:Nat):CtsOk Tryz.prog (E181 F):=cts_of (l:=[]) (l':=[]) rfl rfl trivial trivial
def T181c (F:Nat) (p0:UInt32) (p1:Int) {β:Type} (k:UInt32->Option β):Option β:=
 (Option.bind (gnn p1) fun x3=>(Option.bind (gnn (w64 ((32:Int) - p1))) fun x4=>(k ((shr32 p0 x3) ||| (shl32 p0 x4)))))
def T181 (F:Nat) (p0:UInt32) (p1:Int):=T181c F p0 p1 some
def ct181 (F:Nat):Ct:=mkC 0 [.u32,.i] [] [.u32] [] (fun x y=>T181 F x.1 x.2.1) (fun x y (z:UInt32)=>((z,()),()))
theorem ok181 (F:Nat):Sound Tryz.prog cfg 181 (ct181 F):=
 mkC_ok (E:=E181 F) (lp:=[]) (code:=bodyOf Tryz.f181) Tryz.func181 rfl Tryz.ntmps181 rfl rfl cok (cts181 F) mixed trivial (by kernel_rfl) (fun x y k=>T181c F x.1 x.2.1 k) (fun _ _ _=>by simp only [T181,T181c,oA,oC,oS,oN,elimS_bind]) (fun _ _=>by kernel_rfl)
def ord146:Nat->List (Tag×Nat)
 | 6=>[(.p,0),(.p,1),(.p,2),(.p,3),(.p,4),(.r,5),(.p,6),(.p,7),(.p,8),(.p,9),(.p,10),(.p,11),(.p,12),(.r,13),(.p,14),(.p,15),(.p,16),(.p,17),(.p,18),(.p,19),(.p,20),(.p,21),(.r,22),(.p,23),(.p,24),(.p,25),(.p,26),(.p,27),(.p,28),(.p,29),(.p,30),(.r,31),(.p,32),(.p,33),(.p,34),(.w,35)]
 | 10=>[(.p,0),(.p,1),(.p,2),(.r,3),(.p,5),(.p,6),(.p,7),(.c,8),(.p,11),(.p,12),(.p,13),(.c,14),(.p,15),(.w,4),(.w,9),(.p,10),(.p,16),(.p,17)]
 | 11=>[(.p,0),(.p,1),(.p,2),(.r,3),(.p,5),(.p,6),(.p,7),(.c,8),(.p,11),(.p,12),(.p,13),(.c,14),(.p,15),(.w,4),(.w,9),(.p,10),(.p,16),(.p,17)]
 | 12=>[(.p,0),(.p,1),(.p,2),(.p,3),(.p,4),(.r,5),(.p,6),(.p,7),(.p,8),(.p,9),(.p,10),(.p,11),(.r,12),(.p,13),(.p,14),(.w,15)]
 | 17=>[(.p,0),(.r,1),(.p,2),(.r,3),(.p,4),(.r,5),(.p,6),(.r,7),(.p,8),(.r,9),(.p,10),(.r,11),(.p,12),(.p,13),(.p,14),(.p,15),(.p,16),(.p,17)]
 | 18=>[(.p,0),(.c,1),(.p,2),(.p,4),(.p,7),(.p,11),(.p,12),(.p,13),(.p,14),(.p,15),(.p,16),(.p,17),(.p,18),(.p,20),(.p,21),(.c,22),(.p,24),(.p,25),(.c,26),(.w,3),(.w,5),(.p,6),(.w,8),(.p,9),(.p,10),(.p,19),(.p,23),(.p,27),(.p,28)]
 | 24=>[(.p,0),(.p,1),(.r,2),(.p,3),(.p,4),(.r,5),(.p,6),(.p,7),(.w,8)]
 | _=>[]
def E146 (F:Nat):Ev:=⟨cfg,208,ctOf [(180,ct180 F),(181,ct181 F)],ord146,ctOf [],fun _=>none,fun _=>none⟩
theorem cts146 (F:Nat):CtsOk Tryz.prog (E146 F):=cts_of (l:=[(180,ct180 F),(181,ct181 F)]) (l':=[]) rfl rfl ⟨⟨ok180 F,_,Tryz.func180,rfl,rfl⟩,⟨⟨ok181 F,_,Tryz.func181,rfl,rfl⟩,trivial⟩⟩ trivial
def L146_5c (F:Nat) (y126:List UInt8) (y127:Int) (y131:Vector UInt32 64) {β:Type} (kA:(Int×Zl)->Option β) (kO:(Zl)->Option β):Option β:=
 (bif (decide (y127 < (16:Int))) then (Option.bind (ix y126 (w64 ((4:Int) * y127))) fun x137=>(Option.bind (ix y126 (w64 ((w64 ((4:Int) * y127)) + (1:Int)))) fun x138=>(Option.bind (ix y126 (w64 ((w64 ((4:Int) * y127)) + (2:Int)))) fun x139=>(Option.bind (ix y126 (w64 ((w64 ((4:Int) * y127)) + (3:Int)))) fun x140=>(Option.bind (inb 64 y127) fun x141=>(kA ((w64 (y127 + (1:Int))),(Vector.setIfInBounds y131 x141 ((((shl32 (x137.toUInt32) ((UInt64.ofNat 24).toNat)) ||| (shl32 (x138.toUInt32) ((UInt64.ofNat 16).toNat))) ||| (shl32 (x139.toUInt32) ((UInt64.ofNat 8).toNat))) ||| (x140.toUInt32)))))))))) else (kO y131))
def L146_5 (F:Nat) (y126:List UInt8) (y127:Int) (y131:Vector UInt32 64):=L146_5c F y126 y127 y131 (fun s=>some (Sum.inl s)) (fun z=>some (Sum.inr z))
def lc146_5 (F:Nat):Lc:=mkL [1,2,4,5,6,7] [(.ro .u8),(.pt 0 []),(.pt 1 []),(.pt 2 []),(.pt 3 []),.i] [.blk 192 Qr,.blk 192 Qr,.blk 231 Qx,.blk 231 Qx] [2,4,5,6] [(.pt 0 []),(.pt 1 []),(.pt 2 []),(.pt 3 [])] [.blk 192 Qr,.blk 192 Qr,.blk 231 Qx,.blk 231 Qx] F (fun x y (s:Int×Zl)=>L146_5 F x.1 s.1 s.2) (fun x y=>(x.2.2.2.2.2.1,y.2.2.2.1)) (fun x y (z:Zl)=>(((),(),(),(),()),(y.1,y.2.1,y.2.2.1,z,())))
theorem lo146_5 (F:Nat):LcOk Tryz.prog (E146 F) 0 (lc146_5 F) (cAt (bodyOf Tryz.f146) [1,0,1,1,1]):=
 mkL_ok (lp:=[]) (id:=0) (b:=cAt (bodyOf Tryz.f146) (0 :: 0 :: [1,0,1,1,1])) cok (cts146 F) mixed trivial (by kernel_rfl) (by kernel_rfl) (fun x y s=>(x.1,(),(),(),(),s.1,())) (fun x y s=>(y.1,y.2.1,y.2.2.1,s.2,())) (fun x y=>rfl) (fun x y=>rfl) (fun x y s kA kO=>L146_5c F x.1 s.1 s.2 kA kO) (fun _ _ _ _ _=>by simp only [L146_5,L146_5c,oA,oC,oS,oN,elimS_l,elimS_r,elimS_bind]) (fun _ _ _=>by kernel_rfl)
def L146_6c (F:Nat) (y143:Int) (y147:Vector UInt32 64) {β:Type} (kA:(Int×Zl)->Option β) (kO:(Zl)->Option β):Option β:=
 (bif (decide (y143 < (64:Int))) then (Option.bind (inb 64 (w64 (y143 - (15:Int)))) fun x169=>(Option.bind (vat y147 x169) fun x170=>(Option.bind (inb 64 (w64 (y143 - (15:Int)))) fun x171=>(Option.bind (vat y147 x171) fun x172=>(Option.bind (inb 64 (w64 (y143 - (15:Int)))) fun x173=>(Option.bind (vat y147 x173) fun x174=>(Option.bind (T181 F x170 (7:Int)) fun z175=>(Option.bind (T181 F x172 (18:Int)) fun z176=>(Option.bind (inb 64 (w64 (y143 - (2:Int)))) fun x177=>(Option.bind (vat y147 x177) fun x178=>(Option.bind (inb 64 (w64 (y143 - (2:Int)))) fun x179=>(Option.bind (vat y147 x179) fun x180=>(Option.bind (inb 64 (w64 (y143 - (2:Int)))) fun x181=>(Option.bind (vat y147 x181) fun x182=>(Option.bind (T181 F x178 (17:Int)) fun z183=>(Option.bind (T181 F x180 (19:Int)) fun z184=>(Option.bind (inb 64 (w64 (y143 - (7:Int)))) fun x185=>(Option.bind (vat y147 x185) fun x186=>(Option.bind (inb 64 (w64 (y143 - (16:Int)))) fun x187=>(Option.bind (vat y147 x187) fun x188=>(Option.bind (inb 64 y143) fun x189=>(kA ((w64 (y143 + (1:Int))),(Vector.setIfInBounds y147 x189 (((((z183 ^^^ z184) ^^^ (shr32 x182 ((UInt64.ofNat 10).toNat))) + x186) + ((z175 ^^^ z176) ^^^ (shr32 x174 ((UInt64.ofNat 3).toNat)))) + x188))))))))))))))))))))))))) else (kO y147))
def L146_6 (F:Nat) (y143:Int) (y147:Vector UInt32 64):=L146_6c F y143 y147 (fun s=>some (Sum.inl s)) (fun z=>some (Sum.inr z))
def lc146_6 (F:Nat):Lc:=mkL [2,4,5,6,8] [(.pt 0 []),(.pt 1 []),(.pt 2 []),(.pt 3 []),.i] [.blk 192 Qr,.blk 192 Qr,.blk 231 Qx,.blk 231 Qx] [2,4,5,6] [(.pt 0 []),(.pt 1 []),(.pt 2 []),(.pt 3 [])] [.blk 192 Qr,.blk 192 Qr,.blk 231 Qx,.blk 231 Qx] F (fun x y (s:Int×Zl)=>L146_6 F s.1 s.2) (fun x y=>(x.2.2.2.2.1,y.2.2.2.1)) (fun x y (z:Zl)=>(((),(),(),(),()),(y.1,y.2.1,y.2.2.1,z,())))
theorem lo146_6 (F:Nat):LcOk Tryz.prog (E146 F) 0 (lc146_6 F) (cAt (bodyOf Tryz.f146) [1,0,1,1,1,1]):=
 mkL_ok (lp:=[]) (id:=2) (b:=cAt (bodyOf Tryz.f146) (0 :: 0 :: [1,0,1,1,1,1])) cok (cts146 F) mixed trivial (by kernel_rfl) (by kernel_rfl) (fun x y s=>((),(),(),(),s.1,())) (fun x y s=>(y.1,y.2.1,y.2.2.1,s.2,())) (fun x y=>rfl) (fun x y=>rfl) (fun x y s kA kO=>L146_6c F s.1 s.2 kA kO) (fun _ _ _ _ _=>by simp only [L146_6,L146_6c,oA,oC,oS,oN,elimS_l,elimS_r,elimS_bind]) (fun _ _ _=>by kernel_rfl)
def L146_7c (F:Nat) (y194:Vector UInt32 64) (y195:Vector UInt32 64) (y191:Int) (y196:Vector UInt32 8) {β:Type} (kA:(Int×Zf)->Option β) (kO:(Zf)->Option β):Option β:=
 (bif (decide (y191 < (64:Int))) then (Option.bind (vat y196 0) fun x215=>(Option.bind (vat y196 1) fun x216=>(Option.bind (vat y196 2) fun x217=>(Option.bind (vat y196 4) fun x218=>(Option.bind (vat y196 5) fun x219=>(Option.bind (vat y196 6) fun x220=>(Option.bind (vat y196 7) fun x221=>(Option.bind (inb 64 y191) fun x222=>(Option.bind (vat y194 x222) fun x223=>(Option.bind (inb 64 y191) fun x224=>(Option.bind (vat y195 x224) fun x225=>(Option.bind (T181 F x218 (6:Int)) fun z226=>(Option.bind (T181 F x218 (11:Int)) fun z227=>(Option.bind (T181 F x218 (25:Int)) fun z228=>(Option.bind (T181 F x215 (2:Int)) fun z229=>(Option.bind (T181 F x215 (13:Int)) fun z230=>(Option.bind (T181 F x215 (22:Int)) fun z231=>(Option.bind (vat y196 3) fun x232=>(kA ((w64 (y191 + (1:Int))),(#v[(((((x221 + ((z226 ^^^ z227) ^^^ z228)) + ((x218 &&& x219) ^^^ ((~~~x218) &&& x220))) + x223) + x225) + (((z229 ^^^ z230) ^^^ z231) + (((x215 &&& x216) ^^^ (x215 &&& x217)) ^^^ (x216 &&& x217)))),x215,x216,x217,(x232 + ((((x221 + ((z226 ^^^ z227) ^^^ z228)) + ((x218 &&& x219) ^^^ ((~~~x218) &&& x220))) + x223) + x225)),x218,x219,x220]:Vector UInt32 8))))))))))))))))))))) else (kO y196))
def L146_7 (F:Nat) (y194:Vector UInt32 64) (y195:Vector UInt32 64) (y191:Int) (y196:Vector UInt32 8):=L146_7c F y194 y195 y191 y196 (fun s=>some (Sum.inl s)) (fun z=>some (Sum.inr z))
def lc146_7 (F:Nat):Lc:=mkL [2,4,5,6,11,12] [(.pt 0 []),(.pt 1 []),(.pt 2 []),(.pt 3 []),(.pt 4 []),.i] [.blk 192 Qr,.blk 192 Qr,.blk 231 Qx,.blk 231 Qx,.blk 192 Qr] [2,4,11] [(.pt 0 []),(.pt 1 []),(.pt 2 [])] [.blk 192 Qr,.blk 192 Qr,.blk 192 Qr] F (fun x y (s:Int×Zf)=>L146_7 F y.2.2.1 y.2.2.2.1 s.1 s.2) (fun x y=>(x.2.2.2.2.2.1,y.2.2.2.2.1)) (fun x y (z:Zf)=>(((),(),(),()),(y.1,y.2.1,z,())))
theorem lo146_7 (F:Nat):LcOk Tryz.prog (E146 F) 0 (lc146_7 F) (cAt (bodyOf Tryz.f146) [1,0,1,1,1,1,1,1]):=
 mkL_ok (lp:=[]) (id:=4) (b:=cAt (bodyOf Tryz.f146) (0 :: 0 :: [1,0,1,1,1,1,1,1])) cok (cts146 F) mixed trivial (by kernel_rfl) (by kernel_rfl) (fun x y s=>((),(),(),(),(),s.1,())) (fun x y s=>(y.1,y.2.1,y.2.2.1,y.2.2.2.1,s.2,())) (fun x y=>rfl) (fun x y=>rfl) (fun x y s kA kO=>L146_7c F y.2.2.1 y.2.2.2.1 s.1 s.2 kA kO) (fun _ _ _ _ _=>by simp only [L146_7,L146_7c,oA,oC,oS,oN,elimS_l,elimS_r,elimS_bind]) (fun _ _ _=>by kernel_rfl)
def L146_8c (F:Nat) (y235:Vector UInt32 8) (y234:Int) (y237:Vector UInt32 8) {β:Type} (kA:(Int×Zf)->Option β) (kO:(Zf)->Option β):Option β:=
 (bif (decide (y234 < (8:Int))) then (Option.bind (inb 8 y234) fun x243=>(Option.bind (vat y237 x243) fun x244=>(Option.bind (inb 8 y234) fun x245=>(Option.bind (vat y235 x245) fun x246=>(Option.bind (inb 8 y234) fun x247=>(kA ((w64 (y234 + (1:Int))),(Vector.setIfInBounds y237 x247 (x244 + x246))))))))) else (kO y237))
def L146_8 (F:Nat) (y235:Vector UInt32 8) (y234:Int) (y237:Vector UInt32 8):=L146_8c F y235 y234 y237 (fun s=>some (Sum.inl s)) (fun z=>some (Sum.inr z))
def lc146_8 (F:Nat):Lc:=mkL [2,4,11,21] [(.pt 0 []),(.pt 1 []),(.pt 2 []),.i] [.blk 192 Qr,.blk 192 Qr,.blk 192 Qr] [4,11] [(.pt 0 []),(.pt 1 [])] [.blk 192 Qr,.blk 192 Qr] F (fun x y (s:Int×Zf)=>L146_8 F y.1 s.1 s.2) (fun x y=>(x.2.2.2.1,y.2.2.1)) (fun x y (z:Zf)=>(((),(),()),(y.2.1,z,())))
theorem lo146_8 (F:Nat):LcOk Tryz.prog (E146 F) 0 (lc146_8 F) (cAt (bodyOf Tryz.f146) [1,0,1,1,1,1,1,1,1]):=
 mkL_ok (lp:=[]) (id:=6) (b:=cAt (bodyOf Tryz.f146) (0 :: 0 :: [1,0,1,1,1,1,1,1,1])) cok (cts146 F) mixed trivial (by kernel_rfl) (by kernel_rfl) (fun x y s=>((),(),(),s.1,())) (fun x y s=>(y.1,y.2.1,s.2,())) (fun x y=>rfl) (fun x y=>rfl) (fun x y s kA kO=>L146_8c F y.1 s.1 s.2 kA kO) (fun _ _ _ _ _=>by simp only [L146_8,L146_8c,oA,oC,oS,oN,elimS_l,elimS_r,elimS_bind]) (fun _ _ _=>by kernel_rfl)
def T146c (F:Nat) (p0:Vector UInt32 8) (p1:List UInt8) {β:Type} (k:(Zf)->Option β):Option β:=
 (Option.bind (T180 F) fun z125=>(Option.bind (iter (fun s=>L146_5 F p1 s.1 s.2) F ((0:Int),(Vector.replicate 64 (0:UInt32)))) fun z142=>(Option.bind (iter (fun s=>L146_6 F s.1 s.2) F ((16:Int),z142)) fun z190=>(Option.bind (iter (fun s=>L146_7 F z125 z190 s.1 s.2) F ((0:Int),p0)) fun z233=>(Option.bind (iter (fun s=>L146_8 F p0 s.1 s.2) F ((0:Int),z233)) fun z248=>(k z248))))))
def T146 (F:Nat) (p0:Vector UInt32 8) (p1:List UInt8):=T146c F p0 p1 some
def ct146 (F:Nat):Ct:=mkC 0 [(.ar 8 .u32),(.ro .u8)] [] [(.ar 8 .u32)] [] (fun x y=>T146 F x.1 x.2.1) (fun x y (z:Zf)=>((z,()),()))
theorem ok146 (F:Nat):Sound Tryz.prog cfg 146 (ct146 F):=
 mkC_ok (E:=E146 F) (lp:=[([1,0,1,1,1],lc146_5 F),([1,0,1,1,1,1],lc146_6 F),([1,0,1,1,1,1,1,1],lc146_7 F),([1,0,1,1,1,1,1,1,1],lc146_8 F)]) (code:=bodyOf Tryz.f146) Tryz.func146 rfl Tryz.ntmps146 rfl rfl cok (cts146 F) mixed ⟨lo146_5 F,⟨lo146_6 F,⟨lo146_7 F,⟨lo146_8 F,trivial⟩⟩⟩⟩ (by kernel_rfl) (fun x y k=>T146c F x.1 x.2.1 k) (fun _ _ _=>by simp only [T146,T146c,oA,oC,oS,oN,elimS_bind]) (fun _ _=>by kernel_rfl)
def ord101:Nat->List (Tag×Nat)
 | 6=>[(.r,0),(.p,1),(.p,2),(.p,3),(.p,4),(.p,5),(.w,6),(.w,7)]
 | 11=>[(.p,0),(.p,1),(.p,2),(.r,3),(.p,4),(.p,5),(.p,6),(.p,7),(.r,8),(.p,9),(.p,10),(.p,11),(.p,12),(.r,13),(.p,14),(.p,15),(.p,16),(.p,17),(.r,18),(.p,19),(.w,20),(.w,21),(.p,22)]
 | _=>[]
def E101 (F:Nat):Ev:=⟨cfg,53,ctOf [(145,ct145 F),(146,ct146 F)],ord101,ctOf [],fun _=>none,fun _=>none⟩
theorem cts101 (F:Nat):CtsOk Tryz.prog (E101 F):=cts_of (l:=[(145,ct145 F),(146,ct146 F)]) (l':=[]) rfl rfl ⟨⟨ok145 F,_,Tryz.func145,rfl,rfl⟩,⟨⟨ok146 F,_,Tryz.func146,rfl,rfl⟩,trivial⟩⟩ trivial
def L101_3c (F:Nat) (y35:List UInt8) (y33:Int) (y34:Vector UInt32 8) {β:Type} (kA:(Int×Zf)->Option β) (kO:(Zf)->Option β):Option β:=
 (bif (decide (y33 < (y35.length:Int))) then (Option.bind (gslb y35.length y33 (w64 (y33 + (64:Int)))) fun x38=>(Option.bind (T146 F y34 ((y35.drop x38.1).take (x38.2 - x38.1))) fun z39=>(kA ((w64 (y33 + (64:Int))),z39)))) else (kO y34))
def L101_3 (F:Nat) (y35:List UInt8) (y33:Int) (y34:Vector UInt32 8):=L101_3c F y35 y33 y34 (fun s=>some (Sum.inl s)) (fun z=>some (Sum.inr z))
def lc101_3 (F:Nat):Lc:=mkL [3,4,5] [(.pt 0 []),(.rw 1),.i] [.blk 192 Qr,.row 5 .u8] [3] [(.pt 0 [])] [.blk 192 Qr] F (fun x y (s:Int×Zf)=>L101_3 F y.2.1 s.1 s.2) (fun x y=>(x.2.2.1,y.1)) (fun x y (z:Zf)=>(((),()),(z,())))
theorem lo101_3 (F:Nat):LcOk Tryz.prog (E101 F) 0 (lc101_3 F) (cAt (bodyOf Tryz.f101) [1,0,1,1,1]):=
 mkL_ok (lp:=[]) (id:=0) (b:=cAt (bodyOf Tryz.f101) (0 :: 0 :: [1,0,1,1,1])) cok (cts101 F) mixed trivial (by kernel_rfl) (by kernel_rfl) (fun x y s=>((),(),s.1,())) (fun x y s=>(s.2,y.2.1,())) (fun x y=>rfl) (fun x y=>rfl) (fun x y s kA kO=>L101_3c F y.2.1 s.1 s.2 kA kO) (fun _ _ _ _ _=>by simp only [L101_3,L101_3c,oA,oC,oS,oN,elimS_l,elimS_r,elimS_bind]) (fun _ _ _=>by kernel_rfl)
def L101_4c (F:Nat) (y42:Vector UInt32 8) (y41:Int) (y43:List UInt8) {β:Type} (kA:Zi->Option β) (kO:(Zb)->Option β):Option β:=
 (bif (decide (y41 < (8:Int))) then (Option.bind (inb 8 y41) fun x53=>(Option.bind (vat y42 x53) fun x54=>(Option.bind (inb 8 y41) fun x55=>(Option.bind (vat y42 x55) fun x56=>(Option.bind (inb 8 y41) fun x57=>(Option.bind (vat y42 x57) fun x58=>(Option.bind (inb 8 y41) fun x59=>(Option.bind (vat y42 x59) fun x60=>(Option.bind (gapp y43 ([((shr32 x54 ((UInt64.ofNat 24).toNat)).toUInt8),((shr32 x56 ((UInt64.ofNat 16).toNat)).toUInt8),((shr32 x58 ((UInt64.ofNat 8).toNat)).toUInt8),(x60.toUInt8)]:List UInt8)) fun x61=>(kA ((w64 (y41 + (1:Int))),x61))))))))))) else (kO y43))
def L101_4 (F:Nat) (y42:Vector UInt32 8) (y41:Int) (y43:List UInt8):=L101_4c F y42 y41 y43 (fun s=>some (Sum.inl s)) (fun z=>some (Sum.inr z))
def lc101_4 (F:Nat):Lc:=mkL [3,6,7] [(.pt 0 []),(.rw 1),.i] [.blk 192 Qr,.row 5 .u8] [6] [(.rw 0)] [.row 5 .u8] F (fun x y (s:Int×Zb)=>L101_4 F y.1 s.1 s.2) (fun x y=>(x.2.2.1,y.2.1)) (fun x y (z:Zb)=>(((),()),(z,())))
theorem lo101_4 (F:Nat):LcOk Tryz.prog (E101 F) 0 (lc101_4 F) (cAt (bodyOf Tryz.f101) [1,0,1,1,1,1,1]):=
 mkL_ok (lp:=[]) (id:=2) (b:=cAt (bodyOf Tryz.f101) (0 :: 0 :: [1,0,1,1,1,1,1])) cok (cts101 F) mixed trivial (by kernel_rfl) (by kernel_rfl) (fun x y s=>((),(),s.1,())) (fun x y s=>(y.1,s.2,())) (fun x y=>rfl) (fun x y=>rfl) (fun x y s kA kO=>L101_4c F y.1 s.1 s.2 kA kO) (fun _ _ _ _ _=>by simp only [L101_4,L101_4c,oA,oC,oS,oN,elimS_l,elimS_r,elimS_bind]) (fun _ _ _=>by kernel_rfl)
def T101c (F:Nat) (p0:List UInt8) {β:Type} (k:(Zb)->Option β):Option β:=
 (Option.bind (T145 F p0) fun z32=>(Option.bind (iter (fun s=>L101_3 F z32 s.1 s.2) F ((0:Int),(#v[(UInt32.ofNat 1779033703),(UInt32.ofNat 3144134277),(UInt32.ofNat 1013904242),(UInt32.ofNat 2773480762),(UInt32.ofNat 1359893119),(UInt32.ofNat 2600822924),(UInt32.ofNat 528734635),(UInt32.ofNat 1541459225)]:Vector UInt32 8))) fun z40=>(Option.bind (iter (fun s=>L101_4 F z40 s.1 s.2) F ((0:Int),([]:List UInt8))) fun z62=>(k z62))))
def T101 (F:Nat) (p0:List UInt8):=T101c F p0 some
def ct101 (F:Nat):Ct:=mkC 0 [(.ro .u8)] [] [.str] [] (fun x y=>T101 F x.1) (fun x y (z:Zb)=>((z,()),()))
theorem ok101 (F:Nat):Sound Tryz.prog cfg 101 (ct101 F):=
 mkC_ok (E:=E101 F) (lp:=[([1,0,1,1,1],lc101_3 F),([1,0,1,1,1,1,1],lc101_4 F)]) (code:=bodyOf Tryz.f101) Tryz.func101 rfl Tryz.ntmps101 rfl rfl cok (cts101 F) mixed ⟨lo101_3 F,⟨lo101_4 F,trivial⟩⟩ (by kernel_rfl) (fun x y k=>T101c F x.1 k) (fun _ _ _=>by simp only [T101,T101c,oA,oC,oS,oN,elimS_bind]) (fun _ _=>by kernel_rfl)
def E102 (F:Nat):Ev:=⟨cfg,27,ctOf [],fun _=>[],ctOf [],fun _=>none,fun _=>none⟩
theorem cts102 (F:Nat):CtsOk Tryz.prog (E102 F):=cts_of (l:=[]) (l':=[]) rfl rfl trivial trivial
def L102_2c (F:Nat) (y12:List UInt8) (y13:UInt8) (y14:Int) (y15:List UInt8) {β:Type} (kA:Zi->Option β) (kO:(Zb)->Option β):Option β:=
 (bif (decide (y14 < (64:Int))) then (bif (decide (y14 < (y12.length:Int))) then (Option.bind (ix y12 y14) fun x19=>(Option.bind (gapp y15 ([(x19 ^^^ y13)]:List UInt8)) fun x20=>(kA ((w64 (y14 + (1:Int))),x20)))) else (Option.bind (gapp y15 ([((UInt8.ofNat 0) ^^^ y13)]:List UInt8)) fun x21=>(kA ((w64 (y14 + (1:Int))),x21)))) else (kO y15))
def L102_2 (F:Nat) (y12:List UInt8) (y13:UInt8) (y14:Int) (y15:List UInt8):=L102_2c F y12 y13 y14 y15 (fun s=>some (Sum.inl s)) (fun z=>some (Sum.inr z))
def lc102_2 (F:Nat):Lc:=mkL [0,1,5,6] [.str,.u8,(.rw 0),.i] [.row 5 .u8] [5] [(.rw 0)] [.row 5 .u8] F (fun x y (s:Int×Zb)=>L102_2 F x.1 x.2.1 s.1 s.2) (fun x y=>(x.2.2.2.1,y.1)) (fun x y (z:Zb)=>(((),()),(z,())))
theorem lo102_2 (F:Nat):LcOk Tryz.prog (E102 F) 0 (lc102_2 F) (cAt (bodyOf Tryz.f102) [1,0,1,1]):=
 mkL_ok (lp:=[]) (id:=0) (b:=cAt (bodyOf Tryz.f102) (0 :: 0 :: [1,0,1,1])) cok (cts102 F) mixed trivial (by kernel_rfl) (by kernel_rfl) (fun x y s=>(x.1,x.2.1,(),s.1,())) (fun x y s=>(s.2,())) (fun x y=>rfl) (fun x y=>rfl) (fun x y s kA kO=>L102_2c F x.1 x.2.1 s.1 s.2 kA kO) (fun _ _ _ _ _=>by simp only [L102_2,L102_2c,oA,oC,oS,oN,elimS_l,elimS_r,elimS_bind]) (fun _ _ _=>by kernel_rfl)
def T102c (F:Nat) (p0:List UInt8) (p1:UInt8) {β:Type} (k:(Zb)->Option β):Option β:=
 (Option.bind (iter (fun s=>L102_2 F p0 p1 s.1 s.2) F ((0:Int),([]:List UInt8))) fun z22=>(k z22))
def T102 (F:Nat) (p0:List UInt8) (p1:UInt8):=T102c F p0 p1 some
def ct102 (F:Nat):Ct:=mkC 0 [.str,.u8] [] [(.rw 0)] [.row 5 .u8] (fun x y=>T102 F x.1 x.2.1) (fun x y (z:Zb)=>(((),()),(z,())))
theorem ok102 (F:Nat):Sound Tryz.prog cfg 102 (ct102 F):=
 mkC_ok (E:=E102 F) (lp:=[([1,0,1,1],lc102_2 F)]) (code:=bodyOf Tryz.f102) Tryz.func102 rfl Tryz.ntmps102 rfl rfl cok (cts102 F) mixed ⟨lo102_2 F,trivial⟩ (by kernel_rfl) (fun x y k=>T102c F x.1 x.2.1 k) (fun _ _ _=>by simp only [T102,T102c,oA,oC,oS,oN,elimS_bind]) (fun _ _=>by kernel_rfl)
def E35 (F:Nat):Ev:=⟨cfg,23,ctOf [(101,ct101 F),(102,ct102 F)],fun _=>[],ctOf [],fun _=>none,fun _=>none⟩
theorem cts35 (F:Nat):CtsOk Tryz.prog (E35 F):=cts_of (l:=[(101,ct101 F),(102,ct102 F)]) (l':=[]) rfl rfl ⟨⟨ok101 F,_,Tryz.func101,rfl,rfl⟩,⟨⟨ok102 F,_,Tryz.func102,rfl,rfl⟩,trivial⟩⟩ trivial
def T35c (F:Nat) (p0:List UInt8) (p1:List UInt8) {β:Type} (k:(Zb)->Option β):Option β:=
 (bif (decide ((64:Int) < (p0.length:Int))) then (Option.bind (gstr p0) fun x17=>(Option.bind (T101 F x17) fun z18=>(Option.bind (T102 F z18 (UInt8.ofNat 54)) fun z19=>(Option.bind (gapp z19 p1) fun x20=>(Option.bind (T101 F x20) fun z21=>(Option.bind (T102 F z18 (UInt8.ofNat 92)) fun z22=>(Option.bind (gstr z21) fun x23=>(Option.bind (gapp z22 x23) fun x24=>(Option.bind (T101 F x24) fun z25=>(k z25)))))))))) else (Option.bind (T102 F p0 (UInt8.ofNat 54)) fun z26=>(Option.bind (gapp z26 p1) fun x27=>(Option.bind (T101 F x27) fun z28=>(Option.bind (T102 F p0 (UInt8.ofNat 92)) fun z29=>(Option.bind (gstr z28) fun x30=>(Option.bind (gapp z29 x30) fun x31=>(Option.bind (T101 F x31) fun z32=>(k z32)))))))))
def T35 (F:Nat) (p0:List UInt8) (p1:List UInt8):=T35c F p0 p1 some
def ct35 (F:Nat):Ct:=mkC 0 [.str,(.ro .u8)] [] [.str] [] (fun x y=>T35 F x.1 x.2.1) (fun x y (z:Zb)=>((z,()),()))
theorem ok35 (F:Nat):Sound Tryz.prog cfg 35 (ct35 F):=
 mkC_ok (E:=E35 F) (lp:=[]) (code:=bodyOf Tryz.f35) Tryz.func35 rfl Tryz.ntmps35 rfl rfl cok (cts35 F) mixed trivial (by kernel_rfl) (fun x y k=>T35c F x.1 x.2.1 k) (fun _ _ _=>by simp only [T35,T35c,oA,oC,oS,oN,elimS_bind]) (fun _ _=>by kernel_rfl)
def E15 (F:Nat):Ev:=⟨cfg,45,ctOf [(33,ct33 F),(20,ct20 F),(34,ct34 F),(35,ct35 F),(36,ct36 F),(37,ct37 F)],fun _=>[],ctOf [],fun _=>none,fun _=>none⟩
theorem cts15 (F:Nat):CtsOk Tryz.prog (E15 F):=cts_of (l:=[(33,ct33 F),(20,ct20 F),(34,ct34 F),(35,ct35 F),(36,ct36 F),(37,ct37 F)]) (l':=[]) rfl rfl ⟨⟨ok33 F,_,Tryz.func33,rfl,rfl⟩,⟨⟨ok20 F,_,Tryz.func20,rfl,rfl⟩,⟨⟨ok34 F,_,Tryz.func34,rfl,rfl⟩,⟨⟨ok35 F,_,Tryz.func35,rfl,rfl⟩,⟨⟨ok36 F,_,Tryz.func36,rfl,rfl⟩,⟨⟨ok37 F,_,Tryz.func37,rfl,rfl⟩,trivial⟩⟩⟩⟩⟩⟩ trivial
def T15c (F:Nat) (p0:List UInt8) (p1:List UInt8) (p2:List UInt8) (p3:List UInt8) (p4:List UInt8) (p5:Int) (p6:Int) (p7:List Int) (p8:List Zc) (p9:List Zd) (p10:List Za) {β:Type} (k:Zi->Option β):Option β:=
 (Option.bind (T33 F p0 p1 p2 p3 p4) fun z10=>(bif (!z10) then (k ((1:Int),([]:List UInt8))) else (Option.bind (T20 F p5 p6 p7 p8 p9 p10) fun z11=>(bif (z11.1 != (0:Int)) then (k (z11.1,([]:List UInt8))) else (Option.bind (T34 F z11.2) fun z12=>(Option.bind (T35 F p3 z12) fun z13=>(Option.bind (gsl z13 (0:Int) (12:Int)) fun x14=>(Option.bind (T36 F p3 x14 (0:Int) (z12.length:Int)) fun z15=>(Option.bind (gstr x14) fun x16=>(Option.bind (T37 F z12 z15.2) fun z17=>(Option.bind (gapp x16 z17) fun x18=>(k ((0:Int),x18)))))))))))))
def T15 (F:Nat) (p0:List UInt8) (p1:List UInt8) (p2:List UInt8) (p3:List UInt8) (p4:List UInt8) (p5:Int) (p6:Int) (p7:List Int) (p8:List Zc) (p9:List Zd) (p10:List Za):=T15c F p0 p1 p2 p3 p4 p5 p6 p7 p8 p9 p10 some
def ct15 (F:Nat):Ct:=mkC 0 [(.pr .str (.pr .str (.pr .str (.pr .str (.pr .str .un))))),(.pr .i (.pr .i (.pr (.ro .i) (.pr (.ro Qb) (.pr (.ro Qc) (.pr (.ro Qi) .un))))))] [] [(.rw 0),.i] [.row 5 .u8] (fun x y=>T15 F x.1.1 x.1.2.1 x.1.2.2.1 x.1.2.2.2.1 x.1.2.2.2.2.1 x.2.1.1 x.2.1.2.1 x.2.1.2.2.1 x.2.1.2.2.2.1 x.2.1.2.2.2.2.1 x.2.1.2.2.2.2.2.1) (fun x y (z:Int×Zb)=>(((),z.1,()),(z.2,())))
theorem ok15 (F:Nat):Sound Tryz.prog cfg 15 (ct15 F):=
 mkC_ok (E:=E15 F) (lp:=[]) (code:=bodyOf Tryz.f15) Tryz.func15 rfl Tryz.ntmps15 rfl rfl cok (cts15 F) mixed trivial (by kernel_rfl) (fun x y k=>T15c F x.1.1 x.1.2.1 x.1.2.2.1 x.1.2.2.2.1 x.1.2.2.2.2.1 x.2.1.1 x.2.1.2.1 x.2.1.2.2.1 x.2.1.2.2.2.1 x.2.1.2.2.2.2.1 x.2.1.2.2.2.2.2.1 k) (fun _ _ _=>by simp only [T15,T15c,oA,oC,oS,oN,elimS_bind]) (fun _ _=>by kernel_rfl)
def ord25:Nat->List (Tag×Nat)
 | 5=>[(.p,0),(.r,1),(.p,2),(.p,3),(.r,4),(.p,5),(.p,6),(.p,7),(.w,8),(.p,9),(.p,10),(.p,11),(.p,12),(.p,13)]
 | _=>[]
def E25 (F:Nat):Ev:=⟨cfg,77,ctOf [(33,ct33 F),(36,ct36 F),(37,ct37 F),(85,ct85x1 F),(23,ct23 F),(15,ct15 F)],ord25,ctOf [],fun _=>none,fun _=>none⟩
theorem cts25 (F:Nat):CtsOk Tryz.prog (E25 F):=cts_of (l:=[(33,ct33 F),(36,ct36 F),(37,ct37 F),(85,ct85x1 F),(23,ct23 F),(15,ct15 F)]) (l':=[]) rfl rfl ⟨⟨ok33 F,_,Tryz.func33,rfl,rfl⟩,⟨⟨ok36 F,_,Tryz.func36,rfl,rfl⟩,⟨⟨ok37 F,_,Tryz.func37,rfl,rfl⟩,⟨⟨ok85x1 F,_,Tryz.func85,rfl,rfl⟩,⟨⟨ok23 F,_,Tryz.func23,rfl,rfl⟩,⟨⟨ok15 F,_,Tryz.func15,rfl,rfl⟩,trivial⟩⟩⟩⟩⟩⟩ trivial
def T25c (F:Nat) (p0:List UInt8) (p1:List UInt8) (p2:List UInt8) (p3:List UInt8) (p4:List UInt8) (p5:List UInt8) {β:Type} (k:Zk->Option β):Option β:=
 (Option.bind (T33 F p0 p1 p2 p3 p4) fun z10=>(bif (!z10) then (k ((0:Int),(0:Int),(1:Int),([]:List Int),([]:List Zc),([]:List Zd),([]:List Za))) else (bif (decide ((p5.length:Int) < (12:Int))) then (k ((0:Int),(0:Int),(9:Int),([]:List Int),([]:List Zc),([]:List Zd),([]:List Za))) else (bif (decide ((1048588:Int) < (p5.length:Int))) then (k ((0:Int),(0:Int),(9:Int),([]:List Int),([]:List Zc),([]:List Zd),([]:List Za))) else (Option.bind (gsl p5 (0:Int) (12:Int)) fun x11=>(Option.bind (T36 F p3 x11 (0:Int) (w64 ((p5.length:Int) - (12:Int)))) fun z12=>(Option.bind (gsl p5 (12:Int) (p5.length:Int)) fun x13=>(Option.bind (T37 F x13 z12.2) fun z14=>(Option.bind (T85x1 F (4:Int) (1048576:Int) (0:Int) (0:Int) (0:Int) z14) fun z15=>(Option.bind (gstr z15.2.2.2.1) fun x16=>(Option.bind (T23 F x16) fun z17=>(bif (z15.2.2.2.2.2.2 != (0:Int)) then (k ((0:Int),(0:Int),(9:Int),([]:List Int),([]:List Zc),([]:List Zd),([]:List Za))) else (bif (z17.2.2.1 != (0:Int)) then (k ((0:Int),(0:Int),(9:Int),([]:List Int),([]:List Zc),([]:List Zd),([]:List Za))) else (Option.bind (T15 F p0 p1 p2 p3 p4 z17.1 z17.2.1 z17.2.2.2.1 z17.2.2.2.2.1 z17.2.2.2.2.2.1 z17.2.2.2.2.2.2) fun z18=>(bif (z18.2 != p5) then (k ((0:Int),(0:Int),(9:Int),([]:List Int),([]:List Zc),([]:List Zd),([]:List Za))) else (k (z17.1,z17.2.1,(0:Int),z17.2.2.2.1,z17.2.2.2.2.1,z17.2.2.2.2.2.1,z17.2.2.2.2.2.2)))))))))))))))))
def T25 (F:Nat) (p0:List UInt8) (p1:List UInt8) (p2:List UInt8) (p3:List UInt8) (p4:List UInt8) (p5:List UInt8):=T25c F p0 p1 p2 p3 p4 p5 some
def ct25 (F:Nat):Ct:=mkC 0 [(.pr .str (.pr .str (.pr .str (.pr .str (.pr .str .un))))),(.ro .u8)] [] [(.pr .i (.pr .i (.pr (.rw 0) (.pr (.rw 1) (.pr (.rw 2) (.pr (.rw 3) .un)))))),.i] [.row 3 .i,.row 90 Qb,.row 61 Qc,.row 88 Qi] (fun x y=>T25 F x.1.1 x.1.2.1 x.1.2.2.1 x.1.2.2.2.1 x.1.2.2.2.2.1 x.2.1) (fun x y (z:Int×Int×Int×Zn×(List Zc)×(List Zd)×(List Za))=>(((z.1,z.2.1,(),(),(),(),()),z.2.2.1,()),(z.2.2.2.1,z.2.2.2.2.1,z.2.2.2.2.2.1,z.2.2.2.2.2.2,())))
theorem ok25 (F:Nat):Sound Tryz.prog cfg 25 (ct25 F):=
 mkC_ok (E:=E25 F) (lp:=[]) (code:=bodyOf Tryz.f25) Tryz.func25 rfl Tryz.ntmps25 rfl rfl cok (cts25 F) mixed trivial (by kernel_rfl) (fun x y k=>T25c F x.1.1 x.1.2.1 x.1.2.2.1 x.1.2.2.2.1 x.1.2.2.2.2.1 x.2.1 k) (fun _ _ _=>by simp only [T25,T25c,oA,oC,oS,oN,elimS_bind]) (fun _ _=>by kernel_rfl)
def E22 (F:Nat):Ev:=⟨cfg,32,ctOf [(20,ct20 F)],fun _=>[],ctOf [],fun _=>none,fun _=>none⟩
theorem cts22 (F:Nat):CtsOk Tryz.prog (E22 F):=cts_of (l:=[(20,ct20 F)]) (l':=[]) rfl rfl ⟨⟨ok20 F,_,Tryz.func20,rfl,rfl⟩,trivial⟩ trivial
def T22c (F:Nat) (p0:Int) (p1:Int) (p2:List Int) (p3:List Zc) (p4:List Zd) (p5:List Za) (p6:Int) (p7:Int) (p8:List Int) (p9:List Zc) (p10:List Zd) (p11:List Za) {β:Type} (k:Bool->Option β):Option β:=
 (Option.bind (T20 F p0 p1 p2 p3 p4 p5) fun z3=>(Option.bind (T20 F p6 p7 p8 p9 p10 p11) fun z4=>(bif (z3.1 == (0:Int)) then (bif (z4.1 == (0:Int)) then (k (z3.2 == z4.2)) else (k false)) else (k false))))
def T22 (F:Nat) (p0:Int) (p1:Int) (p2:List Int) (p3:List Zc) (p4:List Zd) (p5:List Za) (p6:Int) (p7:Int) (p8:List Int) (p9:List Zc) (p10:List Zd) (p11:List Za):=T22c F p0 p1 p2 p3 p4 p5 p6 p7 p8 p9 p10 p11 some
def ct22 (F:Nat):Ct:=mkC 0 [(.pr .i (.pr .i (.pr (.ro .i) (.pr (.ro Qb) (.pr (.ro Qc) (.pr (.ro Qi) .un)))))),(.pr .i (.pr .i (.pr (.ro .i) (.pr (.ro Qb) (.pr (.ro Qc) (.pr (.ro Qi) .un))))))] [] [.bo] [] (fun x y=>T22 F x.1.1 x.1.2.1 x.1.2.2.1 x.1.2.2.2.1 x.1.2.2.2.2.1 x.1.2.2.2.2.2.1 x.2.1.1 x.2.1.2.1 x.2.1.2.2.1 x.2.1.2.2.2.1 x.2.1.2.2.2.2.1 x.2.1.2.2.2.2.2.1) (fun x y (z:Bool)=>((z,()),()))
theorem ok22 (F:Nat):Sound Tryz.prog cfg 22 (ct22 F):=
 mkC_ok (E:=E22 F) (lp:=[]) (code:=bodyOf Tryz.f22) Tryz.func22 rfl Tryz.ntmps22 rfl rfl cok (cts22 F) mixed trivial (by kernel_rfl) (fun x y k=>T22c F x.1.1 x.1.2.1 x.1.2.2.1 x.1.2.2.2.1 x.1.2.2.2.2.1 x.1.2.2.2.2.2.1 x.2.1.1 x.2.1.2.1 x.2.1.2.2.1 x.2.1.2.2.2.1 x.2.1.2.2.2.2.1 x.2.1.2.2.2.2.2.1 k) (fun _ _ _=>by simp only [T22,T22c,oA,oC,oS,oN,elimS_bind]) (fun _ _=>by kernel_rfl)
def E7 (F:Nat):Ev:=⟨cfg,65,ctOf [(10,ct10 F),(13,ct13 F),(12,ct12 F),(24,ct24 F),(25,ct25 F),(22,ct22 F)],fun _=>[],ctOf [],fun _=>none,fun _=>none⟩
theorem cts7 (F:Nat):CtsOk Tryz.prog (E7 F):=cts_of (l:=[(10,ct10 F),(13,ct13 F),(12,ct12 F),(24,ct24 F),(25,ct25 F),(22,ct22 F)]) (l':=[]) rfl rfl ⟨⟨ok10 F,_,Tryz.func10,rfl,rfl⟩,⟨⟨ok13 F,_,Tryz.func13,rfl,rfl⟩,⟨⟨ok12 F,_,Tryz.func12,rfl,rfl⟩,⟨⟨ok24 F,_,Tryz.func24,rfl,rfl⟩,⟨⟨ok25 F,_,Tryz.func25,rfl,rfl⟩,⟨⟨ok22 F,_,Tryz.func22,rfl,rfl⟩,trivial⟩⟩⟩⟩⟩⟩ trivial
def T7c (F:Nat) (p0:UInt8) (p1:List UInt8) {β:Type} (k:Bool->Option β):Option β:=
 (Option.bind (T10 F) fun z10=>(bif (!z10) then (Option.bind (T10 F) fun z11=>(k z11)) else (bif (decide ((1100:Int) < (p1.length:Int))) then (Option.bind (T10 F) fun z12=>(k z12)) else (Option.bind (T13 F p0) fun z13=>(Option.bind (T12 F z13) fun z14=>(Option.bind (T24 F z14.1 z14.2.1 z14.2.2.1 z14.2.2.2.1 z14.2.2.2.2.1 p1) fun z15=>(Option.bind (T25 F z14.1 z14.2.1 z14.2.2.1 z14.2.2.2.1 z14.2.2.2.2.1 p1) fun z16=>(bif (z14.2.2.2.2.2 != (0:Int)) then (k false) else (bif (z15.2.2.1 != z16.2.2.1) then (k false) else (bif (z15.2.2.1 != (0:Int)) then (bif ((w64 ((z15.2.2.2.2.1.length:Int) + (z15.2.2.2.2.2.1.length:Int))) == (0:Int)) then (k true) else (bif (z15.2.2.1 == (0:Int)) then (Option.bind (T22 F z15.1 z15.2.1 z15.2.2.2.1 z15.2.2.2.2.1 z15.2.2.2.2.2.1 z15.2.2.2.2.2.2 z16.1 z16.2.1 z16.2.2.2.1 z16.2.2.2.2.1 z16.2.2.2.2.2.1 z16.2.2.2.2.2.2) fun z17=>(k z17)) else (k false))) else (bif (z15.2.2.1 == (0:Int)) then (Option.bind (T22 F z15.1 z15.2.1 z15.2.2.2.1 z15.2.2.2.2.1 z15.2.2.2.2.2.1 z15.2.2.2.2.2.2 z16.1 z16.2.1 z16.2.2.2.1 z16.2.2.2.2.1 z16.2.2.2.2.2.1 z16.2.2.2.2.2.2) fun z18=>(k z18)) else (k false))))))))))))
def T7 (F:Nat) (p0:UInt8) (p1:List UInt8):=T7c F p0 p1 some
abbrev cA7:List Sh:=[.u8,(.ro .u8)]
def ct7 (F:Nat):Ct:=mkC 0 cA7 [] [.bo] [] (fun x y=>T7 F x.1 x.2.1) (fun x y (z:Bool)=>((z,()),()))
theorem ok7 (F:Nat):Sound Tryz.prog cfg 7 (ct7 F):=
 mkC_ok (E:=E7 F) (lp:=[]) (code:=bodyOf Tryz.f7) Tryz.func7 rfl Tryz.ntmps7 rfl rfl cok (cts7 F) mixed trivial (by kernel_rfl) (fun x y k=>T7c F x.1 x.2.1 k) (fun _ _ _=>by simp only [T7,T7c,oA,oC,oS,oN,elimS_bind]) (fun _ _=>by kernel_rfl)
theorem shr7 (x:UInt64):(shr64 x 7).toNat=x.toNat / 128:=by
 show (x.toBitVec >>> 7).toNat=_
 rw [BitVec.toNat_ushiftRight,Nat.shiftRight_eq_div_pow];rfl
theorem it_again {σ ρ:Type} {f:σ->Option (σ ⊕ ρ)} {n:Nat} {s s':σ} (h:f s=some (.inl s')):iter f (n + 1) s=iter f n s':=by simp [iter,h]
theorem it_out {σ ρ:Type} {f:σ->Option (σ ⊕ ρ)} {n:Nat} {s:σ} {r:ρ} (h:f s=some (.inr r)):iter f (n + 1) s=some r:=by simp [iter,h]
theorem div128 (x:UInt64):(x / UInt64.ofNat 128).toNat=x.toNat / 128:=by
 rw [UInt64.toNat_div];rfl
def encN:Nat->Nat->List UInt8
 | 0,n=>[UInt8.ofNat n]
 | m + 1,n=>if n < 128 then [UInt8.ofNat n] else UInt8.ofNat (n % 128 + 128) :: encN m (n / 128)
theorem encN_len:∀ (m n:Nat),(encN m n).length≤m + 1∧1≤(encN m n).length
 | 0,n=>by simp [encN]
 | m + 1,n=>by
  have:=encN_len m (n / 128)
  simp only [encN];split<;>simp<;>omega
theorem or128:∀ b:_root_.Fin 256,(UInt8.ofNat b.val ||| UInt8.ofNat 128)=UInt8.ofNat (b.val % 128 + 128):=by decide +kernel
theorem u8_of (x:UInt64):x.toUInt8=UInt8.ofNat x.toNat:=by
 apply UInt8.toNat_inj.1
 rw [UInt64.toNat_toUInt8,UInt8.toNat_ofNat']
theorem byte60 (x:UInt64):(x.toUInt8 ||| UInt8.ofNat 128)=UInt8.ofNat (x.toNat % 128 + 128):=by
 have h:=or128 ⟨x.toNat % 256,Nat.mod_lt _ (by omega)⟩
 simp only at h
 have e:UInt8.ofNat (x.toNat % 256)=x.toUInt8:=by
  apply UInt8.toNat_inj.1
  rw [UInt64.toNat_toUInt8,UInt8.toNat_ofNat'];omega
 rw [e] at h
 rw [h]
 congr 1;omega
theorem byte45 (x:UInt64):((x % (UInt64.ofNat 128)).toUInt8) + (UInt8.ofNat 128)=UInt8.ofNat (x.toNat % 128 + 128):=by
 apply UInt8.toNat_inj.1
 rw [UInt8.toNat_add,UInt64.toNat_toUInt8,UInt64.toNat_mod,UInt8.toNat_ofNat',UInt8.toNat_ofNat']
 have:(UInt64.ofNat 128).toNat=128:=rfl
 rw [this];omega
theorem l60 (F:Nat):∀ (m fuel:Nat) (x:UInt64) (l:List UInt8),x.toNat < 128 ^ (m + 1)->m < fuel->l.length + m < 1000000->∃ y pre,iter (fun s:UInt64×List UInt8=>L117_2 F s.1 s.2) fuel (x,l)=some (y,l ++ pre)∧pre ++ [y.toUInt8]=encN m x.toNat∧pre.length≤m
 | m,0,x,l,hx,hf,hl=>by omega
 | 0,fuel + 1,x,l,hx,hf,hl=>by
  have h:¬ UInt64.ofNat 128≤x:=by
   show ¬ (128≤x.toNat);omega
  have step:L117_2 F x l=some (.inr (x,l)):=by simp only [L117_2,L117_2c,h,decide_false,cond_false]
  refine ⟨x,[],?_,by rw [List.nil_append,u8_of];simp only [encN],by simp⟩
  rw [it_out (f:=fun s:UInt64×List UInt8=>L117_2 F s.1 s.2) (s:=(x,l)) step];simp
 | m + 1,fuel + 1,x,l,hx,hf,hl=>by
  by_cases h:128≤x.toNat
  ·have h':UInt64.ofNat 128≤x:=h
   have hd:=shr7 x
   have hlt:(shr64 x 7).toNat < 128 ^ (m + 1):=by rw [hd];exact Nat.div_lt_of_lt_mul (by rw [Nat.pow_succ] at hx;omega)
   obtain ⟨y,pre,h1,h2,h3⟩:=l60 F m fuel (shr64 x 7) (l ++ [UInt8.ofNat (x.toNat % 128 + 128)]) hlt (by omega) (by simp;omega)
   refine ⟨y,UInt8.ofNat (x.toNat % 128 + 128) :: pre,?_,?_,by simp;omega⟩
   ·have e7:(UInt64.ofNat 7).toNat=7:=rfl
    have hg:gapp l [x.toUInt8 ||| UInt8.ofNat 128]=some (l ++ [UInt8.ofNat (x.toNat % 128 + 128)]):=by
     rw [byte60];unfold gapp;rw [if_pos (by simp;omega)]
    have step:L117_2 F x l=some (.inl (shr64 x 7,l ++ [UInt8.ofNat (x.toNat % 128 + 128)])):=by
     simp only [L117_2,L117_2c,h',decide_true,cond_true,hg,Option.bind_some,e7]
    rw [it_again (f:=fun s:UInt64×List UInt8=>L117_2 F s.1 s.2) (s:=(x,l)) step,h1]
    simp
   ·rw [List.cons_append,h2,hd]
    simp [encN,show ¬ x.toNat < 128 by omega]
  ·have h':¬ UInt64.ofNat 128≤x:=h
   have step:L117_2 F x l=some (.inr (x,l)):=by simp only [L117_2,L117_2c,h',decide_false,cond_false]
   refine ⟨x,[],?_,by rw [List.nil_append,u8_of];simp only [encN,show x.toNat < 128 by omega,if_true],by simp⟩
   rw [it_out (f:=fun s:UInt64×List UInt8=>L117_2 F s.1 s.2) (s:=(x,l)) step];simp
theorem l45 (F:Nat):∀ (m fuel:Nat) (x:UInt64) (l:List UInt8),x.toNat < 128 ^ (m + 1)->m < fuel->l.length + m < 1000000->∃ y pre,iter (fun s:UInt64×List UInt8=>L100_2 F s.1 s.2) fuel (x,l)=some (y,l ++ pre)∧pre ++ [y.toUInt8]=encN m x.toNat∧pre.length≤m
 | m,0,x,l,hx,hf,hl=>by omega
 | 0,fuel + 1,x,l,hx,hf,hl=>by
  have h:¬ UInt64.ofNat 127 < x:=by
   show ¬ (127 < x.toNat);omega
  have step:L100_2 F x l=some (.inr (x,l)):=by simp only [L100_2,L100_2c,h,decide_false,cond_false]
  refine ⟨x,[],?_,by rw [List.nil_append,u8_of];simp only [encN],by simp⟩
  rw [it_out (f:=fun s:UInt64×List UInt8=>L100_2 F s.1 s.2) (s:=(x,l)) step];simp
 | m + 1,fuel + 1,x,l,hx,hf,hl=>by
  by_cases h:127 < x.toNat
  ·have h':UInt64.ofNat 127 < x:=h
   have hd:=div128 x
   have hlt:(x / UInt64.ofNat 128).toNat < 128 ^ (m + 1):=by rw [hd];exact Nat.div_lt_of_lt_mul (by rw [Nat.pow_succ] at hx;omega)
   obtain ⟨y,pre,h1,h2,h3⟩:=l45 F m fuel (x / UInt64.ofNat 128) (l ++ [UInt8.ofNat (x.toNat % 128 + 128)]) hlt (by omega) (by simp;omega)
   refine ⟨y,UInt8.ofNat (x.toNat % 128 + 128) :: pre,?_,?_,by simp;omega⟩
   ·have hg:gapp l [((x % (UInt64.ofNat 128)).toUInt8) + (UInt8.ofNat 128)]=some (l ++ [UInt8.ofNat (x.toNat % 128 + 128)]):=by
     rw [byte45];unfold gapp;rw [if_pos (by simp;omega)]
    have step:L100_2 F x l=some (.inl (x / UInt64.ofNat 128,l ++ [UInt8.ofNat (x.toNat % 128 + 128)])):=by
     simp only [L100_2,L100_2c,h',decide_true,cond_true,hg,Option.bind_some]
    rw [it_again (f:=fun s:UInt64×List UInt8=>L100_2 F s.1 s.2) (s:=(x,l)) step,h1]
    simp
   ·rw [List.cons_append,h2,hd]
    simp [encN,show ¬ x.toNat < 128 by omega]
  ·have h':¬ UInt64.ofNat 127 < x:=h
   have step:L100_2 F x l=some (.inr (x,l)):=by simp only [L100_2,L100_2c,h',decide_false,cond_false]
   refine ⟨x,[],?_,by rw [List.nil_append,u8_of];simp only [encN,show x.toNat < 128 by omega,if_true],by simp⟩
   rw [it_out (f:=fun s:UInt64×List UInt8=>L100_2 F s.1 s.2) (s:=(x,l)) step];simp
def enc (n:Nat):List UInt8:=encN 9 n
theorem u64_lt (x:UInt64):x.toNat < 128 ^ (9 + 1):=Nat.lt_of_lt_of_le x.toNat_lt (by decide)
theorem t44 {F:Nat} (hF:50 < F) (x:UInt64):T95 F [] x=some (enc x.toNat):=by
 obtain ⟨y,pre,h1,h2,h3⟩:=l60 F 9 F x [] (u64_lt x) (by omega) (by simp)
 have w:w64 ((([]:List UInt8).length:Int) + 10)=10:=by decide
 have g1:gmake (0:UInt8) (0:Int) 10=some []:=by decide
 have g2:gapp ([]:List UInt8) []=some []:=by decide
 simp only [T95,T95c,w,g1,g2,Option.bind_some,T117,T117c]
 rw [h1]
 simp only [Option.bind_some,List.nil_append]
 have:gapp pre [y.toUInt8]=some (pre ++ [y.toUInt8]):=by unfold gapp;rw [if_pos (by simp;omega)]
 rw [this,h2];rfl
theorem t45' {F:Nat} (hF:50 < F) (x:UInt64):T100 F x=some (enc x.toNat):=by
 obtain ⟨y,pre,h1,h2,h3⟩:=l45 F 9 F x [] (u64_lt x) (by omega) (by simp)
 simp only [T100,T100c]
 rw [h1]
 simp only [Option.bind_some,List.nil_append]
 have:gapp pre [y.toUInt8]=some (pre ++ [y.toUInt8]):=by unfold gapp;rw [if_pos (by simp;omega)]
 rw [this,h2];rfl
theorem encN_one {m n:Nat} (h:n < 128):encN m n=[UInt8.ofNat n]:=by
 cases m<;>simp [encN,h]
def decS:Nat->List UInt8->Option (Nat×Nat)
 | _,[]=>none
 | i,b :: r=>if 10≤i then none else if 128≤b.toNat then (match decS (i + 1) r with
   | some (v,n)=>some (b.toNat % 128 + 128 * v,n + 1)
   | none=>none) else if 0 < i∧b.toNat=0 then none else if i=9∧1 < b.toNat then none else some (b.toNat,1)
theorem decS_bd:∀ (l:List UInt8) (i v n:Nat),i≤10->decS i l=some (v,n)->v * 128 ^ i < 2 ^ 64∧1≤n∧n≤l.length∧i + n≤10∧(0 < i->0 < v)
 | [],i,v,n,hi,h=>by simp [decS] at h
 | b :: r,i,v,n,hi,h=>by
  simp only [decS] at h
  split at h
  ·cases h
  split at h
  ·split at h<;>first | (cases h;done) | skip
   rename_i v' n' hr
   cases h
   obtain ⟨h1,h2,h3,h4,h5⟩:=decS_bd r (i + 1) v' n' (by omega) hr
   have hv:=h5 (by omega)
   refine ⟨?_,by omega,by simp;omega,by omega,fun _=>by omega⟩
   have hb:b.toNat % 128 < 128:=Nat.mod_lt _ (by omega)
   have hi':i≤8:=by omega
   have e:v' * 128 ^ (i + 1)=128 * v' * 128 ^ i:=by rw [Nat.pow_succ];ac_rfl
   rw [e] at h1
   have hd:(2:Nat) ^ 64=2 ^ (64 - 7 * i) * 128 ^ i:=by
    have:(128:Nat) ^ i=2 ^ (7 * i):=by rw [Nat.pow_mul]
    rw [this,← Nat.pow_add];congr 1;omega
   have hp:0 < 128 ^ i:=Nat.pow_pos (by omega)
   rw [hd] at h1 ⊢
   have h1':128 * v' < 2 ^ (64 - 7 * i):=Nat.lt_of_mul_lt_mul_right h1
   have hd2:(2:Nat) ^ (64 - 7 * i)=128 * 2 ^ (57 - 7 * i):=by
    rw [show (128:Nat)=2 ^ 7 from rfl,← Nat.pow_add];congr 1;omega
   rw [hd2] at h1' ⊢
   have h1'':v' < 2 ^ (57 - 7 * i):=Nat.lt_of_mul_lt_mul_left h1'
   exact Nat.mul_lt_mul_of_pos_right (by omega) hp
  ·split at h
   ·cases h
   split at h
   ·cases h
   rename_i hx hb h0 h9
   cases h
   refine ⟨?_,by omega,by simp,by omega,fun h=>by omega⟩
   have hp:128 ^ i=2 ^ (7 * i):=by rw [show (128:Nat)=2 ^ 7 from rfl,Nat.pow_mul]
   by_cases hi9:i=9
   ·subst hi9
    have:b.toNat≤1:=by omega
    calc b.toNat * 128 ^ 9≤1 * 128 ^ 9:=Nat.mul_le_mul_right _ this
     _ < 2 ^ 64:=by decide
   ·have h1:b.toNat * 128 ^ i < 128 * 128 ^ i:=Nat.mul_lt_mul_of_pos_right (by omega) (Nat.pow_pos (by omega))
    have h2:128 * 128 ^ i≤128 * 128 ^ 8:=Nat.mul_le_mul_left _ (Nat.pow_le_pow_right (by omega) (by omega))
    have h3:128 * 128 ^ 8 < 2 ^ 64:=by decide
    omega
theorem decS_enc:∀ (l:List UInt8) (i v n:Nat),i < 10->decS i l=some (v,n)->l.take n=encN (9 - i) v∧(encN (9 - i) v).length=n
 | [],i,v,n,hi,h=>by simp [decS] at h
 | b :: r,i,v,n,hi,h=>by
  have hbd:=decS_bd (b :: r) i v n (by omega) h
  simp only [decS] at h
  split at h
  ·cases h
  split at h
  ·split at h<;>first | (cases h;done) | skip
   rename_i hi10 hb v' n' hr
   cases h
   obtain ⟨h1,h2,h3,h4,h5⟩:=decS_bd r (i + 1) v' n' (by omega) hr
   have hv:=h5 (by omega)
   obtain ⟨h6,h7⟩:=decS_enc r (i + 1) v' n' (by omega) hr
   have e:9 - i=(9 - (i + 1)) + 1:=by omega
   have hb2:b.toNat < 256:=b.toNat_lt
   rw [e]
   simp only [encN]
   rw [if_neg (by omega),show (b.toNat % 128 + 128 * v') / 128=v' by omega,show (b.toNat % 128 + 128 * v') % 128=b.toNat % 128 by omega,show b.toNat % 128 + 128=b.toNat by omega]
   exact ⟨by rw [List.take_succ_cons,h6,UInt8.ofNat_toNat],by rw [List.length_cons,h7]⟩
  ·split at h
   ·cases h
   split at h
   ·cases h
   rename_i hx hb h0 h9
   cases h
   have:encN (9 - i) b.toNat=[UInt8.ofNat b.toNat]:=encN_one (by omega)
   rw [this];simp
theorem enc_decS:∀ (m v:Nat) (r:List UInt8),m≤9->v * 128 ^ (9 - m) < 2 ^ 64->(m < 9->0 < v)->decS (9 - m) (encN m v ++ r)=some (v,(encN m v).length)
 | 0,v,r,hm,hv,h0=>by
  have hv1:v≤1:=by
   rcases Nat.lt_or_ge 1 v with h | h
   ·have:2 * 128 ^ 9≤v * 128 ^ 9:=Nat.mul_le_mul_right _ h
    have:2 * 128 ^ 9=2 ^ 64:=by decide
    simp only [Nat.sub_zero] at hv
    omega
   ·exact h
  have hp:=h0 (by omega)
  obtain rfl:v=1:=by omega
  rfl
 | m + 1,v,r,hm,hv,h0=>by
  simp only [encN]
  by_cases h:v < 128
  ·rw [if_pos h]
   have hb:(UInt8.ofNat v).toNat=v:=by rw [UInt8.toNat_ofNat'];omega
   simp only [List.cons_append,List.nil_append,decS,hb]
   rw [if_neg (by omega),if_neg (by omega)]
   by_cases h9:m + 1=9
   ·rw [if_neg (by omega),if_neg (by omega)];rfl
   ·have:=h0 (by omega)
    rw [if_neg (by omega),if_neg (by omega)];rfl
  ·rw [if_neg h]
   have hb:(UInt8.ofNat (v % 128 + 128)).toNat=v % 128 + 128:=by rw [UInt8.toNat_ofNat'];omega
   have hd:v / 128 * 128 ^ (9 - m) < 2 ^ 64:=by
    have e:(128:Nat) ^ (9 - m)=128 ^ (9 - (m + 1)) * 128:=by rw [← Nat.pow_succ];congr 1;omega
    rw [e]
    calc v / 128 * (128 ^ (9 - (m + 1)) * 128)=(v / 128 * 128) * 128 ^ (9 - (m + 1)):=by ac_rfl
     _≤v * 128 ^ (9 - (m + 1)):=Nat.mul_le_mul_right _ (Nat.div_mul_le_self v 128)
     _ < 2 ^ 64:=hv
   have ih:=enc_decS m (v / 128) r (by omega) hd (fun _=>by omega)
   simp only [List.cons_append,decS,hb]
   rw [if_neg (by omega),if_pos (by omega),show 9 - (m + 1) + 1=9 - m by omega,ih]
   simp only [Option.some.injEq,Prod.mk.injEq,List.length_cons,and_true]
   omega
theorem enc_dec {v:Nat} (hv:v < 2 ^ 64) (r:List UInt8):decS 0 (enc v ++ r)=some (v,(enc v).length):=
 enc_decS 9 v r (by omega) (by simpa using hv) (fun h=>by omega)
theorem dec_enc {l:List UInt8} {v n:Nat} (h:decS 0 l=some (v,n)):l.take n=enc v∧(enc v).length=n∧v < 2 ^ 64∧n≤l.length:=by
 obtain ⟨h1,h2⟩:=decS_enc l 0 v n (by omega) h
 have h3:=decS_bd l 0 v n (by omega) h
 exact ⟨h1,h2,by simpa using h3.1,h3.2.2.1⟩
theorem or_add {a x i:Nat} (h:a < 2 ^ i):a ||| (x * 2 ^ i)=a + x * 2 ^ i:=by
 rw [Nat.or_comm,Nat.add_comm,← Nat.shiftLeft_eq,Nat.shiftLeft_add_eq_or_of_lt h]
theorem and127:∀ b:_root_.Fin 256,(UInt8.ofNat b.val &&& UInt8.ofNat 127).toNat=b.val % 128:=by decide +kernel
theorem and127' (b:UInt8):(b &&& UInt8.ofNat 127).toNat=b.toNat % 128:=by
 have:=and127 ⟨b.toNat,b.toNat_lt⟩
 simpa using this
theorem acc90 {acc:UInt64} {b:UInt8} {i:Nat} (hi:i≤9) (ha:acc.toNat < 128 ^ i) (h9:i=9->b.toNat % 128≤1):(acc ||| (shl64 ((b &&& (UInt8.ofNat 127)).toUInt64) (7 * i))).toNat=acc.toNat + b.toNat % 128 * 128 ^ i∧b.toNat % 128 * 128 ^ i < 2 ^ 64:=by
 have hp:(128:Nat) ^ i=2 ^ (7 * i):=by rw [show (128:Nat)=2 ^ 7 from rfl,Nat.pow_mul]
 have hlt:b.toNat % 128 * 128 ^ i < 2 ^ 64:=by
  by_cases h:i=9
  ·subst h
   calc b.toNat % 128 * 128 ^ 9≤1 * 128 ^ 9:=Nat.mul_le_mul_right _ (h9 rfl)
    _ < 2 ^ 64:=by decide
  ·have h1:b.toNat % 128 * 128 ^ i < 128 * 128 ^ i:=Nat.mul_lt_mul_of_pos_right (Nat.mod_lt _ (by omega)) (Nat.pow_pos (by omega))
   have h2:128 * 128 ^ i≤128 * 128 ^ 8:=Nat.mul_le_mul_left _ (Nat.pow_le_pow_right (by omega) (by omega))
   have h3:128 * 128 ^ 8 < 2 ^ 64:=by decide
   omega
 refine ⟨?_,hlt⟩
 have hs:(shl64 ((b &&& (UInt8.ofNat 127)).toUInt64) (7 * i)).toNat=b.toNat % 128 * 128 ^ i:=by
  show (((b &&& (UInt8.ofNat 127)).toUInt64).toBitVec <<< (7 * i)).toNat=_
  rw [BitVec.toNat_shiftLeft]
  have e1:((b &&& (UInt8.ofNat 127)).toUInt64).toBitVec.toNat=b.toNat % 128:=by
   show ((b &&& (UInt8.ofNat 127)).toUInt64).toNat=_
   rw [UInt8.toNat_toUInt64,and127']
  rw [e1,Nat.shiftLeft_eq,← hp,Nat.mod_eq_of_lt hlt]
 rw [UInt64.toNat_or,hs,hp]
 rw [hp] at ha
 exact or_add ha
theorem l90 (F:Nat) (b:List UInt8) (hb:b.length < 1000000000):∀ (m i fuel pos:Nat) (acc:UInt64),i + m=10->m < fuel->acc.toNat < 128 ^ i->pos≤b.length ->
  (∃ v n,decS i (b.drop pos)=some (v,n)∧iter (fun s:UInt64×Int×Int=>L162_2 F b s.1 s.2.1 s.2.2) fuel (acc,((i:Nat):Int),((pos:Nat):Int))=some (.inr (UInt64.ofNat (acc.toNat + v * 128 ^ i),0,((pos + n:Nat):Int)))) ∨
  (decS i (b.drop pos)=none∧((∃ p,iter (fun s:UInt64×Int×Int=>L162_2 F b s.1 s.2.1 s.2.2) fuel (acc,((i:Nat):Int),((pos:Nat):Int))=some (.inl p))∨∃ p,iter (fun s:UInt64×Int×Int=>L162_2 F b s.1 s.2.1 s.2.2) fuel (acc,((i:Nat):Int),((pos:Nat):Int))=some (.inr (UInt64.ofNat 0,3,p))))
 | m,i,0,pos,acc,him,hf,ha,hp=>by omega
 | 0,i,fuel + 1,pos,acc,him,hf,ha,hp=>by
  right
  have h:¬ (((i:Nat):Int) < 10):=by omega
  refine ⟨?_,.inl ⟨((pos:Nat):Int),?_⟩⟩
  ·cases b.drop pos with
   | nil=>rfl
   | cons x r=>simp only [decS];rw [if_pos (by omega)]
  ·have step:L162_2 F b acc ((i:Nat):Int) ((pos:Nat):Int)=some (.inr (.inl ((pos:Nat):Int))):=by
    simp only [L162_2,L162_2c,h,decide_false,cond_false]
   rw [it_out (f:=fun s:UInt64×Int×Int=>L162_2 F b s.1 s.2.1 s.2.2) (s:=(acc,((i:Nat):Int),((pos:Nat):Int))) step]
 | m + 1,i,fuel + 1,pos,acc,him,hf,ha,hp=>by
  have h:(((i:Nat):Int) < 10):=by omega
  by_cases he:pos=b.length
  ·right
   have e1:(((pos:Nat):Int) == (b.length:Int))=true:=by simp [he]
   refine ⟨by rw [List.drop_eq_nil_of_le (by omega)];rfl,.inr ⟨((pos:Nat):Int),?_⟩⟩
   have step:L162_2 F b acc ((i:Nat):Int) ((pos:Nat):Int)=some (.inr (.inr (UInt64.ofNat 0,3,((pos:Nat):Int)))):=by
    simp only [L162_2,L162_2c,h,decide_true,cond_true,e1]
   rw [it_out (f:=fun s:UInt64×Int×Int=>L162_2 F b s.1 s.2.1 s.2.2) (s:=(acc,((i:Nat):Int),((pos:Nat):Int))) step]
  ·have hlt:pos < b.length:=by omega
   have e1:(((pos:Nat):Int) == (b.length:Int))=false:=by simp;omega
   have hin:inb b.length ((pos:Nat):Int)=some pos:=by unfold inb;rw [if_pos (by omega)];simp
   have hg:gnn (w64 ((7:Int) * ((i:Nat):Int)))=some (7 * i):=by
    have w:w64 ((7:Int) * ((i:Nat):Int))=((7 * i:Nat):Int):=by rw [w64_in (by omega) (by omega)];omega
    rw [w];unfold gnn;rw [if_pos (by omega)];simp only [Int.toNat_natCast]
   have w1:w64 (((i:Nat):Int) + 1)=((i + 1:Nat):Int):=by rw [w64_in (by omega) (by omega)];omega
   have w2:w64 (((pos:Nat):Int) + 1)=((pos + 1:Nat):Int):=by rw [w64_in (by omega) (by omega)];omega
   have hd:b.drop pos=b[pos] :: b.drop (pos + 1):=List.drop_eq_getElem_cons hlt
   rw [hd]
   have hx:b[pos].toNat < 256:=b[pos].toNat_lt
   have hpw:(128:Nat) ^ (i + 1)=128 ^ i * 128:=Nat.pow_succ ..
   by_cases hc:128≤b[pos].toNat
   ·have hc':UInt8.ofNat 128≤b[pos]:=hc
    have step:L162_2 F b acc ((i:Nat):Int) ((pos:Nat):Int)=some (.inl (acc ||| (shl64 ((b[pos] &&& (UInt8.ofNat 127)).toUInt64) (7 * i)),((i + 1:Nat):Int),((pos + 1:Nat):Int))):=by
     simp only [L162_2,L162_2c,h,decide_true,cond_true,e1,cond_false,hin,Option.bind_some,List.getElem?_eq_getElem hlt,hg,hc',w1,w2]
    rw [it_again (f:=fun s:UInt64×Int×Int=>L162_2 F b s.1 s.2.1 s.2.2) (s:=(acc,((i:Nat):Int),((pos:Nat):Int))) step]
    have hds:decS i (b[pos] :: b.drop (pos + 1))=(match decS (i + 1) (b.drop (pos + 1)) with
      | some (v,n)=>some (b[pos].toNat % 128 + 128 * v,n + 1)
      | none=>none):=by
     simp only [decS];rw [if_neg (by omega),if_pos hc]
    rw [hds]
    by_cases hi9:i=9
    ·
     subst hi9
     have hn:decS (9 + 1) (b.drop (pos + 1))=none:=by
      cases b.drop (pos + 1) with
      | nil=>rfl
      | cons x r=>simp [decS]
     rw [hn]
     right
     refine ⟨rfl,?_⟩
     obtain ⟨f,rfl⟩:∃ f,fuel=f + 1:=⟨fuel - 1,by omega⟩
     left
     have h':¬ (((9 + 1:Nat):Int) < 10):=by omega
     refine ⟨((pos + 1:Nat):Int),?_⟩
     have step2:∀ a:UInt64,L162_2 F b a ((9 + 1:Nat):Int) ((pos + 1:Nat):Int)=some (.inr (.inl ((pos + 1:Nat):Int))):=fun a=>by
      simp only [L162_2,L162_2c,h',decide_false,cond_false]
     rw [it_out (f:=fun s:UInt64×Int×Int=>L162_2 F b s.1 s.2.1 s.2.2) (s:=(_,((9 + 1:Nat):Int),((pos + 1:Nat):Int))) (step2 _)]
    ·obtain ⟨hacc,_⟩:=acc90 (acc:=acc) (b:=b[pos]) (i:=i) (by omega) ha (fun h=>absurd h hi9)
     have hacc2:(acc ||| (shl64 ((b[pos] &&& (UInt8.ofNat 127)).toUInt64) (7 * i))).toNat < 128 ^ (i + 1):=by
      rw [hacc,hpw]
      have:b[pos].toNat % 128 * 128 ^ i≤127 * 128 ^ i:=Nat.mul_le_mul_right _ (by omega)
      omega
     rcases l90 F b hb m (i + 1) fuel (pos + 1) _ (by omega) (by omega) hacc2 (by omega) with ⟨v,n,h1,h2⟩ | ⟨h1,h2⟩
     ·left
      rw [h1]
      refine ⟨_,_,rfl,?_⟩
      rw [h2,hacc]
      have e:acc.toNat + b[pos].toNat % 128 * 128 ^ i + v * 128 ^ (i + 1)=acc.toNat + (b[pos].toNat % 128 + 128 * v) * 128 ^ i:=by
       rw [hpw,Nat.add_mul,Nat.add_assoc];congr 2;ac_rfl
      rw [e,show pos + 1 + n=pos + (n + 1) by omega]
     ·right
      rw [h1]
      exact ⟨rfl,h2⟩
   ·have hc':¬ UInt8.ofNat 128≤b[pos]:=hc
    have hds:decS i (b[pos] :: b.drop (pos + 1))=(if 0 < i∧b[pos].toNat=0 then none else if i=9∧1 < b[pos].toNat then none else some (b[pos].toNat,1)):=by
     simp only [decS];rw [if_neg (by omega),if_neg hc]
    rw [hds]
    have good:(i=9->b[pos].toNat≤1)->L162_2 F b acc ((i:Nat):Int) ((pos:Nat):Int)=some (.inr (.inr (acc ||| (shl64 ((b[pos] &&& (UInt8.ofNat 127)).toUInt64) (7 * i)),0,((pos + 1:Nat):Int)))) ->
      iter (fun s:UInt64×Int×Int=>L162_2 F b s.1 s.2.1 s.2.2) (fuel + 1) (acc,((i:Nat):Int),((pos:Nat):Int))=some (.inr (UInt64.ofNat (acc.toNat + b[pos].toNat * 128 ^ i),0,((pos + 1:Nat):Int))):=fun h9 step=>by
     rw [it_out (f:=fun s:UInt64×Int×Int=>L162_2 F b s.1 s.2.1 s.2.2) (s:=(acc,((i:Nat):Int),((pos:Nat):Int))) step]
     obtain ⟨hacc,_⟩:=acc90 (acc:=acc) (b:=b[pos]) (i:=i) (by omega) ha (fun h=>by have:=h9 h;omega)
     have hm:b[pos].toNat % 128=b[pos].toNat:=Nat.mod_eq_of_lt (by omega)
     rw [hm] at hacc
     rw [← hacc,UInt64.ofNat_toNat]
    have bad:L162_2 F b acc ((i:Nat):Int) ((pos:Nat):Int)=some (.inr (.inr (UInt64.ofNat 0,3,((pos + 1:Nat):Int))))->∃ p,iter (fun s:UInt64×Int×Int=>L162_2 F b s.1 s.2.1 s.2.2) (fuel + 1) (acc,((i:Nat):Int),((pos:Nat):Int))=some (.inr (UInt64.ofNat 0,3,p)):=fun step=>
     ⟨_,by rw [it_out (f:=fun s:UInt64×Int×Int=>L162_2 F b s.1 s.2.1 s.2.2) (s:=(acc,((i:Nat):Int),((pos:Nat):Int))) step]⟩
    have base:∀ z,(L162_2 F b acc ((i:Nat):Int) ((pos:Nat):Int)=z) ↔ ((bif decide ((0:Int) < ((i:Nat):Int)) then (bif (b[pos] == (UInt8.ofNat 0)) then some (.inr (.inr (UInt64.ofNat 0,3,((pos + 1:Nat):Int)))) else (bif (((i:Nat):Int) == 9) then (bif decide (UInt8.ofNat 1 < b[pos]) then some (.inr (.inr (UInt64.ofNat 0,3,((pos + 1:Nat):Int)))) else some (.inr (.inr (acc ||| (shl64 ((b[pos] &&& (UInt8.ofNat 127)).toUInt64) (7 * i)),0,((pos + 1:Nat):Int))))) else some (.inr (.inr (acc ||| (shl64 ((b[pos] &&& (UInt8.ofNat 127)).toUInt64) (7 * i)),0,((pos + 1:Nat):Int)))))) else (bif (((i:Nat):Int) == 9) then (bif decide (UInt8.ofNat 1 < b[pos]) then some (.inr (.inr (UInt64.ofNat 0,3,((pos + 1:Nat):Int)))) else some (.inr (.inr (acc ||| (shl64 ((b[pos] &&& (UInt8.ofNat 127)).toUInt64) (7 * i)),0,((pos + 1:Nat):Int))))) else some (.inr (.inr (acc ||| (shl64 ((b[pos] &&& (UInt8.ofNat 127)).toUInt64) (7 * i)),0,((pos + 1:Nat):Int))))))=z):=fun z=>by
     simp only [L162_2,L162_2c,h,decide_true,cond_true,e1,cond_false,hin,Option.bind_some,List.getElem?_eq_getElem hlt,hg,hc',decide_false,w2]
    have b0:(b[pos] == UInt8.ofNat 0)=decide (b[pos].toNat=0):=by
     rw [Bool.eq_iff_iff];simp only [beq_iff_eq,decide_eq_true_eq]
     exact ⟨fun h=>by rw [h];rfl,fun h=>UInt8.toNat_inj.1 (by rw [h];rfl)⟩
    have b1:decide (UInt8.ofNat 1 < b[pos])=decide (1 < b[pos].toNat):=rfl
    have i0:decide ((0:Int) < ((i:Nat):Int))=decide (0 < i):=by rw [Bool.eq_iff_iff];simp
    have i9:(((i:Nat):Int) == 9)=decide (i=9):=by rw [Bool.eq_iff_iff];simp;omega
    rw [b0,b1,i0,i9] at base
    by_cases c1:0 < i∧b[pos].toNat=0
    ·right
     rw [if_pos c1]
     exact ⟨rfl,.inr (bad ((base _).2 (by simp [c1.1,c1.2])))⟩
    ·rw [if_neg c1]
     by_cases c2:i=9∧1 < b[pos].toNat
     ·right
      rw [if_pos c2]
      have hz:¬ b[pos].toNat=0:=by omega
      exact ⟨rfl,.inr (bad ((base _).2 (by simp [c2.1,c2.2,hz])))⟩
     ·left
      rw [if_neg c2]
      refine ⟨_,_,rfl,good (fun h=>by omega) ((base _).2 ?_)⟩
      by_cases hi0:0 < i
      ·have hz:¬ b[pos].toNat=0:=fun h=>c1 ⟨hi0,h⟩
       by_cases hi9:i=9
       ·have:¬ 1 < b[pos].toNat:=fun h=>c2 ⟨hi9,h⟩
        simp [hi0,hz,hi9,this]
       ·simp [hi0,hz,hi9]
      ·have hi9:¬ i=9:=by omega
       simp [hi0,hi9]
theorem t90 {F:Nat} (hF:50 < F) (b:List UInt8) (hb:b.length < 1000000000) {pos:Nat} (hp:pos≤b.length) :
  (∃ v n,decS 0 (b.drop pos)=some (v,n)∧T162 F ((pos:Nat):Int) b=some (UInt64.ofNat v,0,((pos + n:Nat):Int))) ∨
  (decS 0 (b.drop pos)=none∧∃ p,T162 F ((pos:Nat):Int) b=some (UInt64.ofNat 0,3,p)):=by
 have z:((0:Nat):Int)=0:=rfl
 rcases l90 F b hb 10 0 F pos (UInt64.ofNat 0) (by omega) (by omega) (by decide) hp with ⟨v,n,h1,h2⟩ | ⟨h1,h2⟩
 ·left
  rw [z] at h2
  refine ⟨v,n,h1,?_⟩
  simp only [T162,T162c]
  rw [h2]
  simp [elimS]
 ·right
  rw [z] at h2
  refine ⟨h1,?_⟩
  rcases h2 with ⟨p,h2⟩ | ⟨p,h2⟩
  ·exact ⟨p,by simp only [T162,T162c];rw [h2];rfl⟩
  ·exact ⟨p,by simp only [T162,T162c];rw [h2];rfl⟩
theorem ix_nat {α:Type} {l:List α} {i:Nat} (h:i < l.length):ix l ((i:Nat):Int)=some l[i]:=by
 unfold ix;rw [if_pos (by omega)];simp only [Int.toNat_natCast];exact List.getElem?_eq_getElem h
def val:List UInt8->Nat
 | []=>0
 | b :: r=>b.toNat % 128 + 128 * val r
theorem val_snoc:∀ (l:List UInt8) (x:UInt8),val (l ++ [x])=val l + x.toNat % 128 * 128 ^ l.length
 | [],x=>by simp [val]
 | b :: r,x=>by
  simp only [List.cons_append,val,val_snoc r x,List.length_cons,Nat.pow_succ]
  rw [Nat.mul_add,Nat.add_assoc];congr 2;ac_rfl
theorem decS_val:∀ (l:List UInt8) (i v n:Nat),decS i l=some (v,n)->v=val (l.take n)∧1≤n∧(∀ j x,j + 1 < n->l[j]? = some x->128≤x.toNat)∧∃ x,l[n - 1]? = some x∧x.toNat < 128
 | [],i,v,n,h=>by simp [decS] at h
 | b :: r,i,v,n,h=>by
  simp only [decS] at h
  split at h
  ·cases h
  split at h
  ·split at h<;>first | (cases h;done) | skip
   rename_i hc _ v' n' hr
   cases h
   obtain ⟨h1,h2,h3,x,h4,h5⟩:=decS_val r (i + 1) v' n' hr
   refine ⟨by simp [val,← h1],by omega,fun j x hj hx=>?_,x,?_,h5⟩
   ·cases j with
    | zero=>simp at hx;subst hx;exact hc
    | succ j=>exact h3 j x (by omega) (by simpa using hx)
   ·obtain ⟨k,rfl⟩:∃ k,n'=k + 1:=⟨n' - 1,by omega⟩
    simpa using h4
  ·split at h
   ·cases h
   split at h
   ·cases h
   rename_i hx hb h0 h9
   cases h
   refine ⟨?_,by omega,fun j x hj _=>by omega,b,by simp,by omega⟩
   simp [val,Nat.mod_eq_of_lt (show b.toNat < 128 by omega)]
theorem mod_in (A V p N:Nat):(A % N * p + V) % N=(A * p + V) % N:=by
 rw [Nat.add_mod,Nat.mul_mod,Nat.mod_mod,← Nat.mul_mod,← Nat.add_mod]
theorem l77_5 (F:Nat) {b:List UInt8} {a:Nat} (hb:b.length < 1000000000):∀ (m fuel:Nat) (acc:UInt64),a + m≤b.length->m < fuel ->
  ∃ r,iter (fun s:UInt64×Int=>L165_5 F b ((a:Nat):Int) s.1 s.2) fuel (acc,((m:Nat):Int) - 1)=some r∧r.toNat=(acc.toNat * 128 ^ m + val ((b.drop a).take m)) % 2 ^ 64
 | m,0,acc,hm,hf=>by omega
 | 0,fuel + 1,acc,hm,hf=>by
  have h:¬ ((0:Int)≤((0:Nat):Int) - 1):=by omega
  refine ⟨acc,?_,?_⟩
  ·have step:L165_5 F b ((a:Nat):Int) acc (((0:Nat):Int) - 1)=some (.inr acc):=by
    simp only [L165_5,L165_5c,h,decide_false,cond_false]
   rw [it_out (f:=fun s:UInt64×Int=>L165_5 F b ((a:Nat):Int) s.1 s.2) (s:=(acc,_)) step]
  ·have:=acc.toNat_lt
   first | (simp [val];done) | (simp [val];omega)
 | m + 1,fuel + 1,acc,hm,hf=>by
  have e:((m + 1:Nat):Int) - 1=((m:Nat):Int):=by omega
  rw [e]
  have h:((0:Int)≤((m:Nat):Int)):=by omega
  have hlt:a + m < b.length:=by omega
  have w1:w64 (((a:Nat):Int) + ((m:Nat):Int))=((a + m:Nat):Int):=by rw [w64_in (by omega) (by omega)];omega
  have hx:ix b ((a + m:Nat):Int)=some b[a + m]:=ix_nat hlt
  have w2:w64 (((m:Nat):Int) - 1)=((m:Nat):Int) - 1:=w64_in (by omega) (by omega)
  obtain ⟨r,h1,h2⟩:=l77_5 F (a:=a) hb m fuel ((acc * UInt64.ofNat 128) + (b[a + m] % UInt8.ofNat 128).toUInt64) (by omega) (by omega)
  refine ⟨r,?_,?_⟩
  ·have step:L165_5 F b ((a:Nat):Int) acc ((m:Nat):Int)=some (.inl ((acc * UInt64.ofNat 128) + (b[a + m] % UInt8.ofNat 128).toUInt64,((m:Nat):Int) - 1)):=by
    simp only [L165_5,L165_5c,h,decide_true,cond_true,w1,hx,Option.bind_some,w2]
   rw [it_again (f:=fun s:UInt64×Int=>L165_5 F b ((a:Nat):Int) s.1 s.2) (s:=(acc,_)) step,h1]
  ·rw [h2]
   have ht:(b.drop a).take (m + 1)=(b.drop a).take m ++ [b[a + m]]:=by
    rw [List.take_succ_eq_append_getElem (by simp;omega)];simp
   have hl:((b.drop a).take m).length=m:=by simp;omega
   rw [ht,val_snoc,hl]
   have ha:((acc * UInt64.ofNat 128) + (b[a + m] % UInt8.ofNat 128).toUInt64).toNat=(acc.toNat * 128 + b[a + m].toNat % 128) % 2 ^ 64:=by
    rw [UInt64.toNat_add,UInt64.toNat_mul,UInt8.toNat_toUInt64,UInt8.toNat_mod]
    have e1:(UInt64.ofNat 128).toNat=128:=rfl
    have e2:(UInt8.ofNat 128).toNat=128:=rfl
    rw [e1,e2]
    have:=mod_in (acc.toNat * 128) (b[a + m].toNat % 128) 1 (2 ^ 64)
    simp
   rw [ha,mod_in]
   congr 1
   rw [Nat.pow_succ,Nat.add_mul,Nat.add_assoc,Nat.add_comm (b[a + m].toNat % 128 * 128 ^ m)]
   congr 1;ac_rfl
theorem l77_6 (F:Nat) {b ag:List UInt8} {a:Nat} (hb:b.length < 1000000000) (hn:a + ag.length≤b.length):∀ (m fuel j:Nat),j + m=ag.length->m < fuel ->
  iter (fun s=>L165_6 F b ((a:Nat):Int) ((ag.length:Nat):Int) ag s) fuel ((j:Nat):Int)=some (if ag.drop j=((b.drop a).take ag.length).drop j then .inl () else .inr (UInt64.ofNat 0,0,false))
 | m,0,j,hj,hf=>by omega
 | 0,fuel + 1,j,hj,hf=>by
  have h:¬ (((j:Nat):Int) < ((ag.length:Nat):Int)):=by omega
  have step:L165_6 F b ((a:Nat):Int) ((ag.length:Nat):Int) ag ((j:Nat):Int)=some (.inr (.inl ())):=by
   simp only [L165_6,L165_6c,h,decide_false,cond_false]
  rw [it_out (f:=fun s=>L165_6 F b ((a:Nat):Int) ((ag.length:Nat):Int) ag s) step]
  rw [List.drop_eq_nil_of_le (by omega),List.drop_eq_nil_of_le (by simp;omega)]
  simp
 | m + 1,fuel + 1,j,hj,hf=>by
  have h:(((j:Nat):Int) < ((ag.length:Nat):Int)):=by omega
  have hjl:j < ag.length:=by omega
  have hjb:a + j < b.length:=by omega
  have w1:w64 (((a:Nat):Int) + ((j:Nat):Int))=((a + j:Nat):Int):=by rw [w64_in (by omega) (by omega)];omega
  have w2:w64 (((j:Nat):Int) + 1)=((j + 1:Nat):Int):=by rw [w64_in (by omega) (by omega)];omega
  have hx:ix b ((a + j:Nat):Int)=some b[a + j]:=ix_nat hjb
  have hin:inb ag.length ((j:Nat):Int)=some j:=by unfold inb;rw [if_pos (by omega)];simp
  have d1:ag.drop j=ag[j] :: ag.drop (j + 1):=List.drop_eq_getElem_cons hjl
  have d2:((b.drop a).take ag.length).drop j=b[a + j] :: ((b.drop a).take ag.length).drop (j + 1):=by
   rw [List.drop_eq_getElem_cons (by simp;omega)];simp
  rw [d1,d2]
  by_cases hc:ag[j]=b[a + j]
  ·have hne:(ag[j] != b[a + j])=false:=by simp [hc]
   have step:L165_6 F b ((a:Nat):Int) ((ag.length:Nat):Int) ag ((j:Nat):Int)=some (.inl ((j + 1:Nat):Int)):=by
    simp only [L165_6,L165_6c,h,decide_true,cond_true,hin,Option.bind_some,List.getElem?_eq_getElem hjl,w1,hx,hne,cond_false,w2]
   rw [it_again (f:=fun s=>L165_6 F b ((a:Nat):Int) ((ag.length:Nat):Int) ag s) step,l77_6 F hb hn m fuel (j + 1) (by omega) (by omega)]
   simp [hc]
  ·have hne:(ag[j] != b[a + j])=true:=by simpa using hc
   have step:L165_6 F b ((a:Nat):Int) ((ag.length:Nat):Int) ag ((j:Nat):Int)=some (.inr (.inr (UInt64.ofNat 0,0,false))):=by
    simp only [L165_6,L165_6c,h,decide_true,cond_true,hin,Option.bind_some,List.getElem?_eq_getElem hjl,w1,hx,hne]
   rw [it_out (f:=fun s=>L165_6 F b ((a:Nat):Int) ((ag.length:Nat):Int) ag s) step]
   rw [if_neg (fun h=>by injection h with h1 _;exact hc h1)]
theorem decS_at {l:List UInt8} {v k n:Nat} {x:UInt8} (h:decS 0 l=some (v,k)) (hn:1≤n) (hx:l[n - 1]? = some x) (hlo:x.toNat < 128) (hbe:∀ j y,j + 1 < n->l[j]? = some y->128≤y.toNat):k=n:=by
 obtain ⟨h1,h2,h3,y,h4,h5⟩:=decS_val l 0 v k h
 rcases Nat.lt_trichotomy k n with h6 | h6 | h6
 ·have:=hbe (k - 1) y (by omega) h4;omega
 ·exact h6
 ·have:=h3 (n - 1) x (by omega) hx;omega
theorem l77_4 (F:Nat) (hF:50 < F) {b:List UInt8} {a:Nat} (hb:b.length < 1000000000) (ha:a≤b.length):∀ (m fuel n:Nat),n + m=11->m < fuel->1≤n->(∀ j y,j + 1 < n->(b.drop a)[j]? = some y->128≤y.toNat) ->
  (∃ v k,decS 0 (b.drop a)=some (v,k)∧iter (fun s=>L165_4 F b ((a:Nat):Int) s) fuel ((n:Nat):Int)=some (.inr (UInt64.ofNat v,((a + k:Nat):Int),true))) ∨
  (decS 0 (b.drop a)=none∧(iter (fun s=>L165_4 F b ((a:Nat):Int) s) fuel ((n:Nat):Int)=some (.inl ())∨iter (fun s=>L165_4 F b ((a:Nat):Int) s) fuel ((n:Nat):Int)=some (.inr (UInt64.ofNat 0,0,false))))
 | m,0,n,hm,hf,hn,hbe=>by omega
 | 0,fuel + 1,n,hm,hf,hn,hbe=>by
  right
  have h:¬ (((n:Nat):Int)≤10):=by omega
  refine ⟨?_,.inl ?_⟩
  ·cases hd:decS 0 (b.drop a) with
   | none=>rfl
   | some r=>
    obtain ⟨v,k⟩:=r
    obtain ⟨h1,h2,h3,y,h4,h5⟩:=decS_val _ 0 v k hd
    have h6:=decS_bd _ 0 v k (by omega) hd
    have:=hbe (k - 1) y (by omega) h4
    omega
  ·have step:L165_4 F b ((a:Nat):Int) ((n:Nat):Int)=some (.inr (.inl ())):=by
    simp only [L165_4,L165_4c,h,decide_false,cond_false]
   rw [it_out (f:=fun s=>L165_4 F b ((a:Nat):Int) s) step]
 | m + 1,fuel + 1,n,hm,hf,hn,hbe=>by
  have h:(((n:Nat):Int)≤10):=by omega
  have w1:w64 (((a:Nat):Int) + ((n:Nat):Int))=((a + n:Nat):Int):=by rw [w64_in (by omega) (by omega)];omega
  by_cases hl:a + n≤b.length
  ·have hl':(((a + n:Nat):Int)≤(b.length:Int)):=by omega
   have hlt:a + (n - 1) < b.length:=by omega
   have w2:w64 (((a + n:Nat):Int) - 1)=((a + (n - 1):Nat):Int):=by rw [w64_in (by omega) (by omega)];omega
   have hx:ix b ((a + (n - 1):Nat):Int)=some b[a + (n - 1)]:=ix_nat hlt
   have hget:(b.drop a)[n - 1]? = some b[a + (n - 1)]:=by simp [hlt]
   by_cases hc:128≤b[a + (n - 1)].toNat
   ·have hc':UInt8.ofNat 128≤b[a + (n - 1)]:=hc
    have w3:w64 (((n:Nat):Int) + 1)=((n + 1:Nat):Int):=by rw [w64_in (by omega) (by omega)];omega
    have step:L165_4 F b ((a:Nat):Int) ((n:Nat):Int)=some (.inl ((n + 1:Nat):Int)):=by
     simp only [L165_4,L165_4c,h,decide_true,cond_true,w1,hl',w2,hx,Option.bind_some,hc',w3]
    rw [it_again (f:=fun s=>L165_4 F b ((a:Nat):Int) s) step]
    refine l77_4 F hF hb ha m fuel (n + 1) (by omega) (by omega) (by omega) (fun j y hj hy=>?_)
    by_cases hjn:j + 1=n
    ·have:j=n - 1:=by omega
     rw [this,hget] at hy
     cases hy;exact hc
    ·exact hbe j y (by omega) hy
   ·have hc':¬ UInt8.ofNat 128≤b[a + (n - 1)]:=hc
    obtain ⟨r,hr1,hr2⟩:=l77_5 F hb n F (UInt64.ofNat 0) (a:=a) hl (by omega)
    have z0:(UInt64.ofNat 0).toNat=0:=rfl
    rw [z0,Nat.zero_mul,Nat.zero_add] at hr2
    have w4:w64 (((n:Nat):Int) - 1)=((n:Nat):Int) - 1:=w64_in (by omega) (by omega)
    have t45:=t45' hF r
    have uniq:∀ v k,decS 0 (b.drop a)=some (v,k)->k=n∧v=r.toNat∧enc r.toNat=(b.drop a).take n:=fun v k hd=>by
     have hk:=decS_at hd hn hget (by omega) hbe
     subst hk
     obtain ⟨q1,q2,q3,q4⟩:=dec_enc hd
     have hv:=(decS_val _ 0 v k hd).1
     have:r.toNat=v:=by rw [hr2,← hv];exact Nat.mod_eq_of_lt q3
     exact ⟨rfl,this.symm,by rw [this,q1]⟩
    by_cases hlen:(enc r.toNat).length=n
    ·have hne:(((enc r.toNat).length:Int) != ((n:Nat):Int))=false:=by simp [hlen]
     have l6:=l77_6 F (b:=b) (ag:=enc r.toNat) (a:=a) hb (by omega) n F 0 (by omega) (by omega)
     have z:((0:Nat):Int)=0:=rfl
     rw [z,hlen,List.drop_zero,List.drop_zero] at l6
     by_cases heq:enc r.toNat=(b.drop a).take n
     ·left
      have hdec:decS 0 (b.drop a)=some (r.toNat,n):=by
       have:=enc_dec r.toNat_lt ((b.drop a).drop n)
       rw [heq,List.take_append_drop] at this
       rw [this,← heq,hlen]
      rw [if_pos heq] at l6
      refine ⟨_,_,hdec,?_⟩
      have step:L165_4 F b ((a:Nat):Int) ((n:Nat):Int)=some (.inr (.inr (r,((a + n:Nat):Int),true))):=by
       simp only [L165_4,L165_4c,h,decide_true,cond_true,w1,hl',w2,hx,Option.bind_some,hc',decide_false,cond_false,w4,hr1,t45,hne,l6,elimS]
      rw [it_out (f:=fun s=>L165_4 F b ((a:Nat):Int) s) step,UInt64.ofNat_toNat]
     ·right
      rw [if_neg heq] at l6
      refine ⟨?_,.inr ?_⟩
      ·cases hd:decS 0 (b.drop a) with
       | none=>rfl
       | some q=>exact absurd (uniq q.1 q.2 hd).2.2 heq
      ·have step:L165_4 F b ((a:Nat):Int) ((n:Nat):Int)=some (.inr (.inr (UInt64.ofNat 0,0,false))):=by
        simp only [L165_4,L165_4c,h,decide_true,cond_true,w1,hl',w2,hx,Option.bind_some,hc',decide_false,cond_false,w4,hr1,t45,hne,l6,elimS]
       rw [it_out (f:=fun s=>L165_4 F b ((a:Nat):Int) s) step]
    ·have hne:(((enc r.toNat).length:Int) != ((n:Nat):Int))=true:=by simp;omega
     right
     refine ⟨?_,.inr ?_⟩
     ·cases hd:decS 0 (b.drop a) with
      | none=>rfl
      | some q=>
       obtain ⟨q1,q2,q3⟩:=uniq q.1 q.2 hd
       have:=(dec_enc hd).2.1
       rw [q2] at this
       omega
     ·have step:L165_4 F b ((a:Nat):Int) ((n:Nat):Int)=some (.inr (.inr (UInt64.ofNat 0,0,false))):=by
       simp only [L165_4,L165_4c,h,decide_true,cond_true,w1,hl',w2,hx,Option.bind_some,hc',decide_false,cond_false,w4,hr1,t45,hne]
      rw [it_out (f:=fun s=>L165_4 F b ((a:Nat):Int) s) step]
  ·have hl':¬ (((a + n:Nat):Int)≤(b.length:Int)):=by omega
   right
   refine ⟨?_,.inl ?_⟩
   ·cases hd:decS 0 (b.drop a) with
    | none=>rfl
    | some r=>
     obtain ⟨v,k⟩:=r
     obtain ⟨h1,h2,h3,y,h4,h5⟩:=decS_val _ 0 v k hd
     have h6:=decS_bd _ 0 v k (by omega) hd
     have h7:k≤b.length - a:=by simpa using h6.2.2.1
     have:=hbe (k - 1) y (by omega) h4
     omega
   ·have step:L165_4 F b ((a:Nat):Int) ((n:Nat):Int)=some (.inr (.inl ())):=by
     simp only [L165_4,L165_4c,h,decide_true,cond_true,w1,hl',decide_false,cond_false]
    rw [it_out (f:=fun s=>L165_4 F b ((a:Nat):Int) s) step]
theorem t77 {F:Nat} (hF:50 < F) (b:List UInt8) (hb:b.length < 1000000000) {a:Nat} (ha:a≤b.length) :
  (∃ v k,decS 0 (b.drop a)=some (v,k)∧T165 F b ((a:Nat):Int)=some (UInt64.ofNat v,((a + k:Nat):Int),true)) ∨
  (decS 0 (b.drop a)=none∧T165 F b ((a:Nat):Int)=some (UInt64.ofNat 0,0,false)):=by
 have o:((1:Nat):Int)=1:=rfl
 rcases l77_4 F hF hb ha 10 F 1 (by omega) (by omega) (by omega) (fun j y hj _=>by omega) with ⟨v,k,h1,h2⟩ | ⟨h1,h2⟩
 ·left
  rw [o] at h2
  exact ⟨v,k,h1,by simp only [T165,T165c];rw [h2];rfl⟩
 ·right
  rw [o] at h2
  refine ⟨h1,?_⟩
  rcases h2 with h2 | h2<;>(simp only [T165,T165c];rw [h2];rfl)
theorem iter2 {σ τ ρ ρ':Type} {f:σ->Option (σ ⊕ ρ)} {g:τ->Option (τ ⊕ ρ')} (R:σ->τ->Prop) (Q:ρ->ρ'->Prop) (μ:σ->Nat)
  (h:∀ s t,R s t->(∃ s' t',f s=some (.inl s')∧g t=some (.inl t')∧R s' t'∧μ s' < μ s)∨(∃ r r',f s=some (.inr r)∧g t=some (.inr r')∧Q r r')) :
  ∀ (n m:Nat) (s:σ) (t:τ),R s t->μ s < n->μ s < m->∃ r r',iter f n s=some r∧iter g m t=some r'∧Q r r'
 | 0,m,s,t,hR,hn,hm=>absurd hn (by omega)
 | n + 1,0,s,t,hR,hn,hm=>absurd hm (by omega)
 | n + 1,m + 1,s,t,hR,hn,hm=>by
  rcases h s t hR with ⟨s',t',h1,h2,h3,h4⟩ | ⟨r,r',h1,h2,h3⟩
  ·rw [it_again h1,it_again h2]
   exact iter2 R Q μ h n m s' t' h3 (by omega) (by omega)
  ·exact ⟨r,r',it_out h1,it_out h2,h3⟩
theorem iter1 {σ ρ:Type} {f:σ->Option (σ ⊕ ρ)} (R:σ->Prop) (Q:ρ->Prop) (μ:σ->Nat)
  (h:∀ s,R s->(∃ s',f s=some (.inl s')∧R s'∧μ s' < μ s)∨(∃ r,f s=some (.inr r)∧Q r)) :
  ∀ (n:Nat) (s:σ),R s->μ s < n->∃ r,iter f n s=some r∧Q r
 | 0,s,hR,hn=>absurd hn (by omega)
 | n + 1,s,hR,hn=>by
  rcases h s hR with ⟨s',h1,h3,h4⟩ | ⟨r,h1,h3⟩
  ·rw [it_again h1]
   exact iter1 R Q μ h n s' h3 (by omega)
  ·exact ⟨r,it_out h1,h3⟩
theorem iterP {σ τ ρ ρ':Type} {f:σ->Option (σ ⊕ ρ)} {g:τ->Option (τ ⊕ ρ')} (R:σ->τ->Prop) (Q:σ->ρ'->Prop) (μ:σ->Nat)
  (h:∀ s t,R s t->(∃ s' t',f s=some (.inl s')∧g t=some (.inl t')∧R s' t'∧μ s' < μ s)∨(∃ r',g t=some (.inr r')∧Q s r')) :
  ∀ (m:Nat) (s:σ) (t:τ),R s t->μ s < m->∃ k s' r',k≤μ s∧iter g m t=some r'∧Q s' r'∧∀ n,iter f (n + k) s=iter f n s'
 | 0,s,t,hR,hm=>absurd hm (by omega)
 | m + 1,s,t,hR,hm=>by
  rcases h s t hR with ⟨s',t',h1,h2,h3,h4⟩ | ⟨r',h1,h2⟩
  ·obtain ⟨k,s'',r',a1,a2,a3,a4⟩:=iterP R Q μ h m s' t' h3 (by omega)
   exact ⟨k + 1,s'',r',by omega,(it_again h2).trans a2,a3,fun n=>(it_again (n:=n + k) h1).trans (a4 n)⟩
  ·exact ⟨0,s,r',by omega,it_out h1,h2,fun n=>rfl⟩
theorem inb_nat {n i:Nat} (h:i < n):inb n ((i:Nat):Int)=some i:=by
 unfold inb;rw [if_pos (by omega)];simp only [Int.toNat_natCast]
theorem vat_nat {α:Type} {n i:Nat} {v:Vector α n} (h:i < n):vat v i=some v[i]:=by
 rw [vat_eq];exact getElem?_pos v i h
theorem vix_nat {α:Type} {n i:Nat} {v:Vector α n} (h:i < n):vix v ((i:Nat):Int)=some v[i]:=by
 unfold vix;rw [if_pos (by omega)];simp only [Int.toNat_natCast];exact getElem?_pos v i h
theorem gsl_nat {α:Type} {l:List α} {a b:Nat} (h:a≤b) (hb:b≤l.length):gsl l ((a:Nat):Int) ((b:Nat):Int)=some ((l.drop a).take (b - a)):=by
 unfold gsl;rw [if_pos (by omega)];simp only [Int.toNat_natCast]
theorem gslb_nat {n a b:Nat} (h:a≤b) (hb:b≤n):gslb n ((a:Nat):Int) ((b:Nat):Int)=some (a,b):=by
 unfold gslb;rw [if_pos (by omega)];simp only [Int.toNat_natCast]
theorem ix_dt {p:List UInt8} {a k:Nat} (h:a + k < p.length) (hk:k < 4):ix ((p.drop a).take 4) ((k:Nat):Int)=some p[a + k]:=by
 rw [ix_nat (by simp;omega)];simp
def rr (x:UInt32) (k:Nat):UInt32:=shr32 x k ||| shl32 x (32 - k)
theorem a94_17 (F:Nat) (x:UInt32):T201 F x (-17)=some (rr x 17):=by
 have e1:((UInt64.ofInt (-17)) &&& (UInt64.ofNat 31)).toNat=15:=by decide +kernel
 have e2:((UInt64.ofNat 32) - ((UInt64.ofInt (-17)) &&& (UInt64.ofNat 31))).toNat=17:=by decide +kernel
 simp only [T201,T201c,e1,e2,rr]
 rw [UInt32.or_comm]
theorem a93_17 (F:Nat) (x:UInt32):T181 F x 17=some (rr x 17):=by
 have e1:gnn (17:Int)=some 17:=by decide +kernel
 have e2:gnn (w64 ((32:Int) - 17))=some 15:=by decide +kernel
 simp only [T181,T181c,e1,e2,rr,Option.bind_some]
theorem a94_19 (F:Nat) (x:UInt32):T201 F x (-19)=some (rr x 19):=by
 have e1:((UInt64.ofInt (-19)) &&& (UInt64.ofNat 31)).toNat=13:=by decide +kernel
 have e2:((UInt64.ofNat 32) - ((UInt64.ofInt (-19)) &&& (UInt64.ofNat 31))).toNat=19:=by decide +kernel
 simp only [T201,T201c,e1,e2,rr]
 rw [UInt32.or_comm]
theorem a93_19 (F:Nat) (x:UInt32):T181 F x 19=some (rr x 19):=by
 have e1:gnn (19:Int)=some 19:=by decide +kernel
 have e2:gnn (w64 ((32:Int) - 19))=some 13:=by decide +kernel
 simp only [T181,T181c,e1,e2,rr,Option.bind_some]
theorem a94_7 (F:Nat) (x:UInt32):T201 F x (-7)=some (rr x 7):=by
 have e1:((UInt64.ofInt (-7)) &&& (UInt64.ofNat 31)).toNat=25:=by decide +kernel
 have e2:((UInt64.ofNat 32) - ((UInt64.ofInt (-7)) &&& (UInt64.ofNat 31))).toNat=7:=by decide +kernel
 simp only [T201,T201c,e1,e2,rr]
 rw [UInt32.or_comm]
theorem a93_7 (F:Nat) (x:UInt32):T181 F x 7=some (rr x 7):=by
 have e1:gnn (7:Int)=some 7:=by decide +kernel
 have e2:gnn (w64 ((32:Int) - 7))=some 25:=by decide +kernel
 simp only [T181,T181c,e1,e2,rr,Option.bind_some]
theorem a94_18 (F:Nat) (x:UInt32):T201 F x (-18)=some (rr x 18):=by
 have e1:((UInt64.ofInt (-18)) &&& (UInt64.ofNat 31)).toNat=14:=by decide +kernel
 have e2:((UInt64.ofNat 32) - ((UInt64.ofInt (-18)) &&& (UInt64.ofNat 31))).toNat=18:=by decide +kernel
 simp only [T201,T201c,e1,e2,rr]
 rw [UInt32.or_comm]
theorem a93_18 (F:Nat) (x:UInt32):T181 F x 18=some (rr x 18):=by
 have e1:gnn (18:Int)=some 18:=by decide +kernel
 have e2:gnn (w64 ((32:Int) - 18))=some 14:=by decide +kernel
 simp only [T181,T181c,e1,e2,rr,Option.bind_some]
theorem a94_6 (F:Nat) (x:UInt32):T201 F x (-6)=some (rr x 6):=by
 have e1:((UInt64.ofInt (-6)) &&& (UInt64.ofNat 31)).toNat=26:=by decide +kernel
 have e2:((UInt64.ofNat 32) - ((UInt64.ofInt (-6)) &&& (UInt64.ofNat 31))).toNat=6:=by decide +kernel
 simp only [T201,T201c,e1,e2,rr]
 rw [UInt32.or_comm]
theorem a93_6 (F:Nat) (x:UInt32):T181 F x 6=some (rr x 6):=by
 have e1:gnn (6:Int)=some 6:=by decide +kernel
 have e2:gnn (w64 ((32:Int) - 6))=some 26:=by decide +kernel
 simp only [T181,T181c,e1,e2,rr,Option.bind_some]
theorem a94_11 (F:Nat) (x:UInt32):T201 F x (-11)=some (rr x 11):=by
 have e1:((UInt64.ofInt (-11)) &&& (UInt64.ofNat 31)).toNat=21:=by decide +kernel
 have e2:((UInt64.ofNat 32) - ((UInt64.ofInt (-11)) &&& (UInt64.ofNat 31))).toNat=11:=by decide +kernel
 simp only [T201,T201c,e1,e2,rr]
 rw [UInt32.or_comm]
theorem a93_11 (F:Nat) (x:UInt32):T181 F x 11=some (rr x 11):=by
 have e1:gnn (11:Int)=some 11:=by decide +kernel
 have e2:gnn (w64 ((32:Int) - 11))=some 21:=by decide +kernel
 simp only [T181,T181c,e1,e2,rr,Option.bind_some]
theorem a94_25 (F:Nat) (x:UInt32):T201 F x (-25)=some (rr x 25):=by
 have e1:((UInt64.ofInt (-25)) &&& (UInt64.ofNat 31)).toNat=7:=by decide +kernel
 have e2:((UInt64.ofNat 32) - ((UInt64.ofInt (-25)) &&& (UInt64.ofNat 31))).toNat=25:=by decide +kernel
 simp only [T201,T201c,e1,e2,rr]
 rw [UInt32.or_comm]
theorem a93_25 (F:Nat) (x:UInt32):T181 F x 25=some (rr x 25):=by
 have e1:gnn (25:Int)=some 25:=by decide +kernel
 have e2:gnn (w64 ((32:Int) - 25))=some 7:=by decide +kernel
 simp only [T181,T181c,e1,e2,rr,Option.bind_some]
theorem a94_2 (F:Nat) (x:UInt32):T201 F x (-2)=some (rr x 2):=by
 have e1:((UInt64.ofInt (-2)) &&& (UInt64.ofNat 31)).toNat=30:=by decide +kernel
 have e2:((UInt64.ofNat 32) - ((UInt64.ofInt (-2)) &&& (UInt64.ofNat 31))).toNat=2:=by decide +kernel
 simp only [T201,T201c,e1,e2,rr]
 rw [UInt32.or_comm]
theorem a93_2 (F:Nat) (x:UInt32):T181 F x 2=some (rr x 2):=by
 have e1:gnn (2:Int)=some 2:=by decide +kernel
 have e2:gnn (w64 ((32:Int) - 2))=some 30:=by decide +kernel
 simp only [T181,T181c,e1,e2,rr,Option.bind_some]
theorem a94_13 (F:Nat) (x:UInt32):T201 F x (-13)=some (rr x 13):=by
 have e1:((UInt64.ofInt (-13)) &&& (UInt64.ofNat 31)).toNat=19:=by decide +kernel
 have e2:((UInt64.ofNat 32) - ((UInt64.ofInt (-13)) &&& (UInt64.ofNat 31))).toNat=13:=by decide +kernel
 simp only [T201,T201c,e1,e2,rr]
 rw [UInt32.or_comm]
theorem a93_13 (F:Nat) (x:UInt32):T181 F x 13=some (rr x 13):=by
 have e1:gnn (13:Int)=some 13:=by decide +kernel
 have e2:gnn (w64 ((32:Int) - 13))=some 19:=by decide +kernel
 simp only [T181,T181c,e1,e2,rr,Option.bind_some]
theorem a94_22 (F:Nat) (x:UInt32):T201 F x (-22)=some (rr x 22):=by
 have e1:((UInt64.ofInt (-22)) &&& (UInt64.ofNat 31)).toNat=10:=by decide +kernel
 have e2:((UInt64.ofNat 32) - ((UInt64.ofInt (-22)) &&& (UInt64.ofNat 31))).toNat=22:=by decide +kernel
 simp only [T201,T201c,e1,e2,rr]
 rw [UInt32.or_comm]
theorem a93_22 (F:Nat) (x:UInt32):T181 F x 22=some (rr x 22):=by
 have e1:gnn (22:Int)=some 22:=by decide +kernel
 have e2:gnn (w64 ((32:Int) - 22))=some 10:=by decide +kernel
 simp only [T181,T181c,e1,e2,rr,Option.bind_some]
def wd4 (a b c d:UInt8):UInt32:=(((shl32 (a.toUInt32) ((UInt64.ofNat 24).toNat)) ||| (shl32 (b.toUInt32) ((UInt64.ofNat 16).toNat))) ||| (shl32 (c.toUInt32) ((UInt64.ofNat 8).toNat))) ||| (d.toUInt32)
def sch4 (a b c d:UInt32):UInt32:=((((rr a 17 ^^^ rr a 19) ^^^ (shr32 a ((UInt64.ofNat 10).toNat))) + b) + ((rr c 7 ^^^ rr c 18) ^^^ (shr32 c ((UInt64.ofNat 3).toNat)))) + d
theorem s91_lo (F:Nat) {p:List UInt8} (hp:p.length=64) {i:Nat} (hi:i < 16) (w:Vector UInt32 64) :
  L200x1_4 F p ((i:Nat):Int) w=some (.inl (((i + 1:Nat):Int),w.setIfInBounds i (wd4 p[4 * i] p[4 * i + 1] p[4 * i + 2] p[4 * i + 3]))):=by
 have h1:(((i:Nat):Int) < 64):=by omega
 have h2:(((i:Nat):Int) < 16):=by omega
 have e1:w64 ((4:Int) * ((i:Nat):Int))=((4 * i:Nat):Int):=by rw [w64_in (by omega) (by omega)];omega
 have e2:w64 (((4 * i:Nat):Int) + 4)=((4 * i + 4:Nat):Int):=by rw [w64_in (by omega) (by omega)];omega
 have e3:w64 (((i:Nat):Int) + 1)=((i + 1:Nat):Int):=by rw [w64_in (by omega) (by omega)];omega
 have g:gsl p ((4 * i:Nat):Int) ((4 * i + 4:Nat):Int)=some ((p.drop (4 * i)).take 4):=by
  rw [gsl_nat (by omega) (by omega),Nat.add_sub_cancel_left]
 have x0:ix ((p.drop (4 * i)).take 4) (0:Int)=some p[4 * i]:=ix_dt (k:=0) (by omega) (by omega)
 have x1:ix ((p.drop (4 * i)).take 4) (1:Int)=some p[4 * i + 1]:=ix_dt (k:=1) (by omega) (by omega)
 have x2:ix ((p.drop (4 * i)).take 4) (2:Int)=some p[4 * i + 2]:=ix_dt (k:=2) (by omega) (by omega)
 have x3:ix ((p.drop (4 * i)).take 4) (3:Int)=some p[4 * i + 3]:=ix_dt (k:=3) (by omega) (by omega)
 have n:inb 64 ((i:Nat):Int)=some i:=inb_nat (by omega)
 simp only [L200x1_4,L200x1_4c,h1,h2,decide_true,cond_true,e1,e2,e3,g,x0,x1,x2,x3,n,Option.bind_some,wd4]
theorem s85_lo (F:Nat) {p:List UInt8} (hp:p.length=64) {i:Nat} (hi:i < 16) (w:Vector UInt32 64) :
  L146_5 F p ((i:Nat):Int) w=some (.inl (((i + 1:Nat):Int),w.setIfInBounds i (wd4 p[4 * i] p[4 * i + 1] p[4 * i + 2] p[4 * i + 3]))):=by
 have h2:(((i:Nat):Int) < 16):=by omega
 have e1:w64 ((4:Int) * ((i:Nat):Int))=((4 * i:Nat):Int):=by rw [w64_in (by omega) (by omega)];omega
 have f1:w64 (((4 * i:Nat):Int) + 1)=((4 * i + 1:Nat):Int):=by rw [w64_in (by omega) (by omega)];omega
 have f2:w64 (((4 * i:Nat):Int) + 2)=((4 * i + 2:Nat):Int):=by rw [w64_in (by omega) (by omega)];omega
 have f3:w64 (((4 * i:Nat):Int) + 3)=((4 * i + 3:Nat):Int):=by rw [w64_in (by omega) (by omega)];omega
 have e3:w64 (((i:Nat):Int) + 1)=((i + 1:Nat):Int):=by rw [w64_in (by omega) (by omega)];omega
 have x0:ix p ((4 * i:Nat):Int)=some p[4 * i]:=ix_nat (by omega)
 have x1:ix p ((4 * i + 1:Nat):Int)=some p[4 * i + 1]:=ix_nat (by omega)
 have x2:ix p ((4 * i + 2:Nat):Int)=some p[4 * i + 2]:=ix_nat (by omega)
 have x3:ix p ((4 * i + 3:Nat):Int)=some p[4 * i + 3]:=ix_nat (by omega)
 have n:inb 64 ((i:Nat):Int)=some i:=inb_nat (by omega)
 simp only [L146_5,L146_5c,h2,decide_true,cond_true,e1,e3,f1,f2,f3,x0,x1,x2,x3,n,Option.bind_some,wd4]
theorem s91_hi (F:Nat) (p:List UInt8) {i:Nat} (h16:16≤i) (hi:i < 64) (w:Vector UInt32 64) :
  L200x1_4 F p ((i:Nat):Int) w=some (.inl (((i + 1:Nat):Int),w.setIfInBounds i (sch4 w[i - 2] w[i - 7] w[i - 15] w[i - 16]))):=by
 have h1:(((i:Nat):Int) < 64):=by omega
 have h2:¬ (((i:Nat):Int) < 16):=by omega
 have e3:w64 (((i:Nat):Int) + 1)=((i + 1:Nat):Int):=by rw [w64_in (by omega) (by omega)];omega
 have f1:w64 (((i:Nat):Int) - 2)=((i - 2:Nat):Int):=by rw [w64_in (by omega) (by omega)];omega
 have f2:w64 (((i:Nat):Int) - 7)=((i - 7:Nat):Int):=by rw [w64_in (by omega) (by omega)];omega
 have f3:w64 (((i:Nat):Int) - 15)=((i - 15:Nat):Int):=by rw [w64_in (by omega) (by omega)];omega
 have f4:w64 (((i:Nat):Int) - 16)=((i - 16:Nat):Int):=by rw [w64_in (by omega) (by omega)];omega
 have n:inb 64 ((i:Nat):Int)=some i:=inb_nat (by omega)
 have n1:inb 64 ((i - 2:Nat):Int)=some (i - 2):=inb_nat (by omega)
 have n2:inb 64 ((i - 7:Nat):Int)=some (i - 7):=inb_nat (by omega)
 have n3:inb 64 ((i - 15:Nat):Int)=some (i - 15):=inb_nat (by omega)
 have n4:inb 64 ((i - 16:Nat):Int)=some (i - 16):=inb_nat (by omega)
 have v1:vat w (i - 2)=some w[i - 2]:=vat_nat (by omega)
 have v2:vat w (i - 7)=some w[i - 7]:=vat_nat (by omega)
 have v3:vat w (i - 15)=some w[i - 15]:=vat_nat (by omega)
 have v4:vat w (i - 16)=some w[i - 16]:=vat_nat (by omega)
 simp only [L200x1_4,L200x1_4c,h1,h2,decide_true,decide_false,cond_true,cond_false,e3,f1,f2,f3,f4,n,n1,n2,n3,n4,v1,v2,v3,v4,a94_17,a94_19,a94_7,a94_18,Option.bind_some,sch4]
theorem s85_hi (F:Nat) {i:Nat} (h16:16≤i) (hi:i < 64) (w:Vector UInt32 64) :
  L146_6 F ((i:Nat):Int) w=some (.inl (((i + 1:Nat):Int),w.setIfInBounds i (sch4 w[i - 2] w[i - 7] w[i - 15] w[i - 16]))):=by
 have h1:(((i:Nat):Int) < 64):=by omega
 have e3:w64 (((i:Nat):Int) + 1)=((i + 1:Nat):Int):=by rw [w64_in (by omega) (by omega)];omega
 have f1:w64 (((i:Nat):Int) - 2)=((i - 2:Nat):Int):=by rw [w64_in (by omega) (by omega)];omega
 have f2:w64 (((i:Nat):Int) - 7)=((i - 7:Nat):Int):=by rw [w64_in (by omega) (by omega)];omega
 have f3:w64 (((i:Nat):Int) - 15)=((i - 15:Nat):Int):=by rw [w64_in (by omega) (by omega)];omega
 have f4:w64 (((i:Nat):Int) - 16)=((i - 16:Nat):Int):=by rw [w64_in (by omega) (by omega)];omega
 have n:inb 64 ((i:Nat):Int)=some i:=inb_nat (by omega)
 have n1:inb 64 ((i - 2:Nat):Int)=some (i - 2):=inb_nat (by omega)
 have n2:inb 64 ((i - 7:Nat):Int)=some (i - 7):=inb_nat (by omega)
 have n3:inb 64 ((i - 15:Nat):Int)=some (i - 15):=inb_nat (by omega)
 have n4:inb 64 ((i - 16:Nat):Int)=some (i - 16):=inb_nat (by omega)
 have v1:vat w (i - 2)=some w[i - 2]:=vat_nat (by omega)
 have v2:vat w (i - 7)=some w[i - 7]:=vat_nat (by omega)
 have v3:vat w (i - 15)=some w[i - 15]:=vat_nat (by omega)
 have v4:vat w (i - 16)=some w[i - 16]:=vat_nat (by omega)
 simp only [L146_6,L146_6c,h1,decide_true,cond_true,e3,f1,f2,f3,f4,n,n1,n2,n3,n4,v1,v2,v3,v4,a93_17,a93_19,a93_7,a93_18,Option.bind_some,sch4]
theorem sched {F:Nat} (hF:100 < F) {p:List UInt8} (hp:p.length=64):∃ w w0,iter (fun s:Int×Vector UInt32 64=>L200x1_4 F p s.1 s.2) F ((0:Int),(Vector.replicate 64 (0:UInt32)))=some w ∧
  iter (fun s:Int×Vector UInt32 64=>L146_5 F p s.1 s.2) F ((0:Int),(Vector.replicate 64 (0:UInt32)))=some w0∧iter (fun s:Int×Vector UInt32 64=>L146_6 F s.1 s.2) F ((16:Int),w0)=some w:=by
 obtain ⟨k,s',w0,a1,a2,a3,a4⟩:=iterP (f:=fun s:Int×Vector UInt32 64=>L200x1_4 F p s.1 s.2) (g:=fun s:Int×Vector UInt32 64=>L146_5 F p s.1 s.2)
  (fun s t=>s=t∧∃ i:Nat,s.1=i∧i≤16) (fun s r=>s=((16:Int),r)) (fun s=>16 - s.1.toNat) (by
   rintro ⟨a,w⟩ t ⟨rfl,i,hi,h16⟩
   simp only at hi
   subst hi
   by_cases h:i < 16
   ·exact .inl ⟨_,_,s91_lo F hp h w,s85_lo F hp h w,⟨rfl,i + 1,rfl,by omega⟩,by simp only [Int.toNat_natCast];omega⟩
   ·obtain rfl:i=16:=by omega
    exact .inr ⟨w,rfl,rfl⟩) F ((0:Int),(Vector.replicate 64 (0:UInt32))) ((0:Int),(Vector.replicate 64 (0:UInt32))) ⟨rfl,0,rfl,by omega⟩ (by simp only [Int.toNat_zero];omega)
 simp only [Int.toNat_zero,Nat.sub_zero] at a1
 subst a3
 obtain ⟨w,w',b1,b2,b3⟩:=iter2 (f:=fun s:Int×Vector UInt32 64=>L200x1_4 F p s.1 s.2) (g:=fun s:Int×Vector UInt32 64=>L146_6 F s.1 s.2)
  (fun s t=>s=t∧∃ i:Nat,s.1=i∧16≤i∧i≤64) (fun r r'=>r=r') (fun s=>64 - s.1.toNat) (by
   rintro ⟨a,w⟩ t ⟨rfl,i,hi,h16,h64⟩
   simp only at hi
   subst hi
   by_cases h:i < 64
   ·exact .inl ⟨_,_,s91_hi F p h16 h w,s85_hi F h16 h w,⟨rfl,i + 1,rfl,by omega,by omega⟩,by simp only [Int.toNat_natCast];omega⟩
   ·obtain rfl:i=64:=by omega
    exact .inr ⟨w,w,rfl,rfl,rfl⟩) (F - k) F ((16:Int),w0) ((16:Int),w0) ⟨rfl,16,rfl,by omega,by omega⟩ (by have:((16:Int)).toNat=16:=rfl;simp only [this];omega) (by have:((16:Int)).toNat=16:=rfl;simp only [this];omega)
 subst b3
 refine ⟨w,w0,?_,a2,b2⟩
 have:=a4 (F - k)
 rw [Nat.sub_add_cancel (by omega)] at this
 rw [this,b1]
theorem s91v_lo (F:Nat) (v:Vector UInt8 64) {i:Nat} (hi:i < 16) (w:Vector UInt32 64) :
  L200_4 F v (0,64) ((i:Nat):Int) w=some (.inl ((0,64),((i + 1:Nat):Int),w.setIfInBounds i (wd4 v[4 * i] v[4 * i + 1] v[4 * i + 2] v[4 * i + 3]))):=by
 have h1:(((i:Nat):Int) < 64):=by omega
 have h2:(((i:Nat):Int) < 16):=by omega
 have e1:w64 ((4:Int) * ((i:Nat):Int))=((4 * i:Nat):Int):=by rw [w64_in (by omega) (by omega)];omega
 have e2:w64 (((4 * i:Nat):Int) + 4)=((4 * i + 4:Nat):Int):=by rw [w64_in (by omega) (by omega)];omega
 have e3:w64 (((i:Nat):Int) + 1)=((i + 1:Nat):Int):=by rw [w64_in (by omega) (by omega)];omega
 have g:gslb 64 ((4 * i:Nat):Int) ((4 * i + 4:Nat):Int)=some (4 * i,4 * i + 4):=gslb_nat (by omega) (by omega)
 have m0:inb 4 (0:Int)=some 0:=by decide
 have m1:inb 4 (1:Int)=some 1:=by decide
 have m2:inb 4 (2:Int)=some 2:=by decide
 have m3:inb 4 (3:Int)=some 3:=by decide
 have x0:vat v (4 * i)=some v[4 * i]:=vat_nat (by omega)
 have x1:vat v (4 * i + 1)=some v[4 * i + 1]:=vat_nat (by omega)
 have x2:vat v (4 * i + 2)=some v[4 * i + 2]:=vat_nat (by omega)
 have x3:vat v (4 * i + 3)=some v[4 * i + 3]:=vat_nat (by omega)
 have n:inb 64 ((i:Nat):Int)=some i:=inb_nat (by omega)
 simp only [L200_4,L200_4c,h1,h2,decide_true,cond_true,e1,e2,e3,Nat.sub_zero,Nat.zero_add,g,Nat.add_sub_cancel_left,m0,m1,m2,m3,Nat.add_zero,x0,x1,x2,x3,n,Option.bind_some,wd4]
theorem s91v_hi (F:Nat) (v:Vector UInt8 64) {i:Nat} (h16:16≤i) (hi:i < 64) (w:Vector UInt32 64) :
  L200_4 F v (0,64) ((i:Nat):Int) w=some (.inl ((0,64),((i + 1:Nat):Int),w.setIfInBounds i (sch4 w[i - 2] w[i - 7] w[i - 15] w[i - 16]))):=by
 have h1:(((i:Nat):Int) < 64):=by omega
 have h2:¬ (((i:Nat):Int) < 16):=by omega
 have e3:w64 (((i:Nat):Int) + 1)=((i + 1:Nat):Int):=by rw [w64_in (by omega) (by omega)];omega
 have f1:w64 (((i:Nat):Int) - 2)=((i - 2:Nat):Int):=by rw [w64_in (by omega) (by omega)];omega
 have f2:w64 (((i:Nat):Int) - 7)=((i - 7:Nat):Int):=by rw [w64_in (by omega) (by omega)];omega
 have f3:w64 (((i:Nat):Int) - 15)=((i - 15:Nat):Int):=by rw [w64_in (by omega) (by omega)];omega
 have f4:w64 (((i:Nat):Int) - 16)=((i - 16:Nat):Int):=by rw [w64_in (by omega) (by omega)];omega
 have n:inb 64 ((i:Nat):Int)=some i:=inb_nat (by omega)
 have n1:inb 64 ((i - 2:Nat):Int)=some (i - 2):=inb_nat (by omega)
 have n2:inb 64 ((i - 7:Nat):Int)=some (i - 7):=inb_nat (by omega)
 have n3:inb 64 ((i - 15:Nat):Int)=some (i - 15):=inb_nat (by omega)
 have n4:inb 64 ((i - 16:Nat):Int)=some (i - 16):=inb_nat (by omega)
 have v1:vat w (i - 2)=some w[i - 2]:=vat_nat (by omega)
 have v2:vat w (i - 7)=some w[i - 7]:=vat_nat (by omega)
 have v3:vat w (i - 15)=some w[i - 15]:=vat_nat (by omega)
 have v4:vat w (i - 16)=some w[i - 16]:=vat_nat (by omega)
 simp only [L200_4,L200_4c,h1,h2,decide_true,decide_false,cond_true,cond_false,e3,f1,f2,f3,f4,n,n1,n2,n3,n4,v1,v2,v3,v4,a94_17,a94_19,a94_7,a94_18,Option.bind_some,sch4]
theorem schedv {F:Nat} (hF:100 < F) (v:Vector UInt8 64):∃ w,iter (fun s:(Nat×Nat)×Int×Vector UInt32 64=>L200_4 F v s.1 s.2.1 s.2.2) F ((0,64),(0:Int),(Vector.replicate 64 (0:UInt32)))=some w ∧
  iter (fun s:Int×Vector UInt32 64=>L200x1_4 F v.toList s.1 s.2) F ((0:Int),(Vector.replicate 64 (0:UInt32)))=some w:=by
 have hl:v.toList.length=64:=by simp
 obtain ⟨w,w',b1,b2,b3⟩:=iter2 (f:=fun s:(Nat×Nat)×Int×Vector UInt32 64=>L200_4 F v s.1 s.2.1 s.2.2) (g:=fun s:Int×Vector UInt32 64=>L200x1_4 F v.toList s.1 s.2)
  (fun s t=>s=((0,64),t.1,t.2)∧∃ i:Nat,t.1=i∧i≤64) (fun r r'=>r=r') (fun s=>64 - s.2.1.toNat) (by
   rintro s ⟨a,w⟩ ⟨rfl,i,hi,h64⟩
   simp only at hi
   subst hi
   by_cases h:i < 64
   ·by_cases h16:i < 16
    ·have g:=s91_lo F hl h16 w
     simp only [Vector.getElem_toList] at g
     exact .inl ⟨_,_,s91v_lo F v h16 w,g,⟨rfl,i + 1,rfl,by omega⟩,by simp only [Int.toNat_natCast];omega⟩
    ·exact .inl ⟨_,_,s91v_hi F v (by omega) h w,s91_hi F v.toList (by omega) h w,⟨rfl,i + 1,rfl,by omega⟩,by simp only [Int.toNat_natCast];omega⟩
   ·obtain rfl:i=64:=by omega
    exact .inr ⟨w,w,rfl,rfl,rfl⟩) F F ((0,64),(0:Int),(Vector.replicate 64 (0:UInt32))) ((0:Int),(Vector.replicate 64 (0:UInt32))) ⟨rfl,0,rfl,by omega⟩ (by simp only [Int.toNat_zero];omega) (by simp only [Int.toNat_zero];omega)
 subst b3
 exact ⟨w,b1,b2⟩
def t1 (e f g h k w:UInt32):UInt32:=(((h + ((rr e 6 ^^^ rr e 11) ^^^ rr e 25)) + ((e &&& f) ^^^ ((~~~e) &&& g))) + k) + w
def t2 (a b c:UInt32):UInt32:=((rr a 2 ^^^ rr a 13) ^^^ rr a 22) + (((a &&& b) ^^^ (a &&& c)) ^^^ (b &&& c))
theorem r91 (F:Nat) (w:Vector UInt32 64) (a b c d e f g h:UInt32) {i:Nat} (hi:i < 64) :
  L200x1_5 F w a b c d e f g h ((i:Nat):Int)=some (.inl (t1 e f g h gv2[i] w[i] + t2 a b c,a,b,c,d + t1 e f g h gv2[i] w[i],e,f,g,((i + 1:Nat):Int))):=by
 have h1:(((i:Nat):Int) < 64):=by omega
 have e3:w64 (((i:Nat):Int) + 1)=((i + 1:Nat):Int):=by rw [w64_in (by omega) (by omega)];omega
 have n:inb 64 ((i:Nat):Int)=some i:=inb_nat (by omega)
 have v:vat w i=some w[i]:=vat_nat hi
 have x:vix gv2 ((i:Nat):Int)=some gv2[i]:=vix_nat hi
 simp only [L200x1_5,L200x1_5c,h1,decide_true,cond_true,a94_6,a94_11,a94_25,a94_2,a94_13,a94_22,Option.bind_some,x,n,v,e3,t1,t2]
theorem r85 (F:Nat) (w:Vector UInt32 64) (a b c d e f g h:UInt32) {i:Nat} (hi:i < 64) :
  L146_7 F gv2 w ((i:Nat):Int) #v[a,b,c,d,e,f,g,h]=some (.inl (((i + 1:Nat):Int),#v[t1 e f g h gv2[i] w[i] + t2 a b c,a,b,c,d + t1 e f g h gv2[i] w[i],e,f,g])):=by
 have h1:(((i:Nat):Int) < 64):=by omega
 have e3:w64 (((i:Nat):Int) + 1)=((i + 1:Nat):Int):=by rw [w64_in (by omega) (by omega)];omega
 have n:inb 64 ((i:Nat):Int)=some i:=inb_nat (by omega)
 have v:vat w i=some w[i]:=vat_nat hi
 have x:vat gv2 i=some gv2[i]:=vat_nat hi
 have y0:vat #v[a,b,c,d,e,f,g,h] 0=some a:=rfl
 have y1:vat #v[a,b,c,d,e,f,g,h] 1=some b:=rfl
 have y2:vat #v[a,b,c,d,e,f,g,h] 2=some c:=rfl
 have y3:vat #v[a,b,c,d,e,f,g,h] 3=some d:=rfl
 have y4:vat #v[a,b,c,d,e,f,g,h] 4=some e:=rfl
 have y5:vat #v[a,b,c,d,e,f,g,h] 5=some f:=rfl
 have y6:vat #v[a,b,c,d,e,f,g,h] 6=some g:=rfl
 have y7:vat #v[a,b,c,d,e,f,g,h] 7=some h:=rfl
 simp only [L146_7,L146_7c,h1,decide_true,cond_true,y0,y1,y2,y3,y4,y5,y6,y7,a93_6,a93_11,a93_25,a93_2,a93_13,a93_22,Option.bind_some,x,n,v,e3,t1,t2]
abbrev O8:=UInt32×UInt32×UInt32×UInt32×UInt32×UInt32×UInt32×UInt32
abbrev O9:=UInt32×UInt32×UInt32×UInt32×UInt32×UInt32×UInt32×UInt32×Int
def v8 (z:O8):Vector UInt32 8:=#v[z.1,z.2.1,z.2.2.1,z.2.2.2.1,z.2.2.2.2.1,z.2.2.2.2.2.1,z.2.2.2.2.2.2.1,z.2.2.2.2.2.2.2]
theorem rounds {F:Nat} (hF:100 < F) (w:Vector UInt32 64) (z:O8):∃ z':O8,
  iter (fun s:O9=>L200x1_5 F w s.1 s.2.1 s.2.2.1 s.2.2.2.1 s.2.2.2.2.1 s.2.2.2.2.2.1 s.2.2.2.2.2.2.1 s.2.2.2.2.2.2.2.1 s.2.2.2.2.2.2.2.2) F (z.1,z.2.1,z.2.2.1,z.2.2.2.1,z.2.2.2.2.1,z.2.2.2.2.2.1,z.2.2.2.2.2.2.1,z.2.2.2.2.2.2.2,(0:Int))=some z' ∧
  iter (fun s:Int×Vector UInt32 8=>L146_7 F gv2 w s.1 s.2) F ((0:Int),v8 z)=some (v8 z'):=by
 obtain ⟨r,r',b1,b2,b3⟩:=iter2 (f:=fun s:O9=>L200x1_5 F w s.1 s.2.1 s.2.2.1 s.2.2.2.1 s.2.2.2.2.1 s.2.2.2.2.2.1 s.2.2.2.2.2.2.1 s.2.2.2.2.2.2.2.1 s.2.2.2.2.2.2.2.2) (g:=fun s:Int×Vector UInt32 8=>L146_7 F gv2 w s.1 s.2)
  (fun s t=>t=(s.2.2.2.2.2.2.2.2,#v[s.1,s.2.1,s.2.2.1,s.2.2.2.1,s.2.2.2.2.1,s.2.2.2.2.2.1,s.2.2.2.2.2.2.1,s.2.2.2.2.2.2.2.1])∧∃ i:Nat,s.2.2.2.2.2.2.2.2=i∧i≤64) (fun r r'=>r'=v8 r) (fun s=>64 - s.2.2.2.2.2.2.2.2.toNat) (by
   rintro ⟨a,b,c,d,e,f,g,h,j⟩ t ⟨rfl,i,hi,h64⟩
   simp only at hi
   subst hi
   by_cases hi:i < 64
   ·exact .inl ⟨_,_,r91 F w a b c d e f g h hi,r85 F w a b c d e f g h hi,⟨rfl,i + 1,rfl,by omega⟩,by simp only [Int.toNat_natCast];omega⟩
   ·obtain rfl:i=64:=by omega
    exact .inr ⟨_,_,rfl,rfl,rfl⟩) F F (z.1,z.2.1,z.2.2.1,z.2.2.2.1,z.2.2.2.2.1,z.2.2.2.2.2.1,z.2.2.2.2.2.2.1,z.2.2.2.2.2.2.2,(0:Int)) ((0:Int),v8 z) ⟨rfl,0,rfl,by omega⟩ (by simp only [Int.toNat_zero];omega) (by simp only [Int.toNat_zero];omega)
 subst b3
 exact ⟨r,b1,b2⟩
theorem last {F:Nat} (hF:100 < F) (x p:Vector UInt32 8):∃ r,iter (fun s:Int×Vector UInt32 8=>L200x1_6 F x p s.1 s.2) F ((0:Int),p)=some r∧iter (fun s:Int×Vector UInt32 8=>L146_8 F p s.1 s.2) F ((0:Int),x)=some r:=by
 obtain ⟨r,r',b1,b2,b3⟩:=iter2 (f:=fun s:Int×Vector UInt32 8=>L200x1_6 F x p s.1 s.2) (g:=fun s:Int×Vector UInt32 8=>L146_8 F p s.1 s.2)
  (fun s t=>s.1=t.1∧∃ i:Nat,s.1=i∧i≤8∧(∀ j (hj:j < 8),j < i->s.2[j]=t.2[j])∧∀ j (hj:j < 8),i≤j->t.2[j]=x[j]) (fun r r'=>r=r') (fun s=>8 - s.1.toNat) (by
   rintro ⟨a,u⟩ ⟨a',v⟩ ⟨rfl,i,hi,h8,hu,hv⟩
   simp only at hi hu hv
   subst hi
   by_cases h:i < 8
   ·have h1:(((i:Nat):Int) < 8):=by omega
    have e3:w64 (((i:Nat):Int) + 1)=((i + 1:Nat):Int):=by rw [w64_in (by omega) (by omega)];omega
    have n:inb 8 ((i:Nat):Int)=some i:=inb_nat h
    have s1:L200x1_6 F x p ((i:Nat):Int) u=some (.inl (((i + 1:Nat):Int),u.setIfInBounds i (p[i] + x[i]))):=by
     simp only [L200x1_6,L200x1_6c,h1,decide_true,cond_true,vix_nat h,n,vat_nat (v:=p) h,Option.bind_some,e3]
    have s2:L146_8 F p ((i:Nat):Int) v=some (.inl (((i + 1:Nat):Int),v.setIfInBounds i (v[i] + p[i]))):=by
     simp only [L146_8,L146_8c,h1,decide_true,cond_true,n,vat_nat (v:=p) h,vat_nat (v:=v) h,Option.bind_some,e3]
    refine .inl ⟨_,_,s1,s2,⟨rfl,i + 1,rfl,by omega,fun j hj hji=>?_,fun j hj hij=>?_⟩,by simp only [Int.toNat_natCast];omega⟩
    ·simp only [Vector.getElem_setIfInBounds]
     by_cases e:i=j
     ·subst e
      simp only [if_true]
      rw [hv i hj (Nat.le_refl _),UInt32.add_comm]
     ·rw [if_neg e,if_neg e]
      exact hu j hj (by omega)
    ·simp only [Vector.getElem_setIfInBounds]
     rw [if_neg (by omega)]
     exact hv j hj (by omega)
   ·obtain rfl:i=8:=by omega
    exact .inr ⟨u,v,rfl,rfl,Vector.ext fun j hj=>hu j hj hj⟩) F F ((0:Int),p) ((0:Int),x) ⟨rfl,0,rfl,by omega,fun j hj h0=>absurd h0 (by omega),fun j hj _=>rfl⟩ (by simp only [Int.toNat_zero];omega) (by simp only [Int.toNat_zero];omega)
 subst b3
 exact ⟨r,b1,b2⟩
theorem vec8 (v:Vector UInt32 8):v8 (v[0],v[1],v[2],v[3],v[4],v[5],v[6],v[7])=v:=by
 apply Vector.ext
 intro i hi
 match i,hi with
 | 0,_=>rfl
 | 1,_=>rfl
 | 2,_=>rfl
 | 3,_=>rfl
 | 4,_=>rfl
 | 5,_=>rfl
 | 6,_=>rfl
 | 7,_=>rfl
theorem k92 (F:Nat):T180 F=some gv2:=rfl
theorem t91 {F:Nat} (hF:100 < F) {p:List UInt8} (hp:p.length=64) (h:Vector UInt32 8):∃ r,T200x1 F p h=some r∧T146 F h p=some r:=by
 obtain ⟨w,w0,a1,a2,a3⟩:=sched hF hp
 obtain ⟨z,b1,b2⟩:=rounds hF w (h[0],h[1],h[2],h[3],h[4],h[5],h[6],h[7])
 rw [vec8] at b2
 obtain ⟨r,c1,c2⟩:=last hF (v8 z) h
 refine ⟨r,?_,?_⟩
 ·simp only [T200x1,T200x1c,a1,Option.bind_some,vat_nat (v:=h) (show 0 < 8 by omega),vat_nat (v:=h) (show 1 < 8 by omega),vat_nat (v:=h) (show 2 < 8 by omega),vat_nat (v:=h) (show 3 < 8 by omega),vat_nat (v:=h) (show 4 < 8 by omega),vat_nat (v:=h) (show 5 < 8 by omega),vat_nat (v:=h) (show 6 < 8 by omega),vat_nat (v:=h) (show 7 < 8 by omega)]
  simp only [b1,Option.bind_some]
  exact (congrArg (fun o=>Option.bind o fun z=>some z) c1)
 ·simp only [T146,T146c,k92,Option.bind_some,a2,a3,b2,c2]
theorem t91v {F:Nat} (hF:100 < F) (v:Vector UInt8 64) (h:Vector UInt32 8):T200 F (0,64) h v=T200x1 F v.toList h:=by
 obtain ⟨w,a1,a2⟩:=schedv hF v
 simp only [T200,T200c,T200x1,T200x1c,a1,a2,Option.bind_some]
 rfl
theorem x82_eq (F:Nat):T176x1 F=T176 F:=rfl
end Go.Proofs.YthikoaamigiceaaGreatDoor
