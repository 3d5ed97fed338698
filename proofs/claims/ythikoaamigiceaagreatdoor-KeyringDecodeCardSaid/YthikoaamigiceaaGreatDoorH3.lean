/- The functions, each with its twin, and plain facts about them. -/
import Derived.Test.YthikoaamigiceaaGreatDoorH2
namespace Go.Proofs.YthikoaamigiceaaGreatDoor
open Go.Tw
set_option linter.unusedSimpArgs false
set_option linter.unusedVariables false
def ord166:Nat->List (Tag×Nat)
 | _=>[]
def al166:Nat->Option Nat
 | _=>none
def ms166:Nat->Option (List (Option Tag×Nat×List Nat))
 | _=>none
def E166 (F:Nat):Ev:=⟨cfg,14,ctOf [],ord166,ctOf [],al166,ms166⟩
theorem cts166 (F:Nat):CtsOk Tryz.prog (E166 F):=cts_of (l:=[]) (l':=[]) rfl rfl trivial trivial
def T166c (F:Nat) (p0:UInt64) {β:Type} (k:Int->Option β):Option β:=
 (bif ((p0 % (UInt64.ofNat 2)) == (UInt64.ofNat 0)) then (k (w64 ((p0 / (UInt64.ofNat 2)).toNat:Int))) else (k (w64 ((w64 (0 - (w64 ((p0 / (UInt64.ofNat 2)).toNat:Int)))) - (1:Int)))))
def T166 (F:Nat) (p0:UInt64):Option (Int):=T166c F p0 some
theorem T166n (F:Nat) (p0:UInt64) {β:Type} (k:Int->Option β):T166c F p0 k=(T166 F p0).bind k:=by
 simp only [T166,T166c,Option.bind_assoc,cond_bind,Option.bind_some,Option.bind_none,elimS_bind]
abbrev cA166:List Sh:=[.u64]
abbrev cB166:List Sh:=[.i]
abbrev cT166:List TSh:=[]
abbrev cU166:List TSh:=[]
def ct166 (F:Nat):Ct:=mkC 0 cA166 cT166 cB166 cU166 (fun x y=>T166 F x.1) (fun x y (z:Int)=>((z,()),()))
theorem eq166 (F:Nat) (x:dens cA166) (y:tdens cT166):sev (E166 F) 0 [] (bodyOf Tryz.f166) [] (mkSt (rng 1) cA166 cT166 x y) (kFn (E166 F) 0 Tryz.f166.results.toList cB166 cU166 fun p q=>some (p,q)) =
  T166c F x.1 (fun z=>some ((z,()),())):=by kernel_rfl
theorem ok166 (F:Nat):Sound Tryz.prog cfg 166 (ct166 F):=
 mkC_ok (E:=E166 F) (lp:=[]) (code:=bodyOf Tryz.f166) Tryz.func166 rfl Tryz.ntmps166 rfl rfl cok (cts166 F) mixed trivial (by kernel_rfl) (fun x y k=>T166c F x.1 k) (fun x y k=>T166n F x.1 k) (eq166 F)
def ord131:Nat->List (Tag×Nat)
 | _=>[]
def al131:Nat->Option Nat
 | _=>none
def ms131:Nat->Option (List (Option Tag×Nat×List Nat))
 | _=>none
def E131 (F:Nat):Ev:=⟨cfg,123,ctOf [(165,ct165 F),(166,ct166 F)],ord131,ctOf [],al131,ms131⟩
theorem cts131 (F:Nat):CtsOk Tryz.prog (E131 F):=cts_of (l:=[(165,ct165 F),(166,ct166 F)]) (l':=[]) rfl rfl ⟨⟨ok165 F,_,Tryz.func165,rfl,rfl⟩,⟨⟨ok166 F,_,Tryz.func166,rfl,rfl⟩,trivial⟩⟩ trivial
def T131c (F:Nat) (p0:List UInt8) (p1:Int) (p2:Int) (p3:Int) {β:Type} (k:(UInt64×Int×Bool×(List UInt8)×Int×Int)->Option β):Option β:=
 (bif (p2 == (6:Int)) then (bif (decide ((w64 ((p0.length:Int) - p1)) < (32:Int))) then (k ((0:UInt64),(0:Int),false,([]:List UInt8),p1,(3:Int))) else (Option.bind (gsl p0 p1 (w64 (p1 + (32:Int)))) fun x7=>(k ((0:UInt64),(0:Int),false,x7,(w64 (p1 + (32:Int))),(0:Int))))) else (bif (p2 == (3:Int)) then (bif (decide ((p0.length:Int)≤p1)) then (k ((0:UInt64),(0:Int),false,([]:List UInt8),p1,(3:Int))) else (Option.bind (ix p0 p1) fun x8=>(bif (decide ((UInt8.ofNat 1) < x8)) then (k ((0:UInt64),(0:Int),false,([]:List UInt8),p1,(3:Int))) else (Option.bind (ix p0 p1) fun x9=>(k ((0:UInt64),(0:Int),(x9 == (UInt8.ofNat 1)),([]:List UInt8),(w64 (p1 + (1:Int))),(0:Int))))))) else (Option.bind (T165 F p0 p1) fun z10=>(bif (!z10.2.2) then (k ((0:UInt64),(0:Int),false,([]:List UInt8),p1,(3:Int))) else (bif (p2 == (1:Int)) then (k (z10.1,(0:Int),false,([]:List UInt8),z10.2.1,(0:Int))) else (bif (p2 == (2:Int)) then (Option.bind (T166 F z10.1) fun z11=>(k ((0:UInt64),z11,false,([]:List UInt8),z10.2.1,(0:Int)))) else (bif (decide ((UInt64.ofInt (if p3 < (0:Int) then (0:Int) else p3)) < z10.1)) then (k ((0:UInt64),(0:Int),false,([]:List UInt8),p1,(2:Int))) else (bif (p2 == (7:Int)) then (k ((0:UInt64),(w64 (z10.1.toNat:Int)),false,([]:List UInt8),z10.2.1,(0:Int))) else (bif (decide ((UInt64.ofInt (w64 ((p0.length:Int) - z10.2.1))) < z10.1)) then (k ((0:UInt64),(0:Int),false,([]:List UInt8),p1,(3:Int))) else (Option.bind (gsl p0 z10.2.1 (w64 (z10.2.1 + (w64 (z10.1.toNat:Int))))) fun x12=>(k ((0:UInt64),(0:Int),false,x12,(w64 (z10.2.1 + (w64 (z10.1.toNat:Int)))),(0:Int)))))))))))))
def T131 (F:Nat) (p0:List UInt8) (p1:Int) (p2:Int) (p3:Int):Option (UInt64×Int×Bool×(List UInt8)×Int×Int):=T131c F p0 p1 p2 p3 some
theorem T131n (F:Nat) (p0:List UInt8) (p1:Int) (p2:Int) (p3:Int) {β:Type} (k:(UInt64×Int×Bool×(List UInt8)×Int×Int)->Option β):T131c F p0 p1 p2 p3 k=(T131 F p0 p1 p2 p3).bind k:=by
 simp only [T131,T131c,Option.bind_assoc,cond_bind,Option.bind_some,Option.bind_none,elimS_bind]
abbrev cA131:List Sh:=[(.ro .u8),.i,.i,.i]
abbrev cB131:List Sh:=[(.pr .i (.pr .u64 (.pr .i (.pr .bo (.pr .str (.pr .i .un)))))),.i,.i]
abbrev cT131:List TSh:=[]
abbrev cU131:List TSh:=[]
def ct131 (F:Nat):Ct:=mkC 0 cA131 cT131 cB131 cU131 (fun x y=>T131 F x.1 x.2.1 x.2.2.1 x.2.2.2.1) (fun x y (z:UInt64×Int×Bool×(List UInt8)×Int×Int)=>(((x.2.2.1,z.1,z.2.1,z.2.2.1,z.2.2.2.1,x.2.2.2.1,()),z.2.2.2.2.1,z.2.2.2.2.2,()),()))
theorem eq131 (F:Nat) (x:dens cA131) (y:tdens cT131):sev (E131 F) 0 [] (bodyOf Tryz.f131) [] (mkSt (rng 4) cA131 cT131 x y) (kFn (E131 F) 0 Tryz.f131.results.toList cB131 cU131 fun p q=>some (p,q)) =
  T131c F x.1 x.2.1 x.2.2.1 x.2.2.2.1 (fun z=>some (((x.2.2.1,z.1,z.2.1,z.2.2.1,z.2.2.2.1,x.2.2.2.1,()),z.2.2.2.2.1,z.2.2.2.2.2,()),())):=by kernel_rfl
theorem ok131 (F:Nat):Sound Tryz.prog cfg 131 (ct131 F):=
 mkC_ok (E:=E131 F) (lp:=[]) (code:=bodyOf Tryz.f131) Tryz.func131 rfl Tryz.ntmps131 rfl rfl cok (cts131 F) mixed trivial (by kernel_rfl) (fun x y k=>T131c F x.1 x.2.1 x.2.2.1 x.2.2.2.1 k) (fun x y k=>T131n F x.1 x.2.1 x.2.2.1 x.2.2.2.1 k) (eq131 F)
def ord85:Nat->List (Tag×Nat)
 | 7=>[(.p,0),(.p,1),(.p,2),(.c,3),(.p,4),(.p,5),(.p,6),(.c,7),(.p,8),(.p,9),(.w,10),(.p,11),(.p,12),(.p,13),(.p,14),(.w,15),(.b,16),(.p,17),(.p,18)]
 | _=>[]
def al85:Nat->Option Nat
 | 7=>some 15
 | _=>none
def ms85:Nat->Option (List (Option Tag×Nat×List Nat))
 | _=>none
def E85 (F:Nat):Ev:=⟨cfg,67,ctOf [(131,ct131 F)],ord85,ctOf [],al85,ms85⟩
theorem cts85 (F:Nat):CtsOk Tryz.prog (E85 F):=cts_of (l:=[(131,ct131 F)]) (l':=[]) rfl rfl ⟨⟨ok131 F,_,Tryz.func131,rfl,rfl⟩,trivial⟩ trivial
def T85c (F:Nat) (p0:Int) (p1:Int) (p2:List UInt8) (p3:Int) (p4:Int) (p5:Int) {β:Type} (k:(UInt64×Int×Bool×(List UInt8)×Int×Int×Int)->Option β):Option β:=
 (bif (p5 != (0:Int)) then (k ((0:UInt64),(0:Int),false,([]:List UInt8),p3,p4,p5)) else (bif (p0 == (0:Int)) then (k ((0:UInt64),(0:Int),false,([]:List UInt8),p4,p4,(3:Int))) else (Option.bind (T131 F p2 p3 p0 p1) fun z2=>(bif (z2.2.2.2.2.2 != (0:Int)) then (k ((0:UInt64),(0:Int),false,([]:List UInt8),p3,p4,z2.2.2.2.2.2)) else (k (z2.1,z2.2.1,z2.2.2.1,z2.2.2.2.1,z2.2.2.2.2.1,p3,p5))))))
def T85 (F:Nat) (p0:Int) (p1:Int) (p2:List UInt8) (p3:Int) (p4:Int) (p5:Int):Option (UInt64×Int×Bool×(List UInt8)×Int×Int×Int):=T85c F p0 p1 p2 p3 p4 p5 some
theorem T85n (F:Nat) (p0:Int) (p1:Int) (p2:List UInt8) (p3:Int) (p4:Int) (p5:Int) {β:Type} (k:(UInt64×Int×Bool×(List UInt8)×Int×Int×Int)->Option β):T85c F p0 p1 p2 p3 p4 p5 k=(T85 F p0 p1 p2 p3 p4 p5).bind k:=by
 simp only [T85,T85c,Option.bind_assoc,cond_bind,Option.bind_some,Option.bind_none,elimS_bind]
abbrev cA85:List Sh:=[(.pt 0 [0]),.i,.i]
abbrev cB85:List Sh:=[(.pr .i (.pr .u64 (.pr .i (.pr .bo (.pr .str (.pr .i .un))))))]
abbrev cT85:List TSh:=[.blk 132 (.pr (.pr (.ro .u8) (.pr .i (.pr .i (.pr .i .un)))) .un)]
abbrev cU85:List TSh:=[.blk 132 (.pr (.pr (.ro .u8) (.pr .i (.pr .i (.pr .i .un)))) .un)]
def ct85 (F:Nat):Ct:=mkC 1 cA85 cT85 cB85 cU85 (fun x y=>T85 F x.2.1 x.2.2.1 y.1.1.1 y.1.1.2.1 y.1.1.2.2.1 y.1.1.2.2.2.1) (fun x y (z:UInt64×Int×Bool×(List UInt8)×Int×Int×Int)=>(((x.2.1,z.1,z.2.1,z.2.2.1,z.2.2.2.1,x.2.2.1,()),()),(((y.1.1.1,z.2.2.2.2.1,z.2.2.2.2.2.1,z.2.2.2.2.2.2,()),()),())))
theorem eq85 (F:Nat) (x:dens cA85) (y:tdens cT85):sev (E85 F) 1 [] (bodyOf Tryz.f85) [] (mkSt (rng 3) cA85 cT85 x y) (kFn (E85 F) 1 Tryz.f85.results.toList cB85 cU85 fun p q=>some (p,q)) =
  T85c F x.2.1 x.2.2.1 y.1.1.1 y.1.1.2.1 y.1.1.2.2.1 y.1.1.2.2.2.1 (fun z=>some (((x.2.1,z.1,z.2.1,z.2.2.1,z.2.2.2.1,x.2.2.1,()),()),(((y.1.1.1,z.2.2.2.2.1,z.2.2.2.2.2.1,z.2.2.2.2.2.2,()),()),()))):=by kernel_rfl
theorem ok85 (F:Nat):Sound Tryz.prog cfg 85 (ct85 F):=
 mkC_ok (E:=E85 F) (lp:=[]) (code:=bodyOf Tryz.f85) Tryz.func85 rfl Tryz.ntmps85 rfl rfl cok (cts85 F) mixed trivial (by kernel_rfl) (fun x y k=>T85c F x.2.1 x.2.2.1 y.1.1.1 y.1.1.2.1 y.1.1.2.2.1 y.1.1.2.2.2.1 k) (fun x y k=>T85n F x.2.1 x.2.2.1 y.1.1.1 y.1.1.2.1 y.1.1.2.2.1 y.1.1.2.2.2.1 k) (eq85 F)
def ord82:Nat->List (Tag×Nat)
 | _=>[]
def al82:Nat->Option Nat
 | _=>none
def ms82:Nat->Option (List (Option Tag×Nat×List Nat))
 | _=>none
def E82 (F:Nat):Ev:=⟨cfg,8,ctOf [(85,ct85 F)],ord82,ctOf [],al82,ms82⟩
theorem cts82 (F:Nat):CtsOk Tryz.prog (E82 F):=cts_of (l:=[(85,ct85 F)]) (l':=[]) rfl rfl ⟨⟨ok85 F,_,Tryz.func85,rfl,rfl⟩,trivial⟩ trivial
def T82c (F:Nat) (p0:List UInt8) (p1:Int) (p2:Int) (p3:Int) {β:Type} (k:(Int×Int×Int×Int)->Option β):Option β:=
 (Option.bind (T85 F (2:Int) (0:Int) p0 p1 p2 p3) fun z2=>(k (z2.2.1,z2.2.2.2.2.1,z2.2.2.2.2.2.1,z2.2.2.2.2.2.2)))
def T82 (F:Nat) (p0:List UInt8) (p1:Int) (p2:Int) (p3:Int):Option (Int×Int×Int×Int):=T82c F p0 p1 p2 p3 some
theorem T82n (F:Nat) (p0:List UInt8) (p1:Int) (p2:Int) (p3:Int) {β:Type} (k:(Int×Int×Int×Int)->Option β):T82c F p0 p1 p2 p3 k=(T82 F p0 p1 p2 p3).bind k:=by
 simp only [T82,T82c,Option.bind_assoc,cond_bind,Option.bind_some,Option.bind_none,elimS_bind]
abbrev cA82:List Sh:=[(.pt 0 [])]
abbrev cB82:List Sh:=[.i]
abbrev cT82:List TSh:=[.blk 132 (.pr (.pr (.ro .u8) (.pr .i (.pr .i (.pr .i .un)))) .un)]
abbrev cU82:List TSh:=[.blk 132 (.pr (.pr (.ro .u8) (.pr .i (.pr .i (.pr .i .un)))) .un)]
def ct82 (F:Nat):Ct:=mkC 1 cA82 cT82 cB82 cU82 (fun x y=>T82 F y.1.1.1 y.1.1.2.1 y.1.1.2.2.1 y.1.1.2.2.2.1) (fun x y (z:Int×Int×Int×Int)=>((z.1,()),(((y.1.1.1,z.2.1,z.2.2.1,z.2.2.2,()),()),())))
theorem eq82 (F:Nat) (x:dens cA82) (y:tdens cT82):sev (E82 F) 1 [] (bodyOf Tryz.f82) [] (mkSt (rng 1) cA82 cT82 x y) (kFn (E82 F) 1 Tryz.f82.results.toList cB82 cU82 fun p q=>some (p,q)) =
  T82c F y.1.1.1 y.1.1.2.1 y.1.1.2.2.1 y.1.1.2.2.2.1 (fun z=>some ((z.1,()),(((y.1.1.1,z.2.1,z.2.2.1,z.2.2.2,()),()),()))):=by kernel_rfl
theorem ok82 (F:Nat):Sound Tryz.prog cfg 82 (ct82 F):=
 mkC_ok (E:=E82 F) (lp:=[]) (code:=bodyOf Tryz.f82) Tryz.func82 rfl Tryz.ntmps82 rfl rfl cok (cts82 F) mixed trivial (by kernel_rfl) (fun x y k=>T82c F y.1.1.1 y.1.1.2.1 y.1.1.2.2.1 y.1.1.2.2.2.1 k) (fun x y k=>T82n F y.1.1.1 y.1.1.2.1 y.1.1.2.2.1 y.1.1.2.2.2.1 k) (eq82 F)
def ord83:Nat->List (Tag×Nat)
 | _=>[]
def al83:Nat->Option Nat
 | _=>none
def ms83:Nat->Option (List (Option Tag×Nat×List Nat))
 | _=>none
def E83 (F:Nat):Ev:=⟨cfg,11,ctOf [(85,ct85 F)],ord83,ctOf [],al83,ms83⟩
theorem cts83 (F:Nat):CtsOk Tryz.prog (E83 F):=cts_of (l:=[(85,ct85 F)]) (l':=[]) rfl rfl ⟨⟨ok85 F,_,Tryz.func85,rfl,rfl⟩,trivial⟩ trivial
def T83c (F:Nat) (p0:Int) (p1:List UInt8) (p2:Int) (p3:Int) (p4:Int) {β:Type} (k:(Int×Int×Int×Int)->Option β):Option β:=
 (Option.bind (T85 F (7:Int) p0 p1 p2 p3 p4) fun z2=>(k (z2.2.1,z2.2.2.2.2.1,z2.2.2.2.2.2.1,z2.2.2.2.2.2.2)))
def T83 (F:Nat) (p0:Int) (p1:List UInt8) (p2:Int) (p3:Int) (p4:Int):Option (Int×Int×Int×Int):=T83c F p0 p1 p2 p3 p4 some
theorem T83n (F:Nat) (p0:Int) (p1:List UInt8) (p2:Int) (p3:Int) (p4:Int) {β:Type} (k:(Int×Int×Int×Int)->Option β):T83c F p0 p1 p2 p3 p4 k=(T83 F p0 p1 p2 p3 p4).bind k:=by
 simp only [T83,T83c,Option.bind_assoc,cond_bind,Option.bind_some,Option.bind_none,elimS_bind]
abbrev cA83:List Sh:=[(.pt 0 []),.i]
abbrev cB83:List Sh:=[.i]
abbrev cT83:List TSh:=[.blk 132 (.pr (.pr (.ro .u8) (.pr .i (.pr .i (.pr .i .un)))) .un)]
abbrev cU83:List TSh:=[.blk 132 (.pr (.pr (.ro .u8) (.pr .i (.pr .i (.pr .i .un)))) .un)]
def ct83 (F:Nat):Ct:=mkC 1 cA83 cT83 cB83 cU83 (fun x y=>T83 F x.2.1 y.1.1.1 y.1.1.2.1 y.1.1.2.2.1 y.1.1.2.2.2.1) (fun x y (z:Int×Int×Int×Int)=>((z.1,()),(((y.1.1.1,z.2.1,z.2.2.1,z.2.2.2,()),()),())))
theorem eq83 (F:Nat) (x:dens cA83) (y:tdens cT83):sev (E83 F) 1 [] (bodyOf Tryz.f83) [] (mkSt (rng 2) cA83 cT83 x y) (kFn (E83 F) 1 Tryz.f83.results.toList cB83 cU83 fun p q=>some (p,q)) =
  T83c F x.2.1 y.1.1.1 y.1.1.2.1 y.1.1.2.2.1 y.1.1.2.2.2.1 (fun z=>some ((z.1,()),(((y.1.1.1,z.2.1,z.2.2.1,z.2.2.2,()),()),()))):=by kernel_rfl
theorem ok83 (F:Nat):Sound Tryz.prog cfg 83 (ct83 F):=
 mkC_ok (E:=E83 F) (lp:=[]) (code:=bodyOf Tryz.f83) Tryz.func83 rfl Tryz.ntmps83 rfl rfl cok (cts83 F) mixed trivial (by kernel_rfl) (fun x y k=>T83c F x.2.1 y.1.1.1 y.1.1.2.1 y.1.1.2.2.1 y.1.1.2.2.2.1 k) (fun x y k=>T83n F x.2.1 y.1.1.1 y.1.1.2.1 y.1.1.2.2.1 y.1.1.2.2.2.1 k) (eq83 F)
def ord84:Nat->List (Tag×Nat)
 | _=>[]
def al84:Nat->Option Nat
 | _=>none
def ms84:Nat->Option (List (Option Tag×Nat×List Nat))
 | _=>none
def E84 (F:Nat):Ev:=⟨cfg,13,ctOf [(85,ct85 F),(82,ct82 F)],ord84,ctOf [],al84,ms84⟩
theorem cts84 (F:Nat):CtsOk Tryz.prog (E84 F):=cts_of (l:=[(85,ct85 F),(82,ct82 F)]) (l':=[]) rfl rfl ⟨⟨ok85 F,_,Tryz.func85,rfl,rfl⟩,⟨⟨ok82 F,_,Tryz.func82,rfl,rfl⟩,trivial⟩⟩ trivial
def T84c (F:Nat) (p0:List UInt8) (p1:Int) (p2:Int) (p3:Int) {β:Type} (k:((List UInt8)×Int×Int×Int×Int×Int)->Option β):Option β:=
 (Option.bind (T85 F (6:Int) (0:Int) p0 p1 p2 p3) fun z4=>(Option.bind (T82 F p0 z4.2.2.2.2.1 z4.2.2.2.2.2.1 z4.2.2.2.2.2.2) fun z5=>(Option.bind (T82 F p0 z5.2.1 z5.2.2.1 z5.2.2.2) fun z6=>(k (z4.2.2.2.1,z5.1,z6.1,z6.2.1,z6.2.2.1,z6.2.2.2)))))
def T84 (F:Nat) (p0:List UInt8) (p1:Int) (p2:Int) (p3:Int):Option ((List UInt8)×Int×Int×Int×Int×Int):=T84c F p0 p1 p2 p3 some
theorem T84n (F:Nat) (p0:List UInt8) (p1:Int) (p2:Int) (p3:Int) {β:Type} (k:((List UInt8)×Int×Int×Int×Int×Int)->Option β):T84c F p0 p1 p2 p3 k=(T84 F p0 p1 p2 p3).bind k:=by
 simp only [T84,T84c,Option.bind_assoc,cond_bind,Option.bind_some,Option.bind_none,elimS_bind]
abbrev cA84:List Sh:=[(.pt 0 [])]
abbrev cB84:List Sh:=[(.pr .str (.pr .i (.pr .i .un)))]
abbrev cT84:List TSh:=[.blk 132 (.pr (.pr (.ro .u8) (.pr .i (.pr .i (.pr .i .un)))) .un)]
abbrev cU84:List TSh:=[.blk 132 (.pr (.pr (.ro .u8) (.pr .i (.pr .i (.pr .i .un)))) .un)]
def ct84 (F:Nat):Ct:=mkC 1 cA84 cT84 cB84 cU84 (fun x y=>T84 F y.1.1.1 y.1.1.2.1 y.1.1.2.2.1 y.1.1.2.2.2.1) (fun x y (z:(List UInt8)×Int×Int×Int×Int×Int)=>(((z.1,z.2.1,z.2.2.1,()),()),(((y.1.1.1,z.2.2.2.1,z.2.2.2.2.1,z.2.2.2.2.2,()),()),())))
theorem eq84 (F:Nat) (x:dens cA84) (y:tdens cT84):sev (E84 F) 1 [] (bodyOf Tryz.f84) [] (mkSt (rng 1) cA84 cT84 x y) (kFn (E84 F) 1 Tryz.f84.results.toList cB84 cU84 fun p q=>some (p,q)) =
  T84c F y.1.1.1 y.1.1.2.1 y.1.1.2.2.1 y.1.1.2.2.2.1 (fun z=>some (((z.1,z.2.1,z.2.2.1,()),()),(((y.1.1.1,z.2.2.2.1,z.2.2.2.2.1,z.2.2.2.2.2,()),()),()))):=by kernel_rfl
theorem ok84 (F:Nat):Sound Tryz.prog cfg 84 (ct84 F):=
 mkC_ok (E:=E84 F) (lp:=[]) (code:=bodyOf Tryz.f84) Tryz.func84 rfl Tryz.ntmps84 rfl rfl cok (cts84 F) mixed trivial (by kernel_rfl) (fun x y k=>T84c F y.1.1.1 y.1.1.2.1 y.1.1.2.2.1 y.1.1.2.2.2.1 k) (fun x y k=>T84n F y.1.1.1 y.1.1.2.1 y.1.1.2.2.1 y.1.1.2.2.2.1 k) (eq84 F)
def ord86:Nat->List (Tag×Nat)
 | _=>[]
def al86:Nat->Option Nat
 | _=>none
def ms86:Nat->Option (List (Option Tag×Nat×List Nat))
 | _=>none
def E86 (F:Nat):Ev:=⟨cfg,21,ctOf [(83,ct83 F),(84,ct84 F)],ord86,ctOf [],al86,ms86⟩
theorem cts86 (F:Nat):CtsOk Tryz.prog (E86 F):=cts_of (l:=[(83,ct83 F),(84,ct84 F)]) (l':=[]) rfl rfl ⟨⟨ok83 F,_,Tryz.func83,rfl,rfl⟩,⟨⟨ok84 F,_,Tryz.func84,rfl,rfl⟩,trivial⟩⟩ trivial
def L86_2c (F:Nat) (y15:List UInt8) (y14:Int) (y16:Int) (y17:Int) (y18:Int) (y19:List ((List UInt8)×Int×Int×Unit)) {β:Type} (kA:(Int×Int×Int×Int×(List ((List UInt8)×Int×Int×Unit)))->Option β) (kO:(Int×Int×Int×(List ((List UInt8)×Int×Int×Unit)))->Option β):Option β:=
 (bif (decide ((0:Int) < y14)) then (Option.bind (T84 F y15 y16 y17 y18) fun z22=>(Option.bind (gapp y19 ([(z22.1,z22.2.1,z22.2.2.1,())]:List ((List UInt8)×Int×Int×Unit))) fun x23=>(kA ((w64 (y14 - (1:Int))),z22.2.2.2.1,z22.2.2.2.2.1,z22.2.2.2.2.2,x23)))) else (kO (y16,y17,y18,y19)))
def L86_2 (F:Nat) (y15:List UInt8) (y14:Int) (y16:Int) (y17:Int) (y18:Int) (y19:List ((List UInt8)×Int×Int×Unit)):Option ((Int×Int×Int×Int×(List ((List UInt8)×Int×Int×Unit))) ⊕ (Int×Int×Int×(List ((List UInt8)×Int×Int×Unit)))):=L86_2c F y15 y14 y16 y17 y18 y19 (fun s=>some (.inl s)) (fun z=>some (.inr z))
theorem L86_2n (F:Nat) (y15:List UInt8) (y14:Int) (y16:Int) (y17:Int) (y18:Int) (y19:List ((List UInt8)×Int×Int×Unit)) {β:Type} (kA:(Int×Int×Int×Int×(List ((List UInt8)×Int×Int×Unit)))->Option β) (kO:(Int×Int×Int×(List ((List UInt8)×Int×Int×Unit)))->Option β):L86_2c F y15 y14 y16 y17 y18 y19 kA kO=(L86_2 F y15 y14 y16 y17 y18 y19).bind (elimS kA kO):=by
 simp only [L86_2,L86_2c,Option.bind_assoc,cond_bind,Option.bind_some,Option.bind_none,elimS_l,elimS_r,elimS_bind]
abbrev sA86_2:List Sh:=[(.pt 0 []),(.rw 1),.i]
abbrev sAp186_2:List Sh:=[(.rw 1)]
abbrev sT86_2:List TSh:=[.blk 132 (.pr (.pr (.ro .u8) (.pr .i (.pr .i (.pr .i .un)))) .un),.row 88 (.pr .s (.pr .i (.pr .i .un)))]
abbrev sTp186_2:List TSh:=[.blk 132 (.pr (.pr (.ro .u8) (.pr .i (.pr .i (.pr .i .un)))) .un),.row 88 (.pr .s (.pr .i (.pr .i .un)))]
def lc86_2 (F:Nat):Lc:=mkL [0,5,6] sA86_2 sT86_2 [5] sAp186_2 sTp186_2 F (fun x y (s:Int×Int×Int×Int×(List ((List UInt8)×Int×Int×Unit)))=>L86_2 F y.1.1.1 s.1 s.2.1 s.2.2.1 s.2.2.2.1 s.2.2.2.2) (fun x y=>(x.2.2.1,y.1.1.2.1,y.1.1.2.2.1,y.1.1.2.2.2.1,y.2.1)) (fun x y (z:Int×Int×Int×(List ((List UInt8)×Int×Int×Unit)))=>(((),()),(((y.1.1.1,z.1,z.2.1,z.2.2.1,()),()),z.2.2.2,())))
theorem le86_2 (F:Nat) (x:dens sA86_2) (y:tdens sT86_2) (s:Int×Int×Int×Int×(List ((List UInt8)×Int×Int×Unit))):sev (E86 F) 1 [] (cAt (bodyOf Tryz.f86) (0 :: 0 :: [1,0,1,1])) (0 :: 0 :: [1,0,1,1]) (mkSt [0,5,6] sA86_2 sT86_2 ((),(),s.1,()) (((y.1.1.1,s.2.1,s.2.2.1,s.2.2.2.1,()),()),s.2.2.2.2,())) (kLoop 1 [0,5,6] sA86_2 sT86_2 [5] sAp186_2 sTp186_2 [] [] [] 0 (fun x y=>some (.inl (x,y))) (fun x y=>some (.inr (.inl (x,y)))) (fun x y=>some (.inr (.inr (x,y))))) =
  L86_2c (β:=Full sA86_2 sT86_2 sAp186_2 sTp186_2 [] []) F y.1.1.1 s.1 s.2.1 s.2.2.1 s.2.2.2.1 s.2.2.2.2 (fun s=>some (.inl (((),(),s.1,()),(((y.1.1.1,s.2.1,s.2.2.1,s.2.2.2.1,()),()),s.2.2.2.2,())))) (fun z=>some (.inr (.inl (((),()),(((y.1.1.1,z.1,z.2.1,z.2.2.1,()),()),z.2.2.2,()))))):=by kernel_rfl
theorem lo86_2 (F:Nat):LcOk Tryz.prog (E86 F) 1 (lc86_2 F) (cAt (bodyOf Tryz.f86) [1,0,1,1]):=
 mkL_ok (lp:=[]) (id:=0) (b:=cAt (bodyOf Tryz.f86) (0 :: 0 :: [1,0,1,1])) cok (cts86 F) mixed trivial (by kernel_rfl) (by kernel_rfl) (fun x y s=>((),(),s.1,())) (fun x y s=>(((y.1.1.1,s.2.1,s.2.2.1,s.2.2.2.1,()),()),s.2.2.2.2,())) (fun x y=>rfl) (fun x y=>rfl) (fun x y s kA kO=>L86_2c F y.1.1.1 s.1 s.2.1 s.2.2.1 s.2.2.2.1 s.2.2.2.2 kA kO) (fun x y s kA kO=>L86_2n F y.1.1.1 s.1 s.2.1 s.2.2.1 s.2.2.2.1 s.2.2.2.2 kA kO) (le86_2 F)
def T86c (F:Nat) (p0:Int) (p1:List UInt8) (p2:Int) (p3:Int) (p4:Int) {β:Type} (k:(Int×Int×Int×(List ((List UInt8)×Int×Int×Unit)))->Option β):Option β:=
 (Option.bind (T83 F p0 p1 p2 p3 p4) fun z13=>(Option.bind (iter (fun s=>L86_2 F p1 s.1 s.2.1 s.2.2.1 s.2.2.2.1 s.2.2.2.2) F (z13.1,z13.2.1,z13.2.2.1,z13.2.2.2,([]:List ((List UInt8)×Int×Int×Unit)))) fun z24=>(k (z24.1,z24.2.1,z24.2.2.1,z24.2.2.2))))
def T86 (F:Nat) (p0:Int) (p1:List UInt8) (p2:Int) (p3:Int) (p4:Int):Option (Int×Int×Int×(List ((List UInt8)×Int×Int×Unit))):=T86c F p0 p1 p2 p3 p4 some
theorem T86n (F:Nat) (p0:Int) (p1:List UInt8) (p2:Int) (p3:Int) (p4:Int) {β:Type} (k:(Int×Int×Int×(List ((List UInt8)×Int×Int×Unit)))->Option β):T86c F p0 p1 p2 p3 p4 k=(T86 F p0 p1 p2 p3 p4).bind k:=by
 simp only [T86,T86c,Option.bind_assoc,cond_bind,Option.bind_some,Option.bind_none,elimS_bind]
abbrev cA86:List Sh:=[(.pt 0 []),.i]
abbrev cB86:List Sh:=[(.rw 1)]
abbrev cT86:List TSh:=[.blk 132 (.pr (.pr (.ro .u8) (.pr .i (.pr .i (.pr .i .un)))) .un)]
abbrev cU86:List TSh:=[.blk 132 (.pr (.pr (.ro .u8) (.pr .i (.pr .i (.pr .i .un)))) .un),.row 88 (.pr .s (.pr .i (.pr .i .un)))]
def ct86 (F:Nat):Ct:=mkC 1 cA86 cT86 cB86 cU86 (fun x y=>T86 F x.2.1 y.1.1.1 y.1.1.2.1 y.1.1.2.2.1 y.1.1.2.2.2.1) (fun x y (z:Int×Int×Int×(List ((List UInt8)×Int×Int×Unit)))=>(((),()),(((y.1.1.1,z.1,z.2.1,z.2.2.1,()),()),z.2.2.2,())))
theorem eq86 (F:Nat) (x:dens cA86) (y:tdens cT86):sev (E86 F) 1 [([1,0,1,1],lc86_2 F)] (bodyOf Tryz.f86) [] (mkSt (rng 2) cA86 cT86 x y) (kFn (E86 F) 1 Tryz.f86.results.toList cB86 cU86 fun p q=>some (p,q)) =
  T86c F x.2.1 y.1.1.1 y.1.1.2.1 y.1.1.2.2.1 y.1.1.2.2.2.1 (fun z=>some (((),()),(((y.1.1.1,z.1,z.2.1,z.2.2.1,()),()),z.2.2.2,()))):=by kernel_rfl
theorem ok86 (F:Nat):Sound Tryz.prog cfg 86 (ct86 F):=
 mkC_ok (E:=E86 F) (lp:=[([1,0,1,1],lc86_2 F)]) (code:=bodyOf Tryz.f86) Tryz.func86 rfl Tryz.ntmps86 rfl rfl cok (cts86 F) mixed ⟨lo86_2 F,trivial⟩ (by kernel_rfl) (fun x y k=>T86c F x.2.1 y.1.1.1 y.1.1.2.1 y.1.1.2.2.1 y.1.1.2.2.2.1 k) (fun x y k=>T86n F x.2.1 y.1.1.1 y.1.1.2.1 y.1.1.2.2.1 y.1.1.2.2.2.1 k) (eq86 F)
def ord87:Nat->List (Tag×Nat)
 | 1=>[(.p,0),(.p,1),(.p,2),(.r,3),(.p,4),(.p,5),(.p,6),(.p,7),(.p,8),(.r,9),(.p,10),(.p,11),(.p,12),(.r,13),(.p,14),(.p,15),(.p,16)]
 | 3=>[(.p,0),(.p,1),(.p,2),(.r,3),(.p,4),(.p,5),(.p,6),(.r,7),(.p,8),(.p,9)]
 | _=>[]
def al87:Nat->Option Nat
 | _=>none
def ms87:Nat->Option (List (Option Tag×Nat×List Nat))
 | _=>none
def E87 (F:Nat):Ev:=⟨cfg,33,ctOf [],ord87,ctOf [],al87,ms87⟩
theorem cts87 (F:Nat):CtsOk Tryz.prog (E87 F):=cts_of (l:=[]) (l':=[]) rfl rfl trivial trivial
def T87c (F:Nat) (p0:(List UInt8)×Int×Int×Int×Unit) {β:Type} (k:(Int×Int)->Option β):Option β:=
 (bif (p0.2.2.2.1 == (0:Int)) then (bif (decide (p0.2.1 < (p0.1.length:Int))) then (k (p0.2.1,(3:Int))) else (k (p0.2.1,p0.2.2.2.1))) else (k (p0.2.1,p0.2.2.2.1)))
def T87 (F:Nat) (p0:(List UInt8)×Int×Int×Int×Unit):Option (Int×Int):=T87c F p0 some
theorem T87n (F:Nat) (p0:(List UInt8)×Int×Int×Int×Unit) {β:Type} (k:(Int×Int)->Option β):T87c F p0 k=(T87 F p0).bind k:=by
 simp only [T87,T87c,Option.bind_assoc,cond_bind,Option.bind_some,Option.bind_none,elimS_bind]
abbrev cA87:List Sh:=[(.re (.pr (.sl .u8) (.pr .i (.pr .i (.pr .i .un)))))]
abbrev cB87:List Sh:=[.i,.i]
abbrev cT87:List TSh:=[]
abbrev cU87:List TSh:=[]
def ct87 (F:Nat):Ct:=mkC 0 cA87 cT87 cB87 cU87 (fun x y=>T87 F x.1) (fun x y (z:Int×Int)=>((z.1,z.2,()),()))
theorem eq87 (F:Nat) (x:dens cA87) (y:tdens cT87):sev (E87 F) 0 [] (bodyOf Tryz.f87) [] (mkSt (rng 1) cA87 cT87 x y) (kFn (E87 F) 0 Tryz.f87.results.toList cB87 cU87 fun p q=>some (p,q)) =
  T87c F x.1 (fun z=>some ((z.1,z.2,()),())):=by kernel_rfl
theorem ok87 (F:Nat):Sound Tryz.prog cfg 87 (ct87 F):=
 mkC_ok (E:=E87 F) (lp:=[]) (code:=bodyOf Tryz.f87) Tryz.func87 rfl Tryz.ntmps87 rfl rfl cok (cts87 F) mixed trivial (by kernel_rfl) (fun x y k=>T87c F x.1 k) (fun x y k=>T87n F x.1 k) (eq87 F)
def ord23:Nat->List (Tag×Nat)
 | 6=>[(.p,0),(.c,1),(.p,2),(.w,3),(.w,4),(.w,5),(.p,6),(.b,7)]
 | 12=>[(.p,0),(.p,1),(.p,2),(.p,5),(.p,6),(.p,7),(.w,3),(.p,4),(.p,10),(.w,8),(.p,9),(.w,11),(.p,12),(.w,13)]
 | _=>[]
def al23:Nat->Option Nat
 | _=>none
def ms23:Nat->Option (List (Option Tag×Nat×List Nat))
 | _=>none
def E23 (F:Nat):Ev:=⟨cfg,128,ctOf [(82,ct82 F),(83,ct83 F),(84,ct84 F),(85,ct85 F),(86,ct86 F),(87,ct87 F),(60,ct60 F)],ord23,ctOf [],al23,ms23⟩
theorem cts23 (F:Nat):CtsOk Tryz.prog (E23 F):=cts_of (l:=[(82,ct82 F),(83,ct83 F),(84,ct84 F),(85,ct85 F),(86,ct86 F),(87,ct87 F),(60,ct60 F)]) (l':=[]) rfl rfl ⟨⟨ok82 F,_,Tryz.func82,rfl,rfl⟩,⟨⟨ok83 F,_,Tryz.func83,rfl,rfl⟩,⟨⟨ok84 F,_,Tryz.func84,rfl,rfl⟩,⟨⟨ok85 F,_,Tryz.func85,rfl,rfl⟩,⟨⟨ok86 F,_,Tryz.func86,rfl,rfl⟩,⟨⟨ok87 F,_,Tryz.func87,rfl,rfl⟩,⟨⟨ok60 F,_,Tryz.func60,rfl,rfl⟩,trivial⟩⟩⟩⟩⟩⟩⟩ trivial
def L23_4c (F:Nat) (y154:List UInt8) (y151:Int) (y155:Int) (y156:Int) (y157:Int) (y160:List Int) {β:Type} (kA:(Int×Int×Int×Int×(List Int))->Option β) (kO:(Int×Int×Int×(List Int))->Option β):Option β:=
 (bif (decide ((0:Int) < y151)) then (Option.bind (T82 F y154 y155 y156 y157) fun z163=>(Option.bind (gapp y160 ([z163.1]:List Int)) fun x164=>(kA ((w64 (y151 - (1:Int))),z163.2.1,z163.2.2.1,z163.2.2.2,x164)))) else (kO (y155,y156,y157,y160)))
def L23_4 (F:Nat) (y154:List UInt8) (y151:Int) (y155:Int) (y156:Int) (y157:Int) (y160:List Int):Option ((Int×Int×Int×Int×(List Int)) ⊕ (Int×Int×Int×(List Int))):=L23_4c F y154 y151 y155 y156 y157 y160 (fun s=>some (.inl s)) (fun z=>some (.inr z))
theorem L23_4n (F:Nat) (y154:List UInt8) (y151:Int) (y155:Int) (y156:Int) (y157:Int) (y160:List Int) {β:Type} (kA:(Int×Int×Int×Int×(List Int))->Option β) (kO:(Int×Int×Int×(List Int))->Option β):L23_4c F y154 y151 y155 y156 y157 y160 kA kO=(L23_4 F y154 y151 y155 y156 y157 y160).bind (elimS kA kO):=by
 simp only [L23_4,L23_4c,Option.bind_assoc,cond_bind,Option.bind_some,Option.bind_none,elimS_l,elimS_r,elimS_bind]
abbrev sA23_4:List Sh:=[(.ro .u8),(.pt 0 []),(.pt 1 []),(.pt 2 []),.i]
abbrev sAp123_4:List Sh:=[(.ro .u8),(.pt 0 []),(.pt 1 []),(.pt 2 [])]
abbrev sT23_4:List TSh:=[.blk 27 (.pr .i (.pr .i (.pr .ns (.pr .ns (.pr .ns (.pr .ns .un)))))),.blk 132 (.pr (.pr (.ro .u8) (.pr .i (.pr .i (.pr .i .un)))) .un),.blk 27 (.pr .i (.pr .i (.pr (.rw 3) (.pr .ns (.pr .ns (.pr .ns .un)))))),.row 3 .i]
abbrev sTp123_4:List TSh:=[.blk 27 (.pr .i (.pr .i (.pr .ns (.pr .ns (.pr .ns (.pr .ns .un)))))),.blk 132 (.pr (.pr (.ro .u8) (.pr .i (.pr .i (.pr .i .un)))) .un),.blk 27 (.pr .i (.pr .i (.pr (.rw 3) (.pr .ns (.pr .ns (.pr .ns .un)))))),.row 3 .i]
def lc23_4 (F:Nat):Lc:=mkL [0,2,4,5,6] sA23_4 sT23_4 [0,2,4,5] sAp123_4 sTp123_4 F (fun x y (s:Int×Int×Int×Int×(List Int))=>L23_4 F y.2.1.1.1 s.1 s.2.1 s.2.2.1 s.2.2.2.1 s.2.2.2.2) (fun x y=>(x.2.2.2.2.1,y.2.1.1.2.1,y.2.1.1.2.2.1,y.2.1.1.2.2.2.1,y.2.2.2.1)) (fun x y (z:Int×Int×Int×(List Int))=>((x.1,(),(),(),()),((y.1.1,y.1.2.1,(),(),(),(),()),((y.2.1.1.1,z.1,z.2.1,z.2.2.1,()),()),(y.2.2.1.1,y.2.2.1.2.1,(),(),(),(),()),z.2.2.2,())))
theorem le23_4 (F:Nat) (x:dens sA23_4) (y:tdens sT23_4) (s:Int×Int×Int×Int×(List Int)):sev (E23 F) 0 [] (cAt (bodyOf Tryz.f23) (0 :: 0 :: [1,0,1,1,1])) (0 :: 0 :: [1,0,1,1,1]) (mkSt [0,2,4,5,6] sA23_4 sT23_4 (x.1,(),(),(),s.1,()) ((y.1.1,y.1.2.1,(),(),(),(),()),((y.2.1.1.1,s.2.1,s.2.2.1,s.2.2.2.1,()),()),(y.2.2.1.1,y.2.2.1.2.1,(),(),(),(),()),s.2.2.2.2,())) (kLoop 0 [0,2,4,5,6] sA23_4 sT23_4 [0,2,4,5] sAp123_4 sTp123_4 [] [] [] 0 (fun x y=>some (.inl (x,y))) (fun x y=>some (.inr (.inl (x,y)))) (fun x y=>some (.inr (.inr (x,y))))) =
  L23_4c (β:=Full sA23_4 sT23_4 sAp123_4 sTp123_4 [] []) F y.2.1.1.1 s.1 s.2.1 s.2.2.1 s.2.2.2.1 s.2.2.2.2 (fun s=>some (.inl ((x.1,(),(),(),s.1,()),((y.1.1,y.1.2.1,(),(),(),(),()),((y.2.1.1.1,s.2.1,s.2.2.1,s.2.2.2.1,()),()),(y.2.2.1.1,y.2.2.1.2.1,(),(),(),(),()),s.2.2.2.2,())))) (fun z=>some (.inr (.inl ((x.1,(),(),(),()),((y.1.1,y.1.2.1,(),(),(),(),()),((y.2.1.1.1,z.1,z.2.1,z.2.2.1,()),()),(y.2.2.1.1,y.2.2.1.2.1,(),(),(),(),()),z.2.2.2,()))))):=by kernel_rfl
theorem lo23_4 (F:Nat):LcOk Tryz.prog (E23 F) 0 (lc23_4 F) (cAt (bodyOf Tryz.f23) [1,0,1,1,1]):=
 mkL_ok (lp:=[]) (id:=0) (b:=cAt (bodyOf Tryz.f23) (0 :: 0 :: [1,0,1,1,1])) cok (cts23 F) mixed trivial (by kernel_rfl) (by kernel_rfl) (fun x y s=>(x.1,(),(),(),s.1,())) (fun x y s=>((y.1.1,y.1.2.1,(),(),(),(),()),((y.2.1.1.1,s.2.1,s.2.2.1,s.2.2.2.1,()),()),(y.2.2.1.1,y.2.2.1.2.1,(),(),(),(),()),s.2.2.2.2,())) (fun x y=>rfl) (fun x y=>rfl) (fun x y s kA kO=>L23_4c F y.2.1.1.1 s.1 s.2.1 s.2.2.1 s.2.2.2.1 s.2.2.2.2 kA kO) (fun x y s kA kO=>L23_4n F y.2.1.1.1 s.1 s.2.1 s.2.2.1 s.2.2.2.1 s.2.2.2.2 kA kO) (le23_4 F)
def L23_5c (F:Nat) (y191:List UInt8) (y188:Int) (y192:Int) (y193:Int) (y194:Int) (y198:List (Int×Int×Int×((List UInt8)×Int×Int×Unit)×Int×Int×(List UInt8)×Bool×Unit)) {β:Type} (kA:(Int×Int×Int×Int×(List (Int×Int×Int×((List UInt8)×Int×Int×Unit)×Int×Int×(List UInt8)×Bool×Unit)))->Option β) (kO:(Int×Int×Int×(List (Int×Int×Int×((List UInt8)×Int×Int×Unit)×Int×Int×(List UInt8)×Bool×Unit)))->Option β):Option β:=
 (bif (decide ((0:Int) < y188)) then (Option.bind (T82 F y191 y192 y193 y194) fun z208=>(Option.bind (T82 F y191 z208.2.1 z208.2.2.1 z208.2.2.2) fun z209=>(Option.bind (T82 F y191 z209.2.1 z209.2.2.1 z209.2.2.2) fun z210=>(Option.bind (T84 F y191 z210.2.1 z210.2.2.1 z210.2.2.2) fun z211=>(Option.bind (T82 F y191 z211.2.2.2.1 z211.2.2.2.2.1 z211.2.2.2.2.2) fun z212=>(Option.bind (T82 F y191 z212.2.1 z212.2.2.1 z212.2.2.2) fun z213=>(Option.bind (T85 F (5:Int) (32:Int) y191 z213.2.1 z213.2.2.1 z213.2.2.2) fun z214=>(Option.bind (T85 F (3:Int) (0:Int) y191 z214.2.2.2.2.1 z214.2.2.2.2.2.1 z214.2.2.2.2.2.2) fun z215=>(Option.bind (gapp y198 ([(z208.1,z209.1,z210.1,(z211.1,z211.2.1,z211.2.2.1,()),z212.1,z213.1,z214.2.2.2.1,z215.2.2.1,())]:List (Int×Int×Int×((List UInt8)×Int×Int×Unit)×Int×Int×(List UInt8)×Bool×Unit))) fun x216=>(kA ((w64 (y188 - (1:Int))),z215.2.2.2.2.1,z215.2.2.2.2.2.1,z215.2.2.2.2.2.2,x216))))))))))) else (kO (y192,y193,y194,y198)))
def L23_5 (F:Nat) (y191:List UInt8) (y188:Int) (y192:Int) (y193:Int) (y194:Int) (y198:List (Int×Int×Int×((List UInt8)×Int×Int×Unit)×Int×Int×(List UInt8)×Bool×Unit)):Option ((Int×Int×Int×Int×(List (Int×Int×Int×((List UInt8)×Int×Int×Unit)×Int×Int×(List UInt8)×Bool×Unit))) ⊕ (Int×Int×Int×(List (Int×Int×Int×((List UInt8)×Int×Int×Unit)×Int×Int×(List UInt8)×Bool×Unit)))):=L23_5c F y191 y188 y192 y193 y194 y198 (fun s=>some (.inl s)) (fun z=>some (.inr z))
theorem L23_5n (F:Nat) (y191:List UInt8) (y188:Int) (y192:Int) (y193:Int) (y194:Int) (y198:List (Int×Int×Int×((List UInt8)×Int×Int×Unit)×Int×Int×(List UInt8)×Bool×Unit)) {β:Type} (kA:(Int×Int×Int×Int×(List (Int×Int×Int×((List UInt8)×Int×Int×Unit)×Int×Int×(List UInt8)×Bool×Unit)))->Option β) (kO:(Int×Int×Int×(List (Int×Int×Int×((List UInt8)×Int×Int×Unit)×Int×Int×(List UInt8)×Bool×Unit)))->Option β):L23_5c F y191 y188 y192 y193 y194 y198 kA kO=(L23_5 F y191 y188 y192 y193 y194 y198).bind (elimS kA kO):=by
 simp only [L23_5,L23_5c,Option.bind_assoc,cond_bind,Option.bind_some,Option.bind_none,elimS_l,elimS_r,elimS_bind]
abbrev sA23_5:List Sh:=[(.ro .u8),(.pt 0 []),(.pt 1 []),(.pt 2 []),.i]
abbrev sAp123_5:List Sh:=[(.ro .u8),(.pt 0 []),(.pt 1 []),(.pt 2 [])]
abbrev sT23_5:List TSh:=[.blk 27 (.pr .i (.pr .i (.pr .ns (.pr .ns (.pr .ns (.pr .ns .un)))))),.blk 132 (.pr (.pr (.ro .u8) (.pr .i (.pr .i (.pr .i .un)))) .un),.blk 27 (.pr .i (.pr .i (.pr (.rw 3) (.pr (.rw 4) (.pr .ns (.pr .ns .un)))))),.row 3 .i,.row 90 (.pr .i (.pr .i (.pr .i (.pr (.pr .s (.pr .i (.pr .i .un))) (.pr .i (.pr .i (.pr .s (.pr .bo .un))))))))]
abbrev sTp123_5:List TSh:=[.blk 27 (.pr .i (.pr .i (.pr .ns (.pr .ns (.pr .ns (.pr .ns .un)))))),.blk 132 (.pr (.pr (.ro .u8) (.pr .i (.pr .i (.pr .i .un)))) .un),.blk 27 (.pr .i (.pr .i (.pr (.rw 3) (.pr (.rw 4) (.pr .ns (.pr .ns .un)))))),.row 3 .i,.row 90 (.pr .i (.pr .i (.pr .i (.pr (.pr .s (.pr .i (.pr .i .un))) (.pr .i (.pr .i (.pr .s (.pr .bo .un))))))))]
def lc23_5 (F:Nat):Lc:=mkL [0,2,4,5,7] sA23_5 sT23_5 [0,2,4,5] sAp123_5 sTp123_5 F (fun x y (s:Int×Int×Int×Int×(List (Int×Int×Int×((List UInt8)×Int×Int×Unit)×Int×Int×(List UInt8)×Bool×Unit)))=>L23_5 F y.2.1.1.1 s.1 s.2.1 s.2.2.1 s.2.2.2.1 s.2.2.2.2) (fun x y=>(x.2.2.2.2.1,y.2.1.1.2.1,y.2.1.1.2.2.1,y.2.1.1.2.2.2.1,y.2.2.2.2.1)) (fun x y (z:Int×Int×Int×(List (Int×Int×Int×((List UInt8)×Int×Int×Unit)×Int×Int×(List UInt8)×Bool×Unit)))=>((x.1,(),(),(),()),((y.1.1,y.1.2.1,(),(),(),(),()),((y.2.1.1.1,z.1,z.2.1,z.2.2.1,()),()),(y.2.2.1.1,y.2.2.1.2.1,(),(),(),(),()),y.2.2.2.1,z.2.2.2,())))
theorem le23_5 (F:Nat) (x:dens sA23_5) (y:tdens sT23_5) (s:Int×Int×Int×Int×(List (Int×Int×Int×((List UInt8)×Int×Int×Unit)×Int×Int×(List UInt8)×Bool×Unit))):sev (E23 F) 0 [] (cAt (bodyOf Tryz.f23) (0 :: 0 :: [1,0,1,1,1,1])) (0 :: 0 :: [1,0,1,1,1,1]) (mkSt [0,2,4,5,7] sA23_5 sT23_5 (x.1,(),(),(),s.1,()) ((y.1.1,y.1.2.1,(),(),(),(),()),((y.2.1.1.1,s.2.1,s.2.2.1,s.2.2.2.1,()),()),(y.2.2.1.1,y.2.2.1.2.1,(),(),(),(),()),y.2.2.2.1,s.2.2.2.2,())) (kLoop 0 [0,2,4,5,7] sA23_5 sT23_5 [0,2,4,5] sAp123_5 sTp123_5 [] [] [] 2 (fun x y=>some (.inl (x,y))) (fun x y=>some (.inr (.inl (x,y)))) (fun x y=>some (.inr (.inr (x,y))))) =
  L23_5c (β:=Full sA23_5 sT23_5 sAp123_5 sTp123_5 [] []) F y.2.1.1.1 s.1 s.2.1 s.2.2.1 s.2.2.2.1 s.2.2.2.2 (fun s=>some (.inl ((x.1,(),(),(),s.1,()),((y.1.1,y.1.2.1,(),(),(),(),()),((y.2.1.1.1,s.2.1,s.2.2.1,s.2.2.2.1,()),()),(y.2.2.1.1,y.2.2.1.2.1,(),(),(),(),()),y.2.2.2.1,s.2.2.2.2,())))) (fun z=>some (.inr (.inl ((x.1,(),(),(),()),((y.1.1,y.1.2.1,(),(),(),(),()),((y.2.1.1.1,z.1,z.2.1,z.2.2.1,()),()),(y.2.2.1.1,y.2.2.1.2.1,(),(),(),(),()),y.2.2.2.1,z.2.2.2,()))))):=by kernel_rfl
theorem lo23_5 (F:Nat):LcOk Tryz.prog (E23 F) 0 (lc23_5 F) (cAt (bodyOf Tryz.f23) [1,0,1,1,1,1]):=
 mkL_ok (lp:=[]) (id:=2) (b:=cAt (bodyOf Tryz.f23) (0 :: 0 :: [1,0,1,1,1,1])) cok (cts23 F) mixed trivial (by kernel_rfl) (by kernel_rfl) (fun x y s=>(x.1,(),(),(),s.1,())) (fun x y s=>((y.1.1,y.1.2.1,(),(),(),(),()),((y.2.1.1.1,s.2.1,s.2.2.1,s.2.2.2.1,()),()),(y.2.2.1.1,y.2.2.1.2.1,(),(),(),(),()),y.2.2.2.1,s.2.2.2.2,())) (fun x y=>rfl) (fun x y=>rfl) (fun x y s kA kO=>L23_5c F y.2.1.1.1 s.1 s.2.1 s.2.2.1 s.2.2.2.1 s.2.2.2.2 kA kO) (fun x y s kA kO=>L23_5n F y.2.1.1.1 s.1 s.2.1 s.2.2.1 s.2.2.2.1 s.2.2.2.2 kA kO) (le23_5 F)
def L23_6c (F:Nat) (y242:List UInt8) (y239:Int) (y243:Int) (y244:Int) (y245:Int) (y250:List ((List UInt8)×Int×Int×Int×Int×(List ((List UInt8)×Int×Int×Unit))×Unit)) {β:Type} (kA:(Int×Int×Int×Int×(List ((List UInt8)×Int×Int×Int×Int×(List ((List UInt8)×Int×Int×Unit))×Unit)))->Option β) (kO:(Int×Int×Int×(List ((List UInt8)×Int×Int×Int×Int×(List ((List UInt8)×Int×Int×Unit))×Unit)))->Option β):Option β:=
 (bif (decide ((0:Int) < y239)) then (Option.bind (T85 F (6:Int) (0:Int) y242 y243 y244 y245) fun z258=>(Option.bind (T82 F y242 z258.2.2.2.2.1 z258.2.2.2.2.2.1 z258.2.2.2.2.2.2) fun z259=>(Option.bind (T82 F y242 z259.2.1 z259.2.2.1 z259.2.2.2) fun z260=>(Option.bind (T82 F y242 z260.2.1 z260.2.2.1 z260.2.2.2) fun z261=>(Option.bind (T82 F y242 z261.2.1 z261.2.2.1 z261.2.2.2) fun z262=>(Option.bind (T86 F (8:Int) y242 z262.2.1 z262.2.2.1 z262.2.2.2) fun z263=>(Option.bind (gapp y250 ([(z258.2.2.2.1,z259.1,z260.1,z261.1,z262.1,z263.2.2.2,())]:List ((List UInt8)×Int×Int×Int×Int×(List ((List UInt8)×Int×Int×Unit))×Unit))) fun x264=>(kA ((w64 (y239 - (1:Int))),z263.1,z263.2.1,z263.2.2.1,x264))))))))) else (kO (y243,y244,y245,y250)))
def L23_6 (F:Nat) (y242:List UInt8) (y239:Int) (y243:Int) (y244:Int) (y245:Int) (y250:List ((List UInt8)×Int×Int×Int×Int×(List ((List UInt8)×Int×Int×Unit))×Unit)):Option ((Int×Int×Int×Int×(List ((List UInt8)×Int×Int×Int×Int×(List ((List UInt8)×Int×Int×Unit))×Unit))) ⊕ (Int×Int×Int×(List ((List UInt8)×Int×Int×Int×Int×(List ((List UInt8)×Int×Int×Unit))×Unit)))):=L23_6c F y242 y239 y243 y244 y245 y250 (fun s=>some (.inl s)) (fun z=>some (.inr z))
theorem L23_6n (F:Nat) (y242:List UInt8) (y239:Int) (y243:Int) (y244:Int) (y245:Int) (y250:List ((List UInt8)×Int×Int×Int×Int×(List ((List UInt8)×Int×Int×Unit))×Unit)) {β:Type} (kA:(Int×Int×Int×Int×(List ((List UInt8)×Int×Int×Int×Int×(List ((List UInt8)×Int×Int×Unit))×Unit)))->Option β) (kO:(Int×Int×Int×(List ((List UInt8)×Int×Int×Int×Int×(List ((List UInt8)×Int×Int×Unit))×Unit)))->Option β):L23_6c F y242 y239 y243 y244 y245 y250 kA kO=(L23_6 F y242 y239 y243 y244 y245 y250).bind (elimS kA kO):=by
 simp only [L23_6,L23_6c,Option.bind_assoc,cond_bind,Option.bind_some,Option.bind_none,elimS_l,elimS_r,elimS_bind]
abbrev sA23_6:List Sh:=[(.ro .u8),(.pt 0 []),(.pt 1 []),(.pt 2 []),.i]
abbrev sAp123_6:List Sh:=[(.ro .u8),(.pt 0 []),(.pt 1 []),(.pt 2 [])]
abbrev sT23_6:List TSh:=[.blk 27 (.pr .i (.pr .i (.pr .ns (.pr .ns (.pr .ns (.pr .ns .un)))))),.blk 132 (.pr (.pr (.ro .u8) (.pr .i (.pr .i (.pr .i .un)))) .un),.blk 27 (.pr .i (.pr .i (.pr (.rw 3) (.pr (.rw 4) (.pr (.rw 5) (.pr .ns .un)))))),.row 3 .i,.row 90 (.pr .i (.pr .i (.pr .i (.pr (.pr .s (.pr .i (.pr .i .un))) (.pr .i (.pr .i (.pr .s (.pr .bo .un)))))))),.row 61 (.pr .s (.pr .i (.pr .i (.pr .i (.pr .i (.pr (.sl (.pr .s (.pr .i (.pr .i .un)))) .un))))))]
abbrev sTp123_6:List TSh:=[.blk 27 (.pr .i (.pr .i (.pr .ns (.pr .ns (.pr .ns (.pr .ns .un)))))),.blk 132 (.pr (.pr (.ro .u8) (.pr .i (.pr .i (.pr .i .un)))) .un),.blk 27 (.pr .i (.pr .i (.pr (.rw 3) (.pr (.rw 4) (.pr (.rw 5) (.pr .ns .un)))))),.row 3 .i,.row 90 (.pr .i (.pr .i (.pr .i (.pr (.pr .s (.pr .i (.pr .i .un))) (.pr .i (.pr .i (.pr .s (.pr .bo .un)))))))),.row 61 (.pr .s (.pr .i (.pr .i (.pr .i (.pr .i (.pr (.sl (.pr .s (.pr .i (.pr .i .un)))) .un))))))]
def lc23_6 (F:Nat):Lc:=mkL [0,2,4,5,9] sA23_6 sT23_6 [0,2,4,5] sAp123_6 sTp123_6 F (fun x y (s:Int×Int×Int×Int×(List ((List UInt8)×Int×Int×Int×Int×(List ((List UInt8)×Int×Int×Unit))×Unit)))=>L23_6 F y.2.1.1.1 s.1 s.2.1 s.2.2.1 s.2.2.2.1 s.2.2.2.2) (fun x y=>(x.2.2.2.2.1,y.2.1.1.2.1,y.2.1.1.2.2.1,y.2.1.1.2.2.2.1,y.2.2.2.2.2.1)) (fun x y (z:Int×Int×Int×(List ((List UInt8)×Int×Int×Int×Int×(List ((List UInt8)×Int×Int×Unit))×Unit)))=>((x.1,(),(),(),()),((y.1.1,y.1.2.1,(),(),(),(),()),((y.2.1.1.1,z.1,z.2.1,z.2.2.1,()),()),(y.2.2.1.1,y.2.2.1.2.1,(),(),(),(),()),y.2.2.2.1,y.2.2.2.2.1,z.2.2.2,())))
theorem le23_6 (F:Nat) (x:dens sA23_6) (y:tdens sT23_6) (s:Int×Int×Int×Int×(List ((List UInt8)×Int×Int×Int×Int×(List ((List UInt8)×Int×Int×Unit))×Unit))):sev (E23 F) 0 [] (cAt (bodyOf Tryz.f23) (0 :: 0 :: [1,0,1,1,1,1,1])) (0 :: 0 :: [1,0,1,1,1,1,1]) (mkSt [0,2,4,5,9] sA23_6 sT23_6 (x.1,(),(),(),s.1,()) ((y.1.1,y.1.2.1,(),(),(),(),()),((y.2.1.1.1,s.2.1,s.2.2.1,s.2.2.2.1,()),()),(y.2.2.1.1,y.2.2.1.2.1,(),(),(),(),()),y.2.2.2.1,y.2.2.2.2.1,s.2.2.2.2,())) (kLoop 0 [0,2,4,5,9] sA23_6 sT23_6 [0,2,4,5] sAp123_6 sTp123_6 [] [] [] 4 (fun x y=>some (.inl (x,y))) (fun x y=>some (.inr (.inl (x,y)))) (fun x y=>some (.inr (.inr (x,y))))) =
  L23_6c (β:=Full sA23_6 sT23_6 sAp123_6 sTp123_6 [] []) F y.2.1.1.1 s.1 s.2.1 s.2.2.1 s.2.2.2.1 s.2.2.2.2 (fun s=>some (.inl ((x.1,(),(),(),s.1,()),((y.1.1,y.1.2.1,(),(),(),(),()),((y.2.1.1.1,s.2.1,s.2.2.1,s.2.2.2.1,()),()),(y.2.2.1.1,y.2.2.1.2.1,(),(),(),(),()),y.2.2.2.1,y.2.2.2.2.1,s.2.2.2.2,())))) (fun z=>some (.inr (.inl ((x.1,(),(),(),()),((y.1.1,y.1.2.1,(),(),(),(),()),((y.2.1.1.1,z.1,z.2.1,z.2.2.1,()),()),(y.2.2.1.1,y.2.2.1.2.1,(),(),(),(),()),y.2.2.2.1,y.2.2.2.2.1,z.2.2.2,()))))):=by kernel_rfl
theorem lo23_6 (F:Nat):LcOk Tryz.prog (E23 F) 0 (lc23_6 F) (cAt (bodyOf Tryz.f23) [1,0,1,1,1,1,1]):=
 mkL_ok (lp:=[]) (id:=4) (b:=cAt (bodyOf Tryz.f23) (0 :: 0 :: [1,0,1,1,1,1,1])) cok (cts23 F) mixed trivial (by kernel_rfl) (by kernel_rfl) (fun x y s=>(x.1,(),(),(),s.1,())) (fun x y s=>((y.1.1,y.1.2.1,(),(),(),(),()),((y.2.1.1.1,s.2.1,s.2.2.1,s.2.2.2.1,()),()),(y.2.2.1.1,y.2.2.1.2.1,(),(),(),(),()),y.2.2.2.1,y.2.2.2.2.1,s.2.2.2.2,())) (fun x y=>rfl) (fun x y=>rfl) (fun x y s kA kO=>L23_6c F y.2.1.1.1 s.1 s.2.1 s.2.2.1 s.2.2.2.1 s.2.2.2.2 kA kO) (fun x y s kA kO=>L23_6n F y.2.1.1.1 s.1 s.2.1 s.2.2.1 s.2.2.2.1 s.2.2.2.2 kA kO) (le23_6 F)
def T23c (F:Nat) (p0:List UInt8) {β:Type} (k:(Int×Int×Int×(List Int)×(List (Int×Int×Int×((List UInt8)×Int×Int×Unit)×Int×Int×(List UInt8)×Bool×Unit))×(List ((List UInt8)×Int×Int×Int×Int×(List ((List UInt8)×Int×Int×Unit))×Unit))×(List ((List UInt8)×Int×Int×Unit)))->Option β):Option β:=
 (Option.bind (T82 F p0 (0:Int) (0:Int) (0:Int)) fun z135=>(Option.bind (T82 F p0 z135.2.1 z135.2.2.1 z135.2.2.2) fun z136=>(Option.bind (T83 F (12:Int) p0 z136.2.1 z136.2.2.1 z136.2.2.2) fun z137=>(Option.bind (iter (fun s=>L23_4 F p0 s.1 s.2.1 s.2.2.1 s.2.2.2.1 s.2.2.2.2) F (z137.1,z137.2.1,z137.2.2.1,z137.2.2.2,([]:List Int))) fun z165=>(Option.bind (T83 F (4096:Int) p0 z165.1 z165.2.1 z165.2.2.1) fun z166=>(Option.bind (iter (fun s=>L23_5 F p0 s.1 s.2.1 s.2.2.1 s.2.2.2.1 s.2.2.2.2) F (z166.1,z166.2.1,z166.2.2.1,z166.2.2.2,([]:List (Int×Int×Int×((List UInt8)×Int×Int×Unit)×Int×Int×(List UInt8)×Bool×Unit)))) fun z217=>(Option.bind (T83 F (4096:Int) p0 z217.1 z217.2.1 z217.2.2.1) fun z218=>(Option.bind (iter (fun s=>L23_6 F p0 s.1 s.2.1 s.2.2.1 s.2.2.2.1 s.2.2.2.2) F (z218.1,z218.2.1,z218.2.2.1,z218.2.2.2,([]:List ((List UInt8)×Int×Int×Int×Int×(List ((List UInt8)×Int×Int×Unit))×Unit)))) fun z265=>(Option.bind (T86 F (4096:Int) p0 z265.1 z265.2.1 z265.2.2.1) fun z266=>(Option.bind (T87 F (p0,z266.1,z266.2.1,z266.2.2.1,())) fun z267=>(bif (z267.2 != (0:Int)) then (k ((0:Int),(0:Int),(3:Int),([]:List Int),([]:List (Int×Int×Int×((List UInt8)×Int×Int×Unit)×Int×Int×(List UInt8)×Bool×Unit)),([]:List ((List UInt8)×Int×Int×Int×Int×(List ((List UInt8)×Int×Int×Unit))×Unit)),([]:List ((List UInt8)×Int×Int×Unit)))) else (bif (decide ((1048560:Int) < (p0.length:Int))) then (k ((0:Int),(0:Int),(3:Int),([]:List Int),([]:List (Int×Int×Int×((List UInt8)×Int×Int×Unit)×Int×Int×(List UInt8)×Bool×Unit)),([]:List ((List UInt8)×Int×Int×Int×Int×(List ((List UInt8)×Int×Int×Unit))×Unit)),([]:List ((List UInt8)×Int×Int×Unit)))) else (Option.bind (T60 F z135.1 z136.1 z165.2.2.2 z217.2.2.2 z265.2.2.2 z266.2.2.2) fun z268=>(bif (!z268) then (k ((0:Int),(0:Int),(3:Int),([]:List Int),([]:List (Int×Int×Int×((List UInt8)×Int×Int×Unit)×Int×Int×(List UInt8)×Bool×Unit)),([]:List ((List UInt8)×Int×Int×Int×Int×(List ((List UInt8)×Int×Int×Unit))×Unit)),([]:List ((List UInt8)×Int×Int×Unit)))) else (k (z135.1,z136.1,(0:Int),z165.2.2.2,z217.2.2.2,z265.2.2.2,z266.2.2.2))))))))))))))))
def T23 (F:Nat) (p0:List UInt8):Option (Int×Int×Int×(List Int)×(List (Int×Int×Int×((List UInt8)×Int×Int×Unit)×Int×Int×(List UInt8)×Bool×Unit))×(List ((List UInt8)×Int×Int×Int×Int×(List ((List UInt8)×Int×Int×Unit))×Unit))×(List ((List UInt8)×Int×Int×Unit))):=T23c F p0 some
theorem T23n (F:Nat) (p0:List UInt8) {β:Type} (k:(Int×Int×Int×(List Int)×(List (Int×Int×Int×((List UInt8)×Int×Int×Unit)×Int×Int×(List UInt8)×Bool×Unit))×(List ((List UInt8)×Int×Int×Int×Int×(List ((List UInt8)×Int×Int×Unit))×Unit))×(List ((List UInt8)×Int×Int×Unit)))->Option β):T23c F p0 k=(T23 F p0).bind k:=by
 simp only [T23,T23c,Option.bind_assoc,cond_bind,Option.bind_some,Option.bind_none,elimS_bind]
abbrev cA23:List Sh:=[(.ro .u8)]
abbrev cB23:List Sh:=[(.pr .i (.pr .i (.pr (.rw 0) (.pr (.rw 1) (.pr (.rw 2) (.pr (.rw 3) .un)))))),.i]
abbrev cT23:List TSh:=[]
abbrev cU23:List TSh:=[.row 3 .i,.row 90 (.pr .i (.pr .i (.pr .i (.pr (.pr .s (.pr .i (.pr .i .un))) (.pr .i (.pr .i (.pr .s (.pr .bo .un)))))))),.row 61 (.pr .s (.pr .i (.pr .i (.pr .i (.pr .i (.pr (.sl (.pr .s (.pr .i (.pr .i .un)))) .un)))))),.row 88 (.pr .s (.pr .i (.pr .i .un)))]
def ct23 (F:Nat):Ct:=mkC 0 cA23 cT23 cB23 cU23 (fun x y=>T23 F x.1) (fun x y (z:Int×Int×Int×(List Int)×(List (Int×Int×Int×((List UInt8)×Int×Int×Unit)×Int×Int×(List UInt8)×Bool×Unit))×(List ((List UInt8)×Int×Int×Int×Int×(List ((List UInt8)×Int×Int×Unit))×Unit))×(List ((List UInt8)×Int×Int×Unit)))=>(((z.1,z.2.1,(),(),(),(),()),z.2.2.1,()),(z.2.2.2.1,z.2.2.2.2.1,z.2.2.2.2.2.1,z.2.2.2.2.2.2,())))
theorem eq23 (F:Nat) (x:dens cA23) (y:tdens cT23):sev (E23 F) 0 [([1,0,1,1,1],lc23_4 F),([1,0,1,1,1,1],lc23_5 F),([1,0,1,1,1,1,1],lc23_6 F)] (bodyOf Tryz.f23) [] (mkSt (rng 1) cA23 cT23 x y) (kFn (E23 F) 0 Tryz.f23.results.toList cB23 cU23 fun p q=>some (p,q)) =
  T23c F x.1 (fun z=>some (((z.1,z.2.1,(),(),(),(),()),z.2.2.1,()),(z.2.2.2.1,z.2.2.2.2.1,z.2.2.2.2.2.1,z.2.2.2.2.2.2,()))):=by kernel_rfl
theorem ok23 (F:Nat):Sound Tryz.prog cfg 23 (ct23 F):=
 mkC_ok (E:=E23 F) (lp:=[([1,0,1,1,1],lc23_4 F),([1,0,1,1,1,1],lc23_5 F),([1,0,1,1,1,1,1],lc23_6 F)]) (code:=bodyOf Tryz.f23) Tryz.func23 rfl Tryz.ntmps23 rfl rfl cok (cts23 F) mixed ⟨lo23_4 F,⟨lo23_5 F,⟨lo23_6 F,trivial⟩⟩⟩ (by kernel_rfl) (fun x y k=>T23c F x.1 k) (fun x y k=>T23n F x.1 k) (eq23 F)
theorem shr7 (x:UInt64):(shr64 x 7).toNat=x.toNat / 128:=by
 show (x.toBitVec >>> 7).toNat=_
 rw [BitVec.toNat_ushiftRight,Nat.shiftRight_eq_div_pow];rfl
theorem it_again {σ ρ:Type} {f:σ->Option (σ ⊕ ρ)} {n:Nat} {s s':σ} (h:f s=some (.inl s')):iter f (n + 1) s=iter f n s':=by simp [iter,h]
theorem it_out {σ ρ:Type} {f:σ->Option (σ ⊕ ρ)} {n:Nat} {s:σ} {r:ρ} (h:f s=some (.inr r)):iter f (n + 1) s=some r:=by simp [iter,h]
theorem div128 (x:UInt64):(x / UInt64.ofNat 128).toNat=x.toNat / 128:=by
 rw [UInt64.toNat_div];rfl
def encN:Nat->Nat->List UInt8
 | 0,n=>[UInt8.ofNat n]
 | m + 1,n=>if n < 128 then [UInt8.ofNat n] else UInt8.ofNat (n % 128 + 128) :: encN m (n / 128)
theorem encN_len:∀ (m n:Nat),(encN m n).length≤m + 1∧1≤(encN m n).length
 | 0,n=>by simp [encN]
 | m + 1,n=>by
  have:=encN_len m (n / 128)
  simp only [encN];split<;>simp<;>omega
theorem or128:∀ b:_root_.Fin 256,(UInt8.ofNat b.val ||| UInt8.ofNat 128)=UInt8.ofNat (b.val % 128 + 128):=by decide +kernel
theorem u8_of (x:UInt64):x.toUInt8=UInt8.ofNat x.toNat:=by
 apply UInt8.toNat_inj.1
 rw [UInt64.toNat_toUInt8,UInt8.toNat_ofNat']
theorem byte60 (x:UInt64):(x.toUInt8 ||| UInt8.ofNat 128)=UInt8.ofNat (x.toNat % 128 + 128):=by
 have h:=or128 ⟨x.toNat % 256,Nat.mod_lt _ (by omega)⟩
 simp only at h
 have e:UInt8.ofNat (x.toNat % 256)=x.toUInt8:=by
  apply UInt8.toNat_inj.1
  rw [UInt64.toNat_toUInt8,UInt8.toNat_ofNat'];omega
 rw [e] at h
 rw [h]
 congr 1;omega
theorem byte45 (x:UInt64):((x % (UInt64.ofNat 128)).toUInt8) + (UInt8.ofNat 128)=UInt8.ofNat (x.toNat % 128 + 128):=by
 apply UInt8.toNat_inj.1
 rw [UInt8.toNat_add,UInt64.toNat_toUInt8,UInt64.toNat_mod,UInt8.toNat_ofNat',UInt8.toNat_ofNat']
 have:(UInt64.ofNat 128).toNat=128:=rfl
 rw [this];omega
theorem l60 (F:Nat):∀ (m fuel:Nat) (x:UInt64) (l:List UInt8),x.toNat < 128 ^ (m + 1)->m < fuel->l.length + m < 1000000->∃ y pre,iter (fun s:UInt64×List UInt8=>L117_2 F s.1 s.2) fuel (x,l)=some (y,l ++ pre)∧pre ++ [y.toUInt8]=encN m x.toNat∧pre.length≤m
 | m,0,x,l,hx,hf,hl=>by omega
 | 0,fuel + 1,x,l,hx,hf,hl=>by
  have h:¬ UInt64.ofNat 128≤x:=by
   show ¬ (128≤x.toNat);omega
  have step:L117_2 F x l=some (.inr (x,l)):=by simp only [L117_2,L117_2c,h,decide_false,cond_false]
  refine ⟨x,[],?_,by rw [List.nil_append,u8_of];simp only [encN],by simp⟩
  rw [it_out (f:=fun s:UInt64×List UInt8=>L117_2 F s.1 s.2) (s:=(x,l)) step];simp
 | m + 1,fuel + 1,x,l,hx,hf,hl=>by
  by_cases h:128≤x.toNat
  ·have h':UInt64.ofNat 128≤x:=h
   have hd:=shr7 x
   have hlt:(shr64 x 7).toNat < 128 ^ (m + 1):=by rw [hd];exact Nat.div_lt_of_lt_mul (by rw [Nat.pow_succ] at hx;omega)
   obtain ⟨y,pre,h1,h2,h3⟩:=l60 F m fuel (shr64 x 7) (l ++ [UInt8.ofNat (x.toNat % 128 + 128)]) hlt (by omega) (by simp;omega)
   refine ⟨y,UInt8.ofNat (x.toNat % 128 + 128) :: pre,?_,?_,by simp;omega⟩
   ·have e7:(UInt64.ofNat 7).toNat=7:=rfl
    have hg:gapp l [x.toUInt8 ||| UInt8.ofNat 128]=some (l ++ [UInt8.ofNat (x.toNat % 128 + 128)]):=by
     rw [byte60];unfold gapp;rw [if_pos (by simp;omega)]
    have step:L117_2 F x l=some (.inl (shr64 x 7,l ++ [UInt8.ofNat (x.toNat % 128 + 128)])):=by
     simp only [L117_2,L117_2c,h',decide_true,cond_true,hg,Option.bind_some,e7]
    rw [it_again (f:=fun s:UInt64×List UInt8=>L117_2 F s.1 s.2) (s:=(x,l)) step,h1]
    simp
   ·rw [List.cons_append,h2,hd]
    simp [encN,show ¬ x.toNat < 128 by omega]
  ·have h':¬ UInt64.ofNat 128≤x:=h
   have step:L117_2 F x l=some (.inr (x,l)):=by simp only [L117_2,L117_2c,h',decide_false,cond_false]
   refine ⟨x,[],?_,by rw [List.nil_append,u8_of];simp only [encN,show x.toNat < 128 by omega,if_true],by simp⟩
   rw [it_out (f:=fun s:UInt64×List UInt8=>L117_2 F s.1 s.2) (s:=(x,l)) step];simp
theorem l45 (F:Nat):∀ (m fuel:Nat) (x:UInt64) (l:List UInt8),x.toNat < 128 ^ (m + 1)->m < fuel->l.length + m < 1000000->∃ y pre,iter (fun s:UInt64×List UInt8=>L100_2 F s.1 s.2) fuel (x,l)=some (y,l ++ pre)∧pre ++ [y.toUInt8]=encN m x.toNat∧pre.length≤m
 | m,0,x,l,hx,hf,hl=>by omega
 | 0,fuel + 1,x,l,hx,hf,hl=>by
  have h:¬ UInt64.ofNat 127 < x:=by
   show ¬ (127 < x.toNat);omega
  have step:L100_2 F x l=some (.inr (x,l)):=by simp only [L100_2,L100_2c,h,decide_false,cond_false]
  refine ⟨x,[],?_,by rw [List.nil_append,u8_of];simp only [encN],by simp⟩
  rw [it_out (f:=fun s:UInt64×List UInt8=>L100_2 F s.1 s.2) (s:=(x,l)) step];simp
 | m + 1,fuel + 1,x,l,hx,hf,hl=>by
  by_cases h:127 < x.toNat
  ·have h':UInt64.ofNat 127 < x:=h
   have hd:=div128 x
   have hlt:(x / UInt64.ofNat 128).toNat < 128 ^ (m + 1):=by rw [hd];exact Nat.div_lt_of_lt_mul (by rw [Nat.pow_succ] at hx;omega)
   obtain ⟨y,pre,h1,h2,h3⟩:=l45 F m fuel (x / UInt64.ofNat 128) (l ++ [UInt8.ofNat (x.toNat % 128 + 128)]) hlt (by omega) (by simp;omega)
   refine ⟨y,UInt8.ofNat (x.toNat % 128 + 128) :: pre,?_,?_,by simp;omega⟩
   ·have hg:gapp l [((x % (UInt64.ofNat 128)).toUInt8) + (UInt8.ofNat 128)]=some (l ++ [UInt8.ofNat (x.toNat % 128 + 128)]):=by
     rw [byte45];unfold gapp;rw [if_pos (by simp;omega)]
    have step:L100_2 F x l=some (.inl (x / UInt64.ofNat 128,l ++ [UInt8.ofNat (x.toNat % 128 + 128)])):=by
     simp only [L100_2,L100_2c,h',decide_true,cond_true,hg,Option.bind_some]
    rw [it_again (f:=fun s:UInt64×List UInt8=>L100_2 F s.1 s.2) (s:=(x,l)) step,h1]
    simp
   ·rw [List.cons_append,h2,hd]
    simp [encN,show ¬ x.toNat < 128 by omega]
  ·have h':¬ UInt64.ofNat 127 < x:=h
   have step:L100_2 F x l=some (.inr (x,l)):=by simp only [L100_2,L100_2c,h',decide_false,cond_false]
   refine ⟨x,[],?_,by rw [List.nil_append,u8_of];simp only [encN,show x.toNat < 128 by omega,if_true],by simp⟩
   rw [it_out (f:=fun s:UInt64×List UInt8=>L100_2 F s.1 s.2) (s:=(x,l)) step];simp
def enc (n:Nat):List UInt8:=encN 9 n
theorem u64_lt (x:UInt64):x.toNat < 128 ^ (9 + 1):=Nat.lt_of_lt_of_le x.toNat_lt (by decide)
theorem t45' {F:Nat} (hF:50 < F) (x:UInt64):T100 F x=some (enc x.toNat):=by
 obtain ⟨y,pre,h1,h2,h3⟩:=l45 F 9 F x [] (u64_lt x) (by omega) (by simp)
 simp only [T100,T100c]
 rw [h1]
 simp only [Option.bind_some,List.nil_append]
 have:gapp pre [y.toUInt8]=some (pre ++ [y.toUInt8]):=by unfold gapp;rw [if_pos (by simp;omega)]
 rw [this,h2];rfl
theorem encN_one {m n:Nat} (h:n < 128):encN m n=[UInt8.ofNat n]:=by
 cases m<;>simp [encN,h]
def decS:Nat->List UInt8->Option (Nat×Nat)
 | _,[]=>none
 | i,b :: r=>if 10≤i then none else if 128≤b.toNat then (match decS (i + 1) r with
   | some (v,n)=>some (b.toNat % 128 + 128 * v,n + 1)
   | none=>none) else if 0 < i∧b.toNat=0 then none else if i=9∧1 < b.toNat then none else some (b.toNat,1)
theorem decS_bd:∀ (l:List UInt8) (i v n:Nat),i≤10->decS i l=some (v,n)->v * 128 ^ i < 2 ^ 64∧1≤n∧n≤l.length∧i + n≤10∧(0 < i->0 < v)
 | [],i,v,n,hi,h=>by simp [decS] at h
 | b :: r,i,v,n,hi,h=>by
  simp only [decS] at h
  split at h
  ·cases h
  split at h
  ·split at h<;>first | (cases h;done) | skip
   rename_i v' n' hr
   cases h
   obtain ⟨h1,h2,h3,h4,h5⟩:=decS_bd r (i + 1) v' n' (by omega) hr
   have hv:=h5 (by omega)
   refine ⟨?_,by omega,by simp;omega,by omega,fun _=>by omega⟩
   have hb:b.toNat % 128 < 128:=Nat.mod_lt _ (by omega)
   have hi':i≤8:=by omega
   have e:v' * 128 ^ (i + 1)=128 * v' * 128 ^ i:=by rw [Nat.pow_succ];ac_rfl
   rw [e] at h1
   have hd:(2:Nat) ^ 64=2 ^ (64 - 7 * i) * 128 ^ i:=by
    have:(128:Nat) ^ i=2 ^ (7 * i):=by rw [Nat.pow_mul]
    rw [this,← Nat.pow_add];congr 1;omega
   have hp:0 < 128 ^ i:=Nat.pow_pos (by omega)
   rw [hd] at h1 ⊢
   have h1':128 * v' < 2 ^ (64 - 7 * i):=Nat.lt_of_mul_lt_mul_right h1
   have hd2:(2:Nat) ^ (64 - 7 * i)=128 * 2 ^ (57 - 7 * i):=by
    rw [show (128:Nat)=2 ^ 7 from rfl,← Nat.pow_add];congr 1;omega
   rw [hd2] at h1' ⊢
   have h1'':v' < 2 ^ (57 - 7 * i):=Nat.lt_of_mul_lt_mul_left h1'
   exact Nat.mul_lt_mul_of_pos_right (by omega) hp
  ·split at h
   ·cases h
   split at h
   ·cases h
   rename_i hx hb h0 h9
   cases h
   refine ⟨?_,by omega,by simp,by omega,fun h=>by omega⟩
   have hp:128 ^ i=2 ^ (7 * i):=by rw [show (128:Nat)=2 ^ 7 from rfl,Nat.pow_mul]
   by_cases hi9:i=9
   ·subst hi9
    have:b.toNat≤1:=by omega
    calc b.toNat * 128 ^ 9≤1 * 128 ^ 9:=Nat.mul_le_mul_right _ this
     _ < 2 ^ 64:=by decide
   ·have h1:b.toNat * 128 ^ i < 128 * 128 ^ i:=Nat.mul_lt_mul_of_pos_right (by omega) (Nat.pow_pos (by omega))
    have h2:128 * 128 ^ i≤128 * 128 ^ 8:=Nat.mul_le_mul_left _ (Nat.pow_le_pow_right (by omega) (by omega))
    have h3:128 * 128 ^ 8 < 2 ^ 64:=by decide
    omega
theorem decS_enc:∀ (l:List UInt8) (i v n:Nat),i < 10->decS i l=some (v,n)->l.take n=encN (9 - i) v∧(encN (9 - i) v).length=n
 | [],i,v,n,hi,h=>by simp [decS] at h
 | b :: r,i,v,n,hi,h=>by
  have hbd:=decS_bd (b :: r) i v n (by omega) h
  simp only [decS] at h
  split at h
  ·cases h
  split at h
  ·split at h<;>first | (cases h;done) | skip
   rename_i hi10 hb v' n' hr
   cases h
   obtain ⟨h1,h2,h3,h4,h5⟩:=decS_bd r (i + 1) v' n' (by omega) hr
   have hv:=h5 (by omega)
   obtain ⟨h6,h7⟩:=decS_enc r (i + 1) v' n' (by omega) hr
   have e:9 - i=(9 - (i + 1)) + 1:=by omega
   have hb2:b.toNat < 256:=b.toNat_lt
   rw [e]
   simp only [encN]
   rw [if_neg (by omega),show (b.toNat % 128 + 128 * v') / 128=v' by omega,show (b.toNat % 128 + 128 * v') % 128=b.toNat % 128 by omega,show b.toNat % 128 + 128=b.toNat by omega]
   exact ⟨by rw [List.take_succ_cons,h6,UInt8.ofNat_toNat],by rw [List.length_cons,h7]⟩
  ·split at h
   ·cases h
   split at h
   ·cases h
   rename_i hx hb h0 h9
   cases h
   have:encN (9 - i) b.toNat=[UInt8.ofNat b.toNat]:=encN_one (by omega)
   rw [this];simp
theorem enc_decS:∀ (m v:Nat) (r:List UInt8),m≤9->v * 128 ^ (9 - m) < 2 ^ 64->(m < 9->0 < v)->decS (9 - m) (encN m v ++ r)=some (v,(encN m v).length)
 | 0,v,r,hm,hv,h0=>by
  have hv1:v≤1:=by
   rcases Nat.lt_or_ge 1 v with h | h
   ·have:2 * 128 ^ 9≤v * 128 ^ 9:=Nat.mul_le_mul_right _ h
    have:2 * 128 ^ 9=2 ^ 64:=by decide
    simp only [Nat.sub_zero] at hv
    omega
   ·exact h
  have hp:=h0 (by omega)
  obtain rfl:v=1:=by omega
  rfl
 | m + 1,v,r,hm,hv,h0=>by
  simp only [encN]
  by_cases h:v < 128
  ·rw [if_pos h]
   have hb:(UInt8.ofNat v).toNat=v:=by rw [UInt8.toNat_ofNat'];omega
   simp only [List.cons_append,List.nil_append,decS,hb]
   rw [if_neg (by omega),if_neg (by omega)]
   by_cases h9:m + 1=9
   ·rw [if_neg (by omega),if_neg (by omega)];rfl
   ·have:=h0 (by omega)
    rw [if_neg (by omega),if_neg (by omega)];rfl
  ·rw [if_neg h]
   have hb:(UInt8.ofNat (v % 128 + 128)).toNat=v % 128 + 128:=by rw [UInt8.toNat_ofNat'];omega
   have hd:v / 128 * 128 ^ (9 - m) < 2 ^ 64:=by
    have e:(128:Nat) ^ (9 - m)=128 ^ (9 - (m + 1)) * 128:=by rw [← Nat.pow_succ];congr 1;omega
    rw [e]
    calc v / 128 * (128 ^ (9 - (m + 1)) * 128)=(v / 128 * 128) * 128 ^ (9 - (m + 1)):=by ac_rfl
     _≤v * 128 ^ (9 - (m + 1)):=Nat.mul_le_mul_right _ (Nat.div_mul_le_self v 128)
     _ < 2 ^ 64:=hv
   have ih:=enc_decS m (v / 128) r (by omega) hd (fun _=>by omega)
   simp only [List.cons_append,decS,hb]
   rw [if_neg (by omega),if_pos (by omega),show 9 - (m + 1) + 1=9 - m by omega,ih]
   simp only [Option.some.injEq,Prod.mk.injEq,List.length_cons,and_true]
   omega
theorem enc_dec {v:Nat} (hv:v < 2 ^ 64) (r:List UInt8):decS 0 (enc v ++ r)=some (v,(enc v).length):=
 enc_decS 9 v r (by omega) (by simpa using hv) (fun h=>by omega)
theorem dec_enc {l:List UInt8} {v n:Nat} (h:decS 0 l=some (v,n)):l.take n=enc v∧(enc v).length=n∧v < 2 ^ 64∧n≤l.length:=by
 obtain ⟨h1,h2⟩:=decS_enc l 0 v n (by omega) h
 have h3:=decS_bd l 0 v n (by omega) h
 exact ⟨h1,h2,by simpa using h3.1,h3.2.2.1⟩
theorem or_add {a x i:Nat} (h:a < 2 ^ i):a ||| (x * 2 ^ i)=a + x * 2 ^ i:=by
 rw [Nat.or_comm,Nat.add_comm,← Nat.shiftLeft_eq,Nat.shiftLeft_add_eq_or_of_lt h]
theorem and127:∀ b:_root_.Fin 256,(UInt8.ofNat b.val &&& UInt8.ofNat 127).toNat=b.val % 128:=by decide +kernel
theorem and127' (b:UInt8):(b &&& UInt8.ofNat 127).toNat=b.toNat % 128:=by
 have:=and127 ⟨b.toNat,b.toNat_lt⟩
 simpa using this
theorem acc90 {acc:UInt64} {b:UInt8} {i:Nat} (hi:i≤9) (ha:acc.toNat < 128 ^ i) (h9:i=9->b.toNat % 128≤1):(acc ||| (shl64 ((b &&& (UInt8.ofNat 127)).toUInt64) (7 * i))).toNat=acc.toNat + b.toNat % 128 * 128 ^ i∧b.toNat % 128 * 128 ^ i < 2 ^ 64:=by
 have hp:(128:Nat) ^ i=2 ^ (7 * i):=by rw [show (128:Nat)=2 ^ 7 from rfl,Nat.pow_mul]
 have hlt:b.toNat % 128 * 128 ^ i < 2 ^ 64:=by
  by_cases h:i=9
  ·subst h
   calc b.toNat % 128 * 128 ^ 9≤1 * 128 ^ 9:=Nat.mul_le_mul_right _ (h9 rfl)
    _ < 2 ^ 64:=by decide
  ·have h1:b.toNat % 128 * 128 ^ i < 128 * 128 ^ i:=Nat.mul_lt_mul_of_pos_right (Nat.mod_lt _ (by omega)) (Nat.pow_pos (by omega))
   have h2:128 * 128 ^ i≤128 * 128 ^ 8:=Nat.mul_le_mul_left _ (Nat.pow_le_pow_right (by omega) (by omega))
   have h3:128 * 128 ^ 8 < 2 ^ 64:=by decide
   omega
 refine ⟨?_,hlt⟩
 have hs:(shl64 ((b &&& (UInt8.ofNat 127)).toUInt64) (7 * i)).toNat=b.toNat % 128 * 128 ^ i:=by
  show (((b &&& (UInt8.ofNat 127)).toUInt64).toBitVec <<< (7 * i)).toNat=_
  rw [BitVec.toNat_shiftLeft]
  have e1:((b &&& (UInt8.ofNat 127)).toUInt64).toBitVec.toNat=b.toNat % 128:=by
   show ((b &&& (UInt8.ofNat 127)).toUInt64).toNat=_
   rw [UInt8.toNat_toUInt64,and127']
  rw [e1,Nat.shiftLeft_eq,← hp,Nat.mod_eq_of_lt hlt]
 rw [UInt64.toNat_or,hs,hp]
 rw [hp] at ha
 exact or_add ha
theorem l90 (F:Nat) (b:List UInt8) (hb:b.length < 1000000000):∀ (m i fuel pos:Nat) (acc:UInt64),i + m=10->m < fuel->acc.toNat < 128 ^ i->pos≤b.length ->
  (∃ v n,decS i (b.drop pos)=some (v,n)∧iter (fun s:UInt64×Int×Int=>L162_2 F b s.1 s.2.1 s.2.2) fuel (acc,((i:Nat):Int),((pos:Nat):Int))=some (.inr (UInt64.ofNat (acc.toNat + v * 128 ^ i),0,((pos + n:Nat):Int)))) ∨
  (decS i (b.drop pos)=none∧((∃ p,iter (fun s:UInt64×Int×Int=>L162_2 F b s.1 s.2.1 s.2.2) fuel (acc,((i:Nat):Int),((pos:Nat):Int))=some (.inl p))∨∃ p,iter (fun s:UInt64×Int×Int=>L162_2 F b s.1 s.2.1 s.2.2) fuel (acc,((i:Nat):Int),((pos:Nat):Int))=some (.inr (UInt64.ofNat 0,3,p))))
 | m,i,0,pos,acc,him,hf,ha,hp=>by omega
 | 0,i,fuel + 1,pos,acc,him,hf,ha,hp=>by
  right
  have h:¬ (((i:Nat):Int) < 10):=by omega
  refine ⟨?_,.inl ⟨((pos:Nat):Int),?_⟩⟩
  ·cases b.drop pos with
   | nil=>rfl
   | cons x r=>simp only [decS];rw [if_pos (by omega)]
  ·have step:L162_2 F b acc ((i:Nat):Int) ((pos:Nat):Int)=some (.inr (.inl ((pos:Nat):Int))):=by
    simp only [L162_2,L162_2c,h,decide_false,cond_false]
   rw [it_out (f:=fun s:UInt64×Int×Int=>L162_2 F b s.1 s.2.1 s.2.2) (s:=(acc,((i:Nat):Int),((pos:Nat):Int))) step]
 | m + 1,i,fuel + 1,pos,acc,him,hf,ha,hp=>by
  have h:(((i:Nat):Int) < 10):=by omega
  by_cases he:pos=b.length
  ·right
   have e1:(((pos:Nat):Int) == (b.length:Int))=true:=by simp [he]
   refine ⟨by rw [List.drop_eq_nil_of_le (by omega)];rfl,.inr ⟨((pos:Nat):Int),?_⟩⟩
   have step:L162_2 F b acc ((i:Nat):Int) ((pos:Nat):Int)=some (.inr (.inr (UInt64.ofNat 0,3,((pos:Nat):Int)))):=by
    simp only [L162_2,L162_2c,h,decide_true,cond_true,e1]
   rw [it_out (f:=fun s:UInt64×Int×Int=>L162_2 F b s.1 s.2.1 s.2.2) (s:=(acc,((i:Nat):Int),((pos:Nat):Int))) step]
  ·have hlt:pos < b.length:=by omega
   have e1:(((pos:Nat):Int) == (b.length:Int))=false:=by simp;omega
   have hin:inb b.length ((pos:Nat):Int)=some pos:=by unfold inb;rw [if_pos (by omega)];simp
   have hg:gnn (w64 ((7:Int) * ((i:Nat):Int)))=some (7 * i):=by
    have w:w64 ((7:Int) * ((i:Nat):Int))=((7 * i:Nat):Int):=by rw [w64_in (by omega) (by omega)];omega
    rw [w];unfold gnn;rw [if_pos (by omega)];simp only [Int.toNat_natCast]
   have w1:w64 (((i:Nat):Int) + 1)=((i + 1:Nat):Int):=by rw [w64_in (by omega) (by omega)];omega
   have w2:w64 (((pos:Nat):Int) + 1)=((pos + 1:Nat):Int):=by rw [w64_in (by omega) (by omega)];omega
   have hd:b.drop pos=b[pos] :: b.drop (pos + 1):=List.drop_eq_getElem_cons hlt
   rw [hd]
   have hx:b[pos].toNat < 256:=b[pos].toNat_lt
   have hpw:(128:Nat) ^ (i + 1)=128 ^ i * 128:=Nat.pow_succ ..
   by_cases hc:128≤b[pos].toNat
   ·have hc':UInt8.ofNat 128≤b[pos]:=hc
    have step:L162_2 F b acc ((i:Nat):Int) ((pos:Nat):Int)=some (.inl (acc ||| (shl64 ((b[pos] &&& (UInt8.ofNat 127)).toUInt64) (7 * i)),((i + 1:Nat):Int),((pos + 1:Nat):Int))):=by
     simp only [L162_2,L162_2c,h,decide_true,cond_true,e1,cond_false,hin,Option.bind_some,List.getElem?_eq_getElem hlt,hg,hc',w1,w2]
    rw [it_again (f:=fun s:UInt64×Int×Int=>L162_2 F b s.1 s.2.1 s.2.2) (s:=(acc,((i:Nat):Int),((pos:Nat):Int))) step]
    have hds:decS i (b[pos] :: b.drop (pos + 1))=(match decS (i + 1) (b.drop (pos + 1)) with
      | some (v,n)=>some (b[pos].toNat % 128 + 128 * v,n + 1)
      | none=>none):=by
     simp only [decS];rw [if_neg (by omega),if_pos hc]
    rw [hds]
    by_cases hi9:i=9
    ·
     subst hi9
     have hn:decS (9 + 1) (b.drop (pos + 1))=none:=by
      cases b.drop (pos + 1) with
      | nil=>rfl
      | cons x r=>simp [decS]
     rw [hn]
     right
     refine ⟨rfl,?_⟩
     obtain ⟨f,rfl⟩:∃ f,fuel=f + 1:=⟨fuel - 1,by omega⟩
     left
     have h':¬ (((9 + 1:Nat):Int) < 10):=by omega
     refine ⟨((pos + 1:Nat):Int),?_⟩
     have step2:∀ a:UInt64,L162_2 F b a ((9 + 1:Nat):Int) ((pos + 1:Nat):Int)=some (.inr (.inl ((pos + 1:Nat):Int))):=fun a=>by
      simp only [L162_2,L162_2c,h',decide_false,cond_false]
     rw [it_out (f:=fun s:UInt64×Int×Int=>L162_2 F b s.1 s.2.1 s.2.2) (s:=(_,((9 + 1:Nat):Int),((pos + 1:Nat):Int))) (step2 _)]
    ·obtain ⟨hacc,_⟩:=acc90 (acc:=acc) (b:=b[pos]) (i:=i) (by omega) ha (fun h=>absurd h hi9)
     have hacc2:(acc ||| (shl64 ((b[pos] &&& (UInt8.ofNat 127)).toUInt64) (7 * i))).toNat < 128 ^ (i + 1):=by
      rw [hacc,hpw]
      have:b[pos].toNat % 128 * 128 ^ i≤127 * 128 ^ i:=Nat.mul_le_mul_right _ (by omega)
      omega
     rcases l90 F b hb m (i + 1) fuel (pos + 1) _ (by omega) (by omega) hacc2 (by omega) with ⟨v,n,h1,h2⟩ | ⟨h1,h2⟩
     ·left
      rw [h1]
      refine ⟨_,_,rfl,?_⟩
      rw [h2,hacc]
      have e:acc.toNat + b[pos].toNat % 128 * 128 ^ i + v * 128 ^ (i + 1)=acc.toNat + (b[pos].toNat % 128 + 128 * v) * 128 ^ i:=by
       rw [hpw,Nat.add_mul,Nat.add_assoc];congr 2;ac_rfl
      rw [e,show pos + 1 + n=pos + (n + 1) by omega]
     ·right
      rw [h1]
      exact ⟨rfl,h2⟩
   ·have hc':¬ UInt8.ofNat 128≤b[pos]:=hc
    have hds:decS i (b[pos] :: b.drop (pos + 1))=(if 0 < i∧b[pos].toNat=0 then none else if i=9∧1 < b[pos].toNat then none else some (b[pos].toNat,1)):=by
     simp only [decS];rw [if_neg (by omega),if_neg hc]
    rw [hds]
    have good:(i=9->b[pos].toNat≤1)->L162_2 F b acc ((i:Nat):Int) ((pos:Nat):Int)=some (.inr (.inr (acc ||| (shl64 ((b[pos] &&& (UInt8.ofNat 127)).toUInt64) (7 * i)),0,((pos + 1:Nat):Int)))) ->
      iter (fun s:UInt64×Int×Int=>L162_2 F b s.1 s.2.1 s.2.2) (fuel + 1) (acc,((i:Nat):Int),((pos:Nat):Int))=some (.inr (UInt64.ofNat (acc.toNat + b[pos].toNat * 128 ^ i),0,((pos + 1:Nat):Int))):=fun h9 step=>by
     rw [it_out (f:=fun s:UInt64×Int×Int=>L162_2 F b s.1 s.2.1 s.2.2) (s:=(acc,((i:Nat):Int),((pos:Nat):Int))) step]
     obtain ⟨hacc,_⟩:=acc90 (acc:=acc) (b:=b[pos]) (i:=i) (by omega) ha (fun h=>by have:=h9 h;omega)
     have hm:b[pos].toNat % 128=b[pos].toNat:=Nat.mod_eq_of_lt (by omega)
     rw [hm] at hacc
     rw [← hacc,UInt64.ofNat_toNat]
    have bad:L162_2 F b acc ((i:Nat):Int) ((pos:Nat):Int)=some (.inr (.inr (UInt64.ofNat 0,3,((pos + 1:Nat):Int))))->∃ p,iter (fun s:UInt64×Int×Int=>L162_2 F b s.1 s.2.1 s.2.2) (fuel + 1) (acc,((i:Nat):Int),((pos:Nat):Int))=some (.inr (UInt64.ofNat 0,3,p)):=fun step=>
     ⟨_,by rw [it_out (f:=fun s:UInt64×Int×Int=>L162_2 F b s.1 s.2.1 s.2.2) (s:=(acc,((i:Nat):Int),((pos:Nat):Int))) step]⟩
    have base:∀ z,(L162_2 F b acc ((i:Nat):Int) ((pos:Nat):Int)=z) ↔ ((bif decide ((0:Int) < ((i:Nat):Int)) then (bif (b[pos] == (UInt8.ofNat 0)) then some (.inr (.inr (UInt64.ofNat 0,3,((pos + 1:Nat):Int)))) else (bif (((i:Nat):Int) == 9) then (bif decide (UInt8.ofNat 1 < b[pos]) then some (.inr (.inr (UInt64.ofNat 0,3,((pos + 1:Nat):Int)))) else some (.inr (.inr (acc ||| (shl64 ((b[pos] &&& (UInt8.ofNat 127)).toUInt64) (7 * i)),0,((pos + 1:Nat):Int))))) else some (.inr (.inr (acc ||| (shl64 ((b[pos] &&& (UInt8.ofNat 127)).toUInt64) (7 * i)),0,((pos + 1:Nat):Int)))))) else (bif (((i:Nat):Int) == 9) then (bif decide (UInt8.ofNat 1 < b[pos]) then some (.inr (.inr (UInt64.ofNat 0,3,((pos + 1:Nat):Int)))) else some (.inr (.inr (acc ||| (shl64 ((b[pos] &&& (UInt8.ofNat 127)).toUInt64) (7 * i)),0,((pos + 1:Nat):Int))))) else some (.inr (.inr (acc ||| (shl64 ((b[pos] &&& (UInt8.ofNat 127)).toUInt64) (7 * i)),0,((pos + 1:Nat):Int))))))=z):=fun z=>by
     simp only [L162_2,L162_2c,h,decide_true,cond_true,e1,cond_false,hin,Option.bind_some,List.getElem?_eq_getElem hlt,hg,hc',decide_false,w2]
    have b0:(b[pos] == UInt8.ofNat 0)=decide (b[pos].toNat=0):=by
     rw [Bool.eq_iff_iff];simp only [beq_iff_eq,decide_eq_true_eq]
     exact ⟨fun h=>by rw [h];rfl,fun h=>UInt8.toNat_inj.1 (by rw [h];rfl)⟩
    have b1:decide (UInt8.ofNat 1 < b[pos])=decide (1 < b[pos].toNat):=rfl
    have i0:decide ((0:Int) < ((i:Nat):Int))=decide (0 < i):=by rw [Bool.eq_iff_iff];simp
    have i9:(((i:Nat):Int) == 9)=decide (i=9):=by rw [Bool.eq_iff_iff];simp;omega
    rw [b0,b1,i0,i9] at base
    by_cases c1:0 < i∧b[pos].toNat=0
    ·right
     rw [if_pos c1]
     exact ⟨rfl,.inr (bad ((base _).2 (by simp [c1.1,c1.2])))⟩
    ·rw [if_neg c1]
     by_cases c2:i=9∧1 < b[pos].toNat
     ·right
      rw [if_pos c2]
      have hz:¬ b[pos].toNat=0:=by omega
      exact ⟨rfl,.inr (bad ((base _).2 (by simp [c2.1,c2.2,hz])))⟩
     ·left
      rw [if_neg c2]
      refine ⟨_,_,rfl,good (fun h=>by omega) ((base _).2 ?_)⟩
      by_cases hi0:0 < i
      ·have hz:¬ b[pos].toNat=0:=fun h=>c1 ⟨hi0,h⟩
       by_cases hi9:i=9
       ·have:¬ 1 < b[pos].toNat:=fun h=>c2 ⟨hi9,h⟩
        simp [hi0,hz,hi9,this]
       ·simp [hi0,hz,hi9]
      ·have hi9:¬ i=9:=by omega
       simp [hi0,hi9]
theorem t90 {F:Nat} (hF:50 < F) (b:List UInt8) (hb:b.length < 1000000000) {pos:Nat} (hp:pos≤b.length) :
  (∃ v n,decS 0 (b.drop pos)=some (v,n)∧T162 F ((pos:Nat):Int) b=some (UInt64.ofNat v,0,((pos + n:Nat):Int))) ∨
  (decS 0 (b.drop pos)=none∧∃ p,T162 F ((pos:Nat):Int) b=some (UInt64.ofNat 0,3,p)):=by
 have z:((0:Nat):Int)=0:=rfl
 rcases l90 F b hb 10 0 F pos (UInt64.ofNat 0) (by omega) (by omega) (by decide) hp with ⟨v,n,h1,h2⟩ | ⟨h1,h2⟩
 ·left
  rw [z] at h2
  refine ⟨v,n,h1,?_⟩
  simp only [T162,T162c]
  rw [h2]
  simp [elimS]
 ·right
  rw [z] at h2
  refine ⟨h1,?_⟩
  rcases h2 with ⟨p,h2⟩ | ⟨p,h2⟩
  ·exact ⟨p,by simp only [T162,T162c];rw [h2];rfl⟩
  ·exact ⟨p,by simp only [T162,T162c];rw [h2];rfl⟩
theorem ix_nat {α:Type} {l:List α} {i:Nat} (h:i < l.length):ix l ((i:Nat):Int)=some l[i]:=by
 unfold ix;rw [if_pos (by omega)];simp only [Int.toNat_natCast];exact List.getElem?_eq_getElem h
def val:List UInt8->Nat
 | []=>0
 | b :: r=>b.toNat % 128 + 128 * val r
theorem val_snoc:∀ (l:List UInt8) (x:UInt8),val (l ++ [x])=val l + x.toNat % 128 * 128 ^ l.length
 | [],x=>by simp [val]
 | b :: r,x=>by
  simp only [List.cons_append,val,val_snoc r x,List.length_cons,Nat.pow_succ]
  rw [Nat.mul_add,Nat.add_assoc];congr 2;ac_rfl
theorem decS_val:∀ (l:List UInt8) (i v n:Nat),decS i l=some (v,n)->v=val (l.take n)∧1≤n∧(∀ j x,j + 1 < n->l[j]? = some x->128≤x.toNat)∧∃ x,l[n - 1]? = some x∧x.toNat < 128
 | [],i,v,n,h=>by simp [decS] at h
 | b :: r,i,v,n,h=>by
  simp only [decS] at h
  split at h
  ·cases h
  split at h
  ·split at h<;>first | (cases h;done) | skip
   rename_i hc _ v' n' hr
   cases h
   obtain ⟨h1,h2,h3,x,h4,h5⟩:=decS_val r (i + 1) v' n' hr
   refine ⟨by simp [val,← h1],by omega,fun j x hj hx=>?_,x,?_,h5⟩
   ·cases j with
    | zero=>simp at hx;subst hx;exact hc
    | succ j=>exact h3 j x (by omega) (by simpa using hx)
   ·obtain ⟨k,rfl⟩:∃ k,n'=k + 1:=⟨n' - 1,by omega⟩
    simpa using h4
  ·split at h
   ·cases h
   split at h
   ·cases h
   rename_i hx hb h0 h9
   cases h
   refine ⟨?_,by omega,fun j x hj _=>by omega,b,by simp,by omega⟩
   simp [val,Nat.mod_eq_of_lt (show b.toNat < 128 by omega)]
theorem mod_in (A V p N:Nat):(A % N * p + V) % N=(A * p + V) % N:=by
 rw [Nat.add_mod,Nat.mul_mod,Nat.mod_mod,← Nat.mul_mod,← Nat.add_mod]
theorem l77_5 (F:Nat) {b:List UInt8} {a:Nat} (hb:b.length < 1000000000):∀ (m fuel:Nat) (acc:UInt64),a + m≤b.length->m < fuel ->
  ∃ r,iter (fun s:UInt64×Int=>L165_5 F b ((a:Nat):Int) s.1 s.2) fuel (acc,((m:Nat):Int) - 1)=some r∧r.toNat=(acc.toNat * 128 ^ m + val ((b.drop a).take m)) % 2 ^ 64
 | m,0,acc,hm,hf=>by omega
 | 0,fuel + 1,acc,hm,hf=>by
  have h:¬ ((0:Int)≤((0:Nat):Int) - 1):=by omega
  refine ⟨acc,?_,?_⟩
  ·have step:L165_5 F b ((a:Nat):Int) acc (((0:Nat):Int) - 1)=some (.inr acc):=by
    simp only [L165_5,L165_5c,h,decide_false,cond_false]
   rw [it_out (f:=fun s:UInt64×Int=>L165_5 F b ((a:Nat):Int) s.1 s.2) (s:=(acc,_)) step]
  ·have:=acc.toNat_lt
   first | (simp [val];done) | (simp [val];omega)
 | m + 1,fuel + 1,acc,hm,hf=>by
  have e:((m + 1:Nat):Int) - 1=((m:Nat):Int):=by omega
  rw [e]
  have h:((0:Int)≤((m:Nat):Int)):=by omega
  have hlt:a + m < b.length:=by omega
  have w1:w64 (((a:Nat):Int) + ((m:Nat):Int))=((a + m:Nat):Int):=by rw [w64_in (by omega) (by omega)];omega
  have hx:ix b ((a + m:Nat):Int)=some b[a + m]:=ix_nat hlt
  have w2:w64 (((m:Nat):Int) - 1)=((m:Nat):Int) - 1:=w64_in (by omega) (by omega)
  obtain ⟨r,h1,h2⟩:=l77_5 F (a:=a) hb m fuel ((acc * UInt64.ofNat 128) + (b[a + m] % UInt8.ofNat 128).toUInt64) (by omega) (by omega)
  refine ⟨r,?_,?_⟩
  ·have step:L165_5 F b ((a:Nat):Int) acc ((m:Nat):Int)=some (.inl ((acc * UInt64.ofNat 128) + (b[a + m] % UInt8.ofNat 128).toUInt64,((m:Nat):Int) - 1)):=by
    simp only [L165_5,L165_5c,h,decide_true,cond_true,w1,hx,Option.bind_some,w2]
   rw [it_again (f:=fun s:UInt64×Int=>L165_5 F b ((a:Nat):Int) s.1 s.2) (s:=(acc,_)) step,h1]
  ·rw [h2]
   have ht:(b.drop a).take (m + 1)=(b.drop a).take m ++ [b[a + m]]:=by
    rw [List.take_succ_eq_append_getElem (by simp;omega)];simp
   have hl:((b.drop a).take m).length=m:=by simp;omega
   rw [ht,val_snoc,hl]
   have ha:((acc * UInt64.ofNat 128) + (b[a + m] % UInt8.ofNat 128).toUInt64).toNat=(acc.toNat * 128 + b[a + m].toNat % 128) % 2 ^ 64:=by
    rw [UInt64.toNat_add,UInt64.toNat_mul,UInt8.toNat_toUInt64,UInt8.toNat_mod]
    have e1:(UInt64.ofNat 128).toNat=128:=rfl
    have e2:(UInt8.ofNat 128).toNat=128:=rfl
    rw [e1,e2]
    have:=mod_in (acc.toNat * 128) (b[a + m].toNat % 128) 1 (2 ^ 64)
    simp
   rw [ha,mod_in]
   congr 1
   rw [Nat.pow_succ,Nat.add_mul,Nat.add_assoc,Nat.add_comm (b[a + m].toNat % 128 * 128 ^ m)]
   congr 1;ac_rfl
theorem l77_6 (F:Nat) {b ag:List UInt8} {a:Nat} (hb:b.length < 1000000000) (hn:a + ag.length≤b.length):∀ (m fuel j:Nat),j + m=ag.length->m < fuel ->
  iter (fun s=>L165_6 F b ((a:Nat):Int) ((ag.length:Nat):Int) ag s) fuel ((j:Nat):Int)=some (if ag.drop j=((b.drop a).take ag.length).drop j then .inl () else .inr (UInt64.ofNat 0,0,false))
 | m,0,j,hj,hf=>by omega
 | 0,fuel + 1,j,hj,hf=>by
  have h:¬ (((j:Nat):Int) < ((ag.length:Nat):Int)):=by omega
  have step:L165_6 F b ((a:Nat):Int) ((ag.length:Nat):Int) ag ((j:Nat):Int)=some (.inr (.inl ())):=by
   simp only [L165_6,L165_6c,h,decide_false,cond_false]
  rw [it_out (f:=fun s=>L165_6 F b ((a:Nat):Int) ((ag.length:Nat):Int) ag s) step]
  rw [List.drop_eq_nil_of_le (by omega),List.drop_eq_nil_of_le (by simp;omega)]
  simp
 | m + 1,fuel + 1,j,hj,hf=>by
  have h:(((j:Nat):Int) < ((ag.length:Nat):Int)):=by omega
  have hjl:j < ag.length:=by omega
  have hjb:a + j < b.length:=by omega
  have w1:w64 (((a:Nat):Int) + ((j:Nat):Int))=((a + j:Nat):Int):=by rw [w64_in (by omega) (by omega)];omega
  have w2:w64 (((j:Nat):Int) + 1)=((j + 1:Nat):Int):=by rw [w64_in (by omega) (by omega)];omega
  have hx:ix b ((a + j:Nat):Int)=some b[a + j]:=ix_nat hjb
  have hin:inb ag.length ((j:Nat):Int)=some j:=by unfold inb;rw [if_pos (by omega)];simp
  have d1:ag.drop j=ag[j] :: ag.drop (j + 1):=List.drop_eq_getElem_cons hjl
  have d2:((b.drop a).take ag.length).drop j=b[a + j] :: ((b.drop a).take ag.length).drop (j + 1):=by
   rw [List.drop_eq_getElem_cons (by simp;omega)];simp
  rw [d1,d2]
  by_cases hc:ag[j]=b[a + j]
  ·have hne:(ag[j] != b[a + j])=false:=by simp [hc]
   have step:L165_6 F b ((a:Nat):Int) ((ag.length:Nat):Int) ag ((j:Nat):Int)=some (.inl ((j + 1:Nat):Int)):=by
    simp only [L165_6,L165_6c,h,decide_true,cond_true,hin,Option.bind_some,List.getElem?_eq_getElem hjl,w1,hx,hne,cond_false,w2]
   rw [it_again (f:=fun s=>L165_6 F b ((a:Nat):Int) ((ag.length:Nat):Int) ag s) step,l77_6 F hb hn m fuel (j + 1) (by omega) (by omega)]
   simp [hc]
  ·have hne:(ag[j] != b[a + j])=true:=by simpa using hc
   have step:L165_6 F b ((a:Nat):Int) ((ag.length:Nat):Int) ag ((j:Nat):Int)=some (.inr (.inr (UInt64.ofNat 0,0,false))):=by
    simp only [L165_6,L165_6c,h,decide_true,cond_true,hin,Option.bind_some,List.getElem?_eq_getElem hjl,w1,hx,hne]
   rw [it_out (f:=fun s=>L165_6 F b ((a:Nat):Int) ((ag.length:Nat):Int) ag s) step]
   rw [if_neg (fun h=>by injection h with h1 _;exact hc h1)]
theorem decS_at {l:List UInt8} {v k n:Nat} {x:UInt8} (h:decS 0 l=some (v,k)) (hn:1≤n) (hx:l[n - 1]? = some x) (hlo:x.toNat < 128) (hbe:∀ j y,j + 1 < n->l[j]? = some y->128≤y.toNat):k=n:=by
 obtain ⟨h1,h2,h3,y,h4,h5⟩:=decS_val l 0 v k h
 rcases Nat.lt_trichotomy k n with h6 | h6 | h6
 ·have:=hbe (k - 1) y (by omega) h4;omega
 ·exact h6
 ·have:=h3 (n - 1) x (by omega) hx;omega
theorem l77_4 (F:Nat) (hF:50 < F) {b:List UInt8} {a:Nat} (hb:b.length < 1000000000) (ha:a≤b.length):∀ (m fuel n:Nat),n + m=11->m < fuel->1≤n->(∀ j y,j + 1 < n->(b.drop a)[j]? = some y->128≤y.toNat) ->
  (∃ v k,decS 0 (b.drop a)=some (v,k)∧iter (fun s=>L165_4 F b ((a:Nat):Int) s) fuel ((n:Nat):Int)=some (.inr (UInt64.ofNat v,((a + k:Nat):Int),true))) ∨
  (decS 0 (b.drop a)=none∧(iter (fun s=>L165_4 F b ((a:Nat):Int) s) fuel ((n:Nat):Int)=some (.inl ())∨iter (fun s=>L165_4 F b ((a:Nat):Int) s) fuel ((n:Nat):Int)=some (.inr (UInt64.ofNat 0,0,false))))
 | m,0,n,hm,hf,hn,hbe=>by omega
 | 0,fuel + 1,n,hm,hf,hn,hbe=>by
  right
  have h:¬ (((n:Nat):Int)≤10):=by omega
  refine ⟨?_,.inl ?_⟩
  ·cases hd:decS 0 (b.drop a) with
   | none=>rfl
   | some r=>
    obtain ⟨v,k⟩:=r
    obtain ⟨h1,h2,h3,y,h4,h5⟩:=decS_val _ 0 v k hd
    have h6:=decS_bd _ 0 v k (by omega) hd
    have:=hbe (k - 1) y (by omega) h4
    omega
  ·have step:L165_4 F b ((a:Nat):Int) ((n:Nat):Int)=some (.inr (.inl ())):=by
    simp only [L165_4,L165_4c,h,decide_false,cond_false]
   rw [it_out (f:=fun s=>L165_4 F b ((a:Nat):Int) s) step]
 | m + 1,fuel + 1,n,hm,hf,hn,hbe=>by
  have h:(((n:Nat):Int)≤10):=by omega
  have w1:w64 (((a:Nat):Int) + ((n:Nat):Int))=((a + n:Nat):Int):=by rw [w64_in (by omega) (by omega)];omega
  by_cases hl:a + n≤b.length
  ·have hl':(((a + n:Nat):Int)≤(b.length:Int)):=by omega
   have hlt:a + (n - 1) < b.length:=by omega
   have w2:w64 (((a + n:Nat):Int) - 1)=((a + (n - 1):Nat):Int):=by rw [w64_in (by omega) (by omega)];omega
   have hx:ix b ((a + (n - 1):Nat):Int)=some b[a + (n - 1)]:=ix_nat hlt
   have hget:(b.drop a)[n - 1]? = some b[a + (n - 1)]:=by simp [hlt]
   by_cases hc:128≤b[a + (n - 1)].toNat
   ·have hc':UInt8.ofNat 128≤b[a + (n - 1)]:=hc
    have w3:w64 (((n:Nat):Int) + 1)=((n + 1:Nat):Int):=by rw [w64_in (by omega) (by omega)];omega
    have step:L165_4 F b ((a:Nat):Int) ((n:Nat):Int)=some (.inl ((n + 1:Nat):Int)):=by
     simp only [L165_4,L165_4c,h,decide_true,cond_true,w1,hl',w2,hx,Option.bind_some,hc',w3]
    rw [it_again (f:=fun s=>L165_4 F b ((a:Nat):Int) s) step]
    refine l77_4 F hF hb ha m fuel (n + 1) (by omega) (by omega) (by omega) (fun j y hj hy=>?_)
    by_cases hjn:j + 1=n
    ·have:j=n - 1:=by omega
     rw [this,hget] at hy
     cases hy;exact hc
    ·exact hbe j y (by omega) hy
   ·have hc':¬ UInt8.ofNat 128≤b[a + (n - 1)]:=hc
    obtain ⟨r,hr1,hr2⟩:=l77_5 F hb n F (UInt64.ofNat 0) (a:=a) hl (by omega)
    have z0:(UInt64.ofNat 0).toNat=0:=rfl
    rw [z0,Nat.zero_mul,Nat.zero_add] at hr2
    have w4:w64 (((n:Nat):Int) - 1)=((n:Nat):Int) - 1:=w64_in (by omega) (by omega)
    have t45:=t45' hF r
    have uniq:∀ v k,decS 0 (b.drop a)=some (v,k)->k=n∧v=r.toNat∧enc r.toNat=(b.drop a).take n:=fun v k hd=>by
     have hk:=decS_at hd hn hget (by omega) hbe
     subst hk
     obtain ⟨q1,q2,q3,q4⟩:=dec_enc hd
     have hv:=(decS_val _ 0 v k hd).1
     have:r.toNat=v:=by rw [hr2,← hv];exact Nat.mod_eq_of_lt q3
     exact ⟨rfl,this.symm,by rw [this,q1]⟩
    by_cases hlen:(enc r.toNat).length=n
    ·have hne:(((enc r.toNat).length:Int) != ((n:Nat):Int))=false:=by simp [hlen]
     have l6:=l77_6 F (b:=b) (ag:=enc r.toNat) (a:=a) hb (by omega) n F 0 (by omega) (by omega)
     have z:((0:Nat):Int)=0:=rfl
     rw [z,hlen,List.drop_zero,List.drop_zero] at l6
     by_cases heq:enc r.toNat=(b.drop a).take n
     ·left
      have hdec:decS 0 (b.drop a)=some (r.toNat,n):=by
       have:=enc_dec r.toNat_lt ((b.drop a).drop n)
       rw [heq,List.take_append_drop] at this
       rw [this,← heq,hlen]
      rw [if_pos heq] at l6
      refine ⟨_,_,hdec,?_⟩
      have step:L165_4 F b ((a:Nat):Int) ((n:Nat):Int)=some (.inr (.inr (r,((a + n:Nat):Int),true))):=by
       simp only [L165_4,L165_4c,h,decide_true,cond_true,w1,hl',w2,hx,Option.bind_some,hc',decide_false,cond_false,w4,hr1,t45,hne,l6,elimS]
      rw [it_out (f:=fun s=>L165_4 F b ((a:Nat):Int) s) step,UInt64.ofNat_toNat]
     ·right
      rw [if_neg heq] at l6
      refine ⟨?_,.inr ?_⟩
      ·cases hd:decS 0 (b.drop a) with
       | none=>rfl
       | some q=>exact absurd (uniq q.1 q.2 hd).2.2 heq
      ·have step:L165_4 F b ((a:Nat):Int) ((n:Nat):Int)=some (.inr (.inr (UInt64.ofNat 0,0,false))):=by
        simp only [L165_4,L165_4c,h,decide_true,cond_true,w1,hl',w2,hx,Option.bind_some,hc',decide_false,cond_false,w4,hr1,t45,hne,l6,elimS]
       rw [it_out (f:=fun s=>L165_4 F b ((a:Nat):Int) s) step]
    ·have hne:(((enc r.toNat).length:Int) != ((n:Nat):Int))=true:=by simp;omega
     right
     refine ⟨?_,.inr ?_⟩
     ·cases hd:decS 0 (b.drop a) with
      | none=>rfl
      | some q=>
       obtain ⟨q1,q2,q3⟩:=uniq q.1 q.2 hd
       have:=(dec_enc hd).2.1
       rw [q2] at this
       omega
     ·have step:L165_4 F b ((a:Nat):Int) ((n:Nat):Int)=some (.inr (.inr (UInt64.ofNat 0,0,false))):=by
       simp only [L165_4,L165_4c,h,decide_true,cond_true,w1,hl',w2,hx,Option.bind_some,hc',decide_false,cond_false,w4,hr1,t45,hne]
      rw [it_out (f:=fun s=>L165_4 F b ((a:Nat):Int) s) step]
  ·have hl':¬ (((a + n:Nat):Int)≤(b.length:Int)):=by omega
   right
   refine ⟨?_,.inl ?_⟩
   ·cases hd:decS 0 (b.drop a) with
    | none=>rfl
    | some r=>
     obtain ⟨v,k⟩:=r
     obtain ⟨h1,h2,h3,y,h4,h5⟩:=decS_val _ 0 v k hd
     have h6:=decS_bd _ 0 v k (by omega) hd
     have h7:k≤b.length - a:=by simpa using h6.2.2.1
     have:=hbe (k - 1) y (by omega) h4
     omega
   ·have step:L165_4 F b ((a:Nat):Int) ((n:Nat):Int)=some (.inr (.inl ())):=by
     simp only [L165_4,L165_4c,h,decide_true,cond_true,w1,hl',decide_false,cond_false]
    rw [it_out (f:=fun s=>L165_4 F b ((a:Nat):Int) s) step]
theorem t77 {F:Nat} (hF:50 < F) (b:List UInt8) (hb:b.length < 1000000000) {a:Nat} (ha:a≤b.length) :
  (∃ v k,decS 0 (b.drop a)=some (v,k)∧T165 F b ((a:Nat):Int)=some (UInt64.ofNat v,((a + k:Nat):Int),true)) ∨
  (decS 0 (b.drop a)=none∧T165 F b ((a:Nat):Int)=some (UInt64.ofNat 0,0,false)):=by
 have o:((1:Nat):Int)=1:=rfl
 rcases l77_4 F hF hb ha 10 F 1 (by omega) (by omega) (by omega) (fun j y hj _=>by omega) with ⟨v,k,h1,h2⟩ | ⟨h1,h2⟩
 ·left
  rw [o] at h2
  exact ⟨v,k,h1,by simp only [T165,T165c];rw [h2];rfl⟩
 ·right
  rw [o] at h2
  refine ⟨h1,?_⟩
  rcases h2 with h2 | h2<;>(simp only [T165,T165c];rw [h2];rfl)
abbrev Bs:=List UInt8
abbrev Rf:=List UInt8×Int×Int×Unit
abbrev Sn:=Int×Int×Int×Rf×Int×Int×List UInt8×Bool×Unit
abbrev Sp:=List UInt8×Int×Int×Int×Int×List Rf×Unit
abbrev Ix:=Int×Int×List Int×List Sn×List Sp×List Rf
def zig (n:Int):Nat:=if n < 0 then (2 * (-n - 1) + 1).toNat else (2 * n).toNat
def uzg (n:Nat):Int:=if n % 2=1 then -((n / 2:Nat):Int) - 1 else ((n / 2:Nat):Int)
theorem uzg_zig (n:Int):uzg (zig n)=n:=by unfold uzg zig;split<;>split<;>omega
theorem zig_uzg (n:Nat):zig (uzg n)=n:=by unfold uzg zig;split<;>split<;>omega
def eI (n:Int):Bs:=enc (zig n)
def eT (s:Bs):Bs:=enc s.length ++ s
def eB (b:Bool):Bs:=[bif b then 1 else 0]
def eL {α:Type} (e:α->Bs) (l:List α):Bs:=enc l.length ++ l.flatMap e
def eR (r:Rf):Bs:=r.1 ++ (eI r.2.1 ++ eI r.2.2.1)
def eSn (s:Sn):Bs:=eI s.1 ++ (eI s.2.1 ++ (eI s.2.2.1 ++ (eR s.2.2.2.1 ++ (eI s.2.2.2.2.1 ++ (eI s.2.2.2.2.2.1 ++ (eT s.2.2.2.2.2.2.1 ++ eB s.2.2.2.2.2.2.2.1))))))
def eSp (s:Sp):Bs:=s.1 ++ (eI s.2.1 ++ (eI s.2.2.1 ++ (eI s.2.2.2.1 ++ (eI s.2.2.2.2.1 ++ eL eR s.2.2.2.2.2.1))))
def eX (x:Ix):Bs:=eI x.1 ++ (eI x.2.1 ++ (eL eI x.2.2.1 ++ (eL eSn x.2.2.2.1 ++ (eL eSp x.2.2.2.2.1 ++ eL eR x.2.2.2.2.2))))
def wi (n a b:Int):Bool:=decide (a≤n) && decide (n≤b)
def vR (r:Rf):Bool:=decide (r.1.length=32) && (wi r.2.1 0 1099511627776 && wi r.2.2.1 0 32768)
def vSn (s:Sn):Bool:=wi s.1 0 11 && (wi s.2.1 1 1099511627776 && (wi s.2.2.1 0 999999 && (vR s.2.2.2.1 && (wi s.2.2.2.2.1 0 1099511627776 && (wi s.2.2.2.2.2.1 0 1099511627776 && (decide (s.2.2.2.2.2.2.1.length=0) || decide (s.2.2.2.2.2.2.1.length=32)))))))
def vSp (s:Sp):Bool:=decide (s.1.length=32) && (wi s.2.1 0 1000 && (wi s.2.2.1 1 65536 && (wi s.2.2.2.1 1 8 && (wi s.2.2.2.2.1 1 16 && (decide (s.2.2.2.2.2.1.length≤8) && s.2.2.2.2.2.1.all vR)))))
def vX (x:Ix):Bool:=wi x.1 0 1000 && (wi x.2.1 0 1000 && (decide (x.2.2.1.length≤12) && (decide (x.2.2.2.1.length≤4096) && (decide (x.2.2.2.2.1.length≤4096) && (decide (x.2.2.2.2.2.length≤4096) &&
 (x.2.2.1.all (fun n=>wi n 0 1099511627776) && (x.2.2.2.1.all vSn && (x.2.2.2.2.1.all vSp && x.2.2.2.2.2.all vR))))))))
abbrev RS:=Option Bs
def rN:RS->Nat×RS
 | none=>(0,none)
 | some r=>match decS 0 r with
  | some (v,n)=>(v,some (r.drop n))
  | none=>(0,none)
def rI (s:RS):Int×RS:=(uzg (rN s).1,(rN s).2)
def rC (m:Nat):RS->Nat×RS
 | none=>(0,none)
 | some r=>match decS 0 r with
  | some (v,n)=>if v≤m then (v,some (r.drop n)) else (0,none)
  | none=>(0,none)
def rT (m:Nat):RS->Bs×RS
 | none=>([],none)
 | some r=>match decS 0 r with
  | some (v,n)=>if v≤m∧v≤(r.drop n).length then ((r.drop n).take v,some ((r.drop n).drop v)) else ([],none)
  | none=>([],none)
def rS:RS->Bs×RS
 | none=>([],none)
 | some r=>if 32≤r.length then (r.take 32,some (r.drop 32)) else ([],none)
def rB:RS->Bool×RS
 | none=>(false,none)
 | some []=>(false,none)
 | some (x :: r)=>if x.toNat≤1 then (decide (x.toNat=1),some r) else (false,none)
def rL {α:Type} (rd:RS->α×RS):Nat->RS->List α×RS
 | 0,s=>([],s)
 | n + 1,s=>((rd s).1 :: (rL rd n (rd s).2).1,(rL rd n (rd s).2).2)
def rLs {α:Type} (m:Nat) (rd:RS->α×RS) (s:RS):List α×RS:=rL rd (rC m s).1 (rC m s).2
def rR (s:RS):Rf×RS:=(((rS s).1,(rI (rS s).2).1,(rI (rI (rS s).2).2).1,()),(rI (rI (rS s).2).2).2)
def rSn (s:RS):Sn×RS:=
 let a:=rI s;let b:=rI a.2;let c:=rI b.2;let d:=rR c.2;let e:=rI d.2;let f:=rI e.2;let g:=rT 32 f.2;let h:=rB g.2
 ((a.1,b.1,c.1,d.1,e.1,f.1,g.1,h.1,()),h.2)
def rSp (s:RS):Sp×RS:=
 let a:=rS s;let b:=rI a.2;let c:=rI b.2;let d:=rI c.2;let e:=rI d.2;let f:=rLs 8 rR e.2
 ((a.1,b.1,c.1,d.1,e.1,f.1,()),f.2)
def rX (s:RS):Ix×RS:=
 let a:=rI s;let b:=rI a.2;let c:=rLs 12 rI b.2;let d:=rLs 4096 rSn c.2;let e:=rLs 4096 rSp d.2;let f:=rLs 4096 rR e.2
 ((a.1,b.1,c.1,d.1,e.1,f.1),f.2)
def Inv {α:Type} (rd:RS->α×RS) (e:α->Bs):Prop:=∀ s r,(rd s).2=some r->s=some (e (rd s).1 ++ r)
theorem dec_split {l:Bs} {v n:Nat} (h:decS 0 l=some (v,n)):l=enc v ++ l.drop n:=by
 have:=(dec_enc h).1
 rw [← this,List.take_append_drop]
theorem invN:Inv rN enc:=by
 intro s r h
 cases s with
 | none=>simp [rN] at h
 | some l=>
  simp only [rN] at h ⊢
  cases hd:decS 0 l with
  | none=>simp [hd] at h
  | some p=>
   obtain ⟨v,n⟩:=p
   simp only [hd,Option.some.injEq] at h ⊢
   subst h;exact dec_split hd
theorem invI:Inv rI eI:=by
 intro s r h
 have:=invN s r h
 simpa only [rI,eI,zig_uzg] using this
theorem invC (m:Nat):Inv (rC m) enc:=by
 intro s r h
 cases s with
 | none=>simp [rC] at h
 | some l=>
  simp only [rC] at h ⊢
  cases hd:decS 0 l with
  | none=>simp [hd] at h
  | some p=>
   obtain ⟨v,n⟩:=p
   simp only [hd] at h ⊢
   split at h
   ·rename_i hv;simp only [Option.some.injEq] at h;rw [if_pos hv];subst h;exact congrArg some (dec_split hd)
   ·simp at h
theorem rC_le (m:Nat) (s:RS):(rC m s).1≤m:=by
 cases s with
 | none=>simp [rC]
 | some l=>
  simp only [rC]
  cases hd:decS 0 l with
  | none=>simp
  | some p=>obtain ⟨v,n⟩:=p;simp only;split<;>simp_all
theorem invT (m:Nat):Inv (rT m) eT:=by
 intro s r h
 cases s with
 | none=>simp [rT] at h
 | some l=>
  simp only [rT] at h ⊢
  cases hd:decS 0 l with
  | none=>simp [hd] at h
  | some p=>
   obtain ⟨v,n⟩:=p
   simp only [hd] at h ⊢
   split at h
   ·rename_i hv
    simp only [Option.some.injEq] at h
    rw [if_pos hv]
    subst h
    have hl:((l.drop n).take v).length=v:=by rw [List.length_take];omega
    simp only [eT,hl,List.append_assoc,List.take_append_drop]
    exact congrArg some (dec_split hd)
   ·simp at h
theorem invS:Inv rS (fun x=>x):=by
 intro s r h
 cases s with
 | none=>simp [rS] at h
 | some l=>
  simp only [rS] at h ⊢
  split at h
  ·rename_i hv;simp only [Option.some.injEq] at h;rw [if_pos hv];subst h;simp only [List.take_append_drop]
  ·simp at h
theorem invB:Inv rB eB:=by
 intro s r h
 match s with
 | none=>simp [rB] at h
 | some []=>simp [rB] at h
 | some (x :: l)=>
  simp only [rB] at h ⊢
  split at h
  ·rename_i hv
   simp only [Option.some.injEq] at h
   rw [if_pos hv];subst h
   have:x=(bif decide (x.toNat=1) then (1:UInt8) else 0):=by
    apply UInt8.toNat_inj.1
    by_cases h1:x.toNat=1
    ·simp [h1]
    ·have h0:x.toNat=0:=by omega
     simp [h0]
   simp only [eB,List.singleton_append]
   rw [← this]
  ·simp at h
theorem invL {α:Type} {rd:RS->α×RS} {e:α->Bs} (h:Inv rd e):∀ n,Inv (rL rd n) (fun l=>l.flatMap e):=by
 intro n
 induction n with
 | zero=>intro s r hs;simpa [rL] using hs
 | succ n ih=>
  intro s r hs
  have h1:=ih _ _ hs
  have h2:=h _ _ h1
  simp only [rL,List.flatMap_cons,List.append_assoc]
  exact h2
theorem rL_len {α:Type} (rd:RS->α×RS):∀ n s,(rL rd n s).1.length=n:=by
 intro n
 induction n with
 | zero=>intro s;rfl
 | succ n ih=>intro s;simp [rL,ih]
theorem invLs {α:Type} {rd:RS->α×RS} {e:α->Bs} (m:Nat) (h:Inv rd e):Inv (rLs m rd) (eL e):=by
 intro s r hs
 have h1:=invL h _ _ _ hs
 have h2:=invC m _ _ h1
 simp only [rLs,eL,rL_len,List.append_assoc]
 exact h2
theorem invR:Inv rR eR:=by
 intro s r hs
 have h1:=invI _ _ hs
 have h2:=invI _ _ h1
 have h3:=invS _ _ h2
 simp only [rR,eR,List.append_assoc]
 exact h3
theorem invSn:Inv rSn eSn:=by
 intro s r hs
 have h1:=invB _ _ hs
 have h2:=invT 32 _ _ h1
 have h3:=invI _ _ h2
 have h4:=invI _ _ h3
 have h5:=invR _ _ h4
 have h6:=invI _ _ h5
 have h7:=invI _ _ h6
 have h8:=invI _ _ h7
 simp only [rSn,eSn,List.append_assoc]
 exact h8
theorem invSp:Inv rSp eSp:=by
 intro s r hs
 have h1:=invLs 8 invR _ _ hs
 have h2:=invI _ _ h1
 have h3:=invI _ _ h2
 have h4:=invI _ _ h3
 have h5:=invI _ _ h4
 have h6:=invS _ _ h5
 simp only [rSp,eSp,List.append_assoc]
 exact h6
theorem invX:Inv rX eX:=by
 intro s r hs
 have h1:=invLs 4096 invR _ _ hs
 have h2:=invLs 4096 invSp _ _ h1
 have h3:=invLs 4096 invSn _ _ h2
 have h4:=invLs 12 invI _ _ h3
 have h5:=invI _ _ h4
 have h6:=invI _ _ h5
 simp only [rX,eX,List.append_assoc]
 exact h6
def Fwd {α:Type} (rd:RS->α×RS) (e:α->Bs) (P:α->Prop):Prop:=∀ v r,P v->rd (some (e v ++ r))=(v,some r)
theorem fwdN:Fwd rN enc (fun v=>v < 2 ^ 64):=by
 intro v r h
 simp only [rN,enc_dec h,List.drop_left]
theorem fwdI:Fwd rI eI (fun n=>-9223372036854775808≤n∧n≤9223372036854775807):=by
 intro v r h
 have hz:zig v < 2 ^ 64:=by unfold zig;split<;>omega
 simp only [rI,eI,fwdN _ r hz,uzg_zig]
theorem fwdC (m:Nat) (hm:m < 2 ^ 64):Fwd (rC m) enc (fun v=>v≤m):=by
 intro v r h
 simp only [rC,enc_dec (show v < 2 ^ 64 by omega),List.drop_left,if_pos h]
theorem fwdT (m:Nat) (hm:m < 2 ^ 64):Fwd (rT m) eT (fun v=>v.length≤m):=by
 intro v r h
 have h2:v.length≤(v ++ r).length:=by simp
 simp only [rT,eT,List.append_assoc,enc_dec (show v.length < 2 ^ 64 by omega),List.drop_left,if_pos (And.intro h h2),List.take_left]
theorem fwdS:Fwd rS (fun x=>x) (fun v=>v.length=32):=by
 intro v r h
 have h2:32≤(v ++ r).length:=by simp;omega
 simp only [rS,if_pos h2]
 rw [← h,List.take_left,List.drop_left]
theorem fwdB:Fwd rB eB (fun _=>True):=by
 intro v r _
 cases v<;>simp [rB,eB]
theorem fwdL {α:Type} {rd:RS->α×RS} {e:α->Bs} {P:α->Prop} (h:Fwd rd e P):∀ (l:List α) r,(∀ x ∈ l,P x)->rL rd l.length (some (l.flatMap e ++ r))=(l,some r):=by
 intro l
 induction l with
 | nil=>intro r _;simp [rL]
 | cons x l ih=>
  intro r hl
  have h1:=h x (l.flatMap e ++ r) (hl x (by simp))
  simp only [List.length_cons,rL,List.flatMap_cons,List.append_assoc,h1,ih r fun y hy=>hl y (by simp [hy])]
theorem fwdLs {α:Type} {rd:RS->α×RS} {e:α->Bs} {P:α->Prop} {m:Nat} (hm:m < 2 ^ 64) (h:Fwd rd e P):Fwd (rLs m rd) (eL e) (fun l=>l.length≤m∧∀ x ∈ l,P x):=by
 intro l r hl
 simp only [rLs,eL,List.append_assoc,fwdC m hm _ _ hl.1,fwdL h l r hl.2]
theorem fwdR:Fwd rR eR (fun v=>vR v=true):=by
 intro v r h
 obtain ⟨a,b,c,⟨⟩⟩:=v
 simp only [vR,wi,Bool.and_eq_true,decide_eq_true_eq] at h
 simp only [rR,eR,List.append_assoc,fwdS a _ h.1,fwdI b _ (by omega),fwdI c _ (by omega)]
theorem fwdSn:Fwd rSn eSn (fun v=>vSn v=true):=by
 intro v r h
 obtain ⟨a,b,c,d,e,f,g,i,⟨⟩⟩:=v
 simp only [vSn,wi,Bool.and_eq_true,Bool.or_eq_true,decide_eq_true_eq] at h
 obtain ⟨h1,h2,h3,h4,h5,h6,h7⟩:=h
 simp only [rSn,eSn,List.append_assoc,fwdI a _ (by omega),fwdI b _ (by omega),fwdI c _ (by omega),fwdR d _ h4,fwdI e _ (by omega),fwdI f _ (by omega),fwdT 32 (by omega) g _ (by omega),fwdB i _ trivial]
theorem fwdSp:Fwd rSp eSp (fun v=>vSp v=true):=by
 intro v r h
 obtain ⟨a,b,c,d,e,f,⟨⟩⟩:=v
 simp only [vSp,wi,Bool.and_eq_true,decide_eq_true_eq,List.all_eq_true] at h
 obtain ⟨h1,h2,h3,h4,h5,h6,h7⟩:=h
 simp only [rSp,eSp,List.append_assoc,fwdS a _ h1,fwdI b _ (by omega),fwdI c _ (by omega),fwdI d _ (by omega),fwdI e _ (by omega),fwdLs (m:=8) (by omega) fwdR f _ ⟨h6,h7⟩]
theorem fwdX:Fwd rX eX (fun v=>vX v=true):=by
 intro v r h
 obtain ⟨a,b,c,d,e,f⟩:=v
 simp only [vX,wi,Bool.and_eq_true,decide_eq_true_eq,List.all_eq_true] at h
 obtain ⟨h1,h2,h3,h4,h5,h6,h7,h8,h9,h10⟩:=h
 simp only [rX,eX,List.append_assoc,fwdI a _ (by omega),fwdI b _ (by omega),fwdLs (m:=12) (by omega) fwdI c _ ⟨h3,fun x hx=>by have:=h7 x hx;omega⟩,fwdLs (m:=4096) (by omega) fwdSn d _ ⟨h4,h8⟩,fwdLs (m:=4096) (by omega) fwdSp e _ ⟨h5,h9⟩,fwdLs (m:=4096) (by omega) fwdR f _ ⟨h6,h10⟩]
abbrev Out:=Int×Int×Int×List Int×List Sn×List Sp×List Rf
def badX:Out:=(0,0,3,[],[],[],[])
def okX (x:Ix):Out:=(x.1,x.2.1,0,x.2.2.1,x.2.2.2.1,x.2.2.2.2.1,x.2.2.2.2.2)
def encR (x:Ix):Int×Bs:=if vX x=true then (if 1048560 < (eX x).length then (2,[]) else (0,eX x)) else (1,[])
def decR (b:Bs):Out:=if 1048560 < b.length then badX else if (rX (some b)).2=some []∧vX (rX (some b)).1=true then okX (rX (some b)).1 else badX
theorem dec_of_enc {x:Ix} (hv:vX x=true) (hl:(eX x).length≤1048560):decR (eX x)=okX x:=by
 have h:=fwdX x [] hv
 rw [List.append_nil] at h
 unfold decR
 rw [if_neg (by omega),h,if_pos ⟨rfl,hv⟩]
theorem decR_cases (b:Bs):decR b=badX∨∃ x,decR b=okX x∧vX x=true∧b=eX x∧b.length≤1048560:=by
 unfold decR
 split
 ·exact .inl rfl
 ·split
  ·rename_i h1 h2
   refine .inr ⟨_,rfl,h2.2,?_,by omega⟩
   have:=invX _ _ h2.1
   simpa using this
  ·exact .inl rfl
theorem gapp_ok {α:Type} {xs ys:List α} (h:xs.length + ys.length≤1000000000):gapp xs ys=some (xs ++ ys):=by unfold gapp;rw [if_pos (by omega)]
theorem ixG {α:Type} {l:List α} {i:Nat} (h:i < l.length):ix l ((i:Nat):Int)=some l[i]:=ix_nat h
theorem w64s {n:Nat} (h:n < 1000000000):w64 (((n:Nat):Int) + 1)=((n + 1:Nat):Int):=by rw [w64_in (by omega) (by omega)];omega
theorem leq {l:List UInt8} {k:Nat}:((l.length:Int) == (k:Int))=decide (l.length=k):=decide_eq_decide.2 (by omega)
theorem leq32 {l:List UInt8}:((l.length:Int) == 32)=decide (l.length=32):=leq (k:=32)
theorem leq0 {l:List UInt8}:((l.length:Int) == 0)=decide (l.length=0):=leq (k:=0)
theorem lne32 {l:List UInt8}:((l.length:Int) != 32) = !decide (l.length=32):=congrArg (!·) (leq (k:=32))
theorem lne0 {l:List UInt8}:((l.length:Int) != 0) = !decide (l.length=0):=congrArg (!·) (leq (k:=0))
theorem lgt {α:Type} {l:List α} {k:Nat}:decide ((k:Int) < (l.length:Int)) = !decide (l.length≤k):=by
 by_cases h:l.length≤k
 ·rw [decide_eq_true h,Bool.not_true];exact decide_eq_false (by omega)
 ·rw [decide_eq_false h,Bool.not_false];exact decide_eq_true (by omega)
theorem all_loop {α ρ:Type} {f:Int->Option (Int ⊕ (Unit ⊕ ρ))} {l:List α} {p:α->Bool} {g:Int->ρ} (hl:l.length < 1000000)
  (hs:∀ i (h:i < l.length),f ((i:Nat):Int)=some (bif p l[i] then .inl ((i + 1:Nat):Int) else .inr (.inr (g ((i:Nat):Int)))))
  (he:f (l.length:Int)=some (.inr (.inl ()))) {fuel:Nat} (hf:l.length < fuel) :
  (l.all p=true∧iter f fuel (0:Int)=some (.inl ()))∨(l.all p=false∧∃ i:Nat,iter f fuel (0:Int)=some (.inr (g (i:Int)))):=by
 have key:∀ (m i fuel:Nat),i + m=l.length->m < fuel->((l.drop i).all p=true∧iter f fuel ((i:Nat):Int)=some (.inl ()))∨((l.drop i).all p=false∧∃ j:Nat,iter f fuel ((i:Nat):Int)=some (.inr (g (j:Int)))):=by
  intro m
  induction m with
  | zero=>
   intro i fuel hi hf
   obtain ⟨fuel,rfl⟩:∃ k,fuel=k + 1:=⟨fuel - 1,by omega⟩
   refine .inl ⟨by rw [List.drop_eq_nil_of_le (by omega)];rfl,?_⟩
   have:i=l.length:=by omega
   subst this
   simp only [iter,he,Option.bind_some]
  | succ m ih=>
   intro i fuel hi hf
   obtain ⟨fuel,rfl⟩:∃ k,fuel=k + 1:=⟨fuel - 1,by omega⟩
   have hil:i < l.length:=by omega
   have hd:l.drop i=l[i] :: l.drop (i + 1):=by rw [List.drop_eq_getElem_cons hil]
   have h1:=hs i hil
   by_cases hp:p l[i]=true
   ·rw [hp,cond_true] at h1
    have hi1:iter f (fuel + 1) ((i:Nat):Int)=iter f fuel ((i + 1:Nat):Int):=it_again h1
    rw [hi1,hd,List.all_cons,hp,Bool.true_and]
    exact ih (i + 1) fuel (by omega) (by omega)
   ·rw [Bool.not_eq_true] at hp;rw [hp,cond_false] at h1
    refine .inr ⟨by rw [hd,List.all_cons];simp [hp],i,?_⟩
    exact it_out h1
 simpa using key l.length 0 fuel (by omega) hf
theorem cat_loop {σ ρ α β:Type} {f:σ->Option (σ ⊕ ρ)} (c:Int->List β->σ) {l:List α} {g:α->List β} {fin:List β->ρ} (B:Nat)
  (hs:∀ i (h:i < l.length) acc,acc.length + (g l[i]).length≤B->f (c ((i:Nat):Int) acc)=some (.inl (c ((i + 1:Nat):Int) (acc ++ g l[i]))))
  (he:∀ acc,f (c (l.length:Int) acc)=some (.inr (fin acc))) {fuel:Nat} (hf:l.length < fuel) {acc:List β} (hB:acc.length + (l.flatMap g).length≤B) :
  iter f fuel (c 0 acc)=some (fin (acc ++ l.flatMap g)):=by
 have key:∀ (m i fuel:Nat) (acc:List β),i + m=l.length->m < fuel->acc.length + ((l.drop i).flatMap g).length≤B->iter f fuel (c ((i:Nat):Int) acc)=some (fin (acc ++ (l.drop i).flatMap g)):=by
  intro m
  induction m with
  | zero=>
   intro i fuel acc hi hf hB
   obtain ⟨fuel,rfl⟩:∃ k,fuel=k + 1:=⟨fuel - 1,by omega⟩
   have:i=l.length:=by omega
   subst this
   rw [List.drop_length]
   simpa using it_out (he acc)
  | succ m ih=>
   intro i fuel acc hi hf hB
   obtain ⟨fuel,rfl⟩:∃ k,fuel=k + 1:=⟨fuel - 1,by omega⟩
   have hil:i < l.length:=by omega
   have hd:l.drop i=l[i] :: l.drop (i + 1):=by rw [List.drop_eq_getElem_cons hil]
   rw [hd,List.flatMap_cons] at hB ⊢
   rw [List.length_append] at hB
   rw [it_again (hs i hil acc (by omega)),← List.append_assoc]
   exact ih (i + 1) fuel _ (by omega) (by omega) (by rw [List.length_append];omega)
 simpa using key l.length 0 fuel acc (by omega) hf (by simpa using hB)
theorem t110 (F:Nat) (n a b:Int):T110 F n a b=some (wi n a b):=by simp only [T110,T110c,wi];cases decide (a≤n)<;>rfl
theorem t118 (F:Nat) (n a b:Int):T118 F n a b=some (wi n a b):=by simp only [T118,T118c,wi];cases decide (a≤n)<;>rfl
theorem t155 (F:Nat) (r:Rf):T155 F r.1 r.2.1 r.2.2.1=some (vR r):=by
 simp only [T155,T155c,t110,Option.bind_some,leq32,vR]
 cases decide (r.1.length=32)<;>cases wi r.2.1 0 1099511627776<;>cases wi r.2.2.1 0 32768<;>rfl
theorem t119 (F:Nat) (r:Rf):T119 F r.1 r.2.1 r.2.2.1=some (vR r):=by
 simp only [T119,T119c,t118,Option.bind_some,leq32,vR]
 cases decide (r.1.length=32)<;>cases wi r.2.1 0 1099511627776<;>cases wi r.2.2.1 0 32768<;>rfl
theorem t113 {F:Nat} {l:List Rf} (hF:5000 < F) (hl:l.length≤4096):T113 F l=some (l.all vR):=by
 have h:=all_loop (f:=fun s=>L195_2 F l (l.length:Int) s) (l:=l) (p:=vR) (g:=fun i=>i) (by omega)
  (fun i h=>by
   have h1:((i:Nat):Int) < (l.length:Int):=by omega
   simp only [L195_2,L195_2c,h1,decide_true,cond_true,ixG h,Option.bind_some,T157,T157c,t155,w64s (show i < 1000000000 by omega)]
   cases vR l[i]<;>rfl)
  (by
   have h1:¬ ((l.length:Int) < (l.length:Int)):=by omega
   simp only [L195_2,L195_2c,h1,decide_false,cond_false]) (fuel:=F) (by omega)
 rcases h with ⟨h1,h2⟩ | ⟨h1,i,h2⟩
 ·simp only [T113,T113c,T156,T156c,T195,T195c,h2,Option.bind_some,elimS,h1];rfl
 ·have h3:(0:Int)≤(i:Int):=by omega
  simp only [T113,T113c,T156,T156c,T195,T195c,h2,Option.bind_some,elimS,h1,h3,decide_true];rfl
theorem t111 (F:Nat) (s:Sn):T111 F s.1 s.2.1 s.2.2.1 s.2.2.2.1.1 s.2.2.2.1.2.1 s.2.2.2.1.2.2.1 s.2.2.2.2.1 s.2.2.2.2.2.1 s.2.2.2.2.2.2.1=some (vSn s):=by
 simp only [T111,T111c,t110,t155 F s.2.2.2.1,Option.bind_some,leq32,leq0,vSn]
 generalize wi s.1 0 11=b1
 generalize wi s.2.1 1 1099511627776=b2
 generalize wi s.2.2.1 0 999999=b3
 generalize vR s.2.2.2.1=b4
 generalize wi s.2.2.2.2.1 0 1099511627776=b5
 generalize wi s.2.2.2.2.2.1 0 1099511627776=b6
 generalize decide (s.2.2.2.2.2.2.1.length=0)=b7
 generalize decide (s.2.2.2.2.2.2.1.length=32)=b8
 cases b1<;>cases b2<;>cases b3<;>cases b4<;>cases b5<;>cases b6<;>cases b7<;>rfl
theorem t112 {F:Nat} (hF:5000 < F) (s:Sp):T112 F s.1 s.2.1 s.2.2.1 s.2.2.2.1 s.2.2.2.2.1 s.2.2.2.2.2.1=some (vSp s):=by
 have e8:decide ((s.2.2.2.2.2.1.length:Int)≤8)=decide (s.2.2.2.2.2.1.length≤8):=decide_eq_decide.2 (by omega)
 simp only [T112,T112c,t110,Option.bind_some,lne32,vSp,e8]
 by_cases h:s.2.2.2.2.2.1.length≤8
 ·rw [t113 hF (by omega)]
  generalize wi s.2.1 0 1000=b1
  generalize wi s.2.2.1 1 65536=b2
  generalize wi s.2.2.2.1 1 8=b3
  generalize wi s.2.2.2.2.1 1 16=b4
  generalize decide (s.1.length=32)=b5
  generalize decide (s.2.2.2.2.2.1.length≤8)=b6
  cases b1<;>cases b2<;>cases b3<;>cases b4<;>cases b5<;>cases b6<;>rfl
 ·simp only [h,decide_false]
  generalize wi s.2.1 0 1000=b1
  generalize wi s.2.2.1 1 65536=b2
  generalize wi s.2.2.2.1 1 8=b3
  generalize wi s.2.2.2.2.1 1 16=b4
  generalize decide (s.1.length=32)=b5
  cases b1<;>cases b2<;>cases b3<;>cases b4<;>cases b5<;>rfl
theorem t43 {F:Nat} (hF:5000 < F) (x:Ix):T43 F x.1 x.2.1 x.2.2.1 x.2.2.2.1 x.2.2.2.2.1 x.2.2.2.2.2=some (vX x):=by
 obtain ⟨a,b,v,sn,sp,gs⟩:=x
 simp only [T43,T43c,t110,Option.bind_some,vX]
 have e12:decide ((12:Int) < (v.length:Int)) = !decide (v.length≤12):=lgt (k:=12)
 have e1:decide ((4096:Int) < (sn.length:Int)) = !decide (sn.length≤4096):=lgt (k:=4096)
 have e2:decide ((4096:Int) < (sp.length:Int)) = !decide (sp.length≤4096):=lgt (k:=4096)
 have e3:decide ((4096:Int) < (gs.length:Int)) = !decide (gs.length≤4096):=lgt (k:=4096)
 simp only [e12,e1,e2,e3]
 cases wi a 0 1000
 ·rfl
 cases wi b 0 1000
 ·rfl
 by_cases h1:v.length≤12
 rotate_left
 ·simp only [h1,decide_false];rfl
 by_cases h2:sn.length≤4096
 rotate_left
 ·simp only [h1,h2,decide_false,decide_true];rfl
 by_cases h3:sp.length≤4096
 rotate_left
 ·simp only [h1,h2,h3,decide_false,decide_true];rfl
 by_cases h4:gs.length≤4096
 rotate_left
 ·simp only [h1,h2,h3,h4,decide_false,decide_true];rfl
 simp only [h1,h2,h3,h4,decide_true,Bool.not_true,cond_false,Bool.true_and,t113 hF h4,Option.bind_some]
 have l4:=all_loop (f:=fun s=>L43_4 F v (v.length:Int) s) (l:=v) (p:=fun n=>wi n 0 1099511627776) (g:=fun _=>false) (by omega)
  (fun i h=>by
   have h1:((i:Nat):Int) < (v.length:Int):=by omega
   simp only [L43_4,L43_4c,h1,decide_true,cond_true,ixG h,Option.bind_some,t110,w64s (show i < 1000000000 by omega)]
   cases wi v[i] 0 1099511627776<;>rfl)
  (by
   have h1:¬ ((v.length:Int) < (v.length:Int)):=by omega
   simp only [L43_4,L43_4c,h1,decide_false,cond_false]) (fuel:=F) (by omega)
 have l5:=all_loop (f:=fun s=>L43_5 F sn (sn.length:Int) s) (l:=sn) (p:=vSn) (g:=fun _=>false) (by omega)
  (fun i h=>by
   have h1:((i:Nat):Int) < (sn.length:Int):=by omega
   simp only [L43_5,L43_5c,h1,decide_true,cond_true,ixG h,Option.bind_some,t111,w64s (show i < 1000000000 by omega)]
   cases vSn sn[i]<;>rfl)
  (by
   have h1:¬ ((sn.length:Int) < (sn.length:Int)):=by omega
   simp only [L43_5,L43_5c,h1,decide_false,cond_false]) (fuel:=F) (by omega)
 have l6:=all_loop (f:=fun s=>L43_6 F sp (sp.length:Int) s) (l:=sp) (p:=vSp) (g:=fun _=>false) (by omega)
  (fun i h=>by
   have h1:((i:Nat):Int) < (sp.length:Int):=by omega
   simp only [L43_6,L43_6c,h1,decide_true,cond_true,ixG h,Option.bind_some,t112 hF,w64s (show i < 1000000000 by omega)]
   cases vSp sp[i]<;>rfl)
  (by
   have h1:¬ ((sp.length:Int) < (sp.length:Int)):=by omega
   simp only [L43_6,L43_6c,h1,decide_false,cond_false]) (fuel:=F) (by omega)
 rcases l4 with ⟨a1,a2⟩ | ⟨a1,i,a2⟩
 ·rcases l5 with ⟨b1,b2⟩ | ⟨b1,i,b2⟩
  ·rcases l6 with ⟨c1,c2⟩ | ⟨c1,i,c2⟩
   ·simp only [a1,a2,b1,b2,c1,c2,Option.bind_some,elimS,Bool.true_and]
   ·simp only [a1,a2,b1,b2,c1,c2,Option.bind_some,elimS,Bool.true_and,Bool.false_and]
  ·simp only [a1,a2,b1,b2,Option.bind_some,elimS,Bool.true_and,Bool.false_and]
 ·simp only [a1,a2,Option.bind_some,elimS,Bool.true_and,Bool.false_and]
theorem lall {F:Nat} {l:List Rf} (hF:5000 < F) (hl:l.length≤4096) {f:Int->Option (Int ⊕ (Unit ⊕ Bool))} (hf:f=(fun s=>L60_12 F l (l.length:Int) s)∨f=(fun s=>L60_11 F l (l.length:Int) s)):iter f F (0:Int)=some (bif l.all vR then .inl () else .inr false):=by
 have h:=all_loop (f:=f) (l:=l) (p:=vR) (g:=fun _=>false) (by omega)
  (fun i h=>by
   have h1:((i:Nat):Int) < (l.length:Int):=by omega
   rcases hf with rfl | rfl
   ·simp only [L60_12,L60_12c,h1,decide_true,cond_true,ixG h,Option.bind_some,t119,w64s (show i < 1000000000 by omega)]
    cases vR l[i]<;>rfl
   ·simp only [L60_11,L60_11c,h1,decide_true,cond_true,ixG h,Option.bind_some,t119,w64s (show i < 1000000000 by omega)]
    cases vR l[i]<;>rfl)
  (by
   have h1:¬ ((l.length:Int) < (l.length:Int)):=by omega
   rcases hf with rfl | rfl
   ·simp only [L60_12,L60_12c,h1,decide_false,cond_false]
   ·simp only [L60_11,L60_11c,h1,decide_false,cond_false]) (fuel:=F) (by omega)
 rcases h with ⟨h1,h2⟩ | ⟨h1,i,h2⟩
 ·rw [h2,h1];rfl
 ·rw [h2,h1];rfl
theorem t60 {F:Nat} (hF:5000 < F) (x:Ix):T60 F x.1 x.2.1 x.2.2.1 x.2.2.2.1 x.2.2.2.2.1 x.2.2.2.2.2=some (vX x):=by
 obtain ⟨a,b,v,sn,sp,gs⟩:=x
 simp only [T60,T60c,t118,Option.bind_some,vX]
 have e12:decide ((12:Int) < (v.length:Int)) = !decide (v.length≤12):=lgt (k:=12)
 have e1:decide ((4096:Int) < (sn.length:Int)) = !decide (sn.length≤4096):=lgt (k:=4096)
 have e2:decide ((4096:Int) < (sp.length:Int)) = !decide (sp.length≤4096):=lgt (k:=4096)
 have e3:decide ((4096:Int) < (gs.length:Int)) = !decide (gs.length≤4096):=lgt (k:=4096)
 simp only [e12,e1,e2,e3]
 cases wi a 0 1000
 ·rfl
 cases wi b 0 1000
 ·rfl
 by_cases h1:v.length≤12
 rotate_left
 ·simp only [h1,decide_false];rfl
 by_cases h2:sn.length≤4096
 rotate_left
 ·simp only [h1,h2,decide_false,decide_true];rfl
 by_cases h3:sp.length≤4096
 rotate_left
 ·simp only [h1,h2,h3,decide_false,decide_true];rfl
 by_cases h4:gs.length≤4096
 rotate_left
 ·simp only [h1,h2,h3,h4,decide_false,decide_true];rfl
 simp only [h1,h2,h3,h4,decide_true,Bool.not_true,cond_false,Bool.true_and,Option.bind_some]
 have l4:=all_loop (f:=fun s=>L60_7 F v (v.length:Int) s) (l:=v) (p:=fun n=>wi n 0 1099511627776) (g:=fun _=>false) (by omega)
  (fun i h=>by
   have h1:((i:Nat):Int) < (v.length:Int):=by omega
   simp only [L60_7,L60_7c,h1,decide_true,cond_true,ixG h,Option.bind_some,t118,w64s (show i < 1000000000 by omega)]
   cases wi v[i] 0 1099511627776<;>rfl)
  (by
   have h1:¬ ((v.length:Int) < (v.length:Int)):=by omega
   simp only [L60_7,L60_7c,h1,decide_false,cond_false]) (fuel:=F) (by omega)
 have l5:=all_loop (f:=fun s=>L60_8 F sn (sn.length:Int) s) (l:=sn) (p:=vSn) (g:=fun _=>false) (by omega)
  (fun i h=>by
   have h1:((i:Nat):Int) < (sn.length:Int):=by omega
   have h9:L60_9 F sn ((i:Nat):Int)=some (bif vSn sn[i] then .inl ((i + 1:Nat):Int) else .inr false):=by
    simp only [L60_9,L60_9c,ixG h,Option.bind_some,t118,t119,lne32,lne0,w64s (show i < 1000000000 by omega),vSn]
    generalize sn[i]=s
    generalize wi s.1 0 11=b1
    generalize wi s.2.1 1 1099511627776=b2
    generalize wi s.2.2.1 0 999999=b3
    generalize vR s.2.2.2.1=b4
    generalize wi s.2.2.2.2.1 0 1099511627776=b5
    generalize wi s.2.2.2.2.2.1 0 1099511627776=b6
    generalize decide (s.2.2.2.2.2.2.1.length=0)=b7
    generalize decide (s.2.2.2.2.2.2.1.length=32)=b8
    cases b1<;>cases b2<;>cases b3<;>cases b4<;>cases b5<;>cases b6<;>cases b7<;>cases b8<;>rfl
   simp only [L60_8,L60_8c,h1,decide_true,cond_true,h9,Option.bind_some]
   cases vSn sn[i]<;>rfl)
  (by
   have h1:¬ ((sn.length:Int) < (sn.length:Int)):=by omega
   simp only [L60_8,L60_8c,h1,decide_false,cond_false]) (fuel:=F) (by omega)
 have l6:=all_loop (f:=fun s=>L60_10 F sp (sp.length:Int) s) (l:=sp) (p:=vSp) (g:=fun _=>false) (by omega)
  (fun i h=>by
   have h1:((i:Nat):Int) < (sp.length:Int):=by omega
   have e8:decide ((8:Int) < ((sp[i]).2.2.2.2.2.1.length:Int)) = !decide ((sp[i]).2.2.2.2.2.1.length≤8):=lgt (k:=8)
   simp only [L60_10,L60_10c,h1,decide_true,cond_true,ixG h,Option.bind_some,t118,lne32,e8,w64s (show i < 1000000000 by omega),vSp]
   by_cases h8:(sp[i]).2.2.2.2.2.1.length≤8
   ·have hl:=lall (l:=(sp[i]).2.2.2.2.2.1) hF (by omega) (.inr rfl)
    simp only [hl,Option.bind_some]
    generalize (sp[i]).2.2.2.2.2.1.all vR=b7
    generalize wi (sp[i]).2.1 0 1000=b1
    generalize wi (sp[i]).2.2.1 1 65536=b2
    generalize wi (sp[i]).2.2.2.1 1 8=b3
    generalize wi (sp[i]).2.2.2.2.1 1 16=b4
    generalize decide ((sp[i]).1.length=32)=b5
    generalize decide ((sp[i]).2.2.2.2.2.1.length≤8)=b6
    cases b1<;>cases b2<;>cases b3<;>cases b4<;>cases b5<;>cases b6<;>cases b7<;>rfl
   ·simp only [h8,decide_false]
    generalize wi (sp[i]).2.1 0 1000=b1
    generalize wi (sp[i]).2.2.1 1 65536=b2
    generalize wi (sp[i]).2.2.2.1 1 8=b3
    generalize wi (sp[i]).2.2.2.2.1 1 16=b4
    generalize decide ((sp[i]).1.length=32)=b5
    cases b1<;>cases b2<;>cases b3<;>cases b4<;>cases b5<;>rfl)
  (by
   have h1:¬ ((sp.length:Int) < (sp.length:Int)):=by omega
   simp only [L60_10,L60_10c,h1,decide_false,cond_false]) (fuel:=F) (by omega)
 have l7:=lall (l:=gs) hF h4 (.inl rfl)
 rcases l4 with ⟨a1,a2⟩ | ⟨a1,i,a2⟩
 ·rcases l5 with ⟨b1,b2⟩ | ⟨b1,i,b2⟩
  ·rcases l6 with ⟨c1,c2⟩ | ⟨c1,i,c2⟩
   ·simp only [a1,a2,b1,b2,c1,c2,l7,Option.bind_some,elimS,Bool.true_and]
    cases gs.all vR<;>rfl
   ·simp only [a1,a2,b1,b2,c1,c2,Option.bind_some,elimS,Bool.true_and,Bool.false_and]
  ·simp only [a1,a2,b1,b2,Option.bind_some,elimS,Bool.true_and,Bool.false_and]
 ·simp only [a1,a2,Option.bind_some,elimS,Bool.true_and,Bool.false_and]
def In64 (n:Int):Prop:=0≤n∧n≤1099511627776
theorem zig_in {n:Int} (h:In64 n):zig n=2 * n.toNat:=by unfold zig;unfold In64 at h;split<;>omega
theorem ofInt_in {n:Int} (h:In64 n):(UInt64.ofInt n).toNat=n.toNat:=by
 unfold In64 at h
 unfold UInt64.ofInt
 rw [UInt64.toNat_ofNat'];omega
theorem t116 (F:Nat) {n:Int} (h:In64 n):∃ x,T116 F n=some x∧x.toNat=zig n:=by
 have hn:¬ n < 0:=by unfold In64 at h;omega
 refine ⟨(UInt64.ofInt n) * (UInt64.ofNat 2),by simp only [T116,T116c,hn,decide_false,cond_false],?_⟩
 rw [UInt64.toNat_mul,ofInt_in h,zig_in h]
 unfold In64 at h
 show n.toNat * 2 % 2 ^ 64=_
 rw [Nat.mod_eq_of_lt (by omega)];omega
theorem t120 (F:Nat) {n:Int} (h:In64 n):∃ x,T120 F n=some x∧x.toNat=zig n:=by
 have hn:0≤n:=h.1
 refine ⟨(UInt64.ofNat 2) * (UInt64.ofInt n),by simp only [T120,T120c,hn,decide_true,cond_true],?_⟩
 rw [UInt64.toNat_mul,ofInt_in h,zig_in h]
 unfold In64 at h
 show 2 * n.toNat % 2 ^ 64=_
 rw [Nat.mod_eq_of_lt (by omega)]
theorem t117 {F:Nat} (hF:5000 < F) (x:UInt64) {l:List UInt8} (hl:l.length≤900000):T117 F x l=some (l ++ enc x.toNat):=by
 obtain ⟨y,pre,h1,h2,h3⟩:=l60 F 9 F x l (u64_lt x) (by omega) (by omega)
 have h1:iter (fun s:UInt64×List UInt8=>L117_2 F s.1 s.2) F (x,l)=some (y,l ++ pre):=h1
 simp only [T117,T117c,h1,Option.bind_some]
 rw [gapp_ok (by simp;omega),Option.bind_some,List.append_assoc,h2];rfl
theorem t100 {F:Nat} (hF:5000 < F) (x:UInt64):T100 F x=some (enc x.toNat):=t45' (by omega) x
theorem t115 {F:Nat} (hF:5000 < F) (x:UInt64) {l:List UInt8} (hl:l.length≤900000):T115x1 F x 0 l=some (l ++ enc x.toNat):=by
 simp only [T115x1,T115x1c,beq_self_eq_true,cond_true,t117 hF x hl,Option.bind_some]
theorem t48 {F:Nat} (hF:5000 < F) {n:Int} (h:In64 n) {l:List UInt8} (hl:l.length≤900000):T48x1 F n 0 l=some (l ++ eI n):=by
 obtain ⟨x,h1,h2⟩:=t116 F h
 simp only [T48x1,T48x1c,h1,Option.bind_some,t115 hF x hl,h2,eI]
theorem t45x1 {F:Nat} (hF:5000 < F) {ns:List Int} (hn:∀ n ∈ ns,In64 n) (hm:ns.length≤12) {l:List UInt8} (hl:l.length + (ns.flatMap eI).length≤900000):T45x1 F ns 0 l=some (l ++ ns.flatMap eI):=by
 have:=cat_loop (f:=fun s:Int×List UInt8=>L45x1_2 F ns (ns.length:Int) 0 s.1 s.2) (fun i a=>(i,a)) (l:=ns) (g:=eI) (fin:=fun a=>a) 900000
  (fun i h acc hb=>by
   have h1:((i:Nat):Int) < (ns.length:Int):=by omega
   simp only [L45x1_2,L45x1_2c,h1,decide_true,cond_true,ixG h,Option.bind_some,t48 hF (hn _ (List.getElem_mem h)) (show acc.length≤900000 by omega),w64s (show i < 1000000000 by omega)])
  (fun acc=>by
   have h1:¬ ((ns.length:Int) < (ns.length:Int)):=by omega
   simp only [L45x1_2,L45x1_2c,h1,decide_false,cond_false]) (fuel:=F) (by omega) (acc:=l) hl
 simp only [T45x1,T45x1c,this,Option.bind_some]
theorem t45 {F:Nat} (hF:5000 < F) {ns:List Int} (hn:∀ n ∈ ns,In64 n) (hm:ns.length≤12) (hl:(ns.flatMap eI).length≤900000):T45 F ns 0=some (ns.flatMap eI):=by
 have:=cat_loop (f:=fun s:Int×List UInt8=>L45_2 F ns (ns.length:Int) 0 s.1 s.2) (fun i a=>(i,a)) (l:=ns) (g:=eI) (fin:=fun a=>a) 900000
  (fun i h acc hb=>by
   have h1:((i:Nat):Int) < (ns.length:Int):=by omega
   simp only [L45_2,L45_2c,h1,decide_true,cond_true,ixG h,Option.bind_some,t48 hF (hn _ (List.getElem_mem h)) (show acc.length≤900000 by omega),w64s (show i < 1000000000 by omega)])
  (fun acc=>by
   have h1:¬ ((ns.length:Int) < (ns.length:Int)):=by omega
   simp only [L45_2,L45_2c,h1,decide_false,cond_false]) (fuel:=F) (by omega) (acc:=[]) (by simpa using hl)
 simp only [T45,T45c,this,Option.bind_some,List.nil_append]
theorem ofInt_nat' {n:Nat} (h:n < 2 ^ 64):(UInt64.ofInt ((n:Nat):Int)).toNat=n:=by
 unfold UInt64.ofInt
 rw [UInt64.toNat_ofNat'];omega
theorem t114 {F:Nat} (hF:5000 < F) {n:Nat} (h:n≤1000000) {l:List UInt8} (hl:l.length≤900000):T114 F (n:Int) 0 l=some (0,l ++ enc n):=by
 have hn:¬ ((n:Nat):Int) < 0:=by omega
 simp only [T114,T114c,bne_self_eq_false,cond_false,hn,decide_false,t115 hF _ hl,Option.bind_some,ofInt_nat' (show n < 2 ^ 64 by omega)]
theorem t57 {F:Nat} {s l:List UInt8} (hs:s.length=32) (hl:l.length≤900000):T57 F s 0 l=some (0,l ++ s):=by
 simp only [T57,T57c,bne_self_eq_false,cond_false,lne32,decide_eq_true hs,Bool.not_true,gapp_ok (show l.length + s.length≤1000000000 by omega),Option.bind_some]
theorem t51 {F:Nat} (hF:5000 < F) {r:Rf} (hv:vR r=true) {l:List UInt8} (hl:l.length + (eR r).length≤900000):T51 F r.1 r.2.1 r.2.2.1 0 l=some (0,l ++ eR r):=by
 obtain ⟨a,b,c,⟨⟩⟩:=r
 simp only [vR,wi,Bool.and_eq_true,decide_eq_true_eq] at hv
 simp only [eR,List.length_append] at hl
 have h2:=t45x1 hF (ns:=[b,c]) (by intro n hn;simp at hn;unfold In64;rcases hn with rfl | rfl<;>omega) (by simp) (l:=l ++ a) (by simp;omega)
 simp only [T51,T51c,t57 (F:=F) hv.1 (show l.length≤900000 by omega),Option.bind_some,h2,eR]
 simp
theorem t52 {F:Nat} (hF:5000 < F) {s l:List UInt8} (hl:l.length + (eT s).length≤900000):T52 F s 0 l=some (l ++ eT s):=by
 simp only [eT,List.length_append] at hl
 have h1:(l ++ enc s.length).length + s.length≤1000000000:=by simp;omega
 simp only [T52,T52c,beq_self_eq_true,cond_true,t117 hF _ (show l.length≤900000 by omega),Option.bind_some,ofInt_nat' (show s.length < 2 ^ 64 by omega),gapp_ok h1,eT,List.append_assoc]
theorem t53 {F:Nat} (hF:5000 < F) (b:Bool) {l:List UInt8} (hl:l.length≤900000):T53 F b 0 l=some (l ++ eB b):=by
 cases b
 ·simp only [T53,T53c,cond_false,t115 hF _ hl,Option.bind_some,eB];rfl
 ·simp only [T53,T53c,cond_true,t115 hF _ hl,Option.bind_some,eB];rfl
theorem t50 {F:Nat} (hF:5000 < F) {s:Sn} (hv:vSn s=true) {l:List UInt8} (hl:l.length + (eSn s).length≤900000) :
  T50 F s.1 s.2.1 s.2.2.1 s.2.2.2.1.1 s.2.2.2.1.2.1 s.2.2.2.1.2.2.1 s.2.2.2.2.1 s.2.2.2.2.2.1 s.2.2.2.2.2.2.1 s.2.2.2.2.2.2.2.1 0 l=some (0,l ++ eSn s):=by
 obtain ⟨a,b,c,d,e,f,g,i,⟨⟩⟩:=s
 simp only [vSn,wi,Bool.and_eq_true,Bool.or_eq_true,decide_eq_true_eq] at hv
 obtain ⟨v1,v2,v3,v4,v5,v6,v7⟩:=hv
 simp only [eSn,List.length_append] at hl
 have hb:(eB i).length=1:=by simp [eB]
 have h1:=t45x1 hF (ns:=[a,b,c]) (by intro n hn;simp at hn;unfold In64;rcases hn with rfl | rfl | rfl<;>omega) (by simp) (l:=l) (by simp;omega)
 have h2:=t51 hF v4 (l:=l ++ [a,b,c].flatMap eI) (by simp;omega)
 have h3:=t45x1 hF (ns:=[e,f]) (by intro n hn;simp at hn;unfold In64;rcases hn with rfl | rfl<;>omega) (by simp) (l:=l ++ [a,b,c].flatMap eI ++ eR d) (by simp;omega)
 have h4:=t52 hF (s:=g) (l:=l ++ [a,b,c].flatMap eI ++ eR d ++ [e,f].flatMap eI) (by simp;omega)
 have h5:=t53 hF i (l:=l ++ [a,b,c].flatMap eI ++ eR d ++ [e,f].flatMap eI ++ eT g) (by simp;omega)
 simp only [T50,T50c,h1,h2,h3,h4,h5,Option.bind_some,eSn]
 simp
theorem w_list {α:Type} {F:Nat} (hF:5000 < F) {f:Int×Int×List UInt8->Option ((Int×Int×List UInt8) ⊕ (Int×List UInt8))} {l:List α} {e:α->Bs} {P:α->Prop}
  (hs:∀ i (h:i < l.length) (a:List UInt8),a.length + (e l[i]).length≤900000->f (((i:Nat):Int),0,a)=some (.inl (((i + 1:Nat):Int),0,a ++ e l[i])))
  (he:∀ a,f ((l.length:Int),0,a)=some (.inr (0,a))) (hl:l.length≤4096) {a:List UInt8} (hB:a.length + (eL e l).length≤900000) :
  T114 F (l.length:Int) 0 a=some (0,a ++ enc l.length)∧iter f F ((0:Int),(0:Int),a ++ enc l.length)=some (0,a ++ eL e l):=by
 simp only [eL,List.length_append] at hB
 refine ⟨t114 hF (by omega) (by omega),?_⟩
 have:=cat_loop (f:=f) (fun i a=>(i,0,a)) (l:=l) (g:=e) (fin:=fun a=>(0,a)) 900000 hs he (fuel:=F) (by omega) (acc:=a ++ enc l.length) (by rw [List.length_append];omega)
 rw [eL,← List.append_assoc];exact this
theorem t58 {F:Nat} (hF:5000 < F) {rs:List Rf} (hv:∀ r ∈ rs,vR r=true) (hl:rs.length≤4096) {a:List UInt8} (hB:a.length + (eL eR rs).length≤900000):T58 F rs 0 a=some (0,a ++ eL eR rs):=by
 obtain ⟨h1,h2⟩:=w_list (P:=fun _=>True) hF (f:=fun s:Int×Int×List UInt8=>L58_2 F rs (rs.length:Int) s.1 s.2.1 s.2.2) (l:=rs) (e:=eR)
  (fun i h a ha=>by
   have h1:((i:Nat):Int) < (rs.length:Int):=by omega
   simp only [L58_2,L58_2c,h1,decide_true,cond_true,ixG h,Option.bind_some,T54,T54c,t51 hF (hv _ (List.getElem_mem h)) ha,w64s (show i < 1000000000 by omega)])
  (fun a=>by
   have h1:¬ ((rs.length:Int) < (rs.length:Int)):=by omega
   simp only [L58_2,L58_2c,h1,decide_false,cond_false]) hl hB
 simp only [T58,T58c,h1,h2,Option.bind_some]
theorem t46 {F:Nat} (hF:5000 < F) {ns:List Int} (hn:∀ n ∈ ns,In64 n) (hl:ns.length≤4096) {a:List UInt8} (hB:a.length + (eL eI ns).length≤900000):T46 F ns 0 a=some (0,a ++ eL eI ns):=by
 simp only [eL,List.length_append] at hB
 have:=cat_loop (f:=fun s:Int×List UInt8=>L46_2 F ns (ns.length:Int) 0 s.1 s.2) (fun i a=>(i,a)) (l:=ns) (g:=eI) (fin:=fun a=>a) 900000
  (fun i h acc hb=>by
   have h1:((i:Nat):Int) < (ns.length:Int):=by omega
   simp only [L46_2,L46_2c,h1,decide_true,cond_true,ixG h,Option.bind_some,T47,T47c,t48 hF (hn _ (List.getElem_mem h)) (show acc.length≤900000 by omega),w64s (show i < 1000000000 by omega)])
  (fun acc=>by
   have h1:¬ ((ns.length:Int) < (ns.length:Int)):=by omega
   simp only [L46_2,L46_2c,h1,decide_false,cond_false]) (fuel:=F) (by omega) (acc:=a ++ enc ns.length) (by rw [List.length_append];omega)
 simp only [T46,T46c,t114 hF (show ns.length≤1000000 by omega) (show a.length≤900000 by omega),this,Option.bind_some,eL,List.append_assoc]
theorem t49 {F:Nat} (hF:5000 < F) {ss:List Sn} (hv:∀ s ∈ ss,vSn s=true) (hl:ss.length≤4096) {a:List UInt8} (hB:a.length + (eL eSn ss).length≤900000):T49 F ss 0 a=some (0,a ++ eL eSn ss):=by
 obtain ⟨h1,h2⟩:=w_list (P:=fun _=>True) hF (f:=fun s:Int×Int×List UInt8=>L49_2 F ss (ss.length:Int) s.1 s.2.1 s.2.2) (l:=ss) (e:=eSn)
  (fun i h a ha=>by
   have h1:((i:Nat):Int) < (ss.length:Int):=by omega
   simp only [L49_2,L49_2c,h1,decide_true,cond_true,ixG h,Option.bind_some,t50 hF (hv _ (List.getElem_mem h)) ha,w64s (show i < 1000000000 by omega)])
  (fun a=>by
   have h1:¬ ((ss.length:Int) < (ss.length:Int)):=by omega
   simp only [L49_2,L49_2c,h1,decide_false,cond_false]) hl hB
 simp only [T49,T49c,h1,h2,Option.bind_some]
theorem t56 {F:Nat} (hF:5000 < F) {s:Sp} (hv:vSp s=true) {l:List UInt8} (hl:l.length + (eSp s).length≤900000):T56 F s.1 s.2.1 s.2.2.1 s.2.2.2.1 s.2.2.2.2.1 s.2.2.2.2.2.1 0 l=some (0,l ++ eSp s):=by
 obtain ⟨a,b,c,d,e,f,⟨⟩⟩:=s
 simp only [vSp,wi,Bool.and_eq_true,decide_eq_true_eq,List.all_eq_true] at hv
 obtain ⟨v1,v2,v3,v4,v5,v6,v7⟩:=hv
 simp only [eSp,List.length_append] at hl
 have h2:=t45x1 hF (ns:=[b,c,d,e]) (by intro n hn;simp at hn;unfold In64;rcases hn with rfl | rfl | rfl | rfl<;>omega) (by simp) (l:=l ++ a) (by simp;omega)
 have h3:=t58 hF v7 (by omega) (a:=l ++ a ++ [b,c,d,e].flatMap eI) (by simp;omega)
 simp only [T56,T56c,t57 (F:=F) v1 (show l.length≤900000 by omega),h2,h3,Option.bind_some,eSp]
 simp
theorem t55 {F:Nat} (hF:5000 < F) {ss:List Sp} (hv:∀ s ∈ ss,vSp s=true) (hl:ss.length≤4096) {a:List UInt8} (hB:a.length + (eL eSp ss).length≤900000):T55 F ss 0 a=some (0,a ++ eL eSp ss):=by
 obtain ⟨h1,h2⟩:=w_list (P:=fun _=>True) hF (f:=fun s:Int×Int×List UInt8=>L55_2 F ss (ss.length:Int) s.1 s.2.1 s.2.2) (l:=ss) (e:=eSp)
  (fun i h a ha=>by
   have h1:((i:Nat):Int) < (ss.length:Int):=by omega
   simp only [L55_2,L55_2c,h1,decide_true,cond_true,ixG h,Option.bind_some,t56 hF (hv _ (List.getElem_mem h)) ha,w64s (show i < 1000000000 by omega)])
  (fun a=>by
   have h1:¬ ((ss.length:Int) < (ss.length:Int)):=by omega
   simp only [L55_2,L55_2c,h1,decide_false,cond_false]) hl hB
 simp only [T55,T55c,h1,h2,Option.bind_some]
theorem t19 {F:Nat} (hF:5000 < F) (x:Ix) (hx:vX x=true->(eX x).length≤900000):T19 F x.1 x.2.1 x.2.2.1 x.2.2.2.1 x.2.2.2.2.1 x.2.2.2.2.2=some (encR x):=by
 unfold encR
 have h43:=t43 hF x
 cases hv:vX x
 ·simp only [T19,T19c,h43,hv,Option.bind_some,Bool.not_false,cond_true];rfl
 ·have hl:=hx hv
  obtain ⟨a,b,c,d,e,f⟩:=x
  have hv0:=hv
  simp only [vX,wi,Bool.and_eq_true,decide_eq_true_eq,List.all_eq_true] at hv
  obtain ⟨v1,v2,v3,v4,v5,v6,v7,v8,v9,v10⟩:=hv
  have hl0:=hl
  simp only [eX,List.length_append] at hl
  have h1:=t45 hF (ns:=[a,b]) (by intro n hn;simp at hn;unfold In64;rcases hn with rfl | rfl<;>omega) (by simp) (by simp;omega)
  have h2:=t46 hF (ns:=c) (fun n hn=>by have:=v7 n hn;unfold In64;omega) (by omega) (a:=[a,b].flatMap eI) (by simp;omega)
  have h3:=t49 hF v8 v4 (a:=[a,b].flatMap eI ++ eL eI c) (by simp;omega)
  have h4:=t55 hF v9 v5 (a:=[a,b].flatMap eI ++ eL eI c ++ eL eSn d) (by simp;omega)
  have h5:=t58 hF v10 v6 (a:=[a,b].flatMap eI ++ eL eI c ++ eL eSn d ++ eL eSp e) (by simp;omega)
  have hE:[a,b].flatMap eI ++ eL eI c ++ eL eSn d ++ eL eSp e ++ eL eR f=eX (a,b,c,d,e,f):=by simp [eX]
  rw [hE] at h5
  have q1:¬ ((1048576:Int) < ((eX (a,b,c,d,e,f)).length:Int)):=by omega
  have q2:¬ ((1048560:Int) < ((eX (a,b,c,d,e,f)).length:Int)):=by omega
  simp only [T19,T19c,h43,hv0,Option.bind_some,Bool.not_true,cond_false,T44,T44c,h1,h2,h3,h4,h5,T59,T59c,bne_self_eq_false,q1,q2,decide_false,gapp_ok (show ([]:List UInt8).length + (eX (a,b,c,d,e,f)).length≤1000000000 by simp;omega),List.nil_append,if_true]
  rw [if_neg (by omega)]
abbrev Val:=Int×UInt64×Int×Bool×List UInt8×Int×Unit
def vI (n:Int):Val:=(2,0,n,false,[],0,())
def vC (n:Nat):Val:=(7,0,(n:Int),false,[],0,())
def vB (b:Bool):Val:=(3,0,0,b,[],0,())
def vT (s:Bs):Val:=(5,0,0,false,s,0,())
def vS (s:Bs):Val:=(6,0,0,false,s,0,())
def vRf (r:Rf):List Val:=[vS r.1,vI r.2.1,vI r.2.2.1]
def vLs {α:Type} (g:α->List Val) (l:List α):List Val:=vC l.length :: l.flatMap g
def vSnap (s:Sn):List Val:=[vI s.1,vI s.2.1,vI s.2.2.1] ++ (vRf s.2.2.2.1 ++ [vI s.2.2.2.2.1,vI s.2.2.2.2.2.1,vT s.2.2.2.2.2.2.1,vB s.2.2.2.2.2.2.2.1])
def vStr (s:Sp):List Val:=[vS s.1,vI s.2.1,vI s.2.2.1,vI s.2.2.2.1,vI s.2.2.2.2.1] ++ vLs vRf s.2.2.2.2.2.1
def vIx (x:Ix):List Val:=[vI x.1,vI x.2.1] ++ (vLs (fun n=>[vI n]) x.2.2.1 ++ (vLs vSnap x.2.2.2.1 ++ (vLs vStr x.2.2.2.2.1 ++ vLs vRf x.2.2.2.2.2)))
def Good (v:Val):Prop:=(∃ n,In64 n∧v=vI n)∨(∃ n:Nat,n≤1000000∧v=vC n)∨(∃ b,v=vB b)∨(∃ s,v=vT s)∨(∃ s,s.length=32∧v=vS s)
def eV (v:Val):Bs:=bif v.1 == 2 then eI v.2.2.1 else bif v.1 == 7 then enc v.2.2.1.toNat else bif v.1 == 3 then eB v.2.2.2.1 else bif v.1 == 5 then eT v.2.2.2.2.1 else v.2.2.2.2.1
theorem eV_I (n:Int):eV (vI n)=eI n:=rfl
theorem eV_C (n:Nat):eV (vC n)=enc n:=rfl
theorem eV_B (b:Bool):eV (vB b)=eB b:=rfl
theorem eV_T (s:Bs):eV (vT s)=eT s:=rfl
theorem eV_S (s:Bs):eV (vS s)=s:=rfl
theorem enc_pos (n:Nat):1≤(enc n).length:=(encN_len 9 n).2
theorem eV_pos {v:Val} (h:Good v):1≤(eV v).length:=by
 rcases h with ⟨n,h,rfl⟩ | ⟨n,h,rfl⟩ | ⟨b,rfl⟩ | ⟨s,rfl⟩ | ⟨s,h,rfl⟩
 ·exact enc_pos _
 ·exact enc_pos _
 ·simp [eV_B,eB]
 ·rw [eV_T,eT,List.length_append];have:=enc_pos s.length;omega
 ·rw [eV_S];omega
theorem eV_all:∀ {l:List Val},(∀ v ∈ l,Good v)->l.length≤(l.flatMap eV).length:=by
 intro l
 induction l with
 | nil=>intro _;simp
 | cons v l ih=>
  intro h
  have h1:=eV_pos (h v (by simp))
  have h2:=ih fun w hw=>h w (by simp [hw])
  simp only [List.flatMap_cons,List.length_append,List.length_cons];omega
theorem step65 {F:Nat} (hF:5000 < F) {l:List Val} {i:Nat} (h:i < l.length) (hl:l.length < 1000000) (hg:Good l[i]) {acc:List UInt8} (hB:acc.length + (eV l[i]).length≤900000) :
  L65_3 F l ((i:Nat):Int) acc=some (.inl (((i + 1:Nat):Int),acc ++ eV l[i])):=by
 have h1:((i:Nat):Int) < (l.length:Int):=by omega
 have hw:=w64s (show i < 1000000000 by omega)
 have hx:=ixG h
 generalize hv:l[i]=v at *
 rcases hg with ⟨n,hn,rfl⟩ | ⟨n,hn,rfl⟩ | ⟨b,rfl⟩ | ⟨s,rfl⟩ | ⟨s,hn,rfl⟩
 ·obtain ⟨x,e1,e2⟩:=t120 F hn
  rw [eV_I] at hB ⊢
  have hg:=gapp_ok (xs:=acc) (ys:=enc x.toNat) (by rw [e2];unfold eI at hB;omega)
  have c1:((2:Int) == 1)=false:=rfl
  have c2:((2:Int) == 2)=true:=rfl
  simp only [L65_3,L65_3c,h1,decide_true,cond_true,hx,Option.bind_some,vI,c1,c2,cond_false,e1,t100 hF,hg,hw]
  rw [e2];rfl
 ·rw [eV_C] at hB ⊢
  have hn0:¬ ((n:Nat):Int) < 0:=by omega
  have hg:=gapp_ok (xs:=acc) (ys:=enc n) (by omega)
  have c1:((7:Int) == 1)=false:=rfl
  have c2:((7:Int) == 2)=false:=rfl
  have c3:((7:Int) == 3)=false:=rfl
  have c4:((7:Int) == 4)=false:=rfl
  have c5:((7:Int) == 5)=false:=rfl
  have c6:((7:Int) == 6)=false:=rfl
  have c7:((7:Int) == 7)=true:=rfl
  simp only [L65_3,L65_3c,h1,decide_true,cond_true,hx,Option.bind_some,vC,c1,c2,c3,c4,c5,c6,c7,cond_false,L65_4,L65_4c,hn0,decide_false,t100 hF,ofInt_nat' (show n < 2 ^ 64 by omega),hg,hw]
 ·rw [eV_B] at hB ⊢
  have c1:((3:Int) == 1)=false:=rfl
  have c2:((3:Int) == 2)=false:=rfl
  have c3:((3:Int) == 3)=true:=rfl
  have hl1:(eB b).length=1:=by simp [eB]
  have g0:=gapp_ok (xs:=acc) (ys:=([(UInt8.ofNat 1)]:List UInt8)) (by simp;omega)
  have g1:=gapp_ok (xs:=acc) (ys:=([(UInt8.ofNat 0)]:List UInt8)) (by simp;omega)
  cases b
  ·simp only [L65_3,L65_3c,h1,decide_true,cond_true,hx,Option.bind_some,vB,c1,c2,c3,cond_false,g1,hw];rfl
  ·simp only [L65_3,L65_3c,h1,decide_true,cond_true,hx,Option.bind_some,vB,c1,c2,c3,cond_false,g0,hw];rfl
 ·rw [eV_T] at hB ⊢
  simp only [eT,List.length_append] at hB
  have c1:((5:Int) == 1)=false:=rfl
  have c2:((5:Int) == 2)=false:=rfl
  have c3:((5:Int) == 3)=false:=rfl
  have c4:((5:Int) == 4)=false:=rfl
  have c5:((5:Int) == 5)=true:=rfl
  have g0:=gapp_ok (xs:=acc) (ys:=enc s.length) (by omega)
  have g1:=gapp_ok (xs:=acc ++ enc s.length) (ys:=s) (by simp;omega)
  simp only [L65_3,L65_3c,h1,decide_true,cond_true,hx,Option.bind_some,vT,c1,c2,c3,c4,c5,cond_false,L65_4,L65_4c,t100 hF,ofInt_nat' (show s.length < 2 ^ 64 by omega),g0,g1,hw,eT,List.append_assoc]
 ·rw [eV_S] at hB ⊢
  have c1:((6:Int) == 1)=false:=rfl
  have c2:((6:Int) == 2)=false:=rfl
  have c3:((6:Int) == 3)=false:=rfl
  have c4:((6:Int) == 4)=false:=rfl
  have c5:((6:Int) == 5)=false:=rfl
  have c6:((6:Int) == 6)=true:=rfl
  have g0:=gapp_ok (xs:=acc) (ys:=s) (by omega)
  simp only [L65_3,L65_3c,h1,decide_true,cond_true,hx,Option.bind_some,vS,c1,c2,c3,c4,c5,c6,cond_false,L65_4,L65_4c,lne32,decide_eq_true hn,Bool.not_true,g0,hw]
theorem t65 {F:Nat} (hF:5000 < F) {l:List Val} (hg:∀ v ∈ l,Good v) (hB:(l.flatMap eV).length≤900000) (hf:(l.flatMap eV).length < F):T65 F l=some (0,l.flatMap eV):=by
 have hn:=eV_all hg
 have:=cat_loop (f:=fun s:Int×List UInt8=>L65_3 F l s.1 s.2) (fun i a=>(i,a)) (l:=l) (g:=eV) (fin:=fun a=>.inl a) 900000
  (fun i h acc hb=>step65 hF h (by omega) (hg _ (List.getElem_mem h)) hb)
  (fun acc=>by
   have h1:¬ ((l.length:Int) < (l.length:Int)):=by omega
   simp only [L65_3,L65_3c,h1,decide_false,cond_false]) (fuel:=F) (by omega) (acc:=[]) (by simpa using hB)
 have q1:¬ ((1048576:Int) < ((l.flatMap eV).length:Int)):=by omega
 simp only [T65,T65c,this,Option.bind_some,elimS,List.nil_append,q1,decide_false,cond_false]
theorem t63 (F:Nat) (r:Rf):T63 F r.1 r.2.1 r.2.2.1=some (vRf r):=rfl
theorem eRf (r:Rf):(vRf r).flatMap eV=eR r:=by simp [vRf,eV_S,eV_I,eR]
theorem eLs {α:Type} {g:α->List Val} {e:α->Bs} (h:∀ a,(g a).flatMap eV=e a) (l:List α):(vLs g l).flatMap eV=eL e l:=by
 simp only [vLs,List.flatMap_cons,eV_C,eL]
 congr 1
 induction l with
 | nil=>rfl
 | cons a l ih=>simp only [List.flatMap_cons,List.flatMap_append,ih,h]
theorem eSnap (s:Sn):(vSnap s).flatMap eV=eSn s:=by simp [vSnap,List.flatMap_append,eRf,eV_I,eV_T,eV_B,eSn]
theorem eStr (s:Sp):(vStr s).flatMap eV=eSp s:=by simp [vStr,List.flatMap_append,eLs eRf,eV_I,eV_S,eSp]
theorem eIx (x:Ix):(vIx x).flatMap eV=eX x:=by simp [vIx,List.flatMap_append,eLs eRf,eLs eSnap,eLs eStr,eLs (g:=fun n=>[vI n]) (e:=eI) (fun n=>by simp [eV_I]),eV_I,eX]
theorem gRf {r:Rf} (h:vR r=true):∀ v ∈ vRf r,Good v:=by
 simp only [vR,wi,Bool.and_eq_true,decide_eq_true_eq] at h
 intro v hv
 simp only [vRf,List.mem_cons,List.not_mem_nil,or_false] at hv
 rcases hv with rfl | rfl | rfl
 ·exact .inr (.inr (.inr (.inr ⟨_,h.1,rfl⟩)))
 ·exact .inl ⟨_,by unfold In64;omega,rfl⟩
 ·exact .inl ⟨_,by unfold In64;omega,rfl⟩
theorem gLs {α:Type} {g:α->List Val} {l:List α} (hl:l.length≤4096) (h:∀ a ∈ l,∀ v ∈ g a,Good v):∀ v ∈ vLs g l,Good v:=by
 intro v hv
 simp only [vLs,List.mem_cons,List.mem_flatMap] at hv
 rcases hv with rfl | ⟨a,ha,hv⟩
 ·exact .inr (.inl ⟨_,by omega,rfl⟩)
 ·exact h a ha v hv
theorem gSnap {s:Sn} (h:vSn s=true):∀ v ∈ vSnap s,Good v:=by
 simp only [vSn,wi,Bool.and_eq_true,Bool.or_eq_true,decide_eq_true_eq] at h
 obtain ⟨v1,v2,v3,v4,v5,v6,v7⟩:=h
 intro v hv
 simp only [vSnap,List.mem_append,List.mem_cons,List.not_mem_nil,or_false] at hv
 rcases hv with (rfl | rfl | rfl) | hv | rfl | rfl | rfl | rfl
 ·exact .inl ⟨_,by unfold In64;omega,rfl⟩
 ·exact .inl ⟨_,by unfold In64;omega,rfl⟩
 ·exact .inl ⟨_,by unfold In64;omega,rfl⟩
 ·exact gRf v4 v hv
 ·exact .inl ⟨_,by unfold In64;omega,rfl⟩
 ·exact .inl ⟨_,by unfold In64;omega,rfl⟩
 ·exact .inr (.inr (.inr (.inl ⟨_,rfl⟩)))
 ·exact .inr (.inr (.inl ⟨_,rfl⟩))
theorem gStr {s:Sp} (h:vSp s=true):∀ v ∈ vStr s,Good v:=by
 simp only [vSp,wi,Bool.and_eq_true,decide_eq_true_eq,List.all_eq_true] at h
 obtain ⟨v1,v2,v3,v4,v5,v6,v7⟩:=h
 intro v hv
 simp only [vStr,List.mem_append,List.mem_cons,List.not_mem_nil,or_false] at hv
 rcases hv with (rfl | rfl | rfl | rfl | rfl) | hv
 ·exact .inr (.inr (.inr (.inr ⟨_,v1,rfl⟩)))
 ·exact .inl ⟨_,by unfold In64;omega,rfl⟩
 ·exact .inl ⟨_,by unfold In64;omega,rfl⟩
 ·exact .inl ⟨_,by unfold In64;omega,rfl⟩
 ·exact .inl ⟨_,by unfold In64;omega,rfl⟩
 ·exact gLs (by omega) (fun r hr=>gRf (v7 r hr)) v hv
theorem gIx {x:Ix} (h:vX x=true):∀ v ∈ vIx x,Good v:=by
 simp only [vX,wi,Bool.and_eq_true,decide_eq_true_eq,List.all_eq_true] at h
 obtain ⟨v1,v2,v3,v4,v5,v6,v7,v8,v9,v10⟩:=h
 intro v hv
 simp only [vIx,List.mem_append,List.mem_cons,List.not_mem_nil,or_false] at hv
 rcases hv with (rfl | rfl) | hv | hv | hv | hv
 ·exact .inl ⟨_,by unfold In64;omega,rfl⟩
 ·exact .inl ⟨_,by unfold In64;omega,rfl⟩
 ·refine gLs (by omega) (fun n hn w hw=>?_) v hv
  have:=v7 n hn
  simp only [List.mem_singleton] at hw
  exact .inl ⟨n,by unfold In64;omega,hw⟩
 ·exact gLs v4 (fun r hr=>gSnap (v8 r hr)) v hv
 ·exact gLs v5 (fun r hr=>gStr (v9 r hr)) v hv
 ·exact gLs v6 (fun r hr=>gRf (v10 r hr)) v hv
theorem t64 {F:Nat} (hF:5000 < F) {rs:List Rf} (hl:rs.length≤4096) (hB:(vLs vRf rs).length≤900000):T64 F rs=some (vLs vRf rs):=by
 have:=cat_loop (f:=fun s:Int×List Val=>L64_2 F rs (rs.length:Int) s.1 s.2) (fun i a=>(i,a)) (l:=rs) (g:=vRf) (fin:=fun a=>a) 900000
  (fun i h acc hb=>by
   have h1:((i:Nat):Int) < (rs.length:Int):=by omega
   simp only [L64_2,L64_2c,h1,decide_true,cond_true,ixG h,Option.bind_some,t63,gapp_ok (show acc.length + (vRf rs[i]).length≤1000000000 by omega),w64s (show i < 1000000000 by omega)])
  (fun acc=>by
   have h1:¬ ((rs.length:Int) < (rs.length:Int)):=by omega
   simp only [L64_2,L64_2c,h1,decide_false,cond_false]) (fuel:=F) (by omega) (acc:=[vC rs.length]) (by simpa [vLs,Nat.add_comm] using hB)
 have this:iter (fun s:Int×List Val=>L64_2 F rs (rs.length:Int) s.1 s.2) F ((0:Int),[((7:Int),(0:UInt64),(rs.length:Int),false,([]:List UInt8),(0:Int),())])=_:=this
 simp only [T64,T64c,T62,T62c,this,Option.bind_some];rfl
theorem t20 {F:Nat} (hF:5000 < F) (x:Ix) (hx:vX x=true->(eX x).length≤900000∧(eX x).length < F):T20 F x.1 x.2.1 x.2.2.1 x.2.2.2.1 x.2.2.2.2.1 x.2.2.2.2.2=some (encR x):=by
 unfold encR
 have h60:=t60 hF x
 cases hv:vX x
 ·simp only [T20,T20c,h60,hv,Option.bind_some,Bool.not_false,cond_true];rfl
 ·obtain ⟨hl,hf⟩:=hx hv
  have hg:=gIx hv
  have hE:=eIx x
  have hn:=eV_all hg
  rw [hE] at hn
  obtain ⟨a,b,c,d,e,f⟩:=x
  have hv0:=hv
  simp only [vX,wi,Bool.and_eq_true,decide_eq_true_eq,List.all_eq_true] at hv
  obtain ⟨v1,v2,v3,v4,v5,v6,v7,v8,v9,v10⟩:=hv
  have hn0:(vIx (a,b,c,d,e,f)).length≤900000:=by omega
  simp only [vIx,vLs,List.length_append,List.length_cons,List.length_nil] at hn0
  have l4:=cat_loop (f:=fun s:Int×List Val=>L20_4 F c (c.length:Int) s.1 s.2) (fun i a=>(i,a)) (l:=c) (g:=fun n=>[vI n]) (fin:=fun a=>a) 900000
   (fun i h acc hb=>by
    have h1:((i:Nat):Int) < (c.length:Int):=by omega
    have hg:gapp acc [((2:Int),(0:UInt64),c[i],false,([]:List UInt8),(0:Int),())]=some (acc ++ [vI c[i]]):=gapp_ok (by simp at hb ⊢;omega)
    simp only [L20_4,L20_4c,h1,decide_true,cond_true,ixG h,Option.bind_some,T61,T61c,hg,w64s (show i < 1000000000 by omega)])
   (fun acc=>by
    have h1:¬ ((c.length:Int) < (c.length:Int)):=by omega
    simp only [L20_4,L20_4c,h1,decide_false,cond_false]) (fuel:=F) (by omega) (acc:=[vI a,vI b,vC c.length]) (by rw [List.length_cons,List.length_cons,List.length_cons,List.length_nil];omega)
  have l5:=cat_loop (f:=fun s:Int×List Val=>L20_5 F d (d.length:Int) s.1 s.2) (fun i a=>(i,a)) (l:=d) (g:=vSnap) (fin:=fun a=>a) 900000
   (fun i h acc hb=>by
    have h1:((i:Nat):Int) < (d.length:Int):=by omega
    have h10:(vSnap d[i]).length=10:=rfl
    rw [h10] at hb
    have g1:gapp acc [((2:Int),(0:UInt64),d[i].1,false,([]:List UInt8),(0:Int),()),((2:Int),(0:UInt64),d[i].2.1,false,([]:List UInt8),(0:Int),()),((2:Int),(0:UInt64),d[i].2.2.1,false,([]:List UInt8),(0:Int),())]=some (acc ++ [vI d[i].1,vI d[i].2.1,vI d[i].2.2.1]):=gapp_ok (by simp;omega)
    have g2:=gapp_ok (xs:=acc ++ [vI d[i].1,vI d[i].2.1,vI d[i].2.2.1]) (ys:=vRf d[i].2.2.2.1) (by simp [vRf];omega)
    have g3:gapp (acc ++ [vI d[i].1,vI d[i].2.1,vI d[i].2.2.1] ++ vRf d[i].2.2.2.1) [((2:Int),(0:UInt64),d[i].2.2.2.2.1,false,([]:List UInt8),(0:Int),()),((2:Int),(0:UInt64),d[i].2.2.2.2.2.1,false,([]:List UInt8),(0:Int),()),((5:Int),(0:UInt64),(0:Int),false,d[i].2.2.2.2.2.2.1,(0:Int),()),((3:Int),(0:UInt64),(0:Int),d[i].2.2.2.2.2.2.2.1,([]:List UInt8),(0:Int),())]=some (acc ++ [vI d[i].1,vI d[i].2.1,vI d[i].2.2.1] ++ vRf d[i].2.2.2.1 ++ [vI d[i].2.2.2.2.1,vI d[i].2.2.2.2.2.1,vT d[i].2.2.2.2.2.2.1,vB d[i].2.2.2.2.2.2.2.1]):=gapp_ok (by simp [vRf];omega)
    simp only [L20_5,L20_5c,h1,decide_true,cond_true,ixG h,Option.bind_some,T61,T61c,g1,t63,g2,g3,w64s (show i < 1000000000 by omega)]
    simp only [vSnap,List.append_assoc])
   (fun acc=>by
    have h1:¬ ((d.length:Int) < (d.length:Int)):=by omega
    simp only [L20_5,L20_5c,h1,decide_false,cond_false]) (fuel:=F) (by omega) (acc:=[vI a,vI b,vC c.length] ++ c.flatMap (fun n=>[vI n]) ++ [vC d.length]) (by rw [List.length_append,List.length_append,List.length_cons,List.length_cons,List.length_cons,List.length_cons,List.length_nil];omega)
  have l6:=cat_loop (f:=fun s:Int×List Val=>L20_6 F e (e.length:Int) s.1 s.2) (fun i a=>(i,a)) (l:=e) (g:=vStr) (fin:=fun a=>a) 900000
   (fun i h acc hb=>by
    have h1:((i:Nat):Int) < (e.length:Int):=by omega
    have hv:=v9 _ (List.getElem_mem h)
    simp only [vSp,wi,Bool.and_eq_true,decide_eq_true_eq] at hv
    simp only [vStr,List.length_append,List.length_cons,List.length_nil] at hb
    have g1:gapp acc [((6:Int),(0:UInt64),(0:Int),false,e[i].1,(0:Int),()),((2:Int),(0:UInt64),e[i].2.1,false,([]:List UInt8),(0:Int),()),((2:Int),(0:UInt64),e[i].2.2.1,false,([]:List UInt8),(0:Int),()),((2:Int),(0:UInt64),e[i].2.2.2.1,false,([]:List UInt8),(0:Int),()),((2:Int),(0:UInt64),e[i].2.2.2.2.1,false,([]:List UInt8),(0:Int),())]=some (acc ++ [vS e[i].1,vI e[i].2.1,vI e[i].2.2.1,vI e[i].2.2.2.1,vI e[i].2.2.2.2.1]):=gapp_ok (by simp;omega)
    have g2:=gapp_ok (xs:=acc ++ [vS e[i].1,vI e[i].2.1,vI e[i].2.2.1,vI e[i].2.2.2.1,vI e[i].2.2.2.2.1]) (ys:=vLs vRf e[i].2.2.2.2.2.1) (by simp;omega)
    simp only [L20_6,L20_6c,h1,decide_true,cond_true,ixG h,Option.bind_some,T61,T61c,g1,t64 hF (show e[i].2.2.2.2.2.1.length≤4096 by omega) (by omega),g2,w64s (show i < 1000000000 by omega),vStr,List.append_assoc])
   (fun acc=>by
    have h1:¬ ((e.length:Int) < (e.length:Int)):=by omega
    simp only [L20_6,L20_6c,h1,decide_false,cond_false]) (fuel:=F) (by omega) (acc:=[vI a,vI b,vC c.length] ++ c.flatMap (fun n=>[vI n]) ++ [vC d.length] ++ d.flatMap vSnap ++ [vC e.length]) (by simp only [List.length_append,List.length_cons,List.length_nil];omega)
  have g1:gapp ([vI a,vI b,vC c.length] ++ c.flatMap (fun n=>[vI n])) [((7:Int),(0:UInt64),(d.length:Int),false,([]:List UInt8),(0:Int),())]=some ([vI a,vI b,vC c.length] ++ c.flatMap (fun n=>[vI n]) ++ [vC d.length]):=gapp_ok (by simp only [List.length_append,List.length_cons,List.length_nil];omega)
  have g2:gapp ([vI a,vI b,vC c.length] ++ c.flatMap (fun n=>[vI n]) ++ [vC d.length] ++ d.flatMap vSnap) [((7:Int),(0:UInt64),(e.length:Int),false,([]:List UInt8),(0:Int),())]=some ([vI a,vI b,vC c.length] ++ c.flatMap (fun n=>[vI n]) ++ [vC d.length] ++ d.flatMap vSnap ++ [vC e.length]):=gapp_ok (by simp only [List.length_append,List.length_cons,List.length_nil];omega)
  have g3:=gapp_ok (xs:=[vI a,vI b,vC c.length] ++ c.flatMap (fun n=>[vI n]) ++ [vC d.length] ++ d.flatMap vSnap ++ [vC e.length] ++ e.flatMap vStr) (ys:=vLs vRf f) (by simp only [vLs,List.length_append,List.length_cons,List.length_nil];omega)
  have hV:[vI a,vI b,vC c.length] ++ c.flatMap (fun n=>[vI n]) ++ [vC d.length] ++ d.flatMap vSnap ++ [vC e.length] ++ e.flatMap vStr ++ vLs vRf f=vIx (a,b,c,d,e,f):=by simp [vIx,vLs]
  rw [hV] at g3
  have h65:=t65 hF hg (by rw [hE];exact hl) (by rw [hE];exact hf)
  rw [hE] at h65
  have q2:¬ ((1048560:Int) < ((eX (a,b,c,d,e,f)).length:Int)):=by omega
  have l4:iter (fun s:Int×List Val=>L20_4 F c (c.length:Int) s.1 s.2) F ((0:Int),[((2:Int),(0:UInt64),a,false,([]:List UInt8),(0:Int),()),((2:Int),(0:UInt64),b,false,([]:List UInt8),(0:Int),()),((7:Int),(0:UInt64),(c.length:Int),false,([]:List UInt8),(0:Int),())])=some ([vI a,vI b,vC c.length] ++ c.flatMap (fun n=>[vI n])):=l4
  simp only [T20,T20c,h60,hv0,Option.bind_some,Bool.not_true,cond_false,T61,T61c,T62,T62c,l4,g1,l5,g2,l6,t64 hF v6 (by simp only [vLs,List.length_cons];omega),g3,h65,bne_self_eq_false,q2,decide_false,if_true]
  rw [if_neg (by omega)]
theorem inbn {n i:Nat} (h:i < n):inb n ((i:Nat):Int)=some i:=by
 unfold inb;rw [if_pos (by omega)];simp only [Int.toNat_natCast]
def At (b:Bs) (s:RS) (o e:Int):Prop:=match s with
 | some r=>e=0∧∃ n:Nat,o=(n:Int)∧n≤b.length∧r=b.drop n
 | none=>e ≠ 0
theorem At.bne {b:Bs} {o e:Int} (h:At b none o e):(e != 0)=true:=by
 have:e ≠ 0:=h
 simp [this]
theorem At.mk {b:Bs} {n k:Nat} (h:n + k≤b.length):At b (some ((b.drop n).drop k)) ((n + k:Nat):Int) 0:=⟨rfl,n + k,rfl,h,by rw [List.drop_drop]⟩
theorem half (x:UInt64):(x / UInt64.ofNat 2).toNat=x.toNat / 2:=by rw [UInt64.toNat_div];rfl
theorem t122 (F:Nat) (x:UInt64):T122 F x=some (uzg x.toNat):=by
 have hx:=x.toNat_lt
 have hm:(x % UInt64.ofNat 2 == UInt64.ofNat 1)=decide (x.toNat % 2=1):=by
  refine decide_eq_decide.2 ⟨fun h=>?_,fun h=>?_⟩
  ·have:=congrArg UInt64.toNat h;rw [UInt64.toNat_mod] at this;exact this
  ·apply UInt64.toNat_inj.1;rw [UInt64.toNat_mod];exact h
 simp only [T122,T122c,hm,half,uzg]
 have e1:w64 ((x.toNat / 2:Nat):Int)=((x.toNat / 2:Nat):Int):=w64_in (by omega) (by omega)
 have e2:w64 (0 - ((x.toNat / 2:Nat):Int))=0 - ((x.toNat / 2:Nat):Int):=w64_in (by omega) (by omega)
 have e3:w64 (0 - ((x.toNat / 2:Nat):Int) - 1)=0 - ((x.toNat / 2:Nat):Int) - 1:=w64_in (by omega) (by omega)
 rw [e1,e2,e3]
 by_cases h:x.toNat % 2=1
 ·rw [decide_eq_true h,cond_true,if_pos h];congr 1;omega
 ·rw [decide_eq_false h,cond_false,if_neg h]
theorem t166 (F:Nat) (x:UInt64):T166 F x=some (uzg x.toNat):=by
 have hx:=x.toNat_lt
 have hm:(x % UInt64.ofNat 2 == UInt64.ofNat 0)=decide (x.toNat % 2=0):=by
  refine decide_eq_decide.2 ⟨fun h=>?_,fun h=>?_⟩
  ·have:=congrArg UInt64.toNat h;rw [UInt64.toNat_mod] at this;exact this
  ·apply UInt64.toNat_inj.1;rw [UInt64.toNat_mod];exact h
 simp only [T166,T166c,hm,half,uzg]
 have e1:w64 ((x.toNat / 2:Nat):Int)=((x.toNat / 2:Nat):Int):=w64_in (by omega) (by omega)
 have e2:w64 (0 - ((x.toNat / 2:Nat):Int))=0 - ((x.toNat / 2:Nat):Int):=w64_in (by omega) (by omega)
 have e3:w64 (0 - ((x.toNat / 2:Nat):Int) - 1)=0 - ((x.toNat / 2:Nat):Int) - 1:=w64_in (by omega) (by omega)
 rw [e1,e2,e3]
 by_cases h:x.toNat % 2=1
 ·rw [decide_eq_false (by omega),cond_false,if_pos h];congr 1;omega
 ·rw [decide_eq_true (by omega),cond_true,if_neg h]
theorem ofNat_to {v:Nat} (h:v < 2 ^ 64):(UInt64.ofNat v).toNat=v:=by rw [UInt64.toNat_ofNat'];omega
theorem kI {F:Nat} (hF:5000 < F) {b:Bs} (hb:b.length < 100000000) {s:RS} {o e:Int} (h:At b s o e) (l:Int):∃ o' l' e',T70 F o l e b=some ((rI s).1,o',l',e')∧At b (rI s).2 o' e':=by
 cases s with
 | none=>
  refine ⟨o,l,e,?_,h⟩
  simp only [T70,T70c,T123,T123c,T161,T161c,h.bne,cond_true,Option.bind_some,t122];rfl
 | some r=>
  obtain ⟨rfl,n,rfl,hn,rfl⟩:=h
  rcases t90 (F:=F) (by omega) b (by omega) hn with ⟨v,k,h1,h2⟩ | ⟨h1,p,h2⟩
  ·have hd:=dec_enc h1
   have hk:n + k≤b.length:=by have:=hd.2.2.2;rw [List.length_drop] at this;omega
   refine ⟨((n + k:Nat):Int),(n:Int),0,?_,?_⟩
   ·simp only [T70,T70c,T123,T123c,T161,T161c,bne_self_eq_false,cond_false,h2,Option.bind_some,T197,T197c,t122,ofNat_to hd.2.2.1,rI,rN,h1]
   ·simp only [rI,rN,h1];exact At.mk hk
  ·refine ⟨(n:Int),(n:Int),3,?_,?_⟩
   ·have c3:((3:Int) != 0)=true:=rfl
    simp only [T70,T70c,T123,T123c,T161,T161c,bne_self_eq_false,cond_false,h2,Option.bind_some,T197,T197c,c3,cond_true,t122,rI,rN,h1];rfl
   ·simp only [rI,rN,h1];show (3:Int) ≠ 0;decide
theorem lim {m:Nat} (hm:m≤2000000) {v:Nat} (hv:v < 2 ^ 64):decide (UInt64.ofInt (if ((m:Nat):Int) < 0 then 0 else ((m:Nat):Int)) < UInt64.ofNat v) = !decide (v≤m):=by
 rw [if_neg (by omega)]
 have:(UInt64.ofInt ((m:Nat):Int) < UInt64.ofNat v) ↔ m < v:=by rw [UInt64.lt_iff_toNat_lt,ofInt_nat' (by omega),ofNat_to hv]
 by_cases h:v≤m
 ·rw [decide_eq_true h,Bool.not_true];exact decide_eq_false (by rw [this];omega)
 ·rw [decide_eq_false h,Bool.not_false];exact decide_eq_true (by rw [this];omega)
theorem t160 {F:Nat} (hF:5000 < F) {b:Bs} (hb:b.length < 100000000) {m:Nat} (hm:m≤2000000) {n:Nat} (hn:n≤b.length) :
  (∃ v k,decS 0 (b.drop n)=some (v,k)∧v≤m∧n + k≤b.length∧T160 F (m:Int) (n:Int) b=some ((v:Int),0,((n + k:Nat):Int))) ∨
  ((∀ v k,decS 0 (b.drop n)=some (v,k)->m < v)∧∃ e p,e ≠ 0∧T160 F (m:Int) (n:Int) b=some (0,e,p)):=by
 rcases t90 (F:=F) (by omega) b (by omega) hn with ⟨v,k,h1,h2⟩ | ⟨h1,p,h2⟩
 ·have hd:=dec_enc h1
  have hk:n + k≤b.length:=by have:=hd.2.2.2;rw [List.length_drop] at this;omega
  by_cases hv:v≤m
  ·refine .inl ⟨v,k,h1,hv,hk,?_⟩
   have e1:w64 ((v:Nat):Int)=((v:Nat):Int):=w64_in (by omega) (by omega)
   simp only [T160,T160c,h2,Option.bind_some,bne_self_eq_false,cond_false,lim hm hd.2.2.1,decide_eq_true hv,Bool.not_true,ofNat_to hd.2.2.1,e1]
  ·refine .inr ⟨fun v' k' h=>by (rw [h1] at h;cases h;omega),2,((n + k:Nat):Int),by decide,?_⟩
   simp only [T160,T160c,h2,Option.bind_some,bne_self_eq_false,cond_false,lim hm hd.2.2.1,decide_eq_false hv,Bool.not_false,cond_true]
 ·refine .inr ⟨fun v' k' h=>by (rw [h1] at h;cases h),3,p,by decide,?_⟩
  have c3:((3:Int) != 0)=true:=rfl
  simp only [T160,T160c,h2,Option.bind_some,c3,cond_true]
theorem kC {F:Nat} (hF:5000 < F) {b:Bs} (hb:b.length < 100000000) {m:Nat} (hm:m≤2000000) {s:RS} {o e:Int} (h:At b s o e) (l:Int):∃ o' l' e',T121 F (m:Int) o l e b=some (((rC m s).1:Int),o',l',e')∧At b (rC m s).2 o' e':=by
 cases s with
 | none=>
  refine ⟨o,l,e,?_,h⟩
  simp only [T121,T121c,T158,T158c,h.bne,cond_true,Option.bind_some];rfl
 | some r=>
  obtain ⟨rfl,n,rfl,hn,rfl⟩:=h
  rcases t160 hF hb hm hn with ⟨v,k,h1,hv,hk,h2⟩ | ⟨h1,e,p,he,h2⟩
  ·refine ⟨((n + k:Nat):Int),(n:Int),0,?_,?_⟩
   ·simp only [T121,T121c,T158,T158c,T159,T159c,bne_self_eq_false,cond_false,h2,Option.bind_some,T196,T196c,rC,h1,if_pos hv]
   ·simp only [rC,h1,if_pos hv];exact At.mk hk
  ·have hr:rC m (some (b.drop n))=(0,none):=by
    cases hd:decS 0 (b.drop n) with
    | none=>simp only [rC,hd]
    | some p=>obtain ⟨v,k⟩:=p;have:=h1 v k hd;simp only [rC,hd];rw [if_neg (by omega)]
   have c3:(e != 0)=true:=by simp [he]
   refine ⟨(n:Int),(n:Int),e,?_,?_⟩
   ·simp only [T121,T121c,T158,T158c,T159,T159c,bne_self_eq_false,cond_false,h2,Option.bind_some,T196,T196c,c3,cond_true,hr];rfl
   ·rw [hr];exact he
theorem t130 {F:Nat} {b:Bs} (hb:b.length < 100000000) {n:Nat} (hn:n≤b.length) (v:Nat) (hv:v < 1000000000) :
  (n + v≤b.length∧T130 F (v:Int) (n:Int) b=some ((n,n + v),0,((n + v:Nat):Int)))∨(¬ n + v≤b.length∧T130 F (v:Int) (n:Int) b=some ((0,0),3,(n:Int))):=by
 have e1:w64 ((b.length:Int) - (n:Int))=(b.length:Int) - (n:Int):=w64_in (by omega) (by omega)
 have e2:w64 ((n:Int) + (v:Int))=((n + v:Nat):Int):=by rw [w64_in (by omega) (by omega)];omega
 by_cases h:n + v≤b.length
 ·refine .inl ⟨h,?_⟩
  have q:¬ ((b.length:Int) - (n:Int) < (v:Int)):=by omega
  have g:gslb b.length (n:Int) ((n + v:Nat):Int)=some (n,n + v):=by unfold gslb;rw [if_pos (by omega),Int.toNat_natCast,Int.toNat_natCast]
  simp only [T130,T130c,e1,q,decide_false,cond_false,e2,g,Option.bind_some]
 ·refine .inr ⟨h,?_⟩
  have q:(b.length:Int) - (n:Int) < (v:Int):=by omega
  simp only [T130,T130c,e1,q,decide_true,cond_true]
theorem drop_take {b:Bs} {n v:Nat}:(b.drop n).take (n + v - n)=(b.drop n).take v:=by rw [Nat.add_sub_cancel_left]
theorem kS {F:Nat} {b:Bs} (hb:b.length < 100000000) {s:RS} {o e:Int} (h:At b s o e) (l:Int):∃ o' l' e',T79 F o l e b=some ((rS s).1,o',l',e')∧At b (rS s).2 o' e':=by
 cases s with
 | none=>
  refine ⟨o,l,e,?_,h⟩
  simp only [T79,T79c,T124,T124c,h.bne,cond_true,Option.bind_some];rfl
 | some r=>
  obtain ⟨rfl,n,rfl,hn,rfl⟩:=h
  rcases t130 (F:=F) hb hn 32 (by omega) with ⟨h1,h2⟩ | ⟨h1,h2⟩
  ·have h2:T130 F 32 (n:Int) b=some ((n,n + 32),0,((n + 32:Nat):Int)):=h2
   have hr:rS (some (b.drop n))=((b.drop n).take 32,some ((b.drop n).drop 32)):=by simp only [rS];rw [if_pos (by rw [List.length_drop];omega)]
   refine ⟨((n + 32:Nat):Int),(n:Int),0,?_,?_⟩
   ·simp only [T79,T79c,T124,T124c,T129,T129c,bne_self_eq_false,cond_false,h2,Option.bind_some,T163,T163c,hr,drop_take]
   ·rw [hr];exact At.mk h1
  ·have h2:T130 F 32 (n:Int) b=some ((0,0),3,(n:Int)):=h2
   have hr:rS (some (b.drop n))=([],none):=by simp only [rS];rw [if_neg (by rw [List.length_drop];omega)]
   have c3:((3:Int) != 0)=true:=rfl
   refine ⟨(n:Int),(n:Int),3,?_,?_⟩
   ·simp only [T79,T79c,T124,T124c,T129,T129c,bne_self_eq_false,cond_false,h2,Option.bind_some,T163,T163c,hr,c3,cond_true]
   ·rw [hr];show (3:Int) ≠ 0;decide
theorem t126 {F:Nat} (hF:5000 < F) {b:Bs} (hb:b.length < 100000000) {m:Nat} (hm:m≤2000000) {n:Nat} (hn:n≤b.length) :
  (∃ j k v,rT m (some (b.drop n))=((b.drop j).take (k - j),some (b.drop k))∧k≤b.length∧T126 F (m:Int) (n:Int) b=some ((j,k),0,(k:Int))∧v=((b.drop j).take (k - j)).length) ∨
  (rT m (some (b.drop n))=([],none)∧∃ e p,e ≠ 0∧T126 F (m:Int) (n:Int) b=some ((0,0),e,p)):=by
 rcases t160 hF hb hm hn with ⟨v,k,h1,hv,hk,h2⟩ | ⟨h1,e,p,he,h2⟩
 ·rcases t130 (F:=F) hb hk v (by omega) with ⟨h3,h4⟩ | ⟨h3,h4⟩
  ·refine .inl ⟨n + k,n + k + v,_,?_,h3,?_,rfl⟩
   ·have hx:v≤m∧v≤((b.drop n).drop k).length:=⟨hv,by rw [List.drop_drop,List.length_drop];omega⟩
    simp only [rT,h1];rw [if_pos hx];simp only [List.drop_drop,Nat.add_sub_cancel_left]
   ·simp only [T126,T126c,h2,Option.bind_some,bne_self_eq_false,cond_false,h4]
  ·refine .inr ⟨?_,3,((n + k:Nat):Int),by decide,?_⟩
   ·have hx:¬ (v≤m∧v≤((b.drop n).drop k).length):=by rw [List.drop_drop,List.length_drop];omega
    simp only [rT,h1];rw [if_neg hx]
   ·simp only [T126,T126c,h2,Option.bind_some,bne_self_eq_false,cond_false,h4]
 ·refine .inr ⟨?_,e,p,he,?_⟩
  ·cases hd:decS 0 (b.drop n) with
   | none=>simp only [rT,hd]
   | some p=>obtain ⟨v,k⟩:=p;have:=h1 v k hd;simp only [rT,hd];rw [if_neg (by omega)]
  ·have c3:(e != 0)=true:=by simp [he]
   simp only [T126,T126c,h2,Option.bind_some,c3,cond_true]
theorem kT {F:Nat} (hF:5000 < F) {b:Bs} (hb:b.length < 100000000) {m:Nat} (hm:m≤2000000) {s:RS} {o e:Int} (h:At b s o e) (l:Int):∃ o' l' e',T74 F (m:Int) o l e b=some ((rT m s).1,o',l',e')∧At b (rT m s).2 o' e':=by
 cases s with
 | none=>
  refine ⟨o,l,e,?_,h⟩
  simp only [T74,T74c,T124x1,T124x1c,h.bne,cond_true,Option.bind_some];rfl
 | some r=>
  obtain ⟨rfl,n,rfl,hn,rfl⟩:=h
  rcases t126 hF hb hm hn with ⟨j,k,v,h1,h2,h3,_⟩ | ⟨h1,e,p,he,h2⟩
  ·refine ⟨(k:Int),(n:Int),0,?_,?_⟩
   ·simp only [T74,T74c,T124x1,T124x1c,T125,T125c,bne_self_eq_false,cond_false,h3,Option.bind_some,T163,T163c,h1]
   ·rw [h1];exact ⟨rfl,k,rfl,h2,rfl⟩
  ·have c3:(e != 0)=true:=by simp [he]
   refine ⟨(n:Int),(n:Int),e,?_,?_⟩
   ·simp only [T74,T74c,T124x1,T124x1c,T125,T125c,bne_self_eq_false,cond_false,h2,Option.bind_some,T163,T163c,c3,cond_true,h1]
   ·rw [h1];exact he
theorem kB {F:Nat} {b:Bs} (hb:b.length < 100000000) {s:RS} {o e:Int} (h:At b s o e) (l:Int):∃ o' l' e',T75 F o l e b=some ((rB s).1,o',l',e')∧At b (rB s).2 o' e':=by
 cases s with
 | none=>
  refine ⟨o,l,e,?_,h⟩
  simp only [T75,T75c,T127,T127c,h.bne,cond_true,Option.bind_some];rfl
 | some r=>
  obtain ⟨rfl,n,rfl,hn,rfl⟩:=h
  have c3:((3:Int) != 0)=true:=rfl
  by_cases hl:n=b.length
  ·have hr:rB (some (b.drop n))=(false,none):=by rw [hl,List.drop_length];rfl
   have q:((n:Int) == (b.length:Int))=true:=by rw [hl];exact beq_self_eq_true _
   refine ⟨(n:Int),(n:Int),3,?_,?_⟩
   ·simp only [T75,T75c,T127,T127c,T128,T128c,bne_self_eq_false,cond_false,q,cond_true,Option.bind_some,T164,T164c,c3,hr]
   ·rw [hr];show (3:Int) ≠ 0;decide
  ·have hn':n < b.length:=by omega
   have q:((n:Int) == (b.length:Int))=false:=decide_eq_false (by omega)
   have hd:b.drop n=b[n] :: b.drop (n + 1):=List.drop_eq_getElem_cons hn'
   have hx:(UInt8.ofNat 1 < b[n]) ↔ ¬ (b[n]).toNat≤1:=by rw [UInt8.lt_iff_toNat_lt];show 1 < _ ↔ _;omega
   by_cases hle:(b[n]).toNat≤1
   ·have hr:rB (some (b.drop n))=(decide ((b[n]).toNat=1),some (b.drop (n + 1))):=by rw [hd];simp only [rB,if_pos hle]
    have d1:decide (UInt8.ofNat 1 < b[n])=false:=decide_eq_false (by rw [hx];omega)
    have d2:(b[n] == UInt8.ofNat 1)=decide ((b[n]).toNat=1):=decide_eq_decide.2 ⟨fun h=>congrArg UInt8.toNat h,fun h=>UInt8.toNat_inj.1 h⟩
    refine ⟨((n + 1:Nat):Int),(n:Int),0,?_,?_⟩
    ·simp only [T75,T75c,T127,T127c,T128,T128c,bne_self_eq_false,cond_false,q,inbn hn',List.getElem?_eq_getElem hn',d1,d2,w64s (show n < 1000000000 by omega),Option.bind_some,T164,T164c,hr]
    ·rw [hr];exact ⟨rfl,n + 1,rfl,hn',rfl⟩
   ·have hr:rB (some (b.drop n))=(false,none):=by rw [hd];simp only [rB,if_neg hle]
    have d1:decide (UInt8.ofNat 1 < b[n])=true:=decide_eq_true (by rw [hx];exact hle)
    refine ⟨(n:Int),(n:Int),3,?_,?_⟩
    ·simp only [T75,T75c,T127,T127c,T128,T128c,bne_self_eq_false,cond_false,q,inbn hn',List.getElem?_eq_getElem hn',d1,cond_true,Option.bind_some,T164,T164c,c3,hr]
    ·rw [hr];show (3:Int) ≠ 0;decide
end Go.Proofs.YthikoaamigiceaaGreatDoor
namespace Go.Proofs.YthikoaamigiceaaGreatDoor
open Go.Tw
set_option linter.unusedSimpArgs false
set_option linter.unusedVariables false
theorem rd_loop {α:Type} {b:Bs} {f:Int×Int×Int×Int×List α->Option ((Int×Int×Int×Int×List α) ⊕ (Int×Int×Int×List α))} {rd:RS->α×RS} {c:Nat->Int} {N:Nat} (hN:N≤4096)
  (hs:∀ k,k < N->∀ s o l e acc,At b s o e->acc.length≤5000->∃ o' l' e',f (c (k + 1),o,l,e,acc)=some (.inl (c k,o',l',e',acc ++ [(rd s).1]))∧At b (rd s).2 o' e')
  (he:∀ o l e acc,f (c 0,o,l,e,acc)=some (.inr (o,l,e,acc))) {fuel:Nat} (hf:5000 < fuel) {s:RS} {o e:Int} (h:At b s o e) (l:Int) :
  ∃ o' l' e',iter f fuel (c N,o,l,e,[])=some (o',l',e',(rL rd N s).1)∧At b (rL rd N s).2 o' e':=by
 have key:∀ (m fuel:Nat) (s:RS) (o l e:Int) (acc:List α),m≤N->m < fuel->At b s o e->acc.length + m≤5000->∃ o' l' e',iter f fuel (c m,o,l,e,acc)=some (o',l',e',acc ++ (rL rd m s).1)∧At b (rL rd m s).2 o' e':=by
  intro m
  induction m with
  | zero=>
   intro fuel s o l e acc hm hf h ha
   obtain ⟨fuel,rfl⟩:∃ k,fuel=k + 1:=⟨fuel - 1,by omega⟩
   exact ⟨o,l,e,by rw [it_out (he o l e acc)];simp [rL],h⟩
  | succ m ih=>
   intro fuel s o l e acc hm hf h ha
   obtain ⟨fuel,rfl⟩:∃ k,fuel=k + 1:=⟨fuel - 1,by omega⟩
   obtain ⟨o',l',e',h1,h2⟩:=hs m (by omega) s o l e acc h (by omega)
   obtain ⟨o2,l2,e2,h3,h4⟩:=ih fuel _ o' l' e' (acc ++ [(rd s).1]) (by omega) (by omega) h2 (by simp;omega)
   refine ⟨o2,l2,e2,?_,h4⟩
   rw [it_again h1,h3]
   simp [rL]
 have:=key N fuel s o l e [] (by omega) (by omega) h (by simp;omega)
 simpa using this
variable {F:Nat} {b:Bs} {s:RS} {o e:Int}
theorem k67 (hF:5000 < F) (hb:b.length < 100000000) (h:At b s o e) (l:Int):∃ o' l' e',T67 F o l e b=some (o',l',e',(rI s).1,(rI (rI s).2).1)∧At b (rI (rI s).2).2 o' e':=by
 obtain ⟨o1,l1,e1,a1,h⟩:=kI hF hb h l
 obtain ⟨o2,l2,e2,a2,h⟩:=kI hF hb h l1
 exact ⟨o2,l2,e2,by simp only [T67,T67c,a1,a2,Option.bind_some],h⟩
theorem k67x2 (hF:5000 < F) (hb:b.length < 100000000) (h:At b s o e) (l:Int):∃ o' l' e',T67x2 F o l e b=some (o',l',e',(rI s).1,(rI (rI s).2).1)∧At b (rI (rI s).2).2 o' e':=by
 obtain ⟨o1,l1,e1,a1,h⟩:=kI hF hb h l
 obtain ⟨o2,l2,e2,a2,h⟩:=kI hF hb h l1
 exact ⟨o2,l2,e2,by simp only [T67x2,T67x2c,a1,a2,Option.bind_some],h⟩
theorem k67x3 (hF:5000 < F) (hb:b.length < 100000000) (h:At b s o e) (l:Int):∃ o' l' e',T67x3 F o l e b=some (o',l',e',(rI s).1,(rI (rI s).2).1)∧At b (rI (rI s).2).2 o' e':=by
 obtain ⟨o1,l1,e1,a1,h⟩:=kI hF hb h l
 obtain ⟨o2,l2,e2,a2,h⟩:=kI hF hb h l1
 exact ⟨o2,l2,e2,by simp only [T67x3,T67x3c,a1,a2,Option.bind_some],h⟩
theorem k67x5 (hF:5000 < F) (hb:b.length < 100000000) (h:At b s o e) (l:Int):∃ o' l' e',T67x5 F o l e b=some (o',l',e',(rI s).1,(rI (rI s).2).1)∧At b (rI (rI s).2).2 o' e':=by
 obtain ⟨o1,l1,e1,a1,h⟩:=kI hF hb h l
 obtain ⟨o2,l2,e2,a2,h⟩:=kI hF hb h l1
 exact ⟨o2,l2,e2,by simp only [T67x5,T67x5c,a1,a2,Option.bind_some],h⟩
theorem k67x1 (hF:5000 < F) (hb:b.length < 100000000) (h:At b s o e) (l:Int):∃ o' l' e',T67x1 F o l e b=some (o',l',e',(rI s).1,(rI (rI s).2).1,(rI (rI (rI s).2).2).1)∧At b (rI (rI (rI s).2).2).2 o' e':=by
 obtain ⟨o1,l1,e1,a1,h⟩:=kI hF hb h l
 obtain ⟨o2,l2,e2,a2,h⟩:=kI hF hb h l1
 obtain ⟨o3,l3,e3,a3,h⟩:=kI hF hb h l2
 exact ⟨o3,l3,e3,by simp only [T67x1,T67x1c,a1,a2,a3,Option.bind_some],h⟩
theorem k67x4 (hF:5000 < F) (hb:b.length < 100000000) (h:At b s o e) (l:Int):∃ o' l' e',T67x4 F o l e b=some (o',l',e',(rI s).1,(rI (rI s).2).1,(rI (rI (rI s).2).2).1,(rI (rI (rI (rI s).2).2).2).1)∧At b (rI (rI (rI (rI s).2).2).2).2 o' e':=by
 obtain ⟨o1,l1,e1,a1,h⟩:=kI hF hb h l
 obtain ⟨o2,l2,e2,a2,h⟩:=kI hF hb h l1
 obtain ⟨o3,l3,e3,a3,h⟩:=kI hF hb h l2
 obtain ⟨o4,l4,e4,a4,h⟩:=kI hF hb h l3
 exact ⟨o4,l4,e4,by simp only [T67x4,T67x4c,a1,a2,a3,a4,Option.bind_some],h⟩
theorem k73 (hF:5000 < F) (hb:b.length < 100000000) (h:At b s o e) (l:Int):∃ o' l' e',T73 F o l e b=some (o',l',e',(rR s).1.1,(rR s).1.2.1,(rR s).1.2.2.1)∧At b (rR s).2 o' e':=by
 obtain ⟨o1,l1,e1,a1,h⟩:=kS (F:=F) hb h l
 obtain ⟨o2,l2,e2,a2,h⟩:=k67x2 hF hb h l1
 exact ⟨o2,l2,e2,by simp only [T73,T73c,a1,a2,Option.bind_some,rR],h⟩
theorem k73x1 (hF:5000 < F) (hb:b.length < 100000000) (h:At b s o e) (l:Int):∃ o' l' e',T73x1 F o l e b=some (o',l',e',(rR s).1.1,(rR s).1.2.1,(rR s).1.2.2.1)∧At b (rR s).2 o' e':=by
 obtain ⟨o1,l1,e1,a1,h⟩:=kS (F:=F) hb h l
 obtain ⟨o2,l2,e2,a2,h⟩:=k67x5 hF hb h l1
 exact ⟨o2,l2,e2,by simp only [T73x1,T73x1c,a1,a2,Option.bind_some,rR],h⟩
theorem k72 (hF:5000 < F) (hb:b.length < 100000000) (h:At b s o e) (l:Int):∃ o' l' e',T72 F o l e b=some ((rSn s).1.1,(rSn s).1.2.1,(rSn s).1.2.2.1,(rSn s).1.2.2.2.1.1,(rSn s).1.2.2.2.1.2.1,(rSn s).1.2.2.2.1.2.2.1,(rSn s).1.2.2.2.2.1,(rSn s).1.2.2.2.2.2.1,(rSn s).1.2.2.2.2.2.2.1,(rSn s).1.2.2.2.2.2.2.2.1,o',l',e')∧At b (rSn s).2 o' e':=by
 obtain ⟨o1,l1,e1,a1,h⟩:=k67x1 hF hb h l
 obtain ⟨o2,l2,e2,a2,h⟩:=k73 hF hb h l1
 obtain ⟨o3,l3,e3,a3,h⟩:=k67x3 hF hb h l2
 obtain ⟨o4,l4,e4,a4,h⟩:=kT (m:=32) hF hb (by omega) h l3
 have a4:T74 F 32 o3 l3 e3 b=_:=a4
 obtain ⟨o5,l5,e5,a5,h⟩:=kB (F:=F) hb h l4
 exact ⟨o5,l5,e5,by simp only [T72,T72c,a1,a2,a3,a4,a5,Option.bind_some,rSn],h⟩
theorem w64sub {N k:Nat} (hk:k < N) (hN:N≤4096):w64 ((N:Int) - ((k + 1:Nat):Int) + 1)=(N:Int) - (k:Int):=by rw [w64_in (by omega) (by omega)];omega
theorem k80 (hF:5000 < F) (hb:b.length < 100000000) {m:Nat} (hm:m≤4096) (h:At b s o e) (l:Int):∃ o' l' e',T80 F (m:Int) o l e b=some (o',l',e',(rLs m rR s).1)∧At b (rLs m rR s).2 o' e':=by
 obtain ⟨o1,l1,e1,a1,h⟩:=kC (m:=m) hF hb (by omega) h l
 have hle:=rC_le m s
 generalize hN:(rC m s).1=N at *
 have:=rd_loop (fuel:=F) (b:=b) (f:=fun s:Int×Int×Int×Int×List Rf=>L80_2 F (N:Int) b s.1 s.2.1 s.2.2.1 s.2.2.2.1 s.2.2.2.2) (rd:=rR) (c:=fun k=>(N:Int) - (k:Int)) (N:=N) (by omega)
  (fun k hk s o l e acc h ha=>by
   obtain ⟨o2,l2,e2,a2,h⟩:=k73x1 hF hb h l
   have q:(N:Int) - ((k + 1:Nat):Int) < (N:Int):=by omega
   exact ⟨o2,l2,e2,by simp only [L80_2,L80_2c,q,decide_true,cond_true,T76,T76c,a2,Option.bind_some,gapp_ok (show acc.length + [((rR s).1.1,(rR s).1.2.1,(rR s).1.2.2.1,())].length≤1000000000 by simp;omega),w64sub hk (show N≤4096 by omega)],h⟩)
  (fun o l e acc=>by
   have q:¬ ((N:Int) - ((0:Nat):Int) < (N:Int)):=by omega
   simp only [L80_2,L80_2c,q,decide_false,cond_false]) hF h l1
 obtain ⟨o3,l3,e3,a3,h⟩:=this
 have a3:iter (fun s:Int×Int×Int×Int×List Rf=>L80_2 F (N:Int) b s.1 s.2.1 s.2.2.1 s.2.2.2.1 s.2.2.2.2) F ((N:Int) - (N:Int),o1,l1,e1,[])=_:=a3
 rw [Int.sub_self] at a3
 refine ⟨o3,l3,e3,?_,?_⟩
 ·simp only [T80,T80c,a1,Option.bind_some,a3,rLs,hN]
 ·simp only [rLs,hN];exact h
theorem k68 (hF:5000 < F) (hb:b.length < 100000000) {m:Nat} (hm:m≤4096) (h:At b s o e) (l:Int):∃ o' l' e',T68 F (m:Int) o l e b=some (o',l',e',(rLs m rI s).1)∧At b (rLs m rI s).2 o' e':=by
 obtain ⟨o1,l1,e1,a1,h⟩:=kC (m:=m) hF hb (by omega) h l
 have hle:=rC_le m s
 generalize hN:(rC m s).1=N at *
 have:=rd_loop (fuel:=F) (b:=b) (f:=fun s:Int×Int×Int×Int×List Int=>L68_2 F (N:Int) b s.1 s.2.1 s.2.2.1 s.2.2.2.1 s.2.2.2.2) (rd:=rI) (c:=fun k=>(N:Int) - (k:Int)) (N:=N) (by omega)
  (fun k hk s o l e acc h ha=>by
   obtain ⟨o2,l2,e2,a2,h⟩:=kI hF hb h l
   have q:(N:Int) - ((k + 1:Nat):Int) < (N:Int):=by omega
   exact ⟨o2,l2,e2,by simp only [L68_2,L68_2c,q,decide_true,cond_true,T69,T69c,a2,Option.bind_some,gapp_ok (show acc.length + [(rI s).1].length≤1000000000 by simp;omega),w64sub hk (show N≤4096 by omega)],h⟩)
  (fun o l e acc=>by
   have q:¬ ((N:Int) - ((0:Nat):Int) < (N:Int)):=by omega
   simp only [L68_2,L68_2c,q,decide_false,cond_false]) hF h l1
 obtain ⟨o3,l3,e3,a3,h⟩:=this
 have a3:iter (fun s:Int×Int×Int×Int×List Int=>L68_2 F (N:Int) b s.1 s.2.1 s.2.2.1 s.2.2.2.1 s.2.2.2.2) F ((N:Int) - (N:Int),o1,l1,e1,[])=_:=a3
 rw [Int.sub_self] at a3
 refine ⟨o3,l3,e3,?_,?_⟩
 ·simp only [T68,T68c,a1,Option.bind_some,a3,rLs,hN]
 ·simp only [rLs,hN];exact h
theorem k71 (hF:5000 < F) (hb:b.length < 100000000) {m:Nat} (hm:m≤4096) (h:At b s o e) (l:Int):∃ o' l' e',T71 F (m:Int) o l e b=some (o',l',e',(rLs m rSn s).1)∧At b (rLs m rSn s).2 o' e':=by
 obtain ⟨o1,l1,e1,a1,h⟩:=kC (m:=m) hF hb (by omega) h l
 have hle:=rC_le m s
 generalize hN:(rC m s).1=N at *
 have:=rd_loop (fuel:=F) (b:=b) (f:=fun s:Int×Int×Int×Int×List Sn=>L71_2 F (N:Int) b s.1 s.2.1 s.2.2.1 s.2.2.2.1 s.2.2.2.2) (rd:=rSn) (c:=fun k=>(N:Int) - (k:Int)) (N:=N) (by omega)
  (fun k hk s o l e acc h ha=>by
   obtain ⟨o2,l2,e2,a2,h⟩:=k72 hF hb h l
   have q:(N:Int) - ((k + 1:Nat):Int) < (N:Int):=by omega
   have g:gapp acc [((rSn s).1.1,(rSn s).1.2.1,(rSn s).1.2.2.1,((rSn s).1.2.2.2.1.1,(rSn s).1.2.2.2.1.2.1,(rSn s).1.2.2.2.1.2.2.1,()),(rSn s).1.2.2.2.2.1,(rSn s).1.2.2.2.2.2.1,(rSn s).1.2.2.2.2.2.2.1,(rSn s).1.2.2.2.2.2.2.2.1,())]=some (acc ++ [(rSn s).1]):=gapp_ok (by simp;omega)
   exact ⟨o2,l2,e2,by simp only [L71_2,L71_2c,q,decide_true,cond_true,a2,Option.bind_some,g,w64sub hk (show N≤4096 by omega)],h⟩)
  (fun o l e acc=>by
   have q:¬ ((N:Int) - ((0:Nat):Int) < (N:Int)):=by omega
   simp only [L71_2,L71_2c,q,decide_false,cond_false]) hF h l1
 obtain ⟨o3,l3,e3,a3,h⟩:=this
 have a3:iter (fun s:Int×Int×Int×Int×List Sn=>L71_2 F (N:Int) b s.1 s.2.1 s.2.2.1 s.2.2.2.1 s.2.2.2.2) F ((N:Int) - (N:Int),o1,l1,e1,[])=_:=a3
 rw [Int.sub_self] at a3
 refine ⟨o3,l3,e3,?_,?_⟩
 ·simp only [T71,T71c,a1,Option.bind_some,a3,rLs,hN]
 ·simp only [rLs,hN];exact h
theorem k78 (hF:5000 < F) (hb:b.length < 100000000) (h:At b s o e) (l:Int):∃ o' l' e',T78 F o l e b=some ((rSp s).1.1,(rSp s).1.2.1,(rSp s).1.2.2.1,(rSp s).1.2.2.2.1,(rSp s).1.2.2.2.2.1,o',l',e',(rSp s).1.2.2.2.2.2.1)∧At b (rSp s).2 o' e':=by
 obtain ⟨o1,l1,e1,a1,h⟩:=kS (F:=F) hb h l
 obtain ⟨o2,l2,e2,a2,h⟩:=k67x4 hF hb h l1
 obtain ⟨o3,l3,e3,a3,h⟩:=k80 (m:=8) hF hb (by omega) h l2
 have a3:T80 F 8 o2 l2 e2 b=_:=a3
 exact ⟨o3,l3,e3,by simp only [T78,T78c,a1,a2,a3,Option.bind_some,rSp],h⟩
theorem k77 (hF:5000 < F) (hb:b.length < 100000000) {m:Nat} (hm:m≤4096) (h:At b s o e) (l:Int):∃ o' l' e',T77 F (m:Int) o l e b=some (o',l',e',(rLs m rSp s).1)∧At b (rLs m rSp s).2 o' e':=by
 obtain ⟨o1,l1,e1,a1,h⟩:=kC (m:=m) hF hb (by omega) h l
 have hle:=rC_le m s
 generalize hN:(rC m s).1=N at *
 have:=rd_loop (fuel:=F) (b:=b) (f:=fun s:Int×Int×Int×Int×List Sp=>L77_2 F (N:Int) b s.1 s.2.1 s.2.2.1 s.2.2.2.1 s.2.2.2.2) (rd:=rSp) (c:=fun k=>(N:Int) - (k:Int)) (N:=N) (by omega)
  (fun k hk s o l e acc h ha=>by
   obtain ⟨o2,l2,e2,a2,h⟩:=k78 hF hb h l
   have q:(N:Int) - ((k + 1:Nat):Int) < (N:Int):=by omega
   have g:gapp acc [((rSp s).1.1,(rSp s).1.2.1,(rSp s).1.2.2.1,(rSp s).1.2.2.2.1,(rSp s).1.2.2.2.2.1,(rSp s).1.2.2.2.2.2.1,())]=some (acc ++ [(rSp s).1]):=gapp_ok (by simp;omega)
   exact ⟨o2,l2,e2,by simp only [L77_2,L77_2c,q,decide_true,cond_true,a2,Option.bind_some,g,w64sub hk (show N≤4096 by omega)],h⟩)
  (fun o l e acc=>by
   have q:¬ ((N:Int) - ((0:Nat):Int) < (N:Int)):=by omega
   simp only [L77_2,L77_2c,q,decide_false,cond_false]) hF h l1
 obtain ⟨o3,l3,e3,a3,h⟩:=this
 have a3:iter (fun s:Int×Int×Int×Int×List Sp=>L77_2 F (N:Int) b s.1 s.2.1 s.2.2.1 s.2.2.2.1 s.2.2.2.2) F ((N:Int) - (N:Int),o1,l1,e1,[])=_:=a3
 rw [Int.sub_self] at a3
 refine ⟨o3,l3,e3,?_,?_⟩
 ·simp only [T77,T77c,a1,Option.bind_some,a3,rLs,hN]
 ·simp only [rLs,hN];exact h
theorem at_end {s:RS} (h:At b s o e):(s=some []∧(e != 0)=false∧e=0∧decide (o < (b.length:Int))=false)∨(s ≠ some []∧((e != 0)=true∨(e=0∧decide (o < (b.length:Int))=true))):=by
 cases s with
 | none=>exact .inr ⟨by simp,.inl h.bne⟩
 | some r=>
  obtain ⟨rfl,n,rfl,hn,rfl⟩:=h
  by_cases hl:n=b.length
  ·refine .inl ⟨by rw [hl,List.drop_length],rfl,rfl,decide_eq_false (by omega)⟩
  ·refine .inr ⟨fun h=>?_,.inr ⟨rfl,decide_eq_true (by omega)⟩⟩
   have:=congrArg List.length (Option.some.inj h)
   rw [List.length_drop] at this;simp at this;omega
theorem t21 (hF:5000 < F) (b:Bs):T21 F b=some (decR b):=by
 unfold decR
 by_cases hL:1048560 < b.length
 ·have q:(1048560:Int) < (b.length:Int):=by omega
  simp only [T21,T21c,q,decide_true,cond_true,if_pos hL];rfl
 ·have q:¬ (1048560:Int) < (b.length:Int):=by omega
  have hb:b.length < 100000000:=by omega
  rw [if_neg hL]
  have h0:At b (some b) 0 0:=⟨rfl,0,rfl,by omega,by simp⟩
  obtain ⟨o1,l1,e1,a1,h⟩:=k67 hF hb h0 0
  obtain ⟨o2,l2,e2,a2,h⟩:=k68 (m:=12) hF hb (by omega) h l1
  have a2:T68 F 12 o1 l1 e1 b=_:=a2
  obtain ⟨o3,l3,e3,a3,h⟩:=k71 (m:=4096) hF hb (by omega) h l2
  have a3:T71 F 4096 o2 l2 e2 b=_:=a3
  obtain ⟨o4,l4,e4,a4,h⟩:=k77 (m:=4096) hF hb (by omega) h l3
  have a4:T77 F 4096 o3 l3 e3 b=_:=a4
  obtain ⟨o5,l5,e5,a5,h⟩:=k80 (m:=4096) hF hb (by omega) h l4
  have a5:T80 F 4096 o4 l4 e4 b=_:=a5
  have h:At b (rX (some b)).2 o5 e5:=h
  have h43:=t43 hF (rX (some b)).1
  have g:=gapp_ok (xs:=([]:List UInt8)) (ys:=b) (by simp;omega)
  rw [List.nil_append] at g
  simp only [T21,T21c,q,decide_false,cond_false,T66,T66c,g,Option.bind_some,a1,a2,a3,a4,a5,T81,T81c]
  rcases at_end h with ⟨h1,h2,h3,h4⟩ | ⟨h1,h2 | ⟨h2,h3⟩⟩
  ·simp only [h2,h4,cond_false,bne_self_eq_false]
   have h43:T43 F (rI (some b)).1 (rI (rI (some b)).2).1 _ _ _ _=some (vX (rX (some b)).1):=h43
   simp only [rX] at h43 h1 ⊢
   simp only [h43,Option.bind_some,h1]
   split
   ·rename_i hv;rw [hv.2];rfl
   ·rename_i hv
    have hv:vX ((rI (some b)).1,_)=false:=Bool.eq_false_iff.2 fun hh=>hv ⟨trivial,hh⟩
    rw [hv];rfl
  ·have hz:(bif e5 != 0 then some e5 else bif decide (o5 < (b.length:Int)) then some (3:Int) else some 0)=some e5:=by rw [h2];rfl
   simp only [h2,cond_true,Option.bind_some]
   rw [if_neg (fun hh=>h1 hh.1)];rfl
  ·have c3:((3:Int) != 0)=true:=rfl
   subst h2
   simp only [bne_self_eq_false,cond_false,h3,cond_true,c3,Option.bind_some]
   rw [if_neg (fun hh=>h1 hh.1)];rfl
end Go.Proofs.YthikoaamigiceaaGreatDoor
namespace Go.Proofs.YthikoaamigiceaaGreatDoor
open Go.Tw
set_option linter.unusedSimpArgs false
set_option linter.unusedVariables false
variable {F:Nat} {b:Bs} {s:RS} {o e:Int}
theorem gsl_ok {α:Type} {b:List α} {n k:Nat} (h:n + k≤b.length):gsl b (n:Int) ((n + k:Nat):Int)=some ((b.drop n).take k):=by
 unfold gsl;rw [if_pos (by omega),Int.toNat_natCast,Int.toNat_natCast,Nat.add_sub_cancel_left]
theorem qI (hF:5000 < F) (hb:b.length < 100000000) (h:At b s o e) (l:Int):∃ o' l' e',T85 F 2 0 b o l e=some (0,(rI s).1,false,[],o',l',e')∧At b (rI s).2 o' e':=by
 have z0:((2:Int) == 0)=false:=rfl
 have z6:((2:Int) == 6)=false:=rfl
 have z3:((2:Int) == 3)=false:=rfl
 have z1:((2:Int) == 1)=false:=rfl
 have z2:((2:Int) == 2)=true:=rfl
 have c3:((3:Int) != 0)=true:=rfl
 cases s with
 | none=>
  refine ⟨o,l,e,?_,h⟩
  simp only [T85,T85c,h.bne,cond_true];rfl
 | some r=>
  obtain ⟨rfl,n,rfl,hn,rfl⟩:=h
  rcases t77 (F:=F) (by omega) b (by omega) hn with ⟨v,k,h1,h2⟩ | ⟨h1,h2⟩
  ·have hd:=dec_enc h1
   have hk:n + k≤b.length:=by have:=hd.2.2.2;rw [List.length_drop] at this;omega
   refine ⟨((n + k:Nat):Int),(n:Int),0,?_,?_⟩
   ·simp only [T85,T85c,T131,T131c,bne_self_eq_false,z0,z6,z3,z1,z2,cond_false,cond_true,h2,Option.bind_some,Bool.not_true,t166,ofNat_to hd.2.2.1,rI,rN,h1]
   ·simp only [rI,rN,h1];exact At.mk hk
  ·refine ⟨(n:Int),l,3,?_,?_⟩
   ·simp only [T85,T85c,T131,T131c,bne_self_eq_false,z0,z6,z3,z1,z2,cond_false,cond_true,h2,Option.bind_some,Bool.not_false,c3,rI,rN,h1];rfl
   ·simp only [rI,rN,h1];show (3:Int) ≠ 0;decide
theorem qC (hF:5000 < F) (hb:b.length < 100000000) {m:Nat} (hm:m≤2000000) (h:At b s o e) (l:Int):∃ o' l' e',T85 F 7 (m:Int) b o l e=some (0,((rC m s).1:Int),false,[],o',l',e')∧At b (rC m s).2 o' e':=by
 have z0:((7:Int) == 0)=false:=rfl
 have z6:((7:Int) == 6)=false:=rfl
 have z3:((7:Int) == 3)=false:=rfl
 have z1:((7:Int) == 1)=false:=rfl
 have z2:((7:Int) == 2)=false:=rfl
 have z7:((7:Int) == 7)=true:=rfl
 have c3:((3:Int) != 0)=true:=rfl
 have c2:((2:Int) != 0)=true:=rfl
 cases s with
 | none=>
  refine ⟨o,l,e,?_,h⟩
  simp only [T85,T85c,h.bne,cond_true];rfl
 | some r=>
  obtain ⟨rfl,n,rfl,hn,rfl⟩:=h
  rcases t77 (F:=F) (by omega) b (by omega) hn with ⟨v,k,h1,h2⟩ | ⟨h1,h2⟩
  ·have hd:=dec_enc h1
   have hk:n + k≤b.length:=by have:=hd.2.2.2;rw [List.length_drop] at this;omega
   by_cases hv:v≤m
   ·have e1:w64 ((v:Nat):Int)=((v:Nat):Int):=w64_in (by omega) (by omega)
    refine ⟨((n + k:Nat):Int),(n:Int),0,?_,?_⟩
    ·simp only [T85,T85c,T131,T131c,bne_self_eq_false,z0,z6,z3,z1,z2,z7,cond_false,cond_true,h2,Option.bind_some,Bool.not_true,lim hm hd.2.2.1,decide_eq_true hv,ofNat_to hd.2.2.1,e1,rC,h1,if_pos hv]
    ·simp only [rC,h1,if_pos hv];exact At.mk hk
   ·refine ⟨(n:Int),l,2,?_,?_⟩
    ·simp only [T85,T85c,T131,T131c,bne_self_eq_false,z0,z6,z3,z1,z2,z7,cond_false,cond_true,h2,Option.bind_some,Bool.not_true,lim hm hd.2.2.1,decide_eq_false hv,Bool.not_false,c2,rC,h1,if_neg hv];rfl
    ·simp only [rC,h1,if_neg hv];show (2:Int) ≠ 0;decide
  ·refine ⟨(n:Int),l,3,?_,?_⟩
   ·simp only [T85,T85c,T131,T131c,bne_self_eq_false,z0,z6,z3,z1,z2,cond_false,cond_true,h2,Option.bind_some,Bool.not_false,c3,rC,h1];rfl
   ·simp only [rC,h1];show (3:Int) ≠ 0;decide
theorem qS (hb:b.length < 100000000) (h:At b s o e) (l:Int):∃ o' l' e',T85 F 6 0 b o l e=some (0,0,false,(rS s).1,o',l',e')∧At b (rS s).2 o' e':=by
 have z0:((6:Int) == 0)=false:=rfl
 have z6:((6:Int) == 6)=true:=rfl
 have c3:((3:Int) != 0)=true:=rfl
 cases s with
 | none=>
  refine ⟨o,l,e,?_,h⟩
  simp only [T85,T85c,h.bne,cond_true];rfl
 | some r=>
  obtain ⟨rfl,n,rfl,hn,rfl⟩:=h
  have e1:w64 ((b.length:Int) - (n:Int))=(b.length:Int) - (n:Int):=w64_in (by omega) (by omega)
  have e2:w64 ((n:Int) + 32)=((n + 32:Nat):Int):=by rw [w64_in (by omega) (by omega)];omega
  by_cases hl:n + 32≤b.length
  ·have hr:rS (some (b.drop n))=((b.drop n).take 32,some ((b.drop n).drop 32)):=by simp only [rS];rw [if_pos (by rw [List.length_drop];omega)]
   have q:¬ ((b.length:Int) - (n:Int) < 32):=by omega
   refine ⟨((n + 32:Nat):Int),(n:Int),0,?_,?_⟩
   ·simp only [T85,T85c,T131,T131c,bne_self_eq_false,z0,z6,cond_false,cond_true,e1,q,decide_false,e2,gsl_ok hl,Option.bind_some,hr]
   ·rw [hr];exact At.mk hl
  ·have hr:rS (some (b.drop n))=([],none):=by simp only [rS];rw [if_neg (by rw [List.length_drop];omega)]
   have q:((b.length:Int) - (n:Int) < 32):=by omega
   refine ⟨(n:Int),l,3,?_,?_⟩
   ·simp only [T85,T85c,T131,T131c,bne_self_eq_false,z0,z6,cond_false,cond_true,e1,q,decide_true,Option.bind_some,c3,hr]
   ·rw [hr];show (3:Int) ≠ 0;decide
theorem qB (hb:b.length < 100000000) (h:At b s o e) (l:Int):∃ o' l' e',T85 F 3 0 b o l e=some (0,0,(rB s).1,[],o',l',e')∧At b (rB s).2 o' e':=by
 have z0:((3:Int) == 0)=false:=rfl
 have z6:((3:Int) == 6)=false:=rfl
 have z3:((3:Int) == 3)=true:=rfl
 have c3:((3:Int) != 0)=true:=rfl
 cases s with
 | none=>
  refine ⟨o,l,e,?_,h⟩
  simp only [T85,T85c,h.bne,cond_true];rfl
 | some r=>
  obtain ⟨rfl,n,rfl,hn,rfl⟩:=h
  by_cases hl:n=b.length
  ·have hr:rB (some (b.drop n))=(false,none):=by rw [hl,List.drop_length];rfl
   have q:((b.length:Int)≤(n:Int)):=by omega
   refine ⟨(n:Int),l,3,?_,?_⟩
   ·simp only [T85,T85c,T131,T131c,bne_self_eq_false,z0,z6,z3,cond_false,cond_true,q,decide_true,Option.bind_some,c3,hr]
   ·rw [hr];show (3:Int) ≠ 0;decide
  ·have hn':n < b.length:=by omega
   have q:¬ ((b.length:Int)≤(n:Int)):=by omega
   have hd:b.drop n=b[n] :: b.drop (n + 1):=List.drop_eq_getElem_cons hn'
   have hx:(UInt8.ofNat 1 < b[n]) ↔ ¬ (b[n]).toNat≤1:=by rw [UInt8.lt_iff_toNat_lt];show 1 < _ ↔ _;omega
   by_cases hle:(b[n]).toNat≤1
   ·have hr:rB (some (b.drop n))=(decide ((b[n]).toNat=1),some (b.drop (n + 1))):=by rw [hd];simp only [rB,if_pos hle]
    have d1:decide (UInt8.ofNat 1 < b[n])=false:=decide_eq_false (by rw [hx];omega)
    have d2:(b[n] == UInt8.ofNat 1)=decide ((b[n]).toNat=1):=decide_eq_decide.2 ⟨fun h=>congrArg UInt8.toNat h,fun h=>UInt8.toNat_inj.1 h⟩
    refine ⟨((n + 1:Nat):Int),(n:Int),0,?_,?_⟩
    ·simp only [T85,T85c,T131,T131c,bne_self_eq_false,z0,z6,z3,cond_false,cond_true,q,decide_false,ixG hn',d1,d2,w64s (show n < 1000000000 by omega),Option.bind_some,hr]
    ·rw [hr];exact ⟨rfl,n + 1,rfl,hn',rfl⟩
   ·have hr:rB (some (b.drop n))=(false,none):=by rw [hd];simp only [rB,if_neg hle]
    have d1:decide (UInt8.ofNat 1 < b[n])=true:=decide_eq_true (by rw [hx];exact hle)
    refine ⟨(n:Int),l,3,?_,?_⟩
    ·simp only [T85,T85c,T131,T131c,bne_self_eq_false,z0,z6,z3,cond_false,cond_true,q,decide_false,ixG hn',d1,Option.bind_some,c3,hr]
    ·rw [hr];show (3:Int) ≠ 0;decide
theorem q131 (hF:5000 < F) (hb:b.length < 100000000) {m:Nat} (hm:m≤2000000) {n:Nat} (hn:n≤b.length) {k:Int} (hk:k=4∨k=5) :
  (∃ j,j≤b.length∧(rT m (some (b.drop n))).2=some (b.drop j)∧T131 F b (n:Int) k (m:Int)=some (0,0,false,(rT m (some (b.drop n))).1,(j:Int),0)) ∨
  (rT m (some (b.drop n))=([],none)∧∃ e p,e ≠ 0∧T131 F b (n:Int) k (m:Int)=some (0,0,false,[],p,e)):=by
 have z6:(k == 6)=false:=by rcases hk with rfl | rfl<;>rfl
 have z3:(k == 3)=false:=by rcases hk with rfl | rfl<;>rfl
 have z1:(k == 1)=false:=by rcases hk with rfl | rfl<;>rfl
 have z2:(k == 2)=false:=by rcases hk with rfl | rfl<;>rfl
 have z7:(k == 7)=false:=by rcases hk with rfl | rfl<;>rfl
 rcases t77 (F:=F) (by omega) b (by omega) hn with ⟨v,k',h1,h2⟩ | ⟨h1,h2⟩
 ·have hd:=dec_enc h1
  have hk':n + k'≤b.length:=by have:=hd.2.2.2;rw [List.length_drop] at this;omega
  by_cases hv:v≤m
  ·have e1:w64 ((v:Nat):Int)=((v:Nat):Int):=w64_in (by omega) (by omega)
   have e2:w64 ((b.length:Int) - ((n + k':Nat):Int))=((b.length - (n + k'):Nat):Int):=by rw [w64_in (by omega) (by omega)];omega
   have e3:w64 (((n + k':Nat):Int) + (v:Int))=((n + k' + v:Nat):Int):=by rw [w64_in (by omega) (by omega)];omega
   have e4:decide (UInt64.ofInt ((b.length - (n + k'):Nat):Int) < UInt64.ofNat v) = !decide (n + k' + v≤b.length):=by
    have:(UInt64.ofInt ((b.length - (n + k'):Nat):Int) < UInt64.ofNat v) ↔ b.length - (n + k') < v:=by rw [UInt64.lt_iff_toNat_lt,ofInt_nat' (by omega),ofNat_to hd.2.2.1]
    by_cases h:n + k' + v≤b.length
    ·rw [decide_eq_true h,Bool.not_true];exact decide_eq_false (by rw [this];omega)
    ·rw [decide_eq_false h,Bool.not_false];exact decide_eq_true (by rw [this];omega)
   by_cases h5:n + k' + v≤b.length
   ·have hx:v≤m∧v≤((b.drop n).drop k').length:=⟨hv,by rw [List.drop_drop,List.length_drop];omega⟩
    have hr:rT m (some (b.drop n))=((b.drop (n + k')).take v,some (b.drop (n + k' + v))):=by
     simp only [rT,h1];rw [if_pos hx];simp only [List.drop_drop]
    refine .inl ⟨n + k' + v,h5,by rw [hr],?_⟩
    simp only [T131,T131c,z6,z3,z1,z2,z7,cond_false,h2,Option.bind_some,Bool.not_true,lim hm hd.2.2.1,decide_eq_true hv,ofNat_to hd.2.2.1,e1,e2,e3,e4,decide_eq_true h5,gsl_ok h5,hr]
   ·have hx:¬ (v≤m∧v≤((b.drop n).drop k').length):=by rw [List.drop_drop,List.length_drop];omega
    refine .inr ⟨by simp only [rT,h1];rw [if_neg hx],3,(n:Int),by decide,?_⟩
    simp only [T131,T131c,z6,z3,z1,z2,z7,cond_false,cond_true,h2,Option.bind_some,Bool.not_true,Bool.not_false,lim hm hd.2.2.1,decide_eq_true hv,ofNat_to hd.2.2.1,e1,e2,e3,e4,decide_eq_false h5]
  ·refine .inr ⟨by simp only [rT,h1];rw [if_neg (by omega)],2,(n:Int),by decide,?_⟩
   simp only [T131,T131c,z6,z3,z1,z2,z7,cond_false,cond_true,h2,Option.bind_some,Bool.not_true,Bool.not_false,lim hm hd.2.2.1,decide_eq_false hv]
 ·refine .inr ⟨by simp only [rT,h1],3,(n:Int),by decide,?_⟩
  simp only [T131,T131c,z6,z3,z1,z2,z7,cond_false,cond_true,h2,Option.bind_some,Bool.not_false]
theorem qT (hF:5000 < F) (hb:b.length < 100000000) {m:Nat} (hm:m≤2000000) (h:At b s o e) (l:Int):∃ o' l' e',T85 F 5 (m:Int) b o l e=some (0,0,false,(rT m s).1,o',l',e')∧At b (rT m s).2 o' e':=by
 have z0:((5:Int) == 0)=false:=rfl
 cases s with
 | none=>
  refine ⟨o,l,e,?_,h⟩
  simp only [T85,T85c,h.bne,cond_true];rfl
 | some r=>
  obtain ⟨rfl,n,rfl,hn,rfl⟩:=h
  rcases q131 hF hb hm hn (k:=5) (.inr rfl) with ⟨j,h1,h2,h3⟩ | ⟨h1,e,p,he,h2⟩
  ·refine ⟨(j:Int),(n:Int),0,?_,?_⟩
   ·simp only [T85,T85c,bne_self_eq_false,z0,cond_false,h3,Option.bind_some]
   ·rw [h2];exact ⟨rfl,j,rfl,h1,rfl⟩
  ·have c3:(e != 0)=true:=by simp [he]
   refine ⟨(n:Int),l,e,?_,?_⟩
   ·simp only [T85,T85c,bne_self_eq_false,z0,cond_false,h2,Option.bind_some,c3,cond_true,h1]
   ·rw [h1];exact he
end Go.Proofs.YthikoaamigiceaaGreatDoor
namespace Go.Proofs.YthikoaamigiceaaGreatDoor
open Go.Tw
set_option linter.unusedSimpArgs false
set_option linter.unusedVariables false
variable {F:Nat} {b:Bs} {s:RS} {o e:Int}
theorem q82 (hF:5000 < F) (hb:b.length < 100000000) (h:At b s o e) (l:Int):∃ o' l' e',T82 F b o l e=some ((rI s).1,o',l',e')∧At b (rI s).2 o' e':=by
 obtain ⟨o1,l1,e1,a1,h⟩:=qI hF hb h l
 exact ⟨o1,l1,e1,by simp only [T82,T82c,a1,Option.bind_some],h⟩
theorem q83 (hF:5000 < F) (hb:b.length < 100000000) {m:Nat} (hm:m≤2000000) (h:At b s o e) (l:Int):∃ o' l' e',T83 F (m:Int) b o l e=some (((rC m s).1:Int),o',l',e')∧At b (rC m s).2 o' e':=by
 obtain ⟨o1,l1,e1,a1,h⟩:=qC hF hb hm h l
 exact ⟨o1,l1,e1,by simp only [T83,T83c,a1,Option.bind_some],h⟩
theorem q84 (hF:5000 < F) (hb:b.length < 100000000) (h:At b s o e) (l:Int):∃ o' l' e',T84 F b o l e=some ((rR s).1.1,(rR s).1.2.1,(rR s).1.2.2.1,o',l',e')∧At b (rR s).2 o' e':=by
 obtain ⟨o1,l1,e1,a1,h⟩:=qS (F:=F) hb h l
 obtain ⟨o2,l2,e2,a2,h⟩:=q82 hF hb h l1
 obtain ⟨o3,l3,e3,a3,h⟩:=q82 hF hb h l2
 exact ⟨o3,l3,e3,by simp only [T84,T84c,a1,a2,a3,Option.bind_some,rR],h⟩
theorem w64dn {k:Nat} (hk:k < 5000):w64 (((k + 1:Nat):Int) - 1)=(k:Int):=by rw [w64_in (by omega) (by omega)];omega
theorem posN (k:Nat):decide ((0:Int) < ((k + 1:Nat):Int))=true:=decide_eq_true (by omega)
theorem q86 (hF:5000 < F) (hb:b.length < 100000000) {m:Nat} (hm:m≤4096) (h:At b s o e) (l:Int):∃ o' l' e',T86 F (m:Int) b o l e=some (o',l',e',(rLs m rR s).1)∧At b (rLs m rR s).2 o' e':=by
 obtain ⟨o1,l1,e1,a1,h⟩:=q83 (m:=m) hF hb (by omega) h l
 have hle:=rC_le m s
 have:=rd_loop (fuel:=F) (b:=b) (f:=fun s:Int×Int×Int×Int×List Rf=>L86_2 F b s.1 s.2.1 s.2.2.1 s.2.2.2.1 s.2.2.2.2) (rd:=rR) (c:=fun k=>(k:Int)) (N:=(rC m s).1) (by omega)
  (fun k hk s o l e acc h ha=>by
   obtain ⟨o2,l2,e2,a2,h⟩:=q84 hF hb h l
   exact ⟨o2,l2,e2,by simp only [L86_2,L86_2c,posN,cond_true,a2,Option.bind_some,gapp_ok (show acc.length + [((rR s).1.1,(rR s).1.2.1,(rR s).1.2.2.1,())].length≤1000000000 by simp;omega),w64dn (show k < 5000 by omega)],h⟩)
  (fun o l e acc=>by
   have q:¬ ((0:Int) < ((0:Nat):Int)):=by omega
   simp only [L86_2,L86_2c,q,decide_false,cond_false]) hF h l1
 obtain ⟨o3,l3,e3,a3,h⟩:=this
 exact ⟨o3,l3,e3,by simp only [T86,T86c,a1,Option.bind_some,a3,rLs],h⟩
theorem l23_4 (hF:5000 < F) (hb:b.length < 100000000) {N:Nat} (hN:N≤4096) (h:At b s o e) (l:Int):∃ o' l' e',iter (fun s:Int×Int×Int×Int×List Int=>L23_4 F b s.1 s.2.1 s.2.2.1 s.2.2.2.1 s.2.2.2.2) F ((N:Int),o,l,e,[])=some (o',l',e',(rL rI N s).1)∧At b (rL rI N s).2 o' e':=
 rd_loop (fuel:=F) (b:=b) (rd:=rI) (c:=fun k=>(k:Int)) (N:=N) hN
  (fun k hk s o l e acc h ha=>by
   obtain ⟨o2,l2,e2,a2,h⟩:=q82 hF hb h l
   exact ⟨o2,l2,e2,by simp only [L23_4,L23_4c,posN,cond_true,a2,Option.bind_some,gapp_ok (show acc.length + [(rI s).1].length≤1000000000 by simp;omega),w64dn (show k < 5000 by omega)],h⟩)
  (fun o l e acc=>by
   have q:¬ ((0:Int) < ((0:Nat):Int)):=by omega
   simp only [L23_4,L23_4c,q,decide_false,cond_false]) hF h l
theorem l23_5 (hF:5000 < F) (hb:b.length < 100000000) {N:Nat} (hN:N≤4096) (h:At b s o e) (l:Int):∃ o' l' e',iter (fun s:Int×Int×Int×Int×List Sn=>L23_5 F b s.1 s.2.1 s.2.2.1 s.2.2.2.1 s.2.2.2.2) F ((N:Int),o,l,e,[])=some (o',l',e',(rL rSn N s).1)∧At b (rL rSn N s).2 o' e':=
 rd_loop (fuel:=F) (b:=b) (rd:=rSn) (c:=fun k=>(k:Int)) (N:=N) hN
  (fun k hk s o l e acc h ha=>by
   obtain ⟨o1,l1,e1,a1,h⟩:=q82 hF hb h l
   obtain ⟨o2,l2,e2,a2,h⟩:=q82 hF hb h l1
   obtain ⟨o3,l3,e3,a3,h⟩:=q82 hF hb h l2
   obtain ⟨o4,l4,e4,a4,h⟩:=q84 hF hb h l3
   obtain ⟨o5,l5,e5,a5,h⟩:=q82 hF hb h l4
   obtain ⟨o6,l6,e6,a6,h⟩:=q82 hF hb h l5
   obtain ⟨o7,l7,e7,a7,h⟩:=qT (m:=32) hF hb (by omega) h l6
   have a7:T85 F 5 32 b o6 l6 e6=_:=a7
   obtain ⟨o8,l8,e8,a8,h⟩:=qB (F:=F) hb h l7
   have g:gapp acc [((rSn s).1.1,(rSn s).1.2.1,(rSn s).1.2.2.1,((rSn s).1.2.2.2.1.1,(rSn s).1.2.2.2.1.2.1,(rSn s).1.2.2.2.1.2.2.1,()),(rSn s).1.2.2.2.2.1,(rSn s).1.2.2.2.2.2.1,(rSn s).1.2.2.2.2.2.2.1,(rSn s).1.2.2.2.2.2.2.2.1,())]=some (acc ++ [(rSn s).1]):=gapp_ok (by simp;omega)
   refine ⟨o8,l8,e8,?_,h⟩
   simp only [rSn] at g
   simp only [L23_5,L23_5c,posN,cond_true,a1,a2,a3,a4,a5,a6,a7,a8,Option.bind_some,g,w64dn (show k < 5000 by omega),rSn])
  (fun o l e acc=>by
   have q:¬ ((0:Int) < ((0:Nat):Int)):=by omega
   simp only [L23_5,L23_5c,q,decide_false,cond_false]) hF h l
theorem l23_6 (hF:5000 < F) (hb:b.length < 100000000) {N:Nat} (hN:N≤4096) (h:At b s o e) (l:Int):∃ o' l' e',iter (fun s:Int×Int×Int×Int×List Sp=>L23_6 F b s.1 s.2.1 s.2.2.1 s.2.2.2.1 s.2.2.2.2) F ((N:Int),o,l,e,[])=some (o',l',e',(rL rSp N s).1)∧At b (rL rSp N s).2 o' e':=
 rd_loop (fuel:=F) (b:=b) (rd:=rSp) (c:=fun k=>(k:Int)) (N:=N) hN
  (fun k hk s o l e acc h ha=>by
   obtain ⟨o1,l1,e1,a1,h⟩:=qS (F:=F) hb h l
   obtain ⟨o2,l2,e2,a2,h⟩:=q82 hF hb h l1
   obtain ⟨o3,l3,e3,a3,h⟩:=q82 hF hb h l2
   obtain ⟨o4,l4,e4,a4,h⟩:=q82 hF hb h l3
   obtain ⟨o5,l5,e5,a5,h⟩:=q82 hF hb h l4
   obtain ⟨o6,l6,e6,a6,h⟩:=q86 (m:=8) hF hb (by omega) h l5
   have a6:T86 F 8 b o5 l5 e5=_:=a6
   have g:gapp acc [((rSp s).1.1,(rSp s).1.2.1,(rSp s).1.2.2.1,(rSp s).1.2.2.2.1,(rSp s).1.2.2.2.2.1,(rSp s).1.2.2.2.2.2.1,())]=some (acc ++ [(rSp s).1]):=gapp_ok (by simp;omega)
   refine ⟨o6,l6,e6,?_,h⟩
   simp only [rSp] at g
   simp only [L23_6,L23_6c,posN,cond_true,a1,a2,a3,a4,a5,a6,Option.bind_some,g,w64dn (show k < 5000 by omega),rSp])
  (fun o l e acc=>by
   have q:¬ ((0:Int) < ((0:Nat):Int)):=by omega
   simp only [L23_6,L23_6c,q,decide_false,cond_false]) hF h l
theorem r23_4 (hF:5000 < F) (hb:b.length < 100000000) (h:At b s o e) (l:Int):∃ n o1 l1 e1 o' l' e',T83 F 12 b o l e=some (n,o1,l1,e1)∧iter (fun s:Int×Int×Int×Int×List Int=>L23_4 F b s.1 s.2.1 s.2.2.1 s.2.2.2.1 s.2.2.2.2) F (n,o1,l1,e1,[])=some (o',l',e',(rLs 12 rI s).1)∧At b (rLs 12 rI s).2 o' e':=by
 obtain ⟨o1,l1,e1,a1,h⟩:=q83 (m:=12) hF hb (by omega) h l
 obtain ⟨o2,l2,e2,a2,h⟩:=l23_4 hF hb (Nat.le_trans (rC_le 12 s) (by omega)) h l1
 exact ⟨_,o1,l1,e1,o2,l2,e2,a1,a2,h⟩
theorem r23_5 (hF:5000 < F) (hb:b.length < 100000000) (h:At b s o e) (l:Int):∃ n o1 l1 e1 o' l' e',T83 F 4096 b o l e=some (n,o1,l1,e1)∧iter (fun s:Int×Int×Int×Int×List Sn=>L23_5 F b s.1 s.2.1 s.2.2.1 s.2.2.2.1 s.2.2.2.2) F (n,o1,l1,e1,[])=some (o',l',e',(rLs 4096 rSn s).1)∧At b (rLs 4096 rSn s).2 o' e':=by
 obtain ⟨o1,l1,e1,a1,h⟩:=q83 (m:=4096) hF hb (by omega) h l
 obtain ⟨o2,l2,e2,a2,h⟩:=l23_5 hF hb (Nat.le_trans (rC_le 4096 s) (by omega)) h l1
 exact ⟨_,o1,l1,e1,o2,l2,e2,a1,a2,h⟩
theorem r23_6 (hF:5000 < F) (hb:b.length < 100000000) (h:At b s o e) (l:Int):∃ n o1 l1 e1 o' l' e',T83 F 4096 b o l e=some (n,o1,l1,e1)∧iter (fun s:Int×Int×Int×Int×List Sp=>L23_6 F b s.1 s.2.1 s.2.2.1 s.2.2.2.1 s.2.2.2.2) F (n,o1,l1,e1,[])=some (o',l',e',(rLs 4096 rSp s).1)∧At b (rLs 4096 rSp s).2 o' e':=by
 obtain ⟨o1,l1,e1,a1,h⟩:=q83 (m:=4096) hF hb (by omega) h l
 obtain ⟨o2,l2,e2,a2,h⟩:=l23_6 hF hb (Nat.le_trans (rC_le 4096 s) (by omega)) h l1
 exact ⟨_,o1,l1,e1,o2,l2,e2,a1,a2,h⟩
theorem t23 (hF:5000 < F) (b:Bs) (hb:b.length < 100000000):T23 F b=some (decR b):=by
 unfold decR
 have h0:At b (some b) 0 0:=⟨rfl,0,rfl,by omega,by simp⟩
 obtain ⟨o0,l0,e0,a0,h⟩:=q82 hF hb h0 0
 obtain ⟨o1,l1,e1,a1,h⟩:=q82 hF hb h l0
 obtain ⟨n2,o2,l2,e2,o3,l3,e3,a2,a3,h⟩:=r23_4 hF hb h l1
 obtain ⟨n4,o4,l4,e4,o5,l5,e5,a4,a5,h⟩:=r23_5 hF hb h l3
 obtain ⟨n6,o6,l6,e6,o7,l7,e7,a6,a7,h⟩:=r23_6 hF hb h l5
 obtain ⟨o8,l8,e8,a8,h⟩:=q86 (m:=4096) hF hb (by omega) h l7
 have a8:T86 F 4096 b o7 l7 e7=_:=a8
 have h:At b (rX (some b)).2 o8 e8:=h
 have h60:=t60 hF (rX (some b)).1
 simp only [T23,T23c,Option.bind_some,a0,a1,a2,a3,a4,a5,a6,a7,a8,T87,T87c]
 rcases at_end h with ⟨h1,h2,h3,h4⟩ | ⟨h1,h2 | ⟨h2,h3⟩⟩
 ·subst h3
  simp only [h4,cond_false,beq_self_eq_true,cond_true,bne_self_eq_false,Option.bind_some]
  by_cases hL:1048560 < b.length
  ·have q:(1048560:Int) < (b.length:Int):=by omega
   simp only [q,decide_true,cond_true,if_pos hL];rfl
  ·have q:¬ (1048560:Int) < (b.length:Int):=by omega
   rw [if_neg hL]
   have h60:T60 F (rI (some b)).1 (rI (rI (some b)).2).1 _ _ _ _=some (vX (rX (some b)).1):=h60
   simp only [rX] at h60 h1 ⊢
   simp only [q,decide_false,cond_false,h60,Option.bind_some,h1]
   split
   ·rename_i hv;rw [hv.2];rfl
   ·rename_i hv
    have hv:vX ((rI (some b)).1,_)=false:=Bool.eq_false_iff.2 fun hh=>hv ⟨trivial,hh⟩
    rw [hv];rfl
 ·have h2':(e8 == 0)=false:=by
   cases hh:e8 == 0
   ·rfl
   ·rw [beq_iff_eq] at hh;subst hh;simp at h2
  simp only [h2',cond_false,Option.bind_some,h2,cond_true]
  by_cases hL:1048560 < b.length
  ·rw [if_pos hL];rfl
  ·rw [if_neg hL,if_neg (fun hh=>h1 hh.1)];rfl
 ·have c3:((3:Int) != 0)=true:=rfl
  subst h2
  simp only [beq_self_eq_true,cond_true,h3,c3,Option.bind_some]
  by_cases hL:1048560 < b.length
  ·rw [if_pos hL];rfl
  ·rw [if_neg hL,if_neg (fun hh=>h1 hh.1)];rfl
end Go.Proofs.YthikoaamigiceaaGreatDoor
namespace Go.Proofs.YthikoaamigiceaaGreatDoor
open Go.Tw
set_option linter.unusedSimpArgs false
set_option linter.unusedVariables false
def ord6:Nat->List (Tag×Nat)
 | _=>[]
def al6:Nat->Option Nat
 | _=>none
def ms6:Nat->Option (List (Option Tag×Nat×List Nat))
 | _=>none
def E6 (F:Nat):Ev:=⟨cfg,77,ctOf [(10,ct10 F),(21,ct21 F),(23,ct23 F),(19,ct19 F),(22,ct22 F)],ord6,ctOf [],al6,ms6⟩
theorem cts6 (F:Nat):CtsOk Tryz.prog (E6 F):=cts_of (l:=[(10,ct10 F),(21,ct21 F),(23,ct23 F),(19,ct19 F),(22,ct22 F)]) (l':=[]) rfl rfl ⟨⟨ok10 F,_,Tryz.func10,rfl,rfl⟩,⟨⟨ok21 F,_,Tryz.func21,rfl,rfl⟩,⟨⟨ok23 F,_,Tryz.func23,rfl,rfl⟩,⟨⟨ok19 F,_,Tryz.func19,rfl,rfl⟩,⟨⟨ok22 F,_,Tryz.func22,rfl,rfl⟩,trivial⟩⟩⟩⟩⟩ trivial
def T6c (F:Nat) (p0:List UInt8) {β:Type} (k:Bool->Option β):Option β:=
 (Option.bind (T10 F) fun z8=>(bif (!z8) then (Option.bind (T10 F) fun z9=>(k z9)) else (bif (decide ((600:Int) < (p0.length:Int))) then (Option.bind (T10 F) fun z10=>(k z10)) else (Option.bind (T21 F p0) fun z11=>(Option.bind (T23 F p0) fun z12=>(bif (z11.2.2.1 != z12.2.2.1) then (k false) else (bif (z11.2.2.1 != (0:Int)) then (bif ((w64 ((w64 ((w64 ((z11.2.2.2.1.length:Int) + (z11.2.2.2.2.1.length:Int))) + (z11.2.2.2.2.2.1.length:Int))) + (z11.2.2.2.2.2.2.length:Int))) == (0:Int)) then (bif (z11.1 == (0:Int)) then (k (z11.2.1 == (0:Int))) else (k false)) else (k false)) else (Option.bind (T19 F z11.1 z11.2.1 z11.2.2.2.1 z11.2.2.2.2.1 z11.2.2.2.2.2.1 z11.2.2.2.2.2.2) fun z13=>(Option.bind (T22 F z11.1 z11.2.1 z11.2.2.2.1 z11.2.2.2.2.1 z11.2.2.2.2.2.1 z11.2.2.2.2.2.2 z12.1 z12.2.1 z12.2.2.2.1 z12.2.2.2.2.1 z12.2.2.2.2.2.1 z12.2.2.2.2.2.2) fun z14=>(bif z14 then (bif (z13.1 == (0:Int)) then (k (z13.2 == p0)) else (k false)) else (k false)))))))))))
def T6 (F:Nat) (p0:List UInt8):Option (Bool):=T6c F p0 some
theorem T6n (F:Nat) (p0:List UInt8) {β:Type} (k:Bool->Option β):T6c F p0 k=(T6 F p0).bind k:=by
 simp only [T6,T6c,Option.bind_assoc,cond_bind,Option.bind_some,Option.bind_none,elimS_bind]
abbrev cA6:List Sh:=[(.ro .u8)]
abbrev cB6:List Sh:=[.bo]
abbrev cT6:List TSh:=[]
abbrev cU6:List TSh:=[]
def ct6 (F:Nat):Ct:=mkC 0 cA6 cT6 cB6 cU6 (fun x y=>T6 F x.1) (fun x y (z:Bool)=>((z,()),()))
theorem eq6 (F:Nat) (x:dens cA6) (y:tdens cT6):sev (E6 F) 0 [] (bodyOf Tryz.f6) [] (mkSt (rng 1) cA6 cT6 x y) (kFn (E6 F) 0 Tryz.f6.results.toList cB6 cU6 fun p q=>some (p,q)) =
  T6c F x.1 (fun z=>some ((z,()),())):=by kernel_rfl
theorem ok6 (F:Nat):Sound Tryz.prog cfg 6 (ct6 F):=
 mkC_ok (E:=E6 F) (lp:=[]) (code:=bodyOf Tryz.f6) Tryz.func6 rfl Tryz.ntmps6 rfl rfl cok (cts6 F) mixed trivial (by kernel_rfl) (fun x y k=>T6c F x.1 k) (fun x y k=>T6n F x.1 k) (eq6 F)
end Go.Proofs.YthikoaamigiceaaGreatDoor
