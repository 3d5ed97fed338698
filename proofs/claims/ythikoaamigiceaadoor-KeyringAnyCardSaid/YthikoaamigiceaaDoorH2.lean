/- The functions, each with its twin, and plain facts about them. -/
import Derived.Test.YthikoaamigiceaaDoorH1
namespace Go.Proofs.YthikoaamigiceaaDoor
open Go.Tw
set_option linter.unusedSimpArgs false
set_option linter.unusedVariables false
def ord49:Nat->List (Tag×Nat)
 | _=>[]
def al49:Nat->Option Nat
 | _=>none
def ms49:Nat->Option (List (Option Tag×Nat×List Nat))
 | _=>none
def E49 (F:Nat):Ev:=⟨cfg,9,ctOf [(73,ct73x1 F)],ord49,ctOf [],al49,ms49⟩
theorem cts49 (F:Nat):CtsOk Tryd.prog (E49 F):=cts_of (l:=[(73,ct73x1 F)]) (l':=[]) rfl rfl ⟨⟨ok73x1 F,_,Tryd.func73,rfl,rfl⟩,trivial⟩ trivial
def T49c (F:Nat) (p0:Bool) (p1:Int) (p2:List UInt8) {β:Type} (k:((List UInt8))->Option β):Option β:=
 (bif p0 then (Option.bind (T73x1 F (UInt64.ofNat 1) p1 p2) fun z3=>(k z3)) else (Option.bind (T73x1 F (UInt64.ofNat 0) p1 p2) fun z4=>(k z4)))
def T49 (F:Nat) (p0:Bool) (p1:Int) (p2:List UInt8):Option ((List UInt8)):=T49c F p0 p1 p2 some
theorem T49n (F:Nat) (p0:Bool) (p1:Int) (p2:List UInt8) {β:Type} (k:((List UInt8))->Option β):T49c F p0 p1 p2 k=(T49 F p0 p1 p2).bind k:=by
 simp only [T49,T49c,Option.bind_assoc,cond_bind,Option.bind_some,Option.bind_none,elimS_bind]
abbrev cA49:List Sh:=[(.pt 0 []),.bo]
abbrev cB49:List Sh:=[]
abbrev cT49:List TSh:=[.blk 112 (.pr (.rw 1) (.pr .i .un)),.row 5 .u8]
abbrev cU49:List TSh:=[.blk 112 (.pr (.rw 2) (.pr .i .un)),.no,.row 5 .u8]
def ct49 (F:Nat):Ct:=mkC 2 cA49 cT49 cB49 cU49 (fun x y=>T49 F x.2.1 y.1.2.1 y.2.1) (fun x y (z:(List UInt8))=>((),(((),y.1.2.1,()),(),z,())))
theorem eq49 (F:Nat) (x:dens cA49) (y:tdens cT49):sev (E49 F) 2 [] (bodyOf Tryd.f49) [] (mkSt (rng 2) cA49 cT49 x y) (kFn (E49 F) 2 Tryd.f49.results.toList cB49 cU49 fun p q=>some (p,q)) =
  T49c F x.2.1 y.1.2.1 y.2.1 (fun z=>some ((),(((),y.1.2.1,()),(),z,()))):=by kernel_rfl
theorem ok49 (F:Nat):Sound Tryd.prog cfg 49 (ct49 F):=
 mkC_ok (E:=E49 F) (lp:=[]) (code:=bodyOf Tryd.f49) Tryd.func49 rfl Tryd.ntmps49 rfl rfl cok (cts49 F) mixed trivial (by kernel_rfl) (fun x y k=>T49c F x.2.1 y.1.2.1 y.2.1 k) (fun x y k=>T49n F x.2.1 y.1.2.1 y.2.1 k) (eq49 F)
def ord46:Nat->List (Tag×Nat)
 | _=>[]
def al46:Nat->Option Nat
 | _=>none
def ms46:Nat->Option (List (Option Tag×Nat×List Nat))
 | _=>none
def E46 (F:Nat):Ev:=⟨cfg,31,ctOf [(41,ct41x1 F),(47,ct47 F),(48,ct48 F),(49,ct49 F)],ord46,ctOf [],al46,ms46⟩
theorem cts46 (F:Nat):CtsOk Tryd.prog (E46 F):=cts_of (l:=[(41,ct41x1 F),(47,ct47 F),(48,ct48 F),(49,ct49 F)]) (l':=[]) rfl rfl ⟨⟨ok41x1 F,_,Tryd.func41,rfl,rfl⟩,⟨⟨ok47 F,_,Tryd.func47,rfl,rfl⟩,⟨⟨ok48 F,_,Tryd.func48,rfl,rfl⟩,⟨⟨ok49 F,_,Tryd.func49,rfl,rfl⟩,trivial⟩⟩⟩⟩ trivial
def T46c (F:Nat) (p0:Int) (p1:Int) (p2:Int) (p3:List UInt8) (p4:Int) (p5:Int) (p6:Int) (p7:Int) (p8:List UInt8) (p9:Bool) (p10:Int) (p11:List UInt8) {β:Type} (k:(Int×(List UInt8))->Option β):Option β:=
 (Option.bind (T41x1 F ([p0,p1,p2]:List Int) p10 p11) fun z6=>(Option.bind (T47 F p3 p4 p5 p10 z6) fun z7=>(Option.bind (T41x1 F ([p6,p7]:List Int) z7.1 z7.2) fun z8=>(Option.bind (T48 F p8 z7.1 z8) fun z9=>(Option.bind (T49 F p9 z7.1 z9) fun z10=>(k (z7.1,z10)))))))
def T46 (F:Nat) (p0:Int) (p1:Int) (p2:Int) (p3:List UInt8) (p4:Int) (p5:Int) (p6:Int) (p7:Int) (p8:List UInt8) (p9:Bool) (p10:Int) (p11:List UInt8):Option (Int×(List UInt8)):=T46c F p0 p1 p2 p3 p4 p5 p6 p7 p8 p9 p10 p11 some
theorem T46n (F:Nat) (p0:Int) (p1:Int) (p2:Int) (p3:List UInt8) (p4:Int) (p5:Int) (p6:Int) (p7:Int) (p8:List UInt8) (p9:Bool) (p10:Int) (p11:List UInt8) {β:Type} (k:(Int×(List UInt8))->Option β):T46c F p0 p1 p2 p3 p4 p5 p6 p7 p8 p9 p10 p11 k=(T46 F p0 p1 p2 p3 p4 p5 p6 p7 p8 p9 p10 p11).bind k:=by
 simp only [T46,T46c,Option.bind_assoc,cond_bind,Option.bind_some,Option.bind_none,elimS_bind]
abbrev cA46:List Sh:=[(.pr .i (.pr .i (.pr .i (.pr (.pr .str (.pr .i (.pr .i .un))) (.pr .i (.pr .i (.pr .str (.pr .bo .un)))))))),(.pt 0 [])]
abbrev cB46:List Sh:=[]
abbrev cT46:List TSh:=[.blk 75 (.pt 1 []),.blk 112 (.pr (.rw 2) (.pr .i .un)),.row 5 .u8]
abbrev cU46:List TSh:=[.blk 75 (.pt 1 []),.blk 112 (.pr (.rw 3) (.pr .i .un)),.no,.row 5 .u8]
def ct46 (F:Nat):Ct:=mkC 3 cA46 cT46 cB46 cU46 (fun x y=>T46 F x.1.1 x.1.2.1 x.1.2.2.1 x.1.2.2.2.1.1 x.1.2.2.2.1.2.1 x.1.2.2.2.1.2.2.1 x.1.2.2.2.2.1 x.1.2.2.2.2.2.1 x.1.2.2.2.2.2.2.1 x.1.2.2.2.2.2.2.2.1 y.2.1.2.1 y.2.2.1) (fun x y (z:Int×(List UInt8))=>((),((),((),z.1,()),(),z.2,())))
theorem eq46 (F:Nat) (x:dens cA46) (y:tdens cT46):sev (E46 F) 3 [] (bodyOf Tryd.f46) [] (mkSt (rng 2) cA46 cT46 x y) (kFn (E46 F) 3 Tryd.f46.results.toList cB46 cU46 fun p q=>some (p,q)) =
  T46c F x.1.1 x.1.2.1 x.1.2.2.1 x.1.2.2.2.1.1 x.1.2.2.2.1.2.1 x.1.2.2.2.1.2.2.1 x.1.2.2.2.2.1 x.1.2.2.2.2.2.1 x.1.2.2.2.2.2.2.1 x.1.2.2.2.2.2.2.2.1 y.2.1.2.1 y.2.2.1 (fun z=>some ((),((),((),z.1,()),(),z.2,()))):=by kernel_rfl
theorem ok46 (F:Nat):Sound Tryd.prog cfg 46 (ct46 F):=
 mkC_ok (E:=E46 F) (lp:=[]) (code:=bodyOf Tryd.f46) Tryd.func46 rfl Tryd.ntmps46 rfl rfl cok (cts46 F) mixed trivial (by kernel_rfl) (fun x y k=>T46c F x.1.1 x.1.2.1 x.1.2.2.1 x.1.2.2.2.1.1 x.1.2.2.2.1.2.1 x.1.2.2.2.1.2.2.1 x.1.2.2.2.2.1 x.1.2.2.2.2.2.1 x.1.2.2.2.2.2.2.1 x.1.2.2.2.2.2.2.2.1 y.2.1.2.1 y.2.2.1 k) (fun x y k=>T46n F x.1.1 x.1.2.1 x.1.2.2.1 x.1.2.2.2.1.1 x.1.2.2.2.1.2.1 x.1.2.2.2.1.2.2.1 x.1.2.2.2.2.1 x.1.2.2.2.2.2.1 x.1.2.2.2.2.2.2.1 x.1.2.2.2.2.2.2.2.1 y.2.1.2.1 y.2.2.1 k) (eq46 F)
def ord45:Nat->List (Tag×Nat)
 | _=>[]
def al45:Nat->Option Nat
 | _=>none
def ms45:Nat->Option (List (Option Tag×Nat×List Nat))
 | _=>none
def E45 (F:Nat):Ev:=⟨cfg,22,ctOf [(72,ct72 F),(46,ct46 F)],ord45,ctOf [],al45,ms45⟩
theorem cts45 (F:Nat):CtsOk Tryd.prog (E45 F):=cts_of (l:=[(72,ct72 F),(46,ct46 F)]) (l':=[]) rfl rfl ⟨⟨ok72 F,_,Tryd.func72,rfl,rfl⟩,⟨⟨ok46 F,_,Tryd.func46,rfl,rfl⟩,trivial⟩⟩ trivial
def L45_2c (F:Nat) (y13:List (Int×Int×Int×((List UInt8)×Int×Int×Unit)×Int×Int×(List UInt8)×Bool×Unit)) (y14:Int) (y15:Int) (y16:Int) (y17:List UInt8) {β:Type} (kA:(Int×Int×(List UInt8))->Option β) (kO:(Int×(List UInt8))->Option β):Option β:=
 (bif (decide (y15 < y14)) then (Option.bind (ix y13 y15) fun x20=>(Option.bind (T46 F x20.1 x20.2.1 x20.2.2.1 x20.2.2.2.1.1 x20.2.2.2.1.2.1 x20.2.2.2.1.2.2.1 x20.2.2.2.2.1 x20.2.2.2.2.2.1 x20.2.2.2.2.2.2.1 x20.2.2.2.2.2.2.2.1 y16 y17) fun z21=>(kA ((w64 (y15 + (1:Int))),z21.1,z21.2)))) else (kO (y16,y17)))
def L45_2 (F:Nat) (y13:List (Int×Int×Int×((List UInt8)×Int×Int×Unit)×Int×Int×(List UInt8)×Bool×Unit)) (y14:Int) (y15:Int) (y16:Int) (y17:List UInt8):Option ((Int×Int×(List UInt8)) ⊕ (Int×(List UInt8))):=L45_2c F y13 y14 y15 y16 y17 (fun s=>some (.inl s)) (fun z=>some (.inr z))
theorem L45_2n (F:Nat) (y13:List (Int×Int×Int×((List UInt8)×Int×Int×Unit)×Int×Int×(List UInt8)×Bool×Unit)) (y14:Int) (y15:Int) (y16:Int) (y17:List UInt8) {β:Type} (kA:(Int×Int×(List UInt8))->Option β) (kO:(Int×(List UInt8))->Option β):L45_2c F y13 y14 y15 y16 y17 kA kO=(L45_2 F y13 y14 y15 y16 y17).bind (elimS kA kO):=by
 simp only [L45_2,L45_2c,Option.bind_assoc,cond_bind,Option.bind_some,Option.bind_none,elimS_l,elimS_r,elimS_bind]
abbrev sA45_2:List Sh:=[(.fn 46 .un (.pr (.pt 1 []) .un)),(.ro (.pr .i (.pr .i (.pr .i (.pr (.pr .s (.pr .i (.pr .i .un))) (.pr .i (.pr .i (.pr .s (.pr .bo .un))))))))),.i,.i]
abbrev sAp145_2:List Sh:=[]
abbrev sT45_2:List TSh:=[.blk 112 (.pr (.rw 3) (.pr .i .un)),.blk 75 (.pt 0 []),.no,.row 5 .u8]
abbrev sTp145_2:List TSh:=[.blk 112 (.pr (.rw 3) (.pr .i .un)),.blk 75 (.pt 0 []),.no,.row 5 .u8]
def lc45_2 (F:Nat):Lc:=mkL [2,12,13,14] sA45_2 sT45_2 [] sAp145_2 sTp145_2 F (fun x y (s:Int×Int×(List UInt8))=>L45_2 F x.2.1 x.2.2.1 s.1 s.2.1 s.2.2) (fun x y=>(x.2.2.2.1,y.1.2.1,y.2.2.2.1)) (fun x y (z:Int×(List UInt8))=>((),(((),z.1,()),(),(),z.2,())))
theorem le45_2 (F:Nat) (x:dens sA45_2) (y:tdens sT45_2) (s:Int×Int×(List UInt8)):sev (E45 F) 3 [] (cAt (bodyOf Tryd.f45) (0 :: 0 :: [1,1])) (0 :: 0 :: [1,1]) (mkSt [2,12,13,14] sA45_2 sT45_2 (((),((),())),x.2.1,x.2.2.1,s.1,()) (((),s.2.1,()),(),(),s.2.2,())) (kLoop 3 [2,12,13,14] sA45_2 sT45_2 [] sAp145_2 sTp145_2 [] [] [] 0 (fun x y=>some (.inl (x,y))) (fun x y=>some (.inr (.inl (x,y)))) (fun x y=>some (.inr (.inr (x,y))))) =
  L45_2c (β:=Full sA45_2 sT45_2 sAp145_2 sTp145_2 [] []) F x.2.1 x.2.2.1 s.1 s.2.1 s.2.2 (fun s=>some (.inl ((((),((),())),x.2.1,x.2.2.1,s.1,()),(((),s.2.1,()),(),(),s.2.2,())))) (fun z=>some (.inr (.inl ((),(((),z.1,()),(),(),z.2,()))))):=by kernel_rfl
theorem lo45_2 (F:Nat):LcOk Tryd.prog (E45 F) 3 (lc45_2 F) (cAt (bodyOf Tryd.f45) [1,1]):=
 mkL_ok (lp:=[]) (id:=0) (b:=cAt (bodyOf Tryd.f45) (0 :: 0 :: [1,1])) cok (cts45 F) mixed trivial (by kernel_rfl) (by kernel_rfl) (fun x y s=>(((),((),())),x.2.1,x.2.2.1,s.1,())) (fun x y s=>(((),s.2.1,()),(),(),s.2.2,())) (fun x y=>rfl) (fun x y=>rfl) (fun x y s kA kO=>L45_2c F x.2.1 x.2.2.1 s.1 s.2.1 s.2.2 kA kO) (fun x y s kA kO=>L45_2n F x.2.1 x.2.2.1 s.1 s.2.1 s.2.2 kA kO) (le45_2 F)
def T45c (F:Nat) (p0:List (Int×Int×Int×((List UInt8)×Int×Int×Unit)×Int×Int×(List UInt8)×Bool×Unit)) (p1:Int) (p2:List UInt8) {β:Type} (k:(Int×(List UInt8))->Option β):Option β:=
 (Option.bind (T72 F (p0.length:Int) p1 p2) fun z12=>(Option.bind (iter (fun s=>L45_2 F p0 (p0.length:Int) s.1 s.2.1 s.2.2) F ((0:Int),z12.1,z12.2)) fun z22=>(k (z22.1,z22.2))))
def T45 (F:Nat) (p0:List (Int×Int×Int×((List UInt8)×Int×Int×Unit)×Int×Int×(List UInt8)×Bool×Unit)) (p1:Int) (p2:List UInt8):Option (Int×(List UInt8)):=T45c F p0 p1 p2 some
theorem T45n (F:Nat) (p0:List (Int×Int×Int×((List UInt8)×Int×Int×Unit)×Int×Int×(List UInt8)×Bool×Unit)) (p1:Int) (p2:List UInt8) {β:Type} (k:(Int×(List UInt8))->Option β):T45c F p0 p1 p2 k=(T45 F p0 p1 p2).bind k:=by
 simp only [T45,T45c,Option.bind_assoc,cond_bind,Option.bind_some,Option.bind_none,elimS_bind]
abbrev cA45:List Sh:=[(.pt 0 []),(.ro (.pr .i (.pr .i (.pr .i (.pr (.pr .s (.pr .i (.pr .i .un))) (.pr .i (.pr .i (.pr .s (.pr .bo .un))))))))),(.fn 46 .un (.pr (.pt 1 []) .un))]
abbrev cB45:List Sh:=[]
abbrev cT45:List TSh:=[.blk 112 (.pr (.rw 2) (.pr .i .un)),.blk 75 (.pt 0 []),.row 5 .u8]
abbrev cU45:List TSh:=[.blk 112 (.pr (.rw 3) (.pr .i .un)),.blk 75 (.pt 0 []),.no,.row 5 .u8]
def ct45 (F:Nat):Ct:=mkC 3 cA45 cT45 cB45 cU45 (fun x y=>T45 F x.2.1 y.1.2.1 y.2.2.1) (fun x y (z:Int×(List UInt8))=>((),(((),z.1,()),(),(),z.2,())))
theorem eq45 (F:Nat) (x:dens cA45) (y:tdens cT45):sev (E45 F) 3 [([1,1],lc45_2 F)] (bodyOf Tryd.f45) [] (mkSt (rng 3) cA45 cT45 x y) (kFn (E45 F) 3 Tryd.f45.results.toList cB45 cU45 fun p q=>some (p,q)) =
  T45c F x.2.1 y.1.2.1 y.2.2.1 (fun z=>some ((),(((),z.1,()),(),(),z.2,()))):=by kernel_rfl
theorem ok45 (F:Nat):Sound Tryd.prog cfg 45 (ct45 F):=
 mkC_ok (E:=E45 F) (lp:=[([1,1],lc45_2 F)]) (code:=bodyOf Tryd.f45) Tryd.func45 rfl Tryd.ntmps45 rfl rfl cok (cts45 F) mixed ⟨lo45_2 F,trivial⟩ (by kernel_rfl) (fun x y k=>T45c F x.2.1 y.1.2.1 y.2.2.1 k) (fun x y k=>T45n F x.2.1 y.1.2.1 y.2.2.1 k) (eq45 F)
def ord50:Nat->List (Tag×Nat)
 | _=>[]
def al50:Nat->Option Nat
 | _=>none
def ms50:Nat->Option (List (Option Tag×Nat×List Nat))
 | _=>none
def E50 (F:Nat):Ev:=⟨cfg,6,ctOf [(47,ct47 F)],ord50,ctOf [],al50,ms50⟩
theorem cts50 (F:Nat):CtsOk Tryd.prog (E50 F):=cts_of (l:=[(47,ct47 F)]) (l':=[]) rfl rfl ⟨⟨ok47 F,_,Tryd.func47,rfl,rfl⟩,trivial⟩ trivial
def T50c (F:Nat) (p0:List UInt8) (p1:Int) (p2:Int) (p3:Int) (p4:List UInt8) {β:Type} (k:(Int×(List UInt8))->Option β):Option β:=
 (Option.bind (T47 F p0 p1 p2 p3 p4) fun z2=>(k (z2.1,z2.2)))
def T50 (F:Nat) (p0:List UInt8) (p1:Int) (p2:Int) (p3:Int) (p4:List UInt8):Option (Int×(List UInt8)):=T50c F p0 p1 p2 p3 p4 some
theorem T50n (F:Nat) (p0:List UInt8) (p1:Int) (p2:Int) (p3:Int) (p4:List UInt8) {β:Type} (k:(Int×(List UInt8))->Option β):T50c F p0 p1 p2 p3 p4 k=(T50 F p0 p1 p2 p3 p4).bind k:=by
 simp only [T50,T50c,Option.bind_assoc,cond_bind,Option.bind_some,Option.bind_none,elimS_bind]
abbrev cA50:List Sh:=[(.pr .str (.pr .i (.pr .i .un))),(.pt 0 [])]
abbrev cB50:List Sh:=[]
abbrev cT50:List TSh:=[.blk 75 (.pt 1 []),.blk 112 (.pr (.rw 2) (.pr .i .un)),.row 5 .u8]
abbrev cU50:List TSh:=[.blk 75 (.pt 1 []),.blk 112 (.pr (.rw 3) (.pr .i .un)),.no,.row 5 .u8]
def ct50 (F:Nat):Ct:=mkC 3 cA50 cT50 cB50 cU50 (fun x y=>T50 F x.1.1 x.1.2.1 x.1.2.2.1 y.2.1.2.1 y.2.2.1) (fun x y (z:Int×(List UInt8))=>((),((),((),z.1,()),(),z.2,())))
theorem eq50 (F:Nat) (x:dens cA50) (y:tdens cT50):sev (E50 F) 3 [] (bodyOf Tryd.f50) [] (mkSt (rng 2) cA50 cT50 x y) (kFn (E50 F) 3 Tryd.f50.results.toList cB50 cU50 fun p q=>some (p,q)) =
  T50c F x.1.1 x.1.2.1 x.1.2.2.1 y.2.1.2.1 y.2.2.1 (fun z=>some ((),((),((),z.1,()),(),z.2,()))):=by kernel_rfl
theorem ok50 (F:Nat):Sound Tryd.prog cfg 50 (ct50 F):=
 mkC_ok (E:=E50 F) (lp:=[]) (code:=bodyOf Tryd.f50) Tryd.func50 rfl Tryd.ntmps50 rfl rfl cok (cts50 F) mixed trivial (by kernel_rfl) (fun x y k=>T50c F x.1.1 x.1.2.1 x.1.2.2.1 y.2.1.2.1 y.2.2.1 k) (fun x y k=>T50n F x.1.1 x.1.2.1 x.1.2.2.1 y.2.1.2.1 y.2.2.1 k) (eq50 F)
def ord54:Nat->List (Tag×Nat)
 | _=>[]
def al54:Nat->Option Nat
 | _=>none
def ms54:Nat->Option (List (Option Tag×Nat×List Nat))
 | _=>none
def E54 (F:Nat):Ev:=⟨cfg,22,ctOf [(72,ct72 F),(50,ct50 F)],ord54,ctOf [],al54,ms54⟩
theorem cts54 (F:Nat):CtsOk Tryd.prog (E54 F):=cts_of (l:=[(72,ct72 F),(50,ct50 F)]) (l':=[]) rfl rfl ⟨⟨ok72 F,_,Tryd.func72,rfl,rfl⟩,⟨⟨ok50 F,_,Tryd.func50,rfl,rfl⟩,trivial⟩⟩ trivial
def L54_2c (F:Nat) (y13:List ((List UInt8)×Int×Int×Unit)) (y14:Int) (y15:Int) (y16:Int) (y17:List UInt8) {β:Type} (kA:(Int×Int×(List UInt8))->Option β) (kO:(Int×(List UInt8))->Option β):Option β:=
 (bif (decide (y15 < y14)) then (Option.bind (ix y13 y15) fun x20=>(Option.bind (T50 F x20.1 x20.2.1 x20.2.2.1 y16 y17) fun z21=>(kA ((w64 (y15 + (1:Int))),z21.1,z21.2)))) else (kO (y16,y17)))
def L54_2 (F:Nat) (y13:List ((List UInt8)×Int×Int×Unit)) (y14:Int) (y15:Int) (y16:Int) (y17:List UInt8):Option ((Int×Int×(List UInt8)) ⊕ (Int×(List UInt8))):=L54_2c F y13 y14 y15 y16 y17 (fun s=>some (.inl s)) (fun z=>some (.inr z))
theorem L54_2n (F:Nat) (y13:List ((List UInt8)×Int×Int×Unit)) (y14:Int) (y15:Int) (y16:Int) (y17:List UInt8) {β:Type} (kA:(Int×Int×(List UInt8))->Option β) (kO:(Int×(List UInt8))->Option β):L54_2c F y13 y14 y15 y16 y17 kA kO=(L54_2 F y13 y14 y15 y16 y17).bind (elimS kA kO):=by
 simp only [L54_2,L54_2c,Option.bind_assoc,cond_bind,Option.bind_some,Option.bind_none,elimS_l,elimS_r,elimS_bind]
abbrev sA54_2:List Sh:=[(.fn 50 .un (.pr (.pt 1 []) .un)),(.ro (.pr .s (.pr .i (.pr .i .un)))),.i,.i]
abbrev sAp154_2:List Sh:=[]
abbrev sT54_2:List TSh:=[.blk 112 (.pr (.rw 3) (.pr .i .un)),.blk 75 (.pt 0 []),.no,.row 5 .u8]
abbrev sTp154_2:List TSh:=[.blk 112 (.pr (.rw 3) (.pr .i .un)),.blk 75 (.pt 0 []),.no,.row 5 .u8]
def lc54_2 (F:Nat):Lc:=mkL [2,12,13,14] sA54_2 sT54_2 [] sAp154_2 sTp154_2 F (fun x y (s:Int×Int×(List UInt8))=>L54_2 F x.2.1 x.2.2.1 s.1 s.2.1 s.2.2) (fun x y=>(x.2.2.2.1,y.1.2.1,y.2.2.2.1)) (fun x y (z:Int×(List UInt8))=>((),(((),z.1,()),(),(),z.2,())))
theorem le54_2 (F:Nat) (x:dens sA54_2) (y:tdens sT54_2) (s:Int×Int×(List UInt8)):sev (E54 F) 3 [] (cAt (bodyOf Tryd.f54) (0 :: 0 :: [1,1])) (0 :: 0 :: [1,1]) (mkSt [2,12,13,14] sA54_2 sT54_2 (((),((),())),x.2.1,x.2.2.1,s.1,()) (((),s.2.1,()),(),(),s.2.2,())) (kLoop 3 [2,12,13,14] sA54_2 sT54_2 [] sAp154_2 sTp154_2 [] [] [] 0 (fun x y=>some (.inl (x,y))) (fun x y=>some (.inr (.inl (x,y)))) (fun x y=>some (.inr (.inr (x,y))))) =
  L54_2c (β:=Full sA54_2 sT54_2 sAp154_2 sTp154_2 [] []) F x.2.1 x.2.2.1 s.1 s.2.1 s.2.2 (fun s=>some (.inl ((((),((),())),x.2.1,x.2.2.1,s.1,()),(((),s.2.1,()),(),(),s.2.2,())))) (fun z=>some (.inr (.inl ((),(((),z.1,()),(),(),z.2,()))))):=by kernel_rfl
theorem lo54_2 (F:Nat):LcOk Tryd.prog (E54 F) 3 (lc54_2 F) (cAt (bodyOf Tryd.f54) [1,1]):=
 mkL_ok (lp:=[]) (id:=0) (b:=cAt (bodyOf Tryd.f54) (0 :: 0 :: [1,1])) cok (cts54 F) mixed trivial (by kernel_rfl) (by kernel_rfl) (fun x y s=>(((),((),())),x.2.1,x.2.2.1,s.1,())) (fun x y s=>(((),s.2.1,()),(),(),s.2.2,())) (fun x y=>rfl) (fun x y=>rfl) (fun x y s kA kO=>L54_2c F x.2.1 x.2.2.1 s.1 s.2.1 s.2.2 kA kO) (fun x y s kA kO=>L54_2n F x.2.1 x.2.2.1 s.1 s.2.1 s.2.2 kA kO) (le54_2 F)
def T54c (F:Nat) (p0:List ((List UInt8)×Int×Int×Unit)) (p1:Int) (p2:List UInt8) {β:Type} (k:(Int×(List UInt8))->Option β):Option β:=
 (Option.bind (T72 F (p0.length:Int) p1 p2) fun z12=>(Option.bind (iter (fun s=>L54_2 F p0 (p0.length:Int) s.1 s.2.1 s.2.2) F ((0:Int),z12.1,z12.2)) fun z22=>(k (z22.1,z22.2))))
def T54 (F:Nat) (p0:List ((List UInt8)×Int×Int×Unit)) (p1:Int) (p2:List UInt8):Option (Int×(List UInt8)):=T54c F p0 p1 p2 some
theorem T54n (F:Nat) (p0:List ((List UInt8)×Int×Int×Unit)) (p1:Int) (p2:List UInt8) {β:Type} (k:(Int×(List UInt8))->Option β):T54c F p0 p1 p2 k=(T54 F p0 p1 p2).bind k:=by
 simp only [T54,T54c,Option.bind_assoc,cond_bind,Option.bind_some,Option.bind_none,elimS_bind]
abbrev cA54:List Sh:=[(.pt 0 []),(.ro (.pr .s (.pr .i (.pr .i .un)))),(.fn 50 .un (.pr (.pt 1 []) .un))]
abbrev cB54:List Sh:=[]
abbrev cT54:List TSh:=[.blk 112 (.pr (.rw 2) (.pr .i .un)),.blk 75 (.pt 0 []),.row 5 .u8]
abbrev cU54:List TSh:=[.blk 112 (.pr (.rw 3) (.pr .i .un)),.blk 75 (.pt 0 []),.no,.row 5 .u8]
def ct54 (F:Nat):Ct:=mkC 3 cA54 cT54 cB54 cU54 (fun x y=>T54 F x.2.1 y.1.2.1 y.2.2.1) (fun x y (z:Int×(List UInt8))=>((),(((),z.1,()),(),(),z.2,())))
theorem eq54 (F:Nat) (x:dens cA54) (y:tdens cT54):sev (E54 F) 3 [([1,1],lc54_2 F)] (bodyOf Tryd.f54) [] (mkSt (rng 3) cA54 cT54 x y) (kFn (E54 F) 3 Tryd.f54.results.toList cB54 cU54 fun p q=>some (p,q)) =
  T54c F x.2.1 y.1.2.1 y.2.2.1 (fun z=>some ((),(((),z.1,()),(),(),z.2,()))):=by kernel_rfl
theorem ok54 (F:Nat):Sound Tryd.prog cfg 54 (ct54 F):=
 mkC_ok (E:=E54 F) (lp:=[([1,1],lc54_2 F)]) (code:=bodyOf Tryd.f54) Tryd.func54 rfl Tryd.ntmps54 rfl rfl cok (cts54 F) mixed ⟨lo54_2 F,trivial⟩ (by kernel_rfl) (fun x y k=>T54c F x.2.1 y.1.2.1 y.2.2.1 k) (fun x y k=>T54n F x.2.1 y.1.2.1 y.2.2.1 k) (eq54 F)
def ord52:Nat->List (Tag×Nat)
 | _=>[]
def al52:Nat->Option Nat
 | _=>none
def ms52:Nat->Option (List (Option Tag×Nat×List Nat))
 | _=>none
def E52 (F:Nat):Ev:=⟨cfg,24,ctOf [(53,ct53 F),(41,ct41x1 F),(54,ct54 F)],ord52,ctOf [],al52,ms52⟩
theorem cts52 (F:Nat):CtsOk Tryd.prog (E52 F):=cts_of (l:=[(53,ct53 F),(41,ct41x1 F),(54,ct54 F)]) (l':=[]) rfl rfl ⟨⟨ok53 F,_,Tryd.func53,rfl,rfl⟩,⟨⟨ok41x1 F,_,Tryd.func41,rfl,rfl⟩,⟨⟨ok54 F,_,Tryd.func54,rfl,rfl⟩,trivial⟩⟩⟩ trivial
def T52c (F:Nat) (p0:List UInt8) (p1:Int) (p2:Int) (p3:Int) (p4:Int) (p5:List ((List UInt8)×Int×Int×Unit)) (p6:Int) (p7:List UInt8) {β:Type} (k:(Int×(List UInt8))->Option β):Option β:=
 (Option.bind (T53 F p0 p6 p7) fun z4=>(Option.bind (T41x1 F ([p1,p2,p3,p4]:List Int) z4.1 z4.2) fun z5=>(Option.bind (T54 F p5 z4.1 z5) fun z6=>(k (z6.1,z6.2)))))
def T52 (F:Nat) (p0:List UInt8) (p1:Int) (p2:Int) (p3:Int) (p4:Int) (p5:List ((List UInt8)×Int×Int×Unit)) (p6:Int) (p7:List UInt8):Option (Int×(List UInt8)):=T52c F p0 p1 p2 p3 p4 p5 p6 p7 some
theorem T52n (F:Nat) (p0:List UInt8) (p1:Int) (p2:Int) (p3:Int) (p4:Int) (p5:List ((List UInt8)×Int×Int×Unit)) (p6:Int) (p7:List UInt8) {β:Type} (k:(Int×(List UInt8))->Option β):T52c F p0 p1 p2 p3 p4 p5 p6 p7 k=(T52 F p0 p1 p2 p3 p4 p5 p6 p7).bind k:=by
 simp only [T52,T52c,Option.bind_assoc,cond_bind,Option.bind_some,Option.bind_none,elimS_bind]
abbrev cA52:List Sh:=[(.pr .str (.pr .i (.pr .i (.pr .i (.pr .i (.pr (.ro (.pr .s (.pr .i (.pr .i .un)))) .un)))))),(.pt 0 []),(.pt 1 [])]
abbrev cB52:List Sh:=[]
abbrev cT52:List TSh:=[.blk 75 (.pt 2 []),.blk 89 (.fn 50 .un (.pr (.pt 0 []) .un)),.blk 112 (.pr (.rw 3) (.pr .i .un)),.row 5 .u8]
abbrev cU52:List TSh:=[.blk 75 (.pt 2 []),.blk 89 (.fn 50 .un (.pr (.pt 0 []) .un)),.blk 112 (.pr (.rw 4) (.pr .i .un)),.no,.row 5 .u8]
def ct52 (F:Nat):Ct:=mkC 4 cA52 cT52 cB52 cU52 (fun x y=>T52 F x.1.1 x.1.2.1 x.1.2.2.1 x.1.2.2.2.1 x.1.2.2.2.2.1 x.1.2.2.2.2.2.1 y.2.2.1.2.1 y.2.2.2.1) (fun x y (z:Int×(List UInt8))=>((),((),((),((),())),((),z.1,()),(),z.2,())))
theorem eq52 (F:Nat) (x:dens cA52) (y:tdens cT52):sev (E52 F) 4 [] (bodyOf Tryd.f52) [] (mkSt (rng 3) cA52 cT52 x y) (kFn (E52 F) 4 Tryd.f52.results.toList cB52 cU52 fun p q=>some (p,q)) =
  T52c F x.1.1 x.1.2.1 x.1.2.2.1 x.1.2.2.2.1 x.1.2.2.2.2.1 x.1.2.2.2.2.2.1 y.2.2.1.2.1 y.2.2.2.1 (fun z=>some ((),((),((),((),())),((),z.1,()),(),z.2,()))):=by kernel_rfl
theorem ok52 (F:Nat):Sound Tryd.prog cfg 52 (ct52 F):=
 mkC_ok (E:=E52 F) (lp:=[]) (code:=bodyOf Tryd.f52) Tryd.func52 rfl Tryd.ntmps52 rfl rfl cok (cts52 F) mixed trivial (by kernel_rfl) (fun x y k=>T52c F x.1.1 x.1.2.1 x.1.2.2.1 x.1.2.2.2.1 x.1.2.2.2.2.1 x.1.2.2.2.2.2.1 y.2.2.1.2.1 y.2.2.2.1 k) (fun x y k=>T52n F x.1.1 x.1.2.1 x.1.2.2.1 x.1.2.2.2.1 x.1.2.2.2.2.1 x.1.2.2.2.2.2.1 y.2.2.1.2.1 y.2.2.2.1 k) (eq52 F)
def ord51:Nat->List (Tag×Nat)
 | _=>[]
def al51:Nat->Option Nat
 | _=>none
def ms51:Nat->Option (List (Option Tag×Nat×List Nat))
 | _=>none
def E51 (F:Nat):Ev:=⟨cfg,22,ctOf [(72,ct72 F),(52,ct52 F)],ord51,ctOf [],al51,ms51⟩
theorem cts51 (F:Nat):CtsOk Tryd.prog (E51 F):=cts_of (l:=[(72,ct72 F),(52,ct52 F)]) (l':=[]) rfl rfl ⟨⟨ok72 F,_,Tryd.func72,rfl,rfl⟩,⟨⟨ok52 F,_,Tryd.func52,rfl,rfl⟩,trivial⟩⟩ trivial
def L51_2c (F:Nat) (y13:List ((List UInt8)×Int×Int×Int×Int×(List ((List UInt8)×Int×Int×Unit))×Unit)) (y14:Int) (y15:Int) (y16:Int) (y17:List UInt8) {β:Type} (kA:(Int×Int×(List UInt8))->Option β) (kO:(Int×(List UInt8))->Option β):Option β:=
 (bif (decide (y15 < y14)) then (Option.bind (ix y13 y15) fun x20=>(Option.bind (T52 F x20.1 x20.2.1 x20.2.2.1 x20.2.2.2.1 x20.2.2.2.2.1 x20.2.2.2.2.2.1 y16 y17) fun z21=>(kA ((w64 (y15 + (1:Int))),z21.1,z21.2)))) else (kO (y16,y17)))
def L51_2 (F:Nat) (y13:List ((List UInt8)×Int×Int×Int×Int×(List ((List UInt8)×Int×Int×Unit))×Unit)) (y14:Int) (y15:Int) (y16:Int) (y17:List UInt8):Option ((Int×Int×(List UInt8)) ⊕ (Int×(List UInt8))):=L51_2c F y13 y14 y15 y16 y17 (fun s=>some (.inl s)) (fun z=>some (.inr z))
theorem L51_2n (F:Nat) (y13:List ((List UInt8)×Int×Int×Int×Int×(List ((List UInt8)×Int×Int×Unit))×Unit)) (y14:Int) (y15:Int) (y16:Int) (y17:List UInt8) {β:Type} (kA:(Int×Int×(List UInt8))->Option β) (kO:(Int×(List UInt8))->Option β):L51_2c F y13 y14 y15 y16 y17 kA kO=(L51_2 F y13 y14 y15 y16 y17).bind (elimS kA kO):=by
 simp only [L51_2,L51_2c,Option.bind_assoc,cond_bind,Option.bind_some,Option.bind_none,elimS_l,elimS_r,elimS_bind]
abbrev sA51_2:List Sh:=[(.fn 52 .un (.pr (.pt 1 []) (.pr (.pt 2 []) .un))),(.ro (.pr .s (.pr .i (.pr .i (.pr .i (.pr .i (.pr (.sl (.pr .s (.pr .i (.pr .i .un)))) .un))))))),.i,.i]
abbrev sAp151_2:List Sh:=[]
abbrev sT51_2:List TSh:=[.blk 112 (.pr (.rw 4) (.pr .i .un)),.blk 75 (.pt 0 []),.blk 89 (.fn 50 .un (.pr (.pt 1 []) .un)),.no,.row 5 .u8]
abbrev sTp151_2:List TSh:=[.blk 112 (.pr (.rw 4) (.pr .i .un)),.blk 75 (.pt 0 []),.blk 89 (.fn 50 .un (.pr (.pt 1 []) .un)),.no,.row 5 .u8]
def lc51_2 (F:Nat):Lc:=mkL [2,12,13,14] sA51_2 sT51_2 [] sAp151_2 sTp151_2 F (fun x y (s:Int×Int×(List UInt8))=>L51_2 F x.2.1 x.2.2.1 s.1 s.2.1 s.2.2) (fun x y=>(x.2.2.2.1,y.1.2.1,y.2.2.2.2.1)) (fun x y (z:Int×(List UInt8))=>((),(((),z.1,()),(),((),((),())),(),z.2,())))
theorem le51_2 (F:Nat) (x:dens sA51_2) (y:tdens sT51_2) (s:Int×Int×(List UInt8)):sev (E51 F) 4 [] (cAt (bodyOf Tryd.f51) (0 :: 0 :: [1,1])) (0 :: 0 :: [1,1]) (mkSt [2,12,13,14] sA51_2 sT51_2 (((),((),(),())),x.2.1,x.2.2.1,s.1,()) (((),s.2.1,()),(),((),((),())),(),s.2.2,())) (kLoop 4 [2,12,13,14] sA51_2 sT51_2 [] sAp151_2 sTp151_2 [] [] [] 0 (fun x y=>some (.inl (x,y))) (fun x y=>some (.inr (.inl (x,y)))) (fun x y=>some (.inr (.inr (x,y))))) =
  L51_2c (β:=Full sA51_2 sT51_2 sAp151_2 sTp151_2 [] []) F x.2.1 x.2.2.1 s.1 s.2.1 s.2.2 (fun s=>some (.inl ((((),((),(),())),x.2.1,x.2.2.1,s.1,()),(((),s.2.1,()),(),((),((),())),(),s.2.2,())))) (fun z=>some (.inr (.inl ((),(((),z.1,()),(),((),((),())),(),z.2,()))))):=by kernel_rfl
theorem lo51_2 (F:Nat):LcOk Tryd.prog (E51 F) 4 (lc51_2 F) (cAt (bodyOf Tryd.f51) [1,1]):=
 mkL_ok (lp:=[]) (id:=0) (b:=cAt (bodyOf Tryd.f51) (0 :: 0 :: [1,1])) cok (cts51 F) mixed trivial (by kernel_rfl) (by kernel_rfl) (fun x y s=>(((),((),(),())),x.2.1,x.2.2.1,s.1,())) (fun x y s=>(((),s.2.1,()),(),((),((),())),(),s.2.2,())) (fun x y=>rfl) (fun x y=>rfl) (fun x y s kA kO=>L51_2c F x.2.1 x.2.2.1 s.1 s.2.1 s.2.2 kA kO) (fun x y s kA kO=>L51_2n F x.2.1 x.2.2.1 s.1 s.2.1 s.2.2 kA kO) (le51_2 F)
def T51c (F:Nat) (p0:List ((List UInt8)×Int×Int×Int×Int×(List ((List UInt8)×Int×Int×Unit))×Unit)) (p1:Int) (p2:List UInt8) {β:Type} (k:(Int×(List UInt8))->Option β):Option β:=
 (Option.bind (T72 F (p0.length:Int) p1 p2) fun z12=>(Option.bind (iter (fun s=>L51_2 F p0 (p0.length:Int) s.1 s.2.1 s.2.2) F ((0:Int),z12.1,z12.2)) fun z22=>(k (z22.1,z22.2))))
def T51 (F:Nat) (p0:List ((List UInt8)×Int×Int×Int×Int×(List ((List UInt8)×Int×Int×Unit))×Unit)) (p1:Int) (p2:List UInt8):Option (Int×(List UInt8)):=T51c F p0 p1 p2 some
theorem T51n (F:Nat) (p0:List ((List UInt8)×Int×Int×Int×Int×(List ((List UInt8)×Int×Int×Unit))×Unit)) (p1:Int) (p2:List UInt8) {β:Type} (k:(Int×(List UInt8))->Option β):T51c F p0 p1 p2 k=(T51 F p0 p1 p2).bind k:=by
 simp only [T51,T51c,Option.bind_assoc,cond_bind,Option.bind_some,Option.bind_none,elimS_bind]
abbrev cA51:List Sh:=[(.pt 0 []),(.ro (.pr .s (.pr .i (.pr .i (.pr .i (.pr .i (.pr (.sl (.pr .s (.pr .i (.pr .i .un)))) .un))))))),(.fn 52 .un (.pr (.pt 1 []) (.pr (.pt 2 []) .un)))]
abbrev cB51:List Sh:=[]
abbrev cT51:List TSh:=[.blk 112 (.pr (.rw 3) (.pr .i .un)),.blk 75 (.pt 0 []),.blk 89 (.fn 50 .un (.pr (.pt 1 []) .un)),.row 5 .u8]
abbrev cU51:List TSh:=[.blk 112 (.pr (.rw 4) (.pr .i .un)),.blk 75 (.pt 0 []),.blk 89 (.fn 50 .un (.pr (.pt 1 []) .un)),.no,.row 5 .u8]
def ct51 (F:Nat):Ct:=mkC 4 cA51 cT51 cB51 cU51 (fun x y=>T51 F x.2.1 y.1.2.1 y.2.2.2.1) (fun x y (z:Int×(List UInt8))=>((),(((),z.1,()),(),((),((),())),(),z.2,())))
theorem eq51 (F:Nat) (x:dens cA51) (y:tdens cT51):sev (E51 F) 4 [([1,1],lc51_2 F)] (bodyOf Tryd.f51) [] (mkSt (rng 3) cA51 cT51 x y) (kFn (E51 F) 4 Tryd.f51.results.toList cB51 cU51 fun p q=>some (p,q)) =
  T51c F x.2.1 y.1.2.1 y.2.2.2.1 (fun z=>some ((),(((),z.1,()),(),((),((),())),(),z.2,()))):=by kernel_rfl
theorem ok51 (F:Nat):Sound Tryd.prog cfg 51 (ct51 F):=
 mkC_ok (E:=E51 F) (lp:=[([1,1],lc51_2 F)]) (code:=bodyOf Tryd.f51) Tryd.func51 rfl Tryd.ntmps51 rfl rfl cok (cts51 F) mixed ⟨lo51_2 F,trivial⟩ (by kernel_rfl) (fun x y k=>T51c F x.2.1 y.1.2.1 y.2.2.2.1 k) (fun x y k=>T51n F x.2.1 y.1.2.1 y.2.2.2.1 k) (eq51 F)
def ord55:Nat->List (Tag×Nat)
 | 2=>[(.p,0),(.p,1),(.p,2),(.r,3),(.p,4),(.p,5)]
 | _=>[]
def al55:Nat->Option Nat
 | _=>none
def ms55:Nat->Option (List (Option Tag×Nat×List Nat))
 | _=>none
def E55 (F:Nat):Ev:=⟨cfg,25,ctOf [],ord55,ctOf [],al55,ms55⟩
theorem cts55 (F:Nat):CtsOk Tryd.prog (E55 F):=cts_of (l:=[]) (l':=[]) rfl rfl trivial trivial
def T55c (F:Nat) (p0:Int) (p1:List UInt8) {β:Type} (k:(Int×(List UInt8))->Option β):Option β:=
 (bif (p0 != (0:Int)) then (k (p0,([]:List UInt8))) else (bif (decide ((1048576:Int) < (p1.length:Int))) then (k ((2:Int),([]:List UInt8))) else (Option.bind (gapp ([]:List UInt8) p1) fun x2=>(k ((0:Int),x2)))))
def T55 (F:Nat) (p0:Int) (p1:List UInt8):Option (Int×(List UInt8)):=T55c F p0 p1 some
theorem T55n (F:Nat) (p0:Int) (p1:List UInt8) {β:Type} (k:(Int×(List UInt8))->Option β):T55c F p0 p1 k=(T55 F p0 p1).bind k:=by
 simp only [T55,T55c,Option.bind_assoc,cond_bind,Option.bind_some,Option.bind_none,elimS_bind]
abbrev cA55:List Sh:=[(.pt 0 [])]
abbrev cB55:List Sh:=[(.rw 2),.i]
abbrev cT55:List TSh:=[.blk 112 (.pr (.rw 1) (.pr .i .un)),.row 5 .u8]
abbrev cU55:List TSh:=[.blk 112 (.pr (.rw 1) (.pr .i .un)),.row 5 .u8,.row 5 .u8]
def ct55 (F:Nat):Ct:=mkC 2 cA55 cT55 cB55 cU55 (fun x y=>T55 F y.1.2.1 y.2.1) (fun x y (z:Int×(List UInt8))=>(((),z.1,()),(((),y.1.2.1,()),y.2.1,z.2,())))
theorem eq55 (F:Nat) (x:dens cA55) (y:tdens cT55):sev (E55 F) 2 [] (bodyOf Tryd.f55) [] (mkSt (rng 1) cA55 cT55 x y) (kFn (E55 F) 2 Tryd.f55.results.toList cB55 cU55 fun p q=>some (p,q)) =
  T55c F y.1.2.1 y.2.1 (fun z=>some (((),z.1,()),(((),y.1.2.1,()),y.2.1,z.2,()))):=by kernel_rfl
theorem ok55 (F:Nat):Sound Tryd.prog cfg 55 (ct55 F):=
 mkC_ok (E:=E55 F) (lp:=[]) (code:=bodyOf Tryd.f55) Tryd.func55 rfl Tryd.ntmps55 rfl rfl cok (cts55 F) mixed trivial (by kernel_rfl) (fun x y k=>T55c F y.1.2.1 y.2.1 k) (fun x y k=>T55n F y.1.2.1 y.2.1 k) (eq55 F)
def ord25:Nat->List (Tag×Nat)
 | _=>[]
def al25:Nat->Option Nat
 | _=>none
def ms25:Nat->Option (List (Option Tag×Nat×List Nat))
 | _=>none
def E25 (F:Nat):Ev:=⟨cfg,53,ctOf [(39,ct39 F),(40,ct40 F),(41,ct41 F),(42,ct42 F),(45,ct45 F),(51,ct51 F),(54,ct54 F),(55,ct55 F)],ord25,ctOf [],al25,ms25⟩
theorem cts25 (F:Nat):CtsOk Tryd.prog (E25 F):=cts_of (l:=[(39,ct39 F),(40,ct40 F),(41,ct41 F),(42,ct42 F),(45,ct45 F),(51,ct51 F),(54,ct54 F),(55,ct55 F)]) (l':=[]) rfl rfl ⟨⟨ok39 F,_,Tryd.func39,rfl,rfl⟩,⟨⟨ok40 F,_,Tryd.func40,rfl,rfl⟩,⟨⟨ok41 F,_,Tryd.func41,rfl,rfl⟩,⟨⟨ok42 F,_,Tryd.func42,rfl,rfl⟩,⟨⟨ok45 F,_,Tryd.func45,rfl,rfl⟩,⟨⟨ok51 F,_,Tryd.func51,rfl,rfl⟩,⟨⟨ok54 F,_,Tryd.func54,rfl,rfl⟩,⟨⟨ok55 F,_,Tryd.func55,rfl,rfl⟩,trivial⟩⟩⟩⟩⟩⟩⟩⟩ trivial
def T25c (F:Nat) (p0:Int) (p1:Int) (p2:List Int) (p3:List (Int×Int×Int×((List UInt8)×Int×Int×Unit)×Int×Int×(List UInt8)×Bool×Unit)) (p4:List ((List UInt8)×Int×Int×Int×Int×(List ((List UInt8)×Int×Int×Unit))×Unit)) (p5:List ((List UInt8)×Int×Int×Unit)) {β:Type} (k:(Int×(List UInt8))->Option β):Option β:=
 (Option.bind (T39 F p0 p1 p2 p3 p4 p5) fun z9=>(bif (!z9) then (k ((1:Int),([]:List UInt8))) else (Option.bind (T40 F) fun z10=>(Option.bind (T41 F ([p0,p1]:List Int) z10) fun z11=>(Option.bind (T42 F p2 z10 z11) fun z12=>(Option.bind (T45 F p3 z12.1 z12.2) fun z13=>(Option.bind (T51 F p4 z13.1 z13.2) fun z14=>(Option.bind (T54 F p5 z14.1 z14.2) fun z15=>(Option.bind (T55 F z15.1 z15.2) fun z16=>(bif (z16.1 != (0:Int)) then (k ((2:Int),([]:List UInt8))) else (bif (decide ((1048560:Int) < (z16.2.length:Int))) then (k ((2:Int),([]:List UInt8))) else (k ((0:Int),z16.2)))))))))))))
def T25 (F:Nat) (p0:Int) (p1:Int) (p2:List Int) (p3:List (Int×Int×Int×((List UInt8)×Int×Int×Unit)×Int×Int×(List UInt8)×Bool×Unit)) (p4:List ((List UInt8)×Int×Int×Int×Int×(List ((List UInt8)×Int×Int×Unit))×Unit)) (p5:List ((List UInt8)×Int×Int×Unit)):Option (Int×(List UInt8)):=T25c F p0 p1 p2 p3 p4 p5 some
theorem T25n (F:Nat) (p0:Int) (p1:Int) (p2:List Int) (p3:List (Int×Int×Int×((List UInt8)×Int×Int×Unit)×Int×Int×(List UInt8)×Bool×Unit)) (p4:List ((List UInt8)×Int×Int×Int×Int×(List ((List UInt8)×Int×Int×Unit))×Unit)) (p5:List ((List UInt8)×Int×Int×Unit)) {β:Type} (k:(Int×(List UInt8))->Option β):T25c F p0 p1 p2 p3 p4 p5 k=(T25 F p0 p1 p2 p3 p4 p5).bind k:=by
 simp only [T25,T25c,Option.bind_assoc,cond_bind,Option.bind_some,Option.bind_none,elimS_bind]
abbrev cA25:List Sh:=[(.pr .i (.pr .i (.pr (.ro .i) (.pr (.ro (.pr .i (.pr .i (.pr .i (.pr (.pr .s (.pr .i (.pr .i .un))) (.pr .i (.pr .i (.pr .s (.pr .bo .un))))))))) (.pr (.ro (.pr .s (.pr .i (.pr .i (.pr .i (.pr .i (.pr (.sl (.pr .s (.pr .i (.pr .i .un)))) .un))))))) (.pr (.ro (.pr .s (.pr .i (.pr .i .un)))) .un))))))]
abbrev cB25:List Sh:=[(.rw 0),.i]
abbrev cT25:List TSh:=[]
abbrev cU25:List TSh:=[.row 5 .u8]
def ct25 (F:Nat):Ct:=mkC 0 cA25 cT25 cB25 cU25 (fun x y=>T25 F x.1.1 x.1.2.1 x.1.2.2.1 x.1.2.2.2.1 x.1.2.2.2.2.1 x.1.2.2.2.2.2.1) (fun x y (z:Int×(List UInt8))=>(((),z.1,()),(z.2,())))
theorem eq25 (F:Nat) (x:dens cA25) (y:tdens cT25):sev (E25 F) 0 [] (bodyOf Tryd.f25) [] (mkSt (rng 1) cA25 cT25 x y) (kFn (E25 F) 0 Tryd.f25.results.toList cB25 cU25 fun p q=>some (p,q)) =
  T25c F x.1.1 x.1.2.1 x.1.2.2.1 x.1.2.2.2.1 x.1.2.2.2.2.1 x.1.2.2.2.2.2.1 (fun z=>some (((),z.1,()),(z.2,()))):=by kernel_rfl
theorem ok25 (F:Nat):Sound Tryd.prog cfg 25 (ct25 F):=
 mkC_ok (E:=E25 F) (lp:=[]) (code:=bodyOf Tryd.f25) Tryd.func25 rfl Tryd.ntmps25 rfl rfl cok (cts25 F) mixed trivial (by kernel_rfl) (fun x y k=>T25c F x.1.1 x.1.2.1 x.1.2.2.1 x.1.2.2.2.1 x.1.2.2.2.2.1 x.1.2.2.2.2.2.1 k) (fun x y k=>T25n F x.1.1 x.1.2.1 x.1.2.2.1 x.1.2.2.2.1 x.1.2.2.2.2.1 x.1.2.2.2.2.2.1 k) (eq25 F)
def ord12:Nat->List (Tag×Nat)
 | _=>[]
def al12:Nat->Option Nat
 | _=>none
def ms12:Nat->Option (List (Option Tag×Nat×List Nat))
 | _=>none
def E12 (F:Nat):Ev:=⟨cfg,16,ctOf [],ord12,ctOf [],al12,ms12⟩
theorem cts12 (F:Nat):CtsOk Tryd.prog (E12 F):=cts_of (l:=[]) (l':=[]) rfl rfl trivial trivial
def L12_2c (F:Nat) (y4:Int) (y5:Int) {β:Type} (kA:Int->Option β) (kO:Int->Option β):Option β:=
 (bif (decide (y5 < (w64 (y4 + (10:Int))))) then (kA (w64 (y5 * (2:Int)))) else (kO y5))
def L12_2 (F:Nat) (y4:Int) (y5:Int):Option ((Int) ⊕ (Int)):=L12_2c F y4 y5 (fun s=>some (.inl s)) (fun z=>some (.inr z))
theorem L12_2n (F:Nat) (y4:Int) (y5:Int) {β:Type} (kA:Int->Option β) (kO:Int->Option β):L12_2c F y4 y5 kA kO=(L12_2 F y4 y5).bind (elimS kA kO):=by
 simp only [L12_2,L12_2c,Option.bind_assoc,cond_bind,Option.bind_some,Option.bind_none,elimS_l,elimS_r,elimS_bind]
abbrev sA12_2:List Sh:=[.i,.i]
abbrev sAp112_2:List Sh:=[.i]
abbrev sT12_2:List TSh:=[]
abbrev sTp112_2:List TSh:=[]
def lc12_2 (F:Nat):Lc:=mkL [0,4] sA12_2 sT12_2 [4] sAp112_2 sTp112_2 F (fun x y (s:Int)=>L12_2 F x.1 s) (fun x y=>x.2.1) (fun x y (z:Int)=>((z,()),()))
theorem le12_2 (F:Nat) (x:dens sA12_2) (y:tdens sT12_2) (s:Int):sev (E12 F) 0 [] (cAt (bodyOf Tryd.f12) (0 :: 0 :: [0,1,1,1,1])) (0 :: 0 :: [0,1,1,1,1]) (mkSt [0,4] sA12_2 sT12_2 (x.1,s,()) ()) (kLoop 0 [0,4] sA12_2 sT12_2 [4] sAp112_2 sTp112_2 [] [] [] 0 (fun x y=>some (.inl (x,y))) (fun x y=>some (.inr (.inl (x,y)))) (fun x y=>some (.inr (.inr (x,y))))) =
  L12_2c (β:=Full sA12_2 sT12_2 sAp112_2 sTp112_2 [] []) F x.1 s (fun s=>some (.inl ((x.1,s,()),()))) (fun z=>some (.inr (.inl ((z,()),())))):=by kernel_rfl
theorem lo12_2 (F:Nat):LcOk Tryd.prog (E12 F) 0 (lc12_2 F) (cAt (bodyOf Tryd.f12) [0,1,1,1,1]):=
 mkL_ok (lp:=[]) (id:=0) (b:=cAt (bodyOf Tryd.f12) (0 :: 0 :: [0,1,1,1,1])) cok (cts12 F) mixed trivial (by kernel_rfl) (by kernel_rfl) (fun x y s=>(x.1,s,())) (fun x y s=>()) (fun x y=>rfl) (fun x y=>rfl) (fun x y s kA kO=>L12_2c F x.1 s kA kO) (fun x y s kA kO=>L12_2n F x.1 s kA kO) (le12_2 F)
def T12c (F:Nat) (p0:Int) {β:Type} (k:(Int×Int)->Option β):Option β:=
 (bif (decide (p0 < (0:Int))) then (k ((0:Int),(1:Int))) else (bif (decide ((1048560:Int) < p0)) then (k ((0:Int),(2:Int))) else (Option.bind (iter (fun s=>L12_2 F p0 s) F (1024:Int)) fun z6=>(k (z6,(0:Int))))))
def T12 (F:Nat) (p0:Int):Option (Int×Int):=T12c F p0 some
theorem T12n (F:Nat) (p0:Int) {β:Type} (k:(Int×Int)->Option β):T12c F p0 k=(T12 F p0).bind k:=by
 simp only [T12,T12c,Option.bind_assoc,cond_bind,Option.bind_some,Option.bind_none,elimS_bind]
abbrev cA12:List Sh:=[.i]
abbrev cB12:List Sh:=[.i,.i]
abbrev cT12:List TSh:=[]
abbrev cU12:List TSh:=[]
def ct12 (F:Nat):Ct:=mkC 0 cA12 cT12 cB12 cU12 (fun x y=>T12 F x.1) (fun x y (z:Int×Int)=>((z.1,z.2,()),()))
theorem eq12 (F:Nat) (x:dens cA12) (y:tdens cT12):sev (E12 F) 0 [([0,1,1,1,1],lc12_2 F)] (bodyOf Tryd.f12) [] (mkSt (rng 1) cA12 cT12 x y) (kFn (E12 F) 0 Tryd.f12.results.toList cB12 cU12 fun p q=>some (p,q)) =
  T12c F x.1 (fun z=>some ((z.1,z.2,()),())):=by kernel_rfl
theorem ok12 (F:Nat):Sound Tryd.prog cfg 12 (ct12 F):=
 mkC_ok (E:=E12 F) (lp:=[([0,1,1,1,1],lc12_2 F)]) (code:=bodyOf Tryd.f12) Tryd.func12 rfl Tryd.ntmps12 rfl rfl cok (cts12 F) mixed ⟨lo12_2 F,trivial⟩ (by kernel_rfl) (fun x y k=>T12c F x.1 k) (fun x y k=>T12n F x.1 k) (eq12 F)
def ord9:Nat->List (Tag×Nat)
 | 2=>[]
 | 5=>[(.p,0),(.p,1),(.p,2),(.p,3),(.r,4),(.p,5),(.r,6),(.p,7),(.p,8),(.p,9),(.p,10),(.r,11),(.p,12),(.p,13),(.p,14),(.p,15),(.p,16),(.p,17),(.p,18),(.p,19),(.p,20),(.p,21),(.p,22),(.p,23),(.p,24),(.p,25),(.p,26),(.p,27),(.r,28),(.p,29),(.p,30),(.p,31),(.p,32),(.p,33),(.p,34),(.c,35),(.c,36),(.w,37),(.p,38),(.p,39),(.p,40),(.p,41),(.p,42),(.p,43),(.p,44),(.p,45),(.p,46),(.p,47),(.p,48),(.p,49),(.p,50),(.p,51),(.p,52),(.p,53),(.p,54),(.p,55),(.p,56),(.p,57)]
 | _=>[]
def al9:Nat->Option Nat
 | _=>none
def ms9:Nat->Option (List (Option Tag×Nat×List Nat))
 | 2=>some [(some .w,0,[1,2]),(none,1,[2]),(none,2,[]),(some .w,3,[]),(some .p,4,[]),(some .p,5,[]),(some .p,6,[]),(some .p,7,[]),(some .p,8,[])]
 | _=>none
def E9 (F:Nat):Ev:=⟨cfg,87,ctOf [(22,ct22 F),(14,ct14 F),(10,ct10 F),(25,ct25 F),(12,ct12 F)],ord9,ctOf [],al9,ms9⟩
theorem cts9 (F:Nat):CtsOk Tryd.prog (E9 F):=cts_of (l:=[(22,ct22 F),(14,ct14 F),(10,ct10 F),(25,ct25 F),(12,ct12 F)]) (l':=[]) rfl rfl ⟨⟨ok22 F,_,Tryd.func22,rfl,rfl⟩,⟨⟨ok14 F,_,Tryd.func14,rfl,rfl⟩,⟨⟨ok10 F,_,Tryd.func10,rfl,rfl⟩,⟨⟨ok25 F,_,Tryd.func25,rfl,rfl⟩,⟨⟨ok12 F,_,Tryd.func12,rfl,rfl⟩,trivial⟩⟩⟩⟩⟩ trivial
def T9c (F:Nat) {β:Type} (k:Bool->Option β):Option β:=
 (Option.bind (T22 F (UInt8.ofNat 1)) fun z12=>(Option.bind (T14 F z12) fun z13=>(Option.bind (T22 F (UInt8.ofNat 1)) fun z14=>(Option.bind (T10 F z14 (2:Int) ([(0:Int),(3:Int),(5:Int)]:List Int) (List.replicate 32 (0:UInt8))) fun z15=>(Option.bind (T25 F (0:Int) (0:Int) ([]:List Int) ([]:List (Int×Int×Int×((List UInt8)×Int×Int×Unit)×Int×Int×(List UInt8)×Bool×Unit)) ([]:List ((List UInt8)×Int×Int×Int×Int×(List ((List UInt8)×Int×Int×Unit))×Unit)) ([]:List ((List UInt8)×Int×Int×Unit))) fun z16=>(Option.bind (T12 F (1015:Int)) fun z17=>(bif (z13.2.2.2.2.2 == (0:Int)) then (bif (z13.1 != z13.2.1) then (bif ((z13.2.2.2.2.1.length:Int) == (32:Int)) then (bif (z15.1 == (0:Int)) then (bif ((z15.2.length:Int) == (3:Int)) then (Option.bind (inb z15.2.length (1:Int)) fun x18=>(Option.bind (z15.2[x18]?) fun x19=>(bif (x19.1 == (4:Int)) then (Option.bind (inb z15.2.length (1:Int)) fun x20=>(Option.bind (z15.2[x20]?) fun x21=>(Option.bind (T22 F (UInt8.ofNat 1)) fun z22=>(bif (x21.2.1 == z22) then (bif (z16.1 == (0:Int)) then (bif ((z16.2.length:Int) == (6:Int)) then (bif (z17.1 == (2048:Int)) then (k (z17.2 == (0:Int))) else (k false)) else (k false)) else (k false)) else (k false))))) else (k false)))) else (k false)) else (k false)) else (k false)) else (k false)) else (k false))))))))
def T9 (F:Nat):Option (Bool):=T9c F some
theorem T9n (F:Nat) {β:Type} (k:Bool->Option β):T9c F k=(T9 F).bind k:=by
 simp only [T9,T9c,Option.bind_assoc,cond_bind,Option.bind_some,Option.bind_none,elimS_bind]
abbrev cA9:List Sh:=[]
abbrev cB9:List Sh:=[.bo]
abbrev cT9:List TSh:=[]
abbrev cU9:List TSh:=[]
def ct9 (F:Nat):Ct:=mkC 0 cA9 cT9 cB9 cU9 (fun x y=>T9 F) (fun x y (z:Bool)=>((z,()),()))
theorem eq9 (F:Nat) (x:dens cA9) (y:tdens cT9):sev (E9 F) 0 [] (bodyOf Tryd.f9) [] (mkSt (rng 0) cA9 cT9 x y) (kFn (E9 F) 0 Tryd.f9.results.toList cB9 cU9 fun p q=>some (p,q)) =
  T9c F (fun z=>some ((z,()),())):=by kernel_rfl
theorem ok9 (F:Nat):Sound Tryd.prog cfg 9 (ct9 F):=
 mkC_ok (E:=E9 F) (lp:=[]) (code:=bodyOf Tryd.f9) Tryd.func9 rfl Tryd.ntmps9 rfl rfl cok (cts9 F) mixed trivial (by kernel_rfl) (fun x y k=>T9c F k) (fun x y k=>T9n F k) (eq9 F)
def ord33:Nat->List (Tag×Nat)
 | _=>[]
def al33:Nat->Option Nat
 | _=>none
def ms33:Nat->Option (List (Option Tag×Nat×List Nat))
 | _=>none
def E33 (F:Nat):Ev:=⟨cfg,17,ctOf [(31,ct31 F)],ord33,ctOf [],al33,ms33⟩
theorem cts33 (F:Nat):CtsOk Tryd.prog (E33 F):=cts_of (l:=[(31,ct31 F)]) (l':=[]) rfl rfl ⟨⟨ok31 F,_,Tryd.func31,rfl,rfl⟩,trivial⟩ trivial
def T33c (F:Nat) (p0:List UInt8) (p1:List UInt8) {β:Type} (k:((List UInt8)×Int)->Option β):Option β:=
 (Option.bind (T31 F p0 p1) fun z2=>(bif (z2.2 != (0:Int)) then (k (([]:List UInt8),(1:Int))) else (k (z2.1,(0:Int)))))
def T33 (F:Nat) (p0:List UInt8) (p1:List UInt8):Option ((List UInt8)×Int):=T33c F p0 p1 some
theorem T33n (F:Nat) (p0:List UInt8) (p1:List UInt8) {β:Type} (k:((List UInt8)×Int)->Option β):T33c F p0 p1 k=(T33 F p0 p1).bind k:=by
 simp only [T33,T33c,Option.bind_assoc,cond_bind,Option.bind_some,Option.bind_none,elimS_bind]
abbrev cA33:List Sh:=[.str,.str]
abbrev cB33:List Sh:=[.str,.i]
abbrev cT33:List TSh:=[]
abbrev cU33:List TSh:=[]
def ct33 (F:Nat):Ct:=mkC 0 cA33 cT33 cB33 cU33 (fun x y=>T33 F x.1 x.2.1) (fun x y (z:(List UInt8)×Int)=>((z.1,z.2,()),()))
theorem eq33 (F:Nat) (x:dens cA33) (y:tdens cT33):sev (E33 F) 0 [] (bodyOf Tryd.f33) [] (mkSt (rng 2) cA33 cT33 x y) (kFn (E33 F) 0 Tryd.f33.results.toList cB33 cU33 fun p q=>some (p,q)) =
  T33c F x.1 x.2.1 (fun z=>some ((z.1,z.2,()),())):=by kernel_rfl
theorem ok33 (F:Nat):Sound Tryd.prog cfg 33 (ct33 F):=
 mkC_ok (E:=E33 F) (lp:=[]) (code:=bodyOf Tryd.f33) Tryd.func33 rfl Tryd.ntmps33 rfl rfl cok (cts33 F) mixed trivial (by kernel_rfl) (fun x y k=>T33c F x.1 x.2.1 k) (fun x y k=>T33n F x.1 x.2.1 k) (eq33 F)
def ord16:Nat->List (Tag×Nat)
 | _=>[]
def al16:Nat->Option Nat
 | _=>none
def ms16:Nat->Option (List (Option Tag×Nat×List Nat))
 | _=>none
def E16 (F:Nat):Ev:=⟨cfg,8,ctOf [(33,ct33 F)],ord16,ctOf [],al16,ms16⟩
theorem cts16 (F:Nat):CtsOk Tryd.prog (E16 F):=cts_of (l:=[(33,ct33 F)]) (l':=[]) rfl rfl ⟨⟨ok33 F,_,Tryd.func33,rfl,rfl⟩,trivial⟩ trivial
def T16c (F:Nat) (p0:List UInt8) {β:Type} (k:((List UInt8)×Int)->Option β):Option β:=
 (Option.bind (T33 F p0 ([112,114,105,110,116]:List UInt8)) fun z2=>(k (z2.1,z2.2)))
def T16 (F:Nat) (p0:List UInt8):Option ((List UInt8)×Int):=T16c F p0 some
theorem T16n (F:Nat) (p0:List UInt8) {β:Type} (k:((List UInt8)×Int)->Option β):T16c F p0 k=(T16 F p0).bind k:=by
 simp only [T16,T16c,Option.bind_assoc,cond_bind,Option.bind_some,Option.bind_none,elimS_bind]
abbrev cA16:List Sh:=[.str]
abbrev cB16:List Sh:=[.str,.i]
abbrev cT16:List TSh:=[]
abbrev cU16:List TSh:=[]
def ct16 (F:Nat):Ct:=mkC 0 cA16 cT16 cB16 cU16 (fun x y=>T16 F x.1) (fun x y (z:(List UInt8)×Int)=>((z.1,z.2,()),()))
theorem eq16 (F:Nat) (x:dens cA16) (y:tdens cT16):sev (E16 F) 0 [] (bodyOf Tryd.f16) [] (mkSt (rng 1) cA16 cT16 x y) (kFn (E16 F) 0 Tryd.f16.results.toList cB16 cU16 fun p q=>some (p,q)) =
  T16c F x.1 (fun z=>some ((z.1,z.2,()),())):=by kernel_rfl
theorem ok16 (F:Nat):Sound Tryd.prog cfg 16 (ct16 F):=
 mkC_ok (E:=E16 F) (lp:=[]) (code:=bodyOf Tryd.f16) Tryd.func16 rfl Tryd.ntmps16 rfl rfl cok (cts16 F) mixed trivial (by kernel_rfl) (fun x y k=>T16c F x.1 k) (fun x y k=>T16n F x.1 k) (eq16 F)
def ord103:Nat->List (Tag×Nat)
 | 5=>[(.p,0),(.r,1),(.p,2),(.p,3),(.p,4),(.p,5),(.r,6),(.p,7),(.p,8),(.p,9),(.p,10),(.r,11),(.p,12),(.p,13),(.p,14)]
 | _=>[]
def al103:Nat->Option Nat
 | _=>none
def ms103:Nat->Option (List (Option Tag×Nat×List Nat))
 | _=>none
def E103 (F:Nat):Ev:=⟨cfg,35,ctOf [(59,ct59 F)],ord103,ctOf [],al103,ms103⟩
theorem cts103 (F:Nat):CtsOk Tryd.prog (E103 F):=cts_of (l:=[(59,ct59 F)]) (l':=[]) rfl rfl ⟨⟨ok59 F,_,Tryd.func59,rfl,rfl⟩,trivial⟩ trivial
def L103_2c (F:Nat) (y28:List (Int×(List UInt8)×Unit)) (y29:List (Int×(List UInt8)×Unit)) (y30:Int) (y31:Int) (y32:List Int) {β:Type} (kA:(Int×(List Int))->Option β) (kO:((List Int))->Option β) (kR:Bool->Option β):Option β:=
 (bif (decide (y31 < y30)) then (Option.bind (ix y29 y31) fun x36=>(Option.bind (ix y28 (0:Int)) fun x37=>(bif ((x36.2.1.length:Int) != (x37.2.1.length:Int)) then (kR false) else (bif (decide ((1024:Int) < (x36.2.1.length:Int))) then (kR false) else (Option.bind (gapp y32 ([x36.1]:List Int)) fun x38=>(kA ((w64 (y31 + (1:Int))),x38))))))) else (kO y32))
def L103_2 (F:Nat) (y28:List (Int×(List UInt8)×Unit)) (y29:List (Int×(List UInt8)×Unit)) (y30:Int) (y31:Int) (y32:List Int):Option ((Int×(List Int)) ⊕ (((List Int)) ⊕ (Bool))):=L103_2c F y28 y29 y30 y31 y32 (fun s=>some (.inl s)) (fun z=>some (.inr (.inl z))) (fun z=>some (.inr (.inr z)))
theorem L103_2n (F:Nat) (y28:List (Int×(List UInt8)×Unit)) (y29:List (Int×(List UInt8)×Unit)) (y30:Int) (y31:Int) (y32:List Int) {β:Type} (kA:(Int×(List Int))->Option β) (kO:((List Int))->Option β) (kR:Bool->Option β):L103_2c F y28 y29 y30 y31 y32 kA kO kR=(L103_2 F y28 y29 y30 y31 y32).bind (elimS kA (elimS kO kR)):=by
 simp only [L103_2,L103_2c,Option.bind_assoc,cond_bind,Option.bind_some,Option.bind_none,elimS_l,elimS_r,elimS_bind]
abbrev sA103_2:List Sh:=[(.ro (.pr .i (.pr (.sl .u8) .un))),(.rw 0),(.ro (.pr .i (.pr (.sl .u8) .un))),.i,.i]
abbrev sAp1103_2:List Sh:=[(.rw 0)]
abbrev sAp2103_2:List Sh:=[.bo]
abbrev sT103_2:List TSh:=[.row 3 .i]
abbrev sTp1103_2:List TSh:=[.row 3 .i]
abbrev sTp2103_2:List TSh:=[]
def lc103_2 (F:Nat):Lc:=mkR [0,3,6,7,8] sA103_2 sT103_2 [3] sAp1103_2 sTp1103_2 [2] sAp2103_2 sTp2103_2 F (fun x y (s:Int×(List Int))=>L103_2 F x.1 x.2.2.1 x.2.2.2.1 s.1 s.2) (fun x y=>(x.2.2.2.2.1,y.1)) (fun x y (z:(List Int))=>(((),()),(z,()))) (fun x y (z:Bool)=>((z,()),()))
theorem le103_2 (F:Nat) (x:dens sA103_2) (y:tdens sT103_2) (s:Int×(List Int)):sev (E103 F) 0 [] (cAt (bodyOf Tryd.f103) (0 :: 0 :: [1,0,1,1])) (0 :: 0 :: [1,0,1,1]) (mkSt [0,3,6,7,8] sA103_2 sT103_2 (x.1,(),x.2.2.1,x.2.2.2.1,s.1,()) (s.2,())) (kLoop 0 [0,3,6,7,8] sA103_2 sT103_2 [3] sAp1103_2 sTp1103_2 [2] sAp2103_2 sTp2103_2 0 (fun x y=>some (.inl (x,y))) (fun x y=>some (.inr (.inl (x,y)))) (fun x y=>some (.inr (.inr (x,y))))) =
  L103_2c (β:=Full sA103_2 sT103_2 sAp1103_2 sTp1103_2 sAp2103_2 sTp2103_2) F x.1 x.2.2.1 x.2.2.2.1 s.1 s.2 (fun s=>some (.inl ((x.1,(),x.2.2.1,x.2.2.2.1,s.1,()),(s.2,())))) (fun z=>some (.inr (.inl (((),()),(z,()))))) (fun z=>some (.inr (.inr ((z,()),())))):=by kernel_rfl
theorem lo103_2 (F:Nat):LcOk Tryd.prog (E103 F) 0 (lc103_2 F) (cAt (bodyOf Tryd.f103) [1,0,1,1]):=
 mkR_ok (lp:=[]) (id:=0) (b:=cAt (bodyOf Tryd.f103) (0 :: 0 :: [1,0,1,1])) cok (cts103 F) mixed trivial (by kernel_rfl) (by kernel_rfl) (fun x y s=>(x.1,(),x.2.2.1,x.2.2.2.1,s.1,())) (fun x y s=>(s.2,())) (fun x y=>rfl) (fun x y=>rfl) (fun x y s kA kO kR=>L103_2c F x.1 x.2.2.1 x.2.2.2.1 s.1 s.2 kA kO kR) (fun x y s kA kO kR=>L103_2n F x.1 x.2.2.1 x.2.2.2.1 s.1 s.2 kA kO kR) (le103_2 F)
def T103c (F:Nat) (p0:List (Int×(List UInt8)×Unit)) {β:Type} (k:Bool->Option β):Option β:=
 (Option.bind (iter (fun s=>L103_2 F p0 p0 (p0.length:Int) s.1 s.2) F ((0:Int),([]:List Int))) fun z39=>elimS (fun z39=>(Option.bind (T59 F z39) fun z40=>(k z40))) (fun z39=>(k z39)) z39)
def T103 (F:Nat) (p0:List (Int×(List UInt8)×Unit)):Option (Bool):=T103c F p0 some
theorem T103n (F:Nat) (p0:List (Int×(List UInt8)×Unit)) {β:Type} (k:Bool->Option β):T103c F p0 k=(T103 F p0).bind k:=by
 simp only [T103,T103c,Option.bind_assoc,cond_bind,Option.bind_some,Option.bind_none,elimS_bind]
abbrev cA103:List Sh:=[(.ro (.pr .i (.pr (.sl .u8) .un)))]
abbrev cB103:List Sh:=[.bo]
abbrev cT103:List TSh:=[]
abbrev cU103:List TSh:=[]
def ct103 (F:Nat):Ct:=mkC 0 cA103 cT103 cB103 cU103 (fun x y=>T103 F x.1) (fun x y (z:Bool)=>((z,()),()))
theorem eq103 (F:Nat) (x:dens cA103) (y:tdens cT103):sev (E103 F) 0 [([1,0,1,1],lc103_2 F)] (bodyOf Tryd.f103) [] (mkSt (rng 1) cA103 cT103 x y) (kFn (E103 F) 0 Tryd.f103.results.toList cB103 cU103 fun p q=>some (p,q)) =
  T103c F x.1 (fun z=>some ((z,()),())):=by kernel_rfl
theorem ok103 (F:Nat):Sound Tryd.prog cfg 103 (ct103 F):=
 mkC_ok (E:=E103 F) (lp:=[([1,0,1,1],lc103_2 F)]) (code:=bodyOf Tryd.f103) Tryd.func103 rfl Tryd.ntmps103 rfl rfl cok (cts103 F) mixed ⟨lo103_2 F,trivial⟩ (by kernel_rfl) (fun x y k=>T103c F x.1 k) (fun x y k=>T103n F x.1 k) (eq103 F)
def ord104:Nat->List (Tag×Nat)
 | _=>[]
def al104:Nat->Option Nat
 | _=>none
def ms104:Nat->Option (List (Option Tag×Nat×List Nat))
 | _=>none
def E104 (F:Nat):Ev:=⟨cfg,9,ctOf [],ord104,ctOf [],al104,ms104⟩
theorem cts104 (F:Nat):CtsOk Tryd.prog (E104 F):=cts_of (l:=[]) (l':=[]) rfl rfl trivial trivial
def T104c (F:Nat) (p0:Int) {β:Type} (k:Bool->Option β):Option β:=
 (bif (decide ((1:Int)≤p0)) then (k (decide (p0≤(16:Int)))) else (k false))
def T104 (F:Nat) (p0:Int):Option (Bool):=T104c F p0 some
theorem T104n (F:Nat) (p0:Int) {β:Type} (k:Bool->Option β):T104c F p0 k=(T104 F p0).bind k:=by
 simp only [T104,T104c,Option.bind_assoc,cond_bind,Option.bind_some,Option.bind_none,elimS_bind]
abbrev cA104:List Sh:=[.i]
abbrev cB104:List Sh:=[.bo]
abbrev cT104:List TSh:=[]
abbrev cU104:List TSh:=[]
def ct104 (F:Nat):Ct:=mkC 0 cA104 cT104 cB104 cU104 (fun x y=>T104 F x.1) (fun x y (z:Bool)=>((z,()),()))
theorem eq104 (F:Nat) (x:dens cA104) (y:tdens cT104):sev (E104 F) 0 [] (bodyOf Tryd.f104) [] (mkSt (rng 1) cA104 cT104 x y) (kFn (E104 F) 0 Tryd.f104.results.toList cB104 cU104 fun p q=>some (p,q)) =
  T104c F x.1 (fun z=>some ((z,()),())):=by kernel_rfl
theorem ok104 (F:Nat):Sound Tryd.prog cfg 104 (ct104 F):=
 mkC_ok (E:=E104 F) (lp:=[]) (code:=bodyOf Tryd.f104) Tryd.func104 rfl Tryd.ntmps104 rfl rfl cok (cts104 F) mixed trivial (by kernel_rfl) (fun x y k=>T104c F x.1 k) (fun x y k=>T104n F x.1 k) (eq104 F)
def ord115:Nat->List (Tag×Nat)
 | _=>[]
def al115:Nat->Option Nat
 | _=>none
def ms115:Nat->Option (List (Option Tag×Nat×List Nat))
 | _=>none
def E115 (F:Nat):Ev:=⟨cfg,17,ctOf [(106,ct106 F)],ord115,ctOf [],al115,ms115⟩
theorem cts115 (F:Nat):CtsOk Tryd.prog (E115 F):=cts_of (l:=[(106,ct106 F)]) (l':=[]) rfl rfl ⟨⟨ok106 F,_,Tryd.func106,rfl,rfl⟩,trivial⟩ trivial
def L115_2c (F:Nat) (y9:UInt8) (y10:UInt8) (y11:Int) {β:Type} (kA:(UInt8×UInt8×Int)->Option β) (kO:UInt8->Option β):Option β:=
 (bif (decide (y11 < (7:Int))) then (Option.bind (T106 F y9 y9) fun z14=>(Option.bind (T106 F y10 z14) fun z15=>(kA (z14,z15,(w64 (y11 + (1:Int))))))) else (kO y10))
def L115_2 (F:Nat) (y9:UInt8) (y10:UInt8) (y11:Int):Option ((UInt8×UInt8×Int) ⊕ (UInt8)):=L115_2c F y9 y10 y11 (fun s=>some (.inl s)) (fun z=>some (.inr z))
theorem L115_2n (F:Nat) (y9:UInt8) (y10:UInt8) (y11:Int) {β:Type} (kA:(UInt8×UInt8×Int)->Option β) (kO:UInt8->Option β):L115_2c F y9 y10 y11 kA kO=(L115_2 F y9 y10 y11).bind (elimS kA kO):=by
 simp only [L115_2,L115_2c,Option.bind_assoc,cond_bind,Option.bind_some,Option.bind_none,elimS_l,elimS_r,elimS_bind]
abbrev sA115_2:List Sh:=[.u8,.u8,.i]
abbrev sAp1115_2:List Sh:=[.u8]
abbrev sT115_2:List TSh:=[]
abbrev sTp1115_2:List TSh:=[]
def lc115_2 (F:Nat):Lc:=mkL [0,4,7] sA115_2 sT115_2 [4] sAp1115_2 sTp1115_2 F (fun x y (s:UInt8×UInt8×Int)=>L115_2 F s.1 s.2.1 s.2.2) (fun x y=>(x.1,x.2.1,x.2.2.1)) (fun x y (z:UInt8)=>((z,()),()))
theorem le115_2 (F:Nat) (x:dens sA115_2) (y:tdens sT115_2) (s:UInt8×UInt8×Int):sev (E115 F) 0 [] (cAt (bodyOf Tryd.f115) (0 :: 0 :: [1,0,1,1,1])) (0 :: 0 :: [1,0,1,1,1]) (mkSt [0,4,7] sA115_2 sT115_2 (s.1,s.2.1,s.2.2,()) ()) (kLoop 0 [0,4,7] sA115_2 sT115_2 [4] sAp1115_2 sTp1115_2 [] [] [] 0 (fun x y=>some (.inl (x,y))) (fun x y=>some (.inr (.inl (x,y)))) (fun x y=>some (.inr (.inr (x,y))))) =
  L115_2c (β:=Full sA115_2 sT115_2 sAp1115_2 sTp1115_2 [] []) F s.1 s.2.1 s.2.2 (fun s=>some (.inl ((s.1,s.2.1,s.2.2,()),()))) (fun z=>some (.inr (.inl ((z,()),())))):=by kernel_rfl
theorem lo115_2 (F:Nat):LcOk Tryd.prog (E115 F) 0 (lc115_2 F) (cAt (bodyOf Tryd.f115) [1,0,1,1,1]):=
 mkL_ok (lp:=[]) (id:=0) (b:=cAt (bodyOf Tryd.f115) (0 :: 0 :: [1,0,1,1,1])) cok (cts115 F) mixed trivial (by kernel_rfl) (by kernel_rfl) (fun x y s=>(s.1,s.2.1,s.2.2,())) (fun x y s=>()) (fun x y=>rfl) (fun x y=>rfl) (fun x y s kA kO=>L115_2c F s.1 s.2.1 s.2.2 kA kO) (fun x y s kA kO=>L115_2n F s.1 s.2.1 s.2.2 kA kO) (le115_2 F)
def T115c (F:Nat) (p0:UInt8) {β:Type} (k:(UInt8×Int)->Option β):Option β:=
 (bif (p0 == (UInt8.ofNat 0)) then (k ((UInt8.ofNat 0),(1:Int))) else (Option.bind (iter (fun s=>L115_2 F s.1 s.2.1 s.2.2) F (p0,(UInt8.ofNat 1),(0:Int))) fun z16=>(k (z16,(0:Int)))))
def T115 (F:Nat) (p0:UInt8):Option (UInt8×Int):=T115c F p0 some
theorem T115n (F:Nat) (p0:UInt8) {β:Type} (k:(UInt8×Int)->Option β):T115c F p0 k=(T115 F p0).bind k:=by
 simp only [T115,T115c,Option.bind_assoc,cond_bind,Option.bind_some,Option.bind_none,elimS_bind]
abbrev cA115:List Sh:=[.u8]
abbrev cB115:List Sh:=[.u8,.i]
abbrev cT115:List TSh:=[]
abbrev cU115:List TSh:=[]
def ct115 (F:Nat):Ct:=mkC 0 cA115 cT115 cB115 cU115 (fun x y=>T115 F x.1) (fun x y (z:UInt8×Int)=>((z.1,z.2,()),()))
theorem eq115 (F:Nat) (x:dens cA115) (y:tdens cT115):sev (E115 F) 0 [([1,0,1,1,1],lc115_2 F)] (bodyOf Tryd.f115) [] (mkSt (rng 1) cA115 cT115 x y) (kFn (E115 F) 0 Tryd.f115.results.toList cB115 cU115 fun p q=>some (p,q)) =
  T115c F x.1 (fun z=>some ((z.1,z.2,()),())):=by kernel_rfl
theorem ok115 (F:Nat):Sound Tryd.prog cfg 115 (ct115 F):=
 mkC_ok (E:=E115 F) (lp:=[([1,0,1,1,1],lc115_2 F)]) (code:=bodyOf Tryd.f115) Tryd.func115 rfl Tryd.ntmps115 rfl rfl cok (cts115 F) mixed ⟨lo115_2 F,trivial⟩ (by kernel_rfl) (fun x y k=>T115c F x.1 k) (fun x y k=>T115n F x.1 k) (eq115 F)
def ord107:Nat->List (Tag×Nat)
 | _=>[]
def al107:Nat->Option Nat
 | _=>none
def ms107:Nat->Option (List (Option Tag×Nat×List Nat))
 | _=>none
def E107 (F:Nat):Ev:=⟨cfg,19,ctOf [(115,ct115 F),(106,ct106 F)],ord107,ctOf [],al107,ms107⟩
theorem cts107 (F:Nat):CtsOk Tryd.prog (E107 F):=cts_of (l:=[(115,ct115 F),(106,ct106 F)]) (l':=[]) rfl rfl ⟨⟨ok115 F,_,Tryd.func115,rfl,rfl⟩,⟨⟨ok106 F,_,Tryd.func106,rfl,rfl⟩,trivial⟩⟩ trivial
def T107c (F:Nat) (p0:UInt8) (p1:UInt8) {β:Type} (k:(UInt8×Int)->Option β):Option β:=
 (Option.bind (T115 F p1) fun z3=>(bif (z3.2 != (0:Int)) then (k ((UInt8.ofNat 0),z3.2)) else (Option.bind (T106 F p0 z3.1) fun z4=>(k (z4,(0:Int))))))
def T107 (F:Nat) (p0:UInt8) (p1:UInt8):Option (UInt8×Int):=T107c F p0 p1 some
theorem T107n (F:Nat) (p0:UInt8) (p1:UInt8) {β:Type} (k:(UInt8×Int)->Option β):T107c F p0 p1 k=(T107 F p0 p1).bind k:=by
 simp only [T107,T107c,Option.bind_assoc,cond_bind,Option.bind_some,Option.bind_none,elimS_bind]
abbrev cA107:List Sh:=[.u8,.u8]
abbrev cB107:List Sh:=[.u8,.i]
abbrev cT107:List TSh:=[]
abbrev cU107:List TSh:=[]
def ct107 (F:Nat):Ct:=mkC 0 cA107 cT107 cB107 cU107 (fun x y=>T107 F x.1 x.2.1) (fun x y (z:UInt8×Int)=>((z.1,z.2,()),()))
theorem eq107 (F:Nat) (x:dens cA107) (y:tdens cT107):sev (E107 F) 0 [] (bodyOf Tryd.f107) [] (mkSt (rng 2) cA107 cT107 x y) (kFn (E107 F) 0 Tryd.f107.results.toList cB107 cU107 fun p q=>some (p,q)) =
  T107c F x.1 x.2.1 (fun z=>some ((z.1,z.2,()),())):=by kernel_rfl
theorem ok107 (F:Nat):Sound Tryd.prog cfg 107 (ct107 F):=
 mkC_ok (E:=E107 F) (lp:=[]) (code:=bodyOf Tryd.f107) Tryd.func107 rfl Tryd.ntmps107 rfl rfl cok (cts107 F) mixed trivial (by kernel_rfl) (fun x y k=>T107c F x.1 x.2.1 k) (fun x y k=>T107n F x.1 x.2.1 k) (eq107 F)
def ord90:Nat->List (Tag×Nat)
 | _=>[]
def al90:Nat->Option Nat
 | _=>none
def ms90:Nat->Option (List (Option Tag×Nat×List Nat))
 | _=>none
def E90 (F:Nat):Ev:=⟨cfg,69,ctOf [(106,ct106 F),(107,ct107 F),(79,ct79 F)],ord90,ctOf [],al90,ms90⟩
theorem cts90 (F:Nat):CtsOk Tryd.prog (E90 F):=cts_of (l:=[(106,ct106 F),(107,ct107 F),(79,ct79 F)]) (l':=[]) rfl rfl ⟨⟨ok106 F,_,Tryd.func106,rfl,rfl⟩,⟨⟨ok107 F,_,Tryd.func107,rfl,rfl⟩,⟨⟨ok79 F,_,Tryd.func79,rfl,rfl⟩,trivial⟩⟩⟩ trivial
def L90_4c (F:Nat) (y52:Int) (y53:Int) (y59:List (Int×(List UInt8)×Unit)) (y60:Int) (y63:Int) (y54:UInt8) (y55:UInt8) (y61:Int) {β:Type} (kA:(UInt8×UInt8×Int)->Option β) (kO:(UInt8×UInt8)->Option β):Option β:=
 (bif (decide (y61 < y60)) then (Option.bind (ix y59 y61) fun x68=>(bif (y61 != y53) then (Option.bind (T106 F y54 (UInt8.ofInt (ixor y52 x68.1))) fun z69=>(Option.bind (T106 F y55 (UInt8.ofInt (ixor y63 x68.1))) fun z70=>(kA (z69,z70,(w64 (y61 + (1:Int))))))) else (kA (y54,y55,(w64 (y61 + (1:Int))))))) else (kO (y54,y55)))
def L90_4 (F:Nat) (y52:Int) (y53:Int) (y59:List (Int×(List UInt8)×Unit)) (y60:Int) (y63:Int) (y54:UInt8) (y55:UInt8) (y61:Int):Option ((UInt8×UInt8×Int) ⊕ (UInt8×UInt8)):=L90_4c F y52 y53 y59 y60 y63 y54 y55 y61 (fun s=>some (.inl s)) (fun z=>some (.inr z))
theorem L90_4n (F:Nat) (y52:Int) (y53:Int) (y59:List (Int×(List UInt8)×Unit)) (y60:Int) (y63:Int) (y54:UInt8) (y55:UInt8) (y61:Int) {β:Type} (kA:(UInt8×UInt8×Int)->Option β) (kO:(UInt8×UInt8)->Option β):L90_4c F y52 y53 y59 y60 y63 y54 y55 y61 kA kO=(L90_4 F y52 y53 y59 y60 y63 y54 y55 y61).bind (elimS kA kO):=by
 simp only [L90_4,L90_4c,Option.bind_assoc,cond_bind,Option.bind_some,Option.bind_none,elimS_l,elimS_r,elimS_bind]
abbrev sA90_4:List Sh:=[(.ro (.pr .i (.pr (.sl .u8) .un))),.i,(.rw 0),.i,(.pt 1 []),.u8,.u8,(.ro (.pr .i (.pr (.sl .u8) .un))),.i,.i,(.ro (.pr .i (.pr (.sl .u8) .un))),.i,.i]
abbrev sAp190_4:List Sh:=[(.ro (.pr .i (.pr (.sl .u8) .un))),.i,(.rw 0),(.pt 1 []),.u8,.u8,(.ro (.pr .i (.pr (.sl .u8) .un))),.i,.i]
abbrev sT90_4:List TSh:=[.row 5 .u8,.blk 30 (.pr .i (.pr (.ro .u8) .un))]
abbrev sTp190_4:List TSh:=[.row 5 .u8,.blk 30 (.pr .i (.pr (.ro .u8) .un))]
def lc90_4 (F:Nat):Lc:=mkL [0,1,5,6,7,8,9,20,21,22,27,28,29] sA90_4 sT90_4 [0,1,5,7,8,9,20,21,22] sAp190_4 sTp190_4 F (fun x y (s:UInt8×UInt8×Int)=>L90_4 F x.2.1 x.2.2.2.1 x.2.2.2.2.2.2.2.2.2.2.1 x.2.2.2.2.2.2.2.2.2.2.2.1 y.2.1.1 s.1 s.2.1 s.2.2) (fun x y=>(x.2.2.2.2.2.1,x.2.2.2.2.2.2.1,x.2.2.2.2.2.2.2.2.2.2.2.2.1)) (fun x y (z:UInt8×UInt8)=>((x.1,x.2.1,(),(),z.1,z.2,x.2.2.2.2.2.2.2.1,x.2.2.2.2.2.2.2.2.1,x.2.2.2.2.2.2.2.2.2.1,()),(y.1,(y.2.1.1,y.2.1.2.1,()),())))
theorem le90_4 (F:Nat) (x:dens sA90_4) (y:tdens sT90_4) (s:UInt8×UInt8×Int):sev (E90 F) 0 [] (cAt (bodyOf Tryd.f90) (0 :: 0 :: [1,0,1,1,0,0,1,1,0,0,1,0,1,1])) (0 :: 0 :: [1,0,1,1,0,0,1,1,0,0,1,0,1,1]) (mkSt [0,1,5,6,7,8,9,20,21,22,27,28,29] sA90_4 sT90_4 (x.1,x.2.1,(),x.2.2.2.1,(),s.1,s.2.1,x.2.2.2.2.2.2.2.1,x.2.2.2.2.2.2.2.2.1,x.2.2.2.2.2.2.2.2.2.1,x.2.2.2.2.2.2.2.2.2.2.1,x.2.2.2.2.2.2.2.2.2.2.2.1,s.2.2,()) (y.1,(y.2.1.1,y.2.1.2.1,()),())) (kLoop 0 [0,1,5,6,7,8,9,20,21,22,27,28,29] sA90_4 sT90_4 [0,1,5,7,8,9,20,21,22] sAp190_4 sTp190_4 [] [] [] 2 (fun x y=>some (.inl (x,y))) (fun x y=>some (.inr (.inl (x,y)))) (fun x y=>some (.inr (.inr (x,y))))) =
  L90_4c (β:=Full sA90_4 sT90_4 sAp190_4 sTp190_4 [] []) F x.2.1 x.2.2.2.1 x.2.2.2.2.2.2.2.2.2.2.1 x.2.2.2.2.2.2.2.2.2.2.2.1 y.2.1.1 s.1 s.2.1 s.2.2 (fun s=>some (.inl ((x.1,x.2.1,(),x.2.2.2.1,(),s.1,s.2.1,x.2.2.2.2.2.2.2.1,x.2.2.2.2.2.2.2.2.1,x.2.2.2.2.2.2.2.2.2.1,x.2.2.2.2.2.2.2.2.2.2.1,x.2.2.2.2.2.2.2.2.2.2.2.1,s.2.2,()),(y.1,(y.2.1.1,y.2.1.2.1,()),())))) (fun z=>some (.inr (.inl ((x.1,x.2.1,(),(),z.1,z.2,x.2.2.2.2.2.2.2.1,x.2.2.2.2.2.2.2.2.1,x.2.2.2.2.2.2.2.2.2.1,()),(y.1,(y.2.1.1,y.2.1.2.1,()),()))))):=by kernel_rfl
theorem lo90_4 (F:Nat):LcOk Tryd.prog (E90 F) 0 (lc90_4 F) (cAt (bodyOf Tryd.f90) [1,0,1,1,0,0,1,1,0,0,1,0,1,1]):=
 mkL_ok (lp:=[]) (id:=2) (b:=cAt (bodyOf Tryd.f90) (0 :: 0 :: [1,0,1,1,0,0,1,1,0,0,1,0,1,1])) cok (cts90 F) mixed trivial (by kernel_rfl) (by kernel_rfl) (fun x y s=>(x.1,x.2.1,(),x.2.2.2.1,(),s.1,s.2.1,x.2.2.2.2.2.2.2.1,x.2.2.2.2.2.2.2.2.1,x.2.2.2.2.2.2.2.2.2.1,x.2.2.2.2.2.2.2.2.2.2.1,x.2.2.2.2.2.2.2.2.2.2.2.1,s.2.2,())) (fun x y s=>(y.1,(y.2.1.1,y.2.1.2.1,()),())) (fun x y=>rfl) (fun x y=>rfl) (fun x y s kA kO=>L90_4c F x.2.1 x.2.2.2.1 x.2.2.2.2.2.2.2.2.2.2.1 x.2.2.2.2.2.2.2.2.2.2.2.1 y.2.1.1 s.1 s.2.1 s.2.2 kA kO) (fun x y s kA kO=>L90_4n F x.2.1 x.2.2.2.1 x.2.2.2.2.2.2.2.2.2.2.1 x.2.2.2.2.2.2.2.2.2.2.2.1 y.2.1.1 s.1 s.2.1 s.2.2 kA kO) (le90_4 F)
def L90_3c (F:Nat) (y40:List (Int×(List UInt8)×Unit)) (y41:Int) (y42:List (Int×(List UInt8)×Unit)) (y43:Int) (y44:Int) (y45:List UInt8) {β:Type} (kA:(Int×(List UInt8))->Option β) (kO:((List UInt8))->Option β):Option β:=
 (bif (decide (y44 < y43)) then (Option.bind (ix y42 y44) fun x50=>(Option.bind (iter (fun s=>L90_4 F y41 y44 y40 (y40.length:Int) x50.1 s.1 s.2.1 s.2.2) F ((UInt8.ofNat 1),(UInt8.ofNat 1),(0:Int))) fun z71=>(Option.bind (T107 F z71.1 z71.2) fun z72=>(Option.bind (T79 F y45 x50.2.1 z72.1) fun z73=>(kA ((w64 (y44 + (1:Int))),z73.2)))))) else (kO y45))
def L90_3 (F:Nat) (y40:List (Int×(List UInt8)×Unit)) (y41:Int) (y42:List (Int×(List UInt8)×Unit)) (y43:Int) (y44:Int) (y45:List UInt8):Option ((Int×(List UInt8)) ⊕ ((List UInt8))):=L90_3c F y40 y41 y42 y43 y44 y45 (fun s=>some (.inl s)) (fun z=>some (.inr z))
theorem L90_3n (F:Nat) (y40:List (Int×(List UInt8)×Unit)) (y41:Int) (y42:List (Int×(List UInt8)×Unit)) (y43:Int) (y44:Int) (y45:List UInt8) {β:Type} (kA:(Int×(List UInt8))->Option β) (kO:((List UInt8))->Option β):L90_3c F y40 y41 y42 y43 y44 y45 kA kO=(L90_3 F y40 y41 y42 y43 y44 y45).bind (elimS kA kO):=by
 simp only [L90_3,L90_3c,Option.bind_assoc,cond_bind,Option.bind_some,Option.bind_none,elimS_l,elimS_r,elimS_bind]
abbrev sA90_3:List Sh:=[(.ro (.pr .i (.pr (.sl .u8) .un))),.i,(.rw 0),(.ro (.pr .i (.pr (.sl .u8) .un))),.i,.i]
abbrev sAp190_3:List Sh:=[(.rw 0)]
abbrev sT90_3:List TSh:=[.row 5 .u8]
abbrev sTp190_3:List TSh:=[.row 5 .u8]
def lc90_3 (F:Nat):Lc:=mkL [0,1,5,20,21,22] sA90_3 sT90_3 [5] sAp190_3 sTp190_3 F (fun x y (s:Int×(List UInt8))=>L90_3 F x.1 x.2.1 x.2.2.2.1 x.2.2.2.2.1 s.1 s.2) (fun x y=>(x.2.2.2.2.2.1,y.1)) (fun x y (z:(List UInt8))=>(((),()),(z,())))
theorem le90_3 (F:Nat) (x:dens sA90_3) (y:tdens sT90_3) (s:Int×(List UInt8)):sev (E90 F) 0 [([1,0,1,1,0,0,1,1,0,0,1,0,1,1],lc90_4 F)] (cAt (bodyOf Tryd.f90) (0 :: 0 :: [1,0,1,1])) (0 :: 0 :: [1,0,1,1]) (mkSt [0,1,5,20,21,22] sA90_3 sT90_3 (x.1,x.2.1,(),x.2.2.2.1,x.2.2.2.2.1,s.1,()) (s.2,())) (kLoop 0 [0,1,5,20,21,22] sA90_3 sT90_3 [5] sAp190_3 sTp190_3 [] [] [] 0 (fun x y=>some (.inl (x,y))) (fun x y=>some (.inr (.inl (x,y)))) (fun x y=>some (.inr (.inr (x,y))))) =
  L90_3c (β:=Full sA90_3 sT90_3 sAp190_3 sTp190_3 [] []) F x.1 x.2.1 x.2.2.2.1 x.2.2.2.2.1 s.1 s.2 (fun s=>some (.inl ((x.1,x.2.1,(),x.2.2.2.1,x.2.2.2.2.1,s.1,()),(s.2,())))) (fun z=>some (.inr (.inl (((),()),(z,()))))):=by kernel_rfl
theorem lo90_3 (F:Nat):LcOk Tryd.prog (E90 F) 0 (lc90_3 F) (cAt (bodyOf Tryd.f90) [1,0,1,1]):=
 mkL_ok (lp:=[([1,0,1,1,0,0,1,1,0,0,1,0,1,1],lc90_4 F)]) (id:=0) (b:=cAt (bodyOf Tryd.f90) (0 :: 0 :: [1,0,1,1])) cok (cts90 F) mixed ⟨lo90_4 F,trivial⟩ (by kernel_rfl) (by kernel_rfl) (fun x y s=>(x.1,x.2.1,(),x.2.2.2.1,x.2.2.2.2.1,s.1,())) (fun x y s=>(s.2,())) (fun x y=>rfl) (fun x y=>rfl) (fun x y s kA kO=>L90_3c F x.1 x.2.1 x.2.2.2.1 x.2.2.2.2.1 s.1 s.2 kA kO) (fun x y s kA kO=>L90_3n F x.1 x.2.1 x.2.2.2.1 x.2.2.2.2.1 s.1 s.2 kA kO) (le90_3 F)
def T90c (F:Nat) (p0:List (Int×(List UInt8)×Unit)) (p1:Int) {β:Type} (k:((List UInt8))->Option β):Option β:=
 (Option.bind (ix p0 (0:Int)) fun x38=>(Option.bind (gmake (0:UInt8) (x38.2.1.length:Int) (x38.2.1.length:Int)) fun x39=>(Option.bind (iter (fun s=>L90_3 F p0 p1 p0 (p0.length:Int) s.1 s.2) F ((0:Int),x39)) fun z74=>(k z74))))
def T90 (F:Nat) (p0:List (Int×(List UInt8)×Unit)) (p1:Int):Option ((List UInt8)):=T90c F p0 p1 some
theorem T90n (F:Nat) (p0:List (Int×(List UInt8)×Unit)) (p1:Int) {β:Type} (k:((List UInt8))->Option β):T90c F p0 p1 k=(T90 F p0 p1).bind k:=by
 simp only [T90,T90c,Option.bind_assoc,cond_bind,Option.bind_some,Option.bind_none,elimS_bind]
abbrev cA90:List Sh:=[(.ro (.pr .i (.pr (.sl .u8) .un))),.i]
abbrev cB90:List Sh:=[(.rw 0)]
abbrev cT90:List TSh:=[]
abbrev cU90:List TSh:=[.row 5 .u8]
def ct90 (F:Nat):Ct:=mkC 0 cA90 cT90 cB90 cU90 (fun x y=>T90 F x.1 x.2.1) (fun x y (z:(List UInt8))=>(((),()),(z,())))
theorem eq90 (F:Nat) (x:dens cA90) (y:tdens cT90):sev (E90 F) 0 [([1,0,1,1],lc90_3 F)] (bodyOf Tryd.f90) [] (mkSt (rng 2) cA90 cT90 x y) (kFn (E90 F) 0 Tryd.f90.results.toList cB90 cU90 fun p q=>some (p,q)) =
  T90c F x.1 x.2.1 (fun z=>some (((),()),(z,()))):=by kernel_rfl
theorem ok90 (F:Nat):Sound Tryd.prog cfg 90 (ct90 F):=
 mkC_ok (E:=E90 F) (lp:=[([1,0,1,1],lc90_3 F)]) (code:=bodyOf Tryd.f90) Tryd.func90 rfl Tryd.ntmps90 rfl rfl cok (cts90 F) mixed ⟨lo90_3 F,trivial⟩ (by kernel_rfl) (fun x y k=>T90c F x.1 x.2.1 k) (fun x y k=>T90n F x.1 x.2.1 k) (eq90 F)
def ord113:Nat->List (Tag×Nat)
 | _=>[]
def al113:Nat->Option Nat
 | _=>none
def ms113:Nat->Option (List (Option Tag×Nat×List Nat))
 | _=>none
def E113 (F:Nat):Ev:=⟨cfg,10,ctOf [],ord113,ctOf [],al113,ms113⟩
theorem cts113 (F:Nat):CtsOk Tryd.prog (E113 F):=cts_of (l:=[]) (l':=[]) rfl rfl trivial trivial
def T113c (F:Nat) (p0:List UInt8) (p1:List UInt8) {β:Type} (k:Bool->Option β):Option β:=
 (k (p0 == p1))
def T113 (F:Nat) (p0:List UInt8) (p1:List UInt8):Option (Bool):=T113c F p0 p1 some
theorem T113n (F:Nat) (p0:List UInt8) (p1:List UInt8) {β:Type} (k:Bool->Option β):T113c F p0 p1 k=(T113 F p0 p1).bind k:=by
 simp only [T113,T113c,Option.bind_assoc,cond_bind,Option.bind_some,Option.bind_none,elimS_bind]
abbrev cA113:List Sh:=[(.ro .u8),(.ro .u8)]
abbrev cB113:List Sh:=[.bo]
abbrev cT113:List TSh:=[]
abbrev cU113:List TSh:=[]
def ct113 (F:Nat):Ct:=mkC 0 cA113 cT113 cB113 cU113 (fun x y=>T113 F x.1 x.2.1) (fun x y (z:Bool)=>((z,()),()))
theorem eq113 (F:Nat) (x:dens cA113) (y:tdens cT113):sev (E113 F) 0 [] (bodyOf Tryd.f113) [] (mkSt (rng 2) cA113 cT113 x y) (kFn (E113 F) 0 Tryd.f113.results.toList cB113 cU113 fun p q=>some (p,q)) =
  T113c F x.1 x.2.1 (fun z=>some ((z,()),())):=by kernel_rfl
theorem ok113 (F:Nat):Sound Tryd.prog cfg 113 (ct113 F):=
 mkC_ok (E:=E113 F) (lp:=[]) (code:=bodyOf Tryd.f113) Tryd.func113 rfl Tryd.ntmps113 rfl rfl cok (cts113 F) mixed trivial (by kernel_rfl) (fun x y k=>T113c F x.1 x.2.1 k) (fun x y k=>T113n F x.1 x.2.1 k) (eq113 F)
def ord105:Nat->List (Tag×Nat)
 | 4=>[(.p,0),(.p,1),(.p,2),(.p,3),(.p,4),(.p,5),(.p,6),(.r,7),(.p,9),(.p,10),(.p,11),(.p,12),(.c,13),(.w,8),(.b,14),(.p,15)]
 | _=>[]
def al105:Nat->Option Nat
 | _=>none
def ms105:Nat->Option (List (Option Tag×Nat×List Nat))
 | _=>none
def E105 (F:Nat):Ev:=⟨cfg,29,ctOf [(90,ct90 F),(113,ct113 F)],ord105,ctOf [],al105,ms105⟩
theorem cts105 (F:Nat):CtsOk Tryd.prog (E105 F):=cts_of (l:=[(90,ct90 F),(113,ct113 F)]) (l':=[]) rfl rfl ⟨⟨ok90 F,_,Tryd.func90,rfl,rfl⟩,⟨⟨ok113 F,_,Tryd.func113,rfl,rfl⟩,trivial⟩⟩ trivial
def L105_2c (F:Nat) (y15:List (Int×(List UInt8)×Unit)) (y16:Int) (y17:Int) {β:Type} (kA:Int->Option β) (kO:Unit->Option β) (kR:Bool->Option β):Option β:=
 (bif (decide (y17 < (y15.length:Int))) then (Option.bind (gsl y15 (0:Int) y16) fun x23=>(Option.bind (ix y15 y17) fun x24=>(Option.bind (ix y15 y17) fun x25=>(Option.bind (T90 F x23 x24.1) fun z26=>(Option.bind (T113 F z26 x25.2.1) fun z27=>(bif (!z27) then (kR false) else (kA (w64 (y17 + (1:Int)))))))))) else (kO ()))
def L105_2 (F:Nat) (y15:List (Int×(List UInt8)×Unit)) (y16:Int) (y17:Int):Option ((Int) ⊕ ((Unit) ⊕ (Bool))):=L105_2c F y15 y16 y17 (fun s=>some (.inl s)) (fun z=>some (.inr (.inl z))) (fun z=>some (.inr (.inr z)))
theorem L105_2n (F:Nat) (y15:List (Int×(List UInt8)×Unit)) (y16:Int) (y17:Int) {β:Type} (kA:Int->Option β) (kO:Unit->Option β) (kR:Bool->Option β):L105_2c F y15 y16 y17 kA kO kR=(L105_2 F y15 y16 y17).bind (elimS kA (elimS kO kR)):=by
 simp only [L105_2,L105_2c,Option.bind_assoc,cond_bind,Option.bind_some,Option.bind_none,elimS_l,elimS_r,elimS_bind]
abbrev sA105_2:List Sh:=[(.ro (.pr .i (.pr (.sl .u8) .un))),.i,.i]
abbrev sAp1105_2:List Sh:=[]
abbrev sAp2105_2:List Sh:=[.bo]
abbrev sT105_2:List TSh:=[]
abbrev sTp1105_2:List TSh:=[]
abbrev sTp2105_2:List TSh:=[]
def lc105_2 (F:Nat):Lc:=mkR [0,1,5] sA105_2 sT105_2 [] sAp1105_2 sTp1105_2 [4] sAp2105_2 sTp2105_2 F (fun x y (s:Int)=>L105_2 F x.1 x.2.1 s) (fun x y=>x.2.2.1) (fun x y (z:Unit)=>((),())) (fun x y (z:Bool)=>((z,()),()))
theorem le105_2 (F:Nat) (x:dens sA105_2) (y:tdens sT105_2) (s:Int):sev (E105 F) 0 [] (cAt (bodyOf Tryd.f105) (0 :: 0 :: [1,0,1])) (0 :: 0 :: [1,0,1]) (mkSt [0,1,5] sA105_2 sT105_2 (x.1,x.2.1,s,()) ()) (kLoop 0 [0,1,5] sA105_2 sT105_2 [] sAp1105_2 sTp1105_2 [4] sAp2105_2 sTp2105_2 0 (fun x y=>some (.inl (x,y))) (fun x y=>some (.inr (.inl (x,y)))) (fun x y=>some (.inr (.inr (x,y))))) =
  L105_2c (β:=Full sA105_2 sT105_2 sAp1105_2 sTp1105_2 sAp2105_2 sTp2105_2) F x.1 x.2.1 s (fun s=>some (.inl ((x.1,x.2.1,s,()),()))) (fun z=>some (.inr (.inl ((),())))) (fun z=>some (.inr (.inr ((z,()),())))):=by kernel_rfl
theorem lo105_2 (F:Nat):LcOk Tryd.prog (E105 F) 0 (lc105_2 F) (cAt (bodyOf Tryd.f105) [1,0,1]):=
 mkR_ok (lp:=[]) (id:=0) (b:=cAt (bodyOf Tryd.f105) (0 :: 0 :: [1,0,1])) cok (cts105 F) mixed trivial (by kernel_rfl) (by kernel_rfl) (fun x y s=>(x.1,x.2.1,s,())) (fun x y s=>()) (fun x y=>rfl) (fun x y=>rfl) (fun x y s kA kO kR=>L105_2c F x.1 x.2.1 s kA kO kR) (fun x y s kA kO kR=>L105_2n F x.1 x.2.1 s kA kO kR) (le105_2 F)
def T105c (F:Nat) (p0:List (Int×(List UInt8)×Unit)) (p1:Int) {β:Type} (k:Bool->Option β):Option β:=
 (Option.bind (iter (fun s=>L105_2 F p0 p1 s) F p1) fun z28=>elimS (fun z28=>(k true)) (fun z28=>(k z28)) z28)
def T105 (F:Nat) (p0:List (Int×(List UInt8)×Unit)) (p1:Int):Option (Bool):=T105c F p0 p1 some
theorem T105n (F:Nat) (p0:List (Int×(List UInt8)×Unit)) (p1:Int) {β:Type} (k:Bool->Option β):T105c F p0 p1 k=(T105 F p0 p1).bind k:=by
 simp only [T105,T105c,Option.bind_assoc,cond_bind,Option.bind_some,Option.bind_none,elimS_bind]
abbrev cA105:List Sh:=[(.ro (.pr .i (.pr (.sl .u8) .un))),.i]
abbrev cB105:List Sh:=[.bo]
abbrev cT105:List TSh:=[]
abbrev cU105:List TSh:=[]
def ct105 (F:Nat):Ct:=mkC 0 cA105 cT105 cB105 cU105 (fun x y=>T105 F x.1 x.2.1) (fun x y (z:Bool)=>((z,()),()))
theorem eq105 (F:Nat) (x:dens cA105) (y:tdens cT105):sev (E105 F) 0 [([1,0,1],lc105_2 F)] (bodyOf Tryd.f105) [] (mkSt (rng 2) cA105 cT105 x y) (kFn (E105 F) 0 Tryd.f105.results.toList cB105 cU105 fun p q=>some (p,q)) =
  T105c F x.1 x.2.1 (fun z=>some ((z,()),())):=by kernel_rfl
theorem ok105 (F:Nat):Sound Tryd.prog cfg 105 (ct105 F):=
 mkC_ok (E:=E105 F) (lp:=[([1,0,1],lc105_2 F)]) (code:=bodyOf Tryd.f105) Tryd.func105 rfl Tryd.ntmps105 rfl rfl cok (cts105 F) mixed ⟨lo105_2 F,trivial⟩ (by kernel_rfl) (fun x y k=>T105c F x.1 x.2.1 k) (fun x y k=>T105n F x.1 x.2.1 k) (eq105 F)
def ord89:Nat->List (Tag×Nat)
 | _=>[]
def al89:Nat->Option Nat
 | _=>none
def ms89:Nat->Option (List (Option Tag×Nat×List Nat))
 | _=>none
def E89 (F:Nat):Ev:=⟨cfg,21,ctOf [(103,ct103 F),(104,ct104 F),(105,ct105 F)],ord89,ctOf [],al89,ms89⟩
theorem cts89 (F:Nat):CtsOk Tryd.prog (E89 F):=cts_of (l:=[(103,ct103 F),(104,ct104 F),(105,ct105 F)]) (l':=[]) rfl rfl ⟨⟨ok103 F,_,Tryd.func103,rfl,rfl⟩,⟨⟨ok104 F,_,Tryd.func104,rfl,rfl⟩,⟨⟨ok105 F,_,Tryd.func105,rfl,rfl⟩,trivial⟩⟩⟩ trivial
def T89c (F:Nat) (p0:List (Int×(List UInt8)×Unit)) (p1:Int) {β:Type} (k:Int->Option β):Option β:=
 (Option.bind (T103 F p0) fun z4=>(bif (!z4) then (k (1:Int)) else (Option.bind (T104 F p1) fun z5=>(bif (!z5) then (k (1:Int)) else (bif (decide ((p0.length:Int) < p1)) then (k (10:Int)) else (Option.bind (T105 F p0 p1) fun z6=>(bif (!z6) then (k (13:Int)) else (k (0:Int)))))))))
def T89 (F:Nat) (p0:List (Int×(List UInt8)×Unit)) (p1:Int):Option (Int):=T89c F p0 p1 some
theorem T89n (F:Nat) (p0:List (Int×(List UInt8)×Unit)) (p1:Int) {β:Type} (k:Int->Option β):T89c F p0 p1 k=(T89 F p0 p1).bind k:=by
 simp only [T89,T89c,Option.bind_assoc,cond_bind,Option.bind_some,Option.bind_none,elimS_bind]
abbrev cA89:List Sh:=[(.ro (.pr .i (.pr (.sl .u8) .un))),.i]
abbrev cB89:List Sh:=[.i]
abbrev cT89:List TSh:=[]
abbrev cU89:List TSh:=[]
def ct89 (F:Nat):Ct:=mkC 0 cA89 cT89 cB89 cU89 (fun x y=>T89 F x.1 x.2.1) (fun x y (z:Int)=>((z,()),()))
theorem eq89 (F:Nat) (x:dens cA89) (y:tdens cT89):sev (E89 F) 0 [] (bodyOf Tryd.f89) [] (mkSt (rng 2) cA89 cT89 x y) (kFn (E89 F) 0 Tryd.f89.results.toList cB89 cU89 fun p q=>some (p,q)) =
  T89c F x.1 x.2.1 (fun z=>some ((z,()),())):=by kernel_rfl
theorem ok89 (F:Nat):Sound Tryd.prog cfg 89 (ct89 F):=
 mkC_ok (E:=E89 F) (lp:=[]) (code:=bodyOf Tryd.f89) Tryd.func89 rfl Tryd.ntmps89 rfl rfl cok (cts89 F) mixed trivial (by kernel_rfl) (fun x y k=>T89c F x.1 x.2.1 k) (fun x y k=>T89n F x.1 x.2.1 k) (eq89 F)
def ord67:Nat->List (Tag×Nat)
 | _=>[]
def al67:Nat->Option Nat
 | _=>none
def ms67:Nat->Option (List (Option Tag×Nat×List Nat))
 | _=>none
def E67 (F:Nat):Ev:=⟨cfg,17,ctOf [(89,ct89 F),(90,ct90 F)],ord67,ctOf [],al67,ms67⟩
theorem cts67 (F:Nat):CtsOk Tryd.prog (E67 F):=cts_of (l:=[(89,ct89 F),(90,ct90 F)]) (l':=[]) rfl rfl ⟨⟨ok89 F,_,Tryd.func89,rfl,rfl⟩,⟨⟨ok90 F,_,Tryd.func90,rfl,rfl⟩,trivial⟩⟩ trivial
def T67c (F:Nat) (p0:List (Int×(List UInt8)×Unit)) (p1:Int) {β:Type} (k:(Int×(List UInt8))->Option β):Option β:=
 (Option.bind (T89 F p0 p1) fun z4=>(bif (z4 != (0:Int)) then (k (z4,([]:List UInt8))) else (Option.bind (gsl p0 (0:Int) p1) fun x5=>(Option.bind (T90 F x5 (0:Int)) fun z6=>(k ((0:Int),z6))))))
def T67 (F:Nat) (p0:List (Int×(List UInt8)×Unit)) (p1:Int):Option (Int×(List UInt8)):=T67c F p0 p1 some
theorem T67n (F:Nat) (p0:List (Int×(List UInt8)×Unit)) (p1:Int) {β:Type} (k:(Int×(List UInt8))->Option β):T67c F p0 p1 k=(T67 F p0 p1).bind k:=by
 simp only [T67,T67c,Option.bind_assoc,cond_bind,Option.bind_some,Option.bind_none,elimS_bind]
abbrev cA67:List Sh:=[(.ro (.pr .i (.pr (.sl .u8) .un))),.i]
abbrev cB67:List Sh:=[(.rw 0),.i]
abbrev cT67:List TSh:=[]
abbrev cU67:List TSh:=[.row 5 .u8]
def ct67 (F:Nat):Ct:=mkC 0 cA67 cT67 cB67 cU67 (fun x y=>T67 F x.1 x.2.1) (fun x y (z:Int×(List UInt8))=>(((),z.1,()),(z.2,())))
theorem eq67 (F:Nat) (x:dens cA67) (y:tdens cT67):sev (E67 F) 0 [] (bodyOf Tryd.f67) [] (mkSt (rng 2) cA67 cT67 x y) (kFn (E67 F) 0 Tryd.f67.results.toList cB67 cU67 fun p q=>some (p,q)) =
  T67c F x.1 x.2.1 (fun z=>some (((),z.1,()),(z.2,()))):=by kernel_rfl
theorem ok67 (F:Nat):Sound Tryd.prog cfg 67 (ct67 F):=
 mkC_ok (E:=E67 F) (lp:=[]) (code:=bodyOf Tryd.f67) Tryd.func67 rfl Tryd.ntmps67 rfl rfl cok (cts67 F) mixed trivial (by kernel_rfl) (fun x y k=>T67c F x.1 x.2.1 k) (fun x y k=>T67n F x.1 x.2.1 k) (eq67 F)
def ord37:Nat->List (Tag×Nat)
 | _=>[]
def al37:Nat->Option Nat
 | _=>none
def ms37:Nat->Option (List (Option Tag×Nat×List Nat))
 | _=>none
def E37 (F:Nat):Ev:=⟨cfg,35,ctOf [(67,ct67 F),(16,ct16 F)],ord37,ctOf [],al37,ms37⟩
theorem cts37 (F:Nat):CtsOk Tryd.prog (E37 F):=cts_of (l:=[(67,ct67 F),(16,ct16 F)]) (l':=[]) rfl rfl ⟨⟨ok67 F,_,Tryd.func67,rfl,rfl⟩,⟨⟨ok16 F,_,Tryd.func16,rfl,rfl⟩,trivial⟩⟩ trivial
def T37c (F:Nat) (p0:List (Int×(List UInt8)×Unit)) (p1:Int) (p2:List UInt8) {β:Type} (k:((List UInt8)×Bool)->Option β):Option β:=
 (Option.bind (T67 F p0 p1) fun z3=>(bif (z3.1 != (0:Int)) then (k (([]:List UInt8),false)) else (Option.bind (T16 F z3.2) fun z4=>(bif (z4.2 != (0:Int)) then (k (([]:List UInt8),false)) else (bif (z4.1 != p2) then (k (([]:List UInt8),false)) else (k (z3.2,true)))))))
def T37 (F:Nat) (p0:List (Int×(List UInt8)×Unit)) (p1:Int) (p2:List UInt8):Option ((List UInt8)×Bool):=T37c F p0 p1 p2 some
theorem T37n (F:Nat) (p0:List (Int×(List UInt8)×Unit)) (p1:Int) (p2:List UInt8) {β:Type} (k:((List UInt8)×Bool)->Option β):T37c F p0 p1 p2 k=(T37 F p0 p1 p2).bind k:=by
 simp only [T37,T37c,Option.bind_assoc,cond_bind,Option.bind_some,Option.bind_none,elimS_bind]
abbrev cA37:List Sh:=[(.ro (.pr .i (.pr (.sl .u8) .un))),.i,.str]
abbrev cB37:List Sh:=[.str,.bo]
abbrev cT37:List TSh:=[]
abbrev cU37:List TSh:=[]
def ct37 (F:Nat):Ct:=mkC 0 cA37 cT37 cB37 cU37 (fun x y=>T37 F x.1 x.2.1 x.2.2.1) (fun x y (z:(List UInt8)×Bool)=>((z.1,z.2,()),()))
theorem eq37 (F:Nat) (x:dens cA37) (y:tdens cT37):sev (E37 F) 0 [] (bodyOf Tryd.f37) [] (mkSt (rng 3) cA37 cT37 x y) (kFn (E37 F) 0 Tryd.f37.results.toList cB37 cU37 fun p q=>some (p,q)) =
  T37c F x.1 x.2.1 x.2.2.1 (fun z=>some ((z.1,z.2,()),())):=by kernel_rfl
theorem ok37 (F:Nat):Sound Tryd.prog cfg 37 (ct37 F):=
 mkC_ok (E:=E37 F) (lp:=[]) (code:=bodyOf Tryd.f37) Tryd.func37 rfl Tryd.ntmps37 rfl rfl cok (cts37 F) mixed trivial (by kernel_rfl) (fun x y k=>T37c F x.1 x.2.1 x.2.2.1 k) (fun x y k=>T37n F x.1 x.2.1 x.2.2.1 k) (eq37 F)
def ord38x1:Nat->List (Tag×Nat)
 | _=>[]
def al38x1:Nat->Option Nat
 | _=>none
def ms38x1:Nat->Option (List (Option Tag×Nat×List Nat))
 | _=>none
def E38x1 (F:Nat):Ev:=⟨cfg,8,ctOf [],ord38x1,ctOf [],al38x1,ms38x1⟩
theorem cts38x1 (F:Nat):CtsOk Tryd.prog (E38x1 F):=cts_of (l:=[]) (l':=[]) rfl rfl trivial trivial
def T38x1c (F:Nat) {β:Type} (k:((List (Int×(List UInt8)×Unit)))->Option β):Option β:=
 (k ([]:List (Int×(List UInt8)×Unit)))
def T38x1 (F:Nat):Option ((List (Int×(List UInt8)×Unit))):=T38x1c F some
theorem T38x1n (F:Nat) {β:Type} (k:((List (Int×(List UInt8)×Unit)))->Option β):T38x1c F k=(T38x1 F).bind k:=by
 simp only [T38x1,T38x1c,Option.bind_assoc,cond_bind,Option.bind_some,Option.bind_none,elimS_bind]
abbrev cA38x1:List Sh:=[.nn]
abbrev cB38x1:List Sh:=[(.rw 0)]
abbrev cT38x1:List TSh:=[]
abbrev cU38x1:List TSh:=[.row 30 (.pr .i (.pr (.sl .u8) .un))]
def ct38x1 (F:Nat):Ct:=mkC 0 cA38x1 cT38x1 cB38x1 cU38x1 (fun x y=>T38x1 F) (fun x y (z:(List (Int×(List UInt8)×Unit)))=>(((),()),(z,())))
theorem eq38x1 (F:Nat) (x:dens cA38x1) (y:tdens cT38x1):sev (E38x1 F) 0 [] (bodyOf Tryd.f38) [] (mkSt (rng 1) cA38x1 cT38x1 x y) (kFn (E38x1 F) 0 Tryd.f38.results.toList cB38x1 cU38x1 fun p q=>some (p,q)) =
  T38x1c F (fun z=>some (((),()),(z,()))):=by kernel_rfl
theorem ok38x1 (F:Nat):Sound Tryd.prog cfg 38 (ct38x1 F):=
 mkC_ok (E:=E38x1 F) (lp:=[]) (code:=bodyOf Tryd.f38) Tryd.func38 rfl Tryd.ntmps38 rfl rfl cok (cts38x1 F) mixed trivial (by kernel_rfl) (fun x y k=>T38x1c F k) (fun x y k=>T38x1n F k) (eq38x1 F)
def ord38x2:Nat->List (Tag×Nat)
 | _=>[]
def al38x2:Nat->Option Nat
 | _=>none
def ms38x2:Nat->Option (List (Option Tag×Nat×List Nat))
 | _=>none
def E38x2 (F:Nat):Ev:=⟨cfg,8,ctOf [],ord38x2,ctOf [],al38x2,ms38x2⟩
theorem cts38x2 (F:Nat):CtsOk Tryd.prog (E38x2 F):=cts_of (l:=[]) (l':=[]) rfl rfl trivial trivial
def T38x2c (F:Nat) (p0:List (Int×(List UInt8)×Unit)) {β:Type} (k:((List (Int×(List UInt8)×Unit)))->Option β):Option β:=
 (Option.bind (gapp ([]:List (Int×(List UInt8)×Unit)) p0) fun x2=>(k x2))
def T38x2 (F:Nat) (p0:List (Int×(List UInt8)×Unit)):Option ((List (Int×(List UInt8)×Unit))):=T38x2c F p0 some
theorem T38x2n (F:Nat) (p0:List (Int×(List UInt8)×Unit)) {β:Type} (k:((List (Int×(List UInt8)×Unit)))->Option β):T38x2c F p0 k=(T38x2 F p0).bind k:=by
 simp only [T38x2,T38x2c,Option.bind_assoc,cond_bind,Option.bind_some,Option.bind_none,elimS_bind]
abbrev cA38x2:List Sh:=[(.rn (.pr .i (.pr (.sl .u8) .un)))]
abbrev cB38x2:List Sh:=[(.rw 0)]
abbrev cT38x2:List TSh:=[]
abbrev cU38x2:List TSh:=[.row 30 (.pr .i (.pr (.sl .u8) .un))]
def ct38x2 (F:Nat):Ct:=mkC 0 cA38x2 cT38x2 cB38x2 cU38x2 (fun x y=>T38x2 F x.1) (fun x y (z:(List (Int×(List UInt8)×Unit)))=>(((),()),(z,())))
theorem eq38x2 (F:Nat) (x:dens cA38x2) (y:tdens cT38x2):sev (E38x2 F) 0 [] (bodyOf Tryd.f38) [] (mkSt (rng 1) cA38x2 cT38x2 x y) (kFn (E38x2 F) 0 Tryd.f38.results.toList cB38x2 cU38x2 fun p q=>some (p,q)) =
  T38x2c F x.1 (fun z=>some (((),()),(z,()))):=by kernel_rfl
theorem ok38x2 (F:Nat):Sound Tryd.prog cfg 38 (ct38x2 F):=
 mkC_ok (E:=E38x2 F) (lp:=[]) (code:=bodyOf Tryd.f38) Tryd.func38 rfl Tryd.ntmps38 rfl rfl cok (cts38x2 F) mixed trivial (by kernel_rfl) (fun x y k=>T38x2c F x.1 k) (fun x y k=>T38x2n F x.1 k) (eq38x2 F)
def T38 (F:Nat) (p0:List (Int×(List UInt8)×Unit)):Option (List (Int×(List UInt8)×Unit)):=T38x2 F p0
def ct38 (F:Nat):Ct:=mkC 0 [.ro (.pr .i (.pr (.sl .u8) .un))] [] [.rw 0] [.row 30 (.pr .i (.pr (.sl .u8) .un))] (fun x _=>T38 F x.1) (fun _ _ (z:List (Int×(List UInt8)×Unit))=>(((),()),(z,())))
theorem ok38 (F:Nat):Sound Tryd.prog cfg 38 (ct38 F):=clone_ok (t:=(.pr .i (.pr (.sl .u8) .un))) (T38x1 F) (fun p=>T38x2 F p) (ok38x1 F) (ok38x2 F) rfl
def L36r_2c (F:Nat) (rc:((List (Int×(List UInt8)×Unit))->Int->Int->(List UInt8)->(List (Int×(List UInt8)×Unit))->Option ((List UInt8)×Bool))) (y17:List (Int×(List UInt8)×Unit)) (y19:Int) (y20:List UInt8) (y21:List (Int×(List UInt8)×Unit)) (y18:Int) {β:Type} (kA:Int->Option β) (kO:Unit->Option β) (kR:((List UInt8)×Bool)->Option β):Option β:=
 (bif (decide (y18 < (y21.length:Int))) then (Option.bind (ix y21 y18) fun x26=>(Option.bind (T38 F y17) fun z27=>(Option.bind (gapp z27 ([(x26.1,x26.2.1,())]:List (Int×(List UInt8)×Unit))) fun x28=>(Option.bind (rc x28 (w64 (y18 + (1:Int))) y19 y20 y21) fun z29=>(bif z29.2 then (kR (z29.1,true)) else (kA (w64 (y18 + (1:Int))))))))) else (kO ()))
def L36r_2 (F:Nat) (rc:((List (Int×(List UInt8)×Unit))->Int->Int->(List UInt8)->(List (Int×(List UInt8)×Unit))->Option ((List UInt8)×Bool))) (y17:List (Int×(List UInt8)×Unit)) (y19:Int) (y20:List UInt8) (y21:List (Int×(List UInt8)×Unit)) (y18:Int):Option ((Int) ⊕ ((Unit) ⊕ ((List UInt8)×Bool))):=L36r_2c F rc y17 y19 y20 y21 y18 (fun s=>some (.inl s)) (fun z=>some (.inr (.inl z))) (fun z=>some (.inr (.inr z)))
theorem L36r_2n (F:Nat) (rc:((List (Int×(List UInt8)×Unit))->Int->Int->(List UInt8)->(List (Int×(List UInt8)×Unit))->Option ((List UInt8)×Bool))) (y17:List (Int×(List UInt8)×Unit)) (y19:Int) (y20:List UInt8) (y21:List (Int×(List UInt8)×Unit)) (y18:Int) {β:Type} (kA:Int->Option β) (kO:Unit->Option β) (kR:((List UInt8)×Bool)->Option β):L36r_2c F rc y17 y19 y20 y21 y18 kA kO kR=(L36r_2 F rc y17 y19 y20 y21 y18).bind (elimS kA (elimS kO kR)):=by
 simp only [L36r_2,L36r_2c,Option.bind_assoc,cond_bind,Option.bind_some,Option.bind_none,elimS_l,elimS_r,elimS_bind]
def T36rc (F:Nat) (rc:((List (Int×(List UInt8)×Unit))->Int->Int->(List UInt8)->(List (Int×(List UInt8)×Unit))->Option ((List UInt8)×Bool))) (p0:List (Int×(List UInt8)×Unit)) (p1:Int) (p2:Int) (p3:List UInt8) (p4:List (Int×(List UInt8)×Unit)) {β:Type} (k:((List UInt8)×Bool)->Option β):Option β:=
 (bif ((p0.length:Int) == p2) then (Option.bind (T37 F p0 p2 p3) fun z16=>(k (z16.1,z16.2))) else (Option.bind (iter (fun s=>L36r_2 F rc p0 p2 p3 p4 s) F p1) fun z30=>elimS (fun z30=>(k (([]:List UInt8),false))) (fun z30=>(k (z30.1,z30.2))) z30))
def T36r (F:Nat) (rc:((List (Int×(List UInt8)×Unit))->Int->Int->(List UInt8)->(List (Int×(List UInt8)×Unit))->Option ((List UInt8)×Bool))) (p0:List (Int×(List UInt8)×Unit)) (p1:Int) (p2:Int) (p3:List UInt8) (p4:List (Int×(List UInt8)×Unit)):Option ((List UInt8)×Bool):=T36rc F rc p0 p1 p2 p3 p4 some
theorem T36rn (F:Nat) (rc:((List (Int×(List UInt8)×Unit))->Int->Int->(List UInt8)->(List (Int×(List UInt8)×Unit))->Option ((List UInt8)×Bool))) (p0:List (Int×(List UInt8)×Unit)) (p1:Int) (p2:Int) (p3:List UInt8) (p4:List (Int×(List UInt8)×Unit)) {β:Type} (k:((List UInt8)×Bool)->Option β):T36rc F rc p0 p1 p2 p3 p4 k=(T36r F rc p0 p1 p2 p3 p4).bind k:=by
 simp only [T36r,T36rc,Option.bind_assoc,cond_bind,Option.bind_some,Option.bind_none,elimS_bind]
def T36g (F:Nat):Nat->(List (Int×(List UInt8)×Unit))->Int->Int->(List UInt8)->(List (Int×(List UInt8)×Unit))->Option ((List UInt8)×Bool)
 | 0=>fun _ _ _ _ _=>none
 | g + 1=>T36r F (T36g F g)
abbrev cA36r:List Sh:=[(.ro (.pr .i (.pr (.sl .u8) .un))),.i,(.pt 0 []),(.pt 1 []),(.pt 2 []),(.pt 3 [])]
abbrev cB36r:List Sh:=[.str,.bo]
abbrev cT36r:List TSh:=[.blk 3 .i,.blk 9 .str,.blk 25 (.ro (.pr .i (.pr (.sl .u8) .un))),.blk 70 (.fn 36 .un (.pr (.pt 0 []) (.pr (.pt 1 []) (.pr (.pt 2 []) (.pr (.pt 3 []) .un)))))]
abbrev cU36r:List TSh:=[.blk 3 .i,.blk 9 .str,.blk 25 (.ro (.pr .i (.pr (.sl .u8) .un))),.blk 70 (.fn 36 .un (.pr (.pt 0 []) (.pr (.pt 1 []) (.pr (.pt 2 []) (.pr (.pt 3 []) .un)))))]
abbrev sA36r_2:List Sh:=[(.ro (.pr .i (.pr (.sl .u8) .un))),(.pt 2 []),(.pt 3 []),.i]
abbrev sA136r_2:List Sh:=[]
abbrev sA236r_2:List Sh:=[.str,.bo]
abbrev sT36r_2:List TSh:=[.blk 3 .i,.blk 9 .str,.blk 25 (.ro (.pr .i (.pr (.sl .u8) .un))),.blk 70 (.fn 36 .un (.pr (.pt 0 []) (.pr (.pt 1 []) (.pr (.pt 2 []) (.pr (.pt 3 []) .un)))))]
abbrev sT136r_2:List TSh:=[.blk 3 .i,.blk 9 .str,.blk 25 (.ro (.pr .i (.pr (.sl .u8) .un))),.blk 70 (.fn 36 .un (.pr (.pt 0 []) (.pr (.pt 1 []) (.pr (.pt 2 []) (.pr (.pt 3 []) .un)))))]
abbrev sT236r_2:List TSh:=[.blk 3 .i,.blk 9 .str,.blk 25 (.ro (.pr .i (.pr (.sl .u8) .un))),.blk 70 (.fn 36 .un (.pr (.pt 0 []) (.pr (.pt 1 []) (.pr (.pt 2 []) (.pr (.pt 3 []) .un)))))]
def ctg36 (F g:Nat):Ct:=mkC 4 cA36r cT36r cB36r cU36r (fun x y=>T36g F g x.1 x.2.1 y.1 y.2.1 y.2.2.1) (fun x y (z:(List UInt8)×Bool)=>((z.1,z.2,()),(y.1,y.2.1,y.2.2.1,((),((),(),(),(),())),())))
def ord36r:Nat->List (Tag×Nat)
 | 6=>[]
 | _=>[]
def al36r:Nat->Option Nat
 | _=>none
def ms36r:Nat->Option (List (Option Tag×Nat×List Nat))
 | 6=>some [(some .c,0,[]),(some .p,1,[]),(some .c,3,[]),(some .p,4,[]),(some .p,5,[]),(some .c,6,[]),(some .p,9,[]),(some .p,10,[]),(some .w,2,[7]),(none,7,[]),(some .w,8,[]),(some .b,11,[]),(some .p,12,[]),(some .p,13,[]),(some .p,14,[]),(some .p,15,[]),(some .p,16,[])]
 | _=>none
def E36r (F g:Nat):Ev:=⟨cfg,47,ctOf [(37,ct37 F),(38,ct38 F),(36,ctg36 F g)],ord36r,ctOf [],al36r,ms36r⟩
theorem cts36r (F g:Nat) (h:Sound Tryd.prog cfg 36 (ctg36 F g)):CtsOk Tryd.prog (E36r F g):=cts_of (l:=[(37,ct37 F),(38,ct38 F),(36,ctg36 F g)]) (l':=[]) rfl rfl ⟨⟨ok37 F,_,Tryd.func37,rfl,rfl⟩,⟨⟨ok38 F,_,Tryd.func38,rfl,rfl⟩,⟨⟨h,_,Tryd.func36,rfl,rfl⟩,trivial⟩⟩⟩ trivial
def lc36r_2 (F g:Nat):Lc:=mkR [0,4,5,10] sA36r_2 sT36r_2 [] sA136r_2 sT136r_2 [8,9] sA236r_2 sT236r_2 F (fun x y (s:Int)=>L36r_2 F (T36g F g) x.1 y.1 y.2.1 y.2.2.1 s) (fun x y=>x.2.2.2.1) (fun x y (z:Unit)=>((),(y.1,y.2.1,y.2.2.1,((),((),(),(),(),())),()))) (fun x y (z:(List UInt8)×Bool)=>((z.1,z.2,()),(y.1,y.2.1,y.2.2.1,((),((),(),(),(),())),())))
theorem le36r_2 (F g:Nat) (x:dens sA36r_2) (y:tdens sT36r_2) (s:Int):sev (E36r F g) 4 [] (cAt (bodyOf Tryd.f36) (0 :: 0 :: [1,0,1,1])) (0 :: 0 :: [1,0,1,1]) (mkSt [0,4,5,10] sA36r_2 sT36r_2 (x.1,(),(),s,()) (y.1,y.2.1,y.2.2.1,((),((),(),(),(),())),())) (kLoop 4 [0,4,5,10] sA36r_2 sT36r_2 [] sA136r_2 sT136r_2 [8,9] sA236r_2 sT236r_2 0 (fun x y=>some (.inl (x,y))) (fun x y=>some (.inr (.inl (x,y)))) (fun x y=>some (.inr (.inr (x,y))))) =
  L36r_2c (β:=Full sA36r_2 sT36r_2 sA136r_2 sT136r_2 sA236r_2 sT236r_2) F (T36g F g) x.1 y.1 y.2.1 y.2.2.1 s (fun s=>some (.inl ((x.1,(),(),s,()),(y.1,y.2.1,y.2.2.1,((),((),(),(),(),())),())))) (fun z=>some (.inr (.inl ((),(y.1,y.2.1,y.2.2.1,((),((),(),(),(),())),()))))) (fun z=>some (.inr (.inr ((z.1,z.2,()),(y.1,y.2.1,y.2.2.1,((),((),(),(),(),())),()))))):=by kernel_rfl
theorem lo36r_2 (F g:Nat) (h:Sound Tryd.prog cfg 36 (ctg36 F g)):LcOk Tryd.prog (E36r F g) 4 (lc36r_2 F g) (cAt (bodyOf Tryd.f36) [1,0,1,1]):=
 mkR_ok (lp:=[]) (id:=0) (b:=cAt (bodyOf Tryd.f36) (0 :: 0 :: [1,0,1,1])) cok (cts36r F g h) mixed trivial (by kernel_rfl) (by kernel_rfl) (fun x y s=>(x.1,(),(),s,())) (fun x y s=>(y.1,y.2.1,y.2.2.1,((),((),(),(),(),())),())) (fun x y=>rfl) (fun x y=>rfl) (fun x y s kA kO kR=>L36r_2c F (T36g F g) x.1 y.1 y.2.1 y.2.2.1 s kA kO kR) (fun x y s kA kO kR=>L36r_2n F (T36g F g) x.1 y.1 y.2.1 y.2.2.1 s kA kO kR) (le36r_2 F g)
def ct36r (F g:Nat):Ct:=mkC 4 cA36r cT36r cB36r cU36r (fun x y=>T36r F (T36g F g) x.1 x.2.1 y.1 y.2.1 y.2.2.1) (fun x y (z:(List UInt8)×Bool)=>((z.1,z.2,()),(y.1,y.2.1,y.2.2.1,((),((),(),(),(),())),())))
theorem eq36r (F g:Nat) (x:dens cA36r) (y:tdens cT36r):sev (E36r F g) 4 [([1,0,1,1],lc36r_2 F g)] (bodyOf Tryd.f36) [] (mkSt (rng 6) cA36r cT36r x y) (kFn (E36r F g) 4 Tryd.f36.results.toList cB36r cU36r fun p q=>some (p,q)) =
  T36rc F (T36g F g) x.1 x.2.1 y.1 y.2.1 y.2.2.1 (fun z=>some ((z.1,z.2,()),(y.1,y.2.1,y.2.2.1,((),((),(),(),(),())),()))):=by kernel_rfl
theorem ok36r (F g:Nat) (h:Sound Tryd.prog cfg 36 (ctg36 F g)):Sound Tryd.prog cfg 36 (ct36r F g):=
 mkC_ok (E:=E36r F g) (lp:=[([1,0,1,1],lc36r_2 F g)]) (code:=bodyOf Tryd.f36) Tryd.func36 rfl Tryd.ntmps36 rfl rfl cok (cts36r F g h) mixed ⟨lo36r_2 F g h,trivial⟩ (by kernel_rfl) (fun x y k=>T36rc F (T36g F g) x.1 x.2.1 y.1 y.2.1 y.2.2.1 k) (fun x y k=>T36rn F (T36g F g) x.1 x.2.1 y.1 y.2.1 y.2.2.1 k) (eq36r F g)
def T36 (F:Nat) (p0:List (Int×(List UInt8)×Unit)) (p1:Int) (p2:Int) (p3:List UInt8) (p4:List (Int×(List UInt8)×Unit)):Option ((List UInt8)×Bool):=T36g F F p0 p1 p2 p3 p4
def ct36 (F:Nat):Ct:=mkC 4 cA36r cT36r cB36r cU36r (fun x y=>T36 F x.1 x.2.1 y.1 y.2.1 y.2.2.1) (fun x y (z:(List UInt8)×Bool)=>((z.1,z.2,()),(y.1,y.2.1,y.2.2.1,((),((),(),(),(),())),())))
theorem okg36 (F:Nat):∀ g,Sound Tryd.prog cfg 36 (ctg36 F g)
 | 0=>fun x y p q h=>absurd (show (none:Option _)=some (p,q) from h) (by simp)
 | g + 1=>ok36r F g (okg36 F g)
theorem ok36 (F:Nat):Sound Tryd.prog cfg 36 (ct36 F):=okg36 F F
def ord23:Nat->List (Tag×Nat)
 | _=>[]
def al23:Nat->Option Nat
 | _=>none
def ms23:Nat->Option (List (Option Tag×Nat×List Nat))
 | _=>none
def E23 (F:Nat):Ev:=⟨cfg,68,ctOf [(36,ct36 F)],ord23,ctOf [],al23,ms23⟩
theorem cts23 (F:Nat):CtsOk Tryd.prog (E23 F):=cts_of (l:=[(36,ct36 F)]) (l':=[]) rfl rfl ⟨⟨ok36 F,_,Tryd.func36,rfl,rfl⟩,trivial⟩ trivial
def L23_2c (F:Nat) (y18:List (Int×(List UInt8)×Unit)) (y19:Int) (y20:Int) (y24:Vector Bool 13) {β:Type} (kA:(Int×(Vector Bool 13))->Option β) (kO:Unit->Option β) (kR:((List UInt8)×Int)->Option β):Option β:=
 (bif (decide (y20 < y19)) then (Option.bind (ix y18 y20) fun x29=>(bif (decide (x29.1 < (1:Int))) then (kR (([]:List UInt8),(1:Int))) else (bif (decide ((12:Int) < x29.1)) then (kR (([]:List UInt8),(1:Int))) else (Option.bind (inb 13 x29.1) fun x30=>(Option.bind (vat y24 x30) fun x31=>(bif x31 then (kR (([]:List UInt8),(1:Int))) else (bif ((x29.2.1.length:Int) != (32:Int)) then (kR (([]:List UInt8),(1:Int))) else (Option.bind (inb 13 x29.1) fun x32=>(kA ((w64 (y20 + (1:Int))),(Vector.setIfInBounds y24 x32 true))))))))))) else (kO ()))
def L23_2 (F:Nat) (y18:List (Int×(List UInt8)×Unit)) (y19:Int) (y20:Int) (y24:Vector Bool 13):Option ((Int×(Vector Bool 13)) ⊕ ((Unit) ⊕ ((List UInt8)×Int))):=L23_2c F y18 y19 y20 y24 (fun s=>some (.inl s)) (fun z=>some (.inr (.inl z))) (fun z=>some (.inr (.inr z)))
theorem L23_2n (F:Nat) (y18:List (Int×(List UInt8)×Unit)) (y19:Int) (y20:Int) (y24:Vector Bool 13) {β:Type} (kA:(Int×(Vector Bool 13))->Option β) (kO:Unit->Option β) (kR:((List UInt8)×Int)->Option β):L23_2c F y18 y19 y20 y24 kA kO kR=(L23_2 F y18 y19 y20 y24).bind (elimS kA (elimS kO kR)):=by
 simp only [L23_2,L23_2c,Option.bind_assoc,cond_bind,Option.bind_some,Option.bind_none,elimS_l,elimS_r,elimS_bind]
abbrev sA23_2:List Sh:=[(.pt 0 []),(.pt 1 []),(.pt 2 []),(.pt 3 []),(.ro (.pr .i (.pr (.sl .u8) .un))),.i,.i]
abbrev sAp123_2:List Sh:=[(.pt 0 []),(.pt 1 []),(.pt 2 [])]
abbrev sAp223_2:List Sh:=[.str,.i]
abbrev sT23_2:List TSh:=[.blk 3 .i,.blk 25 (.ro (.pr .i (.pr (.sl .u8) .un))),.blk 9 .str,.blk 69 (.ar 13 .bo)]
abbrev sTp123_2:List TSh:=[.blk 3 .i,.blk 25 (.ro (.pr .i (.pr (.sl .u8) .un))),.blk 9 .str]
abbrev sTp223_2:List TSh:=[]
def lc23_2 (F:Nat):Lc:=mkR [3,4,5,8,25,26,27] sA23_2 sT23_2 [3,4,5] sAp123_2 sTp123_2 [6,7] sAp223_2 sTp223_2 F (fun x y (s:Int×(Vector Bool 13))=>L23_2 F x.2.2.2.2.1 x.2.2.2.2.2.1 s.1 s.2) (fun x y=>(x.2.2.2.2.2.2.1,y.2.2.2.1)) (fun x y (z:Unit)=>(((),(),(),()),(y.1,y.2.1,y.2.2.1,()))) (fun x y (z:(List UInt8)×Int)=>((z.1,z.2,()),()))
theorem le23_2 (F:Nat) (x:dens sA23_2) (y:tdens sT23_2) (s:Int×(Vector Bool 13)):sev (E23 F) 0 [] (cAt (bodyOf Tryd.f23) (0 :: 0 :: [1,0,1,1,1])) (0 :: 0 :: [1,0,1,1,1]) (mkSt [3,4,5,8,25,26,27] sA23_2 sT23_2 ((),(),(),(),x.2.2.2.2.1,x.2.2.2.2.2.1,s.1,()) (y.1,y.2.1,y.2.2.1,s.2,())) (kLoop 0 [3,4,5,8,25,26,27] sA23_2 sT23_2 [3,4,5] sAp123_2 sTp123_2 [6,7] sAp223_2 sTp223_2 0 (fun x y=>some (.inl (x,y))) (fun x y=>some (.inr (.inl (x,y)))) (fun x y=>some (.inr (.inr (x,y))))) =
  L23_2c (β:=Full sA23_2 sT23_2 sAp123_2 sTp123_2 sAp223_2 sTp223_2) F x.2.2.2.2.1 x.2.2.2.2.2.1 s.1 s.2 (fun s=>some (.inl (((),(),(),(),x.2.2.2.2.1,x.2.2.2.2.2.1,s.1,()),(y.1,y.2.1,y.2.2.1,s.2,())))) (fun z=>some (.inr (.inl (((),(),(),()),(y.1,y.2.1,y.2.2.1,()))))) (fun z=>some (.inr (.inr ((z.1,z.2,()),())))):=by kernel_rfl
theorem lo23_2 (F:Nat):LcOk Tryd.prog (E23 F) 0 (lc23_2 F) (cAt (bodyOf Tryd.f23) [1,0,1,1,1]):=
 mkR_ok (lp:=[]) (id:=0) (b:=cAt (bodyOf Tryd.f23) (0 :: 0 :: [1,0,1,1,1])) cok (cts23 F) mixed trivial (by kernel_rfl) (by kernel_rfl) (fun x y s=>((),(),(),(),x.2.2.2.2.1,x.2.2.2.2.2.1,s.1,())) (fun x y s=>(y.1,y.2.1,y.2.2.1,s.2,())) (fun x y=>rfl) (fun x y=>rfl) (fun x y s kA kO kR=>L23_2c F x.2.2.2.2.1 x.2.2.2.2.2.1 s.1 s.2 kA kO kR) (fun x y s kA kO kR=>L23_2n F x.2.2.2.2.1 x.2.2.2.2.2.1 s.1 s.2 kA kO kR) (le23_2 F)
def T23c (F:Nat) (p0:Int) (p1:List (Int×(List UInt8)×Unit)) (p2:List UInt8) {β:Type} (k:((List UInt8)×Int)->Option β):Option β:=
 (bif (decide (p0 < (1:Int))) then (k (([]:List UInt8),(1:Int))) else (bif (decide ((12:Int) < p0)) then (k (([]:List UInt8),(1:Int))) else (bif ((p2.length:Int) != (32:Int)) then (k (([]:List UInt8),(1:Int))) else (Option.bind (iter (fun s=>L23_2 F p1 (p1.length:Int) s.1 s.2) F ((0:Int),(Vector.replicate 13 false))) fun z33=>elimS (fun z33=>(bif (decide ((p1.length:Int) < p0)) then (k (([]:List UInt8),(10:Int))) else (Option.bind (T36 F ([]:List (Int×(List UInt8)×Unit)) (0:Int) p0 p2 p1) fun z34=>(bif (!z34.2) then (k (([]:List UInt8),(9:Int))) else (k (z34.1,(0:Int))))))) (fun z33=>(k (z33.1,z33.2))) z33))))
def T23 (F:Nat) (p0:Int) (p1:List (Int×(List UInt8)×Unit)) (p2:List UInt8):Option ((List UInt8)×Int):=T23c F p0 p1 p2 some
theorem T23n (F:Nat) (p0:Int) (p1:List (Int×(List UInt8)×Unit)) (p2:List UInt8) {β:Type} (k:((List UInt8)×Int)->Option β):T23c F p0 p1 p2 k=(T23 F p0 p1 p2).bind k:=by
 simp only [T23,T23c,Option.bind_assoc,cond_bind,Option.bind_some,Option.bind_none,elimS_bind]
abbrev cA23:List Sh:=[.i,(.ro (.pr .i (.pr (.sl .u8) .un))),.str]
abbrev cB23:List Sh:=[.str,.i]
abbrev cT23:List TSh:=[]
abbrev cU23:List TSh:=[]
def ct23 (F:Nat):Ct:=mkC 0 cA23 cT23 cB23 cU23 (fun x y=>T23 F x.1 x.2.1 x.2.2.1) (fun x y (z:(List UInt8)×Int)=>((z.1,z.2,()),()))
theorem eq23 (F:Nat) (x:dens cA23) (y:tdens cT23):sev (E23 F) 0 [([1,0,1,1,1],lc23_2 F)] (bodyOf Tryd.f23) [] (mkSt (rng 3) cA23 cT23 x y) (kFn (E23 F) 0 Tryd.f23.results.toList cB23 cU23 fun p q=>some (p,q)) =
  T23c F x.1 x.2.1 x.2.2.1 (fun z=>some ((z.1,z.2,()),())):=by kernel_rfl
theorem ok23 (F:Nat):Sound Tryd.prog cfg 23 (ct23 F):=
 mkC_ok (E:=E23 F) (lp:=[([1,0,1,1,1],lc23_2 F)]) (code:=bodyOf Tryd.f23) Tryd.func23 rfl Tryd.ntmps23 rfl rfl cok (cts23 F) mixed ⟨lo23_2 F,trivial⟩ (by kernel_rfl) (fun x y k=>T23c F x.1 x.2.1 x.2.2.1 k) (fun x y k=>T23n F x.1 x.2.1 x.2.2.1 k) (eq23 F)
def ord24:Nat->List (Tag×Nat)
 | _=>[]
def al24:Nat->Option Nat
 | _=>none
def ms24:Nat->Option (List (Option Tag×Nat×List Nat))
 | _=>none
def E24 (F:Nat):Ev:=⟨cfg,19,ctOf [(16,ct16 F)],ord24,ctOf [],al24,ms24⟩
theorem cts24 (F:Nat):CtsOk Tryd.prog (E24 F):=cts_of (l:=[(16,ct16 F)]) (l':=[]) rfl rfl ⟨⟨ok16 F,_,Tryd.func16,rfl,rfl⟩,trivial⟩ trivial
def T24c (F:Nat) (p0:List UInt8) (p1:List UInt8) {β:Type} (k:Bool->Option β):Option β:=
 (Option.bind (T16 F p0) fun z2=>(bif (z2.2 == (0:Int)) then (k (z2.1 == p1)) else (k false)))
def T24 (F:Nat) (p0:List UInt8) (p1:List UInt8):Option (Bool):=T24c F p0 p1 some
theorem T24n (F:Nat) (p0:List UInt8) (p1:List UInt8) {β:Type} (k:Bool->Option β):T24c F p0 p1 k=(T24 F p0 p1).bind k:=by
 simp only [T24,T24c,Option.bind_assoc,cond_bind,Option.bind_some,Option.bind_none,elimS_bind]
abbrev cA24:List Sh:=[.str,.str]
abbrev cB24:List Sh:=[.bo]
abbrev cT24:List TSh:=[]
abbrev cU24:List TSh:=[]
def ct24 (F:Nat):Ct:=mkC 0 cA24 cT24 cB24 cU24 (fun x y=>T24 F x.1 x.2.1) (fun x y (z:Bool)=>((z,()),()))
theorem eq24 (F:Nat) (x:dens cA24) (y:tdens cT24):sev (E24 F) 0 [] (bodyOf Tryd.f24) [] (mkSt (rng 2) cA24 cT24 x y) (kFn (E24 F) 0 Tryd.f24.results.toList cB24 cU24 fun p q=>some (p,q)) =
  T24c F x.1 x.2.1 (fun z=>some ((z,()),())):=by kernel_rfl
theorem ok24 (F:Nat):Sound Tryd.prog cfg 24 (ct24 F):=
 mkC_ok (E:=E24 F) (lp:=[]) (code:=bodyOf Tryd.f24) Tryd.func24 rfl Tryd.ntmps24 rfl rfl cok (cts24 F) mixed trivial (by kernel_rfl) (fun x y k=>T24c F x.1 x.2.1 k) (fun x y k=>T24n F x.1 x.2.1 k) (eq24 F)
def ord8:Nat->List (Tag×Nat)
 | _=>[]
def al8:Nat->Option Nat
 | _=>none
def ms8:Nat->Option (List (Option Tag×Nat×List Nat))
 | _=>none
def E8 (F:Nat):Ev:=⟨cfg,147,ctOf [(9,ct9 F),(22,ct22 F),(10,ct10 F),(16,ct16 F),(23,ct23 F),(24,ct24 F)],ord8,ctOf [],al8,ms8⟩
theorem cts8 (F:Nat):CtsOk Tryd.prog (E8 F):=cts_of (l:=[(9,ct9 F),(22,ct22 F),(10,ct10 F),(16,ct16 F),(23,ct23 F),(24,ct24 F)]) (l':=[]) rfl rfl ⟨⟨ok9 F,_,Tryd.func9,rfl,rfl⟩,⟨⟨ok22 F,_,Tryd.func22,rfl,rfl⟩,⟨⟨ok10 F,_,Tryd.func10,rfl,rfl⟩,⟨⟨ok16 F,_,Tryd.func16,rfl,rfl⟩,⟨⟨ok23 F,_,Tryd.func23,rfl,rfl⟩,⟨⟨ok24 F,_,Tryd.func24,rfl,rfl⟩,trivial⟩⟩⟩⟩⟩⟩ trivial
def L8_2c (F:Nat) (y46:Int) (y47:List Int) (y51:List (Int×(List UInt8)×Unit)) (y50:Int) (y52:List (Int×(List UInt8)×Unit)) (y53:List (Int×Bool)) {β:Type} (kA:(Int×(List (Int×(List UInt8)×Unit))×(List (Int×Bool)))->Option β) (kO:((List (Int×(List UInt8)×Unit)))->Option β):Option β:=
 (bif (decide (y50 < (y47.length:Int))) then (bif (decide ((y52.length:Int) < y46)) then (Option.bind (ix y47 y50) fun x58=>(bif (!(mgd .i y53 (Int.tmod (w64 ((Int.tmod x58 (6:Int)) + (6:Int))) (6:Int)) false)) then (Option.bind (inb y51.length (Int.tmod (w64 ((Int.tmod x58 (6:Int)) + (6:Int))) (6:Int))) fun x59=>(Option.bind (y51[x59]?) fun x60=>(Option.bind (gapp y52 ([(x60.1,x60.2.1,())]:List (Int×(List UInt8)×Unit))) fun x61=>(kA ((w64 (y50 + (1:Int))),x61,(mpt .i y53 (Int.tmod (w64 ((Int.tmod x58 (6:Int)) + (6:Int))) (6:Int)) true)))))) else (kA ((w64 (y50 + (1:Int))),y52,y53)))) else (kO y52)) else (kO y52))
def L8_2 (F:Nat) (y46:Int) (y47:List Int) (y51:List (Int×(List UInt8)×Unit)) (y50:Int) (y52:List (Int×(List UInt8)×Unit)) (y53:List (Int×Bool)):Option ((Int×(List (Int×(List UInt8)×Unit))×(List (Int×Bool))) ⊕ ((List (Int×(List UInt8)×Unit)))):=L8_2c F y46 y47 y51 y50 y52 y53 (fun s=>some (.inl s)) (fun z=>some (.inr z))
theorem L8_2n (F:Nat) (y46:Int) (y47:List Int) (y51:List (Int×(List UInt8)×Unit)) (y50:Int) (y52:List (Int×(List UInt8)×Unit)) (y53:List (Int×Bool)) {β:Type} (kA:(Int×(List (Int×(List UInt8)×Unit))×(List (Int×Bool)))->Option β) (kO:((List (Int×(List UInt8)×Unit)))->Option β):L8_2c F y46 y47 y51 y50 y52 y53 kA kO=(L8_2 F y46 y47 y51 y50 y52 y53).bind (elimS kA kO):=by
 simp only [L8_2,L8_2c,Option.bind_assoc,cond_bind,Option.bind_some,Option.bind_none,elimS_l,elimS_r,elimS_bind]
abbrev sA8_2:List Sh:=[.u8,.i,(.ro .i),.u8,(.rw 0),.str,(.rw 1),(.mp 2),.i]
abbrev sAp18_2:List Sh:=[.u8,.i,.u8,.str,(.rw 0)]
abbrev sT8_2:List TSh:=[.row 30 (.pr .i (.pr (.sl .u8) .un)),.row 30 (.pr .i (.pr (.sl .u8) .un)),.mp .i .bo]
abbrev sTp18_2:List TSh:=[.row 30 (.pr .i (.pr (.sl .u8) .un))]
def lc8_2 (F:Nat):Lc:=mkLf [0,1,3,4,11,13,15,16,17] sA8_2 sT8_2 [0,1,4,13,15] sAp18_2 sTp18_2 (fun (x:dens sA8_2) (y:tdens sT8_2)=>F + (x.2.2.1).length) (fun x y (s:Int×(List (Int×(List UInt8)×Unit))×(List (Int×Bool)))=>L8_2 F x.2.1 x.2.2.1 y.1 s.1 s.2.1 s.2.2) (fun x y=>(x.2.2.2.2.2.2.2.2.1,y.2.1,y.2.2.1)) (fun x y (z:(List (Int×(List UInt8)×Unit)))=>((x.1,x.2.1,x.2.2.2.1,x.2.2.2.2.2.1,(),()),(z,())))
theorem le8_2 (F:Nat) (x:dens sA8_2) (y:tdens sT8_2) (s:Int×(List (Int×(List UInt8)×Unit))×(List (Int×Bool))):sev (E8 F) 0 [] (cAt (bodyOf Tryd.f8) (0 :: 0 :: [1,0,1,1,1,1,1,1,1])) (0 :: 0 :: [1,0,1,1,1,1,1,1,1]) (mkSt [0,1,3,4,11,13,15,16,17] sA8_2 sT8_2 (x.1,x.2.1,x.2.2.1,x.2.2.2.1,(),x.2.2.2.2.2.1,(),(),s.1,()) (y.1,s.2.1,s.2.2,())) (kLoop 0 [0,1,3,4,11,13,15,16,17] sA8_2 sT8_2 [0,1,4,13,15] sAp18_2 sTp18_2 [] [] [] 0 (fun x y=>some (.inl (x,y))) (fun x y=>some (.inr (.inl (x,y)))) (fun x y=>some (.inr (.inr (x,y))))) =
  L8_2c (β:=Full sA8_2 sT8_2 sAp18_2 sTp18_2 [] []) F x.2.1 x.2.2.1 y.1 s.1 s.2.1 s.2.2 (fun s=>some (.inl ((x.1,x.2.1,x.2.2.1,x.2.2.2.1,(),x.2.2.2.2.2.1,(),(),s.1,()),(y.1,s.2.1,s.2.2,())))) (fun z=>some (.inr (.inl ((x.1,x.2.1,x.2.2.2.1,x.2.2.2.2.2.1,(),()),(z,()))))):=by kernel_rfl
theorem lo8_2 (F:Nat):LcOk Tryd.prog (E8 F) 0 (lc8_2 F) (cAt (bodyOf Tryd.f8) [1,0,1,1,1,1,1,1,1]):=
 mkLf_ok fun n=>mkL_ok (F:=n) (lp:=[]) (id:=0) (b:=cAt (bodyOf Tryd.f8) (0 :: 0 :: [1,0,1,1,1,1,1,1,1])) cok (cts8 F) mixed trivial (by kernel_rfl) (by kernel_rfl) (fun x y s=>(x.1,x.2.1,x.2.2.1,x.2.2.2.1,(),x.2.2.2.2.2.1,(),(),s.1,())) (fun x y s=>(y.1,s.2.1,s.2.2,())) (fun x y=>rfl) (fun x y=>rfl) (fun x y s kA kO=>L8_2c F x.2.1 x.2.2.1 y.1 s.1 s.2.1 s.2.2 kA kO) (fun x y s kA kO=>L8_2n F x.2.1 x.2.2.1 y.1 s.1 s.2.1 s.2.2 kA kO) (le8_2 F)
def T8c (F:Nat) (p0:UInt8) (p1:Int) (p2:List UInt8) (p3:List Int) (p4:UInt8) {β:Type} (k:Bool->Option β):Option β:=
 (Option.bind (T9 F) fun z36=>(bif (!z36) then (Option.bind (T9 F) fun z37=>(k z37)) else (bif (decide (p1 < (1:Int))) then (Option.bind (T9 F) fun z38=>(k z38)) else (bif (decide ((5:Int) < p1)) then (Option.bind (T9 F) fun z39=>(k z39)) else (bif ((p2.length:Int) != (w64 ((32:Int) * (w64 (p1 - (1:Int)))))) then (Option.bind (T9 F) fun z40=>(k z40)) else (Option.bind (T22 F p0) fun z41=>(Option.bind (T10 F z41 p1 ([(0:Int),(1:Int),(2:Int),(3:Int),(4:Int),(5:Int)]:List Int) p2) fun z42=>(Option.bind (T22 F p0) fun z43=>(Option.bind (T16 F z43) fun z44=>(bif (z42.1 != (0:Int)) then (k false) else (bif (z44.2 != (0:Int)) then (k false) else (bif ((z42.2.length:Int) != (6:Int)) then (k false) else (Option.bind (iter (fun s=>L8_2 F p1 p3 z42.2 s.1 s.2.1 s.2.2) (F + p3.length) ((0:Int),([]:List (Int×(List UInt8)×Unit)),([]:List (Int×Bool)))) fun z62=>(bif (decide ((z62.length:Int) < p1)) then (Option.bind (T23 F p1 z62 z44.1) fun z63=>(k (z63.2 == (10:Int)))) else (Option.bind (T22 F p4) fun z64=>(Option.bind (gstr z64) fun x65=>(Option.bind (gapp ([((12:Int),x65,())]:List (Int×(List UInt8)×Unit)) z62) fun x66=>(Option.bind (T23 F p1 x66 z44.1) fun z67=>(bif (z67.2 == (0:Int)) then (Option.bind (T22 F p0) fun z68=>(bif (z67.1 == z68) then (k true) else (bif (z67.2 == (0:Int)) then (Option.bind (T24 F z67.1 z44.1) fun z69=>(k z69)) else (k false)))) else (bif (z67.2 == (0:Int)) then (Option.bind (T24 F z67.1 z44.1) fun z70=>(k z70)) else (k false)))))))))))))))))))))
def T8 (F:Nat) (p0:UInt8) (p1:Int) (p2:List UInt8) (p3:List Int) (p4:UInt8):Option (Bool):=T8c F p0 p1 p2 p3 p4 some
theorem T8n (F:Nat) (p0:UInt8) (p1:Int) (p2:List UInt8) (p3:List Int) (p4:UInt8) {β:Type} (k:Bool->Option β):T8c F p0 p1 p2 p3 p4 k=(T8 F p0 p1 p2 p3 p4).bind k:=by
 simp only [T8,T8c,Option.bind_assoc,cond_bind,Option.bind_some,Option.bind_none,elimS_bind]
abbrev cA8:List Sh:=[.u8,.i,(.ro .u8),(.ro .i),.u8]
abbrev cB8:List Sh:=[.bo]
abbrev cT8:List TSh:=[]
abbrev cU8:List TSh:=[]
def ct8 (F:Nat):Ct:=mkC 0 cA8 cT8 cB8 cU8 (fun x y=>T8 F x.1 x.2.1 x.2.2.1 x.2.2.2.1 x.2.2.2.2.1) (fun x y (z:Bool)=>((z,()),()))
theorem eq8 (F:Nat) (x:dens cA8) (y:tdens cT8):sev (E8 F) 0 [([1,0,1,1,1,1,1,1,1],lc8_2 F)] (bodyOf Tryd.f8) [] (mkSt (rng 5) cA8 cT8 x y) (kFn (E8 F) 0 Tryd.f8.results.toList cB8 cU8 fun p q=>some (p,q)) =
  T8c F x.1 x.2.1 x.2.2.1 x.2.2.2.1 x.2.2.2.2.1 (fun z=>some ((z,()),())):=by kernel_rfl
theorem ok8 (F:Nat):Sound Tryd.prog cfg 8 (ct8 F):=
 mkC_ok (E:=E8 F) (lp:=[([1,0,1,1,1,1,1,1,1],lc8_2 F)]) (code:=bodyOf Tryd.f8) Tryd.func8 rfl Tryd.ntmps8 rfl rfl cok (cts8 F) mixed ⟨lo8_2 F,trivial⟩ (by kernel_rfl) (fun x y k=>T8c F x.1 x.2.1 x.2.2.1 x.2.2.2.1 x.2.2.2.2.1 k) (fun x y k=>T8n F x.1 x.2.1 x.2.2.1 x.2.2.2.1 x.2.2.2.2.1 k) (eq8 F)
end Go.Proofs.YthikoaamigiceaaDoor
namespace Go.Tw
set_option linter.unusedSimpArgs false
set_option linter.unusedVariables false
def gd (x:UInt8):UInt8:=bif (x &&& 128) != 0 then (x <<< 1) ^^^ 29 else x <<< 1
def bit0 (b a:UInt8):UInt8:=bif (b &&& 1) == 1 then a else 0
def gml:Nat->UInt8->UInt8->UInt8
 | 0,_,_=>0
 | n + 1,a,b=>bit0 b a ^^^ gml n (gd a) (b >>> 1)
def gm (a b:UInt8):UInt8:=gml 8 a b
theorem allU {p:UInt8->Prop} (h:∀ i:_root_.Fin 256,p (UInt8.ofNat i.val)) (x:UInt8):p x:=by
 have:=h ⟨x.toNat,x.toNat_lt⟩
 simpa using this
theorem lo1 (b:UInt8):b &&& 1=0∨b &&& 1=1:=allU (p:=fun b=>b &&& 1=0∨b &&& 1=1) (by decide +kernel) b
theorem hi1 (b:UInt8):b &&& 128=0∨b &&& 128=128:=allU (p:=fun b=>b &&& 128=0∨b &&& 128=128) (by decide +kernel) b
theorem and_xor (a b c:UInt8):(a ^^^ b) &&& c=(a &&& c) ^^^ (b &&& c):=by
 apply UInt8.toBitVec_inj.1
 simp only [UInt8.toBitVec_and,UInt8.toBitVec_xor]
 ext i hi
 simp [Bool.and_xor_distrib_right]
theorem shr_xor (a b:UInt8):(a ^^^ b) >>> 1=(a >>> 1) ^^^ (b >>> 1):=by
 apply UInt8.toBitVec_inj.1
 simp only [UInt8.toBitVec_shiftRight,UInt8.toBitVec_xor]
 ext i hi
 simp
theorem shl_xor (a b:UInt8):(a ^^^ b) <<< 1=(a <<< 1) ^^^ (b <<< 1):=by
 apply UInt8.toBitVec_inj.1
 simp only [UInt8.toBitVec_shiftLeft,UInt8.toBitVec_xor]
 ext i hi
 simp [Bool.and_xor_distrib_left]
theorem xz (a:UInt8):a ^^^ 0=a:=by simp
theorem zx (a:UInt8):0 ^^^ a=a:=by simp
theorem xx (a:UInt8):a ^^^ a=0:=by simp
theorem gd_xor (a b:UInt8):gd (a ^^^ b)=gd a ^^^ gd b:=by
 have e1:((0:UInt8) != 0)=false:=rfl
 have e2:((128:UInt8) != 0)=true:=rfl
 have e3:((128 ^^^ 128:UInt8) != 0)=false:=rfl
 have e4:((0 ^^^ 128:UInt8) != 0)=true:=rfl
 have e5:((128 ^^^ 0:UInt8) != 0)=true:=rfl
 have e6:((0 ^^^ 0:UInt8) != 0)=false:=rfl
 unfold gd
 rw [and_xor,shl_xor]
 rcases hi1 a with ha | ha<;>rcases hi1 b with hb | hb<;>rw [ha,hb]<;>simp only [e1,e2,e3,e4,e5,e6,cond_true,cond_false]
 ·rw [UInt8.xor_assoc]
 ·rw [UInt8.xor_assoc,UInt8.xor_assoc,UInt8.xor_comm (b <<< (1:UInt8)) (29:UInt8)]
 ·have:((a <<< (1:UInt8)) ^^^ (29:UInt8)) ^^^ ((b <<< (1:UInt8)) ^^^ (29:UInt8))=((a <<< (1:UInt8)) ^^^ (b <<< (1:UInt8))) ^^^ ((29:UInt8) ^^^ 29):=by ac_rfl
  rw [this,xx,xz]
theorem bit0_xor (b c a:UInt8):bit0 (b ^^^ c) a=bit0 b a ^^^ bit0 c a:=by
 have e1:((0:UInt8) == 1)=false:=rfl
 have e2:((1:UInt8) == 1)=true:=rfl
 have e3:((1 ^^^ 1:UInt8) == 1)=false:=rfl
 have e4:((0 ^^^ 1:UInt8) == 1)=true:=rfl
 have e5:((1 ^^^ 0:UInt8) == 1)=true:=rfl
 have e6:((0 ^^^ 0:UInt8) == 1)=false:=rfl
 unfold bit0
 rw [and_xor]
 rcases lo1 b with hb | hb<;>rcases lo1 c with hc | hc<;>rw [hb,hc]<;>simp only [e1,e2,e3,e4,e5,e6,cond_true,cond_false,xx,xz,zx]
theorem bit0_add (b a c:UInt8):bit0 b (a ^^^ c)=bit0 b a ^^^ bit0 b c:=by
 unfold bit0
 cases (b &&& 1) == 1
 ·simp only [cond_false,xx]
 ·rfl
theorem gml_right:∀ (n:Nat) (a b c:UInt8),gml n a (b ^^^ c)=gml n a b ^^^ gml n a c
 | 0,a,b,c=>by simp only [gml,xx]
 | n + 1,a,b,c=>by
  simp only [gml,bit0_xor,shr_xor,gml_right n]
  ac_rfl
theorem gml_left:∀ (n:Nat) (a b c:UInt8),gml n (a ^^^ b) c=gml n a c ^^^ gml n b c
 | 0,a,b,c=>by simp only [gml,xx]
 | n + 1,a,b,c=>by
  simp only [gml,bit0_add,gd_xor,gml_left n]
  ac_rfl
theorem gm_right (a b c:UInt8):gm a (b ^^^ c)=gm a b ^^^ gm a c:=gml_right 8 a b c
theorem gm_left (a b c:UInt8):gm (a ^^^ b) c=gm a c ^^^ gm b c:=gml_left 8 a b c
def pick1 (b m:UInt8):UInt8:=bif (b &&& m) != 0 then m else 0
theorem bits8 (b:UInt8):b=pick1 b 1 ^^^ (pick1 b 2 ^^^ (pick1 b 4 ^^^ (pick1 b 8 ^^^ (pick1 b 16 ^^^ (pick1 b 32 ^^^ (pick1 b 64 ^^^ pick1 b 128)))))):=
 allU (p:=fun b=>b=pick1 b 1 ^^^ (pick1 b 2 ^^^ (pick1 b 4 ^^^ (pick1 b 8 ^^^ (pick1 b 16 ^^^ (pick1 b 32 ^^^ (pick1 b 64 ^^^ pick1 b 128))))))) (by decide +kernel) b
def Lin (f:UInt8->UInt8):Prop:=∀ x y,f (x ^^^ y)=f x ^^^ f y
theorem Lin.zero {f:UInt8->UInt8} (h:Lin f):f 0=0:=by
 have:=h 0 0
 rw [xx,xx] at this
 exact this
theorem Lin.pick {f:UInt8->UInt8} (h:Lin f) (b m:UInt8):f (pick1 b m)=bif (b &&& m) != 0 then f m else 0:=by
 unfold pick1
 cases (b &&& m) != 0
 ·exact h.zero
 ·rfl
theorem Lin.ext {f g:UInt8->UInt8} (hf:Lin f) (hg:Lin g) (h:∀ i:_root_.Fin 8,f (1 <<< UInt8.ofNat i.val)=g (1 <<< UInt8.ofNat i.val)) (x:UInt8):f x=g x:=by
 have h0:f 1=g 1:=h 0
 have h1:f 2=g 2:=h 1
 have h2:f 4=g 4:=h 2
 have h3:f 8=g 8:=h 3
 have h4:f 16=g 16:=h 4
 have h5:f 32=g 32:=h 5
 have h6:f 64=g 64:=h 6
 have h7:f 128=g 128:=h 7
 have e:=bits8 x
 generalize hb:x=b at e ⊢
 rw [e]
 simp only [hf _ _,hg _ _,hf.pick,hg.pick,h0,h1,h2,h3,h4,h5,h6,h7]
theorem gm_linR (a:UInt8):Lin (gm a):=gm_right a
theorem gm_linL (c:UInt8):Lin (fun a=>gm a c):=fun a b=>gm_left a b c
theorem gm_comm (a b:UInt8):gm a b=gm b a:=by
 refine Lin.ext (f:=gm a) (g:=fun b=>gm b a) (gm_linR a) (gm_linL a) (fun i=>?_) b
 refine Lin.ext (f:=fun a=>gm a (1 <<< UInt8.ofNat i.val)) (g:=fun a=>gm (1 <<< UInt8.ofNat i.val) a) (gm_linL _) (gm_linR _) (fun j=>?_) a
 revert i j
 decide
theorem gm_assoc (a b c:UInt8):gm (gm a b) c=gm a (gm b c):=by
 refine Lin.ext (f:=fun c=>gm (gm a b) c) (g:=fun c=>gm a (gm b c)) (gm_linR _) (fun x y=>by simp only [gm_right]) (fun i=>?_) c
 refine Lin.ext (f:=fun b=>gm (gm a b) (1 <<< UInt8.ofNat i.val)) (g:=fun b=>gm a (gm b (1 <<< UInt8.ofNat i.val))) (fun x y=>by simp only [gm_right,gm_left]) (fun x y=>by simp only [gm_right,gm_left]) (fun j=>?_) b
 refine Lin.ext (f:=fun a=>gm (gm a (1 <<< UInt8.ofNat j.val)) (1 <<< UInt8.ofNat i.val)) (g:=fun a=>gm a (gm (1 <<< UInt8.ofNat j.val) (1 <<< UInt8.ofNat i.val))) (fun x y=>by simp only [gm_left]) (fun x y=>by simp only [gm_left]) (fun k=>?_) a
 revert i j k
 decide +kernel
theorem gm_zero (a:UInt8):gm a 0=0:=(gm_linR a).zero
theorem zero_gm (a:UInt8):gm 0 a=0:=(gm_linL a).zero
theorem gm_one (a:UInt8):gm a 1=a:=by
 refine Lin.ext (f:=fun a=>gm a 1) (g:=fun a=>a) (gm_linL 1) (fun x y=>rfl) (fun i=>?_) a
 revert i
 decide
theorem one_gm (a:UInt8):gm 1 a=a:=by rw [gm_comm,gm_one]
end Go.Tw
namespace Go.Proofs.YthikoaamigiceaaDoor
open Go.Tw
set_option linter.unusedSimpArgs false
set_option linter.unusedVariables false
def L101_3c (F:Nat) (y19:List UInt8) {β:Type} (kA:((List UInt8))->Option β) (kO:((List UInt8))->Option β):Option β:=
 (bif ((Int.tmod (y19.length:Int) (64:Int)) != (56:Int)) then (Option.bind (gapp y19 ([(UInt8.ofNat 0)]:List UInt8)) fun x21=>(kA x21)) else (kO y19))
def L101_3 (F:Nat) (y19:List UInt8):Option (((List UInt8)) ⊕ ((List UInt8))):=L101_3c F y19 (fun s=>some (.inl s)) (fun z=>some (.inr z))
def L101_4c (F:Nat) (y23:UInt64) (y24:Int) (y25:List UInt8) {β:Type} (kA:(Int×(List UInt8))->Option β) (kO:((List UInt8))->Option β):Option β:=
 (bif (decide ((0:Int)≤y24)) then (Option.bind (gnn (w64 ((8:Int) * y24))) fun x28=>(Option.bind (gapp y25 ([((shr64 y23 x28).toUInt8)]:List UInt8)) fun x29=>(kA ((w64 (y24 - (1:Int))),x29)))) else (kO y25))
def L101_4 (F:Nat) (y23:UInt64) (y24:Int) (y25:List UInt8):Option ((Int×(List UInt8)) ⊕ ((List UInt8))):=L101_4c F y23 y24 y25 (fun s=>some (.inl s)) (fun z=>some (.inr z))
def T101c (F:Nat) (p0:List UInt8) {β:Type} (k:((List UInt8))->Option β):Option β:=
 (Option.bind (gapp ([]:List UInt8) p0) fun x16=>(Option.bind (gapp x16 ([(UInt8.ofNat 128)]:List UInt8)) fun x17=>(Option.bind (iter (fun s=>L101_3 F s) F x17) fun z22=>(Option.bind (iter (fun s=>L101_4 F ((UInt64.ofInt (p0.length:Int)) * (UInt64.ofNat 8)) s.1 s.2) F ((7:Int),z22)) fun z30=>(k z30)))))
def T101 (F:Nat) (p0:List UInt8):Option ((List UInt8)):=T101c F p0 some
def T111c (F:Nat) {β:Type} (k:((Vector UInt32 64))->Option β):Option β:=
 (k (#v[(UInt32.ofNat 1116352408),(UInt32.ofNat 1899447441),(UInt32.ofNat 3049323471),(UInt32.ofNat 3921009573),(UInt32.ofNat 961987163),(UInt32.ofNat 1508970993),(UInt32.ofNat 2453635748),(UInt32.ofNat 2870763221),(UInt32.ofNat 3624381080),(UInt32.ofNat 310598401),(UInt32.ofNat 607225278),(UInt32.ofNat 1426881987),(UInt32.ofNat 1925078388),(UInt32.ofNat 2162078206),(UInt32.ofNat 2614888103),(UInt32.ofNat 3248222580),(UInt32.ofNat 3835390401),(UInt32.ofNat 4022224774),(UInt32.ofNat 264347078),(UInt32.ofNat 604807628),(UInt32.ofNat 770255983),(UInt32.ofNat 1249150122),(UInt32.ofNat 1555081692),(UInt32.ofNat 1996064986),(UInt32.ofNat 2554220882),(UInt32.ofNat 2821834349),(UInt32.ofNat 2952996808),(UInt32.ofNat 3210313671),(UInt32.ofNat 3336571891),(UInt32.ofNat 3584528711),(UInt32.ofNat 113926993),(UInt32.ofNat 338241895),(UInt32.ofNat 666307205),(UInt32.ofNat 773529912),(UInt32.ofNat 1294757372),(UInt32.ofNat 1396182291),(UInt32.ofNat 1695183700),(UInt32.ofNat 1986661051),(UInt32.ofNat 2177026350),(UInt32.ofNat 2456956037),(UInt32.ofNat 2730485921),(UInt32.ofNat 2820302411),(UInt32.ofNat 3259730800),(UInt32.ofNat 3345764771),(UInt32.ofNat 3516065817),(UInt32.ofNat 3600352804),(UInt32.ofNat 4094571909),(UInt32.ofNat 275423344),(UInt32.ofNat 430227734),(UInt32.ofNat 506948616),(UInt32.ofNat 659060556),(UInt32.ofNat 883997877),(UInt32.ofNat 958139571),(UInt32.ofNat 1322822218),(UInt32.ofNat 1537002063),(UInt32.ofNat 1747873779),(UInt32.ofNat 1955562222),(UInt32.ofNat 2024104815),(UInt32.ofNat 2227730452),(UInt32.ofNat 2361852424),(UInt32.ofNat 2428436474),(UInt32.ofNat 2756734187),(UInt32.ofNat 3204031479),(UInt32.ofNat 3329325298)]:Vector UInt32 64))
def T111 (F:Nat):Option ((Vector UInt32 64)):=T111c F some
def T112c (F:Nat) (p0:UInt32) (p1:Int) {β:Type} (k:UInt32->Option β):Option β:=
 (Option.bind (gnn p1) fun x3=>(Option.bind (gnn (w64 ((32:Int) - p1))) fun x4=>(k ((shr32 p0 x3) ||| (shl32 p0 x4)))))
def T112 (F:Nat) (p0:UInt32) (p1:Int):Option (UInt32):=T112c F p0 p1 some
def L102_5c (F:Nat) (y126:List UInt8) (y127:Int) (y131:Vector UInt32 64) {β:Type} (kA:(Int×(Vector UInt32 64))->Option β) (kO:((Vector UInt32 64))->Option β):Option β:=
 (bif (decide (y127 < (16:Int))) then (Option.bind (ix y126 (w64 ((4:Int) * y127))) fun x137=>(Option.bind (ix y126 (w64 ((w64 ((4:Int) * y127)) + (1:Int)))) fun x138=>(Option.bind (ix y126 (w64 ((w64 ((4:Int) * y127)) + (2:Int)))) fun x139=>(Option.bind (ix y126 (w64 ((w64 ((4:Int) * y127)) + (3:Int)))) fun x140=>(Option.bind (inb 64 y127) fun x141=>(kA ((w64 (y127 + (1:Int))),(Vector.setIfInBounds y131 x141 ((((shl32 (x137.toUInt32) ((UInt64.ofNat 24).toNat)) ||| (shl32 (x138.toUInt32) ((UInt64.ofNat 16).toNat))) ||| (shl32 (x139.toUInt32) ((UInt64.ofNat 8).toNat))) ||| (x140.toUInt32)))))))))) else (kO y131))
def L102_5 (F:Nat) (y126:List UInt8) (y127:Int) (y131:Vector UInt32 64):Option ((Int×(Vector UInt32 64)) ⊕ ((Vector UInt32 64))):=L102_5c F y126 y127 y131 (fun s=>some (.inl s)) (fun z=>some (.inr z))
def L102_6c (F:Nat) (y143:Int) (y147:Vector UInt32 64) {β:Type} (kA:(Int×(Vector UInt32 64))->Option β) (kO:((Vector UInt32 64))->Option β):Option β:=
 (bif (decide (y143 < (64:Int))) then (Option.bind (inb 64 (w64 (y143 - (15:Int)))) fun x169=>(Option.bind (vat y147 x169) fun x170=>(Option.bind (inb 64 (w64 (y143 - (15:Int)))) fun x171=>(Option.bind (vat y147 x171) fun x172=>(Option.bind (inb 64 (w64 (y143 - (15:Int)))) fun x173=>(Option.bind (vat y147 x173) fun x174=>(Option.bind (T112 F x170 (7:Int)) fun z175=>(Option.bind (T112 F x172 (18:Int)) fun z176=>(Option.bind (inb 64 (w64 (y143 - (2:Int)))) fun x177=>(Option.bind (vat y147 x177) fun x178=>(Option.bind (inb 64 (w64 (y143 - (2:Int)))) fun x179=>(Option.bind (vat y147 x179) fun x180=>(Option.bind (inb 64 (w64 (y143 - (2:Int)))) fun x181=>(Option.bind (vat y147 x181) fun x182=>(Option.bind (T112 F x178 (17:Int)) fun z183=>(Option.bind (T112 F x180 (19:Int)) fun z184=>(Option.bind (inb 64 (w64 (y143 - (7:Int)))) fun x185=>(Option.bind (vat y147 x185) fun x186=>(Option.bind (inb 64 (w64 (y143 - (16:Int)))) fun x187=>(Option.bind (vat y147 x187) fun x188=>(Option.bind (inb 64 y143) fun x189=>(kA ((w64 (y143 + (1:Int))),(Vector.setIfInBounds y147 x189 (((((z183 ^^^ z184) ^^^ (shr32 x182 ((UInt64.ofNat 10).toNat))) + x186) + ((z175 ^^^ z176) ^^^ (shr32 x174 ((UInt64.ofNat 3).toNat)))) + x188))))))))))))))))))))))))) else (kO y147))
def L102_6 (F:Nat) (y143:Int) (y147:Vector UInt32 64):Option ((Int×(Vector UInt32 64)) ⊕ ((Vector UInt32 64))):=L102_6c F y143 y147 (fun s=>some (.inl s)) (fun z=>some (.inr z))
def L102_7c (F:Nat) (y194:Vector UInt32 64) (y195:Vector UInt32 64) (y191:Int) (y196:Vector UInt32 8) {β:Type} (kA:(Int×(Vector UInt32 8))->Option β) (kO:((Vector UInt32 8))->Option β):Option β:=
 (bif (decide (y191 < (64:Int))) then (Option.bind (vat y196 0) fun x215=>(Option.bind (vat y196 1) fun x216=>(Option.bind (vat y196 2) fun x217=>(Option.bind (vat y196 4) fun x218=>(Option.bind (vat y196 5) fun x219=>(Option.bind (vat y196 6) fun x220=>(Option.bind (vat y196 7) fun x221=>(Option.bind (inb 64 y191) fun x222=>(Option.bind (vat y194 x222) fun x223=>(Option.bind (inb 64 y191) fun x224=>(Option.bind (vat y195 x224) fun x225=>(Option.bind (T112 F x218 (6:Int)) fun z226=>(Option.bind (T112 F x218 (11:Int)) fun z227=>(Option.bind (T112 F x218 (25:Int)) fun z228=>(Option.bind (T112 F x215 (2:Int)) fun z229=>(Option.bind (T112 F x215 (13:Int)) fun z230=>(Option.bind (T112 F x215 (22:Int)) fun z231=>(Option.bind (vat y196 3) fun x232=>(kA ((w64 (y191 + (1:Int))),(#v[(((((x221 + ((z226 ^^^ z227) ^^^ z228)) + ((x218 &&& x219) ^^^ ((~~~x218) &&& x220))) + x223) + x225) + (((z229 ^^^ z230) ^^^ z231) + (((x215 &&& x216) ^^^ (x215 &&& x217)) ^^^ (x216 &&& x217)))),x215,x216,x217,(x232 + ((((x221 + ((z226 ^^^ z227) ^^^ z228)) + ((x218 &&& x219) ^^^ ((~~~x218) &&& x220))) + x223) + x225)),x218,x219,x220]:Vector UInt32 8))))))))))))))))))))) else (kO y196))
def L102_7 (F:Nat) (y194:Vector UInt32 64) (y195:Vector UInt32 64) (y191:Int) (y196:Vector UInt32 8):Option ((Int×(Vector UInt32 8)) ⊕ ((Vector UInt32 8))):=L102_7c F y194 y195 y191 y196 (fun s=>some (.inl s)) (fun z=>some (.inr z))
def L102_8c (F:Nat) (y235:Vector UInt32 8) (y234:Int) (y237:Vector UInt32 8) {β:Type} (kA:(Int×(Vector UInt32 8))->Option β) (kO:((Vector UInt32 8))->Option β):Option β:=
 (bif (decide (y234 < (8:Int))) then (Option.bind (inb 8 y234) fun x243=>(Option.bind (vat y237 x243) fun x244=>(Option.bind (inb 8 y234) fun x245=>(Option.bind (vat y235 x245) fun x246=>(Option.bind (inb 8 y234) fun x247=>(kA ((w64 (y234 + (1:Int))),(Vector.setIfInBounds y237 x247 (x244 + x246))))))))) else (kO y237))
def L102_8 (F:Nat) (y235:Vector UInt32 8) (y234:Int) (y237:Vector UInt32 8):Option ((Int×(Vector UInt32 8)) ⊕ ((Vector UInt32 8))):=L102_8c F y235 y234 y237 (fun s=>some (.inl s)) (fun z=>some (.inr z))
def T102c (F:Nat) (p0:Vector UInt32 8) (p1:List UInt8) {β:Type} (k:((Vector UInt32 8))->Option β):Option β:=
 (Option.bind (T111 F) fun z125=>(Option.bind (iter (fun s=>L102_5 F p1 s.1 s.2) F ((0:Int),(Vector.replicate 64 (0:UInt32)))) fun z142=>(Option.bind (iter (fun s=>L102_6 F s.1 s.2) F ((16:Int),z142)) fun z190=>(Option.bind (iter (fun s=>L102_7 F z125 z190 s.1 s.2) F ((0:Int),p0)) fun z233=>(Option.bind (iter (fun s=>L102_8 F p0 s.1 s.2) F ((0:Int),z233)) fun z248=>(k z248))))))
def T102 (F:Nat) (p0:Vector UInt32 8) (p1:List UInt8):Option ((Vector UInt32 8)):=T102c F p0 p1 some
def L87_3c (F:Nat) (y35:List UInt8) (y33:Int) (y34:Vector UInt32 8) {β:Type} (kA:(Int×(Vector UInt32 8))->Option β) (kO:((Vector UInt32 8))->Option β):Option β:=
 (bif (decide (y33 < (y35.length:Int))) then (Option.bind (gslb y35.length y33 (w64 (y33 + (64:Int)))) fun x38=>(Option.bind (T102 F y34 ((y35.drop x38.1).take (x38.2 - x38.1))) fun z39=>(kA ((w64 (y33 + (64:Int))),z39)))) else (kO y34))
def L87_3 (F:Nat) (y35:List UInt8) (y33:Int) (y34:Vector UInt32 8):Option ((Int×(Vector UInt32 8)) ⊕ ((Vector UInt32 8))):=L87_3c F y35 y33 y34 (fun s=>some (.inl s)) (fun z=>some (.inr z))
def L87_4c (F:Nat) (y42:Vector UInt32 8) (y41:Int) (y43:List UInt8) {β:Type} (kA:(Int×(List UInt8))->Option β) (kO:((List UInt8))->Option β):Option β:=
 (bif (decide (y41 < (8:Int))) then (Option.bind (inb 8 y41) fun x53=>(Option.bind (vat y42 x53) fun x54=>(Option.bind (inb 8 y41) fun x55=>(Option.bind (vat y42 x55) fun x56=>(Option.bind (inb 8 y41) fun x57=>(Option.bind (vat y42 x57) fun x58=>(Option.bind (inb 8 y41) fun x59=>(Option.bind (vat y42 x59) fun x60=>(Option.bind (gapp y43 ([((shr32 x54 ((UInt64.ofNat 24).toNat)).toUInt8),((shr32 x56 ((UInt64.ofNat 16).toNat)).toUInt8),((shr32 x58 ((UInt64.ofNat 8).toNat)).toUInt8),(x60.toUInt8)]:List UInt8)) fun x61=>(kA ((w64 (y41 + (1:Int))),x61))))))))))) else (kO y43))
def L87_4 (F:Nat) (y42:Vector UInt32 8) (y41:Int) (y43:List UInt8):Option ((Int×(List UInt8)) ⊕ ((List UInt8))):=L87_4c F y42 y41 y43 (fun s=>some (.inl s)) (fun z=>some (.inr z))
def T87c (F:Nat) (p0:List UInt8) {β:Type} (k:((List UInt8))->Option β):Option β:=
 (Option.bind (T101 F p0) fun z32=>(Option.bind (iter (fun s=>L87_3 F z32 s.1 s.2) F ((0:Int),(#v[(UInt32.ofNat 1779033703),(UInt32.ofNat 3144134277),(UInt32.ofNat 1013904242),(UInt32.ofNat 2773480762),(UInt32.ofNat 1359893119),(UInt32.ofNat 2600822924),(UInt32.ofNat 528734635),(UInt32.ofNat 1541459225)]:Vector UInt32 8))) fun z40=>(Option.bind (iter (fun s=>L87_4 F z40 s.1 s.2) F ((0:Int),([]:List UInt8))) fun z62=>(k z62))))
def T87 (F:Nat) (p0:List UInt8):Option ((List UInt8)):=T87c F p0 some
def L88_2c (F:Nat) (y12:List UInt8) (y13:UInt8) (y14:Int) (y15:List UInt8) {β:Type} (kA:(Int×(List UInt8))->Option β) (kO:((List UInt8))->Option β):Option β:=
 (bif (decide (y14 < (64:Int))) then (bif (decide (y14 < (y12.length:Int))) then (Option.bind (ix y12 y14) fun x19=>(Option.bind (gapp y15 ([(x19 ^^^ y13)]:List UInt8)) fun x20=>(kA ((w64 (y14 + (1:Int))),x20)))) else (Option.bind (gapp y15 ([((UInt8.ofNat 0) ^^^ y13)]:List UInt8)) fun x21=>(kA ((w64 (y14 + (1:Int))),x21)))) else (kO y15))
def L88_2 (F:Nat) (y12:List UInt8) (y13:UInt8) (y14:Int) (y15:List UInt8):Option ((Int×(List UInt8)) ⊕ ((List UInt8))):=L88_2c F y12 y13 y14 y15 (fun s=>some (.inl s)) (fun z=>some (.inr z))
def T88c (F:Nat) (p0:List UInt8) (p1:UInt8) {β:Type} (k:((List UInt8))->Option β):Option β:=
 (Option.bind (iter (fun s=>L88_2 F p0 p1 s.1 s.2) F ((0:Int),([]:List UInt8))) fun z22=>(k z22))
def T88 (F:Nat) (p0:List UInt8) (p1:UInt8):Option ((List UInt8)):=T88c F p0 p1 some
def T66c (F:Nat) (p0:List UInt8) (p1:List UInt8) {β:Type} (k:((List UInt8))->Option β):Option β:=
 (bif (decide ((64:Int) < (p0.length:Int))) then (Option.bind (gstr p0) fun x17=>(Option.bind (T87 F x17) fun z18=>(Option.bind (T88 F z18 (UInt8.ofNat 54)) fun z19=>(Option.bind (gapp z19 p1) fun x20=>(Option.bind (T87 F x20) fun z21=>(Option.bind (T88 F z18 (UInt8.ofNat 92)) fun z22=>(Option.bind (gstr z21) fun x23=>(Option.bind (gapp z22 x23) fun x24=>(Option.bind (T87 F x24) fun z25=>(k z25)))))))))) else (Option.bind (T88 F p0 (UInt8.ofNat 54)) fun z26=>(Option.bind (gapp z26 p1) fun x27=>(Option.bind (T87 F x27) fun z28=>(Option.bind (T88 F p0 (UInt8.ofNat 92)) fun z29=>(Option.bind (gstr z28) fun x30=>(Option.bind (gapp z29 x30) fun x31=>(Option.bind (T87 F x31) fun z32=>(k z32)))))))))
def T66 (F:Nat) (p0:List UInt8) (p1:List UInt8):Option ((List UInt8)):=T66c F p0 p1 some
theorem it_again {σ ρ:Type} {f:σ->Option (σ ⊕ ρ)} {n:Nat} {s s':σ} (h:f s=some (.inl s')):iter f (n + 1) s=iter f n s':=by simp [iter,h]
theorem it_out {σ ρ:Type} {f:σ->Option (σ ⊕ ρ)} {n:Nat} {s:σ} {r:ρ} (h:f s=some (.inr r)):iter f (n + 1) s=some r:=by simp [iter,h]
theorem ix_nat {α:Type} {l:List α} {i:Nat} (h:i < l.length):ix l ((i:Nat):Int)=some l[i]:=by
 unfold ix;rw [if_pos (by omega)];simp only [Int.toNat_natCast];exact List.getElem?_eq_getElem h
theorem iter2 {σ τ ρ ρ':Type} {f:σ->Option (σ ⊕ ρ)} {g:τ->Option (τ ⊕ ρ')} (R:σ->τ->Prop) (Q:ρ->ρ'->Prop) (μ:σ->Nat)
  (h:∀ s t,R s t->(∃ s' t',f s=some (.inl s')∧g t=some (.inl t')∧R s' t'∧μ s' < μ s)∨(∃ r r',f s=some (.inr r)∧g t=some (.inr r')∧Q r r')) :
  ∀ (n m:Nat) (s:σ) (t:τ),R s t->μ s < n->μ s < m->∃ r r',iter f n s=some r∧iter g m t=some r'∧Q r r'
 | 0,m,s,t,hR,hn,hm=>absurd hn (by omega)
 | n + 1,0,s,t,hR,hn,hm=>absurd hm (by omega)
 | n + 1,m + 1,s,t,hR,hn,hm=>by
  rcases h s t hR with ⟨s',t',h1,h2,h3,h4⟩ | ⟨r,r',h1,h2,h3⟩
  ·rw [it_again h1,it_again h2]
   exact iter2 R Q μ h n m s' t' h3 (by omega) (by omega)
  ·exact ⟨r,r',it_out h1,it_out h2,h3⟩
theorem iter1 {σ ρ:Type} {f:σ->Option (σ ⊕ ρ)} (R:σ->Prop) (Q:ρ->Prop) (μ:σ->Nat)
  (h:∀ s,R s->(∃ s',f s=some (.inl s')∧R s'∧μ s' < μ s)∨(∃ r,f s=some (.inr r)∧Q r)) :
  ∀ (n:Nat) (s:σ),R s->μ s < n->∃ r,iter f n s=some r∧Q r
 | 0,s,hR,hn=>absurd hn (by omega)
 | n + 1,s,hR,hn=>by
  rcases h s hR with ⟨s',h1,h3,h4⟩ | ⟨r,h1,h3⟩
  ·rw [it_again h1]
   exact iter1 R Q μ h n s' h3 (by omega)
  ·exact ⟨r,it_out h1,h3⟩
theorem iterP {σ τ ρ ρ':Type} {f:σ->Option (σ ⊕ ρ)} {g:τ->Option (τ ⊕ ρ')} (R:σ->τ->Prop) (Q:σ->ρ'->Prop) (μ:σ->Nat)
  (h:∀ s t,R s t->(∃ s' t',f s=some (.inl s')∧g t=some (.inl t')∧R s' t'∧μ s' < μ s)∨(∃ r',g t=some (.inr r')∧Q s r')) :
  ∀ (m:Nat) (s:σ) (t:τ),R s t->μ s < m->∃ k s' r',k≤μ s∧iter g m t=some r'∧Q s' r'∧∀ n,iter f (n + k) s=iter f n s'
 | 0,s,t,hR,hm=>absurd hm (by omega)
 | m + 1,s,t,hR,hm=>by
  rcases h s t hR with ⟨s',t',h1,h2,h3,h4⟩ | ⟨r',h1,h2⟩
  ·obtain ⟨k,s'',r',a1,a2,a3,a4⟩:=iterP R Q μ h m s' t' h3 (by omega)
   exact ⟨k + 1,s'',r',by omega,(it_again h2).trans a2,a3,fun n=>(it_again (n:=n + k) h1).trans (a4 n)⟩
  ·exact ⟨0,s,r',by omega,it_out h1,h2,fun n=>rfl⟩
theorem inb_nat {n i:Nat} (h:i < n):inb n ((i:Nat):Int)=some i:=by
 unfold inb;rw [if_pos (by omega)];simp only [Int.toNat_natCast]
theorem vat_nat {α:Type} {n i:Nat} {v:Vector α n} (h:i < n):vat v i=some v[i]:=by
 rw [vat_eq];exact getElem?_pos v i h
theorem vix_nat {α:Type} {n i:Nat} {v:Vector α n} (h:i < n):vix v ((i:Nat):Int)=some v[i]:=by
 unfold vix;rw [if_pos (by omega)];simp only [Int.toNat_natCast];exact getElem?_pos v i h
theorem gsl_nat {α:Type} {l:List α} {a b:Nat} (h:a≤b) (hb:b≤l.length):gsl l ((a:Nat):Int) ((b:Nat):Int)=some ((l.drop a).take (b - a)):=by
 unfold gsl;rw [if_pos (by omega)];simp only [Int.toNat_natCast]
theorem gslb_nat {n a b:Nat} (h:a≤b) (hb:b≤n):gslb n ((a:Nat):Int) ((b:Nat):Int)=some (a,b):=by
 unfold gslb;rw [if_pos (by omega)];simp only [Int.toNat_natCast]
theorem ix_dt {p:List UInt8} {a k:Nat} (h:a + k < p.length) (hk:k < 4):ix ((p.drop a).take 4) ((k:Nat):Int)=some p[a + k]:=by
 rw [ix_nat (by simp;omega)];simp
def rr (x:UInt32) (k:Nat):UInt32:=shr32 x k ||| shl32 x (32 - k)
theorem a94_17 (F:Nat) (x:UInt32):T117 F x (-17)=some (rr x 17):=by
 have e1:((UInt64.ofInt (-17)) &&& (UInt64.ofNat 31)).toNat=15:=by decide +kernel
 have e2:((UInt64.ofNat 32) - ((UInt64.ofInt (-17)) &&& (UInt64.ofNat 31))).toNat=17:=by decide +kernel
 simp only [T117,T117c,e1,e2,rr]
 rw [UInt32.or_comm]
theorem a93_17 (F:Nat) (x:UInt32):T112 F x 17=some (rr x 17):=by
 have e1:gnn (17:Int)=some 17:=by decide +kernel
 have e2:gnn (w64 ((32:Int) - 17))=some 15:=by decide +kernel
 simp only [T112,T112c,e1,e2,rr,Option.bind_some]
theorem a94_19 (F:Nat) (x:UInt32):T117 F x (-19)=some (rr x 19):=by
 have e1:((UInt64.ofInt (-19)) &&& (UInt64.ofNat 31)).toNat=13:=by decide +kernel
 have e2:((UInt64.ofNat 32) - ((UInt64.ofInt (-19)) &&& (UInt64.ofNat 31))).toNat=19:=by decide +kernel
 simp only [T117,T117c,e1,e2,rr]
 rw [UInt32.or_comm]
theorem a93_19 (F:Nat) (x:UInt32):T112 F x 19=some (rr x 19):=by
 have e1:gnn (19:Int)=some 19:=by decide +kernel
 have e2:gnn (w64 ((32:Int) - 19))=some 13:=by decide +kernel
 simp only [T112,T112c,e1,e2,rr,Option.bind_some]
theorem a94_7 (F:Nat) (x:UInt32):T117 F x (-7)=some (rr x 7):=by
 have e1:((UInt64.ofInt (-7)) &&& (UInt64.ofNat 31)).toNat=25:=by decide +kernel
 have e2:((UInt64.ofNat 32) - ((UInt64.ofInt (-7)) &&& (UInt64.ofNat 31))).toNat=7:=by decide +kernel
 simp only [T117,T117c,e1,e2,rr]
 rw [UInt32.or_comm]
theorem a93_7 (F:Nat) (x:UInt32):T112 F x 7=some (rr x 7):=by
 have e1:gnn (7:Int)=some 7:=by decide +kernel
 have e2:gnn (w64 ((32:Int) - 7))=some 25:=by decide +kernel
 simp only [T112,T112c,e1,e2,rr,Option.bind_some]
theorem a94_18 (F:Nat) (x:UInt32):T117 F x (-18)=some (rr x 18):=by
 have e1:((UInt64.ofInt (-18)) &&& (UInt64.ofNat 31)).toNat=14:=by decide +kernel
 have e2:((UInt64.ofNat 32) - ((UInt64.ofInt (-18)) &&& (UInt64.ofNat 31))).toNat=18:=by decide +kernel
 simp only [T117,T117c,e1,e2,rr]
 rw [UInt32.or_comm]
theorem a93_18 (F:Nat) (x:UInt32):T112 F x 18=some (rr x 18):=by
 have e1:gnn (18:Int)=some 18:=by decide +kernel
 have e2:gnn (w64 ((32:Int) - 18))=some 14:=by decide +kernel
 simp only [T112,T112c,e1,e2,rr,Option.bind_some]
theorem a94_6 (F:Nat) (x:UInt32):T117 F x (-6)=some (rr x 6):=by
 have e1:((UInt64.ofInt (-6)) &&& (UInt64.ofNat 31)).toNat=26:=by decide +kernel
 have e2:((UInt64.ofNat 32) - ((UInt64.ofInt (-6)) &&& (UInt64.ofNat 31))).toNat=6:=by decide +kernel
 simp only [T117,T117c,e1,e2,rr]
 rw [UInt32.or_comm]
theorem a93_6 (F:Nat) (x:UInt32):T112 F x 6=some (rr x 6):=by
 have e1:gnn (6:Int)=some 6:=by decide +kernel
 have e2:gnn (w64 ((32:Int) - 6))=some 26:=by decide +kernel
 simp only [T112,T112c,e1,e2,rr,Option.bind_some]
theorem a94_11 (F:Nat) (x:UInt32):T117 F x (-11)=some (rr x 11):=by
 have e1:((UInt64.ofInt (-11)) &&& (UInt64.ofNat 31)).toNat=21:=by decide +kernel
 have e2:((UInt64.ofNat 32) - ((UInt64.ofInt (-11)) &&& (UInt64.ofNat 31))).toNat=11:=by decide +kernel
 simp only [T117,T117c,e1,e2,rr]
 rw [UInt32.or_comm]
theorem a93_11 (F:Nat) (x:UInt32):T112 F x 11=some (rr x 11):=by
 have e1:gnn (11:Int)=some 11:=by decide +kernel
 have e2:gnn (w64 ((32:Int) - 11))=some 21:=by decide +kernel
 simp only [T112,T112c,e1,e2,rr,Option.bind_some]
theorem a94_25 (F:Nat) (x:UInt32):T117 F x (-25)=some (rr x 25):=by
 have e1:((UInt64.ofInt (-25)) &&& (UInt64.ofNat 31)).toNat=7:=by decide +kernel
 have e2:((UInt64.ofNat 32) - ((UInt64.ofInt (-25)) &&& (UInt64.ofNat 31))).toNat=25:=by decide +kernel
 simp only [T117,T117c,e1,e2,rr]
 rw [UInt32.or_comm]
theorem a93_25 (F:Nat) (x:UInt32):T112 F x 25=some (rr x 25):=by
 have e1:gnn (25:Int)=some 25:=by decide +kernel
 have e2:gnn (w64 ((32:Int) - 25))=some 7:=by decide +kernel
 simp only [T112,T112c,e1,e2,rr,Option.bind_some]
theorem a94_2 (F:Nat) (x:UInt32):T117 F x (-2)=some (rr x 2):=by
 have e1:((UInt64.ofInt (-2)) &&& (UInt64.ofNat 31)).toNat=30:=by decide +kernel
 have e2:((UInt64.ofNat 32) - ((UInt64.ofInt (-2)) &&& (UInt64.ofNat 31))).toNat=2:=by decide +kernel
 simp only [T117,T117c,e1,e2,rr]
 rw [UInt32.or_comm]
theorem a93_2 (F:Nat) (x:UInt32):T112 F x 2=some (rr x 2):=by
 have e1:gnn (2:Int)=some 2:=by decide +kernel
 have e2:gnn (w64 ((32:Int) - 2))=some 30:=by decide +kernel
 simp only [T112,T112c,e1,e2,rr,Option.bind_some]
theorem a94_13 (F:Nat) (x:UInt32):T117 F x (-13)=some (rr x 13):=by
 have e1:((UInt64.ofInt (-13)) &&& (UInt64.ofNat 31)).toNat=19:=by decide +kernel
 have e2:((UInt64.ofNat 32) - ((UInt64.ofInt (-13)) &&& (UInt64.ofNat 31))).toNat=13:=by decide +kernel
 simp only [T117,T117c,e1,e2,rr]
 rw [UInt32.or_comm]
theorem a93_13 (F:Nat) (x:UInt32):T112 F x 13=some (rr x 13):=by
 have e1:gnn (13:Int)=some 13:=by decide +kernel
 have e2:gnn (w64 ((32:Int) - 13))=some 19:=by decide +kernel
 simp only [T112,T112c,e1,e2,rr,Option.bind_some]
theorem a94_22 (F:Nat) (x:UInt32):T117 F x (-22)=some (rr x 22):=by
 have e1:((UInt64.ofInt (-22)) &&& (UInt64.ofNat 31)).toNat=10:=by decide +kernel
 have e2:((UInt64.ofNat 32) - ((UInt64.ofInt (-22)) &&& (UInt64.ofNat 31))).toNat=22:=by decide +kernel
 simp only [T117,T117c,e1,e2,rr]
 rw [UInt32.or_comm]
theorem a93_22 (F:Nat) (x:UInt32):T112 F x 22=some (rr x 22):=by
 have e1:gnn (22:Int)=some 22:=by decide +kernel
 have e2:gnn (w64 ((32:Int) - 22))=some 10:=by decide +kernel
 simp only [T112,T112c,e1,e2,rr,Option.bind_some]
def wd4 (a b c d:UInt8):UInt32:=(((shl32 (a.toUInt32) ((UInt64.ofNat 24).toNat)) ||| (shl32 (b.toUInt32) ((UInt64.ofNat 16).toNat))) ||| (shl32 (c.toUInt32) ((UInt64.ofNat 8).toNat))) ||| (d.toUInt32)
def sch4 (a b c d:UInt32):UInt32:=((((rr a 17 ^^^ rr a 19) ^^^ (shr32 a ((UInt64.ofNat 10).toNat))) + b) + ((rr c 7 ^^^ rr c 18) ^^^ (shr32 c ((UInt64.ofNat 3).toNat)))) + d
theorem s91_lo (F:Nat) {p:List UInt8} (hp:p.length=64) {i:Nat} (hi:i < 16) (w:Vector UInt32 64) :
  L110x1_4 F p ((i:Nat):Int) w=some (.inl (((i + 1:Nat):Int),w.setIfInBounds i (wd4 p[4 * i] p[4 * i + 1] p[4 * i + 2] p[4 * i + 3]))):=by
 have h1:(((i:Nat):Int) < 64):=by omega
 have h2:(((i:Nat):Int) < 16):=by omega
 have e1:w64 ((4:Int) * ((i:Nat):Int))=((4 * i:Nat):Int):=by rw [w64_in (by omega) (by omega)];omega
 have e2:w64 (((4 * i:Nat):Int) + 4)=((4 * i + 4:Nat):Int):=by rw [w64_in (by omega) (by omega)];omega
 have e3:w64 (((i:Nat):Int) + 1)=((i + 1:Nat):Int):=by rw [w64_in (by omega) (by omega)];omega
 have g:gsl p ((4 * i:Nat):Int) ((4 * i + 4:Nat):Int)=some ((p.drop (4 * i)).take 4):=by
  rw [gsl_nat (by omega) (by omega),Nat.add_sub_cancel_left]
 have x0:ix ((p.drop (4 * i)).take 4) (0:Int)=some p[4 * i]:=ix_dt (k:=0) (by omega) (by omega)
 have x1:ix ((p.drop (4 * i)).take 4) (1:Int)=some p[4 * i + 1]:=ix_dt (k:=1) (by omega) (by omega)
 have x2:ix ((p.drop (4 * i)).take 4) (2:Int)=some p[4 * i + 2]:=ix_dt (k:=2) (by omega) (by omega)
 have x3:ix ((p.drop (4 * i)).take 4) (3:Int)=some p[4 * i + 3]:=ix_dt (k:=3) (by omega) (by omega)
 have n:inb 64 ((i:Nat):Int)=some i:=inb_nat (by omega)
 simp only [L110x1_4,L110x1_4c,h1,h2,decide_true,cond_true,e1,e2,e3,g,x0,x1,x2,x3,n,Option.bind_some,wd4]
theorem s85_lo (F:Nat) {p:List UInt8} (hp:p.length=64) {i:Nat} (hi:i < 16) (w:Vector UInt32 64) :
  L102_5 F p ((i:Nat):Int) w=some (.inl (((i + 1:Nat):Int),w.setIfInBounds i (wd4 p[4 * i] p[4 * i + 1] p[4 * i + 2] p[4 * i + 3]))):=by
 have h2:(((i:Nat):Int) < 16):=by omega
 have e1:w64 ((4:Int) * ((i:Nat):Int))=((4 * i:Nat):Int):=by rw [w64_in (by omega) (by omega)];omega
 have f1:w64 (((4 * i:Nat):Int) + 1)=((4 * i + 1:Nat):Int):=by rw [w64_in (by omega) (by omega)];omega
 have f2:w64 (((4 * i:Nat):Int) + 2)=((4 * i + 2:Nat):Int):=by rw [w64_in (by omega) (by omega)];omega
 have f3:w64 (((4 * i:Nat):Int) + 3)=((4 * i + 3:Nat):Int):=by rw [w64_in (by omega) (by omega)];omega
 have e3:w64 (((i:Nat):Int) + 1)=((i + 1:Nat):Int):=by rw [w64_in (by omega) (by omega)];omega
 have x0:ix p ((4 * i:Nat):Int)=some p[4 * i]:=ix_nat (by omega)
 have x1:ix p ((4 * i + 1:Nat):Int)=some p[4 * i + 1]:=ix_nat (by omega)
 have x2:ix p ((4 * i + 2:Nat):Int)=some p[4 * i + 2]:=ix_nat (by omega)
 have x3:ix p ((4 * i + 3:Nat):Int)=some p[4 * i + 3]:=ix_nat (by omega)
 have n:inb 64 ((i:Nat):Int)=some i:=inb_nat (by omega)
 simp only [L102_5,L102_5c,h2,decide_true,cond_true,e1,e3,f1,f2,f3,x0,x1,x2,x3,n,Option.bind_some,wd4]
theorem s91_hi (F:Nat) (p:List UInt8) {i:Nat} (h16:16≤i) (hi:i < 64) (w:Vector UInt32 64) :
  L110x1_4 F p ((i:Nat):Int) w=some (.inl (((i + 1:Nat):Int),w.setIfInBounds i (sch4 w[i - 2] w[i - 7] w[i - 15] w[i - 16]))):=by
 have h1:(((i:Nat):Int) < 64):=by omega
 have h2:¬ (((i:Nat):Int) < 16):=by omega
 have e3:w64 (((i:Nat):Int) + 1)=((i + 1:Nat):Int):=by rw [w64_in (by omega) (by omega)];omega
 have f1:w64 (((i:Nat):Int) - 2)=((i - 2:Nat):Int):=by rw [w64_in (by omega) (by omega)];omega
 have f2:w64 (((i:Nat):Int) - 7)=((i - 7:Nat):Int):=by rw [w64_in (by omega) (by omega)];omega
 have f3:w64 (((i:Nat):Int) - 15)=((i - 15:Nat):Int):=by rw [w64_in (by omega) (by omega)];omega
 have f4:w64 (((i:Nat):Int) - 16)=((i - 16:Nat):Int):=by rw [w64_in (by omega) (by omega)];omega
 have n:inb 64 ((i:Nat):Int)=some i:=inb_nat (by omega)
 have n1:inb 64 ((i - 2:Nat):Int)=some (i - 2):=inb_nat (by omega)
 have n2:inb 64 ((i - 7:Nat):Int)=some (i - 7):=inb_nat (by omega)
 have n3:inb 64 ((i - 15:Nat):Int)=some (i - 15):=inb_nat (by omega)
 have n4:inb 64 ((i - 16:Nat):Int)=some (i - 16):=inb_nat (by omega)
 have v1:vat w (i - 2)=some w[i - 2]:=vat_nat (by omega)
 have v2:vat w (i - 7)=some w[i - 7]:=vat_nat (by omega)
 have v3:vat w (i - 15)=some w[i - 15]:=vat_nat (by omega)
 have v4:vat w (i - 16)=some w[i - 16]:=vat_nat (by omega)
 simp only [L110x1_4,L110x1_4c,h1,h2,decide_true,decide_false,cond_true,cond_false,e3,f1,f2,f3,f4,n,n1,n2,n3,n4,v1,v2,v3,v4,a94_17,a94_19,a94_7,a94_18,Option.bind_some,sch4]
theorem s85_hi (F:Nat) {i:Nat} (h16:16≤i) (hi:i < 64) (w:Vector UInt32 64) :
  L102_6 F ((i:Nat):Int) w=some (.inl (((i + 1:Nat):Int),w.setIfInBounds i (sch4 w[i - 2] w[i - 7] w[i - 15] w[i - 16]))):=by
 have h1:(((i:Nat):Int) < 64):=by omega
 have e3:w64 (((i:Nat):Int) + 1)=((i + 1:Nat):Int):=by rw [w64_in (by omega) (by omega)];omega
 have f1:w64 (((i:Nat):Int) - 2)=((i - 2:Nat):Int):=by rw [w64_in (by omega) (by omega)];omega
 have f2:w64 (((i:Nat):Int) - 7)=((i - 7:Nat):Int):=by rw [w64_in (by omega) (by omega)];omega
 have f3:w64 (((i:Nat):Int) - 15)=((i - 15:Nat):Int):=by rw [w64_in (by omega) (by omega)];omega
 have f4:w64 (((i:Nat):Int) - 16)=((i - 16:Nat):Int):=by rw [w64_in (by omega) (by omega)];omega
 have n:inb 64 ((i:Nat):Int)=some i:=inb_nat (by omega)
 have n1:inb 64 ((i - 2:Nat):Int)=some (i - 2):=inb_nat (by omega)
 have n2:inb 64 ((i - 7:Nat):Int)=some (i - 7):=inb_nat (by omega)
 have n3:inb 64 ((i - 15:Nat):Int)=some (i - 15):=inb_nat (by omega)
 have n4:inb 64 ((i - 16:Nat):Int)=some (i - 16):=inb_nat (by omega)
 have v1:vat w (i - 2)=some w[i - 2]:=vat_nat (by omega)
 have v2:vat w (i - 7)=some w[i - 7]:=vat_nat (by omega)
 have v3:vat w (i - 15)=some w[i - 15]:=vat_nat (by omega)
 have v4:vat w (i - 16)=some w[i - 16]:=vat_nat (by omega)
 simp only [L102_6,L102_6c,h1,decide_true,cond_true,e3,f1,f2,f3,f4,n,n1,n2,n3,n4,v1,v2,v3,v4,a93_17,a93_19,a93_7,a93_18,Option.bind_some,sch4]
theorem sched {F:Nat} (hF:100 < F) {p:List UInt8} (hp:p.length=64):∃ w w0,iter (fun s:Int×Vector UInt32 64=>L110x1_4 F p s.1 s.2) F ((0:Int),(Vector.replicate 64 (0:UInt32)))=some w ∧
  iter (fun s:Int×Vector UInt32 64=>L102_5 F p s.1 s.2) F ((0:Int),(Vector.replicate 64 (0:UInt32)))=some w0∧iter (fun s:Int×Vector UInt32 64=>L102_6 F s.1 s.2) F ((16:Int),w0)=some w:=by
 obtain ⟨k,s',w0,a1,a2,a3,a4⟩:=iterP (f:=fun s:Int×Vector UInt32 64=>L110x1_4 F p s.1 s.2) (g:=fun s:Int×Vector UInt32 64=>L102_5 F p s.1 s.2)
  (fun s t=>s=t∧∃ i:Nat,s.1=i∧i≤16) (fun s r=>s=((16:Int),r)) (fun s=>16 - s.1.toNat) (by
   rintro ⟨a,w⟩ t ⟨rfl,i,hi,h16⟩
   simp only at hi
   subst hi
   by_cases h:i < 16
   ·exact .inl ⟨_,_,s91_lo F hp h w,s85_lo F hp h w,⟨rfl,i + 1,rfl,by omega⟩,by simp only [Int.toNat_natCast];omega⟩
   ·obtain rfl:i=16:=by omega
    exact .inr ⟨w,rfl,rfl⟩) F ((0:Int),(Vector.replicate 64 (0:UInt32))) ((0:Int),(Vector.replicate 64 (0:UInt32))) ⟨rfl,0,rfl,by omega⟩ (by simp only [Int.toNat_zero];omega)
 simp only [Int.toNat_zero,Nat.sub_zero] at a1
 subst a3
 obtain ⟨w,w',b1,b2,b3⟩:=iter2 (f:=fun s:Int×Vector UInt32 64=>L110x1_4 F p s.1 s.2) (g:=fun s:Int×Vector UInt32 64=>L102_6 F s.1 s.2)
  (fun s t=>s=t∧∃ i:Nat,s.1=i∧16≤i∧i≤64) (fun r r'=>r=r') (fun s=>64 - s.1.toNat) (by
   rintro ⟨a,w⟩ t ⟨rfl,i,hi,h16,h64⟩
   simp only at hi
   subst hi
   by_cases h:i < 64
   ·exact .inl ⟨_,_,s91_hi F p h16 h w,s85_hi F h16 h w,⟨rfl,i + 1,rfl,by omega,by omega⟩,by simp only [Int.toNat_natCast];omega⟩
   ·obtain rfl:i=64:=by omega
    exact .inr ⟨w,w,rfl,rfl,rfl⟩) (F - k) F ((16:Int),w0) ((16:Int),w0) ⟨rfl,16,rfl,by omega,by omega⟩ (by have:((16:Int)).toNat=16:=rfl;simp only [this];omega) (by have:((16:Int)).toNat=16:=rfl;simp only [this];omega)
 subst b3
 refine ⟨w,w0,?_,a2,b2⟩
 have:=a4 (F - k)
 rw [Nat.sub_add_cancel (by omega)] at this
 rw [this,b1]
theorem s91v_lo (F:Nat) (v:Vector UInt8 64) {i:Nat} (hi:i < 16) (w:Vector UInt32 64) :
  L110_4 F v (0,64) ((i:Nat):Int) w=some (.inl ((0,64),((i + 1:Nat):Int),w.setIfInBounds i (wd4 v[4 * i] v[4 * i + 1] v[4 * i + 2] v[4 * i + 3]))):=by
 have h1:(((i:Nat):Int) < 64):=by omega
 have h2:(((i:Nat):Int) < 16):=by omega
 have e1:w64 ((4:Int) * ((i:Nat):Int))=((4 * i:Nat):Int):=by rw [w64_in (by omega) (by omega)];omega
 have e2:w64 (((4 * i:Nat):Int) + 4)=((4 * i + 4:Nat):Int):=by rw [w64_in (by omega) (by omega)];omega
 have e3:w64 (((i:Nat):Int) + 1)=((i + 1:Nat):Int):=by rw [w64_in (by omega) (by omega)];omega
 have g:gslb 64 ((4 * i:Nat):Int) ((4 * i + 4:Nat):Int)=some (4 * i,4 * i + 4):=gslb_nat (by omega) (by omega)
 have m0:inb 4 (0:Int)=some 0:=by decide
 have m1:inb 4 (1:Int)=some 1:=by decide
 have m2:inb 4 (2:Int)=some 2:=by decide
 have m3:inb 4 (3:Int)=some 3:=by decide
 have x0:vat v (4 * i)=some v[4 * i]:=vat_nat (by omega)
 have x1:vat v (4 * i + 1)=some v[4 * i + 1]:=vat_nat (by omega)
 have x2:vat v (4 * i + 2)=some v[4 * i + 2]:=vat_nat (by omega)
 have x3:vat v (4 * i + 3)=some v[4 * i + 3]:=vat_nat (by omega)
 have n:inb 64 ((i:Nat):Int)=some i:=inb_nat (by omega)
 simp only [L110_4,L110_4c,h1,h2,decide_true,cond_true,e1,e2,e3,Nat.sub_zero,Nat.zero_add,g,Nat.add_sub_cancel_left,m0,m1,m2,m3,Nat.add_zero,x0,x1,x2,x3,n,Option.bind_some,wd4]
theorem s91v_hi (F:Nat) (v:Vector UInt8 64) {i:Nat} (h16:16≤i) (hi:i < 64) (w:Vector UInt32 64) :
  L110_4 F v (0,64) ((i:Nat):Int) w=some (.inl ((0,64),((i + 1:Nat):Int),w.setIfInBounds i (sch4 w[i - 2] w[i - 7] w[i - 15] w[i - 16]))):=by
 have h1:(((i:Nat):Int) < 64):=by omega
 have h2:¬ (((i:Nat):Int) < 16):=by omega
 have e3:w64 (((i:Nat):Int) + 1)=((i + 1:Nat):Int):=by rw [w64_in (by omega) (by omega)];omega
 have f1:w64 (((i:Nat):Int) - 2)=((i - 2:Nat):Int):=by rw [w64_in (by omega) (by omega)];omega
 have f2:w64 (((i:Nat):Int) - 7)=((i - 7:Nat):Int):=by rw [w64_in (by omega) (by omega)];omega
 have f3:w64 (((i:Nat):Int) - 15)=((i - 15:Nat):Int):=by rw [w64_in (by omega) (by omega)];omega
 have f4:w64 (((i:Nat):Int) - 16)=((i - 16:Nat):Int):=by rw [w64_in (by omega) (by omega)];omega
 have n:inb 64 ((i:Nat):Int)=some i:=inb_nat (by omega)
 have n1:inb 64 ((i - 2:Nat):Int)=some (i - 2):=inb_nat (by omega)
 have n2:inb 64 ((i - 7:Nat):Int)=some (i - 7):=inb_nat (by omega)
 have n3:inb 64 ((i - 15:Nat):Int)=some (i - 15):=inb_nat (by omega)
 have n4:inb 64 ((i - 16:Nat):Int)=some (i - 16):=inb_nat (by omega)
 have v1:vat w (i - 2)=some w[i - 2]:=vat_nat (by omega)
 have v2:vat w (i - 7)=some w[i - 7]:=vat_nat (by omega)
 have v3:vat w (i - 15)=some w[i - 15]:=vat_nat (by omega)
 have v4:vat w (i - 16)=some w[i - 16]:=vat_nat (by omega)
 simp only [L110_4,L110_4c,h1,h2,decide_true,decide_false,cond_true,cond_false,e3,f1,f2,f3,f4,n,n1,n2,n3,n4,v1,v2,v3,v4,a94_17,a94_19,a94_7,a94_18,Option.bind_some,sch4]
theorem schedv {F:Nat} (hF:100 < F) (v:Vector UInt8 64):∃ w,iter (fun s:(Nat×Nat)×Int×Vector UInt32 64=>L110_4 F v s.1 s.2.1 s.2.2) F ((0,64),(0:Int),(Vector.replicate 64 (0:UInt32)))=some w ∧
  iter (fun s:Int×Vector UInt32 64=>L110x1_4 F v.toList s.1 s.2) F ((0:Int),(Vector.replicate 64 (0:UInt32)))=some w:=by
 have hl:v.toList.length=64:=by simp
 obtain ⟨w,w',b1,b2,b3⟩:=iter2 (f:=fun s:(Nat×Nat)×Int×Vector UInt32 64=>L110_4 F v s.1 s.2.1 s.2.2) (g:=fun s:Int×Vector UInt32 64=>L110x1_4 F v.toList s.1 s.2)
  (fun s t=>s=((0,64),t.1,t.2)∧∃ i:Nat,t.1=i∧i≤64) (fun r r'=>r=r') (fun s=>64 - s.2.1.toNat) (by
   rintro s ⟨a,w⟩ ⟨rfl,i,hi,h64⟩
   simp only at hi
   subst hi
   by_cases h:i < 64
   ·by_cases h16:i < 16
    ·have g:=s91_lo F hl h16 w
     simp only [Vector.getElem_toList] at g
     exact .inl ⟨_,_,s91v_lo F v h16 w,g,⟨rfl,i + 1,rfl,by omega⟩,by simp only [Int.toNat_natCast];omega⟩
    ·exact .inl ⟨_,_,s91v_hi F v (by omega) h w,s91_hi F v.toList (by omega) h w,⟨rfl,i + 1,rfl,by omega⟩,by simp only [Int.toNat_natCast];omega⟩
   ·obtain rfl:i=64:=by omega
    exact .inr ⟨w,w,rfl,rfl,rfl⟩) F F ((0,64),(0:Int),(Vector.replicate 64 (0:UInt32))) ((0:Int),(Vector.replicate 64 (0:UInt32))) ⟨rfl,0,rfl,by omega⟩ (by simp only [Int.toNat_zero];omega) (by simp only [Int.toNat_zero];omega)
 subst b3
 exact ⟨w,b1,b2⟩
def t1 (e f g h k w:UInt32):UInt32:=(((h + ((rr e 6 ^^^ rr e 11) ^^^ rr e 25)) + ((e &&& f) ^^^ ((~~~e) &&& g))) + k) + w
def t2 (a b c:UInt32):UInt32:=((rr a 2 ^^^ rr a 13) ^^^ rr a 22) + (((a &&& b) ^^^ (a &&& c)) ^^^ (b &&& c))
theorem r91 (F:Nat) (w:Vector UInt32 64) (a b c d e f g h:UInt32) {i:Nat} (hi:i < 64) :
  L110x1_5 F w a b c d e f g h ((i:Nat):Int)=some (.inl (t1 e f g h gv2[i] w[i] + t2 a b c,a,b,c,d + t1 e f g h gv2[i] w[i],e,f,g,((i + 1:Nat):Int))):=by
 have h1:(((i:Nat):Int) < 64):=by omega
 have e3:w64 (((i:Nat):Int) + 1)=((i + 1:Nat):Int):=by rw [w64_in (by omega) (by omega)];omega
 have n:inb 64 ((i:Nat):Int)=some i:=inb_nat (by omega)
 have v:vat w i=some w[i]:=vat_nat hi
 have x:vix gv2 ((i:Nat):Int)=some gv2[i]:=vix_nat hi
 simp only [L110x1_5,L110x1_5c,h1,decide_true,cond_true,a94_6,a94_11,a94_25,a94_2,a94_13,a94_22,Option.bind_some,x,n,v,e3,t1,t2]
theorem r85 (F:Nat) (w:Vector UInt32 64) (a b c d e f g h:UInt32) {i:Nat} (hi:i < 64) :
  L102_7 F gv2 w ((i:Nat):Int) #v[a,b,c,d,e,f,g,h]=some (.inl (((i + 1:Nat):Int),#v[t1 e f g h gv2[i] w[i] + t2 a b c,a,b,c,d + t1 e f g h gv2[i] w[i],e,f,g])):=by
 have h1:(((i:Nat):Int) < 64):=by omega
 have e3:w64 (((i:Nat):Int) + 1)=((i + 1:Nat):Int):=by rw [w64_in (by omega) (by omega)];omega
 have n:inb 64 ((i:Nat):Int)=some i:=inb_nat (by omega)
 have v:vat w i=some w[i]:=vat_nat hi
 have x:vat gv2 i=some gv2[i]:=vat_nat hi
 have y0:vat #v[a,b,c,d,e,f,g,h] 0=some a:=rfl
 have y1:vat #v[a,b,c,d,e,f,g,h] 1=some b:=rfl
 have y2:vat #v[a,b,c,d,e,f,g,h] 2=some c:=rfl
 have y3:vat #v[a,b,c,d,e,f,g,h] 3=some d:=rfl
 have y4:vat #v[a,b,c,d,e,f,g,h] 4=some e:=rfl
 have y5:vat #v[a,b,c,d,e,f,g,h] 5=some f:=rfl
 have y6:vat #v[a,b,c,d,e,f,g,h] 6=some g:=rfl
 have y7:vat #v[a,b,c,d,e,f,g,h] 7=some h:=rfl
 simp only [L102_7,L102_7c,h1,decide_true,cond_true,y0,y1,y2,y3,y4,y5,y6,y7,a93_6,a93_11,a93_25,a93_2,a93_13,a93_22,Option.bind_some,x,n,v,e3,t1,t2]
abbrev O8:=UInt32×UInt32×UInt32×UInt32×UInt32×UInt32×UInt32×UInt32
abbrev O9:=UInt32×UInt32×UInt32×UInt32×UInt32×UInt32×UInt32×UInt32×Int
def v8 (z:O8):Vector UInt32 8:=#v[z.1,z.2.1,z.2.2.1,z.2.2.2.1,z.2.2.2.2.1,z.2.2.2.2.2.1,z.2.2.2.2.2.2.1,z.2.2.2.2.2.2.2]
theorem rounds {F:Nat} (hF:100 < F) (w:Vector UInt32 64) (z:O8):∃ z':O8,
  iter (fun s:O9=>L110x1_5 F w s.1 s.2.1 s.2.2.1 s.2.2.2.1 s.2.2.2.2.1 s.2.2.2.2.2.1 s.2.2.2.2.2.2.1 s.2.2.2.2.2.2.2.1 s.2.2.2.2.2.2.2.2) F (z.1,z.2.1,z.2.2.1,z.2.2.2.1,z.2.2.2.2.1,z.2.2.2.2.2.1,z.2.2.2.2.2.2.1,z.2.2.2.2.2.2.2,(0:Int))=some z' ∧
  iter (fun s:Int×Vector UInt32 8=>L102_7 F gv2 w s.1 s.2) F ((0:Int),v8 z)=some (v8 z'):=by
 obtain ⟨r,r',b1,b2,b3⟩:=iter2 (f:=fun s:O9=>L110x1_5 F w s.1 s.2.1 s.2.2.1 s.2.2.2.1 s.2.2.2.2.1 s.2.2.2.2.2.1 s.2.2.2.2.2.2.1 s.2.2.2.2.2.2.2.1 s.2.2.2.2.2.2.2.2) (g:=fun s:Int×Vector UInt32 8=>L102_7 F gv2 w s.1 s.2)
  (fun s t=>t=(s.2.2.2.2.2.2.2.2,#v[s.1,s.2.1,s.2.2.1,s.2.2.2.1,s.2.2.2.2.1,s.2.2.2.2.2.1,s.2.2.2.2.2.2.1,s.2.2.2.2.2.2.2.1])∧∃ i:Nat,s.2.2.2.2.2.2.2.2=i∧i≤64) (fun r r'=>r'=v8 r) (fun s=>64 - s.2.2.2.2.2.2.2.2.toNat) (by
   rintro ⟨a,b,c,d,e,f,g,h,j⟩ t ⟨rfl,i,hi,h64⟩
   simp only at hi
   subst hi
   by_cases hi:i < 64
   ·exact .inl ⟨_,_,r91 F w a b c d e f g h hi,r85 F w a b c d e f g h hi,⟨rfl,i + 1,rfl,by omega⟩,by simp only [Int.toNat_natCast];omega⟩
   ·obtain rfl:i=64:=by omega
    exact .inr ⟨_,_,rfl,rfl,rfl⟩) F F (z.1,z.2.1,z.2.2.1,z.2.2.2.1,z.2.2.2.2.1,z.2.2.2.2.2.1,z.2.2.2.2.2.2.1,z.2.2.2.2.2.2.2,(0:Int)) ((0:Int),v8 z) ⟨rfl,0,rfl,by omega⟩ (by simp only [Int.toNat_zero];omega) (by simp only [Int.toNat_zero];omega)
 subst b3
 exact ⟨r,b1,b2⟩
theorem last {F:Nat} (hF:100 < F) (x p:Vector UInt32 8):∃ r,iter (fun s:Int×Vector UInt32 8=>L110x1_6 F x p s.1 s.2) F ((0:Int),p)=some r∧iter (fun s:Int×Vector UInt32 8=>L102_8 F p s.1 s.2) F ((0:Int),x)=some r:=by
 obtain ⟨r,r',b1,b2,b3⟩:=iter2 (f:=fun s:Int×Vector UInt32 8=>L110x1_6 F x p s.1 s.2) (g:=fun s:Int×Vector UInt32 8=>L102_8 F p s.1 s.2)
  (fun s t=>s.1=t.1∧∃ i:Nat,s.1=i∧i≤8∧(∀ j (hj:j < 8),j < i->s.2[j]=t.2[j])∧∀ j (hj:j < 8),i≤j->t.2[j]=x[j]) (fun r r'=>r=r') (fun s=>8 - s.1.toNat) (by
   rintro ⟨a,u⟩ ⟨a',v⟩ ⟨rfl,i,hi,h8,hu,hv⟩
   simp only at hi hu hv
   subst hi
   by_cases h:i < 8
   ·have h1:(((i:Nat):Int) < 8):=by omega
    have e3:w64 (((i:Nat):Int) + 1)=((i + 1:Nat):Int):=by rw [w64_in (by omega) (by omega)];omega
    have n:inb 8 ((i:Nat):Int)=some i:=inb_nat h
    have s1:L110x1_6 F x p ((i:Nat):Int) u=some (.inl (((i + 1:Nat):Int),u.setIfInBounds i (p[i] + x[i]))):=by
     simp only [L110x1_6,L110x1_6c,h1,decide_true,cond_true,vix_nat h,n,vat_nat (v:=p) h,Option.bind_some,e3]
    have s2:L102_8 F p ((i:Nat):Int) v=some (.inl (((i + 1:Nat):Int),v.setIfInBounds i (v[i] + p[i]))):=by
     simp only [L102_8,L102_8c,h1,decide_true,cond_true,n,vat_nat (v:=p) h,vat_nat (v:=v) h,Option.bind_some,e3]
    refine .inl ⟨_,_,s1,s2,⟨rfl,i + 1,rfl,by omega,fun j hj hji=>?_,fun j hj hij=>?_⟩,by simp only [Int.toNat_natCast];omega⟩
    ·simp only [Vector.getElem_setIfInBounds]
     by_cases e:i=j
     ·subst e
      simp only [if_true]
      rw [hv i hj (Nat.le_refl _),UInt32.add_comm]
     ·rw [if_neg e,if_neg e]
      exact hu j hj (by omega)
    ·simp only [Vector.getElem_setIfInBounds]
     rw [if_neg (by omega)]
     exact hv j hj (by omega)
   ·obtain rfl:i=8:=by omega
    exact .inr ⟨u,v,rfl,rfl,Vector.ext fun j hj=>hu j hj hj⟩) F F ((0:Int),p) ((0:Int),x) ⟨rfl,0,rfl,by omega,fun j hj h0=>absurd h0 (by omega),fun j hj _=>rfl⟩ (by simp only [Int.toNat_zero];omega) (by simp only [Int.toNat_zero];omega)
 subst b3
 exact ⟨r,b1,b2⟩
theorem vec8 (v:Vector UInt32 8):v8 (v[0],v[1],v[2],v[3],v[4],v[5],v[6],v[7])=v:=by
 apply Vector.ext
 intro i hi
 match i,hi with
 | 0,_=>rfl
 | 1,_=>rfl
 | 2,_=>rfl
 | 3,_=>rfl
 | 4,_=>rfl
 | 5,_=>rfl
 | 6,_=>rfl
 | 7,_=>rfl
theorem k92 (F:Nat):T111 F=some gv2:=rfl
theorem t91 {F:Nat} (hF:100 < F) {p:List UInt8} (hp:p.length=64) (h:Vector UInt32 8):∃ r,T110x1 F p h=some r∧T102 F h p=some r:=by
 obtain ⟨w,w0,a1,a2,a3⟩:=sched hF hp
 obtain ⟨z,b1,b2⟩:=rounds hF w (h[0],h[1],h[2],h[3],h[4],h[5],h[6],h[7])
 rw [vec8] at b2
 obtain ⟨r,c1,c2⟩:=last hF (v8 z) h
 refine ⟨r,?_,?_⟩
 ·simp only [T110x1,T110x1c,a1,Option.bind_some,vat_nat (v:=h) (show 0 < 8 by omega),vat_nat (v:=h) (show 1 < 8 by omega),vat_nat (v:=h) (show 2 < 8 by omega),vat_nat (v:=h) (show 3 < 8 by omega),vat_nat (v:=h) (show 4 < 8 by omega),vat_nat (v:=h) (show 5 < 8 by omega),vat_nat (v:=h) (show 6 < 8 by omega),vat_nat (v:=h) (show 7 < 8 by omega)]
  simp only [b1,Option.bind_some]
  exact (congrArg (fun o=>Option.bind o fun z=>some z) c1)
 ·simp only [T102,T102c,k92,Option.bind_some,a2,a3,b2,c2]
theorem t91v {F:Nat} (hF:100 < F) (v:Vector UInt8 64) (h:Vector UInt32 8):T110 F (0,64) h v=T110x1 F v.toList h:=by
 obtain ⟨w,a1,a2⟩:=schedv hF v
 simp only [T110,T110c,T110x1,T110x1c,a1,a2,Option.bind_some]
 rfl
theorem x82_eq (F:Nat):T99x1 F=T99 F:=rfl
def L65_2c (F:Nat) (y19:List UInt8) (y20:List UInt8) (y21:Int) (y22:List UInt8) (y23:List UInt8) (y24:Int) {β:Type} (kA:((List UInt8)×(List UInt8)×Int)->Option β) (kO:((List UInt8))->Option β):Option β:=
 (bif (decide ((y22.length:Int) < y21)) then (Option.bind (gcat y23 y20) fun x30=>(Option.bind (gstr x30) fun x31=>(Option.bind (gapp x31 ([(UInt8.ofInt y24)]:List UInt8)) fun x32=>(Option.bind (T66 F y19 x32) fun z33=>(Option.bind (gcat y22 z33) fun x34=>(kA (x34,z33,(w64 (y24 + (1:Int)))))))))) else (kO y22))
def L65_2 (F:Nat) (y19:List UInt8) (y20:List UInt8) (y21:Int) (y22:List UInt8) (y23:List UInt8) (y24:Int):Option (((List UInt8)×(List UInt8)×Int) ⊕ ((List UInt8))):=L65_2c F y19 y20 y21 y22 y23 y24 (fun s=>some (.inl s)) (fun z=>some (.inr z))
def T65c (F:Nat) (p0:List UInt8) (p1:List UInt8) (p2:Int) {β:Type} (k:((List UInt8))->Option β):Option β:=
 (Option.bind (iter (fun s=>L65_2 F p0 p1 p2 s.1 s.2.1 s.2.2) F (([]:List UInt8),([]:List UInt8),(1:Int))) fun z35=>(Option.bind (gsl z35 (0:Int) p2) fun x36=>(k x36)))
def T65 (F:Nat) (p0:List UInt8) (p1:List UInt8) (p2:Int):Option ((List UInt8)):=T65c F p0 p1 p2 some
def T32c (F:Nat) (p0:List UInt8) (p1:List UInt8) {β:Type} (k:((List UInt8))->Option β):Option β:=
 (Option.bind (gstr p0) fun x4=>(Option.bind (T66 F ([]:List UInt8) x4) fun z5=>(Option.bind (T65 F z5 p1 (32:Int)) fun z6=>(k z6))))
def T32 (F:Nat) (p0:List UInt8) (p1:List UInt8):Option ((List UInt8)):=T32c F p0 p1 some
def B (F:Nat) (h:Vector UInt32 8) (p:List UInt8):Vector UInt32 8:=(T102 F h p).getD h
theorem b85 {F:Nat} (hF:100 < F) {p:List UInt8} (hp:p.length=64) (h:Vector UInt32 8):T102 F h p=some (B F h p):=by
 obtain ⟨r,h1,h2⟩:=t91 hF hp h
 simp only [B,h2,Option.getD_some]
theorem b91 {F:Nat} (hF:100 < F) {p:List UInt8} (hp:p.length=64) (h:Vector UInt32 8):T110x1 F p h=some (B F h p):=by
 obtain ⟨r,h1,h2⟩:=t91 hF hp h
 simp only [B,h1,h2,Option.getD_some]
theorem b91v {F:Nat} (hF:100 < F) (v:Vector UInt8 64) (h:Vector UInt32 8):T110 F (0,64) h v=some (B F h v.toList):=by
 rw [t91v hF,b91 hF (by simp)]
def hN (F:Nat):Nat->List UInt8->Vector UInt32 8
 | 0,_=>gv1
 | k + 1,m=>B F (hN F k m) ((m.drop (64 * k)).take 64)
theorem hN_app (F:Nat) (m x:List UInt8):∀ k,64 * k≤m.length->hN F k (m ++ x)=hN F k m
 | 0,_=>rfl
 | k + 1,h=>by
  simp only [hN]
  rw [hN_app F m x k (by omega),List.drop_append_of_le_length (by omega),List.take_append_of_le_length (by simp;omega)]
structure Inv (F:Nat) (m:List UInt8) (h:Vector UInt32 8) (b:Vector UInt8 64) (n:Int):Prop where
 len:n=(m.length:Int)
 words:h=hN F (m.length / 64) m
 rest:b.toList.take (m.length % 64)=m.drop (64 * (m.length / 64))
theorem tmod64 (a:Nat):Int.tmod ((a:Nat):Int) 64=((a % 64:Nat):Int):=by
 rw [Int.tmod_eq_emod_of_nonneg (by omega)];omega
theorem lp82 {F:Nat} (hF:100 < F) (M:List UInt8):∀ (fuel k:Nat),64 * k≤M.length->(M.length - 64 * k) / 64 < fuel ->
  iter (fun s:List UInt8×Vector UInt32 8=>L99_4 F s.1 s.2) fuel (M.drop (64 * k),hN F k M)=some (M.drop (64 * (M.length / 64)),hN F (M.length / 64) M)
 | 0,k,hk,hf=>absurd hf (by omega)
 | fuel + 1,k,hk,hf=>by
  by_cases h:64≤M.length - 64 * k
  ·have h1:((64:Int)≤((M.drop (64 * k)).length:Int)):=by simp;omega
   have g1:gsl (M.drop (64 * k)) (0:Int) (64:Int)=some ((M.drop (64 * k)).take 64):=gsl_nat (a:=0) (b:=64) (by omega) (by simp;omega)
   have g2:gsl (M.drop (64 * k)) (64:Int) ((M.drop (64 * k)).length:Int)=some (M.drop (64 * (k + 1))):=by
    have:=gsl_nat (l:=M.drop (64 * k)) (a:=64) (b:=(M.drop (64 * k)).length) (by simp;omega) (Nat.le_refl _)
    refine Eq.trans this ?_
    rw [List.take_of_length_le (by simp only [List.length_drop];omega),List.drop_drop]
    congr 2
   have step:L99_4 F (M.drop (64 * k)) (hN F k M)=some (.inl (M.drop (64 * (k + 1)),hN F (k + 1) M)):=by
    simp only [L99_4,L99_4c,h1,decide_true,cond_true,g1,g2,Option.bind_some,b91 hF (show ((M.drop (64 * k)).take 64).length=64 by simp;omega),hN]
   refine (it_again (f:=fun s:List UInt8×Vector UInt32 8=>L99_4 F s.1 s.2) (s:=(M.drop (64 * k),hN F k M)) step).trans ?_
   exact lp82 hF M fuel (k + 1) (by omega) (by omega)
  ·have h1:¬ ((64:Int)≤((M.drop (64 * k)).length:Int)):=by simp;omega
   have hk2:k=M.length / 64:=by omega
   have step:L99_4 F (M.drop (64 * k)) (hN F k M)=some (.inr (M.drop (64 * k),hN F k M)):=by
    simp only [L99_4,L99_4c,h1,decide_false,cond_false]
   refine (it_out (f:=fun s:List UInt8×Vector UInt32 8=>L99_4 F s.1 s.2) (s:=(M.drop (64 * k),hN F k M)) step).trans ?_
   rw [← hk2]
theorem tail82 {F:Nat} (hF:100 < F) (M:List UInt8) (hM:M.length < F) (b:Vector UInt8 64) {k:Nat} (hk:64 * k≤M.length) :
  iter (fun s:List UInt8×Vector UInt32 8=>L99_4 F s.1 s.2) F (M.drop (64 * k),hN F k M)=some (M.drop (64 * (M.length / 64)),hN F (M.length / 64) M) ∧
  (vspl b 0 (M.drop (64 * (M.length / 64))) (M.drop (64 * (M.length / 64))).length).toList.take (M.length % 64)=M.drop (64 * (M.length / 64)):=by
 refine ⟨lp82 hF M F k hk (by omega),?_⟩
 have hl:(M.drop (64 * (M.length / 64))).length=M.length % 64:=by simp;omega
 rw [vspl_toList (by omega) (Nat.le_refl _)]
 simp only [splice,List.take_zero,List.nil_append,List.take_length]
 rw [← hl,List.take_append_of_le_length (Nat.le_refl _),List.take_length]
theorem t82 {F:Nat} {m x:List UInt8} {h:Vector UInt32 8} {b:Vector UInt8 64} {n:Int} (hF:100 + m.length + x.length < F) (hb:m.length + x.length < 1000000000) (hI:Inv F m h b n) :
  ∃ h' b' n',T99 F x h b n=some (h',b',n')∧Inv F (m ++ x) h' b' n':=by
 obtain ⟨rfl,rfl,hr⟩:=hI
 have wn:w64 ((m.length:Int) + (x.length:Int))=((m ++ x).length:Int):=by rw [w64_in (by omega) (by omega)];simp
 have g0:gslb 64 (0:Int) ((64:Nat):Int)=some (0,64):=gslb_nat (a:=0) (by omega) (by omega)
 have hlen:(m ++ x).length=m.length + x.length:=by simp
 by_cases hu:m.length % 64=0
 ·have d:¬ ((0:Int) < ((m.length % 64:Nat):Int)):=by omega
  have s3:L99_3 F x ((m.length % 64:Nat):Int) false (hN F (m.length / 64) m) b=some (.inl (x,hN F (m.length / 64) m,b)):=by
   simp only [L99_3,L99_3c,cond_false]
  obtain ⟨q1,q2⟩:=tail82 (F:=F) (by omega) (m ++ x) (by omega) b (k:=m.length / 64) (by omega)
  have e1:(m ++ x).drop (64 * (m.length / 64))=x:=by
   rw [show 64 * (m.length / 64)=m.length by omega];simp
  rw [e1,hN_app F m x _ (by omega)] at q1
  have hmin:Nat.min ((m ++ x).drop (64 * ((m ++ x).length / 64))).length (64 - 0)=((m ++ x).drop (64 * ((m ++ x).length / 64))).length:=Nat.min_eq_left (by simp;omega)
  refine ⟨hN F ((m ++ x).length / 64) (m ++ x),vspl b 0 ((m ++ x).drop (64 * ((m ++ x).length / 64))) ((m ++ x).drop (64 * ((m ++ x).length / 64))).length,((m ++ x).length:Int),?_,rfl,rfl,q2⟩
  simp only [T99,T99c,tmod64,d,decide_false,s3,Option.bind_some,elimS,q1,g0,hmin,wn]
 ·have d:((0:Int) < ((m.length % 64:Nat):Int)):=by omega
  have g1:gslb 64 ((m.length % 64:Nat):Int) ((64:Nat):Int)=some (m.length % 64,64):=gslb_nat (by omega) (by omega)
  by_cases hc:x.length < 64 - m.length % 64
  ·have hmin:Nat.min x.length (64 - m.length % 64)=x.length:=Nat.min_eq_left (by omega)
   have g2:gsl x (x.length:Int) (x.length:Int)=some []:=by
    rw [gsl_nat (Nat.le_refl _) (Nat.le_refl _)];simp
   have w:w64 (((m.length % 64:Nat):Int) + (x.length:Int))=((m.length % 64 + x.length:Nat):Int):=by rw [w64_in (by omega) (by omega)];omega
   have d2:(((m.length % 64 + x.length:Nat):Int) < 64):=by omega
   have s3:L99_3 F x ((m.length % 64:Nat):Int) true (hN F (m.length / 64) m) b=some (.inr (vspl b (m.length % 64) x x.length)):=by
    simp only [L99_3,L99_3c,cond_true,g1,Option.bind_some,hmin,g2,w,d2,decide_true]
   refine ⟨hN F (m.length / 64) m,vspl b (m.length % 64) x x.length,((m ++ x).length:Int),?_,rfl,?_,?_⟩
   ·simp only [T99,T99c,tmod64,d,decide_true,s3,Option.bind_some,elimS,wn]
   ·rw [hlen,show (m.length + x.length) / 64=m.length / 64 by omega,hN_app F m x _ (by omega)]
   ·rw [hlen,show (m.length + x.length) / 64=m.length / 64 by omega,show (m.length + x.length) % 64=m.length % 64 + x.length by omega,vspl_toList (by omega) (Nat.le_refl _)]
    simp only [splice,List.take_length]
    rw [hr,List.drop_append_of_le_length (by omega)]
    rw [List.take_append_of_le_length (by simp;omega),List.take_of_length_le (by simp;omega)]
  ·have hmin:Nat.min x.length (64 - m.length % 64)=64 - m.length % 64:=Nat.min_eq_right (by omega)
   have g2:gsl x ((64 - m.length % 64:Nat):Int) (x.length:Int)=some (x.drop (64 - m.length % 64)):=by
    rw [gsl_nat (by omega) (Nat.le_refl _),List.take_of_length_le (by simp)]
   have w:w64 (((m.length % 64:Nat):Int) + ((64 - m.length % 64:Nat):Int))=64:=by rw [w64_in (by omega) (by omega)];omega
   have d2:¬ ((64:Int) < 64):=by omega
   have hbl:(vspl b (m.length % 64) x (64 - m.length % 64)).toList=((m ++ x).drop (64 * (m.length / 64))).take 64:=by
    rw [vspl_toList (by omega) (by omega)]
    simp only [splice]
    have hz:b.toList.drop (m.length % 64 + (64 - m.length % 64))=[]:=List.drop_of_length_le (by rw [Vector.length_toList];omega)
    have hdl:(m.drop (64 * (m.length / 64))).length=m.length % 64:=by rw [List.length_drop];omega
    rw [hr,hz,List.append_nil,List.drop_append_of_le_length (by omega),List.take_append,List.take_of_length_le (l:=m.drop (64 * (m.length / 64))) (by omega),hdl]
   have s3:L99_3 F x ((m.length % 64:Nat):Int) true (hN F (m.length / 64) m) b=some (.inl (x.drop (64 - m.length % 64),hN F (m.length / 64 + 1) (m ++ x),vspl b (m.length % 64) x (64 - m.length % 64))):=by
    simp only [L99_3,L99_3c,cond_true,g1,Option.bind_some,hmin,g2,w,d2,decide_false,cond_false,g0,b91v (show 100 < F by omega),hbl,hN,hN_app F m x (m.length / 64) (by omega)]
   obtain ⟨q1,q2⟩:=tail82 (F:=F) (by omega) (m ++ x) (by omega) (vspl b (m.length % 64) x (64 - m.length % 64)) (k:=m.length / 64 + 1) (by omega)
   have e1:(m ++ x).drop (64 * (m.length / 64 + 1))=x.drop (64 - m.length % 64):=by
    rw [List.drop_append,List.drop_of_length_le (by omega),List.nil_append]
    congr 1;omega
   rw [e1] at q1
   have hmin2:Nat.min ((m ++ x).drop (64 * ((m ++ x).length / 64))).length (64 - 0)=((m ++ x).drop (64 * ((m ++ x).length / 64))).length:=Nat.min_eq_left (by simp;omega)
   refine ⟨hN F ((m ++ x).length / 64) (m ++ x),vspl (vspl b (m.length % 64) x (64 - m.length % 64)) 0 ((m ++ x).drop (64 * ((m ++ x).length / 64))) ((m ++ x).drop (64 * ((m ++ x).length / 64))).length,((m ++ x).length:Int),?_,rfl,rfl,q2⟩
   simp only [T99,T99c,tmod64,d,decide_true,s3,Option.bind_some,elimS,q1,g0,hmin2,wn]
theorem gapp_ok {α:Type} {xs ys:List α} (h:xs.length + ys.length≤1099511627776):gapp xs ys=some (xs ++ ys):=by unfold gapp;rw [if_pos h]
theorem padz {F:Nat} {m:List UInt8} (hF:300 < F) (hb:m.length < 1000000000) (h:Vector UInt32 8) (b:Vector UInt8 64):∃ p:List UInt8,p.length≤64∧1≤p.length∧(m.length + p.length) % 64=56 ∧
  iter (fun s:List UInt8=>L100_4 F (h,b,(m.length:Int),()) s) F [(UInt8.ofNat 128)]=some p∧iter (fun s:List UInt8=>L101_3 F s) F (m ++ [(UInt8.ofNat 128)])=some (m ++ p):=by
 obtain ⟨r,r',b1,b2,b3,b4,b5⟩:=iter2 (f:=fun s:List UInt8=>L100_4 F (h,b,(m.length:Int),()) s) (g:=fun s:List UInt8=>L101_3 F s)
  (fun s t=>t=m ++ s∧1≤s.length∧s.length≤(119 - m.length % 64) % 64 + 1) (fun r r'=>r'=m ++ r∧(1≤r.length∧r.length≤64)∧(m.length + r.length) % 64=56) (fun s=>65 - s.length) (by
   rintro s t ⟨rfl,h1,h2⟩
   have w:w64 ((m.length:Int) + (s.length:Int))=((m.length + s.length:Nat):Int):=by rw [w64_in (by omega) (by omega)];omega
   have hl:((m ++ s).length:Int)=((m.length + s.length:Nat):Int):=by simp
   by_cases hc:(m.length + s.length) % 64=56
   ·have e:((((m.length + s.length) % 64:Nat):Int) != 56)=false:=by rw [hc];rfl
    refine .inr ⟨s,m ++ s,?_,?_,rfl,⟨h1,by omega⟩,hc⟩
    ·simp only [L100_4,L100_4c,w,tmod64,e,cond_false]
    ·simp only [L101_3,L101_3c,hl,tmod64,e,cond_false]
   ·have e:((((m.length + s.length) % 64:Nat):Int) != 56)=true:=by rw [bne_iff_ne];omega
    refine .inl ⟨s ++ [UInt8.ofNat 0],m ++ s ++ [UInt8.ofNat 0],?_,?_,⟨by simp,by simp,?_⟩,?_⟩
    ·simp only [L100_4,L100_4c,w,tmod64,e,cond_true,gapp_ok (show s.length + [UInt8.ofNat 0].length≤1099511627776 by simp;omega),Option.bind_some]
    ·simp only [L101_3,L101_3c,hl,tmod64,e,cond_true,gapp_ok (show (m ++ s).length + [UInt8.ofNat 0].length≤1099511627776 by simp;omega),Option.bind_some]
    ·simp only [List.length_append,List.length_cons,List.length_nil];omega
    ·simp only [List.length_append,List.length_cons,List.length_nil];omega) F F [(UInt8.ofNat 128)] (m ++ [(UInt8.ofNat 128)]) ⟨rfl,by simp,by simp⟩ (by simp;omega) (by simp;omega)
 subst b3
 exact ⟨r,b4.2,b4.1,b5,b1,b2⟩
theorem padc {F:Nat} {m p:List UInt8} (hF:300 < F) (hb:m.length < 1000000000) (hp:p.length≤64) (c:UInt64):∃ q:List UInt8,q.length=p.length + 8 ∧
  iter (fun s:Int×List UInt8=>L100_5 F c s.1 s.2) F ((56:Int),p)=some q∧iter (fun s:Int×List UInt8=>L101_4 F c s.1 s.2) F ((7:Int),m ++ p)=some (m ++ q):=by
 obtain ⟨r,r',b1,b2,b3,b4⟩:=iter2 (f:=fun s:Int×List UInt8=>L100_5 F c s.1 s.2) (g:=fun s:Int×List UInt8=>L101_4 F c s.1 s.2)
  (fun s t=>∃ i:Nat,i≤8∧s.1=8 * (i:Int) - 8∧t.1=(i:Int) - 1∧t.2=m ++ s.2∧s.2.length + i=p.length + 8) (fun r r'=>r'=m ++ r∧r.length=p.length + 8) (fun s=>(s.1 + 8).toNat) (by
   rintro ⟨a,s⟩ ⟨a',t⟩ ⟨i,h8,h1,h2,h3,h4⟩
   simp only at h1 h2 h3 h4
   subst h1 h2 h3
   cases i with
   | zero=>
    refine .inr ⟨s,m ++ s,?_,?_,rfl,by omega⟩
    ·have d:¬ ((0:Int)≤8 * ((0:Nat):Int) - 8):=by omega
     simp only [L100_5,L100_5c,d,decide_false,cond_false]
    ·have d:¬ ((0:Int)≤((0:Nat):Int) - 1):=by omega
     simp only [L101_4,L101_4c,d,decide_false,cond_false]
   | succ i=>
    have e1:8 * ((i + 1:Nat):Int) - 8=((8 * i:Nat):Int):=by omega
    have e2:((i + 1:Nat):Int) - 1=((i:Nat):Int):=by omega
    rw [e1,e2]
    have d1:((0:Int)≤((8 * i:Nat):Int)):=by omega
    have d2:((0:Int)≤((i:Nat):Int)):=by omega
    have n1:gnn ((8 * i:Nat):Int)=some (8 * i):=by unfold gnn;rw [if_pos d1];simp only [Int.toNat_natCast]
    have w0:w64 ((8:Int) * ((i:Nat):Int))=((8 * i:Nat):Int):=by rw [w64_in (by omega) (by omega)];omega
    have w1:w64 (((8 * i:Nat):Int) - 8)=8 * (i:Int) - 8:=by rw [w64_in (by omega) (by omega)];omega
    have w2:w64 (((i:Nat):Int) - 1)=(i:Int) - 1:=by rw [w64_in (by omega) (by omega)]
    refine .inl ⟨(8 * (i:Int) - 8,s ++ [(shr64 c (8 * i)).toUInt8]),((i:Int) - 1,m ++ s ++ [(shr64 c (8 * i)).toUInt8]),?_,?_,⟨i,by omega,rfl,rfl,by simp,by simp;omega⟩,?_⟩
    ·simp only [L100_5,L100_5c,d1,decide_true,cond_true,n1,Option.bind_some,gapp_ok (show s.length + [(shr64 c (8 * i)).toUInt8].length≤1099511627776 by simp;omega),w1]
    ·simp only [L101_4,L101_4c,d2,decide_true,cond_true,w0,n1,Option.bind_some,gapp_ok (show (m ++ s).length + [(shr64 c (8 * i)).toUInt8].length≤1099511627776 by simp;omega),w2]
    ·simp only;omega) F F ((56:Int),p) ((7:Int),m ++ p) ⟨8,by omega,by omega,by omega,rfl,rfl⟩ (by simp only;omega) (by simp only;omega)
 subst b3
 exact ⟨r,b4,b1,b2⟩
theorem outs {F:Nat} (hF:300 < F) (h:Vector UInt32 8):∃ d:List UInt8,d.length=32∧iter (fun s:Int×List UInt8=>L100_6 F h s.1 s.2) F ((0:Int),([]:List UInt8))=some d∧iter (fun s:Int×List UInt8=>L87_4 F h s.1 s.2) F ((0:Int),([]:List UInt8))=some d:=by
 obtain ⟨r,r',b1,b2,b3,b4⟩:=iter2 (f:=fun s:Int×List UInt8=>L100_6 F h s.1 s.2) (g:=fun s:Int×List UInt8=>L87_4 F h s.1 s.2)
  (fun s t=>s=t∧∃ i:Nat,s.1=i∧i≤8∧s.2.length=4 * i) (fun r r'=>r'=r∧r.length=32) (fun s=>8 - s.1.toNat) (by
   rintro ⟨a,s⟩ t ⟨rfl,i,hi,h8,hl⟩
   simp only at hi hl
   subst hi
   by_cases hlt:i < 8
   ·have h1:(((i:Nat):Int) < 8):=by omega
    have e3:w64 (((i:Nat):Int) + 1)=((i + 1:Nat):Int):=by rw [w64_in (by omega) (by omega)];omega
    have n:inb 8 ((i:Nat):Int)=some i:=inb_nat hlt
    have ga:gapp s [((shr32 h[i] ((UInt64.ofNat 24).toNat)).toUInt8),((shr32 h[i] ((UInt64.ofNat 16).toNat)).toUInt8),((shr32 h[i] ((UInt64.ofNat 8).toNat)).toUInt8),(h[i].toUInt8)]=some (s ++ [((shr32 h[i] ((UInt64.ofNat 24).toNat)).toUInt8),((shr32 h[i] ((UInt64.ofNat 16).toNat)).toUInt8),((shr32 h[i] ((UInt64.ofNat 8).toNat)).toUInt8),(h[i].toUInt8)]):=gapp_ok (by simp [hl];omega)
    refine .inl ⟨(((i + 1:Nat):Int),s ++ [((shr32 h[i] ((UInt64.ofNat 24).toNat)).toUInt8),((shr32 h[i] ((UInt64.ofNat 16).toNat)).toUInt8),((shr32 h[i] ((UInt64.ofNat 8).toNat)).toUInt8),(h[i].toUInt8)]),(((i + 1:Nat):Int),s ++ [((shr32 h[i] ((UInt64.ofNat 24).toNat)).toUInt8),((shr32 h[i] ((UInt64.ofNat 16).toNat)).toUInt8),((shr32 h[i] ((UInt64.ofNat 8).toNat)).toUInt8),(h[i].toUInt8)]),?_,?_,⟨rfl,i + 1,rfl,by omega,?_⟩,by simp only [Int.toNat_natCast];omega⟩
    ·simp only [L100_6,L100_6c,h1,decide_true,cond_true,vix_nat (v:=h) hlt,Option.bind_some,ga,e3]
    ·simp only [L87_4,L87_4c,h1,decide_true,cond_true,n,vat_nat (v:=h) hlt,Option.bind_some,ga,e3]
    ·simp [hl];omega
   ·obtain rfl:i=8:=by omega
    exact .inr ⟨s,s,rfl,rfl,rfl,hl⟩) F F ((0:Int),([]:List UInt8)) ((0:Int),([]:List UInt8)) ⟨rfl,0,rfl,by omega,rfl⟩ (by simp only [Int.toNat_zero];omega) (by simp only [Int.toNat_zero];omega)
 subst b3
 exact ⟨r',b4,b1,b2⟩
theorem lp68 {F:Nat} (hF:100 < F) {M:List UInt8} {K:Nat} (hM:M.length=64 * K) (hb:M.length < 2000000000):∀ (j fuel k:Nat),k + j=K->j < fuel ->
  iter (fun s:Int×Vector UInt32 8=>L87_3 F M s.1 s.2) fuel (((64 * k:Nat):Int),hN F k M)=some (hN F K M)
 | j,0,k,hk,hf=>absurd hf (by omega)
 | 0,fuel + 1,k,hk,hf=>by
  have h1:¬ (((64 * k:Nat):Int) < (M.length:Int)):=by omega
  obtain rfl:k=K:=by omega
  have step:L87_3 F M ((64 * k:Nat):Int) (hN F k M)=some (.inr (hN F k M)):=by
   simp only [L87_3,L87_3c,h1,decide_false,cond_false]
  exact it_out (f:=fun s:Int×Vector UInt32 8=>L87_3 F M s.1 s.2) (s:=(((64 * k:Nat):Int),hN F k M)) step
 | j + 1,fuel + 1,k,hk,hf=>by
  have h1:(((64 * k:Nat):Int) < (M.length:Int)):=by omega
  have w:w64 (((64 * k:Nat):Int) + 64)=((64 * (k + 1):Nat):Int):=by rw [w64_in (by omega) (by omega)];omega
  have g:gslb M.length ((64 * k:Nat):Int) ((64 * (k + 1):Nat):Int)=some (64 * k,64 * (k + 1)):=gslb_nat (by omega) (by omega)
  have e:64 * (k + 1) - 64 * k=64:=by omega
  have step:L87_3 F M ((64 * k:Nat):Int) (hN F k M)=some (.inl (((64 * (k + 1):Nat):Int),hN F (k + 1) M)):=by
   simp only [L87_3,L87_3c,h1,decide_true,cond_true,w,g,Option.bind_some,e,b85 hF (show ((M.drop (64 * k)).take 64).length=64 by simp;omega),hN]
  refine (it_again (f:=fun s:Int×Vector UInt32 8=>L87_3 F M s.1 s.2) (s:=(((64 * k:Nat):Int),hN F k M)) step).trans ?_
  exact lp68 hF hM hb j fuel (k + 1) (by omega) (by omega)
theorem sum_eq {F:Nat} {m:List UInt8} {h:Vector UInt32 8} {b:Vector UInt8 64} {n:Int} (hF:400 + m.length < F) (hb:m.length < 100000000) (hI:Inv F m h b n) :
  ∃ d,T100 F (h,b,n,())=some d∧T87 F m=some d∧d.length=32:=by
 have hn:=hI.len
 subst hn
 obtain ⟨p,p1,p2,p3,p4,p5⟩:=padz (F:=F) (m:=m) (by omega) (by omega) h b
 obtain ⟨q,q1,q2,q3⟩:=padc (F:=F) (m:=m) (p:=p) (by omega) (by omega) p1 ((UInt64.ofInt (m.length:Int)) * (UInt64.ofNat 8))
 obtain ⟨h',b',n',t1,t2⟩:=t82 (x:=q) (by omega) (by omega) hI
 obtain ⟨d,d1,d2,d3⟩:=outs (F:=F) (by omega) h'
 have g0:gmake (0:UInt8) (0:Int) (32:Int)=some []:=by decide +kernel
 have hl:(m ++ q).length=m.length + q.length:=by simp
 have hK:(m ++ q).length=64 * ((m ++ q).length / 64):=by omega
 have l:=lp68 (F:=F) (by omega) hK (by omega) ((m ++ q).length / 64) F 0 (by omega) (by omega)
 rw [← t2.words] at l
 refine ⟨d,?_,?_,d1⟩
 ·simp only [T100,T100c,p4,Option.bind_some,q2,t1,g0,d2]
 ·have ga:gapp ([]:List UInt8) m=some m:=by rw [gapp_ok (by simp;omega)];rfl
  have gb:gapp m [UInt8.ofNat 128]=some (m ++ [UInt8.ofNat 128]):=gapp_ok (by simp;omega)
  have h84:T101 F m=some (m ++ q):=by
   simp only [T101,T101c,ga,gb,Option.bind_some,p5,q3]
  simp only [T87,T87c,h84,Option.bind_some]
  refine Eq.trans (congrArg (fun o=>Option.bind o _) l) ?_
  simp only [Option.bind_some,d3]
theorem inv0 (F:Nat):Inv F [] gv1 (Vector.replicate 64 (0:UInt8)) 0:=⟨rfl,rfl,rfl⟩
theorem t79 {F:Nat} {ls:List (List UInt8)} (hF:400 + ls.flatten.length + ls.length < F) (hb:ls.flatten.length < 100000000) (hl:ls.length < 1000):∃ d,T96 F ls=some d∧T87 F ls.flatten=some d∧d.length=32:=by
 obtain ⟨r,b1,b2⟩:=iter1 (f:=fun s:Int×Vector UInt32 8×Vector UInt8 64×Int=>L96_2 F ls (ls.length:Int) s.1 s.2.1 s.2.2.1 s.2.2.2)
  (fun s=>∃ i:Nat,s.1=i∧i≤ls.length∧Inv F (ls.take i).flatten s.2.1 s.2.2.1 s.2.2.2) (fun r=>Inv F ls.flatten r.1 r.2.1 r.2.2) (fun s=>ls.length - s.1.toNat) (by
   rintro ⟨a,h,b,n⟩ ⟨i,hi,hil,hI⟩
   simp only at hi hI
   subst hi
   by_cases hlt:i < ls.length
   ·have h1:(((i:Nat):Int) < (ls.length:Int)):=by omega
    have e3:w64 (((i:Nat):Int) + 1)=((i + 1:Nat):Int):=by rw [w64_in (by omega) (by omega)];omega
    have hs:(ls.take (i + 1)).flatten=(ls.take i).flatten ++ ls[i]:=by
     rw [List.take_succ_eq_append_getElem hlt,List.flatten_append];simp
    have hle:(ls.take (i + 1)).flatten.length≤ls.flatten.length:=by
     conv=>rhs;rw [← List.take_append_drop (i + 1) ls,List.flatten_append,List.length_append]
     omega
    rw [hs,List.length_append] at hle
    have gs:gstr ls[i]=some ls[i]:=by unfold gstr;rw [if_pos (by omega)]
    obtain ⟨h',b',n',t1,t2⟩:=t82 (x:=ls[i]) (by omega) (by omega) hI
    refine .inl ⟨(((i + 1:Nat):Int),h',b',n'),?_,⟨i + 1,rfl,by omega,?_⟩,by simp only [Int.toNat_natCast];omega⟩
    ·simp only [L96_2,L96_2c,h1,decide_true,cond_true,ix_nat hlt,Option.bind_some,gs,t1,e3]
    ·rw [hs];exact t2
   ·obtain rfl:i=ls.length:=by omega
    have h1:¬ (((ls.length:Nat):Int) < (ls.length:Int)):=by omega
    rw [List.take_length] at hI
    refine .inr ⟨(h,b,n),?_,hI⟩
    simp only [L96_2,L96_2c,h1,decide_false,cond_false]) F ((0:Int),gv1,Vector.replicate 64 (0:UInt8),(0:Int)) ⟨0,rfl,by omega,inv0 F⟩ (by simp only [Int.toNat_zero];omega)
 obtain ⟨d,d1,d2,d3⟩:=sum_eq (by omega) hb b2
 refine ⟨d,?_,d2,d3⟩
 simp only [T96,T96c,T98,T98c,Option.bind_some,b1,d1]
def xk (k:List UInt8) (x:UInt8):List UInt8:=(k ++ List.replicate (64 - k.length) 0).map (fun y=>y ^^^ x)
theorem xk_len {k:List UInt8} (h:k.length≤64) (x:UInt8):(xk k x).length=64:=by simp [xk];omega
theorem t80 {F:Nat} (hF:400 < F) (x:UInt8) (v:Vector UInt8 64):∃ r,T97 F x v=some r∧r.toList=v.toList.map (fun y=>y ^^^ x):=by
 obtain ⟨r,b1,b2⟩:=iter1 (f:=fun s:Int×Vector UInt8 64=>L97_2 F x v s.1 s.2)
  (fun s=>∃ i:Nat,s.1=i∧i≤64∧∀ j (hj:j < 64),j < i->s.2[j]=v[j] ^^^ x) (fun r=>r.toList=v.toList.map (fun y=>y ^^^ x)) (fun s=>64 - s.1.toNat) (by
   rintro ⟨a,u⟩ ⟨i,hi,h64,hu⟩
   simp only at hi hu
   subst hi
   by_cases h:i < 64
   ·have h1:(((i:Nat):Int) < 64):=by omega
    have e3:w64 (((i:Nat):Int) + 1)=((i + 1:Nat):Int):=by rw [w64_in (by omega) (by omega)];omega
    have n:inb 64 ((i:Nat):Int)=some i:=inb_nat h
    refine .inl ⟨(((i + 1:Nat):Int),u.setIfInBounds i (v[i] ^^^ x)),?_,⟨i + 1,rfl,by omega,fun j hj hji=>?_⟩,by simp only [Int.toNat_natCast];omega⟩
    ·simp only [L97_2,L97_2c,h1,decide_true,cond_true,vix_nat (v:=v) h,n,Option.bind_some,e3]
    ·simp only [Vector.getElem_setIfInBounds]
     by_cases e:i=j
     ·subst e;simp only [if_true]
     ·rw [if_neg e];exact hu j hj (by omega)
   ·obtain rfl:i=64:=by omega
    refine .inr ⟨u,rfl,?_⟩
    apply List.ext_getElem (by simp)
    intro j h1 h2
    simp only [Vector.getElem_toList,List.getElem_map]
    have hj:j < 64:=by simpa using h1
    exact hu j hj hj) F ((0:Int),Vector.replicate 64 (0:UInt8)) ⟨0,rfl,by omega,fun j hj h0=>absurd h0 (by omega)⟩ (by simp only [Int.toNat_zero];omega)
 exact ⟨r,by simp only [T97,T97c,b1,Option.bind_some],b2⟩
theorem filled {k:List UInt8} (h:k.length≤64):(vspl (Vector.replicate 64 (0:UInt8)) 0 k k.length).toList=k ++ List.replicate (64 - k.length) 0:=by
 rw [vspl_toList (by omega) (Nat.le_refl _),Vector.toList_replicate]
 simp only [splice,List.take_zero,List.nil_append,List.take_length,Nat.zero_add,List.drop_replicate]
theorem t69 {F:Nat} (hF:400 < F) {k:List UInt8} (hk:k.length≤64) (x:UInt8):T88 F k x=some (xk k x):=by
 obtain ⟨r,b1,b2⟩:=iter1 (f:=fun s:Int×List UInt8=>L88_2 F k x s.1 s.2)
  (fun s=>∃ i:Nat,s.1=i∧i≤64∧s.2=(xk k x).take i) (fun r=>r=xk k x) (fun s=>64 - s.1.toNat) (by
   rintro ⟨a,u⟩ ⟨i,hi,h64,hu⟩
   simp only at hi hu
   subst hi hu
   have xl:=xk_len hk x
   by_cases h:i < 64
   ·have h1:(((i:Nat):Int) < 64):=by omega
    have e3:w64 (((i:Nat):Int) + 1)=((i + 1:Nat):Int):=by rw [w64_in (by omega) (by omega)];omega
    have hs:(xk k x).take (i + 1)=(xk k x).take i ++ [(xk k x)[i]]:=List.take_succ_eq_append_getElem (by omega)
    have ga:gapp ((xk k x).take i) [(xk k x)[i]]=some ((xk k x).take (i + 1)):=by rw [gapp_ok (by simp;omega),hs]
    refine .inl ⟨(((i + 1:Nat):Int),(xk k x).take (i + 1)),?_,⟨i + 1,rfl,by omega,rfl⟩,by simp only [Int.toNat_natCast];omega⟩
    by_cases hik:i < k.length
    ·have h2:(((i:Nat):Int) < (k.length:Int)):=by omega
     have hx:(xk k x)[i]=k[i] ^^^ x:=by simp [xk,List.getElem_append,hik]
     rw [hx] at ga
     simp only [L88_2,L88_2c,h1,h2,decide_true,cond_true,ix_nat hik,Option.bind_some,ga,e3]
    ·have h2:¬ (((i:Nat):Int) < (k.length:Int)):=by omega
     have hx:(xk k x)[i]=(UInt8.ofNat 0) ^^^ x:=by simp [xk,List.getElem_append,hik]
     rw [hx] at ga
     simp only [L88_2,L88_2c,h1,h2,decide_true,decide_false,cond_true,cond_false,Option.bind_some,ga,e3]
   ·obtain rfl:i=64:=by omega
    exact .inr ⟨(xk k x).take 64,rfl,List.take_of_length_le (by omega)⟩) F ((0:Int),([]:List UInt8)) ⟨0,rfl,by omega,by simp⟩ (by simp only [Int.toNat_zero];omega)
 subst b2
 simp only [T88,T88c,b1,Option.bind_some]
theorem start65 {F:Nat} (hF:2000 < F) {k:List UInt8} (hk:k.length≤64):∃ o i h b n,T97 F 92 (vspl (Vector.replicate 64 (0:UInt8)) 0 k (Nat.min k.length (64 - 0)))=some o∧T97 F 54 (vspl (Vector.replicate 64 (0:UInt8)) 0 k (Nat.min k.length (64 - 0)))=some i ∧
  T99x1 F ((i.toList.drop 0).take (64 - 0)) gv1 (Vector.replicate 64 (0:UInt8)) 0=some (h,b,n)∧Inv F (xk k 54) h b n∧o.toList=xk k 92:=by
 have hmin:Nat.min k.length (64 - 0)=k.length:=Nat.min_eq_left (by omega)
 rw [hmin]
 obtain ⟨o,o1,o2⟩:=t80 (F:=F) (by omega) 92 (vspl (Vector.replicate 64 (0:UInt8)) 0 k k.length)
 obtain ⟨i,i1,i2⟩:=t80 (F:=F) (by omega) 54 (vspl (Vector.replicate 64 (0:UInt8)) 0 k k.length)
 rw [filled hk] at o2 i2
 have xl:=xk_len hk 54
 obtain ⟨h,b,n,t1,t2⟩:=t82 (F:=F) (m:=[]) (x:=xk k 54) (by simp only [List.length_nil];omega) (by simp only [List.length_nil];omega) (inv0 F)
 rw [List.nil_append] at t2
 refine ⟨o,i,h,b,n,o1,i1,?_,t2,o2⟩
 rw [i2,x82_eq]
 have e:(((k ++ List.replicate (64 - k.length) 0).map (fun y=>y ^^^ (54:UInt8))).drop 0).take (64 - 0)=xk k 54:=by
  rw [List.drop_zero,List.take_of_length_le (by simp;omega)];rfl
 rw [e,t1]
theorem v0_0:vix gv0 (0:Int)=some 54:=rfl
theorem v0_1:vix gv0 (1:Int)=some 92:=rfl
theorem tag_eq {F:Nat} {k d:List UInt8} (hF:2000 + k.length + d.length < F) (hk:k.length < 10000000) (hd:d.length < 10000000):∃ t,T86 F k d=some t∧T66 F k d=some t∧t.length=32:=by
 have g0:gslb 64 (0:Int) ((64:Nat):Int)=some (0,64):=gslb_nat (a:=0) (by omega) (by omega)
 have key:∀ k':List UInt8,k'.length≤64->∃ h b n o t inner,(T97 F 92 (vspl (Vector.replicate 64 (0:UInt8)) 0 k' (Nat.min k'.length (64 - 0)))=some o∧∃ i,T97 F 54 (vspl (Vector.replicate 64 (0:UInt8)) 0 k' (Nat.min k'.length (64 - 0)))=some i ∧
   T99x1 F ((i.toList.drop 0).take (64 - 0)) gv1 (Vector.replicate 64 (0:UInt8)) 0=some (h,b,n))∧(∃ z,T84 F d h b n=some z∧T85 F z.1 z.2.1 z.2.2 o=some t) ∧
   T87 F (xk k' 54 ++ d)=some inner∧inner.length=32∧T87 F (xk k' 92 ++ inner)=some t∧t.length=32:=by
  intro k' hk'
  obtain ⟨o,i,h,b,n,o1,i1,s1,s2,s3⟩:=start65 (F:=F) (by omega) hk'
  have xl:=xk_len hk' 54
  have xl2:=xk_len hk' 92
  obtain ⟨h2,b2,n2,u1,u2⟩:=t82 (F:=F) (x:=d) (by omega) (by omega) s2
  obtain ⟨inner,v1,v2,v3⟩:=sum_eq (F:=F) (by simp only [List.length_append];omega) (by simp only [List.length_append];omega) u2
  obtain ⟨t,w1,w2,w3⟩:=t79 (F:=F) (ls:=[xk k' 92,inner]) (by simp only [List.flatten_cons,List.flatten_nil,List.length_append,List.length_cons,List.length_nil];omega) (by simp only [List.flatten_cons,List.flatten_nil,List.length_append,List.length_nil];omega) (by simp)
  have hfl:[xk k' 92,inner].flatten=xk k' 92 ++ inner:=by simp
  rw [hfl] at w2
  refine ⟨h,b,n,o,t,inner,⟨o1,i,i1,s1⟩,⟨(h2,b2,n2),?_,?_⟩,v2,v3,w2,w3⟩
  ·simp only [T84,T84c,x82_eq,u1,Option.bind_some]
  ·have e:(o.toList.drop 0).take (64 - 0)=xk k' 92:=by rw [s3,List.drop_zero,List.take_of_length_le (by omega)]
   simp only [T85,T85c,g0,Option.bind_some,v1,e,w1]
 by_cases hlong:64 < k.length
 ·have h1:((64:Int) < (k.length:Int)):=by omega
  obtain ⟨k',a1,a2,a3⟩:=t79 (F:=F) (ls:=[k]) (by simp;omega) (by simp;omega) (by simp)
  have hfl:[k].flatten=k:=by simp
  rw [hfl] at a2
  obtain ⟨h,b,n,o,t,inner,⟨o1,i,i1,s1⟩,⟨z,z1,z2⟩,c1,c2,c3,c4⟩:=key k' (by omega)
  have xl:=xk_len (k:=k') (by omega) 54
  have xl2:=xk_len (k:=k') (by omega) 92
  have h65:T83 F k=some (h,b,n,o):=by
   simp only [T83,T83c,h1,decide_true,cond_true,a1,Option.bind_some,g0,v0_0,v0_1,T98,T98c,o1,i1,s1]
  refine ⟨t,?_,?_,c4⟩
  ·simp only [T86,T86c,h65,Option.bind_some,z1,z2]
  ·have gs:gstr k=some k:=by unfold gstr;rw [if_pos (by omega)]
   have gi:gstr inner=some inner:=by unfold gstr;rw [if_pos (by omega)]
   have q1:T88 F k' (UInt8.ofNat 54)=some (xk k' 54):=t69 (by omega) (by omega) _
   have q2:T88 F k' (UInt8.ofNat 92)=some (xk k' 92):=t69 (by omega) (by omega) _
   simp only [T66,T66c,h1,decide_true,cond_true,gs,Option.bind_some,a2,q1,q2,gapp_ok (show (xk k' 54).length + d.length≤1099511627776 by omega),c1,gi,gapp_ok (show (xk k' 92).length + inner.length≤1099511627776 by omega),c3]
 ·have h1:¬ ((64:Int) < (k.length:Int)):=by omega
  obtain ⟨h,b,n,o,t,inner,⟨o1,i,i1,s1⟩,⟨z,z1,z2⟩,c1,c2,c3,c4⟩:=key k (by omega)
  have xl:=xk_len (k:=k) (by omega) 54
  have xl2:=xk_len (k:=k) (by omega) 92
  have h65:T83 F k=some (h,b,n,o):=by
   simp only [T83,T83c,h1,decide_false,cond_false,Option.bind_some,g0,v0_0,v0_1,T98,T98c,o1,i1,s1]
  refine ⟨t,?_,?_,c4⟩
  ·simp only [T86,T86c,h65,Option.bind_some,z1,z2]
  ·have gi:gstr inner=some inner:=by unfold gstr;rw [if_pos (by omega)]
   have q1:T88 F k (UInt8.ofNat 54)=some (xk k 54):=t69 (by omega) (by omega) _
   have q2:T88 F k (UInt8.ofNat 92)=some (xk k 92):=t69 (by omega) (by omega) _
   simp only [T66,T66c,h1,decide_false,cond_false,Option.bind_some,q1,q2,gapp_ok (show (xk k 54).length + d.length≤1099511627776 by omega),c1,gi,gapp_ok (show (xk k 92).length + inner.length≤1099511627776 by omega),c3]
end Go.Proofs.YthikoaamigiceaaDoor
