/- The functions, each with its twin, and plain facts about them. -/
import Derived.Test.YthikoaamigiceaaGreatDoorH1
namespace Go.Proofs.YthikoaamigiceaaGreatDoor
open Go.Tw
set_option linter.unusedSimpArgs false
set_option linter.unusedVariables false
def ord52:Nat->List (Tag×Nat)
 | _=>[]
def al52:Nat->Option Nat
 | _=>none
def ms52:Nat->Option (List (Option Tag×Nat×List Nat))
 | _=>none
def E52 (F:Nat):Ev:=⟨cfg,22,ctOf [(117,ct117 F)],ord52,ctOf [],al52,ms52⟩
theorem cts52 (F:Nat):CtsOk Tryz.prog (E52 F):=cts_of (l:=[(117,ct117 F)]) (l':=[]) rfl rfl ⟨⟨ok117 F,_,Tryz.func117,rfl,rfl⟩,trivial⟩ trivial
def T52c (F:Nat) (p0:List UInt8) (p1:Int) (p2:List UInt8) {β:Type} (k:((List UInt8))->Option β):Option β:=
 (bif (p1 == (0:Int)) then (Option.bind (T117 F (UInt64.ofInt (p0.length:Int)) p2) fun z3=>(Option.bind (gapp z3 p0) fun x4=>(k x4))) else (k p2))
def T52 (F:Nat) (p0:List UInt8) (p1:Int) (p2:List UInt8):Option ((List UInt8)):=T52c F p0 p1 p2 some
theorem T52n (F:Nat) (p0:List UInt8) (p1:Int) (p2:List UInt8) {β:Type} (k:((List UInt8))->Option β):T52c F p0 p1 p2 k=(T52 F p0 p1 p2).bind k:=by
 simp only [T52,T52c,Option.bind_assoc,cond_bind,Option.bind_some,Option.bind_none,elimS_bind]
abbrev cA52:List Sh:=[(.pt 0 []),.str]
abbrev cB52:List Sh:=[]
abbrev cT52:List TSh:=[.blk 166 (.pr (.rw 1) (.pr .i .un)),.row 5 .u8]
abbrev cU52:List TSh:=[.blk 166 (.pr (.rw 1) (.pr .i .un)),.row 5 .u8]
def ct52 (F:Nat):Ct:=mkC 1 cA52 cT52 cB52 cU52 (fun x y=>T52 F x.2.1 y.1.2.1 y.2.1) (fun x y (z:(List UInt8))=>((),(((),y.1.2.1,()),z,())))
theorem eq52 (F:Nat) (x:dens cA52) (y:tdens cT52):sev (E52 F) 1 [] (bodyOf Tryz.f52) [] (mkSt (rng 2) cA52 cT52 x y) (kFn (E52 F) 1 Tryz.f52.results.toList cB52 cU52 fun p q=>some (p,q)) =
  T52c F x.2.1 y.1.2.1 y.2.1 (fun z=>some ((),(((),y.1.2.1,()),z,()))):=by kernel_rfl
theorem ok52 (F:Nat):Sound Tryz.prog cfg 52 (ct52 F):=
 mkC_ok (E:=E52 F) (lp:=[]) (code:=bodyOf Tryz.f52) Tryz.func52 rfl Tryz.ntmps52 rfl rfl cok (cts52 F) mixed trivial (by kernel_rfl) (fun x y k=>T52c F x.2.1 y.1.2.1 y.2.1 k) (fun x y k=>T52n F x.2.1 y.1.2.1 y.2.1 k) (eq52 F)
def ord53:Nat->List (Tag×Nat)
 | _=>[]
def al53:Nat->Option Nat
 | _=>none
def ms53:Nat->Option (List (Option Tag×Nat×List Nat))
 | _=>none
def E53 (F:Nat):Ev:=⟨cfg,9,ctOf [(115,ct115x1 F)],ord53,ctOf [],al53,ms53⟩
theorem cts53 (F:Nat):CtsOk Tryz.prog (E53 F):=cts_of (l:=[(115,ct115x1 F)]) (l':=[]) rfl rfl ⟨⟨ok115x1 F,_,Tryz.func115,rfl,rfl⟩,trivial⟩ trivial
def T53c (F:Nat) (p0:Bool) (p1:Int) (p2:List UInt8) {β:Type} (k:((List UInt8))->Option β):Option β:=
 (bif p0 then (Option.bind (T115x1 F (UInt64.ofNat 1) p1 p2) fun z3=>(k z3)) else (Option.bind (T115x1 F (UInt64.ofNat 0) p1 p2) fun z4=>(k z4)))
def T53 (F:Nat) (p0:Bool) (p1:Int) (p2:List UInt8):Option ((List UInt8)):=T53c F p0 p1 p2 some
theorem T53n (F:Nat) (p0:Bool) (p1:Int) (p2:List UInt8) {β:Type} (k:((List UInt8))->Option β):T53c F p0 p1 p2 k=(T53 F p0 p1 p2).bind k:=by
 simp only [T53,T53c,Option.bind_assoc,cond_bind,Option.bind_some,Option.bind_none,elimS_bind]
abbrev cA53:List Sh:=[(.pt 0 []),.bo]
abbrev cB53:List Sh:=[]
abbrev cT53:List TSh:=[.blk 166 (.pr (.rw 1) (.pr .i .un)),.row 5 .u8]
abbrev cU53:List TSh:=[.blk 166 (.pr (.rw 2) (.pr .i .un)),.no,.row 5 .u8]
def ct53 (F:Nat):Ct:=mkC 2 cA53 cT53 cB53 cU53 (fun x y=>T53 F x.2.1 y.1.2.1 y.2.1) (fun x y (z:(List UInt8))=>((),(((),y.1.2.1,()),(),z,())))
theorem eq53 (F:Nat) (x:dens cA53) (y:tdens cT53):sev (E53 F) 2 [] (bodyOf Tryz.f53) [] (mkSt (rng 2) cA53 cT53 x y) (kFn (E53 F) 2 Tryz.f53.results.toList cB53 cU53 fun p q=>some (p,q)) =
  T53c F x.2.1 y.1.2.1 y.2.1 (fun z=>some ((),(((),y.1.2.1,()),(),z,()))):=by kernel_rfl
theorem ok53 (F:Nat):Sound Tryz.prog cfg 53 (ct53 F):=
 mkC_ok (E:=E53 F) (lp:=[]) (code:=bodyOf Tryz.f53) Tryz.func53 rfl Tryz.ntmps53 rfl rfl cok (cts53 F) mixed trivial (by kernel_rfl) (fun x y k=>T53c F x.2.1 y.1.2.1 y.2.1 k) (fun x y k=>T53n F x.2.1 y.1.2.1 y.2.1 k) (eq53 F)
def ord50:Nat->List (Tag×Nat)
 | _=>[]
def al50:Nat->Option Nat
 | _=>none
def ms50:Nat->Option (List (Option Tag×Nat×List Nat))
 | _=>none
def E50 (F:Nat):Ev:=⟨cfg,31,ctOf [(45,ct45x1 F),(51,ct51 F),(52,ct52 F),(53,ct53 F)],ord50,ctOf [],al50,ms50⟩
theorem cts50 (F:Nat):CtsOk Tryz.prog (E50 F):=cts_of (l:=[(45,ct45x1 F),(51,ct51 F),(52,ct52 F),(53,ct53 F)]) (l':=[]) rfl rfl ⟨⟨ok45x1 F,_,Tryz.func45,rfl,rfl⟩,⟨⟨ok51 F,_,Tryz.func51,rfl,rfl⟩,⟨⟨ok52 F,_,Tryz.func52,rfl,rfl⟩,⟨⟨ok53 F,_,Tryz.func53,rfl,rfl⟩,trivial⟩⟩⟩⟩ trivial
def T50c (F:Nat) (p0:Int) (p1:Int) (p2:Int) (p3:List UInt8) (p4:Int) (p5:Int) (p6:Int) (p7:Int) (p8:List UInt8) (p9:Bool) (p10:Int) (p11:List UInt8) {β:Type} (k:(Int×(List UInt8))->Option β):Option β:=
 (Option.bind (T45x1 F ([p0,p1,p2]:List Int) p10 p11) fun z6=>(Option.bind (T51 F p3 p4 p5 p10 z6) fun z7=>(Option.bind (T45x1 F ([p6,p7]:List Int) z7.1 z7.2) fun z8=>(Option.bind (T52 F p8 z7.1 z8) fun z9=>(Option.bind (T53 F p9 z7.1 z9) fun z10=>(k (z7.1,z10)))))))
def T50 (F:Nat) (p0:Int) (p1:Int) (p2:Int) (p3:List UInt8) (p4:Int) (p5:Int) (p6:Int) (p7:Int) (p8:List UInt8) (p9:Bool) (p10:Int) (p11:List UInt8):Option (Int×(List UInt8)):=T50c F p0 p1 p2 p3 p4 p5 p6 p7 p8 p9 p10 p11 some
theorem T50n (F:Nat) (p0:Int) (p1:Int) (p2:Int) (p3:List UInt8) (p4:Int) (p5:Int) (p6:Int) (p7:Int) (p8:List UInt8) (p9:Bool) (p10:Int) (p11:List UInt8) {β:Type} (k:(Int×(List UInt8))->Option β):T50c F p0 p1 p2 p3 p4 p5 p6 p7 p8 p9 p10 p11 k=(T50 F p0 p1 p2 p3 p4 p5 p6 p7 p8 p9 p10 p11).bind k:=by
 simp only [T50,T50c,Option.bind_assoc,cond_bind,Option.bind_some,Option.bind_none,elimS_bind]
abbrev cA50:List Sh:=[(.pr .i (.pr .i (.pr .i (.pr (.pr .str (.pr .i (.pr .i .un))) (.pr .i (.pr .i (.pr .str (.pr .bo .un)))))))),(.pt 0 [])]
abbrev cB50:List Sh:=[]
abbrev cT50:List TSh:=[.blk 81 (.pt 1 []),.blk 166 (.pr (.rw 2) (.pr .i .un)),.row 5 .u8]
abbrev cU50:List TSh:=[.blk 81 (.pt 1 []),.blk 166 (.pr (.rw 3) (.pr .i .un)),.no,.row 5 .u8]
def ct50 (F:Nat):Ct:=mkC 3 cA50 cT50 cB50 cU50 (fun x y=>T50 F x.1.1 x.1.2.1 x.1.2.2.1 x.1.2.2.2.1.1 x.1.2.2.2.1.2.1 x.1.2.2.2.1.2.2.1 x.1.2.2.2.2.1 x.1.2.2.2.2.2.1 x.1.2.2.2.2.2.2.1 x.1.2.2.2.2.2.2.2.1 y.2.1.2.1 y.2.2.1) (fun x y (z:Int×(List UInt8))=>((),((),((),z.1,()),(),z.2,())))
theorem eq50 (F:Nat) (x:dens cA50) (y:tdens cT50):sev (E50 F) 3 [] (bodyOf Tryz.f50) [] (mkSt (rng 2) cA50 cT50 x y) (kFn (E50 F) 3 Tryz.f50.results.toList cB50 cU50 fun p q=>some (p,q)) =
  T50c F x.1.1 x.1.2.1 x.1.2.2.1 x.1.2.2.2.1.1 x.1.2.2.2.1.2.1 x.1.2.2.2.1.2.2.1 x.1.2.2.2.2.1 x.1.2.2.2.2.2.1 x.1.2.2.2.2.2.2.1 x.1.2.2.2.2.2.2.2.1 y.2.1.2.1 y.2.2.1 (fun z=>some ((),((),((),z.1,()),(),z.2,()))):=by kernel_rfl
theorem ok50 (F:Nat):Sound Tryz.prog cfg 50 (ct50 F):=
 mkC_ok (E:=E50 F) (lp:=[]) (code:=bodyOf Tryz.f50) Tryz.func50 rfl Tryz.ntmps50 rfl rfl cok (cts50 F) mixed trivial (by kernel_rfl) (fun x y k=>T50c F x.1.1 x.1.2.1 x.1.2.2.1 x.1.2.2.2.1.1 x.1.2.2.2.1.2.1 x.1.2.2.2.1.2.2.1 x.1.2.2.2.2.1 x.1.2.2.2.2.2.1 x.1.2.2.2.2.2.2.1 x.1.2.2.2.2.2.2.2.1 y.2.1.2.1 y.2.2.1 k) (fun x y k=>T50n F x.1.1 x.1.2.1 x.1.2.2.1 x.1.2.2.2.1.1 x.1.2.2.2.1.2.1 x.1.2.2.2.1.2.2.1 x.1.2.2.2.2.1 x.1.2.2.2.2.2.1 x.1.2.2.2.2.2.2.1 x.1.2.2.2.2.2.2.2.1 y.2.1.2.1 y.2.2.1 k) (eq50 F)
def ord49:Nat->List (Tag×Nat)
 | _=>[]
def al49:Nat->Option Nat
 | _=>none
def ms49:Nat->Option (List (Option Tag×Nat×List Nat))
 | _=>none
def E49 (F:Nat):Ev:=⟨cfg,22,ctOf [(114,ct114 F),(50,ct50 F)],ord49,ctOf [],al49,ms49⟩
theorem cts49 (F:Nat):CtsOk Tryz.prog (E49 F):=cts_of (l:=[(114,ct114 F),(50,ct50 F)]) (l':=[]) rfl rfl ⟨⟨ok114 F,_,Tryz.func114,rfl,rfl⟩,⟨⟨ok50 F,_,Tryz.func50,rfl,rfl⟩,trivial⟩⟩ trivial
def L49_2c (F:Nat) (y13:List (Int×Int×Int×((List UInt8)×Int×Int×Unit)×Int×Int×(List UInt8)×Bool×Unit)) (y14:Int) (y15:Int) (y16:Int) (y17:List UInt8) {β:Type} (kA:(Int×Int×(List UInt8))->Option β) (kO:(Int×(List UInt8))->Option β):Option β:=
 (bif (decide (y15 < y14)) then (Option.bind (ix y13 y15) fun x20=>(Option.bind (T50 F x20.1 x20.2.1 x20.2.2.1 x20.2.2.2.1.1 x20.2.2.2.1.2.1 x20.2.2.2.1.2.2.1 x20.2.2.2.2.1 x20.2.2.2.2.2.1 x20.2.2.2.2.2.2.1 x20.2.2.2.2.2.2.2.1 y16 y17) fun z21=>(kA ((w64 (y15 + (1:Int))),z21.1,z21.2)))) else (kO (y16,y17)))
def L49_2 (F:Nat) (y13:List (Int×Int×Int×((List UInt8)×Int×Int×Unit)×Int×Int×(List UInt8)×Bool×Unit)) (y14:Int) (y15:Int) (y16:Int) (y17:List UInt8):Option ((Int×Int×(List UInt8)) ⊕ (Int×(List UInt8))):=L49_2c F y13 y14 y15 y16 y17 (fun s=>some (.inl s)) (fun z=>some (.inr z))
theorem L49_2n (F:Nat) (y13:List (Int×Int×Int×((List UInt8)×Int×Int×Unit)×Int×Int×(List UInt8)×Bool×Unit)) (y14:Int) (y15:Int) (y16:Int) (y17:List UInt8) {β:Type} (kA:(Int×Int×(List UInt8))->Option β) (kO:(Int×(List UInt8))->Option β):L49_2c F y13 y14 y15 y16 y17 kA kO=(L49_2 F y13 y14 y15 y16 y17).bind (elimS kA kO):=by
 simp only [L49_2,L49_2c,Option.bind_assoc,cond_bind,Option.bind_some,Option.bind_none,elimS_l,elimS_r,elimS_bind]
abbrev sA49_2:List Sh:=[(.fn 50 .un (.pr (.pt 1 []) .un)),(.ro (.pr .i (.pr .i (.pr .i (.pr (.pr .s (.pr .i (.pr .i .un))) (.pr .i (.pr .i (.pr .s (.pr .bo .un))))))))),.i,.i]
abbrev sAp149_2:List Sh:=[]
abbrev sT49_2:List TSh:=[.blk 166 (.pr (.rw 3) (.pr .i .un)),.blk 81 (.pt 0 []),.no,.row 5 .u8]
abbrev sTp149_2:List TSh:=[.blk 166 (.pr (.rw 3) (.pr .i .un)),.blk 81 (.pt 0 []),.no,.row 5 .u8]
def lc49_2 (F:Nat):Lc:=mkL [2,12,13,14] sA49_2 sT49_2 [] sAp149_2 sTp149_2 F (fun x y (s:Int×Int×(List UInt8))=>L49_2 F x.2.1 x.2.2.1 s.1 s.2.1 s.2.2) (fun x y=>(x.2.2.2.1,y.1.2.1,y.2.2.2.1)) (fun x y (z:Int×(List UInt8))=>((),(((),z.1,()),(),(),z.2,())))
theorem le49_2 (F:Nat) (x:dens sA49_2) (y:tdens sT49_2) (s:Int×Int×(List UInt8)):sev (E49 F) 3 [] (cAt (bodyOf Tryz.f49) (0 :: 0 :: [1,1])) (0 :: 0 :: [1,1]) (mkSt [2,12,13,14] sA49_2 sT49_2 (((),((),())),x.2.1,x.2.2.1,s.1,()) (((),s.2.1,()),(),(),s.2.2,())) (kLoop 3 [2,12,13,14] sA49_2 sT49_2 [] sAp149_2 sTp149_2 [] [] [] 0 (fun x y=>some (.inl (x,y))) (fun x y=>some (.inr (.inl (x,y)))) (fun x y=>some (.inr (.inr (x,y))))) =
  L49_2c (β:=Full sA49_2 sT49_2 sAp149_2 sTp149_2 [] []) F x.2.1 x.2.2.1 s.1 s.2.1 s.2.2 (fun s=>some (.inl ((((),((),())),x.2.1,x.2.2.1,s.1,()),(((),s.2.1,()),(),(),s.2.2,())))) (fun z=>some (.inr (.inl ((),(((),z.1,()),(),(),z.2,()))))):=by kernel_rfl
theorem lo49_2 (F:Nat):LcOk Tryz.prog (E49 F) 3 (lc49_2 F) (cAt (bodyOf Tryz.f49) [1,1]):=
 mkL_ok (lp:=[]) (id:=0) (b:=cAt (bodyOf Tryz.f49) (0 :: 0 :: [1,1])) cok (cts49 F) mixed trivial (by kernel_rfl) (by kernel_rfl) (fun x y s=>(((),((),())),x.2.1,x.2.2.1,s.1,())) (fun x y s=>(((),s.2.1,()),(),(),s.2.2,())) (fun x y=>rfl) (fun x y=>rfl) (fun x y s kA kO=>L49_2c F x.2.1 x.2.2.1 s.1 s.2.1 s.2.2 kA kO) (fun x y s kA kO=>L49_2n F x.2.1 x.2.2.1 s.1 s.2.1 s.2.2 kA kO) (le49_2 F)
def T49c (F:Nat) (p0:List (Int×Int×Int×((List UInt8)×Int×Int×Unit)×Int×Int×(List UInt8)×Bool×Unit)) (p1:Int) (p2:List UInt8) {β:Type} (k:(Int×(List UInt8))->Option β):Option β:=
 (Option.bind (T114 F (p0.length:Int) p1 p2) fun z12=>(Option.bind (iter (fun s=>L49_2 F p0 (p0.length:Int) s.1 s.2.1 s.2.2) F ((0:Int),z12.1,z12.2)) fun z22=>(k (z22.1,z22.2))))
def T49 (F:Nat) (p0:List (Int×Int×Int×((List UInt8)×Int×Int×Unit)×Int×Int×(List UInt8)×Bool×Unit)) (p1:Int) (p2:List UInt8):Option (Int×(List UInt8)):=T49c F p0 p1 p2 some
theorem T49n (F:Nat) (p0:List (Int×Int×Int×((List UInt8)×Int×Int×Unit)×Int×Int×(List UInt8)×Bool×Unit)) (p1:Int) (p2:List UInt8) {β:Type} (k:(Int×(List UInt8))->Option β):T49c F p0 p1 p2 k=(T49 F p0 p1 p2).bind k:=by
 simp only [T49,T49c,Option.bind_assoc,cond_bind,Option.bind_some,Option.bind_none,elimS_bind]
abbrev cA49:List Sh:=[(.pt 0 []),(.ro (.pr .i (.pr .i (.pr .i (.pr (.pr .s (.pr .i (.pr .i .un))) (.pr .i (.pr .i (.pr .s (.pr .bo .un))))))))),(.fn 50 .un (.pr (.pt 1 []) .un))]
abbrev cB49:List Sh:=[]
abbrev cT49:List TSh:=[.blk 166 (.pr (.rw 2) (.pr .i .un)),.blk 81 (.pt 0 []),.row 5 .u8]
abbrev cU49:List TSh:=[.blk 166 (.pr (.rw 3) (.pr .i .un)),.blk 81 (.pt 0 []),.no,.row 5 .u8]
def ct49 (F:Nat):Ct:=mkC 3 cA49 cT49 cB49 cU49 (fun x y=>T49 F x.2.1 y.1.2.1 y.2.2.1) (fun x y (z:Int×(List UInt8))=>((),(((),z.1,()),(),(),z.2,())))
theorem eq49 (F:Nat) (x:dens cA49) (y:tdens cT49):sev (E49 F) 3 [([1,1],lc49_2 F)] (bodyOf Tryz.f49) [] (mkSt (rng 3) cA49 cT49 x y) (kFn (E49 F) 3 Tryz.f49.results.toList cB49 cU49 fun p q=>some (p,q)) =
  T49c F x.2.1 y.1.2.1 y.2.2.1 (fun z=>some ((),(((),z.1,()),(),(),z.2,()))):=by kernel_rfl
theorem ok49 (F:Nat):Sound Tryz.prog cfg 49 (ct49 F):=
 mkC_ok (E:=E49 F) (lp:=[([1,1],lc49_2 F)]) (code:=bodyOf Tryz.f49) Tryz.func49 rfl Tryz.ntmps49 rfl rfl cok (cts49 F) mixed ⟨lo49_2 F,trivial⟩ (by kernel_rfl) (fun x y k=>T49c F x.2.1 y.1.2.1 y.2.2.1 k) (fun x y k=>T49n F x.2.1 y.1.2.1 y.2.2.1 k) (eq49 F)
def ord54:Nat->List (Tag×Nat)
 | _=>[]
def al54:Nat->Option Nat
 | _=>none
def ms54:Nat->Option (List (Option Tag×Nat×List Nat))
 | _=>none
def E54 (F:Nat):Ev:=⟨cfg,6,ctOf [(51,ct51 F)],ord54,ctOf [],al54,ms54⟩
theorem cts54 (F:Nat):CtsOk Tryz.prog (E54 F):=cts_of (l:=[(51,ct51 F)]) (l':=[]) rfl rfl ⟨⟨ok51 F,_,Tryz.func51,rfl,rfl⟩,trivial⟩ trivial
def T54c (F:Nat) (p0:List UInt8) (p1:Int) (p2:Int) (p3:Int) (p4:List UInt8) {β:Type} (k:(Int×(List UInt8))->Option β):Option β:=
 (Option.bind (T51 F p0 p1 p2 p3 p4) fun z2=>(k (z2.1,z2.2)))
def T54 (F:Nat) (p0:List UInt8) (p1:Int) (p2:Int) (p3:Int) (p4:List UInt8):Option (Int×(List UInt8)):=T54c F p0 p1 p2 p3 p4 some
theorem T54n (F:Nat) (p0:List UInt8) (p1:Int) (p2:Int) (p3:Int) (p4:List UInt8) {β:Type} (k:(Int×(List UInt8))->Option β):T54c F p0 p1 p2 p3 p4 k=(T54 F p0 p1 p2 p3 p4).bind k:=by
 simp only [T54,T54c,Option.bind_assoc,cond_bind,Option.bind_some,Option.bind_none,elimS_bind]
abbrev cA54:List Sh:=[(.pr .str (.pr .i (.pr .i .un))),(.pt 0 [])]
abbrev cB54:List Sh:=[]
abbrev cT54:List TSh:=[.blk 81 (.pt 1 []),.blk 166 (.pr (.rw 2) (.pr .i .un)),.row 5 .u8]
abbrev cU54:List TSh:=[.blk 81 (.pt 1 []),.blk 166 (.pr (.rw 3) (.pr .i .un)),.no,.row 5 .u8]
def ct54 (F:Nat):Ct:=mkC 3 cA54 cT54 cB54 cU54 (fun x y=>T54 F x.1.1 x.1.2.1 x.1.2.2.1 y.2.1.2.1 y.2.2.1) (fun x y (z:Int×(List UInt8))=>((),((),((),z.1,()),(),z.2,())))
theorem eq54 (F:Nat) (x:dens cA54) (y:tdens cT54):sev (E54 F) 3 [] (bodyOf Tryz.f54) [] (mkSt (rng 2) cA54 cT54 x y) (kFn (E54 F) 3 Tryz.f54.results.toList cB54 cU54 fun p q=>some (p,q)) =
  T54c F x.1.1 x.1.2.1 x.1.2.2.1 y.2.1.2.1 y.2.2.1 (fun z=>some ((),((),((),z.1,()),(),z.2,()))):=by kernel_rfl
theorem ok54 (F:Nat):Sound Tryz.prog cfg 54 (ct54 F):=
 mkC_ok (E:=E54 F) (lp:=[]) (code:=bodyOf Tryz.f54) Tryz.func54 rfl Tryz.ntmps54 rfl rfl cok (cts54 F) mixed trivial (by kernel_rfl) (fun x y k=>T54c F x.1.1 x.1.2.1 x.1.2.2.1 y.2.1.2.1 y.2.2.1 k) (fun x y k=>T54n F x.1.1 x.1.2.1 x.1.2.2.1 y.2.1.2.1 y.2.2.1 k) (eq54 F)
def ord58:Nat->List (Tag×Nat)
 | _=>[]
def al58:Nat->Option Nat
 | _=>none
def ms58:Nat->Option (List (Option Tag×Nat×List Nat))
 | _=>none
def E58 (F:Nat):Ev:=⟨cfg,22,ctOf [(114,ct114 F),(54,ct54 F)],ord58,ctOf [],al58,ms58⟩
theorem cts58 (F:Nat):CtsOk Tryz.prog (E58 F):=cts_of (l:=[(114,ct114 F),(54,ct54 F)]) (l':=[]) rfl rfl ⟨⟨ok114 F,_,Tryz.func114,rfl,rfl⟩,⟨⟨ok54 F,_,Tryz.func54,rfl,rfl⟩,trivial⟩⟩ trivial
def L58_2c (F:Nat) (y13:List ((List UInt8)×Int×Int×Unit)) (y14:Int) (y15:Int) (y16:Int) (y17:List UInt8) {β:Type} (kA:(Int×Int×(List UInt8))->Option β) (kO:(Int×(List UInt8))->Option β):Option β:=
 (bif (decide (y15 < y14)) then (Option.bind (ix y13 y15) fun x20=>(Option.bind (T54 F x20.1 x20.2.1 x20.2.2.1 y16 y17) fun z21=>(kA ((w64 (y15 + (1:Int))),z21.1,z21.2)))) else (kO (y16,y17)))
def L58_2 (F:Nat) (y13:List ((List UInt8)×Int×Int×Unit)) (y14:Int) (y15:Int) (y16:Int) (y17:List UInt8):Option ((Int×Int×(List UInt8)) ⊕ (Int×(List UInt8))):=L58_2c F y13 y14 y15 y16 y17 (fun s=>some (.inl s)) (fun z=>some (.inr z))
theorem L58_2n (F:Nat) (y13:List ((List UInt8)×Int×Int×Unit)) (y14:Int) (y15:Int) (y16:Int) (y17:List UInt8) {β:Type} (kA:(Int×Int×(List UInt8))->Option β) (kO:(Int×(List UInt8))->Option β):L58_2c F y13 y14 y15 y16 y17 kA kO=(L58_2 F y13 y14 y15 y16 y17).bind (elimS kA kO):=by
 simp only [L58_2,L58_2c,Option.bind_assoc,cond_bind,Option.bind_some,Option.bind_none,elimS_l,elimS_r,elimS_bind]
abbrev sA58_2:List Sh:=[(.fn 54 .un (.pr (.pt 1 []) .un)),(.ro (.pr .s (.pr .i (.pr .i .un)))),.i,.i]
abbrev sAp158_2:List Sh:=[]
abbrev sT58_2:List TSh:=[.blk 166 (.pr (.rw 3) (.pr .i .un)),.blk 81 (.pt 0 []),.no,.row 5 .u8]
abbrev sTp158_2:List TSh:=[.blk 166 (.pr (.rw 3) (.pr .i .un)),.blk 81 (.pt 0 []),.no,.row 5 .u8]
def lc58_2 (F:Nat):Lc:=mkL [2,12,13,14] sA58_2 sT58_2 [] sAp158_2 sTp158_2 F (fun x y (s:Int×Int×(List UInt8))=>L58_2 F x.2.1 x.2.2.1 s.1 s.2.1 s.2.2) (fun x y=>(x.2.2.2.1,y.1.2.1,y.2.2.2.1)) (fun x y (z:Int×(List UInt8))=>((),(((),z.1,()),(),(),z.2,())))
theorem le58_2 (F:Nat) (x:dens sA58_2) (y:tdens sT58_2) (s:Int×Int×(List UInt8)):sev (E58 F) 3 [] (cAt (bodyOf Tryz.f58) (0 :: 0 :: [1,1])) (0 :: 0 :: [1,1]) (mkSt [2,12,13,14] sA58_2 sT58_2 (((),((),())),x.2.1,x.2.2.1,s.1,()) (((),s.2.1,()),(),(),s.2.2,())) (kLoop 3 [2,12,13,14] sA58_2 sT58_2 [] sAp158_2 sTp158_2 [] [] [] 0 (fun x y=>some (.inl (x,y))) (fun x y=>some (.inr (.inl (x,y)))) (fun x y=>some (.inr (.inr (x,y))))) =
  L58_2c (β:=Full sA58_2 sT58_2 sAp158_2 sTp158_2 [] []) F x.2.1 x.2.2.1 s.1 s.2.1 s.2.2 (fun s=>some (.inl ((((),((),())),x.2.1,x.2.2.1,s.1,()),(((),s.2.1,()),(),(),s.2.2,())))) (fun z=>some (.inr (.inl ((),(((),z.1,()),(),(),z.2,()))))):=by kernel_rfl
theorem lo58_2 (F:Nat):LcOk Tryz.prog (E58 F) 3 (lc58_2 F) (cAt (bodyOf Tryz.f58) [1,1]):=
 mkL_ok (lp:=[]) (id:=0) (b:=cAt (bodyOf Tryz.f58) (0 :: 0 :: [1,1])) cok (cts58 F) mixed trivial (by kernel_rfl) (by kernel_rfl) (fun x y s=>(((),((),())),x.2.1,x.2.2.1,s.1,())) (fun x y s=>(((),s.2.1,()),(),(),s.2.2,())) (fun x y=>rfl) (fun x y=>rfl) (fun x y s kA kO=>L58_2c F x.2.1 x.2.2.1 s.1 s.2.1 s.2.2 kA kO) (fun x y s kA kO=>L58_2n F x.2.1 x.2.2.1 s.1 s.2.1 s.2.2 kA kO) (le58_2 F)
def T58c (F:Nat) (p0:List ((List UInt8)×Int×Int×Unit)) (p1:Int) (p2:List UInt8) {β:Type} (k:(Int×(List UInt8))->Option β):Option β:=
 (Option.bind (T114 F (p0.length:Int) p1 p2) fun z12=>(Option.bind (iter (fun s=>L58_2 F p0 (p0.length:Int) s.1 s.2.1 s.2.2) F ((0:Int),z12.1,z12.2)) fun z22=>(k (z22.1,z22.2))))
def T58 (F:Nat) (p0:List ((List UInt8)×Int×Int×Unit)) (p1:Int) (p2:List UInt8):Option (Int×(List UInt8)):=T58c F p0 p1 p2 some
theorem T58n (F:Nat) (p0:List ((List UInt8)×Int×Int×Unit)) (p1:Int) (p2:List UInt8) {β:Type} (k:(Int×(List UInt8))->Option β):T58c F p0 p1 p2 k=(T58 F p0 p1 p2).bind k:=by
 simp only [T58,T58c,Option.bind_assoc,cond_bind,Option.bind_some,Option.bind_none,elimS_bind]
abbrev cA58:List Sh:=[(.pt 0 []),(.ro (.pr .s (.pr .i (.pr .i .un)))),(.fn 54 .un (.pr (.pt 1 []) .un))]
abbrev cB58:List Sh:=[]
abbrev cT58:List TSh:=[.blk 166 (.pr (.rw 2) (.pr .i .un)),.blk 81 (.pt 0 []),.row 5 .u8]
abbrev cU58:List TSh:=[.blk 166 (.pr (.rw 3) (.pr .i .un)),.blk 81 (.pt 0 []),.no,.row 5 .u8]
def ct58 (F:Nat):Ct:=mkC 3 cA58 cT58 cB58 cU58 (fun x y=>T58 F x.2.1 y.1.2.1 y.2.2.1) (fun x y (z:Int×(List UInt8))=>((),(((),z.1,()),(),(),z.2,())))
theorem eq58 (F:Nat) (x:dens cA58) (y:tdens cT58):sev (E58 F) 3 [([1,1],lc58_2 F)] (bodyOf Tryz.f58) [] (mkSt (rng 3) cA58 cT58 x y) (kFn (E58 F) 3 Tryz.f58.results.toList cB58 cU58 fun p q=>some (p,q)) =
  T58c F x.2.1 y.1.2.1 y.2.2.1 (fun z=>some ((),(((),z.1,()),(),(),z.2,()))):=by kernel_rfl
theorem ok58 (F:Nat):Sound Tryz.prog cfg 58 (ct58 F):=
 mkC_ok (E:=E58 F) (lp:=[([1,1],lc58_2 F)]) (code:=bodyOf Tryz.f58) Tryz.func58 rfl Tryz.ntmps58 rfl rfl cok (cts58 F) mixed ⟨lo58_2 F,trivial⟩ (by kernel_rfl) (fun x y k=>T58c F x.2.1 y.1.2.1 y.2.2.1 k) (fun x y k=>T58n F x.2.1 y.1.2.1 y.2.2.1 k) (eq58 F)
def ord56:Nat->List (Tag×Nat)
 | _=>[]
def al56:Nat->Option Nat
 | _=>none
def ms56:Nat->Option (List (Option Tag×Nat×List Nat))
 | _=>none
def E56 (F:Nat):Ev:=⟨cfg,24,ctOf [(57,ct57 F),(45,ct45x1 F),(58,ct58 F)],ord56,ctOf [],al56,ms56⟩
theorem cts56 (F:Nat):CtsOk Tryz.prog (E56 F):=cts_of (l:=[(57,ct57 F),(45,ct45x1 F),(58,ct58 F)]) (l':=[]) rfl rfl ⟨⟨ok57 F,_,Tryz.func57,rfl,rfl⟩,⟨⟨ok45x1 F,_,Tryz.func45,rfl,rfl⟩,⟨⟨ok58 F,_,Tryz.func58,rfl,rfl⟩,trivial⟩⟩⟩ trivial
def T56c (F:Nat) (p0:List UInt8) (p1:Int) (p2:Int) (p3:Int) (p4:Int) (p5:List ((List UInt8)×Int×Int×Unit)) (p6:Int) (p7:List UInt8) {β:Type} (k:(Int×(List UInt8))->Option β):Option β:=
 (Option.bind (T57 F p0 p6 p7) fun z4=>(Option.bind (T45x1 F ([p1,p2,p3,p4]:List Int) z4.1 z4.2) fun z5=>(Option.bind (T58 F p5 z4.1 z5) fun z6=>(k (z6.1,z6.2)))))
def T56 (F:Nat) (p0:List UInt8) (p1:Int) (p2:Int) (p3:Int) (p4:Int) (p5:List ((List UInt8)×Int×Int×Unit)) (p6:Int) (p7:List UInt8):Option (Int×(List UInt8)):=T56c F p0 p1 p2 p3 p4 p5 p6 p7 some
theorem T56n (F:Nat) (p0:List UInt8) (p1:Int) (p2:Int) (p3:Int) (p4:Int) (p5:List ((List UInt8)×Int×Int×Unit)) (p6:Int) (p7:List UInt8) {β:Type} (k:(Int×(List UInt8))->Option β):T56c F p0 p1 p2 p3 p4 p5 p6 p7 k=(T56 F p0 p1 p2 p3 p4 p5 p6 p7).bind k:=by
 simp only [T56,T56c,Option.bind_assoc,cond_bind,Option.bind_some,Option.bind_none,elimS_bind]
abbrev cA56:List Sh:=[(.pr .str (.pr .i (.pr .i (.pr .i (.pr .i (.pr (.ro (.pr .s (.pr .i (.pr .i .un)))) .un)))))),(.pt 0 []),(.pt 1 [])]
abbrev cB56:List Sh:=[]
abbrev cT56:List TSh:=[.blk 81 (.pt 2 []),.blk 95 (.fn 54 .un (.pr (.pt 0 []) .un)),.blk 166 (.pr (.rw 3) (.pr .i .un)),.row 5 .u8]
abbrev cU56:List TSh:=[.blk 81 (.pt 2 []),.blk 95 (.fn 54 .un (.pr (.pt 0 []) .un)),.blk 166 (.pr (.rw 4) (.pr .i .un)),.no,.row 5 .u8]
def ct56 (F:Nat):Ct:=mkC 4 cA56 cT56 cB56 cU56 (fun x y=>T56 F x.1.1 x.1.2.1 x.1.2.2.1 x.1.2.2.2.1 x.1.2.2.2.2.1 x.1.2.2.2.2.2.1 y.2.2.1.2.1 y.2.2.2.1) (fun x y (z:Int×(List UInt8))=>((),((),((),((),())),((),z.1,()),(),z.2,())))
theorem eq56 (F:Nat) (x:dens cA56) (y:tdens cT56):sev (E56 F) 4 [] (bodyOf Tryz.f56) [] (mkSt (rng 3) cA56 cT56 x y) (kFn (E56 F) 4 Tryz.f56.results.toList cB56 cU56 fun p q=>some (p,q)) =
  T56c F x.1.1 x.1.2.1 x.1.2.2.1 x.1.2.2.2.1 x.1.2.2.2.2.1 x.1.2.2.2.2.2.1 y.2.2.1.2.1 y.2.2.2.1 (fun z=>some ((),((),((),((),())),((),z.1,()),(),z.2,()))):=by kernel_rfl
theorem ok56 (F:Nat):Sound Tryz.prog cfg 56 (ct56 F):=
 mkC_ok (E:=E56 F) (lp:=[]) (code:=bodyOf Tryz.f56) Tryz.func56 rfl Tryz.ntmps56 rfl rfl cok (cts56 F) mixed trivial (by kernel_rfl) (fun x y k=>T56c F x.1.1 x.1.2.1 x.1.2.2.1 x.1.2.2.2.1 x.1.2.2.2.2.1 x.1.2.2.2.2.2.1 y.2.2.1.2.1 y.2.2.2.1 k) (fun x y k=>T56n F x.1.1 x.1.2.1 x.1.2.2.1 x.1.2.2.2.1 x.1.2.2.2.2.1 x.1.2.2.2.2.2.1 y.2.2.1.2.1 y.2.2.2.1 k) (eq56 F)
def ord55:Nat->List (Tag×Nat)
 | _=>[]
def al55:Nat->Option Nat
 | _=>none
def ms55:Nat->Option (List (Option Tag×Nat×List Nat))
 | _=>none
def E55 (F:Nat):Ev:=⟨cfg,22,ctOf [(114,ct114 F),(56,ct56 F)],ord55,ctOf [],al55,ms55⟩
theorem cts55 (F:Nat):CtsOk Tryz.prog (E55 F):=cts_of (l:=[(114,ct114 F),(56,ct56 F)]) (l':=[]) rfl rfl ⟨⟨ok114 F,_,Tryz.func114,rfl,rfl⟩,⟨⟨ok56 F,_,Tryz.func56,rfl,rfl⟩,trivial⟩⟩ trivial
def L55_2c (F:Nat) (y13:List ((List UInt8)×Int×Int×Int×Int×(List ((List UInt8)×Int×Int×Unit))×Unit)) (y14:Int) (y15:Int) (y16:Int) (y17:List UInt8) {β:Type} (kA:(Int×Int×(List UInt8))->Option β) (kO:(Int×(List UInt8))->Option β):Option β:=
 (bif (decide (y15 < y14)) then (Option.bind (ix y13 y15) fun x20=>(Option.bind (T56 F x20.1 x20.2.1 x20.2.2.1 x20.2.2.2.1 x20.2.2.2.2.1 x20.2.2.2.2.2.1 y16 y17) fun z21=>(kA ((w64 (y15 + (1:Int))),z21.1,z21.2)))) else (kO (y16,y17)))
def L55_2 (F:Nat) (y13:List ((List UInt8)×Int×Int×Int×Int×(List ((List UInt8)×Int×Int×Unit))×Unit)) (y14:Int) (y15:Int) (y16:Int) (y17:List UInt8):Option ((Int×Int×(List UInt8)) ⊕ (Int×(List UInt8))):=L55_2c F y13 y14 y15 y16 y17 (fun s=>some (.inl s)) (fun z=>some (.inr z))
theorem L55_2n (F:Nat) (y13:List ((List UInt8)×Int×Int×Int×Int×(List ((List UInt8)×Int×Int×Unit))×Unit)) (y14:Int) (y15:Int) (y16:Int) (y17:List UInt8) {β:Type} (kA:(Int×Int×(List UInt8))->Option β) (kO:(Int×(List UInt8))->Option β):L55_2c F y13 y14 y15 y16 y17 kA kO=(L55_2 F y13 y14 y15 y16 y17).bind (elimS kA kO):=by
 simp only [L55_2,L55_2c,Option.bind_assoc,cond_bind,Option.bind_some,Option.bind_none,elimS_l,elimS_r,elimS_bind]
abbrev sA55_2:List Sh:=[(.fn 56 .un (.pr (.pt 1 []) (.pr (.pt 2 []) .un))),(.ro (.pr .s (.pr .i (.pr .i (.pr .i (.pr .i (.pr (.sl (.pr .s (.pr .i (.pr .i .un)))) .un))))))),.i,.i]
abbrev sAp155_2:List Sh:=[]
abbrev sT55_2:List TSh:=[.blk 166 (.pr (.rw 4) (.pr .i .un)),.blk 81 (.pt 0 []),.blk 95 (.fn 54 .un (.pr (.pt 1 []) .un)),.no,.row 5 .u8]
abbrev sTp155_2:List TSh:=[.blk 166 (.pr (.rw 4) (.pr .i .un)),.blk 81 (.pt 0 []),.blk 95 (.fn 54 .un (.pr (.pt 1 []) .un)),.no,.row 5 .u8]
def lc55_2 (F:Nat):Lc:=mkL [2,12,13,14] sA55_2 sT55_2 [] sAp155_2 sTp155_2 F (fun x y (s:Int×Int×(List UInt8))=>L55_2 F x.2.1 x.2.2.1 s.1 s.2.1 s.2.2) (fun x y=>(x.2.2.2.1,y.1.2.1,y.2.2.2.2.1)) (fun x y (z:Int×(List UInt8))=>((),(((),z.1,()),(),((),((),())),(),z.2,())))
theorem le55_2 (F:Nat) (x:dens sA55_2) (y:tdens sT55_2) (s:Int×Int×(List UInt8)):sev (E55 F) 4 [] (cAt (bodyOf Tryz.f55) (0 :: 0 :: [1,1])) (0 :: 0 :: [1,1]) (mkSt [2,12,13,14] sA55_2 sT55_2 (((),((),(),())),x.2.1,x.2.2.1,s.1,()) (((),s.2.1,()),(),((),((),())),(),s.2.2,())) (kLoop 4 [2,12,13,14] sA55_2 sT55_2 [] sAp155_2 sTp155_2 [] [] [] 0 (fun x y=>some (.inl (x,y))) (fun x y=>some (.inr (.inl (x,y)))) (fun x y=>some (.inr (.inr (x,y))))) =
  L55_2c (β:=Full sA55_2 sT55_2 sAp155_2 sTp155_2 [] []) F x.2.1 x.2.2.1 s.1 s.2.1 s.2.2 (fun s=>some (.inl ((((),((),(),())),x.2.1,x.2.2.1,s.1,()),(((),s.2.1,()),(),((),((),())),(),s.2.2,())))) (fun z=>some (.inr (.inl ((),(((),z.1,()),(),((),((),())),(),z.2,()))))):=by kernel_rfl
theorem lo55_2 (F:Nat):LcOk Tryz.prog (E55 F) 4 (lc55_2 F) (cAt (bodyOf Tryz.f55) [1,1]):=
 mkL_ok (lp:=[]) (id:=0) (b:=cAt (bodyOf Tryz.f55) (0 :: 0 :: [1,1])) cok (cts55 F) mixed trivial (by kernel_rfl) (by kernel_rfl) (fun x y s=>(((),((),(),())),x.2.1,x.2.2.1,s.1,())) (fun x y s=>(((),s.2.1,()),(),((),((),())),(),s.2.2,())) (fun x y=>rfl) (fun x y=>rfl) (fun x y s kA kO=>L55_2c F x.2.1 x.2.2.1 s.1 s.2.1 s.2.2 kA kO) (fun x y s kA kO=>L55_2n F x.2.1 x.2.2.1 s.1 s.2.1 s.2.2 kA kO) (le55_2 F)
def T55c (F:Nat) (p0:List ((List UInt8)×Int×Int×Int×Int×(List ((List UInt8)×Int×Int×Unit))×Unit)) (p1:Int) (p2:List UInt8) {β:Type} (k:(Int×(List UInt8))->Option β):Option β:=
 (Option.bind (T114 F (p0.length:Int) p1 p2) fun z12=>(Option.bind (iter (fun s=>L55_2 F p0 (p0.length:Int) s.1 s.2.1 s.2.2) F ((0:Int),z12.1,z12.2)) fun z22=>(k (z22.1,z22.2))))
def T55 (F:Nat) (p0:List ((List UInt8)×Int×Int×Int×Int×(List ((List UInt8)×Int×Int×Unit))×Unit)) (p1:Int) (p2:List UInt8):Option (Int×(List UInt8)):=T55c F p0 p1 p2 some
theorem T55n (F:Nat) (p0:List ((List UInt8)×Int×Int×Int×Int×(List ((List UInt8)×Int×Int×Unit))×Unit)) (p1:Int) (p2:List UInt8) {β:Type} (k:(Int×(List UInt8))->Option β):T55c F p0 p1 p2 k=(T55 F p0 p1 p2).bind k:=by
 simp only [T55,T55c,Option.bind_assoc,cond_bind,Option.bind_some,Option.bind_none,elimS_bind]
abbrev cA55:List Sh:=[(.pt 0 []),(.ro (.pr .s (.pr .i (.pr .i (.pr .i (.pr .i (.pr (.sl (.pr .s (.pr .i (.pr .i .un)))) .un))))))),(.fn 56 .un (.pr (.pt 1 []) (.pr (.pt 2 []) .un)))]
abbrev cB55:List Sh:=[]
abbrev cT55:List TSh:=[.blk 166 (.pr (.rw 3) (.pr .i .un)),.blk 81 (.pt 0 []),.blk 95 (.fn 54 .un (.pr (.pt 1 []) .un)),.row 5 .u8]
abbrev cU55:List TSh:=[.blk 166 (.pr (.rw 4) (.pr .i .un)),.blk 81 (.pt 0 []),.blk 95 (.fn 54 .un (.pr (.pt 1 []) .un)),.no,.row 5 .u8]
def ct55 (F:Nat):Ct:=mkC 4 cA55 cT55 cB55 cU55 (fun x y=>T55 F x.2.1 y.1.2.1 y.2.2.2.1) (fun x y (z:Int×(List UInt8))=>((),(((),z.1,()),(),((),((),())),(),z.2,())))
theorem eq55 (F:Nat) (x:dens cA55) (y:tdens cT55):sev (E55 F) 4 [([1,1],lc55_2 F)] (bodyOf Tryz.f55) [] (mkSt (rng 3) cA55 cT55 x y) (kFn (E55 F) 4 Tryz.f55.results.toList cB55 cU55 fun p q=>some (p,q)) =
  T55c F x.2.1 y.1.2.1 y.2.2.2.1 (fun z=>some ((),(((),z.1,()),(),((),((),())),(),z.2,()))):=by kernel_rfl
theorem ok55 (F:Nat):Sound Tryz.prog cfg 55 (ct55 F):=
 mkC_ok (E:=E55 F) (lp:=[([1,1],lc55_2 F)]) (code:=bodyOf Tryz.f55) Tryz.func55 rfl Tryz.ntmps55 rfl rfl cok (cts55 F) mixed ⟨lo55_2 F,trivial⟩ (by kernel_rfl) (fun x y k=>T55c F x.2.1 y.1.2.1 y.2.2.2.1 k) (fun x y k=>T55n F x.2.1 y.1.2.1 y.2.2.2.1 k) (eq55 F)
def ord59:Nat->List (Tag×Nat)
 | 2=>[(.p,0),(.p,1),(.p,2),(.r,3),(.p,4),(.p,5)]
 | _=>[]
def al59:Nat->Option Nat
 | _=>none
def ms59:Nat->Option (List (Option Tag×Nat×List Nat))
 | _=>none
def E59 (F:Nat):Ev:=⟨cfg,25,ctOf [],ord59,ctOf [],al59,ms59⟩
theorem cts59 (F:Nat):CtsOk Tryz.prog (E59 F):=cts_of (l:=[]) (l':=[]) rfl rfl trivial trivial
def T59c (F:Nat) (p0:Int) (p1:List UInt8) {β:Type} (k:(Int×(List UInt8))->Option β):Option β:=
 (bif (p0 != (0:Int)) then (k (p0,([]:List UInt8))) else (bif (decide ((1048576:Int) < (p1.length:Int))) then (k ((2:Int),([]:List UInt8))) else (Option.bind (gapp ([]:List UInt8) p1) fun x2=>(k ((0:Int),x2)))))
def T59 (F:Nat) (p0:Int) (p1:List UInt8):Option (Int×(List UInt8)):=T59c F p0 p1 some
theorem T59n (F:Nat) (p0:Int) (p1:List UInt8) {β:Type} (k:(Int×(List UInt8))->Option β):T59c F p0 p1 k=(T59 F p0 p1).bind k:=by
 simp only [T59,T59c,Option.bind_assoc,cond_bind,Option.bind_some,Option.bind_none,elimS_bind]
abbrev cA59:List Sh:=[(.pt 0 [])]
abbrev cB59:List Sh:=[(.rw 2),.i]
abbrev cT59:List TSh:=[.blk 166 (.pr (.rw 1) (.pr .i .un)),.row 5 .u8]
abbrev cU59:List TSh:=[.blk 166 (.pr (.rw 1) (.pr .i .un)),.row 5 .u8,.row 5 .u8]
def ct59 (F:Nat):Ct:=mkC 2 cA59 cT59 cB59 cU59 (fun x y=>T59 F y.1.2.1 y.2.1) (fun x y (z:Int×(List UInt8))=>(((),z.1,()),(((),y.1.2.1,()),y.2.1,z.2,())))
theorem eq59 (F:Nat) (x:dens cA59) (y:tdens cT59):sev (E59 F) 2 [] (bodyOf Tryz.f59) [] (mkSt (rng 1) cA59 cT59 x y) (kFn (E59 F) 2 Tryz.f59.results.toList cB59 cU59 fun p q=>some (p,q)) =
  T59c F y.1.2.1 y.2.1 (fun z=>some (((),z.1,()),(((),y.1.2.1,()),y.2.1,z.2,()))):=by kernel_rfl
theorem ok59 (F:Nat):Sound Tryz.prog cfg 59 (ct59 F):=
 mkC_ok (E:=E59 F) (lp:=[]) (code:=bodyOf Tryz.f59) Tryz.func59 rfl Tryz.ntmps59 rfl rfl cok (cts59 F) mixed trivial (by kernel_rfl) (fun x y k=>T59c F y.1.2.1 y.2.1 k) (fun x y k=>T59n F y.1.2.1 y.2.1 k) (eq59 F)
def ord19:Nat->List (Tag×Nat)
 | _=>[]
def al19:Nat->Option Nat
 | _=>none
def ms19:Nat->Option (List (Option Tag×Nat×List Nat))
 | _=>none
def E19 (F:Nat):Ev:=⟨cfg,53,ctOf [(43,ct43 F),(44,ct44 F),(45,ct45 F),(46,ct46 F),(49,ct49 F),(55,ct55 F),(58,ct58 F),(59,ct59 F)],ord19,ctOf [],al19,ms19⟩
theorem cts19 (F:Nat):CtsOk Tryz.prog (E19 F):=cts_of (l:=[(43,ct43 F),(44,ct44 F),(45,ct45 F),(46,ct46 F),(49,ct49 F),(55,ct55 F),(58,ct58 F),(59,ct59 F)]) (l':=[]) rfl rfl ⟨⟨ok43 F,_,Tryz.func43,rfl,rfl⟩,⟨⟨ok44 F,_,Tryz.func44,rfl,rfl⟩,⟨⟨ok45 F,_,Tryz.func45,rfl,rfl⟩,⟨⟨ok46 F,_,Tryz.func46,rfl,rfl⟩,⟨⟨ok49 F,_,Tryz.func49,rfl,rfl⟩,⟨⟨ok55 F,_,Tryz.func55,rfl,rfl⟩,⟨⟨ok58 F,_,Tryz.func58,rfl,rfl⟩,⟨⟨ok59 F,_,Tryz.func59,rfl,rfl⟩,trivial⟩⟩⟩⟩⟩⟩⟩⟩ trivial
def T19c (F:Nat) (p0:Int) (p1:Int) (p2:List Int) (p3:List (Int×Int×Int×((List UInt8)×Int×Int×Unit)×Int×Int×(List UInt8)×Bool×Unit)) (p4:List ((List UInt8)×Int×Int×Int×Int×(List ((List UInt8)×Int×Int×Unit))×Unit)) (p5:List ((List UInt8)×Int×Int×Unit)) {β:Type} (k:(Int×(List UInt8))->Option β):Option β:=
 (Option.bind (T43 F p0 p1 p2 p3 p4 p5) fun z9=>(bif (!z9) then (k ((1:Int),([]:List UInt8))) else (Option.bind (T44 F) fun z10=>(Option.bind (T45 F ([p0,p1]:List Int) z10) fun z11=>(Option.bind (T46 F p2 z10 z11) fun z12=>(Option.bind (T49 F p3 z12.1 z12.2) fun z13=>(Option.bind (T55 F p4 z13.1 z13.2) fun z14=>(Option.bind (T58 F p5 z14.1 z14.2) fun z15=>(Option.bind (T59 F z15.1 z15.2) fun z16=>(bif (z16.1 != (0:Int)) then (k ((2:Int),([]:List UInt8))) else (bif (decide ((1048560:Int) < (z16.2.length:Int))) then (k ((2:Int),([]:List UInt8))) else (k ((0:Int),z16.2)))))))))))))
def T19 (F:Nat) (p0:Int) (p1:Int) (p2:List Int) (p3:List (Int×Int×Int×((List UInt8)×Int×Int×Unit)×Int×Int×(List UInt8)×Bool×Unit)) (p4:List ((List UInt8)×Int×Int×Int×Int×(List ((List UInt8)×Int×Int×Unit))×Unit)) (p5:List ((List UInt8)×Int×Int×Unit)):Option (Int×(List UInt8)):=T19c F p0 p1 p2 p3 p4 p5 some
theorem T19n (F:Nat) (p0:Int) (p1:Int) (p2:List Int) (p3:List (Int×Int×Int×((List UInt8)×Int×Int×Unit)×Int×Int×(List UInt8)×Bool×Unit)) (p4:List ((List UInt8)×Int×Int×Int×Int×(List ((List UInt8)×Int×Int×Unit))×Unit)) (p5:List ((List UInt8)×Int×Int×Unit)) {β:Type} (k:(Int×(List UInt8))->Option β):T19c F p0 p1 p2 p3 p4 p5 k=(T19 F p0 p1 p2 p3 p4 p5).bind k:=by
 simp only [T19,T19c,Option.bind_assoc,cond_bind,Option.bind_some,Option.bind_none,elimS_bind]
abbrev cA19:List Sh:=[(.pr .i (.pr .i (.pr (.ro .i) (.pr (.ro (.pr .i (.pr .i (.pr .i (.pr (.pr .s (.pr .i (.pr .i .un))) (.pr .i (.pr .i (.pr .s (.pr .bo .un))))))))) (.pr (.ro (.pr .s (.pr .i (.pr .i (.pr .i (.pr .i (.pr (.sl (.pr .s (.pr .i (.pr .i .un)))) .un))))))) (.pr (.ro (.pr .s (.pr .i (.pr .i .un)))) .un))))))]
abbrev cB19:List Sh:=[(.rw 0),.i]
abbrev cT19:List TSh:=[]
abbrev cU19:List TSh:=[.row 5 .u8]
def ct19 (F:Nat):Ct:=mkC 0 cA19 cT19 cB19 cU19 (fun x y=>T19 F x.1.1 x.1.2.1 x.1.2.2.1 x.1.2.2.2.1 x.1.2.2.2.2.1 x.1.2.2.2.2.2.1) (fun x y (z:Int×(List UInt8))=>(((),z.1,()),(z.2,())))
theorem eq19 (F:Nat) (x:dens cA19) (y:tdens cT19):sev (E19 F) 0 [] (bodyOf Tryz.f19) [] (mkSt (rng 1) cA19 cT19 x y) (kFn (E19 F) 0 Tryz.f19.results.toList cB19 cU19 fun p q=>some (p,q)) =
  T19c F x.1.1 x.1.2.1 x.1.2.2.1 x.1.2.2.2.1 x.1.2.2.2.2.1 x.1.2.2.2.2.2.1 (fun z=>some (((),z.1,()),(z.2,()))):=by kernel_rfl
theorem ok19 (F:Nat):Sound Tryz.prog cfg 19 (ct19 F):=
 mkC_ok (E:=E19 F) (lp:=[]) (code:=bodyOf Tryz.f19) Tryz.func19 rfl Tryz.ntmps19 rfl rfl cok (cts19 F) mixed trivial (by kernel_rfl) (fun x y k=>T19c F x.1.1 x.1.2.1 x.1.2.2.1 x.1.2.2.2.1 x.1.2.2.2.2.1 x.1.2.2.2.2.2.1 k) (fun x y k=>T19n F x.1.1 x.1.2.1 x.1.2.2.1 x.1.2.2.2.1 x.1.2.2.2.2.1 x.1.2.2.2.2.2.1 k) (eq19 F)
def ord26:Nat->List (Tag×Nat)
 | _=>[]
def al26:Nat->Option Nat
 | _=>none
def ms26:Nat->Option (List (Option Tag×Nat×List Nat))
 | _=>none
def E26 (F:Nat):Ev:=⟨cfg,16,ctOf [],ord26,ctOf [],al26,ms26⟩
theorem cts26 (F:Nat):CtsOk Tryz.prog (E26 F):=cts_of (l:=[]) (l':=[]) rfl rfl trivial trivial
def L26_2c (F:Nat) (y4:Int) (y5:Int) {β:Type} (kA:Int->Option β) (kO:Int->Option β):Option β:=
 (bif (decide (y5 < (w64 (y4 + (10:Int))))) then (kA (w64 (y5 * (2:Int)))) else (kO y5))
def L26_2 (F:Nat) (y4:Int) (y5:Int):Option ((Int) ⊕ (Int)):=L26_2c F y4 y5 (fun s=>some (.inl s)) (fun z=>some (.inr z))
theorem L26_2n (F:Nat) (y4:Int) (y5:Int) {β:Type} (kA:Int->Option β) (kO:Int->Option β):L26_2c F y4 y5 kA kO=(L26_2 F y4 y5).bind (elimS kA kO):=by
 simp only [L26_2,L26_2c,Option.bind_assoc,cond_bind,Option.bind_some,Option.bind_none,elimS_l,elimS_r,elimS_bind]
abbrev sA26_2:List Sh:=[.i,.i]
abbrev sAp126_2:List Sh:=[.i]
abbrev sT26_2:List TSh:=[]
abbrev sTp126_2:List TSh:=[]
def lc26_2 (F:Nat):Lc:=mkL [0,4] sA26_2 sT26_2 [4] sAp126_2 sTp126_2 F (fun x y (s:Int)=>L26_2 F x.1 s) (fun x y=>x.2.1) (fun x y (z:Int)=>((z,()),()))
theorem le26_2 (F:Nat) (x:dens sA26_2) (y:tdens sT26_2) (s:Int):sev (E26 F) 0 [] (cAt (bodyOf Tryz.f26) (0 :: 0 :: [0,1,1,1,1])) (0 :: 0 :: [0,1,1,1,1]) (mkSt [0,4] sA26_2 sT26_2 (x.1,s,()) ()) (kLoop 0 [0,4] sA26_2 sT26_2 [4] sAp126_2 sTp126_2 [] [] [] 0 (fun x y=>some (.inl (x,y))) (fun x y=>some (.inr (.inl (x,y)))) (fun x y=>some (.inr (.inr (x,y))))) =
  L26_2c (β:=Full sA26_2 sT26_2 sAp126_2 sTp126_2 [] []) F x.1 s (fun s=>some (.inl ((x.1,s,()),()))) (fun z=>some (.inr (.inl ((z,()),())))):=by kernel_rfl
theorem lo26_2 (F:Nat):LcOk Tryz.prog (E26 F) 0 (lc26_2 F) (cAt (bodyOf Tryz.f26) [0,1,1,1,1]):=
 mkL_ok (lp:=[]) (id:=0) (b:=cAt (bodyOf Tryz.f26) (0 :: 0 :: [0,1,1,1,1])) cok (cts26 F) mixed trivial (by kernel_rfl) (by kernel_rfl) (fun x y s=>(x.1,s,())) (fun x y s=>()) (fun x y=>rfl) (fun x y=>rfl) (fun x y s kA kO=>L26_2c F x.1 s kA kO) (fun x y s kA kO=>L26_2n F x.1 s kA kO) (le26_2 F)
def T26c (F:Nat) (p0:Int) {β:Type} (k:(Int×Int)->Option β):Option β:=
 (bif (decide (p0 < (0:Int))) then (k ((0:Int),(1:Int))) else (bif (decide ((1048560:Int) < p0)) then (k ((0:Int),(2:Int))) else (Option.bind (iter (fun s=>L26_2 F p0 s) F (1024:Int)) fun z6=>(k (z6,(0:Int))))))
def T26 (F:Nat) (p0:Int):Option (Int×Int):=T26c F p0 some
theorem T26n (F:Nat) (p0:Int) {β:Type} (k:(Int×Int)->Option β):T26c F p0 k=(T26 F p0).bind k:=by
 simp only [T26,T26c,Option.bind_assoc,cond_bind,Option.bind_some,Option.bind_none,elimS_bind]
abbrev cA26:List Sh:=[.i]
abbrev cB26:List Sh:=[.i,.i]
abbrev cT26:List TSh:=[]
abbrev cU26:List TSh:=[]
def ct26 (F:Nat):Ct:=mkC 0 cA26 cT26 cB26 cU26 (fun x y=>T26 F x.1) (fun x y (z:Int×Int)=>((z.1,z.2,()),()))
theorem eq26 (F:Nat) (x:dens cA26) (y:tdens cT26):sev (E26 F) 0 [([0,1,1,1,1],lc26_2 F)] (bodyOf Tryz.f26) [] (mkSt (rng 1) cA26 cT26 x y) (kFn (E26 F) 0 Tryz.f26.results.toList cB26 cU26 fun p q=>some (p,q)) =
  T26c F x.1 (fun z=>some ((z.1,z.2,()),())):=by kernel_rfl
theorem ok26 (F:Nat):Sound Tryz.prog cfg 26 (ct26 F):=
 mkC_ok (E:=E26 F) (lp:=[([0,1,1,1,1],lc26_2 F)]) (code:=bodyOf Tryz.f26) Tryz.func26 rfl Tryz.ntmps26 rfl rfl cok (cts26 F) mixed ⟨lo26_2 F,trivial⟩ (by kernel_rfl) (fun x y k=>T26c F x.1 k) (fun x y k=>T26n F x.1 k) (eq26 F)
def ord10:Nat->List (Tag×Nat)
 | 2=>[]
 | 5=>[(.p,0),(.p,1),(.p,2),(.p,3),(.r,4),(.p,5),(.r,6),(.p,7),(.p,8),(.p,9),(.p,10),(.r,11),(.p,12),(.p,13),(.p,14),(.p,15),(.p,16),(.p,17),(.p,18),(.p,19),(.p,20),(.p,21),(.p,22),(.p,23),(.p,24),(.p,25),(.p,26),(.p,27),(.r,28),(.p,29),(.p,30),(.p,31),(.p,32),(.p,33),(.p,34),(.c,35),(.c,36),(.w,37),(.p,38),(.p,39),(.p,40),(.p,41),(.p,42),(.p,43),(.p,44),(.p,45),(.p,46),(.p,47),(.p,48),(.p,49),(.p,50),(.p,51),(.p,52),(.p,53),(.p,54),(.p,55),(.p,56),(.p,57)]
 | _=>[]
def al10:Nat->Option Nat
 | _=>none
def ms10:Nat->Option (List (Option Tag×Nat×List Nat))
 | 2=>some [(some .w,0,[1,2]),(none,1,[2]),(none,2,[]),(some .w,3,[]),(some .p,4,[]),(some .p,5,[]),(some .p,6,[]),(some .p,7,[]),(some .p,8,[])]
 | _=>none
def E10 (F:Nat):Ev:=⟨cfg,87,ctOf [(13,ct13 F),(12,ct12 F),(27,ct27 F),(19,ct19 F),(26,ct26 F)],ord10,ctOf [],al10,ms10⟩
theorem cts10 (F:Nat):CtsOk Tryz.prog (E10 F):=cts_of (l:=[(13,ct13 F),(12,ct12 F),(27,ct27 F),(19,ct19 F),(26,ct26 F)]) (l':=[]) rfl rfl ⟨⟨ok13 F,_,Tryz.func13,rfl,rfl⟩,⟨⟨ok12 F,_,Tryz.func12,rfl,rfl⟩,⟨⟨ok27 F,_,Tryz.func27,rfl,rfl⟩,⟨⟨ok19 F,_,Tryz.func19,rfl,rfl⟩,⟨⟨ok26 F,_,Tryz.func26,rfl,rfl⟩,trivial⟩⟩⟩⟩⟩ trivial
def T10c (F:Nat) {β:Type} (k:Bool->Option β):Option β:=
 (Option.bind (T13 F (UInt8.ofNat 1)) fun z12=>(Option.bind (T12 F z12) fun z13=>(Option.bind (T13 F (UInt8.ofNat 1)) fun z14=>(Option.bind (T27 F z14 (2:Int) ([(0:Int),(3:Int),(5:Int)]:List Int) (List.replicate 32 (0:UInt8))) fun z15=>(Option.bind (T19 F (0:Int) (0:Int) ([]:List Int) ([]:List (Int×Int×Int×((List UInt8)×Int×Int×Unit)×Int×Int×(List UInt8)×Bool×Unit)) ([]:List ((List UInt8)×Int×Int×Int×Int×(List ((List UInt8)×Int×Int×Unit))×Unit)) ([]:List ((List UInt8)×Int×Int×Unit))) fun z16=>(Option.bind (T26 F (1015:Int)) fun z17=>(bif (z13.2.2.2.2.2 == (0:Int)) then (bif (z13.1 != z13.2.1) then (bif ((z13.2.2.2.2.1.length:Int) == (32:Int)) then (bif (z15.1 == (0:Int)) then (bif ((z15.2.length:Int) == (3:Int)) then (Option.bind (inb z15.2.length (1:Int)) fun x18=>(Option.bind (z15.2[x18]?) fun x19=>(bif (x19.1 == (4:Int)) then (Option.bind (inb z15.2.length (1:Int)) fun x20=>(Option.bind (z15.2[x20]?) fun x21=>(Option.bind (T13 F (UInt8.ofNat 1)) fun z22=>(bif (x21.2.1 == z22) then (bif (z16.1 == (0:Int)) then (bif ((z16.2.length:Int) == (6:Int)) then (bif (z17.1 == (2048:Int)) then (k (z17.2 == (0:Int))) else (k false)) else (k false)) else (k false)) else (k false))))) else (k false)))) else (k false)) else (k false)) else (k false)) else (k false)) else (k false))))))))
def T10 (F:Nat):Option (Bool):=T10c F some
theorem T10n (F:Nat) {β:Type} (k:Bool->Option β):T10c F k=(T10 F).bind k:=by
 simp only [T10,T10c,Option.bind_assoc,cond_bind,Option.bind_some,Option.bind_none,elimS_bind]
abbrev cA10:List Sh:=[]
abbrev cB10:List Sh:=[.bo]
abbrev cT10:List TSh:=[]
abbrev cU10:List TSh:=[]
def ct10 (F:Nat):Ct:=mkC 0 cA10 cT10 cB10 cU10 (fun x y=>T10 F) (fun x y (z:Bool)=>((z,()),()))
theorem eq10 (F:Nat) (x:dens cA10) (y:tdens cT10):sev (E10 F) 0 [] (bodyOf Tryz.f10) [] (mkSt (rng 0) cA10 cT10 x y) (kFn (E10 F) 0 Tryz.f10.results.toList cB10 cU10 fun p q=>some (p,q)) =
  T10c F (fun z=>some ((z,()),())):=by kernel_rfl
theorem ok10 (F:Nat):Sound Tryz.prog cfg 10 (ct10 F):=
 mkC_ok (E:=E10 F) (lp:=[]) (code:=bodyOf Tryz.f10) Tryz.func10 rfl Tryz.ntmps10 rfl rfl cok (cts10 F) mixed trivial (by kernel_rfl) (fun x y k=>T10c F k) (fun x y k=>T10n F k) (eq10 F)
def ord11:Nat->List (Tag×Nat)
 | _=>[]
def al11:Nat->Option Nat
 | _=>none
def ms11:Nat->Option (List (Option Tag×Nat×List Nat))
 | _=>none
def E11 (F:Nat):Ev:=⟨cfg,47,ctOf [],ord11,ctOf [],al11,ms11⟩
theorem cts11 (F:Nat):CtsOk Tryz.prog (E11 F):=cts_of (l:=[]) (l':=[]) rfl rfl trivial trivial
def L11_2c (F:Nat) (y18:List ((List UInt8)×Int×Int×Int×Int×(List ((List UInt8)×Int×Int×Unit))×Unit)) (y12:Int) (y13:Int) {β:Type} (kA:(Int×Int)->Option β) (kO:Int->Option β):Option β:=
 (bif (decide (y13 < (y18.length:Int))) then (Option.bind (ix y18 y13) fun x21=>(kA ((w64 (y12 + (x21.2.2.2.2.2.1.length:Int))),(w64 (y13 + (1:Int)))))) else (kO y12))
def L11_2 (F:Nat) (y18:List ((List UInt8)×Int×Int×Int×Int×(List ((List UInt8)×Int×Int×Unit))×Unit)) (y12:Int) (y13:Int):Option ((Int×Int) ⊕ (Int)):=L11_2c F y18 y12 y13 (fun s=>some (.inl s)) (fun z=>some (.inr z))
theorem L11_2n (F:Nat) (y18:List ((List UInt8)×Int×Int×Int×Int×(List ((List UInt8)×Int×Int×Unit))×Unit)) (y12:Int) (y13:Int) {β:Type} (kA:(Int×Int)->Option β) (kO:Int->Option β):L11_2c F y18 y12 y13 kA kO=(L11_2 F y18 y12 y13).bind (elimS kA kO):=by
 simp only [L11_2,L11_2c,Option.bind_assoc,cond_bind,Option.bind_some,Option.bind_none,elimS_l,elimS_r,elimS_bind]
abbrev sA11_2:List Sh:=[(.pt 0 []),.i,.i]
abbrev sAp111_2:List Sh:=[(.pt 0 []),.i]
abbrev sT11_2:List TSh:=[.blk 27 (.pr .i (.pr .i (.pr (.ro .i) (.pr (.ro (.pr .i (.pr .i (.pr .i (.pr (.pr .s (.pr .i (.pr .i .un))) (.pr .i (.pr .i (.pr .s (.pr .bo .un))))))))) (.pr (.ro (.pr .s (.pr .i (.pr .i (.pr .i (.pr .i (.pr (.sl (.pr .s (.pr .i (.pr .i .un)))) .un))))))) (.pr (.ro (.pr .s (.pr .i (.pr .i .un)))) .un))))))]
abbrev sTp111_2:List TSh:=[.blk 27 (.pr .i (.pr .i (.pr (.ro .i) (.pr (.ro (.pr .i (.pr .i (.pr .i (.pr (.pr .s (.pr .i (.pr .i .un))) (.pr .i (.pr .i (.pr .s (.pr .bo .un))))))))) (.pr (.ro (.pr .s (.pr .i (.pr .i (.pr .i (.pr .i (.pr (.sl (.pr .s (.pr .i (.pr .i .un)))) .un))))))) (.pr (.ro (.pr .s (.pr .i (.pr .i .un)))) .un))))))]
def lc11_2 (F:Nat):Lc:=mkL [1,3,4] sA11_2 sT11_2 [1,3] sAp111_2 sTp111_2 F (fun x y (s:Int×Int)=>L11_2 F y.1.2.2.2.2.1 s.1 s.2) (fun x y=>(x.2.1,x.2.2.1)) (fun x y (z:Int)=>(((),z,()),((y.1.1,y.1.2.1,y.1.2.2.1,y.1.2.2.2.1,y.1.2.2.2.2.1,y.1.2.2.2.2.2.1,()),())))
theorem le11_2 (F:Nat) (x:dens sA11_2) (y:tdens sT11_2) (s:Int×Int):sev (E11 F) 0 [] (cAt (bodyOf Tryz.f11) (0 :: 0 :: [1,0,1,1])) (0 :: 0 :: [1,0,1,1]) (mkSt [1,3,4] sA11_2 sT11_2 ((),s.1,s.2,()) ((y.1.1,y.1.2.1,y.1.2.2.1,y.1.2.2.2.1,y.1.2.2.2.2.1,y.1.2.2.2.2.2.1,()),())) (kLoop 0 [1,3,4] sA11_2 sT11_2 [1,3] sAp111_2 sTp111_2 [] [] [] 0 (fun x y=>some (.inl (x,y))) (fun x y=>some (.inr (.inl (x,y)))) (fun x y=>some (.inr (.inr (x,y))))) =
  L11_2c (β:=Full sA11_2 sT11_2 sAp111_2 sTp111_2 [] []) F y.1.2.2.2.2.1 s.1 s.2 (fun s=>some (.inl (((),s.1,s.2,()),((y.1.1,y.1.2.1,y.1.2.2.1,y.1.2.2.2.1,y.1.2.2.2.2.1,y.1.2.2.2.2.2.1,()),())))) (fun z=>some (.inr (.inl (((),z,()),((y.1.1,y.1.2.1,y.1.2.2.1,y.1.2.2.2.1,y.1.2.2.2.2.1,y.1.2.2.2.2.2.1,()),()))))):=by kernel_rfl
theorem lo11_2 (F:Nat):LcOk Tryz.prog (E11 F) 0 (lc11_2 F) (cAt (bodyOf Tryz.f11) [1,0,1,1]):=
 mkL_ok (lp:=[]) (id:=0) (b:=cAt (bodyOf Tryz.f11) (0 :: 0 :: [1,0,1,1])) cok (cts11 F) mixed trivial (by kernel_rfl) (by kernel_rfl) (fun x y s=>((),s.1,s.2,())) (fun x y s=>((y.1.1,y.1.2.1,y.1.2.2.1,y.1.2.2.2.1,y.1.2.2.2.2.1,y.1.2.2.2.2.2.1,()),())) (fun x y=>rfl) (fun x y=>rfl) (fun x y s kA kO=>L11_2c F y.1.2.2.2.2.1 s.1 s.2 kA kO) (fun x y s kA kO=>L11_2n F y.1.2.2.2.2.1 s.1 s.2 kA kO) (le11_2 F)
def T11wc (F:Nat) (p2:List Int) (p3:List (Int×Int×Int×((List UInt8)×Int×Int×Unit)×Int×Int×(List UInt8)×Bool×Unit)) (p4:List ((List UInt8)×Int×Int×Int×Int×(List ((List UInt8)×Int×Int×Unit))×Unit)) (p5:List ((List UInt8)×Int×Int×Unit)) {β:Type} (k:Bool->Option β):Option β:=
 (Option.bind (iter (fun s=>L11_2 F p4 s.1 s.2) F ((0:Int),(0:Int))) fun z22=>(bif (decide ((p2.length:Int)≤(20:Int))) then (bif (decide ((p3.length:Int)≤(6:Int))) then (bif (decide ((p4.length:Int)≤(6:Int))) then (bif (decide (z22≤(20:Int))) then (k (decide ((p5.length:Int)≤(10:Int)))) else (k false)) else (k false)) else (k false)) else (k false)))
def T11w (F:Nat) (p2:List Int) (p3:List (Int×Int×Int×((List UInt8)×Int×Int×Unit)×Int×Int×(List UInt8)×Bool×Unit)) (p4:List ((List UInt8)×Int×Int×Int×Int×(List ((List UInt8)×Int×Int×Unit))×Unit)) (p5:List ((List UInt8)×Int×Int×Unit)):Option (Bool):=T11wc F p2 p3 p4 p5 some
theorem T11wn (F:Nat) (p2:List Int) (p3:List (Int×Int×Int×((List UInt8)×Int×Int×Unit)×Int×Int×(List UInt8)×Bool×Unit)) (p4:List ((List UInt8)×Int×Int×Int×Int×(List ((List UInt8)×Int×Int×Unit))×Unit)) (p5:List ((List UInt8)×Int×Int×Unit)) {β:Type} (k:Bool->Option β):T11wc F p2 p3 p4 p5 k=(T11w F p2 p3 p4 p5).bind k:=by
 simp only [T11w,T11wc,Option.bind_assoc,cond_bind,Option.bind_some,Option.bind_none,elimS_bind]
abbrev cA11:List Sh:=[(.pr .i (.pr .i (.pr (.ro .i) (.pr (.ro (.pr .i (.pr .i (.pr .i (.pr (.pr .s (.pr .i (.pr .i .un))) (.pr .i (.pr .i (.pr .s (.pr .bo .un))))))))) (.pr (.ro (.pr .s (.pr .i (.pr .i (.pr .i (.pr .i (.pr (.sl (.pr .s (.pr .i (.pr .i .un)))) .un))))))) (.pr (.ro (.pr .s (.pr .i (.pr .i .un)))) .un))))))]
abbrev cB11:List Sh:=[.bo]
abbrev cT11:List TSh:=[]
abbrev cU11:List TSh:=[]
def ct11w (F:Nat):Ct:=mkC 0 cA11 cT11 cB11 cU11 (fun x y=>T11w F x.1.2.2.1 x.1.2.2.2.1 x.1.2.2.2.2.1 x.1.2.2.2.2.2.1) (fun x y (z:Bool)=>((z,()),()))
theorem eq11w (F:Nat) (x:dens cA11) (y:tdens cT11):sev (E11 F) 0 [([1,0,1,1],lc11_2 F)] (bodyOf Tryz.f11) [] (mkSt (rng 1) cA11 cT11 x y) (kFn (E11 F) 0 Tryz.f11.results.toList cB11 cU11 fun p q=>some (p,q)) =
  T11wc F x.1.2.2.1 x.1.2.2.2.1 x.1.2.2.2.2.1 x.1.2.2.2.2.2.1 (fun z=>some ((z,()),())):=by kernel_rfl
theorem ok11w (F:Nat):Sound Tryz.prog cfg 11 (ct11w F):=
 mkC_ok (E:=E11 F) (lp:=[([1,0,1,1],lc11_2 F)]) (code:=bodyOf Tryz.f11) Tryz.func11 rfl Tryz.ntmps11 rfl rfl cok (cts11 F) mixed ⟨lo11_2 F,trivial⟩ (by kernel_rfl) (fun x y k=>T11wc F x.1.2.2.1 x.1.2.2.2.1 x.1.2.2.2.2.1 x.1.2.2.2.2.2.1 k) (fun x y k=>T11wn F x.1.2.2.1 x.1.2.2.2.1 x.1.2.2.2.2.1 x.1.2.2.2.2.2.1 k) (eq11w F)
def T11 (F:Nat) (p2:List Int) (p3:List (Int×Int×Int×((List UInt8)×Int×Int×Unit)×Int×Int×(List UInt8)×Bool×Unit)) (p4:List ((List UInt8)×Int×Int×Int×Int×(List ((List UInt8)×Int×Int×Unit))×Unit)) (p5:List ((List UInt8)×Int×Int×Unit)):Option (Bool):=T11w (F + p4.length) p2 p3 p4 p5
def ct11 (F:Nat):Ct:=mkC 0 cA11 cT11 cB11 cU11 (fun x y=>T11 F x.1.2.2.1 x.1.2.2.2.1 x.1.2.2.2.2.1 x.1.2.2.2.2.2.1) (fun x y (z:Bool)=>((z,()),()))
theorem ok11 (F:Nat):Sound Tryz.prog cfg 11 (ct11 F):=fun x y p q h=>ok11w (F + (x.1.2.2.2.2.1).length) x y p q h
def ord118:Nat->List (Tag×Nat)
 | _=>[]
def al118:Nat->Option Nat
 | _=>none
def ms118:Nat->Option (List (Option Tag×Nat×List Nat))
 | _=>none
def E118 (F:Nat):Ev:=⟨cfg,15,ctOf [],ord118,ctOf [],al118,ms118⟩
theorem cts118 (F:Nat):CtsOk Tryz.prog (E118 F):=cts_of (l:=[]) (l':=[]) rfl rfl trivial trivial
def T118c (F:Nat) (p0:Int) (p1:Int) (p2:Int) {β:Type} (k:Bool->Option β):Option β:=
 (bif (decide (p1≤p0)) then (k (decide (p0≤p2))) else (k false))
def T118 (F:Nat) (p0:Int) (p1:Int) (p2:Int):Option (Bool):=T118c F p0 p1 p2 some
theorem T118n (F:Nat) (p0:Int) (p1:Int) (p2:Int) {β:Type} (k:Bool->Option β):T118c F p0 p1 p2 k=(T118 F p0 p1 p2).bind k:=by
 simp only [T118,T118c,Option.bind_assoc,cond_bind,Option.bind_some,Option.bind_none,elimS_bind]
abbrev cA118:List Sh:=[.i,.i,.i]
abbrev cB118:List Sh:=[.bo]
abbrev cT118:List TSh:=[]
abbrev cU118:List TSh:=[]
def ct118 (F:Nat):Ct:=mkC 0 cA118 cT118 cB118 cU118 (fun x y=>T118 F x.1 x.2.1 x.2.2.1) (fun x y (z:Bool)=>((z,()),()))
theorem eq118 (F:Nat) (x:dens cA118) (y:tdens cT118):sev (E118 F) 0 [] (bodyOf Tryz.f118) [] (mkSt (rng 3) cA118 cT118 x y) (kFn (E118 F) 0 Tryz.f118.results.toList cB118 cU118 fun p q=>some (p,q)) =
  T118c F x.1 x.2.1 x.2.2.1 (fun z=>some ((z,()),())):=by kernel_rfl
theorem ok118 (F:Nat):Sound Tryz.prog cfg 118 (ct118 F):=
 mkC_ok (E:=E118 F) (lp:=[]) (code:=bodyOf Tryz.f118) Tryz.func118 rfl Tryz.ntmps118 rfl rfl cok (cts118 F) mixed trivial (by kernel_rfl) (fun x y k=>T118c F x.1 x.2.1 x.2.2.1 k) (fun x y k=>T118n F x.1 x.2.1 x.2.2.1 k) (eq118 F)
def ord119:Nat->List (Tag×Nat)
 | _=>[]
def al119:Nat->Option Nat
 | _=>none
def ms119:Nat->Option (List (Option Tag×Nat×List Nat))
 | _=>none
def E119 (F:Nat):Ev:=⟨cfg,17,ctOf [(118,ct118 F)],ord119,ctOf [],al119,ms119⟩
theorem cts119 (F:Nat):CtsOk Tryz.prog (E119 F):=cts_of (l:=[(118,ct118 F)]) (l':=[]) rfl rfl ⟨⟨ok118 F,_,Tryz.func118,rfl,rfl⟩,trivial⟩ trivial
def T119c (F:Nat) (p0:List UInt8) (p1:Int) (p2:Int) {β:Type} (k:Bool->Option β):Option β:=
 (bif ((p0.length:Int) == (32:Int)) then (Option.bind (T118 F p1 (0:Int) (1099511627776:Int)) fun z3=>(bif z3 then (Option.bind (T118 F p2 (0:Int) (32768:Int)) fun z4=>(k z4)) else (k false))) else (k false))
def T119 (F:Nat) (p0:List UInt8) (p1:Int) (p2:Int):Option (Bool):=T119c F p0 p1 p2 some
theorem T119n (F:Nat) (p0:List UInt8) (p1:Int) (p2:Int) {β:Type} (k:Bool->Option β):T119c F p0 p1 p2 k=(T119 F p0 p1 p2).bind k:=by
 simp only [T119,T119c,Option.bind_assoc,cond_bind,Option.bind_some,Option.bind_none,elimS_bind]
abbrev cA119:List Sh:=[(.pr .str (.pr .i (.pr .i .un)))]
abbrev cB119:List Sh:=[.bo]
abbrev cT119:List TSh:=[]
abbrev cU119:List TSh:=[]
def ct119 (F:Nat):Ct:=mkC 0 cA119 cT119 cB119 cU119 (fun x y=>T119 F x.1.1 x.1.2.1 x.1.2.2.1) (fun x y (z:Bool)=>((z,()),()))
theorem eq119 (F:Nat) (x:dens cA119) (y:tdens cT119):sev (E119 F) 0 [] (bodyOf Tryz.f119) [] (mkSt (rng 1) cA119 cT119 x y) (kFn (E119 F) 0 Tryz.f119.results.toList cB119 cU119 fun p q=>some (p,q)) =
  T119c F x.1.1 x.1.2.1 x.1.2.2.1 (fun z=>some ((z,()),())):=by kernel_rfl
theorem ok119 (F:Nat):Sound Tryz.prog cfg 119 (ct119 F):=
 mkC_ok (E:=E119 F) (lp:=[]) (code:=bodyOf Tryz.f119) Tryz.func119 rfl Tryz.ntmps119 rfl rfl cok (cts119 F) mixed trivial (by kernel_rfl) (fun x y k=>T119c F x.1.1 x.1.2.1 x.1.2.2.1 k) (fun x y k=>T119n F x.1.1 x.1.2.1 x.1.2.2.1 k) (eq119 F)
def ord60:Nat->List (Tag×Nat)
 | _=>[]
def al60:Nat->Option Nat
 | _=>none
def ms60:Nat->Option (List (Option Tag×Nat×List Nat))
 | _=>none
def E60 (F:Nat):Ev:=⟨cfg,176,ctOf [(118,ct118 F),(119,ct119 F)],ord60,ctOf [],al60,ms60⟩
theorem cts60 (F:Nat):CtsOk Tryz.prog (E60 F):=cts_of (l:=[(118,ct118 F),(119,ct119 F)]) (l':=[]) rfl rfl ⟨⟨ok118 F,_,Tryz.func118,rfl,rfl⟩,⟨⟨ok119 F,_,Tryz.func119,rfl,rfl⟩,trivial⟩⟩ trivial
def L60_7c (F:Nat) (y100:List Int) (y101:Int) (y102:Int) {β:Type} (kA:Int->Option β) (kO:Unit->Option β) (kR:Bool->Option β):Option β:=
 (bif (decide (y102 < y101)) then (Option.bind (ix y100 y102) fun x111=>(Option.bind (T118 F x111 (0:Int) (1099511627776:Int)) fun z112=>(bif (!z112) then (kR false) else (kA (w64 (y102 + (1:Int))))))) else (kO ()))
def L60_7 (F:Nat) (y100:List Int) (y101:Int) (y102:Int):Option ((Int) ⊕ ((Unit) ⊕ (Bool))):=L60_7c F y100 y101 y102 (fun s=>some (.inl s)) (fun z=>some (.inr (.inl z))) (fun z=>some (.inr (.inr z)))
theorem L60_7n (F:Nat) (y100:List Int) (y101:Int) (y102:Int) {β:Type} (kA:Int->Option β) (kO:Unit->Option β) (kR:Bool->Option β):L60_7c F y100 y101 y102 kA kO kR=(L60_7 F y100 y101 y102).bind (elimS kA (elimS kO kR)):=by
 simp only [L60_7,L60_7c,Option.bind_assoc,cond_bind,Option.bind_some,Option.bind_none,elimS_l,elimS_r,elimS_bind]
abbrev sA60_7:List Sh:=[(.pt 0 []),(.ro .i),.i,.i]
abbrev sAp160_7:List Sh:=[(.pt 0 [])]
abbrev sAp260_7:List Sh:=[.bo]
abbrev sT60_7:List TSh:=[.blk 27 (.pr .i (.pr .i (.pr (.ro .i) (.pr (.ro (.pr .i (.pr .i (.pr .i (.pr (.pr .s (.pr .i (.pr .i .un))) (.pr .i (.pr .i (.pr .s (.pr .bo .un))))))))) (.pr (.ro (.pr .s (.pr .i (.pr .i (.pr .i (.pr .i (.pr (.sl (.pr .s (.pr .i (.pr .i .un)))) .un))))))) (.pr (.ro (.pr .s (.pr .i (.pr .i .un)))) .un))))))]
abbrev sTp160_7:List TSh:=[.blk 27 (.pr .i (.pr .i (.pr (.ro .i) (.pr (.ro (.pr .i (.pr .i (.pr .i (.pr (.pr .s (.pr .i (.pr .i .un))) (.pr .i (.pr .i (.pr .s (.pr .bo .un))))))))) (.pr (.ro (.pr .s (.pr .i (.pr .i (.pr .i (.pr .i (.pr (.sl (.pr .s (.pr .i (.pr .i .un)))) .un))))))) (.pr (.ro (.pr .s (.pr .i (.pr .i .un)))) .un))))))]
abbrev sTp260_7:List TSh:=[]
def lc60_7 (F:Nat):Lc:=mkR [1,48,49,50] sA60_7 sT60_7 [1] sAp160_7 sTp160_7 [2] sAp260_7 sTp260_7 F (fun x y (s:Int)=>L60_7 F x.2.1 x.2.2.1 s) (fun x y=>x.2.2.2.1) (fun x y (z:Unit)=>(((),()),((y.1.1,y.1.2.1,y.1.2.2.1,y.1.2.2.2.1,y.1.2.2.2.2.1,y.1.2.2.2.2.2.1,()),()))) (fun x y (z:Bool)=>((z,()),()))
theorem le60_7 (F:Nat) (x:dens sA60_7) (y:tdens sT60_7) (s:Int):sev (E60 F) 0 [] (cAt (bodyOf Tryz.f60) (0 :: 0 :: [1,0,1,1])) (0 :: 0 :: [1,0,1,1]) (mkSt [1,48,49,50] sA60_7 sT60_7 ((),x.2.1,x.2.2.1,s,()) ((y.1.1,y.1.2.1,y.1.2.2.1,y.1.2.2.2.1,y.1.2.2.2.2.1,y.1.2.2.2.2.2.1,()),())) (kLoop 0 [1,48,49,50] sA60_7 sT60_7 [1] sAp160_7 sTp160_7 [2] sAp260_7 sTp260_7 0 (fun x y=>some (.inl (x,y))) (fun x y=>some (.inr (.inl (x,y)))) (fun x y=>some (.inr (.inr (x,y))))) =
  L60_7c (β:=Full sA60_7 sT60_7 sAp160_7 sTp160_7 sAp260_7 sTp260_7) F x.2.1 x.2.2.1 s (fun s=>some (.inl (((),x.2.1,x.2.2.1,s,()),((y.1.1,y.1.2.1,y.1.2.2.1,y.1.2.2.2.1,y.1.2.2.2.2.1,y.1.2.2.2.2.2.1,()),())))) (fun z=>some (.inr (.inl (((),()),((y.1.1,y.1.2.1,y.1.2.2.1,y.1.2.2.2.1,y.1.2.2.2.2.1,y.1.2.2.2.2.2.1,()),()))))) (fun z=>some (.inr (.inr ((z,()),())))):=by kernel_rfl
theorem lo60_7 (F:Nat):LcOk Tryz.prog (E60 F) 0 (lc60_7 F) (cAt (bodyOf Tryz.f60) [1,0,1,1]):=
 mkR_ok (lp:=[]) (id:=0) (b:=cAt (bodyOf Tryz.f60) (0 :: 0 :: [1,0,1,1])) cok (cts60 F) mixed trivial (by kernel_rfl) (by kernel_rfl) (fun x y s=>((),x.2.1,x.2.2.1,s,())) (fun x y s=>((y.1.1,y.1.2.1,y.1.2.2.1,y.1.2.2.2.1,y.1.2.2.2.2.1,y.1.2.2.2.2.2.1,()),())) (fun x y=>rfl) (fun x y=>rfl) (fun x y s kA kO kR=>L60_7c F x.2.1 x.2.2.1 s kA kO kR) (fun x y s kA kO kR=>L60_7n F x.2.1 x.2.2.1 s kA kO kR) (le60_7 F)
def L60_9c (F:Nat) (y124:List (Int×Int×Int×((List UInt8)×Int×Int×Unit)×Int×Int×(List UInt8)×Bool×Unit)) (y126:Int) {β:Type} (kO:Int->Option β) (kR:Bool->Option β):Option β:=
 (Option.bind (ix y124 y126) fun x140=>(Option.bind (T118 F x140.1 (0:Int) (11:Int)) fun z141=>(bif (!z141) then (kR false) else (Option.bind (T118 F x140.2.1 (1:Int) (1099511627776:Int)) fun z142=>(bif (!z142) then (kR false) else (Option.bind (T118 F x140.2.2.1 (0:Int) (999999:Int)) fun z143=>(bif (!z143) then (kR false) else (Option.bind (T119 F x140.2.2.2.1.1 x140.2.2.2.1.2.1 x140.2.2.2.1.2.2.1) fun z144=>(bif (!z144) then (kR false) else (Option.bind (T118 F x140.2.2.2.2.1 (0:Int) (1099511627776:Int)) fun z145=>(bif (!z145) then (kR false) else (Option.bind (T118 F x140.2.2.2.2.2.1 (0:Int) (1099511627776:Int)) fun z146=>(bif (!z146) then (kR false) else (bif ((x140.2.2.2.2.2.2.1.length:Int) != (0:Int)) then (bif ((x140.2.2.2.2.2.2.1.length:Int) != (32:Int)) then (kR false) else (kO (w64 (y126 + (1:Int))))) else (kO (w64 (y126 + (1:Int))))))))))))))))))
def L60_9 (F:Nat) (y124:List (Int×Int×Int×((List UInt8)×Int×Int×Unit)×Int×Int×(List UInt8)×Bool×Unit)) (y126:Int):Option ((Int) ⊕ (Bool)):=L60_9c F y124 y126 (fun z=>some (.inl z)) (fun z=>some (.inr z))
theorem L60_9n (F:Nat) (y124:List (Int×Int×Int×((List UInt8)×Int×Int×Unit)×Int×Int×(List UInt8)×Bool×Unit)) (y126:Int) {β:Type} (kO:Int->Option β) (kR:Bool->Option β):L60_9c F y124 y126 kO kR=(L60_9 F y124 y126).bind (elimS kO kR):=by
 simp only [L60_9,L60_9c,Option.bind_assoc,cond_bind,Option.bind_some,Option.bind_none,elimS_l,elimS_r,elimS_bind]
abbrev sA60_9:List Sh:=[(.pt 0 []),(.ro (.pr .i (.pr .i (.pr .i (.pr (.pr .s (.pr .i (.pr .i .un))) (.pr .i (.pr .i (.pr .s (.pr .bo .un))))))))),.i,.i]
abbrev sAp160_9:List Sh:=[(.pt 0 []),(.ro (.pr .i (.pr .i (.pr .i (.pr (.pr .s (.pr .i (.pr .i .un))) (.pr .i (.pr .i (.pr .s (.pr .bo .un))))))))),.i,.i]
abbrev sAp260_9:List Sh:=[.bo]
abbrev sT60_9:List TSh:=[.blk 27 (.pr .i (.pr .i (.pr (.ro .i) (.pr (.ro (.pr .i (.pr .i (.pr .i (.pr (.pr .s (.pr .i (.pr .i .un))) (.pr .i (.pr .i (.pr .s (.pr .bo .un))))))))) (.pr (.ro (.pr .s (.pr .i (.pr .i (.pr .i (.pr .i (.pr (.sl (.pr .s (.pr .i (.pr .i .un)))) .un))))))) (.pr (.ro (.pr .s (.pr .i (.pr .i .un)))) .un))))))]
abbrev sTp160_9:List TSh:=[.blk 27 (.pr .i (.pr .i (.pr (.ro .i) (.pr (.ro (.pr .i (.pr .i (.pr .i (.pr (.pr .s (.pr .i (.pr .i .un))) (.pr .i (.pr .i (.pr .s (.pr .bo .un))))))))) (.pr (.ro (.pr .s (.pr .i (.pr .i (.pr .i (.pr .i (.pr (.sl (.pr .s (.pr .i (.pr .i .un)))) .un))))))) (.pr (.ro (.pr .s (.pr .i (.pr .i .un)))) .un))))))]
abbrev sTp260_9:List TSh:=[]
def lc60_9 (F:Nat):Lc:=mkK [1,59,60,61] sA60_9 sT60_9 [1,59,60,61] sAp160_9 sTp160_9 [2] sAp260_9 sTp260_9 (fun x y=>L60_9 F x.2.1 x.2.2.2.1) (fun x y (z:Int)=>(((),x.2.1,x.2.2.1,z,()),((y.1.1,y.1.2.1,y.1.2.2.1,y.1.2.2.2.1,y.1.2.2.2.2.1,y.1.2.2.2.2.2.1,()),()))) (fun x y (z:Bool)=>((z,()),()))
theorem le60_9 (F:Nat) (x:dens sA60_9) (y:tdens sT60_9):sev (E60 F) 0 [] (cAt (bodyOf Tryz.f60) [1,1,0,0,1,0,1,1,1]) [1,1,0,0,1,0,1,1,1] (mkSt [1,59,60,61] sA60_9 sT60_9 x y) (kJoinR 0 [1,59,60,61] sAp160_9 sTp160_9 [2] sAp260_9 sTp260_9 (fun x y=>some (.inl (x,y))) (fun x y=>some (.inr (x,y)))) =
  L60_9c (β:=(dens sAp160_9×tdens sTp160_9) ⊕ (dens sAp260_9×tdens sTp260_9)) F x.2.1 x.2.2.2.1 (fun z=>some (.inl (((),x.2.1,x.2.2.1,z,()),((y.1.1,y.1.2.1,y.1.2.2.1,y.1.2.2.2.1,y.1.2.2.2.2.1,y.1.2.2.2.2.2.1,()),())))) (fun z=>some (.inr ((z,()),()))):=by kernel_rfl
theorem lo60_9 (F:Nat):LcOk Tryz.prog (E60 F) 0 (lc60_9 F) (cAt (bodyOf Tryz.f60) [1,1,0,0,1,0,1,1,1]):=
 mkK_ok (lp:=[]) cok (cts60 F) mixed trivial (by kernel_rfl) (fun x y kO kR=>L60_9c F x.2.1 x.2.2.2.1 kO kR) (fun x y kO kR=>L60_9n F x.2.1 x.2.2.2.1 kO kR) (le60_9 F)
def L60_8c (F:Nat) (y114:List (Int×Int×Int×((List UInt8)×Int×Int×Unit)×Int×Int×(List UInt8)×Bool×Unit)) (y115:Int) (y116:Int) {β:Type} (kA:Int->Option β) (kO:Unit->Option β) (kR:Bool->Option β):Option β:=
 (bif (decide (y116 < y115)) then (Option.bind (L60_9 F y114 y116) fun z147=>elimS (fun z147=>(kA z147)) (fun z147=>(kR z147)) z147) else (kO ()))
def L60_8 (F:Nat) (y114:List (Int×Int×Int×((List UInt8)×Int×Int×Unit)×Int×Int×(List UInt8)×Bool×Unit)) (y115:Int) (y116:Int):Option ((Int) ⊕ ((Unit) ⊕ (Bool))):=L60_8c F y114 y115 y116 (fun s=>some (.inl s)) (fun z=>some (.inr (.inl z))) (fun z=>some (.inr (.inr z)))
theorem L60_8n (F:Nat) (y114:List (Int×Int×Int×((List UInt8)×Int×Int×Unit)×Int×Int×(List UInt8)×Bool×Unit)) (y115:Int) (y116:Int) {β:Type} (kA:Int->Option β) (kO:Unit->Option β) (kR:Bool->Option β):L60_8c F y114 y115 y116 kA kO kR=(L60_8 F y114 y115 y116).bind (elimS kA (elimS kO kR)):=by
 simp only [L60_8,L60_8c,Option.bind_assoc,cond_bind,Option.bind_some,Option.bind_none,elimS_l,elimS_r,elimS_bind]
abbrev sA60_8:List Sh:=[(.pt 0 []),(.ro (.pr .i (.pr .i (.pr .i (.pr (.pr .s (.pr .i (.pr .i .un))) (.pr .i (.pr .i (.pr .s (.pr .bo .un))))))))),.i,.i]
abbrev sAp160_8:List Sh:=[(.pt 0 [])]
abbrev sAp260_8:List Sh:=[.bo]
abbrev sT60_8:List TSh:=[.blk 27 (.pr .i (.pr .i (.pr (.ro .i) (.pr (.ro (.pr .i (.pr .i (.pr .i (.pr (.pr .s (.pr .i (.pr .i .un))) (.pr .i (.pr .i (.pr .s (.pr .bo .un))))))))) (.pr (.ro (.pr .s (.pr .i (.pr .i (.pr .i (.pr .i (.pr (.sl (.pr .s (.pr .i (.pr .i .un)))) .un))))))) (.pr (.ro (.pr .s (.pr .i (.pr .i .un)))) .un))))))]
abbrev sTp160_8:List TSh:=[.blk 27 (.pr .i (.pr .i (.pr (.ro .i) (.pr (.ro (.pr .i (.pr .i (.pr .i (.pr (.pr .s (.pr .i (.pr .i .un))) (.pr .i (.pr .i (.pr .s (.pr .bo .un))))))))) (.pr (.ro (.pr .s (.pr .i (.pr .i (.pr .i (.pr .i (.pr (.sl (.pr .s (.pr .i (.pr .i .un)))) .un))))))) (.pr (.ro (.pr .s (.pr .i (.pr .i .un)))) .un))))))]
abbrev sTp260_8:List TSh:=[]
def lc60_8 (F:Nat):Lc:=mkR [1,59,60,61] sA60_8 sT60_8 [1] sAp160_8 sTp160_8 [2] sAp260_8 sTp260_8 F (fun x y (s:Int)=>L60_8 F x.2.1 x.2.2.1 s) (fun x y=>x.2.2.2.1) (fun x y (z:Unit)=>(((),()),((y.1.1,y.1.2.1,y.1.2.2.1,y.1.2.2.2.1,y.1.2.2.2.2.1,y.1.2.2.2.2.2.1,()),()))) (fun x y (z:Bool)=>((z,()),()))
theorem le60_8 (F:Nat) (x:dens sA60_8) (y:tdens sT60_8) (s:Int):sev (E60 F) 0 [([1,1,0,0,1,0,1,1,1],lc60_9 F)] (cAt (bodyOf Tryz.f60) (0 :: 0 :: [1,0,1,1,1])) (0 :: 0 :: [1,0,1,1,1]) (mkSt [1,59,60,61] sA60_8 sT60_8 ((),x.2.1,x.2.2.1,s,()) ((y.1.1,y.1.2.1,y.1.2.2.1,y.1.2.2.2.1,y.1.2.2.2.2.1,y.1.2.2.2.2.2.1,()),())) (kLoop 0 [1,59,60,61] sA60_8 sT60_8 [1] sAp160_8 sTp160_8 [2] sAp260_8 sTp260_8 2 (fun x y=>some (.inl (x,y))) (fun x y=>some (.inr (.inl (x,y)))) (fun x y=>some (.inr (.inr (x,y))))) =
  L60_8c (β:=Full sA60_8 sT60_8 sAp160_8 sTp160_8 sAp260_8 sTp260_8) F x.2.1 x.2.2.1 s (fun s=>some (.inl (((),x.2.1,x.2.2.1,s,()),((y.1.1,y.1.2.1,y.1.2.2.1,y.1.2.2.2.1,y.1.2.2.2.2.1,y.1.2.2.2.2.2.1,()),())))) (fun z=>some (.inr (.inl (((),()),((y.1.1,y.1.2.1,y.1.2.2.1,y.1.2.2.2.1,y.1.2.2.2.2.1,y.1.2.2.2.2.2.1,()),()))))) (fun z=>some (.inr (.inr ((z,()),())))):=by kernel_rfl
theorem lo60_8 (F:Nat):LcOk Tryz.prog (E60 F) 0 (lc60_8 F) (cAt (bodyOf Tryz.f60) [1,0,1,1,1]):=
 mkR_ok (lp:=[([1,1,0,0,1,0,1,1,1],lc60_9 F)]) (id:=2) (b:=cAt (bodyOf Tryz.f60) (0 :: 0 :: [1,0,1,1,1])) cok (cts60 F) mixed ⟨lo60_9 F,trivial⟩ (by kernel_rfl) (by kernel_rfl) (fun x y s=>((),x.2.1,x.2.2.1,s,())) (fun x y s=>((y.1.1,y.1.2.1,y.1.2.2.1,y.1.2.2.2.1,y.1.2.2.2.2.1,y.1.2.2.2.2.2.1,()),())) (fun x y=>rfl) (fun x y=>rfl) (fun x y s kA kO kR=>L60_8c F x.2.1 x.2.2.1 s kA kO kR) (fun x y s kA kO kR=>L60_8n F x.2.1 x.2.2.1 s kA kO kR) (le60_8 F)
def L60_11c (F:Nat) (y172:List ((List UInt8)×Int×Int×Unit)) (y173:Int) (y174:Int) {β:Type} (kA:Int->Option β) (kO:Unit->Option β) (kR:Bool->Option β):Option β:=
 (bif (decide (y174 < y173)) then (Option.bind (ix y172 y174) fun x183=>(Option.bind (T119 F x183.1 x183.2.1 x183.2.2.1) fun z184=>(bif (!z184) then (kR false) else (kA (w64 (y174 + (1:Int))))))) else (kO ()))
def L60_11 (F:Nat) (y172:List ((List UInt8)×Int×Int×Unit)) (y173:Int) (y174:Int):Option ((Int) ⊕ ((Unit) ⊕ (Bool))):=L60_11c F y172 y173 y174 (fun s=>some (.inl s)) (fun z=>some (.inr (.inl z))) (fun z=>some (.inr (.inr z)))
theorem L60_11n (F:Nat) (y172:List ((List UInt8)×Int×Int×Unit)) (y173:Int) (y174:Int) {β:Type} (kA:Int->Option β) (kO:Unit->Option β) (kR:Bool->Option β):L60_11c F y172 y173 y174 kA kO kR=(L60_11 F y172 y173 y174).bind (elimS kA (elimS kO kR)):=by
 simp only [L60_11,L60_11c,Option.bind_assoc,cond_bind,Option.bind_some,Option.bind_none,elimS_l,elimS_r,elimS_bind]
abbrev sA60_11:List Sh:=[(.pt 0 []),(.ro (.pr .s (.pr .i (.pr .i (.pr .i (.pr .i (.pr (.sl (.pr .s (.pr .i (.pr .i .un)))) .un))))))),.i,.i,(.ro (.pr .s (.pr .i (.pr .i .un)))),.i,.i]
abbrev sAp160_11:List Sh:=[(.pt 0 []),(.ro (.pr .s (.pr .i (.pr .i (.pr .i (.pr .i (.pr (.sl (.pr .s (.pr .i (.pr .i .un)))) .un))))))),.i,.i]
abbrev sAp260_11:List Sh:=[.bo]
abbrev sT60_11:List TSh:=[.blk 27 (.pr .i (.pr .i (.pr (.ro .i) (.pr (.ro (.pr .i (.pr .i (.pr .i (.pr (.pr .s (.pr .i (.pr .i .un))) (.pr .i (.pr .i (.pr .s (.pr .bo .un))))))))) (.pr (.ro (.pr .s (.pr .i (.pr .i (.pr .i (.pr .i (.pr (.sl (.pr .s (.pr .i (.pr .i .un)))) .un))))))) (.pr (.ro (.pr .s (.pr .i (.pr .i .un)))) .un))))))]
abbrev sTp160_11:List TSh:=[.blk 27 (.pr .i (.pr .i (.pr (.ro .i) (.pr (.ro (.pr .i (.pr .i (.pr .i (.pr (.pr .s (.pr .i (.pr .i .un))) (.pr .i (.pr .i (.pr .s (.pr .bo .un))))))))) (.pr (.ro (.pr .s (.pr .i (.pr .i (.pr .i (.pr .i (.pr (.sl (.pr .s (.pr .i (.pr .i .un)))) .un))))))) (.pr (.ro (.pr .s (.pr .i (.pr .i .un)))) .un))))))]
abbrev sTp260_11:List TSh:=[]
def lc60_11 (F:Nat):Lc:=mkR [1,113,114,115,154,155,156] sA60_11 sT60_11 [1,113,114,115] sAp160_11 sTp160_11 [2] sAp260_11 sTp260_11 F (fun x y (s:Int)=>L60_11 F x.2.2.2.2.1 x.2.2.2.2.2.1 s) (fun x y=>x.2.2.2.2.2.2.1) (fun x y (z:Unit)=>(((),x.2.1,x.2.2.1,x.2.2.2.1,()),((y.1.1,y.1.2.1,y.1.2.2.1,y.1.2.2.2.1,y.1.2.2.2.2.1,y.1.2.2.2.2.2.1,()),()))) (fun x y (z:Bool)=>((z,()),()))
theorem le60_11 (F:Nat) (x:dens sA60_11) (y:tdens sT60_11) (s:Int):sev (E60 F) 0 [] (cAt (bodyOf Tryz.f60) (0 :: 0 :: [1,1,1,0,0,1,1,0,0,1,0,1,1,1,1])) (0 :: 0 :: [1,1,1,0,0,1,1,0,0,1,0,1,1,1,1]) (mkSt [1,113,114,115,154,155,156] sA60_11 sT60_11 ((),x.2.1,x.2.2.1,x.2.2.2.1,x.2.2.2.2.1,x.2.2.2.2.2.1,s,()) ((y.1.1,y.1.2.1,y.1.2.2.1,y.1.2.2.2.1,y.1.2.2.2.2.1,y.1.2.2.2.2.2.1,()),())) (kLoop 0 [1,113,114,115,154,155,156] sA60_11 sT60_11 [1,113,114,115] sAp160_11 sTp160_11 [2] sAp260_11 sTp260_11 6 (fun x y=>some (.inl (x,y))) (fun x y=>some (.inr (.inl (x,y)))) (fun x y=>some (.inr (.inr (x,y))))) =
  L60_11c (β:=Full sA60_11 sT60_11 sAp160_11 sTp160_11 sAp260_11 sTp260_11) F x.2.2.2.2.1 x.2.2.2.2.2.1 s (fun s=>some (.inl (((),x.2.1,x.2.2.1,x.2.2.2.1,x.2.2.2.2.1,x.2.2.2.2.2.1,s,()),((y.1.1,y.1.2.1,y.1.2.2.1,y.1.2.2.2.1,y.1.2.2.2.2.1,y.1.2.2.2.2.2.1,()),())))) (fun z=>some (.inr (.inl (((),x.2.1,x.2.2.1,x.2.2.2.1,()),((y.1.1,y.1.2.1,y.1.2.2.1,y.1.2.2.2.1,y.1.2.2.2.2.1,y.1.2.2.2.2.2.1,()),()))))) (fun z=>some (.inr (.inr ((z,()),())))):=by kernel_rfl
theorem lo60_11 (F:Nat):LcOk Tryz.prog (E60 F) 0 (lc60_11 F) (cAt (bodyOf Tryz.f60) [1,1,1,0,0,1,1,0,0,1,0,1,1,1,1]):=
 mkR_ok (lp:=[]) (id:=6) (b:=cAt (bodyOf Tryz.f60) (0 :: 0 :: [1,1,1,0,0,1,1,0,0,1,0,1,1,1,1])) cok (cts60 F) mixed trivial (by kernel_rfl) (by kernel_rfl) (fun x y s=>((),x.2.1,x.2.2.1,x.2.2.2.1,x.2.2.2.2.1,x.2.2.2.2.2.1,s,())) (fun x y s=>((y.1.1,y.1.2.1,y.1.2.2.1,y.1.2.2.2.1,y.1.2.2.2.2.1,y.1.2.2.2.2.2.1,()),())) (fun x y=>rfl) (fun x y=>rfl) (fun x y s kA kO kR=>L60_11c F x.2.2.2.2.1 x.2.2.2.2.2.1 s kA kO kR) (fun x y s kA kO kR=>L60_11n F x.2.2.2.2.1 x.2.2.2.2.2.1 s kA kO kR) (le60_11 F)
def L60_10c (F:Nat) (y149:List ((List UInt8)×Int×Int×Int×Int×(List ((List UInt8)×Int×Int×Unit))×Unit)) (y150:Int) (y151:Int) {β:Type} (kA:Int->Option β) (kO:Unit->Option β) (kR:Bool->Option β):Option β:=
 (bif (decide (y151 < y150)) then (Option.bind (ix y149 y151) fun x164=>(bif ((x164.1.length:Int) != (32:Int)) then (kR false) else (Option.bind (T118 F x164.2.1 (0:Int) (1000:Int)) fun z165=>(bif (!z165) then (kR false) else (Option.bind (T118 F x164.2.2.1 (1:Int) (65536:Int)) fun z166=>(bif (!z166) then (kR false) else (Option.bind (T118 F x164.2.2.2.1 (1:Int) (8:Int)) fun z167=>(bif (!z167) then (kR false) else (Option.bind (T118 F x164.2.2.2.2.1 (1:Int) (16:Int)) fun z168=>(bif (!z168) then (kR false) else (bif (decide ((8:Int) < (x164.2.2.2.2.2.1.length:Int))) then (kR false) else (Option.bind (iter (fun s=>L60_11 F x164.2.2.2.2.2.1 (x164.2.2.2.2.2.1.length:Int) s) F (0:Int)) fun z185=>elimS (fun z185=>(kA (w64 (y151 + (1:Int))))) (fun z185=>(kR z185)) z185)))))))))))) else (kO ()))
def L60_10 (F:Nat) (y149:List ((List UInt8)×Int×Int×Int×Int×(List ((List UInt8)×Int×Int×Unit))×Unit)) (y150:Int) (y151:Int):Option ((Int) ⊕ ((Unit) ⊕ (Bool))):=L60_10c F y149 y150 y151 (fun s=>some (.inl s)) (fun z=>some (.inr (.inl z))) (fun z=>some (.inr (.inr z)))
theorem L60_10n (F:Nat) (y149:List ((List UInt8)×Int×Int×Int×Int×(List ((List UInt8)×Int×Int×Unit))×Unit)) (y150:Int) (y151:Int) {β:Type} (kA:Int->Option β) (kO:Unit->Option β) (kR:Bool->Option β):L60_10c F y149 y150 y151 kA kO kR=(L60_10 F y149 y150 y151).bind (elimS kA (elimS kO kR)):=by
 simp only [L60_10,L60_10c,Option.bind_assoc,cond_bind,Option.bind_some,Option.bind_none,elimS_l,elimS_r,elimS_bind]
abbrev sA60_10:List Sh:=[(.pt 0 []),(.ro (.pr .s (.pr .i (.pr .i (.pr .i (.pr .i (.pr (.sl (.pr .s (.pr .i (.pr .i .un)))) .un))))))),.i,.i]
abbrev sAp160_10:List Sh:=[(.pt 0 [])]
abbrev sAp260_10:List Sh:=[.bo]
abbrev sT60_10:List TSh:=[.blk 27 (.pr .i (.pr .i (.pr (.ro .i) (.pr (.ro (.pr .i (.pr .i (.pr .i (.pr (.pr .s (.pr .i (.pr .i .un))) (.pr .i (.pr .i (.pr .s (.pr .bo .un))))))))) (.pr (.ro (.pr .s (.pr .i (.pr .i (.pr .i (.pr .i (.pr (.sl (.pr .s (.pr .i (.pr .i .un)))) .un))))))) (.pr (.ro (.pr .s (.pr .i (.pr .i .un)))) .un))))))]
abbrev sTp160_10:List TSh:=[.blk 27 (.pr .i (.pr .i (.pr (.ro .i) (.pr (.ro (.pr .i (.pr .i (.pr .i (.pr (.pr .s (.pr .i (.pr .i .un))) (.pr .i (.pr .i (.pr .s (.pr .bo .un))))))))) (.pr (.ro (.pr .s (.pr .i (.pr .i (.pr .i (.pr .i (.pr (.sl (.pr .s (.pr .i (.pr .i .un)))) .un))))))) (.pr (.ro (.pr .s (.pr .i (.pr .i .un)))) .un))))))]
abbrev sTp260_10:List TSh:=[]
def lc60_10 (F:Nat):Lc:=mkR [1,113,114,115] sA60_10 sT60_10 [1] sAp160_10 sTp160_10 [2] sAp260_10 sTp260_10 F (fun x y (s:Int)=>L60_10 F x.2.1 x.2.2.1 s) (fun x y=>x.2.2.2.1) (fun x y (z:Unit)=>(((),()),((y.1.1,y.1.2.1,y.1.2.2.1,y.1.2.2.2.1,y.1.2.2.2.2.1,y.1.2.2.2.2.2.1,()),()))) (fun x y (z:Bool)=>((z,()),()))
theorem le60_10 (F:Nat) (x:dens sA60_10) (y:tdens sT60_10) (s:Int):sev (E60 F) 0 [([1,1,1,0,0,1,1,0,0,1,0,1,1,1,1],lc60_11 F)] (cAt (bodyOf Tryz.f60) (0 :: 0 :: [1,0,1,1,1,1])) (0 :: 0 :: [1,0,1,1,1,1]) (mkSt [1,113,114,115] sA60_10 sT60_10 ((),x.2.1,x.2.2.1,s,()) ((y.1.1,y.1.2.1,y.1.2.2.1,y.1.2.2.2.1,y.1.2.2.2.2.1,y.1.2.2.2.2.2.1,()),())) (kLoop 0 [1,113,114,115] sA60_10 sT60_10 [1] sAp160_10 sTp160_10 [2] sAp260_10 sTp260_10 4 (fun x y=>some (.inl (x,y))) (fun x y=>some (.inr (.inl (x,y)))) (fun x y=>some (.inr (.inr (x,y))))) =
  L60_10c (β:=Full sA60_10 sT60_10 sAp160_10 sTp160_10 sAp260_10 sTp260_10) F x.2.1 x.2.2.1 s (fun s=>some (.inl (((),x.2.1,x.2.2.1,s,()),((y.1.1,y.1.2.1,y.1.2.2.1,y.1.2.2.2.1,y.1.2.2.2.2.1,y.1.2.2.2.2.2.1,()),())))) (fun z=>some (.inr (.inl (((),()),((y.1.1,y.1.2.1,y.1.2.2.1,y.1.2.2.2.1,y.1.2.2.2.2.1,y.1.2.2.2.2.2.1,()),()))))) (fun z=>some (.inr (.inr ((z,()),())))):=by kernel_rfl
theorem lo60_10 (F:Nat):LcOk Tryz.prog (E60 F) 0 (lc60_10 F) (cAt (bodyOf Tryz.f60) [1,0,1,1,1,1]):=
 mkR_ok (lp:=[([1,1,1,0,0,1,1,0,0,1,0,1,1,1,1],lc60_11 F)]) (id:=4) (b:=cAt (bodyOf Tryz.f60) (0 :: 0 :: [1,0,1,1,1,1])) cok (cts60 F) mixed ⟨lo60_11 F,trivial⟩ (by kernel_rfl) (by kernel_rfl) (fun x y s=>((),x.2.1,x.2.2.1,s,())) (fun x y s=>((y.1.1,y.1.2.1,y.1.2.2.1,y.1.2.2.2.1,y.1.2.2.2.2.1,y.1.2.2.2.2.2.1,()),())) (fun x y=>rfl) (fun x y=>rfl) (fun x y s kA kO kR=>L60_10c F x.2.1 x.2.2.1 s kA kO kR) (fun x y s kA kO kR=>L60_10n F x.2.1 x.2.2.1 s kA kO kR) (le60_10 F)
def L60_12c (F:Nat) (y187:List ((List UInt8)×Int×Int×Unit)) (y188:Int) (y189:Int) {β:Type} (kA:Int->Option β) (kO:Unit->Option β) (kR:Bool->Option β):Option β:=
 (bif (decide (y189 < y188)) then (Option.bind (ix y187 y189) fun x192=>(Option.bind (T119 F x192.1 x192.2.1 x192.2.2.1) fun z193=>(bif (!z193) then (kR false) else (kA (w64 (y189 + (1:Int))))))) else (kO ()))
def L60_12 (F:Nat) (y187:List ((List UInt8)×Int×Int×Unit)) (y188:Int) (y189:Int):Option ((Int) ⊕ ((Unit) ⊕ (Bool))):=L60_12c F y187 y188 y189 (fun s=>some (.inl s)) (fun z=>some (.inr (.inl z))) (fun z=>some (.inr (.inr z)))
theorem L60_12n (F:Nat) (y187:List ((List UInt8)×Int×Int×Unit)) (y188:Int) (y189:Int) {β:Type} (kA:Int->Option β) (kO:Unit->Option β) (kR:Bool->Option β):L60_12c F y187 y188 y189 kA kO kR=(L60_12 F y187 y188 y189).bind (elimS kA (elimS kO kR)):=by
 simp only [L60_12,L60_12c,Option.bind_assoc,cond_bind,Option.bind_some,Option.bind_none,elimS_l,elimS_r,elimS_bind]
abbrev sA60_12:List Sh:=[(.ro (.pr .s (.pr .i (.pr .i .un)))),.i,.i]
abbrev sAp160_12:List Sh:=[]
abbrev sAp260_12:List Sh:=[.bo]
abbrev sT60_12:List TSh:=[]
abbrev sTp160_12:List TSh:=[]
abbrev sTp260_12:List TSh:=[]
def lc60_12 (F:Nat):Lc:=mkR [166,167,168] sA60_12 sT60_12 [] sAp160_12 sTp160_12 [2] sAp260_12 sTp260_12 F (fun x y (s:Int)=>L60_12 F x.1 x.2.1 s) (fun x y=>x.2.2.1) (fun x y (z:Unit)=>((),())) (fun x y (z:Bool)=>((z,()),()))
theorem le60_12 (F:Nat) (x:dens sA60_12) (y:tdens sT60_12) (s:Int):sev (E60 F) 0 [] (cAt (bodyOf Tryz.f60) (0 :: 0 :: [1,0,1,1,1,1,1])) (0 :: 0 :: [1,0,1,1,1,1,1]) (mkSt [166,167,168] sA60_12 sT60_12 (x.1,x.2.1,s,()) ()) (kLoop 0 [166,167,168] sA60_12 sT60_12 [] sAp160_12 sTp160_12 [2] sAp260_12 sTp260_12 8 (fun x y=>some (.inl (x,y))) (fun x y=>some (.inr (.inl (x,y)))) (fun x y=>some (.inr (.inr (x,y))))) =
  L60_12c (β:=Full sA60_12 sT60_12 sAp160_12 sTp160_12 sAp260_12 sTp260_12) F x.1 x.2.1 s (fun s=>some (.inl ((x.1,x.2.1,s,()),()))) (fun z=>some (.inr (.inl ((),())))) (fun z=>some (.inr (.inr ((z,()),())))):=by kernel_rfl
theorem lo60_12 (F:Nat):LcOk Tryz.prog (E60 F) 0 (lc60_12 F) (cAt (bodyOf Tryz.f60) [1,0,1,1,1,1,1]):=
 mkR_ok (lp:=[]) (id:=8) (b:=cAt (bodyOf Tryz.f60) (0 :: 0 :: [1,0,1,1,1,1,1])) cok (cts60 F) mixed trivial (by kernel_rfl) (by kernel_rfl) (fun x y s=>(x.1,x.2.1,s,())) (fun x y s=>()) (fun x y=>rfl) (fun x y=>rfl) (fun x y s kA kO kR=>L60_12c F x.1 x.2.1 s kA kO kR) (fun x y s kA kO kR=>L60_12n F x.1 x.2.1 s kA kO kR) (le60_12 F)
def T60c (F:Nat) (p0:Int) (p1:Int) (p2:List Int) (p3:List (Int×Int×Int×((List UInt8)×Int×Int×Unit)×Int×Int×(List UInt8)×Bool×Unit)) (p4:List ((List UInt8)×Int×Int×Int×Int×(List ((List UInt8)×Int×Int×Unit))×Unit)) (p5:List ((List UInt8)×Int×Int×Unit)) {β:Type} (k:Bool->Option β):Option β:=
 (Option.bind (T118 F p0 (0:Int) (1000:Int)) fun z98=>(bif (!z98) then (k false) else (Option.bind (T118 F p1 (0:Int) (1000:Int)) fun z99=>(bif (!z99) then (k false) else (bif (decide ((12:Int) < (p2.length:Int))) then (k false) else (bif (decide ((4096:Int) < (p3.length:Int))) then (k false) else (bif (decide ((4096:Int) < (p4.length:Int))) then (k false) else (bif (decide ((4096:Int) < (p5.length:Int))) then (k false) else (Option.bind (iter (fun s=>L60_7 F p2 (p2.length:Int) s) F (0:Int)) fun z113=>elimS (fun z113=>(Option.bind (iter (fun s=>L60_8 F p3 (p3.length:Int) s) F (0:Int)) fun z148=>elimS (fun z148=>(Option.bind (iter (fun s=>L60_10 F p4 (p4.length:Int) s) F (0:Int)) fun z186=>elimS (fun z186=>(Option.bind (iter (fun s=>L60_12 F p5 (p5.length:Int) s) F (0:Int)) fun z194=>elimS (fun z194=>(k true)) (fun z194=>(k z194)) z194)) (fun z186=>(k z186)) z186)) (fun z148=>(k z148)) z148)) (fun z113=>(k z113)) z113)))))))))
def T60 (F:Nat) (p0:Int) (p1:Int) (p2:List Int) (p3:List (Int×Int×Int×((List UInt8)×Int×Int×Unit)×Int×Int×(List UInt8)×Bool×Unit)) (p4:List ((List UInt8)×Int×Int×Int×Int×(List ((List UInt8)×Int×Int×Unit))×Unit)) (p5:List ((List UInt8)×Int×Int×Unit)):Option (Bool):=T60c F p0 p1 p2 p3 p4 p5 some
theorem T60n (F:Nat) (p0:Int) (p1:Int) (p2:List Int) (p3:List (Int×Int×Int×((List UInt8)×Int×Int×Unit)×Int×Int×(List UInt8)×Bool×Unit)) (p4:List ((List UInt8)×Int×Int×Int×Int×(List ((List UInt8)×Int×Int×Unit))×Unit)) (p5:List ((List UInt8)×Int×Int×Unit)) {β:Type} (k:Bool->Option β):T60c F p0 p1 p2 p3 p4 p5 k=(T60 F p0 p1 p2 p3 p4 p5).bind k:=by
 simp only [T60,T60c,Option.bind_assoc,cond_bind,Option.bind_some,Option.bind_none,elimS_bind]
abbrev cA60:List Sh:=[(.pr .i (.pr .i (.pr (.ro .i) (.pr (.ro (.pr .i (.pr .i (.pr .i (.pr (.pr .s (.pr .i (.pr .i .un))) (.pr .i (.pr .i (.pr .s (.pr .bo .un))))))))) (.pr (.ro (.pr .s (.pr .i (.pr .i (.pr .i (.pr .i (.pr (.sl (.pr .s (.pr .i (.pr .i .un)))) .un))))))) (.pr (.ro (.pr .s (.pr .i (.pr .i .un)))) .un))))))]
abbrev cB60:List Sh:=[.bo]
abbrev cT60:List TSh:=[]
abbrev cU60:List TSh:=[]
def ct60 (F:Nat):Ct:=mkC 0 cA60 cT60 cB60 cU60 (fun x y=>T60 F x.1.1 x.1.2.1 x.1.2.2.1 x.1.2.2.2.1 x.1.2.2.2.2.1 x.1.2.2.2.2.2.1) (fun x y (z:Bool)=>((z,()),()))
theorem eq60 (F:Nat) (x:dens cA60) (y:tdens cT60):sev (E60 F) 0 [([1,0,1,1],lc60_7 F),([1,0,1,1,1],lc60_8 F),([1,0,1,1,1,1],lc60_10 F),([1,0,1,1,1,1,1],lc60_12 F)] (bodyOf Tryz.f60) [] (mkSt (rng 1) cA60 cT60 x y) (kFn (E60 F) 0 Tryz.f60.results.toList cB60 cU60 fun p q=>some (p,q)) =
  T60c F x.1.1 x.1.2.1 x.1.2.2.1 x.1.2.2.2.1 x.1.2.2.2.2.1 x.1.2.2.2.2.2.1 (fun z=>some ((z,()),())):=by kernel_rfl
theorem ok60 (F:Nat):Sound Tryz.prog cfg 60 (ct60 F):=
 mkC_ok (E:=E60 F) (lp:=[([1,0,1,1],lc60_7 F),([1,0,1,1,1],lc60_8 F),([1,0,1,1,1,1],lc60_10 F),([1,0,1,1,1,1,1],lc60_12 F)]) (code:=bodyOf Tryz.f60) Tryz.func60 rfl Tryz.ntmps60 rfl rfl cok (cts60 F) mixed ⟨lo60_7 F,⟨lo60_8 F,⟨lo60_10 F,⟨lo60_12 F,trivial⟩⟩⟩⟩ (by kernel_rfl) (fun x y k=>T60c F x.1.1 x.1.2.1 x.1.2.2.1 x.1.2.2.2.1 x.1.2.2.2.2.1 x.1.2.2.2.2.2.1 k) (fun x y k=>T60n F x.1.1 x.1.2.1 x.1.2.2.1 x.1.2.2.2.1 x.1.2.2.2.2.1 x.1.2.2.2.2.2.1 k) (eq60 F)
def ord61:Nat->List (Tag×Nat)
 | _=>[]
def al61:Nat->Option Nat
 | _=>none
def ms61:Nat->Option (List (Option Tag×Nat×List Nat))
 | _=>none
def E61 (F:Nat):Ev:=⟨cfg,5,ctOf [],ord61,ctOf [],al61,ms61⟩
theorem cts61 (F:Nat):CtsOk Tryz.prog (E61 F):=cts_of (l:=[]) (l':=[]) rfl rfl trivial trivial
def T61c (F:Nat) {β:Type} (k:(Int×UInt64×Bool×(List UInt8)×Int)->Option β):Option β:=
 (k ((2:Int),(0:UInt64),false,([]:List UInt8),(0:Int)))
def T61 (F:Nat):Option (Int×UInt64×Bool×(List UInt8)×Int):=T61c F some
theorem T61n (F:Nat) {β:Type} (k:(Int×UInt64×Bool×(List UInt8)×Int)->Option β):T61c F k=(T61 F).bind k:=by
 simp only [T61,T61c,Option.bind_assoc,cond_bind,Option.bind_some,Option.bind_none,elimS_bind]
abbrev cA61:List Sh:=[.i]
abbrev cB61:List Sh:=[(.pr .i (.pr .u64 (.pr .i (.pr .bo (.pr .str (.pr .i .un))))))]
abbrev cT61:List TSh:=[]
abbrev cU61:List TSh:=[]
def ct61 (F:Nat):Ct:=mkC 0 cA61 cT61 cB61 cU61 (fun x y=>T61 F) (fun x y (z:Int×UInt64×Bool×(List UInt8)×Int)=>(((z.1,z.2.1,x.1,z.2.2.1,z.2.2.2.1,z.2.2.2.2,()),()),()))
theorem eq61 (F:Nat) (x:dens cA61) (y:tdens cT61):sev (E61 F) 0 [] (bodyOf Tryz.f61) [] (mkSt (rng 1) cA61 cT61 x y) (kFn (E61 F) 0 Tryz.f61.results.toList cB61 cU61 fun p q=>some (p,q)) =
  T61c F (fun z=>some (((z.1,z.2.1,x.1,z.2.2.1,z.2.2.2.1,z.2.2.2.2,()),()),())):=by kernel_rfl
theorem ok61 (F:Nat):Sound Tryz.prog cfg 61 (ct61 F):=
 mkC_ok (E:=E61 F) (lp:=[]) (code:=bodyOf Tryz.f61) Tryz.func61 rfl Tryz.ntmps61 rfl rfl cok (cts61 F) mixed trivial (by kernel_rfl) (fun x y k=>T61c F k) (fun x y k=>T61n F k) (eq61 F)
def ord62:Nat->List (Tag×Nat)
 | _=>[]
def al62:Nat->Option Nat
 | _=>none
def ms62:Nat->Option (List (Option Tag×Nat×List Nat))
 | _=>none
def E62 (F:Nat):Ev:=⟨cfg,5,ctOf [],ord62,ctOf [],al62,ms62⟩
theorem cts62 (F:Nat):CtsOk Tryz.prog (E62 F):=cts_of (l:=[]) (l':=[]) rfl rfl trivial trivial
def T62c (F:Nat) {β:Type} (k:(Int×UInt64×Bool×(List UInt8)×Int)->Option β):Option β:=
 (k ((7:Int),(0:UInt64),false,([]:List UInt8),(0:Int)))
def T62 (F:Nat):Option (Int×UInt64×Bool×(List UInt8)×Int):=T62c F some
theorem T62n (F:Nat) {β:Type} (k:(Int×UInt64×Bool×(List UInt8)×Int)->Option β):T62c F k=(T62 F).bind k:=by
 simp only [T62,T62c,Option.bind_assoc,cond_bind,Option.bind_some,Option.bind_none,elimS_bind]
abbrev cA62:List Sh:=[.i]
abbrev cB62:List Sh:=[(.pr .i (.pr .u64 (.pr .i (.pr .bo (.pr .str (.pr .i .un))))))]
abbrev cT62:List TSh:=[]
abbrev cU62:List TSh:=[]
def ct62 (F:Nat):Ct:=mkC 0 cA62 cT62 cB62 cU62 (fun x y=>T62 F) (fun x y (z:Int×UInt64×Bool×(List UInt8)×Int)=>(((z.1,z.2.1,x.1,z.2.2.1,z.2.2.2.1,z.2.2.2.2,()),()),()))
theorem eq62 (F:Nat) (x:dens cA62) (y:tdens cT62):sev (E62 F) 0 [] (bodyOf Tryz.f62) [] (mkSt (rng 1) cA62 cT62 x y) (kFn (E62 F) 0 Tryz.f62.results.toList cB62 cU62 fun p q=>some (p,q)) =
  T62c F (fun z=>some (((z.1,z.2.1,x.1,z.2.2.1,z.2.2.2.1,z.2.2.2.2,()),()),())):=by kernel_rfl
theorem ok62 (F:Nat):Sound Tryz.prog cfg 62 (ct62 F):=
 mkC_ok (E:=E62 F) (lp:=[]) (code:=bodyOf Tryz.f62) Tryz.func62 rfl Tryz.ntmps62 rfl rfl cok (cts62 F) mixed trivial (by kernel_rfl) (fun x y k=>T62c F k) (fun x y k=>T62n F k) (eq62 F)
def ord63:Nat->List (Tag×Nat)
 | 1=>[(.p,0),(.c,1),(.p,2),(.p,3),(.r,4),(.p,6),(.c,7),(.w,5),(.w,8),(.w,9),(.p,10)]
 | _=>[]
def al63:Nat->Option Nat
 | _=>none
def ms63:Nat->Option (List (Option Tag×Nat×List Nat))
 | _=>none
def E63 (F:Nat):Ev:=⟨cfg,13,ctOf [(61,ct61 F)],ord63,ctOf [],al63,ms63⟩
theorem cts63 (F:Nat):CtsOk Tryz.prog (E63 F):=cts_of (l:=[(61,ct61 F)]) (l':=[]) rfl rfl ⟨⟨ok61 F,_,Tryz.func61,rfl,rfl⟩,trivial⟩ trivial
def T63c (F:Nat) (p0:List UInt8) (p1:Int) (p2:Int) {β:Type} (k:((List (Int×UInt64×Int×Bool×(List UInt8)×Int×Unit)))->Option β):Option β:=
 (Option.bind (T61 F) fun z3=>(Option.bind (T61 F) fun z4=>(k ([((6:Int),(0:UInt64),(0:Int),false,p0,(0:Int),()),(z3.1,z3.2.1,p1,z3.2.2.1,z3.2.2.2.1,z3.2.2.2.2,()),(z4.1,z4.2.1,p2,z4.2.2.1,z4.2.2.2.1,z4.2.2.2.2,())]:List (Int×UInt64×Int×Bool×(List UInt8)×Int×Unit)))))
def T63 (F:Nat) (p0:List UInt8) (p1:Int) (p2:Int):Option ((List (Int×UInt64×Int×Bool×(List UInt8)×Int×Unit))):=T63c F p0 p1 p2 some
theorem T63n (F:Nat) (p0:List UInt8) (p1:Int) (p2:Int) {β:Type} (k:((List (Int×UInt64×Int×Bool×(List UInt8)×Int×Unit)))->Option β):T63c F p0 p1 p2 k=(T63 F p0 p1 p2).bind k:=by
 simp only [T63,T63c,Option.bind_assoc,cond_bind,Option.bind_some,Option.bind_none,elimS_bind]
abbrev cA63:List Sh:=[(.pr .str (.pr .i (.pr .i .un)))]
abbrev cB63:List Sh:=[(.rw 0)]
abbrev cT63:List TSh:=[]
abbrev cU63:List TSh:=[.row 102 (.pr .i (.pr .u64 (.pr .i (.pr .bo (.pr .s (.pr .i .un))))))]
def ct63 (F:Nat):Ct:=mkC 0 cA63 cT63 cB63 cU63 (fun x y=>T63 F x.1.1 x.1.2.1 x.1.2.2.1) (fun x y (z:(List (Int×UInt64×Int×Bool×(List UInt8)×Int×Unit)))=>(((),()),(z,())))
theorem eq63 (F:Nat) (x:dens cA63) (y:tdens cT63):sev (E63 F) 0 [] (bodyOf Tryz.f63) [] (mkSt (rng 1) cA63 cT63 x y) (kFn (E63 F) 0 Tryz.f63.results.toList cB63 cU63 fun p q=>some (p,q)) =
  T63c F x.1.1 x.1.2.1 x.1.2.2.1 (fun z=>some (((),()),(z,()))):=by kernel_rfl
theorem ok63 (F:Nat):Sound Tryz.prog cfg 63 (ct63 F):=
 mkC_ok (E:=E63 F) (lp:=[]) (code:=bodyOf Tryz.f63) Tryz.func63 rfl Tryz.ntmps63 rfl rfl cok (cts63 F) mixed trivial (by kernel_rfl) (fun x y k=>T63c F x.1.1 x.1.2.1 x.1.2.2.1 k) (fun x y k=>T63n F x.1.1 x.1.2.1 x.1.2.2.1 k) (eq63 F)
def ord64:Nat->List (Tag×Nat)
 | _=>[]
def al64:Nat->Option Nat
 | _=>none
def ms64:Nat->Option (List (Option Tag×Nat×List Nat))
 | _=>none
def E64 (F:Nat):Ev:=⟨cfg,22,ctOf [(62,ct62 F),(63,ct63 F)],ord64,ctOf [],al64,ms64⟩
theorem cts64 (F:Nat):CtsOk Tryz.prog (E64 F):=cts_of (l:=[(62,ct62 F),(63,ct63 F)]) (l':=[]) rfl rfl ⟨⟨ok62 F,_,Tryz.func62,rfl,rfl⟩,⟨⟨ok63 F,_,Tryz.func63,rfl,rfl⟩,trivial⟩⟩ trivial
def L64_2c (F:Nat) (y14:List ((List UInt8)×Int×Int×Unit)) (y15:Int) (y16:Int) (y17:List (Int×UInt64×Int×Bool×(List UInt8)×Int×Unit)) {β:Type} (kA:(Int×(List (Int×UInt64×Int×Bool×(List UInt8)×Int×Unit)))->Option β) (kO:((List (Int×UInt64×Int×Bool×(List UInt8)×Int×Unit)))->Option β):Option β:=
 (bif (decide (y16 < y15)) then (Option.bind (ix y14 y16) fun x21=>(Option.bind (T63 F x21.1 x21.2.1 x21.2.2.1) fun z22=>(Option.bind (gapp y17 z22) fun x23=>(kA ((w64 (y16 + (1:Int))),x23))))) else (kO y17))
def L64_2 (F:Nat) (y14:List ((List UInt8)×Int×Int×Unit)) (y15:Int) (y16:Int) (y17:List (Int×UInt64×Int×Bool×(List UInt8)×Int×Unit)):Option ((Int×(List (Int×UInt64×Int×Bool×(List UInt8)×Int×Unit))) ⊕ ((List (Int×UInt64×Int×Bool×(List UInt8)×Int×Unit)))):=L64_2c F y14 y15 y16 y17 (fun s=>some (.inl s)) (fun z=>some (.inr z))
theorem L64_2n (F:Nat) (y14:List ((List UInt8)×Int×Int×Unit)) (y15:Int) (y16:Int) (y17:List (Int×UInt64×Int×Bool×(List UInt8)×Int×Unit)) {β:Type} (kA:(Int×(List (Int×UInt64×Int×Bool×(List UInt8)×Int×Unit)))->Option β) (kO:((List (Int×UInt64×Int×Bool×(List UInt8)×Int×Unit)))->Option β):L64_2c F y14 y15 y16 y17 kA kO=(L64_2 F y14 y15 y16 y17).bind (elimS kA kO):=by
 simp only [L64_2,L64_2c,Option.bind_assoc,cond_bind,Option.bind_some,Option.bind_none,elimS_l,elimS_r,elimS_bind]
abbrev sA64_2:List Sh:=[(.rw 0),(.ro (.pr .s (.pr .i (.pr .i .un)))),.i,.i]
abbrev sAp164_2:List Sh:=[(.rw 0)]
abbrev sT64_2:List TSh:=[.row 102 (.pr .i (.pr .u64 (.pr .i (.pr .bo (.pr .s (.pr .i .un))))))]
abbrev sTp164_2:List TSh:=[.row 102 (.pr .i (.pr .u64 (.pr .i (.pr .bo (.pr .s (.pr .i .un))))))]
def lc64_2 (F:Nat):Lc:=mkL [3,10,11,12] sA64_2 sT64_2 [3] sAp164_2 sTp164_2 F (fun x y (s:Int×(List (Int×UInt64×Int×Bool×(List UInt8)×Int×Unit)))=>L64_2 F x.2.1 x.2.2.1 s.1 s.2) (fun x y=>(x.2.2.2.1,y.1)) (fun x y (z:(List (Int×UInt64×Int×Bool×(List UInt8)×Int×Unit)))=>(((),()),(z,())))
theorem le64_2 (F:Nat) (x:dens sA64_2) (y:tdens sT64_2) (s:Int×(List (Int×UInt64×Int×Bool×(List UInt8)×Int×Unit))):sev (E64 F) 0 [] (cAt (bodyOf Tryz.f64) (0 :: 0 :: [1,0,1,1])) (0 :: 0 :: [1,0,1,1]) (mkSt [3,10,11,12] sA64_2 sT64_2 ((),x.2.1,x.2.2.1,s.1,()) (s.2,())) (kLoop 0 [3,10,11,12] sA64_2 sT64_2 [3] sAp164_2 sTp164_2 [] [] [] 0 (fun x y=>some (.inl (x,y))) (fun x y=>some (.inr (.inl (x,y)))) (fun x y=>some (.inr (.inr (x,y))))) =
  L64_2c (β:=Full sA64_2 sT64_2 sAp164_2 sTp164_2 [] []) F x.2.1 x.2.2.1 s.1 s.2 (fun s=>some (.inl (((),x.2.1,x.2.2.1,s.1,()),(s.2,())))) (fun z=>some (.inr (.inl (((),()),(z,()))))):=by kernel_rfl
theorem lo64_2 (F:Nat):LcOk Tryz.prog (E64 F) 0 (lc64_2 F) (cAt (bodyOf Tryz.f64) [1,0,1,1]):=
 mkL_ok (lp:=[]) (id:=0) (b:=cAt (bodyOf Tryz.f64) (0 :: 0 :: [1,0,1,1])) cok (cts64 F) mixed trivial (by kernel_rfl) (by kernel_rfl) (fun x y s=>((),x.2.1,x.2.2.1,s.1,())) (fun x y s=>(s.2,())) (fun x y=>rfl) (fun x y=>rfl) (fun x y s kA kO=>L64_2c F x.2.1 x.2.2.1 s.1 s.2 kA kO) (fun x y s kA kO=>L64_2n F x.2.1 x.2.2.1 s.1 s.2 kA kO) (le64_2 F)
def T64c (F:Nat) (p0:List ((List UInt8)×Int×Int×Unit)) {β:Type} (k:((List (Int×UInt64×Int×Bool×(List UInt8)×Int×Unit)))->Option β):Option β:=
 (Option.bind (T62 F) fun z13=>(Option.bind (iter (fun s=>L64_2 F p0 (p0.length:Int) s.1 s.2) F ((0:Int),([(z13.1,z13.2.1,(p0.length:Int),z13.2.2.1,z13.2.2.2.1,z13.2.2.2.2,())]:List (Int×UInt64×Int×Bool×(List UInt8)×Int×Unit)))) fun z24=>(k z24)))
def T64 (F:Nat) (p0:List ((List UInt8)×Int×Int×Unit)):Option ((List (Int×UInt64×Int×Bool×(List UInt8)×Int×Unit))):=T64c F p0 some
theorem T64n (F:Nat) (p0:List ((List UInt8)×Int×Int×Unit)) {β:Type} (k:((List (Int×UInt64×Int×Bool×(List UInt8)×Int×Unit)))->Option β):T64c F p0 k=(T64 F p0).bind k:=by
 simp only [T64,T64c,Option.bind_assoc,cond_bind,Option.bind_some,Option.bind_none,elimS_bind]
abbrev cA64:List Sh:=[(.ro (.pr .s (.pr .i (.pr .i .un))))]
abbrev cB64:List Sh:=[(.rw 0)]
abbrev cT64:List TSh:=[]
abbrev cU64:List TSh:=[.row 102 (.pr .i (.pr .u64 (.pr .i (.pr .bo (.pr .s (.pr .i .un))))))]
def ct64 (F:Nat):Ct:=mkC 0 cA64 cT64 cB64 cU64 (fun x y=>T64 F x.1) (fun x y (z:(List (Int×UInt64×Int×Bool×(List UInt8)×Int×Unit)))=>(((),()),(z,())))
theorem eq64 (F:Nat) (x:dens cA64) (y:tdens cT64):sev (E64 F) 0 [([1,0,1,1],lc64_2 F)] (bodyOf Tryz.f64) [] (mkSt (rng 1) cA64 cT64 x y) (kFn (E64 F) 0 Tryz.f64.results.toList cB64 cU64 fun p q=>some (p,q)) =
  T64c F x.1 (fun z=>some (((),()),(z,()))):=by kernel_rfl
theorem ok64 (F:Nat):Sound Tryz.prog cfg 64 (ct64 F):=
 mkC_ok (E:=E64 F) (lp:=[([1,0,1,1],lc64_2 F)]) (code:=bodyOf Tryz.f64) Tryz.func64 rfl Tryz.ntmps64 rfl rfl cok (cts64 F) mixed ⟨lo64_2 F,trivial⟩ (by kernel_rfl) (fun x y k=>T64c F x.1 k) (fun x y k=>T64n F x.1 k) (eq64 F)
def ord100:Nat->List (Tag×Nat)
 | _=>[]
def al100:Nat->Option Nat
 | _=>none
def ms100:Nat->Option (List (Option Tag×Nat×List Nat))
 | _=>none
def E100 (F:Nat):Ev:=⟨cfg,21,ctOf [],ord100,ctOf [],al100,ms100⟩
theorem cts100 (F:Nat):CtsOk Tryz.prog (E100 F):=cts_of (l:=[]) (l':=[]) rfl rfl trivial trivial
def L100_2c (F:Nat) (y7:UInt64) (y8:List UInt8) {β:Type} (kA:(UInt64×(List UInt8))->Option β) (kO:(UInt64×(List UInt8))->Option β):Option β:=
 (bif (decide ((UInt64.ofNat 127) < y7)) then (Option.bind (gapp y8 ([(((y7 % (UInt64.ofNat 128)).toUInt8) + (UInt8.ofNat 128))]:List UInt8)) fun x10=>(kA ((y7 / (UInt64.ofNat 128)),x10))) else (kO (y7,y8)))
def L100_2 (F:Nat) (y7:UInt64) (y8:List UInt8):Option ((UInt64×(List UInt8)) ⊕ (UInt64×(List UInt8))):=L100_2c F y7 y8 (fun s=>some (.inl s)) (fun z=>some (.inr z))
theorem L100_2n (F:Nat) (y7:UInt64) (y8:List UInt8) {β:Type} (kA:(UInt64×(List UInt8))->Option β) (kO:(UInt64×(List UInt8))->Option β):L100_2c F y7 y8 kA kO=(L100_2 F y7 y8).bind (elimS kA kO):=by
 simp only [L100_2,L100_2c,Option.bind_assoc,cond_bind,Option.bind_some,Option.bind_none,elimS_l,elimS_r,elimS_bind]
abbrev sA100_2:List Sh:=[.u64,(.rw 0)]
abbrev sAp1100_2:List Sh:=[.u64,(.rw 0)]
abbrev sT100_2:List TSh:=[.row 5 .u8]
abbrev sTp1100_2:List TSh:=[.row 5 .u8]
def lc100_2 (F:Nat):Lc:=mkL [0,3] sA100_2 sT100_2 [0,3] sAp1100_2 sTp1100_2 F (fun x y (s:UInt64×(List UInt8))=>L100_2 F s.1 s.2) (fun x y=>(x.1,y.1)) (fun x y (z:UInt64×(List UInt8))=>((z.1,(),()),(z.2,())))
theorem le100_2 (F:Nat) (x:dens sA100_2) (y:tdens sT100_2) (s:UInt64×(List UInt8)):sev (E100 F) 0 [] (cAt (bodyOf Tryz.f100) (0 :: 0 :: [0,1,1])) (0 :: 0 :: [0,1,1]) (mkSt [0,3] sA100_2 sT100_2 (s.1,(),()) (s.2,())) (kLoop 0 [0,3] sA100_2 sT100_2 [0,3] sAp1100_2 sTp1100_2 [] [] [] 0 (fun x y=>some (.inl (x,y))) (fun x y=>some (.inr (.inl (x,y)))) (fun x y=>some (.inr (.inr (x,y))))) =
  L100_2c (β:=Full sA100_2 sT100_2 sAp1100_2 sTp1100_2 [] []) F s.1 s.2 (fun s=>some (.inl ((s.1,(),()),(s.2,())))) (fun z=>some (.inr (.inl ((z.1,(),()),(z.2,()))))):=by kernel_rfl
theorem lo100_2 (F:Nat):LcOk Tryz.prog (E100 F) 0 (lc100_2 F) (cAt (bodyOf Tryz.f100) [0,1,1]):=
 mkL_ok (lp:=[]) (id:=0) (b:=cAt (bodyOf Tryz.f100) (0 :: 0 :: [0,1,1])) cok (cts100 F) mixed trivial (by kernel_rfl) (by kernel_rfl) (fun x y s=>(s.1,(),())) (fun x y s=>(s.2,())) (fun x y=>rfl) (fun x y=>rfl) (fun x y s kA kO=>L100_2c F s.1 s.2 kA kO) (fun x y s kA kO=>L100_2n F s.1 s.2 kA kO) (le100_2 F)
def T100c (F:Nat) (p0:UInt64) {β:Type} (k:((List UInt8))->Option β):Option β:=
 (Option.bind (iter (fun s=>L100_2 F s.1 s.2) F (p0,([]:List UInt8))) fun z11=>(Option.bind (gapp z11.2 ([(z11.1.toUInt8)]:List UInt8)) fun x12=>(k x12)))
def T100 (F:Nat) (p0:UInt64):Option ((List UInt8)):=T100c F p0 some
theorem T100n (F:Nat) (p0:UInt64) {β:Type} (k:((List UInt8))->Option β):T100c F p0 k=(T100 F p0).bind k:=by
 simp only [T100,T100c,Option.bind_assoc,cond_bind,Option.bind_some,Option.bind_none,elimS_bind]
abbrev cA100:List Sh:=[.u64]
abbrev cB100:List Sh:=[(.rw 0)]
abbrev cT100:List TSh:=[]
abbrev cU100:List TSh:=[.row 5 .u8]
def ct100 (F:Nat):Ct:=mkC 0 cA100 cT100 cB100 cU100 (fun x y=>T100 F x.1) (fun x y (z:(List UInt8))=>(((),()),(z,())))
theorem eq100 (F:Nat) (x:dens cA100) (y:tdens cT100):sev (E100 F) 0 [([0,1,1],lc100_2 F)] (bodyOf Tryz.f100) [] (mkSt (rng 1) cA100 cT100 x y) (kFn (E100 F) 0 Tryz.f100.results.toList cB100 cU100 fun p q=>some (p,q)) =
  T100c F x.1 (fun z=>some (((),()),(z,()))):=by kernel_rfl
theorem ok100 (F:Nat):Sound Tryz.prog cfg 100 (ct100 F):=
 mkC_ok (E:=E100 F) (lp:=[([0,1,1],lc100_2 F)]) (code:=bodyOf Tryz.f100) Tryz.func100 rfl Tryz.ntmps100 rfl rfl cok (cts100 F) mixed ⟨lo100_2 F,trivial⟩ (by kernel_rfl) (fun x y k=>T100c F x.1 k) (fun x y k=>T100n F x.1 k) (eq100 F)
def ord120:Nat->List (Tag×Nat)
 | _=>[]
def al120:Nat->Option Nat
 | _=>none
def ms120:Nat->Option (List (Option Tag×Nat×List Nat))
 | _=>none
def E120 (F:Nat):Ev:=⟨cfg,14,ctOf [],ord120,ctOf [],al120,ms120⟩
theorem cts120 (F:Nat):CtsOk Tryz.prog (E120 F):=cts_of (l:=[]) (l':=[]) rfl rfl trivial trivial
def T120c (F:Nat) (p0:Int) {β:Type} (k:UInt64->Option β):Option β:=
 (bif (decide ((0:Int)≤p0)) then (k ((UInt64.ofNat 2) * (UInt64.ofInt p0))) else (k (((UInt64.ofNat 2) * (UInt64.ofInt (w64 (0 - (w64 (p0 + (1:Int))))))) + (UInt64.ofNat 1))))
def T120 (F:Nat) (p0:Int):Option (UInt64):=T120c F p0 some
theorem T120n (F:Nat) (p0:Int) {β:Type} (k:UInt64->Option β):T120c F p0 k=(T120 F p0).bind k:=by
 simp only [T120,T120c,Option.bind_assoc,cond_bind,Option.bind_some,Option.bind_none,elimS_bind]
abbrev cA120:List Sh:=[.i]
abbrev cB120:List Sh:=[.u64]
abbrev cT120:List TSh:=[]
abbrev cU120:List TSh:=[]
def ct120 (F:Nat):Ct:=mkC 0 cA120 cT120 cB120 cU120 (fun x y=>T120 F x.1) (fun x y (z:UInt64)=>((z,()),()))
theorem eq120 (F:Nat) (x:dens cA120) (y:tdens cT120):sev (E120 F) 0 [] (bodyOf Tryz.f120) [] (mkSt (rng 1) cA120 cT120 x y) (kFn (E120 F) 0 Tryz.f120.results.toList cB120 cU120 fun p q=>some (p,q)) =
  T120c F x.1 (fun z=>some ((z,()),())):=by kernel_rfl
theorem ok120 (F:Nat):Sound Tryz.prog cfg 120 (ct120 F):=
 mkC_ok (E:=E120 F) (lp:=[]) (code:=bodyOf Tryz.f120) Tryz.func120 rfl Tryz.ntmps120 rfl rfl cok (cts120 F) mixed trivial (by kernel_rfl) (fun x y k=>T120c F x.1 k) (fun x y k=>T120n F x.1 k) (eq120 F)
def ord65:Nat->List (Tag×Nat)
 | 17=>[(.p,0),(.p,1),(.r,2),(.p,3),(.p,4),(.p,7),(.c,8),(.w,5),(.w,6),(.w,9),(.p,10)]
 | _=>[]
def al65:Nat->Option Nat
 | _=>none
def ms65:Nat->Option (List (Option Tag×Nat×List Nat))
 | _=>none
def E65 (F:Nat):Ev:=⟨cfg,83,ctOf [(100,ct100 F),(120,ct120 F)],ord65,ctOf [],al65,ms65⟩
theorem cts65 (F:Nat):CtsOk Tryz.prog (E65 F):=cts_of (l:=[(100,ct100 F),(120,ct120 F)]) (l':=[]) rfl rfl ⟨⟨ok100 F,_,Tryz.func100,rfl,rfl⟩,⟨⟨ok120 F,_,Tryz.func120,rfl,rfl⟩,trivial⟩⟩ trivial
def L65_4c (F:Nat) (y74:Int) (y75:Bool) {β:Type} (kO:Bool->Option β):Option β:=
 (bif y75 then (kO y75) else (kO (y74 == (5:Int))))
def L65_4 (F:Nat) (y74:Int) (y75:Bool):Option (Bool):=L65_4c F y74 y75 (fun z=>some z)
theorem L65_4n (F:Nat) (y74:Int) (y75:Bool) {β:Type} (kO:Bool->Option β):L65_4c F y74 y75 kO=(L65_4 F y74 y75).bind (kO):=by
 simp only [L65_4,L65_4c,Option.bind_assoc,cond_bind,Option.bind_some,Option.bind_none,elimS_l,elimS_r,elimS_bind]
abbrev sA65_4:List Sh:=[(.ro (.pr .i (.pr .u64 (.pr .i (.pr .bo (.pr .s (.pr .i .un))))))),(.rw 0),.i,(.pt 1 []),.i,.bo]
abbrev sAp165_4:List Sh:=[(.ro (.pr .i (.pr .u64 (.pr .i (.pr .bo (.pr .s (.pr .i .un))))))),(.rw 0),.i,(.pt 1 []),.i,.bo]
abbrev sT65_4:List TSh:=[.row 5 .u8,.blk 102 (.pr .i (.pr .u64 (.pr .i (.pr .bo (.pr .str (.pr .i .un))))))]
abbrev sTp165_4:List TSh:=[.row 5 .u8,.blk 102 (.pr .i (.pr .u64 (.pr .i (.pr .bo (.pr .str (.pr .i .un))))))]
def lc65_4 (F:Nat):Lc:=mkJ [0,4,5,6,19,45] sA65_4 sT65_4 [0,4,5,6,19,45] sAp165_4 sTp165_4 (fun x y=>L65_4 F x.2.2.2.2.1 x.2.2.2.2.2.1) (fun x y (z:Bool)=>((x.1,(),x.2.2.1,(),x.2.2.2.2.1,z,()),(y.1,(y.2.1.1,y.2.1.2.1,y.2.1.2.2.1,y.2.1.2.2.2.1,y.2.1.2.2.2.2.1,y.2.1.2.2.2.2.2.1,()),())))
theorem le65_4 (F:Nat) (x:dens sA65_4) (y:tdens sT65_4):sev (E65 F) 0 [] (cAt (bodyOf Tryz.f65) [1,0,1,1,1,1,1,1,0,1,1,0,0,1,0,0,1,0,1,1]) [1,0,1,1,1,1,1,1,0,1,1,0,0,1,0,0,1,0,1,1] (mkSt [0,4,5,6,19,45] sA65_4 sT65_4 x y) (kJoin 0 [0,4,5,6,19,45] sAp165_4 sTp165_4 (fun x y=>some (x,y))) =
  L65_4c (β:=dens sAp165_4×tdens sTp165_4) F x.2.2.2.2.1 x.2.2.2.2.2.1 (fun z=>some ((x.1,(),x.2.2.1,(),x.2.2.2.2.1,z,()),(y.1,(y.2.1.1,y.2.1.2.1,y.2.1.2.2.1,y.2.1.2.2.2.1,y.2.1.2.2.2.2.1,y.2.1.2.2.2.2.2.1,()),()))):=by kernel_rfl
theorem lo65_4 (F:Nat):LcOk Tryz.prog (E65 F) 0 (lc65_4 F) (cAt (bodyOf Tryz.f65) [1,0,1,1,1,1,1,1,0,1,1,0,0,1,0,0,1,0,1,1]):=
 mkJ_ok (lp:=[]) cok (cts65 F) mixed trivial (by kernel_rfl) (fun x y kO=>L65_4c F x.2.2.2.2.1 x.2.2.2.2.2.1 kO) (fun x y kO=>L65_4n F x.2.2.2.2.1 x.2.2.2.2.2.1 kO) (le65_4 F)
def L65_3c (F:Nat) (y46:List (Int×UInt64×Int×Bool×(List UInt8)×Int×Unit)) (y47:Int) (y48:List UInt8) {β:Type} (kA:(Int×(List UInt8))->Option β) (kO:((List UInt8))->Option β) (kR:Int->Option β):Option β:=
 (bif (decide (y47 < (y46.length:Int))) then (Option.bind (ix y46 y47) fun x64=>(bif (x64.1 == (1:Int)) then (Option.bind (T100 F x64.2.1) fun z65=>(Option.bind (gapp y48 z65) fun x66=>(kA ((w64 (y47 + (1:Int))),x66)))) else (bif (x64.1 == (2:Int)) then (Option.bind (T120 F x64.2.2.1) fun z67=>(Option.bind (T100 F z67) fun z68=>(Option.bind (gapp y48 z68) fun x69=>(kA ((w64 (y47 + (1:Int))),x69))))) else (bif (x64.1 == (3:Int)) then (bif x64.2.2.2.1 then (Option.bind (gapp y48 ([(UInt8.ofNat 1)]:List UInt8)) fun x70=>(kA ((w64 (y47 + (1:Int))),x70))) else (Option.bind (gapp y48 ([(UInt8.ofNat 0)]:List UInt8)) fun x71=>(kA ((w64 (y47 + (1:Int))),x71)))) else (Option.bind (L65_4 F x64.1 (x64.1 == (4:Int))) fun z83=>(bif z83 then (Option.bind (T100 F (UInt64.ofInt (x64.2.2.2.2.1.length:Int))) fun z84=>(Option.bind (gapp y48 z84) fun x85=>(Option.bind (gapp x85 x64.2.2.2.2.1) fun x86=>(kA ((w64 (y47 + (1:Int))),x86))))) else (bif (x64.1 == (6:Int)) then (bif ((x64.2.2.2.2.1.length:Int) != (32:Int)) then (kR (1:Int)) else (Option.bind (gapp y48 x64.2.2.2.2.1) fun x87=>(kA ((w64 (y47 + (1:Int))),x87)))) else (bif (x64.1 == (7:Int)) then (bif (decide (x64.2.2.1 < (0:Int))) then (kR (1:Int)) else (Option.bind (T100 F (UInt64.ofInt x64.2.2.1)) fun z88=>(Option.bind (gapp y48 z88) fun x89=>(kA ((w64 (y47 + (1:Int))),x89))))) else (kA ((w64 (y47 + (1:Int))),y48)))))))))) else (kO y48))
def L65_3 (F:Nat) (y46:List (Int×UInt64×Int×Bool×(List UInt8)×Int×Unit)) (y47:Int) (y48:List UInt8):Option ((Int×(List UInt8)) ⊕ (((List UInt8)) ⊕ (Int))):=L65_3c F y46 y47 y48 (fun s=>some (.inl s)) (fun z=>some (.inr (.inl z))) (fun z=>some (.inr (.inr z)))
theorem L65_3n (F:Nat) (y46:List (Int×UInt64×Int×Bool×(List UInt8)×Int×Unit)) (y47:Int) (y48:List UInt8) {β:Type} (kA:(Int×(List UInt8))->Option β) (kO:((List UInt8))->Option β) (kR:Int->Option β):L65_3c F y46 y47 y48 kA kO kR=(L65_3 F y46 y47 y48).bind (elimS kA (elimS kO kR)):=by
 simp only [L65_3,L65_3c,Option.bind_assoc,cond_bind,Option.bind_some,Option.bind_none,elimS_l,elimS_r,elimS_bind]
abbrev sA65_3:List Sh:=[(.ro (.pr .i (.pr .u64 (.pr .i (.pr .bo (.pr .s (.pr .i .un))))))),(.rw 0),.i]
abbrev sAp165_3:List Sh:=[(.rw 0)]
abbrev sAp265_3:List Sh:=[.ns,.i]
abbrev sT65_3:List TSh:=[.row 5 .u8]
abbrev sTp165_3:List TSh:=[.row 5 .u8]
abbrev sTp265_3:List TSh:=[]
def lc65_3 (F:Nat):Lc:=mkR [0,4,5] sA65_3 sT65_3 [4] sAp165_3 sTp165_3 [2,3] sAp265_3 sTp265_3 F (fun x y (s:Int×(List UInt8))=>L65_3 F x.1 s.1 s.2) (fun x y=>(x.2.2.1,y.1)) (fun x y (z:(List UInt8))=>(((),()),(z,()))) (fun x y (z:Int)=>(((),z,()),()))
theorem le65_3 (F:Nat) (x:dens sA65_3) (y:tdens sT65_3) (s:Int×(List UInt8)):sev (E65 F) 0 [([1,0,1,1,1,1,1,1,0,1,1,0,0,1,0,0,1,0,1,1],lc65_4 F)] (cAt (bodyOf Tryz.f65) (0 :: 0 :: [1,0,1,1])) (0 :: 0 :: [1,0,1,1]) (mkSt [0,4,5] sA65_3 sT65_3 (x.1,(),s.1,()) (s.2,())) (kLoop 0 [0,4,5] sA65_3 sT65_3 [4] sAp165_3 sTp165_3 [2,3] sAp265_3 sTp265_3 0 (fun x y=>some (.inl (x,y))) (fun x y=>some (.inr (.inl (x,y)))) (fun x y=>some (.inr (.inr (x,y))))) =
  L65_3c (β:=Full sA65_3 sT65_3 sAp165_3 sTp165_3 sAp265_3 sTp265_3) F x.1 s.1 s.2 (fun s=>some (.inl ((x.1,(),s.1,()),(s.2,())))) (fun z=>some (.inr (.inl (((),()),(z,()))))) (fun z=>some (.inr (.inr (((),z,()),())))):=by kernel_rfl
theorem lo65_3 (F:Nat):LcOk Tryz.prog (E65 F) 0 (lc65_3 F) (cAt (bodyOf Tryz.f65) [1,0,1,1]):=
 mkR_ok (lp:=[([1,0,1,1,1,1,1,1,0,1,1,0,0,1,0,0,1,0,1,1],lc65_4 F)]) (id:=0) (b:=cAt (bodyOf Tryz.f65) (0 :: 0 :: [1,0,1,1])) cok (cts65 F) mixed ⟨lo65_4 F,trivial⟩ (by kernel_rfl) (by kernel_rfl) (fun x y s=>(x.1,(),s.1,())) (fun x y s=>(s.2,())) (fun x y=>rfl) (fun x y=>rfl) (fun x y s kA kO kR=>L65_3c F x.1 s.1 s.2 kA kO kR) (fun x y s kA kO kR=>L65_3n F x.1 s.1 s.2 kA kO kR) (le65_3 F)
def T65c (F:Nat) (p0:List (Int×UInt64×Int×Bool×(List UInt8)×Int×Unit)) {β:Type} (k:(Int×(List UInt8))->Option β):Option β:=
 (Option.bind (iter (fun s=>L65_3 F p0 s.1 s.2) F ((0:Int),([]:List UInt8))) fun z90=>elimS (fun z90=>(bif (decide ((1048576:Int) < (z90.length:Int))) then (k ((2:Int),([]:List UInt8))) else (k ((0:Int),z90)))) (fun z90=>(k (z90,([]:List UInt8)))) z90)
def T65 (F:Nat) (p0:List (Int×UInt64×Int×Bool×(List UInt8)×Int×Unit)):Option (Int×(List UInt8)):=T65c F p0 some
theorem T65n (F:Nat) (p0:List (Int×UInt64×Int×Bool×(List UInt8)×Int×Unit)) {β:Type} (k:(Int×(List UInt8))->Option β):T65c F p0 k=(T65 F p0).bind k:=by
 simp only [T65,T65c,Option.bind_assoc,cond_bind,Option.bind_some,Option.bind_none,elimS_bind]
abbrev cA65:List Sh:=[(.ro (.pr .i (.pr .u64 (.pr .i (.pr .bo (.pr .s (.pr .i .un)))))))]
abbrev cB65:List Sh:=[(.rw 0),.i]
abbrev cT65:List TSh:=[]
abbrev cU65:List TSh:=[.row 5 .u8]
def ct65 (F:Nat):Ct:=mkC 0 cA65 cT65 cB65 cU65 (fun x y=>T65 F x.1) (fun x y (z:Int×(List UInt8))=>(((),z.1,()),(z.2,())))
theorem eq65 (F:Nat) (x:dens cA65) (y:tdens cT65):sev (E65 F) 0 [([1,0,1,1],lc65_3 F)] (bodyOf Tryz.f65) [] (mkSt (rng 1) cA65 cT65 x y) (kFn (E65 F) 0 Tryz.f65.results.toList cB65 cU65 fun p q=>some (p,q)) =
  T65c F x.1 (fun z=>some (((),z.1,()),(z.2,()))):=by kernel_rfl
theorem ok65 (F:Nat):Sound Tryz.prog cfg 65 (ct65 F):=
 mkC_ok (E:=E65 F) (lp:=[([1,0,1,1],lc65_3 F)]) (code:=bodyOf Tryz.f65) Tryz.func65 rfl Tryz.ntmps65 rfl rfl cok (cts65 F) mixed ⟨lo65_3 F,trivial⟩ (by kernel_rfl) (fun x y k=>T65c F x.1 k) (fun x y k=>T65n F x.1 k) (eq65 F)
def ord20:Nat->List (Tag×Nat)
 | 3=>[(.p,0),(.r,1),(.p,3),(.c,4),(.p,6),(.c,7),(.p,8),(.w,2),(.w,5),(.w,9),(.w,10),(.p,11)]
 | 13=>[(.p,0),(.p,1),(.r,2),(.p,4),(.c,5),(.p,7),(.c,8),(.w,3),(.w,6),(.w,9),(.w,10),(.w,11),(.p,12)]
 | 15=>[(.p,0),(.p,1),(.r,2),(.p,4),(.c,5),(.p,7),(.c,8),(.p,9),(.p,10),(.c,11),(.p,12),(.w,3),(.w,6),(.w,13),(.w,14),(.p,15)]
 | 21=>[(.p,0),(.p,1),(.c,2),(.p,3),(.p,4),(.r,5),(.p,7),(.c,8),(.p,10),(.c,11),(.p,13),(.c,14),(.w,6),(.w,9),(.w,12),(.w,15),(.w,16),(.w,17),(.p,18)]
 | _=>[]
def al20:Nat->Option Nat
 | _=>none
def ms20:Nat->Option (List (Option Tag×Nat×List Nat))
 | _=>none
def E20 (F:Nat):Ev:=⟨cfg,143,ctOf [(60,ct60 F),(61,ct61 F),(62,ct62 F),(63,ct63 F),(64,ct64 F),(65,ct65 F)],ord20,ctOf [],al20,ms20⟩
theorem cts20 (F:Nat):CtsOk Tryz.prog (E20 F):=cts_of (l:=[(60,ct60 F),(61,ct61 F),(62,ct62 F),(63,ct63 F),(64,ct64 F),(65,ct65 F)]) (l':=[]) rfl rfl ⟨⟨ok60 F,_,Tryz.func60,rfl,rfl⟩,⟨⟨ok61 F,_,Tryz.func61,rfl,rfl⟩,⟨⟨ok62 F,_,Tryz.func62,rfl,rfl⟩,⟨⟨ok63 F,_,Tryz.func63,rfl,rfl⟩,⟨⟨ok64 F,_,Tryz.func64,rfl,rfl⟩,⟨⟨ok65 F,_,Tryz.func65,rfl,rfl⟩,trivial⟩⟩⟩⟩⟩⟩ trivial
def L20_4c (F:Nat) (y91:List Int) (y92:Int) (y93:Int) (y100:List (Int×UInt64×Int×Bool×(List UInt8)×Int×Unit)) {β:Type} (kA:(Int×(List (Int×UInt64×Int×Bool×(List UInt8)×Int×Unit)))->Option β) (kO:((List (Int×UInt64×Int×Bool×(List UInt8)×Int×Unit)))->Option β):Option β:=
 (bif (decide (y93 < y92)) then (Option.bind (ix y91 y93) fun x104=>(Option.bind (T61 F) fun z105=>(Option.bind (gapp y100 ([(z105.1,z105.2.1,x104,z105.2.2.1,z105.2.2.2.1,z105.2.2.2.2,())]:List (Int×UInt64×Int×Bool×(List UInt8)×Int×Unit))) fun x106=>(kA ((w64 (y93 + (1:Int))),x106))))) else (kO y100))
def L20_4 (F:Nat) (y91:List Int) (y92:Int) (y93:Int) (y100:List (Int×UInt64×Int×Bool×(List UInt8)×Int×Unit)):Option ((Int×(List (Int×UInt64×Int×Bool×(List UInt8)×Int×Unit))) ⊕ ((List (Int×UInt64×Int×Bool×(List UInt8)×Int×Unit)))):=L20_4c F y91 y92 y93 y100 (fun s=>some (.inl s)) (fun z=>some (.inr z))
theorem L20_4n (F:Nat) (y91:List Int) (y92:Int) (y93:Int) (y100:List (Int×UInt64×Int×Bool×(List UInt8)×Int×Unit)) {β:Type} (kA:(Int×(List (Int×UInt64×Int×Bool×(List UInt8)×Int×Unit)))->Option β) (kO:((List (Int×UInt64×Int×Bool×(List UInt8)×Int×Unit)))->Option β):L20_4c F y91 y92 y93 y100 kA kO=(L20_4 F y91 y92 y93 y100).bind (elimS kA kO):=by
 simp only [L20_4,L20_4c,Option.bind_assoc,cond_bind,Option.bind_some,Option.bind_none,elimS_l,elimS_r,elimS_bind]
abbrev sA20_4:List Sh:=[(.pt 0 []),(.rw 1),(.ro .i),.i,.i]
abbrev sAp120_4:List Sh:=[(.pt 0 []),(.rw 1)]
abbrev sT20_4:List TSh:=[.blk 27 (.pr .i (.pr .i (.pr (.ro .i) (.pr (.ro (.pr .i (.pr .i (.pr .i (.pr (.pr .s (.pr .i (.pr .i .un))) (.pr .i (.pr .i (.pr .s (.pr .bo .un))))))))) (.pr (.ro (.pr .s (.pr .i (.pr .i (.pr .i (.pr .i (.pr (.sl (.pr .s (.pr .i (.pr .i .un)))) .un))))))) (.pr (.ro (.pr .s (.pr .i (.pr .i .un)))) .un)))))),.row 102 (.pr .i (.pr .u64 (.pr .i (.pr .bo (.pr .s (.pr .i .un))))))]
abbrev sTp120_4:List TSh:=[.blk 27 (.pr .i (.pr .i (.pr (.ro .i) (.pr (.ro (.pr .i (.pr .i (.pr .i (.pr (.pr .s (.pr .i (.pr .i .un))) (.pr .i (.pr .i (.pr .s (.pr .bo .un))))))))) (.pr (.ro (.pr .s (.pr .i (.pr .i (.pr .i (.pr .i (.pr (.sl (.pr .s (.pr .i (.pr .i .un)))) .un))))))) (.pr (.ro (.pr .s (.pr .i (.pr .i .un)))) .un)))))),.row 102 (.pr .i (.pr .u64 (.pr .i (.pr .bo (.pr .s (.pr .i .un))))))]
def lc20_4 (F:Nat):Lc:=mkL [1,4,28,29,30] sA20_4 sT20_4 [1,4] sAp120_4 sTp120_4 F (fun x y (s:Int×(List (Int×UInt64×Int×Bool×(List UInt8)×Int×Unit)))=>L20_4 F x.2.2.1 x.2.2.2.1 s.1 s.2) (fun x y=>(x.2.2.2.2.1,y.2.1)) (fun x y (z:(List (Int×UInt64×Int×Bool×(List UInt8)×Int×Unit)))=>(((),(),()),((y.1.1,y.1.2.1,y.1.2.2.1,y.1.2.2.2.1,y.1.2.2.2.2.1,y.1.2.2.2.2.2.1,()),z,())))
theorem le20_4 (F:Nat) (x:dens sA20_4) (y:tdens sT20_4) (s:Int×(List (Int×UInt64×Int×Bool×(List UInt8)×Int×Unit))):sev (E20 F) 0 [] (cAt (bodyOf Tryz.f20) (0 :: 0 :: [1,0,1,1,1])) (0 :: 0 :: [1,0,1,1,1]) (mkSt [1,4,28,29,30] sA20_4 sT20_4 ((),(),x.2.2.1,x.2.2.2.1,s.1,()) ((y.1.1,y.1.2.1,y.1.2.2.1,y.1.2.2.2.1,y.1.2.2.2.2.1,y.1.2.2.2.2.2.1,()),s.2,())) (kLoop 0 [1,4,28,29,30] sA20_4 sT20_4 [1,4] sAp120_4 sTp120_4 [] [] [] 0 (fun x y=>some (.inl (x,y))) (fun x y=>some (.inr (.inl (x,y)))) (fun x y=>some (.inr (.inr (x,y))))) =
  L20_4c (β:=Full sA20_4 sT20_4 sAp120_4 sTp120_4 [] []) F x.2.2.1 x.2.2.2.1 s.1 s.2 (fun s=>some (.inl (((),(),x.2.2.1,x.2.2.2.1,s.1,()),((y.1.1,y.1.2.1,y.1.2.2.1,y.1.2.2.2.1,y.1.2.2.2.2.1,y.1.2.2.2.2.2.1,()),s.2,())))) (fun z=>some (.inr (.inl (((),(),()),((y.1.1,y.1.2.1,y.1.2.2.1,y.1.2.2.2.1,y.1.2.2.2.2.1,y.1.2.2.2.2.2.1,()),z,()))))):=by kernel_rfl
theorem lo20_4 (F:Nat):LcOk Tryz.prog (E20 F) 0 (lc20_4 F) (cAt (bodyOf Tryz.f20) [1,0,1,1,1]):=
 mkL_ok (lp:=[]) (id:=0) (b:=cAt (bodyOf Tryz.f20) (0 :: 0 :: [1,0,1,1,1])) cok (cts20 F) mixed trivial (by kernel_rfl) (by kernel_rfl) (fun x y s=>((),(),x.2.2.1,x.2.2.2.1,s.1,())) (fun x y s=>((y.1.1,y.1.2.1,y.1.2.2.1,y.1.2.2.2.1,y.1.2.2.2.2.1,y.1.2.2.2.2.2.1,()),s.2,())) (fun x y=>rfl) (fun x y=>rfl) (fun x y s kA kO=>L20_4c F x.2.2.1 x.2.2.2.1 s.1 s.2 kA kO) (fun x y s kA kO=>L20_4n F x.2.2.1 x.2.2.2.1 s.1 s.2 kA kO) (le20_4 F)
def L20_5c (F:Nat) (y110:List (Int×Int×Int×((List UInt8)×Int×Int×Unit)×Int×Int×(List UInt8)×Bool×Unit)) (y111:Int) (y112:Int) (y119:List (Int×UInt64×Int×Bool×(List UInt8)×Int×Unit)) {β:Type} (kA:(Int×(List (Int×UInt64×Int×Bool×(List UInt8)×Int×Unit)))->Option β) (kO:((List (Int×UInt64×Int×Bool×(List UInt8)×Int×Unit)))->Option β):Option β:=
 (bif (decide (y112 < y111)) then (Option.bind (ix y110 y112) fun x130=>(Option.bind (T61 F) fun z131=>(Option.bind (T61 F) fun z132=>(Option.bind (T61 F) fun z133=>(Option.bind (gapp y119 ([(z131.1,z131.2.1,x130.1,z131.2.2.1,z131.2.2.2.1,z131.2.2.2.2,()),(z132.1,z132.2.1,x130.2.1,z132.2.2.1,z132.2.2.2.1,z132.2.2.2.2,()),(z133.1,z133.2.1,x130.2.2.1,z133.2.2.1,z133.2.2.2.1,z133.2.2.2.2,())]:List (Int×UInt64×Int×Bool×(List UInt8)×Int×Unit))) fun x134=>(Option.bind (T63 F x130.2.2.2.1.1 x130.2.2.2.1.2.1 x130.2.2.2.1.2.2.1) fun z135=>(Option.bind (gapp x134 z135) fun x136=>(Option.bind (T61 F) fun z137=>(Option.bind (T61 F) fun z138=>(Option.bind (gapp x136 ([(z137.1,z137.2.1,x130.2.2.2.2.1,z137.2.2.1,z137.2.2.2.1,z137.2.2.2.2,()),(z138.1,z138.2.1,x130.2.2.2.2.2.1,z138.2.2.1,z138.2.2.2.1,z138.2.2.2.2,()),((5:Int),(0:UInt64),(0:Int),false,x130.2.2.2.2.2.2.1,(0:Int),()),((3:Int),(0:UInt64),(0:Int),x130.2.2.2.2.2.2.2.1,([]:List UInt8),(0:Int),())]:List (Int×UInt64×Int×Bool×(List UInt8)×Int×Unit))) fun x139=>(kA ((w64 (y112 + (1:Int))),x139)))))))))))) else (kO y119))
def L20_5 (F:Nat) (y110:List (Int×Int×Int×((List UInt8)×Int×Int×Unit)×Int×Int×(List UInt8)×Bool×Unit)) (y111:Int) (y112:Int) (y119:List (Int×UInt64×Int×Bool×(List UInt8)×Int×Unit)):Option ((Int×(List (Int×UInt64×Int×Bool×(List UInt8)×Int×Unit))) ⊕ ((List (Int×UInt64×Int×Bool×(List UInt8)×Int×Unit)))):=L20_5c F y110 y111 y112 y119 (fun s=>some (.inl s)) (fun z=>some (.inr z))
theorem L20_5n (F:Nat) (y110:List (Int×Int×Int×((List UInt8)×Int×Int×Unit)×Int×Int×(List UInt8)×Bool×Unit)) (y111:Int) (y112:Int) (y119:List (Int×UInt64×Int×Bool×(List UInt8)×Int×Unit)) {β:Type} (kA:(Int×(List (Int×UInt64×Int×Bool×(List UInt8)×Int×Unit)))->Option β) (kO:((List (Int×UInt64×Int×Bool×(List UInt8)×Int×Unit)))->Option β):L20_5c F y110 y111 y112 y119 kA kO=(L20_5 F y110 y111 y112 y119).bind (elimS kA kO):=by
 simp only [L20_5,L20_5c,Option.bind_assoc,cond_bind,Option.bind_some,Option.bind_none,elimS_l,elimS_r,elimS_bind]
abbrev sA20_5:List Sh:=[(.pt 0 []),(.rw 1),(.ro (.pr .i (.pr .i (.pr .i (.pr (.pr .s (.pr .i (.pr .i .un))) (.pr .i (.pr .i (.pr .s (.pr .bo .un))))))))),.i,.i]
abbrev sAp120_5:List Sh:=[(.pt 0 []),(.rw 1)]
abbrev sT20_5:List TSh:=[.blk 27 (.pr .i (.pr .i (.pr (.ro .i) (.pr (.ro (.pr .i (.pr .i (.pr .i (.pr (.pr .s (.pr .i (.pr .i .un))) (.pr .i (.pr .i (.pr .s (.pr .bo .un))))))))) (.pr (.ro (.pr .s (.pr .i (.pr .i (.pr .i (.pr .i (.pr (.sl (.pr .s (.pr .i (.pr .i .un)))) .un))))))) (.pr (.ro (.pr .s (.pr .i (.pr .i .un)))) .un)))))),.row 102 (.pr .i (.pr .u64 (.pr .i (.pr .bo (.pr .s (.pr .i .un))))))]
abbrev sTp120_5:List TSh:=[.blk 27 (.pr .i (.pr .i (.pr (.ro .i) (.pr (.ro (.pr .i (.pr .i (.pr .i (.pr (.pr .s (.pr .i (.pr .i .un))) (.pr .i (.pr .i (.pr .s (.pr .bo .un))))))))) (.pr (.ro (.pr .s (.pr .i (.pr .i (.pr .i (.pr .i (.pr (.sl (.pr .s (.pr .i (.pr .i .un)))) .un))))))) (.pr (.ro (.pr .s (.pr .i (.pr .i .un)))) .un)))))),.row 102 (.pr .i (.pr .u64 (.pr .i (.pr .bo (.pr .s (.pr .i .un))))))]
def lc20_5 (F:Nat):Lc:=mkL [1,4,48,49,50] sA20_5 sT20_5 [1,4] sAp120_5 sTp120_5 F (fun x y (s:Int×(List (Int×UInt64×Int×Bool×(List UInt8)×Int×Unit)))=>L20_5 F x.2.2.1 x.2.2.2.1 s.1 s.2) (fun x y=>(x.2.2.2.2.1,y.2.1)) (fun x y (z:(List (Int×UInt64×Int×Bool×(List UInt8)×Int×Unit)))=>(((),(),()),((y.1.1,y.1.2.1,y.1.2.2.1,y.1.2.2.2.1,y.1.2.2.2.2.1,y.1.2.2.2.2.2.1,()),z,())))
theorem le20_5 (F:Nat) (x:dens sA20_5) (y:tdens sT20_5) (s:Int×(List (Int×UInt64×Int×Bool×(List UInt8)×Int×Unit))):sev (E20 F) 0 [] (cAt (bodyOf Tryz.f20) (0 :: 0 :: [1,0,1,1,1,1,1])) (0 :: 0 :: [1,0,1,1,1,1,1]) (mkSt [1,4,48,49,50] sA20_5 sT20_5 ((),(),x.2.2.1,x.2.2.2.1,s.1,()) ((y.1.1,y.1.2.1,y.1.2.2.1,y.1.2.2.2.1,y.1.2.2.2.2.1,y.1.2.2.2.2.2.1,()),s.2,())) (kLoop 0 [1,4,48,49,50] sA20_5 sT20_5 [1,4] sAp120_5 sTp120_5 [] [] [] 2 (fun x y=>some (.inl (x,y))) (fun x y=>some (.inr (.inl (x,y)))) (fun x y=>some (.inr (.inr (x,y))))) =
  L20_5c (β:=Full sA20_5 sT20_5 sAp120_5 sTp120_5 [] []) F x.2.2.1 x.2.2.2.1 s.1 s.2 (fun s=>some (.inl (((),(),x.2.2.1,x.2.2.2.1,s.1,()),((y.1.1,y.1.2.1,y.1.2.2.1,y.1.2.2.2.1,y.1.2.2.2.2.1,y.1.2.2.2.2.2.1,()),s.2,())))) (fun z=>some (.inr (.inl (((),(),()),((y.1.1,y.1.2.1,y.1.2.2.1,y.1.2.2.2.1,y.1.2.2.2.2.1,y.1.2.2.2.2.2.1,()),z,()))))):=by kernel_rfl
theorem lo20_5 (F:Nat):LcOk Tryz.prog (E20 F) 0 (lc20_5 F) (cAt (bodyOf Tryz.f20) [1,0,1,1,1,1,1]):=
 mkL_ok (lp:=[]) (id:=2) (b:=cAt (bodyOf Tryz.f20) (0 :: 0 :: [1,0,1,1,1,1,1])) cok (cts20 F) mixed trivial (by kernel_rfl) (by kernel_rfl) (fun x y s=>((),(),x.2.2.1,x.2.2.2.1,s.1,())) (fun x y s=>((y.1.1,y.1.2.1,y.1.2.2.1,y.1.2.2.2.1,y.1.2.2.2.2.1,y.1.2.2.2.2.2.1,()),s.2,())) (fun x y=>rfl) (fun x y=>rfl) (fun x y s kA kO=>L20_5c F x.2.2.1 x.2.2.2.1 s.1 s.2 kA kO) (fun x y s kA kO=>L20_5n F x.2.2.1 x.2.2.2.1 s.1 s.2 kA kO) (le20_5 F)
def L20_6c (F:Nat) (y143:List ((List UInt8)×Int×Int×Int×Int×(List ((List UInt8)×Int×Int×Unit))×Unit)) (y144:Int) (y145:Int) (y152:List (Int×UInt64×Int×Bool×(List UInt8)×Int×Unit)) {β:Type} (kA:(Int×(List (Int×UInt64×Int×Bool×(List UInt8)×Int×Unit)))->Option β) (kO:((List (Int×UInt64×Int×Bool×(List UInt8)×Int×Unit)))->Option β):Option β:=
 (bif (decide (y145 < y144)) then (Option.bind (ix y143 y145) fun x161=>(Option.bind (T61 F) fun z162=>(Option.bind (T61 F) fun z163=>(Option.bind (T61 F) fun z164=>(Option.bind (T61 F) fun z165=>(Option.bind (gapp y152 ([((6:Int),(0:UInt64),(0:Int),false,x161.1,(0:Int),()),(z162.1,z162.2.1,x161.2.1,z162.2.2.1,z162.2.2.2.1,z162.2.2.2.2,()),(z163.1,z163.2.1,x161.2.2.1,z163.2.2.1,z163.2.2.2.1,z163.2.2.2.2,()),(z164.1,z164.2.1,x161.2.2.2.1,z164.2.2.1,z164.2.2.2.1,z164.2.2.2.2,()),(z165.1,z165.2.1,x161.2.2.2.2.1,z165.2.2.1,z165.2.2.2.1,z165.2.2.2.2,())]:List (Int×UInt64×Int×Bool×(List UInt8)×Int×Unit))) fun x166=>(Option.bind (T64 F x161.2.2.2.2.2.1) fun z167=>(Option.bind (gapp x166 z167) fun x168=>(kA ((w64 (y145 + (1:Int))),x168)))))))))) else (kO y152))
def L20_6 (F:Nat) (y143:List ((List UInt8)×Int×Int×Int×Int×(List ((List UInt8)×Int×Int×Unit))×Unit)) (y144:Int) (y145:Int) (y152:List (Int×UInt64×Int×Bool×(List UInt8)×Int×Unit)):Option ((Int×(List (Int×UInt64×Int×Bool×(List UInt8)×Int×Unit))) ⊕ ((List (Int×UInt64×Int×Bool×(List UInt8)×Int×Unit)))):=L20_6c F y143 y144 y145 y152 (fun s=>some (.inl s)) (fun z=>some (.inr z))
theorem L20_6n (F:Nat) (y143:List ((List UInt8)×Int×Int×Int×Int×(List ((List UInt8)×Int×Int×Unit))×Unit)) (y144:Int) (y145:Int) (y152:List (Int×UInt64×Int×Bool×(List UInt8)×Int×Unit)) {β:Type} (kA:(Int×(List (Int×UInt64×Int×Bool×(List UInt8)×Int×Unit)))->Option β) (kO:((List (Int×UInt64×Int×Bool×(List UInt8)×Int×Unit)))->Option β):L20_6c F y143 y144 y145 y152 kA kO=(L20_6 F y143 y144 y145 y152).bind (elimS kA kO):=by
 simp only [L20_6,L20_6c,Option.bind_assoc,cond_bind,Option.bind_some,Option.bind_none,elimS_l,elimS_r,elimS_bind]
abbrev sA20_6:List Sh:=[(.pt 0 []),(.rw 1),(.ro (.pr .s (.pr .i (.pr .i (.pr .i (.pr .i (.pr (.sl (.pr .s (.pr .i (.pr .i .un)))) .un))))))),.i,.i]
abbrev sAp120_6:List Sh:=[(.pt 0 []),(.rw 1)]
abbrev sT20_6:List TSh:=[.blk 27 (.pr .i (.pr .i (.pr (.ro .i) (.pr (.ro (.pr .i (.pr .i (.pr .i (.pr (.pr .s (.pr .i (.pr .i .un))) (.pr .i (.pr .i (.pr .s (.pr .bo .un))))))))) (.pr (.ro (.pr .s (.pr .i (.pr .i (.pr .i (.pr .i (.pr (.sl (.pr .s (.pr .i (.pr .i .un)))) .un))))))) (.pr (.ro (.pr .s (.pr .i (.pr .i .un)))) .un)))))),.row 102 (.pr .i (.pr .u64 (.pr .i (.pr .bo (.pr .s (.pr .i .un))))))]
abbrev sTp120_6:List TSh:=[.blk 27 (.pr .i (.pr .i (.pr (.ro .i) (.pr (.ro (.pr .i (.pr .i (.pr .i (.pr (.pr .s (.pr .i (.pr .i .un))) (.pr .i (.pr .i (.pr .s (.pr .bo .un))))))))) (.pr (.ro (.pr .s (.pr .i (.pr .i (.pr .i (.pr .i (.pr (.sl (.pr .s (.pr .i (.pr .i .un)))) .un))))))) (.pr (.ro (.pr .s (.pr .i (.pr .i .un)))) .un)))))),.row 102 (.pr .i (.pr .u64 (.pr .i (.pr .bo (.pr .s (.pr .i .un))))))]
def lc20_6 (F:Nat):Lc:=mkL [1,4,95,96,97] sA20_6 sT20_6 [1,4] sAp120_6 sTp120_6 F (fun x y (s:Int×(List (Int×UInt64×Int×Bool×(List UInt8)×Int×Unit)))=>L20_6 F x.2.2.1 x.2.2.2.1 s.1 s.2) (fun x y=>(x.2.2.2.2.1,y.2.1)) (fun x y (z:(List (Int×UInt64×Int×Bool×(List UInt8)×Int×Unit)))=>(((),(),()),((y.1.1,y.1.2.1,y.1.2.2.1,y.1.2.2.2.1,y.1.2.2.2.2.1,y.1.2.2.2.2.2.1,()),z,())))
theorem le20_6 (F:Nat) (x:dens sA20_6) (y:tdens sT20_6) (s:Int×(List (Int×UInt64×Int×Bool×(List UInt8)×Int×Unit))):sev (E20 F) 0 [] (cAt (bodyOf Tryz.f20) (0 :: 0 :: [1,0,1,1,1,1,1,1,1])) (0 :: 0 :: [1,0,1,1,1,1,1,1,1]) (mkSt [1,4,95,96,97] sA20_6 sT20_6 ((),(),x.2.2.1,x.2.2.2.1,s.1,()) ((y.1.1,y.1.2.1,y.1.2.2.1,y.1.2.2.2.1,y.1.2.2.2.2.1,y.1.2.2.2.2.2.1,()),s.2,())) (kLoop 0 [1,4,95,96,97] sA20_6 sT20_6 [1,4] sAp120_6 sTp120_6 [] [] [] 4 (fun x y=>some (.inl (x,y))) (fun x y=>some (.inr (.inl (x,y)))) (fun x y=>some (.inr (.inr (x,y))))) =
  L20_6c (β:=Full sA20_6 sT20_6 sAp120_6 sTp120_6 [] []) F x.2.2.1 x.2.2.2.1 s.1 s.2 (fun s=>some (.inl (((),(),x.2.2.1,x.2.2.2.1,s.1,()),((y.1.1,y.1.2.1,y.1.2.2.1,y.1.2.2.2.1,y.1.2.2.2.2.1,y.1.2.2.2.2.2.1,()),s.2,())))) (fun z=>some (.inr (.inl (((),(),()),((y.1.1,y.1.2.1,y.1.2.2.1,y.1.2.2.2.1,y.1.2.2.2.2.1,y.1.2.2.2.2.2.1,()),z,()))))):=by kernel_rfl
theorem lo20_6 (F:Nat):LcOk Tryz.prog (E20 F) 0 (lc20_6 F) (cAt (bodyOf Tryz.f20) [1,0,1,1,1,1,1,1,1]):=
 mkL_ok (lp:=[]) (id:=4) (b:=cAt (bodyOf Tryz.f20) (0 :: 0 :: [1,0,1,1,1,1,1,1,1])) cok (cts20 F) mixed trivial (by kernel_rfl) (by kernel_rfl) (fun x y s=>((),(),x.2.2.1,x.2.2.2.1,s.1,())) (fun x y s=>((y.1.1,y.1.2.1,y.1.2.2.1,y.1.2.2.2.1,y.1.2.2.2.2.1,y.1.2.2.2.2.2.1,()),s.2,())) (fun x y=>rfl) (fun x y=>rfl) (fun x y s kA kO=>L20_6c F x.2.2.1 x.2.2.2.1 s.1 s.2 kA kO) (fun x y s kA kO=>L20_6n F x.2.2.1 x.2.2.2.1 s.1 s.2 kA kO) (le20_6 F)
def T20c (F:Nat) (p0:Int) (p1:Int) (p2:List Int) (p3:List (Int×Int×Int×((List UInt8)×Int×Int×Unit)×Int×Int×(List UInt8)×Bool×Unit)) (p4:List ((List UInt8)×Int×Int×Int×Int×(List ((List UInt8)×Int×Int×Unit))×Unit)) (p5:List ((List UInt8)×Int×Int×Unit)) {β:Type} (k:(Int×(List UInt8))->Option β):Option β:=
 (Option.bind (T60 F p0 p1 p2 p3 p4 p5) fun z87=>(bif (!z87) then (k ((1:Int),([]:List UInt8))) else (Option.bind (T61 F) fun z88=>(Option.bind (T61 F) fun z89=>(Option.bind (T62 F) fun z90=>(Option.bind (iter (fun s=>L20_4 F p2 (p2.length:Int) s.1 s.2) F ((0:Int),([(z88.1,z88.2.1,p0,z88.2.2.1,z88.2.2.2.1,z88.2.2.2.2,()),(z89.1,z89.2.1,p1,z89.2.2.1,z89.2.2.2.1,z89.2.2.2.2,()),(z90.1,z90.2.1,(p2.length:Int),z90.2.2.1,z90.2.2.2.1,z90.2.2.2.2,())]:List (Int×UInt64×Int×Bool×(List UInt8)×Int×Unit)))) fun z107=>(Option.bind (T62 F) fun z108=>(Option.bind (gapp z107 ([(z108.1,z108.2.1,(p3.length:Int),z108.2.2.1,z108.2.2.2.1,z108.2.2.2.2,())]:List (Int×UInt64×Int×Bool×(List UInt8)×Int×Unit))) fun x109=>(Option.bind (iter (fun s=>L20_5 F p3 (p3.length:Int) s.1 s.2) F ((0:Int),x109)) fun z140=>(Option.bind (T62 F) fun z141=>(Option.bind (gapp z140 ([(z141.1,z141.2.1,(p4.length:Int),z141.2.2.1,z141.2.2.2.1,z141.2.2.2.2,())]:List (Int×UInt64×Int×Bool×(List UInt8)×Int×Unit))) fun x142=>(Option.bind (iter (fun s=>L20_6 F p4 (p4.length:Int) s.1 s.2) F ((0:Int),x142)) fun z169=>(Option.bind (T64 F p5) fun z170=>(Option.bind (gapp z169 z170) fun x171=>(Option.bind (T65 F x171) fun z172=>(bif (z172.1 != (0:Int)) then (k ((2:Int),([]:List UInt8))) else (bif (decide ((1048560:Int) < (z172.2.length:Int))) then (k ((2:Int),([]:List UInt8))) else (k ((0:Int),z172.2)))))))))))))))))))
def T20 (F:Nat) (p0:Int) (p1:Int) (p2:List Int) (p3:List (Int×Int×Int×((List UInt8)×Int×Int×Unit)×Int×Int×(List UInt8)×Bool×Unit)) (p4:List ((List UInt8)×Int×Int×Int×Int×(List ((List UInt8)×Int×Int×Unit))×Unit)) (p5:List ((List UInt8)×Int×Int×Unit)):Option (Int×(List UInt8)):=T20c F p0 p1 p2 p3 p4 p5 some
theorem T20n (F:Nat) (p0:Int) (p1:Int) (p2:List Int) (p3:List (Int×Int×Int×((List UInt8)×Int×Int×Unit)×Int×Int×(List UInt8)×Bool×Unit)) (p4:List ((List UInt8)×Int×Int×Int×Int×(List ((List UInt8)×Int×Int×Unit))×Unit)) (p5:List ((List UInt8)×Int×Int×Unit)) {β:Type} (k:(Int×(List UInt8))->Option β):T20c F p0 p1 p2 p3 p4 p5 k=(T20 F p0 p1 p2 p3 p4 p5).bind k:=by
 simp only [T20,T20c,Option.bind_assoc,cond_bind,Option.bind_some,Option.bind_none,elimS_bind]
abbrev cA20:List Sh:=[(.pr .i (.pr .i (.pr (.ro .i) (.pr (.ro (.pr .i (.pr .i (.pr .i (.pr (.pr .s (.pr .i (.pr .i .un))) (.pr .i (.pr .i (.pr .s (.pr .bo .un))))))))) (.pr (.ro (.pr .s (.pr .i (.pr .i (.pr .i (.pr .i (.pr (.sl (.pr .s (.pr .i (.pr .i .un)))) .un))))))) (.pr (.ro (.pr .s (.pr .i (.pr .i .un)))) .un))))))]
abbrev cB20:List Sh:=[(.rw 0),.i]
abbrev cT20:List TSh:=[]
abbrev cU20:List TSh:=[.row 5 .u8]
def ct20 (F:Nat):Ct:=mkC 0 cA20 cT20 cB20 cU20 (fun x y=>T20 F x.1.1 x.1.2.1 x.1.2.2.1 x.1.2.2.2.1 x.1.2.2.2.2.1 x.1.2.2.2.2.2.1) (fun x y (z:Int×(List UInt8))=>(((),z.1,()),(z.2,())))
theorem eq20 (F:Nat) (x:dens cA20) (y:tdens cT20):sev (E20 F) 0 [([1,0,1,1,1],lc20_4 F),([1,0,1,1,1,1,1],lc20_5 F),([1,0,1,1,1,1,1,1,1],lc20_6 F)] (bodyOf Tryz.f20) [] (mkSt (rng 1) cA20 cT20 x y) (kFn (E20 F) 0 Tryz.f20.results.toList cB20 cU20 fun p q=>some (p,q)) =
  T20c F x.1.1 x.1.2.1 x.1.2.2.1 x.1.2.2.2.1 x.1.2.2.2.2.1 x.1.2.2.2.2.2.1 (fun z=>some (((),z.1,()),(z.2,()))):=by kernel_rfl
theorem ok20 (F:Nat):Sound Tryz.prog cfg 20 (ct20 F):=
 mkC_ok (E:=E20 F) (lp:=[([1,0,1,1,1],lc20_4 F),([1,0,1,1,1,1,1],lc20_5 F),([1,0,1,1,1,1,1,1,1],lc20_6 F)]) (code:=bodyOf Tryz.f20) Tryz.func20 rfl Tryz.ntmps20 rfl rfl cok (cts20 F) mixed ⟨lo20_4 F,⟨lo20_5 F,⟨lo20_6 F,trivial⟩⟩⟩ (by kernel_rfl) (fun x y k=>T20c F x.1.1 x.1.2.1 x.1.2.2.1 x.1.2.2.2.1 x.1.2.2.2.2.1 x.1.2.2.2.2.2.1 k) (fun x y k=>T20n F x.1.1 x.1.2.1 x.1.2.2.1 x.1.2.2.2.1 x.1.2.2.2.2.1 x.1.2.2.2.2.2.1 k) (eq20 F)
def ord66:Nat->List (Tag×Nat)
 | _=>[]
def al66:Nat->Option Nat
 | _=>none
def ms66:Nat->Option (List (Option Tag×Nat×List Nat))
 | _=>none
def E66 (F:Nat):Ev:=⟨cfg,8,ctOf [],ord66,ctOf [],al66,ms66⟩
theorem cts66 (F:Nat):CtsOk Tryz.prog (E66 F):=cts_of (l:=[]) (l':=[]) rfl rfl trivial trivial
def T66c (F:Nat) (p0:List UInt8) {β:Type} (k:(Int×Int×Int×(List UInt8))->Option β):Option β:=
 (Option.bind (gapp ([]:List UInt8) p0) fun x2=>(k ((0:Int),(0:Int),(0:Int),x2)))
def T66 (F:Nat) (p0:List UInt8):Option (Int×Int×Int×(List UInt8)):=T66c F p0 some
theorem T66n (F:Nat) (p0:List UInt8) {β:Type} (k:(Int×Int×Int×(List UInt8))->Option β):T66c F p0 k=(T66 F p0).bind k:=by
 simp only [T66,T66c,Option.bind_assoc,cond_bind,Option.bind_some,Option.bind_none,elimS_bind]
abbrev cA66:List Sh:=[(.ro .u8)]
abbrev cB66:List Sh:=[(.pt 0 [])]
abbrev cT66:List TSh:=[]
abbrev cU66:List TSh:=[.blk 171 (.pr (.rw 1) (.pr .i (.pr .i (.pr .i .un)))),.row 5 .u8]
def ct66 (F:Nat):Ct:=mkC 0 cA66 cT66 cB66 cU66 (fun x y=>T66 F x.1) (fun x y (z:Int×Int×Int×(List UInt8))=>(((),()),(((),z.1,z.2.1,z.2.2.1,()),z.2.2.2,())))
theorem eq66 (F:Nat) (x:dens cA66) (y:tdens cT66):sev (E66 F) 0 [] (bodyOf Tryz.f66) [] (mkSt (rng 1) cA66 cT66 x y) (kFn (E66 F) 0 Tryz.f66.results.toList cB66 cU66 fun p q=>some (p,q)) =
  T66c F x.1 (fun z=>some (((),()),(((),z.1,z.2.1,z.2.2.1,()),z.2.2.2,()))):=by kernel_rfl
theorem ok66 (F:Nat):Sound Tryz.prog cfg 66 (ct66 F):=
 mkC_ok (E:=E66 F) (lp:=[]) (code:=bodyOf Tryz.f66) Tryz.func66 rfl Tryz.ntmps66 rfl rfl cok (cts66 F) mixed trivial (by kernel_rfl) (fun x y k=>T66c F x.1 k) (fun x y k=>T66n F x.1 k) (eq66 F)
def ord162:Nat->List (Tag×Nat)
 | 4=>[(.p,0),(.p,1),(.p,2),(.r,3),(.p,4),(.p,5),(.p,6),(.r,7),(.p,8),(.p,9)]
 | 6=>[(.p,0),(.p,1),(.p,2),(.r,3),(.p,4),(.p,5),(.p,6),(.r,7),(.p,8),(.r,9),(.p,10)]
 | _=>[]
def al162:Nat->Option Nat
 | _=>none
def ms162:Nat->Option (List (Option Tag×Nat×List Nat))
 | _=>none
def E162 (F:Nat):Ev:=⟨cfg,62,ctOf [],ord162,ctOf [],al162,ms162⟩
theorem cts162 (F:Nat):CtsOk Tryz.prog (E162 F):=cts_of (l:=[]) (l':=[]) rfl rfl trivial trivial
def L162_2c (F:Nat) (y19:List UInt8) (y14:UInt64) (y15:Int) (y16:Int) {β:Type} (kA:(UInt64×Int×Int)->Option β) (kO:Int->Option β) (kR:(UInt64×Int×Int)->Option β):Option β:=
 (bif (decide (y15 < (10:Int))) then (bif (y16 == (y19.length:Int)) then (kR ((UInt64.ofNat 0),(3:Int),y16)) else (Option.bind (inb y19.length y16) fun x23=>(Option.bind (y19[x23]?) fun x24=>(Option.bind (gnn (w64 ((7:Int) * y15))) fun x25=>(bif (decide ((UInt8.ofNat 128)≤x24)) then (kA ((y14 ||| (shl64 ((x24 &&& (UInt8.ofNat 127)).toUInt64) x25)),(w64 (y15 + (1:Int))),(w64 (y16 + (1:Int))))) else (bif (decide ((0:Int) < y15)) then (bif (x24 == (UInt8.ofNat 0)) then (kR ((UInt64.ofNat 0),(3:Int),(w64 (y16 + (1:Int))))) else (bif (y15 == (9:Int)) then (bif (decide ((UInt8.ofNat 1) < x24)) then (kR ((UInt64.ofNat 0),(3:Int),(w64 (y16 + (1:Int))))) else (kR ((y14 ||| (shl64 ((x24 &&& (UInt8.ofNat 127)).toUInt64) x25)),(0:Int),(w64 (y16 + (1:Int)))))) else (kR ((y14 ||| (shl64 ((x24 &&& (UInt8.ofNat 127)).toUInt64) x25)),(0:Int),(w64 (y16 + (1:Int))))))) else (bif (y15 == (9:Int)) then (bif (decide ((UInt8.ofNat 1) < x24)) then (kR ((UInt64.ofNat 0),(3:Int),(w64 (y16 + (1:Int))))) else (kR ((y14 ||| (shl64 ((x24 &&& (UInt8.ofNat 127)).toUInt64) x25)),(0:Int),(w64 (y16 + (1:Int)))))) else (kR ((y14 ||| (shl64 ((x24 &&& (UInt8.ofNat 127)).toUInt64) x25)),(0:Int),(w64 (y16 + (1:Int)))))))))))) else (kO y16))
def L162_2 (F:Nat) (y19:List UInt8) (y14:UInt64) (y15:Int) (y16:Int):Option ((UInt64×Int×Int) ⊕ ((Int) ⊕ (UInt64×Int×Int))):=L162_2c F y19 y14 y15 y16 (fun s=>some (.inl s)) (fun z=>some (.inr (.inl z))) (fun z=>some (.inr (.inr z)))
theorem L162_2n (F:Nat) (y19:List UInt8) (y14:UInt64) (y15:Int) (y16:Int) {β:Type} (kA:(UInt64×Int×Int)->Option β) (kO:Int->Option β) (kR:(UInt64×Int×Int)->Option β):L162_2c F y19 y14 y15 y16 kA kO kR=(L162_2 F y19 y14 y15 y16).bind (elimS kA (elimS kO kR)):=by
 simp only [L162_2,L162_2c,Option.bind_assoc,cond_bind,Option.bind_some,Option.bind_none,elimS_l,elimS_r,elimS_bind]
abbrev sA162_2:List Sh:=[(.pt 0 []),.u64,.i]
abbrev sAp1162_2:List Sh:=[]
abbrev sAp2162_2:List Sh:=[.u64,.i]
abbrev sT162_2:List TSh:=[.blk 171 (.pr (.rw 1) (.pr .i (.pr .i (.pr .i .un)))),.row 5 .u8]
abbrev sTp1162_2:List TSh:=[.blk 171 (.pr (.rw 1) (.pr .i (.pr .i (.pr .i .un)))),.row 5 .u8]
abbrev sTp2162_2:List TSh:=[.blk 171 (.pr (.rw 1) (.pr .i (.pr .i (.pr .i .un)))),.row 5 .u8]
def lc162_2 (F:Nat):Lc:=mkR [0,2,6] sA162_2 sT162_2 [] sAp1162_2 sTp1162_2 [2,3] sAp2162_2 sTp2162_2 F (fun x y (s:UInt64×Int×Int)=>L162_2 F y.2.1 s.1 s.2.1 s.2.2) (fun x y=>(x.2.1,x.2.2.1,y.1.2.1)) (fun x y (z:Int)=>((),(((),z,y.1.2.2.1,y.1.2.2.2.1,()),y.2.1,()))) (fun x y (z:UInt64×Int×Int)=>((z.1,z.2.1,()),(((),z.2.2,y.1.2.2.1,y.1.2.2.2.1,()),y.2.1,())))
theorem le162_2 (F:Nat) (x:dens sA162_2) (y:tdens sT162_2) (s:UInt64×Int×Int):sev (E162 F) 2 [] (cAt (bodyOf Tryz.f162) (0 :: 0 :: [1,0,1])) (0 :: 0 :: [1,0,1]) (mkSt [0,2,6] sA162_2 sT162_2 ((),s.1,s.2.1,()) (((),s.2.2,y.1.2.2.1,y.1.2.2.2.1,()),y.2.1,())) (kLoop 2 [0,2,6] sA162_2 sT162_2 [] sAp1162_2 sTp1162_2 [2,3] sAp2162_2 sTp2162_2 0 (fun x y=>some (.inl (x,y))) (fun x y=>some (.inr (.inl (x,y)))) (fun x y=>some (.inr (.inr (x,y))))) =
  L162_2c (β:=Full sA162_2 sT162_2 sAp1162_2 sTp1162_2 sAp2162_2 sTp2162_2) F y.2.1 s.1 s.2.1 s.2.2 (fun s=>some (.inl (((),s.1,s.2.1,()),(((),s.2.2,y.1.2.2.1,y.1.2.2.2.1,()),y.2.1,())))) (fun z=>some (.inr (.inl ((),(((),z,y.1.2.2.1,y.1.2.2.2.1,()),y.2.1,()))))) (fun z=>some (.inr (.inr ((z.1,z.2.1,()),(((),z.2.2,y.1.2.2.1,y.1.2.2.2.1,()),y.2.1,()))))):=by kernel_rfl
theorem lo162_2 (F:Nat):LcOk Tryz.prog (E162 F) 2 (lc162_2 F) (cAt (bodyOf Tryz.f162) [1,0,1]):=
 mkR_ok (lp:=[]) (id:=0) (b:=cAt (bodyOf Tryz.f162) (0 :: 0 :: [1,0,1])) cok (cts162 F) mixed trivial (by kernel_rfl) (by kernel_rfl) (fun x y s=>((),s.1,s.2.1,())) (fun x y s=>(((),s.2.2,y.1.2.2.1,y.1.2.2.2.1,()),y.2.1,())) (fun x y=>rfl) (fun x y=>rfl) (fun x y s kA kO kR=>L162_2c F y.2.1 s.1 s.2.1 s.2.2 kA kO kR) (fun x y s kA kO kR=>L162_2n F y.2.1 s.1 s.2.1 s.2.2 kA kO kR) (le162_2 F)
def T162c (F:Nat) (p0:Int) (p3:List UInt8) {β:Type} (k:(UInt64×Int×Int)->Option β):Option β:=
 (Option.bind (iter (fun s=>L162_2 F p3 s.1 s.2.1 s.2.2) F ((UInt64.ofNat 0),(0:Int),p0)) fun z26=>elimS (fun z26=>(k ((UInt64.ofNat 0),(3:Int),z26))) (fun z26=>(k (z26.1,z26.2.1,z26.2.2))) z26)
def T162 (F:Nat) (p0:Int) (p3:List UInt8):Option (UInt64×Int×Int):=T162c F p0 p3 some
theorem T162n (F:Nat) (p0:Int) (p3:List UInt8) {β:Type} (k:(UInt64×Int×Int)->Option β):T162c F p0 p3 k=(T162 F p0 p3).bind k:=by
 simp only [T162,T162c,Option.bind_assoc,cond_bind,Option.bind_some,Option.bind_none,elimS_bind]
abbrev cA162:List Sh:=[(.pt 0 [])]
abbrev cB162:List Sh:=[.u64,.i]
abbrev cT162:List TSh:=[.blk 171 (.pr (.rw 1) (.pr .i (.pr .i (.pr .i .un)))),.row 5 .u8]
abbrev cU162:List TSh:=[.blk 171 (.pr (.rw 1) (.pr .i (.pr .i (.pr .i .un)))),.row 5 .u8]
def ct162 (F:Nat):Ct:=mkC 2 cA162 cT162 cB162 cU162 (fun x y=>T162 F y.1.2.1 y.2.1) (fun x y (z:UInt64×Int×Int)=>((z.1,z.2.1,()),(((),z.2.2,y.1.2.2.1,y.1.2.2.2.1,()),y.2.1,())))
theorem eq162 (F:Nat) (x:dens cA162) (y:tdens cT162):sev (E162 F) 2 [([1,0,1],lc162_2 F)] (bodyOf Tryz.f162) [] (mkSt (rng 1) cA162 cT162 x y) (kFn (E162 F) 2 Tryz.f162.results.toList cB162 cU162 fun p q=>some (p,q)) =
  T162c F y.1.2.1 y.2.1 (fun z=>some ((z.1,z.2.1,()),(((),z.2.2,y.1.2.2.1,y.1.2.2.2.1,()),y.2.1,()))):=by kernel_rfl
theorem ok162 (F:Nat):Sound Tryz.prog cfg 162 (ct162 F):=
 mkC_ok (E:=E162 F) (lp:=[([1,0,1],lc162_2 F)]) (code:=bodyOf Tryz.f162) Tryz.func162 rfl Tryz.ntmps162 rfl rfl cok (cts162 F) mixed ⟨lo162_2 F,trivial⟩ (by kernel_rfl) (fun x y k=>T162c F y.1.2.1 y.2.1 k) (fun x y k=>T162n F y.1.2.1 y.2.1 k) (eq162 F)
def ord197:Nat->List (Tag×Nat)
 | _=>[]
def al197:Nat->Option Nat
 | _=>none
def ms197:Nat->Option (List (Option Tag×Nat×List Nat))
 | _=>none
def E197 (F:Nat):Ev:=⟨cfg,18,ctOf [],ord197,ctOf [],al197,ms197⟩
theorem cts197 (F:Nat):CtsOk Tryz.prog (E197 F):=cts_of (l:=[]) (l':=[]) rfl rfl trivial trivial
def T197c (F:Nat) (p0:Int) (p1:UInt64) (p2:Int) (p4:Int) {β:Type} (k:(UInt64×Int)->Option β):Option β:=
 (bif (p4 != (0:Int)) then (k ((UInt64.ofNat 0),p0)) else (k (p1,p2)))
def T197 (F:Nat) (p0:Int) (p1:UInt64) (p2:Int) (p4:Int):Option (UInt64×Int):=T197c F p0 p1 p2 p4 some
theorem T197n (F:Nat) (p0:Int) (p1:UInt64) (p2:Int) (p4:Int) {β:Type} (k:(UInt64×Int)->Option β):T197c F p0 p1 p2 p4 k=(T197 F p0 p1 p2 p4).bind k:=by
 simp only [T197,T197c,Option.bind_assoc,cond_bind,Option.bind_some,Option.bind_none,elimS_bind]
abbrev cA197:List Sh:=[(.re .i),(.pt 0 []),(.pt 1 [])]
abbrev cB197:List Sh:=[]
abbrev cT197:List TSh:=[.blk 108 (.pt 2 []),.blk 100 .u64,.blk 171 (.pr (.rw 3) (.pr .i (.pr .i (.pr .i .un)))),.row 5 .u8]
abbrev cU197:List TSh:=[.blk 108 (.pt 2 []),.blk 100 .u64,.blk 171 (.pr (.rw 3) (.pr .i (.pr .i (.pr .i .un)))),.row 5 .u8]
def ct197 (F:Nat):Ct:=mkC 4 cA197 cT197 cB197 cU197 (fun x y=>T197 F x.1 y.2.1 y.2.2.1.2.1 y.2.2.1.2.2.2.1) (fun x y (z:UInt64×Int)=>((),((),z.1,((),z.2,x.1,y.2.2.1.2.2.2.1,()),y.2.2.2.1,())))
theorem eq197 (F:Nat) (x:dens cA197) (y:tdens cT197):sev (E197 F) 4 [] (bodyOf Tryz.f197) [] (mkSt (rng 3) cA197 cT197 x y) (kFn (E197 F) 4 Tryz.f197.results.toList cB197 cU197 fun p q=>some (p,q)) =
  T197c F x.1 y.2.1 y.2.2.1.2.1 y.2.2.1.2.2.2.1 (fun z=>some ((),((),z.1,((),z.2,x.1,y.2.2.1.2.2.2.1,()),y.2.2.2.1,()))):=by kernel_rfl
theorem okd197 (F:Nat):SoundK Tryz.prog cfg true 197 (ct197 F):=
 mkC_okK (E:=E197 F) true (fun _ _=>rfl) (lp:=[]) (code:=bodyOf Tryz.f197) Tryz.func197 rfl Tryz.ntmps197 rfl rfl cok (cts197 F) mixed trivial (by kernel_rfl) (fun x y k=>T197c F x.1 y.2.1 y.2.2.1.2.1 y.2.2.1.2.2.2.1 k) (fun x y k=>T197n F x.1 y.2.1 y.2.2.1.2.1 y.2.2.1.2.2.2.1 k) (eq197 F)
def ord161:Nat->List (Tag×Nat)
 | 5=>[(.c,0),(.p,1),(.w,2),(.p,3),(.p,4),(.p,5),(.w,6),(.p,7),(.p,8),(.b,9)]
 | _=>[]
def al161:Nat->Option Nat
 | _=>none
def ms161:Nat->Option (List (Option Tag×Nat×List Nat))
 | _=>none
def E161 (F:Nat):Ev:=⟨cfg,26,ctOf [(162,ct162 F)],ord161,ctOf [(197,ct197 F)],al161,ms161⟩
theorem cts161 (F:Nat):CtsOk Tryz.prog (E161 F):=cts_of (l:=[(162,ct162 F)]) (l':=[(197,ct197 F)]) rfl rfl ⟨⟨ok162 F,_,Tryz.func162,rfl,rfl⟩,trivial⟩ ⟨⟨okd197 F,_,Tryz.func197,rfl,rfl⟩,trivial⟩
def T161c (F:Nat) (p0:Int) (p1:Int) (p2:Int) (p3:List UInt8) {β:Type} (k:(UInt64×Int×Int×Int)->Option β):Option β:=
 (bif (p2 != (0:Int)) then (k ((0:UInt64),p0,p1,p2)) else (Option.bind (T162 F p0 p3) fun z3=>(Option.bind (T197 F p0 z3.1 z3.2.2 z3.2.1) fun z4=>(k (z4.1,z4.2,p0,z3.2.1)))))
def T161 (F:Nat) (p0:Int) (p1:Int) (p2:Int) (p3:List UInt8):Option (UInt64×Int×Int×Int):=T161c F p0 p1 p2 p3 some
theorem T161n (F:Nat) (p0:Int) (p1:Int) (p2:Int) (p3:List UInt8) {β:Type} (k:(UInt64×Int×Int×Int)->Option β):T161c F p0 p1 p2 p3 k=(T161 F p0 p1 p2 p3).bind k:=by
 simp only [T161,T161c,Option.bind_assoc,cond_bind,Option.bind_some,Option.bind_none,elimS_bind]
abbrev cA161:List Sh:=[(.pt 0 []),(.fn 162 (.pr (.pt 0 []) .un) .un)]
abbrev cB161:List Sh:=[.u64]
abbrev cT161:List TSh:=[.blk 171 (.pr (.rw 1) (.pr .i (.pr .i (.pr .i .un)))),.row 5 .u8]
abbrev cU161:List TSh:=[.blk 171 (.pr (.rw 1) (.pr .i (.pr .i (.pr .i .un)))),.row 5 .u8]
def ct161 (F:Nat):Ct:=mkC 2 cA161 cT161 cB161 cU161 (fun x y=>T161 F y.1.2.1 y.1.2.2.1 y.1.2.2.2.1 y.2.1) (fun x y (z:UInt64×Int×Int×Int)=>((z.1,()),(((),z.2.1,z.2.2.1,z.2.2.2,()),y.2.1,())))
theorem eq161 (F:Nat) (x:dens cA161) (y:tdens cT161):sev (E161 F) 2 [] (bodyOf Tryz.f161) [] (mkSt (rng 2) cA161 cT161 x y) (kFn (E161 F) 2 Tryz.f161.results.toList cB161 cU161 fun p q=>some (p,q)) =
  T161c F y.1.2.1 y.1.2.2.1 y.1.2.2.2.1 y.2.1 (fun z=>some ((z.1,()),(((),z.2.1,z.2.2.1,z.2.2.2,()),y.2.1,()))):=by kernel_rfl
theorem ok161 (F:Nat):Sound Tryz.prog cfg 161 (ct161 F):=
 mkC_ok (E:=E161 F) (lp:=[]) (code:=bodyOf Tryz.f161) Tryz.func161 rfl Tryz.ntmps161 rfl rfl cok (cts161 F) mixed trivial (by kernel_rfl) (fun x y k=>T161c F y.1.2.1 y.1.2.2.1 y.1.2.2.2.1 y.2.1 k) (fun x y k=>T161n F y.1.2.1 y.1.2.2.1 y.1.2.2.2.1 y.2.1 k) (eq161 F)
def ord123:Nat->List (Tag×Nat)
 | _=>[]
def al123:Nat->Option Nat
 | _=>none
def ms123:Nat->Option (List (Option Tag×Nat×List Nat))
 | _=>none
def E123 (F:Nat):Ev:=⟨cfg,7,ctOf [(161,ct161 F)],ord123,ctOf [],al123,ms123⟩
theorem cts123 (F:Nat):CtsOk Tryz.prog (E123 F):=cts_of (l:=[(161,ct161 F)]) (l':=[]) rfl rfl ⟨⟨ok161 F,_,Tryz.func161,rfl,rfl⟩,trivial⟩ trivial
def T123c (F:Nat) (p0:Int) (p1:Int) (p2:Int) (p3:List UInt8) {β:Type} (k:(UInt64×Int×Int×Int)->Option β):Option β:=
 (Option.bind (T161 F p0 p1 p2 p3) fun z2=>(k (z2.1,z2.2.1,z2.2.2.1,z2.2.2.2)))
def T123 (F:Nat) (p0:Int) (p1:Int) (p2:Int) (p3:List UInt8):Option (UInt64×Int×Int×Int):=T123c F p0 p1 p2 p3 some
theorem T123n (F:Nat) (p0:Int) (p1:Int) (p2:Int) (p3:List UInt8) {β:Type} (k:(UInt64×Int×Int×Int)->Option β):T123c F p0 p1 p2 p3 k=(T123 F p0 p1 p2 p3).bind k:=by
 simp only [T123,T123c,Option.bind_assoc,cond_bind,Option.bind_some,Option.bind_none,elimS_bind]
abbrev cA123:List Sh:=[(.pt 0 [])]
abbrev cB123:List Sh:=[.u64]
abbrev cT123:List TSh:=[.blk 171 (.pr (.rw 1) (.pr .i (.pr .i (.pr .i .un)))),.row 5 .u8]
abbrev cU123:List TSh:=[.blk 171 (.pr (.rw 1) (.pr .i (.pr .i (.pr .i .un)))),.row 5 .u8]
def ct123 (F:Nat):Ct:=mkC 2 cA123 cT123 cB123 cU123 (fun x y=>T123 F y.1.2.1 y.1.2.2.1 y.1.2.2.2.1 y.2.1) (fun x y (z:UInt64×Int×Int×Int)=>((z.1,()),(((),z.2.1,z.2.2.1,z.2.2.2,()),y.2.1,())))
theorem eq123 (F:Nat) (x:dens cA123) (y:tdens cT123):sev (E123 F) 2 [] (bodyOf Tryz.f123) [] (mkSt (rng 1) cA123 cT123 x y) (kFn (E123 F) 2 Tryz.f123.results.toList cB123 cU123 fun p q=>some (p,q)) =
  T123c F y.1.2.1 y.1.2.2.1 y.1.2.2.2.1 y.2.1 (fun z=>some ((z.1,()),(((),z.2.1,z.2.2.1,z.2.2.2,()),y.2.1,()))):=by kernel_rfl
theorem ok123 (F:Nat):Sound Tryz.prog cfg 123 (ct123 F):=
 mkC_ok (E:=E123 F) (lp:=[]) (code:=bodyOf Tryz.f123) Tryz.func123 rfl Tryz.ntmps123 rfl rfl cok (cts123 F) mixed trivial (by kernel_rfl) (fun x y k=>T123c F y.1.2.1 y.1.2.2.1 y.1.2.2.2.1 y.2.1 k) (fun x y k=>T123n F y.1.2.1 y.1.2.2.1 y.1.2.2.2.1 y.2.1 k) (eq123 F)
def ord122:Nat->List (Tag×Nat)
 | _=>[]
def al122:Nat->Option Nat
 | _=>none
def ms122:Nat->Option (List (Option Tag×Nat×List Nat))
 | _=>none
def E122 (F:Nat):Ev:=⟨cfg,14,ctOf [],ord122,ctOf [],al122,ms122⟩
theorem cts122 (F:Nat):CtsOk Tryz.prog (E122 F):=cts_of (l:=[]) (l':=[]) rfl rfl trivial trivial
def T122c (F:Nat) (p0:UInt64) {β:Type} (k:Int->Option β):Option β:=
 (bif ((p0 % (UInt64.ofNat 2)) == (UInt64.ofNat 1)) then (k (w64 ((w64 (0 - (w64 ((p0 / (UInt64.ofNat 2)).toNat:Int)))) - (1:Int)))) else (k (w64 ((p0 / (UInt64.ofNat 2)).toNat:Int))))
def T122 (F:Nat) (p0:UInt64):Option (Int):=T122c F p0 some
theorem T122n (F:Nat) (p0:UInt64) {β:Type} (k:Int->Option β):T122c F p0 k=(T122 F p0).bind k:=by
 simp only [T122,T122c,Option.bind_assoc,cond_bind,Option.bind_some,Option.bind_none,elimS_bind]
abbrev cA122:List Sh:=[.u64]
abbrev cB122:List Sh:=[.i]
abbrev cT122:List TSh:=[]
abbrev cU122:List TSh:=[]
def ct122 (F:Nat):Ct:=mkC 0 cA122 cT122 cB122 cU122 (fun x y=>T122 F x.1) (fun x y (z:Int)=>((z,()),()))
theorem eq122 (F:Nat) (x:dens cA122) (y:tdens cT122):sev (E122 F) 0 [] (bodyOf Tryz.f122) [] (mkSt (rng 1) cA122 cT122 x y) (kFn (E122 F) 0 Tryz.f122.results.toList cB122 cU122 fun p q=>some (p,q)) =
  T122c F x.1 (fun z=>some ((z,()),())):=by kernel_rfl
theorem ok122 (F:Nat):Sound Tryz.prog cfg 122 (ct122 F):=
 mkC_ok (E:=E122 F) (lp:=[]) (code:=bodyOf Tryz.f122) Tryz.func122 rfl Tryz.ntmps122 rfl rfl cok (cts122 F) mixed trivial (by kernel_rfl) (fun x y k=>T122c F x.1 k) (fun x y k=>T122n F x.1 k) (eq122 F)
def ord70:Nat->List (Tag×Nat)
 | _=>[]
def al70:Nat->Option Nat
 | _=>none
def ms70:Nat->Option (List (Option Tag×Nat×List Nat))
 | _=>none
def E70 (F:Nat):Ev:=⟨cfg,6,ctOf [(123,ct123 F),(122,ct122 F)],ord70,ctOf [],al70,ms70⟩
theorem cts70 (F:Nat):CtsOk Tryz.prog (E70 F):=cts_of (l:=[(123,ct123 F),(122,ct122 F)]) (l':=[]) rfl rfl ⟨⟨ok123 F,_,Tryz.func123,rfl,rfl⟩,⟨⟨ok122 F,_,Tryz.func122,rfl,rfl⟩,trivial⟩⟩ trivial
def T70c (F:Nat) (p0:Int) (p1:Int) (p2:Int) (p3:List UInt8) {β:Type} (k:(Int×Int×Int×Int)->Option β):Option β:=
 (Option.bind (T123 F p0 p1 p2 p3) fun z3=>(Option.bind (T122 F z3.1) fun z4=>(k (z4,z3.2.1,z3.2.2.1,z3.2.2.2))))
def T70 (F:Nat) (p0:Int) (p1:Int) (p2:Int) (p3:List UInt8):Option (Int×Int×Int×Int):=T70c F p0 p1 p2 p3 some
theorem T70n (F:Nat) (p0:Int) (p1:Int) (p2:Int) (p3:List UInt8) {β:Type} (k:(Int×Int×Int×Int)->Option β):T70c F p0 p1 p2 p3 k=(T70 F p0 p1 p2 p3).bind k:=by
 simp only [T70,T70c,Option.bind_assoc,cond_bind,Option.bind_some,Option.bind_none,elimS_bind]
abbrev cA70:List Sh:=[(.pt 0 [])]
abbrev cB70:List Sh:=[.i]
abbrev cT70:List TSh:=[.blk 171 (.pr (.rw 1) (.pr .i (.pr .i (.pr .i .un)))),.row 5 .u8]
abbrev cU70:List TSh:=[.blk 171 (.pr (.rw 1) (.pr .i (.pr .i (.pr .i .un)))),.row 5 .u8]
def ct70 (F:Nat):Ct:=mkC 2 cA70 cT70 cB70 cU70 (fun x y=>T70 F y.1.2.1 y.1.2.2.1 y.1.2.2.2.1 y.2.1) (fun x y (z:Int×Int×Int×Int)=>((z.1,()),(((),z.2.1,z.2.2.1,z.2.2.2,()),y.2.1,())))
theorem eq70 (F:Nat) (x:dens cA70) (y:tdens cT70):sev (E70 F) 2 [] (bodyOf Tryz.f70) [] (mkSt (rng 1) cA70 cT70 x y) (kFn (E70 F) 2 Tryz.f70.results.toList cB70 cU70 fun p q=>some (p,q)) =
  T70c F y.1.2.1 y.1.2.2.1 y.1.2.2.2.1 y.2.1 (fun z=>some ((z.1,()),(((),z.2.1,z.2.2.1,z.2.2.2,()),y.2.1,()))):=by kernel_rfl
theorem ok70 (F:Nat):Sound Tryz.prog cfg 70 (ct70 F):=
 mkC_ok (E:=E70 F) (lp:=[]) (code:=bodyOf Tryz.f70) Tryz.func70 rfl Tryz.ntmps70 rfl rfl cok (cts70 F) mixed trivial (by kernel_rfl) (fun x y k=>T70c F y.1.2.1 y.1.2.2.1 y.1.2.2.2.1 y.2.1 k) (fun x y k=>T70n F y.1.2.1 y.1.2.2.1 y.1.2.2.2.1 y.2.1 k) (eq70 F)
def ord67:Nat->List (Tag×Nat)
 | _=>[]
def al67:Nat->Option Nat
 | _=>none
def ms67:Nat->Option (List (Option Tag×Nat×List Nat))
 | _=>none
def E67 (F:Nat):Ev:=⟨cfg,17,ctOf [(70,ct70 F)],ord67,ctOf [],al67,ms67⟩
theorem cts67 (F:Nat):CtsOk Tryz.prog (E67 F):=cts_of (l:=[(70,ct70 F)]) (l':=[]) rfl rfl ⟨⟨ok70 F,_,Tryz.func70,rfl,rfl⟩,trivial⟩ trivial
def T67c (F:Nat) (p0:Int) (p1:Int) (p2:Int) (p3:List UInt8) {β:Type} (k:(Int×Int×Int×Int×Int)->Option β):Option β:=
 (Option.bind (T70 F p0 p1 p2 p3) fun z3=>(Option.bind (T70 F z3.2.1 z3.2.2.1 z3.2.2.2 p3) fun z4=>(k (z4.2.1,z4.2.2.1,z4.2.2.2,z3.1,z4.1))))
def T67 (F:Nat) (p0:Int) (p1:Int) (p2:Int) (p3:List UInt8):Option (Int×Int×Int×Int×Int):=T67c F p0 p1 p2 p3 some
theorem T67n (F:Nat) (p0:Int) (p1:Int) (p2:Int) (p3:List UInt8) {β:Type} (k:(Int×Int×Int×Int×Int)->Option β):T67c F p0 p1 p2 p3 k=(T67 F p0 p1 p2 p3).bind k:=by
 simp only [T67,T67c,Option.bind_assoc,cond_bind,Option.bind_some,Option.bind_none,elimS_bind]
abbrev cA67:List Sh:=[(.pt 0 []),(.ps 1 2)]
abbrev cB67:List Sh:=[]
abbrev cT67:List TSh:=[.blk 171 (.pr (.rw 2) (.pr .i (.pr .i (.pr .i .un)))),.blk 111 (.pr (.pt 3 [0]) (.pr (.pt 3 [1]) .un)),.row 5 .u8,.blk 27 (.pr .i (.pr .i (.pr .ns (.pr .ns (.pr .ns (.pr .ns .un))))))]
abbrev cU67:List TSh:=[.blk 171 (.pr (.rw 2) (.pr .i (.pr .i (.pr .i .un)))),.blk 111 (.pr (.pt 3 [0]) (.pr (.pt 3 [1]) .un)),.row 5 .u8,.blk 27 (.pr .i (.pr .i (.pr .ns (.pr .ns (.pr .ns (.pr .ns .un))))))]
def ct67 (F:Nat):Ct:=mkC 4 cA67 cT67 cB67 cU67 (fun x y=>T67 F y.1.2.1 y.1.2.2.1 y.1.2.2.2.1 y.2.2.1) (fun x y (z:Int×Int×Int×Int×Int)=>((),(((),z.1,z.2.1,z.2.2.1,()),((),(),()),y.2.2.1,(z.2.2.2.1,z.2.2.2.2,(),(),(),(),()),())))
theorem eq67 (F:Nat) (x:dens cA67) (y:tdens cT67):sev (E67 F) 4 [] (bodyOf Tryz.f67) [] (mkSt (rng 2) cA67 cT67 x y) (kFn (E67 F) 4 Tryz.f67.results.toList cB67 cU67 fun p q=>some (p,q)) =
  T67c F y.1.2.1 y.1.2.2.1 y.1.2.2.2.1 y.2.2.1 (fun z=>some ((),(((),z.1,z.2.1,z.2.2.1,()),((),(),()),y.2.2.1,(z.2.2.2.1,z.2.2.2.2,(),(),(),(),()),()))):=by kernel_rfl
theorem ok67 (F:Nat):Sound Tryz.prog cfg 67 (ct67 F):=
 mkC_ok (E:=E67 F) (lp:=[]) (code:=bodyOf Tryz.f67) Tryz.func67 rfl Tryz.ntmps67 rfl rfl cok (cts67 F) mixed trivial (by kernel_rfl) (fun x y k=>T67c F y.1.2.1 y.1.2.2.1 y.1.2.2.2.1 y.2.2.1 k) (fun x y k=>T67n F y.1.2.1 y.1.2.2.1 y.1.2.2.2.1 y.2.2.1 k) (eq67 F)
def ord160:Nat->List (Tag×Nat)
 | _=>[]
def al160:Nat->Option Nat
 | _=>none
def ms160:Nat->Option (List (Option Tag×Nat×List Nat))
 | _=>none
def E160 (F:Nat):Ev:=⟨cfg,23,ctOf [(162,ct162 F)],ord160,ctOf [],al160,ms160⟩
theorem cts160 (F:Nat):CtsOk Tryz.prog (E160 F):=cts_of (l:=[(162,ct162 F)]) (l':=[]) rfl rfl ⟨⟨ok162 F,_,Tryz.func162,rfl,rfl⟩,trivial⟩ trivial
def T160c (F:Nat) (p0:Int) (p1:Int) (p4:List UInt8) {β:Type} (k:(Int×Int×Int)->Option β):Option β:=
 (Option.bind (T162 F p1 p4) fun z2=>(bif (z2.2.1 != (0:Int)) then (k ((0:Int),z2.2.1,z2.2.2)) else (bif (decide ((UInt64.ofInt (if p0 < (0:Int) then (0:Int) else p0)) < z2.1)) then (k ((0:Int),(2:Int),z2.2.2)) else (k ((w64 (z2.1.toNat:Int)),(0:Int),z2.2.2)))))
def T160 (F:Nat) (p0:Int) (p1:Int) (p4:List UInt8):Option (Int×Int×Int):=T160c F p0 p1 p4 some
theorem T160n (F:Nat) (p0:Int) (p1:Int) (p4:List UInt8) {β:Type} (k:(Int×Int×Int)->Option β):T160c F p0 p1 p4 k=(T160 F p0 p1 p4).bind k:=by
 simp only [T160,T160c,Option.bind_assoc,cond_bind,Option.bind_some,Option.bind_none,elimS_bind]
abbrev cA160:List Sh:=[(.pt 0 []),.i]
abbrev cB160:List Sh:=[.i,.i]
abbrev cT160:List TSh:=[.blk 171 (.pr (.rw 1) (.pr .i (.pr .i (.pr .i .un)))),.row 5 .u8]
abbrev cU160:List TSh:=[.blk 171 (.pr (.rw 1) (.pr .i (.pr .i (.pr .i .un)))),.row 5 .u8]
def ct160 (F:Nat):Ct:=mkC 2 cA160 cT160 cB160 cU160 (fun x y=>T160 F x.2.1 y.1.2.1 y.2.1) (fun x y (z:Int×Int×Int)=>((z.1,z.2.1,()),(((),z.2.2,y.1.2.2.1,y.1.2.2.2.1,()),y.2.1,())))
theorem eq160 (F:Nat) (x:dens cA160) (y:tdens cT160):sev (E160 F) 2 [] (bodyOf Tryz.f160) [] (mkSt (rng 2) cA160 cT160 x y) (kFn (E160 F) 2 Tryz.f160.results.toList cB160 cU160 fun p q=>some (p,q)) =
  T160c F x.2.1 y.1.2.1 y.2.1 (fun z=>some ((z.1,z.2.1,()),(((),z.2.2,y.1.2.2.1,y.1.2.2.2.1,()),y.2.1,()))):=by kernel_rfl
theorem ok160 (F:Nat):Sound Tryz.prog cfg 160 (ct160 F):=
 mkC_ok (E:=E160 F) (lp:=[]) (code:=bodyOf Tryz.f160) Tryz.func160 rfl Tryz.ntmps160 rfl rfl cok (cts160 F) mixed trivial (by kernel_rfl) (fun x y k=>T160c F x.2.1 y.1.2.1 y.2.1 k) (fun x y k=>T160n F x.2.1 y.1.2.1 y.2.1 k) (eq160 F)
def ord159:Nat->List (Tag×Nat)
 | _=>[]
def al159:Nat->Option Nat
 | _=>none
def ms159:Nat->Option (List (Option Tag×Nat×List Nat))
 | _=>none
def E159 (F:Nat):Ev:=⟨cfg,9,ctOf [(160,ct160 F)],ord159,ctOf [],al159,ms159⟩
theorem cts159 (F:Nat):CtsOk Tryz.prog (E159 F):=cts_of (l:=[(160,ct160 F)]) (l':=[]) rfl rfl ⟨⟨ok160 F,_,Tryz.func160,rfl,rfl⟩,trivial⟩ trivial
def T159c (F:Nat) (p0:Int) (p1:Int) (p4:List UInt8) {β:Type} (k:(Int×Int×Int)->Option β):Option β:=
 (Option.bind (T160 F p0 p1 p4) fun z2=>(k (z2.1,z2.2.1,z2.2.2)))
def T159 (F:Nat) (p0:Int) (p1:Int) (p4:List UInt8):Option (Int×Int×Int):=T159c F p0 p1 p4 some
theorem T159n (F:Nat) (p0:Int) (p1:Int) (p4:List UInt8) {β:Type} (k:(Int×Int×Int)->Option β):T159c F p0 p1 p4 k=(T159 F p0 p1 p4).bind k:=by
 simp only [T159,T159c,Option.bind_assoc,cond_bind,Option.bind_some,Option.bind_none,elimS_bind]
abbrev cA159:List Sh:=[(.pt 0 []),(.re .i)]
abbrev cB159:List Sh:=[.i,.i]
abbrev cT159:List TSh:=[.blk 108 (.pt 1 []),.blk 171 (.pr (.rw 2) (.pr .i (.pr .i (.pr .i .un)))),.row 5 .u8]
abbrev cU159:List TSh:=[.blk 108 (.pt 1 []),.blk 171 (.pr (.rw 2) (.pr .i (.pr .i (.pr .i .un)))),.row 5 .u8]
def ct159 (F:Nat):Ct:=mkC 3 cA159 cT159 cB159 cU159 (fun x y=>T159 F x.2.1 y.2.1.2.1 y.2.2.1) (fun x y (z:Int×Int×Int)=>((z.1,z.2.1,()),((),((),z.2.2,y.2.1.2.2.1,y.2.1.2.2.2.1,()),y.2.2.1,())))
theorem eq159 (F:Nat) (x:dens cA159) (y:tdens cT159):sev (E159 F) 3 [] (bodyOf Tryz.f159) [] (mkSt (rng 2) cA159 cT159 x y) (kFn (E159 F) 3 Tryz.f159.results.toList cB159 cU159 fun p q=>some (p,q)) =
  T159c F x.2.1 y.2.1.2.1 y.2.2.1 (fun z=>some ((z.1,z.2.1,()),((),((),z.2.2,y.2.1.2.2.1,y.2.1.2.2.2.1,()),y.2.2.1,()))):=by kernel_rfl
theorem ok159 (F:Nat):Sound Tryz.prog cfg 159 (ct159 F):=
 mkC_ok (E:=E159 F) (lp:=[]) (code:=bodyOf Tryz.f159) Tryz.func159 rfl Tryz.ntmps159 rfl rfl cok (cts159 F) mixed trivial (by kernel_rfl) (fun x y k=>T159c F x.2.1 y.2.1.2.1 y.2.2.1 k) (fun x y k=>T159n F x.2.1 y.2.1.2.1 y.2.2.1 k) (eq159 F)
def ord196:Nat->List (Tag×Nat)
 | _=>[]
def al196:Nat->Option Nat
 | _=>none
def ms196:Nat->Option (List (Option Tag×Nat×List Nat))
 | _=>none
def E196 (F:Nat):Ev:=⟨cfg,18,ctOf [],ord196,ctOf [],al196,ms196⟩
theorem cts196 (F:Nat):CtsOk Tryz.prog (E196 F):=cts_of (l:=[]) (l':=[]) rfl rfl trivial trivial
def T196c (F:Nat) (p0:Int) (p1:Int) (p2:Int) (p4:Int) {β:Type} (k:(Int×Int)->Option β):Option β:=
 (bif (p4 != (0:Int)) then (k ((0:Int),p0)) else (k (p1,p2)))
def T196 (F:Nat) (p0:Int) (p1:Int) (p2:Int) (p4:Int):Option (Int×Int):=T196c F p0 p1 p2 p4 some
theorem T196n (F:Nat) (p0:Int) (p1:Int) (p2:Int) (p4:Int) {β:Type} (k:(Int×Int)->Option β):T196c F p0 p1 p2 p4 k=(T196 F p0 p1 p2 p4).bind k:=by
 simp only [T196,T196c,Option.bind_assoc,cond_bind,Option.bind_some,Option.bind_none,elimS_bind]
abbrev cA196:List Sh:=[(.re .i),(.pt 0 []),(.pt 1 [])]
abbrev cB196:List Sh:=[]
abbrev cT196:List TSh:=[.blk 108 (.pt 2 []),.blk 3 .i,.blk 171 (.pr (.rw 3) (.pr .i (.pr .i (.pr .i .un)))),.row 5 .u8]
abbrev cU196:List TSh:=[.blk 108 (.pt 2 []),.blk 3 .i,.blk 171 (.pr (.rw 3) (.pr .i (.pr .i (.pr .i .un)))),.row 5 .u8]
def ct196 (F:Nat):Ct:=mkC 4 cA196 cT196 cB196 cU196 (fun x y=>T196 F x.1 y.2.1 y.2.2.1.2.1 y.2.2.1.2.2.2.1) (fun x y (z:Int×Int)=>((),((),z.1,((),z.2,x.1,y.2.2.1.2.2.2.1,()),y.2.2.2.1,())))
theorem eq196 (F:Nat) (x:dens cA196) (y:tdens cT196):sev (E196 F) 4 [] (bodyOf Tryz.f196) [] (mkSt (rng 3) cA196 cT196 x y) (kFn (E196 F) 4 Tryz.f196.results.toList cB196 cU196 fun p q=>some (p,q)) =
  T196c F x.1 y.2.1 y.2.2.1.2.1 y.2.2.1.2.2.2.1 (fun z=>some ((),((),z.1,((),z.2,x.1,y.2.2.1.2.2.2.1,()),y.2.2.2.1,()))):=by kernel_rfl
theorem okd196 (F:Nat):SoundK Tryz.prog cfg true 196 (ct196 F):=
 mkC_okK (E:=E196 F) true (fun _ _=>rfl) (lp:=[]) (code:=bodyOf Tryz.f196) Tryz.func196 rfl Tryz.ntmps196 rfl rfl cok (cts196 F) mixed trivial (by kernel_rfl) (fun x y k=>T196c F x.1 y.2.1 y.2.2.1.2.1 y.2.2.1.2.2.2.1 k) (fun x y k=>T196n F x.1 y.2.1 y.2.2.1.2.1 y.2.2.1.2.2.2.1 k) (eq196 F)
def ord158:Nat->List (Tag×Nat)
 | 5=>[(.c,0),(.p,1),(.w,2),(.p,3),(.p,4),(.p,5),(.w,6),(.p,7),(.p,8),(.b,9)]
 | _=>[]
def al158:Nat->Option Nat
 | _=>none
def ms158:Nat->Option (List (Option Tag×Nat×List Nat))
 | _=>none
def E158 (F:Nat):Ev:=⟨cfg,26,ctOf [(159,ct159 F)],ord158,ctOf [(196,ct196 F)],al158,ms158⟩
theorem cts158 (F:Nat):CtsOk Tryz.prog (E158 F):=cts_of (l:=[(159,ct159 F)]) (l':=[(196,ct196 F)]) rfl rfl ⟨⟨ok159 F,_,Tryz.func159,rfl,rfl⟩,trivial⟩ ⟨⟨okd196 F,_,Tryz.func196,rfl,rfl⟩,trivial⟩
def T158c (F:Nat) (p0:Int) (p1:Int) (p2:Int) (p3:Int) (p4:List UInt8) {β:Type} (k:(Int×Int×Int×Int)->Option β):Option β:=
 (bif (p2 != (0:Int)) then (k ((0:Int),p0,p1,p2)) else (Option.bind (T159 F p3 p0 p4) fun z3=>(Option.bind (T196 F p0 z3.1 z3.2.2 z3.2.1) fun z4=>(k (z4.1,z4.2,p0,z3.2.1)))))
def T158 (F:Nat) (p0:Int) (p1:Int) (p2:Int) (p3:Int) (p4:List UInt8):Option (Int×Int×Int×Int):=T158c F p0 p1 p2 p3 p4 some
theorem T158n (F:Nat) (p0:Int) (p1:Int) (p2:Int) (p3:Int) (p4:List UInt8) {β:Type} (k:(Int×Int×Int×Int)->Option β):T158c F p0 p1 p2 p3 p4 k=(T158 F p0 p1 p2 p3 p4).bind k:=by
 simp only [T158,T158c,Option.bind_assoc,cond_bind,Option.bind_some,Option.bind_none,elimS_bind]
abbrev cA158:List Sh:=[(.pt 0 []),(.fn 159 .un (.pr (.pt 1 []) (.pr (.pt 2 []) .un)))]
abbrev cB158:List Sh:=[.i]
abbrev cT158:List TSh:=[.blk 171 (.pr (.rw 3) (.pr .i (.pr .i (.pr .i .un)))),.blk 108 (.pt 0 []),.blk 3 .i,.row 5 .u8]
abbrev cU158:List TSh:=[.blk 171 (.pr (.rw 3) (.pr .i (.pr .i (.pr .i .un)))),.blk 108 (.pt 0 []),.blk 3 .i,.row 5 .u8]
def ct158 (F:Nat):Ct:=mkC 4 cA158 cT158 cB158 cU158 (fun x y=>T158 F y.1.2.1 y.1.2.2.1 y.1.2.2.2.1 y.2.2.1 y.2.2.2.1) (fun x y (z:Int×Int×Int×Int)=>((z.1,()),(((),z.2.1,z.2.2.1,z.2.2.2,()),(),y.2.2.1,y.2.2.2.1,())))
theorem eq158 (F:Nat) (x:dens cA158) (y:tdens cT158):sev (E158 F) 4 [] (bodyOf Tryz.f158) [] (mkSt (rng 2) cA158 cT158 x y) (kFn (E158 F) 4 Tryz.f158.results.toList cB158 cU158 fun p q=>some (p,q)) =
  T158c F y.1.2.1 y.1.2.2.1 y.1.2.2.2.1 y.2.2.1 y.2.2.2.1 (fun z=>some ((z.1,()),(((),z.2.1,z.2.2.1,z.2.2.2,()),(),y.2.2.1,y.2.2.2.1,()))):=by kernel_rfl
theorem ok158 (F:Nat):Sound Tryz.prog cfg 158 (ct158 F):=
 mkC_ok (E:=E158 F) (lp:=[]) (code:=bodyOf Tryz.f158) Tryz.func158 rfl Tryz.ntmps158 rfl rfl cok (cts158 F) mixed trivial (by kernel_rfl) (fun x y k=>T158c F y.1.2.1 y.1.2.2.1 y.1.2.2.2.1 y.2.2.1 y.2.2.2.1 k) (fun x y k=>T158n F y.1.2.1 y.1.2.2.1 y.1.2.2.2.1 y.2.2.1 y.2.2.2.1 k) (eq158 F)
def ord121:Nat->List (Tag×Nat)
 | _=>[]
def al121:Nat->Option Nat
 | _=>none
def ms121:Nat->Option (List (Option Tag×Nat×List Nat))
 | _=>none
def E121 (F:Nat):Ev:=⟨cfg,8,ctOf [(158,ct158 F)],ord121,ctOf [],al121,ms121⟩
theorem cts121 (F:Nat):CtsOk Tryz.prog (E121 F):=cts_of (l:=[(158,ct158 F)]) (l':=[]) rfl rfl ⟨⟨ok158 F,_,Tryz.func158,rfl,rfl⟩,trivial⟩ trivial
def T121c (F:Nat) (p0:Int) (p1:Int) (p2:Int) (p3:Int) (p4:List UInt8) {β:Type} (k:(Int×Int×Int×Int)->Option β):Option β:=
 (Option.bind (T158 F p1 p2 p3 p0 p4) fun z2=>(k (z2.1,z2.2.1,z2.2.2.1,z2.2.2.2)))
def T121 (F:Nat) (p0:Int) (p1:Int) (p2:Int) (p3:Int) (p4:List UInt8):Option (Int×Int×Int×Int):=T121c F p0 p1 p2 p3 p4 some
theorem T121n (F:Nat) (p0:Int) (p1:Int) (p2:Int) (p3:Int) (p4:List UInt8) {β:Type} (k:(Int×Int×Int×Int)->Option β):T121c F p0 p1 p2 p3 p4 k=(T121 F p0 p1 p2 p3 p4).bind k:=by
 simp only [T121,T121c,Option.bind_assoc,cond_bind,Option.bind_some,Option.bind_none,elimS_bind]
abbrev cA121:List Sh:=[(.pt 0 []),.i]
abbrev cB121:List Sh:=[.i]
abbrev cT121:List TSh:=[.blk 171 (.pr (.rw 1) (.pr .i (.pr .i (.pr .i .un)))),.row 5 .u8]
abbrev cU121:List TSh:=[.blk 171 (.pr (.rw 1) (.pr .i (.pr .i (.pr .i .un)))),.row 5 .u8]
def ct121 (F:Nat):Ct:=mkC 2 cA121 cT121 cB121 cU121 (fun x y=>T121 F x.2.1 y.1.2.1 y.1.2.2.1 y.1.2.2.2.1 y.2.1) (fun x y (z:Int×Int×Int×Int)=>((z.1,()),(((),z.2.1,z.2.2.1,z.2.2.2,()),y.2.1,())))
theorem eq121 (F:Nat) (x:dens cA121) (y:tdens cT121):sev (E121 F) 2 [] (bodyOf Tryz.f121) [] (mkSt (rng 2) cA121 cT121 x y) (kFn (E121 F) 2 Tryz.f121.results.toList cB121 cU121 fun p q=>some (p,q)) =
  T121c F x.2.1 y.1.2.1 y.1.2.2.1 y.1.2.2.2.1 y.2.1 (fun z=>some ((z.1,()),(((),z.2.1,z.2.2.1,z.2.2.2,()),y.2.1,()))):=by kernel_rfl
theorem ok121 (F:Nat):Sound Tryz.prog cfg 121 (ct121 F):=
 mkC_ok (E:=E121 F) (lp:=[]) (code:=bodyOf Tryz.f121) Tryz.func121 rfl Tryz.ntmps121 rfl rfl cok (cts121 F) mixed trivial (by kernel_rfl) (fun x y k=>T121c F x.2.1 y.1.2.1 y.1.2.2.1 y.1.2.2.2.1 y.2.1 k) (fun x y k=>T121n F x.2.1 y.1.2.1 y.1.2.2.1 y.1.2.2.2.1 y.2.1 k) (eq121 F)
def ord69:Nat->List (Tag×Nat)
 | _=>[]
def al69:Nat->Option Nat
 | _=>none
def ms69:Nat->Option (List (Option Tag×Nat×List Nat))
 | _=>none
def E69 (F:Nat):Ev:=⟨cfg,7,ctOf [(70,ct70 F)],ord69,ctOf [],al69,ms69⟩
theorem cts69 (F:Nat):CtsOk Tryz.prog (E69 F):=cts_of (l:=[(70,ct70 F)]) (l':=[]) rfl rfl ⟨⟨ok70 F,_,Tryz.func70,rfl,rfl⟩,trivial⟩ trivial
def T69c (F:Nat) (p1:Int) (p2:Int) (p3:Int) (p4:List UInt8) {β:Type} (k:(Int×Int×Int×Int)->Option β):Option β:=
 (Option.bind (T70 F p1 p2 p3 p4) fun z2=>(k (z2.1,z2.2.1,z2.2.2.1,z2.2.2.2)))
def T69 (F:Nat) (p1:Int) (p2:Int) (p3:Int) (p4:List UInt8):Option (Int×Int×Int×Int):=T69c F p1 p2 p3 p4 some
theorem T69n (F:Nat) (p1:Int) (p2:Int) (p3:Int) (p4:List UInt8) {β:Type} (k:(Int×Int×Int×Int)->Option β):T69c F p1 p2 p3 p4 k=(T69 F p1 p2 p3 p4).bind k:=by
 simp only [T69,T69c,Option.bind_assoc,cond_bind,Option.bind_some,Option.bind_none,elimS_bind]
abbrev cA69:List Sh:=[(.pt 0 []),(.pt 1 [])]
abbrev cB69:List Sh:=[]
abbrev cT69:List TSh:=[.blk 3 .i,.blk 108 (.pt 2 []),.blk 171 (.pr (.rw 3) (.pr .i (.pr .i (.pr .i .un)))),.row 5 .u8]
abbrev cU69:List TSh:=[.blk 3 .i,.blk 108 (.pt 2 []),.blk 171 (.pr (.rw 3) (.pr .i (.pr .i (.pr .i .un)))),.row 5 .u8]
def ct69 (F:Nat):Ct:=mkC 4 cA69 cT69 cB69 cU69 (fun x y=>T69 F y.2.2.1.2.1 y.2.2.1.2.2.1 y.2.2.1.2.2.2.1 y.2.2.2.1) (fun x y (z:Int×Int×Int×Int)=>((),(z.1,(),((),z.2.1,z.2.2.1,z.2.2.2,()),y.2.2.2.1,())))
theorem eq69 (F:Nat) (x:dens cA69) (y:tdens cT69):sev (E69 F) 4 [] (bodyOf Tryz.f69) [] (mkSt (rng 2) cA69 cT69 x y) (kFn (E69 F) 4 Tryz.f69.results.toList cB69 cU69 fun p q=>some (p,q)) =
  T69c F y.2.2.1.2.1 y.2.2.1.2.2.1 y.2.2.1.2.2.2.1 y.2.2.2.1 (fun z=>some ((),(z.1,(),((),z.2.1,z.2.2.1,z.2.2.2,()),y.2.2.2.1,()))):=by kernel_rfl
theorem ok69 (F:Nat):Sound Tryz.prog cfg 69 (ct69 F):=
 mkC_ok (E:=E69 F) (lp:=[]) (code:=bodyOf Tryz.f69) Tryz.func69 rfl Tryz.ntmps69 rfl rfl cok (cts69 F) mixed trivial (by kernel_rfl) (fun x y k=>T69c F y.2.2.1.2.1 y.2.2.1.2.2.1 y.2.2.1.2.2.2.1 y.2.2.2.1 k) (fun x y k=>T69n F y.2.2.1.2.1 y.2.2.1.2.2.1 y.2.2.1.2.2.2.1 y.2.2.2.1 k) (eq69 F)
def ord68:Nat->List (Tag×Nat)
 | _=>[]
def al68:Nat->Option Nat
 | _=>none
def ms68:Nat->Option (List (Option Tag×Nat×List Nat))
 | _=>none
def E68 (F:Nat):Ev:=⟨cfg,22,ctOf [(121,ct121 F),(69,ct69 F)],ord68,ctOf [],al68,ms68⟩
theorem cts68 (F:Nat):CtsOk Tryz.prog (E68 F):=cts_of (l:=[(121,ct121 F),(69,ct69 F)]) (l':=[]) rfl rfl ⟨⟨ok121 F,_,Tryz.func121,rfl,rfl⟩,⟨⟨ok69 F,_,Tryz.func69,rfl,rfl⟩,trivial⟩⟩ trivial
def L68_2c (F:Nat) (y31:Int) (y36:List UInt8) (y32:Int) (y33:Int) (y34:Int) (y35:Int) (y37:List Int) {β:Type} (kA:(Int×Int×Int×Int×(List Int))->Option β) (kO:(Int×Int×Int×(List Int))->Option β):Option β:=
 (bif (decide (y32 < y31)) then (Option.bind (T69 F y33 y34 y35 y36) fun z40=>(Option.bind (gapp y37 ([z40.1]:List Int)) fun x41=>(kA ((w64 (y32 + (1:Int))),z40.2.1,z40.2.2.1,z40.2.2.2,x41)))) else (kO (y33,y34,y35,y37)))
def L68_2 (F:Nat) (y31:Int) (y36:List UInt8) (y32:Int) (y33:Int) (y34:Int) (y35:Int) (y37:List Int):Option ((Int×Int×Int×Int×(List Int)) ⊕ (Int×Int×Int×(List Int))):=L68_2c F y31 y36 y32 y33 y34 y35 y37 (fun s=>some (.inl s)) (fun z=>some (.inr z))
theorem L68_2n (F:Nat) (y31:Int) (y36:List UInt8) (y32:Int) (y33:Int) (y34:Int) (y35:Int) (y37:List Int) {β:Type} (kA:(Int×Int×Int×Int×(List Int))->Option β) (kO:(Int×Int×Int×(List Int))->Option β):L68_2c F y31 y36 y32 y33 y34 y35 y37 kA kO=(L68_2 F y31 y36 y32 y33 y34 y35 y37).bind (elimS kA kO):=by
 simp only [L68_2,L68_2c,Option.bind_assoc,cond_bind,Option.bind_some,Option.bind_none,elimS_l,elimS_r,elimS_bind]
abbrev sA68_2:List Sh:=[(.fn 69 .un (.pr (.pt 1 []) .un)),(.rw 3),.i,.i]
abbrev sAp168_2:List Sh:=[(.rw 3)]
abbrev sT68_2:List TSh:=[.blk 171 (.pr (.rw 2) (.pr .i (.pr .i (.pr .i .un)))),.blk 108 (.pt 0 []),.row 5 .u8,.row 3 .i]
abbrev sTp168_2:List TSh:=[.blk 171 (.pr (.rw 2) (.pr .i (.pr .i (.pr .i .un)))),.blk 108 (.pt 0 []),.row 5 .u8,.row 3 .i]
def lc68_2 (F:Nat):Lc:=mkL [2,7,11,12] sA68_2 sT68_2 [7] sAp168_2 sTp168_2 F (fun x y (s:Int×Int×Int×Int×(List Int))=>L68_2 F x.2.2.1 y.2.2.1 s.1 s.2.1 s.2.2.1 s.2.2.2.1 s.2.2.2.2) (fun x y=>(x.2.2.2.1,y.1.2.1,y.1.2.2.1,y.1.2.2.2.1,y.2.2.2.1)) (fun x y (z:Int×Int×Int×(List Int))=>(((),()),(((),z.1,z.2.1,z.2.2.1,()),(),y.2.2.1,z.2.2.2,())))
theorem le68_2 (F:Nat) (x:dens sA68_2) (y:tdens sT68_2) (s:Int×Int×Int×Int×(List Int)):sev (E68 F) 3 [] (cAt (bodyOf Tryz.f68) (0 :: 0 :: [1,0,1,1])) (0 :: 0 :: [1,0,1,1]) (mkSt [2,7,11,12] sA68_2 sT68_2 (((),((),())),(),x.2.2.1,s.1,()) (((),s.2.1,s.2.2.1,s.2.2.2.1,()),(),y.2.2.1,s.2.2.2.2,())) (kLoop 3 [2,7,11,12] sA68_2 sT68_2 [7] sAp168_2 sTp168_2 [] [] [] 0 (fun x y=>some (.inl (x,y))) (fun x y=>some (.inr (.inl (x,y)))) (fun x y=>some (.inr (.inr (x,y))))) =
  L68_2c (β:=Full sA68_2 sT68_2 sAp168_2 sTp168_2 [] []) F x.2.2.1 y.2.2.1 s.1 s.2.1 s.2.2.1 s.2.2.2.1 s.2.2.2.2 (fun s=>some (.inl ((((),((),())),(),x.2.2.1,s.1,()),(((),s.2.1,s.2.2.1,s.2.2.2.1,()),(),y.2.2.1,s.2.2.2.2,())))) (fun z=>some (.inr (.inl (((),()),(((),z.1,z.2.1,z.2.2.1,()),(),y.2.2.1,z.2.2.2,()))))):=by kernel_rfl
theorem lo68_2 (F:Nat):LcOk Tryz.prog (E68 F) 3 (lc68_2 F) (cAt (bodyOf Tryz.f68) [1,0,1,1]):=
 mkL_ok (lp:=[]) (id:=0) (b:=cAt (bodyOf Tryz.f68) (0 :: 0 :: [1,0,1,1])) cok (cts68 F) mixed trivial (by kernel_rfl) (by kernel_rfl) (fun x y s=>(((),((),())),(),x.2.2.1,s.1,())) (fun x y s=>(((),s.2.1,s.2.2.1,s.2.2.2.1,()),(),y.2.2.1,s.2.2.2.2,())) (fun x y=>rfl) (fun x y=>rfl) (fun x y s kA kO=>L68_2c F x.2.2.1 y.2.2.1 s.1 s.2.1 s.2.2.1 s.2.2.2.1 s.2.2.2.2 kA kO) (fun x y s kA kO=>L68_2n F x.2.2.1 y.2.2.1 s.1 s.2.1 s.2.2.1 s.2.2.2.1 s.2.2.2.2 kA kO) (le68_2 F)
def T68c (F:Nat) (p0:Int) (p1:Int) (p2:Int) (p3:Int) (p4:List UInt8) {β:Type} (k:(Int×Int×Int×(List Int))->Option β):Option β:=
 (Option.bind (T121 F p0 p1 p2 p3 p4) fun z22=>(Option.bind (iter (fun s=>L68_2 F z22.1 p4 s.1 s.2.1 s.2.2.1 s.2.2.2.1 s.2.2.2.2) F ((0:Int),z22.2.1,z22.2.2.1,z22.2.2.2,([]:List Int))) fun z42=>(k (z42.1,z42.2.1,z42.2.2.1,z42.2.2.2))))
def T68 (F:Nat) (p0:Int) (p1:Int) (p2:Int) (p3:Int) (p4:List UInt8):Option (Int×Int×Int×(List Int)):=T68c F p0 p1 p2 p3 p4 some
theorem T68n (F:Nat) (p0:Int) (p1:Int) (p2:Int) (p3:Int) (p4:List UInt8) {β:Type} (k:(Int×Int×Int×(List Int))->Option β):T68c F p0 p1 p2 p3 p4 k=(T68 F p0 p1 p2 p3 p4).bind k:=by
 simp only [T68,T68c,Option.bind_assoc,cond_bind,Option.bind_some,Option.bind_none,elimS_bind]
abbrev cA68:List Sh:=[(.pt 0 []),.i,(.fn 69 .un (.pr (.pt 1 []) .un))]
abbrev cB68:List Sh:=[(.rw 3)]
abbrev cT68:List TSh:=[.blk 171 (.pr (.rw 2) (.pr .i (.pr .i (.pr .i .un)))),.blk 108 (.pt 0 []),.row 5 .u8]
abbrev cU68:List TSh:=[.blk 171 (.pr (.rw 2) (.pr .i (.pr .i (.pr .i .un)))),.blk 108 (.pt 0 []),.row 5 .u8,.row 3 .i]
def ct68 (F:Nat):Ct:=mkC 3 cA68 cT68 cB68 cU68 (fun x y=>T68 F x.2.1 y.1.2.1 y.1.2.2.1 y.1.2.2.2.1 y.2.2.1) (fun x y (z:Int×Int×Int×(List Int))=>(((),()),(((),z.1,z.2.1,z.2.2.1,()),(),y.2.2.1,z.2.2.2,())))
theorem eq68 (F:Nat) (x:dens cA68) (y:tdens cT68):sev (E68 F) 3 [([1,0,1,1],lc68_2 F)] (bodyOf Tryz.f68) [] (mkSt (rng 3) cA68 cT68 x y) (kFn (E68 F) 3 Tryz.f68.results.toList cB68 cU68 fun p q=>some (p,q)) =
  T68c F x.2.1 y.1.2.1 y.1.2.2.1 y.1.2.2.2.1 y.2.2.1 (fun z=>some (((),()),(((),z.1,z.2.1,z.2.2.1,()),(),y.2.2.1,z.2.2.2,()))):=by kernel_rfl
theorem ok68 (F:Nat):Sound Tryz.prog cfg 68 (ct68 F):=
 mkC_ok (E:=E68 F) (lp:=[([1,0,1,1],lc68_2 F)]) (code:=bodyOf Tryz.f68) Tryz.func68 rfl Tryz.ntmps68 rfl rfl cok (cts68 F) mixed ⟨lo68_2 F,trivial⟩ (by kernel_rfl) (fun x y k=>T68c F x.2.1 y.1.2.1 y.1.2.2.1 y.1.2.2.2.1 y.2.2.1 k) (fun x y k=>T68n F x.2.1 y.1.2.1 y.1.2.2.1 y.1.2.2.2.1 y.2.2.1 k) (eq68 F)
def ord67x1:Nat->List (Tag×Nat)
 | _=>[]
def al67x1:Nat->Option Nat
 | _=>none
def ms67x1:Nat->Option (List (Option Tag×Nat×List Nat))
 | _=>none
def E67x1 (F:Nat):Ev:=⟨cfg,17,ctOf [(70,ct70 F)],ord67x1,ctOf [],al67x1,ms67x1⟩
theorem cts67x1 (F:Nat):CtsOk Tryz.prog (E67x1 F):=cts_of (l:=[(70,ct70 F)]) (l':=[]) rfl rfl ⟨⟨ok70 F,_,Tryz.func70,rfl,rfl⟩,trivial⟩ trivial
def T67x1c (F:Nat) (p0:Int) (p1:Int) (p2:Int) (p3:List UInt8) {β:Type} (k:(Int×Int×Int×Int×Int×Int)->Option β):Option β:=
 (Option.bind (T70 F p0 p1 p2 p3) fun z4=>(Option.bind (T70 F z4.2.1 z4.2.2.1 z4.2.2.2 p3) fun z5=>(Option.bind (T70 F z5.2.1 z5.2.2.1 z5.2.2.2 p3) fun z6=>(k (z6.2.1,z6.2.2.1,z6.2.2.2,z4.1,z5.1,z6.1)))))
def T67x1 (F:Nat) (p0:Int) (p1:Int) (p2:Int) (p3:List UInt8):Option (Int×Int×Int×Int×Int×Int):=T67x1c F p0 p1 p2 p3 some
theorem T67x1n (F:Nat) (p0:Int) (p1:Int) (p2:Int) (p3:List UInt8) {β:Type} (k:(Int×Int×Int×Int×Int×Int)->Option β):T67x1c F p0 p1 p2 p3 k=(T67x1 F p0 p1 p2 p3).bind k:=by
 simp only [T67x1,T67x1c,Option.bind_assoc,cond_bind,Option.bind_some,Option.bind_none,elimS_bind]
abbrev cA67x1:List Sh:=[(.pt 0 []),(.ps 1 3)]
abbrev cB67x1:List Sh:=[]
abbrev cT67x1:List TSh:=[.blk 171 (.pr (.rw 2) (.pr .i (.pr .i (.pr .i .un)))),.blk 111 (.pr (.pt 3 [0]) (.pr (.pt 3 [1]) (.pr (.pt 3 [2]) .un))),.row 5 .u8,.blk 90 (.pr .i (.pr .i (.pr .i (.pr (.pr .str (.pr .i (.pr .i .un))) (.pr .i (.pr .i (.pr .str (.pr .bo .un))))))))]
abbrev cU67x1:List TSh:=[.blk 171 (.pr (.rw 2) (.pr .i (.pr .i (.pr .i .un)))),.blk 111 (.pr (.pt 3 [0]) (.pr (.pt 3 [1]) (.pr (.pt 3 [2]) .un))),.row 5 .u8,.blk 90 (.pr .i (.pr .i (.pr .i (.pr (.pr .str (.pr .i (.pr .i .un))) (.pr .i (.pr .i (.pr .str (.pr .bo .un))))))))]
def ct67x1 (F:Nat):Ct:=mkC 4 cA67x1 cT67x1 cB67x1 cU67x1 (fun x y=>T67x1 F y.1.2.1 y.1.2.2.1 y.1.2.2.2.1 y.2.2.1) (fun x y (z:Int×Int×Int×Int×Int×Int)=>((),(((),z.1,z.2.1,z.2.2.1,()),((),(),(),()),y.2.2.1,(z.2.2.2.1,z.2.2.2.2.1,z.2.2.2.2.2,(y.2.2.2.1.2.2.2.1.1,y.2.2.2.1.2.2.2.1.2.1,y.2.2.2.1.2.2.2.1.2.2.1,()),y.2.2.2.1.2.2.2.2.1,y.2.2.2.1.2.2.2.2.2.1,y.2.2.2.1.2.2.2.2.2.2.1,y.2.2.2.1.2.2.2.2.2.2.2.1,()),())))
theorem eq67x1 (F:Nat) (x:dens cA67x1) (y:tdens cT67x1):sev (E67x1 F) 4 [] (bodyOf Tryz.f67) [] (mkSt (rng 2) cA67x1 cT67x1 x y) (kFn (E67x1 F) 4 Tryz.f67.results.toList cB67x1 cU67x1 fun p q=>some (p,q)) =
  T67x1c F y.1.2.1 y.1.2.2.1 y.1.2.2.2.1 y.2.2.1 (fun z=>some ((),(((),z.1,z.2.1,z.2.2.1,()),((),(),(),()),y.2.2.1,(z.2.2.2.1,z.2.2.2.2.1,z.2.2.2.2.2,(y.2.2.2.1.2.2.2.1.1,y.2.2.2.1.2.2.2.1.2.1,y.2.2.2.1.2.2.2.1.2.2.1,()),y.2.2.2.1.2.2.2.2.1,y.2.2.2.1.2.2.2.2.2.1,y.2.2.2.1.2.2.2.2.2.2.1,y.2.2.2.1.2.2.2.2.2.2.2.1,()),()))):=by kernel_rfl
theorem ok67x1 (F:Nat):Sound Tryz.prog cfg 67 (ct67x1 F):=
 mkC_ok (E:=E67x1 F) (lp:=[]) (code:=bodyOf Tryz.f67) Tryz.func67 rfl Tryz.ntmps67 rfl rfl cok (cts67x1 F) mixed trivial (by kernel_rfl) (fun x y k=>T67x1c F y.1.2.1 y.1.2.2.1 y.1.2.2.2.1 y.2.2.1 k) (fun x y k=>T67x1n F y.1.2.1 y.1.2.2.1 y.1.2.2.2.1 y.2.2.1 k) (eq67x1 F)
def ord130:Nat->List (Tag×Nat)
 | 1=>[(.p,0),(.p,1),(.p,2),(.p,3),(.r,4),(.p,5),(.p,6),(.p,7),(.p,8),(.r,9),(.p,10),(.p,11)]
 | 3=>[(.p,0),(.p,1),(.p,2),(.r,3),(.p,4),(.p,5),(.p,6),(.r,7),(.p,8),(.p,9),(.p,10),(.r,11),(.p,12),(.p,13),(.p,14),(.p,15)]
 | _=>[]
def al130:Nat->Option Nat
 | _=>none
def ms130:Nat->Option (List (Option Tag×Nat×List Nat))
 | _=>none
def E130 (F:Nat):Ev:=⟨cfg,43,ctOf [],ord130,ctOf [],al130,ms130⟩
theorem cts130 (F:Nat):CtsOk Tryz.prog (E130 F):=cts_of (l:=[]) (l':=[]) rfl rfl trivial trivial
def T130c (F:Nat) (p0:Int) (p1:Int) (p4:List UInt8) {β:Type} (k:((Nat×Nat)×Int×Int)->Option β):Option β:=
 (bif (decide ((w64 ((p4.length:Int) - p1)) < p0)) then (k ((0,0),(3:Int),p1)) else (Option.bind (gslb p4.length p1 (w64 (p1 + p0))) fun x2=>(k ((x2.1,x2.2),(0:Int),(w64 (p1 + p0))))))
def T130 (F:Nat) (p0:Int) (p1:Int) (p4:List UInt8):Option ((Nat×Nat)×Int×Int):=T130c F p0 p1 p4 some
theorem T130n (F:Nat) (p0:Int) (p1:Int) (p4:List UInt8) {β:Type} (k:((Nat×Nat)×Int×Int)->Option β):T130c F p0 p1 p4 k=(T130 F p0 p1 p4).bind k:=by
 simp only [T130,T130c,Option.bind_assoc,cond_bind,Option.bind_some,Option.bind_none,elimS_bind]
abbrev cA130:List Sh:=[(.pt 0 []),.i]
abbrev cB130:List Sh:=[(.rp 1),.i]
abbrev cT130:List TSh:=[.blk 171 (.pr (.rw 1) (.pr .i (.pr .i (.pr .i .un)))),.row 5 .u8]
abbrev cU130:List TSh:=[.blk 171 (.pr (.rw 1) (.pr .i (.pr .i (.pr .i .un)))),.row 5 .u8]
def ct130 (F:Nat):Ct:=mkC 2 cA130 cT130 cB130 cU130 (fun x y=>T130 F x.2.1 y.1.2.1 y.2.1) (fun x y (z:(Nat×Nat)×Int×Int)=>((z.1,z.2.1,()),(((),z.2.2,y.1.2.2.1,y.1.2.2.2.1,()),y.2.1,())))
theorem eq130 (F:Nat) (x:dens cA130) (y:tdens cT130):sev (E130 F) 2 [] (bodyOf Tryz.f130) [] (mkSt (rng 2) cA130 cT130 x y) (kFn (E130 F) 2 Tryz.f130.results.toList cB130 cU130 fun p q=>some (p,q)) =
  T130c F x.2.1 y.1.2.1 y.2.1 (fun z=>some ((z.1,z.2.1,()),(((),z.2.2,y.1.2.2.1,y.1.2.2.2.1,()),y.2.1,()))):=by kernel_rfl
theorem ok130 (F:Nat):Sound Tryz.prog cfg 130 (ct130 F):=
 mkC_ok (E:=E130 F) (lp:=[]) (code:=bodyOf Tryz.f130) Tryz.func130 rfl Tryz.ntmps130 rfl rfl cok (cts130 F) mixed trivial (by kernel_rfl) (fun x y k=>T130c F x.2.1 y.1.2.1 y.2.1 k) (fun x y k=>T130n F x.2.1 y.1.2.1 y.2.1 k) (eq130 F)
def ord129:Nat->List (Tag×Nat)
 | _=>[]
def al129:Nat->Option Nat
 | _=>none
def ms129:Nat->Option (List (Option Tag×Nat×List Nat))
 | _=>none
def E129 (F:Nat):Ev:=⟨cfg,13,ctOf [(130,ct130 F)],ord129,ctOf [],al129,ms129⟩
theorem cts129 (F:Nat):CtsOk Tryz.prog (E129 F):=cts_of (l:=[(130,ct130 F)]) (l':=[]) rfl rfl ⟨⟨ok130 F,_,Tryz.func130,rfl,rfl⟩,trivial⟩ trivial
def T129c (F:Nat) (p0:Int) (p3:List UInt8) {β:Type} (k:((List UInt8)×Int×Int)->Option β):Option β:=
 (Option.bind (T130 F (32:Int) p0 p3) fun z2=>(k (((p3.drop z2.1.1).take (z2.1.2 - z2.1.1)),z2.2.1,z2.2.2)))
def T129 (F:Nat) (p0:Int) (p3:List UInt8):Option ((List UInt8)×Int×Int):=T129c F p0 p3 some
theorem T129n (F:Nat) (p0:Int) (p3:List UInt8) {β:Type} (k:((List UInt8)×Int×Int)->Option β):T129c F p0 p3 k=(T129 F p0 p3).bind k:=by
 simp only [T129,T129c,Option.bind_assoc,cond_bind,Option.bind_some,Option.bind_none,elimS_bind]
abbrev cA129:List Sh:=[(.pt 0 [])]
abbrev cB129:List Sh:=[.str,.i]
abbrev cT129:List TSh:=[.blk 108 (.pt 1 []),.blk 171 (.pr (.rw 2) (.pr .i (.pr .i (.pr .i .un)))),.row 5 .u8]
abbrev cU129:List TSh:=[.blk 108 (.pt 1 []),.blk 171 (.pr (.rw 2) (.pr .i (.pr .i (.pr .i .un)))),.row 5 .u8]
def ct129 (F:Nat):Ct:=mkC 3 cA129 cT129 cB129 cU129 (fun x y=>T129 F y.2.1.2.1 y.2.2.1) (fun x y (z:(List UInt8)×Int×Int)=>((z.1,z.2.1,()),((),((),z.2.2,y.2.1.2.2.1,y.2.1.2.2.2.1,()),y.2.2.1,())))
theorem eq129 (F:Nat) (x:dens cA129) (y:tdens cT129):sev (E129 F) 3 [] (bodyOf Tryz.f129) [] (mkSt (rng 1) cA129 cT129 x y) (kFn (E129 F) 3 Tryz.f129.results.toList cB129 cU129 fun p q=>some (p,q)) =
  T129c F y.2.1.2.1 y.2.2.1 (fun z=>some ((z.1,z.2.1,()),((),((),z.2.2,y.2.1.2.2.1,y.2.1.2.2.2.1,()),y.2.2.1,()))):=by kernel_rfl
theorem ok129 (F:Nat):Sound Tryz.prog cfg 129 (ct129 F):=
 mkC_ok (E:=E129 F) (lp:=[]) (code:=bodyOf Tryz.f129) Tryz.func129 rfl Tryz.ntmps129 rfl rfl cok (cts129 F) mixed trivial (by kernel_rfl) (fun x y k=>T129c F y.2.1.2.1 y.2.2.1 k) (fun x y k=>T129n F y.2.1.2.1 y.2.2.1 k) (eq129 F)
def ord163:Nat->List (Tag×Nat)
 | _=>[]
def al163:Nat->Option Nat
 | _=>none
def ms163:Nat->Option (List (Option Tag×Nat×List Nat))
 | _=>none
def E163 (F:Nat):Ev:=⟨cfg,18,ctOf [],ord163,ctOf [],al163,ms163⟩
theorem cts163 (F:Nat):CtsOk Tryz.prog (E163 F):=cts_of (l:=[]) (l':=[]) rfl rfl trivial trivial
def T163c (F:Nat) (p0:Int) (p1:List UInt8) (p2:Int) (p4:Int) {β:Type} (k:((List UInt8)×Int)->Option β):Option β:=
 (bif (p4 != (0:Int)) then (k (([]:List UInt8),p0)) else (k (p1,p2)))
def T163 (F:Nat) (p0:Int) (p1:List UInt8) (p2:Int) (p4:Int):Option ((List UInt8)×Int):=T163c F p0 p1 p2 p4 some
theorem T163n (F:Nat) (p0:Int) (p1:List UInt8) (p2:Int) (p4:Int) {β:Type} (k:((List UInt8)×Int)->Option β):T163c F p0 p1 p2 p4 k=(T163 F p0 p1 p2 p4).bind k:=by
 simp only [T163,T163c,Option.bind_assoc,cond_bind,Option.bind_some,Option.bind_none,elimS_bind]
abbrev cA163:List Sh:=[(.re .i),(.pt 0 []),(.pt 1 [])]
abbrev cB163:List Sh:=[]
abbrev cT163:List TSh:=[.blk 108 (.pt 2 []),.blk 9 .str,.blk 171 (.pr (.rw 3) (.pr .i (.pr .i (.pr .i .un)))),.row 5 .u8]
abbrev cU163:List TSh:=[.blk 108 (.pt 2 []),.blk 9 .str,.blk 171 (.pr (.rw 3) (.pr .i (.pr .i (.pr .i .un)))),.row 5 .u8]
def ct163 (F:Nat):Ct:=mkC 4 cA163 cT163 cB163 cU163 (fun x y=>T163 F x.1 y.2.1 y.2.2.1.2.1 y.2.2.1.2.2.2.1) (fun x y (z:(List UInt8)×Int)=>((),((),z.1,((),z.2,x.1,y.2.2.1.2.2.2.1,()),y.2.2.2.1,())))
theorem eq163 (F:Nat) (x:dens cA163) (y:tdens cT163):sev (E163 F) 4 [] (bodyOf Tryz.f163) [] (mkSt (rng 3) cA163 cT163 x y) (kFn (E163 F) 4 Tryz.f163.results.toList cB163 cU163 fun p q=>some (p,q)) =
  T163c F x.1 y.2.1 y.2.2.1.2.1 y.2.2.1.2.2.2.1 (fun z=>some ((),((),z.1,((),z.2,x.1,y.2.2.1.2.2.2.1,()),y.2.2.2.1,()))):=by kernel_rfl
theorem okd163 (F:Nat):SoundK Tryz.prog cfg true 163 (ct163 F):=
 mkC_okK (E:=E163 F) true (fun _ _=>rfl) (lp:=[]) (code:=bodyOf Tryz.f163) Tryz.func163 rfl Tryz.ntmps163 rfl rfl cok (cts163 F) mixed trivial (by kernel_rfl) (fun x y k=>T163c F x.1 y.2.1 y.2.2.1.2.1 y.2.2.1.2.2.2.1 k) (fun x y k=>T163n F x.1 y.2.1 y.2.2.1.2.1 y.2.2.1.2.2.2.1 k) (eq163 F)
def ord124:Nat->List (Tag×Nat)
 | 5=>[(.c,0),(.p,1),(.w,2),(.p,3),(.p,4),(.p,5),(.w,6),(.p,7),(.p,8),(.b,9)]
 | _=>[]
def al124:Nat->Option Nat
 | _=>none
def ms124:Nat->Option (List (Option Tag×Nat×List Nat))
 | _=>none
def E124 (F:Nat):Ev:=⟨cfg,26,ctOf [(129,ct129 F)],ord124,ctOf [(163,ct163 F)],al124,ms124⟩
theorem cts124 (F:Nat):CtsOk Tryz.prog (E124 F):=cts_of (l:=[(129,ct129 F)]) (l':=[(163,ct163 F)]) rfl rfl ⟨⟨ok129 F,_,Tryz.func129,rfl,rfl⟩,trivial⟩ ⟨⟨okd163 F,_,Tryz.func163,rfl,rfl⟩,trivial⟩
def T124c (F:Nat) (p0:Int) (p1:Int) (p2:Int) (p3:List UInt8) {β:Type} (k:((List UInt8)×Int×Int×Int)->Option β):Option β:=
 (bif (p2 != (0:Int)) then (k (([]:List UInt8),p0,p1,p2)) else (Option.bind (T129 F p0 p3) fun z3=>(Option.bind (T163 F p0 z3.1 z3.2.2 z3.2.1) fun z4=>(k (z4.1,z4.2,p0,z3.2.1)))))
def T124 (F:Nat) (p0:Int) (p1:Int) (p2:Int) (p3:List UInt8):Option ((List UInt8)×Int×Int×Int):=T124c F p0 p1 p2 p3 some
theorem T124n (F:Nat) (p0:Int) (p1:Int) (p2:Int) (p3:List UInt8) {β:Type} (k:((List UInt8)×Int×Int×Int)->Option β):T124c F p0 p1 p2 p3 k=(T124 F p0 p1 p2 p3).bind k:=by
 simp only [T124,T124c,Option.bind_assoc,cond_bind,Option.bind_some,Option.bind_none,elimS_bind]
abbrev cA124:List Sh:=[(.pt 0 []),(.fn 129 .un (.pr (.pt 1 []) .un))]
abbrev cB124:List Sh:=[.str]
abbrev cT124:List TSh:=[.blk 171 (.pr (.rw 2) (.pr .i (.pr .i (.pr .i .un)))),.blk 108 (.pt 0 []),.row 5 .u8]
abbrev cU124:List TSh:=[.blk 171 (.pr (.rw 2) (.pr .i (.pr .i (.pr .i .un)))),.blk 108 (.pt 0 []),.row 5 .u8]
def ct124 (F:Nat):Ct:=mkC 3 cA124 cT124 cB124 cU124 (fun x y=>T124 F y.1.2.1 y.1.2.2.1 y.1.2.2.2.1 y.2.2.1) (fun x y (z:(List UInt8)×Int×Int×Int)=>((z.1,()),(((),z.2.1,z.2.2.1,z.2.2.2,()),(),y.2.2.1,())))
theorem eq124 (F:Nat) (x:dens cA124) (y:tdens cT124):sev (E124 F) 3 [] (bodyOf Tryz.f124) [] (mkSt (rng 2) cA124 cT124 x y) (kFn (E124 F) 3 Tryz.f124.results.toList cB124 cU124 fun p q=>some (p,q)) =
  T124c F y.1.2.1 y.1.2.2.1 y.1.2.2.2.1 y.2.2.1 (fun z=>some ((z.1,()),(((),z.2.1,z.2.2.1,z.2.2.2,()),(),y.2.2.1,()))):=by kernel_rfl
theorem ok124 (F:Nat):Sound Tryz.prog cfg 124 (ct124 F):=
 mkC_ok (E:=E124 F) (lp:=[]) (code:=bodyOf Tryz.f124) Tryz.func124 rfl Tryz.ntmps124 rfl rfl cok (cts124 F) mixed trivial (by kernel_rfl) (fun x y k=>T124c F y.1.2.1 y.1.2.2.1 y.1.2.2.2.1 y.2.2.1 k) (fun x y k=>T124n F y.1.2.1 y.1.2.2.1 y.1.2.2.2.1 y.2.2.1 k) (eq124 F)
def ord79:Nat->List (Tag×Nat)
 | _=>[]
def al79:Nat->Option Nat
 | _=>none
def ms79:Nat->Option (List (Option Tag×Nat×List Nat))
 | _=>none
def E79 (F:Nat):Ev:=⟨cfg,6,ctOf [(124,ct124 F)],ord79,ctOf [],al79,ms79⟩
theorem cts79 (F:Nat):CtsOk Tryz.prog (E79 F):=cts_of (l:=[(124,ct124 F)]) (l':=[]) rfl rfl ⟨⟨ok124 F,_,Tryz.func124,rfl,rfl⟩,trivial⟩ trivial
def T79c (F:Nat) (p0:Int) (p1:Int) (p2:Int) (p3:List UInt8) {β:Type} (k:((List UInt8)×Int×Int×Int)->Option β):Option β:=
 (Option.bind (T124 F p0 p1 p2 p3) fun z2=>(k (z2.1,z2.2.1,z2.2.2.1,z2.2.2.2)))
def T79 (F:Nat) (p0:Int) (p1:Int) (p2:Int) (p3:List UInt8):Option ((List UInt8)×Int×Int×Int):=T79c F p0 p1 p2 p3 some
theorem T79n (F:Nat) (p0:Int) (p1:Int) (p2:Int) (p3:List UInt8) {β:Type} (k:((List UInt8)×Int×Int×Int)->Option β):T79c F p0 p1 p2 p3 k=(T79 F p0 p1 p2 p3).bind k:=by
 simp only [T79,T79c,Option.bind_assoc,cond_bind,Option.bind_some,Option.bind_none,elimS_bind]
abbrev cA79:List Sh:=[(.pt 0 [])]
abbrev cB79:List Sh:=[.str]
abbrev cT79:List TSh:=[.blk 171 (.pr (.rw 1) (.pr .i (.pr .i (.pr .i .un)))),.row 5 .u8]
abbrev cU79:List TSh:=[.blk 171 (.pr (.rw 1) (.pr .i (.pr .i (.pr .i .un)))),.row 5 .u8]
def ct79 (F:Nat):Ct:=mkC 2 cA79 cT79 cB79 cU79 (fun x y=>T79 F y.1.2.1 y.1.2.2.1 y.1.2.2.2.1 y.2.1) (fun x y (z:(List UInt8)×Int×Int×Int)=>((z.1,()),(((),z.2.1,z.2.2.1,z.2.2.2,()),y.2.1,())))
theorem eq79 (F:Nat) (x:dens cA79) (y:tdens cT79):sev (E79 F) 2 [] (bodyOf Tryz.f79) [] (mkSt (rng 1) cA79 cT79 x y) (kFn (E79 F) 2 Tryz.f79.results.toList cB79 cU79 fun p q=>some (p,q)) =
  T79c F y.1.2.1 y.1.2.2.1 y.1.2.2.2.1 y.2.1 (fun z=>some ((z.1,()),(((),z.2.1,z.2.2.1,z.2.2.2,()),y.2.1,()))):=by kernel_rfl
theorem ok79 (F:Nat):Sound Tryz.prog cfg 79 (ct79 F):=
 mkC_ok (E:=E79 F) (lp:=[]) (code:=bodyOf Tryz.f79) Tryz.func79 rfl Tryz.ntmps79 rfl rfl cok (cts79 F) mixed trivial (by kernel_rfl) (fun x y k=>T79c F y.1.2.1 y.1.2.2.1 y.1.2.2.2.1 y.2.1 k) (fun x y k=>T79n F y.1.2.1 y.1.2.2.1 y.1.2.2.2.1 y.2.1 k) (eq79 F)
def ord67x2:Nat->List (Tag×Nat)
 | _=>[]
def al67x2:Nat->Option Nat
 | _=>none
def ms67x2:Nat->Option (List (Option Tag×Nat×List Nat))
 | _=>none
def E67x2 (F:Nat):Ev:=⟨cfg,17,ctOf [(70,ct70 F)],ord67x2,ctOf [],al67x2,ms67x2⟩
theorem cts67x2 (F:Nat):CtsOk Tryz.prog (E67x2 F):=cts_of (l:=[(70,ct70 F)]) (l':=[]) rfl rfl ⟨⟨ok70 F,_,Tryz.func70,rfl,rfl⟩,trivial⟩ trivial
def T67x2c (F:Nat) (p0:Int) (p1:Int) (p2:Int) (p3:List UInt8) {β:Type} (k:(Int×Int×Int×Int×Int)->Option β):Option β:=
 (Option.bind (T70 F p0 p1 p2 p3) fun z3=>(Option.bind (T70 F z3.2.1 z3.2.2.1 z3.2.2.2 p3) fun z4=>(k (z4.2.1,z4.2.2.1,z4.2.2.2,z3.1,z4.1))))
def T67x2 (F:Nat) (p0:Int) (p1:Int) (p2:Int) (p3:List UInt8):Option (Int×Int×Int×Int×Int):=T67x2c F p0 p1 p2 p3 some
theorem T67x2n (F:Nat) (p0:Int) (p1:Int) (p2:Int) (p3:List UInt8) {β:Type} (k:(Int×Int×Int×Int×Int)->Option β):T67x2c F p0 p1 p2 p3 k=(T67x2 F p0 p1 p2 p3).bind k:=by
 simp only [T67x2,T67x2c,Option.bind_assoc,cond_bind,Option.bind_some,Option.bind_none,elimS_bind]
abbrev cA67x2:List Sh:=[(.pt 0 []),(.ps 1 2)]
abbrev cB67x2:List Sh:=[]
abbrev cT67x2:List TSh:=[.blk 171 (.pr (.rw 2) (.pr .i (.pr .i (.pr .i .un)))),.blk 111 (.pr (.pt 3 [3,1]) (.pr (.pt 3 [3,2]) .un)),.row 5 .u8,.blk 90 (.pr .i (.pr .i (.pr .i (.pr (.pr .str (.pr .i (.pr .i .un))) (.pr .i (.pr .i (.pr .str (.pr .bo .un))))))))]
abbrev cU67x2:List TSh:=[.blk 171 (.pr (.rw 2) (.pr .i (.pr .i (.pr .i .un)))),.blk 111 (.pr (.pt 3 [3,1]) (.pr (.pt 3 [3,2]) .un)),.row 5 .u8,.blk 90 (.pr .i (.pr .i (.pr .i (.pr (.pr .str (.pr .i (.pr .i .un))) (.pr .i (.pr .i (.pr .str (.pr .bo .un))))))))]
def ct67x2 (F:Nat):Ct:=mkC 4 cA67x2 cT67x2 cB67x2 cU67x2 (fun x y=>T67x2 F y.1.2.1 y.1.2.2.1 y.1.2.2.2.1 y.2.2.1) (fun x y (z:Int×Int×Int×Int×Int)=>((),(((),z.1,z.2.1,z.2.2.1,()),((),(),()),y.2.2.1,(y.2.2.2.1.1,y.2.2.2.1.2.1,y.2.2.2.1.2.2.1,(y.2.2.2.1.2.2.2.1.1,z.2.2.2.1,z.2.2.2.2,()),y.2.2.2.1.2.2.2.2.1,y.2.2.2.1.2.2.2.2.2.1,y.2.2.2.1.2.2.2.2.2.2.1,y.2.2.2.1.2.2.2.2.2.2.2.1,()),())))
theorem eq67x2 (F:Nat) (x:dens cA67x2) (y:tdens cT67x2):sev (E67x2 F) 4 [] (bodyOf Tryz.f67) [] (mkSt (rng 2) cA67x2 cT67x2 x y) (kFn (E67x2 F) 4 Tryz.f67.results.toList cB67x2 cU67x2 fun p q=>some (p,q)) =
  T67x2c F y.1.2.1 y.1.2.2.1 y.1.2.2.2.1 y.2.2.1 (fun z=>some ((),(((),z.1,z.2.1,z.2.2.1,()),((),(),()),y.2.2.1,(y.2.2.2.1.1,y.2.2.2.1.2.1,y.2.2.2.1.2.2.1,(y.2.2.2.1.2.2.2.1.1,z.2.2.2.1,z.2.2.2.2,()),y.2.2.2.1.2.2.2.2.1,y.2.2.2.1.2.2.2.2.2.1,y.2.2.2.1.2.2.2.2.2.2.1,y.2.2.2.1.2.2.2.2.2.2.2.1,()),()))):=by kernel_rfl
theorem ok67x2 (F:Nat):Sound Tryz.prog cfg 67 (ct67x2 F):=
 mkC_ok (E:=E67x2 F) (lp:=[]) (code:=bodyOf Tryz.f67) Tryz.func67 rfl Tryz.ntmps67 rfl rfl cok (cts67x2 F) mixed trivial (by kernel_rfl) (fun x y k=>T67x2c F y.1.2.1 y.1.2.2.1 y.1.2.2.2.1 y.2.2.1 k) (fun x y k=>T67x2n F y.1.2.1 y.1.2.2.1 y.1.2.2.2.1 y.2.2.1 k) (eq67x2 F)
def ord73:Nat->List (Tag×Nat)
 | 1=>[(.p,0),(.p,1),(.p,2),(.p,3),(.p,4),(.p,5),(.p,6),(.w,7),(.w,8)]
 | _=>[]
def al73:Nat->Option Nat
 | _=>none
def ms73:Nat->Option (List (Option Tag×Nat×List Nat))
 | _=>none
def E73 (F:Nat):Ev:=⟨cfg,18,ctOf [(79,ct79 F),(67,ct67x2 F)],ord73,ctOf [],al73,ms73⟩
theorem cts73 (F:Nat):CtsOk Tryz.prog (E73 F):=cts_of (l:=[(79,ct79 F),(67,ct67x2 F)]) (l':=[]) rfl rfl ⟨⟨ok79 F,_,Tryz.func79,rfl,rfl⟩,⟨⟨ok67x2 F,_,Tryz.func67,rfl,rfl⟩,trivial⟩⟩ trivial
def T73c (F:Nat) (p0:Int) (p1:Int) (p2:Int) (p13:List UInt8) {β:Type} (k:(Int×Int×Int×(List UInt8)×Int×Int)->Option β):Option β:=
 (Option.bind (T79 F p0 p1 p2 p13) fun z3=>(Option.bind (T67x2 F z3.2.1 z3.2.2.1 z3.2.2.2 p13) fun z4=>(k (z4.1,z4.2.1,z4.2.2.1,z3.1,z4.2.2.2.1,z4.2.2.2.2))))
def T73 (F:Nat) (p0:Int) (p1:Int) (p2:Int) (p13:List UInt8):Option (Int×Int×Int×(List UInt8)×Int×Int):=T73c F p0 p1 p2 p13 some
theorem T73n (F:Nat) (p0:Int) (p1:Int) (p2:Int) (p13:List UInt8) {β:Type} (k:(Int×Int×Int×(List UInt8)×Int×Int)->Option β):T73c F p0 p1 p2 p13 k=(T73 F p0 p1 p2 p13).bind k:=by
 simp only [T73,T73c,Option.bind_assoc,cond_bind,Option.bind_some,Option.bind_none,elimS_bind]
abbrev cA73:List Sh:=[(.pt 0 []),(.pt 1 [3])]
abbrev cB73:List Sh:=[]
abbrev cT73:List TSh:=[.blk 171 (.pr (.rw 2) (.pr .i (.pr .i (.pr .i .un)))),.blk 90 (.pr .i (.pr .i (.pr .i (.pr (.pr .str (.pr .i (.pr .i .un))) (.pr .i (.pr .i (.pr .str (.pr .bo .un)))))))),.row 5 .u8]
abbrev cU73:List TSh:=[.blk 171 (.pr (.rw 2) (.pr .i (.pr .i (.pr .i .un)))),.blk 90 (.pr .i (.pr .i (.pr .i (.pr (.pr .str (.pr .i (.pr .i .un))) (.pr .i (.pr .i (.pr .str (.pr .bo .un)))))))),.row 5 .u8]
def ct73 (F:Nat):Ct:=mkC 3 cA73 cT73 cB73 cU73 (fun x y=>T73 F y.1.2.1 y.1.2.2.1 y.1.2.2.2.1 y.2.2.1) (fun x y (z:Int×Int×Int×(List UInt8)×Int×Int)=>((),(((),z.1,z.2.1,z.2.2.1,()),(y.2.1.1,y.2.1.2.1,y.2.1.2.2.1,(z.2.2.2.1,z.2.2.2.2.1,z.2.2.2.2.2,()),y.2.1.2.2.2.2.1,y.2.1.2.2.2.2.2.1,y.2.1.2.2.2.2.2.2.1,y.2.1.2.2.2.2.2.2.2.1,()),y.2.2.1,())))
theorem eq73 (F:Nat) (x:dens cA73) (y:tdens cT73):sev (E73 F) 3 [] (bodyOf Tryz.f73) [] (mkSt (rng 2) cA73 cT73 x y) (kFn (E73 F) 3 Tryz.f73.results.toList cB73 cU73 fun p q=>some (p,q)) =
  T73c F y.1.2.1 y.1.2.2.1 y.1.2.2.2.1 y.2.2.1 (fun z=>some ((),(((),z.1,z.2.1,z.2.2.1,()),(y.2.1.1,y.2.1.2.1,y.2.1.2.2.1,(z.2.2.2.1,z.2.2.2.2.1,z.2.2.2.2.2,()),y.2.1.2.2.2.2.1,y.2.1.2.2.2.2.2.1,y.2.1.2.2.2.2.2.2.1,y.2.1.2.2.2.2.2.2.2.1,()),y.2.2.1,()))):=by kernel_rfl
theorem ok73 (F:Nat):Sound Tryz.prog cfg 73 (ct73 F):=
 mkC_ok (E:=E73 F) (lp:=[]) (code:=bodyOf Tryz.f73) Tryz.func73 rfl Tryz.ntmps73 rfl rfl cok (cts73 F) mixed trivial (by kernel_rfl) (fun x y k=>T73c F y.1.2.1 y.1.2.2.1 y.1.2.2.2.1 y.2.2.1 k) (fun x y k=>T73n F y.1.2.1 y.1.2.2.1 y.1.2.2.2.1 y.2.2.1 k) (eq73 F)
def ord67x3:Nat->List (Tag×Nat)
 | _=>[]
def al67x3:Nat->Option Nat
 | _=>none
def ms67x3:Nat->Option (List (Option Tag×Nat×List Nat))
 | _=>none
def E67x3 (F:Nat):Ev:=⟨cfg,17,ctOf [(70,ct70 F)],ord67x3,ctOf [],al67x3,ms67x3⟩
theorem cts67x3 (F:Nat):CtsOk Tryz.prog (E67x3 F):=cts_of (l:=[(70,ct70 F)]) (l':=[]) rfl rfl ⟨⟨ok70 F,_,Tryz.func70,rfl,rfl⟩,trivial⟩ trivial
def T67x3c (F:Nat) (p0:Int) (p1:Int) (p2:Int) (p3:List UInt8) {β:Type} (k:(Int×Int×Int×Int×Int)->Option β):Option β:=
 (Option.bind (T70 F p0 p1 p2 p3) fun z3=>(Option.bind (T70 F z3.2.1 z3.2.2.1 z3.2.2.2 p3) fun z4=>(k (z4.2.1,z4.2.2.1,z4.2.2.2,z3.1,z4.1))))
def T67x3 (F:Nat) (p0:Int) (p1:Int) (p2:Int) (p3:List UInt8):Option (Int×Int×Int×Int×Int):=T67x3c F p0 p1 p2 p3 some
theorem T67x3n (F:Nat) (p0:Int) (p1:Int) (p2:Int) (p3:List UInt8) {β:Type} (k:(Int×Int×Int×Int×Int)->Option β):T67x3c F p0 p1 p2 p3 k=(T67x3 F p0 p1 p2 p3).bind k:=by
 simp only [T67x3,T67x3c,Option.bind_assoc,cond_bind,Option.bind_some,Option.bind_none,elimS_bind]
abbrev cA67x3:List Sh:=[(.pt 0 []),(.ps 1 2)]
abbrev cB67x3:List Sh:=[]
abbrev cT67x3:List TSh:=[.blk 171 (.pr (.rw 2) (.pr .i (.pr .i (.pr .i .un)))),.blk 111 (.pr (.pt 3 [4]) (.pr (.pt 3 [5]) .un)),.row 5 .u8,.blk 90 (.pr .i (.pr .i (.pr .i (.pr (.pr .str (.pr .i (.pr .i .un))) (.pr .i (.pr .i (.pr .str (.pr .bo .un))))))))]
abbrev cU67x3:List TSh:=[.blk 171 (.pr (.rw 2) (.pr .i (.pr .i (.pr .i .un)))),.blk 111 (.pr (.pt 3 [4]) (.pr (.pt 3 [5]) .un)),.row 5 .u8,.blk 90 (.pr .i (.pr .i (.pr .i (.pr (.pr .str (.pr .i (.pr .i .un))) (.pr .i (.pr .i (.pr .str (.pr .bo .un))))))))]
def ct67x3 (F:Nat):Ct:=mkC 4 cA67x3 cT67x3 cB67x3 cU67x3 (fun x y=>T67x3 F y.1.2.1 y.1.2.2.1 y.1.2.2.2.1 y.2.2.1) (fun x y (z:Int×Int×Int×Int×Int)=>((),(((),z.1,z.2.1,z.2.2.1,()),((),(),()),y.2.2.1,(y.2.2.2.1.1,y.2.2.2.1.2.1,y.2.2.2.1.2.2.1,(y.2.2.2.1.2.2.2.1.1,y.2.2.2.1.2.2.2.1.2.1,y.2.2.2.1.2.2.2.1.2.2.1,()),z.2.2.2.1,z.2.2.2.2,y.2.2.2.1.2.2.2.2.2.2.1,y.2.2.2.1.2.2.2.2.2.2.2.1,()),())))
theorem eq67x3 (F:Nat) (x:dens cA67x3) (y:tdens cT67x3):sev (E67x3 F) 4 [] (bodyOf Tryz.f67) [] (mkSt (rng 2) cA67x3 cT67x3 x y) (kFn (E67x3 F) 4 Tryz.f67.results.toList cB67x3 cU67x3 fun p q=>some (p,q)) =
  T67x3c F y.1.2.1 y.1.2.2.1 y.1.2.2.2.1 y.2.2.1 (fun z=>some ((),(((),z.1,z.2.1,z.2.2.1,()),((),(),()),y.2.2.1,(y.2.2.2.1.1,y.2.2.2.1.2.1,y.2.2.2.1.2.2.1,(y.2.2.2.1.2.2.2.1.1,y.2.2.2.1.2.2.2.1.2.1,y.2.2.2.1.2.2.2.1.2.2.1,()),z.2.2.2.1,z.2.2.2.2,y.2.2.2.1.2.2.2.2.2.2.1,y.2.2.2.1.2.2.2.2.2.2.2.1,()),()))):=by kernel_rfl
theorem ok67x3 (F:Nat):Sound Tryz.prog cfg 67 (ct67x3 F):=
 mkC_ok (E:=E67x3 F) (lp:=[]) (code:=bodyOf Tryz.f67) Tryz.func67 rfl Tryz.ntmps67 rfl rfl cok (cts67x3 F) mixed trivial (by kernel_rfl) (fun x y k=>T67x3c F y.1.2.1 y.1.2.2.1 y.1.2.2.2.1 y.2.2.1 k) (fun x y k=>T67x3n F y.1.2.1 y.1.2.2.1 y.1.2.2.2.1 y.2.2.1 k) (eq67x3 F)
def ord126:Nat->List (Tag×Nat)
 | _=>[]
def al126:Nat->Option Nat
 | _=>none
def ms126:Nat->Option (List (Option Tag×Nat×List Nat))
 | _=>none
def E126 (F:Nat):Ev:=⟨cfg,22,ctOf [(160,ct160 F),(130,ct130 F)],ord126,ctOf [],al126,ms126⟩
theorem cts126 (F:Nat):CtsOk Tryz.prog (E126 F):=cts_of (l:=[(160,ct160 F),(130,ct130 F)]) (l':=[]) rfl rfl ⟨⟨ok160 F,_,Tryz.func160,rfl,rfl⟩,⟨⟨ok130 F,_,Tryz.func130,rfl,rfl⟩,trivial⟩⟩ trivial
def T126c (F:Nat) (p0:Int) (p1:Int) (p4:List UInt8) {β:Type} (k:((Nat×Nat)×Int×Int)->Option β):Option β:=
 (Option.bind (T160 F p0 p1 p4) fun z3=>(bif (z3.2.1 != (0:Int)) then (k ((0,0),z3.2.1,z3.2.2)) else (Option.bind (T130 F z3.1 z3.2.2 p4) fun z4=>(k ((z4.1.1,z4.1.2),z4.2.1,z4.2.2)))))
def T126 (F:Nat) (p0:Int) (p1:Int) (p4:List UInt8):Option ((Nat×Nat)×Int×Int):=T126c F p0 p1 p4 some
theorem T126n (F:Nat) (p0:Int) (p1:Int) (p4:List UInt8) {β:Type} (k:((Nat×Nat)×Int×Int)->Option β):T126c F p0 p1 p4 k=(T126 F p0 p1 p4).bind k:=by
 simp only [T126,T126c,Option.bind_assoc,cond_bind,Option.bind_some,Option.bind_none,elimS_bind]
abbrev cA126:List Sh:=[(.pt 0 []),.i]
abbrev cB126:List Sh:=[(.rp 1),.i]
abbrev cT126:List TSh:=[.blk 171 (.pr (.rw 1) (.pr .i (.pr .i (.pr .i .un)))),.row 5 .u8]
abbrev cU126:List TSh:=[.blk 171 (.pr (.rw 1) (.pr .i (.pr .i (.pr .i .un)))),.row 5 .u8]
def ct126 (F:Nat):Ct:=mkC 2 cA126 cT126 cB126 cU126 (fun x y=>T126 F x.2.1 y.1.2.1 y.2.1) (fun x y (z:(Nat×Nat)×Int×Int)=>((z.1,z.2.1,()),(((),z.2.2,y.1.2.2.1,y.1.2.2.2.1,()),y.2.1,())))
theorem eq126 (F:Nat) (x:dens cA126) (y:tdens cT126):sev (E126 F) 2 [] (bodyOf Tryz.f126) [] (mkSt (rng 2) cA126 cT126 x y) (kFn (E126 F) 2 Tryz.f126.results.toList cB126 cU126 fun p q=>some (p,q)) =
  T126c F x.2.1 y.1.2.1 y.2.1 (fun z=>some ((z.1,z.2.1,()),(((),z.2.2,y.1.2.2.1,y.1.2.2.2.1,()),y.2.1,()))):=by kernel_rfl
theorem ok126 (F:Nat):Sound Tryz.prog cfg 126 (ct126 F):=
 mkC_ok (E:=E126 F) (lp:=[]) (code:=bodyOf Tryz.f126) Tryz.func126 rfl Tryz.ntmps126 rfl rfl cok (cts126 F) mixed trivial (by kernel_rfl) (fun x y k=>T126c F x.2.1 y.1.2.1 y.2.1 k) (fun x y k=>T126n F x.2.1 y.1.2.1 y.2.1 k) (eq126 F)
def ord125:Nat->List (Tag×Nat)
 | _=>[]
def al125:Nat->Option Nat
 | _=>none
def ms125:Nat->Option (List (Option Tag×Nat×List Nat))
 | _=>none
def E125 (F:Nat):Ev:=⟨cfg,15,ctOf [(126,ct126 F)],ord125,ctOf [],al125,ms125⟩
theorem cts125 (F:Nat):CtsOk Tryz.prog (E125 F):=cts_of (l:=[(126,ct126 F)]) (l':=[]) rfl rfl ⟨⟨ok126 F,_,Tryz.func126,rfl,rfl⟩,trivial⟩ trivial
def T125c (F:Nat) (p0:Int) (p1:Int) (p4:List UInt8) {β:Type} (k:((List UInt8)×Int×Int)->Option β):Option β:=
 (Option.bind (T126 F p0 p1 p4) fun z2=>(k (((p4.drop z2.1.1).take (z2.1.2 - z2.1.1)),z2.2.1,z2.2.2)))
def T125 (F:Nat) (p0:Int) (p1:Int) (p4:List UInt8):Option ((List UInt8)×Int×Int):=T125c F p0 p1 p4 some
theorem T125n (F:Nat) (p0:Int) (p1:Int) (p4:List UInt8) {β:Type} (k:((List UInt8)×Int×Int)->Option β):T125c F p0 p1 p4 k=(T125 F p0 p1 p4).bind k:=by
 simp only [T125,T125c,Option.bind_assoc,cond_bind,Option.bind_some,Option.bind_none,elimS_bind]
abbrev cA125:List Sh:=[(.pt 0 []),(.re .i)]
abbrev cB125:List Sh:=[.str,.i]
abbrev cT125:List TSh:=[.blk 108 (.pt 1 []),.blk 171 (.pr (.rw 2) (.pr .i (.pr .i (.pr .i .un)))),.row 5 .u8]
abbrev cU125:List TSh:=[.blk 108 (.pt 1 []),.blk 171 (.pr (.rw 2) (.pr .i (.pr .i (.pr .i .un)))),.row 5 .u8]
def ct125 (F:Nat):Ct:=mkC 3 cA125 cT125 cB125 cU125 (fun x y=>T125 F x.2.1 y.2.1.2.1 y.2.2.1) (fun x y (z:(List UInt8)×Int×Int)=>((z.1,z.2.1,()),((),((),z.2.2,y.2.1.2.2.1,y.2.1.2.2.2.1,()),y.2.2.1,())))
theorem eq125 (F:Nat) (x:dens cA125) (y:tdens cT125):sev (E125 F) 3 [] (bodyOf Tryz.f125) [] (mkSt (rng 2) cA125 cT125 x y) (kFn (E125 F) 3 Tryz.f125.results.toList cB125 cU125 fun p q=>some (p,q)) =
  T125c F x.2.1 y.2.1.2.1 y.2.2.1 (fun z=>some ((z.1,z.2.1,()),((),((),z.2.2,y.2.1.2.2.1,y.2.1.2.2.2.1,()),y.2.2.1,()))):=by kernel_rfl
theorem ok125 (F:Nat):Sound Tryz.prog cfg 125 (ct125 F):=
 mkC_ok (E:=E125 F) (lp:=[]) (code:=bodyOf Tryz.f125) Tryz.func125 rfl Tryz.ntmps125 rfl rfl cok (cts125 F) mixed trivial (by kernel_rfl) (fun x y k=>T125c F x.2.1 y.2.1.2.1 y.2.2.1 k) (fun x y k=>T125n F x.2.1 y.2.1.2.1 y.2.2.1 k) (eq125 F)
def ord124x1:Nat->List (Tag×Nat)
 | 5=>[(.c,0),(.p,1),(.w,2),(.p,3),(.p,4),(.p,5),(.w,6),(.p,7),(.p,8),(.b,9)]
 | _=>[]
def al124x1:Nat->Option Nat
 | _=>none
def ms124x1:Nat->Option (List (Option Tag×Nat×List Nat))
 | _=>none
def E124x1 (F:Nat):Ev:=⟨cfg,26,ctOf [(125,ct125 F)],ord124x1,ctOf [(163,ct163 F)],al124x1,ms124x1⟩
theorem cts124x1 (F:Nat):CtsOk Tryz.prog (E124x1 F):=cts_of (l:=[(125,ct125 F)]) (l':=[(163,ct163 F)]) rfl rfl ⟨⟨ok125 F,_,Tryz.func125,rfl,rfl⟩,trivial⟩ ⟨⟨okd163 F,_,Tryz.func163,rfl,rfl⟩,trivial⟩
def T124x1c (F:Nat) (p0:Int) (p1:Int) (p2:Int) (p3:Int) (p4:List UInt8) {β:Type} (k:((List UInt8)×Int×Int×Int)->Option β):Option β:=
 (bif (p2 != (0:Int)) then (k (([]:List UInt8),p0,p1,p2)) else (Option.bind (T125 F p3 p0 p4) fun z3=>(Option.bind (T163 F p0 z3.1 z3.2.2 z3.2.1) fun z4=>(k (z4.1,z4.2,p0,z3.2.1)))))
def T124x1 (F:Nat) (p0:Int) (p1:Int) (p2:Int) (p3:Int) (p4:List UInt8):Option ((List UInt8)×Int×Int×Int):=T124x1c F p0 p1 p2 p3 p4 some
theorem T124x1n (F:Nat) (p0:Int) (p1:Int) (p2:Int) (p3:Int) (p4:List UInt8) {β:Type} (k:((List UInt8)×Int×Int×Int)->Option β):T124x1c F p0 p1 p2 p3 p4 k=(T124x1 F p0 p1 p2 p3 p4).bind k:=by
 simp only [T124x1,T124x1c,Option.bind_assoc,cond_bind,Option.bind_some,Option.bind_none,elimS_bind]
abbrev cA124x1:List Sh:=[(.pt 0 []),(.fn 125 .un (.pr (.pt 1 []) (.pr (.pt 2 []) .un)))]
abbrev cB124x1:List Sh:=[.str]
abbrev cT124x1:List TSh:=[.blk 171 (.pr (.rw 3) (.pr .i (.pr .i (.pr .i .un)))),.blk 108 (.pt 0 []),.blk 3 .i,.row 5 .u8]
abbrev cU124x1:List TSh:=[.blk 171 (.pr (.rw 3) (.pr .i (.pr .i (.pr .i .un)))),.blk 108 (.pt 0 []),.blk 3 .i,.row 5 .u8]
def ct124x1 (F:Nat):Ct:=mkC 4 cA124x1 cT124x1 cB124x1 cU124x1 (fun x y=>T124x1 F y.1.2.1 y.1.2.2.1 y.1.2.2.2.1 y.2.2.1 y.2.2.2.1) (fun x y (z:(List UInt8)×Int×Int×Int)=>((z.1,()),(((),z.2.1,z.2.2.1,z.2.2.2,()),(),y.2.2.1,y.2.2.2.1,())))
theorem eq124x1 (F:Nat) (x:dens cA124x1) (y:tdens cT124x1):sev (E124x1 F) 4 [] (bodyOf Tryz.f124) [] (mkSt (rng 2) cA124x1 cT124x1 x y) (kFn (E124x1 F) 4 Tryz.f124.results.toList cB124x1 cU124x1 fun p q=>some (p,q)) =
  T124x1c F y.1.2.1 y.1.2.2.1 y.1.2.2.2.1 y.2.2.1 y.2.2.2.1 (fun z=>some ((z.1,()),(((),z.2.1,z.2.2.1,z.2.2.2,()),(),y.2.2.1,y.2.2.2.1,()))):=by kernel_rfl
theorem ok124x1 (F:Nat):Sound Tryz.prog cfg 124 (ct124x1 F):=
 mkC_ok (E:=E124x1 F) (lp:=[]) (code:=bodyOf Tryz.f124) Tryz.func124 rfl Tryz.ntmps124 rfl rfl cok (cts124x1 F) mixed trivial (by kernel_rfl) (fun x y k=>T124x1c F y.1.2.1 y.1.2.2.1 y.1.2.2.2.1 y.2.2.1 y.2.2.2.1 k) (fun x y k=>T124x1n F y.1.2.1 y.1.2.2.1 y.1.2.2.2.1 y.2.2.1 y.2.2.2.1 k) (eq124x1 F)
def ord74:Nat->List (Tag×Nat)
 | _=>[]
def al74:Nat->Option Nat
 | _=>none
def ms74:Nat->Option (List (Option Tag×Nat×List Nat))
 | _=>none
def E74 (F:Nat):Ev:=⟨cfg,8,ctOf [(124,ct124x1 F)],ord74,ctOf [],al74,ms74⟩
theorem cts74 (F:Nat):CtsOk Tryz.prog (E74 F):=cts_of (l:=[(124,ct124x1 F)]) (l':=[]) rfl rfl ⟨⟨ok124x1 F,_,Tryz.func124,rfl,rfl⟩,trivial⟩ trivial
def T74c (F:Nat) (p0:Int) (p1:Int) (p2:Int) (p3:Int) (p4:List UInt8) {β:Type} (k:((List UInt8)×Int×Int×Int)->Option β):Option β:=
 (Option.bind (T124x1 F p1 p2 p3 p0 p4) fun z2=>(k (z2.1,z2.2.1,z2.2.2.1,z2.2.2.2)))
def T74 (F:Nat) (p0:Int) (p1:Int) (p2:Int) (p3:Int) (p4:List UInt8):Option ((List UInt8)×Int×Int×Int):=T74c F p0 p1 p2 p3 p4 some
theorem T74n (F:Nat) (p0:Int) (p1:Int) (p2:Int) (p3:Int) (p4:List UInt8) {β:Type} (k:((List UInt8)×Int×Int×Int)->Option β):T74c F p0 p1 p2 p3 p4 k=(T74 F p0 p1 p2 p3 p4).bind k:=by
 simp only [T74,T74c,Option.bind_assoc,cond_bind,Option.bind_some,Option.bind_none,elimS_bind]
abbrev cA74:List Sh:=[(.pt 0 []),.i]
abbrev cB74:List Sh:=[.str]
abbrev cT74:List TSh:=[.blk 171 (.pr (.rw 1) (.pr .i (.pr .i (.pr .i .un)))),.row 5 .u8]
abbrev cU74:List TSh:=[.blk 171 (.pr (.rw 1) (.pr .i (.pr .i (.pr .i .un)))),.row 5 .u8]
def ct74 (F:Nat):Ct:=mkC 2 cA74 cT74 cB74 cU74 (fun x y=>T74 F x.2.1 y.1.2.1 y.1.2.2.1 y.1.2.2.2.1 y.2.1) (fun x y (z:(List UInt8)×Int×Int×Int)=>((z.1,()),(((),z.2.1,z.2.2.1,z.2.2.2,()),y.2.1,())))
theorem eq74 (F:Nat) (x:dens cA74) (y:tdens cT74):sev (E74 F) 2 [] (bodyOf Tryz.f74) [] (mkSt (rng 2) cA74 cT74 x y) (kFn (E74 F) 2 Tryz.f74.results.toList cB74 cU74 fun p q=>some (p,q)) =
  T74c F x.2.1 y.1.2.1 y.1.2.2.1 y.1.2.2.2.1 y.2.1 (fun z=>some ((z.1,()),(((),z.2.1,z.2.2.1,z.2.2.2,()),y.2.1,()))):=by kernel_rfl
theorem ok74 (F:Nat):Sound Tryz.prog cfg 74 (ct74 F):=
 mkC_ok (E:=E74 F) (lp:=[]) (code:=bodyOf Tryz.f74) Tryz.func74 rfl Tryz.ntmps74 rfl rfl cok (cts74 F) mixed trivial (by kernel_rfl) (fun x y k=>T74c F x.2.1 y.1.2.1 y.1.2.2.1 y.1.2.2.2.1 y.2.1 k) (fun x y k=>T74n F x.2.1 y.1.2.1 y.1.2.2.1 y.1.2.2.2.1 y.2.1 k) (eq74 F)
def ord128:Nat->List (Tag×Nat)
 | 1=>[(.r,0),(.p,1),(.p,2),(.r,3),(.r,4),(.p,5),(.p,6),(.r,7),(.p,8),(.p,9),(.p,10),(.r,11),(.p,12),(.p,13),(.r,14),(.r,15),(.p,16),(.p,17),(.r,18),(.p,19),(.r,20),(.p,21),(.p,22)]
 | 3=>[(.r,0),(.p,1),(.p,2),(.r,3),(.r,4),(.p,5),(.p,6),(.r,7),(.p,8),(.r,9),(.p,10)]
 | _=>[]
def al128:Nat->Option Nat
 | _=>none
def ms128:Nat->Option (List (Option Tag×Nat×List Nat))
 | _=>none
def E128 (F:Nat):Ev:=⟨cfg,46,ctOf [],ord128,ctOf [],al128,ms128⟩
theorem cts128 (F:Nat):CtsOk Tryz.prog (E128 F):=cts_of (l:=[]) (l':=[]) rfl rfl trivial trivial
def T128c (F:Nat) (p0:Int) (p3:List UInt8) {β:Type} (k:(Bool×Int×Int)->Option β):Option β:=
 (bif (p0 == (p3.length:Int)) then (k (false,(3:Int),p0)) else (Option.bind (inb p3.length p0) fun x5=>(Option.bind (p3[x5]?) fun x6=>(bif (decide ((UInt8.ofNat 1) < x6)) then (k (false,(3:Int),p0)) else (Option.bind (inb p3.length p0) fun x7=>(Option.bind (p3[x7]?) fun x8=>(k ((x8 == (UInt8.ofNat 1)),(0:Int),(w64 (p0 + (1:Int)))))))))))
def T128 (F:Nat) (p0:Int) (p3:List UInt8):Option (Bool×Int×Int):=T128c F p0 p3 some
theorem T128n (F:Nat) (p0:Int) (p3:List UInt8) {β:Type} (k:(Bool×Int×Int)->Option β):T128c F p0 p3 k=(T128 F p0 p3).bind k:=by
 simp only [T128,T128c,Option.bind_assoc,cond_bind,Option.bind_some,Option.bind_none,elimS_bind]
abbrev cA128:List Sh:=[(.pt 0 [])]
abbrev cB128:List Sh:=[.bo,.i]
abbrev cT128:List TSh:=[.blk 108 (.pt 1 []),.blk 171 (.pr (.rw 2) (.pr .i (.pr .i (.pr .i .un)))),.row 5 .u8]
abbrev cU128:List TSh:=[.blk 108 (.pt 1 []),.blk 171 (.pr (.rw 2) (.pr .i (.pr .i (.pr .i .un)))),.row 5 .u8]
def ct128 (F:Nat):Ct:=mkC 3 cA128 cT128 cB128 cU128 (fun x y=>T128 F y.2.1.2.1 y.2.2.1) (fun x y (z:Bool×Int×Int)=>((z.1,z.2.1,()),((),((),z.2.2,y.2.1.2.2.1,y.2.1.2.2.2.1,()),y.2.2.1,())))
theorem eq128 (F:Nat) (x:dens cA128) (y:tdens cT128):sev (E128 F) 3 [] (bodyOf Tryz.f128) [] (mkSt (rng 1) cA128 cT128 x y) (kFn (E128 F) 3 Tryz.f128.results.toList cB128 cU128 fun p q=>some (p,q)) =
  T128c F y.2.1.2.1 y.2.2.1 (fun z=>some ((z.1,z.2.1,()),((),((),z.2.2,y.2.1.2.2.1,y.2.1.2.2.2.1,()),y.2.2.1,()))):=by kernel_rfl
theorem ok128 (F:Nat):Sound Tryz.prog cfg 128 (ct128 F):=
 mkC_ok (E:=E128 F) (lp:=[]) (code:=bodyOf Tryz.f128) Tryz.func128 rfl Tryz.ntmps128 rfl rfl cok (cts128 F) mixed trivial (by kernel_rfl) (fun x y k=>T128c F y.2.1.2.1 y.2.2.1 k) (fun x y k=>T128n F y.2.1.2.1 y.2.2.1 k) (eq128 F)
def ord164:Nat->List (Tag×Nat)
 | _=>[]
def al164:Nat->Option Nat
 | _=>none
def ms164:Nat->Option (List (Option Tag×Nat×List Nat))
 | _=>none
def E164 (F:Nat):Ev:=⟨cfg,18,ctOf [],ord164,ctOf [],al164,ms164⟩
theorem cts164 (F:Nat):CtsOk Tryz.prog (E164 F):=cts_of (l:=[]) (l':=[]) rfl rfl trivial trivial
def T164c (F:Nat) (p0:Int) (p1:Bool) (p2:Int) (p4:Int) {β:Type} (k:(Bool×Int)->Option β):Option β:=
 (bif (p4 != (0:Int)) then (k (false,p0)) else (k (p1,p2)))
def T164 (F:Nat) (p0:Int) (p1:Bool) (p2:Int) (p4:Int):Option (Bool×Int):=T164c F p0 p1 p2 p4 some
theorem T164n (F:Nat) (p0:Int) (p1:Bool) (p2:Int) (p4:Int) {β:Type} (k:(Bool×Int)->Option β):T164c F p0 p1 p2 p4 k=(T164 F p0 p1 p2 p4).bind k:=by
 simp only [T164,T164c,Option.bind_assoc,cond_bind,Option.bind_some,Option.bind_none,elimS_bind]
abbrev cA164:List Sh:=[(.re .i),(.pt 0 []),(.pt 1 [])]
abbrev cB164:List Sh:=[]
abbrev cT164:List TSh:=[.blk 108 (.pt 2 []),.blk 4 .bo,.blk 171 (.pr (.rw 3) (.pr .i (.pr .i (.pr .i .un)))),.row 5 .u8]
abbrev cU164:List TSh:=[.blk 108 (.pt 2 []),.blk 4 .bo,.blk 171 (.pr (.rw 3) (.pr .i (.pr .i (.pr .i .un)))),.row 5 .u8]
def ct164 (F:Nat):Ct:=mkC 4 cA164 cT164 cB164 cU164 (fun x y=>T164 F x.1 y.2.1 y.2.2.1.2.1 y.2.2.1.2.2.2.1) (fun x y (z:Bool×Int)=>((),((),z.1,((),z.2,x.1,y.2.2.1.2.2.2.1,()),y.2.2.2.1,())))
theorem eq164 (F:Nat) (x:dens cA164) (y:tdens cT164):sev (E164 F) 4 [] (bodyOf Tryz.f164) [] (mkSt (rng 3) cA164 cT164 x y) (kFn (E164 F) 4 Tryz.f164.results.toList cB164 cU164 fun p q=>some (p,q)) =
  T164c F x.1 y.2.1 y.2.2.1.2.1 y.2.2.1.2.2.2.1 (fun z=>some ((),((),z.1,((),z.2,x.1,y.2.2.1.2.2.2.1,()),y.2.2.2.1,()))):=by kernel_rfl
theorem okd164 (F:Nat):SoundK Tryz.prog cfg true 164 (ct164 F):=
 mkC_okK (E:=E164 F) true (fun _ _=>rfl) (lp:=[]) (code:=bodyOf Tryz.f164) Tryz.func164 rfl Tryz.ntmps164 rfl rfl cok (cts164 F) mixed trivial (by kernel_rfl) (fun x y k=>T164c F x.1 y.2.1 y.2.2.1.2.1 y.2.2.1.2.2.2.1 k) (fun x y k=>T164n F x.1 y.2.1 y.2.2.1.2.1 y.2.2.1.2.2.2.1 k) (eq164 F)
def ord127:Nat->List (Tag×Nat)
 | 5=>[(.c,0),(.p,1),(.w,2),(.p,3),(.p,4),(.p,5),(.w,6),(.p,7),(.p,8),(.b,9)]
 | _=>[]
def al127:Nat->Option Nat
 | _=>none
def ms127:Nat->Option (List (Option Tag×Nat×List Nat))
 | _=>none
def E127 (F:Nat):Ev:=⟨cfg,26,ctOf [(128,ct128 F)],ord127,ctOf [(164,ct164 F)],al127,ms127⟩
theorem cts127 (F:Nat):CtsOk Tryz.prog (E127 F):=cts_of (l:=[(128,ct128 F)]) (l':=[(164,ct164 F)]) rfl rfl ⟨⟨ok128 F,_,Tryz.func128,rfl,rfl⟩,trivial⟩ ⟨⟨okd164 F,_,Tryz.func164,rfl,rfl⟩,trivial⟩
def T127c (F:Nat) (p0:Int) (p1:Int) (p2:Int) (p3:List UInt8) {β:Type} (k:(Bool×Int×Int×Int)->Option β):Option β:=
 (bif (p2 != (0:Int)) then (k (false,p0,p1,p2)) else (Option.bind (T128 F p0 p3) fun z3=>(Option.bind (T164 F p0 z3.1 z3.2.2 z3.2.1) fun z4=>(k (z4.1,z4.2,p0,z3.2.1)))))
def T127 (F:Nat) (p0:Int) (p1:Int) (p2:Int) (p3:List UInt8):Option (Bool×Int×Int×Int):=T127c F p0 p1 p2 p3 some
theorem T127n (F:Nat) (p0:Int) (p1:Int) (p2:Int) (p3:List UInt8) {β:Type} (k:(Bool×Int×Int×Int)->Option β):T127c F p0 p1 p2 p3 k=(T127 F p0 p1 p2 p3).bind k:=by
 simp only [T127,T127c,Option.bind_assoc,cond_bind,Option.bind_some,Option.bind_none,elimS_bind]
abbrev cA127:List Sh:=[(.pt 0 []),(.fn 128 .un (.pr (.pt 1 []) .un))]
abbrev cB127:List Sh:=[.bo]
abbrev cT127:List TSh:=[.blk 171 (.pr (.rw 2) (.pr .i (.pr .i (.pr .i .un)))),.blk 108 (.pt 0 []),.row 5 .u8]
abbrev cU127:List TSh:=[.blk 171 (.pr (.rw 2) (.pr .i (.pr .i (.pr .i .un)))),.blk 108 (.pt 0 []),.row 5 .u8]
def ct127 (F:Nat):Ct:=mkC 3 cA127 cT127 cB127 cU127 (fun x y=>T127 F y.1.2.1 y.1.2.2.1 y.1.2.2.2.1 y.2.2.1) (fun x y (z:Bool×Int×Int×Int)=>((z.1,()),(((),z.2.1,z.2.2.1,z.2.2.2,()),(),y.2.2.1,())))
theorem eq127 (F:Nat) (x:dens cA127) (y:tdens cT127):sev (E127 F) 3 [] (bodyOf Tryz.f127) [] (mkSt (rng 2) cA127 cT127 x y) (kFn (E127 F) 3 Tryz.f127.results.toList cB127 cU127 fun p q=>some (p,q)) =
  T127c F y.1.2.1 y.1.2.2.1 y.1.2.2.2.1 y.2.2.1 (fun z=>some ((z.1,()),(((),z.2.1,z.2.2.1,z.2.2.2,()),(),y.2.2.1,()))):=by kernel_rfl
theorem ok127 (F:Nat):Sound Tryz.prog cfg 127 (ct127 F):=
 mkC_ok (E:=E127 F) (lp:=[]) (code:=bodyOf Tryz.f127) Tryz.func127 rfl Tryz.ntmps127 rfl rfl cok (cts127 F) mixed trivial (by kernel_rfl) (fun x y k=>T127c F y.1.2.1 y.1.2.2.1 y.1.2.2.2.1 y.2.2.1 k) (fun x y k=>T127n F y.1.2.1 y.1.2.2.1 y.1.2.2.2.1 y.2.2.1 k) (eq127 F)
def ord75:Nat->List (Tag×Nat)
 | _=>[]
def al75:Nat->Option Nat
 | _=>none
def ms75:Nat->Option (List (Option Tag×Nat×List Nat))
 | _=>none
def E75 (F:Nat):Ev:=⟨cfg,6,ctOf [(127,ct127 F)],ord75,ctOf [],al75,ms75⟩
theorem cts75 (F:Nat):CtsOk Tryz.prog (E75 F):=cts_of (l:=[(127,ct127 F)]) (l':=[]) rfl rfl ⟨⟨ok127 F,_,Tryz.func127,rfl,rfl⟩,trivial⟩ trivial
def T75c (F:Nat) (p0:Int) (p1:Int) (p2:Int) (p3:List UInt8) {β:Type} (k:(Bool×Int×Int×Int)->Option β):Option β:=
 (Option.bind (T127 F p0 p1 p2 p3) fun z2=>(k (z2.1,z2.2.1,z2.2.2.1,z2.2.2.2)))
def T75 (F:Nat) (p0:Int) (p1:Int) (p2:Int) (p3:List UInt8):Option (Bool×Int×Int×Int):=T75c F p0 p1 p2 p3 some
theorem T75n (F:Nat) (p0:Int) (p1:Int) (p2:Int) (p3:List UInt8) {β:Type} (k:(Bool×Int×Int×Int)->Option β):T75c F p0 p1 p2 p3 k=(T75 F p0 p1 p2 p3).bind k:=by
 simp only [T75,T75c,Option.bind_assoc,cond_bind,Option.bind_some,Option.bind_none,elimS_bind]
abbrev cA75:List Sh:=[(.pt 0 [])]
abbrev cB75:List Sh:=[.bo]
abbrev cT75:List TSh:=[.blk 171 (.pr (.rw 1) (.pr .i (.pr .i (.pr .i .un)))),.row 5 .u8]
abbrev cU75:List TSh:=[.blk 171 (.pr (.rw 1) (.pr .i (.pr .i (.pr .i .un)))),.row 5 .u8]
def ct75 (F:Nat):Ct:=mkC 2 cA75 cT75 cB75 cU75 (fun x y=>T75 F y.1.2.1 y.1.2.2.1 y.1.2.2.2.1 y.2.1) (fun x y (z:Bool×Int×Int×Int)=>((z.1,()),(((),z.2.1,z.2.2.1,z.2.2.2,()),y.2.1,())))
theorem eq75 (F:Nat) (x:dens cA75) (y:tdens cT75):sev (E75 F) 2 [] (bodyOf Tryz.f75) [] (mkSt (rng 1) cA75 cT75 x y) (kFn (E75 F) 2 Tryz.f75.results.toList cB75 cU75 fun p q=>some (p,q)) =
  T75c F y.1.2.1 y.1.2.2.1 y.1.2.2.2.1 y.2.1 (fun z=>some ((z.1,()),(((),z.2.1,z.2.2.1,z.2.2.2,()),y.2.1,()))):=by kernel_rfl
theorem ok75 (F:Nat):Sound Tryz.prog cfg 75 (ct75 F):=
 mkC_ok (E:=E75 F) (lp:=[]) (code:=bodyOf Tryz.f75) Tryz.func75 rfl Tryz.ntmps75 rfl rfl cok (cts75 F) mixed trivial (by kernel_rfl) (fun x y k=>T75c F y.1.2.1 y.1.2.2.1 y.1.2.2.2.1 y.2.1 k) (fun x y k=>T75n F y.1.2.1 y.1.2.2.1 y.1.2.2.2.1 y.2.1 k) (eq75 F)
def ord72:Nat->List (Tag×Nat)
 | 0=>[(.c,0),(.p,1),(.p,2),(.p,3),(.p,4),(.p,5),(.p,6),(.p,7),(.p,8),(.p,9),(.w,10),(.w,11)]
 | 1=>[(.r,0),(.p,1),(.p,2),(.p,3),(.w,4)]
 | 2=>[(.c,0),(.p,1),(.p,2),(.p,3),(.p,4),(.p,5),(.p,6),(.w,7),(.w,8)]
 | _=>[]
def al72:Nat->Option Nat
 | _=>none
def ms72:Nat->Option (List (Option Tag×Nat×List Nat))
 | _=>none
def E72 (F:Nat):Ev:=⟨cfg,39,ctOf [(67,ct67x1 F),(73,ct73 F),(67,ct67x3 F),(74,ct74 F),(75,ct75 F)],ord72,ctOf [],al72,ms72⟩
theorem cts72 (F:Nat):CtsOk Tryz.prog (E72 F):=cts_of (l:=[(67,ct67x1 F),(73,ct73 F),(67,ct67x3 F),(74,ct74 F),(75,ct75 F)]) (l':=[]) rfl rfl ⟨⟨ok67x1 F,_,Tryz.func67,rfl,rfl⟩,⟨⟨ok73 F,_,Tryz.func73,rfl,rfl⟩,⟨⟨ok67x3 F,_,Tryz.func67,rfl,rfl⟩,⟨⟨ok74 F,_,Tryz.func74,rfl,rfl⟩,⟨⟨ok75 F,_,Tryz.func75,rfl,rfl⟩,trivial⟩⟩⟩⟩⟩ trivial
def T72c (F:Nat) (p10:Int) (p11:Int) (p12:Int) (p13:List UInt8) {β:Type} (k:(Int×Int×Int×(List UInt8)×Int×Int×Int×Int×(List UInt8)×Bool×Int×Int×Int)->Option β):Option β:=
 (Option.bind (T67x1 F p10 p11 p12 p13) fun z6=>(Option.bind (T73 F z6.1 z6.2.1 z6.2.2.1 p13) fun z7=>(Option.bind (T67x3 F z7.1 z7.2.1 z7.2.2.1 p13) fun z8=>(Option.bind (T74 F (32:Int) z8.1 z8.2.1 z8.2.2.1 p13) fun z9=>(Option.bind (T75 F z9.2.1 z9.2.2.1 z9.2.2.2 p13) fun z10=>(k (z6.2.2.2.1,z6.2.2.2.2.1,z6.2.2.2.2.2,z7.2.2.2.1,z7.2.2.2.2.1,z7.2.2.2.2.2,z8.2.2.2.1,z8.2.2.2.2,z9.1,z10.1,z10.2.1,z10.2.2.1,z10.2.2.2)))))))
def T72 (F:Nat) (p10:Int) (p11:Int) (p12:Int) (p13:List UInt8):Option (Int×Int×Int×(List UInt8)×Int×Int×Int×Int×(List UInt8)×Bool×Int×Int×Int):=T72c F p10 p11 p12 p13 some
theorem T72n (F:Nat) (p10:Int) (p11:Int) (p12:Int) (p13:List UInt8) {β:Type} (k:(Int×Int×Int×(List UInt8)×Int×Int×Int×Int×(List UInt8)×Bool×Int×Int×Int)->Option β):T72c F p10 p11 p12 p13 k=(T72 F p10 p11 p12 p13).bind k:=by
 simp only [T72,T72c,Option.bind_assoc,cond_bind,Option.bind_some,Option.bind_none,elimS_bind]
abbrev cA72:List Sh:=[(.pt 0 []),(.pt 1 [])]
abbrev cB72:List Sh:=[]
abbrev cT72:List TSh:=[.blk 90 (.pr .i (.pr .i (.pr .i (.pr (.pr .str (.pr .i (.pr .i .un))) (.pr .i (.pr .i (.pr .str (.pr .bo .un)))))))),.blk 108 (.pt 2 []),.blk 171 (.pr (.rw 3) (.pr .i (.pr .i (.pr .i .un)))),.row 5 .u8]
abbrev cU72:List TSh:=[.blk 90 (.pr .i (.pr .i (.pr .i (.pr (.pr .str (.pr .i (.pr .i .un))) (.pr .i (.pr .i (.pr .str (.pr .bo .un)))))))),.blk 108 (.pt 2 []),.blk 171 (.pr (.rw 3) (.pr .i (.pr .i (.pr .i .un)))),.row 5 .u8]
def ct72 (F:Nat):Ct:=mkC 4 cA72 cT72 cB72 cU72 (fun x y=>T72 F y.2.2.1.2.1 y.2.2.1.2.2.1 y.2.2.1.2.2.2.1 y.2.2.2.1) (fun x y (z:Int×Int×Int×(List UInt8)×Int×Int×Int×Int×(List UInt8)×Bool×Int×Int×Int)=>((),((z.1,z.2.1,z.2.2.1,(z.2.2.2.1,z.2.2.2.2.1,z.2.2.2.2.2.1,()),z.2.2.2.2.2.2.1,z.2.2.2.2.2.2.2.1,z.2.2.2.2.2.2.2.2.1,z.2.2.2.2.2.2.2.2.2.1,()),(),((),z.2.2.2.2.2.2.2.2.2.2.1,z.2.2.2.2.2.2.2.2.2.2.2.1,z.2.2.2.2.2.2.2.2.2.2.2.2,()),y.2.2.2.1,())))
theorem eq72 (F:Nat) (x:dens cA72) (y:tdens cT72):sev (E72 F) 4 [] (bodyOf Tryz.f72) [] (mkSt (rng 2) cA72 cT72 x y) (kFn (E72 F) 4 Tryz.f72.results.toList cB72 cU72 fun p q=>some (p,q)) =
  T72c F y.2.2.1.2.1 y.2.2.1.2.2.1 y.2.2.1.2.2.2.1 y.2.2.2.1 (fun z=>some ((),((z.1,z.2.1,z.2.2.1,(z.2.2.2.1,z.2.2.2.2.1,z.2.2.2.2.2.1,()),z.2.2.2.2.2.2.1,z.2.2.2.2.2.2.2.1,z.2.2.2.2.2.2.2.2.1,z.2.2.2.2.2.2.2.2.2.1,()),(),((),z.2.2.2.2.2.2.2.2.2.2.1,z.2.2.2.2.2.2.2.2.2.2.2.1,z.2.2.2.2.2.2.2.2.2.2.2.2,()),y.2.2.2.1,()))):=by kernel_rfl
theorem ok72 (F:Nat):Sound Tryz.prog cfg 72 (ct72 F):=
 mkC_ok (E:=E72 F) (lp:=[]) (code:=bodyOf Tryz.f72) Tryz.func72 rfl Tryz.ntmps72 rfl rfl cok (cts72 F) mixed trivial (by kernel_rfl) (fun x y k=>T72c F y.2.2.1.2.1 y.2.2.1.2.2.1 y.2.2.1.2.2.2.1 y.2.2.2.1 k) (fun x y k=>T72n F y.2.2.1.2.1 y.2.2.1.2.2.1 y.2.2.1.2.2.2.1 y.2.2.2.1 k) (eq72 F)
def ord71:Nat->List (Tag×Nat)
 | _=>[]
def al71:Nat->Option Nat
 | _=>none
def ms71:Nat->Option (List (Option Tag×Nat×List Nat))
 | _=>none
def E71 (F:Nat):Ev:=⟨cfg,22,ctOf [(121,ct121 F),(72,ct72 F)],ord71,ctOf [],al71,ms71⟩
theorem cts71 (F:Nat):CtsOk Tryz.prog (E71 F):=cts_of (l:=[(121,ct121 F),(72,ct72 F)]) (l':=[]) rfl rfl ⟨⟨ok121 F,_,Tryz.func121,rfl,rfl⟩,⟨⟨ok72 F,_,Tryz.func72,rfl,rfl⟩,trivial⟩⟩ trivial
def L71_2c (F:Nat) (y31:Int) (y36:List UInt8) (y32:Int) (y33:Int) (y34:Int) (y35:Int) (y37:List (Int×Int×Int×((List UInt8)×Int×Int×Unit)×Int×Int×(List UInt8)×Bool×Unit)) {β:Type} (kA:(Int×Int×Int×Int×(List (Int×Int×Int×((List UInt8)×Int×Int×Unit)×Int×Int×(List UInt8)×Bool×Unit)))->Option β) (kO:(Int×Int×Int×(List (Int×Int×Int×((List UInt8)×Int×Int×Unit)×Int×Int×(List UInt8)×Bool×Unit)))->Option β):Option β:=
 (bif (decide (y32 < y31)) then (Option.bind (T72 F y33 y34 y35 y36) fun z40=>(Option.bind (gapp y37 ([(z40.1,z40.2.1,z40.2.2.1,(z40.2.2.2.1,z40.2.2.2.2.1,z40.2.2.2.2.2.1,()),z40.2.2.2.2.2.2.1,z40.2.2.2.2.2.2.2.1,z40.2.2.2.2.2.2.2.2.1,z40.2.2.2.2.2.2.2.2.2.1,())]:List (Int×Int×Int×((List UInt8)×Int×Int×Unit)×Int×Int×(List UInt8)×Bool×Unit))) fun x41=>(kA ((w64 (y32 + (1:Int))),z40.2.2.2.2.2.2.2.2.2.2.1,z40.2.2.2.2.2.2.2.2.2.2.2.1,z40.2.2.2.2.2.2.2.2.2.2.2.2,x41)))) else (kO (y33,y34,y35,y37)))
def L71_2 (F:Nat) (y31:Int) (y36:List UInt8) (y32:Int) (y33:Int) (y34:Int) (y35:Int) (y37:List (Int×Int×Int×((List UInt8)×Int×Int×Unit)×Int×Int×(List UInt8)×Bool×Unit)):Option ((Int×Int×Int×Int×(List (Int×Int×Int×((List UInt8)×Int×Int×Unit)×Int×Int×(List UInt8)×Bool×Unit))) ⊕ (Int×Int×Int×(List (Int×Int×Int×((List UInt8)×Int×Int×Unit)×Int×Int×(List UInt8)×Bool×Unit)))):=L71_2c F y31 y36 y32 y33 y34 y35 y37 (fun s=>some (.inl s)) (fun z=>some (.inr z))
theorem L71_2n (F:Nat) (y31:Int) (y36:List UInt8) (y32:Int) (y33:Int) (y34:Int) (y35:Int) (y37:List (Int×Int×Int×((List UInt8)×Int×Int×Unit)×Int×Int×(List UInt8)×Bool×Unit)) {β:Type} (kA:(Int×Int×Int×Int×(List (Int×Int×Int×((List UInt8)×Int×Int×Unit)×Int×Int×(List UInt8)×Bool×Unit)))->Option β) (kO:(Int×Int×Int×(List (Int×Int×Int×((List UInt8)×Int×Int×Unit)×Int×Int×(List UInt8)×Bool×Unit)))->Option β):L71_2c F y31 y36 y32 y33 y34 y35 y37 kA kO=(L71_2 F y31 y36 y32 y33 y34 y35 y37).bind (elimS kA kO):=by
 simp only [L71_2,L71_2c,Option.bind_assoc,cond_bind,Option.bind_some,Option.bind_none,elimS_l,elimS_r,elimS_bind]
abbrev sA71_2:List Sh:=[(.fn 72 .un (.pr (.pt 1 []) .un)),(.rw 3),.i,.i]
abbrev sAp171_2:List Sh:=[(.rw 3)]
abbrev sT71_2:List TSh:=[.blk 171 (.pr (.rw 2) (.pr .i (.pr .i (.pr .i .un)))),.blk 108 (.pt 0 []),.row 5 .u8,.row 90 (.pr .i (.pr .i (.pr .i (.pr (.pr .s (.pr .i (.pr .i .un))) (.pr .i (.pr .i (.pr .s (.pr .bo .un))))))))]
abbrev sTp171_2:List TSh:=[.blk 171 (.pr (.rw 2) (.pr .i (.pr .i (.pr .i .un)))),.blk 108 (.pt 0 []),.row 5 .u8,.row 90 (.pr .i (.pr .i (.pr .i (.pr (.pr .s (.pr .i (.pr .i .un))) (.pr .i (.pr .i (.pr .s (.pr .bo .un))))))))]
def lc71_2 (F:Nat):Lc:=mkL [2,7,11,12] sA71_2 sT71_2 [7] sAp171_2 sTp171_2 F (fun x y (s:Int×Int×Int×Int×(List (Int×Int×Int×((List UInt8)×Int×Int×Unit)×Int×Int×(List UInt8)×Bool×Unit)))=>L71_2 F x.2.2.1 y.2.2.1 s.1 s.2.1 s.2.2.1 s.2.2.2.1 s.2.2.2.2) (fun x y=>(x.2.2.2.1,y.1.2.1,y.1.2.2.1,y.1.2.2.2.1,y.2.2.2.1)) (fun x y (z:Int×Int×Int×(List (Int×Int×Int×((List UInt8)×Int×Int×Unit)×Int×Int×(List UInt8)×Bool×Unit)))=>(((),()),(((),z.1,z.2.1,z.2.2.1,()),(),y.2.2.1,z.2.2.2,())))
theorem le71_2 (F:Nat) (x:dens sA71_2) (y:tdens sT71_2) (s:Int×Int×Int×Int×(List (Int×Int×Int×((List UInt8)×Int×Int×Unit)×Int×Int×(List UInt8)×Bool×Unit))):sev (E71 F) 3 [] (cAt (bodyOf Tryz.f71) (0 :: 0 :: [1,0,1,1])) (0 :: 0 :: [1,0,1,1]) (mkSt [2,7,11,12] sA71_2 sT71_2 (((),((),())),(),x.2.2.1,s.1,()) (((),s.2.1,s.2.2.1,s.2.2.2.1,()),(),y.2.2.1,s.2.2.2.2,())) (kLoop 3 [2,7,11,12] sA71_2 sT71_2 [7] sAp171_2 sTp171_2 [] [] [] 0 (fun x y=>some (.inl (x,y))) (fun x y=>some (.inr (.inl (x,y)))) (fun x y=>some (.inr (.inr (x,y))))) =
  L71_2c (β:=Full sA71_2 sT71_2 sAp171_2 sTp171_2 [] []) F x.2.2.1 y.2.2.1 s.1 s.2.1 s.2.2.1 s.2.2.2.1 s.2.2.2.2 (fun s=>some (.inl ((((),((),())),(),x.2.2.1,s.1,()),(((),s.2.1,s.2.2.1,s.2.2.2.1,()),(),y.2.2.1,s.2.2.2.2,())))) (fun z=>some (.inr (.inl (((),()),(((),z.1,z.2.1,z.2.2.1,()),(),y.2.2.1,z.2.2.2,()))))):=by kernel_rfl
theorem lo71_2 (F:Nat):LcOk Tryz.prog (E71 F) 3 (lc71_2 F) (cAt (bodyOf Tryz.f71) [1,0,1,1]):=
 mkL_ok (lp:=[]) (id:=0) (b:=cAt (bodyOf Tryz.f71) (0 :: 0 :: [1,0,1,1])) cok (cts71 F) mixed trivial (by kernel_rfl) (by kernel_rfl) (fun x y s=>(((),((),())),(),x.2.2.1,s.1,())) (fun x y s=>(((),s.2.1,s.2.2.1,s.2.2.2.1,()),(),y.2.2.1,s.2.2.2.2,())) (fun x y=>rfl) (fun x y=>rfl) (fun x y s kA kO=>L71_2c F x.2.2.1 y.2.2.1 s.1 s.2.1 s.2.2.1 s.2.2.2.1 s.2.2.2.2 kA kO) (fun x y s kA kO=>L71_2n F x.2.2.1 y.2.2.1 s.1 s.2.1 s.2.2.1 s.2.2.2.1 s.2.2.2.2 kA kO) (le71_2 F)
def T71c (F:Nat) (p0:Int) (p1:Int) (p2:Int) (p3:Int) (p4:List UInt8) {β:Type} (k:(Int×Int×Int×(List (Int×Int×Int×((List UInt8)×Int×Int×Unit)×Int×Int×(List UInt8)×Bool×Unit)))->Option β):Option β:=
 (Option.bind (T121 F p0 p1 p2 p3 p4) fun z22=>(Option.bind (iter (fun s=>L71_2 F z22.1 p4 s.1 s.2.1 s.2.2.1 s.2.2.2.1 s.2.2.2.2) F ((0:Int),z22.2.1,z22.2.2.1,z22.2.2.2,([]:List (Int×Int×Int×((List UInt8)×Int×Int×Unit)×Int×Int×(List UInt8)×Bool×Unit)))) fun z42=>(k (z42.1,z42.2.1,z42.2.2.1,z42.2.2.2))))
def T71 (F:Nat) (p0:Int) (p1:Int) (p2:Int) (p3:Int) (p4:List UInt8):Option (Int×Int×Int×(List (Int×Int×Int×((List UInt8)×Int×Int×Unit)×Int×Int×(List UInt8)×Bool×Unit))):=T71c F p0 p1 p2 p3 p4 some
theorem T71n (F:Nat) (p0:Int) (p1:Int) (p2:Int) (p3:Int) (p4:List UInt8) {β:Type} (k:(Int×Int×Int×(List (Int×Int×Int×((List UInt8)×Int×Int×Unit)×Int×Int×(List UInt8)×Bool×Unit)))->Option β):T71c F p0 p1 p2 p3 p4 k=(T71 F p0 p1 p2 p3 p4).bind k:=by
 simp only [T71,T71c,Option.bind_assoc,cond_bind,Option.bind_some,Option.bind_none,elimS_bind]
abbrev cA71:List Sh:=[(.pt 0 []),.i,(.fn 72 .un (.pr (.pt 1 []) .un))]
abbrev cB71:List Sh:=[(.rw 3)]
abbrev cT71:List TSh:=[.blk 171 (.pr (.rw 2) (.pr .i (.pr .i (.pr .i .un)))),.blk 108 (.pt 0 []),.row 5 .u8]
abbrev cU71:List TSh:=[.blk 171 (.pr (.rw 2) (.pr .i (.pr .i (.pr .i .un)))),.blk 108 (.pt 0 []),.row 5 .u8,.row 90 (.pr .i (.pr .i (.pr .i (.pr (.pr .s (.pr .i (.pr .i .un))) (.pr .i (.pr .i (.pr .s (.pr .bo .un))))))))]
def ct71 (F:Nat):Ct:=mkC 3 cA71 cT71 cB71 cU71 (fun x y=>T71 F x.2.1 y.1.2.1 y.1.2.2.1 y.1.2.2.2.1 y.2.2.1) (fun x y (z:Int×Int×Int×(List (Int×Int×Int×((List UInt8)×Int×Int×Unit)×Int×Int×(List UInt8)×Bool×Unit)))=>(((),()),(((),z.1,z.2.1,z.2.2.1,()),(),y.2.2.1,z.2.2.2,())))
theorem eq71 (F:Nat) (x:dens cA71) (y:tdens cT71):sev (E71 F) 3 [([1,0,1,1],lc71_2 F)] (bodyOf Tryz.f71) [] (mkSt (rng 3) cA71 cT71 x y) (kFn (E71 F) 3 Tryz.f71.results.toList cB71 cU71 fun p q=>some (p,q)) =
  T71c F x.2.1 y.1.2.1 y.1.2.2.1 y.1.2.2.2.1 y.2.2.1 (fun z=>some (((),()),(((),z.1,z.2.1,z.2.2.1,()),(),y.2.2.1,z.2.2.2,()))):=by kernel_rfl
theorem ok71 (F:Nat):Sound Tryz.prog cfg 71 (ct71 F):=
 mkC_ok (E:=E71 F) (lp:=[([1,0,1,1],lc71_2 F)]) (code:=bodyOf Tryz.f71) Tryz.func71 rfl Tryz.ntmps71 rfl rfl cok (cts71 F) mixed ⟨lo71_2 F,trivial⟩ (by kernel_rfl) (fun x y k=>T71c F x.2.1 y.1.2.1 y.1.2.2.1 y.1.2.2.2.1 y.2.2.1 k) (fun x y k=>T71n F x.2.1 y.1.2.1 y.1.2.2.1 y.1.2.2.2.1 y.2.2.1 k) (eq71 F)
def ord67x4:Nat->List (Tag×Nat)
 | _=>[]
def al67x4:Nat->Option Nat
 | _=>none
def ms67x4:Nat->Option (List (Option Tag×Nat×List Nat))
 | _=>none
def E67x4 (F:Nat):Ev:=⟨cfg,17,ctOf [(70,ct70 F)],ord67x4,ctOf [],al67x4,ms67x4⟩
theorem cts67x4 (F:Nat):CtsOk Tryz.prog (E67x4 F):=cts_of (l:=[(70,ct70 F)]) (l':=[]) rfl rfl ⟨⟨ok70 F,_,Tryz.func70,rfl,rfl⟩,trivial⟩ trivial
def T67x4c (F:Nat) (p0:Int) (p1:Int) (p2:Int) (p3:List UInt8) {β:Type} (k:(Int×Int×Int×Int×Int×Int×Int)->Option β):Option β:=
 (Option.bind (T70 F p0 p1 p2 p3) fun z5=>(Option.bind (T70 F z5.2.1 z5.2.2.1 z5.2.2.2 p3) fun z6=>(Option.bind (T70 F z6.2.1 z6.2.2.1 z6.2.2.2 p3) fun z7=>(Option.bind (T70 F z7.2.1 z7.2.2.1 z7.2.2.2 p3) fun z8=>(k (z8.2.1,z8.2.2.1,z8.2.2.2,z5.1,z6.1,z7.1,z8.1))))))
def T67x4 (F:Nat) (p0:Int) (p1:Int) (p2:Int) (p3:List UInt8):Option (Int×Int×Int×Int×Int×Int×Int):=T67x4c F p0 p1 p2 p3 some
theorem T67x4n (F:Nat) (p0:Int) (p1:Int) (p2:Int) (p3:List UInt8) {β:Type} (k:(Int×Int×Int×Int×Int×Int×Int)->Option β):T67x4c F p0 p1 p2 p3 k=(T67x4 F p0 p1 p2 p3).bind k:=by
 simp only [T67x4,T67x4c,Option.bind_assoc,cond_bind,Option.bind_some,Option.bind_none,elimS_bind]
abbrev cA67x4:List Sh:=[(.pt 0 []),(.ps 1 4)]
abbrev cB67x4:List Sh:=[]
abbrev cT67x4:List TSh:=[.blk 171 (.pr (.rw 2) (.pr .i (.pr .i (.pr .i .un)))),.blk 111 (.pr (.pt 3 [1]) (.pr (.pt 3 [2]) (.pr (.pt 3 [3]) (.pr (.pt 3 [4]) .un)))),.row 5 .u8,.blk 61 (.pr .str (.pr .i (.pr .i (.pr .i (.pr .i (.pr (.ro (.pr .s (.pr .i (.pr .i .un)))) .un))))))]
abbrev cU67x4:List TSh:=[.blk 171 (.pr (.rw 2) (.pr .i (.pr .i (.pr .i .un)))),.blk 111 (.pr (.pt 3 [1]) (.pr (.pt 3 [2]) (.pr (.pt 3 [3]) (.pr (.pt 3 [4]) .un)))),.row 5 .u8,.blk 61 (.pr .str (.pr .i (.pr .i (.pr .i (.pr .i (.pr (.ro (.pr .s (.pr .i (.pr .i .un)))) .un))))))]
def ct67x4 (F:Nat):Ct:=mkC 4 cA67x4 cT67x4 cB67x4 cU67x4 (fun x y=>T67x4 F y.1.2.1 y.1.2.2.1 y.1.2.2.2.1 y.2.2.1) (fun x y (z:Int×Int×Int×Int×Int×Int×Int)=>((),(((),z.1,z.2.1,z.2.2.1,()),((),(),(),(),()),y.2.2.1,(y.2.2.2.1.1,z.2.2.2.1,z.2.2.2.2.1,z.2.2.2.2.2.1,z.2.2.2.2.2.2,y.2.2.2.1.2.2.2.2.2.1,()),())))
theorem eq67x4 (F:Nat) (x:dens cA67x4) (y:tdens cT67x4):sev (E67x4 F) 4 [] (bodyOf Tryz.f67) [] (mkSt (rng 2) cA67x4 cT67x4 x y) (kFn (E67x4 F) 4 Tryz.f67.results.toList cB67x4 cU67x4 fun p q=>some (p,q)) =
  T67x4c F y.1.2.1 y.1.2.2.1 y.1.2.2.2.1 y.2.2.1 (fun z=>some ((),(((),z.1,z.2.1,z.2.2.1,()),((),(),(),(),()),y.2.2.1,(y.2.2.2.1.1,z.2.2.2.1,z.2.2.2.2.1,z.2.2.2.2.2.1,z.2.2.2.2.2.2,y.2.2.2.1.2.2.2.2.2.1,()),()))):=by kernel_rfl
theorem ok67x4 (F:Nat):Sound Tryz.prog cfg 67 (ct67x4 F):=
 mkC_ok (E:=E67x4 F) (lp:=[]) (code:=bodyOf Tryz.f67) Tryz.func67 rfl Tryz.ntmps67 rfl rfl cok (cts67x4 F) mixed trivial (by kernel_rfl) (fun x y k=>T67x4c F y.1.2.1 y.1.2.2.1 y.1.2.2.2.1 y.2.2.1 k) (fun x y k=>T67x4n F y.1.2.1 y.1.2.2.1 y.1.2.2.2.1 y.2.2.1 k) (eq67x4 F)
def ord67x5:Nat->List (Tag×Nat)
 | _=>[]
def al67x5:Nat->Option Nat
 | _=>none
def ms67x5:Nat->Option (List (Option Tag×Nat×List Nat))
 | _=>none
def E67x5 (F:Nat):Ev:=⟨cfg,17,ctOf [(70,ct70 F)],ord67x5,ctOf [],al67x5,ms67x5⟩
theorem cts67x5 (F:Nat):CtsOk Tryz.prog (E67x5 F):=cts_of (l:=[(70,ct70 F)]) (l':=[]) rfl rfl ⟨⟨ok70 F,_,Tryz.func70,rfl,rfl⟩,trivial⟩ trivial
def T67x5c (F:Nat) (p0:Int) (p1:Int) (p2:Int) (p3:List UInt8) {β:Type} (k:(Int×Int×Int×Int×Int)->Option β):Option β:=
 (Option.bind (T70 F p0 p1 p2 p3) fun z3=>(Option.bind (T70 F z3.2.1 z3.2.2.1 z3.2.2.2 p3) fun z4=>(k (z4.2.1,z4.2.2.1,z4.2.2.2,z3.1,z4.1))))
def T67x5 (F:Nat) (p0:Int) (p1:Int) (p2:Int) (p3:List UInt8):Option (Int×Int×Int×Int×Int):=T67x5c F p0 p1 p2 p3 some
theorem T67x5n (F:Nat) (p0:Int) (p1:Int) (p2:Int) (p3:List UInt8) {β:Type} (k:(Int×Int×Int×Int×Int)->Option β):T67x5c F p0 p1 p2 p3 k=(T67x5 F p0 p1 p2 p3).bind k:=by
 simp only [T67x5,T67x5c,Option.bind_assoc,cond_bind,Option.bind_some,Option.bind_none,elimS_bind]
abbrev cA67x5:List Sh:=[(.pt 0 []),(.ps 1 2)]
abbrev cB67x5:List Sh:=[]
abbrev cT67x5:List TSh:=[.blk 171 (.pr (.rw 2) (.pr .i (.pr .i (.pr .i .un)))),.blk 111 (.pr (.pt 3 [1]) (.pr (.pt 3 [2]) .un)),.row 5 .u8,.blk 88 (.pr .str (.pr .i (.pr .i .un)))]
abbrev cU67x5:List TSh:=[.blk 171 (.pr (.rw 2) (.pr .i (.pr .i (.pr .i .un)))),.blk 111 (.pr (.pt 3 [1]) (.pr (.pt 3 [2]) .un)),.row 5 .u8,.blk 88 (.pr .str (.pr .i (.pr .i .un)))]
def ct67x5 (F:Nat):Ct:=mkC 4 cA67x5 cT67x5 cB67x5 cU67x5 (fun x y=>T67x5 F y.1.2.1 y.1.2.2.1 y.1.2.2.2.1 y.2.2.1) (fun x y (z:Int×Int×Int×Int×Int)=>((),(((),z.1,z.2.1,z.2.2.1,()),((),(),()),y.2.2.1,(y.2.2.2.1.1,z.2.2.2.1,z.2.2.2.2,()),())))
theorem eq67x5 (F:Nat) (x:dens cA67x5) (y:tdens cT67x5):sev (E67x5 F) 4 [] (bodyOf Tryz.f67) [] (mkSt (rng 2) cA67x5 cT67x5 x y) (kFn (E67x5 F) 4 Tryz.f67.results.toList cB67x5 cU67x5 fun p q=>some (p,q)) =
  T67x5c F y.1.2.1 y.1.2.2.1 y.1.2.2.2.1 y.2.2.1 (fun z=>some ((),(((),z.1,z.2.1,z.2.2.1,()),((),(),()),y.2.2.1,(y.2.2.2.1.1,z.2.2.2.1,z.2.2.2.2,()),()))):=by kernel_rfl
theorem ok67x5 (F:Nat):Sound Tryz.prog cfg 67 (ct67x5 F):=
 mkC_ok (E:=E67x5 F) (lp:=[]) (code:=bodyOf Tryz.f67) Tryz.func67 rfl Tryz.ntmps67 rfl rfl cok (cts67x5 F) mixed trivial (by kernel_rfl) (fun x y k=>T67x5c F y.1.2.1 y.1.2.2.1 y.1.2.2.2.1 y.2.2.1 k) (fun x y k=>T67x5n F y.1.2.1 y.1.2.2.1 y.1.2.2.2.1 y.2.2.1 k) (eq67x5 F)
def ord73x1:Nat->List (Tag×Nat)
 | 1=>[(.p,0),(.p,1),(.p,2),(.p,3),(.p,4),(.p,5),(.p,6),(.w,7),(.w,8)]
 | _=>[]
def al73x1:Nat->Option Nat
 | _=>none
def ms73x1:Nat->Option (List (Option Tag×Nat×List Nat))
 | _=>none
def E73x1 (F:Nat):Ev:=⟨cfg,18,ctOf [(79,ct79 F),(67,ct67x5 F)],ord73x1,ctOf [],al73x1,ms73x1⟩
theorem cts73x1 (F:Nat):CtsOk Tryz.prog (E73x1 F):=cts_of (l:=[(79,ct79 F),(67,ct67x5 F)]) (l':=[]) rfl rfl ⟨⟨ok79 F,_,Tryz.func79,rfl,rfl⟩,⟨⟨ok67x5 F,_,Tryz.func67,rfl,rfl⟩,trivial⟩⟩ trivial
def T73x1c (F:Nat) (p0:Int) (p1:Int) (p2:Int) (p6:List UInt8) {β:Type} (k:(Int×Int×Int×(List UInt8)×Int×Int)->Option β):Option β:=
 (Option.bind (T79 F p0 p1 p2 p6) fun z3=>(Option.bind (T67x5 F z3.2.1 z3.2.2.1 z3.2.2.2 p6) fun z4=>(k (z4.1,z4.2.1,z4.2.2.1,z3.1,z4.2.2.2.1,z4.2.2.2.2))))
def T73x1 (F:Nat) (p0:Int) (p1:Int) (p2:Int) (p6:List UInt8):Option (Int×Int×Int×(List UInt8)×Int×Int):=T73x1c F p0 p1 p2 p6 some
theorem T73x1n (F:Nat) (p0:Int) (p1:Int) (p2:Int) (p6:List UInt8) {β:Type} (k:(Int×Int×Int×(List UInt8)×Int×Int)->Option β):T73x1c F p0 p1 p2 p6 k=(T73x1 F p0 p1 p2 p6).bind k:=by
 simp only [T73x1,T73x1c,Option.bind_assoc,cond_bind,Option.bind_some,Option.bind_none,elimS_bind]
abbrev cA73x1:List Sh:=[(.pt 0 []),(.pt 1 [])]
abbrev cB73x1:List Sh:=[]
abbrev cT73x1:List TSh:=[.blk 171 (.pr (.rw 2) (.pr .i (.pr .i (.pr .i .un)))),.blk 88 (.pr .str (.pr .i (.pr .i .un))),.row 5 .u8]
abbrev cU73x1:List TSh:=[.blk 171 (.pr (.rw 2) (.pr .i (.pr .i (.pr .i .un)))),.blk 88 (.pr .str (.pr .i (.pr .i .un))),.row 5 .u8]
def ct73x1 (F:Nat):Ct:=mkC 3 cA73x1 cT73x1 cB73x1 cU73x1 (fun x y=>T73x1 F y.1.2.1 y.1.2.2.1 y.1.2.2.2.1 y.2.2.1) (fun x y (z:Int×Int×Int×(List UInt8)×Int×Int)=>((),(((),z.1,z.2.1,z.2.2.1,()),(z.2.2.2.1,z.2.2.2.2.1,z.2.2.2.2.2,()),y.2.2.1,())))
theorem eq73x1 (F:Nat) (x:dens cA73x1) (y:tdens cT73x1):sev (E73x1 F) 3 [] (bodyOf Tryz.f73) [] (mkSt (rng 2) cA73x1 cT73x1 x y) (kFn (E73x1 F) 3 Tryz.f73.results.toList cB73x1 cU73x1 fun p q=>some (p,q)) =
  T73x1c F y.1.2.1 y.1.2.2.1 y.1.2.2.2.1 y.2.2.1 (fun z=>some ((),(((),z.1,z.2.1,z.2.2.1,()),(z.2.2.2.1,z.2.2.2.2.1,z.2.2.2.2.2,()),y.2.2.1,()))):=by kernel_rfl
theorem ok73x1 (F:Nat):Sound Tryz.prog cfg 73 (ct73x1 F):=
 mkC_ok (E:=E73x1 F) (lp:=[]) (code:=bodyOf Tryz.f73) Tryz.func73 rfl Tryz.ntmps73 rfl rfl cok (cts73x1 F) mixed trivial (by kernel_rfl) (fun x y k=>T73x1c F y.1.2.1 y.1.2.2.1 y.1.2.2.2.1 y.2.2.1 k) (fun x y k=>T73x1n F y.1.2.1 y.1.2.2.1 y.1.2.2.2.1 y.2.2.1 k) (eq73x1 F)
def ord76:Nat->List (Tag×Nat)
 | _=>[]
def al76:Nat->Option Nat
 | _=>none
def ms76:Nat->Option (List (Option Tag×Nat×List Nat))
 | _=>none
def E76 (F:Nat):Ev:=⟨cfg,6,ctOf [(73,ct73x1 F)],ord76,ctOf [],al76,ms76⟩
theorem cts76 (F:Nat):CtsOk Tryz.prog (E76 F):=cts_of (l:=[(73,ct73x1 F)]) (l':=[]) rfl rfl ⟨⟨ok73x1 F,_,Tryz.func73,rfl,rfl⟩,trivial⟩ trivial
def T76c (F:Nat) (p3:Int) (p4:Int) (p5:Int) (p6:List UInt8) {β:Type} (k:((List UInt8)×Int×Int×Int×Int×Int)->Option β):Option β:=
 (Option.bind (T73x1 F p3 p4 p5 p6) fun z2=>(k (z2.2.2.2.1,z2.2.2.2.2.1,z2.2.2.2.2.2,z2.1,z2.2.1,z2.2.2.1)))
def T76 (F:Nat) (p3:Int) (p4:Int) (p5:Int) (p6:List UInt8):Option ((List UInt8)×Int×Int×Int×Int×Int):=T76c F p3 p4 p5 p6 some
theorem T76n (F:Nat) (p3:Int) (p4:Int) (p5:Int) (p6:List UInt8) {β:Type} (k:((List UInt8)×Int×Int×Int×Int×Int)->Option β):T76c F p3 p4 p5 p6 k=(T76 F p3 p4 p5 p6).bind k:=by
 simp only [T76,T76c,Option.bind_assoc,cond_bind,Option.bind_some,Option.bind_none,elimS_bind]
abbrev cA76:List Sh:=[(.pt 0 []),(.pt 1 [])]
abbrev cB76:List Sh:=[]
abbrev cT76:List TSh:=[.blk 88 (.pr .str (.pr .i (.pr .i .un))),.blk 108 (.pt 2 []),.blk 171 (.pr (.rw 3) (.pr .i (.pr .i (.pr .i .un)))),.row 5 .u8]
abbrev cU76:List TSh:=[.blk 88 (.pr .str (.pr .i (.pr .i .un))),.blk 108 (.pt 2 []),.blk 171 (.pr (.rw 3) (.pr .i (.pr .i (.pr .i .un)))),.row 5 .u8]
def ct76 (F:Nat):Ct:=mkC 4 cA76 cT76 cB76 cU76 (fun x y=>T76 F y.2.2.1.2.1 y.2.2.1.2.2.1 y.2.2.1.2.2.2.1 y.2.2.2.1) (fun x y (z:(List UInt8)×Int×Int×Int×Int×Int)=>((),((z.1,z.2.1,z.2.2.1,()),(),((),z.2.2.2.1,z.2.2.2.2.1,z.2.2.2.2.2,()),y.2.2.2.1,())))
theorem eq76 (F:Nat) (x:dens cA76) (y:tdens cT76):sev (E76 F) 4 [] (bodyOf Tryz.f76) [] (mkSt (rng 2) cA76 cT76 x y) (kFn (E76 F) 4 Tryz.f76.results.toList cB76 cU76 fun p q=>some (p,q)) =
  T76c F y.2.2.1.2.1 y.2.2.1.2.2.1 y.2.2.1.2.2.2.1 y.2.2.2.1 (fun z=>some ((),((z.1,z.2.1,z.2.2.1,()),(),((),z.2.2.2.1,z.2.2.2.2.1,z.2.2.2.2.2,()),y.2.2.2.1,()))):=by kernel_rfl
theorem ok76 (F:Nat):Sound Tryz.prog cfg 76 (ct76 F):=
 mkC_ok (E:=E76 F) (lp:=[]) (code:=bodyOf Tryz.f76) Tryz.func76 rfl Tryz.ntmps76 rfl rfl cok (cts76 F) mixed trivial (by kernel_rfl) (fun x y k=>T76c F y.2.2.1.2.1 y.2.2.1.2.2.1 y.2.2.1.2.2.2.1 y.2.2.2.1 k) (fun x y k=>T76n F y.2.2.1.2.1 y.2.2.1.2.2.1 y.2.2.1.2.2.2.1 y.2.2.2.1 k) (eq76 F)
def ord80:Nat->List (Tag×Nat)
 | _=>[]
def al80:Nat->Option Nat
 | _=>none
def ms80:Nat->Option (List (Option Tag×Nat×List Nat))
 | _=>none
def E80 (F:Nat):Ev:=⟨cfg,22,ctOf [(121,ct121 F),(76,ct76 F)],ord80,ctOf [],al80,ms80⟩
theorem cts80 (F:Nat):CtsOk Tryz.prog (E80 F):=cts_of (l:=[(121,ct121 F),(76,ct76 F)]) (l':=[]) rfl rfl ⟨⟨ok121 F,_,Tryz.func121,rfl,rfl⟩,⟨⟨ok76 F,_,Tryz.func76,rfl,rfl⟩,trivial⟩⟩ trivial
def L80_2c (F:Nat) (y31:Int) (y36:List UInt8) (y32:Int) (y33:Int) (y34:Int) (y35:Int) (y37:List ((List UInt8)×Int×Int×Unit)) {β:Type} (kA:(Int×Int×Int×Int×(List ((List UInt8)×Int×Int×Unit)))->Option β) (kO:(Int×Int×Int×(List ((List UInt8)×Int×Int×Unit)))->Option β):Option β:=
 (bif (decide (y32 < y31)) then (Option.bind (T76 F y33 y34 y35 y36) fun z40=>(Option.bind (gapp y37 ([(z40.1,z40.2.1,z40.2.2.1,())]:List ((List UInt8)×Int×Int×Unit))) fun x41=>(kA ((w64 (y32 + (1:Int))),z40.2.2.2.1,z40.2.2.2.2.1,z40.2.2.2.2.2,x41)))) else (kO (y33,y34,y35,y37)))
def L80_2 (F:Nat) (y31:Int) (y36:List UInt8) (y32:Int) (y33:Int) (y34:Int) (y35:Int) (y37:List ((List UInt8)×Int×Int×Unit)):Option ((Int×Int×Int×Int×(List ((List UInt8)×Int×Int×Unit))) ⊕ (Int×Int×Int×(List ((List UInt8)×Int×Int×Unit)))):=L80_2c F y31 y36 y32 y33 y34 y35 y37 (fun s=>some (.inl s)) (fun z=>some (.inr z))
theorem L80_2n (F:Nat) (y31:Int) (y36:List UInt8) (y32:Int) (y33:Int) (y34:Int) (y35:Int) (y37:List ((List UInt8)×Int×Int×Unit)) {β:Type} (kA:(Int×Int×Int×Int×(List ((List UInt8)×Int×Int×Unit)))->Option β) (kO:(Int×Int×Int×(List ((List UInt8)×Int×Int×Unit)))->Option β):L80_2c F y31 y36 y32 y33 y34 y35 y37 kA kO=(L80_2 F y31 y36 y32 y33 y34 y35 y37).bind (elimS kA kO):=by
 simp only [L80_2,L80_2c,Option.bind_assoc,cond_bind,Option.bind_some,Option.bind_none,elimS_l,elimS_r,elimS_bind]
abbrev sA80_2:List Sh:=[(.fn 76 .un (.pr (.pt 1 []) .un)),(.rw 3),.i,.i]
abbrev sAp180_2:List Sh:=[(.rw 3)]
abbrev sT80_2:List TSh:=[.blk 171 (.pr (.rw 2) (.pr .i (.pr .i (.pr .i .un)))),.blk 108 (.pt 0 []),.row 5 .u8,.row 88 (.pr .s (.pr .i (.pr .i .un)))]
abbrev sTp180_2:List TSh:=[.blk 171 (.pr (.rw 2) (.pr .i (.pr .i (.pr .i .un)))),.blk 108 (.pt 0 []),.row 5 .u8,.row 88 (.pr .s (.pr .i (.pr .i .un)))]
def lc80_2 (F:Nat):Lc:=mkL [2,7,11,12] sA80_2 sT80_2 [7] sAp180_2 sTp180_2 F (fun x y (s:Int×Int×Int×Int×(List ((List UInt8)×Int×Int×Unit)))=>L80_2 F x.2.2.1 y.2.2.1 s.1 s.2.1 s.2.2.1 s.2.2.2.1 s.2.2.2.2) (fun x y=>(x.2.2.2.1,y.1.2.1,y.1.2.2.1,y.1.2.2.2.1,y.2.2.2.1)) (fun x y (z:Int×Int×Int×(List ((List UInt8)×Int×Int×Unit)))=>(((),()),(((),z.1,z.2.1,z.2.2.1,()),(),y.2.2.1,z.2.2.2,())))
theorem le80_2 (F:Nat) (x:dens sA80_2) (y:tdens sT80_2) (s:Int×Int×Int×Int×(List ((List UInt8)×Int×Int×Unit))):sev (E80 F) 3 [] (cAt (bodyOf Tryz.f80) (0 :: 0 :: [1,0,1,1])) (0 :: 0 :: [1,0,1,1]) (mkSt [2,7,11,12] sA80_2 sT80_2 (((),((),())),(),x.2.2.1,s.1,()) (((),s.2.1,s.2.2.1,s.2.2.2.1,()),(),y.2.2.1,s.2.2.2.2,())) (kLoop 3 [2,7,11,12] sA80_2 sT80_2 [7] sAp180_2 sTp180_2 [] [] [] 0 (fun x y=>some (.inl (x,y))) (fun x y=>some (.inr (.inl (x,y)))) (fun x y=>some (.inr (.inr (x,y))))) =
  L80_2c (β:=Full sA80_2 sT80_2 sAp180_2 sTp180_2 [] []) F x.2.2.1 y.2.2.1 s.1 s.2.1 s.2.2.1 s.2.2.2.1 s.2.2.2.2 (fun s=>some (.inl ((((),((),())),(),x.2.2.1,s.1,()),(((),s.2.1,s.2.2.1,s.2.2.2.1,()),(),y.2.2.1,s.2.2.2.2,())))) (fun z=>some (.inr (.inl (((),()),(((),z.1,z.2.1,z.2.2.1,()),(),y.2.2.1,z.2.2.2,()))))):=by kernel_rfl
theorem lo80_2 (F:Nat):LcOk Tryz.prog (E80 F) 3 (lc80_2 F) (cAt (bodyOf Tryz.f80) [1,0,1,1]):=
 mkL_ok (lp:=[]) (id:=0) (b:=cAt (bodyOf Tryz.f80) (0 :: 0 :: [1,0,1,1])) cok (cts80 F) mixed trivial (by kernel_rfl) (by kernel_rfl) (fun x y s=>(((),((),())),(),x.2.2.1,s.1,())) (fun x y s=>(((),s.2.1,s.2.2.1,s.2.2.2.1,()),(),y.2.2.1,s.2.2.2.2,())) (fun x y=>rfl) (fun x y=>rfl) (fun x y s kA kO=>L80_2c F x.2.2.1 y.2.2.1 s.1 s.2.1 s.2.2.1 s.2.2.2.1 s.2.2.2.2 kA kO) (fun x y s kA kO=>L80_2n F x.2.2.1 y.2.2.1 s.1 s.2.1 s.2.2.1 s.2.2.2.1 s.2.2.2.2 kA kO) (le80_2 F)
def T80c (F:Nat) (p0:Int) (p1:Int) (p2:Int) (p3:Int) (p4:List UInt8) {β:Type} (k:(Int×Int×Int×(List ((List UInt8)×Int×Int×Unit)))->Option β):Option β:=
 (Option.bind (T121 F p0 p1 p2 p3 p4) fun z22=>(Option.bind (iter (fun s=>L80_2 F z22.1 p4 s.1 s.2.1 s.2.2.1 s.2.2.2.1 s.2.2.2.2) F ((0:Int),z22.2.1,z22.2.2.1,z22.2.2.2,([]:List ((List UInt8)×Int×Int×Unit)))) fun z42=>(k (z42.1,z42.2.1,z42.2.2.1,z42.2.2.2))))
def T80 (F:Nat) (p0:Int) (p1:Int) (p2:Int) (p3:Int) (p4:List UInt8):Option (Int×Int×Int×(List ((List UInt8)×Int×Int×Unit))):=T80c F p0 p1 p2 p3 p4 some
theorem T80n (F:Nat) (p0:Int) (p1:Int) (p2:Int) (p3:Int) (p4:List UInt8) {β:Type} (k:(Int×Int×Int×(List ((List UInt8)×Int×Int×Unit)))->Option β):T80c F p0 p1 p2 p3 p4 k=(T80 F p0 p1 p2 p3 p4).bind k:=by
 simp only [T80,T80c,Option.bind_assoc,cond_bind,Option.bind_some,Option.bind_none,elimS_bind]
abbrev cA80:List Sh:=[(.pt 0 []),.i,(.fn 76 .un (.pr (.pt 1 []) .un))]
abbrev cB80:List Sh:=[(.rw 3)]
abbrev cT80:List TSh:=[.blk 171 (.pr (.rw 2) (.pr .i (.pr .i (.pr .i .un)))),.blk 108 (.pt 0 []),.row 5 .u8]
abbrev cU80:List TSh:=[.blk 171 (.pr (.rw 2) (.pr .i (.pr .i (.pr .i .un)))),.blk 108 (.pt 0 []),.row 5 .u8,.row 88 (.pr .s (.pr .i (.pr .i .un)))]
def ct80 (F:Nat):Ct:=mkC 3 cA80 cT80 cB80 cU80 (fun x y=>T80 F x.2.1 y.1.2.1 y.1.2.2.1 y.1.2.2.2.1 y.2.2.1) (fun x y (z:Int×Int×Int×(List ((List UInt8)×Int×Int×Unit)))=>(((),()),(((),z.1,z.2.1,z.2.2.1,()),(),y.2.2.1,z.2.2.2,())))
theorem eq80 (F:Nat) (x:dens cA80) (y:tdens cT80):sev (E80 F) 3 [([1,0,1,1],lc80_2 F)] (bodyOf Tryz.f80) [] (mkSt (rng 3) cA80 cT80 x y) (kFn (E80 F) 3 Tryz.f80.results.toList cB80 cU80 fun p q=>some (p,q)) =
  T80c F x.2.1 y.1.2.1 y.1.2.2.1 y.1.2.2.2.1 y.2.2.1 (fun z=>some (((),()),(((),z.1,z.2.1,z.2.2.1,()),(),y.2.2.1,z.2.2.2,()))):=by kernel_rfl
theorem ok80 (F:Nat):Sound Tryz.prog cfg 80 (ct80 F):=
 mkC_ok (E:=E80 F) (lp:=[([1,0,1,1],lc80_2 F)]) (code:=bodyOf Tryz.f80) Tryz.func80 rfl Tryz.ntmps80 rfl rfl cok (cts80 F) mixed ⟨lo80_2 F,trivial⟩ (by kernel_rfl) (fun x y k=>T80c F x.2.1 y.1.2.1 y.1.2.2.1 y.1.2.2.2.1 y.2.2.1 k) (fun x y k=>T80n F x.2.1 y.1.2.1 y.1.2.2.1 y.1.2.2.2.1 y.2.2.1 k) (eq80 F)
def ord78:Nat->List (Tag×Nat)
 | 1=>[(.c,0),(.p,1),(.p,2),(.p,3),(.p,4),(.p,5),(.p,6),(.p,7),(.p,8),(.p,9),(.p,10),(.p,11),(.p,12),(.w,13),(.w,14)]
 | _=>[]
def al78:Nat->Option Nat
 | _=>none
def ms78:Nat->Option (List (Option Tag×Nat×List Nat))
 | _=>none
def E78 (F:Nat):Ev:=⟨cfg,30,ctOf [(79,ct79 F),(67,ct67x4 F),(80,ct80 F)],ord78,ctOf [],al78,ms78⟩
theorem cts78 (F:Nat):CtsOk Tryz.prog (E78 F):=cts_of (l:=[(79,ct79 F),(67,ct67x4 F),(80,ct80 F)]) (l':=[]) rfl rfl ⟨⟨ok79 F,_,Tryz.func79,rfl,rfl⟩,⟨⟨ok67x4 F,_,Tryz.func67,rfl,rfl⟩,⟨⟨ok80 F,_,Tryz.func80,rfl,rfl⟩,trivial⟩⟩⟩ trivial
def T78c (F:Nat) (p6:Int) (p7:Int) (p8:Int) (p9:List UInt8) {β:Type} (k:((List UInt8)×Int×Int×Int×Int×Int×Int×Int×(List ((List UInt8)×Int×Int×Unit)))->Option β):Option β:=
 (Option.bind (T79 F p6 p7 p8 p9) fun z4=>(Option.bind (T67x4 F z4.2.1 z4.2.2.1 z4.2.2.2 p9) fun z5=>(Option.bind (T80 F (8:Int) z5.1 z5.2.1 z5.2.2.1 p9) fun z6=>(k (z4.1,z5.2.2.2.1,z5.2.2.2.2.1,z5.2.2.2.2.2.1,z5.2.2.2.2.2.2,z6.1,z6.2.1,z6.2.2.1,z6.2.2.2)))))
def T78 (F:Nat) (p6:Int) (p7:Int) (p8:Int) (p9:List UInt8):Option ((List UInt8)×Int×Int×Int×Int×Int×Int×Int×(List ((List UInt8)×Int×Int×Unit))):=T78c F p6 p7 p8 p9 some
theorem T78n (F:Nat) (p6:Int) (p7:Int) (p8:Int) (p9:List UInt8) {β:Type} (k:((List UInt8)×Int×Int×Int×Int×Int×Int×Int×(List ((List UInt8)×Int×Int×Unit)))->Option β):T78c F p6 p7 p8 p9 k=(T78 F p6 p7 p8 p9).bind k:=by
 simp only [T78,T78c,Option.bind_assoc,cond_bind,Option.bind_some,Option.bind_none,elimS_bind]
abbrev cA78:List Sh:=[(.pt 0 []),(.pt 1 []),(.pt 2 [])]
abbrev cB78:List Sh:=[]
abbrev cT78:List TSh:=[.blk 61 (.pr .str (.pr .i (.pr .i (.pr .i (.pr .i (.pr (.ro (.pr .s (.pr .i (.pr .i .un)))) .un)))))),.blk 108 (.pt 3 []),.blk 121 (.fn 76 .un (.pr (.pt 1 []) .un)),.blk 171 (.pr (.rw 4) (.pr .i (.pr .i (.pr .i .un)))),.row 5 .u8]
abbrev cU78:List TSh:=[.blk 61 (.pr .str (.pr .i (.pr .i (.pr .i (.pr .i (.pr (.rw 5) .un)))))),.blk 108 (.pt 3 []),.blk 121 (.fn 76 .un (.pr (.pt 1 []) .un)),.blk 171 (.pr (.rw 4) (.pr .i (.pr .i (.pr .i .un)))),.row 5 .u8,.row 88 (.pr .s (.pr .i (.pr .i .un)))]
def ct78 (F:Nat):Ct:=mkC 5 cA78 cT78 cB78 cU78 (fun x y=>T78 F y.2.2.2.1.2.1 y.2.2.2.1.2.2.1 y.2.2.2.1.2.2.2.1 y.2.2.2.2.1) (fun x y (z:(List UInt8)×Int×Int×Int×Int×Int×Int×Int×(List ((List UInt8)×Int×Int×Unit)))=>((),((z.1,z.2.1,z.2.2.1,z.2.2.2.1,z.2.2.2.2.1,(),()),(),((),((),())),((),z.2.2.2.2.2.1,z.2.2.2.2.2.2.1,z.2.2.2.2.2.2.2.1,()),y.2.2.2.2.1,z.2.2.2.2.2.2.2.2,())))
theorem eq78 (F:Nat) (x:dens cA78) (y:tdens cT78):sev (E78 F) 5 [] (bodyOf Tryz.f78) [] (mkSt (rng 3) cA78 cT78 x y) (kFn (E78 F) 5 Tryz.f78.results.toList cB78 cU78 fun p q=>some (p,q)) =
  T78c F y.2.2.2.1.2.1 y.2.2.2.1.2.2.1 y.2.2.2.1.2.2.2.1 y.2.2.2.2.1 (fun z=>some ((),((z.1,z.2.1,z.2.2.1,z.2.2.2.1,z.2.2.2.2.1,(),()),(),((),((),())),((),z.2.2.2.2.2.1,z.2.2.2.2.2.2.1,z.2.2.2.2.2.2.2.1,()),y.2.2.2.2.1,z.2.2.2.2.2.2.2.2,()))):=by kernel_rfl
theorem ok78 (F:Nat):Sound Tryz.prog cfg 78 (ct78 F):=
 mkC_ok (E:=E78 F) (lp:=[]) (code:=bodyOf Tryz.f78) Tryz.func78 rfl Tryz.ntmps78 rfl rfl cok (cts78 F) mixed trivial (by kernel_rfl) (fun x y k=>T78c F y.2.2.2.1.2.1 y.2.2.2.1.2.2.1 y.2.2.2.1.2.2.2.1 y.2.2.2.2.1 k) (fun x y k=>T78n F y.2.2.2.1.2.1 y.2.2.2.1.2.2.1 y.2.2.2.1.2.2.2.1 y.2.2.2.2.1 k) (eq78 F)
def ord77:Nat->List (Tag×Nat)
 | _=>[]
def al77:Nat->Option Nat
 | _=>none
def ms77:Nat->Option (List (Option Tag×Nat×List Nat))
 | _=>none
def E77 (F:Nat):Ev:=⟨cfg,22,ctOf [(121,ct121 F),(78,ct78 F)],ord77,ctOf [],al77,ms77⟩
theorem cts77 (F:Nat):CtsOk Tryz.prog (E77 F):=cts_of (l:=[(121,ct121 F),(78,ct78 F)]) (l':=[]) rfl rfl ⟨⟨ok121 F,_,Tryz.func121,rfl,rfl⟩,⟨⟨ok78 F,_,Tryz.func78,rfl,rfl⟩,trivial⟩⟩ trivial
def L77_2c (F:Nat) (y31:Int) (y36:List UInt8) (y32:Int) (y33:Int) (y34:Int) (y35:Int) (y37:List ((List UInt8)×Int×Int×Int×Int×(List ((List UInt8)×Int×Int×Unit))×Unit)) {β:Type} (kA:(Int×Int×Int×Int×(List ((List UInt8)×Int×Int×Int×Int×(List ((List UInt8)×Int×Int×Unit))×Unit)))->Option β) (kO:(Int×Int×Int×(List ((List UInt8)×Int×Int×Int×Int×(List ((List UInt8)×Int×Int×Unit))×Unit)))->Option β):Option β:=
 (bif (decide (y32 < y31)) then (Option.bind (T78 F y33 y34 y35 y36) fun z40=>(Option.bind (gapp y37 ([(z40.1,z40.2.1,z40.2.2.1,z40.2.2.2.1,z40.2.2.2.2.1,z40.2.2.2.2.2.2.2.2,())]:List ((List UInt8)×Int×Int×Int×Int×(List ((List UInt8)×Int×Int×Unit))×Unit))) fun x41=>(kA ((w64 (y32 + (1:Int))),z40.2.2.2.2.2.1,z40.2.2.2.2.2.2.1,z40.2.2.2.2.2.2.2.1,x41)))) else (kO (y33,y34,y35,y37)))
def L77_2 (F:Nat) (y31:Int) (y36:List UInt8) (y32:Int) (y33:Int) (y34:Int) (y35:Int) (y37:List ((List UInt8)×Int×Int×Int×Int×(List ((List UInt8)×Int×Int×Unit))×Unit)):Option ((Int×Int×Int×Int×(List ((List UInt8)×Int×Int×Int×Int×(List ((List UInt8)×Int×Int×Unit))×Unit))) ⊕ (Int×Int×Int×(List ((List UInt8)×Int×Int×Int×Int×(List ((List UInt8)×Int×Int×Unit))×Unit)))):=L77_2c F y31 y36 y32 y33 y34 y35 y37 (fun s=>some (.inl s)) (fun z=>some (.inr z))
theorem L77_2n (F:Nat) (y31:Int) (y36:List UInt8) (y32:Int) (y33:Int) (y34:Int) (y35:Int) (y37:List ((List UInt8)×Int×Int×Int×Int×(List ((List UInt8)×Int×Int×Unit))×Unit)) {β:Type} (kA:(Int×Int×Int×Int×(List ((List UInt8)×Int×Int×Int×Int×(List ((List UInt8)×Int×Int×Unit))×Unit)))->Option β) (kO:(Int×Int×Int×(List ((List UInt8)×Int×Int×Int×Int×(List ((List UInt8)×Int×Int×Unit))×Unit)))->Option β):L77_2c F y31 y36 y32 y33 y34 y35 y37 kA kO=(L77_2 F y31 y36 y32 y33 y34 y35 y37).bind (elimS kA kO):=by
 simp only [L77_2,L77_2c,Option.bind_assoc,cond_bind,Option.bind_some,Option.bind_none,elimS_l,elimS_r,elimS_bind]
abbrev sA77_2:List Sh:=[(.fn 78 .un (.pr (.pt 1 []) (.pr (.pt 2 []) .un))),(.rw 4),.i,.i]
abbrev sAp177_2:List Sh:=[(.rw 4)]
abbrev sT77_2:List TSh:=[.blk 171 (.pr (.rw 3) (.pr .i (.pr .i (.pr .i .un)))),.blk 108 (.pt 0 []),.blk 121 (.fn 76 .un (.pr (.pt 1 []) .un)),.row 5 .u8,.row 61 (.pr .s (.pr .i (.pr .i (.pr .i (.pr .i (.pr (.sl (.pr .s (.pr .i (.pr .i .un)))) .un))))))]
abbrev sTp177_2:List TSh:=[.blk 171 (.pr (.rw 3) (.pr .i (.pr .i (.pr .i .un)))),.blk 108 (.pt 0 []),.blk 121 (.fn 76 .un (.pr (.pt 1 []) .un)),.row 5 .u8,.row 61 (.pr .s (.pr .i (.pr .i (.pr .i (.pr .i (.pr (.sl (.pr .s (.pr .i (.pr .i .un)))) .un))))))]
def lc77_2 (F:Nat):Lc:=mkL [2,7,11,12] sA77_2 sT77_2 [7] sAp177_2 sTp177_2 F (fun x y (s:Int×Int×Int×Int×(List ((List UInt8)×Int×Int×Int×Int×(List ((List UInt8)×Int×Int×Unit))×Unit)))=>L77_2 F x.2.2.1 y.2.2.2.1 s.1 s.2.1 s.2.2.1 s.2.2.2.1 s.2.2.2.2) (fun x y=>(x.2.2.2.1,y.1.2.1,y.1.2.2.1,y.1.2.2.2.1,y.2.2.2.2.1)) (fun x y (z:Int×Int×Int×(List ((List UInt8)×Int×Int×Int×Int×(List ((List UInt8)×Int×Int×Unit))×Unit)))=>(((),()),(((),z.1,z.2.1,z.2.2.1,()),(),((),((),())),y.2.2.2.1,z.2.2.2,())))
theorem le77_2 (F:Nat) (x:dens sA77_2) (y:tdens sT77_2) (s:Int×Int×Int×Int×(List ((List UInt8)×Int×Int×Int×Int×(List ((List UInt8)×Int×Int×Unit))×Unit))):sev (E77 F) 4 [] (cAt (bodyOf Tryz.f77) (0 :: 0 :: [1,0,1,1])) (0 :: 0 :: [1,0,1,1]) (mkSt [2,7,11,12] sA77_2 sT77_2 (((),((),(),())),(),x.2.2.1,s.1,()) (((),s.2.1,s.2.2.1,s.2.2.2.1,()),(),((),((),())),y.2.2.2.1,s.2.2.2.2,())) (kLoop 4 [2,7,11,12] sA77_2 sT77_2 [7] sAp177_2 sTp177_2 [] [] [] 0 (fun x y=>some (.inl (x,y))) (fun x y=>some (.inr (.inl (x,y)))) (fun x y=>some (.inr (.inr (x,y))))) =
  L77_2c (β:=Full sA77_2 sT77_2 sAp177_2 sTp177_2 [] []) F x.2.2.1 y.2.2.2.1 s.1 s.2.1 s.2.2.1 s.2.2.2.1 s.2.2.2.2 (fun s=>some (.inl ((((),((),(),())),(),x.2.2.1,s.1,()),(((),s.2.1,s.2.2.1,s.2.2.2.1,()),(),((),((),())),y.2.2.2.1,s.2.2.2.2,())))) (fun z=>some (.inr (.inl (((),()),(((),z.1,z.2.1,z.2.2.1,()),(),((),((),())),y.2.2.2.1,z.2.2.2,()))))):=by kernel_rfl
theorem lo77_2 (F:Nat):LcOk Tryz.prog (E77 F) 4 (lc77_2 F) (cAt (bodyOf Tryz.f77) [1,0,1,1]):=
 mkL_ok (lp:=[]) (id:=0) (b:=cAt (bodyOf Tryz.f77) (0 :: 0 :: [1,0,1,1])) cok (cts77 F) mixed trivial (by kernel_rfl) (by kernel_rfl) (fun x y s=>(((),((),(),())),(),x.2.2.1,s.1,())) (fun x y s=>(((),s.2.1,s.2.2.1,s.2.2.2.1,()),(),((),((),())),y.2.2.2.1,s.2.2.2.2,())) (fun x y=>rfl) (fun x y=>rfl) (fun x y s kA kO=>L77_2c F x.2.2.1 y.2.2.2.1 s.1 s.2.1 s.2.2.1 s.2.2.2.1 s.2.2.2.2 kA kO) (fun x y s kA kO=>L77_2n F x.2.2.1 y.2.2.2.1 s.1 s.2.1 s.2.2.1 s.2.2.2.1 s.2.2.2.2 kA kO) (le77_2 F)
def T77c (F:Nat) (p0:Int) (p1:Int) (p2:Int) (p3:Int) (p4:List UInt8) {β:Type} (k:(Int×Int×Int×(List ((List UInt8)×Int×Int×Int×Int×(List ((List UInt8)×Int×Int×Unit))×Unit)))->Option β):Option β:=
 (Option.bind (T121 F p0 p1 p2 p3 p4) fun z22=>(Option.bind (iter (fun s=>L77_2 F z22.1 p4 s.1 s.2.1 s.2.2.1 s.2.2.2.1 s.2.2.2.2) F ((0:Int),z22.2.1,z22.2.2.1,z22.2.2.2,([]:List ((List UInt8)×Int×Int×Int×Int×(List ((List UInt8)×Int×Int×Unit))×Unit)))) fun z42=>(k (z42.1,z42.2.1,z42.2.2.1,z42.2.2.2))))
def T77 (F:Nat) (p0:Int) (p1:Int) (p2:Int) (p3:Int) (p4:List UInt8):Option (Int×Int×Int×(List ((List UInt8)×Int×Int×Int×Int×(List ((List UInt8)×Int×Int×Unit))×Unit))):=T77c F p0 p1 p2 p3 p4 some
theorem T77n (F:Nat) (p0:Int) (p1:Int) (p2:Int) (p3:Int) (p4:List UInt8) {β:Type} (k:(Int×Int×Int×(List ((List UInt8)×Int×Int×Int×Int×(List ((List UInt8)×Int×Int×Unit))×Unit)))->Option β):T77c F p0 p1 p2 p3 p4 k=(T77 F p0 p1 p2 p3 p4).bind k:=by
 simp only [T77,T77c,Option.bind_assoc,cond_bind,Option.bind_some,Option.bind_none,elimS_bind]
abbrev cA77:List Sh:=[(.pt 0 []),.i,(.fn 78 .un (.pr (.pt 1 []) (.pr (.pt 2 []) .un)))]
abbrev cB77:List Sh:=[(.rw 4)]
abbrev cT77:List TSh:=[.blk 171 (.pr (.rw 3) (.pr .i (.pr .i (.pr .i .un)))),.blk 108 (.pt 0 []),.blk 121 (.fn 76 .un (.pr (.pt 1 []) .un)),.row 5 .u8]
abbrev cU77:List TSh:=[.blk 171 (.pr (.rw 3) (.pr .i (.pr .i (.pr .i .un)))),.blk 108 (.pt 0 []),.blk 121 (.fn 76 .un (.pr (.pt 1 []) .un)),.row 5 .u8,.row 61 (.pr .s (.pr .i (.pr .i (.pr .i (.pr .i (.pr (.sl (.pr .s (.pr .i (.pr .i .un)))) .un))))))]
def ct77 (F:Nat):Ct:=mkC 4 cA77 cT77 cB77 cU77 (fun x y=>T77 F x.2.1 y.1.2.1 y.1.2.2.1 y.1.2.2.2.1 y.2.2.2.1) (fun x y (z:Int×Int×Int×(List ((List UInt8)×Int×Int×Int×Int×(List ((List UInt8)×Int×Int×Unit))×Unit)))=>(((),()),(((),z.1,z.2.1,z.2.2.1,()),(),((),((),())),y.2.2.2.1,z.2.2.2,())))
theorem eq77 (F:Nat) (x:dens cA77) (y:tdens cT77):sev (E77 F) 4 [([1,0,1,1],lc77_2 F)] (bodyOf Tryz.f77) [] (mkSt (rng 3) cA77 cT77 x y) (kFn (E77 F) 4 Tryz.f77.results.toList cB77 cU77 fun p q=>some (p,q)) =
  T77c F x.2.1 y.1.2.1 y.1.2.2.1 y.1.2.2.2.1 y.2.2.2.1 (fun z=>some (((),()),(((),z.1,z.2.1,z.2.2.1,()),(),((),((),())),y.2.2.2.1,z.2.2.2,()))):=by kernel_rfl
theorem ok77 (F:Nat):Sound Tryz.prog cfg 77 (ct77 F):=
 mkC_ok (E:=E77 F) (lp:=[([1,0,1,1],lc77_2 F)]) (code:=bodyOf Tryz.f77) Tryz.func77 rfl Tryz.ntmps77 rfl rfl cok (cts77 F) mixed ⟨lo77_2 F,trivial⟩ (by kernel_rfl) (fun x y k=>T77c F x.2.1 y.1.2.1 y.1.2.2.1 y.1.2.2.2.1 y.2.2.2.1 k) (fun x y k=>T77n F x.2.1 y.1.2.1 y.1.2.2.1 y.1.2.2.2.1 y.2.2.2.1 k) (eq77 F)
def ord81:Nat->List (Tag×Nat)
 | 2=>[(.p,0),(.p,1),(.p,2),(.r,3),(.p,4),(.p,5),(.p,6),(.r,7),(.p,8),(.p,9)]
 | 3=>[(.p,0),(.p,1),(.p,2),(.r,3),(.p,4),(.p,5),(.p,6),(.r,7),(.p,8),(.p,9)]
 | _=>[]
def al81:Nat->Option Nat
 | _=>none
def ms81:Nat->Option (List (Option Tag×Nat×List Nat))
 | _=>none
def E81 (F:Nat):Ev:=⟨cfg,35,ctOf [],ord81,ctOf [],al81,ms81⟩
theorem cts81 (F:Nat):CtsOk Tryz.prog (E81 F):=cts_of (l:=[]) (l':=[]) rfl rfl trivial trivial
def T81c (F:Nat) (p0:Int) (p2:Int) (p3:List UInt8) {β:Type} (k:Int->Option β):Option β:=
 (bif (p2 != (0:Int)) then (k p2) else (bif (decide (p0 < (p3.length:Int))) then (k (3:Int)) else (k (0:Int))))
def T81 (F:Nat) (p0:Int) (p2:Int) (p3:List UInt8):Option (Int):=T81c F p0 p2 p3 some
theorem T81n (F:Nat) (p0:Int) (p2:Int) (p3:List UInt8) {β:Type} (k:Int->Option β):T81c F p0 p2 p3 k=(T81 F p0 p2 p3).bind k:=by
 simp only [T81,T81c,Option.bind_assoc,cond_bind,Option.bind_some,Option.bind_none,elimS_bind]
abbrev cA81:List Sh:=[(.pt 0 [])]
abbrev cB81:List Sh:=[.i,.i]
abbrev cT81:List TSh:=[.blk 171 (.pr (.rw 1) (.pr .i (.pr .i (.pr .i .un)))),.row 5 .u8]
abbrev cU81:List TSh:=[.blk 171 (.pr (.rw 1) (.pr .i (.pr .i (.pr .i .un)))),.row 5 .u8]
def ct81 (F:Nat):Ct:=mkC 2 cA81 cT81 cB81 cU81 (fun x y=>T81 F y.1.2.1 y.1.2.2.2.1 y.2.1) (fun x y (z:Int)=>((y.1.2.1,z,()),(((),y.1.2.1,y.1.2.2.1,y.1.2.2.2.1,()),y.2.1,())))
theorem eq81 (F:Nat) (x:dens cA81) (y:tdens cT81):sev (E81 F) 2 [] (bodyOf Tryz.f81) [] (mkSt (rng 1) cA81 cT81 x y) (kFn (E81 F) 2 Tryz.f81.results.toList cB81 cU81 fun p q=>some (p,q)) =
  T81c F y.1.2.1 y.1.2.2.2.1 y.2.1 (fun z=>some ((y.1.2.1,z,()),(((),y.1.2.1,y.1.2.2.1,y.1.2.2.2.1,()),y.2.1,()))):=by kernel_rfl
theorem ok81 (F:Nat):Sound Tryz.prog cfg 81 (ct81 F):=
 mkC_ok (E:=E81 F) (lp:=[]) (code:=bodyOf Tryz.f81) Tryz.func81 rfl Tryz.ntmps81 rfl rfl cok (cts81 F) mixed trivial (by kernel_rfl) (fun x y k=>T81c F y.1.2.1 y.1.2.2.2.1 y.2.1 k) (fun x y k=>T81n F y.1.2.1 y.1.2.2.2.1 y.2.1 k) (eq81 F)
def ord21:Nat->List (Tag×Nat)
 | _=>[]
def al21:Nat->Option Nat
 | _=>none
def ms21:Nat->Option (List (Option Tag×Nat×List Nat))
 | _=>none
def E21 (F:Nat):Ev:=⟨cfg,51,ctOf [(66,ct66 F),(67,ct67 F),(68,ct68 F),(71,ct71 F),(77,ct77 F),(80,ct80 F),(81,ct81 F),(43,ct43 F)],ord21,ctOf [],al21,ms21⟩
theorem cts21 (F:Nat):CtsOk Tryz.prog (E21 F):=cts_of (l:=[(66,ct66 F),(67,ct67 F),(68,ct68 F),(71,ct71 F),(77,ct77 F),(80,ct80 F),(81,ct81 F),(43,ct43 F)]) (l':=[]) rfl rfl ⟨⟨ok66 F,_,Tryz.func66,rfl,rfl⟩,⟨⟨ok67 F,_,Tryz.func67,rfl,rfl⟩,⟨⟨ok68 F,_,Tryz.func68,rfl,rfl⟩,⟨⟨ok71 F,_,Tryz.func71,rfl,rfl⟩,⟨⟨ok77 F,_,Tryz.func77,rfl,rfl⟩,⟨⟨ok80 F,_,Tryz.func80,rfl,rfl⟩,⟨⟨ok81 F,_,Tryz.func81,rfl,rfl⟩,⟨⟨ok43 F,_,Tryz.func43,rfl,rfl⟩,trivial⟩⟩⟩⟩⟩⟩⟩⟩ trivial
def T21c (F:Nat) (p0:List UInt8) {β:Type} (k:(Int×Int×Int×(List Int)×(List (Int×Int×Int×((List UInt8)×Int×Int×Unit)×Int×Int×(List UInt8)×Bool×Unit))×(List ((List UInt8)×Int×Int×Int×Int×(List ((List UInt8)×Int×Int×Unit))×Unit))×(List ((List UInt8)×Int×Int×Unit)))->Option β):Option β:=
 (bif (decide ((1048560:Int) < (p0.length:Int))) then (k ((0:Int),(0:Int),(3:Int),([]:List Int),([]:List (Int×Int×Int×((List UInt8)×Int×Int×Unit)×Int×Int×(List UInt8)×Bool×Unit)),([]:List ((List UInt8)×Int×Int×Int×Int×(List ((List UInt8)×Int×Int×Unit))×Unit)),([]:List ((List UInt8)×Int×Int×Unit)))) else (Option.bind (T66 F p0) fun z9=>(Option.bind (T67 F z9.1 z9.2.1 z9.2.2.1 z9.2.2.2) fun z10=>(Option.bind (T68 F (12:Int) z10.1 z10.2.1 z10.2.2.1 z9.2.2.2) fun z11=>(Option.bind (T71 F (4096:Int) z11.1 z11.2.1 z11.2.2.1 z9.2.2.2) fun z12=>(Option.bind (T77 F (4096:Int) z12.1 z12.2.1 z12.2.2.1 z9.2.2.2) fun z13=>(Option.bind (T80 F (4096:Int) z13.1 z13.2.1 z13.2.2.1 z9.2.2.2) fun z14=>(Option.bind (T81 F z14.1 z14.2.2.1 z9.2.2.2) fun z15=>(bif (z15 != (0:Int)) then (k ((0:Int),(0:Int),(3:Int),([]:List Int),([]:List (Int×Int×Int×((List UInt8)×Int×Int×Unit)×Int×Int×(List UInt8)×Bool×Unit)),([]:List ((List UInt8)×Int×Int×Int×Int×(List ((List UInt8)×Int×Int×Unit))×Unit)),([]:List ((List UInt8)×Int×Int×Unit)))) else (Option.bind (T43 F z10.2.2.2.1 z10.2.2.2.2 z11.2.2.2 z12.2.2.2 z13.2.2.2 z14.2.2.2) fun z16=>(bif (!z16) then (k ((0:Int),(0:Int),(3:Int),([]:List Int),([]:List (Int×Int×Int×((List UInt8)×Int×Int×Unit)×Int×Int×(List UInt8)×Bool×Unit)),([]:List ((List UInt8)×Int×Int×Int×Int×(List ((List UInt8)×Int×Int×Unit))×Unit)),([]:List ((List UInt8)×Int×Int×Unit)))) else (k (z10.2.2.2.1,z10.2.2.2.2,(0:Int),z11.2.2.2,z12.2.2.2,z13.2.2.2,z14.2.2.2)))))))))))))
def T21 (F:Nat) (p0:List UInt8):Option (Int×Int×Int×(List Int)×(List (Int×Int×Int×((List UInt8)×Int×Int×Unit)×Int×Int×(List UInt8)×Bool×Unit))×(List ((List UInt8)×Int×Int×Int×Int×(List ((List UInt8)×Int×Int×Unit))×Unit))×(List ((List UInt8)×Int×Int×Unit))):=T21c F p0 some
theorem T21n (F:Nat) (p0:List UInt8) {β:Type} (k:(Int×Int×Int×(List Int)×(List (Int×Int×Int×((List UInt8)×Int×Int×Unit)×Int×Int×(List UInt8)×Bool×Unit))×(List ((List UInt8)×Int×Int×Int×Int×(List ((List UInt8)×Int×Int×Unit))×Unit))×(List ((List UInt8)×Int×Int×Unit)))->Option β):T21c F p0 k=(T21 F p0).bind k:=by
 simp only [T21,T21c,Option.bind_assoc,cond_bind,Option.bind_some,Option.bind_none,elimS_bind]
abbrev cA21:List Sh:=[(.ro .u8)]
abbrev cB21:List Sh:=[(.pr .i (.pr .i (.pr (.rw 0) (.pr (.rw 1) (.pr (.rw 2) (.pr (.rw 3) .un)))))),.i]
abbrev cT21:List TSh:=[]
abbrev cU21:List TSh:=[.row 3 .i,.row 90 (.pr .i (.pr .i (.pr .i (.pr (.pr .s (.pr .i (.pr .i .un))) (.pr .i (.pr .i (.pr .s (.pr .bo .un)))))))),.row 61 (.pr .s (.pr .i (.pr .i (.pr .i (.pr .i (.pr (.sl (.pr .s (.pr .i (.pr .i .un)))) .un)))))),.row 88 (.pr .s (.pr .i (.pr .i .un)))]
def ct21 (F:Nat):Ct:=mkC 0 cA21 cT21 cB21 cU21 (fun x y=>T21 F x.1) (fun x y (z:Int×Int×Int×(List Int)×(List (Int×Int×Int×((List UInt8)×Int×Int×Unit)×Int×Int×(List UInt8)×Bool×Unit))×(List ((List UInt8)×Int×Int×Int×Int×(List ((List UInt8)×Int×Int×Unit))×Unit))×(List ((List UInt8)×Int×Int×Unit)))=>(((z.1,z.2.1,(),(),(),(),()),z.2.2.1,()),(z.2.2.2.1,z.2.2.2.2.1,z.2.2.2.2.2.1,z.2.2.2.2.2.2,())))
theorem eq21 (F:Nat) (x:dens cA21) (y:tdens cT21):sev (E21 F) 0 [] (bodyOf Tryz.f21) [] (mkSt (rng 1) cA21 cT21 x y) (kFn (E21 F) 0 Tryz.f21.results.toList cB21 cU21 fun p q=>some (p,q)) =
  T21c F x.1 (fun z=>some (((z.1,z.2.1,(),(),(),(),()),z.2.2.1,()),(z.2.2.2.1,z.2.2.2.2.1,z.2.2.2.2.2.1,z.2.2.2.2.2.2,()))):=by kernel_rfl
theorem ok21 (F:Nat):Sound Tryz.prog cfg 21 (ct21 F):=
 mkC_ok (E:=E21 F) (lp:=[]) (code:=bodyOf Tryz.f21) Tryz.func21 rfl Tryz.ntmps21 rfl rfl cok (cts21 F) mixed trivial (by kernel_rfl) (fun x y k=>T21c F x.1 k) (fun x y k=>T21n F x.1 k) (eq21 F)
def ord22:Nat->List (Tag×Nat)
 | _=>[]
def al22:Nat->Option Nat
 | _=>none
def ms22:Nat->Option (List (Option Tag×Nat×List Nat))
 | _=>none
def E22 (F:Nat):Ev:=⟨cfg,32,ctOf [(20,ct20 F)],ord22,ctOf [],al22,ms22⟩
theorem cts22 (F:Nat):CtsOk Tryz.prog (E22 F):=cts_of (l:=[(20,ct20 F)]) (l':=[]) rfl rfl ⟨⟨ok20 F,_,Tryz.func20,rfl,rfl⟩,trivial⟩ trivial
def T22c (F:Nat) (p0:Int) (p1:Int) (p2:List Int) (p3:List (Int×Int×Int×((List UInt8)×Int×Int×Unit)×Int×Int×(List UInt8)×Bool×Unit)) (p4:List ((List UInt8)×Int×Int×Int×Int×(List ((List UInt8)×Int×Int×Unit))×Unit)) (p5:List ((List UInt8)×Int×Int×Unit)) (p6:Int) (p7:Int) (p8:List Int) (p9:List (Int×Int×Int×((List UInt8)×Int×Int×Unit)×Int×Int×(List UInt8)×Bool×Unit)) (p10:List ((List UInt8)×Int×Int×Int×Int×(List ((List UInt8)×Int×Int×Unit))×Unit)) (p11:List ((List UInt8)×Int×Int×Unit)) {β:Type} (k:Bool->Option β):Option β:=
 (Option.bind (T20 F p0 p1 p2 p3 p4 p5) fun z3=>(Option.bind (T20 F p6 p7 p8 p9 p10 p11) fun z4=>(bif (z3.1 == (0:Int)) then (bif (z4.1 == (0:Int)) then (k (z3.2 == z4.2)) else (k false)) else (k false))))
def T22 (F:Nat) (p0:Int) (p1:Int) (p2:List Int) (p3:List (Int×Int×Int×((List UInt8)×Int×Int×Unit)×Int×Int×(List UInt8)×Bool×Unit)) (p4:List ((List UInt8)×Int×Int×Int×Int×(List ((List UInt8)×Int×Int×Unit))×Unit)) (p5:List ((List UInt8)×Int×Int×Unit)) (p6:Int) (p7:Int) (p8:List Int) (p9:List (Int×Int×Int×((List UInt8)×Int×Int×Unit)×Int×Int×(List UInt8)×Bool×Unit)) (p10:List ((List UInt8)×Int×Int×Int×Int×(List ((List UInt8)×Int×Int×Unit))×Unit)) (p11:List ((List UInt8)×Int×Int×Unit)):Option (Bool):=T22c F p0 p1 p2 p3 p4 p5 p6 p7 p8 p9 p10 p11 some
theorem T22n (F:Nat) (p0:Int) (p1:Int) (p2:List Int) (p3:List (Int×Int×Int×((List UInt8)×Int×Int×Unit)×Int×Int×(List UInt8)×Bool×Unit)) (p4:List ((List UInt8)×Int×Int×Int×Int×(List ((List UInt8)×Int×Int×Unit))×Unit)) (p5:List ((List UInt8)×Int×Int×Unit)) (p6:Int) (p7:Int) (p8:List Int) (p9:List (Int×Int×Int×((List UInt8)×Int×Int×Unit)×Int×Int×(List UInt8)×Bool×Unit)) (p10:List ((List UInt8)×Int×Int×Int×Int×(List ((List UInt8)×Int×Int×Unit))×Unit)) (p11:List ((List UInt8)×Int×Int×Unit)) {β:Type} (k:Bool->Option β):T22c F p0 p1 p2 p3 p4 p5 p6 p7 p8 p9 p10 p11 k=(T22 F p0 p1 p2 p3 p4 p5 p6 p7 p8 p9 p10 p11).bind k:=by
 simp only [T22,T22c,Option.bind_assoc,cond_bind,Option.bind_some,Option.bind_none,elimS_bind]
abbrev cA22:List Sh:=[(.pr .i (.pr .i (.pr (.ro .i) (.pr (.ro (.pr .i (.pr .i (.pr .i (.pr (.pr .s (.pr .i (.pr .i .un))) (.pr .i (.pr .i (.pr .s (.pr .bo .un))))))))) (.pr (.ro (.pr .s (.pr .i (.pr .i (.pr .i (.pr .i (.pr (.sl (.pr .s (.pr .i (.pr .i .un)))) .un))))))) (.pr (.ro (.pr .s (.pr .i (.pr .i .un)))) .un)))))),(.pr .i (.pr .i (.pr (.ro .i) (.pr (.ro (.pr .i (.pr .i (.pr .i (.pr (.pr .s (.pr .i (.pr .i .un))) (.pr .i (.pr .i (.pr .s (.pr .bo .un))))))))) (.pr (.ro (.pr .s (.pr .i (.pr .i (.pr .i (.pr .i (.pr (.sl (.pr .s (.pr .i (.pr .i .un)))) .un))))))) (.pr (.ro (.pr .s (.pr .i (.pr .i .un)))) .un))))))]
abbrev cB22:List Sh:=[.bo]
abbrev cT22:List TSh:=[]
abbrev cU22:List TSh:=[]
def ct22 (F:Nat):Ct:=mkC 0 cA22 cT22 cB22 cU22 (fun x y=>T22 F x.1.1 x.1.2.1 x.1.2.2.1 x.1.2.2.2.1 x.1.2.2.2.2.1 x.1.2.2.2.2.2.1 x.2.1.1 x.2.1.2.1 x.2.1.2.2.1 x.2.1.2.2.2.1 x.2.1.2.2.2.2.1 x.2.1.2.2.2.2.2.1) (fun x y (z:Bool)=>((z,()),()))
theorem eq22 (F:Nat) (x:dens cA22) (y:tdens cT22):sev (E22 F) 0 [] (bodyOf Tryz.f22) [] (mkSt (rng 2) cA22 cT22 x y) (kFn (E22 F) 0 Tryz.f22.results.toList cB22 cU22 fun p q=>some (p,q)) =
  T22c F x.1.1 x.1.2.1 x.1.2.2.1 x.1.2.2.2.1 x.1.2.2.2.2.1 x.1.2.2.2.2.2.1 x.2.1.1 x.2.1.2.1 x.2.1.2.2.1 x.2.1.2.2.2.1 x.2.1.2.2.2.2.1 x.2.1.2.2.2.2.2.1 (fun z=>some ((z,()),())):=by kernel_rfl
theorem ok22 (F:Nat):Sound Tryz.prog cfg 22 (ct22 F):=
 mkC_ok (E:=E22 F) (lp:=[]) (code:=bodyOf Tryz.f22) Tryz.func22 rfl Tryz.ntmps22 rfl rfl cok (cts22 F) mixed trivial (by kernel_rfl) (fun x y k=>T22c F x.1.1 x.1.2.1 x.1.2.2.1 x.1.2.2.2.1 x.1.2.2.2.2.1 x.1.2.2.2.2.2.1 x.2.1.1 x.2.1.2.1 x.2.1.2.2.1 x.2.1.2.2.2.1 x.2.1.2.2.2.2.1 x.2.1.2.2.2.2.2.1 k) (fun x y k=>T22n F x.1.1 x.1.2.1 x.1.2.2.1 x.1.2.2.2.1 x.1.2.2.2.2.1 x.1.2.2.2.2.2.1 x.2.1.1 x.2.1.2.1 x.2.1.2.2.1 x.2.1.2.2.2.1 x.2.1.2.2.2.2.1 x.2.1.2.2.2.2.2.1 k) (eq22 F)
def ord5:Nat->List (Tag×Nat)
 | _=>[]
def al5:Nat->Option Nat
 | _=>none
def ms5:Nat->Option (List (Option Tag×Nat×List Nat))
 | _=>none
def E5 (F:Nat):Ev:=⟨cfg,51,ctOf [(10,ct10 F),(11,ct11 F),(19,ct19 F),(20,ct20 F),(21,ct21 F),(22,ct22 F)],ord5,ctOf [],al5,ms5⟩
theorem cts5 (F:Nat):CtsOk Tryz.prog (E5 F):=cts_of (l:=[(10,ct10 F),(11,ct11 F),(19,ct19 F),(20,ct20 F),(21,ct21 F),(22,ct22 F)]) (l':=[]) rfl rfl ⟨⟨ok10 F,_,Tryz.func10,rfl,rfl⟩,⟨⟨ok11 F,_,Tryz.func11,rfl,rfl⟩,⟨⟨ok19 F,_,Tryz.func19,rfl,rfl⟩,⟨⟨ok20 F,_,Tryz.func20,rfl,rfl⟩,⟨⟨ok21 F,_,Tryz.func21,rfl,rfl⟩,⟨⟨ok22 F,_,Tryz.func22,rfl,rfl⟩,trivial⟩⟩⟩⟩⟩⟩ trivial
def T5c (F:Nat) (p0:Int) (p1:Int) (p2:List Int) (p3:List (Int×Int×Int×((List UInt8)×Int×Int×Unit)×Int×Int×(List UInt8)×Bool×Unit)) (p4:List ((List UInt8)×Int×Int×Int×Int×(List ((List UInt8)×Int×Int×Unit))×Unit)) (p5:List ((List UInt8)×Int×Int×Unit)) {β:Type} (k:Bool->Option β):Option β:=
 (Option.bind (T10 F) fun z9=>(bif (!z9) then (Option.bind (T10 F) fun z10=>(k z10)) else (Option.bind (T11 F p2 p3 p4 p5) fun z11=>(bif (!z11) then (Option.bind (T10 F) fun z12=>(k z12)) else (Option.bind (T19 F p0 p1 p2 p3 p4 p5) fun z13=>(Option.bind (T20 F p0 p1 p2 p3 p4 p5) fun z14=>(bif (z13.2 != z14.2) then (k false) else (bif (z13.1 != z14.1) then (k false) else (bif (z13.1 != (0:Int)) then (k true) else (Option.bind (T21 F z13.2) fun z15=>(bif (z15.2.2.1 == (0:Int)) then (Option.bind (T22 F p0 p1 p2 p3 p4 p5 z15.1 z15.2.1 z15.2.2.2.1 z15.2.2.2.2.1 z15.2.2.2.2.2.1 z15.2.2.2.2.2.2) fun z16=>(k z16)) else (k false))))))))))))
def T5 (F:Nat) (p0:Int) (p1:Int) (p2:List Int) (p3:List (Int×Int×Int×((List UInt8)×Int×Int×Unit)×Int×Int×(List UInt8)×Bool×Unit)) (p4:List ((List UInt8)×Int×Int×Int×Int×(List ((List UInt8)×Int×Int×Unit))×Unit)) (p5:List ((List UInt8)×Int×Int×Unit)):Option (Bool):=T5c F p0 p1 p2 p3 p4 p5 some
theorem T5n (F:Nat) (p0:Int) (p1:Int) (p2:List Int) (p3:List (Int×Int×Int×((List UInt8)×Int×Int×Unit)×Int×Int×(List UInt8)×Bool×Unit)) (p4:List ((List UInt8)×Int×Int×Int×Int×(List ((List UInt8)×Int×Int×Unit))×Unit)) (p5:List ((List UInt8)×Int×Int×Unit)) {β:Type} (k:Bool->Option β):T5c F p0 p1 p2 p3 p4 p5 k=(T5 F p0 p1 p2 p3 p4 p5).bind k:=by
 simp only [T5,T5c,Option.bind_assoc,cond_bind,Option.bind_some,Option.bind_none,elimS_bind]
abbrev cA5:List Sh:=[(.pr .i (.pr .i (.pr (.ro .i) (.pr (.ro (.pr .i (.pr .i (.pr .i (.pr (.pr .s (.pr .i (.pr .i .un))) (.pr .i (.pr .i (.pr .s (.pr .bo .un))))))))) (.pr (.ro (.pr .s (.pr .i (.pr .i (.pr .i (.pr .i (.pr (.sl (.pr .s (.pr .i (.pr .i .un)))) .un))))))) (.pr (.ro (.pr .s (.pr .i (.pr .i .un)))) .un))))))]
abbrev cB5:List Sh:=[.bo]
abbrev cT5:List TSh:=[]
abbrev cU5:List TSh:=[]
def ct5 (F:Nat):Ct:=mkC 0 cA5 cT5 cB5 cU5 (fun x y=>T5 F x.1.1 x.1.2.1 x.1.2.2.1 x.1.2.2.2.1 x.1.2.2.2.2.1 x.1.2.2.2.2.2.1) (fun x y (z:Bool)=>((z,()),()))
theorem eq5 (F:Nat) (x:dens cA5) (y:tdens cT5):sev (E5 F) 0 [] (bodyOf Tryz.f5) [] (mkSt (rng 1) cA5 cT5 x y) (kFn (E5 F) 0 Tryz.f5.results.toList cB5 cU5 fun p q=>some (p,q)) =
  T5c F x.1.1 x.1.2.1 x.1.2.2.1 x.1.2.2.2.1 x.1.2.2.2.2.1 x.1.2.2.2.2.2.1 (fun z=>some ((z,()),())):=by kernel_rfl
theorem ok5 (F:Nat):Sound Tryz.prog cfg 5 (ct5 F):=
 mkC_ok (E:=E5 F) (lp:=[]) (code:=bodyOf Tryz.f5) Tryz.func5 rfl Tryz.ntmps5 rfl rfl cok (cts5 F) mixed trivial (by kernel_rfl) (fun x y k=>T5c F x.1.1 x.1.2.1 x.1.2.2.1 x.1.2.2.2.1 x.1.2.2.2.2.1 x.1.2.2.2.2.2.1 k) (fun x y k=>T5n F x.1.1 x.1.2.1 x.1.2.2.1 x.1.2.2.2.1 x.1.2.2.2.2.1 x.1.2.2.2.2.2.1 k) (eq5 F)
def ord165:Nat->List (Tag×Nat)
 | 16=>[(.p,0),(.p,1),(.p,2),(.r,3),(.p,4),(.p,5),(.p,6),(.p,7),(.p,8),(.r,9),(.p,10)]
 | _=>[]
def al165:Nat->Option Nat
 | _=>none
def ms165:Nat->Option (List (Option Tag×Nat×List Nat))
 | _=>none
def E165 (F:Nat):Ev:=⟨cfg,75,ctOf [(100,ct100 F)],ord165,ctOf [],al165,ms165⟩
theorem cts165 (F:Nat):CtsOk Tryz.prog (E165 F):=cts_of (l:=[(100,ct100 F)]) (l':=[]) rfl rfl ⟨⟨ok100 F,_,Tryz.func100,rfl,rfl⟩,trivial⟩ trivial
def L165_5c (F:Nat) (y40:List UInt8) (y41:Int) (y43:UInt64) (y44:Int) {β:Type} (kA:(UInt64×Int)->Option β) (kO:UInt64->Option β):Option β:=
 (bif (decide ((0:Int)≤y44)) then (Option.bind (ix y40 (w64 (y41 + y44))) fun x46=>(kA (((y43 * (UInt64.ofNat 128)) + ((x46 % (UInt8.ofNat 128)).toUInt64)),(w64 (y44 - (1:Int)))))) else (kO y43))
def L165_5 (F:Nat) (y40:List UInt8) (y41:Int) (y43:UInt64) (y44:Int):Option ((UInt64×Int) ⊕ (UInt64)):=L165_5c F y40 y41 y43 y44 (fun s=>some (.inl s)) (fun z=>some (.inr z))
theorem L165_5n (F:Nat) (y40:List UInt8) (y41:Int) (y43:UInt64) (y44:Int) {β:Type} (kA:(UInt64×Int)->Option β) (kO:UInt64->Option β):L165_5c F y40 y41 y43 y44 kA kO=(L165_5 F y40 y41 y43 y44).bind (elimS kA kO):=by
 simp only [L165_5,L165_5c,Option.bind_assoc,cond_bind,Option.bind_some,Option.bind_none,elimS_l,elimS_r,elimS_bind]
abbrev sA165_5:List Sh:=[(.ro .u8),.i,.i,.u64,.i]
abbrev sAp1165_5:List Sh:=[(.ro .u8),.i,.i,.u64]
abbrev sT165_5:List TSh:=[]
abbrev sTp1165_5:List TSh:=[]
def lc165_5 (F:Nat):Lc:=mkL [0,1,7,8,9] sA165_5 sT165_5 [0,1,7,8] sAp1165_5 sTp1165_5 F (fun x y (s:UInt64×Int)=>L165_5 F x.1 x.2.1 s.1 s.2) (fun x y=>(x.2.2.2.1,x.2.2.2.2.1)) (fun x y (z:UInt64)=>((x.1,x.2.1,x.2.2.1,z,()),()))
theorem le165_5 (F:Nat) (x:dens sA165_5) (y:tdens sT165_5) (s:UInt64×Int):sev (E165 F) 0 [] (cAt (bodyOf Tryz.f165) (0 :: 0 :: [1,0,1,1,0,0,1,0,0,1,0,1])) (0 :: 0 :: [1,0,1,1,0,0,1,0,0,1,0,1]) (mkSt [0,1,7,8,9] sA165_5 sT165_5 (x.1,x.2.1,x.2.2.1,s.1,s.2,()) ()) (kLoop 0 [0,1,7,8,9] sA165_5 sT165_5 [0,1,7,8] sAp1165_5 sTp1165_5 [] [] [] 2 (fun x y=>some (.inl (x,y))) (fun x y=>some (.inr (.inl (x,y)))) (fun x y=>some (.inr (.inr (x,y))))) =
  L165_5c (β:=Full sA165_5 sT165_5 sAp1165_5 sTp1165_5 [] []) F x.1 x.2.1 s.1 s.2 (fun s=>some (.inl ((x.1,x.2.1,x.2.2.1,s.1,s.2,()),()))) (fun z=>some (.inr (.inl ((x.1,x.2.1,x.2.2.1,z,()),())))):=by kernel_rfl
theorem lo165_5 (F:Nat):LcOk Tryz.prog (E165 F) 0 (lc165_5 F) (cAt (bodyOf Tryz.f165) [1,0,1,1,0,0,1,0,0,1,0,1]):=
 mkL_ok (lp:=[]) (id:=2) (b:=cAt (bodyOf Tryz.f165) (0 :: 0 :: [1,0,1,1,0,0,1,0,0,1,0,1])) cok (cts165 F) mixed trivial (by kernel_rfl) (by kernel_rfl) (fun x y s=>(x.1,x.2.1,x.2.2.1,s.1,s.2,())) (fun x y s=>()) (fun x y=>rfl) (fun x y=>rfl) (fun x y s kA kO=>L165_5c F x.1 x.2.1 s.1 s.2 kA kO) (fun x y s kA kO=>L165_5n F x.1 x.2.1 s.1 s.2 kA kO) (le165_5 F)
def L165_6c (F:Nat) (y49:List UInt8) (y50:Int) (y51:Int) (y54:List UInt8) (y53:Int) {β:Type} (kA:Int->Option β) (kO:Unit->Option β) (kR:(UInt64×Int×Bool)->Option β):Option β:=
 (bif (decide (y53 < y51)) then (Option.bind (inb y54.length y53) fun x58=>(Option.bind (y54[x58]?) fun x59=>(Option.bind (ix y49 (w64 (y50 + y53))) fun x60=>(bif (x59 != x60) then (kR ((UInt64.ofNat 0),(0:Int),false)) else (kA (w64 (y53 + (1:Int)))))))) else (kO ()))
def L165_6 (F:Nat) (y49:List UInt8) (y50:Int) (y51:Int) (y54:List UInt8) (y53:Int):Option ((Int) ⊕ ((Unit) ⊕ (UInt64×Int×Bool))):=L165_6c F y49 y50 y51 y54 y53 (fun s=>some (.inl s)) (fun z=>some (.inr (.inl z))) (fun z=>some (.inr (.inr z)))
theorem L165_6n (F:Nat) (y49:List UInt8) (y50:Int) (y51:Int) (y54:List UInt8) (y53:Int) {β:Type} (kA:Int->Option β) (kO:Unit->Option β) (kR:(UInt64×Int×Bool)->Option β):L165_6c F y49 y50 y51 y54 y53 kA kO kR=(L165_6 F y49 y50 y51 y54 y53).bind (elimS kA (elimS kO kR)):=by
 simp only [L165_6,L165_6c,Option.bind_assoc,cond_bind,Option.bind_some,Option.bind_none,elimS_l,elimS_r,elimS_bind]
abbrev sA165_6:List Sh:=[(.ro .u8),.i,.i,.u64,(.rw 0),.i]
abbrev sAp1165_6:List Sh:=[.i,.i,.u64]
abbrev sAp2165_6:List Sh:=[.u64,.i,.bo]
abbrev sT165_6:List TSh:=[.row 5 .u8]
abbrev sTp1165_6:List TSh:=[]
abbrev sTp2165_6:List TSh:=[]
def lc165_6 (F:Nat):Lc:=mkR [0,1,7,8,10,11] sA165_6 sT165_6 [1,7,8] sAp1165_6 sTp1165_6 [4,5,6] sAp2165_6 sTp2165_6 F (fun x y (s:Int)=>L165_6 F x.1 x.2.1 x.2.2.1 y.1 s) (fun x y=>x.2.2.2.2.2.1) (fun x y (z:Unit)=>((x.2.1,x.2.2.1,x.2.2.2.1,()),())) (fun x y (z:UInt64×Int×Bool)=>((z.1,z.2.1,z.2.2,()),()))
theorem le165_6 (F:Nat) (x:dens sA165_6) (y:tdens sT165_6) (s:Int):sev (E165 F) 0 [] (cAt (bodyOf Tryz.f165) (0 :: 0 :: [1,0,1,1,1,1,1,0,0,1,0,0,1,0,1])) (0 :: 0 :: [1,0,1,1,1,1,1,0,0,1,0,0,1,0,1]) (mkSt [0,1,7,8,10,11] sA165_6 sT165_6 (x.1,x.2.1,x.2.2.1,x.2.2.2.1,(),s,()) (y.1,())) (kLoop 0 [0,1,7,8,10,11] sA165_6 sT165_6 [1,7,8] sAp1165_6 sTp1165_6 [4,5,6] sAp2165_6 sTp2165_6 4 (fun x y=>some (.inl (x,y))) (fun x y=>some (.inr (.inl (x,y)))) (fun x y=>some (.inr (.inr (x,y))))) =
  L165_6c (β:=Full sA165_6 sT165_6 sAp1165_6 sTp1165_6 sAp2165_6 sTp2165_6) F x.1 x.2.1 x.2.2.1 y.1 s (fun s=>some (.inl ((x.1,x.2.1,x.2.2.1,x.2.2.2.1,(),s,()),(y.1,())))) (fun z=>some (.inr (.inl ((x.2.1,x.2.2.1,x.2.2.2.1,()),())))) (fun z=>some (.inr (.inr ((z.1,z.2.1,z.2.2,()),())))):=by kernel_rfl
theorem lo165_6 (F:Nat):LcOk Tryz.prog (E165 F) 0 (lc165_6 F) (cAt (bodyOf Tryz.f165) [1,0,1,1,1,1,1,0,0,1,0,0,1,0,1]):=
 mkR_ok (lp:=[]) (id:=4) (b:=cAt (bodyOf Tryz.f165) (0 :: 0 :: [1,0,1,1,1,1,1,0,0,1,0,0,1,0,1])) cok (cts165 F) mixed trivial (by kernel_rfl) (by kernel_rfl) (fun x y s=>(x.1,x.2.1,x.2.2.1,x.2.2.2.1,(),s,())) (fun x y s=>(y.1,())) (fun x y=>rfl) (fun x y=>rfl) (fun x y s kA kO kR=>L165_6c F x.1 x.2.1 x.2.2.1 y.1 s kA kO kR) (fun x y s kA kO kR=>L165_6n F x.1 x.2.1 x.2.2.1 y.1 s kA kO kR) (le165_6 F)
def L165_4c (F:Nat) (y32:List UInt8) (y33:Int) (y34:Int) {β:Type} (kA:Int->Option β) (kO:Unit->Option β) (kR:(UInt64×Int×Bool)->Option β):Option β:=
 (bif (decide (y34≤(10:Int))) then (bif (decide ((w64 (y33 + y34))≤(y32.length:Int))) then (Option.bind (ix y32 (w64 ((w64 (y33 + y34)) - (1:Int)))) fun x39=>(bif (decide ((UInt8.ofNat 128)≤x39)) then (kA (w64 (y34 + (1:Int)))) else (Option.bind (iter (fun s=>L165_5 F y32 y33 s.1 s.2) F ((UInt64.ofNat 0),(w64 (y34 - (1:Int))))) fun z47=>(Option.bind (T100 F z47) fun z48=>(bif ((z48.length:Int) != y34) then (kR ((UInt64.ofNat 0),(0:Int),false)) else (Option.bind (iter (fun s=>L165_6 F y32 y33 y34 z48 s) F (0:Int)) fun z61=>elimS (fun z61=>(kR (z47,(w64 (y33 + y34)),true))) (fun z61=>(kR (z61.1,z61.2.1,z61.2.2))) z61)))))) else (kO ())) else (kO ()))
def L165_4 (F:Nat) (y32:List UInt8) (y33:Int) (y34:Int):Option ((Int) ⊕ ((Unit) ⊕ (UInt64×Int×Bool))):=L165_4c F y32 y33 y34 (fun s=>some (.inl s)) (fun z=>some (.inr (.inl z))) (fun z=>some (.inr (.inr z)))
theorem L165_4n (F:Nat) (y32:List UInt8) (y33:Int) (y34:Int) {β:Type} (kA:Int->Option β) (kO:Unit->Option β) (kR:(UInt64×Int×Bool)->Option β):L165_4c F y32 y33 y34 kA kO kR=(L165_4 F y32 y33 y34).bind (elimS kA (elimS kO kR)):=by
 simp only [L165_4,L165_4c,Option.bind_assoc,cond_bind,Option.bind_some,Option.bind_none,elimS_l,elimS_r,elimS_bind]
abbrev sA165_4:List Sh:=[(.ro .u8),.i,.i]
abbrev sAp1165_4:List Sh:=[]
abbrev sAp2165_4:List Sh:=[.u64,.i,.bo]
abbrev sT165_4:List TSh:=[]
abbrev sTp1165_4:List TSh:=[]
abbrev sTp2165_4:List TSh:=[]
def lc165_4 (F:Nat):Lc:=mkR [0,1,7] sA165_4 sT165_4 [] sAp1165_4 sTp1165_4 [4,5,6] sAp2165_4 sTp2165_4 F (fun x y (s:Int)=>L165_4 F x.1 x.2.1 s) (fun x y=>x.2.2.1) (fun x y (z:Unit)=>((),())) (fun x y (z:UInt64×Int×Bool)=>((z.1,z.2.1,z.2.2,()),()))
theorem le165_4 (F:Nat) (x:dens sA165_4) (y:tdens sT165_4) (s:Int):sev (E165 F) 0 [([1,0,1,1,0,0,1,0,0,1,0,1],lc165_5 F),([1,0,1,1,1,1,1,0,0,1,0,0,1,0,1],lc165_6 F)] (cAt (bodyOf Tryz.f165) (0 :: 0 :: [1,0,1])) (0 :: 0 :: [1,0,1]) (mkSt [0,1,7] sA165_4 sT165_4 (x.1,x.2.1,s,()) ()) (kLoop 0 [0,1,7] sA165_4 sT165_4 [] sAp1165_4 sTp1165_4 [4,5,6] sAp2165_4 sTp2165_4 0 (fun x y=>some (.inl (x,y))) (fun x y=>some (.inr (.inl (x,y)))) (fun x y=>some (.inr (.inr (x,y))))) =
  L165_4c (β:=Full sA165_4 sT165_4 sAp1165_4 sTp1165_4 sAp2165_4 sTp2165_4) F x.1 x.2.1 s (fun s=>some (.inl ((x.1,x.2.1,s,()),()))) (fun z=>some (.inr (.inl ((),())))) (fun z=>some (.inr (.inr ((z.1,z.2.1,z.2.2,()),())))):=by kernel_rfl
theorem lo165_4 (F:Nat):LcOk Tryz.prog (E165 F) 0 (lc165_4 F) (cAt (bodyOf Tryz.f165) [1,0,1]):=
 mkR_ok (lp:=[([1,0,1,1,0,0,1,0,0,1,0,1],lc165_5 F),([1,0,1,1,1,1,1,0,0,1,0,0,1,0,1],lc165_6 F)]) (id:=0) (b:=cAt (bodyOf Tryz.f165) (0 :: 0 :: [1,0,1])) cok (cts165 F) mixed ⟨lo165_5 F,⟨lo165_6 F,trivial⟩⟩ (by kernel_rfl) (by kernel_rfl) (fun x y s=>(x.1,x.2.1,s,())) (fun x y s=>()) (fun x y=>rfl) (fun x y=>rfl) (fun x y s kA kO kR=>L165_4c F x.1 x.2.1 s kA kO kR) (fun x y s kA kO kR=>L165_4n F x.1 x.2.1 s kA kO kR) (le165_4 F)
def T165c (F:Nat) (p0:List UInt8) (p1:Int) {β:Type} (k:(UInt64×Int×Bool)->Option β):Option β:=
 (Option.bind (iter (fun s=>L165_4 F p0 p1 s) F (1:Int)) fun z62=>elimS (fun z62=>(k ((UInt64.ofNat 0),(0:Int),false))) (fun z62=>(k (z62.1,z62.2.1,z62.2.2))) z62)
def T165 (F:Nat) (p0:List UInt8) (p1:Int):Option (UInt64×Int×Bool):=T165c F p0 p1 some
theorem T165n (F:Nat) (p0:List UInt8) (p1:Int) {β:Type} (k:(UInt64×Int×Bool)->Option β):T165c F p0 p1 k=(T165 F p0 p1).bind k:=by
 simp only [T165,T165c,Option.bind_assoc,cond_bind,Option.bind_some,Option.bind_none,elimS_bind]
abbrev cA165:List Sh:=[(.ro .u8),.i]
abbrev cB165:List Sh:=[.u64,.i,.bo]
abbrev cT165:List TSh:=[]
abbrev cU165:List TSh:=[]
def ct165 (F:Nat):Ct:=mkC 0 cA165 cT165 cB165 cU165 (fun x y=>T165 F x.1 x.2.1) (fun x y (z:UInt64×Int×Bool)=>((z.1,z.2.1,z.2.2,()),()))
theorem eq165 (F:Nat) (x:dens cA165) (y:tdens cT165):sev (E165 F) 0 [([1,0,1],lc165_4 F)] (bodyOf Tryz.f165) [] (mkSt (rng 2) cA165 cT165 x y) (kFn (E165 F) 0 Tryz.f165.results.toList cB165 cU165 fun p q=>some (p,q)) =
  T165c F x.1 x.2.1 (fun z=>some ((z.1,z.2.1,z.2.2,()),())):=by kernel_rfl
theorem ok165 (F:Nat):Sound Tryz.prog cfg 165 (ct165 F):=
 mkC_ok (E:=E165 F) (lp:=[([1,0,1],lc165_4 F)]) (code:=bodyOf Tryz.f165) Tryz.func165 rfl Tryz.ntmps165 rfl rfl cok (cts165 F) mixed ⟨lo165_4 F,trivial⟩ (by kernel_rfl) (fun x y k=>T165c F x.1 x.2.1 k) (fun x y k=>T165n F x.1 x.2.1 k) (eq165 F)
end Go.Proofs.YthikoaamigiceaaGreatDoor
