/- The functions, each with its twin, and plain facts about them. -/
import Derived.Test.YthikoaamigiceaaDoorB
import Derived.Test.YthikoaamigiceaaDoorSGr80
import Derived.Test.YthikoaamigiceaaDoorSIt94
import Derived.Test.YthikoaamigiceaaDoorSIt57
namespace Go.Proofs.YthikoaamigiceaaDoor
open Go.Tw
set_option linter.unusedSimpArgs false
set_option linter.unusedVariables false
def ord22:Nat->List (Tag×Nat)
 | _=>[]
def al22:Nat->Option Nat
 | _=>none
def ms22:Nat->Option (List (Option Tag×Nat×List Nat))
 | _=>none
def E22 (F:Nat):Ev:=⟨cfg,10,ctOf [],ord22,ctOf [],al22,ms22⟩
theorem cts22 (F:Nat):CtsOk Tryd.prog (E22 F):=cts_of (l:=[]) (l':=[]) rfl rfl trivial trivial
def T22c (F:Nat) (p0:UInt8) {β:Type} (k:((List UInt8))->Option β):Option β:=
 (Option.bind (gmake (0:UInt8) (32:Int) (32:Int)) fun x3=>(Option.bind (inb x3.length (0:Int)) fun x4=>(k (List.set x3 x4 p0))))
def T22 (F:Nat) (p0:UInt8):Option ((List UInt8)):=T22c F p0 some
theorem T22n (F:Nat) (p0:UInt8) {β:Type} (k:((List UInt8))->Option β):T22c F p0 k=(T22 F p0).bind k:=by
 simp only [T22,T22c,Option.bind_assoc,cond_bind,Option.bind_some,Option.bind_none,elimS_bind]
abbrev cA22:List Sh:=[.u8]
abbrev cB22:List Sh:=[.str]
abbrev cT22:List TSh:=[]
abbrev cU22:List TSh:=[]
def ct22 (F:Nat):Ct:=mkC 0 cA22 cT22 cB22 cU22 (fun x y=>T22 F x.1) (fun x y (z:(List UInt8))=>((z,()),()))
theorem eq22 (F:Nat) (x:dens cA22) (y:tdens cT22):sev (E22 F) 0 [] (bodyOf Tryd.f22) [] (mkSt (rng 1) cA22 cT22 x y) (kFn (E22 F) 0 Tryd.f22.results.toList cB22 cU22 fun p q=>some (p,q)) =
  T22c F x.1 (fun z=>some ((z,()),())):=by kernel_rfl
theorem ok22 (F:Nat):Sound Tryd.prog cfg 22 (ct22 F):=
 mkC_ok (E:=E22 F) (lp:=[]) (code:=bodyOf Tryd.f22) Tryd.func22 rfl Tryd.ntmps22 rfl rfl cok (cts22 F) mixed trivial (by kernel_rfl) (fun x y k=>T22c F x.1 k) (fun x y k=>T22n F x.1 k) (eq22 F)
def ord98:Nat->List (Tag×Nat)
 | _=>[]
def al98:Nat->Option Nat
 | _=>none
def ms98:Nat->Option (List (Option Tag×Nat×List Nat))
 | _=>none
def E98 (F:Nat):Ev:=⟨cfg,4,ctOf [],ord98,ctOf [],al98,ms98⟩
theorem cts98 (F:Nat):CtsOk Tryd.prog (E98 F):=cts_of (l:=[]) (l':=[]) rfl rfl trivial trivial
def T98c (F:Nat) {β:Type} (k:((Vector UInt32 8)×(Vector UInt8 64)×Int)->Option β):Option β:=
 (k ((gv1),(Vector.replicate 64 (0:UInt8)),(0:Int)))
def T98 (F:Nat):Option ((Vector UInt32 8)×(Vector UInt8 64)×Int):=T98c F some
theorem T98n (F:Nat) {β:Type} (k:((Vector UInt32 8)×(Vector UInt8 64)×Int)->Option β):T98c F k=(T98 F).bind k:=by
 simp only [T98,T98c,Option.bind_assoc,cond_bind,Option.bind_some,Option.bind_none,elimS_bind]
abbrev cA98:List Sh:=[]
abbrev cB98:List Sh:=[(.pt 0 [])]
abbrev cT98:List TSh:=[]
abbrev cU98:List TSh:=[.blk 145 (.pr (.ar 8 .u32) (.pr (.ar 64 .u8) (.pr .i .un)))]
def ct98 (F:Nat):Ct:=mkC 0 cA98 cT98 cB98 cU98 (fun x y=>T98 F) (fun x y (z:(Vector UInt32 8)×(Vector UInt8 64)×Int)=>(((),()),((z.1,z.2.1,z.2.2,()),())))
theorem eq98 (F:Nat) (x:dens cA98) (y:tdens cT98):sev (E98 F) 0 [] (bodyOf Tryd.f98) [] (mkSt (rng 0) cA98 cT98 x y) (kFn (E98 F) 0 Tryd.f98.results.toList cB98 cU98 fun p q=>some (p,q)) =
  T98c F (fun z=>some (((),()),((z.1,z.2.1,z.2.2,()),()))):=by kernel_rfl
theorem ok98 (F:Nat):Sound Tryd.prog cfg 98 (ct98 F):=
 mkC_ok (E:=E98 F) (lp:=[]) (code:=bodyOf Tryd.f98) Tryd.func98 rfl Tryd.ntmps98 rfl rfl cok (cts98 F) mixed trivial (by kernel_rfl) (fun x y k=>T98c F k) (fun x y k=>T98n F k) (eq98 F)
def ord117:Nat->List (Tag×Nat)
 | _=>[]
def al117:Nat->Option Nat
 | _=>none
def ms117:Nat->Option (List (Option Tag×Nat×List Nat))
 | _=>none
def E117 (F:Nat):Ev:=⟨cfg,17,ctOf [],ord117,ctOf [],al117,ms117⟩
theorem cts117 (F:Nat):CtsOk Tryd.prog (E117 F):=cts_of (l:=[]) (l':=[]) rfl rfl trivial trivial
def T117c (F:Nat) (p0:UInt32) (p1:Int) {β:Type} (k:UInt32->Option β):Option β:=
 (k ((shl32 p0 (((UInt64.ofInt p1) &&& (UInt64.ofNat 31)).toNat)) ||| (shr32 p0 (((UInt64.ofNat 32) - ((UInt64.ofInt p1) &&& (UInt64.ofNat 31))).toNat))))
def T117 (F:Nat) (p0:UInt32) (p1:Int):Option (UInt32):=T117c F p0 p1 some
theorem T117n (F:Nat) (p0:UInt32) (p1:Int) {β:Type} (k:UInt32->Option β):T117c F p0 p1 k=(T117 F p0 p1).bind k:=by
 simp only [T117,T117c,Option.bind_assoc,cond_bind,Option.bind_some,Option.bind_none,elimS_bind]
abbrev cA117:List Sh:=[.u32,.i]
abbrev cB117:List Sh:=[.u32]
abbrev cT117:List TSh:=[]
abbrev cU117:List TSh:=[]
def ct117 (F:Nat):Ct:=mkC 0 cA117 cT117 cB117 cU117 (fun x y=>T117 F x.1 x.2.1) (fun x y (z:UInt32)=>((z,()),()))
theorem eq117 (F:Nat) (x:dens cA117) (y:tdens cT117):sev (E117 F) 0 [] (bodyOf Tryd.f117) [] (mkSt (rng 2) cA117 cT117 x y) (kFn (E117 F) 0 Tryd.f117.results.toList cB117 cU117 fun p q=>some (p,q)) =
  T117c F x.1 x.2.1 (fun z=>some ((z,()),())):=by kernel_rfl
theorem ok117 (F:Nat):Sound Tryd.prog cfg 117 (ct117 F):=
 mkC_ok (E:=E117 F) (lp:=[]) (code:=bodyOf Tryd.f117) Tryd.func117 rfl Tryd.ntmps117 rfl rfl cok (cts117 F) mixed trivial (by kernel_rfl) (fun x y k=>T117c F x.1 x.2.1 k) (fun x y k=>T117n F x.1 x.2.1 k) (eq117 F)
def ord110:Nat->List (Tag×Nat)
 | 6=>[(.p,0),(.p,1),(.p,2),(.r,3),(.p,4),(.p,5),(.p,6),(.p,7),(.r,8),(.p,9),(.p,10),(.p,11),(.p,12),(.p,13),(.r,14),(.p,15),(.p,16),(.p,17),(.p,18),(.p,19),(.r,20),(.p,21),(.p,22),(.p,23),(.w,24)]
 | 7=>[(.p,0),(.p,1),(.p,2),(.r,3),(.p,4),(.p,5),(.p,6),(.r,7),(.p,8),(.p,9)]
 | 10=>[(.p,0),(.p,1),(.p,2),(.p,3),(.p,4),(.r,5),(.p,6),(.p,7),(.p,8),(.p,9),(.p,10),(.p,11),(.r,12),(.p,13),(.p,14),(.w,15)]
 | 13=>[(.p,0),(.r,1),(.p,2),(.r,3),(.p,4),(.r,5),(.p,6),(.r,7),(.p,8),(.r,9),(.p,10),(.r,11),(.p,12),(.r,13),(.p,14),(.r,15),(.p,16),(.p,17),(.p,18),(.p,19),(.p,20),(.p,21),(.p,22),(.p,23)]
 | 19=>[(.p,0),(.p,1),(.p,2),(.p,3),(.p,4),(.p,5),(.p,6),(.p,7),(.p,8),(.p,9),(.p,10),(.p,11),(.p,12),(.p,13),(.r,14),(.p,15),(.p,16),(.p,17),(.r,18),(.p,19),(.p,20)]
 | 26=>[(.p,0),(.p,1),(.p,2),(.p,3),(.r,4),(.p,5),(.p,6),(.p,7),(.p,8),(.p,9),(.w,10)]
 | _=>[]
def al110:Nat->Option Nat
 | _=>none
def ms110:Nat->Option (List (Option Tag×Nat×List Nat))
 | _=>none
def E110 (F:Nat):Ev:=⟨cfg,212,ctOf [(117,ct117 F)],ord110,ctOf [],al110,ms110⟩
theorem cts110 (F:Nat):CtsOk Tryd.prog (E110 F):=cts_of (l:=[(117,ct117 F)]) (l':=[]) rfl rfl ⟨⟨ok117 F,_,Tryd.func117,rfl,rfl⟩,trivial⟩ trivial
def L110_4c (F:Nat) (y113:Vector UInt8 64) (y110:Nat×Nat) (y111:Int) (y115:Vector UInt32 64) {β:Type} (kA:((Nat×Nat)×Int×(Vector UInt32 64))->Option β) (kO:((Vector UInt32 64))->Option β):Option β:=
 (bif (decide (y111 < (64:Int))) then (bif (decide (y111 < (16:Int))) then (Option.bind (gslb (y110.2 - y110.1) (w64 ((4:Int) * y111)) (w64 ((w64 ((4:Int) * y111)) + (4:Int)))) fun x139=>(Option.bind (inb ((y110.1 + x139.2) - (y110.1 + x139.1)) (0:Int)) fun x140=>(Option.bind (vat y113 ((y110.1 + x139.1) + x140)) fun x141=>(Option.bind (inb ((y110.1 + x139.2) - (y110.1 + x139.1)) (1:Int)) fun x142=>(Option.bind (vat y113 ((y110.1 + x139.1) + x142)) fun x143=>(Option.bind (inb ((y110.1 + x139.2) - (y110.1 + x139.1)) (2:Int)) fun x144=>(Option.bind (vat y113 ((y110.1 + x139.1) + x144)) fun x145=>(Option.bind (inb ((y110.1 + x139.2) - (y110.1 + x139.1)) (3:Int)) fun x146=>(Option.bind (vat y113 ((y110.1 + x139.1) + x146)) fun x147=>(Option.bind (inb 64 y111) fun x148=>(kA ((y110.1,y110.2),(w64 (y111 + (1:Int))),(Vector.setIfInBounds y115 x148 ((((shl32 (x141.toUInt32) ((UInt64.ofNat 24).toNat)) ||| (shl32 (x143.toUInt32) ((UInt64.ofNat 16).toNat))) ||| (shl32 (x145.toUInt32) ((UInt64.ofNat 8).toNat))) ||| (x147.toUInt32))))))))))))))) else (Option.bind (inb 64 (w64 (y111 - (2:Int)))) fun x149=>(Option.bind (vat y115 x149) fun x150=>(Option.bind (inb 64 (w64 (y111 - (15:Int)))) fun x151=>(Option.bind (vat y115 x151) fun x152=>(Option.bind (T117 F x150 (-17:Int)) fun z153=>(Option.bind (T117 F x150 (-19:Int)) fun z154=>(Option.bind (T117 F x152 (-7:Int)) fun z155=>(Option.bind (T117 F x152 (-18:Int)) fun z156=>(Option.bind (inb 64 (w64 (y111 - (7:Int)))) fun x157=>(Option.bind (vat y115 x157) fun x158=>(Option.bind (inb 64 (w64 (y111 - (16:Int)))) fun x159=>(Option.bind (vat y115 x159) fun x160=>(Option.bind (inb 64 y111) fun x161=>(kA ((y110.1,y110.2),(w64 (y111 + (1:Int))),(Vector.setIfInBounds y115 x161 (((((z153 ^^^ z154) ^^^ (shr32 x150 ((UInt64.ofNat 10).toNat))) + x158) + ((z155 ^^^ z156) ^^^ (shr32 x152 ((UInt64.ofNat 3).toNat)))) + x160)))))))))))))))))) else (kO y115))
def L110_4 (F:Nat) (y113:Vector UInt8 64) (y110:Nat×Nat) (y111:Int) (y115:Vector UInt32 64):Option (((Nat×Nat)×Int×(Vector UInt32 64)) ⊕ ((Vector UInt32 64))):=L110_4c F y113 y110 y111 y115 (fun s=>some (.inl s)) (fun z=>some (.inr z))
theorem L110_4n (F:Nat) (y113:Vector UInt8 64) (y110:Nat×Nat) (y111:Int) (y115:Vector UInt32 64) {β:Type} (kA:((Nat×Nat)×Int×(Vector UInt32 64))->Option β) (kO:((Vector UInt32 64))->Option β):L110_4c F y113 y110 y111 y115 kA kO=(L110_4 F y113 y110 y111 y115).bind (elimS kA kO):=by
 simp only [L110_4,L110_4c,Option.bind_assoc,cond_bind,Option.bind_some,Option.bind_none,elimS_l,elimS_r,elimS_bind]
abbrev sA110_4:List Sh:=[(.pt 0 []),(.ap 0 [1]),(.pt 1 []),.i]
abbrev sAp1110_4:List Sh:=[(.pt 0 []),(.pt 1 [])]
abbrev sT110_4:List TSh:=[.blk 145 (.pr (.ar 8 .u32) (.pr (.ar 64 .u8) (.pr .i .un))),.blk 163 (.ar 64 .u32)]
abbrev sTp1110_4:List TSh:=[.blk 145 (.pr (.ar 8 .u32) (.pr (.ar 64 .u8) (.pr .i .un))),.blk 163 (.ar 64 .u32)]
def lc110_4 (F:Nat):Lc:=mkL [0,1,4,27] sA110_4 sT110_4 [0,4] sAp1110_4 sTp1110_4 F (fun x y (s:(Nat×Nat)×Int×(Vector UInt32 64))=>L110_4 F y.1.2.1 s.1 s.2.1 s.2.2) (fun x y=>(x.2.1,x.2.2.2.1,y.2.1)) (fun x y (z:(Vector UInt32 64))=>(((),(),()),((y.1.1,y.1.2.1,y.1.2.2.1,()),z,())))
theorem le110_4 (F:Nat) (x:dens sA110_4) (y:tdens sT110_4) (s:(Nat×Nat)×Int×(Vector UInt32 64)):sev (E110 F) 1 [] (cAt (bodyOf Tryd.f110) (0 :: 0 :: [1,0,1])) (0 :: 0 :: [1,0,1]) (mkSt [0,1,4,27] sA110_4 sT110_4 ((),s.1,(),s.2.1,()) ((y.1.1,y.1.2.1,y.1.2.2.1,()),s.2.2,())) (kLoop 1 [0,1,4,27] sA110_4 sT110_4 [0,4] sAp1110_4 sTp1110_4 [] [] [] 0 (fun x y=>some (.inl (x,y))) (fun x y=>some (.inr (.inl (x,y)))) (fun x y=>some (.inr (.inr (x,y))))) =
  L110_4c (β:=Full sA110_4 sT110_4 sAp1110_4 sTp1110_4 [] []) F y.1.2.1 s.1 s.2.1 s.2.2 (fun s=>some (.inl (((),s.1,(),s.2.1,()),((y.1.1,y.1.2.1,y.1.2.2.1,()),s.2.2,())))) (fun z=>some (.inr (.inl (((),(),()),((y.1.1,y.1.2.1,y.1.2.2.1,()),z,()))))):=by kernel_rfl
theorem lo110_4 (F:Nat):LcOk Tryd.prog (E110 F) 1 (lc110_4 F) (cAt (bodyOf Tryd.f110) [1,0,1]):=
 mkL_ok (lp:=[]) (id:=0) (b:=cAt (bodyOf Tryd.f110) (0 :: 0 :: [1,0,1])) cok (cts110 F) mixed trivial (by kernel_rfl) (by kernel_rfl) (fun x y s=>((),s.1,(),s.2.1,())) (fun x y s=>((y.1.1,y.1.2.1,y.1.2.2.1,()),s.2.2,())) (fun x y=>rfl) (fun x y=>rfl) (fun x y s kA kO=>L110_4c F y.1.2.1 s.1 s.2.1 s.2.2 kA kO) (fun x y s kA kO=>L110_4n F y.1.2.1 s.1 s.2.1 s.2.2 kA kO) (le110_4 F)
def L110_5c (F:Nat) (y183:Vector UInt32 64) (y171:UInt32) (y172:UInt32) (y173:UInt32) (y174:UInt32) (y175:UInt32) (y176:UInt32) (y177:UInt32) (y178:UInt32) (y179:Int) {β:Type} (kA:(UInt32×UInt32×UInt32×UInt32×UInt32×UInt32×UInt32×UInt32×Int)->Option β) (kO:(UInt32×UInt32×UInt32×UInt32×UInt32×UInt32×UInt32×UInt32)->Option β):Option β:=
 (bif (decide (y179 < (64:Int))) then (Option.bind (T117 F y175 (-6:Int)) fun z194=>(Option.bind (T117 F y175 (-11:Int)) fun z195=>(Option.bind (T117 F y175 (-25:Int)) fun z196=>(Option.bind (T117 F y171 (-2:Int)) fun z197=>(Option.bind (T117 F y171 (-13:Int)) fun z198=>(Option.bind (T117 F y171 (-22:Int)) fun z199=>(Option.bind (vix (gv2) y179) fun x200=>(Option.bind (inb 64 y179) fun x201=>(Option.bind (vat y183 x201) fun x202=>(kA ((((((y178 + ((z194 ^^^ z195) ^^^ z196)) + ((y175 &&& y176) ^^^ ((~~~y175) &&& y177))) + x200) + x202) + (((z197 ^^^ z198) ^^^ z199) + (((y171 &&& y172) ^^^ (y171 &&& y173)) ^^^ (y172 &&& y173)))),y171,y172,y173,(y174 + ((((y178 + ((z194 ^^^ z195) ^^^ z196)) + ((y175 &&& y176) ^^^ ((~~~y175) &&& y177))) + x200) + x202)),y175,y176,y177,(w64 (y179 + (1:Int)))))))))))))) else (kO (y171,y172,y173,y174,y175,y176,y177,y178)))
def L110_5 (F:Nat) (y183:Vector UInt32 64) (y171:UInt32) (y172:UInt32) (y173:UInt32) (y174:UInt32) (y175:UInt32) (y176:UInt32) (y177:UInt32) (y178:UInt32) (y179:Int):Option ((UInt32×UInt32×UInt32×UInt32×UInt32×UInt32×UInt32×UInt32×Int) ⊕ (UInt32×UInt32×UInt32×UInt32×UInt32×UInt32×UInt32×UInt32)):=L110_5c F y183 y171 y172 y173 y174 y175 y176 y177 y178 y179 (fun s=>some (.inl s)) (fun z=>some (.inr z))
theorem L110_5n (F:Nat) (y183:Vector UInt32 64) (y171:UInt32) (y172:UInt32) (y173:UInt32) (y174:UInt32) (y175:UInt32) (y176:UInt32) (y177:UInt32) (y178:UInt32) (y179:Int) {β:Type} (kA:(UInt32×UInt32×UInt32×UInt32×UInt32×UInt32×UInt32×UInt32×Int)->Option β) (kO:(UInt32×UInt32×UInt32×UInt32×UInt32×UInt32×UInt32×UInt32)->Option β):L110_5c F y183 y171 y172 y173 y174 y175 y176 y177 y178 y179 kA kO=(L110_5 F y183 y171 y172 y173 y174 y175 y176 y177 y178 y179).bind (elimS kA kO):=by
 simp only [L110_5,L110_5c,Option.bind_assoc,cond_bind,Option.bind_some,Option.bind_none,elimS_l,elimS_r,elimS_bind]
abbrev sA110_5:List Sh:=[(.pt 0 []),(.pt 1 []),(.pt 2 []),.u32,.u32,.u32,.u32,.u32,.u32,.u32,.u32,.i]
abbrev sAp1110_5:List Sh:=[(.pt 0 []),(.pt 1 []),.u32,.u32,.u32,.u32,.u32,.u32,.u32,.u32]
abbrev sT110_5:List TSh:=[.blk 145 (.pr (.ar 8 .u32) (.pr (.ar 64 .u8) (.pr .i .un))),.blk 163 (.ar 64 .u32),.blk 143 (.ar 8 .u32)]
abbrev sTp1110_5:List TSh:=[.blk 145 (.pr (.ar 8 .u32) (.pr (.ar 64 .u8) (.pr .i .un))),.blk 143 (.ar 8 .u32)]
def lc110_5 (F:Nat):Lc:=mkL [0,4,11,12,13,14,15,16,17,18,19,123] sA110_5 sT110_5 [0,11,12,13,14,15,16,17,18,19] sAp1110_5 sTp1110_5 F (fun x y (s:UInt32×UInt32×UInt32×UInt32×UInt32×UInt32×UInt32×UInt32×Int)=>L110_5 F y.2.1 s.1 s.2.1 s.2.2.1 s.2.2.2.1 s.2.2.2.2.1 s.2.2.2.2.2.1 s.2.2.2.2.2.2.1 s.2.2.2.2.2.2.2.1 s.2.2.2.2.2.2.2.2) (fun x y=>(x.2.2.2.1,x.2.2.2.2.1,x.2.2.2.2.2.1,x.2.2.2.2.2.2.1,x.2.2.2.2.2.2.2.1,x.2.2.2.2.2.2.2.2.1,x.2.2.2.2.2.2.2.2.2.1,x.2.2.2.2.2.2.2.2.2.2.1,x.2.2.2.2.2.2.2.2.2.2.2.1)) (fun x y (z:UInt32×UInt32×UInt32×UInt32×UInt32×UInt32×UInt32×UInt32)=>(((),(),z.1,z.2.1,z.2.2.1,z.2.2.2.1,z.2.2.2.2.1,z.2.2.2.2.2.1,z.2.2.2.2.2.2.1,z.2.2.2.2.2.2.2,()),((y.1.1,y.1.2.1,y.1.2.2.1,()),y.2.2.1,())))
theorem le110_5 (F:Nat) (x:dens sA110_5) (y:tdens sT110_5) (s:UInt32×UInt32×UInt32×UInt32×UInt32×UInt32×UInt32×UInt32×Int):sev (E110 F) 1 [] (cAt (bodyOf Tryd.f110) (0 :: 0 :: [1,0,1,1,1,1])) (0 :: 0 :: [1,0,1,1,1,1]) (mkSt [0,4,11,12,13,14,15,16,17,18,19,123] sA110_5 sT110_5 ((),(),(),s.1,s.2.1,s.2.2.1,s.2.2.2.1,s.2.2.2.2.1,s.2.2.2.2.2.1,s.2.2.2.2.2.2.1,s.2.2.2.2.2.2.2.1,s.2.2.2.2.2.2.2.2,()) ((y.1.1,y.1.2.1,y.1.2.2.1,()),y.2.1,y.2.2.1,())) (kLoop 1 [0,4,11,12,13,14,15,16,17,18,19,123] sA110_5 sT110_5 [0,11,12,13,14,15,16,17,18,19] sAp1110_5 sTp1110_5 [] [] [] 2 (fun x y=>some (.inl (x,y))) (fun x y=>some (.inr (.inl (x,y)))) (fun x y=>some (.inr (.inr (x,y))))) =
  L110_5c (β:=Full sA110_5 sT110_5 sAp1110_5 sTp1110_5 [] []) F y.2.1 s.1 s.2.1 s.2.2.1 s.2.2.2.1 s.2.2.2.2.1 s.2.2.2.2.2.1 s.2.2.2.2.2.2.1 s.2.2.2.2.2.2.2.1 s.2.2.2.2.2.2.2.2 (fun s=>some (.inl (((),(),(),s.1,s.2.1,s.2.2.1,s.2.2.2.1,s.2.2.2.2.1,s.2.2.2.2.2.1,s.2.2.2.2.2.2.1,s.2.2.2.2.2.2.2.1,s.2.2.2.2.2.2.2.2,()),((y.1.1,y.1.2.1,y.1.2.2.1,()),y.2.1,y.2.2.1,())))) (fun z=>some (.inr (.inl (((),(),z.1,z.2.1,z.2.2.1,z.2.2.2.1,z.2.2.2.2.1,z.2.2.2.2.2.1,z.2.2.2.2.2.2.1,z.2.2.2.2.2.2.2,()),((y.1.1,y.1.2.1,y.1.2.2.1,()),y.2.2.1,()))))):=by kernel_rfl
theorem lo110_5 (F:Nat):LcOk Tryd.prog (E110 F) 1 (lc110_5 F) (cAt (bodyOf Tryd.f110) [1,0,1,1,1,1]):=
 mkL_ok (lp:=[]) (id:=2) (b:=cAt (bodyOf Tryd.f110) (0 :: 0 :: [1,0,1,1,1,1])) cok (cts110 F) mixed trivial (by kernel_rfl) (by kernel_rfl) (fun x y s=>((),(),(),s.1,s.2.1,s.2.2.1,s.2.2.2.1,s.2.2.2.2.1,s.2.2.2.2.2.1,s.2.2.2.2.2.2.1,s.2.2.2.2.2.2.2.1,s.2.2.2.2.2.2.2.2,())) (fun x y s=>((y.1.1,y.1.2.1,y.1.2.2.1,()),y.2.1,y.2.2.1,())) (fun x y=>rfl) (fun x y=>rfl) (fun x y s kA kO=>L110_5c F y.2.1 s.1 s.2.1 s.2.2.1 s.2.2.2.1 s.2.2.2.2.1 s.2.2.2.2.2.1 s.2.2.2.2.2.2.1 s.2.2.2.2.2.2.2.1 s.2.2.2.2.2.2.2.2 kA kO) (fun x y s kA kO=>L110_5n F y.2.1 s.1 s.2.1 s.2.2.1 s.2.2.2.1 s.2.2.2.2.1 s.2.2.2.2.2.1 s.2.2.2.2.2.2.1 s.2.2.2.2.2.2.2.1 s.2.2.2.2.2.2.2.2 kA kO) (le110_5 F)
def L110_6c (F:Nat) (y204:Vector UInt32 8) (y209:Vector UInt32 8) (y205:Int) (y206:Vector UInt32 8) {β:Type} (kA:(Int×(Vector UInt32 8))->Option β) (kO:((Vector UInt32 8))->Option β):Option β:=
 (bif (decide (y205 < (8:Int))) then (Option.bind (vix y204 y205) fun x214=>(Option.bind (inb 8 y205) fun x215=>(Option.bind (vat y209 x215) fun x216=>(Option.bind (inb 8 y205) fun x217=>(kA ((w64 (y205 + (1:Int))),(Vector.setIfInBounds y206 x217 (x216 + x214)))))))) else (kO y206))
def L110_6 (F:Nat) (y204:Vector UInt32 8) (y209:Vector UInt32 8) (y205:Int) (y206:Vector UInt32 8):Option ((Int×(Vector UInt32 8)) ⊕ ((Vector UInt32 8))):=L110_6c F y204 y209 y205 y206 (fun s=>some (.inl s)) (fun z=>some (.inr z))
theorem L110_6n (F:Nat) (y204:Vector UInt32 8) (y209:Vector UInt32 8) (y205:Int) (y206:Vector UInt32 8) {β:Type} (kA:(Int×(Vector UInt32 8))->Option β) (kO:((Vector UInt32 8))->Option β):L110_6c F y204 y209 y205 y206 kA kO=(L110_6 F y204 y209 y205 y206).bind (elimS kA kO):=by
 simp only [L110_6,L110_6c,Option.bind_assoc,cond_bind,Option.bind_some,Option.bind_none,elimS_l,elimS_r,elimS_bind]
abbrev sA110_6:List Sh:=[(.pt 0 []),(.pt 1 []),(.ar 8 .u32),.i]
abbrev sAp1110_6:List Sh:=[]
abbrev sT110_6:List TSh:=[.blk 145 (.pr (.ar 8 .u32) (.pr (.ar 64 .u8) (.pr .i .un))),.blk 143 (.ar 8 .u32)]
abbrev sTp1110_6:List TSh:=[.blk 145 (.pr (.ar 8 .u32) (.pr (.ar 64 .u8) (.pr .i .un)))]
def lc110_6 (F:Nat):Lc:=mkL [0,11,196,197] sA110_6 sT110_6 [] sAp1110_6 sTp1110_6 F (fun x y (s:Int×(Vector UInt32 8))=>L110_6 F x.2.2.1 y.2.1 s.1 s.2) (fun x y=>(x.2.2.2.1,y.1.1)) (fun x y (z:(Vector UInt32 8))=>((),((z,y.1.2.1,y.1.2.2.1,()),())))
theorem le110_6 (F:Nat) (x:dens sA110_6) (y:tdens sT110_6) (s:Int×(Vector UInt32 8)):sev (E110 F) 1 [] (cAt (bodyOf Tryd.f110) (0 :: 0 :: [1,1,1,1,1,1])) (0 :: 0 :: [1,1,1,1,1,1]) (mkSt [0,11,196,197] sA110_6 sT110_6 ((),(),x.2.2.1,s.1,()) ((s.2,y.1.2.1,y.1.2.2.1,()),y.2.1,())) (kLoop 1 [0,11,196,197] sA110_6 sT110_6 [] sAp1110_6 sTp1110_6 [] [] [] 4 (fun x y=>some (.inl (x,y))) (fun x y=>some (.inr (.inl (x,y)))) (fun x y=>some (.inr (.inr (x,y))))) =
  L110_6c (β:=Full sA110_6 sT110_6 sAp1110_6 sTp1110_6 [] []) F x.2.2.1 y.2.1 s.1 s.2 (fun s=>some (.inl (((),(),x.2.2.1,s.1,()),((s.2,y.1.2.1,y.1.2.2.1,()),y.2.1,())))) (fun z=>some (.inr (.inl ((),((z,y.1.2.1,y.1.2.2.1,()),()))))):=by kernel_rfl
theorem lo110_6 (F:Nat):LcOk Tryd.prog (E110 F) 1 (lc110_6 F) (cAt (bodyOf Tryd.f110) [1,1,1,1,1,1]):=
 mkL_ok (lp:=[]) (id:=4) (b:=cAt (bodyOf Tryd.f110) (0 :: 0 :: [1,1,1,1,1,1])) cok (cts110 F) mixed trivial (by kernel_rfl) (by kernel_rfl) (fun x y s=>((),(),x.2.2.1,s.1,())) (fun x y s=>((s.2,y.1.2.1,y.1.2.2.1,()),y.2.1,())) (fun x y=>rfl) (fun x y=>rfl) (fun x y s kA kO=>L110_6c F x.2.2.1 y.2.1 s.1 s.2 kA kO) (fun x y s kA kO=>L110_6n F x.2.2.1 y.2.1 s.1 s.2 kA kO) (le110_6 F)
def T110c (F:Nat) (p0:Nat×Nat) (p1:Vector UInt32 8) (p2:Vector UInt8 64) {β:Type} (k:((Vector UInt32 8))->Option β):Option β:=
 (Option.bind (iter (fun s=>L110_4 F p2 s.1 s.2.1 s.2.2) F ((p0.1,p0.2),(0:Int),(Vector.replicate 64 (0:UInt32)))) fun z162=>(Option.bind (vat p1 0) fun x163=>(Option.bind (vat p1 1) fun x164=>(Option.bind (vat p1 2) fun x165=>(Option.bind (vat p1 3) fun x166=>(Option.bind (vat p1 4) fun x167=>(Option.bind (vat p1 5) fun x168=>(Option.bind (vat p1 6) fun x169=>(Option.bind (vat p1 7) fun x170=>(Option.bind (iter (fun s=>L110_5 F z162 s.1 s.2.1 s.2.2.1 s.2.2.2.1 s.2.2.2.2.1 s.2.2.2.2.2.1 s.2.2.2.2.2.2.1 s.2.2.2.2.2.2.2.1 s.2.2.2.2.2.2.2.2) F (x163,x164,x165,x166,x167,x168,x169,x170,(0:Int))) fun z203=>(Option.bind (iter (fun s=>L110_6 F (#v[z203.1,z203.2.1,z203.2.2.1,z203.2.2.2.1,z203.2.2.2.2.1,z203.2.2.2.2.2.1,z203.2.2.2.2.2.2.1,z203.2.2.2.2.2.2.2]:Vector UInt32 8) p1 s.1 s.2) F ((0:Int),p1)) fun z218=>(k z218))))))))))))
def T110 (F:Nat) (p0:Nat×Nat) (p1:Vector UInt32 8) (p2:Vector UInt8 64):Option ((Vector UInt32 8)):=T110c F p0 p1 p2 some
theorem T110n (F:Nat) (p0:Nat×Nat) (p1:Vector UInt32 8) (p2:Vector UInt8 64) {β:Type} (k:((Vector UInt32 8))->Option β):T110c F p0 p1 p2 k=(T110 F p0 p1 p2).bind k:=by
 simp only [T110,T110c,Option.bind_assoc,cond_bind,Option.bind_some,Option.bind_none,elimS_bind]
abbrev cA110:List Sh:=[(.pt 0 []),(.ap 0 [1])]
abbrev cB110:List Sh:=[]
abbrev cT110:List TSh:=[.blk 145 (.pr (.ar 8 .u32) (.pr (.ar 64 .u8) (.pr .i .un)))]
abbrev cU110:List TSh:=[.blk 145 (.pr (.ar 8 .u32) (.pr (.ar 64 .u8) (.pr .i .un)))]
def ct110 (F:Nat):Ct:=mkC 1 cA110 cT110 cB110 cU110 (fun x y=>T110 F x.2.1 y.1.1 y.1.2.1) (fun x y (z:(Vector UInt32 8))=>((),((z,y.1.2.1,y.1.2.2.1,()),())))
theorem eq110 (F:Nat) (x:dens cA110) (y:tdens cT110):sev (E110 F) 1 [([1,0,1],lc110_4 F),([1,0,1,1,1,1],lc110_5 F),([1,1,1,1,1,1],lc110_6 F)] (bodyOf Tryd.f110) [] (mkSt (rng 2) cA110 cT110 x y) (kFn (E110 F) 1 Tryd.f110.results.toList cB110 cU110 fun p q=>some (p,q)) =
  T110c F x.2.1 y.1.1 y.1.2.1 (fun z=>some ((),((z,y.1.2.1,y.1.2.2.1,()),()))):=by kernel_rfl
theorem ok110 (F:Nat):Sound Tryd.prog cfg 110 (ct110 F):=
 mkC_ok (E:=E110 F) (lp:=[([1,0,1],lc110_4 F),([1,0,1,1,1,1],lc110_5 F),([1,1,1,1,1,1],lc110_6 F)]) (code:=bodyOf Tryd.f110) Tryd.func110 rfl Tryd.ntmps110 rfl rfl cok (cts110 F) mixed ⟨lo110_4 F,⟨lo110_5 F,⟨lo110_6 F,trivial⟩⟩⟩ (by kernel_rfl) (fun x y k=>T110c F x.2.1 y.1.1 y.1.2.1 k) (fun x y k=>T110n F x.2.1 y.1.1 y.1.2.1 k) (eq110 F)
def ord110x1:Nat->List (Tag×Nat)
 | 6=>[(.p,0),(.p,1),(.p,2),(.r,3),(.p,4),(.p,5),(.p,6),(.p,7),(.r,8),(.p,9),(.p,10),(.p,11),(.p,12),(.p,13),(.r,14),(.p,15),(.p,16),(.p,17),(.p,18),(.p,19),(.r,20),(.p,21),(.p,22),(.p,23),(.w,24)]
 | 7=>[(.p,0),(.p,1),(.p,2),(.r,3),(.p,4),(.p,5),(.p,6),(.r,7),(.p,8),(.p,9)]
 | 10=>[(.p,0),(.p,1),(.p,2),(.p,3),(.p,4),(.r,5),(.p,6),(.p,7),(.p,8),(.p,9),(.p,10),(.p,11),(.r,12),(.p,13),(.p,14),(.w,15)]
 | 13=>[(.p,0),(.r,1),(.p,2),(.r,3),(.p,4),(.r,5),(.p,6),(.r,7),(.p,8),(.r,9),(.p,10),(.r,11),(.p,12),(.r,13),(.p,14),(.r,15),(.p,16),(.p,17),(.p,18),(.p,19),(.p,20),(.p,21),(.p,22),(.p,23)]
 | 19=>[(.p,0),(.p,1),(.p,2),(.p,3),(.p,4),(.p,5),(.p,6),(.p,7),(.p,8),(.p,9),(.p,10),(.p,11),(.p,12),(.p,13),(.r,14),(.p,15),(.p,16),(.p,17),(.r,18),(.p,19),(.p,20)]
 | 26=>[(.p,0),(.p,1),(.p,2),(.p,3),(.r,4),(.p,5),(.p,6),(.p,7),(.p,8),(.p,9),(.w,10)]
 | _=>[]
def al110x1:Nat->Option Nat
 | _=>none
def ms110x1:Nat->Option (List (Option Tag×Nat×List Nat))
 | _=>none
def E110x1 (F:Nat):Ev:=⟨cfg,212,ctOf [(117,ct117 F)],ord110x1,ctOf [],al110x1,ms110x1⟩
theorem cts110x1 (F:Nat):CtsOk Tryd.prog (E110x1 F):=cts_of (l:=[(117,ct117 F)]) (l':=[]) rfl rfl ⟨⟨ok117 F,_,Tryd.func117,rfl,rfl⟩,trivial⟩ trivial
def L110x1_4c (F:Nat) (y102:List UInt8) (y103:Int) (y107:Vector UInt32 64) {β:Type} (kA:(Int×(Vector UInt32 64))->Option β) (kO:((Vector UInt32 64))->Option β):Option β:=
 (bif (decide (y103 < (64:Int))) then (bif (decide (y103 < (16:Int))) then (Option.bind (gsl y102 (w64 ((4:Int) * y103)) (w64 ((w64 ((4:Int) * y103)) + (4:Int)))) fun x127=>(Option.bind (ix x127 (0:Int)) fun x128=>(Option.bind (ix x127 (1:Int)) fun x129=>(Option.bind (ix x127 (2:Int)) fun x130=>(Option.bind (ix x127 (3:Int)) fun x131=>(Option.bind (inb 64 y103) fun x132=>(kA ((w64 (y103 + (1:Int))),(Vector.setIfInBounds y107 x132 ((((shl32 (x128.toUInt32) ((UInt64.ofNat 24).toNat)) ||| (shl32 (x129.toUInt32) ((UInt64.ofNat 16).toNat))) ||| (shl32 (x130.toUInt32) ((UInt64.ofNat 8).toNat))) ||| (x131.toUInt32))))))))))) else (Option.bind (inb 64 (w64 (y103 - (2:Int)))) fun x133=>(Option.bind (vat y107 x133) fun x134=>(Option.bind (inb 64 (w64 (y103 - (15:Int)))) fun x135=>(Option.bind (vat y107 x135) fun x136=>(Option.bind (T117 F x134 (-17:Int)) fun z137=>(Option.bind (T117 F x134 (-19:Int)) fun z138=>(Option.bind (T117 F x136 (-7:Int)) fun z139=>(Option.bind (T117 F x136 (-18:Int)) fun z140=>(Option.bind (inb 64 (w64 (y103 - (7:Int)))) fun x141=>(Option.bind (vat y107 x141) fun x142=>(Option.bind (inb 64 (w64 (y103 - (16:Int)))) fun x143=>(Option.bind (vat y107 x143) fun x144=>(Option.bind (inb 64 y103) fun x145=>(kA ((w64 (y103 + (1:Int))),(Vector.setIfInBounds y107 x145 (((((z137 ^^^ z138) ^^^ (shr32 x134 ((UInt64.ofNat 10).toNat))) + x142) + ((z139 ^^^ z140) ^^^ (shr32 x136 ((UInt64.ofNat 3).toNat)))) + x144)))))))))))))))))) else (kO y107))
def L110x1_4 (F:Nat) (y102:List UInt8) (y103:Int) (y107:Vector UInt32 64):Option ((Int×(Vector UInt32 64)) ⊕ ((Vector UInt32 64))):=L110x1_4c F y102 y103 y107 (fun s=>some (.inl s)) (fun z=>some (.inr z))
theorem L110x1_4n (F:Nat) (y102:List UInt8) (y103:Int) (y107:Vector UInt32 64) {β:Type} (kA:(Int×(Vector UInt32 64))->Option β) (kO:((Vector UInt32 64))->Option β):L110x1_4c F y102 y103 y107 kA kO=(L110x1_4 F y102 y103 y107).bind (elimS kA kO):=by
 simp only [L110x1_4,L110x1_4c,Option.bind_assoc,cond_bind,Option.bind_some,Option.bind_none,elimS_l,elimS_r,elimS_bind]
abbrev sA110x1_4:List Sh:=[(.pt 0 []),(.ro .u8),(.pt 1 []),.i]
abbrev sAp1110x1_4:List Sh:=[(.pt 0 []),(.pt 1 [])]
abbrev sT110x1_4:List TSh:=[.blk 145 (.pr (.ar 8 .u32) (.pr (.ar 64 .u8) (.pr .i .un))),.blk 163 (.ar 64 .u32)]
abbrev sTp1110x1_4:List TSh:=[.blk 145 (.pr (.ar 8 .u32) (.pr (.ar 64 .u8) (.pr .i .un))),.blk 163 (.ar 64 .u32)]
def lc110x1_4 (F:Nat):Lc:=mkL [0,1,4,27] sA110x1_4 sT110x1_4 [0,4] sAp1110x1_4 sTp1110x1_4 F (fun x y (s:Int×(Vector UInt32 64))=>L110x1_4 F x.2.1 s.1 s.2) (fun x y=>(x.2.2.2.1,y.2.1)) (fun x y (z:(Vector UInt32 64))=>(((),(),()),((y.1.1,y.1.2.1,y.1.2.2.1,()),z,())))
theorem le110x1_4 (F:Nat) (x:dens sA110x1_4) (y:tdens sT110x1_4) (s:Int×(Vector UInt32 64)):sev (E110x1 F) 1 [] (cAt (bodyOf Tryd.f110) (0 :: 0 :: [1,0,1])) (0 :: 0 :: [1,0,1]) (mkSt [0,1,4,27] sA110x1_4 sT110x1_4 ((),x.2.1,(),s.1,()) ((y.1.1,y.1.2.1,y.1.2.2.1,()),s.2,())) (kLoop 1 [0,1,4,27] sA110x1_4 sT110x1_4 [0,4] sAp1110x1_4 sTp1110x1_4 [] [] [] 0 (fun x y=>some (.inl (x,y))) (fun x y=>some (.inr (.inl (x,y)))) (fun x y=>some (.inr (.inr (x,y))))) =
  L110x1_4c (β:=Full sA110x1_4 sT110x1_4 sAp1110x1_4 sTp1110x1_4 [] []) F x.2.1 s.1 s.2 (fun s=>some (.inl (((),x.2.1,(),s.1,()),((y.1.1,y.1.2.1,y.1.2.2.1,()),s.2,())))) (fun z=>some (.inr (.inl (((),(),()),((y.1.1,y.1.2.1,y.1.2.2.1,()),z,()))))):=by kernel_rfl
theorem lo110x1_4 (F:Nat):LcOk Tryd.prog (E110x1 F) 1 (lc110x1_4 F) (cAt (bodyOf Tryd.f110) [1,0,1]):=
 mkL_ok (lp:=[]) (id:=0) (b:=cAt (bodyOf Tryd.f110) (0 :: 0 :: [1,0,1])) cok (cts110x1 F) mixed trivial (by kernel_rfl) (by kernel_rfl) (fun x y s=>((),x.2.1,(),s.1,())) (fun x y s=>((y.1.1,y.1.2.1,y.1.2.2.1,()),s.2,())) (fun x y=>rfl) (fun x y=>rfl) (fun x y s kA kO=>L110x1_4c F x.2.1 s.1 s.2 kA kO) (fun x y s kA kO=>L110x1_4n F x.2.1 s.1 s.2 kA kO) (le110x1_4 F)
def L110x1_5c (F:Nat) (y167:Vector UInt32 64) (y155:UInt32) (y156:UInt32) (y157:UInt32) (y158:UInt32) (y159:UInt32) (y160:UInt32) (y161:UInt32) (y162:UInt32) (y163:Int) {β:Type} (kA:(UInt32×UInt32×UInt32×UInt32×UInt32×UInt32×UInt32×UInt32×Int)->Option β) (kO:(UInt32×UInt32×UInt32×UInt32×UInt32×UInt32×UInt32×UInt32)->Option β):Option β:=
 (bif (decide (y163 < (64:Int))) then (Option.bind (T117 F y159 (-6:Int)) fun z178=>(Option.bind (T117 F y159 (-11:Int)) fun z179=>(Option.bind (T117 F y159 (-25:Int)) fun z180=>(Option.bind (T117 F y155 (-2:Int)) fun z181=>(Option.bind (T117 F y155 (-13:Int)) fun z182=>(Option.bind (T117 F y155 (-22:Int)) fun z183=>(Option.bind (vix (gv2) y163) fun x184=>(Option.bind (inb 64 y163) fun x185=>(Option.bind (vat y167 x185) fun x186=>(kA ((((((y162 + ((z178 ^^^ z179) ^^^ z180)) + ((y159 &&& y160) ^^^ ((~~~y159) &&& y161))) + x184) + x186) + (((z181 ^^^ z182) ^^^ z183) + (((y155 &&& y156) ^^^ (y155 &&& y157)) ^^^ (y156 &&& y157)))),y155,y156,y157,(y158 + ((((y162 + ((z178 ^^^ z179) ^^^ z180)) + ((y159 &&& y160) ^^^ ((~~~y159) &&& y161))) + x184) + x186)),y159,y160,y161,(w64 (y163 + (1:Int)))))))))))))) else (kO (y155,y156,y157,y158,y159,y160,y161,y162)))
def L110x1_5 (F:Nat) (y167:Vector UInt32 64) (y155:UInt32) (y156:UInt32) (y157:UInt32) (y158:UInt32) (y159:UInt32) (y160:UInt32) (y161:UInt32) (y162:UInt32) (y163:Int):Option ((UInt32×UInt32×UInt32×UInt32×UInt32×UInt32×UInt32×UInt32×Int) ⊕ (UInt32×UInt32×UInt32×UInt32×UInt32×UInt32×UInt32×UInt32)):=L110x1_5c F y167 y155 y156 y157 y158 y159 y160 y161 y162 y163 (fun s=>some (.inl s)) (fun z=>some (.inr z))
theorem L110x1_5n (F:Nat) (y167:Vector UInt32 64) (y155:UInt32) (y156:UInt32) (y157:UInt32) (y158:UInt32) (y159:UInt32) (y160:UInt32) (y161:UInt32) (y162:UInt32) (y163:Int) {β:Type} (kA:(UInt32×UInt32×UInt32×UInt32×UInt32×UInt32×UInt32×UInt32×Int)->Option β) (kO:(UInt32×UInt32×UInt32×UInt32×UInt32×UInt32×UInt32×UInt32)->Option β):L110x1_5c F y167 y155 y156 y157 y158 y159 y160 y161 y162 y163 kA kO=(L110x1_5 F y167 y155 y156 y157 y158 y159 y160 y161 y162 y163).bind (elimS kA kO):=by
 simp only [L110x1_5,L110x1_5c,Option.bind_assoc,cond_bind,Option.bind_some,Option.bind_none,elimS_l,elimS_r,elimS_bind]
abbrev sA110x1_5:List Sh:=[(.pt 0 []),(.pt 1 []),(.pt 2 []),.u32,.u32,.u32,.u32,.u32,.u32,.u32,.u32,.i]
abbrev sAp1110x1_5:List Sh:=[(.pt 0 []),(.pt 1 []),.u32,.u32,.u32,.u32,.u32,.u32,.u32,.u32]
abbrev sT110x1_5:List TSh:=[.blk 145 (.pr (.ar 8 .u32) (.pr (.ar 64 .u8) (.pr .i .un))),.blk 163 (.ar 64 .u32),.blk 143 (.ar 8 .u32)]
abbrev sTp1110x1_5:List TSh:=[.blk 145 (.pr (.ar 8 .u32) (.pr (.ar 64 .u8) (.pr .i .un))),.blk 143 (.ar 8 .u32)]
def lc110x1_5 (F:Nat):Lc:=mkL [0,4,11,12,13,14,15,16,17,18,19,123] sA110x1_5 sT110x1_5 [0,11,12,13,14,15,16,17,18,19] sAp1110x1_5 sTp1110x1_5 F (fun x y (s:UInt32×UInt32×UInt32×UInt32×UInt32×UInt32×UInt32×UInt32×Int)=>L110x1_5 F y.2.1 s.1 s.2.1 s.2.2.1 s.2.2.2.1 s.2.2.2.2.1 s.2.2.2.2.2.1 s.2.2.2.2.2.2.1 s.2.2.2.2.2.2.2.1 s.2.2.2.2.2.2.2.2) (fun x y=>(x.2.2.2.1,x.2.2.2.2.1,x.2.2.2.2.2.1,x.2.2.2.2.2.2.1,x.2.2.2.2.2.2.2.1,x.2.2.2.2.2.2.2.2.1,x.2.2.2.2.2.2.2.2.2.1,x.2.2.2.2.2.2.2.2.2.2.1,x.2.2.2.2.2.2.2.2.2.2.2.1)) (fun x y (z:UInt32×UInt32×UInt32×UInt32×UInt32×UInt32×UInt32×UInt32)=>(((),(),z.1,z.2.1,z.2.2.1,z.2.2.2.1,z.2.2.2.2.1,z.2.2.2.2.2.1,z.2.2.2.2.2.2.1,z.2.2.2.2.2.2.2,()),((y.1.1,y.1.2.1,y.1.2.2.1,()),y.2.2.1,())))
theorem le110x1_5 (F:Nat) (x:dens sA110x1_5) (y:tdens sT110x1_5) (s:UInt32×UInt32×UInt32×UInt32×UInt32×UInt32×UInt32×UInt32×Int):sev (E110x1 F) 1 [] (cAt (bodyOf Tryd.f110) (0 :: 0 :: [1,0,1,1,1,1])) (0 :: 0 :: [1,0,1,1,1,1]) (mkSt [0,4,11,12,13,14,15,16,17,18,19,123] sA110x1_5 sT110x1_5 ((),(),(),s.1,s.2.1,s.2.2.1,s.2.2.2.1,s.2.2.2.2.1,s.2.2.2.2.2.1,s.2.2.2.2.2.2.1,s.2.2.2.2.2.2.2.1,s.2.2.2.2.2.2.2.2,()) ((y.1.1,y.1.2.1,y.1.2.2.1,()),y.2.1,y.2.2.1,())) (kLoop 1 [0,4,11,12,13,14,15,16,17,18,19,123] sA110x1_5 sT110x1_5 [0,11,12,13,14,15,16,17,18,19] sAp1110x1_5 sTp1110x1_5 [] [] [] 2 (fun x y=>some (.inl (x,y))) (fun x y=>some (.inr (.inl (x,y)))) (fun x y=>some (.inr (.inr (x,y))))) =
  L110x1_5c (β:=Full sA110x1_5 sT110x1_5 sAp1110x1_5 sTp1110x1_5 [] []) F y.2.1 s.1 s.2.1 s.2.2.1 s.2.2.2.1 s.2.2.2.2.1 s.2.2.2.2.2.1 s.2.2.2.2.2.2.1 s.2.2.2.2.2.2.2.1 s.2.2.2.2.2.2.2.2 (fun s=>some (.inl (((),(),(),s.1,s.2.1,s.2.2.1,s.2.2.2.1,s.2.2.2.2.1,s.2.2.2.2.2.1,s.2.2.2.2.2.2.1,s.2.2.2.2.2.2.2.1,s.2.2.2.2.2.2.2.2,()),((y.1.1,y.1.2.1,y.1.2.2.1,()),y.2.1,y.2.2.1,())))) (fun z=>some (.inr (.inl (((),(),z.1,z.2.1,z.2.2.1,z.2.2.2.1,z.2.2.2.2.1,z.2.2.2.2.2.1,z.2.2.2.2.2.2.1,z.2.2.2.2.2.2.2,()),((y.1.1,y.1.2.1,y.1.2.2.1,()),y.2.2.1,()))))):=by kernel_rfl
theorem lo110x1_5 (F:Nat):LcOk Tryd.prog (E110x1 F) 1 (lc110x1_5 F) (cAt (bodyOf Tryd.f110) [1,0,1,1,1,1]):=
 mkL_ok (lp:=[]) (id:=2) (b:=cAt (bodyOf Tryd.f110) (0 :: 0 :: [1,0,1,1,1,1])) cok (cts110x1 F) mixed trivial (by kernel_rfl) (by kernel_rfl) (fun x y s=>((),(),(),s.1,s.2.1,s.2.2.1,s.2.2.2.1,s.2.2.2.2.1,s.2.2.2.2.2.1,s.2.2.2.2.2.2.1,s.2.2.2.2.2.2.2.1,s.2.2.2.2.2.2.2.2,())) (fun x y s=>((y.1.1,y.1.2.1,y.1.2.2.1,()),y.2.1,y.2.2.1,())) (fun x y=>rfl) (fun x y=>rfl) (fun x y s kA kO=>L110x1_5c F y.2.1 s.1 s.2.1 s.2.2.1 s.2.2.2.1 s.2.2.2.2.1 s.2.2.2.2.2.1 s.2.2.2.2.2.2.1 s.2.2.2.2.2.2.2.1 s.2.2.2.2.2.2.2.2 kA kO) (fun x y s kA kO=>L110x1_5n F y.2.1 s.1 s.2.1 s.2.2.1 s.2.2.2.1 s.2.2.2.2.1 s.2.2.2.2.2.1 s.2.2.2.2.2.2.1 s.2.2.2.2.2.2.2.1 s.2.2.2.2.2.2.2.2 kA kO) (le110x1_5 F)
def L110x1_6c (F:Nat) (y188:Vector UInt32 8) (y193:Vector UInt32 8) (y189:Int) (y190:Vector UInt32 8) {β:Type} (kA:(Int×(Vector UInt32 8))->Option β) (kO:((Vector UInt32 8))->Option β):Option β:=
 (bif (decide (y189 < (8:Int))) then (Option.bind (vix y188 y189) fun x198=>(Option.bind (inb 8 y189) fun x199=>(Option.bind (vat y193 x199) fun x200=>(Option.bind (inb 8 y189) fun x201=>(kA ((w64 (y189 + (1:Int))),(Vector.setIfInBounds y190 x201 (x200 + x198)))))))) else (kO y190))
def L110x1_6 (F:Nat) (y188:Vector UInt32 8) (y193:Vector UInt32 8) (y189:Int) (y190:Vector UInt32 8):Option ((Int×(Vector UInt32 8)) ⊕ ((Vector UInt32 8))):=L110x1_6c F y188 y193 y189 y190 (fun s=>some (.inl s)) (fun z=>some (.inr z))
theorem L110x1_6n (F:Nat) (y188:Vector UInt32 8) (y193:Vector UInt32 8) (y189:Int) (y190:Vector UInt32 8) {β:Type} (kA:(Int×(Vector UInt32 8))->Option β) (kO:((Vector UInt32 8))->Option β):L110x1_6c F y188 y193 y189 y190 kA kO=(L110x1_6 F y188 y193 y189 y190).bind (elimS kA kO):=by
 simp only [L110x1_6,L110x1_6c,Option.bind_assoc,cond_bind,Option.bind_some,Option.bind_none,elimS_l,elimS_r,elimS_bind]
abbrev sA110x1_6:List Sh:=[(.pt 0 []),(.pt 1 []),(.ar 8 .u32),.i]
abbrev sAp1110x1_6:List Sh:=[]
abbrev sT110x1_6:List TSh:=[.blk 145 (.pr (.ar 8 .u32) (.pr (.ar 64 .u8) (.pr .i .un))),.blk 143 (.ar 8 .u32)]
abbrev sTp1110x1_6:List TSh:=[.blk 145 (.pr (.ar 8 .u32) (.pr (.ar 64 .u8) (.pr .i .un)))]
def lc110x1_6 (F:Nat):Lc:=mkL [0,11,196,197] sA110x1_6 sT110x1_6 [] sAp1110x1_6 sTp1110x1_6 F (fun x y (s:Int×(Vector UInt32 8))=>L110x1_6 F x.2.2.1 y.2.1 s.1 s.2) (fun x y=>(x.2.2.2.1,y.1.1)) (fun x y (z:(Vector UInt32 8))=>((),((z,y.1.2.1,y.1.2.2.1,()),())))
theorem le110x1_6 (F:Nat) (x:dens sA110x1_6) (y:tdens sT110x1_6) (s:Int×(Vector UInt32 8)):sev (E110x1 F) 1 [] (cAt (bodyOf Tryd.f110) (0 :: 0 :: [1,1,1,1,1,1])) (0 :: 0 :: [1,1,1,1,1,1]) (mkSt [0,11,196,197] sA110x1_6 sT110x1_6 ((),(),x.2.2.1,s.1,()) ((s.2,y.1.2.1,y.1.2.2.1,()),y.2.1,())) (kLoop 1 [0,11,196,197] sA110x1_6 sT110x1_6 [] sAp1110x1_6 sTp1110x1_6 [] [] [] 4 (fun x y=>some (.inl (x,y))) (fun x y=>some (.inr (.inl (x,y)))) (fun x y=>some (.inr (.inr (x,y))))) =
  L110x1_6c (β:=Full sA110x1_6 sT110x1_6 sAp1110x1_6 sTp1110x1_6 [] []) F x.2.2.1 y.2.1 s.1 s.2 (fun s=>some (.inl (((),(),x.2.2.1,s.1,()),((s.2,y.1.2.1,y.1.2.2.1,()),y.2.1,())))) (fun z=>some (.inr (.inl ((),((z,y.1.2.1,y.1.2.2.1,()),()))))):=by kernel_rfl
theorem lo110x1_6 (F:Nat):LcOk Tryd.prog (E110x1 F) 1 (lc110x1_6 F) (cAt (bodyOf Tryd.f110) [1,1,1,1,1,1]):=
 mkL_ok (lp:=[]) (id:=4) (b:=cAt (bodyOf Tryd.f110) (0 :: 0 :: [1,1,1,1,1,1])) cok (cts110x1 F) mixed trivial (by kernel_rfl) (by kernel_rfl) (fun x y s=>((),(),x.2.2.1,s.1,())) (fun x y s=>((s.2,y.1.2.1,y.1.2.2.1,()),y.2.1,())) (fun x y=>rfl) (fun x y=>rfl) (fun x y s kA kO=>L110x1_6c F x.2.2.1 y.2.1 s.1 s.2 kA kO) (fun x y s kA kO=>L110x1_6n F x.2.2.1 y.2.1 s.1 s.2 kA kO) (le110x1_6 F)
def T110x1c (F:Nat) (p0:List UInt8) (p1:Vector UInt32 8) {β:Type} (k:((Vector UInt32 8))->Option β):Option β:=
 (Option.bind (iter (fun s=>L110x1_4 F p0 s.1 s.2) F ((0:Int),(Vector.replicate 64 (0:UInt32)))) fun z146=>(Option.bind (vat p1 0) fun x147=>(Option.bind (vat p1 1) fun x148=>(Option.bind (vat p1 2) fun x149=>(Option.bind (vat p1 3) fun x150=>(Option.bind (vat p1 4) fun x151=>(Option.bind (vat p1 5) fun x152=>(Option.bind (vat p1 6) fun x153=>(Option.bind (vat p1 7) fun x154=>(Option.bind (iter (fun s=>L110x1_5 F z146 s.1 s.2.1 s.2.2.1 s.2.2.2.1 s.2.2.2.2.1 s.2.2.2.2.2.1 s.2.2.2.2.2.2.1 s.2.2.2.2.2.2.2.1 s.2.2.2.2.2.2.2.2) F (x147,x148,x149,x150,x151,x152,x153,x154,(0:Int))) fun z187=>(Option.bind (iter (fun s=>L110x1_6 F (#v[z187.1,z187.2.1,z187.2.2.1,z187.2.2.2.1,z187.2.2.2.2.1,z187.2.2.2.2.2.1,z187.2.2.2.2.2.2.1,z187.2.2.2.2.2.2.2]:Vector UInt32 8) p1 s.1 s.2) F ((0:Int),p1)) fun z202=>(k z202))))))))))))
def T110x1 (F:Nat) (p0:List UInt8) (p1:Vector UInt32 8):Option ((Vector UInt32 8)):=T110x1c F p0 p1 some
theorem T110x1n (F:Nat) (p0:List UInt8) (p1:Vector UInt32 8) {β:Type} (k:((Vector UInt32 8))->Option β):T110x1c F p0 p1 k=(T110x1 F p0 p1).bind k:=by
 simp only [T110x1,T110x1c,Option.bind_assoc,cond_bind,Option.bind_some,Option.bind_none,elimS_bind]
abbrev cA110x1:List Sh:=[(.pt 0 []),(.ro .u8)]
abbrev cB110x1:List Sh:=[]
abbrev cT110x1:List TSh:=[.blk 145 (.pr (.ar 8 .u32) (.pr (.ar 64 .u8) (.pr .i .un)))]
abbrev cU110x1:List TSh:=[.blk 145 (.pr (.ar 8 .u32) (.pr (.ar 64 .u8) (.pr .i .un)))]
def ct110x1 (F:Nat):Ct:=mkC 1 cA110x1 cT110x1 cB110x1 cU110x1 (fun x y=>T110x1 F x.2.1 y.1.1) (fun x y (z:(Vector UInt32 8))=>((),((z,y.1.2.1,y.1.2.2.1,()),())))
theorem eq110x1 (F:Nat) (x:dens cA110x1) (y:tdens cT110x1):sev (E110x1 F) 1 [([1,0,1],lc110x1_4 F),([1,0,1,1,1,1],lc110x1_5 F),([1,1,1,1,1,1],lc110x1_6 F)] (bodyOf Tryd.f110) [] (mkSt (rng 2) cA110x1 cT110x1 x y) (kFn (E110x1 F) 1 Tryd.f110.results.toList cB110x1 cU110x1 fun p q=>some (p,q)) =
  T110x1c F x.2.1 y.1.1 (fun z=>some ((),((z,y.1.2.1,y.1.2.2.1,()),()))):=by kernel_rfl
theorem ok110x1 (F:Nat):Sound Tryd.prog cfg 110 (ct110x1 F):=
 mkC_ok (E:=E110x1 F) (lp:=[([1,0,1],lc110x1_4 F),([1,0,1,1,1,1],lc110x1_5 F),([1,1,1,1,1,1],lc110x1_6 F)]) (code:=bodyOf Tryd.f110) Tryd.func110 rfl Tryd.ntmps110 rfl rfl cok (cts110x1 F) mixed ⟨lo110x1_4 F,⟨lo110x1_5 F,⟨lo110x1_6 F,trivial⟩⟩⟩ (by kernel_rfl) (fun x y k=>T110x1c F x.2.1 y.1.1 k) (fun x y k=>T110x1n F x.2.1 y.1.1 k) (eq110x1 F)
def ord99:Nat->List (Tag×Nat)
 | _=>[]
def al99:Nat->Option Nat
 | _=>none
def ms99:Nat->Option (List (Option Tag×Nat×List Nat))
 | _=>none
def E99 (F:Nat):Ev:=⟨cfg,57,ctOf [(110,ct110 F),(110,ct110x1 F)],ord99,ctOf [],al99,ms99⟩
theorem cts99 (F:Nat):CtsOk Tryd.prog (E99 F):=cts_of (l:=[(110,ct110 F),(110,ct110x1 F)]) (l':=[]) rfl rfl ⟨⟨ok110 F,_,Tryd.func110,rfl,rfl⟩,⟨⟨ok110x1 F,_,Tryd.func110,rfl,rfl⟩,trivial⟩⟩ trivial
def L99_3c (F:Nat) (y28:List UInt8) (y29:Int) (y30:Bool) (y31:Vector UInt32 8) (y32:Vector UInt8 64) {β:Type} (kO:((List UInt8)×(Vector UInt32 8)×(Vector UInt8 64))->Option β) (kR:((Vector UInt8 64))->Option β):Option β:=
 (bif y30 then (Option.bind (gslb 64 y29 ((64:Nat):Int)) fun x38=>(Option.bind (gsl y28 ((Nat.min y28.length (x38.2 - x38.1)):Int) (y28.length:Int)) fun x39=>(bif (decide ((w64 (y29 + ((Nat.min y28.length (x38.2 - x38.1)):Int))) < (64:Int))) then (kR (vspl y32 x38.1 y28 (Nat.min y28.length (x38.2 - x38.1)))) else (Option.bind (gslb 64 (0:Int) ((64:Nat):Int)) fun x40=>(Option.bind (T110 F (x40.1,x40.2) y31 (vspl y32 x38.1 y28 (Nat.min y28.length (x38.2 - x38.1)))) fun z41=>(kO (x39,z41,(vspl y32 x38.1 y28 (Nat.min y28.length (x38.2 - x38.1)))))))))) else (kO (y28,y31,y32)))
def L99_3 (F:Nat) (y28:List UInt8) (y29:Int) (y30:Bool) (y31:Vector UInt32 8) (y32:Vector UInt8 64):Option (((List UInt8)×(Vector UInt32 8)×(Vector UInt8 64)) ⊕ ((Vector UInt8 64))):=L99_3c F y28 y29 y30 y31 y32 (fun z=>some (.inl z)) (fun z=>some (.inr z))
theorem L99_3n (F:Nat) (y28:List UInt8) (y29:Int) (y30:Bool) (y31:Vector UInt32 8) (y32:Vector UInt8 64) {β:Type} (kO:((List UInt8)×(Vector UInt32 8)×(Vector UInt8 64))->Option β) (kR:((Vector UInt8 64))->Option β):L99_3c F y28 y29 y30 y31 y32 kO kR=(L99_3 F y28 y29 y30 y31 y32).bind (elimS kO kR):=by
 simp only [L99_3,L99_3c,Option.bind_assoc,cond_bind,Option.bind_some,Option.bind_none,elimS_l,elimS_r,elimS_bind]
abbrev sA99_3:List Sh:=[(.pt 0 []),(.ro .u8),.i,.bo]
abbrev sAp199_3:List Sh:=[(.pt 0 []),(.ro .u8)]
abbrev sAp299_3:List Sh:=[]
abbrev sT99_3:List TSh:=[.blk 145 (.pr (.ar 8 .u32) (.pr (.ar 64 .u8) (.pr .i .un)))]
abbrev sTp199_3:List TSh:=[.blk 145 (.pr (.ar 8 .u32) (.pr (.ar 64 .u8) (.pr .i .un)))]
abbrev sTp299_3:List TSh:=[.blk 145 (.pr (.ar 8 .u32) (.pr (.ar 64 .u8) (.pr .i .un)))]
def lc99_3 (F:Nat):Lc:=mkK [0,1,4,21] sA99_3 sT99_3 [0,1] sAp199_3 sTp199_3 [] sAp299_3 sTp299_3 (fun x y=>L99_3 F x.2.1 x.2.2.1 x.2.2.2.1 y.1.1 y.1.2.1) (fun x y (z:(List UInt8)×(Vector UInt32 8)×(Vector UInt8 64))=>(((),z.1,()),((z.2.1,z.2.2,y.1.2.2.1,()),()))) (fun x y (z:(Vector UInt8 64))=>((),((y.1.1,z,y.1.2.2.1,()),())))
theorem le99_3 (F:Nat) (x:dens sA99_3) (y:tdens sT99_3):sev (E99 F) 1 [] (cAt (bodyOf Tryd.f99) [1,0,1,1]) [1,0,1,1] (mkSt [0,1,4,21] sA99_3 sT99_3 x y) (kJoinR 1 [0,1] sAp199_3 sTp199_3 [] sAp299_3 sTp299_3 (fun x y=>some (.inl (x,y))) (fun x y=>some (.inr (x,y)))) =
  L99_3c (β:=(dens sAp199_3×tdens sTp199_3) ⊕ (dens sAp299_3×tdens sTp299_3)) F x.2.1 x.2.2.1 x.2.2.2.1 y.1.1 y.1.2.1 (fun z=>some (.inl (((),z.1,()),((z.2.1,z.2.2,y.1.2.2.1,()),())))) (fun z=>some (.inr ((),((y.1.1,z,y.1.2.2.1,()),())))):=by kernel_rfl
theorem lo99_3 (F:Nat):LcOk Tryd.prog (E99 F) 1 (lc99_3 F) (cAt (bodyOf Tryd.f99) [1,0,1,1]):=
 mkK_ok (lp:=[]) cok (cts99 F) mixed trivial (by kernel_rfl) (fun x y kO kR=>L99_3c F x.2.1 x.2.2.1 x.2.2.2.1 y.1.1 y.1.2.1 kO kR) (fun x y kO kR=>L99_3n F x.2.1 x.2.2.1 x.2.2.2.1 y.1.1 y.1.2.1 kO kR) (le99_3 F)
def L99_4c (F:Nat) (y43:List UInt8) (y44:Vector UInt32 8) {β:Type} (kA:((List UInt8)×(Vector UInt32 8))->Option β) (kO:((List UInt8)×(Vector UInt32 8))->Option β):Option β:=
 (bif (decide ((64:Int)≤(y43.length:Int))) then (Option.bind (gsl y43 (0:Int) (64:Int)) fun x50=>(Option.bind (T110x1 F x50 y44) fun z51=>(Option.bind (gsl y43 (64:Int) (y43.length:Int)) fun x52=>(kA (x52,z51))))) else (kO (y43,y44)))
def L99_4 (F:Nat) (y43:List UInt8) (y44:Vector UInt32 8):Option (((List UInt8)×(Vector UInt32 8)) ⊕ ((List UInt8)×(Vector UInt32 8))):=L99_4c F y43 y44 (fun s=>some (.inl s)) (fun z=>some (.inr z))
theorem L99_4n (F:Nat) (y43:List UInt8) (y44:Vector UInt32 8) {β:Type} (kA:((List UInt8)×(Vector UInt32 8))->Option β) (kO:((List UInt8)×(Vector UInt32 8))->Option β):L99_4c F y43 y44 kA kO=(L99_4 F y43 y44).bind (elimS kA kO):=by
 simp only [L99_4,L99_4c,Option.bind_assoc,cond_bind,Option.bind_some,Option.bind_none,elimS_l,elimS_r,elimS_bind]
abbrev sA99_4:List Sh:=[(.pt 0 []),(.ro .u8)]
abbrev sAp199_4:List Sh:=[(.pt 0 []),(.ro .u8)]
abbrev sT99_4:List TSh:=[.blk 145 (.pr (.ar 8 .u32) (.pr (.ar 64 .u8) (.pr .i .un)))]
abbrev sTp199_4:List TSh:=[.blk 145 (.pr (.ar 8 .u32) (.pr (.ar 64 .u8) (.pr .i .un)))]
def lc99_4 (F:Nat):Lc:=mkL [0,1] sA99_4 sT99_4 [0,1] sAp199_4 sTp199_4 F (fun x y (s:(List UInt8)×(Vector UInt32 8))=>L99_4 F s.1 s.2) (fun x y=>(x.2.1,y.1.1)) (fun x y (z:(List UInt8)×(Vector UInt32 8))=>(((),z.1,()),((z.2,y.1.2.1,y.1.2.2.1,()),())))
theorem le99_4 (F:Nat) (x:dens sA99_4) (y:tdens sT99_4) (s:(List UInt8)×(Vector UInt32 8)):sev (E99 F) 1 [] (cAt (bodyOf Tryd.f99) (0 :: 0 :: [0,1,1,1])) (0 :: 0 :: [0,1,1,1]) (mkSt [0,1] sA99_4 sT99_4 ((),s.1,()) ((s.2,y.1.2.1,y.1.2.2.1,()),())) (kLoop 1 [0,1] sA99_4 sT99_4 [0,1] sAp199_4 sTp199_4 [] [] [] 0 (fun x y=>some (.inl (x,y))) (fun x y=>some (.inr (.inl (x,y)))) (fun x y=>some (.inr (.inr (x,y))))) =
  L99_4c (β:=Full sA99_4 sT99_4 sAp199_4 sTp199_4 [] []) F s.1 s.2 (fun s=>some (.inl (((),s.1,()),((s.2,y.1.2.1,y.1.2.2.1,()),())))) (fun z=>some (.inr (.inl (((),z.1,()),((z.2,y.1.2.1,y.1.2.2.1,()),()))))):=by kernel_rfl
theorem lo99_4 (F:Nat):LcOk Tryd.prog (E99 F) 1 (lc99_4 F) (cAt (bodyOf Tryd.f99) [0,1,1,1]):=
 mkL_ok (lp:=[]) (id:=0) (b:=cAt (bodyOf Tryd.f99) (0 :: 0 :: [0,1,1,1])) cok (cts99 F) mixed trivial (by kernel_rfl) (by kernel_rfl) (fun x y s=>((),s.1,())) (fun x y s=>((s.2,y.1.2.1,y.1.2.2.1,()),())) (fun x y=>rfl) (fun x y=>rfl) (fun x y s kA kO=>L99_4c F s.1 s.2 kA kO) (fun x y s kA kO=>L99_4n F s.1 s.2 kA kO) (le99_4 F)
def T99c (F:Nat) (p0:List UInt8) (p1:Vector UInt32 8) (p2:Vector UInt8 64) (p3:Int) {β:Type} (k:((Vector UInt32 8)×(Vector UInt8 64)×Int)->Option β):Option β:=
 (Option.bind (L99_3 F p0 (Int.tmod p3 (64:Int)) (decide ((0:Int) < (Int.tmod p3 (64:Int)))) p1 p2) fun z42=>elimS (fun z42=>(Option.bind (iter (fun s=>L99_4 F s.1 s.2) F (z42.1,z42.2.1)) fun z53=>(Option.bind (gslb 64 (0:Int) ((64:Nat):Int)) fun x54=>(k (z53.2,(vspl z42.2.2 x54.1 z53.1 (Nat.min z53.1.length (x54.2 - x54.1))),(w64 (p3 + (p0.length:Int)))))))) (fun z42=>(k (p1,z42,(w64 (p3 + (p0.length:Int)))))) z42)
def T99 (F:Nat) (p0:List UInt8) (p1:Vector UInt32 8) (p2:Vector UInt8 64) (p3:Int):Option ((Vector UInt32 8)×(Vector UInt8 64)×Int):=T99c F p0 p1 p2 p3 some
theorem T99n (F:Nat) (p0:List UInt8) (p1:Vector UInt32 8) (p2:Vector UInt8 64) (p3:Int) {β:Type} (k:((Vector UInt32 8)×(Vector UInt8 64)×Int)->Option β):T99c F p0 p1 p2 p3 k=(T99 F p0 p1 p2 p3).bind k:=by
 simp only [T99,T99c,Option.bind_assoc,cond_bind,Option.bind_some,Option.bind_none,elimS_bind]
abbrev cA99:List Sh:=[(.pt 0 []),(.ro .u8)]
abbrev cB99:List Sh:=[]
abbrev cT99:List TSh:=[.blk 145 (.pr (.ar 8 .u32) (.pr (.ar 64 .u8) (.pr .i .un)))]
abbrev cU99:List TSh:=[.blk 145 (.pr (.ar 8 .u32) (.pr (.ar 64 .u8) (.pr .i .un)))]
def ct99 (F:Nat):Ct:=mkC 1 cA99 cT99 cB99 cU99 (fun x y=>T99 F x.2.1 y.1.1 y.1.2.1 y.1.2.2.1) (fun x y (z:(Vector UInt32 8)×(Vector UInt8 64)×Int)=>((),((z.1,z.2.1,z.2.2,()),())))
theorem eq99 (F:Nat) (x:dens cA99) (y:tdens cT99):sev (E99 F) 1 [([1,0,1,1],lc99_3 F),([0,1,1,1],lc99_4 F)] (bodyOf Tryd.f99) [] (mkSt (rng 2) cA99 cT99 x y) (kFn (E99 F) 1 Tryd.f99.results.toList cB99 cU99 fun p q=>some (p,q)) =
  T99c F x.2.1 y.1.1 y.1.2.1 y.1.2.2.1 (fun z=>some ((),((z.1,z.2.1,z.2.2,()),()))):=by kernel_rfl
theorem ok99 (F:Nat):Sound Tryd.prog cfg 99 (ct99 F):=
 mkC_ok (E:=E99 F) (lp:=[([1,0,1,1],lc99_3 F),([0,1,1,1],lc99_4 F)]) (code:=bodyOf Tryd.f99) Tryd.func99 rfl Tryd.ntmps99 rfl rfl cok (cts99 F) mixed ⟨lo99_3 F,⟨lo99_4 F,trivial⟩⟩ (by kernel_rfl) (fun x y k=>T99c F x.2.1 y.1.1 y.1.2.1 y.1.2.2.1 k) (fun x y k=>T99n F x.2.1 y.1.1 y.1.2.1 y.1.2.2.1 k) (eq99 F)
def ord100:Nat->List (Tag×Nat)
 | _=>[]
def al100:Nat->Option Nat
 | _=>none
def ms100:Nat->Option (List (Option Tag×Nat×List Nat))
 | _=>none
def E100 (F:Nat):Ev:=⟨cfg,68,ctOf [(99,ct99 F)],ord100,ctOf [],al100,ms100⟩
theorem cts100 (F:Nat):CtsOk Tryd.prog (E100 F):=cts_of (l:=[(99,ct99 F)]) (l':=[]) rfl rfl ⟨⟨ok99 F,_,Tryd.func99,rfl,rfl⟩,trivial⟩ trivial
def L100_4c (F:Nat) (y30:(Vector UInt32 8)×(Vector UInt8 64)×Int×Unit) (y34:List UInt8) {β:Type} (kA:((List UInt8))->Option β) (kO:((List UInt8))->Option β):Option β:=
 (bif ((Int.tmod (w64 (y30.2.2.1 + (y34.length:Int))) (64:Int)) != (56:Int)) then (Option.bind (gapp y34 ([(UInt8.ofNat 0)]:List UInt8)) fun x36=>(kA x36)) else (kO y34))
def L100_4 (F:Nat) (y30:(Vector UInt32 8)×(Vector UInt8 64)×Int×Unit) (y34:List UInt8):Option (((List UInt8)) ⊕ ((List UInt8))):=L100_4c F y30 y34 (fun s=>some (.inl s)) (fun z=>some (.inr z))
theorem L100_4n (F:Nat) (y30:(Vector UInt32 8)×(Vector UInt8 64)×Int×Unit) (y34:List UInt8) {β:Type} (kA:((List UInt8))->Option β) (kO:((List UInt8))->Option β):L100_4c F y30 y34 kA kO=(L100_4 F y30 y34).bind (elimS kA kO):=by
 simp only [L100_4,L100_4c,Option.bind_assoc,cond_bind,Option.bind_some,Option.bind_none,elimS_l,elimS_r,elimS_bind]
abbrev sA100_4:List Sh:=[(.re (.pr (.ar 8 .u32) (.pr (.ar 64 .u8) (.pr .i .un)))),(.pt 0 []),(.rw 1)]
abbrev sAp1100_4:List Sh:=[(.re (.pr (.ar 8 .u32) (.pr (.ar 64 .u8) (.pr .i .un)))),(.pt 0 []),(.rw 1)]
abbrev sT100_4:List TSh:=[.blk 145 (.pr (.ar 8 .u32) (.pr (.ar 64 .u8) (.pr .i .un))),.row 5 .u8]
abbrev sTp1100_4:List TSh:=[.blk 145 (.pr (.ar 8 .u32) (.pr (.ar 64 .u8) (.pr .i .un))),.row 5 .u8]
def lc100_4 (F:Nat):Lc:=mkL [0,3,4] sA100_4 sT100_4 [0,3,4] sAp1100_4 sTp1100_4 F (fun x y (s:(List UInt8))=>L100_4 F x.1 s) (fun x y=>y.2.1) (fun x y (z:(List UInt8))=>((x.1,(),(),()),((y.1.1,y.1.2.1,y.1.2.2.1,()),z,())))
theorem le100_4 (F:Nat) (x:dens sA100_4) (y:tdens sT100_4) (s:(List UInt8)):sev (E100 F) 0 [] (cAt (bodyOf Tryd.f100) (0 :: 0 :: [0,1,1,1])) (0 :: 0 :: [0,1,1,1]) (mkSt [0,3,4] sA100_4 sT100_4 (x.1,(),(),()) ((y.1.1,y.1.2.1,y.1.2.2.1,()),s,())) (kLoop 0 [0,3,4] sA100_4 sT100_4 [0,3,4] sAp1100_4 sTp1100_4 [] [] [] 0 (fun x y=>some (.inl (x,y))) (fun x y=>some (.inr (.inl (x,y)))) (fun x y=>some (.inr (.inr (x,y))))) =
  L100_4c (β:=Full sA100_4 sT100_4 sAp1100_4 sTp1100_4 [] []) F x.1 s (fun s=>some (.inl ((x.1,(),(),()),((y.1.1,y.1.2.1,y.1.2.2.1,()),s,())))) (fun z=>some (.inr (.inl ((x.1,(),(),()),((y.1.1,y.1.2.1,y.1.2.2.1,()),z,()))))):=by kernel_rfl
theorem lo100_4 (F:Nat):LcOk Tryd.prog (E100 F) 0 (lc100_4 F) (cAt (bodyOf Tryd.f100) [0,1,1,1]):=
 mkL_ok (lp:=[]) (id:=0) (b:=cAt (bodyOf Tryd.f100) (0 :: 0 :: [0,1,1,1])) cok (cts100 F) mixed trivial (by kernel_rfl) (by kernel_rfl) (fun x y s=>(x.1,(),(),())) (fun x y s=>((y.1.1,y.1.2.1,y.1.2.2.1,()),s,())) (fun x y=>rfl) (fun x y=>rfl) (fun x y s kA kO=>L100_4c F x.1 s kA kO) (fun x y s kA kO=>L100_4n F x.1 s kA kO) (le100_4 F)
def L100_5c (F:Nat) (y38:UInt64) (y39:Int) (y43:List UInt8) {β:Type} (kA:(Int×(List UInt8))->Option β) (kO:((List UInt8))->Option β):Option β:=
 (bif (decide ((0:Int)≤y39)) then (Option.bind (gnn y39) fun x46=>(Option.bind (gapp y43 ([((shr64 y38 x46).toUInt8)]:List UInt8)) fun x47=>(kA ((w64 (y39 - (8:Int))),x47)))) else (kO y43))
def L100_5 (F:Nat) (y38:UInt64) (y39:Int) (y43:List UInt8):Option ((Int×(List UInt8)) ⊕ ((List UInt8))):=L100_5c F y38 y39 y43 (fun s=>some (.inl s)) (fun z=>some (.inr z))
theorem L100_5n (F:Nat) (y38:UInt64) (y39:Int) (y43:List UInt8) {β:Type} (kA:(Int×(List UInt8))->Option β) (kO:((List UInt8))->Option β):L100_5c F y38 y39 y43 kA kO=(L100_5 F y38 y39 y43).bind (elimS kA kO):=by
 simp only [L100_5,L100_5c,Option.bind_assoc,cond_bind,Option.bind_some,Option.bind_none,elimS_l,elimS_r,elimS_bind]
abbrev sA100_5:List Sh:=[(.pt 0 []),(.rw 1),.u64,.i]
abbrev sAp1100_5:List Sh:=[(.pt 0 []),(.rw 1)]
abbrev sT100_5:List TSh:=[.blk 145 (.pr (.ar 8 .u32) (.pr (.ar 64 .u8) (.pr .i .un))),.row 5 .u8]
abbrev sTp1100_5:List TSh:=[.blk 145 (.pr (.ar 8 .u32) (.pr (.ar 64 .u8) (.pr .i .un))),.row 5 .u8]
def lc100_5 (F:Nat):Lc:=mkL [3,4,5,6] sA100_5 sT100_5 [3,4] sAp1100_5 sTp1100_5 F (fun x y (s:Int×(List UInt8))=>L100_5 F x.2.2.1 s.1 s.2) (fun x y=>(x.2.2.2.1,y.2.1)) (fun x y (z:(List UInt8))=>(((),(),()),((y.1.1,y.1.2.1,y.1.2.2.1,()),z,())))
theorem le100_5 (F:Nat) (x:dens sA100_5) (y:tdens sT100_5) (s:Int×(List UInt8)):sev (E100 F) 0 [] (cAt (bodyOf Tryd.f100) (0 :: 0 :: [1,0,1,1,1,1,1])) (0 :: 0 :: [1,0,1,1,1,1,1]) (mkSt [3,4,5,6] sA100_5 sT100_5 ((),(),x.2.2.1,s.1,()) ((y.1.1,y.1.2.1,y.1.2.2.1,()),s.2,())) (kLoop 0 [3,4,5,6] sA100_5 sT100_5 [3,4] sAp1100_5 sTp1100_5 [] [] [] 2 (fun x y=>some (.inl (x,y))) (fun x y=>some (.inr (.inl (x,y)))) (fun x y=>some (.inr (.inr (x,y))))) =
  L100_5c (β:=Full sA100_5 sT100_5 sAp1100_5 sTp1100_5 [] []) F x.2.2.1 s.1 s.2 (fun s=>some (.inl (((),(),x.2.2.1,s.1,()),((y.1.1,y.1.2.1,y.1.2.2.1,()),s.2,())))) (fun z=>some (.inr (.inl (((),(),()),((y.1.1,y.1.2.1,y.1.2.2.1,()),z,()))))):=by kernel_rfl
theorem lo100_5 (F:Nat):LcOk Tryd.prog (E100 F) 0 (lc100_5 F) (cAt (bodyOf Tryd.f100) [1,0,1,1,1,1,1]):=
 mkL_ok (lp:=[]) (id:=2) (b:=cAt (bodyOf Tryd.f100) (0 :: 0 :: [1,0,1,1,1,1,1])) cok (cts100 F) mixed trivial (by kernel_rfl) (by kernel_rfl) (fun x y s=>((),(),x.2.2.1,s.1,())) (fun x y s=>((y.1.1,y.1.2.1,y.1.2.2.1,()),s.2,())) (fun x y=>rfl) (fun x y=>rfl) (fun x y s kA kO=>L100_5c F x.2.2.1 s.1 s.2 kA kO) (fun x y s kA kO=>L100_5n F x.2.2.1 s.1 s.2 kA kO) (le100_5 F)
def L100_6c (F:Nat) (y51:Vector UInt32 8) (y52:Int) (y53:List UInt8) {β:Type} (kA:(Int×(List UInt8))->Option β) (kO:((List UInt8))->Option β):Option β:=
 (bif (decide (y52 < (8:Int))) then (Option.bind (vix y51 y52) fun x56=>(Option.bind (gapp y53 ([((shr32 x56 ((UInt64.ofNat 24).toNat)).toUInt8),((shr32 x56 ((UInt64.ofNat 16).toNat)).toUInt8),((shr32 x56 ((UInt64.ofNat 8).toNat)).toUInt8),(x56.toUInt8)]:List UInt8)) fun x57=>(kA ((w64 (y52 + (1:Int))),x57)))) else (kO y53))
def L100_6 (F:Nat) (y51:Vector UInt32 8) (y52:Int) (y53:List UInt8):Option ((Int×(List UInt8)) ⊕ ((List UInt8))):=L100_6c F y51 y52 y53 (fun s=>some (.inl s)) (fun z=>some (.inr z))
theorem L100_6n (F:Nat) (y51:Vector UInt32 8) (y52:Int) (y53:List UInt8) {β:Type} (kA:(Int×(List UInt8))->Option β) (kO:((List UInt8))->Option β):L100_6c F y51 y52 y53 kA kO=(L100_6 F y51 y52 y53).bind (elimS kA kO):=by
 simp only [L100_6,L100_6c,Option.bind_assoc,cond_bind,Option.bind_some,Option.bind_none,elimS_l,elimS_r,elimS_bind]
abbrev sA100_6:List Sh:=[(.rw 0),(.ar 8 .u32),.i]
abbrev sAp1100_6:List Sh:=[(.rw 0)]
abbrev sT100_6:List TSh:=[.row 5 .u8]
abbrev sTp1100_6:List TSh:=[.row 5 .u8]
def lc100_6 (F:Nat):Lc:=mkL [7,47,48] sA100_6 sT100_6 [7] sAp1100_6 sTp1100_6 F (fun x y (s:Int×(List UInt8))=>L100_6 F x.2.1 s.1 s.2) (fun x y=>(x.2.2.1,y.1)) (fun x y (z:(List UInt8))=>(((),()),(z,())))
theorem le100_6 (F:Nat) (x:dens sA100_6) (y:tdens sT100_6) (s:Int×(List UInt8)):sev (E100 F) 0 [] (cAt (bodyOf Tryd.f100) (0 :: 0 :: [1,0,1,1,1,1,1,1,1,1])) (0 :: 0 :: [1,0,1,1,1,1,1,1,1,1]) (mkSt [7,47,48] sA100_6 sT100_6 ((),x.2.1,s.1,()) (s.2,())) (kLoop 0 [7,47,48] sA100_6 sT100_6 [7] sAp1100_6 sTp1100_6 [] [] [] 4 (fun x y=>some (.inl (x,y))) (fun x y=>some (.inr (.inl (x,y)))) (fun x y=>some (.inr (.inr (x,y))))) =
  L100_6c (β:=Full sA100_6 sT100_6 sAp1100_6 sTp1100_6 [] []) F x.2.1 s.1 s.2 (fun s=>some (.inl (((),x.2.1,s.1,()),(s.2,())))) (fun z=>some (.inr (.inl (((),()),(z,()))))):=by kernel_rfl
theorem lo100_6 (F:Nat):LcOk Tryd.prog (E100 F) 0 (lc100_6 F) (cAt (bodyOf Tryd.f100) [1,0,1,1,1,1,1,1,1,1]):=
 mkL_ok (lp:=[]) (id:=4) (b:=cAt (bodyOf Tryd.f100) (0 :: 0 :: [1,0,1,1,1,1,1,1,1,1])) cok (cts100 F) mixed trivial (by kernel_rfl) (by kernel_rfl) (fun x y s=>((),x.2.1,s.1,())) (fun x y s=>(s.2,())) (fun x y=>rfl) (fun x y=>rfl) (fun x y s kA kO=>L100_6c F x.2.1 s.1 s.2 kA kO) (fun x y s kA kO=>L100_6n F x.2.1 s.1 s.2 kA kO) (le100_6 F)
def T100c (F:Nat) (p0:(Vector UInt32 8)×(Vector UInt8 64)×Int×Unit) {β:Type} (k:((List UInt8))->Option β):Option β:=
 (Option.bind (iter (fun s=>L100_4 F p0 s) F ([(UInt8.ofNat 128)]:List UInt8)) fun z37=>(Option.bind (iter (fun s=>L100_5 F ((UInt64.ofInt p0.2.2.1) * (UInt64.ofNat 8)) s.1 s.2) F ((56:Int),z37)) fun z48=>(Option.bind (T99 F z48 p0.1 p0.2.1 p0.2.2.1) fun z49=>(Option.bind (gmake (0:UInt8) (0:Int) (32:Int)) fun x50=>(Option.bind (iter (fun s=>L100_6 F z49.1 s.1 s.2) F ((0:Int),x50)) fun z58=>(k z58))))))
def T100 (F:Nat) (p0:(Vector UInt32 8)×(Vector UInt8 64)×Int×Unit):Option ((List UInt8)):=T100c F p0 some
theorem T100n (F:Nat) (p0:(Vector UInt32 8)×(Vector UInt8 64)×Int×Unit) {β:Type} (k:((List UInt8))->Option β):T100c F p0 k=(T100 F p0).bind k:=by
 simp only [T100,T100c,Option.bind_assoc,cond_bind,Option.bind_some,Option.bind_none,elimS_bind]
abbrev cA100:List Sh:=[(.re (.pr (.ar 8 .u32) (.pr (.ar 64 .u8) (.pr .i .un))))]
abbrev cB100:List Sh:=[.str]
abbrev cT100:List TSh:=[]
abbrev cU100:List TSh:=[]
def ct100 (F:Nat):Ct:=mkC 0 cA100 cT100 cB100 cU100 (fun x y=>T100 F x.1) (fun x y (z:(List UInt8))=>((z,()),()))
theorem eq100 (F:Nat) (x:dens cA100) (y:tdens cT100):sev (E100 F) 0 [([0,1,1,1],lc100_4 F),([1,0,1,1,1,1,1],lc100_5 F),([1,0,1,1,1,1,1,1,1,1],lc100_6 F)] (bodyOf Tryd.f100) [] (mkSt (rng 1) cA100 cT100 x y) (kFn (E100 F) 0 Tryd.f100.results.toList cB100 cU100 fun p q=>some (p,q)) =
  T100c F x.1 (fun z=>some ((z,()),())):=by kernel_rfl
theorem ok100 (F:Nat):Sound Tryd.prog cfg 100 (ct100 F):=
 mkC_ok (E:=E100 F) (lp:=[([0,1,1,1],lc100_4 F),([1,0,1,1,1,1,1],lc100_5 F),([1,0,1,1,1,1,1,1,1,1],lc100_6 F)]) (code:=bodyOf Tryd.f100) Tryd.func100 rfl Tryd.ntmps100 rfl rfl cok (cts100 F) mixed ⟨lo100_4 F,⟨lo100_5 F,⟨lo100_6 F,trivial⟩⟩⟩ (by kernel_rfl) (fun x y k=>T100c F x.1 k) (fun x y k=>T100n F x.1 k) (eq100 F)
def ord96:Nat->List (Tag×Nat)
 | _=>[]
def al96:Nat->Option Nat
 | _=>none
def ms96:Nat->Option (List (Option Tag×Nat×List Nat))
 | _=>none
def E96 (F:Nat):Ev:=⟨cfg,20,ctOf [(98,ct98 F),(99,ct99 F),(100,ct100 F)],ord96,ctOf [],al96,ms96⟩
theorem cts96 (F:Nat):CtsOk Tryd.prog (E96 F):=cts_of (l:=[(98,ct98 F),(99,ct99 F),(100,ct100 F)]) (l':=[]) rfl rfl ⟨⟨ok98 F,_,Tryd.func98,rfl,rfl⟩,⟨⟨ok99 F,_,Tryd.func99,rfl,rfl⟩,⟨⟨ok100 F,_,Tryd.func100,rfl,rfl⟩,trivial⟩⟩⟩ trivial
def L96_2c (F:Nat) (y17:List (List UInt8)) (y18:Int) (y19:Int) (y20:Vector UInt32 8) (y21:Vector UInt8 64) (y22:Int) {β:Type} (kA:(Int×(Vector UInt32 8)×(Vector UInt8 64)×Int)->Option β) (kO:((Vector UInt32 8)×(Vector UInt8 64)×Int)->Option β):Option β:=
 (bif (decide (y19 < y18)) then (Option.bind (ix y17 y19) fun x26=>(Option.bind (gstr x26) fun x27=>(Option.bind (T99 F x27 y20 y21 y22) fun z28=>(kA ((w64 (y19 + (1:Int))),z28.1,z28.2.1,z28.2.2))))) else (kO (y20,y21,y22)))
def L96_2 (F:Nat) (y17:List (List UInt8)) (y18:Int) (y19:Int) (y20:Vector UInt32 8) (y21:Vector UInt8 64) (y22:Int):Option ((Int×(Vector UInt32 8)×(Vector UInt8 64)×Int) ⊕ ((Vector UInt32 8)×(Vector UInt8 64)×Int)):=L96_2c F y17 y18 y19 y20 y21 y22 (fun s=>some (.inl s)) (fun z=>some (.inr z))
theorem L96_2n (F:Nat) (y17:List (List UInt8)) (y18:Int) (y19:Int) (y20:Vector UInt32 8) (y21:Vector UInt8 64) (y22:Int) {β:Type} (kA:(Int×(Vector UInt32 8)×(Vector UInt8 64)×Int)->Option β) (kO:((Vector UInt32 8)×(Vector UInt8 64)×Int)->Option β):L96_2c F y17 y18 y19 y20 y21 y22 kA kO=(L96_2 F y17 y18 y19 y20 y21 y22).bind (elimS kA kO):=by
 simp only [L96_2,L96_2c,Option.bind_assoc,cond_bind,Option.bind_some,Option.bind_none,elimS_l,elimS_r,elimS_bind]
abbrev sA96_2:List Sh:=[(.pt 0 []),(.ro .s),.i,.i]
abbrev sAp196_2:List Sh:=[(.pt 0 [])]
abbrev sT96_2:List TSh:=[.blk 145 (.pr (.ar 8 .u32) (.pr (.ar 64 .u8) (.pr .i .un)))]
abbrev sTp196_2:List TSh:=[.blk 145 (.pr (.ar 8 .u32) (.pr (.ar 64 .u8) (.pr .i .un)))]
def lc96_2 (F:Nat):Lc:=mkL [3,7,8,9] sA96_2 sT96_2 [3] sAp196_2 sTp196_2 F (fun x y (s:Int×(Vector UInt32 8)×(Vector UInt8 64)×Int)=>L96_2 F x.2.1 x.2.2.1 s.1 s.2.1 s.2.2.1 s.2.2.2) (fun x y=>(x.2.2.2.1,y.1.1,y.1.2.1,y.1.2.2.1)) (fun x y (z:(Vector UInt32 8)×(Vector UInt8 64)×Int)=>(((),()),((z.1,z.2.1,z.2.2,()),())))
theorem le96_2 (F:Nat) (x:dens sA96_2) (y:tdens sT96_2) (s:Int×(Vector UInt32 8)×(Vector UInt8 64)×Int):sev (E96 F) 0 [] (cAt (bodyOf Tryd.f96) (0 :: 0 :: [1,0,1,1])) (0 :: 0 :: [1,0,1,1]) (mkSt [3,7,8,9] sA96_2 sT96_2 ((),x.2.1,x.2.2.1,s.1,()) ((s.2.1,s.2.2.1,s.2.2.2,()),())) (kLoop 0 [3,7,8,9] sA96_2 sT96_2 [3] sAp196_2 sTp196_2 [] [] [] 0 (fun x y=>some (.inl (x,y))) (fun x y=>some (.inr (.inl (x,y)))) (fun x y=>some (.inr (.inr (x,y))))) =
  L96_2c (β:=Full sA96_2 sT96_2 sAp196_2 sTp196_2 [] []) F x.2.1 x.2.2.1 s.1 s.2.1 s.2.2.1 s.2.2.2 (fun s=>some (.inl (((),x.2.1,x.2.2.1,s.1,()),((s.2.1,s.2.2.1,s.2.2.2,()),())))) (fun z=>some (.inr (.inl (((),()),((z.1,z.2.1,z.2.2,()),()))))):=by kernel_rfl
theorem lo96_2 (F:Nat):LcOk Tryd.prog (E96 F) 0 (lc96_2 F) (cAt (bodyOf Tryd.f96) [1,0,1,1]):=
 mkL_ok (lp:=[]) (id:=0) (b:=cAt (bodyOf Tryd.f96) (0 :: 0 :: [1,0,1,1])) cok (cts96 F) mixed trivial (by kernel_rfl) (by kernel_rfl) (fun x y s=>((),x.2.1,x.2.2.1,s.1,())) (fun x y s=>((s.2.1,s.2.2.1,s.2.2.2,()),())) (fun x y=>rfl) (fun x y=>rfl) (fun x y s kA kO=>L96_2c F x.2.1 x.2.2.1 s.1 s.2.1 s.2.2.1 s.2.2.2 kA kO) (fun x y s kA kO=>L96_2n F x.2.1 x.2.2.1 s.1 s.2.1 s.2.2.1 s.2.2.2 kA kO) (le96_2 F)
def T96c (F:Nat) (p0:List (List UInt8)) {β:Type} (k:((List UInt8))->Option β):Option β:=
 (Option.bind (T98 F) fun z16=>(Option.bind (iter (fun s=>L96_2 F p0 (p0.length:Int) s.1 s.2.1 s.2.2.1 s.2.2.2) F ((0:Int),z16.1,z16.2.1,z16.2.2)) fun z29=>(Option.bind (T100 F (z29.1,z29.2.1,z29.2.2,())) fun z30=>(k z30))))
def T96 (F:Nat) (p0:List (List UInt8)):Option ((List UInt8)):=T96c F p0 some
theorem T96n (F:Nat) (p0:List (List UInt8)) {β:Type} (k:((List UInt8))->Option β):T96c F p0 k=(T96 F p0).bind k:=by
 simp only [T96,T96c,Option.bind_assoc,cond_bind,Option.bind_some,Option.bind_none,elimS_bind]
abbrev cA96:List Sh:=[(.ro .s)]
abbrev cB96:List Sh:=[.str]
abbrev cT96:List TSh:=[]
abbrev cU96:List TSh:=[]
def ct96 (F:Nat):Ct:=mkC 0 cA96 cT96 cB96 cU96 (fun x y=>T96 F x.1) (fun x y (z:(List UInt8))=>((z,()),()))
theorem eq96 (F:Nat) (x:dens cA96) (y:tdens cT96):sev (E96 F) 0 [([1,0,1,1],lc96_2 F)] (bodyOf Tryd.f96) [] (mkSt (rng 1) cA96 cT96 x y) (kFn (E96 F) 0 Tryd.f96.results.toList cB96 cU96 fun p q=>some (p,q)) =
  T96c F x.1 (fun z=>some ((z,()),())):=by kernel_rfl
theorem ok96 (F:Nat):Sound Tryd.prog cfg 96 (ct96 F):=
 mkC_ok (E:=E96 F) (lp:=[([1,0,1,1],lc96_2 F)]) (code:=bodyOf Tryd.f96) Tryd.func96 rfl Tryd.ntmps96 rfl rfl cok (cts96 F) mixed ⟨lo96_2 F,trivial⟩ (by kernel_rfl) (fun x y k=>T96c F x.1 k) (fun x y k=>T96n F x.1 k) (eq96 F)
def ord97:Nat->List (Tag×Nat)
 | _=>[]
def al97:Nat->Option Nat
 | _=>none
def ms97:Nat->Option (List (Option Tag×Nat×List Nat))
 | _=>none
def E97 (F:Nat):Ev:=⟨cfg,18,ctOf [],ord97,ctOf [],al97,ms97⟩
theorem cts97 (F:Nat):CtsOk Tryd.prog (E97 F):=cts_of (l:=[]) (l':=[]) rfl rfl trivial trivial
def L97_2c (F:Nat) (y10:UInt8) (y11:Vector UInt8 64) (y12:Int) (y13:Vector UInt8 64) {β:Type} (kA:(Int×(Vector UInt8 64))->Option β) (kO:((Vector UInt8 64))->Option β):Option β:=
 (bif (decide (y12 < (64:Int))) then (Option.bind (vix y11 y12) fun x16=>(Option.bind (inb 64 y12) fun x17=>(kA ((w64 (y12 + (1:Int))),(Vector.setIfInBounds y13 x17 (x16 ^^^ y10)))))) else (kO y13))
def L97_2 (F:Nat) (y10:UInt8) (y11:Vector UInt8 64) (y12:Int) (y13:Vector UInt8 64):Option ((Int×(Vector UInt8 64)) ⊕ ((Vector UInt8 64))):=L97_2c F y10 y11 y12 y13 (fun s=>some (.inl s)) (fun z=>some (.inr z))
theorem L97_2n (F:Nat) (y10:UInt8) (y11:Vector UInt8 64) (y12:Int) (y13:Vector UInt8 64) {β:Type} (kA:(Int×(Vector UInt8 64))->Option β) (kO:((Vector UInt8 64))->Option β):L97_2c F y10 y11 y12 y13 kA kO=(L97_2 F y10 y11 y12 y13).bind (elimS kA kO):=by
 simp only [L97_2,L97_2c,Option.bind_assoc,cond_bind,Option.bind_some,Option.bind_none,elimS_l,elimS_r,elimS_bind]
abbrev sA97_2:List Sh:=[.u8,(.pt 0 []),(.ar 64 .u8),.i]
abbrev sAp197_2:List Sh:=[(.pt 0 [])]
abbrev sT97_2:List TSh:=[.blk 140 (.ar 64 .u8)]
abbrev sTp197_2:List TSh:=[.blk 140 (.ar 64 .u8)]
def lc97_2 (F:Nat):Lc:=mkL [0,3,6,7] sA97_2 sT97_2 [3] sAp197_2 sTp197_2 F (fun x y (s:Int×(Vector UInt8 64))=>L97_2 F x.1 x.2.2.1 s.1 s.2) (fun x y=>(x.2.2.2.1,y.1)) (fun x y (z:(Vector UInt8 64))=>(((),()),(z,())))
theorem le97_2 (F:Nat) (x:dens sA97_2) (y:tdens sT97_2) (s:Int×(Vector UInt8 64)):sev (E97 F) 0 [] (cAt (bodyOf Tryd.f97) (0 :: 0 :: [1,0,1])) (0 :: 0 :: [1,0,1]) (mkSt [0,3,6,7] sA97_2 sT97_2 (x.1,(),x.2.2.1,s.1,()) (s.2,())) (kLoop 0 [0,3,6,7] sA97_2 sT97_2 [3] sAp197_2 sTp197_2 [] [] [] 0 (fun x y=>some (.inl (x,y))) (fun x y=>some (.inr (.inl (x,y)))) (fun x y=>some (.inr (.inr (x,y))))) =
  L97_2c (β:=Full sA97_2 sT97_2 sAp197_2 sTp197_2 [] []) F x.1 x.2.2.1 s.1 s.2 (fun s=>some (.inl ((x.1,(),x.2.2.1,s.1,()),(s.2,())))) (fun z=>some (.inr (.inl (((),()),(z,()))))):=by kernel_rfl
theorem lo97_2 (F:Nat):LcOk Tryd.prog (E97 F) 0 (lc97_2 F) (cAt (bodyOf Tryd.f97) [1,0,1]):=
 mkL_ok (lp:=[]) (id:=0) (b:=cAt (bodyOf Tryd.f97) (0 :: 0 :: [1,0,1])) cok (cts97 F) mixed trivial (by kernel_rfl) (by kernel_rfl) (fun x y s=>(x.1,(),x.2.2.1,s.1,())) (fun x y s=>(s.2,())) (fun x y=>rfl) (fun x y=>rfl) (fun x y s kA kO=>L97_2c F x.1 x.2.2.1 s.1 s.2 kA kO) (fun x y s kA kO=>L97_2n F x.1 x.2.2.1 s.1 s.2 kA kO) (le97_2 F)
def T97c (F:Nat) (p0:UInt8) (p1:Vector UInt8 64) {β:Type} (k:((Vector UInt8 64))->Option β):Option β:=
 (Option.bind (iter (fun s=>L97_2 F p0 p1 s.1 s.2) F ((0:Int),(Vector.replicate 64 (0:UInt8)))) fun z18=>(k z18))
def T97 (F:Nat) (p0:UInt8) (p1:Vector UInt8 64):Option ((Vector UInt8 64)):=T97c F p0 p1 some
theorem T97n (F:Nat) (p0:UInt8) (p1:Vector UInt8 64) {β:Type} (k:((Vector UInt8 64))->Option β):T97c F p0 p1 k=(T97 F p0 p1).bind k:=by
 simp only [T97,T97c,Option.bind_assoc,cond_bind,Option.bind_some,Option.bind_none,elimS_bind]
abbrev cA97:List Sh:=[.u8,(.re (.ar 64 .u8))]
abbrev cB97:List Sh:=[(.ar 64 .u8)]
abbrev cT97:List TSh:=[]
abbrev cU97:List TSh:=[]
def ct97 (F:Nat):Ct:=mkC 0 cA97 cT97 cB97 cU97 (fun x y=>T97 F x.1 x.2.1) (fun x y (z:(Vector UInt8 64))=>((z,()),()))
theorem eq97 (F:Nat) (x:dens cA97) (y:tdens cT97):sev (E97 F) 0 [([1,0,1],lc97_2 F)] (bodyOf Tryd.f97) [] (mkSt (rng 2) cA97 cT97 x y) (kFn (E97 F) 0 Tryd.f97.results.toList cB97 cU97 fun p q=>some (p,q)) =
  T97c F x.1 x.2.1 (fun z=>some ((z,()),())):=by kernel_rfl
theorem ok97 (F:Nat):Sound Tryd.prog cfg 97 (ct97 F):=
 mkC_ok (E:=E97 F) (lp:=[([1,0,1],lc97_2 F)]) (code:=bodyOf Tryd.f97) Tryd.func97 rfl Tryd.ntmps97 rfl rfl cok (cts97 F) mixed ⟨lo97_2 F,trivial⟩ (by kernel_rfl) (fun x y k=>T97c F x.1 x.2.1 k) (fun x y k=>T97n F x.1 x.2.1 k) (eq97 F)
def ord110x2:Nat->List (Tag×Nat)
 | 6=>[(.p,0),(.p,1),(.p,2),(.r,3),(.p,4),(.p,5),(.p,6),(.p,7),(.r,8),(.p,9),(.p,10),(.p,11),(.p,12),(.p,13),(.r,14),(.p,15),(.p,16),(.p,17),(.p,18),(.p,19),(.r,20),(.p,21),(.p,22),(.p,23),(.w,24)]
 | 7=>[(.p,0),(.p,1),(.p,2),(.r,3),(.p,4),(.p,5),(.p,6),(.r,7),(.p,8),(.p,9)]
 | 10=>[(.p,0),(.p,1),(.p,2),(.p,3),(.p,4),(.r,5),(.p,6),(.p,7),(.p,8),(.p,9),(.p,10),(.p,11),(.r,12),(.p,13),(.p,14),(.w,15)]
 | 13=>[(.p,0),(.r,1),(.p,2),(.r,3),(.p,4),(.r,5),(.p,6),(.r,7),(.p,8),(.r,9),(.p,10),(.r,11),(.p,12),(.r,13),(.p,14),(.r,15),(.p,16),(.p,17),(.p,18),(.p,19),(.p,20),(.p,21),(.p,22),(.p,23)]
 | 19=>[(.p,0),(.p,1),(.p,2),(.p,3),(.p,4),(.p,5),(.p,6),(.p,7),(.p,8),(.p,9),(.p,10),(.p,11),(.p,12),(.p,13),(.r,14),(.p,15),(.p,16),(.p,17),(.r,18),(.p,19),(.p,20)]
 | 26=>[(.p,0),(.p,1),(.p,2),(.p,3),(.r,4),(.p,5),(.p,6),(.p,7),(.p,8),(.p,9),(.w,10)]
 | _=>[]
def al110x2:Nat->Option Nat
 | _=>none
def ms110x2:Nat->Option (List (Option Tag×Nat×List Nat))
 | _=>none
def E110x2 (F:Nat):Ev:=⟨cfg,212,ctOf [(117,ct117 F)],ord110x2,ctOf [],al110x2,ms110x2⟩
theorem cts110x2 (F:Nat):CtsOk Tryd.prog (E110x2 F):=cts_of (l:=[(117,ct117 F)]) (l':=[]) rfl rfl ⟨⟨ok117 F,_,Tryd.func117,rfl,rfl⟩,trivial⟩ trivial
def L110x2_4c (F:Nat) (y116:Vector UInt8 64) (y113:Nat×Nat) (y114:Int) (y119:Vector UInt32 64) {β:Type} (kA:((Nat×Nat)×Int×(Vector UInt32 64))->Option β) (kO:((Vector UInt32 64))->Option β):Option β:=
 (bif (decide (y114 < (64:Int))) then (bif (decide (y114 < (16:Int))) then (Option.bind (gslb (y113.2 - y113.1) (w64 ((4:Int) * y114)) (w64 ((w64 ((4:Int) * y114)) + (4:Int)))) fun x143=>(Option.bind (inb ((y113.1 + x143.2) - (y113.1 + x143.1)) (0:Int)) fun x144=>(Option.bind (vat y116 ((y113.1 + x143.1) + x144)) fun x145=>(Option.bind (inb ((y113.1 + x143.2) - (y113.1 + x143.1)) (1:Int)) fun x146=>(Option.bind (vat y116 ((y113.1 + x143.1) + x146)) fun x147=>(Option.bind (inb ((y113.1 + x143.2) - (y113.1 + x143.1)) (2:Int)) fun x148=>(Option.bind (vat y116 ((y113.1 + x143.1) + x148)) fun x149=>(Option.bind (inb ((y113.1 + x143.2) - (y113.1 + x143.1)) (3:Int)) fun x150=>(Option.bind (vat y116 ((y113.1 + x143.1) + x150)) fun x151=>(Option.bind (inb 64 y114) fun x152=>(kA ((y113.1,y113.2),(w64 (y114 + (1:Int))),(Vector.setIfInBounds y119 x152 ((((shl32 (x145.toUInt32) ((UInt64.ofNat 24).toNat)) ||| (shl32 (x147.toUInt32) ((UInt64.ofNat 16).toNat))) ||| (shl32 (x149.toUInt32) ((UInt64.ofNat 8).toNat))) ||| (x151.toUInt32))))))))))))))) else (Option.bind (inb 64 (w64 (y114 - (2:Int)))) fun x153=>(Option.bind (vat y119 x153) fun x154=>(Option.bind (inb 64 (w64 (y114 - (15:Int)))) fun x155=>(Option.bind (vat y119 x155) fun x156=>(Option.bind (T117 F x154 (-17:Int)) fun z157=>(Option.bind (T117 F x154 (-19:Int)) fun z158=>(Option.bind (T117 F x156 (-7:Int)) fun z159=>(Option.bind (T117 F x156 (-18:Int)) fun z160=>(Option.bind (inb 64 (w64 (y114 - (7:Int)))) fun x161=>(Option.bind (vat y119 x161) fun x162=>(Option.bind (inb 64 (w64 (y114 - (16:Int)))) fun x163=>(Option.bind (vat y119 x163) fun x164=>(Option.bind (inb 64 y114) fun x165=>(kA ((y113.1,y113.2),(w64 (y114 + (1:Int))),(Vector.setIfInBounds y119 x165 (((((z157 ^^^ z158) ^^^ (shr32 x154 ((UInt64.ofNat 10).toNat))) + x162) + ((z159 ^^^ z160) ^^^ (shr32 x156 ((UInt64.ofNat 3).toNat)))) + x164)))))))))))))))))) else (kO y119))
def L110x2_4 (F:Nat) (y116:Vector UInt8 64) (y113:Nat×Nat) (y114:Int) (y119:Vector UInt32 64):Option (((Nat×Nat)×Int×(Vector UInt32 64)) ⊕ ((Vector UInt32 64))):=L110x2_4c F y116 y113 y114 y119 (fun s=>some (.inl s)) (fun z=>some (.inr z))
theorem L110x2_4n (F:Nat) (y116:Vector UInt8 64) (y113:Nat×Nat) (y114:Int) (y119:Vector UInt32 64) {β:Type} (kA:((Nat×Nat)×Int×(Vector UInt32 64))->Option β) (kO:((Vector UInt32 64))->Option β):L110x2_4c F y116 y113 y114 y119 kA kO=(L110x2_4 F y116 y113 y114 y119).bind (elimS kA kO):=by
 simp only [L110x2_4,L110x2_4c,Option.bind_assoc,cond_bind,Option.bind_some,Option.bind_none,elimS_l,elimS_r,elimS_bind]
abbrev sA110x2_4:List Sh:=[(.pt 0 [0,0]),(.ap 0 [0,0,1]),(.pt 1 []),.i]
abbrev sAp1110x2_4:List Sh:=[(.pt 0 [0,0]),(.pt 1 [])]
abbrev sT110x2_4:List TSh:=[.blk 152 (.pr (.pr (.pr (.ar 8 .u32) (.pr (.ar 64 .u8) (.pr .i .un))) (.pr (.ar 64 .u8) .un)) .un),.blk 163 (.ar 64 .u32)]
abbrev sTp1110x2_4:List TSh:=[.blk 152 (.pr (.pr (.pr (.ar 8 .u32) (.pr (.ar 64 .u8) (.pr .i .un))) (.pr (.ar 64 .u8) .un)) .un),.blk 163 (.ar 64 .u32)]
def lc110x2_4 (F:Nat):Lc:=mkL [0,1,4,27] sA110x2_4 sT110x2_4 [0,4] sAp1110x2_4 sTp1110x2_4 F (fun x y (s:(Nat×Nat)×Int×(Vector UInt32 64))=>L110x2_4 F y.1.1.1.2.1 s.1 s.2.1 s.2.2) (fun x y=>(x.2.1,x.2.2.2.1,y.2.1)) (fun x y (z:(Vector UInt32 64))=>(((),(),()),((((y.1.1.1.1,y.1.1.1.2.1,y.1.1.1.2.2.1,()),y.1.1.2.1,()),()),z,())))
theorem le110x2_4 (F:Nat) (x:dens sA110x2_4) (y:tdens sT110x2_4) (s:(Nat×Nat)×Int×(Vector UInt32 64)):sev (E110x2 F) 1 [] (cAt (bodyOf Tryd.f110) (0 :: 0 :: [1,0,1])) (0 :: 0 :: [1,0,1]) (mkSt [0,1,4,27] sA110x2_4 sT110x2_4 ((),s.1,(),s.2.1,()) ((((y.1.1.1.1,y.1.1.1.2.1,y.1.1.1.2.2.1,()),y.1.1.2.1,()),()),s.2.2,())) (kLoop 1 [0,1,4,27] sA110x2_4 sT110x2_4 [0,4] sAp1110x2_4 sTp1110x2_4 [] [] [] 0 (fun x y=>some (.inl (x,y))) (fun x y=>some (.inr (.inl (x,y)))) (fun x y=>some (.inr (.inr (x,y))))) =
  L110x2_4c (β:=Full sA110x2_4 sT110x2_4 sAp1110x2_4 sTp1110x2_4 [] []) F y.1.1.1.2.1 s.1 s.2.1 s.2.2 (fun s=>some (.inl (((),s.1,(),s.2.1,()),((((y.1.1.1.1,y.1.1.1.2.1,y.1.1.1.2.2.1,()),y.1.1.2.1,()),()),s.2.2,())))) (fun z=>some (.inr (.inl (((),(),()),((((y.1.1.1.1,y.1.1.1.2.1,y.1.1.1.2.2.1,()),y.1.1.2.1,()),()),z,()))))):=by kernel_rfl
theorem lo110x2_4 (F:Nat):LcOk Tryd.prog (E110x2 F) 1 (lc110x2_4 F) (cAt (bodyOf Tryd.f110) [1,0,1]):=
 mkL_ok (lp:=[]) (id:=0) (b:=cAt (bodyOf Tryd.f110) (0 :: 0 :: [1,0,1])) cok (cts110x2 F) mixed trivial (by kernel_rfl) (by kernel_rfl) (fun x y s=>((),s.1,(),s.2.1,())) (fun x y s=>((((y.1.1.1.1,y.1.1.1.2.1,y.1.1.1.2.2.1,()),y.1.1.2.1,()),()),s.2.2,())) (fun x y=>rfl) (fun x y=>rfl) (fun x y s kA kO=>L110x2_4c F y.1.1.1.2.1 s.1 s.2.1 s.2.2 kA kO) (fun x y s kA kO=>L110x2_4n F y.1.1.1.2.1 s.1 s.2.1 s.2.2 kA kO) (le110x2_4 F)
def L110x2_5c (F:Nat) (y188:Vector UInt32 64) (y175:UInt32) (y176:UInt32) (y177:UInt32) (y178:UInt32) (y179:UInt32) (y180:UInt32) (y181:UInt32) (y182:UInt32) (y183:Int) {β:Type} (kA:(UInt32×UInt32×UInt32×UInt32×UInt32×UInt32×UInt32×UInt32×Int)->Option β) (kO:(UInt32×UInt32×UInt32×UInt32×UInt32×UInt32×UInt32×UInt32)->Option β):Option β:=
 (bif (decide (y183 < (64:Int))) then (Option.bind (T117 F y179 (-6:Int)) fun z199=>(Option.bind (T117 F y179 (-11:Int)) fun z200=>(Option.bind (T117 F y179 (-25:Int)) fun z201=>(Option.bind (T117 F y175 (-2:Int)) fun z202=>(Option.bind (T117 F y175 (-13:Int)) fun z203=>(Option.bind (T117 F y175 (-22:Int)) fun z204=>(Option.bind (vix (gv2) y183) fun x205=>(Option.bind (inb 64 y183) fun x206=>(Option.bind (vat y188 x206) fun x207=>(kA ((((((y182 + ((z199 ^^^ z200) ^^^ z201)) + ((y179 &&& y180) ^^^ ((~~~y179) &&& y181))) + x205) + x207) + (((z202 ^^^ z203) ^^^ z204) + (((y175 &&& y176) ^^^ (y175 &&& y177)) ^^^ (y176 &&& y177)))),y175,y176,y177,(y178 + ((((y182 + ((z199 ^^^ z200) ^^^ z201)) + ((y179 &&& y180) ^^^ ((~~~y179) &&& y181))) + x205) + x207)),y179,y180,y181,(w64 (y183 + (1:Int)))))))))))))) else (kO (y175,y176,y177,y178,y179,y180,y181,y182)))
def L110x2_5 (F:Nat) (y188:Vector UInt32 64) (y175:UInt32) (y176:UInt32) (y177:UInt32) (y178:UInt32) (y179:UInt32) (y180:UInt32) (y181:UInt32) (y182:UInt32) (y183:Int):Option ((UInt32×UInt32×UInt32×UInt32×UInt32×UInt32×UInt32×UInt32×Int) ⊕ (UInt32×UInt32×UInt32×UInt32×UInt32×UInt32×UInt32×UInt32)):=L110x2_5c F y188 y175 y176 y177 y178 y179 y180 y181 y182 y183 (fun s=>some (.inl s)) (fun z=>some (.inr z))
theorem L110x2_5n (F:Nat) (y188:Vector UInt32 64) (y175:UInt32) (y176:UInt32) (y177:UInt32) (y178:UInt32) (y179:UInt32) (y180:UInt32) (y181:UInt32) (y182:UInt32) (y183:Int) {β:Type} (kA:(UInt32×UInt32×UInt32×UInt32×UInt32×UInt32×UInt32×UInt32×Int)->Option β) (kO:(UInt32×UInt32×UInt32×UInt32×UInt32×UInt32×UInt32×UInt32)->Option β):L110x2_5c F y188 y175 y176 y177 y178 y179 y180 y181 y182 y183 kA kO=(L110x2_5 F y188 y175 y176 y177 y178 y179 y180 y181 y182 y183).bind (elimS kA kO):=by
 simp only [L110x2_5,L110x2_5c,Option.bind_assoc,cond_bind,Option.bind_some,Option.bind_none,elimS_l,elimS_r,elimS_bind]
abbrev sA110x2_5:List Sh:=[(.pt 0 [0,0]),(.pt 1 []),(.pt 2 []),.u32,.u32,.u32,.u32,.u32,.u32,.u32,.u32,.i]
abbrev sAp1110x2_5:List Sh:=[(.pt 0 [0,0]),(.pt 1 []),.u32,.u32,.u32,.u32,.u32,.u32,.u32,.u32]
abbrev sT110x2_5:List TSh:=[.blk 152 (.pr (.pr (.pr (.ar 8 .u32) (.pr (.ar 64 .u8) (.pr .i .un))) (.pr (.ar 64 .u8) .un)) .un),.blk 163 (.ar 64 .u32),.blk 143 (.ar 8 .u32)]
abbrev sTp1110x2_5:List TSh:=[.blk 152 (.pr (.pr (.pr (.ar 8 .u32) (.pr (.ar 64 .u8) (.pr .i .un))) (.pr (.ar 64 .u8) .un)) .un),.blk 143 (.ar 8 .u32)]
def lc110x2_5 (F:Nat):Lc:=mkL [0,4,11,12,13,14,15,16,17,18,19,123] sA110x2_5 sT110x2_5 [0,11,12,13,14,15,16,17,18,19] sAp1110x2_5 sTp1110x2_5 F (fun x y (s:UInt32×UInt32×UInt32×UInt32×UInt32×UInt32×UInt32×UInt32×Int)=>L110x2_5 F y.2.1 s.1 s.2.1 s.2.2.1 s.2.2.2.1 s.2.2.2.2.1 s.2.2.2.2.2.1 s.2.2.2.2.2.2.1 s.2.2.2.2.2.2.2.1 s.2.2.2.2.2.2.2.2) (fun x y=>(x.2.2.2.1,x.2.2.2.2.1,x.2.2.2.2.2.1,x.2.2.2.2.2.2.1,x.2.2.2.2.2.2.2.1,x.2.2.2.2.2.2.2.2.1,x.2.2.2.2.2.2.2.2.2.1,x.2.2.2.2.2.2.2.2.2.2.1,x.2.2.2.2.2.2.2.2.2.2.2.1)) (fun x y (z:UInt32×UInt32×UInt32×UInt32×UInt32×UInt32×UInt32×UInt32)=>(((),(),z.1,z.2.1,z.2.2.1,z.2.2.2.1,z.2.2.2.2.1,z.2.2.2.2.2.1,z.2.2.2.2.2.2.1,z.2.2.2.2.2.2.2,()),((((y.1.1.1.1,y.1.1.1.2.1,y.1.1.1.2.2.1,()),y.1.1.2.1,()),()),y.2.2.1,())))
theorem le110x2_5 (F:Nat) (x:dens sA110x2_5) (y:tdens sT110x2_5) (s:UInt32×UInt32×UInt32×UInt32×UInt32×UInt32×UInt32×UInt32×Int):sev (E110x2 F) 1 [] (cAt (bodyOf Tryd.f110) (0 :: 0 :: [1,0,1,1,1,1])) (0 :: 0 :: [1,0,1,1,1,1]) (mkSt [0,4,11,12,13,14,15,16,17,18,19,123] sA110x2_5 sT110x2_5 ((),(),(),s.1,s.2.1,s.2.2.1,s.2.2.2.1,s.2.2.2.2.1,s.2.2.2.2.2.1,s.2.2.2.2.2.2.1,s.2.2.2.2.2.2.2.1,s.2.2.2.2.2.2.2.2,()) ((((y.1.1.1.1,y.1.1.1.2.1,y.1.1.1.2.2.1,()),y.1.1.2.1,()),()),y.2.1,y.2.2.1,())) (kLoop 1 [0,4,11,12,13,14,15,16,17,18,19,123] sA110x2_5 sT110x2_5 [0,11,12,13,14,15,16,17,18,19] sAp1110x2_5 sTp1110x2_5 [] [] [] 2 (fun x y=>some (.inl (x,y))) (fun x y=>some (.inr (.inl (x,y)))) (fun x y=>some (.inr (.inr (x,y))))) =
  L110x2_5c (β:=Full sA110x2_5 sT110x2_5 sAp1110x2_5 sTp1110x2_5 [] []) F y.2.1 s.1 s.2.1 s.2.2.1 s.2.2.2.1 s.2.2.2.2.1 s.2.2.2.2.2.1 s.2.2.2.2.2.2.1 s.2.2.2.2.2.2.2.1 s.2.2.2.2.2.2.2.2 (fun s=>some (.inl (((),(),(),s.1,s.2.1,s.2.2.1,s.2.2.2.1,s.2.2.2.2.1,s.2.2.2.2.2.1,s.2.2.2.2.2.2.1,s.2.2.2.2.2.2.2.1,s.2.2.2.2.2.2.2.2,()),((((y.1.1.1.1,y.1.1.1.2.1,y.1.1.1.2.2.1,()),y.1.1.2.1,()),()),y.2.1,y.2.2.1,())))) (fun z=>some (.inr (.inl (((),(),z.1,z.2.1,z.2.2.1,z.2.2.2.1,z.2.2.2.2.1,z.2.2.2.2.2.1,z.2.2.2.2.2.2.1,z.2.2.2.2.2.2.2,()),((((y.1.1.1.1,y.1.1.1.2.1,y.1.1.1.2.2.1,()),y.1.1.2.1,()),()),y.2.2.1,()))))):=by kernel_rfl
theorem lo110x2_5 (F:Nat):LcOk Tryd.prog (E110x2 F) 1 (lc110x2_5 F) (cAt (bodyOf Tryd.f110) [1,0,1,1,1,1]):=
 mkL_ok (lp:=[]) (id:=2) (b:=cAt (bodyOf Tryd.f110) (0 :: 0 :: [1,0,1,1,1,1])) cok (cts110x2 F) mixed trivial (by kernel_rfl) (by kernel_rfl) (fun x y s=>((),(),(),s.1,s.2.1,s.2.2.1,s.2.2.2.1,s.2.2.2.2.1,s.2.2.2.2.2.1,s.2.2.2.2.2.2.1,s.2.2.2.2.2.2.2.1,s.2.2.2.2.2.2.2.2,())) (fun x y s=>((((y.1.1.1.1,y.1.1.1.2.1,y.1.1.1.2.2.1,()),y.1.1.2.1,()),()),y.2.1,y.2.2.1,())) (fun x y=>rfl) (fun x y=>rfl) (fun x y s kA kO=>L110x2_5c F y.2.1 s.1 s.2.1 s.2.2.1 s.2.2.2.1 s.2.2.2.2.1 s.2.2.2.2.2.1 s.2.2.2.2.2.2.1 s.2.2.2.2.2.2.2.1 s.2.2.2.2.2.2.2.2 kA kO) (fun x y s kA kO=>L110x2_5n F y.2.1 s.1 s.2.1 s.2.2.1 s.2.2.2.1 s.2.2.2.2.1 s.2.2.2.2.2.1 s.2.2.2.2.2.2.1 s.2.2.2.2.2.2.2.1 s.2.2.2.2.2.2.2.2 kA kO) (le110x2_5 F)
def L110x2_6c (F:Nat) (y209:Vector UInt32 8) (y215:Vector UInt32 8) (y210:Int) (y211:Vector UInt32 8) {β:Type} (kA:(Int×(Vector UInt32 8))->Option β) (kO:((Vector UInt32 8))->Option β):Option β:=
 (bif (decide (y210 < (8:Int))) then (Option.bind (vix y209 y210) fun x220=>(Option.bind (inb 8 y210) fun x221=>(Option.bind (vat y215 x221) fun x222=>(Option.bind (inb 8 y210) fun x223=>(kA ((w64 (y210 + (1:Int))),(Vector.setIfInBounds y211 x223 (x222 + x220)))))))) else (kO y211))
def L110x2_6 (F:Nat) (y209:Vector UInt32 8) (y215:Vector UInt32 8) (y210:Int) (y211:Vector UInt32 8):Option ((Int×(Vector UInt32 8)) ⊕ ((Vector UInt32 8))):=L110x2_6c F y209 y215 y210 y211 (fun s=>some (.inl s)) (fun z=>some (.inr z))
theorem L110x2_6n (F:Nat) (y209:Vector UInt32 8) (y215:Vector UInt32 8) (y210:Int) (y211:Vector UInt32 8) {β:Type} (kA:(Int×(Vector UInt32 8))->Option β) (kO:((Vector UInt32 8))->Option β):L110x2_6c F y209 y215 y210 y211 kA kO=(L110x2_6 F y209 y215 y210 y211).bind (elimS kA kO):=by
 simp only [L110x2_6,L110x2_6c,Option.bind_assoc,cond_bind,Option.bind_some,Option.bind_none,elimS_l,elimS_r,elimS_bind]
abbrev sA110x2_6:List Sh:=[(.pt 0 [0,0]),(.pt 1 []),(.ar 8 .u32),.i]
abbrev sAp1110x2_6:List Sh:=[]
abbrev sT110x2_6:List TSh:=[.blk 152 (.pr (.pr (.pr (.ar 8 .u32) (.pr (.ar 64 .u8) (.pr .i .un))) (.pr (.ar 64 .u8) .un)) .un),.blk 143 (.ar 8 .u32)]
abbrev sTp1110x2_6:List TSh:=[.blk 152 (.pr (.pr (.pr (.ar 8 .u32) (.pr (.ar 64 .u8) (.pr .i .un))) (.pr (.ar 64 .u8) .un)) .un)]
def lc110x2_6 (F:Nat):Lc:=mkL [0,11,196,197] sA110x2_6 sT110x2_6 [] sAp1110x2_6 sTp1110x2_6 F (fun x y (s:Int×(Vector UInt32 8))=>L110x2_6 F x.2.2.1 y.2.1 s.1 s.2) (fun x y=>(x.2.2.2.1,y.1.1.1.1)) (fun x y (z:(Vector UInt32 8))=>((),((((z,y.1.1.1.2.1,y.1.1.1.2.2.1,()),y.1.1.2.1,()),()),())))
theorem le110x2_6 (F:Nat) (x:dens sA110x2_6) (y:tdens sT110x2_6) (s:Int×(Vector UInt32 8)):sev (E110x2 F) 1 [] (cAt (bodyOf Tryd.f110) (0 :: 0 :: [1,1,1,1,1,1])) (0 :: 0 :: [1,1,1,1,1,1]) (mkSt [0,11,196,197] sA110x2_6 sT110x2_6 ((),(),x.2.2.1,s.1,()) ((((s.2,y.1.1.1.2.1,y.1.1.1.2.2.1,()),y.1.1.2.1,()),()),y.2.1,())) (kLoop 1 [0,11,196,197] sA110x2_6 sT110x2_6 [] sAp1110x2_6 sTp1110x2_6 [] [] [] 4 (fun x y=>some (.inl (x,y))) (fun x y=>some (.inr (.inl (x,y)))) (fun x y=>some (.inr (.inr (x,y))))) =
  L110x2_6c (β:=Full sA110x2_6 sT110x2_6 sAp1110x2_6 sTp1110x2_6 [] []) F x.2.2.1 y.2.1 s.1 s.2 (fun s=>some (.inl (((),(),x.2.2.1,s.1,()),((((s.2,y.1.1.1.2.1,y.1.1.1.2.2.1,()),y.1.1.2.1,()),()),y.2.1,())))) (fun z=>some (.inr (.inl ((),((((z,y.1.1.1.2.1,y.1.1.1.2.2.1,()),y.1.1.2.1,()),()),()))))):=by kernel_rfl
theorem lo110x2_6 (F:Nat):LcOk Tryd.prog (E110x2 F) 1 (lc110x2_6 F) (cAt (bodyOf Tryd.f110) [1,1,1,1,1,1]):=
 mkL_ok (lp:=[]) (id:=4) (b:=cAt (bodyOf Tryd.f110) (0 :: 0 :: [1,1,1,1,1,1])) cok (cts110x2 F) mixed trivial (by kernel_rfl) (by kernel_rfl) (fun x y s=>((),(),x.2.2.1,s.1,())) (fun x y s=>((((s.2,y.1.1.1.2.1,y.1.1.1.2.2.1,()),y.1.1.2.1,()),()),y.2.1,())) (fun x y=>rfl) (fun x y=>rfl) (fun x y s kA kO=>L110x2_6c F x.2.2.1 y.2.1 s.1 s.2 kA kO) (fun x y s kA kO=>L110x2_6n F x.2.2.1 y.2.1 s.1 s.2 kA kO) (le110x2_6 F)
def T110x2c (F:Nat) (p0:Nat×Nat) (p1:Vector UInt32 8) (p2:Vector UInt8 64) {β:Type} (k:((Vector UInt32 8))->Option β):Option β:=
 (Option.bind (iter (fun s=>L110x2_4 F p2 s.1 s.2.1 s.2.2) F ((p0.1,p0.2),(0:Int),(Vector.replicate 64 (0:UInt32)))) fun z166=>(Option.bind (vat p1 0) fun x167=>(Option.bind (vat p1 1) fun x168=>(Option.bind (vat p1 2) fun x169=>(Option.bind (vat p1 3) fun x170=>(Option.bind (vat p1 4) fun x171=>(Option.bind (vat p1 5) fun x172=>(Option.bind (vat p1 6) fun x173=>(Option.bind (vat p1 7) fun x174=>(Option.bind (iter (fun s=>L110x2_5 F z166 s.1 s.2.1 s.2.2.1 s.2.2.2.1 s.2.2.2.2.1 s.2.2.2.2.2.1 s.2.2.2.2.2.2.1 s.2.2.2.2.2.2.2.1 s.2.2.2.2.2.2.2.2) F (x167,x168,x169,x170,x171,x172,x173,x174,(0:Int))) fun z208=>(Option.bind (iter (fun s=>L110x2_6 F (#v[z208.1,z208.2.1,z208.2.2.1,z208.2.2.2.1,z208.2.2.2.2.1,z208.2.2.2.2.2.1,z208.2.2.2.2.2.2.1,z208.2.2.2.2.2.2.2]:Vector UInt32 8) p1 s.1 s.2) F ((0:Int),p1)) fun z224=>(k z224))))))))))))
def T110x2 (F:Nat) (p0:Nat×Nat) (p1:Vector UInt32 8) (p2:Vector UInt8 64):Option ((Vector UInt32 8)):=T110x2c F p0 p1 p2 some
theorem T110x2n (F:Nat) (p0:Nat×Nat) (p1:Vector UInt32 8) (p2:Vector UInt8 64) {β:Type} (k:((Vector UInt32 8))->Option β):T110x2c F p0 p1 p2 k=(T110x2 F p0 p1 p2).bind k:=by
 simp only [T110x2,T110x2c,Option.bind_assoc,cond_bind,Option.bind_some,Option.bind_none,elimS_bind]
abbrev cA110x2:List Sh:=[(.pt 0 [0,0]),(.ap 0 [0,0,1])]
abbrev cB110x2:List Sh:=[]
abbrev cT110x2:List TSh:=[.blk 152 (.pr (.pr (.pr (.ar 8 .u32) (.pr (.ar 64 .u8) (.pr .i .un))) (.pr (.ar 64 .u8) .un)) .un)]
abbrev cU110x2:List TSh:=[.blk 152 (.pr (.pr (.pr (.ar 8 .u32) (.pr (.ar 64 .u8) (.pr .i .un))) (.pr (.ar 64 .u8) .un)) .un)]
def ct110x2 (F:Nat):Ct:=mkC 1 cA110x2 cT110x2 cB110x2 cU110x2 (fun x y=>T110x2 F x.2.1 y.1.1.1.1 y.1.1.1.2.1) (fun x y (z:(Vector UInt32 8))=>((),((((z,y.1.1.1.2.1,y.1.1.1.2.2.1,()),y.1.1.2.1,()),()),())))
theorem eq110x2 (F:Nat) (x:dens cA110x2) (y:tdens cT110x2):sev (E110x2 F) 1 [([1,0,1],lc110x2_4 F),([1,0,1,1,1,1],lc110x2_5 F),([1,1,1,1,1,1],lc110x2_6 F)] (bodyOf Tryd.f110) [] (mkSt (rng 2) cA110x2 cT110x2 x y) (kFn (E110x2 F) 1 Tryd.f110.results.toList cB110x2 cU110x2 fun p q=>some (p,q)) =
  T110x2c F x.2.1 y.1.1.1.1 y.1.1.1.2.1 (fun z=>some ((),((((z,y.1.1.1.2.1,y.1.1.1.2.2.1,()),y.1.1.2.1,()),()),()))):=by kernel_rfl
theorem ok110x2 (F:Nat):Sound Tryd.prog cfg 110 (ct110x2 F):=
 mkC_ok (E:=E110x2 F) (lp:=[([1,0,1],lc110x2_4 F),([1,0,1,1,1,1],lc110x2_5 F),([1,1,1,1,1,1],lc110x2_6 F)]) (code:=bodyOf Tryd.f110) Tryd.func110 rfl Tryd.ntmps110 rfl rfl cok (cts110x2 F) mixed ⟨lo110x2_4 F,⟨lo110x2_5 F,⟨lo110x2_6 F,trivial⟩⟩⟩ (by kernel_rfl) (fun x y k=>T110x2c F x.2.1 y.1.1.1.1 y.1.1.1.2.1 k) (fun x y k=>T110x2n F x.2.1 y.1.1.1.1 y.1.1.1.2.1 k) (eq110x2 F)
def ord110x3:Nat->List (Tag×Nat)
 | 6=>[(.p,0),(.p,1),(.p,2),(.r,3),(.p,4),(.p,5),(.p,6),(.p,7),(.r,8),(.p,9),(.p,10),(.p,11),(.p,12),(.p,13),(.r,14),(.p,15),(.p,16),(.p,17),(.p,18),(.p,19),(.r,20),(.p,21),(.p,22),(.p,23),(.w,24)]
 | 7=>[(.p,0),(.p,1),(.p,2),(.r,3),(.p,4),(.p,5),(.p,6),(.r,7),(.p,8),(.p,9)]
 | 10=>[(.p,0),(.p,1),(.p,2),(.p,3),(.p,4),(.r,5),(.p,6),(.p,7),(.p,8),(.p,9),(.p,10),(.p,11),(.r,12),(.p,13),(.p,14),(.w,15)]
 | 13=>[(.p,0),(.r,1),(.p,2),(.r,3),(.p,4),(.r,5),(.p,6),(.r,7),(.p,8),(.r,9),(.p,10),(.r,11),(.p,12),(.r,13),(.p,14),(.r,15),(.p,16),(.p,17),(.p,18),(.p,19),(.p,20),(.p,21),(.p,22),(.p,23)]
 | 19=>[(.p,0),(.p,1),(.p,2),(.p,3),(.p,4),(.p,5),(.p,6),(.p,7),(.p,8),(.p,9),(.p,10),(.p,11),(.p,12),(.p,13),(.r,14),(.p,15),(.p,16),(.p,17),(.r,18),(.p,19),(.p,20)]
 | 26=>[(.p,0),(.p,1),(.p,2),(.p,3),(.r,4),(.p,5),(.p,6),(.p,7),(.p,8),(.p,9),(.w,10)]
 | _=>[]
def al110x3:Nat->Option Nat
 | _=>none
def ms110x3:Nat->Option (List (Option Tag×Nat×List Nat))
 | _=>none
def E110x3 (F:Nat):Ev:=⟨cfg,212,ctOf [(117,ct117 F)],ord110x3,ctOf [],al110x3,ms110x3⟩
theorem cts110x3 (F:Nat):CtsOk Tryd.prog (E110x3 F):=cts_of (l:=[(117,ct117 F)]) (l':=[]) rfl rfl ⟨⟨ok117 F,_,Tryd.func117,rfl,rfl⟩,trivial⟩ trivial
def L110x3_4c (F:Nat) (y105:List UInt8) (y106:Int) (y111:Vector UInt32 64) {β:Type} (kA:(Int×(Vector UInt32 64))->Option β) (kO:((Vector UInt32 64))->Option β):Option β:=
 (bif (decide (y106 < (64:Int))) then (bif (decide (y106 < (16:Int))) then (Option.bind (gsl y105 (w64 ((4:Int) * y106)) (w64 ((w64 ((4:Int) * y106)) + (4:Int)))) fun x131=>(Option.bind (ix x131 (0:Int)) fun x132=>(Option.bind (ix x131 (1:Int)) fun x133=>(Option.bind (ix x131 (2:Int)) fun x134=>(Option.bind (ix x131 (3:Int)) fun x135=>(Option.bind (inb 64 y106) fun x136=>(kA ((w64 (y106 + (1:Int))),(Vector.setIfInBounds y111 x136 ((((shl32 (x132.toUInt32) ((UInt64.ofNat 24).toNat)) ||| (shl32 (x133.toUInt32) ((UInt64.ofNat 16).toNat))) ||| (shl32 (x134.toUInt32) ((UInt64.ofNat 8).toNat))) ||| (x135.toUInt32))))))))))) else (Option.bind (inb 64 (w64 (y106 - (2:Int)))) fun x137=>(Option.bind (vat y111 x137) fun x138=>(Option.bind (inb 64 (w64 (y106 - (15:Int)))) fun x139=>(Option.bind (vat y111 x139) fun x140=>(Option.bind (T117 F x138 (-17:Int)) fun z141=>(Option.bind (T117 F x138 (-19:Int)) fun z142=>(Option.bind (T117 F x140 (-7:Int)) fun z143=>(Option.bind (T117 F x140 (-18:Int)) fun z144=>(Option.bind (inb 64 (w64 (y106 - (7:Int)))) fun x145=>(Option.bind (vat y111 x145) fun x146=>(Option.bind (inb 64 (w64 (y106 - (16:Int)))) fun x147=>(Option.bind (vat y111 x147) fun x148=>(Option.bind (inb 64 y106) fun x149=>(kA ((w64 (y106 + (1:Int))),(Vector.setIfInBounds y111 x149 (((((z141 ^^^ z142) ^^^ (shr32 x138 ((UInt64.ofNat 10).toNat))) + x146) + ((z143 ^^^ z144) ^^^ (shr32 x140 ((UInt64.ofNat 3).toNat)))) + x148)))))))))))))))))) else (kO y111))
def L110x3_4 (F:Nat) (y105:List UInt8) (y106:Int) (y111:Vector UInt32 64):Option ((Int×(Vector UInt32 64)) ⊕ ((Vector UInt32 64))):=L110x3_4c F y105 y106 y111 (fun s=>some (.inl s)) (fun z=>some (.inr z))
theorem L110x3_4n (F:Nat) (y105:List UInt8) (y106:Int) (y111:Vector UInt32 64) {β:Type} (kA:(Int×(Vector UInt32 64))->Option β) (kO:((Vector UInt32 64))->Option β):L110x3_4c F y105 y106 y111 kA kO=(L110x3_4 F y105 y106 y111).bind (elimS kA kO):=by
 simp only [L110x3_4,L110x3_4c,Option.bind_assoc,cond_bind,Option.bind_some,Option.bind_none,elimS_l,elimS_r,elimS_bind]
abbrev sA110x3_4:List Sh:=[(.pt 0 [0,0]),(.ro .u8),(.pt 1 []),.i]
abbrev sAp1110x3_4:List Sh:=[(.pt 0 [0,0]),(.pt 1 [])]
abbrev sT110x3_4:List TSh:=[.blk 152 (.pr (.pr (.pr (.ar 8 .u32) (.pr (.ar 64 .u8) (.pr .i .un))) (.pr (.ar 64 .u8) .un)) .un),.blk 163 (.ar 64 .u32)]
abbrev sTp1110x3_4:List TSh:=[.blk 152 (.pr (.pr (.pr (.ar 8 .u32) (.pr (.ar 64 .u8) (.pr .i .un))) (.pr (.ar 64 .u8) .un)) .un),.blk 163 (.ar 64 .u32)]
def lc110x3_4 (F:Nat):Lc:=mkL [0,1,4,27] sA110x3_4 sT110x3_4 [0,4] sAp1110x3_4 sTp1110x3_4 F (fun x y (s:Int×(Vector UInt32 64))=>L110x3_4 F x.2.1 s.1 s.2) (fun x y=>(x.2.2.2.1,y.2.1)) (fun x y (z:(Vector UInt32 64))=>(((),(),()),((((y.1.1.1.1,y.1.1.1.2.1,y.1.1.1.2.2.1,()),y.1.1.2.1,()),()),z,())))
theorem le110x3_4 (F:Nat) (x:dens sA110x3_4) (y:tdens sT110x3_4) (s:Int×(Vector UInt32 64)):sev (E110x3 F) 1 [] (cAt (bodyOf Tryd.f110) (0 :: 0 :: [1,0,1])) (0 :: 0 :: [1,0,1]) (mkSt [0,1,4,27] sA110x3_4 sT110x3_4 ((),x.2.1,(),s.1,()) ((((y.1.1.1.1,y.1.1.1.2.1,y.1.1.1.2.2.1,()),y.1.1.2.1,()),()),s.2,())) (kLoop 1 [0,1,4,27] sA110x3_4 sT110x3_4 [0,4] sAp1110x3_4 sTp1110x3_4 [] [] [] 0 (fun x y=>some (.inl (x,y))) (fun x y=>some (.inr (.inl (x,y)))) (fun x y=>some (.inr (.inr (x,y))))) =
  L110x3_4c (β:=Full sA110x3_4 sT110x3_4 sAp1110x3_4 sTp1110x3_4 [] []) F x.2.1 s.1 s.2 (fun s=>some (.inl (((),x.2.1,(),s.1,()),((((y.1.1.1.1,y.1.1.1.2.1,y.1.1.1.2.2.1,()),y.1.1.2.1,()),()),s.2,())))) (fun z=>some (.inr (.inl (((),(),()),((((y.1.1.1.1,y.1.1.1.2.1,y.1.1.1.2.2.1,()),y.1.1.2.1,()),()),z,()))))):=by kernel_rfl
theorem lo110x3_4 (F:Nat):LcOk Tryd.prog (E110x3 F) 1 (lc110x3_4 F) (cAt (bodyOf Tryd.f110) [1,0,1]):=
 mkL_ok (lp:=[]) (id:=0) (b:=cAt (bodyOf Tryd.f110) (0 :: 0 :: [1,0,1])) cok (cts110x3 F) mixed trivial (by kernel_rfl) (by kernel_rfl) (fun x y s=>((),x.2.1,(),s.1,())) (fun x y s=>((((y.1.1.1.1,y.1.1.1.2.1,y.1.1.1.2.2.1,()),y.1.1.2.1,()),()),s.2,())) (fun x y=>rfl) (fun x y=>rfl) (fun x y s kA kO=>L110x3_4c F x.2.1 s.1 s.2 kA kO) (fun x y s kA kO=>L110x3_4n F x.2.1 s.1 s.2 kA kO) (le110x3_4 F)
def L110x3_5c (F:Nat) (y172:Vector UInt32 64) (y159:UInt32) (y160:UInt32) (y161:UInt32) (y162:UInt32) (y163:UInt32) (y164:UInt32) (y165:UInt32) (y166:UInt32) (y167:Int) {β:Type} (kA:(UInt32×UInt32×UInt32×UInt32×UInt32×UInt32×UInt32×UInt32×Int)->Option β) (kO:(UInt32×UInt32×UInt32×UInt32×UInt32×UInt32×UInt32×UInt32)->Option β):Option β:=
 (bif (decide (y167 < (64:Int))) then (Option.bind (T117 F y163 (-6:Int)) fun z183=>(Option.bind (T117 F y163 (-11:Int)) fun z184=>(Option.bind (T117 F y163 (-25:Int)) fun z185=>(Option.bind (T117 F y159 (-2:Int)) fun z186=>(Option.bind (T117 F y159 (-13:Int)) fun z187=>(Option.bind (T117 F y159 (-22:Int)) fun z188=>(Option.bind (vix (gv2) y167) fun x189=>(Option.bind (inb 64 y167) fun x190=>(Option.bind (vat y172 x190) fun x191=>(kA ((((((y166 + ((z183 ^^^ z184) ^^^ z185)) + ((y163 &&& y164) ^^^ ((~~~y163) &&& y165))) + x189) + x191) + (((z186 ^^^ z187) ^^^ z188) + (((y159 &&& y160) ^^^ (y159 &&& y161)) ^^^ (y160 &&& y161)))),y159,y160,y161,(y162 + ((((y166 + ((z183 ^^^ z184) ^^^ z185)) + ((y163 &&& y164) ^^^ ((~~~y163) &&& y165))) + x189) + x191)),y163,y164,y165,(w64 (y167 + (1:Int)))))))))))))) else (kO (y159,y160,y161,y162,y163,y164,y165,y166)))
def L110x3_5 (F:Nat) (y172:Vector UInt32 64) (y159:UInt32) (y160:UInt32) (y161:UInt32) (y162:UInt32) (y163:UInt32) (y164:UInt32) (y165:UInt32) (y166:UInt32) (y167:Int):Option ((UInt32×UInt32×UInt32×UInt32×UInt32×UInt32×UInt32×UInt32×Int) ⊕ (UInt32×UInt32×UInt32×UInt32×UInt32×UInt32×UInt32×UInt32)):=L110x3_5c F y172 y159 y160 y161 y162 y163 y164 y165 y166 y167 (fun s=>some (.inl s)) (fun z=>some (.inr z))
theorem L110x3_5n (F:Nat) (y172:Vector UInt32 64) (y159:UInt32) (y160:UInt32) (y161:UInt32) (y162:UInt32) (y163:UInt32) (y164:UInt32) (y165:UInt32) (y166:UInt32) (y167:Int) {β:Type} (kA:(UInt32×UInt32×UInt32×UInt32×UInt32×UInt32×UInt32×UInt32×Int)->Option β) (kO:(UInt32×UInt32×UInt32×UInt32×UInt32×UInt32×UInt32×UInt32)->Option β):L110x3_5c F y172 y159 y160 y161 y162 y163 y164 y165 y166 y167 kA kO=(L110x3_5 F y172 y159 y160 y161 y162 y163 y164 y165 y166 y167).bind (elimS kA kO):=by
 simp only [L110x3_5,L110x3_5c,Option.bind_assoc,cond_bind,Option.bind_some,Option.bind_none,elimS_l,elimS_r,elimS_bind]
abbrev sA110x3_5:List Sh:=[(.pt 0 [0,0]),(.pt 1 []),(.pt 2 []),.u32,.u32,.u32,.u32,.u32,.u32,.u32,.u32,.i]
abbrev sAp1110x3_5:List Sh:=[(.pt 0 [0,0]),(.pt 1 []),.u32,.u32,.u32,.u32,.u32,.u32,.u32,.u32]
abbrev sT110x3_5:List TSh:=[.blk 152 (.pr (.pr (.pr (.ar 8 .u32) (.pr (.ar 64 .u8) (.pr .i .un))) (.pr (.ar 64 .u8) .un)) .un),.blk 163 (.ar 64 .u32),.blk 143 (.ar 8 .u32)]
abbrev sTp1110x3_5:List TSh:=[.blk 152 (.pr (.pr (.pr (.ar 8 .u32) (.pr (.ar 64 .u8) (.pr .i .un))) (.pr (.ar 64 .u8) .un)) .un),.blk 143 (.ar 8 .u32)]
def lc110x3_5 (F:Nat):Lc:=mkL [0,4,11,12,13,14,15,16,17,18,19,123] sA110x3_5 sT110x3_5 [0,11,12,13,14,15,16,17,18,19] sAp1110x3_5 sTp1110x3_5 F (fun x y (s:UInt32×UInt32×UInt32×UInt32×UInt32×UInt32×UInt32×UInt32×Int)=>L110x3_5 F y.2.1 s.1 s.2.1 s.2.2.1 s.2.2.2.1 s.2.2.2.2.1 s.2.2.2.2.2.1 s.2.2.2.2.2.2.1 s.2.2.2.2.2.2.2.1 s.2.2.2.2.2.2.2.2) (fun x y=>(x.2.2.2.1,x.2.2.2.2.1,x.2.2.2.2.2.1,x.2.2.2.2.2.2.1,x.2.2.2.2.2.2.2.1,x.2.2.2.2.2.2.2.2.1,x.2.2.2.2.2.2.2.2.2.1,x.2.2.2.2.2.2.2.2.2.2.1,x.2.2.2.2.2.2.2.2.2.2.2.1)) (fun x y (z:UInt32×UInt32×UInt32×UInt32×UInt32×UInt32×UInt32×UInt32)=>(((),(),z.1,z.2.1,z.2.2.1,z.2.2.2.1,z.2.2.2.2.1,z.2.2.2.2.2.1,z.2.2.2.2.2.2.1,z.2.2.2.2.2.2.2,()),((((y.1.1.1.1,y.1.1.1.2.1,y.1.1.1.2.2.1,()),y.1.1.2.1,()),()),y.2.2.1,())))
theorem le110x3_5 (F:Nat) (x:dens sA110x3_5) (y:tdens sT110x3_5) (s:UInt32×UInt32×UInt32×UInt32×UInt32×UInt32×UInt32×UInt32×Int):sev (E110x3 F) 1 [] (cAt (bodyOf Tryd.f110) (0 :: 0 :: [1,0,1,1,1,1])) (0 :: 0 :: [1,0,1,1,1,1]) (mkSt [0,4,11,12,13,14,15,16,17,18,19,123] sA110x3_5 sT110x3_5 ((),(),(),s.1,s.2.1,s.2.2.1,s.2.2.2.1,s.2.2.2.2.1,s.2.2.2.2.2.1,s.2.2.2.2.2.2.1,s.2.2.2.2.2.2.2.1,s.2.2.2.2.2.2.2.2,()) ((((y.1.1.1.1,y.1.1.1.2.1,y.1.1.1.2.2.1,()),y.1.1.2.1,()),()),y.2.1,y.2.2.1,())) (kLoop 1 [0,4,11,12,13,14,15,16,17,18,19,123] sA110x3_5 sT110x3_5 [0,11,12,13,14,15,16,17,18,19] sAp1110x3_5 sTp1110x3_5 [] [] [] 2 (fun x y=>some (.inl (x,y))) (fun x y=>some (.inr (.inl (x,y)))) (fun x y=>some (.inr (.inr (x,y))))) =
  L110x3_5c (β:=Full sA110x3_5 sT110x3_5 sAp1110x3_5 sTp1110x3_5 [] []) F y.2.1 s.1 s.2.1 s.2.2.1 s.2.2.2.1 s.2.2.2.2.1 s.2.2.2.2.2.1 s.2.2.2.2.2.2.1 s.2.2.2.2.2.2.2.1 s.2.2.2.2.2.2.2.2 (fun s=>some (.inl (((),(),(),s.1,s.2.1,s.2.2.1,s.2.2.2.1,s.2.2.2.2.1,s.2.2.2.2.2.1,s.2.2.2.2.2.2.1,s.2.2.2.2.2.2.2.1,s.2.2.2.2.2.2.2.2,()),((((y.1.1.1.1,y.1.1.1.2.1,y.1.1.1.2.2.1,()),y.1.1.2.1,()),()),y.2.1,y.2.2.1,())))) (fun z=>some (.inr (.inl (((),(),z.1,z.2.1,z.2.2.1,z.2.2.2.1,z.2.2.2.2.1,z.2.2.2.2.2.1,z.2.2.2.2.2.2.1,z.2.2.2.2.2.2.2,()),((((y.1.1.1.1,y.1.1.1.2.1,y.1.1.1.2.2.1,()),y.1.1.2.1,()),()),y.2.2.1,()))))):=by kernel_rfl
theorem lo110x3_5 (F:Nat):LcOk Tryd.prog (E110x3 F) 1 (lc110x3_5 F) (cAt (bodyOf Tryd.f110) [1,0,1,1,1,1]):=
 mkL_ok (lp:=[]) (id:=2) (b:=cAt (bodyOf Tryd.f110) (0 :: 0 :: [1,0,1,1,1,1])) cok (cts110x3 F) mixed trivial (by kernel_rfl) (by kernel_rfl) (fun x y s=>((),(),(),s.1,s.2.1,s.2.2.1,s.2.2.2.1,s.2.2.2.2.1,s.2.2.2.2.2.1,s.2.2.2.2.2.2.1,s.2.2.2.2.2.2.2.1,s.2.2.2.2.2.2.2.2,())) (fun x y s=>((((y.1.1.1.1,y.1.1.1.2.1,y.1.1.1.2.2.1,()),y.1.1.2.1,()),()),y.2.1,y.2.2.1,())) (fun x y=>rfl) (fun x y=>rfl) (fun x y s kA kO=>L110x3_5c F y.2.1 s.1 s.2.1 s.2.2.1 s.2.2.2.1 s.2.2.2.2.1 s.2.2.2.2.2.1 s.2.2.2.2.2.2.1 s.2.2.2.2.2.2.2.1 s.2.2.2.2.2.2.2.2 kA kO) (fun x y s kA kO=>L110x3_5n F y.2.1 s.1 s.2.1 s.2.2.1 s.2.2.2.1 s.2.2.2.2.1 s.2.2.2.2.2.1 s.2.2.2.2.2.2.1 s.2.2.2.2.2.2.2.1 s.2.2.2.2.2.2.2.2 kA kO) (le110x3_5 F)
def L110x3_6c (F:Nat) (y193:Vector UInt32 8) (y199:Vector UInt32 8) (y194:Int) (y195:Vector UInt32 8) {β:Type} (kA:(Int×(Vector UInt32 8))->Option β) (kO:((Vector UInt32 8))->Option β):Option β:=
 (bif (decide (y194 < (8:Int))) then (Option.bind (vix y193 y194) fun x204=>(Option.bind (inb 8 y194) fun x205=>(Option.bind (vat y199 x205) fun x206=>(Option.bind (inb 8 y194) fun x207=>(kA ((w64 (y194 + (1:Int))),(Vector.setIfInBounds y195 x207 (x206 + x204)))))))) else (kO y195))
def L110x3_6 (F:Nat) (y193:Vector UInt32 8) (y199:Vector UInt32 8) (y194:Int) (y195:Vector UInt32 8):Option ((Int×(Vector UInt32 8)) ⊕ ((Vector UInt32 8))):=L110x3_6c F y193 y199 y194 y195 (fun s=>some (.inl s)) (fun z=>some (.inr z))
theorem L110x3_6n (F:Nat) (y193:Vector UInt32 8) (y199:Vector UInt32 8) (y194:Int) (y195:Vector UInt32 8) {β:Type} (kA:(Int×(Vector UInt32 8))->Option β) (kO:((Vector UInt32 8))->Option β):L110x3_6c F y193 y199 y194 y195 kA kO=(L110x3_6 F y193 y199 y194 y195).bind (elimS kA kO):=by
 simp only [L110x3_6,L110x3_6c,Option.bind_assoc,cond_bind,Option.bind_some,Option.bind_none,elimS_l,elimS_r,elimS_bind]
abbrev sA110x3_6:List Sh:=[(.pt 0 [0,0]),(.pt 1 []),(.ar 8 .u32),.i]
abbrev sAp1110x3_6:List Sh:=[]
abbrev sT110x3_6:List TSh:=[.blk 152 (.pr (.pr (.pr (.ar 8 .u32) (.pr (.ar 64 .u8) (.pr .i .un))) (.pr (.ar 64 .u8) .un)) .un),.blk 143 (.ar 8 .u32)]
abbrev sTp1110x3_6:List TSh:=[.blk 152 (.pr (.pr (.pr (.ar 8 .u32) (.pr (.ar 64 .u8) (.pr .i .un))) (.pr (.ar 64 .u8) .un)) .un)]
def lc110x3_6 (F:Nat):Lc:=mkL [0,11,196,197] sA110x3_6 sT110x3_6 [] sAp1110x3_6 sTp1110x3_6 F (fun x y (s:Int×(Vector UInt32 8))=>L110x3_6 F x.2.2.1 y.2.1 s.1 s.2) (fun x y=>(x.2.2.2.1,y.1.1.1.1)) (fun x y (z:(Vector UInt32 8))=>((),((((z,y.1.1.1.2.1,y.1.1.1.2.2.1,()),y.1.1.2.1,()),()),())))
theorem le110x3_6 (F:Nat) (x:dens sA110x3_6) (y:tdens sT110x3_6) (s:Int×(Vector UInt32 8)):sev (E110x3 F) 1 [] (cAt (bodyOf Tryd.f110) (0 :: 0 :: [1,1,1,1,1,1])) (0 :: 0 :: [1,1,1,1,1,1]) (mkSt [0,11,196,197] sA110x3_6 sT110x3_6 ((),(),x.2.2.1,s.1,()) ((((s.2,y.1.1.1.2.1,y.1.1.1.2.2.1,()),y.1.1.2.1,()),()),y.2.1,())) (kLoop 1 [0,11,196,197] sA110x3_6 sT110x3_6 [] sAp1110x3_6 sTp1110x3_6 [] [] [] 4 (fun x y=>some (.inl (x,y))) (fun x y=>some (.inr (.inl (x,y)))) (fun x y=>some (.inr (.inr (x,y))))) =
  L110x3_6c (β:=Full sA110x3_6 sT110x3_6 sAp1110x3_6 sTp1110x3_6 [] []) F x.2.2.1 y.2.1 s.1 s.2 (fun s=>some (.inl (((),(),x.2.2.1,s.1,()),((((s.2,y.1.1.1.2.1,y.1.1.1.2.2.1,()),y.1.1.2.1,()),()),y.2.1,())))) (fun z=>some (.inr (.inl ((),((((z,y.1.1.1.2.1,y.1.1.1.2.2.1,()),y.1.1.2.1,()),()),()))))):=by kernel_rfl
theorem lo110x3_6 (F:Nat):LcOk Tryd.prog (E110x3 F) 1 (lc110x3_6 F) (cAt (bodyOf Tryd.f110) [1,1,1,1,1,1]):=
 mkL_ok (lp:=[]) (id:=4) (b:=cAt (bodyOf Tryd.f110) (0 :: 0 :: [1,1,1,1,1,1])) cok (cts110x3 F) mixed trivial (by kernel_rfl) (by kernel_rfl) (fun x y s=>((),(),x.2.2.1,s.1,())) (fun x y s=>((((s.2,y.1.1.1.2.1,y.1.1.1.2.2.1,()),y.1.1.2.1,()),()),y.2.1,())) (fun x y=>rfl) (fun x y=>rfl) (fun x y s kA kO=>L110x3_6c F x.2.2.1 y.2.1 s.1 s.2 kA kO) (fun x y s kA kO=>L110x3_6n F x.2.2.1 y.2.1 s.1 s.2 kA kO) (le110x3_6 F)
def T110x3c (F:Nat) (p0:List UInt8) (p1:Vector UInt32 8) {β:Type} (k:((Vector UInt32 8))->Option β):Option β:=
 (Option.bind (iter (fun s=>L110x3_4 F p0 s.1 s.2) F ((0:Int),(Vector.replicate 64 (0:UInt32)))) fun z150=>(Option.bind (vat p1 0) fun x151=>(Option.bind (vat p1 1) fun x152=>(Option.bind (vat p1 2) fun x153=>(Option.bind (vat p1 3) fun x154=>(Option.bind (vat p1 4) fun x155=>(Option.bind (vat p1 5) fun x156=>(Option.bind (vat p1 6) fun x157=>(Option.bind (vat p1 7) fun x158=>(Option.bind (iter (fun s=>L110x3_5 F z150 s.1 s.2.1 s.2.2.1 s.2.2.2.1 s.2.2.2.2.1 s.2.2.2.2.2.1 s.2.2.2.2.2.2.1 s.2.2.2.2.2.2.2.1 s.2.2.2.2.2.2.2.2) F (x151,x152,x153,x154,x155,x156,x157,x158,(0:Int))) fun z192=>(Option.bind (iter (fun s=>L110x3_6 F (#v[z192.1,z192.2.1,z192.2.2.1,z192.2.2.2.1,z192.2.2.2.2.1,z192.2.2.2.2.2.1,z192.2.2.2.2.2.2.1,z192.2.2.2.2.2.2.2]:Vector UInt32 8) p1 s.1 s.2) F ((0:Int),p1)) fun z208=>(k z208))))))))))))
def T110x3 (F:Nat) (p0:List UInt8) (p1:Vector UInt32 8):Option ((Vector UInt32 8)):=T110x3c F p0 p1 some
theorem T110x3n (F:Nat) (p0:List UInt8) (p1:Vector UInt32 8) {β:Type} (k:((Vector UInt32 8))->Option β):T110x3c F p0 p1 k=(T110x3 F p0 p1).bind k:=by
 simp only [T110x3,T110x3c,Option.bind_assoc,cond_bind,Option.bind_some,Option.bind_none,elimS_bind]
abbrev cA110x3:List Sh:=[(.pt 0 [0,0]),(.ro .u8)]
abbrev cB110x3:List Sh:=[]
abbrev cT110x3:List TSh:=[.blk 152 (.pr (.pr (.pr (.ar 8 .u32) (.pr (.ar 64 .u8) (.pr .i .un))) (.pr (.ar 64 .u8) .un)) .un)]
abbrev cU110x3:List TSh:=[.blk 152 (.pr (.pr (.pr (.ar 8 .u32) (.pr (.ar 64 .u8) (.pr .i .un))) (.pr (.ar 64 .u8) .un)) .un)]
def ct110x3 (F:Nat):Ct:=mkC 1 cA110x3 cT110x3 cB110x3 cU110x3 (fun x y=>T110x3 F x.2.1 y.1.1.1.1) (fun x y (z:(Vector UInt32 8))=>((),((((z,y.1.1.1.2.1,y.1.1.1.2.2.1,()),y.1.1.2.1,()),()),())))
theorem eq110x3 (F:Nat) (x:dens cA110x3) (y:tdens cT110x3):sev (E110x3 F) 1 [([1,0,1],lc110x3_4 F),([1,0,1,1,1,1],lc110x3_5 F),([1,1,1,1,1,1],lc110x3_6 F)] (bodyOf Tryd.f110) [] (mkSt (rng 2) cA110x3 cT110x3 x y) (kFn (E110x3 F) 1 Tryd.f110.results.toList cB110x3 cU110x3 fun p q=>some (p,q)) =
  T110x3c F x.2.1 y.1.1.1.1 (fun z=>some ((),((((z,y.1.1.1.2.1,y.1.1.1.2.2.1,()),y.1.1.2.1,()),()),()))):=by kernel_rfl
theorem ok110x3 (F:Nat):Sound Tryd.prog cfg 110 (ct110x3 F):=
 mkC_ok (E:=E110x3 F) (lp:=[([1,0,1],lc110x3_4 F),([1,0,1,1,1,1],lc110x3_5 F),([1,1,1,1,1,1],lc110x3_6 F)]) (code:=bodyOf Tryd.f110) Tryd.func110 rfl Tryd.ntmps110 rfl rfl cok (cts110x3 F) mixed ⟨lo110x3_4 F,⟨lo110x3_5 F,⟨lo110x3_6 F,trivial⟩⟩⟩ (by kernel_rfl) (fun x y k=>T110x3c F x.2.1 y.1.1.1.1 k) (fun x y k=>T110x3n F x.2.1 y.1.1.1.1 k) (eq110x3 F)
def ord99x1:Nat->List (Tag×Nat)
 | _=>[]
def al99x1:Nat->Option Nat
 | _=>none
def ms99x1:Nat->Option (List (Option Tag×Nat×List Nat))
 | _=>none
def E99x1 (F:Nat):Ev:=⟨cfg,57,ctOf [(110,ct110x2 F),(110,ct110x3 F)],ord99x1,ctOf [],al99x1,ms99x1⟩
theorem cts99x1 (F:Nat):CtsOk Tryd.prog (E99x1 F):=cts_of (l:=[(110,ct110x2 F),(110,ct110x3 F)]) (l':=[]) rfl rfl ⟨⟨ok110x2 F,_,Tryd.func110,rfl,rfl⟩,⟨⟨ok110x3 F,_,Tryd.func110,rfl,rfl⟩,trivial⟩⟩ trivial
def L99x1_3c (F:Nat) (y30:List UInt8) (y31:Int) (y32:Bool) (y33:Vector UInt32 8) (y34:Vector UInt8 64) {β:Type} (kO:((List UInt8)×(Vector UInt32 8)×(Vector UInt8 64))->Option β) (kR:((Vector UInt8 64))->Option β):Option β:=
 (bif y32 then (Option.bind (gslb 64 y31 ((64:Nat):Int)) fun x41=>(Option.bind (gsl y30 ((Nat.min y30.length (x41.2 - x41.1)):Int) (y30.length:Int)) fun x42=>(bif (decide ((w64 (y31 + ((Nat.min y30.length (x41.2 - x41.1)):Int))) < (64:Int))) then (kR (vspl y34 x41.1 y30 (Nat.min y30.length (x41.2 - x41.1)))) else (Option.bind (gslb 64 (0:Int) ((64:Nat):Int)) fun x43=>(Option.bind (T110x2 F (x43.1,x43.2) y33 (vspl y34 x41.1 y30 (Nat.min y30.length (x41.2 - x41.1)))) fun z44=>(kO (x42,z44,(vspl y34 x41.1 y30 (Nat.min y30.length (x41.2 - x41.1)))))))))) else (kO (y30,y33,y34)))
def L99x1_3 (F:Nat) (y30:List UInt8) (y31:Int) (y32:Bool) (y33:Vector UInt32 8) (y34:Vector UInt8 64):Option (((List UInt8)×(Vector UInt32 8)×(Vector UInt8 64)) ⊕ ((Vector UInt8 64))):=L99x1_3c F y30 y31 y32 y33 y34 (fun z=>some (.inl z)) (fun z=>some (.inr z))
theorem L99x1_3n (F:Nat) (y30:List UInt8) (y31:Int) (y32:Bool) (y33:Vector UInt32 8) (y34:Vector UInt8 64) {β:Type} (kO:((List UInt8)×(Vector UInt32 8)×(Vector UInt8 64))->Option β) (kR:((Vector UInt8 64))->Option β):L99x1_3c F y30 y31 y32 y33 y34 kO kR=(L99x1_3 F y30 y31 y32 y33 y34).bind (elimS kO kR):=by
 simp only [L99x1_3,L99x1_3c,Option.bind_assoc,cond_bind,Option.bind_some,Option.bind_none,elimS_l,elimS_r,elimS_bind]
abbrev sA99x1_3:List Sh:=[(.pt 0 [0,0]),(.ro .u8),.i,.bo]
abbrev sAp199x1_3:List Sh:=[(.pt 0 [0,0]),(.ro .u8)]
abbrev sAp299x1_3:List Sh:=[]
abbrev sT99x1_3:List TSh:=[.blk 152 (.pr (.pr (.pr (.ar 8 .u32) (.pr (.ar 64 .u8) (.pr .i .un))) (.pr (.ar 64 .u8) .un)) .un)]
abbrev sTp199x1_3:List TSh:=[.blk 152 (.pr (.pr (.pr (.ar 8 .u32) (.pr (.ar 64 .u8) (.pr .i .un))) (.pr (.ar 64 .u8) .un)) .un)]
abbrev sTp299x1_3:List TSh:=[.blk 152 (.pr (.pr (.pr (.ar 8 .u32) (.pr (.ar 64 .u8) (.pr .i .un))) (.pr (.ar 64 .u8) .un)) .un)]
def lc99x1_3 (F:Nat):Lc:=mkK [0,1,4,21] sA99x1_3 sT99x1_3 [0,1] sAp199x1_3 sTp199x1_3 [] sAp299x1_3 sTp299x1_3 (fun x y=>L99x1_3 F x.2.1 x.2.2.1 x.2.2.2.1 y.1.1.1.1 y.1.1.1.2.1) (fun x y (z:(List UInt8)×(Vector UInt32 8)×(Vector UInt8 64))=>(((),z.1,()),((((z.2.1,z.2.2,y.1.1.1.2.2.1,()),y.1.1.2.1,()),()),()))) (fun x y (z:(Vector UInt8 64))=>((),((((y.1.1.1.1,z,y.1.1.1.2.2.1,()),y.1.1.2.1,()),()),())))
theorem le99x1_3 (F:Nat) (x:dens sA99x1_3) (y:tdens sT99x1_3):sev (E99x1 F) 1 [] (cAt (bodyOf Tryd.f99) [1,0,1,1]) [1,0,1,1] (mkSt [0,1,4,21] sA99x1_3 sT99x1_3 x y) (kJoinR 1 [0,1] sAp199x1_3 sTp199x1_3 [] sAp299x1_3 sTp299x1_3 (fun x y=>some (.inl (x,y))) (fun x y=>some (.inr (x,y)))) =
  L99x1_3c (β:=(dens sAp199x1_3×tdens sTp199x1_3) ⊕ (dens sAp299x1_3×tdens sTp299x1_3)) F x.2.1 x.2.2.1 x.2.2.2.1 y.1.1.1.1 y.1.1.1.2.1 (fun z=>some (.inl (((),z.1,()),((((z.2.1,z.2.2,y.1.1.1.2.2.1,()),y.1.1.2.1,()),()),())))) (fun z=>some (.inr ((),((((y.1.1.1.1,z,y.1.1.1.2.2.1,()),y.1.1.2.1,()),()),())))):=by kernel_rfl
theorem lo99x1_3 (F:Nat):LcOk Tryd.prog (E99x1 F) 1 (lc99x1_3 F) (cAt (bodyOf Tryd.f99) [1,0,1,1]):=
 mkK_ok (lp:=[]) cok (cts99x1 F) mixed trivial (by kernel_rfl) (fun x y kO kR=>L99x1_3c F x.2.1 x.2.2.1 x.2.2.2.1 y.1.1.1.1 y.1.1.1.2.1 kO kR) (fun x y kO kR=>L99x1_3n F x.2.1 x.2.2.1 x.2.2.2.1 y.1.1.1.1 y.1.1.1.2.1 kO kR) (le99x1_3 F)
def L99x1_4c (F:Nat) (y46:List UInt8) (y47:Vector UInt32 8) {β:Type} (kA:((List UInt8)×(Vector UInt32 8))->Option β) (kO:((List UInt8)×(Vector UInt32 8))->Option β):Option β:=
 (bif (decide ((64:Int)≤(y46.length:Int))) then (Option.bind (gsl y46 (0:Int) (64:Int)) fun x54=>(Option.bind (T110x3 F x54 y47) fun z55=>(Option.bind (gsl y46 (64:Int) (y46.length:Int)) fun x56=>(kA (x56,z55))))) else (kO (y46,y47)))
def L99x1_4 (F:Nat) (y46:List UInt8) (y47:Vector UInt32 8):Option (((List UInt8)×(Vector UInt32 8)) ⊕ ((List UInt8)×(Vector UInt32 8))):=L99x1_4c F y46 y47 (fun s=>some (.inl s)) (fun z=>some (.inr z))
theorem L99x1_4n (F:Nat) (y46:List UInt8) (y47:Vector UInt32 8) {β:Type} (kA:((List UInt8)×(Vector UInt32 8))->Option β) (kO:((List UInt8)×(Vector UInt32 8))->Option β):L99x1_4c F y46 y47 kA kO=(L99x1_4 F y46 y47).bind (elimS kA kO):=by
 simp only [L99x1_4,L99x1_4c,Option.bind_assoc,cond_bind,Option.bind_some,Option.bind_none,elimS_l,elimS_r,elimS_bind]
abbrev sA99x1_4:List Sh:=[(.pt 0 [0,0]),(.ro .u8)]
abbrev sAp199x1_4:List Sh:=[(.pt 0 [0,0]),(.ro .u8)]
abbrev sT99x1_4:List TSh:=[.blk 152 (.pr (.pr (.pr (.ar 8 .u32) (.pr (.ar 64 .u8) (.pr .i .un))) (.pr (.ar 64 .u8) .un)) .un)]
abbrev sTp199x1_4:List TSh:=[.blk 152 (.pr (.pr (.pr (.ar 8 .u32) (.pr (.ar 64 .u8) (.pr .i .un))) (.pr (.ar 64 .u8) .un)) .un)]
def lc99x1_4 (F:Nat):Lc:=mkL [0,1] sA99x1_4 sT99x1_4 [0,1] sAp199x1_4 sTp199x1_4 F (fun x y (s:(List UInt8)×(Vector UInt32 8))=>L99x1_4 F s.1 s.2) (fun x y=>(x.2.1,y.1.1.1.1)) (fun x y (z:(List UInt8)×(Vector UInt32 8))=>(((),z.1,()),((((z.2,y.1.1.1.2.1,y.1.1.1.2.2.1,()),y.1.1.2.1,()),()),())))
theorem le99x1_4 (F:Nat) (x:dens sA99x1_4) (y:tdens sT99x1_4) (s:(List UInt8)×(Vector UInt32 8)):sev (E99x1 F) 1 [] (cAt (bodyOf Tryd.f99) (0 :: 0 :: [0,1,1,1])) (0 :: 0 :: [0,1,1,1]) (mkSt [0,1] sA99x1_4 sT99x1_4 ((),s.1,()) ((((s.2,y.1.1.1.2.1,y.1.1.1.2.2.1,()),y.1.1.2.1,()),()),())) (kLoop 1 [0,1] sA99x1_4 sT99x1_4 [0,1] sAp199x1_4 sTp199x1_4 [] [] [] 0 (fun x y=>some (.inl (x,y))) (fun x y=>some (.inr (.inl (x,y)))) (fun x y=>some (.inr (.inr (x,y))))) =
  L99x1_4c (β:=Full sA99x1_4 sT99x1_4 sAp199x1_4 sTp199x1_4 [] []) F s.1 s.2 (fun s=>some (.inl (((),s.1,()),((((s.2,y.1.1.1.2.1,y.1.1.1.2.2.1,()),y.1.1.2.1,()),()),())))) (fun z=>some (.inr (.inl (((),z.1,()),((((z.2,y.1.1.1.2.1,y.1.1.1.2.2.1,()),y.1.1.2.1,()),()),()))))):=by kernel_rfl
theorem lo99x1_4 (F:Nat):LcOk Tryd.prog (E99x1 F) 1 (lc99x1_4 F) (cAt (bodyOf Tryd.f99) [0,1,1,1]):=
 mkL_ok (lp:=[]) (id:=0) (b:=cAt (bodyOf Tryd.f99) (0 :: 0 :: [0,1,1,1])) cok (cts99x1 F) mixed trivial (by kernel_rfl) (by kernel_rfl) (fun x y s=>((),s.1,())) (fun x y s=>((((s.2,y.1.1.1.2.1,y.1.1.1.2.2.1,()),y.1.1.2.1,()),()),())) (fun x y=>rfl) (fun x y=>rfl) (fun x y s kA kO=>L99x1_4c F s.1 s.2 kA kO) (fun x y s kA kO=>L99x1_4n F s.1 s.2 kA kO) (le99x1_4 F)
def T99x1c (F:Nat) (p0:List UInt8) (p1:Vector UInt32 8) (p2:Vector UInt8 64) (p3:Int) {β:Type} (k:((Vector UInt32 8)×(Vector UInt8 64)×Int)->Option β):Option β:=
 (Option.bind (L99x1_3 F p0 (Int.tmod p3 (64:Int)) (decide ((0:Int) < (Int.tmod p3 (64:Int)))) p1 p2) fun z45=>elimS (fun z45=>(Option.bind (iter (fun s=>L99x1_4 F s.1 s.2) F (z45.1,z45.2.1)) fun z57=>(Option.bind (gslb 64 (0:Int) ((64:Nat):Int)) fun x58=>(k (z57.2,(vspl z45.2.2 x58.1 z57.1 (Nat.min z57.1.length (x58.2 - x58.1))),(w64 (p3 + (p0.length:Int)))))))) (fun z45=>(k (p1,z45,(w64 (p3 + (p0.length:Int)))))) z45)
def T99x1 (F:Nat) (p0:List UInt8) (p1:Vector UInt32 8) (p2:Vector UInt8 64) (p3:Int):Option ((Vector UInt32 8)×(Vector UInt8 64)×Int):=T99x1c F p0 p1 p2 p3 some
theorem T99x1n (F:Nat) (p0:List UInt8) (p1:Vector UInt32 8) (p2:Vector UInt8 64) (p3:Int) {β:Type} (k:((Vector UInt32 8)×(Vector UInt8 64)×Int)->Option β):T99x1c F p0 p1 p2 p3 k=(T99x1 F p0 p1 p2 p3).bind k:=by
 simp only [T99x1,T99x1c,Option.bind_assoc,cond_bind,Option.bind_some,Option.bind_none,elimS_bind]
abbrev cA99x1:List Sh:=[(.pt 0 [0,0]),(.ro .u8)]
abbrev cB99x1:List Sh:=[]
abbrev cT99x1:List TSh:=[.blk 152 (.pr (.pr (.pr (.ar 8 .u32) (.pr (.ar 64 .u8) (.pr .i .un))) (.pr (.ar 64 .u8) .un)) .un)]
abbrev cU99x1:List TSh:=[.blk 152 (.pr (.pr (.pr (.ar 8 .u32) (.pr (.ar 64 .u8) (.pr .i .un))) (.pr (.ar 64 .u8) .un)) .un)]
def ct99x1 (F:Nat):Ct:=mkC 1 cA99x1 cT99x1 cB99x1 cU99x1 (fun x y=>T99x1 F x.2.1 y.1.1.1.1 y.1.1.1.2.1 y.1.1.1.2.2.1) (fun x y (z:(Vector UInt32 8)×(Vector UInt8 64)×Int)=>((),((((z.1,z.2.1,z.2.2,()),y.1.1.2.1,()),()),())))
theorem eq99x1 (F:Nat) (x:dens cA99x1) (y:tdens cT99x1):sev (E99x1 F) 1 [([1,0,1,1],lc99x1_3 F),([0,1,1,1],lc99x1_4 F)] (bodyOf Tryd.f99) [] (mkSt (rng 2) cA99x1 cT99x1 x y) (kFn (E99x1 F) 1 Tryd.f99.results.toList cB99x1 cU99x1 fun p q=>some (p,q)) =
  T99x1c F x.2.1 y.1.1.1.1 y.1.1.1.2.1 y.1.1.1.2.2.1 (fun z=>some ((),((((z.1,z.2.1,z.2.2,()),y.1.1.2.1,()),()),()))):=by kernel_rfl
theorem ok99x1 (F:Nat):Sound Tryd.prog cfg 99 (ct99x1 F):=
 mkC_ok (E:=E99x1 F) (lp:=[([1,0,1,1],lc99x1_3 F),([0,1,1,1],lc99x1_4 F)]) (code:=bodyOf Tryd.f99) Tryd.func99 rfl Tryd.ntmps99 rfl rfl cok (cts99x1 F) mixed ⟨lo99x1_3 F,⟨lo99x1_4 F,trivial⟩⟩ (by kernel_rfl) (fun x y k=>T99x1c F x.2.1 y.1.1.1.1 y.1.1.1.2.1 y.1.1.1.2.2.1 k) (fun x y k=>T99x1n F x.2.1 y.1.1.1.1 y.1.1.1.2.1 y.1.1.1.2.2.1 k) (eq99x1 F)
def ord83:Nat->List (Tag×Nat)
 | 6=>[(.p,3),(.p,4),(.c,5),(.w,0),(.p,1),(.c,2),(.w,6),(.p,7),(.p,8),(.w,9),(.p,10)]
 | 8=>[(.p,0),(.p,1),(.p,2),(.p,3),(.p,4),(.w,5)]
 | _=>[]
def al83:Nat->Option Nat
 | _=>none
def ms83:Nat->Option (List (Option Tag×Nat×List Nat))
 | _=>none
def E83 (F:Nat):Ev:=⟨cfg,38,ctOf [(96,ct96 F),(98,ct98 F),(97,ct97 F),(99,ct99x1 F)],ord83,ctOf [],al83,ms83⟩
theorem cts83 (F:Nat):CtsOk Tryd.prog (E83 F):=cts_of (l:=[(96,ct96 F),(98,ct98 F),(97,ct97 F),(99,ct99x1 F)]) (l':=[]) rfl rfl ⟨⟨ok96 F,_,Tryd.func96,rfl,rfl⟩,⟨⟨ok98 F,_,Tryd.func98,rfl,rfl⟩,⟨⟨ok97 F,_,Tryd.func97,rfl,rfl⟩,⟨⟨ok99x1 F,_,Tryd.func99,rfl,rfl⟩,trivial⟩⟩⟩⟩ trivial
def T83c (F:Nat) (p0:List UInt8) {β:Type} (k:((Vector UInt32 8)×(Vector UInt8 64)×Int×(Vector UInt8 64))->Option β):Option β:=
 (bif (decide ((64:Int) < (p0.length:Int))) then (Option.bind (T96 F ([p0]:List (List UInt8))) fun z18=>(Option.bind (gslb 64 (0:Int) ((64:Nat):Int)) fun x19=>(Option.bind (vix (gv0) (1:Int)) fun x20=>(Option.bind (T98 F) fun z21=>(Option.bind (T97 F x20 (vspl (Vector.replicate 64 (0:UInt8)) x19.1 z18 (Nat.min z18.length (x19.2 - x19.1)))) fun z22=>(Option.bind (vix (gv0) (0:Int)) fun x23=>(Option.bind (T97 F x23 (vspl (Vector.replicate 64 (0:UInt8)) x19.1 z18 (Nat.min z18.length (x19.2 - x19.1)))) fun z24=>(Option.bind (gslb 64 (0:Int) ((64:Nat):Int)) fun x25=>(Option.bind (T99x1 F ((z24.toList.drop x25.1).take (x25.2 - x25.1)) z21.1 z21.2.1 z21.2.2) fun z26=>(k (z26.1,z26.2.1,z26.2.2,z22))))))))))) else (Option.bind (gslb 64 (0:Int) ((64:Nat):Int)) fun x27=>(Option.bind (vix (gv0) (1:Int)) fun x28=>(Option.bind (T98 F) fun z29=>(Option.bind (T97 F x28 (vspl (Vector.replicate 64 (0:UInt8)) x27.1 p0 (Nat.min p0.length (x27.2 - x27.1)))) fun z30=>(Option.bind (vix (gv0) (0:Int)) fun x31=>(Option.bind (T97 F x31 (vspl (Vector.replicate 64 (0:UInt8)) x27.1 p0 (Nat.min p0.length (x27.2 - x27.1)))) fun z32=>(Option.bind (gslb 64 (0:Int) ((64:Nat):Int)) fun x33=>(Option.bind (T99x1 F ((z32.toList.drop x33.1).take (x33.2 - x33.1)) z29.1 z29.2.1 z29.2.2) fun z34=>(k (z34.1,z34.2.1,z34.2.2,z30)))))))))))
def T83 (F:Nat) (p0:List UInt8):Option ((Vector UInt32 8)×(Vector UInt8 64)×Int×(Vector UInt8 64)):=T83c F p0 some
theorem T83n (F:Nat) (p0:List UInt8) {β:Type} (k:((Vector UInt32 8)×(Vector UInt8 64)×Int×(Vector UInt8 64))->Option β):T83c F p0 k=(T83 F p0).bind k:=by
 simp only [T83,T83c,Option.bind_assoc,cond_bind,Option.bind_some,Option.bind_none,elimS_bind]
abbrev cA83:List Sh:=[.str]
abbrev cB83:List Sh:=[(.pt 0 [])]
abbrev cT83:List TSh:=[]
abbrev cU83:List TSh:=[.blk 152 (.pr (.pr (.pr (.ar 8 .u32) (.pr (.ar 64 .u8) (.pr .i .un))) (.pr (.ar 64 .u8) .un)) .un)]
def ct83 (F:Nat):Ct:=mkC 0 cA83 cT83 cB83 cU83 (fun x y=>T83 F x.1) (fun x y (z:(Vector UInt32 8)×(Vector UInt8 64)×Int×(Vector UInt8 64))=>(((),()),((((z.1,z.2.1,z.2.2.1,()),z.2.2.2,()),()),())))
theorem eq83 (F:Nat) (x:dens cA83) (y:tdens cT83):sev (E83 F) 0 [] (bodyOf Tryd.f83) [] (mkSt (rng 1) cA83 cT83 x y) (kFn (E83 F) 0 Tryd.f83.results.toList cB83 cU83 fun p q=>some (p,q)) =
  T83c F x.1 (fun z=>some (((),()),((((z.1,z.2.1,z.2.2.1,()),z.2.2.2,()),()),()))):=by kernel_rfl
theorem ok83 (F:Nat):Sound Tryd.prog cfg 83 (ct83 F):=
 mkC_ok (E:=E83 F) (lp:=[]) (code:=bodyOf Tryd.f83) Tryd.func83 rfl Tryd.ntmps83 rfl rfl cok (cts83 F) mixed trivial (by kernel_rfl) (fun x y k=>T83c F x.1 k) (fun x y k=>T83n F x.1 k) (eq83 F)
def ord84:Nat->List (Tag×Nat)
 | _=>[]
def al84:Nat->Option Nat
 | _=>none
def ms84:Nat->Option (List (Option Tag×Nat×List Nat))
 | _=>none
def E84 (F:Nat):Ev:=⟨cfg,10,ctOf [(99,ct99x1 F)],ord84,ctOf [],al84,ms84⟩
theorem cts84 (F:Nat):CtsOk Tryd.prog (E84 F):=cts_of (l:=[(99,ct99x1 F)]) (l':=[]) rfl rfl ⟨⟨ok99x1 F,_,Tryd.func99,rfl,rfl⟩,trivial⟩ trivial
def T84c (F:Nat) (p0:List UInt8) (p1:Vector UInt32 8) (p2:Vector UInt8 64) (p3:Int) {β:Type} (k:((Vector UInt32 8)×(Vector UInt8 64)×Int)->Option β):Option β:=
 (Option.bind (T99x1 F p0 p1 p2 p3) fun z2=>(k (z2.1,z2.2.1,z2.2.2)))
def T84 (F:Nat) (p0:List UInt8) (p1:Vector UInt32 8) (p2:Vector UInt8 64) (p3:Int):Option ((Vector UInt32 8)×(Vector UInt8 64)×Int):=T84c F p0 p1 p2 p3 some
theorem T84n (F:Nat) (p0:List UInt8) (p1:Vector UInt32 8) (p2:Vector UInt8 64) (p3:Int) {β:Type} (k:((Vector UInt32 8)×(Vector UInt8 64)×Int)->Option β):T84c F p0 p1 p2 p3 k=(T84 F p0 p1 p2 p3).bind k:=by
 simp only [T84,T84c,Option.bind_assoc,cond_bind,Option.bind_some,Option.bind_none,elimS_bind]
abbrev cA84:List Sh:=[(.pt 0 []),(.ro .u8)]
abbrev cB84:List Sh:=[]
abbrev cT84:List TSh:=[.blk 152 (.pr (.pr (.pr (.ar 8 .u32) (.pr (.ar 64 .u8) (.pr .i .un))) (.pr (.ar 64 .u8) .un)) .un)]
abbrev cU84:List TSh:=[.blk 152 (.pr (.pr (.pr (.ar 8 .u32) (.pr (.ar 64 .u8) (.pr .i .un))) (.pr (.ar 64 .u8) .un)) .un)]
def ct84 (F:Nat):Ct:=mkC 1 cA84 cT84 cB84 cU84 (fun x y=>T84 F x.2.1 y.1.1.1.1 y.1.1.1.2.1 y.1.1.1.2.2.1) (fun x y (z:(Vector UInt32 8)×(Vector UInt8 64)×Int)=>((),((((z.1,z.2.1,z.2.2,()),y.1.1.2.1,()),()),())))
theorem eq84 (F:Nat) (x:dens cA84) (y:tdens cT84):sev (E84 F) 1 [] (bodyOf Tryd.f84) [] (mkSt (rng 2) cA84 cT84 x y) (kFn (E84 F) 1 Tryd.f84.results.toList cB84 cU84 fun p q=>some (p,q)) =
  T84c F x.2.1 y.1.1.1.1 y.1.1.1.2.1 y.1.1.1.2.2.1 (fun z=>some ((),((((z.1,z.2.1,z.2.2,()),y.1.1.2.1,()),()),()))):=by kernel_rfl
theorem ok84 (F:Nat):Sound Tryd.prog cfg 84 (ct84 F):=
 mkC_ok (E:=E84 F) (lp:=[]) (code:=bodyOf Tryd.f84) Tryd.func84 rfl Tryd.ntmps84 rfl rfl cok (cts84 F) mixed trivial (by kernel_rfl) (fun x y k=>T84c F x.2.1 y.1.1.1.1 y.1.1.1.2.1 y.1.1.1.2.2.1 k) (fun x y k=>T84n F x.2.1 y.1.1.1.1 y.1.1.1.2.1 y.1.1.1.2.2.1 k) (eq84 F)
def ord85:Nat->List (Tag×Nat)
 | 1=>[(.p,0),(.p,1),(.p,2),(.p,3),(.p,4),(.c,5),(.p,6),(.p,7),(.p,8),(.p,9),(.w,10),(.w,11),(.b,12),(.p,13)]
 | _=>[]
def al85:Nat->Option Nat
 | _=>none
def ms85:Nat->Option (List (Option Tag×Nat×List Nat))
 | _=>none
def E85 (F:Nat):Ev:=⟨cfg,16,ctOf [(100,ct100 F),(96,ct96 F)],ord85,ctOf [],al85,ms85⟩
theorem cts85 (F:Nat):CtsOk Tryd.prog (E85 F):=cts_of (l:=[(100,ct100 F),(96,ct96 F)]) (l':=[]) rfl rfl ⟨⟨ok100 F,_,Tryd.func100,rfl,rfl⟩,⟨⟨ok96 F,_,Tryd.func96,rfl,rfl⟩,trivial⟩⟩ trivial
def T85c (F:Nat) (p0:Vector UInt32 8) (p1:Vector UInt8 64) (p2:Int) (p3:Vector UInt8 64) {β:Type} (k:((List UInt8))->Option β):Option β:=
 (Option.bind (gslb 64 (0:Int) ((64:Nat):Int)) fun x4=>(Option.bind (T100 F (p0,p1,p2,())) fun z5=>(Option.bind (T96 F ([((p3.toList.drop x4.1).take (x4.2 - x4.1)),z5]:List (List UInt8))) fun z6=>(k z6))))
def T85 (F:Nat) (p0:Vector UInt32 8) (p1:Vector UInt8 64) (p2:Int) (p3:Vector UInt8 64):Option ((List UInt8)):=T85c F p0 p1 p2 p3 some
theorem T85n (F:Nat) (p0:Vector UInt32 8) (p1:Vector UInt8 64) (p2:Int) (p3:Vector UInt8 64) {β:Type} (k:((List UInt8))->Option β):T85c F p0 p1 p2 p3 k=(T85 F p0 p1 p2 p3).bind k:=by
 simp only [T85,T85c,Option.bind_assoc,cond_bind,Option.bind_some,Option.bind_none,elimS_bind]
abbrev cA85:List Sh:=[(.pt 0 [])]
abbrev cB85:List Sh:=[.str]
abbrev cT85:List TSh:=[.blk 152 (.pr (.pr (.pr (.ar 8 .u32) (.pr (.ar 64 .u8) (.pr .i .un))) (.pr (.ar 64 .u8) .un)) .un)]
abbrev cU85:List TSh:=[.blk 152 (.pr (.pr (.pr (.ar 8 .u32) (.pr (.ar 64 .u8) (.pr .i .un))) (.pr (.ar 64 .u8) .un)) .un)]
def ct85 (F:Nat):Ct:=mkC 1 cA85 cT85 cB85 cU85 (fun x y=>T85 F y.1.1.1.1 y.1.1.1.2.1 y.1.1.1.2.2.1 y.1.1.2.1) (fun x y (z:(List UInt8))=>((z,()),((((y.1.1.1.1,y.1.1.1.2.1,y.1.1.1.2.2.1,()),y.1.1.2.1,()),()),())))
theorem eq85 (F:Nat) (x:dens cA85) (y:tdens cT85):sev (E85 F) 1 [] (bodyOf Tryd.f85) [] (mkSt (rng 1) cA85 cT85 x y) (kFn (E85 F) 1 Tryd.f85.results.toList cB85 cU85 fun p q=>some (p,q)) =
  T85c F y.1.1.1.1 y.1.1.1.2.1 y.1.1.1.2.2.1 y.1.1.2.1 (fun z=>some ((z,()),((((y.1.1.1.1,y.1.1.1.2.1,y.1.1.1.2.2.1,()),y.1.1.2.1,()),()),()))):=by kernel_rfl
theorem ok85 (F:Nat):Sound Tryd.prog cfg 85 (ct85 F):=
 mkC_ok (E:=E85 F) (lp:=[]) (code:=bodyOf Tryd.f85) Tryd.func85 rfl Tryd.ntmps85 rfl rfl cok (cts85 F) mixed trivial (by kernel_rfl) (fun x y k=>T85c F y.1.1.1.1 y.1.1.1.2.1 y.1.1.1.2.2.1 y.1.1.2.1 k) (fun x y k=>T85n F y.1.1.1.1 y.1.1.1.2.1 y.1.1.1.2.2.1 y.1.1.2.1 k) (eq85 F)
def ord86:Nat->List (Tag×Nat)
 | _=>[]
def al86:Nat->Option Nat
 | _=>none
def ms86:Nat->Option (List (Option Tag×Nat×List Nat))
 | _=>none
def E86 (F:Nat):Ev:=⟨cfg,13,ctOf [(83,ct83 F),(84,ct84 F),(85,ct85 F)],ord86,ctOf [],al86,ms86⟩
theorem cts86 (F:Nat):CtsOk Tryd.prog (E86 F):=cts_of (l:=[(83,ct83 F),(84,ct84 F),(85,ct85 F)]) (l':=[]) rfl rfl ⟨⟨ok83 F,_,Tryd.func83,rfl,rfl⟩,⟨⟨ok84 F,_,Tryd.func84,rfl,rfl⟩,⟨⟨ok85 F,_,Tryd.func85,rfl,rfl⟩,trivial⟩⟩⟩ trivial
def T86c (F:Nat) (p0:List UInt8) (p1:List UInt8) {β:Type} (k:((List UInt8))->Option β):Option β:=
 (Option.bind (T83 F p0) fun z4=>(Option.bind (T84 F p1 z4.1 z4.2.1 z4.2.2.1) fun z5=>(Option.bind (T85 F z5.1 z5.2.1 z5.2.2 z4.2.2.2) fun z6=>(k z6))))
def T86 (F:Nat) (p0:List UInt8) (p1:List UInt8):Option ((List UInt8)):=T86c F p0 p1 some
theorem T86n (F:Nat) (p0:List UInt8) (p1:List UInt8) {β:Type} (k:((List UInt8))->Option β):T86c F p0 p1 k=(T86 F p0 p1).bind k:=by
 simp only [T86,T86c,Option.bind_assoc,cond_bind,Option.bind_some,Option.bind_none,elimS_bind]
abbrev cA86:List Sh:=[.str,(.ro .u8)]
abbrev cB86:List Sh:=[.str]
abbrev cT86:List TSh:=[]
abbrev cU86:List TSh:=[]
def ct86 (F:Nat):Ct:=mkC 0 cA86 cT86 cB86 cU86 (fun x y=>T86 F x.1 x.2.1) (fun x y (z:(List UInt8))=>((z,()),()))
theorem eq86 (F:Nat) (x:dens cA86) (y:tdens cT86):sev (E86 F) 0 [] (bodyOf Tryd.f86) [] (mkSt (rng 2) cA86 cT86 x y) (kFn (E86 F) 0 Tryd.f86.results.toList cB86 cU86 fun p q=>some (p,q)) =
  T86c F x.1 x.2.1 (fun z=>some ((z,()),())):=by kernel_rfl
theorem ok86 (F:Nat):Sound Tryd.prog cfg 86 (ct86 F):=
 mkC_ok (E:=E86 F) (lp:=[]) (code:=bodyOf Tryd.f86) Tryd.func86 rfl Tryd.ntmps86 rfl rfl cok (cts86 F) mixed trivial (by kernel_rfl) (fun x y k=>T86c F x.1 x.2.1 k) (fun x y k=>T86n F x.1 x.2.1 k) (eq86 F)
def ord64:Nat->List (Tag×Nat)
 | _=>[]
def al64:Nat->Option Nat
 | _=>none
def ms64:Nat->Option (List (Option Tag×Nat×List Nat))
 | _=>none
def E64 (F:Nat):Ev:=⟨cfg,9,ctOf [(86,ct86 F)],ord64,ctOf [],al64,ms64⟩
theorem cts64 (F:Nat):CtsOk Tryd.prog (E64 F):=cts_of (l:=[(86,ct86 F)]) (l':=[]) rfl rfl ⟨⟨ok86 F,_,Tryd.func86,rfl,rfl⟩,trivial⟩ trivial
def T64c (F:Nat) (p0:List UInt8) (p1:List UInt8) {β:Type} (k:((List UInt8))->Option β):Option β:=
 (Option.bind (gstr p1) fun x3=>(Option.bind (T86 F p0 x3) fun z4=>(k z4)))
def T64 (F:Nat) (p0:List UInt8) (p1:List UInt8):Option ((List UInt8)):=T64c F p0 p1 some
theorem T64n (F:Nat) (p0:List UInt8) (p1:List UInt8) {β:Type} (k:((List UInt8))->Option β):T64c F p0 p1 k=(T64 F p0 p1).bind k:=by
 simp only [T64,T64c,Option.bind_assoc,cond_bind,Option.bind_some,Option.bind_none,elimS_bind]
abbrev cA64:List Sh:=[.str,.str]
abbrev cB64:List Sh:=[.str]
abbrev cT64:List TSh:=[]
abbrev cU64:List TSh:=[]
def ct64 (F:Nat):Ct:=mkC 0 cA64 cT64 cB64 cU64 (fun x y=>T64 F x.1 x.2.1) (fun x y (z:(List UInt8))=>((z,()),()))
theorem eq64 (F:Nat) (x:dens cA64) (y:tdens cT64):sev (E64 F) 0 [] (bodyOf Tryd.f64) [] (mkSt (rng 2) cA64 cT64 x y) (kFn (E64 F) 0 Tryd.f64.results.toList cB64 cU64 fun p q=>some (p,q)) =
  T64c F x.1 x.2.1 (fun z=>some ((z,()),())):=by kernel_rfl
theorem ok64 (F:Nat):Sound Tryd.prog cfg 64 (ct64 F):=
 mkC_ok (E:=E64 F) (lp:=[]) (code:=bodyOf Tryd.f64) Tryd.func64 rfl Tryd.ntmps64 rfl rfl cok (cts64 F) mixed trivial (by kernel_rfl) (fun x y k=>T64c F x.1 x.2.1 k) (fun x y k=>T64n F x.1 x.2.1 k) (eq64 F)
def ord63:Nat->List (Tag×Nat)
 | _=>[]
def al63:Nat->Option Nat
 | _=>none
def ms63:Nat->Option (List (Option Tag×Nat×List Nat))
 | _=>none
def E63 (F:Nat):Ev:=⟨cfg,51,ctOf [(83,ct83 F),(84,ct84 F),(85,ct85 F)],ord63,ctOf [],al63,ms63⟩
theorem cts63 (F:Nat):CtsOk Tryd.prog (E63 F):=cts_of (l:=[(83,ct83 F),(84,ct84 F),(85,ct85 F)]) (l':=[]) rfl rfl ⟨⟨ok83 F,_,Tryd.func83,rfl,rfl⟩,⟨⟨ok84 F,_,Tryd.func84,rfl,rfl⟩,⟨⟨ok85 F,_,Tryd.func85,rfl,rfl⟩,trivial⟩⟩⟩ trivial
def L63_2c (F:Nat) (y51:List UInt8) (y52:List UInt8) (y53:Int) (y54:List UInt8) (y55:Int) (y56:List UInt8) {β:Type} (kA:((List UInt8)×Int×(List UInt8))->Option β) (kO:((List UInt8))->Option β):Option β:=
 (bif (decide ((y56.length:Int) < y53)) then (Option.bind (T83 F y51) fun z65=>(Option.bind (gstr y54) fun x66=>(Option.bind (T84 F x66 z65.1 z65.2.1 z65.2.2.1) fun z67=>(Option.bind (gstr y52) fun x68=>(Option.bind (T84 F x68 z67.1 z67.2.1 z67.2.2) fun z69=>(Option.bind (T84 F ([(UInt8.ofInt y55)]:List UInt8) z69.1 z69.2.1 z69.2.2) fun z70=>(Option.bind (T85 F z70.1 z70.2.1 z70.2.2 z65.2.2.2) fun z71=>(Option.bind (gapp y56 z71) fun x72=>(kA (z71,(w64 (y55 + (1:Int))),x72)))))))))) else (kO y56))
def L63_2 (F:Nat) (y51:List UInt8) (y52:List UInt8) (y53:Int) (y54:List UInt8) (y55:Int) (y56:List UInt8):Option (((List UInt8)×Int×(List UInt8)) ⊕ ((List UInt8))):=L63_2c F y51 y52 y53 y54 y55 y56 (fun s=>some (.inl s)) (fun z=>some (.inr z))
theorem L63_2n (F:Nat) (y51:List UInt8) (y52:List UInt8) (y53:Int) (y54:List UInt8) (y55:Int) (y56:List UInt8) {β:Type} (kA:((List UInt8)×Int×(List UInt8))->Option β) (kO:((List UInt8))->Option β):L63_2c F y51 y52 y53 y54 y55 y56 kA kO=(L63_2 F y51 y52 y53 y54 y55 y56).bind (elimS kA kO):=by
 simp only [L63_2,L63_2c,Option.bind_assoc,cond_bind,Option.bind_some,Option.bind_none,elimS_l,elimS_r,elimS_bind]
abbrev sA63_2:List Sh:=[.str,.str,.i,(.rw 0),.str,.i]
abbrev sAp163_2:List Sh:=[.i,(.rw 0)]
abbrev sT63_2:List TSh:=[.row 5 .u8]
abbrev sTp163_2:List TSh:=[.row 5 .u8]
def lc63_2 (F:Nat):Lc:=mkL [0,1,2,8,9,10] sA63_2 sT63_2 [2,8] sAp163_2 sTp163_2 F (fun x y (s:(List UInt8)×Int×(List UInt8))=>L63_2 F x.1 x.2.1 x.2.2.1 s.1 s.2.1 s.2.2) (fun x y=>(x.2.2.2.2.1,x.2.2.2.2.2.1,y.1)) (fun x y (z:(List UInt8))=>((x.2.2.1,(),()),(z,())))
theorem le63_2 (F:Nat) (x:dens sA63_2) (y:tdens sT63_2) (s:(List UInt8)×Int×(List UInt8)):sev (E63 F) 0 [] (cAt (bodyOf Tryd.f63) (0 :: 0 :: [1,0,1,1,1,1,1])) (0 :: 0 :: [1,0,1,1,1,1,1]) (mkSt [0,1,2,8,9,10] sA63_2 sT63_2 (x.1,x.2.1,x.2.2.1,(),s.1,s.2.1,()) (s.2.2,())) (kLoop 0 [0,1,2,8,9,10] sA63_2 sT63_2 [2,8] sAp163_2 sTp163_2 [] [] [] 0 (fun x y=>some (.inl (x,y))) (fun x y=>some (.inr (.inl (x,y)))) (fun x y=>some (.inr (.inr (x,y))))) =
  L63_2c (β:=Full sA63_2 sT63_2 sAp163_2 sTp163_2 [] []) F x.1 x.2.1 x.2.2.1 s.1 s.2.1 s.2.2 (fun s=>some (.inl ((x.1,x.2.1,x.2.2.1,(),s.1,s.2.1,()),(s.2.2,())))) (fun z=>some (.inr (.inl ((x.2.2.1,(),()),(z,()))))):=by kernel_rfl
theorem lo63_2 (F:Nat):LcOk Tryd.prog (E63 F) 0 (lc63_2 F) (cAt (bodyOf Tryd.f63) [1,0,1,1,1,1,1]):=
 mkL_ok (lp:=[]) (id:=0) (b:=cAt (bodyOf Tryd.f63) (0 :: 0 :: [1,0,1,1,1,1,1])) cok (cts63 F) mixed trivial (by kernel_rfl) (by kernel_rfl) (fun x y s=>(x.1,x.2.1,x.2.2.1,(),s.1,s.2.1,())) (fun x y s=>(s.2.2,())) (fun x y=>rfl) (fun x y=>rfl) (fun x y s kA kO=>L63_2c F x.1 x.2.1 x.2.2.1 s.1 s.2.1 s.2.2 kA kO) (fun x y s kA kO=>L63_2n F x.1 x.2.1 x.2.2.1 s.1 s.2.1 s.2.2 kA kO) (le63_2 F)
def T63c (F:Nat) (p0:List UInt8) (p1:List UInt8) (p2:Int) {β:Type} (k:((List UInt8)×Int)->Option β):Option β:=
 (bif (decide ((p0.length:Int) < (32:Int))) then (k (([]:List UInt8),(1:Int))) else (bif (decide (p2 < (0:Int))) then (k (([]:List UInt8),(1:Int))) else (bif (decide ((8160:Int) < p2)) then (k (([]:List UInt8),(2:Int))) else (Option.bind (iter (fun s=>L63_2 F p0 p1 p2 s.1 s.2.1 s.2.2) F (([]:List UInt8),(1:Int),([]:List UInt8))) fun z73=>(Option.bind (gslb z73.length (0:Int) p2) fun x74=>(k (((z73.drop x74.1).take (x74.2 - x74.1)),(0:Int))))))))
def T63 (F:Nat) (p0:List UInt8) (p1:List UInt8) (p2:Int):Option ((List UInt8)×Int):=T63c F p0 p1 p2 some
theorem T63n (F:Nat) (p0:List UInt8) (p1:List UInt8) (p2:Int) {β:Type} (k:((List UInt8)×Int)->Option β):T63c F p0 p1 p2 k=(T63 F p0 p1 p2).bind k:=by
 simp only [T63,T63c,Option.bind_assoc,cond_bind,Option.bind_some,Option.bind_none,elimS_bind]
abbrev cA63:List Sh:=[.str,.str,.i]
abbrev cB63:List Sh:=[.str,.i]
abbrev cT63:List TSh:=[]
abbrev cU63:List TSh:=[]
def ct63 (F:Nat):Ct:=mkC 0 cA63 cT63 cB63 cU63 (fun x y=>T63 F x.1 x.2.1 x.2.2.1) (fun x y (z:(List UInt8)×Int)=>((z.1,z.2,()),()))
theorem eq63 (F:Nat) (x:dens cA63) (y:tdens cT63):sev (E63 F) 0 [([1,0,1,1,1,1,1],lc63_2 F)] (bodyOf Tryd.f63) [] (mkSt (rng 3) cA63 cT63 x y) (kFn (E63 F) 0 Tryd.f63.results.toList cB63 cU63 fun p q=>some (p,q)) =
  T63c F x.1 x.2.1 x.2.2.1 (fun z=>some ((z.1,z.2,()),())):=by kernel_rfl
theorem ok63 (F:Nat):Sound Tryd.prog cfg 63 (ct63 F):=
 mkC_ok (E:=E63 F) (lp:=[([1,0,1,1,1,1,1],lc63_2 F)]) (code:=bodyOf Tryd.f63) Tryd.func63 rfl Tryd.ntmps63 rfl rfl cok (cts63 F) mixed ⟨lo63_2 F,trivial⟩ (by kernel_rfl) (fun x y k=>T63c F x.1 x.2.1 x.2.2.1 k) (fun x y k=>T63n F x.1 x.2.1 x.2.2.1 k) (eq63 F)
def ord31:Nat->List (Tag×Nat)
 | _=>[]
def al31:Nat->Option Nat
 | _=>none
def ms31:Nat->Option (List (Option Tag×Nat×List Nat))
 | _=>none
def E31 (F:Nat):Ev:=⟨cfg,24,ctOf [(64,ct64 F),(63,ct63 F)],ord31,ctOf [],al31,ms31⟩
theorem cts31 (F:Nat):CtsOk Tryd.prog (E31 F):=cts_of (l:=[(64,ct64 F),(63,ct63 F)]) (l':=[]) rfl rfl ⟨⟨ok64 F,_,Tryd.func64,rfl,rfl⟩,⟨⟨ok63 F,_,Tryd.func63,rfl,rfl⟩,trivial⟩⟩ trivial
def T31c (F:Nat) (p0:List UInt8) (p1:List UInt8) {β:Type} (k:((List UInt8)×Int)->Option β):Option β:=
 (bif ((p0.length:Int) != (32:Int)) then (k (([]:List UInt8),(1:Int))) else (bif (p1 == ([]:List UInt8)) then (k (([]:List UInt8),(1:Int))) else (bif (decide ((64:Int) < (p1.length:Int))) then (k (([]:List UInt8),(1:Int))) else (Option.bind (T64 F ([]:List UInt8) p0) fun z3=>(Option.bind (T63 F z3 p1 (32:Int)) fun z4=>(k (z4.1,z4.2)))))))
def T31 (F:Nat) (p0:List UInt8) (p1:List UInt8):Option ((List UInt8)×Int):=T31c F p0 p1 some
theorem T31n (F:Nat) (p0:List UInt8) (p1:List UInt8) {β:Type} (k:((List UInt8)×Int)->Option β):T31c F p0 p1 k=(T31 F p0 p1).bind k:=by
 simp only [T31,T31c,Option.bind_assoc,cond_bind,Option.bind_some,Option.bind_none,elimS_bind]
abbrev cA31:List Sh:=[.str,.str]
abbrev cB31:List Sh:=[.str,.i]
abbrev cT31:List TSh:=[]
abbrev cU31:List TSh:=[]
def ct31 (F:Nat):Ct:=mkC 0 cA31 cT31 cB31 cU31 (fun x y=>T31 F x.1 x.2.1) (fun x y (z:(List UInt8)×Int)=>((z.1,z.2,()),()))
theorem eq31 (F:Nat) (x:dens cA31) (y:tdens cT31):sev (E31 F) 0 [] (bodyOf Tryd.f31) [] (mkSt (rng 2) cA31 cT31 x y) (kFn (E31 F) 0 Tryd.f31.results.toList cB31 cU31 fun p q=>some (p,q)) =
  T31c F x.1 x.2.1 (fun z=>some ((z.1,z.2,()),())):=by kernel_rfl
theorem ok31 (F:Nat):Sound Tryd.prog cfg 31 (ct31 F):=
 mkC_ok (E:=E31 F) (lp:=[]) (code:=bodyOf Tryd.f31) Tryd.func31 rfl Tryd.ntmps31 rfl rfl cok (cts31 F) mixed trivial (by kernel_rfl) (fun x y k=>T31c F x.1 x.2.1 k) (fun x y k=>T31n F x.1 x.2.1 k) (eq31 F)
def ord14:Nat->List (Tag×Nat)
 | _=>[]
def al14:Nat->Option Nat
 | _=>none
def ms14:Nat->Option (List (Option Tag×Nat×List Nat))
 | _=>none
def E14 (F:Nat):Ev:=⟨cfg,39,ctOf [(31,ct31 F)],ord14,ctOf [],al14,ms14⟩
theorem cts14 (F:Nat):CtsOk Tryd.prog (E14 F):=cts_of (l:=[(31,ct31 F)]) (l':=[]) rfl rfl ⟨⟨ok31 F,_,Tryd.func31,rfl,rfl⟩,trivial⟩ trivial
def T14c (F:Nat) (p0:List UInt8) {β:Type} (k:((List UInt8)×(List UInt8)×(List UInt8)×(List UInt8)×(List UInt8)×Int)->Option β):Option β:=
 (Option.bind (inb 5 (0:Int)) fun x16=>(Option.bind (vat (#v[([110,97,109,101]:List UInt8),([115,116,114,101,97,109]:List UInt8),([99,104,101,99,107]:List UInt8),([105,110,100,101,120]:List UInt8),([116,111,107,101,110]:List UInt8)]:Vector (List UInt8) 5) x16) fun x17=>(Option.bind (T31 F p0 x17) fun z18=>(bif (z18.2 != (0:Int)) then (k (([]:List UInt8),([]:List UInt8),([]:List UInt8),([]:List UInt8),([]:List UInt8),(1:Int))) else (Option.bind (inb 5 (w64 ((0:Int) + (1:Int)))) fun x19=>(Option.bind (vat (#v[([110,97,109,101]:List UInt8),([115,116,114,101,97,109]:List UInt8),([99,104,101,99,107]:List UInt8),([105,110,100,101,120]:List UInt8),([116,111,107,101,110]:List UInt8)]:Vector (List UInt8) 5) x19) fun x20=>(Option.bind (T31 F p0 x20) fun z21=>(bif (z21.2 != (0:Int)) then (k (([]:List UInt8),([]:List UInt8),([]:List UInt8),([]:List UInt8),([]:List UInt8),(1:Int))) else (Option.bind (inb 5 (w64 ((w64 ((0:Int) + (1:Int))) + (1:Int)))) fun x22=>(Option.bind (vat (#v[([110,97,109,101]:List UInt8),([115,116,114,101,97,109]:List UInt8),([99,104,101,99,107]:List UInt8),([105,110,100,101,120]:List UInt8),([116,111,107,101,110]:List UInt8)]:Vector (List UInt8) 5) x22) fun x23=>(Option.bind (T31 F p0 x23) fun z24=>(bif (z24.2 != (0:Int)) then (k (([]:List UInt8),([]:List UInt8),([]:List UInt8),([]:List UInt8),([]:List UInt8),(1:Int))) else (Option.bind (inb 5 (w64 ((w64 ((w64 ((0:Int) + (1:Int))) + (1:Int))) + (1:Int)))) fun x25=>(Option.bind (vat (#v[([110,97,109,101]:List UInt8),([115,116,114,101,97,109]:List UInt8),([99,104,101,99,107]:List UInt8),([105,110,100,101,120]:List UInt8),([116,111,107,101,110]:List UInt8)]:Vector (List UInt8) 5) x25) fun x26=>(Option.bind (T31 F p0 x26) fun z27=>(bif (z27.2 != (0:Int)) then (k (([]:List UInt8),([]:List UInt8),([]:List UInt8),([]:List UInt8),([]:List UInt8),(1:Int))) else (Option.bind (inb 5 (w64 ((w64 ((w64 ((w64 ((0:Int) + (1:Int))) + (1:Int))) + (1:Int))) + (1:Int)))) fun x28=>(Option.bind (vat (#v[([110,97,109,101]:List UInt8),([115,116,114,101,97,109]:List UInt8),([99,104,101,99,107]:List UInt8),([105,110,100,101,120]:List UInt8),([116,111,107,101,110]:List UInt8)]:Vector (List UInt8) 5) x28) fun x29=>(Option.bind (T31 F p0 x29) fun z30=>(bif (z30.2 != (0:Int)) then (k (([]:List UInt8),([]:List UInt8),([]:List UInt8),([]:List UInt8),([]:List UInt8),(1:Int))) else (k (z18.1,z21.1,z24.1,z27.1,z30.1,(0:Int)))))))))))))))))))))))
def T14 (F:Nat) (p0:List UInt8):Option ((List UInt8)×(List UInt8)×(List UInt8)×(List UInt8)×(List UInt8)×Int):=T14c F p0 some
theorem T14n (F:Nat) (p0:List UInt8) {β:Type} (k:((List UInt8)×(List UInt8)×(List UInt8)×(List UInt8)×(List UInt8)×Int)->Option β):T14c F p0 k=(T14 F p0).bind k:=by
 simp only [T14,T14c,Option.bind_assoc,cond_bind,Option.bind_some,Option.bind_none,elimS_bind]
abbrev cA14:List Sh:=[.str]
abbrev cB14:List Sh:=[(.pr .str (.pr .str (.pr .str (.pr .str (.pr .str .un))))),.i]
abbrev cT14:List TSh:=[]
abbrev cU14:List TSh:=[]
def ct14 (F:Nat):Ct:=mkC 0 cA14 cT14 cB14 cU14 (fun x y=>T14 F x.1) (fun x y (z:(List UInt8)×(List UInt8)×(List UInt8)×(List UInt8)×(List UInt8)×Int)=>(((z.1,z.2.1,z.2.2.1,z.2.2.2.1,z.2.2.2.2.1,()),z.2.2.2.2.2,()),()))
theorem eq14 (F:Nat) (x:dens cA14) (y:tdens cT14):sev (E14 F) 0 [] (bodyOf Tryd.f14) [] (mkSt (rng 1) cA14 cT14 x y) (kFn (E14 F) 0 Tryd.f14.results.toList cB14 cU14 fun p q=>some (p,q)) =
  T14c F x.1 (fun z=>some (((z.1,z.2.1,z.2.2.1,z.2.2.2.1,z.2.2.2.2.1,()),z.2.2.2.2.2,()),())):=by kernel_rfl
theorem ok14 (F:Nat):Sound Tryd.prog cfg 14 (ct14 F):=
 mkC_ok (E:=E14 F) (lp:=[]) (code:=bodyOf Tryd.f14) Tryd.func14 rfl Tryd.ntmps14 rfl rfl cok (cts14 F) mixed trivial (by kernel_rfl) (fun x y k=>T14c F x.1 k) (fun x y k=>T14n F x.1 k) (eq14 F)
def ord56:Nat->List (Tag×Nat)
 | _=>[]
def al56:Nat->Option Nat
 | _=>none
def ms56:Nat->Option (List (Option Tag×Nat×List Nat))
 | _=>none
def E56 (F:Nat):Ev:=⟨cfg,19,ctOf [],ord56,ctOf [],al56,ms56⟩
theorem cts56 (F:Nat):CtsOk Tryd.prog (E56 F):=cts_of (l:=[]) (l':=[]) rfl rfl trivial trivial
def L56_2c (F:Nat) (y8:List Int) (y9:Int) (y10:Int) (y11:Int) {β:Type} (kA:Int->Option β) (kO:Unit->Option β) (kR:Int->Option β):Option β:=
 (bif (decide (y11 < y10)) then (Option.bind (ix y8 y11) fun x13=>(bif (y9 == x13) then (kR y11) else (kA (w64 (y11 + (1:Int)))))) else (kO ()))
def L56_2 (F:Nat) (y8:List Int) (y9:Int) (y10:Int) (y11:Int):Option ((Int) ⊕ ((Unit) ⊕ (Int))):=L56_2c F y8 y9 y10 y11 (fun s=>some (.inl s)) (fun z=>some (.inr (.inl z))) (fun z=>some (.inr (.inr z)))
theorem L56_2n (F:Nat) (y8:List Int) (y9:Int) (y10:Int) (y11:Int) {β:Type} (kA:Int->Option β) (kO:Unit->Option β) (kR:Int->Option β):L56_2c F y8 y9 y10 y11 kA kO kR=(L56_2 F y8 y9 y10 y11).bind (elimS kA (elimS kO kR)):=by
 simp only [L56_2,L56_2c,Option.bind_assoc,cond_bind,Option.bind_some,Option.bind_none,elimS_l,elimS_r,elimS_bind]
abbrev sA56_2:List Sh:=[(.ro .i),.i,.i,.i]
abbrev sAp156_2:List Sh:=[]
abbrev sAp256_2:List Sh:=[.i]
abbrev sT56_2:List TSh:=[]
abbrev sTp156_2:List TSh:=[]
abbrev sTp256_2:List TSh:=[]
def lc56_2 (F:Nat):Lc:=mkR [0,1,7,8] sA56_2 sT56_2 [] sAp156_2 sTp156_2 [4] sAp256_2 sTp256_2 F (fun x y (s:Int)=>L56_2 F x.1 x.2.1 x.2.2.1 s) (fun x y=>x.2.2.2.1) (fun x y (z:Unit)=>((),())) (fun x y (z:Int)=>((z,()),()))
theorem le56_2 (F:Nat) (x:dens sA56_2) (y:tdens sT56_2) (s:Int):sev (E56 F) 0 [] (cAt (bodyOf Tryd.f56) (0 :: 0 :: [1,0,1])) (0 :: 0 :: [1,0,1]) (mkSt [0,1,7,8] sA56_2 sT56_2 (x.1,x.2.1,x.2.2.1,s,()) ()) (kLoop 0 [0,1,7,8] sA56_2 sT56_2 [] sAp156_2 sTp156_2 [4] sAp256_2 sTp256_2 0 (fun x y=>some (.inl (x,y))) (fun x y=>some (.inr (.inl (x,y)))) (fun x y=>some (.inr (.inr (x,y))))) =
  L56_2c (β:=Full sA56_2 sT56_2 sAp156_2 sTp156_2 sAp256_2 sTp256_2) F x.1 x.2.1 x.2.2.1 s (fun s=>some (.inl ((x.1,x.2.1,x.2.2.1,s,()),()))) (fun z=>some (.inr (.inl ((),())))) (fun z=>some (.inr (.inr ((z,()),())))):=by kernel_rfl
theorem lo56_2 (F:Nat):LcOk Tryd.prog (E56 F) 0 (lc56_2 F) (cAt (bodyOf Tryd.f56) [1,0,1]):=
 mkR_ok (lp:=[]) (id:=0) (b:=cAt (bodyOf Tryd.f56) (0 :: 0 :: [1,0,1])) cok (cts56 F) mixed trivial (by kernel_rfl) (by kernel_rfl) (fun x y s=>(x.1,x.2.1,x.2.2.1,s,())) (fun x y s=>()) (fun x y=>rfl) (fun x y=>rfl) (fun x y s kA kO kR=>L56_2c F x.1 x.2.1 x.2.2.1 s kA kO kR) (fun x y s kA kO kR=>L56_2n F x.1 x.2.1 x.2.2.1 s kA kO kR) (le56_2 F)
def T56c (F:Nat) (p0:List Int) (p1:Int) {β:Type} (k:Int->Option β):Option β:=
 (Option.bind (iter (fun s=>L56_2 F p0 p1 (p0.length:Int) s) F (0:Int)) fun z14=>elimS (fun z14=>(k (-1:Int))) (fun z14=>(k z14)) z14)
def T56 (F:Nat) (p0:List Int) (p1:Int):Option (Int):=T56c F p0 p1 some
theorem T56n (F:Nat) (p0:List Int) (p1:Int) {β:Type} (k:Int->Option β):T56c F p0 p1 k=(T56 F p0 p1).bind k:=by
 simp only [T56,T56c,Option.bind_assoc,cond_bind,Option.bind_some,Option.bind_none,elimS_bind]
abbrev cA56:List Sh:=[(.ro .i),.i]
abbrev cB56:List Sh:=[.i]
abbrev cT56:List TSh:=[]
abbrev cU56:List TSh:=[]
def ct56 (F:Nat):Ct:=mkC 0 cA56 cT56 cB56 cU56 (fun x y=>T56 F x.1 x.2.1) (fun x y (z:Int)=>((z,()),()))
theorem eq56 (F:Nat) (x:dens cA56) (y:tdens cT56):sev (E56 F) 0 [([1,0,1],lc56_2 F)] (bodyOf Tryd.f56) [] (mkSt (rng 2) cA56 cT56 x y) (kFn (E56 F) 0 Tryd.f56.results.toList cB56 cU56 fun p q=>some (p,q)) =
  T56c F x.1 x.2.1 (fun z=>some ((z,()),())):=by kernel_rfl
theorem ok56 (F:Nat):Sound Tryd.prog cfg 56 (ct56 F):=
 mkC_ok (E:=E56 F) (lp:=[([1,0,1],lc56_2 F)]) (code:=bodyOf Tryd.f56) Tryd.func56 rfl Tryd.ntmps56 rfl rfl cok (cts56 F) mixed ⟨lo56_2 F,trivial⟩ (by kernel_rfl) (fun x y k=>T56c F x.1 x.2.1 k) (fun x y k=>T56n F x.1 x.2.1 k) (eq56 F)
def ord26:Nat->List (Tag×Nat)
 | _=>[]
def al26:Nat->Option Nat
 | _=>none
def ms26:Nat->Option (List (Option Tag×Nat×List Nat))
 | _=>none
def E26 (F:Nat):Ev:=⟨cfg,9,ctOf [(56,ct56 F)],ord26,ctOf [],al26,ms26⟩
theorem cts26 (F:Nat):CtsOk Tryd.prog (E26 F):=cts_of (l:=[(56,ct56 F)]) (l':=[]) rfl rfl ⟨⟨ok56 F,_,Tryd.func56,rfl,rfl⟩,trivial⟩ trivial
def T26c (F:Nat) (p0:List Int) (p1:Int) {β:Type} (k:Bool->Option β):Option β:=
 (Option.bind (T56 F p0 p1) fun z2=>(k (decide ((0:Int)≤z2))))
def T26 (F:Nat) (p0:List Int) (p1:Int):Option (Bool):=T26c F p0 p1 some
theorem T26n (F:Nat) (p0:List Int) (p1:Int) {β:Type} (k:Bool->Option β):T26c F p0 p1 k=(T26 F p0 p1).bind k:=by
 simp only [T26,T26c,Option.bind_assoc,cond_bind,Option.bind_some,Option.bind_none,elimS_bind]
abbrev cA26:List Sh:=[(.ro .i),.i]
abbrev cB26:List Sh:=[.bo]
abbrev cT26:List TSh:=[]
abbrev cU26:List TSh:=[]
def ct26 (F:Nat):Ct:=mkC 0 cA26 cT26 cB26 cU26 (fun x y=>T26 F x.1 x.2.1) (fun x y (z:Bool)=>((z,()),()))
theorem eq26 (F:Nat) (x:dens cA26) (y:tdens cT26):sev (E26 F) 0 [] (bodyOf Tryd.f26) [] (mkSt (rng 2) cA26 cT26 x y) (kFn (E26 F) 0 Tryd.f26.results.toList cB26 cU26 fun p q=>some (p,q)) =
  T26c F x.1 x.2.1 (fun z=>some ((z,()),())):=by kernel_rfl
theorem ok26 (F:Nat):Sound Tryd.prog cfg 26 (ct26 F):=
 mkC_ok (E:=E26 F) (lp:=[]) (code:=bodyOf Tryd.f26) Tryd.func26 rfl Tryd.ntmps26 rfl rfl cok (cts26 F) mixed trivial (by kernel_rfl) (fun x y k=>T26c F x.1 x.2.1 k) (fun x y k=>T26n F x.1 x.2.1 k) (eq26 F)
def ord27:Nat->List (Tag×Nat)
 | _=>[]
def al27:Nat->Option Nat
 | _=>none
def ms27:Nat->Option (List (Option Tag×Nat×List Nat))
 | _=>none
def E27 (F:Nat):Ev:=⟨cfg,9,ctOf [],ord27,ctOf [],al27,ms27⟩
theorem cts27 (F:Nat):CtsOk Tryd.prog (E27 F):=cts_of (l:=[]) (l':=[]) rfl rfl trivial trivial
def T27c (F:Nat) (p1:Int) {β:Type} (k:Unit->Option β):Option β:=
 (bif (decide (p1 < (1:Int))) then none else (k ()))
def T27 (F:Nat) (p1:Int):Option (Unit):=T27c F p1 some
theorem T27n (F:Nat) (p1:Int) {β:Type} (k:Unit->Option β):T27c F p1 k=(T27 F p1).bind k:=by
 simp only [T27,T27c,Option.bind_assoc,cond_bind,Option.bind_some,Option.bind_none,elimS_bind]
abbrev cA27:List Sh:=[(.ro .u8),.i]
abbrev cB27:List Sh:=[(.fn 57 .un (.pr (.pt 0 []) (.pr (.pt 1 []) .un)))]
abbrev cT27:List TSh:=[]
abbrev cU27:List TSh:=[.blk 23 (.ro .u8),.blk 3 .i]
def ct27 (F:Nat):Ct:=mkC 0 cA27 cT27 cB27 cU27 (fun x y=>T27 F x.2.1) (fun x y (z:Unit)=>((((),((),(),())),()),(x.1,x.2.1,())))
theorem eq27 (F:Nat) (x:dens cA27) (y:tdens cT27):sev (E27 F) 0 [] (bodyOf Tryd.f27) [] (mkSt (rng 2) cA27 cT27 x y) (kFn (E27 F) 0 Tryd.f27.results.toList cB27 cU27 fun p q=>some (p,q)) =
  T27c F x.2.1 (fun z=>some ((((),((),(),())),()),(x.1,x.2.1,()))):=by kernel_rfl
theorem ok27 (F:Nat):Sound Tryd.prog cfg 27 (ct27 F):=
 mkC_ok (E:=E27 F) (lp:=[]) (code:=bodyOf Tryd.f27) Tryd.func27 rfl Tryd.ntmps27 rfl rfl cok (cts27 F) mixed trivial (by kernel_rfl) (fun x y k=>T27c F x.2.1 k) (fun x y k=>T27n F x.2.1 k) (eq27 F)
def ord58:Nat->List (Tag×Nat)
 | _=>[]
def al58:Nat->Option Nat
 | _=>none
def ms58:Nat->Option (List (Option Tag×Nat×List Nat))
 | _=>none
def E58 (F:Nat):Ev:=⟨cfg,21,ctOf [],ord58,ctOf [],al58,ms58⟩
theorem cts58 (F:Nat):CtsOk Tryd.prog (E58 F):=cts_of (l:=[]) (l':=[]) rfl rfl trivial trivial
def L58_2c (F:Nat) (y10:Int) (y11:List (List UInt8)) (y12:Int) (y13:Int) {β:Type} (kA:Int->Option β) (kO:Unit->Option β) (kR:Bool->Option β):Option β:=
 (bif (decide (y13 < y12)) then (Option.bind (ix y11 y13) fun x15=>(bif ((x15.length:Int) != y10) then (kR false) else (kA (w64 (y13 + (1:Int)))))) else (kO ()))
def L58_2 (F:Nat) (y10:Int) (y11:List (List UInt8)) (y12:Int) (y13:Int):Option ((Int) ⊕ ((Unit) ⊕ (Bool))):=L58_2c F y10 y11 y12 y13 (fun s=>some (.inl s)) (fun z=>some (.inr (.inl z))) (fun z=>some (.inr (.inr z)))
theorem L58_2n (F:Nat) (y10:Int) (y11:List (List UInt8)) (y12:Int) (y13:Int) {β:Type} (kA:Int->Option β) (kO:Unit->Option β) (kR:Bool->Option β):L58_2c F y10 y11 y12 y13 kA kO kR=(L58_2 F y10 y11 y12 y13).bind (elimS kA (elimS kO kR)):=by
 simp only [L58_2,L58_2c,Option.bind_assoc,cond_bind,Option.bind_some,Option.bind_none,elimS_l,elimS_r,elimS_bind]
abbrev sA58_2:List Sh:=[(.ro (.sl .u8)),.i,(.ro (.sl .u8)),.i,.i]
abbrev sAp158_2:List Sh:=[(.ro (.sl .u8))]
abbrev sAp258_2:List Sh:=[.bo]
abbrev sT58_2:List TSh:=[]
abbrev sTp158_2:List TSh:=[]
abbrev sTp258_2:List TSh:=[]
def lc58_2 (F:Nat):Lc:=mkR [0,1,7,8,9] sA58_2 sT58_2 [0] sAp158_2 sTp158_2 [4] sAp258_2 sTp258_2 F (fun x y (s:Int)=>L58_2 F x.2.1 x.2.2.1 x.2.2.2.1 s) (fun x y=>x.2.2.2.2.1) (fun x y (z:Unit)=>((x.1,()),())) (fun x y (z:Bool)=>((z,()),()))
theorem le58_2 (F:Nat) (x:dens sA58_2) (y:tdens sT58_2) (s:Int):sev (E58 F) 0 [] (cAt (bodyOf Tryd.f58) (0 :: 0 :: [1,0,1])) (0 :: 0 :: [1,0,1]) (mkSt [0,1,7,8,9] sA58_2 sT58_2 (x.1,x.2.1,x.2.2.1,x.2.2.2.1,s,()) ()) (kLoop 0 [0,1,7,8,9] sA58_2 sT58_2 [0] sAp158_2 sTp158_2 [4] sAp258_2 sTp258_2 0 (fun x y=>some (.inl (x,y))) (fun x y=>some (.inr (.inl (x,y)))) (fun x y=>some (.inr (.inr (x,y))))) =
  L58_2c (β:=Full sA58_2 sT58_2 sAp158_2 sTp158_2 sAp258_2 sTp258_2) F x.2.1 x.2.2.1 x.2.2.2.1 s (fun s=>some (.inl ((x.1,x.2.1,x.2.2.1,x.2.2.2.1,s,()),()))) (fun z=>some (.inr (.inl ((x.1,()),())))) (fun z=>some (.inr (.inr ((z,()),())))):=by kernel_rfl
theorem lo58_2 (F:Nat):LcOk Tryd.prog (E58 F) 0 (lc58_2 F) (cAt (bodyOf Tryd.f58) [1,0,1]):=
 mkR_ok (lp:=[]) (id:=0) (b:=cAt (bodyOf Tryd.f58) (0 :: 0 :: [1,0,1])) cok (cts58 F) mixed trivial (by kernel_rfl) (by kernel_rfl) (fun x y s=>(x.1,x.2.1,x.2.2.1,x.2.2.2.1,s,())) (fun x y s=>()) (fun x y=>rfl) (fun x y=>rfl) (fun x y s kA kO kR=>L58_2c F x.2.1 x.2.2.1 x.2.2.2.1 s kA kO kR) (fun x y s kA kO kR=>L58_2n F x.2.1 x.2.2.1 x.2.2.2.1 s kA kO kR) (le58_2 F)
def T58c (F:Nat) (p0:List (List UInt8)) (p1:Int) {β:Type} (k:Bool->Option β):Option β:=
 (Option.bind (iter (fun s=>L58_2 F p1 p0 (p0.length:Int) s) F (0:Int)) fun z16=>elimS (fun z16=>(k (decide ((p0.length:Int) < (16:Int))))) (fun z16=>(k z16)) z16)
def T58 (F:Nat) (p0:List (List UInt8)) (p1:Int):Option (Bool):=T58c F p0 p1 some
theorem T58n (F:Nat) (p0:List (List UInt8)) (p1:Int) {β:Type} (k:Bool->Option β):T58c F p0 p1 k=(T58 F p0 p1).bind k:=by
 simp only [T58,T58c,Option.bind_assoc,cond_bind,Option.bind_some,Option.bind_none,elimS_bind]
abbrev cA58:List Sh:=[(.ro (.sl .u8)),.i]
abbrev cB58:List Sh:=[.bo]
abbrev cT58:List TSh:=[]
abbrev cU58:List TSh:=[]
def ct58 (F:Nat):Ct:=mkC 0 cA58 cT58 cB58 cU58 (fun x y=>T58 F x.1 x.2.1) (fun x y (z:Bool)=>((z,()),()))
theorem eq58 (F:Nat) (x:dens cA58) (y:tdens cT58):sev (E58 F) 0 [([1,0,1],lc58_2 F)] (bodyOf Tryd.f58) [] (mkSt (rng 2) cA58 cT58 x y) (kFn (E58 F) 0 Tryd.f58.results.toList cB58 cU58 fun p q=>some (p,q)) =
  T58c F x.1 x.2.1 (fun z=>some ((z,()),())):=by kernel_rfl
theorem ok58 (F:Nat):Sound Tryd.prog cfg 58 (ct58 F):=
 mkC_ok (E:=E58 F) (lp:=[([1,0,1],lc58_2 F)]) (code:=bodyOf Tryd.f58) Tryd.func58 rfl Tryd.ntmps58 rfl rfl cok (cts58 F) mixed ⟨lo58_2 F,trivial⟩ (by kernel_rfl) (fun x y k=>T58c F x.1 x.2.1 k) (fun x y k=>T58n F x.1 x.2.1 k) (eq58 F)
def ord76:Nat->List (Tag×Nat)
 | _=>[]
def al76:Nat->Option Nat
 | _=>none
def ms76:Nat->Option (List (Option Tag×Nat×List Nat))
 | _=>none
def E76 (F:Nat):Ev:=⟨cfg,9,ctOf [],ord76,ctOf [],al76,ms76⟩
theorem cts76 (F:Nat):CtsOk Tryd.prog (E76 F):=cts_of (l:=[]) (l':=[]) rfl rfl trivial trivial
def T76c (F:Nat) (p0:Int) {β:Type} (k:Bool->Option β):Option β:=
 (bif (decide ((1:Int)≤p0)) then (k (decide (p0≤(255:Int)))) else (k false))
def T76 (F:Nat) (p0:Int):Option (Bool):=T76c F p0 some
theorem T76n (F:Nat) (p0:Int) {β:Type} (k:Bool->Option β):T76c F p0 k=(T76 F p0).bind k:=by
 simp only [T76,T76c,Option.bind_assoc,cond_bind,Option.bind_some,Option.bind_none,elimS_bind]
abbrev cA76:List Sh:=[.i]
abbrev cB76:List Sh:=[.bo]
abbrev cT76:List TSh:=[]
abbrev cU76:List TSh:=[]
def ct76 (F:Nat):Ct:=mkC 0 cA76 cT76 cB76 cU76 (fun x y=>T76 F x.1) (fun x y (z:Bool)=>((z,()),()))
theorem eq76 (F:Nat) (x:dens cA76) (y:tdens cT76):sev (E76 F) 0 [] (bodyOf Tryd.f76) [] (mkSt (rng 1) cA76 cT76 x y) (kFn (E76 F) 0 Tryd.f76.results.toList cB76 cU76 fun p q=>some (p,q)) =
  T76c F x.1 (fun z=>some ((z,()),())):=by kernel_rfl
theorem ok76 (F:Nat):Sound Tryd.prog cfg 76 (ct76 F):=
 mkC_ok (E:=E76 F) (lp:=[]) (code:=bodyOf Tryd.f76) Tryd.func76 rfl Tryd.ntmps76 rfl rfl cok (cts76 F) mixed trivial (by kernel_rfl) (fun x y k=>T76c F x.1 k) (fun x y k=>T76n F x.1 k) (eq76 F)
def ord59:Nat->List (Tag×Nat)
 | _=>[]
def al59:Nat->Option Nat
 | _=>none
def ms59:Nat->Option (List (Option Tag×Nat×List Nat))
 | _=>none
def E59 (F:Nat):Ev:=⟨cfg,26,ctOf [(76,ct76 F)],ord59,ctOf [],al59,ms59⟩
theorem cts59 (F:Nat):CtsOk Tryd.prog (E59 F):=cts_of (l:=[(76,ct76 F)]) (l':=[]) rfl rfl ⟨⟨ok76 F,_,Tryd.func76,rfl,rfl⟩,trivial⟩ trivial
def L59_2c (F:Nat) (y16:List Int) (y17:Int) (y18:Int) (y19:Vector Bool 256) {β:Type} (kA:(Int×(Vector Bool 256))->Option β) (kO:Unit->Option β) (kR:Bool->Option β):Option β:=
 (bif (decide (y18 < y17)) then (Option.bind (ix y16 y18) fun x25=>(Option.bind (T76 F x25) fun z26=>(bif (!z26) then (kR false) else (Option.bind (inb 256 x25) fun x27=>(Option.bind (vat y19 x27) fun x28=>(bif x28 then (kR false) else (Option.bind (inb 256 x25) fun x29=>(kA ((w64 (y18 + (1:Int))),(Vector.setIfInBounds y19 x29 true)))))))))) else (kO ()))
def L59_2 (F:Nat) (y16:List Int) (y17:Int) (y18:Int) (y19:Vector Bool 256):Option ((Int×(Vector Bool 256)) ⊕ ((Unit) ⊕ (Bool))):=L59_2c F y16 y17 y18 y19 (fun s=>some (.inl s)) (fun z=>some (.inr (.inl z))) (fun z=>some (.inr (.inr z)))
theorem L59_2n (F:Nat) (y16:List Int) (y17:Int) (y18:Int) (y19:Vector Bool 256) {β:Type} (kA:(Int×(Vector Bool 256))->Option β) (kO:Unit->Option β) (kR:Bool->Option β):L59_2c F y16 y17 y18 y19 kA kO kR=(L59_2 F y16 y17 y18 y19).bind (elimS kA (elimS kO kR)):=by
 simp only [L59_2,L59_2c,Option.bind_assoc,cond_bind,Option.bind_some,Option.bind_none,elimS_l,elimS_r,elimS_bind]
abbrev sA59_2:List Sh:=[(.pt 0 []),(.ro .i),.i,.i]
abbrev sAp159_2:List Sh:=[]
abbrev sAp259_2:List Sh:=[.bo]
abbrev sT59_2:List TSh:=[.blk 117 (.ar 256 .bo)]
abbrev sTp159_2:List TSh:=[]
abbrev sTp259_2:List TSh:=[]
def lc59_2 (F:Nat):Lc:=mkR [3,9,10,11] sA59_2 sT59_2 [] sAp159_2 sTp159_2 [2] sAp259_2 sTp259_2 F (fun x y (s:Int×(Vector Bool 256))=>L59_2 F x.2.1 x.2.2.1 s.1 s.2) (fun x y=>(x.2.2.2.1,y.1)) (fun x y (z:Unit)=>((),())) (fun x y (z:Bool)=>((z,()),()))
theorem le59_2 (F:Nat) (x:dens sA59_2) (y:tdens sT59_2) (s:Int×(Vector Bool 256)):sev (E59 F) 0 [] (cAt (bodyOf Tryd.f59) (0 :: 0 :: [1,0,1,1,1])) (0 :: 0 :: [1,0,1,1,1]) (mkSt [3,9,10,11] sA59_2 sT59_2 ((),x.2.1,x.2.2.1,s.1,()) (s.2,())) (kLoop 0 [3,9,10,11] sA59_2 sT59_2 [] sAp159_2 sTp159_2 [2] sAp259_2 sTp259_2 0 (fun x y=>some (.inl (x,y))) (fun x y=>some (.inr (.inl (x,y)))) (fun x y=>some (.inr (.inr (x,y))))) =
  L59_2c (β:=Full sA59_2 sT59_2 sAp159_2 sTp159_2 sAp259_2 sTp259_2) F x.2.1 x.2.2.1 s.1 s.2 (fun s=>some (.inl (((),x.2.1,x.2.2.1,s.1,()),(s.2,())))) (fun z=>some (.inr (.inl ((),())))) (fun z=>some (.inr (.inr ((z,()),())))):=by kernel_rfl
theorem lo59_2 (F:Nat):LcOk Tryd.prog (E59 F) 0 (lc59_2 F) (cAt (bodyOf Tryd.f59) [1,0,1,1,1]):=
 mkR_ok (lp:=[]) (id:=0) (b:=cAt (bodyOf Tryd.f59) (0 :: 0 :: [1,0,1,1,1])) cok (cts59 F) mixed trivial (by kernel_rfl) (by kernel_rfl) (fun x y s=>((),x.2.1,x.2.2.1,s.1,())) (fun x y s=>(s.2,())) (fun x y=>rfl) (fun x y=>rfl) (fun x y s kA kO kR=>L59_2c F x.2.1 x.2.2.1 s.1 s.2 kA kO kR) (fun x y s kA kO kR=>L59_2n F x.2.1 x.2.2.1 s.1 s.2 kA kO kR) (le59_2 F)
def T59c (F:Nat) (p0:List Int) {β:Type} (k:Bool->Option β):Option β:=
 (bif (decide ((64:Int) < (p0.length:Int))) then (k false) else (Option.bind (iter (fun s=>L59_2 F p0 (p0.length:Int) s.1 s.2) F ((0:Int),(Vector.replicate 256 false))) fun z30=>elimS (fun z30=>(k true)) (fun z30=>(k z30)) z30))
def T59 (F:Nat) (p0:List Int):Option (Bool):=T59c F p0 some
theorem T59n (F:Nat) (p0:List Int) {β:Type} (k:Bool->Option β):T59c F p0 k=(T59 F p0).bind k:=by
 simp only [T59,T59c,Option.bind_assoc,cond_bind,Option.bind_some,Option.bind_none,elimS_bind]
abbrev cA59:List Sh:=[(.ro .i)]
abbrev cB59:List Sh:=[.bo]
abbrev cT59:List TSh:=[]
abbrev cU59:List TSh:=[]
def ct59 (F:Nat):Ct:=mkC 0 cA59 cT59 cB59 cU59 (fun x y=>T59 F x.1) (fun x y (z:Bool)=>((z,()),()))
theorem eq59 (F:Nat) (x:dens cA59) (y:tdens cT59):sev (E59 F) 0 [([1,0,1,1,1],lc59_2 F)] (bodyOf Tryd.f59) [] (mkSt (rng 1) cA59 cT59 x y) (kFn (E59 F) 0 Tryd.f59.results.toList cB59 cU59 fun p q=>some (p,q)) =
  T59c F x.1 (fun z=>some ((z,()),())):=by kernel_rfl
theorem ok59 (F:Nat):Sound Tryd.prog cfg 59 (ct59 F):=
 mkC_ok (E:=E59 F) (lp:=[([1,0,1,1,1],lc59_2 F)]) (code:=bodyOf Tryd.f59) Tryd.func59 rfl Tryd.ntmps59 rfl rfl cok (cts59 F) mixed ⟨lo59_2 F,trivial⟩ (by kernel_rfl) (fun x y k=>T59c F x.1 k) (fun x y k=>T59n F x.1 k) (eq59 F)
def T80 (F:Nat) (p1:Int):Option (List (List UInt8)):=TGrow F p1
def ct80 (F:Nat):Ct:=mkC 0 [.ns,.i] [] [(.rw 0)] [.row 23 (.sl .u8)] (fun x y=>T80 F x.2.1) (fun x y (z:List (List UInt8))=>(((),()),(z,())))
theorem ok80 (F:Nat):Sound Tryd.prog cfg 80 (ct80 F):=grow_ok F
def ord61:Nat->List (Tag×Nat)
 | _=>[]
def al61:Nat->Option Nat
 | _=>none
def ms61:Nat->Option (List (Option Tag×Nat×List Nat))
 | _=>none
def E61 (F:Nat):Ev:=⟨cfg,36,ctOf [(80,ct80 F)],ord61,ctOf [],al61,ms61⟩
theorem cts61 (F:Nat):CtsOk Tryd.prog (E61 F):=cts_of (l:=[(80,ct80 F)]) (l':=[]) rfl rfl ⟨⟨ok80 F,_,Tryd.func80,rfl,rfl⟩,trivial⟩ trivial
def L61_3c (F:Nat) (y21:List (List (List UInt8))) (y22:Int) (y20:Int) (y23:Int) {β:Type} (kA:(Int×Int)->Option β) (kO:Int->Option β):Option β:=
 (bif (decide (y23 < y22)) then (Option.bind (ix y21 y23) fun x25=>(bif (decide ((w64 (y20 + (x25.length:Int))) < (0:Int))) then none else (kA ((w64 (y20 + (x25.length:Int))),(w64 (y23 + (1:Int))))))) else (kO y20))
def L61_3 (F:Nat) (y21:List (List (List UInt8))) (y22:Int) (y20:Int) (y23:Int):Option ((Int×Int) ⊕ (Int)):=L61_3c F y21 y22 y20 y23 (fun s=>some (.inl s)) (fun z=>some (.inr z))
theorem L61_3n (F:Nat) (y21:List (List (List UInt8))) (y22:Int) (y20:Int) (y23:Int) {β:Type} (kA:(Int×Int)->Option β) (kO:Int->Option β):L61_3c F y21 y22 y20 y23 kA kO=(L61_3 F y21 y22 y20 y23).bind (elimS kA kO):=by
 simp only [L61_3,L61_3c,Option.bind_assoc,cond_bind,Option.bind_some,Option.bind_none,elimS_l,elimS_r,elimS_bind]
abbrev sA61_3:List Sh:=[(.ro (.sl (.sl .u8))),.i,(.ro (.sl (.sl .u8))),.i,.i]
abbrev sAp161_3:List Sh:=[(.ro (.sl (.sl .u8))),.i]
abbrev sT61_3:List TSh:=[]
abbrev sTp161_3:List TSh:=[]
def lc61_3 (F:Nat):Lc:=mkL [0,3,9,10,11] sA61_3 sT61_3 [0,3] sAp161_3 sTp161_3 F (fun x y (s:Int×Int)=>L61_3 F x.2.2.1 x.2.2.2.1 s.1 s.2) (fun x y=>(x.2.1,x.2.2.2.2.1)) (fun x y (z:Int)=>((x.1,z,()),()))
theorem le61_3 (F:Nat) (x:dens sA61_3) (y:tdens sT61_3) (s:Int×Int):sev (E61 F) 0 [] (cAt (bodyOf Tryd.f61) (0 :: 0 :: [1,0,1,1])) (0 :: 0 :: [1,0,1,1]) (mkSt [0,3,9,10,11] sA61_3 sT61_3 (x.1,s.1,x.2.2.1,x.2.2.2.1,s.2,()) ()) (kLoop 0 [0,3,9,10,11] sA61_3 sT61_3 [0,3] sAp161_3 sTp161_3 [] [] [] 0 (fun x y=>some (.inl (x,y))) (fun x y=>some (.inr (.inl (x,y)))) (fun x y=>some (.inr (.inr (x,y))))) =
  L61_3c (β:=Full sA61_3 sT61_3 sAp161_3 sTp161_3 [] []) F x.2.2.1 x.2.2.2.1 s.1 s.2 (fun s=>some (.inl ((x.1,s.1,x.2.2.1,x.2.2.2.1,s.2,()),()))) (fun z=>some (.inr (.inl ((x.1,z,()),())))):=by kernel_rfl
theorem lo61_3 (F:Nat):LcOk Tryd.prog (E61 F) 0 (lc61_3 F) (cAt (bodyOf Tryd.f61) [1,0,1,1]):=
 mkL_ok (lp:=[]) (id:=0) (b:=cAt (bodyOf Tryd.f61) (0 :: 0 :: [1,0,1,1])) cok (cts61 F) mixed trivial (by kernel_rfl) (by kernel_rfl) (fun x y s=>(x.1,s.1,x.2.2.1,x.2.2.2.1,s.2,())) (fun x y s=>()) (fun x y=>rfl) (fun x y=>rfl) (fun x y s kA kO=>L61_3c F x.2.2.1 x.2.2.2.1 s.1 s.2 kA kO) (fun x y s kA kO=>L61_3n F x.2.2.1 x.2.2.2.1 s.1 s.2 kA kO) (le61_3 F)
def L61_4c (F:Nat) (y28:List (List (List UInt8))) (y29:Int) (y30:Int) (y31:List (List UInt8)) {β:Type} (kA:(Int×(List (List UInt8)))->Option β) (kO:((List (List UInt8)))->Option β):Option β:=
 (bif (decide (y30 < y29)) then (Option.bind (ix y28 y30) fun x34=>(Option.bind (gapp y31 x34) fun x35=>(kA ((w64 (y30 + (1:Int))),x35)))) else (kO y31))
def L61_4 (F:Nat) (y28:List (List (List UInt8))) (y29:Int) (y30:Int) (y31:List (List UInt8)):Option ((Int×(List (List UInt8))) ⊕ ((List (List UInt8)))):=L61_4c F y28 y29 y30 y31 (fun s=>some (.inl s)) (fun z=>some (.inr z))
theorem L61_4n (F:Nat) (y28:List (List (List UInt8))) (y29:Int) (y30:Int) (y31:List (List UInt8)) {β:Type} (kA:(Int×(List (List UInt8)))->Option β) (kO:((List (List UInt8)))->Option β):L61_4c F y28 y29 y30 y31 kA kO=(L61_4 F y28 y29 y30 y31).bind (elimS kA kO):=by
 simp only [L61_4,L61_4c,Option.bind_assoc,cond_bind,Option.bind_some,Option.bind_none,elimS_l,elimS_r,elimS_bind]
abbrev sA61_4:List Sh:=[(.rw 0),(.ro (.sl (.sl .u8))),.i,.i]
abbrev sAp161_4:List Sh:=[(.rw 0)]
abbrev sT61_4:List TSh:=[.row 23 (.sl .u8)]
abbrev sTp161_4:List TSh:=[.row 23 (.sl .u8)]
def lc61_4 (F:Nat):Lc:=mkL [6,25,26,27] sA61_4 sT61_4 [6] sAp161_4 sTp161_4 F (fun x y (s:Int×(List (List UInt8)))=>L61_4 F x.2.1 x.2.2.1 s.1 s.2) (fun x y=>(x.2.2.2.1,y.1)) (fun x y (z:(List (List UInt8)))=>(((),()),(z,())))
theorem le61_4 (F:Nat) (x:dens sA61_4) (y:tdens sT61_4) (s:Int×(List (List UInt8))):sev (E61 F) 0 [] (cAt (bodyOf Tryd.f61) (0 :: 0 :: [1,0,1,1,1,1])) (0 :: 0 :: [1,0,1,1,1,1]) (mkSt [6,25,26,27] sA61_4 sT61_4 ((),x.2.1,x.2.2.1,s.1,()) (s.2,())) (kLoop 0 [6,25,26,27] sA61_4 sT61_4 [6] sAp161_4 sTp161_4 [] [] [] 2 (fun x y=>some (.inl (x,y))) (fun x y=>some (.inr (.inl (x,y)))) (fun x y=>some (.inr (.inr (x,y))))) =
  L61_4c (β:=Full sA61_4 sT61_4 sAp161_4 sTp161_4 [] []) F x.2.1 x.2.2.1 s.1 s.2 (fun s=>some (.inl (((),x.2.1,x.2.2.1,s.1,()),(s.2,())))) (fun z=>some (.inr (.inl (((),()),(z,()))))):=by kernel_rfl
theorem lo61_4 (F:Nat):LcOk Tryd.prog (E61 F) 0 (lc61_4 F) (cAt (bodyOf Tryd.f61) [1,0,1,1,1,1]):=
 mkL_ok (lp:=[]) (id:=2) (b:=cAt (bodyOf Tryd.f61) (0 :: 0 :: [1,0,1,1,1,1])) cok (cts61 F) mixed trivial (by kernel_rfl) (by kernel_rfl) (fun x y s=>((),x.2.1,x.2.2.1,s.1,())) (fun x y s=>(s.2,())) (fun x y=>rfl) (fun x y=>rfl) (fun x y s kA kO=>L61_4c F x.2.1 x.2.2.1 s.1 s.2 kA kO) (fun x y s kA kO=>L61_4n F x.2.1 x.2.2.1 s.1 s.2 kA kO) (le61_4 F)
def T61c (F:Nat) (p0:List (List (List UInt8))) {β:Type} (k:((List (List UInt8)))->Option β):Option β:=
 (Option.bind (iter (fun s=>L61_3 F p0 (p0.length:Int) s.1 s.2) F ((0:Int),(0:Int))) fun z26=>(Option.bind (T80 F z26) fun z27=>(Option.bind (iter (fun s=>L61_4 F p0 (p0.length:Int) s.1 s.2) F ((0:Int),z27)) fun z36=>(k z36))))
def T61 (F:Nat) (p0:List (List (List UInt8))):Option ((List (List UInt8))):=T61c F p0 some
theorem T61n (F:Nat) (p0:List (List (List UInt8))) {β:Type} (k:((List (List UInt8)))->Option β):T61c F p0 k=(T61 F p0).bind k:=by
 simp only [T61,T61c,Option.bind_assoc,cond_bind,Option.bind_some,Option.bind_none,elimS_bind]
abbrev cA61:List Sh:=[(.ro (.sl (.sl .u8)))]
abbrev cB61:List Sh:=[(.rw 0)]
abbrev cT61:List TSh:=[]
abbrev cU61:List TSh:=[.row 23 (.sl .u8)]
def ct61 (F:Nat):Ct:=mkC 0 cA61 cT61 cB61 cU61 (fun x y=>T61 F x.1) (fun x y (z:(List (List UInt8)))=>(((),()),(z,())))
theorem eq61 (F:Nat) (x:dens cA61) (y:tdens cT61):sev (E61 F) 0 [([1,0,1,1],lc61_3 F),([1,0,1,1,1,1],lc61_4 F)] (bodyOf Tryd.f61) [] (mkSt (rng 1) cA61 cT61 x y) (kFn (E61 F) 0 Tryd.f61.results.toList cB61 cU61 fun p q=>some (p,q)) =
  T61c F x.1 (fun z=>some (((),()),(z,()))):=by kernel_rfl
theorem ok61 (F:Nat):Sound Tryd.prog cfg 61 (ct61 F):=
 mkC_ok (E:=E61 F) (lp:=[([1,0,1,1],lc61_3 F),([1,0,1,1,1,1],lc61_4 F)]) (code:=bodyOf Tryd.f61) Tryd.func61 rfl Tryd.ntmps61 rfl rfl cok (cts61 F) mixed ⟨lo61_3 F,⟨lo61_4 F,trivial⟩⟩ (by kernel_rfl) (fun x y k=>T61c F x.1 k) (fun x y k=>T61n F x.1 k) (eq61 F)
def ord60:Nat->List (Tag×Nat)
 | _=>[]
def al60:Nat->Option Nat
 | _=>none
def ms60:Nat->Option (List (Option Tag×Nat×List Nat))
 | _=>none
def E60 (F:Nat):Ev:=⟨cfg,4,ctOf [],ord60,ctOf [],al60,ms60⟩
theorem cts60 (F:Nat):CtsOk Tryd.prog (E60 F):=cts_of (l:=[]) (l':=[]) rfl rfl trivial trivial
def T60c (F:Nat) {β:Type} (k:Unit->Option β):Option β:=
 (k ())
def T60 (F:Nat):Option (Unit):=T60c F some
theorem T60n (F:Nat) {β:Type} (k:Unit->Option β):T60c F k=(T60 F).bind k:=by
 simp only [T60,T60c,Option.bind_assoc,cond_bind,Option.bind_some,Option.bind_none,elimS_bind]
abbrev cA60:List Sh:=[(.ro (.sl .u8))]
abbrev cB60:List Sh:=[(.fn 77 .un (.pr (.pt 0 []) .un))]
abbrev cT60:List TSh:=[]
abbrev cU60:List TSh:=[.blk 57 (.ro (.sl .u8))]
def ct60 (F:Nat):Ct:=mkC 0 cA60 cT60 cB60 cU60 (fun x y=>T60 F) (fun x y (z:Unit)=>((((),((),())),()),(x.1,())))
theorem eq60 (F:Nat) (x:dens cA60) (y:tdens cT60):sev (E60 F) 0 [] (bodyOf Tryd.f60) [] (mkSt (rng 1) cA60 cT60 x y) (kFn (E60 F) 0 Tryd.f60.results.toList cB60 cU60 fun p q=>some (p,q)) =
  T60c F (fun z=>some ((((),((),())),()),(x.1,()))):=by kernel_rfl
theorem ok60 (F:Nat):Sound Tryd.prog cfg 60 (ct60 F):=
 mkC_ok (E:=E60 F) (lp:=[]) (code:=bodyOf Tryd.f60) Tryd.func60 rfl Tryd.ntmps60 rfl rfl cok (cts60 F) mixed trivial (by kernel_rfl) (fun x y k=>T60c F k) (fun x y k=>T60n F k) (eq60 F)
def ord78:Nat->List (Tag×Nat)
 | _=>[]
def al78:Nat->Option Nat
 | _=>none
def ms78:Nat->Option (List (Option Tag×Nat×List Nat))
 | _=>none
def E78 (F:Nat):Ev:=⟨cfg,4,ctOf [],ord78,ctOf [],al78,ms78⟩
theorem cts78 (F:Nat):CtsOk Tryd.prog (E78 F):=cts_of (l:=[]) (l':=[]) rfl rfl trivial trivial
def T78c (F:Nat) {β:Type} (k:Unit->Option β):Option β:=
 (k ())
def T78 (F:Nat):Option (Unit):=T78c F some
theorem T78n (F:Nat) {β:Type} (k:Unit->Option β):T78c F k=(T78 F).bind k:=by
 simp only [T78,T78c,Option.bind_assoc,cond_bind,Option.bind_some,Option.bind_none,elimS_bind]
abbrev cA78:List Sh:=[(.ro (.sl .u8))]
abbrev cB78:List Sh:=[(.fn 94 .un (.pr (.pt 0 []) .un))]
abbrev cT78:List TSh:=[]
abbrev cU78:List TSh:=[.blk 57 (.ro (.sl .u8))]
def ct78 (F:Nat):Ct:=mkC 0 cA78 cT78 cB78 cU78 (fun x y=>T78 F) (fun x y (z:Unit)=>((((),((),())),()),(x.1,())))
theorem eq78 (F:Nat) (x:dens cA78) (y:tdens cT78):sev (E78 F) 0 [] (bodyOf Tryd.f78) [] (mkSt (rng 1) cA78 cT78 x y) (kFn (E78 F) 0 Tryd.f78.results.toList cB78 cU78 fun p q=>some (p,q)) =
  T78c F (fun z=>some ((((),((),())),()),(x.1,()))):=by kernel_rfl
theorem ok78 (F:Nat):Sound Tryd.prog cfg 78 (ct78 F):=
 mkC_ok (E:=E78 F) (lp:=[]) (code:=bodyOf Tryd.f78) Tryd.func78 rfl Tryd.ntmps78 rfl rfl cok (cts78 F) mixed trivial (by kernel_rfl) (fun x y k=>T78c F k) (fun x y k=>T78n F k) (eq78 F)
def ord114:Nat->List (Tag×Nat)
 | _=>[]
def al114:Nat->Option Nat
 | _=>none
def ms114:Nat->Option (List (Option Tag×Nat×List Nat))
 | _=>none
def E114 (F:Nat):Ev:=⟨cfg,11,ctOf [],ord114,ctOf [],al114,ms114⟩
theorem cts114 (F:Nat):CtsOk Tryd.prog (E114 F):=cts_of (l:=[]) (l':=[]) rfl rfl trivial trivial
def T114c (F:Nat) (p0:UInt8) {β:Type} (k:UInt8->Option β):Option β:=
 (bif ((p0 &&& (UInt8.ofNat 128)) != (UInt8.ofNat 0)) then (k ((shl8 p0 ((UInt64.ofNat 1).toNat)) ^^^ (UInt8.ofNat 29))) else (k (shl8 p0 ((UInt64.ofNat 1).toNat))))
def T114 (F:Nat) (p0:UInt8):Option (UInt8):=T114c F p0 some
theorem T114n (F:Nat) (p0:UInt8) {β:Type} (k:UInt8->Option β):T114c F p0 k=(T114 F p0).bind k:=by
 simp only [T114,T114c,Option.bind_assoc,cond_bind,Option.bind_some,Option.bind_none,elimS_bind]
abbrev cA114:List Sh:=[.u8]
abbrev cB114:List Sh:=[.u8]
abbrev cT114:List TSh:=[]
abbrev cU114:List TSh:=[]
def ct114 (F:Nat):Ct:=mkC 0 cA114 cT114 cB114 cU114 (fun x y=>T114 F x.1) (fun x y (z:UInt8)=>((z,()),()))
theorem eq114 (F:Nat) (x:dens cA114) (y:tdens cT114):sev (E114 F) 0 [] (bodyOf Tryd.f114) [] (mkSt (rng 1) cA114 cT114 x y) (kFn (E114 F) 0 Tryd.f114.results.toList cB114 cU114 fun p q=>some (p,q)) =
  T114c F x.1 (fun z=>some ((z,()),())):=by kernel_rfl
theorem ok114 (F:Nat):Sound Tryd.prog cfg 114 (ct114 F):=
 mkC_ok (E:=E114 F) (lp:=[]) (code:=bodyOf Tryd.f114) Tryd.func114 rfl Tryd.ntmps114 rfl rfl cok (cts114 F) mixed trivial (by kernel_rfl) (fun x y k=>T114c F x.1 k) (fun x y k=>T114n F x.1 k) (eq114 F)
def ord106:Nat->List (Tag×Nat)
 | _=>[]
def al106:Nat->Option Nat
 | _=>none
def ms106:Nat->Option (List (Option Tag×Nat×List Nat))
 | _=>none
def E106 (F:Nat):Ev:=⟨cfg,19,ctOf [(114,ct114 F)],ord106,ctOf [],al106,ms106⟩
theorem cts106 (F:Nat):CtsOk Tryd.prog (E106 F):=cts_of (l:=[(114,ct114 F)]) (l':=[]) rfl rfl ⟨⟨ok114 F,_,Tryd.func114,rfl,rfl⟩,trivial⟩ trivial
def L106_2c (F:Nat) (y9:UInt8) (y10:UInt8) (y11:UInt8) {β:Type} (kA:(UInt8×UInt8×UInt8)->Option β) (kO:UInt8->Option β):Option β:=
 (bif (y10 != (UInt8.ofNat 0)) then (bif ((y10 &&& (UInt8.ofNat 1)) == (UInt8.ofNat 1)) then (Option.bind (T114 F y9) fun z14=>(kA (z14,(shr8 y10 ((UInt64.ofNat 1).toNat)),(y11 ^^^ y9)))) else (Option.bind (T114 F y9) fun z15=>(kA (z15,(shr8 y10 ((UInt64.ofNat 1).toNat)),y11)))) else (kO y11))
def L106_2 (F:Nat) (y9:UInt8) (y10:UInt8) (y11:UInt8):Option ((UInt8×UInt8×UInt8) ⊕ (UInt8)):=L106_2c F y9 y10 y11 (fun s=>some (.inl s)) (fun z=>some (.inr z))
theorem L106_2n (F:Nat) (y9:UInt8) (y10:UInt8) (y11:UInt8) {β:Type} (kA:(UInt8×UInt8×UInt8)->Option β) (kO:UInt8->Option β):L106_2c F y9 y10 y11 kA kO=(L106_2 F y9 y10 y11).bind (elimS kA kO):=by
 simp only [L106_2,L106_2c,Option.bind_assoc,cond_bind,Option.bind_some,Option.bind_none,elimS_l,elimS_r,elimS_bind]
abbrev sA106_2:List Sh:=[.u8,.u8,.u8]
abbrev sAp1106_2:List Sh:=[.u8]
abbrev sT106_2:List TSh:=[]
abbrev sTp1106_2:List TSh:=[]
def lc106_2 (F:Nat):Lc:=mkL [0,1,5] sA106_2 sT106_2 [5] sAp1106_2 sTp1106_2 F (fun x y (s:UInt8×UInt8×UInt8)=>L106_2 F s.1 s.2.1 s.2.2) (fun x y=>(x.1,x.2.1,x.2.2.1)) (fun x y (z:UInt8)=>((z,()),()))
theorem le106_2 (F:Nat) (x:dens sA106_2) (y:tdens sT106_2) (s:UInt8×UInt8×UInt8):sev (E106 F) 0 [] (cAt (bodyOf Tryd.f106) (0 :: 0 :: [0,1,1])) (0 :: 0 :: [0,1,1]) (mkSt [0,1,5] sA106_2 sT106_2 (s.1,s.2.1,s.2.2,()) ()) (kLoop 0 [0,1,5] sA106_2 sT106_2 [5] sAp1106_2 sTp1106_2 [] [] [] 0 (fun x y=>some (.inl (x,y))) (fun x y=>some (.inr (.inl (x,y)))) (fun x y=>some (.inr (.inr (x,y))))) =
  L106_2c (β:=Full sA106_2 sT106_2 sAp1106_2 sTp1106_2 [] []) F s.1 s.2.1 s.2.2 (fun s=>some (.inl ((s.1,s.2.1,s.2.2,()),()))) (fun z=>some (.inr (.inl ((z,()),())))):=by kernel_rfl
theorem lo106_2 (F:Nat):LcOk Tryd.prog (E106 F) 0 (lc106_2 F) (cAt (bodyOf Tryd.f106) [0,1,1]):=
 mkL_ok (lp:=[]) (id:=0) (b:=cAt (bodyOf Tryd.f106) (0 :: 0 :: [0,1,1])) cok (cts106 F) mixed trivial (by kernel_rfl) (by kernel_rfl) (fun x y s=>(s.1,s.2.1,s.2.2,())) (fun x y s=>()) (fun x y=>rfl) (fun x y=>rfl) (fun x y s kA kO=>L106_2c F s.1 s.2.1 s.2.2 kA kO) (fun x y s kA kO=>L106_2n F s.1 s.2.1 s.2.2 kA kO) (le106_2 F)
def T106c (F:Nat) (p0:UInt8) (p1:UInt8) {β:Type} (k:UInt8->Option β):Option β:=
 (Option.bind (iter (fun s=>L106_2 F s.1 s.2.1 s.2.2) F (p0,p1,(UInt8.ofNat 0))) fun z16=>(k z16))
def T106 (F:Nat) (p0:UInt8) (p1:UInt8):Option (UInt8):=T106c F p0 p1 some
theorem T106n (F:Nat) (p0:UInt8) (p1:UInt8) {β:Type} (k:UInt8->Option β):T106c F p0 p1 k=(T106 F p0 p1).bind k:=by
 simp only [T106,T106c,Option.bind_assoc,cond_bind,Option.bind_some,Option.bind_none,elimS_bind]
abbrev cA106:List Sh:=[.u8,.u8]
abbrev cB106:List Sh:=[.u8]
abbrev cT106:List TSh:=[]
abbrev cU106:List TSh:=[]
def ct106 (F:Nat):Ct:=mkC 0 cA106 cT106 cB106 cU106 (fun x y=>T106 F x.1 x.2.1) (fun x y (z:UInt8)=>((z,()),()))
theorem eq106 (F:Nat) (x:dens cA106) (y:tdens cT106):sev (E106 F) 0 [([0,1,1],lc106_2 F)] (bodyOf Tryd.f106) [] (mkSt (rng 2) cA106 cT106 x y) (kFn (E106 F) 0 Tryd.f106.results.toList cB106 cU106 fun p q=>some (p,q)) =
  T106c F x.1 x.2.1 (fun z=>some ((z,()),())):=by kernel_rfl
theorem ok106 (F:Nat):Sound Tryd.prog cfg 106 (ct106 F):=
 mkC_ok (E:=E106 F) (lp:=[([0,1,1],lc106_2 F)]) (code:=bodyOf Tryd.f106) Tryd.func106 rfl Tryd.ntmps106 rfl rfl cok (cts106 F) mixed ⟨lo106_2 F,trivial⟩ (by kernel_rfl) (fun x y k=>T106c F x.1 x.2.1 k) (fun x y k=>T106n F x.1 x.2.1 k) (eq106 F)
def ord109:Nat->List (Tag×Nat)
 | _=>[]
def al109:Nat->Option Nat
 | _=>none
def ms109:Nat->Option (List (Option Tag×Nat×List Nat))
 | _=>none
def E109 (F:Nat):Ev:=⟨cfg,24,ctOf [(106,ct106 F)],ord109,ctOf [],al109,ms109⟩
theorem cts109 (F:Nat):CtsOk Tryd.prog (E109 F):=cts_of (l:=[(106,ct106 F)]) (l':=[]) rfl rfl ⟨⟨ok106 F,_,Tryd.func106,rfl,rfl⟩,trivial⟩ trivial
def L109_2c (F:Nat) (y14:UInt8) (y15:Int) (y16:Vector UInt8 16) (y17:Vector UInt8 16) {β:Type} (kA:(Int×(Vector UInt8 16)×(Vector UInt8 16))->Option β) (kO:((Vector UInt8 16)×(Vector UInt8 16))->Option β):Option β:=
 (bif (decide (y15 < (16:Int))) then (Option.bind (T106 F y14 (UInt8.ofInt y15)) fun z22=>(Option.bind (inb 16 y15) fun x23=>(Option.bind (T106 F y14 (UInt8.ofInt (w64 (y15 * 2 ^ min ((UInt64.ofNat 4).toNat) 64)))) fun z24=>(Option.bind (inb 16 y15) fun x25=>(kA ((w64 (y15 + (1:Int))),(Vector.setIfInBounds y16 x23 z22),(Vector.setIfInBounds y17 x25 z24))))))) else (kO (y16,y17)))
def L109_2 (F:Nat) (y14:UInt8) (y15:Int) (y16:Vector UInt8 16) (y17:Vector UInt8 16):Option ((Int×(Vector UInt8 16)×(Vector UInt8 16)) ⊕ ((Vector UInt8 16)×(Vector UInt8 16))):=L109_2c F y14 y15 y16 y17 (fun s=>some (.inl s)) (fun z=>some (.inr z))
theorem L109_2n (F:Nat) (y14:UInt8) (y15:Int) (y16:Vector UInt8 16) (y17:Vector UInt8 16) {β:Type} (kA:(Int×(Vector UInt8 16)×(Vector UInt8 16))->Option β) (kO:((Vector UInt8 16)×(Vector UInt8 16))->Option β):L109_2c F y14 y15 y16 y17 kA kO=(L109_2 F y14 y15 y16 y17).bind (elimS kA kO):=by
 simp only [L109_2,L109_2c,Option.bind_assoc,cond_bind,Option.bind_some,Option.bind_none,elimS_l,elimS_r,elimS_bind]
abbrev sA109_2:List Sh:=[.u8,(.pt 0 []),(.pt 1 []),.i]
abbrev sAp1109_2:List Sh:=[(.pt 0 []),(.pt 1 [])]
abbrev sT109_2:List TSh:=[.blk 168 (.ar 16 .u8),.blk 168 (.ar 16 .u8)]
abbrev sTp1109_2:List TSh:=[.blk 168 (.ar 16 .u8),.blk 168 (.ar 16 .u8)]
def lc109_2 (F:Nat):Lc:=mkL [0,3,4,6] sA109_2 sT109_2 [3,4] sAp1109_2 sTp1109_2 F (fun x y (s:Int×(Vector UInt8 16)×(Vector UInt8 16))=>L109_2 F x.1 s.1 s.2.1 s.2.2) (fun x y=>(x.2.2.2.1,y.1,y.2.1)) (fun x y (z:(Vector UInt8 16)×(Vector UInt8 16))=>(((),(),()),(z.1,z.2,())))
theorem le109_2 (F:Nat) (x:dens sA109_2) (y:tdens sT109_2) (s:Int×(Vector UInt8 16)×(Vector UInt8 16)):sev (E109 F) 0 [] (cAt (bodyOf Tryd.f109) (0 :: 0 :: [1,0,1,1])) (0 :: 0 :: [1,0,1,1]) (mkSt [0,3,4,6] sA109_2 sT109_2 (x.1,(),(),s.1,()) (s.2.1,s.2.2,())) (kLoop 0 [0,3,4,6] sA109_2 sT109_2 [3,4] sAp1109_2 sTp1109_2 [] [] [] 0 (fun x y=>some (.inl (x,y))) (fun x y=>some (.inr (.inl (x,y)))) (fun x y=>some (.inr (.inr (x,y))))) =
  L109_2c (β:=Full sA109_2 sT109_2 sAp1109_2 sTp1109_2 [] []) F x.1 s.1 s.2.1 s.2.2 (fun s=>some (.inl ((x.1,(),(),s.1,()),(s.2.1,s.2.2,())))) (fun z=>some (.inr (.inl (((),(),()),(z.1,z.2,()))))):=by kernel_rfl
theorem lo109_2 (F:Nat):LcOk Tryd.prog (E109 F) 0 (lc109_2 F) (cAt (bodyOf Tryd.f109) [1,0,1,1]):=
 mkL_ok (lp:=[]) (id:=0) (b:=cAt (bodyOf Tryd.f109) (0 :: 0 :: [1,0,1,1])) cok (cts109 F) mixed trivial (by kernel_rfl) (by kernel_rfl) (fun x y s=>(x.1,(),(),s.1,())) (fun x y s=>(s.2.1,s.2.2,())) (fun x y=>rfl) (fun x y=>rfl) (fun x y s kA kO=>L109_2c F x.1 s.1 s.2.1 s.2.2 kA kO) (fun x y s kA kO=>L109_2n F x.1 s.1 s.2.1 s.2.2 kA kO) (le109_2 F)
def T109c (F:Nat) (p0:UInt8) {β:Type} (k:((Vector UInt8 16)×(Vector UInt8 16))->Option β):Option β:=
 (Option.bind (iter (fun s=>L109_2 F p0 s.1 s.2.1 s.2.2) F ((0:Int),(Vector.replicate 16 (0:UInt8)),(Vector.replicate 16 (0:UInt8)))) fun z26=>(k (z26.1,z26.2)))
def T109 (F:Nat) (p0:UInt8):Option ((Vector UInt8 16)×(Vector UInt8 16)):=T109c F p0 some
theorem T109n (F:Nat) (p0:UInt8) {β:Type} (k:((Vector UInt8 16)×(Vector UInt8 16))->Option β):T109c F p0 k=(T109 F p0).bind k:=by
 simp only [T109,T109c,Option.bind_assoc,cond_bind,Option.bind_some,Option.bind_none,elimS_bind]
abbrev cA109:List Sh:=[.u8]
abbrev cB109:List Sh:=[(.fn 116 .un (.pr (.pt 0 []) (.pr (.pt 1 []) .un)))]
abbrev cT109:List TSh:=[]
abbrev cU109:List TSh:=[.blk 168 (.ar 16 .u8),.blk 168 (.ar 16 .u8)]
def ct109 (F:Nat):Ct:=mkC 0 cA109 cT109 cB109 cU109 (fun x y=>T109 F x.1) (fun x y (z:(Vector UInt8 16)×(Vector UInt8 16))=>((((),((),(),())),()),(z.1,z.2,())))
theorem eq109 (F:Nat) (x:dens cA109) (y:tdens cT109):sev (E109 F) 0 [([1,0,1,1],lc109_2 F)] (bodyOf Tryd.f109) [] (mkSt (rng 1) cA109 cT109 x y) (kFn (E109 F) 0 Tryd.f109.results.toList cB109 cU109 fun p q=>some (p,q)) =
  T109c F x.1 (fun z=>some ((((),((),(),())),()),(z.1,z.2,()))):=by kernel_rfl
theorem ok109 (F:Nat):Sound Tryd.prog cfg 109 (ct109 F):=
 mkC_ok (E:=E109 F) (lp:=[([1,0,1,1],lc109_2 F)]) (code:=bodyOf Tryd.f109) Tryd.func109 rfl Tryd.ntmps109 rfl rfl cok (cts109 F) mixed ⟨lo109_2 F,trivial⟩ (by kernel_rfl) (fun x y k=>T109c F x.1 k) (fun x y k=>T109n F x.1 k) (eq109 F)
def ord116:Nat->List (Tag×Nat)
 | 1=>[(.p,0),(.p,1),(.p,2),(.r,3),(.p,4),(.p,5),(.p,6),(.r,7),(.p,8),(.p,9)]
 | _=>[]
def al116:Nat->Option Nat
 | _=>none
def ms116:Nat->Option (List (Option Tag×Nat×List Nat))
 | _=>none
def E116 (F:Nat):Ev:=⟨cfg,14,ctOf [],ord116,ctOf [],al116,ms116⟩
theorem cts116 (F:Nat):CtsOk Tryd.prog (E116 F):=cts_of (l:=[]) (l':=[]) rfl rfl trivial trivial
def T116c (F:Nat) (p0:UInt8) (p1:Vector UInt8 16) (p2:Vector UInt8 16) {β:Type} (k:UInt8->Option β):Option β:=
 (Option.bind (vix p1 ((p0 &&& (UInt8.ofNat 15)).toNat:Int)) fun x3=>(Option.bind (vix p2 ((shr8 p0 ((UInt64.ofNat 4).toNat)).toNat:Int)) fun x4=>(k (x3 ^^^ x4))))
def T116 (F:Nat) (p0:UInt8) (p1:Vector UInt8 16) (p2:Vector UInt8 16):Option (UInt8):=T116c F p0 p1 p2 some
theorem T116n (F:Nat) (p0:UInt8) (p1:Vector UInt8 16) (p2:Vector UInt8 16) {β:Type} (k:UInt8->Option β):T116c F p0 p1 p2 k=(T116 F p0 p1 p2).bind k:=by
 simp only [T116,T116c,Option.bind_assoc,cond_bind,Option.bind_some,Option.bind_none,elimS_bind]
abbrev cA116:List Sh:=[.u8,(.re (.ar 16 .u8)),(.re (.ar 16 .u8))]
abbrev cB116:List Sh:=[.u8]
abbrev cT116:List TSh:=[]
abbrev cU116:List TSh:=[]
def ct116 (F:Nat):Ct:=mkC 0 cA116 cT116 cB116 cU116 (fun x y=>T116 F x.1 x.2.1 x.2.2.1) (fun x y (z:UInt8)=>((z,()),()))
theorem eq116 (F:Nat) (x:dens cA116) (y:tdens cT116):sev (E116 F) 0 [] (bodyOf Tryd.f116) [] (mkSt (rng 3) cA116 cT116 x y) (kFn (E116 F) 0 Tryd.f116.results.toList cB116 cU116 fun p q=>some (p,q)) =
  T116c F x.1 x.2.1 x.2.2.1 (fun z=>some ((z,()),())):=by kernel_rfl
theorem ok116 (F:Nat):Sound Tryd.prog cfg 116 (ct116 F):=
 mkC_ok (E:=E116 F) (lp:=[]) (code:=bodyOf Tryd.f116) Tryd.func116 rfl Tryd.ntmps116 rfl rfl cok (cts116 F) mixed trivial (by kernel_rfl) (fun x y k=>T116c F x.1 x.2.1 x.2.2.1 k) (fun x y k=>T116n F x.1 x.2.1 x.2.2.1 k) (eq116 F)
def ord95:Nat->List (Tag×Nat)
 | _=>[]
def al95:Nat->Option Nat
 | _=>none
def ms95:Nat->Option (List (Option Tag×Nat×List Nat))
 | _=>none
def E95 (F:Nat):Ev:=⟨cfg,29,ctOf [(109,ct109 F),(116,ct116 F)],ord95,ctOf [],al95,ms95⟩
theorem cts95 (F:Nat):CtsOk Tryd.prog (E95 F):=cts_of (l:=[(109,ct109 F),(116,ct116 F)]) (l':=[]) rfl rfl ⟨⟨ok109 F,_,Tryd.func109,rfl,rfl⟩,⟨⟨ok116 F,_,Tryd.func116,rfl,rfl⟩,trivial⟩⟩ trivial
def L95_2c (F:Nat) (y18:List UInt8) (y19:Int) (y21:Vector UInt8 16) (y22:Vector UInt8 16) (y20:Int) (y23:List UInt8) {β:Type} (kA:(Int×(List UInt8))->Option β) (kO:((List UInt8))->Option β):Option β:=
 (bif (decide (y20 < y19)) then (Option.bind (ix y18 y20) fun x27=>(Option.bind (T116 F x27 y21 y22) fun z28=>(Option.bind (inb y23.length y20) fun x29=>(kA ((w64 (y20 + (1:Int))),(List.set y23 x29 z28)))))) else (kO y23))
def L95_2 (F:Nat) (y18:List UInt8) (y19:Int) (y21:Vector UInt8 16) (y22:Vector UInt8 16) (y20:Int) (y23:List UInt8):Option ((Int×(List UInt8)) ⊕ ((List UInt8))):=L95_2c F y18 y19 y21 y22 y20 y23 (fun s=>some (.inl s)) (fun z=>some (.inr z))
theorem L95_2n (F:Nat) (y18:List UInt8) (y19:Int) (y21:Vector UInt8 16) (y22:Vector UInt8 16) (y20:Int) (y23:List UInt8) {β:Type} (kA:(Int×(List UInt8))->Option β) (kO:((List UInt8))->Option β):L95_2c F y18 y19 y21 y22 y20 y23 kA kO=(L95_2 F y18 y19 y21 y22 y20 y23).bind (elimS kA kO):=by
 simp only [L95_2,L95_2c,Option.bind_assoc,cond_bind,Option.bind_some,Option.bind_none,elimS_l,elimS_r,elimS_bind]
abbrev sA95_2:List Sh:=[(.fn 116 .un (.pr (.pt 0 []) (.pr (.pt 1 []) .un))),(.rw 2),(.ro .u8),.i,.i]
abbrev sAp195_2:List Sh:=[(.rw 0)]
abbrev sT95_2:List TSh:=[.blk 168 (.ar 16 .u8),.blk 168 (.ar 16 .u8),.row 5 .u8]
abbrev sTp195_2:List TSh:=[.row 5 .u8]
def lc95_2 (F:Nat):Lc:=mkL [5,6,14,15,16] sA95_2 sT95_2 [6] sAp195_2 sTp195_2 F (fun x y (s:Int×(List UInt8))=>L95_2 F x.2.2.1 x.2.2.2.1 y.1 y.2.1 s.1 s.2) (fun x y=>(x.2.2.2.2.1,y.2.2.1)) (fun x y (z:(List UInt8))=>(((),()),(z,())))
theorem le95_2 (F:Nat) (x:dens sA95_2) (y:tdens sT95_2) (s:Int×(List UInt8)):sev (E95 F) 0 [] (cAt (bodyOf Tryd.f95) (0 :: 0 :: [1,0,1,1,1])) (0 :: 0 :: [1,0,1,1,1]) (mkSt [5,6,14,15,16] sA95_2 sT95_2 (((),((),(),())),(),x.2.2.1,x.2.2.2.1,s.1,()) (y.1,y.2.1,s.2,())) (kLoop 0 [5,6,14,15,16] sA95_2 sT95_2 [6] sAp195_2 sTp195_2 [] [] [] 0 (fun x y=>some (.inl (x,y))) (fun x y=>some (.inr (.inl (x,y)))) (fun x y=>some (.inr (.inr (x,y))))) =
  L95_2c (β:=Full sA95_2 sT95_2 sAp195_2 sTp195_2 [] []) F x.2.2.1 x.2.2.2.1 y.1 y.2.1 s.1 s.2 (fun s=>some (.inl ((((),((),(),())),(),x.2.2.1,x.2.2.2.1,s.1,()),(y.1,y.2.1,s.2,())))) (fun z=>some (.inr (.inl (((),()),(z,()))))):=by kernel_rfl
theorem lo95_2 (F:Nat):LcOk Tryd.prog (E95 F) 0 (lc95_2 F) (cAt (bodyOf Tryd.f95) [1,0,1,1,1]):=
 mkL_ok (lp:=[]) (id:=0) (b:=cAt (bodyOf Tryd.f95) (0 :: 0 :: [1,0,1,1,1])) cok (cts95 F) mixed trivial (by kernel_rfl) (by kernel_rfl) (fun x y s=>(((),((),(),())),(),x.2.2.1,x.2.2.2.1,s.1,())) (fun x y s=>(y.1,y.2.1,s.2,())) (fun x y=>rfl) (fun x y=>rfl) (fun x y s kA kO=>L95_2c F x.2.2.1 x.2.2.2.1 y.1 y.2.1 s.1 s.2 kA kO) (fun x y s kA kO=>L95_2n F x.2.2.1 x.2.2.2.1 y.1 y.2.1 s.1 s.2 kA kO) (le95_2 F)
def T95c (F:Nat) (p0:List UInt8) (p1:UInt8) {β:Type} (k:((List UInt8))->Option β):Option β:=
 (Option.bind (T109 F p1) fun z16=>(Option.bind (gmake (0:UInt8) (p0.length:Int) (p0.length:Int)) fun x17=>(Option.bind (iter (fun s=>L95_2 F p0 (p0.length:Int) z16.1 z16.2 s.1 s.2) F ((0:Int),x17)) fun z30=>(k z30))))
def T95 (F:Nat) (p0:List UInt8) (p1:UInt8):Option ((List UInt8)):=T95c F p0 p1 some
theorem T95n (F:Nat) (p0:List UInt8) (p1:UInt8) {β:Type} (k:((List UInt8))->Option β):T95c F p0 p1 k=(T95 F p0 p1).bind k:=by
 simp only [T95,T95c,Option.bind_assoc,cond_bind,Option.bind_some,Option.bind_none,elimS_bind]
abbrev cA95:List Sh:=[(.ro .u8),.u8]
abbrev cB95:List Sh:=[(.rw 0)]
abbrev cT95:List TSh:=[]
abbrev cU95:List TSh:=[.row 5 .u8]
def ct95 (F:Nat):Ct:=mkC 0 cA95 cT95 cB95 cU95 (fun x y=>T95 F x.1 x.2.1) (fun x y (z:(List UInt8))=>(((),()),(z,())))
theorem eq95 (F:Nat) (x:dens cA95) (y:tdens cT95):sev (E95 F) 0 [([1,0,1,1,1],lc95_2 F)] (bodyOf Tryd.f95) [] (mkSt (rng 2) cA95 cT95 x y) (kFn (E95 F) 0 Tryd.f95.results.toList cB95 cU95 fun p q=>some (p,q)) =
  T95c F x.1 x.2.1 (fun z=>some (((),()),(z,()))):=by kernel_rfl
theorem ok95 (F:Nat):Sound Tryd.prog cfg 95 (ct95 F):=
 mkC_ok (E:=E95 F) (lp:=[([1,0,1,1,1],lc95_2 F)]) (code:=bodyOf Tryd.f95) Tryd.func95 rfl Tryd.ntmps95 rfl rfl cok (cts95 F) mixed ⟨lo95_2 F,trivial⟩ (by kernel_rfl) (fun x y k=>T95c F x.1 x.2.1 k) (fun x y k=>T95n F x.1 x.2.1 k) (eq95 F)
def ord79:Nat->List (Tag×Nat)
 | _=>[]
def al79:Nat->Option Nat
 | _=>none
def ms79:Nat->Option (List (Option Tag×Nat×List Nat))
 | _=>none
def E79 (F:Nat):Ev:=⟨cfg,35,ctOf [(95,ct95 F)],ord79,ctOf [],al79,ms79⟩
theorem cts79 (F:Nat):CtsOk Tryd.prog (E79 F):=cts_of (l:=[(95,ct95 F)]) (l':=[]) rfl rfl ⟨⟨ok95 F,_,Tryd.func95,rfl,rfl⟩,trivial⟩ trivial
def L79_2c (F:Nat) (y16:List UInt8) (y17:Int) (y18:Int) (y19:List UInt8) {β:Type} (kA:(Int×(List UInt8))->Option β) (kO:((List UInt8))->Option β):Option β:=
 (bif (decide (y18 < y17)) then (Option.bind (ix y16 y18) fun x24=>(Option.bind (inb y19.length y18) fun x25=>(Option.bind (y19[x25]?) fun x26=>(Option.bind (inb y19.length y18) fun x27=>(kA ((w64 (y18 + (1:Int))),(List.set y19 x27 (x26 ^^^ x24)))))))) else (kO y19))
def L79_2 (F:Nat) (y16:List UInt8) (y17:Int) (y18:Int) (y19:List UInt8):Option ((Int×(List UInt8)) ⊕ ((List UInt8))):=L79_2c F y16 y17 y18 y19 (fun s=>some (.inl s)) (fun z=>some (.inr z))
theorem L79_2n (F:Nat) (y16:List UInt8) (y17:Int) (y18:Int) (y19:List UInt8) {β:Type} (kA:(Int×(List UInt8))->Option β) (kO:((List UInt8))->Option β):L79_2c F y16 y17 y18 y19 kA kO=(L79_2 F y16 y17 y18 y19).bind (elimS kA kO):=by
 simp only [L79_2,L79_2c,Option.bind_assoc,cond_bind,Option.bind_some,Option.bind_none,elimS_l,elimS_r,elimS_bind]
abbrev sA79_2:List Sh:=[(.rw 0),(.ro .u8),.i,.i]
abbrev sAp179_2:List Sh:=[(.rw 0)]
abbrev sT79_2:List TSh:=[.row 5 .u8]
abbrev sTp179_2:List TSh:=[.row 5 .u8]
def lc79_2 (F:Nat):Lc:=mkL [8,19,20,21] sA79_2 sT79_2 [8] sAp179_2 sTp179_2 F (fun x y (s:Int×(List UInt8))=>L79_2 F x.2.1 x.2.2.1 s.1 s.2) (fun x y=>(x.2.2.2.1,y.1)) (fun x y (z:(List UInt8))=>(((),()),(z,())))
theorem le79_2 (F:Nat) (x:dens sA79_2) (y:tdens sT79_2) (s:Int×(List UInt8)):sev (E79 F) 0 [] (cAt (bodyOf Tryd.f79) (0 :: 0 :: [1,0,1,1,1])) (0 :: 0 :: [1,0,1,1,1]) (mkSt [8,19,20,21] sA79_2 sT79_2 ((),x.2.1,x.2.2.1,s.1,()) (s.2,())) (kLoop 0 [8,19,20,21] sA79_2 sT79_2 [8] sAp179_2 sTp179_2 [] [] [] 0 (fun x y=>some (.inl (x,y))) (fun x y=>some (.inr (.inl (x,y)))) (fun x y=>some (.inr (.inr (x,y))))) =
  L79_2c (β:=Full sA79_2 sT79_2 sAp179_2 sTp179_2 [] []) F x.2.1 x.2.2.1 s.1 s.2 (fun s=>some (.inl (((),x.2.1,x.2.2.1,s.1,()),(s.2,())))) (fun z=>some (.inr (.inl (((),()),(z,()))))):=by kernel_rfl
theorem lo79_2 (F:Nat):LcOk Tryd.prog (E79 F) 0 (lc79_2 F) (cAt (bodyOf Tryd.f79) [1,0,1,1,1]):=
 mkL_ok (lp:=[]) (id:=0) (b:=cAt (bodyOf Tryd.f79) (0 :: 0 :: [1,0,1,1,1])) cok (cts79 F) mixed trivial (by kernel_rfl) (by kernel_rfl) (fun x y s=>((),x.2.1,x.2.2.1,s.1,())) (fun x y s=>(s.2,())) (fun x y=>rfl) (fun x y=>rfl) (fun x y s kA kO=>L79_2c F x.2.1 x.2.2.1 s.1 s.2 kA kO) (fun x y s kA kO=>L79_2n F x.2.1 x.2.2.1 s.1 s.2 kA kO) (le79_2 F)
def T79c (F:Nat) (p0:List UInt8) (p1:List UInt8) (p2:UInt8) {β:Type} (k:(Int×(List UInt8))->Option β):Option β:=
 (bif ((p0.length:Int) != (p1.length:Int)) then (k ((1:Int),([]:List UInt8))) else (Option.bind (T95 F p1 p2) fun z15=>(Option.bind (iter (fun s=>L79_2 F p0 (p0.length:Int) s.1 s.2) F ((0:Int),z15)) fun z28=>(k ((0:Int),z28)))))
def T79 (F:Nat) (p0:List UInt8) (p1:List UInt8) (p2:UInt8):Option (Int×(List UInt8)):=T79c F p0 p1 p2 some
theorem T79n (F:Nat) (p0:List UInt8) (p1:List UInt8) (p2:UInt8) {β:Type} (k:(Int×(List UInt8))->Option β):T79c F p0 p1 p2 k=(T79 F p0 p1 p2).bind k:=by
 simp only [T79,T79c,Option.bind_assoc,cond_bind,Option.bind_some,Option.bind_none,elimS_bind]
abbrev cA79:List Sh:=[(.ro .u8),(.ro .u8),.u8]
abbrev cB79:List Sh:=[(.rw 0),.i]
abbrev cT79:List TSh:=[]
abbrev cU79:List TSh:=[.row 5 .u8]
def ct79 (F:Nat):Ct:=mkC 0 cA79 cT79 cB79 cU79 (fun x y=>T79 F x.1 x.2.1 x.2.2.1) (fun x y (z:Int×(List UInt8))=>(((),z.1,()),(z.2,())))
theorem eq79 (F:Nat) (x:dens cA79) (y:tdens cT79):sev (E79 F) 0 [([1,0,1,1,1],lc79_2 F)] (bodyOf Tryd.f79) [] (mkSt (rng 3) cA79 cT79 x y) (kFn (E79 F) 0 Tryd.f79.results.toList cB79 cU79 fun p q=>some (p,q)) =
  T79c F x.1 x.2.1 x.2.2.1 (fun z=>some (((),z.1,()),(z.2,()))):=by kernel_rfl
theorem ok79 (F:Nat):Sound Tryd.prog cfg 79 (ct79 F):=
 mkC_ok (E:=E79 F) (lp:=[([1,0,1,1,1],lc79_2 F)]) (code:=bodyOf Tryd.f79) Tryd.func79 rfl Tryd.ntmps79 rfl rfl cok (cts79 F) mixed ⟨lo79_2 F,trivial⟩ (by kernel_rfl) (fun x y k=>T79c F x.1 x.2.1 x.2.2.1 k) (fun x y k=>T79n F x.1 x.2.1 x.2.2.1 k) (eq79 F)
def ord77:Nat->List (Tag×Nat)
 | _=>[]
def al77:Nat->Option Nat
 | _=>none
def ms77:Nat->Option (List (Option Tag×Nat×List Nat))
 | _=>none
def E77 (F:Nat):Ev:=⟨cfg,25,ctOf [(78,ct78 F),(79,ct79 F)],ord77,ctOf [],al77,ms77⟩
theorem cts77 (F:Nat):CtsOk Tryd.prog (E77 F):=cts_of (l:=[(78,ct78 F),(79,ct79 F)]) (l':=[]) rfl rfl ⟨⟨ok78 F,_,Tryd.func78,rfl,rfl⟩,⟨⟨ok79 F,_,Tryd.func79,rfl,rfl⟩,trivial⟩⟩ trivial
abbrev rA77_2:List Sh:=[(.pt 1 []),(.pt 2 [])]
abbrev rB77_2:List Sh:=[(.pt 0 []),(.pt 1 [])]
abbrev rZ77_2:List Sh:=[.i,(.ro .u8)]
abbrev rT77_2:List TSh:=[.blk 57 (.ro (.sl .u8)),.blk 3 .i,.blk 23 (.rw 3),.row 5 .u8]
abbrev rU77_2:List TSh:=[.blk 3 .i,.blk 23 (.rw 2),.row 5 .u8]
def L77_2 (F:Nat) (y14:Int) (y15:List UInt8) (e17:List UInt8):Option (dens rB77_2×tdens rU77_2):=
 (Option.bind (T79 F e17 y15 (UInt8.ofInt y14)) fun z19=>some (((),(),()),(y14,(),z19.2,())))
def R77_2 (F:Nat) (x:dens (.fn 94 .un (.pr (.pt 0 []) .un) :: rA77_2)) (y:tdens rT77_2):Option (dens rB77_2×tdens rU77_2):=bif okBack y.1 then rfold ((fun (x:dens (.fn 94 .un (.pr (.pt 0 []) .un) :: rA77_2)) (y:tdens rT77_2) (s:dens rB77_2×tdens rU77_2) (e:dens rZ77_2)=>L77_2 F s.2.1 s.2.2.2.1 e.2.1) x y) (backE y.1) ((((),(),()),(y.2.1,(),y.2.2.2.1,())):dens rB77_2×tdens rU77_2) else none
def lc77_2 (F:Nat):Lc:=mkF 13 94 (.pr (.pt 0 []) .un) [2,4] rA77_2 rB77_2 rT77_2 rU77_2 (ε:=dens rZ77_2) (fun x y=>backE y.1) (fun x y=>(((),(),()),(y.2.1,(),y.2.2.2.1,()))) (fun x y=>okBack y.1) (fun x y s e=>L77_2 F s.2.1 s.2.2.2.1 e.2.1)
theorem le77_2 (F:Nat) (x:dens (.fn 94 .un (.pr (.pt 0 []) .un) :: rA77_2)) (y:tdens rT77_2) (s:dens rB77_2×tdens rU77_2) (e:dens rZ77_2):sev (E77 F) 0 [] (rfBody (cAt (bodyOf Tryd.f77) [0,1,0,1,1])) [] ⟨(6,.ro .u8 e.2.1) :: putI [14,15] (encs rZ77_2 e) (zipS [2,4] (encs rB77_2 s.1)),encTs rU77_2 s.2,[]⟩ (kRd 0 [2,4] rB77_2 rU77_2 (encs rB77_2 s.1))=(fun x y s e=>L77_2 F s.2.1 s.2.2.2.1 e.2.1) x y s e:=by kernel_rfl
theorem li77_2 (x:dens (.fn 94 .un (.pr (.pt 0 []) .un) :: rA77_2)) (y:tdens rT77_2):uniS 0 [2,4] rB77_2 rU77_2 ⟨zipS [2,4] (encs rA77_2 x.2),dropB [0] (encTs rT77_2 y),[]⟩ (fun p q=>some (p,q))=some (((),(),()),(y.2.1,(),y.2.2.2.1,())):=by kernel_rfl
theorem lo77_2 (F:Nat):LcOkM Tryd.prog (E77 F) 0 (lc77_2 F) (cAt (bodyOf Tryd.f77) [0,1,0,1,1]):=
 rf_okP (ida:=3) (d:=6) (s_:=15) (ps:=[14,15]) (Ae:=rZ77_2) (bx:=[0]) (ve:=fun e=>.ro .u8 e.2.1) cok (cts77 F) mixed (by kernel_rfl) (by kernel_rfl) (by kernel_rfl) (fun y=>rfl) (li77_2) rfl rfl rfl rfl rfl (fun e=>rfl) (fun e il=>rfl) (fun args w=>by kernel_rfl)
  (fun x y O ρ lb hok h hb=>hit_back h hb rfl hok) (le77_2 F)
def T77c (F:Nat) (p0:Int) (p1:List (List UInt8)) {β:Type} (k:((List UInt8))->Option β):Option β:=
 (Option.bind (ix p1 (0:Int)) fun x11=>(Option.bind (gmake (0:UInt8) (x11.length:Int) (x11.length:Int)) fun x12=>(Option.bind (T78 F) fun z13=>(Option.bind (R77_2 F (((),((),())),(),(),()) (p1,p0,(),x12,())) fun z20=>(k z20.2.2.2.1)))))
def T77 (F:Nat) (p0:Int) (p1:List (List UInt8)):Option ((List UInt8)):=T77c F p0 p1 some
theorem T77n (F:Nat) (p0:Int) (p1:List (List UInt8)) {β:Type} (k:((List UInt8))->Option β):T77c F p0 p1 k=(T77 F p0 p1).bind k:=by
 simp only [T77,T77c,Option.bind_assoc,cond_bind,Option.bind_some,Option.bind_none,elimS_bind]
abbrev cA77:List Sh:=[.i,(.re (.sl (.sl .u8)))]
abbrev cB77:List Sh:=[(.rw 0)]
abbrev cT77:List TSh:=[]
abbrev cU77:List TSh:=[.row 5 .u8]
def ct77 (F:Nat):Ct:=mkC 0 cA77 cT77 cB77 cU77 (fun x y=>T77 F x.1 x.2.1) (fun x y (z:(List UInt8))=>(((),()),(z,())))
theorem eq77 (F:Nat) (x:dens cA77) (y:tdens cT77):sev (E77 F) 0 [([0,1,0,1,1],lc77_2 F)] (bodyOf Tryd.f77) [] (mkSt (rng 2) cA77 cT77 x y) (kFnM (E77 F) 0 Tryd.f77.results.toList cB77 cU77 fun p q=>some (p,q)) =
  T77c F x.1 x.2.1 (fun z=>some (((),()),(z,()))):=by kernel_rfl
theorem ok77 (F:Nat):Sound Tryd.prog cfg 77 (ct77 F):=
 mkC_okM (E:=E77 F) (lp:=[([0,1,0,1,1],lc77_2 F)]) (code:=bodyOf Tryd.f77) Tryd.func77 rfl Tryd.ntmps77 rfl rfl cok (cts77 F) mixed ⟨lo77_2 F,trivial⟩ (by kernel_rfl) (fun x y k=>T77c F x.1 x.2.1 k) (fun x y k=>T77n F x.1 x.2.1 k) (eq77 F)
def ord28:Nat->List (Tag×Nat)
 | _=>[]
def al28:Nat->Option Nat
 | _=>none
def ms28:Nat->Option (List (Option Tag×Nat×List Nat))
 | _=>none
def E28 (F:Nat):Ev:=⟨cfg,50,ctOf [(58,ct58 F),(59,ct59 F),(61,ct61 F),(60,ct60 F),(77,ct77 F)],ord28,ctOf [],al28,ms28⟩
theorem cts28 (F:Nat):CtsOk Tryd.prog (E28 F):=cts_of (l:=[(58,ct58 F),(59,ct59 F),(61,ct61 F),(60,ct60 F),(77,ct77 F)]) (l':=[]) rfl rfl ⟨⟨ok58 F,_,Tryd.func58,rfl,rfl⟩,⟨⟨ok59 F,_,Tryd.func59,rfl,rfl⟩,⟨⟨ok61 F,_,Tryd.func61,rfl,rfl⟩,⟨⟨ok60 F,_,Tryd.func60,rfl,rfl⟩,⟨⟨ok77 F,_,Tryd.func77,rfl,rfl⟩,trivial⟩⟩⟩⟩⟩ trivial
def L28_2c (F:Nat) (y23:List Int) (y24:Int) (y26:List (List UInt8)) (y25:Int) (y27:List (Int×(List UInt8)×Unit)) {β:Type} (kA:(Int×(List (Int×(List UInt8)×Unit)))->Option β) (kO:((List (Int×(List UInt8)×Unit)))->Option β):Option β:=
 (bif (decide (y25 < y24)) then (Option.bind (ix y23 y25) fun x31=>(Option.bind (T77 F x31 y26) fun z32=>(Option.bind (gapp y27 ([(x31,z32,())]:List (Int×(List UInt8)×Unit))) fun x33=>(kA ((w64 (y25 + (1:Int))),x33))))) else (kO y27))
def L28_2 (F:Nat) (y23:List Int) (y24:Int) (y26:List (List UInt8)) (y25:Int) (y27:List (Int×(List UInt8)×Unit)):Option ((Int×(List (Int×(List UInt8)×Unit))) ⊕ ((List (Int×(List UInt8)×Unit)))):=L28_2c F y23 y24 y26 y25 y27 (fun s=>some (.inl s)) (fun z=>some (.inr z))
theorem L28_2n (F:Nat) (y23:List Int) (y24:Int) (y26:List (List UInt8)) (y25:Int) (y27:List (Int×(List UInt8)×Unit)) {β:Type} (kA:(Int×(List (Int×(List UInt8)×Unit)))->Option β) (kO:((List (Int×(List UInt8)×Unit)))->Option β):L28_2c F y23 y24 y26 y25 y27 kA kO=(L28_2 F y23 y24 y26 y25 y27).bind (elimS kA kO):=by
 simp only [L28_2,L28_2c,Option.bind_assoc,cond_bind,Option.bind_some,Option.bind_none,elimS_l,elimS_r,elimS_bind]
abbrev sA28_2:List Sh:=[(.fn 77 .un (.pr (.pt 0 []) .un)),(.rw 1),(.ro .i),.i,.i]
abbrev sAp128_2:List Sh:=[(.rw 0)]
abbrev sT28_2:List TSh:=[.blk 57 (.ro (.sl .u8)),.row 30 (.pr .i (.pr (.sl .u8) .un))]
abbrev sTp128_2:List TSh:=[.row 30 (.pr .i (.pr (.sl .u8) .un))]
def lc28_2 (F:Nat):Lc:=mkL [8,9,34,35,36] sA28_2 sT28_2 [9] sAp128_2 sTp128_2 F (fun x y (s:Int×(List (Int×(List UInt8)×Unit)))=>L28_2 F x.2.2.1 x.2.2.2.1 y.1 s.1 s.2) (fun x y=>(x.2.2.2.2.1,y.2.1)) (fun x y (z:(List (Int×(List UInt8)×Unit)))=>(((),()),(z,())))
theorem le28_2 (F:Nat) (x:dens sA28_2) (y:tdens sT28_2) (s:Int×(List (Int×(List UInt8)×Unit))):sev (E28 F) 0 [] (cAt (bodyOf Tryd.f28) (0 :: 0 :: [1,0,1,1,1,1,1])) (0 :: 0 :: [1,0,1,1,1,1,1]) (mkSt [8,9,34,35,36] sA28_2 sT28_2 (((),((),())),(),x.2.2.1,x.2.2.2.1,s.1,()) (y.1,s.2,())) (kLoop 0 [8,9,34,35,36] sA28_2 sT28_2 [9] sAp128_2 sTp128_2 [] [] [] 0 (fun x y=>some (.inl (x,y))) (fun x y=>some (.inr (.inl (x,y)))) (fun x y=>some (.inr (.inr (x,y))))) =
  L28_2c (β:=Full sA28_2 sT28_2 sAp128_2 sTp128_2 [] []) F x.2.2.1 x.2.2.2.1 y.1 s.1 s.2 (fun s=>some (.inl ((((),((),())),(),x.2.2.1,x.2.2.2.1,s.1,()),(y.1,s.2,())))) (fun z=>some (.inr (.inl (((),()),(z,()))))):=by kernel_rfl
theorem lo28_2 (F:Nat):LcOk Tryd.prog (E28 F) 0 (lc28_2 F) (cAt (bodyOf Tryd.f28) [1,0,1,1,1,1,1]):=
 mkL_ok (lp:=[]) (id:=0) (b:=cAt (bodyOf Tryd.f28) (0 :: 0 :: [1,0,1,1,1,1,1])) cok (cts28 F) mixed trivial (by kernel_rfl) (by kernel_rfl) (fun x y s=>(((),((),())),(),x.2.2.1,x.2.2.2.1,s.1,())) (fun x y s=>(y.1,s.2,())) (fun x y=>rfl) (fun x y=>rfl) (fun x y s kA kO=>L28_2c F x.2.2.1 x.2.2.2.1 y.1 s.1 s.2 kA kO) (fun x y s kA kO=>L28_2n F x.2.2.1 x.2.2.2.1 y.1 s.1 s.2 kA kO) (le28_2 F)
def T28c (F:Nat) (p0:List UInt8) (p1:List (List UInt8)) (p2:List Int) {β:Type} (k:(Int×(List (Int×(List UInt8)×Unit)))->Option β):Option β:=
 (Option.bind (T58 F p1 (p0.length:Int)) fun z18=>(bif (!z18) then (k ((1:Int),([]:List (Int×(List UInt8)×Unit)))) else (Option.bind (T59 F p2) fun z19=>(bif (!z19) then (k ((1:Int),([]:List (Int×(List UInt8)×Unit)))) else (bif (decide ((1024:Int) < (p0.length:Int))) then (k ((2:Int),([]:List (Int×(List UInt8)×Unit)))) else (Option.bind (T61 F ([([p0]:List (List UInt8)),p1]:List (List (List UInt8)))) fun z20=>(Option.bind (T60 F) fun z21=>(Option.bind (gmake ((0:Int),([]:List UInt8),()) (0:Int) (p2.length:Int)) fun x22=>(Option.bind (iter (fun s=>L28_2 F p2 (p2.length:Int) z20 s.1 s.2) F ((0:Int),x22)) fun z34=>(k ((0:Int),z34)))))))))))
def T28 (F:Nat) (p0:List UInt8) (p1:List (List UInt8)) (p2:List Int):Option (Int×(List (Int×(List UInt8)×Unit))):=T28c F p0 p1 p2 some
theorem T28n (F:Nat) (p0:List UInt8) (p1:List (List UInt8)) (p2:List Int) {β:Type} (k:(Int×(List (Int×(List UInt8)×Unit)))->Option β):T28c F p0 p1 p2 k=(T28 F p0 p1 p2).bind k:=by
 simp only [T28,T28c,Option.bind_assoc,cond_bind,Option.bind_some,Option.bind_none,elimS_bind]
abbrev cA28:List Sh:=[(.ro .u8),(.ro (.sl .u8)),(.ro .i)]
abbrev cB28:List Sh:=[(.rw 0),.i]
abbrev cT28:List TSh:=[]
abbrev cU28:List TSh:=[.row 30 (.pr .i (.pr (.sl .u8) .un))]
def ct28 (F:Nat):Ct:=mkC 0 cA28 cT28 cB28 cU28 (fun x y=>T28 F x.1 x.2.1 x.2.2.1) (fun x y (z:Int×(List (Int×(List UInt8)×Unit)))=>(((),z.1,()),(z.2,())))
theorem eq28 (F:Nat) (x:dens cA28) (y:tdens cT28):sev (E28 F) 0 [([1,0,1,1,1,1,1],lc28_2 F)] (bodyOf Tryd.f28) [] (mkSt (rng 3) cA28 cT28 x y) (kFn (E28 F) 0 Tryd.f28.results.toList cB28 cU28 fun p q=>some (p,q)) =
  T28c F x.1 x.2.1 x.2.2.1 (fun z=>some (((),z.1,()),(z.2,()))):=by kernel_rfl
theorem ok28 (F:Nat):Sound Tryd.prog cfg 28 (ct28 F):=
 mkC_ok (E:=E28 F) (lp:=[([1,0,1,1,1,1,1],lc28_2 F)]) (code:=bodyOf Tryd.f28) Tryd.func28 rfl Tryd.ntmps28 rfl rfl cok (cts28 F) mixed ⟨lo28_2 F,trivial⟩ (by kernel_rfl) (fun x y k=>T28c F x.1 x.2.1 x.2.2.1 k) (fun x y k=>T28n F x.1 x.2.1 x.2.2.1 k) (eq28 F)
def ord10:Nat->List (Tag×Nat)
 | _=>[]
def al10:Nat->Option Nat
 | _=>none
def ms10:Nat->Option (List (Option Tag×Nat×List Nat))
 | _=>none
def E10 (F:Nat):Ev:=⟨cfg,78,ctOf [(26,ct26 F),(27,ct27 F),(28,ct28 F)],ord10,ctOf [],al10,ms10⟩
theorem cts10 (F:Nat):CtsOk Tryd.prog (E10 F):=cts_of (l:=[(26,ct26 F),(27,ct27 F),(28,ct28 F)]) (l':=[]) rfl rfl ⟨⟨ok26 F,_,Tryd.func26,rfl,rfl⟩,⟨⟨ok27 F,_,Tryd.func27,rfl,rfl⟩,⟨⟨ok28 F,_,Tryd.func28,rfl,rfl⟩,trivial⟩⟩⟩ trivial
def L10_3c (F:Nat) (y56:List Int) (y58:List Int) (y59:Int) (y60:Int) (y61:List Int) {β:Type} (kA:(Int×(List Int))->Option β) (kO:((List Int))->Option β) (kR:Int->Option β):Option β:=
 (bif (decide (y60 < y59)) then (Option.bind (ix y58 y60) fun x66=>(bif (decide (x66 < (0:Int))) then (kR (1:Int)) else (bif (decide ((12:Int)≤x66)) then (kR (1:Int)) else (Option.bind (gsl y56 (0:Int) y60) fun x67=>(Option.bind (T26 F x67 x66) fun z68=>(bif z68 then (kR (1:Int)) else (Option.bind (gapp y61 ([(w64 (x66 + (1:Int)))]:List Int)) fun x69=>(kA ((w64 (y60 + (1:Int))),x69))))))))) else (kO y61))
def L10_3 (F:Nat) (y56:List Int) (y58:List Int) (y59:Int) (y60:Int) (y61:List Int):Option ((Int×(List Int)) ⊕ (((List Int)) ⊕ (Int))):=L10_3c F y56 y58 y59 y60 y61 (fun s=>some (.inl s)) (fun z=>some (.inr (.inl z))) (fun z=>some (.inr (.inr z)))
theorem L10_3n (F:Nat) (y56:List Int) (y58:List Int) (y59:Int) (y60:Int) (y61:List Int) {β:Type} (kA:(Int×(List Int))->Option β) (kO:((List Int))->Option β) (kR:Int->Option β):L10_3c F y56 y58 y59 y60 y61 kA kO kR=(L10_3 F y56 y58 y59 y60 y61).bind (elimS kA (elimS kO kR)):=by
 simp only [L10_3,L10_3c,Option.bind_assoc,cond_bind,Option.bind_some,Option.bind_none,elimS_l,elimS_r,elimS_bind]
abbrev sA10_3:List Sh:=[.str,.i,(.ro .i),(.ro .u8),(.rw 0),(.ro .i),.i,.i]
abbrev sAp110_3:List Sh:=[.str,.i,(.ro .i),(.ro .u8),(.rw 0)]
abbrev sAp210_3:List Sh:=[.ns,.i]
abbrev sT10_3:List TSh:=[.row 3 .i]
abbrev sTp110_3:List TSh:=[.row 3 .i]
abbrev sTp210_3:List TSh:=[]
def lc10_3 (F:Nat):Lc:=mkR [0,1,2,3,10,26,27,28] sA10_3 sT10_3 [0,1,2,3,10] sAp110_3 sTp110_3 [8,9] sAp210_3 sTp210_3 F (fun x y (s:Int×(List Int))=>L10_3 F x.2.2.1 x.2.2.2.2.2.1 x.2.2.2.2.2.2.1 s.1 s.2) (fun x y=>(x.2.2.2.2.2.2.2.1,y.1)) (fun x y (z:(List Int))=>((x.1,x.2.1,x.2.2.1,x.2.2.2.1,(),()),(z,()))) (fun x y (z:Int)=>(((),z,()),()))
theorem le10_3 (F:Nat) (x:dens sA10_3) (y:tdens sT10_3) (s:Int×(List Int)):sev (E10 F) 0 [] (cAt (bodyOf Tryd.f10) (0 :: 0 :: [1,0,1,1,1])) (0 :: 0 :: [1,0,1,1,1]) (mkSt [0,1,2,3,10,26,27,28] sA10_3 sT10_3 (x.1,x.2.1,x.2.2.1,x.2.2.2.1,(),x.2.2.2.2.2.1,x.2.2.2.2.2.2.1,s.1,()) (s.2,())) (kLoop 0 [0,1,2,3,10,26,27,28] sA10_3 sT10_3 [0,1,2,3,10] sAp110_3 sTp110_3 [8,9] sAp210_3 sTp210_3 0 (fun x y=>some (.inl (x,y))) (fun x y=>some (.inr (.inl (x,y)))) (fun x y=>some (.inr (.inr (x,y))))) =
  L10_3c (β:=Full sA10_3 sT10_3 sAp110_3 sTp110_3 sAp210_3 sTp210_3) F x.2.2.1 x.2.2.2.2.2.1 x.2.2.2.2.2.2.1 s.1 s.2 (fun s=>some (.inl ((x.1,x.2.1,x.2.2.1,x.2.2.2.1,(),x.2.2.2.2.2.1,x.2.2.2.2.2.2.1,s.1,()),(s.2,())))) (fun z=>some (.inr (.inl ((x.1,x.2.1,x.2.2.1,x.2.2.2.1,(),()),(z,()))))) (fun z=>some (.inr (.inr (((),z,()),())))):=by kernel_rfl
theorem lo10_3 (F:Nat):LcOk Tryd.prog (E10 F) 0 (lc10_3 F) (cAt (bodyOf Tryd.f10) [1,0,1,1,1]):=
 mkR_ok (lp:=[]) (id:=0) (b:=cAt (bodyOf Tryd.f10) (0 :: 0 :: [1,0,1,1,1])) cok (cts10 F) mixed trivial (by kernel_rfl) (by kernel_rfl) (fun x y s=>(x.1,x.2.1,x.2.2.1,x.2.2.2.1,(),x.2.2.2.2.2.1,x.2.2.2.2.2.2.1,s.1,())) (fun x y s=>(s.2,())) (fun x y=>rfl) (fun x y=>rfl) (fun x y s kA kO kR=>L10_3c F x.2.2.1 x.2.2.2.2.2.1 x.2.2.2.2.2.2.1 s.1 s.2 kA kO kR) (fun x y s kA kO kR=>L10_3n F x.2.2.1 x.2.2.2.2.2.1 x.2.2.2.2.2.2.1 s.1 s.2 kA kO kR) (le10_3 F)
abbrev rA10_4:List Sh:=[.str,(.rw 2),(.pt 3 [])]
abbrev rB10_4:List Sh:=[.str,(.rw 0),(.pt 1 [])]
abbrev rZ10_4:List Sh:=[(.ro .u8)]
abbrev rT10_4:List TSh:=[.blk 23 (.ro .u8),.blk 3 .i,.row 3 .i,.blk 57 .ns]
abbrev rU10_4:List TSh:=[.row 3 .i,.blk 57 (.rw 2),.row 23 (.sl .u8)]
def L10_4 (F:Nat) (y76:List UInt8) (y77:List Int) (y78:List (List UInt8)) (e79:List UInt8):Option (dens rB10_4×tdens rU10_4):=
 (Option.bind (gapp y78 ([e79]:List (List UInt8))) fun x81=>some ((y76,(),(),()),(y77,(),x81,())))
def R10_4 (F:Nat) (x:dens (.fn 57 .un (.pr (.pt 0 []) (.pr (.pt 1 []) .un)) :: rA10_4)) (y:tdens rT10_4):Option (dens rB10_4×tdens rU10_4):=bif okChunk (y.2.1) y.1 then rfold ((fun (x:dens (.fn 57 .un (.pr (.pt 0 []) (.pr (.pt 1 []) .un)) :: rA10_4)) (y:tdens rT10_4) (s:dens rB10_4×tdens rU10_4) (e:dens rZ10_4)=>L10_4 F s.1.1 s.2.1 s.2.2.2.1 e.1) x y) (chunkE (y.2.1).toNat y.1) (((x.2.1,(),(),()),(y.2.2.1,(),([]:List (List UInt8)),())):dens rB10_4×tdens rU10_4) else none
def lc10_4 (F:Nat):Lc:=mkF 65 57 (.pr (.pt 0 []) (.pr (.pt 1 []) .un)) [0,10,13] rA10_4 rB10_4 rT10_4 rU10_4 (ε:=dens rZ10_4) (fun x y=>chunkE (y.2.1).toNat y.1) (fun x y=>((x.2.1,(),(),()),(y.2.2.1,(),([]:List (List UInt8)),()))) (fun x y=>okChunk (y.2.1) y.1) (fun x y s e=>L10_4 F s.1.1 s.2.1 s.2.2.2.1 e.1)
theorem le10_4 (F:Nat) (x:dens (.fn 57 .un (.pr (.pt 0 []) (.pr (.pt 1 []) .un)) :: rA10_4)) (y:tdens rT10_4) (s:dens rB10_4×tdens rU10_4) (e:dens rZ10_4):sev (E10 F) 0 [] (rfBody (cAt (bodyOf Tryd.f10) [0,1,0,1,1,1,1,1,1])) [] ⟨(14,.ro .u8 e.1) :: putI [66] (encs rZ10_4 e) (zipS [0,10,13] (encs rB10_4 s.1)),encTs rU10_4 s.2,[]⟩ (kRd 0 [0,10,13] rB10_4 rU10_4 (encs rB10_4 s.1))=(fun x y s e=>L10_4 F s.1.1 s.2.1 s.2.2.2.1 e.1) x y s e:=by kernel_rfl
theorem li10_4 (x:dens (.fn 57 .un (.pr (.pt 0 []) (.pr (.pt 1 []) .un)) :: rA10_4)) (y:tdens rT10_4):uniS 0 [0,10,13] rB10_4 rU10_4 ⟨zipS [0,10,13] (encs rA10_4 x.2),dropB [0,1] (encTs rT10_4 y),[]⟩ (fun p q=>some (p,q))=some ((x.2.1,(),(),()),(y.2.2.1,(),([]:List (List UInt8)),())):=by kernel_rfl
theorem lo10_4 (F:Nat):LcOkM Tryd.prog (E10 F) 0 (lc10_4 F) (cAt (bodyOf Tryd.f10) [0,1,0,1,1,1,1,1,1]):=
 rf_okP (ida:=15) (d:=14) (s_:=66) (ps:=[66]) (Ae:=rZ10_4) (bx:=[0,1]) (ve:=fun e=>.ro .u8 e.1) cok (cts10 F) mixed (by kernel_rfl) (by kernel_rfl) (by kernel_rfl) (fun y=>rfl) (li10_4) rfl rfl rfl rfl rfl (fun e=>rfl) (fun e il=>rfl) (fun args w=>by kernel_rfl)
  (fun x y O ρ lb hok h hb=>hit_chunk h hb rfl rfl hok) (le10_4 F)
def T10c (F:Nat) (p0:List UInt8) (p1:Int) (p2:List Int) (p3:List UInt8) {β:Type} (k:(Int×(List (Int×(List UInt8)×Unit)))->Option β):Option β:=
 (bif ((p0.length:Int) != (32:Int)) then (k ((1:Int),([]:List (Int×(List UInt8)×Unit)))) else (bif (decide (p1 < (1:Int))) then (k ((1:Int),([]:List (Int×(List UInt8)×Unit)))) else (bif (decide ((12:Int) < p1)) then (k ((1:Int),([]:List (Int×(List UInt8)×Unit)))) else (Option.bind (iter (fun s=>L10_3 F p2 p2 (p2.length:Int) s.1 s.2) F ((0:Int),([]:List Int))) fun z70=>elimS (fun z70=>(bif (decide ((p2.length:Int) < p1)) then (k ((1:Int),([]:List (Int×(List UInt8)×Unit)))) else (bif ((p3.length:Int) != (w64 ((32:Int) * (w64 (p1 - (1:Int)))))) then (k ((1:Int),([]:List (Int×(List UInt8)×Unit)))) else (Option.bind (T27 F (32:Int)) fun z71=>(Option.bind (R10_4 F (((),((),(),())),p0,(),(),()) (p3,(32:Int),z70,(),())) fun z82=>(Option.bind (gstr z82.1.1) fun x83=>(Option.bind (T28 F x83 z82.2.2.2.1 z82.2.1) fun z84=>(k (z84.1,z84.2))))))))) (fun z70=>(k (z70,([]:List (Int×(List UInt8)×Unit))))) z70))))
def T10 (F:Nat) (p0:List UInt8) (p1:Int) (p2:List Int) (p3:List UInt8):Option (Int×(List (Int×(List UInt8)×Unit))):=T10c F p0 p1 p2 p3 some
theorem T10n (F:Nat) (p0:List UInt8) (p1:Int) (p2:List Int) (p3:List UInt8) {β:Type} (k:(Int×(List (Int×(List UInt8)×Unit)))->Option β):T10c F p0 p1 p2 p3 k=(T10 F p0 p1 p2 p3).bind k:=by
 simp only [T10,T10c,Option.bind_assoc,cond_bind,Option.bind_some,Option.bind_none,elimS_bind]
abbrev cA10:List Sh:=[.str,.i,(.ro .i),(.ro .u8)]
abbrev cB10:List Sh:=[(.rw 0),.i]
abbrev cT10:List TSh:=[]
abbrev cU10:List TSh:=[.row 30 (.pr .i (.pr (.sl .u8) .un))]
def ct10 (F:Nat):Ct:=mkC 0 cA10 cT10 cB10 cU10 (fun x y=>T10 F x.1 x.2.1 x.2.2.1 x.2.2.2.1) (fun x y (z:Int×(List (Int×(List UInt8)×Unit)))=>(((),z.1,()),(z.2,())))
theorem eq10 (F:Nat) (x:dens cA10) (y:tdens cT10):sev (E10 F) 0 [([1,0,1,1,1],lc10_3 F),([0,1,0,1,1,1,1,1,1],lc10_4 F)] (bodyOf Tryd.f10) [] (mkSt (rng 4) cA10 cT10 x y) (kFnM (E10 F) 0 Tryd.f10.results.toList cB10 cU10 fun p q=>some (p,q)) =
  T10c F x.1 x.2.1 x.2.2.1 x.2.2.2.1 (fun z=>some (((),z.1,()),(z.2,()))):=by kernel_rfl
theorem ok10 (F:Nat):Sound Tryd.prog cfg 10 (ct10 F):=
 mkC_okM (E:=E10 F) (lp:=[([1,0,1,1,1],lc10_3 F),([0,1,0,1,1,1,1,1,1],lc10_4 F)]) (code:=bodyOf Tryd.f10) Tryd.func10 rfl Tryd.ntmps10 rfl rfl cok (cts10 F) mixed ⟨lo10_3 F,⟨lo10_4 F,trivial⟩⟩ (by kernel_rfl) (fun x y k=>T10c F x.1 x.2.1 x.2.2.1 x.2.2.2.1 k) (fun x y k=>T10n F x.1 x.2.1 x.2.2.1 x.2.2.2.1 k) (eq10 F)
def ord68:Nat->List (Tag×Nat)
 | _=>[]
def al68:Nat->Option Nat
 | _=>none
def ms68:Nat->Option (List (Option Tag×Nat×List Nat))
 | _=>none
def E68 (F:Nat):Ev:=⟨cfg,15,ctOf [],ord68,ctOf [],al68,ms68⟩
theorem cts68 (F:Nat):CtsOk Tryd.prog (E68 F):=cts_of (l:=[]) (l':=[]) rfl rfl trivial trivial
def T68c (F:Nat) (p0:Int) (p1:Int) (p2:Int) {β:Type} (k:Bool->Option β):Option β:=
 (bif (decide (p1≤p0)) then (k (decide (p0≤p2))) else (k false))
def T68 (F:Nat) (p0:Int) (p1:Int) (p2:Int):Option (Bool):=T68c F p0 p1 p2 some
theorem T68n (F:Nat) (p0:Int) (p1:Int) (p2:Int) {β:Type} (k:Bool->Option β):T68c F p0 p1 p2 k=(T68 F p0 p1 p2).bind k:=by
 simp only [T68,T68c,Option.bind_assoc,cond_bind,Option.bind_some,Option.bind_none,elimS_bind]
abbrev cA68:List Sh:=[.i,.i,.i]
abbrev cB68:List Sh:=[.bo]
abbrev cT68:List TSh:=[]
abbrev cU68:List TSh:=[]
def ct68 (F:Nat):Ct:=mkC 0 cA68 cT68 cB68 cU68 (fun x y=>T68 F x.1 x.2.1 x.2.2.1) (fun x y (z:Bool)=>((z,()),()))
theorem eq68 (F:Nat) (x:dens cA68) (y:tdens cT68):sev (E68 F) 0 [] (bodyOf Tryd.f68) [] (mkSt (rng 3) cA68 cT68 x y) (kFn (E68 F) 0 Tryd.f68.results.toList cB68 cU68 fun p q=>some (p,q)) =
  T68c F x.1 x.2.1 x.2.2.1 (fun z=>some ((z,()),())):=by kernel_rfl
theorem ok68 (F:Nat):Sound Tryd.prog cfg 68 (ct68 F):=
 mkC_ok (E:=E68 F) (lp:=[]) (code:=bodyOf Tryd.f68) Tryd.func68 rfl Tryd.ntmps68 rfl rfl cok (cts68 F) mixed trivial (by kernel_rfl) (fun x y k=>T68c F x.1 x.2.1 x.2.2.1 k) (fun x y k=>T68n F x.1 x.2.1 x.2.2.1 k) (eq68 F)
def ord91:Nat->List (Tag×Nat)
 | _=>[]
def al91:Nat->Option Nat
 | _=>none
def ms91:Nat->Option (List (Option Tag×Nat×List Nat))
 | _=>none
def E91 (F:Nat):Ev:=⟨cfg,17,ctOf [(68,ct68 F)],ord91,ctOf [],al91,ms91⟩
theorem cts91 (F:Nat):CtsOk Tryd.prog (E91 F):=cts_of (l:=[(68,ct68 F)]) (l':=[]) rfl rfl ⟨⟨ok68 F,_,Tryd.func68,rfl,rfl⟩,trivial⟩ trivial
def T91c (F:Nat) (p0:List UInt8) (p1:Int) (p2:Int) {β:Type} (k:Bool->Option β):Option β:=
 (bif ((p0.length:Int) == (32:Int)) then (Option.bind (T68 F p1 (0:Int) (1099511627776:Int)) fun z3=>(bif z3 then (Option.bind (T68 F p2 (0:Int) (32768:Int)) fun z4=>(k z4)) else (k false))) else (k false))
def T91 (F:Nat) (p0:List UInt8) (p1:Int) (p2:Int):Option (Bool):=T91c F p0 p1 p2 some
theorem T91n (F:Nat) (p0:List UInt8) (p1:Int) (p2:Int) {β:Type} (k:Bool->Option β):T91c F p0 p1 p2 k=(T91 F p0 p1 p2).bind k:=by
 simp only [T91,T91c,Option.bind_assoc,cond_bind,Option.bind_some,Option.bind_none,elimS_bind]
abbrev cA91:List Sh:=[(.pr .str (.pr .i (.pr .i .un)))]
abbrev cB91:List Sh:=[.bo]
abbrev cT91:List TSh:=[]
abbrev cU91:List TSh:=[]
def ct91 (F:Nat):Ct:=mkC 0 cA91 cT91 cB91 cU91 (fun x y=>T91 F x.1.1 x.1.2.1 x.1.2.2.1) (fun x y (z:Bool)=>((z,()),()))
theorem eq91 (F:Nat) (x:dens cA91) (y:tdens cT91):sev (E91 F) 0 [] (bodyOf Tryd.f91) [] (mkSt (rng 1) cA91 cT91 x y) (kFn (E91 F) 0 Tryd.f91.results.toList cB91 cU91 fun p q=>some (p,q)) =
  T91c F x.1.1 x.1.2.1 x.1.2.2.1 (fun z=>some ((z,()),())):=by kernel_rfl
theorem ok91 (F:Nat):Sound Tryd.prog cfg 91 (ct91 F):=
 mkC_ok (E:=E91 F) (lp:=[]) (code:=bodyOf Tryd.f91) Tryd.func91 rfl Tryd.ntmps91 rfl rfl cok (cts91 F) mixed trivial (by kernel_rfl) (fun x y k=>T91c F x.1.1 x.1.2.1 x.1.2.2.1 k) (fun x y k=>T91n F x.1.1 x.1.2.1 x.1.2.2.1 k) (eq91 F)
def ord69:Nat->List (Tag×Nat)
 | _=>[]
def al69:Nat->Option Nat
 | _=>none
def ms69:Nat->Option (List (Option Tag×Nat×List Nat))
 | _=>none
def E69 (F:Nat):Ev:=⟨cfg,44,ctOf [(68,ct68 F),(91,ct91 F)],ord69,ctOf [],al69,ms69⟩
theorem cts69 (F:Nat):CtsOk Tryd.prog (E69 F):=cts_of (l:=[(68,ct68 F),(91,ct91 F)]) (l':=[]) rfl rfl ⟨⟨ok68 F,_,Tryd.func68,rfl,rfl⟩,⟨⟨ok91 F,_,Tryd.func91,rfl,rfl⟩,trivial⟩⟩ trivial
def T69c (F:Nat) (p0:Int) (p1:Int) (p2:Int) (p3:List UInt8) (p4:Int) (p5:Int) (p6:Int) (p7:Int) (p8:List UInt8) {β:Type} (k:Bool->Option β):Option β:=
 (Option.bind (T68 F p0 (0:Int) (11:Int)) fun z7=>(bif (!z7) then (k false) else (Option.bind (T68 F p1 (1:Int) (1099511627776:Int)) fun z8=>(bif (!z8) then (k false) else (Option.bind (T68 F p2 (0:Int) (999999:Int)) fun z9=>(bif (!z9) then (k false) else (Option.bind (T68 F p6 (0:Int) (1099511627776:Int)) fun z10=>(bif (!z10) then (k false) else (Option.bind (T68 F p7 (0:Int) (1099511627776:Int)) fun z11=>(bif (!z11) then (k false) else (Option.bind (T91 F p3 p4 p5) fun z12=>(bif z12 then (bif ((p8.length:Int) == (0:Int)) then (k true) else (k ((p8.length:Int) == (32:Int)))) else (k false)))))))))))))
def T69 (F:Nat) (p0:Int) (p1:Int) (p2:Int) (p3:List UInt8) (p4:Int) (p5:Int) (p6:Int) (p7:Int) (p8:List UInt8):Option (Bool):=T69c F p0 p1 p2 p3 p4 p5 p6 p7 p8 some
theorem T69n (F:Nat) (p0:Int) (p1:Int) (p2:Int) (p3:List UInt8) (p4:Int) (p5:Int) (p6:Int) (p7:Int) (p8:List UInt8) {β:Type} (k:Bool->Option β):T69c F p0 p1 p2 p3 p4 p5 p6 p7 p8 k=(T69 F p0 p1 p2 p3 p4 p5 p6 p7 p8).bind k:=by
 simp only [T69,T69c,Option.bind_assoc,cond_bind,Option.bind_some,Option.bind_none,elimS_bind]
abbrev cA69:List Sh:=[(.pr .i (.pr .i (.pr .i (.pr (.pr .str (.pr .i (.pr .i .un))) (.pr .i (.pr .i (.pr .str (.pr .bo .un))))))))]
abbrev cB69:List Sh:=[.bo]
abbrev cT69:List TSh:=[]
abbrev cU69:List TSh:=[]
def ct69 (F:Nat):Ct:=mkC 0 cA69 cT69 cB69 cU69 (fun x y=>T69 F x.1.1 x.1.2.1 x.1.2.2.1 x.1.2.2.2.1.1 x.1.2.2.2.1.2.1 x.1.2.2.2.1.2.2.1 x.1.2.2.2.2.1 x.1.2.2.2.2.2.1 x.1.2.2.2.2.2.2.1) (fun x y (z:Bool)=>((z,()),()))
theorem eq69 (F:Nat) (x:dens cA69) (y:tdens cT69):sev (E69 F) 0 [] (bodyOf Tryd.f69) [] (mkSt (rng 1) cA69 cT69 x y) (kFn (E69 F) 0 Tryd.f69.results.toList cB69 cU69 fun p q=>some (p,q)) =
  T69c F x.1.1 x.1.2.1 x.1.2.2.1 x.1.2.2.2.1.1 x.1.2.2.2.1.2.1 x.1.2.2.2.1.2.2.1 x.1.2.2.2.2.1 x.1.2.2.2.2.2.1 x.1.2.2.2.2.2.2.1 (fun z=>some ((z,()),())):=by kernel_rfl
theorem ok69 (F:Nat):Sound Tryd.prog cfg 69 (ct69 F):=
 mkC_ok (E:=E69 F) (lp:=[]) (code:=bodyOf Tryd.f69) Tryd.func69 rfl Tryd.ntmps69 rfl rfl cok (cts69 F) mixed trivial (by kernel_rfl) (fun x y k=>T69c F x.1.1 x.1.2.1 x.1.2.2.1 x.1.2.2.2.1.1 x.1.2.2.2.1.2.1 x.1.2.2.2.1.2.2.1 x.1.2.2.2.2.1 x.1.2.2.2.2.2.1 x.1.2.2.2.2.2.2.1 k) (fun x y k=>T69n F x.1.1 x.1.2.1 x.1.2.2.1 x.1.2.2.2.1.1 x.1.2.2.2.1.2.1 x.1.2.2.2.1.2.2.1 x.1.2.2.2.2.1 x.1.2.2.2.2.2.1 x.1.2.2.2.2.2.2.1 k) (eq69 F)
def ord93:Nat->List (Tag×Nat)
 | _=>[]
def al93:Nat->Option Nat
 | _=>none
def ms93:Nat->Option (List (Option Tag×Nat×List Nat))
 | _=>none
def E93 (F:Nat):Ev:=⟨cfg,6,ctOf [(91,ct91 F)],ord93,ctOf [],al93,ms93⟩
theorem cts93 (F:Nat):CtsOk Tryd.prog (E93 F):=cts_of (l:=[(91,ct91 F)]) (l':=[]) rfl rfl ⟨⟨ok91 F,_,Tryd.func91,rfl,rfl⟩,trivial⟩ trivial
def T93c (F:Nat) (p0:List UInt8) (p1:Int) (p2:Int) {β:Type} (k:Bool->Option β):Option β:=
 (Option.bind (T91 F p0 p1 p2) fun z2=>(k (!z2)))
def T93 (F:Nat) (p0:List UInt8) (p1:Int) (p2:Int):Option (Bool):=T93c F p0 p1 p2 some
theorem T93n (F:Nat) (p0:List UInt8) (p1:Int) (p2:Int) {β:Type} (k:Bool->Option β):T93c F p0 p1 p2 k=(T93 F p0 p1 p2).bind k:=by
 simp only [T93,T93c,Option.bind_assoc,cond_bind,Option.bind_some,Option.bind_none,elimS_bind]
abbrev cA93:List Sh:=[(.pr .str (.pr .i (.pr .i .un)))]
abbrev cB93:List Sh:=[.bo]
abbrev cT93:List TSh:=[]
abbrev cU93:List TSh:=[]
def ct93 (F:Nat):Ct:=mkC 0 cA93 cT93 cB93 cU93 (fun x y=>T93 F x.1.1 x.1.2.1 x.1.2.2.1) (fun x y (z:Bool)=>((z,()),()))
theorem eq93 (F:Nat) (x:dens cA93) (y:tdens cT93):sev (E93 F) 0 [] (bodyOf Tryd.f93) [] (mkSt (rng 1) cA93 cT93 x y) (kFn (E93 F) 0 Tryd.f93.results.toList cB93 cU93 fun p q=>some (p,q)) =
  T93c F x.1.1 x.1.2.1 x.1.2.2.1 (fun z=>some ((z,()),())):=by kernel_rfl
theorem ok93 (F:Nat):Sound Tryd.prog cfg 93 (ct93 F):=
 mkC_ok (E:=E93 F) (lp:=[]) (code:=bodyOf Tryd.f93) Tryd.func93 rfl Tryd.ntmps93 rfl rfl cok (cts93 F) mixed trivial (by kernel_rfl) (fun x y k=>T93c F x.1.1 x.1.2.1 x.1.2.2.1 k) (fun x y k=>T93n F x.1.1 x.1.2.1 x.1.2.2.1 k) (eq93 F)
def ord108:Nat->List (Tag×Nat)
 | _=>[]
def al108:Nat->Option Nat
 | _=>none
def ms108:Nat->Option (List (Option Tag×Nat×List Nat))
 | _=>none
def E108 (F:Nat):Ev:=⟨cfg,19,ctOf [(93,ct93 F)],ord108,ctOf [],al108,ms108⟩
theorem cts108 (F:Nat):CtsOk Tryd.prog (E108 F):=cts_of (l:=[(93,ct93 F)]) (l':=[]) rfl rfl ⟨⟨ok93 F,_,Tryd.func93,rfl,rfl⟩,trivial⟩ trivial
def L108_2c (F:Nat) (y9:List ((List UInt8)×Int×Int×Unit)) (y10:Int) (y11:Int) {β:Type} (kA:Int->Option β) (kO:Unit->Option β) (kR:Int->Option β):Option β:=
 (bif (decide (y11 < y10)) then (Option.bind (ix y9 y11) fun x14=>(Option.bind (T93 F x14.1 x14.2.1 x14.2.2.1) fun z15=>(bif z15 then (kR y11) else (kA (w64 (y11 + (1:Int))))))) else (kO ()))
def L108_2 (F:Nat) (y9:List ((List UInt8)×Int×Int×Unit)) (y10:Int) (y11:Int):Option ((Int) ⊕ ((Unit) ⊕ (Int))):=L108_2c F y9 y10 y11 (fun s=>some (.inl s)) (fun z=>some (.inr (.inl z))) (fun z=>some (.inr (.inr z)))
theorem L108_2n (F:Nat) (y9:List ((List UInt8)×Int×Int×Unit)) (y10:Int) (y11:Int) {β:Type} (kA:Int->Option β) (kO:Unit->Option β) (kR:Int->Option β):L108_2c F y9 y10 y11 kA kO kR=(L108_2 F y9 y10 y11).bind (elimS kA (elimS kO kR)):=by
 simp only [L108_2,L108_2c,Option.bind_assoc,cond_bind,Option.bind_some,Option.bind_none,elimS_l,elimS_r,elimS_bind]
abbrev sA108_2:List Sh:=[(.ro (.pr .s (.pr .i (.pr .i .un)))),(.fn 93 .un .un),.i,.i]
abbrev sAp1108_2:List Sh:=[]
abbrev sAp2108_2:List Sh:=[.i]
abbrev sT108_2:List TSh:=[]
abbrev sTp1108_2:List TSh:=[]
abbrev sTp2108_2:List TSh:=[]
def lc108_2 (F:Nat):Lc:=mkR [0,1,7,8] sA108_2 sT108_2 [] sAp1108_2 sTp1108_2 [4] sAp2108_2 sTp2108_2 F (fun x y (s:Int)=>L108_2 F x.1 x.2.2.1 s) (fun x y=>x.2.2.2.1) (fun x y (z:Unit)=>((),())) (fun x y (z:Int)=>((z,()),()))
theorem le108_2 (F:Nat) (x:dens sA108_2) (y:tdens sT108_2) (s:Int):sev (E108 F) 0 [] (cAt (bodyOf Tryd.f108) (0 :: 0 :: [1,0,1])) (0 :: 0 :: [1,0,1]) (mkSt [0,1,7,8] sA108_2 sT108_2 (x.1,((),()),x.2.2.1,s,()) ()) (kLoop 0 [0,1,7,8] sA108_2 sT108_2 [] sAp1108_2 sTp1108_2 [4] sAp2108_2 sTp2108_2 0 (fun x y=>some (.inl (x,y))) (fun x y=>some (.inr (.inl (x,y)))) (fun x y=>some (.inr (.inr (x,y))))) =
  L108_2c (β:=Full sA108_2 sT108_2 sAp1108_2 sTp1108_2 sAp2108_2 sTp2108_2) F x.1 x.2.2.1 s (fun s=>some (.inl ((x.1,((),()),x.2.2.1,s,()),()))) (fun z=>some (.inr (.inl ((),())))) (fun z=>some (.inr (.inr ((z,()),())))):=by kernel_rfl
theorem lo108_2 (F:Nat):LcOk Tryd.prog (E108 F) 0 (lc108_2 F) (cAt (bodyOf Tryd.f108) [1,0,1]):=
 mkR_ok (lp:=[]) (id:=0) (b:=cAt (bodyOf Tryd.f108) (0 :: 0 :: [1,0,1])) cok (cts108 F) mixed trivial (by kernel_rfl) (by kernel_rfl) (fun x y s=>(x.1,((),()),x.2.2.1,s,())) (fun x y s=>()) (fun x y=>rfl) (fun x y=>rfl) (fun x y s kA kO kR=>L108_2c F x.1 x.2.2.1 s kA kO kR) (fun x y s kA kO kR=>L108_2n F x.1 x.2.2.1 s kA kO kR) (le108_2 F)
def T108c (F:Nat) (p0:List ((List UInt8)×Int×Int×Unit)) {β:Type} (k:Int->Option β):Option β:=
 (Option.bind (iter (fun s=>L108_2 F p0 (p0.length:Int) s) F (0:Int)) fun z16=>elimS (fun z16=>(k (-1:Int))) (fun z16=>(k z16)) z16)
def T108 (F:Nat) (p0:List ((List UInt8)×Int×Int×Unit)):Option (Int):=T108c F p0 some
theorem T108n (F:Nat) (p0:List ((List UInt8)×Int×Int×Unit)) {β:Type} (k:Int->Option β):T108c F p0 k=(T108 F p0).bind k:=by
 simp only [T108,T108c,Option.bind_assoc,cond_bind,Option.bind_some,Option.bind_none,elimS_bind]
abbrev cA108:List Sh:=[(.ro (.pr .s (.pr .i (.pr .i .un)))),(.fn 93 .un .un)]
abbrev cB108:List Sh:=[.i]
abbrev cT108:List TSh:=[]
abbrev cU108:List TSh:=[]
def ct108 (F:Nat):Ct:=mkC 0 cA108 cT108 cB108 cU108 (fun x y=>T108 F x.1) (fun x y (z:Int)=>((z,()),()))
theorem eq108 (F:Nat) (x:dens cA108) (y:tdens cT108):sev (E108 F) 0 [([1,0,1],lc108_2 F)] (bodyOf Tryd.f108) [] (mkSt (rng 2) cA108 cT108 x y) (kFn (E108 F) 0 Tryd.f108.results.toList cB108 cU108 fun p q=>some (p,q)) =
  T108c F x.1 (fun z=>some ((z,()),())):=by kernel_rfl
theorem ok108 (F:Nat):Sound Tryd.prog cfg 108 (ct108 F):=
 mkC_ok (E:=E108 F) (lp:=[([1,0,1],lc108_2 F)]) (code:=bodyOf Tryd.f108) Tryd.func108 rfl Tryd.ntmps108 rfl rfl cok (cts108 F) mixed ⟨lo108_2 F,trivial⟩ (by kernel_rfl) (fun x y k=>T108c F x.1 k) (fun x y k=>T108n F x.1 k) (eq108 F)
def ord92:Nat->List (Tag×Nat)
 | _=>[]
def al92:Nat->Option Nat
 | _=>none
def ms92:Nat->Option (List (Option Tag×Nat×List Nat))
 | _=>none
def E92 (F:Nat):Ev:=⟨cfg,9,ctOf [(108,ct108 F)],ord92,ctOf [],al92,ms92⟩
theorem cts92 (F:Nat):CtsOk Tryd.prog (E92 F):=cts_of (l:=[(108,ct108 F)]) (l':=[]) rfl rfl ⟨⟨ok108 F,_,Tryd.func108,rfl,rfl⟩,trivial⟩ trivial
def T92c (F:Nat) (p0:List ((List UInt8)×Int×Int×Unit)) {β:Type} (k:Bool->Option β):Option β:=
 (Option.bind (T108 F p0) fun z2=>(k (decide ((0:Int)≤z2))))
def T92 (F:Nat) (p0:List ((List UInt8)×Int×Int×Unit)):Option (Bool):=T92c F p0 some
theorem T92n (F:Nat) (p0:List ((List UInt8)×Int×Int×Unit)) {β:Type} (k:Bool->Option β):T92c F p0 k=(T92 F p0).bind k:=by
 simp only [T92,T92c,Option.bind_assoc,cond_bind,Option.bind_some,Option.bind_none,elimS_bind]
abbrev cA92:List Sh:=[(.ro (.pr .s (.pr .i (.pr .i .un)))),(.fn 93 .un .un)]
abbrev cB92:List Sh:=[.bo]
abbrev cT92:List TSh:=[]
abbrev cU92:List TSh:=[]
def ct92 (F:Nat):Ct:=mkC 0 cA92 cT92 cB92 cU92 (fun x y=>T92 F x.1) (fun x y (z:Bool)=>((z,()),()))
theorem eq92 (F:Nat) (x:dens cA92) (y:tdens cT92):sev (E92 F) 0 [] (bodyOf Tryd.f92) [] (mkSt (rng 2) cA92 cT92 x y) (kFn (E92 F) 0 Tryd.f92.results.toList cB92 cU92 fun p q=>some (p,q)) =
  T92c F x.1 (fun z=>some ((z,()),())):=by kernel_rfl
theorem ok92 (F:Nat):Sound Tryd.prog cfg 92 (ct92 F):=
 mkC_ok (E:=E92 F) (lp:=[]) (code:=bodyOf Tryd.f92) Tryd.func92 rfl Tryd.ntmps92 rfl rfl cok (cts92 F) mixed trivial (by kernel_rfl) (fun x y k=>T92c F x.1 k) (fun x y k=>T92n F x.1 k) (eq92 F)
def ord71:Nat->List (Tag×Nat)
 | _=>[]
def al71:Nat->Option Nat
 | _=>none
def ms71:Nat->Option (List (Option Tag×Nat×List Nat))
 | _=>none
def E71 (F:Nat):Ev:=⟨cfg,6,ctOf [(92,ct92 F)],ord71,ctOf [],al71,ms71⟩
theorem cts71 (F:Nat):CtsOk Tryd.prog (E71 F):=cts_of (l:=[(92,ct92 F)]) (l':=[]) rfl rfl ⟨⟨ok92 F,_,Tryd.func92,rfl,rfl⟩,trivial⟩ trivial
def T71c (F:Nat) (p0:List ((List UInt8)×Int×Int×Unit)) {β:Type} (k:Bool->Option β):Option β:=
 (Option.bind (T92 F p0) fun z2=>(k (!z2)))
def T71 (F:Nat) (p0:List ((List UInt8)×Int×Int×Unit)):Option (Bool):=T71c F p0 some
theorem T71n (F:Nat) (p0:List ((List UInt8)×Int×Int×Unit)) {β:Type} (k:Bool->Option β):T71c F p0 k=(T71 F p0).bind k:=by
 simp only [T71,T71c,Option.bind_assoc,cond_bind,Option.bind_some,Option.bind_none,elimS_bind]
abbrev cA71:List Sh:=[(.ro (.pr .s (.pr .i (.pr .i .un))))]
abbrev cB71:List Sh:=[.bo]
abbrev cT71:List TSh:=[]
abbrev cU71:List TSh:=[]
def ct71 (F:Nat):Ct:=mkC 0 cA71 cT71 cB71 cU71 (fun x y=>T71 F x.1) (fun x y (z:Bool)=>((z,()),()))
theorem eq71 (F:Nat) (x:dens cA71) (y:tdens cT71):sev (E71 F) 0 [] (bodyOf Tryd.f71) [] (mkSt (rng 1) cA71 cT71 x y) (kFn (E71 F) 0 Tryd.f71.results.toList cB71 cU71 fun p q=>some (p,q)) =
  T71c F x.1 (fun z=>some ((z,()),())):=by kernel_rfl
theorem ok71 (F:Nat):Sound Tryd.prog cfg 71 (ct71 F):=
 mkC_ok (E:=E71 F) (lp:=[]) (code:=bodyOf Tryd.f71) Tryd.func71 rfl Tryd.ntmps71 rfl rfl cok (cts71 F) mixed trivial (by kernel_rfl) (fun x y k=>T71c F x.1 k) (fun x y k=>T71n F x.1 k) (eq71 F)
def ord70:Nat->List (Tag×Nat)
 | _=>[]
def al70:Nat->Option Nat
 | _=>none
def ms70:Nat->Option (List (Option Tag×Nat×List Nat))
 | _=>none
def E70 (F:Nat):Ev:=⟨cfg,38,ctOf [(68,ct68 F),(71,ct71 F)],ord70,ctOf [],al70,ms70⟩
theorem cts70 (F:Nat):CtsOk Tryd.prog (E70 F):=cts_of (l:=[(68,ct68 F),(71,ct71 F)]) (l':=[]) rfl rfl ⟨⟨ok68 F,_,Tryd.func68,rfl,rfl⟩,⟨⟨ok71 F,_,Tryd.func71,rfl,rfl⟩,trivial⟩⟩ trivial
def T70c (F:Nat) (p0:List UInt8) (p1:Int) (p2:Int) (p3:Int) (p4:Int) (p5:List ((List UInt8)×Int×Int×Unit)) {β:Type} (k:Bool->Option β):Option β:=
 (bif ((p0.length:Int) != (32:Int)) then (k false) else (Option.bind (T68 F p1 (0:Int) (1000:Int)) fun z6=>(bif (!z6) then (k false) else (Option.bind (T68 F p2 (1:Int) (65536:Int)) fun z7=>(bif (!z7) then (k false) else (Option.bind (T68 F p3 (1:Int) (8:Int)) fun z8=>(bif (!z8) then (k false) else (Option.bind (T68 F p4 (1:Int) (16:Int)) fun z9=>(bif (!z9) then (k false) else (bif (decide ((p5.length:Int)≤(8:Int))) then (Option.bind (T71 F p5) fun z10=>(k z10)) else (k false)))))))))))
def T70 (F:Nat) (p0:List UInt8) (p1:Int) (p2:Int) (p3:Int) (p4:Int) (p5:List ((List UInt8)×Int×Int×Unit)):Option (Bool):=T70c F p0 p1 p2 p3 p4 p5 some
theorem T70n (F:Nat) (p0:List UInt8) (p1:Int) (p2:Int) (p3:Int) (p4:Int) (p5:List ((List UInt8)×Int×Int×Unit)) {β:Type} (k:Bool->Option β):T70c F p0 p1 p2 p3 p4 p5 k=(T70 F p0 p1 p2 p3 p4 p5).bind k:=by
 simp only [T70,T70c,Option.bind_assoc,cond_bind,Option.bind_some,Option.bind_none,elimS_bind]
abbrev cA70:List Sh:=[(.pr .str (.pr .i (.pr .i (.pr .i (.pr .i (.pr (.ro (.pr .s (.pr .i (.pr .i .un)))) .un))))))]
abbrev cB70:List Sh:=[.bo]
abbrev cT70:List TSh:=[]
abbrev cU70:List TSh:=[]
def ct70 (F:Nat):Ct:=mkC 0 cA70 cT70 cB70 cU70 (fun x y=>T70 F x.1.1 x.1.2.1 x.1.2.2.1 x.1.2.2.2.1 x.1.2.2.2.2.1 x.1.2.2.2.2.2.1) (fun x y (z:Bool)=>((z,()),()))
theorem eq70 (F:Nat) (x:dens cA70) (y:tdens cT70):sev (E70 F) 0 [] (bodyOf Tryd.f70) [] (mkSt (rng 1) cA70 cT70 x y) (kFn (E70 F) 0 Tryd.f70.results.toList cB70 cU70 fun p q=>some (p,q)) =
  T70c F x.1.1 x.1.2.1 x.1.2.2.1 x.1.2.2.2.1 x.1.2.2.2.2.1 x.1.2.2.2.2.2.1 (fun z=>some ((z,()),())):=by kernel_rfl
theorem ok70 (F:Nat):Sound Tryd.prog cfg 70 (ct70 F):=
 mkC_ok (E:=E70 F) (lp:=[]) (code:=bodyOf Tryd.f70) Tryd.func70 rfl Tryd.ntmps70 rfl rfl cok (cts70 F) mixed trivial (by kernel_rfl) (fun x y k=>T70c F x.1.1 x.1.2.1 x.1.2.2.1 x.1.2.2.2.1 x.1.2.2.2.2.1 x.1.2.2.2.2.2.1 k) (fun x y k=>T70n F x.1.1 x.1.2.1 x.1.2.2.1 x.1.2.2.2.1 x.1.2.2.2.2.1 x.1.2.2.2.2.2.1 k) (eq70 F)
def ord39:Nat->List (Tag×Nat)
 | _=>[]
def al39:Nat->Option Nat
 | _=>none
def ms39:Nat->Option (List (Option Tag×Nat×List Nat))
 | _=>none
def E39 (F:Nat):Ev:=⟨cfg,77,ctOf [(68,ct68 F),(69,ct69 F),(70,ct70 F),(71,ct71 F)],ord39,ctOf [],al39,ms39⟩
theorem cts39 (F:Nat):CtsOk Tryd.prog (E39 F):=cts_of (l:=[(68,ct68 F),(69,ct69 F),(70,ct70 F),(71,ct71 F)]) (l':=[]) rfl rfl ⟨⟨ok68 F,_,Tryd.func68,rfl,rfl⟩,⟨⟨ok69 F,_,Tryd.func69,rfl,rfl⟩,⟨⟨ok70 F,_,Tryd.func70,rfl,rfl⟩,⟨⟨ok71 F,_,Tryd.func71,rfl,rfl⟩,trivial⟩⟩⟩⟩ trivial
def L39_4c (F:Nat) (y48:List Int) (y49:Int) (y50:Int) {β:Type} (kA:Int->Option β) (kO:Unit->Option β) (kR:Bool->Option β):Option β:=
 (bif (decide (y50 < y49)) then (Option.bind (ix y48 y50) fun x59=>(Option.bind (T68 F x59 (0:Int) (1099511627776:Int)) fun z60=>(bif (!z60) then (kR false) else (kA (w64 (y50 + (1:Int))))))) else (kO ()))
def L39_4 (F:Nat) (y48:List Int) (y49:Int) (y50:Int):Option ((Int) ⊕ ((Unit) ⊕ (Bool))):=L39_4c F y48 y49 y50 (fun s=>some (.inl s)) (fun z=>some (.inr (.inl z))) (fun z=>some (.inr (.inr z)))
theorem L39_4n (F:Nat) (y48:List Int) (y49:Int) (y50:Int) {β:Type} (kA:Int->Option β) (kO:Unit->Option β) (kR:Bool->Option β):L39_4c F y48 y49 y50 kA kO kR=(L39_4 F y48 y49 y50).bind (elimS kA (elimS kO kR)):=by
 simp only [L39_4,L39_4c,Option.bind_assoc,cond_bind,Option.bind_some,Option.bind_none,elimS_l,elimS_r,elimS_bind]
abbrev sA39_4:List Sh:=[(.pt 0 []),(.ro .i),.i,.i]
abbrev sAp139_4:List Sh:=[(.pt 0 [])]
abbrev sAp239_4:List Sh:=[.bo]
abbrev sT39_4:List TSh:=[.blk 47 (.pr .i (.pr .i (.pr (.ro .i) (.pr (.ro (.pr .i (.pr .i (.pr .i (.pr (.pr .s (.pr .i (.pr .i .un))) (.pr .i (.pr .i (.pr .s (.pr .bo .un))))))))) (.pr (.ro (.pr .s (.pr .i (.pr .i (.pr .i (.pr .i (.pr (.sl (.pr .s (.pr .i (.pr .i .un)))) .un))))))) (.pr (.ro (.pr .s (.pr .i (.pr .i .un)))) .un))))))]
abbrev sTp139_4:List TSh:=[.blk 47 (.pr .i (.pr .i (.pr (.ro .i) (.pr (.ro (.pr .i (.pr .i (.pr .i (.pr (.pr .s (.pr .i (.pr .i .un))) (.pr .i (.pr .i (.pr .s (.pr .bo .un))))))))) (.pr (.ro (.pr .s (.pr .i (.pr .i (.pr .i (.pr .i (.pr (.sl (.pr .s (.pr .i (.pr .i .un)))) .un))))))) (.pr (.ro (.pr .s (.pr .i (.pr .i .un)))) .un))))))]
abbrev sTp239_4:List TSh:=[]
def lc39_4 (F:Nat):Lc:=mkR [1,42,43,44] sA39_4 sT39_4 [1] sAp139_4 sTp139_4 [2] sAp239_4 sTp239_4 F (fun x y (s:Int)=>L39_4 F x.2.1 x.2.2.1 s) (fun x y=>x.2.2.2.1) (fun x y (z:Unit)=>(((),()),((y.1.1,y.1.2.1,y.1.2.2.1,y.1.2.2.2.1,y.1.2.2.2.2.1,y.1.2.2.2.2.2.1,()),()))) (fun x y (z:Bool)=>((z,()),()))
theorem le39_4 (F:Nat) (x:dens sA39_4) (y:tdens sT39_4) (s:Int):sev (E39 F) 0 [] (cAt (bodyOf Tryd.f39) (0 :: 0 :: [1,0,1,1,1])) (0 :: 0 :: [1,0,1,1,1]) (mkSt [1,42,43,44] sA39_4 sT39_4 ((),x.2.1,x.2.2.1,s,()) ((y.1.1,y.1.2.1,y.1.2.2.1,y.1.2.2.2.1,y.1.2.2.2.2.1,y.1.2.2.2.2.2.1,()),())) (kLoop 0 [1,42,43,44] sA39_4 sT39_4 [1] sAp139_4 sTp139_4 [2] sAp239_4 sTp239_4 0 (fun x y=>some (.inl (x,y))) (fun x y=>some (.inr (.inl (x,y)))) (fun x y=>some (.inr (.inr (x,y))))) =
  L39_4c (β:=Full sA39_4 sT39_4 sAp139_4 sTp139_4 sAp239_4 sTp239_4) F x.2.1 x.2.2.1 s (fun s=>some (.inl (((),x.2.1,x.2.2.1,s,()),((y.1.1,y.1.2.1,y.1.2.2.1,y.1.2.2.2.1,y.1.2.2.2.2.1,y.1.2.2.2.2.2.1,()),())))) (fun z=>some (.inr (.inl (((),()),((y.1.1,y.1.2.1,y.1.2.2.1,y.1.2.2.2.1,y.1.2.2.2.2.1,y.1.2.2.2.2.2.1,()),()))))) (fun z=>some (.inr (.inr ((z,()),())))):=by kernel_rfl
theorem lo39_4 (F:Nat):LcOk Tryd.prog (E39 F) 0 (lc39_4 F) (cAt (bodyOf Tryd.f39) [1,0,1,1,1]):=
 mkR_ok (lp:=[]) (id:=0) (b:=cAt (bodyOf Tryd.f39) (0 :: 0 :: [1,0,1,1,1])) cok (cts39 F) mixed trivial (by kernel_rfl) (by kernel_rfl) (fun x y s=>((),x.2.1,x.2.2.1,s,())) (fun x y s=>((y.1.1,y.1.2.1,y.1.2.2.1,y.1.2.2.2.1,y.1.2.2.2.2.1,y.1.2.2.2.2.2.1,()),())) (fun x y=>rfl) (fun x y=>rfl) (fun x y s kA kO kR=>L39_4c F x.2.1 x.2.2.1 s kA kO kR) (fun x y s kA kO kR=>L39_4n F x.2.1 x.2.2.1 s kA kO kR) (le39_4 F)
def L39_5c (F:Nat) (y62:List (Int×Int×Int×((List UInt8)×Int×Int×Unit)×Int×Int×(List UInt8)×Bool×Unit)) (y63:Int) (y64:Int) {β:Type} (kA:Int->Option β) (kO:Unit->Option β) (kR:Bool->Option β):Option β:=
 (bif (decide (y64 < y63)) then (Option.bind (ix y62 y64) fun x73=>(Option.bind (T69 F x73.1 x73.2.1 x73.2.2.1 x73.2.2.2.1.1 x73.2.2.2.1.2.1 x73.2.2.2.1.2.2.1 x73.2.2.2.2.1 x73.2.2.2.2.2.1 x73.2.2.2.2.2.2.1) fun z74=>(bif (!z74) then (kR false) else (kA (w64 (y64 + (1:Int))))))) else (kO ()))
def L39_5 (F:Nat) (y62:List (Int×Int×Int×((List UInt8)×Int×Int×Unit)×Int×Int×(List UInt8)×Bool×Unit)) (y63:Int) (y64:Int):Option ((Int) ⊕ ((Unit) ⊕ (Bool))):=L39_5c F y62 y63 y64 (fun s=>some (.inl s)) (fun z=>some (.inr (.inl z))) (fun z=>some (.inr (.inr z)))
theorem L39_5n (F:Nat) (y62:List (Int×Int×Int×((List UInt8)×Int×Int×Unit)×Int×Int×(List UInt8)×Bool×Unit)) (y63:Int) (y64:Int) {β:Type} (kA:Int->Option β) (kO:Unit->Option β) (kR:Bool->Option β):L39_5c F y62 y63 y64 kA kO kR=(L39_5 F y62 y63 y64).bind (elimS kA (elimS kO kR)):=by
 simp only [L39_5,L39_5c,Option.bind_assoc,cond_bind,Option.bind_some,Option.bind_none,elimS_l,elimS_r,elimS_bind]
abbrev sA39_5:List Sh:=[(.pt 0 []),(.ro (.pr .i (.pr .i (.pr .i (.pr (.pr .s (.pr .i (.pr .i .un))) (.pr .i (.pr .i (.pr .s (.pr .bo .un))))))))),.i,.i]
abbrev sAp139_5:List Sh:=[(.pt 0 [])]
abbrev sAp239_5:List Sh:=[.bo]
abbrev sT39_5:List TSh:=[.blk 47 (.pr .i (.pr .i (.pr (.ro .i) (.pr (.ro (.pr .i (.pr .i (.pr .i (.pr (.pr .s (.pr .i (.pr .i .un))) (.pr .i (.pr .i (.pr .s (.pr .bo .un))))))))) (.pr (.ro (.pr .s (.pr .i (.pr .i (.pr .i (.pr .i (.pr (.sl (.pr .s (.pr .i (.pr .i .un)))) .un))))))) (.pr (.ro (.pr .s (.pr .i (.pr .i .un)))) .un))))))]
abbrev sTp139_5:List TSh:=[.blk 47 (.pr .i (.pr .i (.pr (.ro .i) (.pr (.ro (.pr .i (.pr .i (.pr .i (.pr (.pr .s (.pr .i (.pr .i .un))) (.pr .i (.pr .i (.pr .s (.pr .bo .un))))))))) (.pr (.ro (.pr .s (.pr .i (.pr .i (.pr .i (.pr .i (.pr (.sl (.pr .s (.pr .i (.pr .i .un)))) .un))))))) (.pr (.ro (.pr .s (.pr .i (.pr .i .un)))) .un))))))]
abbrev sTp239_5:List TSh:=[]
def lc39_5 (F:Nat):Lc:=mkR [1,53,54,55] sA39_5 sT39_5 [1] sAp139_5 sTp139_5 [2] sAp239_5 sTp239_5 F (fun x y (s:Int)=>L39_5 F x.2.1 x.2.2.1 s) (fun x y=>x.2.2.2.1) (fun x y (z:Unit)=>(((),()),((y.1.1,y.1.2.1,y.1.2.2.1,y.1.2.2.2.1,y.1.2.2.2.2.1,y.1.2.2.2.2.2.1,()),()))) (fun x y (z:Bool)=>((z,()),()))
theorem le39_5 (F:Nat) (x:dens sA39_5) (y:tdens sT39_5) (s:Int):sev (E39 F) 0 [] (cAt (bodyOf Tryd.f39) (0 :: 0 :: [1,0,1,1,1,1])) (0 :: 0 :: [1,0,1,1,1,1]) (mkSt [1,53,54,55] sA39_5 sT39_5 ((),x.2.1,x.2.2.1,s,()) ((y.1.1,y.1.2.1,y.1.2.2.1,y.1.2.2.2.1,y.1.2.2.2.2.1,y.1.2.2.2.2.2.1,()),())) (kLoop 0 [1,53,54,55] sA39_5 sT39_5 [1] sAp139_5 sTp139_5 [2] sAp239_5 sTp239_5 2 (fun x y=>some (.inl (x,y))) (fun x y=>some (.inr (.inl (x,y)))) (fun x y=>some (.inr (.inr (x,y))))) =
  L39_5c (β:=Full sA39_5 sT39_5 sAp139_5 sTp139_5 sAp239_5 sTp239_5) F x.2.1 x.2.2.1 s (fun s=>some (.inl (((),x.2.1,x.2.2.1,s,()),((y.1.1,y.1.2.1,y.1.2.2.1,y.1.2.2.2.1,y.1.2.2.2.2.1,y.1.2.2.2.2.2.1,()),())))) (fun z=>some (.inr (.inl (((),()),((y.1.1,y.1.2.1,y.1.2.2.1,y.1.2.2.2.1,y.1.2.2.2.2.1,y.1.2.2.2.2.2.1,()),()))))) (fun z=>some (.inr (.inr ((z,()),())))):=by kernel_rfl
theorem lo39_5 (F:Nat):LcOk Tryd.prog (E39 F) 0 (lc39_5 F) (cAt (bodyOf Tryd.f39) [1,0,1,1,1,1]):=
 mkR_ok (lp:=[]) (id:=2) (b:=cAt (bodyOf Tryd.f39) (0 :: 0 :: [1,0,1,1,1,1])) cok (cts39 F) mixed trivial (by kernel_rfl) (by kernel_rfl) (fun x y s=>((),x.2.1,x.2.2.1,s,())) (fun x y s=>((y.1.1,y.1.2.1,y.1.2.2.1,y.1.2.2.2.1,y.1.2.2.2.2.1,y.1.2.2.2.2.2.1,()),())) (fun x y=>rfl) (fun x y=>rfl) (fun x y s kA kO kR=>L39_5c F x.2.1 x.2.2.1 s kA kO kR) (fun x y s kA kO kR=>L39_5n F x.2.1 x.2.2.1 s kA kO kR) (le39_5 F)
def L39_6c (F:Nat) (y76:List ((List UInt8)×Int×Int×Int×Int×(List ((List UInt8)×Int×Int×Unit))×Unit)) (y77:Int) (y78:Int) {β:Type} (kA:Int->Option β) (kO:Unit->Option β) (kR:Bool->Option β):Option β:=
 (bif (decide (y78 < y77)) then (Option.bind (ix y76 y78) fun x87=>(Option.bind (T70 F x87.1 x87.2.1 x87.2.2.1 x87.2.2.2.1 x87.2.2.2.2.1 x87.2.2.2.2.2.1) fun z88=>(bif (!z88) then (kR false) else (kA (w64 (y78 + (1:Int))))))) else (kO ()))
def L39_6 (F:Nat) (y76:List ((List UInt8)×Int×Int×Int×Int×(List ((List UInt8)×Int×Int×Unit))×Unit)) (y77:Int) (y78:Int):Option ((Int) ⊕ ((Unit) ⊕ (Bool))):=L39_6c F y76 y77 y78 (fun s=>some (.inl s)) (fun z=>some (.inr (.inl z))) (fun z=>some (.inr (.inr z)))
theorem L39_6n (F:Nat) (y76:List ((List UInt8)×Int×Int×Int×Int×(List ((List UInt8)×Int×Int×Unit))×Unit)) (y77:Int) (y78:Int) {β:Type} (kA:Int->Option β) (kO:Unit->Option β) (kR:Bool->Option β):L39_6c F y76 y77 y78 kA kO kR=(L39_6 F y76 y77 y78).bind (elimS kA (elimS kO kR)):=by
 simp only [L39_6,L39_6c,Option.bind_assoc,cond_bind,Option.bind_some,Option.bind_none,elimS_l,elimS_r,elimS_bind]
abbrev sA39_6:List Sh:=[(.pt 0 []),(.ro (.pr .s (.pr .i (.pr .i (.pr .i (.pr .i (.pr (.sl (.pr .s (.pr .i (.pr .i .un)))) .un))))))),.i,.i]
abbrev sAp139_6:List Sh:=[(.pt 0 [])]
abbrev sAp239_6:List Sh:=[.bo]
abbrev sT39_6:List TSh:=[.blk 47 (.pr .i (.pr .i (.pr (.ro .i) (.pr (.ro (.pr .i (.pr .i (.pr .i (.pr (.pr .s (.pr .i (.pr .i .un))) (.pr .i (.pr .i (.pr .s (.pr .bo .un))))))))) (.pr (.ro (.pr .s (.pr .i (.pr .i (.pr .i (.pr .i (.pr (.sl (.pr .s (.pr .i (.pr .i .un)))) .un))))))) (.pr (.ro (.pr .s (.pr .i (.pr .i .un)))) .un))))))]
abbrev sTp139_6:List TSh:=[.blk 47 (.pr .i (.pr .i (.pr (.ro .i) (.pr (.ro (.pr .i (.pr .i (.pr .i (.pr (.pr .s (.pr .i (.pr .i .un))) (.pr .i (.pr .i (.pr .s (.pr .bo .un))))))))) (.pr (.ro (.pr .s (.pr .i (.pr .i (.pr .i (.pr .i (.pr (.sl (.pr .s (.pr .i (.pr .i .un)))) .un))))))) (.pr (.ro (.pr .s (.pr .i (.pr .i .un)))) .un))))))]
abbrev sTp239_6:List TSh:=[]
def lc39_6 (F:Nat):Lc:=mkR [1,64,65,66] sA39_6 sT39_6 [1] sAp139_6 sTp139_6 [2] sAp239_6 sTp239_6 F (fun x y (s:Int)=>L39_6 F x.2.1 x.2.2.1 s) (fun x y=>x.2.2.2.1) (fun x y (z:Unit)=>(((),()),((y.1.1,y.1.2.1,y.1.2.2.1,y.1.2.2.2.1,y.1.2.2.2.2.1,y.1.2.2.2.2.2.1,()),()))) (fun x y (z:Bool)=>((z,()),()))
theorem le39_6 (F:Nat) (x:dens sA39_6) (y:tdens sT39_6) (s:Int):sev (E39 F) 0 [] (cAt (bodyOf Tryd.f39) (0 :: 0 :: [1,0,1,1,1,1,1])) (0 :: 0 :: [1,0,1,1,1,1,1]) (mkSt [1,64,65,66] sA39_6 sT39_6 ((),x.2.1,x.2.2.1,s,()) ((y.1.1,y.1.2.1,y.1.2.2.1,y.1.2.2.2.1,y.1.2.2.2.2.1,y.1.2.2.2.2.2.1,()),())) (kLoop 0 [1,64,65,66] sA39_6 sT39_6 [1] sAp139_6 sTp139_6 [2] sAp239_6 sTp239_6 4 (fun x y=>some (.inl (x,y))) (fun x y=>some (.inr (.inl (x,y)))) (fun x y=>some (.inr (.inr (x,y))))) =
  L39_6c (β:=Full sA39_6 sT39_6 sAp139_6 sTp139_6 sAp239_6 sTp239_6) F x.2.1 x.2.2.1 s (fun s=>some (.inl (((),x.2.1,x.2.2.1,s,()),((y.1.1,y.1.2.1,y.1.2.2.1,y.1.2.2.2.1,y.1.2.2.2.2.1,y.1.2.2.2.2.2.1,()),())))) (fun z=>some (.inr (.inl (((),()),((y.1.1,y.1.2.1,y.1.2.2.1,y.1.2.2.2.1,y.1.2.2.2.2.1,y.1.2.2.2.2.2.1,()),()))))) (fun z=>some (.inr (.inr ((z,()),())))):=by kernel_rfl
theorem lo39_6 (F:Nat):LcOk Tryd.prog (E39 F) 0 (lc39_6 F) (cAt (bodyOf Tryd.f39) [1,0,1,1,1,1,1]):=
 mkR_ok (lp:=[]) (id:=4) (b:=cAt (bodyOf Tryd.f39) (0 :: 0 :: [1,0,1,1,1,1,1])) cok (cts39 F) mixed trivial (by kernel_rfl) (by kernel_rfl) (fun x y s=>((),x.2.1,x.2.2.1,s,())) (fun x y s=>((y.1.1,y.1.2.1,y.1.2.2.1,y.1.2.2.2.1,y.1.2.2.2.2.1,y.1.2.2.2.2.2.1,()),())) (fun x y=>rfl) (fun x y=>rfl) (fun x y s kA kO kR=>L39_6c F x.2.1 x.2.2.1 s kA kO kR) (fun x y s kA kO kR=>L39_6n F x.2.1 x.2.2.1 s kA kO kR) (le39_6 F)
def T39c (F:Nat) (p0:Int) (p1:Int) (p2:List Int) (p3:List (Int×Int×Int×((List UInt8)×Int×Int×Unit)×Int×Int×(List UInt8)×Bool×Unit)) (p4:List ((List UInt8)×Int×Int×Int×Int×(List ((List UInt8)×Int×Int×Unit))×Unit)) (p5:List ((List UInt8)×Int×Int×Unit)) {β:Type} (k:Bool->Option β):Option β:=
 (Option.bind (T68 F p0 (0:Int) (1000:Int)) fun z46=>(bif (!z46) then (k false) else (Option.bind (T68 F p1 (0:Int) (1000:Int)) fun z47=>(bif (!z47) then (k false) else (bif (decide ((12:Int) < (p2.length:Int))) then (k false) else (bif (decide ((4096:Int) < (p3.length:Int))) then (k false) else (bif (decide ((4096:Int) < (p4.length:Int))) then (k false) else (bif (decide ((4096:Int) < (p5.length:Int))) then (k false) else (Option.bind (iter (fun s=>L39_4 F p2 (p2.length:Int) s) F (0:Int)) fun z61=>elimS (fun z61=>(Option.bind (iter (fun s=>L39_5 F p3 (p3.length:Int) s) F (0:Int)) fun z75=>elimS (fun z75=>(Option.bind (iter (fun s=>L39_6 F p4 (p4.length:Int) s) F (0:Int)) fun z89=>elimS (fun z89=>(Option.bind (T71 F p5) fun z90=>(k z90))) (fun z89=>(k z89)) z89)) (fun z75=>(k z75)) z75)) (fun z61=>(k z61)) z61)))))))))
def T39 (F:Nat) (p0:Int) (p1:Int) (p2:List Int) (p3:List (Int×Int×Int×((List UInt8)×Int×Int×Unit)×Int×Int×(List UInt8)×Bool×Unit)) (p4:List ((List UInt8)×Int×Int×Int×Int×(List ((List UInt8)×Int×Int×Unit))×Unit)) (p5:List ((List UInt8)×Int×Int×Unit)):Option (Bool):=T39c F p0 p1 p2 p3 p4 p5 some
theorem T39n (F:Nat) (p0:Int) (p1:Int) (p2:List Int) (p3:List (Int×Int×Int×((List UInt8)×Int×Int×Unit)×Int×Int×(List UInt8)×Bool×Unit)) (p4:List ((List UInt8)×Int×Int×Int×Int×(List ((List UInt8)×Int×Int×Unit))×Unit)) (p5:List ((List UInt8)×Int×Int×Unit)) {β:Type} (k:Bool->Option β):T39c F p0 p1 p2 p3 p4 p5 k=(T39 F p0 p1 p2 p3 p4 p5).bind k:=by
 simp only [T39,T39c,Option.bind_assoc,cond_bind,Option.bind_some,Option.bind_none,elimS_bind]
abbrev cA39:List Sh:=[(.pr .i (.pr .i (.pr (.ro .i) (.pr (.ro (.pr .i (.pr .i (.pr .i (.pr (.pr .s (.pr .i (.pr .i .un))) (.pr .i (.pr .i (.pr .s (.pr .bo .un))))))))) (.pr (.ro (.pr .s (.pr .i (.pr .i (.pr .i (.pr .i (.pr (.sl (.pr .s (.pr .i (.pr .i .un)))) .un))))))) (.pr (.ro (.pr .s (.pr .i (.pr .i .un)))) .un))))))]
abbrev cB39:List Sh:=[.bo]
abbrev cT39:List TSh:=[]
abbrev cU39:List TSh:=[]
def ct39 (F:Nat):Ct:=mkC 0 cA39 cT39 cB39 cU39 (fun x y=>T39 F x.1.1 x.1.2.1 x.1.2.2.1 x.1.2.2.2.1 x.1.2.2.2.2.1 x.1.2.2.2.2.2.1) (fun x y (z:Bool)=>((z,()),()))
theorem eq39 (F:Nat) (x:dens cA39) (y:tdens cT39):sev (E39 F) 0 [([1,0,1,1,1],lc39_4 F),([1,0,1,1,1,1],lc39_5 F),([1,0,1,1,1,1,1],lc39_6 F)] (bodyOf Tryd.f39) [] (mkSt (rng 1) cA39 cT39 x y) (kFn (E39 F) 0 Tryd.f39.results.toList cB39 cU39 fun p q=>some (p,q)) =
  T39c F x.1.1 x.1.2.1 x.1.2.2.1 x.1.2.2.2.1 x.1.2.2.2.2.1 x.1.2.2.2.2.2.1 (fun z=>some ((z,()),())):=by kernel_rfl
theorem ok39 (F:Nat):Sound Tryd.prog cfg 39 (ct39 F):=
 mkC_ok (E:=E39 F) (lp:=[([1,0,1,1,1],lc39_4 F),([1,0,1,1,1,1],lc39_5 F),([1,0,1,1,1,1,1],lc39_6 F)]) (code:=bodyOf Tryd.f39) Tryd.func39 rfl Tryd.ntmps39 rfl rfl cok (cts39 F) mixed ⟨lo39_4 F,⟨lo39_5 F,⟨lo39_6 F,trivial⟩⟩⟩ (by kernel_rfl) (fun x y k=>T39c F x.1.1 x.1.2.1 x.1.2.2.1 x.1.2.2.2.1 x.1.2.2.2.2.1 x.1.2.2.2.2.2.1 k) (fun x y k=>T39n F x.1.1 x.1.2.1 x.1.2.2.1 x.1.2.2.2.1 x.1.2.2.2.2.1 x.1.2.2.2.2.2.1 k) (eq39 F)
def ord40:Nat->List (Tag×Nat)
 | _=>[]
def al40:Nat->Option Nat
 | _=>none
def ms40:Nat->Option (List (Option Tag×Nat×List Nat))
 | _=>none
def E40 (F:Nat):Ev:=⟨cfg,3,ctOf [],ord40,ctOf [],al40,ms40⟩
theorem cts40 (F:Nat):CtsOk Tryd.prog (E40 F):=cts_of (l:=[]) (l':=[]) rfl rfl trivial trivial
def T40c (F:Nat) {β:Type} (k:Int->Option β):Option β:=
 (k (0:Int))
def T40 (F:Nat):Option (Int):=T40c F some
theorem T40n (F:Nat) {β:Type} (k:Int->Option β):T40c F k=(T40 F).bind k:=by
 simp only [T40,T40c,Option.bind_assoc,cond_bind,Option.bind_some,Option.bind_none,elimS_bind]
abbrev cA40:List Sh:=[]
abbrev cB40:List Sh:=[(.pt 0 [])]
abbrev cT40:List TSh:=[]
abbrev cU40:List TSh:=[.blk 112 (.pr .ns (.pr .i .un))]
def ct40 (F:Nat):Ct:=mkC 0 cA40 cT40 cB40 cU40 (fun x y=>T40 F) (fun x y (z:Int)=>(((),()),(((),z,()),())))
theorem eq40 (F:Nat) (x:dens cA40) (y:tdens cT40):sev (E40 F) 0 [] (bodyOf Tryd.f40) [] (mkSt (rng 0) cA40 cT40 x y) (kFn (E40 F) 0 Tryd.f40.results.toList cB40 cU40 fun p q=>some (p,q)) =
  T40c F (fun z=>some (((),()),(((),z,()),()))):=by kernel_rfl
theorem ok40 (F:Nat):Sound Tryd.prog cfg 40 (ct40 F):=
 mkC_ok (E:=E40 F) (lp:=[]) (code:=bodyOf Tryd.f40) Tryd.func40 rfl Tryd.ntmps40 rfl rfl cok (cts40 F) mixed trivial (by kernel_rfl) (fun x y k=>T40c F k) (fun x y k=>T40n F k) (eq40 F)
def ord74:Nat->List (Tag×Nat)
 | _=>[]
def al74:Nat->Option Nat
 | _=>none
def ms74:Nat->Option (List (Option Tag×Nat×List Nat))
 | _=>none
def E74 (F:Nat):Ev:=⟨cfg,14,ctOf [],ord74,ctOf [],al74,ms74⟩
theorem cts74 (F:Nat):CtsOk Tryd.prog (E74 F):=cts_of (l:=[]) (l':=[]) rfl rfl trivial trivial
def T74c (F:Nat) (p0:Int) {β:Type} (k:UInt64->Option β):Option β:=
 (bif (decide (p0 < (0:Int))) then (k (((UInt64.ofInt (w64 (0 - (w64 (p0 + (1:Int)))))) * (UInt64.ofNat 2)) + (UInt64.ofNat 1))) else (k ((UInt64.ofInt p0) * (UInt64.ofNat 2))))
def T74 (F:Nat) (p0:Int):Option (UInt64):=T74c F p0 some
theorem T74n (F:Nat) (p0:Int) {β:Type} (k:UInt64->Option β):T74c F p0 k=(T74 F p0).bind k:=by
 simp only [T74,T74c,Option.bind_assoc,cond_bind,Option.bind_some,Option.bind_none,elimS_bind]
abbrev cA74:List Sh:=[.i]
abbrev cB74:List Sh:=[.u64]
abbrev cT74:List TSh:=[]
abbrev cU74:List TSh:=[]
def ct74 (F:Nat):Ct:=mkC 0 cA74 cT74 cB74 cU74 (fun x y=>T74 F x.1) (fun x y (z:UInt64)=>((z,()),()))
theorem eq74 (F:Nat) (x:dens cA74) (y:tdens cT74):sev (E74 F) 0 [] (bodyOf Tryd.f74) [] (mkSt (rng 1) cA74 cT74 x y) (kFn (E74 F) 0 Tryd.f74.results.toList cB74 cU74 fun p q=>some (p,q)) =
  T74c F x.1 (fun z=>some ((z,()),())):=by kernel_rfl
theorem ok74 (F:Nat):Sound Tryd.prog cfg 74 (ct74 F):=
 mkC_ok (E:=E74 F) (lp:=[]) (code:=bodyOf Tryd.f74) Tryd.func74 rfl Tryd.ntmps74 rfl rfl cok (cts74 F) mixed trivial (by kernel_rfl) (fun x y k=>T74c F x.1 k) (fun x y k=>T74n F x.1 k) (eq74 F)
def ord75:Nat->List (Tag×Nat)
 | _=>[]
def al75:Nat->Option Nat
 | _=>none
def ms75:Nat->Option (List (Option Tag×Nat×List Nat))
 | _=>none
def E75 (F:Nat):Ev:=⟨cfg,20,ctOf [],ord75,ctOf [],al75,ms75⟩
theorem cts75 (F:Nat):CtsOk Tryd.prog (E75 F):=cts_of (l:=[]) (l':=[]) rfl rfl trivial trivial
def L75_2c (F:Nat) (y7:UInt64) (y8:List UInt8) {β:Type} (kA:(UInt64×(List UInt8))->Option β) (kO:(UInt64×(List UInt8))->Option β):Option β:=
 (bif (decide ((UInt64.ofNat 128)≤y7)) then (Option.bind (gapp y8 ([((y7.toUInt8) ||| (UInt8.ofNat 128))]:List UInt8)) fun x10=>(kA ((shr64 y7 ((UInt64.ofNat 7).toNat)),x10))) else (kO (y7,y8)))
def L75_2 (F:Nat) (y7:UInt64) (y8:List UInt8):Option ((UInt64×(List UInt8)) ⊕ (UInt64×(List UInt8))):=L75_2c F y7 y8 (fun s=>some (.inl s)) (fun z=>some (.inr z))
theorem L75_2n (F:Nat) (y7:UInt64) (y8:List UInt8) {β:Type} (kA:(UInt64×(List UInt8))->Option β) (kO:(UInt64×(List UInt8))->Option β):L75_2c F y7 y8 kA kO=(L75_2 F y7 y8).bind (elimS kA kO):=by
 simp only [L75_2,L75_2c,Option.bind_assoc,cond_bind,Option.bind_some,Option.bind_none,elimS_l,elimS_r,elimS_bind]
abbrev sA75_2:List Sh:=[(.rw 0),.u64]
abbrev sAp175_2:List Sh:=[(.rw 0),.u64]
abbrev sT75_2:List TSh:=[.row 5 .u8]
abbrev sTp175_2:List TSh:=[.row 5 .u8]
def lc75_2 (F:Nat):Lc:=mkL [0,1] sA75_2 sT75_2 [0,1] sAp175_2 sTp175_2 F (fun x y (s:UInt64×(List UInt8))=>L75_2 F s.1 s.2) (fun x y=>(x.2.1,y.1)) (fun x y (z:UInt64×(List UInt8))=>(((),z.1,()),(z.2,())))
theorem le75_2 (F:Nat) (x:dens sA75_2) (y:tdens sT75_2) (s:UInt64×(List UInt8)):sev (E75 F) 0 [] (cAt (bodyOf Tryd.f75) (0 :: 0 :: [0,1])) (0 :: 0 :: [0,1]) (mkSt [0,1] sA75_2 sT75_2 ((),s.1,()) (s.2,())) (kLoop 0 [0,1] sA75_2 sT75_2 [0,1] sAp175_2 sTp175_2 [] [] [] 0 (fun x y=>some (.inl (x,y))) (fun x y=>some (.inr (.inl (x,y)))) (fun x y=>some (.inr (.inr (x,y))))) =
  L75_2c (β:=Full sA75_2 sT75_2 sAp175_2 sTp175_2 [] []) F s.1 s.2 (fun s=>some (.inl (((),s.1,()),(s.2,())))) (fun z=>some (.inr (.inl (((),z.1,()),(z.2,()))))):=by kernel_rfl
theorem lo75_2 (F:Nat):LcOk Tryd.prog (E75 F) 0 (lc75_2 F) (cAt (bodyOf Tryd.f75) [0,1]):=
 mkL_ok (lp:=[]) (id:=0) (b:=cAt (bodyOf Tryd.f75) (0 :: 0 :: [0,1])) cok (cts75 F) mixed trivial (by kernel_rfl) (by kernel_rfl) (fun x y s=>((),s.1,())) (fun x y s=>(s.2,())) (fun x y=>rfl) (fun x y=>rfl) (fun x y s kA kO=>L75_2c F s.1 s.2 kA kO) (fun x y s kA kO=>L75_2n F s.1 s.2 kA kO) (le75_2 F)
def T75c (F:Nat) (p0:UInt64) (p1:List UInt8) {β:Type} (k:((List UInt8))->Option β):Option β:=
 (Option.bind (iter (fun s=>L75_2 F s.1 s.2) F (p0,p1)) fun z11=>(Option.bind (gapp z11.2 ([(z11.1.toUInt8)]:List UInt8)) fun x12=>(k x12)))
def T75 (F:Nat) (p0:UInt64) (p1:List UInt8):Option ((List UInt8)):=T75c F p0 p1 some
theorem T75n (F:Nat) (p0:UInt64) (p1:List UInt8) {β:Type} (k:((List UInt8))->Option β):T75c F p0 p1 k=(T75 F p0 p1).bind k:=by
 simp only [T75,T75c,Option.bind_assoc,cond_bind,Option.bind_some,Option.bind_none,elimS_bind]
abbrev cA75:List Sh:=[(.rw 0),.u64]
abbrev cB75:List Sh:=[(.rw 0)]
abbrev cT75:List TSh:=[.row 5 .u8]
abbrev cU75:List TSh:=[.row 5 .u8]
def ct75 (F:Nat):Ct:=mkC 0 cA75 cT75 cB75 cU75 (fun x y=>T75 F x.2.1 y.1) (fun x y (z:(List UInt8))=>(((),()),(z,())))
theorem eq75 (F:Nat) (x:dens cA75) (y:tdens cT75):sev (E75 F) 0 [([0,1],lc75_2 F)] (bodyOf Tryd.f75) [] (mkSt (rng 2) cA75 cT75 x y) (kFn (E75 F) 0 Tryd.f75.results.toList cB75 cU75 fun p q=>some (p,q)) =
  T75c F x.2.1 y.1 (fun z=>some (((),()),(z,()))):=by kernel_rfl
theorem ok75 (F:Nat):Sound Tryd.prog cfg 75 (ct75 F):=
 mkC_ok (E:=E75 F) (lp:=[([0,1],lc75_2 F)]) (code:=bodyOf Tryd.f75) Tryd.func75 rfl Tryd.ntmps75 rfl rfl cok (cts75 F) mixed ⟨lo75_2 F,trivial⟩ (by kernel_rfl) (fun x y k=>T75c F x.2.1 y.1 k) (fun x y k=>T75n F x.2.1 y.1 k) (eq75 F)
def ord73:Nat->List (Tag×Nat)
 | _=>[]
def al73:Nat->Option Nat
 | _=>none
def ms73:Nat->Option (List (Option Tag×Nat×List Nat))
 | _=>none
def E73 (F:Nat):Ev:=⟨cfg,18,ctOf [(75,ct75 F)],ord73,ctOf [],al73,ms73⟩
theorem cts73 (F:Nat):CtsOk Tryd.prog (E73 F):=cts_of (l:=[(75,ct75 F)]) (l':=[]) rfl rfl ⟨⟨ok75 F,_,Tryd.func75,rfl,rfl⟩,trivial⟩ trivial
def T73c (F:Nat) (p0:UInt64) (p1:Int) {β:Type} (k:((List UInt8))->Option β):Option β:=
 (bif (p1 == (0:Int)) then (Option.bind (T75 F p0 ([]:List UInt8)) fun z2=>(k z2)) else (k ([]:List UInt8)))
def T73 (F:Nat) (p0:UInt64) (p1:Int):Option ((List UInt8)):=T73c F p0 p1 some
theorem T73n (F:Nat) (p0:UInt64) (p1:Int) {β:Type} (k:((List UInt8))->Option β):T73c F p0 p1 k=(T73 F p0 p1).bind k:=by
 simp only [T73,T73c,Option.bind_assoc,cond_bind,Option.bind_some,Option.bind_none,elimS_bind]
abbrev cA73:List Sh:=[(.pt 0 []),.u64]
abbrev cB73:List Sh:=[]
abbrev cT73:List TSh:=[.blk 112 (.pr .ns (.pr .i .un))]
abbrev cU73:List TSh:=[.blk 112 (.pr (.rw 1) (.pr .i .un)),.row 5 .u8]
def ct73 (F:Nat):Ct:=mkC 1 cA73 cT73 cB73 cU73 (fun x y=>T73 F x.2.1 y.1.2.1) (fun x y (z:(List UInt8))=>((),(((),y.1.2.1,()),z,())))
theorem eq73 (F:Nat) (x:dens cA73) (y:tdens cT73):sev (E73 F) 1 [] (bodyOf Tryd.f73) [] (mkSt (rng 2) cA73 cT73 x y) (kFn (E73 F) 1 Tryd.f73.results.toList cB73 cU73 fun p q=>some (p,q)) =
  T73c F x.2.1 y.1.2.1 (fun z=>some ((),(((),y.1.2.1,()),z,()))):=by kernel_rfl
theorem ok73 (F:Nat):Sound Tryd.prog cfg 73 (ct73 F):=
 mkC_ok (E:=E73 F) (lp:=[]) (code:=bodyOf Tryd.f73) Tryd.func73 rfl Tryd.ntmps73 rfl rfl cok (cts73 F) mixed trivial (by kernel_rfl) (fun x y k=>T73c F x.2.1 y.1.2.1 k) (fun x y k=>T73n F x.2.1 y.1.2.1 k) (eq73 F)
def ord44:Nat->List (Tag×Nat)
 | _=>[]
def al44:Nat->Option Nat
 | _=>none
def ms44:Nat->Option (List (Option Tag×Nat×List Nat))
 | _=>none
def E44 (F:Nat):Ev:=⟨cfg,8,ctOf [(74,ct74 F),(73,ct73 F)],ord44,ctOf [],al44,ms44⟩
theorem cts44 (F:Nat):CtsOk Tryd.prog (E44 F):=cts_of (l:=[(74,ct74 F),(73,ct73 F)]) (l':=[]) rfl rfl ⟨⟨ok74 F,_,Tryd.func74,rfl,rfl⟩,⟨⟨ok73 F,_,Tryd.func73,rfl,rfl⟩,trivial⟩⟩ trivial
def T44c (F:Nat) (p0:Int) (p1:Int) {β:Type} (k:((List UInt8))->Option β):Option β:=
 (Option.bind (T74 F p0) fun z3=>(Option.bind (T73 F z3 p1) fun z4=>(k z4)))
def T44 (F:Nat) (p0:Int) (p1:Int):Option ((List UInt8)):=T44c F p0 p1 some
theorem T44n (F:Nat) (p0:Int) (p1:Int) {β:Type} (k:((List UInt8))->Option β):T44c F p0 p1 k=(T44 F p0 p1).bind k:=by
 simp only [T44,T44c,Option.bind_assoc,cond_bind,Option.bind_some,Option.bind_none,elimS_bind]
abbrev cA44:List Sh:=[(.pt 0 []),.i]
abbrev cB44:List Sh:=[]
abbrev cT44:List TSh:=[.blk 112 (.pr .ns (.pr .i .un))]
abbrev cU44:List TSh:=[.blk 112 (.pr (.rw 1) (.pr .i .un)),.row 5 .u8]
def ct44 (F:Nat):Ct:=mkC 1 cA44 cT44 cB44 cU44 (fun x y=>T44 F x.2.1 y.1.2.1) (fun x y (z:(List UInt8))=>((),(((),y.1.2.1,()),z,())))
theorem eq44 (F:Nat) (x:dens cA44) (y:tdens cT44):sev (E44 F) 1 [] (bodyOf Tryd.f44) [] (mkSt (rng 2) cA44 cT44 x y) (kFn (E44 F) 1 Tryd.f44.results.toList cB44 cU44 fun p q=>some (p,q)) =
  T44c F x.2.1 y.1.2.1 (fun z=>some ((),(((),y.1.2.1,()),z,()))):=by kernel_rfl
theorem ok44 (F:Nat):Sound Tryd.prog cfg 44 (ct44 F):=
 mkC_ok (E:=E44 F) (lp:=[]) (code:=bodyOf Tryd.f44) Tryd.func44 rfl Tryd.ntmps44 rfl rfl cok (cts44 F) mixed trivial (by kernel_rfl) (fun x y k=>T44c F x.2.1 y.1.2.1 k) (fun x y k=>T44n F x.2.1 y.1.2.1 k) (eq44 F)
def ord73x1:Nat->List (Tag×Nat)
 | _=>[]
def al73x1:Nat->Option Nat
 | _=>none
def ms73x1:Nat->Option (List (Option Tag×Nat×List Nat))
 | _=>none
def E73x1 (F:Nat):Ev:=⟨cfg,18,ctOf [(75,ct75 F)],ord73x1,ctOf [],al73x1,ms73x1⟩
theorem cts73x1 (F:Nat):CtsOk Tryd.prog (E73x1 F):=cts_of (l:=[(75,ct75 F)]) (l':=[]) rfl rfl ⟨⟨ok75 F,_,Tryd.func75,rfl,rfl⟩,trivial⟩ trivial
def T73x1c (F:Nat) (p0:UInt64) (p1:Int) (p2:List UInt8) {β:Type} (k:((List UInt8))->Option β):Option β:=
 (bif (p1 == (0:Int)) then (Option.bind (T75 F p0 p2) fun z2=>(k z2)) else (k p2))
def T73x1 (F:Nat) (p0:UInt64) (p1:Int) (p2:List UInt8):Option ((List UInt8)):=T73x1c F p0 p1 p2 some
theorem T73x1n (F:Nat) (p0:UInt64) (p1:Int) (p2:List UInt8) {β:Type} (k:((List UInt8))->Option β):T73x1c F p0 p1 p2 k=(T73x1 F p0 p1 p2).bind k:=by
 simp only [T73x1,T73x1c,Option.bind_assoc,cond_bind,Option.bind_some,Option.bind_none,elimS_bind]
abbrev cA73x1:List Sh:=[(.pt 0 []),.u64]
abbrev cB73x1:List Sh:=[]
abbrev cT73x1:List TSh:=[.blk 112 (.pr (.rw 1) (.pr .i .un)),.row 5 .u8]
abbrev cU73x1:List TSh:=[.blk 112 (.pr (.rw 1) (.pr .i .un)),.row 5 .u8]
def ct73x1 (F:Nat):Ct:=mkC 1 cA73x1 cT73x1 cB73x1 cU73x1 (fun x y=>T73x1 F x.2.1 y.1.2.1 y.2.1) (fun x y (z:(List UInt8))=>((),(((),y.1.2.1,()),z,())))
theorem eq73x1 (F:Nat) (x:dens cA73x1) (y:tdens cT73x1):sev (E73x1 F) 1 [] (bodyOf Tryd.f73) [] (mkSt (rng 2) cA73x1 cT73x1 x y) (kFn (E73x1 F) 1 Tryd.f73.results.toList cB73x1 cU73x1 fun p q=>some (p,q)) =
  T73x1c F x.2.1 y.1.2.1 y.2.1 (fun z=>some ((),(((),y.1.2.1,()),z,()))):=by kernel_rfl
theorem ok73x1 (F:Nat):Sound Tryd.prog cfg 73 (ct73x1 F):=
 mkC_ok (E:=E73x1 F) (lp:=[]) (code:=bodyOf Tryd.f73) Tryd.func73 rfl Tryd.ntmps73 rfl rfl cok (cts73x1 F) mixed trivial (by kernel_rfl) (fun x y k=>T73x1c F x.2.1 y.1.2.1 y.2.1 k) (fun x y k=>T73x1n F x.2.1 y.1.2.1 y.2.1 k) (eq73x1 F)
def ord44x1:Nat->List (Tag×Nat)
 | _=>[]
def al44x1:Nat->Option Nat
 | _=>none
def ms44x1:Nat->Option (List (Option Tag×Nat×List Nat))
 | _=>none
def E44x1 (F:Nat):Ev:=⟨cfg,8,ctOf [(74,ct74 F),(73,ct73x1 F)],ord44x1,ctOf [],al44x1,ms44x1⟩
theorem cts44x1 (F:Nat):CtsOk Tryd.prog (E44x1 F):=cts_of (l:=[(74,ct74 F),(73,ct73x1 F)]) (l':=[]) rfl rfl ⟨⟨ok74 F,_,Tryd.func74,rfl,rfl⟩,⟨⟨ok73x1 F,_,Tryd.func73,rfl,rfl⟩,trivial⟩⟩ trivial
def T44x1c (F:Nat) (p0:Int) (p1:Int) (p2:List UInt8) {β:Type} (k:((List UInt8))->Option β):Option β:=
 (Option.bind (T74 F p0) fun z3=>(Option.bind (T73x1 F z3 p1 p2) fun z4=>(k z4)))
def T44x1 (F:Nat) (p0:Int) (p1:Int) (p2:List UInt8):Option ((List UInt8)):=T44x1c F p0 p1 p2 some
theorem T44x1n (F:Nat) (p0:Int) (p1:Int) (p2:List UInt8) {β:Type} (k:((List UInt8))->Option β):T44x1c F p0 p1 p2 k=(T44x1 F p0 p1 p2).bind k:=by
 simp only [T44x1,T44x1c,Option.bind_assoc,cond_bind,Option.bind_some,Option.bind_none,elimS_bind]
abbrev cA44x1:List Sh:=[(.pt 0 []),.i]
abbrev cB44x1:List Sh:=[]
abbrev cT44x1:List TSh:=[.blk 112 (.pr (.rw 1) (.pr .i .un)),.row 5 .u8]
abbrev cU44x1:List TSh:=[.blk 112 (.pr (.rw 2) (.pr .i .un)),.no,.row 5 .u8]
def ct44x1 (F:Nat):Ct:=mkC 2 cA44x1 cT44x1 cB44x1 cU44x1 (fun x y=>T44x1 F x.2.1 y.1.2.1 y.2.1) (fun x y (z:(List UInt8))=>((),(((),y.1.2.1,()),(),z,())))
theorem eq44x1 (F:Nat) (x:dens cA44x1) (y:tdens cT44x1):sev (E44x1 F) 2 [] (bodyOf Tryd.f44) [] (mkSt (rng 2) cA44x1 cT44x1 x y) (kFn (E44x1 F) 2 Tryd.f44.results.toList cB44x1 cU44x1 fun p q=>some (p,q)) =
  T44x1c F x.2.1 y.1.2.1 y.2.1 (fun z=>some ((),(((),y.1.2.1,()),(),z,()))):=by kernel_rfl
theorem ok44x1 (F:Nat):Sound Tryd.prog cfg 44 (ct44x1 F):=
 mkC_ok (E:=E44x1 F) (lp:=[]) (code:=bodyOf Tryd.f44) Tryd.func44 rfl Tryd.ntmps44 rfl rfl cok (cts44x1 F) mixed trivial (by kernel_rfl) (fun x y k=>T44x1c F x.2.1 y.1.2.1 y.2.1 k) (fun x y k=>T44x1n F x.2.1 y.1.2.1 y.2.1 k) (eq44x1 F)
def ord41:Nat->List (Tag×Nat)
 | _=>[]
def al41:Nat->Option Nat
 | _=>none
def ms41:Nat->Option (List (Option Tag×Nat×List Nat))
 | _=>none
def E41 (F:Nat):Ev:=⟨cfg,16,ctOf [(44,ct44 F),(44,ct44x1 F)],ord41,ctOf [],al41,ms41⟩
theorem cts41 (F:Nat):CtsOk Tryd.prog (E41 F):=cts_of (l:=[(44,ct44 F),(44,ct44x1 F)]) (l':=[]) rfl rfl ⟨⟨ok44 F,_,Tryd.func44,rfl,rfl⟩,⟨⟨ok44x1 F,_,Tryd.func44,rfl,rfl⟩,trivial⟩⟩ trivial
def L41_2c (F:Nat) (y23:List Int) (y24:Int) (y26:Int) (y25:Int) (y27:List UInt8) {β:Type} (kA:(Int×(List UInt8))->Option β) (kO:((List UInt8))->Option β):Option β:=
 (bif (decide (y25 < y24)) then (Option.bind (ix y23 y25) fun x30=>(Option.bind (T44x1 F x30 y26 y27) fun z31=>(kA ((w64 (y25 + (1:Int))),z31)))) else (kO y27))
def L41_2 (F:Nat) (y23:List Int) (y24:Int) (y26:Int) (y25:Int) (y27:List UInt8):Option ((Int×(List UInt8)) ⊕ ((List UInt8))):=L41_2c F y23 y24 y26 y25 y27 (fun s=>some (.inl s)) (fun z=>some (.inr z))
theorem L41_2n (F:Nat) (y23:List Int) (y24:Int) (y26:Int) (y25:Int) (y27:List UInt8) {β:Type} (kA:(Int×(List UInt8))->Option β) (kO:((List UInt8))->Option β):L41_2c F y23 y24 y26 y25 y27 kA kO=(L41_2 F y23 y24 y26 y25 y27).bind (elimS kA kO):=by
 simp only [L41_2,L41_2c,Option.bind_assoc,cond_bind,Option.bind_some,Option.bind_none,elimS_l,elimS_r,elimS_bind]
abbrev sA41_2:List Sh:=[(.pt 0 []),(.ro .i),.i,.i]
abbrev sAp141_2:List Sh:=[]
abbrev sT41_2:List TSh:=[.blk 112 (.pr (.rw 1) (.pr .i .un)),.row 5 .u8]
abbrev sTp141_2:List TSh:=[.blk 112 (.pr (.rw 1) (.pr .i .un)),.row 5 .u8]
def lc41_2 (F:Nat):Lc:=mkL [0,6,7,8] sA41_2 sT41_2 [] sAp141_2 sTp141_2 F (fun x y (s:Int×(List UInt8))=>L41_2 F x.2.1 x.2.2.1 y.1.2.1 s.1 s.2) (fun x y=>(x.2.2.2.1,y.2.1)) (fun x y (z:(List UInt8))=>((),(((),y.1.2.1,()),z,())))
theorem le41_2 (F:Nat) (x:dens sA41_2) (y:tdens sT41_2) (s:Int×(List UInt8)):sev (E41 F) 1 [] (cAt (bodyOf Tryd.f41) (0 :: 0 :: [1])) (0 :: 0 :: [1]) (mkSt [0,6,7,8] sA41_2 sT41_2 ((),x.2.1,x.2.2.1,s.1,()) (((),y.1.2.1,()),s.2,())) (kLoop 1 [0,6,7,8] sA41_2 sT41_2 [] sAp141_2 sTp141_2 [] [] [] 0 (fun x y=>some (.inl (x,y))) (fun x y=>some (.inr (.inl (x,y)))) (fun x y=>some (.inr (.inr (x,y))))) =
  L41_2c (β:=Full sA41_2 sT41_2 sAp141_2 sTp141_2 [] []) F x.2.1 x.2.2.1 y.1.2.1 s.1 s.2 (fun s=>some (.inl (((),x.2.1,x.2.2.1,s.1,()),(((),y.1.2.1,()),s.2,())))) (fun z=>some (.inr (.inl ((),(((),y.1.2.1,()),z,()))))):=by kernel_rfl
theorem lo41_2 (F:Nat):LcOk Tryd.prog (E41 F) 1 (lc41_2 F) (cAt (bodyOf Tryd.f41) [1]):=
 mkL_ok (lp:=[]) (id:=0) (b:=cAt (bodyOf Tryd.f41) (0 :: 0 :: [1])) cok (cts41 F) mixed trivial (by kernel_rfl) (by kernel_rfl) (fun x y s=>((),x.2.1,x.2.2.1,s.1,())) (fun x y s=>(((),y.1.2.1,()),s.2,())) (fun x y=>rfl) (fun x y=>rfl) (fun x y s kA kO=>L41_2c F x.2.1 x.2.2.1 y.1.2.1 s.1 s.2 kA kO) (fun x y s kA kO=>L41_2n F x.2.1 x.2.2.1 y.1.2.1 s.1 s.2 kA kO) (le41_2 F)
def T41c (F:Nat) (p0:List Int) (p1:Int) {β:Type} (k:((List UInt8))->Option β):Option β:=
 (Option.bind (iter (fun s=>L41_2 F p0 (p0.length:Int) p1 s.1 s.2) F ((0:Int),([]:List UInt8))) fun z32=>(k z32))
def T41 (F:Nat) (p0:List Int) (p1:Int):Option ((List UInt8)):=T41c F p0 p1 some
theorem T41n (F:Nat) (p0:List Int) (p1:Int) {β:Type} (k:((List UInt8))->Option β):T41c F p0 p1 k=(T41 F p0 p1).bind k:=by
 simp only [T41,T41c,Option.bind_assoc,cond_bind,Option.bind_some,Option.bind_none,elimS_bind]
abbrev cA41:List Sh:=[(.pt 0 []),(.ro .i)]
abbrev cB41:List Sh:=[]
abbrev cT41:List TSh:=[.blk 112 (.pr .ns (.pr .i .un))]
abbrev cU41:List TSh:=[.blk 112 (.pr (.rw 1) (.pr .i .un)),.row 5 .u8]
def ct41 (F:Nat):Ct:=mkC 1 cA41 cT41 cB41 cU41 (fun x y=>T41 F x.2.1 y.1.2.1) (fun x y (z:(List UInt8))=>((),(((),y.1.2.1,()),z,())))
theorem eq41 (F:Nat) (x:dens cA41) (y:tdens cT41):sev (E41 F) 1 [([1],lc41_2 F)] (bodyOf Tryd.f41) [] (mkSt (rng 2) cA41 cT41 x y) (kFn (E41 F) 1 Tryd.f41.results.toList cB41 cU41 fun p q=>some (p,q)) =
  T41c F x.2.1 y.1.2.1 (fun z=>some ((),(((),y.1.2.1,()),z,()))):=by kernel_rfl
theorem ok41 (F:Nat):Sound Tryd.prog cfg 41 (ct41 F):=
 mkC_ok (E:=E41 F) (lp:=[([1],lc41_2 F)]) (code:=bodyOf Tryd.f41) Tryd.func41 rfl Tryd.ntmps41 rfl rfl cok (cts41 F) mixed ⟨lo41_2 F,trivial⟩ (by kernel_rfl) (fun x y k=>T41c F x.2.1 y.1.2.1 k) (fun x y k=>T41n F x.2.1 y.1.2.1 k) (eq41 F)
def ord72:Nat->List (Tag×Nat)
 | _=>[]
def al72:Nat->Option Nat
 | _=>none
def ms72:Nat->Option (List (Option Tag×Nat×List Nat))
 | _=>none
def E72 (F:Nat):Ev:=⟨cfg,18,ctOf [(73,ct73x1 F)],ord72,ctOf [],al72,ms72⟩
theorem cts72 (F:Nat):CtsOk Tryd.prog (E72 F):=cts_of (l:=[(73,ct73x1 F)]) (l':=[]) rfl rfl ⟨⟨ok73x1 F,_,Tryd.func73,rfl,rfl⟩,trivial⟩ trivial
def T72c (F:Nat) (p0:Int) (p1:Int) (p2:List UInt8) {β:Type} (k:(Int×(List UInt8))->Option β):Option β:=
 (bif (p1 != (0:Int)) then (k (p1,p2)) else (bif (decide (p0 < (0:Int))) then (k ((1:Int),p2)) else (Option.bind (T73x1 F (UInt64.ofInt p0) p1 p2) fun z2=>(k (p1,z2)))))
def T72 (F:Nat) (p0:Int) (p1:Int) (p2:List UInt8):Option (Int×(List UInt8)):=T72c F p0 p1 p2 some
theorem T72n (F:Nat) (p0:Int) (p1:Int) (p2:List UInt8) {β:Type} (k:(Int×(List UInt8))->Option β):T72c F p0 p1 p2 k=(T72 F p0 p1 p2).bind k:=by
 simp only [T72,T72c,Option.bind_assoc,cond_bind,Option.bind_some,Option.bind_none,elimS_bind]
abbrev cA72:List Sh:=[(.pt 0 []),.i]
abbrev cB72:List Sh:=[]
abbrev cT72:List TSh:=[.blk 112 (.pr (.rw 1) (.pr .i .un)),.row 5 .u8]
abbrev cU72:List TSh:=[.blk 112 (.pr (.rw 1) (.pr .i .un)),.row 5 .u8]
def ct72 (F:Nat):Ct:=mkC 1 cA72 cT72 cB72 cU72 (fun x y=>T72 F x.2.1 y.1.2.1 y.2.1) (fun x y (z:Int×(List UInt8))=>((),(((),z.1,()),z.2,())))
theorem eq72 (F:Nat) (x:dens cA72) (y:tdens cT72):sev (E72 F) 1 [] (bodyOf Tryd.f72) [] (mkSt (rng 2) cA72 cT72 x y) (kFn (E72 F) 1 Tryd.f72.results.toList cB72 cU72 fun p q=>some (p,q)) =
  T72c F x.2.1 y.1.2.1 y.2.1 (fun z=>some ((),(((),z.1,()),z.2,()))):=by kernel_rfl
theorem ok72 (F:Nat):Sound Tryd.prog cfg 72 (ct72 F):=
 mkC_ok (E:=E72 F) (lp:=[]) (code:=bodyOf Tryd.f72) Tryd.func72 rfl Tryd.ntmps72 rfl rfl cok (cts72 F) mixed trivial (by kernel_rfl) (fun x y k=>T72c F x.2.1 y.1.2.1 y.2.1 k) (fun x y k=>T72n F x.2.1 y.1.2.1 y.2.1 k) (eq72 F)
def ord43:Nat->List (Tag×Nat)
 | _=>[]
def al43:Nat->Option Nat
 | _=>none
def ms43:Nat->Option (List (Option Tag×Nat×List Nat))
 | _=>none
def E43 (F:Nat):Ev:=⟨cfg,6,ctOf [(44,ct44x1 F)],ord43,ctOf [],al43,ms43⟩
theorem cts43 (F:Nat):CtsOk Tryd.prog (E43 F):=cts_of (l:=[(44,ct44x1 F)]) (l':=[]) rfl rfl ⟨⟨ok44x1 F,_,Tryd.func44,rfl,rfl⟩,trivial⟩ trivial
def T43c (F:Nat) (p0:Int) (p1:Int) (p2:List UInt8) {β:Type} (k:((List UInt8))->Option β):Option β:=
 (Option.bind (T44x1 F p0 p1 p2) fun z2=>(k z2))
def T43 (F:Nat) (p0:Int) (p1:Int) (p2:List UInt8):Option ((List UInt8)):=T43c F p0 p1 p2 some
theorem T43n (F:Nat) (p0:Int) (p1:Int) (p2:List UInt8) {β:Type} (k:((List UInt8))->Option β):T43c F p0 p1 p2 k=(T43 F p0 p1 p2).bind k:=by
 simp only [T43,T43c,Option.bind_assoc,cond_bind,Option.bind_some,Option.bind_none,elimS_bind]
abbrev cA43:List Sh:=[.i,(.pt 0 [])]
abbrev cB43:List Sh:=[]
abbrev cT43:List TSh:=[.blk 75 (.pt 1 []),.blk 112 (.pr (.rw 2) (.pr .i .un)),.row 5 .u8]
abbrev cU43:List TSh:=[.blk 75 (.pt 1 []),.blk 112 (.pr (.rw 3) (.pr .i .un)),.no,.row 5 .u8]
def ct43 (F:Nat):Ct:=mkC 3 cA43 cT43 cB43 cU43 (fun x y=>T43 F x.1 y.2.1.2.1 y.2.2.1) (fun x y (z:(List UInt8))=>((),((),((),y.2.1.2.1,()),(),z,())))
theorem eq43 (F:Nat) (x:dens cA43) (y:tdens cT43):sev (E43 F) 3 [] (bodyOf Tryd.f43) [] (mkSt (rng 2) cA43 cT43 x y) (kFn (E43 F) 3 Tryd.f43.results.toList cB43 cU43 fun p q=>some (p,q)) =
  T43c F x.1 y.2.1.2.1 y.2.2.1 (fun z=>some ((),((),((),y.2.1.2.1,()),(),z,()))):=by kernel_rfl
theorem ok43 (F:Nat):Sound Tryd.prog cfg 43 (ct43 F):=
 mkC_ok (E:=E43 F) (lp:=[]) (code:=bodyOf Tryd.f43) Tryd.func43 rfl Tryd.ntmps43 rfl rfl cok (cts43 F) mixed trivial (by kernel_rfl) (fun x y k=>T43c F x.1 y.2.1.2.1 y.2.2.1 k) (fun x y k=>T43n F x.1 y.2.1.2.1 y.2.2.1 k) (eq43 F)
def ord42:Nat->List (Tag×Nat)
 | _=>[]
def al42:Nat->Option Nat
 | _=>none
def ms42:Nat->Option (List (Option Tag×Nat×List Nat))
 | _=>none
def E42 (F:Nat):Ev:=⟨cfg,22,ctOf [(72,ct72 F),(43,ct43 F)],ord42,ctOf [],al42,ms42⟩
theorem cts42 (F:Nat):CtsOk Tryd.prog (E42 F):=cts_of (l:=[(72,ct72 F),(43,ct43 F)]) (l':=[]) rfl rfl ⟨⟨ok72 F,_,Tryd.func72,rfl,rfl⟩,⟨⟨ok43 F,_,Tryd.func43,rfl,rfl⟩,trivial⟩⟩ trivial
def L42_2c (F:Nat) (y13:List Int) (y14:Int) (y16:Int) (y15:Int) (y17:List UInt8) {β:Type} (kA:(Int×(List UInt8))->Option β) (kO:((List UInt8))->Option β):Option β:=
 (bif (decide (y15 < y14)) then (Option.bind (ix y13 y15) fun x20=>(Option.bind (T43 F x20 y16 y17) fun z21=>(kA ((w64 (y15 + (1:Int))),z21)))) else (kO y17))
def L42_2 (F:Nat) (y13:List Int) (y14:Int) (y16:Int) (y15:Int) (y17:List UInt8):Option ((Int×(List UInt8)) ⊕ ((List UInt8))):=L42_2c F y13 y14 y16 y15 y17 (fun s=>some (.inl s)) (fun z=>some (.inr z))
theorem L42_2n (F:Nat) (y13:List Int) (y14:Int) (y16:Int) (y15:Int) (y17:List UInt8) {β:Type} (kA:(Int×(List UInt8))->Option β) (kO:((List UInt8))->Option β):L42_2c F y13 y14 y16 y15 y17 kA kO=(L42_2 F y13 y14 y16 y15 y17).bind (elimS kA kO):=by
 simp only [L42_2,L42_2c,Option.bind_assoc,cond_bind,Option.bind_some,Option.bind_none,elimS_l,elimS_r,elimS_bind]
abbrev sA42_2:List Sh:=[(.fn 43 .un (.pr (.pt 1 []) .un)),(.ro .i),.i,.i]
abbrev sAp142_2:List Sh:=[]
abbrev sT42_2:List TSh:=[.blk 112 (.pr (.rw 3) (.pr .i .un)),.blk 75 (.pt 0 []),.no,.row 5 .u8]
abbrev sTp142_2:List TSh:=[.blk 112 (.pr (.rw 3) (.pr .i .un)),.blk 75 (.pt 0 []),.no,.row 5 .u8]
def lc42_2 (F:Nat):Lc:=mkL [2,12,13,14] sA42_2 sT42_2 [] sAp142_2 sTp142_2 F (fun x y (s:Int×(List UInt8))=>L42_2 F x.2.1 x.2.2.1 y.1.2.1 s.1 s.2) (fun x y=>(x.2.2.2.1,y.2.2.2.1)) (fun x y (z:(List UInt8))=>((),(((),y.1.2.1,()),(),(),z,())))
theorem le42_2 (F:Nat) (x:dens sA42_2) (y:tdens sT42_2) (s:Int×(List UInt8)):sev (E42 F) 3 [] (cAt (bodyOf Tryd.f42) (0 :: 0 :: [1,1])) (0 :: 0 :: [1,1]) (mkSt [2,12,13,14] sA42_2 sT42_2 (((),((),())),x.2.1,x.2.2.1,s.1,()) (((),y.1.2.1,()),(),(),s.2,())) (kLoop 3 [2,12,13,14] sA42_2 sT42_2 [] sAp142_2 sTp142_2 [] [] [] 0 (fun x y=>some (.inl (x,y))) (fun x y=>some (.inr (.inl (x,y)))) (fun x y=>some (.inr (.inr (x,y))))) =
  L42_2c (β:=Full sA42_2 sT42_2 sAp142_2 sTp142_2 [] []) F x.2.1 x.2.2.1 y.1.2.1 s.1 s.2 (fun s=>some (.inl ((((),((),())),x.2.1,x.2.2.1,s.1,()),(((),y.1.2.1,()),(),(),s.2,())))) (fun z=>some (.inr (.inl ((),(((),y.1.2.1,()),(),(),z,()))))):=by kernel_rfl
theorem lo42_2 (F:Nat):LcOk Tryd.prog (E42 F) 3 (lc42_2 F) (cAt (bodyOf Tryd.f42) [1,1]):=
 mkL_ok (lp:=[]) (id:=0) (b:=cAt (bodyOf Tryd.f42) (0 :: 0 :: [1,1])) cok (cts42 F) mixed trivial (by kernel_rfl) (by kernel_rfl) (fun x y s=>(((),((),())),x.2.1,x.2.2.1,s.1,())) (fun x y s=>(((),y.1.2.1,()),(),(),s.2,())) (fun x y=>rfl) (fun x y=>rfl) (fun x y s kA kO=>L42_2c F x.2.1 x.2.2.1 y.1.2.1 s.1 s.2 kA kO) (fun x y s kA kO=>L42_2n F x.2.1 x.2.2.1 y.1.2.1 s.1 s.2 kA kO) (le42_2 F)
def T42c (F:Nat) (p0:List Int) (p1:Int) (p2:List UInt8) {β:Type} (k:(Int×(List UInt8))->Option β):Option β:=
 (Option.bind (T72 F (p0.length:Int) p1 p2) fun z12=>(Option.bind (iter (fun s=>L42_2 F p0 (p0.length:Int) z12.1 s.1 s.2) F ((0:Int),z12.2)) fun z22=>(k (z12.1,z22))))
def T42 (F:Nat) (p0:List Int) (p1:Int) (p2:List UInt8):Option (Int×(List UInt8)):=T42c F p0 p1 p2 some
theorem T42n (F:Nat) (p0:List Int) (p1:Int) (p2:List UInt8) {β:Type} (k:(Int×(List UInt8))->Option β):T42c F p0 p1 p2 k=(T42 F p0 p1 p2).bind k:=by
 simp only [T42,T42c,Option.bind_assoc,cond_bind,Option.bind_some,Option.bind_none,elimS_bind]
abbrev cA42:List Sh:=[(.pt 0 []),(.ro .i),(.fn 43 .un (.pr (.pt 1 []) .un))]
abbrev cB42:List Sh:=[]
abbrev cT42:List TSh:=[.blk 112 (.pr (.rw 2) (.pr .i .un)),.blk 75 (.pt 0 []),.row 5 .u8]
abbrev cU42:List TSh:=[.blk 112 (.pr (.rw 3) (.pr .i .un)),.blk 75 (.pt 0 []),.no,.row 5 .u8]
def ct42 (F:Nat):Ct:=mkC 3 cA42 cT42 cB42 cU42 (fun x y=>T42 F x.2.1 y.1.2.1 y.2.2.1) (fun x y (z:Int×(List UInt8))=>((),(((),z.1,()),(),(),z.2,())))
theorem eq42 (F:Nat) (x:dens cA42) (y:tdens cT42):sev (E42 F) 3 [([1,1],lc42_2 F)] (bodyOf Tryd.f42) [] (mkSt (rng 3) cA42 cT42 x y) (kFn (E42 F) 3 Tryd.f42.results.toList cB42 cU42 fun p q=>some (p,q)) =
  T42c F x.2.1 y.1.2.1 y.2.2.1 (fun z=>some ((),(((),z.1,()),(),(),z.2,()))):=by kernel_rfl
theorem ok42 (F:Nat):Sound Tryd.prog cfg 42 (ct42 F):=
 mkC_ok (E:=E42 F) (lp:=[([1,1],lc42_2 F)]) (code:=bodyOf Tryd.f42) Tryd.func42 rfl Tryd.ntmps42 rfl rfl cok (cts42 F) mixed ⟨lo42_2 F,trivial⟩ (by kernel_rfl) (fun x y k=>T42c F x.2.1 y.1.2.1 y.2.2.1 k) (fun x y k=>T42n F x.2.1 y.1.2.1 y.2.2.1 k) (eq42 F)
def ord41x1:Nat->List (Tag×Nat)
 | _=>[]
def al41x1:Nat->Option Nat
 | _=>none
def ms41x1:Nat->Option (List (Option Tag×Nat×List Nat))
 | _=>none
def E41x1 (F:Nat):Ev:=⟨cfg,16,ctOf [(44,ct44x1 F)],ord41x1,ctOf [],al41x1,ms41x1⟩
theorem cts41x1 (F:Nat):CtsOk Tryd.prog (E41x1 F):=cts_of (l:=[(44,ct44x1 F)]) (l':=[]) rfl rfl ⟨⟨ok44x1 F,_,Tryd.func44,rfl,rfl⟩,trivial⟩ trivial
def L41x1_2c (F:Nat) (y11:List Int) (y12:Int) (y14:Int) (y13:Int) (y15:List UInt8) {β:Type} (kA:(Int×(List UInt8))->Option β) (kO:((List UInt8))->Option β):Option β:=
 (bif (decide (y13 < y12)) then (Option.bind (ix y11 y13) fun x18=>(Option.bind (T44x1 F x18 y14 y15) fun z19=>(kA ((w64 (y13 + (1:Int))),z19)))) else (kO y15))
def L41x1_2 (F:Nat) (y11:List Int) (y12:Int) (y14:Int) (y13:Int) (y15:List UInt8):Option ((Int×(List UInt8)) ⊕ ((List UInt8))):=L41x1_2c F y11 y12 y14 y13 y15 (fun s=>some (.inl s)) (fun z=>some (.inr z))
theorem L41x1_2n (F:Nat) (y11:List Int) (y12:Int) (y14:Int) (y13:Int) (y15:List UInt8) {β:Type} (kA:(Int×(List UInt8))->Option β) (kO:((List UInt8))->Option β):L41x1_2c F y11 y12 y14 y13 y15 kA kO=(L41x1_2 F y11 y12 y14 y13 y15).bind (elimS kA kO):=by
 simp only [L41x1_2,L41x1_2c,Option.bind_assoc,cond_bind,Option.bind_some,Option.bind_none,elimS_l,elimS_r,elimS_bind]
abbrev sA41x1_2:List Sh:=[(.pt 0 []),(.ro .i),.i,.i]
abbrev sAp141x1_2:List Sh:=[]
abbrev sT41x1_2:List TSh:=[.blk 112 (.pr (.rw 1) (.pr .i .un)),.row 5 .u8]
abbrev sTp141x1_2:List TSh:=[.blk 112 (.pr (.rw 1) (.pr .i .un)),.row 5 .u8]
def lc41x1_2 (F:Nat):Lc:=mkL [0,6,7,8] sA41x1_2 sT41x1_2 [] sAp141x1_2 sTp141x1_2 F (fun x y (s:Int×(List UInt8))=>L41x1_2 F x.2.1 x.2.2.1 y.1.2.1 s.1 s.2) (fun x y=>(x.2.2.2.1,y.2.1)) (fun x y (z:(List UInt8))=>((),(((),y.1.2.1,()),z,())))
theorem le41x1_2 (F:Nat) (x:dens sA41x1_2) (y:tdens sT41x1_2) (s:Int×(List UInt8)):sev (E41x1 F) 1 [] (cAt (bodyOf Tryd.f41) (0 :: 0 :: [1])) (0 :: 0 :: [1]) (mkSt [0,6,7,8] sA41x1_2 sT41x1_2 ((),x.2.1,x.2.2.1,s.1,()) (((),y.1.2.1,()),s.2,())) (kLoop 1 [0,6,7,8] sA41x1_2 sT41x1_2 [] sAp141x1_2 sTp141x1_2 [] [] [] 0 (fun x y=>some (.inl (x,y))) (fun x y=>some (.inr (.inl (x,y)))) (fun x y=>some (.inr (.inr (x,y))))) =
  L41x1_2c (β:=Full sA41x1_2 sT41x1_2 sAp141x1_2 sTp141x1_2 [] []) F x.2.1 x.2.2.1 y.1.2.1 s.1 s.2 (fun s=>some (.inl (((),x.2.1,x.2.2.1,s.1,()),(((),y.1.2.1,()),s.2,())))) (fun z=>some (.inr (.inl ((),(((),y.1.2.1,()),z,()))))):=by kernel_rfl
theorem lo41x1_2 (F:Nat):LcOk Tryd.prog (E41x1 F) 1 (lc41x1_2 F) (cAt (bodyOf Tryd.f41) [1]):=
 mkL_ok (lp:=[]) (id:=0) (b:=cAt (bodyOf Tryd.f41) (0 :: 0 :: [1])) cok (cts41x1 F) mixed trivial (by kernel_rfl) (by kernel_rfl) (fun x y s=>((),x.2.1,x.2.2.1,s.1,())) (fun x y s=>(((),y.1.2.1,()),s.2,())) (fun x y=>rfl) (fun x y=>rfl) (fun x y s kA kO=>L41x1_2c F x.2.1 x.2.2.1 y.1.2.1 s.1 s.2 kA kO) (fun x y s kA kO=>L41x1_2n F x.2.1 x.2.2.1 y.1.2.1 s.1 s.2 kA kO) (le41x1_2 F)
def T41x1c (F:Nat) (p0:List Int) (p1:Int) (p2:List UInt8) {β:Type} (k:((List UInt8))->Option β):Option β:=
 (Option.bind (iter (fun s=>L41x1_2 F p0 (p0.length:Int) p1 s.1 s.2) F ((0:Int),p2)) fun z20=>(k z20))
def T41x1 (F:Nat) (p0:List Int) (p1:Int) (p2:List UInt8):Option ((List UInt8)):=T41x1c F p0 p1 p2 some
theorem T41x1n (F:Nat) (p0:List Int) (p1:Int) (p2:List UInt8) {β:Type} (k:((List UInt8))->Option β):T41x1c F p0 p1 p2 k=(T41x1 F p0 p1 p2).bind k:=by
 simp only [T41x1,T41x1c,Option.bind_assoc,cond_bind,Option.bind_some,Option.bind_none,elimS_bind]
abbrev cA41x1:List Sh:=[(.pt 0 []),(.ro .i)]
abbrev cB41x1:List Sh:=[]
abbrev cT41x1:List TSh:=[.blk 112 (.pr (.rw 1) (.pr .i .un)),.row 5 .u8]
abbrev cU41x1:List TSh:=[.blk 112 (.pr (.rw 1) (.pr .i .un)),.row 5 .u8]
def ct41x1 (F:Nat):Ct:=mkC 1 cA41x1 cT41x1 cB41x1 cU41x1 (fun x y=>T41x1 F x.2.1 y.1.2.1 y.2.1) (fun x y (z:(List UInt8))=>((),(((),y.1.2.1,()),z,())))
theorem eq41x1 (F:Nat) (x:dens cA41x1) (y:tdens cT41x1):sev (E41x1 F) 1 [([1],lc41x1_2 F)] (bodyOf Tryd.f41) [] (mkSt (rng 2) cA41x1 cT41x1 x y) (kFn (E41x1 F) 1 Tryd.f41.results.toList cB41x1 cU41x1 fun p q=>some (p,q)) =
  T41x1c F x.2.1 y.1.2.1 y.2.1 (fun z=>some ((),(((),y.1.2.1,()),z,()))):=by kernel_rfl
theorem ok41x1 (F:Nat):Sound Tryd.prog cfg 41 (ct41x1 F):=
 mkC_ok (E:=E41x1 F) (lp:=[([1],lc41x1_2 F)]) (code:=bodyOf Tryd.f41) Tryd.func41 rfl Tryd.ntmps41 rfl rfl cok (cts41x1 F) mixed ⟨lo41x1_2 F,trivial⟩ (by kernel_rfl) (fun x y k=>T41x1c F x.2.1 y.1.2.1 y.2.1 k) (fun x y k=>T41x1n F x.2.1 y.1.2.1 y.2.1 k) (eq41x1 F)
def ord53:Nat->List (Tag×Nat)
 | _=>[]
def al53:Nat->Option Nat
 | _=>none
def ms53:Nat->Option (List (Option Tag×Nat×List Nat))
 | _=>none
def E53 (F:Nat):Ev:=⟨cfg,24,ctOf [],ord53,ctOf [],al53,ms53⟩
theorem cts53 (F:Nat):CtsOk Tryd.prog (E53 F):=cts_of (l:=[]) (l':=[]) rfl rfl trivial trivial
def T53c (F:Nat) (p0:List UInt8) (p1:Int) (p2:List UInt8) {β:Type} (k:(Int×(List UInt8))->Option β):Option β:=
 (bif (p1 != (0:Int)) then (k (p1,p2)) else (bif ((p0.length:Int) != (32:Int)) then (k ((1:Int),p2)) else (Option.bind (gapp p2 p0) fun x2=>(k (p1,x2)))))
def T53 (F:Nat) (p0:List UInt8) (p1:Int) (p2:List UInt8):Option (Int×(List UInt8)):=T53c F p0 p1 p2 some
theorem T53n (F:Nat) (p0:List UInt8) (p1:Int) (p2:List UInt8) {β:Type} (k:(Int×(List UInt8))->Option β):T53c F p0 p1 p2 k=(T53 F p0 p1 p2).bind k:=by
 simp only [T53,T53c,Option.bind_assoc,cond_bind,Option.bind_some,Option.bind_none,elimS_bind]
abbrev cA53:List Sh:=[(.pt 0 []),.str]
abbrev cB53:List Sh:=[]
abbrev cT53:List TSh:=[.blk 112 (.pr (.rw 1) (.pr .i .un)),.row 5 .u8]
abbrev cU53:List TSh:=[.blk 112 (.pr (.rw 1) (.pr .i .un)),.row 5 .u8]
def ct53 (F:Nat):Ct:=mkC 1 cA53 cT53 cB53 cU53 (fun x y=>T53 F x.2.1 y.1.2.1 y.2.1) (fun x y (z:Int×(List UInt8))=>((),(((),z.1,()),z.2,())))
theorem eq53 (F:Nat) (x:dens cA53) (y:tdens cT53):sev (E53 F) 1 [] (bodyOf Tryd.f53) [] (mkSt (rng 2) cA53 cT53 x y) (kFn (E53 F) 1 Tryd.f53.results.toList cB53 cU53 fun p q=>some (p,q)) =
  T53c F x.2.1 y.1.2.1 y.2.1 (fun z=>some ((),(((),z.1,()),z.2,()))):=by kernel_rfl
theorem ok53 (F:Nat):Sound Tryd.prog cfg 53 (ct53 F):=
 mkC_ok (E:=E53 F) (lp:=[]) (code:=bodyOf Tryd.f53) Tryd.func53 rfl Tryd.ntmps53 rfl rfl cok (cts53 F) mixed trivial (by kernel_rfl) (fun x y k=>T53c F x.2.1 y.1.2.1 y.2.1 k) (fun x y k=>T53n F x.2.1 y.1.2.1 y.2.1 k) (eq53 F)
def ord47:Nat->List (Tag×Nat)
 | _=>[]
def al47:Nat->Option Nat
 | _=>none
def ms47:Nat->Option (List (Option Tag×Nat×List Nat))
 | _=>none
def E47 (F:Nat):Ev:=⟨cfg,15,ctOf [(53,ct53 F),(41,ct41x1 F)],ord47,ctOf [],al47,ms47⟩
theorem cts47 (F:Nat):CtsOk Tryd.prog (E47 F):=cts_of (l:=[(53,ct53 F),(41,ct41x1 F)]) (l':=[]) rfl rfl ⟨⟨ok53 F,_,Tryd.func53,rfl,rfl⟩,⟨⟨ok41x1 F,_,Tryd.func41,rfl,rfl⟩,trivial⟩⟩ trivial
def T47c (F:Nat) (p0:List UInt8) (p1:Int) (p2:Int) (p3:Int) (p4:List UInt8) {β:Type} (k:(Int×(List UInt8))->Option β):Option β:=
 (Option.bind (T53 F p0 p3 p4) fun z3=>(Option.bind (T41x1 F ([p1,p2]:List Int) z3.1 z3.2) fun z4=>(k (z3.1,z4))))
def T47 (F:Nat) (p0:List UInt8) (p1:Int) (p2:Int) (p3:Int) (p4:List UInt8):Option (Int×(List UInt8)):=T47c F p0 p1 p2 p3 p4 some
theorem T47n (F:Nat) (p0:List UInt8) (p1:Int) (p2:Int) (p3:Int) (p4:List UInt8) {β:Type} (k:(Int×(List UInt8))->Option β):T47c F p0 p1 p2 p3 p4 k=(T47 F p0 p1 p2 p3 p4).bind k:=by
 simp only [T47,T47c,Option.bind_assoc,cond_bind,Option.bind_some,Option.bind_none,elimS_bind]
abbrev cA47:List Sh:=[(.pt 0 []),(.pr .str (.pr .i (.pr .i .un)))]
abbrev cB47:List Sh:=[]
abbrev cT47:List TSh:=[.blk 112 (.pr (.rw 1) (.pr .i .un)),.row 5 .u8]
abbrev cU47:List TSh:=[.blk 112 (.pr (.rw 2) (.pr .i .un)),.no,.row 5 .u8]
def ct47 (F:Nat):Ct:=mkC 2 cA47 cT47 cB47 cU47 (fun x y=>T47 F x.2.1.1 x.2.1.2.1 x.2.1.2.2.1 y.1.2.1 y.2.1) (fun x y (z:Int×(List UInt8))=>((),(((),z.1,()),(),z.2,())))
theorem eq47 (F:Nat) (x:dens cA47) (y:tdens cT47):sev (E47 F) 2 [] (bodyOf Tryd.f47) [] (mkSt (rng 2) cA47 cT47 x y) (kFn (E47 F) 2 Tryd.f47.results.toList cB47 cU47 fun p q=>some (p,q)) =
  T47c F x.2.1.1 x.2.1.2.1 x.2.1.2.2.1 y.1.2.1 y.2.1 (fun z=>some ((),(((),z.1,()),(),z.2,()))):=by kernel_rfl
theorem ok47 (F:Nat):Sound Tryd.prog cfg 47 (ct47 F):=
 mkC_ok (E:=E47 F) (lp:=[]) (code:=bodyOf Tryd.f47) Tryd.func47 rfl Tryd.ntmps47 rfl rfl cok (cts47 F) mixed trivial (by kernel_rfl) (fun x y k=>T47c F x.2.1.1 x.2.1.2.1 x.2.1.2.2.1 y.1.2.1 y.2.1 k) (fun x y k=>T47n F x.2.1.1 x.2.1.2.1 x.2.1.2.2.1 y.1.2.1 y.2.1 k) (eq47 F)
def ord48:Nat->List (Tag×Nat)
 | _=>[]
def al48:Nat->Option Nat
 | _=>none
def ms48:Nat->Option (List (Option Tag×Nat×List Nat))
 | _=>none
def E48 (F:Nat):Ev:=⟨cfg,22,ctOf [(75,ct75 F)],ord48,ctOf [],al48,ms48⟩
theorem cts48 (F:Nat):CtsOk Tryd.prog (E48 F):=cts_of (l:=[(75,ct75 F)]) (l':=[]) rfl rfl ⟨⟨ok75 F,_,Tryd.func75,rfl,rfl⟩,trivial⟩ trivial
def T48c (F:Nat) (p0:List UInt8) (p1:Int) (p2:List UInt8) {β:Type} (k:((List UInt8))->Option β):Option β:=
 (bif (p1 == (0:Int)) then (Option.bind (T75 F (UInt64.ofInt (p0.length:Int)) p2) fun z3=>(Option.bind (gapp z3 p0) fun x4=>(k x4))) else (k p2))
def T48 (F:Nat) (p0:List UInt8) (p1:Int) (p2:List UInt8):Option ((List UInt8)):=T48c F p0 p1 p2 some
theorem T48n (F:Nat) (p0:List UInt8) (p1:Int) (p2:List UInt8) {β:Type} (k:((List UInt8))->Option β):T48c F p0 p1 p2 k=(T48 F p0 p1 p2).bind k:=by
 simp only [T48,T48c,Option.bind_assoc,cond_bind,Option.bind_some,Option.bind_none,elimS_bind]
abbrev cA48:List Sh:=[(.pt 0 []),.str]
abbrev cB48:List Sh:=[]
abbrev cT48:List TSh:=[.blk 112 (.pr (.rw 1) (.pr .i .un)),.row 5 .u8]
abbrev cU48:List TSh:=[.blk 112 (.pr (.rw 1) (.pr .i .un)),.row 5 .u8]
def ct48 (F:Nat):Ct:=mkC 1 cA48 cT48 cB48 cU48 (fun x y=>T48 F x.2.1 y.1.2.1 y.2.1) (fun x y (z:(List UInt8))=>((),(((),y.1.2.1,()),z,())))
theorem eq48 (F:Nat) (x:dens cA48) (y:tdens cT48):sev (E48 F) 1 [] (bodyOf Tryd.f48) [] (mkSt (rng 2) cA48 cT48 x y) (kFn (E48 F) 1 Tryd.f48.results.toList cB48 cU48 fun p q=>some (p,q)) =
  T48c F x.2.1 y.1.2.1 y.2.1 (fun z=>some ((),(((),y.1.2.1,()),z,()))):=by kernel_rfl
theorem ok48 (F:Nat):Sound Tryd.prog cfg 48 (ct48 F):=
 mkC_ok (E:=E48 F) (lp:=[]) (code:=bodyOf Tryd.f48) Tryd.func48 rfl Tryd.ntmps48 rfl rfl cok (cts48 F) mixed trivial (by kernel_rfl) (fun x y k=>T48c F x.2.1 y.1.2.1 y.2.1 k) (fun x y k=>T48n F x.2.1 y.1.2.1 y.2.1 k) (eq48 F)
end Go.Proofs.YthikoaamigiceaaDoor
