/- The functions, each with its twin, and plain facts about them. -/
import Derived.Test.YthikoaamigiceaaGreatDoorB
import Derived.Test.YthikoaamigiceaaGreatDoorSGr80
import Derived.Test.YthikoaamigiceaaGreatDoorSIt94
import Derived.Test.YthikoaamigiceaaGreatDoorSIt57
namespace Go.Proofs.YthikoaamigiceaaGreatDoor
open Go.Tw
set_option linter.unusedSimpArgs false
set_option linter.unusedVariables false
def ord13:Nat->List (Tag×Nat)
 | _=>[]
def al13:Nat->Option Nat
 | _=>none
def ms13:Nat->Option (List (Option Tag×Nat×List Nat))
 | _=>none
def E13 (F:Nat):Ev:=⟨cfg,10,ctOf [],ord13,ctOf [],al13,ms13⟩
theorem cts13 (F:Nat):CtsOk Tryz.prog (E13 F):=cts_of (l:=[]) (l':=[]) rfl rfl trivial trivial
def T13c (F:Nat) (p0:UInt8) {β:Type} (k:((List UInt8))->Option β):Option β:=
 (Option.bind (gmake (0:UInt8) (32:Int) (32:Int)) fun x3=>(Option.bind (inb x3.length (0:Int)) fun x4=>(k (List.set x3 x4 p0))))
def T13 (F:Nat) (p0:UInt8):Option ((List UInt8)):=T13c F p0 some
theorem T13n (F:Nat) (p0:UInt8) {β:Type} (k:((List UInt8))->Option β):T13c F p0 k=(T13 F p0).bind k:=by
 simp only [T13,T13c,Option.bind_assoc,cond_bind,Option.bind_some,Option.bind_none,elimS_bind]
abbrev cA13:List Sh:=[.u8]
abbrev cB13:List Sh:=[.str]
abbrev cT13:List TSh:=[]
abbrev cU13:List TSh:=[]
def ct13 (F:Nat):Ct:=mkC 0 cA13 cT13 cB13 cU13 (fun x y=>T13 F x.1) (fun x y (z:(List UInt8))=>((z,()),()))
theorem eq13 (F:Nat) (x:dens cA13) (y:tdens cT13):sev (E13 F) 0 [] (bodyOf Tryz.f13) [] (mkSt (rng 1) cA13 cT13 x y) (kFn (E13 F) 0 Tryz.f13.results.toList cB13 cU13 fun p q=>some (p,q)) =
  T13c F x.1 (fun z=>some ((z,()),())):=by kernel_rfl
theorem ok13 (F:Nat):Sound Tryz.prog cfg 13 (ct13 F):=
 mkC_ok (E:=E13 F) (lp:=[]) (code:=bodyOf Tryz.f13) Tryz.func13 rfl Tryz.ntmps13 rfl rfl cok (cts13 F) mixed trivial (by kernel_rfl) (fun x y k=>T13c F x.1 k) (fun x y k=>T13n F x.1 k) (eq13 F)
def ord175:Nat->List (Tag×Nat)
 | _=>[]
def al175:Nat->Option Nat
 | _=>none
def ms175:Nat->Option (List (Option Tag×Nat×List Nat))
 | _=>none
def E175 (F:Nat):Ev:=⟨cfg,4,ctOf [],ord175,ctOf [],al175,ms175⟩
theorem cts175 (F:Nat):CtsOk Tryz.prog (E175 F):=cts_of (l:=[]) (l':=[]) rfl rfl trivial trivial
def T175c (F:Nat) {β:Type} (k:((Vector UInt32 8)×(Vector UInt8 64)×Int)->Option β):Option β:=
 (k ((gv1),(Vector.replicate 64 (0:UInt8)),(0:Int)))
def T175 (F:Nat):Option ((Vector UInt32 8)×(Vector UInt8 64)×Int):=T175c F some
theorem T175n (F:Nat) {β:Type} (k:((Vector UInt32 8)×(Vector UInt8 64)×Int)->Option β):T175c F k=(T175 F).bind k:=by
 simp only [T175,T175c,Option.bind_assoc,cond_bind,Option.bind_some,Option.bind_none,elimS_bind]
abbrev cA175:List Sh:=[]
abbrev cB175:List Sh:=[(.pt 0 [])]
abbrev cT175:List TSh:=[]
abbrev cU175:List TSh:=[.blk 223 (.pr (.ar 8 .u32) (.pr (.ar 64 .u8) (.pr .i .un)))]
def ct175 (F:Nat):Ct:=mkC 0 cA175 cT175 cB175 cU175 (fun x y=>T175 F) (fun x y (z:(Vector UInt32 8)×(Vector UInt8 64)×Int)=>(((),()),((z.1,z.2.1,z.2.2,()),())))
theorem eq175 (F:Nat) (x:dens cA175) (y:tdens cT175):sev (E175 F) 0 [] (bodyOf Tryz.f175) [] (mkSt (rng 0) cA175 cT175 x y) (kFn (E175 F) 0 Tryz.f175.results.toList cB175 cU175 fun p q=>some (p,q)) =
  T175c F (fun z=>some (((),()),((z.1,z.2.1,z.2.2,()),()))):=by kernel_rfl
theorem ok175 (F:Nat):Sound Tryz.prog cfg 175 (ct175 F):=
 mkC_ok (E:=E175 F) (lp:=[]) (code:=bodyOf Tryz.f175) Tryz.func175 rfl Tryz.ntmps175 rfl rfl cok (cts175 F) mixed trivial (by kernel_rfl) (fun x y k=>T175c F k) (fun x y k=>T175n F k) (eq175 F)
def ord201:Nat->List (Tag×Nat)
 | _=>[]
def al201:Nat->Option Nat
 | _=>none
def ms201:Nat->Option (List (Option Tag×Nat×List Nat))
 | _=>none
def E201 (F:Nat):Ev:=⟨cfg,17,ctOf [],ord201,ctOf [],al201,ms201⟩
theorem cts201 (F:Nat):CtsOk Tryz.prog (E201 F):=cts_of (l:=[]) (l':=[]) rfl rfl trivial trivial
def T201c (F:Nat) (p0:UInt32) (p1:Int) {β:Type} (k:UInt32->Option β):Option β:=
 (k ((shl32 p0 (((UInt64.ofInt p1) &&& (UInt64.ofNat 31)).toNat)) ||| (shr32 p0 (((UInt64.ofNat 32) - ((UInt64.ofInt p1) &&& (UInt64.ofNat 31))).toNat))))
def T201 (F:Nat) (p0:UInt32) (p1:Int):Option (UInt32):=T201c F p0 p1 some
theorem T201n (F:Nat) (p0:UInt32) (p1:Int) {β:Type} (k:UInt32->Option β):T201c F p0 p1 k=(T201 F p0 p1).bind k:=by
 simp only [T201,T201c,Option.bind_assoc,cond_bind,Option.bind_some,Option.bind_none,elimS_bind]
abbrev cA201:List Sh:=[.u32,.i]
abbrev cB201:List Sh:=[.u32]
abbrev cT201:List TSh:=[]
abbrev cU201:List TSh:=[]
def ct201 (F:Nat):Ct:=mkC 0 cA201 cT201 cB201 cU201 (fun x y=>T201 F x.1 x.2.1) (fun x y (z:UInt32)=>((z,()),()))
theorem eq201 (F:Nat) (x:dens cA201) (y:tdens cT201):sev (E201 F) 0 [] (bodyOf Tryz.f201) [] (mkSt (rng 2) cA201 cT201 x y) (kFn (E201 F) 0 Tryz.f201.results.toList cB201 cU201 fun p q=>some (p,q)) =
  T201c F x.1 x.2.1 (fun z=>some ((z,()),())):=by kernel_rfl
theorem ok201 (F:Nat):Sound Tryz.prog cfg 201 (ct201 F):=
 mkC_ok (E:=E201 F) (lp:=[]) (code:=bodyOf Tryz.f201) Tryz.func201 rfl Tryz.ntmps201 rfl rfl cok (cts201 F) mixed trivial (by kernel_rfl) (fun x y k=>T201c F x.1 x.2.1 k) (fun x y k=>T201n F x.1 x.2.1 k) (eq201 F)
def ord200:Nat->List (Tag×Nat)
 | 6=>[(.p,0),(.p,1),(.p,2),(.r,3),(.p,4),(.p,5),(.p,6),(.p,7),(.r,8),(.p,9),(.p,10),(.p,11),(.p,12),(.p,13),(.r,14),(.p,15),(.p,16),(.p,17),(.p,18),(.p,19),(.r,20),(.p,21),(.p,22),(.p,23),(.w,24)]
 | 7=>[(.p,0),(.p,1),(.p,2),(.r,3),(.p,4),(.p,5),(.p,6),(.r,7),(.p,8),(.p,9)]
 | 10=>[(.p,0),(.p,1),(.p,2),(.p,3),(.p,4),(.r,5),(.p,6),(.p,7),(.p,8),(.p,9),(.p,10),(.p,11),(.r,12),(.p,13),(.p,14),(.w,15)]
 | 13=>[(.p,0),(.r,1),(.p,2),(.r,3),(.p,4),(.r,5),(.p,6),(.r,7),(.p,8),(.r,9),(.p,10),(.r,11),(.p,12),(.r,13),(.p,14),(.r,15),(.p,16),(.p,17),(.p,18),(.p,19),(.p,20),(.p,21),(.p,22),(.p,23)]
 | 19=>[(.p,0),(.p,1),(.p,2),(.p,3),(.p,4),(.p,5),(.p,6),(.p,7),(.p,8),(.p,9),(.p,10),(.p,11),(.p,12),(.p,13),(.r,14),(.p,15),(.p,16),(.p,17),(.r,18),(.p,19),(.p,20)]
 | 26=>[(.p,0),(.p,1),(.p,2),(.p,3),(.r,4),(.p,5),(.p,6),(.p,7),(.p,8),(.p,9),(.w,10)]
 | _=>[]
def al200:Nat->Option Nat
 | _=>none
def ms200:Nat->Option (List (Option Tag×Nat×List Nat))
 | _=>none
def E200 (F:Nat):Ev:=⟨cfg,212,ctOf [(201,ct201 F)],ord200,ctOf [],al200,ms200⟩
theorem cts200 (F:Nat):CtsOk Tryz.prog (E200 F):=cts_of (l:=[(201,ct201 F)]) (l':=[]) rfl rfl ⟨⟨ok201 F,_,Tryz.func201,rfl,rfl⟩,trivial⟩ trivial
def L200_4c (F:Nat) (y113:Vector UInt8 64) (y110:Nat×Nat) (y111:Int) (y115:Vector UInt32 64) {β:Type} (kA:((Nat×Nat)×Int×(Vector UInt32 64))->Option β) (kO:((Vector UInt32 64))->Option β):Option β:=
 (bif (decide (y111 < (64:Int))) then (bif (decide (y111 < (16:Int))) then (Option.bind (gslb (y110.2 - y110.1) (w64 ((4:Int) * y111)) (w64 ((w64 ((4:Int) * y111)) + (4:Int)))) fun x139=>(Option.bind (inb ((y110.1 + x139.2) - (y110.1 + x139.1)) (0:Int)) fun x140=>(Option.bind (vat y113 ((y110.1 + x139.1) + x140)) fun x141=>(Option.bind (inb ((y110.1 + x139.2) - (y110.1 + x139.1)) (1:Int)) fun x142=>(Option.bind (vat y113 ((y110.1 + x139.1) + x142)) fun x143=>(Option.bind (inb ((y110.1 + x139.2) - (y110.1 + x139.1)) (2:Int)) fun x144=>(Option.bind (vat y113 ((y110.1 + x139.1) + x144)) fun x145=>(Option.bind (inb ((y110.1 + x139.2) - (y110.1 + x139.1)) (3:Int)) fun x146=>(Option.bind (vat y113 ((y110.1 + x139.1) + x146)) fun x147=>(Option.bind (inb 64 y111) fun x148=>(kA ((y110.1,y110.2),(w64 (y111 + (1:Int))),(Vector.setIfInBounds y115 x148 ((((shl32 (x141.toUInt32) ((UInt64.ofNat 24).toNat)) ||| (shl32 (x143.toUInt32) ((UInt64.ofNat 16).toNat))) ||| (shl32 (x145.toUInt32) ((UInt64.ofNat 8).toNat))) ||| (x147.toUInt32))))))))))))))) else (Option.bind (inb 64 (w64 (y111 - (2:Int)))) fun x149=>(Option.bind (vat y115 x149) fun x150=>(Option.bind (inb 64 (w64 (y111 - (15:Int)))) fun x151=>(Option.bind (vat y115 x151) fun x152=>(Option.bind (T201 F x150 (-17:Int)) fun z153=>(Option.bind (T201 F x150 (-19:Int)) fun z154=>(Option.bind (T201 F x152 (-7:Int)) fun z155=>(Option.bind (T201 F x152 (-18:Int)) fun z156=>(Option.bind (inb 64 (w64 (y111 - (7:Int)))) fun x157=>(Option.bind (vat y115 x157) fun x158=>(Option.bind (inb 64 (w64 (y111 - (16:Int)))) fun x159=>(Option.bind (vat y115 x159) fun x160=>(Option.bind (inb 64 y111) fun x161=>(kA ((y110.1,y110.2),(w64 (y111 + (1:Int))),(Vector.setIfInBounds y115 x161 (((((z153 ^^^ z154) ^^^ (shr32 x150 ((UInt64.ofNat 10).toNat))) + x158) + ((z155 ^^^ z156) ^^^ (shr32 x152 ((UInt64.ofNat 3).toNat)))) + x160)))))))))))))))))) else (kO y115))
def L200_4 (F:Nat) (y113:Vector UInt8 64) (y110:Nat×Nat) (y111:Int) (y115:Vector UInt32 64):Option (((Nat×Nat)×Int×(Vector UInt32 64)) ⊕ ((Vector UInt32 64))):=L200_4c F y113 y110 y111 y115 (fun s=>some (.inl s)) (fun z=>some (.inr z))
theorem L200_4n (F:Nat) (y113:Vector UInt8 64) (y110:Nat×Nat) (y111:Int) (y115:Vector UInt32 64) {β:Type} (kA:((Nat×Nat)×Int×(Vector UInt32 64))->Option β) (kO:((Vector UInt32 64))->Option β):L200_4c F y113 y110 y111 y115 kA kO=(L200_4 F y113 y110 y111 y115).bind (elimS kA kO):=by
 simp only [L200_4,L200_4c,Option.bind_assoc,cond_bind,Option.bind_some,Option.bind_none,elimS_l,elimS_r,elimS_bind]
abbrev sA200_4:List Sh:=[(.pt 0 []),(.ap 0 [1]),(.pt 1 []),.i]
abbrev sAp1200_4:List Sh:=[(.pt 0 []),(.pt 1 [])]
abbrev sT200_4:List TSh:=[.blk 223 (.pr (.ar 8 .u32) (.pr (.ar 64 .u8) (.pr .i .un))),.blk 231 (.ar 64 .u32)]
abbrev sTp1200_4:List TSh:=[.blk 223 (.pr (.ar 8 .u32) (.pr (.ar 64 .u8) (.pr .i .un))),.blk 231 (.ar 64 .u32)]
def lc200_4 (F:Nat):Lc:=mkL [0,1,4,27] sA200_4 sT200_4 [0,4] sAp1200_4 sTp1200_4 F (fun x y (s:(Nat×Nat)×Int×(Vector UInt32 64))=>L200_4 F y.1.2.1 s.1 s.2.1 s.2.2) (fun x y=>(x.2.1,x.2.2.2.1,y.2.1)) (fun x y (z:(Vector UInt32 64))=>(((),(),()),((y.1.1,y.1.2.1,y.1.2.2.1,()),z,())))
theorem le200_4 (F:Nat) (x:dens sA200_4) (y:tdens sT200_4) (s:(Nat×Nat)×Int×(Vector UInt32 64)):sev (E200 F) 1 [] (cAt (bodyOf Tryz.f200) (0 :: 0 :: [1,0,1])) (0 :: 0 :: [1,0,1]) (mkSt [0,1,4,27] sA200_4 sT200_4 ((),s.1,(),s.2.1,()) ((y.1.1,y.1.2.1,y.1.2.2.1,()),s.2.2,())) (kLoop 1 [0,1,4,27] sA200_4 sT200_4 [0,4] sAp1200_4 sTp1200_4 [] [] [] 0 (fun x y=>some (.inl (x,y))) (fun x y=>some (.inr (.inl (x,y)))) (fun x y=>some (.inr (.inr (x,y))))) =
  L200_4c (β:=Full sA200_4 sT200_4 sAp1200_4 sTp1200_4 [] []) F y.1.2.1 s.1 s.2.1 s.2.2 (fun s=>some (.inl (((),s.1,(),s.2.1,()),((y.1.1,y.1.2.1,y.1.2.2.1,()),s.2.2,())))) (fun z=>some (.inr (.inl (((),(),()),((y.1.1,y.1.2.1,y.1.2.2.1,()),z,()))))):=by kernel_rfl
theorem lo200_4 (F:Nat):LcOk Tryz.prog (E200 F) 1 (lc200_4 F) (cAt (bodyOf Tryz.f200) [1,0,1]):=
 mkL_ok (lp:=[]) (id:=0) (b:=cAt (bodyOf Tryz.f200) (0 :: 0 :: [1,0,1])) cok (cts200 F) mixed trivial (by kernel_rfl) (by kernel_rfl) (fun x y s=>((),s.1,(),s.2.1,())) (fun x y s=>((y.1.1,y.1.2.1,y.1.2.2.1,()),s.2.2,())) (fun x y=>rfl) (fun x y=>rfl) (fun x y s kA kO=>L200_4c F y.1.2.1 s.1 s.2.1 s.2.2 kA kO) (fun x y s kA kO=>L200_4n F y.1.2.1 s.1 s.2.1 s.2.2 kA kO) (le200_4 F)
def L200_5c (F:Nat) (y183:Vector UInt32 64) (y171:UInt32) (y172:UInt32) (y173:UInt32) (y174:UInt32) (y175:UInt32) (y176:UInt32) (y177:UInt32) (y178:UInt32) (y179:Int) {β:Type} (kA:(UInt32×UInt32×UInt32×UInt32×UInt32×UInt32×UInt32×UInt32×Int)->Option β) (kO:(UInt32×UInt32×UInt32×UInt32×UInt32×UInt32×UInt32×UInt32)->Option β):Option β:=
 (bif (decide (y179 < (64:Int))) then (Option.bind (T201 F y175 (-6:Int)) fun z194=>(Option.bind (T201 F y175 (-11:Int)) fun z195=>(Option.bind (T201 F y175 (-25:Int)) fun z196=>(Option.bind (T201 F y171 (-2:Int)) fun z197=>(Option.bind (T201 F y171 (-13:Int)) fun z198=>(Option.bind (T201 F y171 (-22:Int)) fun z199=>(Option.bind (vix (gv2) y179) fun x200=>(Option.bind (inb 64 y179) fun x201=>(Option.bind (vat y183 x201) fun x202=>(kA ((((((y178 + ((z194 ^^^ z195) ^^^ z196)) + ((y175 &&& y176) ^^^ ((~~~y175) &&& y177))) + x200) + x202) + (((z197 ^^^ z198) ^^^ z199) + (((y171 &&& y172) ^^^ (y171 &&& y173)) ^^^ (y172 &&& y173)))),y171,y172,y173,(y174 + ((((y178 + ((z194 ^^^ z195) ^^^ z196)) + ((y175 &&& y176) ^^^ ((~~~y175) &&& y177))) + x200) + x202)),y175,y176,y177,(w64 (y179 + (1:Int)))))))))))))) else (kO (y171,y172,y173,y174,y175,y176,y177,y178)))
def L200_5 (F:Nat) (y183:Vector UInt32 64) (y171:UInt32) (y172:UInt32) (y173:UInt32) (y174:UInt32) (y175:UInt32) (y176:UInt32) (y177:UInt32) (y178:UInt32) (y179:Int):Option ((UInt32×UInt32×UInt32×UInt32×UInt32×UInt32×UInt32×UInt32×Int) ⊕ (UInt32×UInt32×UInt32×UInt32×UInt32×UInt32×UInt32×UInt32)):=L200_5c F y183 y171 y172 y173 y174 y175 y176 y177 y178 y179 (fun s=>some (.inl s)) (fun z=>some (.inr z))
theorem L200_5n (F:Nat) (y183:Vector UInt32 64) (y171:UInt32) (y172:UInt32) (y173:UInt32) (y174:UInt32) (y175:UInt32) (y176:UInt32) (y177:UInt32) (y178:UInt32) (y179:Int) {β:Type} (kA:(UInt32×UInt32×UInt32×UInt32×UInt32×UInt32×UInt32×UInt32×Int)->Option β) (kO:(UInt32×UInt32×UInt32×UInt32×UInt32×UInt32×UInt32×UInt32)->Option β):L200_5c F y183 y171 y172 y173 y174 y175 y176 y177 y178 y179 kA kO=(L200_5 F y183 y171 y172 y173 y174 y175 y176 y177 y178 y179).bind (elimS kA kO):=by
 simp only [L200_5,L200_5c,Option.bind_assoc,cond_bind,Option.bind_some,Option.bind_none,elimS_l,elimS_r,elimS_bind]
abbrev sA200_5:List Sh:=[(.pt 0 []),(.pt 1 []),(.pt 2 []),.u32,.u32,.u32,.u32,.u32,.u32,.u32,.u32,.i]
abbrev sAp1200_5:List Sh:=[(.pt 0 []),(.pt 1 []),.u32,.u32,.u32,.u32,.u32,.u32,.u32,.u32]
abbrev sT200_5:List TSh:=[.blk 223 (.pr (.ar 8 .u32) (.pr (.ar 64 .u8) (.pr .i .un))),.blk 231 (.ar 64 .u32),.blk 192 (.ar 8 .u32)]
abbrev sTp1200_5:List TSh:=[.blk 223 (.pr (.ar 8 .u32) (.pr (.ar 64 .u8) (.pr .i .un))),.blk 192 (.ar 8 .u32)]
def lc200_5 (F:Nat):Lc:=mkL [0,4,11,12,13,14,15,16,17,18,19,123] sA200_5 sT200_5 [0,11,12,13,14,15,16,17,18,19] sAp1200_5 sTp1200_5 F (fun x y (s:UInt32×UInt32×UInt32×UInt32×UInt32×UInt32×UInt32×UInt32×Int)=>L200_5 F y.2.1 s.1 s.2.1 s.2.2.1 s.2.2.2.1 s.2.2.2.2.1 s.2.2.2.2.2.1 s.2.2.2.2.2.2.1 s.2.2.2.2.2.2.2.1 s.2.2.2.2.2.2.2.2) (fun x y=>(x.2.2.2.1,x.2.2.2.2.1,x.2.2.2.2.2.1,x.2.2.2.2.2.2.1,x.2.2.2.2.2.2.2.1,x.2.2.2.2.2.2.2.2.1,x.2.2.2.2.2.2.2.2.2.1,x.2.2.2.2.2.2.2.2.2.2.1,x.2.2.2.2.2.2.2.2.2.2.2.1)) (fun x y (z:UInt32×UInt32×UInt32×UInt32×UInt32×UInt32×UInt32×UInt32)=>(((),(),z.1,z.2.1,z.2.2.1,z.2.2.2.1,z.2.2.2.2.1,z.2.2.2.2.2.1,z.2.2.2.2.2.2.1,z.2.2.2.2.2.2.2,()),((y.1.1,y.1.2.1,y.1.2.2.1,()),y.2.2.1,())))
theorem le200_5 (F:Nat) (x:dens sA200_5) (y:tdens sT200_5) (s:UInt32×UInt32×UInt32×UInt32×UInt32×UInt32×UInt32×UInt32×Int):sev (E200 F) 1 [] (cAt (bodyOf Tryz.f200) (0 :: 0 :: [1,0,1,1,1,1])) (0 :: 0 :: [1,0,1,1,1,1]) (mkSt [0,4,11,12,13,14,15,16,17,18,19,123] sA200_5 sT200_5 ((),(),(),s.1,s.2.1,s.2.2.1,s.2.2.2.1,s.2.2.2.2.1,s.2.2.2.2.2.1,s.2.2.2.2.2.2.1,s.2.2.2.2.2.2.2.1,s.2.2.2.2.2.2.2.2,()) ((y.1.1,y.1.2.1,y.1.2.2.1,()),y.2.1,y.2.2.1,())) (kLoop 1 [0,4,11,12,13,14,15,16,17,18,19,123] sA200_5 sT200_5 [0,11,12,13,14,15,16,17,18,19] sAp1200_5 sTp1200_5 [] [] [] 2 (fun x y=>some (.inl (x,y))) (fun x y=>some (.inr (.inl (x,y)))) (fun x y=>some (.inr (.inr (x,y))))) =
  L200_5c (β:=Full sA200_5 sT200_5 sAp1200_5 sTp1200_5 [] []) F y.2.1 s.1 s.2.1 s.2.2.1 s.2.2.2.1 s.2.2.2.2.1 s.2.2.2.2.2.1 s.2.2.2.2.2.2.1 s.2.2.2.2.2.2.2.1 s.2.2.2.2.2.2.2.2 (fun s=>some (.inl (((),(),(),s.1,s.2.1,s.2.2.1,s.2.2.2.1,s.2.2.2.2.1,s.2.2.2.2.2.1,s.2.2.2.2.2.2.1,s.2.2.2.2.2.2.2.1,s.2.2.2.2.2.2.2.2,()),((y.1.1,y.1.2.1,y.1.2.2.1,()),y.2.1,y.2.2.1,())))) (fun z=>some (.inr (.inl (((),(),z.1,z.2.1,z.2.2.1,z.2.2.2.1,z.2.2.2.2.1,z.2.2.2.2.2.1,z.2.2.2.2.2.2.1,z.2.2.2.2.2.2.2,()),((y.1.1,y.1.2.1,y.1.2.2.1,()),y.2.2.1,()))))):=by kernel_rfl
theorem lo200_5 (F:Nat):LcOk Tryz.prog (E200 F) 1 (lc200_5 F) (cAt (bodyOf Tryz.f200) [1,0,1,1,1,1]):=
 mkL_ok (lp:=[]) (id:=2) (b:=cAt (bodyOf Tryz.f200) (0 :: 0 :: [1,0,1,1,1,1])) cok (cts200 F) mixed trivial (by kernel_rfl) (by kernel_rfl) (fun x y s=>((),(),(),s.1,s.2.1,s.2.2.1,s.2.2.2.1,s.2.2.2.2.1,s.2.2.2.2.2.1,s.2.2.2.2.2.2.1,s.2.2.2.2.2.2.2.1,s.2.2.2.2.2.2.2.2,())) (fun x y s=>((y.1.1,y.1.2.1,y.1.2.2.1,()),y.2.1,y.2.2.1,())) (fun x y=>rfl) (fun x y=>rfl) (fun x y s kA kO=>L200_5c F y.2.1 s.1 s.2.1 s.2.2.1 s.2.2.2.1 s.2.2.2.2.1 s.2.2.2.2.2.1 s.2.2.2.2.2.2.1 s.2.2.2.2.2.2.2.1 s.2.2.2.2.2.2.2.2 kA kO) (fun x y s kA kO=>L200_5n F y.2.1 s.1 s.2.1 s.2.2.1 s.2.2.2.1 s.2.2.2.2.1 s.2.2.2.2.2.1 s.2.2.2.2.2.2.1 s.2.2.2.2.2.2.2.1 s.2.2.2.2.2.2.2.2 kA kO) (le200_5 F)
def L200_6c (F:Nat) (y204:Vector UInt32 8) (y209:Vector UInt32 8) (y205:Int) (y206:Vector UInt32 8) {β:Type} (kA:(Int×(Vector UInt32 8))->Option β) (kO:((Vector UInt32 8))->Option β):Option β:=
 (bif (decide (y205 < (8:Int))) then (Option.bind (vix y204 y205) fun x214=>(Option.bind (inb 8 y205) fun x215=>(Option.bind (vat y209 x215) fun x216=>(Option.bind (inb 8 y205) fun x217=>(kA ((w64 (y205 + (1:Int))),(Vector.setIfInBounds y206 x217 (x216 + x214)))))))) else (kO y206))
def L200_6 (F:Nat) (y204:Vector UInt32 8) (y209:Vector UInt32 8) (y205:Int) (y206:Vector UInt32 8):Option ((Int×(Vector UInt32 8)) ⊕ ((Vector UInt32 8))):=L200_6c F y204 y209 y205 y206 (fun s=>some (.inl s)) (fun z=>some (.inr z))
theorem L200_6n (F:Nat) (y204:Vector UInt32 8) (y209:Vector UInt32 8) (y205:Int) (y206:Vector UInt32 8) {β:Type} (kA:(Int×(Vector UInt32 8))->Option β) (kO:((Vector UInt32 8))->Option β):L200_6c F y204 y209 y205 y206 kA kO=(L200_6 F y204 y209 y205 y206).bind (elimS kA kO):=by
 simp only [L200_6,L200_6c,Option.bind_assoc,cond_bind,Option.bind_some,Option.bind_none,elimS_l,elimS_r,elimS_bind]
abbrev sA200_6:List Sh:=[(.pt 0 []),(.pt 1 []),(.ar 8 .u32),.i]
abbrev sAp1200_6:List Sh:=[]
abbrev sT200_6:List TSh:=[.blk 223 (.pr (.ar 8 .u32) (.pr (.ar 64 .u8) (.pr .i .un))),.blk 192 (.ar 8 .u32)]
abbrev sTp1200_6:List TSh:=[.blk 223 (.pr (.ar 8 .u32) (.pr (.ar 64 .u8) (.pr .i .un)))]
def lc200_6 (F:Nat):Lc:=mkL [0,11,196,197] sA200_6 sT200_6 [] sAp1200_6 sTp1200_6 F (fun x y (s:Int×(Vector UInt32 8))=>L200_6 F x.2.2.1 y.2.1 s.1 s.2) (fun x y=>(x.2.2.2.1,y.1.1)) (fun x y (z:(Vector UInt32 8))=>((),((z,y.1.2.1,y.1.2.2.1,()),())))
theorem le200_6 (F:Nat) (x:dens sA200_6) (y:tdens sT200_6) (s:Int×(Vector UInt32 8)):sev (E200 F) 1 [] (cAt (bodyOf Tryz.f200) (0 :: 0 :: [1,1,1,1,1,1])) (0 :: 0 :: [1,1,1,1,1,1]) (mkSt [0,11,196,197] sA200_6 sT200_6 ((),(),x.2.2.1,s.1,()) ((s.2,y.1.2.1,y.1.2.2.1,()),y.2.1,())) (kLoop 1 [0,11,196,197] sA200_6 sT200_6 [] sAp1200_6 sTp1200_6 [] [] [] 4 (fun x y=>some (.inl (x,y))) (fun x y=>some (.inr (.inl (x,y)))) (fun x y=>some (.inr (.inr (x,y))))) =
  L200_6c (β:=Full sA200_6 sT200_6 sAp1200_6 sTp1200_6 [] []) F x.2.2.1 y.2.1 s.1 s.2 (fun s=>some (.inl (((),(),x.2.2.1,s.1,()),((s.2,y.1.2.1,y.1.2.2.1,()),y.2.1,())))) (fun z=>some (.inr (.inl ((),((z,y.1.2.1,y.1.2.2.1,()),()))))):=by kernel_rfl
theorem lo200_6 (F:Nat):LcOk Tryz.prog (E200 F) 1 (lc200_6 F) (cAt (bodyOf Tryz.f200) [1,1,1,1,1,1]):=
 mkL_ok (lp:=[]) (id:=4) (b:=cAt (bodyOf Tryz.f200) (0 :: 0 :: [1,1,1,1,1,1])) cok (cts200 F) mixed trivial (by kernel_rfl) (by kernel_rfl) (fun x y s=>((),(),x.2.2.1,s.1,())) (fun x y s=>((s.2,y.1.2.1,y.1.2.2.1,()),y.2.1,())) (fun x y=>rfl) (fun x y=>rfl) (fun x y s kA kO=>L200_6c F x.2.2.1 y.2.1 s.1 s.2 kA kO) (fun x y s kA kO=>L200_6n F x.2.2.1 y.2.1 s.1 s.2 kA kO) (le200_6 F)
def T200c (F:Nat) (p0:Nat×Nat) (p1:Vector UInt32 8) (p2:Vector UInt8 64) {β:Type} (k:((Vector UInt32 8))->Option β):Option β:=
 (Option.bind (iter (fun s=>L200_4 F p2 s.1 s.2.1 s.2.2) F ((p0.1,p0.2),(0:Int),(Vector.replicate 64 (0:UInt32)))) fun z162=>(Option.bind (vat p1 0) fun x163=>(Option.bind (vat p1 1) fun x164=>(Option.bind (vat p1 2) fun x165=>(Option.bind (vat p1 3) fun x166=>(Option.bind (vat p1 4) fun x167=>(Option.bind (vat p1 5) fun x168=>(Option.bind (vat p1 6) fun x169=>(Option.bind (vat p1 7) fun x170=>(Option.bind (iter (fun s=>L200_5 F z162 s.1 s.2.1 s.2.2.1 s.2.2.2.1 s.2.2.2.2.1 s.2.2.2.2.2.1 s.2.2.2.2.2.2.1 s.2.2.2.2.2.2.2.1 s.2.2.2.2.2.2.2.2) F (x163,x164,x165,x166,x167,x168,x169,x170,(0:Int))) fun z203=>(Option.bind (iter (fun s=>L200_6 F (#v[z203.1,z203.2.1,z203.2.2.1,z203.2.2.2.1,z203.2.2.2.2.1,z203.2.2.2.2.2.1,z203.2.2.2.2.2.2.1,z203.2.2.2.2.2.2.2]:Vector UInt32 8) p1 s.1 s.2) F ((0:Int),p1)) fun z218=>(k z218))))))))))))
def T200 (F:Nat) (p0:Nat×Nat) (p1:Vector UInt32 8) (p2:Vector UInt8 64):Option ((Vector UInt32 8)):=T200c F p0 p1 p2 some
theorem T200n (F:Nat) (p0:Nat×Nat) (p1:Vector UInt32 8) (p2:Vector UInt8 64) {β:Type} (k:((Vector UInt32 8))->Option β):T200c F p0 p1 p2 k=(T200 F p0 p1 p2).bind k:=by
 simp only [T200,T200c,Option.bind_assoc,cond_bind,Option.bind_some,Option.bind_none,elimS_bind]
abbrev cA200:List Sh:=[(.pt 0 []),(.ap 0 [1])]
abbrev cB200:List Sh:=[]
abbrev cT200:List TSh:=[.blk 223 (.pr (.ar 8 .u32) (.pr (.ar 64 .u8) (.pr .i .un)))]
abbrev cU200:List TSh:=[.blk 223 (.pr (.ar 8 .u32) (.pr (.ar 64 .u8) (.pr .i .un)))]
def ct200 (F:Nat):Ct:=mkC 1 cA200 cT200 cB200 cU200 (fun x y=>T200 F x.2.1 y.1.1 y.1.2.1) (fun x y (z:(Vector UInt32 8))=>((),((z,y.1.2.1,y.1.2.2.1,()),())))
theorem eq200 (F:Nat) (x:dens cA200) (y:tdens cT200):sev (E200 F) 1 [([1,0,1],lc200_4 F),([1,0,1,1,1,1],lc200_5 F),([1,1,1,1,1,1],lc200_6 F)] (bodyOf Tryz.f200) [] (mkSt (rng 2) cA200 cT200 x y) (kFn (E200 F) 1 Tryz.f200.results.toList cB200 cU200 fun p q=>some (p,q)) =
  T200c F x.2.1 y.1.1 y.1.2.1 (fun z=>some ((),((z,y.1.2.1,y.1.2.2.1,()),()))):=by kernel_rfl
theorem ok200 (F:Nat):Sound Tryz.prog cfg 200 (ct200 F):=
 mkC_ok (E:=E200 F) (lp:=[([1,0,1],lc200_4 F),([1,0,1,1,1,1],lc200_5 F),([1,1,1,1,1,1],lc200_6 F)]) (code:=bodyOf Tryz.f200) Tryz.func200 rfl Tryz.ntmps200 rfl rfl cok (cts200 F) mixed ⟨lo200_4 F,⟨lo200_5 F,⟨lo200_6 F,trivial⟩⟩⟩ (by kernel_rfl) (fun x y k=>T200c F x.2.1 y.1.1 y.1.2.1 k) (fun x y k=>T200n F x.2.1 y.1.1 y.1.2.1 k) (eq200 F)
def ord200x1:Nat->List (Tag×Nat)
 | 6=>[(.p,0),(.p,1),(.p,2),(.r,3),(.p,4),(.p,5),(.p,6),(.p,7),(.r,8),(.p,9),(.p,10),(.p,11),(.p,12),(.p,13),(.r,14),(.p,15),(.p,16),(.p,17),(.p,18),(.p,19),(.r,20),(.p,21),(.p,22),(.p,23),(.w,24)]
 | 7=>[(.p,0),(.p,1),(.p,2),(.r,3),(.p,4),(.p,5),(.p,6),(.r,7),(.p,8),(.p,9)]
 | 10=>[(.p,0),(.p,1),(.p,2),(.p,3),(.p,4),(.r,5),(.p,6),(.p,7),(.p,8),(.p,9),(.p,10),(.p,11),(.r,12),(.p,13),(.p,14),(.w,15)]
 | 13=>[(.p,0),(.r,1),(.p,2),(.r,3),(.p,4),(.r,5),(.p,6),(.r,7),(.p,8),(.r,9),(.p,10),(.r,11),(.p,12),(.r,13),(.p,14),(.r,15),(.p,16),(.p,17),(.p,18),(.p,19),(.p,20),(.p,21),(.p,22),(.p,23)]
 | 19=>[(.p,0),(.p,1),(.p,2),(.p,3),(.p,4),(.p,5),(.p,6),(.p,7),(.p,8),(.p,9),(.p,10),(.p,11),(.p,12),(.p,13),(.r,14),(.p,15),(.p,16),(.p,17),(.r,18),(.p,19),(.p,20)]
 | 26=>[(.p,0),(.p,1),(.p,2),(.p,3),(.r,4),(.p,5),(.p,6),(.p,7),(.p,8),(.p,9),(.w,10)]
 | _=>[]
def al200x1:Nat->Option Nat
 | _=>none
def ms200x1:Nat->Option (List (Option Tag×Nat×List Nat))
 | _=>none
def E200x1 (F:Nat):Ev:=⟨cfg,212,ctOf [(201,ct201 F)],ord200x1,ctOf [],al200x1,ms200x1⟩
theorem cts200x1 (F:Nat):CtsOk Tryz.prog (E200x1 F):=cts_of (l:=[(201,ct201 F)]) (l':=[]) rfl rfl ⟨⟨ok201 F,_,Tryz.func201,rfl,rfl⟩,trivial⟩ trivial
def L200x1_4c (F:Nat) (y102:List UInt8) (y103:Int) (y107:Vector UInt32 64) {β:Type} (kA:(Int×(Vector UInt32 64))->Option β) (kO:((Vector UInt32 64))->Option β):Option β:=
 (bif (decide (y103 < (64:Int))) then (bif (decide (y103 < (16:Int))) then (Option.bind (gsl y102 (w64 ((4:Int) * y103)) (w64 ((w64 ((4:Int) * y103)) + (4:Int)))) fun x127=>(Option.bind (ix x127 (0:Int)) fun x128=>(Option.bind (ix x127 (1:Int)) fun x129=>(Option.bind (ix x127 (2:Int)) fun x130=>(Option.bind (ix x127 (3:Int)) fun x131=>(Option.bind (inb 64 y103) fun x132=>(kA ((w64 (y103 + (1:Int))),(Vector.setIfInBounds y107 x132 ((((shl32 (x128.toUInt32) ((UInt64.ofNat 24).toNat)) ||| (shl32 (x129.toUInt32) ((UInt64.ofNat 16).toNat))) ||| (shl32 (x130.toUInt32) ((UInt64.ofNat 8).toNat))) ||| (x131.toUInt32))))))))))) else (Option.bind (inb 64 (w64 (y103 - (2:Int)))) fun x133=>(Option.bind (vat y107 x133) fun x134=>(Option.bind (inb 64 (w64 (y103 - (15:Int)))) fun x135=>(Option.bind (vat y107 x135) fun x136=>(Option.bind (T201 F x134 (-17:Int)) fun z137=>(Option.bind (T201 F x134 (-19:Int)) fun z138=>(Option.bind (T201 F x136 (-7:Int)) fun z139=>(Option.bind (T201 F x136 (-18:Int)) fun z140=>(Option.bind (inb 64 (w64 (y103 - (7:Int)))) fun x141=>(Option.bind (vat y107 x141) fun x142=>(Option.bind (inb 64 (w64 (y103 - (16:Int)))) fun x143=>(Option.bind (vat y107 x143) fun x144=>(Option.bind (inb 64 y103) fun x145=>(kA ((w64 (y103 + (1:Int))),(Vector.setIfInBounds y107 x145 (((((z137 ^^^ z138) ^^^ (shr32 x134 ((UInt64.ofNat 10).toNat))) + x142) + ((z139 ^^^ z140) ^^^ (shr32 x136 ((UInt64.ofNat 3).toNat)))) + x144)))))))))))))))))) else (kO y107))
def L200x1_4 (F:Nat) (y102:List UInt8) (y103:Int) (y107:Vector UInt32 64):Option ((Int×(Vector UInt32 64)) ⊕ ((Vector UInt32 64))):=L200x1_4c F y102 y103 y107 (fun s=>some (.inl s)) (fun z=>some (.inr z))
theorem L200x1_4n (F:Nat) (y102:List UInt8) (y103:Int) (y107:Vector UInt32 64) {β:Type} (kA:(Int×(Vector UInt32 64))->Option β) (kO:((Vector UInt32 64))->Option β):L200x1_4c F y102 y103 y107 kA kO=(L200x1_4 F y102 y103 y107).bind (elimS kA kO):=by
 simp only [L200x1_4,L200x1_4c,Option.bind_assoc,cond_bind,Option.bind_some,Option.bind_none,elimS_l,elimS_r,elimS_bind]
abbrev sA200x1_4:List Sh:=[(.pt 0 []),(.ro .u8),(.pt 1 []),.i]
abbrev sAp1200x1_4:List Sh:=[(.pt 0 []),(.pt 1 [])]
abbrev sT200x1_4:List TSh:=[.blk 223 (.pr (.ar 8 .u32) (.pr (.ar 64 .u8) (.pr .i .un))),.blk 231 (.ar 64 .u32)]
abbrev sTp1200x1_4:List TSh:=[.blk 223 (.pr (.ar 8 .u32) (.pr (.ar 64 .u8) (.pr .i .un))),.blk 231 (.ar 64 .u32)]
def lc200x1_4 (F:Nat):Lc:=mkL [0,1,4,27] sA200x1_4 sT200x1_4 [0,4] sAp1200x1_4 sTp1200x1_4 F (fun x y (s:Int×(Vector UInt32 64))=>L200x1_4 F x.2.1 s.1 s.2) (fun x y=>(x.2.2.2.1,y.2.1)) (fun x y (z:(Vector UInt32 64))=>(((),(),()),((y.1.1,y.1.2.1,y.1.2.2.1,()),z,())))
theorem le200x1_4 (F:Nat) (x:dens sA200x1_4) (y:tdens sT200x1_4) (s:Int×(Vector UInt32 64)):sev (E200x1 F) 1 [] (cAt (bodyOf Tryz.f200) (0 :: 0 :: [1,0,1])) (0 :: 0 :: [1,0,1]) (mkSt [0,1,4,27] sA200x1_4 sT200x1_4 ((),x.2.1,(),s.1,()) ((y.1.1,y.1.2.1,y.1.2.2.1,()),s.2,())) (kLoop 1 [0,1,4,27] sA200x1_4 sT200x1_4 [0,4] sAp1200x1_4 sTp1200x1_4 [] [] [] 0 (fun x y=>some (.inl (x,y))) (fun x y=>some (.inr (.inl (x,y)))) (fun x y=>some (.inr (.inr (x,y))))) =
  L200x1_4c (β:=Full sA200x1_4 sT200x1_4 sAp1200x1_4 sTp1200x1_4 [] []) F x.2.1 s.1 s.2 (fun s=>some (.inl (((),x.2.1,(),s.1,()),((y.1.1,y.1.2.1,y.1.2.2.1,()),s.2,())))) (fun z=>some (.inr (.inl (((),(),()),((y.1.1,y.1.2.1,y.1.2.2.1,()),z,()))))):=by kernel_rfl
theorem lo200x1_4 (F:Nat):LcOk Tryz.prog (E200x1 F) 1 (lc200x1_4 F) (cAt (bodyOf Tryz.f200) [1,0,1]):=
 mkL_ok (lp:=[]) (id:=0) (b:=cAt (bodyOf Tryz.f200) (0 :: 0 :: [1,0,1])) cok (cts200x1 F) mixed trivial (by kernel_rfl) (by kernel_rfl) (fun x y s=>((),x.2.1,(),s.1,())) (fun x y s=>((y.1.1,y.1.2.1,y.1.2.2.1,()),s.2,())) (fun x y=>rfl) (fun x y=>rfl) (fun x y s kA kO=>L200x1_4c F x.2.1 s.1 s.2 kA kO) (fun x y s kA kO=>L200x1_4n F x.2.1 s.1 s.2 kA kO) (le200x1_4 F)
def L200x1_5c (F:Nat) (y167:Vector UInt32 64) (y155:UInt32) (y156:UInt32) (y157:UInt32) (y158:UInt32) (y159:UInt32) (y160:UInt32) (y161:UInt32) (y162:UInt32) (y163:Int) {β:Type} (kA:(UInt32×UInt32×UInt32×UInt32×UInt32×UInt32×UInt32×UInt32×Int)->Option β) (kO:(UInt32×UInt32×UInt32×UInt32×UInt32×UInt32×UInt32×UInt32)->Option β):Option β:=
 (bif (decide (y163 < (64:Int))) then (Option.bind (T201 F y159 (-6:Int)) fun z178=>(Option.bind (T201 F y159 (-11:Int)) fun z179=>(Option.bind (T201 F y159 (-25:Int)) fun z180=>(Option.bind (T201 F y155 (-2:Int)) fun z181=>(Option.bind (T201 F y155 (-13:Int)) fun z182=>(Option.bind (T201 F y155 (-22:Int)) fun z183=>(Option.bind (vix (gv2) y163) fun x184=>(Option.bind (inb 64 y163) fun x185=>(Option.bind (vat y167 x185) fun x186=>(kA ((((((y162 + ((z178 ^^^ z179) ^^^ z180)) + ((y159 &&& y160) ^^^ ((~~~y159) &&& y161))) + x184) + x186) + (((z181 ^^^ z182) ^^^ z183) + (((y155 &&& y156) ^^^ (y155 &&& y157)) ^^^ (y156 &&& y157)))),y155,y156,y157,(y158 + ((((y162 + ((z178 ^^^ z179) ^^^ z180)) + ((y159 &&& y160) ^^^ ((~~~y159) &&& y161))) + x184) + x186)),y159,y160,y161,(w64 (y163 + (1:Int)))))))))))))) else (kO (y155,y156,y157,y158,y159,y160,y161,y162)))
def L200x1_5 (F:Nat) (y167:Vector UInt32 64) (y155:UInt32) (y156:UInt32) (y157:UInt32) (y158:UInt32) (y159:UInt32) (y160:UInt32) (y161:UInt32) (y162:UInt32) (y163:Int):Option ((UInt32×UInt32×UInt32×UInt32×UInt32×UInt32×UInt32×UInt32×Int) ⊕ (UInt32×UInt32×UInt32×UInt32×UInt32×UInt32×UInt32×UInt32)):=L200x1_5c F y167 y155 y156 y157 y158 y159 y160 y161 y162 y163 (fun s=>some (.inl s)) (fun z=>some (.inr z))
theorem L200x1_5n (F:Nat) (y167:Vector UInt32 64) (y155:UInt32) (y156:UInt32) (y157:UInt32) (y158:UInt32) (y159:UInt32) (y160:UInt32) (y161:UInt32) (y162:UInt32) (y163:Int) {β:Type} (kA:(UInt32×UInt32×UInt32×UInt32×UInt32×UInt32×UInt32×UInt32×Int)->Option β) (kO:(UInt32×UInt32×UInt32×UInt32×UInt32×UInt32×UInt32×UInt32)->Option β):L200x1_5c F y167 y155 y156 y157 y158 y159 y160 y161 y162 y163 kA kO=(L200x1_5 F y167 y155 y156 y157 y158 y159 y160 y161 y162 y163).bind (elimS kA kO):=by
 simp only [L200x1_5,L200x1_5c,Option.bind_assoc,cond_bind,Option.bind_some,Option.bind_none,elimS_l,elimS_r,elimS_bind]
abbrev sA200x1_5:List Sh:=[(.pt 0 []),(.pt 1 []),(.pt 2 []),.u32,.u32,.u32,.u32,.u32,.u32,.u32,.u32,.i]
abbrev sAp1200x1_5:List Sh:=[(.pt 0 []),(.pt 1 []),.u32,.u32,.u32,.u32,.u32,.u32,.u32,.u32]
abbrev sT200x1_5:List TSh:=[.blk 223 (.pr (.ar 8 .u32) (.pr (.ar 64 .u8) (.pr .i .un))),.blk 231 (.ar 64 .u32),.blk 192 (.ar 8 .u32)]
abbrev sTp1200x1_5:List TSh:=[.blk 223 (.pr (.ar 8 .u32) (.pr (.ar 64 .u8) (.pr .i .un))),.blk 192 (.ar 8 .u32)]
def lc200x1_5 (F:Nat):Lc:=mkL [0,4,11,12,13,14,15,16,17,18,19,123] sA200x1_5 sT200x1_5 [0,11,12,13,14,15,16,17,18,19] sAp1200x1_5 sTp1200x1_5 F (fun x y (s:UInt32×UInt32×UInt32×UInt32×UInt32×UInt32×UInt32×UInt32×Int)=>L200x1_5 F y.2.1 s.1 s.2.1 s.2.2.1 s.2.2.2.1 s.2.2.2.2.1 s.2.2.2.2.2.1 s.2.2.2.2.2.2.1 s.2.2.2.2.2.2.2.1 s.2.2.2.2.2.2.2.2) (fun x y=>(x.2.2.2.1,x.2.2.2.2.1,x.2.2.2.2.2.1,x.2.2.2.2.2.2.1,x.2.2.2.2.2.2.2.1,x.2.2.2.2.2.2.2.2.1,x.2.2.2.2.2.2.2.2.2.1,x.2.2.2.2.2.2.2.2.2.2.1,x.2.2.2.2.2.2.2.2.2.2.2.1)) (fun x y (z:UInt32×UInt32×UInt32×UInt32×UInt32×UInt32×UInt32×UInt32)=>(((),(),z.1,z.2.1,z.2.2.1,z.2.2.2.1,z.2.2.2.2.1,z.2.2.2.2.2.1,z.2.2.2.2.2.2.1,z.2.2.2.2.2.2.2,()),((y.1.1,y.1.2.1,y.1.2.2.1,()),y.2.2.1,())))
theorem le200x1_5 (F:Nat) (x:dens sA200x1_5) (y:tdens sT200x1_5) (s:UInt32×UInt32×UInt32×UInt32×UInt32×UInt32×UInt32×UInt32×Int):sev (E200x1 F) 1 [] (cAt (bodyOf Tryz.f200) (0 :: 0 :: [1,0,1,1,1,1])) (0 :: 0 :: [1,0,1,1,1,1]) (mkSt [0,4,11,12,13,14,15,16,17,18,19,123] sA200x1_5 sT200x1_5 ((),(),(),s.1,s.2.1,s.2.2.1,s.2.2.2.1,s.2.2.2.2.1,s.2.2.2.2.2.1,s.2.2.2.2.2.2.1,s.2.2.2.2.2.2.2.1,s.2.2.2.2.2.2.2.2,()) ((y.1.1,y.1.2.1,y.1.2.2.1,()),y.2.1,y.2.2.1,())) (kLoop 1 [0,4,11,12,13,14,15,16,17,18,19,123] sA200x1_5 sT200x1_5 [0,11,12,13,14,15,16,17,18,19] sAp1200x1_5 sTp1200x1_5 [] [] [] 2 (fun x y=>some (.inl (x,y))) (fun x y=>some (.inr (.inl (x,y)))) (fun x y=>some (.inr (.inr (x,y))))) =
  L200x1_5c (β:=Full sA200x1_5 sT200x1_5 sAp1200x1_5 sTp1200x1_5 [] []) F y.2.1 s.1 s.2.1 s.2.2.1 s.2.2.2.1 s.2.2.2.2.1 s.2.2.2.2.2.1 s.2.2.2.2.2.2.1 s.2.2.2.2.2.2.2.1 s.2.2.2.2.2.2.2.2 (fun s=>some (.inl (((),(),(),s.1,s.2.1,s.2.2.1,s.2.2.2.1,s.2.2.2.2.1,s.2.2.2.2.2.1,s.2.2.2.2.2.2.1,s.2.2.2.2.2.2.2.1,s.2.2.2.2.2.2.2.2,()),((y.1.1,y.1.2.1,y.1.2.2.1,()),y.2.1,y.2.2.1,())))) (fun z=>some (.inr (.inl (((),(),z.1,z.2.1,z.2.2.1,z.2.2.2.1,z.2.2.2.2.1,z.2.2.2.2.2.1,z.2.2.2.2.2.2.1,z.2.2.2.2.2.2.2,()),((y.1.1,y.1.2.1,y.1.2.2.1,()),y.2.2.1,()))))):=by kernel_rfl
theorem lo200x1_5 (F:Nat):LcOk Tryz.prog (E200x1 F) 1 (lc200x1_5 F) (cAt (bodyOf Tryz.f200) [1,0,1,1,1,1]):=
 mkL_ok (lp:=[]) (id:=2) (b:=cAt (bodyOf Tryz.f200) (0 :: 0 :: [1,0,1,1,1,1])) cok (cts200x1 F) mixed trivial (by kernel_rfl) (by kernel_rfl) (fun x y s=>((),(),(),s.1,s.2.1,s.2.2.1,s.2.2.2.1,s.2.2.2.2.1,s.2.2.2.2.2.1,s.2.2.2.2.2.2.1,s.2.2.2.2.2.2.2.1,s.2.2.2.2.2.2.2.2,())) (fun x y s=>((y.1.1,y.1.2.1,y.1.2.2.1,()),y.2.1,y.2.2.1,())) (fun x y=>rfl) (fun x y=>rfl) (fun x y s kA kO=>L200x1_5c F y.2.1 s.1 s.2.1 s.2.2.1 s.2.2.2.1 s.2.2.2.2.1 s.2.2.2.2.2.1 s.2.2.2.2.2.2.1 s.2.2.2.2.2.2.2.1 s.2.2.2.2.2.2.2.2 kA kO) (fun x y s kA kO=>L200x1_5n F y.2.1 s.1 s.2.1 s.2.2.1 s.2.2.2.1 s.2.2.2.2.1 s.2.2.2.2.2.1 s.2.2.2.2.2.2.1 s.2.2.2.2.2.2.2.1 s.2.2.2.2.2.2.2.2 kA kO) (le200x1_5 F)
def L200x1_6c (F:Nat) (y188:Vector UInt32 8) (y193:Vector UInt32 8) (y189:Int) (y190:Vector UInt32 8) {β:Type} (kA:(Int×(Vector UInt32 8))->Option β) (kO:((Vector UInt32 8))->Option β):Option β:=
 (bif (decide (y189 < (8:Int))) then (Option.bind (vix y188 y189) fun x198=>(Option.bind (inb 8 y189) fun x199=>(Option.bind (vat y193 x199) fun x200=>(Option.bind (inb 8 y189) fun x201=>(kA ((w64 (y189 + (1:Int))),(Vector.setIfInBounds y190 x201 (x200 + x198)))))))) else (kO y190))
def L200x1_6 (F:Nat) (y188:Vector UInt32 8) (y193:Vector UInt32 8) (y189:Int) (y190:Vector UInt32 8):Option ((Int×(Vector UInt32 8)) ⊕ ((Vector UInt32 8))):=L200x1_6c F y188 y193 y189 y190 (fun s=>some (.inl s)) (fun z=>some (.inr z))
theorem L200x1_6n (F:Nat) (y188:Vector UInt32 8) (y193:Vector UInt32 8) (y189:Int) (y190:Vector UInt32 8) {β:Type} (kA:(Int×(Vector UInt32 8))->Option β) (kO:((Vector UInt32 8))->Option β):L200x1_6c F y188 y193 y189 y190 kA kO=(L200x1_6 F y188 y193 y189 y190).bind (elimS kA kO):=by
 simp only [L200x1_6,L200x1_6c,Option.bind_assoc,cond_bind,Option.bind_some,Option.bind_none,elimS_l,elimS_r,elimS_bind]
abbrev sA200x1_6:List Sh:=[(.pt 0 []),(.pt 1 []),(.ar 8 .u32),.i]
abbrev sAp1200x1_6:List Sh:=[]
abbrev sT200x1_6:List TSh:=[.blk 223 (.pr (.ar 8 .u32) (.pr (.ar 64 .u8) (.pr .i .un))),.blk 192 (.ar 8 .u32)]
abbrev sTp1200x1_6:List TSh:=[.blk 223 (.pr (.ar 8 .u32) (.pr (.ar 64 .u8) (.pr .i .un)))]
def lc200x1_6 (F:Nat):Lc:=mkL [0,11,196,197] sA200x1_6 sT200x1_6 [] sAp1200x1_6 sTp1200x1_6 F (fun x y (s:Int×(Vector UInt32 8))=>L200x1_6 F x.2.2.1 y.2.1 s.1 s.2) (fun x y=>(x.2.2.2.1,y.1.1)) (fun x y (z:(Vector UInt32 8))=>((),((z,y.1.2.1,y.1.2.2.1,()),())))
theorem le200x1_6 (F:Nat) (x:dens sA200x1_6) (y:tdens sT200x1_6) (s:Int×(Vector UInt32 8)):sev (E200x1 F) 1 [] (cAt (bodyOf Tryz.f200) (0 :: 0 :: [1,1,1,1,1,1])) (0 :: 0 :: [1,1,1,1,1,1]) (mkSt [0,11,196,197] sA200x1_6 sT200x1_6 ((),(),x.2.2.1,s.1,()) ((s.2,y.1.2.1,y.1.2.2.1,()),y.2.1,())) (kLoop 1 [0,11,196,197] sA200x1_6 sT200x1_6 [] sAp1200x1_6 sTp1200x1_6 [] [] [] 4 (fun x y=>some (.inl (x,y))) (fun x y=>some (.inr (.inl (x,y)))) (fun x y=>some (.inr (.inr (x,y))))) =
  L200x1_6c (β:=Full sA200x1_6 sT200x1_6 sAp1200x1_6 sTp1200x1_6 [] []) F x.2.2.1 y.2.1 s.1 s.2 (fun s=>some (.inl (((),(),x.2.2.1,s.1,()),((s.2,y.1.2.1,y.1.2.2.1,()),y.2.1,())))) (fun z=>some (.inr (.inl ((),((z,y.1.2.1,y.1.2.2.1,()),()))))):=by kernel_rfl
theorem lo200x1_6 (F:Nat):LcOk Tryz.prog (E200x1 F) 1 (lc200x1_6 F) (cAt (bodyOf Tryz.f200) [1,1,1,1,1,1]):=
 mkL_ok (lp:=[]) (id:=4) (b:=cAt (bodyOf Tryz.f200) (0 :: 0 :: [1,1,1,1,1,1])) cok (cts200x1 F) mixed trivial (by kernel_rfl) (by kernel_rfl) (fun x y s=>((),(),x.2.2.1,s.1,())) (fun x y s=>((s.2,y.1.2.1,y.1.2.2.1,()),y.2.1,())) (fun x y=>rfl) (fun x y=>rfl) (fun x y s kA kO=>L200x1_6c F x.2.2.1 y.2.1 s.1 s.2 kA kO) (fun x y s kA kO=>L200x1_6n F x.2.2.1 y.2.1 s.1 s.2 kA kO) (le200x1_6 F)
def T200x1c (F:Nat) (p0:List UInt8) (p1:Vector UInt32 8) {β:Type} (k:((Vector UInt32 8))->Option β):Option β:=
 (Option.bind (iter (fun s=>L200x1_4 F p0 s.1 s.2) F ((0:Int),(Vector.replicate 64 (0:UInt32)))) fun z146=>(Option.bind (vat p1 0) fun x147=>(Option.bind (vat p1 1) fun x148=>(Option.bind (vat p1 2) fun x149=>(Option.bind (vat p1 3) fun x150=>(Option.bind (vat p1 4) fun x151=>(Option.bind (vat p1 5) fun x152=>(Option.bind (vat p1 6) fun x153=>(Option.bind (vat p1 7) fun x154=>(Option.bind (iter (fun s=>L200x1_5 F z146 s.1 s.2.1 s.2.2.1 s.2.2.2.1 s.2.2.2.2.1 s.2.2.2.2.2.1 s.2.2.2.2.2.2.1 s.2.2.2.2.2.2.2.1 s.2.2.2.2.2.2.2.2) F (x147,x148,x149,x150,x151,x152,x153,x154,(0:Int))) fun z187=>(Option.bind (iter (fun s=>L200x1_6 F (#v[z187.1,z187.2.1,z187.2.2.1,z187.2.2.2.1,z187.2.2.2.2.1,z187.2.2.2.2.2.1,z187.2.2.2.2.2.2.1,z187.2.2.2.2.2.2.2]:Vector UInt32 8) p1 s.1 s.2) F ((0:Int),p1)) fun z202=>(k z202))))))))))))
def T200x1 (F:Nat) (p0:List UInt8) (p1:Vector UInt32 8):Option ((Vector UInt32 8)):=T200x1c F p0 p1 some
theorem T200x1n (F:Nat) (p0:List UInt8) (p1:Vector UInt32 8) {β:Type} (k:((Vector UInt32 8))->Option β):T200x1c F p0 p1 k=(T200x1 F p0 p1).bind k:=by
 simp only [T200x1,T200x1c,Option.bind_assoc,cond_bind,Option.bind_some,Option.bind_none,elimS_bind]
abbrev cA200x1:List Sh:=[(.pt 0 []),(.ro .u8)]
abbrev cB200x1:List Sh:=[]
abbrev cT200x1:List TSh:=[.blk 223 (.pr (.ar 8 .u32) (.pr (.ar 64 .u8) (.pr .i .un)))]
abbrev cU200x1:List TSh:=[.blk 223 (.pr (.ar 8 .u32) (.pr (.ar 64 .u8) (.pr .i .un)))]
def ct200x1 (F:Nat):Ct:=mkC 1 cA200x1 cT200x1 cB200x1 cU200x1 (fun x y=>T200x1 F x.2.1 y.1.1) (fun x y (z:(Vector UInt32 8))=>((),((z,y.1.2.1,y.1.2.2.1,()),())))
theorem eq200x1 (F:Nat) (x:dens cA200x1) (y:tdens cT200x1):sev (E200x1 F) 1 [([1,0,1],lc200x1_4 F),([1,0,1,1,1,1],lc200x1_5 F),([1,1,1,1,1,1],lc200x1_6 F)] (bodyOf Tryz.f200) [] (mkSt (rng 2) cA200x1 cT200x1 x y) (kFn (E200x1 F) 1 Tryz.f200.results.toList cB200x1 cU200x1 fun p q=>some (p,q)) =
  T200x1c F x.2.1 y.1.1 (fun z=>some ((),((z,y.1.2.1,y.1.2.2.1,()),()))):=by kernel_rfl
theorem ok200x1 (F:Nat):Sound Tryz.prog cfg 200 (ct200x1 F):=
 mkC_ok (E:=E200x1 F) (lp:=[([1,0,1],lc200x1_4 F),([1,0,1,1,1,1],lc200x1_5 F),([1,1,1,1,1,1],lc200x1_6 F)]) (code:=bodyOf Tryz.f200) Tryz.func200 rfl Tryz.ntmps200 rfl rfl cok (cts200x1 F) mixed ⟨lo200x1_4 F,⟨lo200x1_5 F,⟨lo200x1_6 F,trivial⟩⟩⟩ (by kernel_rfl) (fun x y k=>T200x1c F x.2.1 y.1.1 k) (fun x y k=>T200x1n F x.2.1 y.1.1 k) (eq200x1 F)
def ord176:Nat->List (Tag×Nat)
 | _=>[]
def al176:Nat->Option Nat
 | _=>none
def ms176:Nat->Option (List (Option Tag×Nat×List Nat))
 | _=>none
def E176 (F:Nat):Ev:=⟨cfg,57,ctOf [(200,ct200 F),(200,ct200x1 F)],ord176,ctOf [],al176,ms176⟩
theorem cts176 (F:Nat):CtsOk Tryz.prog (E176 F):=cts_of (l:=[(200,ct200 F),(200,ct200x1 F)]) (l':=[]) rfl rfl ⟨⟨ok200 F,_,Tryz.func200,rfl,rfl⟩,⟨⟨ok200x1 F,_,Tryz.func200,rfl,rfl⟩,trivial⟩⟩ trivial
def L176_3c (F:Nat) (y28:List UInt8) (y29:Int) (y30:Bool) (y31:Vector UInt32 8) (y32:Vector UInt8 64) {β:Type} (kO:((List UInt8)×(Vector UInt32 8)×(Vector UInt8 64))->Option β) (kR:((Vector UInt8 64))->Option β):Option β:=
 (bif y30 then (Option.bind (gslb 64 y29 ((64:Nat):Int)) fun x38=>(Option.bind (gsl y28 ((Nat.min y28.length (x38.2 - x38.1)):Int) (y28.length:Int)) fun x39=>(bif (decide ((w64 (y29 + ((Nat.min y28.length (x38.2 - x38.1)):Int))) < (64:Int))) then (kR (vspl y32 x38.1 y28 (Nat.min y28.length (x38.2 - x38.1)))) else (Option.bind (gslb 64 (0:Int) ((64:Nat):Int)) fun x40=>(Option.bind (T200 F (x40.1,x40.2) y31 (vspl y32 x38.1 y28 (Nat.min y28.length (x38.2 - x38.1)))) fun z41=>(kO (x39,z41,(vspl y32 x38.1 y28 (Nat.min y28.length (x38.2 - x38.1)))))))))) else (kO (y28,y31,y32)))
def L176_3 (F:Nat) (y28:List UInt8) (y29:Int) (y30:Bool) (y31:Vector UInt32 8) (y32:Vector UInt8 64):Option (((List UInt8)×(Vector UInt32 8)×(Vector UInt8 64)) ⊕ ((Vector UInt8 64))):=L176_3c F y28 y29 y30 y31 y32 (fun z=>some (.inl z)) (fun z=>some (.inr z))
theorem L176_3n (F:Nat) (y28:List UInt8) (y29:Int) (y30:Bool) (y31:Vector UInt32 8) (y32:Vector UInt8 64) {β:Type} (kO:((List UInt8)×(Vector UInt32 8)×(Vector UInt8 64))->Option β) (kR:((Vector UInt8 64))->Option β):L176_3c F y28 y29 y30 y31 y32 kO kR=(L176_3 F y28 y29 y30 y31 y32).bind (elimS kO kR):=by
 simp only [L176_3,L176_3c,Option.bind_assoc,cond_bind,Option.bind_some,Option.bind_none,elimS_l,elimS_r,elimS_bind]
abbrev sA176_3:List Sh:=[(.pt 0 []),(.ro .u8),.i,.bo]
abbrev sAp1176_3:List Sh:=[(.pt 0 []),(.ro .u8)]
abbrev sAp2176_3:List Sh:=[]
abbrev sT176_3:List TSh:=[.blk 223 (.pr (.ar 8 .u32) (.pr (.ar 64 .u8) (.pr .i .un)))]
abbrev sTp1176_3:List TSh:=[.blk 223 (.pr (.ar 8 .u32) (.pr (.ar 64 .u8) (.pr .i .un)))]
abbrev sTp2176_3:List TSh:=[.blk 223 (.pr (.ar 8 .u32) (.pr (.ar 64 .u8) (.pr .i .un)))]
def lc176_3 (F:Nat):Lc:=mkK [0,1,4,21] sA176_3 sT176_3 [0,1] sAp1176_3 sTp1176_3 [] sAp2176_3 sTp2176_3 (fun x y=>L176_3 F x.2.1 x.2.2.1 x.2.2.2.1 y.1.1 y.1.2.1) (fun x y (z:(List UInt8)×(Vector UInt32 8)×(Vector UInt8 64))=>(((),z.1,()),((z.2.1,z.2.2,y.1.2.2.1,()),()))) (fun x y (z:(Vector UInt8 64))=>((),((y.1.1,z,y.1.2.2.1,()),())))
theorem le176_3 (F:Nat) (x:dens sA176_3) (y:tdens sT176_3):sev (E176 F) 1 [] (cAt (bodyOf Tryz.f176) [1,0,1,1]) [1,0,1,1] (mkSt [0,1,4,21] sA176_3 sT176_3 x y) (kJoinR 1 [0,1] sAp1176_3 sTp1176_3 [] sAp2176_3 sTp2176_3 (fun x y=>some (.inl (x,y))) (fun x y=>some (.inr (x,y)))) =
  L176_3c (β:=(dens sAp1176_3×tdens sTp1176_3) ⊕ (dens sAp2176_3×tdens sTp2176_3)) F x.2.1 x.2.2.1 x.2.2.2.1 y.1.1 y.1.2.1 (fun z=>some (.inl (((),z.1,()),((z.2.1,z.2.2,y.1.2.2.1,()),())))) (fun z=>some (.inr ((),((y.1.1,z,y.1.2.2.1,()),())))):=by kernel_rfl
theorem lo176_3 (F:Nat):LcOk Tryz.prog (E176 F) 1 (lc176_3 F) (cAt (bodyOf Tryz.f176) [1,0,1,1]):=
 mkK_ok (lp:=[]) cok (cts176 F) mixed trivial (by kernel_rfl) (fun x y kO kR=>L176_3c F x.2.1 x.2.2.1 x.2.2.2.1 y.1.1 y.1.2.1 kO kR) (fun x y kO kR=>L176_3n F x.2.1 x.2.2.1 x.2.2.2.1 y.1.1 y.1.2.1 kO kR) (le176_3 F)
def L176_4c (F:Nat) (y43:List UInt8) (y44:Vector UInt32 8) {β:Type} (kA:((List UInt8)×(Vector UInt32 8))->Option β) (kO:((List UInt8)×(Vector UInt32 8))->Option β):Option β:=
 (bif (decide ((64:Int)≤(y43.length:Int))) then (Option.bind (gsl y43 (0:Int) (64:Int)) fun x50=>(Option.bind (T200x1 F x50 y44) fun z51=>(Option.bind (gsl y43 (64:Int) (y43.length:Int)) fun x52=>(kA (x52,z51))))) else (kO (y43,y44)))
def L176_4 (F:Nat) (y43:List UInt8) (y44:Vector UInt32 8):Option (((List UInt8)×(Vector UInt32 8)) ⊕ ((List UInt8)×(Vector UInt32 8))):=L176_4c F y43 y44 (fun s=>some (.inl s)) (fun z=>some (.inr z))
theorem L176_4n (F:Nat) (y43:List UInt8) (y44:Vector UInt32 8) {β:Type} (kA:((List UInt8)×(Vector UInt32 8))->Option β) (kO:((List UInt8)×(Vector UInt32 8))->Option β):L176_4c F y43 y44 kA kO=(L176_4 F y43 y44).bind (elimS kA kO):=by
 simp only [L176_4,L176_4c,Option.bind_assoc,cond_bind,Option.bind_some,Option.bind_none,elimS_l,elimS_r,elimS_bind]
abbrev sA176_4:List Sh:=[(.pt 0 []),(.ro .u8)]
abbrev sAp1176_4:List Sh:=[(.pt 0 []),(.ro .u8)]
abbrev sT176_4:List TSh:=[.blk 223 (.pr (.ar 8 .u32) (.pr (.ar 64 .u8) (.pr .i .un)))]
abbrev sTp1176_4:List TSh:=[.blk 223 (.pr (.ar 8 .u32) (.pr (.ar 64 .u8) (.pr .i .un)))]
def lc176_4 (F:Nat):Lc:=mkL [0,1] sA176_4 sT176_4 [0,1] sAp1176_4 sTp1176_4 F (fun x y (s:(List UInt8)×(Vector UInt32 8))=>L176_4 F s.1 s.2) (fun x y=>(x.2.1,y.1.1)) (fun x y (z:(List UInt8)×(Vector UInt32 8))=>(((),z.1,()),((z.2,y.1.2.1,y.1.2.2.1,()),())))
theorem le176_4 (F:Nat) (x:dens sA176_4) (y:tdens sT176_4) (s:(List UInt8)×(Vector UInt32 8)):sev (E176 F) 1 [] (cAt (bodyOf Tryz.f176) (0 :: 0 :: [0,1,1,1])) (0 :: 0 :: [0,1,1,1]) (mkSt [0,1] sA176_4 sT176_4 ((),s.1,()) ((s.2,y.1.2.1,y.1.2.2.1,()),())) (kLoop 1 [0,1] sA176_4 sT176_4 [0,1] sAp1176_4 sTp1176_4 [] [] [] 0 (fun x y=>some (.inl (x,y))) (fun x y=>some (.inr (.inl (x,y)))) (fun x y=>some (.inr (.inr (x,y))))) =
  L176_4c (β:=Full sA176_4 sT176_4 sAp1176_4 sTp1176_4 [] []) F s.1 s.2 (fun s=>some (.inl (((),s.1,()),((s.2,y.1.2.1,y.1.2.2.1,()),())))) (fun z=>some (.inr (.inl (((),z.1,()),((z.2,y.1.2.1,y.1.2.2.1,()),()))))):=by kernel_rfl
theorem lo176_4 (F:Nat):LcOk Tryz.prog (E176 F) 1 (lc176_4 F) (cAt (bodyOf Tryz.f176) [0,1,1,1]):=
 mkL_ok (lp:=[]) (id:=0) (b:=cAt (bodyOf Tryz.f176) (0 :: 0 :: [0,1,1,1])) cok (cts176 F) mixed trivial (by kernel_rfl) (by kernel_rfl) (fun x y s=>((),s.1,())) (fun x y s=>((s.2,y.1.2.1,y.1.2.2.1,()),())) (fun x y=>rfl) (fun x y=>rfl) (fun x y s kA kO=>L176_4c F s.1 s.2 kA kO) (fun x y s kA kO=>L176_4n F s.1 s.2 kA kO) (le176_4 F)
def T176c (F:Nat) (p0:List UInt8) (p1:Vector UInt32 8) (p2:Vector UInt8 64) (p3:Int) {β:Type} (k:((Vector UInt32 8)×(Vector UInt8 64)×Int)->Option β):Option β:=
 (Option.bind (L176_3 F p0 (Int.tmod p3 (64:Int)) (decide ((0:Int) < (Int.tmod p3 (64:Int)))) p1 p2) fun z42=>elimS (fun z42=>(Option.bind (iter (fun s=>L176_4 F s.1 s.2) F (z42.1,z42.2.1)) fun z53=>(Option.bind (gslb 64 (0:Int) ((64:Nat):Int)) fun x54=>(k (z53.2,(vspl z42.2.2 x54.1 z53.1 (Nat.min z53.1.length (x54.2 - x54.1))),(w64 (p3 + (p0.length:Int)))))))) (fun z42=>(k (p1,z42,(w64 (p3 + (p0.length:Int)))))) z42)
def T176 (F:Nat) (p0:List UInt8) (p1:Vector UInt32 8) (p2:Vector UInt8 64) (p3:Int):Option ((Vector UInt32 8)×(Vector UInt8 64)×Int):=T176c F p0 p1 p2 p3 some
theorem T176n (F:Nat) (p0:List UInt8) (p1:Vector UInt32 8) (p2:Vector UInt8 64) (p3:Int) {β:Type} (k:((Vector UInt32 8)×(Vector UInt8 64)×Int)->Option β):T176c F p0 p1 p2 p3 k=(T176 F p0 p1 p2 p3).bind k:=by
 simp only [T176,T176c,Option.bind_assoc,cond_bind,Option.bind_some,Option.bind_none,elimS_bind]
abbrev cA176:List Sh:=[(.pt 0 []),(.ro .u8)]
abbrev cB176:List Sh:=[]
abbrev cT176:List TSh:=[.blk 223 (.pr (.ar 8 .u32) (.pr (.ar 64 .u8) (.pr .i .un)))]
abbrev cU176:List TSh:=[.blk 223 (.pr (.ar 8 .u32) (.pr (.ar 64 .u8) (.pr .i .un)))]
def ct176 (F:Nat):Ct:=mkC 1 cA176 cT176 cB176 cU176 (fun x y=>T176 F x.2.1 y.1.1 y.1.2.1 y.1.2.2.1) (fun x y (z:(Vector UInt32 8)×(Vector UInt8 64)×Int)=>((),((z.1,z.2.1,z.2.2,()),())))
theorem eq176 (F:Nat) (x:dens cA176) (y:tdens cT176):sev (E176 F) 1 [([1,0,1,1],lc176_3 F),([0,1,1,1],lc176_4 F)] (bodyOf Tryz.f176) [] (mkSt (rng 2) cA176 cT176 x y) (kFn (E176 F) 1 Tryz.f176.results.toList cB176 cU176 fun p q=>some (p,q)) =
  T176c F x.2.1 y.1.1 y.1.2.1 y.1.2.2.1 (fun z=>some ((),((z.1,z.2.1,z.2.2,()),()))):=by kernel_rfl
theorem ok176 (F:Nat):Sound Tryz.prog cfg 176 (ct176 F):=
 mkC_ok (E:=E176 F) (lp:=[([1,0,1,1],lc176_3 F),([0,1,1,1],lc176_4 F)]) (code:=bodyOf Tryz.f176) Tryz.func176 rfl Tryz.ntmps176 rfl rfl cok (cts176 F) mixed ⟨lo176_3 F,⟨lo176_4 F,trivial⟩⟩ (by kernel_rfl) (fun x y k=>T176c F x.2.1 y.1.1 y.1.2.1 y.1.2.2.1 k) (fun x y k=>T176n F x.2.1 y.1.1 y.1.2.1 y.1.2.2.1 k) (eq176 F)
def ord177:Nat->List (Tag×Nat)
 | _=>[]
def al177:Nat->Option Nat
 | _=>none
def ms177:Nat->Option (List (Option Tag×Nat×List Nat))
 | _=>none
def E177 (F:Nat):Ev:=⟨cfg,68,ctOf [(176,ct176 F)],ord177,ctOf [],al177,ms177⟩
theorem cts177 (F:Nat):CtsOk Tryz.prog (E177 F):=cts_of (l:=[(176,ct176 F)]) (l':=[]) rfl rfl ⟨⟨ok176 F,_,Tryz.func176,rfl,rfl⟩,trivial⟩ trivial
def L177_4c (F:Nat) (y30:(Vector UInt32 8)×(Vector UInt8 64)×Int×Unit) (y34:List UInt8) {β:Type} (kA:((List UInt8))->Option β) (kO:((List UInt8))->Option β):Option β:=
 (bif ((Int.tmod (w64 (y30.2.2.1 + (y34.length:Int))) (64:Int)) != (56:Int)) then (Option.bind (gapp y34 ([(UInt8.ofNat 0)]:List UInt8)) fun x36=>(kA x36)) else (kO y34))
def L177_4 (F:Nat) (y30:(Vector UInt32 8)×(Vector UInt8 64)×Int×Unit) (y34:List UInt8):Option (((List UInt8)) ⊕ ((List UInt8))):=L177_4c F y30 y34 (fun s=>some (.inl s)) (fun z=>some (.inr z))
theorem L177_4n (F:Nat) (y30:(Vector UInt32 8)×(Vector UInt8 64)×Int×Unit) (y34:List UInt8) {β:Type} (kA:((List UInt8))->Option β) (kO:((List UInt8))->Option β):L177_4c F y30 y34 kA kO=(L177_4 F y30 y34).bind (elimS kA kO):=by
 simp only [L177_4,L177_4c,Option.bind_assoc,cond_bind,Option.bind_some,Option.bind_none,elimS_l,elimS_r,elimS_bind]
abbrev sA177_4:List Sh:=[(.re (.pr (.ar 8 .u32) (.pr (.ar 64 .u8) (.pr .i .un)))),(.pt 0 []),(.rw 1)]
abbrev sAp1177_4:List Sh:=[(.re (.pr (.ar 8 .u32) (.pr (.ar 64 .u8) (.pr .i .un)))),(.pt 0 []),(.rw 1)]
abbrev sT177_4:List TSh:=[.blk 223 (.pr (.ar 8 .u32) (.pr (.ar 64 .u8) (.pr .i .un))),.row 5 .u8]
abbrev sTp1177_4:List TSh:=[.blk 223 (.pr (.ar 8 .u32) (.pr (.ar 64 .u8) (.pr .i .un))),.row 5 .u8]
def lc177_4 (F:Nat):Lc:=mkL [0,3,4] sA177_4 sT177_4 [0,3,4] sAp1177_4 sTp1177_4 F (fun x y (s:(List UInt8))=>L177_4 F x.1 s) (fun x y=>y.2.1) (fun x y (z:(List UInt8))=>((x.1,(),(),()),((y.1.1,y.1.2.1,y.1.2.2.1,()),z,())))
theorem le177_4 (F:Nat) (x:dens sA177_4) (y:tdens sT177_4) (s:(List UInt8)):sev (E177 F) 0 [] (cAt (bodyOf Tryz.f177) (0 :: 0 :: [0,1,1,1])) (0 :: 0 :: [0,1,1,1]) (mkSt [0,3,4] sA177_4 sT177_4 (x.1,(),(),()) ((y.1.1,y.1.2.1,y.1.2.2.1,()),s,())) (kLoop 0 [0,3,4] sA177_4 sT177_4 [0,3,4] sAp1177_4 sTp1177_4 [] [] [] 0 (fun x y=>some (.inl (x,y))) (fun x y=>some (.inr (.inl (x,y)))) (fun x y=>some (.inr (.inr (x,y))))) =
  L177_4c (β:=Full sA177_4 sT177_4 sAp1177_4 sTp1177_4 [] []) F x.1 s (fun s=>some (.inl ((x.1,(),(),()),((y.1.1,y.1.2.1,y.1.2.2.1,()),s,())))) (fun z=>some (.inr (.inl ((x.1,(),(),()),((y.1.1,y.1.2.1,y.1.2.2.1,()),z,()))))):=by kernel_rfl
theorem lo177_4 (F:Nat):LcOk Tryz.prog (E177 F) 0 (lc177_4 F) (cAt (bodyOf Tryz.f177) [0,1,1,1]):=
 mkL_ok (lp:=[]) (id:=0) (b:=cAt (bodyOf Tryz.f177) (0 :: 0 :: [0,1,1,1])) cok (cts177 F) mixed trivial (by kernel_rfl) (by kernel_rfl) (fun x y s=>(x.1,(),(),())) (fun x y s=>((y.1.1,y.1.2.1,y.1.2.2.1,()),s,())) (fun x y=>rfl) (fun x y=>rfl) (fun x y s kA kO=>L177_4c F x.1 s kA kO) (fun x y s kA kO=>L177_4n F x.1 s kA kO) (le177_4 F)
def L177_5c (F:Nat) (y38:UInt64) (y39:Int) (y43:List UInt8) {β:Type} (kA:(Int×(List UInt8))->Option β) (kO:((List UInt8))->Option β):Option β:=
 (bif (decide ((0:Int)≤y39)) then (Option.bind (gnn y39) fun x46=>(Option.bind (gapp y43 ([((shr64 y38 x46).toUInt8)]:List UInt8)) fun x47=>(kA ((w64 (y39 - (8:Int))),x47)))) else (kO y43))
def L177_5 (F:Nat) (y38:UInt64) (y39:Int) (y43:List UInt8):Option ((Int×(List UInt8)) ⊕ ((List UInt8))):=L177_5c F y38 y39 y43 (fun s=>some (.inl s)) (fun z=>some (.inr z))
theorem L177_5n (F:Nat) (y38:UInt64) (y39:Int) (y43:List UInt8) {β:Type} (kA:(Int×(List UInt8))->Option β) (kO:((List UInt8))->Option β):L177_5c F y38 y39 y43 kA kO=(L177_5 F y38 y39 y43).bind (elimS kA kO):=by
 simp only [L177_5,L177_5c,Option.bind_assoc,cond_bind,Option.bind_some,Option.bind_none,elimS_l,elimS_r,elimS_bind]
abbrev sA177_5:List Sh:=[(.pt 0 []),(.rw 1),.u64,.i]
abbrev sAp1177_5:List Sh:=[(.pt 0 []),(.rw 1)]
abbrev sT177_5:List TSh:=[.blk 223 (.pr (.ar 8 .u32) (.pr (.ar 64 .u8) (.pr .i .un))),.row 5 .u8]
abbrev sTp1177_5:List TSh:=[.blk 223 (.pr (.ar 8 .u32) (.pr (.ar 64 .u8) (.pr .i .un))),.row 5 .u8]
def lc177_5 (F:Nat):Lc:=mkL [3,4,5,6] sA177_5 sT177_5 [3,4] sAp1177_5 sTp1177_5 F (fun x y (s:Int×(List UInt8))=>L177_5 F x.2.2.1 s.1 s.2) (fun x y=>(x.2.2.2.1,y.2.1)) (fun x y (z:(List UInt8))=>(((),(),()),((y.1.1,y.1.2.1,y.1.2.2.1,()),z,())))
theorem le177_5 (F:Nat) (x:dens sA177_5) (y:tdens sT177_5) (s:Int×(List UInt8)):sev (E177 F) 0 [] (cAt (bodyOf Tryz.f177) (0 :: 0 :: [1,0,1,1,1,1,1])) (0 :: 0 :: [1,0,1,1,1,1,1]) (mkSt [3,4,5,6] sA177_5 sT177_5 ((),(),x.2.2.1,s.1,()) ((y.1.1,y.1.2.1,y.1.2.2.1,()),s.2,())) (kLoop 0 [3,4,5,6] sA177_5 sT177_5 [3,4] sAp1177_5 sTp1177_5 [] [] [] 2 (fun x y=>some (.inl (x,y))) (fun x y=>some (.inr (.inl (x,y)))) (fun x y=>some (.inr (.inr (x,y))))) =
  L177_5c (β:=Full sA177_5 sT177_5 sAp1177_5 sTp1177_5 [] []) F x.2.2.1 s.1 s.2 (fun s=>some (.inl (((),(),x.2.2.1,s.1,()),((y.1.1,y.1.2.1,y.1.2.2.1,()),s.2,())))) (fun z=>some (.inr (.inl (((),(),()),((y.1.1,y.1.2.1,y.1.2.2.1,()),z,()))))):=by kernel_rfl
theorem lo177_5 (F:Nat):LcOk Tryz.prog (E177 F) 0 (lc177_5 F) (cAt (bodyOf Tryz.f177) [1,0,1,1,1,1,1]):=
 mkL_ok (lp:=[]) (id:=2) (b:=cAt (bodyOf Tryz.f177) (0 :: 0 :: [1,0,1,1,1,1,1])) cok (cts177 F) mixed trivial (by kernel_rfl) (by kernel_rfl) (fun x y s=>((),(),x.2.2.1,s.1,())) (fun x y s=>((y.1.1,y.1.2.1,y.1.2.2.1,()),s.2,())) (fun x y=>rfl) (fun x y=>rfl) (fun x y s kA kO=>L177_5c F x.2.2.1 s.1 s.2 kA kO) (fun x y s kA kO=>L177_5n F x.2.2.1 s.1 s.2 kA kO) (le177_5 F)
def L177_6c (F:Nat) (y51:Vector UInt32 8) (y52:Int) (y53:List UInt8) {β:Type} (kA:(Int×(List UInt8))->Option β) (kO:((List UInt8))->Option β):Option β:=
 (bif (decide (y52 < (8:Int))) then (Option.bind (vix y51 y52) fun x56=>(Option.bind (gapp y53 ([((shr32 x56 ((UInt64.ofNat 24).toNat)).toUInt8),((shr32 x56 ((UInt64.ofNat 16).toNat)).toUInt8),((shr32 x56 ((UInt64.ofNat 8).toNat)).toUInt8),(x56.toUInt8)]:List UInt8)) fun x57=>(kA ((w64 (y52 + (1:Int))),x57)))) else (kO y53))
def L177_6 (F:Nat) (y51:Vector UInt32 8) (y52:Int) (y53:List UInt8):Option ((Int×(List UInt8)) ⊕ ((List UInt8))):=L177_6c F y51 y52 y53 (fun s=>some (.inl s)) (fun z=>some (.inr z))
theorem L177_6n (F:Nat) (y51:Vector UInt32 8) (y52:Int) (y53:List UInt8) {β:Type} (kA:(Int×(List UInt8))->Option β) (kO:((List UInt8))->Option β):L177_6c F y51 y52 y53 kA kO=(L177_6 F y51 y52 y53).bind (elimS kA kO):=by
 simp only [L177_6,L177_6c,Option.bind_assoc,cond_bind,Option.bind_some,Option.bind_none,elimS_l,elimS_r,elimS_bind]
abbrev sA177_6:List Sh:=[(.rw 0),(.ar 8 .u32),.i]
abbrev sAp1177_6:List Sh:=[(.rw 0)]
abbrev sT177_6:List TSh:=[.row 5 .u8]
abbrev sTp1177_6:List TSh:=[.row 5 .u8]
def lc177_6 (F:Nat):Lc:=mkL [7,47,48] sA177_6 sT177_6 [7] sAp1177_6 sTp1177_6 F (fun x y (s:Int×(List UInt8))=>L177_6 F x.2.1 s.1 s.2) (fun x y=>(x.2.2.1,y.1)) (fun x y (z:(List UInt8))=>(((),()),(z,())))
theorem le177_6 (F:Nat) (x:dens sA177_6) (y:tdens sT177_6) (s:Int×(List UInt8)):sev (E177 F) 0 [] (cAt (bodyOf Tryz.f177) (0 :: 0 :: [1,0,1,1,1,1,1,1,1,1])) (0 :: 0 :: [1,0,1,1,1,1,1,1,1,1]) (mkSt [7,47,48] sA177_6 sT177_6 ((),x.2.1,s.1,()) (s.2,())) (kLoop 0 [7,47,48] sA177_6 sT177_6 [7] sAp1177_6 sTp1177_6 [] [] [] 4 (fun x y=>some (.inl (x,y))) (fun x y=>some (.inr (.inl (x,y)))) (fun x y=>some (.inr (.inr (x,y))))) =
  L177_6c (β:=Full sA177_6 sT177_6 sAp1177_6 sTp1177_6 [] []) F x.2.1 s.1 s.2 (fun s=>some (.inl (((),x.2.1,s.1,()),(s.2,())))) (fun z=>some (.inr (.inl (((),()),(z,()))))):=by kernel_rfl
theorem lo177_6 (F:Nat):LcOk Tryz.prog (E177 F) 0 (lc177_6 F) (cAt (bodyOf Tryz.f177) [1,0,1,1,1,1,1,1,1,1]):=
 mkL_ok (lp:=[]) (id:=4) (b:=cAt (bodyOf Tryz.f177) (0 :: 0 :: [1,0,1,1,1,1,1,1,1,1])) cok (cts177 F) mixed trivial (by kernel_rfl) (by kernel_rfl) (fun x y s=>((),x.2.1,s.1,())) (fun x y s=>(s.2,())) (fun x y=>rfl) (fun x y=>rfl) (fun x y s kA kO=>L177_6c F x.2.1 s.1 s.2 kA kO) (fun x y s kA kO=>L177_6n F x.2.1 s.1 s.2 kA kO) (le177_6 F)
def T177c (F:Nat) (p0:(Vector UInt32 8)×(Vector UInt8 64)×Int×Unit) {β:Type} (k:((List UInt8))->Option β):Option β:=
 (Option.bind (iter (fun s=>L177_4 F p0 s) F ([(UInt8.ofNat 128)]:List UInt8)) fun z37=>(Option.bind (iter (fun s=>L177_5 F ((UInt64.ofInt p0.2.2.1) * (UInt64.ofNat 8)) s.1 s.2) F ((56:Int),z37)) fun z48=>(Option.bind (T176 F z48 p0.1 p0.2.1 p0.2.2.1) fun z49=>(Option.bind (gmake (0:UInt8) (0:Int) (32:Int)) fun x50=>(Option.bind (iter (fun s=>L177_6 F z49.1 s.1 s.2) F ((0:Int),x50)) fun z58=>(k z58))))))
def T177 (F:Nat) (p0:(Vector UInt32 8)×(Vector UInt8 64)×Int×Unit):Option ((List UInt8)):=T177c F p0 some
theorem T177n (F:Nat) (p0:(Vector UInt32 8)×(Vector UInt8 64)×Int×Unit) {β:Type} (k:((List UInt8))->Option β):T177c F p0 k=(T177 F p0).bind k:=by
 simp only [T177,T177c,Option.bind_assoc,cond_bind,Option.bind_some,Option.bind_none,elimS_bind]
abbrev cA177:List Sh:=[(.re (.pr (.ar 8 .u32) (.pr (.ar 64 .u8) (.pr .i .un))))]
abbrev cB177:List Sh:=[.str]
abbrev cT177:List TSh:=[]
abbrev cU177:List TSh:=[]
def ct177 (F:Nat):Ct:=mkC 0 cA177 cT177 cB177 cU177 (fun x y=>T177 F x.1) (fun x y (z:(List UInt8))=>((z,()),()))
theorem eq177 (F:Nat) (x:dens cA177) (y:tdens cT177):sev (E177 F) 0 [([0,1,1,1],lc177_4 F),([1,0,1,1,1,1,1],lc177_5 F),([1,0,1,1,1,1,1,1,1,1],lc177_6 F)] (bodyOf Tryz.f177) [] (mkSt (rng 1) cA177 cT177 x y) (kFn (E177 F) 0 Tryz.f177.results.toList cB177 cU177 fun p q=>some (p,q)) =
  T177c F x.1 (fun z=>some ((z,()),())):=by kernel_rfl
theorem ok177 (F:Nat):Sound Tryz.prog cfg 177 (ct177 F):=
 mkC_ok (E:=E177 F) (lp:=[([0,1,1,1],lc177_4 F),([1,0,1,1,1,1,1],lc177_5 F),([1,0,1,1,1,1,1,1,1,1],lc177_6 F)]) (code:=bodyOf Tryz.f177) Tryz.func177 rfl Tryz.ntmps177 rfl rfl cok (cts177 F) mixed ⟨lo177_4 F,⟨lo177_5 F,⟨lo177_6 F,trivial⟩⟩⟩ (by kernel_rfl) (fun x y k=>T177c F x.1 k) (fun x y k=>T177n F x.1 k) (eq177 F)
def ord173:Nat->List (Tag×Nat)
 | _=>[]
def al173:Nat->Option Nat
 | _=>none
def ms173:Nat->Option (List (Option Tag×Nat×List Nat))
 | _=>none
def E173 (F:Nat):Ev:=⟨cfg,20,ctOf [(175,ct175 F),(176,ct176 F),(177,ct177 F)],ord173,ctOf [],al173,ms173⟩
theorem cts173 (F:Nat):CtsOk Tryz.prog (E173 F):=cts_of (l:=[(175,ct175 F),(176,ct176 F),(177,ct177 F)]) (l':=[]) rfl rfl ⟨⟨ok175 F,_,Tryz.func175,rfl,rfl⟩,⟨⟨ok176 F,_,Tryz.func176,rfl,rfl⟩,⟨⟨ok177 F,_,Tryz.func177,rfl,rfl⟩,trivial⟩⟩⟩ trivial
def L173_2c (F:Nat) (y17:List (List UInt8)) (y18:Int) (y19:Int) (y20:Vector UInt32 8) (y21:Vector UInt8 64) (y22:Int) {β:Type} (kA:(Int×(Vector UInt32 8)×(Vector UInt8 64)×Int)->Option β) (kO:((Vector UInt32 8)×(Vector UInt8 64)×Int)->Option β):Option β:=
 (bif (decide (y19 < y18)) then (Option.bind (ix y17 y19) fun x26=>(Option.bind (gstr x26) fun x27=>(Option.bind (T176 F x27 y20 y21 y22) fun z28=>(kA ((w64 (y19 + (1:Int))),z28.1,z28.2.1,z28.2.2))))) else (kO (y20,y21,y22)))
def L173_2 (F:Nat) (y17:List (List UInt8)) (y18:Int) (y19:Int) (y20:Vector UInt32 8) (y21:Vector UInt8 64) (y22:Int):Option ((Int×(Vector UInt32 8)×(Vector UInt8 64)×Int) ⊕ ((Vector UInt32 8)×(Vector UInt8 64)×Int)):=L173_2c F y17 y18 y19 y20 y21 y22 (fun s=>some (.inl s)) (fun z=>some (.inr z))
theorem L173_2n (F:Nat) (y17:List (List UInt8)) (y18:Int) (y19:Int) (y20:Vector UInt32 8) (y21:Vector UInt8 64) (y22:Int) {β:Type} (kA:(Int×(Vector UInt32 8)×(Vector UInt8 64)×Int)->Option β) (kO:((Vector UInt32 8)×(Vector UInt8 64)×Int)->Option β):L173_2c F y17 y18 y19 y20 y21 y22 kA kO=(L173_2 F y17 y18 y19 y20 y21 y22).bind (elimS kA kO):=by
 simp only [L173_2,L173_2c,Option.bind_assoc,cond_bind,Option.bind_some,Option.bind_none,elimS_l,elimS_r,elimS_bind]
abbrev sA173_2:List Sh:=[(.pt 0 []),(.ro .s),.i,.i]
abbrev sAp1173_2:List Sh:=[(.pt 0 [])]
abbrev sT173_2:List TSh:=[.blk 223 (.pr (.ar 8 .u32) (.pr (.ar 64 .u8) (.pr .i .un)))]
abbrev sTp1173_2:List TSh:=[.blk 223 (.pr (.ar 8 .u32) (.pr (.ar 64 .u8) (.pr .i .un)))]
def lc173_2 (F:Nat):Lc:=mkL [3,7,8,9] sA173_2 sT173_2 [3] sAp1173_2 sTp1173_2 F (fun x y (s:Int×(Vector UInt32 8)×(Vector UInt8 64)×Int)=>L173_2 F x.2.1 x.2.2.1 s.1 s.2.1 s.2.2.1 s.2.2.2) (fun x y=>(x.2.2.2.1,y.1.1,y.1.2.1,y.1.2.2.1)) (fun x y (z:(Vector UInt32 8)×(Vector UInt8 64)×Int)=>(((),()),((z.1,z.2.1,z.2.2,()),())))
theorem le173_2 (F:Nat) (x:dens sA173_2) (y:tdens sT173_2) (s:Int×(Vector UInt32 8)×(Vector UInt8 64)×Int):sev (E173 F) 0 [] (cAt (bodyOf Tryz.f173) (0 :: 0 :: [1,0,1,1])) (0 :: 0 :: [1,0,1,1]) (mkSt [3,7,8,9] sA173_2 sT173_2 ((),x.2.1,x.2.2.1,s.1,()) ((s.2.1,s.2.2.1,s.2.2.2,()),())) (kLoop 0 [3,7,8,9] sA173_2 sT173_2 [3] sAp1173_2 sTp1173_2 [] [] [] 0 (fun x y=>some (.inl (x,y))) (fun x y=>some (.inr (.inl (x,y)))) (fun x y=>some (.inr (.inr (x,y))))) =
  L173_2c (β:=Full sA173_2 sT173_2 sAp1173_2 sTp1173_2 [] []) F x.2.1 x.2.2.1 s.1 s.2.1 s.2.2.1 s.2.2.2 (fun s=>some (.inl (((),x.2.1,x.2.2.1,s.1,()),((s.2.1,s.2.2.1,s.2.2.2,()),())))) (fun z=>some (.inr (.inl (((),()),((z.1,z.2.1,z.2.2,()),()))))):=by kernel_rfl
theorem lo173_2 (F:Nat):LcOk Tryz.prog (E173 F) 0 (lc173_2 F) (cAt (bodyOf Tryz.f173) [1,0,1,1]):=
 mkL_ok (lp:=[]) (id:=0) (b:=cAt (bodyOf Tryz.f173) (0 :: 0 :: [1,0,1,1])) cok (cts173 F) mixed trivial (by kernel_rfl) (by kernel_rfl) (fun x y s=>((),x.2.1,x.2.2.1,s.1,())) (fun x y s=>((s.2.1,s.2.2.1,s.2.2.2,()),())) (fun x y=>rfl) (fun x y=>rfl) (fun x y s kA kO=>L173_2c F x.2.1 x.2.2.1 s.1 s.2.1 s.2.2.1 s.2.2.2 kA kO) (fun x y s kA kO=>L173_2n F x.2.1 x.2.2.1 s.1 s.2.1 s.2.2.1 s.2.2.2 kA kO) (le173_2 F)
def T173c (F:Nat) (p0:List (List UInt8)) {β:Type} (k:((List UInt8))->Option β):Option β:=
 (Option.bind (T175 F) fun z16=>(Option.bind (iter (fun s=>L173_2 F p0 (p0.length:Int) s.1 s.2.1 s.2.2.1 s.2.2.2) F ((0:Int),z16.1,z16.2.1,z16.2.2)) fun z29=>(Option.bind (T177 F (z29.1,z29.2.1,z29.2.2,())) fun z30=>(k z30))))
def T173 (F:Nat) (p0:List (List UInt8)):Option ((List UInt8)):=T173c F p0 some
theorem T173n (F:Nat) (p0:List (List UInt8)) {β:Type} (k:((List UInt8))->Option β):T173c F p0 k=(T173 F p0).bind k:=by
 simp only [T173,T173c,Option.bind_assoc,cond_bind,Option.bind_some,Option.bind_none,elimS_bind]
abbrev cA173:List Sh:=[(.ro .s)]
abbrev cB173:List Sh:=[.str]
abbrev cT173:List TSh:=[]
abbrev cU173:List TSh:=[]
def ct173 (F:Nat):Ct:=mkC 0 cA173 cT173 cB173 cU173 (fun x y=>T173 F x.1) (fun x y (z:(List UInt8))=>((z,()),()))
theorem eq173 (F:Nat) (x:dens cA173) (y:tdens cT173):sev (E173 F) 0 [([1,0,1,1],lc173_2 F)] (bodyOf Tryz.f173) [] (mkSt (rng 1) cA173 cT173 x y) (kFn (E173 F) 0 Tryz.f173.results.toList cB173 cU173 fun p q=>some (p,q)) =
  T173c F x.1 (fun z=>some ((z,()),())):=by kernel_rfl
theorem ok173 (F:Nat):Sound Tryz.prog cfg 173 (ct173 F):=
 mkC_ok (E:=E173 F) (lp:=[([1,0,1,1],lc173_2 F)]) (code:=bodyOf Tryz.f173) Tryz.func173 rfl Tryz.ntmps173 rfl rfl cok (cts173 F) mixed ⟨lo173_2 F,trivial⟩ (by kernel_rfl) (fun x y k=>T173c F x.1 k) (fun x y k=>T173n F x.1 k) (eq173 F)
def ord174:Nat->List (Tag×Nat)
 | _=>[]
def al174:Nat->Option Nat
 | _=>none
def ms174:Nat->Option (List (Option Tag×Nat×List Nat))
 | _=>none
def E174 (F:Nat):Ev:=⟨cfg,18,ctOf [],ord174,ctOf [],al174,ms174⟩
theorem cts174 (F:Nat):CtsOk Tryz.prog (E174 F):=cts_of (l:=[]) (l':=[]) rfl rfl trivial trivial
def L174_2c (F:Nat) (y10:UInt8) (y11:Vector UInt8 64) (y12:Int) (y13:Vector UInt8 64) {β:Type} (kA:(Int×(Vector UInt8 64))->Option β) (kO:((Vector UInt8 64))->Option β):Option β:=
 (bif (decide (y12 < (64:Int))) then (Option.bind (vix y11 y12) fun x16=>(Option.bind (inb 64 y12) fun x17=>(kA ((w64 (y12 + (1:Int))),(Vector.setIfInBounds y13 x17 (x16 ^^^ y10)))))) else (kO y13))
def L174_2 (F:Nat) (y10:UInt8) (y11:Vector UInt8 64) (y12:Int) (y13:Vector UInt8 64):Option ((Int×(Vector UInt8 64)) ⊕ ((Vector UInt8 64))):=L174_2c F y10 y11 y12 y13 (fun s=>some (.inl s)) (fun z=>some (.inr z))
theorem L174_2n (F:Nat) (y10:UInt8) (y11:Vector UInt8 64) (y12:Int) (y13:Vector UInt8 64) {β:Type} (kA:(Int×(Vector UInt8 64))->Option β) (kO:((Vector UInt8 64))->Option β):L174_2c F y10 y11 y12 y13 kA kO=(L174_2 F y10 y11 y12 y13).bind (elimS kA kO):=by
 simp only [L174_2,L174_2c,Option.bind_assoc,cond_bind,Option.bind_some,Option.bind_none,elimS_l,elimS_r,elimS_bind]
abbrev sA174_2:List Sh:=[.u8,(.pt 0 []),(.ar 64 .u8),.i]
abbrev sAp1174_2:List Sh:=[(.pt 0 [])]
abbrev sT174_2:List TSh:=[.blk 220 (.ar 64 .u8)]
abbrev sTp1174_2:List TSh:=[.blk 220 (.ar 64 .u8)]
def lc174_2 (F:Nat):Lc:=mkL [0,3,6,7] sA174_2 sT174_2 [3] sAp1174_2 sTp1174_2 F (fun x y (s:Int×(Vector UInt8 64))=>L174_2 F x.1 x.2.2.1 s.1 s.2) (fun x y=>(x.2.2.2.1,y.1)) (fun x y (z:(Vector UInt8 64))=>(((),()),(z,())))
theorem le174_2 (F:Nat) (x:dens sA174_2) (y:tdens sT174_2) (s:Int×(Vector UInt8 64)):sev (E174 F) 0 [] (cAt (bodyOf Tryz.f174) (0 :: 0 :: [1,0,1])) (0 :: 0 :: [1,0,1]) (mkSt [0,3,6,7] sA174_2 sT174_2 (x.1,(),x.2.2.1,s.1,()) (s.2,())) (kLoop 0 [0,3,6,7] sA174_2 sT174_2 [3] sAp1174_2 sTp1174_2 [] [] [] 0 (fun x y=>some (.inl (x,y))) (fun x y=>some (.inr (.inl (x,y)))) (fun x y=>some (.inr (.inr (x,y))))) =
  L174_2c (β:=Full sA174_2 sT174_2 sAp1174_2 sTp1174_2 [] []) F x.1 x.2.2.1 s.1 s.2 (fun s=>some (.inl ((x.1,(),x.2.2.1,s.1,()),(s.2,())))) (fun z=>some (.inr (.inl (((),()),(z,()))))):=by kernel_rfl
theorem lo174_2 (F:Nat):LcOk Tryz.prog (E174 F) 0 (lc174_2 F) (cAt (bodyOf Tryz.f174) [1,0,1]):=
 mkL_ok (lp:=[]) (id:=0) (b:=cAt (bodyOf Tryz.f174) (0 :: 0 :: [1,0,1])) cok (cts174 F) mixed trivial (by kernel_rfl) (by kernel_rfl) (fun x y s=>(x.1,(),x.2.2.1,s.1,())) (fun x y s=>(s.2,())) (fun x y=>rfl) (fun x y=>rfl) (fun x y s kA kO=>L174_2c F x.1 x.2.2.1 s.1 s.2 kA kO) (fun x y s kA kO=>L174_2n F x.1 x.2.2.1 s.1 s.2 kA kO) (le174_2 F)
def T174c (F:Nat) (p0:UInt8) (p1:Vector UInt8 64) {β:Type} (k:((Vector UInt8 64))->Option β):Option β:=
 (Option.bind (iter (fun s=>L174_2 F p0 p1 s.1 s.2) F ((0:Int),(Vector.replicate 64 (0:UInt8)))) fun z18=>(k z18))
def T174 (F:Nat) (p0:UInt8) (p1:Vector UInt8 64):Option ((Vector UInt8 64)):=T174c F p0 p1 some
theorem T174n (F:Nat) (p0:UInt8) (p1:Vector UInt8 64) {β:Type} (k:((Vector UInt8 64))->Option β):T174c F p0 p1 k=(T174 F p0 p1).bind k:=by
 simp only [T174,T174c,Option.bind_assoc,cond_bind,Option.bind_some,Option.bind_none,elimS_bind]
abbrev cA174:List Sh:=[.u8,(.re (.ar 64 .u8))]
abbrev cB174:List Sh:=[(.ar 64 .u8)]
abbrev cT174:List TSh:=[]
abbrev cU174:List TSh:=[]
def ct174 (F:Nat):Ct:=mkC 0 cA174 cT174 cB174 cU174 (fun x y=>T174 F x.1 x.2.1) (fun x y (z:(Vector UInt8 64))=>((z,()),()))
theorem eq174 (F:Nat) (x:dens cA174) (y:tdens cT174):sev (E174 F) 0 [([1,0,1],lc174_2 F)] (bodyOf Tryz.f174) [] (mkSt (rng 2) cA174 cT174 x y) (kFn (E174 F) 0 Tryz.f174.results.toList cB174 cU174 fun p q=>some (p,q)) =
  T174c F x.1 x.2.1 (fun z=>some ((z,()),())):=by kernel_rfl
theorem ok174 (F:Nat):Sound Tryz.prog cfg 174 (ct174 F):=
 mkC_ok (E:=E174 F) (lp:=[([1,0,1],lc174_2 F)]) (code:=bodyOf Tryz.f174) Tryz.func174 rfl Tryz.ntmps174 rfl rfl cok (cts174 F) mixed ⟨lo174_2 F,trivial⟩ (by kernel_rfl) (fun x y k=>T174c F x.1 x.2.1 k) (fun x y k=>T174n F x.1 x.2.1 k) (eq174 F)
def ord200x2:Nat->List (Tag×Nat)
 | 6=>[(.p,0),(.p,1),(.p,2),(.r,3),(.p,4),(.p,5),(.p,6),(.p,7),(.r,8),(.p,9),(.p,10),(.p,11),(.p,12),(.p,13),(.r,14),(.p,15),(.p,16),(.p,17),(.p,18),(.p,19),(.r,20),(.p,21),(.p,22),(.p,23),(.w,24)]
 | 7=>[(.p,0),(.p,1),(.p,2),(.r,3),(.p,4),(.p,5),(.p,6),(.r,7),(.p,8),(.p,9)]
 | 10=>[(.p,0),(.p,1),(.p,2),(.p,3),(.p,4),(.r,5),(.p,6),(.p,7),(.p,8),(.p,9),(.p,10),(.p,11),(.r,12),(.p,13),(.p,14),(.w,15)]
 | 13=>[(.p,0),(.r,1),(.p,2),(.r,3),(.p,4),(.r,5),(.p,6),(.r,7),(.p,8),(.r,9),(.p,10),(.r,11),(.p,12),(.r,13),(.p,14),(.r,15),(.p,16),(.p,17),(.p,18),(.p,19),(.p,20),(.p,21),(.p,22),(.p,23)]
 | 19=>[(.p,0),(.p,1),(.p,2),(.p,3),(.p,4),(.p,5),(.p,6),(.p,7),(.p,8),(.p,9),(.p,10),(.p,11),(.p,12),(.p,13),(.r,14),(.p,15),(.p,16),(.p,17),(.r,18),(.p,19),(.p,20)]
 | 26=>[(.p,0),(.p,1),(.p,2),(.p,3),(.r,4),(.p,5),(.p,6),(.p,7),(.p,8),(.p,9),(.w,10)]
 | _=>[]
def al200x2:Nat->Option Nat
 | _=>none
def ms200x2:Nat->Option (List (Option Tag×Nat×List Nat))
 | _=>none
def E200x2 (F:Nat):Ev:=⟨cfg,212,ctOf [(201,ct201 F)],ord200x2,ctOf [],al200x2,ms200x2⟩
theorem cts200x2 (F:Nat):CtsOk Tryz.prog (E200x2 F):=cts_of (l:=[(201,ct201 F)]) (l':=[]) rfl rfl ⟨⟨ok201 F,_,Tryz.func201,rfl,rfl⟩,trivial⟩ trivial
def L200x2_4c (F:Nat) (y116:Vector UInt8 64) (y113:Nat×Nat) (y114:Int) (y119:Vector UInt32 64) {β:Type} (kA:((Nat×Nat)×Int×(Vector UInt32 64))->Option β) (kO:((Vector UInt32 64))->Option β):Option β:=
 (bif (decide (y114 < (64:Int))) then (bif (decide (y114 < (16:Int))) then (Option.bind (gslb (y113.2 - y113.1) (w64 ((4:Int) * y114)) (w64 ((w64 ((4:Int) * y114)) + (4:Int)))) fun x143=>(Option.bind (inb ((y113.1 + x143.2) - (y113.1 + x143.1)) (0:Int)) fun x144=>(Option.bind (vat y116 ((y113.1 + x143.1) + x144)) fun x145=>(Option.bind (inb ((y113.1 + x143.2) - (y113.1 + x143.1)) (1:Int)) fun x146=>(Option.bind (vat y116 ((y113.1 + x143.1) + x146)) fun x147=>(Option.bind (inb ((y113.1 + x143.2) - (y113.1 + x143.1)) (2:Int)) fun x148=>(Option.bind (vat y116 ((y113.1 + x143.1) + x148)) fun x149=>(Option.bind (inb ((y113.1 + x143.2) - (y113.1 + x143.1)) (3:Int)) fun x150=>(Option.bind (vat y116 ((y113.1 + x143.1) + x150)) fun x151=>(Option.bind (inb 64 y114) fun x152=>(kA ((y113.1,y113.2),(w64 (y114 + (1:Int))),(Vector.setIfInBounds y119 x152 ((((shl32 (x145.toUInt32) ((UInt64.ofNat 24).toNat)) ||| (shl32 (x147.toUInt32) ((UInt64.ofNat 16).toNat))) ||| (shl32 (x149.toUInt32) ((UInt64.ofNat 8).toNat))) ||| (x151.toUInt32))))))))))))))) else (Option.bind (inb 64 (w64 (y114 - (2:Int)))) fun x153=>(Option.bind (vat y119 x153) fun x154=>(Option.bind (inb 64 (w64 (y114 - (15:Int)))) fun x155=>(Option.bind (vat y119 x155) fun x156=>(Option.bind (T201 F x154 (-17:Int)) fun z157=>(Option.bind (T201 F x154 (-19:Int)) fun z158=>(Option.bind (T201 F x156 (-7:Int)) fun z159=>(Option.bind (T201 F x156 (-18:Int)) fun z160=>(Option.bind (inb 64 (w64 (y114 - (7:Int)))) fun x161=>(Option.bind (vat y119 x161) fun x162=>(Option.bind (inb 64 (w64 (y114 - (16:Int)))) fun x163=>(Option.bind (vat y119 x163) fun x164=>(Option.bind (inb 64 y114) fun x165=>(kA ((y113.1,y113.2),(w64 (y114 + (1:Int))),(Vector.setIfInBounds y119 x165 (((((z157 ^^^ z158) ^^^ (shr32 x154 ((UInt64.ofNat 10).toNat))) + x162) + ((z159 ^^^ z160) ^^^ (shr32 x156 ((UInt64.ofNat 3).toNat)))) + x164)))))))))))))))))) else (kO y119))
def L200x2_4 (F:Nat) (y116:Vector UInt8 64) (y113:Nat×Nat) (y114:Int) (y119:Vector UInt32 64):Option (((Nat×Nat)×Int×(Vector UInt32 64)) ⊕ ((Vector UInt32 64))):=L200x2_4c F y116 y113 y114 y119 (fun s=>some (.inl s)) (fun z=>some (.inr z))
theorem L200x2_4n (F:Nat) (y116:Vector UInt8 64) (y113:Nat×Nat) (y114:Int) (y119:Vector UInt32 64) {β:Type} (kA:((Nat×Nat)×Int×(Vector UInt32 64))->Option β) (kO:((Vector UInt32 64))->Option β):L200x2_4c F y116 y113 y114 y119 kA kO=(L200x2_4 F y116 y113 y114 y119).bind (elimS kA kO):=by
 simp only [L200x2_4,L200x2_4c,Option.bind_assoc,cond_bind,Option.bind_some,Option.bind_none,elimS_l,elimS_r,elimS_bind]
abbrev sA200x2_4:List Sh:=[(.pt 0 [0,0]),(.ap 0 [0,0,1]),(.pt 1 []),.i]
abbrev sAp1200x2_4:List Sh:=[(.pt 0 [0,0]),(.pt 1 [])]
abbrev sT200x2_4:List TSh:=[.blk 230 (.pr (.pr (.pr (.ar 8 .u32) (.pr (.ar 64 .u8) (.pr .i .un))) (.pr (.ar 64 .u8) .un)) .un),.blk 231 (.ar 64 .u32)]
abbrev sTp1200x2_4:List TSh:=[.blk 230 (.pr (.pr (.pr (.ar 8 .u32) (.pr (.ar 64 .u8) (.pr .i .un))) (.pr (.ar 64 .u8) .un)) .un),.blk 231 (.ar 64 .u32)]
def lc200x2_4 (F:Nat):Lc:=mkL [0,1,4,27] sA200x2_4 sT200x2_4 [0,4] sAp1200x2_4 sTp1200x2_4 F (fun x y (s:(Nat×Nat)×Int×(Vector UInt32 64))=>L200x2_4 F y.1.1.1.2.1 s.1 s.2.1 s.2.2) (fun x y=>(x.2.1,x.2.2.2.1,y.2.1)) (fun x y (z:(Vector UInt32 64))=>(((),(),()),((((y.1.1.1.1,y.1.1.1.2.1,y.1.1.1.2.2.1,()),y.1.1.2.1,()),()),z,())))
theorem le200x2_4 (F:Nat) (x:dens sA200x2_4) (y:tdens sT200x2_4) (s:(Nat×Nat)×Int×(Vector UInt32 64)):sev (E200x2 F) 1 [] (cAt (bodyOf Tryz.f200) (0 :: 0 :: [1,0,1])) (0 :: 0 :: [1,0,1]) (mkSt [0,1,4,27] sA200x2_4 sT200x2_4 ((),s.1,(),s.2.1,()) ((((y.1.1.1.1,y.1.1.1.2.1,y.1.1.1.2.2.1,()),y.1.1.2.1,()),()),s.2.2,())) (kLoop 1 [0,1,4,27] sA200x2_4 sT200x2_4 [0,4] sAp1200x2_4 sTp1200x2_4 [] [] [] 0 (fun x y=>some (.inl (x,y))) (fun x y=>some (.inr (.inl (x,y)))) (fun x y=>some (.inr (.inr (x,y))))) =
  L200x2_4c (β:=Full sA200x2_4 sT200x2_4 sAp1200x2_4 sTp1200x2_4 [] []) F y.1.1.1.2.1 s.1 s.2.1 s.2.2 (fun s=>some (.inl (((),s.1,(),s.2.1,()),((((y.1.1.1.1,y.1.1.1.2.1,y.1.1.1.2.2.1,()),y.1.1.2.1,()),()),s.2.2,())))) (fun z=>some (.inr (.inl (((),(),()),((((y.1.1.1.1,y.1.1.1.2.1,y.1.1.1.2.2.1,()),y.1.1.2.1,()),()),z,()))))):=by kernel_rfl
theorem lo200x2_4 (F:Nat):LcOk Tryz.prog (E200x2 F) 1 (lc200x2_4 F) (cAt (bodyOf Tryz.f200) [1,0,1]):=
 mkL_ok (lp:=[]) (id:=0) (b:=cAt (bodyOf Tryz.f200) (0 :: 0 :: [1,0,1])) cok (cts200x2 F) mixed trivial (by kernel_rfl) (by kernel_rfl) (fun x y s=>((),s.1,(),s.2.1,())) (fun x y s=>((((y.1.1.1.1,y.1.1.1.2.1,y.1.1.1.2.2.1,()),y.1.1.2.1,()),()),s.2.2,())) (fun x y=>rfl) (fun x y=>rfl) (fun x y s kA kO=>L200x2_4c F y.1.1.1.2.1 s.1 s.2.1 s.2.2 kA kO) (fun x y s kA kO=>L200x2_4n F y.1.1.1.2.1 s.1 s.2.1 s.2.2 kA kO) (le200x2_4 F)
def L200x2_5c (F:Nat) (y188:Vector UInt32 64) (y175:UInt32) (y176:UInt32) (y177:UInt32) (y178:UInt32) (y179:UInt32) (y180:UInt32) (y181:UInt32) (y182:UInt32) (y183:Int) {β:Type} (kA:(UInt32×UInt32×UInt32×UInt32×UInt32×UInt32×UInt32×UInt32×Int)->Option β) (kO:(UInt32×UInt32×UInt32×UInt32×UInt32×UInt32×UInt32×UInt32)->Option β):Option β:=
 (bif (decide (y183 < (64:Int))) then (Option.bind (T201 F y179 (-6:Int)) fun z199=>(Option.bind (T201 F y179 (-11:Int)) fun z200=>(Option.bind (T201 F y179 (-25:Int)) fun z201=>(Option.bind (T201 F y175 (-2:Int)) fun z202=>(Option.bind (T201 F y175 (-13:Int)) fun z203=>(Option.bind (T201 F y175 (-22:Int)) fun z204=>(Option.bind (vix (gv2) y183) fun x205=>(Option.bind (inb 64 y183) fun x206=>(Option.bind (vat y188 x206) fun x207=>(kA ((((((y182 + ((z199 ^^^ z200) ^^^ z201)) + ((y179 &&& y180) ^^^ ((~~~y179) &&& y181))) + x205) + x207) + (((z202 ^^^ z203) ^^^ z204) + (((y175 &&& y176) ^^^ (y175 &&& y177)) ^^^ (y176 &&& y177)))),y175,y176,y177,(y178 + ((((y182 + ((z199 ^^^ z200) ^^^ z201)) + ((y179 &&& y180) ^^^ ((~~~y179) &&& y181))) + x205) + x207)),y179,y180,y181,(w64 (y183 + (1:Int)))))))))))))) else (kO (y175,y176,y177,y178,y179,y180,y181,y182)))
def L200x2_5 (F:Nat) (y188:Vector UInt32 64) (y175:UInt32) (y176:UInt32) (y177:UInt32) (y178:UInt32) (y179:UInt32) (y180:UInt32) (y181:UInt32) (y182:UInt32) (y183:Int):Option ((UInt32×UInt32×UInt32×UInt32×UInt32×UInt32×UInt32×UInt32×Int) ⊕ (UInt32×UInt32×UInt32×UInt32×UInt32×UInt32×UInt32×UInt32)):=L200x2_5c F y188 y175 y176 y177 y178 y179 y180 y181 y182 y183 (fun s=>some (.inl s)) (fun z=>some (.inr z))
theorem L200x2_5n (F:Nat) (y188:Vector UInt32 64) (y175:UInt32) (y176:UInt32) (y177:UInt32) (y178:UInt32) (y179:UInt32) (y180:UInt32) (y181:UInt32) (y182:UInt32) (y183:Int) {β:Type} (kA:(UInt32×UInt32×UInt32×UInt32×UInt32×UInt32×UInt32×UInt32×Int)->Option β) (kO:(UInt32×UInt32×UInt32×UInt32×UInt32×UInt32×UInt32×UInt32)->Option β):L200x2_5c F y188 y175 y176 y177 y178 y179 y180 y181 y182 y183 kA kO=(L200x2_5 F y188 y175 y176 y177 y178 y179 y180 y181 y182 y183).bind (elimS kA kO):=by
 simp only [L200x2_5,L200x2_5c,Option.bind_assoc,cond_bind,Option.bind_some,Option.bind_none,elimS_l,elimS_r,elimS_bind]
abbrev sA200x2_5:List Sh:=[(.pt 0 [0,0]),(.pt 1 []),(.pt 2 []),.u32,.u32,.u32,.u32,.u32,.u32,.u32,.u32,.i]
abbrev sAp1200x2_5:List Sh:=[(.pt 0 [0,0]),(.pt 1 []),.u32,.u32,.u32,.u32,.u32,.u32,.u32,.u32]
abbrev sT200x2_5:List TSh:=[.blk 230 (.pr (.pr (.pr (.ar 8 .u32) (.pr (.ar 64 .u8) (.pr .i .un))) (.pr (.ar 64 .u8) .un)) .un),.blk 231 (.ar 64 .u32),.blk 192 (.ar 8 .u32)]
abbrev sTp1200x2_5:List TSh:=[.blk 230 (.pr (.pr (.pr (.ar 8 .u32) (.pr (.ar 64 .u8) (.pr .i .un))) (.pr (.ar 64 .u8) .un)) .un),.blk 192 (.ar 8 .u32)]
def lc200x2_5 (F:Nat):Lc:=mkL [0,4,11,12,13,14,15,16,17,18,19,123] sA200x2_5 sT200x2_5 [0,11,12,13,14,15,16,17,18,19] sAp1200x2_5 sTp1200x2_5 F (fun x y (s:UInt32×UInt32×UInt32×UInt32×UInt32×UInt32×UInt32×UInt32×Int)=>L200x2_5 F y.2.1 s.1 s.2.1 s.2.2.1 s.2.2.2.1 s.2.2.2.2.1 s.2.2.2.2.2.1 s.2.2.2.2.2.2.1 s.2.2.2.2.2.2.2.1 s.2.2.2.2.2.2.2.2) (fun x y=>(x.2.2.2.1,x.2.2.2.2.1,x.2.2.2.2.2.1,x.2.2.2.2.2.2.1,x.2.2.2.2.2.2.2.1,x.2.2.2.2.2.2.2.2.1,x.2.2.2.2.2.2.2.2.2.1,x.2.2.2.2.2.2.2.2.2.2.1,x.2.2.2.2.2.2.2.2.2.2.2.1)) (fun x y (z:UInt32×UInt32×UInt32×UInt32×UInt32×UInt32×UInt32×UInt32)=>(((),(),z.1,z.2.1,z.2.2.1,z.2.2.2.1,z.2.2.2.2.1,z.2.2.2.2.2.1,z.2.2.2.2.2.2.1,z.2.2.2.2.2.2.2,()),((((y.1.1.1.1,y.1.1.1.2.1,y.1.1.1.2.2.1,()),y.1.1.2.1,()),()),y.2.2.1,())))
theorem le200x2_5 (F:Nat) (x:dens sA200x2_5) (y:tdens sT200x2_5) (s:UInt32×UInt32×UInt32×UInt32×UInt32×UInt32×UInt32×UInt32×Int):sev (E200x2 F) 1 [] (cAt (bodyOf Tryz.f200) (0 :: 0 :: [1,0,1,1,1,1])) (0 :: 0 :: [1,0,1,1,1,1]) (mkSt [0,4,11,12,13,14,15,16,17,18,19,123] sA200x2_5 sT200x2_5 ((),(),(),s.1,s.2.1,s.2.2.1,s.2.2.2.1,s.2.2.2.2.1,s.2.2.2.2.2.1,s.2.2.2.2.2.2.1,s.2.2.2.2.2.2.2.1,s.2.2.2.2.2.2.2.2,()) ((((y.1.1.1.1,y.1.1.1.2.1,y.1.1.1.2.2.1,()),y.1.1.2.1,()),()),y.2.1,y.2.2.1,())) (kLoop 1 [0,4,11,12,13,14,15,16,17,18,19,123] sA200x2_5 sT200x2_5 [0,11,12,13,14,15,16,17,18,19] sAp1200x2_5 sTp1200x2_5 [] [] [] 2 (fun x y=>some (.inl (x,y))) (fun x y=>some (.inr (.inl (x,y)))) (fun x y=>some (.inr (.inr (x,y))))) =
  L200x2_5c (β:=Full sA200x2_5 sT200x2_5 sAp1200x2_5 sTp1200x2_5 [] []) F y.2.1 s.1 s.2.1 s.2.2.1 s.2.2.2.1 s.2.2.2.2.1 s.2.2.2.2.2.1 s.2.2.2.2.2.2.1 s.2.2.2.2.2.2.2.1 s.2.2.2.2.2.2.2.2 (fun s=>some (.inl (((),(),(),s.1,s.2.1,s.2.2.1,s.2.2.2.1,s.2.2.2.2.1,s.2.2.2.2.2.1,s.2.2.2.2.2.2.1,s.2.2.2.2.2.2.2.1,s.2.2.2.2.2.2.2.2,()),((((y.1.1.1.1,y.1.1.1.2.1,y.1.1.1.2.2.1,()),y.1.1.2.1,()),()),y.2.1,y.2.2.1,())))) (fun z=>some (.inr (.inl (((),(),z.1,z.2.1,z.2.2.1,z.2.2.2.1,z.2.2.2.2.1,z.2.2.2.2.2.1,z.2.2.2.2.2.2.1,z.2.2.2.2.2.2.2,()),((((y.1.1.1.1,y.1.1.1.2.1,y.1.1.1.2.2.1,()),y.1.1.2.1,()),()),y.2.2.1,()))))):=by kernel_rfl
theorem lo200x2_5 (F:Nat):LcOk Tryz.prog (E200x2 F) 1 (lc200x2_5 F) (cAt (bodyOf Tryz.f200) [1,0,1,1,1,1]):=
 mkL_ok (lp:=[]) (id:=2) (b:=cAt (bodyOf Tryz.f200) (0 :: 0 :: [1,0,1,1,1,1])) cok (cts200x2 F) mixed trivial (by kernel_rfl) (by kernel_rfl) (fun x y s=>((),(),(),s.1,s.2.1,s.2.2.1,s.2.2.2.1,s.2.2.2.2.1,s.2.2.2.2.2.1,s.2.2.2.2.2.2.1,s.2.2.2.2.2.2.2.1,s.2.2.2.2.2.2.2.2,())) (fun x y s=>((((y.1.1.1.1,y.1.1.1.2.1,y.1.1.1.2.2.1,()),y.1.1.2.1,()),()),y.2.1,y.2.2.1,())) (fun x y=>rfl) (fun x y=>rfl) (fun x y s kA kO=>L200x2_5c F y.2.1 s.1 s.2.1 s.2.2.1 s.2.2.2.1 s.2.2.2.2.1 s.2.2.2.2.2.1 s.2.2.2.2.2.2.1 s.2.2.2.2.2.2.2.1 s.2.2.2.2.2.2.2.2 kA kO) (fun x y s kA kO=>L200x2_5n F y.2.1 s.1 s.2.1 s.2.2.1 s.2.2.2.1 s.2.2.2.2.1 s.2.2.2.2.2.1 s.2.2.2.2.2.2.1 s.2.2.2.2.2.2.2.1 s.2.2.2.2.2.2.2.2 kA kO) (le200x2_5 F)
def L200x2_6c (F:Nat) (y209:Vector UInt32 8) (y215:Vector UInt32 8) (y210:Int) (y211:Vector UInt32 8) {β:Type} (kA:(Int×(Vector UInt32 8))->Option β) (kO:((Vector UInt32 8))->Option β):Option β:=
 (bif (decide (y210 < (8:Int))) then (Option.bind (vix y209 y210) fun x220=>(Option.bind (inb 8 y210) fun x221=>(Option.bind (vat y215 x221) fun x222=>(Option.bind (inb 8 y210) fun x223=>(kA ((w64 (y210 + (1:Int))),(Vector.setIfInBounds y211 x223 (x222 + x220)))))))) else (kO y211))
def L200x2_6 (F:Nat) (y209:Vector UInt32 8) (y215:Vector UInt32 8) (y210:Int) (y211:Vector UInt32 8):Option ((Int×(Vector UInt32 8)) ⊕ ((Vector UInt32 8))):=L200x2_6c F y209 y215 y210 y211 (fun s=>some (.inl s)) (fun z=>some (.inr z))
theorem L200x2_6n (F:Nat) (y209:Vector UInt32 8) (y215:Vector UInt32 8) (y210:Int) (y211:Vector UInt32 8) {β:Type} (kA:(Int×(Vector UInt32 8))->Option β) (kO:((Vector UInt32 8))->Option β):L200x2_6c F y209 y215 y210 y211 kA kO=(L200x2_6 F y209 y215 y210 y211).bind (elimS kA kO):=by
 simp only [L200x2_6,L200x2_6c,Option.bind_assoc,cond_bind,Option.bind_some,Option.bind_none,elimS_l,elimS_r,elimS_bind]
abbrev sA200x2_6:List Sh:=[(.pt 0 [0,0]),(.pt 1 []),(.ar 8 .u32),.i]
abbrev sAp1200x2_6:List Sh:=[]
abbrev sT200x2_6:List TSh:=[.blk 230 (.pr (.pr (.pr (.ar 8 .u32) (.pr (.ar 64 .u8) (.pr .i .un))) (.pr (.ar 64 .u8) .un)) .un),.blk 192 (.ar 8 .u32)]
abbrev sTp1200x2_6:List TSh:=[.blk 230 (.pr (.pr (.pr (.ar 8 .u32) (.pr (.ar 64 .u8) (.pr .i .un))) (.pr (.ar 64 .u8) .un)) .un)]
def lc200x2_6 (F:Nat):Lc:=mkL [0,11,196,197] sA200x2_6 sT200x2_6 [] sAp1200x2_6 sTp1200x2_6 F (fun x y (s:Int×(Vector UInt32 8))=>L200x2_6 F x.2.2.1 y.2.1 s.1 s.2) (fun x y=>(x.2.2.2.1,y.1.1.1.1)) (fun x y (z:(Vector UInt32 8))=>((),((((z,y.1.1.1.2.1,y.1.1.1.2.2.1,()),y.1.1.2.1,()),()),())))
theorem le200x2_6 (F:Nat) (x:dens sA200x2_6) (y:tdens sT200x2_6) (s:Int×(Vector UInt32 8)):sev (E200x2 F) 1 [] (cAt (bodyOf Tryz.f200) (0 :: 0 :: [1,1,1,1,1,1])) (0 :: 0 :: [1,1,1,1,1,1]) (mkSt [0,11,196,197] sA200x2_6 sT200x2_6 ((),(),x.2.2.1,s.1,()) ((((s.2,y.1.1.1.2.1,y.1.1.1.2.2.1,()),y.1.1.2.1,()),()),y.2.1,())) (kLoop 1 [0,11,196,197] sA200x2_6 sT200x2_6 [] sAp1200x2_6 sTp1200x2_6 [] [] [] 4 (fun x y=>some (.inl (x,y))) (fun x y=>some (.inr (.inl (x,y)))) (fun x y=>some (.inr (.inr (x,y))))) =
  L200x2_6c (β:=Full sA200x2_6 sT200x2_6 sAp1200x2_6 sTp1200x2_6 [] []) F x.2.2.1 y.2.1 s.1 s.2 (fun s=>some (.inl (((),(),x.2.2.1,s.1,()),((((s.2,y.1.1.1.2.1,y.1.1.1.2.2.1,()),y.1.1.2.1,()),()),y.2.1,())))) (fun z=>some (.inr (.inl ((),((((z,y.1.1.1.2.1,y.1.1.1.2.2.1,()),y.1.1.2.1,()),()),()))))):=by kernel_rfl
theorem lo200x2_6 (F:Nat):LcOk Tryz.prog (E200x2 F) 1 (lc200x2_6 F) (cAt (bodyOf Tryz.f200) [1,1,1,1,1,1]):=
 mkL_ok (lp:=[]) (id:=4) (b:=cAt (bodyOf Tryz.f200) (0 :: 0 :: [1,1,1,1,1,1])) cok (cts200x2 F) mixed trivial (by kernel_rfl) (by kernel_rfl) (fun x y s=>((),(),x.2.2.1,s.1,())) (fun x y s=>((((s.2,y.1.1.1.2.1,y.1.1.1.2.2.1,()),y.1.1.2.1,()),()),y.2.1,())) (fun x y=>rfl) (fun x y=>rfl) (fun x y s kA kO=>L200x2_6c F x.2.2.1 y.2.1 s.1 s.2 kA kO) (fun x y s kA kO=>L200x2_6n F x.2.2.1 y.2.1 s.1 s.2 kA kO) (le200x2_6 F)
def T200x2c (F:Nat) (p0:Nat×Nat) (p1:Vector UInt32 8) (p2:Vector UInt8 64) {β:Type} (k:((Vector UInt32 8))->Option β):Option β:=
 (Option.bind (iter (fun s=>L200x2_4 F p2 s.1 s.2.1 s.2.2) F ((p0.1,p0.2),(0:Int),(Vector.replicate 64 (0:UInt32)))) fun z166=>(Option.bind (vat p1 0) fun x167=>(Option.bind (vat p1 1) fun x168=>(Option.bind (vat p1 2) fun x169=>(Option.bind (vat p1 3) fun x170=>(Option.bind (vat p1 4) fun x171=>(Option.bind (vat p1 5) fun x172=>(Option.bind (vat p1 6) fun x173=>(Option.bind (vat p1 7) fun x174=>(Option.bind (iter (fun s=>L200x2_5 F z166 s.1 s.2.1 s.2.2.1 s.2.2.2.1 s.2.2.2.2.1 s.2.2.2.2.2.1 s.2.2.2.2.2.2.1 s.2.2.2.2.2.2.2.1 s.2.2.2.2.2.2.2.2) F (x167,x168,x169,x170,x171,x172,x173,x174,(0:Int))) fun z208=>(Option.bind (iter (fun s=>L200x2_6 F (#v[z208.1,z208.2.1,z208.2.2.1,z208.2.2.2.1,z208.2.2.2.2.1,z208.2.2.2.2.2.1,z208.2.2.2.2.2.2.1,z208.2.2.2.2.2.2.2]:Vector UInt32 8) p1 s.1 s.2) F ((0:Int),p1)) fun z224=>(k z224))))))))))))
def T200x2 (F:Nat) (p0:Nat×Nat) (p1:Vector UInt32 8) (p2:Vector UInt8 64):Option ((Vector UInt32 8)):=T200x2c F p0 p1 p2 some
theorem T200x2n (F:Nat) (p0:Nat×Nat) (p1:Vector UInt32 8) (p2:Vector UInt8 64) {β:Type} (k:((Vector UInt32 8))->Option β):T200x2c F p0 p1 p2 k=(T200x2 F p0 p1 p2).bind k:=by
 simp only [T200x2,T200x2c,Option.bind_assoc,cond_bind,Option.bind_some,Option.bind_none,elimS_bind]
abbrev cA200x2:List Sh:=[(.pt 0 [0,0]),(.ap 0 [0,0,1])]
abbrev cB200x2:List Sh:=[]
abbrev cT200x2:List TSh:=[.blk 230 (.pr (.pr (.pr (.ar 8 .u32) (.pr (.ar 64 .u8) (.pr .i .un))) (.pr (.ar 64 .u8) .un)) .un)]
abbrev cU200x2:List TSh:=[.blk 230 (.pr (.pr (.pr (.ar 8 .u32) (.pr (.ar 64 .u8) (.pr .i .un))) (.pr (.ar 64 .u8) .un)) .un)]
def ct200x2 (F:Nat):Ct:=mkC 1 cA200x2 cT200x2 cB200x2 cU200x2 (fun x y=>T200x2 F x.2.1 y.1.1.1.1 y.1.1.1.2.1) (fun x y (z:(Vector UInt32 8))=>((),((((z,y.1.1.1.2.1,y.1.1.1.2.2.1,()),y.1.1.2.1,()),()),())))
theorem eq200x2 (F:Nat) (x:dens cA200x2) (y:tdens cT200x2):sev (E200x2 F) 1 [([1,0,1],lc200x2_4 F),([1,0,1,1,1,1],lc200x2_5 F),([1,1,1,1,1,1],lc200x2_6 F)] (bodyOf Tryz.f200) [] (mkSt (rng 2) cA200x2 cT200x2 x y) (kFn (E200x2 F) 1 Tryz.f200.results.toList cB200x2 cU200x2 fun p q=>some (p,q)) =
  T200x2c F x.2.1 y.1.1.1.1 y.1.1.1.2.1 (fun z=>some ((),((((z,y.1.1.1.2.1,y.1.1.1.2.2.1,()),y.1.1.2.1,()),()),()))):=by kernel_rfl
theorem ok200x2 (F:Nat):Sound Tryz.prog cfg 200 (ct200x2 F):=
 mkC_ok (E:=E200x2 F) (lp:=[([1,0,1],lc200x2_4 F),([1,0,1,1,1,1],lc200x2_5 F),([1,1,1,1,1,1],lc200x2_6 F)]) (code:=bodyOf Tryz.f200) Tryz.func200 rfl Tryz.ntmps200 rfl rfl cok (cts200x2 F) mixed ⟨lo200x2_4 F,⟨lo200x2_5 F,⟨lo200x2_6 F,trivial⟩⟩⟩ (by kernel_rfl) (fun x y k=>T200x2c F x.2.1 y.1.1.1.1 y.1.1.1.2.1 k) (fun x y k=>T200x2n F x.2.1 y.1.1.1.1 y.1.1.1.2.1 k) (eq200x2 F)
def ord200x3:Nat->List (Tag×Nat)
 | 6=>[(.p,0),(.p,1),(.p,2),(.r,3),(.p,4),(.p,5),(.p,6),(.p,7),(.r,8),(.p,9),(.p,10),(.p,11),(.p,12),(.p,13),(.r,14),(.p,15),(.p,16),(.p,17),(.p,18),(.p,19),(.r,20),(.p,21),(.p,22),(.p,23),(.w,24)]
 | 7=>[(.p,0),(.p,1),(.p,2),(.r,3),(.p,4),(.p,5),(.p,6),(.r,7),(.p,8),(.p,9)]
 | 10=>[(.p,0),(.p,1),(.p,2),(.p,3),(.p,4),(.r,5),(.p,6),(.p,7),(.p,8),(.p,9),(.p,10),(.p,11),(.r,12),(.p,13),(.p,14),(.w,15)]
 | 13=>[(.p,0),(.r,1),(.p,2),(.r,3),(.p,4),(.r,5),(.p,6),(.r,7),(.p,8),(.r,9),(.p,10),(.r,11),(.p,12),(.r,13),(.p,14),(.r,15),(.p,16),(.p,17),(.p,18),(.p,19),(.p,20),(.p,21),(.p,22),(.p,23)]
 | 19=>[(.p,0),(.p,1),(.p,2),(.p,3),(.p,4),(.p,5),(.p,6),(.p,7),(.p,8),(.p,9),(.p,10),(.p,11),(.p,12),(.p,13),(.r,14),(.p,15),(.p,16),(.p,17),(.r,18),(.p,19),(.p,20)]
 | 26=>[(.p,0),(.p,1),(.p,2),(.p,3),(.r,4),(.p,5),(.p,6),(.p,7),(.p,8),(.p,9),(.w,10)]
 | _=>[]
def al200x3:Nat->Option Nat
 | _=>none
def ms200x3:Nat->Option (List (Option Tag×Nat×List Nat))
 | _=>none
def E200x3 (F:Nat):Ev:=⟨cfg,212,ctOf [(201,ct201 F)],ord200x3,ctOf [],al200x3,ms200x3⟩
theorem cts200x3 (F:Nat):CtsOk Tryz.prog (E200x3 F):=cts_of (l:=[(201,ct201 F)]) (l':=[]) rfl rfl ⟨⟨ok201 F,_,Tryz.func201,rfl,rfl⟩,trivial⟩ trivial
def L200x3_4c (F:Nat) (y105:List UInt8) (y106:Int) (y111:Vector UInt32 64) {β:Type} (kA:(Int×(Vector UInt32 64))->Option β) (kO:((Vector UInt32 64))->Option β):Option β:=
 (bif (decide (y106 < (64:Int))) then (bif (decide (y106 < (16:Int))) then (Option.bind (gsl y105 (w64 ((4:Int) * y106)) (w64 ((w64 ((4:Int) * y106)) + (4:Int)))) fun x131=>(Option.bind (ix x131 (0:Int)) fun x132=>(Option.bind (ix x131 (1:Int)) fun x133=>(Option.bind (ix x131 (2:Int)) fun x134=>(Option.bind (ix x131 (3:Int)) fun x135=>(Option.bind (inb 64 y106) fun x136=>(kA ((w64 (y106 + (1:Int))),(Vector.setIfInBounds y111 x136 ((((shl32 (x132.toUInt32) ((UInt64.ofNat 24).toNat)) ||| (shl32 (x133.toUInt32) ((UInt64.ofNat 16).toNat))) ||| (shl32 (x134.toUInt32) ((UInt64.ofNat 8).toNat))) ||| (x135.toUInt32))))))))))) else (Option.bind (inb 64 (w64 (y106 - (2:Int)))) fun x137=>(Option.bind (vat y111 x137) fun x138=>(Option.bind (inb 64 (w64 (y106 - (15:Int)))) fun x139=>(Option.bind (vat y111 x139) fun x140=>(Option.bind (T201 F x138 (-17:Int)) fun z141=>(Option.bind (T201 F x138 (-19:Int)) fun z142=>(Option.bind (T201 F x140 (-7:Int)) fun z143=>(Option.bind (T201 F x140 (-18:Int)) fun z144=>(Option.bind (inb 64 (w64 (y106 - (7:Int)))) fun x145=>(Option.bind (vat y111 x145) fun x146=>(Option.bind (inb 64 (w64 (y106 - (16:Int)))) fun x147=>(Option.bind (vat y111 x147) fun x148=>(Option.bind (inb 64 y106) fun x149=>(kA ((w64 (y106 + (1:Int))),(Vector.setIfInBounds y111 x149 (((((z141 ^^^ z142) ^^^ (shr32 x138 ((UInt64.ofNat 10).toNat))) + x146) + ((z143 ^^^ z144) ^^^ (shr32 x140 ((UInt64.ofNat 3).toNat)))) + x148)))))))))))))))))) else (kO y111))
def L200x3_4 (F:Nat) (y105:List UInt8) (y106:Int) (y111:Vector UInt32 64):Option ((Int×(Vector UInt32 64)) ⊕ ((Vector UInt32 64))):=L200x3_4c F y105 y106 y111 (fun s=>some (.inl s)) (fun z=>some (.inr z))
theorem L200x3_4n (F:Nat) (y105:List UInt8) (y106:Int) (y111:Vector UInt32 64) {β:Type} (kA:(Int×(Vector UInt32 64))->Option β) (kO:((Vector UInt32 64))->Option β):L200x3_4c F y105 y106 y111 kA kO=(L200x3_4 F y105 y106 y111).bind (elimS kA kO):=by
 simp only [L200x3_4,L200x3_4c,Option.bind_assoc,cond_bind,Option.bind_some,Option.bind_none,elimS_l,elimS_r,elimS_bind]
abbrev sA200x3_4:List Sh:=[(.pt 0 [0,0]),(.ro .u8),(.pt 1 []),.i]
abbrev sAp1200x3_4:List Sh:=[(.pt 0 [0,0]),(.pt 1 [])]
abbrev sT200x3_4:List TSh:=[.blk 230 (.pr (.pr (.pr (.ar 8 .u32) (.pr (.ar 64 .u8) (.pr .i .un))) (.pr (.ar 64 .u8) .un)) .un),.blk 231 (.ar 64 .u32)]
abbrev sTp1200x3_4:List TSh:=[.blk 230 (.pr (.pr (.pr (.ar 8 .u32) (.pr (.ar 64 .u8) (.pr .i .un))) (.pr (.ar 64 .u8) .un)) .un),.blk 231 (.ar 64 .u32)]
def lc200x3_4 (F:Nat):Lc:=mkL [0,1,4,27] sA200x3_4 sT200x3_4 [0,4] sAp1200x3_4 sTp1200x3_4 F (fun x y (s:Int×(Vector UInt32 64))=>L200x3_4 F x.2.1 s.1 s.2) (fun x y=>(x.2.2.2.1,y.2.1)) (fun x y (z:(Vector UInt32 64))=>(((),(),()),((((y.1.1.1.1,y.1.1.1.2.1,y.1.1.1.2.2.1,()),y.1.1.2.1,()),()),z,())))
theorem le200x3_4 (F:Nat) (x:dens sA200x3_4) (y:tdens sT200x3_4) (s:Int×(Vector UInt32 64)):sev (E200x3 F) 1 [] (cAt (bodyOf Tryz.f200) (0 :: 0 :: [1,0,1])) (0 :: 0 :: [1,0,1]) (mkSt [0,1,4,27] sA200x3_4 sT200x3_4 ((),x.2.1,(),s.1,()) ((((y.1.1.1.1,y.1.1.1.2.1,y.1.1.1.2.2.1,()),y.1.1.2.1,()),()),s.2,())) (kLoop 1 [0,1,4,27] sA200x3_4 sT200x3_4 [0,4] sAp1200x3_4 sTp1200x3_4 [] [] [] 0 (fun x y=>some (.inl (x,y))) (fun x y=>some (.inr (.inl (x,y)))) (fun x y=>some (.inr (.inr (x,y))))) =
  L200x3_4c (β:=Full sA200x3_4 sT200x3_4 sAp1200x3_4 sTp1200x3_4 [] []) F x.2.1 s.1 s.2 (fun s=>some (.inl (((),x.2.1,(),s.1,()),((((y.1.1.1.1,y.1.1.1.2.1,y.1.1.1.2.2.1,()),y.1.1.2.1,()),()),s.2,())))) (fun z=>some (.inr (.inl (((),(),()),((((y.1.1.1.1,y.1.1.1.2.1,y.1.1.1.2.2.1,()),y.1.1.2.1,()),()),z,()))))):=by kernel_rfl
theorem lo200x3_4 (F:Nat):LcOk Tryz.prog (E200x3 F) 1 (lc200x3_4 F) (cAt (bodyOf Tryz.f200) [1,0,1]):=
 mkL_ok (lp:=[]) (id:=0) (b:=cAt (bodyOf Tryz.f200) (0 :: 0 :: [1,0,1])) cok (cts200x3 F) mixed trivial (by kernel_rfl) (by kernel_rfl) (fun x y s=>((),x.2.1,(),s.1,())) (fun x y s=>((((y.1.1.1.1,y.1.1.1.2.1,y.1.1.1.2.2.1,()),y.1.1.2.1,()),()),s.2,())) (fun x y=>rfl) (fun x y=>rfl) (fun x y s kA kO=>L200x3_4c F x.2.1 s.1 s.2 kA kO) (fun x y s kA kO=>L200x3_4n F x.2.1 s.1 s.2 kA kO) (le200x3_4 F)
def L200x3_5c (F:Nat) (y172:Vector UInt32 64) (y159:UInt32) (y160:UInt32) (y161:UInt32) (y162:UInt32) (y163:UInt32) (y164:UInt32) (y165:UInt32) (y166:UInt32) (y167:Int) {β:Type} (kA:(UInt32×UInt32×UInt32×UInt32×UInt32×UInt32×UInt32×UInt32×Int)->Option β) (kO:(UInt32×UInt32×UInt32×UInt32×UInt32×UInt32×UInt32×UInt32)->Option β):Option β:=
 (bif (decide (y167 < (64:Int))) then (Option.bind (T201 F y163 (-6:Int)) fun z183=>(Option.bind (T201 F y163 (-11:Int)) fun z184=>(Option.bind (T201 F y163 (-25:Int)) fun z185=>(Option.bind (T201 F y159 (-2:Int)) fun z186=>(Option.bind (T201 F y159 (-13:Int)) fun z187=>(Option.bind (T201 F y159 (-22:Int)) fun z188=>(Option.bind (vix (gv2) y167) fun x189=>(Option.bind (inb 64 y167) fun x190=>(Option.bind (vat y172 x190) fun x191=>(kA ((((((y166 + ((z183 ^^^ z184) ^^^ z185)) + ((y163 &&& y164) ^^^ ((~~~y163) &&& y165))) + x189) + x191) + (((z186 ^^^ z187) ^^^ z188) + (((y159 &&& y160) ^^^ (y159 &&& y161)) ^^^ (y160 &&& y161)))),y159,y160,y161,(y162 + ((((y166 + ((z183 ^^^ z184) ^^^ z185)) + ((y163 &&& y164) ^^^ ((~~~y163) &&& y165))) + x189) + x191)),y163,y164,y165,(w64 (y167 + (1:Int)))))))))))))) else (kO (y159,y160,y161,y162,y163,y164,y165,y166)))
def L200x3_5 (F:Nat) (y172:Vector UInt32 64) (y159:UInt32) (y160:UInt32) (y161:UInt32) (y162:UInt32) (y163:UInt32) (y164:UInt32) (y165:UInt32) (y166:UInt32) (y167:Int):Option ((UInt32×UInt32×UInt32×UInt32×UInt32×UInt32×UInt32×UInt32×Int) ⊕ (UInt32×UInt32×UInt32×UInt32×UInt32×UInt32×UInt32×UInt32)):=L200x3_5c F y172 y159 y160 y161 y162 y163 y164 y165 y166 y167 (fun s=>some (.inl s)) (fun z=>some (.inr z))
theorem L200x3_5n (F:Nat) (y172:Vector UInt32 64) (y159:UInt32) (y160:UInt32) (y161:UInt32) (y162:UInt32) (y163:UInt32) (y164:UInt32) (y165:UInt32) (y166:UInt32) (y167:Int) {β:Type} (kA:(UInt32×UInt32×UInt32×UInt32×UInt32×UInt32×UInt32×UInt32×Int)->Option β) (kO:(UInt32×UInt32×UInt32×UInt32×UInt32×UInt32×UInt32×UInt32)->Option β):L200x3_5c F y172 y159 y160 y161 y162 y163 y164 y165 y166 y167 kA kO=(L200x3_5 F y172 y159 y160 y161 y162 y163 y164 y165 y166 y167).bind (elimS kA kO):=by
 simp only [L200x3_5,L200x3_5c,Option.bind_assoc,cond_bind,Option.bind_some,Option.bind_none,elimS_l,elimS_r,elimS_bind]
abbrev sA200x3_5:List Sh:=[(.pt 0 [0,0]),(.pt 1 []),(.pt 2 []),.u32,.u32,.u32,.u32,.u32,.u32,.u32,.u32,.i]
abbrev sAp1200x3_5:List Sh:=[(.pt 0 [0,0]),(.pt 1 []),.u32,.u32,.u32,.u32,.u32,.u32,.u32,.u32]
abbrev sT200x3_5:List TSh:=[.blk 230 (.pr (.pr (.pr (.ar 8 .u32) (.pr (.ar 64 .u8) (.pr .i .un))) (.pr (.ar 64 .u8) .un)) .un),.blk 231 (.ar 64 .u32),.blk 192 (.ar 8 .u32)]
abbrev sTp1200x3_5:List TSh:=[.blk 230 (.pr (.pr (.pr (.ar 8 .u32) (.pr (.ar 64 .u8) (.pr .i .un))) (.pr (.ar 64 .u8) .un)) .un),.blk 192 (.ar 8 .u32)]
def lc200x3_5 (F:Nat):Lc:=mkL [0,4,11,12,13,14,15,16,17,18,19,123] sA200x3_5 sT200x3_5 [0,11,12,13,14,15,16,17,18,19] sAp1200x3_5 sTp1200x3_5 F (fun x y (s:UInt32×UInt32×UInt32×UInt32×UInt32×UInt32×UInt32×UInt32×Int)=>L200x3_5 F y.2.1 s.1 s.2.1 s.2.2.1 s.2.2.2.1 s.2.2.2.2.1 s.2.2.2.2.2.1 s.2.2.2.2.2.2.1 s.2.2.2.2.2.2.2.1 s.2.2.2.2.2.2.2.2) (fun x y=>(x.2.2.2.1,x.2.2.2.2.1,x.2.2.2.2.2.1,x.2.2.2.2.2.2.1,x.2.2.2.2.2.2.2.1,x.2.2.2.2.2.2.2.2.1,x.2.2.2.2.2.2.2.2.2.1,x.2.2.2.2.2.2.2.2.2.2.1,x.2.2.2.2.2.2.2.2.2.2.2.1)) (fun x y (z:UInt32×UInt32×UInt32×UInt32×UInt32×UInt32×UInt32×UInt32)=>(((),(),z.1,z.2.1,z.2.2.1,z.2.2.2.1,z.2.2.2.2.1,z.2.2.2.2.2.1,z.2.2.2.2.2.2.1,z.2.2.2.2.2.2.2,()),((((y.1.1.1.1,y.1.1.1.2.1,y.1.1.1.2.2.1,()),y.1.1.2.1,()),()),y.2.2.1,())))
theorem le200x3_5 (F:Nat) (x:dens sA200x3_5) (y:tdens sT200x3_5) (s:UInt32×UInt32×UInt32×UInt32×UInt32×UInt32×UInt32×UInt32×Int):sev (E200x3 F) 1 [] (cAt (bodyOf Tryz.f200) (0 :: 0 :: [1,0,1,1,1,1])) (0 :: 0 :: [1,0,1,1,1,1]) (mkSt [0,4,11,12,13,14,15,16,17,18,19,123] sA200x3_5 sT200x3_5 ((),(),(),s.1,s.2.1,s.2.2.1,s.2.2.2.1,s.2.2.2.2.1,s.2.2.2.2.2.1,s.2.2.2.2.2.2.1,s.2.2.2.2.2.2.2.1,s.2.2.2.2.2.2.2.2,()) ((((y.1.1.1.1,y.1.1.1.2.1,y.1.1.1.2.2.1,()),y.1.1.2.1,()),()),y.2.1,y.2.2.1,())) (kLoop 1 [0,4,11,12,13,14,15,16,17,18,19,123] sA200x3_5 sT200x3_5 [0,11,12,13,14,15,16,17,18,19] sAp1200x3_5 sTp1200x3_5 [] [] [] 2 (fun x y=>some (.inl (x,y))) (fun x y=>some (.inr (.inl (x,y)))) (fun x y=>some (.inr (.inr (x,y))))) =
  L200x3_5c (β:=Full sA200x3_5 sT200x3_5 sAp1200x3_5 sTp1200x3_5 [] []) F y.2.1 s.1 s.2.1 s.2.2.1 s.2.2.2.1 s.2.2.2.2.1 s.2.2.2.2.2.1 s.2.2.2.2.2.2.1 s.2.2.2.2.2.2.2.1 s.2.2.2.2.2.2.2.2 (fun s=>some (.inl (((),(),(),s.1,s.2.1,s.2.2.1,s.2.2.2.1,s.2.2.2.2.1,s.2.2.2.2.2.1,s.2.2.2.2.2.2.1,s.2.2.2.2.2.2.2.1,s.2.2.2.2.2.2.2.2,()),((((y.1.1.1.1,y.1.1.1.2.1,y.1.1.1.2.2.1,()),y.1.1.2.1,()),()),y.2.1,y.2.2.1,())))) (fun z=>some (.inr (.inl (((),(),z.1,z.2.1,z.2.2.1,z.2.2.2.1,z.2.2.2.2.1,z.2.2.2.2.2.1,z.2.2.2.2.2.2.1,z.2.2.2.2.2.2.2,()),((((y.1.1.1.1,y.1.1.1.2.1,y.1.1.1.2.2.1,()),y.1.1.2.1,()),()),y.2.2.1,()))))):=by kernel_rfl
theorem lo200x3_5 (F:Nat):LcOk Tryz.prog (E200x3 F) 1 (lc200x3_5 F) (cAt (bodyOf Tryz.f200) [1,0,1,1,1,1]):=
 mkL_ok (lp:=[]) (id:=2) (b:=cAt (bodyOf Tryz.f200) (0 :: 0 :: [1,0,1,1,1,1])) cok (cts200x3 F) mixed trivial (by kernel_rfl) (by kernel_rfl) (fun x y s=>((),(),(),s.1,s.2.1,s.2.2.1,s.2.2.2.1,s.2.2.2.2.1,s.2.2.2.2.2.1,s.2.2.2.2.2.2.1,s.2.2.2.2.2.2.2.1,s.2.2.2.2.2.2.2.2,())) (fun x y s=>((((y.1.1.1.1,y.1.1.1.2.1,y.1.1.1.2.2.1,()),y.1.1.2.1,()),()),y.2.1,y.2.2.1,())) (fun x y=>rfl) (fun x y=>rfl) (fun x y s kA kO=>L200x3_5c F y.2.1 s.1 s.2.1 s.2.2.1 s.2.2.2.1 s.2.2.2.2.1 s.2.2.2.2.2.1 s.2.2.2.2.2.2.1 s.2.2.2.2.2.2.2.1 s.2.2.2.2.2.2.2.2 kA kO) (fun x y s kA kO=>L200x3_5n F y.2.1 s.1 s.2.1 s.2.2.1 s.2.2.2.1 s.2.2.2.2.1 s.2.2.2.2.2.1 s.2.2.2.2.2.2.1 s.2.2.2.2.2.2.2.1 s.2.2.2.2.2.2.2.2 kA kO) (le200x3_5 F)
def L200x3_6c (F:Nat) (y193:Vector UInt32 8) (y199:Vector UInt32 8) (y194:Int) (y195:Vector UInt32 8) {β:Type} (kA:(Int×(Vector UInt32 8))->Option β) (kO:((Vector UInt32 8))->Option β):Option β:=
 (bif (decide (y194 < (8:Int))) then (Option.bind (vix y193 y194) fun x204=>(Option.bind (inb 8 y194) fun x205=>(Option.bind (vat y199 x205) fun x206=>(Option.bind (inb 8 y194) fun x207=>(kA ((w64 (y194 + (1:Int))),(Vector.setIfInBounds y195 x207 (x206 + x204)))))))) else (kO y195))
def L200x3_6 (F:Nat) (y193:Vector UInt32 8) (y199:Vector UInt32 8) (y194:Int) (y195:Vector UInt32 8):Option ((Int×(Vector UInt32 8)) ⊕ ((Vector UInt32 8))):=L200x3_6c F y193 y199 y194 y195 (fun s=>some (.inl s)) (fun z=>some (.inr z))
theorem L200x3_6n (F:Nat) (y193:Vector UInt32 8) (y199:Vector UInt32 8) (y194:Int) (y195:Vector UInt32 8) {β:Type} (kA:(Int×(Vector UInt32 8))->Option β) (kO:((Vector UInt32 8))->Option β):L200x3_6c F y193 y199 y194 y195 kA kO=(L200x3_6 F y193 y199 y194 y195).bind (elimS kA kO):=by
 simp only [L200x3_6,L200x3_6c,Option.bind_assoc,cond_bind,Option.bind_some,Option.bind_none,elimS_l,elimS_r,elimS_bind]
abbrev sA200x3_6:List Sh:=[(.pt 0 [0,0]),(.pt 1 []),(.ar 8 .u32),.i]
abbrev sAp1200x3_6:List Sh:=[]
abbrev sT200x3_6:List TSh:=[.blk 230 (.pr (.pr (.pr (.ar 8 .u32) (.pr (.ar 64 .u8) (.pr .i .un))) (.pr (.ar 64 .u8) .un)) .un),.blk 192 (.ar 8 .u32)]
abbrev sTp1200x3_6:List TSh:=[.blk 230 (.pr (.pr (.pr (.ar 8 .u32) (.pr (.ar 64 .u8) (.pr .i .un))) (.pr (.ar 64 .u8) .un)) .un)]
def lc200x3_6 (F:Nat):Lc:=mkL [0,11,196,197] sA200x3_6 sT200x3_6 [] sAp1200x3_6 sTp1200x3_6 F (fun x y (s:Int×(Vector UInt32 8))=>L200x3_6 F x.2.2.1 y.2.1 s.1 s.2) (fun x y=>(x.2.2.2.1,y.1.1.1.1)) (fun x y (z:(Vector UInt32 8))=>((),((((z,y.1.1.1.2.1,y.1.1.1.2.2.1,()),y.1.1.2.1,()),()),())))
theorem le200x3_6 (F:Nat) (x:dens sA200x3_6) (y:tdens sT200x3_6) (s:Int×(Vector UInt32 8)):sev (E200x3 F) 1 [] (cAt (bodyOf Tryz.f200) (0 :: 0 :: [1,1,1,1,1,1])) (0 :: 0 :: [1,1,1,1,1,1]) (mkSt [0,11,196,197] sA200x3_6 sT200x3_6 ((),(),x.2.2.1,s.1,()) ((((s.2,y.1.1.1.2.1,y.1.1.1.2.2.1,()),y.1.1.2.1,()),()),y.2.1,())) (kLoop 1 [0,11,196,197] sA200x3_6 sT200x3_6 [] sAp1200x3_6 sTp1200x3_6 [] [] [] 4 (fun x y=>some (.inl (x,y))) (fun x y=>some (.inr (.inl (x,y)))) (fun x y=>some (.inr (.inr (x,y))))) =
  L200x3_6c (β:=Full sA200x3_6 sT200x3_6 sAp1200x3_6 sTp1200x3_6 [] []) F x.2.2.1 y.2.1 s.1 s.2 (fun s=>some (.inl (((),(),x.2.2.1,s.1,()),((((s.2,y.1.1.1.2.1,y.1.1.1.2.2.1,()),y.1.1.2.1,()),()),y.2.1,())))) (fun z=>some (.inr (.inl ((),((((z,y.1.1.1.2.1,y.1.1.1.2.2.1,()),y.1.1.2.1,()),()),()))))):=by kernel_rfl
theorem lo200x3_6 (F:Nat):LcOk Tryz.prog (E200x3 F) 1 (lc200x3_6 F) (cAt (bodyOf Tryz.f200) [1,1,1,1,1,1]):=
 mkL_ok (lp:=[]) (id:=4) (b:=cAt (bodyOf Tryz.f200) (0 :: 0 :: [1,1,1,1,1,1])) cok (cts200x3 F) mixed trivial (by kernel_rfl) (by kernel_rfl) (fun x y s=>((),(),x.2.2.1,s.1,())) (fun x y s=>((((s.2,y.1.1.1.2.1,y.1.1.1.2.2.1,()),y.1.1.2.1,()),()),y.2.1,())) (fun x y=>rfl) (fun x y=>rfl) (fun x y s kA kO=>L200x3_6c F x.2.2.1 y.2.1 s.1 s.2 kA kO) (fun x y s kA kO=>L200x3_6n F x.2.2.1 y.2.1 s.1 s.2 kA kO) (le200x3_6 F)
def T200x3c (F:Nat) (p0:List UInt8) (p1:Vector UInt32 8) {β:Type} (k:((Vector UInt32 8))->Option β):Option β:=
 (Option.bind (iter (fun s=>L200x3_4 F p0 s.1 s.2) F ((0:Int),(Vector.replicate 64 (0:UInt32)))) fun z150=>(Option.bind (vat p1 0) fun x151=>(Option.bind (vat p1 1) fun x152=>(Option.bind (vat p1 2) fun x153=>(Option.bind (vat p1 3) fun x154=>(Option.bind (vat p1 4) fun x155=>(Option.bind (vat p1 5) fun x156=>(Option.bind (vat p1 6) fun x157=>(Option.bind (vat p1 7) fun x158=>(Option.bind (iter (fun s=>L200x3_5 F z150 s.1 s.2.1 s.2.2.1 s.2.2.2.1 s.2.2.2.2.1 s.2.2.2.2.2.1 s.2.2.2.2.2.2.1 s.2.2.2.2.2.2.2.1 s.2.2.2.2.2.2.2.2) F (x151,x152,x153,x154,x155,x156,x157,x158,(0:Int))) fun z192=>(Option.bind (iter (fun s=>L200x3_6 F (#v[z192.1,z192.2.1,z192.2.2.1,z192.2.2.2.1,z192.2.2.2.2.1,z192.2.2.2.2.2.1,z192.2.2.2.2.2.2.1,z192.2.2.2.2.2.2.2]:Vector UInt32 8) p1 s.1 s.2) F ((0:Int),p1)) fun z208=>(k z208))))))))))))
def T200x3 (F:Nat) (p0:List UInt8) (p1:Vector UInt32 8):Option ((Vector UInt32 8)):=T200x3c F p0 p1 some
theorem T200x3n (F:Nat) (p0:List UInt8) (p1:Vector UInt32 8) {β:Type} (k:((Vector UInt32 8))->Option β):T200x3c F p0 p1 k=(T200x3 F p0 p1).bind k:=by
 simp only [T200x3,T200x3c,Option.bind_assoc,cond_bind,Option.bind_some,Option.bind_none,elimS_bind]
abbrev cA200x3:List Sh:=[(.pt 0 [0,0]),(.ro .u8)]
abbrev cB200x3:List Sh:=[]
abbrev cT200x3:List TSh:=[.blk 230 (.pr (.pr (.pr (.ar 8 .u32) (.pr (.ar 64 .u8) (.pr .i .un))) (.pr (.ar 64 .u8) .un)) .un)]
abbrev cU200x3:List TSh:=[.blk 230 (.pr (.pr (.pr (.ar 8 .u32) (.pr (.ar 64 .u8) (.pr .i .un))) (.pr (.ar 64 .u8) .un)) .un)]
def ct200x3 (F:Nat):Ct:=mkC 1 cA200x3 cT200x3 cB200x3 cU200x3 (fun x y=>T200x3 F x.2.1 y.1.1.1.1) (fun x y (z:(Vector UInt32 8))=>((),((((z,y.1.1.1.2.1,y.1.1.1.2.2.1,()),y.1.1.2.1,()),()),())))
theorem eq200x3 (F:Nat) (x:dens cA200x3) (y:tdens cT200x3):sev (E200x3 F) 1 [([1,0,1],lc200x3_4 F),([1,0,1,1,1,1],lc200x3_5 F),([1,1,1,1,1,1],lc200x3_6 F)] (bodyOf Tryz.f200) [] (mkSt (rng 2) cA200x3 cT200x3 x y) (kFn (E200x3 F) 1 Tryz.f200.results.toList cB200x3 cU200x3 fun p q=>some (p,q)) =
  T200x3c F x.2.1 y.1.1.1.1 (fun z=>some ((),((((z,y.1.1.1.2.1,y.1.1.1.2.2.1,()),y.1.1.2.1,()),()),()))):=by kernel_rfl
theorem ok200x3 (F:Nat):Sound Tryz.prog cfg 200 (ct200x3 F):=
 mkC_ok (E:=E200x3 F) (lp:=[([1,0,1],lc200x3_4 F),([1,0,1,1,1,1],lc200x3_5 F),([1,1,1,1,1,1],lc200x3_6 F)]) (code:=bodyOf Tryz.f200) Tryz.func200 rfl Tryz.ntmps200 rfl rfl cok (cts200x3 F) mixed ⟨lo200x3_4 F,⟨lo200x3_5 F,⟨lo200x3_6 F,trivial⟩⟩⟩ (by kernel_rfl) (fun x y k=>T200x3c F x.2.1 y.1.1.1.1 k) (fun x y k=>T200x3n F x.2.1 y.1.1.1.1 k) (eq200x3 F)
def ord176x1:Nat->List (Tag×Nat)
 | _=>[]
def al176x1:Nat->Option Nat
 | _=>none
def ms176x1:Nat->Option (List (Option Tag×Nat×List Nat))
 | _=>none
def E176x1 (F:Nat):Ev:=⟨cfg,57,ctOf [(200,ct200x2 F),(200,ct200x3 F)],ord176x1,ctOf [],al176x1,ms176x1⟩
theorem cts176x1 (F:Nat):CtsOk Tryz.prog (E176x1 F):=cts_of (l:=[(200,ct200x2 F),(200,ct200x3 F)]) (l':=[]) rfl rfl ⟨⟨ok200x2 F,_,Tryz.func200,rfl,rfl⟩,⟨⟨ok200x3 F,_,Tryz.func200,rfl,rfl⟩,trivial⟩⟩ trivial
def L176x1_3c (F:Nat) (y30:List UInt8) (y31:Int) (y32:Bool) (y33:Vector UInt32 8) (y34:Vector UInt8 64) {β:Type} (kO:((List UInt8)×(Vector UInt32 8)×(Vector UInt8 64))->Option β) (kR:((Vector UInt8 64))->Option β):Option β:=
 (bif y32 then (Option.bind (gslb 64 y31 ((64:Nat):Int)) fun x41=>(Option.bind (gsl y30 ((Nat.min y30.length (x41.2 - x41.1)):Int) (y30.length:Int)) fun x42=>(bif (decide ((w64 (y31 + ((Nat.min y30.length (x41.2 - x41.1)):Int))) < (64:Int))) then (kR (vspl y34 x41.1 y30 (Nat.min y30.length (x41.2 - x41.1)))) else (Option.bind (gslb 64 (0:Int) ((64:Nat):Int)) fun x43=>(Option.bind (T200x2 F (x43.1,x43.2) y33 (vspl y34 x41.1 y30 (Nat.min y30.length (x41.2 - x41.1)))) fun z44=>(kO (x42,z44,(vspl y34 x41.1 y30 (Nat.min y30.length (x41.2 - x41.1)))))))))) else (kO (y30,y33,y34)))
def L176x1_3 (F:Nat) (y30:List UInt8) (y31:Int) (y32:Bool) (y33:Vector UInt32 8) (y34:Vector UInt8 64):Option (((List UInt8)×(Vector UInt32 8)×(Vector UInt8 64)) ⊕ ((Vector UInt8 64))):=L176x1_3c F y30 y31 y32 y33 y34 (fun z=>some (.inl z)) (fun z=>some (.inr z))
theorem L176x1_3n (F:Nat) (y30:List UInt8) (y31:Int) (y32:Bool) (y33:Vector UInt32 8) (y34:Vector UInt8 64) {β:Type} (kO:((List UInt8)×(Vector UInt32 8)×(Vector UInt8 64))->Option β) (kR:((Vector UInt8 64))->Option β):L176x1_3c F y30 y31 y32 y33 y34 kO kR=(L176x1_3 F y30 y31 y32 y33 y34).bind (elimS kO kR):=by
 simp only [L176x1_3,L176x1_3c,Option.bind_assoc,cond_bind,Option.bind_some,Option.bind_none,elimS_l,elimS_r,elimS_bind]
abbrev sA176x1_3:List Sh:=[(.pt 0 [0,0]),(.ro .u8),.i,.bo]
abbrev sAp1176x1_3:List Sh:=[(.pt 0 [0,0]),(.ro .u8)]
abbrev sAp2176x1_3:List Sh:=[]
abbrev sT176x1_3:List TSh:=[.blk 230 (.pr (.pr (.pr (.ar 8 .u32) (.pr (.ar 64 .u8) (.pr .i .un))) (.pr (.ar 64 .u8) .un)) .un)]
abbrev sTp1176x1_3:List TSh:=[.blk 230 (.pr (.pr (.pr (.ar 8 .u32) (.pr (.ar 64 .u8) (.pr .i .un))) (.pr (.ar 64 .u8) .un)) .un)]
abbrev sTp2176x1_3:List TSh:=[.blk 230 (.pr (.pr (.pr (.ar 8 .u32) (.pr (.ar 64 .u8) (.pr .i .un))) (.pr (.ar 64 .u8) .un)) .un)]
def lc176x1_3 (F:Nat):Lc:=mkK [0,1,4,21] sA176x1_3 sT176x1_3 [0,1] sAp1176x1_3 sTp1176x1_3 [] sAp2176x1_3 sTp2176x1_3 (fun x y=>L176x1_3 F x.2.1 x.2.2.1 x.2.2.2.1 y.1.1.1.1 y.1.1.1.2.1) (fun x y (z:(List UInt8)×(Vector UInt32 8)×(Vector UInt8 64))=>(((),z.1,()),((((z.2.1,z.2.2,y.1.1.1.2.2.1,()),y.1.1.2.1,()),()),()))) (fun x y (z:(Vector UInt8 64))=>((),((((y.1.1.1.1,z,y.1.1.1.2.2.1,()),y.1.1.2.1,()),()),())))
theorem le176x1_3 (F:Nat) (x:dens sA176x1_3) (y:tdens sT176x1_3):sev (E176x1 F) 1 [] (cAt (bodyOf Tryz.f176) [1,0,1,1]) [1,0,1,1] (mkSt [0,1,4,21] sA176x1_3 sT176x1_3 x y) (kJoinR 1 [0,1] sAp1176x1_3 sTp1176x1_3 [] sAp2176x1_3 sTp2176x1_3 (fun x y=>some (.inl (x,y))) (fun x y=>some (.inr (x,y)))) =
  L176x1_3c (β:=(dens sAp1176x1_3×tdens sTp1176x1_3) ⊕ (dens sAp2176x1_3×tdens sTp2176x1_3)) F x.2.1 x.2.2.1 x.2.2.2.1 y.1.1.1.1 y.1.1.1.2.1 (fun z=>some (.inl (((),z.1,()),((((z.2.1,z.2.2,y.1.1.1.2.2.1,()),y.1.1.2.1,()),()),())))) (fun z=>some (.inr ((),((((y.1.1.1.1,z,y.1.1.1.2.2.1,()),y.1.1.2.1,()),()),())))):=by kernel_rfl
theorem lo176x1_3 (F:Nat):LcOk Tryz.prog (E176x1 F) 1 (lc176x1_3 F) (cAt (bodyOf Tryz.f176) [1,0,1,1]):=
 mkK_ok (lp:=[]) cok (cts176x1 F) mixed trivial (by kernel_rfl) (fun x y kO kR=>L176x1_3c F x.2.1 x.2.2.1 x.2.2.2.1 y.1.1.1.1 y.1.1.1.2.1 kO kR) (fun x y kO kR=>L176x1_3n F x.2.1 x.2.2.1 x.2.2.2.1 y.1.1.1.1 y.1.1.1.2.1 kO kR) (le176x1_3 F)
def L176x1_4c (F:Nat) (y46:List UInt8) (y47:Vector UInt32 8) {β:Type} (kA:((List UInt8)×(Vector UInt32 8))->Option β) (kO:((List UInt8)×(Vector UInt32 8))->Option β):Option β:=
 (bif (decide ((64:Int)≤(y46.length:Int))) then (Option.bind (gsl y46 (0:Int) (64:Int)) fun x54=>(Option.bind (T200x3 F x54 y47) fun z55=>(Option.bind (gsl y46 (64:Int) (y46.length:Int)) fun x56=>(kA (x56,z55))))) else (kO (y46,y47)))
def L176x1_4 (F:Nat) (y46:List UInt8) (y47:Vector UInt32 8):Option (((List UInt8)×(Vector UInt32 8)) ⊕ ((List UInt8)×(Vector UInt32 8))):=L176x1_4c F y46 y47 (fun s=>some (.inl s)) (fun z=>some (.inr z))
theorem L176x1_4n (F:Nat) (y46:List UInt8) (y47:Vector UInt32 8) {β:Type} (kA:((List UInt8)×(Vector UInt32 8))->Option β) (kO:((List UInt8)×(Vector UInt32 8))->Option β):L176x1_4c F y46 y47 kA kO=(L176x1_4 F y46 y47).bind (elimS kA kO):=by
 simp only [L176x1_4,L176x1_4c,Option.bind_assoc,cond_bind,Option.bind_some,Option.bind_none,elimS_l,elimS_r,elimS_bind]
abbrev sA176x1_4:List Sh:=[(.pt 0 [0,0]),(.ro .u8)]
abbrev sAp1176x1_4:List Sh:=[(.pt 0 [0,0]),(.ro .u8)]
abbrev sT176x1_4:List TSh:=[.blk 230 (.pr (.pr (.pr (.ar 8 .u32) (.pr (.ar 64 .u8) (.pr .i .un))) (.pr (.ar 64 .u8) .un)) .un)]
abbrev sTp1176x1_4:List TSh:=[.blk 230 (.pr (.pr (.pr (.ar 8 .u32) (.pr (.ar 64 .u8) (.pr .i .un))) (.pr (.ar 64 .u8) .un)) .un)]
def lc176x1_4 (F:Nat):Lc:=mkL [0,1] sA176x1_4 sT176x1_4 [0,1] sAp1176x1_4 sTp1176x1_4 F (fun x y (s:(List UInt8)×(Vector UInt32 8))=>L176x1_4 F s.1 s.2) (fun x y=>(x.2.1,y.1.1.1.1)) (fun x y (z:(List UInt8)×(Vector UInt32 8))=>(((),z.1,()),((((z.2,y.1.1.1.2.1,y.1.1.1.2.2.1,()),y.1.1.2.1,()),()),())))
theorem le176x1_4 (F:Nat) (x:dens sA176x1_4) (y:tdens sT176x1_4) (s:(List UInt8)×(Vector UInt32 8)):sev (E176x1 F) 1 [] (cAt (bodyOf Tryz.f176) (0 :: 0 :: [0,1,1,1])) (0 :: 0 :: [0,1,1,1]) (mkSt [0,1] sA176x1_4 sT176x1_4 ((),s.1,()) ((((s.2,y.1.1.1.2.1,y.1.1.1.2.2.1,()),y.1.1.2.1,()),()),())) (kLoop 1 [0,1] sA176x1_4 sT176x1_4 [0,1] sAp1176x1_4 sTp1176x1_4 [] [] [] 0 (fun x y=>some (.inl (x,y))) (fun x y=>some (.inr (.inl (x,y)))) (fun x y=>some (.inr (.inr (x,y))))) =
  L176x1_4c (β:=Full sA176x1_4 sT176x1_4 sAp1176x1_4 sTp1176x1_4 [] []) F s.1 s.2 (fun s=>some (.inl (((),s.1,()),((((s.2,y.1.1.1.2.1,y.1.1.1.2.2.1,()),y.1.1.2.1,()),()),())))) (fun z=>some (.inr (.inl (((),z.1,()),((((z.2,y.1.1.1.2.1,y.1.1.1.2.2.1,()),y.1.1.2.1,()),()),()))))):=by kernel_rfl
theorem lo176x1_4 (F:Nat):LcOk Tryz.prog (E176x1 F) 1 (lc176x1_4 F) (cAt (bodyOf Tryz.f176) [0,1,1,1]):=
 mkL_ok (lp:=[]) (id:=0) (b:=cAt (bodyOf Tryz.f176) (0 :: 0 :: [0,1,1,1])) cok (cts176x1 F) mixed trivial (by kernel_rfl) (by kernel_rfl) (fun x y s=>((),s.1,())) (fun x y s=>((((s.2,y.1.1.1.2.1,y.1.1.1.2.2.1,()),y.1.1.2.1,()),()),())) (fun x y=>rfl) (fun x y=>rfl) (fun x y s kA kO=>L176x1_4c F s.1 s.2 kA kO) (fun x y s kA kO=>L176x1_4n F s.1 s.2 kA kO) (le176x1_4 F)
def T176x1c (F:Nat) (p0:List UInt8) (p1:Vector UInt32 8) (p2:Vector UInt8 64) (p3:Int) {β:Type} (k:((Vector UInt32 8)×(Vector UInt8 64)×Int)->Option β):Option β:=
 (Option.bind (L176x1_3 F p0 (Int.tmod p3 (64:Int)) (decide ((0:Int) < (Int.tmod p3 (64:Int)))) p1 p2) fun z45=>elimS (fun z45=>(Option.bind (iter (fun s=>L176x1_4 F s.1 s.2) F (z45.1,z45.2.1)) fun z57=>(Option.bind (gslb 64 (0:Int) ((64:Nat):Int)) fun x58=>(k (z57.2,(vspl z45.2.2 x58.1 z57.1 (Nat.min z57.1.length (x58.2 - x58.1))),(w64 (p3 + (p0.length:Int)))))))) (fun z45=>(k (p1,z45,(w64 (p3 + (p0.length:Int)))))) z45)
def T176x1 (F:Nat) (p0:List UInt8) (p1:Vector UInt32 8) (p2:Vector UInt8 64) (p3:Int):Option ((Vector UInt32 8)×(Vector UInt8 64)×Int):=T176x1c F p0 p1 p2 p3 some
theorem T176x1n (F:Nat) (p0:List UInt8) (p1:Vector UInt32 8) (p2:Vector UInt8 64) (p3:Int) {β:Type} (k:((Vector UInt32 8)×(Vector UInt8 64)×Int)->Option β):T176x1c F p0 p1 p2 p3 k=(T176x1 F p0 p1 p2 p3).bind k:=by
 simp only [T176x1,T176x1c,Option.bind_assoc,cond_bind,Option.bind_some,Option.bind_none,elimS_bind]
abbrev cA176x1:List Sh:=[(.pt 0 [0,0]),(.ro .u8)]
abbrev cB176x1:List Sh:=[]
abbrev cT176x1:List TSh:=[.blk 230 (.pr (.pr (.pr (.ar 8 .u32) (.pr (.ar 64 .u8) (.pr .i .un))) (.pr (.ar 64 .u8) .un)) .un)]
abbrev cU176x1:List TSh:=[.blk 230 (.pr (.pr (.pr (.ar 8 .u32) (.pr (.ar 64 .u8) (.pr .i .un))) (.pr (.ar 64 .u8) .un)) .un)]
def ct176x1 (F:Nat):Ct:=mkC 1 cA176x1 cT176x1 cB176x1 cU176x1 (fun x y=>T176x1 F x.2.1 y.1.1.1.1 y.1.1.1.2.1 y.1.1.1.2.2.1) (fun x y (z:(Vector UInt32 8)×(Vector UInt8 64)×Int)=>((),((((z.1,z.2.1,z.2.2,()),y.1.1.2.1,()),()),())))
theorem eq176x1 (F:Nat) (x:dens cA176x1) (y:tdens cT176x1):sev (E176x1 F) 1 [([1,0,1,1],lc176x1_3 F),([0,1,1,1],lc176x1_4 F)] (bodyOf Tryz.f176) [] (mkSt (rng 2) cA176x1 cT176x1 x y) (kFn (E176x1 F) 1 Tryz.f176.results.toList cB176x1 cU176x1 fun p q=>some (p,q)) =
  T176x1c F x.2.1 y.1.1.1.1 y.1.1.1.2.1 y.1.1.1.2.2.1 (fun z=>some ((),((((z.1,z.2.1,z.2.2,()),y.1.1.2.1,()),()),()))):=by kernel_rfl
theorem ok176x1 (F:Nat):Sound Tryz.prog cfg 176 (ct176x1 F):=
 mkC_ok (E:=E176x1 F) (lp:=[([1,0,1,1],lc176x1_3 F),([0,1,1,1],lc176x1_4 F)]) (code:=bodyOf Tryz.f176) Tryz.func176 rfl Tryz.ntmps176 rfl rfl cok (cts176x1 F) mixed ⟨lo176x1_3 F,⟨lo176x1_4 F,trivial⟩⟩ (by kernel_rfl) (fun x y k=>T176x1c F x.2.1 y.1.1.1.1 y.1.1.1.2.1 y.1.1.1.2.2.1 k) (fun x y k=>T176x1n F x.2.1 y.1.1.1.1 y.1.1.1.2.1 y.1.1.1.2.2.1 k) (eq176x1 F)
def ord140:Nat->List (Tag×Nat)
 | 6=>[(.p,3),(.p,4),(.c,5),(.w,0),(.p,1),(.c,2),(.w,6),(.p,7),(.p,8),(.w,9),(.p,10)]
 | 8=>[(.p,0),(.p,1),(.p,2),(.p,3),(.p,4),(.w,5)]
 | _=>[]
def al140:Nat->Option Nat
 | _=>none
def ms140:Nat->Option (List (Option Tag×Nat×List Nat))
 | _=>none
def E140 (F:Nat):Ev:=⟨cfg,38,ctOf [(173,ct173 F),(175,ct175 F),(174,ct174 F),(176,ct176x1 F)],ord140,ctOf [],al140,ms140⟩
theorem cts140 (F:Nat):CtsOk Tryz.prog (E140 F):=cts_of (l:=[(173,ct173 F),(175,ct175 F),(174,ct174 F),(176,ct176x1 F)]) (l':=[]) rfl rfl ⟨⟨ok173 F,_,Tryz.func173,rfl,rfl⟩,⟨⟨ok175 F,_,Tryz.func175,rfl,rfl⟩,⟨⟨ok174 F,_,Tryz.func174,rfl,rfl⟩,⟨⟨ok176x1 F,_,Tryz.func176,rfl,rfl⟩,trivial⟩⟩⟩⟩ trivial
def T140c (F:Nat) (p0:List UInt8) {β:Type} (k:((Vector UInt32 8)×(Vector UInt8 64)×Int×(Vector UInt8 64))->Option β):Option β:=
 (bif (decide ((64:Int) < (p0.length:Int))) then (Option.bind (T173 F ([p0]:List (List UInt8))) fun z18=>(Option.bind (gslb 64 (0:Int) ((64:Nat):Int)) fun x19=>(Option.bind (vix (gv0) (1:Int)) fun x20=>(Option.bind (T175 F) fun z21=>(Option.bind (T174 F x20 (vspl (Vector.replicate 64 (0:UInt8)) x19.1 z18 (Nat.min z18.length (x19.2 - x19.1)))) fun z22=>(Option.bind (vix (gv0) (0:Int)) fun x23=>(Option.bind (T174 F x23 (vspl (Vector.replicate 64 (0:UInt8)) x19.1 z18 (Nat.min z18.length (x19.2 - x19.1)))) fun z24=>(Option.bind (gslb 64 (0:Int) ((64:Nat):Int)) fun x25=>(Option.bind (T176x1 F ((z24.toList.drop x25.1).take (x25.2 - x25.1)) z21.1 z21.2.1 z21.2.2) fun z26=>(k (z26.1,z26.2.1,z26.2.2,z22))))))))))) else (Option.bind (gslb 64 (0:Int) ((64:Nat):Int)) fun x27=>(Option.bind (vix (gv0) (1:Int)) fun x28=>(Option.bind (T175 F) fun z29=>(Option.bind (T174 F x28 (vspl (Vector.replicate 64 (0:UInt8)) x27.1 p0 (Nat.min p0.length (x27.2 - x27.1)))) fun z30=>(Option.bind (vix (gv0) (0:Int)) fun x31=>(Option.bind (T174 F x31 (vspl (Vector.replicate 64 (0:UInt8)) x27.1 p0 (Nat.min p0.length (x27.2 - x27.1)))) fun z32=>(Option.bind (gslb 64 (0:Int) ((64:Nat):Int)) fun x33=>(Option.bind (T176x1 F ((z32.toList.drop x33.1).take (x33.2 - x33.1)) z29.1 z29.2.1 z29.2.2) fun z34=>(k (z34.1,z34.2.1,z34.2.2,z30)))))))))))
def T140 (F:Nat) (p0:List UInt8):Option ((Vector UInt32 8)×(Vector UInt8 64)×Int×(Vector UInt8 64)):=T140c F p0 some
theorem T140n (F:Nat) (p0:List UInt8) {β:Type} (k:((Vector UInt32 8)×(Vector UInt8 64)×Int×(Vector UInt8 64))->Option β):T140c F p0 k=(T140 F p0).bind k:=by
 simp only [T140,T140c,Option.bind_assoc,cond_bind,Option.bind_some,Option.bind_none,elimS_bind]
abbrev cA140:List Sh:=[.str]
abbrev cB140:List Sh:=[(.pt 0 [])]
abbrev cT140:List TSh:=[]
abbrev cU140:List TSh:=[.blk 230 (.pr (.pr (.pr (.ar 8 .u32) (.pr (.ar 64 .u8) (.pr .i .un))) (.pr (.ar 64 .u8) .un)) .un)]
def ct140 (F:Nat):Ct:=mkC 0 cA140 cT140 cB140 cU140 (fun x y=>T140 F x.1) (fun x y (z:(Vector UInt32 8)×(Vector UInt8 64)×Int×(Vector UInt8 64))=>(((),()),((((z.1,z.2.1,z.2.2.1,()),z.2.2.2,()),()),())))
theorem eq140 (F:Nat) (x:dens cA140) (y:tdens cT140):sev (E140 F) 0 [] (bodyOf Tryz.f140) [] (mkSt (rng 1) cA140 cT140 x y) (kFn (E140 F) 0 Tryz.f140.results.toList cB140 cU140 fun p q=>some (p,q)) =
  T140c F x.1 (fun z=>some (((),()),((((z.1,z.2.1,z.2.2.1,()),z.2.2.2,()),()),()))):=by kernel_rfl
theorem ok140 (F:Nat):Sound Tryz.prog cfg 140 (ct140 F):=
 mkC_ok (E:=E140 F) (lp:=[]) (code:=bodyOf Tryz.f140) Tryz.func140 rfl Tryz.ntmps140 rfl rfl cok (cts140 F) mixed trivial (by kernel_rfl) (fun x y k=>T140c F x.1 k) (fun x y k=>T140n F x.1 k) (eq140 F)
def ord141:Nat->List (Tag×Nat)
 | _=>[]
def al141:Nat->Option Nat
 | _=>none
def ms141:Nat->Option (List (Option Tag×Nat×List Nat))
 | _=>none
def E141 (F:Nat):Ev:=⟨cfg,10,ctOf [(176,ct176x1 F)],ord141,ctOf [],al141,ms141⟩
theorem cts141 (F:Nat):CtsOk Tryz.prog (E141 F):=cts_of (l:=[(176,ct176x1 F)]) (l':=[]) rfl rfl ⟨⟨ok176x1 F,_,Tryz.func176,rfl,rfl⟩,trivial⟩ trivial
def T141c (F:Nat) (p0:List UInt8) (p1:Vector UInt32 8) (p2:Vector UInt8 64) (p3:Int) {β:Type} (k:((Vector UInt32 8)×(Vector UInt8 64)×Int)->Option β):Option β:=
 (Option.bind (T176x1 F p0 p1 p2 p3) fun z2=>(k (z2.1,z2.2.1,z2.2.2)))
def T141 (F:Nat) (p0:List UInt8) (p1:Vector UInt32 8) (p2:Vector UInt8 64) (p3:Int):Option ((Vector UInt32 8)×(Vector UInt8 64)×Int):=T141c F p0 p1 p2 p3 some
theorem T141n (F:Nat) (p0:List UInt8) (p1:Vector UInt32 8) (p2:Vector UInt8 64) (p3:Int) {β:Type} (k:((Vector UInt32 8)×(Vector UInt8 64)×Int)->Option β):T141c F p0 p1 p2 p3 k=(T141 F p0 p1 p2 p3).bind k:=by
 simp only [T141,T141c,Option.bind_assoc,cond_bind,Option.bind_some,Option.bind_none,elimS_bind]
abbrev cA141:List Sh:=[(.pt 0 []),(.ro .u8)]
abbrev cB141:List Sh:=[]
abbrev cT141:List TSh:=[.blk 230 (.pr (.pr (.pr (.ar 8 .u32) (.pr (.ar 64 .u8) (.pr .i .un))) (.pr (.ar 64 .u8) .un)) .un)]
abbrev cU141:List TSh:=[.blk 230 (.pr (.pr (.pr (.ar 8 .u32) (.pr (.ar 64 .u8) (.pr .i .un))) (.pr (.ar 64 .u8) .un)) .un)]
def ct141 (F:Nat):Ct:=mkC 1 cA141 cT141 cB141 cU141 (fun x y=>T141 F x.2.1 y.1.1.1.1 y.1.1.1.2.1 y.1.1.1.2.2.1) (fun x y (z:(Vector UInt32 8)×(Vector UInt8 64)×Int)=>((),((((z.1,z.2.1,z.2.2,()),y.1.1.2.1,()),()),())))
theorem eq141 (F:Nat) (x:dens cA141) (y:tdens cT141):sev (E141 F) 1 [] (bodyOf Tryz.f141) [] (mkSt (rng 2) cA141 cT141 x y) (kFn (E141 F) 1 Tryz.f141.results.toList cB141 cU141 fun p q=>some (p,q)) =
  T141c F x.2.1 y.1.1.1.1 y.1.1.1.2.1 y.1.1.1.2.2.1 (fun z=>some ((),((((z.1,z.2.1,z.2.2,()),y.1.1.2.1,()),()),()))):=by kernel_rfl
theorem ok141 (F:Nat):Sound Tryz.prog cfg 141 (ct141 F):=
 mkC_ok (E:=E141 F) (lp:=[]) (code:=bodyOf Tryz.f141) Tryz.func141 rfl Tryz.ntmps141 rfl rfl cok (cts141 F) mixed trivial (by kernel_rfl) (fun x y k=>T141c F x.2.1 y.1.1.1.1 y.1.1.1.2.1 y.1.1.1.2.2.1 k) (fun x y k=>T141n F x.2.1 y.1.1.1.1 y.1.1.1.2.1 y.1.1.1.2.2.1 k) (eq141 F)
def ord142:Nat->List (Tag×Nat)
 | 1=>[(.p,0),(.p,1),(.p,2),(.p,3),(.p,4),(.c,5),(.p,6),(.p,7),(.p,8),(.p,9),(.w,10),(.w,11),(.w,12),(.p,13)]
 | _=>[]
def al142:Nat->Option Nat
 | _=>none
def ms142:Nat->Option (List (Option Tag×Nat×List Nat))
 | _=>none
def E142 (F:Nat):Ev:=⟨cfg,16,ctOf [(177,ct177 F),(173,ct173 F)],ord142,ctOf [],al142,ms142⟩
theorem cts142 (F:Nat):CtsOk Tryz.prog (E142 F):=cts_of (l:=[(177,ct177 F),(173,ct173 F)]) (l':=[]) rfl rfl ⟨⟨ok177 F,_,Tryz.func177,rfl,rfl⟩,⟨⟨ok173 F,_,Tryz.func173,rfl,rfl⟩,trivial⟩⟩ trivial
def T142c (F:Nat) (p0:Vector UInt32 8) (p1:Vector UInt8 64) (p2:Int) (p3:Vector UInt8 64) {β:Type} (k:((List UInt8))->Option β):Option β:=
 (Option.bind (gslb 64 (0:Int) ((64:Nat):Int)) fun x4=>(Option.bind (T177 F (p0,p1,p2,())) fun z5=>(Option.bind (T173 F ([((p3.toList.drop x4.1).take (x4.2 - x4.1)),z5]:List (List UInt8))) fun z6=>(k z6))))
def T142 (F:Nat) (p0:Vector UInt32 8) (p1:Vector UInt8 64) (p2:Int) (p3:Vector UInt8 64):Option ((List UInt8)):=T142c F p0 p1 p2 p3 some
theorem T142n (F:Nat) (p0:Vector UInt32 8) (p1:Vector UInt8 64) (p2:Int) (p3:Vector UInt8 64) {β:Type} (k:((List UInt8))->Option β):T142c F p0 p1 p2 p3 k=(T142 F p0 p1 p2 p3).bind k:=by
 simp only [T142,T142c,Option.bind_assoc,cond_bind,Option.bind_some,Option.bind_none,elimS_bind]
abbrev cA142:List Sh:=[(.pt 0 [])]
abbrev cB142:List Sh:=[.str]
abbrev cT142:List TSh:=[.blk 230 (.pr (.pr (.pr (.ar 8 .u32) (.pr (.ar 64 .u8) (.pr .i .un))) (.pr (.ar 64 .u8) .un)) .un)]
abbrev cU142:List TSh:=[.blk 230 (.pr (.pr (.pr (.ar 8 .u32) (.pr (.ar 64 .u8) (.pr .i .un))) (.pr (.ar 64 .u8) .un)) .un)]
def ct142 (F:Nat):Ct:=mkC 1 cA142 cT142 cB142 cU142 (fun x y=>T142 F y.1.1.1.1 y.1.1.1.2.1 y.1.1.1.2.2.1 y.1.1.2.1) (fun x y (z:(List UInt8))=>((z,()),((((y.1.1.1.1,y.1.1.1.2.1,y.1.1.1.2.2.1,()),y.1.1.2.1,()),()),())))
theorem eq142 (F:Nat) (x:dens cA142) (y:tdens cT142):sev (E142 F) 1 [] (bodyOf Tryz.f142) [] (mkSt (rng 1) cA142 cT142 x y) (kFn (E142 F) 1 Tryz.f142.results.toList cB142 cU142 fun p q=>some (p,q)) =
  T142c F y.1.1.1.1 y.1.1.1.2.1 y.1.1.1.2.2.1 y.1.1.2.1 (fun z=>some ((z,()),((((y.1.1.1.1,y.1.1.1.2.1,y.1.1.1.2.2.1,()),y.1.1.2.1,()),()),()))):=by kernel_rfl
theorem ok142 (F:Nat):Sound Tryz.prog cfg 142 (ct142 F):=
 mkC_ok (E:=E142 F) (lp:=[]) (code:=bodyOf Tryz.f142) Tryz.func142 rfl Tryz.ntmps142 rfl rfl cok (cts142 F) mixed trivial (by kernel_rfl) (fun x y k=>T142c F y.1.1.1.1 y.1.1.1.2.1 y.1.1.1.2.2.1 y.1.1.2.1 k) (fun x y k=>T142n F y.1.1.1.1 y.1.1.1.2.1 y.1.1.1.2.2.1 y.1.1.2.1 k) (eq142 F)
def ord96:Nat->List (Tag×Nat)
 | _=>[]
def al96:Nat->Option Nat
 | _=>none
def ms96:Nat->Option (List (Option Tag×Nat×List Nat))
 | _=>none
def E96 (F:Nat):Ev:=⟨cfg,13,ctOf [(140,ct140 F),(141,ct141 F),(142,ct142 F)],ord96,ctOf [],al96,ms96⟩
theorem cts96 (F:Nat):CtsOk Tryz.prog (E96 F):=cts_of (l:=[(140,ct140 F),(141,ct141 F),(142,ct142 F)]) (l':=[]) rfl rfl ⟨⟨ok140 F,_,Tryz.func140,rfl,rfl⟩,⟨⟨ok141 F,_,Tryz.func141,rfl,rfl⟩,⟨⟨ok142 F,_,Tryz.func142,rfl,rfl⟩,trivial⟩⟩⟩ trivial
def T96c (F:Nat) (p0:List UInt8) (p1:List UInt8) {β:Type} (k:((List UInt8))->Option β):Option β:=
 (Option.bind (T140 F p0) fun z4=>(Option.bind (T141 F p1 z4.1 z4.2.1 z4.2.2.1) fun z5=>(Option.bind (T142 F z5.1 z5.2.1 z5.2.2 z4.2.2.2) fun z6=>(k z6))))
def T96 (F:Nat) (p0:List UInt8) (p1:List UInt8):Option ((List UInt8)):=T96c F p0 p1 some
theorem T96n (F:Nat) (p0:List UInt8) (p1:List UInt8) {β:Type} (k:((List UInt8))->Option β):T96c F p0 p1 k=(T96 F p0 p1).bind k:=by
 simp only [T96,T96c,Option.bind_assoc,cond_bind,Option.bind_some,Option.bind_none,elimS_bind]
abbrev cA96:List Sh:=[.str,(.ro .u8)]
abbrev cB96:List Sh:=[.str]
abbrev cT96:List TSh:=[]
abbrev cU96:List TSh:=[]
def ct96 (F:Nat):Ct:=mkC 0 cA96 cT96 cB96 cU96 (fun x y=>T96 F x.1 x.2.1) (fun x y (z:(List UInt8))=>((z,()),()))
theorem eq96 (F:Nat) (x:dens cA96) (y:tdens cT96):sev (E96 F) 0 [] (bodyOf Tryz.f96) [] (mkSt (rng 2) cA96 cT96 x y) (kFn (E96 F) 0 Tryz.f96.results.toList cB96 cU96 fun p q=>some (p,q)) =
  T96c F x.1 x.2.1 (fun z=>some ((z,()),())):=by kernel_rfl
theorem ok96 (F:Nat):Sound Tryz.prog cfg 96 (ct96 F):=
 mkC_ok (E:=E96 F) (lp:=[]) (code:=bodyOf Tryz.f96) Tryz.func96 rfl Tryz.ntmps96 rfl rfl cok (cts96 F) mixed trivial (by kernel_rfl) (fun x y k=>T96c F x.1 x.2.1 k) (fun x y k=>T96n F x.1 x.2.1 k) (eq96 F)
def ord94:Nat->List (Tag×Nat)
 | _=>[]
def al94:Nat->Option Nat
 | _=>none
def ms94:Nat->Option (List (Option Tag×Nat×List Nat))
 | _=>none
def E94 (F:Nat):Ev:=⟨cfg,9,ctOf [(96,ct96 F)],ord94,ctOf [],al94,ms94⟩
theorem cts94 (F:Nat):CtsOk Tryz.prog (E94 F):=cts_of (l:=[(96,ct96 F)]) (l':=[]) rfl rfl ⟨⟨ok96 F,_,Tryz.func96,rfl,rfl⟩,trivial⟩ trivial
def T94c (F:Nat) (p0:List UInt8) (p1:List UInt8) {β:Type} (k:((List UInt8))->Option β):Option β:=
 (Option.bind (gstr p1) fun x3=>(Option.bind (T96 F p0 x3) fun z4=>(k z4)))
def T94 (F:Nat) (p0:List UInt8) (p1:List UInt8):Option ((List UInt8)):=T94c F p0 p1 some
theorem T94n (F:Nat) (p0:List UInt8) (p1:List UInt8) {β:Type} (k:((List UInt8))->Option β):T94c F p0 p1 k=(T94 F p0 p1).bind k:=by
 simp only [T94,T94c,Option.bind_assoc,cond_bind,Option.bind_some,Option.bind_none,elimS_bind]
abbrev cA94:List Sh:=[.str,.str]
abbrev cB94:List Sh:=[.str]
abbrev cT94:List TSh:=[]
abbrev cU94:List TSh:=[]
def ct94 (F:Nat):Ct:=mkC 0 cA94 cT94 cB94 cU94 (fun x y=>T94 F x.1 x.2.1) (fun x y (z:(List UInt8))=>((z,()),()))
theorem eq94 (F:Nat) (x:dens cA94) (y:tdens cT94):sev (E94 F) 0 [] (bodyOf Tryz.f94) [] (mkSt (rng 2) cA94 cT94 x y) (kFn (E94 F) 0 Tryz.f94.results.toList cB94 cU94 fun p q=>some (p,q)) =
  T94c F x.1 x.2.1 (fun z=>some ((z,()),())):=by kernel_rfl
theorem ok94 (F:Nat):Sound Tryz.prog cfg 94 (ct94 F):=
 mkC_ok (E:=E94 F) (lp:=[]) (code:=bodyOf Tryz.f94) Tryz.func94 rfl Tryz.ntmps94 rfl rfl cok (cts94 F) mixed trivial (by kernel_rfl) (fun x y k=>T94c F x.1 x.2.1 k) (fun x y k=>T94n F x.1 x.2.1 k) (eq94 F)
def ord93:Nat->List (Tag×Nat)
 | _=>[]
def al93:Nat->Option Nat
 | _=>none
def ms93:Nat->Option (List (Option Tag×Nat×List Nat))
 | _=>none
def E93 (F:Nat):Ev:=⟨cfg,51,ctOf [(140,ct140 F),(141,ct141 F),(142,ct142 F)],ord93,ctOf [],al93,ms93⟩
theorem cts93 (F:Nat):CtsOk Tryz.prog (E93 F):=cts_of (l:=[(140,ct140 F),(141,ct141 F),(142,ct142 F)]) (l':=[]) rfl rfl ⟨⟨ok140 F,_,Tryz.func140,rfl,rfl⟩,⟨⟨ok141 F,_,Tryz.func141,rfl,rfl⟩,⟨⟨ok142 F,_,Tryz.func142,rfl,rfl⟩,trivial⟩⟩⟩ trivial
def L93_2c (F:Nat) (y51:List UInt8) (y52:List UInt8) (y53:Int) (y54:List UInt8) (y55:Int) (y56:List UInt8) {β:Type} (kA:((List UInt8)×Int×(List UInt8))->Option β) (kO:((List UInt8))->Option β):Option β:=
 (bif (decide ((y56.length:Int) < y53)) then (Option.bind (T140 F y51) fun z65=>(Option.bind (gstr y54) fun x66=>(Option.bind (T141 F x66 z65.1 z65.2.1 z65.2.2.1) fun z67=>(Option.bind (gstr y52) fun x68=>(Option.bind (T141 F x68 z67.1 z67.2.1 z67.2.2) fun z69=>(Option.bind (T141 F ([(UInt8.ofInt y55)]:List UInt8) z69.1 z69.2.1 z69.2.2) fun z70=>(Option.bind (T142 F z70.1 z70.2.1 z70.2.2 z65.2.2.2) fun z71=>(Option.bind (gapp y56 z71) fun x72=>(kA (z71,(w64 (y55 + (1:Int))),x72)))))))))) else (kO y56))
def L93_2 (F:Nat) (y51:List UInt8) (y52:List UInt8) (y53:Int) (y54:List UInt8) (y55:Int) (y56:List UInt8):Option (((List UInt8)×Int×(List UInt8)) ⊕ ((List UInt8))):=L93_2c F y51 y52 y53 y54 y55 y56 (fun s=>some (.inl s)) (fun z=>some (.inr z))
theorem L93_2n (F:Nat) (y51:List UInt8) (y52:List UInt8) (y53:Int) (y54:List UInt8) (y55:Int) (y56:List UInt8) {β:Type} (kA:((List UInt8)×Int×(List UInt8))->Option β) (kO:((List UInt8))->Option β):L93_2c F y51 y52 y53 y54 y55 y56 kA kO=(L93_2 F y51 y52 y53 y54 y55 y56).bind (elimS kA kO):=by
 simp only [L93_2,L93_2c,Option.bind_assoc,cond_bind,Option.bind_some,Option.bind_none,elimS_l,elimS_r,elimS_bind]
abbrev sA93_2:List Sh:=[.str,.str,.i,(.rw 0),.str,.i]
abbrev sAp193_2:List Sh:=[.i,(.rw 0)]
abbrev sT93_2:List TSh:=[.row 5 .u8]
abbrev sTp193_2:List TSh:=[.row 5 .u8]
def lc93_2 (F:Nat):Lc:=mkL [0,1,2,8,9,10] sA93_2 sT93_2 [2,8] sAp193_2 sTp193_2 F (fun x y (s:(List UInt8)×Int×(List UInt8))=>L93_2 F x.1 x.2.1 x.2.2.1 s.1 s.2.1 s.2.2) (fun x y=>(x.2.2.2.2.1,x.2.2.2.2.2.1,y.1)) (fun x y (z:(List UInt8))=>((x.2.2.1,(),()),(z,())))
theorem le93_2 (F:Nat) (x:dens sA93_2) (y:tdens sT93_2) (s:(List UInt8)×Int×(List UInt8)):sev (E93 F) 0 [] (cAt (bodyOf Tryz.f93) (0 :: 0 :: [1,0,1,1,1,1,1])) (0 :: 0 :: [1,0,1,1,1,1,1]) (mkSt [0,1,2,8,9,10] sA93_2 sT93_2 (x.1,x.2.1,x.2.2.1,(),s.1,s.2.1,()) (s.2.2,())) (kLoop 0 [0,1,2,8,9,10] sA93_2 sT93_2 [2,8] sAp193_2 sTp193_2 [] [] [] 0 (fun x y=>some (.inl (x,y))) (fun x y=>some (.inr (.inl (x,y)))) (fun x y=>some (.inr (.inr (x,y))))) =
  L93_2c (β:=Full sA93_2 sT93_2 sAp193_2 sTp193_2 [] []) F x.1 x.2.1 x.2.2.1 s.1 s.2.1 s.2.2 (fun s=>some (.inl ((x.1,x.2.1,x.2.2.1,(),s.1,s.2.1,()),(s.2.2,())))) (fun z=>some (.inr (.inl ((x.2.2.1,(),()),(z,()))))):=by kernel_rfl
theorem lo93_2 (F:Nat):LcOk Tryz.prog (E93 F) 0 (lc93_2 F) (cAt (bodyOf Tryz.f93) [1,0,1,1,1,1,1]):=
 mkL_ok (lp:=[]) (id:=0) (b:=cAt (bodyOf Tryz.f93) (0 :: 0 :: [1,0,1,1,1,1,1])) cok (cts93 F) mixed trivial (by kernel_rfl) (by kernel_rfl) (fun x y s=>(x.1,x.2.1,x.2.2.1,(),s.1,s.2.1,())) (fun x y s=>(s.2.2,())) (fun x y=>rfl) (fun x y=>rfl) (fun x y s kA kO=>L93_2c F x.1 x.2.1 x.2.2.1 s.1 s.2.1 s.2.2 kA kO) (fun x y s kA kO=>L93_2n F x.1 x.2.1 x.2.2.1 s.1 s.2.1 s.2.2 kA kO) (le93_2 F)
def T93c (F:Nat) (p0:List UInt8) (p1:List UInt8) (p2:Int) {β:Type} (k:((List UInt8)×Int)->Option β):Option β:=
 (bif (decide ((p0.length:Int) < (32:Int))) then (k (([]:List UInt8),(1:Int))) else (bif (decide (p2 < (0:Int))) then (k (([]:List UInt8),(1:Int))) else (bif (decide ((8160:Int) < p2)) then (k (([]:List UInt8),(2:Int))) else (Option.bind (iter (fun s=>L93_2 F p0 p1 p2 s.1 s.2.1 s.2.2) F (([]:List UInt8),(1:Int),([]:List UInt8))) fun z73=>(Option.bind (gslb z73.length (0:Int) p2) fun x74=>(k (((z73.drop x74.1).take (x74.2 - x74.1)),(0:Int))))))))
def T93 (F:Nat) (p0:List UInt8) (p1:List UInt8) (p2:Int):Option ((List UInt8)×Int):=T93c F p0 p1 p2 some
theorem T93n (F:Nat) (p0:List UInt8) (p1:List UInt8) (p2:Int) {β:Type} (k:((List UInt8)×Int)->Option β):T93c F p0 p1 p2 k=(T93 F p0 p1 p2).bind k:=by
 simp only [T93,T93c,Option.bind_assoc,cond_bind,Option.bind_some,Option.bind_none,elimS_bind]
abbrev cA93:List Sh:=[.str,.str,.i]
abbrev cB93:List Sh:=[.str,.i]
abbrev cT93:List TSh:=[]
abbrev cU93:List TSh:=[]
def ct93 (F:Nat):Ct:=mkC 0 cA93 cT93 cB93 cU93 (fun x y=>T93 F x.1 x.2.1 x.2.2.1) (fun x y (z:(List UInt8)×Int)=>((z.1,z.2,()),()))
theorem eq93 (F:Nat) (x:dens cA93) (y:tdens cT93):sev (E93 F) 0 [([1,0,1,1,1,1,1],lc93_2 F)] (bodyOf Tryz.f93) [] (mkSt (rng 3) cA93 cT93 x y) (kFn (E93 F) 0 Tryz.f93.results.toList cB93 cU93 fun p q=>some (p,q)) =
  T93c F x.1 x.2.1 x.2.2.1 (fun z=>some ((z.1,z.2,()),())):=by kernel_rfl
theorem ok93 (F:Nat):Sound Tryz.prog cfg 93 (ct93 F):=
 mkC_ok (E:=E93 F) (lp:=[([1,0,1,1,1,1,1],lc93_2 F)]) (code:=bodyOf Tryz.f93) Tryz.func93 rfl Tryz.ntmps93 rfl rfl cok (cts93 F) mixed ⟨lo93_2 F,trivial⟩ (by kernel_rfl) (fun x y k=>T93c F x.1 x.2.1 x.2.2.1 k) (fun x y k=>T93n F x.1 x.2.1 x.2.2.1 k) (eq93 F)
def ord28:Nat->List (Tag×Nat)
 | _=>[]
def al28:Nat->Option Nat
 | _=>none
def ms28:Nat->Option (List (Option Tag×Nat×List Nat))
 | _=>none
def E28 (F:Nat):Ev:=⟨cfg,24,ctOf [(94,ct94 F),(93,ct93 F)],ord28,ctOf [],al28,ms28⟩
theorem cts28 (F:Nat):CtsOk Tryz.prog (E28 F):=cts_of (l:=[(94,ct94 F),(93,ct93 F)]) (l':=[]) rfl rfl ⟨⟨ok94 F,_,Tryz.func94,rfl,rfl⟩,⟨⟨ok93 F,_,Tryz.func93,rfl,rfl⟩,trivial⟩⟩ trivial
def T28c (F:Nat) (p0:List UInt8) (p1:List UInt8) {β:Type} (k:((List UInt8)×Int)->Option β):Option β:=
 (bif ((p0.length:Int) != (32:Int)) then (k (([]:List UInt8),(1:Int))) else (bif (p1 == ([]:List UInt8)) then (k (([]:List UInt8),(1:Int))) else (bif (decide ((64:Int) < (p1.length:Int))) then (k (([]:List UInt8),(1:Int))) else (Option.bind (T94 F ([]:List UInt8) p0) fun z3=>(Option.bind (T93 F z3 p1 (32:Int)) fun z4=>(k (z4.1,z4.2)))))))
def T28 (F:Nat) (p0:List UInt8) (p1:List UInt8):Option ((List UInt8)×Int):=T28c F p0 p1 some
theorem T28n (F:Nat) (p0:List UInt8) (p1:List UInt8) {β:Type} (k:((List UInt8)×Int)->Option β):T28c F p0 p1 k=(T28 F p0 p1).bind k:=by
 simp only [T28,T28c,Option.bind_assoc,cond_bind,Option.bind_some,Option.bind_none,elimS_bind]
abbrev cA28:List Sh:=[.str,.str]
abbrev cB28:List Sh:=[.str,.i]
abbrev cT28:List TSh:=[]
abbrev cU28:List TSh:=[]
def ct28 (F:Nat):Ct:=mkC 0 cA28 cT28 cB28 cU28 (fun x y=>T28 F x.1 x.2.1) (fun x y (z:(List UInt8)×Int)=>((z.1,z.2,()),()))
theorem eq28 (F:Nat) (x:dens cA28) (y:tdens cT28):sev (E28 F) 0 [] (bodyOf Tryz.f28) [] (mkSt (rng 2) cA28 cT28 x y) (kFn (E28 F) 0 Tryz.f28.results.toList cB28 cU28 fun p q=>some (p,q)) =
  T28c F x.1 x.2.1 (fun z=>some ((z.1,z.2,()),())):=by kernel_rfl
theorem ok28 (F:Nat):Sound Tryz.prog cfg 28 (ct28 F):=
 mkC_ok (E:=E28 F) (lp:=[]) (code:=bodyOf Tryz.f28) Tryz.func28 rfl Tryz.ntmps28 rfl rfl cok (cts28 F) mixed trivial (by kernel_rfl) (fun x y k=>T28c F x.1 x.2.1 k) (fun x y k=>T28n F x.1 x.2.1 k) (eq28 F)
def ord12:Nat->List (Tag×Nat)
 | _=>[]
def al12:Nat->Option Nat
 | _=>none
def ms12:Nat->Option (List (Option Tag×Nat×List Nat))
 | _=>none
def E12 (F:Nat):Ev:=⟨cfg,39,ctOf [(28,ct28 F)],ord12,ctOf [],al12,ms12⟩
theorem cts12 (F:Nat):CtsOk Tryz.prog (E12 F):=cts_of (l:=[(28,ct28 F)]) (l':=[]) rfl rfl ⟨⟨ok28 F,_,Tryz.func28,rfl,rfl⟩,trivial⟩ trivial
def T12c (F:Nat) (p0:List UInt8) {β:Type} (k:((List UInt8)×(List UInt8)×(List UInt8)×(List UInt8)×(List UInt8)×Int)->Option β):Option β:=
 (Option.bind (inb 5 (0:Int)) fun x16=>(Option.bind (vat (#v[([110,97,109,101]:List UInt8),([115,116,114,101,97,109]:List UInt8),([99,104,101,99,107]:List UInt8),([105,110,100,101,120]:List UInt8),([116,111,107,101,110]:List UInt8)]:Vector (List UInt8) 5) x16) fun x17=>(Option.bind (T28 F p0 x17) fun z18=>(bif (z18.2 != (0:Int)) then (k (([]:List UInt8),([]:List UInt8),([]:List UInt8),([]:List UInt8),([]:List UInt8),(1:Int))) else (Option.bind (inb 5 (w64 ((0:Int) + (1:Int)))) fun x19=>(Option.bind (vat (#v[([110,97,109,101]:List UInt8),([115,116,114,101,97,109]:List UInt8),([99,104,101,99,107]:List UInt8),([105,110,100,101,120]:List UInt8),([116,111,107,101,110]:List UInt8)]:Vector (List UInt8) 5) x19) fun x20=>(Option.bind (T28 F p0 x20) fun z21=>(bif (z21.2 != (0:Int)) then (k (([]:List UInt8),([]:List UInt8),([]:List UInt8),([]:List UInt8),([]:List UInt8),(1:Int))) else (Option.bind (inb 5 (w64 ((w64 ((0:Int) + (1:Int))) + (1:Int)))) fun x22=>(Option.bind (vat (#v[([110,97,109,101]:List UInt8),([115,116,114,101,97,109]:List UInt8),([99,104,101,99,107]:List UInt8),([105,110,100,101,120]:List UInt8),([116,111,107,101,110]:List UInt8)]:Vector (List UInt8) 5) x22) fun x23=>(Option.bind (T28 F p0 x23) fun z24=>(bif (z24.2 != (0:Int)) then (k (([]:List UInt8),([]:List UInt8),([]:List UInt8),([]:List UInt8),([]:List UInt8),(1:Int))) else (Option.bind (inb 5 (w64 ((w64 ((w64 ((0:Int) + (1:Int))) + (1:Int))) + (1:Int)))) fun x25=>(Option.bind (vat (#v[([110,97,109,101]:List UInt8),([115,116,114,101,97,109]:List UInt8),([99,104,101,99,107]:List UInt8),([105,110,100,101,120]:List UInt8),([116,111,107,101,110]:List UInt8)]:Vector (List UInt8) 5) x25) fun x26=>(Option.bind (T28 F p0 x26) fun z27=>(bif (z27.2 != (0:Int)) then (k (([]:List UInt8),([]:List UInt8),([]:List UInt8),([]:List UInt8),([]:List UInt8),(1:Int))) else (Option.bind (inb 5 (w64 ((w64 ((w64 ((w64 ((0:Int) + (1:Int))) + (1:Int))) + (1:Int))) + (1:Int)))) fun x28=>(Option.bind (vat (#v[([110,97,109,101]:List UInt8),([115,116,114,101,97,109]:List UInt8),([99,104,101,99,107]:List UInt8),([105,110,100,101,120]:List UInt8),([116,111,107,101,110]:List UInt8)]:Vector (List UInt8) 5) x28) fun x29=>(Option.bind (T28 F p0 x29) fun z30=>(bif (z30.2 != (0:Int)) then (k (([]:List UInt8),([]:List UInt8),([]:List UInt8),([]:List UInt8),([]:List UInt8),(1:Int))) else (k (z18.1,z21.1,z24.1,z27.1,z30.1,(0:Int)))))))))))))))))))))))
def T12 (F:Nat) (p0:List UInt8):Option ((List UInt8)×(List UInt8)×(List UInt8)×(List UInt8)×(List UInt8)×Int):=T12c F p0 some
theorem T12n (F:Nat) (p0:List UInt8) {β:Type} (k:((List UInt8)×(List UInt8)×(List UInt8)×(List UInt8)×(List UInt8)×Int)->Option β):T12c F p0 k=(T12 F p0).bind k:=by
 simp only [T12,T12c,Option.bind_assoc,cond_bind,Option.bind_some,Option.bind_none,elimS_bind]
abbrev cA12:List Sh:=[.str]
abbrev cB12:List Sh:=[(.pr .str (.pr .str (.pr .str (.pr .str (.pr .str .un))))),.i]
abbrev cT12:List TSh:=[]
abbrev cU12:List TSh:=[]
def ct12 (F:Nat):Ct:=mkC 0 cA12 cT12 cB12 cU12 (fun x y=>T12 F x.1) (fun x y (z:(List UInt8)×(List UInt8)×(List UInt8)×(List UInt8)×(List UInt8)×Int)=>(((z.1,z.2.1,z.2.2.1,z.2.2.2.1,z.2.2.2.2.1,()),z.2.2.2.2.2,()),()))
theorem eq12 (F:Nat) (x:dens cA12) (y:tdens cT12):sev (E12 F) 0 [] (bodyOf Tryz.f12) [] (mkSt (rng 1) cA12 cT12 x y) (kFn (E12 F) 0 Tryz.f12.results.toList cB12 cU12 fun p q=>some (p,q)) =
  T12c F x.1 (fun z=>some (((z.1,z.2.1,z.2.2.1,z.2.2.2.1,z.2.2.2.2.1,()),z.2.2.2.2.2,()),())):=by kernel_rfl
theorem ok12 (F:Nat):Sound Tryz.prog cfg 12 (ct12 F):=
 mkC_ok (E:=E12 F) (lp:=[]) (code:=bodyOf Tryz.f12) Tryz.func12 rfl Tryz.ntmps12 rfl rfl cok (cts12 F) mixed trivial (by kernel_rfl) (fun x y k=>T12c F x.1 k) (fun x y k=>T12n F x.1 k) (eq12 F)
def ord134:Nat->List (Tag×Nat)
 | _=>[]
def al134:Nat->Option Nat
 | _=>none
def ms134:Nat->Option (List (Option Tag×Nat×List Nat))
 | _=>none
def E134 (F:Nat):Ev:=⟨cfg,19,ctOf [],ord134,ctOf [],al134,ms134⟩
theorem cts134 (F:Nat):CtsOk Tryz.prog (E134 F):=cts_of (l:=[]) (l':=[]) rfl rfl trivial trivial
def L134_2c (F:Nat) (y8:List Int) (y9:Int) (y10:Int) (y11:Int) {β:Type} (kA:Int->Option β) (kO:Unit->Option β) (kR:Int->Option β):Option β:=
 (bif (decide (y11 < y10)) then (Option.bind (ix y8 y11) fun x13=>(bif (y9 == x13) then (kR y11) else (kA (w64 (y11 + (1:Int)))))) else (kO ()))
def L134_2 (F:Nat) (y8:List Int) (y9:Int) (y10:Int) (y11:Int):Option ((Int) ⊕ ((Unit) ⊕ (Int))):=L134_2c F y8 y9 y10 y11 (fun s=>some (.inl s)) (fun z=>some (.inr (.inl z))) (fun z=>some (.inr (.inr z)))
theorem L134_2n (F:Nat) (y8:List Int) (y9:Int) (y10:Int) (y11:Int) {β:Type} (kA:Int->Option β) (kO:Unit->Option β) (kR:Int->Option β):L134_2c F y8 y9 y10 y11 kA kO kR=(L134_2 F y8 y9 y10 y11).bind (elimS kA (elimS kO kR)):=by
 simp only [L134_2,L134_2c,Option.bind_assoc,cond_bind,Option.bind_some,Option.bind_none,elimS_l,elimS_r,elimS_bind]
abbrev sA134_2:List Sh:=[(.ro .i),.i,.i,.i]
abbrev sAp1134_2:List Sh:=[]
abbrev sAp2134_2:List Sh:=[.i]
abbrev sT134_2:List TSh:=[]
abbrev sTp1134_2:List TSh:=[]
abbrev sTp2134_2:List TSh:=[]
def lc134_2 (F:Nat):Lc:=mkR [0,1,7,8] sA134_2 sT134_2 [] sAp1134_2 sTp1134_2 [4] sAp2134_2 sTp2134_2 F (fun x y (s:Int)=>L134_2 F x.1 x.2.1 x.2.2.1 s) (fun x y=>x.2.2.2.1) (fun x y (z:Unit)=>((),())) (fun x y (z:Int)=>((z,()),()))
theorem le134_2 (F:Nat) (x:dens sA134_2) (y:tdens sT134_2) (s:Int):sev (E134 F) 0 [] (cAt (bodyOf Tryz.f134) (0 :: 0 :: [1,0,1])) (0 :: 0 :: [1,0,1]) (mkSt [0,1,7,8] sA134_2 sT134_2 (x.1,x.2.1,x.2.2.1,s,()) ()) (kLoop 0 [0,1,7,8] sA134_2 sT134_2 [] sAp1134_2 sTp1134_2 [4] sAp2134_2 sTp2134_2 0 (fun x y=>some (.inl (x,y))) (fun x y=>some (.inr (.inl (x,y)))) (fun x y=>some (.inr (.inr (x,y))))) =
  L134_2c (β:=Full sA134_2 sT134_2 sAp1134_2 sTp1134_2 sAp2134_2 sTp2134_2) F x.1 x.2.1 x.2.2.1 s (fun s=>some (.inl ((x.1,x.2.1,x.2.2.1,s,()),()))) (fun z=>some (.inr (.inl ((),())))) (fun z=>some (.inr (.inr ((z,()),())))):=by kernel_rfl
theorem lo134_2 (F:Nat):LcOk Tryz.prog (E134 F) 0 (lc134_2 F) (cAt (bodyOf Tryz.f134) [1,0,1]):=
 mkR_ok (lp:=[]) (id:=0) (b:=cAt (bodyOf Tryz.f134) (0 :: 0 :: [1,0,1])) cok (cts134 F) mixed trivial (by kernel_rfl) (by kernel_rfl) (fun x y s=>(x.1,x.2.1,x.2.2.1,s,())) (fun x y s=>()) (fun x y=>rfl) (fun x y=>rfl) (fun x y s kA kO kR=>L134_2c F x.1 x.2.1 x.2.2.1 s kA kO kR) (fun x y s kA kO kR=>L134_2n F x.1 x.2.1 x.2.2.1 s kA kO kR) (le134_2 F)
def T134c (F:Nat) (p0:List Int) (p1:Int) {β:Type} (k:Int->Option β):Option β:=
 (Option.bind (iter (fun s=>L134_2 F p0 p1 (p0.length:Int) s) F (0:Int)) fun z14=>elimS (fun z14=>(k (-1:Int))) (fun z14=>(k z14)) z14)
def T134 (F:Nat) (p0:List Int) (p1:Int):Option (Int):=T134c F p0 p1 some
theorem T134n (F:Nat) (p0:List Int) (p1:Int) {β:Type} (k:Int->Option β):T134c F p0 p1 k=(T134 F p0 p1).bind k:=by
 simp only [T134,T134c,Option.bind_assoc,cond_bind,Option.bind_some,Option.bind_none,elimS_bind]
abbrev cA134:List Sh:=[(.ro .i),.i]
abbrev cB134:List Sh:=[.i]
abbrev cT134:List TSh:=[]
abbrev cU134:List TSh:=[]
def ct134 (F:Nat):Ct:=mkC 0 cA134 cT134 cB134 cU134 (fun x y=>T134 F x.1 x.2.1) (fun x y (z:Int)=>((z,()),()))
theorem eq134 (F:Nat) (x:dens cA134) (y:tdens cT134):sev (E134 F) 0 [([1,0,1],lc134_2 F)] (bodyOf Tryz.f134) [] (mkSt (rng 2) cA134 cT134 x y) (kFn (E134 F) 0 Tryz.f134.results.toList cB134 cU134 fun p q=>some (p,q)) =
  T134c F x.1 x.2.1 (fun z=>some ((z,()),())):=by kernel_rfl
theorem ok134 (F:Nat):Sound Tryz.prog cfg 134 (ct134 F):=
 mkC_ok (E:=E134 F) (lp:=[([1,0,1],lc134_2 F)]) (code:=bodyOf Tryz.f134) Tryz.func134 rfl Tryz.ntmps134 rfl rfl cok (cts134 F) mixed ⟨lo134_2 F,trivial⟩ (by kernel_rfl) (fun x y k=>T134c F x.1 x.2.1 k) (fun x y k=>T134n F x.1 x.2.1 k) (eq134 F)
def ord90:Nat->List (Tag×Nat)
 | _=>[]
def al90:Nat->Option Nat
 | _=>none
def ms90:Nat->Option (List (Option Tag×Nat×List Nat))
 | _=>none
def E90 (F:Nat):Ev:=⟨cfg,9,ctOf [(134,ct134 F)],ord90,ctOf [],al90,ms90⟩
theorem cts90 (F:Nat):CtsOk Tryz.prog (E90 F):=cts_of (l:=[(134,ct134 F)]) (l':=[]) rfl rfl ⟨⟨ok134 F,_,Tryz.func134,rfl,rfl⟩,trivial⟩ trivial
def T90c (F:Nat) (p0:List Int) (p1:Int) {β:Type} (k:Bool->Option β):Option β:=
 (Option.bind (T134 F p0 p1) fun z2=>(k (decide ((0:Int)≤z2))))
def T90 (F:Nat) (p0:List Int) (p1:Int):Option (Bool):=T90c F p0 p1 some
theorem T90n (F:Nat) (p0:List Int) (p1:Int) {β:Type} (k:Bool->Option β):T90c F p0 p1 k=(T90 F p0 p1).bind k:=by
 simp only [T90,T90c,Option.bind_assoc,cond_bind,Option.bind_some,Option.bind_none,elimS_bind]
abbrev cA90:List Sh:=[(.ro .i),.i]
abbrev cB90:List Sh:=[.bo]
abbrev cT90:List TSh:=[]
abbrev cU90:List TSh:=[]
def ct90 (F:Nat):Ct:=mkC 0 cA90 cT90 cB90 cU90 (fun x y=>T90 F x.1 x.2.1) (fun x y (z:Bool)=>((z,()),()))
theorem eq90 (F:Nat) (x:dens cA90) (y:tdens cT90):sev (E90 F) 0 [] (bodyOf Tryz.f90) [] (mkSt (rng 2) cA90 cT90 x y) (kFn (E90 F) 0 Tryz.f90.results.toList cB90 cU90 fun p q=>some (p,q)) =
  T90c F x.1 x.2.1 (fun z=>some ((z,()),())):=by kernel_rfl
theorem ok90 (F:Nat):Sound Tryz.prog cfg 90 (ct90 F):=
 mkC_ok (E:=E90 F) (lp:=[]) (code:=bodyOf Tryz.f90) Tryz.func90 rfl Tryz.ntmps90 rfl rfl cok (cts90 F) mixed trivial (by kernel_rfl) (fun x y k=>T90c F x.1 x.2.1 k) (fun x y k=>T90n F x.1 x.2.1 k) (eq90 F)
def ord91:Nat->List (Tag×Nat)
 | _=>[]
def al91:Nat->Option Nat
 | _=>none
def ms91:Nat->Option (List (Option Tag×Nat×List Nat))
 | _=>none
def E91 (F:Nat):Ev:=⟨cfg,9,ctOf [],ord91,ctOf [],al91,ms91⟩
theorem cts91 (F:Nat):CtsOk Tryz.prog (E91 F):=cts_of (l:=[]) (l':=[]) rfl rfl trivial trivial
def T91c (F:Nat) (p1:Int) {β:Type} (k:Unit->Option β):Option β:=
 (bif (decide (p1 < (1:Int))) then none else (k ()))
def T91 (F:Nat) (p1:Int):Option (Unit):=T91c F p1 some
theorem T91n (F:Nat) (p1:Int) {β:Type} (k:Unit->Option β):T91c F p1 k=(T91 F p1).bind k:=by
 simp only [T91,T91c,Option.bind_assoc,cond_bind,Option.bind_some,Option.bind_none,elimS_bind]
abbrev cA91:List Sh:=[(.ro .u8),.i]
abbrev cB91:List Sh:=[(.fn 135 .un (.pr (.pt 0 []) (.pr (.pt 1 []) .un)))]
abbrev cT91:List TSh:=[]
abbrev cU91:List TSh:=[.blk 36 (.ro .u8),.blk 3 .i]
def ct91 (F:Nat):Ct:=mkC 0 cA91 cT91 cB91 cU91 (fun x y=>T91 F x.2.1) (fun x y (z:Unit)=>((((),((),(),())),()),(x.1,x.2.1,())))
theorem eq91 (F:Nat) (x:dens cA91) (y:tdens cT91):sev (E91 F) 0 [] (bodyOf Tryz.f91) [] (mkSt (rng 2) cA91 cT91 x y) (kFn (E91 F) 0 Tryz.f91.results.toList cB91 cU91 fun p q=>some (p,q)) =
  T91c F x.2.1 (fun z=>some ((((),((),(),())),()),(x.1,x.2.1,()))):=by kernel_rfl
theorem ok91 (F:Nat):Sound Tryz.prog cfg 91 (ct91 F):=
 mkC_ok (E:=E91 F) (lp:=[]) (code:=bodyOf Tryz.f91) Tryz.func91 rfl Tryz.ntmps91 rfl rfl cok (cts91 F) mixed trivial (by kernel_rfl) (fun x y k=>T91c F x.2.1 k) (fun x y k=>T91n F x.2.1 k) (eq91 F)
def ord136:Nat->List (Tag×Nat)
 | _=>[]
def al136:Nat->Option Nat
 | _=>none
def ms136:Nat->Option (List (Option Tag×Nat×List Nat))
 | _=>none
def E136 (F:Nat):Ev:=⟨cfg,21,ctOf [],ord136,ctOf [],al136,ms136⟩
theorem cts136 (F:Nat):CtsOk Tryz.prog (E136 F):=cts_of (l:=[]) (l':=[]) rfl rfl trivial trivial
def L136_2c (F:Nat) (y10:Int) (y11:List (List UInt8)) (y12:Int) (y13:Int) {β:Type} (kA:Int->Option β) (kO:Unit->Option β) (kR:Bool->Option β):Option β:=
 (bif (decide (y13 < y12)) then (Option.bind (ix y11 y13) fun x15=>(bif ((x15.length:Int) != y10) then (kR false) else (kA (w64 (y13 + (1:Int)))))) else (kO ()))
def L136_2 (F:Nat) (y10:Int) (y11:List (List UInt8)) (y12:Int) (y13:Int):Option ((Int) ⊕ ((Unit) ⊕ (Bool))):=L136_2c F y10 y11 y12 y13 (fun s=>some (.inl s)) (fun z=>some (.inr (.inl z))) (fun z=>some (.inr (.inr z)))
theorem L136_2n (F:Nat) (y10:Int) (y11:List (List UInt8)) (y12:Int) (y13:Int) {β:Type} (kA:Int->Option β) (kO:Unit->Option β) (kR:Bool->Option β):L136_2c F y10 y11 y12 y13 kA kO kR=(L136_2 F y10 y11 y12 y13).bind (elimS kA (elimS kO kR)):=by
 simp only [L136_2,L136_2c,Option.bind_assoc,cond_bind,Option.bind_some,Option.bind_none,elimS_l,elimS_r,elimS_bind]
abbrev sA136_2:List Sh:=[(.ro (.sl .u8)),.i,(.ro (.sl .u8)),.i,.i]
abbrev sAp1136_2:List Sh:=[(.ro (.sl .u8))]
abbrev sAp2136_2:List Sh:=[.bo]
abbrev sT136_2:List TSh:=[]
abbrev sTp1136_2:List TSh:=[]
abbrev sTp2136_2:List TSh:=[]
def lc136_2 (F:Nat):Lc:=mkR [0,1,7,8,9] sA136_2 sT136_2 [0] sAp1136_2 sTp1136_2 [4] sAp2136_2 sTp2136_2 F (fun x y (s:Int)=>L136_2 F x.2.1 x.2.2.1 x.2.2.2.1 s) (fun x y=>x.2.2.2.2.1) (fun x y (z:Unit)=>((x.1,()),())) (fun x y (z:Bool)=>((z,()),()))
theorem le136_2 (F:Nat) (x:dens sA136_2) (y:tdens sT136_2) (s:Int):sev (E136 F) 0 [] (cAt (bodyOf Tryz.f136) (0 :: 0 :: [1,0,1])) (0 :: 0 :: [1,0,1]) (mkSt [0,1,7,8,9] sA136_2 sT136_2 (x.1,x.2.1,x.2.2.1,x.2.2.2.1,s,()) ()) (kLoop 0 [0,1,7,8,9] sA136_2 sT136_2 [0] sAp1136_2 sTp1136_2 [4] sAp2136_2 sTp2136_2 0 (fun x y=>some (.inl (x,y))) (fun x y=>some (.inr (.inl (x,y)))) (fun x y=>some (.inr (.inr (x,y))))) =
  L136_2c (β:=Full sA136_2 sT136_2 sAp1136_2 sTp1136_2 sAp2136_2 sTp2136_2) F x.2.1 x.2.2.1 x.2.2.2.1 s (fun s=>some (.inl ((x.1,x.2.1,x.2.2.1,x.2.2.2.1,s,()),()))) (fun z=>some (.inr (.inl ((x.1,()),())))) (fun z=>some (.inr (.inr ((z,()),())))):=by kernel_rfl
theorem lo136_2 (F:Nat):LcOk Tryz.prog (E136 F) 0 (lc136_2 F) (cAt (bodyOf Tryz.f136) [1,0,1]):=
 mkR_ok (lp:=[]) (id:=0) (b:=cAt (bodyOf Tryz.f136) (0 :: 0 :: [1,0,1])) cok (cts136 F) mixed trivial (by kernel_rfl) (by kernel_rfl) (fun x y s=>(x.1,x.2.1,x.2.2.1,x.2.2.2.1,s,())) (fun x y s=>()) (fun x y=>rfl) (fun x y=>rfl) (fun x y s kA kO kR=>L136_2c F x.2.1 x.2.2.1 x.2.2.2.1 s kA kO kR) (fun x y s kA kO kR=>L136_2n F x.2.1 x.2.2.1 x.2.2.2.1 s kA kO kR) (le136_2 F)
def T136c (F:Nat) (p0:List (List UInt8)) (p1:Int) {β:Type} (k:Bool->Option β):Option β:=
 (Option.bind (iter (fun s=>L136_2 F p1 p0 (p0.length:Int) s) F (0:Int)) fun z16=>elimS (fun z16=>(k (decide ((p0.length:Int) < (16:Int))))) (fun z16=>(k z16)) z16)
def T136 (F:Nat) (p0:List (List UInt8)) (p1:Int):Option (Bool):=T136c F p0 p1 some
theorem T136n (F:Nat) (p0:List (List UInt8)) (p1:Int) {β:Type} (k:Bool->Option β):T136c F p0 p1 k=(T136 F p0 p1).bind k:=by
 simp only [T136,T136c,Option.bind_assoc,cond_bind,Option.bind_some,Option.bind_none,elimS_bind]
abbrev cA136:List Sh:=[(.ro (.sl .u8)),.i]
abbrev cB136:List Sh:=[.bo]
abbrev cT136:List TSh:=[]
abbrev cU136:List TSh:=[]
def ct136 (F:Nat):Ct:=mkC 0 cA136 cT136 cB136 cU136 (fun x y=>T136 F x.1 x.2.1) (fun x y (z:Bool)=>((z,()),()))
theorem eq136 (F:Nat) (x:dens cA136) (y:tdens cT136):sev (E136 F) 0 [([1,0,1],lc136_2 F)] (bodyOf Tryz.f136) [] (mkSt (rng 2) cA136 cT136 x y) (kFn (E136 F) 0 Tryz.f136.results.toList cB136 cU136 fun p q=>some (p,q)) =
  T136c F x.1 x.2.1 (fun z=>some ((z,()),())):=by kernel_rfl
theorem ok136 (F:Nat):Sound Tryz.prog cfg 136 (ct136 F):=
 mkC_ok (E:=E136 F) (lp:=[([1,0,1],lc136_2 F)]) (code:=bodyOf Tryz.f136) Tryz.func136 rfl Tryz.ntmps136 rfl rfl cok (cts136 F) mixed ⟨lo136_2 F,trivial⟩ (by kernel_rfl) (fun x y k=>T136c F x.1 x.2.1 k) (fun x y k=>T136n F x.1 x.2.1 k) (eq136 F)
def ord168:Nat->List (Tag×Nat)
 | _=>[]
def al168:Nat->Option Nat
 | _=>none
def ms168:Nat->Option (List (Option Tag×Nat×List Nat))
 | _=>none
def E168 (F:Nat):Ev:=⟨cfg,9,ctOf [],ord168,ctOf [],al168,ms168⟩
theorem cts168 (F:Nat):CtsOk Tryz.prog (E168 F):=cts_of (l:=[]) (l':=[]) rfl rfl trivial trivial
def T168c (F:Nat) (p0:Int) {β:Type} (k:Bool->Option β):Option β:=
 (bif (decide ((1:Int)≤p0)) then (k (decide (p0≤(255:Int)))) else (k false))
def T168 (F:Nat) (p0:Int):Option (Bool):=T168c F p0 some
theorem T168n (F:Nat) (p0:Int) {β:Type} (k:Bool->Option β):T168c F p0 k=(T168 F p0).bind k:=by
 simp only [T168,T168c,Option.bind_assoc,cond_bind,Option.bind_some,Option.bind_none,elimS_bind]
abbrev cA168:List Sh:=[.i]
abbrev cB168:List Sh:=[.bo]
abbrev cT168:List TSh:=[]
abbrev cU168:List TSh:=[]
def ct168 (F:Nat):Ct:=mkC 0 cA168 cT168 cB168 cU168 (fun x y=>T168 F x.1) (fun x y (z:Bool)=>((z,()),()))
theorem eq168 (F:Nat) (x:dens cA168) (y:tdens cT168):sev (E168 F) 0 [] (bodyOf Tryz.f168) [] (mkSt (rng 1) cA168 cT168 x y) (kFn (E168 F) 0 Tryz.f168.results.toList cB168 cU168 fun p q=>some (p,q)) =
  T168c F x.1 (fun z=>some ((z,()),())):=by kernel_rfl
theorem ok168 (F:Nat):Sound Tryz.prog cfg 168 (ct168 F):=
 mkC_ok (E:=E168 F) (lp:=[]) (code:=bodyOf Tryz.f168) Tryz.func168 rfl Tryz.ntmps168 rfl rfl cok (cts168 F) mixed trivial (by kernel_rfl) (fun x y k=>T168c F x.1 k) (fun x y k=>T168n F x.1 k) (eq168 F)
def ord137:Nat->List (Tag×Nat)
 | _=>[]
def al137:Nat->Option Nat
 | _=>none
def ms137:Nat->Option (List (Option Tag×Nat×List Nat))
 | _=>none
def E137 (F:Nat):Ev:=⟨cfg,26,ctOf [(168,ct168 F)],ord137,ctOf [],al137,ms137⟩
theorem cts137 (F:Nat):CtsOk Tryz.prog (E137 F):=cts_of (l:=[(168,ct168 F)]) (l':=[]) rfl rfl ⟨⟨ok168 F,_,Tryz.func168,rfl,rfl⟩,trivial⟩ trivial
def L137_2c (F:Nat) (y16:List Int) (y17:Int) (y18:Int) (y19:Vector Bool 256) {β:Type} (kA:(Int×(Vector Bool 256))->Option β) (kO:Unit->Option β) (kR:Bool->Option β):Option β:=
 (bif (decide (y18 < y17)) then (Option.bind (ix y16 y18) fun x25=>(Option.bind (T168 F x25) fun z26=>(bif (!z26) then (kR false) else (Option.bind (inb 256 x25) fun x27=>(Option.bind (vat y19 x27) fun x28=>(bif x28 then (kR false) else (Option.bind (inb 256 x25) fun x29=>(kA ((w64 (y18 + (1:Int))),(Vector.setIfInBounds y19 x29 true)))))))))) else (kO ()))
def L137_2 (F:Nat) (y16:List Int) (y17:Int) (y18:Int) (y19:Vector Bool 256):Option ((Int×(Vector Bool 256)) ⊕ ((Unit) ⊕ (Bool))):=L137_2c F y16 y17 y18 y19 (fun s=>some (.inl s)) (fun z=>some (.inr (.inl z))) (fun z=>some (.inr (.inr z)))
theorem L137_2n (F:Nat) (y16:List Int) (y17:Int) (y18:Int) (y19:Vector Bool 256) {β:Type} (kA:(Int×(Vector Bool 256))->Option β) (kO:Unit->Option β) (kR:Bool->Option β):L137_2c F y16 y17 y18 y19 kA kO kR=(L137_2 F y16 y17 y18 y19).bind (elimS kA (elimS kO kR)):=by
 simp only [L137_2,L137_2c,Option.bind_assoc,cond_bind,Option.bind_some,Option.bind_none,elimS_l,elimS_r,elimS_bind]
abbrev sA137_2:List Sh:=[(.pt 0 []),(.ro .i),.i,.i]
abbrev sAp1137_2:List Sh:=[]
abbrev sAp2137_2:List Sh:=[.bo]
abbrev sT137_2:List TSh:=[.blk 211 (.ar 256 .bo)]
abbrev sTp1137_2:List TSh:=[]
abbrev sTp2137_2:List TSh:=[]
def lc137_2 (F:Nat):Lc:=mkR [3,9,10,11] sA137_2 sT137_2 [] sAp1137_2 sTp1137_2 [2] sAp2137_2 sTp2137_2 F (fun x y (s:Int×(Vector Bool 256))=>L137_2 F x.2.1 x.2.2.1 s.1 s.2) (fun x y=>(x.2.2.2.1,y.1)) (fun x y (z:Unit)=>((),())) (fun x y (z:Bool)=>((z,()),()))
theorem le137_2 (F:Nat) (x:dens sA137_2) (y:tdens sT137_2) (s:Int×(Vector Bool 256)):sev (E137 F) 0 [] (cAt (bodyOf Tryz.f137) (0 :: 0 :: [1,0,1,1,1])) (0 :: 0 :: [1,0,1,1,1]) (mkSt [3,9,10,11] sA137_2 sT137_2 ((),x.2.1,x.2.2.1,s.1,()) (s.2,())) (kLoop 0 [3,9,10,11] sA137_2 sT137_2 [] sAp1137_2 sTp1137_2 [2] sAp2137_2 sTp2137_2 0 (fun x y=>some (.inl (x,y))) (fun x y=>some (.inr (.inl (x,y)))) (fun x y=>some (.inr (.inr (x,y))))) =
  L137_2c (β:=Full sA137_2 sT137_2 sAp1137_2 sTp1137_2 sAp2137_2 sTp2137_2) F x.2.1 x.2.2.1 s.1 s.2 (fun s=>some (.inl (((),x.2.1,x.2.2.1,s.1,()),(s.2,())))) (fun z=>some (.inr (.inl ((),())))) (fun z=>some (.inr (.inr ((z,()),())))):=by kernel_rfl
theorem lo137_2 (F:Nat):LcOk Tryz.prog (E137 F) 0 (lc137_2 F) (cAt (bodyOf Tryz.f137) [1,0,1,1,1]):=
 mkR_ok (lp:=[]) (id:=0) (b:=cAt (bodyOf Tryz.f137) (0 :: 0 :: [1,0,1,1,1])) cok (cts137 F) mixed trivial (by kernel_rfl) (by kernel_rfl) (fun x y s=>((),x.2.1,x.2.2.1,s.1,())) (fun x y s=>(s.2,())) (fun x y=>rfl) (fun x y=>rfl) (fun x y s kA kO kR=>L137_2c F x.2.1 x.2.2.1 s.1 s.2 kA kO kR) (fun x y s kA kO kR=>L137_2n F x.2.1 x.2.2.1 s.1 s.2 kA kO kR) (le137_2 F)
def T137c (F:Nat) (p0:List Int) {β:Type} (k:Bool->Option β):Option β:=
 (bif (decide ((64:Int) < (p0.length:Int))) then (k false) else (Option.bind (iter (fun s=>L137_2 F p0 (p0.length:Int) s.1 s.2) F ((0:Int),(Vector.replicate 256 false))) fun z30=>elimS (fun z30=>(k true)) (fun z30=>(k z30)) z30))
def T137 (F:Nat) (p0:List Int):Option (Bool):=T137c F p0 some
theorem T137n (F:Nat) (p0:List Int) {β:Type} (k:Bool->Option β):T137c F p0 k=(T137 F p0).bind k:=by
 simp only [T137,T137c,Option.bind_assoc,cond_bind,Option.bind_some,Option.bind_none,elimS_bind]
abbrev cA137:List Sh:=[(.ro .i)]
abbrev cB137:List Sh:=[.bo]
abbrev cT137:List TSh:=[]
abbrev cU137:List TSh:=[]
def ct137 (F:Nat):Ct:=mkC 0 cA137 cT137 cB137 cU137 (fun x y=>T137 F x.1) (fun x y (z:Bool)=>((z,()),()))
theorem eq137 (F:Nat) (x:dens cA137) (y:tdens cT137):sev (E137 F) 0 [([1,0,1,1,1],lc137_2 F)] (bodyOf Tryz.f137) [] (mkSt (rng 1) cA137 cT137 x y) (kFn (E137 F) 0 Tryz.f137.results.toList cB137 cU137 fun p q=>some (p,q)) =
  T137c F x.1 (fun z=>some ((z,()),())):=by kernel_rfl
theorem ok137 (F:Nat):Sound Tryz.prog cfg 137 (ct137 F):=
 mkC_ok (E:=E137 F) (lp:=[([1,0,1,1,1],lc137_2 F)]) (code:=bodyOf Tryz.f137) Tryz.func137 rfl Tryz.ntmps137 rfl rfl cok (cts137 F) mixed ⟨lo137_2 F,trivial⟩ (by kernel_rfl) (fun x y k=>T137c F x.1 k) (fun x y k=>T137n F x.1 k) (eq137 F)
def T172 (F:Nat) (p1:Int):Option (List (List UInt8)):=TGrow F p1
def ct172 (F:Nat):Ct:=mkC 0 [.ns,.i] [] [(.rw 0)] [.row 36 (.sl .u8)] (fun x y=>T172 F x.2.1) (fun x y (z:List (List UInt8))=>(((),()),(z,())))
theorem ok172 (F:Nat):Sound Tryz.prog cfg 172 (ct172 F):=grow_ok F
def ord139:Nat->List (Tag×Nat)
 | _=>[]
def al139:Nat->Option Nat
 | _=>none
def ms139:Nat->Option (List (Option Tag×Nat×List Nat))
 | _=>none
def E139 (F:Nat):Ev:=⟨cfg,36,ctOf [(172,ct172 F)],ord139,ctOf [],al139,ms139⟩
theorem cts139 (F:Nat):CtsOk Tryz.prog (E139 F):=cts_of (l:=[(172,ct172 F)]) (l':=[]) rfl rfl ⟨⟨ok172 F,_,Tryz.func172,rfl,rfl⟩,trivial⟩ trivial
def L139_3c (F:Nat) (y21:List (List (List UInt8))) (y22:Int) (y20:Int) (y23:Int) {β:Type} (kA:(Int×Int)->Option β) (kO:Int->Option β):Option β:=
 (bif (decide (y23 < y22)) then (Option.bind (ix y21 y23) fun x25=>(bif (decide ((w64 (y20 + (x25.length:Int))) < (0:Int))) then none else (kA ((w64 (y20 + (x25.length:Int))),(w64 (y23 + (1:Int))))))) else (kO y20))
def L139_3 (F:Nat) (y21:List (List (List UInt8))) (y22:Int) (y20:Int) (y23:Int):Option ((Int×Int) ⊕ (Int)):=L139_3c F y21 y22 y20 y23 (fun s=>some (.inl s)) (fun z=>some (.inr z))
theorem L139_3n (F:Nat) (y21:List (List (List UInt8))) (y22:Int) (y20:Int) (y23:Int) {β:Type} (kA:(Int×Int)->Option β) (kO:Int->Option β):L139_3c F y21 y22 y20 y23 kA kO=(L139_3 F y21 y22 y20 y23).bind (elimS kA kO):=by
 simp only [L139_3,L139_3c,Option.bind_assoc,cond_bind,Option.bind_some,Option.bind_none,elimS_l,elimS_r,elimS_bind]
abbrev sA139_3:List Sh:=[(.ro (.sl (.sl .u8))),.i,(.ro (.sl (.sl .u8))),.i,.i]
abbrev sAp1139_3:List Sh:=[(.ro (.sl (.sl .u8))),.i]
abbrev sT139_3:List TSh:=[]
abbrev sTp1139_3:List TSh:=[]
def lc139_3 (F:Nat):Lc:=mkL [0,3,9,10,11] sA139_3 sT139_3 [0,3] sAp1139_3 sTp1139_3 F (fun x y (s:Int×Int)=>L139_3 F x.2.2.1 x.2.2.2.1 s.1 s.2) (fun x y=>(x.2.1,x.2.2.2.2.1)) (fun x y (z:Int)=>((x.1,z,()),()))
theorem le139_3 (F:Nat) (x:dens sA139_3) (y:tdens sT139_3) (s:Int×Int):sev (E139 F) 0 [] (cAt (bodyOf Tryz.f139) (0 :: 0 :: [1,0,1,1])) (0 :: 0 :: [1,0,1,1]) (mkSt [0,3,9,10,11] sA139_3 sT139_3 (x.1,s.1,x.2.2.1,x.2.2.2.1,s.2,()) ()) (kLoop 0 [0,3,9,10,11] sA139_3 sT139_3 [0,3] sAp1139_3 sTp1139_3 [] [] [] 0 (fun x y=>some (.inl (x,y))) (fun x y=>some (.inr (.inl (x,y)))) (fun x y=>some (.inr (.inr (x,y))))) =
  L139_3c (β:=Full sA139_3 sT139_3 sAp1139_3 sTp1139_3 [] []) F x.2.2.1 x.2.2.2.1 s.1 s.2 (fun s=>some (.inl ((x.1,s.1,x.2.2.1,x.2.2.2.1,s.2,()),()))) (fun z=>some (.inr (.inl ((x.1,z,()),())))):=by kernel_rfl
theorem lo139_3 (F:Nat):LcOk Tryz.prog (E139 F) 0 (lc139_3 F) (cAt (bodyOf Tryz.f139) [1,0,1,1]):=
 mkL_ok (lp:=[]) (id:=0) (b:=cAt (bodyOf Tryz.f139) (0 :: 0 :: [1,0,1,1])) cok (cts139 F) mixed trivial (by kernel_rfl) (by kernel_rfl) (fun x y s=>(x.1,s.1,x.2.2.1,x.2.2.2.1,s.2,())) (fun x y s=>()) (fun x y=>rfl) (fun x y=>rfl) (fun x y s kA kO=>L139_3c F x.2.2.1 x.2.2.2.1 s.1 s.2 kA kO) (fun x y s kA kO=>L139_3n F x.2.2.1 x.2.2.2.1 s.1 s.2 kA kO) (le139_3 F)
def L139_4c (F:Nat) (y28:List (List (List UInt8))) (y29:Int) (y30:Int) (y31:List (List UInt8)) {β:Type} (kA:(Int×(List (List UInt8)))->Option β) (kO:((List (List UInt8)))->Option β):Option β:=
 (bif (decide (y30 < y29)) then (Option.bind (ix y28 y30) fun x34=>(Option.bind (gapp y31 x34) fun x35=>(kA ((w64 (y30 + (1:Int))),x35)))) else (kO y31))
def L139_4 (F:Nat) (y28:List (List (List UInt8))) (y29:Int) (y30:Int) (y31:List (List UInt8)):Option ((Int×(List (List UInt8))) ⊕ ((List (List UInt8)))):=L139_4c F y28 y29 y30 y31 (fun s=>some (.inl s)) (fun z=>some (.inr z))
theorem L139_4n (F:Nat) (y28:List (List (List UInt8))) (y29:Int) (y30:Int) (y31:List (List UInt8)) {β:Type} (kA:(Int×(List (List UInt8)))->Option β) (kO:((List (List UInt8)))->Option β):L139_4c F y28 y29 y30 y31 kA kO=(L139_4 F y28 y29 y30 y31).bind (elimS kA kO):=by
 simp only [L139_4,L139_4c,Option.bind_assoc,cond_bind,Option.bind_some,Option.bind_none,elimS_l,elimS_r,elimS_bind]
abbrev sA139_4:List Sh:=[(.rw 0),(.ro (.sl (.sl .u8))),.i,.i]
abbrev sAp1139_4:List Sh:=[(.rw 0)]
abbrev sT139_4:List TSh:=[.row 36 (.sl .u8)]
abbrev sTp1139_4:List TSh:=[.row 36 (.sl .u8)]
def lc139_4 (F:Nat):Lc:=mkL [6,25,26,27] sA139_4 sT139_4 [6] sAp1139_4 sTp1139_4 F (fun x y (s:Int×(List (List UInt8)))=>L139_4 F x.2.1 x.2.2.1 s.1 s.2) (fun x y=>(x.2.2.2.1,y.1)) (fun x y (z:(List (List UInt8)))=>(((),()),(z,())))
theorem le139_4 (F:Nat) (x:dens sA139_4) (y:tdens sT139_4) (s:Int×(List (List UInt8))):sev (E139 F) 0 [] (cAt (bodyOf Tryz.f139) (0 :: 0 :: [1,0,1,1,1,1])) (0 :: 0 :: [1,0,1,1,1,1]) (mkSt [6,25,26,27] sA139_4 sT139_4 ((),x.2.1,x.2.2.1,s.1,()) (s.2,())) (kLoop 0 [6,25,26,27] sA139_4 sT139_4 [6] sAp1139_4 sTp1139_4 [] [] [] 2 (fun x y=>some (.inl (x,y))) (fun x y=>some (.inr (.inl (x,y)))) (fun x y=>some (.inr (.inr (x,y))))) =
  L139_4c (β:=Full sA139_4 sT139_4 sAp1139_4 sTp1139_4 [] []) F x.2.1 x.2.2.1 s.1 s.2 (fun s=>some (.inl (((),x.2.1,x.2.2.1,s.1,()),(s.2,())))) (fun z=>some (.inr (.inl (((),()),(z,()))))):=by kernel_rfl
theorem lo139_4 (F:Nat):LcOk Tryz.prog (E139 F) 0 (lc139_4 F) (cAt (bodyOf Tryz.f139) [1,0,1,1,1,1]):=
 mkL_ok (lp:=[]) (id:=2) (b:=cAt (bodyOf Tryz.f139) (0 :: 0 :: [1,0,1,1,1,1])) cok (cts139 F) mixed trivial (by kernel_rfl) (by kernel_rfl) (fun x y s=>((),x.2.1,x.2.2.1,s.1,())) (fun x y s=>(s.2,())) (fun x y=>rfl) (fun x y=>rfl) (fun x y s kA kO=>L139_4c F x.2.1 x.2.2.1 s.1 s.2 kA kO) (fun x y s kA kO=>L139_4n F x.2.1 x.2.2.1 s.1 s.2 kA kO) (le139_4 F)
def T139c (F:Nat) (p0:List (List (List UInt8))) {β:Type} (k:((List (List UInt8)))->Option β):Option β:=
 (Option.bind (iter (fun s=>L139_3 F p0 (p0.length:Int) s.1 s.2) F ((0:Int),(0:Int))) fun z26=>(Option.bind (T172 F z26) fun z27=>(Option.bind (iter (fun s=>L139_4 F p0 (p0.length:Int) s.1 s.2) F ((0:Int),z27)) fun z36=>(k z36))))
def T139 (F:Nat) (p0:List (List (List UInt8))):Option ((List (List UInt8))):=T139c F p0 some
theorem T139n (F:Nat) (p0:List (List (List UInt8))) {β:Type} (k:((List (List UInt8)))->Option β):T139c F p0 k=(T139 F p0).bind k:=by
 simp only [T139,T139c,Option.bind_assoc,cond_bind,Option.bind_some,Option.bind_none,elimS_bind]
abbrev cA139:List Sh:=[(.ro (.sl (.sl .u8)))]
abbrev cB139:List Sh:=[(.rw 0)]
abbrev cT139:List TSh:=[]
abbrev cU139:List TSh:=[.row 36 (.sl .u8)]
def ct139 (F:Nat):Ct:=mkC 0 cA139 cT139 cB139 cU139 (fun x y=>T139 F x.1) (fun x y (z:(List (List UInt8)))=>(((),()),(z,())))
theorem eq139 (F:Nat) (x:dens cA139) (y:tdens cT139):sev (E139 F) 0 [([1,0,1,1],lc139_3 F),([1,0,1,1,1,1],lc139_4 F)] (bodyOf Tryz.f139) [] (mkSt (rng 1) cA139 cT139 x y) (kFn (E139 F) 0 Tryz.f139.results.toList cB139 cU139 fun p q=>some (p,q)) =
  T139c F x.1 (fun z=>some (((),()),(z,()))):=by kernel_rfl
theorem ok139 (F:Nat):Sound Tryz.prog cfg 139 (ct139 F):=
 mkC_ok (E:=E139 F) (lp:=[([1,0,1,1],lc139_3 F),([1,0,1,1,1,1],lc139_4 F)]) (code:=bodyOf Tryz.f139) Tryz.func139 rfl Tryz.ntmps139 rfl rfl cok (cts139 F) mixed ⟨lo139_3 F,⟨lo139_4 F,trivial⟩⟩ (by kernel_rfl) (fun x y k=>T139c F x.1 k) (fun x y k=>T139n F x.1 k) (eq139 F)
def ord138:Nat->List (Tag×Nat)
 | _=>[]
def al138:Nat->Option Nat
 | _=>none
def ms138:Nat->Option (List (Option Tag×Nat×List Nat))
 | _=>none
def E138 (F:Nat):Ev:=⟨cfg,4,ctOf [],ord138,ctOf [],al138,ms138⟩
theorem cts138 (F:Nat):CtsOk Tryz.prog (E138 F):=cts_of (l:=[]) (l':=[]) rfl rfl trivial trivial
def T138c (F:Nat) {β:Type} (k:Unit->Option β):Option β:=
 (k ())
def T138 (F:Nat):Option (Unit):=T138c F some
theorem T138n (F:Nat) {β:Type} (k:Unit->Option β):T138c F k=(T138 F).bind k:=by
 simp only [T138,T138c,Option.bind_assoc,cond_bind,Option.bind_some,Option.bind_none,elimS_bind]
abbrev cA138:List Sh:=[(.ro (.sl .u8))]
abbrev cB138:List Sh:=[(.fn 169 .un (.pr (.pt 0 []) .un))]
abbrev cT138:List TSh:=[]
abbrev cU138:List TSh:=[.blk 141 (.ro (.sl .u8))]
def ct138 (F:Nat):Ct:=mkC 0 cA138 cT138 cB138 cU138 (fun x y=>T138 F) (fun x y (z:Unit)=>((((),((),())),()),(x.1,())))
theorem eq138 (F:Nat) (x:dens cA138) (y:tdens cT138):sev (E138 F) 0 [] (bodyOf Tryz.f138) [] (mkSt (rng 1) cA138 cT138 x y) (kFn (E138 F) 0 Tryz.f138.results.toList cB138 cU138 fun p q=>some (p,q)) =
  T138c F (fun z=>some ((((),((),())),()),(x.1,()))):=by kernel_rfl
theorem ok138 (F:Nat):Sound Tryz.prog cfg 138 (ct138 F):=
 mkC_ok (E:=E138 F) (lp:=[]) (code:=bodyOf Tryz.f138) Tryz.func138 rfl Tryz.ntmps138 rfl rfl cok (cts138 F) mixed trivial (by kernel_rfl) (fun x y k=>T138c F k) (fun x y k=>T138n F k) (eq138 F)
def ord170:Nat->List (Tag×Nat)
 | _=>[]
def al170:Nat->Option Nat
 | _=>none
def ms170:Nat->Option (List (Option Tag×Nat×List Nat))
 | _=>none
def E170 (F:Nat):Ev:=⟨cfg,4,ctOf [],ord170,ctOf [],al170,ms170⟩
theorem cts170 (F:Nat):CtsOk Tryz.prog (E170 F):=cts_of (l:=[]) (l':=[]) rfl rfl trivial trivial
def T170c (F:Nat) {β:Type} (k:Unit->Option β):Option β:=
 (k ())
def T170 (F:Nat):Option (Unit):=T170c F some
theorem T170n (F:Nat) {β:Type} (k:Unit->Option β):T170c F k=(T170 F).bind k:=by
 simp only [T170,T170c,Option.bind_assoc,cond_bind,Option.bind_some,Option.bind_none,elimS_bind]
abbrev cA170:List Sh:=[(.ro (.sl .u8))]
abbrev cB170:List Sh:=[(.fn 198 .un (.pr (.pt 0 []) .un))]
abbrev cT170:List TSh:=[]
abbrev cU170:List TSh:=[.blk 141 (.ro (.sl .u8))]
def ct170 (F:Nat):Ct:=mkC 0 cA170 cT170 cB170 cU170 (fun x y=>T170 F) (fun x y (z:Unit)=>((((),((),())),()),(x.1,())))
theorem eq170 (F:Nat) (x:dens cA170) (y:tdens cT170):sev (E170 F) 0 [] (bodyOf Tryz.f170) [] (mkSt (rng 1) cA170 cT170 x y) (kFn (E170 F) 0 Tryz.f170.results.toList cB170 cU170 fun p q=>some (p,q)) =
  T170c F (fun z=>some ((((),((),())),()),(x.1,()))):=by kernel_rfl
theorem ok170 (F:Nat):Sound Tryz.prog cfg 170 (ct170 F):=
 mkC_ok (E:=E170 F) (lp:=[]) (code:=bodyOf Tryz.f170) Tryz.func170 rfl Tryz.ntmps170 rfl rfl cok (cts170 F) mixed trivial (by kernel_rfl) (fun x y k=>T170c F k) (fun x y k=>T170n F k) (eq170 F)
def ord203:Nat->List (Tag×Nat)
 | _=>[]
def al203:Nat->Option Nat
 | _=>none
def ms203:Nat->Option (List (Option Tag×Nat×List Nat))
 | _=>none
def E203 (F:Nat):Ev:=⟨cfg,11,ctOf [],ord203,ctOf [],al203,ms203⟩
theorem cts203 (F:Nat):CtsOk Tryz.prog (E203 F):=cts_of (l:=[]) (l':=[]) rfl rfl trivial trivial
def T203c (F:Nat) (p0:UInt8) {β:Type} (k:UInt8->Option β):Option β:=
 (bif ((p0 &&& (UInt8.ofNat 128)) != (UInt8.ofNat 0)) then (k ((shl8 p0 ((UInt64.ofNat 1).toNat)) ^^^ (UInt8.ofNat 29))) else (k (shl8 p0 ((UInt64.ofNat 1).toNat))))
def T203 (F:Nat) (p0:UInt8):Option (UInt8):=T203c F p0 some
theorem T203n (F:Nat) (p0:UInt8) {β:Type} (k:UInt8->Option β):T203c F p0 k=(T203 F p0).bind k:=by
 simp only [T203,T203c,Option.bind_assoc,cond_bind,Option.bind_some,Option.bind_none,elimS_bind]
abbrev cA203:List Sh:=[.u8]
abbrev cB203:List Sh:=[.u8]
abbrev cT203:List TSh:=[]
abbrev cU203:List TSh:=[]
def ct203 (F:Nat):Ct:=mkC 0 cA203 cT203 cB203 cU203 (fun x y=>T203 F x.1) (fun x y (z:UInt8)=>((z,()),()))
theorem eq203 (F:Nat) (x:dens cA203) (y:tdens cT203):sev (E203 F) 0 [] (bodyOf Tryz.f203) [] (mkSt (rng 1) cA203 cT203 x y) (kFn (E203 F) 0 Tryz.f203.results.toList cB203 cU203 fun p q=>some (p,q)) =
  T203c F x.1 (fun z=>some ((z,()),())):=by kernel_rfl
theorem ok203 (F:Nat):Sound Tryz.prog cfg 203 (ct203 F):=
 mkC_ok (E:=E203 F) (lp:=[]) (code:=bodyOf Tryz.f203) Tryz.func203 rfl Tryz.ntmps203 rfl rfl cok (cts203 F) mixed trivial (by kernel_rfl) (fun x y k=>T203c F x.1 k) (fun x y k=>T203n F x.1 k) (eq203 F)
def ord186:Nat->List (Tag×Nat)
 | _=>[]
def al186:Nat->Option Nat
 | _=>none
def ms186:Nat->Option (List (Option Tag×Nat×List Nat))
 | _=>none
def E186 (F:Nat):Ev:=⟨cfg,19,ctOf [(203,ct203 F)],ord186,ctOf [],al186,ms186⟩
theorem cts186 (F:Nat):CtsOk Tryz.prog (E186 F):=cts_of (l:=[(203,ct203 F)]) (l':=[]) rfl rfl ⟨⟨ok203 F,_,Tryz.func203,rfl,rfl⟩,trivial⟩ trivial
def L186_2c (F:Nat) (y9:UInt8) (y10:UInt8) (y11:UInt8) {β:Type} (kA:(UInt8×UInt8×UInt8)->Option β) (kO:UInt8->Option β):Option β:=
 (bif (y10 != (UInt8.ofNat 0)) then (bif ((y10 &&& (UInt8.ofNat 1)) == (UInt8.ofNat 1)) then (Option.bind (T203 F y9) fun z14=>(kA (z14,(shr8 y10 ((UInt64.ofNat 1).toNat)),(y11 ^^^ y9)))) else (Option.bind (T203 F y9) fun z15=>(kA (z15,(shr8 y10 ((UInt64.ofNat 1).toNat)),y11)))) else (kO y11))
def L186_2 (F:Nat) (y9:UInt8) (y10:UInt8) (y11:UInt8):Option ((UInt8×UInt8×UInt8) ⊕ (UInt8)):=L186_2c F y9 y10 y11 (fun s=>some (.inl s)) (fun z=>some (.inr z))
theorem L186_2n (F:Nat) (y9:UInt8) (y10:UInt8) (y11:UInt8) {β:Type} (kA:(UInt8×UInt8×UInt8)->Option β) (kO:UInt8->Option β):L186_2c F y9 y10 y11 kA kO=(L186_2 F y9 y10 y11).bind (elimS kA kO):=by
 simp only [L186_2,L186_2c,Option.bind_assoc,cond_bind,Option.bind_some,Option.bind_none,elimS_l,elimS_r,elimS_bind]
abbrev sA186_2:List Sh:=[.u8,.u8,.u8]
abbrev sAp1186_2:List Sh:=[.u8]
abbrev sT186_2:List TSh:=[]
abbrev sTp1186_2:List TSh:=[]
def lc186_2 (F:Nat):Lc:=mkL [0,1,5] sA186_2 sT186_2 [5] sAp1186_2 sTp1186_2 F (fun x y (s:UInt8×UInt8×UInt8)=>L186_2 F s.1 s.2.1 s.2.2) (fun x y=>(x.1,x.2.1,x.2.2.1)) (fun x y (z:UInt8)=>((z,()),()))
theorem le186_2 (F:Nat) (x:dens sA186_2) (y:tdens sT186_2) (s:UInt8×UInt8×UInt8):sev (E186 F) 0 [] (cAt (bodyOf Tryz.f186) (0 :: 0 :: [0,1,1])) (0 :: 0 :: [0,1,1]) (mkSt [0,1,5] sA186_2 sT186_2 (s.1,s.2.1,s.2.2,()) ()) (kLoop 0 [0,1,5] sA186_2 sT186_2 [5] sAp1186_2 sTp1186_2 [] [] [] 0 (fun x y=>some (.inl (x,y))) (fun x y=>some (.inr (.inl (x,y)))) (fun x y=>some (.inr (.inr (x,y))))) =
  L186_2c (β:=Full sA186_2 sT186_2 sAp1186_2 sTp1186_2 [] []) F s.1 s.2.1 s.2.2 (fun s=>some (.inl ((s.1,s.2.1,s.2.2,()),()))) (fun z=>some (.inr (.inl ((z,()),())))):=by kernel_rfl
theorem lo186_2 (F:Nat):LcOk Tryz.prog (E186 F) 0 (lc186_2 F) (cAt (bodyOf Tryz.f186) [0,1,1]):=
 mkL_ok (lp:=[]) (id:=0) (b:=cAt (bodyOf Tryz.f186) (0 :: 0 :: [0,1,1])) cok (cts186 F) mixed trivial (by kernel_rfl) (by kernel_rfl) (fun x y s=>(s.1,s.2.1,s.2.2,())) (fun x y s=>()) (fun x y=>rfl) (fun x y=>rfl) (fun x y s kA kO=>L186_2c F s.1 s.2.1 s.2.2 kA kO) (fun x y s kA kO=>L186_2n F s.1 s.2.1 s.2.2 kA kO) (le186_2 F)
def T186c (F:Nat) (p0:UInt8) (p1:UInt8) {β:Type} (k:UInt8->Option β):Option β:=
 (Option.bind (iter (fun s=>L186_2 F s.1 s.2.1 s.2.2) F (p0,p1,(UInt8.ofNat 0))) fun z16=>(k z16))
def T186 (F:Nat) (p0:UInt8) (p1:UInt8):Option (UInt8):=T186c F p0 p1 some
theorem T186n (F:Nat) (p0:UInt8) (p1:UInt8) {β:Type} (k:UInt8->Option β):T186c F p0 p1 k=(T186 F p0 p1).bind k:=by
 simp only [T186,T186c,Option.bind_assoc,cond_bind,Option.bind_some,Option.bind_none,elimS_bind]
abbrev cA186:List Sh:=[.u8,.u8]
abbrev cB186:List Sh:=[.u8]
abbrev cT186:List TSh:=[]
abbrev cU186:List TSh:=[]
def ct186 (F:Nat):Ct:=mkC 0 cA186 cT186 cB186 cU186 (fun x y=>T186 F x.1 x.2.1) (fun x y (z:UInt8)=>((z,()),()))
theorem eq186 (F:Nat) (x:dens cA186) (y:tdens cT186):sev (E186 F) 0 [([0,1,1],lc186_2 F)] (bodyOf Tryz.f186) [] (mkSt (rng 2) cA186 cT186 x y) (kFn (E186 F) 0 Tryz.f186.results.toList cB186 cU186 fun p q=>some (p,q)) =
  T186c F x.1 x.2.1 (fun z=>some ((z,()),())):=by kernel_rfl
theorem ok186 (F:Nat):Sound Tryz.prog cfg 186 (ct186 F):=
 mkC_ok (E:=E186 F) (lp:=[([0,1,1],lc186_2 F)]) (code:=bodyOf Tryz.f186) Tryz.func186 rfl Tryz.ntmps186 rfl rfl cok (cts186 F) mixed ⟨lo186_2 F,trivial⟩ (by kernel_rfl) (fun x y k=>T186c F x.1 x.2.1 k) (fun x y k=>T186n F x.1 x.2.1 k) (eq186 F)
def ord206:Nat->List (Tag×Nat)
 | _=>[]
def al206:Nat->Option Nat
 | _=>none
def ms206:Nat->Option (List (Option Tag×Nat×List Nat))
 | _=>none
def E206 (F:Nat):Ev:=⟨cfg,24,ctOf [(186,ct186 F)],ord206,ctOf [],al206,ms206⟩
theorem cts206 (F:Nat):CtsOk Tryz.prog (E206 F):=cts_of (l:=[(186,ct186 F)]) (l':=[]) rfl rfl ⟨⟨ok186 F,_,Tryz.func186,rfl,rfl⟩,trivial⟩ trivial
def L206_2c (F:Nat) (y14:UInt8) (y15:Int) (y16:Vector UInt8 16) (y17:Vector UInt8 16) {β:Type} (kA:(Int×(Vector UInt8 16)×(Vector UInt8 16))->Option β) (kO:((Vector UInt8 16)×(Vector UInt8 16))->Option β):Option β:=
 (bif (decide (y15 < (16:Int))) then (Option.bind (T186 F y14 (UInt8.ofInt y15)) fun z22=>(Option.bind (inb 16 y15) fun x23=>(Option.bind (T186 F y14 (UInt8.ofInt (w64 (y15 * 2 ^ min ((UInt64.ofNat 4).toNat) 64)))) fun z24=>(Option.bind (inb 16 y15) fun x25=>(kA ((w64 (y15 + (1:Int))),(Vector.setIfInBounds y16 x23 z22),(Vector.setIfInBounds y17 x25 z24))))))) else (kO (y16,y17)))
def L206_2 (F:Nat) (y14:UInt8) (y15:Int) (y16:Vector UInt8 16) (y17:Vector UInt8 16):Option ((Int×(Vector UInt8 16)×(Vector UInt8 16)) ⊕ ((Vector UInt8 16)×(Vector UInt8 16))):=L206_2c F y14 y15 y16 y17 (fun s=>some (.inl s)) (fun z=>some (.inr z))
theorem L206_2n (F:Nat) (y14:UInt8) (y15:Int) (y16:Vector UInt8 16) (y17:Vector UInt8 16) {β:Type} (kA:(Int×(Vector UInt8 16)×(Vector UInt8 16))->Option β) (kO:((Vector UInt8 16)×(Vector UInt8 16))->Option β):L206_2c F y14 y15 y16 y17 kA kO=(L206_2 F y14 y15 y16 y17).bind (elimS kA kO):=by
 simp only [L206_2,L206_2c,Option.bind_assoc,cond_bind,Option.bind_some,Option.bind_none,elimS_l,elimS_r,elimS_bind]
abbrev sA206_2:List Sh:=[.u8,(.pt 0 []),(.pt 1 []),.i]
abbrev sAp1206_2:List Sh:=[(.pt 0 []),(.pt 1 [])]
abbrev sT206_2:List TSh:=[.blk 248 (.ar 16 .u8),.blk 248 (.ar 16 .u8)]
abbrev sTp1206_2:List TSh:=[.blk 248 (.ar 16 .u8),.blk 248 (.ar 16 .u8)]
def lc206_2 (F:Nat):Lc:=mkL [0,3,4,6] sA206_2 sT206_2 [3,4] sAp1206_2 sTp1206_2 F (fun x y (s:Int×(Vector UInt8 16)×(Vector UInt8 16))=>L206_2 F x.1 s.1 s.2.1 s.2.2) (fun x y=>(x.2.2.2.1,y.1,y.2.1)) (fun x y (z:(Vector UInt8 16)×(Vector UInt8 16))=>(((),(),()),(z.1,z.2,())))
theorem le206_2 (F:Nat) (x:dens sA206_2) (y:tdens sT206_2) (s:Int×(Vector UInt8 16)×(Vector UInt8 16)):sev (E206 F) 0 [] (cAt (bodyOf Tryz.f206) (0 :: 0 :: [1,0,1,1])) (0 :: 0 :: [1,0,1,1]) (mkSt [0,3,4,6] sA206_2 sT206_2 (x.1,(),(),s.1,()) (s.2.1,s.2.2,())) (kLoop 0 [0,3,4,6] sA206_2 sT206_2 [3,4] sAp1206_2 sTp1206_2 [] [] [] 0 (fun x y=>some (.inl (x,y))) (fun x y=>some (.inr (.inl (x,y)))) (fun x y=>some (.inr (.inr (x,y))))) =
  L206_2c (β:=Full sA206_2 sT206_2 sAp1206_2 sTp1206_2 [] []) F x.1 s.1 s.2.1 s.2.2 (fun s=>some (.inl ((x.1,(),(),s.1,()),(s.2.1,s.2.2,())))) (fun z=>some (.inr (.inl (((),(),()),(z.1,z.2,()))))):=by kernel_rfl
theorem lo206_2 (F:Nat):LcOk Tryz.prog (E206 F) 0 (lc206_2 F) (cAt (bodyOf Tryz.f206) [1,0,1,1]):=
 mkL_ok (lp:=[]) (id:=0) (b:=cAt (bodyOf Tryz.f206) (0 :: 0 :: [1,0,1,1])) cok (cts206 F) mixed trivial (by kernel_rfl) (by kernel_rfl) (fun x y s=>(x.1,(),(),s.1,())) (fun x y s=>(s.2.1,s.2.2,())) (fun x y=>rfl) (fun x y=>rfl) (fun x y s kA kO=>L206_2c F x.1 s.1 s.2.1 s.2.2 kA kO) (fun x y s kA kO=>L206_2n F x.1 s.1 s.2.1 s.2.2 kA kO) (le206_2 F)
def T206c (F:Nat) (p0:UInt8) {β:Type} (k:((Vector UInt8 16)×(Vector UInt8 16))->Option β):Option β:=
 (Option.bind (iter (fun s=>L206_2 F p0 s.1 s.2.1 s.2.2) F ((0:Int),(Vector.replicate 16 (0:UInt8)),(Vector.replicate 16 (0:UInt8)))) fun z26=>(k (z26.1,z26.2)))
def T206 (F:Nat) (p0:UInt8):Option ((Vector UInt8 16)×(Vector UInt8 16)):=T206c F p0 some
theorem T206n (F:Nat) (p0:UInt8) {β:Type} (k:((Vector UInt8 16)×(Vector UInt8 16))->Option β):T206c F p0 k=(T206 F p0).bind k:=by
 simp only [T206,T206c,Option.bind_assoc,cond_bind,Option.bind_some,Option.bind_none,elimS_bind]
abbrev cA206:List Sh:=[.u8]
abbrev cB206:List Sh:=[(.fn 207 .un (.pr (.pt 0 []) (.pr (.pt 1 []) .un)))]
abbrev cT206:List TSh:=[]
abbrev cU206:List TSh:=[.blk 248 (.ar 16 .u8),.blk 248 (.ar 16 .u8)]
def ct206 (F:Nat):Ct:=mkC 0 cA206 cT206 cB206 cU206 (fun x y=>T206 F x.1) (fun x y (z:(Vector UInt8 16)×(Vector UInt8 16))=>((((),((),(),())),()),(z.1,z.2,())))
theorem eq206 (F:Nat) (x:dens cA206) (y:tdens cT206):sev (E206 F) 0 [([1,0,1,1],lc206_2 F)] (bodyOf Tryz.f206) [] (mkSt (rng 1) cA206 cT206 x y) (kFn (E206 F) 0 Tryz.f206.results.toList cB206 cU206 fun p q=>some (p,q)) =
  T206c F x.1 (fun z=>some ((((),((),(),())),()),(z.1,z.2,()))):=by kernel_rfl
theorem ok206 (F:Nat):Sound Tryz.prog cfg 206 (ct206 F):=
 mkC_ok (E:=E206 F) (lp:=[([1,0,1,1],lc206_2 F)]) (code:=bodyOf Tryz.f206) Tryz.func206 rfl Tryz.ntmps206 rfl rfl cok (cts206 F) mixed ⟨lo206_2 F,trivial⟩ (by kernel_rfl) (fun x y k=>T206c F x.1 k) (fun x y k=>T206n F x.1 k) (eq206 F)
def ord207:Nat->List (Tag×Nat)
 | 1=>[(.p,0),(.p,1),(.p,2),(.r,3),(.p,4),(.p,5),(.p,6),(.r,7),(.p,8),(.p,9)]
 | _=>[]
def al207:Nat->Option Nat
 | _=>none
def ms207:Nat->Option (List (Option Tag×Nat×List Nat))
 | _=>none
def E207 (F:Nat):Ev:=⟨cfg,14,ctOf [],ord207,ctOf [],al207,ms207⟩
theorem cts207 (F:Nat):CtsOk Tryz.prog (E207 F):=cts_of (l:=[]) (l':=[]) rfl rfl trivial trivial
def T207c (F:Nat) (p0:UInt8) (p1:Vector UInt8 16) (p2:Vector UInt8 16) {β:Type} (k:UInt8->Option β):Option β:=
 (Option.bind (vix p1 ((p0 &&& (UInt8.ofNat 15)).toNat:Int)) fun x3=>(Option.bind (vix p2 ((shr8 p0 ((UInt64.ofNat 4).toNat)).toNat:Int)) fun x4=>(k (x3 ^^^ x4))))
def T207 (F:Nat) (p0:UInt8) (p1:Vector UInt8 16) (p2:Vector UInt8 16):Option (UInt8):=T207c F p0 p1 p2 some
theorem T207n (F:Nat) (p0:UInt8) (p1:Vector UInt8 16) (p2:Vector UInt8 16) {β:Type} (k:UInt8->Option β):T207c F p0 p1 p2 k=(T207 F p0 p1 p2).bind k:=by
 simp only [T207,T207c,Option.bind_assoc,cond_bind,Option.bind_some,Option.bind_none,elimS_bind]
abbrev cA207:List Sh:=[.u8,(.re (.ar 16 .u8)),(.re (.ar 16 .u8))]
abbrev cB207:List Sh:=[.u8]
abbrev cT207:List TSh:=[]
abbrev cU207:List TSh:=[]
def ct207 (F:Nat):Ct:=mkC 0 cA207 cT207 cB207 cU207 (fun x y=>T207 F x.1 x.2.1 x.2.2.1) (fun x y (z:UInt8)=>((z,()),()))
theorem eq207 (F:Nat) (x:dens cA207) (y:tdens cT207):sev (E207 F) 0 [] (bodyOf Tryz.f207) [] (mkSt (rng 3) cA207 cT207 x y) (kFn (E207 F) 0 Tryz.f207.results.toList cB207 cU207 fun p q=>some (p,q)) =
  T207c F x.1 x.2.1 x.2.2.1 (fun z=>some ((z,()),())):=by kernel_rfl
theorem ok207 (F:Nat):Sound Tryz.prog cfg 207 (ct207 F):=
 mkC_ok (E:=E207 F) (lp:=[]) (code:=bodyOf Tryz.f207) Tryz.func207 rfl Tryz.ntmps207 rfl rfl cok (cts207 F) mixed trivial (by kernel_rfl) (fun x y k=>T207c F x.1 x.2.1 x.2.2.1 k) (fun x y k=>T207n F x.1 x.2.1 x.2.2.1 k) (eq207 F)
def ord199:Nat->List (Tag×Nat)
 | _=>[]
def al199:Nat->Option Nat
 | _=>none
def ms199:Nat->Option (List (Option Tag×Nat×List Nat))
 | _=>none
def E199 (F:Nat):Ev:=⟨cfg,29,ctOf [(206,ct206 F),(207,ct207 F)],ord199,ctOf [],al199,ms199⟩
theorem cts199 (F:Nat):CtsOk Tryz.prog (E199 F):=cts_of (l:=[(206,ct206 F),(207,ct207 F)]) (l':=[]) rfl rfl ⟨⟨ok206 F,_,Tryz.func206,rfl,rfl⟩,⟨⟨ok207 F,_,Tryz.func207,rfl,rfl⟩,trivial⟩⟩ trivial
def L199_2c (F:Nat) (y18:List UInt8) (y19:Int) (y21:Vector UInt8 16) (y22:Vector UInt8 16) (y20:Int) (y23:List UInt8) {β:Type} (kA:(Int×(List UInt8))->Option β) (kO:((List UInt8))->Option β):Option β:=
 (bif (decide (y20 < y19)) then (Option.bind (ix y18 y20) fun x27=>(Option.bind (T207 F x27 y21 y22) fun z28=>(Option.bind (inb y23.length y20) fun x29=>(kA ((w64 (y20 + (1:Int))),(List.set y23 x29 z28)))))) else (kO y23))
def L199_2 (F:Nat) (y18:List UInt8) (y19:Int) (y21:Vector UInt8 16) (y22:Vector UInt8 16) (y20:Int) (y23:List UInt8):Option ((Int×(List UInt8)) ⊕ ((List UInt8))):=L199_2c F y18 y19 y21 y22 y20 y23 (fun s=>some (.inl s)) (fun z=>some (.inr z))
theorem L199_2n (F:Nat) (y18:List UInt8) (y19:Int) (y21:Vector UInt8 16) (y22:Vector UInt8 16) (y20:Int) (y23:List UInt8) {β:Type} (kA:(Int×(List UInt8))->Option β) (kO:((List UInt8))->Option β):L199_2c F y18 y19 y21 y22 y20 y23 kA kO=(L199_2 F y18 y19 y21 y22 y20 y23).bind (elimS kA kO):=by
 simp only [L199_2,L199_2c,Option.bind_assoc,cond_bind,Option.bind_some,Option.bind_none,elimS_l,elimS_r,elimS_bind]
abbrev sA199_2:List Sh:=[(.fn 207 .un (.pr (.pt 0 []) (.pr (.pt 1 []) .un))),(.rw 2),(.ro .u8),.i,.i]
abbrev sAp1199_2:List Sh:=[(.rw 0)]
abbrev sT199_2:List TSh:=[.blk 248 (.ar 16 .u8),.blk 248 (.ar 16 .u8),.row 5 .u8]
abbrev sTp1199_2:List TSh:=[.row 5 .u8]
def lc199_2 (F:Nat):Lc:=mkL [5,6,14,15,16] sA199_2 sT199_2 [6] sAp1199_2 sTp1199_2 F (fun x y (s:Int×(List UInt8))=>L199_2 F x.2.2.1 x.2.2.2.1 y.1 y.2.1 s.1 s.2) (fun x y=>(x.2.2.2.2.1,y.2.2.1)) (fun x y (z:(List UInt8))=>(((),()),(z,())))
theorem le199_2 (F:Nat) (x:dens sA199_2) (y:tdens sT199_2) (s:Int×(List UInt8)):sev (E199 F) 0 [] (cAt (bodyOf Tryz.f199) (0 :: 0 :: [1,0,1,1,1])) (0 :: 0 :: [1,0,1,1,1]) (mkSt [5,6,14,15,16] sA199_2 sT199_2 (((),((),(),())),(),x.2.2.1,x.2.2.2.1,s.1,()) (y.1,y.2.1,s.2,())) (kLoop 0 [5,6,14,15,16] sA199_2 sT199_2 [6] sAp1199_2 sTp1199_2 [] [] [] 0 (fun x y=>some (.inl (x,y))) (fun x y=>some (.inr (.inl (x,y)))) (fun x y=>some (.inr (.inr (x,y))))) =
  L199_2c (β:=Full sA199_2 sT199_2 sAp1199_2 sTp1199_2 [] []) F x.2.2.1 x.2.2.2.1 y.1 y.2.1 s.1 s.2 (fun s=>some (.inl ((((),((),(),())),(),x.2.2.1,x.2.2.2.1,s.1,()),(y.1,y.2.1,s.2,())))) (fun z=>some (.inr (.inl (((),()),(z,()))))):=by kernel_rfl
theorem lo199_2 (F:Nat):LcOk Tryz.prog (E199 F) 0 (lc199_2 F) (cAt (bodyOf Tryz.f199) [1,0,1,1,1]):=
 mkL_ok (lp:=[]) (id:=0) (b:=cAt (bodyOf Tryz.f199) (0 :: 0 :: [1,0,1,1,1])) cok (cts199 F) mixed trivial (by kernel_rfl) (by kernel_rfl) (fun x y s=>(((),((),(),())),(),x.2.2.1,x.2.2.2.1,s.1,())) (fun x y s=>(y.1,y.2.1,s.2,())) (fun x y=>rfl) (fun x y=>rfl) (fun x y s kA kO=>L199_2c F x.2.2.1 x.2.2.2.1 y.1 y.2.1 s.1 s.2 kA kO) (fun x y s kA kO=>L199_2n F x.2.2.1 x.2.2.2.1 y.1 y.2.1 s.1 s.2 kA kO) (le199_2 F)
def T199c (F:Nat) (p0:List UInt8) (p1:UInt8) {β:Type} (k:((List UInt8))->Option β):Option β:=
 (Option.bind (T206 F p1) fun z16=>(Option.bind (gmake (0:UInt8) (p0.length:Int) (p0.length:Int)) fun x17=>(Option.bind (iter (fun s=>L199_2 F p0 (p0.length:Int) z16.1 z16.2 s.1 s.2) F ((0:Int),x17)) fun z30=>(k z30))))
def T199 (F:Nat) (p0:List UInt8) (p1:UInt8):Option ((List UInt8)):=T199c F p0 p1 some
theorem T199n (F:Nat) (p0:List UInt8) (p1:UInt8) {β:Type} (k:((List UInt8))->Option β):T199c F p0 p1 k=(T199 F p0 p1).bind k:=by
 simp only [T199,T199c,Option.bind_assoc,cond_bind,Option.bind_some,Option.bind_none,elimS_bind]
abbrev cA199:List Sh:=[(.ro .u8),.u8]
abbrev cB199:List Sh:=[(.rw 0)]
abbrev cT199:List TSh:=[]
abbrev cU199:List TSh:=[.row 5 .u8]
def ct199 (F:Nat):Ct:=mkC 0 cA199 cT199 cB199 cU199 (fun x y=>T199 F x.1 x.2.1) (fun x y (z:(List UInt8))=>(((),()),(z,())))
theorem eq199 (F:Nat) (x:dens cA199) (y:tdens cT199):sev (E199 F) 0 [([1,0,1,1,1],lc199_2 F)] (bodyOf Tryz.f199) [] (mkSt (rng 2) cA199 cT199 x y) (kFn (E199 F) 0 Tryz.f199.results.toList cB199 cU199 fun p q=>some (p,q)) =
  T199c F x.1 x.2.1 (fun z=>some (((),()),(z,()))):=by kernel_rfl
theorem ok199 (F:Nat):Sound Tryz.prog cfg 199 (ct199 F):=
 mkC_ok (E:=E199 F) (lp:=[([1,0,1,1,1],lc199_2 F)]) (code:=bodyOf Tryz.f199) Tryz.func199 rfl Tryz.ntmps199 rfl rfl cok (cts199 F) mixed ⟨lo199_2 F,trivial⟩ (by kernel_rfl) (fun x y k=>T199c F x.1 x.2.1 k) (fun x y k=>T199n F x.1 x.2.1 k) (eq199 F)
def ord171:Nat->List (Tag×Nat)
 | _=>[]
def al171:Nat->Option Nat
 | _=>none
def ms171:Nat->Option (List (Option Tag×Nat×List Nat))
 | _=>none
def E171 (F:Nat):Ev:=⟨cfg,35,ctOf [(199,ct199 F)],ord171,ctOf [],al171,ms171⟩
theorem cts171 (F:Nat):CtsOk Tryz.prog (E171 F):=cts_of (l:=[(199,ct199 F)]) (l':=[]) rfl rfl ⟨⟨ok199 F,_,Tryz.func199,rfl,rfl⟩,trivial⟩ trivial
def L171_2c (F:Nat) (y16:List UInt8) (y17:Int) (y18:Int) (y19:List UInt8) {β:Type} (kA:(Int×(List UInt8))->Option β) (kO:((List UInt8))->Option β):Option β:=
 (bif (decide (y18 < y17)) then (Option.bind (ix y16 y18) fun x24=>(Option.bind (inb y19.length y18) fun x25=>(Option.bind (y19[x25]?) fun x26=>(Option.bind (inb y19.length y18) fun x27=>(kA ((w64 (y18 + (1:Int))),(List.set y19 x27 (x26 ^^^ x24)))))))) else (kO y19))
def L171_2 (F:Nat) (y16:List UInt8) (y17:Int) (y18:Int) (y19:List UInt8):Option ((Int×(List UInt8)) ⊕ ((List UInt8))):=L171_2c F y16 y17 y18 y19 (fun s=>some (.inl s)) (fun z=>some (.inr z))
theorem L171_2n (F:Nat) (y16:List UInt8) (y17:Int) (y18:Int) (y19:List UInt8) {β:Type} (kA:(Int×(List UInt8))->Option β) (kO:((List UInt8))->Option β):L171_2c F y16 y17 y18 y19 kA kO=(L171_2 F y16 y17 y18 y19).bind (elimS kA kO):=by
 simp only [L171_2,L171_2c,Option.bind_assoc,cond_bind,Option.bind_some,Option.bind_none,elimS_l,elimS_r,elimS_bind]
abbrev sA171_2:List Sh:=[(.rw 0),(.ro .u8),.i,.i]
abbrev sAp1171_2:List Sh:=[(.rw 0)]
abbrev sT171_2:List TSh:=[.row 5 .u8]
abbrev sTp1171_2:List TSh:=[.row 5 .u8]
def lc171_2 (F:Nat):Lc:=mkL [8,19,20,21] sA171_2 sT171_2 [8] sAp1171_2 sTp1171_2 F (fun x y (s:Int×(List UInt8))=>L171_2 F x.2.1 x.2.2.1 s.1 s.2) (fun x y=>(x.2.2.2.1,y.1)) (fun x y (z:(List UInt8))=>(((),()),(z,())))
theorem le171_2 (F:Nat) (x:dens sA171_2) (y:tdens sT171_2) (s:Int×(List UInt8)):sev (E171 F) 0 [] (cAt (bodyOf Tryz.f171) (0 :: 0 :: [1,0,1,1,1])) (0 :: 0 :: [1,0,1,1,1]) (mkSt [8,19,20,21] sA171_2 sT171_2 ((),x.2.1,x.2.2.1,s.1,()) (s.2,())) (kLoop 0 [8,19,20,21] sA171_2 sT171_2 [8] sAp1171_2 sTp1171_2 [] [] [] 0 (fun x y=>some (.inl (x,y))) (fun x y=>some (.inr (.inl (x,y)))) (fun x y=>some (.inr (.inr (x,y))))) =
  L171_2c (β:=Full sA171_2 sT171_2 sAp1171_2 sTp1171_2 [] []) F x.2.1 x.2.2.1 s.1 s.2 (fun s=>some (.inl (((),x.2.1,x.2.2.1,s.1,()),(s.2,())))) (fun z=>some (.inr (.inl (((),()),(z,()))))):=by kernel_rfl
theorem lo171_2 (F:Nat):LcOk Tryz.prog (E171 F) 0 (lc171_2 F) (cAt (bodyOf Tryz.f171) [1,0,1,1,1]):=
 mkL_ok (lp:=[]) (id:=0) (b:=cAt (bodyOf Tryz.f171) (0 :: 0 :: [1,0,1,1,1])) cok (cts171 F) mixed trivial (by kernel_rfl) (by kernel_rfl) (fun x y s=>((),x.2.1,x.2.2.1,s.1,())) (fun x y s=>(s.2,())) (fun x y=>rfl) (fun x y=>rfl) (fun x y s kA kO=>L171_2c F x.2.1 x.2.2.1 s.1 s.2 kA kO) (fun x y s kA kO=>L171_2n F x.2.1 x.2.2.1 s.1 s.2 kA kO) (le171_2 F)
def T171c (F:Nat) (p0:List UInt8) (p1:List UInt8) (p2:UInt8) {β:Type} (k:(Int×(List UInt8))->Option β):Option β:=
 (bif ((p0.length:Int) != (p1.length:Int)) then (k ((1:Int),([]:List UInt8))) else (Option.bind (T199 F p1 p2) fun z15=>(Option.bind (iter (fun s=>L171_2 F p0 (p0.length:Int) s.1 s.2) F ((0:Int),z15)) fun z28=>(k ((0:Int),z28)))))
def T171 (F:Nat) (p0:List UInt8) (p1:List UInt8) (p2:UInt8):Option (Int×(List UInt8)):=T171c F p0 p1 p2 some
theorem T171n (F:Nat) (p0:List UInt8) (p1:List UInt8) (p2:UInt8) {β:Type} (k:(Int×(List UInt8))->Option β):T171c F p0 p1 p2 k=(T171 F p0 p1 p2).bind k:=by
 simp only [T171,T171c,Option.bind_assoc,cond_bind,Option.bind_some,Option.bind_none,elimS_bind]
abbrev cA171:List Sh:=[(.ro .u8),(.ro .u8),.u8]
abbrev cB171:List Sh:=[(.rw 0),.i]
abbrev cT171:List TSh:=[]
abbrev cU171:List TSh:=[.row 5 .u8]
def ct171 (F:Nat):Ct:=mkC 0 cA171 cT171 cB171 cU171 (fun x y=>T171 F x.1 x.2.1 x.2.2.1) (fun x y (z:Int×(List UInt8))=>(((),z.1,()),(z.2,())))
theorem eq171 (F:Nat) (x:dens cA171) (y:tdens cT171):sev (E171 F) 0 [([1,0,1,1,1],lc171_2 F)] (bodyOf Tryz.f171) [] (mkSt (rng 3) cA171 cT171 x y) (kFn (E171 F) 0 Tryz.f171.results.toList cB171 cU171 fun p q=>some (p,q)) =
  T171c F x.1 x.2.1 x.2.2.1 (fun z=>some (((),z.1,()),(z.2,()))):=by kernel_rfl
theorem ok171 (F:Nat):Sound Tryz.prog cfg 171 (ct171 F):=
 mkC_ok (E:=E171 F) (lp:=[([1,0,1,1,1],lc171_2 F)]) (code:=bodyOf Tryz.f171) Tryz.func171 rfl Tryz.ntmps171 rfl rfl cok (cts171 F) mixed ⟨lo171_2 F,trivial⟩ (by kernel_rfl) (fun x y k=>T171c F x.1 x.2.1 x.2.2.1 k) (fun x y k=>T171n F x.1 x.2.1 x.2.2.1 k) (eq171 F)
def ord169:Nat->List (Tag×Nat)
 | _=>[]
def al169:Nat->Option Nat
 | _=>none
def ms169:Nat->Option (List (Option Tag×Nat×List Nat))
 | _=>none
def E169 (F:Nat):Ev:=⟨cfg,25,ctOf [(170,ct170 F),(171,ct171 F)],ord169,ctOf [],al169,ms169⟩
theorem cts169 (F:Nat):CtsOk Tryz.prog (E169 F):=cts_of (l:=[(170,ct170 F),(171,ct171 F)]) (l':=[]) rfl rfl ⟨⟨ok170 F,_,Tryz.func170,rfl,rfl⟩,⟨⟨ok171 F,_,Tryz.func171,rfl,rfl⟩,trivial⟩⟩ trivial
abbrev rA169_2:List Sh:=[(.pt 1 []),(.pt 2 [])]
abbrev rB169_2:List Sh:=[(.pt 0 []),(.pt 1 [])]
abbrev rZ169_2:List Sh:=[.i,(.ro .u8)]
abbrev rT169_2:List TSh:=[.blk 141 (.ro (.sl .u8)),.blk 3 .i,.blk 36 (.rw 3),.row 5 .u8]
abbrev rU169_2:List TSh:=[.blk 3 .i,.blk 36 (.rw 2),.row 5 .u8]
def L169_2 (F:Nat) (y14:Int) (y15:List UInt8) (e17:List UInt8):Option (dens rB169_2×tdens rU169_2):=
 (Option.bind (T171 F e17 y15 (UInt8.ofInt y14)) fun z19=>some (((),(),()),(y14,(),z19.2,())))
def R169_2 (F:Nat) (x:dens (.fn 198 .un (.pr (.pt 0 []) .un) :: rA169_2)) (y:tdens rT169_2):Option (dens rB169_2×tdens rU169_2):=bif okBack y.1 then rfold ((fun (x:dens (.fn 198 .un (.pr (.pt 0 []) .un) :: rA169_2)) (y:tdens rT169_2) (s:dens rB169_2×tdens rU169_2) (e:dens rZ169_2)=>L169_2 F s.2.1 s.2.2.2.1 e.2.1) x y) (backE y.1) ((((),(),()),(y.2.1,(),y.2.2.2.1,())):dens rB169_2×tdens rU169_2) else none
def lc169_2 (F:Nat):Lc:=mkF 13 198 (.pr (.pt 0 []) .un) [2,4] rA169_2 rB169_2 rT169_2 rU169_2 (ε:=dens rZ169_2) (fun x y=>backE y.1) (fun x y=>(((),(),()),(y.2.1,(),y.2.2.2.1,()))) (fun x y=>okBack y.1) (fun x y s e=>L169_2 F s.2.1 s.2.2.2.1 e.2.1)
theorem le169_2 (F:Nat) (x:dens (.fn 198 .un (.pr (.pt 0 []) .un) :: rA169_2)) (y:tdens rT169_2) (s:dens rB169_2×tdens rU169_2) (e:dens rZ169_2):sev (E169 F) 0 [] (rfBody (cAt (bodyOf Tryz.f169) [0,1,0,1,1])) [] ⟨(6,.ro .u8 e.2.1) :: putI [14,15] (encs rZ169_2 e) (zipS [2,4] (encs rB169_2 s.1)),encTs rU169_2 s.2,[]⟩ (kRd 0 [2,4] rB169_2 rU169_2 (encs rB169_2 s.1))=(fun x y s e=>L169_2 F s.2.1 s.2.2.2.1 e.2.1) x y s e:=by kernel_rfl
theorem li169_2 (x:dens (.fn 198 .un (.pr (.pt 0 []) .un) :: rA169_2)) (y:tdens rT169_2):uniS 0 [2,4] rB169_2 rU169_2 ⟨zipS [2,4] (encs rA169_2 x.2),dropB [0] (encTs rT169_2 y),[]⟩ (fun p q=>some (p,q))=some (((),(),()),(y.2.1,(),y.2.2.2.1,())):=by kernel_rfl
theorem lo169_2 (F:Nat):LcOkM Tryz.prog (E169 F) 0 (lc169_2 F) (cAt (bodyOf Tryz.f169) [0,1,0,1,1]):=
 rf_okP (ida:=3) (d:=6) (s_:=15) (ps:=[14,15]) (Ae:=rZ169_2) (bx:=[0]) (ve:=fun e=>.ro .u8 e.2.1) cok (cts169 F) mixed (by kernel_rfl) (by kernel_rfl) (by kernel_rfl) (fun y=>rfl) (li169_2) rfl rfl rfl rfl rfl (fun e=>rfl) (fun e il=>rfl) (fun args w=>by kernel_rfl)
  (fun x y O ρ lb hok h hb=>hit_back h hb rfl hok) (le169_2 F)
def T169c (F:Nat) (p0:Int) (p1:List (List UInt8)) {β:Type} (k:((List UInt8))->Option β):Option β:=
 (Option.bind (ix p1 (0:Int)) fun x11=>(Option.bind (gmake (0:UInt8) (x11.length:Int) (x11.length:Int)) fun x12=>(Option.bind (T170 F) fun z13=>(Option.bind (R169_2 F (((),((),())),(),(),()) (p1,p0,(),x12,())) fun z20=>(k z20.2.2.2.1)))))
def T169 (F:Nat) (p0:Int) (p1:List (List UInt8)):Option ((List UInt8)):=T169c F p0 p1 some
theorem T169n (F:Nat) (p0:Int) (p1:List (List UInt8)) {β:Type} (k:((List UInt8))->Option β):T169c F p0 p1 k=(T169 F p0 p1).bind k:=by
 simp only [T169,T169c,Option.bind_assoc,cond_bind,Option.bind_some,Option.bind_none,elimS_bind]
abbrev cA169:List Sh:=[.i,(.re (.sl (.sl .u8)))]
abbrev cB169:List Sh:=[(.rw 0)]
abbrev cT169:List TSh:=[]
abbrev cU169:List TSh:=[.row 5 .u8]
def ct169 (F:Nat):Ct:=mkC 0 cA169 cT169 cB169 cU169 (fun x y=>T169 F x.1 x.2.1) (fun x y (z:(List UInt8))=>(((),()),(z,())))
theorem eq169 (F:Nat) (x:dens cA169) (y:tdens cT169):sev (E169 F) 0 [([0,1,0,1,1],lc169_2 F)] (bodyOf Tryz.f169) [] (mkSt (rng 2) cA169 cT169 x y) (kFnM (E169 F) 0 Tryz.f169.results.toList cB169 cU169 fun p q=>some (p,q)) =
  T169c F x.1 x.2.1 (fun z=>some (((),()),(z,()))):=by kernel_rfl
theorem ok169 (F:Nat):Sound Tryz.prog cfg 169 (ct169 F):=
 mkC_okM (E:=E169 F) (lp:=[([0,1,0,1,1],lc169_2 F)]) (code:=bodyOf Tryz.f169) Tryz.func169 rfl Tryz.ntmps169 rfl rfl cok (cts169 F) mixed ⟨lo169_2 F,trivial⟩ (by kernel_rfl) (fun x y k=>T169c F x.1 x.2.1 k) (fun x y k=>T169n F x.1 x.2.1 k) (eq169 F)
def ord92:Nat->List (Tag×Nat)
 | _=>[]
def al92:Nat->Option Nat
 | _=>none
def ms92:Nat->Option (List (Option Tag×Nat×List Nat))
 | _=>none
def E92 (F:Nat):Ev:=⟨cfg,50,ctOf [(136,ct136 F),(137,ct137 F),(139,ct139 F),(138,ct138 F),(169,ct169 F)],ord92,ctOf [],al92,ms92⟩
theorem cts92 (F:Nat):CtsOk Tryz.prog (E92 F):=cts_of (l:=[(136,ct136 F),(137,ct137 F),(139,ct139 F),(138,ct138 F),(169,ct169 F)]) (l':=[]) rfl rfl ⟨⟨ok136 F,_,Tryz.func136,rfl,rfl⟩,⟨⟨ok137 F,_,Tryz.func137,rfl,rfl⟩,⟨⟨ok139 F,_,Tryz.func139,rfl,rfl⟩,⟨⟨ok138 F,_,Tryz.func138,rfl,rfl⟩,⟨⟨ok169 F,_,Tryz.func169,rfl,rfl⟩,trivial⟩⟩⟩⟩⟩ trivial
def L92_2c (F:Nat) (y23:List Int) (y24:Int) (y26:List (List UInt8)) (y25:Int) (y27:List (Int×(List UInt8)×Unit)) {β:Type} (kA:(Int×(List (Int×(List UInt8)×Unit)))->Option β) (kO:((List (Int×(List UInt8)×Unit)))->Option β):Option β:=
 (bif (decide (y25 < y24)) then (Option.bind (ix y23 y25) fun x31=>(Option.bind (T169 F x31 y26) fun z32=>(Option.bind (gapp y27 ([(x31,z32,())]:List (Int×(List UInt8)×Unit))) fun x33=>(kA ((w64 (y25 + (1:Int))),x33))))) else (kO y27))
def L92_2 (F:Nat) (y23:List Int) (y24:Int) (y26:List (List UInt8)) (y25:Int) (y27:List (Int×(List UInt8)×Unit)):Option ((Int×(List (Int×(List UInt8)×Unit))) ⊕ ((List (Int×(List UInt8)×Unit)))):=L92_2c F y23 y24 y26 y25 y27 (fun s=>some (.inl s)) (fun z=>some (.inr z))
theorem L92_2n (F:Nat) (y23:List Int) (y24:Int) (y26:List (List UInt8)) (y25:Int) (y27:List (Int×(List UInt8)×Unit)) {β:Type} (kA:(Int×(List (Int×(List UInt8)×Unit)))->Option β) (kO:((List (Int×(List UInt8)×Unit)))->Option β):L92_2c F y23 y24 y26 y25 y27 kA kO=(L92_2 F y23 y24 y26 y25 y27).bind (elimS kA kO):=by
 simp only [L92_2,L92_2c,Option.bind_assoc,cond_bind,Option.bind_some,Option.bind_none,elimS_l,elimS_r,elimS_bind]
abbrev sA92_2:List Sh:=[(.fn 169 .un (.pr (.pt 0 []) .un)),(.rw 1),(.ro .i),.i,.i]
abbrev sAp192_2:List Sh:=[(.rw 0)]
abbrev sT92_2:List TSh:=[.blk 141 (.ro (.sl .u8)),.row 59 (.pr .i (.pr (.sl .u8) .un))]
abbrev sTp192_2:List TSh:=[.row 59 (.pr .i (.pr (.sl .u8) .un))]
def lc92_2 (F:Nat):Lc:=mkL [8,9,34,35,36] sA92_2 sT92_2 [9] sAp192_2 sTp192_2 F (fun x y (s:Int×(List (Int×(List UInt8)×Unit)))=>L92_2 F x.2.2.1 x.2.2.2.1 y.1 s.1 s.2) (fun x y=>(x.2.2.2.2.1,y.2.1)) (fun x y (z:(List (Int×(List UInt8)×Unit)))=>(((),()),(z,())))
theorem le92_2 (F:Nat) (x:dens sA92_2) (y:tdens sT92_2) (s:Int×(List (Int×(List UInt8)×Unit))):sev (E92 F) 0 [] (cAt (bodyOf Tryz.f92) (0 :: 0 :: [1,0,1,1,1,1,1])) (0 :: 0 :: [1,0,1,1,1,1,1]) (mkSt [8,9,34,35,36] sA92_2 sT92_2 (((),((),())),(),x.2.2.1,x.2.2.2.1,s.1,()) (y.1,s.2,())) (kLoop 0 [8,9,34,35,36] sA92_2 sT92_2 [9] sAp192_2 sTp192_2 [] [] [] 0 (fun x y=>some (.inl (x,y))) (fun x y=>some (.inr (.inl (x,y)))) (fun x y=>some (.inr (.inr (x,y))))) =
  L92_2c (β:=Full sA92_2 sT92_2 sAp192_2 sTp192_2 [] []) F x.2.2.1 x.2.2.2.1 y.1 s.1 s.2 (fun s=>some (.inl ((((),((),())),(),x.2.2.1,x.2.2.2.1,s.1,()),(y.1,s.2,())))) (fun z=>some (.inr (.inl (((),()),(z,()))))):=by kernel_rfl
theorem lo92_2 (F:Nat):LcOk Tryz.prog (E92 F) 0 (lc92_2 F) (cAt (bodyOf Tryz.f92) [1,0,1,1,1,1,1]):=
 mkL_ok (lp:=[]) (id:=0) (b:=cAt (bodyOf Tryz.f92) (0 :: 0 :: [1,0,1,1,1,1,1])) cok (cts92 F) mixed trivial (by kernel_rfl) (by kernel_rfl) (fun x y s=>(((),((),())),(),x.2.2.1,x.2.2.2.1,s.1,())) (fun x y s=>(y.1,s.2,())) (fun x y=>rfl) (fun x y=>rfl) (fun x y s kA kO=>L92_2c F x.2.2.1 x.2.2.2.1 y.1 s.1 s.2 kA kO) (fun x y s kA kO=>L92_2n F x.2.2.1 x.2.2.2.1 y.1 s.1 s.2 kA kO) (le92_2 F)
def T92c (F:Nat) (p0:List UInt8) (p1:List (List UInt8)) (p2:List Int) {β:Type} (k:(Int×(List (Int×(List UInt8)×Unit)))->Option β):Option β:=
 (Option.bind (T136 F p1 (p0.length:Int)) fun z18=>(bif (!z18) then (k ((1:Int),([]:List (Int×(List UInt8)×Unit)))) else (Option.bind (T137 F p2) fun z19=>(bif (!z19) then (k ((1:Int),([]:List (Int×(List UInt8)×Unit)))) else (bif (decide ((1024:Int) < (p0.length:Int))) then (k ((2:Int),([]:List (Int×(List UInt8)×Unit)))) else (Option.bind (T139 F ([([p0]:List (List UInt8)),p1]:List (List (List UInt8)))) fun z20=>(Option.bind (T138 F) fun z21=>(Option.bind (gmake ((0:Int),([]:List UInt8),()) (0:Int) (p2.length:Int)) fun x22=>(Option.bind (iter (fun s=>L92_2 F p2 (p2.length:Int) z20 s.1 s.2) F ((0:Int),x22)) fun z34=>(k ((0:Int),z34)))))))))))
def T92 (F:Nat) (p0:List UInt8) (p1:List (List UInt8)) (p2:List Int):Option (Int×(List (Int×(List UInt8)×Unit))):=T92c F p0 p1 p2 some
theorem T92n (F:Nat) (p0:List UInt8) (p1:List (List UInt8)) (p2:List Int) {β:Type} (k:(Int×(List (Int×(List UInt8)×Unit)))->Option β):T92c F p0 p1 p2 k=(T92 F p0 p1 p2).bind k:=by
 simp only [T92,T92c,Option.bind_assoc,cond_bind,Option.bind_some,Option.bind_none,elimS_bind]
abbrev cA92:List Sh:=[(.ro .u8),(.ro (.sl .u8)),(.ro .i)]
abbrev cB92:List Sh:=[(.rw 0),.i]
abbrev cT92:List TSh:=[]
abbrev cU92:List TSh:=[.row 59 (.pr .i (.pr (.sl .u8) .un))]
def ct92 (F:Nat):Ct:=mkC 0 cA92 cT92 cB92 cU92 (fun x y=>T92 F x.1 x.2.1 x.2.2.1) (fun x y (z:Int×(List (Int×(List UInt8)×Unit)))=>(((),z.1,()),(z.2,())))
theorem eq92 (F:Nat) (x:dens cA92) (y:tdens cT92):sev (E92 F) 0 [([1,0,1,1,1,1,1],lc92_2 F)] (bodyOf Tryz.f92) [] (mkSt (rng 3) cA92 cT92 x y) (kFn (E92 F) 0 Tryz.f92.results.toList cB92 cU92 fun p q=>some (p,q)) =
  T92c F x.1 x.2.1 x.2.2.1 (fun z=>some (((),z.1,()),(z.2,()))):=by kernel_rfl
theorem ok92 (F:Nat):Sound Tryz.prog cfg 92 (ct92 F):=
 mkC_ok (E:=E92 F) (lp:=[([1,0,1,1,1,1,1],lc92_2 F)]) (code:=bodyOf Tryz.f92) Tryz.func92 rfl Tryz.ntmps92 rfl rfl cok (cts92 F) mixed ⟨lo92_2 F,trivial⟩ (by kernel_rfl) (fun x y k=>T92c F x.1 x.2.1 x.2.2.1 k) (fun x y k=>T92n F x.1 x.2.1 x.2.2.1 k) (eq92 F)
def ord27:Nat->List (Tag×Nat)
 | _=>[]
def al27:Nat->Option Nat
 | _=>none
def ms27:Nat->Option (List (Option Tag×Nat×List Nat))
 | _=>none
def E27 (F:Nat):Ev:=⟨cfg,78,ctOf [(90,ct90 F),(91,ct91 F),(92,ct92 F)],ord27,ctOf [],al27,ms27⟩
theorem cts27 (F:Nat):CtsOk Tryz.prog (E27 F):=cts_of (l:=[(90,ct90 F),(91,ct91 F),(92,ct92 F)]) (l':=[]) rfl rfl ⟨⟨ok90 F,_,Tryz.func90,rfl,rfl⟩,⟨⟨ok91 F,_,Tryz.func91,rfl,rfl⟩,⟨⟨ok92 F,_,Tryz.func92,rfl,rfl⟩,trivial⟩⟩⟩ trivial
def L27_3c (F:Nat) (y56:List Int) (y58:List Int) (y59:Int) (y60:Int) (y61:List Int) {β:Type} (kA:(Int×(List Int))->Option β) (kO:((List Int))->Option β) (kR:Int->Option β):Option β:=
 (bif (decide (y60 < y59)) then (Option.bind (ix y58 y60) fun x66=>(bif (decide (x66 < (0:Int))) then (kR (1:Int)) else (bif (decide ((12:Int)≤x66)) then (kR (1:Int)) else (Option.bind (gsl y56 (0:Int) y60) fun x67=>(Option.bind (T90 F x67 x66) fun z68=>(bif z68 then (kR (1:Int)) else (Option.bind (gapp y61 ([(w64 (x66 + (1:Int)))]:List Int)) fun x69=>(kA ((w64 (y60 + (1:Int))),x69))))))))) else (kO y61))
def L27_3 (F:Nat) (y56:List Int) (y58:List Int) (y59:Int) (y60:Int) (y61:List Int):Option ((Int×(List Int)) ⊕ (((List Int)) ⊕ (Int))):=L27_3c F y56 y58 y59 y60 y61 (fun s=>some (.inl s)) (fun z=>some (.inr (.inl z))) (fun z=>some (.inr (.inr z)))
theorem L27_3n (F:Nat) (y56:List Int) (y58:List Int) (y59:Int) (y60:Int) (y61:List Int) {β:Type} (kA:(Int×(List Int))->Option β) (kO:((List Int))->Option β) (kR:Int->Option β):L27_3c F y56 y58 y59 y60 y61 kA kO kR=(L27_3 F y56 y58 y59 y60 y61).bind (elimS kA (elimS kO kR)):=by
 simp only [L27_3,L27_3c,Option.bind_assoc,cond_bind,Option.bind_some,Option.bind_none,elimS_l,elimS_r,elimS_bind]
abbrev sA27_3:List Sh:=[.str,.i,(.ro .i),(.ro .u8),(.rw 0),(.ro .i),.i,.i]
abbrev sAp127_3:List Sh:=[.str,.i,(.ro .i),(.ro .u8),(.rw 0)]
abbrev sAp227_3:List Sh:=[.ns,.i]
abbrev sT27_3:List TSh:=[.row 3 .i]
abbrev sTp127_3:List TSh:=[.row 3 .i]
abbrev sTp227_3:List TSh:=[]
def lc27_3 (F:Nat):Lc:=mkR [0,1,2,3,10,26,27,28] sA27_3 sT27_3 [0,1,2,3,10] sAp127_3 sTp127_3 [8,9] sAp227_3 sTp227_3 F (fun x y (s:Int×(List Int))=>L27_3 F x.2.2.1 x.2.2.2.2.2.1 x.2.2.2.2.2.2.1 s.1 s.2) (fun x y=>(x.2.2.2.2.2.2.2.1,y.1)) (fun x y (z:(List Int))=>((x.1,x.2.1,x.2.2.1,x.2.2.2.1,(),()),(z,()))) (fun x y (z:Int)=>(((),z,()),()))
theorem le27_3 (F:Nat) (x:dens sA27_3) (y:tdens sT27_3) (s:Int×(List Int)):sev (E27 F) 0 [] (cAt (bodyOf Tryz.f27) (0 :: 0 :: [1,0,1,1,1])) (0 :: 0 :: [1,0,1,1,1]) (mkSt [0,1,2,3,10,26,27,28] sA27_3 sT27_3 (x.1,x.2.1,x.2.2.1,x.2.2.2.1,(),x.2.2.2.2.2.1,x.2.2.2.2.2.2.1,s.1,()) (s.2,())) (kLoop 0 [0,1,2,3,10,26,27,28] sA27_3 sT27_3 [0,1,2,3,10] sAp127_3 sTp127_3 [8,9] sAp227_3 sTp227_3 0 (fun x y=>some (.inl (x,y))) (fun x y=>some (.inr (.inl (x,y)))) (fun x y=>some (.inr (.inr (x,y))))) =
  L27_3c (β:=Full sA27_3 sT27_3 sAp127_3 sTp127_3 sAp227_3 sTp227_3) F x.2.2.1 x.2.2.2.2.2.1 x.2.2.2.2.2.2.1 s.1 s.2 (fun s=>some (.inl ((x.1,x.2.1,x.2.2.1,x.2.2.2.1,(),x.2.2.2.2.2.1,x.2.2.2.2.2.2.1,s.1,()),(s.2,())))) (fun z=>some (.inr (.inl ((x.1,x.2.1,x.2.2.1,x.2.2.2.1,(),()),(z,()))))) (fun z=>some (.inr (.inr (((),z,()),())))):=by kernel_rfl
theorem lo27_3 (F:Nat):LcOk Tryz.prog (E27 F) 0 (lc27_3 F) (cAt (bodyOf Tryz.f27) [1,0,1,1,1]):=
 mkR_ok (lp:=[]) (id:=0) (b:=cAt (bodyOf Tryz.f27) (0 :: 0 :: [1,0,1,1,1])) cok (cts27 F) mixed trivial (by kernel_rfl) (by kernel_rfl) (fun x y s=>(x.1,x.2.1,x.2.2.1,x.2.2.2.1,(),x.2.2.2.2.2.1,x.2.2.2.2.2.2.1,s.1,())) (fun x y s=>(s.2,())) (fun x y=>rfl) (fun x y=>rfl) (fun x y s kA kO kR=>L27_3c F x.2.2.1 x.2.2.2.2.2.1 x.2.2.2.2.2.2.1 s.1 s.2 kA kO kR) (fun x y s kA kO kR=>L27_3n F x.2.2.1 x.2.2.2.2.2.1 x.2.2.2.2.2.2.1 s.1 s.2 kA kO kR) (le27_3 F)
abbrev rA27_4:List Sh:=[.str,(.rw 2),(.pt 3 [])]
abbrev rB27_4:List Sh:=[.str,(.rw 0),(.pt 1 [])]
abbrev rZ27_4:List Sh:=[(.ro .u8)]
abbrev rT27_4:List TSh:=[.blk 36 (.ro .u8),.blk 3 .i,.row 3 .i,.blk 141 .ns]
abbrev rU27_4:List TSh:=[.row 3 .i,.blk 141 (.rw 2),.row 36 (.sl .u8)]
def L27_4 (F:Nat) (y76:List UInt8) (y77:List Int) (y78:List (List UInt8)) (e79:List UInt8):Option (dens rB27_4×tdens rU27_4):=
 (Option.bind (gapp y78 ([e79]:List (List UInt8))) fun x81=>some ((y76,(),(),()),(y77,(),x81,())))
def R27_4 (F:Nat) (x:dens (.fn 135 .un (.pr (.pt 0 []) (.pr (.pt 1 []) .un)) :: rA27_4)) (y:tdens rT27_4):Option (dens rB27_4×tdens rU27_4):=bif okChunk (y.2.1) y.1 then rfold ((fun (x:dens (.fn 135 .un (.pr (.pt 0 []) (.pr (.pt 1 []) .un)) :: rA27_4)) (y:tdens rT27_4) (s:dens rB27_4×tdens rU27_4) (e:dens rZ27_4)=>L27_4 F s.1.1 s.2.1 s.2.2.2.1 e.1) x y) (chunkE (y.2.1).toNat y.1) (((x.2.1,(),(),()),(y.2.2.1,(),([]:List (List UInt8)),())):dens rB27_4×tdens rU27_4) else none
def lc27_4 (F:Nat):Lc:=mkF 65 135 (.pr (.pt 0 []) (.pr (.pt 1 []) .un)) [0,10,13] rA27_4 rB27_4 rT27_4 rU27_4 (ε:=dens rZ27_4) (fun x y=>chunkE (y.2.1).toNat y.1) (fun x y=>((x.2.1,(),(),()),(y.2.2.1,(),([]:List (List UInt8)),()))) (fun x y=>okChunk (y.2.1) y.1) (fun x y s e=>L27_4 F s.1.1 s.2.1 s.2.2.2.1 e.1)
theorem le27_4 (F:Nat) (x:dens (.fn 135 .un (.pr (.pt 0 []) (.pr (.pt 1 []) .un)) :: rA27_4)) (y:tdens rT27_4) (s:dens rB27_4×tdens rU27_4) (e:dens rZ27_4):sev (E27 F) 0 [] (rfBody (cAt (bodyOf Tryz.f27) [0,1,0,1,1,1,1,1,1])) [] ⟨(14,.ro .u8 e.1) :: putI [66] (encs rZ27_4 e) (zipS [0,10,13] (encs rB27_4 s.1)),encTs rU27_4 s.2,[]⟩ (kRd 0 [0,10,13] rB27_4 rU27_4 (encs rB27_4 s.1))=(fun x y s e=>L27_4 F s.1.1 s.2.1 s.2.2.2.1 e.1) x y s e:=by kernel_rfl
theorem li27_4 (x:dens (.fn 135 .un (.pr (.pt 0 []) (.pr (.pt 1 []) .un)) :: rA27_4)) (y:tdens rT27_4):uniS 0 [0,10,13] rB27_4 rU27_4 ⟨zipS [0,10,13] (encs rA27_4 x.2),dropB [0,1] (encTs rT27_4 y),[]⟩ (fun p q=>some (p,q))=some ((x.2.1,(),(),()),(y.2.2.1,(),([]:List (List UInt8)),())):=by kernel_rfl
theorem lo27_4 (F:Nat):LcOkM Tryz.prog (E27 F) 0 (lc27_4 F) (cAt (bodyOf Tryz.f27) [0,1,0,1,1,1,1,1,1]):=
 rf_okP (ida:=15) (d:=14) (s_:=66) (ps:=[66]) (Ae:=rZ27_4) (bx:=[0,1]) (ve:=fun e=>.ro .u8 e.1) cok (cts27 F) mixed (by kernel_rfl) (by kernel_rfl) (by kernel_rfl) (fun y=>rfl) (li27_4) rfl rfl rfl rfl rfl (fun e=>rfl) (fun e il=>rfl) (fun args w=>by kernel_rfl)
  (fun x y O ρ lb hok h hb=>hit_chunk h hb rfl rfl hok) (le27_4 F)
def T27c (F:Nat) (p0:List UInt8) (p1:Int) (p2:List Int) (p3:List UInt8) {β:Type} (k:(Int×(List (Int×(List UInt8)×Unit)))->Option β):Option β:=
 (bif ((p0.length:Int) != (32:Int)) then (k ((1:Int),([]:List (Int×(List UInt8)×Unit)))) else (bif (decide (p1 < (1:Int))) then (k ((1:Int),([]:List (Int×(List UInt8)×Unit)))) else (bif (decide ((12:Int) < p1)) then (k ((1:Int),([]:List (Int×(List UInt8)×Unit)))) else (Option.bind (iter (fun s=>L27_3 F p2 p2 (p2.length:Int) s.1 s.2) F ((0:Int),([]:List Int))) fun z70=>elimS (fun z70=>(bif (decide ((p2.length:Int) < p1)) then (k ((1:Int),([]:List (Int×(List UInt8)×Unit)))) else (bif ((p3.length:Int) != (w64 ((32:Int) * (w64 (p1 - (1:Int)))))) then (k ((1:Int),([]:List (Int×(List UInt8)×Unit)))) else (Option.bind (T91 F (32:Int)) fun z71=>(Option.bind (R27_4 F (((),((),(),())),p0,(),(),()) (p3,(32:Int),z70,(),())) fun z82=>(Option.bind (gstr z82.1.1) fun x83=>(Option.bind (T92 F x83 z82.2.2.2.1 z82.2.1) fun z84=>(k (z84.1,z84.2))))))))) (fun z70=>(k (z70,([]:List (Int×(List UInt8)×Unit))))) z70))))
def T27 (F:Nat) (p0:List UInt8) (p1:Int) (p2:List Int) (p3:List UInt8):Option (Int×(List (Int×(List UInt8)×Unit))):=T27c F p0 p1 p2 p3 some
theorem T27n (F:Nat) (p0:List UInt8) (p1:Int) (p2:List Int) (p3:List UInt8) {β:Type} (k:(Int×(List (Int×(List UInt8)×Unit)))->Option β):T27c F p0 p1 p2 p3 k=(T27 F p0 p1 p2 p3).bind k:=by
 simp only [T27,T27c,Option.bind_assoc,cond_bind,Option.bind_some,Option.bind_none,elimS_bind]
abbrev cA27:List Sh:=[.str,.i,(.ro .i),(.ro .u8)]
abbrev cB27:List Sh:=[(.rw 0),.i]
abbrev cT27:List TSh:=[]
abbrev cU27:List TSh:=[.row 59 (.pr .i (.pr (.sl .u8) .un))]
def ct27 (F:Nat):Ct:=mkC 0 cA27 cT27 cB27 cU27 (fun x y=>T27 F x.1 x.2.1 x.2.2.1 x.2.2.2.1) (fun x y (z:Int×(List (Int×(List UInt8)×Unit)))=>(((),z.1,()),(z.2,())))
theorem eq27 (F:Nat) (x:dens cA27) (y:tdens cT27):sev (E27 F) 0 [([1,0,1,1,1],lc27_3 F),([0,1,0,1,1,1,1,1,1],lc27_4 F)] (bodyOf Tryz.f27) [] (mkSt (rng 4) cA27 cT27 x y) (kFnM (E27 F) 0 Tryz.f27.results.toList cB27 cU27 fun p q=>some (p,q)) =
  T27c F x.1 x.2.1 x.2.2.1 x.2.2.2.1 (fun z=>some (((),z.1,()),(z.2,()))):=by kernel_rfl
theorem ok27 (F:Nat):Sound Tryz.prog cfg 27 (ct27 F):=
 mkC_okM (E:=E27 F) (lp:=[([1,0,1,1,1],lc27_3 F),([0,1,0,1,1,1,1,1,1],lc27_4 F)]) (code:=bodyOf Tryz.f27) Tryz.func27 rfl Tryz.ntmps27 rfl rfl cok (cts27 F) mixed ⟨lo27_3 F,⟨lo27_4 F,trivial⟩⟩ (by kernel_rfl) (fun x y k=>T27c F x.1 x.2.1 x.2.2.1 x.2.2.2.1 k) (fun x y k=>T27n F x.1 x.2.1 x.2.2.1 x.2.2.2.1 k) (eq27 F)
def ord110:Nat->List (Tag×Nat)
 | _=>[]
def al110:Nat->Option Nat
 | _=>none
def ms110:Nat->Option (List (Option Tag×Nat×List Nat))
 | _=>none
def E110 (F:Nat):Ev:=⟨cfg,15,ctOf [],ord110,ctOf [],al110,ms110⟩
theorem cts110 (F:Nat):CtsOk Tryz.prog (E110 F):=cts_of (l:=[]) (l':=[]) rfl rfl trivial trivial
def T110c (F:Nat) (p0:Int) (p1:Int) (p2:Int) {β:Type} (k:Bool->Option β):Option β:=
 (bif (decide (p1≤p0)) then (k (decide (p0≤p2))) else (k false))
def T110 (F:Nat) (p0:Int) (p1:Int) (p2:Int):Option (Bool):=T110c F p0 p1 p2 some
theorem T110n (F:Nat) (p0:Int) (p1:Int) (p2:Int) {β:Type} (k:Bool->Option β):T110c F p0 p1 p2 k=(T110 F p0 p1 p2).bind k:=by
 simp only [T110,T110c,Option.bind_assoc,cond_bind,Option.bind_some,Option.bind_none,elimS_bind]
abbrev cA110:List Sh:=[.i,.i,.i]
abbrev cB110:List Sh:=[.bo]
abbrev cT110:List TSh:=[]
abbrev cU110:List TSh:=[]
def ct110 (F:Nat):Ct:=mkC 0 cA110 cT110 cB110 cU110 (fun x y=>T110 F x.1 x.2.1 x.2.2.1) (fun x y (z:Bool)=>((z,()),()))
theorem eq110 (F:Nat) (x:dens cA110) (y:tdens cT110):sev (E110 F) 0 [] (bodyOf Tryz.f110) [] (mkSt (rng 3) cA110 cT110 x y) (kFn (E110 F) 0 Tryz.f110.results.toList cB110 cU110 fun p q=>some (p,q)) =
  T110c F x.1 x.2.1 x.2.2.1 (fun z=>some ((z,()),())):=by kernel_rfl
theorem ok110 (F:Nat):Sound Tryz.prog cfg 110 (ct110 F):=
 mkC_ok (E:=E110 F) (lp:=[]) (code:=bodyOf Tryz.f110) Tryz.func110 rfl Tryz.ntmps110 rfl rfl cok (cts110 F) mixed trivial (by kernel_rfl) (fun x y k=>T110c F x.1 x.2.1 x.2.2.1 k) (fun x y k=>T110n F x.1 x.2.1 x.2.2.1 k) (eq110 F)
def ord155:Nat->List (Tag×Nat)
 | _=>[]
def al155:Nat->Option Nat
 | _=>none
def ms155:Nat->Option (List (Option Tag×Nat×List Nat))
 | _=>none
def E155 (F:Nat):Ev:=⟨cfg,17,ctOf [(110,ct110 F)],ord155,ctOf [],al155,ms155⟩
theorem cts155 (F:Nat):CtsOk Tryz.prog (E155 F):=cts_of (l:=[(110,ct110 F)]) (l':=[]) rfl rfl ⟨⟨ok110 F,_,Tryz.func110,rfl,rfl⟩,trivial⟩ trivial
def T155c (F:Nat) (p0:List UInt8) (p1:Int) (p2:Int) {β:Type} (k:Bool->Option β):Option β:=
 (bif ((p0.length:Int) == (32:Int)) then (Option.bind (T110 F p1 (0:Int) (1099511627776:Int)) fun z3=>(bif z3 then (Option.bind (T110 F p2 (0:Int) (32768:Int)) fun z4=>(k z4)) else (k false))) else (k false))
def T155 (F:Nat) (p0:List UInt8) (p1:Int) (p2:Int):Option (Bool):=T155c F p0 p1 p2 some
theorem T155n (F:Nat) (p0:List UInt8) (p1:Int) (p2:Int) {β:Type} (k:Bool->Option β):T155c F p0 p1 p2 k=(T155 F p0 p1 p2).bind k:=by
 simp only [T155,T155c,Option.bind_assoc,cond_bind,Option.bind_some,Option.bind_none,elimS_bind]
abbrev cA155:List Sh:=[(.pr .str (.pr .i (.pr .i .un)))]
abbrev cB155:List Sh:=[.bo]
abbrev cT155:List TSh:=[]
abbrev cU155:List TSh:=[]
def ct155 (F:Nat):Ct:=mkC 0 cA155 cT155 cB155 cU155 (fun x y=>T155 F x.1.1 x.1.2.1 x.1.2.2.1) (fun x y (z:Bool)=>((z,()),()))
theorem eq155 (F:Nat) (x:dens cA155) (y:tdens cT155):sev (E155 F) 0 [] (bodyOf Tryz.f155) [] (mkSt (rng 1) cA155 cT155 x y) (kFn (E155 F) 0 Tryz.f155.results.toList cB155 cU155 fun p q=>some (p,q)) =
  T155c F x.1.1 x.1.2.1 x.1.2.2.1 (fun z=>some ((z,()),())):=by kernel_rfl
theorem ok155 (F:Nat):Sound Tryz.prog cfg 155 (ct155 F):=
 mkC_ok (E:=E155 F) (lp:=[]) (code:=bodyOf Tryz.f155) Tryz.func155 rfl Tryz.ntmps155 rfl rfl cok (cts155 F) mixed trivial (by kernel_rfl) (fun x y k=>T155c F x.1.1 x.1.2.1 x.1.2.2.1 k) (fun x y k=>T155n F x.1.1 x.1.2.1 x.1.2.2.1 k) (eq155 F)
def ord111:Nat->List (Tag×Nat)
 | _=>[]
def al111:Nat->Option Nat
 | _=>none
def ms111:Nat->Option (List (Option Tag×Nat×List Nat))
 | _=>none
def E111 (F:Nat):Ev:=⟨cfg,44,ctOf [(110,ct110 F),(155,ct155 F)],ord111,ctOf [],al111,ms111⟩
theorem cts111 (F:Nat):CtsOk Tryz.prog (E111 F):=cts_of (l:=[(110,ct110 F),(155,ct155 F)]) (l':=[]) rfl rfl ⟨⟨ok110 F,_,Tryz.func110,rfl,rfl⟩,⟨⟨ok155 F,_,Tryz.func155,rfl,rfl⟩,trivial⟩⟩ trivial
def T111c (F:Nat) (p0:Int) (p1:Int) (p2:Int) (p3:List UInt8) (p4:Int) (p5:Int) (p6:Int) (p7:Int) (p8:List UInt8) {β:Type} (k:Bool->Option β):Option β:=
 (Option.bind (T110 F p0 (0:Int) (11:Int)) fun z7=>(bif (!z7) then (k false) else (Option.bind (T110 F p1 (1:Int) (1099511627776:Int)) fun z8=>(bif (!z8) then (k false) else (Option.bind (T110 F p2 (0:Int) (999999:Int)) fun z9=>(bif (!z9) then (k false) else (Option.bind (T110 F p6 (0:Int) (1099511627776:Int)) fun z10=>(bif (!z10) then (k false) else (Option.bind (T110 F p7 (0:Int) (1099511627776:Int)) fun z11=>(bif (!z11) then (k false) else (Option.bind (T155 F p3 p4 p5) fun z12=>(bif z12 then (bif ((p8.length:Int) == (0:Int)) then (k true) else (k ((p8.length:Int) == (32:Int)))) else (k false)))))))))))))
def T111 (F:Nat) (p0:Int) (p1:Int) (p2:Int) (p3:List UInt8) (p4:Int) (p5:Int) (p6:Int) (p7:Int) (p8:List UInt8):Option (Bool):=T111c F p0 p1 p2 p3 p4 p5 p6 p7 p8 some
theorem T111n (F:Nat) (p0:Int) (p1:Int) (p2:Int) (p3:List UInt8) (p4:Int) (p5:Int) (p6:Int) (p7:Int) (p8:List UInt8) {β:Type} (k:Bool->Option β):T111c F p0 p1 p2 p3 p4 p5 p6 p7 p8 k=(T111 F p0 p1 p2 p3 p4 p5 p6 p7 p8).bind k:=by
 simp only [T111,T111c,Option.bind_assoc,cond_bind,Option.bind_some,Option.bind_none,elimS_bind]
abbrev cA111:List Sh:=[(.pr .i (.pr .i (.pr .i (.pr (.pr .str (.pr .i (.pr .i .un))) (.pr .i (.pr .i (.pr .str (.pr .bo .un))))))))]
abbrev cB111:List Sh:=[.bo]
abbrev cT111:List TSh:=[]
abbrev cU111:List TSh:=[]
def ct111 (F:Nat):Ct:=mkC 0 cA111 cT111 cB111 cU111 (fun x y=>T111 F x.1.1 x.1.2.1 x.1.2.2.1 x.1.2.2.2.1.1 x.1.2.2.2.1.2.1 x.1.2.2.2.1.2.2.1 x.1.2.2.2.2.1 x.1.2.2.2.2.2.1 x.1.2.2.2.2.2.2.1) (fun x y (z:Bool)=>((z,()),()))
theorem eq111 (F:Nat) (x:dens cA111) (y:tdens cT111):sev (E111 F) 0 [] (bodyOf Tryz.f111) [] (mkSt (rng 1) cA111 cT111 x y) (kFn (E111 F) 0 Tryz.f111.results.toList cB111 cU111 fun p q=>some (p,q)) =
  T111c F x.1.1 x.1.2.1 x.1.2.2.1 x.1.2.2.2.1.1 x.1.2.2.2.1.2.1 x.1.2.2.2.1.2.2.1 x.1.2.2.2.2.1 x.1.2.2.2.2.2.1 x.1.2.2.2.2.2.2.1 (fun z=>some ((z,()),())):=by kernel_rfl
theorem ok111 (F:Nat):Sound Tryz.prog cfg 111 (ct111 F):=
 mkC_ok (E:=E111 F) (lp:=[]) (code:=bodyOf Tryz.f111) Tryz.func111 rfl Tryz.ntmps111 rfl rfl cok (cts111 F) mixed trivial (by kernel_rfl) (fun x y k=>T111c F x.1.1 x.1.2.1 x.1.2.2.1 x.1.2.2.2.1.1 x.1.2.2.2.1.2.1 x.1.2.2.2.1.2.2.1 x.1.2.2.2.2.1 x.1.2.2.2.2.2.1 x.1.2.2.2.2.2.2.1 k) (fun x y k=>T111n F x.1.1 x.1.2.1 x.1.2.2.1 x.1.2.2.2.1.1 x.1.2.2.2.1.2.1 x.1.2.2.2.1.2.2.1 x.1.2.2.2.2.1 x.1.2.2.2.2.2.1 x.1.2.2.2.2.2.2.1 k) (eq111 F)
def ord157:Nat->List (Tag×Nat)
 | _=>[]
def al157:Nat->Option Nat
 | _=>none
def ms157:Nat->Option (List (Option Tag×Nat×List Nat))
 | _=>none
def E157 (F:Nat):Ev:=⟨cfg,6,ctOf [(155,ct155 F)],ord157,ctOf [],al157,ms157⟩
theorem cts157 (F:Nat):CtsOk Tryz.prog (E157 F):=cts_of (l:=[(155,ct155 F)]) (l':=[]) rfl rfl ⟨⟨ok155 F,_,Tryz.func155,rfl,rfl⟩,trivial⟩ trivial
def T157c (F:Nat) (p0:List UInt8) (p1:Int) (p2:Int) {β:Type} (k:Bool->Option β):Option β:=
 (Option.bind (T155 F p0 p1 p2) fun z2=>(k (!z2)))
def T157 (F:Nat) (p0:List UInt8) (p1:Int) (p2:Int):Option (Bool):=T157c F p0 p1 p2 some
theorem T157n (F:Nat) (p0:List UInt8) (p1:Int) (p2:Int) {β:Type} (k:Bool->Option β):T157c F p0 p1 p2 k=(T157 F p0 p1 p2).bind k:=by
 simp only [T157,T157c,Option.bind_assoc,cond_bind,Option.bind_some,Option.bind_none,elimS_bind]
abbrev cA157:List Sh:=[(.pr .str (.pr .i (.pr .i .un)))]
abbrev cB157:List Sh:=[.bo]
abbrev cT157:List TSh:=[]
abbrev cU157:List TSh:=[]
def ct157 (F:Nat):Ct:=mkC 0 cA157 cT157 cB157 cU157 (fun x y=>T157 F x.1.1 x.1.2.1 x.1.2.2.1) (fun x y (z:Bool)=>((z,()),()))
theorem eq157 (F:Nat) (x:dens cA157) (y:tdens cT157):sev (E157 F) 0 [] (bodyOf Tryz.f157) [] (mkSt (rng 1) cA157 cT157 x y) (kFn (E157 F) 0 Tryz.f157.results.toList cB157 cU157 fun p q=>some (p,q)) =
  T157c F x.1.1 x.1.2.1 x.1.2.2.1 (fun z=>some ((z,()),())):=by kernel_rfl
theorem ok157 (F:Nat):Sound Tryz.prog cfg 157 (ct157 F):=
 mkC_ok (E:=E157 F) (lp:=[]) (code:=bodyOf Tryz.f157) Tryz.func157 rfl Tryz.ntmps157 rfl rfl cok (cts157 F) mixed trivial (by kernel_rfl) (fun x y k=>T157c F x.1.1 x.1.2.1 x.1.2.2.1 k) (fun x y k=>T157n F x.1.1 x.1.2.1 x.1.2.2.1 k) (eq157 F)
def ord195:Nat->List (Tag×Nat)
 | _=>[]
def al195:Nat->Option Nat
 | _=>none
def ms195:Nat->Option (List (Option Tag×Nat×List Nat))
 | _=>none
def E195 (F:Nat):Ev:=⟨cfg,19,ctOf [(157,ct157 F)],ord195,ctOf [],al195,ms195⟩
theorem cts195 (F:Nat):CtsOk Tryz.prog (E195 F):=cts_of (l:=[(157,ct157 F)]) (l':=[]) rfl rfl ⟨⟨ok157 F,_,Tryz.func157,rfl,rfl⟩,trivial⟩ trivial
def L195_2c (F:Nat) (y9:List ((List UInt8)×Int×Int×Unit)) (y10:Int) (y11:Int) {β:Type} (kA:Int->Option β) (kO:Unit->Option β) (kR:Int->Option β):Option β:=
 (bif (decide (y11 < y10)) then (Option.bind (ix y9 y11) fun x14=>(Option.bind (T157 F x14.1 x14.2.1 x14.2.2.1) fun z15=>(bif z15 then (kR y11) else (kA (w64 (y11 + (1:Int))))))) else (kO ()))
def L195_2 (F:Nat) (y9:List ((List UInt8)×Int×Int×Unit)) (y10:Int) (y11:Int):Option ((Int) ⊕ ((Unit) ⊕ (Int))):=L195_2c F y9 y10 y11 (fun s=>some (.inl s)) (fun z=>some (.inr (.inl z))) (fun z=>some (.inr (.inr z)))
theorem L195_2n (F:Nat) (y9:List ((List UInt8)×Int×Int×Unit)) (y10:Int) (y11:Int) {β:Type} (kA:Int->Option β) (kO:Unit->Option β) (kR:Int->Option β):L195_2c F y9 y10 y11 kA kO kR=(L195_2 F y9 y10 y11).bind (elimS kA (elimS kO kR)):=by
 simp only [L195_2,L195_2c,Option.bind_assoc,cond_bind,Option.bind_some,Option.bind_none,elimS_l,elimS_r,elimS_bind]
abbrev sA195_2:List Sh:=[(.ro (.pr .s (.pr .i (.pr .i .un)))),(.fn 157 .un .un),.i,.i]
abbrev sAp1195_2:List Sh:=[]
abbrev sAp2195_2:List Sh:=[.i]
abbrev sT195_2:List TSh:=[]
abbrev sTp1195_2:List TSh:=[]
abbrev sTp2195_2:List TSh:=[]
def lc195_2 (F:Nat):Lc:=mkR [0,1,7,8] sA195_2 sT195_2 [] sAp1195_2 sTp1195_2 [4] sAp2195_2 sTp2195_2 F (fun x y (s:Int)=>L195_2 F x.1 x.2.2.1 s) (fun x y=>x.2.2.2.1) (fun x y (z:Unit)=>((),())) (fun x y (z:Int)=>((z,()),()))
theorem le195_2 (F:Nat) (x:dens sA195_2) (y:tdens sT195_2) (s:Int):sev (E195 F) 0 [] (cAt (bodyOf Tryz.f195) (0 :: 0 :: [1,0,1])) (0 :: 0 :: [1,0,1]) (mkSt [0,1,7,8] sA195_2 sT195_2 (x.1,((),()),x.2.2.1,s,()) ()) (kLoop 0 [0,1,7,8] sA195_2 sT195_2 [] sAp1195_2 sTp1195_2 [4] sAp2195_2 sTp2195_2 0 (fun x y=>some (.inl (x,y))) (fun x y=>some (.inr (.inl (x,y)))) (fun x y=>some (.inr (.inr (x,y))))) =
  L195_2c (β:=Full sA195_2 sT195_2 sAp1195_2 sTp1195_2 sAp2195_2 sTp2195_2) F x.1 x.2.2.1 s (fun s=>some (.inl ((x.1,((),()),x.2.2.1,s,()),()))) (fun z=>some (.inr (.inl ((),())))) (fun z=>some (.inr (.inr ((z,()),())))):=by kernel_rfl
theorem lo195_2 (F:Nat):LcOk Tryz.prog (E195 F) 0 (lc195_2 F) (cAt (bodyOf Tryz.f195) [1,0,1]):=
 mkR_ok (lp:=[]) (id:=0) (b:=cAt (bodyOf Tryz.f195) (0 :: 0 :: [1,0,1])) cok (cts195 F) mixed trivial (by kernel_rfl) (by kernel_rfl) (fun x y s=>(x.1,((),()),x.2.2.1,s,())) (fun x y s=>()) (fun x y=>rfl) (fun x y=>rfl) (fun x y s kA kO kR=>L195_2c F x.1 x.2.2.1 s kA kO kR) (fun x y s kA kO kR=>L195_2n F x.1 x.2.2.1 s kA kO kR) (le195_2 F)
def T195c (F:Nat) (p0:List ((List UInt8)×Int×Int×Unit)) {β:Type} (k:Int->Option β):Option β:=
 (Option.bind (iter (fun s=>L195_2 F p0 (p0.length:Int) s) F (0:Int)) fun z16=>elimS (fun z16=>(k (-1:Int))) (fun z16=>(k z16)) z16)
def T195 (F:Nat) (p0:List ((List UInt8)×Int×Int×Unit)):Option (Int):=T195c F p0 some
theorem T195n (F:Nat) (p0:List ((List UInt8)×Int×Int×Unit)) {β:Type} (k:Int->Option β):T195c F p0 k=(T195 F p0).bind k:=by
 simp only [T195,T195c,Option.bind_assoc,cond_bind,Option.bind_some,Option.bind_none,elimS_bind]
abbrev cA195:List Sh:=[(.ro (.pr .s (.pr .i (.pr .i .un)))),(.fn 157 .un .un)]
abbrev cB195:List Sh:=[.i]
abbrev cT195:List TSh:=[]
abbrev cU195:List TSh:=[]
def ct195 (F:Nat):Ct:=mkC 0 cA195 cT195 cB195 cU195 (fun x y=>T195 F x.1) (fun x y (z:Int)=>((z,()),()))
theorem eq195 (F:Nat) (x:dens cA195) (y:tdens cT195):sev (E195 F) 0 [([1,0,1],lc195_2 F)] (bodyOf Tryz.f195) [] (mkSt (rng 2) cA195 cT195 x y) (kFn (E195 F) 0 Tryz.f195.results.toList cB195 cU195 fun p q=>some (p,q)) =
  T195c F x.1 (fun z=>some ((z,()),())):=by kernel_rfl
theorem ok195 (F:Nat):Sound Tryz.prog cfg 195 (ct195 F):=
 mkC_ok (E:=E195 F) (lp:=[([1,0,1],lc195_2 F)]) (code:=bodyOf Tryz.f195) Tryz.func195 rfl Tryz.ntmps195 rfl rfl cok (cts195 F) mixed ⟨lo195_2 F,trivial⟩ (by kernel_rfl) (fun x y k=>T195c F x.1 k) (fun x y k=>T195n F x.1 k) (eq195 F)
def ord156:Nat->List (Tag×Nat)
 | _=>[]
def al156:Nat->Option Nat
 | _=>none
def ms156:Nat->Option (List (Option Tag×Nat×List Nat))
 | _=>none
def E156 (F:Nat):Ev:=⟨cfg,9,ctOf [(195,ct195 F)],ord156,ctOf [],al156,ms156⟩
theorem cts156 (F:Nat):CtsOk Tryz.prog (E156 F):=cts_of (l:=[(195,ct195 F)]) (l':=[]) rfl rfl ⟨⟨ok195 F,_,Tryz.func195,rfl,rfl⟩,trivial⟩ trivial
def T156c (F:Nat) (p0:List ((List UInt8)×Int×Int×Unit)) {β:Type} (k:Bool->Option β):Option β:=
 (Option.bind (T195 F p0) fun z2=>(k (decide ((0:Int)≤z2))))
def T156 (F:Nat) (p0:List ((List UInt8)×Int×Int×Unit)):Option (Bool):=T156c F p0 some
theorem T156n (F:Nat) (p0:List ((List UInt8)×Int×Int×Unit)) {β:Type} (k:Bool->Option β):T156c F p0 k=(T156 F p0).bind k:=by
 simp only [T156,T156c,Option.bind_assoc,cond_bind,Option.bind_some,Option.bind_none,elimS_bind]
abbrev cA156:List Sh:=[(.ro (.pr .s (.pr .i (.pr .i .un)))),(.fn 157 .un .un)]
abbrev cB156:List Sh:=[.bo]
abbrev cT156:List TSh:=[]
abbrev cU156:List TSh:=[]
def ct156 (F:Nat):Ct:=mkC 0 cA156 cT156 cB156 cU156 (fun x y=>T156 F x.1) (fun x y (z:Bool)=>((z,()),()))
theorem eq156 (F:Nat) (x:dens cA156) (y:tdens cT156):sev (E156 F) 0 [] (bodyOf Tryz.f156) [] (mkSt (rng 2) cA156 cT156 x y) (kFn (E156 F) 0 Tryz.f156.results.toList cB156 cU156 fun p q=>some (p,q)) =
  T156c F x.1 (fun z=>some ((z,()),())):=by kernel_rfl
theorem ok156 (F:Nat):Sound Tryz.prog cfg 156 (ct156 F):=
 mkC_ok (E:=E156 F) (lp:=[]) (code:=bodyOf Tryz.f156) Tryz.func156 rfl Tryz.ntmps156 rfl rfl cok (cts156 F) mixed trivial (by kernel_rfl) (fun x y k=>T156c F x.1 k) (fun x y k=>T156n F x.1 k) (eq156 F)
def ord113:Nat->List (Tag×Nat)
 | _=>[]
def al113:Nat->Option Nat
 | _=>none
def ms113:Nat->Option (List (Option Tag×Nat×List Nat))
 | _=>none
def E113 (F:Nat):Ev:=⟨cfg,6,ctOf [(156,ct156 F)],ord113,ctOf [],al113,ms113⟩
theorem cts113 (F:Nat):CtsOk Tryz.prog (E113 F):=cts_of (l:=[(156,ct156 F)]) (l':=[]) rfl rfl ⟨⟨ok156 F,_,Tryz.func156,rfl,rfl⟩,trivial⟩ trivial
def T113c (F:Nat) (p0:List ((List UInt8)×Int×Int×Unit)) {β:Type} (k:Bool->Option β):Option β:=
 (Option.bind (T156 F p0) fun z2=>(k (!z2)))
def T113 (F:Nat) (p0:List ((List UInt8)×Int×Int×Unit)):Option (Bool):=T113c F p0 some
theorem T113n (F:Nat) (p0:List ((List UInt8)×Int×Int×Unit)) {β:Type} (k:Bool->Option β):T113c F p0 k=(T113 F p0).bind k:=by
 simp only [T113,T113c,Option.bind_assoc,cond_bind,Option.bind_some,Option.bind_none,elimS_bind]
abbrev cA113:List Sh:=[(.ro (.pr .s (.pr .i (.pr .i .un))))]
abbrev cB113:List Sh:=[.bo]
abbrev cT113:List TSh:=[]
abbrev cU113:List TSh:=[]
def ct113 (F:Nat):Ct:=mkC 0 cA113 cT113 cB113 cU113 (fun x y=>T113 F x.1) (fun x y (z:Bool)=>((z,()),()))
theorem eq113 (F:Nat) (x:dens cA113) (y:tdens cT113):sev (E113 F) 0 [] (bodyOf Tryz.f113) [] (mkSt (rng 1) cA113 cT113 x y) (kFn (E113 F) 0 Tryz.f113.results.toList cB113 cU113 fun p q=>some (p,q)) =
  T113c F x.1 (fun z=>some ((z,()),())):=by kernel_rfl
theorem ok113 (F:Nat):Sound Tryz.prog cfg 113 (ct113 F):=
 mkC_ok (E:=E113 F) (lp:=[]) (code:=bodyOf Tryz.f113) Tryz.func113 rfl Tryz.ntmps113 rfl rfl cok (cts113 F) mixed trivial (by kernel_rfl) (fun x y k=>T113c F x.1 k) (fun x y k=>T113n F x.1 k) (eq113 F)
def ord112:Nat->List (Tag×Nat)
 | _=>[]
def al112:Nat->Option Nat
 | _=>none
def ms112:Nat->Option (List (Option Tag×Nat×List Nat))
 | _=>none
def E112 (F:Nat):Ev:=⟨cfg,38,ctOf [(110,ct110 F),(113,ct113 F)],ord112,ctOf [],al112,ms112⟩
theorem cts112 (F:Nat):CtsOk Tryz.prog (E112 F):=cts_of (l:=[(110,ct110 F),(113,ct113 F)]) (l':=[]) rfl rfl ⟨⟨ok110 F,_,Tryz.func110,rfl,rfl⟩,⟨⟨ok113 F,_,Tryz.func113,rfl,rfl⟩,trivial⟩⟩ trivial
def T112c (F:Nat) (p0:List UInt8) (p1:Int) (p2:Int) (p3:Int) (p4:Int) (p5:List ((List UInt8)×Int×Int×Unit)) {β:Type} (k:Bool->Option β):Option β:=
 (bif ((p0.length:Int) != (32:Int)) then (k false) else (Option.bind (T110 F p1 (0:Int) (1000:Int)) fun z6=>(bif (!z6) then (k false) else (Option.bind (T110 F p2 (1:Int) (65536:Int)) fun z7=>(bif (!z7) then (k false) else (Option.bind (T110 F p3 (1:Int) (8:Int)) fun z8=>(bif (!z8) then (k false) else (Option.bind (T110 F p4 (1:Int) (16:Int)) fun z9=>(bif (!z9) then (k false) else (bif (decide ((p5.length:Int)≤(8:Int))) then (Option.bind (T113 F p5) fun z10=>(k z10)) else (k false)))))))))))
def T112 (F:Nat) (p0:List UInt8) (p1:Int) (p2:Int) (p3:Int) (p4:Int) (p5:List ((List UInt8)×Int×Int×Unit)):Option (Bool):=T112c F p0 p1 p2 p3 p4 p5 some
theorem T112n (F:Nat) (p0:List UInt8) (p1:Int) (p2:Int) (p3:Int) (p4:Int) (p5:List ((List UInt8)×Int×Int×Unit)) {β:Type} (k:Bool->Option β):T112c F p0 p1 p2 p3 p4 p5 k=(T112 F p0 p1 p2 p3 p4 p5).bind k:=by
 simp only [T112,T112c,Option.bind_assoc,cond_bind,Option.bind_some,Option.bind_none,elimS_bind]
abbrev cA112:List Sh:=[(.pr .str (.pr .i (.pr .i (.pr .i (.pr .i (.pr (.ro (.pr .s (.pr .i (.pr .i .un)))) .un))))))]
abbrev cB112:List Sh:=[.bo]
abbrev cT112:List TSh:=[]
abbrev cU112:List TSh:=[]
def ct112 (F:Nat):Ct:=mkC 0 cA112 cT112 cB112 cU112 (fun x y=>T112 F x.1.1 x.1.2.1 x.1.2.2.1 x.1.2.2.2.1 x.1.2.2.2.2.1 x.1.2.2.2.2.2.1) (fun x y (z:Bool)=>((z,()),()))
theorem eq112 (F:Nat) (x:dens cA112) (y:tdens cT112):sev (E112 F) 0 [] (bodyOf Tryz.f112) [] (mkSt (rng 1) cA112 cT112 x y) (kFn (E112 F) 0 Tryz.f112.results.toList cB112 cU112 fun p q=>some (p,q)) =
  T112c F x.1.1 x.1.2.1 x.1.2.2.1 x.1.2.2.2.1 x.1.2.2.2.2.1 x.1.2.2.2.2.2.1 (fun z=>some ((z,()),())):=by kernel_rfl
theorem ok112 (F:Nat):Sound Tryz.prog cfg 112 (ct112 F):=
 mkC_ok (E:=E112 F) (lp:=[]) (code:=bodyOf Tryz.f112) Tryz.func112 rfl Tryz.ntmps112 rfl rfl cok (cts112 F) mixed trivial (by kernel_rfl) (fun x y k=>T112c F x.1.1 x.1.2.1 x.1.2.2.1 x.1.2.2.2.1 x.1.2.2.2.2.1 x.1.2.2.2.2.2.1 k) (fun x y k=>T112n F x.1.1 x.1.2.1 x.1.2.2.1 x.1.2.2.2.1 x.1.2.2.2.2.1 x.1.2.2.2.2.2.1 k) (eq112 F)
def ord43:Nat->List (Tag×Nat)
 | _=>[]
def al43:Nat->Option Nat
 | _=>none
def ms43:Nat->Option (List (Option Tag×Nat×List Nat))
 | _=>none
def E43 (F:Nat):Ev:=⟨cfg,77,ctOf [(110,ct110 F),(111,ct111 F),(112,ct112 F),(113,ct113 F)],ord43,ctOf [],al43,ms43⟩
theorem cts43 (F:Nat):CtsOk Tryz.prog (E43 F):=cts_of (l:=[(110,ct110 F),(111,ct111 F),(112,ct112 F),(113,ct113 F)]) (l':=[]) rfl rfl ⟨⟨ok110 F,_,Tryz.func110,rfl,rfl⟩,⟨⟨ok111 F,_,Tryz.func111,rfl,rfl⟩,⟨⟨ok112 F,_,Tryz.func112,rfl,rfl⟩,⟨⟨ok113 F,_,Tryz.func113,rfl,rfl⟩,trivial⟩⟩⟩⟩ trivial
def L43_4c (F:Nat) (y48:List Int) (y49:Int) (y50:Int) {β:Type} (kA:Int->Option β) (kO:Unit->Option β) (kR:Bool->Option β):Option β:=
 (bif (decide (y50 < y49)) then (Option.bind (ix y48 y50) fun x59=>(Option.bind (T110 F x59 (0:Int) (1099511627776:Int)) fun z60=>(bif (!z60) then (kR false) else (kA (w64 (y50 + (1:Int))))))) else (kO ()))
def L43_4 (F:Nat) (y48:List Int) (y49:Int) (y50:Int):Option ((Int) ⊕ ((Unit) ⊕ (Bool))):=L43_4c F y48 y49 y50 (fun s=>some (.inl s)) (fun z=>some (.inr (.inl z))) (fun z=>some (.inr (.inr z)))
theorem L43_4n (F:Nat) (y48:List Int) (y49:Int) (y50:Int) {β:Type} (kA:Int->Option β) (kO:Unit->Option β) (kR:Bool->Option β):L43_4c F y48 y49 y50 kA kO kR=(L43_4 F y48 y49 y50).bind (elimS kA (elimS kO kR)):=by
 simp only [L43_4,L43_4c,Option.bind_assoc,cond_bind,Option.bind_some,Option.bind_none,elimS_l,elimS_r,elimS_bind]
abbrev sA43_4:List Sh:=[(.pt 0 []),(.ro .i),.i,.i]
abbrev sAp143_4:List Sh:=[(.pt 0 [])]
abbrev sAp243_4:List Sh:=[.bo]
abbrev sT43_4:List TSh:=[.blk 27 (.pr .i (.pr .i (.pr (.ro .i) (.pr (.ro (.pr .i (.pr .i (.pr .i (.pr (.pr .s (.pr .i (.pr .i .un))) (.pr .i (.pr .i (.pr .s (.pr .bo .un))))))))) (.pr (.ro (.pr .s (.pr .i (.pr .i (.pr .i (.pr .i (.pr (.sl (.pr .s (.pr .i (.pr .i .un)))) .un))))))) (.pr (.ro (.pr .s (.pr .i (.pr .i .un)))) .un))))))]
abbrev sTp143_4:List TSh:=[.blk 27 (.pr .i (.pr .i (.pr (.ro .i) (.pr (.ro (.pr .i (.pr .i (.pr .i (.pr (.pr .s (.pr .i (.pr .i .un))) (.pr .i (.pr .i (.pr .s (.pr .bo .un))))))))) (.pr (.ro (.pr .s (.pr .i (.pr .i (.pr .i (.pr .i (.pr (.sl (.pr .s (.pr .i (.pr .i .un)))) .un))))))) (.pr (.ro (.pr .s (.pr .i (.pr .i .un)))) .un))))))]
abbrev sTp243_4:List TSh:=[]
def lc43_4 (F:Nat):Lc:=mkR [1,42,43,44] sA43_4 sT43_4 [1] sAp143_4 sTp143_4 [2] sAp243_4 sTp243_4 F (fun x y (s:Int)=>L43_4 F x.2.1 x.2.2.1 s) (fun x y=>x.2.2.2.1) (fun x y (z:Unit)=>(((),()),((y.1.1,y.1.2.1,y.1.2.2.1,y.1.2.2.2.1,y.1.2.2.2.2.1,y.1.2.2.2.2.2.1,()),()))) (fun x y (z:Bool)=>((z,()),()))
theorem le43_4 (F:Nat) (x:dens sA43_4) (y:tdens sT43_4) (s:Int):sev (E43 F) 0 [] (cAt (bodyOf Tryz.f43) (0 :: 0 :: [1,0,1,1,1])) (0 :: 0 :: [1,0,1,1,1]) (mkSt [1,42,43,44] sA43_4 sT43_4 ((),x.2.1,x.2.2.1,s,()) ((y.1.1,y.1.2.1,y.1.2.2.1,y.1.2.2.2.1,y.1.2.2.2.2.1,y.1.2.2.2.2.2.1,()),())) (kLoop 0 [1,42,43,44] sA43_4 sT43_4 [1] sAp143_4 sTp143_4 [2] sAp243_4 sTp243_4 0 (fun x y=>some (.inl (x,y))) (fun x y=>some (.inr (.inl (x,y)))) (fun x y=>some (.inr (.inr (x,y))))) =
  L43_4c (β:=Full sA43_4 sT43_4 sAp143_4 sTp143_4 sAp243_4 sTp243_4) F x.2.1 x.2.2.1 s (fun s=>some (.inl (((),x.2.1,x.2.2.1,s,()),((y.1.1,y.1.2.1,y.1.2.2.1,y.1.2.2.2.1,y.1.2.2.2.2.1,y.1.2.2.2.2.2.1,()),())))) (fun z=>some (.inr (.inl (((),()),((y.1.1,y.1.2.1,y.1.2.2.1,y.1.2.2.2.1,y.1.2.2.2.2.1,y.1.2.2.2.2.2.1,()),()))))) (fun z=>some (.inr (.inr ((z,()),())))):=by kernel_rfl
theorem lo43_4 (F:Nat):LcOk Tryz.prog (E43 F) 0 (lc43_4 F) (cAt (bodyOf Tryz.f43) [1,0,1,1,1]):=
 mkR_ok (lp:=[]) (id:=0) (b:=cAt (bodyOf Tryz.f43) (0 :: 0 :: [1,0,1,1,1])) cok (cts43 F) mixed trivial (by kernel_rfl) (by kernel_rfl) (fun x y s=>((),x.2.1,x.2.2.1,s,())) (fun x y s=>((y.1.1,y.1.2.1,y.1.2.2.1,y.1.2.2.2.1,y.1.2.2.2.2.1,y.1.2.2.2.2.2.1,()),())) (fun x y=>rfl) (fun x y=>rfl) (fun x y s kA kO kR=>L43_4c F x.2.1 x.2.2.1 s kA kO kR) (fun x y s kA kO kR=>L43_4n F x.2.1 x.2.2.1 s kA kO kR) (le43_4 F)
def L43_5c (F:Nat) (y62:List (Int×Int×Int×((List UInt8)×Int×Int×Unit)×Int×Int×(List UInt8)×Bool×Unit)) (y63:Int) (y64:Int) {β:Type} (kA:Int->Option β) (kO:Unit->Option β) (kR:Bool->Option β):Option β:=
 (bif (decide (y64 < y63)) then (Option.bind (ix y62 y64) fun x73=>(Option.bind (T111 F x73.1 x73.2.1 x73.2.2.1 x73.2.2.2.1.1 x73.2.2.2.1.2.1 x73.2.2.2.1.2.2.1 x73.2.2.2.2.1 x73.2.2.2.2.2.1 x73.2.2.2.2.2.2.1) fun z74=>(bif (!z74) then (kR false) else (kA (w64 (y64 + (1:Int))))))) else (kO ()))
def L43_5 (F:Nat) (y62:List (Int×Int×Int×((List UInt8)×Int×Int×Unit)×Int×Int×(List UInt8)×Bool×Unit)) (y63:Int) (y64:Int):Option ((Int) ⊕ ((Unit) ⊕ (Bool))):=L43_5c F y62 y63 y64 (fun s=>some (.inl s)) (fun z=>some (.inr (.inl z))) (fun z=>some (.inr (.inr z)))
theorem L43_5n (F:Nat) (y62:List (Int×Int×Int×((List UInt8)×Int×Int×Unit)×Int×Int×(List UInt8)×Bool×Unit)) (y63:Int) (y64:Int) {β:Type} (kA:Int->Option β) (kO:Unit->Option β) (kR:Bool->Option β):L43_5c F y62 y63 y64 kA kO kR=(L43_5 F y62 y63 y64).bind (elimS kA (elimS kO kR)):=by
 simp only [L43_5,L43_5c,Option.bind_assoc,cond_bind,Option.bind_some,Option.bind_none,elimS_l,elimS_r,elimS_bind]
abbrev sA43_5:List Sh:=[(.pt 0 []),(.ro (.pr .i (.pr .i (.pr .i (.pr (.pr .s (.pr .i (.pr .i .un))) (.pr .i (.pr .i (.pr .s (.pr .bo .un))))))))),.i,.i]
abbrev sAp143_5:List Sh:=[(.pt 0 [])]
abbrev sAp243_5:List Sh:=[.bo]
abbrev sT43_5:List TSh:=[.blk 27 (.pr .i (.pr .i (.pr (.ro .i) (.pr (.ro (.pr .i (.pr .i (.pr .i (.pr (.pr .s (.pr .i (.pr .i .un))) (.pr .i (.pr .i (.pr .s (.pr .bo .un))))))))) (.pr (.ro (.pr .s (.pr .i (.pr .i (.pr .i (.pr .i (.pr (.sl (.pr .s (.pr .i (.pr .i .un)))) .un))))))) (.pr (.ro (.pr .s (.pr .i (.pr .i .un)))) .un))))))]
abbrev sTp143_5:List TSh:=[.blk 27 (.pr .i (.pr .i (.pr (.ro .i) (.pr (.ro (.pr .i (.pr .i (.pr .i (.pr (.pr .s (.pr .i (.pr .i .un))) (.pr .i (.pr .i (.pr .s (.pr .bo .un))))))))) (.pr (.ro (.pr .s (.pr .i (.pr .i (.pr .i (.pr .i (.pr (.sl (.pr .s (.pr .i (.pr .i .un)))) .un))))))) (.pr (.ro (.pr .s (.pr .i (.pr .i .un)))) .un))))))]
abbrev sTp243_5:List TSh:=[]
def lc43_5 (F:Nat):Lc:=mkR [1,53,54,55] sA43_5 sT43_5 [1] sAp143_5 sTp143_5 [2] sAp243_5 sTp243_5 F (fun x y (s:Int)=>L43_5 F x.2.1 x.2.2.1 s) (fun x y=>x.2.2.2.1) (fun x y (z:Unit)=>(((),()),((y.1.1,y.1.2.1,y.1.2.2.1,y.1.2.2.2.1,y.1.2.2.2.2.1,y.1.2.2.2.2.2.1,()),()))) (fun x y (z:Bool)=>((z,()),()))
theorem le43_5 (F:Nat) (x:dens sA43_5) (y:tdens sT43_5) (s:Int):sev (E43 F) 0 [] (cAt (bodyOf Tryz.f43) (0 :: 0 :: [1,0,1,1,1,1])) (0 :: 0 :: [1,0,1,1,1,1]) (mkSt [1,53,54,55] sA43_5 sT43_5 ((),x.2.1,x.2.2.1,s,()) ((y.1.1,y.1.2.1,y.1.2.2.1,y.1.2.2.2.1,y.1.2.2.2.2.1,y.1.2.2.2.2.2.1,()),())) (kLoop 0 [1,53,54,55] sA43_5 sT43_5 [1] sAp143_5 sTp143_5 [2] sAp243_5 sTp243_5 2 (fun x y=>some (.inl (x,y))) (fun x y=>some (.inr (.inl (x,y)))) (fun x y=>some (.inr (.inr (x,y))))) =
  L43_5c (β:=Full sA43_5 sT43_5 sAp143_5 sTp143_5 sAp243_5 sTp243_5) F x.2.1 x.2.2.1 s (fun s=>some (.inl (((),x.2.1,x.2.2.1,s,()),((y.1.1,y.1.2.1,y.1.2.2.1,y.1.2.2.2.1,y.1.2.2.2.2.1,y.1.2.2.2.2.2.1,()),())))) (fun z=>some (.inr (.inl (((),()),((y.1.1,y.1.2.1,y.1.2.2.1,y.1.2.2.2.1,y.1.2.2.2.2.1,y.1.2.2.2.2.2.1,()),()))))) (fun z=>some (.inr (.inr ((z,()),())))):=by kernel_rfl
theorem lo43_5 (F:Nat):LcOk Tryz.prog (E43 F) 0 (lc43_5 F) (cAt (bodyOf Tryz.f43) [1,0,1,1,1,1]):=
 mkR_ok (lp:=[]) (id:=2) (b:=cAt (bodyOf Tryz.f43) (0 :: 0 :: [1,0,1,1,1,1])) cok (cts43 F) mixed trivial (by kernel_rfl) (by kernel_rfl) (fun x y s=>((),x.2.1,x.2.2.1,s,())) (fun x y s=>((y.1.1,y.1.2.1,y.1.2.2.1,y.1.2.2.2.1,y.1.2.2.2.2.1,y.1.2.2.2.2.2.1,()),())) (fun x y=>rfl) (fun x y=>rfl) (fun x y s kA kO kR=>L43_5c F x.2.1 x.2.2.1 s kA kO kR) (fun x y s kA kO kR=>L43_5n F x.2.1 x.2.2.1 s kA kO kR) (le43_5 F)
def L43_6c (F:Nat) (y76:List ((List UInt8)×Int×Int×Int×Int×(List ((List UInt8)×Int×Int×Unit))×Unit)) (y77:Int) (y78:Int) {β:Type} (kA:Int->Option β) (kO:Unit->Option β) (kR:Bool->Option β):Option β:=
 (bif (decide (y78 < y77)) then (Option.bind (ix y76 y78) fun x87=>(Option.bind (T112 F x87.1 x87.2.1 x87.2.2.1 x87.2.2.2.1 x87.2.2.2.2.1 x87.2.2.2.2.2.1) fun z88=>(bif (!z88) then (kR false) else (kA (w64 (y78 + (1:Int))))))) else (kO ()))
def L43_6 (F:Nat) (y76:List ((List UInt8)×Int×Int×Int×Int×(List ((List UInt8)×Int×Int×Unit))×Unit)) (y77:Int) (y78:Int):Option ((Int) ⊕ ((Unit) ⊕ (Bool))):=L43_6c F y76 y77 y78 (fun s=>some (.inl s)) (fun z=>some (.inr (.inl z))) (fun z=>some (.inr (.inr z)))
theorem L43_6n (F:Nat) (y76:List ((List UInt8)×Int×Int×Int×Int×(List ((List UInt8)×Int×Int×Unit))×Unit)) (y77:Int) (y78:Int) {β:Type} (kA:Int->Option β) (kO:Unit->Option β) (kR:Bool->Option β):L43_6c F y76 y77 y78 kA kO kR=(L43_6 F y76 y77 y78).bind (elimS kA (elimS kO kR)):=by
 simp only [L43_6,L43_6c,Option.bind_assoc,cond_bind,Option.bind_some,Option.bind_none,elimS_l,elimS_r,elimS_bind]
abbrev sA43_6:List Sh:=[(.pt 0 []),(.ro (.pr .s (.pr .i (.pr .i (.pr .i (.pr .i (.pr (.sl (.pr .s (.pr .i (.pr .i .un)))) .un))))))),.i,.i]
abbrev sAp143_6:List Sh:=[(.pt 0 [])]
abbrev sAp243_6:List Sh:=[.bo]
abbrev sT43_6:List TSh:=[.blk 27 (.pr .i (.pr .i (.pr (.ro .i) (.pr (.ro (.pr .i (.pr .i (.pr .i (.pr (.pr .s (.pr .i (.pr .i .un))) (.pr .i (.pr .i (.pr .s (.pr .bo .un))))))))) (.pr (.ro (.pr .s (.pr .i (.pr .i (.pr .i (.pr .i (.pr (.sl (.pr .s (.pr .i (.pr .i .un)))) .un))))))) (.pr (.ro (.pr .s (.pr .i (.pr .i .un)))) .un))))))]
abbrev sTp143_6:List TSh:=[.blk 27 (.pr .i (.pr .i (.pr (.ro .i) (.pr (.ro (.pr .i (.pr .i (.pr .i (.pr (.pr .s (.pr .i (.pr .i .un))) (.pr .i (.pr .i (.pr .s (.pr .bo .un))))))))) (.pr (.ro (.pr .s (.pr .i (.pr .i (.pr .i (.pr .i (.pr (.sl (.pr .s (.pr .i (.pr .i .un)))) .un))))))) (.pr (.ro (.pr .s (.pr .i (.pr .i .un)))) .un))))))]
abbrev sTp243_6:List TSh:=[]
def lc43_6 (F:Nat):Lc:=mkR [1,64,65,66] sA43_6 sT43_6 [1] sAp143_6 sTp143_6 [2] sAp243_6 sTp243_6 F (fun x y (s:Int)=>L43_6 F x.2.1 x.2.2.1 s) (fun x y=>x.2.2.2.1) (fun x y (z:Unit)=>(((),()),((y.1.1,y.1.2.1,y.1.2.2.1,y.1.2.2.2.1,y.1.2.2.2.2.1,y.1.2.2.2.2.2.1,()),()))) (fun x y (z:Bool)=>((z,()),()))
theorem le43_6 (F:Nat) (x:dens sA43_6) (y:tdens sT43_6) (s:Int):sev (E43 F) 0 [] (cAt (bodyOf Tryz.f43) (0 :: 0 :: [1,0,1,1,1,1,1])) (0 :: 0 :: [1,0,1,1,1,1,1]) (mkSt [1,64,65,66] sA43_6 sT43_6 ((),x.2.1,x.2.2.1,s,()) ((y.1.1,y.1.2.1,y.1.2.2.1,y.1.2.2.2.1,y.1.2.2.2.2.1,y.1.2.2.2.2.2.1,()),())) (kLoop 0 [1,64,65,66] sA43_6 sT43_6 [1] sAp143_6 sTp143_6 [2] sAp243_6 sTp243_6 4 (fun x y=>some (.inl (x,y))) (fun x y=>some (.inr (.inl (x,y)))) (fun x y=>some (.inr (.inr (x,y))))) =
  L43_6c (β:=Full sA43_6 sT43_6 sAp143_6 sTp143_6 sAp243_6 sTp243_6) F x.2.1 x.2.2.1 s (fun s=>some (.inl (((),x.2.1,x.2.2.1,s,()),((y.1.1,y.1.2.1,y.1.2.2.1,y.1.2.2.2.1,y.1.2.2.2.2.1,y.1.2.2.2.2.2.1,()),())))) (fun z=>some (.inr (.inl (((),()),((y.1.1,y.1.2.1,y.1.2.2.1,y.1.2.2.2.1,y.1.2.2.2.2.1,y.1.2.2.2.2.2.1,()),()))))) (fun z=>some (.inr (.inr ((z,()),())))):=by kernel_rfl
theorem lo43_6 (F:Nat):LcOk Tryz.prog (E43 F) 0 (lc43_6 F) (cAt (bodyOf Tryz.f43) [1,0,1,1,1,1,1]):=
 mkR_ok (lp:=[]) (id:=4) (b:=cAt (bodyOf Tryz.f43) (0 :: 0 :: [1,0,1,1,1,1,1])) cok (cts43 F) mixed trivial (by kernel_rfl) (by kernel_rfl) (fun x y s=>((),x.2.1,x.2.2.1,s,())) (fun x y s=>((y.1.1,y.1.2.1,y.1.2.2.1,y.1.2.2.2.1,y.1.2.2.2.2.1,y.1.2.2.2.2.2.1,()),())) (fun x y=>rfl) (fun x y=>rfl) (fun x y s kA kO kR=>L43_6c F x.2.1 x.2.2.1 s kA kO kR) (fun x y s kA kO kR=>L43_6n F x.2.1 x.2.2.1 s kA kO kR) (le43_6 F)
def T43c (F:Nat) (p0:Int) (p1:Int) (p2:List Int) (p3:List (Int×Int×Int×((List UInt8)×Int×Int×Unit)×Int×Int×(List UInt8)×Bool×Unit)) (p4:List ((List UInt8)×Int×Int×Int×Int×(List ((List UInt8)×Int×Int×Unit))×Unit)) (p5:List ((List UInt8)×Int×Int×Unit)) {β:Type} (k:Bool->Option β):Option β:=
 (Option.bind (T110 F p0 (0:Int) (1000:Int)) fun z46=>(bif (!z46) then (k false) else (Option.bind (T110 F p1 (0:Int) (1000:Int)) fun z47=>(bif (!z47) then (k false) else (bif (decide ((12:Int) < (p2.length:Int))) then (k false) else (bif (decide ((4096:Int) < (p3.length:Int))) then (k false) else (bif (decide ((4096:Int) < (p4.length:Int))) then (k false) else (bif (decide ((4096:Int) < (p5.length:Int))) then (k false) else (Option.bind (iter (fun s=>L43_4 F p2 (p2.length:Int) s) F (0:Int)) fun z61=>elimS (fun z61=>(Option.bind (iter (fun s=>L43_5 F p3 (p3.length:Int) s) F (0:Int)) fun z75=>elimS (fun z75=>(Option.bind (iter (fun s=>L43_6 F p4 (p4.length:Int) s) F (0:Int)) fun z89=>elimS (fun z89=>(Option.bind (T113 F p5) fun z90=>(k z90))) (fun z89=>(k z89)) z89)) (fun z75=>(k z75)) z75)) (fun z61=>(k z61)) z61)))))))))
def T43 (F:Nat) (p0:Int) (p1:Int) (p2:List Int) (p3:List (Int×Int×Int×((List UInt8)×Int×Int×Unit)×Int×Int×(List UInt8)×Bool×Unit)) (p4:List ((List UInt8)×Int×Int×Int×Int×(List ((List UInt8)×Int×Int×Unit))×Unit)) (p5:List ((List UInt8)×Int×Int×Unit)):Option (Bool):=T43c F p0 p1 p2 p3 p4 p5 some
theorem T43n (F:Nat) (p0:Int) (p1:Int) (p2:List Int) (p3:List (Int×Int×Int×((List UInt8)×Int×Int×Unit)×Int×Int×(List UInt8)×Bool×Unit)) (p4:List ((List UInt8)×Int×Int×Int×Int×(List ((List UInt8)×Int×Int×Unit))×Unit)) (p5:List ((List UInt8)×Int×Int×Unit)) {β:Type} (k:Bool->Option β):T43c F p0 p1 p2 p3 p4 p5 k=(T43 F p0 p1 p2 p3 p4 p5).bind k:=by
 simp only [T43,T43c,Option.bind_assoc,cond_bind,Option.bind_some,Option.bind_none,elimS_bind]
abbrev cA43:List Sh:=[(.pr .i (.pr .i (.pr (.ro .i) (.pr (.ro (.pr .i (.pr .i (.pr .i (.pr (.pr .s (.pr .i (.pr .i .un))) (.pr .i (.pr .i (.pr .s (.pr .bo .un))))))))) (.pr (.ro (.pr .s (.pr .i (.pr .i (.pr .i (.pr .i (.pr (.sl (.pr .s (.pr .i (.pr .i .un)))) .un))))))) (.pr (.ro (.pr .s (.pr .i (.pr .i .un)))) .un))))))]
abbrev cB43:List Sh:=[.bo]
abbrev cT43:List TSh:=[]
abbrev cU43:List TSh:=[]
def ct43 (F:Nat):Ct:=mkC 0 cA43 cT43 cB43 cU43 (fun x y=>T43 F x.1.1 x.1.2.1 x.1.2.2.1 x.1.2.2.2.1 x.1.2.2.2.2.1 x.1.2.2.2.2.2.1) (fun x y (z:Bool)=>((z,()),()))
theorem eq43 (F:Nat) (x:dens cA43) (y:tdens cT43):sev (E43 F) 0 [([1,0,1,1,1],lc43_4 F),([1,0,1,1,1,1],lc43_5 F),([1,0,1,1,1,1,1],lc43_6 F)] (bodyOf Tryz.f43) [] (mkSt (rng 1) cA43 cT43 x y) (kFn (E43 F) 0 Tryz.f43.results.toList cB43 cU43 fun p q=>some (p,q)) =
  T43c F x.1.1 x.1.2.1 x.1.2.2.1 x.1.2.2.2.1 x.1.2.2.2.2.1 x.1.2.2.2.2.2.1 (fun z=>some ((z,()),())):=by kernel_rfl
theorem ok43 (F:Nat):Sound Tryz.prog cfg 43 (ct43 F):=
 mkC_ok (E:=E43 F) (lp:=[([1,0,1,1,1],lc43_4 F),([1,0,1,1,1,1],lc43_5 F),([1,0,1,1,1,1,1],lc43_6 F)]) (code:=bodyOf Tryz.f43) Tryz.func43 rfl Tryz.ntmps43 rfl rfl cok (cts43 F) mixed ⟨lo43_4 F,⟨lo43_5 F,⟨lo43_6 F,trivial⟩⟩⟩ (by kernel_rfl) (fun x y k=>T43c F x.1.1 x.1.2.1 x.1.2.2.1 x.1.2.2.2.1 x.1.2.2.2.2.1 x.1.2.2.2.2.2.1 k) (fun x y k=>T43n F x.1.1 x.1.2.1 x.1.2.2.1 x.1.2.2.2.1 x.1.2.2.2.2.1 x.1.2.2.2.2.2.1 k) (eq43 F)
def ord44:Nat->List (Tag×Nat)
 | _=>[]
def al44:Nat->Option Nat
 | _=>none
def ms44:Nat->Option (List (Option Tag×Nat×List Nat))
 | _=>none
def E44 (F:Nat):Ev:=⟨cfg,3,ctOf [],ord44,ctOf [],al44,ms44⟩
theorem cts44 (F:Nat):CtsOk Tryz.prog (E44 F):=cts_of (l:=[]) (l':=[]) rfl rfl trivial trivial
def T44c (F:Nat) {β:Type} (k:Int->Option β):Option β:=
 (k (0:Int))
def T44 (F:Nat):Option (Int):=T44c F some
theorem T44n (F:Nat) {β:Type} (k:Int->Option β):T44c F k=(T44 F).bind k:=by
 simp only [T44,T44c,Option.bind_assoc,cond_bind,Option.bind_some,Option.bind_none,elimS_bind]
abbrev cA44:List Sh:=[]
abbrev cB44:List Sh:=[(.pt 0 [])]
abbrev cT44:List TSh:=[]
abbrev cU44:List TSh:=[.blk 166 (.pr .ns (.pr .i .un))]
def ct44 (F:Nat):Ct:=mkC 0 cA44 cT44 cB44 cU44 (fun x y=>T44 F) (fun x y (z:Int)=>(((),()),(((),z,()),())))
theorem eq44 (F:Nat) (x:dens cA44) (y:tdens cT44):sev (E44 F) 0 [] (bodyOf Tryz.f44) [] (mkSt (rng 0) cA44 cT44 x y) (kFn (E44 F) 0 Tryz.f44.results.toList cB44 cU44 fun p q=>some (p,q)) =
  T44c F (fun z=>some (((),()),(((),z,()),()))):=by kernel_rfl
theorem ok44 (F:Nat):Sound Tryz.prog cfg 44 (ct44 F):=
 mkC_ok (E:=E44 F) (lp:=[]) (code:=bodyOf Tryz.f44) Tryz.func44 rfl Tryz.ntmps44 rfl rfl cok (cts44 F) mixed trivial (by kernel_rfl) (fun x y k=>T44c F k) (fun x y k=>T44n F k) (eq44 F)
def ord116:Nat->List (Tag×Nat)
 | _=>[]
def al116:Nat->Option Nat
 | _=>none
def ms116:Nat->Option (List (Option Tag×Nat×List Nat))
 | _=>none
def E116 (F:Nat):Ev:=⟨cfg,14,ctOf [],ord116,ctOf [],al116,ms116⟩
theorem cts116 (F:Nat):CtsOk Tryz.prog (E116 F):=cts_of (l:=[]) (l':=[]) rfl rfl trivial trivial
def T116c (F:Nat) (p0:Int) {β:Type} (k:UInt64->Option β):Option β:=
 (bif (decide (p0 < (0:Int))) then (k (((UInt64.ofInt (w64 (0 - (w64 (p0 + (1:Int)))))) * (UInt64.ofNat 2)) + (UInt64.ofNat 1))) else (k ((UInt64.ofInt p0) * (UInt64.ofNat 2))))
def T116 (F:Nat) (p0:Int):Option (UInt64):=T116c F p0 some
theorem T116n (F:Nat) (p0:Int) {β:Type} (k:UInt64->Option β):T116c F p0 k=(T116 F p0).bind k:=by
 simp only [T116,T116c,Option.bind_assoc,cond_bind,Option.bind_some,Option.bind_none,elimS_bind]
abbrev cA116:List Sh:=[.i]
abbrev cB116:List Sh:=[.u64]
abbrev cT116:List TSh:=[]
abbrev cU116:List TSh:=[]
def ct116 (F:Nat):Ct:=mkC 0 cA116 cT116 cB116 cU116 (fun x y=>T116 F x.1) (fun x y (z:UInt64)=>((z,()),()))
theorem eq116 (F:Nat) (x:dens cA116) (y:tdens cT116):sev (E116 F) 0 [] (bodyOf Tryz.f116) [] (mkSt (rng 1) cA116 cT116 x y) (kFn (E116 F) 0 Tryz.f116.results.toList cB116 cU116 fun p q=>some (p,q)) =
  T116c F x.1 (fun z=>some ((z,()),())):=by kernel_rfl
theorem ok116 (F:Nat):Sound Tryz.prog cfg 116 (ct116 F):=
 mkC_ok (E:=E116 F) (lp:=[]) (code:=bodyOf Tryz.f116) Tryz.func116 rfl Tryz.ntmps116 rfl rfl cok (cts116 F) mixed trivial (by kernel_rfl) (fun x y k=>T116c F x.1 k) (fun x y k=>T116n F x.1 k) (eq116 F)
def ord117:Nat->List (Tag×Nat)
 | _=>[]
def al117:Nat->Option Nat
 | _=>none
def ms117:Nat->Option (List (Option Tag×Nat×List Nat))
 | _=>none
def E117 (F:Nat):Ev:=⟨cfg,20,ctOf [],ord117,ctOf [],al117,ms117⟩
theorem cts117 (F:Nat):CtsOk Tryz.prog (E117 F):=cts_of (l:=[]) (l':=[]) rfl rfl trivial trivial
def L117_2c (F:Nat) (y7:UInt64) (y8:List UInt8) {β:Type} (kA:(UInt64×(List UInt8))->Option β) (kO:(UInt64×(List UInt8))->Option β):Option β:=
 (bif (decide ((UInt64.ofNat 128)≤y7)) then (Option.bind (gapp y8 ([((y7.toUInt8) ||| (UInt8.ofNat 128))]:List UInt8)) fun x10=>(kA ((shr64 y7 ((UInt64.ofNat 7).toNat)),x10))) else (kO (y7,y8)))
def L117_2 (F:Nat) (y7:UInt64) (y8:List UInt8):Option ((UInt64×(List UInt8)) ⊕ (UInt64×(List UInt8))):=L117_2c F y7 y8 (fun s=>some (.inl s)) (fun z=>some (.inr z))
theorem L117_2n (F:Nat) (y7:UInt64) (y8:List UInt8) {β:Type} (kA:(UInt64×(List UInt8))->Option β) (kO:(UInt64×(List UInt8))->Option β):L117_2c F y7 y8 kA kO=(L117_2 F y7 y8).bind (elimS kA kO):=by
 simp only [L117_2,L117_2c,Option.bind_assoc,cond_bind,Option.bind_some,Option.bind_none,elimS_l,elimS_r,elimS_bind]
abbrev sA117_2:List Sh:=[(.rw 0),.u64]
abbrev sAp1117_2:List Sh:=[(.rw 0),.u64]
abbrev sT117_2:List TSh:=[.row 5 .u8]
abbrev sTp1117_2:List TSh:=[.row 5 .u8]
def lc117_2 (F:Nat):Lc:=mkL [0,1] sA117_2 sT117_2 [0,1] sAp1117_2 sTp1117_2 F (fun x y (s:UInt64×(List UInt8))=>L117_2 F s.1 s.2) (fun x y=>(x.2.1,y.1)) (fun x y (z:UInt64×(List UInt8))=>(((),z.1,()),(z.2,())))
theorem le117_2 (F:Nat) (x:dens sA117_2) (y:tdens sT117_2) (s:UInt64×(List UInt8)):sev (E117 F) 0 [] (cAt (bodyOf Tryz.f117) (0 :: 0 :: [0,1])) (0 :: 0 :: [0,1]) (mkSt [0,1] sA117_2 sT117_2 ((),s.1,()) (s.2,())) (kLoop 0 [0,1] sA117_2 sT117_2 [0,1] sAp1117_2 sTp1117_2 [] [] [] 0 (fun x y=>some (.inl (x,y))) (fun x y=>some (.inr (.inl (x,y)))) (fun x y=>some (.inr (.inr (x,y))))) =
  L117_2c (β:=Full sA117_2 sT117_2 sAp1117_2 sTp1117_2 [] []) F s.1 s.2 (fun s=>some (.inl (((),s.1,()),(s.2,())))) (fun z=>some (.inr (.inl (((),z.1,()),(z.2,()))))):=by kernel_rfl
theorem lo117_2 (F:Nat):LcOk Tryz.prog (E117 F) 0 (lc117_2 F) (cAt (bodyOf Tryz.f117) [0,1]):=
 mkL_ok (lp:=[]) (id:=0) (b:=cAt (bodyOf Tryz.f117) (0 :: 0 :: [0,1])) cok (cts117 F) mixed trivial (by kernel_rfl) (by kernel_rfl) (fun x y s=>((),s.1,())) (fun x y s=>(s.2,())) (fun x y=>rfl) (fun x y=>rfl) (fun x y s kA kO=>L117_2c F s.1 s.2 kA kO) (fun x y s kA kO=>L117_2n F s.1 s.2 kA kO) (le117_2 F)
def T117c (F:Nat) (p0:UInt64) (p1:List UInt8) {β:Type} (k:((List UInt8))->Option β):Option β:=
 (Option.bind (iter (fun s=>L117_2 F s.1 s.2) F (p0,p1)) fun z11=>(Option.bind (gapp z11.2 ([(z11.1.toUInt8)]:List UInt8)) fun x12=>(k x12)))
def T117 (F:Nat) (p0:UInt64) (p1:List UInt8):Option ((List UInt8)):=T117c F p0 p1 some
theorem T117n (F:Nat) (p0:UInt64) (p1:List UInt8) {β:Type} (k:((List UInt8))->Option β):T117c F p0 p1 k=(T117 F p0 p1).bind k:=by
 simp only [T117,T117c,Option.bind_assoc,cond_bind,Option.bind_some,Option.bind_none,elimS_bind]
abbrev cA117:List Sh:=[(.rw 0),.u64]
abbrev cB117:List Sh:=[(.rw 0)]
abbrev cT117:List TSh:=[.row 5 .u8]
abbrev cU117:List TSh:=[.row 5 .u8]
def ct117 (F:Nat):Ct:=mkC 0 cA117 cT117 cB117 cU117 (fun x y=>T117 F x.2.1 y.1) (fun x y (z:(List UInt8))=>(((),()),(z,())))
theorem eq117 (F:Nat) (x:dens cA117) (y:tdens cT117):sev (E117 F) 0 [([0,1],lc117_2 F)] (bodyOf Tryz.f117) [] (mkSt (rng 2) cA117 cT117 x y) (kFn (E117 F) 0 Tryz.f117.results.toList cB117 cU117 fun p q=>some (p,q)) =
  T117c F x.2.1 y.1 (fun z=>some (((),()),(z,()))):=by kernel_rfl
theorem ok117 (F:Nat):Sound Tryz.prog cfg 117 (ct117 F):=
 mkC_ok (E:=E117 F) (lp:=[([0,1],lc117_2 F)]) (code:=bodyOf Tryz.f117) Tryz.func117 rfl Tryz.ntmps117 rfl rfl cok (cts117 F) mixed ⟨lo117_2 F,trivial⟩ (by kernel_rfl) (fun x y k=>T117c F x.2.1 y.1 k) (fun x y k=>T117n F x.2.1 y.1 k) (eq117 F)
def ord115:Nat->List (Tag×Nat)
 | _=>[]
def al115:Nat->Option Nat
 | _=>none
def ms115:Nat->Option (List (Option Tag×Nat×List Nat))
 | _=>none
def E115 (F:Nat):Ev:=⟨cfg,18,ctOf [(117,ct117 F)],ord115,ctOf [],al115,ms115⟩
theorem cts115 (F:Nat):CtsOk Tryz.prog (E115 F):=cts_of (l:=[(117,ct117 F)]) (l':=[]) rfl rfl ⟨⟨ok117 F,_,Tryz.func117,rfl,rfl⟩,trivial⟩ trivial
def T115c (F:Nat) (p0:UInt64) (p1:Int) {β:Type} (k:((List UInt8))->Option β):Option β:=
 (bif (p1 == (0:Int)) then (Option.bind (T117 F p0 ([]:List UInt8)) fun z2=>(k z2)) else (k ([]:List UInt8)))
def T115 (F:Nat) (p0:UInt64) (p1:Int):Option ((List UInt8)):=T115c F p0 p1 some
theorem T115n (F:Nat) (p0:UInt64) (p1:Int) {β:Type} (k:((List UInt8))->Option β):T115c F p0 p1 k=(T115 F p0 p1).bind k:=by
 simp only [T115,T115c,Option.bind_assoc,cond_bind,Option.bind_some,Option.bind_none,elimS_bind]
abbrev cA115:List Sh:=[(.pt 0 []),.u64]
abbrev cB115:List Sh:=[]
abbrev cT115:List TSh:=[.blk 166 (.pr .ns (.pr .i .un))]
abbrev cU115:List TSh:=[.blk 166 (.pr (.rw 1) (.pr .i .un)),.row 5 .u8]
def ct115 (F:Nat):Ct:=mkC 1 cA115 cT115 cB115 cU115 (fun x y=>T115 F x.2.1 y.1.2.1) (fun x y (z:(List UInt8))=>((),(((),y.1.2.1,()),z,())))
theorem eq115 (F:Nat) (x:dens cA115) (y:tdens cT115):sev (E115 F) 1 [] (bodyOf Tryz.f115) [] (mkSt (rng 2) cA115 cT115 x y) (kFn (E115 F) 1 Tryz.f115.results.toList cB115 cU115 fun p q=>some (p,q)) =
  T115c F x.2.1 y.1.2.1 (fun z=>some ((),(((),y.1.2.1,()),z,()))):=by kernel_rfl
theorem ok115 (F:Nat):Sound Tryz.prog cfg 115 (ct115 F):=
 mkC_ok (E:=E115 F) (lp:=[]) (code:=bodyOf Tryz.f115) Tryz.func115 rfl Tryz.ntmps115 rfl rfl cok (cts115 F) mixed trivial (by kernel_rfl) (fun x y k=>T115c F x.2.1 y.1.2.1 k) (fun x y k=>T115n F x.2.1 y.1.2.1 k) (eq115 F)
def ord48:Nat->List (Tag×Nat)
 | _=>[]
def al48:Nat->Option Nat
 | _=>none
def ms48:Nat->Option (List (Option Tag×Nat×List Nat))
 | _=>none
def E48 (F:Nat):Ev:=⟨cfg,8,ctOf [(116,ct116 F),(115,ct115 F)],ord48,ctOf [],al48,ms48⟩
theorem cts48 (F:Nat):CtsOk Tryz.prog (E48 F):=cts_of (l:=[(116,ct116 F),(115,ct115 F)]) (l':=[]) rfl rfl ⟨⟨ok116 F,_,Tryz.func116,rfl,rfl⟩,⟨⟨ok115 F,_,Tryz.func115,rfl,rfl⟩,trivial⟩⟩ trivial
def T48c (F:Nat) (p0:Int) (p1:Int) {β:Type} (k:((List UInt8))->Option β):Option β:=
 (Option.bind (T116 F p0) fun z3=>(Option.bind (T115 F z3 p1) fun z4=>(k z4)))
def T48 (F:Nat) (p0:Int) (p1:Int):Option ((List UInt8)):=T48c F p0 p1 some
theorem T48n (F:Nat) (p0:Int) (p1:Int) {β:Type} (k:((List UInt8))->Option β):T48c F p0 p1 k=(T48 F p0 p1).bind k:=by
 simp only [T48,T48c,Option.bind_assoc,cond_bind,Option.bind_some,Option.bind_none,elimS_bind]
abbrev cA48:List Sh:=[(.pt 0 []),.i]
abbrev cB48:List Sh:=[]
abbrev cT48:List TSh:=[.blk 166 (.pr .ns (.pr .i .un))]
abbrev cU48:List TSh:=[.blk 166 (.pr (.rw 1) (.pr .i .un)),.row 5 .u8]
def ct48 (F:Nat):Ct:=mkC 1 cA48 cT48 cB48 cU48 (fun x y=>T48 F x.2.1 y.1.2.1) (fun x y (z:(List UInt8))=>((),(((),y.1.2.1,()),z,())))
theorem eq48 (F:Nat) (x:dens cA48) (y:tdens cT48):sev (E48 F) 1 [] (bodyOf Tryz.f48) [] (mkSt (rng 2) cA48 cT48 x y) (kFn (E48 F) 1 Tryz.f48.results.toList cB48 cU48 fun p q=>some (p,q)) =
  T48c F x.2.1 y.1.2.1 (fun z=>some ((),(((),y.1.2.1,()),z,()))):=by kernel_rfl
theorem ok48 (F:Nat):Sound Tryz.prog cfg 48 (ct48 F):=
 mkC_ok (E:=E48 F) (lp:=[]) (code:=bodyOf Tryz.f48) Tryz.func48 rfl Tryz.ntmps48 rfl rfl cok (cts48 F) mixed trivial (by kernel_rfl) (fun x y k=>T48c F x.2.1 y.1.2.1 k) (fun x y k=>T48n F x.2.1 y.1.2.1 k) (eq48 F)
def ord115x1:Nat->List (Tag×Nat)
 | _=>[]
def al115x1:Nat->Option Nat
 | _=>none
def ms115x1:Nat->Option (List (Option Tag×Nat×List Nat))
 | _=>none
def E115x1 (F:Nat):Ev:=⟨cfg,18,ctOf [(117,ct117 F)],ord115x1,ctOf [],al115x1,ms115x1⟩
theorem cts115x1 (F:Nat):CtsOk Tryz.prog (E115x1 F):=cts_of (l:=[(117,ct117 F)]) (l':=[]) rfl rfl ⟨⟨ok117 F,_,Tryz.func117,rfl,rfl⟩,trivial⟩ trivial
def T115x1c (F:Nat) (p0:UInt64) (p1:Int) (p2:List UInt8) {β:Type} (k:((List UInt8))->Option β):Option β:=
 (bif (p1 == (0:Int)) then (Option.bind (T117 F p0 p2) fun z2=>(k z2)) else (k p2))
def T115x1 (F:Nat) (p0:UInt64) (p1:Int) (p2:List UInt8):Option ((List UInt8)):=T115x1c F p0 p1 p2 some
theorem T115x1n (F:Nat) (p0:UInt64) (p1:Int) (p2:List UInt8) {β:Type} (k:((List UInt8))->Option β):T115x1c F p0 p1 p2 k=(T115x1 F p0 p1 p2).bind k:=by
 simp only [T115x1,T115x1c,Option.bind_assoc,cond_bind,Option.bind_some,Option.bind_none,elimS_bind]
abbrev cA115x1:List Sh:=[(.pt 0 []),.u64]
abbrev cB115x1:List Sh:=[]
abbrev cT115x1:List TSh:=[.blk 166 (.pr (.rw 1) (.pr .i .un)),.row 5 .u8]
abbrev cU115x1:List TSh:=[.blk 166 (.pr (.rw 1) (.pr .i .un)),.row 5 .u8]
def ct115x1 (F:Nat):Ct:=mkC 1 cA115x1 cT115x1 cB115x1 cU115x1 (fun x y=>T115x1 F x.2.1 y.1.2.1 y.2.1) (fun x y (z:(List UInt8))=>((),(((),y.1.2.1,()),z,())))
theorem eq115x1 (F:Nat) (x:dens cA115x1) (y:tdens cT115x1):sev (E115x1 F) 1 [] (bodyOf Tryz.f115) [] (mkSt (rng 2) cA115x1 cT115x1 x y) (kFn (E115x1 F) 1 Tryz.f115.results.toList cB115x1 cU115x1 fun p q=>some (p,q)) =
  T115x1c F x.2.1 y.1.2.1 y.2.1 (fun z=>some ((),(((),y.1.2.1,()),z,()))):=by kernel_rfl
theorem ok115x1 (F:Nat):Sound Tryz.prog cfg 115 (ct115x1 F):=
 mkC_ok (E:=E115x1 F) (lp:=[]) (code:=bodyOf Tryz.f115) Tryz.func115 rfl Tryz.ntmps115 rfl rfl cok (cts115x1 F) mixed trivial (by kernel_rfl) (fun x y k=>T115x1c F x.2.1 y.1.2.1 y.2.1 k) (fun x y k=>T115x1n F x.2.1 y.1.2.1 y.2.1 k) (eq115x1 F)
def ord48x1:Nat->List (Tag×Nat)
 | _=>[]
def al48x1:Nat->Option Nat
 | _=>none
def ms48x1:Nat->Option (List (Option Tag×Nat×List Nat))
 | _=>none
def E48x1 (F:Nat):Ev:=⟨cfg,8,ctOf [(116,ct116 F),(115,ct115x1 F)],ord48x1,ctOf [],al48x1,ms48x1⟩
theorem cts48x1 (F:Nat):CtsOk Tryz.prog (E48x1 F):=cts_of (l:=[(116,ct116 F),(115,ct115x1 F)]) (l':=[]) rfl rfl ⟨⟨ok116 F,_,Tryz.func116,rfl,rfl⟩,⟨⟨ok115x1 F,_,Tryz.func115,rfl,rfl⟩,trivial⟩⟩ trivial
def T48x1c (F:Nat) (p0:Int) (p1:Int) (p2:List UInt8) {β:Type} (k:((List UInt8))->Option β):Option β:=
 (Option.bind (T116 F p0) fun z3=>(Option.bind (T115x1 F z3 p1 p2) fun z4=>(k z4)))
def T48x1 (F:Nat) (p0:Int) (p1:Int) (p2:List UInt8):Option ((List UInt8)):=T48x1c F p0 p1 p2 some
theorem T48x1n (F:Nat) (p0:Int) (p1:Int) (p2:List UInt8) {β:Type} (k:((List UInt8))->Option β):T48x1c F p0 p1 p2 k=(T48x1 F p0 p1 p2).bind k:=by
 simp only [T48x1,T48x1c,Option.bind_assoc,cond_bind,Option.bind_some,Option.bind_none,elimS_bind]
abbrev cA48x1:List Sh:=[(.pt 0 []),.i]
abbrev cB48x1:List Sh:=[]
abbrev cT48x1:List TSh:=[.blk 166 (.pr (.rw 1) (.pr .i .un)),.row 5 .u8]
abbrev cU48x1:List TSh:=[.blk 166 (.pr (.rw 2) (.pr .i .un)),.no,.row 5 .u8]
def ct48x1 (F:Nat):Ct:=mkC 2 cA48x1 cT48x1 cB48x1 cU48x1 (fun x y=>T48x1 F x.2.1 y.1.2.1 y.2.1) (fun x y (z:(List UInt8))=>((),(((),y.1.2.1,()),(),z,())))
theorem eq48x1 (F:Nat) (x:dens cA48x1) (y:tdens cT48x1):sev (E48x1 F) 2 [] (bodyOf Tryz.f48) [] (mkSt (rng 2) cA48x1 cT48x1 x y) (kFn (E48x1 F) 2 Tryz.f48.results.toList cB48x1 cU48x1 fun p q=>some (p,q)) =
  T48x1c F x.2.1 y.1.2.1 y.2.1 (fun z=>some ((),(((),y.1.2.1,()),(),z,()))):=by kernel_rfl
theorem ok48x1 (F:Nat):Sound Tryz.prog cfg 48 (ct48x1 F):=
 mkC_ok (E:=E48x1 F) (lp:=[]) (code:=bodyOf Tryz.f48) Tryz.func48 rfl Tryz.ntmps48 rfl rfl cok (cts48x1 F) mixed trivial (by kernel_rfl) (fun x y k=>T48x1c F x.2.1 y.1.2.1 y.2.1 k) (fun x y k=>T48x1n F x.2.1 y.1.2.1 y.2.1 k) (eq48x1 F)
def ord45:Nat->List (Tag×Nat)
 | _=>[]
def al45:Nat->Option Nat
 | _=>none
def ms45:Nat->Option (List (Option Tag×Nat×List Nat))
 | _=>none
def E45 (F:Nat):Ev:=⟨cfg,16,ctOf [(48,ct48 F),(48,ct48x1 F)],ord45,ctOf [],al45,ms45⟩
theorem cts45 (F:Nat):CtsOk Tryz.prog (E45 F):=cts_of (l:=[(48,ct48 F),(48,ct48x1 F)]) (l':=[]) rfl rfl ⟨⟨ok48 F,_,Tryz.func48,rfl,rfl⟩,⟨⟨ok48x1 F,_,Tryz.func48,rfl,rfl⟩,trivial⟩⟩ trivial
def L45_2c (F:Nat) (y23:List Int) (y24:Int) (y26:Int) (y25:Int) (y27:List UInt8) {β:Type} (kA:(Int×(List UInt8))->Option β) (kO:((List UInt8))->Option β):Option β:=
 (bif (decide (y25 < y24)) then (Option.bind (ix y23 y25) fun x30=>(Option.bind (T48x1 F x30 y26 y27) fun z31=>(kA ((w64 (y25 + (1:Int))),z31)))) else (kO y27))
def L45_2 (F:Nat) (y23:List Int) (y24:Int) (y26:Int) (y25:Int) (y27:List UInt8):Option ((Int×(List UInt8)) ⊕ ((List UInt8))):=L45_2c F y23 y24 y26 y25 y27 (fun s=>some (.inl s)) (fun z=>some (.inr z))
theorem L45_2n (F:Nat) (y23:List Int) (y24:Int) (y26:Int) (y25:Int) (y27:List UInt8) {β:Type} (kA:(Int×(List UInt8))->Option β) (kO:((List UInt8))->Option β):L45_2c F y23 y24 y26 y25 y27 kA kO=(L45_2 F y23 y24 y26 y25 y27).bind (elimS kA kO):=by
 simp only [L45_2,L45_2c,Option.bind_assoc,cond_bind,Option.bind_some,Option.bind_none,elimS_l,elimS_r,elimS_bind]
abbrev sA45_2:List Sh:=[(.pt 0 []),(.ro .i),.i,.i]
abbrev sAp145_2:List Sh:=[]
abbrev sT45_2:List TSh:=[.blk 166 (.pr (.rw 1) (.pr .i .un)),.row 5 .u8]
abbrev sTp145_2:List TSh:=[.blk 166 (.pr (.rw 1) (.pr .i .un)),.row 5 .u8]
def lc45_2 (F:Nat):Lc:=mkL [0,6,7,8] sA45_2 sT45_2 [] sAp145_2 sTp145_2 F (fun x y (s:Int×(List UInt8))=>L45_2 F x.2.1 x.2.2.1 y.1.2.1 s.1 s.2) (fun x y=>(x.2.2.2.1,y.2.1)) (fun x y (z:(List UInt8))=>((),(((),y.1.2.1,()),z,())))
theorem le45_2 (F:Nat) (x:dens sA45_2) (y:tdens sT45_2) (s:Int×(List UInt8)):sev (E45 F) 1 [] (cAt (bodyOf Tryz.f45) (0 :: 0 :: [1])) (0 :: 0 :: [1]) (mkSt [0,6,7,8] sA45_2 sT45_2 ((),x.2.1,x.2.2.1,s.1,()) (((),y.1.2.1,()),s.2,())) (kLoop 1 [0,6,7,8] sA45_2 sT45_2 [] sAp145_2 sTp145_2 [] [] [] 0 (fun x y=>some (.inl (x,y))) (fun x y=>some (.inr (.inl (x,y)))) (fun x y=>some (.inr (.inr (x,y))))) =
  L45_2c (β:=Full sA45_2 sT45_2 sAp145_2 sTp145_2 [] []) F x.2.1 x.2.2.1 y.1.2.1 s.1 s.2 (fun s=>some (.inl (((),x.2.1,x.2.2.1,s.1,()),(((),y.1.2.1,()),s.2,())))) (fun z=>some (.inr (.inl ((),(((),y.1.2.1,()),z,()))))):=by kernel_rfl
theorem lo45_2 (F:Nat):LcOk Tryz.prog (E45 F) 1 (lc45_2 F) (cAt (bodyOf Tryz.f45) [1]):=
 mkL_ok (lp:=[]) (id:=0) (b:=cAt (bodyOf Tryz.f45) (0 :: 0 :: [1])) cok (cts45 F) mixed trivial (by kernel_rfl) (by kernel_rfl) (fun x y s=>((),x.2.1,x.2.2.1,s.1,())) (fun x y s=>(((),y.1.2.1,()),s.2,())) (fun x y=>rfl) (fun x y=>rfl) (fun x y s kA kO=>L45_2c F x.2.1 x.2.2.1 y.1.2.1 s.1 s.2 kA kO) (fun x y s kA kO=>L45_2n F x.2.1 x.2.2.1 y.1.2.1 s.1 s.2 kA kO) (le45_2 F)
def T45c (F:Nat) (p0:List Int) (p1:Int) {β:Type} (k:((List UInt8))->Option β):Option β:=
 (Option.bind (iter (fun s=>L45_2 F p0 (p0.length:Int) p1 s.1 s.2) F ((0:Int),([]:List UInt8))) fun z32=>(k z32))
def T45 (F:Nat) (p0:List Int) (p1:Int):Option ((List UInt8)):=T45c F p0 p1 some
theorem T45n (F:Nat) (p0:List Int) (p1:Int) {β:Type} (k:((List UInt8))->Option β):T45c F p0 p1 k=(T45 F p0 p1).bind k:=by
 simp only [T45,T45c,Option.bind_assoc,cond_bind,Option.bind_some,Option.bind_none,elimS_bind]
abbrev cA45:List Sh:=[(.pt 0 []),(.ro .i)]
abbrev cB45:List Sh:=[]
abbrev cT45:List TSh:=[.blk 166 (.pr .ns (.pr .i .un))]
abbrev cU45:List TSh:=[.blk 166 (.pr (.rw 1) (.pr .i .un)),.row 5 .u8]
def ct45 (F:Nat):Ct:=mkC 1 cA45 cT45 cB45 cU45 (fun x y=>T45 F x.2.1 y.1.2.1) (fun x y (z:(List UInt8))=>((),(((),y.1.2.1,()),z,())))
theorem eq45 (F:Nat) (x:dens cA45) (y:tdens cT45):sev (E45 F) 1 [([1],lc45_2 F)] (bodyOf Tryz.f45) [] (mkSt (rng 2) cA45 cT45 x y) (kFn (E45 F) 1 Tryz.f45.results.toList cB45 cU45 fun p q=>some (p,q)) =
  T45c F x.2.1 y.1.2.1 (fun z=>some ((),(((),y.1.2.1,()),z,()))):=by kernel_rfl
theorem ok45 (F:Nat):Sound Tryz.prog cfg 45 (ct45 F):=
 mkC_ok (E:=E45 F) (lp:=[([1],lc45_2 F)]) (code:=bodyOf Tryz.f45) Tryz.func45 rfl Tryz.ntmps45 rfl rfl cok (cts45 F) mixed ⟨lo45_2 F,trivial⟩ (by kernel_rfl) (fun x y k=>T45c F x.2.1 y.1.2.1 k) (fun x y k=>T45n F x.2.1 y.1.2.1 k) (eq45 F)
def ord114:Nat->List (Tag×Nat)
 | _=>[]
def al114:Nat->Option Nat
 | _=>none
def ms114:Nat->Option (List (Option Tag×Nat×List Nat))
 | _=>none
def E114 (F:Nat):Ev:=⟨cfg,18,ctOf [(115,ct115x1 F)],ord114,ctOf [],al114,ms114⟩
theorem cts114 (F:Nat):CtsOk Tryz.prog (E114 F):=cts_of (l:=[(115,ct115x1 F)]) (l':=[]) rfl rfl ⟨⟨ok115x1 F,_,Tryz.func115,rfl,rfl⟩,trivial⟩ trivial
def T114c (F:Nat) (p0:Int) (p1:Int) (p2:List UInt8) {β:Type} (k:(Int×(List UInt8))->Option β):Option β:=
 (bif (p1 != (0:Int)) then (k (p1,p2)) else (bif (decide (p0 < (0:Int))) then (k ((1:Int),p2)) else (Option.bind (T115x1 F (UInt64.ofInt p0) p1 p2) fun z2=>(k (p1,z2)))))
def T114 (F:Nat) (p0:Int) (p1:Int) (p2:List UInt8):Option (Int×(List UInt8)):=T114c F p0 p1 p2 some
theorem T114n (F:Nat) (p0:Int) (p1:Int) (p2:List UInt8) {β:Type} (k:(Int×(List UInt8))->Option β):T114c F p0 p1 p2 k=(T114 F p0 p1 p2).bind k:=by
 simp only [T114,T114c,Option.bind_assoc,cond_bind,Option.bind_some,Option.bind_none,elimS_bind]
abbrev cA114:List Sh:=[(.pt 0 []),.i]
abbrev cB114:List Sh:=[]
abbrev cT114:List TSh:=[.blk 166 (.pr (.rw 1) (.pr .i .un)),.row 5 .u8]
abbrev cU114:List TSh:=[.blk 166 (.pr (.rw 1) (.pr .i .un)),.row 5 .u8]
def ct114 (F:Nat):Ct:=mkC 1 cA114 cT114 cB114 cU114 (fun x y=>T114 F x.2.1 y.1.2.1 y.2.1) (fun x y (z:Int×(List UInt8))=>((),(((),z.1,()),z.2,())))
theorem eq114 (F:Nat) (x:dens cA114) (y:tdens cT114):sev (E114 F) 1 [] (bodyOf Tryz.f114) [] (mkSt (rng 2) cA114 cT114 x y) (kFn (E114 F) 1 Tryz.f114.results.toList cB114 cU114 fun p q=>some (p,q)) =
  T114c F x.2.1 y.1.2.1 y.2.1 (fun z=>some ((),(((),z.1,()),z.2,()))):=by kernel_rfl
theorem ok114 (F:Nat):Sound Tryz.prog cfg 114 (ct114 F):=
 mkC_ok (E:=E114 F) (lp:=[]) (code:=bodyOf Tryz.f114) Tryz.func114 rfl Tryz.ntmps114 rfl rfl cok (cts114 F) mixed trivial (by kernel_rfl) (fun x y k=>T114c F x.2.1 y.1.2.1 y.2.1 k) (fun x y k=>T114n F x.2.1 y.1.2.1 y.2.1 k) (eq114 F)
def ord47:Nat->List (Tag×Nat)
 | _=>[]
def al47:Nat->Option Nat
 | _=>none
def ms47:Nat->Option (List (Option Tag×Nat×List Nat))
 | _=>none
def E47 (F:Nat):Ev:=⟨cfg,6,ctOf [(48,ct48x1 F)],ord47,ctOf [],al47,ms47⟩
theorem cts47 (F:Nat):CtsOk Tryz.prog (E47 F):=cts_of (l:=[(48,ct48x1 F)]) (l':=[]) rfl rfl ⟨⟨ok48x1 F,_,Tryz.func48,rfl,rfl⟩,trivial⟩ trivial
def T47c (F:Nat) (p0:Int) (p1:Int) (p2:List UInt8) {β:Type} (k:((List UInt8))->Option β):Option β:=
 (Option.bind (T48x1 F p0 p1 p2) fun z2=>(k z2))
def T47 (F:Nat) (p0:Int) (p1:Int) (p2:List UInt8):Option ((List UInt8)):=T47c F p0 p1 p2 some
theorem T47n (F:Nat) (p0:Int) (p1:Int) (p2:List UInt8) {β:Type} (k:((List UInt8))->Option β):T47c F p0 p1 p2 k=(T47 F p0 p1 p2).bind k:=by
 simp only [T47,T47c,Option.bind_assoc,cond_bind,Option.bind_some,Option.bind_none,elimS_bind]
abbrev cA47:List Sh:=[.i,(.pt 0 [])]
abbrev cB47:List Sh:=[]
abbrev cT47:List TSh:=[.blk 81 (.pt 1 []),.blk 166 (.pr (.rw 2) (.pr .i .un)),.row 5 .u8]
abbrev cU47:List TSh:=[.blk 81 (.pt 1 []),.blk 166 (.pr (.rw 3) (.pr .i .un)),.no,.row 5 .u8]
def ct47 (F:Nat):Ct:=mkC 3 cA47 cT47 cB47 cU47 (fun x y=>T47 F x.1 y.2.1.2.1 y.2.2.1) (fun x y (z:(List UInt8))=>((),((),((),y.2.1.2.1,()),(),z,())))
theorem eq47 (F:Nat) (x:dens cA47) (y:tdens cT47):sev (E47 F) 3 [] (bodyOf Tryz.f47) [] (mkSt (rng 2) cA47 cT47 x y) (kFn (E47 F) 3 Tryz.f47.results.toList cB47 cU47 fun p q=>some (p,q)) =
  T47c F x.1 y.2.1.2.1 y.2.2.1 (fun z=>some ((),((),((),y.2.1.2.1,()),(),z,()))):=by kernel_rfl
theorem ok47 (F:Nat):Sound Tryz.prog cfg 47 (ct47 F):=
 mkC_ok (E:=E47 F) (lp:=[]) (code:=bodyOf Tryz.f47) Tryz.func47 rfl Tryz.ntmps47 rfl rfl cok (cts47 F) mixed trivial (by kernel_rfl) (fun x y k=>T47c F x.1 y.2.1.2.1 y.2.2.1 k) (fun x y k=>T47n F x.1 y.2.1.2.1 y.2.2.1 k) (eq47 F)
def ord46:Nat->List (Tag×Nat)
 | _=>[]
def al46:Nat->Option Nat
 | _=>none
def ms46:Nat->Option (List (Option Tag×Nat×List Nat))
 | _=>none
def E46 (F:Nat):Ev:=⟨cfg,22,ctOf [(114,ct114 F),(47,ct47 F)],ord46,ctOf [],al46,ms46⟩
theorem cts46 (F:Nat):CtsOk Tryz.prog (E46 F):=cts_of (l:=[(114,ct114 F),(47,ct47 F)]) (l':=[]) rfl rfl ⟨⟨ok114 F,_,Tryz.func114,rfl,rfl⟩,⟨⟨ok47 F,_,Tryz.func47,rfl,rfl⟩,trivial⟩⟩ trivial
def L46_2c (F:Nat) (y13:List Int) (y14:Int) (y16:Int) (y15:Int) (y17:List UInt8) {β:Type} (kA:(Int×(List UInt8))->Option β) (kO:((List UInt8))->Option β):Option β:=
 (bif (decide (y15 < y14)) then (Option.bind (ix y13 y15) fun x20=>(Option.bind (T47 F x20 y16 y17) fun z21=>(kA ((w64 (y15 + (1:Int))),z21)))) else (kO y17))
def L46_2 (F:Nat) (y13:List Int) (y14:Int) (y16:Int) (y15:Int) (y17:List UInt8):Option ((Int×(List UInt8)) ⊕ ((List UInt8))):=L46_2c F y13 y14 y16 y15 y17 (fun s=>some (.inl s)) (fun z=>some (.inr z))
theorem L46_2n (F:Nat) (y13:List Int) (y14:Int) (y16:Int) (y15:Int) (y17:List UInt8) {β:Type} (kA:(Int×(List UInt8))->Option β) (kO:((List UInt8))->Option β):L46_2c F y13 y14 y16 y15 y17 kA kO=(L46_2 F y13 y14 y16 y15 y17).bind (elimS kA kO):=by
 simp only [L46_2,L46_2c,Option.bind_assoc,cond_bind,Option.bind_some,Option.bind_none,elimS_l,elimS_r,elimS_bind]
abbrev sA46_2:List Sh:=[(.fn 47 .un (.pr (.pt 1 []) .un)),(.ro .i),.i,.i]
abbrev sAp146_2:List Sh:=[]
abbrev sT46_2:List TSh:=[.blk 166 (.pr (.rw 3) (.pr .i .un)),.blk 81 (.pt 0 []),.no,.row 5 .u8]
abbrev sTp146_2:List TSh:=[.blk 166 (.pr (.rw 3) (.pr .i .un)),.blk 81 (.pt 0 []),.no,.row 5 .u8]
def lc46_2 (F:Nat):Lc:=mkL [2,12,13,14] sA46_2 sT46_2 [] sAp146_2 sTp146_2 F (fun x y (s:Int×(List UInt8))=>L46_2 F x.2.1 x.2.2.1 y.1.2.1 s.1 s.2) (fun x y=>(x.2.2.2.1,y.2.2.2.1)) (fun x y (z:(List UInt8))=>((),(((),y.1.2.1,()),(),(),z,())))
theorem le46_2 (F:Nat) (x:dens sA46_2) (y:tdens sT46_2) (s:Int×(List UInt8)):sev (E46 F) 3 [] (cAt (bodyOf Tryz.f46) (0 :: 0 :: [1,1])) (0 :: 0 :: [1,1]) (mkSt [2,12,13,14] sA46_2 sT46_2 (((),((),())),x.2.1,x.2.2.1,s.1,()) (((),y.1.2.1,()),(),(),s.2,())) (kLoop 3 [2,12,13,14] sA46_2 sT46_2 [] sAp146_2 sTp146_2 [] [] [] 0 (fun x y=>some (.inl (x,y))) (fun x y=>some (.inr (.inl (x,y)))) (fun x y=>some (.inr (.inr (x,y))))) =
  L46_2c (β:=Full sA46_2 sT46_2 sAp146_2 sTp146_2 [] []) F x.2.1 x.2.2.1 y.1.2.1 s.1 s.2 (fun s=>some (.inl ((((),((),())),x.2.1,x.2.2.1,s.1,()),(((),y.1.2.1,()),(),(),s.2,())))) (fun z=>some (.inr (.inl ((),(((),y.1.2.1,()),(),(),z,()))))):=by kernel_rfl
theorem lo46_2 (F:Nat):LcOk Tryz.prog (E46 F) 3 (lc46_2 F) (cAt (bodyOf Tryz.f46) [1,1]):=
 mkL_ok (lp:=[]) (id:=0) (b:=cAt (bodyOf Tryz.f46) (0 :: 0 :: [1,1])) cok (cts46 F) mixed trivial (by kernel_rfl) (by kernel_rfl) (fun x y s=>(((),((),())),x.2.1,x.2.2.1,s.1,())) (fun x y s=>(((),y.1.2.1,()),(),(),s.2,())) (fun x y=>rfl) (fun x y=>rfl) (fun x y s kA kO=>L46_2c F x.2.1 x.2.2.1 y.1.2.1 s.1 s.2 kA kO) (fun x y s kA kO=>L46_2n F x.2.1 x.2.2.1 y.1.2.1 s.1 s.2 kA kO) (le46_2 F)
def T46c (F:Nat) (p0:List Int) (p1:Int) (p2:List UInt8) {β:Type} (k:(Int×(List UInt8))->Option β):Option β:=
 (Option.bind (T114 F (p0.length:Int) p1 p2) fun z12=>(Option.bind (iter (fun s=>L46_2 F p0 (p0.length:Int) z12.1 s.1 s.2) F ((0:Int),z12.2)) fun z22=>(k (z12.1,z22))))
def T46 (F:Nat) (p0:List Int) (p1:Int) (p2:List UInt8):Option (Int×(List UInt8)):=T46c F p0 p1 p2 some
theorem T46n (F:Nat) (p0:List Int) (p1:Int) (p2:List UInt8) {β:Type} (k:(Int×(List UInt8))->Option β):T46c F p0 p1 p2 k=(T46 F p0 p1 p2).bind k:=by
 simp only [T46,T46c,Option.bind_assoc,cond_bind,Option.bind_some,Option.bind_none,elimS_bind]
abbrev cA46:List Sh:=[(.pt 0 []),(.ro .i),(.fn 47 .un (.pr (.pt 1 []) .un))]
abbrev cB46:List Sh:=[]
abbrev cT46:List TSh:=[.blk 166 (.pr (.rw 2) (.pr .i .un)),.blk 81 (.pt 0 []),.row 5 .u8]
abbrev cU46:List TSh:=[.blk 166 (.pr (.rw 3) (.pr .i .un)),.blk 81 (.pt 0 []),.no,.row 5 .u8]
def ct46 (F:Nat):Ct:=mkC 3 cA46 cT46 cB46 cU46 (fun x y=>T46 F x.2.1 y.1.2.1 y.2.2.1) (fun x y (z:Int×(List UInt8))=>((),(((),z.1,()),(),(),z.2,())))
theorem eq46 (F:Nat) (x:dens cA46) (y:tdens cT46):sev (E46 F) 3 [([1,1],lc46_2 F)] (bodyOf Tryz.f46) [] (mkSt (rng 3) cA46 cT46 x y) (kFn (E46 F) 3 Tryz.f46.results.toList cB46 cU46 fun p q=>some (p,q)) =
  T46c F x.2.1 y.1.2.1 y.2.2.1 (fun z=>some ((),(((),z.1,()),(),(),z.2,()))):=by kernel_rfl
theorem ok46 (F:Nat):Sound Tryz.prog cfg 46 (ct46 F):=
 mkC_ok (E:=E46 F) (lp:=[([1,1],lc46_2 F)]) (code:=bodyOf Tryz.f46) Tryz.func46 rfl Tryz.ntmps46 rfl rfl cok (cts46 F) mixed ⟨lo46_2 F,trivial⟩ (by kernel_rfl) (fun x y k=>T46c F x.2.1 y.1.2.1 y.2.2.1 k) (fun x y k=>T46n F x.2.1 y.1.2.1 y.2.2.1 k) (eq46 F)
def ord45x1:Nat->List (Tag×Nat)
 | _=>[]
def al45x1:Nat->Option Nat
 | _=>none
def ms45x1:Nat->Option (List (Option Tag×Nat×List Nat))
 | _=>none
def E45x1 (F:Nat):Ev:=⟨cfg,16,ctOf [(48,ct48x1 F)],ord45x1,ctOf [],al45x1,ms45x1⟩
theorem cts45x1 (F:Nat):CtsOk Tryz.prog (E45x1 F):=cts_of (l:=[(48,ct48x1 F)]) (l':=[]) rfl rfl ⟨⟨ok48x1 F,_,Tryz.func48,rfl,rfl⟩,trivial⟩ trivial
def L45x1_2c (F:Nat) (y11:List Int) (y12:Int) (y14:Int) (y13:Int) (y15:List UInt8) {β:Type} (kA:(Int×(List UInt8))->Option β) (kO:((List UInt8))->Option β):Option β:=
 (bif (decide (y13 < y12)) then (Option.bind (ix y11 y13) fun x18=>(Option.bind (T48x1 F x18 y14 y15) fun z19=>(kA ((w64 (y13 + (1:Int))),z19)))) else (kO y15))
def L45x1_2 (F:Nat) (y11:List Int) (y12:Int) (y14:Int) (y13:Int) (y15:List UInt8):Option ((Int×(List UInt8)) ⊕ ((List UInt8))):=L45x1_2c F y11 y12 y14 y13 y15 (fun s=>some (.inl s)) (fun z=>some (.inr z))
theorem L45x1_2n (F:Nat) (y11:List Int) (y12:Int) (y14:Int) (y13:Int) (y15:List UInt8) {β:Type} (kA:(Int×(List UInt8))->Option β) (kO:((List UInt8))->Option β):L45x1_2c F y11 y12 y14 y13 y15 kA kO=(L45x1_2 F y11 y12 y14 y13 y15).bind (elimS kA kO):=by
 simp only [L45x1_2,L45x1_2c,Option.bind_assoc,cond_bind,Option.bind_some,Option.bind_none,elimS_l,elimS_r,elimS_bind]
abbrev sA45x1_2:List Sh:=[(.pt 0 []),(.ro .i),.i,.i]
abbrev sAp145x1_2:List Sh:=[]
abbrev sT45x1_2:List TSh:=[.blk 166 (.pr (.rw 1) (.pr .i .un)),.row 5 .u8]
abbrev sTp145x1_2:List TSh:=[.blk 166 (.pr (.rw 1) (.pr .i .un)),.row 5 .u8]
def lc45x1_2 (F:Nat):Lc:=mkL [0,6,7,8] sA45x1_2 sT45x1_2 [] sAp145x1_2 sTp145x1_2 F (fun x y (s:Int×(List UInt8))=>L45x1_2 F x.2.1 x.2.2.1 y.1.2.1 s.1 s.2) (fun x y=>(x.2.2.2.1,y.2.1)) (fun x y (z:(List UInt8))=>((),(((),y.1.2.1,()),z,())))
theorem le45x1_2 (F:Nat) (x:dens sA45x1_2) (y:tdens sT45x1_2) (s:Int×(List UInt8)):sev (E45x1 F) 1 [] (cAt (bodyOf Tryz.f45) (0 :: 0 :: [1])) (0 :: 0 :: [1]) (mkSt [0,6,7,8] sA45x1_2 sT45x1_2 ((),x.2.1,x.2.2.1,s.1,()) (((),y.1.2.1,()),s.2,())) (kLoop 1 [0,6,7,8] sA45x1_2 sT45x1_2 [] sAp145x1_2 sTp145x1_2 [] [] [] 0 (fun x y=>some (.inl (x,y))) (fun x y=>some (.inr (.inl (x,y)))) (fun x y=>some (.inr (.inr (x,y))))) =
  L45x1_2c (β:=Full sA45x1_2 sT45x1_2 sAp145x1_2 sTp145x1_2 [] []) F x.2.1 x.2.2.1 y.1.2.1 s.1 s.2 (fun s=>some (.inl (((),x.2.1,x.2.2.1,s.1,()),(((),y.1.2.1,()),s.2,())))) (fun z=>some (.inr (.inl ((),(((),y.1.2.1,()),z,()))))):=by kernel_rfl
theorem lo45x1_2 (F:Nat):LcOk Tryz.prog (E45x1 F) 1 (lc45x1_2 F) (cAt (bodyOf Tryz.f45) [1]):=
 mkL_ok (lp:=[]) (id:=0) (b:=cAt (bodyOf Tryz.f45) (0 :: 0 :: [1])) cok (cts45x1 F) mixed trivial (by kernel_rfl) (by kernel_rfl) (fun x y s=>((),x.2.1,x.2.2.1,s.1,())) (fun x y s=>(((),y.1.2.1,()),s.2,())) (fun x y=>rfl) (fun x y=>rfl) (fun x y s kA kO=>L45x1_2c F x.2.1 x.2.2.1 y.1.2.1 s.1 s.2 kA kO) (fun x y s kA kO=>L45x1_2n F x.2.1 x.2.2.1 y.1.2.1 s.1 s.2 kA kO) (le45x1_2 F)
def T45x1c (F:Nat) (p0:List Int) (p1:Int) (p2:List UInt8) {β:Type} (k:((List UInt8))->Option β):Option β:=
 (Option.bind (iter (fun s=>L45x1_2 F p0 (p0.length:Int) p1 s.1 s.2) F ((0:Int),p2)) fun z20=>(k z20))
def T45x1 (F:Nat) (p0:List Int) (p1:Int) (p2:List UInt8):Option ((List UInt8)):=T45x1c F p0 p1 p2 some
theorem T45x1n (F:Nat) (p0:List Int) (p1:Int) (p2:List UInt8) {β:Type} (k:((List UInt8))->Option β):T45x1c F p0 p1 p2 k=(T45x1 F p0 p1 p2).bind k:=by
 simp only [T45x1,T45x1c,Option.bind_assoc,cond_bind,Option.bind_some,Option.bind_none,elimS_bind]
abbrev cA45x1:List Sh:=[(.pt 0 []),(.ro .i)]
abbrev cB45x1:List Sh:=[]
abbrev cT45x1:List TSh:=[.blk 166 (.pr (.rw 1) (.pr .i .un)),.row 5 .u8]
abbrev cU45x1:List TSh:=[.blk 166 (.pr (.rw 1) (.pr .i .un)),.row 5 .u8]
def ct45x1 (F:Nat):Ct:=mkC 1 cA45x1 cT45x1 cB45x1 cU45x1 (fun x y=>T45x1 F x.2.1 y.1.2.1 y.2.1) (fun x y (z:(List UInt8))=>((),(((),y.1.2.1,()),z,())))
theorem eq45x1 (F:Nat) (x:dens cA45x1) (y:tdens cT45x1):sev (E45x1 F) 1 [([1],lc45x1_2 F)] (bodyOf Tryz.f45) [] (mkSt (rng 2) cA45x1 cT45x1 x y) (kFn (E45x1 F) 1 Tryz.f45.results.toList cB45x1 cU45x1 fun p q=>some (p,q)) =
  T45x1c F x.2.1 y.1.2.1 y.2.1 (fun z=>some ((),(((),y.1.2.1,()),z,()))):=by kernel_rfl
theorem ok45x1 (F:Nat):Sound Tryz.prog cfg 45 (ct45x1 F):=
 mkC_ok (E:=E45x1 F) (lp:=[([1],lc45x1_2 F)]) (code:=bodyOf Tryz.f45) Tryz.func45 rfl Tryz.ntmps45 rfl rfl cok (cts45x1 F) mixed ⟨lo45x1_2 F,trivial⟩ (by kernel_rfl) (fun x y k=>T45x1c F x.2.1 y.1.2.1 y.2.1 k) (fun x y k=>T45x1n F x.2.1 y.1.2.1 y.2.1 k) (eq45x1 F)
def ord57:Nat->List (Tag×Nat)
 | _=>[]
def al57:Nat->Option Nat
 | _=>none
def ms57:Nat->Option (List (Option Tag×Nat×List Nat))
 | _=>none
def E57 (F:Nat):Ev:=⟨cfg,24,ctOf [],ord57,ctOf [],al57,ms57⟩
theorem cts57 (F:Nat):CtsOk Tryz.prog (E57 F):=cts_of (l:=[]) (l':=[]) rfl rfl trivial trivial
def T57c (F:Nat) (p0:List UInt8) (p1:Int) (p2:List UInt8) {β:Type} (k:(Int×(List UInt8))->Option β):Option β:=
 (bif (p1 != (0:Int)) then (k (p1,p2)) else (bif ((p0.length:Int) != (32:Int)) then (k ((1:Int),p2)) else (Option.bind (gapp p2 p0) fun x2=>(k (p1,x2)))))
def T57 (F:Nat) (p0:List UInt8) (p1:Int) (p2:List UInt8):Option (Int×(List UInt8)):=T57c F p0 p1 p2 some
theorem T57n (F:Nat) (p0:List UInt8) (p1:Int) (p2:List UInt8) {β:Type} (k:(Int×(List UInt8))->Option β):T57c F p0 p1 p2 k=(T57 F p0 p1 p2).bind k:=by
 simp only [T57,T57c,Option.bind_assoc,cond_bind,Option.bind_some,Option.bind_none,elimS_bind]
abbrev cA57:List Sh:=[(.pt 0 []),.str]
abbrev cB57:List Sh:=[]
abbrev cT57:List TSh:=[.blk 166 (.pr (.rw 1) (.pr .i .un)),.row 5 .u8]
abbrev cU57:List TSh:=[.blk 166 (.pr (.rw 1) (.pr .i .un)),.row 5 .u8]
def ct57 (F:Nat):Ct:=mkC 1 cA57 cT57 cB57 cU57 (fun x y=>T57 F x.2.1 y.1.2.1 y.2.1) (fun x y (z:Int×(List UInt8))=>((),(((),z.1,()),z.2,())))
theorem eq57 (F:Nat) (x:dens cA57) (y:tdens cT57):sev (E57 F) 1 [] (bodyOf Tryz.f57) [] (mkSt (rng 2) cA57 cT57 x y) (kFn (E57 F) 1 Tryz.f57.results.toList cB57 cU57 fun p q=>some (p,q)) =
  T57c F x.2.1 y.1.2.1 y.2.1 (fun z=>some ((),(((),z.1,()),z.2,()))):=by kernel_rfl
theorem ok57 (F:Nat):Sound Tryz.prog cfg 57 (ct57 F):=
 mkC_ok (E:=E57 F) (lp:=[]) (code:=bodyOf Tryz.f57) Tryz.func57 rfl Tryz.ntmps57 rfl rfl cok (cts57 F) mixed trivial (by kernel_rfl) (fun x y k=>T57c F x.2.1 y.1.2.1 y.2.1 k) (fun x y k=>T57n F x.2.1 y.1.2.1 y.2.1 k) (eq57 F)
def ord51:Nat->List (Tag×Nat)
 | _=>[]
def al51:Nat->Option Nat
 | _=>none
def ms51:Nat->Option (List (Option Tag×Nat×List Nat))
 | _=>none
def E51 (F:Nat):Ev:=⟨cfg,15,ctOf [(57,ct57 F),(45,ct45x1 F)],ord51,ctOf [],al51,ms51⟩
theorem cts51 (F:Nat):CtsOk Tryz.prog (E51 F):=cts_of (l:=[(57,ct57 F),(45,ct45x1 F)]) (l':=[]) rfl rfl ⟨⟨ok57 F,_,Tryz.func57,rfl,rfl⟩,⟨⟨ok45x1 F,_,Tryz.func45,rfl,rfl⟩,trivial⟩⟩ trivial
def T51c (F:Nat) (p0:List UInt8) (p1:Int) (p2:Int) (p3:Int) (p4:List UInt8) {β:Type} (k:(Int×(List UInt8))->Option β):Option β:=
 (Option.bind (T57 F p0 p3 p4) fun z3=>(Option.bind (T45x1 F ([p1,p2]:List Int) z3.1 z3.2) fun z4=>(k (z3.1,z4))))
def T51 (F:Nat) (p0:List UInt8) (p1:Int) (p2:Int) (p3:Int) (p4:List UInt8):Option (Int×(List UInt8)):=T51c F p0 p1 p2 p3 p4 some
theorem T51n (F:Nat) (p0:List UInt8) (p1:Int) (p2:Int) (p3:Int) (p4:List UInt8) {β:Type} (k:(Int×(List UInt8))->Option β):T51c F p0 p1 p2 p3 p4 k=(T51 F p0 p1 p2 p3 p4).bind k:=by
 simp only [T51,T51c,Option.bind_assoc,cond_bind,Option.bind_some,Option.bind_none,elimS_bind]
abbrev cA51:List Sh:=[(.pt 0 []),(.pr .str (.pr .i (.pr .i .un)))]
abbrev cB51:List Sh:=[]
abbrev cT51:List TSh:=[.blk 166 (.pr (.rw 1) (.pr .i .un)),.row 5 .u8]
abbrev cU51:List TSh:=[.blk 166 (.pr (.rw 2) (.pr .i .un)),.no,.row 5 .u8]
def ct51 (F:Nat):Ct:=mkC 2 cA51 cT51 cB51 cU51 (fun x y=>T51 F x.2.1.1 x.2.1.2.1 x.2.1.2.2.1 y.1.2.1 y.2.1) (fun x y (z:Int×(List UInt8))=>((),(((),z.1,()),(),z.2,())))
theorem eq51 (F:Nat) (x:dens cA51) (y:tdens cT51):sev (E51 F) 2 [] (bodyOf Tryz.f51) [] (mkSt (rng 2) cA51 cT51 x y) (kFn (E51 F) 2 Tryz.f51.results.toList cB51 cU51 fun p q=>some (p,q)) =
  T51c F x.2.1.1 x.2.1.2.1 x.2.1.2.2.1 y.1.2.1 y.2.1 (fun z=>some ((),(((),z.1,()),(),z.2,()))):=by kernel_rfl
theorem ok51 (F:Nat):Sound Tryz.prog cfg 51 (ct51 F):=
 mkC_ok (E:=E51 F) (lp:=[]) (code:=bodyOf Tryz.f51) Tryz.func51 rfl Tryz.ntmps51 rfl rfl cok (cts51 F) mixed trivial (by kernel_rfl) (fun x y k=>T51c F x.2.1.1 x.2.1.2.1 x.2.1.2.2.1 y.1.2.1 y.2.1 k) (fun x y k=>T51n F x.2.1.1 x.2.1.2.1 x.2.1.2.2.1 y.1.2.1 y.2.1 k) (eq51 F)
end Go.Proofs.YthikoaamigiceaaGreatDoor
