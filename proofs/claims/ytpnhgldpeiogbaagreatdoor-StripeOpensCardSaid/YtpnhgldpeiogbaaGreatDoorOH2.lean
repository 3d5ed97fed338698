/- The functions, each with its twin, and plain facts about them. -/
import Derived.Test.YtpnhgldpeiogbaaGreatDoorOH1
namespace Go.Proofs.YtpnhgldpeiogbaaGreatDoor
open Go.Tw
set_option linter.unusedSimpArgs false
set_option linter.unusedVariables false
def ord153x3:Nat->List (Tag×Nat)
 | 6=>[(.p,0),(.p,1),(.p,2),(.r,3),(.p,4),(.p,5),(.p,6),(.p,7),(.r,8),(.p,9),(.p,10),(.p,11),(.p,12),(.p,13),(.r,14),(.p,15),(.p,16),(.p,17),(.p,18),(.p,19),(.r,20),(.p,21),(.p,22),(.p,23),(.w,24)]
 | 7=>[(.p,0),(.p,1),(.p,2),(.r,3),(.p,4),(.p,5),(.p,6),(.r,7),(.p,8),(.p,9)]
 | 10=>[(.p,0),(.p,1),(.p,2),(.p,3),(.p,4),(.r,5),(.p,6),(.p,7),(.p,8),(.p,9),(.p,10),(.p,11),(.r,12),(.p,13),(.p,14),(.w,15)]
 | 13=>[(.p,0),(.r,1),(.p,2),(.r,3),(.p,4),(.r,5),(.p,6),(.r,7),(.p,8),(.r,9),(.p,10),(.r,11),(.p,12),(.r,13),(.p,14),(.r,15),(.p,16),(.p,17),(.p,18),(.p,19),(.p,20),(.p,21),(.p,22),(.p,23)]
 | 19=>[(.p,0),(.p,1),(.p,2),(.p,3),(.p,4),(.p,5),(.p,6),(.p,7),(.p,8),(.p,9),(.p,10),(.p,11),(.p,12),(.p,13),(.r,14),(.p,15),(.p,16),(.p,17),(.r,18),(.p,19),(.p,20)]
 | 26=>[(.p,0),(.p,1),(.p,2),(.p,3),(.r,4),(.p,5),(.p,6),(.p,7),(.p,8),(.p,9),(.w,10)]
 | _=>[]
def al153x3:Nat->Option Nat
 | _=>none
def ms153x3:Nat->Option (List (Option Tag×Nat×List Nat))
 | _=>none
def E153x3 (F:Nat):Ev:=⟨cfg,212,ctOf [(170,ct170 F)],ord153x3,ctOf [],al153x3,ms153x3⟩
theorem cts153x3 (F:Nat):CtsOk Tryz.prog (E153x3 F):=cts_of (l:=[(170,ct170 F)]) (l':=[]) rfl rfl ⟨⟨ok170 F,_,Tryz.func170,rfl,rfl⟩,trivial⟩ trivial
def L153x3_4c (F:Nat) (y105:List UInt8) (y106:Int) (y111:Vector UInt32 64) {β:Type} (kA:(Int×(Vector UInt32 64))->Option β) (kO:((Vector UInt32 64))->Option β):Option β:=
 (bif (decide (y106 < (64:Int))) then (bif (decide (y106 < (16:Int))) then (Option.bind (gsl y105 (w64 ((4:Int) * y106)) (w64 ((w64 ((4:Int) * y106)) + (4:Int)))) fun x131=>(Option.bind (ix x131 (0:Int)) fun x132=>(Option.bind (ix x131 (1:Int)) fun x133=>(Option.bind (ix x131 (2:Int)) fun x134=>(Option.bind (ix x131 (3:Int)) fun x135=>(Option.bind (inb 64 y106) fun x136=>(kA ((w64 (y106 + (1:Int))),(Vector.setIfInBounds y111 x136 ((((shl32 (x132.toUInt32) ((UInt64.ofNat 24).toNat)) ||| (shl32 (x133.toUInt32) ((UInt64.ofNat 16).toNat))) ||| (shl32 (x134.toUInt32) ((UInt64.ofNat 8).toNat))) ||| (x135.toUInt32))))))))))) else (Option.bind (inb 64 (w64 (y106 - (2:Int)))) fun x137=>(Option.bind (vat y111 x137) fun x138=>(Option.bind (inb 64 (w64 (y106 - (15:Int)))) fun x139=>(Option.bind (vat y111 x139) fun x140=>(Option.bind (T170 F x138 (-17:Int)) fun z141=>(Option.bind (T170 F x138 (-19:Int)) fun z142=>(Option.bind (T170 F x140 (-7:Int)) fun z143=>(Option.bind (T170 F x140 (-18:Int)) fun z144=>(Option.bind (inb 64 (w64 (y106 - (7:Int)))) fun x145=>(Option.bind (vat y111 x145) fun x146=>(Option.bind (inb 64 (w64 (y106 - (16:Int)))) fun x147=>(Option.bind (vat y111 x147) fun x148=>(Option.bind (inb 64 y106) fun x149=>(kA ((w64 (y106 + (1:Int))),(Vector.setIfInBounds y111 x149 (((((z141 ^^^ z142) ^^^ (shr32 x138 ((UInt64.ofNat 10).toNat))) + x146) + ((z143 ^^^ z144) ^^^ (shr32 x140 ((UInt64.ofNat 3).toNat)))) + x148)))))))))))))))))) else (kO y111))
def L153x3_4 (F:Nat) (y105:List UInt8) (y106:Int) (y111:Vector UInt32 64):Option ((Int×(Vector UInt32 64)) ⊕ ((Vector UInt32 64))):=L153x3_4c F y105 y106 y111 (fun s=>some (.inl s)) (fun z=>some (.inr z))
theorem L153x3_4n (F:Nat) (y105:List UInt8) (y106:Int) (y111:Vector UInt32 64) {β:Type} (kA:(Int×(Vector UInt32 64))->Option β) (kO:((Vector UInt32 64))->Option β):L153x3_4c F y105 y106 y111 kA kO=(L153x3_4 F y105 y106 y111).bind (elimS kA kO):=by
 simp only [L153x3_4,L153x3_4c,Option.bind_assoc,cond_bind,Option.bind_some,Option.bind_none,elimS_l,elimS_r,elimS_bind]
abbrev sA153x3_4:List Sh:=[(.pt 0 [0,0]),(.ro .u8),(.pt 1 []),.i]
abbrev sAp1153x3_4:List Sh:=[(.pt 0 [0,0]),(.pt 1 [])]
abbrev sT153x3_4:List TSh:=[.blk 210 (.pr (.pr (.pr (.ar 8 .u32) (.pr (.ar 64 .u8) (.pr .i .un))) (.pr (.ar 64 .u8) .un)) .un),.blk 200 (.ar 64 .u32)]
abbrev sTp1153x3_4:List TSh:=[.blk 210 (.pr (.pr (.pr (.ar 8 .u32) (.pr (.ar 64 .u8) (.pr .i .un))) (.pr (.ar 64 .u8) .un)) .un),.blk 200 (.ar 64 .u32)]
def lc153x3_4 (F:Nat):Lc:=mkL [0,1,4,27] sA153x3_4 sT153x3_4 [0,4] sAp1153x3_4 sTp1153x3_4 F (fun x y (s:Int×(Vector UInt32 64))=>L153x3_4 F x.2.1 s.1 s.2) (fun x y=>(x.2.2.2.1,y.2.1)) (fun x y (z:(Vector UInt32 64))=>(((),(),()),((((y.1.1.1.1,y.1.1.1.2.1,y.1.1.1.2.2.1,()),y.1.1.2.1,()),()),z,())))
theorem le153x3_4 (F:Nat) (x:dens sA153x3_4) (y:tdens sT153x3_4) (s:Int×(Vector UInt32 64)):sev (E153x3 F) 1 [] (cAt (bodyOf Tryz.f153) (0 :: 0 :: [1,0,1])) (0 :: 0 :: [1,0,1]) (mkSt [0,1,4,27] sA153x3_4 sT153x3_4 ((),x.2.1,(),s.1,()) ((((y.1.1.1.1,y.1.1.1.2.1,y.1.1.1.2.2.1,()),y.1.1.2.1,()),()),s.2,())) (kLoop 1 [0,1,4,27] sA153x3_4 sT153x3_4 [0,4] sAp1153x3_4 sTp1153x3_4 [] [] [] 0 (fun x y=>some (.inl (x,y))) (fun x y=>some (.inr (.inl (x,y)))) (fun x y=>some (.inr (.inr (x,y))))) =
  L153x3_4c (β:=Full sA153x3_4 sT153x3_4 sAp1153x3_4 sTp1153x3_4 [] []) F x.2.1 s.1 s.2 (fun s=>some (.inl (((),x.2.1,(),s.1,()),((((y.1.1.1.1,y.1.1.1.2.1,y.1.1.1.2.2.1,()),y.1.1.2.1,()),()),s.2,())))) (fun z=>some (.inr (.inl (((),(),()),((((y.1.1.1.1,y.1.1.1.2.1,y.1.1.1.2.2.1,()),y.1.1.2.1,()),()),z,()))))):=by kernel_rfl
theorem lo153x3_4 (F:Nat):LcOk Tryz.prog (E153x3 F) 1 (lc153x3_4 F) (cAt (bodyOf Tryz.f153) [1,0,1]):=
 mkL_ok (lp:=[]) (id:=0) (b:=cAt (bodyOf Tryz.f153) (0 :: 0 :: [1,0,1])) cok (cts153x3 F) mixed trivial (by kernel_rfl) (by kernel_rfl) (fun x y s=>((),x.2.1,(),s.1,())) (fun x y s=>((((y.1.1.1.1,y.1.1.1.2.1,y.1.1.1.2.2.1,()),y.1.1.2.1,()),()),s.2,())) (fun x y=>rfl) (fun x y=>rfl) (fun x y s kA kO=>L153x3_4c F x.2.1 s.1 s.2 kA kO) (fun x y s kA kO=>L153x3_4n F x.2.1 s.1 s.2 kA kO) (le153x3_4 F)
def L153x3_5c (F:Nat) (y172:Vector UInt32 64) (y159:UInt32) (y160:UInt32) (y161:UInt32) (y162:UInt32) (y163:UInt32) (y164:UInt32) (y165:UInt32) (y166:UInt32) (y167:Int) {β:Type} (kA:(UInt32×UInt32×UInt32×UInt32×UInt32×UInt32×UInt32×UInt32×Int)->Option β) (kO:(UInt32×UInt32×UInt32×UInt32×UInt32×UInt32×UInt32×UInt32)->Option β):Option β:=
 (bif (decide (y167 < (64:Int))) then (Option.bind (T170 F y163 (-6:Int)) fun z183=>(Option.bind (T170 F y163 (-11:Int)) fun z184=>(Option.bind (T170 F y163 (-25:Int)) fun z185=>(Option.bind (T170 F y159 (-2:Int)) fun z186=>(Option.bind (T170 F y159 (-13:Int)) fun z187=>(Option.bind (T170 F y159 (-22:Int)) fun z188=>(Option.bind (vix (gv2) y167) fun x189=>(Option.bind (inb 64 y167) fun x190=>(Option.bind (vat y172 x190) fun x191=>(kA ((((((y166 + ((z183 ^^^ z184) ^^^ z185)) + ((y163 &&& y164) ^^^ ((~~~y163) &&& y165))) + x189) + x191) + (((z186 ^^^ z187) ^^^ z188) + (((y159 &&& y160) ^^^ (y159 &&& y161)) ^^^ (y160 &&& y161)))),y159,y160,y161,(y162 + ((((y166 + ((z183 ^^^ z184) ^^^ z185)) + ((y163 &&& y164) ^^^ ((~~~y163) &&& y165))) + x189) + x191)),y163,y164,y165,(w64 (y167 + (1:Int)))))))))))))) else (kO (y159,y160,y161,y162,y163,y164,y165,y166)))
def L153x3_5 (F:Nat) (y172:Vector UInt32 64) (y159:UInt32) (y160:UInt32) (y161:UInt32) (y162:UInt32) (y163:UInt32) (y164:UInt32) (y165:UInt32) (y166:UInt32) (y167:Int):Option ((UInt32×UInt32×UInt32×UInt32×UInt32×UInt32×UInt32×UInt32×Int) ⊕ (UInt32×UInt32×UInt32×UInt32×UInt32×UInt32×UInt32×UInt32)):=L153x3_5c F y172 y159 y160 y161 y162 y163 y164 y165 y166 y167 (fun s=>some (.inl s)) (fun z=>some (.inr z))
theorem L153x3_5n (F:Nat) (y172:Vector UInt32 64) (y159:UInt32) (y160:UInt32) (y161:UInt32) (y162:UInt32) (y163:UInt32) (y164:UInt32) (y165:UInt32) (y166:UInt32) (y167:Int) {β:Type} (kA:(UInt32×UInt32×UInt32×UInt32×UInt32×UInt32×UInt32×UInt32×Int)->Option β) (kO:(UInt32×UInt32×UInt32×UInt32×UInt32×UInt32×UInt32×UInt32)->Option β):L153x3_5c F y172 y159 y160 y161 y162 y163 y164 y165 y166 y167 kA kO=(L153x3_5 F y172 y159 y160 y161 y162 y163 y164 y165 y166 y167).bind (elimS kA kO):=by
 simp only [L153x3_5,L153x3_5c,Option.bind_assoc,cond_bind,Option.bind_some,Option.bind_none,elimS_l,elimS_r,elimS_bind]
abbrev sA153x3_5:List Sh:=[(.pt 0 [0,0]),(.pt 1 []),(.pt 2 []),.u32,.u32,.u32,.u32,.u32,.u32,.u32,.u32,.i]
abbrev sAp1153x3_5:List Sh:=[(.pt 0 [0,0]),(.pt 1 []),.u32,.u32,.u32,.u32,.u32,.u32,.u32,.u32]
abbrev sT153x3_5:List TSh:=[.blk 210 (.pr (.pr (.pr (.ar 8 .u32) (.pr (.ar 64 .u8) (.pr .i .un))) (.pr (.ar 64 .u8) .un)) .un),.blk 200 (.ar 64 .u32),.blk 174 (.ar 8 .u32)]
abbrev sTp1153x3_5:List TSh:=[.blk 210 (.pr (.pr (.pr (.ar 8 .u32) (.pr (.ar 64 .u8) (.pr .i .un))) (.pr (.ar 64 .u8) .un)) .un),.blk 174 (.ar 8 .u32)]
def lc153x3_5 (F:Nat):Lc:=mkL [0,4,11,12,13,14,15,16,17,18,19,123] sA153x3_5 sT153x3_5 [0,11,12,13,14,15,16,17,18,19] sAp1153x3_5 sTp1153x3_5 F (fun x y (s:UInt32×UInt32×UInt32×UInt32×UInt32×UInt32×UInt32×UInt32×Int)=>L153x3_5 F y.2.1 s.1 s.2.1 s.2.2.1 s.2.2.2.1 s.2.2.2.2.1 s.2.2.2.2.2.1 s.2.2.2.2.2.2.1 s.2.2.2.2.2.2.2.1 s.2.2.2.2.2.2.2.2) (fun x y=>(x.2.2.2.1,x.2.2.2.2.1,x.2.2.2.2.2.1,x.2.2.2.2.2.2.1,x.2.2.2.2.2.2.2.1,x.2.2.2.2.2.2.2.2.1,x.2.2.2.2.2.2.2.2.2.1,x.2.2.2.2.2.2.2.2.2.2.1,x.2.2.2.2.2.2.2.2.2.2.2.1)) (fun x y (z:UInt32×UInt32×UInt32×UInt32×UInt32×UInt32×UInt32×UInt32)=>(((),(),z.1,z.2.1,z.2.2.1,z.2.2.2.1,z.2.2.2.2.1,z.2.2.2.2.2.1,z.2.2.2.2.2.2.1,z.2.2.2.2.2.2.2,()),((((y.1.1.1.1,y.1.1.1.2.1,y.1.1.1.2.2.1,()),y.1.1.2.1,()),()),y.2.2.1,())))
theorem le153x3_5 (F:Nat) (x:dens sA153x3_5) (y:tdens sT153x3_5) (s:UInt32×UInt32×UInt32×UInt32×UInt32×UInt32×UInt32×UInt32×Int):sev (E153x3 F) 1 [] (cAt (bodyOf Tryz.f153) (0 :: 0 :: [1,0,1,1,1,1])) (0 :: 0 :: [1,0,1,1,1,1]) (mkSt [0,4,11,12,13,14,15,16,17,18,19,123] sA153x3_5 sT153x3_5 ((),(),(),s.1,s.2.1,s.2.2.1,s.2.2.2.1,s.2.2.2.2.1,s.2.2.2.2.2.1,s.2.2.2.2.2.2.1,s.2.2.2.2.2.2.2.1,s.2.2.2.2.2.2.2.2,()) ((((y.1.1.1.1,y.1.1.1.2.1,y.1.1.1.2.2.1,()),y.1.1.2.1,()),()),y.2.1,y.2.2.1,())) (kLoop 1 [0,4,11,12,13,14,15,16,17,18,19,123] sA153x3_5 sT153x3_5 [0,11,12,13,14,15,16,17,18,19] sAp1153x3_5 sTp1153x3_5 [] [] [] 2 (fun x y=>some (.inl (x,y))) (fun x y=>some (.inr (.inl (x,y)))) (fun x y=>some (.inr (.inr (x,y))))) =
  L153x3_5c (β:=Full sA153x3_5 sT153x3_5 sAp1153x3_5 sTp1153x3_5 [] []) F y.2.1 s.1 s.2.1 s.2.2.1 s.2.2.2.1 s.2.2.2.2.1 s.2.2.2.2.2.1 s.2.2.2.2.2.2.1 s.2.2.2.2.2.2.2.1 s.2.2.2.2.2.2.2.2 (fun s=>some (.inl (((),(),(),s.1,s.2.1,s.2.2.1,s.2.2.2.1,s.2.2.2.2.1,s.2.2.2.2.2.1,s.2.2.2.2.2.2.1,s.2.2.2.2.2.2.2.1,s.2.2.2.2.2.2.2.2,()),((((y.1.1.1.1,y.1.1.1.2.1,y.1.1.1.2.2.1,()),y.1.1.2.1,()),()),y.2.1,y.2.2.1,())))) (fun z=>some (.inr (.inl (((),(),z.1,z.2.1,z.2.2.1,z.2.2.2.1,z.2.2.2.2.1,z.2.2.2.2.2.1,z.2.2.2.2.2.2.1,z.2.2.2.2.2.2.2,()),((((y.1.1.1.1,y.1.1.1.2.1,y.1.1.1.2.2.1,()),y.1.1.2.1,()),()),y.2.2.1,()))))):=by kernel_rfl
theorem lo153x3_5 (F:Nat):LcOk Tryz.prog (E153x3 F) 1 (lc153x3_5 F) (cAt (bodyOf Tryz.f153) [1,0,1,1,1,1]):=
 mkL_ok (lp:=[]) (id:=2) (b:=cAt (bodyOf Tryz.f153) (0 :: 0 :: [1,0,1,1,1,1])) cok (cts153x3 F) mixed trivial (by kernel_rfl) (by kernel_rfl) (fun x y s=>((),(),(),s.1,s.2.1,s.2.2.1,s.2.2.2.1,s.2.2.2.2.1,s.2.2.2.2.2.1,s.2.2.2.2.2.2.1,s.2.2.2.2.2.2.2.1,s.2.2.2.2.2.2.2.2,())) (fun x y s=>((((y.1.1.1.1,y.1.1.1.2.1,y.1.1.1.2.2.1,()),y.1.1.2.1,()),()),y.2.1,y.2.2.1,())) (fun x y=>rfl) (fun x y=>rfl) (fun x y s kA kO=>L153x3_5c F y.2.1 s.1 s.2.1 s.2.2.1 s.2.2.2.1 s.2.2.2.2.1 s.2.2.2.2.2.1 s.2.2.2.2.2.2.1 s.2.2.2.2.2.2.2.1 s.2.2.2.2.2.2.2.2 kA kO) (fun x y s kA kO=>L153x3_5n F y.2.1 s.1 s.2.1 s.2.2.1 s.2.2.2.1 s.2.2.2.2.1 s.2.2.2.2.2.1 s.2.2.2.2.2.2.1 s.2.2.2.2.2.2.2.1 s.2.2.2.2.2.2.2.2 kA kO) (le153x3_5 F)
def L153x3_6c (F:Nat) (y193:Vector UInt32 8) (y199:Vector UInt32 8) (y194:Int) (y195:Vector UInt32 8) {β:Type} (kA:(Int×(Vector UInt32 8))->Option β) (kO:((Vector UInt32 8))->Option β):Option β:=
 (bif (decide (y194 < (8:Int))) then (Option.bind (vix y193 y194) fun x204=>(Option.bind (inb 8 y194) fun x205=>(Option.bind (vat y199 x205) fun x206=>(Option.bind (inb 8 y194) fun x207=>(kA ((w64 (y194 + (1:Int))),(Vector.setIfInBounds y195 x207 (x206 + x204)))))))) else (kO y195))
def L153x3_6 (F:Nat) (y193:Vector UInt32 8) (y199:Vector UInt32 8) (y194:Int) (y195:Vector UInt32 8):Option ((Int×(Vector UInt32 8)) ⊕ ((Vector UInt32 8))):=L153x3_6c F y193 y199 y194 y195 (fun s=>some (.inl s)) (fun z=>some (.inr z))
theorem L153x3_6n (F:Nat) (y193:Vector UInt32 8) (y199:Vector UInt32 8) (y194:Int) (y195:Vector UInt32 8) {β:Type} (kA:(Int×(Vector UInt32 8))->Option β) (kO:((Vector UInt32 8))->Option β):L153x3_6c F y193 y199 y194 y195 kA kO=(L153x3_6 F y193 y199 y194 y195).bind (elimS kA kO):=by
 simp only [L153x3_6,L153x3_6c,Option.bind_assoc,cond_bind,Option.bind_some,Option.bind_none,elimS_l,elimS_r,elimS_bind]
abbrev sA153x3_6:List Sh:=[(.pt 0 [0,0]),(.pt 1 []),(.ar 8 .u32),.i]
abbrev sAp1153x3_6:List Sh:=[]
abbrev sT153x3_6:List TSh:=[.blk 210 (.pr (.pr (.pr (.ar 8 .u32) (.pr (.ar 64 .u8) (.pr .i .un))) (.pr (.ar 64 .u8) .un)) .un),.blk 174 (.ar 8 .u32)]
abbrev sTp1153x3_6:List TSh:=[.blk 210 (.pr (.pr (.pr (.ar 8 .u32) (.pr (.ar 64 .u8) (.pr .i .un))) (.pr (.ar 64 .u8) .un)) .un)]
def lc153x3_6 (F:Nat):Lc:=mkL [0,11,196,197] sA153x3_6 sT153x3_6 [] sAp1153x3_6 sTp1153x3_6 F (fun x y (s:Int×(Vector UInt32 8))=>L153x3_6 F x.2.2.1 y.2.1 s.1 s.2) (fun x y=>(x.2.2.2.1,y.1.1.1.1)) (fun x y (z:(Vector UInt32 8))=>((),((((z,y.1.1.1.2.1,y.1.1.1.2.2.1,()),y.1.1.2.1,()),()),())))
theorem le153x3_6 (F:Nat) (x:dens sA153x3_6) (y:tdens sT153x3_6) (s:Int×(Vector UInt32 8)):sev (E153x3 F) 1 [] (cAt (bodyOf Tryz.f153) (0 :: 0 :: [1,1,1,1,1,1])) (0 :: 0 :: [1,1,1,1,1,1]) (mkSt [0,11,196,197] sA153x3_6 sT153x3_6 ((),(),x.2.2.1,s.1,()) ((((s.2,y.1.1.1.2.1,y.1.1.1.2.2.1,()),y.1.1.2.1,()),()),y.2.1,())) (kLoop 1 [0,11,196,197] sA153x3_6 sT153x3_6 [] sAp1153x3_6 sTp1153x3_6 [] [] [] 4 (fun x y=>some (.inl (x,y))) (fun x y=>some (.inr (.inl (x,y)))) (fun x y=>some (.inr (.inr (x,y))))) =
  L153x3_6c (β:=Full sA153x3_6 sT153x3_6 sAp1153x3_6 sTp1153x3_6 [] []) F x.2.2.1 y.2.1 s.1 s.2 (fun s=>some (.inl (((),(),x.2.2.1,s.1,()),((((s.2,y.1.1.1.2.1,y.1.1.1.2.2.1,()),y.1.1.2.1,()),()),y.2.1,())))) (fun z=>some (.inr (.inl ((),((((z,y.1.1.1.2.1,y.1.1.1.2.2.1,()),y.1.1.2.1,()),()),()))))):=by kernel_rfl
theorem lo153x3_6 (F:Nat):LcOk Tryz.prog (E153x3 F) 1 (lc153x3_6 F) (cAt (bodyOf Tryz.f153) [1,1,1,1,1,1]):=
 mkL_ok (lp:=[]) (id:=4) (b:=cAt (bodyOf Tryz.f153) (0 :: 0 :: [1,1,1,1,1,1])) cok (cts153x3 F) mixed trivial (by kernel_rfl) (by kernel_rfl) (fun x y s=>((),(),x.2.2.1,s.1,())) (fun x y s=>((((s.2,y.1.1.1.2.1,y.1.1.1.2.2.1,()),y.1.1.2.1,()),()),y.2.1,())) (fun x y=>rfl) (fun x y=>rfl) (fun x y s kA kO=>L153x3_6c F x.2.2.1 y.2.1 s.1 s.2 kA kO) (fun x y s kA kO=>L153x3_6n F x.2.2.1 y.2.1 s.1 s.2 kA kO) (le153x3_6 F)
def T153x3c (F:Nat) (p0:List UInt8) (p1:Vector UInt32 8) {β:Type} (k:((Vector UInt32 8))->Option β):Option β:=
 (Option.bind (iter (fun s=>L153x3_4 F p0 s.1 s.2) F ((0:Int),(Vector.replicate 64 (0:UInt32)))) fun z150=>(Option.bind (vat p1 0) fun x151=>(Option.bind (vat p1 1) fun x152=>(Option.bind (vat p1 2) fun x153=>(Option.bind (vat p1 3) fun x154=>(Option.bind (vat p1 4) fun x155=>(Option.bind (vat p1 5) fun x156=>(Option.bind (vat p1 6) fun x157=>(Option.bind (vat p1 7) fun x158=>(Option.bind (iter (fun s=>L153x3_5 F z150 s.1 s.2.1 s.2.2.1 s.2.2.2.1 s.2.2.2.2.1 s.2.2.2.2.2.1 s.2.2.2.2.2.2.1 s.2.2.2.2.2.2.2.1 s.2.2.2.2.2.2.2.2) F (x151,x152,x153,x154,x155,x156,x157,x158,(0:Int))) fun z192=>(Option.bind (iter (fun s=>L153x3_6 F (#v[z192.1,z192.2.1,z192.2.2.1,z192.2.2.2.1,z192.2.2.2.2.1,z192.2.2.2.2.2.1,z192.2.2.2.2.2.2.1,z192.2.2.2.2.2.2.2]:Vector UInt32 8) p1 s.1 s.2) F ((0:Int),p1)) fun z208=>(k z208))))))))))))
def T153x3 (F:Nat) (p0:List UInt8) (p1:Vector UInt32 8):Option ((Vector UInt32 8)):=T153x3c F p0 p1 some
theorem T153x3n (F:Nat) (p0:List UInt8) (p1:Vector UInt32 8) {β:Type} (k:((Vector UInt32 8))->Option β):T153x3c F p0 p1 k=(T153x3 F p0 p1).bind k:=by
 simp only [T153x3,T153x3c,Option.bind_assoc,cond_bind,Option.bind_some,Option.bind_none,elimS_bind]
abbrev cA153x3:List Sh:=[(.pt 0 [0,0]),(.ro .u8)]
abbrev cB153x3:List Sh:=[]
abbrev cT153x3:List TSh:=[.blk 210 (.pr (.pr (.pr (.ar 8 .u32) (.pr (.ar 64 .u8) (.pr .i .un))) (.pr (.ar 64 .u8) .un)) .un)]
abbrev cU153x3:List TSh:=[.blk 210 (.pr (.pr (.pr (.ar 8 .u32) (.pr (.ar 64 .u8) (.pr .i .un))) (.pr (.ar 64 .u8) .un)) .un)]
def ct153x3 (F:Nat):Ct:=mkC 1 cA153x3 cT153x3 cB153x3 cU153x3 (fun x y=>T153x3 F x.2.1 y.1.1.1.1) (fun x y (z:(Vector UInt32 8))=>((),((((z,y.1.1.1.2.1,y.1.1.1.2.2.1,()),y.1.1.2.1,()),()),())))
theorem eq153x3 (F:Nat) (x:dens cA153x3) (y:tdens cT153x3):sev (E153x3 F) 1 [([1,0,1],lc153x3_4 F),([1,0,1,1,1,1],lc153x3_5 F),([1,1,1,1,1,1],lc153x3_6 F)] (bodyOf Tryz.f153) [] (mkSt (rng 2) cA153x3 cT153x3 x y) (kFn (E153x3 F) 1 Tryz.f153.results.toList cB153x3 cU153x3 fun p q=>some (p,q)) =
  T153x3c F x.2.1 y.1.1.1.1 (fun z=>some ((),((((z,y.1.1.1.2.1,y.1.1.1.2.2.1,()),y.1.1.2.1,()),()),()))):=by kernel_rfl
theorem ok153x3 (F:Nat):Sound Tryz.prog cfg 153 (ct153x3 F):=
 mkC_ok (E:=E153x3 F) (lp:=[([1,0,1],lc153x3_4 F),([1,0,1,1,1,1],lc153x3_5 F),([1,1,1,1,1,1],lc153x3_6 F)]) (code:=bodyOf Tryz.f153) Tryz.func153 rfl Tryz.ntmps153 rfl rfl cok (cts153x3 F) mixed ⟨lo153x3_4 F,⟨lo153x3_5 F,⟨lo153x3_6 F,trivial⟩⟩⟩ (by kernel_rfl) (fun x y k=>T153x3c F x.2.1 y.1.1.1.1 k) (fun x y k=>T153x3n F x.2.1 y.1.1.1.1 k) (eq153x3 F)
def ord123x1:Nat->List (Tag×Nat)
 | _=>[]
def al123x1:Nat->Option Nat
 | _=>none
def ms123x1:Nat->Option (List (Option Tag×Nat×List Nat))
 | _=>none
def E123x1 (F:Nat):Ev:=⟨cfg,57,ctOf [(153,ct153x2 F),(153,ct153x3 F)],ord123x1,ctOf [],al123x1,ms123x1⟩
theorem cts123x1 (F:Nat):CtsOk Tryz.prog (E123x1 F):=cts_of (l:=[(153,ct153x2 F),(153,ct153x3 F)]) (l':=[]) rfl rfl ⟨⟨ok153x2 F,_,Tryz.func153,rfl,rfl⟩,⟨⟨ok153x3 F,_,Tryz.func153,rfl,rfl⟩,trivial⟩⟩ trivial
def L123x1_3c (F:Nat) (y30:List UInt8) (y31:Int) (y32:Bool) (y33:Vector UInt32 8) (y34:Vector UInt8 64) {β:Type} (kO:((List UInt8)×(Vector UInt32 8)×(Vector UInt8 64))->Option β) (kR:((Vector UInt8 64))->Option β):Option β:=
 (bif y32 then (Option.bind (gslb 64 y31 ((64:Nat):Int)) fun x41=>(Option.bind (gsl y30 ((Nat.min y30.length (x41.2 - x41.1)):Int) (y30.length:Int)) fun x42=>(bif (decide ((w64 (y31 + ((Nat.min y30.length (x41.2 - x41.1)):Int))) < (64:Int))) then (kR (vspl y34 x41.1 y30 (Nat.min y30.length (x41.2 - x41.1)))) else (Option.bind (gslb 64 (0:Int) ((64:Nat):Int)) fun x43=>(Option.bind (T153x2 F (x43.1,x43.2) y33 (vspl y34 x41.1 y30 (Nat.min y30.length (x41.2 - x41.1)))) fun z44=>(kO (x42,z44,(vspl y34 x41.1 y30 (Nat.min y30.length (x41.2 - x41.1)))))))))) else (kO (y30,y33,y34)))
def L123x1_3 (F:Nat) (y30:List UInt8) (y31:Int) (y32:Bool) (y33:Vector UInt32 8) (y34:Vector UInt8 64):Option (((List UInt8)×(Vector UInt32 8)×(Vector UInt8 64)) ⊕ ((Vector UInt8 64))):=L123x1_3c F y30 y31 y32 y33 y34 (fun z=>some (.inl z)) (fun z=>some (.inr z))
theorem L123x1_3n (F:Nat) (y30:List UInt8) (y31:Int) (y32:Bool) (y33:Vector UInt32 8) (y34:Vector UInt8 64) {β:Type} (kO:((List UInt8)×(Vector UInt32 8)×(Vector UInt8 64))->Option β) (kR:((Vector UInt8 64))->Option β):L123x1_3c F y30 y31 y32 y33 y34 kO kR=(L123x1_3 F y30 y31 y32 y33 y34).bind (elimS kO kR):=by
 simp only [L123x1_3,L123x1_3c,Option.bind_assoc,cond_bind,Option.bind_some,Option.bind_none,elimS_l,elimS_r,elimS_bind]
abbrev sA123x1_3:List Sh:=[(.pt 0 [0,0]),(.ro .u8),.i,.bo]
abbrev sAp1123x1_3:List Sh:=[(.pt 0 [0,0]),(.ro .u8)]
abbrev sAp2123x1_3:List Sh:=[]
abbrev sT123x1_3:List TSh:=[.blk 210 (.pr (.pr (.pr (.ar 8 .u32) (.pr (.ar 64 .u8) (.pr .i .un))) (.pr (.ar 64 .u8) .un)) .un)]
abbrev sTp1123x1_3:List TSh:=[.blk 210 (.pr (.pr (.pr (.ar 8 .u32) (.pr (.ar 64 .u8) (.pr .i .un))) (.pr (.ar 64 .u8) .un)) .un)]
abbrev sTp2123x1_3:List TSh:=[.blk 210 (.pr (.pr (.pr (.ar 8 .u32) (.pr (.ar 64 .u8) (.pr .i .un))) (.pr (.ar 64 .u8) .un)) .un)]
def lc123x1_3 (F:Nat):Lc:=mkK [0,1,4,21] sA123x1_3 sT123x1_3 [0,1] sAp1123x1_3 sTp1123x1_3 [] sAp2123x1_3 sTp2123x1_3 (fun x y=>L123x1_3 F x.2.1 x.2.2.1 x.2.2.2.1 y.1.1.1.1 y.1.1.1.2.1) (fun x y (z:(List UInt8)×(Vector UInt32 8)×(Vector UInt8 64))=>(((),z.1,()),((((z.2.1,z.2.2,y.1.1.1.2.2.1,()),y.1.1.2.1,()),()),()))) (fun x y (z:(Vector UInt8 64))=>((),((((y.1.1.1.1,z,y.1.1.1.2.2.1,()),y.1.1.2.1,()),()),())))
theorem le123x1_3 (F:Nat) (x:dens sA123x1_3) (y:tdens sT123x1_3):sev (E123x1 F) 1 [] (cAt (bodyOf Tryz.f123) [1,0,1,1]) [1,0,1,1] (mkSt [0,1,4,21] sA123x1_3 sT123x1_3 x y) (kJoinR 1 [0,1] sAp1123x1_3 sTp1123x1_3 [] sAp2123x1_3 sTp2123x1_3 (fun x y=>some (.inl (x,y))) (fun x y=>some (.inr (x,y)))) =
  L123x1_3c (β:=(dens sAp1123x1_3×tdens sTp1123x1_3) ⊕ (dens sAp2123x1_3×tdens sTp2123x1_3)) F x.2.1 x.2.2.1 x.2.2.2.1 y.1.1.1.1 y.1.1.1.2.1 (fun z=>some (.inl (((),z.1,()),((((z.2.1,z.2.2,y.1.1.1.2.2.1,()),y.1.1.2.1,()),()),())))) (fun z=>some (.inr ((),((((y.1.1.1.1,z,y.1.1.1.2.2.1,()),y.1.1.2.1,()),()),())))):=by kernel_rfl
theorem lo123x1_3 (F:Nat):LcOk Tryz.prog (E123x1 F) 1 (lc123x1_3 F) (cAt (bodyOf Tryz.f123) [1,0,1,1]):=
 mkK_ok (lp:=[]) cok (cts123x1 F) mixed trivial (by kernel_rfl) (fun x y kO kR=>L123x1_3c F x.2.1 x.2.2.1 x.2.2.2.1 y.1.1.1.1 y.1.1.1.2.1 kO kR) (fun x y kO kR=>L123x1_3n F x.2.1 x.2.2.1 x.2.2.2.1 y.1.1.1.1 y.1.1.1.2.1 kO kR) (le123x1_3 F)
def L123x1_4c (F:Nat) (y46:List UInt8) (y47:Vector UInt32 8) {β:Type} (kA:((List UInt8)×(Vector UInt32 8))->Option β) (kO:((List UInt8)×(Vector UInt32 8))->Option β):Option β:=
 (bif (decide ((64:Int)≤(y46.length:Int))) then (Option.bind (gsl y46 (0:Int) (64:Int)) fun x54=>(Option.bind (T153x3 F x54 y47) fun z55=>(Option.bind (gsl y46 (64:Int) (y46.length:Int)) fun x56=>(kA (x56,z55))))) else (kO (y46,y47)))
def L123x1_4 (F:Nat) (y46:List UInt8) (y47:Vector UInt32 8):Option (((List UInt8)×(Vector UInt32 8)) ⊕ ((List UInt8)×(Vector UInt32 8))):=L123x1_4c F y46 y47 (fun s=>some (.inl s)) (fun z=>some (.inr z))
theorem L123x1_4n (F:Nat) (y46:List UInt8) (y47:Vector UInt32 8) {β:Type} (kA:((List UInt8)×(Vector UInt32 8))->Option β) (kO:((List UInt8)×(Vector UInt32 8))->Option β):L123x1_4c F y46 y47 kA kO=(L123x1_4 F y46 y47).bind (elimS kA kO):=by
 simp only [L123x1_4,L123x1_4c,Option.bind_assoc,cond_bind,Option.bind_some,Option.bind_none,elimS_l,elimS_r,elimS_bind]
abbrev sA123x1_4:List Sh:=[(.pt 0 [0,0]),(.ro .u8)]
abbrev sAp1123x1_4:List Sh:=[(.pt 0 [0,0]),(.ro .u8)]
abbrev sT123x1_4:List TSh:=[.blk 210 (.pr (.pr (.pr (.ar 8 .u32) (.pr (.ar 64 .u8) (.pr .i .un))) (.pr (.ar 64 .u8) .un)) .un)]
abbrev sTp1123x1_4:List TSh:=[.blk 210 (.pr (.pr (.pr (.ar 8 .u32) (.pr (.ar 64 .u8) (.pr .i .un))) (.pr (.ar 64 .u8) .un)) .un)]
def lc123x1_4 (F:Nat):Lc:=mkL [0,1] sA123x1_4 sT123x1_4 [0,1] sAp1123x1_4 sTp1123x1_4 F (fun x y (s:(List UInt8)×(Vector UInt32 8))=>L123x1_4 F s.1 s.2) (fun x y=>(x.2.1,y.1.1.1.1)) (fun x y (z:(List UInt8)×(Vector UInt32 8))=>(((),z.1,()),((((z.2,y.1.1.1.2.1,y.1.1.1.2.2.1,()),y.1.1.2.1,()),()),())))
theorem le123x1_4 (F:Nat) (x:dens sA123x1_4) (y:tdens sT123x1_4) (s:(List UInt8)×(Vector UInt32 8)):sev (E123x1 F) 1 [] (cAt (bodyOf Tryz.f123) (0 :: 0 :: [0,1,1,1])) (0 :: 0 :: [0,1,1,1]) (mkSt [0,1] sA123x1_4 sT123x1_4 ((),s.1,()) ((((s.2,y.1.1.1.2.1,y.1.1.1.2.2.1,()),y.1.1.2.1,()),()),())) (kLoop 1 [0,1] sA123x1_4 sT123x1_4 [0,1] sAp1123x1_4 sTp1123x1_4 [] [] [] 0 (fun x y=>some (.inl (x,y))) (fun x y=>some (.inr (.inl (x,y)))) (fun x y=>some (.inr (.inr (x,y))))) =
  L123x1_4c (β:=Full sA123x1_4 sT123x1_4 sAp1123x1_4 sTp1123x1_4 [] []) F s.1 s.2 (fun s=>some (.inl (((),s.1,()),((((s.2,y.1.1.1.2.1,y.1.1.1.2.2.1,()),y.1.1.2.1,()),()),())))) (fun z=>some (.inr (.inl (((),z.1,()),((((z.2,y.1.1.1.2.1,y.1.1.1.2.2.1,()),y.1.1.2.1,()),()),()))))):=by kernel_rfl
theorem lo123x1_4 (F:Nat):LcOk Tryz.prog (E123x1 F) 1 (lc123x1_4 F) (cAt (bodyOf Tryz.f123) [0,1,1,1]):=
 mkL_ok (lp:=[]) (id:=0) (b:=cAt (bodyOf Tryz.f123) (0 :: 0 :: [0,1,1,1])) cok (cts123x1 F) mixed trivial (by kernel_rfl) (by kernel_rfl) (fun x y s=>((),s.1,())) (fun x y s=>((((s.2,y.1.1.1.2.1,y.1.1.1.2.2.1,()),y.1.1.2.1,()),()),())) (fun x y=>rfl) (fun x y=>rfl) (fun x y s kA kO=>L123x1_4c F s.1 s.2 kA kO) (fun x y s kA kO=>L123x1_4n F s.1 s.2 kA kO) (le123x1_4 F)
def T123x1c (F:Nat) (p0:List UInt8) (p1:Vector UInt32 8) (p2:Vector UInt8 64) (p3:Int) {β:Type} (k:((Vector UInt32 8)×(Vector UInt8 64)×Int)->Option β):Option β:=
 (Option.bind (L123x1_3 F p0 (Int.tmod p3 (64:Int)) (decide ((0:Int) < (Int.tmod p3 (64:Int)))) p1 p2) fun z45=>elimS (fun z45=>(Option.bind (iter (fun s=>L123x1_4 F s.1 s.2) F (z45.1,z45.2.1)) fun z57=>(Option.bind (gslb 64 (0:Int) ((64:Nat):Int)) fun x58=>(k (z57.2,(vspl z45.2.2 x58.1 z57.1 (Nat.min z57.1.length (x58.2 - x58.1))),(w64 (p3 + (p0.length:Int)))))))) (fun z45=>(k (p1,z45,(w64 (p3 + (p0.length:Int)))))) z45)
def T123x1 (F:Nat) (p0:List UInt8) (p1:Vector UInt32 8) (p2:Vector UInt8 64) (p3:Int):Option ((Vector UInt32 8)×(Vector UInt8 64)×Int):=T123x1c F p0 p1 p2 p3 some
theorem T123x1n (F:Nat) (p0:List UInt8) (p1:Vector UInt32 8) (p2:Vector UInt8 64) (p3:Int) {β:Type} (k:((Vector UInt32 8)×(Vector UInt8 64)×Int)->Option β):T123x1c F p0 p1 p2 p3 k=(T123x1 F p0 p1 p2 p3).bind k:=by
 simp only [T123x1,T123x1c,Option.bind_assoc,cond_bind,Option.bind_some,Option.bind_none,elimS_bind]
abbrev cA123x1:List Sh:=[(.pt 0 [0,0]),(.ro .u8)]
abbrev cB123x1:List Sh:=[]
abbrev cT123x1:List TSh:=[.blk 210 (.pr (.pr (.pr (.ar 8 .u32) (.pr (.ar 64 .u8) (.pr .i .un))) (.pr (.ar 64 .u8) .un)) .un)]
abbrev cU123x1:List TSh:=[.blk 210 (.pr (.pr (.pr (.ar 8 .u32) (.pr (.ar 64 .u8) (.pr .i .un))) (.pr (.ar 64 .u8) .un)) .un)]
def ct123x1 (F:Nat):Ct:=mkC 1 cA123x1 cT123x1 cB123x1 cU123x1 (fun x y=>T123x1 F x.2.1 y.1.1.1.1 y.1.1.1.2.1 y.1.1.1.2.2.1) (fun x y (z:(Vector UInt32 8)×(Vector UInt8 64)×Int)=>((),((((z.1,z.2.1,z.2.2,()),y.1.1.2.1,()),()),())))
theorem eq123x1 (F:Nat) (x:dens cA123x1) (y:tdens cT123x1):sev (E123x1 F) 1 [([1,0,1,1],lc123x1_3 F),([0,1,1,1],lc123x1_4 F)] (bodyOf Tryz.f123) [] (mkSt (rng 2) cA123x1 cT123x1 x y) (kFn (E123x1 F) 1 Tryz.f123.results.toList cB123x1 cU123x1 fun p q=>some (p,q)) =
  T123x1c F x.2.1 y.1.1.1.1 y.1.1.1.2.1 y.1.1.1.2.2.1 (fun z=>some ((),((((z.1,z.2.1,z.2.2,()),y.1.1.2.1,()),()),()))):=by kernel_rfl
theorem ok123x1 (F:Nat):Sound Tryz.prog cfg 123 (ct123x1 F):=
 mkC_ok (E:=E123x1 F) (lp:=[([1,0,1,1],lc123x1_3 F),([0,1,1,1],lc123x1_4 F)]) (code:=bodyOf Tryz.f123) Tryz.func123 rfl Tryz.ntmps123 rfl rfl cok (cts123x1 F) mixed ⟨lo123x1_3 F,⟨lo123x1_4 F,trivial⟩⟩ (by kernel_rfl) (fun x y k=>T123x1c F x.2.1 y.1.1.1.1 y.1.1.1.2.1 y.1.1.1.2.2.1 k) (fun x y k=>T123x1n F x.2.1 y.1.1.1.1 y.1.1.1.2.1 y.1.1.1.2.2.1 k) (eq123x1 F)
def ord142:Nat->List (Tag×Nat)
 | 6=>[(.p,3),(.p,4),(.c,5),(.w,0),(.p,1),(.c,2),(.w,6),(.p,7),(.p,8),(.w,9),(.p,10)]
 | 8=>[(.p,0),(.p,1),(.p,2),(.p,3),(.p,4),(.w,5)]
 | _=>[]
def E142 (F:Nat):Ev:=⟨cfg,38,ctOf [(126,ct126 F),(122,ct122 F),(161,ct161 F),(123,ct123x1 F)],ord142,ctOf [],fun _=>none,fun _=>none⟩
theorem cts142 (F:Nat):CtsOk Tryz.prog (E142 F):=cts_of (l:=[(126,ct126 F),(122,ct122 F),(161,ct161 F),(123,ct123x1 F)]) (l':=[]) rfl rfl ⟨⟨ok126 F,_,Tryz.func126,rfl,rfl⟩,⟨⟨ok122 F,_,Tryz.func122,rfl,rfl⟩,⟨⟨ok161 F,_,Tryz.func161,rfl,rfl⟩,⟨⟨ok123x1 F,_,Tryz.func123,rfl,rfl⟩,trivial⟩⟩⟩⟩ trivial
def T142c (F:Nat) (p0:List UInt8) {β:Type} (k:(Zf×Ze×Int×Ze)->Option β):Option β:=
 (bif (decide ((64:Int) < (p0.length:Int))) then (Option.bind (T126 F ([p0]:List Za)) fun z18=>(Option.bind (gslb 64 (0:Int) ((64:Nat):Int)) fun x19=>(Option.bind (vix (gv1) (1:Int)) fun x20=>(Option.bind (T122 F) fun z21=>(Option.bind (T161 F x20 (vspl (Vector.replicate 64 (0:UInt8)) x19.1 z18 (Nat.min z18.length (x19.2 - x19.1)))) fun z22=>(Option.bind (vix (gv1) (0:Int)) fun x23=>(Option.bind (T161 F x23 (vspl (Vector.replicate 64 (0:UInt8)) x19.1 z18 (Nat.min z18.length (x19.2 - x19.1)))) fun z24=>(Option.bind (gslb 64 (0:Int) ((64:Nat):Int)) fun x25=>(Option.bind (T123x1 F ((z24.toList.drop x25.1).take (x25.2 - x25.1)) z21.1 z21.2.1 z21.2.2) fun z26=>(k (z26.1,z26.2.1,z26.2.2,z22))))))))))) else (Option.bind (gslb 64 (0:Int) ((64:Nat):Int)) fun x27=>(Option.bind (vix (gv1) (1:Int)) fun x28=>(Option.bind (T122 F) fun z29=>(Option.bind (T161 F x28 (vspl (Vector.replicate 64 (0:UInt8)) x27.1 p0 (Nat.min p0.length (x27.2 - x27.1)))) fun z30=>(Option.bind (vix (gv1) (0:Int)) fun x31=>(Option.bind (T161 F x31 (vspl (Vector.replicate 64 (0:UInt8)) x27.1 p0 (Nat.min p0.length (x27.2 - x27.1)))) fun z32=>(Option.bind (gslb 64 (0:Int) ((64:Nat):Int)) fun x33=>(Option.bind (T123x1 F ((z32.toList.drop x33.1).take (x33.2 - x33.1)) z29.1 z29.2.1 z29.2.2) fun z34=>(k (z34.1,z34.2.1,z34.2.2,z30)))))))))))
def T142 (F:Nat) (p0:List UInt8):=T142c F p0 some
def ct142 (F:Nat):Ct:=mkC 0 [.str] [] [(.pt 0 [])] [.blk 210 Qg] (fun x y=>T142 F x.1) (fun x y (z:Zf×Ze×Int×Ze)=>(((),()),((((z.1,z.2.1,z.2.2.1,()),z.2.2.2,()),()),())))
theorem ok142 (F:Nat):Sound Tryz.prog cfg 142 (ct142 F):=
 mkC_ok (E:=E142 F) (lp:=[]) (code:=bodyOf Tryz.f142) Tryz.func142 rfl Tryz.ntmps142 rfl rfl cok (cts142 F) mixed trivial (by kernel_rfl) (fun x y k=>T142c F x.1 k) (fun _ _ _=>by simp only [T142,T142c,oA,oC,oS,oN,elimS_bind]) (fun _ _=>by kernel_rfl)
def E143 (F:Nat):Ev:=⟨cfg,10,ctOf [(123,ct123x1 F)],fun _=>[],ctOf [],fun _=>none,fun _=>none⟩
theorem cts143 (F:Nat):CtsOk Tryz.prog (E143 F):=cts_of (l:=[(123,ct123x1 F)]) (l':=[]) rfl rfl ⟨⟨ok123x1 F,_,Tryz.func123,rfl,rfl⟩,trivial⟩ trivial
def T143c (F:Nat) (p0:List UInt8) (p1:Vector UInt32 8) (p2:Vector UInt8 64) (p3:Int) {β:Type} (k:(Zf×Ze×Int)->Option β):Option β:=
 (Option.bind (T123x1 F p0 p1 p2 p3) fun z2=>(k (z2.1,z2.2.1,z2.2.2)))
def T143 (F:Nat) (p0:List UInt8) (p1:Vector UInt32 8) (p2:Vector UInt8 64) (p3:Int):=T143c F p0 p1 p2 p3 some
def ct143 (F:Nat):Ct:=mkC 1 [(.pt 0 []),(.ro .u8)] [.blk 210 Qg] [] [.blk 210 Qg] (fun x y=>T143 F x.2.1 y.1.1.1.1 y.1.1.1.2.1 y.1.1.1.2.2.1) (fun x y (z:Zf×Ze×Int)=>((),((((z.1,z.2.1,z.2.2,()),y.1.1.2.1,()),()),())))
theorem ok143 (F:Nat):Sound Tryz.prog cfg 143 (ct143 F):=
 mkC_ok (E:=E143 F) (lp:=[]) (code:=bodyOf Tryz.f143) Tryz.func143 rfl Tryz.ntmps143 rfl rfl cok (cts143 F) mixed trivial (by kernel_rfl) (fun x y k=>T143c F x.2.1 y.1.1.1.1 y.1.1.1.2.1 y.1.1.1.2.2.1 k) (fun _ _ _=>by simp only [T143,T143c,oA,oC,oS,oN,elimS_bind]) (fun _ _=>by kernel_rfl)
def ord144:Nat->List (Tag×Nat)
 | 1=>[(.p,0),(.p,1),(.p,2),(.p,3),(.p,4),(.c,5),(.p,6),(.p,7),(.p,8),(.p,9),(.w,10),(.w,11),(.b,12),(.p,13)]
 | _=>[]
def E144 (F:Nat):Ev:=⟨cfg,16,ctOf [(124,ct124 F),(126,ct126 F)],ord144,ctOf [],fun _=>none,fun _=>none⟩
theorem cts144 (F:Nat):CtsOk Tryz.prog (E144 F):=cts_of (l:=[(124,ct124 F),(126,ct126 F)]) (l':=[]) rfl rfl ⟨⟨ok124 F,_,Tryz.func124,rfl,rfl⟩,⟨⟨ok126 F,_,Tryz.func126,rfl,rfl⟩,trivial⟩⟩ trivial
def T144c (F:Nat) (p0:Vector UInt32 8) (p1:Vector UInt8 64) (p2:Int) (p3:Vector UInt8 64) {β:Type} (k:(Za)->Option β):Option β:=
 (Option.bind (gslb 64 (0:Int) ((64:Nat):Int)) fun x4=>(Option.bind (T124 F (p0,p1,p2,())) fun z5=>(Option.bind (T126 F ([((p3.toList.drop x4.1).take (x4.2 - x4.1)),z5]:List Za)) fun z6=>(k z6))))
def T144 (F:Nat) (p0:Vector UInt32 8) (p1:Vector UInt8 64) (p2:Int) (p3:Vector UInt8 64):=T144c F p0 p1 p2 p3 some
def ct144 (F:Nat):Ct:=mkC 1 [(.pt 0 [])] [.blk 210 Qg] [.str] [.blk 210 Qg] (fun x y=>T144 F y.1.1.1.1 y.1.1.1.2.1 y.1.1.1.2.2.1 y.1.1.2.1) (fun x y (z:Za)=>((z,()),((((y.1.1.1.1,y.1.1.1.2.1,y.1.1.1.2.2.1,()),y.1.1.2.1,()),()),())))
theorem ok144 (F:Nat):Sound Tryz.prog cfg 144 (ct144 F):=
 mkC_ok (E:=E144 F) (lp:=[]) (code:=bodyOf Tryz.f144) Tryz.func144 rfl Tryz.ntmps144 rfl rfl cok (cts144 F) mixed trivial (by kernel_rfl) (fun x y k=>T144c F y.1.1.1.1 y.1.1.1.2.1 y.1.1.1.2.2.1 y.1.1.2.1 k) (fun _ _ _=>by simp only [T144,T144c,oA,oC,oS,oN,elimS_bind]) (fun _ _=>by kernel_rfl)
def E109 (F:Nat):Ev:=⟨cfg,13,ctOf [(142,ct142 F),(143,ct143 F),(144,ct144 F)],fun _=>[],ctOf [],fun _=>none,fun _=>none⟩
theorem cts109 (F:Nat):CtsOk Tryz.prog (E109 F):=cts_of (l:=[(142,ct142 F),(143,ct143 F),(144,ct144 F)]) (l':=[]) rfl rfl ⟨⟨ok142 F,_,Tryz.func142,rfl,rfl⟩,⟨⟨ok143 F,_,Tryz.func143,rfl,rfl⟩,⟨⟨ok144 F,_,Tryz.func144,rfl,rfl⟩,trivial⟩⟩⟩ trivial
def T109c (F:Nat) (p0:List UInt8) (p1:List UInt8) {β:Type} (k:(Za)->Option β):Option β:=
 (Option.bind (T142 F p0) fun z4=>(Option.bind (T143 F p1 z4.1 z4.2.1 z4.2.2.1) fun z5=>(Option.bind (T144 F z5.1 z5.2.1 z5.2.2 z4.2.2.2) fun z6=>(k z6))))
def T109 (F:Nat) (p0:List UInt8) (p1:List UInt8):=T109c F p0 p1 some
def ct109 (F:Nat):Ct:=mkC 0 [.str,(.ro .u8)] [] [.str] [] (fun x y=>T109 F x.1 x.2.1) (fun x y (z:Za)=>((z,()),()))
theorem ok109 (F:Nat):Sound Tryz.prog cfg 109 (ct109 F):=
 mkC_ok (E:=E109 F) (lp:=[]) (code:=bodyOf Tryz.f109) Tryz.func109 rfl Tryz.ntmps109 rfl rfl cok (cts109 F) mixed trivial (by kernel_rfl) (fun x y k=>T109c F x.1 x.2.1 k) (fun _ _ _=>by simp only [T109,T109c,oA,oC,oS,oN,elimS_bind]) (fun _ _=>by kernel_rfl)
def ord68:Nat->List (Tag×Nat)
 | 5=>[(.p,0),(.c,1),(.p,2),(.p,3),(.p,5),(.w,4),(.w,6),(.b,7),(.p,8),(.p,9)]
 | _=>[]
def E68 (F:Nat):Ev:=⟨cfg,26,ctOf [(72,ct72 F),(110,ct110 F),(109,ct109 F)],ord68,ctOf [],fun _=>none,fun _=>none⟩
theorem cts68 (F:Nat):CtsOk Tryz.prog (E68 F):=cts_of (l:=[(72,ct72 F),(110,ct110 F),(109,ct109 F)]) (l':=[]) rfl rfl ⟨⟨ok72 F,_,Tryz.func72,rfl,rfl⟩,⟨⟨ok110 F,_,Tryz.func110,rfl,rfl⟩,⟨⟨ok109 F,_,Tryz.func109,rfl,rfl⟩,trivial⟩⟩⟩ trivial
def T68c (F:Nat) (p0:List UInt8) (p1:List UInt8) (p2:List UInt8) (p3:List UInt8) (p4:List UInt8) (p5:Int) (p6:List UInt8) {β:Type} (k:(Za×Int)->Option β):Option β:=
 (Option.bind (T72 F p0 p1 p2 p3 p4) fun z5=>(bif (!z5) then (k (([]:List UInt8),(1:Int))) else (bif (decide (p5 < (0:Int))) then (k (([]:List UInt8),(1:Int))) else (bif (decide ((32768:Int) < (p6.length:Int))) then (k (([]:List UInt8),(2:Int))) else (Option.bind (T110 F ([]:List UInt8) (UInt64.ofInt p5)) fun z6=>(Option.bind (gapp z6 p6) fun x7=>(Option.bind (T109 F p0 x7) fun z8=>(k (z8,(0:Int))))))))))
def T68 (F:Nat) (p0:List UInt8) (p1:List UInt8) (p2:List UInt8) (p3:List UInt8) (p4:List UInt8) (p5:Int) (p6:List UInt8):=T68c F p0 p1 p2 p3 p4 p5 p6 some
def ct68 (F:Nat):Ct:=mkC 0 [(.pr .str (.pr .str (.pr .str (.pr .str (.pr .str .un))))),.i,(.ro .u8)] [] [.str,.i] [] (fun x y=>T68 F x.1.1 x.1.2.1 x.1.2.2.1 x.1.2.2.2.1 x.1.2.2.2.2.1 x.2.1 x.2.2.1) (fun x y (z:Za×Int)=>((z.1,z.2,()),()))
theorem ok68 (F:Nat):Sound Tryz.prog cfg 68 (ct68 F):=
 mkC_ok (E:=E68 F) (lp:=[]) (code:=bodyOf Tryz.f68) Tryz.func68 rfl Tryz.ntmps68 rfl rfl cok (cts68 F) mixed trivial (by kernel_rfl) (fun x y k=>T68c F x.1.1 x.1.2.1 x.1.2.2.1 x.1.2.2.2.1 x.1.2.2.2.2.1 x.2.1 x.2.2.1 k) (fun _ _ _=>by simp only [T68,T68c,oA,oC,oS,oN,elimS_bind]) (fun _ _=>by kernel_rfl)
def E69 (F:Nat):Ev:=⟨cfg,18,ctOf [(72,ct72 F),(109,ct109 F)],fun _=>[],ctOf [],fun _=>none,fun _=>none⟩
theorem cts69 (F:Nat):CtsOk Tryz.prog (E69 F):=cts_of (l:=[(72,ct72 F),(109,ct109 F)]) (l':=[]) rfl rfl ⟨⟨ok72 F,_,Tryz.func72,rfl,rfl⟩,⟨⟨ok109 F,_,Tryz.func109,rfl,rfl⟩,trivial⟩⟩ trivial
def T69c (F:Nat) (p0:List UInt8) (p1:List UInt8) (p2:List UInt8) (p3:List UInt8) (p4:List UInt8) (p5:List UInt8) {β:Type} (k:Zm->Option β):Option β:=
 (Option.bind (T72 F p0 p1 p2 p3 p4) fun z5=>(bif (!z5) then (k ((1:Int),([]:List UInt8))) else (bif (decide ((32768:Int) < (p5.length:Int))) then (k ((2:Int),([]:List UInt8))) else (Option.bind (T109 F p2 p5) fun z6=>(Option.bind (gsl z6 (0:Int) (16:Int)) fun x7=>(Option.bind (gstr x7) fun x8=>(k ((0:Int),x8))))))))
def T69 (F:Nat) (p0:List UInt8) (p1:List UInt8) (p2:List UInt8) (p3:List UInt8) (p4:List UInt8) (p5:List UInt8):=T69c F p0 p1 p2 p3 p4 p5 some
def ct69 (F:Nat):Ct:=mkC 0 [(.pr .str (.pr .str (.pr .str (.pr .str (.pr .str .un))))),(.ro .u8)] [] [(.rw 0),.i] [.row 5 .u8] (fun x y=>T69 F x.1.1 x.1.2.1 x.1.2.2.1 x.1.2.2.2.1 x.1.2.2.2.2.1 x.2.1) (fun x y (z:Int×Za)=>(((),z.1,()),(z.2,())))
theorem ok69 (F:Nat):Sound Tryz.prog cfg 69 (ct69 F):=
 mkC_ok (E:=E69 F) (lp:=[]) (code:=bodyOf Tryz.f69) Tryz.func69 rfl Tryz.ntmps69 rfl rfl cok (cts69 F) mixed trivial (by kernel_rfl) (fun x y k=>T69c F x.1.1 x.1.2.1 x.1.2.2.1 x.1.2.2.2.1 x.1.2.2.2.2.1 x.2.1 k) (fun _ _ _=>by simp only [T69,T69c,oA,oC,oS,oN,elimS_bind]) (fun _ _=>by kernel_rfl)
def E145 (F:Nat):Ev:=⟨cfg,13,ctOf [],fun _=>[],ctOf [],fun _=>none,fun _=>none⟩
theorem cts145 (F:Nat):CtsOk Tryz.prog (E145 F):=cts_of (l:=[]) (l':=[]) rfl rfl trivial trivial
def T145c (F:Nat) (p0:List UInt8) (p1:List UInt8) {β:Type} (k:Bool->Option β):Option β:=
 (bif ((p0.length:Int) == (32:Int)) then (k ((p1.length:Int) == (12:Int))) else (k false))
def T145 (F:Nat) (p0:List UInt8) (p1:List UInt8):=T145c F p0 p1 some
def ct145 (F:Nat):Ct:=mkC 0 [.str,.str] [] [.bo] [] (fun x y=>T145 F x.1 x.2.1) (fun x y (z:Bool)=>((z,()),()))
theorem ok145 (F:Nat):Sound Tryz.prog cfg 145 (ct145 F):=
 mkC_ok (E:=E145 F) (lp:=[]) (code:=bodyOf Tryz.f145) Tryz.func145 rfl Tryz.ntmps145 rfl rfl cok (cts145 F) mixed trivial (by kernel_rfl) (fun x y k=>T145c F x.1 x.2.1 k) (fun _ _ _=>by simp only [T145,T145c,oA,oC,oS,oN,elimS_bind]) (fun _ _=>by kernel_rfl)
def ord162:Nat->List (Tag×Nat)
 | 1=>[(.p,0),(.p,1),(.p,2),(.p,3),(.p,4),(.p,5),(.p,6),(.p,7),(.p,8),(.p,9),(.p,10),(.p,11),(.p,12),(.p,13),(.p,14),(.p,15),(.p,16),(.p,17),(.p,18),(.p,19),(.p,20),(.p,21),(.p,22),(.p,23),(.p,24),(.p,25)]
 | _=>[]
def E162 (F:Nat):Ev:=⟨cfg,30,ctOf [],ord162,ctOf [],fun _=>none,fun _=>none⟩
theorem cts162 (F:Nat):CtsOk Tryz.prog (E162 F):=cts_of (l:=[]) (l':=[]) rfl rfl trivial trivial
def T162c (F:Nat) (p0:List UInt8) (p1:Int) {β:Type} (k:UInt32->Option β):Option β:=
 (Option.bind (ix p0 p1) fun x5=>(Option.bind (ix p0 (w64 (p1 + (1:Int)))) fun x6=>(Option.bind (ix p0 (w64 (p1 + (2:Int)))) fun x7=>(Option.bind (ix p0 (w64 (p1 + (3:Int)))) fun x8=>(k ((((x5.toUInt32) ||| (shl32 (x6.toUInt32) ((UInt64.ofNat 8).toNat))) ||| (shl32 (x7.toUInt32) ((UInt64.ofNat 16).toNat))) ||| (shl32 (x8.toUInt32) ((UInt64.ofNat 24).toNat))))))))
def T162 (F:Nat) (p0:List UInt8) (p1:Int):=T162c F p0 p1 some
def ct162 (F:Nat):Ct:=mkC 0 [.str,.i] [] [.u32] [] (fun x y=>T162 F x.1 x.2.1) (fun x y (z:UInt32)=>((z,()),()))
theorem ok162 (F:Nat):Sound Tryz.prog cfg 162 (ct162 F):=
 mkC_ok (E:=E162 F) (lp:=[]) (code:=bodyOf Tryz.f162) Tryz.func162 rfl Tryz.ntmps162 rfl rfl cok (cts162 F) mixed trivial (by kernel_rfl) (fun x y k=>T162c F x.1 x.2.1 k) (fun _ _ _=>by simp only [T162,T162c,oA,oC,oS,oN,elimS_bind]) (fun _ _=>by kernel_rfl)
def E163 (F:Nat):Ev:=⟨cfg,44,ctOf [(170,ct170 F)],fun _=>[],ctOf [],fun _=>none,fun _=>none⟩
theorem cts163 (F:Nat):CtsOk Tryz.prog (E163 F):=cts_of (l:=[(170,ct170 F)]) (l':=[]) rfl rfl ⟨⟨ok170 F,_,Tryz.func170,rfl,rfl⟩,trivial⟩ trivial
def T163c (F:Nat) (p0:UInt32) (p1:UInt32) (p2:UInt32) (p3:UInt32) {β:Type} (k:(UInt32×UInt32×UInt32×UInt32)->Option β):Option β:=
 (Option.bind (T170 F (p3 ^^^ (p0 + p1)) (16:Int)) fun z5=>(Option.bind (T170 F (p1 ^^^ (p2 + z5)) (12:Int)) fun z6=>(Option.bind (T170 F (z5 ^^^ ((p0 + p1) + z6)) (8:Int)) fun z7=>(Option.bind (T170 F (z6 ^^^ ((p2 + z5) + z7)) (7:Int)) fun z8=>(k (((p0 + p1) + z6),z8,((p2 + z5) + z7),z7))))))
def T163 (F:Nat) (p0:UInt32) (p1:UInt32) (p2:UInt32) (p3:UInt32):=T163c F p0 p1 p2 p3 some
def ct163 (F:Nat):Ct:=mkC 0 [.u32,.u32,.u32,.u32] [] [.u32,.u32,.u32,.u32] [] (fun x y=>T163 F x.1 x.2.1 x.2.2.1 x.2.2.2.1) (fun x y (z:UInt32×UInt32×UInt32×UInt32)=>((z.1,z.2.1,z.2.2.1,z.2.2.2,()),()))
theorem ok163 (F:Nat):Sound Tryz.prog cfg 163 (ct163 F):=
 mkC_ok (E:=E163 F) (lp:=[]) (code:=bodyOf Tryz.f163) Tryz.func163 rfl Tryz.ntmps163 rfl rfl cok (cts163 F) mixed trivial (by kernel_rfl) (fun x y k=>T163c F x.1 x.2.1 x.2.2.1 x.2.2.2.1 k) (fun _ _ _=>by simp only [T163,T163c,oA,oC,oS,oN,elimS_bind]) (fun _ _=>by kernel_rfl)
def ord146:Nat->List (Tag×Nat)
 | 22=>[(.p,0),(.c,1),(.p,2),(.c,3),(.p,4),(.c,5),(.p,6),(.c,7),(.p,8),(.r,9),(.p,10),(.r,11),(.p,12),(.r,13),(.p,14),(.r,15),(.p,16),(.r,17),(.p,18),(.r,19),(.p,20),(.r,21),(.p,22),(.r,23),(.w,24),(.p,25),(.p,26),(.p,27),(.p,28),(.p,29),(.p,30),(.w,31),(.p,32),(.w,33),(.p,34),(.w,35),(.p,36),(.b,37)]
 | _=>[]
def E146 (F:Nat):Ev:=⟨cfg,126,ctOf [(145,ct145 F),(162,ct162 F),(163,ct163 F)],ord146,ctOf [],fun _=>none,fun _=>none⟩
theorem cts146 (F:Nat):CtsOk Tryz.prog (E146 F):=cts_of (l:=[(145,ct145 F),(162,ct162 F),(163,ct163 F)]) (l':=[]) rfl rfl ⟨⟨ok145 F,_,Tryz.func145,rfl,rfl⟩,⟨⟨ok162 F,_,Tryz.func162,rfl,rfl⟩,⟨⟨ok163 F,_,Tryz.func163,rfl,rfl⟩,trivial⟩⟩⟩ trivial
def L146_7c (F:Nat) (y100:List UInt8) (y103:Int) (y104:Vector UInt32 16) {β:Type} (kA:(Int×Zg)->Option β) (kO:(Zg)->Option β):Option β:=
 (bif (decide (y103 < (8:Int))) then (Option.bind (T162 F y100 (w64 ((4:Int) * y103))) fun z107=>(Option.bind (inb 16 (w64 ((4:Int) + y103))) fun x108=>(kA ((w64 (y103 + (1:Int))),(Vector.setIfInBounds y104 x108 z107))))) else (kO y104))
def L146_7 (F:Nat) (y100:List UInt8) (y103:Int) (y104:Vector UInt32 16):=L146_7c F y100 y103 y104 (fun s=>some (Sum.inl s)) (fun z=>some (Sum.inr z))
def lc146_7 (F:Nat):Lc:=mkL [0,1,2,8,23] [.str,.str,.u32,(.pt 0 []),.i] [.blk 211 Qj] [1,2,8] [.str,.u32,(.pt 0 [])] [.blk 211 Qj] F (fun x y (s:Int×Zg)=>L146_7 F x.1 s.1 s.2) (fun x y=>(x.2.2.2.2.1,y.1)) (fun x y (z:Zg)=>((x.2.1,x.2.2.1,(),()),(z,())))
theorem lo146_7 (F:Nat):LcOk Tryz.prog (E146 F) 0 (lc146_7 F) (cAt (bodyOf Tryz.f146) [1,0,1,1,1]):=
 mkL_ok (lp:=[]) (id:=0) (b:=cAt (bodyOf Tryz.f146) (0 :: 0 :: [1,0,1,1,1])) cok (cts146 F) mixed trivial (by kernel_rfl) (by kernel_rfl) (fun x y s=>(x.1,x.2.1,x.2.2.1,(),s.1,())) (fun x y s=>(s.2,())) (fun x y=>rfl) (fun x y=>rfl) (fun x y s kA kO=>L146_7c F x.1 s.1 s.2 kA kO) (fun _ _ _ _ _=>by simp only [L146_7,L146_7c,oA,oC,oS,oN,elimS_l,elimS_r,elimS_bind]) (fun _ _ _=>by kernel_rfl)
def L146_8c (F:Nat) (y110:List UInt8) (y111:Int) (y112:Vector UInt32 16) {β:Type} (kA:(Int×Zg)->Option β) (kO:(Zg)->Option β):Option β:=
 (bif (decide (y111 < (3:Int))) then (Option.bind (T162 F y110 (w64 ((4:Int) * y111))) fun z115=>(Option.bind (inb 16 (w64 ((13:Int) + y111))) fun x116=>(kA ((w64 (y111 + (1:Int))),(Vector.setIfInBounds y112 x116 z115))))) else (kO y112))
def L146_8 (F:Nat) (y110:List UInt8) (y111:Int) (y112:Vector UInt32 16):=L146_8c F y110 y111 y112 (fun s=>some (Sum.inl s)) (fun z=>some (Sum.inr z))
def lc146_8 (F:Nat):Lc:=mkL [1,8,36] [.str,(.pt 0 []),.i] [.blk 211 Qj] [8] [(.pt 0 [])] [.blk 211 Qj] F (fun x y (s:Int×Zg)=>L146_8 F x.1 s.1 s.2) (fun x y=>(x.2.2.1,y.1)) (fun x y (z:Zg)=>(((),()),(z,())))
theorem lo146_8 (F:Nat):LcOk Tryz.prog (E146 F) 0 (lc146_8 F) (cAt (bodyOf Tryz.f146) [1,0,1,1,1,1,1]):=
 mkL_ok (lp:=[]) (id:=2) (b:=cAt (bodyOf Tryz.f146) (0 :: 0 :: [1,0,1,1,1,1,1])) cok (cts146 F) mixed trivial (by kernel_rfl) (by kernel_rfl) (fun x y s=>(x.1,(),s.1,())) (fun x y s=>(s.2,())) (fun x y=>rfl) (fun x y=>rfl) (fun x y s kA kO=>L146_8c F x.1 s.1 s.2 kA kO) (fun _ _ _ _ _=>by simp only [L146_8,L146_8c,oA,oC,oS,oN,elimS_l,elimS_r,elimS_bind]) (fun _ _ _=>by kernel_rfl)
def L146_11c (F:Nat) (y131:Vector (Vector Int 4) 8) (y132:Int) (y134:Vector UInt32 16) {β:Type} (kO:(Int×Zg)->Option β):Option β:=
 (Option.bind (vix y131 y132) fun x158=>(Option.bind (vat x158 0) fun x159=>(Option.bind (vat x158 1) fun x160=>(Option.bind (vat x158 2) fun x161=>(Option.bind (vat x158 3) fun x162=>(Option.bind (vat x158 0) fun x163=>(Option.bind (inb 16 x163) fun x164=>(Option.bind (vat y134 x164) fun x165=>(Option.bind (vat x158 1) fun x166=>(Option.bind (inb 16 x166) fun x167=>(Option.bind (vat y134 x167) fun x168=>(Option.bind (vat x158 2) fun x169=>(Option.bind (inb 16 x169) fun x170=>(Option.bind (vat y134 x170) fun x171=>(Option.bind (vat x158 3) fun x172=>(Option.bind (inb 16 x172) fun x173=>(Option.bind (vat y134 x173) fun x174=>(Option.bind (T163 F x165 x168 x171 x174) fun z175=>(Option.bind (inb 16 x159) fun x176=>(Option.bind (inb 16 x160) fun x177=>(Option.bind (inb 16 x161) fun x178=>(Option.bind (inb 16 x162) fun x179=>(kO ((w64 (y132 + (1:Int))),(Vector.setIfInBounds (Vector.setIfInBounds (Vector.setIfInBounds (Vector.setIfInBounds y134 x176 z175.1) x177 z175.2.1) x178 z175.2.2.1) x179 z175.2.2.2)))))))))))))))))))))))))
def L146_11 (F:Nat) (y131:Vector (Vector Int 4) 8) (y132:Int) (y134:Vector UInt32 16):Option (Int×Zg):=L146_11c F y131 y132 y134 (fun z=>some z)
theorem L146_11n (F:Nat) (y131:Vector (Vector Int 4) 8) (y132:Int) (y134:Vector UInt32 16) {β:Type} (kO:(Int×Zg)->Option β):L146_11c F y131 y132 y134 kO=(L146_11 F y131 y132 y134).bind (kO):=by
 simp only [L146_11,L146_11c,oA,oC,oS,oN,elimS_l,elimS_r,elimS_bind]
def lc146_11 (F:Nat):Lc:=mkJ [8,11,12,57,59,60] [(.pt 0 []),(.pt 1 []),(.pt 2 []),.i,(.ar 8 (.ar 4 .i)),.i] [.blk 211 Qj,.blk 211 Qj,.blk 214 (.ar 8 (.ar 4 .i))] [8,11,12,57,59,60] [(.pt 0 []),(.pt 1 []),(.pt 2 []),.i,(.ar 8 (.ar 4 .i)),.i] [.blk 211 Qj,.blk 211 Qj,.blk 214 (.ar 8 (.ar 4 .i))] (fun x y=>L146_11 F x.2.2.2.2.1 x.2.2.2.2.2.1 y.2.1) (fun x y (z:Int×Zg)=>(((),(),(),x.2.2.2.1,x.2.2.2.2.1,z.1,()),(y.1,z.2,y.2.2.1,())))
theorem lo146_11 (F:Nat):LcOk Tryz.prog (E146 F) 0 (lc146_11 F) (cAt (bodyOf Tryz.f146) [1,1,0,0,1,0,0,1,1,0,0,1,0,1,1,1,1,1,1,1,1]):=
 mkJ_ok (lp:=[]) cok (cts146 F) mixed trivial (by kernel_rfl) (fun x y kO=>L146_11c F x.2.2.2.2.1 x.2.2.2.2.2.1 y.2.1 kO) (fun x y kO=>L146_11n F x.2.2.2.2.1 x.2.2.2.2.2.1 y.2.1 kO) (fun _ _=>by kernel_rfl)
def L146_10c (F:Nat) (y124:Vector (Vector Int 4) 8) (y125:Int) (y127:Vector UInt32 16) {β:Type} (kA:(Int×Zg)->Option β) (kO:(Zg)->Option β):Option β:=
 (bif (decide (y125 < (8:Int))) then (Option.bind (L146_11 F y124 y125 y127) fun z180=>(kA (z180.1,z180.2))) else (kO y127))
def L146_10 (F:Nat) (y124:Vector (Vector Int 4) 8) (y125:Int) (y127:Vector UInt32 16):=L146_10c F y124 y125 y127 (fun s=>some (Sum.inl s)) (fun z=>some (Sum.inr z))
def lc146_10 (F:Nat):Lc:=mkL [8,11,12,57,59,60] [(.pt 0 []),(.pt 1 []),(.pt 2 []),.i,(.ar 8 (.ar 4 .i)),.i] [.blk 211 Qj,.blk 211 Qj,.blk 214 (.ar 8 (.ar 4 .i))] [8,11,12,57] [(.pt 0 []),(.pt 1 []),(.pt 2 []),.i] [.blk 211 Qj,.blk 211 Qj,.blk 214 (.ar 8 (.ar 4 .i))] F (fun x y (s:Int×Zg)=>L146_10 F x.2.2.2.2.1 s.1 s.2) (fun x y=>(x.2.2.2.2.2.1,y.2.1)) (fun x y (z:Zg)=>(((),(),(),x.2.2.2.1,()),(y.1,z,y.2.2.1,())))
theorem lo146_10 (F:Nat):LcOk Tryz.prog (E146 F) 0 (lc146_10 F) (cAt (bodyOf Tryz.f146) [1,0,0,1,1,0,0,1,0,1,1,1,1,1,1,1,1]):=
 mkL_ok (lp:=[([1,1,0,0,1,0,0,1,1,0,0,1,0,1,1,1,1,1,1,1,1],lc146_11 F)]) (id:=6) (b:=cAt (bodyOf Tryz.f146) (0 :: 0 :: [1,0,0,1,1,0,0,1,0,1,1,1,1,1,1,1,1])) cok (cts146 F) mixed ⟨lo146_11 F,trivial⟩ (by kernel_rfl) (by kernel_rfl) (fun x y s=>((),(),(),x.2.2.2.1,x.2.2.2.2.1,s.1,())) (fun x y s=>(y.1,s.2,y.2.2.1,())) (fun x y=>rfl) (fun x y=>rfl) (fun x y s kA kO=>L146_10c F x.2.2.2.2.1 s.1 s.2 kA kO) (fun _ _ _ _ _=>by simp only [L146_10,L146_10c,oA,oC,oS,oN,elimS_l,elimS_r,elimS_bind]) (fun _ _ _=>by kernel_rfl)
def L146_9c (F:Nat) (y121:Vector (Vector Int 4) 8) (y118:Int) (y120:Vector UInt32 16) {β:Type} (kA:(Int×Zg)->Option β) (kO:(Zg)->Option β):Option β:=
 (bif (decide (y118 < (10:Int))) then (Option.bind (iter (fun s=>L146_10 F y121 s.1 s.2) F ((0:Int),y120)) fun z181=>(kA ((w64 (y118 + (1:Int))),z181))) else (kO y120))
def L146_9 (F:Nat) (y121:Vector (Vector Int 4) 8) (y118:Int) (y120:Vector UInt32 16):=L146_9c F y121 y118 y120 (fun s=>some (Sum.inl s)) (fun z=>some (Sum.inr z))
def lc146_9 (F:Nat):Lc:=mkL [8,11,12,57] [(.pt 0 []),(.pt 1 []),(.pt 2 []),.i] [.blk 211 Qj,.blk 211 Qj,.blk 214 (.ar 8 (.ar 4 .i))] [8,11] [(.pt 0 []),(.pt 1 [])] [.blk 211 Qj,.blk 211 Qj] F (fun x y (s:Int×Zg)=>L146_9 F y.2.2.1 s.1 s.2) (fun x y=>(x.2.2.2.1,y.2.1)) (fun x y (z:Zg)=>(((),(),()),(y.1,z,())))
theorem lo146_9 (F:Nat):LcOk Tryz.prog (E146 F) 0 (lc146_9 F) (cAt (bodyOf Tryz.f146) [1,0,1,1,1,1,1,1,1,1]):=
 mkL_ok (lp:=[([1,0,0,1,1,0,0,1,0,1,1,1,1,1,1,1,1],lc146_10 F)]) (id:=4) (b:=cAt (bodyOf Tryz.f146) (0 :: 0 :: [1,0,1,1,1,1,1,1,1,1])) cok (cts146 F) mixed ⟨lo146_10 F,trivial⟩ (by kernel_rfl) (by kernel_rfl) (fun x y s=>((),(),(),s.1,())) (fun x y s=>(y.1,s.2,y.2.2.1,())) (fun x y=>rfl) (fun x y=>rfl) (fun x y s kA kO=>L146_9c F y.2.2.1 s.1 s.2 kA kO) (fun _ _ _ _ _=>by simp only [L146_9,L146_9c,oA,oC,oS,oN,elimS_l,elimS_r,elimS_bind]) (fun _ _ _=>by kernel_rfl)
def L146_12c (F:Nat) (y184:Vector UInt32 16) (y186:Vector UInt32 16) (y185:Int) (y187:List UInt8) {β:Type} (kA:Zm->Option β) (kO:(Za)->Option β):Option β:=
 (bif (decide (y185 < (16:Int))) then (Option.bind (vix y184 y185) fun x192=>(Option.bind (inb 16 y185) fun x193=>(Option.bind (vat y186 x193) fun x194=>(Option.bind (gapp y187 ([((x192 + x194).toUInt8),((shr32 (x192 + x194) ((UInt64.ofNat 8).toNat)).toUInt8),((shr32 (x192 + x194) ((UInt64.ofNat 16).toNat)).toUInt8),((shr32 (x192 + x194) ((UInt64.ofNat 24).toNat)).toUInt8)]:List UInt8)) fun x195=>(kA ((w64 (y185 + (1:Int))),x195)))))) else (kO y187))
def L146_12 (F:Nat) (y184:Vector UInt32 16) (y186:Vector UInt32 16) (y185:Int) (y187:List UInt8):=L146_12c F y184 y186 y185 y187 (fun s=>some (Sum.inl s)) (fun z=>some (Sum.inr z))
def lc146_12 (F:Nat):Lc:=mkL [8,15,100,101] [(.pt 0 []),(.rw 1),(.ar 16 .u32),.i] [.blk 211 Qj,.row 5 .u8] [15] [(.rw 0)] [.row 5 .u8] F (fun x y (s:Int×Za)=>L146_12 F x.2.2.1 y.1 s.1 s.2) (fun x y=>(x.2.2.2.1,y.2.1)) (fun x y (z:Za)=>(((),()),(z,())))
theorem lo146_12 (F:Nat):LcOk Tryz.prog (E146 F) 0 (lc146_12 F) (cAt (bodyOf Tryz.f146) [1,0,1,1,1,1,1,1,1,1,1,1]):=
 mkL_ok (lp:=[]) (id:=8) (b:=cAt (bodyOf Tryz.f146) (0 :: 0 :: [1,0,1,1,1,1,1,1,1,1,1,1])) cok (cts146 F) mixed trivial (by kernel_rfl) (by kernel_rfl) (fun x y s=>((),(),x.2.2.1,s.1,())) (fun x y s=>(y.1,s.2,())) (fun x y=>rfl) (fun x y=>rfl) (fun x y s kA kO=>L146_12c F x.2.2.1 y.1 s.1 s.2 kA kO) (fun _ _ _ _ _=>by simp only [L146_12,L146_12c,oA,oC,oS,oN,elimS_l,elimS_r,elimS_bind]) (fun _ _ _=>by kernel_rfl)
def T146c (F:Nat) (p0:List UInt8) (p1:List UInt8) (p2:UInt32) {β:Type} (k:Zm->Option β):Option β:=
 (Option.bind (T145 F p0 p1) fun z99=>(bif (!z99) then (k ((1:Int),([]:List UInt8))) else (Option.bind (iter (fun s=>L146_7 F p0 s.1 s.2) F ((0:Int),(Vector.setIfInBounds (Vector.setIfInBounds (Vector.setIfInBounds (Vector.setIfInBounds (Vector.replicate 16 (0:UInt32)) 0 (UInt32.ofNat 1634760805)) 1 (UInt32.ofNat 857760878)) 2 (UInt32.ofNat 2036477234)) 3 (UInt32.ofNat 1797285236)))) fun z109=>(Option.bind (iter (fun s=>L146_8 F p1 s.1 s.2) F ((0:Int),(Vector.setIfInBounds z109 12 p2))) fun z117=>(Option.bind (iter (fun s=>L146_9 F (#v[(#v[(0:Int),(4:Int),(8:Int),(12:Int)]:Vector Int 4),(#v[(1:Int),(5:Int),(9:Int),(13:Int)]:Vector Int 4),(#v[(2:Int),(6:Int),(10:Int),(14:Int)]:Vector Int 4),(#v[(3:Int),(7:Int),(11:Int),(15:Int)]:Vector Int 4),(#v[(0:Int),(5:Int),(10:Int),(15:Int)]:Vector Int 4),(#v[(1:Int),(6:Int),(11:Int),(12:Int)]:Vector Int 4),(#v[(2:Int),(7:Int),(8:Int),(13:Int)]:Vector Int 4),(#v[(3:Int),(4:Int),(9:Int),(14:Int)]:Vector Int 4)]:Vector (Vector Int 4) 8) s.1 s.2) F ((0:Int),z117)) fun z182=>(Option.bind (gmake (0:UInt8) (0:Int) (64:Int)) fun x183=>(Option.bind (iter (fun s=>L146_12 F z182 z117 s.1 s.2) F ((0:Int),x183)) fun z196=>(k ((0:Int),z196)))))))))
def T146 (F:Nat) (p0:List UInt8) (p1:List UInt8) (p2:UInt32):=T146c F p0 p1 p2 some
def ct146 (F:Nat):Ct:=mkC 0 [.str,.str,.u32] [] [(.rw 0),.i] [.row 5 .u8] (fun x y=>T146 F x.1 x.2.1 x.2.2.1) (fun x y (z:Int×Za)=>(((),z.1,()),(z.2,())))
theorem ok146 (F:Nat):Sound Tryz.prog cfg 146 (ct146 F):=
 mkC_ok (E:=E146 F) (lp:=[([1,0,1,1,1],lc146_7 F),([1,0,1,1,1,1,1],lc146_8 F),([1,0,1,1,1,1,1,1,1,1],lc146_9 F),([1,0,1,1,1,1,1,1,1,1,1,1],lc146_12 F)]) (code:=bodyOf Tryz.f146) Tryz.func146 rfl Tryz.ntmps146 rfl rfl cok (cts146 F) mixed ⟨lo146_7 F,⟨lo146_8 F,⟨lo146_9 F,⟨lo146_12 F,trivial⟩⟩⟩⟩ (by kernel_rfl) (fun x y k=>T146c F x.1 x.2.1 x.2.2.1 k) (fun _ _ _=>by simp only [T146,T146c,oA,oC,oS,oN,elimS_bind]) (fun _ _=>by kernel_rfl)
def ord111:Nat->List (Tag×Nat)
 | 10=>[(.p,0),(.p,1),(.p,2),(.p,3),(.p,4),(.p,5),(.p,6),(.p,7),(.w,8),(.p,9),(.p,10)]
 | _=>[]
def E111 (F:Nat):Ev:=⟨cfg,63,ctOf [(145,ct145 F),(146,ct146 F)],ord111,ctOf [],fun _=>none,fun _=>none⟩
theorem cts111 (F:Nat):CtsOk Tryz.prog (E111 F):=cts_of (l:=[(145,ct145 F),(146,ct146 F)]) (l':=[]) rfl rfl ⟨⟨ok145 F,_,Tryz.func145,rfl,rfl⟩,⟨⟨ok146 F,_,Tryz.func146,rfl,rfl⟩,trivial⟩⟩ trivial
def L111_2c (F:Nat) (y18:List UInt8) (y19:List UInt8) (y20:Int) (y21:Int) (y22:Int) (y23:List UInt8) {β:Type} (kA:Zm->Option β) (kO:(Za)->Option β):Option β:=
 (bif (decide (y22 < y21)) then (Option.bind (T146 F y18 y19 (UInt32.ofInt (w64 (Int.tdiv (w64 (y20 + y22)) (64:Int))))) fun z27=>(Option.bind (gslb y23.length y22 (y23.length:Int)) fun x28=>(Option.bind (gslb z27.2.length (Int.tmod (w64 (y20 + y22)) (64:Int)) (z27.2.length:Int)) fun x29=>(kA ((w64 (y22 + ((Nat.min ((z27.2.drop x29.1).take (x29.2 - x29.1)).length (x28.2 - x28.1)):Int))),(splice y23 x28.1 ((z27.2.drop x29.1).take (x29.2 - x29.1)) (Nat.min ((z27.2.drop x29.1).take (x29.2 - x29.1)).length (x28.2 - x28.1)))))))) else (kO y23))
def L111_2 (F:Nat) (y18:List UInt8) (y19:List UInt8) (y20:Int) (y21:Int) (y22:Int) (y23:List UInt8):=L111_2c F y18 y19 y20 y21 y22 y23 (fun s=>some (Sum.inl s)) (fun z=>some (Sum.inr z))
def lc111_2 (F:Nat):Lc:=mkL [0,1,2,3,10,11] [.str,.str,.i,.i,(.rw 0),.i] [.row 5 .u8] [10] [(.rw 0)] [.row 5 .u8] F (fun x y (s:Int×Za)=>L111_2 F x.1 x.2.1 x.2.2.1 x.2.2.2.1 s.1 s.2) (fun x y=>(x.2.2.2.2.2.1,y.1)) (fun x y (z:Za)=>(((),()),(z,())))
theorem lo111_2 (F:Nat):LcOk Tryz.prog (E111 F) 0 (lc111_2 F) (cAt (bodyOf Tryz.f111) [1,0,1,1,1,1]):=
 mkL_ok (lp:=[]) (id:=0) (b:=cAt (bodyOf Tryz.f111) (0 :: 0 :: [1,0,1,1,1,1])) cok (cts111 F) mixed trivial (by kernel_rfl) (by kernel_rfl) (fun x y s=>(x.1,x.2.1,x.2.2.1,x.2.2.2.1,(),s.1,())) (fun x y s=>(s.2,())) (fun x y=>rfl) (fun x y=>rfl) (fun x y s kA kO=>L111_2c F x.1 x.2.1 x.2.2.1 x.2.2.2.1 s.1 s.2 kA kO) (fun _ _ _ _ _=>by simp only [L111_2,L111_2c,oA,oC,oS,oN,elimS_l,elimS_r,elimS_bind]) (fun _ _ _=>by kernel_rfl)
def T111c (F:Nat) (p0:List UInt8) (p1:List UInt8) (p2:Int) (p3:Int) {β:Type} (k:Zm->Option β):Option β:=
 (Option.bind (T145 F p0 p1) fun z16=>(bif (!z16) then (k ((1:Int),([]:List UInt8))) else (bif (decide (p2 < (0:Int))) then (k ((1:Int),([]:List UInt8))) else (bif (decide (p3 < (0:Int))) then (k ((1:Int),([]:List UInt8))) else (bif (decide ((1048576:Int) < p3)) then (k ((2:Int),([]:List UInt8))) else (bif (decide ((w64 ((274877906944:Int) - p3)) < p2)) then (k ((2:Int),([]:List UInt8))) else (Option.bind (gmake (0:UInt8) p3 p3) fun x17=>(Option.bind (iter (fun s=>L111_2 F p0 p1 p2 p3 s.1 s.2) F ((0:Int),x17)) fun z30=>(k ((0:Int),z30))))))))))
def T111 (F:Nat) (p0:List UInt8) (p1:List UInt8) (p2:Int) (p3:Int):=T111c F p0 p1 p2 p3 some
def ct111 (F:Nat):Ct:=mkC 0 [.str,.str,.i,.i] [] [(.rw 0),.i] [.row 5 .u8] (fun x y=>T111 F x.1 x.2.1 x.2.2.1 x.2.2.2.1) (fun x y (z:Int×Za)=>(((),z.1,()),(z.2,())))
theorem ok111 (F:Nat):Sound Tryz.prog cfg 111 (ct111 F):=
 mkC_ok (E:=E111 F) (lp:=[([1,0,1,1,1,1],lc111_2 F)]) (code:=bodyOf Tryz.f111) Tryz.func111 rfl Tryz.ntmps111 rfl rfl cok (cts111 F) mixed ⟨lo111_2 F,trivial⟩ (by kernel_rfl) (fun x y k=>T111c F x.1 x.2.1 x.2.2.1 x.2.2.2.1 k) (fun _ _ _=>by simp only [T111,T111c,oA,oC,oS,oN,elimS_bind]) (fun _ _=>by kernel_rfl)
def ord70:Nat->List (Tag×Nat)
 | 5=>[(.p,0),(.r,1),(.p,2),(.p,3),(.p,4),(.w,5),(.p,6),(.p,7),(.p,8),(.p,9)]
 | _=>[]
def E70 (F:Nat):Ev:=⟨cfg,30,ctOf [(72,ct72 F),(111,ct111 F)],ord70,ctOf [],fun _=>none,fun _=>none⟩
theorem cts70 (F:Nat):CtsOk Tryz.prog (E70 F):=cts_of (l:=[(72,ct72 F),(111,ct111 F)]) (l':=[]) rfl rfl ⟨⟨ok72 F,_,Tryz.func72,rfl,rfl⟩,⟨⟨ok111 F,_,Tryz.func111,rfl,rfl⟩,trivial⟩⟩ trivial
def T70c (F:Nat) (p0:List UInt8) (p1:List UInt8) (p2:List UInt8) (p3:List UInt8) (p4:List UInt8) (p5:List UInt8) (p6:Int) {β:Type} (k:Zm->Option β):Option β:=
 (Option.bind (T72 F p0 p1 p2 p3 p4) fun z4=>(bif (!z4) then (k ((1:Int),([]:List UInt8))) else (bif ((p5.length:Int) != (32:Int)) then (k ((1:Int),([]:List UInt8))) else (bif (decide (p6 < (0:Int))) then (k ((1:Int),([]:List UInt8))) else (bif (decide ((65536:Int) < p6)) then (k ((2:Int),([]:List UInt8))) else (Option.bind (gsl p5 (0:Int) (12:Int)) fun x5=>(Option.bind (T111 F p1 x5 (0:Int) p6) fun z6=>(k (z6.1,z6.2)))))))))
def T70 (F:Nat) (p0:List UInt8) (p1:List UInt8) (p2:List UInt8) (p3:List UInt8) (p4:List UInt8) (p5:List UInt8) (p6:Int):=T70c F p0 p1 p2 p3 p4 p5 p6 some
def ct70 (F:Nat):Ct:=mkC 0 [(.pr .str (.pr .str (.pr .str (.pr .str (.pr .str .un))))),.str,.i] [] [(.rw 0),.i] [.row 5 .u8] (fun x y=>T70 F x.1.1 x.1.2.1 x.1.2.2.1 x.1.2.2.2.1 x.1.2.2.2.2.1 x.2.1 x.2.2.1) (fun x y (z:Int×Za)=>(((),z.1,()),(z.2,())))
theorem ok70 (F:Nat):Sound Tryz.prog cfg 70 (ct70 F):=
 mkC_ok (E:=E70 F) (lp:=[]) (code:=bodyOf Tryz.f70) Tryz.func70 rfl Tryz.ntmps70 rfl rfl cok (cts70 F) mixed trivial (by kernel_rfl) (fun x y k=>T70c F x.1.1 x.1.2.1 x.1.2.2.1 x.1.2.2.2.1 x.1.2.2.2.2.1 x.2.1 x.2.2.1 k) (fun _ _ _=>by simp only [T70,T70c,oA,oC,oS,oN,elimS_bind]) (fun _ _=>by kernel_rfl)
def E112 (F:Nat):Ev:=⟨cfg,42,ctOf [(37,ct37 F),(110,ct110 F)],fun _=>[],ctOf [],fun _=>none,fun _=>none⟩
theorem cts112 (F:Nat):CtsOk Tryz.prog (E112 F):=cts_of (l:=[(37,ct37 F),(110,ct110 F)]) (l':=[]) rfl rfl ⟨⟨ok37 F,_,Tryz.func37,rfl,rfl⟩,⟨⟨ok110 F,_,Tryz.func110,rfl,rfl⟩,trivial⟩⟩ trivial
def T112c (F:Nat) (p0:List UInt8) (p1:List UInt8) {β:Type} (k:Zm->Option β):Option β:=
 (bif ((p1.length:Int) != (16:Int)) then (k ((1:Int),([]:List UInt8))) else (Option.bind (T37 F (p0.length:Int)) fun z6=>(bif (z6.2 != (0:Int)) then (k (z6.2,([]:List UInt8))) else (Option.bind (gmake (0:UInt8) z6.1 z6.1) fun x7=>(Option.bind (T110 F ([]:List UInt8) (UInt64.ofInt (p0.length:Int))) fun z8=>(Option.bind (gslb (splice x7 0 z8 (Nat.min z8.length (x7.length))).length ((Nat.min z8.length (x7.length)):Int) ((splice x7 0 z8 (Nat.min z8.length (x7.length))).length:Int)) fun x9=>(Option.bind (gslb (splice (splice x7 0 z8 (Nat.min z8.length (x7.length))) x9.1 p0 (Nat.min p0.length (x9.2 - x9.1))).length (w64 (z6.1 - (16:Int))) ((splice (splice x7 0 z8 (Nat.min z8.length (x7.length))) x9.1 p0 (Nat.min p0.length (x9.2 - x9.1))).length:Int)) fun x10=>(k ((0:Int),(splice (splice (splice x7 0 z8 (Nat.min z8.length (x7.length))) x9.1 p0 (Nat.min p0.length (x9.2 - x9.1))) x10.1 p1 (Nat.min p1.length (x10.2 - x10.1))))))))))))
def T112 (F:Nat) (p0:List UInt8) (p1:List UInt8):=T112c F p0 p1 some
def ct112 (F:Nat):Ct:=mkC 0 [(.ro .u8),(.ro .u8)] [] [(.rw 0),.i] [.row 5 .u8] (fun x y=>T112 F x.1 x.2.1) (fun x y (z:Int×Za)=>(((),z.1,()),(z.2,())))
theorem ok112 (F:Nat):Sound Tryz.prog cfg 112 (ct112 F):=
 mkC_ok (E:=E112 F) (lp:=[]) (code:=bodyOf Tryz.f112) Tryz.func112 rfl Tryz.ntmps112 rfl rfl cok (cts112 F) mixed trivial (by kernel_rfl) (fun x y k=>T112c F x.1 x.2.1 k) (fun _ _ _=>by simp only [T112,T112c,oA,oC,oS,oN,elimS_bind]) (fun _ _=>by kernel_rfl)
def ord113:Nat->List (Tag×Nat)
 | 7=>[(.p,0),(.p,1),(.p,2),(.p,3),(.p,4),(.r,5),(.p,6),(.p,7),(.p,8),(.r,9),(.p,10),(.p,11),(.w,12)]
 | _=>[]
def E113 (F:Nat):Ev:=⟨cfg,35,ctOf [],ord113,ctOf [],fun _=>none,fun _=>none⟩
theorem cts113 (F:Nat):CtsOk Tryz.prog (E113 F):=cts_of (l:=[]) (l':=[]) rfl rfl trivial trivial
def L113_2c (F:Nat) (y15:List UInt8) (y16:List UInt8) (y17:Int) (y18:Int) (y19:List UInt8) {β:Type} (kA:Zm->Option β) (kO:(Za)->Option β):Option β:=
 (bif (decide (y18 < y17)) then (Option.bind (ix y15 y18) fun x23=>(Option.bind (ix y16 y18) fun x24=>(Option.bind (inb y19.length y18) fun x25=>(kA ((w64 (y18 + (1:Int))),(List.set y19 x25 (x23 ^^^ x24))))))) else (kO y19))
def L113_2 (F:Nat) (y15:List UInt8) (y16:List UInt8) (y17:Int) (y18:Int) (y19:List UInt8):=L113_2c F y15 y16 y17 y18 y19 (fun s=>some (Sum.inl s)) (fun z=>some (Sum.inr z))
def lc113_2 (F:Nat):Lc:=mkL [0,1,6,17,18] [(.ro .u8),(.ro .u8),(.rw 0),.i,.i] [.row 5 .u8] [6] [(.rw 0)] [.row 5 .u8] F (fun x y (s:Int×Za)=>L113_2 F x.1 x.2.1 x.2.2.2.1 s.1 s.2) (fun x y=>(x.2.2.2.2.1,y.1)) (fun x y (z:Za)=>(((),()),(z,())))
theorem lo113_2 (F:Nat):LcOk Tryz.prog (E113 F) 0 (lc113_2 F) (cAt (bodyOf Tryz.f113) [1,0,1,1,1]):=
 mkL_ok (lp:=[]) (id:=0) (b:=cAt (bodyOf Tryz.f113) (0 :: 0 :: [1,0,1,1,1])) cok (cts113 F) mixed trivial (by kernel_rfl) (by kernel_rfl) (fun x y s=>(x.1,x.2.1,(),x.2.2.2.1,s.1,())) (fun x y s=>(s.2,())) (fun x y=>rfl) (fun x y=>rfl) (fun x y s kA kO=>L113_2c F x.1 x.2.1 x.2.2.2.1 s.1 s.2 kA kO) (fun _ _ _ _ _=>by simp only [L113_2,L113_2c,oA,oC,oS,oN,elimS_l,elimS_r,elimS_bind]) (fun _ _ _=>by kernel_rfl)
def T113c (F:Nat) (p0:List UInt8) (p1:List UInt8) {β:Type} (k:Zm->Option β):Option β:=
 (bif ((p0.length:Int) != (p1.length:Int)) then (k ((1:Int),([]:List UInt8))) else (Option.bind (gmake (0:UInt8) (p0.length:Int) (p0.length:Int)) fun x14=>(Option.bind (iter (fun s=>L113_2 F p0 p1 (p0.length:Int) s.1 s.2) F ((0:Int),x14)) fun z26=>(k ((0:Int),z26)))))
def T113 (F:Nat) (p0:List UInt8) (p1:List UInt8):=T113c F p0 p1 some
def ct113 (F:Nat):Ct:=mkC 0 [(.ro .u8),(.ro .u8)] [] [(.rw 0),.i] [.row 5 .u8] (fun x y=>T113 F x.1 x.2.1) (fun x y (z:Int×Za)=>(((),z.1,()),(z.2,())))
theorem ok113 (F:Nat):Sound Tryz.prog cfg 113 (ct113 F):=
 mkC_ok (E:=E113 F) (lp:=[([1,0,1,1,1],lc113_2 F)]) (code:=bodyOf Tryz.f113) Tryz.func113 rfl Tryz.ntmps113 rfl rfl cok (cts113 F) mixed ⟨lo113_2 F,trivial⟩ (by kernel_rfl) (fun x y k=>T113c F x.1 x.2.1 k) (fun _ _ _=>by simp only [T113,T113c,oA,oC,oS,oN,elimS_bind]) (fun _ _=>by kernel_rfl)
def E71 (F:Nat):Ev:=⟨cfg,24,ctOf [(112,ct112 F),(113,ct113 F)],fun _=>[],ctOf [],fun _=>none,fun _=>none⟩
theorem cts71 (F:Nat):CtsOk Tryz.prog (E71 F):=cts_of (l:=[(112,ct112 F),(113,ct113 F)]) (l':=[]) rfl rfl ⟨⟨ok112 F,_,Tryz.func112,rfl,rfl⟩,⟨⟨ok113 F,_,Tryz.func113,rfl,rfl⟩,trivial⟩⟩ trivial
def T71c (F:Nat) (p0:List UInt8) (p1:List UInt8) (p2:List UInt8) {β:Type} (k:Zm->Option β):Option β:=
 (Option.bind (T112 F p2 p1) fun z3=>(bif (z3.1 != (0:Int)) then (k (z3.1,([]:List UInt8))) else (Option.bind (T113 F z3.2 p0) fun z4=>(k (z4.1,z4.2)))))
def T71 (F:Nat) (p0:List UInt8) (p1:List UInt8) (p2:List UInt8):=T71c F p0 p1 p2 some
def ct71 (F:Nat):Ct:=mkC 0 [(.ro .u8),(.ro .u8),(.ro .u8)] [] [(.rw 0),.i] [.row 5 .u8] (fun x y=>T71 F x.1 x.2.1 x.2.2.1) (fun x y (z:Int×Za)=>(((),z.1,()),(z.2,())))
theorem ok71 (F:Nat):Sound Tryz.prog cfg 71 (ct71 F):=
 mkC_ok (E:=E71 F) (lp:=[]) (code:=bodyOf Tryz.f71) Tryz.func71 rfl Tryz.ntmps71 rfl rfl cok (cts71 F) mixed trivial (by kernel_rfl) (fun x y k=>T71c F x.1 x.2.1 x.2.2.1 k) (fun _ _ _=>by simp only [T71,T71c,oA,oC,oS,oN,elimS_bind]) (fun _ _=>by kernel_rfl)
def E29 (F:Nat):Ev:=⟨cfg,62,ctOf [(68,ct68 F),(69,ct69 F),(37,ct37 F),(70,ct70 F),(71,ct71 F)],fun _=>[],ctOf [],fun _=>none,fun _=>none⟩
theorem cts29 (F:Nat):CtsOk Tryz.prog (E29 F):=cts_of (l:=[(68,ct68 F),(69,ct69 F),(37,ct37 F),(70,ct70 F),(71,ct71 F)]) (l':=[]) rfl rfl ⟨⟨ok68 F,_,Tryz.func68,rfl,rfl⟩,⟨⟨ok69 F,_,Tryz.func69,rfl,rfl⟩,⟨⟨ok37 F,_,Tryz.func37,rfl,rfl⟩,⟨⟨ok70 F,_,Tryz.func70,rfl,rfl⟩,⟨⟨ok71 F,_,Tryz.func71,rfl,rfl⟩,trivial⟩⟩⟩⟩⟩ trivial
def T29c (F:Nat) (p0:List UInt8) (p1:List UInt8) (p2:List UInt8) (p3:List UInt8) (p4:List UInt8) (p5:Int) (p6:List UInt8) {β:Type} (k:(Za×Int×Int×Int×Za)->Option β):Option β:=
 (Option.bind (T68 F p0 p1 p2 p3 p4 p5 p6) fun z6=>(bif (z6.2 != (0:Int)) then (k (([]:List UInt8),(0:Int),(0:Int),z6.2,([]:List UInt8))) else (Option.bind (T69 F p0 p1 p2 p3 p4 p6) fun z7=>(Option.bind (T37 F (p6.length:Int)) fun z8=>(Option.bind (T70 F p0 p1 p2 p3 p4 z6.1 z8.1) fun z9=>(Option.bind (T71 F z9.2 z7.2 p6) fun z10=>(k (z6.1,p5,(p6.length:Int),(0:Int),z10.2))))))))
def T29 (F:Nat) (p0:List UInt8) (p1:List UInt8) (p2:List UInt8) (p3:List UInt8) (p4:List UInt8) (p5:Int) (p6:List UInt8):=T29c F p0 p1 p2 p3 p4 p5 p6 some
def ct29 (F:Nat):Ct:=mkC 0 [(.pr .str (.pr .str (.pr .str (.pr .str (.pr .str .un))))),.i,(.ro .u8)] [] [(.pr .str (.pr .i (.pr .i .un))),(.rw 0),.i] [.row 5 .u8] (fun x y=>T29 F x.1.1 x.1.2.1 x.1.2.2.1 x.1.2.2.2.1 x.1.2.2.2.2.1 x.2.1 x.2.2.1) (fun x y (z:Za×Int×Int×Int×Za)=>(((z.1,z.2.1,z.2.2.1,()),(),z.2.2.2.1,()),(z.2.2.2.2,())))
theorem ok29 (F:Nat):Sound Tryz.prog cfg 29 (ct29 F):=
 mkC_ok (E:=E29 F) (lp:=[]) (code:=bodyOf Tryz.f29) Tryz.func29 rfl Tryz.ntmps29 rfl rfl cok (cts29 F) mixed trivial (by kernel_rfl) (fun x y k=>T29c F x.1.1 x.1.2.1 x.1.2.2.1 x.1.2.2.2.1 x.1.2.2.2.2.1 x.2.1 x.2.2.1 k) (fun _ _ _=>by simp only [T29,T29c,oA,oC,oS,oN,elimS_bind]) (fun _ _=>by kernel_rfl)
def E30 (F:Nat):Ev:=⟨cfg,37,ctOf [],fun _=>[],ctOf [],fun _=>none,fun _=>none⟩
theorem cts30 (F:Nat):CtsOk Tryz.prog (E30 F):=cts_of (l:=[]) (l':=[]) rfl rfl trivial trivial
def L30_2c (F:Nat) (y39:List Zb) (y40:UInt32) (y41:Int) (y42:Int) (y43:List Zb) {β:Type} (kA:(Int×(List Zb))->Option β) (kO:((List Zb))->Option β):Option β:=
 (bif (decide (y42 < y41)) then (bif ((y40 % (UInt32.ofNat 2)) == (UInt32.ofNat 1)) then (Option.bind (gnn (w64 ((1:Int) + (w64 ((w64 ((y39.length:Int) - (1:Int))) - y42))))) fun x50=>(bif (((shr32 y40 x50) &&& (UInt32.ofNat 1)) == (UInt32.ofNat 1)) then (Option.bind (ix y39 (w64 ((w64 ((y39.length:Int) - (1:Int))) - y42))) fun x51=>(Option.bind (gapp y43 ([((x51.1.1,x51.1.2.1,()),x51.2.1,x51.2.2.1,())]:List Zb)) fun x52=>(kA ((w64 (y42 + (1:Int))),x52)))) else (kA ((w64 (y42 + (1:Int))),y43)))) else (Option.bind (gnn (w64 ((1:Int) + y42))) fun x53=>(bif (((shr32 y40 x53) &&& (UInt32.ofNat 1)) == (UInt32.ofNat 1)) then (Option.bind (ix y39 y42) fun x54=>(Option.bind (gapp y43 ([((x54.1.1,x54.1.2.1,()),x54.2.1,x54.2.2.1,())]:List Zb)) fun x55=>(kA ((w64 (y42 + (1:Int))),x55)))) else (kA ((w64 (y42 + (1:Int))),y43))))) else (kO y43))
def L30_2 (F:Nat) (y39:List Zb) (y40:UInt32) (y41:Int) (y42:Int) (y43:List Zb):=L30_2c F y39 y40 y41 y42 y43 (fun s=>some (Sum.inl s)) (fun z=>some (Sum.inr z))
def lc30_2 (F:Nat):Lc:=mkL [0,1,5,9,10] [(.ro Qc),.u32,(.rw 0),.i,.i] [.row 42 Qc] [5] [(.rw 0)] [.row 42 Qc] F (fun x y (s:Int×(List Zb))=>L30_2 F x.1 x.2.1 x.2.2.2.1 s.1 s.2) (fun x y=>(x.2.2.2.2.1,y.1)) (fun x y (z:(List Zb))=>(((),()),(z,())))
theorem lo30_2 (F:Nat):LcOk Tryz.prog (E30 F) 0 (lc30_2 F) (cAt (bodyOf Tryz.f30) [1,0,1,1]):=
 mkL_ok (lp:=[]) (id:=0) (b:=cAt (bodyOf Tryz.f30) (0 :: 0 :: [1,0,1,1])) cok (cts30 F) mixed trivial (by kernel_rfl) (by kernel_rfl) (fun x y s=>(x.1,x.2.1,(),x.2.2.2.1,s.1,())) (fun x y s=>(s.2,())) (fun x y=>rfl) (fun x y=>rfl) (fun x y s kA kO=>L30_2c F x.1 x.2.1 x.2.2.2.1 s.1 s.2 kA kO) (fun _ _ _ _ _=>by simp only [L30_2,L30_2c,oA,oC,oS,oN,elimS_l,elimS_r,elimS_bind]) (fun _ _ _=>by kernel_rfl)
def T30c (F:Nat) (p0:List Zb) (p1:UInt32) {β:Type} (k:((List Zb))->Option β):Option β:=
 (Option.bind (iter (fun s=>L30_2 F p0 p1 (p0.length:Int) s.1 s.2) F ((0:Int),([]:List Zb))) fun z56=>(k z56))
def T30 (F:Nat) (p0:List Zb) (p1:UInt32):=T30c F p0 p1 some
def ct30 (F:Nat):Ct:=mkC 0 [(.ro Qc),.u32] [] [(.rw 0)] [.row 42 Qc] (fun x y=>T30 F x.1 x.2.1) (fun x y (z:(List Zb))=>(((),()),(z,())))
theorem ok30 (F:Nat):Sound Tryz.prog cfg 30 (ct30 F):=
 mkC_ok (E:=E30 F) (lp:=[([1,0,1,1],lc30_2 F)]) (code:=bodyOf Tryz.f30) Tryz.func30 rfl Tryz.ntmps30 rfl rfl cok (cts30 F) mixed ⟨lo30_2 F,trivial⟩ (by kernel_rfl) (fun x y k=>T30c F x.1 x.2.1 k) (fun _ _ _=>by simp only [T30,T30c,oA,oC,oS,oN,elimS_bind]) (fun _ _=>by kernel_rfl)
def E54 (F:Nat):Ev:=⟨cfg,8,ctOf [],fun _=>[],ctOf [],fun _=>none,fun _=>none⟩
theorem cts54 (F:Nat):CtsOk Tryz.prog (E54 F):=cts_of (l:=[]) (l':=[]) rfl rfl trivial trivial
def T54c (F:Nat) (p0:List UInt8) (p3:List UInt8) {β:Type} (k:Bool->Option β):Option β:=
 (k (p0 == p3))
def T54 (F:Nat) (p0:List UInt8) (p3:List UInt8):=T54c F p0 p3 some
def ct54 (F:Nat):Ct:=mkC 0 [(.pr .str (.pr .i (.pr .i .un))),(.re .s)] [] [.bo] [] (fun x y=>T54 F x.1.1 x.2.1) (fun x y (z:Bool)=>((z,()),()))
theorem ok54 (F:Nat):Sound Tryz.prog cfg 54 (ct54 F):=
 mkC_ok (E:=E54 F) (lp:=[]) (code:=bodyOf Tryz.f54) Tryz.func54 rfl Tryz.ntmps54 rfl rfl cok (cts54 F) mixed trivial (by kernel_rfl) (fun x y k=>T54c F x.1.1 x.2.1 k) (fun _ _ _=>by simp only [T54,T54c,oA,oC,oS,oN,elimS_bind]) (fun _ _=>by kernel_rfl)
def E53 (F:Nat):Ev:=⟨cfg,19,ctOf [(54,ct54 F)],fun _=>[],ctOf [],fun _=>none,fun _=>none⟩
theorem cts53 (F:Nat):CtsOk Tryz.prog (E53 F):=cts_of (l:=[(54,ct54 F)]) (l':=[]) rfl rfl ⟨⟨ok54 F,_,Tryz.func54,rfl,rfl⟩,trivial⟩ trivial
def L53_2c (F:Nat) (y10:List Zc) (y11:Int) (y13:List UInt8) (y12:Int) {β:Type} (kA:Int->Option β) (kO:Unit->Option β) (kR:Int->Option β):Option β:=
 (bif (decide (y12 < y11)) then (Option.bind (ix y10 y12) fun x16=>(Option.bind (T54 F x16.1 y13) fun z17=>(bif z17 then (kR y12) else (kA (w64 (y12 + (1:Int))))))) else (kO ()))
def L53_2 (F:Nat) (y10:List Zc) (y11:Int) (y13:List UInt8) (y12:Int):Option ((Int) ⊕ ((Unit) ⊕ (Int))):=L53_2c F y10 y11 y13 y12 (fun s=>some (.inl s)) (fun z=>some (.inr (.inl z))) (fun z=>some (.inr (.inr z)))
theorem L53_2n (F:Nat) (y10:List Zc) (y11:Int) (y13:List UInt8) (y12:Int) {β:Type} (kA:Int->Option β) (kO:Unit->Option β) (kR:Int->Option β):L53_2c F y10 y11 y13 y12 kA kO kR=(L53_2 F y10 y11 y13 y12).bind (elimS kA (elimS kO kR)):=by
 simp only [L53_2,L53_2c,oA,oC,oS,oN,elimS_l,elimS_r,elimS_bind]
def lc53_2 (F:Nat):Lc:=mkR [0,1,7,8] [(.ro Qb),(.fn 54 .un (.pr (.pt 0 []) .un)),.i,.i] [.blk 9 .str] [] [] [.blk 9 .str] [4] [.i] [.blk 9 .str] F (fun x y (s:Int)=>L53_2 F x.1 x.2.2.1 y.1 s) (fun x y=>x.2.2.2.1) (fun x y (z:Unit)=>((),(y.1,()))) (fun x y (z:Int)=>((z,()),(y.1,())))
theorem lo53_2 (F:Nat):LcOk Tryz.prog (E53 F) 1 (lc53_2 F) (cAt (bodyOf Tryz.f53) [1,0,1]):=
 mkR_ok (lp:=[]) (id:=0) (b:=cAt (bodyOf Tryz.f53) (0 :: 0 :: [1,0,1])) cok (cts53 F) mixed trivial (by kernel_rfl) (by kernel_rfl) (fun x y s=>(x.1,((),((),())),x.2.2.1,s,())) (fun x y s=>(y.1,())) (fun x y=>rfl) (fun x y=>rfl) (fun x y s kA kO kR=>L53_2c F x.1 x.2.2.1 y.1 s kA kO kR) (fun x y s kA kO kR=>L53_2n F x.1 x.2.2.1 y.1 s kA kO kR) (fun _ _ _=>by kernel_rfl)
def T53c (F:Nat) (p0:List Zc) (p1:List UInt8) {β:Type} (k:Int->Option β):Option β:=
 (Option.bind (iter (fun s=>L53_2 F p0 (p0.length:Int) p1 s) F (0:Int)) fun z18=>elimS (fun z18=>(k (-1:Int))) (fun z18=>(k z18)) z18)
def T53 (F:Nat) (p0:List Zc) (p1:List UInt8):=T53c F p0 p1 some
def ct53 (F:Nat):Ct:=mkC 1 [(.ro Qb),(.fn 54 .un (.pr (.pt 0 []) .un))] [.blk 9 .str] [.i] [.blk 9 .str] (fun x y=>T53 F x.1 y.1) (fun x y (z:Int)=>((z,()),(y.1,())))
theorem ok53 (F:Nat):Sound Tryz.prog cfg 53 (ct53 F):=
 mkC_ok (E:=E53 F) (lp:=[([1,0,1],lc53_2 F)]) (code:=bodyOf Tryz.f53) Tryz.func53 rfl Tryz.ntmps53 rfl rfl cok (cts53 F) mixed ⟨lo53_2 F,trivial⟩ (by kernel_rfl) (fun x y k=>T53c F x.1 y.1 k) (fun _ _ _=>by simp only [T53,T53c,oA,oC,oS,oN,elimS_bind]) (fun _ _=>by kernel_rfl)
def E22 (F:Nat):Ev:=⟨cfg,9,ctOf [(53,ct53 F)],fun _=>[],ctOf [],fun _=>none,fun _=>none⟩
theorem cts22 (F:Nat):CtsOk Tryz.prog (E22 F):=cts_of (l:=[(53,ct53 F)]) (l':=[]) rfl rfl ⟨⟨ok53 F,_,Tryz.func53,rfl,rfl⟩,trivial⟩ trivial
def T22c (F:Nat) (p5:List Zc) (p6:List UInt8) {β:Type} (k:Int->Option β):Option β:=
 (Option.bind (T53 F p5 p6) fun z2=>(k z2))
def T22 (F:Nat) (p5:List Zc) (p6:List UInt8):=T22c F p5 p6 some
def ct22 (F:Nat):Ct:=mkC 0 [(.pr .str (.pr .i (.pr .i (.pr .i (.pr .i (.pr (.ro Qb) .un)))))),.str] [] [.i] [] (fun x y=>T22 F x.1.2.2.2.2.2.1 x.2.1) (fun x y (z:Int)=>((z,()),()))
theorem ok22 (F:Nat):Sound Tryz.prog cfg 22 (ct22 F):=
 mkC_ok (E:=E22 F) (lp:=[]) (code:=bodyOf Tryz.f22) Tryz.func22 rfl Tryz.ntmps22 rfl rfl cok (cts22 F) mixed trivial (by kernel_rfl) (fun x y k=>T22c F x.1.2.2.2.2.2.1 x.2.1 k) (fun _ _ _=>by simp only [T22,T22c,oA,oC,oS,oN,elimS_bind]) (fun _ _=>by kernel_rfl)
def E62 (F:Nat):Ev:=⟨cfg,8,ctOf [],fun _=>[],ctOf [],fun _=>none,fun _=>none⟩
theorem cts62 (F:Nat):CtsOk Tryz.prog (E62 F):=cts_of (l:=[]) (l':=[]) rfl rfl trivial trivial
def T62c (F:Nat) (p0:List UInt8) {β:Type} (k:(Int×Int×Int×Za)->Option β):Option β:=
 (Option.bind (gapp ([]:List UInt8) p0) fun x2=>(k ((0:Int),(0:Int),(0:Int),x2)))
def T62 (F:Nat) (p0:List UInt8):=T62c F p0 some
def ct62 (F:Nat):Ct:=mkC 0 [(.ro .u8)] [] [(.pt 0 [])] [.blk 152 Qe,.row 5 .u8] (fun x y=>T62 F x.1) (fun x y (z:Int×Int×Int×Za)=>(((),()),(((),z.1,z.2.1,z.2.2.1,()),z.2.2.2,())))
theorem ok62 (F:Nat):Sound Tryz.prog cfg 62 (ct62 F):=
 mkC_ok (E:=E62 F) (lp:=[]) (code:=bodyOf Tryz.f62) Tryz.func62 rfl Tryz.ntmps62 rfl rfl cok (cts62 F) mixed trivial (by kernel_rfl) (fun x y k=>T62c F x.1 k) (fun _ _ _=>by simp only [T62,T62c,oA,oC,oS,oN,elimS_bind]) (fun _ _=>by kernel_rfl)
def ord105:Nat->List (Tag×Nat)
 | 4=>[(.p,0),(.p,1),(.p,2),(.r,3),(.p,4),(.p,5),(.p,6),(.r,7),(.p,8),(.p,9)]
 | 6=>[(.p,0),(.p,1),(.p,2),(.r,3),(.p,4),(.p,5),(.p,6),(.r,7),(.p,8),(.r,9),(.p,10)]
 | _=>[]
def E105 (F:Nat):Ev:=⟨cfg,62,ctOf [],ord105,ctOf [],fun _=>none,fun _=>none⟩
theorem cts105 (F:Nat):CtsOk Tryz.prog (E105 F):=cts_of (l:=[]) (l':=[]) rfl rfl trivial trivial
def L105_2c (F:Nat) (y19:List UInt8) (y14:UInt64) (y15:Int) (y16:Int) {β:Type} (kA:Zn->Option β) (kO:Int->Option β) (kR:Zn->Option β):Option β:=
 (bif (decide (y15 < (10:Int))) then (bif (y16 == (y19.length:Int)) then (kR ((UInt64.ofNat 0),(3:Int),y16)) else (Option.bind (inb y19.length y16) fun x23=>(Option.bind (y19[x23]?) fun x24=>(Option.bind (gnn (w64 ((7:Int) * y15))) fun x25=>(bif (decide ((UInt8.ofNat 128)≤x24)) then (kA ((y14 ||| (shl64 ((x24 &&& (UInt8.ofNat 127)).toUInt64) x25)),(w64 (y15 + (1:Int))),(w64 (y16 + (1:Int))))) else (bif (decide ((0:Int) < y15)) then (bif (x24 == (UInt8.ofNat 0)) then (kR ((UInt64.ofNat 0),(3:Int),(w64 (y16 + (1:Int))))) else (bif (y15 == (9:Int)) then (bif (decide ((UInt8.ofNat 1) < x24)) then (kR ((UInt64.ofNat 0),(3:Int),(w64 (y16 + (1:Int))))) else (kR ((y14 ||| (shl64 ((x24 &&& (UInt8.ofNat 127)).toUInt64) x25)),(0:Int),(w64 (y16 + (1:Int)))))) else (kR ((y14 ||| (shl64 ((x24 &&& (UInt8.ofNat 127)).toUInt64) x25)),(0:Int),(w64 (y16 + (1:Int))))))) else (bif (y15 == (9:Int)) then (bif (decide ((UInt8.ofNat 1) < x24)) then (kR ((UInt64.ofNat 0),(3:Int),(w64 (y16 + (1:Int))))) else (kR ((y14 ||| (shl64 ((x24 &&& (UInt8.ofNat 127)).toUInt64) x25)),(0:Int),(w64 (y16 + (1:Int)))))) else (kR ((y14 ||| (shl64 ((x24 &&& (UInt8.ofNat 127)).toUInt64) x25)),(0:Int),(w64 (y16 + (1:Int)))))))))))) else (kO y16))
def L105_2 (F:Nat) (y19:List UInt8) (y14:UInt64) (y15:Int) (y16:Int):Option (Zn ⊕ ((Int) ⊕ Zn)):=L105_2c F y19 y14 y15 y16 (fun s=>some (.inl s)) (fun z=>some (.inr (.inl z))) (fun z=>some (.inr (.inr z)))
theorem L105_2n (F:Nat) (y19:List UInt8) (y14:UInt64) (y15:Int) (y16:Int) {β:Type} (kA:Zn->Option β) (kO:Int->Option β) (kR:Zn->Option β):L105_2c F y19 y14 y15 y16 kA kO kR=(L105_2 F y19 y14 y15 y16).bind (elimS kA (elimS kO kR)):=by
 simp only [L105_2,L105_2c,oA,oC,oS,oN,elimS_l,elimS_r,elimS_bind]
def lc105_2 (F:Nat):Lc:=mkR [0,2,6] [(.pt 0 []),.u64,.i] [.blk 152 Qe,.row 5 .u8] [] [] [.blk 152 Qe,.row 5 .u8] [2,3] [.u64,.i] [.blk 152 Qe,.row 5 .u8] F (fun x y (s:UInt64×Int×Int)=>L105_2 F y.2.1 s.1 s.2.1 s.2.2) (fun x y=>(x.2.1,x.2.2.1,y.1.2.1)) (fun x y (z:Int)=>((),(((),z,y.1.2.2.1,y.1.2.2.2.1,()),y.2.1,()))) (fun x y (z:UInt64×Int×Int)=>((z.1,z.2.1,()),(((),z.2.2,y.1.2.2.1,y.1.2.2.2.1,()),y.2.1,())))
theorem lo105_2 (F:Nat):LcOk Tryz.prog (E105 F) 2 (lc105_2 F) (cAt (bodyOf Tryz.f105) [1,0,1]):=
 mkR_ok (lp:=[]) (id:=0) (b:=cAt (bodyOf Tryz.f105) (0 :: 0 :: [1,0,1])) cok (cts105 F) mixed trivial (by kernel_rfl) (by kernel_rfl) (fun x y s=>((),s.1,s.2.1,())) (fun x y s=>(((),s.2.2,y.1.2.2.1,y.1.2.2.2.1,()),y.2.1,())) (fun x y=>rfl) (fun x y=>rfl) (fun x y s kA kO kR=>L105_2c F y.2.1 s.1 s.2.1 s.2.2 kA kO kR) (fun x y s kA kO kR=>L105_2n F y.2.1 s.1 s.2.1 s.2.2 kA kO kR) (fun _ _ _=>by kernel_rfl)
def T105c (F:Nat) (p0:Int) (p3:List UInt8) {β:Type} (k:Zn->Option β):Option β:=
 (Option.bind (iter (fun s=>L105_2 F p3 s.1 s.2.1 s.2.2) F ((UInt64.ofNat 0),(0:Int),p0)) fun z26=>elimS (fun z26=>(k ((UInt64.ofNat 0),(3:Int),z26))) (fun z26=>(k (z26.1,z26.2.1,z26.2.2))) z26)
def T105 (F:Nat) (p0:Int) (p3:List UInt8):=T105c F p0 p3 some
def ct105 (F:Nat):Ct:=mkC 2 [(.pt 0 [])] [.blk 152 Qe,.row 5 .u8] [.u64,.i] [.blk 152 Qe,.row 5 .u8] (fun x y=>T105 F y.1.2.1 y.2.1) (fun x y (z:UInt64×Int×Int)=>((z.1,z.2.1,()),(((),z.2.2,y.1.2.2.1,y.1.2.2.2.1,()),y.2.1,())))
theorem ok105 (F:Nat):Sound Tryz.prog cfg 105 (ct105 F):=
 mkC_ok (E:=E105 F) (lp:=[([1,0,1],lc105_2 F)]) (code:=bodyOf Tryz.f105) Tryz.func105 rfl Tryz.ntmps105 rfl rfl cok (cts105 F) mixed ⟨lo105_2 F,trivial⟩ (by kernel_rfl) (fun x y k=>T105c F y.1.2.1 y.2.1 k) (fun _ _ _=>by simp only [T105,T105c,oA,oC,oS,oN,elimS_bind]) (fun _ _=>by kernel_rfl)
def E108 (F:Nat):Ev:=⟨cfg,23,ctOf [(105,ct105 F)],fun _=>[],ctOf [],fun _=>none,fun _=>none⟩
theorem cts108 (F:Nat):CtsOk Tryz.prog (E108 F):=cts_of (l:=[(105,ct105 F)]) (l':=[]) rfl rfl ⟨⟨ok105 F,_,Tryz.func105,rfl,rfl⟩,trivial⟩ trivial
def T108c (F:Nat) (p0:Int) (p1:Int) (p4:List UInt8) {β:Type} (k:(Int×Int×Int)->Option β):Option β:=
 (Option.bind (T105 F p1 p4) fun z2=>(bif (z2.2.1 != (0:Int)) then (k ((0:Int),z2.2.1,z2.2.2)) else (bif (decide ((UInt64.ofInt (if p0 < (0:Int) then (0:Int) else p0)) < z2.1)) then (k ((0:Int),(2:Int),z2.2.2)) else (k ((w64 (z2.1.toNat:Int)),(0:Int),z2.2.2)))))
def T108 (F:Nat) (p0:Int) (p1:Int) (p4:List UInt8):=T108c F p0 p1 p4 some
def ct108 (F:Nat):Ct:=mkC 2 [(.pt 0 []),.i] [.blk 152 Qe,.row 5 .u8] [.i,.i] [.blk 152 Qe,.row 5 .u8] (fun x y=>T108 F x.2.1 y.1.2.1 y.2.1) (fun x y (z:Int×Int×Int)=>((z.1,z.2.1,()),(((),z.2.2,y.1.2.2.1,y.1.2.2.2.1,()),y.2.1,())))
theorem ok108 (F:Nat):Sound Tryz.prog cfg 108 (ct108 F):=
 mkC_ok (E:=E108 F) (lp:=[]) (code:=bodyOf Tryz.f108) Tryz.func108 rfl Tryz.ntmps108 rfl rfl cok (cts108 F) mixed trivial (by kernel_rfl) (fun x y k=>T108c F x.2.1 y.1.2.1 y.2.1 k) (fun _ _ _=>by simp only [T108,T108c,oA,oC,oS,oN,elimS_bind]) (fun _ _=>by kernel_rfl)
def ord103:Nat->List (Tag×Nat)
 | 1=>[(.p,0),(.p,1),(.p,2),(.p,3),(.r,4),(.p,5),(.p,6),(.p,7),(.p,8),(.r,9),(.p,10),(.p,11)]
 | 3=>[(.p,0),(.p,1),(.p,2),(.r,3),(.p,4),(.p,5),(.p,6),(.r,7),(.p,8),(.p,9),(.p,10),(.r,11),(.p,12),(.p,13),(.p,14),(.p,15)]
 | _=>[]
def E103 (F:Nat):Ev:=⟨cfg,43,ctOf [],ord103,ctOf [],fun _=>none,fun _=>none⟩
theorem cts103 (F:Nat):CtsOk Tryz.prog (E103 F):=cts_of (l:=[]) (l':=[]) rfl rfl trivial trivial
def T103c (F:Nat) (p0:Int) (p1:Int) (p4:List UInt8) {β:Type} (k:((Nat×Nat)×Int×Int)->Option β):Option β:=
 (bif (decide ((w64 ((p4.length:Int) - p1)) < p0)) then (k ((0,0),(3:Int),p1)) else (Option.bind (gslb p4.length p1 (w64 (p1 + p0))) fun x2=>(k ((x2.1,x2.2),(0:Int),(w64 (p1 + p0))))))
def T103 (F:Nat) (p0:Int) (p1:Int) (p4:List UInt8):=T103c F p0 p1 p4 some
def ct103 (F:Nat):Ct:=mkC 2 [(.pt 0 []),.i] [.blk 152 Qe,.row 5 .u8] [(.rp 1),.i] [.blk 152 Qe,.row 5 .u8] (fun x y=>T103 F x.2.1 y.1.2.1 y.2.1) (fun x y (z:(Nat×Nat)×Int×Int)=>((z.1,z.2.1,()),(((),z.2.2,y.1.2.2.1,y.1.2.2.2.1,()),y.2.1,())))
theorem ok103 (F:Nat):Sound Tryz.prog cfg 103 (ct103 F):=
 mkC_ok (E:=E103 F) (lp:=[]) (code:=bodyOf Tryz.f103) Tryz.func103 rfl Tryz.ntmps103 rfl rfl cok (cts103 F) mixed trivial (by kernel_rfl) (fun x y k=>T103c F x.2.1 y.1.2.1 y.2.1 k) (fun _ _ _=>by simp only [T103,T103c,oA,oC,oS,oN,elimS_bind]) (fun _ _=>by kernel_rfl)
def E166 (F:Nat):Ev:=⟨cfg,22,ctOf [(108,ct108 F),(103,ct103 F)],fun _=>[],ctOf [],fun _=>none,fun _=>none⟩
theorem cts166 (F:Nat):CtsOk Tryz.prog (E166 F):=cts_of (l:=[(108,ct108 F),(103,ct103 F)]) (l':=[]) rfl rfl ⟨⟨ok108 F,_,Tryz.func108,rfl,rfl⟩,⟨⟨ok103 F,_,Tryz.func103,rfl,rfl⟩,trivial⟩⟩ trivial
def T166c (F:Nat) (p0:Int) (p1:Int) (p4:List UInt8) {β:Type} (k:((Nat×Nat)×Int×Int)->Option β):Option β:=
 (Option.bind (T108 F p0 p1 p4) fun z3=>(bif (z3.2.1 != (0:Int)) then (k ((0,0),z3.2.1,z3.2.2)) else (Option.bind (T103 F z3.1 z3.2.2 p4) fun z4=>(k ((z4.1.1,z4.1.2),z4.2.1,z4.2.2)))))
def T166 (F:Nat) (p0:Int) (p1:Int) (p4:List UInt8):=T166c F p0 p1 p4 some
def ct166 (F:Nat):Ct:=mkC 2 [(.pt 0 []),.i] [.blk 152 Qe,.row 5 .u8] [(.rp 1),.i] [.blk 152 Qe,.row 5 .u8] (fun x y=>T166 F x.2.1 y.1.2.1 y.2.1) (fun x y (z:(Nat×Nat)×Int×Int)=>((z.1,z.2.1,()),(((),z.2.2,y.1.2.2.1,y.1.2.2.2.1,()),y.2.1,())))
theorem ok166 (F:Nat):Sound Tryz.prog cfg 166 (ct166 F):=
 mkC_ok (E:=E166 F) (lp:=[]) (code:=bodyOf Tryz.f166) Tryz.func166 rfl Tryz.ntmps166 rfl rfl cok (cts166 F) mixed trivial (by kernel_rfl) (fun x y k=>T166c F x.2.1 y.1.2.1 y.2.1 k) (fun _ _ _=>by simp only [T166,T166c,oA,oC,oS,oN,elimS_bind]) (fun _ _=>by kernel_rfl)
def E165 (F:Nat):Ev:=⟨cfg,15,ctOf [(166,ct166 F)],fun _=>[],ctOf [],fun _=>none,fun _=>none⟩
theorem cts165 (F:Nat):CtsOk Tryz.prog (E165 F):=cts_of (l:=[(166,ct166 F)]) (l':=[]) rfl rfl ⟨⟨ok166 F,_,Tryz.func166,rfl,rfl⟩,trivial⟩ trivial
def T165c (F:Nat) (p0:Int) (p1:Int) (p4:List UInt8) {β:Type} (k:(Int×Int×Za)->Option β):Option β:=
 (Option.bind (T166 F p0 p1 p4) fun z3=>(Option.bind (gapp ([]:List UInt8) ((p4.drop z3.1.1).take (z3.1.2 - z3.1.1))) fun x4=>(k (z3.2.1,z3.2.2,x4))))
def T165 (F:Nat) (p0:Int) (p1:Int) (p4:List UInt8):=T165c F p0 p1 p4 some
def ct165 (F:Nat):Ct:=mkC 3 [(.pt 0 []),(.re .i)] [.blk 109 (.pt 1 []),.blk 152 (.pr (.rw 2) (.pr .i (.pr .i (.pr .i .un)))),.row 5 .u8] [(.rw 3),.i] [.blk 109 (.pt 1 []),.blk 152 (.pr (.rw 2) (.pr .i (.pr .i (.pr .i .un)))),.row 5 .u8,.row 5 .u8] (fun x y=>T165 F x.2.1 y.2.1.2.1 y.2.2.1) (fun x y (z:Int×Int×Za)=>(((),z.1,()),((),((),z.2.1,y.2.1.2.2.1,y.2.1.2.2.2.1,()),y.2.2.1,z.2.2,())))
theorem ok165 (F:Nat):Sound Tryz.prog cfg 165 (ct165 F):=
 mkC_ok (E:=E165 F) (lp:=[]) (code:=bodyOf Tryz.f165) Tryz.func165 rfl Tryz.ntmps165 rfl rfl cok (cts165 F) mixed trivial (by kernel_rfl) (fun x y k=>T165c F x.2.1 y.2.1.2.1 y.2.2.1 k) (fun _ _ _=>by simp only [T165,T165c,oA,oC,oS,oN,elimS_bind]) (fun _ _=>by kernel_rfl)
def E173 (F:Nat):Ev:=⟨cfg,18,ctOf [],fun _=>[],ctOf [],fun _=>none,fun _=>none⟩
theorem cts173 (F:Nat):CtsOk Tryz.prog (E173 F):=cts_of (l:=[]) (l':=[]) rfl rfl trivial trivial
def T173c (F:Nat) (p0:Int) (p1:Int) (p3:Int) (p4:List UInt8) {β:Type} (k:((Nat×Nat)×Int)->Option β):Option β:=
 (bif (p3 != (0:Int)) then (k ((0,0),p0)) else (k ((0,p4.length),p1)))
def T173 (F:Nat) (p0:Int) (p1:Int) (p3:Int) (p4:List UInt8):=T173c F p0 p1 p3 p4 some
def ct173 (F:Nat):Ct:=mkC 5 [(.re .i),(.pt 0 []),(.pt 1 [])] [.blk 109 (.pt 2 []),.blk 39 (.rw 3),.blk 152 (.pr (.rw 4) (.pr .i (.pr .i (.pr .i .un)))),.row 5 .u8,.row 5 .u8] [] [.blk 109 (.pt 2 []),.blk 39 (.rp 3),.blk 152 (.pr (.rw 4) (.pr .i (.pr .i (.pr .i .un)))),.row 5 .u8,.row 5 .u8] (fun x y=>T173 F x.1 y.2.2.1.2.1 y.2.2.1.2.2.2.1 y.2.2.2.1) (fun x y (z:(Nat×Nat)×Int)=>((),((),z.1,((),z.2,x.1,y.2.2.1.2.2.2.1,()),y.2.2.2.1,y.2.2.2.2.1,())))
theorem okd173 (F:Nat):SoundK Tryz.prog cfg true 173 (ct173 F):=
 mkC_okK (E:=E173 F) true (fun _ _=>rfl) (lp:=[]) (code:=bodyOf Tryz.f173) Tryz.func173 rfl Tryz.ntmps173 rfl rfl cok (cts173 F) mixed trivial (by kernel_rfl) (fun x y k=>T173c F x.1 y.2.2.1.2.1 y.2.2.1.2.2.2.1 y.2.2.2.1 k) (fun _ _ _=>by simp only [T173,T173c,oA,oC,oS,oN,elimS_bind]) (fun _ _=>by kernel_rfl)
def ord164:Nat->List (Tag×Nat)
 | 5=>[(.c,0),(.p,1),(.w,2),(.p,3),(.p,4),(.p,5),(.w,6),(.p,7),(.p,8),(.b,9)]
 | _=>[]
def E164 (F:Nat):Ev:=⟨cfg,26,ctOf [(165,ct165 F)],ord164,ctOf [(173,ct173 F)],fun _=>none,fun _=>none⟩
theorem cts164 (F:Nat):CtsOk Tryz.prog (E164 F):=cts_of (l:=[(165,ct165 F)]) (l':=[(173,ct173 F)]) rfl rfl ⟨⟨ok165 F,_,Tryz.func165,rfl,rfl⟩,trivial⟩ ⟨⟨okd173 F,_,Tryz.func173,rfl,rfl⟩,trivial⟩
def T164c (F:Nat) (p0:Int) (p1:Int) (p2:Int) (p3:Int) (p4:List UInt8) {β:Type} (k:(Za×Int×Int×Int)->Option β):Option β:=
 (bif (p2 != (0:Int)) then (k (([]:List UInt8),p0,p1,p2)) else (Option.bind (T165 F p3 p0 p4) fun z3=>(Option.bind (T173 F p0 z3.2.1 z3.1 z3.2.2) fun z4=>(k (((z3.2.2.drop z4.1.1).take (z4.1.2 - z4.1.1)),z4.2,p0,z3.1)))))
def T164 (F:Nat) (p0:Int) (p1:Int) (p2:Int) (p3:Int) (p4:List UInt8):=T164c F p0 p1 p2 p3 p4 some
def ct164 (F:Nat):Ct:=mkC 4 [(.pt 0 []),(.fn 165 .un (.pr (.pt 1 []) (.pr (.pt 2 []) .un)))] [.blk 152 (.pr (.rw 3) (.pr .i (.pr .i (.pr .i .un)))),.blk 109 (.pt 0 []),.blk 3 .i,.row 5 .u8] [(.ro .u8)] [.blk 152 (.pr (.rw 3) (.pr .i (.pr .i (.pr .i .un)))),.blk 109 (.pt 0 []),.blk 3 .i,.row 5 .u8] (fun x y=>T164 F y.1.2.1 y.1.2.2.1 y.1.2.2.2.1 y.2.2.1 y.2.2.2.1) (fun x y (z:Za×Int×Int×Int)=>((z.1,()),(((),z.2.1,z.2.2.1,z.2.2.2,()),(),y.2.2.1,y.2.2.2.1,())))
theorem ok164 (F:Nat):Sound Tryz.prog cfg 164 (ct164 F):=
 mkC_ok (E:=E164 F) (lp:=[]) (code:=bodyOf Tryz.f164) Tryz.func164 rfl Tryz.ntmps164 rfl rfl cok (cts164 F) mixed trivial (by kernel_rfl) (fun x y k=>T164c F y.1.2.1 y.1.2.2.1 y.1.2.2.2.1 y.2.2.1 y.2.2.2.1 k) (fun _ _ _=>by simp only [T164,T164c,oA,oC,oS,oN,elimS_bind]) (fun _ _=>by kernel_rfl)
def E147 (F:Nat):Ev:=⟨cfg,8,ctOf [(164,ct164 F)],fun _=>[],ctOf [],fun _=>none,fun _=>none⟩
theorem cts147 (F:Nat):CtsOk Tryz.prog (E147 F):=cts_of (l:=[(164,ct164 F)]) (l':=[]) rfl rfl ⟨⟨ok164 F,_,Tryz.func164,rfl,rfl⟩,trivial⟩ trivial
def T147c (F:Nat) (p0:Int) (p1:Int) (p2:Int) (p3:Int) (p4:List UInt8) {β:Type} (k:(Za×Int×Int×Int)->Option β):Option β:=
 (Option.bind (T164 F p1 p2 p3 p0 p4) fun z2=>(k (z2.1,z2.2.1,z2.2.2.1,z2.2.2.2)))
def T147 (F:Nat) (p0:Int) (p1:Int) (p2:Int) (p3:Int) (p4:List UInt8):=T147c F p0 p1 p2 p3 p4 some
def ct147 (F:Nat):Ct:=mkC 2 [(.pt 0 []),.i] [.blk 152 Qe,.row 5 .u8] [(.ro .u8)] [.blk 152 Qe,.row 5 .u8] (fun x y=>T147 F x.2.1 y.1.2.1 y.1.2.2.1 y.1.2.2.2.1 y.2.1) (fun x y (z:Za×Int×Int×Int)=>((z.1,()),(((),z.2.1,z.2.2.1,z.2.2.2,()),y.2.1,())))
theorem ok147 (F:Nat):Sound Tryz.prog cfg 147 (ct147 F):=
 mkC_ok (E:=E147 F) (lp:=[]) (code:=bodyOf Tryz.f147) Tryz.func147 rfl Tryz.ntmps147 rfl rfl cok (cts147 F) mixed trivial (by kernel_rfl) (fun x y k=>T147c F x.2.1 y.1.2.1 y.1.2.2.1 y.1.2.2.2.1 y.2.1 k) (fun _ _ _=>by simp only [T147,T147c,oA,oC,oS,oN,elimS_bind]) (fun _ _=>by kernel_rfl)
def ord148:Nat->List (Tag×Nat)
 | 1=>[(.p,0),(.p,1),(.p,2),(.r,3),(.p,4),(.p,5),(.p,6),(.p,7),(.r,8),(.p,9),(.p,10)]
 | _=>[]
def E148 (F:Nat):Ev:=⟨cfg,13,ctOf [],ord148,ctOf [],fun _=>none,fun _=>none⟩
theorem cts148 (F:Nat):CtsOk Tryz.prog (E148 F):=cts_of (l:=[]) (l':=[]) rfl rfl trivial trivial
def T148c (F:Nat) (p0:Int) (p3:List UInt8) {β:Type} (k:Int->Option β):Option β:=
 (k (w64 ((p3.length:Int) - p0)))
def T148 (F:Nat) (p0:Int) (p3:List UInt8):=T148c F p0 p3 some
def ct148 (F:Nat):Ct:=mkC 2 [(.pt 0 [])] [.blk 152 Qe,.row 5 .u8] [.i] [.blk 152 Qe,.row 5 .u8] (fun x y=>T148 F y.1.2.1 y.2.1) (fun x y (z:Int)=>((z,()),(((),y.1.2.1,y.1.2.2.1,y.1.2.2.2.1,()),y.2.1,())))
theorem ok148 (F:Nat):Sound Tryz.prog cfg 148 (ct148 F):=
 mkC_ok (E:=E148 F) (lp:=[]) (code:=bodyOf Tryz.f148) Tryz.func148 rfl Tryz.ntmps148 rfl rfl cok (cts148 F) mixed trivial (by kernel_rfl) (fun x y k=>T148c F y.1.2.1 y.2.1 k) (fun _ _ _=>by simp only [T148,T148c,oA,oC,oS,oN,elimS_bind]) (fun _ _=>by kernel_rfl)
def E114 (F:Nat):Ev:=⟨cfg,56,ctOf [(62,ct62 F),(147,ct147 F),(148,ct148 F),(37,ct37 F)],fun _=>[],ctOf [],fun _=>none,fun _=>none⟩
theorem cts114 (F:Nat):CtsOk Tryz.prog (E114 F):=cts_of (l:=[(62,ct62 F),(147,ct147 F),(148,ct148 F),(37,ct37 F)]) (l':=[]) rfl rfl ⟨⟨ok62 F,_,Tryz.func62,rfl,rfl⟩,⟨⟨ok147 F,_,Tryz.func147,rfl,rfl⟩,⟨⟨ok148 F,_,Tryz.func148,rfl,rfl⟩,⟨⟨ok37 F,_,Tryz.func37,rfl,rfl⟩,trivial⟩⟩⟩⟩ trivial
def L114_2c (F:Nat) (y27:List UInt8) (y28:Int) (y29:Int) {β:Type} (kA:Int->Option β) (kO:Unit->Option β) (kR:Int->Option β):Option β:=
 (bif (decide (y29 < y28)) then (Option.bind (ix y27 y29) fun x31=>(bif (x31 != (UInt8.ofNat 0)) then (kR (3:Int)) else (kA (w64 (y29 + (1:Int)))))) else (kO ()))
def L114_2 (F:Nat) (y27:List UInt8) (y28:Int) (y29:Int):Option ((Int) ⊕ ((Unit) ⊕ (Int))):=L114_2c F y27 y28 y29 (fun s=>some (.inl s)) (fun z=>some (.inr (.inl z))) (fun z=>some (.inr (.inr z)))
theorem L114_2n (F:Nat) (y27:List UInt8) (y28:Int) (y29:Int) {β:Type} (kA:Int->Option β) (kO:Unit->Option β) (kR:Int->Option β):L114_2c F y27 y28 y29 kA kO kR=(L114_2 F y27 y28 y29).bind (elimS kA (elimS kO kR)):=by
 simp only [L114_2,L114_2c,oA,oC,oS,oN,elimS_l,elimS_r,elimS_bind]
def lc114_2 (F:Nat):Lc:=mkR [0,6,9,41,42,43] [(.ro .u8),(.ro .u8),.i,(.ro .u8),.i,.i] [] [0,6,9] [(.ro .u8),(.ro .u8),.i] [] [2,3,4] [.ns,.ns,.i] [] F (fun x y (s:Int)=>L114_2 F x.2.2.2.1 x.2.2.2.2.1 s) (fun x y=>x.2.2.2.2.2.1) (fun x y (z:Unit)=>((x.1,x.2.1,x.2.2.1,()),())) (fun x y (z:Int)=>(((),(),z,()),()))
theorem lo114_2 (F:Nat):LcOk Tryz.prog (E114 F) 0 (lc114_2 F) (cAt (bodyOf Tryz.f114) [1,0,1,1,1,1,1,1,1]):=
 mkR_ok (lp:=[]) (id:=0) (b:=cAt (bodyOf Tryz.f114) (0 :: 0 :: [1,0,1,1,1,1,1,1,1])) cok (cts114 F) mixed trivial (by kernel_rfl) (by kernel_rfl) (fun x y s=>(x.1,x.2.1,x.2.2.1,x.2.2.2.1,x.2.2.2.2.1,s,())) (fun x y s=>()) (fun x y=>rfl) (fun x y=>rfl) (fun x y s kA kO kR=>L114_2c F x.2.2.2.1 x.2.2.2.2.1 s kA kO kR) (fun x y s kA kO kR=>L114_2n F x.2.2.2.1 x.2.2.2.2.1 s kA kO kR) (fun _ _ _=>by kernel_rfl)
def T114c (F:Nat) (p0:List UInt8) {β:Type} (k:(Za×Int×Za)->Option β):Option β:=
 (Option.bind (T62 F p0) fun z18=>(Option.bind (T147 F (32768:Int) z18.1 z18.2.1 z18.2.2.1 z18.2.2.2) fun z19=>(Option.bind (T148 F z19.2.1 z18.2.2.2) fun z20=>(bif (z20 == (p0.length:Int)) then (k (([]:List UInt8),(3:Int),([]:List UInt8))) else (Option.bind (T37 F (z19.1.length:Int)) fun z21=>(bif (z21.1 != (p0.length:Int)) then (k (([]:List UInt8),(3:Int),([]:List UInt8))) else (Option.bind (T148 F z19.2.1 z18.2.2.2) fun z22=>(Option.bind (gsl p0 (w64 ((p0.length:Int) - z22)) (w64 ((p0.length:Int) - (16:Int)))) fun x23=>(Option.bind (iter (fun s=>L114_2 F x23 (x23.length:Int) s) F (0:Int)) fun z32=>elimS (fun z32=>(Option.bind (gsl p0 (w64 ((p0.length:Int) - (16:Int))) (p0.length:Int)) fun x33=>(Option.bind (gapp ([]:List UInt8) x33) fun x34=>(k (z19.1,(0:Int),x34))))) (fun z32=>(k (([]:List UInt8),z32,([]:List UInt8)))) z32)))))))))
def T114 (F:Nat) (p0:List UInt8):=T114c F p0 some
def ct114 (F:Nat):Ct:=mkC 0 [(.ro .u8)] [] [(.ro .u8),(.rw 0),.i] [.row 5 .u8] (fun x y=>T114 F x.1) (fun x y (z:Za×Int×Za)=>((z.1,(),z.2.1,()),(z.2.2,())))
theorem ok114 (F:Nat):Sound Tryz.prog cfg 114 (ct114 F):=
 mkC_ok (E:=E114 F) (lp:=[([1,0,1,1,1,1,1,1,1],lc114_2 F)]) (code:=bodyOf Tryz.f114) Tryz.func114 rfl Tryz.ntmps114 rfl rfl cok (cts114 F) mixed ⟨lo114_2 F,trivial⟩ (by kernel_rfl) (fun x y k=>T114c F x.1 k) (fun _ _ _=>by simp only [T114,T114c,oA,oC,oS,oN,elimS_bind]) (fun _ _=>by kernel_rfl)
def E73 (F:Nat):Ev:=⟨cfg,23,ctOf [(113,ct113 F),(114,ct114 F)],fun _=>[],ctOf [],fun _=>none,fun _=>none⟩
theorem cts73 (F:Nat):CtsOk Tryz.prog (E73 F):=cts_of (l:=[(113,ct113 F),(114,ct114 F)]) (l':=[]) rfl rfl ⟨⟨ok113 F,_,Tryz.func113,rfl,rfl⟩,⟨⟨ok114 F,_,Tryz.func114,rfl,rfl⟩,trivial⟩⟩ trivial
def T73c (F:Nat) (p0:List UInt8) (p1:List UInt8) {β:Type} (k:(Za×Int×Za)->Option β):Option β:=
 (Option.bind (T113 F p1 p0) fun z3=>(bif (z3.1 != (0:Int)) then (k (([]:List UInt8),z3.1,([]:List UInt8))) else (Option.bind (T114 F z3.2) fun z4=>(k (z4.1,z4.2.1,z4.2.2)))))
def T73 (F:Nat) (p0:List UInt8) (p1:List UInt8):=T73c F p0 p1 some
def ct73 (F:Nat):Ct:=mkC 0 [(.ro .u8),(.ro .u8)] [] [(.ro .u8),(.rw 0),.i] [.row 5 .u8] (fun x y=>T73 F x.1 x.2.1) (fun x y (z:Za×Int×Za)=>((z.1,(),z.2.1,()),(z.2.2,())))
theorem ok73 (F:Nat):Sound Tryz.prog cfg 73 (ct73 F):=
 mkC_ok (E:=E73 F) (lp:=[]) (code:=bodyOf Tryz.f73) Tryz.func73 rfl Tryz.ntmps73 rfl rfl cok (cts73 F) mixed trivial (by kernel_rfl) (fun x y k=>T73c F x.1 x.2.1 k) (fun _ _ _=>by simp only [T73,T73c,oA,oC,oS,oN,elimS_bind]) (fun _ _=>by kernel_rfl)
def E31 (F:Nat):Ev:=⟨cfg,98,ctOf [(37,ct37 F),(72,ct72 F),(70,ct70 F),(73,ct73 F),(69,ct69 F),(68,ct68 F)],fun _=>[],ctOf [],fun _=>none,fun _=>none⟩
theorem cts31 (F:Nat):CtsOk Tryz.prog (E31 F):=cts_of (l:=[(37,ct37 F),(72,ct72 F),(70,ct70 F),(73,ct73 F),(69,ct69 F),(68,ct68 F)]) (l':=[]) rfl rfl ⟨⟨ok37 F,_,Tryz.func37,rfl,rfl⟩,⟨⟨ok72 F,_,Tryz.func72,rfl,rfl⟩,⟨⟨ok70 F,_,Tryz.func70,rfl,rfl⟩,⟨⟨ok73 F,_,Tryz.func73,rfl,rfl⟩,⟨⟨ok69 F,_,Tryz.func69,rfl,rfl⟩,⟨⟨ok68 F,_,Tryz.func68,rfl,rfl⟩,trivial⟩⟩⟩⟩⟩⟩ trivial
def T31c (F:Nat) (p0:List UInt8) (p1:List UInt8) (p2:List UInt8) (p3:List UInt8) (p4:List UInt8) (p5:List UInt8) (p6:Int) (p7:Int) (p8:List UInt8) {β:Type} (k:(Za×Int)->Option β):Option β:=
 (Option.bind (T37 F p7) fun z7=>(Option.bind (T72 F p0 p1 p2 p3 p4) fun z8=>(bif (!z8) then (k (([]:List UInt8),(1:Int))) else (bif ((p5.length:Int) != (32:Int)) then (k (([]:List UInt8),(1:Int))) else (bif (decide (p6 < (0:Int))) then (k (([]:List UInt8),(1:Int))) else (bif (z7.2 != (0:Int)) then (k (([]:List UInt8),(1:Int))) else (bif ((p8.length:Int) != z7.1) then (k (([]:List UInt8),(1:Int))) else (Option.bind (T70 F p0 p1 p2 p3 p4 p5 z7.1) fun z9=>(Option.bind (T73 F z9.2 p8) fun z10=>(bif (z10.2.1 != (0:Int)) then (k (([]:List UInt8),(9:Int))) else (bif ((z10.1.length:Int) != p7) then (k (([]:List UInt8),(9:Int))) else (Option.bind (T69 F p0 p1 p2 p3 p4 z10.1) fun z11=>(Option.bind (T68 F p0 p1 p2 p3 p4 p6 z10.1) fun z12=>(bif (z10.2.2 != z11.2) then (k (([]:List UInt8),(9:Int))) else (bif (z12.1 != p5) then (k (([]:List UInt8),(9:Int))) else (k (z10.1,(0:Int))))))))))))))))))
def T31 (F:Nat) (p0:List UInt8) (p1:List UInt8) (p2:List UInt8) (p3:List UInt8) (p4:List UInt8) (p5:List UInt8) (p6:Int) (p7:Int) (p8:List UInt8):=T31c F p0 p1 p2 p3 p4 p5 p6 p7 p8 some
def ct31 (F:Nat):Ct:=mkC 0 [(.pr .str (.pr .str (.pr .str (.pr .str (.pr .str .un))))),(.pr .str (.pr .i (.pr .i .un))),(.ro .u8)] [] [(.ro .u8),.i] [] (fun x y=>T31 F x.1.1 x.1.2.1 x.1.2.2.1 x.1.2.2.2.1 x.1.2.2.2.2.1 x.2.1.1 x.2.1.2.1 x.2.1.2.2.1 x.2.2.1) (fun x y (z:Za×Int)=>((z.1,z.2,()),()))
theorem ok31 (F:Nat):Sound Tryz.prog cfg 31 (ct31 F):=
 mkC_ok (E:=E31 F) (lp:=[]) (code:=bodyOf Tryz.f31) Tryz.func31 rfl Tryz.ntmps31 rfl rfl cok (cts31 F) mixed trivial (by kernel_rfl) (fun x y k=>T31c F x.1.1 x.1.2.1 x.1.2.2.1 x.1.2.2.2.1 x.1.2.2.2.2.1 x.2.1.1 x.2.1.2.1 x.2.1.2.2.1 x.2.2.1 k) (fun _ _ _=>by simp only [T31,T31c,oA,oC,oS,oN,elimS_bind]) (fun _ _=>by kernel_rfl)
def ord7:Nat->List (Tag×Nat)
 | 28=>[(.c,0),(.p,1),(.c,2),(.r,3),(.p,4),(.p,5),(.p,6),(.p,7),(.r,8),(.p,12),(.p,13),(.p,14),(.c,15),(.w,9),(.p,10),(.r,11),(.b,16),(.p,17),(.p,18),(.p,19),(.p,20),(.p,21)]
 | _=>[]
def E7 (F:Nat):Ev:=⟨cfg,133,ctOf [(8,ct8 F),(29,ct29 F),(10,ct10 F),(30,ct30 F),(23,ct23 F),(22,ct22 F),(31,ct31 F)],ord7,ctOf [],fun _=>none,fun _=>none⟩
theorem cts7 (F:Nat):CtsOk Tryz.prog (E7 F):=cts_of (l:=[(8,ct8 F),(29,ct29 F),(10,ct10 F),(30,ct30 F),(23,ct23 F),(22,ct22 F),(31,ct31 F)]) (l':=[]) rfl rfl ⟨⟨ok8 F,_,Tryz.func8,rfl,rfl⟩,⟨⟨ok29 F,_,Tryz.func29,rfl,rfl⟩,⟨⟨ok10 F,_,Tryz.func10,rfl,rfl⟩,⟨⟨ok30 F,_,Tryz.func30,rfl,rfl⟩,⟨⟨ok23 F,_,Tryz.func23,rfl,rfl⟩,⟨⟨ok22 F,_,Tryz.func22,rfl,rfl⟩,⟨⟨ok31 F,_,Tryz.func31,rfl,rfl⟩,trivial⟩⟩⟩⟩⟩⟩⟩ trivial
def L7_3c (F:Nat) (y96:List Za) (y97:Int) (y99:List UInt8) (y100:List UInt8) (y101:List UInt8) (y102:List UInt8) (y103:List UInt8) (y98:Int) (y104:List Zc) (y105:List Za) {β:Type} (kA:(Int×Zj×Zd)->Option β) (kO:(Zj×Zd)->Option β) (kR:Bool->Option β):Option β:=
 (bif (decide (y98 < y97)) then (Option.bind (ix y96 y98) fun x110=>(bif (decide ((200:Int) < (x110.length:Int))) then (kR true) else (Option.bind (T29 F y99 y100 y101 y102 y103 (0:Int) x110) fun z111=>(bif (z111.2.2.2.1 != (0:Int)) then (kR true) else (Option.bind (gapp y104 ([(z111.1,z111.2.1,z111.2.2.1,())]:List Zc)) fun x112=>(Option.bind (gapp y105 ([z111.2.2.2.2]:List Za)) fun x113=>(kA ((w64 (y98 + (1:Int))),x112,x113)))))))) else (kO (y104,y105)))
def L7_3 (F:Nat) (y96:List Za) (y97:Int) (y99:List UInt8) (y100:List UInt8) (y101:List UInt8) (y102:List UInt8) (y103:List UInt8) (y98:Int) (y104:List Zc) (y105:List Za):Option ((Int×Zj×Zd) ⊕ ((Zj×Zd) ⊕ (Bool))):=L7_3c F y96 y97 y99 y100 y101 y102 y103 y98 y104 y105 (fun s=>some (.inl s)) (fun z=>some (.inr (.inl z))) (fun z=>some (.inr (.inr z)))
theorem L7_3n (F:Nat) (y96:List Za) (y97:Int) (y99:List UInt8) (y100:List UInt8) (y101:List UInt8) (y102:List UInt8) (y103:List UInt8) (y98:Int) (y104:List Zc) (y105:List Za) {β:Type} (kA:(Int×Zj×Zd)->Option β) (kO:(Zj×Zd)->Option β) (kR:Bool->Option β):L7_3c F y96 y97 y99 y100 y101 y102 y103 y98 y104 y105 kA kO kR=(L7_3 F y96 y97 y99 y100 y101 y102 y103 y98 y104 y105).bind (elimS kA (elimS kO kR)):=by
 simp only [L7_3,L7_3c,oA,oC,oS,oN,elimS_l,elimS_r,elimS_bind]
def lc7_3 (F:Nat):Lc:=mkR [1,2,3,4,5,11,12,33,34,35] [(.ro Qd),.i,.i,.u32,(.pt 0 []),(.rw 1),(.rw 2),(.ro Qd),.i,.i] [.blk 66 (.pr .str (.pr .str (.pr .str (.pr .str (.pr .str .un))))),.row 45 Qb,.row 39 Qd] [1,2,3,4,5,11,12] [(.ro Qd),.i,.i,.u32,(.pt 0 []),(.rw 1),(.rw 2)] [.blk 66 (.pr .str (.pr .str (.pr .str (.pr .str (.pr .str .un))))),.row 45 Qb,.row 39 Qd] [10] [.bo] [] F (fun x y (s:Int×Zj×Zd)=>L7_3 F x.2.2.2.2.2.2.2.1 x.2.2.2.2.2.2.2.2.1 y.1.1 y.1.2.1 y.1.2.2.1 y.1.2.2.2.1 y.1.2.2.2.2.1 s.1 s.2.1 s.2.2) (fun x y=>(x.2.2.2.2.2.2.2.2.2.1,y.2.1,y.2.2.1)) (fun x y (z:Zj×Zd)=>((x.1,x.2.1,x.2.2.1,x.2.2.2.1,(),(),(),()),((y.1.1,y.1.2.1,y.1.2.2.1,y.1.2.2.2.1,y.1.2.2.2.2.1,()),z.1,z.2,()))) (fun x y (z:Bool)=>((z,()),()))
theorem lo7_3 (F:Nat):LcOk Tryz.prog (E7 F) 0 (lc7_3 F) (cAt (bodyOf Tryz.f7) [1,0,1,1,1,1,1]):=
 mkR_ok (lp:=[]) (id:=0) (b:=cAt (bodyOf Tryz.f7) (0 :: 0 :: [1,0,1,1,1,1,1])) cok (cts7 F) mixed trivial (by kernel_rfl) (by kernel_rfl) (fun x y s=>(x.1,x.2.1,x.2.2.1,x.2.2.2.1,(),(),(),x.2.2.2.2.2.2.2.1,x.2.2.2.2.2.2.2.2.1,s.1,())) (fun x y s=>((y.1.1,y.1.2.1,y.1.2.2.1,y.1.2.2.2.1,y.1.2.2.2.2.1,()),s.2.1,s.2.2,())) (fun x y=>rfl) (fun x y=>rfl) (fun x y s kA kO kR=>L7_3c F x.2.2.2.2.2.2.2.1 x.2.2.2.2.2.2.2.2.1 y.1.1 y.1.2.1 y.1.2.2.1 y.1.2.2.2.1 y.1.2.2.2.2.1 s.1 s.2.1 s.2.2 kA kO kR) (fun x y s kA kO kR=>L7_3n F x.2.2.2.2.2.2.2.1 x.2.2.2.2.2.2.2.2.1 y.1.1 y.1.2.1 y.1.2.2.1 y.1.2.2.2.1 y.1.2.2.2.2.1 s.1 s.2.1 s.2.2 kA kO kR) (fun _ _ _=>by kernel_rfl)
def L7_4c (F:Nat) (y118:List Zc) (y119:List Za) (y120:Int) (y122:List UInt8) (y123:List UInt8) (y124:List UInt8) (y125:List UInt8) (y126:List UInt8) (y132:List Zc) (y133:List Za) (y121:Int) {β:Type} (kA:Int->Option β) (kO:Unit->Option β) (kR:Bool->Option β):Option β:=
 (bif (decide (y121 < y120)) then (Option.bind (ix y119 y121) fun x141=>(Option.bind (ix y118 y121) fun x142=>(Option.bind (inb y133.length y121) fun x143=>(Option.bind (y133[x143]?) fun x144=>(Option.bind (T22 F y132 x142.1) fun z145=>(Option.bind (ix y132 z145) fun x146=>(Option.bind (T31 F y122 y123 y124 y125 y126 x146.1 x146.2.1 x146.2.2.1 x144) fun z147=>(bif (z147.2 != (0:Int)) then (kR false) else (bif (z147.1 != x141) then (kR false) else (kA (w64 (y121 + (1:Int))))))))))))) else (kO ()))
def L7_4 (F:Nat) (y118:List Zc) (y119:List Za) (y120:Int) (y122:List UInt8) (y123:List UInt8) (y124:List UInt8) (y125:List UInt8) (y126:List UInt8) (y132:List Zc) (y133:List Za) (y121:Int):Option ((Int) ⊕ ((Unit) ⊕ (Bool))):=L7_4c F y118 y119 y120 y122 y123 y124 y125 y126 y132 y133 y121 (fun s=>some (.inl s)) (fun z=>some (.inr (.inl z))) (fun z=>some (.inr (.inr z)))
theorem L7_4n (F:Nat) (y118:List Zc) (y119:List Za) (y120:Int) (y122:List UInt8) (y123:List UInt8) (y124:List UInt8) (y125:List UInt8) (y126:List UInt8) (y132:List Zc) (y133:List Za) (y121:Int) {β:Type} (kA:Int->Option β) (kO:Unit->Option β) (kR:Bool->Option β):L7_4c F y118 y119 y120 y122 y123 y124 y125 y126 y132 y133 y121 kA kO kR=(L7_4 F y118 y119 y120 y122 y123 y124 y125 y126 y132 y133 y121).bind (elimS kA (elimS kO kR)):=by
 simp only [L7_4,L7_4c,oA,oC,oS,oN,elimS_l,elimS_r,elimS_bind]
def lc7_4 (F:Nat):Lc:=mkR [5,11,18,22,96,97,98] [(.pt 0 []),(.ro Qb),(.pt 1 []),(.rw 2),(.ro Qd),.i,.i] [.blk 66 (.pr .str (.pr .str (.pr .str (.pr .str (.pr .str .un))))),.blk 27 Qh,.row 39 Qd] [] [] [] [10] [.bo] [] F (fun x y (s:Int)=>L7_4 F x.2.1 x.2.2.2.2.1 x.2.2.2.2.2.1 y.1.1 y.1.2.1 y.1.2.2.1 y.1.2.2.2.1 y.1.2.2.2.2.1 y.2.1.2.2.2.2.2.1 y.2.2.1 s) (fun x y=>x.2.2.2.2.2.2.1) (fun x y (z:Unit)=>((),())) (fun x y (z:Bool)=>((z,()),()))
theorem lo7_4 (F:Nat):LcOk Tryz.prog (E7 F) 0 (lc7_4 F) (cAt (bodyOf Tryz.f7) [1,0,1,1,1,1,1,1,1,1,1,1,1]):=
 mkR_ok (lp:=[]) (id:=2) (b:=cAt (bodyOf Tryz.f7) (0 :: 0 :: [1,0,1,1,1,1,1,1,1,1,1,1,1])) cok (cts7 F) mixed trivial (by kernel_rfl) (by kernel_rfl) (fun x y s=>((),x.2.1,(),(),x.2.2.2.2.1,x.2.2.2.2.2.1,s,())) (fun x y s=>((y.1.1,y.1.2.1,y.1.2.2.1,y.1.2.2.2.1,y.1.2.2.2.2.1,()),(y.2.1.1,y.2.1.2.1,y.2.1.2.2.1,y.2.1.2.2.2.1,y.2.1.2.2.2.2.1,y.2.1.2.2.2.2.2.1,()),y.2.2.1,())) (fun x y=>rfl) (fun x y=>rfl) (fun x y s kA kO kR=>L7_4c F x.2.1 x.2.2.2.2.1 x.2.2.2.2.2.1 y.1.1 y.1.2.1 y.1.2.2.1 y.1.2.2.2.1 y.1.2.2.2.2.1 y.2.1.2.2.2.2.2.1 y.2.2.1 s kA kO kR) (fun x y s kA kO kR=>L7_4n F x.2.1 x.2.2.2.2.1 x.2.2.2.2.2.1 y.1.1 y.1.2.1 y.1.2.2.1 y.1.2.2.2.1 y.1.2.2.2.2.1 y.2.1.2.2.2.2.2.1 y.2.2.1 s kA kO kR) (fun _ _ _=>by kernel_rfl)
def T7c (F:Nat) (p0:List UInt8) (p1:List UInt8) (p2:List UInt8) (p3:List UInt8) (p4:List UInt8) (p5:List Za) (p6:Int) (p7:Int) (p8:UInt32) {β:Type} (k:Bool->Option β):Option β:=
 (Option.bind (T8 F) fun z75=>(bif (!z75) then (k false) else (bif (decide ((8:Int) < (p5.length:Int))) then (k true) else (Option.bind (iter (fun s=>L7_3 F p5 (p5.length:Int) p0 p1 p2 p3 p4 s.1 s.2.1 s.2.2) F ((0:Int),([]:List Zc),([]:List Za))) fun z114=>elimS (fun z114=>(Option.bind (T10 F (0:Int) p6 p7 z114.1 z114.2) fun z115=>(Option.bind (T30 F z115.2.2.2.2.2.2.2 p8) fun z116=>(bif (z115.2.2.2.2.2.1 != (0:Int)) then (k true) else (bif (decide ((z116.length:Int) < z115.2.2.2.1)) then (k true) else (Option.bind (T23 F z115.1 z115.2.1 z115.2.2.1 z115.2.2.2.1 z115.2.2.2.2.1 z115.2.2.2.2.2.2.1 z116) fun z117=>(bif (z117.1 != (0:Int)) then (k false) else (bif ((z117.2.length:Int) != (p5.length:Int)) then (k false) else (Option.bind (iter (fun s=>L7_4 F z114.1 p5 (p5.length:Int) p0 p1 p2 p3 p4 z115.2.2.2.2.2.2.1 z117.2 s) F (0:Int)) fun z148=>elimS (fun z148=>(k true)) (fun z148=>(k z148)) z148))))))))) (fun z114=>(k z114)) z114))))
def T7 (F:Nat) (p0:List UInt8) (p1:List UInt8) (p2:List UInt8) (p3:List UInt8) (p4:List UInt8) (p5:List Za) (p6:Int) (p7:Int) (p8:UInt32):=T7c F p0 p1 p2 p3 p4 p5 p6 p7 p8 some
abbrev cA7:List Sh:=[(.pr .str (.pr .str (.pr .str (.pr .str (.pr .str .un))))),(.ro Qd),.i,.i,.u32]
def ct7 (F:Nat):Ct:=mkC 0 cA7 [] [.bo] [] (fun x y=>T7 F x.1.1 x.1.2.1 x.1.2.2.1 x.1.2.2.2.1 x.1.2.2.2.2.1 x.2.1 x.2.2.1 x.2.2.2.1 x.2.2.2.2.1) (fun x y (z:Bool)=>((z,()),()))
theorem ok7 (F:Nat):Sound Tryz.prog cfg 7 (ct7 F):=
 mkC_ok (E:=E7 F) (lp:=[([1,0,1,1,1,1,1],lc7_3 F),([1,0,1,1,1,1,1,1,1,1,1,1,1],lc7_4 F)]) (code:=bodyOf Tryz.f7) Tryz.func7 rfl Tryz.ntmps7 rfl rfl cok (cts7 F) mixed ⟨lo7_3 F,⟨lo7_4 F,trivial⟩⟩ (by kernel_rfl) (fun x y k=>T7c F x.1.1 x.1.2.1 x.1.2.2.1 x.1.2.2.2.1 x.1.2.2.2.2.1 x.2.1 x.2.2.1 x.2.2.2.1 x.2.2.2.2.1 k) (fun _ _ _=>by simp only [T7,T7c,oA,oC,oS,oN,elimS_bind]) (fun _ _=>by kernel_rfl)
end Go.Proofs.YtpnhgldpeiogbaaGreatDoor
namespace Go.Proofs.YtpnhgldpeiogbaaGreatDoor
open Go.Tw
set_option linter.unusedSimpArgs false
set_option linter.unusedVariables false
structure Rows {α:Type} (rows:List (Option (List α))) (out:List Nat) (gs:List (List α)):Prop where
 len:out.length=gs.length
 at_:∀ (i:Nat) (g:List α),gs[i]? = some g->∃ q:Nat,out[i]? = some q∧rows[q]? = some (some g)
 nd:out.Nodup
section
variable {α:Type} {rows:List (Option (List α))} {out:List Nat} {gs:List (List α)}
theorem Rows.lt (H:Rows rows out gs) {q:Nat} (h:q ∈ out):q < rows.length:=by
 obtain ⟨i,hi⟩:=List.mem_iff_getElem?.1 h
 have hl:=(List.getElem?_eq_some_iff.1 hi).1
 obtain ⟨q',h1,h2⟩:=H.at_ i _ (List.getElem?_eq_getElem (by rw [← H.len];exact hl))
 rw [hi] at h1;cases h1
 exact (List.getElem?_eq_some_iff.1 h2).1
theorem rxG_of {q:Nat} {g:List α} (h:rows[q]? = some (some g)):rxG rows q=some g:=by unfold rxG;rw [h]
theorem Rows.get (H:Rows rows out gs) {i:Nat} {g:List α} (h:gs[i]? = some g):∃ q,outG out i=some q∧rxG rows q=some g∧out[i]? = some q:=by
 obtain ⟨q,h1,h2⟩:=H.at_ i g h
 exact ⟨q,h1,rxG_of h2,h1⟩
theorem Rows.mat_eq:∀ {out:List Nat} {gs:List (List α)},Rows rows out gs->mat rows out=some gs
 | [],[],_=>rfl
 | [],_ :: _,H=>by have:=H.len;simp at this
 | _ :: _,[],H=>by have:=H.len;simp at this
 | q :: out,g :: gs,H=>by
  obtain ⟨q',h1,h2⟩:=H.at_ 0 g rfl
  simp at h1;subst h1
  have ih:=Rows.mat_eq (out:=out) (gs:=gs) ⟨by have:=H.len;simpa using this,fun i g' h=>by simpa using H.at_ (i + 1) g' (by simpa using h),(List.nodup_cons.1 H.nd).2⟩
  simp [mat,rxG_of h2,ih]
theorem nodup_at {l:List Nat} (h:l.Nodup) {i j q:Nat} (hi:l[i]? = some q) (hj:l[j]? = some q):i=j:=by
 obtain ⟨hi1,hi2⟩:=List.getElem?_eq_some_iff.1 hi
 obtain ⟨hj1,hj2⟩:=List.getElem?_eq_some_iff.1 hj
 have hp:=List.pairwise_iff_getElem.1 h
 rcases Nat.lt_trichotomy i j with h' | h' | h'
 ·exact absurd (hi2.trans hj2.symm) (hp i j hi1 hj1 h')
 ·exact h'
 ·exact absurd (hj2.trans hi2.symm) (hp j i hj1 hi1 h')
theorem nodup_of {l:List Nat} (h:∀ i j q:Nat,l[i]? = some q->l[j]? = some q->i=j):l.Nodup:=
 List.pairwise_iff_getElem.2 fun i j hi hj hij e=>by
  have:=h i j l[i] (List.getElem?_eq_getElem hi) (by rw [List.getElem?_eq_getElem hj,e])
  omega
theorem Rows.put (H:Rows rows out gs) {i q:Nat} (hq:out[i]? = some q) (y:List α):Rows (rows.set q (some y)) out (gs.set i y):=by
 have hil:=(List.getElem?_eq_some_iff.1 hq).1
 have hql:=H.lt (List.mem_of_getElem? hq)
 refine ⟨by simp [H.len],fun k g h=>?_,H.nd⟩
 by_cases hk:i=k
 ·subst hk
  rw [List.getElem?_set_self (by rw [← H.len];exact hil)] at h
  cases h
  exact ⟨q,hq,List.getElem?_set_self hql⟩
 ·rw [List.getElem?_set_ne hk] at h
  obtain ⟨q',h1,h2⟩:=H.at_ k g h
  have hne:q ≠ q':=fun e=>hk (nodup_at H.nd hq (e ▸ h1))
  exact ⟨q',h1,by rw [List.getElem?_set_ne hne];exact h2⟩
end
theorem it_again' {σ ρ:Type} {f:σ->Option (σ ⊕ ρ)} {n:Nat} {s s':σ} (h:f s=some (.inl s')):iter f (n + 1) s=iter f n s':=by simp [iter,h]
theorem it_out' {σ ρ:Type} {f:σ->Option (σ ⊕ ρ)} {n:Nat} {s:σ} {r:ρ} (h:f s=some (.inr r)):iter f (n + 1) s=some r:=by simp [iter,h]
theorem iter1 {σ ρ:Type} {f:σ->Option (σ ⊕ ρ)} (R:σ->Prop) (Q:ρ->Prop) (μ:σ->Nat)
  (step:∀ s,R s->(∃ s',f s=some (.inl s')∧R s'∧μ s' < μ s)∨(∃ r,f s=some (.inr r)∧Q r)) :
  ∀ (n:Nat) (s:σ),R s->μ s < n->∃ r,iter f n s=some r∧Q r
 | 0,s,_,h=>by omega
 | n + 1,s,hR,h=>by
  rcases step s hR with ⟨s',h1,h2,h3⟩ | ⟨r,h1,h2⟩
  ·rw [it_again' h1];exact iter1 R Q μ step n s' h2 (by omega)
  ·exact ⟨r,it_out' h1,h2⟩
theorem ixn {α:Type} {l:List α} {i:Nat} {x:α} (h:l[i]? = some x):ix l ((i:Nat):Int)=some x:=by
 have hi:=(List.getElem?_eq_some_iff.1 h).1
 unfold ix
 rw [if_pos (by omega),Int.toNat_natCast];exact h
theorem inbn {n i:Nat} (h:i < n):inb n ((i:Nat):Int)=some i:=by unfold inb;simp [h]
theorem gappn {α:Type} {xs ys:List α} (h:xs.length + ys.length≤1099511627776):gapp xs ys=some (xs ++ ys):=by unfold gapp;rw [if_pos h]
theorem w64n {n:Nat} (h:n < 9223372036854775807):w64 (((n:Nat):Int) + 1)=((n + 1:Nat):Int):=by rw [w64_in (by omega) (by omega)];omega
end Go.Proofs.YtpnhgldpeiogbaaGreatDoor
namespace Go.Proofs.YtpnhgldpeiogbaaGreatDoor
open Go.Tw
set_option linter.unusedSimpArgs false
set_option linter.unusedVariables false
def cls (k:Nat):Int:=2 ^ (k / 4) * (64 + 16 * (k % 4:Nat))
def fc (need:Int):Nat->Nat->Int
 | 0,k=>cls k
 | m + 1,k=>bif decide (cls k < need) then fc need m (k + 1) else cls k
theorem t59 {k:Nat} (hk:k < 39) (F:Nat):T115 F (2 ^ (k / 4):Int) ((k % 4:Nat):Int)=some (cls k,(2 ^ ((k + 1) / 4):Int),(((k + 1) % 4:Nat):Int)):=by
 have:∀ k:Fin 39,T115 0 (2 ^ (k.val / 4):Int) ((k.val % 4:Nat):Int)=some (cls k.val,(2 ^ ((k.val + 1) / 4):Int),(((k.val + 1) % 4:Nat):Int)):=by decide
 exact this ⟨k,hk⟩
theorem loop14 (F:Nat) (need:Int):∀ (m k fuel:Nat),k + m=37->m < fuel->need≤cls 37->iter (fun s:Int×Int×Int=>L37_2 F need s.1 s.2.1 s.2.2) fuel (cls k,(2 ^ ((k + 1) / 4):Int),(((k + 1) % 4:Nat):Int))=some (fc need m k)
 | 0,k,fuel + 1,hk,hf,hn=>by
  have:k=37:=by omega
  subst this
  have h:¬ cls 37 < need:=by omega
  simp [iter,L37_2,L37_2c,h,fc]
 | m + 1,k,fuel + 1,hk,hf,hn=>by
  by_cases h:cls k < need
  ·simp only [iter,L37_2,L37_2c,h,decide_true,cond_true,fc]
   rw [t59 (by omega)]
   simp only [Option.bind_some]
   exact loop14 F need m (k + 1) fuel (by omega) (by omega) hn
  ·simp [iter,L37_2,L37_2c,h,fc]
theorem shr7 (x:UInt64):(shr64 x 7).toNat=x.toNat / 128:=by
 show (x.toBitVec >>> 7).toNat=_
 rw [BitVec.toNat_ushiftRight,Nat.shiftRight_eq_div_pow];rfl
def sz (n:Nat):Nat:=if n < 128 then 1 else if n < 16384 then 2 else 3
theorem it_again {σ ρ:Type} {f:σ->Option (σ ⊕ ρ)} {n:Nat} {s s':σ} (h:f s=some (.inl s')):iter f (n + 1) s=iter f n s':=by simp [iter,h]
theorem it_out {σ ρ:Type} {f:σ->Option (σ ⊕ ρ)} {n:Nat} {s:σ} {r:ρ} (h:f s=some (.inr r)):iter f (n + 1) s=some r:=by simp [iter,h]
theorem l40_again (F:Nat) {x:UInt64} {c:Int} (h:128≤x.toNat):L74_2 F x c=some (.inl (shr64 x 7,w64 (c + 1))):=by
 have:UInt64.ofNat 128≤x:=h
 simp only [L74_2,L74_2c,this,decide_true,cond_true];rfl
theorem l40_out (F:Nat) {x:UInt64} {c:Int} (h:¬ 128≤x.toNat):L74_2 F x c=some (.inr c):=by
 have:¬ UInt64.ofNat 128≤x:=h
 simp only [L74_2,L74_2c,this,decide_false,cond_false]
theorem t40 {F:Nat} (hF:4 < F) (x:UInt64) (hx:x.toNat≤32768):T74 F x=some ((sz x.toNat:Nat):Int):=by
 obtain ⟨n,rfl⟩:∃ n,F=n + 4:=⟨F - 4,by omega⟩
 have w1:w64 ((1:Int) + 1)=2:=by decide
 have w2:w64 ((2:Int) + 1)=3:=by decide
 have d1:=shr7 x
 have d2:=shr7 (shr64 x 7)
 simp only [T74,T74c]
 by_cases h1:x.toNat < 128
 ·rw [it_out (l40_out _ (x:=x) (by omega))];simp [sz,h1]
 ·rw [it_again (l40_again _ (x:=x) (by omega)),w1]
  by_cases h2:x.toNat < 16384
  ·rw [it_out (l40_out _ (x:=shr64 x 7) (by omega))];simp [sz,h1,h2]
  ·rw [it_again (l40_again _ (x:=shr64 x 7) (by omega)),w2,it_out (l40_out _ (x:=shr64 (shr64 x 7) 7) (by omega))];simp [sz,h1,h2]
def need (n:Int):Int:=(sz n.toNat:Int) + n + 16
def clsOf (n:Int):Int:=fc (need n) 37 0
theorem one_le_pow2:∀ k:Nat,(1:Int)≤2 ^ k
 | 0=>by simp
 | k + 1=>by have:=one_le_pow2 k;rw [Int.pow_succ];omega
theorem fc_ge (need:Int):∀ (m k:Nat),64≤fc need m k
 | 0,k=>by
  have h1:(1:Int)≤2 ^ (k / 4):=one_le_pow2 _
  have h2:(64:Int)≤64 + 16 * (k % 4:Nat):=by omega
  have:=Int.mul_le_mul h1 h2 (by omega) (by omega)
  simp only [fc,cls];omega
 | m + 1,k=>by
  have h1:(1:Int)≤2 ^ (k / 4):=one_le_pow2 _
  have h2:(64:Int)≤64 + 16 * (k % 4:Nat):=by omega
  have:=Int.mul_le_mul h1 h2 (by omega) (by omega)
  simp only [fc]
  cases decide (cls k < need) with
  | true=>exact fc_ge need m (k + 1)
  | false=>simp only [cond_false,cls];omega
theorem clsOf_ge (n:Int):64≤clsOf n:=fc_ge _ _ _
theorem class_in {F:Nat} (hF:50 < F) {n:Int} (h0:0≤n) (h1:n≤32768):T37 F n=some (clsOf n,0)∧True∧True:=by
 have h0':¬ n < 0:=by omega
 have h1':¬ 32768 < n:=by omega
 have hx:(UInt64.ofInt n).toNat=n.toNat:=by
  show (UInt64.ofNat (n % 2 ^ 64).toNat).toNat=_
  rw [UInt64.toNat_ofNat'];omega
 have hx':(UInt64.ofInt n).toNat≤32768:=by omega
 have h41:T75 F=some ((2 ^ (0 / 4):Int),((0 % 4:Nat):Int)):=rfl
 have hs:1≤sz n.toNat∧sz n.toNat≤3:=by unfold sz;split<;>(try split)<;>omega
 have hw:w64 (w64 (((sz n.toNat:Nat):Int) + n) + 16)=need n:=by
  rw [w64_in (n:=((sz n.toNat:Nat):Int) + n) (by omega) (by omega),w64_in (by omega) (by omega)];rfl
 have hneed:need n≤cls 37:=by
  have:cls 37=40960:=by decide
  unfold need
  omega
 refine ⟨?_,?_,?_⟩
 ·simp only [T37,T37c,h0',h1',decide_false,cond_false]
  rw [t40 (by omega) _ hx',h41]
  simp only [Option.bind_some]
  rw [t59 (k:=0) (by omega)]
  simp only [Option.bind_some]
  have l14:=loop14 F (need n) 37 0 F (by omega) (by omega) hneed
  rw [hx,hw,l14];rfl
 ·trivial
 ·trivial
def L903_3c (F:Nat) (y19:List UInt8) {β:Type} (kA:((List UInt8))->Option β) (kO:((List UInt8))->Option β):Option β:=
 (bif ((Int.tmod (y19.length:Int) (64:Int)) != (56:Int)) then (Option.bind (gapp y19 ([(UInt8.ofNat 0)]:List UInt8)) fun x21=>(kA x21)) else (kO y19))
def L903_3 (F:Nat) (y19:List UInt8):Option (((List UInt8)) ⊕ ((List UInt8))):=L903_3c F y19 (fun s=>some (.inl s)) (fun z=>some (.inr z))
def L903_4c (F:Nat) (y23:UInt64) (y24:Int) (y25:List UInt8) {β:Type} (kA:(Int×(List UInt8))->Option β) (kO:((List UInt8))->Option β):Option β:=
 (bif (decide ((0:Int)≤y24)) then (Option.bind (gnn (w64 ((8:Int) * y24))) fun x28=>(Option.bind (gapp y25 ([((shr64 y23 x28).toUInt8)]:List UInt8)) fun x29=>(kA ((w64 (y24 - (1:Int))),x29)))) else (kO y25))
def L903_4 (F:Nat) (y23:UInt64) (y24:Int) (y25:List UInt8):Option ((Int×(List UInt8)) ⊕ ((List UInt8))):=L903_4c F y23 y24 y25 (fun s=>some (.inl s)) (fun z=>some (.inr z))
def T903c (F:Nat) (p0:List UInt8) {β:Type} (k:((List UInt8))->Option β):Option β:=
 (Option.bind (gapp ([]:List UInt8) p0) fun x16=>(Option.bind (gapp x16 ([(UInt8.ofNat 128)]:List UInt8)) fun x17=>(Option.bind (iter (fun s=>L903_3 F s) F x17) fun z22=>(Option.bind (iter (fun s=>L903_4 F ((UInt64.ofInt (p0.length:Int)) * (UInt64.ofNat 8)) s.1 s.2) F ((7:Int),z22)) fun z30=>(k z30)))))
def T903 (F:Nat) (p0:List UInt8):Option ((List UInt8)):=T903c F p0 some
def T904c (F:Nat) {β:Type} (k:((Vector UInt32 64))->Option β):Option β:=
 (k (#v[(UInt32.ofNat 1116352408),(UInt32.ofNat 1899447441),(UInt32.ofNat 3049323471),(UInt32.ofNat 3921009573),(UInt32.ofNat 961987163),(UInt32.ofNat 1508970993),(UInt32.ofNat 2453635748),(UInt32.ofNat 2870763221),(UInt32.ofNat 3624381080),(UInt32.ofNat 310598401),(UInt32.ofNat 607225278),(UInt32.ofNat 1426881987),(UInt32.ofNat 1925078388),(UInt32.ofNat 2162078206),(UInt32.ofNat 2614888103),(UInt32.ofNat 3248222580),(UInt32.ofNat 3835390401),(UInt32.ofNat 4022224774),(UInt32.ofNat 264347078),(UInt32.ofNat 604807628),(UInt32.ofNat 770255983),(UInt32.ofNat 1249150122),(UInt32.ofNat 1555081692),(UInt32.ofNat 1996064986),(UInt32.ofNat 2554220882),(UInt32.ofNat 2821834349),(UInt32.ofNat 2952996808),(UInt32.ofNat 3210313671),(UInt32.ofNat 3336571891),(UInt32.ofNat 3584528711),(UInt32.ofNat 113926993),(UInt32.ofNat 338241895),(UInt32.ofNat 666307205),(UInt32.ofNat 773529912),(UInt32.ofNat 1294757372),(UInt32.ofNat 1396182291),(UInt32.ofNat 1695183700),(UInt32.ofNat 1986661051),(UInt32.ofNat 2177026350),(UInt32.ofNat 2456956037),(UInt32.ofNat 2730485921),(UInt32.ofNat 2820302411),(UInt32.ofNat 3259730800),(UInt32.ofNat 3345764771),(UInt32.ofNat 3516065817),(UInt32.ofNat 3600352804),(UInt32.ofNat 4094571909),(UInt32.ofNat 275423344),(UInt32.ofNat 430227734),(UInt32.ofNat 506948616),(UInt32.ofNat 659060556),(UInt32.ofNat 883997877),(UInt32.ofNat 958139571),(UInt32.ofNat 1322822218),(UInt32.ofNat 1537002063),(UInt32.ofNat 1747873779),(UInt32.ofNat 1955562222),(UInt32.ofNat 2024104815),(UInt32.ofNat 2227730452),(UInt32.ofNat 2361852424),(UInt32.ofNat 2428436474),(UInt32.ofNat 2756734187),(UInt32.ofNat 3204031479),(UInt32.ofNat 3329325298)]:Vector UInt32 64))
def T904 (F:Nat):Option ((Vector UInt32 64)):=T904c F some
def T905c (F:Nat) (p0:UInt32) (p1:Int) {β:Type} (k:UInt32->Option β):Option β:=
 (Option.bind (gnn p1) fun x3=>(Option.bind (gnn (w64 ((32:Int) - p1))) fun x4=>(k ((shr32 p0 x3) ||| (shl32 p0 x4)))))
def T905 (F:Nat) (p0:UInt32) (p1:Int):Option (UInt32):=T905c F p0 p1 some
def L906_5c (F:Nat) (y126:List UInt8) (y127:Int) (y131:Vector UInt32 64) {β:Type} (kA:(Int×(Vector UInt32 64))->Option β) (kO:((Vector UInt32 64))->Option β):Option β:=
 (bif (decide (y127 < (16:Int))) then (Option.bind (ix y126 (w64 ((4:Int) * y127))) fun x137=>(Option.bind (ix y126 (w64 ((w64 ((4:Int) * y127)) + (1:Int)))) fun x138=>(Option.bind (ix y126 (w64 ((w64 ((4:Int) * y127)) + (2:Int)))) fun x139=>(Option.bind (ix y126 (w64 ((w64 ((4:Int) * y127)) + (3:Int)))) fun x140=>(Option.bind (inb 64 y127) fun x141=>(kA ((w64 (y127 + (1:Int))),(Vector.setIfInBounds y131 x141 ((((shl32 (x137.toUInt32) ((UInt64.ofNat 24).toNat)) ||| (shl32 (x138.toUInt32) ((UInt64.ofNat 16).toNat))) ||| (shl32 (x139.toUInt32) ((UInt64.ofNat 8).toNat))) ||| (x140.toUInt32)))))))))) else (kO y131))
def L906_5 (F:Nat) (y126:List UInt8) (y127:Int) (y131:Vector UInt32 64):Option ((Int×(Vector UInt32 64)) ⊕ ((Vector UInt32 64))):=L906_5c F y126 y127 y131 (fun s=>some (.inl s)) (fun z=>some (.inr z))
def L906_6c (F:Nat) (y143:Int) (y147:Vector UInt32 64) {β:Type} (kA:(Int×(Vector UInt32 64))->Option β) (kO:((Vector UInt32 64))->Option β):Option β:=
 (bif (decide (y143 < (64:Int))) then (Option.bind (inb 64 (w64 (y143 - (15:Int)))) fun x169=>(Option.bind (vat y147 x169) fun x170=>(Option.bind (inb 64 (w64 (y143 - (15:Int)))) fun x171=>(Option.bind (vat y147 x171) fun x172=>(Option.bind (inb 64 (w64 (y143 - (15:Int)))) fun x173=>(Option.bind (vat y147 x173) fun x174=>(Option.bind (T905 F x170 (7:Int)) fun z175=>(Option.bind (T905 F x172 (18:Int)) fun z176=>(Option.bind (inb 64 (w64 (y143 - (2:Int)))) fun x177=>(Option.bind (vat y147 x177) fun x178=>(Option.bind (inb 64 (w64 (y143 - (2:Int)))) fun x179=>(Option.bind (vat y147 x179) fun x180=>(Option.bind (inb 64 (w64 (y143 - (2:Int)))) fun x181=>(Option.bind (vat y147 x181) fun x182=>(Option.bind (T905 F x178 (17:Int)) fun z183=>(Option.bind (T905 F x180 (19:Int)) fun z184=>(Option.bind (inb 64 (w64 (y143 - (7:Int)))) fun x185=>(Option.bind (vat y147 x185) fun x186=>(Option.bind (inb 64 (w64 (y143 - (16:Int)))) fun x187=>(Option.bind (vat y147 x187) fun x188=>(Option.bind (inb 64 y143) fun x189=>(kA ((w64 (y143 + (1:Int))),(Vector.setIfInBounds y147 x189 (((((z183 ^^^ z184) ^^^ (shr32 x182 ((UInt64.ofNat 10).toNat))) + x186) + ((z175 ^^^ z176) ^^^ (shr32 x174 ((UInt64.ofNat 3).toNat)))) + x188))))))))))))))))))))))))) else (kO y147))
def L906_6 (F:Nat) (y143:Int) (y147:Vector UInt32 64):Option ((Int×(Vector UInt32 64)) ⊕ ((Vector UInt32 64))):=L906_6c F y143 y147 (fun s=>some (.inl s)) (fun z=>some (.inr z))
def L906_7c (F:Nat) (y194:Vector UInt32 64) (y195:Vector UInt32 64) (y191:Int) (y196:Vector UInt32 8) {β:Type} (kA:(Int×(Vector UInt32 8))->Option β) (kO:((Vector UInt32 8))->Option β):Option β:=
 (bif (decide (y191 < (64:Int))) then (Option.bind (vat y196 0) fun x215=>(Option.bind (vat y196 1) fun x216=>(Option.bind (vat y196 2) fun x217=>(Option.bind (vat y196 4) fun x218=>(Option.bind (vat y196 5) fun x219=>(Option.bind (vat y196 6) fun x220=>(Option.bind (vat y196 7) fun x221=>(Option.bind (inb 64 y191) fun x222=>(Option.bind (vat y194 x222) fun x223=>(Option.bind (inb 64 y191) fun x224=>(Option.bind (vat y195 x224) fun x225=>(Option.bind (T905 F x218 (6:Int)) fun z226=>(Option.bind (T905 F x218 (11:Int)) fun z227=>(Option.bind (T905 F x218 (25:Int)) fun z228=>(Option.bind (T905 F x215 (2:Int)) fun z229=>(Option.bind (T905 F x215 (13:Int)) fun z230=>(Option.bind (T905 F x215 (22:Int)) fun z231=>(Option.bind (vat y196 3) fun x232=>(kA ((w64 (y191 + (1:Int))),(#v[(((((x221 + ((z226 ^^^ z227) ^^^ z228)) + ((x218 &&& x219) ^^^ ((~~~x218) &&& x220))) + x223) + x225) + (((z229 ^^^ z230) ^^^ z231) + (((x215 &&& x216) ^^^ (x215 &&& x217)) ^^^ (x216 &&& x217)))),x215,x216,x217,(x232 + ((((x221 + ((z226 ^^^ z227) ^^^ z228)) + ((x218 &&& x219) ^^^ ((~~~x218) &&& x220))) + x223) + x225)),x218,x219,x220]:Vector UInt32 8))))))))))))))))))))) else (kO y196))
def L906_7 (F:Nat) (y194:Vector UInt32 64) (y195:Vector UInt32 64) (y191:Int) (y196:Vector UInt32 8):Option ((Int×(Vector UInt32 8)) ⊕ ((Vector UInt32 8))):=L906_7c F y194 y195 y191 y196 (fun s=>some (.inl s)) (fun z=>some (.inr z))
def L906_8c (F:Nat) (y235:Vector UInt32 8) (y234:Int) (y237:Vector UInt32 8) {β:Type} (kA:(Int×(Vector UInt32 8))->Option β) (kO:((Vector UInt32 8))->Option β):Option β:=
 (bif (decide (y234 < (8:Int))) then (Option.bind (inb 8 y234) fun x243=>(Option.bind (vat y237 x243) fun x244=>(Option.bind (inb 8 y234) fun x245=>(Option.bind (vat y235 x245) fun x246=>(Option.bind (inb 8 y234) fun x247=>(kA ((w64 (y234 + (1:Int))),(Vector.setIfInBounds y237 x247 (x244 + x246))))))))) else (kO y237))
def L906_8 (F:Nat) (y235:Vector UInt32 8) (y234:Int) (y237:Vector UInt32 8):Option ((Int×(Vector UInt32 8)) ⊕ ((Vector UInt32 8))):=L906_8c F y235 y234 y237 (fun s=>some (.inl s)) (fun z=>some (.inr z))
def T906c (F:Nat) (p0:Vector UInt32 8) (p1:List UInt8) {β:Type} (k:((Vector UInt32 8))->Option β):Option β:=
 (Option.bind (T904 F) fun z125=>(Option.bind (iter (fun s=>L906_5 F p1 s.1 s.2) F ((0:Int),(Vector.replicate 64 (0:UInt32)))) fun z142=>(Option.bind (iter (fun s=>L906_6 F s.1 s.2) F ((16:Int),z142)) fun z190=>(Option.bind (iter (fun s=>L906_7 F z125 z190 s.1 s.2) F ((0:Int),p0)) fun z233=>(Option.bind (iter (fun s=>L906_8 F p0 s.1 s.2) F ((0:Int),z233)) fun z248=>(k z248))))))
def T906 (F:Nat) (p0:Vector UInt32 8) (p1:List UInt8):Option ((Vector UInt32 8)):=T906c F p0 p1 some
def L907_3c (F:Nat) (y35:List UInt8) (y33:Int) (y34:Vector UInt32 8) {β:Type} (kA:(Int×(Vector UInt32 8))->Option β) (kO:((Vector UInt32 8))->Option β):Option β:=
 (bif (decide (y33 < (y35.length:Int))) then (Option.bind (gslb y35.length y33 (w64 (y33 + (64:Int)))) fun x38=>(Option.bind (T906 F y34 ((y35.drop x38.1).take (x38.2 - x38.1))) fun z39=>(kA ((w64 (y33 + (64:Int))),z39)))) else (kO y34))
def L907_3 (F:Nat) (y35:List UInt8) (y33:Int) (y34:Vector UInt32 8):Option ((Int×(Vector UInt32 8)) ⊕ ((Vector UInt32 8))):=L907_3c F y35 y33 y34 (fun s=>some (.inl s)) (fun z=>some (.inr z))
def L907_4c (F:Nat) (y42:Vector UInt32 8) (y41:Int) (y43:List UInt8) {β:Type} (kA:(Int×(List UInt8))->Option β) (kO:((List UInt8))->Option β):Option β:=
 (bif (decide (y41 < (8:Int))) then (Option.bind (inb 8 y41) fun x53=>(Option.bind (vat y42 x53) fun x54=>(Option.bind (inb 8 y41) fun x55=>(Option.bind (vat y42 x55) fun x56=>(Option.bind (inb 8 y41) fun x57=>(Option.bind (vat y42 x57) fun x58=>(Option.bind (inb 8 y41) fun x59=>(Option.bind (vat y42 x59) fun x60=>(Option.bind (gapp y43 ([((shr32 x54 ((UInt64.ofNat 24).toNat)).toUInt8),((shr32 x56 ((UInt64.ofNat 16).toNat)).toUInt8),((shr32 x58 ((UInt64.ofNat 8).toNat)).toUInt8),(x60.toUInt8)]:List UInt8)) fun x61=>(kA ((w64 (y41 + (1:Int))),x61))))))))))) else (kO y43))
def L907_4 (F:Nat) (y42:Vector UInt32 8) (y41:Int) (y43:List UInt8):Option ((Int×(List UInt8)) ⊕ ((List UInt8))):=L907_4c F y42 y41 y43 (fun s=>some (.inl s)) (fun z=>some (.inr z))
def T907c (F:Nat) (p0:List UInt8) {β:Type} (k:((List UInt8))->Option β):Option β:=
 (Option.bind (T903 F p0) fun z32=>(Option.bind (iter (fun s=>L907_3 F z32 s.1 s.2) F ((0:Int),(#v[(UInt32.ofNat 1779033703),(UInt32.ofNat 3144134277),(UInt32.ofNat 1013904242),(UInt32.ofNat 2773480762),(UInt32.ofNat 1359893119),(UInt32.ofNat 2600822924),(UInt32.ofNat 528734635),(UInt32.ofNat 1541459225)]:Vector UInt32 8))) fun z40=>(Option.bind (iter (fun s=>L907_4 F z40 s.1 s.2) F ((0:Int),([]:List UInt8))) fun z62=>(k z62))))
def T907 (F:Nat) (p0:List UInt8):Option ((List UInt8)):=T907c F p0 some
theorem iter2 {σ τ ρ ρ':Type} {f:σ->Option (σ ⊕ ρ)} {g:τ->Option (τ ⊕ ρ')} (R:σ->τ->Prop) (Q:ρ->ρ'->Prop) (μ:σ->Nat)
  (h:∀ s t,R s t->(∃ s' t',f s=some (.inl s')∧g t=some (.inl t')∧R s' t'∧μ s' < μ s)∨(∃ r r',f s=some (.inr r)∧g t=some (.inr r')∧Q r r')) :
  ∀ (n m:Nat) (s:σ) (t:τ),R s t->μ s < n->μ s < m->∃ r r',iter f n s=some r∧iter g m t=some r'∧Q r r'
 | 0,m,s,t,hR,hn,hm=>absurd hn (by omega)
 | n + 1,0,s,t,hR,hn,hm=>absurd hm (by omega)
 | n + 1,m + 1,s,t,hR,hn,hm=>by
  rcases h s t hR with ⟨s',t',h1,h2,h3,h4⟩ | ⟨r,r',h1,h2,h3⟩
  ·rw [it_again h1,it_again h2]
   exact iter2 R Q μ h n m s' t' h3 (by omega) (by omega)
  ·exact ⟨r,r',it_out h1,it_out h2,h3⟩
theorem iterP {σ τ ρ ρ':Type} {f:σ->Option (σ ⊕ ρ)} {g:τ->Option (τ ⊕ ρ')} (R:σ->τ->Prop) (Q:σ->ρ'->Prop) (μ:σ->Nat)
  (h:∀ s t,R s t->(∃ s' t',f s=some (.inl s')∧g t=some (.inl t')∧R s' t'∧μ s' < μ s)∨(∃ r',g t=some (.inr r')∧Q s r')) :
  ∀ (m:Nat) (s:σ) (t:τ),R s t->μ s < m->∃ k s' r',k≤μ s∧iter g m t=some r'∧Q s' r'∧∀ n,iter f (n + k) s=iter f n s'
 | 0,s,t,hR,hm=>absurd hm (by omega)
 | m + 1,s,t,hR,hm=>by
  rcases h s t hR with ⟨s',t',h1,h2,h3,h4⟩ | ⟨r',h1,h2⟩
  ·obtain ⟨k,s'',r',a1,a2,a3,a4⟩:=iterP R Q μ h m s' t' h3 (by omega)
   exact ⟨k + 1,s'',r',by omega,(it_again h2).trans a2,a3,fun n=>(it_again (n:=n + k) h1).trans (a4 n)⟩
  ·exact ⟨0,s,r',by omega,it_out h1,h2,fun n=>rfl⟩
theorem inb_nat {n i:Nat} (h:i < n):inb n ((i:Nat):Int)=some i:=by
 unfold inb;rw [if_pos (by omega)];simp only [Int.toNat_natCast]
theorem vat_nat {α:Type} {n i:Nat} {v:Vector α n} (h:i < n):vat v i=some v[i]:=by
 rw [vat_eq];exact getElem?_pos v i h
theorem vix_nat {α:Type} {n i:Nat} {v:Vector α n} (h:i < n):vix v ((i:Nat):Int)=some v[i]:=by
 unfold vix;rw [if_pos (by omega)];simp only [Int.toNat_natCast];exact getElem?_pos v i h
theorem gsl_nat {α:Type} {l:List α} {a b:Nat} (h:a≤b) (hb:b≤l.length):gsl l ((a:Nat):Int) ((b:Nat):Int)=some ((l.drop a).take (b - a)):=by
 unfold gsl;rw [if_pos (by omega)];simp only [Int.toNat_natCast]
theorem gslb_nat {n a b:Nat} (h:a≤b) (hb:b≤n):gslb n ((a:Nat):Int) ((b:Nat):Int)=some (a,b):=by
 unfold gslb;rw [if_pos (by omega)];simp only [Int.toNat_natCast]
theorem ix_nat {α:Type} {l:List α} {i:Nat} (h:i < l.length):ix l ((i:Nat):Int)=some l[i]:=ixn (List.getElem?_eq_getElem h)
theorem ix_dt {p:List UInt8} {a k:Nat} (h:a + k < p.length) (hk:k < 4):ix ((p.drop a).take 4) ((k:Nat):Int)=some p[a + k]:=by
 rw [ix_nat (by simp;omega)];simp
def rr (x:UInt32) (k:Nat):UInt32:=shr32 x k ||| shl32 x (32 - k)
theorem a94_17 (F:Nat) (x:UInt32):T170 F x (-17)=some (rr x 17):=by
 have e1:((UInt64.ofInt (-17)) &&& (UInt64.ofNat 31)).toNat=15:=by decide +kernel
 have e2:((UInt64.ofNat 32) - ((UInt64.ofInt (-17)) &&& (UInt64.ofNat 31))).toNat=17:=by decide +kernel
 simp only [T170,T170c,e1,e2,rr]
 rw [UInt32.or_comm]
theorem a93_17 (F:Nat) (x:UInt32):T905 F x 17=some (rr x 17):=by
 have e1:gnn (17:Int)=some 17:=by decide +kernel
 have e2:gnn (w64 ((32:Int) - 17))=some 15:=by decide +kernel
 simp only [T905,T905c,e1,e2,rr,Option.bind_some]
theorem a94_19 (F:Nat) (x:UInt32):T170 F x (-19)=some (rr x 19):=by
 have e1:((UInt64.ofInt (-19)) &&& (UInt64.ofNat 31)).toNat=13:=by decide +kernel
 have e2:((UInt64.ofNat 32) - ((UInt64.ofInt (-19)) &&& (UInt64.ofNat 31))).toNat=19:=by decide +kernel
 simp only [T170,T170c,e1,e2,rr]
 rw [UInt32.or_comm]
theorem a93_19 (F:Nat) (x:UInt32):T905 F x 19=some (rr x 19):=by
 have e1:gnn (19:Int)=some 19:=by decide +kernel
 have e2:gnn (w64 ((32:Int) - 19))=some 13:=by decide +kernel
 simp only [T905,T905c,e1,e2,rr,Option.bind_some]
theorem a94_7 (F:Nat) (x:UInt32):T170 F x (-7)=some (rr x 7):=by
 have e1:((UInt64.ofInt (-7)) &&& (UInt64.ofNat 31)).toNat=25:=by decide +kernel
 have e2:((UInt64.ofNat 32) - ((UInt64.ofInt (-7)) &&& (UInt64.ofNat 31))).toNat=7:=by decide +kernel
 simp only [T170,T170c,e1,e2,rr]
 rw [UInt32.or_comm]
theorem a93_7 (F:Nat) (x:UInt32):T905 F x 7=some (rr x 7):=by
 have e1:gnn (7:Int)=some 7:=by decide +kernel
 have e2:gnn (w64 ((32:Int) - 7))=some 25:=by decide +kernel
 simp only [T905,T905c,e1,e2,rr,Option.bind_some]
theorem a94_18 (F:Nat) (x:UInt32):T170 F x (-18)=some (rr x 18):=by
 have e1:((UInt64.ofInt (-18)) &&& (UInt64.ofNat 31)).toNat=14:=by decide +kernel
 have e2:((UInt64.ofNat 32) - ((UInt64.ofInt (-18)) &&& (UInt64.ofNat 31))).toNat=18:=by decide +kernel
 simp only [T170,T170c,e1,e2,rr]
 rw [UInt32.or_comm]
theorem a93_18 (F:Nat) (x:UInt32):T905 F x 18=some (rr x 18):=by
 have e1:gnn (18:Int)=some 18:=by decide +kernel
 have e2:gnn (w64 ((32:Int) - 18))=some 14:=by decide +kernel
 simp only [T905,T905c,e1,e2,rr,Option.bind_some]
theorem a94_6 (F:Nat) (x:UInt32):T170 F x (-6)=some (rr x 6):=by
 have e1:((UInt64.ofInt (-6)) &&& (UInt64.ofNat 31)).toNat=26:=by decide +kernel
 have e2:((UInt64.ofNat 32) - ((UInt64.ofInt (-6)) &&& (UInt64.ofNat 31))).toNat=6:=by decide +kernel
 simp only [T170,T170c,e1,e2,rr]
 rw [UInt32.or_comm]
theorem a93_6 (F:Nat) (x:UInt32):T905 F x 6=some (rr x 6):=by
 have e1:gnn (6:Int)=some 6:=by decide +kernel
 have e2:gnn (w64 ((32:Int) - 6))=some 26:=by decide +kernel
 simp only [T905,T905c,e1,e2,rr,Option.bind_some]
theorem a94_11 (F:Nat) (x:UInt32):T170 F x (-11)=some (rr x 11):=by
 have e1:((UInt64.ofInt (-11)) &&& (UInt64.ofNat 31)).toNat=21:=by decide +kernel
 have e2:((UInt64.ofNat 32) - ((UInt64.ofInt (-11)) &&& (UInt64.ofNat 31))).toNat=11:=by decide +kernel
 simp only [T170,T170c,e1,e2,rr]
 rw [UInt32.or_comm]
theorem a93_11 (F:Nat) (x:UInt32):T905 F x 11=some (rr x 11):=by
 have e1:gnn (11:Int)=some 11:=by decide +kernel
 have e2:gnn (w64 ((32:Int) - 11))=some 21:=by decide +kernel
 simp only [T905,T905c,e1,e2,rr,Option.bind_some]
theorem a94_25 (F:Nat) (x:UInt32):T170 F x (-25)=some (rr x 25):=by
 have e1:((UInt64.ofInt (-25)) &&& (UInt64.ofNat 31)).toNat=7:=by decide +kernel
 have e2:((UInt64.ofNat 32) - ((UInt64.ofInt (-25)) &&& (UInt64.ofNat 31))).toNat=25:=by decide +kernel
 simp only [T170,T170c,e1,e2,rr]
 rw [UInt32.or_comm]
theorem a93_25 (F:Nat) (x:UInt32):T905 F x 25=some (rr x 25):=by
 have e1:gnn (25:Int)=some 25:=by decide +kernel
 have e2:gnn (w64 ((32:Int) - 25))=some 7:=by decide +kernel
 simp only [T905,T905c,e1,e2,rr,Option.bind_some]
theorem a94_2 (F:Nat) (x:UInt32):T170 F x (-2)=some (rr x 2):=by
 have e1:((UInt64.ofInt (-2)) &&& (UInt64.ofNat 31)).toNat=30:=by decide +kernel
 have e2:((UInt64.ofNat 32) - ((UInt64.ofInt (-2)) &&& (UInt64.ofNat 31))).toNat=2:=by decide +kernel
 simp only [T170,T170c,e1,e2,rr]
 rw [UInt32.or_comm]
theorem a93_2 (F:Nat) (x:UInt32):T905 F x 2=some (rr x 2):=by
 have e1:gnn (2:Int)=some 2:=by decide +kernel
 have e2:gnn (w64 ((32:Int) - 2))=some 30:=by decide +kernel
 simp only [T905,T905c,e1,e2,rr,Option.bind_some]
theorem a94_13 (F:Nat) (x:UInt32):T170 F x (-13)=some (rr x 13):=by
 have e1:((UInt64.ofInt (-13)) &&& (UInt64.ofNat 31)).toNat=19:=by decide +kernel
 have e2:((UInt64.ofNat 32) - ((UInt64.ofInt (-13)) &&& (UInt64.ofNat 31))).toNat=13:=by decide +kernel
 simp only [T170,T170c,e1,e2,rr]
 rw [UInt32.or_comm]
theorem a93_13 (F:Nat) (x:UInt32):T905 F x 13=some (rr x 13):=by
 have e1:gnn (13:Int)=some 13:=by decide +kernel
 have e2:gnn (w64 ((32:Int) - 13))=some 19:=by decide +kernel
 simp only [T905,T905c,e1,e2,rr,Option.bind_some]
theorem a94_22 (F:Nat) (x:UInt32):T170 F x (-22)=some (rr x 22):=by
 have e1:((UInt64.ofInt (-22)) &&& (UInt64.ofNat 31)).toNat=10:=by decide +kernel
 have e2:((UInt64.ofNat 32) - ((UInt64.ofInt (-22)) &&& (UInt64.ofNat 31))).toNat=22:=by decide +kernel
 simp only [T170,T170c,e1,e2,rr]
 rw [UInt32.or_comm]
theorem a93_22 (F:Nat) (x:UInt32):T905 F x 22=some (rr x 22):=by
 have e1:gnn (22:Int)=some 22:=by decide +kernel
 have e2:gnn (w64 ((32:Int) - 22))=some 10:=by decide +kernel
 simp only [T905,T905c,e1,e2,rr,Option.bind_some]
def wd4 (a b c d:UInt8):UInt32:=(((shl32 (a.toUInt32) ((UInt64.ofNat 24).toNat)) ||| (shl32 (b.toUInt32) ((UInt64.ofNat 16).toNat))) ||| (shl32 (c.toUInt32) ((UInt64.ofNat 8).toNat))) ||| (d.toUInt32)
def sch4 (a b c d:UInt32):UInt32:=((((rr a 17 ^^^ rr a 19) ^^^ (shr32 a ((UInt64.ofNat 10).toNat))) + b) + ((rr c 7 ^^^ rr c 18) ^^^ (shr32 c ((UInt64.ofNat 3).toNat)))) + d
theorem s91_lo (F:Nat) {p:List UInt8} (hp:p.length=64) {i:Nat} (hi:i < 16) (w:Vector UInt32 64) :
  L153x1_4 F p ((i:Nat):Int) w=some (.inl (((i + 1:Nat):Int),w.setIfInBounds i (wd4 p[4 * i] p[4 * i + 1] p[4 * i + 2] p[4 * i + 3]))):=by
 have h1:(((i:Nat):Int) < 64):=by omega
 have h2:(((i:Nat):Int) < 16):=by omega
 have e1:w64 ((4:Int) * ((i:Nat):Int))=((4 * i:Nat):Int):=by rw [w64_in (by omega) (by omega)];omega
 have e2:w64 (((4 * i:Nat):Int) + 4)=((4 * i + 4:Nat):Int):=by rw [w64_in (by omega) (by omega)];omega
 have e3:w64 (((i:Nat):Int) + 1)=((i + 1:Nat):Int):=by rw [w64_in (by omega) (by omega)];omega
 have g:gsl p ((4 * i:Nat):Int) ((4 * i + 4:Nat):Int)=some ((p.drop (4 * i)).take 4):=by
  rw [gsl_nat (by omega) (by omega),Nat.add_sub_cancel_left]
 have x0:ix ((p.drop (4 * i)).take 4) (0:Int)=some p[4 * i]:=ix_dt (k:=0) (by omega) (by omega)
 have x1:ix ((p.drop (4 * i)).take 4) (1:Int)=some p[4 * i + 1]:=ix_dt (k:=1) (by omega) (by omega)
 have x2:ix ((p.drop (4 * i)).take 4) (2:Int)=some p[4 * i + 2]:=ix_dt (k:=2) (by omega) (by omega)
 have x3:ix ((p.drop (4 * i)).take 4) (3:Int)=some p[4 * i + 3]:=ix_dt (k:=3) (by omega) (by omega)
 have n:inb 64 ((i:Nat):Int)=some i:=inb_nat (by omega)
 simp only [L153x1_4,L153x1_4c,h1,h2,decide_true,cond_true,e1,e2,e3,g,x0,x1,x2,x3,n,Option.bind_some,wd4]
theorem s85_lo (F:Nat) {p:List UInt8} (hp:p.length=64) {i:Nat} (hi:i < 16) (w:Vector UInt32 64) :
  L906_5 F p ((i:Nat):Int) w=some (.inl (((i + 1:Nat):Int),w.setIfInBounds i (wd4 p[4 * i] p[4 * i + 1] p[4 * i + 2] p[4 * i + 3]))):=by
 have h2:(((i:Nat):Int) < 16):=by omega
 have e1:w64 ((4:Int) * ((i:Nat):Int))=((4 * i:Nat):Int):=by rw [w64_in (by omega) (by omega)];omega
 have f1:w64 (((4 * i:Nat):Int) + 1)=((4 * i + 1:Nat):Int):=by rw [w64_in (by omega) (by omega)];omega
 have f2:w64 (((4 * i:Nat):Int) + 2)=((4 * i + 2:Nat):Int):=by rw [w64_in (by omega) (by omega)];omega
 have f3:w64 (((4 * i:Nat):Int) + 3)=((4 * i + 3:Nat):Int):=by rw [w64_in (by omega) (by omega)];omega
 have e3:w64 (((i:Nat):Int) + 1)=((i + 1:Nat):Int):=by rw [w64_in (by omega) (by omega)];omega
 have x0:ix p ((4 * i:Nat):Int)=some p[4 * i]:=ix_nat (by omega)
 have x1:ix p ((4 * i + 1:Nat):Int)=some p[4 * i + 1]:=ix_nat (by omega)
 have x2:ix p ((4 * i + 2:Nat):Int)=some p[4 * i + 2]:=ix_nat (by omega)
 have x3:ix p ((4 * i + 3:Nat):Int)=some p[4 * i + 3]:=ix_nat (by omega)
 have n:inb 64 ((i:Nat):Int)=some i:=inb_nat (by omega)
 simp only [L906_5,L906_5c,h2,decide_true,cond_true,e1,e3,f1,f2,f3,x0,x1,x2,x3,n,Option.bind_some,wd4]
theorem s91_hi (F:Nat) (p:List UInt8) {i:Nat} (h16:16≤i) (hi:i < 64) (w:Vector UInt32 64) :
  L153x1_4 F p ((i:Nat):Int) w=some (.inl (((i + 1:Nat):Int),w.setIfInBounds i (sch4 w[i - 2] w[i - 7] w[i - 15] w[i - 16]))):=by
 have h1:(((i:Nat):Int) < 64):=by omega
 have h2:¬ (((i:Nat):Int) < 16):=by omega
 have e3:w64 (((i:Nat):Int) + 1)=((i + 1:Nat):Int):=by rw [w64_in (by omega) (by omega)];omega
 have f1:w64 (((i:Nat):Int) - 2)=((i - 2:Nat):Int):=by rw [w64_in (by omega) (by omega)];omega
 have f2:w64 (((i:Nat):Int) - 7)=((i - 7:Nat):Int):=by rw [w64_in (by omega) (by omega)];omega
 have f3:w64 (((i:Nat):Int) - 15)=((i - 15:Nat):Int):=by rw [w64_in (by omega) (by omega)];omega
 have f4:w64 (((i:Nat):Int) - 16)=((i - 16:Nat):Int):=by rw [w64_in (by omega) (by omega)];omega
 have n:inb 64 ((i:Nat):Int)=some i:=inb_nat (by omega)
 have n1:inb 64 ((i - 2:Nat):Int)=some (i - 2):=inb_nat (by omega)
 have n2:inb 64 ((i - 7:Nat):Int)=some (i - 7):=inb_nat (by omega)
 have n3:inb 64 ((i - 15:Nat):Int)=some (i - 15):=inb_nat (by omega)
 have n4:inb 64 ((i - 16:Nat):Int)=some (i - 16):=inb_nat (by omega)
 have v1:vat w (i - 2)=some w[i - 2]:=vat_nat (by omega)
 have v2:vat w (i - 7)=some w[i - 7]:=vat_nat (by omega)
 have v3:vat w (i - 15)=some w[i - 15]:=vat_nat (by omega)
 have v4:vat w (i - 16)=some w[i - 16]:=vat_nat (by omega)
 simp only [L153x1_4,L153x1_4c,h1,h2,decide_true,decide_false,cond_true,cond_false,e3,f1,f2,f3,f4,n,n1,n2,n3,n4,v1,v2,v3,v4,a94_17,a94_19,a94_7,a94_18,Option.bind_some,sch4]
theorem s85_hi (F:Nat) {i:Nat} (h16:16≤i) (hi:i < 64) (w:Vector UInt32 64) :
  L906_6 F ((i:Nat):Int) w=some (.inl (((i + 1:Nat):Int),w.setIfInBounds i (sch4 w[i - 2] w[i - 7] w[i - 15] w[i - 16]))):=by
 have h1:(((i:Nat):Int) < 64):=by omega
 have e3:w64 (((i:Nat):Int) + 1)=((i + 1:Nat):Int):=by rw [w64_in (by omega) (by omega)];omega
 have f1:w64 (((i:Nat):Int) - 2)=((i - 2:Nat):Int):=by rw [w64_in (by omega) (by omega)];omega
 have f2:w64 (((i:Nat):Int) - 7)=((i - 7:Nat):Int):=by rw [w64_in (by omega) (by omega)];omega
 have f3:w64 (((i:Nat):Int) - 15)=((i - 15:Nat):Int):=by rw [w64_in (by omega) (by omega)];omega
 have f4:w64 (((i:Nat):Int) - 16)=((i - 16:Nat):Int):=by rw [w64_in (by omega) (by omega)];omega
 have n:inb 64 ((i:Nat):Int)=some i:=inb_nat (by omega)
 have n1:inb 64 ((i - 2:Nat):Int)=some (i - 2):=inb_nat (by omega)
 have n2:inb 64 ((i - 7:Nat):Int)=some (i - 7):=inb_nat (by omega)
 have n3:inb 64 ((i - 15:Nat):Int)=some (i - 15):=inb_nat (by omega)
 have n4:inb 64 ((i - 16:Nat):Int)=some (i - 16):=inb_nat (by omega)
 have v1:vat w (i - 2)=some w[i - 2]:=vat_nat (by omega)
 have v2:vat w (i - 7)=some w[i - 7]:=vat_nat (by omega)
 have v3:vat w (i - 15)=some w[i - 15]:=vat_nat (by omega)
 have v4:vat w (i - 16)=some w[i - 16]:=vat_nat (by omega)
 simp only [L906_6,L906_6c,h1,decide_true,cond_true,e3,f1,f2,f3,f4,n,n1,n2,n3,n4,v1,v2,v3,v4,a93_17,a93_19,a93_7,a93_18,Option.bind_some,sch4]
theorem sched {F:Nat} (hF:100 < F) {p:List UInt8} (hp:p.length=64):∃ w w0,iter (fun s:Int×Vector UInt32 64=>L153x1_4 F p s.1 s.2) F ((0:Int),(Vector.replicate 64 (0:UInt32)))=some w ∧
  iter (fun s:Int×Vector UInt32 64=>L906_5 F p s.1 s.2) F ((0:Int),(Vector.replicate 64 (0:UInt32)))=some w0∧iter (fun s:Int×Vector UInt32 64=>L906_6 F s.1 s.2) F ((16:Int),w0)=some w:=by
 obtain ⟨k,s',w0,a1,a2,a3,a4⟩:=iterP (f:=fun s:Int×Vector UInt32 64=>L153x1_4 F p s.1 s.2) (g:=fun s:Int×Vector UInt32 64=>L906_5 F p s.1 s.2)
  (fun s t=>s=t∧∃ i:Nat,s.1=i∧i≤16) (fun s r=>s=((16:Int),r)) (fun s=>16 - s.1.toNat) (by
   rintro ⟨a,w⟩ t ⟨rfl,i,hi,h16⟩
   simp only at hi
   subst hi
   by_cases h:i < 16
   ·exact .inl ⟨_,_,s91_lo F hp h w,s85_lo F hp h w,⟨rfl,i + 1,rfl,by omega⟩,by simp only [Int.toNat_natCast];omega⟩
   ·obtain rfl:i=16:=by omega
    exact .inr ⟨w,rfl,rfl⟩) F ((0:Int),(Vector.replicate 64 (0:UInt32))) ((0:Int),(Vector.replicate 64 (0:UInt32))) ⟨rfl,0,rfl,by omega⟩ (by simp only [Int.toNat_zero];omega)
 simp only [Int.toNat_zero,Nat.sub_zero] at a1
 subst a3
 obtain ⟨w,w',b1,b2,b3⟩:=iter2 (f:=fun s:Int×Vector UInt32 64=>L153x1_4 F p s.1 s.2) (g:=fun s:Int×Vector UInt32 64=>L906_6 F s.1 s.2)
  (fun s t=>s=t∧∃ i:Nat,s.1=i∧16≤i∧i≤64) (fun r r'=>r=r') (fun s=>64 - s.1.toNat) (by
   rintro ⟨a,w⟩ t ⟨rfl,i,hi,h16,h64⟩
   simp only at hi
   subst hi
   by_cases h:i < 64
   ·exact .inl ⟨_,_,s91_hi F p h16 h w,s85_hi F h16 h w,⟨rfl,i + 1,rfl,by omega,by omega⟩,by simp only [Int.toNat_natCast];omega⟩
   ·obtain rfl:i=64:=by omega
    exact .inr ⟨w,w,rfl,rfl,rfl⟩) (F - k) F ((16:Int),w0) ((16:Int),w0) ⟨rfl,16,rfl,by omega,by omega⟩ (by have:((16:Int)).toNat=16:=rfl;simp only [this];omega) (by have:((16:Int)).toNat=16:=rfl;simp only [this];omega)
 subst b3
 refine ⟨w,w0,?_,a2,b2⟩
 have:=a4 (F - k)
 rw [Nat.sub_add_cancel (by omega)] at this
 rw [this,b1]
theorem s91v_lo (F:Nat) (v:Vector UInt8 64) {i:Nat} (hi:i < 16) (w:Vector UInt32 64) :
  L153_4 F v (0,64) ((i:Nat):Int) w=some (.inl ((0,64),((i + 1:Nat):Int),w.setIfInBounds i (wd4 v[4 * i] v[4 * i + 1] v[4 * i + 2] v[4 * i + 3]))):=by
 have h1:(((i:Nat):Int) < 64):=by omega
 have h2:(((i:Nat):Int) < 16):=by omega
 have e1:w64 ((4:Int) * ((i:Nat):Int))=((4 * i:Nat):Int):=by rw [w64_in (by omega) (by omega)];omega
 have e2:w64 (((4 * i:Nat):Int) + 4)=((4 * i + 4:Nat):Int):=by rw [w64_in (by omega) (by omega)];omega
 have e3:w64 (((i:Nat):Int) + 1)=((i + 1:Nat):Int):=by rw [w64_in (by omega) (by omega)];omega
 have g:gslb 64 ((4 * i:Nat):Int) ((4 * i + 4:Nat):Int)=some (4 * i,4 * i + 4):=gslb_nat (by omega) (by omega)
 have m0:inb 4 (0:Int)=some 0:=by decide
 have m1:inb 4 (1:Int)=some 1:=by decide
 have m2:inb 4 (2:Int)=some 2:=by decide
 have m3:inb 4 (3:Int)=some 3:=by decide
 have x0:vat v (4 * i)=some v[4 * i]:=vat_nat (by omega)
 have x1:vat v (4 * i + 1)=some v[4 * i + 1]:=vat_nat (by omega)
 have x2:vat v (4 * i + 2)=some v[4 * i + 2]:=vat_nat (by omega)
 have x3:vat v (4 * i + 3)=some v[4 * i + 3]:=vat_nat (by omega)
 have n:inb 64 ((i:Nat):Int)=some i:=inb_nat (by omega)
 simp only [L153_4,L153_4c,h1,h2,decide_true,cond_true,e1,e2,e3,Nat.sub_zero,Nat.zero_add,g,Nat.add_sub_cancel_left,m0,m1,m2,m3,Nat.add_zero,x0,x1,x2,x3,n,Option.bind_some,wd4]
theorem s91v_hi (F:Nat) (v:Vector UInt8 64) {i:Nat} (h16:16≤i) (hi:i < 64) (w:Vector UInt32 64) :
  L153_4 F v (0,64) ((i:Nat):Int) w=some (.inl ((0,64),((i + 1:Nat):Int),w.setIfInBounds i (sch4 w[i - 2] w[i - 7] w[i - 15] w[i - 16]))):=by
 have h1:(((i:Nat):Int) < 64):=by omega
 have h2:¬ (((i:Nat):Int) < 16):=by omega
 have e3:w64 (((i:Nat):Int) + 1)=((i + 1:Nat):Int):=by rw [w64_in (by omega) (by omega)];omega
 have f1:w64 (((i:Nat):Int) - 2)=((i - 2:Nat):Int):=by rw [w64_in (by omega) (by omega)];omega
 have f2:w64 (((i:Nat):Int) - 7)=((i - 7:Nat):Int):=by rw [w64_in (by omega) (by omega)];omega
 have f3:w64 (((i:Nat):Int) - 15)=((i - 15:Nat):Int):=by rw [w64_in (by omega) (by omega)];omega
 have f4:w64 (((i:Nat):Int) - 16)=((i - 16:Nat):Int):=by rw [w64_in (by omega) (by omega)];omega
 have n:inb 64 ((i:Nat):Int)=some i:=inb_nat (by omega)
 have n1:inb 64 ((i - 2:Nat):Int)=some (i - 2):=inb_nat (by omega)
 have n2:inb 64 ((i - 7:Nat):Int)=some (i - 7):=inb_nat (by omega)
 have n3:inb 64 ((i - 15:Nat):Int)=some (i - 15):=inb_nat (by omega)
 have n4:inb 64 ((i - 16:Nat):Int)=some (i - 16):=inb_nat (by omega)
 have v1:vat w (i - 2)=some w[i - 2]:=vat_nat (by omega)
 have v2:vat w (i - 7)=some w[i - 7]:=vat_nat (by omega)
 have v3:vat w (i - 15)=some w[i - 15]:=vat_nat (by omega)
 have v4:vat w (i - 16)=some w[i - 16]:=vat_nat (by omega)
 simp only [L153_4,L153_4c,h1,h2,decide_true,decide_false,cond_true,cond_false,e3,f1,f2,f3,f4,n,n1,n2,n3,n4,v1,v2,v3,v4,a94_17,a94_19,a94_7,a94_18,Option.bind_some,sch4]
theorem schedv {F:Nat} (hF:100 < F) (v:Vector UInt8 64):∃ w,iter (fun s:(Nat×Nat)×Int×Vector UInt32 64=>L153_4 F v s.1 s.2.1 s.2.2) F ((0,64),(0:Int),(Vector.replicate 64 (0:UInt32)))=some w ∧
  iter (fun s:Int×Vector UInt32 64=>L153x1_4 F v.toList s.1 s.2) F ((0:Int),(Vector.replicate 64 (0:UInt32)))=some w:=by
 have hl:v.toList.length=64:=by simp
 obtain ⟨w,w',b1,b2,b3⟩:=iter2 (f:=fun s:(Nat×Nat)×Int×Vector UInt32 64=>L153_4 F v s.1 s.2.1 s.2.2) (g:=fun s:Int×Vector UInt32 64=>L153x1_4 F v.toList s.1 s.2)
  (fun s t=>s=((0,64),t.1,t.2)∧∃ i:Nat,t.1=i∧i≤64) (fun r r'=>r=r') (fun s=>64 - s.2.1.toNat) (by
   rintro s ⟨a,w⟩ ⟨rfl,i,hi,h64⟩
   simp only at hi
   subst hi
   by_cases h:i < 64
   ·by_cases h16:i < 16
    ·have g:=s91_lo F hl h16 w
     simp only [Vector.getElem_toList] at g
     exact .inl ⟨_,_,s91v_lo F v h16 w,g,⟨rfl,i + 1,rfl,by omega⟩,by simp only [Int.toNat_natCast];omega⟩
    ·exact .inl ⟨_,_,s91v_hi F v (by omega) h w,s91_hi F v.toList (by omega) h w,⟨rfl,i + 1,rfl,by omega⟩,by simp only [Int.toNat_natCast];omega⟩
   ·obtain rfl:i=64:=by omega
    exact .inr ⟨w,w,rfl,rfl,rfl⟩) F F ((0,64),(0:Int),(Vector.replicate 64 (0:UInt32))) ((0:Int),(Vector.replicate 64 (0:UInt32))) ⟨rfl,0,rfl,by omega⟩ (by simp only [Int.toNat_zero];omega) (by simp only [Int.toNat_zero];omega)
 subst b3
 exact ⟨w,b1,b2⟩
def t1 (e f g h k w:UInt32):UInt32:=(((h + ((rr e 6 ^^^ rr e 11) ^^^ rr e 25)) + ((e &&& f) ^^^ ((~~~e) &&& g))) + k) + w
def t2 (a b c:UInt32):UInt32:=((rr a 2 ^^^ rr a 13) ^^^ rr a 22) + (((a &&& b) ^^^ (a &&& c)) ^^^ (b &&& c))
theorem r91 (F:Nat) (w:Vector UInt32 64) (a b c d e f g h:UInt32) {i:Nat} (hi:i < 64) :
  L153x1_5 F w a b c d e f g h ((i:Nat):Int)=some (.inl (t1 e f g h gv2[i] w[i] + t2 a b c,a,b,c,d + t1 e f g h gv2[i] w[i],e,f,g,((i + 1:Nat):Int))):=by
 have h1:(((i:Nat):Int) < 64):=by omega
 have e3:w64 (((i:Nat):Int) + 1)=((i + 1:Nat):Int):=by rw [w64_in (by omega) (by omega)];omega
 have n:inb 64 ((i:Nat):Int)=some i:=inb_nat (by omega)
 have v:vat w i=some w[i]:=vat_nat hi
 have x:vix gv2 ((i:Nat):Int)=some gv2[i]:=vix_nat hi
 simp only [L153x1_5,L153x1_5c,h1,decide_true,cond_true,a94_6,a94_11,a94_25,a94_2,a94_13,a94_22,Option.bind_some,x,n,v,e3,t1,t2]
theorem r85 (F:Nat) (w:Vector UInt32 64) (a b c d e f g h:UInt32) {i:Nat} (hi:i < 64) :
  L906_7 F gv2 w ((i:Nat):Int) #v[a,b,c,d,e,f,g,h]=some (.inl (((i + 1:Nat):Int),#v[t1 e f g h gv2[i] w[i] + t2 a b c,a,b,c,d + t1 e f g h gv2[i] w[i],e,f,g])):=by
 have h1:(((i:Nat):Int) < 64):=by omega
 have e3:w64 (((i:Nat):Int) + 1)=((i + 1:Nat):Int):=by rw [w64_in (by omega) (by omega)];omega
 have n:inb 64 ((i:Nat):Int)=some i:=inb_nat (by omega)
 have v:vat w i=some w[i]:=vat_nat hi
 have x:vat gv2 i=some gv2[i]:=vat_nat hi
 have y0:vat #v[a,b,c,d,e,f,g,h] 0=some a:=rfl
 have y1:vat #v[a,b,c,d,e,f,g,h] 1=some b:=rfl
 have y2:vat #v[a,b,c,d,e,f,g,h] 2=some c:=rfl
 have y3:vat #v[a,b,c,d,e,f,g,h] 3=some d:=rfl
 have y4:vat #v[a,b,c,d,e,f,g,h] 4=some e:=rfl
 have y5:vat #v[a,b,c,d,e,f,g,h] 5=some f:=rfl
 have y6:vat #v[a,b,c,d,e,f,g,h] 6=some g:=rfl
 have y7:vat #v[a,b,c,d,e,f,g,h] 7=some h:=rfl
 simp only [L906_7,L906_7c,h1,decide_true,cond_true,y0,y1,y2,y3,y4,y5,y6,y7,a93_6,a93_11,a93_25,a93_2,a93_13,a93_22,Option.bind_some,x,n,v,e3,t1,t2]
abbrev O8:=UInt32×UInt32×UInt32×UInt32×UInt32×UInt32×UInt32×UInt32
abbrev O9:=UInt32×UInt32×UInt32×UInt32×UInt32×UInt32×UInt32×UInt32×Int
def v8 (z:O8):Vector UInt32 8:=#v[z.1,z.2.1,z.2.2.1,z.2.2.2.1,z.2.2.2.2.1,z.2.2.2.2.2.1,z.2.2.2.2.2.2.1,z.2.2.2.2.2.2.2]
theorem rounds {F:Nat} (hF:100 < F) (w:Vector UInt32 64) (z:O8):∃ z':O8,
  iter (fun s:O9=>L153x1_5 F w s.1 s.2.1 s.2.2.1 s.2.2.2.1 s.2.2.2.2.1 s.2.2.2.2.2.1 s.2.2.2.2.2.2.1 s.2.2.2.2.2.2.2.1 s.2.2.2.2.2.2.2.2) F (z.1,z.2.1,z.2.2.1,z.2.2.2.1,z.2.2.2.2.1,z.2.2.2.2.2.1,z.2.2.2.2.2.2.1,z.2.2.2.2.2.2.2,(0:Int))=some z' ∧
  iter (fun s:Int×Vector UInt32 8=>L906_7 F gv2 w s.1 s.2) F ((0:Int),v8 z)=some (v8 z'):=by
 obtain ⟨r,r',b1,b2,b3⟩:=iter2 (f:=fun s:O9=>L153x1_5 F w s.1 s.2.1 s.2.2.1 s.2.2.2.1 s.2.2.2.2.1 s.2.2.2.2.2.1 s.2.2.2.2.2.2.1 s.2.2.2.2.2.2.2.1 s.2.2.2.2.2.2.2.2) (g:=fun s:Int×Vector UInt32 8=>L906_7 F gv2 w s.1 s.2)
  (fun s t=>t=(s.2.2.2.2.2.2.2.2,#v[s.1,s.2.1,s.2.2.1,s.2.2.2.1,s.2.2.2.2.1,s.2.2.2.2.2.1,s.2.2.2.2.2.2.1,s.2.2.2.2.2.2.2.1])∧∃ i:Nat,s.2.2.2.2.2.2.2.2=i∧i≤64) (fun r r'=>r'=v8 r) (fun s=>64 - s.2.2.2.2.2.2.2.2.toNat) (by
   rintro ⟨a,b,c,d,e,f,g,h,j⟩ t ⟨rfl,i,hi,h64⟩
   simp only at hi
   subst hi
   by_cases hi:i < 64
   ·exact .inl ⟨_,_,r91 F w a b c d e f g h hi,r85 F w a b c d e f g h hi,⟨rfl,i + 1,rfl,by omega⟩,by simp only [Int.toNat_natCast];omega⟩
   ·obtain rfl:i=64:=by omega
    exact .inr ⟨_,_,rfl,rfl,rfl⟩) F F (z.1,z.2.1,z.2.2.1,z.2.2.2.1,z.2.2.2.2.1,z.2.2.2.2.2.1,z.2.2.2.2.2.2.1,z.2.2.2.2.2.2.2,(0:Int)) ((0:Int),v8 z) ⟨rfl,0,rfl,by omega⟩ (by simp only [Int.toNat_zero];omega) (by simp only [Int.toNat_zero];omega)
 subst b3
 exact ⟨r,b1,b2⟩
theorem last {F:Nat} (hF:100 < F) (x p:Vector UInt32 8):∃ r,iter (fun s:Int×Vector UInt32 8=>L153x1_6 F x p s.1 s.2) F ((0:Int),p)=some r∧iter (fun s:Int×Vector UInt32 8=>L906_8 F p s.1 s.2) F ((0:Int),x)=some r:=by
 obtain ⟨r,r',b1,b2,b3⟩:=iter2 (f:=fun s:Int×Vector UInt32 8=>L153x1_6 F x p s.1 s.2) (g:=fun s:Int×Vector UInt32 8=>L906_8 F p s.1 s.2)
  (fun s t=>s.1=t.1∧∃ i:Nat,s.1=i∧i≤8∧(∀ j (hj:j < 8),j < i->s.2[j]=t.2[j])∧∀ j (hj:j < 8),i≤j->t.2[j]=x[j]) (fun r r'=>r=r') (fun s=>8 - s.1.toNat) (by
   rintro ⟨a,u⟩ ⟨a',v⟩ ⟨rfl,i,hi,h8,hu,hv⟩
   simp only at hi hu hv
   subst hi
   by_cases h:i < 8
   ·have h1:(((i:Nat):Int) < 8):=by omega
    have e3:w64 (((i:Nat):Int) + 1)=((i + 1:Nat):Int):=by rw [w64_in (by omega) (by omega)];omega
    have n:inb 8 ((i:Nat):Int)=some i:=inb_nat h
    have s1:L153x1_6 F x p ((i:Nat):Int) u=some (.inl (((i + 1:Nat):Int),u.setIfInBounds i (p[i] + x[i]))):=by
     simp only [L153x1_6,L153x1_6c,h1,decide_true,cond_true,vix_nat h,n,vat_nat (v:=p) h,Option.bind_some,e3]
    have s2:L906_8 F p ((i:Nat):Int) v=some (.inl (((i + 1:Nat):Int),v.setIfInBounds i (v[i] + p[i]))):=by
     simp only [L906_8,L906_8c,h1,decide_true,cond_true,n,vat_nat (v:=p) h,vat_nat (v:=v) h,Option.bind_some,e3]
    refine .inl ⟨_,_,s1,s2,⟨rfl,i + 1,rfl,by omega,fun j hj hji=>?_,fun j hj hij=>?_⟩,by simp only [Int.toNat_natCast];omega⟩
    ·simp only [Vector.getElem_setIfInBounds]
     by_cases e:i=j
     ·subst e
      simp only [if_true]
      rw [hv i hj (Nat.le_refl _),UInt32.add_comm]
     ·rw [if_neg e,if_neg e]
      exact hu j hj (by omega)
    ·simp only [Vector.getElem_setIfInBounds]
     rw [if_neg (by omega)]
     exact hv j hj (by omega)
   ·obtain rfl:i=8:=by omega
    exact .inr ⟨u,v,rfl,rfl,Vector.ext fun j hj=>hu j hj hj⟩) F F ((0:Int),p) ((0:Int),x) ⟨rfl,0,rfl,by omega,fun j hj h0=>absurd h0 (by omega),fun j hj _=>rfl⟩ (by simp only [Int.toNat_zero];omega) (by simp only [Int.toNat_zero];omega)
 subst b3
 exact ⟨r,b1,b2⟩
theorem vec8 (v:Vector UInt32 8):v8 (v[0],v[1],v[2],v[3],v[4],v[5],v[6],v[7])=v:=by
 apply Vector.ext
 intro i hi
 match i,hi with
 | 0,_=>rfl
 | 1,_=>rfl
 | 2,_=>rfl
 | 3,_=>rfl
 | 4,_=>rfl
 | 5,_=>rfl
 | 6,_=>rfl
 | 7,_=>rfl
theorem k92 (F:Nat):T904 F=some gv2:=rfl
theorem t91 {F:Nat} (hF:100 < F) {p:List UInt8} (hp:p.length=64) (h:Vector UInt32 8):∃ r,T153x1 F p h=some r∧T906 F h p=some r:=by
 obtain ⟨w,w0,a1,a2,a3⟩:=sched hF hp
 obtain ⟨z,b1,b2⟩:=rounds hF w (h[0],h[1],h[2],h[3],h[4],h[5],h[6],h[7])
 rw [vec8] at b2
 obtain ⟨r,c1,c2⟩:=last hF (v8 z) h
 refine ⟨r,?_,?_⟩
 ·simp only [T153x1,T153x1c,a1,Option.bind_some,vat_nat (v:=h) (show 0 < 8 by omega),vat_nat (v:=h) (show 1 < 8 by omega),vat_nat (v:=h) (show 2 < 8 by omega),vat_nat (v:=h) (show 3 < 8 by omega),vat_nat (v:=h) (show 4 < 8 by omega),vat_nat (v:=h) (show 5 < 8 by omega),vat_nat (v:=h) (show 6 < 8 by omega),vat_nat (v:=h) (show 7 < 8 by omega)]
  simp only [b1,Option.bind_some]
  exact (congrArg (fun o=>Option.bind o fun z=>some z) c1)
 ·simp only [T906,T906c,k92,Option.bind_some,a2,a3,b2,c2]
theorem t91v {F:Nat} (hF:100 < F) (v:Vector UInt8 64) (h:Vector UInt32 8):T153 F (0,64) h v=T153x1 F v.toList h:=by
 obtain ⟨w,a1,a2⟩:=schedv hF v
 simp only [T153,T153c,T153x1,T153x1c,a1,a2,Option.bind_some]
 rfl
def B (F:Nat) (h:Vector UInt32 8) (p:List UInt8):Vector UInt32 8:=(T906 F h p).getD h
theorem b85 {F:Nat} (hF:100 < F) {p:List UInt8} (hp:p.length=64) (h:Vector UInt32 8):T906 F h p=some (B F h p):=by
 obtain ⟨r,h1,h2⟩:=t91 hF hp h
 simp only [B,h2,Option.getD_some]
theorem b91 {F:Nat} (hF:100 < F) {p:List UInt8} (hp:p.length=64) (h:Vector UInt32 8):T153x1 F p h=some (B F h p):=by
 obtain ⟨r,h1,h2⟩:=t91 hF hp h
 simp only [B,h1,h2,Option.getD_some]
theorem b91v {F:Nat} (hF:100 < F) (v:Vector UInt8 64) (h:Vector UInt32 8):T153 F (0,64) h v=some (B F h v.toList):=by
 rw [t91v hF,b91 hF (by simp)]
def hN (F:Nat):Nat->List UInt8->Vector UInt32 8
 | 0,_=>gv0
 | k + 1,m=>B F (hN F k m) ((m.drop (64 * k)).take 64)
theorem hN_app (F:Nat) (m x:List UInt8):∀ k,64 * k≤m.length->hN F k (m ++ x)=hN F k m
 | 0,_=>rfl
 | k + 1,h=>by
  simp only [hN]
  rw [hN_app F m x k (by omega),List.drop_append_of_le_length (by omega),List.take_append_of_le_length (by simp;omega)]
structure Inv (F:Nat) (m:List UInt8) (h:Vector UInt32 8) (b:Vector UInt8 64) (n:Int):Prop where
 len:n=(m.length:Int)
 words:h=hN F (m.length / 64) m
 rest:b.toList.take (m.length % 64)=m.drop (64 * (m.length / 64))
theorem tmod64 (a:Nat):Int.tmod ((a:Nat):Int) 64=((a % 64:Nat):Int):=by
 rw [Int.tmod_eq_emod_of_nonneg (by omega)];omega
theorem lp82 {F:Nat} (hF:100 < F) (M:List UInt8):∀ (fuel k:Nat),64 * k≤M.length->(M.length - 64 * k) / 64 < fuel ->
  iter (fun s:List UInt8×Vector UInt32 8=>L123_4 F s.1 s.2) fuel (M.drop (64 * k),hN F k M)=some (M.drop (64 * (M.length / 64)),hN F (M.length / 64) M)
 | 0,k,hk,hf=>absurd hf (by omega)
 | fuel + 1,k,hk,hf=>by
  by_cases h:64≤M.length - 64 * k
  ·have h1:((64:Int)≤((M.drop (64 * k)).length:Int)):=by simp;omega
   have g1:gsl (M.drop (64 * k)) (0:Int) (64:Int)=some ((M.drop (64 * k)).take 64):=gsl_nat (a:=0) (b:=64) (by omega) (by simp;omega)
   have g2:gsl (M.drop (64 * k)) (64:Int) ((M.drop (64 * k)).length:Int)=some (M.drop (64 * (k + 1))):=by
    have:=gsl_nat (l:=M.drop (64 * k)) (a:=64) (b:=(M.drop (64 * k)).length) (by simp;omega) (Nat.le_refl _)
    refine Eq.trans this ?_
    rw [List.take_of_length_le (by simp only [List.length_drop];omega),List.drop_drop]
    congr 2
   have step:L123_4 F (M.drop (64 * k)) (hN F k M)=some (.inl (M.drop (64 * (k + 1)),hN F (k + 1) M)):=by
    simp only [L123_4,L123_4c,h1,decide_true,cond_true,g1,g2,Option.bind_some,b91 hF (show ((M.drop (64 * k)).take 64).length=64 by simp;omega),hN]
   refine (it_again (f:=fun s:List UInt8×Vector UInt32 8=>L123_4 F s.1 s.2) (s:=(M.drop (64 * k),hN F k M)) step).trans ?_
   exact lp82 hF M fuel (k + 1) (by omega) (by omega)
  ·have h1:¬ ((64:Int)≤((M.drop (64 * k)).length:Int)):=by simp;omega
   have hk2:k=M.length / 64:=by omega
   have step:L123_4 F (M.drop (64 * k)) (hN F k M)=some (.inr (M.drop (64 * k),hN F k M)):=by
    simp only [L123_4,L123_4c,h1,decide_false,cond_false]
   refine (it_out (f:=fun s:List UInt8×Vector UInt32 8=>L123_4 F s.1 s.2) (s:=(M.drop (64 * k),hN F k M)) step).trans ?_
   rw [← hk2]
theorem tail82 {F:Nat} (hF:100 < F) (M:List UInt8) (hM:M.length < F) (b:Vector UInt8 64) {k:Nat} (hk:64 * k≤M.length) :
  iter (fun s:List UInt8×Vector UInt32 8=>L123_4 F s.1 s.2) F (M.drop (64 * k),hN F k M)=some (M.drop (64 * (M.length / 64)),hN F (M.length / 64) M) ∧
  (vspl b 0 (M.drop (64 * (M.length / 64))) (M.drop (64 * (M.length / 64))).length).toList.take (M.length % 64)=M.drop (64 * (M.length / 64)):=by
 refine ⟨lp82 hF M F k hk (by omega),?_⟩
 have hl:(M.drop (64 * (M.length / 64))).length=M.length % 64:=by simp;omega
 rw [vspl_toList (by omega) (Nat.le_refl _)]
 simp only [splice,List.take_zero,List.nil_append,List.take_length]
 rw [← hl,List.take_append_of_le_length (Nat.le_refl _),List.take_length]
theorem t82 {F:Nat} {m x:List UInt8} {h:Vector UInt32 8} {b:Vector UInt8 64} {n:Int} (hF:100 + m.length + x.length < F) (hb:m.length + x.length < 1000000000) (hI:Inv F m h b n) :
  ∃ h' b' n',T123 F x h b n=some (h',b',n')∧Inv F (m ++ x) h' b' n':=by
 obtain ⟨rfl,rfl,hr⟩:=hI
 have wn:w64 ((m.length:Int) + (x.length:Int))=((m ++ x).length:Int):=by rw [w64_in (by omega) (by omega)];simp
 have g0:gslb 64 (0:Int) ((64:Nat):Int)=some (0,64):=gslb_nat (a:=0) (by omega) (by omega)
 have hlen:(m ++ x).length=m.length + x.length:=by simp
 by_cases hu:m.length % 64=0
 ·have d:¬ ((0:Int) < ((m.length % 64:Nat):Int)):=by omega
  have s3:L123_3 F x ((m.length % 64:Nat):Int) false (hN F (m.length / 64) m) b=some (.inl (x,hN F (m.length / 64) m,b)):=by
   simp only [L123_3,L123_3c,cond_false]
  obtain ⟨q1,q2⟩:=tail82 (F:=F) (by omega) (m ++ x) (by omega) b (k:=m.length / 64) (by omega)
  have e1:(m ++ x).drop (64 * (m.length / 64))=x:=by
   rw [show 64 * (m.length / 64)=m.length by omega];simp
  rw [e1,hN_app F m x _ (by omega)] at q1
  have hmin:Nat.min ((m ++ x).drop (64 * ((m ++ x).length / 64))).length (64 - 0)=((m ++ x).drop (64 * ((m ++ x).length / 64))).length:=Nat.min_eq_left (by simp;omega)
  refine ⟨hN F ((m ++ x).length / 64) (m ++ x),vspl b 0 ((m ++ x).drop (64 * ((m ++ x).length / 64))) ((m ++ x).drop (64 * ((m ++ x).length / 64))).length,((m ++ x).length:Int),?_,rfl,rfl,q2⟩
  simp only [T123,T123c,tmod64,d,decide_false,s3,Option.bind_some,elimS,q1,g0,hmin,wn]
 ·have d:((0:Int) < ((m.length % 64:Nat):Int)):=by omega
  have g1:gslb 64 ((m.length % 64:Nat):Int) ((64:Nat):Int)=some (m.length % 64,64):=gslb_nat (by omega) (by omega)
  by_cases hc:x.length < 64 - m.length % 64
  ·have hmin:Nat.min x.length (64 - m.length % 64)=x.length:=Nat.min_eq_left (by omega)
   have g2:gsl x (x.length:Int) (x.length:Int)=some []:=by
    rw [gsl_nat (Nat.le_refl _) (Nat.le_refl _)];simp
   have w:w64 (((m.length % 64:Nat):Int) + (x.length:Int))=((m.length % 64 + x.length:Nat):Int):=by rw [w64_in (by omega) (by omega)];omega
   have d2:(((m.length % 64 + x.length:Nat):Int) < 64):=by omega
   have s3:L123_3 F x ((m.length % 64:Nat):Int) true (hN F (m.length / 64) m) b=some (.inr (vspl b (m.length % 64) x x.length)):=by
    simp only [L123_3,L123_3c,cond_true,g1,Option.bind_some,hmin,g2,w,d2,decide_true]
   refine ⟨hN F (m.length / 64) m,vspl b (m.length % 64) x x.length,((m ++ x).length:Int),?_,rfl,?_,?_⟩
   ·simp only [T123,T123c,tmod64,d,decide_true,s3,Option.bind_some,elimS,wn]
   ·rw [hlen,show (m.length + x.length) / 64=m.length / 64 by omega,hN_app F m x _ (by omega)]
   ·rw [hlen,show (m.length + x.length) / 64=m.length / 64 by omega,show (m.length + x.length) % 64=m.length % 64 + x.length by omega,vspl_toList (by omega) (Nat.le_refl _)]
    simp only [splice,List.take_length]
    rw [hr,List.drop_append_of_le_length (by omega)]
    rw [List.take_append_of_le_length (by simp;omega),List.take_of_length_le (by simp;omega)]
  ·have hmin:Nat.min x.length (64 - m.length % 64)=64 - m.length % 64:=Nat.min_eq_right (by omega)
   have g2:gsl x ((64 - m.length % 64:Nat):Int) (x.length:Int)=some (x.drop (64 - m.length % 64)):=by
    rw [gsl_nat (by omega) (Nat.le_refl _),List.take_of_length_le (by simp)]
   have w:w64 (((m.length % 64:Nat):Int) + ((64 - m.length % 64:Nat):Int))=64:=by rw [w64_in (by omega) (by omega)];omega
   have d2:¬ ((64:Int) < 64):=by omega
   have hbl:(vspl b (m.length % 64) x (64 - m.length % 64)).toList=((m ++ x).drop (64 * (m.length / 64))).take 64:=by
    rw [vspl_toList (by omega) (by omega)]
    simp only [splice]
    have hz:b.toList.drop (m.length % 64 + (64 - m.length % 64))=[]:=List.drop_of_length_le (by rw [Vector.length_toList];omega)
    have hdl:(m.drop (64 * (m.length / 64))).length=m.length % 64:=by rw [List.length_drop];omega
    rw [hr,hz,List.append_nil,List.drop_append_of_le_length (by omega),List.take_append,List.take_of_length_le (l:=m.drop (64 * (m.length / 64))) (by omega),hdl]
   have s3:L123_3 F x ((m.length % 64:Nat):Int) true (hN F (m.length / 64) m) b=some (.inl (x.drop (64 - m.length % 64),hN F (m.length / 64 + 1) (m ++ x),vspl b (m.length % 64) x (64 - m.length % 64))):=by
    simp only [L123_3,L123_3c,cond_true,g1,Option.bind_some,hmin,g2,w,d2,decide_false,cond_false,g0,b91v (show 100 < F by omega),hbl,hN,hN_app F m x (m.length / 64) (by omega)]
   obtain ⟨q1,q2⟩:=tail82 (F:=F) (by omega) (m ++ x) (by omega) (vspl b (m.length % 64) x (64 - m.length % 64)) (k:=m.length / 64 + 1) (by omega)
   have e1:(m ++ x).drop (64 * (m.length / 64 + 1))=x.drop (64 - m.length % 64):=by
    rw [List.drop_append,List.drop_of_length_le (by omega),List.nil_append]
    congr 1;omega
   rw [e1] at q1
   have hmin2:Nat.min ((m ++ x).drop (64 * ((m ++ x).length / 64))).length (64 - 0)=((m ++ x).drop (64 * ((m ++ x).length / 64))).length:=Nat.min_eq_left (by simp;omega)
   refine ⟨hN F ((m ++ x).length / 64) (m ++ x),vspl (vspl b (m.length % 64) x (64 - m.length % 64)) 0 ((m ++ x).drop (64 * ((m ++ x).length / 64))) ((m ++ x).drop (64 * ((m ++ x).length / 64))).length,((m ++ x).length:Int),?_,rfl,rfl,q2⟩
   simp only [T123,T123c,tmod64,d,decide_true,s3,Option.bind_some,elimS,q1,g0,hmin2,wn]
theorem gapp_ok {α:Type} {xs ys:List α} (h:xs.length + ys.length≤1099511627776):gapp xs ys=some (xs ++ ys):=by unfold gapp;rw [if_pos h]
theorem padz {F:Nat} {m:List UInt8} (hF:300 < F) (hb:m.length < 1000000000) (h:Vector UInt32 8) (b:Vector UInt8 64):∃ p:List UInt8,p.length≤64∧1≤p.length∧(m.length + p.length) % 64=56 ∧
  iter (fun s:List UInt8=>L124_4 F (h,b,(m.length:Int),()) s) F [(UInt8.ofNat 128)]=some p∧iter (fun s:List UInt8=>L903_3 F s) F (m ++ [(UInt8.ofNat 128)])=some (m ++ p):=by
 obtain ⟨r,r',b1,b2,b3,b4,b5⟩:=iter2 (f:=fun s:List UInt8=>L124_4 F (h,b,(m.length:Int),()) s) (g:=fun s:List UInt8=>L903_3 F s)
  (fun s t=>t=m ++ s∧1≤s.length∧s.length≤(119 - m.length % 64) % 64 + 1) (fun r r'=>r'=m ++ r∧(1≤r.length∧r.length≤64)∧(m.length + r.length) % 64=56) (fun s=>65 - s.length) (by
   rintro s t ⟨rfl,h1,h2⟩
   have w:w64 ((m.length:Int) + (s.length:Int))=((m.length + s.length:Nat):Int):=by rw [w64_in (by omega) (by omega)];omega
   have hl:((m ++ s).length:Int)=((m.length + s.length:Nat):Int):=by simp
   by_cases hc:(m.length + s.length) % 64=56
   ·have e:((((m.length + s.length) % 64:Nat):Int) != 56)=false:=by rw [hc];rfl
    refine .inr ⟨s,m ++ s,?_,?_,rfl,⟨h1,by omega⟩,hc⟩
    ·simp only [L124_4,L124_4c,w,tmod64,e,cond_false]
    ·simp only [L903_3,L903_3c,hl,tmod64,e,cond_false]
   ·have e:((((m.length + s.length) % 64:Nat):Int) != 56)=true:=by rw [bne_iff_ne];omega
    refine .inl ⟨s ++ [UInt8.ofNat 0],m ++ s ++ [UInt8.ofNat 0],?_,?_,⟨by simp,by simp,?_⟩,?_⟩
    ·simp only [L124_4,L124_4c,w,tmod64,e,cond_true,gapp_ok (show s.length + [UInt8.ofNat 0].length≤1099511627776 by simp;omega),Option.bind_some]
    ·simp only [L903_3,L903_3c,hl,tmod64,e,cond_true,gapp_ok (show (m ++ s).length + [UInt8.ofNat 0].length≤1099511627776 by simp;omega),Option.bind_some]
    ·simp only [List.length_append,List.length_cons,List.length_nil];omega
    ·simp only [List.length_append,List.length_cons,List.length_nil];omega) F F [(UInt8.ofNat 128)] (m ++ [(UInt8.ofNat 128)]) ⟨rfl,by simp,by simp⟩ (by simp;omega) (by simp;omega)
 subst b3
 exact ⟨r,b4.2,b4.1,b5,b1,b2⟩
theorem padc {F:Nat} {m p:List UInt8} (hF:300 < F) (hb:m.length < 1000000000) (hp:p.length≤64) (c:UInt64):∃ q:List UInt8,q.length=p.length + 8 ∧
  iter (fun s:Int×List UInt8=>L124_5 F c s.1 s.2) F ((56:Int),p)=some q∧iter (fun s:Int×List UInt8=>L903_4 F c s.1 s.2) F ((7:Int),m ++ p)=some (m ++ q):=by
 obtain ⟨r,r',b1,b2,b3,b4⟩:=iter2 (f:=fun s:Int×List UInt8=>L124_5 F c s.1 s.2) (g:=fun s:Int×List UInt8=>L903_4 F c s.1 s.2)
  (fun s t=>∃ i:Nat,i≤8∧s.1=8 * (i:Int) - 8∧t.1=(i:Int) - 1∧t.2=m ++ s.2∧s.2.length + i=p.length + 8) (fun r r'=>r'=m ++ r∧r.length=p.length + 8) (fun s=>(s.1 + 8).toNat) (by
   rintro ⟨a,s⟩ ⟨a',t⟩ ⟨i,h8,h1,h2,h3,h4⟩
   simp only at h1 h2 h3 h4
   subst h1 h2 h3
   cases i with
   | zero=>
    refine .inr ⟨s,m ++ s,?_,?_,rfl,by omega⟩
    ·have d:¬ ((0:Int)≤8 * ((0:Nat):Int) - 8):=by omega
     simp only [L124_5,L124_5c,d,decide_false,cond_false]
    ·have d:¬ ((0:Int)≤((0:Nat):Int) - 1):=by omega
     simp only [L903_4,L903_4c,d,decide_false,cond_false]
   | succ i=>
    have e1:8 * ((i + 1:Nat):Int) - 8=((8 * i:Nat):Int):=by omega
    have e2:((i + 1:Nat):Int) - 1=((i:Nat):Int):=by omega
    rw [e1,e2]
    have d1:((0:Int)≤((8 * i:Nat):Int)):=by omega
    have d2:((0:Int)≤((i:Nat):Int)):=by omega
    have n1:gnn ((8 * i:Nat):Int)=some (8 * i):=by unfold gnn;rw [if_pos d1];simp only [Int.toNat_natCast]
    have w0:w64 ((8:Int) * ((i:Nat):Int))=((8 * i:Nat):Int):=by rw [w64_in (by omega) (by omega)];omega
    have w1:w64 (((8 * i:Nat):Int) - 8)=8 * (i:Int) - 8:=by rw [w64_in (by omega) (by omega)];omega
    have w2:w64 (((i:Nat):Int) - 1)=(i:Int) - 1:=by rw [w64_in (by omega) (by omega)]
    refine .inl ⟨(8 * (i:Int) - 8,s ++ [(shr64 c (8 * i)).toUInt8]),((i:Int) - 1,m ++ s ++ [(shr64 c (8 * i)).toUInt8]),?_,?_,⟨i,by omega,rfl,rfl,by simp,by simp;omega⟩,?_⟩
    ·simp only [L124_5,L124_5c,d1,decide_true,cond_true,n1,Option.bind_some,gapp_ok (show s.length + [(shr64 c (8 * i)).toUInt8].length≤1099511627776 by simp;omega),w1]
    ·simp only [L903_4,L903_4c,d2,decide_true,cond_true,w0,n1,Option.bind_some,gapp_ok (show (m ++ s).length + [(shr64 c (8 * i)).toUInt8].length≤1099511627776 by simp;omega),w2]
    ·simp only;omega) F F ((56:Int),p) ((7:Int),m ++ p) ⟨8,by omega,by omega,by omega,rfl,rfl⟩ (by simp only;omega) (by simp only;omega)
 subst b3
 exact ⟨r,b4,b1,b2⟩
theorem outs {F:Nat} (hF:300 < F) (h:Vector UInt32 8):∃ d:List UInt8,d.length=32∧iter (fun s:Int×List UInt8=>L124_6 F h s.1 s.2) F ((0:Int),([]:List UInt8))=some d∧iter (fun s:Int×List UInt8=>L907_4 F h s.1 s.2) F ((0:Int),([]:List UInt8))=some d:=by
 obtain ⟨r,r',b1,b2,b3,b4⟩:=iter2 (f:=fun s:Int×List UInt8=>L124_6 F h s.1 s.2) (g:=fun s:Int×List UInt8=>L907_4 F h s.1 s.2)
  (fun s t=>s=t∧∃ i:Nat,s.1=i∧i≤8∧s.2.length=4 * i) (fun r r'=>r'=r∧r.length=32) (fun s=>8 - s.1.toNat) (by
   rintro ⟨a,s⟩ t ⟨rfl,i,hi,h8,hl⟩
   simp only at hi hl
   subst hi
   by_cases hlt:i < 8
   ·have h1:(((i:Nat):Int) < 8):=by omega
    have e3:w64 (((i:Nat):Int) + 1)=((i + 1:Nat):Int):=by rw [w64_in (by omega) (by omega)];omega
    have n:inb 8 ((i:Nat):Int)=some i:=inb_nat hlt
    have ga:gapp s [((shr32 h[i] ((UInt64.ofNat 24).toNat)).toUInt8),((shr32 h[i] ((UInt64.ofNat 16).toNat)).toUInt8),((shr32 h[i] ((UInt64.ofNat 8).toNat)).toUInt8),(h[i].toUInt8)]=some (s ++ [((shr32 h[i] ((UInt64.ofNat 24).toNat)).toUInt8),((shr32 h[i] ((UInt64.ofNat 16).toNat)).toUInt8),((shr32 h[i] ((UInt64.ofNat 8).toNat)).toUInt8),(h[i].toUInt8)]):=gapp_ok (by simp [hl];omega)
    refine .inl ⟨(((i + 1:Nat):Int),s ++ [((shr32 h[i] ((UInt64.ofNat 24).toNat)).toUInt8),((shr32 h[i] ((UInt64.ofNat 16).toNat)).toUInt8),((shr32 h[i] ((UInt64.ofNat 8).toNat)).toUInt8),(h[i].toUInt8)]),(((i + 1:Nat):Int),s ++ [((shr32 h[i] ((UInt64.ofNat 24).toNat)).toUInt8),((shr32 h[i] ((UInt64.ofNat 16).toNat)).toUInt8),((shr32 h[i] ((UInt64.ofNat 8).toNat)).toUInt8),(h[i].toUInt8)]),?_,?_,⟨rfl,i + 1,rfl,by omega,?_⟩,by simp only [Int.toNat_natCast];omega⟩
    ·simp only [L124_6,L124_6c,h1,decide_true,cond_true,vix_nat (v:=h) hlt,Option.bind_some,ga,e3]
    ·simp only [L907_4,L907_4c,h1,decide_true,cond_true,n,vat_nat (v:=h) hlt,Option.bind_some,ga,e3]
    ·simp [hl];omega
   ·obtain rfl:i=8:=by omega
    exact .inr ⟨s,s,rfl,rfl,rfl,hl⟩) F F ((0:Int),([]:List UInt8)) ((0:Int),([]:List UInt8)) ⟨rfl,0,rfl,by omega,rfl⟩ (by simp only [Int.toNat_zero];omega) (by simp only [Int.toNat_zero];omega)
 subst b3
 exact ⟨r',b4,b1,b2⟩
theorem lp68 {F:Nat} (hF:100 < F) {M:List UInt8} {K:Nat} (hM:M.length=64 * K) (hb:M.length < 2000000000):∀ (j fuel k:Nat),k + j=K->j < fuel ->
  iter (fun s:Int×Vector UInt32 8=>L907_3 F M s.1 s.2) fuel (((64 * k:Nat):Int),hN F k M)=some (hN F K M)
 | j,0,k,hk,hf=>absurd hf (by omega)
 | 0,fuel + 1,k,hk,hf=>by
  have h1:¬ (((64 * k:Nat):Int) < (M.length:Int)):=by omega
  obtain rfl:k=K:=by omega
  have step:L907_3 F M ((64 * k:Nat):Int) (hN F k M)=some (.inr (hN F k M)):=by
   simp only [L907_3,L907_3c,h1,decide_false,cond_false]
  exact it_out (f:=fun s:Int×Vector UInt32 8=>L907_3 F M s.1 s.2) (s:=(((64 * k:Nat):Int),hN F k M)) step
 | j + 1,fuel + 1,k,hk,hf=>by
  have h1:(((64 * k:Nat):Int) < (M.length:Int)):=by omega
  have w:w64 (((64 * k:Nat):Int) + 64)=((64 * (k + 1):Nat):Int):=by rw [w64_in (by omega) (by omega)];omega
  have g:gslb M.length ((64 * k:Nat):Int) ((64 * (k + 1):Nat):Int)=some (64 * k,64 * (k + 1)):=gslb_nat (by omega) (by omega)
  have e:64 * (k + 1) - 64 * k=64:=by omega
  have step:L907_3 F M ((64 * k:Nat):Int) (hN F k M)=some (.inl (((64 * (k + 1):Nat):Int),hN F (k + 1) M)):=by
   simp only [L907_3,L907_3c,h1,decide_true,cond_true,w,g,Option.bind_some,e,b85 hF (show ((M.drop (64 * k)).take 64).length=64 by simp;omega),hN]
  refine (it_again (f:=fun s:Int×Vector UInt32 8=>L907_3 F M s.1 s.2) (s:=(((64 * k:Nat):Int),hN F k M)) step).trans ?_
  exact lp68 hF hM hb j fuel (k + 1) (by omega) (by omega)
theorem sum_eq {F:Nat} {m:List UInt8} {h:Vector UInt32 8} {b:Vector UInt8 64} {n:Int} (hF:400 + m.length < F) (hb:m.length < 100000000) (hI:Inv F m h b n) :
  ∃ d,T124 F (h,b,n,())=some d∧T907 F m=some d∧d.length=32:=by
 have hn:=hI.len
 subst hn
 obtain ⟨p,p1,p2,p3,p4,p5⟩:=padz (F:=F) (m:=m) (by omega) (by omega) h b
 obtain ⟨q,q1,q2,q3⟩:=padc (F:=F) (m:=m) (p:=p) (by omega) (by omega) p1 ((UInt64.ofInt (m.length:Int)) * (UInt64.ofNat 8))
 obtain ⟨h',b',n',t1,t2⟩:=t82 (x:=q) (by omega) (by omega) hI
 obtain ⟨d,d1,d2,d3⟩:=outs (F:=F) (by omega) h'
 have g0:gmake (0:UInt8) (0:Int) (32:Int)=some []:=by decide +kernel
 have hl:(m ++ q).length=m.length + q.length:=by simp
 have hK:(m ++ q).length=64 * ((m ++ q).length / 64):=by omega
 have l:=lp68 (F:=F) (by omega) hK (by omega) ((m ++ q).length / 64) F 0 (by omega) (by omega)
 rw [← t2.words] at l
 refine ⟨d,?_,?_,d1⟩
 ·simp only [T124,T124c,p4,Option.bind_some,q2,t1,g0,d2]
 ·have ga:gapp ([]:List UInt8) m=some m:=by rw [gapp_ok (by simp;omega)];rfl
  have gb:gapp m [UInt8.ofNat 128]=some (m ++ [UInt8.ofNat 128]):=gapp_ok (by simp;omega)
  have h84:T903 F m=some (m ++ q):=by
   simp only [T903,T903c,ga,gb,Option.bind_some,p5,q3]
  simp only [T907,T907c,h84,Option.bind_some]
  refine Eq.trans (congrArg (fun o=>Option.bind o _) l) ?_
  simp only [Option.bind_some,d3]
theorem inv0 (F:Nat):Inv F [] gv0 (Vector.replicate 64 (0:UInt8)) 0:=⟨rfl,rfl,rfl⟩
theorem t79 {F:Nat} {ls:List (List UInt8)} (hF:400 + ls.flatten.length + ls.length < F) (hb:ls.flatten.length < 100000000) (hl:ls.length < 1000):∃ d,T126 F ls=some d∧T907 F ls.flatten=some d∧d.length=32:=by
 obtain ⟨r,b1,b2⟩:=iter1 (f:=fun s:Int×Vector UInt32 8×Vector UInt8 64×Int=>L126_2 F ls (ls.length:Int) s.1 s.2.1 s.2.2.1 s.2.2.2)
  (fun s=>∃ i:Nat,s.1=i∧i≤ls.length∧Inv F (ls.take i).flatten s.2.1 s.2.2.1 s.2.2.2) (fun r=>Inv F ls.flatten r.1 r.2.1 r.2.2) (fun s=>ls.length - s.1.toNat) (by
   rintro ⟨a,h,b,n⟩ ⟨i,hi,hil,hI⟩
   simp only at hi hI
   subst hi
   by_cases hlt:i < ls.length
   ·have h1:(((i:Nat):Int) < (ls.length:Int)):=by omega
    have e3:w64 (((i:Nat):Int) + 1)=((i + 1:Nat):Int):=by rw [w64_in (by omega) (by omega)];omega
    have hs:(ls.take (i + 1)).flatten=(ls.take i).flatten ++ ls[i]:=by
     rw [List.take_succ_eq_append_getElem hlt,List.flatten_append];simp
    have hle:(ls.take (i + 1)).flatten.length≤ls.flatten.length:=by
     conv=>rhs;rw [← List.take_append_drop (i + 1) ls,List.flatten_append,List.length_append]
     omega
    rw [hs,List.length_append] at hle
    have gs:gstr ls[i]=some ls[i]:=by unfold gstr;rw [if_pos (by omega)]
    obtain ⟨h',b',n',t1,t2⟩:=t82 (x:=ls[i]) (by omega) (by omega) hI
    refine .inl ⟨(((i + 1:Nat):Int),h',b',n'),?_,⟨i + 1,rfl,by omega,?_⟩,by simp only [Int.toNat_natCast];omega⟩
    ·simp only [L126_2,L126_2c,h1,decide_true,cond_true,ix_nat hlt,Option.bind_some,gs,t1,e3]
    ·rw [hs];exact t2
   ·obtain rfl:i=ls.length:=by omega
    have h1:¬ (((ls.length:Nat):Int) < (ls.length:Int)):=by omega
    rw [List.take_length] at hI
    refine .inr ⟨(h,b,n),?_,hI⟩
    simp only [L126_2,L126_2c,h1,decide_false,cond_false]) F ((0:Int),gv0,Vector.replicate 64 (0:UInt8),(0:Int)) ⟨0,rfl,by omega,inv0 F⟩ (by simp only [Int.toNat_zero];omega)
 obtain ⟨d,d1,d2,d3⟩:=sum_eq (by omega) hb b2
 refine ⟨d,?_,d2,d3⟩
 simp only [T126,T126c,T122,T122c,Option.bind_some,b1,d1]
def xk (k:List UInt8) (x:UInt8):List UInt8:=(k ++ List.replicate (64 - k.length) 0).map (fun y=>y ^^^ x)
theorem xk_len {k:List UInt8} (h:k.length≤64) (x:UInt8):(xk k x).length=64:=by simp [xk];omega
theorem t80 {F:Nat} (hF:400 < F) (x:UInt8) (v:Vector UInt8 64):∃ r,T161 F x v=some r∧r.toList=v.toList.map (fun y=>y ^^^ x):=by
 obtain ⟨r,b1,b2⟩:=iter1 (f:=fun s:Int×Vector UInt8 64=>L161_2 F x v s.1 s.2)
  (fun s=>∃ i:Nat,s.1=i∧i≤64∧∀ j (hj:j < 64),j < i->s.2[j]=v[j] ^^^ x) (fun r=>r.toList=v.toList.map (fun y=>y ^^^ x)) (fun s=>64 - s.1.toNat) (by
   rintro ⟨a,u⟩ ⟨i,hi,h64,hu⟩
   simp only at hi hu
   subst hi
   by_cases h:i < 64
   ·have h1:(((i:Nat):Int) < 64):=by omega
    have e3:w64 (((i:Nat):Int) + 1)=((i + 1:Nat):Int):=by rw [w64_in (by omega) (by omega)];omega
    have n:inb 64 ((i:Nat):Int)=some i:=inb_nat h
    refine .inl ⟨(((i + 1:Nat):Int),u.setIfInBounds i (v[i] ^^^ x)),?_,⟨i + 1,rfl,by omega,fun j hj hji=>?_⟩,by simp only [Int.toNat_natCast];omega⟩
    ·simp only [L161_2,L161_2c,h1,decide_true,cond_true,vix_nat (v:=v) h,n,Option.bind_some,e3]
    ·simp only [Vector.getElem_setIfInBounds]
     by_cases e:i=j
     ·subst e;simp only [if_true]
     ·rw [if_neg e];exact hu j hj (by omega)
   ·obtain rfl:i=64:=by omega
    refine .inr ⟨u,rfl,?_⟩
    apply List.ext_getElem (by simp)
    intro j h1 h2
    simp only [Vector.getElem_toList,List.getElem_map]
    have hj:j < 64:=by simpa using h1
    exact hu j hj hj) F ((0:Int),Vector.replicate 64 (0:UInt8)) ⟨0,rfl,by omega,fun j hj h0=>absurd h0 (by omega)⟩ (by simp only [Int.toNat_zero];omega)
 exact ⟨r,by simp only [T161,T161c,b1,Option.bind_some],b2⟩
theorem filled {k:List UInt8} (h:k.length≤64):(vspl (Vector.replicate 64 (0:UInt8)) 0 k k.length).toList=k ++ List.replicate (64 - k.length) 0:=by
 rw [vspl_toList (by omega) (Nat.le_refl _),Vector.toList_replicate]
 simp only [splice,List.take_zero,List.nil_append,List.take_length,Nat.zero_add,List.drop_replicate]
theorem x82_eq:T123x1=T123:=rfl
theorem start65 {F:Nat} (hF:2000 < F) {k:List UInt8} (hk:k.length≤64):∃ o i h b n,T161 F 92 (vspl (Vector.replicate 64 (0:UInt8)) 0 k (Nat.min k.length (64 - 0)))=some o∧T161 F 54 (vspl (Vector.replicate 64 (0:UInt8)) 0 k (Nat.min k.length (64 - 0)))=some i ∧
  T123x1 F ((i.toList.drop 0).take (64 - 0)) gv0 (Vector.replicate 64 (0:UInt8)) 0=some (h,b,n)∧Inv F (xk k 54) h b n∧o.toList=xk k 92:=by
 have hmin:Nat.min k.length (64 - 0)=k.length:=Nat.min_eq_left (by omega)
 rw [hmin]
 obtain ⟨o,o1,o2⟩:=t80 (F:=F) (by omega) 92 (vspl (Vector.replicate 64 (0:UInt8)) 0 k k.length)
 obtain ⟨i,i1,i2⟩:=t80 (F:=F) (by omega) 54 (vspl (Vector.replicate 64 (0:UInt8)) 0 k k.length)
 rw [filled hk] at o2 i2
 have xl:=xk_len hk 54
 obtain ⟨h,b,n,t1,t2⟩:=t82 (F:=F) (m:=[]) (x:=xk k 54) (by simp only [List.length_nil];omega) (by simp only [List.length_nil];omega) (inv0 F)
 rw [List.nil_append] at t2
 refine ⟨o,i,h,b,n,o1,i1,?_,t2,o2⟩
 rw [i2,x82_eq]
 have e:(((k ++ List.replicate (64 - k.length) 0).map (fun y=>y ^^^ (54:UInt8))).drop 0).take (64 - 0)=xk k 54:=by
  rw [List.drop_zero,List.take_of_length_le (by simp;omega)];rfl
 rw [e,t1]
theorem v0_0:vix gv1 (0:Int)=some 54:=rfl
theorem v0_1:vix gv1 (1:Int)=some 92:=rfl
theorem tag_eq {F:Nat} {k d:List UInt8} (hF:2000 + k.length + d.length < F) (hk:k.length < 10000000) (hd:d.length < 10000000):∃ t,T109 F k d=some t∧t.length=32:=by
 have g0:gslb 64 (0:Int) ((64:Nat):Int)=some (0,64):=gslb_nat (a:=0) (by omega) (by omega)
 have key:∀ k':List UInt8,k'.length≤64->∃ h b n o t inner,(T161 F 92 (vspl (Vector.replicate 64 (0:UInt8)) 0 k' (Nat.min k'.length (64 - 0)))=some o∧∃ i,T161 F 54 (vspl (Vector.replicate 64 (0:UInt8)) 0 k' (Nat.min k'.length (64 - 0)))=some i ∧
   T123x1 F ((i.toList.drop 0).take (64 - 0)) gv0 (Vector.replicate 64 (0:UInt8)) 0=some (h,b,n))∧(∃ z,T143 F d h b n=some z∧T144 F z.1 z.2.1 z.2.2 o=some t) ∧
   T907 F (xk k' 54 ++ d)=some inner∧inner.length=32∧T907 F (xk k' 92 ++ inner)=some t∧t.length=32:=by
  intro k' hk'
  obtain ⟨o,i,h,b,n,o1,i1,s1,s2,s3⟩:=start65 (F:=F) (by omega) hk'
  have xl:=xk_len hk' 54
  have xl2:=xk_len hk' 92
  obtain ⟨h2,b2,n2,u1,u2⟩:=t82 (F:=F) (x:=d) (by omega) (by omega) s2
  obtain ⟨inner,v1,v2,v3⟩:=sum_eq (F:=F) (by simp only [List.length_append];omega) (by simp only [List.length_append];omega) u2
  obtain ⟨t,w1,w2,w3⟩:=t79 (F:=F) (ls:=[xk k' 92,inner]) (by simp only [List.flatten_cons,List.flatten_nil,List.length_append,List.length_cons,List.length_nil];omega) (by simp only [List.flatten_cons,List.flatten_nil,List.length_append,List.length_nil];omega) (by simp)
  have hfl:[xk k' 92,inner].flatten=xk k' 92 ++ inner:=by simp
  rw [hfl] at w2
  refine ⟨h,b,n,o,t,inner,⟨o1,i,i1,s1⟩,⟨(h2,b2,n2),?_,?_⟩,v2,v3,w2,w3⟩
  ·simp only [T143,T143c,x82_eq,u1,Option.bind_some]
  ·have e:(o.toList.drop 0).take (64 - 0)=xk k' 92:=by rw [s3,List.drop_zero,List.take_of_length_le (by omega)]
   simp only [T144,T144c,g0,Option.bind_some,v1,e,w1]
 by_cases hlong:64 < k.length
 ·have h1:((64:Int) < (k.length:Int)):=by omega
  obtain ⟨k',a1,a2,a3⟩:=t79 (F:=F) (ls:=[k]) (by simp;omega) (by simp;omega) (by simp)
  have hfl:[k].flatten=k:=by simp
  rw [hfl] at a2
  obtain ⟨h,b,n,o,t,inner,⟨o1,i,i1,s1⟩,⟨z,z1,z2⟩,c1,c2,c3,c4⟩:=key k' (by omega)
  have xl:=xk_len (k:=k') (by omega) 54
  have xl2:=xk_len (k:=k') (by omega) 92
  have h65:T142 F k=some (h,b,n,o):=by
   simp only [T142,T142c,h1,decide_true,cond_true,a1,Option.bind_some,g0,v0_0,v0_1,T122,T122c,o1,i1,s1]
  exact ⟨t,by simp only [T109,T109c,h65,Option.bind_some,z1,z2],c4⟩
 ·have h1:¬ ((64:Int) < (k.length:Int)):=by omega
  obtain ⟨h,b,n,o,t,inner,⟨o1,i,i1,s1⟩,⟨z,z1,z2⟩,c1,c2,c3,c4⟩:=key k (by omega)
  have xl:=xk_len (k:=k) (by omega) 54
  have xl2:=xk_len (k:=k) (by omega) 92
  have h65:T142 F k=some (h,b,n,o):=by
   simp only [T142,T142c,h1,decide_false,cond_false,Option.bind_some,g0,v0_0,v0_1,T122,T122c,o1,i1,s1]
  exact ⟨t,by simp only [T109,T109c,h65,Option.bind_some,z1,z2],c4⟩
end Go.Proofs.YtpnhgldpeiogbaaGreatDoor
namespace Go.Tw
set_option linter.unusedSimpArgs false
set_option linter.unusedVariables false
def gd (x:UInt8):UInt8:=bif (x &&& 128) != 0 then (x <<< 1) ^^^ 29 else x <<< 1
def bit0 (b a:UInt8):UInt8:=bif (b &&& 1) == 1 then a else 0
def gml:Nat->UInt8->UInt8->UInt8
 | 0,_,_=>0
 | n + 1,a,b=>bit0 b a ^^^ gml n (gd a) (b >>> 1)
def gm (a b:UInt8):UInt8:=gml 8 a b
theorem allU {p:UInt8->Prop} (h:∀ i:_root_.Fin 256,p (UInt8.ofNat i.val)) (x:UInt8):p x:=by
 have:=h ⟨x.toNat,x.toNat_lt⟩
 simpa using this
theorem lo1 (b:UInt8):b &&& 1=0∨b &&& 1=1:=allU (p:=fun b=>b &&& 1=0∨b &&& 1=1) (by decide +kernel) b
theorem hi1 (b:UInt8):b &&& 128=0∨b &&& 128=128:=allU (p:=fun b=>b &&& 128=0∨b &&& 128=128) (by decide +kernel) b
theorem and_xor (a b c:UInt8):(a ^^^ b) &&& c=(a &&& c) ^^^ (b &&& c):=by
 apply UInt8.toBitVec_inj.1
 simp only [UInt8.toBitVec_and,UInt8.toBitVec_xor]
 ext i hi
 simp [Bool.and_xor_distrib_right]
theorem shr_xor (a b:UInt8):(a ^^^ b) >>> 1=(a >>> 1) ^^^ (b >>> 1):=by
 apply UInt8.toBitVec_inj.1
 simp only [UInt8.toBitVec_shiftRight,UInt8.toBitVec_xor]
 ext i hi
 simp
theorem shl_xor (a b:UInt8):(a ^^^ b) <<< 1=(a <<< 1) ^^^ (b <<< 1):=by
 apply UInt8.toBitVec_inj.1
 simp only [UInt8.toBitVec_shiftLeft,UInt8.toBitVec_xor]
 ext i hi
 simp [Bool.and_xor_distrib_left]
theorem xz (a:UInt8):a ^^^ 0=a:=by simp
theorem zx (a:UInt8):0 ^^^ a=a:=by simp
theorem xx (a:UInt8):a ^^^ a=0:=by simp
theorem gd_xor (a b:UInt8):gd (a ^^^ b)=gd a ^^^ gd b:=by
 have e1:((0:UInt8) != 0)=false:=rfl
 have e2:((128:UInt8) != 0)=true:=rfl
 have e3:((128 ^^^ 128:UInt8) != 0)=false:=rfl
 have e4:((0 ^^^ 128:UInt8) != 0)=true:=rfl
 have e5:((128 ^^^ 0:UInt8) != 0)=true:=rfl
 have e6:((0 ^^^ 0:UInt8) != 0)=false:=rfl
 unfold gd
 rw [and_xor,shl_xor]
 rcases hi1 a with ha | ha<;>rcases hi1 b with hb | hb<;>rw [ha,hb]<;>simp only [e1,e2,e3,e4,e5,e6,cond_true,cond_false]
 ·rw [UInt8.xor_assoc]
 ·rw [UInt8.xor_assoc,UInt8.xor_assoc,UInt8.xor_comm (b <<< (1:UInt8)) (29:UInt8)]
 ·have:((a <<< (1:UInt8)) ^^^ (29:UInt8)) ^^^ ((b <<< (1:UInt8)) ^^^ (29:UInt8))=((a <<< (1:UInt8)) ^^^ (b <<< (1:UInt8))) ^^^ ((29:UInt8) ^^^ 29):=by ac_rfl
  rw [this,xx,xz]
theorem bit0_xor (b c a:UInt8):bit0 (b ^^^ c) a=bit0 b a ^^^ bit0 c a:=by
 have e1:((0:UInt8) == 1)=false:=rfl
 have e2:((1:UInt8) == 1)=true:=rfl
 have e3:((1 ^^^ 1:UInt8) == 1)=false:=rfl
 have e4:((0 ^^^ 1:UInt8) == 1)=true:=rfl
 have e5:((1 ^^^ 0:UInt8) == 1)=true:=rfl
 have e6:((0 ^^^ 0:UInt8) == 1)=false:=rfl
 unfold bit0
 rw [and_xor]
 rcases lo1 b with hb | hb<;>rcases lo1 c with hc | hc<;>rw [hb,hc]<;>simp only [e1,e2,e3,e4,e5,e6,cond_true,cond_false,xx,xz,zx]
theorem bit0_add (b a c:UInt8):bit0 b (a ^^^ c)=bit0 b a ^^^ bit0 b c:=by
 unfold bit0
 cases (b &&& 1) == 1
 ·simp only [cond_false,xx]
 ·rfl
theorem gml_right:∀ (n:Nat) (a b c:UInt8),gml n a (b ^^^ c)=gml n a b ^^^ gml n a c
 | 0,a,b,c=>by simp only [gml,xx]
 | n + 1,a,b,c=>by
  simp only [gml,bit0_xor,shr_xor,gml_right n]
  ac_rfl
theorem gml_left:∀ (n:Nat) (a b c:UInt8),gml n (a ^^^ b) c=gml n a c ^^^ gml n b c
 | 0,a,b,c=>by simp only [gml,xx]
 | n + 1,a,b,c=>by
  simp only [gml,bit0_add,gd_xor,gml_left n]
  ac_rfl
theorem gm_right (a b c:UInt8):gm a (b ^^^ c)=gm a b ^^^ gm a c:=gml_right 8 a b c
theorem gm_left (a b c:UInt8):gm (a ^^^ b) c=gm a c ^^^ gm b c:=gml_left 8 a b c
def pick1 (b m:UInt8):UInt8:=bif (b &&& m) != 0 then m else 0
theorem bits8 (b:UInt8):b=pick1 b 1 ^^^ (pick1 b 2 ^^^ (pick1 b 4 ^^^ (pick1 b 8 ^^^ (pick1 b 16 ^^^ (pick1 b 32 ^^^ (pick1 b 64 ^^^ pick1 b 128)))))):=
 allU (p:=fun b=>b=pick1 b 1 ^^^ (pick1 b 2 ^^^ (pick1 b 4 ^^^ (pick1 b 8 ^^^ (pick1 b 16 ^^^ (pick1 b 32 ^^^ (pick1 b 64 ^^^ pick1 b 128))))))) (by decide +kernel) b
def Lin (f:UInt8->UInt8):Prop:=∀ x y,f (x ^^^ y)=f x ^^^ f y
theorem Lin.zero {f:UInt8->UInt8} (h:Lin f):f 0=0:=by
 have:=h 0 0
 rw [xx,xx] at this
 exact this
theorem Lin.pick {f:UInt8->UInt8} (h:Lin f) (b m:UInt8):f (pick1 b m)=bif (b &&& m) != 0 then f m else 0:=by
 unfold pick1
 cases (b &&& m) != 0
 ·exact h.zero
 ·rfl
theorem Lin.ext {f g:UInt8->UInt8} (hf:Lin f) (hg:Lin g) (h:∀ i:_root_.Fin 8,f (1 <<< UInt8.ofNat i.val)=g (1 <<< UInt8.ofNat i.val)) (x:UInt8):f x=g x:=by
 have h0:f 1=g 1:=h 0
 have h1:f 2=g 2:=h 1
 have h2:f 4=g 4:=h 2
 have h3:f 8=g 8:=h 3
 have h4:f 16=g 16:=h 4
 have h5:f 32=g 32:=h 5
 have h6:f 64=g 64:=h 6
 have h7:f 128=g 128:=h 7
 have e:=bits8 x
 generalize hb:x=b at e ⊢
 rw [e]
 simp only [hf _ _,hg _ _,hf.pick,hg.pick,h0,h1,h2,h3,h4,h5,h6,h7]
theorem gm_linR (a:UInt8):Lin (gm a):=gm_right a
theorem gm_linL (c:UInt8):Lin (fun a=>gm a c):=fun a b=>gm_left a b c
theorem gm_comm (a b:UInt8):gm a b=gm b a:=by
 refine Lin.ext (f:=gm a) (g:=fun b=>gm b a) (gm_linR a) (gm_linL a) (fun i=>?_) b
 refine Lin.ext (f:=fun a=>gm a (1 <<< UInt8.ofNat i.val)) (g:=fun a=>gm (1 <<< UInt8.ofNat i.val) a) (gm_linL _) (gm_linR _) (fun j=>?_) a
 revert i j
 decide
theorem gm_assoc (a b c:UInt8):gm (gm a b) c=gm a (gm b c):=by
 refine Lin.ext (f:=fun c=>gm (gm a b) c) (g:=fun c=>gm a (gm b c)) (gm_linR _) (fun x y=>by simp only [gm_right]) (fun i=>?_) c
 refine Lin.ext (f:=fun b=>gm (gm a b) (1 <<< UInt8.ofNat i.val)) (g:=fun b=>gm a (gm b (1 <<< UInt8.ofNat i.val))) (fun x y=>by simp only [gm_right,gm_left]) (fun x y=>by simp only [gm_right,gm_left]) (fun j=>?_) b
 refine Lin.ext (f:=fun a=>gm (gm a (1 <<< UInt8.ofNat j.val)) (1 <<< UInt8.ofNat i.val)) (g:=fun a=>gm a (gm (1 <<< UInt8.ofNat j.val) (1 <<< UInt8.ofNat i.val))) (fun x y=>by simp only [gm_left]) (fun x y=>by simp only [gm_left]) (fun k=>?_) a
 revert i j k
 decide +kernel
theorem gm_zero (a:UInt8):gm a 0=0:=(gm_linR a).zero
theorem zero_gm (a:UInt8):gm 0 a=0:=(gm_linL a).zero
theorem gm_one (a:UInt8):gm a 1=a:=by
 refine Lin.ext (f:=fun a=>gm a 1) (g:=fun a=>a) (gm_linL 1) (fun x y=>rfl) (fun i=>?_) a
 revert i
 decide
theorem one_gm (a:UInt8):gm 1 a=a:=by rw [gm_comm,gm_one]
end Go.Tw
namespace Go.Proofs.YtpnhgldpeiogbaaGreatDoor
open Go.Tw
set_option linter.unusedSimpArgs false
set_option linter.unusedVariables false
theorem w64s {n:Nat} (h:n < 1000000000):w64 (((n:Nat):Int) + 1)=((n + 1:Nat):Int):=by rw [w64_in (by omega) (by omega)];omega
theorem gml_zero:∀ (n:Nat) (a:UInt8),gml n a 0=0
 | 0,_=>rfl
 | n + 1,a=>by
  have h:bit0 0 a=0:=rfl
  have h2:(0:UInt8) >>> 1=0:=rfl
  simp only [gml,h,h2,gml_zero n,xx]
theorem shr1_lt {n:Nat} {b:UInt8} (h:b.toNat < 2 ^ (n + 1)):(b >>> 1).toNat < 2 ^ n:=by
 have:(b >>> 1).toNat=b.toNat / 2:=by
  simp [UInt8.toNat_shiftRight,Nat.shiftRight_eq_div_pow]
 rw [this,Nat.pow_succ] at *
 omega
theorem sh8 (b:UInt8):shr8 b ((UInt64.ofNat 1).toNat)=b >>> 1:=allU (p:=fun b=>shr8 b ((UInt64.ofNat 1).toNat)=b >>> 1) (by decide +kernel) b
theorem g_dbl (F:Nat) (a:UInt8):T175 F a=some (gd a):=allU (p:=fun a=>T175 F a=some (gd a)) (by intro i;revert i;show ∀ i:_root_.Fin 256,T175 0 (UInt8.ofNat i.val)=some (gd (UInt8.ofNat i.val));decide +kernel) a
theorem g_step (F:Nat) (a b c:UInt8):L169_2 F a b c=bif b != 0 then some (.inl (gd a,b >>> 1,c ^^^ bit0 b a)) else some (.inr c):=by
 simp only [L169_2,L169_2c,g_dbl,Option.bind_some,sh8]
 have e0:(b != UInt8.ofNat 0)=(b != 0):=rfl
 have e1:((b &&& UInt8.ofNat 1) == UInt8.ofNat 1)=((b &&& 1) == 1):=rfl
 rw [e0,e1]
 unfold bit0
 cases b != 0<;>cases (b &&& 1) == 1<;>simp [xz]
theorem g_loop (F:Nat):∀ (n fuel:Nat) (a b c:UInt8),b.toNat < 2 ^ n->n < fuel->iter (fun s:UInt8×UInt8×UInt8=>L169_2 F s.1 s.2.1 s.2.2) fuel (a,b,c)=some (c ^^^ gml n a b)
 | 0,fuel + 1,a,b,c,hb,hf=>by
  have:b=0:=by apply UInt8.toNat_inj.1;simp at hb;simpa using hb
  subst this
  show (L169_2 F a 0 c).bind _=_
  rw [g_step]
  simp [gml,xz]
 | n + 1,fuel + 1,a,b,c,hb,hf=>by
  show (L169_2 F a b c).bind _=_
  rw [g_step]
  cases h0:b != 0 with
  | false=>
   have:b=0:=by simpa using h0
   subst this
   simp only [cond_false,Option.bind_some,gml_zero,xz]
  | true=>
   simp only [cond_true,Option.bind_some]
   rw [g_loop F n fuel (gd a) (b >>> 1) (c ^^^ bit0 b a) (shr1_lt hb) (by omega)]
   simp only [gml,UInt8.xor_assoc]
theorem g_mul {F:Nat} (hF:20 < F) (a b:UInt8):T169 F a b=some (gm a b):=by
 have h:=g_loop F 8 F a b 0 (by have:=b.toNat_lt;simpa using this) (by omega)
 have h:iter (fun s:UInt8×UInt8×UInt8=>L169_2 F s.1 s.2.1 s.2.2) F (a,b,UInt8.ofNat 0)=some ((0:UInt8) ^^^ gml 8 a b):=h
 simp only [T169,T169c,h,Option.bind_some,zx]
 rfl
theorem inbN {n i:Nat} (h:i < n):inb n ((i:Nat):Int)=some i:=inb_nat h
theorem ofI8 {i:Nat} (h:i < 16):UInt8.ofInt ((i:Nat):Int)=UInt8.ofNat i∧UInt8.ofInt (w64 (((i:Nat):Int) * 2 ^ min ((UInt64.ofNat 4).toNat) 64))=UInt8.ofNat (16 * i):=by
 have:∀ i:_root_.Fin 16,UInt8.ofInt ((i.val:Nat):Int)=UInt8.ofNat i.val∧UInt8.ofInt (w64 (((i.val:Nat):Int) * 2 ^ min ((UInt64.ofNat 4).toNat) 64))=UInt8.ofNat (16 * i.val):=by decide +kernel
 exact this ⟨i,h⟩
theorem g_tab {F:Nat} (hF:50 < F) (c:UInt8):∃ u v:Vector UInt8 16,T178 F c=some (u,v)∧∀ (i:Nat) (h:i < 16),u[i]=gm c (UInt8.ofNat i)∧v[i]=gm c (UInt8.ofNat (16 * i)):=by
 obtain ⟨r,h1,h2⟩:=iter1 (f:=fun s:Int×Vector UInt8 16×Vector UInt8 16=>L178_2 F c s.1 s.2.1 s.2.2)
  (fun s=>∃ n:Nat,n≤16∧s.1=n∧∀ (i:Nat) (h:i < 16),i < n->s.2.1[i]=gm c (UInt8.ofNat i)∧s.2.2[i]=gm c (UInt8.ofNat (16 * i)))
  (fun r=>∀ (i:Nat) (h:i < 16),r.1[i]=gm c (UInt8.ofNat i)∧r.2[i]=gm c (UInt8.ofNat (16 * i)))
  (fun s=>(16 - s.1).toNat) (fun s ⟨n,hn,hs,hr⟩=>by
   obtain ⟨s1,s2,s3⟩:=s
   simp only at hs hr
   subst hs
   rcases Nat.lt_or_ge n 16 with hlt | hge
   ·left
    have h:((n:Nat):Int) < 16:=by omega
    have hw:w64 (((n:Nat):Int) + 1)=((n + 1:Nat):Int):=by rw [w64_in (by omega) (by omega)];omega
    obtain ⟨o1,o2⟩:=ofI8 hlt
    refine ⟨_,by simp only [L178_2,L178_2c,h,decide_true,cond_true,o1,o2,g_mul (show 20 < F by omega),Option.bind_some,inbN hlt,hw];rfl,⟨n + 1,by omega,rfl,fun i hi hin=>?_⟩,by simp only;omega⟩
    simp only [Vector.getElem_setIfInBounds]
    by_cases hin2:n=i
    ·subst hin2;simp
    ·simp only [hin2,if_false];exact hr i hi (by omega)
   ·right
    have:n=16:=by omega
    subst this
    have h:¬ (((16:Nat):Int) < 16):=by omega
    exact ⟨_,by simp only [L178_2,L178_2c,h,decide_false,cond_false];rfl,fun i hi=>hr i hi hi⟩)
  F ((0:Int),(Vector.replicate 16 (0:UInt8)),(Vector.replicate 16 (0:UInt8))) ⟨0,by omega,rfl,fun i hi h=>by omega⟩ (by simp;omega)
 exact ⟨r.1,r.2,by simp only [T178,T178c,h1,Option.bind_some],h2⟩
theorem split4 (b:UInt8):b=UInt8.ofNat (b &&& 15).toNat ^^^ UInt8.ofNat (16 * (shr8 b ((UInt64.ofNat 4).toNat)).toNat)∧(b &&& UInt8.ofNat 15).toNat < 16∧(shr8 b ((UInt64.ofNat 4).toNat)).toNat < 16:=
 allU (p:=fun b=>b=UInt8.ofNat (b &&& 15).toNat ^^^ UInt8.ofNat (16 * (shr8 b ((UInt64.ofNat 4).toNat)).toNat)∧(b &&& UInt8.ofNat 15).toNat < 16∧(shr8 b ((UInt64.ofNat 4).toNat)).toNat < 16) (by decide +kernel) b
theorem g_by (F:Nat) {c b:UInt8} {u v:Vector UInt8 16} (h:∀ (i:Nat) (h:i < 16),u[i]=gm c (UInt8.ofNat i)∧v[i]=gm c (UInt8.ofNat (16 * i))):T181 F b u v=some (gm c b):=by
 obtain ⟨h1,h2,h3⟩:=split4 b
 simp only [T181,T181c,vix_nat h2,vix_nat h3,Option.bind_some,(h _ h2).1,(h _ h3).2,← gm_right]
 congr 2
 exact h1.symm
theorem ixU {l:List UInt8} {i:Nat} (h:i < l.length):ix l ((i:Nat):Int)=some l[i]:=ix_nat h
theorem fill_loop {α:Type} {N:Nat} {f:Int×List α->Option ((Int×List α) ⊕ List α)} {g:Nat->α->α} (hN:N < 1000000)
  (hs:∀ (n:Nat) (l:List α) (h:n < l.length),l.length=N->f (((n:Nat):Int),l)=some (.inl (((n + 1:Nat):Int),l.set n (g n l[n])))) (he:∀ l:List α,l.length=N->f (((N:Nat):Int),l)=some (.inr l)) :
  ∀ (m n fuel:Nat) (l:List α),n + m=N->l.length=N->m < fuel->∃ r,iter f fuel (((n:Nat):Int),l)=some r∧r.length=N∧(∀ i (h1:i < r.length) (h2:i < l.length),i < n->r[i]=l[i])∧∀ i (h1:i < r.length) (h2:i < l.length),n≤i->r[i]=g i l[i]
 | 0,n,fuel + 1,l,hn,hl,hf=>by
  have:n=N:=by omega
  subst this
  exact ⟨l,by simp only [iter,he l hl,Option.bind_some],hl,fun _ _ _ _=>rfl,fun i h1 h2 h3=>by omega⟩
 | m + 1,n,fuel + 1,l,hn,hl,hf=>by
  obtain ⟨r,r1,r2,r3,r4⟩:=fill_loop hN hs he m (n + 1) fuel (l.set n (g n (l[n]'(by omega)))) (by omega) (by simp [hl]) (by omega)
  refine ⟨r,?_,r2,fun i h1 h2 h3=>?_,fun i h1 h2 h3=>?_⟩
  ·simp only [iter,hs n l (by omega) hl,Option.bind_some];exact r1
  ·rw [r3 i h1 (by simp;omega) (by omega)]
   rw [List.getElem_set_ne (by omega)]
  ·by_cases hi:i=n
   ·subst hi
    rw [r3 i h1 (by simp;omega) (by omega),List.getElem_set_self]
   ·rw [r4 i h1 (by simp;omega) (by omega),List.getElem_set_ne (by omega)]
theorem g_scale {F:Nat} {l:List UInt8} (hF:100 + l.length < F) (hl:l.length < 1000000) (c:UInt8):T174 F l c=some (l.map (gm c)):=by
 obtain ⟨u,v,h1,h2⟩:=g_tab (F:=F) (by omega) c
 have hm:gmake (0:UInt8) (l.length:Int) (l.length:Int)=some (List.replicate l.length 0):=by
  unfold gmake;rw [if_pos (by omega)];simp
 obtain ⟨r,r1,r2,_,r4⟩:=fill_loop (N:=l.length) (f:=fun s:Int×List UInt8=>L174_2 F l (l.length:Int) u v s.1 s.2) (g:=fun i _=>gm c (l.getD i 0)) hl
  (fun n x hx hxl=>by
   have h:((n:Nat):Int) < (l.length:Int):=by omega
   have hg:l.getD n 0=l[n]'(by omega):=by simp [show n < l.length by omega]
   simp only [L174_2,L174_2c,h,decide_true,cond_true,ixU (show n < l.length by omega),Option.bind_some,g_by F h2,inb_nat hx,w64s (show n < 1000000000 by omega),hg])
  (fun x hx=>by
   have h:¬ ((l.length:Int) < (l.length:Int)):=by omega
   simp only [L174_2,L174_2c,h,decide_false,cond_false])
  l.length 0 F (List.replicate l.length 0) (by omega) (by simp) (by omega)
 have r1:iter (fun s:Int×List UInt8=>L174_2 F l (l.length:Int) u v s.1 s.2) F ((0:Int),List.replicate l.length 0)=some r:=r1
 simp only [T174,T174c,h1,hm,r1,Option.bind_some]
 congr 1
 apply List.ext_getElem
 ·simp [r2]
 ·intro i h3 h4
  rw [r4 i h3 (by simp;omega) (by omega)]
  simp [show i < l.length by omega]
theorem g_muladd {F:Nat} {l v:List UInt8} (hF:100 + l.length < F) (hl:l.length < 1000000) (hv:v.length=l.length) (c:UInt8):T168 F l v c=some (0,List.zipWith (fun a b=>a ^^^ gm c b) l v):=by
 have hne:((l.length:Int) != (v.length:Int))=false:=by simp [hv]
 have hsc:=g_scale (F:=F) (l:=v) (by omega) (by omega) c
 obtain ⟨r,r1,r2,_,r4⟩:=fill_loop (N:=l.length) (f:=fun s:Int×List UInt8=>L168_2 F l (l.length:Int) s.1 s.2) (g:=fun i x=>x ^^^ l.getD i 0) hl
  (fun n x hx hxl=>by
   have h:((n:Nat):Int) < (l.length:Int):=by omega
   have hg:l.getD n 0=l[n]'(by omega):=by simp [show n < l.length by omega]
   simp only [L168_2,L168_2c,h,decide_true,cond_true,ixU (show n < l.length by omega),Option.bind_some,inb_nat hx,List.getElem?_eq_getElem hx,w64s (show n < 1000000000 by omega),hg])
  (fun x hx=>by
   have h:¬ ((l.length:Int) < (l.length:Int)):=by omega
   simp only [L168_2,L168_2c,h,decide_false,cond_false])
  l.length 0 F (v.map (gm c)) (by omega) (by simp [hv]) (by omega)
 have r1:iter (fun s:Int×List UInt8=>L168_2 F l (l.length:Int) s.1 s.2) F ((0:Int),v.map (gm c))=some r:=r1
 simp only [T168,T168c,hne,cond_false,hsc,r1,Option.bind_some]
 congr 2
 apply List.ext_getElem
 ·simp [r2,hv]
 ·intro i h3 h4
  rw [r4 i h3 (by simp;omega) (by omega)]
  simp [show i < l.length by omega]
  exact UInt8.xor_comm _ _
def sq7:Nat->UInt8->UInt8->UInt8
 | 0,_,c=>c
 | n + 1,a,c=>sq7 n (gm a a) (gm c (gm a a))
def gi (b:UInt8):UInt8:=sq7 7 b 1
theorem gi_ok:∀ b:UInt8,b ≠ 0->gm b (gi b)=1:=fun b h=>(allU (p:=fun b=>b=0∨gm b (gi b)=1) (by decide +kernel) b).resolve_left h
theorem gm_ne {a b:UInt8} (ha:a ≠ 0) (hb:b ≠ 0):gm a b ≠ 0:=fun h=>hb (by
 have:gm (gi a) (gm a b)=b:=by rw [← gm_assoc,gm_comm (gi a) a,gi_ok a ha,one_gm]
 rw [← this,h,gm_zero])
theorem gi_zero:gi 0=0:=by decide +kernel
theorem inv_loop {F:Nat} (hF:50 < F) (a:UInt8):iter (fun s:UInt8×UInt8×Int=>L152_2 F s.1 s.2.1 s.2.2) F (a,UInt8.ofNat 1,(0:Int))=some (gi a):=by
 have:∀ (n k fuel:Nat) (a c:UInt8),n + k=7->n < fuel->iter (fun s:UInt8×UInt8×Int=>L152_2 F s.1 s.2.1 s.2.2) fuel (a,c,(k:Int))=some (sq7 n a c):=by
  intro n
  induction n with
  | zero=>
   intro k fuel a c h1 h2
   obtain ⟨f,rfl⟩:∃ f,fuel=f + 1:=⟨fuel - 1,by omega⟩
   have h:¬ ((k:Int) < 7):=by omega
   exact it_out' (by simp only [L152_2,L152_2c,h,decide_false,cond_false];rfl)
  | succ n ih=>
   intro k fuel a c h1 h2
   obtain ⟨f,rfl⟩:∃ f,fuel=f + 1:=⟨fuel - 1,by omega⟩
   have h:(k:Int) < 7:=by omega
   refine (it_again' (s':=(gm a a,gm c (gm a a),((k + 1:Nat):Int))) ?_).trans (ih (k + 1) f _ _ (by omega) (by omega))
   simp only [L152_2,L152_2c,h,decide_true,cond_true,g_mul (show 20 < F by omega),Option.bind_some,w64s (show k < 1000000000 by omega)]
 exact this 7 0 F a _ rfl (by omega)
theorem g_inv {F:Nat} (hF:50 < F) (a:UInt8):∃ e:Int,T152 F a=some (gi a,e):=by
 by_cases h:a=0
 ·subst h
  have:((0:UInt8) == UInt8.ofNat 0)=true:=rfl
  exact ⟨1,by simp only [T152,T152c,this,cond_true,gi_zero];rfl⟩
 ·have:(a == UInt8.ofNat 0)=false:=by have h2:a ≠ UInt8.ofNat 0:=h;simpa using h2
  exact ⟨0,by simp only [T152,T152c,this,cond_false,inv_loop hF,Option.bind_some]⟩
def sh (F:Nat) (x:List UInt8):List UInt8:=(T907 F x).getD []
theorem sh_some {F:Nat} {x:List UInt8} (hF:410 + x.length < F) (hb:x.length < 1000000):T907 F x=some (sh F x)∧(sh F x).length=32:=by
 obtain ⟨d,_,d2,d3⟩:=t79 (F:=F) (ls:=[x]) (by simp;omega) (by simp;omega) (by simp)
 rw [List.flatten_singleton] at d2
 simp [sh,d2,d3]
theorem t_sum {F:Nat} {x:List UInt8} (hF:410 + x.length < F) (hb:x.length < 1000000):T85 F x=some (sh F x):=by
 obtain ⟨h,b,n,a1,a2⟩:=t82 (F:=F) (m:=[]) (x:=x) (by simp;omega) (by simp;omega) (inv0 F)
 rw [List.nil_append] at a2
 obtain ⟨d,d1,d2,d3⟩:=sum_eq (by omega) (by omega) a2
 simp only [T85,T85c,T122,T122c,Option.bind_some,a1,d1]
 simp [sh,d2]
theorem t_leaf {F:Nat} {x:List UInt8} (hF:420 + x.length < F) (hb:x.length < 1000000):T121 F x=some (sh F (0 :: x)):=by
 obtain ⟨h0,b0,n0,c1,c2⟩:=t82 (F:=F) (m:=[]) (x:=[0]) (by simp;omega) (by simp) (inv0 F)
 obtain ⟨h,b,n,a1,a2⟩:=t82 (F:=F) (x:=x) (by simp;omega) (by simp;omega) c2
 obtain ⟨d,d1,d2,d3⟩:=sum_eq (by simp;omega) (by simp;omega) a2
 have e:[(UInt8.ofNat 0)]=[(0:UInt8)]:=rfl
 simp only [T121,T121c,T122,T122c,Option.bind_some,e,c1,a1,d1]
 have:[] ++ [(0:UInt8)] ++ x=0 :: x:=rfl
 rw [this] at d2
 simp [sh,d2]
theorem t_node {F:Nat} {x y:List UInt8} (hF:420 + x.length + y.length < F) (hb:x.length + y.length < 1000000):T87 F x y=some (sh F (1 :: (x ++ y))):=by
 obtain ⟨d,d1,d2,d3⟩:=t79 (F:=F) (ls:=[[1],x,y]) (by simp;omega) (by simp;omega) (by simp)
 simp only [T87,T87c,d1,Option.bind_some]
 have:[[1],x,y].flatten=1 :: (x ++ y):=by simp
 rw [this] at d2
 simp [sh,d2]
def sp (n:Nat):Nat:=((T86 0 (n:Int)).getD 0).toNat
theorem sp_all:∀ n:Fin 140,2≤n.val->T86 0 (n.val:Int)=some ((sp n.val:Nat):Int)∧1≤sp n.val∧sp n.val < n.val:=by decide +kernel
theorem sp_at {n:Nat} (h1:2≤n) (h2:n < 140) (F:Nat):T86 F (n:Int)=some ((sp n:Nat):Int)∧1≤sp n∧sp n < n:=sp_all ⟨n,h2⟩ h1
def rt (F:Nat):Nat->List (List UInt8)->List UInt8
 | 0,_=>[]
 | g + 1,l=>if l.length=0 then sh F [] else if l.length=1 then l.headD [] else sh F (1 :: (rt F g (l.take (sp l.length)) ++ rt F g (l.drop (sp l.length))))
theorem rt_len {F:Nat} (hF:2000 < F):∀ (g:Nat) (l:List (List UInt8)),l.length≤g->l.length < 140->(∀ x ∈ l,x.length=32)->l.length=0∧g=0∨(rt F g l).length=32
 | 0,l,hg,hl,h=>.inl ⟨by omega,rfl⟩
 | g + 1,l,hg,hl,h=>by
  refine .inr ?_
  unfold rt
  split
  ·exact (sh_some (by simp;omega) (by simp)).2
  ·split
   ·cases l with
    | nil=>simp at *
    | cons x l=>exact h x (by simp)
   ·obtain ⟨_,h1,h2⟩:=sp_at (n:=l.length) (by omega) hl F
    have ha:=rt_len hF g (l.take (sp l.length)) (by simp;omega) (by simp;omega) fun x hx=>h x (List.mem_of_mem_take hx)
    have hb:=rt_len hF g (l.drop (sp l.length)) (by simp;omega) (by simp;omega) fun x hx=>h x (List.mem_of_mem_drop hx)
    have ha:(rt F g (l.take (sp l.length))).length=32:=by
     rcases ha with ⟨h3,h4⟩ | ha
     ·simp at h3;omega
     ·exact ha
    have hb:(rt F g (l.drop (sp l.length))).length=32:=by
     rcases hb with ⟨h3,h4⟩ | hb
     ·simp at h3;omega
     ·exact hb
    exact (sh_some (by simp;omega) (by simp;omega)).2
theorem gsl_lo {α:Type} {l:List α} {k:Nat} (h:k≤l.length):gsl l (0:Int) (k:Int)=some (l.take k):=by
 have:=gsl_nat (l:=l) (a:=0) (b:=k) (by omega) h
 simpa using this
theorem gsl_hi {α:Type} {l:List α} {k:Nat} (h:k≤l.length):gsl l (k:Int) (l.length:Int)=some (l.drop k):=by
 have:=gsl_nat (l:=l) (a:=k) (b:=l.length) h (by omega)
 rw [this];congr 1
 apply List.take_of_length_le;simp
theorem root_g {F:Nat} (hF:2000 < F):∀ (g:Nat) (l:List (List UInt8)),l.length≤g->0 < g->l.length < 140->(∀ x ∈ l,x.length=32)->T49g F g l=some (rt F g l)
 | 0,l,hg,h0,hl,h=>by omega
 | g + 1,l,hg,h0,hl,h=>by
  show T49r F (T49g F g) l=_
  simp only [T49r,T49rc,rt]
  by_cases c0:l.length=0
  ·have e0:((l.length:Int) == 0)=true:=by simpa using c0
   have:=t_sum (F:=F) (x:=[]) (by simp;omega) (by simp)
   simp only [e0,cond_true,this,Option.bind_some,if_pos c0]
  ·have e0:((l.length:Int) == 0)=false:=by simpa using c0
   by_cases c1:l.length=1
   ·have e1:((l.length:Int) == 1)=true:=by rw [c1];rfl
    simp only [e0,e1,cond_true,cond_false,if_neg c0,if_pos c1]
    cases l with
    | nil=>simp at c1
    | cons x l=>
     have:ix (x :: l) (0:Int)=some x:=ixn (i:=0) rfl
     rw [this];rfl
   ·have e1:((l.length:Int) == 1)=false:=by
     have:¬ (l.length:Int)=1:=by omega
     simpa using this
    obtain ⟨h3,h1,h2⟩:=sp_at (n:=l.length) (by omega) hl F
    have ha:=root_g hF g (l.take (sp l.length)) (by simp;omega) (by omega) (by simp;omega) fun x hx=>h x (List.mem_of_mem_take hx)
    have hb:=root_g hF g (l.drop (sp l.length)) (by simp;omega) (by omega) (by simp;omega) fun x hx=>h x (List.mem_of_mem_drop hx)
    have la:=rt_len hF g (l.take (sp l.length)) (by simp;omega) (by simp;omega) fun x hx=>h x (List.mem_of_mem_take hx)
    have lb:=rt_len hF g (l.drop (sp l.length)) (by simp;omega) (by simp;omega) fun x hx=>h x (List.mem_of_mem_drop hx)
    have la:(rt F g (l.take (sp l.length))).length=32:=by
     rcases la with ⟨h3,h4⟩ | ha
     ·omega
     ·exact ha
    have lb:(rt F g (l.drop (sp l.length))).length=32:=by
     rcases lb with ⟨h3,h4⟩ | hb
     ·omega
     ·exact hb
    have hn:=t_node (F:=F) (x:=rt F g (l.take (sp l.length))) (y:=rt F g (l.drop (sp l.length))) (by omega) (by omega)
    simp only [e0,e1,cond_false,h3,Option.bind_some,gsl_lo (Nat.le_of_lt h2),gsl_hi (Nat.le_of_lt h2),ha,hb,hn,if_neg c0,if_neg c1]
theorem t_root {F:Nat} (hF:2000 < F) {l:List (List UInt8)} (hl:l.length < 140) (h:∀ x ∈ l,x.length=32):T49 F l=some (rt F F l)∧(rt F F l).length=32:=by
 refine ⟨root_g hF F l (by omega) (by omega) hl h,?_⟩
 rcases rt_len hF F l (by omega) hl h with ⟨_,h⟩ | h
 ·omega
 ·exact h
def blk (F:Nat):Nat->List UInt8->List (List UInt8)
 | 0,_=>[]
 | n + 1,x=>if x.length=0 then [] else sh F (0 :: x.take 512) :: blk F n (x.drop 512)
theorem blk_len (F:Nat):∀ (n:Nat) (x:List UInt8),(blk F n x).length≤n
 | 0,x=>by simp [blk]
 | n + 1,x=>by
  unfold blk;split
  ·simp
  ·have:=blk_len F n (x.drop 512);simp;omega
theorem blk_32 {F:Nat} (hF:2000 < F):∀ (n:Nat) (x:List UInt8),∀ y ∈ blk F n x,y.length=32
 | 0,x,y,h=>by simp [blk] at h
 | n + 1,x,y,h=>by
  unfold blk at h
  split at h
  ·simp at h
  ·rcases List.mem_cons.1 h with rfl | h
   ·exact (sh_some (by simp;omega) (by simp;omega)).2
   ·exact blk_32 hF n _ y h
theorem cut512 (x:List UInt8):(if (x.length:Int) < 512 then (x.length:Int) else 512)=((min 512 x.length:Nat):Int):=by split<;>omega
theorem lp_blocks {F:Nat} (hF:2000 < F):∀ (n fuel:Nat) (x:List UInt8) (acc:List (List UInt8)),x.length≤512 * n->n < fuel->acc.length + n < 100000->iter (fun s:List UInt8×List (List UInt8)=>L84_2 F (512:Int) s.1 s.2) fuel (x,acc)=some (acc ++ blk F n x)
 | n,0,x,acc,_,hf,_=>by omega
 | 0,fuel + 1,x,acc,hx,hf,_=>by
  have:¬ (0:Int) < (x.length:Int):=by omega
  refine (it_out' (s:=(x,acc)) (r:=acc) (by simp only [L84_2,L84_2c,this,decide_false,cond_false])).trans (by simp only [blk,List.append_nil])
 | n + 1,fuel + 1,x,acc,hx,hf,ha=>by
  by_cases h0:x.length=0
  ·have:¬ (0:Int) < (x.length:Int):=by omega
   refine (it_out' (s:=(x,acc)) (r:=acc) (by simp only [L84_2,L84_2c,this,decide_false,cond_false])).trans (by simp only [blk,if_pos h0,List.append_nil])
  ·have h1:(0:Int) < (x.length:Int):=by omega
   have hm:min 512 x.length≤x.length:=Nat.min_le_right _ _
   have hl:=t_leaf (F:=F) (x:=x.take 512) (by simp;omega) (by simp;omega)
   have ht:x.take (min 512 x.length)=x.take 512:=by rw [← List.take_take,List.take_length]
   have hd:x.drop (min 512 x.length)=x.drop 512:=by
    rcases Nat.le_total 512 x.length with h | h
    ·rw [Nat.min_eq_left h]
    ·rw [Nat.min_eq_right h,List.drop_length,List.drop_eq_nil_of_le h]
   have hg:gapp acc ([sh F (0 :: x.take 512)]:List (List UInt8))=some (acc ++ [sh F (0 :: x.take 512)]):=gappn (by simp;omega)
   have ih:=lp_blocks hF n fuel (x.drop 512) (acc ++ [sh F (0 :: x.take 512)]) (by simp;omega) (by omega) (by simp;omega)
   refine (it_again' (s:=(x,acc)) (s':=(x.drop 512,acc ++ [sh F (0 :: x.take 512)])) (by simp only [L84_2,L84_2c,h1,decide_true,cond_true,cut512,gsl_lo hm,gsl_hi hm,ht,hd,hl,hg,Option.bind_some])).trans (ih.trans (by simp only [blk,if_neg h0,List.append_assoc,List.singleton_append]))
def hsh (F:Nat) (x:List UInt8):List UInt8:=rt F F (blk F 128 x)
theorem t_of {F:Nat} (hF:2000 < F) {x:List UInt8} (hx:x.length≤65536):T48 F x (512:Int)=some (hsh F x,0)∧(hsh F x).length=32:=by
 have hl:=lp_blocks hF 128 F x [] (by omega) (by omega) (by simp)
 have hb:=blk_len F 128 x
 obtain ⟨h1,h2⟩:=t_root hF (l:=blk F 128 x) (by omega) (blk_32 hF 128 x)
 refine ⟨?_,h2⟩
 have h3:¬ (1048576:Int) < (x.length:Int):=by omega
 have h4:¬ (512:Int) < (1:Int):=by omega
 rw [List.nil_append] at hl
 have hB:T84 F x (512:Int)=some ((0:Int),blk F 128 x):=by
  simp only [T84,T84c,h3,h4,decide_false,cond_false,hl,Option.bind_some]
 simp only [T48,T48c,hB,Option.bind_some,bne_self_eq_false,cond_false,h1]
 rfl
theorem Rows.fresh {α:Type} {rows:List (Option (List α))} {out:List Nat} {gs:List (List α)} (H:Rows rows out gs) {i:Nat} (hi:i < gs.length) (y:List α):Rows (rows ++ [some y]) (out.set i rows.length) (gs.set i y):=by
 have hil:i < out.length:=by rw [H.len];exact hi
 refine ⟨by simp [H.len],fun k g h=>?_,nodup_of fun a b q' ha hb=>?_⟩
 ·by_cases hk:i=k
  ·subst hk
   rw [List.getElem?_set_self hi] at h
   cases h
   exact ⟨rows.length,List.getElem?_set_self hil,by simp⟩
  ·rw [List.getElem?_set_ne hk] at h
   obtain ⟨q',h1,h2⟩:=H.at_ k g h
   refine ⟨q',by rw [List.getElem?_set_ne hk];exact h1,?_⟩
   rw [List.getElem?_append_left (List.getElem?_eq_some_iff.1 h2).1];exact h2
 ·by_cases ha':i=a
  ·subst ha'
   rw [List.getElem?_set_self hil] at ha
   cases ha
   by_cases hb':i=b
   ·exact hb'
   ·rw [List.getElem?_set_ne hb'] at hb
    have:=H.lt (List.mem_of_getElem? hb);omega
  ·rw [List.getElem?_set_ne ha'] at ha
   by_cases hb':i=b
   ·subst hb'
    rw [List.getElem?_set_self hil] at hb
    cases hb
    have:=H.lt (List.mem_of_getElem? ha);omega
   ·rw [List.getElem?_set_ne hb'] at hb
    exact nodup_at H.nd ha hb
theorem Rows.init {α:Type} (n:Nat) (g:List α):Rows (List.replicate n (some g)) (List.range n) (List.replicate n g):=by
 refine ⟨by simp,fun i g' h=>?_,List.nodup_range⟩
 have hi:=(List.getElem?_eq_some_iff.1 h).1
 simp at hi
 rw [List.getElem?_replicate,if_pos hi] at h
 cases h
 exact ⟨i,by simp [hi],by simp [hi]⟩
theorem gmaken {α:Type} (x:α) {n:Nat} (h:n≤1099511627776):gmake x (n:Int) (n:Int)=some (List.replicate n x):=by unfold gmake;rw [if_pos (by omega)];simp
theorem zeros_ok {F n len:Nat} (hF:n < F) (hn:n≤1000000) (hl:len≤1000000):∃ r,T167 F (n:Int) (len:Int)=some r∧Rows r.1 r.2 (List.replicate n (List.replicate len (0:UInt8))):=by
 obtain ⟨z,hz,gs,hR,hgl,hgs⟩:=iter1 (f:=fun s:Int×(List (Option (List UInt8))×List Nat)=>L167_2 F (len:Int) (n:Int) s.1 s.2)
  (fun s=>∃ k:Nat,s.1=(k:Int)∧k≤n∧∃ gs:List (List UInt8),Rows s.2.1 s.2.2 gs∧gs.length=n∧∀ i,i < k->gs[i]? = some (List.replicate len 0))
  (fun z=>∃ gs:List (List UInt8),Rows z.1 z.2 gs∧gs.length=n∧∀ i,i < n->gs[i]? = some (List.replicate len 0)) (fun s=>n - s.1.toNat) (fun s hs=>by
   obtain ⟨k,e,hk,gs,hR,hgl,hgs⟩:=hs
   obtain ⟨s1,⟨rows,out⟩⟩:=s
   simp only at e hR
   subst e
   rcases Nat.lt_or_ge k n with hlt | hge
   ·have hc1:((k:Nat):Int) < (n:Int):=by omega
    have hg:=gmaken (0:UInt8) (n:=len) (by omega)
    have hi:inb out.length (k:Int)=some k:=inbn (by rw [H_len hR,hgl];exact hlt)
    have hw:w64 (((k:Nat):Int) + 1)=((k + 1:Nat):Int):=w64n (by omega)
    refine .inl ⟨_,by simp only [L167_2,L167_2c,hc1,decide_true,cond_true,hg,hi,Option.bind_some,hw];rfl,⟨k + 1,rfl,by omega,_,hR.fresh (i:=k) (by omega) _,by simp [hgl],fun i hi=>?_⟩,by simp only [Int.toNat_natCast];omega⟩
    by_cases hik:k=i
    ·subst hik;rw [List.getElem?_set_self (by omega)]
    ·rw [List.getElem?_set_ne hik];exact hgs i (by omega)
   ·have hkn:k=n:=by omega
    subst hkn
    refine .inr ⟨(rows,out),?_,gs,hR,hgl,hgs⟩
    simp [L167_2,L167_2c])
  F ((0:Int),(List.replicate n (some ([]:List UInt8)),List.range n)) ⟨0,rfl,by omega,_,Rows.init n [],by simp,fun i h=>by omega⟩ (by simp;omega)
 have hgs':gs=List.replicate n (List.replicate len (0:UInt8)):=by
  apply List.ext_getElem?
  intro i
  rcases Nat.lt_or_ge i n with h | h
  ·rw [hgs i h,List.getElem?_replicate,if_pos h]
  ·rw [List.getElem?_eq_none (by omega),List.getElem?_eq_none (by simp;omega)]
 subst hgs'
 refine ⟨z,?_,hR⟩
 have hg:=gmaken () (n:=n) (by omega)
 simp only [T167,T167c,hg,Option.bind_some,List.length_replicate,List.length_range,hz]
where H_len {rows:List (Option (List UInt8))} {out:List Nat} {gs:List (List UInt8)} (H:Rows rows out gs):out.length=gs.length:=H.len
def vadd (a:UInt8) (d s:List UInt8):List UInt8:=List.zipWith (fun x y=>x ^^^ gm a y) d s
def comb:List UInt8->List (List UInt8)->List UInt8->List UInt8
 | a :: r,b :: bs,acc=>comb r bs (vadd a acc b)
 | [],_,acc=>acc
 | _,[],acc=>acc
theorem vadd_len {a:UInt8} {d s:List UInt8} (h:s.length=d.length):(vadd a d s).length=d.length:=by simp [vadd,h]
theorem vadd_0 {d s:List UInt8} (h:s.length=d.length):vadd 0 d s=d:=by
 apply List.ext_getElem
 ·exact vadd_len h
 ·intro i h1 h2
  simp [vadd,zero_gm]
theorem comb_snoc:∀ (r:List UInt8) (bs:List (List UInt8)) (acc:List UInt8) (a:UInt8) (b:List UInt8),r.length=bs.length->comb (r ++ [a]) (bs ++ [b]) acc=vadd a (comb r bs acc) b
 | [],[],acc,a,b,_=>rfl
 | x :: r,y :: bs,acc,a,b,h=>by simp only [List.cons_append,comb];exact comb_snoc r bs _ a b (by simpa using h)
 | [],_ :: _,_,_,_,h=>by simp at h
 | _ :: _,[],_,_,_,h=>by simp at h
theorem comb_len:∀ {r:List UInt8} {bs:List (List UInt8)} {acc:List UInt8},(∀ b ∈ bs,b.length=acc.length)->(comb r bs acc).length=acc.length
 | a :: r,b :: bs,acc,h=>by
  simp only [comb]
  have hb:=h b (by simp)
  rw [comb_len (fun b' hb'=>by rw [vadd_len hb];exact h b' (by simp [hb'])),vadd_len hb]
 | [],_,_,_=>by simp [comb]
 | _ :: _,[],_,_=>by simp [comb]
theorem takeS' {α:Type} {l:List α} {k:Nat} {x:α} (h:l[k]? = some x):l.take (k + 1)=l.take k ++ [x]:=by
 rw [List.take_add_one,h];rfl
theorem comb_row {F:Nat} {len:Nat} (hF:200 + len < F) (hlen:len < 1000000) {x:List UInt8} {bs:List (List UInt8)} (hx:x.length=bs.length) (hx2:bs.length≤100) (hb:∀ b ∈ bs,b.length=len) {i:Nat} {gs:List (List UInt8)} {rows:List (Option (List UInt8))} {out:List Nat} (H:Rows rows out gs) {acc:List UInt8} (hi:gs[i]? = some acc) (ha:acc.length=len) :
  ∃ r,iter (fun s:Int×(List (Option (List UInt8))×List Nat)=>L151_4 F bs (i:Int) x (x.length:Int) s.1 s.2) F ((0:Int),(rows,out))=some r∧Rows r.1 r.2 (gs.set i (comb x bs acc)):=by
 have hil:=(List.getElem?_eq_some_iff.1 hi).1
 exact iter1 (f:=fun s:Int×(List (Option (List UInt8))×List Nat)=>L151_4 F bs (i:Int) x (x.length:Int) s.1 s.2)
  (fun s=>∃ k:Nat,s.1=(k:Int)∧k≤x.length∧Rows s.2.1 s.2.2 (gs.set i (comb (x.take k) (bs.take k) acc)))
  (fun r=>Rows r.1 r.2 (gs.set i (comb x bs acc))) (fun s=>x.length - s.1.toNat) (fun s hs=>by
   obtain ⟨k,e,hk,hR⟩:=hs
   obtain ⟨s1,⟨rows,out⟩⟩:=s
   simp only at e hR
   subst e
   rcases Nat.lt_or_ge k x.length with hlt | hge
   ·have hr:x[k]? = some x[k]:=List.getElem?_eq_getElem hlt
    have hr2:bs[k]? = some (bs[k]'(by omega)):=List.getElem?_eq_getElem (by omega)
    have hc1:((k:Nat):Int) < (x.length:Int):=by omega
    have hix:=ixn hr
    have hix2:=ixn hr2
    have hw:w64 (((k:Nat):Int) + 1)=((k + 1:Nat):Int):=w64n (by omega)
    have hbl:=hb _ (List.getElem_mem (h:=(by omega:k < bs.length)))
    generalize x[k]=a at hr hix
    generalize bs[k]'(by omega)=b at hr2 hix2 hbl
    have hcl:(comb (x.take k) (bs.take k) acc).length=len:=by
     rw [comb_len (fun b hb'=>by rw [hb b (List.mem_of_mem_take hb'),ha]),ha]
    have hsn:comb (x.take (k + 1)) (bs.take (k + 1)) acc=vadd a (comb (x.take k) (bs.take k) acc) b:=by
     rw [takeS' hr,takeS' hr2];exact comb_snoc _ _ _ _ _ (by simp [hx])
    obtain ⟨q,a1,a2,a3⟩:=hR.get (i:=i) (g:=comb (x.take k) (bs.take k) acc) (by rw [List.getElem?_set_self hil])
    have hol:out.length=gs.length:=by rw [hR.len];simp
    have hin:inb out.length (i:Int)=some i:=inbn (by omega)
    by_cases h0:a=0
    ·subst h0
     have e0:((0:UInt8) != UInt8.ofNat 0)=false:=rfl
     refine .inl ⟨(((k + 1:Nat):Int),(rows,out)),by simp only [L151_4,L151_4c,hc1,decide_true,cond_true,hix,e0,cond_false,Option.bind_some,hw],⟨k + 1,rfl,by omega,?_⟩,by simp only [Int.toNat_natCast];omega⟩
     rw [hsn,vadd_0 (by rw [hbl,hcl])];exact hR
    ·have e0:(a != UInt8.ofNat 0)=true:=by have h2:a ≠ UInt8.ofNat 0:=h0;simpa using h2
     have hm:=g_muladd (F:=F) (l:=comb (x.take k) (bs.take k) acc) (v:=b) (by omega) (by omega) (by omega) a
     have hfr:=hR.fresh (i:=i) (by simp;exact hil) (vadd a (comb (x.take k) (bs.take k) acc) b)
     rw [List.set_set] at hfr
     refine .inl ⟨_,by simp only [L151_4,L151_4c,hc1,decide_true,cond_true,hix,hix2,e0,hin,a1,a2,hm,Option.bind_some,hw];rfl,⟨k + 1,rfl,by omega,?_⟩,by simp only [Int.toNat_natCast];omega⟩
     rw [hsn];exact hfr
   ·have hkn:k=x.length:=by omega
    subst hkn
    rw [List.take_length,hx,List.take_length] at hR
    refine .inr ⟨(rows,out),?_,hR⟩
    simp [L151_4,L151_4c])
  F ((0:Int),(rows,out)) ⟨0,rfl,by omega,by
   have:gs.set i (comb (x.take 0) (bs.take 0) acc)=gs:=by
    simp only [List.take_zero,comb]
    apply List.ext_getElem?
    intro j
    by_cases h:i=j
    ·subst h;rw [List.getElem?_set_self hil,hi]
    ·rw [List.getElem?_set_ne h]
   rw [this];exact H⟩ (by simp;omega)
theorem combine_ok {F:Nat} {len:Nat} (hF:200 + len < F) (hlen:len < 1000000) {m bs:List (List UInt8)} (hm:m.length≤100) (hx:∀ x ∈ m,x.length=bs.length) (hx2:bs.length≤100) (hb:∀ b ∈ bs,b.length=len) :
  T151 F m bs (len:Int)=some (m.map fun x=>comb x bs (List.replicate len 0)):=by
 obtain ⟨r0,hz,hR0⟩:=zeros_ok (F:=F) (n:=m.length) (len:=len) (by omega) (by omega) (by omega)
 obtain ⟨z,hz2,gs,hR,hgl,hgs⟩:=iter1 (f:=fun s:Int×(List (Option (List UInt8))×List Nat)=>L151_3 F bs m (m.length:Int) s.1 s.2)
  (fun s=>∃ k:Nat,s.1=(k:Int)∧k≤m.length∧∃ gs:List (List UInt8),Rows s.2.1 s.2.2 gs∧gs.length=m.length∧(∀ i x,i < k->m[i]? = some x->gs[i]? = some (comb x bs (List.replicate len 0)))∧(∀ i,k≤i->i < m.length->gs[i]? = some (List.replicate len 0)))
  (fun z=>∃ gs:List (List UInt8),Rows z.1 z.2 gs∧gs.length=m.length∧∀ i x,m[i]? = some x->gs[i]? = some (comb x bs (List.replicate len 0))) (fun s=>m.length - s.1.toNat) (fun s hs=>by
   obtain ⟨k,e,hk,gs,hR,hgl,hg1,hg2⟩:=hs
   obtain ⟨s1,⟨rows,out⟩⟩:=s
   simp only at e hR
   subst e
   rcases Nat.lt_or_ge k m.length with hlt | hge
   ·have hr:m[k]? = some m[k]:=List.getElem?_eq_getElem hlt
    have hc1:((k:Nat):Int) < (m.length:Int):=by omega
    have hix:=ixn hr
    have hw:w64 (((k:Nat):Int) + 1)=((k + 1:Nat):Int):=w64n (by omega)
    have hxl:=hx _ (List.getElem_mem hlt)
    generalize m[k]=x at hr hix hxl
    obtain ⟨r,q1,q2⟩:=comb_row hF hlen hxl hx2 hb hR (hg2 k (by omega) hlt) (by simp)
    refine .inl ⟨(((k + 1:Nat):Int),r),by simp only [L151_3,L151_3c,hc1,decide_true,cond_true,hix,q1,Option.bind_some,hw],⟨k + 1,rfl,by omega,_,q2,by simp [hgl],fun i y hi hy=>?_,fun i hi1 hi2=>?_⟩,by simp only [Int.toNat_natCast];omega⟩
    ·by_cases hik:k=i
     ·subst hik;rw [hr] at hy;cases hy;rw [List.getElem?_set_self (by omega)]
     ·rw [List.getElem?_set_ne hik];exact hg1 i y (by omega) hy
    ·rw [List.getElem?_set_ne (by omega)];exact hg2 i (by omega) hi2
   ·have hkn:k=m.length:=by omega
    subst hkn
    refine .inr ⟨(rows,out),?_,gs,hR,hgl,fun i x hi=>hg1 i x (List.getElem?_eq_some_iff.1 hi).1 hi⟩
    simp [L151_3,L151_3c])
  F ((0:Int),r0) ⟨0,rfl,by omega,_,hR0,by simp,fun i x h=>by omega,fun i h1 h2=>by simp [h2]⟩ (by simp;omega)
 have hgs':gs=m.map fun x=>comb x bs (List.replicate len 0):=by
  apply List.ext_getElem?
  intro i
  rcases Nat.lt_or_ge i m.length with h | h
  ·rw [hgs i m[i] (List.getElem?_eq_getElem h),List.getElem?_map,List.getElem?_eq_getElem h];rfl
  ·rw [List.getElem?_eq_none (by omega),List.getElem?_eq_none (by simp;omega)]
 subst hgs'
 have hmat:=hR.mat_eq
 simp only [T151,T151c,hz,Option.bind_some,hz2,hmat]
theorem cols_ok (F:Nat) (m:List (List UInt8)):T150 F m=some (((m.headD []).length:Nat):Int):=by
 cases m with
 | nil=>rfl
 | cons x m=>
  have e:(((x :: m).length:Int) == 0)=false:=by
   have:¬ ((x :: m).length:Int)=0:=by simp;omega
   simpa using this
  have:ix (x :: m) (0:Int)=some x:=ixn (i:=0) rfl
  simp only [T150,T150c,e,cond_false,this,Option.bind_some];rfl
theorem same_loop {ρ:Type} {F:Nat} {n:Nat} {f:Int->Option (Int ⊕ (Unit ⊕ ρ))} (hn:n < F) (hn2:n < 1000000)
  (hs:∀ k:Nat,k < n->f (k:Int)=some (.inl ((k + 1:Nat):Int))) (he:f (n:Int)=some (.inr (.inl ()))):iter f F (0:Int)=some (.inl ()):=by
 obtain ⟨z,hz,rfl⟩:=iter1 (f:=f) (fun s=>∃ k:Nat,s=(k:Int)∧k≤n) (fun z=>z=.inl ()) (fun s=>n - s.toNat) (fun s hs'=>by
   obtain ⟨k,e,hk⟩:=hs'
   subst e
   rcases Nat.lt_or_ge k n with hlt | hge
   ·exact .inl ⟨_,hs k hlt,⟨k + 1,rfl,by omega⟩,by simp only [Int.toNat_natCast];omega⟩
   ·have:k=n:=by omega
    subst this
    exact .inr ⟨_,he,rfl⟩)
  F (0:Int) ⟨0,rfl,by omega⟩ (by simp;omega)
 exact hz
theorem valid_ok {F:Nat} {m:List (List UInt8)} {w:Nat} (hF:200 < F) (h1:m.length≤64) (hw:w≤64) (h2:∀ x ∈ m,x.length=w):T149 F m=some true:=by
 have hc:(m.headD []).length≤64:=by
  cases m with
  | nil=>simp
  | cons x m=>have:=h2 x (by simp);simp;omega
 have e1:¬ (64:Int) < (m.length:Int):=by omega
 have e2:¬ (64:Int) < (((m.headD []).length:Nat):Int):=by omega
 have hl:iter (fun s=>L149_2 F m m (m.length:Int) s) F (0:Int)=some (.inl ()):=by
  refine same_loop (n:=m.length) (by omega) (by omega) (fun k hk=>?_) ?_
  ·have hr:m[k]? = some m[k]:=List.getElem?_eq_getElem hk
   have hr0:m[0]? = some (m[0]'(by omega)):=List.getElem?_eq_getElem (by omega)
   have hi0:ix m (0:Int)=some (m[0]'(by omega)):=ixn (i:=0) hr0
   have hc1:((k:Nat):Int) < (m.length:Int):=by omega
   have hl1:=h2 _ (List.getElem_mem hk)
   have hl2:=h2 _ (List.getElem_mem (h:=(by omega:0 < m.length)))
   have e:((m[k].length:Int) != ((m[0]'(by omega)).length:Int))=false:=by rw [hl1,hl2];simp
   simp only [L149_2,L149_2c,hc1,decide_true,cond_true,ixn hr,hi0,Option.bind_some,e,cond_false,w64n (show k < 9223372036854775807 by omega)]
  ·simp [L149_2,L149_2c]
 simp only [T149,T149c,e1,e2,decide_false,cond_false,cols_ok,Option.bind_some,hl,elimS]
theorem apply_ok {F:Nat} {len:Nat} (hF:200 + len < F) (hlen:len < 1000000) {m bs:List (List UInt8)} (hm:m.length≤64) (hm0:m ≠ []) (hx:∀ x ∈ m,x.length=bs.length) (hx2:bs.length≤64) (hb0:bs ≠ []) (hb:∀ b ∈ bs,b.length=len) :
  T117 F m bs=some (m.map fun x=>comb x bs (List.replicate len 0),0):=by
 have hv:=valid_ok (F:=F) (m:=m) (w:=bs.length) (by omega) hm hx2 hx
 have hc:(m.headD []).length=bs.length:=by
  cases m with
  | nil=>exact absurd rfl hm0
  | cons x m=>exact hx x (by simp)
 have hcb:(bs.headD []).length=len:=by
  cases bs with
  | nil=>exact absurd rfl hb0
  | cons x m=>exact hb x (by simp)
 have hl:iter (fun s=>L117_2 F bs bs (bs.length:Int) s) F (0:Int)=some (.inl ()):=by
  refine same_loop (n:=bs.length) (by omega) (by omega) (fun k hk=>?_) ?_
  ·have hr:bs[k]? = some bs[k]:=List.getElem?_eq_getElem hk
   have hr0:bs[0]? = some (bs[0]'(by omega)):=List.getElem?_eq_getElem (by omega)
   have hi0:ix bs (0:Int)=some (bs[0]'(by omega)):=ixn (i:=0) hr0
   have hc1:((k:Nat):Int) < (bs.length:Int):=by omega
   have hl1:=hb _ (List.getElem_mem hk)
   have hl2:=hb _ (List.getElem_mem (h:=(by omega:0 < bs.length)))
   have e:((bs[k].length:Int) != ((bs[0]'(by omega)).length:Int))=false:=by rw [hl1,hl2];simp
   simp only [L117_2,L117_2c,hc1,decide_true,cond_true,ixn hr,hi0,Option.bind_some,e,cond_false,w64n (show k < 9223372036854775807 by omega)]
  ·simp [L117_2,L117_2c]
 have hco:=combine_ok hF hlen (m:=m) (bs:=bs) (by omega) hx (by omega) hb
 simp only [T117,T117c,hv,Option.bind_some,Bool.not_true,cond_false,cols_ok,hc,bne_self_eq_false,hl,elimS,hcb,hco]
def cell (d i c:Nat):UInt8:=if d≤i then gi (UInt8.ofNat (i ^^^ c)) else if i=c then 1 else 0
theorem ixor_ij {i c:Nat} (hi:i < 16) (hc:c < 8):UInt8.ofInt (ixor (i:Int) (c:Int))=UInt8.ofNat (i ^^^ c):=by
 have:∀ (i:_root_.Fin 16) (c:_root_.Fin 8),UInt8.ofInt (ixor (i.val:Int) (c.val:Int))=UInt8.ofNat (i.val ^^^ c.val):=by decide +kernel
 exact this ⟨i,hi⟩ ⟨c,hc⟩
abbrev Tb:=Vector (Vector UInt8 8) 16
def tget (t:Tb) (i c:Nat):UInt8:=if h:i < 16∧c < 8 then (t[i]'h.1)[c]'h.2 else 0
theorem vatn {α:Type} {n i:Nat} {v:Vector α n} (h:i < n):vat v i=some v[i]:=vat_nat h
theorem tget_set {t:Tb} {i c:Nat} (hi:i < 16) (hc:c < 8) (x:UInt8) (i' c':Nat):tget (Vector.setIfInBounds t i (Vector.setIfInBounds (t[i]'hi) c x)) i' c'=if i'=i∧c'=c then x else tget t i' c':=by
 unfold tget
 by_cases h:i' < 16∧c' < 8
 ·rw [dif_pos h,dif_pos h]
  by_cases h1:i'=i
  ·subst h1
   by_cases h2:c'=c
   ·subst h2;simp
   ·rw [if_neg (fun e=>h2 e.2)]
    have h3:¬ c=c':=fun e=>h2 e.symm
    simp [Vector.getElem_setIfInBounds,h3]
  ·rw [if_neg (fun e=>h1 e.1)]
   rw [Vector.getElem_setIfInBounds_ne (h:=fun e=>h1 e.symm)]
 ·rw [dif_neg h,dif_neg h,if_neg (fun e=>h ⟨by omega,by omega⟩)]
theorem tab_row {F d i:Nat} (hF:200 < F) (hd:d≤8) (hi:i < 16) (t:Tb) (h0:∀ i' c,i≤i'->tget t i' c=0) (h1:∀ i' c,i' < i->c < d->tget t i' c=cell d i' c) :
  ∃ t',iter (fun s:Int×Tb=>L118_4 F (d:Int) (i:Int) (d:Int) s.1 s.2) F ((0:Int),t)=some t'∧(∀ i' c,i + 1≤i'->tget t' i' c=0)∧(∀ i' c,i' < i + 1->c < d->tget t' i' c=cell d i' c):=by
 exact iter1 (f:=fun s:Int×Tb=>L118_4 F (d:Int) (i:Int) (d:Int) s.1 s.2)
  (fun s=>∃ k:Nat,s.1=(k:Int)∧k≤d∧(∀ i' c,i + 1≤i'->tget s.2 i' c=0)∧(∀ c,k≤c->tget s.2 i c=0)∧(∀ i' c,i' < i->c < d->tget s.2 i' c=cell d i' c)∧(∀ c,c < k->tget s.2 i c=cell d i c))
  _ (fun s=>d - s.1.toNat) (fun s hs=>by
   obtain ⟨k,e,hk,a1,a2,a3,a4⟩:=hs
   obtain ⟨s1,t⟩:=s
   simp only at e a1 a2 a3 a4
   subst e
   rcases Nat.lt_or_ge k d with hlt | hge
   ·have hc1:((k:Nat):Int) < (d:Int):=by omega
    have hw:w64 (((k:Nat):Int) + 1)=((k + 1:Nat):Int):=w64n (by omega)
    have hi1:inb 16 (i:Int)=some i:=inbn hi
    have hk1:inb 8 (k:Int)=some k:=inbn (by omega)
    have hv:vat t i=some t[i]:=vatn hi
    have put:∀ x:UInt8,x=cell d i k->(∀ i' c,i + 1≤i'->tget (Vector.setIfInBounds t i (Vector.setIfInBounds (t[i]'hi) k x)) i' c=0)∧(∀ c,k + 1≤c->tget (Vector.setIfInBounds t i (Vector.setIfInBounds (t[i]'hi) k x)) i c=0)∧(∀ i' c,i' < i->c < d->tget (Vector.setIfInBounds t i (Vector.setIfInBounds (t[i]'hi) k x)) i' c=cell d i' c)∧(∀ c,c < k + 1->tget (Vector.setIfInBounds t i (Vector.setIfInBounds (t[i]'hi) k x)) i c=cell d i c):=fun x hx=>by
     refine ⟨fun i' c h=>?_,fun c h=>?_,fun i' c h h2=>?_,fun c h=>?_⟩
     ·rw [tget_set hi (by omega),if_neg (by omega)];exact a1 i' c h
     ·rw [tget_set hi (by omega),if_neg (by omega)];exact a2 c (by omega)
     ·rw [tget_set hi (by omega),if_neg (by omega)];exact a3 i' c h h2
     ·rw [tget_set hi (by omega)]
      by_cases hck:c=k
      ·subst hck;rw [if_pos ⟨rfl,rfl⟩];exact hx
      ·rw [if_neg (fun e=>hck e.2)];exact a4 c (by omega)
    by_cases hdi:d≤i
    ·have c1:(d:Int)≤(i:Int):=by omega
     obtain ⟨er,hinv⟩:=g_inv (F:=F) (by omega) (UInt8.ofNat (i ^^^ k))
     refine .inl ⟨_,by simp only [L118_4,L118_4c,hc1,c1,decide_true,cond_true,hi1,hk1,hv,ixor_ij hi (show k < 8 by omega),hinv,Option.bind_some,hw];rfl,⟨k + 1,rfl,by omega,put _ ?_⟩,by simp only [Int.toNat_natCast];omega⟩
     unfold cell;rw [if_pos hdi]
    ·have c1:¬ (d:Int)≤(i:Int):=by omega
     by_cases hik:i=k
     ·subst hik
      have c2:((i:Int) == (i:Int))=true:=by simp
      refine .inl ⟨_,by simp only [L118_4,L118_4c,hc1,c1,c2,decide_true,decide_false,cond_true,cond_false,hi1,hk1,hv,Option.bind_some,hw];rfl,⟨i + 1,rfl,by omega,put _ ?_⟩,by simp only [Int.toNat_natCast];omega⟩
      unfold cell;rw [if_neg hdi,if_pos rfl];rfl
     ·have c2:((i:Int) == (k:Int))=false:=by
       have:¬ (i:Int)=(k:Int):=by omega
       simpa using this
      refine .inl ⟨_,by simp only [L118_4,L118_4c,hc1,c1,c2,decide_true,decide_false,cond_true,cond_false,hw];rfl,⟨k + 1,rfl,by omega,a1,fun c h=>a2 c (by omega),a3,fun c h=>?_⟩,by simp only [Int.toNat_natCast];omega⟩
      by_cases hck:c=k
      ·subst hck
       show tget t i c=_
       rw [a2 c (by omega)]
       unfold cell;rw [if_neg hdi,if_neg hik]
      ·exact a4 c (by omega)
   ·have hkn:k=d:=by omega
    subst hkn
    refine .inr ⟨t,?_,a1,fun i' c h h2=>?_⟩
    ·simp [L118_4,L118_4c]
    ·by_cases h3:i'=i
     ·subst h3;exact a4 c h2
     ·exact a3 i' c (by omega) h2)
  F ((0:Int),t) ⟨0,rfl,by omega,fun i' c h=>h0 i' c (by omega),fun c _=>h0 i c (by omega),h1,fun c h=>by omega⟩ (by simp;omega)
theorem table_ok {F d:Nat} (hF:200 < F) (hd:d≤8):∃ t:Tb,T118 F (d:Int)=some t∧∀ i c,i < 16->c < d->tget t i c=cell d i c:=by
 obtain ⟨t,hz,hQ⟩:=iter1 (f:=fun s:Int×Tb=>L118_3 F (d:Int) s.1 s.2)
  (fun s=>∃ k:Nat,s.1=(k:Int)∧k≤16∧(∀ i' c,k≤i'->tget s.2 i' c=0)∧(∀ i' c,i' < k->c < d->tget s.2 i' c=cell d i' c))
  (fun t=>∀ i c,i < 16->c < d->tget t i c=cell d i c) (fun s=>16 - s.1.toNat) (fun s hs=>by
   obtain ⟨k,e,hk,a1,a2⟩:=hs
   obtain ⟨s1,t⟩:=s
   simp only at e a1 a2
   subst e
   rcases Nat.lt_or_ge k 16 with hlt | hge
   ·have hc1:((k:Nat):Int) < 16:=by omega
    have hw:w64 (((k:Nat):Int) + 1)=((k + 1:Nat):Int):=w64n (by omega)
    obtain ⟨t',q1,q2,q3⟩:=tab_row hF hd hlt t a1 a2
    exact .inl ⟨_,by simp only [L118_3,L118_3c,hc1,decide_true,cond_true,q1,Option.bind_some,hw];rfl,⟨k + 1,rfl,by omega,q2,q3⟩,by simp only [Int.toNat_natCast];omega⟩
   ·have hkn:k=16:=by omega
    subst hkn
    refine .inr ⟨t,?_,a2⟩
    simp [L118_3,L118_3c])
  F ((0:Int),(Vector.replicate 16 (Vector.replicate 8 (0:UInt8)))) ⟨0,rfl,by omega,fun i' c _=>by unfold tget;split<;>simp,fun i' c h=>by omega⟩ (by simp;omega)
 refine ⟨t,?_,hQ⟩
 simp only [T118,T118c,hz,Option.bind_some]
def rowD (d i:Nat):List UInt8:=(List.range d).map (cell d i)
theorem rowD_len (d i:Nat):(rowD d i).length=d:=by simp [rowD]
theorem row_of {t:Tb} {d:Nat} (hd:d≤8) (h:∀ i c,i < 16->c < d->tget t i c=cell d i c) {i:Nat} (hi:i < 16):((t[i]'hi).toList.drop 0).take (d - 0)=rowD d i:=by
 apply List.ext_getElem
 ·simp [rowD];omega
 ·intro c h1 h2
  have hc:c < d:=by simpa [rowD] using h2
  have:=h i c hi hc
  unfold tget at this
  rw [dif_pos ⟨hi,by omega⟩] at this
  simp [rowD,this]
theorem of_ok {F d:Nat} {t:Tb} (hF:200 < F) (hd:d≤8) (h:∀ i c,i < 16->c < d->tget t i c=cell d i c) {is:List Nat} (hl:is.length≤100) (hi:∀ i ∈ is,i < 16):T119 F (is.map fun i:Nat=>(i:Int)) (d:Int) t=some (is.map (rowD d)):=by
 have hll:((is.map fun i:Nat=>(i:Int)).length:Int)=((is.length:Nat):Int):=by simp
 have hg:=gmaken ([]:List UInt8) (n:=is.length) (by omega)
 obtain ⟨r,r1,r2,_,r4⟩:=fill_loop (N:=is.length) (f:=fun s:Int×List (List UInt8)=>L119_2 F (is.map fun i:Nat=>(i:Int)) ((is.length:Nat):Int) (d:Int) t s.1 s.2) (g:=fun n _=>rowD d (is.getD n 0)) (by omega)
  (fun n l h1 h2=>by
   have hc1:((n:Nat):Int) < ((is.length:Nat):Int):=by omega
   have hn:n < is.length:=by omega
   have hr:(is.map fun i:Nat=>(i:Int))[n]? = some ((is[n]:Nat):Int):=by simp [hn]
   have hi16:=hi _ (List.getElem_mem hn)
   have hg2:is.getD n 0=is[n]:=by simp [hn]
   have hb:inb 16 ((is[n]:Nat):Int)=some is[n]:=inbn hi16
   have hs:gslb 8 (0:Int) (d:Int)=some (0,d):=gslb_nat (a:=0) (by omega) hd
   have hv:vat t is[n]=some (t[is[n]]'hi16):=vatn hi16
   have hga:gapp ([]:List UInt8) (rowD d is[n])=some (rowD d is[n]):=gappn (by rw [rowD_len];simp;omega)
   have hb2:inb l.length (n:Int)=some n:=inbn h1
   simp only [L119_2,L119_2c,hc1,decide_true,cond_true,ixn hr,hb,hs,hv,Option.bind_some,row_of hd h hi16,hga,hb2,w64n (show n < 9223372036854775807 by omega),hg2])
  (fun l hl=>by simp [L119_2,L119_2c])
  is.length 0 F (List.replicate is.length []) (by omega) (by simp) (by omega)
 have r1:iter (fun s:Int×List (List UInt8)=>L119_2 F (is.map fun i:Nat=>(i:Int)) ((is.length:Nat):Int) (d:Int) t s.1 s.2) F ((0:Int),List.replicate is.length [])=some r:=r1
 have hr:r=is.map (rowD d):=by
  apply List.ext_getElem
  ·simp [r2]
  ·intro i h1 h2
   have hii:i < is.length:=by simpa using h2
   rw [r4 i h1 (by simp;omega) (by omega)]
   simp [hii]
 subst hr
 simp only [T119,T119c,hll,hg,Option.bind_some,r1]
theorem one_ok {F:Nat} {bs:List (List UInt8)} {len:Nat} (hF:200 < F) (hl:bs.length≤100) (h1:1≤len) (h2:len≤65536) (h:∀ b ∈ bs,b.length=len):T116 F bs=some true:=by
 have hl:iter (fun s=>L116_2 F bs bs (bs.length:Int) s) F (0:Int)=some (.inl ()):=by
  refine same_loop (n:=bs.length) (by omega) (by omega) (fun k hk=>?_) ?_
  ·have hr:bs[k]? = some bs[k]:=List.getElem?_eq_getElem hk
   have hi0:ix bs (0:Int)=some (bs[0]'(by omega)):=ixn (i:=0) (List.getElem?_eq_getElem (by omega))
   have hc1:((k:Nat):Int) < (bs.length:Int):=by omega
   have hl1:=h _ (List.getElem_mem hk)
   have hl2:=h _ (List.getElem_mem (h:=(by omega:0 < bs.length)))
   have e:((bs[k].length:Int) != ((bs[0]'(by omega)).length:Int))=false:=by rw [hl1,hl2];simp
   have e2:((bs[k].length:Int) == 0)=false:=by
    have:¬ (bs[k].length:Int)=0:=by omega
    simpa using this
   have e3:¬ (65536:Int) < (bs[k].length:Int):=by omega
   simp only [L116_2,L116_2c,hc1,decide_true,cond_true,ixn hr,hi0,Option.bind_some,e,e2,e3,decide_false,cond_false,w64n (show k < 9223372036854775807 by omega)]
  ·simp [L116_2,L116_2c]
 simp only [T116,T116c,hl,Option.bind_some,elimS]
def padB (d len:Nat) (bs:List (List UInt8)):List (List UInt8):=bs ++ List.replicate (d - bs.length) (List.replicate len 0)
def encP (d t len:Nat) (bs:List (List UInt8)):List (List UInt8):=(List.range t).map fun i=>comb (rowD d i) (padB d len bs) (List.replicate len 0)
theorem encode_ok {F d t len:Nat} {bs:List (List UInt8)} (hF:70000 + len < F∨300 + len < F) (h1:1≤d) (h8:d≤8) (hdt:d≤t) (ht:t≤16) (hb1:1≤bs.length) (hbd:bs.length≤d) (hl1:1≤len) (hl2:len≤65536) (h:∀ b ∈ bs,b.length=len) :
  T76 F (d:Int) (t:Int) bs=some (encP d t len bs,0):=by
 have hF:300 + len < F:=by omega
 have hv:T35 F (d:Int) (t:Int)=some true:=by
  have a1:(1:Int)≤(d:Int):=by omega
  have a2:(d:Int)≤8:=by omega
  have a3:(d:Int)≤(t:Int):=by omega
  have a4:(t:Int)≤16:=by omega
  simp only [T35,T35c,a1,a2,a3,a4,decide_true,cond_true]
 have e1:((bs.length:Int) == 0)=false:=by
  have:¬ (bs.length:Int)=0:=by omega
  simpa using this
 have e2:¬ (d:Int) < (bs.length:Int):=by omega
 have hone:=one_ok (F:=F) (by omega) (by omega) hl1 hl2 h
 have hcl:T97 F bs=some bs:=by
  show (gapp ([]:List (List UInt8)) bs).bind some=_
  rw [gappn (by simp;omega)];rfl
 have hfill:iter (fun s:List (List UInt8)=>L76_3 F (d:Int) bs s) F bs=some (padB d len bs):=by
  obtain ⟨z,hz,hQ⟩:=iter1 (f:=fun s:List (List UInt8)=>L76_3 F (d:Int) bs s)
   (fun s=>∃ k:Nat,s=bs ++ List.replicate k (List.replicate len 0)∧bs.length + k≤d) (fun z=>z=padB d len bs) (fun s=>d - s.length) (fun s hs=>by
    obtain ⟨k,rfl,hk⟩:=hs
    have hlen:(bs ++ List.replicate k (List.replicate len (0:UInt8))).length=bs.length + k:=by simp
    rcases Nat.lt_or_ge (bs.length + k) d with hlt | hge
    ·have hc1:((bs ++ List.replicate k (List.replicate len (0:UInt8))).length:Int) < (d:Int):=by rw [hlen];omega
     have hi0:ix bs (0:Int)=some (bs[0]'(by omega)):=ixn (i:=0) (List.getElem?_eq_getElem (by omega))
     have hl0:=h _ (List.getElem_mem (h:=(by omega:0 < bs.length)))
     have hg:=gmaken (0:UInt8) (n:=len) (by omega)
     have hg2:gapp (bs ++ List.replicate k (List.replicate len (0:UInt8))) [List.replicate len (0:UInt8)]=some ((bs ++ List.replicate k (List.replicate len (0:UInt8))) ++ [List.replicate len (0:UInt8)]):=gappn (by rw [hlen];simp;omega)
     refine .inl ⟨(bs ++ List.replicate k (List.replicate len (0:UInt8))) ++ [List.replicate len (0:UInt8)],by simp only [L76_3,L76_3c,hc1,decide_true,cond_true,hi0,hl0,hg,hg2,Option.bind_some],⟨k + 1,by rw [List.replicate_succ',List.append_assoc],by omega⟩,by simp;omega⟩
    ·have hc1:¬ ((bs ++ List.replicate k (List.replicate len (0:UInt8))).length:Int) < (d:Int):=by rw [hlen];omega
     refine .inr ⟨bs ++ List.replicate k (List.replicate len (0:UInt8)),by simp only [L76_3,L76_3c,hc1,decide_false,cond_false],?_⟩
     unfold padB
     rw [show d - bs.length=k by omega])
   F bs ⟨0,by simp,by omega⟩ (by omega)
  subst hQ
  exact hz
 have hidx:iter (fun s:Int×List Int=>L76_4 F (t:Int) s.1 s.2) F ((0:Int),([]:List Int))=some ((List.range t).map fun i:Nat=>(i:Int)):=by
  obtain ⟨z,hz,hQ⟩:=iter1 (f:=fun s:Int×List Int=>L76_4 F (t:Int) s.1 s.2)
   (fun s=>∃ k:Nat,s.1=(k:Int)∧k≤t∧s.2=(List.range k).map fun i:Nat=>(i:Int)) (fun z=>z=(List.range t).map fun i:Nat=>(i:Int)) (fun s=>t - s.1.toNat) (fun s hs=>by
    obtain ⟨k,e,hk,hl⟩:=hs
    obtain ⟨s1,l⟩:=s
    simp only at e hl
    subst e hl
    rcases Nat.lt_or_ge k t with hlt | hge
    ·have hc1:((k:Nat):Int) < (t:Int):=by omega
     have hg:gapp ((List.range k).map fun i:Nat=>(i:Int)) [(k:Int)]=some (((List.range k).map fun i:Nat=>(i:Int)) ++ [(k:Int)]):=gappn (by simp;omega)
     refine .inl ⟨(((k + 1:Nat):Int),((List.range k).map fun i:Nat=>(i:Int)) ++ [(k:Int)]),by simp only [L76_4,L76_4c,hc1,decide_true,cond_true,hg,Option.bind_some,w64n (show k < 9223372036854775807 by omega)],⟨k + 1,rfl,by omega,by rw [List.range_succ,List.map_append];rfl⟩,by simp only [Int.toNat_natCast];omega⟩
    ·have hkn:k=t:=by omega
     subst hkn
     refine .inr ⟨_,?_,rfl⟩
     simp [L76_4,L76_4c])
   F ((0:Int),([]:List Int)) ⟨0,rfl,by omega,rfl⟩ (by simp;omega)
  subst hQ
  exact hz
 obtain ⟨tb,ht1,ht2⟩:=table_ok (F:=F) (d:=d) (by omega) h8
 have hof:=of_ok (F:=F) (by omega) h8 ht2 (is:=List.range t) (by simp;omega) (fun i hi=>by simp at hi;omega)
 have hpl:(padB d len bs).length=d:=by simp [padB];omega
 have hpb:∀ b ∈ padB d len bs,b.length=len:=fun b hb=>by
  rcases List.mem_append.1 hb with hb | hb
  ·exact h b hb
  ·have:=(List.mem_replicate.1 hb).2;subst this;simp
 have hap:=apply_ok (F:=F) (len:=len) (by omega) (by omega) (m:=(List.range t).map (rowD d)) (bs:=padB d len bs) (by simp;omega) (by
   intro e
   have:=congrArg List.length e
   simp at this;omega) (fun x hx=>by
   obtain ⟨i,_,rfl⟩:=List.mem_map.1 hx
   rw [rowD_len,hpl]) (by omega) (by
   intro e
   rw [e] at hpl;simp at hpl;omega) hpb
 have hmm:((List.range t).map (rowD d)).map (fun x=>comb x (padB d len bs) (List.replicate len 0))=encP d t len bs:=by simp [encP]
 rw [hmm] at hap
 simp only [T76,T76c,hv,Option.bind_some,Bool.not_true,cond_false,e1,e2,decide_false,hone,hcl,hfill,hidx,ht1,hof,hap]
abbrev Rf:=List UInt8×Int×Int×Unit
def hc (g:List Rf):Int:=match g with
 | []=>-1
 | r :: _=>clsOf r.2.2.1
def vR (r:Rf):Bool:=decide ((r.1.length:Int)=32∧0≤r.2.1∧0≤r.2.2.1∧r.2.2.1≤32768)
def vF:List (List UInt8)->List Rf->Bool
 | _,[]=>true
 | seen,r :: rs=>vR r && (!seen.contains r.1 && vF (seen ++ [r.1]) rs)
def vRs (refs:List Rf):Bool:=vF [] refs
theorem keqS_ne {z x:List UInt8} (h:z ≠ x):keq .s z x=false:=by show (z == x)=false;simpa using h
theorem keqS_self (z:List UInt8):keq .s z z=true:=by show (z == z)=true;simp
theorem mgt_mptS {β:Type}:∀ (l:List (List UInt8×β)) (x:List UInt8) (y:β) (z:List UInt8),mgt .s (mpt .s l x y) z=if z=x then some y else mgt .s l z
 | [],x,y,z=>by
  by_cases h:z=x
  ·subst h;simp only [mpt,mgt,keqS_self,cond_true,if_true]
  ·simp only [mpt,mgt,keqS_ne h,cond_false,if_neg h]
 | e :: l,x,y,z=>by
  have ih:=mgt_mptS l x y z
  by_cases hx:x=e.1
  ·subst hx
   by_cases h:z=e.1
   ·subst h;simp only [mpt,mgt,keqS_self,cond_true,if_true]
   ·simp only [mpt,mgt,keqS_self,keqS_ne h,cond_true,cond_false,if_neg h]
  ·simp only [mpt,keqS_ne hx,cond_false,mgt]
   by_cases h:z=e.1
   ·subst h
    have:¬ e.1=x:=fun h=>hx h.symm
    simp only [keqS_self,cond_true,if_neg this]
   ·simp only [keqS_ne h,cond_false];exact ih
def nms (l:List Rf):List (List UInt8):=l.map (·.1)
theorem drop_at {α:Type} {l:List α} {k:Nat} {x:α} (h:l[k]? = some x):l.drop k=x :: l.drop (k + 1):=by
 obtain ⟨h1,h2⟩:=List.getElem?_eq_some_iff.1 h
 rw [List.drop_eq_getElem_cons h1,h2]
theorem takeS {α:Type} {l:List α} {k:Nat} {x:α} (h:l[k]? = some x):l.take (k + 1)=l.take k ++ [x]:=by
 rw [List.take_add_one,h];rfl
theorem valid30 {F:Nat} {refs:List Rf} (hl:refs.length≤1000) (hF:2000 < F):T36 F refs=some (vRs refs):=by
 obtain ⟨z,hz,hQ⟩:=iter1 (f:=fun s:Int×List (List UInt8×Bool)=>L36_2 F refs (refs.length:Int) s.1 s.2)
  (fun s=>∃ k:Nat,s.1=(k:Int)∧k≤refs.length∧(∀ x,mgd .s s.2 x false=(nms (refs.take k)).contains x)∧vF (nms (refs.take k)) (refs.drop k)=vRs refs)
  (fun z=>match z with | .inl _=>vRs refs=true | .inr b=>b=vRs refs) (fun s=>refs.length - s.1.toNat) (fun s hs=>by
   obtain ⟨k,e,hk,hm,hv⟩:=hs
   obtain ⟨s1,m⟩:=s
   simp only at e hm
   subst e
   rcases Nat.lt_or_ge k refs.length with hlt | hge
   ·have hr:refs[k]? = some refs[k]:=List.getElem?_eq_getElem hlt
    have hc1:((k:Nat):Int) < (refs.length:Int):=by omega
    have hix:=ixn hr
    have hw:w64 (((k:Nat):Int) + 1)=((k + 1:Nat):Int):=w64n (by omega)
    generalize refs[k]=r at hr hix
    rw [drop_at hr] at hv
    simp only [vF] at hv
    have hmr:=hm r.1
    by_cases hvr:vR r=true
    ·have hd:=of_decide_eq_true hvr
     obtain ⟨q1,q2,q3,q4⟩:=hd
     have e1:((r.1.length:Int) != 32)=false:=by simpa using q1
     have e2:¬ r.2.1 < 0:=by omega
     have e3:¬ r.2.2.1 < 0:=by omega
     have e4:¬ (32768:Int) < r.2.2.1:=by omega
     cases hcn:(nms (refs.take k)).contains r.1 with
     | true=>
      rw [hcn] at hmr
      rw [hvr,hcn] at hv
      refine .inr ⟨.inr false,?_,by rw [← hv];rfl⟩
      simp only [L36_2,L36_2c,hc1,decide_true,cond_true,hix,Option.bind_some,e1,e2,e3,e4,decide_false,cond_false,hmr]
     | false=>
      rw [hcn] at hmr
      rw [hvr,hcn] at hv
      refine .inl ⟨(((k + 1:Nat):Int),mpt .s m r.1 true),?_,⟨k + 1,rfl,by omega,fun x=>?_,?_⟩,?_⟩
      ·simp only [L36_2,L36_2c,hc1,decide_true,cond_true,hix,Option.bind_some,e1,e2,e3,e4,decide_false,cond_false,hmr,hw]
      ·have hmx:=hm x
       unfold mgd at hmx ⊢
       rw [mgt_mptS,takeS hr]
       by_cases hx:x=r.1
       ·subst hx;simp [nms]
       ·rw [if_neg hx,hmx]
        simp [nms,hx]
      ·rw [takeS hr]
       have:nms (refs.take k ++ [r])=nms (refs.take k) ++ [r.1]:=by simp [nms]
       rw [this];simpa using hv
      ·simp only [Int.toNat_natCast];omega
    ·have hvr:vR r=false:=by simpa using hvr
     rw [hvr] at hv
     refine .inr ⟨.inr false,?_,by rw [← hv];rfl⟩
     have hd:=of_decide_eq_false hvr
     simp only [L36_2,L36_2c,hc1,decide_true,cond_true,hix,Option.bind_some]
     by_cases q1:(r.1.length:Int)=32
     ·have e1:((r.1.length:Int) != 32)=false:=by simpa using q1
      simp only [e1,cond_false]
      by_cases e2:r.2.1 < 0
      ·simp only [e2,decide_true,cond_true]
      ·simp only [e2,decide_false,cond_false]
       by_cases e3:r.2.2.1 < 0
       ·simp only [e3,decide_true,cond_true]
       ·simp only [e3,decide_false,cond_false]
        by_cases e4:(32768:Int) < r.2.2.1
        ·simp only [e4,decide_true,cond_true]
        ·exact absurd ⟨q1,by omega,by omega,by omega⟩ hd
     ·have e1:((r.1.length:Int) != 32)=true:=by simpa using q1
      simp only [e1,cond_true]
   ·have hkl:k=refs.length:=by omega
    subst hkl
    rw [List.take_length,List.drop_length] at hv
    refine .inr ⟨.inl (),?_,by rw [← hv];rfl⟩
    simp [L36_2,L36_2c])
  F ((0:Int),([]:List (List UInt8×Bool))) ⟨0,rfl,by omega,fun x=>rfl,rfl⟩ (by simp;omega)
 simp only [T36,T36c]
 rw [hz]
 cases z with
 | inl u=>have hQ:vRs refs=true:=hQ;rw [hQ];rfl
 | inr b=>have hQ:b=vRs refs:=hQ;rw [← hQ];rfl
theorem vF_all:∀ {seen:List (List UInt8)} {refs:List Rf},vF seen refs=true->∀ r ∈ refs,vR r=true
 | _,[],_,r,h=>by simp at h
 | seen,x :: refs,h,r,hr=>by
  simp only [vF,Bool.and_eq_true] at h
  rcases List.mem_cons.1 hr with rfl | hr
  ·exact h.1
  ·exact vF_all h.2.2 r hr
theorem vRs_size {refs:List Rf} (h:vRs refs=true):∀ r ∈ refs,0≤r.2.2.1∧r.2.2.1≤32768:=fun r hr=>by
 have:=of_decide_eq_true (vF_all h r hr)
 exact ⟨this.2.2.1,this.2.2.2⟩
abbrev Pc:=(List UInt8×Int×Unit)×List UInt8×List (List UInt8)×Unit
def mkP (F:Nat) (xs:List (List UInt8)):List Pc:=(List.range xs.length).map fun i:Nat=>((rt F F (xs.map (hsh F)),(i:Int),()),xs.getD i [],xs.map (hsh F),())
theorem clone_b {F:Nat} {x:List UInt8} (h:x.length≤1000000):T77 F x=some x:=by
 show (gapp ([]:List UInt8) x).bind some=_
 rw [gappn (by simp;omega)];rfl
theorem clone_s {F:Nat} {x:List (List UInt8)} (h:x.length≤1000000):T78 F x=some x:=by
 show (gapp ([]:List (List UInt8)) x).bind some=_
 rw [gappn (by simp;omega)];rfl
theorem clone_r {F:Nat} {x:List Rf} (h:x.length≤1000000):T40 F x=some x:=by
 show (gapp ([]:List Rf) x).bind some=_
 rw [gappn (by simp;omega)];rfl
theorem encP_len (d t len:Nat) (bs:List (List UInt8)):(encP d t len bs).length=t:=by simp [encP]
theorem padB_len {d len:Nat} {bs:List (List UInt8)} (h:∀ b ∈ bs,b.length=len):∀ b ∈ padB d len bs,b.length=len:=fun b hb=>by
 rcases List.mem_append.1 hb with hb | hb
 ·exact h b hb
 ·have:=(List.mem_replicate.1 hb).2;subst this;simp
theorem encP_mem {d t len:Nat} {bs:List (List UInt8)} (h:∀ b ∈ bs,b.length=len):∀ x ∈ encP d t len bs,x.length=len:=fun x hx=>by
 obtain ⟨i,_,rfl⟩:=List.mem_map.1 hx
 rw [comb_len (fun b hb=>by rw [padB_len h b hb];simp)];simp
theorem hsh_len {F:Nat} (hF:2000 < F) {x:List UInt8} (hx:x.length≤65536):(hsh F x).length=32:=(t_of hF hx).2
theorem sums_loop {F:Nat} (hF:2000 < F) {xs:List (List UInt8)} (hl:xs.length≤100) (h:∀ x ∈ xs,x.length≤65536):iter (fun s:Int×List (List UInt8)=>L39_3 F xs (xs.length:Int) s.1 s.2) F ((0:Int),([]:List (List UInt8)))=some (.inl (xs.map (hsh F))):=by
 obtain ⟨z,hz,hQ⟩:=iter1 (f:=fun s:Int×List (List UInt8)=>L39_3 F xs (xs.length:Int) s.1 s.2)
  (fun s=>∃ k:Nat,s.1=(k:Int)∧k≤xs.length∧s.2=(xs.take k).map (hsh F)) (fun z=>z=.inl (xs.map (hsh F))) (fun s=>xs.length - s.1.toNat) (fun s hs=>by
   obtain ⟨k,e,hk,hl2⟩:=hs
   obtain ⟨s1,l⟩:=s
   simp only at e hl2
   subst e hl2
   rcases Nat.lt_or_ge k xs.length with hlt | hge
   ·have hc1:((k:Nat):Int) < (xs.length:Int):=by omega
    have hr:xs[k]? = some xs[k]:=List.getElem?_eq_getElem hlt
    have hix:=ixn hr
    have hx:=h _ (List.getElem_mem hlt)
    generalize xs[k]=x at hr hix hx
    have hof:=(t_of hF hx).1
    have hg:gapp ((xs.take k).map (hsh F)) [hsh F x]=some ((xs.take k).map (hsh F) ++ [hsh F x]):=gappn (by simp;omega)
    refine .inl ⟨(((k + 1:Nat):Int),(xs.take k).map (hsh F) ++ [hsh F x]),by simp only [L39_3,L39_3c,hc1,decide_true,cond_true,hix,hof,bne_self_eq_false,cond_false,hg,Option.bind_some,w64n (show k < 9223372036854775807 by omega)],⟨k + 1,rfl,by omega,by rw [takeS' hr];simp⟩,by simp only [Int.toNat_natCast];omega⟩
   ·have hkn:k=xs.length:=by omega
    subst hkn
    refine .inr ⟨.inl ((xs.take xs.length).map (hsh F)),?_,by rw [List.take_length]⟩
    simp [L39_3,L39_3c])
  F ((0:Int),([]:List (List UInt8))) ⟨0,rfl,by omega,rfl⟩ (by simp;omega)
 subst hQ
 exact hz
theorem pieces_loop {F:Nat} (hF:2000 < F) {xs:List (List UInt8)} (hl:xs.length≤100) (h:∀ x ∈ xs,x.length≤65536):iter (fun s:Int×List Pc=>L39_4 F (rt F F (xs.map (hsh F))) xs (xs.length:Int) (xs.map (hsh F)) s.1 s.2) F ((0:Int),([]:List Pc))=some (mkP F xs):=by
 obtain ⟨z,hz,hQ⟩:=iter1 (f:=fun s:Int×List Pc=>L39_4 F (rt F F (xs.map (hsh F))) xs (xs.length:Int) (xs.map (hsh F)) s.1 s.2)
  (fun s=>∃ k:Nat,s.1=(k:Int)∧k≤xs.length∧s.2=(List.range k).map fun i:Nat=>((rt F F (xs.map (hsh F)),(i:Int),()),xs.getD i [],xs.map (hsh F),())) (fun z=>z=mkP F xs) (fun s=>xs.length - s.1.toNat) (fun s hs=>by
   obtain ⟨k,e,hk,hl2⟩:=hs
   obtain ⟨s1,l⟩:=s
   simp only at e hl2
   subst e hl2
   rcases Nat.lt_or_ge k xs.length with hlt | hge
   ·have hc1:((k:Nat):Int) < (xs.length:Int):=by omega
    have hr:xs[k]? = some xs[k]:=List.getElem?_eq_getElem hlt
    have hix:=ixn hr
    have hx:=h _ (List.getElem_mem hlt)
    have hgd:xs.getD k []=xs[k]:=by simp [hlt]
    have hc:=clone_b (F:=F) (x:=xs[k]) (by omega)
    have hc2:=clone_s (F:=F) (x:=xs.map (hsh F)) (by simp;omega)
    have hg:∀ (l:List Pc) (y:Pc),l.length≤100->gapp l [y]=some (l ++ [y]):=fun l y h=>gappn (by simp;omega)
    refine .inl ⟨(((k + 1:Nat):Int),((List.range k).map fun i:Nat=>((rt F F (xs.map (hsh F)),(i:Int),()),xs.getD i [],xs.map (hsh F),())) ++ [((rt F F (xs.map (hsh F)),(k:Int),()),xs[k],xs.map (hsh F),())]),by simp only [L39_4,L39_4c,hc1,decide_true,cond_true,hix,hc,hc2,Option.bind_some,w64n (show k < 9223372036854775807 by omega)];rw [hg _ _ (by simp;omega)];rfl,⟨k + 1,rfl,by omega,by rw [List.range_succ,List.map_append,← hgd];rfl⟩,by simp only [Int.toNat_natCast];omega⟩
   ·have hkn:k=xs.length:=by omega
    subst hkn
    refine .inr ⟨_,?_,rfl⟩
    simp only [L39_4,L39_4c,show ¬ ((xs.length:Int) < (xs.length:Int)) by omega,decide_false,cond_false];rfl)
  F ((0:Int),([]:List Pc)) ⟨0,rfl,by omega,rfl⟩ (by simp;omega)
 subst hQ
 exact hz
theorem code_ok {F d t len:Nat} {bs:List (List UInt8)} (hF:2000 + len < F) (h1:1≤d) (h8:d≤8) (hdt:d≤t) (ht:t≤16) (hb1:1≤bs.length) (hbd:bs.length≤d) (hl1:1≤len) (hl2:len≤65536) (h:∀ b ∈ bs,b.length=len) :
  T39 F (d:Int) (t:Int) bs=some (rt F F ((encP d t len bs).map (hsh F)),0,mkP F (encP d t len bs)):=by
 have he:=encode_ok (F:=F) (.inr (by omega)) h1 h8 hdt ht hb1 hbd hl1 hl2 h
 have hm:=encP_mem (d:=d) (t:=t) h
 have hlen:=encP_len d t len bs
 generalize encP d t len bs=xs at he hm hlen
 have hs:=sums_loop (F:=F) (by omega) (xs:=xs) (by omega) (fun x hx=>by rw [hm x hx];exact hl2)
 have hp:=pieces_loop (F:=F) (by omega) (xs:=xs) (by omega) (fun x hx=>by rw [hm x hx];exact hl2)
 have hr:=(t_root (F:=F) (by omega) (l:=xs.map (hsh F)) (by simp;omega) (fun y hy=>by
  obtain ⟨x,hx,rfl⟩:=List.mem_map.1 hy
  exact hsh_len (by omega) (by rw [hm x hx];exact hl2))).1
 simp only [T39,T39c,he,Option.bind_some,bne_self_eq_false,cond_false,hs,elimS,hr,hp]
abbrev Sd:=List UInt8×Int×Int×Int×Int×Int×List Rf×List Pc
def noStripe:Sd:=([],0,0,0,0,1,[],[])
abbrev Me:=Int×List UInt8×Int×Int×Int×Int
def mkErr:Me:=(1,[],0,0,0,0)
def okC (c:Int) (refs:List Rf) (bs:List (List UInt8)):Bool:=refs.all (fun r=>clsOf r.2.2.1 == c) && bs.all (fun b=>(b.length:Int) == c)
theorem has_ok {F:Nat} (hF:50 < F) {n:Int} (h0:0≤n) (h1:n≤32768) (c:Int):T38 F n c=some (clsOf n == c):=by
 have:=(class_in hF h0 h1).1
 simp only [T38,T38c,this,Option.bind_some,beq_self_eq_true,cond_true]
theorem make_loop {F:Nat} (hF:2000 < F) {refs:List Rf} {bs:List (List UInt8)} (hl:refs.length≤1000) (hb:bs.length=refs.length) (hv:∀ r ∈ refs,0≤r.2.2.1∧r.2.2.1≤32768) (c:Int) :
  iter (fun s=>L10_2 F bs c refs (refs.length:Int) s) F (0:Int)=some (bif okC c refs bs then .inl () else .inr mkErr):=by
 obtain ⟨z,hz,hQ⟩:=iter1 (f:=fun s:Int=>L10_2 F bs c refs (refs.length:Int) s)
  (fun s=>∃ k:Nat,s=(k:Int)∧k≤refs.length∧okC c (refs.drop k) (bs.drop k)=okC c refs bs) (fun z=>z=(bif okC c refs bs then .inl () else .inr mkErr)) (fun s=>refs.length - s.toNat) (fun s hs=>by
   obtain ⟨k,e,hk,ha⟩:=hs
   subst e
   rcases Nat.lt_or_ge k refs.length with hlt | hge
   ·have hc1:((k:Nat):Int) < (refs.length:Int):=by omega
    have hr:refs[k]? = some refs[k]:=List.getElem?_eq_getElem hlt
    have hrb:bs[k]? = some (bs[k]'(by omega)):=List.getElem?_eq_getElem (by omega)
    have hix:=ixn hr
    have hixb:=ixn hrb
    have hx:=hv _ (List.getElem_mem hlt)
    have hd:=drop_at hr
    have hdb:=drop_at hrb
    generalize refs[k]=x at hr hix hx hd
    generalize bs[k]'(by omega)=b at hrb hixb hdb
    have hh:=has_ok (F:=F) (by omega) hx.1 hx.2 c
    rw [hd,hdb] at ha
    unfold okC at ha
    simp only [List.all_cons] at ha
    cases h1:clsOf x.2.2.1 == c with
    | false=>
     rw [h1] at ha hh
     simp only [Bool.false_and] at ha
     refine .inr ⟨_,by simp only [L10_2,L10_2c,hc1,decide_true,cond_true,hix,hh,Option.bind_some,Bool.not_false];rfl,?_⟩
     unfold okC;rw [← ha];rfl
    | true=>
     rw [h1] at ha hh
     simp only [Bool.true_and] at ha
     cases h2:(b.length:Int) == c with
     | false=>
      have h2':((b.length:Int) != c)=true:=by simp [bne,h2]
      rw [h2] at ha
      simp only [Bool.false_and,Bool.and_false] at ha
      refine .inr ⟨_,by simp only [L10_2,L10_2c,hc1,decide_true,cond_true,hix,hixb,hh,h2',Option.bind_some,Bool.not_true,cond_false];rfl,?_⟩
      unfold okC;rw [← ha];rfl
     | true=>
      have h2':((b.length:Int) != c)=false:=by simp [bne,h2]
      rw [h2] at ha
      simp only [Bool.true_and] at ha
      exact .inl ⟨((k + 1:Nat):Int),by simp only [L10_2,L10_2c,hc1,decide_true,cond_true,hix,hixb,hh,h2',Option.bind_some,Bool.not_true,cond_false,w64n (show k < 9223372036854775807 by omega)],⟨k + 1,rfl,by omega,ha⟩,by simp only [Int.toNat_natCast];omega⟩
   ·have hkn:k=refs.length:=by omega
    subst hkn
    rw [List.drop_length,← hb,List.drop_length] at ha
    refine .inr ⟨.inl (),?_,by rw [← ha];rfl⟩
    simp [L10_2,L10_2c])
  F (0:Int) ⟨0,rfl,by omega,rfl⟩ (by simp;omega)
 subst hQ
 exact hz
def okMake (vault data total:Int) (refs:List Rf) (bs:List (List UInt8)):Bool:=
 decide (0≤vault∧vault≤11∧1≤data∧data≤8∧data≤total∧total≤16∧1≤refs.length∧(refs.length:Int)≤data∧bs.length=refs.length) && (vRs refs && okC (hc refs) refs bs)
def theStripe (F:Nat) (vault data total:Int) (refs:List Rf) (bs:List (List UInt8)):Sd:=
 (rt F F ((encP data.toNat total.toNat (hc refs).toNat bs).map (hsh F)),vault,hc refs,data,total,0,refs,mkP F (encP data.toNat total.toNat (hc refs).toNat bs))
theorem make_ok {F:Nat} (hF:50000≤F) {vault data total:Int} {refs:List Rf} {bs:List (List UInt8)} (hl:refs.length≤1000) (hb:∀ b ∈ bs,b.length≤40960) :
  T10 F vault data total refs bs=some (bif okMake vault data total refs bs then theStripe F vault data total refs bs else noStripe):=by
 have h30:=valid30 (refs:=refs) hl (F:=F) (by omega)
 have hva:T35 F data total=some (decide (1≤data∧data≤8∧data≤total∧total≤16)):=by
  simp only [T35,T35c]
  by_cases h1:1≤data<;>by_cases h2:data≤8<;>by_cases h3:data≤total<;>by_cases h4:total≤16<;>simp [h1,h2,h3,h4]
 simp only [T10,T10c,h30,hva,Option.bind_some]
 have bad:∀ {p:Prop} [Decidable p] {c:Bool},¬ p->(bif decide p && c then theStripe F vault data total refs bs else noStripe)=noStripe:=fun {p} _ c h=>by simp [h]
 unfold okMake
 by_cases c1:vault < 0
 ·simp only [c1,decide_true,cond_true];rw [bad (by omega)];rfl
 simp only [c1,decide_false,cond_false]
 by_cases c2:11 < vault
 ·simp only [c2,decide_true,cond_true];rw [bad (by omega)];rfl
 simp only [c2,decide_false,cond_false]
 by_cases c3:1≤data∧data≤8∧data≤total∧total≤16
 case neg=>simp only [c3,decide_false,Bool.not_false,cond_true];rw [bad (fun h=>c3 ⟨h.2.2.1,h.2.2.2.1,h.2.2.2.2.1,h.2.2.2.2.2.1⟩)];rfl
 have c3':decide (1≤data∧data≤8∧data≤total∧total≤16)=true:=by simpa using c3
 simp only [c3',Bool.not_true,cond_false]
 by_cases c4:(refs.length:Int) < 1
 ·simp only [c4,decide_true,cond_true];rw [bad (by omega)];rfl
 simp only [c4,decide_false,cond_false]
 by_cases c5:data < (refs.length:Int)
 ·simp only [c5,decide_true,cond_true];rw [bad (by omega)];rfl
 simp only [c5,decide_false,cond_false]
 cases c6:vRs refs with
 | false=>simp only [Bool.not_false,cond_true,Bool.false_and,Bool.and_false,cond_false];rfl
 | true=>
 simp only [Bool.not_true,cond_false,Bool.true_and]
 by_cases c7:bs.length=refs.length
 case neg=>
  have:((bs.length:Int) != (refs.length:Int))=true:=by
   have:¬ (bs.length:Int)=(refs.length:Int):=by omega
   simpa using this
  simp only [this,cond_true];rw [bad (fun h=>c7 h.2.2.2.2.2.2.2.2)];rfl
 have e7:((bs.length:Int) != (refs.length:Int))=false:=by rw [c7];simp
 simp only [e7,cond_false]
 have hsz:=vRs_size c6
 obtain ⟨r,rs,hrs⟩:∃ r rs,refs=r :: rs:=by
  cases refs with
  | nil=>simp at c4
  | cons r rs=>exact ⟨r,rs,rfl⟩
 have hi0:ix refs (0:Int)=some r:=by rw [hrs];exact ixn (i:=0) rfl
 have hr0:=hsz r (by rw [hrs];simp)
 have hcl:=(class_in (F:=F) (by omega) hr0.1 hr0.2).1
 have hhc:hc refs=clsOf r.2.2.1:=by rw [hrs];rfl
 have hlo:=make_loop (F:=F) (by omega) hl c7 hsz (clsOf r.2.2.1)
 have hp:decide (0≤vault∧vault≤11∧1≤data∧data≤8∧data≤total∧total≤16∧1≤refs.length∧(refs.length:Int)≤data∧bs.length=refs.length)=true:=by
  have:=c3;apply decide_eq_true;omega
 simp only [hi0,hcl,hlo,Option.bind_some,hp,Bool.true_and,hhc]
 cases c8:okC (clsOf r.2.2.1) refs bs with
 | false=>simp only [cond_false,elimS];rfl
 | true=>
 simp only [cond_true,elimS]
 obtain ⟨d,rfl⟩:∃ d:Nat,data=(d:Int):=⟨data.toNat,by omega⟩
 obtain ⟨t,rfl⟩:∃ t:Nat,total=(t:Int):=⟨total.toNat,by omega⟩
 have hge:=clsOf_ge r.2.2.1
 obtain ⟨len,hlen⟩:∃ len:Nat,clsOf r.2.2.1=(len:Int):=⟨(clsOf r.2.2.1).toNat,by omega⟩
 have hbl:∀ b ∈ bs,b.length=len:=fun b hb'=>by
  unfold okC at c8
  simp only [Bool.and_eq_true] at c8
  have:=List.all_eq_true.1 c8.2 b hb'
  rw [hlen] at this
  have:(b.length:Int)=(len:Int):=by simpa using this
  omega
 have hl2:len≤40960:=by
  cases bs with
  | nil=>rw [hrs] at c7;simp at c7
  | cons b bs=>rw [← hbl b (by simp)];exact hb b (by simp)
 have hco:=code_ok (F:=F) (d:=d) (t:=t) (len:=len) (bs:=bs) (by omega) (by omega) (by omega) (by omega) (by omega) (by rw [c7,hrs];simp) (by omega) (by omega) (by omega) hbl
 have hcr:=clone_r (F:=F) (x:=refs) (by omega)
 simp only [hco,Option.bind_some,bne_self_eq_false,cond_false,hcr]
 unfold theStripe
 rw [hhc,hlen]
 simp only [Int.toNat_natCast]
def encN:Nat->Nat->List UInt8
 | 0,n=>[UInt8.ofNat n]
 | m + 1,n=>if n < 128 then [UInt8.ofNat n] else UInt8.ofNat (n % 128 + 128) :: encN m (n / 128)
theorem encN_len:∀ (m n:Nat),(encN m n).length≤m + 1∧1≤(encN m n).length
 | 0,n=>by simp [encN]
 | m + 1,n=>by
  have:=encN_len m (n / 128)
  simp only [encN];split<;>simp<;>omega
theorem or128:∀ b:_root_.Fin 256,(UInt8.ofNat b.val ||| UInt8.ofNat 128)=UInt8.ofNat (b.val % 128 + 128):=by decide +kernel
theorem u8_of (x:UInt64):x.toUInt8=UInt8.ofNat x.toNat:=by
 apply UInt8.toNat_inj.1
 rw [UInt64.toNat_toUInt8,UInt8.toNat_ofNat']
theorem byte60 (x:UInt64):(x.toUInt8 ||| UInt8.ofNat 128)=UInt8.ofNat (x.toNat % 128 + 128):=by
 have h:=or128 ⟨x.toNat % 256,Nat.mod_lt _ (by omega)⟩
 simp only at h
 have e:UInt8.ofNat (x.toNat % 256)=x.toUInt8:=by
  apply UInt8.toNat_inj.1
  rw [UInt64.toNat_toUInt8,UInt8.toNat_ofNat'];omega
 rw [e] at h
 rw [h]
 congr 1;omega
theorem l60 (F:Nat):∀ (m fuel:Nat) (x:UInt64) (l:List UInt8),x.toNat < 128 ^ (m + 1)->m < fuel->l.length + m < 1000000->∃ y pre,iter (fun s:UInt64×List UInt8=>L100_2 F s.1 s.2) fuel (x,l)=some (y,l ++ pre)∧pre ++ [y.toUInt8]=encN m x.toNat∧pre.length≤m
 | m,0,x,l,hx,hf,hl=>by omega
 | 0,fuel + 1,x,l,hx,hf,hl=>by
  have h:¬ UInt64.ofNat 128≤x:=by
   show ¬ (128≤x.toNat);omega
  have step:L100_2 F x l=some (.inr (x,l)):=by simp only [L100_2,L100_2c,h,decide_false,cond_false]
  refine ⟨x,[],?_,by rw [List.nil_append,u8_of];simp only [encN],by simp⟩
  rw [it_out (f:=fun s:UInt64×List UInt8=>L100_2 F s.1 s.2) (s:=(x,l)) step];simp
 | m + 1,fuel + 1,x,l,hx,hf,hl=>by
  by_cases h:128≤x.toNat
  ·have h':UInt64.ofNat 128≤x:=h
   have hd:=shr7 x
   have hlt:(shr64 x 7).toNat < 128 ^ (m + 1):=by rw [hd];exact Nat.div_lt_of_lt_mul (by rw [Nat.pow_succ] at hx;omega)
   obtain ⟨y,pre,h1,h2,h3⟩:=l60 F m fuel (shr64 x 7) (l ++ [UInt8.ofNat (x.toNat % 128 + 128)]) hlt (by omega) (by simp;omega)
   refine ⟨y,UInt8.ofNat (x.toNat % 128 + 128) :: pre,?_,?_,by simp;omega⟩
   ·have e7:(UInt64.ofNat 7).toNat=7:=rfl
    have hg:gapp l [x.toUInt8 ||| UInt8.ofNat 128]=some (l ++ [UInt8.ofNat (x.toNat % 128 + 128)]):=by
     rw [byte60];unfold gapp;rw [if_pos (by simp;omega)]
    have step:L100_2 F x l=some (.inl (shr64 x 7,l ++ [UInt8.ofNat (x.toNat % 128 + 128)])):=by
     simp only [L100_2,L100_2c,h',decide_true,cond_true,hg,Option.bind_some,e7]
    rw [it_again (f:=fun s:UInt64×List UInt8=>L100_2 F s.1 s.2) (s:=(x,l)) step,h1]
    simp
   ·rw [List.cons_append,h2,hd]
    simp [encN,show ¬ x.toNat < 128 by omega]
  ·have h':¬ UInt64.ofNat 128≤x:=h
   have step:L100_2 F x l=some (.inr (x,l)):=by simp only [L100_2,L100_2c,h',decide_false,cond_false]
   refine ⟨x,[],?_,by rw [List.nil_append,u8_of];simp only [encN,show x.toNat < 128 by omega,if_true],by simp⟩
   rw [it_out (f:=fun s:UInt64×List UInt8=>L100_2 F s.1 s.2) (s:=(x,l)) step];simp
def enc (n:Nat):List UInt8:=encN 9 n
theorem u64_lt (x:UInt64):x.toNat < 128 ^ (9 + 1):=Nat.lt_of_lt_of_le x.toNat_lt (by decide)
theorem encN_one {m n:Nat} (h:n < 128):encN m n=[UInt8.ofNat n]:=by
 cases m<;>simp [encN,h]
theorem enc_len {n:Nat} (h:n≤32768):(enc n).length=sz n:=by
 unfold enc sz
 by_cases h1:n < 128
 ·simp [encN,h1]
 ·by_cases h2:n < 16384
  ·simp [encN,h1,h2,show n / 128 < 128 by omega]
  ·simp [encN,h1,h2,show ¬ n / 128 < 128 by omega,show n / 128 / 128 < 128 by omega]
theorem sz_bd (n:Nat):1≤sz n∧sz n≤3:=by unfold sz;split<;>(try split)<;>omega
theorem fc_spec (need:Int):∀ (m k:Nat),need≤cls (k + m)->∃ j,k≤j∧j≤k + m∧fc need m k=cls j∧need≤cls j∧(j=k∨cls (j - 1) < need)
 | 0,k,h=>⟨k,by omega,by omega,rfl,h,.inl rfl⟩
 | m + 1,k,h=>by
  by_cases hk:cls k < need
  ·obtain ⟨j,h1,h2,h3,h4,h5⟩:=fc_spec need m (k + 1) (by rw [show k + 1 + m=k + (m + 1) by omega];exact h)
   refine ⟨j,by omega,by omega,by simp [fc,hk,h3],h4,.inr ?_⟩
   rcases h5 with rfl | h5
   ·simpa using hk
   ·exact h5
  ·exact ⟨k,by omega,by omega,by simp [fc,hk],by omega,.inl rfl⟩
theorem class_spec {F:Nat} (hF:50 < F) {n:Int} (h0:0≤n) (h1:n≤32768):∃ j,j < 38∧T37 F n=some (cls j,0)∧(sz n.toNat:Nat) + n + 16≤cls j∧(j=0∨cls (j - 1) < (sz n.toNat:Nat) + n + 16):=by
 have hs:=sz_bd n.toNat
 have hle:need n≤cls 37:=by
  have:cls 37=40960:=by decide
  unfold need;omega
 obtain ⟨j,a1,a2,a3,a4,a5⟩:=fc_spec (need n) 37 0 hle
 have hc:=(class_in hF h0 h1).1
 unfold clsOf at hc
 unfold need at a4 a5
 exact ⟨j,by omega,by rw [hc,a3],a4,a5⟩
theorem u64i {n:Int} (h0:0≤n) (h1:n≤32768):(UInt64.ofInt n).toNat=n.toNat:=by
 show (UInt64.ofNat (n % 2 ^ 64).toNat).toNat=_
 rw [UInt64.toNat_ofNat'];omega
theorem cls_b:∀ j:_root_.Fin 38,64≤cls j.val∧cls j.val≤40960∧0≤(cls j.val).tdiv 4∧(cls j.val).tdiv 4≤40960:=by decide +kernel
theorem t44 {F:Nat} (hF:50 < F) (x:UInt64):T110 F [] x=some (enc x.toNat):=by
 obtain ⟨y,pre,h1,h2,h3⟩:=l60 F 9 F x [] (u64_lt x) (by omega) (by simp)
 have w:w64 ((([]:List UInt8).length:Int) + 10)=10:=by decide
 have g1:gmake (0:UInt8) (0:Int) 10=some []:=by decide
 have g2:gapp ([]:List UInt8) []=some []:=by decide
 simp only [T110,T110c,w,g1,g2,Option.bind_some,T100,T100c]
 rw [h1]
 simp only [Option.bind_some,List.nil_append]
 have:gapp pre [y.toUInt8]=some (pre ++ [y.toUInt8]):=by unfold gapp;rw [if_pos (by simp;omega)]
 rw [this,h2];rfl
def bodyL (D:Nat) (c k:List UInt8):List UInt8:=enc c.length ++ c ++ List.replicate (D - 16 - (enc c.length).length - c.length) 0 ++ k
theorem splice3 {e c k:List UInt8} {D:Nat} (h:e.length + c.length + 16≤D) (hk:k.length=16) :
  splice (splice (splice (List.replicate D (0:UInt8)) 0 e e.length) e.length c c.length) (D - 16) k 16=e ++ c ++ List.replicate (D - 16 - e.length - c.length) 0 ++ k:=by
 have s1:splice (List.replicate D (0:UInt8)) 0 e e.length=e ++ List.replicate (D - e.length) 0:=by simp [splice]
 have s2:splice (e ++ List.replicate (D - e.length) 0) e.length c c.length=e ++ c ++ List.replicate (D - e.length - c.length) 0:=by
  simp only [splice,List.take_left,List.take_length]
  rw [List.drop_append,List.drop_eq_nil_of_le (by omega)]
  simp
 rw [s1,s2]
 have e1:(e ++ c).length=e.length + c.length:=by simp
 simp only [splice]
 rw [List.take_append,List.take_of_length_le (by omega:(e ++ c).length≤D - 16),List.take_of_length_le (by omega:k.length≤16),List.drop_eq_nil_of_le (by simp;omega)]
 simp [e1,List.take_replicate]
 omega
theorem splice_len {α:Type} (xs ys:List α) {lo c:Nat} (h1:lo + c≤xs.length) (h2:c≤ys.length):(splice xs lo ys c).length=xs.length:=by simp [splice];omega
theorem t18 {F:Nat} (hF:50 < F) {c k:List UInt8} (hc:c.length≤32768) (hk:k.length=16):∃ j,j < 38∧T37 F (c.length:Int)=some (cls j,0)∧(sz c.length:Nat) + (c.length:Int) + 16≤cls j∧T112 F c k=some (0,bodyL (cls j).toNat c k):=by
 obtain ⟨j,hj,h1,h2,_⟩:=class_spec hF (n:=(c.length:Int)) (by omega) (by omega)
 have hb:=cls_b ⟨j,hj⟩
 simp only at hb
 have hs:=sz_bd c.length
 rw [Int.toNat_natCast] at h2
 refine ⟨j,hj,h1,h2,?_⟩
 have hx:(UInt64.ofInt (c.length:Int)).toNat=c.length:=by rw [u64i (by omega) (by omega)];simp
 have he:=enc_len hc
 have hk':((k.length:Int) != 16)=false:=by simp [hk]
 have g1:gmake (0:UInt8) (cls j) (cls j)=some (List.replicate (cls j).toNat 0):=by unfold gmake;rw [if_pos (by omega)]
 simp only [T112,T112c,hk',cond_false,h1,Option.bind_some,g1,t44 hF,hx]
 have e0:((0:Int) != 0)=false:=by decide
 simp only [e0,cond_false]
 have m1:Nat.min (enc c.length).length (List.replicate (cls j).toNat (0:UInt8)).length=(enc c.length).length:=by
  simp only [List.length_replicate];exact Nat.min_eq_left (by omega)
 have l1:(splice (List.replicate (cls j).toNat (0:UInt8)) 0 (enc c.length) (enc c.length).length).length=(cls j).toNat:=by
  rw [splice_len _ _ (by simp;omega) (by omega)];simp
 rw [m1,l1]
 have g2:gslb (cls j).toNat (((enc c.length).length:Nat):Int) (((cls j).toNat:Nat):Int)=some ((enc c.length).length,(cls j).toNat):=by
  unfold gslb;rw [if_pos (by omega)];simp only [Int.toNat_natCast]
 rw [g2]
 simp only [Option.bind_some]
 have m2:Nat.min c.length ((cls j).toNat - (enc c.length).length)=c.length:=Nat.min_eq_left (by omega)
 rw [m2]
 have l2:(splice (splice (List.replicate (cls j).toNat (0:UInt8)) 0 (enc c.length) (enc c.length).length) (enc c.length).length c c.length).length=(cls j).toNat:=by
  rw [splice_len _ _ (by rw [l1];omega) (by omega),l1]
 rw [l2]
 have w1:w64 (cls j - 16)=cls j - 16:=w64_in (by omega) (by omega)
 have g3:gslb (cls j).toNat (cls j - 16) (((cls j).toNat:Nat):Int)=some ((cls j).toNat - 16,(cls j).toNat):=by
  unfold gslb;rw [if_pos (by omega)];simp only [Int.toNat_natCast,Option.some.injEq,Prod.mk.injEq,and_true];omega
 rw [w1,g3]
 simp only [Option.bind_some]
 have m3:Nat.min k.length ((cls j).toNat - ((cls j).toNat - 16))=16:=by rw [hk];exact Nat.min_eq_left (by omega)
 rw [m3,splice3 (by omega) hk]
 rfl
def xorL (a b:List UInt8):List UInt8:=List.zipWith (fun x y=>x ^^^ y) a b
theorem xorL_len {a b:List UInt8} (h:a.length=b.length):(xorL a b).length=a.length:=by simp [xorL,h]
theorem xor8_cancel (x y:UInt8):x ^^^ (x ^^^ y)=y:=by rw [← UInt8.xor_assoc,UInt8.xor_self,UInt8.zero_xor]
theorem xorL_cancel:∀ {a b:List UInt8},a.length=b.length->xorL a (xorL a b)=b
 | [],[],_=>rfl
 | [],_ :: _,h=>by simp at h
 | _ :: _,[],h=>by simp at h
 | x :: a,y :: b,h=>by
  have ih:=xorL_cancel (a:=a) (b:=b) (by simpa using h)
  simp only [xorL,List.zipWith_cons_cons] at ih ⊢
  rw [xor8_cancel,ih]
theorem xorL_comm:∀ (a b:List UInt8),xorL a b=xorL b a
 | [],[]=>rfl
 | [],_ :: _=>rfl
 | _ :: _,[]=>rfl
 | x :: a,y :: b=>by
  have ih:=xorL_comm a b
  simp only [xorL,List.zipWith_cons_cons] at ih ⊢
  rw [UInt8.xor_comm,ih]
theorem l57 (F:Nat) {a b:List UInt8} (hab:a.length=b.length) (hn:a.length < 1000000):∀ (m fuel i:Nat),i + m=a.length->m < fuel->iter (fun s:Int×List UInt8=>L113_2 F a b (a.length:Int) s.1 s.2) fuel (((i:Nat):Int),xorL (a.take i) (b.take i) ++ List.replicate m 0)=some (xorL a b)
 | m,0,i,hi,hf=>by omega
 | 0,fuel + 1,i,hi,hf=>by
  have h:¬ (((i:Nat):Int) < (a.length:Int)):=by omega
  have e1:a.take i=a:=List.take_of_length_le (by omega)
  have e2:b.take i=b:=List.take_of_length_le (by omega)
  have step:L113_2 F a b (a.length:Int) ((i:Nat):Int) (xorL (a.take i) (b.take i) ++ List.replicate 0 0)=some (.inr (xorL a b)):=by
   simp only [L113_2,L113_2c,h,decide_false,cond_false,e1,e2,List.replicate_zero,List.append_nil]
  rw [it_out (f:=fun s:Int×List UInt8=>L113_2 F a b (a.length:Int) s.1 s.2) (s:=(((i:Nat):Int),_)) step]
 | m + 1,fuel + 1,i,hi,hf=>by
  have h:(((i:Nat):Int) < (a.length:Int)):=by omega
  have ha:i < a.length:=by omega
  have hb:i < b.length:=by omega
  have hx:ix a ((i:Nat):Int)=some a[i]:=by unfold ix;rw [if_pos (by omega)];simp [ha]
  have hy:ix b ((i:Nat):Int)=some b[i]:=by unfold ix;rw [if_pos (by omega)];simp [hb]
  have w:w64 (((i:Nat):Int) + 1)=(((i + 1:Nat)):Int):=by rw [w64_in (by omega) (by omega)];omega
  have hl:(xorL (a.take i) (b.take i)).length=i:=by rw [xorL_len (by simp;omega)];simp;omega
  have hin:inb (xorL (a.take i) (b.take i) ++ List.replicate (m + 1) 0).length ((i:Nat):Int)=some i:=by
   unfold inb;rw [if_pos (by simp [hl];omega)];simp
  have hset:List.set (xorL (a.take i) (b.take i) ++ List.replicate (m + 1) 0) i (a[i] ^^^ b[i])=xorL (a.take (i + 1)) (b.take (i + 1)) ++ List.replicate m 0:=by
   rw [List.set_append_right _ _ (by omega),hl,Nat.sub_self,List.replicate_succ,List.set_cons_zero]
   have:xorL (a.take (i + 1)) (b.take (i + 1))=xorL (a.take i) (b.take i) ++ [a[i] ^^^ b[i]]:=by
    simp only [xorL]
    rw [List.take_succ_eq_append_getElem ha,List.take_succ_eq_append_getElem hb,List.zipWith_append (by simp;omega)]
    rfl
   rw [this];simp
  have step:L113_2 F a b (a.length:Int) ((i:Nat):Int) (xorL (a.take i) (b.take i) ++ List.replicate (m + 1) 0)=some (.inl (((i + 1:Nat):Int),xorL (a.take (i + 1)) (b.take (i + 1)) ++ List.replicate m 0)):=by
   simp only [L113_2,L113_2c,h,decide_true,cond_true,hx,hy,hin,Option.bind_some,w,hset]
  rw [it_again (f:=fun s:Int×List UInt8=>L113_2 F a b (a.length:Int) s.1 s.2) (s:=(((i:Nat):Int),_)) step]
  exact l57 F hab hn m fuel (i + 1) (by omega) (by omega)
theorem t57 {F:Nat} {a b:List UInt8} (hF:a.length < F) (hn:a.length < 1000000) (h:a.length=b.length):T113 F a b=some (0,xorL a b):=by
 have e:((a.length:Int) != (b.length:Int))=false:=by simp [h]
 have g:gmake (0:UInt8) (a.length:Int) (a.length:Int)=some (List.replicate a.length 0):=by unfold gmake;rw [if_pos (by omega)];simp
 have l:=l57 F h hn a.length F 0 (by omega) hF
 have z:((0:Nat):Int)=0:=rfl
 simp only [List.take_zero,z] at l
 have x0:xorL [] []=[]:=rfl
 rw [x0,List.nil_append] at l
 simp only [T113,T113c,e,cond_false,g,Option.bind_some,l]
theorem bodyL_len {D:Nat} {c k:List UInt8} (hc:c.length≤32768) (hk:k.length=16) (h:sz c.length + c.length + 16≤D):(bodyL D c k).length=D:=by
 have:=enc_len hc
 simp [bodyL,hk,this];omega
theorem t34 {F:Nat} (hF:41000 < F) {s k c:List UInt8} (hc:c.length≤32768) (hk:k.length=16) {j:Nat} (hj:j < 38) (h1:T37 F (c.length:Int)=some (cls j,0)) (hs:s.length=(cls j).toNat) :
  T71 F s k c=some (0,xorL (bodyL (cls j).toNat c k) s)∧(bodyL (cls j).toNat c k).length=(cls j).toNat:=by
 obtain ⟨j',hj',h1',h2,h3⟩:=t18 (F:=F) (by omega) hc hk
 rw [h1] at h1'
 have hjj:cls j=cls j':=by simpa using h1'
 rw [← hjj] at h2 h3
 have hb:=cls_b ⟨j,hj⟩
 simp only at hb
 have hl:=bodyL_len (D:=(cls j).toNat) hc hk (by omega)
 refine ⟨?_,hl⟩
 have e0:((0:Int) != 0)=false:=by decide
 simp only [T71,T71c,h3,Option.bind_some,e0,cond_false]
 rw [t57 (by omega) (by omega) (by omega)]
 rfl
end Go.Proofs.YtpnhgldpeiogbaaGreatDoor
