/- The functions, each with its twin, and plain facts about them. -/
import Derived.Test.YtooplgiihmdfgaaDoorH1
namespace Go.Proofs.YtooplgiihmdfgaaDoor
open Go.Tw
set_option linter.unusedSimpArgs false
set_option linter.unusedVariables false
def ord3:Nat->List (Tag×Nat)
 | 16=>[(.p,0),(.p,1),(.p,2),(.r,3),(.p,4),(.p,5),(.p,6),(.r,7),(.w,8),(.p,9)]
 | _=>[]
def E3 (F:Nat):Ev:=⟨cfg,153,ctOf [(8,ct8 F),(9,ct9 F),(10,ct10 F),(14,ct14 F),(11,ct11 F),(12,ct12 F),(13,ct13 F)],ord3,ctOf [],fun _=>none,fun _=>none⟩
theorem cts3 (F:Nat):CtsOk Tryd.prog (E3 F):=cts_of (l:=[(8,ct8 F),(9,ct9 F),(10,ct10 F),(14,ct14 F),(11,ct11 F),(12,ct12 F),(13,ct13 F)]) (l':=[]) rfl rfl ⟨⟨ok8 F,_,Tryd.func8,rfl,rfl⟩,⟨⟨ok9 F,_,Tryd.func9,rfl,rfl⟩,⟨⟨ok10 F,_,Tryd.func10,rfl,rfl⟩,⟨⟨ok14 F,_,Tryd.func14,rfl,rfl⟩,⟨⟨ok11 F,_,Tryd.func11,rfl,rfl⟩,⟨⟨ok12 F,_,Tryd.func12,rfl,rfl⟩,⟨⟨ok13 F,_,Tryd.func13,rfl,rfl⟩,trivial⟩⟩⟩⟩⟩⟩⟩ trivial
def L3_5c (F:Nat) (y91:List Ze) (y95:List Ze) (y96:Int) (y97:Int) {β:Type} (kA:Int->Option β) (kO:Unit->Option β) (kR:Bool->Option β):Option β:=
 (bif (decide (y97 < y96)) then (Option.bind (ix y91 y97) fun x101=>(Option.bind (ix y95 y97) fun x102=>(Option.bind (T13 F x101 x102) fun z103=>(bif (!z103) then (kR false) else (kA (w64 (y97 + (1:Int)))))))) else (kO ()))
def L3_5 (F:Nat) (y91:List Ze) (y95:List Ze) (y96:Int) (y97:Int):Option ((Int) ⊕ ((Unit) ⊕ (Bool))):=L3_5c F y91 y95 y96 y97 (fun s=>some (.inl s)) (fun z=>some (.inr (.inl z))) (fun z=>some (.inr (.inr z)))
theorem L3_5n (F:Nat) (y91:List Ze) (y95:List Ze) (y96:Int) (y97:Int) {β:Type} (kA:Int->Option β) (kO:Unit->Option β) (kR:Bool->Option β):L3_5c F y91 y95 y96 y97 kA kO kR=(L3_5 F y91 y95 y96 y97).bind (elimS kA (elimS kO kR)):=by
 simp only [L3_5,L3_5c,oA,oC,oS,oN,elimS_l,elimS_r,elimS_bind]
def lc3_5 (F:Nat):Lc:=mkR [1,2,3,9,11,12,13,14,76,77] [(.ro .i),.i,.i,(.ro (.sl (.pr .s (.pr .i (.pr .i .un))))),.i,.i,.i,(.ro (.sl (.pr .s (.pr .i (.pr .i .un))))),.i,.i] [] [1,2,3,11,12,13] [(.ro .i),.i,.i,.i,.i,.i] [] [8] [.bo] [] F (fun x y (s:Int)=>L3_5 F x.2.2.2.1 x.2.2.2.2.2.2.2.1 x.2.2.2.2.2.2.2.2.1 s) (fun x y=>x.2.2.2.2.2.2.2.2.2.1) (fun x y (z:Unit)=>((x.1,x.2.1,x.2.2.1,x.2.2.2.2.1,x.2.2.2.2.2.1,x.2.2.2.2.2.2.1,()),())) (fun x y (z:Bool)=>((z,()),()))
theorem lo3_5 (F:Nat):LcOk Tryd.prog (E3 F) 0 (lc3_5 F) (cAt (bodyOf Tryd.f3) [1,1,1,1,1,0,1,1,1,1,1]):=
 mkR_ok (lp:=[]) (id:=0) (b:=cAt (bodyOf Tryd.f3) (0 :: 0 :: [1,1,1,1,1,0,1,1,1,1,1])) cok (cts3 F) mixed trivial (by kernel_rfl) (by kernel_rfl) (fun x y s=>(x.1,x.2.1,x.2.2.1,x.2.2.2.1,x.2.2.2.2.1,x.2.2.2.2.2.1,x.2.2.2.2.2.2.1,x.2.2.2.2.2.2.2.1,x.2.2.2.2.2.2.2.2.1,s,())) (fun x y s=>()) (fun x y=>rfl) (fun x y=>rfl) (fun x y s kA kO kR=>L3_5c F x.2.2.2.1 x.2.2.2.2.2.2.2.1 x.2.2.2.2.2.2.2.2.1 s kA kO kR) (fun x y s kA kO kR=>L3_5n F x.2.2.2.1 x.2.2.2.2.2.2.2.1 x.2.2.2.2.2.2.2.2.1 s kA kO kR) (fun _ _ _=>by kernel_rfl)
def L3_4c (F:Nat) (y75:List Zb) (y77:Int) (y79:List Ze) (y80:Int) (y84:Bool) {β:Type} (kO:Unit->Option β) (kR:Bool->Option β):Option β:=
 (bif y84 then (bif (y80 != (1:Int)) then (kR false) else (bif ((y79.length:Int) != (0:Int)) then (kR false) else (kO ()))) else (Option.bind (T12 F y75 y77) fun z87=>(bif (y80 != (0:Int)) then (kR false) else (bif ((y79.length:Int) != (z87.length:Int)) then (kR false) else (Option.bind (iter (fun s=>L3_5 F y79 z87 (z87.length:Int) s) F (0:Int)) fun z104=>elimS (fun z104=>(kO ())) (fun z104=>(kR z104)) z104)))))
def L3_4 (F:Nat) (y75:List Zb) (y77:Int) (y79:List Ze) (y80:Int) (y84:Bool):Option ((Unit) ⊕ (Bool)):=L3_4c F y75 y77 y79 y80 y84 (fun z=>some (.inl z)) (fun z=>some (.inr z))
theorem L3_4n (F:Nat) (y75:List Zb) (y77:Int) (y79:List Ze) (y80:Int) (y84:Bool) {β:Type} (kO:Unit->Option β) (kR:Bool->Option β):L3_4c F y75 y77 y79 y80 y84 kO kR=(L3_4 F y75 y77 y79 y80 y84).bind (elimS kO kR):=by
 simp only [L3_4,L3_4c,oA,oC,oS,oN,elimS_l,elimS_r,elimS_bind]
def lc3_4 (F:Nat):Lc:=mkK [0,1,2,3,9,10,11,12,13,55] [(.ro (.pr .s (.pr .i (.pr .i .un)))),(.ro .i),.i,.i,(.ro (.sl (.pr .s (.pr .i (.pr .i .un))))),.i,.i,.i,.i,.bo] [] [1,2,3,11,12,13] [(.ro .i),.i,.i,.i,.i,.i] [] [8] [.bo] [] (fun x y=>L3_4 F x.1 x.2.2.1 x.2.2.2.2.1 x.2.2.2.2.2.1 x.2.2.2.2.2.2.2.2.2.1) (fun x y (z:Unit)=>((x.2.1,x.2.2.1,x.2.2.2.1,x.2.2.2.2.2.2.1,x.2.2.2.2.2.2.2.1,x.2.2.2.2.2.2.2.2.1,()),())) (fun x y (z:Bool)=>((z,()),()))
theorem lo3_4 (F:Nat):LcOk Tryd.prog (E3 F) 0 (lc3_4 F) (cAt (bodyOf Tryd.f3) [1,0,1,1,1,1,1]):=
 mkK_ok (lp:=[([1,1,1,1,1,0,1,1,1,1,1],lc3_5 F)]) cok (cts3 F) mixed ⟨lo3_5 F,trivial⟩ (by kernel_rfl) (fun x y kO kR=>L3_4c F x.1 x.2.2.1 x.2.2.2.2.1 x.2.2.2.2.2.1 x.2.2.2.2.2.2.2.2.2.1 kO kR) (fun x y kO kR=>L3_4n F x.1 x.2.2.1 x.2.2.2.2.1 x.2.2.2.2.2.1 x.2.2.2.2.2.2.2.2.2.1 kO kR) (fun _ _=>by kernel_rfl)
def L3_6c (F:Nat) (y113:List Int) (y114:Int) (y112:Bool) (y115:Int) {β:Type} (kA:(Bool×Int)->Option β) (kO:Bool->Option β):Option β:=
 (bif (decide (y115 < y114)) then (Option.bind (ix y113 y115) fun x117=>(bif y112 then (bif (decide ((0:Int)≤x117)) then (kA ((decide (x117≤(32768:Int))),(w64 (y115 + (1:Int))))) else (kA (false,(w64 (y115 + (1:Int)))))) else (kA (false,(w64 (y115 + (1:Int))))))) else (kO y112))
def L3_6 (F:Nat) (y113:List Int) (y114:Int) (y112:Bool) (y115:Int):=L3_6c F y113 y114 y112 y115 (fun s=>some (Sum.inl s)) (fun z=>some (Sum.inr z))
def lc3_6 (F:Nat):Lc:=mkL [1,2,3,11,12,13,16,106,107,108] [(.ro .i),.i,.i,.i,.i,.i,.bo,(.ro .i),.i,.i] [] [1,2,3,11,12,13,16] [(.ro .i),.i,.i,.i,.i,.i,.bo] [] F (fun x y (s:Bool×Int)=>L3_6 F x.2.2.2.2.2.2.2.1 x.2.2.2.2.2.2.2.2.1 s.1 s.2) (fun x y=>(x.2.2.2.2.2.2.1,x.2.2.2.2.2.2.2.2.2.1)) (fun x y (z:Bool)=>((x.1,x.2.1,x.2.2.1,x.2.2.2.1,x.2.2.2.2.1,x.2.2.2.2.2.1,z,()),()))
theorem lo3_6 (F:Nat):LcOk Tryd.prog (E3 F) 0 (lc3_6 F) (cAt (bodyOf Tryd.f3) [1,0,1,1,1,1,1,1,1]):=
 mkL_ok (lp:=[]) (id:=2) (b:=cAt (bodyOf Tryd.f3) (0 :: 0 :: [1,0,1,1,1,1,1,1,1])) cok (cts3 F) mixed trivial (by kernel_rfl) (by kernel_rfl) (fun x y s=>(x.1,x.2.1,x.2.2.1,x.2.2.2.1,x.2.2.2.2.1,x.2.2.2.2.2.1,s.1,x.2.2.2.2.2.2.2.1,x.2.2.2.2.2.2.2.2.1,s.2,())) (fun x y s=>()) (fun x y=>rfl) (fun x y=>rfl) (fun x y s kA kO=>L3_6c F x.2.2.2.2.2.2.2.1 x.2.2.2.2.2.2.2.2.1 s.1 s.2 kA kO) (fun _ _ _ _ _=>by simp only [L3_6,L3_6c,oA,oC,oS,oN,elimS_l,elimS_r,elimS_bind]) (fun _ _ _=>by kernel_rfl)
def T3c (F:Nat) (p0:List Zb) (p1:List Int) (p2:Int) (p3:Int) {β:Type} (k:Bool->Option β):Option β:=
 (Option.bind (T8 F) fun z72=>(bif (!z72) then (k false) else (bif (decide ((40:Int) < (p0.length:Int))) then (k true) else (bif (decide ((40:Int) < (p1.length:Int))) then (k true) else (Option.bind (T9 F p0 p2) fun z73=>(Option.bind (T10 F p1 p2 p3) fun z74=>(bif (decide (p2 < (1:Int))) then (Option.bind (L3_4 F p0 p2 z73.1 z73.2 true) fun z105=>elimS (fun z105=>(bif (decide ((1:Int)≤p2)) then (bif (decide (p2≤(8:Int))) then (bif (decide (p2≤p3)) then (Option.bind (iter (fun s=>L3_6 F p1 (p1.length:Int) s.1 s.2) F ((decide (p3≤(16:Int))),(0:Int))) fun z118=>(bif (!z118) then (bif (z74.2.2 == (1:Int)) then (bif (z74.1 == (0:Int)) then (k (z74.2.1 == (0:Int))) else (k false)) else (k false)) else (Option.bind (T14 F p1 p2 p3) fun z119=>(bif (z74.2.2 == (0:Int)) then (bif (z74.1 == z119.1) then (k (z74.2.1 == z119.2)) else (k false)) else (k false))))) else (Option.bind (iter (fun s=>L3_6 F p1 (p1.length:Int) s.1 s.2) F (false,(0:Int))) fun z120=>(bif (!z120) then (bif (z74.2.2 == (1:Int)) then (bif (z74.1 == (0:Int)) then (k (z74.2.1 == (0:Int))) else (k false)) else (k false)) else (Option.bind (T14 F p1 p2 p3) fun z121=>(bif (z74.2.2 == (0:Int)) then (bif (z74.1 == z121.1) then (k (z74.2.1 == z121.2)) else (k false)) else (k false)))))) else (Option.bind (iter (fun s=>L3_6 F p1 (p1.length:Int) s.1 s.2) F (false,(0:Int))) fun z122=>(bif (!z122) then (bif (z74.2.2 == (1:Int)) then (bif (z74.1 == (0:Int)) then (k (z74.2.1 == (0:Int))) else (k false)) else (k false)) else (Option.bind (T14 F p1 p2 p3) fun z123=>(bif (z74.2.2 == (0:Int)) then (bif (z74.1 == z123.1) then (k (z74.2.1 == z123.2)) else (k false)) else (k false)))))) else (Option.bind (iter (fun s=>L3_6 F p1 (p1.length:Int) s.1 s.2) F (false,(0:Int))) fun z124=>(bif (!z124) then (bif (z74.2.2 == (1:Int)) then (bif (z74.1 == (0:Int)) then (k (z74.2.1 == (0:Int))) else (k false)) else (k false)) else (Option.bind (T14 F p1 p2 p3) fun z125=>(bif (z74.2.2 == (0:Int)) then (bif (z74.1 == z125.1) then (k (z74.2.1 == z125.2)) else (k false)) else (k false))))))) (fun z105=>(k z105)) z105) else (bif (decide ((8:Int) < p2)) then (Option.bind (L3_4 F p0 p2 z73.1 z73.2 true) fun z126=>elimS (fun z126=>(bif (decide ((1:Int)≤p2)) then (bif (decide (p2≤(8:Int))) then (bif (decide (p2≤p3)) then (Option.bind (iter (fun s=>L3_6 F p1 (p1.length:Int) s.1 s.2) F ((decide (p3≤(16:Int))),(0:Int))) fun z127=>(bif (!z127) then (bif (z74.2.2 == (1:Int)) then (bif (z74.1 == (0:Int)) then (k (z74.2.1 == (0:Int))) else (k false)) else (k false)) else (Option.bind (T14 F p1 p2 p3) fun z128=>(bif (z74.2.2 == (0:Int)) then (bif (z74.1 == z128.1) then (k (z74.2.1 == z128.2)) else (k false)) else (k false))))) else (Option.bind (iter (fun s=>L3_6 F p1 (p1.length:Int) s.1 s.2) F (false,(0:Int))) fun z129=>(bif (!z129) then (bif (z74.2.2 == (1:Int)) then (bif (z74.1 == (0:Int)) then (k (z74.2.1 == (0:Int))) else (k false)) else (k false)) else (Option.bind (T14 F p1 p2 p3) fun z130=>(bif (z74.2.2 == (0:Int)) then (bif (z74.1 == z130.1) then (k (z74.2.1 == z130.2)) else (k false)) else (k false)))))) else (Option.bind (iter (fun s=>L3_6 F p1 (p1.length:Int) s.1 s.2) F (false,(0:Int))) fun z131=>(bif (!z131) then (bif (z74.2.2 == (1:Int)) then (bif (z74.1 == (0:Int)) then (k (z74.2.1 == (0:Int))) else (k false)) else (k false)) else (Option.bind (T14 F p1 p2 p3) fun z132=>(bif (z74.2.2 == (0:Int)) then (bif (z74.1 == z132.1) then (k (z74.2.1 == z132.2)) else (k false)) else (k false)))))) else (Option.bind (iter (fun s=>L3_6 F p1 (p1.length:Int) s.1 s.2) F (false,(0:Int))) fun z133=>(bif (!z133) then (bif (z74.2.2 == (1:Int)) then (bif (z74.1 == (0:Int)) then (k (z74.2.1 == (0:Int))) else (k false)) else (k false)) else (Option.bind (T14 F p1 p2 p3) fun z134=>(bif (z74.2.2 == (0:Int)) then (bif (z74.1 == z134.1) then (k (z74.2.1 == z134.2)) else (k false)) else (k false))))))) (fun z126=>(k z126)) z126) else (Option.bind (T11 F p0) fun z135=>(Option.bind (L3_4 F p0 p2 z73.1 z73.2 (!z135)) fun z136=>elimS (fun z136=>(bif (decide ((1:Int)≤p2)) then (bif (decide (p2≤(8:Int))) then (bif (decide (p2≤p3)) then (Option.bind (iter (fun s=>L3_6 F p1 (p1.length:Int) s.1 s.2) F ((decide (p3≤(16:Int))),(0:Int))) fun z137=>(bif (!z137) then (bif (z74.2.2 == (1:Int)) then (bif (z74.1 == (0:Int)) then (k (z74.2.1 == (0:Int))) else (k false)) else (k false)) else (Option.bind (T14 F p1 p2 p3) fun z138=>(bif (z74.2.2 == (0:Int)) then (bif (z74.1 == z138.1) then (k (z74.2.1 == z138.2)) else (k false)) else (k false))))) else (Option.bind (iter (fun s=>L3_6 F p1 (p1.length:Int) s.1 s.2) F (false,(0:Int))) fun z139=>(bif (!z139) then (bif (z74.2.2 == (1:Int)) then (bif (z74.1 == (0:Int)) then (k (z74.2.1 == (0:Int))) else (k false)) else (k false)) else (Option.bind (T14 F p1 p2 p3) fun z140=>(bif (z74.2.2 == (0:Int)) then (bif (z74.1 == z140.1) then (k (z74.2.1 == z140.2)) else (k false)) else (k false)))))) else (Option.bind (iter (fun s=>L3_6 F p1 (p1.length:Int) s.1 s.2) F (false,(0:Int))) fun z141=>(bif (!z141) then (bif (z74.2.2 == (1:Int)) then (bif (z74.1 == (0:Int)) then (k (z74.2.1 == (0:Int))) else (k false)) else (k false)) else (Option.bind (T14 F p1 p2 p3) fun z142=>(bif (z74.2.2 == (0:Int)) then (bif (z74.1 == z142.1) then (k (z74.2.1 == z142.2)) else (k false)) else (k false)))))) else (Option.bind (iter (fun s=>L3_6 F p1 (p1.length:Int) s.1 s.2) F (false,(0:Int))) fun z143=>(bif (!z143) then (bif (z74.2.2 == (1:Int)) then (bif (z74.1 == (0:Int)) then (k (z74.2.1 == (0:Int))) else (k false)) else (k false)) else (Option.bind (T14 F p1 p2 p3) fun z144=>(bif (z74.2.2 == (0:Int)) then (bif (z74.1 == z144.1) then (k (z74.2.1 == z144.2)) else (k false)) else (k false))))))) (fun z136=>(k z136)) z136))))))))))
def T3 (F:Nat) (p0:List Zb) (p1:List Int) (p2:Int) (p3:Int):=T3c F p0 p1 p2 p3 some
abbrev cA3:List Sh:=[(.ro (.pr .s (.pr .i (.pr .i .un)))),(.ro .i),.i,.i]
def ct3 (F:Nat):Ct:=mkC 0 cA3 [] [.bo] [] (fun x y=>T3 F x.1 x.2.1 x.2.2.1 x.2.2.2.1) (fun x y (z:Bool)=>((z,()),()))
theorem ok3 (F:Nat):Sound Tryd.prog cfg 3 (ct3 F):=
 mkC_ok (E:=E3 F) (lp:=[([1,0,1,1,1,1,1],lc3_4 F),([1,0,1,1,1,1,1,1,1],lc3_6 F)]) (code:=bodyOf Tryd.f3) Tryd.func3 rfl Tryd.ntmps3 rfl rfl cok (cts3 F) mixed ⟨lo3_4 F,⟨lo3_6 F,trivial⟩⟩ (by kernel_rfl) (fun x y k=>T3c F x.1 x.2.1 x.2.2.1 x.2.2.2.1 k) (fun _ _ _=>by simp only [T3,T3c,oA,oC,oS,oN,elimS_bind]) (fun _ _=>by kernel_rfl)
end Go.Proofs.YtooplgiihmdfgaaDoor
namespace Go.Proofs.YtooplgiihmdfgaaDoor
open Go.Tw
set_option linter.unusedSimpArgs false
set_option linter.unusedVariables false
structure Rows {α:Type} (rows:List (Option (List α))) (out:List Nat) (gs:List (List α)):Prop where
 len:out.length=gs.length
 at_:∀ (i:Nat) (g:List α),gs[i]? = some g->∃ q:Nat,out[i]? = some q∧rows[q]? = some (some g)
 nd:out.Nodup
section
variable {α:Type} {rows:List (Option (List α))} {out:List Nat} {gs:List (List α)}
theorem Rows.nil:Rows rows [] []:=⟨rfl,fun i g h=>by simp at h,List.nodup_nil⟩
theorem Rows.lt (H:Rows rows out gs) {q:Nat} (h:q ∈ out):q < rows.length:=by
 obtain ⟨i,hi⟩:=List.mem_iff_getElem?.1 h
 have hl:=(List.getElem?_eq_some_iff.1 hi).1
 obtain ⟨q',h1,h2⟩:=H.at_ i _ (List.getElem?_eq_getElem (by rw [← H.len];exact hl))
 rw [hi] at h1;cases h1
 exact (List.getElem?_eq_some_iff.1 h2).1
theorem rxG_of {q:Nat} {g:List α} (h:rows[q]? = some (some g)):rxG rows q=some g:=by unfold rxG;rw [h]
theorem Rows.get (H:Rows rows out gs) {i:Nat} {g:List α} (h:gs[i]? = some g):∃ q,outG out i=some q∧rxG rows q=some g∧out[i]? = some q:=by
 obtain ⟨q,h1,h2⟩:=H.at_ i g h
 exact ⟨q,h1,rxG_of h2,h1⟩
theorem Rows.mat_eq:∀ {out:List Nat} {gs:List (List α)},Rows rows out gs->mat rows out=some gs
 | [],[],_=>rfl
 | [],_ :: _,H=>by have:=H.len;simp at this
 | _ :: _,[],H=>by have:=H.len;simp at this
 | q :: out,g :: gs,H=>by
  obtain ⟨q',h1,h2⟩:=H.at_ 0 g rfl
  simp at h1;subst h1
  have ih:=Rows.mat_eq (out:=out) (gs:=gs) ⟨by have:=H.len;simpa using this,fun i g' h=>by simpa using H.at_ (i + 1) g' (by simpa using h),(List.nodup_cons.1 H.nd).2⟩
  simp [mat,rxG_of h2,ih]
theorem Rows.app (H:Rows rows out gs) (x:List α):Rows (rows ++ [some x]) (out ++ shO rows.length [0]) (gs ++ [x]):=by
 have e:shO rows.length [0]=[rows.length]:=by simp [shO]
 rw [e]
 refine ⟨by simp [H.len],fun i g h=>?_,?_⟩
 ·rcases Nat.lt_or_ge i gs.length with hi | hi
  ·rw [List.getElem?_append_left hi] at h
   obtain ⟨q,h1,h2⟩:=H.at_ i g h
   exact ⟨q,by rw [List.getElem?_append_left (by rw [H.len];exact hi)];exact h1,by rw [List.getElem?_append_left (List.getElem?_eq_some_iff.1 h2).1];exact h2⟩
  ·have hl:=(List.getElem?_eq_some_iff.1 h).1
   simp at hl
   have:i=gs.length:=by omega
   subst this
   simp at h;subst h
   exact ⟨rows.length,by rw [← H.len];simp,by simp⟩
 ·rw [List.nodup_append]
  exact ⟨H.nd,by simp,fun a ha b hb e=>by simp at hb;subst hb;subst e;have:=H.lt ha;omega⟩
theorem nodup_at {l:List Nat} (h:l.Nodup) {i j q:Nat} (hi:l[i]? = some q) (hj:l[j]? = some q):i=j:=by
 obtain ⟨hi1,hi2⟩:=List.getElem?_eq_some_iff.1 hi
 obtain ⟨hj1,hj2⟩:=List.getElem?_eq_some_iff.1 hj
 have hp:=List.pairwise_iff_getElem.1 h
 rcases Nat.lt_trichotomy i j with h' | h' | h'
 ·exact absurd (hi2.trans hj2.symm) (hp i j hi1 hj1 h')
 ·exact h'
 ·exact absurd (hj2.trans hi2.symm) (hp j i hj1 hi1 h')
theorem nodup_of {l:List Nat} (h:∀ i j q:Nat,l[i]? = some q->l[j]? = some q->i=j):l.Nodup:=
 List.pairwise_iff_getElem.2 fun i j hi hj hij e=>by
  have:=h i j l[i] (List.getElem?_eq_getElem hi) (by rw [List.getElem?_eq_getElem hj,e])
  omega
theorem Rows.upd (H:Rows rows out gs) {i q:Nat} (hq:out[i]? = some q) (y:List α):Rows (rows.set q none ++ [some y]) (out.set i (rows.set q none).length) (gs.set i y):=by
 have hil:=(List.getElem?_eq_some_iff.1 hq).1
 rw [List.length_set]
 refine ⟨by simp [H.len],fun k g h=>?_,?_⟩
 ·by_cases hk:i=k
  ·subst hk
   rw [List.getElem?_set_self (by rw [← H.len];exact hil)] at h
   cases h
   exact ⟨rows.length,List.getElem?_set_self hil,by rw [List.getElem?_append_right (by simp)];simp⟩
  ·rw [List.getElem?_set_ne hk] at h
   obtain ⟨q',h1,h2⟩:=H.at_ k g h
   have hne:q ≠ q':=fun e=>hk (nodup_at H.nd hq (e ▸ h1))
   refine ⟨q',by rw [List.getElem?_set_ne hk];exact h1,?_⟩
   rw [List.getElem?_append_left (by rw [List.length_set];exact (List.getElem?_eq_some_iff.1 h2).1),List.getElem?_set_ne hne];exact h2
 ·refine nodup_of fun a b q' ha hb=>?_
  by_cases ha':i=a
  ·subst ha'
   rw [List.getElem?_set_self hil] at ha
   cases ha
   by_cases hb':i=b
   ·exact hb'
   ·rw [List.getElem?_set_ne hb'] at hb
    have:=H.lt (List.mem_of_getElem? hb);omega
  ·rw [List.getElem?_set_ne ha'] at ha
   by_cases hb':i=b
   ·subst hb'
    rw [List.getElem?_set_self hil] at hb
    cases hb
    have:=H.lt (List.mem_of_getElem? ha);omega
   ·rw [List.getElem?_set_ne hb'] at hb
    exact nodup_at H.nd ha hb
end
theorem it_again' {σ ρ:Type} {f:σ->Option (σ ⊕ ρ)} {n:Nat} {s s':σ} (h:f s=some (.inl s')):iter f (n + 1) s=iter f n s':=by simp [iter,h]
theorem it_out' {σ ρ:Type} {f:σ->Option (σ ⊕ ρ)} {n:Nat} {s:σ} {r:ρ} (h:f s=some (.inr r)):iter f (n + 1) s=some r:=by simp [iter,h]
theorem iter1 {σ ρ:Type} {f:σ->Option (σ ⊕ ρ)} (R:σ->Prop) (Q:ρ->Prop) (μ:σ->Nat)
  (step:∀ s,R s->(∃ s',f s=some (.inl s')∧R s'∧μ s' < μ s)∨(∃ r,f s=some (.inr r)∧Q r)) :
  ∀ (n:Nat) (s:σ),R s->μ s < n->∃ r,iter f n s=some r∧Q r
 | 0,s,_,h=>by omega
 | n + 1,s,hR,h=>by
  rcases step s hR with ⟨s',h1,h2,h3⟩ | ⟨r,h1,h2⟩
  ·rw [it_again' h1];exact iter1 R Q μ step n s' h2 (by omega)
  ·exact ⟨r,it_out' h1,h2⟩
theorem ixn {α:Type} {l:List α} {i:Nat} {x:α} (h:l[i]? = some x):ix l ((i:Nat):Int)=some x:=by
 have hi:=(List.getElem?_eq_some_iff.1 h).1
 unfold ix
 rw [if_pos (by omega),Int.toNat_natCast];exact h
theorem inbn {n i:Nat} (h:i < n):inb n ((i:Nat):Int)=some i:=by unfold inb;simp [h]
theorem gappn {α:Type} {xs ys:List α} (h:xs.length + ys.length≤1099511627776):gapp xs ys=some (xs ++ ys):=by unfold gapp;rw [if_pos h]
theorem w64n {n:Nat} (h:n < 9223372036854775807):w64 (((n:Nat):Int) + 1)=((n + 1:Nat):Int):=by rw [w64_in (by omega) (by omega)];omega
end Go.Proofs.YtooplgiihmdfgaaDoor
namespace Go.Proofs.YtooplgiihmdfgaaDoor
open Go.Tw
set_option linter.unusedSimpArgs false
set_option linter.unusedVariables false
def cls (k:Nat):Int:=2 ^ (k / 4) * (64 + 16 * (k % 4:Nat))
def fc (need:Int):Nat->Nat->Int
 | 0,k=>cls k
 | m + 1,k=>bif decide (cls k < need) then fc need m (k + 1) else cls k
theorem t59 {k:Nat} (hk:k < 39) (F:Nat):T50 F (2 ^ (k / 4):Int) ((k % 4:Nat):Int)=some (cls k,(2 ^ ((k + 1) / 4):Int),(((k + 1) % 4:Nat):Int)):=by
 have:∀ k:Fin 39,T50 0 (2 ^ (k.val / 4):Int) ((k.val % 4:Nat):Int)=some (cls k.val,(2 ^ ((k.val + 1) / 4):Int),(((k.val + 1) % 4:Nat):Int)):=by decide
 exact this ⟨k,hk⟩
theorem loop14 (F:Nat) (need:Int):∀ (m k fuel:Nat),k + m=37->m < fuel->need≤cls 37->iter (fun s:Int×Int×Int=>L15_2 F need s.1 s.2.1 s.2.2) fuel (cls k,(2 ^ ((k + 1) / 4):Int),(((k + 1) % 4:Nat):Int))=some (fc need m k)
 | 0,k,fuel + 1,hk,hf,hn=>by
  have:k=37:=by omega
  subst this
  have h:¬ cls 37 < need:=by omega
  simp [iter,L15_2,L15_2c,h,fc]
 | m + 1,k,fuel + 1,hk,hf,hn=>by
  by_cases h:cls k < need
  ·simp only [iter,L15_2,L15_2c,h,decide_true,cond_true,fc]
   rw [t59 (by omega)]
   simp only [Option.bind_some]
   exact loop14 F need m (k + 1) fuel (by omega) (by omega) hn
  ·simp [iter,L15_2,L15_2c,h,fc]
theorem c42 {j b:Nat} (hj:j < 10) (hb:b < 4):w64 ((64 * 2 ^ j:Int) + w64 (w64 (Int.tdiv (64 * 2 ^ j:Int) 4) * ((b:Nat):Int)))=cls (4 * j + b):=by
 have:∀ (j:Fin 10) (b:Fin 4),w64 ((64 * 2 ^ j.val:Int) + w64 (w64 (Int.tdiv (64 * 2 ^ j.val:Int) 4) * ((b.val:Nat):Int)))=cls (4 * j.val + b.val):=by decide
 exact this ⟨j,hj⟩ ⟨b,hb⟩
theorem in_step (F:Nat) (need:Int) {j b:Nat} (hj:j < 10) (hb:b < 4) (n:Nat):iter (fun s=>L48_4 F need (64 * 2 ^ j:Int) s) (n + 1) ((b:Nat):Int)=bif decide (need≤cls (4 * j + b)) then some (.inr (cls (4 * j + b))) else iter (fun s=>L48_4 F need (64 * 2 ^ j:Int) s) n ((b + 1:Nat):Int):=by
 have h1:((b:Nat):Int) < 4:=by omega
 have h2:w64 (((b:Nat):Int) + 1)=((b + 1:Nat):Int):=by rw [w64_in (by omega) (by omega)];omega
 simp only [iter,L48_4,L48_4c,h1,decide_true,cond_true,c42 hj hb,h2]
 cases decide (need≤cls (4 * j + b))<;>rfl
theorem in_last (F:Nat) (need base:Int) (n:Nat):iter (fun s=>L48_4 F need base s) (n + 1) ((4:Nat):Int)=some (.inl ()):=by
 simp [iter,L48_4,L48_4c]
theorem fc_step (need:Int) (m k:Nat):fc need (m + 1) k=bif decide (need≤cls k) then cls k else fc need m (k + 1):=by
 simp only [fc]
 by_cases h:cls k < need
 ·have h':¬ need≤cls k:=by omega
  simp [h,h']
 ·have h':need≤cls k:=by omega
  simp [h,h']
theorem dbl {j:Nat} (hj:j < 9):w64 ((2:Int) * (64 * 2 ^ j:Int))=(64 * 2 ^ (j + 1):Int):=by
 have:∀ (j:Fin 9),w64 ((2:Int) * (64 * 2 ^ j.val:Int))=(64 * 2 ^ (j.val + 1):Int):=by decide
 exact this ⟨j,hj⟩
theorem inner (F:Nat) (need:Int) {j:Nat} (hj:j < 10) (hF:5≤F):iter (fun s=>L48_4 F need (64 * 2 ^ j:Int) s) F (0:Int)=some (bif decide (need≤cls (4 * j)) then .inr (cls (4 * j)) else bif decide (need≤cls (4 * j + 1)) then .inr (cls (4 * j + 1)) else bif decide (need≤cls (4 * j + 2)) then .inr (cls (4 * j + 2)) else bif decide (need≤cls (4 * j + 3)) then .inr (cls (4 * j + 3)) else .inl ()):=by
 obtain ⟨n,rfl⟩:∃ n,F=n + 5:=⟨F - 5,by omega⟩
 have h0:=in_step (n + 5) need hj (b:=0) (by omega) (n + 4)
 have h1:=in_step (n + 5) need hj (b:=1) (by omega) (n + 3)
 have h2:=in_step (n + 5) need hj (b:=2) (by omega) (n + 2)
 have h3:=in_step (n + 5) need hj (b:=3) (by omega) (n + 1)
 have h4:=in_last (n + 5) need (64 * 2 ^ j:Int) n
 have e0:(0:Int)=((0:Nat):Int):=rfl
 rw [e0,h0,h1,h2,h3,h4]
 simp only [Nat.add_zero]
 cases decide (need≤cls (4 * j))<;>cases decide (need≤cls (4 * j + 1))<;>cases decide (need≤cls (4 * j + 2))<;>cases decide (need≤cls (4 * j + 3))<;>rfl
theorem loop42 (F:Nat) (need:Int) (hF:5≤F) (hn:need≤cls 37):∀ (i j fuel:Nat),j + i=9->i < fuel->iter (fun s=>L48_3 F need s) fuel (64 * 2 ^ j:Int)=some (fc need (37 - 4 * j) (4 * j))
 | 0,j,fuel + 1,hj,hf=>by
  have:j=9:=by omega
  subst this
  simp only [iter,L48_3,L48_3c]
  rw [inner F need (j:=9) (by omega) hF]
  have e1:decide (need≤cls (4 * 9 + 1))=true:=by simpa using hn
  simp only [e1,Option.bind_some]
  show _=some (fc need 1 36)
  rw [fc_step]
  show _=some (bif decide (need≤cls (4 * 9)) then cls (4 * 9) else cls (4 * 9 + 1))
  cases decide (need≤cls (4 * 9))<;>rfl
 | i + 1,j,fuel + 1,hj,hf=>by
  simp only [iter,L48_3,L48_3c]
  rw [inner F need (j:=j) (by omega) hF]
  have ih:=loop42 F need hF hn i (j + 1) fuel (by omega) (by omega)
  obtain ⟨m,hm⟩:∃ m,37 - 4 * j=m + 4:=⟨33 - 4 * j,by omega⟩
  have hm':37 - 4 * (j + 1)=m:=by omega
  rw [hm,fc_step,fc_step,fc_step,fc_step]
  rw [hm'] at ih
  rw [show 4 * j + 1 + 1=4 * j + 2 from rfl,show 4 * j + 2 + 1=4 * j + 3 from rfl,show 4 * j + 3 + 1=4 * (j + 1) from by omega]
  cases decide (need≤cls (4 * j))<;>cases decide (need≤cls (4 * j + 1))<;>cases decide (need≤cls (4 * j + 2))<;>cases decide (need≤cls (4 * j + 3)) <;>
   simp only [cond_true,cond_false,Option.bind_some,elimS,dbl (show j < 9 by omega)]
  exact ih
theorem shr7 (x:UInt64):(shr64 x 7).toNat=x.toNat / 128:=by
 show (x.toBitVec >>> 7).toNat=_
 rw [BitVec.toNat_ushiftRight,Nat.shiftRight_eq_div_pow];rfl
def sz (n:Nat):Nat:=if n < 128 then 1 else if n < 16384 then 2 else 3
theorem it_again {σ ρ:Type} {f:σ->Option (σ ⊕ ρ)} {n:Nat} {s s':σ} (h:f s=some (.inl s')):iter f (n + 1) s=iter f n s':=by simp [iter,h]
theorem it_out {σ ρ:Type} {f:σ->Option (σ ⊕ ρ)} {n:Nat} {s:σ} {r:ρ} (h:f s=some (.inr r)):iter f (n + 1) s=some r:=by simp [iter,h]
theorem l40_again (F:Nat) {x:UInt64} {c:Int} (h:128≤x.toNat):L34_2 F x c=some (.inl (shr64 x 7,w64 (c + 1))):=by
 have:UInt64.ofNat 128≤x:=h
 simp only [L34_2,L34_2c,this,decide_true,cond_true];rfl
theorem l40_out (F:Nat) {x:UInt64} {c:Int} (h:¬ 128≤x.toNat):L34_2 F x c=some (.inr c):=by
 have:¬ UInt64.ofNat 128≤x:=h
 simp only [L34_2,L34_2c,this,decide_false,cond_false]
theorem t40 {F:Nat} (hF:4 < F) (x:UInt64) (hx:x.toNat≤32768):T34 F x=some ((sz x.toNat:Nat):Int):=by
 obtain ⟨n,rfl⟩:∃ n,F=n + 4:=⟨F - 4,by omega⟩
 have w1:w64 ((1:Int) + 1)=2:=by decide
 have w2:w64 ((2:Int) + 1)=3:=by decide
 have d1:=shr7 x
 have d2:=shr7 (shr64 x 7)
 simp only [T34,T34c]
 by_cases h1:x.toNat < 128
 ·rw [it_out (l40_out _ (x:=x) (by omega))];simp [sz,h1]
 ·rw [it_again (l40_again _ (x:=x) (by omega)),w1]
  by_cases h2:x.toNat < 16384
  ·rw [it_out (l40_out _ (x:=shr64 x 7) (by omega))];simp [sz,h1,h2]
  ·rw [it_again (l40_again _ (x:=shr64 x 7) (by omega)),w2,it_out (l40_out _ (x:=shr64 (shr64 x 7) 7) (by omega))];simp [sz,h1,h2]
theorem div128 (x:UInt64):(x / UInt64.ofNat 128).toNat=x.toNat / 128:=by
 rw [UInt64.toNat_div];rfl
theorem l45_again (F:Nat) {x:UInt64} {l:List UInt8} (h:127 < x.toNat) (hl:l.length < 100):∃ b,L66_2 F x l=some (.inl (x / UInt64.ofNat 128,l ++ [b])):=by
 have:UInt64.ofNat 127 < x:=h
 refine ⟨((x % (UInt64.ofNat 128)).toUInt8) + (UInt8.ofNat 128),?_⟩
 simp only [L66_2,L66_2c,this,decide_true,cond_true,gapp]
 rw [if_pos (by simp;omega)];rfl
theorem l45_out (F:Nat) {x:UInt64} {l:List UInt8} (h:¬ 127 < x.toNat):L66_2 F x l=some (.inr (x,l)):=by
 have:¬ UInt64.ofNat 127 < x:=h
 simp only [L66_2,L66_2c,this,decide_false,cond_false]
theorem t45 {F:Nat} (hF:4 < F) (x:UInt64) (hx:x.toNat≤32768):∃ l,T66 F x=some l∧l.length=sz x.toNat:=by
 obtain ⟨n,rfl⟩:∃ n,F=n + 4:=⟨F - 4,by omega⟩
 have d1:=div128 x
 have d2:=div128 (x / UInt64.ofNat 128)
 simp only [T66,T66c]
 by_cases h1:x.toNat < 128
 ·rw [it_out (l45_out _ (x:=x) (by omega))];simp [sz,h1,gapp]
 ·obtain ⟨b,hb⟩:=l45_again (n + 4) (x:=x) (l:=[]) (by omega) (by simp)
  rw [it_again (f:=fun s:UInt64×List UInt8=>L66_2 (n + 4) s.1 s.2) (s:=(x,[])) hb]
  by_cases h2:x.toNat < 16384
  ·rw [it_out (l45_out _ (x:=x / UInt64.ofNat 128) (by omega))];simp [sz,h1,h2,gapp]
  ·obtain ⟨b',hb'⟩:=l45_again (n + 4) (x:=x / UInt64.ofNat 128) (l:=[] ++ [b]) (by omega) (by simp)
   rw [it_again (f:=fun s:UInt64×List UInt8=>L66_2 (n + 4) s.1 s.2) (s:=(x / UInt64.ofNat 128,[] ++ [b])) hb',it_out (l45_out _ (x:=x / UInt64.ofNat 128 / UInt64.ofNat 128) (by omega))];simp [sz,h1,h2,gapp]
def need (n:Int):Int:=(sz n.toNat:Int) + n + 16
def clsOf (n:Int):Int:=fc (need n) 37 0
theorem class_in {F:Nat} (hF:50 < F) {n:Int} (h0:0≤n) (h1:n≤32768):T15 F n=some (clsOf n,0)∧T49 F n=some (need n)∧T48 F (need n)=some (clsOf n):=by
 have h0':¬ n < 0:=by omega
 have h1':¬ 32768 < n:=by omega
 have hx:(UInt64.ofInt n).toNat=n.toNat:=by
  show (UInt64.ofNat (n % 2 ^ 64).toNat).toNat=_
  rw [UInt64.toNat_ofNat'];omega
 have hx':(UInt64.ofInt n).toNat≤32768:=by omega
 obtain ⟨l,hl,hll⟩:=t45 (F:=F) (by omega) (UInt64.ofInt n) hx'
 have h41:T35 F=some ((2 ^ (0 / 4):Int),((0 % 4:Nat):Int)):=rfl
 have hs:1≤sz n.toNat∧sz n.toNat≤3:=by unfold sz;split<;>(try split)<;>omega
 have hw:w64 (w64 (((sz n.toNat:Nat):Int) + n) + 16)=need n:=by
  rw [w64_in (n:=((sz n.toNat:Nat):Int) + n) (by omega) (by omega),w64_in (by omega) (by omega)];rfl
 have hneed:need n≤cls 37:=by
  have:cls 37=40960:=by decide
  unfold need
  omega
 refine ⟨?_,?_,?_⟩
 ·simp only [T15,T15c,h0',h1',decide_false,cond_false]
  rw [t40 (by omega) _ hx',h41]
  simp only [Option.bind_some]
  rw [t59 (k:=0) (by omega)]
  simp only [Option.bind_some]
  have l14:=loop14 F (need n) 37 0 F (by omega) (by omega) hneed
  rw [hx,hw,l14];rfl
 ·simp only [T49,T49c,hl,Option.bind_some,hll,hx,hw]
 ·have l42:=loop42 F (need n) (by omega) hneed 9 0 F (by omega) (by omega)
  simp only [T48,T48c]
  have e:(64:Int)=64 * 2 ^ 0:=by decide
  rw [e,l42];rfl
theorem class_lo {F:Nat} {n:Int} (h0:n < 0):T15 F n=some (0,1):=by simp [T15,T15c,h0]
theorem class_hi {F:Nat} {n:Int} (h1:32768 < n):T15 F n=some (0,2):=by
 have h0:¬ n < 0:=by omega
 simp [T15,T15c,h0,h1]
theorem refclass {F:Nat} (hF:50 < F) {n:Int} (h0:0≤n) (h1:n≤32768):T33 F n=some (clsOf n):=by
 obtain ⟨_,h2,h3⟩:=class_in hF h0 h1
 simp only [T33,T33c,h2,h3,Option.bind_some]
abbrev Rf:=List UInt8×Int×Int×Unit
def hc (g:List Rf):Int:=match g with
 | []=>-1
 | r :: _=>clsOf r.2.2.1
def lxF (c:Int):List (List Rf)->Nat->Int->Int
 | [],_,z=>z
 | g :: gs,i,z=>lxF c gs (i + 1) (if hc g=c then (i:Int) else z)
def lx (c:Int) (gs:List (List Rf)):Int:=lxF c gs 0 (-1)
theorem lxF_app (c:Int):∀ (a b:List (List Rf)) (i:Nat) (z:Int),lxF c (a ++ b) i z=lxF c b (i + a.length) (lxF c a i z)
 | [],b,i,z=>by simp [lxF]
 | g :: a,b,i,z=>by simp only [List.cons_append,lxF,List.length_cons];rw [lxF_app c a b];congr 1;omega
theorem lx_app (c:Int) (gs:List (List Rf)) (g:List Rf):lx c (gs ++ [g])=if hc g=c then (gs.length:Int) else lx c gs:=by
 unfold lx;rw [lxF_app];simp [lxF]
theorem lxF_at (c:Int):∀ (gs:List (List Rf)) (i:Nat) (z:Int),z < i->(lxF c gs i z=z∧∀ g ∈ gs,hc g ≠ c)∨∃ (j:Nat) (g:List Rf),lxF c gs i z=((i + j:Nat):Int)∧gs[j]? = some g∧hc g=c∧∀ (k:Nat) (g':List Rf),j < k->gs[k]? = some g'->hc g' ≠ c
 | [],i,z,h=>.inl ⟨rfl,fun g h=>by simp at h⟩
 | g :: gs,i,z,h=>by
  simp only [lxF]
  by_cases hg:hc g=c
  ·rw [if_pos hg]
   rcases lxF_at c gs (i + 1) (i:Int) (by omega) with ⟨h1,h2⟩ | ⟨j,g',h1,h2,h3,h4⟩
   ·refine .inr ⟨0,g,by rw [h1];simp,rfl,hg,fun k g' hk hk2=>?_⟩
    obtain ⟨m,rfl⟩:∃ m,k=m + 1:=⟨k - 1,by omega⟩
    exact h2 g' (List.mem_of_getElem? (by simpa using hk2))
   ·refine .inr ⟨j + 1,g',by rw [h1];congr 1;omega,by simpa using h2,h3,fun k g2 hk hk2=>?_⟩
    obtain ⟨m,rfl⟩:∃ m,k=m + 1:=⟨k - 1,by omega⟩
    exact h4 m g2 (by omega) (by simpa using hk2)
  ·rw [if_neg hg]
   rcases lxF_at c gs (i + 1) z (by omega) with ⟨h1,h2⟩ | ⟨j,g',h1,h2,h3,h4⟩
   ·refine .inl ⟨h1,fun g' hg'=>?_⟩
    rcases List.mem_cons.1 hg' with rfl | hg'
    ·exact hg
    ·exact h2 g' hg'
   ·refine .inr ⟨j + 1,g',by rw [h1];congr 1;omega,by simpa using h2,h3,fun k g2 hk hk2=>?_⟩
    obtain ⟨m,rfl⟩:∃ m,k=m + 1:=⟨k - 1,by omega⟩
    exact h4 m g2 (by omega) (by simpa using hk2)
theorem lx_at (c:Int) (gs:List (List Rf)):(lx c gs = -1∧∀ g ∈ gs,hc g ≠ c)∨∃ (j:Nat) (g:List Rf),lx c gs=(j:Int)∧gs[j]? = some g∧hc g=c∧∀ (k:Nat) (g':List Rf),j < k->gs[k]? = some g'->hc g' ≠ c:=by
 have:=lxF_at c gs 0 (-1) (by omega)
 simpa [lx] using this
theorem lxF_set (c:Int):∀ (gs:List (List Rf)) (i j:Nat) (z:Int) (g g':List Rf),gs[j]? = some g->hc g'=hc g->lxF c (gs.set j g') i z=lxF c gs i z
 | [],i,j,z,g,g',h,_=>by simp at h
 | x :: gs,i,0,z,g,g',h,e=>by simp at h;subst h;simp [lxF,e]
 | x :: gs,i,j + 1,z,g,g',h,e=>by simp only [List.set_cons_succ,lxF];exact lxF_set c gs (i + 1) j _ g g' (by simpa using h) e
theorem lx_set (c:Int) {gs:List (List Rf)} {j:Nat} {g g':List Rf} (h:gs[j]? = some g) (e:hc g'=hc g):lx c (gs.set j g')=lx c gs:=lxF_set c gs 0 j (-1) g g' h e
theorem hc_snoc {g:List Rf} (h:g ≠ []) (r:Rf):hc (g ++ [r])=hc g:=by
 cases g with
 | nil=>exact absurd rfl h
 | cons x g=>rfl
def pstep (data:Int) (gs:List (List Rf)) (r:Rf):List (List Rf):=
 let j:=lx (clsOf r.2.2.1) gs
 match gs[j.toNat]? with
 | some g=>if j < 0 then gs ++ [[r]] else if (g.length:Int) < data then gs.set j.toNat (g ++ [r]) else gs ++ [[r]]
 | none=>gs ++ [[r]]
def pack (data:Int) (refs:List Rf):List (List Rf):=refs.foldl (pstep data) []
theorem pack_app (data:Int) (a:List Rf) (r:Rf):pack data (a ++ [r])=pstep data (pack data a) r:=by simp [pack]
structure PG (data:Int) (gs:List (List Rf)):Prop where
 ne:∀ g ∈ gs,g ≠ []
 le:∀ g ∈ gs,(g.length:Int)≤data
 one:∀ g ∈ gs,∀ r ∈ g,clsOf r.2.2.1=hc g
theorem mem_set' {α:Type} {l:List α} {j:Nat} {y x:α} (h:x ∈ l.set j y):x=y∨x ∈ l:=by
 obtain ⟨i,hi⟩:=List.mem_iff_getElem?.1 h
 rw [List.getElem?_set] at hi
 split at hi
 ·split at hi
  ·cases hi;exact .inl rfl
  ·cases hi
 ·exact .inr (List.mem_of_getElem? hi)
theorem PG.step {data:Int} (hd:1≤data) {gs:List (List Rf)} (H:PG data gs) (r:Rf):PG data (pstep data gs r):=by
 have new:PG data (gs ++ [[r]]):=by
  refine ⟨fun g hg=>?_,fun g hg=>?_,fun g hg r' hr=>?_⟩
  ·rcases List.mem_append.1 hg with hg | hg
   ·exact H.ne g hg
   ·simp at hg;subst hg;simp
  ·rcases List.mem_append.1 hg with hg | hg
   ·exact H.le g hg
   ·simp at hg;subst hg;simpa using hd
  ·rcases List.mem_append.1 hg with hg | hg
   ·exact H.one g hg r' hr
   ·simp at hg;subst hg;simp at hr;subst hr;rfl
 unfold pstep
 rcases lx_at (clsOf r.2.2.1) gs with ⟨h1,h2⟩ | ⟨j,g,h1,h2,h3,h4⟩
 ·simp only [h1]
  split
  ·rw [if_pos (by omega)];exact new
  ·exact new
 ·simp only [h1,Int.toNat_natCast,h2]
  rw [if_neg (by omega)]
  split
  ·rename_i hlt
   have hg:=List.mem_of_getElem? h2
   have hne:=H.ne g hg
   refine ⟨fun g' hg'=>?_,fun g' hg'=>?_,fun g' hg' r' hr=>?_⟩
   ·rcases mem_set' hg' with rfl | hg'
    ·simp
    ·exact H.ne g' hg'
   ·rcases mem_set' hg' with rfl | hg'
    ·simp;omega
    ·exact H.le g' hg'
   ·rcases mem_set' hg' with rfl | hg'
    ·rw [hc_snoc hne]
     rcases List.mem_append.1 hr with hr | hr
     ·exact H.one g hg r' hr
     ·simp at hr;subst hr;exact h3.symm
    ·exact H.one g' hg' r' hr
  ·exact new
theorem pack_PG {data:Int} (hd:1≤data) (refs:List Rf):PG data (pack data refs):=by
 unfold pack
 suffices ∀ (gs:List (List Rf)),PG data gs->PG data (refs.foldl (pstep data) gs) from this [] ⟨fun g h=>by simp at h,fun g h=>by simp at h,fun g h=>by simp at h⟩
 induction refs with
 | nil=>intro gs h;exact h
 | cons r refs ih=>intro gs h;exact ih _ (h.step hd r)
theorem pstep_len (data:Int) (gs:List (List Rf)) (r:Rf):(pstep data gs r).length≤gs.length + 1:=by
 unfold pstep
 dsimp only
 split
 ·split
  ·simp
  ·split<;>simp
 ·simp
theorem pack_len (data:Int) (refs:List Rf):(pack data refs).length≤refs.length:=by
 unfold pack
 suffices ∀ (gs:List (List Rf)),(refs.foldl (pstep data) gs).length≤gs.length + refs.length by simpa using this []
 induction refs with
 | nil=>intro gs;simp
 | cons r refs ih=>intro gs;have:=ih (pstep data gs r);have:=pstep_len data gs r;simp only [List.foldl_cons,List.length_cons];omega
theorem keq_ne {z x:Int} (h:z ≠ x):keq .i z x=false:=by show (z == x)=false;simpa using h
theorem keq_self (z:Int):keq .i z z=true:=by show (z == z)=true;simp
theorem mgt_mpt {β:Type}:∀ (l:List (Int×β)) (x:Int) (y:β) (z:Int),mgt .i (mpt .i l x y) z=if z=x then some y else mgt .i l z
 | [],x,y,z=>by
  by_cases h:z=x
  ·subst h;simp only [mpt,mgt,keq_self,cond_true,if_true]
  ·simp only [mpt,mgt,keq_ne h,cond_false,if_neg h]
 | e :: l,x,y,z=>by
  have ih:=mgt_mpt l x y z
  by_cases hx:x=e.1
  ·subst hx
   by_cases h:z=e.1
   ·subst h;simp only [mpt,mgt,keq_self,cond_true,if_true]
   ·simp only [mpt,mgt,keq_self,keq_ne h,cond_true,cond_false,if_neg h]
  ·simp only [mpt,keq_ne hx,cond_false,mgt]
   by_cases h:z=e.1
   ·subst h
    have:¬ e.1=x:=fun h=>hx h.symm
    simp only [keq_self,cond_true,if_neg this]
   ·simp only [keq_ne h,cond_false];exact ih
def MI (m:List (Int×Int)) (gs:List (List Rf)):Prop:=∀ c:Int,mgt .i m c=if lx c gs < 0 then none else some (lx c gs)
theorem MI.nil:MI [] []:=fun c=>rfl
theorem MI.new {m:List (Int×Int)} {gs:List (List Rf)} (H:MI m gs) (r:Rf):MI (mpt .i m (clsOf r.2.2.1) (gs.length:Int)) (gs ++ [[r]]):=fun c=>by
 rw [mgt_mpt,lx_app,H c]
 by_cases h:c=clsOf r.2.2.1
 ·subst h
  have e:hc [r]=clsOf r.2.2.1:=rfl
  rw [if_pos rfl,if_pos e,if_neg (by omega)]
 ·have e:¬ hc [r]=c:=fun e=>h e.symm
  rw [if_neg h,if_neg e]
theorem set_last {α:Type} (l:List α) (x y:α):(l ++ [x]).set l.length y=l ++ [y]:=by
 rw [List.set_append_right _ _ (Nat.le_refl _)];simp
theorem pstep_new {data:Int} {gs:List (List Rf)} {r:Rf} (h:lx (clsOf r.2.2.1) gs < 0∨∃ g,gs[(lx (clsOf r.2.2.1) gs).toNat]? = some g∧¬ (g.length:Int) < data):pstep data gs r=gs ++ [[r]]:=by
 unfold pstep
 dsimp only
 rcases h with h | ⟨g,hg,h⟩
 ·split
  ·first | rfl | rw [if_pos h]
  ·rfl
 ·rw [hg]
  dsimp only
  split
  ·rfl
  ·rfl
theorem pstep_old {data:Int} {gs:List (List Rf)} {r:Rf} {j:Nat} {g:List Rf} (hj:lx (clsOf r.2.2.1) gs=(j:Int)) (hg:gs[j]? = some g) (h:(g.length:Int) < data):pstep data gs r=gs.set j (g ++ [r]):=by
 unfold pstep
 dsimp only
 rw [hj,Int.toNat_natCast,hg]
 dsimp only
 rw [if_neg (by omega),if_pos h]
theorem step9 {F:Nat} (hF:50 < F) {data:Int} (hd1:1≤data) {refs:List Rf} {k:Nat} {r:Rf} (hr:refs[k]? = some r) (h0:0≤r.2.2.1) (h1:r.2.2.1≤32768) (hk:refs.length≤1000) {rows:List (Option (List Rf))} {out:List Nat} {m:List (Int×Int)} {gs:List (List Rf)}
  (H:Rows rows out gs) (hm:MI m gs) (hp:PG data gs) (hgl:gs.length≤1000) (hd8:data≤8) :
  ∃ rows' out' m',L9_2 F data refs (refs.length:Int) (k:Int) (rows,out) m=some (.inl (((k + 1:Nat):Int),(rows',out'),m'))∧Rows rows' out' (pstep data gs r)∧MI m' (pstep data gs r):=by
 have hkl:=(List.getElem?_eq_some_iff.1 hr).1
 have hlt:((k:Nat):Int) < (refs.length:Int):=by omega
 have hix:=ixn hr
 have hcl:=(class_in hF h0 h1).1
 have hw:w64 (((k:Nat):Int) + 1)=((k + 1:Nat):Int):=w64n (by omega)
 have hol:out.length=gs.length:=H.len
 have H1:=H.app []
 have hg1:gapp out (shO rows.length [0])=some (out ++ shO rows.length [0]):=gappn (by simp [shO];omega)
 obtain ⟨q,a1,a2,a3⟩:=H1.get (i:=gs.length) (g:=[]) (by simp)
 have hi1:inb (out ++ shO rows.length [0]).length (out.length:Int)=some gs.length:=by rw [← hol];exact inbn (by simp [shO])
 have hg2:gapp ([]:List Rf) [r]=some [r]:=gappn (by simp)
 have H2:=H1.upd a3 [r]
 rw [set_last] at H2
 by_cases hlx:lx (clsOf r.2.2.1) gs < 0
 ·
  have hmh:mhs .i m (clsOf r.2.2.1)=false:=by unfold mhs;rw [hm,if_pos hlx];rfl
  rw [pstep_new (.inl hlx)]
  refine ⟨_,_,_,?_,H2,hm.new r⟩
  simp only [L9_2,L9_2c,hlt,decide_true,cond_true,hix,hcl,hmh,Bool.not_false,hg1,hi1,a1,a2,Option.bind_some,hw]
  rw [← hol]
  simp only [hg2,Option.bind_some]
 ·obtain ⟨j,g,b1,b2,b3,b4⟩:∃ (j:Nat) (g:List Rf),lx (clsOf r.2.2.1) gs=(j:Int)∧gs[j]? = some g∧hc g=clsOf r.2.2.1∧∀ (k:Nat) (g':List Rf),j < k->gs[k]? = some g'->hc g' ≠ clsOf r.2.2.1:=by
   rcases lx_at (clsOf r.2.2.1) gs with ⟨h1,_⟩ | h
   ·omega
   ·exact h
  have hmg:mgt .i m (clsOf r.2.2.1)=some (j:Int):=by rw [hm,if_neg hlx,b1]
  have hmh:mhs .i m (clsOf r.2.2.1)=true:=by unfold mhs;rw [hmg];rfl
  have hmd:mgd .i m (clsOf r.2.2.1) (0:Int)=(j:Int):=by unfold mgd;rw [hmg];rfl
  have hjl:=(List.getElem?_eq_some_iff.1 b2).1
  obtain ⟨p,c1,c2,c3⟩:=H.get b2
  have hi2:inb out.length (j:Int)=some j:=inbn (by omega)
  by_cases hfull:data≤(g.length:Int)
  ·rw [pstep_new (.inr ⟨g,by rw [b1,Int.toNat_natCast];exact b2,by omega⟩)]
   refine ⟨_,_,_,?_,H2,hm.new r⟩
   simp only [L9_2,L9_2c,hlt,decide_true,cond_true,hix,hcl,hmh,hmd,hi2,c1,c2,hfull,Bool.not_true,cond_false,hg1,hi1,a1,a2,Option.bind_some,hw]
   rw [← hol]
   simp only [hg2,Option.bind_some]
  ·have hle:=hp.le g (List.mem_of_getElem? b2)
   rw [pstep_old b1 b2 (by omega)]
   have hg3:gapp g [r]=some (g ++ [r]):=gappn (by simp;omega)
   refine ⟨_,_,m,?_,H.upd c3 (g ++ [r]),fun c=>?_⟩
   ·simp only [L9_2,L9_2c,hlt,decide_true,cond_true,hix,hcl,hmh,hmd,hi2,c1,c2,hfull,decide_false,Bool.not_true,cond_false,Option.bind_some,hw]
    simp only [hg3,Option.bind_some]
   ·rw [lx_set c b2 (hc_snoc (hp.ne g (List.mem_of_getElem? b2)) r)];exact hm c
theorem take_snoc {α:Type} {l:List α} {k:Nat} {x:α} (h:l[k]? = some x):l.take (k + 1)=l.take k ++ [x]:=by
 rw [List.take_add_one,h];rfl
theorem pack9 {F:Nat} (hF:2000 < F) {data:Int} (hd1:1≤data) (hd8:data≤8) {refs:List Rf} (hl:refs.length≤1000) (hv:∀ r ∈ refs,0≤r.2.2.1∧r.2.2.1≤32768) (hval:T30 F refs=some true):T9 F refs data=some (pack data refs,0):=by
 have h1:¬ data < 1:=by omega
 have h2:¬ 8 < data:=by omega
 obtain ⟨z,hz,hQ⟩:=iter1 (f:=fun s:Int×(List (Option (List Rf))×List Nat)×List (Int×Int)=>L9_2 F data refs (refs.length:Int) s.1 s.2.1 s.2.2)
  (fun s=>∃ k:Nat,s.1=(k:Int)∧k≤refs.length∧Rows s.2.1.1 s.2.1.2 (pack data (refs.take k))∧MI s.2.2 (pack data (refs.take k)))
  (fun z=>Rows z.1 z.2 (pack data refs)) (fun s=>refs.length - s.1.toNat) (fun s hs=>by
   obtain ⟨k,e,hk,hR,hM⟩:=hs
   obtain ⟨s1,⟨rows,out⟩,m⟩:=s
   simp only at e hR hM
   subst e
   rcases Nat.lt_or_ge k refs.length with hlt | hge
   ·have hr:refs[k]? = some refs[k]:=List.getElem?_eq_getElem hlt
    have hvr:=hv _ (List.mem_of_getElem? hr)
    obtain ⟨rows',out',m',g1,g2,g3⟩:=step9 (F:=F) (by omega) hd1 hr hvr.1 hvr.2 hl hR hM (pack_PG hd1 _) (by have:=pack_len data (refs.take k);simp at this;omega) hd8
    rw [← pack_app,← take_snoc hr] at g2 g3
    refine .inl ⟨_,g1,⟨k + 1,rfl,by omega,g2,g3⟩,?_⟩
    simp only [Int.toNat_natCast];omega
   ·have hkl:k=refs.length:=by omega
    subst hkl
    rw [List.take_length] at hR hM
    refine .inr ⟨(rows,out),?_,hR⟩
    simp [L9_2,L9_2c])
  F ((0:Int),(([]:List (Option (List Rf))),([]:List Nat)),([]:List (Int×Int))) ⟨0,rfl,by omega,Rows.nil,MI.nil⟩ (by simp;omega)
 simp only [T9,T9c,h1,h2,decide_false,cond_false,hval,Option.bind_some,Bool.not_true]
 rw [hz]
 simp only [Option.bind_some,hQ.mat_eq]
theorem pstep_mem {data:Int} {gs:List (List Rf)} {r:Rf} {P:Rf->Prop} (h:∀ g ∈ gs,∀ x ∈ g,P x) (hr:P r):∀ g ∈ pstep data gs r,∀ x ∈ g,P x:=by
 have new:∀ g ∈ gs ++ [[r]],∀ x ∈ g,P x:=fun g hg x hx=>by
  rcases List.mem_append.1 hg with hg | hg
  ·exact h g hg x hx
  ·simp at hg;subst hg;simp at hx;subst hx;exact hr
 unfold pstep
 dsimp only
 split
 ·rename_i g hg
  split
  ·exact new
  ·split
   ·intro g' hg' x hx
    rcases mem_set' hg' with rfl | hg'
    ·rcases List.mem_append.1 hx with hx | hx
     ·exact h g (List.mem_of_getElem? hg) x hx
     ·simp at hx;subst hx;exact hr
    ·exact h g' hg' x hx
   ·exact new
 ·exact new
theorem pack_mem {data:Int} {refs:List Rf} {P:Rf->Prop} (h:∀ r ∈ refs,P r):∀ g ∈ pack data refs,∀ x ∈ g,P x:=by
 unfold pack
 suffices ∀ (gs:List (List Rf)),(∀ g ∈ gs,∀ x ∈ g,P x)->∀ g ∈ refs.foldl (pstep data) gs,∀ x ∈ g,P x from this [] (fun g hg=>by simp at hg)
 induction refs with
 | nil=>intro gs h;exact h
 | cons r refs ih=>intro gs hg;exact ih (fun r hr=>h r (by simp [hr])) _ (pstep_mem hg (h r (by simp)))
theorem lxF_take (c:Int) {gs:List (List Rf)} {k:Nat} {g:List Rf} (h:gs[k]? = some g):lx c (gs.take (k + 1))=if hc g=c then (k:Int) else lx c (gs.take k):=by
 rw [take_snoc h,lx_app]
 have:(gs.take k).length=k:=by have:=(List.getElem?_eq_some_iff.1 h).1;simp;omega
 rw [this]
theorem wN {n:Nat} (h:n < 9223372036854775807):w64 (((n:Nat):Int) + 1)=((n + 1:Nat):Int):=w64n h
theorem find12 {F:Nat} (hF:2000 < F) {rows:List (Option (List Rf))} {out:List Nat} {gs:List (List Rf)} (H:Rows rows out gs) (hne:∀ g ∈ gs,g ≠ []) (hv:∀ g ∈ gs,∀ r ∈ g,0≤r.2.2.1∧r.2.2.1≤32768) (hgl:gs.length≤1000) {s:Int} (h0:0≤s) (h1:s≤32768) :
  iter (fun z:Int×Int=>L12_5 F (out.length:Int) (rows,out) s z.1 z.2) F ((-1:Int),(0:Int))=some (lx (clsOf s) gs):=by
 have hol:out.length=gs.length:=H.len
 obtain ⟨z,hz,hQ⟩:=iter1 (f:=fun z:Int×Int=>L12_5 F (out.length:Int) (rows,out) s z.1 z.2)
  (fun z=>∃ k:Nat,z.2=(k:Int)∧k≤gs.length∧z.1=lx (clsOf s) (gs.take k)) (fun z=>z=lx (clsOf s) gs) (fun z=>gs.length - z.2.toNat) (fun z hs=>by
   obtain ⟨k,e,hk,e2⟩:=hs
   obtain ⟨z1,z2⟩:=z
   simp only at e e2
   subst e
   rcases Nat.lt_or_ge k gs.length with hlt | hge
   ·have hg:gs[k]? = some gs[k]:=List.getElem?_eq_getElem hlt
    have hgm:=List.mem_of_getElem? hg
    obtain ⟨q,a1,a2,a3⟩:=H.get hg
    have hi:inb out.length (k:Int)=some k:=inbn (by omega)
    have hc1:((k:Nat):Int) < (out.length:Int):=by omega
    obtain ⟨r,l,hgl2⟩:∃ r l,gs[k]=r :: l:=by
     cases h:gs[k] with
     | nil=>exact absurd h (hne _ hgm)
     | cons r l=>exact ⟨r,l,rfl⟩
    have hvr:=hv _ hgm r (by rw [hgl2];simp)
    have hi0:inb (gs[k]).length (0:Int)=some 0:=by
     have:(0:Int)=((0:Nat):Int):=rfl
     rw [this];exact inbn (by rw [hgl2];simp)
    have hg0:(gs[k])[0]? = some r:=by rw [hgl2];rfl
    have hr1:=refclass (F:=F) (by omega) hvr.1 hvr.2
    have hr2:=refclass (F:=F) (by omega) h0 h1
    have hw:=wN (n:=k) (by omega)
    have hhc:hc gs[k]=clsOf r.2.2.1:=by rw [hgl2];rfl
    have htk:=lxF_take (clsOf s) hg
    rw [hhc] at htk
    refine .inl ⟨(lx (clsOf s) (gs.take (k + 1)),((k + 1:Nat):Int)),?_,⟨k + 1,rfl,by omega,rfl⟩,?_⟩
    rotate_left
    ·simp only [Int.toNat_natCast];omega
    ·simp only [L12_5,L12_5c,hc1,decide_true,cond_true,hi,a1,a2,hi0,hg0,hr1,hr2,Option.bind_some,hw]
     rw [htk,e2]
     by_cases hcc:clsOf r.2.2.1=clsOf s
     ·simp [hcc]
     ·have:(clsOf r.2.2.1 == clsOf s)=false:=by simpa using hcc
      simp [hcc,this]
   ·have hkl:k=gs.length:=by omega
    subst hkl
    rw [List.take_length] at e2
    have hc1:¬ ((gs.length:Nat):Int) < (out.length:Int):=by omega
    exact .inr ⟨z1,by simp [L12_5,L12_5c,hc1],e2⟩)
  F ((-1:Int),(0:Int)) ⟨0,rfl,by omega,rfl⟩ (by simp;omega)
 rw [hz,hQ]
theorem step12 {F:Nat} (hF:2000 < F) {data:Int} (hd1:1≤data) {refs:List Rf} {k:Nat} {r:Rf} (hr:refs[k]? = some r) (h0:0≤r.2.2.1) (h1:r.2.2.1≤32768) (hk:refs.length≤1000) {rows:List (Option (List Rf))} {out:List Nat} {gs:List (List Rf)}
  (H:Rows rows out gs) (hp:PG data gs) (hv:∀ g ∈ gs,∀ r ∈ g,0≤r.2.2.1∧r.2.2.1≤32768) (hgl:gs.length≤1000) (hdl:data≤1000000) :
  ∃ rows' out',L12_4 F data refs (refs.length:Int) (k:Int) (rows,out)=some (.inl (((k + 1:Nat):Int),(rows',out')))∧Rows rows' out' (pstep data gs r):=by
 have hkl:=(List.getElem?_eq_some_iff.1 hr).1
 have hlt:((k:Nat):Int) < (refs.length:Int):=by omega
 have hix:=ixn hr
 have hw:w64 (((k:Nat):Int) + 1)=((k + 1:Nat):Int):=w64n (by omega)
 have hol:out.length=gs.length:=H.len
 have hfd:=find12 hF H hp.ne hv hgl h0 h1
 have hg1:gapp out (shO rows.length [0])=some (out ++ shO rows.length [0]):=gappn (by simp [shO];omega)
 by_cases hlx:lx (clsOf r.2.2.1) gs < 0
 ·rw [pstep_new (.inl hlx)]
  refine ⟨_,_,?_,H.app [r]⟩
  simp only [L12_4,L12_4c,hlt,decide_true,cond_true,hix,hfd,hlx,hg1,Option.bind_some,hw]
 ·obtain ⟨j,g,b1,b2,b3,b4⟩:∃ (j:Nat) (g:List Rf),lx (clsOf r.2.2.1) gs=(j:Int)∧gs[j]? = some g∧hc g=clsOf r.2.2.1∧∀ (k:Nat) (g':List Rf),j < k->gs[k]? = some g'->hc g' ≠ clsOf r.2.2.1:=by
   rcases lx_at (clsOf r.2.2.1) gs with ⟨h1,_⟩ | h
   ·omega
   ·exact h
  have hjl:=(List.getElem?_eq_some_iff.1 b2).1
  obtain ⟨p,c1,c2,c3⟩:=H.get b2
  have hi2:inb out.length (j:Int)=some j:=inbn (by omega)
  have hj0:¬ ((j:Nat):Int) < 0:=by omega
  have hle:=hp.le g (List.mem_of_getElem? b2)
  rw [b1] at hfd
  by_cases hfull:(g.length:Int)=data
  ·rw [pstep_new (.inr ⟨g,by rw [b1,Int.toNat_natCast];exact b2,by omega⟩)]
   refine ⟨_,_,?_,H.app [r]⟩
   simp only [L12_4,L12_4c,hlt,decide_true,cond_true,hix,hfd,hj0,decide_false,cond_false,hi2,c1,c2,hfull,beq_self_eq_true,hg1,Option.bind_some,hw]
  ·rw [pstep_old b1 b2 (by omega)]
   have hg3:gapp g [r]=some (g ++ [r]):=gappn (by simp;omega)
   have hb:((g.length:Int) == data)=false:=by simpa using hfull
   refine ⟨_,_,?_,H.upd c3 (g ++ [r])⟩
   simp only [L12_4,L12_4c,hlt,decide_true,cond_true,hix,hfd,hj0,decide_false,cond_false,hi2,c1,c2,hb,hg3,Option.bind_some,hw]
theorem pack12 {F:Nat} (hF:2000 < F) {data:Int} (hd1:1≤data) (hdl:data≤1000000) {refs:List Rf} (hl:refs.length≤1000) (hv:∀ r ∈ refs,0≤r.2.2.1∧r.2.2.1≤32768):T12 F refs data=some (pack data refs):=by
 obtain ⟨z,hz,hQ⟩:=iter1 (f:=fun s:Int×(List (Option (List Rf))×List Nat)=>L12_4 F data refs (refs.length:Int) s.1 s.2)
  (fun s=>∃ k:Nat,s.1=(k:Int)∧k≤refs.length∧Rows s.2.1 s.2.2 (pack data (refs.take k)))
  (fun z=>Rows z.1 z.2 (pack data refs)) (fun s=>refs.length - s.1.toNat) (fun s hs=>by
   obtain ⟨k,e,hk,hR⟩:=hs
   obtain ⟨s1,⟨rows,out⟩⟩:=s
   simp only at e hR
   subst e
   rcases Nat.lt_or_ge k refs.length with hlt | hge
   ·have hr:refs[k]? = some refs[k]:=List.getElem?_eq_getElem hlt
    have hvr:=hv _ (List.mem_of_getElem? hr)
    obtain ⟨rows',out',g1,g2⟩:=step12 (F:=F) hF hd1 hr hvr.1 hvr.2 hl hR (pack_PG hd1 _) (pack_mem (fun r hr=>hv r (List.mem_of_mem_take hr))) (by have:=pack_len data (refs.take k);simp at this;omega) hdl
    rw [← pack_app,← take_snoc hr] at g2
    refine .inl ⟨_,g1,⟨k + 1,rfl,by omega,g2⟩,?_⟩
    simp only [Int.toNat_natCast];omega
   ·have hkl:k=refs.length:=by omega
    subst hkl
    rw [List.take_length] at hR
    refine .inr ⟨(rows,out),?_,hR⟩
    simp [L12_4,L12_4c])
  F ((0:Int),(([]:List (Option (List Rf))),([]:List Nat))) ⟨0,rfl,by omega,Rows.nil⟩ (by simp;omega)
 simp only [T12,T12c]
 rw [hz]
 simp only [Option.bind_some,hQ.mat_eq]
theorem w64_mod (a:Int):w64 a % 18446744073709551616=a % 18446744073709551616:=by rw [w64_eq];split<;>omega
theorem w64_cong {a b:Int} (h:a % 18446744073709551616=b % 18446744073709551616):w64 a=w64 b:=by rw [w64_eq,w64_eq,h]
theorem w64_add (a b:Int):w64 (a + w64 b)=w64 (a + b):=w64_cong (by have:=w64_mod b;omega)
theorem w64_add' (a b:Int):w64 (w64 a + b)=w64 (a + b):=w64_cong (by have:=w64_mod a;omega)
def mkS (n:Int):Rf:=([],0,n,())
def okS (n:Int):Bool:=decide (0≤n∧n≤32768)
def ce (data n:Int):Int:=(n + data - 1) / data
def cs (data total:Int):List (Int×Int)->Int
 | []=>0
 | e :: l=>ce data e.2 * total * e.1 + cs data total l
def gc (total:Int):List (List Rf)->Int
 | []=>0
 | g :: l=>total * hc g + gc total l
theorem ce_0 {data:Int} (h:1≤data):ce data 0=0:=by unfold ce;exact Int.ediv_eq_zero_of_lt (by omega) (by omega)
theorem ce_at {data:Int} (h:1≤data) {k:Nat} {n:Int} (h1:1≤n) (h2:n≤data):ce data (data * k + n)=k + 1:=by
 unfold ce
 have:data * (k:Int) + n + data - 1=(n - 1) + data * ((k:Int) + 1):=by rw [Int.mul_add];omega
 rw [this,Int.add_mul_ediv_left _ _ (by omega),Int.ediv_eq_zero_of_lt (by omega) (by omega)];omega
theorem mgd_cons (e:Int×Int) (l:List (Int×Int)) (x:Int):mgd .i (e :: l) x (0:Int)=if x=e.1 then e.2 else mgd .i l x (0:Int):=by
 by_cases h:x=e.1
 ·subst h;simp [mgd,mgt,keq_self]
 ·simp [mgd,mgt,keq_ne h,h]
theorem cs_mpt {data:Int} (hd:1≤data) (total:Int):∀ (l:List (Int×Int)) (x y:Int),cs data total (mpt .i l x y) + ce data (mgd .i l x (0:Int)) * total * x=cs data total l + ce data y * total * x
 | [],x,y=>by
  have:mgd .i ([]:List (Int×Int)) x (0:Int)=0:=rfl
  rw [this,ce_0 hd]
  simp [mpt,cs]
 | e :: l,x,y=>by
  have ih:=cs_mpt hd total l x y
  rw [mgd_cons]
  by_cases h:x=e.1
  ·subst h
   simp only [mpt,keq_self,cond_true,cs,if_true];omega
  ·simp only [mpt,keq_ne h,cond_false,cs,if_neg h];omega
theorem mgd_mpt (l:List (Int×Int)) (x y z:Int):mgd .i (mpt .i l x y) z (0:Int)=if z=x then y else mgd .i l z (0:Int):=by
 unfold mgd;rw [mgt_mpt];split<;>rfl
theorem mpt_mem:∀ {l:List (Int×Int)} {x y:Int} {e:Int×Int},e ∈ mpt .i l x y->e.2=y∨e ∈ l
 | [],x,y,e,h=>by simp [mpt] at h;subst h;exact .inl rfl
 | d :: l,x,y,e,h=>by
  by_cases hx:x=d.1
  ·subst hx
   simp only [mpt,keq_self,cond_true,List.mem_cons] at h
   rcases h with rfl | h
   ·exact .inl rfl
   ·exact .inr (List.mem_cons_of_mem _ h)
  ·simp only [mpt,keq_ne hx,cond_false,List.mem_cons] at h
   rcases h with rfl | h
   ·exact .inr (by simp)
   ·rcases mpt_mem h with h | h
    ·exact .inl h
    ·exact .inr (List.mem_cons_of_mem _ h)
theorem mgd_bd {l:List (Int×Int)} {B:Int} (hB:0≤B) (h:∀ e ∈ l,0≤e.2∧e.2≤B) (x:Int):0≤mgd .i l x (0:Int)∧mgd .i l x (0:Int)≤B:=by
 induction l with
 | nil=>exact ⟨Int.le_refl _,hB⟩
 | cons e l ih=>
  rw [mgd_cons]
  split
  ·exact h e (by simp)
  ·exact ih fun e' he'=>h e' (by simp [he'])
theorem gc_app (total:Int):∀ (a b:List (List Rf)),gc total (a ++ b)=gc total a + gc total b
 | [],b=>by simp [gc]
 | g :: a,b=>by simp only [List.cons_append,gc];rw [gc_app total a b];omega
theorem gc_set (total:Int):∀ {gs:List (List Rf)} {j:Nat} {g g':List Rf},gs[j]? = some g->hc g'=hc g->gc total (gs.set j g')=gc total gs
 | [],j,g,g',h,_=>by simp at h
 | x :: gs,0,g,g',h,e=>by simp at h;subst h;simp [gc,e]
 | x :: gs,j + 1,g,g',h,e=>by simp only [List.set_cons_succ,gc];rw [gc_set total (by simpa using h) e]
theorem cs_app (data total:Int):∀ (a b:List (Int×Int)),cs data total (a ++ b)=cs data total a + cs data total b
 | [],b=>by simp [cs]
 | g :: a,b=>by simp only [List.cons_append,cs];rw [cs_app data total a b];omega
structure MC (data total:Int) (m:List (Int×Int)) (gs:List (List Rf)) (n:Nat):Prop where
 no:∀ c:Int,lx c gs < 0->mgd .i m c (0:Int)=0
 at_:∀ (c:Int) (j:Nat) (g:List Rf),lx c gs=(j:Int)->gs[j]? = some g->∃ k:Nat,mgd .i m c (0:Int)=data * (k:Int) + (g.length:Int)
 sum:cs data total m=gc total gs
 bd:∀ e ∈ m,0≤e.2∧e.2≤(n:Int)
theorem lx_same {c d:Int} {gs:List (List Rf)} {j:Nat} {g:List Rf} (h1:lx c gs=(j:Int)) (h2:gs[j]? = some g):hc g=c:=by
 rcases lx_at c gs with ⟨h,_⟩ | ⟨j',g',a1,a2,a3,_⟩
 ·omega
 ·have:j'=j:=by omega
  subst this
  rw [h2] at a2;cases a2;exact a3
theorem MC.step {data total:Int} (hd:1≤data) {m:List (Int×Int)} {gs:List (List Rf)} {n:Nat} (H:MC data total m gs n) (hp:PG data gs) (s:Int) :
  MC data total (mpt .i m (clsOf s) (mgd .i m (clsOf s) (0:Int) + 1)) (pstep data gs (mkS s)) (n + 1):=by
 have hbd:∀ e ∈ mpt .i m (clsOf s) (mgd .i m (clsOf s) (0:Int) + 1),0≤e.2∧e.2≤((n + 1:Nat):Int):=fun e he=>by
  have hb:=mgd_bd (B:=(n:Int)) (by omega) H.bd (clsOf s)
  rcases mpt_mem he with h | h
  ·rw [h];omega
  ·have:=H.bd e h;omega
 have hsum:=cs_mpt hd total m (clsOf s) (mgd .i m (clsOf s) (0:Int) + 1)
 have new:(∃ k:Nat,mgd .i m (clsOf s) (0:Int)=data * (k:Int))->MC data total (mpt .i m (clsOf s) (mgd .i m (clsOf s) (0:Int) + 1)) (gs ++ [[mkS s]]) (n + 1):=fun ⟨k,hk⟩=>by
  have ehc:hc [mkS s]=clsOf s:=rfl
  have e0:ce data (mgd .i m (clsOf s) (0:Int))=k:=by
   rw [hk]
   cases k with
   | zero=>simpa using ce_0 hd
   | succ k=>
    have:=ce_at hd (k:=k) (n:=data) hd (Int.le_refl _)
    have e:data * ((k + 1:Nat):Int)=data * (k:Int) + data:=by rw [Int.natCast_add,Int.mul_add];omega
    rw [e,this];omega
  have e1:ce data (mgd .i m (clsOf s) (0:Int) + 1)=k + 1:=by rw [hk];exact ce_at hd (Int.le_refl _) hd
  refine ⟨fun c hc'=>?_,fun c j g h1 h2=>?_,?_,hbd⟩
  ·rw [lx_app] at hc'
   split at hc'
   ·omega
   ·rename_i hne
    rw [ehc] at hne
    rw [mgd_mpt,if_neg (fun e=>hne e.symm)]
    exact H.no c hc'
  ·rw [lx_app] at h1
   by_cases hcc:hc [mkS s]=c
   ·rw [if_pos hcc] at h1
    have:j=gs.length:=by omega
    subst this
    simp at h2
    subst h2
    rw [ehc] at hcc
    subst hcc
    rw [mgd_mpt,if_pos rfl]
    exact ⟨k,by rw [hk];rfl⟩
   ·rw [if_neg hcc] at h1
    rw [ehc] at hcc
    rw [mgd_mpt,if_neg (fun e=>hcc e.symm)]
    have hj:j < gs.length:=by
     rcases lx_at c gs with ⟨h,_⟩ | ⟨j',g',a1,a2,a3,_⟩
     ·omega
     ·have:=(List.getElem?_eq_some_iff.1 a2).1;omega
    rw [List.getElem?_append_left hj] at h2
    exact H.at_ c j g h1 h2
  ·rw [gc_app,← H.sum]
   simp only [gc,ehc]
   rw [e0,e1] at hsum
   have:((k:Int) + 1) * total * clsOf s=(k:Int) * total * clsOf s + total * clsOf s:=by rw [Int.add_mul,Int.one_mul,Int.add_mul]
   omega
 rcases lx_at (clsOf s) gs with ⟨h1,h2⟩ | ⟨j,g,h1,h2,h3,h4⟩
 ·rw [pstep_new (.inl (by show lx (clsOf s) gs < 0;omega))]
  exact new ⟨0,by rw [H.no _ (by omega)];simp⟩
 ·have hle:=hp.le g (List.mem_of_getElem? h2)
  have hne:=hp.ne g (List.mem_of_getElem? h2)
  obtain ⟨k,hk⟩:=H.at_ _ j g h1 h2
  by_cases hlt:(g.length:Int) < data
  ·rw [pstep_old (r:=mkS s) h1 h2 hlt]
   have ehc:hc (g ++ [mkS s])=hc g:=hc_snoc hne _
   refine ⟨fun c hc'=>?_,fun c j' g' a1 a2=>?_,?_,hbd⟩
   ·rw [lx_set c h2 ehc] at hc'
    have hcne:c ≠ clsOf s:=fun e=>by subst e;omega
    rw [mgd_mpt,if_neg hcne]
    exact H.no c hc'
   ·rw [lx_set c h2 ehc] at a1
    by_cases hcc:c=clsOf s
    ·subst hcc
     have:j'=j:=by omega
     subst this
     rw [List.getElem?_set_self (List.getElem?_eq_some_iff.1 h2).1] at a2
     cases a2
     rw [mgd_mpt,if_pos rfl]
     exact ⟨k,by rw [hk];simp;omega⟩
    ·have hjj:j ≠ j':=fun e=>by
      subst e
      have:=lx_same (d:=0) a1 h2
      rw [h3] at this
      exact hcc this.symm
     rw [List.getElem?_set_ne hjj] at a2
     rw [mgd_mpt,if_neg hcc]
     exact H.at_ c j' g' a1 a2
   ·rw [gc_set total h2 ehc,← H.sum]
    have hg1:1≤(g.length:Int):=by
     cases g with
     | nil=>exact absurd rfl hne
     | cons x g=>simp;omega
    have e0:ce data (mgd .i m (clsOf s) (0:Int))=k + 1:=by rw [hk];exact ce_at hd hg1 hle
    have e1:ce data (mgd .i m (clsOf s) (0:Int) + 1)=k + 1:=by rw [hk,Int.add_assoc];exact ce_at hd (by omega) (by omega)
    rw [e0,e1] at hsum
    omega
  ·rw [pstep_new (.inr ⟨g,by show gs[(lx (clsOf s) gs).toNat]? = _;rw [h1,Int.toNat_natCast];exact h2,hlt⟩)]
   have hgl:(g.length:Int)=data:=by omega
   have hk1:mgd .i m (clsOf s) (0:Int)=data * ((k + 1:Nat):Int):=by rw [hk,hgl,Int.natCast_add,Int.mul_add];simp
   exact new ⟨k + 1,hk1⟩
theorem MC.nil (data total:Int):MC data total [] [] 0:=⟨fun c _=>rfl,fun c j g h1 h2=>by simp at h2,rfl,fun e h=>by simp at h⟩
def tot (l:List Int):Int:=l.foldl (fun a x=>w64 (a + x)) 0
theorem tot_snoc (l:List Int) (x:Int):tot (l ++ [x])=w64 (tot l + x):=by simp [tot]
theorem takeSI {α:Type} {l:List α} {k:Nat} {x:α} (h:l[k]? = some x):l.take (k + 1)=l.take k ++ [x]:=by
 rw [List.take_add_one,h];rfl
theorem cnt10 {F:Nat} (hF:2000 < F) {data total:Int} (hd1:1≤data) {sizes:List Int} (hl:sizes.length≤1000) :
  ∃ z,iter (fun s:Int×Int×List (Int×Int)=>L10_3 F sizes (sizes.length:Int) s.1 s.2.1 s.2.2) F ((0:Int),(0:Int),([]:List (Int×Int)))=some z ∧
   (match z with
    | .inl y=>sizes.all okS=true∧y.1=tot sizes∧MC data total y.2 (pack data (sizes.map mkS)) sizes.length
    | .inr y=>sizes.all okS=false∧y=((0:Int),(0:Int),(1:Int))):=by
 exact iter1 (f:=fun s:Int×Int×List (Int×Int)=>L10_3 F sizes (sizes.length:Int) s.1 s.2.1 s.2.2)
  (fun s=>∃ k:Nat,s.2.1=(k:Int)∧k≤sizes.length∧s.1=tot (sizes.take k)∧MC data total s.2.2 (pack data ((sizes.take k).map mkS)) k∧((sizes.drop k).all okS=sizes.all okS))
  _ (fun s=>sizes.length - s.2.1.toNat) (fun s hs=>by
   obtain ⟨k,e,hk,ht,hM,ha⟩:=hs
   obtain ⟨s0,s1,m⟩:=s
   simp only at e ht hM
   subst e ht
   rcases Nat.lt_or_ge k sizes.length with hlt | hge
   ·have hr:sizes[k]? = some sizes[k]:=List.getElem?_eq_getElem hlt
    have hc1:((k:Nat):Int) < (sizes.length:Int):=by omega
    have hix:=ixn hr
    have hw:w64 (((k:Nat):Int) + 1)=((k + 1:Nat):Int):=w64n (by omega)
    have hdr:sizes.drop k=sizes[k] :: sizes.drop (k + 1):=List.drop_eq_getElem_cons hlt
    generalize sizes[k]=x at hr hix hdr
    rw [hdr,List.all_cons] at ha
    by_cases hx:okS x=true
    ·have hd:=of_decide_eq_true hx
     have hcl:=(class_in (F:=F) (by omega) hd.1 hd.2).1
     have hb:=mgd_bd (B:=(k:Int)) (by omega) hM.bd (clsOf x)
     have hw2:w64 (mgd .i m (clsOf x) (0:Int) + 1)=mgd .i m (clsOf x) (0:Int) + 1:=w64_in (by omega) (by omega)
     refine .inl ⟨(w64 (tot (sizes.take k) + x),((k + 1:Nat):Int),mpt .i m (clsOf x) (mgd .i m (clsOf x) (0:Int) + 1)),?_,⟨k + 1,rfl,by omega,?_,?_,?_⟩,?_⟩
     ·simp only [L10_3,L10_3c,hc1,decide_true,cond_true,hix,hcl,Option.bind_some,bne_self_eq_false,cond_false,hw,hw2]
     ·rw [takeSI hr,tot_snoc]
     ·have:=hM.step hd1 (pack_PG hd1 _) x
      rw [takeSI hr,List.map_append,List.map_cons,List.map_nil,pack_app]
      exact this
     ·rw [← ha,hx,Bool.true_and]
     ·simp only [Int.toNat_natCast];omega
    ·have hx:okS x=false:=by simpa using hx
     have hd:=of_decide_eq_false hx
     refine .inr ⟨.inr ((0:Int),(0:Int),(1:Int)),?_,?_,rfl⟩
     ·rcases Int.lt_or_le x 0 with h0 | h0
      ·simp only [L10_3,L10_3c,hc1,decide_true,cond_true,hix,class_lo h0,Option.bind_some];rfl
      ·have h1:32768 < x:=by omega
       simp only [L10_3,L10_3c,hc1,decide_true,cond_true,hix,class_hi h1,Option.bind_some];rfl
     ·rw [← ha,hx,Bool.false_and]
   ·have hkl:k=sizes.length:=by omega
    subst hkl
    rw [List.take_length] at hM
    rw [List.drop_length] at ha
    refine .inr ⟨.inl (tot (sizes.take sizes.length),m),?_,⟨by rw [← ha];rfl,by rw [List.take_length],hM⟩⟩
    simp [L10_3,L10_3c])
  F ((0:Int),(0:Int),([]:List (Int×Int))) ⟨0,rfl,by omega,rfl,MC.nil _ _,by simp⟩ (by simp;omega)
theorem fold10 {F:Nat} {data total:Int} (hd1:1≤data) (hd8:data≤8) {m:List (Int×Int)} (hm:∀ e ∈ m,0≤e.2∧e.2≤1000):∀ k:Nat,k≤m.length ->
  mfold (fun s q=>L10_4 F data total (m.length,([]:List Nat)) m s q) (List.range k) (0:Int)=some (w64 (cs data total (m.take k)))
 | 0,_=>rfl
 | k + 1,h=>by
  rw [List.range_succ,mfold_append,fold10 hd1 hd8 hm k (by omega)]
  have hr:m[k]? = some m[k]:=List.getElem?_eq_getElem (by omega)
  have hb:=hm m[k] (List.getElem_mem _)
  generalize m[k]=e at hr hb
  have hgs:gsame m.length m.length=some ():=by simp [gsame]
  have hq:gquo (w64 (w64 (e.2 + data) - 1)) data=some (ce data e.2):=by
   have h1:w64 (e.2 + data)=e.2 + data:=w64_in (by omega) (by omega)
   have h2:w64 (e.2 + data - 1)=e.2 + data - 1:=w64_in (by omega) (by omega)
   rw [h1,h2]
   unfold gquo
   rw [if_neg (by omega),Int.tdiv_eq_ediv_of_nonneg (by omega)]
   have h3:0≤(e.2 + data - 1) / data:=Int.ediv_nonneg (by omega) (by omega)
   have h4:(e.2 + data - 1) / data≤e.2 + data - 1:=Int.ediv_le_self _ (by omega)
   rw [w64_in (by omega) (by omega)];rfl
  rw [takeSI hr,cs_app]
  simp only [mfold,Option.bind_some,L10_4,L10_4c,hgs,hr,hq]
  congr 1
  rw [w64_add',w64_add,w64_cong (a:=cs data total (m.take k) + w64 (ce data e.2 * total) * e.1) (b:=cs data total (m.take k) + cs data total [e])]
  have:=w64_mod (w64 (ce data e.2 * total) * e.1)
  have h5:(w64 (ce data e.2 * total) * e.1) % 18446744073709551616=(ce data e.2 * total * e.1) % 18446744073709551616:=by rw [Int.mul_emod,w64_mod,← Int.mul_emod]
  simp only [cs]
  omega
theorem cost10 {F:Nat} (hF:2000 < F) {data total:Int} {sizes:List Int} (hl:sizes.length≤1000) :
  T10 F sizes data total=some (if (1≤data∧data≤8∧data≤total∧total≤16)∧sizes.all okS=true then (w64 (gc total (pack data (sizes.map mkS))),tot sizes,0) else (0,0,1)):=by
 have h31:T31 F data total=some (decide (1≤data∧data≤8∧data≤total∧total≤16)):=by
  simp only [T31,T31c]
  by_cases h1:1≤data<;>by_cases h2:data≤8<;>by_cases h3:data≤total<;>by_cases h4:total≤16<;>simp [h1,h2,h3,h4]
 simp only [T10,T10c,h31,Option.bind_some]
 by_cases hv:1≤data∧data≤8∧data≤total∧total≤16
 ·obtain ⟨hd1,hd8,_,_⟩:=id hv
  obtain ⟨z,hz,hQ⟩:=cnt10 (F:=F) hF (data:=data) (total:=total) hd1 hl
  rw [hz]
  cases z with
  | inl y=>
   obtain ⟨h1,h2,h3⟩:=hQ
   have hf:=fold10 (F:=F) (total:=total) hd1 hd8 (m:=y.2) (fun e he=>by have:=h3.bd e he;omega) y.2.length (Nat.le_refl _)
   rw [List.take_length] at hf
   have hb:(Nat.beq y.2.length y.2.length && isNil ([]:List Nat))=true:=by
    have:Nat.beq y.2.length y.2.length=true:=Nat.beq_refl _
    rw [this];rfl
   rw [if_pos ⟨hv,h1⟩]
   simp only [hv,decide_true,Bool.not_true,cond_false,Option.bind_some,elimS,and_self,hb,cond_true]
   rw [hf,Option.bind_some,h3.sum,h2]
  | inr y=>
   obtain ⟨h1,rfl⟩:=hQ
   rw [if_neg (by rw [h1];simp)]
   simp only [hv,decide_true,Bool.not_true,cond_false,Option.bind_some,elimS,and_self]
 ·rw [if_neg (fun h=>hv h.1)]
  simp only [hv,decide_false,Bool.not_false,cond_true]
theorem cost14 {F:Nat} (hF:2000 < F) {data total:Int} (hd1:1≤data) (hdl:data≤1000000) {sizes:List Int} (hl:sizes.length≤1000) (ha:sizes.all okS=true) :
  T14 F sizes data total=some (w64 (gc total (pack data (sizes.map mkS))),tot sizes):=by
 obtain ⟨z,hz,hQ⟩:=iter1 (f:=fun s:Int×Int×List Rf=>L14_3 F sizes (sizes.length:Int) s.1 s.2.1 s.2.2)
  (fun s=>∃ k:Nat,s.2.1=(k:Int)∧k≤sizes.length∧s.1=tot (sizes.take k)∧s.2.2=(sizes.take k).map mkS)
  (fun z=>z=(tot sizes,sizes.map mkS)) (fun s=>sizes.length - s.2.1.toNat) (fun s hs=>by
   obtain ⟨k,e,hk,ht,hM⟩:=hs
   obtain ⟨s0,s1,m⟩:=s
   simp only at e ht hM
   subst e ht hM
   rcases Nat.lt_or_ge k sizes.length with hlt | hge
   ·have hr:sizes[k]? = some sizes[k]:=List.getElem?_eq_getElem hlt
    have hc1:((k:Nat):Int) < (sizes.length:Int):=by omega
    have hix:=ixn hr
    have hw:w64 (((k:Nat):Int) + 1)=((k + 1:Nat):Int):=w64n (by omega)
    generalize sizes[k]=x at hr hix
    have hga:gapp ((sizes.take k).map mkS) ([(([]:List UInt8),(0:Int),x,())]:List ((List UInt8)×Int×Int×Unit))=some ((sizes.take k).map mkS ++ [mkS x]):=gappn (by simp;omega)
    refine .inl ⟨(w64 (tot (sizes.take k) + x),((k + 1:Nat):Int),(sizes.take k).map mkS ++ [mkS x]),?_,⟨k + 1,rfl,by omega,?_,?_⟩,?_⟩
    ·simp only [L14_3,L14_3c,hc1,decide_true,cond_true,hix,hga,Option.bind_some,hw]
    ·rw [takeSI hr,tot_snoc]
    ·rw [takeSI hr];simp
    ·simp only [Int.toNat_natCast];omega
   ·have hkl:k=sizes.length:=by omega
    subst hkl
    refine .inr ⟨(tot sizes,sizes.map mkS),?_,rfl⟩
    simp [L14_3,L14_3c])
  F ((0:Int),(0:Int),([]:List Rf)) ⟨0,rfl,by omega,rfl,rfl⟩ (by simp;omega)
 subst hQ
 have hv:∀ r ∈ sizes.map mkS,0≤r.2.2.1∧r.2.2.1≤32768:=fun r hr=>by
  obtain ⟨x,hx,rfl⟩:=List.mem_map.1 hr
  exact of_decide_eq_true (List.all_eq_true.1 ha x hx)
 have hp:=pack12 hF hd1 hdl (refs:=sizes.map mkS) (by simpa using hl) hv
 have hpm:=pack_mem (data:=data) hv
 have hpl:=pack_len data (sizes.map mkS)
 have hPG:=pack_PG hd1 (sizes.map mkS)
 simp only [T14,T14c]
 rw [hz,Option.bind_some,hp,Option.bind_some]
 rw [List.length_map] at hpl
 generalize pack data (sizes.map mkS)=gs at hp hpm hpl hPG
 obtain ⟨z,hz',hQ⟩:=iter1 (f:=fun s:Int×Int=>L14_4 F total gs (gs.length:Int) s.1 s.2)
  (fun s=>∃ k:Nat,s.2=(k:Int)∧k≤gs.length∧s.1=w64 (gc total (gs.take k)))
  (fun z=>z=w64 (gc total gs)) (fun s=>gs.length - s.2.toNat) (fun s hs=>by
   obtain ⟨k,e,hk,ht⟩:=hs
   obtain ⟨s0,s1⟩:=s
   simp only at e ht
   subst e ht
   rcases Nat.lt_or_ge k gs.length with hlt | hge
   ·have hr:gs[k]? = some gs[k]:=List.getElem?_eq_getElem hlt
    have hc1:((k:Nat):Int) < (gs.length:Int):=by omega
    have hix:=ixn hr
    have hw:w64 (((k:Nat):Int) + 1)=((k + 1:Nat):Int):=w64n (by omega)
    have hmem:gs[k] ∈ gs:=List.getElem_mem _
    generalize gs[k]=g at hr hix hmem
    cases g with
    | nil=>exact absurd rfl (hPG.ne _ hmem)
    | cons r g=>
     have hr0:=hpm _ hmem r (by simp)
     have hrc:=refclass (F:=F) (by omega) hr0.1 hr0.2
     have hi0:ix (r :: g) (0:Int)=some r:=ixn (i:=0) rfl
     refine .inl ⟨(w64 (w64 (gc total (gs.take k)) + w64 (total * clsOf r.2.2.1)),((k + 1:Nat):Int)),?_,⟨k + 1,rfl,by omega,?_⟩,?_⟩
     ·simp only [L14_4,L14_4c,hc1,decide_true,cond_true,hix,hi0,hrc,Option.bind_some,hw]
     ·rw [takeSI hr,gc_app,w64_add,w64_add']
      simp only [gc,hc,Int.add_zero]
     ·simp only [Int.toNat_natCast];omega
   ·have hkl:k=gs.length:=by omega
    subst hkl
    refine .inr ⟨w64 (gc total gs),?_,rfl⟩
    simp [L14_4,L14_4c])
  F ((0:Int),(0:Int)) ⟨0,rfl,by omega,rfl⟩ (by simp;omega)
 subst hQ
 rw [hz',Option.bind_some]
def vR (r:Rf):Bool:=decide ((r.1.length:Int)=32∧0≤r.2.1∧0≤r.2.2.1∧r.2.2.1≤32768)
def vF:List (List UInt8)->List Rf->Bool
 | _,[]=>true
 | seen,r :: rs=>vR r && (!seen.contains r.1 && vF (seen ++ [r.1]) rs)
def vRs (refs:List Rf):Bool:=vF [] refs
theorem keqS_ne {z x:List UInt8} (h:z ≠ x):keq .s z x=false:=by show (z == x)=false;simpa using h
theorem keqS_self (z:List UInt8):keq .s z z=true:=by show (z == z)=true;simp
theorem mgt_mptS {β:Type}:∀ (l:List (List UInt8×β)) (x:List UInt8) (y:β) (z:List UInt8),mgt .s (mpt .s l x y) z=if z=x then some y else mgt .s l z
 | [],x,y,z=>by
  by_cases h:z=x
  ·subst h;simp only [mpt,mgt,keqS_self,cond_true,if_true]
  ·simp only [mpt,mgt,keqS_ne h,cond_false,if_neg h]
 | e :: l,x,y,z=>by
  have ih:=mgt_mptS l x y z
  by_cases hx:x=e.1
  ·subst hx
   by_cases h:z=e.1
   ·subst h;simp only [mpt,mgt,keqS_self,cond_true,if_true]
   ·simp only [mpt,mgt,keqS_self,keqS_ne h,cond_true,cond_false,if_neg h]
  ·simp only [mpt,keqS_ne hx,cond_false,mgt]
   by_cases h:z=e.1
   ·subst h
    have:¬ e.1=x:=fun h=>hx h.symm
    simp only [keqS_self,cond_true,if_neg this]
   ·simp only [keqS_ne h,cond_false];exact ih
def nms (l:List Rf):List (List UInt8):=l.map (·.1)
theorem drop_at {α:Type} {l:List α} {k:Nat} {x:α} (h:l[k]? = some x):l.drop k=x :: l.drop (k + 1):=by
 obtain ⟨h1,h2⟩:=List.getElem?_eq_some_iff.1 h
 rw [List.drop_eq_getElem_cons h1,h2]
theorem takeS {α:Type} {l:List α} {k:Nat} {x:α} (h:l[k]? = some x):l.take (k + 1)=l.take k ++ [x]:=by
 rw [List.take_add_one,h];rfl
theorem valid30 {F:Nat} {refs:List Rf} (hl:refs.length≤1000) (hF:2000 < F):T30 F refs=some (vRs refs):=by
 obtain ⟨z,hz,hQ⟩:=iter1 (f:=fun s:Int×List (List UInt8×Bool)=>L30_2 F refs (refs.length:Int) s.1 s.2)
  (fun s=>∃ k:Nat,s.1=(k:Int)∧k≤refs.length∧(∀ x,mgd .s s.2 x false=(nms (refs.take k)).contains x)∧vF (nms (refs.take k)) (refs.drop k)=vRs refs)
  (fun z=>match z with | .inl _=>vRs refs=true | .inr b=>b=vRs refs) (fun s=>refs.length - s.1.toNat) (fun s hs=>by
   obtain ⟨k,e,hk,hm,hv⟩:=hs
   obtain ⟨s1,m⟩:=s
   simp only at e hm
   subst e
   rcases Nat.lt_or_ge k refs.length with hlt | hge
   ·have hr:refs[k]? = some refs[k]:=List.getElem?_eq_getElem hlt
    have hc1:((k:Nat):Int) < (refs.length:Int):=by omega
    have hix:=ixn hr
    have hw:w64 (((k:Nat):Int) + 1)=((k + 1:Nat):Int):=w64n (by omega)
    generalize refs[k]=r at hr hix
    rw [drop_at hr] at hv
    simp only [vF] at hv
    have hmr:=hm r.1
    by_cases hvr:vR r=true
    ·have hd:=of_decide_eq_true hvr
     obtain ⟨q1,q2,q3,q4⟩:=hd
     have e1:((r.1.length:Int) != 32)=false:=by simpa using q1
     have e2:¬ r.2.1 < 0:=by omega
     have e3:¬ r.2.2.1 < 0:=by omega
     have e4:¬ (32768:Int) < r.2.2.1:=by omega
     cases hcn:(nms (refs.take k)).contains r.1 with
     | true=>
      rw [hcn] at hmr
      rw [hvr,hcn] at hv
      refine .inr ⟨.inr false,?_,by rw [← hv];rfl⟩
      simp only [L30_2,L30_2c,hc1,decide_true,cond_true,hix,Option.bind_some,e1,e2,e3,e4,decide_false,cond_false,hmr]
     | false=>
      rw [hcn] at hmr
      rw [hvr,hcn] at hv
      refine .inl ⟨(((k + 1:Nat):Int),mpt .s m r.1 true),?_,⟨k + 1,rfl,by omega,fun x=>?_,?_⟩,?_⟩
      ·simp only [L30_2,L30_2c,hc1,decide_true,cond_true,hix,Option.bind_some,e1,e2,e3,e4,decide_false,cond_false,hmr,hw]
      ·have hmx:=hm x
       unfold mgd at hmx ⊢
       rw [mgt_mptS,takeS hr]
       by_cases hx:x=r.1
       ·subst hx;simp [nms]
       ·rw [if_neg hx,hmx]
        simp [nms,hx]
      ·rw [takeS hr]
       have:nms (refs.take k ++ [r])=nms (refs.take k) ++ [r.1]:=by simp [nms]
       rw [this];simpa using hv
      ·simp only [Int.toNat_natCast];omega
    ·have hvr:vR r=false:=by simpa using hvr
     rw [hvr] at hv
     refine .inr ⟨.inr false,?_,by rw [← hv];rfl⟩
     have hd:=of_decide_eq_false hvr
     simp only [L30_2,L30_2c,hc1,decide_true,cond_true,hix,Option.bind_some]
     by_cases q1:(r.1.length:Int)=32
     ·have e1:((r.1.length:Int) != 32)=false:=by simpa using q1
      simp only [e1,cond_false]
      by_cases e2:r.2.1 < 0
      ·simp only [e2,decide_true,cond_true]
      ·simp only [e2,decide_false,cond_false]
       by_cases e3:r.2.2.1 < 0
       ·simp only [e3,decide_true,cond_true]
       ·simp only [e3,decide_false,cond_false]
        by_cases e4:(32768:Int) < r.2.2.1
        ·simp only [e4,decide_true,cond_true]
        ·exact absurd ⟨q1,by omega,by omega,by omega⟩ hd
     ·have e1:((r.1.length:Int) != 32)=true:=by simpa using q1
      simp only [e1,cond_true]
   ·have hkl:k=refs.length:=by omega
    subst hkl
    rw [List.take_length,List.drop_length] at hv
    refine .inr ⟨.inl (),?_,by rw [← hv];rfl⟩
    simp [L30_2,L30_2c])
  F ((0:Int),([]:List (List UInt8×Bool))) ⟨0,rfl,by omega,fun x=>rfl,rfl⟩ (by simp;omega)
 simp only [T30,T30c]
 rw [hz]
 cases z with
 | inl u=>have hQ:vRs refs=true:=hQ;rw [hQ];rfl
 | inr b=>have hQ:b=vRs refs:=hQ;rw [← hQ];rfl
theorem t32 (F:Nat) (r:Rf):T32 F r.1 r.2.1 r.2.2.1=some (vR r):=by
 simp only [T32,T32c,vR]
 by_cases q1:(r.1.length:Int)=32
 ·have e1:((r.1.length:Int) == 32)=true:=by simpa using q1
  by_cases q2:0≤r.2.1<;>by_cases q3:0≤r.2.2.1<;>simp [e1,q1,q2,q3]
 ·have e1:((r.1.length:Int) == 32)=false:=by simpa using q1
  simp [e1,q1]
theorem inner11 {F:Nat} {refs:List Rf} (hl:refs.length≤1000) (hF:2000 < F) {i:Nat} (hi:i≤refs.length) (s:List UInt8):∃ z,iter (fun k:Int=>L11_4 F refs (i:Int) s k) F (0:Int)=some z∧(match z with | .inl _=>(nms (refs.take i)).contains s=false | .inr b=>b=false∧(nms (refs.take i)).contains s=true):=by
 exact iter1 (f:=fun k:Int=>L11_4 F refs (i:Int) s k)
  (fun z=>∃ k:Nat,z=(k:Int)∧k≤i∧(nms (refs.take k)).contains s=false)
  _ (fun z=>i - z.toNat) (fun z hs=>by
   obtain ⟨k,e,hk,hc⟩:=hs
   subst e
   rcases Nat.lt_or_ge k i with hlt | hge
   ·have hr:refs[k]? = some (refs[k]'(by omega)):=List.getElem?_eq_getElem (by omega)
    have hc1:((k:Nat):Int) < ((i:Nat):Int):=by omega
    have hix:=ixn hr
    have hw:w64 (((k:Nat):Int) + 1)=((k + 1:Nat):Int):=w64n (by omega)
    generalize refs[k]'(by omega)=r at hr hix
    by_cases hs:r.1=s
    ·refine .inr ⟨.inr false,?_,rfl,?_⟩
     ·have:(r.1 == s)=true:=by simpa using hs
      simp only [L11_4,L11_4c,hc1,decide_true,cond_true,hix,Option.bind_some,this]
     ·have:r ∈ refs.take i:=by
       have h2:(refs.take i)[k]? = some r:=by rw [List.getElem?_take,if_pos hlt];exact hr
       exact List.mem_of_getElem? h2
      simp only [nms,List.contains_eq_mem,List.mem_map,decide_eq_true_eq]
      exact ⟨r,this,hs⟩
    ·refine .inl ⟨((k + 1:Nat):Int),?_,⟨k + 1,rfl,by omega,?_⟩,?_⟩
     ·have:(r.1 == s)=false:=by simpa using hs
      simp only [L11_4,L11_4c,hc1,decide_true,cond_true,hix,Option.bind_some,this,cond_false,hw]
     ·rw [takeS hr]
      simp only [nms,List.map_append,List.contains_eq_mem,decide_eq_false_iff_not] at hc ⊢
      simp only [List.mem_append,List.map_cons,List.map_nil,List.mem_singleton,not_or]
      exact ⟨hc,fun e=>hs e.symm⟩
     ·simp only [Int.toNat_natCast];omega
   ·have hki:k=i:=by omega
    subst hki
    refine .inr ⟨.inl (),?_,hc⟩
    simp [L11_4,L11_4c])
  F (0:Int) ⟨0,rfl,by omega,rfl⟩ (by simp;omega)
theorem valid11 {F:Nat} {refs:List Rf} (hl:refs.length≤1000) (hF:2000 < F):T11 F refs=some (vRs refs):=by
 obtain ⟨z,hz,hQ⟩:=iter1 (f:=fun s:Int=>L11_3 F refs refs (refs.length:Int) s)
  (fun s=>∃ k:Nat,s=(k:Int)∧k≤refs.length∧vF (nms (refs.take k)) (refs.drop k)=vRs refs)
  (fun z=>match z with | .inl _=>vRs refs=true | .inr b=>b=vRs refs) (fun s=>refs.length - s.toNat) (fun s hs=>by
   obtain ⟨k,e,hk,hv⟩:=hs
   subst e
   rcases Nat.lt_or_ge k refs.length with hlt | hge
   ·have hr:refs[k]? = some refs[k]:=List.getElem?_eq_getElem hlt
    have hc1:((k:Nat):Int) < (refs.length:Int):=by omega
    have hix:=ixn hr
    have hw:w64 (((k:Nat):Int) + 1)=((k + 1:Nat):Int):=w64n (by omega)
    generalize refs[k]=r at hr hix
    rw [drop_at hr] at hv
    simp only [vF] at hv
    have ht:=t32 F r
    cases hvr:vR r with
    | false=>
     rw [hvr] at hv ht
     refine .inr ⟨.inr false,?_,by rw [← hv];rfl⟩
     simp only [L11_3,L11_3c,hc1,decide_true,cond_true,hix,Option.bind_some,ht,Bool.not_false]
    | true=>
     rw [hvr] at hv ht
     obtain ⟨y,hy,hyQ⟩:=inner11 hl hF (i:=k) (by omega) r.1
     cases y with
     | inr b=>
      obtain ⟨rfl,hcn⟩:=hyQ
      rw [hcn] at hv
      refine .inr ⟨.inr false,?_,by rw [← hv];rfl⟩
      simp only [L11_3,L11_3c,hc1,decide_true,cond_true,hix,Option.bind_some,ht,Bool.not_true,cond_false,hy,elimS]
     | inl u=>
      have hcn:(nms (refs.take k)).contains r.1=false:=hyQ
      rw [hcn] at hv
      refine .inl ⟨((k + 1:Nat):Int),?_,⟨k + 1,rfl,by omega,?_⟩,?_⟩
      ·simp only [L11_3,L11_3c,hc1,decide_true,cond_true,hix,Option.bind_some,ht,Bool.not_true,cond_false,hy,elimS,hw]
      ·rw [takeS hr]
       have:nms (refs.take k ++ [r])=nms (refs.take k) ++ [r.1]:=by simp [nms]
       rw [this];simpa using hv
      ·simp only [Int.toNat_natCast];omega
   ·have hkl:k=refs.length:=by omega
    subst hkl
    rw [List.take_length,List.drop_length] at hv
    refine .inr ⟨.inl (),?_,by rw [← hv];rfl⟩
    simp [L11_3,L11_3c])
  F (0:Int) ⟨0,rfl,by omega,rfl⟩ (by simp;omega)
 simp only [T11,T11c]
 rw [hz]
 cases z with
 | inl u=>have hQ:vRs refs=true:=hQ;rw [hQ];rfl
 | inr b=>have hQ:b=vRs refs:=hQ;rw [← hQ];rfl
theorem vF_all:∀ {seen:List (List UInt8)} {refs:List Rf},vF seen refs=true->∀ r ∈ refs,vR r=true
 | _,[],_,r,h=>by simp at h
 | seen,x :: refs,h,r,hr=>by
  simp only [vF,Bool.and_eq_true] at h
  rcases List.mem_cons.1 hr with rfl | hr
  ·exact h.1
  ·exact vF_all h.2.2 r hr
theorem vRs_size {refs:List Rf} (h:vRs refs=true):∀ r ∈ refs,0≤r.2.2.1∧r.2.2.1≤32768:=fun r hr=>by
 have:=of_decide_eq_true (vF_all h r hr)
 exact ⟨this.2.2.1,this.2.2.2⟩
theorem awake8:T8 50000=some true:=by kernel_rfl
def ord4:Nat->List (Tag×Nat)
 | 27=>[(.p,0),(.p,1),(.p,2),(.r,3),(.r,4),(.p,5)]
 | _=>[]
def E4 (F:Nat):Ev:=⟨cfg,108,ctOf [(8,ct8 F),(9,ct9 F),(15,ct15 F)],ord4,ctOf [],fun _=>none,fun _=>none⟩
theorem cts4 (F:Nat):CtsOk Tryd.prog (E4 F):=cts_of (l:=[(8,ct8 F),(9,ct9 F),(15,ct15 F)]) (l':=[]) rfl rfl ⟨⟨ok8 F,_,Tryd.func8,rfl,rfl⟩,⟨⟨ok9 F,_,Tryd.func9,rfl,rfl⟩,⟨⟨ok15 F,_,Tryd.func15,rfl,rfl⟩,trivial⟩⟩⟩ trivial
def L4_6c (F:Nat) (y91:List Zb) (y104:Int) (y107:List UInt8) (y108:Int) (y109:Int) (y97:Int) (y105:Int) {β:Type} (kA:Zi->Option β) (kO:Int->Option β):Option β:=
 (bif (decide (y105 < y104)) then (Option.bind (ix y91 y105) fun x111=>(bif (x111.1 == y107 && (x111.2.1 == y108 && (x111.2.2.1 == y109 && true))) then (kA (y105,(w64 (y105 + (1:Int))))) else (kA (y97,(w64 (y105 + (1:Int))))))) else (kO y97))
def L4_6 (F:Nat) (y91:List Zb) (y104:Int) (y107:List UInt8) (y108:Int) (y109:Int) (y97:Int) (y105:Int):=L4_6c F y91 y104 y107 y108 y109 y97 y105 (fun s=>some (Sum.inl s)) (fun z=>some (Sum.inr z))
def lc4_6 (F:Nat):Lc:=mkL [0,1,7,8,11,13,15,16,18,34,35,36,66,67,68,79,80] [(.ro (.pr .s (.pr .i (.pr .i .un)))),.i,.i,(.mp 0),.i,.i,(.pt 1 []),.i,.i,(.ro (.sl (.pr .s (.pr .i (.pr .i .un))))),.i,.i,(.ro (.pr .s (.pr .i (.pr .i .un)))),.i,.i,.i,.i] [.mp .i .bo,.blk 41 (.pr .str (.pr .i (.pr .i .un)))] [0,1,7,8,11,13,16,18,34,35,36,66,67,68] [(.ro (.pr .s (.pr .i (.pr .i .un)))),.i,.i,(.mp 0),.i,.i,.i,.i,(.ro (.sl (.pr .s (.pr .i (.pr .i .un))))),.i,.i,(.ro (.pr .s (.pr .i (.pr .i .un)))),.i,.i] [.mp .i .bo] F (fun x y (s:Int×Int)=>L4_6 F x.1 x.2.2.2.2.2.2.2.2.2.2.2.2.2.2.2.1 y.2.1.1 y.2.1.2.1 y.2.1.2.2.1 s.1 s.2) (fun x y=>(x.2.2.2.2.2.2.2.2.1,x.2.2.2.2.2.2.2.2.2.2.2.2.2.2.2.2.1)) (fun x y (z:Int)=>((x.1,x.2.1,x.2.2.1,(),x.2.2.2.2.1,x.2.2.2.2.2.1,x.2.2.2.2.2.2.2.1,z,x.2.2.2.2.2.2.2.2.2.1,x.2.2.2.2.2.2.2.2.2.2.1,x.2.2.2.2.2.2.2.2.2.2.2.1,x.2.2.2.2.2.2.2.2.2.2.2.2.1,x.2.2.2.2.2.2.2.2.2.2.2.2.2.1,x.2.2.2.2.2.2.2.2.2.2.2.2.2.2.1,()),(y.1,())))
theorem lo4_6 (F:Nat):LcOk Tryd.prog (E4 F) 0 (lc4_6 F) (cAt (bodyOf Tryd.f4) [1,0,1,1,1,0,0,1,1,0,0,1,1,1,1,1,1,1,0,0,1,1,0,0,1,0,1,1,1,1,1,1]):=
 mkL_ok (lp:=[]) (id:=4) (b:=cAt (bodyOf Tryd.f4) (0 :: 0 :: [1,0,1,1,1,0,0,1,1,0,0,1,1,1,1,1,1,1,0,0,1,1,0,0,1,0,1,1,1,1,1,1])) cok (cts4 F) mixed trivial (by kernel_rfl) (by kernel_rfl) (fun x y s=>(x.1,x.2.1,x.2.2.1,(),x.2.2.2.2.1,x.2.2.2.2.2.1,(),x.2.2.2.2.2.2.2.1,s.1,x.2.2.2.2.2.2.2.2.2.1,x.2.2.2.2.2.2.2.2.2.2.1,x.2.2.2.2.2.2.2.2.2.2.2.1,x.2.2.2.2.2.2.2.2.2.2.2.2.1,x.2.2.2.2.2.2.2.2.2.2.2.2.2.1,x.2.2.2.2.2.2.2.2.2.2.2.2.2.2.1,x.2.2.2.2.2.2.2.2.2.2.2.2.2.2.2.1,s.2,())) (fun x y s=>(y.1,(y.2.1.1,y.2.1.2.1,y.2.1.2.2.1,()),())) (fun x y=>rfl) (fun x y=>rfl) (fun x y s kA kO=>L4_6c F x.1 x.2.2.2.2.2.2.2.2.2.2.2.2.2.2.2.1 y.2.1.1 y.2.1.2.1 y.2.1.2.2.1 s.1 s.2 kA kO) (fun _ _ _ _ _=>by simp only [L4_6,L4_6c,oA,oC,oS,oN,elimS_l,elimS_r,elimS_bind]) (fun _ _ _=>by kernel_rfl)
def L4_5c (F:Nat) (y74:List Zb) (y77:Int) (y82:List Zb) (y83:Int) (y76:Int) (y78:Int) (y84:Int) {β:Type} (kA:Zl->Option β) (kO:Int->Option β) (kR:Bool->Option β):Option β:=
 (bif (decide (y84 < y83)) then (Option.bind (ix y82 y84) fun x89=>(Option.bind (T15 F x89.2.2.1) fun z90=>(Option.bind (iter (fun s=>L4_6 F y74 (y74.length:Int) x89.1 x89.2.1 x89.2.2.1 s.1 s.2) F ((-1:Int),(0:Int))) fun z112=>(bif (z90.1 != y77) then (kR false) else (bif (decide (z112≤y78)) then (kR false) else (kA ((w64 (y76 + (1:Int))),z112,(w64 (y84 + (1:Int)))))))))) else (kO y76))
def L4_5 (F:Nat) (y74:List Zb) (y77:Int) (y82:List Zb) (y83:Int) (y76:Int) (y78:Int) (y84:Int):Option (Zl ⊕ ((Int) ⊕ (Bool))):=L4_5c F y74 y77 y82 y83 y76 y78 y84 (fun s=>some (.inl s)) (fun z=>some (.inr (.inl z))) (fun z=>some (.inr (.inr z)))
theorem L4_5n (F:Nat) (y74:List Zb) (y77:Int) (y82:List Zb) (y83:Int) (y76:Int) (y78:Int) (y84:Int) {β:Type} (kA:Zl->Option β) (kO:Int->Option β) (kR:Bool->Option β):L4_5c F y74 y77 y82 y83 y76 y78 y84 kA kO kR=(L4_5 F y74 y77 y82 y83 y76 y78 y84).bind (elimS kA (elimS kO kR)):=by
 simp only [L4_5,L4_5c,oA,oC,oS,oN,elimS_l,elimS_r,elimS_bind]
def lc4_5 (F:Nat):Lc:=mkR [0,1,7,8,11,13,34,35,36,66,67,68] [(.ro (.pr .s (.pr .i (.pr .i .un)))),.i,.i,(.mp 0),.i,.i,(.ro (.sl (.pr .s (.pr .i (.pr .i .un))))),.i,.i,(.ro (.pr .s (.pr .i (.pr .i .un)))),.i,.i] [.mp .i .bo] [0,1,7,8,34,35,36] [(.ro (.pr .s (.pr .i (.pr .i .un)))),.i,.i,(.mp 0),(.ro (.sl (.pr .s (.pr .i (.pr .i .un))))),.i,.i] [.mp .i .bo] [4] [.bo] [] F (fun x y (s:Int×Int×Int)=>L4_5 F x.1 x.2.2.2.2.1 x.2.2.2.2.2.2.2.2.2.1 x.2.2.2.2.2.2.2.2.2.2.1 s.1 s.2.1 s.2.2) (fun x y=>(x.2.2.1,x.2.2.2.2.2.1,x.2.2.2.2.2.2.2.2.2.2.2.1)) (fun x y (z:Int)=>((x.1,x.2.1,z,(),x.2.2.2.2.2.2.1,x.2.2.2.2.2.2.2.1,x.2.2.2.2.2.2.2.2.1,()),(y.1,()))) (fun x y (z:Bool)=>((z,()),()))
theorem lo4_5 (F:Nat):LcOk Tryd.prog (E4 F) 0 (lc4_5 F) (cAt (bodyOf Tryd.f4) [1,1,1,1,1,1,1,0,0,1,1,0,0,1,0,1,1,1,1,1,1]):=
 mkR_ok (lp:=[([1,0,1,1,1,0,0,1,1,0,0,1,1,1,1,1,1,1,0,0,1,1,0,0,1,0,1,1,1,1,1,1],lc4_6 F)]) (id:=2) (b:=cAt (bodyOf Tryd.f4) (0 :: 0 :: [1,1,1,1,1,1,1,0,0,1,1,0,0,1,0,1,1,1,1,1,1])) cok (cts4 F) mixed ⟨lo4_6 F,trivial⟩ (by kernel_rfl) (by kernel_rfl) (fun x y s=>(x.1,x.2.1,s.1,(),x.2.2.2.2.1,s.2.1,x.2.2.2.2.2.2.1,x.2.2.2.2.2.2.2.1,x.2.2.2.2.2.2.2.2.1,x.2.2.2.2.2.2.2.2.2.1,x.2.2.2.2.2.2.2.2.2.2.1,s.2.2,())) (fun x y s=>(y.1,())) (fun x y=>rfl) (fun x y=>rfl) (fun x y s kA kO kR=>L4_5c F x.1 x.2.2.2.2.1 x.2.2.2.2.2.2.2.2.2.1 x.2.2.2.2.2.2.2.2.2.2.1 s.1 s.2.1 s.2.2 kA kO kR) (fun x y s kA kO kR=>L4_5n F x.1 x.2.2.2.2.1 x.2.2.2.2.2.2.2.2.2.1 x.2.2.2.2.2.2.2.2.2.2.1 s.1 s.2.1 s.2.2 kA kO kR) (fun _ _ _=>by kernel_rfl)
def L4_4c (F:Nat) (y60:List Zb) (y61:Int) (y63:List Ze) (y64:Int) (y62:Int) (y65:Int) (y66:List (Int×Bool)) {β:Type} (kA:(Int×Int×(List (Int×Bool)))->Option β) (kO:Int->Option β) (kR:Bool->Option β):Option β:=
 (bif (decide (y65 < y64)) then (Option.bind (ix y63 y65) fun x71=>(bif (decide ((x71.length:Int) < (1:Int))) then (kR false) else (bif (decide (y61 < (x71.length:Int))) then (kR false) else (Option.bind (ix x71 (0:Int)) fun x72=>(Option.bind (T15 F x72.2.2.1) fun z73=>(bif (mgd .i y66 z73.1 false) then (kR false) else (Option.bind (iter (fun s=>L4_5 F y60 z73.1 x71 (x71.length:Int) s.1 s.2.1 s.2.2) F (y62,(-1:Int),(0:Int))) fun z113=>elimS (fun z113=>(kA (z113,(w64 (y65 + (1:Int))),(mpt .i y66 z73.1 (decide ((x71.length:Int) < y61)))))) (fun z113=>(kR z113)) z113))))))) else (kO y62))
def L4_4 (F:Nat) (y60:List Zb) (y61:Int) (y63:List Ze) (y64:Int) (y62:Int) (y65:Int) (y66:List (Int×Bool)):Option ((Int×Int×(List (Int×Bool))) ⊕ ((Int) ⊕ (Bool))):=L4_4c F y60 y61 y63 y64 y62 y65 y66 (fun s=>some (.inl s)) (fun z=>some (.inr (.inl z))) (fun z=>some (.inr (.inr z)))
theorem L4_4n (F:Nat) (y60:List Zb) (y61:Int) (y63:List Ze) (y64:Int) (y62:Int) (y65:Int) (y66:List (Int×Bool)) {β:Type} (kA:(Int×Int×(List (Int×Bool)))->Option β) (kO:Int->Option β) (kR:Bool->Option β):L4_4c F y60 y61 y63 y64 y62 y65 y66 kA kO kR=(L4_4 F y60 y61 y63 y64 y62 y65 y66).bind (elimS kA (elimS kO kR)):=by
 simp only [L4_4,L4_4c,oA,oC,oS,oN,elimS_l,elimS_r,elimS_bind]
def lc4_4 (F:Nat):Lc:=mkR [0,1,7,8,34,35,36] [(.ro (.pr .s (.pr .i (.pr .i .un)))),.i,.i,(.mp 0),(.ro (.sl (.pr .s (.pr .i (.pr .i .un))))),.i,.i] [.mp .i .bo] [0,7] [(.ro (.pr .s (.pr .i (.pr .i .un)))),.i] [] [4] [.bo] [] F (fun x y (s:Int×Int×(List (Int×Bool)))=>L4_4 F x.1 x.2.1 x.2.2.2.2.1 x.2.2.2.2.2.1 s.1 s.2.1 s.2.2) (fun x y=>(x.2.2.1,x.2.2.2.2.2.2.1,y.1)) (fun x y (z:Int)=>((x.1,z,()),())) (fun x y (z:Bool)=>((z,()),()))
theorem lo4_4 (F:Nat):LcOk Tryd.prog (E4 F) 0 (lc4_4 F) (cAt (bodyOf Tryd.f4) [1,0,1,1,1,1,1,1]):=
 mkR_ok (lp:=[([1,1,1,1,1,1,1,0,0,1,1,0,0,1,0,1,1,1,1,1,1],lc4_5 F)]) (id:=0) (b:=cAt (bodyOf Tryd.f4) (0 :: 0 :: [1,0,1,1,1,1,1,1])) cok (cts4 F) mixed ⟨lo4_5 F,trivial⟩ (by kernel_rfl) (by kernel_rfl) (fun x y s=>(x.1,x.2.1,s.1,(),x.2.2.2.2.1,x.2.2.2.2.2.1,s.2.1,())) (fun x y s=>(s.2.2,())) (fun x y=>rfl) (fun x y=>rfl) (fun x y s kA kO kR=>L4_4c F x.1 x.2.1 x.2.2.2.2.1 x.2.2.2.2.2.1 s.1 s.2.1 s.2.2 kA kO kR) (fun x y s kA kO kR=>L4_4n F x.1 x.2.1 x.2.2.2.2.1 x.2.2.2.2.2.1 s.1 s.2.1 s.2.2 kA kO kR) (fun _ _ _=>by kernel_rfl)
def T4c (F:Nat) (p0:List Zb) (p1:Int) {β:Type} (k:Bool->Option β):Option β:=
 (Option.bind (T8 F) fun z58=>(bif (!z58) then (k false) else (bif (decide ((40:Int) < (p0.length:Int))) then (k true) else (Option.bind (T9 F p0 p1) fun z59=>(bif (z59.2 != (0:Int)) then (k true) else (Option.bind (iter (fun s=>L4_4 F p0 p1 z59.1 (z59.1.length:Int) s.1 s.2.1 s.2.2) F ((0:Int),(0:Int),([]:List (Int×Bool)))) fun z114=>elimS (fun z114=>(k (z114 == (p0.length:Int)))) (fun z114=>(k z114)) z114))))))
def T4 (F:Nat) (p0:List Zb) (p1:Int):=T4c F p0 p1 some
abbrev cA4:List Sh:=[(.ro (.pr .s (.pr .i (.pr .i .un)))),.i]
def ct4 (F:Nat):Ct:=mkC 0 cA4 [] [.bo] [] (fun x y=>T4 F x.1 x.2.1) (fun x y (z:Bool)=>((z,()),()))
theorem ok4 (F:Nat):Sound Tryd.prog cfg 4 (ct4 F):=
 mkC_ok (E:=E4 F) (lp:=[([1,0,1,1,1,1,1,1],lc4_4 F)]) (code:=bodyOf Tryd.f4) Tryd.func4 rfl Tryd.ntmps4 rfl rfl cok (cts4 F) mixed ⟨lo4_4 F,trivial⟩ (by kernel_rfl) (fun x y k=>T4c F x.1 x.2.1 k) (fun _ _ _=>by simp only [T4,T4c,oA,oC,oS,oN,elimS_bind]) (fun _ _=>by kernel_rfl)
end Go.Proofs.YtooplgiihmdfgaaDoor
