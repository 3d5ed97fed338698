/- Bridges from a statement to the twins. -/
import Derived.OpenShut
import Derived.WalkKit
import Derived.ProofKit
import Derived.ShutString
import Derived.ChangeOld
import Derived.Lib.LaidTab
import Derived.Test.YtiahcmabcbpcpaaGreatDoorRows
import Derived.Stop.LaidErr
import Derived.Test.YtiahcmabcbpcpaaGreatDoormW
set_option linter.unusedSimpArgs false
set_option linter.unusedVariables false
set_option maxRecDepth 100000
namespace Go.Tw
open Go.RowKit
theorem YV {a:Int} (h:(Lit.int .u8 a).wf=true):∃ x:UInt8,a=(x.toNat:Int):=by
 simp [Lit.wf,IntKind.min,IntKind.max,IntKind.signed,IntKind.bits] at h
 exact ⟨UInt8.ofNat a.toNat,by simp;omega⟩
theorem amE {a:Int} (h:(Lit.int .u32 a).wf=true):∃ x:UInt32,a=(x.toNat:Int):=by
 simp [Lit.wf,IntKind.min,IntKind.max,IntKind.signed,IntKind.bits] at h
 exact ⟨UInt32.ofNat a.toNat,by simp;omega⟩
theorem asb {a:Int} (h:(Lit.int .u64 a).wf=true):∃ x:UInt64,a=(x.toNat:Int):=by
 simp [Lit.wf,IntKind.min,IntKind.max,IntKind.signed,IntKind.bits] at h
 exact ⟨UInt64.ofNat a.toNat,by simp;omega⟩
theorem aap {a:Int} (h:(Lit.int .i64 a).wf=true):-9223372036854775808≤a∧a≤9223372036854775807:=by
 simpa [Lit.wf,IntKind.min,IntKind.max,IntKind.signed,IntKind.bits] using h
end Go.Tw
namespace Go.Tw
open Go.RowKit
def fO (w:World):Own:=fun b=>match w.heap[b]? with
 | some (.cells a _ _)=>.im a.toList
 | _=>.no
theorem Ra {w:World} {b:Nat} {a:Array Value} {ty:TypeId} {fz:Nat×Nat} (h:w.heap[b]? = some (.cells a ty fz)):fO w b=.im a.toList:=by simp [fO,h]
theorem agw (w:World):Gm (fO w) [] [] w:=by
 refine ⟨fun b all h=>?_,fun b h=>?_,rfl,fun id x h=>by simp at h⟩
 ·unfold fO at h
  split at h
  ·rename_i a ty fz hb;cases h;exact ⟨ty,fz,by simpa using hb⟩
  ·cases h
 ·unfold fO
  rw [Array.getElem?_eq_none h]
theorem MQ {α:Type} {R:α->List Value->Prop} {g:α->Value} (h:∀ x,R x [g x]):∀ xs:List α,LR R xs (xs.map g)
 | []=>rfl
 | x :: xs=>⟨[g x],xs.map g,rfl,h x,MQ h xs⟩
theorem VX {P:Program} {w:World} {name:String} {n g:Nat} {xs:Vector UInt8 n} {zs:List Int} (hg:P.globalNamed name=some g) (h:Lib.TabIs P w name .u8 zs) (hz:(zs.map fun z=>Value.int .u8 z)=xs.toList.map di):∃ cs,TR (fO w) (.ar n .u8) xs cs∧fO w g=.im cs:=by
 refine ⟨xs.toList.map di,MQ (R:=TR (fO w) .u8) (g:=di) (fun x=>rfl) xs.toList,?_⟩
 simp only [Lib.TabIs,World.var?,hg,Option.bind_some] at h
 split at h
 ·rename_i c t fz hb
  simp only [az] at h
  subst h
  rw [Ra hb,List.toList_toArray,hz]
 ·cases h
theorem aaO {P:Program} {w:World} {name:String} {n g:Nat} {xs:Vector UInt32 n} {zs:List Int} (hg:P.globalNamed name=some g) (h:Lib.TabIs P w name .u32 zs) (hz:(zs.map fun z=>Value.int .u32 z)=xs.toList.map Bl):∃ cs,TR (fO w) (.ar n .u32) xs cs∧fO w g=.im cs:=by
 refine ⟨xs.toList.map Bl,MQ (R:=TR (fO w) .u32) (g:=Bl) (fun x=>rfl) xs.toList,?_⟩
 simp only [Lib.TabIs,World.var?,hg,Option.bind_some] at h
 split at h
 ·rename_i c t fz hb
  simp only [az] at h
  subst h
  rw [Ra hb,List.toList_toArray,hz]
 ·cases h
theorem alk {P:Program} {c:aF} {f:FuncId} {A:List Sh} {t:au A->ax []->Option Bool} {w:World} {cs:List (List Value)} {args:Array Value} (hS:Sound P c f (cu 0 A [] [.bo] [] t (fun x y z=>((z,()),())))) (x:au A) (ht:t x ()=some true) (hG:GO c (fO w)) (hR:RL (fO w) [] (encs A x) cs) (hv:(aO (encs A x) cs).toArray=args) :
  Calls P f args w (fun e w'=>e=.returned (.bool true)∧Below w.heap.size w w'):=by
 have:=hS x () (true,()) () (by show (t x ()).bind _=_;rw [ht];rfl) (fO w) [] w cs hG (agw w) hR
 have eV:(aO (encs (cu 0 A [] [.bo] [] t (fun x y z=>((z,()),()))).A x) cs).toArray=args:=hv
 rw [eV] at this
 have this:Calls P f args w (eJ _):=this
 refine this.mono fun e w' he=>?_
 cases e with
 | returned v=>
  obtain ⟨O',ρ',ds,h1,h2,h3,rfl⟩:=he
  obtain ⟨c0,r,rfl,⟨h4,_⟩,h5⟩:=h3
  simp only [RL] at h5
  subst h5
  cases h4
  refine ⟨rfl,Kept.below (h2.kept.wide (fun b ⟨id,_,hb⟩=>?_))⟩
  unfold fO at hb
  split at hb<;>cases hb
 | panicked _=>exact he.elim
 | outgrown=>exact he.elim
theorem afR {O:Own} {ρ:List Hd}:RL O ρ [] []:=rfl
theorem apC {O:Own} {ρ:List Hd} {n:Int} {vs:List IV} {cs:List (List Value)} (h:RL O ρ vs cs):RL O ρ (.o (.i n) :: vs) ([vI n] :: cs):=⟨_,_,rfl,⟨rfl,rfl⟩,h⟩
theorem ar2 {O:Own} {ρ:List Hd} {n:UInt8} {vs:List IV} {cs:List (List Value)} (h:RL O ρ vs cs):RL O ρ (.o (.u8 n) :: vs) ([di n] :: cs):=⟨_,_,rfl,⟨rfl,rfl⟩,h⟩
theorem aq1 {O:Own} {ρ:List Hd} {t:Ty} {xs:List t.den} {v:Value} {vs:List IV} {cs:List (List Value)} (hx:TR O (.sl t) xs [v]) (h:RL O ρ vs cs):RL O ρ (.ro t xs :: vs) ([v] :: cs):=⟨_,_,rfl,hx,h⟩
open Go.ChangeShapes
theorem aic {a:ByteArray} (h:a.size≤maxLen):∃ l:List UInt8,a=⟨l.toArray⟩∧l.length≤maxLen:=⟨a.data.toList,by cases a;simp,h⟩
end Go.Tw
namespace Go.Proofs.YtiahcmabcbpcpaaGreatDoor
open Go.Tw
def xM:List (String×DataW Unit):=Rows.topTransfersRow.laid
theorem Ye:Tryz.prog.globalNamed "kinkeep/sha256.initial" = some 0:=by kernel_rfl
theorem afs {W:World} (h:laidMet Tryz.prog xM W):Lib.TabIs Tryz.prog W "kinkeep/sha256.initial" .u32 [1779033703,3144134277,1013904242,2773480762,1359893119,2600822924,528734635,1541459225]:=
 Lib.tabIs_of_head (g:=0) (t:=257) (e:=256) (n:=8) Ye (by kernel_rfl) Tryz.underlying257 Tryz.underlying256 (by kernel_rfl) (by kernel_rfl) (laidMet.tail h)
theorem VY:Tryz.prog.globalNamed "kinkeep/sha256.constants" = some 1:=by kernel_rfl
theorem aiq {W:World} (h:laidMet Tryz.prog xM W):Lib.TabIs Tryz.prog W "kinkeep/sha256.constants" .u32 [1116352408,1899447441,3049323471,3921009573,961987163,1508970993,2453635748,2870763221,3624381080,310598401,607225278,1426881987,1925078388,2162078206,2614888103,3248222580,3835390401,4022224774,264347078,604807628,770255983,1249150122,1555081692,1996064986,2554220882,2821834349,2952996808,3210313671,3336571891,3584528711,113926993,338241895,666307205,773529912,1294757372,1396182291,1695183700,1986661051,2177026350,2456956037,2730485921,2820302411,3259730800,3345764771,3516065817,3600352804,4094571909,275423344,430227734,506948616,659060556,883997877,958139571,1322822218,1537002063,1747873779,1955562222,2024104815,2227730452,2361852424,2428436474,2756734187,3204031479,3329325298]:=
 Lib.tabIs_of_head (g:=1) (t:=312) (e:=256) (n:=64) VY (by kernel_rfl) Tryz.underlying312 Tryz.underlying256 (by kernel_rfl) (by kernel_rfl) (laidMet.tail (laidMet.tail h))
theorem gn2:Tryz.prog.globalNamed "kinkeep/hmac.pads" = some 2:=by kernel_rfl
theorem aoG {W:World} (h:laidMet Tryz.prog xM W):Lib.TabIs Tryz.prog W "kinkeep/hmac.pads" .u8 [54,92]:=
 Lib.tabIs_of_head (g:=2) (t:=315) (e:=5) (n:=2) gn2 (by kernel_rfl) Tryz.underlying315 Tryz.underlying5 (by kernel_rfl) (by kernel_rfl) (laidMet.tail (laidMet.tail (laidMet.tail h)))
theorem Wr:Tryz.prog.globalNamed "math/bits.deBruijn64tab" = some 6:=by kernel_rfl
theorem anW {W:World} (h:laidMet Tryz.prog xM W):Lib.TabIs Tryz.prog W "math/bits.deBruijn64tab" .u8 [0,1,56,2,57,49,28,3,61,58,42,50,38,29,17,4,62,47,59,36,45,43,51,22,53,39,33,30,24,18,12,5,63,55,48,27,60,41,37,16,46,35,44,21,52,32,23,11,54,26,40,15,34,20,31,10,25,14,19,9,13,8,7,6]:=
 Lib.tabIs_of_head (g:=6) (t:=258) (e:=5) (n:=64) Wr (by kernel_rfl) Tryz.underlying258 Tryz.underlying5 (by kernel_rfl) (by kernel_rfl) h
theorem go {W:World} (h:laidMet Tryz.prog xM W):GO cfg (fO W):=by
 refine ⟨?_,fun g hg=>by cases hg⟩
 intro g p hp
 have hp:cG g=some p:=hp
 unfold cG at hp
 split at hp<;>first | (cases hp;done) | skip
 ·cases hp;exact aaO Ye (afs h) (by kernel_rfl)
 ·cases hp;exact aaO VY (aiq h) (by kernel_rfl)
 ·cases hp;exact VX gn2 (aoG h) (by kernel_rfl)
 ·cases hp;exact VX Wr (anW h) (by kernel_rfl)
noncomputable def OM (os:Os):World:=
 { World.holding Tryz.prog os ⟨#[],#[],[]⟩ with heap:=(((((((World.holding Tryz.prog os ⟨#[],#[],[]⟩).heap.modify 0 fun
   | .cells _ t frozen=>.cells #[.int .u32 1779033703,.int .u32 3144134277,.int .u32 1013904242,.int .u32 2773480762,.int .u32 1359893119,.int .u32 2600822924,.int .u32 528734635,.int .u32 1541459225] t frozen
   | o=>o).modify 1 fun
   | .cells _ t frozen=>.cells #[.int .u32 1116352408,.int .u32 1899447441,.int .u32 3049323471,.int .u32 3921009573,.int .u32 961987163,.int .u32 1508970993,.int .u32 2453635748,.int .u32 2870763221,.int .u32 3624381080,.int .u32 310598401,.int .u32 607225278,.int .u32 1426881987,.int .u32 1925078388,.int .u32 2162078206,.int .u32 2614888103,.int .u32 3248222580,.int .u32 3835390401,.int .u32 4022224774,.int .u32 264347078,.int .u32 604807628,.int .u32 770255983,.int .u32 1249150122,.int .u32 1555081692,.int .u32 1996064986,.int .u32 2554220882,.int .u32 2821834349,.int .u32 2952996808,.int .u32 3210313671,.int .u32 3336571891,.int .u32 3584528711,.int .u32 113926993,.int .u32 338241895,.int .u32 666307205,.int .u32 773529912,.int .u32 1294757372,.int .u32 1396182291,.int .u32 1695183700,.int .u32 1986661051,.int .u32 2177026350,.int .u32 2456956037,.int .u32 2730485921,.int .u32 2820302411,.int .u32 3259730800,.int .u32 3345764771,.int .u32 3516065817,.int .u32 3600352804,.int .u32 4094571909,.int .u32 275423344,.int .u32 430227734,.int .u32 506948616,.int .u32 659060556,.int .u32 883997877,.int .u32 958139571,.int .u32 1322822218,.int .u32 1537002063,.int .u32 1747873779,.int .u32 1955562222,.int .u32 2024104815,.int .u32 2227730452,.int .u32 2361852424,.int .u32 2428436474,.int .u32 2756734187,.int .u32 3204031479,.int .u32 3329325298] t frozen
   | o=>o).modify 2 fun
   | .cells _ t frozen=>.cells #[.int .u8 54,.int .u8 92] t frozen
   | o=>o).modify 4 fun
   | .cells _ t frozen=>.cells #[.int .u8 240,.int .u8 240,.int .u8 240,.int .u8 240,.int .u8 240,.int .u8 240,.int .u8 240,.int .u8 240,.int .u8 240,.int .u8 240,.int .u8 240,.int .u8 240,.int .u8 240,.int .u8 240,.int .u8 240,.int .u8 240,.int .u8 240,.int .u8 240,.int .u8 240,.int .u8 240,.int .u8 240,.int .u8 240,.int .u8 240,.int .u8 240,.int .u8 240,.int .u8 240,.int .u8 240,.int .u8 240,.int .u8 240,.int .u8 240,.int .u8 240,.int .u8 240,.int .u8 240,.int .u8 240,.int .u8 240,.int .u8 240,.int .u8 240,.int .u8 240,.int .u8 240,.int .u8 240,.int .u8 240,.int .u8 240,.int .u8 240,.int .u8 240,.int .u8 240,.int .u8 240,.int .u8 240,.int .u8 240,.int .u8 240,.int .u8 240,.int .u8 240,.int .u8 240,.int .u8 240,.int .u8 240,.int .u8 240,.int .u8 240,.int .u8 240,.int .u8 240,.int .u8 240,.int .u8 240,.int .u8 240,.int .u8 240,.int .u8 240,.int .u8 240,.int .u8 240,.int .u8 240,.int .u8 240,.int .u8 240,.int .u8 240,.int .u8 240,.int .u8 240,.int .u8 240,.int .u8 240,.int .u8 240,.int .u8 240,.int .u8 240,.int .u8 240,.int .u8 240,.int .u8 240,.int .u8 240,.int .u8 240,.int .u8 240,.int .u8 240,.int .u8 240,.int .u8 240,.int .u8 240,.int .u8 240,.int .u8 240,.int .u8 240,.int .u8 240,.int .u8 240,.int .u8 240,.int .u8 240,.int .u8 240,.int .u8 240,.int .u8 240,.int .u8 240,.int .u8 240,.int .u8 240,.int .u8 240,.int .u8 240,.int .u8 240,.int .u8 240,.int .u8 240,.int .u8 240,.int .u8 240,.int .u8 240,.int .u8 240,.int .u8 240,.int .u8 240,.int .u8 240,.int .u8 240,.int .u8 240,.int .u8 240,.int .u8 240,.int .u8 240,.int .u8 240,.int .u8 240,.int .u8 240,.int .u8 240,.int .u8 240,.int .u8 240,.int .u8 240,.int .u8 240,.int .u8 240,.int .u8 240,.int .u8 240,.int .u8 240,.int .u8 241,.int .u8 241,.int .u8 241,.int .u8 241,.int .u8 241,.int .u8 241,.int .u8 241,.int .u8 241,.int .u8 241,.int .u8 241,.int .u8 241,.int .u8 241,.int .u8 241,.int .u8 241,.int .u8 241,.int .u8 241,.int .u8 241,.int .u8 241,.int .u8 241,.int .u8 241,.int .u8 241,.int .u8 241,.int .u8 241,.int .u8 241,.int .u8 241,.int .u8 241,.int .u8 241,.int .u8 241,.int .u8 241,.int .u8 241,.int .u8 241,.int .u8 241,.int .u8 241,.int .u8 241,.int .u8 241,.int .u8 241,.int .u8 241,.int .u8 241,.int .u8 241,.int .u8 241,.int .u8 241,.int .u8 241,.int .u8 241,.int .u8 241,.int .u8 241,.int .u8 241,.int .u8 241,.int .u8 241,.int .u8 241,.int .u8 241,.int .u8 241,.int .u8 241,.int .u8 241,.int .u8 241,.int .u8 241,.int .u8 241,.int .u8 241,.int .u8 241,.int .u8 241,.int .u8 241,.int .u8 241,.int .u8 241,.int .u8 241,.int .u8 241,.int .u8 241,.int .u8 241,.int .u8 2,.int .u8 2,.int .u8 2,.int .u8 2,.int .u8 2,.int .u8 2,.int .u8 2,.int .u8 2,.int .u8 2,.int .u8 2,.int .u8 2,.int .u8 2,.int .u8 2,.int .u8 2,.int .u8 2,.int .u8 2,.int .u8 2,.int .u8 2,.int .u8 2,.int .u8 2,.int .u8 2,.int .u8 2,.int .u8 2,.int .u8 2,.int .u8 2,.int .u8 2,.int .u8 2,.int .u8 2,.int .u8 2,.int .u8 2,.int .u8 19,.int .u8 3,.int .u8 3,.int .u8 3,.int .u8 3,.int .u8 3,.int .u8 3,.int .u8 3,.int .u8 3,.int .u8 3,.int .u8 3,.int .u8 3,.int .u8 3,.int .u8 35,.int .u8 3,.int .u8 3,.int .u8 52,.int .u8 4,.int .u8 4,.int .u8 4,.int .u8 68,.int .u8 241,.int .u8 241,.int .u8 241,.int .u8 241,.int .u8 241,.int .u8 241,.int .u8 241,.int .u8 241,.int .u8 241,.int .u8 241,.int .u8 241] t frozen
   | o=>o).modify 5 fun
   | .cells _ t frozen=>.cells #[.int .u8 128,.int .u8 191,.int .u8 160,.int .u8 191,.int .u8 128,.int .u8 159,.int .u8 144,.int .u8 191,.int .u8 128,.int .u8 143,.int .u8 0,.int .u8 0,.int .u8 0,.int .u8 0,.int .u8 0,.int .u8 0,.int .u8 0,.int .u8 0,.int .u8 0,.int .u8 0,.int .u8 0,.int .u8 0,.int .u8 0,.int .u8 0,.int .u8 0,.int .u8 0,.int .u8 0,.int .u8 0,.int .u8 0,.int .u8 0,.int .u8 0,.int .u8 0] t frozen
   | o=>o).modify 6 fun
   | .cells _ t frozen=>.cells #[.int .u8 0,.int .u8 1,.int .u8 56,.int .u8 2,.int .u8 57,.int .u8 49,.int .u8 28,.int .u8 3,.int .u8 61,.int .u8 58,.int .u8 42,.int .u8 50,.int .u8 38,.int .u8 29,.int .u8 17,.int .u8 4,.int .u8 62,.int .u8 47,.int .u8 59,.int .u8 36,.int .u8 45,.int .u8 43,.int .u8 51,.int .u8 22,.int .u8 53,.int .u8 39,.int .u8 33,.int .u8 30,.int .u8 24,.int .u8 18,.int .u8 12,.int .u8 5,.int .u8 63,.int .u8 55,.int .u8 48,.int .u8 27,.int .u8 60,.int .u8 41,.int .u8 37,.int .u8 16,.int .u8 46,.int .u8 35,.int .u8 44,.int .u8 21,.int .u8 52,.int .u8 32,.int .u8 23,.int .u8 11,.int .u8 54,.int .u8 26,.int .u8 40,.int .u8 15,.int .u8 34,.int .u8 20,.int .u8 31,.int .u8 10,.int .u8 25,.int .u8 14,.int .u8 19,.int .u8 9,.int .u8 13,.int .u8 8,.int .u8 7,.int .u8 6] t frozen
   | o=>o) }
end Go.Proofs.YtiahcmabcbpcpaaGreatDoor
namespace Go.Tw
open Go.RowKit Go.ChangeShapes Go.WideShapes
def wM (P:Program) (pM:TypeId->Ty->Bool):List Field->Nat->Ty->Bool
 | [],_,.un=>true
 | f :: fs,o,.pr a b=>Nat.beq f.offset o && Nat.beq (P.cellsOf f.type) a.size && pM f.type a && wM P pM fs (o + a.size) b
 | _,_,_=>false
def CP (P:Program):Nat->TypeId->Ty->Bool
 | 0,_,_=>false
 | n + 1,t,y=>match P.underlying t with
  | some .bool=>match y with
   | .bo=>true
   | _=>false
  | some (.int .i64)=>match y with
   | .i=>true
   | _=>false
  | some (.int .u8)=>match y with
   | .u8=>true
   | _=>false
  | some (.int .u32)=>match y with
   | .u32=>true
   | _=>false
  | some (.int .u64)=>match y with
   | .u64=>true
   | _=>false
  | some .string=>match y with
   | .s=>true
   | _=>false
  | some (.slice e)=>match y with
   | .sl z=>Nat.beq (P.cellsOf e) z.size && Nat.blt 0 z.size && CP P n e z
   | _=>false
  | some (.struct fs)=>Nat.beq (P.cellsOf t) y.size && wM P (CP P n) fs.toList 0 y
  | _=>false
def pY:(t:Ty)->t.den->Prop
 | .i,x=>-9223372036854775808≤x∧x≤9223372036854775807
 | .s,x=>x.length≤maxLen
 | .sl t,xs=>xs.length≤maxLen∧∀ x ∈ xs,pY t x
 | .sn _,_=>True
 | .pr a b,x=>pY a x.1∧pY b x.2
 | .u8,_=>True
 | .u32,_=>True
 | .u64,_=>True
 | .bo,_=>True
 | .un,_=>True
 | .ar _ _,_=>True
section
variable {H:Type} {enc:TypeId×Value->H} {P:Program} {w:World} {base:Nat} {sp:Nat->Bool} {held:Bool}
theorem ZL {pM:TypeId->Ty->Bool} {m:Nat} (ih:∀ (t:TypeId) (y:Ty) (cs:List Value) x,pM t y=true->DataW.trod enc P w base sp held m t cs=some x->∃ v:y.den,TR (fO w) y v cs∧pY y v) :
  ∀ (fs:List Field) (o:Nat) (y:Ty) (cs:List Value),wM P pM fs o y=true->cs.length=o + y.size->(∀ f ∈ fs,∃ x,DataW.trod enc P w base sp held m f.type ((cs.drop f.offset).take (P.cellsOf f.type))=some x)->∃ v:y.den,TR (fO w) y v (cs.drop o)∧pY y v
 | [],o,y,cs,h,hl,_=>by
  cases y<;>first | (simp [wM] at h;done) | skip
  refine ⟨(),?_,trivial⟩
  simp only [TR]
  exact List.drop_eq_nil_of_le (by simp only [Ty.size] at hl;omega)
 | f :: fs,o,y,cs,h,hl,hx=>by
  cases y<;>first | (simp [wM] at h;done) | skip
  rename_i a b
  simp only [wM,Bool.and_eq_true] at h
  obtain ⟨⟨⟨h1,h2⟩,h3⟩,h4⟩:=h
  have h1:=ay h1
  have h2:=ay h2
  obtain ⟨x,hx0⟩:=hx f (List.mem_cons_self ..)
  rw [h1,h2] at hx0
  obtain ⟨va,ha,wa⟩:=ih _ _ _ _ h3 hx0
  obtain ⟨vb,hb,wb⟩:=ZL ih fs (o + a.size) b cs h4 (by simp only [Ty.size] at hl;omega) (fun f hf=>hx f (List.mem_cons_of_mem _ hf))
  refine ⟨(va,vb),⟨_,_,?_,ha,hb⟩,wa,wb⟩
  rw [← List.drop_drop,List.take_append_drop]
theorem M5:∀ (n fuel:Nat) (t:TypeId) (y:Ty) (cs:List Value) (x:DataW H×List MemPlace),CP P n t y=true->DataW.trod enc P w base sp held fuel t cs=some x->∃ v:y.den,TR (fO w) y v cs∧pY y v
 | 0,fuel,t,y,cs,x,h,hx=>by simp [CP] at h
 | n + 1,fuel,t,y,cs,x,h,hx=>by
  unfold CP at h
  split at h
  ·rename_i hu
   cases y<;>first | (cases h;done) | skip
   obtain ⟨b,rfl,_⟩:=DataW.trod_bool hu hx
   exact ⟨b,rfl,trivial⟩
  ·rename_i hu
   cases y<;>first | (cases h;done) | skip
   obtain ⟨z,rfl,_,hwf⟩:=DataW.trod_int hu hx
   exact ⟨z,rfl,aap hwf⟩
  ·rename_i hu
   cases y<;>first | (cases h;done) | skip
   obtain ⟨z,rfl,_,hwf⟩:=DataW.trod_int hu hx
   obtain ⟨a,rfl⟩:=YV hwf
   exact ⟨a,rfl,trivial⟩
  ·rename_i hu
   cases y<;>first | (cases h;done) | skip
   obtain ⟨z,rfl,_,hwf⟩:=DataW.trod_int hu hx
   obtain ⟨a,rfl⟩:=amE hwf
   exact ⟨a,rfl,trivial⟩
  ·rename_i hu
   cases y<;>first | (cases h;done) | skip
   obtain ⟨z,rfl,_,hwf⟩:=DataW.trod_int hu hx
   obtain ⟨a,rfl⟩:=asb hwf
   exact ⟨a,rfl,trivial⟩
  ·rename_i hu
   cases y<;>first | (cases h;done) | skip
   obtain ⟨z,rfl,_,hs⟩:=DataW.trod_string hu hx
   obtain ⟨l,rfl,hl⟩:=aic hs
   exact ⟨l,rfl,hl⟩
  ·rename_i e hu
   cases y<;>first | (cases h;done) | skip
   rename_i z
   simp only [Bool.and_eq_true] at h
   obtain ⟨⟨h1,h2⟩,h3⟩:=h
   have h1:=ay h1
   have h2:0 < z.size:=by simpa [Nat.blt_eq] using h2
   rcases DataW.trod_slice hu hx with ⟨rfl,_⟩ | ⟨a,len,cap,elems,rest,m,rfl,rfl,_,hb,hl,hm,hlen,hel,_,_⟩
   ·exact ⟨[],⟨_,[],rfl,rfl,.inl ⟨rfl,_,_,rfl⟩⟩,Nat.zero_le _,fun x hx=>by cases hx⟩
   rw [h1] at hel
   by_cases h0:len=0
   ·subst h0
    exact ⟨[],⟨_,[],rfl,rfl,.inl ⟨rfl,_,_,rfl⟩⟩,Nat.zero_le _,fun x hx=>by cases hx⟩
   have each:∀ i,i < len->∃ (cs:List Value) (v:z.den),cs.length=z.size∧(∀ j,j < z.size->w.cell? ((a.add (i * z.size)).add j)=cs[j]?)∧TR (fO w) z v cs∧pY z v:=by
    intro i hi
    have h:=hel i hi
    have hi':i < elems.length:=by omega
    rw [List.getElem?_eq_getElem hi',Option.bind_eq_some_iff] at h
    obtain ⟨cs,g1,g2⟩:=h
    obtain ⟨_,g3,g4⟩:=World.cells?_some g1
    obtain ⟨v,g5,g6⟩:=M5 n m e z cs _ h3 g2
    exact ⟨cs,v,g3,g4,g5,g6⟩
   obtain ⟨b,off,al⟩:=a
   have dY:al=none∧∃ all ty fz,w.heap[b]? = some (.cells all ty fz):=by
    obtain ⟨cs,v,g1,g2,_⟩:=each 0 (by omega)
    have g3:=g2 0 h2
    have g4:((⟨b,off,al⟩:Addr).add (0 * z.size)).add 0=⟨b,off,al⟩:=by simp [Addr.add]
    rw [g4] at g3
    have g5:cs[0]? = some cs[0]:=List.getElem?_eq_getElem (by omega)
    rw [g5] at g3
    unfold World.cell? at g3
    split at g3
    ·rename_i all ty fz hb'
     split at g3
     ·cases g3
     ·rename_i hsp
      exact ⟨by simpa using hsp,all,ty,fz,hb'⟩
    ·cases g3
   obtain ⟨rfl,all,ty,fz,dY⟩:=dY
   have grow:∀ k,k≤len->∃ (xs:List z.den) (es:List Value),xs.length=k∧es.length=k * z.size∧LR (TR (fO w) z) xs es∧(∀ x ∈ xs,pY z x)∧∀ j c,es[j]? = some c->all.toList[off + j]? = some c:=by
    intro k
    induction k with
    | zero=>intro _;exact ⟨[],[],rfl,by simp,rfl,fun x hx=>by (cases hx),fun j c hj=>by simp at hj⟩
    | succ k ihk=>
     intro hk
     obtain ⟨xs,es,g1,g2,g3,g4,g5⟩:=ihk (by omega)
     obtain ⟨cs,v,f1,f2,f3,f4⟩:=each k (by omega)
     refine ⟨xs ++ [v],es ++ cs,by simp [g1],by rw [List.length_append,g2,f1,Nat.add_mul];omega,g3.append (LR.single f3),fun x hx=>?_,fun j c hj=>?_⟩
     ·rcases List.mem_append.1 hx with hx | hx
      ·exact g4 x hx
      ·rw [List.mem_singleton.1 hx];exact f4
     ·rw [List.getElem?_append] at hj
      split at hj
      ·exact g5 j c hj
      ·have hj2:j - es.length < z.size:=by
        have:=(aM hj).1
        omega
       have f5:=f2 _ hj2
       rw [add_plain,add_plain] at f5
       simp only [World.cell?,dY,Option.isSome_none,Bool.false_eq_true,if_false] at f5
       rw [hj] at f5
       have e1:off + k * z.size + (j - es.length)=off + j:=by omega
       rw [e1] at f5
       simpa using f5
   obtain ⟨xs,es,g1,g2,g3,g4,g5⟩:=grow len (Nat.le_refl _)
   refine ⟨xs,⟨_,es,rfl,g3,.inr ⟨b,off,cap,by rw [g1],by omega,all.toList,Ra dY,g5⟩⟩,by omega,g4⟩
  ·rename_i fs hu
   simp only [Bool.and_eq_true] at h
   obtain ⟨xs,m,rfl,_,hl,hlen,hx⟩:=DataW.trod_struct hu hx
   obtain ⟨v,h1,h2⟩:=ZL (fun t y cs x hc hx=>M5 n m t y cs x hc hx) fs.toList 0 y cs h.2 (by rw [hl,ay h.1];omega) (fun f hf=>by
    obtain ⟨i,hi,rfl⟩:=List.mem_iff_getElem.1 hf
    have hi':i < fs.size:=by simpa using hi
    have:=hx i fs[i] (by simp [hi'])
    refine ⟨xs[i]'(by omega),?_⟩
    simp only [Array.getElem_toList]
    rw [this];simp [show i < xs.length by omega])
   exact ⟨v,by simpa using h1,h2⟩
  ·cases h
end
end Go.Tw
