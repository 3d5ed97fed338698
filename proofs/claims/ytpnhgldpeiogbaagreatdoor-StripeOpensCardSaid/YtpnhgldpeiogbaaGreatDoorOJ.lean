/- Bridges from a statement to the twins. -/
import Derived.OpenShut
import Derived.WalkKit
import Derived.ProofKit
import Derived.ShutString
import Derived.ChangeOld
import Derived.Lib.LaidTab
import Derived.Test.YtpnhgldpeiogbaaGreatDoorRows
import Derived.Stop.LaidErr
import Derived.Test.YtpnhgldpeiogbaaGreatDoorOW
namespace Go.Tw
open Go.RowKit
set_option linter.unusedSimpArgs false
set_option linter.unusedVariables false
theorem of_u8 {a:Int} (h:(Lit.int .u8 a).wf=true):∃ x:UInt8,a=(x.toNat:Int):=by
 simp [Lit.wf,IntKind.min,IntKind.max,IntKind.signed,IntKind.bits] at h
 exact ⟨UInt8.ofNat a.toNat,by simp;omega⟩
theorem of_u32 {a:Int} (h:(Lit.int .u32 a).wf=true):∃ x:UInt32,a=(x.toNat:Int):=by
 simp [Lit.wf,IntKind.min,IntKind.max,IntKind.signed,IntKind.bits] at h
 exact ⟨UInt32.ofNat a.toNat,by simp;omega⟩
theorem of_u64 {a:Int} (h:(Lit.int .u64 a).wf=true):∃ x:UInt64,a=(x.toNat:Int):=by
 simp [Lit.wf,IntKind.min,IntKind.max,IntKind.signed,IntKind.bits] at h
 exact ⟨UInt64.ofNat a.toNat,by simp;omega⟩
theorem of_i64 {a:Int} (h:(Lit.int .i64 a).wf=true):-9223372036854775808≤a∧a≤9223372036854775807:=by
 simpa [Lit.wf,IntKind.min,IntKind.max,IntKind.signed,IntKind.bits] using h
end Go.Tw
namespace Go.Tw
open Go.RowKit
set_option linter.unusedSimpArgs false
set_option linter.unusedVariables false
def ownAll (w:World):Own:=fun b=>match w.heap[b]? with
 | some (.cells a _ _)=>.im a.toList
 | _=>.no
theorem ownAll_of {w:World} {b:Nat} {a:Array Value} {ty:TypeId} {fz:Nat×Nat} (h:w.heap[b]? = some (.cells a ty fz)):ownAll w b=.im a.toList:=by simp [ownAll,h]
theorem gm_start (w:World):Gm (ownAll w) [] [] w:=by
 refine ⟨fun b all h=>?_,fun b h=>?_,rfl,fun id x h=>by simp at h⟩
 ·unfold ownAll at h
  split at h
  ·rename_i a ty fz hb;cases h;exact ⟨ty,fz,by simpa using hb⟩
  ·cases h
 ·unfold ownAll
  rw [Array.getElem?_eq_none h]
theorem LR_map {α:Type} {R:α->List Value->Prop} {g:α->Value} (h:∀ x,R x [g x]):∀ xs:List α,LR R xs (xs.map g)
 | []=>rfl
 | x :: xs=>⟨[g x],xs.map g,rfl,h x,LR_map h xs⟩
theorem go_u8 {P:Program} {w:World} {name:String} {n g:Nat} {xs:Vector UInt8 n} {zs:List Int} (hg:P.globalNamed name=some g) (h:Lib.TabIs P w name .u8 zs) (hz:(zs.map fun z=>Value.int .u8 z)=xs.toList.map vU8):∃ cs,TR (ownAll w) (.ar n .u8) xs cs∧ownAll w g=.im cs:=by
 refine ⟨xs.toList.map vU8,LR_map (R:=TR (ownAll w) .u8) (g:=vU8) (fun x=>rfl) xs.toList,?_⟩
 simp only [Lib.TabIs,World.var?,hg,Option.bind_some] at h
 split at h
 ·rename_i c t fz hb
  simp only [Option.some.injEq] at h
  subst h
  rw [ownAll_of hb,List.toList_toArray,hz]
 ·cases h
theorem go_u32 {P:Program} {w:World} {name:String} {n g:Nat} {xs:Vector UInt32 n} {zs:List Int} (hg:P.globalNamed name=some g) (h:Lib.TabIs P w name .u32 zs) (hz:(zs.map fun z=>Value.int .u32 z)=xs.toList.map vU32):∃ cs,TR (ownAll w) (.ar n .u32) xs cs∧ownAll w g=.im cs:=by
 refine ⟨xs.toList.map vU32,LR_map (R:=TR (ownAll w) .u32) (g:=vU32) (fun x=>rfl) xs.toList,?_⟩
 simp only [Lib.TabIs,World.var?,hg,Option.bind_some] at h
 split at h
 ·rename_i c t fz hb
  simp only [Option.some.injEq] at h
  subst h
  rw [ownAll_of hb,List.toList_toArray,hz]
 ·cases h
theorem law_ok {P:Program} {c:Cfg} {f:FuncId} {A:List Sh} {t:dens A->tdens []->Option Bool} {w:World} {cs:List (List Value)} {args:Array Value} (hS:Sound P c f (mkC 0 A [] [.bo] [] t (fun x y z=>((z,()),())))) (x:dens A) (ht:t x ()=some true) (hG:GO c (ownAll w)) (hR:RL (ownAll w) [] (encs A x) cs) (hv:(vals (encs A x) cs).toArray=args) :
  Calls P f args w (fun e w'=>e=.returned (.bool true)∧Below w.heap.size w w'):=by
 have:=hS x () (true,()) () (by show (t x ()).bind _=_;rw [ht];rfl) (ownAll w) [] w cs hG (gm_start w) hR
 have hv':(vals (encs (mkC 0 A [] [.bo] [] t (fun x y z=>((z,()),()))).A x) cs).toArray=args:=hv
 rw [hv'] at this
 have this:Calls P f args w (Ret _):=this
 refine this.mono fun e w' he=>?_
 cases e with
 | returned v=>
  obtain ⟨O',ρ',ds,h1,h2,h3,rfl⟩:=he
  obtain ⟨c0,r,rfl,⟨h4,_⟩,h5⟩:=h3
  simp only [RL] at h5
  subst h5
  cases h4
  refine ⟨rfl,Kept.below (h2.kept.wide (fun b ⟨id,_,hb⟩=>?_))⟩
  unfold ownAll at hb
  split at hb<;>cases hb
 | panicked _=>exact he.elim
 | outgrown=>exact he.elim
theorem RL_nil {O:Own} {ρ:List Hd}:RL O ρ [] []:=rfl
theorem RL_i {O:Own} {ρ:List Hd} {n:Int} {vs:List IV} {cs:List (List Value)} (h:RL O ρ vs cs):RL O ρ (.o (.i n) :: vs) ([vI n] :: cs):=⟨_,_,rfl,⟨rfl,rfl⟩,h⟩
theorem RL_ro {O:Own} {ρ:List Hd} {t:Ty} {xs:List t.den} {v:Value} {vs:List IV} {cs:List (List Value)} (hx:TR O (.sl t) xs [v]) (h:RL O ρ vs cs):RL O ρ (.ro t xs :: vs) ([v] :: cs):=⟨_,_,rfl,hx,h⟩
open Go.ChangeShapes
theorem of_str3 {a:ByteArray} (h:a.size≤maxLen):∃ l:List UInt8,a=⟨l.toArray⟩∧l.length≤maxLen:=⟨a.data.toList,by cases a;simp,h⟩
def stD:List Bool->Type
 | []=>Unit
 | true :: r=>Int×stD r
 | false :: r=>List UInt8×stD r
def stV:(ks:List Bool)->stD ks->List Value
 | [],_=>[]
 | true :: r,x=>vI x.1 :: stV r x.2
 | false :: r,x=>vS x.1 :: stV r x.2
def stW:(ks:List Bool)->stD ks->Prop
 | [],_=>True
 | true :: r,x=>(-9223372036854775808≤x.1∧x.1≤9223372036854775807)∧stW r x.2
 | false :: r,x=>x.1.length≤maxLen∧stW r x.2
def stK (P:Program):List Field->Nat->List Bool->Bool
 | [],_,[]=>true
 | f :: fs,n,k :: ks=>f.offset == n && P.cellsOf f.type == 1 && (match P.underlying f.type,k with
  | some (.int .i64),true=>true
  | some .string,false=>true
  | _,_=>false) && stK P fs (n + 1) ks
 | _,_,_=>false
def stChk (P:Program) (t:TypeId) (fs:Array Field) (ks:List Bool):Bool:=P.cellsOf t == ks.length && stK P fs.toList 0 ks
theorem st_cells {H:Type} {enc:TypeId×Value->H} {P:Program} {w:World} {base m:Nat} {sp:Nat->Bool} {held:Bool}:∀ (fs:List Field) (ks:List Bool) (n:Nat) (cs:List Value),stK P fs n ks=true->cs.length=n + ks.length ->
  (∀ f ∈ fs,∃ x,DataW.trod enc P w base sp held m f.type ((cs.drop f.offset).take (P.cellsOf f.type))=some x)->∃ y:stD ks,cs.drop n=stV ks y∧stW ks y
 | [],[],n,cs,_,hl,_=>⟨(),by simp [stV,hl],trivial⟩
 | [],_ :: _,n,cs,h,_,_=>by simp [stK] at h
 | _ :: _,[],n,cs,h,_,_=>by simp [stK] at h
 | f :: fs,k :: ks,n,cs,h,hl,hx=>by
  simp only [stK,Bool.and_eq_true,beq_iff_eq] at h
  obtain ⟨⟨⟨h1,h2⟩,h3⟩,h4⟩:=h
  obtain ⟨y,hy,hw⟩:=st_cells fs ks (n + 1) cs h4 (by simp at hl;omega) (fun f hf=>hx f (List.mem_cons_of_mem _ hf))
  obtain ⟨x,hx⟩:=hx f (List.mem_cons_self ..)
  rw [h1,h2] at hx
  have hlt:n < cs.length:=by simp at hl;omega
  have hd:cs.drop n=cs[n] :: cs.drop (n + 1):=List.drop_eq_getElem_cons hlt
  rw [hd,List.take_succ_cons,List.take_zero] at hx
  split at h3<;>first | (cases h3;done) | skip
  ·rename_i hu
   obtain ⟨z,hz,_,hwf⟩:=DataW.trod_int hu hx
   simp only [List.cons.injEq,and_true] at hz
   refine ⟨(z,y),?_,of_i64 hwf,hw⟩
   rw [hd,hy,hz];rfl
  ·rename_i hu
   obtain ⟨z,hz,_,hs⟩:=DataW.trod_string hu hx
   simp only [List.cons.injEq,and_true] at hz
   obtain ⟨l,rfl,hl2⟩:=of_str3 hs
   refine ⟨(l,y),?_,hl2,hw⟩
   rw [hd,hy,hz];rfl
theorem open_st3 {H:Type} {enc:TypeId×Value->H} {P:Program} {w:World} {base b0:Nat} {r:Reach} {sp:Nat->Bool} {held:Bool} {t:TypeId} {fs:Array Field} {v:Value} {d:DataW H} {ps:List MemPlace} (ht:P.underlying t=some (.struct fs)) (ks:List Bool) (hk:stChk P t fs ks=true) (hval:Value.okWide P w r b0 t v) (h:DataW.Trod enc P w base sp held t v d ps) :
  ∃ y:stD ks,v=.agg (stV ks y).toArray∧stW ks y:=by
 simp only [stChk,Bool.and_eq_true,beq_iff_eq] at hk
 obtain ⟨cs,rfl,hsz⟩:=WideShapes.okWide_struct ht hval
 obtain ⟨fuel,hf⟩:=h
 obtain ⟨xs,n,_,_,hl,hlen,hx⟩:=DataW.trod_struct ht hf
 simp only [Value.cells] at hx hl
 obtain ⟨y,h1,h2⟩:=st_cells (enc:=enc) (w:=w) (base:=base) (sp:=sp) (held:=held) (m:=n) fs.toList ks 0 cs.toList hk.2 (by simp [hsz,hk.1]) (fun f hf=>by
  obtain ⟨i,hi,rfl⟩:=List.mem_iff_getElem.1 hf
  have hi':i < fs.size:=by simpa using hi
  have:=hx i fs[i] (by simp [hi'])
  refine ⟨xs[i]'(by omega),?_⟩
  simp only [Array.getElem_toList]
  rw [this];simp)
 refine ⟨y,?_,h2⟩
 rw [← h1];simp
theorem RC_nil {O:Own} {ρ:List Hd}:R O ρ false .un []:=rfl
theorem RC_s {O:Own} {ρ:List Hd} {n:List UInt8} {v:IV} {cs:List Value} (h:R O ρ false v cs):R O ρ false (.pr (.o (.s n)) v) (vS n :: cs):=⟨[vS n],cs,rfl,⟨rfl,rfl⟩,h⟩
theorem RL_st {O:Own} {ρ:List Hd} {v:IV} {c:List Value} {vs:List IV} {cs:List (List Value)} (hx:R O ρ false v c) (h:RL O ρ vs cs):RL O ρ (v :: vs) (c :: cs):=⟨_,_,rfl,hx,h⟩
end Go.Tw
namespace Go.Proofs.YtpnhgldpeiogbaaGreatDoor
open Go.Tw
set_option maxRecDepth 100000
set_option linter.unusedSimpArgs false
set_option linter.unusedVariables false
def laidAll:List (String×DataW Unit):=[("kinkeep/sha256.initial", Lib.tabData .u32 [1779033703,3144134277,1013904242,2773480762,1359893119,2600822924,528734635,1541459225]), ("kinkeep/sha256.constants", Lib.tabData .u32 [1116352408,1899447441,3049323471,3921009573,961987163,1508970993,2453635748,2870763221,3624381080,310598401,607225278,1426881987,1925078388,2162078206,2614888103,3248222580,3835390401,4022224774,264347078,604807628,770255983,1249150122,1555081692,1996064986,2554220882,2821834349,2952996808,3210313671,3336571891,3584528711,113926993,338241895,666307205,773529912,1294757372,1396182291,1695183700,1986661051,2177026350,2456956037,2730485921,2820302411,3259730800,3345764771,3516065817,3600352804,4094571909,275423344,430227734,506948616,659060556,883997877,958139571,1322822218,1537002063,1747873779,1955562222,2024104815,2227730452,2361852424,2428436474,2756734187,3204031479,3329325298]), ("kinkeep/hmac.pads", Lib.tabData .u8 [54,92])]
theorem gn0:Tryz.prog.globalNamed "kinkeep/sha256.initial" = some 0:=by kernel_rfl
theorem tab0 {W:World} (h:laidMet Tryz.prog laidAll W):Lib.TabIs Tryz.prog W "kinkeep/sha256.initial" .u32 [1779033703,3144134277,1013904242,2773480762,1359893119,2600822924,528734635,1541459225]:=
 Lib.tabIs_of_head (g:=0) (t:=174) (e:=67) (n:=8) gn0 (by kernel_rfl) Tryz.underlying174 Tryz.underlying67 (by kernel_rfl) (by kernel_rfl) h
theorem gn2:Tryz.prog.globalNamed "kinkeep/sha256.constants" = some 2:=by kernel_rfl
theorem tab2 {W:World} (h:laidMet Tryz.prog laidAll W):Lib.TabIs Tryz.prog W "kinkeep/sha256.constants" .u32 [1116352408,1899447441,3049323471,3921009573,961987163,1508970993,2453635748,2870763221,3624381080,310598401,607225278,1426881987,1925078388,2162078206,2614888103,3248222580,3835390401,4022224774,264347078,604807628,770255983,1249150122,1555081692,1996064986,2554220882,2821834349,2952996808,3210313671,3336571891,3584528711,113926993,338241895,666307205,773529912,1294757372,1396182291,1695183700,1986661051,2177026350,2456956037,2730485921,2820302411,3259730800,3345764771,3516065817,3600352804,4094571909,275423344,430227734,506948616,659060556,883997877,958139571,1322822218,1537002063,1747873779,1955562222,2024104815,2227730452,2361852424,2428436474,2756734187,3204031479,3329325298]:=
 Lib.tabIs_of_head (g:=2) (t:=200) (e:=67) (n:=64) gn2 (by kernel_rfl) Tryz.underlying200 Tryz.underlying67 (by kernel_rfl) (by kernel_rfl) (laidMet.tail h)
theorem gn1:Tryz.prog.globalNamed "kinkeep/hmac.pads" = some 1:=by kernel_rfl
theorem tab1 {W:World} (h:laidMet Tryz.prog laidAll W):Lib.TabIs Tryz.prog W "kinkeep/hmac.pads" .u8 [54,92]:=
 Lib.tabIs_of_head (g:=1) (t:=206) (e:=5) (n:=2) gn1 (by kernel_rfl) Tryz.underlying206 Tryz.underlying5 (by kernel_rfl) (by kernel_rfl) (laidMet.tail (laidMet.tail h))
theorem go {W:World} (h:laidMet Tryz.prog laidAll W):GO cfg (ownAll W):=by
 refine ⟨?_,fun g hg=>by cases hg⟩
 intro g p hp
 have hp:cG g=some p:=hp
 unfold cG at hp
 split at hp<;>first | (cases hp;done) | skip
 ·cases hp;exact go_u32 gn0 (tab0 h) (by kernel_rfl)
 ·cases hp;exact go_u8 gn1 (tab1 h) (by kernel_rfl)
 ·cases hp;exact go_u32 gn2 (tab2 h) (by kernel_rfl)
noncomputable def laidWorld (os:Os):World:=
 { World.holding Tryz.prog os ⟨#[],#[],[]⟩ with heap:=((((World.holding Tryz.prog os ⟨#[],#[],[]⟩).heap.modify 0 fun
   | .cells _ t frozen=>.cells #[.int .u32 1779033703,.int .u32 3144134277,.int .u32 1013904242,.int .u32 2773480762,.int .u32 1359893119,.int .u32 2600822924,.int .u32 528734635,.int .u32 1541459225] t frozen
   | o=>o).modify 1 fun
   | .cells _ t frozen=>.cells #[.int .u8 54,.int .u8 92] t frozen
   | o=>o).modify 2 fun
   | .cells _ t frozen=>.cells #[.int .u32 1116352408,.int .u32 1899447441,.int .u32 3049323471,.int .u32 3921009573,.int .u32 961987163,.int .u32 1508970993,.int .u32 2453635748,.int .u32 2870763221,.int .u32 3624381080,.int .u32 310598401,.int .u32 607225278,.int .u32 1426881987,.int .u32 1925078388,.int .u32 2162078206,.int .u32 2614888103,.int .u32 3248222580,.int .u32 3835390401,.int .u32 4022224774,.int .u32 264347078,.int .u32 604807628,.int .u32 770255983,.int .u32 1249150122,.int .u32 1555081692,.int .u32 1996064986,.int .u32 2554220882,.int .u32 2821834349,.int .u32 2952996808,.int .u32 3210313671,.int .u32 3336571891,.int .u32 3584528711,.int .u32 113926993,.int .u32 338241895,.int .u32 666307205,.int .u32 773529912,.int .u32 1294757372,.int .u32 1396182291,.int .u32 1695183700,.int .u32 1986661051,.int .u32 2177026350,.int .u32 2456956037,.int .u32 2730485921,.int .u32 2820302411,.int .u32 3259730800,.int .u32 3345764771,.int .u32 3516065817,.int .u32 3600352804,.int .u32 4094571909,.int .u32 275423344,.int .u32 430227734,.int .u32 506948616,.int .u32 659060556,.int .u32 883997877,.int .u32 958139571,.int .u32 1322822218,.int .u32 1537002063,.int .u32 1747873779,.int .u32 1955562222,.int .u32 2024104815,.int .u32 2227730452,.int .u32 2361852424,.int .u32 2428436474,.int .u32 2756734187,.int .u32 3204031479,.int .u32 3329325298] t frozen
   | o=>o) }
end Go.Proofs.YtpnhgldpeiogbaaGreatDoor
namespace Go.Tw
open Go.RowKit Go.ChangeShapes Go.WideShapes
set_option linter.unusedSimpArgs false
set_option linter.unusedVariables false
def fsB (P:Program) (chk:TypeId->Ty->Bool):List Field->Nat->Ty->Bool
 | [],_,.un=>true
 | f :: fs,o,.pr a b=>Nat.beq f.offset o && Nat.beq (P.cellsOf f.type) a.size && chk f.type a && fsB P chk fs (o + a.size) b
 | _,_,_=>false
def tyB (P:Program):Nat->TypeId->Ty->Bool
 | 0,_,_=>false
 | n + 1,t,y=>match P.underlying t with
  | some .bool=>match y with
   | .bo=>true
   | _=>false
  | some (.int .i64)=>match y with
   | .i=>true
   | _=>false
  | some (.int .u8)=>match y with
   | .u8=>true
   | _=>false
  | some (.int .u32)=>match y with
   | .u32=>true
   | _=>false
  | some (.int .u64)=>match y with
   | .u64=>true
   | _=>false
  | some .string=>match y with
   | .s=>true
   | _=>false
  | some (.slice e)=>match y with
   | .sl z=>Nat.beq (P.cellsOf e) z.size && Nat.blt 0 z.size && tyB P n e z
   | _=>false
  | some (.struct fs)=>Nat.beq (P.cellsOf t) y.size && fsB P (tyB P n) fs.toList 0 y
  | _=>false
def tyW:(t:Ty)->t.den->Prop
 | .i,x=>-9223372036854775808≤x∧x≤9223372036854775807
 | .s,x=>x.length≤maxLen
 | .sl t,xs=>xs.length≤maxLen∧∀ x ∈ xs,tyW t x
 | .pr a b,x=>tyW a x.1∧tyW b x.2
 | .u8,_=>True
 | .u32,_=>True
 | .u64,_=>True
 | .bo,_=>True
 | .un,_=>True
 | .ar _ _,_=>True
section
variable {H:Type} {enc:TypeId×Value->H} {P:Program} {w:World} {base:Nat} {sp:Nat->Bool} {held:Bool}
theorem fs_ty {chk:TypeId->Ty->Bool} {m:Nat} (ih:∀ (t:TypeId) (y:Ty) (cs:List Value) x,chk t y=true->DataW.trod enc P w base sp held m t cs=some x->∃ v:y.den,TR (ownAll w) y v cs∧tyW y v) :
  ∀ (fs:List Field) (o:Nat) (y:Ty) (cs:List Value),fsB P chk fs o y=true->cs.length=o + y.size->(∀ f ∈ fs,∃ x,DataW.trod enc P w base sp held m f.type ((cs.drop f.offset).take (P.cellsOf f.type))=some x)->∃ v:y.den,TR (ownAll w) y v (cs.drop o)∧tyW y v
 | [],o,y,cs,h,hl,_=>by
  cases y<;>first | (simp [fsB] at h;done) | skip
  refine ⟨(),?_,trivial⟩
  simp only [TR]
  exact List.drop_eq_nil_of_le (by simp only [Ty.size] at hl;omega)
 | f :: fs,o,y,cs,h,hl,hx=>by
  cases y<;>first | (simp [fsB] at h;done) | skip
  rename_i a b
  simp only [fsB,Bool.and_eq_true] at h
  obtain ⟨⟨⟨h1,h2⟩,h3⟩,h4⟩:=h
  have h1:=Nat.eq_of_beq_eq_true h1
  have h2:=Nat.eq_of_beq_eq_true h2
  obtain ⟨x,hx0⟩:=hx f (List.mem_cons_self ..)
  rw [h1,h2] at hx0
  obtain ⟨va,ha,wa⟩:=ih _ _ _ _ h3 hx0
  obtain ⟨vb,hb,wb⟩:=fs_ty ih fs (o + a.size) b cs h4 (by simp only [Ty.size] at hl;omega) (fun f hf=>hx f (List.mem_cons_of_mem _ hf))
  refine ⟨(va,vb),⟨_,_,?_,ha,hb⟩,wa,wb⟩
  rw [← List.drop_drop,List.take_append_drop]
theorem trod_ty:∀ (n fuel:Nat) (t:TypeId) (y:Ty) (cs:List Value) (x:DataW H×List MemPlace),tyB P n t y=true->DataW.trod enc P w base sp held fuel t cs=some x->∃ v:y.den,TR (ownAll w) y v cs∧tyW y v
 | 0,fuel,t,y,cs,x,h,hx=>by simp [tyB] at h
 | n + 1,fuel,t,y,cs,x,h,hx=>by
  unfold tyB at h
  split at h
  ·rename_i hu
   cases y<;>first | (cases h;done) | skip
   obtain ⟨b,rfl,_⟩:=DataW.trod_bool hu hx
   exact ⟨b,rfl,trivial⟩
  ·rename_i hu
   cases y<;>first | (cases h;done) | skip
   obtain ⟨z,rfl,_,hwf⟩:=DataW.trod_int hu hx
   exact ⟨z,rfl,of_i64 hwf⟩
  ·rename_i hu
   cases y<;>first | (cases h;done) | skip
   obtain ⟨z,rfl,_,hwf⟩:=DataW.trod_int hu hx
   obtain ⟨a,rfl⟩:=of_u8 hwf
   exact ⟨a,rfl,trivial⟩
  ·rename_i hu
   cases y<;>first | (cases h;done) | skip
   obtain ⟨z,rfl,_,hwf⟩:=DataW.trod_int hu hx
   obtain ⟨a,rfl⟩:=of_u32 hwf
   exact ⟨a,rfl,trivial⟩
  ·rename_i hu
   cases y<;>first | (cases h;done) | skip
   obtain ⟨z,rfl,_,hwf⟩:=DataW.trod_int hu hx
   obtain ⟨a,rfl⟩:=of_u64 hwf
   exact ⟨a,rfl,trivial⟩
  ·rename_i hu
   cases y<;>first | (cases h;done) | skip
   obtain ⟨z,rfl,_,hs⟩:=DataW.trod_string hu hx
   obtain ⟨l,rfl,hl⟩:=of_str3 hs
   exact ⟨l,rfl,hl⟩
  ·rename_i e hu
   cases y<;>first | (cases h;done) | skip
   rename_i z
   simp only [Bool.and_eq_true] at h
   obtain ⟨⟨h1,h2⟩,h3⟩:=h
   have h1:=Nat.eq_of_beq_eq_true h1
   have h2:0 < z.size:=by simpa [Nat.blt_eq] using h2
   rcases DataW.trod_slice hu hx with ⟨rfl,_⟩ | ⟨a,len,cap,elems,rest,m,rfl,rfl,_,hb,hl,hm,hlen,hel,_,_⟩
   ·exact ⟨[],⟨_,[],rfl,rfl,.inl ⟨rfl,_,_,rfl⟩⟩,Nat.zero_le _,fun x hx=>by cases hx⟩
   rw [h1] at hel
   by_cases h0:len=0
   ·subst h0
    exact ⟨[],⟨_,[],rfl,rfl,.inl ⟨rfl,_,_,rfl⟩⟩,Nat.zero_le _,fun x hx=>by cases hx⟩
   have each:∀ i,i < len->∃ (cs:List Value) (v:z.den),cs.length=z.size∧(∀ j,j < z.size->w.cell? ((a.add (i * z.size)).add j)=cs[j]?)∧TR (ownAll w) z v cs∧tyW z v:=by
    intro i hi
    have h:=hel i hi
    have hi':i < elems.length:=by omega
    rw [List.getElem?_eq_getElem hi',Option.bind_eq_some_iff] at h
    obtain ⟨cs,g1,g2⟩:=h
    obtain ⟨_,g3,g4⟩:=World.cells?_some g1
    obtain ⟨v,g5,g6⟩:=trod_ty n m e z cs _ h3 g2
    exact ⟨cs,v,g3,g4,g5,g6⟩
   obtain ⟨b,off,al⟩:=a
   have hblk:al=none∧∃ all ty fz,w.heap[b]? = some (.cells all ty fz):=by
    obtain ⟨cs,v,g1,g2,_⟩:=each 0 (by omega)
    have g3:=g2 0 h2
    have g4:((⟨b,off,al⟩:Addr).add (0 * z.size)).add 0=⟨b,off,al⟩:=by simp [Addr.add]
    rw [g4] at g3
    have g5:cs[0]? = some cs[0]:=List.getElem?_eq_getElem (by omega)
    rw [g5] at g3
    unfold World.cell? at g3
    split at g3
    ·rename_i all ty fz hb'
     split at g3
     ·cases g3
     ·rename_i hsp
      exact ⟨by simpa using hsp,all,ty,fz,hb'⟩
    ·cases g3
   obtain ⟨rfl,all,ty,fz,hblk⟩:=hblk
   have grow:∀ k,k≤len->∃ (xs:List z.den) (es:List Value),xs.length=k∧es.length=k * z.size∧LR (TR (ownAll w) z) xs es∧(∀ x ∈ xs,tyW z x)∧∀ j c,es[j]? = some c->all.toList[off + j]? = some c:=by
    intro k
    induction k with
    | zero=>intro _;exact ⟨[],[],rfl,by simp,rfl,fun x hx=>by (cases hx),fun j c hj=>by simp at hj⟩
    | succ k ihk=>
     intro hk
     obtain ⟨xs,es,g1,g2,g3,g4,g5⟩:=ihk (by omega)
     obtain ⟨cs,v,f1,f2,f3,f4⟩:=each k (by omega)
     refine ⟨xs ++ [v],es ++ cs,by simp [g1],by rw [List.length_append,g2,f1,Nat.add_mul];omega,g3.append (LR.single f3),fun x hx=>?_,fun j c hj=>?_⟩
     ·rcases List.mem_append.1 hx with hx | hx
      ·exact g4 x hx
      ·rw [List.mem_singleton.1 hx];exact f4
     ·rw [List.getElem?_append] at hj
      split at hj
      ·exact g5 j c hj
      ·have hj2:j - es.length < z.size:=by
        have:=(List.getElem?_eq_some_iff.1 hj).1
        omega
       have f5:=f2 _ hj2
       rw [add_plain,add_plain] at f5
       simp only [World.cell?,hblk,Option.isSome_none,Bool.false_eq_true,if_false] at f5
       rw [hj] at f5
       have e1:off + k * z.size + (j - es.length)=off + j:=by omega
       rw [e1] at f5
       simpa using f5
   obtain ⟨xs,es,g1,g2,g3,g4,g5⟩:=grow len (Nat.le_refl _)
   refine ⟨xs,⟨_,es,rfl,g3,.inr ⟨b,off,cap,by rw [g1],by omega,all.toList,ownAll_of hblk,g5⟩⟩,by omega,g4⟩
  ·rename_i fs hu
   simp only [Bool.and_eq_true] at h
   obtain ⟨xs,m,rfl,_,hl,hlen,hx⟩:=DataW.trod_struct hu hx
   obtain ⟨v,h1,h2⟩:=fs_ty (fun t y cs x hc hx=>trod_ty n m t y cs x hc hx) fs.toList 0 y cs h.2 (by rw [hl,Nat.eq_of_beq_eq_true h.1];omega) (fun f hf=>by
    obtain ⟨i,hi,rfl⟩:=List.mem_iff_getElem.1 hf
    have hi':i < fs.size:=by simpa using hi
    have:=hx i fs[i] (by simp [hi'])
    refine ⟨xs[i]'(by omega),?_⟩
    simp only [Array.getElem_toList]
    rw [this];simp [show i < xs.length by omega])
   exact ⟨v,by simpa using h1,h2⟩
  ·cases h
end
end Go.Tw
