/- The given statement on TopTransfers holds for every input; there is no condition. -/
import Derived.Test.YtiahcmabcbpcpaaGreatDoorCards
import Derived.Test.YtiahcmabcbpcpaaGreatDoorTie
import Derived.WalkKit
import Derived.ProofKit
import Derived.OpenShut
import Derived.Deep.DeepHandedRow
import Derived.Test.YtiahcmabcbpcpaaGreatDoormJ
import Derived.Test.YtiahcmabcbpcpaaGreatDoormPTopTransfers
set_option linter.unusedSimpArgs false
set_option linter.unusedVariables false
namespace Go.Proofs.YtiahcmabcbpcpaaGreatDoor.topTransfers
open Go.ChangeShapes Go.WideShapes Go.ChangeAt Go.RowKit Go.Tw
open Go.ChangeMaps (open_string shut_string)
theorem own:ownKnob Tryz.prog.godebug=none:=by kernel_rfl
theorem laidOut:laidOutB Tryz.prog=true:=by kernel_rfl
set_option maxRecDepth 100000 in
theorem acM {W:World} (h:laidMetH Tryz.prog Rows.topTransfersRow.laid W):laidMet Tryz.prog xM W:=h
theorem snd (F:Nat):Sound Tryz.prog cfg 3 (cu 0 WY [] [.bo] [] (fun x _=>T3 F x.1 x.2.1 x.2.2.1) (fun x y (z:Bool)=>((z,()),()))):=ok3 F
set_option maxRecDepth 100000 in
theorem contract (F:Nat) (hT:∀ (a0:UInt8) (a1:Int) (a2:Ty.den (.sl .i)),(-9223372036854775808≤a1∧a1≤9223372036854775807)->pY (.sl .i) a2->T3 F a0 a1 a2=some true) (H:Type) (enc:TypeId×Value->H) (W:World) (base:Nat) (args:Array Value) (ds gs:List (DataW H)) (before:List MemPlace)
  (hval:∀ (j:Nat) t v,Tryz.f3.params[j]? = some t->args[j]? = some v->Value.okWide Tryz.prog W .any base t v)
  (hW:DataW.Whole enc Tryz.prog Tryz.f3.params.toList Rows.topTransfersSpec.vars false W args.toList ds gs before) (hL:laidMetH Tryz.prog Rows.topTransfersRow.laid W) :
  Calls Tryz.prog 3 args W fun e W'=>∃ v,e=.returned v∧Rows.topTransfersSpec.post enc Tryz.prog Tryz.f3 false true false false W args v W':=by
 have hW':=hW
 obtain ⟨p,q,hA0,hV,rfl,hfz,pi⟩:=hW
 have hA:DataW.TrodAll enc Tryz.prog W 0 (fun _=>true) true Tryz.f3.params.toList args.toList ds p:=hA0
 rw [Tryz.params3] at hA hval
 obtain ⟨v0,vs0,d0,ds0,p0,q0,hargs,rfl,rfl,h0,r0⟩:=trodAll_cons hA
 obtain ⟨v1,vs1,d1,ds1,p1,q1,rfl,rfl,rfl,h1,r1⟩:=trodAll_cons r0
 obtain ⟨v2,vs2,d2,ds2,p2,q2,rfl,rfl,rfl,h2,r2⟩:=trodAll_cons r1
 obtain ⟨rfl,rfl,rfl⟩:=trodAll_nil r2
 obtain rfl:args = #[v0,v1,v2]:=by cases args;simp_all
 obtain ⟨rfl,rfl⟩:=trodVars_none hV
 obtain ⟨b0,rfl,rfl,rfl,w0⟩:=open_int Tryz.underlying5 (hval 0 5 v0 rfl rfl) h0
 obtain ⟨a0,rfl⟩:=YV w0
 obtain ⟨a1,rfl,rfl,rfl,w1⟩:=open_int Tryz.underlying3 (hval 1 3 v1 rfl rfl) h1
 obtain ⟨u2,Xp,aa0,rfl⟩:=okWide_slice Tryz.underlying22 (hval 2 22 v2 rfl rfl)
 have k2:=h2
 have lt2:∀ x ∈ p2,x.block < W.heap.size:=by obtain ⟨m,hm⟩:=k2;exact DataW.trod_lt m _ _ _ hm
 obtain ⟨f2,Di⟩:=h2
 obtain ⟨a2,t2,w2⟩:=M5 20 f2 22 (.sl .i) _ _ (by kernel_rfl) Di
 have t2:TR (fO W) (.sl .i) a2 [.slice u2 Xp aa0]:=t2
 clear hA0
 have walk:=alk (snd F) (a0,a1,a2,()) (hT a0 a1 a2 (aap w1) w2) (go (acM hL)) (args:=#[.int .u8 (a0.toNat:Int),.int .i64 a1,.slice u2 Xp aa0]) (ar2 (apC (aq1 (t:=.i) t2 afR))) rfl
 refine walk.mono fun e W' ⟨he,Wv⟩=>?_
 subst he
 exact ⟨_,rfl,_,_,_,[],_,[],hW',trodAll_mk1 (shut_bool Tryz.underlying4 _),(trodAll_cons_mk (shut_int Tryz.underlying5 w0) (trodAll_cons_mk (shut_int Tryz.underlying3 w1) (trodAll_cons_mk (Below.trod laidOut (by kernel_rfl) (of_decide_eq_true (by kernel_rfl)) k2 Wv lt2) trodAll_mk0))),rfl,Wv.frame _,fun h=>by cases h⟩
theorem afb (os:Os):laidMet Tryz.prog Rows.topTransfersRow.laid ((OM os).forCall (fun _ _=>0) ⟨#[],#[.int .u8 0,.int .i64 0,.slice none 0 0],[]⟩).memory:=
 laidMet_of_run' 80 (by kernel_rfl) (by kernel_rfl)
theorem reads (os:Os) {H:Type} (enc:TypeId×Value->H):∃ places,DataW.whole enc Tryz.prog ((OM os).forCall (fun _ _=>0) ⟨#[],#[.int .u8 0,.int .i64 0,.slice none 0 0],[]⟩).memory Tryz.f3.params.toList Rows.topTransfersSpec.vars false (#[.int .u8 0,.int .i64 0,.slice none 0 0]:Array Value).toList 80=some ([.lit (.int .u8 0),.lit (.int .i64 0),.nil],[],places):=
 ⟨[],by kernel_rfl⟩
set_option maxRecDepth 100000 in
theorem lifted (os:Os) (started:os.Started) (H:Type) (enc:TypeId×Value->H) (F:Stop.Interp) :
  ReturnsInHanded {} Tryz.checked os 3 .any ((OpenSpec.ofChange Rows.topTransfersSpec).preRow enc Tryz.prog Tryz.f3 Rows.topTransfersRow.domain false Rows.topTransfersRow.laid) (((OpenSpec.ofChange Rows.topTransfersSpec).at F).post enc Tryz.prog Tryz.f3 false true false false):=by
 obtain ⟨places,hx⟩:=reads os enc
 refine returnsInHanded_of_row (C:=Tryz.checked) (s:=OpenSpec.ofChange Rows.topTransfersSpec) own started (by kernel_rfl) Tryz.func3
  (witness_row_at (enc:=enc) (C:=Tryz.checked) false (OM os) #[.int .u8 0,.int .i64 0,.slice none 0 0] rfl (by kernel_rfl) (by kernel_rfl) (by kernel_rfl)
   (OpenSpec.preRow_of_cond 80 hx (by kernel_rfl) (fun k hk=>by cases hk) (by kernel_rfl) (afb os))) ?_
 intro W base args ds gs before hval hW _ _ _ hL _ _
 exact contract 50000 (fun a b c _ w=>asH (by omega) aii a b c (fun x hx=>w.2 x hx)) H enc W base args ds gs before hval hW hL
theorem apv {a b:Bool} (h:a=true) (k:b=true):(a && b)=true:=by rw [h,k];rfl
theorem jf0 : Rows.topTransfersRow.wf (OpenSpec.ofChange Rows.topTransfersSpec) = true := by kernel_rfl
theorem jf1 : laidOutB Tryz.prog = true := by kernel_rfl
theorem jf2 : mapsRowed Tryz.prog = true := by kernel_rfl
theorem jf3 : Tryz.f3.params.all (Tryz.prog.readableRec ·) = true := by kernel_rfl
theorem jf4 : namedTie Tryz.prog Rows.topTransfersRow.named Rows.topTransfersSpec.vars = true := by kernel_rfl
theorem jf5 : (Rows.topTransfersRow.stops == []) = true := by kernel_rfl
theorem jf6 : (Tryz.prog.stops == []) = true := by kernel_rfl
theorem jf7 : (Rows.topTransfersRow.knobs == []) = true := by kernel_rfl
theorem jf8 : (Tryz.prog.stopKnobs == []) = true := by kernel_rfl
theorem jf9 : (Rows.topTransfersRow.inPlace == Tryz.prog.inPlace 3) = true := by kernel_rfl
theorem jf10 : (Rows.topTransfersRow.unfollowed == Tryz.prog.unfollowed 3) = true := by kernel_rfl
theorem jf11 : (Rows.topTransfersRow.recurses == Tryz.prog.recurses 3) = true := by kernel_rfl
theorem jf12 : (Rows.topTransfersRow.named == Tryz.prog.varsNamed 3) = true := by kernel_rfl
theorem jf13 : (Rows.topTransfersRow.maps == (Tryz.f3.params.toList ++ Rows.topTransfersSpec.plain.varTypes Tryz.prog).any (Tryz.prog.mapsRec ·)) = true := by kernel_rfl
theorem jf14 : (Rows.topTransfersRow.ifaces == (Tryz.f3.params.toList ++ Rows.topTransfersSpec.plain.varTypes Tryz.prog).any (Tryz.prog.ifacesRec ·)) = true := by kernel_rfl
theorem jf15 : (Rows.topTransfersRow.mapsOut == Tryz.prog.mapsAmong Tryz.f3.resultTypes.toList) = true := by kernel_rfl
theorem jf16 : (Rows.topTransfersRow.loops == (Tryz.f3.params.toList ++ Rows.topTransfersSpec.plain.varTypes Tryz.prog).any (Tryz.prog.loopsFrom ·)) = true := by kernel_rfl
theorem jf17 : (Rows.topTransfersRow.wideKeys == (Tryz.f3.params.toList ++ Rows.topTransfersSpec.plain.varTypes Tryz.prog ++ Tryz.f3.resultTypes.toList).any (Tryz.prog.wideKeysFrom ·)) = true := by kernel_rfl
theorem jf18 : Rows.topTransfersSpec.vars.all (Tryz.prog.varReadable ·) = true := by kernel_rfl
theorem jf19 : Tryz.f3.resultTypes.all (fun t => Tryz.prog.readableRec t && decide (t < Tryz.prog.types.size)) = true := by kernel_rfl
theorem jf20 : (Rows.topTransfersRow.ifacesOut == Tryz.f3.resultTypes.toList.any (Tryz.prog.ifacesRec ·)) = true := by kernel_rfl
theorem jf21 : (Rows.topTransfersRow.loopsOut == Tryz.f3.resultTypes.toList.any (Tryz.prog.loopsFrom ·)) = true := by kernel_rfl
theorem jf22 : (Rows.topTransfersRow.plainKeys == Tryz.prog.plainKeys) = true := by kernel_rfl
theorem jf23 : Rows.topTransfersRow.shortTexts.isNone = true := by kernel_rfl
theorem jf24 : Tryz.prog.stopsHeard = true := by kernel_rfl
theorem jf25 : Tryz.prog.mayEnter = true := by kernel_rfl
theorem jf26 : (Rows.topTransfersRow.lifted == Tryz.prog.liftsFinal) = true := by kernel_rfl
theorem jf27 : (Tryz.prog.make == some Rows.topTransfersRow.make) = true := by kernel_rfl
theorem jf29 : (Rows.topTransfersRow.pinned == Rows.topTransfersRow.pinnedBy) = true := by kernel_rfl
theorem jf30 : (Rows.topTransfersRow.veiled == (Tryz.f3.params.toList ++ Rows.topTransfersSpec.plain.varTypes Tryz.prog ++ Tryz.f3.resultTypes.toList).any (Tryz.prog.veiledRec ·)) = true := by kernel_rfl
theorem jf31 : Rows.topTransfersRow.veiledFits Tryz.prog Tryz.f3.params.toList (Tryz.f3.params.toList ++ Rows.topTransfersSpec.plain.varTypes Tryz.prog ++ Tryz.f3.resultTypes.toList) = true := by kernel_rfl
theorem as4:joinedFacts Tryz.prog 3 Tryz.f3 Rows.topTransfersSpec Rows.topTransfersRow=true:=by
 unfold joinedFacts
 with_reducible refine (apv (apv (apv (apv (apv (apv (apv (apv (apv (apv (apv (apv (apv (apv (apv (apv (apv (apv (apv (apv (apv (apv (apv (apv (apv (apv (apv (apv (apv (apv (apv jf0 jf1) jf2) jf3) jf4) jf5) jf6) jf7) jf8) jf9) jf10) jf11) jf12) jf13) jf14) jf15) jf16) jf17) jf18) jf19) jf20) jf21) jf22) jf23) jf24) jf25) jf26) jf27) ?_) jf29) jf30) jf31)
 kernel_rfl
theorem closed:joinedFacts Tryz.pinned.checked.prog 3 Tryz.f3 (OpenSpec.ofChange Rows.topTransfersSpec).bare Rows.topTransfersRow=true:=
 (show joinedFacts Tryz.pinned.checked.prog 3 Tryz.f3 (OpenSpec.ofChange Rows.topTransfersSpec).bare Rows.topTransfersRow=joinedFacts Tryz.prog 3 Tryz.f3 Rows.topTransfersSpec Rows.topTransfersRow by kernel_rfl).trans as4
theorem said:Rows.TopTransfersSaid:=
 OpenClaim.holds_of_cond 3 Tryz.f3 rfl rfl rfl rfl rfl rfl rfl ⟨rfl,rfl,rfl,rfl,rfl⟩ rfl rfl rfl rfl rfl (by kernel_rfl) Tryz.func3 closed
  (of_decide_eq_true (by kernel_rfl)) (by unfold Func.isWrapper;first | (rw [if_pos (by decide +kernel)];kernel_rfl) | (rw [if_neg (by decide +kernel)];exact ⟨rfl,rfl⟩))
  (fun os started H enc _ F=>by rw [OpenClaim.pre_eq_preRow];exact lifted os started H enc F)
theorem plain (f:FuncId) (fn:Func) (hf:Tryz.pinned.checked.prog.funcNamed "kinkeep/kinkeeptop.TopTransfers" = some f) (hfn:Tryz.pinned.checked.prog.funcs[f]? = some fn) :
  false=Tryz.pinned.checked.prog.looks []∧∀ (j:Nat) t,fn.params[j]? = some t->Tryz.pinned.checked.prog.wantsStandIn t=false:=by
 obtain rfl:f=3:=Option.some.inj ((show Tryz.prog.funcNamed "kinkeep/kinkeeptop.TopTransfers" = some 3 by kernel_rfl).symm.trans hf) |>.symm
 obtain rfl:fn=Tryz.f3:=(Option.some.inj (Tryz.func3.symm.trans hfn)).symm
 refine ⟨by kernel_rfl,fun j t ht=>?_⟩
 rw [Tryz.params3] at ht
 have hm:=Array.mem_of_getElem? ht
 simp only [List.mem_toArray,List.mem_cons,List.not_mem_nil,or_false] at hm
 rcases hm with rfl | rfl | rfl
 ·exact (show Tryz.prog.wantsStandIn 5=false by kernel_rfl)
 ·exact (show Tryz.prog.wantsStandIn 3=false by kernel_rfl)
 ·exact (show Tryz.prog.wantsStandIn 22=false by kernel_rfl)
theorem proved:Rows.TopTransfersCardSaid:=
 Claim7.holds_tied_plain_at .later [] _ _ _ _ said (fun _ h=>by cases h) (by kernel_rfl) (fun _ h=>by cases h) topTransfers_row_tie rfl ⟨rfl,rfl⟩ (by kernel_rfl) rfl plain (by kernel_rfl)
#print axioms proved
end Go.Proofs.YtiahcmabcbpcpaaGreatDoor.topTransfers
