/- The given statement on StripeAlters holds for every input; there is no condition. -/
import Derived.Test.YtooplgiihmdfgaaDoorCards
import Derived.Test.YtooplgiihmdfgaaDoorTie
import Derived.WalkKit
import Derived.ProofKit
import Derived.OpenShut
import Derived.Deep.DeepHandedRow
import Derived.Test.YtooplgiihmdfgaaDoorAJ
import Derived.Test.YtooplgiihmdfgaaDoorPStripeAlters
namespace Go.Proofs.YtooplgiihmdfgaaDoor.stripeAlters
open Go.ChangeShapes Go.WideShapes Go.ChangeAt Go.RowKit Go.Tw
open Go.ChangeMaps (open_string shut_string)
set_option linter.unusedSimpArgs false
set_option linter.unusedVariables false
theorem own:ownKnob Tryd.prog.godebug=none:=by kernel_rfl
theorem laidOut:laidOutB Tryd.prog=true:=by kernel_rfl
set_option maxRecDepth 100000 in
theorem laidIs {W:World} (h:laidMetH Tryd.prog Rows.stripeAltersRow.laid W):laidMet Tryd.prog laidAll W:=h
theorem snd (F:Nat):Sound Tryd.prog cfg 5 (mkC 0 cA5 [] [.bo] [] (fun x _=>T5 F x.1.1 x.1.2.1 x.1.2.2.1 x.1.2.2.2.1 x.1.2.2.2.2.1 x.2.1 x.2.2.1 x.2.2.2.1) (fun x y (z:Bool)=>((z,()),()))):=ok5 F
set_option maxRecDepth 100000 in
theorem contract (F:Nat) (hT:∀ (a0:Ty.den (.pr .i (.pr .i (.pr .i (.pr (.sl (.pr .s (.pr .i (.pr .i .un)))) (.pr (.sl (.sl .u8)) .un)))))) (a1:UInt32) (a2:UInt16) (a3:UInt8),tyW (.pr .i (.pr .i (.pr .i (.pr (.sl (.pr .s (.pr .i (.pr .i .un)))) (.pr (.sl (.sl .u8)) .un))))) a0->T5 F a0.1 a0.2.1 a0.2.2.1 a0.2.2.2.1 a0.2.2.2.2.1 a1 a2 a3=some true) (H:Type) (enc:TypeId×Value->H) (W:World) (base:Nat) (args:Array Value) (ds gs:List (DataW H)) (before:List MemPlace)
  (hval:∀ (j:Nat) t v,Tryd.f5.params[j]? = some t->args[j]? = some v->Value.okWide Tryd.prog W .any base t v)
  (hW:DataW.Whole enc Tryd.prog Tryd.f5.params.toList Rows.stripeAltersSpec.vars false W args.toList ds gs before) (hL:laidMetH Tryd.prog Rows.stripeAltersRow.laid W) :
  Calls Tryd.prog 5 args W fun e W'=>∃ v,e=.returned v∧Rows.stripeAltersSpec.post enc Tryd.prog Tryd.f5 false true false false W args v W':=by
 have hW':=hW
 obtain ⟨p,q,hA0,hV,rfl,hfz,hnd⟩:=hW
 have hA:DataW.TrodAll enc Tryd.prog W 0 (fun _=>true) true Tryd.f5.params.toList args.toList ds p:=hA0
 rw [Tryd.params5] at hA hval
 obtain ⟨v0,vs0,d0,ds0,p0,q0,hargs,rfl,rfl,h0,r0⟩:=trodAll_cons hA
 obtain ⟨v1,vs1,d1,ds1,p1,q1,rfl,rfl,rfl,h1,r1⟩:=trodAll_cons r0
 obtain ⟨v2,vs2,d2,ds2,p2,q2,rfl,rfl,rfl,h2,r2⟩:=trodAll_cons r1
 obtain ⟨v3,vs3,d3,ds3,p3,q3,rfl,rfl,rfl,h3,r3⟩:=trodAll_cons r2
 obtain ⟨rfl,rfl,rfl⟩:=trodAll_nil r3
 obtain rfl:args = #[v0,v1,v2,v3]:=by cases args;simp_all
 obtain ⟨rfl,rfl⟩:=trodVars_none hV
 obtain ⟨c0,rfl,sz0⟩:=okWide_struct Tryd.underlying45 (hval 0 45 v0 rfl rfl)
 have k0:=h0
 have lt0:∀ x ∈ p0,x.block < W.heap.size:=by obtain ⟨m,hm⟩:=k0;exact DataW.trod_lt m _ _ _ hm
 obtain ⟨f0,hf0⟩:=h0
 obtain ⟨a0,t0,w0⟩:=trod_ty 20 f0 45 (.pr .i (.pr .i (.pr .i (.pr (.sl (.pr .s (.pr .i (.pr .i .un)))) (.pr (.sl (.sl .u8)) .un))))) _ _ (by kernel_rfl) hf0
 have t0:TR (ownAll W) (.pr .i (.pr .i (.pr .i (.pr (.sl (.pr .s (.pr .i (.pr .i .un)))) (.pr (.sl (.sl .u8)) .un))))) a0 c0.toList:=t0
 obtain ⟨b1,rfl,rfl,rfl,w1⟩:=open_int Tryd.underlying46 (hval 1 46 v1 rfl rfl) h1
 obtain ⟨a1,rfl⟩:=of_u32 w1
 obtain ⟨b2,rfl,rfl,rfl,w2⟩:=open_int Tryd.underlying47 (hval 2 47 v2 rfl rfl) h2
 obtain ⟨a2,rfl⟩:=of_u16 w2
 obtain ⟨b3,rfl,rfl,rfl,w3⟩:=open_int Tryd.underlying5 (hval 3 5 v3 rfl rfl) h3
 obtain ⟨a3,rfl⟩:=of_u8 w3
 clear hA0
 have walk:=law_ok (snd F) (a0,a1,a2,a3,()) (hT a0 a1 a2 a3 w0) (go (laidIs hL)) (args:=#[.agg c0,.int .u32 (a1.toNat:Int),.int .u16 (a2.toNat:Int),.int .u8 (a3.toNat:Int)]) (RL_st (ofP_R t0) (RL_u32 (RL_u16 (RL_u8 RL_nil)))) rfl
 refine walk.mono fun e W' ⟨he,bel⟩=>?_
 subst he
 exact ⟨_,rfl,_,_,_,[],_,[],hW',trodAll_mk1 (shut_bool Tryd.underlying4 _),(trodAll_cons_mk (Below.trod laidOut (by kernel_rfl) (of_decide_eq_true (by kernel_rfl)) k0 bel lt0) (trodAll_cons_mk (shut_int Tryd.underlying46 w1) (trodAll_cons_mk (shut_int Tryd.underlying47 w2) (trodAll_cons_mk (shut_int Tryd.underlying5 w3) trodAll_mk0)))),rfl,bel.frame _,fun h=>by cases h⟩
theorem laid_met (os:Os):laidMet Tryd.prog Rows.stripeAltersRow.laid ((laidWorld os).forCall (fun _ _=>0) ⟨#[],#[.agg #[(.int .i64 0),(.int .i64 0),(.int .i64 0),(.slice none 0 0),(.slice none 0 0)],.int .u32 0,.int .u16 0,.int .u8 0],[]⟩).memory:=
 laidMet_of_run' 80 (by kernel_rfl) (by kernel_rfl)
theorem reads (os:Os) {H:Type} (enc:TypeId×Value->H):∃ places,DataW.whole enc Tryd.prog ((laidWorld os).forCall (fun _ _=>0) ⟨#[],#[.agg #[(.int .i64 0),(.int .i64 0),(.int .i64 0),(.slice none 0 0),(.slice none 0 0)],.int .u32 0,.int .u16 0,.int .u8 0],[]⟩).memory Tryd.f5.params.toList Rows.stripeAltersSpec.vars false (#[.agg #[(.int .i64 0),(.int .i64 0),(.int .i64 0),(.slice none 0 0),(.slice none 0 0)],.int .u32 0,.int .u16 0,.int .u8 0]:Array Value).toList 80=some ([.agg [.lit (.int .i64 0),.lit (.int .i64 0),.lit (.int .i64 0),.nil,.nil],.lit (.int .u32 0),.lit (.int .u16 0),.lit (.int .u8 0)],[],places):=
 ⟨[],by kernel_rfl⟩
set_option maxRecDepth 100000 in
theorem lifted (os:Os) (started:os.Started) (H:Type) (enc:TypeId×Value->H) (F:Stop.Interp) :
  ReturnsInHanded {} Tryd.checked os 5 .any ((OpenSpec.ofChange Rows.stripeAltersSpec).preRow enc Tryd.prog Tryd.f5 Rows.stripeAltersRow.domain false Rows.stripeAltersRow.laid) (((OpenSpec.ofChange Rows.stripeAltersSpec).at F).post enc Tryd.prog Tryd.f5 false true false false):=by
 obtain ⟨places,hx⟩:=reads os enc
 refine returnsInHanded_of_row (C:=Tryd.checked) (s:=OpenSpec.ofChange Rows.stripeAltersSpec) own started (by kernel_rfl) Tryd.func5
  (witness_row_at (enc:=enc) (C:=Tryd.checked) false (laidWorld os) #[.agg #[(.int .i64 0),(.int .i64 0),(.int .i64 0),(.slice none 0 0),(.slice none 0 0)],.int .u32 0,.int .u16 0,.int .u8 0] rfl (by kernel_rfl) (by kernel_rfl) (by kernel_rfl)
   (OpenSpec.preRow_of_cond 80 hx (by kernel_rfl) (fun k hk=>by cases hk) (by kernel_rfl) (laid_met os))) ?_
 intro W base args ds gs before hval hW _ _ _ hL _ _
 exact contract 50000 flaw5 H enc W base args ds gs before hval hW hL
theorem said:Rows.StripeAltersSaid:=
 OpenClaim.holds_of_cond 5 Tryd.f5 rfl rfl rfl rfl rfl rfl rfl ⟨rfl,rfl,rfl,rfl,rfl⟩ rfl rfl rfl rfl rfl (by kernel_rfl) Tryd.func5 (by kernel_rfl)
  (of_decide_eq_true (by kernel_rfl)) (by unfold Func.isWrapper;first | (rw [if_pos (by decide +kernel)];kernel_rfl) | (rw [if_neg (by decide +kernel)];exact ⟨rfl,rfl⟩))
  (fun os started H enc _ F=>by rw [OpenClaim.pre_eq_preRow];exact lifted os started H enc F)
theorem plain (f:FuncId) (fn:Func) (hf:Tryd.pinned.checked.prog.funcNamed "kinkeep/kinkeeplaw30.StripeAlters" = some f) (hfn:Tryd.pinned.checked.prog.funcs[f]? = some fn) :
  false=Tryd.pinned.checked.prog.looks []∧∀ (j:Nat) t,fn.params[j]? = some t->Tryd.pinned.checked.prog.wantsStandIn t=false:=by
 obtain rfl:f=5:=Option.some.inj ((show Tryd.prog.funcNamed "kinkeep/kinkeeplaw30.StripeAlters" = some 5 by kernel_rfl).symm.trans hf) |>.symm
 obtain rfl:fn=Tryd.f5:=(Option.some.inj (Tryd.func5.symm.trans hfn)).symm
 refine ⟨by kernel_rfl,fun j t ht=>?_⟩
 rw [Tryd.params5] at ht
 have hm:=Array.mem_of_getElem? ht
 simp only [List.mem_toArray,List.mem_cons,List.not_mem_nil,or_false] at hm
 rcases hm with rfl | rfl | rfl | rfl
 ·exact (show Tryd.prog.wantsStandIn 45=false by kernel_rfl)
 ·exact (show Tryd.prog.wantsStandIn 46=false by kernel_rfl)
 ·exact (show Tryd.prog.wantsStandIn 47=false by kernel_rfl)
 ·exact (show Tryd.prog.wantsStandIn 5=false by kernel_rfl)
theorem proved:Rows.StripeAltersCardSaid:=
 Claim7.holds_tied_plain_at .later [] _ _ _ _ said (fun _ h=>by cases h) (by kernel_rfl) (fun _ h=>by cases h) stripeAlters_row_tie rfl ⟨rfl,rfl⟩ (by kernel_rfl) rfl plain (by kernel_rfl)
#print axioms proved
end Go.Proofs.YtooplgiihmdfgaaDoor.stripeAlters
