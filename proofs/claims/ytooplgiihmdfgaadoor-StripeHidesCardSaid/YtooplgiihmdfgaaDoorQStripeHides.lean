/- The given statement on StripeHides holds for every input; there is no condition. -/
import Derived.Test.YtooplgiihmdfgaaDoorCards
import Derived.Test.YtooplgiihmdfgaaDoorTie
import Derived.WalkKit
import Derived.ProofKit
import Derived.OpenShut
import Derived.Deep.DeepHandedRow
import Derived.Test.YtooplgiihmdfgaaDoorJ
import Derived.Test.YtooplgiihmdfgaaDoorPStripeHides
namespace Go.Proofs.YtooplgiihmdfgaaDoor.stripeHides
open Go.ChangeShapes Go.WideShapes Go.ChangeAt Go.RowKit Go.Tw
open Go.ChangeMaps (open_string shut_string)
set_option linter.unusedSimpArgs false
set_option linter.unusedVariables false
theorem own:ownKnob Tryd.prog.godebug=none:=by kernel_rfl
theorem laidOut:laidOutB Tryd.prog=true:=by kernel_rfl
set_option maxRecDepth 100000 in
theorem laidIs {W:World} (h:laidMetH Tryd.prog Rows.stripeHidesRow.laid W):laidMet Tryd.prog laidAll W:=h
theorem snd (F:Nat):Sound Tryd.prog cfg 7 (mkC 0 cA7 [] [.bo] [] (fun x _=>T7 F x.1 x.2.1 x.2.2.1 x.2.2.2.1 x.2.2.2.2.1 x.2.2.2.2.2.1) (fun x y (z:Bool)=>((z,()),()))):=ok7 F
set_option maxRecDepth 100000 in
theorem contract (F:Nat) (hT:∀ (a0:Ty.den (.sl (.sl .u8))) (a1:Ty.den (.sl (.sl .u8))) (a2:Ty.den (.sl (.sl .u8))) (a3:List UInt8) (a4:Int) (a5:Int),tyW (.sl (.sl .u8)) a0->tyW (.sl (.sl .u8)) a1->tyW (.sl (.sl .u8)) a2->a3.length≤maxLen->(-9223372036854775808≤a4∧a4≤9223372036854775807)->(-9223372036854775808≤a5∧a5≤9223372036854775807)->T7 F a0 a1 a2 a3 a4 a5=some true) (H:Type) (enc:TypeId×Value->H) (W:World) (base:Nat) (args:Array Value) (ds gs:List (DataW H)) (before:List MemPlace)
  (hval:∀ (j:Nat) t v,Tryd.f7.params[j]? = some t->args[j]? = some v->Value.okWide Tryd.prog W .any base t v)
  (hW:DataW.Whole enc Tryd.prog Tryd.f7.params.toList Rows.stripeHidesSpec.vars false W args.toList ds gs before) (hL:laidMetH Tryd.prog Rows.stripeHidesRow.laid W) :
  Calls Tryd.prog 7 args W fun e W'=>∃ v,e=.returned v∧Rows.stripeHidesSpec.post enc Tryd.prog Tryd.f7 false true false false W args v W':=by
 have hW':=hW
 obtain ⟨p,q,hA0,hV,rfl,hfz,hnd⟩:=hW
 have hA:DataW.TrodAll enc Tryd.prog W 0 (fun _=>true) true Tryd.f7.params.toList args.toList ds p:=hA0
 rw [Tryd.params7] at hA hval
 obtain ⟨v0,vs0,d0,ds0,p0,q0,hargs,rfl,rfl,h0,r0⟩:=trodAll_cons hA
 obtain ⟨v1,vs1,d1,ds1,p1,q1,rfl,rfl,rfl,h1,r1⟩:=trodAll_cons r0
 obtain ⟨v2,vs2,d2,ds2,p2,q2,rfl,rfl,rfl,h2,r2⟩:=trodAll_cons r1
 obtain ⟨v3,vs3,d3,ds3,p3,q3,rfl,rfl,rfl,h3,r3⟩:=trodAll_cons r2
 obtain ⟨v4,vs4,d4,ds4,p4,q4,rfl,rfl,rfl,h4,r4⟩:=trodAll_cons r3
 obtain ⟨v5,vs5,d5,ds5,p5,q5,rfl,rfl,rfl,h5,r5⟩:=trodAll_cons r4
 obtain ⟨rfl,rfl,rfl⟩:=trodAll_nil r5
 obtain rfl:args = #[v0,v1,v2,v3,v4,v5]:=by cases args;simp_all
 obtain ⟨rfl,rfl⟩:=trodVars_none hV
 obtain ⟨u0,len0,cap0,rfl⟩:=okWide_slice Tryd.underlying43 (hval 0 43 v0 rfl rfl)
 have k0:=h0
 have lt0:∀ x ∈ p0,x.block < W.heap.size:=by obtain ⟨m,hm⟩:=k0;exact DataW.trod_lt m _ _ _ hm
 obtain ⟨f0,hf0⟩:=h0
 obtain ⟨a0,t0,w0⟩:=trod_ty 20 f0 43 (.sl (.sl .u8)) _ _ (by kernel_rfl) hf0
 have t0:TR (ownAll W) (.sl (.sl .u8)) a0 [.slice u0 len0 cap0]:=t0
 obtain ⟨u1,len1,cap1,rfl⟩:=okWide_slice Tryd.underlying43 (hval 1 43 v1 rfl rfl)
 have k1:=h1
 have lt1:∀ x ∈ p1,x.block < W.heap.size:=by obtain ⟨m,hm⟩:=k1;exact DataW.trod_lt m _ _ _ hm
 obtain ⟨f1,hf1⟩:=h1
 obtain ⟨a1,t1,w1⟩:=trod_ty 20 f1 43 (.sl (.sl .u8)) _ _ (by kernel_rfl) hf1
 have t1:TR (ownAll W) (.sl (.sl .u8)) a1 [.slice u1 len1 cap1]:=t1
 obtain ⟨u2,len2,cap2,rfl⟩:=okWide_slice Tryd.underlying43 (hval 2 43 v2 rfl rfl)
 have k2:=h2
 have lt2:∀ x ∈ p2,x.block < W.heap.size:=by obtain ⟨m,hm⟩:=k2;exact DataW.trod_lt m _ _ _ hm
 obtain ⟨f2,hf2⟩:=h2
 obtain ⟨a2,t2,w2⟩:=trod_ty 20 f2 43 (.sl (.sl .u8)) _ _ (by kernel_rfl) hf2
 have t2:TR (ownAll W) (.sl (.sl .u8)) a2 [.slice u2 len2 cap2]:=t2
 obtain ⟨u3,len3,cap3,rfl⟩:=okWide_slice Tryd.underlying55 (hval 3 55 v3 rfl rfl)
 have k3:=h3
 have lt3:∀ x ∈ p3,x.block < W.heap.size:=by obtain ⟨m,hm⟩:=k3;exact DataW.trod_lt m _ _ _ hm
 obtain ⟨a3,l3,t3⟩:=open_bytes3 Tryd.underlying55 Tryd.underlying5 (by kernel_rfl) h3
 obtain ⟨a4,rfl,rfl,rfl,w4⟩:=open_int Tryd.underlying3 (hval 4 3 v4 rfl rfl) h4
 obtain ⟨a5,rfl,rfl,rfl,w5⟩:=open_int Tryd.underlying3 (hval 5 3 v5 rfl rfl) h5
 clear hA0
 have walk:=law_ok (snd F) (a0,a1,a2,a3,a4,a5,()) (hT a0 a1 a2 a3 a4 a5 w0 w1 w2 l3 (of_i64 w4) (of_i64 w5)) (go (laidIs hL)) (args:=#[.slice u0 len0 cap0,.slice u1 len1 cap1,.slice u2 len2 cap2,.slice u3 len3 cap3,.int .i64 a4,.int .i64 a5]) (RL_ro (t:=(.sl .u8)) t0 (RL_ro (t:=(.sl .u8)) t1 (RL_ro (t:=(.sl .u8)) t2 (RL_ro (t:=.u8) t3 (RL_i (RL_i RL_nil)))))) rfl
 refine walk.mono fun e W' ⟨he,bel⟩=>?_
 subst he
 exact ⟨_,rfl,_,_,_,[],_,[],hW',trodAll_mk1 (shut_bool Tryd.underlying4 _),(trodAll_cons_mk (Below.trod laidOut (by kernel_rfl) (of_decide_eq_true (by kernel_rfl)) k0 bel lt0) (trodAll_cons_mk (Below.trod laidOut (by kernel_rfl) (of_decide_eq_true (by kernel_rfl)) k1 bel lt1) (trodAll_cons_mk (Below.trod laidOut (by kernel_rfl) (of_decide_eq_true (by kernel_rfl)) k2 bel lt2) (trodAll_cons_mk (Below.trod laidOut (by kernel_rfl) (of_decide_eq_true (by kernel_rfl)) k3 bel lt3) (trodAll_cons_mk (shut_int Tryd.underlying3 w4) (trodAll_cons_mk (shut_int Tryd.underlying3 w5) trodAll_mk0)))))),rfl,bel.frame _,fun h=>by cases h⟩
theorem laid_met (os:Os):laidMet Tryd.prog Rows.stripeHidesRow.laid ((laidWorld os).forCall (fun _ _=>0) ⟨#[],#[.slice none 0 0,.slice none 0 0,.slice none 0 0,.slice none 0 0,.int .i64 0,.int .i64 0],[]⟩).memory:=
 laidMet_of_run' 80 (by kernel_rfl) (by kernel_rfl)
theorem reads (os:Os) {H:Type} (enc:TypeId×Value->H):∃ places,DataW.whole enc Tryd.prog ((laidWorld os).forCall (fun _ _=>0) ⟨#[],#[.slice none 0 0,.slice none 0 0,.slice none 0 0,.slice none 0 0,.int .i64 0,.int .i64 0],[]⟩).memory Tryd.f7.params.toList Rows.stripeHidesSpec.vars false (#[.slice none 0 0,.slice none 0 0,.slice none 0 0,.slice none 0 0,.int .i64 0,.int .i64 0]:Array Value).toList 80=some ([.nil,.nil,.nil,.nil,.lit (.int .i64 0),.lit (.int .i64 0)],[],places):=
 ⟨[],by kernel_rfl⟩
set_option maxRecDepth 100000 in
theorem lifted (os:Os) (started:os.Started) (H:Type) (enc:TypeId×Value->H) (F:Stop.Interp) :
  ReturnsInHanded {} Tryd.checked os 7 .any ((OpenSpec.ofChange Rows.stripeHidesSpec).preRow enc Tryd.prog Tryd.f7 Rows.stripeHidesRow.domain false Rows.stripeHidesRow.laid) (((OpenSpec.ofChange Rows.stripeHidesSpec).at F).post enc Tryd.prog Tryd.f7 false true false false):=by
 obtain ⟨places,hx⟩:=reads os enc
 refine returnsInHanded_of_row (C:=Tryd.checked) (s:=OpenSpec.ofChange Rows.stripeHidesSpec) own started (by kernel_rfl) Tryd.func7
  (witness_row_at (enc:=enc) (C:=Tryd.checked) false (laidWorld os) #[.slice none 0 0,.slice none 0 0,.slice none 0 0,.slice none 0 0,.int .i64 0,.int .i64 0] rfl (by kernel_rfl) (by kernel_rfl) (by kernel_rfl)
   (OpenSpec.preRow_of_cond 80 hx (by kernel_rfl) (fun k hk=>by cases hk) (by kernel_rfl) (laid_met os))) ?_
 intro W base args ds gs before hval hW _ _ _ hL _ _
 exact contract 50000 (fun a0 a1 a2 a3 a4 a5 _ _ _ _ _ _=>plaw7 (F:=50000) (by omega) awake8 a0 a1 a2 a3 a4 a5) H enc W base args ds gs before hval hW hL
theorem said:Rows.StripeHidesSaid:=
 OpenClaim.holds_of_cond 7 Tryd.f7 rfl rfl rfl rfl rfl rfl rfl ⟨rfl,rfl,rfl,rfl,rfl⟩ rfl rfl rfl rfl rfl (by kernel_rfl) Tryd.func7 (by kernel_rfl)
  (of_decide_eq_true (by kernel_rfl)) (by unfold Func.isWrapper;first | (rw [if_pos (by decide +kernel)];kernel_rfl) | (rw [if_neg (by decide +kernel)];exact ⟨rfl,rfl⟩))
  (fun os started H enc _ F=>by rw [OpenClaim.pre_eq_preRow];exact lifted os started H enc F)
theorem plain (f:FuncId) (fn:Func) (hf:Tryd.pinned.checked.prog.funcNamed "kinkeep/kinkeeplaw30.StripeHides" = some f) (hfn:Tryd.pinned.checked.prog.funcs[f]? = some fn) :
  false=Tryd.pinned.checked.prog.looks []∧∀ (j:Nat) t,fn.params[j]? = some t->Tryd.pinned.checked.prog.wantsStandIn t=false:=by
 obtain rfl:f=7:=Option.some.inj ((show Tryd.prog.funcNamed "kinkeep/kinkeeplaw30.StripeHides" = some 7 by kernel_rfl).symm.trans hf) |>.symm
 obtain rfl:fn=Tryd.f7:=(Option.some.inj (Tryd.func7.symm.trans hfn)).symm
 refine ⟨by kernel_rfl,fun j t ht=>?_⟩
 rw [Tryd.params7] at ht
 have hm:=Array.mem_of_getElem? ht
 simp only [List.mem_toArray,List.mem_cons,List.not_mem_nil,or_false] at hm
 rcases hm with rfl | rfl | rfl | rfl | rfl | rfl
 ·exact (show Tryd.prog.wantsStandIn 43=false by kernel_rfl)
 ·exact (show Tryd.prog.wantsStandIn 43=false by kernel_rfl)
 ·exact (show Tryd.prog.wantsStandIn 43=false by kernel_rfl)
 ·exact (show Tryd.prog.wantsStandIn 55=false by kernel_rfl)
 ·exact (show Tryd.prog.wantsStandIn 3=false by kernel_rfl)
 ·exact (show Tryd.prog.wantsStandIn 3=false by kernel_rfl)
theorem proved:Rows.StripeHidesCardSaid:=
 Claim7.holds_tied_plain_at .later [] _ _ _ _ said (fun _ h=>by cases h) (by kernel_rfl) (fun _ h=>by cases h) stripeHides_row_tie rfl ⟨rfl,rfl⟩ (by kernel_rfl) rfl plain (by kernel_rfl)
#print axioms proved
end Go.Proofs.YtooplgiihmdfgaaDoor.stripeHides
