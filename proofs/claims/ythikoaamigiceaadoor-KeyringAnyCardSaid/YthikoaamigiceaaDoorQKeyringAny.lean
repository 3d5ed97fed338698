/- The given statement on KeyringAny holds for every input; there is no condition. -/
import Derived.Test.YthikoaamigiceaaDoorCards
import Derived.Test.YthikoaamigiceaaDoorTie
import Derived.WalkKit
import Derived.ProofKit
import Derived.OpenShut
import Derived.Deep.DeepHandedRow
import Derived.Test.YthikoaamigiceaaDoorJ
import Derived.Test.YthikoaamigiceaaDoorPKeyringAny
namespace Go.Proofs.YthikoaamigiceaaDoor.keyringAny
open Go.ChangeShapes Go.WideShapes Go.ChangeAt Go.RowKit Go.Tw
open Go.ChangeMaps (open_string shut_string)
set_option linter.unusedSimpArgs false
set_option linter.unusedVariables false
theorem own:ownKnob Tryd.prog.godebug=none:=by kernel_rfl
theorem laidOut:laidOutB Tryd.prog=true:=by kernel_rfl
set_option maxRecDepth 100000 in
theorem laidIs {W:World} (h:laidMetH Tryd.prog Rows.keyringAnyRow.laid W):laidMet Tryd.prog laidAll W:=h
theorem snd (F:Nat):Sound Tryd.prog cfg 8 (mkC 0 cA8 [] [.bo] [] (fun x _=>T8 F x.1 x.2.1 x.2.2.1 x.2.2.2.1 x.2.2.2.2.1) (fun x y (z:Bool)=>((z,()),()))):=ok8 F
set_option maxRecDepth 100000 in
theorem contract (F:Nat) (hT:∀ (a0:UInt8) (a1:Int) (a2:List UInt8) (a3:Ty.den (.sl .i)) (a4:UInt8),(-9223372036854775808≤a1∧a1≤9223372036854775807)->a2.length≤maxLen->tyW (.sl .i) a3->T8 F a0 a1 a2 a3 a4=some true) (H:Type) (enc:TypeId×Value->H) (W:World) (base:Nat) (args:Array Value) (ds gs:List (DataW H)) (before:List MemPlace)
  (hval:∀ (j:Nat) t v,Tryd.f8.params[j]? = some t->args[j]? = some v->Value.okWide Tryd.prog W .any base t v)
  (hW:DataW.Whole enc Tryd.prog Tryd.f8.params.toList Rows.keyringAnySpec.vars false W args.toList ds gs before) (hL:laidMetH Tryd.prog Rows.keyringAnyRow.laid W) :
  Calls Tryd.prog 8 args W fun e W'=>∃ v,e=.returned v∧Rows.keyringAnySpec.post enc Tryd.prog Tryd.f8 false true false false W args v W':=by
 have hW':=hW
 obtain ⟨p,q,hA0,hV,rfl,hfz,hnd⟩:=hW
 have hA:DataW.TrodAll enc Tryd.prog W 0 (fun _=>true) true Tryd.f8.params.toList args.toList ds p:=hA0
 rw [Tryd.params8] at hA hval
 obtain ⟨v0,vs0,d0,ds0,p0,q0,hargs,rfl,rfl,h0,r0⟩:=trodAll_cons hA
 obtain ⟨v1,vs1,d1,ds1,p1,q1,rfl,rfl,rfl,h1,r1⟩:=trodAll_cons r0
 obtain ⟨v2,vs2,d2,ds2,p2,q2,rfl,rfl,rfl,h2,r2⟩:=trodAll_cons r1
 obtain ⟨v3,vs3,d3,ds3,p3,q3,rfl,rfl,rfl,h3,r3⟩:=trodAll_cons r2
 obtain ⟨v4,vs4,d4,ds4,p4,q4,rfl,rfl,rfl,h4,r4⟩:=trodAll_cons r3
 obtain ⟨rfl,rfl,rfl⟩:=trodAll_nil r4
 obtain rfl:args = #[v0,v1,v2,v3,v4]:=by cases args;simp_all
 obtain ⟨rfl,rfl⟩:=trodVars_none hV
 obtain ⟨b0,rfl,rfl,rfl,w0⟩:=open_int Tryd.underlying5 (hval 0 5 v0 rfl rfl) h0
 obtain ⟨a0,rfl⟩:=of_u8 w0
 obtain ⟨a1,rfl,rfl,rfl,w1⟩:=open_int Tryd.underlying3 (hval 1 3 v1 rfl rfl) h1
 obtain ⟨u2,len2,cap2,rfl⟩:=okWide_slice Tryd.underlying23 (hval 2 23 v2 rfl rfl)
 have k2:=h2
 have lt2:∀ x ∈ p2,x.block < W.heap.size:=by obtain ⟨m,hm⟩:=k2;exact DataW.trod_lt m _ _ _ hm
 obtain ⟨a2,l2,t2⟩:=open_bytes3 Tryd.underlying23 Tryd.underlying5 (by kernel_rfl) h2
 obtain ⟨u3,len3,cap3,rfl⟩:=okWide_slice Tryd.underlying22 (hval 3 22 v3 rfl rfl)
 have k3:=h3
 have lt3:∀ x ∈ p3,x.block < W.heap.size:=by obtain ⟨m,hm⟩:=k3;exact DataW.trod_lt m _ _ _ hm
 obtain ⟨f3,hf3⟩:=h3
 obtain ⟨a3,t3,w3⟩:=trod_ty 20 f3 22 (.sl .i) _ _ (by kernel_rfl) hf3
 have t3:TR (ownAll W) (.sl .i) a3 [.slice u3 len3 cap3]:=t3
 obtain ⟨b4,rfl,rfl,rfl,w4⟩:=open_int Tryd.underlying5 (hval 4 5 v4 rfl rfl) h4
 obtain ⟨a4,rfl⟩:=of_u8 w4
 clear hA0
 have walk:=law_ok (snd F) (a0,a1,a2,a3,a4,()) (hT a0 a1 a2 a3 a4 (of_i64 w1) l2 w3) (go (laidIs hL)) (args:=#[.int .u8 (a0.toNat:Int),.int .i64 a1,.slice u2 len2 cap2,.slice u3 len3 cap3,.int .u8 (a4.toNat:Int)]) (RL_u8 (RL_i (RL_ro (t:=.u8) t2 (RL_ro (t:=.i) t3 (RL_u8 RL_nil))))) rfl
 refine walk.mono fun e W' ⟨he,bel⟩=>?_
 subst he
 exact ⟨_,rfl,_,_,_,[],_,[],hW',trodAll_mk1 (shut_bool Tryd.underlying4 _),(trodAll_cons_mk (shut_int Tryd.underlying5 w0) (trodAll_cons_mk (shut_int Tryd.underlying3 w1) (trodAll_cons_mk (Below.trod laidOut (by kernel_rfl) (of_decide_eq_true (by kernel_rfl)) k2 bel lt2) (trodAll_cons_mk (Below.trod laidOut (by kernel_rfl) (of_decide_eq_true (by kernel_rfl)) k3 bel lt3) (trodAll_cons_mk (shut_int Tryd.underlying5 w4) trodAll_mk0))))),rfl,bel.frame _,fun h=>by cases h⟩
theorem laid_met (os:Os):laidMet Tryd.prog Rows.keyringAnyRow.laid ((laidWorld os).forCall (fun _ _=>0) ⟨#[],#[.int .u8 0,.int .i64 0,.slice none 0 0,.slice none 0 0,.int .u8 0],[]⟩).memory:=
 laidMet_of_run' 80 (by kernel_rfl) (by kernel_rfl)
theorem reads (os:Os) {H:Type} (enc:TypeId×Value->H):∃ places,DataW.whole enc Tryd.prog ((laidWorld os).forCall (fun _ _=>0) ⟨#[],#[.int .u8 0,.int .i64 0,.slice none 0 0,.slice none 0 0,.int .u8 0],[]⟩).memory Tryd.f8.params.toList Rows.keyringAnySpec.vars false (#[.int .u8 0,.int .i64 0,.slice none 0 0,.slice none 0 0,.int .u8 0]:Array Value).toList 80=some ([.lit (.int .u8 0),.lit (.int .i64 0),.nil,.nil,.lit (.int .u8 0)],[],places):=
 ⟨[],by kernel_rfl⟩
set_option maxRecDepth 100000 in
theorem lifted (os:Os) (started:os.Started) (H:Type) (enc:TypeId×Value->H) (F:Stop.Interp) :
  ReturnsInHanded {} Tryd.checked os 8 .any ((OpenSpec.ofChange Rows.keyringAnySpec).preRow enc Tryd.prog Tryd.f8 Rows.keyringAnyRow.domain false Rows.keyringAnyRow.laid) (((OpenSpec.ofChange Rows.keyringAnySpec).at F).post enc Tryd.prog Tryd.f8 false true false false):=by
 obtain ⟨places,hx⟩:=reads os enc
 refine returnsInHanded_of_row (C:=Tryd.checked) (s:=OpenSpec.ofChange Rows.keyringAnySpec) own started (by kernel_rfl) Tryd.func8
  (witness_row_at (enc:=enc) (C:=Tryd.checked) false (laidWorld os) #[.int .u8 0,.int .i64 0,.slice none 0 0,.slice none 0 0,.int .u8 0] rfl (by kernel_rfl) (by kernel_rfl) (by kernel_rfl)
   (OpenSpec.preRow_of_cond 80 hx (by kernel_rfl) (fun k hk=>by cases hk) (by kernel_rfl) (laid_met os))) ?_
 intro W base args ds gs before hval hW _ _ _ hL _ _
 exact contract 10000 plaw8 H enc W base args ds gs before hval hW hL
theorem said:Rows.KeyringAnySaid:=
 OpenClaim.holds_of_cond 8 Tryd.f8 rfl rfl rfl rfl rfl rfl rfl ⟨rfl,rfl,rfl,rfl,rfl⟩ rfl rfl rfl rfl rfl (by kernel_rfl) Tryd.func8 (by kernel_rfl)
  (of_decide_eq_true (by kernel_rfl)) (by unfold Func.isWrapper;first | (rw [if_pos (by decide +kernel)];kernel_rfl) | (rw [if_neg (by decide +kernel)];exact ⟨rfl,rfl⟩))
  (fun os started H enc _ F=>by rw [OpenClaim.pre_eq_preRow];exact lifted os started H enc F)
theorem plain (f:FuncId) (fn:Func) (hf:Tryd.pinned.checked.prog.funcNamed "kinkeep/kinkeeplaw31.KeyringAny" = some f) (hfn:Tryd.pinned.checked.prog.funcs[f]? = some fn) :
  false=Tryd.pinned.checked.prog.looks []∧∀ (j:Nat) t,fn.params[j]? = some t->Tryd.pinned.checked.prog.wantsStandIn t=false:=by
 obtain rfl:f=8:=Option.some.inj ((show Tryd.prog.funcNamed "kinkeep/kinkeeplaw31.KeyringAny" = some 8 by kernel_rfl).symm.trans hf) |>.symm
 obtain rfl:fn=Tryd.f8:=(Option.some.inj (Tryd.func8.symm.trans hfn)).symm
 refine ⟨by kernel_rfl,fun j t ht=>?_⟩
 rw [Tryd.params8] at ht
 have hm:=Array.mem_of_getElem? ht
 simp only [List.mem_toArray,List.mem_cons,List.not_mem_nil,or_false] at hm
 rcases hm with rfl | rfl | rfl | rfl | rfl
 ·exact (show Tryd.prog.wantsStandIn 5=false by kernel_rfl)
 ·exact (show Tryd.prog.wantsStandIn 3=false by kernel_rfl)
 ·exact (show Tryd.prog.wantsStandIn 23=false by kernel_rfl)
 ·exact (show Tryd.prog.wantsStandIn 22=false by kernel_rfl)
 ·exact (show Tryd.prog.wantsStandIn 5=false by kernel_rfl)
theorem proved:Rows.KeyringAnyCardSaid:=
 Claim7.holds_tied_plain_at .later [] _ _ _ _ said (fun _ h=>by cases h) (by kernel_rfl) (fun _ h=>by cases h) keyringAny_row_tie rfl ⟨rfl,rfl⟩ (by kernel_rfl) rfl plain (by kernel_rfl)
#print axioms proved
end Go.Proofs.YthikoaamigiceaaDoor.keyringAny
