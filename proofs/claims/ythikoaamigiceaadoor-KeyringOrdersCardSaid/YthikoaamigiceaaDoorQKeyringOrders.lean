/- The given statement on KeyringOrders holds for every input; there is no condition. -/
import Derived.Test.YthikoaamigiceaaDoorCards
import Derived.Test.YthikoaamigiceaaDoorTie
import Derived.WalkKit
import Derived.ProofKit
import Derived.OpenShut
import Derived.Deep.DeepHandedRow
import Derived.Test.YthikoaamigiceaaDoorJ
import Derived.Test.YthikoaamigiceaaDoorPKeyringOrders
namespace Go.Proofs.YthikoaamigiceaaDoor.keyringOrders
open Go.ChangeShapes Go.WideShapes Go.ChangeAt Go.RowKit Go.Tw
open Go.ChangeMaps (open_string shut_string)
set_option linter.unusedVariables false

theorem own : ownKnob Tryd.prog.godebug = none := by kernel_rfl
theorem laidOut : laidOutB Tryd.prog = true := by kernel_rfl

set_option maxRecDepth 100000 in
theorem laidIs {W : World} (h : laidMetH Tryd.prog Rows.keyringOrdersRow.laid W) : laidMet Tryd.prog laidAll W := h

theorem snd (F : Nat) : Sound Tryd.prog cfg 7 (mkC 0 cA7 [] [.bo] [] (fun x _ => T7 F x.1.1 x.1.2.1 x.1.2.2.1 x.2.1.1 x.2.1.2.1 x.2.1.2.2.1 x.2.2.1.1 x.2.2.1.2.1 x.2.2.1.2.2.1) (fun x y (z : Bool) => ((z, ()), ()))) := ok7 F

set_option maxRecDepth 100000 in
theorem contract (F : Nat) (hT : ∀ (a0 : Ty.den (.pr .i (.pr .i (.pr (.sl .i) (.pr (.sl (.pr .i (.pr .i (.pr .i (.pr (.pr .s (.pr .i (.pr .i .un))) (.pr .i (.pr .i (.pr .s (.pr .bo .un))))))))) (.pr (.sl (.pr .s (.pr .i (.pr .i (.pr .i (.pr .i (.pr (.sl (.pr .s (.pr .i (.pr .i .un)))) .un))))))) (.pr (.sl (.pr .s (.pr .i (.pr .i .un)))) .un))))))) (a1 : Ty.den (.pr .i (.pr .i (.pr (.sl .i) (.pr (.sl (.pr .i (.pr .i (.pr .i (.pr (.pr .s (.pr .i (.pr .i .un))) (.pr .i (.pr .i (.pr .s (.pr .bo .un))))))))) (.pr (.sl (.pr .s (.pr .i (.pr .i (.pr .i (.pr .i (.pr (.sl (.pr .s (.pr .i (.pr .i .un)))) .un))))))) (.pr (.sl (.pr .s (.pr .i (.pr .i .un)))) .un))))))) (a2 : Ty.den (.pr .i (.pr .i (.pr (.sl .i) (.pr (.sl (.pr .i (.pr .i (.pr .i (.pr (.pr .s (.pr .i (.pr .i .un))) (.pr .i (.pr .i (.pr .s (.pr .bo .un))))))))) (.pr (.sl (.pr .s (.pr .i (.pr .i (.pr .i (.pr .i (.pr (.sl (.pr .s (.pr .i (.pr .i .un)))) .un))))))) (.pr (.sl (.pr .s (.pr .i (.pr .i .un)))) .un))))))), tyW (.pr .i (.pr .i (.pr (.sl .i) (.pr (.sl (.pr .i (.pr .i (.pr .i (.pr (.pr .s (.pr .i (.pr .i .un))) (.pr .i (.pr .i (.pr .s (.pr .bo .un))))))))) (.pr (.sl (.pr .s (.pr .i (.pr .i (.pr .i (.pr .i (.pr (.sl (.pr .s (.pr .i (.pr .i .un)))) .un))))))) (.pr (.sl (.pr .s (.pr .i (.pr .i .un)))) .un)))))) a0 → tyW (.pr .i (.pr .i (.pr (.sl .i) (.pr (.sl (.pr .i (.pr .i (.pr .i (.pr (.pr .s (.pr .i (.pr .i .un))) (.pr .i (.pr .i (.pr .s (.pr .bo .un))))))))) (.pr (.sl (.pr .s (.pr .i (.pr .i (.pr .i (.pr .i (.pr (.sl (.pr .s (.pr .i (.pr .i .un)))) .un))))))) (.pr (.sl (.pr .s (.pr .i (.pr .i .un)))) .un)))))) a1 → tyW (.pr .i (.pr .i (.pr (.sl .i) (.pr (.sl (.pr .i (.pr .i (.pr .i (.pr (.pr .s (.pr .i (.pr .i .un))) (.pr .i (.pr .i (.pr .s (.pr .bo .un))))))))) (.pr (.sl (.pr .s (.pr .i (.pr .i (.pr .i (.pr .i (.pr (.sl (.pr .s (.pr .i (.pr .i .un)))) .un))))))) (.pr (.sl (.pr .s (.pr .i (.pr .i .un)))) .un)))))) a2 → T7 F a0.1 a0.2.1 a0.2.2.1 a1.1 a1.2.1 a1.2.2.1 a2.1 a2.2.1 a2.2.2.1 = some true) (H : Type) (enc : TypeId × Value → H) (W : World) (base : Nat) (args : Array Value) (ds gs : List (DataW H)) (before : List MemPlace)
    (hval : ∀ (j : Nat) t v, Tryd.f7.params[j]? = some t → args[j]? = some v → Value.okWide Tryd.prog W .any base t v)
    (hW : DataW.Whole enc Tryd.prog Tryd.f7.params.toList Rows.keyringOrdersSpec.vars false W args.toList ds gs before) (hL : laidMetH Tryd.prog Rows.keyringOrdersRow.laid W) :
    Calls Tryd.prog 7 args W fun e W' => ∃ v, e = .returned v ∧ Rows.keyringOrdersSpec.post enc Tryd.prog Tryd.f7 false true false false W args v W' := by
  have hW' := hW
  obtain ⟨p, q, hA0, hV, rfl, hfz, hnd⟩ := hW
  have hA : DataW.TrodAll enc Tryd.prog W 0 (fun _ => true) true Tryd.f7.params.toList args.toList ds p := hA0
  rw [Tryd.params7] at hA hval
  obtain ⟨v0, vs0, d0, ds0, p0, q0, hargs, rfl, rfl, h0, r0⟩ := trodAll_cons hA
  obtain ⟨v1, vs1, d1, ds1, p1, q1, rfl, rfl, rfl, h1, r1⟩ := trodAll_cons r0
  obtain ⟨v2, vs2, d2, ds2, p2, q2, rfl, rfl, rfl, h2, r2⟩ := trodAll_cons r1
  obtain ⟨rfl, rfl, rfl⟩ := trodAll_nil r2
  obtain rfl : args = #[v0, v1, v2] := by cases args; simp_all
  obtain ⟨rfl, rfl⟩ := trodVars_none hV
  obtain ⟨c0, rfl, sz0⟩ := okWide_struct Tryd.underlying47 (hval 0 47 v0 rfl rfl)
  have k0 := h0
  have lt0 : ∀ x ∈ p0, x.block < W.heap.size := by obtain ⟨m, hm⟩ := k0; exact DataW.trod_lt m _ _ _ hm
  obtain ⟨f0, hf0⟩ := h0
  obtain ⟨a0, t0, w0⟩ := trod_ty 20 f0 47 (.pr .i (.pr .i (.pr (.sl .i) (.pr (.sl (.pr .i (.pr .i (.pr .i (.pr (.pr .s (.pr .i (.pr .i .un))) (.pr .i (.pr .i (.pr .s (.pr .bo .un))))))))) (.pr (.sl (.pr .s (.pr .i (.pr .i (.pr .i (.pr .i (.pr (.sl (.pr .s (.pr .i (.pr .i .un)))) .un))))))) (.pr (.sl (.pr .s (.pr .i (.pr .i .un)))) .un)))))) _ _ (by kernel_rfl) hf0
  have t0 : TR (ownAll W) (.pr .i (.pr .i (.pr (.sl .i) (.pr (.sl (.pr .i (.pr .i (.pr .i (.pr (.pr .s (.pr .i (.pr .i .un))) (.pr .i (.pr .i (.pr .s (.pr .bo .un))))))))) (.pr (.sl (.pr .s (.pr .i (.pr .i (.pr .i (.pr .i (.pr (.sl (.pr .s (.pr .i (.pr .i .un)))) .un))))))) (.pr (.sl (.pr .s (.pr .i (.pr .i .un)))) .un)))))) a0 c0.toList := t0
  obtain ⟨c1, rfl, sz1⟩ := okWide_struct Tryd.underlying47 (hval 1 47 v1 rfl rfl)
  have k1 := h1
  have lt1 : ∀ x ∈ p1, x.block < W.heap.size := by obtain ⟨m, hm⟩ := k1; exact DataW.trod_lt m _ _ _ hm
  obtain ⟨f1, hf1⟩ := h1
  obtain ⟨a1, t1, w1⟩ := trod_ty 20 f1 47 (.pr .i (.pr .i (.pr (.sl .i) (.pr (.sl (.pr .i (.pr .i (.pr .i (.pr (.pr .s (.pr .i (.pr .i .un))) (.pr .i (.pr .i (.pr .s (.pr .bo .un))))))))) (.pr (.sl (.pr .s (.pr .i (.pr .i (.pr .i (.pr .i (.pr (.sl (.pr .s (.pr .i (.pr .i .un)))) .un))))))) (.pr (.sl (.pr .s (.pr .i (.pr .i .un)))) .un)))))) _ _ (by kernel_rfl) hf1
  have t1 : TR (ownAll W) (.pr .i (.pr .i (.pr (.sl .i) (.pr (.sl (.pr .i (.pr .i (.pr .i (.pr (.pr .s (.pr .i (.pr .i .un))) (.pr .i (.pr .i (.pr .s (.pr .bo .un))))))))) (.pr (.sl (.pr .s (.pr .i (.pr .i (.pr .i (.pr .i (.pr (.sl (.pr .s (.pr .i (.pr .i .un)))) .un))))))) (.pr (.sl (.pr .s (.pr .i (.pr .i .un)))) .un)))))) a1 c1.toList := t1
  obtain ⟨c2, rfl, sz2⟩ := okWide_struct Tryd.underlying47 (hval 2 47 v2 rfl rfl)
  have k2 := h2
  have lt2 : ∀ x ∈ p2, x.block < W.heap.size := by obtain ⟨m, hm⟩ := k2; exact DataW.trod_lt m _ _ _ hm
  obtain ⟨f2, hf2⟩ := h2
  obtain ⟨a2, t2, w2⟩ := trod_ty 20 f2 47 (.pr .i (.pr .i (.pr (.sl .i) (.pr (.sl (.pr .i (.pr .i (.pr .i (.pr (.pr .s (.pr .i (.pr .i .un))) (.pr .i (.pr .i (.pr .s (.pr .bo .un))))))))) (.pr (.sl (.pr .s (.pr .i (.pr .i (.pr .i (.pr .i (.pr (.sl (.pr .s (.pr .i (.pr .i .un)))) .un))))))) (.pr (.sl (.pr .s (.pr .i (.pr .i .un)))) .un)))))) _ _ (by kernel_rfl) hf2
  have t2 : TR (ownAll W) (.pr .i (.pr .i (.pr (.sl .i) (.pr (.sl (.pr .i (.pr .i (.pr .i (.pr (.pr .s (.pr .i (.pr .i .un))) (.pr .i (.pr .i (.pr .s (.pr .bo .un))))))))) (.pr (.sl (.pr .s (.pr .i (.pr .i (.pr .i (.pr .i (.pr (.sl (.pr .s (.pr .i (.pr .i .un)))) .un))))))) (.pr (.sl (.pr .s (.pr .i (.pr .i .un)))) .un)))))) a2 c2.toList := t2
  clear hA0
  have walk := law_ok (snd F) (a0, a1, a2, ()) (hT a0 a1 a2 w0 w1 w2) (go (laidIs hL)) (args := #[.agg c0, .agg c1, .agg c2]) (RL_st (ofP_R t0) (RL_st (ofP_R t1) (RL_st (ofP_R t2) RL_nil))) rfl
  refine walk.mono fun e W' ⟨he, bel⟩ => ?_
  subst he
  exact ⟨_, rfl, _, _, _, [], _, [], hW', trodAll_mk1 (shut_bool Tryd.underlying4 _), (trodAll_cons_mk (Below.trod laidOut (by kernel_rfl) (of_decide_eq_true (by kernel_rfl)) k0 bel lt0) (trodAll_cons_mk (Below.trod laidOut (by kernel_rfl) (of_decide_eq_true (by kernel_rfl)) k1 bel lt1) (trodAll_cons_mk (Below.trod laidOut (by kernel_rfl) (of_decide_eq_true (by kernel_rfl)) k2 bel lt2) trodAll_mk0))), rfl, bel.frame _, fun h => by cases h⟩

theorem laid_met (os : Os) : laidMet Tryd.prog Rows.keyringOrdersRow.laid ((laidWorld os).forCall (fun _ _ => 0) ⟨#[], #[.agg #[(.int .i64 0), (.int .i64 0), (.slice none 0 0), (.slice none 0 0), (.slice none 0 0), (.slice none 0 0)], .agg #[(.int .i64 0), (.int .i64 0), (.slice none 0 0), (.slice none 0 0), (.slice none 0 0), (.slice none 0 0)], .agg #[(.int .i64 0), (.int .i64 0), (.slice none 0 0), (.slice none 0 0), (.slice none 0 0), (.slice none 0 0)]], []⟩).memory :=
  laidMet_of_run' 80 (by kernel_rfl) (by kernel_rfl)
theorem reads (os : Os) {H : Type} (enc : TypeId × Value → H) : ∃ places, DataW.whole enc Tryd.prog ((laidWorld os).forCall (fun _ _ => 0) ⟨#[], #[.agg #[(.int .i64 0), (.int .i64 0), (.slice none 0 0), (.slice none 0 0), (.slice none 0 0), (.slice none 0 0)], .agg #[(.int .i64 0), (.int .i64 0), (.slice none 0 0), (.slice none 0 0), (.slice none 0 0), (.slice none 0 0)], .agg #[(.int .i64 0), (.int .i64 0), (.slice none 0 0), (.slice none 0 0), (.slice none 0 0), (.slice none 0 0)]], []⟩).memory Tryd.f7.params.toList Rows.keyringOrdersSpec.vars false (#[.agg #[(.int .i64 0), (.int .i64 0), (.slice none 0 0), (.slice none 0 0), (.slice none 0 0), (.slice none 0 0)], .agg #[(.int .i64 0), (.int .i64 0), (.slice none 0 0), (.slice none 0 0), (.slice none 0 0), (.slice none 0 0)], .agg #[(.int .i64 0), (.int .i64 0), (.slice none 0 0), (.slice none 0 0), (.slice none 0 0), (.slice none 0 0)]] : Array Value).toList 80 = some ([.agg [.lit (.int .i64 0), .lit (.int .i64 0), .nil, .nil, .nil, .nil], .agg [.lit (.int .i64 0), .lit (.int .i64 0), .nil, .nil, .nil, .nil], .agg [.lit (.int .i64 0), .lit (.int .i64 0), .nil, .nil, .nil, .nil]], [], places) :=
  ⟨[], by kernel_rfl⟩

set_option maxRecDepth 100000 in
theorem lifted (os : Os) (started : os.Started) (H : Type) (enc : TypeId × Value → H) (F : Stop.Interp) :
    ReturnsInHanded {} Tryd.checked os 7 .any ((OpenSpec.ofChange Rows.keyringOrdersSpec).preRow enc Tryd.prog Tryd.f7 Rows.keyringOrdersRow.domain false Rows.keyringOrdersRow.laid) (((OpenSpec.ofChange Rows.keyringOrdersSpec).at F).post enc Tryd.prog Tryd.f7 false true false false) := by
  obtain ⟨places, hx⟩ := reads os enc
  refine returnsInHanded_of_row (C := Tryd.checked) (s := OpenSpec.ofChange Rows.keyringOrdersSpec) own started (by kernel_rfl) Tryd.func7
    (witness_row_at (enc := enc) (C := Tryd.checked) false (laidWorld os) #[.agg #[(.int .i64 0), (.int .i64 0), (.slice none 0 0), (.slice none 0 0), (.slice none 0 0), (.slice none 0 0)], .agg #[(.int .i64 0), (.int .i64 0), (.slice none 0 0), (.slice none 0 0), (.slice none 0 0), (.slice none 0 0)], .agg #[(.int .i64 0), (.int .i64 0), (.slice none 0 0), (.slice none 0 0), (.slice none 0 0), (.slice none 0 0)]] rfl (by kernel_rfl) (by kernel_rfl) (by kernel_rfl)
      (OpenSpec.preRow_of_cond 80 hx (by kernel_rfl) (fun k hk => by cases hk) (by kernel_rfl) (laid_met os))) ?_
  intro W base args ds gs before hval hW _ _ _ hL _ _
  exact contract 1000 plaw7 H enc W base args ds gs before hval hW hL

theorem said : Rows.KeyringOrdersSaid :=
  OpenClaim.holds_of_cond 7 Tryd.f7 rfl rfl rfl rfl rfl rfl rfl ⟨rfl, rfl, rfl, rfl, rfl⟩ rfl rfl rfl rfl rfl (by kernel_rfl) Tryd.func7 (by kernel_rfl)
    (of_decide_eq_true (by kernel_rfl)) (by unfold Func.isWrapper; first | (rw [if_pos (by decide +kernel)]; kernel_rfl) | (rw [if_neg (by decide +kernel)]; exact ⟨rfl, rfl⟩))
    (fun os started H enc _ F => by rw [OpenClaim.pre_eq_preRow]; exact lifted os started H enc F)

theorem plain (f : FuncId) (fn : Func) (hf : Tryd.pinned.checked.prog.funcNamed "kinkeep/kinkeeplaw31.KeyringOrders" = some f) (hfn : Tryd.pinned.checked.prog.funcs[f]? = some fn) :
    false = Tryd.pinned.checked.prog.looks [] ∧ ∀ (j : Nat) t, fn.params[j]? = some t → Tryd.pinned.checked.prog.wantsStandIn t = false := by
  obtain rfl : f = 7 := Option.some.inj ((show Tryd.prog.funcNamed "kinkeep/kinkeeplaw31.KeyringOrders" = some 7 by kernel_rfl).symm.trans hf) |>.symm
  obtain rfl : fn = Tryd.f7 := (Option.some.inj (Tryd.func7.symm.trans hfn)).symm
  refine ⟨by kernel_rfl, fun j t ht => ?_⟩
  rw [Tryd.params7] at ht
  have hm := Array.mem_of_getElem? ht
  simp only [List.mem_toArray, List.mem_cons, List.not_mem_nil, or_false] at hm
  rcases hm with rfl | rfl | rfl
  · exact (show Tryd.prog.wantsStandIn 47 = false by kernel_rfl)
  · exact (show Tryd.prog.wantsStandIn 47 = false by kernel_rfl)
  · exact (show Tryd.prog.wantsStandIn 47 = false by kernel_rfl)

theorem proved : Rows.KeyringOrdersCardSaid :=
  Claim7.holds_tied_plain_at .later [] _ _ _ _ said (fun _ h => by cases h) (by kernel_rfl) (fun _ h => by cases h) keyringOrders_row_tie rfl ⟨rfl, rfl⟩ (by kernel_rfl) rfl plain (by kernel_rfl)
#print axioms proved
end Go.Proofs.YthikoaamigiceaaDoor.keyringOrders
