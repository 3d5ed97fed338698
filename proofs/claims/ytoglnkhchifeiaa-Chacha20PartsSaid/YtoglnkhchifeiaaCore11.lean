/- From what a row hands over to what a walk takes, and back. Loops in plain form. No program is in it. -/
import Derived.Test.YtoglnkhchifeiaaCore10
import Derived.OpenShut
import Derived.WalkKit
import Derived.ProofKit
import Derived.ShutString
import Derived.ChangeOld
namespace Go.Tw
set_option linter.unusedSimpArgs false
set_option linter.unusedVariables false
open Go.RowKit

/-- A slice of integers that came in. -/
def IsRow (k : IntKind) (w : World) (a : Option Addr) (len cap : Nat) (zs : List Int) : Prop :=
  (a = none ∧ len = 0 ∧ cap = 0 ∧ zs = []) ∨
  ∃ x, a = some x ∧ len ≤ cap ∧ cap ≤ maxLen ∧ zs.length = cap ∧ (∀ i, i < zs.length → w.cell? (x.add i) = some (.int k (zs.getD i 0))) ∧ ∀ n ∈ zs, (Lit.int k n).wf = true

theorem of_u8 {a : Int} (h : (Lit.int .u8 a).wf = true) : ∃ x : UInt8, a = (x.toNat : Int) := by
  simp [Lit.wf, IntKind.min, IntKind.max, IntKind.signed, IntKind.bits] at h
  exact ⟨UInt8.ofNat a.toNat, by simp; omega⟩
theorem of_u32 {a : Int} (h : (Lit.int .u32 a).wf = true) : ∃ x : UInt32, a = (x.toNat : Int) := by
  simp [Lit.wf, IntKind.min, IntKind.max, IntKind.signed, IntKind.bits] at h
  exact ⟨UInt32.ofNat a.toNat, by simp; omega⟩
theorem of_u64 {a : Int} (h : (Lit.int .u64 a).wf = true) : ∃ x : UInt64, a = (x.toNat : Int) := by
  simp [Lit.wf, IntKind.min, IntKind.max, IntKind.signed, IntKind.bits] at h
  exact ⟨UInt64.ofNat a.toNat, by simp; omega⟩
theorem of_i64 {a : Int} (h : (Lit.int .i64 a).wf = true) : -9223372036854775808 ≤ a ∧ a ≤ 9223372036854775807 := by
  simpa [Lit.wf, IntKind.min, IntKind.max, IntKind.signed, IntKind.bits] using h
theorem of_str (a : ByteArray) : Value.string a = vS a.data.toList := by simp [vS]

theorem of_bytes {w : World} {a : Option Addr} {len cap : Nat} {zs : List Int} (h : IsRow .u8 w a len cap zs) : ∃ xs : List UInt8, xs.length = len ∧ TRd w vU8 (.slice a len cap) xs := by
  rcases h with ⟨rfl, rfl, rfl, rfl⟩ | ⟨x, rfl, hl, hm, hz, hc, hw⟩
  · exact ⟨[], rfl, rfl, .inl ⟨rfl, _, _, rfl⟩⟩
  · have key : ∀ n ∈ zs, n = ((UInt8.ofNat n.toNat).toNat : Int) := fun n hn => by
      obtain ⟨y, hy⟩ := of_u8 (hw n hn)
      subst hy; simp
    refine ⟨(zs.take len).map fun n => UInt8.ofNat n.toNat, by simp; omega, ?_⟩
    have hlen : ((zs.take len).map fun n => UInt8.ofNat n.toNat).length = len := by simp; omega
    refine ⟨by simp, ?_⟩
    rw [hlen]
    by_cases h0 : len = 0
    · subst h0; exact .inl ⟨rfl, _, _, rfl⟩
    · obtain ⟨b, off, sp⟩ := x
      have hc0 := hc 0 (by omega)
      have hadd0 : (⟨b, off, sp⟩ : Addr).add 0 = ⟨b, off, sp⟩ := by simp [Addr.add]
      rw [hadd0] at hc0
      unfold World.cell? at hc0
      split at hc0
      · rename_i all ty fz hb
        split at hc0
        · cases hc0
        · rename_i hsp
          have hsp' : sp = none := by simpa using hsp
          subst hsp'
          refine .inr ⟨b, off, cap, all, ty, fz, rfl, hl, hb, fun j c hj => ?_⟩
          have hjl : j < len := by have := (List.getElem?_eq_some_iff.1 hj).1; simp at this; omega
          have hj2 := hc j (by omega)
          rw [add_zero _ rfl] at hj2
          simp only [World.cell?, hb] at hj2
          simp only [Option.isSome_none, Bool.false_eq_true, if_false] at hj2
          rw [hj2]
          have hzj : zs[j]? = some (zs.getD j 0) := by simp [List.getD, show j < zs.length by omega]
          have hmem : zs.getD j 0 ∈ zs := List.mem_of_getElem? hzj
          rw [List.map_map, List.getElem?_map, List.getElem?_take, if_pos hjl, hzj] at hj
          simp only [Option.map_some, Function.comp, Option.some.injEq] at hj
          rw [← hj]
          exact congrArg some (congrArg (Value.int .u8) (key _ hmem))
      · cases hc0

theorem calls_true {P : Program} {f : FuncId} {args : Array Value} {w : World} {r : Bool} (h : Calls P f args w (Ret fun v w' => v = (S0.b r).val ∧ HA w none1 none1 w' [])) (hr : r = true) :
    Calls P f args w (fun e w' => e = .returned (.bool true) ∧ Below w.heap.size w w') :=
  h.mono fun e w' he => by
    cases e with
    | returned v => obtain ⟨rfl, H⟩ := he; subst hr; exact ⟨rfl, H.kept.below⟩
    | panicked c => exact he.elim
    | outgrown => exact he.elim

/- ## loops -/
def upto {σ : Type} (g : Nat → σ → σ) : Nat → σ → σ
  | 0, s => s
  | k + 1, s => g k (upto g k s)

theorem iter_count {σ : Type} {body : Int × σ → Option ((Int × σ) ⊕ (Int × σ))} {n : Nat} {g : Nat → σ → σ} (Q : Nat → σ → Prop)
    (hstep : ∀ i : Nat, i < n → ∀ s, Q i s → body ((i : Int), s) = some (.inl (((i + 1 : Nat) : Int), g i s)) ∧ Q (i + 1) (g i s)) (hend : ∀ s, Q n s → body ((n : Int), s) = some (.inr ((n : Int), s)))
    {F : Nat} (hF : n < F) {s0 : σ} (h0 : Q 0 s0) : iter body F ((0 : Int), s0) = some ((n : Int), upto g n s0) ∧ Q n (upto g n s0) := by
  have hQ : ∀ k, k ≤ n → Q k (upto g k s0) := by
    intro k
    induction k with
    | zero => intro _; exact h0
    | succ k ih => intro hk; exact (hstep k (by omega) _ (ih (by omega))).2
  have key : ∀ m k F, k + m = n → m < F → iter body F ((k : Int), upto g k s0) = some ((n : Int), upto g n s0) := by
    intro m
    induction m with
    | zero =>
      intro k F hk hF
      obtain ⟨F, rfl⟩ : ∃ F', F = F' + 1 := ⟨F - 1, by omega⟩
      simp only [Nat.add_zero] at hk; subst hk
      simp [iter, hend _ (hQ k (Nat.le_refl _))]
    | succ m ih =>
      intro k F hk hF
      obtain ⟨F, rfl⟩ : ∃ F', F = F' + 1 := ⟨F - 1, by omega⟩
      have h1 := (hstep k (by omega) _ (hQ k (by omega))).1
      simp only [iter, h1, Option.bind_some]
      exact ih (k + 1) F (by omega) (by omega)
  exact ⟨key n 0 F (by omega) hF, hQ n (Nat.le_refl _)⟩

/-- The next state of a round, by its twin. -/
def nxt {σ ρ : Type} (r : Option ((Int × σ) ⊕ ρ)) (d : σ) : σ :=
  match r with
  | some (.inl p) => p.2
  | _ => d
end Go.Tw
