/- Memory: blocks, readable slices, owned slices; what is known of the memory at a point of a walk. No program is in it. -/
import Derived.Test.YtoglnkhchifeiaaCore3
import Derived.Laws.AppendOwn
namespace Go.Tw
set_option linter.unusedSimpArgs false
set_option linter.unusedVariables false

/-- The cells of a block; none of them is frozen. -/
def Blk (w : World) (b : Nat) (cs : List Value) (ty : TypeId) : Prop :=
  ∃ fz : Nat × Nat, w.heap[b]? = some (.cells cs.toArray ty fz) ∧ ∀ o, o < cs.length → ¬ (fz.1 ≤ o ∧ o < fz.2)

/-- A slice that reads as n elements of k cells each. -/
def Rd (w : World) (k : Nat) (v : Value) (n : Nat) (cs : List Value) : Prop :=
  cs.length = n * k ∧ ((n = 0 ∧ ∃ b c, v = .slice b 0 c) ∨
    ∃ b off cap all ty fz, v = .slice (some ⟨b, off, none⟩) n cap ∧ n ≤ cap ∧ w.heap[b]? = some (.cells all ty fz) ∧ ∀ j c, cs[j]? = some c → all[off + j]? = some c)

/-- A slice that owns its block. -/
def Row (w : World) (E k : Nat) (v : Value) (n : Nat) (cs : List Value) : Prop :=
  cs.length = n * k ∧ ((v = .slice none 0 0 ∧ n = 0) ∨
    ∃ b cap sp, v = .slice (some ⟨b, 0, none⟩) n cap ∧ n ≤ cap ∧ Blk w b (cs ++ sp) E ∧ (cs ++ sp).length = cap * k ∧ cap ≤ maxLen)

def blockOf : Value → Nat → Prop
  | .slice (some a) _ _, b => a.block = b
  | .pointer (some a), b => a.block = b
  | _, _ => False

/-- What is known of the memory: a block of the call's own; a block that was lent to it; a slice that owns its block; a slice that can be read. -/
inductive Rs where
  | blk (b : Nat) (cs : List Value) (ty : TypeId)
  | lb (b : Nat) (cs : List Value) (ty : TypeId)
  | row (E k : Nat) (v : Value) (n : Nat) (cs : List Value)
  | rd (k : Nat) (v : Value) (n : Nat) (cs : List Value)

def Rs.foot : Rs → Nat → Prop
  | .blk b _ _, x => b = x
  | .lb b _ _, x => b = x
  | .row _ _ v _ _, x => blockOf v x
  | .rd _ v n _, x => n ≠ 0 ∧ blockOf v x

def Rs.lent : Rs → Bool
  | .lb _ _ _ => true
  | _ => false

def Rs.holds : Rs → World → Prop
  | .blk b cs ty, w => Blk w b cs ty
  | .lb b cs ty, w => Blk w b cs ty
  | .row E k v n cs, w => Row w E k v n cs
  | .rd k v n cs, w => Rd w k v n cs

theorem Blk.same {w w' : World} {b : Nat} {cs : List Value} {ty : TypeId} (h : Blk w b cs ty) (e : w'.heap[b]? = w.heap[b]?) : Blk w' b cs ty := by
  obtain ⟨fz, h1, h2⟩ := h
  exact ⟨fz, e.trans h1, h2⟩

theorem Blk.lt {w : World} {b : Nat} {cs : List Value} {ty : TypeId} (h : Blk w b cs ty) : b < w.heap.size := by
  obtain ⟨fz, h1, h2⟩ := h
  exact (Array.getElem?_eq_some_iff.1 h1).1

theorem Rs.same {r : Rs} {w w' : World} (e : ∀ b, r.foot b → w'.heap[b]? = w.heap[b]?) (h : r.holds w) : r.holds w' := by
  cases r with
  | blk b cs ty => exact Blk.same h (e b rfl)
  | lb b cs ty => exact Blk.same h (e b rfl)
  | row E k v n cs =>
    obtain ⟨h1, h2⟩ := h
    refine ⟨h1, ?_⟩
    rcases h2 with h2 | ⟨b, cap, sp, rfl, h0, h3, h4⟩
    · exact .inl h2
    · exact .inr ⟨b, cap, sp, rfl, h0, h3.same (e b rfl), h4⟩
  | rd k v n cs =>
    obtain ⟨h1, h2⟩ := h
    refine ⟨h1, ?_⟩
    by_cases hn : n = 0
    · rcases h2 with h2 | ⟨b, off, cap, all, ty, fz, rfl, h0, h3, h4⟩
      · exact .inl h2
      · subst hn; exact .inl ⟨rfl, _, _, rfl⟩
    · rcases h2 with h2 | ⟨b, off, cap, all, ty, fz, rfl, h0, h3, h4⟩
      · exact .inl h2
      · exact .inr ⟨b, off, cap, all, ty, fz, rfl, h0, (e b ⟨hn, rfl⟩).trans h3, h4⟩

theorem Rs.lt {r : Rs} {w : World} (h : r.holds w) : ∀ b, r.foot b → b < w.heap.size := by
  intro x hx
  cases r with
  | blk b cs ty => cases hx; exact Blk.lt h
  | lb b cs ty => cases hx; exact Blk.lt h
  | row E k v n cs =>
    obtain ⟨_, h2⟩ := h
    rcases h2 with ⟨rfl, _⟩ | ⟨b, cap, sp, rfl, h0, h3, h4⟩
    · exact hx.elim
    · cases hx; exact h3.lt
  | rd k v n cs =>
    obtain ⟨_, h2⟩ := h
    rcases h2 with ⟨hn, _⟩ | ⟨b, off, cap, all, ty, fz, rfl, h0, h3, h4⟩
    · exact absurd hn hx.1
    · cases hx.2; exact (Array.getElem?_eq_some_iff.1 h3).1

theorem Rd.same {w w' : World} {k : Nat} {v : Value} {n : Nat} {cs : List Value} (h : Rd w k v n cs) (e : ∀ b, n ≠ 0 → blockOf v b → w'.heap[b]? = w.heap[b]?) : Rd w' k v n cs :=
  Rs.same (r := .rd k v n cs) (fun b hb => e b hb.1 hb.2) h

/-- What has become of a world: S, the old blocks that may have changed. -/
structure Kept (S : Nat → Prop) (w w' : World) : Prop where
  os : w'.os = w.os
  tape : w'.tape = w.tape
  output : w'.output = w.output
  size : w.heap.size ≤ w'.heap.size
  block : ∀ k, k < w.heap.size → ¬ S k → w'.heap[k]? = w.heap[k]?

abbrev none1 : Nat → Prop := fun _ => False

theorem Kept.refl (S : Nat → Prop) (w : World) : Kept S w w := ⟨rfl, rfl, rfl, Nat.le_refl _, fun _ _ _ => rfl⟩
theorem Kept.trans {S S' : Nat → Prop} {a b c : World} (h : Kept S a b) (k : Kept S' b c) (hS : ∀ x, x < a.heap.size → S' x → S x) : Kept S a c :=
  ⟨k.os.trans h.os, k.tape.trans h.tape, k.output.trans h.output, Nat.le_trans h.size k.size, fun i hi hs =>
    (k.block i (Nat.lt_of_lt_of_le hi h.size) (fun e => hs (hS i hi e))).trans (h.block i hi hs)⟩
theorem Kept.below {w w' : World} (h : Kept none1 w w') : RowKit.Below w.heap.size w w' :=
  ⟨h.os, h.tape, h.output, h.size, fun k hk => h.block k hk (fun e => e)⟩

/-- The memory at a point of a walk. w0: as the call began; S: old blocks that may have changed since; Lent: old blocks that the call may change; L: what is known. -/
structure HA (w0 : World) (Lent S : Nat → Prop) (w : World) (L : List Rs) : Prop where
  kept : Kept S w0 w
  holds : ∀ r ∈ L, r.holds w
  own : ∀ r ∈ L, ∀ b, r.foot b → (r.lent = false → w0.heap.size ≤ b) ∧ (r.lent = true → Lent b)
  sub : ∀ b, S b → Lent b
  disj : L.Pairwise fun r s => ∀ b, r.foot b → ¬ s.foot b

def nthR : List Rs → Nat → Option Rs
  | [], _ => none
  | r :: _, 0 => some r
  | _ :: rs, k + 1 => nthR rs k

def setR : List Rs → Nat → Rs → List Rs
  | [], _, _ => []
  | _ :: rs, 0, x => x :: rs
  | r :: rs, k + 1, x => r :: setR rs k x

def snocR : List Rs → Rs → List Rs
  | [], x => [x]
  | r :: rs, x => r :: snocR rs x

theorem nthR_mem {r : Rs} : ∀ {L : List Rs} {i : Nat}, nthR L i = some r → r ∈ L
  | [], _, h => by simp [nthR] at h
  | x :: L, 0, h => by simp [nthR] at h; simp [h]
  | x :: L, k + 1, h => List.mem_cons_of_mem _ (nthR_mem (L := L) (i := k) h)

theorem mem_setR {x r : Rs} : ∀ {L : List Rs} {i : Nat}, r ∈ setR L i x → r = x ∨ r ∈ L
  | [], _, h => by simp [setR] at h
  | y :: L, 0, h => by
    simp only [setR, List.mem_cons] at h
    rcases h with h | h
    · exact .inl h
    · exact .inr (List.mem_cons_of_mem _ h)
  | y :: L, k + 1, h => by
    simp only [setR, List.mem_cons] at h
    rcases h with h | h
    · exact .inr (by simp [h])
    · rcases mem_setR (L := L) (i := k) h with h | h
      · exact .inl h
      · exact .inr (List.mem_cons_of_mem _ h)

theorem snocR_eq (L : List Rs) (x : Rs) : snocR L x = L ++ [x] := by
  induction L with
  | nil => rfl
  | cons y L ih => simp [snocR, ih]

theorem pair_set {R : Rs → Rs → Prop} (hR : ∀ a b, R a b → R b a) {x r : Rs} : ∀ {L : List Rs} {i : Nat}, L.Pairwise R → nthR L i = some r → (∀ y ∈ L, y ≠ r ∨ True → R y r → R y x) → (setR L i x).Pairwise R
  | [], _, _, h, _ => by simp [nthR] at h
  | y :: L, 0, hp, h, hx => by
    simp [nthR] at h
    subst h
    simp only [setR, List.pairwise_cons] at hp ⊢
    refine ⟨fun z hz => hR _ _ (hx z (List.mem_cons_of_mem _ hz) (.inr trivial) (hR _ _ (hp.1 z hz))), hp.2⟩
  | y :: L, k + 1, hp, h, hx => by
    simp only [setR, List.pairwise_cons] at hp ⊢
    simp only [nthR] at h
    refine ⟨fun z hz => ?_, pair_set hR hp.2 h (fun z hz => hx z (List.mem_cons_of_mem _ hz))⟩
    rcases mem_setR hz with h' | h'
    · subst h'
      exact hx y (List.mem_cons_self ..) (.inr trivial) (hp.1 r (nthR_mem h))
    · exact hp.1 z h'

section
variable {w0 w w' : World} {Lent S S' : Nat → Prop} {L : List Rs}

theorem HA.at (H : HA w0 Lent S w L) {i : Nat} {r : Rs} (hi : nthR L i = some r) : r.holds w := H.holds r (nthR_mem hi)

theorem HA.start (w : World) : HA w none1 none1 w [] := ⟨Kept.refl _ _, by simp, by simp, fun _ h => h, List.Pairwise.nil⟩

/-- Nothing of the memory has changed. -/
theorem HA.heap (H : HA w0 Lent S w L) (k : Kept none1 w w') : HA w0 Lent S w' L :=
  ⟨H.kept.trans k (fun _ _ e => e.elim), fun r hr => Rs.same (fun b hb => k.block b (Rs.lt (H.holds r hr) b hb) (fun e => e)) (H.holds r hr), H.own, H.sub, H.disj⟩

theorem kept_drew (w : World) : Kept none1 w { w with drawn := w.drawn + 1 } := ⟨rfl, rfl, rfl, Nat.le_refl _, fun _ _ _ => rfl⟩

theorem HA.drew (H : HA w0 Lent S w L) : HA w0 Lent S { w with drawn := w.drawn + 1 } L := H.heap (kept_drew w)

/-- One thing has changed, or moved to new memory. -/
theorem HA.set (H : HA w0 Lent S w L) {i : Nat} {r r' : Rs} (hi : nthR L i = some r) (k : Kept r.foot w w') (h' : r'.holds w') (hf : ∀ b, r'.foot b → r.foot b ∨ w.heap.size ≤ b)
    (hS : ∀ b, r.foot b → b < w0.heap.size → S' b) (hSS : ∀ b, S b → S' b) (hS' : ∀ b, S' b → Lent b) (hl : r'.lent = r.lent) (hln : r.lent = true → ∀ b, r'.foot b → r.foot b) : HA w0 Lent S' w' (setR L i r') := by
  have hr := nthR_mem hi
  have hdis : ∀ s ∈ L, (∀ b, s.foot b → ¬ r.foot b) → s.holds w' := fun s hs hd =>
    Rs.same (fun b hb => k.block b (Rs.lt (H.holds s hs) b hb) (hd b hb)) (H.holds s hs)
  refine ⟨⟨k.os.trans H.kept.os, k.tape.trans H.kept.tape, k.output.trans H.kept.output, Nat.le_trans H.kept.size k.size, fun b hb hs => ?_⟩, ?_, ?_, hS', ?_⟩
  · exact (k.block b (Nat.lt_of_lt_of_le hb H.kept.size) (fun e => hs (hS b e hb))).trans (H.kept.block b hb (fun e => hs (hSS b e)))
  · have key : ∀ (M : List Rs) (j : Nat), M.Pairwise (fun r s => ∀ b, r.foot b → ¬ s.foot b) → nthR M j = some r → (∀ s ∈ M, s ∈ L) → ∀ s ∈ setR M j r', s.holds w' := by
      intro M
      induction M with
      | nil => intro j _ h; simp [nthR] at h
      | cons y M ih =>
        intro j hp hj hM s hs
        rw [List.pairwise_cons] at hp
        cases j with
        | zero =>
          simp [nthR] at hj
          subst hj
          simp only [setR, List.mem_cons] at hs
          rcases hs with rfl | hs
          · exact h'
          · exact hdis s (hM s (List.mem_cons_of_mem _ hs)) (fun b hb e => hp.1 s hs b e hb)
        | succ j =>
          simp only [nthR] at hj
          simp only [setR, List.mem_cons] at hs
          rcases hs with rfl | hs
          · exact hdis s (hM s (List.mem_cons_self ..)) (fun b hb e => hp.1 r (nthR_mem hj) b hb e)
          · exact ih j hp.2 hj (fun s hs => hM s (List.mem_cons_of_mem _ hs)) s hs
    exact key L i H.disj hi (fun s hs => hs)
  · intro s hs b hb
    rcases mem_setR hs with rfl | hs
    · rw [hl]
      rcases hf b hb with h | h
      · exact H.own r hr b h
      · exact ⟨fun _ => Nat.le_trans H.kept.size h, fun e => (H.own r hr b (hln e b hb)).2 e⟩
    · exact H.own s hs b hb
  · refine pair_set (fun a b h x hb ha => h x ha hb) H.disj hi (fun y hy _ hyr b hb hx => ?_)
    rcases hf b hx with h | h
    · exact hyr b hb h
    · have := Rs.lt (H.holds y hy) b hb
      omega

/-- One thing of the call's own has changed. -/
theorem HA.upd (H : HA w0 Lent S w L) {i : Nat} {r r' : Rs} (hi : nthR L i = some r) (k : Kept r.foot w w') (h' : r'.holds w') (hf : ∀ b, r'.foot b → r.foot b ∨ w.heap.size ≤ b) (hl : r.lent = false) (hl' : r'.lent = false) :
    HA w0 Lent S w' (setR L i r') :=
  H.set hi k h' hf (fun b hb hlt => by have := (H.own r (nthR_mem hi) b hb).1 hl; omega) (fun _ e => e) H.sub (hl'.trans hl.symm) (fun e => by simp [hl] at e)

/-- A lent block has changed. -/
theorem HA.updL (H : HA w0 Lent S w L) {i : Nat} {r r' : Rs} (hi : nthR L i = some r) (k : Kept r.foot w w') (h' : r'.holds w') (hf : ∀ b, r'.foot b → r.foot b) (hl : r.lent = true) (hl' : r'.lent = true) :
    HA w0 Lent Lent w' (setR L i r') :=
  H.set hi k h' (fun b hb => .inl (hf b hb)) (fun b hb _ => (H.own r (nthR_mem hi) b hb).2 hl) H.sub (fun _ e => e) (hl'.trans hl.symm) (fun _ => hf)

/-- Something new. -/
theorem HA.new (H : HA w0 Lent S w L) {r : Rs} (k : Kept none1 w w') (h' : r.holds w') (hf : ∀ b, r.foot b → w.heap.size ≤ b) (hl : r.lent = false) : HA w0 Lent S w' (snocR L r) := by
  have H' := H.heap k
  rw [snocR_eq]
  refine ⟨H'.kept, ?_, ?_, H.sub, ?_⟩
  · intro s hs
    rcases List.mem_append.1 hs with hs | hs
    · exact H'.holds s hs
    · simp at hs; subst hs; exact h'
  · intro s hs b hb
    rcases List.mem_append.1 hs with hs | hs
    · exact H.own s hs b hb
    · simp at hs; subst hs; exact ⟨fun _ => Nat.le_trans H.kept.size (hf b hb), fun e => by simp [hl] at e⟩
  · rw [List.pairwise_append]
    refine ⟨H.disj, List.pairwise_singleton .., fun y hy s hs b hb hx => ?_⟩
    simp at hs
    subst hs
    have := Rs.lt (H.holds y hy) b hb
    have := hf b hx
    omega

def appR : List Rs → List Rs → List Rs
  | L, [] => L
  | L, r :: N => appR (snocR L r) N

/-- A call that changes nothing that was there, and hands back N. -/
theorem HA.call : ∀ {N : List Rs} {L : List Rs} (_ : HA w0 Lent S w L) (_ : HA w none1 none1 w' N), HA w0 Lent S w' (appR L N)
  | N, L, H, K => by
    have base : HA w0 Lent S w' (L ++ N) := by
      have H' := H.heap K.kept
      refine ⟨H'.kept, fun s hs => ?_, fun s hs b hb => ?_, H.sub, ?_⟩
      · rcases List.mem_append.1 hs with hs | hs
        · exact H'.holds s hs
        · exact K.holds s hs
      · rcases List.mem_append.1 hs with hs | hs
        · exact H.own s hs b hb
        · have ho := K.own s hs b hb
          refine ⟨fun e => Nat.le_trans H.kept.size (ho.1 e), fun e => (ho.2 e).elim⟩
      · rw [List.pairwise_append]
        refine ⟨H.disj, K.disj, fun y hy s hs b hb hx => ?_⟩
        have h1 := Rs.lt (H.holds y hy) b hb
        have ho := K.own s hs b hx
        cases hle : s.lent with
        | true => exact ho.2 hle
        | false => have := ho.1 hle; omega
    have : ∀ (N L : List Rs), appR L N = L ++ N := by
      intro N
      induction N with
      | nil => intro L; simp [appR]
      | cons r N ih => intro L; simp [appR, ih, snocR_eq]
    rw [this]
    exact base

/-- What a caller is told: the things of the list, in the order that is asked for. -/
theorem HA.part (H : HA w0 Lent S w L) {L' : List Rs} (h : L'.Sublist L) : HA w0 Lent S w L' :=
  ⟨H.kept, fun r hr => H.holds r (h.subset hr), fun r hr => H.own r (h.subset hr), H.sub, H.disj.sublist h⟩

def pickR (L : List Rs) : List Nat → Option (List Rs)
  | [] => some []
  | i :: is => match nthR L i, pickR L is with
    | some r, some rs => some (r :: rs)
    | _, _ => none

/-- What was there when the call began, and did not change, reads as it did. -/
theorem HA.old (H : HA w0 Lent S w L) {k : Nat} {v : Value} {n : Nat} {cs : List Value} (h : Rd w0 k v n cs) (hS : ∀ b, blockOf v b → ¬ S b) : Rd w k v n cs := by
  refine h.same fun b hn hb => H.kept.block b ?_ (hS b hb)
  exact Rs.lt (r := .rd k v n cs) h b ⟨hn, hb⟩

theorem Row.rd {w : World} {E k : Nat} {v : Value} {n : Nat} {cs : List Value} (h : Row w E k v n cs) : Rd w k v n cs := by
  obtain ⟨h1, h2⟩ := h
  refine ⟨h1, ?_⟩
  rcases h2 with ⟨rfl, h2⟩ | ⟨b, cap, sp, rfl, h0, ⟨fz, h3, _⟩, h4⟩
  · exact .inl ⟨h2, _, _, rfl⟩
  · refine .inr ⟨b, 0, cap, _, E, fz, rfl, h0, h3, fun j c hj => ?_⟩
    have hlt : j < cs.length := (List.getElem?_eq_some_iff.1 hj).1
    simp [List.getElem?_append_left hlt, hj]
end

/- ## runs on memory -/
section runs
variable {P : Program} {w : World}

theorem Blk.cell {b : Nat} {cs : List Value} {ty : TypeId} (h : Blk w b cs ty) (o : Nat) : w.cell? ⟨b, o, none⟩ = cs[o]? := by
  obtain ⟨fz, h1, _⟩ := h
  simp [World.cell?, h1]

theorem Blk.frozen {b : Nat} {cs : List Value} {ty : TypeId} (h : Blk w b cs ty) {o : Nat} (ho : o < cs.length) : w.frozen? ⟨b, o, none⟩ = false := by
  obtain ⟨fz, h1, h2⟩ := h
  have := h2 o ho
  simp only [World.frozen?, h1]
  simpa using this

theorem Blk.setRow {b : Nat} {cs cs' : List Value} {ty : TypeId} (h : Blk w b cs ty) (hl : cs'.length = cs.length) : Blk (w.setRow b cs'.toArray) b cs' ty := by
  obtain ⟨fz, h1, h2⟩ := h
  exact ⟨fz, setRow_heap w b _ _ ty fz h1, fun o ho => h2 o (by omega)⟩

theorem kept_setRow (b : Nat) (cs : Array Value) : Kept (fun x => b = x) w (w.setRow b cs) :=
  ⟨rfl, rfl, rfl, by simp [World.setRow], fun k _ hk => setRow_other w b k cs (fun e => hk e.symm)⟩

theorem run_load1 {b o : Nat} {cs : List Value} {ty : TypeId} {v : Value} (h : Blk w b cs ty) (hv : cs[o]? = some v) : (load ⟨b, o, none⟩).run P w = .ok v w := by
  simp [load, Sem.run, h.cell, hv]

theorem run_store1 {b o : Nat} {cs : List Value} {ty : TypeId} {v : Value} (h : Blk w b cs ty) (ho : o < cs.length) (h1 : v.oneCell' = true) :
    (store ⟨b, o, none⟩ v).run P w = .ok () (w.setRow b (cs.set o v).toArray) := by
  obtain ⟨fz, hb, hf⟩ := h
  have hc : w.cell? ⟨b, o, none⟩ = some cs[o] := by simp [World.cell?, hb, ho]
  have hfr : w.frozen? ⟨b, o, none⟩ = false := Blk.frozen ⟨fz, hb, hf⟩ ho
  rw [run_store P w _ v _ h1, hc]
  simp only [hfr, Bool.false_eq_true, if_false]
  rw [setCell_eq_setRow w b o cs.toArray ty fz v hb]
  simp

theorem run_storeCells {b : Nat} {ty : TypeId} : ∀ (vs : List Value) (o i : Nat) (cs : List Value) (w : World), Blk w b cs ty → o + i + vs.length ≤ cs.length → (∀ v ∈ vs, v.oneCell' = true) →
    (storeCells ⟨b, o, none⟩ vs i).run P w = .ok () (w.setRow b (cs.take (o + i) ++ vs ++ cs.drop (o + i + vs.length)).toArray)
  | [], o, i, cs, w, h, _, _ => by
    obtain ⟨fz, hb, _⟩ := h
    simp only [storeCells, List.append_nil, List.length_nil, Nat.add_zero, List.take_append_drop]
    rw [setRow_self w b _ ty fz hb]; rfl
  | v :: vs, o, i, cs, w, h, hl, h1 => by
    have hi : o + i < cs.length := by simp at hl; omega
    have hadd : (⟨b, o, none⟩ : Addr).add i = ⟨b, o + i, none⟩ := add_zero _ rfl _
    have hst : (store ((⟨b, o, none⟩ : Addr).add i) v).run P w = .ok () (w.setRow b (cs.set (o + i) v).toArray) := by rw [hadd]; exact run_store1 h hi (h1 v (by simp))
    have ih := run_storeCells vs o (i + 1) (cs.set (o + i) v) (w.setRow b (cs.set (o + i) v).toArray) (h.setRow (by simp)) (by simp at hl ⊢; omega) (fun x hx => h1 x (by simp [hx]))
    simp only [storeCells, Sem.run_bind, hst, Result.andThen_ok, ih, setRow_setRow]
    congr 3
    have e := list_seg_step cs (o + i) v vs (by simp at hl; omega)
    simpa [Nat.add_assoc] using e

theorem Rd.cell {k : Nat} {v : Value} {n : Nat} {cs : List Value} (h : Rd w k v n cs) {a : Addr} {m c : Nat} (hv : v = .slice (some a) m c) : m = n ∧ ∀ j u, cs[j]? = some u → w.cell? (a.add j) = some u := by
  obtain ⟨h1, h2⟩ := h
  rcases h2 with ⟨hn, b, c, rfl⟩ | ⟨b, off, cap, all, ty, fz, rfl, h0, h3, h4⟩
  · cases hv
    have : cs = [] := List.eq_nil_of_length_eq_zero (by rw [h1, hn]; simp)
    subst this
    exact ⟨hn.symm, fun j u hj => by simp at hj⟩
  · cases hv
    refine ⟨rfl, fun j u hj => ?_⟩
    rw [add_zero _ rfl]
    simp [World.cell?, h3, h4 j u hj]

theorem run_first {k : Nat} {v : Value} {n : Nat} {cs : List Value} (h : Rd w k v n cs) (m : Nat) (hm : m ≤ n) : (Builtin.firstCells k m v).run P w = .ok (cs.take (m * k)).toArray w := by
  have h' := h
  obtain ⟨h1, h2⟩ := h'
  rcases h2 with ⟨hn, b, c, rfl⟩ | ⟨b, off, cap, all, ty, fz, rfl, h0, h3, h4⟩
  · have : cs = [] := List.eq_nil_of_length_eq_zero (by rw [h1, hn]; simp)
    subst this
    have hm0 : m = 0 := by omega
    subst hm0
    cases b <;> simp [Builtin.firstCells, loadCells, loadCellsFrom]
  · exact run_firstCells_some w k m _ n cap _ (by rw [List.length_take, h1]; exact Nat.min_eq_left (Nat.mul_le_mul_right _ hm)) (fun j u hj => (h.cell rfl).2 j u (by rw [List.getElem?_take] at hj; split at hj <;> simp_all))

theorem kept_alloc (w : World) (o : Obj) : Kept none1 w { w with heap := w.heap.push o } :=
  ⟨rfl, rfl, rfl, by simp, fun k hk _ => by simp [Array.getElem?_push, show k ≠ w.heap.size by omega]⟩

theorem heap_new (w : World) (o : Obj) : ({ w with heap := w.heap.push o } : World).heap[w.heap.size]? = some o := by simp

/-- A new block. -/
theorem run_newRow (e : TypeId) (cs : List Value) : (newRow e cs.toArray).run P w = .ok ⟨w.heap.size, 0, none⟩ { w with heap := w.heap.push (.cells cs.toArray e) } := by
  simp [newRow, newObj, Sem.run]

theorem blk_new (e : TypeId) (cs : List Value) : Blk { w with heap := w.heap.push (.cells cs.toArray e) } w.heap.size cs e :=
  ⟨(0, 0), heap_new w _, fun o _ => by simp⟩
end runs

theorem HA.startL (w : World) {b : Nat} {cs : List Value} {ty : TypeId} (h : Blk w b cs ty) : HA w (fun x => x = b) none1 w [.lb b cs ty] :=
  ⟨Kept.refl _ _, fun r hr => by simp at hr; subst hr; exact h, fun r hr x hx => by simp at hr; subst hr; cases hx; exact ⟨fun e => (by cases e), fun _ => rfl⟩, fun _ h => h.elim, by simp⟩
end Go.Tw
