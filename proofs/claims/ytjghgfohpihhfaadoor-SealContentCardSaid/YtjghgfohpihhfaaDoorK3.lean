/- A state that is read as one of a shape stands for what the shape says. No program is in it. -/
import Derived.Defers
import Derived.Test.YtjghgfohpihhfaaDoorK2
namespace Go.Tw
set_option linter.unusedSimpArgs false
set_option linter.unusedVariables false
section
variable {O : Own} {ρ : List Hd} {w : World} {md : Bool} {ts : List TSh}

theorem bindU_ok {β : Type} {M : Nat → Prop} {j id : Nat} {u : Un} {k : Un → Option β} {r : β} (e : bindU j id u k = some r) (hM : Gm O ρ u.tb w) (hid : id < u.tb.length) :
    ∃ u', k u' = some r ∧ Gh M O ρ u O ρ u' w ∧ u'.bd[j]? = some id ∧ u'.lt = u.lt ∧ u'.tb = u.tb := by
  unfold bindU at e
  split at e
  · rename_i id' hj
    rw [nth_eq] at hj
    split at e <;> first | (cases e; done) | skip
    rename_i hb
    have := Nat.eq_of_beq_eq_true hb
    subst this
    exact ⟨u, e, .refl hM, hj, rfl, rfl⟩
  · rename_i hj
    split at e <;> first | (cases e; done) | skip
    rename_i hjl hidx
    have hjl := Nat.eq_of_beq_eq_true hjl
    split at e <;> first | (cases e; done) | skip
    have hni := idx_none hidx
    refine ⟨_, e, ⟨hM, .refl _ _ _ _, ⟨[id], rfl⟩, fun _ h => h, fun hn => ?_, fun _ _ _ h => h, fun hh i hi => ?_, Nat.le_refl _⟩, by subst hjl; simp, rfl, rfl⟩
    · rw [List.nodup_append]
      exact ⟨hn, by simp, fun a ha b hb => by simp at hb; subst hb; intro e; subst e; exact hni ha⟩
    · rcases List.mem_append.1 hi with hi | hi
      · exact hh i hi
      · simp at hi; subst hi; exact hid

theorem freeze_ok {β : Type} {t : Ty} {id : Nat} {u : Un} {k : List t.den → Un → Option β} {r : β} (e : freeze t id u k = some r) (hM : Gm O ρ u.tb w) : ∃ xs u' O' h, k xs u' = some r ∧ Gh (fun _ => True) O ρ u O' ρ u' w ∧ u'.lt = u.lt ∧ ρ[id]? = some h ∧ TR O' (.sl t) xs [h.v] ∧ h.z = t.sz := by
  unfold freeze at e
  split at e <;> first | (cases e; done) | skip
  · rename_i E t' xs hb
    split at e <;> first | (cases e; done) | skip
    rename_i xs' hcast hidx
    obtain ⟨e1, he1⟩ := castR_ok hcast
    subst e1
    have he1 : xs' = xs := he1
    subst he1
    rw [nth_eq] at hb
    obtain ⟨O', h, h1, g1, g2, hT, hoth, hz⟩ := hM.frz hb
    have hni := idx_none hidx
    refine ⟨xs', _, O', h, e, ⟨g1, g2.weak (fun _ _ => trivial), ⟨[], by simp⟩, fun _ h => h, fun h => h, fun b j hj e => hoth b j (fun ee => by subst ee; exact hni hj) e, fun hh i hi => by simpa using hh i hi, by simp⟩, rfl, h1, hT, hz⟩
  · rename_i t' xs hb
    split at e <;> first | (cases e; done) | skip
    rename_i xs' hcast
    obtain ⟨e1, he1⟩ := castR_ok hcast
    subst e1
    have he1 : xs' = xs := he1
    subst he1
    rw [nth_eq] at hb
    obtain ⟨h, h1, h2, hT⟩ := hM.th _ _ hb
    exact ⟨xs', u, O, h, e, .refl hM, rfl, h1, hT, h2⟩

/-- What a reading of a value comes to. -/
def UOk {β : Type} (O : Own) (ρ : List Hd) (w : World) (md : Bool) (s : Sh) (v : IV) (u : Un) (ch : Bool) (cs : List Value) (k : s.den → Un → Option β) (r : β) : Prop :=
  ∃ x u' O' ρ', k x u' = some r ∧ Gh (fun _ => md = false) O ρ u O' ρ' u' w ∧ (md = false → u'.lt = u.lt) ∧ (enc s x).sz = v.sz ∧ ∀ O₂ ρ₂, Fut u' O' ρ' w O₂ ρ₂ → R O₂ ρ₂ ch (enc s x) cs

theorem UOk.stay {β : Type} {s : Sh} {v : IV} {u : Un} {ch : Bool} {cs : List Value} {k : s.den → Un → Option β} {r : β} (x : s.den) (hM : Gm O ρ u.tb w) (hk : k x u = some r) (hz : (enc s x).sz = v.sz) (h : ∀ O₂ ρ₂, Fut u O ρ w O₂ ρ₂ → R O₂ ρ₂ ch (enc s x) cs) : UOk O ρ w md s v u ch cs k r :=
  ⟨x, u, O, ρ, hk, .refl hM, fun _ => rfl, hz, h⟩

theorem R.true_of {v : IV} {cs : List Value} (h : R O ρ true v cs) : v = .un ∨ ∃ a b, v = .pr a b := by
  cases v <;> first | exact .inl rfl | exact .inr ⟨_, _, rfl⟩ | exact h.elim

theorem o_sz (x : S0) : (IV.o x).sz = .one := rfl

theorem agg_of_sz {v u : IV} (h : v.sz = u.sz) : v.agg = u.agg := by cases v <;> cases u <;> first | rfl | (simp [IV.sz] at h)

theorem bd_ρ {u u' : Un} {M : Nat → Prop} {O' : Own} {ρ' : List Hd} (g : Gh M O ρ u O' ρ' u' w) {j id : Nat} (h : u.bd[j]? = some id) : u'.bd[j]? = some id := by
  obtain ⟨m, e⟩ := g.bd
  rw [e, List.getElem?_append_left (List.getElem?_eq_some_iff.1 h).1]; exact h

theorem lent_own {O1 O2 : Own} {ρ1 ρ2 : List Hd} {u1 u2 : Un} (g1 : Gm O1 ρ1 u1.tb w) (g2 : Gh (fun _ => md = false) O1 ρ1 u1 O2 ρ2 u2 w) (hmd : md = false → u1.lt = []) : ∀ b id, id ∈ u1.lt → O1 b = .th id → O2 b = .th id := by
  intro b id hi ho
  cases md with
  | true => exact g2.stp.own b id (by
      rcases Nat.lt_or_ge b w.heap.size with h' | h'
      · exact h'
      · rw [g1.lt b h'] at ho; cases ho) ho (fun h => by cases h)
  | false => rw [hmd rfl] at hi; simp at hi

theorem uV_ok {β : Type} : ∀ {s : Sh} {v : IV} {u : Un} {k : s.den → Un → Option β} {r : β} {ch : Bool} {cs : List Value} {O : Own} {ρ : List Hd}, uV md ts s v u k = some r → Gm O ρ u.tb w → R O ρ ch v cs → (md = false → u.lt = []) → UOk O ρ w md s v u ch cs k r := by
  have notch : ∀ {v : IV} {ch : Bool} {cs : List Value} {O : Own} {ρ : List Hd}, R O ρ ch v cs → (v = .un → False) → (∀ a b, v = .pr a b → False) → ch = false := fun {v ch cs O ρ} h h1 h2 => by
    cases ch with
    | false => rfl
    | true =>
      rcases R.true_of h with h | ⟨a, b, h⟩
      · exact (h1 h).elim
      · exact (h2 a b h).elim
  intro s
  induction s with
  | i =>
    intro v u k r ch cs O ρ e hM hR hmd
    simp only [uV] at e
    split at e <;> first | (cases e; done) | skip
    rename_i x hx
    have hv := as_o.1 x hx
    subst hv
    exact UOk.stay x hM e rfl (fun O₂ ρ₂ _ => by cases ch <;> exact hR)
  | u8 =>
    intro v u k r ch cs O ρ e hM hR hmd
    simp only [uV] at e
    split at e <;> first | (cases e; done) | skip
    rename_i x hx
    have hv := as_o.2.1 x hx
    subst hv
    exact UOk.stay x hM e rfl (fun O₂ ρ₂ _ => by cases ch <;> exact hR)
  | u32 =>
    intro v u k r ch cs O ρ e hM hR hmd
    simp only [uV] at e
    split at e <;> first | (cases e; done) | skip
    rename_i x hx
    have hv := as_o.2.2.1 x hx
    subst hv
    exact UOk.stay x hM e rfl (fun O₂ ρ₂ _ => by cases ch <;> exact hR)
  | u64 =>
    intro v u k r ch cs O ρ e hM hR hmd
    simp only [uV] at e
    split at e <;> first | (cases e; done) | skip
    rename_i x hx
    have hv := as_o.2.2.2.1 x hx
    subst hv
    exact UOk.stay x hM e rfl (fun O₂ ρ₂ _ => by cases ch <;> exact hR)
  | bo =>
    intro v u k r ch cs O ρ e hM hR hmd
    simp only [uV] at e
    split at e <;> first | (cases e; done) | skip
    rename_i x hx
    have hv := as_o.2.2.2.2.1 x hx
    subst hv
    exact UOk.stay x hM e rfl (fun O₂ ρ₂ _ => by cases ch <;> exact hR)
  | str =>
    intro v u k r ch cs O ρ e hM hR hmd
    simp only [uV] at e
    split at e <;> first | (cases e; done) | skip
    rename_i x hx
    have hv := as_o.2.2.2.2.2 x hx
    subst hv
    exact UOk.stay x hM e rfl (fun O₂ ρ₂ _ => by cases ch <;> exact hR)
  | ns =>
    intro v u k r ch cs O ρ e hM hR hmd
    simp only [uV] at e
    split at e <;> first | (cases e; done) | skip
    rename_i hx
    have hv := asNil_eq hx
    subst hv
    exact UOk.stay () hM e rfl (fun O₂ ρ₂ _ => by cases ch <;> exact hR)
  | np =>
    intro v u k r ch cs O ρ e hM hR hmd
    simp only [uV] at e
    split at e <;> first | (cases e; done) | skip
    exact UOk.stay () hM e rfl (fun O₂ ρ₂ _ => by cases ch <;> exact hR)
  | nf =>
    intro v u k r ch cs O ρ e hM hR hmd
    simp only [uV] at e
    split at e <;> first | (cases e; done) | skip
    exact UOk.stay () hM e rfl (fun O₂ ρ₂ _ => by cases ch <;> exact hR)
  | re t =>
    intro v u k r ch cs O ρ e hM hR hmd
    simp only [uV] at e
    split at e <;> first | (cases e; done) | skip
    · rename_i t' x
      have hch := notch hR (by simp) (by simp)
      subst hch
      split at e <;> first | (cases e; done) | skip
      rename_i y hy
      obtain ⟨b, off, c, rfl, h2, all, h3, h4⟩ := hR
      exact UOk.stay y hM e rfl (fun O₂ ρ₂ F => ⟨b, off, c, rfl, TR.mono F.le (toP_R hy (ofP_R (ρ := ρ) h2)), all, F.le _ _ h3, h4⟩)
    · rename_i id p
      have hch := notch hR (by simp) (by simp)
      subst hch
      split at e <;> first | (cases e; done) | skip
      split at e <;> first | (cases e; done) | skip
      rename_i bt v0 hb
      rw [nth_eq] at hb
      obtain ⟨h, off, h1, h2, rfl⟩ := hR
      obtain ⟨h', cs0, h4, h5, h6, h7, h8⟩ := hM.th _ _ hb
      rw [h1] at h4; cases h4
      rw [h6] at h2
      obtain ⟨z, hk, h9, h10, h11⟩ := getP_R e h7 h2
      split at hk <;> first | (cases hk; done) | skip
      rename_i y hy
      refine ⟨y, _, O, ρ, hk, ⟨hM, .refl _ _ _ _, ⟨[], by simp⟩, fun i hi => List.mem_cons_of_mem _ hi, fun h => h, fun _ _ _ h => h, fun h => h, Nat.le_refl _⟩, (fun h => by cases h), rfl, fun O₂ ρ₂ F => ?_⟩
      obtain ⟨fz, hh, _⟩ := h8
      refine ⟨h.b, off, _, rfl, TR.mono F.le (toP_R hy h9), cs0, by simpa using F.lent h.b id _ _ _ (List.mem_cons_self ..) h5 hh, fun j c hj => ?_⟩
      rw [List.getElem?_take] at hj
      split at hj
      · rw [List.getElem?_drop] at hj; exact hj
      · cases hj
  | ro t =>
    intro v u k r ch cs O ρ e hM hR hmd
    simp only [uV] at e
    have isro : ∀ {t' : Ty} {xs : List t'.den}, v = .ro t' xs → (match castR (Ty.eq? t' t) xs with | some xs => k xs u | none => none) = some r → UOk O ρ w md (.ro t) v u ch cs k r := by
      clear e
      intro t' xs hv e
      subst hv
      have hch := notch hR (by simp) (by simp)
      subst hch
      split at e <;> first | (cases e; done) | skip
      rename_i xs' hcast
      obtain ⟨e1, he1⟩ := castR_ok hcast
      subst e1
      have he1 : xs' = xs := he1
      subst he1
      exact UOk.stay xs' hM e rfl (fun O₂ ρ₂ F => TR.mono F.le hR)
    split at e
    · -- lent
      split at e
      · exact isro rfl e
      · rename_i hnr
        split at e <;> first | (cases e; done) | skip
        rename_i hag
        have hch := notch hR (fun h => by subst h; simp [IV.agg] at hag) (fun a b h => by subst h; simp [IV.agg] at hag)
        subst hch
        have hl := R.length hR
        have hz : v.sz.size = 1 := by cases v <;> simp [IV.agg] at hag <;> rfl
        rw [hz] at hl
        obtain ⟨y, rfl⟩ := List.length_eq_one_iff.1 hl
        obtain ⟨xs, es, hk, hL, hrd, hown⟩ := cont_ok hM e hR
        refine ⟨xs, _, O, ρ, hk, ⟨hM, .refl _ _ _ _, ⟨[], by simp⟩, fun i hi => List.mem_append_right _ hi, fun h => h, fun _ _ _ h => h, fun h => h, Nat.le_refl _⟩, (fun h => by cases h), ?_, fun O₂ ρ₂ F => ?_⟩
        · show Sz.one = v.sz
          cases v <;> first | rfl | (simp [IV.agg] at hag)
        · have hr := hrd w (Sm.refl _ _ _)
          refine ⟨y, es, rfl, hL.mono (fun _ _ => TR.mono F.le), ofSlAt hr (fun b a ty fz hn hb hh => ?_)⟩
          rcases hown b hn hb with ⟨id, hi, ho⟩ | ⟨all, ho⟩
          · exact F.lent b id a ty fz (List.mem_append_left _ hi) ho hh
          · obtain ⟨ty', fz', hh'⟩ := hM.im b all ho
            rw [hh] at hh'; cases hh'
            simpa using F.le b all ho
    · -- given up
      split at e
      · exact isro rfl e
      · rename_i id
        have hch := notch hR (by simp) (by simp)
        subst hch
        obtain ⟨h0, h1, rfl, _⟩ := hR
        obtain ⟨xs, u', O', h, hk, g, hlt, h2, hT, hz⟩ := freeze_ok e hM
        rw [h1] at h2; cases h2
        exact ⟨xs, u', O', ρ, hk, ⟨g.gm, g.stp.weak (fun _ _ => rfl), g.bd, g.lt, g.nd, g.own, g.in_, g.len⟩, fun _ => hlt, rfl, fun O₂ ρ₂ F => TR.mono F.le hT⟩
      · rename_i id lo hi
        have hch := notch hR (by simp) (by simp)
        subst hch
        obtain ⟨h0, y, h1, rfl, hp⟩ := hR
        obtain ⟨xs, u', O', h, hk, g, hlt, h2, hT, hz⟩ := freeze_ok e hM
        rw [h1] at h2; cases h2
        refine ⟨_, u', O', ρ, hk, ⟨g.gm, g.stp.weak (fun _ _ => rfl), g.bd, g.lt, g.nd, g.own, g.in_, g.len⟩, fun _ => hlt, rfl, fun O₂ ρ₂ F => ?_⟩
        have hT2 := TR.mono F.le hT
        obtain ⟨v', es, hv', hL, hS⟩ := hT2
        cases hv'
        rw [hz, Ty.sz_size] at hp
        obtain ⟨b, n, cp, b', cp', hv, rfl, hlo, hhi, hor⟩ := hp
        have hn : n = xs.length := by
          obtain ⟨b2, cp2, e2⟩ := slAt_shape hS
          rw [hv] at e2; cases e2; rfl
        subst hn
        have hlen : ((xs.drop lo).take (hi - lo)).length = hi - lo := by rw [List.length_take, List.length_drop]; omega
        refine ⟨_, _, rfl, ((hL.split (fun _ _ => TR.length) lo).2.split (fun _ _ => TR.length) (hi - lo)).1, ?_⟩
        rw [hlen]
        rcases hor with hor | ⟨ad, rfl, rfl, hc⟩
        · exact .inl ⟨by omega, _, _, by rw [show hi - lo = 0 from by omega]⟩
        · rw [hv] at hS
          rcases hS with ⟨h0', _⟩ | ⟨b2, off, cap, e2, _, hI⟩
          · exact .inl ⟨by omega, _, _, by rw [show hi - lo = 0 from by omega]⟩
          · cases e2
            rw [add_zero _ rfl]
            exact .inr ⟨b2, off + lo * t.size, cp', rfl, hc, hI.part _ _⟩
      · split at e <;> first | (cases e; done) | skip
        rename_i hn
        have hv := asNil_eq hn
        subst hv
        have hch := notch hR (by simp) (by simp)
        subst hch
        exact UOk.stay [] hM e rfl (fun O₂ ρ₂ F => by obtain ⟨rfl, _⟩ := hR; exact ⟨_, [], rfl, rfl, .inl ⟨rfl, none, 0, rfl⟩⟩)
  | rw j =>
    intro v u k r ch cs O ρ e hM hR hmd
    simp only [uV] at e
    split at e
    · rename_i id
      have hch := notch hR (by simp) (by simp)
      subst hch
      obtain ⟨h, h1, rfl, h3⟩ := hR
      have hid : id < u.tb.length := by rw [← hM.len]; exact (List.getElem?_eq_some_iff.1 h1).1
      obtain ⟨u', hk, g, hj, hlt, htb⟩ := bindU_ok (M := fun _ => md = false) e hM hid
      exact ⟨(), u', O, ρ, hk, g, fun _ => hlt, rfl, fun O₂ ρ₂ F => ⟨h, F.mt j id h hj h1, rfl, h3⟩⟩
    · rename_i hnr
      split at e <;> first | (cases e; done) | skip
      rename_i E t hn ht
      have hv := asNil_eq hn
      subst hv
      have hch := notch hR (by simp) (by simp)
      subst hch
      obtain ⟨rfl, _⟩ := hR
      have hnew := hM.new (h := ⟨0, t.sz, .slice none 0 0⟩) (x := .row E t []) (fun _ => false) (Kept.refl _ w) (fun b hb => by cases hb)
        ⟨⟨0, t.sz, .slice none 0 0⟩, [], by rw [← hM.len]; simp, rfl, fun b hb => hb.elim, rfl, ⟨by simp, .inl ⟨rfl, rfl⟩⟩⟩
      have g1 : Gm O (ρ ++ [⟨0, t.sz, .slice none 0 0⟩]) (u.tb ++ [.row E t []]) w := hnew.1
      have g2 : Stp (fun _ => False) O ρ w O (ρ ++ [⟨0, t.sz, .slice none 0 0⟩]) w := hnew.2
      obtain ⟨u', hk, g, hj, hlt, htb⟩ := bindU_ok (M := fun _ => md = false) e g1 (by simp)
      have g0 : Gh (fun _ => md = false) O ρ u O (ρ ++ [⟨0, t.sz, .slice none 0 0⟩]) { u with tb := u.tb ++ [.row E t []] } w :=
        ⟨g1, g2.weak (fun _ h => h.elim), ⟨[], by simp⟩, fun _ h => h, fun h => h, fun _ _ _ h => h, fun hh i hi => by have := hh i hi; simp; omega, by simp⟩
      refine ⟨(), u', O, _, hk, g0.trans g, fun _ => hlt, rfl, fun O₂ ρ₂ F => ⟨⟨0, t.sz, .slice none 0 0⟩, F.mt j _ _ hj (by rw [← hM.len]; simp), rfl, rfl⟩⟩
  | rp j =>
    intro v u k r ch cs O ρ e hM hR hmd
    simp only [uV] at e
    split at e <;> first | (cases e; done) | skip
    · rename_i id lo hi
      have hch := notch hR (by simp) (by simp)
      subst hch
      obtain ⟨h, y, h1, rfl, h3⟩ := hR
      have hid : id < u.tb.length := by rw [← hM.len]; exact (List.getElem?_eq_some_iff.1 h1).1
      obtain ⟨u', hk, g, hj, hlt, htb⟩ := bindU_ok (M := fun _ => md = false) e hM hid
      exact ⟨(lo, hi), u', O, ρ, hk, g, fun _ => hlt, rfl, fun O₂ ρ₂ F => ⟨h, y, F.mt j id h hj h1, rfl, h3⟩⟩
    · rename_i id
      have hch := notch hR (by simp) (by simp)
      subst hch
      obtain ⟨h, h1, rfl, h3⟩ := hR
      split at e <;> first | (cases e; done) | skip
      rename_i E t xs hb
      rw [nth_eq] at hb
      have hid : id < u.tb.length := (List.getElem?_eq_some_iff.1 hb).1
      obtain ⟨h', es, h4, h5, h6, h7, h8⟩ := hM.th _ _ hb
      rw [h1] at h4; cases h4
      obtain ⟨u', hk, g, hj, hlt, htb⟩ := bindU_ok (M := fun _ => md = false) e hM hid
      refine ⟨(0, xs.length), u', O, ρ, hk, g, fun _ => hlt, rfl, fun O₂ ρ₂ F => ⟨h, _, F.mt j id h hj h1, rfl, ?_⟩⟩
      obtain ⟨b, cp, e2, hn, hcp⟩ := h8.rd.shape
      rw [e2]
      refine ⟨b, _, cp, b, cp, rfl, by simp, by omega, by omega, ?_⟩
      by_cases h0 : xs.length = 0
      · exact .inl h0
      · refine .inr ?_
        cases b with
        | none => exact absurd (hn rfl) h0
        | some ad => exact ⟨ad, rfl, by rw [Nat.zero_mul]; simp [Addr.add], by omega⟩
    · split at e <;> first | (cases e; done) | skip
      rename_i id hnil hbd
      have hv := asNil_eq hnil
      subst hv
      have hch := notch hR (by simp) (by simp)
      subst hch
      obtain ⟨rfl, _⟩ := hR
      split at e <;> first | (cases e; done) | skip
      rename_i E t xs hb
      rw [nth_eq] at hb
      have hid : id < u.tb.length := (List.getElem?_eq_some_iff.1 hb).1
      obtain ⟨h, es, h4, h5, h6, h7, h8⟩ := hM.th _ _ hb
      obtain ⟨u', hk, g, hj, hlt, htb⟩ := bindU_ok (M := fun _ => md = false) e hM hid
      refine ⟨(0, 0), u', O, ρ, hk, g, fun _ => hlt, rfl, fun O₂ ρ₂ F => ⟨h, _, F.mt j id h hj h4, rfl, ?_⟩⟩
      obtain ⟨b, cp, e2, hn, hcp⟩ := h8.rd.shape
      exact ⟨b, _, cp, none, 0, e2, rfl, Nat.le_refl _, Nat.zero_le _, .inl rfl⟩
  | pt j p =>
    intro v u k r ch cs O ρ e hM hR hmd
    simp only [uV] at e
    split at e <;> first | (cases e; done) | skip
    rename_i id p'
    split at e <;> first | (cases e; done) | skip
    rename_i hp
    have := eqL_eq hp
    subst this
    have hch := notch hR (by simp) (by simp)
    subst hch
    obtain ⟨h, off, h1, h2, h3⟩ := hR
    have hid : id < u.tb.length := by rw [← hM.len]; exact (List.getElem?_eq_some_iff.1 h1).1
    obtain ⟨u', hk, g, hj, hlt, htb⟩ := bindU_ok (M := fun _ => md = false) e hM hid
    exact ⟨(), u', O, ρ, hk, g, fun _ => hlt, rfl, fun O₂ ρ₂ F => ⟨h, off, F.mt j id h hj h1, h2, h3⟩⟩
  | ap j p =>
    intro v u k r ch cs O ρ e hM hR hmd
    simp only [uV] at e
    split at e <;> first | (cases e; done) | skip
    rename_i id p' lo hi
    split at e <;> first | (cases e; done) | skip
    rename_i hp
    have := eqL_eq hp
    subst this
    have hch := notch hR (by simp) (by simp)
    subst hch
    obtain ⟨h, off, n, z, h1, h2⟩ := hR
    have hid : id < u.tb.length := by rw [← hM.len]; exact (List.getElem?_eq_some_iff.1 h1).1
    obtain ⟨u', hk, g, hj, hlt, htb⟩ := bindU_ok (M := fun _ => md = false) e hM hid
    exact ⟨(lo, hi), u', O, ρ, hk, g, fun _ => hlt, rfl, fun O₂ ρ₂ F => ⟨h, off, n, z, F.mt j id h hj h1, h2⟩⟩
  | fn f a c iha ihc =>
    intro v u k r ch cs O ρ e hM hR hmd
    simp only [uV] at e
    split at e <;> first | (cases e; done) | skip
    rename_i f' a' c'
    split at e <;> first | (cases e; done) | skip
    rename_i hf
    have := Nat.eq_of_beq_eq_true hf
    subst this
    have hch := notch hR (by simp) (by simp)
    subst hch
    obtain ⟨xs, ys, rfl, h2, h3⟩ := hR
    obtain ⟨x, u1, O1, ρ1, e1, g1, l1, z1, F1⟩ := iha e hM h2 hmd
    have hmd1 : md = false → u1.lt = [] := fun h => (l1 h).trans (hmd h)
    obtain ⟨y, u2, O2, ρ2, e2, g2, l2, z2, F2⟩ := ihc e1 g1.gm (R.mono g1.stp.im g1.stp.pre h3) hmd1
    exact ⟨(x, y), u2, O2, ρ2, e2, g1.trans g2, fun h => (l2 h).trans (l1 h), rfl, fun O₂ ρ₂ F => ⟨xs, ys, rfl, F1 O₂ ρ₂ (F.back g2 (lent_own g1.gm g2 hmd1)), F2 O₂ ρ₂ F⟩⟩
  | un =>
    intro v u k r ch cs O ρ e hM hR hmd
    simp only [uV] at e
    split at e <;> first | (cases e; done) | skip
    exact UOk.stay () hM e rfl (fun O₂ ρ₂ _ => by cases ch <;> exact hR)
  | pr a b iha ihb =>
    intro v u k r ch cs O ρ e hM hR hmd
    simp only [uV] at e
    split at e <;> first | (cases e; done) | skip
    rename_i a' b'
    cases ch with
    | true =>
      obtain ⟨x0, rest, rfl, h2, h3⟩ := hR
      cases hag : a'.agg with
      | true =>
        rw [hag] at h2
        obtain ⟨c0, rfl, h2⟩ := h2
        obtain ⟨x, u1, O1, ρ1, e1, g1, l1, z1, F1⟩ := iha e hM h2 hmd
        have hmd1 : md = false → u1.lt = [] := fun h => (l1 h).trans (hmd h)
        obtain ⟨y, u2, O2, ρ2, e2, g2, l2, z2, F2⟩ := ihb e1 g1.gm (R.mono g1.stp.im g1.stp.pre h3) hmd1
        refine ⟨(x, y), u2, O2, ρ2, e2, g1.trans g2, fun h => (l2 h).trans (l1 h), by simp only [enc, IV.sz, z1, z2], fun O₂ ρ₂ F => ⟨_, rest, rfl, ?_, F2 O₂ ρ₂ F⟩⟩
        rw [agg_of_sz z1, hag]
        exact ⟨c0, rfl, F1 O₂ ρ₂ (F.back g2 (lent_own g1.gm g2 hmd1))⟩
      | false =>
        rw [hag] at h2
        have h2 : R O ρ false a' [x0] := h2
        obtain ⟨x, u1, O1, ρ1, e1, g1, l1, z1, F1⟩ := iha e hM h2 hmd
        have hmd1 : md = false → u1.lt = [] := fun h => (l1 h).trans (hmd h)
        obtain ⟨y, u2, O2, ρ2, e2, g2, l2, z2, F2⟩ := ihb e1 g1.gm (R.mono g1.stp.im g1.stp.pre h3) hmd1
        refine ⟨(x, y), u2, O2, ρ2, e2, g1.trans g2, fun h => (l2 h).trans (l1 h), by simp only [enc, IV.sz, z1, z2], fun O₂ ρ₂ F => ⟨_, rest, rfl, ?_, F2 O₂ ρ₂ F⟩⟩
        rw [agg_of_sz z1, hag]
        exact F1 O₂ ρ₂ (F.back g2 (lent_own g1.gm g2 hmd1))
    | false =>
      obtain ⟨c0, d0, rfl, h2, h3⟩ := hR
      obtain ⟨x, u1, O1, ρ1, e1, g1, l1, z1, F1⟩ := iha e hM h2 hmd
      have hmd1 : md = false → u1.lt = [] := fun h => (l1 h).trans (hmd h)
      obtain ⟨y, u2, O2, ρ2, e2, g2, l2, z2, F2⟩ := ihb e1 g1.gm (R.mono g1.stp.im g1.stp.pre h3) hmd1
      exact ⟨(x, y), u2, O2, ρ2, e2, g1.trans g2, fun h => (l2 h).trans (l1 h), by simp only [enc, IV.sz, z1, z2], fun O₂ ρ₂ F => ⟨c0, d0, rfl, F1 O₂ ρ₂ (F.back g2 (lent_own g1.gm g2 hmd1)), F2 O₂ ρ₂ F⟩⟩
  | ar n t =>
    intro v u k r ch cs O ρ e hM hR hmd
    simp only [uV] at e
    split at e <;> first | (cases e; done) | skip
    rename_i xs hx
    have hagg : ∃ m t' ys, v = .ar m t' ys ∧ ∃ h : Ty.ar m t' = Ty.ar n t, castL h ys = xs := by
      unfold IV.asAr at hx
      split at hx
      · rename_i m t' ys
        split at hx
        · rename_i p _
          simp only [Option.some.injEq] at hx
          exact ⟨m, t', ys, rfl, p.down, hx⟩
        · cases hx
      · cases hx
    obtain ⟨m, t', ys, rfl, h, hxs⟩ := hagg
    have hch := notch hR (by simp) (by simp)
    subst hch
    cases h
    have hxs : ys = xs := hxs
    subst hxs
    exact UOk.stay _ hM e rfl (fun O₂ ρ₂ F => TR.mono (t := .ar n t) F.le hR)
  | ud =>
    intro v u k r ch cs O ρ e hM hR hmd
    simp only [uV] at e
    split at e <;> first | (cases e; done) | skip
    rename_i hag
    have hch := notch hR (fun h => by subst h; simp [IV.agg] at hag) (fun a b h => by subst h; simp [IV.agg] at hag)
    subst hch
    have hl := R.length hR
    have hz : v.sz = .one := by cases v <;> simp [IV.agg] at hag <;> rfl
    rw [hz] at hl
    obtain ⟨y, rfl⟩ := List.length_eq_one_iff.1 hl
    exact UOk.stay () hM e hz.symm (fun O₂ ρ₂ _ => ⟨y, rfl, R.one hR y (by simp)⟩)
end
end Go.Tw
/- A whole state that is read as one of a shape. No program is in it. -/
namespace Go.Tw
set_option linter.unusedSimpArgs false
set_option linter.unusedVariables false
section
variable {O : Own} {ρ : List Hd} {w : World} {md : Bool} {ts : List TSh}

/-- Values and their cells. -/
def RL (O : Own) (ρ : List Hd) : List IV → List (List Value) → Prop
  | [], cs => cs = []
  | v :: vs, cs => ∃ c r, cs = c :: r ∧ R O ρ false v c ∧ RL O ρ vs r

theorem RL.mono {O' : Own} {ρ' : List Hd} (hO : O.le O') (hρ : Pre ρ ρ') : ∀ {vs : List IV} {cs : List (List Value)}, RL O ρ vs cs → RL O' ρ' vs cs
  | [], cs, h => h
  | v :: vs, cs, h => by obtain ⟨c, r, h1, h2, h3⟩ := h; exact ⟨c, r, h1, R.mono hO hρ h2, RL.mono hO hρ h3⟩

def szs (vs : List IV) : List Sz := vs.map IV.sz

theorem uVs_ok {β : Type} : ∀ {ss : List Sh} {vs : List IV} {u : Un} {k : dens ss → Un → Option β} {r : β} {cs : List (List Value)} {O : Own} {ρ : List Hd}, uVs md ts ss vs u k = some r → Gm O ρ u.tb w → RL O ρ vs cs → (md = false → u.lt = []) →
    ∃ x u' O' ρ', k x u' = some r ∧ Gh (fun _ => md = false) O ρ u O' ρ' u' w ∧ (md = false → u'.lt = u.lt) ∧ szs (encs ss x) = szs vs ∧ ∀ O₂ ρ₂, Fut u' O' ρ' w O₂ ρ₂ → RL O₂ ρ₂ (encs ss x) cs
  | [], [], u, k, r, cs, O, ρ, e, hM, h, hmd => ⟨(), u, O, ρ, e, .refl hM, fun _ => rfl, rfl, fun _ _ _ => h⟩
  | [], _ :: _, u, k, r, cs, O, ρ, e, hM, h, hmd => by simp [uVs] at e
  | _ :: _, [], u, k, r, cs, O, ρ, e, hM, h, hmd => by simp [uVs] at e
  | s :: ss, v :: vs, u, k, r, cs, O, ρ, e, hM, h, hmd => by
    simp only [uVs] at e
    obtain ⟨c, rest, rfl, h1, h2⟩ := h
    obtain ⟨x, u1, O1, ρ1, e1, g1, l1, z1, F1⟩ := uV_ok e hM h1 hmd
    have hmd1 : md = false → u1.lt = [] := fun h => (l1 h).trans (hmd h)
    obtain ⟨y, u2, O2, ρ2, e2, g2, l2, z2, F2⟩ := uVs_ok e1 g1.gm (h2.mono g1.stp.im g1.stp.pre) hmd1
    exact ⟨(x, y), u2, O2, ρ2, e2, g1.trans g2, fun h => (l2 h).trans (l1 h), by simp only [szs, encs, List.map_cons, z1] at z2 ⊢; rw [z2],
      fun O₂ ρ₂ F => ⟨c, rest, rfl, F1 O₂ ρ₂ (F.back g2 (lent_own g1.gm g2 hmd1)), F2 O₂ ρ₂ F⟩⟩

/-- And who owns what. -/
structure Fut2 (u' : Un) (O' : Own) (ρ' : List Hd) (w : World) (O₂ : Own) (ρ₂ : List Hd) : Prop extends Fut u' O' ρ' w O₂ ρ₂ where
  own : ∀ b j id, u'.bd[j]? = some id → O' b = .th id → O₂ b = .th j

theorem Fut2.back {M : Nat → Prop} {O1 : Own} {ρ1 : List Hd} {u u1 : Un} {O₂ : Own} {ρ₂ : List Hd} (g : Gh M O ρ u O1 ρ1 u1 w) (hl : ∀ b id, id ∈ u.lt → O b = .th id → O1 b = .th id) (F : Fut2 u1 O1 ρ1 w O₂ ρ₂) : Fut2 u O ρ w O₂ ρ₂ :=
  ⟨F.toFut.back g hl, fun b j id hj ho => F.own b j id (bd_ρ g hj) (g.own b id (List.mem_of_getElem? hj) ho)⟩

theorem uT_ok {β : Type} {s : TSh} {x : Thing} {u : Un} {k : s.den → Un → Option β} {r : β} {j id : Nat} (e : uT md ts s x u k = some r) (hM : Gm O ρ u.tb w) (hj : u.bd[j]? = some id) (hx : u.tb[id]? = some x) (hmd : md = false → u.lt = []) :
    ∃ y u' O' ρ', k y u' = some r ∧ Gh (fun _ => md = false) O ρ u O' ρ' u' w ∧ (md = false → u'.lt = u.lt) ∧ ∀ O₂ ρ₂, Fut2 u' O' ρ' w O₂ ρ₂ → Holds O₂ ρ₂ w j (encT s y) := by
  have hold := hM.th _ _ hx
  cases s with
  | blk ty s =>
    simp only [uT] at e
    split at e <;> first | (cases e; done) | skip
    rename_i ty' v
    split at e <;> first | (cases e; done) | skip
    rename_i hty
    have := Nat.eq_of_beq_eq_true hty
    subst this
    obtain ⟨h, cs, h1, h2, h3, h4, h5⟩ := hold
    obtain ⟨y, u1, O1, ρ1, e1, g1, l1, z1, F1⟩ := uV_ok e hM h4 hmd
    refine ⟨y, u1, O1, ρ1, e1, g1, l1, fun O₂ ρ₂ F => ⟨h, cs, F.mt j id h (bd_ρ g1 hj) (g1.stp.pre _ _ h1), F.own h.b j id (bd_ρ g1 hj) (g1.own h.b id (List.mem_of_getElem? hj) h2), by rw [h3, z1], F1 O₂ ρ₂ F.toFut, h5⟩⟩
  | row E t =>
    simp only [uT] at e
    split at e <;> first | (cases e; done) | skip
    rename_i E' t' xs
    split at e <;> first | (cases e; done) | skip
    rename_i xs' hE hcast
    have := Nat.eq_of_beq_eq_true hE
    subst this
    obtain ⟨e1, he1⟩ := castR_ok hcast
    subst e1
    have he1 : xs' = xs := he1
    subst he1
    obtain ⟨h, es, h1, h2, h3, h4, h5⟩ := hold
    exact ⟨xs', u, O, ρ, e, .refl hM, fun _ => rfl, fun O₂ ρ₂ F => ⟨h, es, F.mt j id h hj h1, h2, fun b hb => F.own b j id hj (h3 b hb), h4.mono (fun _ _ => TR.mono F.le), h5⟩⟩
  | fz t =>
    simp only [uT] at e
    split at e <;> first | (cases e; done) | skip
    rename_i t' xs
    split at e <;> first | (cases e; done) | skip
    rename_i xs' hcast
    obtain ⟨e1, he1⟩ := castR_ok hcast
    subst e1
    have he1 : xs' = xs := he1
    subst he1
    obtain ⟨h, h1, h2, h3⟩ := hold
    exact ⟨xs', u, O, ρ, e, .refl hM, fun _ => rfl, fun O₂ ρ₂ F => ⟨h, F.mt j id h hj h1, h2, TR.mono F.le h3⟩⟩
  | no => exact ⟨(), u, O, ρ, e, .refl hM, fun _ => rfl, fun _ _ _ => trivial⟩

theorem uTs_ok {β : Type} : ∀ {ss : List TSh} {j : Nat} {u : Un} {k : tdens ss → Un → Option β} {r : β} {O : Own} {ρ : List Hd}, uTs md ts j ss u k = some r → Gm O ρ u.tb w → (md = false → u.lt = []) →
    ∃ y u' O' ρ', k y u' = some r ∧ Gh (fun _ => md = false) O ρ u O' ρ' u' w ∧ (md = false → u'.lt = u.lt) ∧ ∀ O₂ ρ₂, Fut2 u' O' ρ' w O₂ ρ₂ → ∀ q x, (encTs ss y)[q]? = some x → Holds O₂ ρ₂ w (j + q) x
  | [], j, u, k, r, O, ρ, e, hM, hmd => ⟨(), u, O, ρ, e, .refl hM, fun _ => rfl, fun _ _ _ q x h => by simp [encTs] at h⟩
  | s :: ss, j, u, k, r, O, ρ, e, hM, hmd => by
    simp only [uTs] at e
    split at e <;> first | (cases e; done) | skip
    rename_i id hj
    split at e <;> first | (cases e; done) | skip
    rename_i x hx
    rw [nth_eq] at hj hx
    obtain ⟨y, u1, O1, ρ1, e1, g1, l1, F1⟩ := uT_ok e hM hj hx hmd
    have hmd1 : md = false → u1.lt = [] := fun h => (l1 h).trans (hmd h)
    obtain ⟨z, u2, O2, ρ2, e2, g2, l2, F2⟩ := uTs_ok e1 g1.gm hmd1
    refine ⟨(y, z), u2, O2, ρ2, e2, g1.trans g2, fun h => (l2 h).trans (l1 h), fun O₂ ρ₂ F q x' hq => ?_⟩
    cases q with
    | zero =>
      simp [encTs] at hq; subst hq
      exact F1 O₂ ρ₂ (F.back g2 (lent_own g1.gm g2 hmd1))
    | succ q =>
      have := F2 O₂ ρ₂ F q x' (by simpa [encTs] using hq)
      rw [show j + (q + 1) = j + 1 + q from by omega]; exact this

/-- The places of the things of a shape. -/
def rc (bd : List Nat) (ρ : List Hd) : List Hd := bd.map fun id => ρ.getD id ⟨0, .nil, .bool false⟩

theorem rc_mt (bd : List Nat) (ρ : List Hd) : Mt bd ρ (rc bd ρ) := fun j id h hj hh => by
  simp [rc, hj, List.getD_eq_getElem?_getD, hh]

theorem Oc_le (bd lt : List Nat) (O : Own) (w : World) : O.le (Oc bd lt O w) := fun b all e => by simp only [Oc, e]

/-- What a reading of a state comes to. -/
structure Uni (O : Own) (ρ : List Hd) (tb : Tbl) (bd : List Nat) (w : World) (md : Bool) (ss : List Sh) (ts : List TSh) (cs : List (List Value)) (vs : List IV) (x : dens ss) (y : tdens ts) (u' : Un) (O' : Own) (ρ' : List Hd) : Prop where
  gh : Gh (fun _ => md = false) O ρ ⟨bd, tb, []⟩ O' ρ' u' w
  lt : md = false → u'.lt = []
  gm : Gm (Oc u'.bd u'.lt O' w) (rc u'.bd ρ') (encTs ts y) w
  rl : RL (Oc u'.bd u'.lt O' w) (rc u'.bd ρ') (encs ss x) cs
  sz : szs (encs ss x) = szs vs
  len : u'.bd.length = ts.length
  nd : u'.bd.Nodup
  apart : ∀ i, i ∈ u'.lt → i ∉ u'.bd
  in_ : ∀ i, i ∈ u'.bd → i < u'.tb.length

theorem uni_ok {β : Type} {ss : List Sh} {bd : List Nat} {vs : List IV} {tb : Tbl} {k : dens ss → tdens ts → Un → Option β} {r : β} {cs : List (List Value)} (e : uni md ss ts bd vs tb k = some r) (hM : Gm O ρ tb w) (hR : RL O ρ vs cs) (hnd : bd.Nodup) (hbd : ∀ i, i ∈ bd → i < tb.length) :
    ∃ x y u' O' ρ', k x y u' = some r ∧ Uni O ρ tb bd w md ss ts cs vs x y u' O' ρ' := by
  unfold uni at e
  obtain ⟨x, u1, O1, ρ1, e1, g1, l1, z1, F1⟩ := uVs_ok e hM hR (fun _ => rfl)
  have hmd1 : md = false → u1.lt = [] := fun h => (l1 h)
  obtain ⟨y, u2, O2, ρ2, e2, g2, l2, F2⟩ := uTs_ok e1 g1.gm hmd1
  split at e2 <;> first | (cases e2; done) | skip
  rename_i hlen hap
  have hlen := Nat.eq_of_beq_eq_true hlen
  have g := g1.trans g2
  have hnd2 := g.nd hnd
  have hap' := apart_ok hap
  have hF : Fut2 u2 O2 ρ2 w (Oc u2.bd u2.lt O2 w) (rc u2.bd ρ2) := by
    refine ⟨⟨Oc_le _ _ _ _, rc_mt _ _, fun b id a ty fz hi ho hh => ?_⟩, fun b j id hj ho => ?_⟩
    · have hn : idx u2.bd id = none := by
        cases hi2 : idx u2.bd id with
        | none => rfl
        | some j => exact absurd (List.mem_of_getElem? (idx_some hi2)) (hap' id hi)
      have hs : ∃ j, idx u2.lt id = some j := by
        cases hi2 : idx u2.lt id with
        | none => exact absurd hi (idx_none hi2)
        | some j => exact ⟨j, rfl⟩
      obtain ⟨j, hj⟩ := hs
      simp only [Oc, ho, hn, hj, hh]
    · simp only [Oc, ho, idx_of_get hnd2 hj]
  refine ⟨x, y, u2, O2, ρ2, e2, g, fun h => (l2 h).trans (hmd1 h), ⟨fun b all hb => ?_, fun b hb => ?_, ?_, fun j t ht => ?_⟩, F1 _ _ (hF.toFut.back g2 (lent_own g1.gm g2 hmd1)), z1, hlen, hnd2, hap', g.in_ hbd⟩
  · simp only [Oc] at hb
    split at hb
    · rename_i all' ho; cases hb; exact g2.gm.im b all ho
    · cases hb
    · rename_i id ho
      split at hb
      · cases hb
      · split at hb
        · split at hb
          · rename_i a ty fz hh; cases hb; exact ⟨ty, fz, by simpa using hh⟩
          · cases hb
        · cases hb
  · simp only [Oc, g2.gm.lt b hb]
  · simp [rc, hlen, encTs_len]
  · have := F2 _ _ hF j t ht
    simpa using this

/-- The steps since the entry of a call, seen by the shape's numbers. -/
theorem Stp.oc {O0 O' : Own} {ρ0 ρ' : List Hd} {w0 w : World} {bd lt : List Nat} (h : Stp (fun _ => True) O0 ρ0 w0 O' ρ' w) (hb : ∀ i, i < ρ0.length → bd[i]? = some i) : Stp (fun _ => True) O0 ρ0 w0 (Oc bd lt O' w) (rc bd ρ') w := by
  refine ⟨fun i x hx => ?_, h.im.trans (Oc_le _ _ _ _), fun b hb' e => ?_, fun b id _ _ hn => absurd trivial hn, h.kept⟩
  · exact rc_mt bd ρ' i i x (hb i (List.getElem?_eq_some_iff.1 hx).1) (h.pre _ _ hx)
  · simp only [Oc, h.no b hb' e]
end
end Go.Tw
/- Contracts of functions, and calls. No program is in it. -/
namespace Go.Tw
set_option linter.unusedSimpArgs false
set_option linter.unusedVariables false

/-- A contract: the shapes of the arguments and of the table ahead (A, T) and behind (B, U), and the twin. m: so many of the things come back; those behind are given up. -/
structure Ct where
  m : Nat
  A : List Sh
  T : List TSh
  B : List Sh
  U : List TSh
  run : (β : Type) → dens A → tdens T → (dens B → tdens U → Option β) → Option β
  nat : ∀ (β : Type) x y (k : dens B → tdens U → Option β) r, run β x y k = some r → ∃ p q, run _ x y (fun p q => some (p, q)) = some (p, q) ∧ k p q = some r

/-- The values with these cells. -/
def vals : List IV → List (List Value) → List Value
  | v :: vs, c :: cs => (bif v.agg then .agg c.toArray else c.headD (.bool false)) :: vals vs cs
  | _, _ => []

theorem vals_sz : ∀ {vs us : List IV} {cs : List (List Value)}, szs vs = szs us → vals vs cs = vals us cs
  | [], [], cs, _ => rfl
  | [], _ :: _, cs, h => by simp [szs] at h
  | _ :: _, [], cs, h => by simp [szs] at h
  | v :: vs, u :: us, [], h => rfl
  | v :: vs, u :: us, c :: cs, h => by
    simp only [szs, List.map_cons, List.cons.injEq] at h
    simp only [vals, agg_of_sz h.1, vals_sz (vs := vs) (us := us) (cs := cs) h.2]

def resV (vs : List IV) (ds : List (List Value)) : Value :=
  match vals vs ds with
  | [x] => x
  | l => .tuple l.toArray

/-- A call; d: one that was put off. -/
def CallK (P : Program) (d : Bool) (f : FuncId) (args : Array Value) (w : World) (Q : Value → World → Prop) : Prop :=
  match d with
  | false => Calls P f args w (Ret Q)
  | true => CallsD P f args .returning w (fun e u w' => u = .returning ∧ Ret Q e w')

theorem CallK.mono {P : Program} {d : Bool} {f : FuncId} {args : Array Value} {w : World} {Q Q' : Value → World → Prop} (h : CallK P d f args w Q) (hq : ∀ v w', Q v w' → Q' v w') : CallK P d f args w Q' := by
  cases d with
  | false =>
    refine Calls.mono (show Calls P f args w (Ret Q) from h) fun e w' he => ?_
    cases e with
    | returned v => exact hq v w' he
    | panicked _ => exact he
    | outgrown => exact he
  | true =>
    refine CallsD.mono (show CallsD P f args .returning w (fun e u w' => u = .returning ∧ Ret Q e w') from h) fun e u w' he => ?_
    obtain ⟨h1, he⟩ := he
    refine ⟨h1, ?_⟩
    cases e with
    | returned v => exact hq v w' he
    | panicked _ => exact he
    | outgrown => exact he

/-- The contract holds of the function. -/
def SoundK (P : Program) (c : Cfg) (d : Bool) (f : FuncId) (ct : Ct) : Prop :=
  ∀ x y p q, ct.run _ x y (fun p q => some (p, q)) = some (p, q) → ∀ (O : Own) (ρ : List Hd) (w : World) (cs : List (List Value)), GO c O → Gm O ρ (encTs ct.T y) w → RL O ρ (encs ct.A x) cs →
    CallK P d f (vals (encs ct.A x) cs).toArray w (fun v w' => ∃ O' ρ' ds, Gm O' ρ' (encTs ct.U q) w' ∧ Stp (fun _ => True) O (ρ.take ct.m) w O' ρ' w' ∧ RL O' ρ' (encs ct.B p) ds ∧ v = resV (encs ct.B p) ds)

abbrev Sound (P : Program) (c : Cfg) (f : FuncId) (ct : Ct) : Prop := SoundK P c false f ct

/- ## numbers changed back -/
def ren (g : Nat → Nat) : IV → IV
  | .rw id => .rw (g id)
  | .rp id lo hi => .rp (g id) lo hi
  | .pt id p => .pt (g id) p
  | .el id j p => .el (g id) j p
  | .ap id p lo hi => .ap (g id) p lo hi
  | .fn f a c => .fn f (ren g a) (ren g c)
  | .pr a b => .pr (ren g a) (ren g b)
  | .tu a => .tu (ren g a)
  | v => v

def renT (g : Nat → Nat) : Thing → Thing
  | .blk ty v => .blk ty (ren g v)
  | x => x

theorem ren_sz (g : Nat → Nat) : ∀ v : IV, (ren g v).sz = v.sz := by
  intro v
  induction v with
  | pr a b iha ihb => simp only [ren, IV.sz, iha, ihb]
  | _ => rfl

/-- No slice of memory that nobody changes in it. -/
def Sh.nr : Sh → Bool
  | .ro _ => false
  | .re _ => false
  | .fn _ a c => a.nr && c.nr
  | .pr a b => a.nr && b.nr
  | .ar _ t => t.flat
  | _ => true

def TSh.nr : TSh → Bool
  | .blk _ s => s.nr
  | .row _ t => t.flat
  | .fz _ => false
  | .no => true

theorem ren_R {O O2 : Own} {ρ ρ2 : List Hd} {g : Nat → Nat} (hρ : ∀ j h, ρ[j]? = some h → ρ2[g j]? = some h) : ∀ {s : Sh} {x : s.den} {ch : Bool} {cs : List Value}, (O.le O2 ∨ s.nr = true) → R O ρ ch (enc s x) cs → R O2 ρ2 ch (ren g (enc s x)) cs := by
  intro s
  induction s with
  | ro t =>
    intro x ch cs hle h
    rcases hle with hle | hle
    · cases ch <;> first | exact h.elim | exact TR.mono hle h
    · cases hle
  | re t =>
    intro x ch cs hle h
    rcases hle with hle | hle
    · cases ch <;> first | exact h.elim | (obtain ⟨b, off, c, h1, h2, all, h3, h4⟩ := h; exact ⟨b, off, c, h1, TR.mono hle h2, all, hle _ _ h3, h4⟩)
    · cases hle
  | rw j => intro x ch cs hle h; cases ch <;> first | exact h.elim | (obtain ⟨y, h1, h2⟩ := h; exact ⟨y, hρ _ _ h1, h2⟩)
  | rp j => intro x ch cs hle h; cases ch <;> first | exact h.elim | (obtain ⟨y, z, h1, h2⟩ := h; exact ⟨y, z, hρ _ _ h1, h2⟩)
  | pt j p => intro x ch cs hle h; cases ch <;> first | exact h.elim | (obtain ⟨y, z, h1, h2⟩ := h; exact ⟨y, z, hρ _ _ h1, h2⟩)
  | ap j p => intro x ch cs hle h; cases ch <;> first | exact h.elim | (obtain ⟨y, z, n, q, h1, h2⟩ := h; exact ⟨y, z, n, q, hρ _ _ h1, h2⟩)
  | fn f a c iha ihc =>
    intro x ch cs hle h
    have ha : O.le O2 ∨ a.nr = true := hle.imp_right (fun h => by simp only [Sh.nr, Bool.and_eq_true] at h; exact h.1)
    have hc : O.le O2 ∨ c.nr = true := hle.imp_right (fun h => by simp only [Sh.nr, Bool.and_eq_true] at h; exact h.2)
    cases ch <;> first | exact h.elim | (obtain ⟨xs, ys, h1, h2, h3⟩ := h; exact ⟨xs, ys, h1, iha ha h2, ihc hc h3⟩)
  | pr a b iha ihb =>
    intro x ch cs hle h
    have ha : O.le O2 ∨ a.nr = true := hle.imp_right (fun h => by simp only [Sh.nr, Bool.and_eq_true] at h; exact h.1)
    have hb : O.le O2 ∨ b.nr = true := hle.imp_right (fun h => by simp only [Sh.nr, Bool.and_eq_true] at h; exact h.2)
    cases ch with
    | true =>
      obtain ⟨y, r, h1, h2, h3⟩ := h
      refine ⟨y, r, h1, ?_, ihb hb h3⟩
      rw [agg_of_sz (ren_sz g (enc a x.1))]
      cases hg : (enc a x.1).agg with
      | true => rw [hg] at h2; obtain ⟨c0, h4, h5⟩ := h2; exact ⟨c0, h4, iha ha h5⟩
      | false => rw [hg] at h2; exact iha ha h2
    | false => obtain ⟨c0, d0, h1, h2, h3⟩ := h; exact ⟨c0, d0, h1, iha ha h2, ihb hb h3⟩
  | ar n t =>
    intro x ch cs hle h
    rcases hle with hle | hle
    · cases ch <;> first | exact h.elim | exact TR.mono (t := .ar n t) hle h
    · cases ch <;> first | exact h.elim | exact TR.flat (t := .ar n t) hle h
  | _ => intro x ch cs hle h; cases ch <;> exact h

def gb (bd : List Nat) (n : Nat) (j : Nat) : Nat :=
  match nth bd j with
  | some id => id
  | none => n + (j - bd.length)

/-- The things that came back are put where they were. -/
def putAll : Tbl → List Nat → Tbl → Tbl
  | tb, id :: ids, x :: xs => putAll (tb.set id x) ids xs
  | tb, _, _ => tb

theorem putAll_len : ∀ {ids : List Nat} {tb xs : Tbl}, (putAll tb ids xs).length = tb.length
  | [], tb, xs => by simp [putAll]
  | _ :: _, tb, [] => by simp [putAll]
  | id :: ids, tb, x :: xs => by simp only [putAll]; rw [putAll_len]; simp

theorem putAll_out : ∀ {ids : List Nat} {tb xs : Tbl} {j : Nat}, j ∉ ids → (putAll tb ids xs)[j]? = tb[j]?
  | [], tb, xs, j, _ => by simp [putAll]
  | _ :: _, tb, [], j, _ => by simp [putAll]
  | id :: ids, tb, x :: xs, j, h => by
    simp only [List.mem_cons, not_or] at h
    simp only [putAll]
    rw [putAll_out h.2, List.getElem?_set_ne (Ne.symm h.1)]

theorem putAll_in : ∀ {ids : List Nat} {tb xs : Tbl} {i j : Nat}, ids.Nodup → ids[i]? = some j → j < tb.length → i < xs.length → (putAll tb ids xs)[j]? = xs[i]?
  | [], tb, xs, i, j, _, h, _, _ => by simp at h
  | id :: ids, tb, [], i, j, _, _, _, h => by simp at h
  | id :: ids, tb, x :: xs, 0, j, hn, h, hj, hi => by
    simp at h; subst h
    rw [List.nodup_cons] at hn
    simp only [putAll]
    rw [putAll_out hn.1]
    simp [hj]
  | id :: ids, tb, x :: xs, i + 1, j, hn, h, hj, hi => by
    rw [List.nodup_cons] at hn
    simp only [putAll]
    rw [putAll_in hn.2 (by simpa using h) (by simpa using hj) (by simpa using hi)]; simp

/-- Lent rows that stay lent for ever. -/
def frzAll : Tbl → List Nat → Option Tbl
  | tb, [] => some tb
  | tb, id :: ids => match nth tb id with
    | some (.row _ t xs) => frzAll (tb.set id (.fz t xs)) ids
    | some (.fz _ _) => frzAll tb ids
    | _ => none

def chainOf : List IV → IV
  | [] => .un
  | v :: vs => .pr v (chainOf vs)

def resI : List IV → IV
  | [v] => v
  | l => .tu (chainOf l)

def isNil {α : Type} : List α → Bool
  | [] => true
  | _ => false

/-- Nothing that comes back can be a part of what was lent. -/
def safe (ct : Ct) (lt : List Nat) : Bool := isNil lt || (ct.B.all Sh.nr && ct.U.all TSh.nr)

/-- The table behind a call. -/
def tbB (m : Nat) (bd : List Nat) (tb1 : Tbl) (us : Tbl) (n : Nat) : Tbl :=
  putAll tb1 bd ((us.take m).map (renT (gb (bd.take m) n)) ++ List.replicate (bd.length - m) .no) ++ (us.drop m).map (renT (gb (bd.take m) n))

def callF {β : Type} (ct : Ct) (vs : List IV) (tb : Tbl) (k : Option IV → Tbl → List Nat → Option β) : Option β :=
  uni true ct.A ct.T [] vs tb fun x y u => match Nat.ble ct.m ct.U.length && Nat.ble ct.m u.bd.length with
    | true => match safe ct u.lt with
      | true => ct.run _ x y fun p q =>
        k (some (resI ((encs ct.B p).map (ren (gb (u.bd.take ct.m) u.tb.length))))) (tbB ct.m u.bd u.tb (encTs ct.U q) u.tb.length) u.bd
      | false => match frzAll u.tb u.lt with
        | some tb1 => ct.run _ x y fun p q =>
          k (some (resI ((encs ct.B p).map (ren (gb (u.bd.take ct.m) u.tb.length))))) (tbB ct.m u.bd tb1 (encTs ct.U q) u.tb.length) (u.bd ++ u.lt)
        | none => none
    | false => none

section
variable {P : Program} {c : Cfg} {O : Own} {ρ : List Hd} {w : World}

theorem frzAll_len : ∀ {ids : List Nat} {tb tb1 : Tbl}, frzAll tb ids = some tb1 → tb1.length = tb.length
  | [], tb, tb1, h => by simp [frzAll] at h; simp [h]
  | id :: ids, tb, tb1, h => by
    simp only [frzAll] at h
    split at h
    · rw [frzAll_len h]; simp
    · exact frzAll_len h
    · cases h

/-- What becomes of each thing. -/
theorem frzAll_get : ∀ {ids : List Nat} {tb tb1 : Tbl} {j : Nat} {x : Thing}, frzAll tb ids = some tb1 → tb1[j]? = some x → (tb[j]? = some x ∧ (j ∈ ids → ∃ t xs, x = .fz t xs)) ∨ (j ∈ ids ∧ ∃ E t xs, tb[j]? = some (.row E t xs) ∧ x = .fz t xs)
  | [], tb, tb1, j, x, h, hx => by simp [frzAll] at h; subst h; exact .inl ⟨hx, fun h => by simp at h⟩
  | id :: ids, tb, tb1, j, x, h, hx => by
    simp only [frzAll] at h
    split at h
    · rename_i E t xs hb
      rw [nth_eq] at hb
      have hid := (List.getElem?_eq_some_iff.1 hb).1
      rcases frzAll_get h hx with ⟨h1, h2⟩ | ⟨h1, E', t', xs', h2, h3⟩
      · rw [List.getElem?_set] at h1
        split at h1
        · rename_i e; subst e
          have : x = .fz t xs := by first | (rw [if_pos hid] at h1; cases h1; rfl) | (cases h1; rfl)
          exact .inr ⟨by simp, E, t, xs, hb, this⟩
        · rename_i e
          refine .inl ⟨h1, fun hj => ?_⟩
          rcases List.mem_cons.1 hj with hj | hj
          · exact absurd hj.symm e
          · exact h2 hj
      · rw [List.getElem?_set] at h2
        split at h2
        · rename_i e; subst e
          exfalso
          first
            | (rw [if_pos hid] at h2; cases h2)
            | cases h2
        · exact .inr ⟨by simp [h1], E', t', xs', h2, h3⟩
    · rename_i t xs hb
      rw [nth_eq] at hb
      rcases frzAll_get h hx with ⟨h1, h2⟩ | ⟨h1, E', t', xs', h2, h3⟩
      · refine .inl ⟨h1, fun hj => ?_⟩
        rcases List.mem_cons.1 hj with hj | hj
        · subst hj; rw [hb] at h1; cases h1; exact ⟨_, _, rfl⟩
        · exact h2 hj
      · exact .inr ⟨by simp [h1], E', t', xs', h2, h3⟩
    · cases h

theorem RL.ren {O2 : Own} {ρ2 : List Hd} {g : Nat → Nat} (hρ : ∀ j h, ρ[j]? = some h → ρ2[g j]? = some h) : ∀ {ss : List Sh} {x : dens ss} {cs : List (List Value)}, (O.le O2 ∨ ss.all Sh.nr = true) → RL O ρ (encs ss x) cs → RL O2 ρ2 ((encs ss x).map (ren g)) cs
  | [], x, cs, hle, h => h
  | s :: ss, x, cs, hle, h => by
    obtain ⟨c0, r, h1, h2, h3⟩ := h
    refine ⟨c0, r, h1, ren_R hρ (hle.imp_right (fun h => by simp only [List.all_cons, Bool.and_eq_true] at h; exact h.1)) h2, RL.ren hρ (hle.imp_right (fun h => by simp only [List.all_cons, Bool.and_eq_true] at h; exact h.2)) h3⟩

theorem szs_ren (g : Nat → Nat) : ∀ vs : List IV, szs (vs.map (ren g)) = szs vs
  | [] => rfl
  | v :: vs => by simp only [szs, List.map_cons, ren_sz] ; have := szs_ren g vs; simp only [szs] at this; rw [this]

/-- Results as one value. -/
theorem res_SR : ∀ {vs : List IV} {ds : List (List Value)}, RL O ρ vs ds → ∃ x : SV, SR O ρ (resI vs) x ∧ x.val = resV vs ds := by
  have one : ∀ {v : IV} {c : List Value}, R O ρ false v c → ∃ y : S0, S0R O ρ v y ∧ y.val = (bif v.agg then .agg c.toArray else c.headD (.bool false)) := by
    intro v c h
    cases hv : v.agg with
    | true => exact ⟨_, S0R.of_agg hv h, rfl⟩
    | false =>
      have hl := R.length h
      have hz : v.sz.size = 1 := by cases v <;> simp [IV.agg] at hv <;> rfl
      rw [hz] at hl
      obtain ⟨u, rfl⟩ := List.length_eq_one_iff.1 hl
      by_cases ho : ∃ x, v = .o x
      · obtain ⟨x, rfl⟩ := ho
        obtain ⟨h1, h2⟩ := h
        cases h1
        exact ⟨x, ⟨rfl, h2⟩, rfl⟩
      · refine ⟨.v u, ?_, rfl⟩
        cases v <;> simp [IV.agg] at hv
        case o x => exact absurd ⟨x, rfl⟩ ho
        all_goals exact ⟨u, rfl, h⟩
  have many : ∀ {vs : List IV} {ds : List (List Value)}, RL O ρ vs ds → ∃ xs : List S0, TuR O ρ (chainOf vs) xs ∧ xs.map S0.val = vals vs ds := by
    intro vs
    induction vs with
    | nil => intro ds h; exact ⟨[], rfl, by simp [vals]⟩
    | cons v vs ih =>
      intro ds h
      obtain ⟨c0, r, rfl, h1, h2⟩ := h
      obtain ⟨y, h3, h4⟩ := one h1
      obtain ⟨xs, h5, h6⟩ := ih h2
      exact ⟨y :: xs, ⟨y, xs, rfl, h3, h5⟩, by simp [vals, h4, h6]⟩
  intro vs ds h
  match vs, ds, h with
  | [v], ds, h =>
    obtain ⟨c0, r, rfl, h1, h2⟩ := h
    simp only [RL] at h2; subst h2
    obtain ⟨y, h3, h4⟩ := one h1
    exact ⟨.o y, .of_S0 h3, by simp only [SV.val, h4, resV, vals]⟩
  | [], ds, h =>
    simp only [RL] at h; subst h
    exact ⟨.t [], ⟨[], rfl, rfl⟩, by simp [SV.val, resV, vals]⟩
  | v :: u :: vs, ds, h =>
    obtain ⟨xs, h5, h6⟩ := many h
    refine ⟨.t xs, ⟨xs, rfl, h5⟩, ?_⟩
    obtain ⟨c0, r, rfl, h1, c1, r1, rfl, h2, h3⟩ := h
    simp only [SV.val, h6, resV, vals]

/-- What a call comes to. -/
def COk' {β : Type} (P : Program) (d : Bool) (c : Cfg) (O : Own) (ρ : List Hd) (w : World) (f : FuncId) (xs : List Value) (k : Option IV → Tbl → List Nat → Option β) (r : β) : Prop :=
  ∃ v tb' mu, k (some v) tb' mu = some r ∧ CallK P d f xs.toArray w (fun x w' => ∃ O' ρ' sv, x = sv.val ∧ SR O' ρ' v sv ∧ Gm O' ρ' tb' w' ∧ Stp (· ∈ mu) O ρ w O' ρ' w')

theorem callF_ok {β : Type} {d : Bool} {ct : Ct} {f : FuncId} {vs : List IV} {tb : Tbl} {k : Option IV → Tbl → List Nat → Option β} {r : β} {cs : List (List Value)} (hS : SoundK P c d f ct) (e : callF ct vs tb k = some r) (hG : GO c O) (hM : Gm O ρ tb w) (hR : RL O ρ vs cs) : COk' P d c O ρ w f (vals vs cs) k r := by
  unfold callF at e
  obtain ⟨x, y, u, O1, ρ1, e, U⟩ := uni_ok e hM hR List.nodup_nil (by simp)
  split at e <;> first | (cases e; done) | skip
  rename_i hle
  simp only [Bool.and_eq_true, Nat.ble_eq] at hle
  obtain ⟨hle, hmb⟩ := hle
  -- what both ways share
  have key : ∀ (fz : Bool) (tb1 : Tbl) (p : dens ct.B) (q : tdens ct.U), (fz = false → tb1 = u.tb ∧ safe ct u.lt = true) → (fz = true → frzAll u.tb u.lt = some tb1) → ct.run _ x y (fun p q => some (p, q)) = some (p, q) →
      CallK P d f (vals vs cs).toArray w (fun z w' => ∃ O' ρ' sv, z = sv.val ∧ SR O' ρ' (resI ((encs ct.B p).map (ren (gb (u.bd.take ct.m) u.tb.length)))) sv ∧
        Gm O' ρ' (tbB ct.m u.bd tb1 (encTs ct.U q) u.tb.length) w' ∧ Stp (· ∈ u.bd ++ (bif fz then u.lt else [])) O ρ w O' ρ' w') := by
    intro fz tb1 p q hfz0 hfz1 hrun
    have hGO : GO c (Oc u.bd u.lt O1 w) := hG.mono (U.gh.stp.im.trans (Oc_le _ _ _ _))
    have hcall := hS x y p q hrun _ _ w cs hGO U.gm U.rl
    rw [vals_sz U.sz] at hcall
    refine hcall.mono fun z w' he => ?_
    · obtain ⟨Oq, ρq, ds, gq, sq, rq, rfl⟩ := he
      -- lengths
      have hn : ρ1.length = u.tb.length := U.gh.gm.len
      have hm : ρq.length = ct.U.length := by rw [gq.len, encTs_len]
      have htb1 : tb1.length = u.tb.length := by
        cases fz with
        | false => rw [(hfz0 rfl).1]
        | true => exact frzAll_len (hfz1 rfl)
      -- blocks that were not given to the call
      have hkeep : ∀ b, b < w.heap.size → (∀ j, Oc u.bd u.lt O1 w b ≠ .th j) → w'.heap[b]? = w.heap[b]? := fun b hb hn => sq.kept.block b hb (fun ⟨j, _, e⟩ => hn j e)
      have hlow : ∀ b, O1 b ≠ .no → b < w.heap.size := fun b h => by
        rcases Nat.lt_or_ge b w.heap.size with h' | h'
        · exact h'
        · exact absurd (U.gh.gm.lt b h') h
      let g := gb (u.bd.take ct.m) u.tb.length
      have htk : (u.bd.take ct.m).length = ct.m := by rw [List.length_take]; omega
      let rl : Ow → Ow := fun o => match o with
        | .th j => .th (g j)
        | o => o
      let O2 : Own := fun b => if b < w.heap.size then (match O1 b with
        | .im all => .im all
        | .no => .no
        | .th id => match idx u.bd id with
          | some _ => rl (Oq b)
          | none => bif fz then (match idx u.lt id with
            | some _ => Oc u.bd u.lt O1 w b
            | none => .th id) else .th id) else rl (Oq b)
      let ρ2 := ρ1 ++ ρq.drop ct.m
      have hρ : ∀ j h, ρq[j]? = some h → ρ2[g j]? = some h := by
        intro j h hj
        show (ρ1 ++ ρq.drop ct.m)[gb (u.bd.take ct.m) u.tb.length j]? = some h
        unfold gb
        split
        · rename_i id hid
          rw [nth_eq, List.getElem?_take] at hid
          have hjm : j < ct.m := by
            rcases Nat.lt_or_ge j ct.m with h | h
            · exact h
            · rw [if_neg (by omega)] at hid; cases hid
          rw [if_pos hjm] at hid
          have hlt := U.in_ id (List.mem_of_getElem? hid)
          have hid1 : id < ρ1.length := by rw [hn]; exact hlt
          have h2 : ((rc u.bd ρ1).take ct.m)[j]? = some (ρ1[id]) := by
            rw [List.getElem?_take, if_pos hjm]
            simp [rc, hid, List.getD_eq_getElem?_getD, hid1]
          have := sq.pre j _ h2
          rw [hj] at this; cases this
          rw [List.getElem?_append_left hid1]; simp [hid1]
        · rename_i hid
          rw [nth_eq] at hid
          have hjm : ct.m ≤ j := by rw [List.getElem?_eq_none_iff, htk] at hid; exact hid
          rw [htk, List.getElem?_append_right (by omega), hn]
          rw [show u.tb.length + (j - ct.m) - u.tb.length = j - ct.m from by omega, List.getElem?_drop, show ct.m + (j - ct.m) = j from by omega]
          exact hj
      have hle1 : O1.le O2 := fun b all hb => by
        show (if b < w.heap.size then _ else _) = _
        rw [if_pos (hlow b (by rw [hb]; simp))]; simp only [hb]
      -- a block's owner in the call
      have back : ∀ b, b < w.heap.size → (∃ all, O1 b = .im all ∧ Oq b = .im all) ∨ (∃ id j, O1 b = .th id ∧ idx u.bd id = some j) ∨ (∃ id k all, O1 b = .th id ∧ idx u.bd id = none ∧ idx u.lt id = some k ∧ Oc u.bd u.lt O1 w b = .im all ∧ Oq b = .im all) ∨ (Oq b = .no ∧ ∀ all, O1 b ≠ .im all) := by
        intro b hb
        cases ho : O1 b with
        | im all => exact .inl ⟨all, rfl, sq.im b all (by simp only [Oc, ho])⟩
        | no => exact .inr (.inr (.inr ⟨sq.no b hb (by simp only [Oc, ho]), by simp⟩))
        | th id =>
          cases hi : idx u.bd id with
          | some j => exact .inr (.inl ⟨id, j, rfl, hi⟩)
          | none =>
            cases hl : idx u.lt id with
            | none => exact .inr (.inr (.inr ⟨sq.no b hb (by simp only [Oc, ho, hi, hl]), by simp⟩))
            | some k =>
              cases hh : w.heap[b]? with
              | none => exact .inr (.inr (.inr ⟨sq.no b hb (by simp only [Oc, ho, hi, hl, hh]), by simp⟩))
              | some ob =>
                cases ob with
                | cells a ty fzz =>
                  have : Oc u.bd u.lt O1 w b = .im a.toList := by simp only [Oc, ho, hi, hl, hh]
                  exact .inr (.inr (.inl ⟨id, k, a.toList, rfl, hi, hl, this, sq.im b _ this⟩))
                | _ => exact .inr (.inr (.inr ⟨sq.no b hb (by simp only [Oc, ho, hi, hl, hh]), by simp⟩))
      have hown : ∀ b i, Oq b = .th i → O2 b = .th (g i) := by
        intro b i hb
        show (if b < w.heap.size then _ else _) = _
        by_cases hbs : b < w.heap.size
        · rw [if_pos hbs]
          rcases back b hbs with ⟨all, _, h⟩ | ⟨id, j, ho, hi⟩ | ⟨_, _, _, _, _, _, _, h⟩ | ⟨h, _⟩
          · rw [h] at hb; cases hb
          · simp only [ho, hi, hb, rl]
          · rw [h] at hb; cases hb
          · rw [h] at hb; cases hb
        · rw [if_neg hbs]; simp only [hb, rl]
      have hinc : Oq.le O2 ∨ (ct.B.all Sh.nr = true ∧ ct.U.all TSh.nr = true) := by
        have yes : (fz = true ∨ u.lt = []) → Oq.le O2 := by
          intro hor b all hb
          show (if b < w.heap.size then _ else _) = _
          by_cases hbs : b < w.heap.size
          · rw [if_pos hbs]
            rcases back b hbs with ⟨all', h1, h⟩ | ⟨id, j, ho, hi⟩ | ⟨id, kk, all', h1, h2, h3, h4, h5⟩ | ⟨h, _⟩
            · rw [h] at hb; cases hb; simp only [h1]
            · simp only [ho, hi, hb, rl]
            · rcases hor with hor | hor
              · subst hor
                rw [h5] at hb; cases hb
                simp only [h1, h2, h3, h4, cond_true]
              · rw [hor] at h3; simp [idx] at h3
            · rw [h] at hb; cases hb
          · rw [if_neg hbs]; simp only [hb, rl]
        cases fz with
        | true => exact .inl (yes (.inl rfl))
        | false =>
          have := (hfz0 rfl).2
          simp only [safe, Bool.or_eq_true, Bool.and_eq_true] at this
          rcases this with h | h
          · exact .inl (yes (.inr (by cases hl : u.lt with | nil => rfl | cons _ _ => rw [hl] at h; cases h)))
          · exact .inr h
      -- a thing that came back
      have hthing : ∀ i t, (encTs ct.U q)[i]? = some t → Holds O2 ρ2 w' (g i) (renT g t) := by
        intro i t ht
        have hold := gq.th i t ht
        have hsh : ∃ s : TSh, ∃ z : s.den, t = encT s z ∧ (Oq.le O2 ∨ s.nr = true) := by
          have gen : ∀ (ss : List TSh) (z : tdens ss) (i : Nat), (Oq.le O2 ∨ ss.all TSh.nr = true) → (encTs ss z)[i]? = some t → ∃ s : TSh, ∃ z : s.den, t = encT s z ∧ (Oq.le O2 ∨ s.nr = true) := by
            intro ss
            induction ss with
            | nil => intro z i _ h; simp [encTs] at h
            | cons s ss ih =>
              intro z i hn h
              cases i with
              | zero => simp [encTs] at h; exact ⟨s, z.1, h.symm, hn.imp_right (fun h => by simp only [List.all_cons, Bool.and_eq_true] at h; exact h.1)⟩
              | succ i => exact ih z.2 i (hn.imp_right (fun h => by simp only [List.all_cons, Bool.and_eq_true] at h; exact h.2)) (by simpa [encTs] using h)
          exact gen ct.U q i (hinc.imp_right (·.2)) ht
        obtain ⟨s, z, rfl, hnr⟩ := hsh
        cases s with
        | blk ty s =>
          obtain ⟨h, c0, h1, h2, h3, h4, h5⟩ := hold
          exact ⟨h, c0, hρ _ _ h1, hown _ _ h2, by rw [ren_sz]; exact h3, ren_R hρ hnr h4, h5⟩
        | row E t =>
          obtain ⟨h, es, h1, h2, h3, h4, h5⟩ := hold
          refine ⟨h, es, hρ _ _ h1, h2, fun b hb => hown _ _ (h3 b hb), h4.mono (fun _ _ hT => ?_), h5⟩
          rcases hnr with hnr | hnr
          · exact TR.mono hnr hT
          · exact TR.flat hnr hT
        | fz t =>
          obtain ⟨h, h1, h2, h3⟩ := hold
          refine ⟨h, hρ _ _ h1, h2, ?_⟩
          rcases hnr with hnr | hnr
          · exact TR.mono hnr h3
          · cases hnr
        | no => trivial
      have gm2 : Gm O2 ρ2 (tbB ct.m u.bd tb1 (encTs ct.U q) u.tb.length) w' := by
        show Gm O2 ρ2 (putAll tb1 u.bd (((encTs ct.U q).take ct.m).map (renT g) ++ List.replicate (u.bd.length - ct.m) .no) ++ ((encTs ct.U q).drop ct.m).map (renT g)) w'
        refine ⟨fun b all hb => ?_, fun b hb => ?_, ?_, fun j t ht => ?_⟩
        · have hb : (if b < w.heap.size then _ else _) = Ow.im all := hb
          by_cases hbs : b < w.heap.size
          · rw [if_pos hbs] at hb
            cases ho : O1 b with
            | im all' =>
              simp only [ho] at hb; cases hb
              obtain ⟨ty, fzz, hh⟩ := U.gh.gm.im b all ho
              exact ⟨ty, fzz, by rw [hkeep b hbs (fun j h => by simp only [Oc, ho] at h; cases h)]; exact hh⟩
            | no => simp only [ho] at hb; cases hb
            | th id =>
              simp only [ho] at hb
              split at hb
              · simp only [rl] at hb
                split at hb
                · cases hb
                · exact gq.im b all hb
              · cases fz with
                | false => cases hb
                | true =>
                  simp only [cond_true] at hb
                  split at hb
                  · obtain ⟨ty, fzz, hh⟩ := U.gm.im b all hb
                    exact ⟨ty, fzz, by rw [hkeep b hbs (fun j h => by rw [hb] at h; cases h)]; exact hh⟩
                  · cases hb
          · rw [if_neg hbs] at hb
            simp only [rl] at hb
            split at hb
            · cases hb
            · exact gq.im b all hb
        · show (if b < w.heap.size then _ else _) = _
          rw [if_neg (by have := sq.kept.size; omega)]
          simp only [gq.lt b hb, rl]
        · show (ρ1 ++ ρq.drop ct.m).length = _
          simp only [List.length_append, putAll_len, List.length_map, List.length_drop, encTs_len, hn, hm, htb1]
        · rcases Nat.lt_or_ge j u.tb.length with hj | hj
          · rw [List.getElem?_append_left (by rw [putAll_len, htb1]; exact hj)] at ht
            cases hi : idx u.bd j with
            | some i =>
              have hbi := idx_some hi
              have hil : i < u.bd.length := (List.getElem?_eq_some_iff.1 hbi).1
              rw [putAll_in U.nd hbi (by rw [htb1]; exact hj) (by simp [encTs_len]; omega)] at ht
              have hml : (((encTs ct.U q).take ct.m).map (renT g)).length = ct.m := by simp [encTs_len]; omega
              rcases Nat.lt_or_ge i ct.m with him | him
              · rw [List.getElem?_append_left (by rw [hml]; exact him)] at ht
                simp only [List.getElem?_map, Option.map_eq_some_iff] at ht
                obtain ⟨t0, ht0, rfl⟩ := ht
                rw [List.getElem?_take] at ht0
                rw [if_pos him] at ht0
                have := hthing i t0 ht0
                have hg : g i = j := by show gb _ _ _ = _; unfold gb; rw [nth_eq, List.getElem?_take, if_pos him, hbi]
                rw [hg] at this; exact this
              · rw [List.getElem?_append_right (by rw [hml]; exact him)] at ht
                have := (List.mem_replicate.1 (List.mem_of_getElem? ht)).2
                subst this; trivial
            | none =>
              have hnb := idx_none hi
              rw [putAll_out hnb] at ht
              -- untouched
              have stays : ∀ t, u.tb[j]? = some t → (fz = true → j ∈ u.lt → ∃ t' xs, t = .fz t' xs) → Holds O2 ρ2 w' j t := by
                intro t ht0 hnf
                have hold := U.gh.gm.th j t ht0
                have nofr : ∀ b, O1 b = .th j → (∀ t' xs, t ≠ .fz t' xs) → O2 b = .th j ∧ w'.heap[b]? = w.heap[b]? := by
                  intro b hb hne
                  have hbs := hlow b (by rw [hb]; simp)
                  refine ⟨?_, hkeep b hbs (fun jj h => ?_)⟩
                  · show (if b < w.heap.size then _ else _) = _
                    rw [if_pos hbs]
                    simp only [hb, hi]
                    cases fz with
                    | false => rfl
                    | true =>
                      simp only [cond_true]
                      split
                      · rename_i kk hk
                        obtain ⟨t', xs, e⟩ := hnf rfl (List.mem_of_getElem? (idx_some hk))
                        exact absurd e (hne t' xs)
                      · rfl
                  · simp only [Oc, hb, hi] at h
                    split at h
                    · split at h <;> cases h
                    · cases h
                cases t with
                | blk ty v =>
                  obtain ⟨h, c0, h1, h2, h3, h4, h5⟩ := hold
                  obtain ⟨n1, n2⟩ := nofr h.b h2 (by simp)
                  exact ⟨h, c0, Pre.app _ _ _ _ h1, n1, h3, R.mono hle1 (Pre.app _ _) h4, h5.same n2⟩
                | row E t =>
                  obtain ⟨h, es, h1, h2, h3, h4, h5⟩ := hold
                  exact ⟨h, es, Pre.app _ _ _ _ h1, h2, fun b hb => (nofr b (h3 b hb) (by simp)).1, h4.mono (fun _ _ => TR.mono hle1), Rs.same (r := .row E t.size h.v _ es) (fun b hb => (nofr b (h3 b hb) (by simp)).2) h5⟩
                | fz t xs =>
                  obtain ⟨h, h1, h2, h3⟩ := hold
                  exact ⟨h, Pre.app _ _ _ _ h1, h2, TR.mono hle1 h3⟩
                | no => trivial
              cases fz with
              | false =>
                rw [(hfz0 rfl).1] at ht
                exact stays t ht (fun h => by cases h)
              | true =>
                rcases frzAll_get (hfz1 rfl) ht with ⟨h1, h2⟩ | ⟨h1, E, t', xs, h2, rfl⟩
                · exact stays t h1 (fun _ hj => h2 hj)
                · obtain ⟨h, es, h3, h4, h5, h6, h7⟩ := U.gh.gm.th j _ h2
                  refine ⟨h, Pre.app _ _ _ _ h3, h4, ?_⟩
                  refine ⟨h.v, es, rfl, h6.mono (fun _ _ => TR.mono hle1), ofSlAt h7.rd (fun b a ty fzz hn0 hb hh => ?_)⟩
                  have ho := h5 b hb
                  have hbs := hlow b (by rw [ho]; simp)
                  show (if b < w.heap.size then _ else _) = _
                  rw [if_pos hbs]
                  have hs : ∃ kk, idx u.lt j = some kk := by
                    cases hk : idx u.lt j with
                    | none => exact absurd h1 (idx_none hk)
                    | some kk => exact ⟨kk, rfl⟩
                  obtain ⟨kk, hk⟩ := hs
                  simp only [ho, hi, hk, cond_true, Oc, hh]
          · have hlen : (putAll tb1 u.bd (((encTs ct.U q).take ct.m).map (renT g) ++ List.replicate (u.bd.length - ct.m) .no)).length = u.tb.length := by rw [putAll_len, htb1]
            rw [List.getElem?_append_right (by rw [hlen]; exact hj), hlen] at ht
            simp only [List.getElem?_map, Option.map_eq_some_iff, List.getElem?_drop] at ht
            obtain ⟨t0, ht0, rfl⟩ := ht
            have := hthing _ t0 ht0
            have hg : g (ct.m + (j - u.tb.length)) = j := by
              show gb _ _ _ = _
              unfold gb
              rw [nth_eq, List.getElem?_eq_none (by rw [htk]; omega)]
              simp only [htk]; omega
            rw [hg] at this; exact this
      have stp2 : Stp (· ∈ u.bd ++ (bif fz then u.lt else [])) O1 ρ1 w O2 ρ2 w' := by
        refine ⟨Pre.app _ _, hle1, fun b hb ho => ?_, fun b id hb ho hni => ?_, sq.kept.wide fun b ⟨j, _, ho⟩ => ?_⟩
        · show (if b < w.heap.size then _ else _) = _
          rw [if_pos hb]; simp only [ho]
        · show (if b < w.heap.size then _ else _) = _
          rw [if_pos hb]
          simp only [List.mem_append, not_or] at hni
          have h1 : idx u.bd id = none := by
            cases hi : idx u.bd id with
            | none => rfl
            | some j => exact absurd (List.mem_of_getElem? (idx_some hi)) hni.1
          simp only [ho, h1]
          cases fz with
          | false => rfl
          | true =>
            have h2 : idx u.lt id = none := by
              cases hi : idx u.lt id with
              | none => rfl
              | some j => exact absurd (List.mem_of_getElem? (idx_some hi)) hni.2
            simp only [h2, cond_true]
        · cases h1 : O1 b with
          | im all => simp only [Oc, h1] at ho; cases ho
          | no => simp only [Oc, h1] at ho; cases ho
          | th id =>
            cases hi : idx u.bd id with
            | some j' => exact ⟨id, List.mem_append_left _ (List.mem_of_getElem? (idx_some hi)), rfl⟩
            | none =>
              simp only [Oc, h1, hi] at ho
              split at ho
              · split at ho <;> cases ho
              · cases ho
      have hrl : RL O2 ρ2 ((encs ct.B p).map (ren g)) ds := RL.ren hρ (hinc.imp_right (·.1)) rq
      obtain ⟨sv, hsv, hval⟩ := res_SR hrl
      refine ⟨O2, ρ2, sv, ?_, hsv, gm2, (U.gh.stp.weak (fun _ h => by cases h)).trans stp2⟩
      rw [hval]
      simp only [resV, vals_sz (szs_ren g (encs ct.B p))]
  split at e
  · rename_i hsafe
    obtain ⟨p, q, hrun, hk⟩ := ct.nat _ x y _ r e
    refine ⟨_, _, _, hk, (key false u.tb p q (fun _ => ⟨rfl, hsafe⟩) (fun h => by cases h) hrun).mono fun z w' he => ?_⟩
    obtain ⟨O', ρ', sv, h1, h2, h3, h4⟩ := he
    exact ⟨O', ρ', sv, h1, h2, h3, h4.weak (fun i hi => by simpa using hi)⟩
  · split at e <;> first | (cases e; done) | skip
    rename_i tb1 hf
    obtain ⟨p, q, hrun, hk⟩ := ct.nat _ x y _ r e
    refine ⟨_, _, _, hk, (key true tb1 p q (fun h => by cases h) (fun _ => hf) hrun).mono fun z w' he => ?_⟩
    obtain ⟨O', ρ', sv, h1, h2, h3, h4⟩ := he
    exact ⟨O', ρ', sv, h1, h2, h3, h4.weak (fun i hi => by simpa using hi)⟩
end
end Go.Tw
/- The evaluator of regions, and that a region does what it says. No program is in it. -/
namespace Go.Tw
set_option linter.unusedSimpArgs false
set_option linter.unusedVariables false

structure St where
  env : IEnv
  tb : Tbl
  df : List IV

/-- What the evaluator is given: the types, the number of slots, the contracts, the orders of the regions that draw. -/
structure Ev where
  c : Cfg
  n : Nat
  ct : Nat → List Ct
  ord : Nat → List (Tag × Nat)
  cd : Nat → List Ct
  al : Nat → Option Nat

inductive Cl where
  | p
  | r
  | w
  | call
  | d

def clOf (c : Cfg) : Op → Cl
  | .load _ _ => .r
  | .convert src dst _ => match c.D src, c.D dst with
    | some .string, some (.slice _) => .w
    | some (.slice _), some (.slice _) => .w
    | some (.slice _), some .string => .r
    | _, _ => .p
  | .store _ _ _ => .w
  | .alloc _ => .w
  | .box _ _ => .w
  | .makeSlice _ _ _ => .w
  | .buildSlice _ _ _ => .w
  | .call cl => match cl.callee with
    | .builtin .append => .w
    | .builtin .copy => .w
    | .builtin _ => .p
    | _ => .call
  | .defer _ => .d
  | _ => .p

def unch : IV → Option (List IV)
  | .un => some []
  | .pr a b => match unch b with
    | some l => some (a :: l)
    | none => none
  | _ => none

def iopds (c : Cfg) (il : IEnv) : List Operand → Option (List IV)
  | [] => some []
  | x :: xs => match iopd c il x, iopds c il xs with
    | some (.tu _), _ => none
    | some v, some vs => some (v :: vs)
    | _, _ => none

def pickCt (vs : List IV) (tb : Tbl) : List Ct → Option Ct
  | [] => none
  | [ct] => some ct
  | ct :: r => match uni true ct.A ct.T [] vs tb (fun _ _ _ => some ()) with
    | some _ => some ct
    | none => pickCt vs tb r

def cOp {β : Type} (E : Ev) (il : IEnv) (tb : Tbl) (k : Option IV → Tbl → List Nat → Option β) : Op → Option β
  | .call cl => match cl.callee with
    | .value x => match iopd E.c il x with
      | some (.fn f a cc) => match unch a, iopds E.c il cl.args.toList, unch cc with
        | some l1, some l2, some l3 => match pickCt (l1 ++ (l2 ++ l3)) tb (E.ct f) with
          | some ct => callF ct (l1 ++ (l2 ++ l3)) tb k
          | none => none
        | _, _, _ => none
      | _ => none
    | _ => none
  | _ => none

/-- The slot gets a value. -/
def putE (E : Ev) (d : Option Nat) (v : IV) (il : IEnv) : Option IEnv :=
  match d with
  | none => some il
  | some d => match Nat.blt d E.n with
    | true => some ((d, v) :: il)
    | false => none

/-- One operation that is asked for. -/
def exec {β : Type} (E : Ev) (t : Tag) (o : Oper) (cr : List Nat) (st : St) (k : List Nat → St → Option β) : Option β :=
  match clOf E.c o.op with
  | .p => pOp E.c st.env st.tb (fun v => match putE E o.dst v st.env with
    | some il => k cr ⟨il, st.tb, st.df⟩
    | none => none) o.op
  | .r => match t, rIds E.c st.env o.op with
    | .p, _ => none
    | .c, some ids => rOp E.c st.env st.tb (fun v => match putE E o.dst v st.env with
      | some il => k (ids ++ cr) ⟨il, st.tb, st.df⟩
      | none => none) o.op
    | _, some _ => rOp E.c st.env st.tb (fun v => match putE E o.dst v st.env with
      | some il => k cr ⟨il, st.tb, st.df⟩
      | none => none) o.op
    | _, none => none
  | .w => match t, apart (wIds E.c st.env o.op) cr with
    | .w, true => wOp E.c st.env st.tb (fun v tb => match v with
      | some v => match putE E o.dst v st.env with
        | some il => k cr ⟨il, tb, st.df⟩
        | none => none
      | none => match o.dst with
        | none => k cr ⟨st.env, tb, st.df⟩
        | some _ => none) o.op
    | _, _ => none
  | .call => match t with
    | .w => cOp E st.env st.tb (fun v tb mu => match apart mu cr, v with
      | true, some v => match putE E o.dst v st.env with
        | some il => k cr ⟨il, tb, st.df⟩
        | none => none
      | _, _ => none) o.op
    | _ => none
  | .d => match t, o.op, o.dst with
    | .w, .defer cl, none => match cl.callee, cl.args.toList with
      | .value x, [] => match iopd E.c st.env x with
        | some (.fn f a cc) => k cr ⟨st.env, st.tb, .fn f a cc :: st.df⟩
        | _ => none
      | _, _ => none
    | _, _, _ => none

/-- One operation of a list. -/
def stepL {β : Type} (E : Ev) (ops : List Oper) (t : Tag) (o : Oper) (cr : List Nat) (st : St) (k : List Nat → St → Option β) : Option β :=
  match o.guard with
  | none => exec E t o cr st k
  | some (j, want) => match (nthO ops j).bind (·.dst) with
    | none => none
    | some dj => match geti st.env dj with
      | some (.o (.b g)) => match g with
        | true => match want with
          | true => exec E t o cr ⟨(dj, .o (.b true)) :: st.env, st.tb, st.df⟩ k
          | false => match putE E o.dst (.tu .un) ((dj, .o (.b true)) :: st.env) with
            | some il => k cr ⟨il, st.tb, st.df⟩
            | none => none
        | false => match want with
          | false => exec E t o cr ⟨(dj, .o (.b false)) :: st.env, st.tb, st.df⟩ k
          | true => match putE E o.dst (.tu .un) ((dj, .o (.b false)) :: st.env) with
            | some il => k cr ⟨il, st.tb, st.df⟩
            | none => none
      | some (.tu .un) => match putE E o.dst (.tu .un) st.env with
        | some il => k cr ⟨il, st.tb, st.df⟩
        | none => none
      | _ => none

/-- A list of operations. -/
def evL {β : Type} (E : Ev) (ops : List Oper) (k : St → Option β) : List (Tag × Oper) → List Nat → St → Option β
  | [], _, st => k st
  | (t, o) :: L, cr, st => stepL E ops t o cr st (evL E ops k L)

/-- The list before and behind the place of an operation. -/
def cutAt (i : Nat) : List (Tag × Nat) → Option (List (Tag × Nat) × List (Tag × Nat))
  | [] => none
  | (t, j) :: r => match Nat.beq i j with
    | true => match t with
      | .w => some ([], r)
      | _ => none
    | false => match cutAt i r with
      | some (x, y) => some ((t, j) :: x, y)
      | none => none

def chg (c : Cfg) (o : Op) : Bool := match clOf c o with
  | .w => true
  | .call => true
  | .d => true
  | _ => false

/-- The operations before a new variable's place. -/
def preOk (c : Cfg) (d : Nat) : List (Tag × Oper) → Bool
  | [] => true
  | (t, o) :: r => (match o.dst with
    | some d' => !(Nat.beq d' d)
    | none => true) && (match t with
    | .w => chg c o.op && (match o.guard with
      | none => true
      | some _ => false)
    | _ => true) && preOk c d r

/-- An operation that makes a new variable: its type and its slot. -/
def alOp (o : Oper) : Option (Nat × Nat) := match o.op, o.dst, o.guard with
  | .alloc t, some d, none => some (t, d)
  | _, _, _ => none

/-- A new variable may come early. -/
def early (E : Ev) (ops : List Oper) (π : List (Tag × Nat)) (ia : Nat) (st : St) : Bool :=
  match nthO ops ia, cutAt ia π with
  | some oa, some (x, y) => match alOp oa, pick ops x with
    | some (t, d), some L => match E.c.I t, geti st.env d with
      | some _, none => Nat.blt d E.n && preOk E.c d L
      | _, _ => false
    | _, _ => false
  | _, _ => false

def evR {β : Type} (E : Ev) (id : Nat) (ops : List Oper) (draw : Bool) (st : St) (k : St → Option β) : Option β :=
  match draw with
  | false => evL E ops k (allW ops) [] st
  | true => match pick ops (E.ord id) with
    | some L => match E.al id with
      | none => evL E ops k L [] st
      | some ia => match early E ops (E.ord id) ia st with
        | true => evL E ops k L [] st
        | false => none
    | none => none

/-- The walk of a list of operations; behind a change the class may be narrowed. -/
def Sx (P : Program) (ops : Array Oper) : (World → Prop) → (Act → World → Prop) → List (Tag × Oper) → Act → World → Prop
  | _, K, [], a, w => K a w
  | C, K, (.p, o) :: r, a, w => ∃ v, (∀ w, YAt P ops w o v a) ∧ Sx P ops C K r (a.put o.dst v) w
  | C, K, (.r, o) :: r, a, w => ∃ v, YAt P ops w o v a ∧ Sx P ops C K r (a.put o.dst v) w
  | C, K, (.c, o) :: r, a, w => ∃ v, (∀ w, C w → YAt P ops w o v a) ∧ Sx P ops C K r (a.put o.dst v) w
  | C, K, (.w, o) :: r, a, w => opO P ops (QL K (fun _ _ _ => False) (fun _ _ => False)) o (fun a w => ∃ C' : World → Prop, (∀ w, C' w → C w) ∧ C' w ∧ Sx P ops C' K r a w) a w

/-- One step of a walk. -/
def StepX (P : Program) (ops : Array Oper) (K : Act → World → Prop) (S : (World → Prop) → Act → World → Prop) (C : World → Prop) : Tag → Oper → Act → World → Prop
  | .p, o, a, w => ∃ v, (∀ w, YAt P ops w o v a) ∧ S C (a.put o.dst v) w
  | .r, o, a, w => ∃ v, YAt P ops w o v a ∧ S C (a.put o.dst v) w
  | .c, o, a, w => ∃ v, (∀ w, C w → YAt P ops w o v a) ∧ S C (a.put o.dst v) w
  | .w, o, a, w => opO P ops (QL K (fun _ _ _ => False) (fun _ _ => False)) o (fun a w => ∃ C' : World → Prop, (∀ w, C' w → C w) ∧ C' w ∧ S C' a w) a w

theorem StepX.sx {P : Program} {ops : Array Oper} {K : Act → World → Prop} {C : World → Prop} {t : Tag} {o : Oper} {L : List (Tag × Oper)} {a : Act} {w : World} (h : StepX P ops K (fun C a w => Sx P ops C K L a w) C t o a w) : Sx P ops C K ((t, o) :: L) a w := by
  cases t <;> exact h

theorem stepx_value {P : Program} {K : Act → World → Prop} {S : (World → Prop) → Act → World → Prop} {a : Act} {w : World} {C : World → Prop} {ops : Array Oper} {t : Tag} {o : Oper} {v : Value} (hC : C w) (hy : ∀ w, YAt P ops w o v a) (k : S C (a.put o.dst v) w) : StepX P ops K S C t o a w := by
  cases t with
  | p => exact ⟨v, hy, k⟩
  | r => exact ⟨v, hy w, k⟩
  | c => exact ⟨v, fun w _ => hy w, k⟩
  | w => exact (hy w).upon (K := fun a w => ∃ C' : World → Prop, (∀ w, C' w → C w) ∧ C' w ∧ S C' a w) ⟨C, fun _ h => h, hC, k⟩

/-- The walk of a list with a new variable oa that may come at any time before its place. -/
def SxP (P : Program) (ops : Array Oper) (K : Act → World → Prop) (oa : Oper) (post : List (Tag × Oper)) : List (Tag × Oper) → (World → Prop) → Act → World → Prop
  | [], C, a, w => Sx P ops C K ((.w, oa) :: post) a w
  | (t, o) :: r, C, a, w => StepX P ops K (SxP P ops K oa post r) C t o a w ∧
    (t = .w → opO P ops (QL K (fun _ _ _ => False) (fun _ _ => False)) oa (fun a w => ∃ C' : World → Prop, (∀ w, C' w → C w) ∧ C' w ∧ Sx P ops C' K ((t, o) :: r ++ post) a w) a w)

/-- A walk in a narrower class. -/
def SxN (P : Program) (ops : Array Oper) (K : Act → World → Prop) (L : List (Tag × Oper)) (C : World → Prop) (a : Act) (w : World) : Prop := ∃ C' : World → Prop, (∀ w, C' w → C w) ∧ C' w ∧ Sx P ops C' K L a w

theorem StepX.sxn {P : Program} {ops : Array Oper} {K : Act → World → Prop} {C : World → Prop} {t : Tag} {o : Oper} {L : List (Tag × Oper)} {a : Act} {w : World} (hC : C w) (h : StepX P ops K (SxN P ops K L) C t o a w) : SxN P ops K ((t, o) :: L) C a w := by
  cases t with
  | p => obtain ⟨v, h1, C', h2, h3, h4⟩ := h; exact ⟨C', h2, h3, v, h1, h4⟩
  | r => obtain ⟨v, h1, C', h2, h3, h4⟩ := h; exact ⟨C', h2, h3, v, h1, h4⟩
  | c => obtain ⟨v, h1, C', h2, h3, h4⟩ := h; exact ⟨C', h2, h3, v, fun w hw => h1 w (h2 w hw), h4⟩
  | w =>
    refine ⟨C, fun _ h => h, hC, ?_⟩
    simp only [StepX, opO] at h
    simp only [Sx, opO]
    split
    · rename_i hw
      rw [if_pos hw] at h
      exact Oper.wp_mono (fun a w ⟨C', h1, h2, C2, h3, h4, h5⟩ => ⟨C2, fun w hw => h1 w (h3 w hw), h4, h5⟩) h
    · rename_i hw
      rw [if_neg hw] at h
      obtain ⟨C', h1, h2, C2, h3, h4, h5⟩ := h
      exact ⟨C2, fun w hw => h1 w (h3 w hw), h4, h5⟩

theorem sx_value {P : Program} {K : Act → World → Prop} {a : Act} {w : World} {C : World → Prop} {ops : Array Oper} {t : Tag} {o : Oper} {L : List (Tag × Oper)} {v : Value} (hC : C w) (hy : ∀ w, YAt P ops w o v a) (k : Sx P ops C K L (a.put o.dst v) w) : Sx P ops C K ((t, o) :: L) a w := by
  cases t with
  | p => exact ⟨v, hy, k⟩
  | r => exact ⟨v, hy w, k⟩
  | c => exact ⟨v, fun w _ => hy w, k⟩
  | w => exact (hy w).upon (K := fun a w => ∃ C' : World → Prop, (∀ w, C' w → C w) ∧ C' w ∧ Sx P ops C' K L a w) ⟨C, fun _ h => h, hC, k⟩

theorem sx_plain {P : Program} {ops : Array Oper} {K : Act → World → Prop} : ∀ (C : World → Prop) (l : List Oper) (a : Act) (w : World), Sx P ops C K (allW l) a w → wpList P ops (Qn K) l a w
  | _, [], _, _, h => h
  | C, o :: l, a, w, h => by
    simp only [allW, Sx, opO] at h
    unfold wpList
    split
    · rename_i hw
      rw [if_pos hw] at h
      exact .inl (Oper.wp_mono (fun a w ⟨C', _, _, h⟩ => sx_plain C' l a w h) h)
    · rename_i hw
      rw [if_neg hw] at h
      obtain ⟨C', _, _, h⟩ := h
      exact sx_plain C' l _ _ h

theorem AnyC.wide {P : Program} {ops : Array Oper} {C C' : World → Prop} {K : Act → World → Prop} {Z : Nat → Bool} (hC : ∀ w, C' w → C w) : ∀ {fuel : Nat} {listed : Array Bool} {a : Act} {w : World}, AnyC P ops C' Z K fuel listed a w → AnyC P ops C Z K fuel listed a w
  | 0, _, _, _, h => ⟨hC _ h.1, h.2.1, h.2.2⟩
  | _ + 1, _, _, _, h => ⟨hC _ h.1, h.2.1, fun i hi => wpOp_mono (fun _ _ h => ⟨h.1, AnyC.wide hC h.2⟩) (h.2.2 i hi)⟩

theorem any_of_sx {P : Program} {K : Act → World → Prop} {l : List Oper} {Z : Nat → Bool} (hsel : Region.noSelect l.toArray = true) : ∀ (π : List (Tag × Nat)) (C : World → Prop) (L : List (Tag × Oper)) (listed : Array Bool) (a : Act) (w : World), pick l π = some L → (∀ t i, (t, i) ∈ π → t = .w → Z i = false) →
    okOrd l.toArray Z π listed = true → C w → Sx P l.toArray C K L a w → AnyC P l.toArray C Z K π.length listed a w
  | [], C, L, listed, a, w, hp, _, hB, hC, h => by
    simp only [pick, Option.some.injEq] at hp
    subst hp
    exact ⟨hC, by simpa [okOrd] using hB, h⟩
  | (t, i) :: π, C, L, listed, a, w, hp, hZ, hB, hC, h => by
    simp only [pick] at hp
    split at hp
    case h_2 => cases hp
    rename_i o os ho hos
    simp only [Option.some.injEq] at hp
    subst hp
    have hi : l.toArray[i]? = some o := by rw [← nthO_eq]; exact ho
    simp only [okOrd, Bool.and_eq_true] at hB
    obtain ⟨⟨hr, ht⟩, hB'⟩ := hB
    have hr' : i ∈ Region.ready .any l.toArray listed := by simpa using hr
    have hZ' : ∀ t i, (t, i) ∈ π → t = .w → Z i = false := fun t i hm => hZ t i (List.mem_cons_of_mem _ hm)
    cases t with
    | w =>
      simp only [Sx, opO] at h
      refine ⟨hC, fun h0 => (by rw [h0] at hr'; cases hr'), fun j hj => ?_⟩
      have hlen : (Region.ready .any l.toArray listed).length = 1 := by simpa using ht
      obtain ⟨x, hx⟩ := List.length_eq_one_iff.1 hlen
      rw [hx] at hr' hj
      have hji : j = i := by simp at hr' hj; omega
      subst hji
      have hzf : Z j = false := hZ .w j (List.mem_cons_self ..) rfl
      unfold wpOp
      simp only [hi]
      split
      · rename_i hw
        rw [if_pos hw] at h
        exact .inl (Oper.wp_mono (fun a' w' ⟨C', h1, h2, h3⟩ => ⟨fun e => by simp [hzf] at e, AnyC.wide h1 (any_of_sx hsel π C' os _ a' w' hos hZ' hB' h2 h3)⟩) h)
      · rename_i hw
        rw [if_neg hw] at h
        obtain ⟨C', h1, h2, h3⟩ := h
        exact ⟨fun e => by simp [hzf] at e, AnyC.wide h1 (any_of_sx hsel π C' os _ _ _ hos hZ' hB' h2 h3)⟩
    | p =>
      simp only [Sx] at h
      obtain ⟨v, hy, h⟩ := h
      simp only [Bool.and_eq_true] at ht
      exact first_op (C' := fun _ => True) (D := fun _ => False) hi (Region.noSelect_spec hsel) (fun _ _ h => h.elim) π.length listed a w (Region.free_spec hi ht.1) (fun _ h => h.elim) (fun _ _ _ _ _ _ _ _ _ _ _ => trivial) hr' trivial (fun w _ => hy w)
        (any_of_sx hsel π C os _ _ _ hos hZ' hB' hC h)
    | c =>
      simp only [Sx] at h
      obtain ⟨v, hy, h⟩ := h
      simp only [Bool.and_eq_true] at ht
      exact first_op (C' := C) (D := fun _ => False) hi (Region.noSelect_spec hsel) (fun _ _ h => h.elim) π.length listed a w (Region.free_spec hi ht.1) (fun _ h => h.elim) (fun _ _ _ _ _ _ _ _ _ h _ => h) hr' hC hy
        (any_of_sx hsel π C os _ _ _ hos hZ' hB' hC h)
    | r =>
      simp only [Sx] at h
      obtain ⟨v, hy, h⟩ := h
      simp only [Bool.and_eq_true] at ht
      obtain ⟨⟨⟨⟨hf, hz⟩, hl⟩, hl2⟩, hl3⟩ := ht
      refine first_op (C' := fun w' => w' = w) (D := fun j => j ∈ lateOf l.toArray i) hi (Region.noSelect_spec hsel) ?_ π.length listed a w (Region.free_spec hi hf) ?_ ?_ hr' rfl (fun w' e => by rw [e]; exact hy)
        (any_of_sx hsel π C os _ _ _ hos hZ' hB' hC h)
      · intro j oj hj hoj
        have := List.all_eq_true.1 hl j hj
        simp only [hoj] at this
        obtain ⟨e, he, hb⟩ := Array.any_eq_true'.1 this
        simp only [Bool.and_eq_true, Bool.or_eq_true, beq_iff_eq, List.contains_iff_mem] at hb
        exact ⟨e, he, hb.1, hb.2⟩
      · intro j hj
        have := List.all_eq_true.1 hl2 j hj
        simpa using this
      · intro j oj hoj hji hjD hun w1 w2 hz12 _ e
        have := List.all_eq_true.1 hl3 j (List.mem_range.2 (Array.getElem?_eq_some_iff.1 hoj).1)
        simp only [Bool.or_eq_true, beq_iff_eq, List.contains_iff_mem, hji, hjD, hun, Bool.false_eq_true, false_or] at this
        rw [hz12 this, e]

/-- The order, with a new variable (its number: ia) that may come at any time before its place. -/
def okP (ops : Array Oper) (Z : Nat → Bool) (ia : Nat) (post : List (Tag × Nat)) : List (Tag × Nat) → Array Bool → Bool
  | [], listed => okOrd ops Z ((.w, ia) :: post) listed
  | (t, i) :: r, listed =>
    (Region.ready .any ops listed).contains i &&
    (match t with
     | .w => (Region.ready .any ops listed).all (fun j => j == i || j == ia) && okOrd ops Z ((t, i) :: r ++ post) (listed.setIfInBounds ia true)
     | .c => Region.free .any ops listed i && Z i
     | .p => Region.free .any ops listed i && Z i
     | .r => false) &&
    okP ops Z ia post r (listed.setIfInBounds i true)

theorem pick_app {l : List Oper} : ∀ {x y : List (Tag × Nat)} {X Y : List (Tag × Oper)}, pick l x = some X → pick l y = some Y → pick l (x ++ y) = some (X ++ Y)
  | [], y, X, Y, h1, h2 => by simp only [pick, Option.some.injEq] at h1; subst h1; exact h2
  | (t, i) :: x, y, X, Y, h1, h2 => by
    simp only [pick] at h1
    split at h1
    case h_2 => cases h1
    rename_i o os ho hos
    cases h1
    simp only [List.cons_append, pick, ho, pick_app hos h2]

theorem any_of_sxp {P : Program} {K : Act → World → Prop} {l : List Oper} {Z : Nat → Bool} {ia : Nat} {oa : Oper} (hsel : Region.noSelect l.toArray = true) (hia : nthO l ia = some oa) (hza : Z ia = false) {post : List (Tag × Nat)} {Lp : List (Tag × Oper)} (hpost : pick l post = some Lp) : ∀ (π : List (Tag × Nat)) (C : World → Prop) (L : List (Tag × Oper)) (listed : Array Bool) (a : Act) (w : World), pick l π = some L → (∀ t i, (t, i) ∈ π ++ post → t = .w → Z i = false) →
    okP l.toArray Z ia post π listed = true → C w → SxP P l.toArray K oa Lp L C a w → AnyC P l.toArray C Z K (π.length + 1 + post.length) listed a w
  | [], C, L, listed, a, w, hp, hZ, hB, hC, h => by
    simp only [pick, Option.some.injEq] at hp
    subst hp
    have := any_of_sx hsel ((.w, ia) :: post) C ((.w, oa) :: Lp) listed a w (by simp [pick, hia, hpost]) (fun t i hm ht => by
      rcases List.mem_cons.1 hm with hm | hm
      · cases hm; exact hza
      · exact hZ t i (by simpa using hm) ht) hB hC h
    simpa [Nat.add_comm] using this
  | (t, i) :: π, C, L, listed, a, w, hp, hZ, hB, hC, h => by
    simp only [pick] at hp
    split at hp
    case h_2 => cases hp
    rename_i o os ho hos
    simp only [Option.some.injEq] at hp
    subst hp
    have hi : l.toArray[i]? = some o := by rw [← nthO_eq]; exact ho
    have hia' : l.toArray[ia]? = some oa := by rw [← nthO_eq]; exact hia
    simp only [okP, Bool.and_eq_true] at hB
    obtain ⟨⟨hr, ht⟩, hB'⟩ := hB
    have hr' : i ∈ Region.ready .any l.toArray listed := by simpa using hr
    have hZ' : ∀ t i, (t, i) ∈ π ++ post → t = .w → Z i = false := fun t i hm => hZ t i (List.mem_cons_of_mem _ hm)
    have ih := any_of_sxp (P := P) (K := K) hsel hia hza hpost π
    obtain ⟨h, halt⟩ := h
    have hlen : ((t, i) :: π).length + 1 + post.length = (π.length + 1 + post.length) + 1 := by simp; omega
    rw [hlen]
    cases t with
    | w =>
      simp only [StepX, opO] at h
      have halt := halt rfl
      simp only [opO] at halt
      simp only [Bool.and_eq_true] at ht
      refine ⟨hC, fun h0 => (by rw [h0] at hr'; cases hr'), fun j hj => ?_⟩
      have hj2 := List.all_eq_true.1 ht.1 j hj
      simp only [Bool.or_eq_true, beq_iff_eq] at hj2
      by_cases hji : j = i
      · subst hji
        have hzf : Z j = false := hZ .w j (List.mem_cons_self ..) rfl
        unfold wpOp
        simp only [hi]
        split
        · rename_i hw
          rw [if_pos hw] at h
          exact .inl (Oper.wp_mono (fun a' w' ⟨C', h1, h2, h3⟩ => ⟨fun e => by simp [hzf] at e, AnyC.wide h1 (ih C' os _ a' w' hos hZ' hB' h2 h3)⟩) h)
        · rename_i hw
          rw [if_neg hw] at h
          obtain ⟨C', h1, h2, h3⟩ := h
          exact ⟨fun e => by simp [hzf] at e, AnyC.wide h1 (ih C' os _ _ _ hos hZ' hB' h2 h3)⟩
      · have hja : j = ia := by rcases hj2 with h' | h'; exact absurd h' hji; exact h'
        subst hja
        have go : ∀ C' a' w', C' w' → Sx P l.toArray C' K ((.w, o) :: os ++ Lp) a' w' → AnyC P l.toArray C' Z K (π.length + 1 + post.length) (listed.setIfInBounds j true) a' w' := fun C' a' w' h2 h3 => by
          have := any_of_sx hsel ((.w, i) :: π ++ post) C' ((.w, o) :: os ++ Lp) (listed.setIfInBounds j true) a' w' (pick_app (x := (.w, i) :: π) (X := (.w, o) :: os) (by simp [pick, ho, hos]) hpost) (fun t k hm ht => hZ t k (by simpa using hm) ht) ht.2 h2 h3
          have e : ((Tag.w, i) :: π ++ post).length = π.length + 1 + post.length := by simp; omega
          rw [e] at this
          exact this
        unfold wpOp
        simp only [hia']
        split
        · rename_i hw
          rw [if_pos hw] at halt
          exact .inl (Oper.wp_mono (fun a' w' ⟨C', h1, h2, h3⟩ => ⟨fun e => by simp [hza] at e, AnyC.wide h1 (go C' a' w' h2 h3)⟩) halt)
        · rename_i hw
          rw [if_neg hw] at halt
          obtain ⟨C', h1, h2, h3⟩ := halt
          exact ⟨fun e => by simp [hza] at e, AnyC.wide h1 (go C' _ _ h2 h3)⟩
    | p =>
      obtain ⟨v, hy, h⟩ := h
      simp only [Bool.and_eq_true] at ht
      exact first_op (C' := fun _ => True) (D := fun _ => False) hi (Region.noSelect_spec hsel) (fun _ _ h => h.elim) _ listed a w (Region.free_spec hi ht.1) (fun _ h => h.elim) (fun _ _ _ _ _ _ _ _ _ _ _ => trivial) hr' trivial (fun w _ => hy w)
        (ih C os _ _ _ hos hZ' hB' hC h)
    | c =>
      obtain ⟨v, hy, h⟩ := h
      simp only [Bool.and_eq_true] at ht
      exact first_op (C' := C) (D := fun _ => False) hi (Region.noSelect_spec hsel) (fun _ _ h => h.elim) _ listed a w (Region.free_spec hi ht.1) (fun _ h => h.elim) (fun _ _ _ _ _ _ _ _ _ h _ => h) hr' hC hy
        (ih C os _ _ _ hos hZ' hB' hC h)
    | r => cases ht

def okAllP (l : List Oper) (ia : Nat) (x y : List (Tag × Nat)) : Bool :=
  Region.noSelect l.toArray && (x.length + 1 + y.length == l.length) && okP l.toArray (fun j => !isW (x ++ (.w, ia) :: y) j) ia y x (Array.replicate l.length false)

theorem isW_app {x y : List (Tag × Nat)} {i j : Nat} (h : (Tag.w, i) ∈ x ++ y) : isW (x ++ (.w, j) :: y) i = true := by
  refine isW_of _ _ ?_
  rcases List.mem_append.1 h with h | h
  · exact List.mem_append_left _ h
  · exact List.mem_append_right _ (List.mem_cons_of_mem _ h)

theorem c_drawP {P : Program} {K : Act → World → Prop} {id : Nat} {l : List Oper} (x y : List (Tag × Nat)) {ia : Nat} {oa : Oper} {Lx Ly : List (Tag × Oper)} {E : Nat → Act → World → Prop} {R : Act → World → Prop} {a : Act} {w : World} (C : World → Prop) (hm : P.follows .mixedOrders = true) (hB : okAllP l ia x y = true)
    (hia : nthO l ia = some oa) (hx : pick l x = some Lx) (hy : pick l y = some Ly) (hC : C { w with drawn := w.drawn + 1 }) (h : SxP P l.toArray K oa Ly Lx C a { w with drawn := w.drawn + 1 }) : (Code.region id l.toArray true).wp P (QL K E R) a w := by
  simp only [okAllP, Bool.and_eq_true, beq_iff_eq] at hB
  obtain ⟨⟨hs, hl⟩, ho⟩ := hB
  refine wp_of_norm (wp_region_any hm ?_)
  have hza : (fun j => !isW (x ++ (.w, ia) :: y) j) ia = false := by
    have : isW (x ++ (.w, ia) :: y) ia = true := isW_of _ _ (by simp)
    simp [this]
  have := (any_of_sxp hs hia hza hy x C Lx _ a _ hx (fun t i hm ht => by subst ht; simp [isW_app hm]) ho hC h).any
  rw [hl] at this
  simpa using this

theorem c_drawX {P : Program} {K : Act → World → Prop} {id : Nat} {l : List Oper} (π : List (Tag × Nat)) {L : List (Tag × Oper)} {E : Nat → Act → World → Prop} {R : Act → World → Prop} {a : Act} {w : World} (C : World → Prop) (hm : P.follows .mixedOrders = true) (hB : okAll l π = true)
    (hp : pick l π = some L) (hC : C { w with drawn := w.drawn + 1 }) (h : Sx P l.toArray C K L a { w with drawn := w.drawn + 1 }) : (Code.region id l.toArray true).wp P (QL K E R) a w := by
  simp only [okAll, Bool.and_eq_true, beq_iff_eq] at hB
  obtain ⟨⟨hs, hl⟩, ho⟩ := hB
  refine wp_of_norm (wp_region_any hm ?_)
  have := (any_of_sx hs π C L _ a _ hp (fun t i hm ht => by subst ht; simp [isW_of π i hm]) ho hC h).any
  rw [hl] at this
  simpa using this

section
variable {P : Program}

/-- The contracts hold. -/
def CtsOk (P : Program) (E : Ev) : Prop := (∀ f ct, ct ∈ E.ct f → Sound P E.c f ct ∧ ∃ fn, P.funcs[f]? = some fn ∧ fn.body.isSome = true ∧ (fn.name == "runtime.NumGoroutine") = false) ∧
  ∀ f ct, ct ∈ E.cd f → SoundK P E.c true f ct ∧ ∃ fn, P.funcs[f]? = some fn ∧ fn.body.isSome = true ∧ (fn.name == "runtime.NumGoroutine") = false

/-- The frame of a call stands for the state. -/
def FS (n : Nat) (a : Act) (st : St) (O : Own) (ρ : List Hd) : Prop := FI n a st.env O ρ ∧ DR O ρ st.df a.defers

/-- The worlds in which nothing has changed but what may change. -/
def Cls (CR : List Nat) (O : Own) (w w' : World) : Prop := Kept (fun b => O b = .no ∨ ∃ id, id ∉ CR ∧ O b = .th id) w w'

/-- What becomes of it in some steps in which things may be taken in that nobody owned. -/
structure Stq (M : Nat → Prop) (O : Own) (ρ : List Hd) (w : World) (O' : Own) (ρ' : List Hd) (w' : World) : Prop where
  pre : Pre ρ ρ'
  im : O.le O'
  own : ∀ b id, b < w.heap.size → O b = .th id → ¬ M id → O' b = .th id
  kept : Kept (fun b => O b = .no ∨ ∃ id, M id ∧ O b = .th id) w w'

theorem Stp.q {M : Nat → Prop} {O O' : Own} {ρ ρ' : List Hd} {w w' : World} (h : Stp M O ρ w O' ρ' w') : Stq M O ρ w O' ρ' w' :=
  ⟨h.pre, h.im, h.own, h.kept.wide (fun _ e => .inr e)⟩
theorem Stq.refl (M : Nat → Prop) (O : Own) (ρ : List Hd) (w : World) : Stq M O ρ w O ρ w := (Stp.refl M O ρ w).q
theorem Stq.weak {M M' : Nat → Prop} (hM : ∀ i, M i → M' i) {O O' : Own} {ρ ρ' : List Hd} {w w' : World} (h : Stq M O ρ w O' ρ' w') : Stq M' O ρ w O' ρ' w' :=
  ⟨h.pre, h.im, fun b id hb e hn => h.own b id hb e (fun m => hn (hM id m)), h.kept.wide (fun b e => e.imp (fun h => h) (fun ⟨id, m, e⟩ => ⟨id, hM id m, e⟩))⟩
theorem Stq.trans {M : Nat → Prop} {O O' O'' : Own} {ρ ρ' ρ'' : List Hd} {w w' w'' : World} (h : Stq M O ρ w O' ρ' w') (k : Stq M O' ρ' w' O'' ρ'' w'') : Stq M O ρ w O'' ρ'' w'' := by
  refine ⟨h.pre.trans k.pre, h.im.trans k.im, fun b id hb e hM => k.own b id (Nat.lt_of_lt_of_le hb h.kept.size) (h.own b id hb e hM) hM, ?_⟩
  refine h.kept.trans k.kept fun b hb hn => ?_
  cases e0 : O b with
  | no => exact .inl rfl
  | im all =>
    have := h.im b all e0
    rcases hn with hn | ⟨id, _, hn⟩ <;> (rw [this] at hn; cases hn)
  | th j =>
    by_cases hj : M j
    · exact .inr ⟨j, hj, rfl⟩
    · have := h.own b j hb e0 hj
      rcases hn with hn | ⟨id, hM, hn⟩
      · rw [this] at hn; cases hn
      · rw [this] at hn; cases hn; exact absurd hM hj

variable {E : Ev} {ops : List Oper} {K : Act → World → Prop}

theorem putE_ok {d : Option Nat} {v : IV} {il il' : IEnv} {O : Own} {ρ : List Hd} {a : Act} {x : SV} (e : putE E d v il = some il') (h : FI E.n a il O ρ) (hv : SR O ρ v x) : FI E.n (a.put d x.val) il' O ρ := by
  unfold putE at e
  split at e
  · cases e; exact h
  · split at e
    · rename_i hd; cases e; exact h.put hd hv
    · cases e

theorem putE_undef {d : Option Nat} {il il' : IEnv} {O : Own} {ρ : List Hd} {a : Act} (e : putE E d (.tu .un) il = some il') (h : FI E.n a il O ρ) : FI E.n (a.put d undef) il' O ρ :=
  putE_ok (x := .t []) e h ⟨[], rfl, rfl⟩

theorem pickCt_mem {vs : List IV} {tb : Tbl} : ∀ {l : List Ct} {ct : Ct}, pickCt vs tb l = some ct → ct ∈ l
  | [], ct, h => by simp [pickCt] at h
  | [x], ct, h => by simp [pickCt] at h; simp [h]
  | x :: y :: r, ct, h => by
    simp only [pickCt] at h
    split at h
    · cases h; simp
    · exact List.mem_cons_of_mem _ (pickCt_mem (l := y :: r) h)

theorem unch_ok {O : Own} {ρ : List Hd} : ∀ {v : IV} {l : List IV} {xs : List Value}, unch v = some l → R O ρ true v xs → ∃ cs, RL O ρ l cs ∧ xs = vals l cs := by
  intro v
  induction v with
  | un => intro l xs e h; simp only [unch, Option.some.injEq] at e; subst e; simp only [R] at h; subst h; exact ⟨[], rfl, rfl⟩
  | pr a b iha ihb =>
    intro l xs e h
    simp only [unch] at e
    split at e <;> first | (cases e; done) | skip
    rename_i l' hl
    cases e
    obtain ⟨x, r, rfl, h2, h3⟩ := h
    obtain ⟨cs, h4, rfl⟩ := ihb hl h3
    cases hg : a.agg with
    | true =>
      rw [hg] at h2
      obtain ⟨c0, rfl, h2⟩ := h2
      exact ⟨c0 :: cs, ⟨c0, cs, rfl, h2, h4⟩, by simp [vals, hg]⟩
    | false =>
      rw [hg] at h2
      exact ⟨[x] :: cs, ⟨[x], cs, rfl, h2, h4⟩, by simp [vals, hg]⟩
  | _ => intro l xs e; simp [unch] at e

theorem iopds_ok {c : Cfg} {n : Nat} {a : Act} {l : Env} {il : IEnv} {O : Own} {ρ : List Hd} (hF : Fr n a l) (hE : ER O ρ il l) (hG : GO c O) : ∀ {xs : List Operand} {vs : List IV}, iopds c il xs = some vs → ∃ cs, RL O ρ vs cs ∧ xs.map a.eval = vals vs cs
  | [], vs, e => by simp only [iopds, Option.some.injEq] at e; subst e; exact ⟨[], rfl, rfl⟩
  | x :: xs, vs, e => by
    simp only [iopds] at e
    split at e <;> first | (cases e; done) | skip
    rename_i v vs' hn hx hxs
    cases e
    obtain ⟨cs, h1, h2, h3, h4⟩ := iopd_cells hF hE hG hx (fun ch e => hn ch (by rw [e]))
    obtain ⟨ds, h5, h6⟩ := iopds_ok hF hE hG hxs
    refine ⟨cs :: ds, ⟨cs, ds, rfl, h2, h5⟩, ?_⟩
    simp only [List.map_cons, vals, h6]
    cases hg : v.agg with
    | true => rw [h3 hg]; rfl
    | false => rw [h4 hg]; simp

theorem RL.append {O : Own} {ρ : List Hd} : ∀ {vs us : List IV} {cs ds : List (List Value)}, RL O ρ vs cs → RL O ρ us ds → RL O ρ (vs ++ us) (cs ++ ds) ∧ vals (vs ++ us) (cs ++ ds) = vals vs cs ++ vals us ds
  | [], us, cs, ds, h, k => by simp only [RL] at h; subst h; exact ⟨k, rfl⟩
  | v :: vs, us, cs, ds, h, k => by
    obtain ⟨c0, r, rfl, h1, h2⟩ := h
    obtain ⟨h3, h4⟩ := RL.append h2 k
    exact ⟨⟨c0, r ++ ds, rfl, h1, h3⟩, by simp [vals, h4]⟩

/-- A call. -/
theorem cOp_ok {β : Type} {a : Act} {l : Env} {il : IEnv} {O : Own} {ρ : List Hd} {tb : Tbl} {w : World} {o : Oper} {k : Option IV → Tbl → List Nat → Option β} {r : β} (hct : CtsOk P E) (hF : Fr E.n a l) (hE : ER O ρ il l) (hG : GO E.c O) (hM : Gm O ρ tb w) (e : cOp E il tb k o.op = some r) :
    ∃ f xs, (execOp a.eval o).run P w = .ok (.enter f xs) w ∧ ∃ v tb' mu, k (some v) tb' mu = some r ∧ Calls P f xs w (Ret fun x w' => ∃ O' ρ' sv, x = sv.val ∧ SR O' ρ' v sv ∧ Gm O' ρ' tb' w' ∧ Stp (· ∈ mu) O ρ w O' ρ' w') := by
  cases ho : o.op <;> rw [ho] at e <;> simp only [cOp] at e <;> first | (cases e; done) | skip
  rename_i cl
  obtain ⟨callee, args, ats⟩ := cl
  simp only at e
  split at e <;> first | (cases e; done) | skip
  rename_i x
  split at e <;> first | (cases e; done) | skip
  rename_i f av cv hx
  split at e <;> first | (cases e; done) | skip
  rename_i l1 l2 l3 h1 h2 h3
  split at e <;> first | (cases e; done) | skip
  rename_i ct hp
  obtain ⟨hS, fn, hf, hb, hnm⟩ := hct.1 f ct (pickCt_mem hp)
  obtain ⟨u, hu, ⟨xs, ys, hcs, hxs, hys⟩, _⟩ := iopd_1 hE hG hx rfl (by simp) hF
  cases hcs
  obtain ⟨c1, r1, rfl⟩ := unch_ok h1 hxs
  obtain ⟨c2, r2, e2⟩ := iopds_ok hF hE hG h2
  obtain ⟨c3, r3, rfl⟩ := unch_ok h3 hys
  obtain ⟨r23, v23⟩ := RL.append r2 r3
  obtain ⟨rall, vall⟩ := RL.append r1 r23
  obtain ⟨v, tb', mu, hk, hcall⟩ := callF_ok hS e hG hM rall
  rw [vall, v23] at hcall
  refine ⟨f, _, ?_, v, tb', mu, hk, hcall⟩
  have hnm' : ¬ fn.name = "runtime.NumGoroutine" := by simpa using hnm
  have hb' : ¬ fn.body = none := by intro e; simp [e] at hb
  have hargs : args.map a.eval = (vals l2 c2).toArray := by
    rw [← e2, ← Array.toList_map]
  simp only [execOp, ho, resolve, hu, Deferred.ofValue, hargs]
  simp [invoke, callFunc, hf, hnm', hb']

theorem want_none {o : Oper} {a : Act} (h : o.guard = none) : Region.wanted o (yielded ops.toArray a.tmps) = true := by simp [Region.wanted, h]

theorem Sm.of_cls {CR ids : List Nat} {O : Own} {ρ : List Hd} {tb : Tbl} {w w' : World} (hM : Gm O ρ tb w) (h : Cls CR O w w') (hi : ∀ i, i ∈ ids → i ∈ CR) : Sm ids O w w' := by
  intro b hb
  have hlow : O b ≠ .no → b < w.heap.size := fun h => by
    rcases Nat.lt_or_ge b w.heap.size with h' | h'
    · exact h'
    · exact absurd (hM.lt b h') h
  rcases hb with ⟨id, h1, h2⟩ | ⟨all, h2⟩
  · refine h.block b (hlow (by rw [h2]; simp)) (fun hn => ?_)
    rcases hn with e | ⟨j, hj, e⟩
    · rw [h2] at e; cases e
    · rw [h2] at e; cases e; exact hj (hi id h1)
  · refine h.block b (hlow (by rw [h2]; simp)) (fun hn => ?_)
    rcases hn with e | ⟨j, hj, e⟩ <;> (rw [h2] at e; cases e)

/-- One operation: what has been read so far, and what it may change, do not meet. -/
theorem exec_ok {β : Type} {t : Tag} {o : Oper} {cr : List Nat} {st : St} {k : List Nat → St → Option β} {r : β} {a : Act} {O O0 : Own} {ρ ρ0 : List Hd} {w w0 : World} {S : (World → Prop) → Act → World → Prop} {Inv : Array Value → IEnv → Prop} {Cp : World → Prop} (hc : COk P E.c) (hct : CtsOk P E) (hG : GO E.c O) (e : exec E t o cr st k = some r)
    (hF : FS E.n a st O ρ) (hM : Gm O ρ st.tb w) (hw : Region.wanted o (yielded ops.toArray a.tmps) = true) (hst : ∀ O' ρ' w', Stq (· ∉ cr) O ρ w O' ρ' w' → Cp w') (hS : Stp (fun _ => True) O0 ρ0 w0 O ρ w)
    (hI : Inv a.tmps st.env) (hIp : ∀ (x : Value) v il', putE E o.dst v st.env = some il' → Inv (a.put o.dst x).tmps il')
    (next : ∀ (Cp' : World → Prop) cr' st' a' w' O' ρ', k cr' st' = some r → FS E.n a' st' O' ρ' → Gm O' ρ' st'.tb w' → GO E.c O' → (∀ O'' ρ'' w'', Stq (· ∉ cr') O' ρ' w' O'' ρ'' w'' → Cp' w'') → Stp (fun _ => True) O0 ρ0 w0 O' ρ' w' → Inv a'.tmps st'.env →
      ∃ CR, (∀ i, i ∈ cr' → i ∈ CR) ∧ S (fun w'' => Cp' w'' ∧ Cls CR O' w' w'') a' w') :
    ∃ CR, (∀ i, i ∈ cr → i ∈ CR) ∧ (chg E.c o.op = true → CR = cr) ∧ StepX P ops.toArray K S (fun w' => Cp w' ∧ Cls CR O w w') t o a w := by
  obtain ⟨⟨l, hl, hER⟩, hD⟩ := hF
  have hae : ({ a with defers := [] } : Act).eval = a.eval := rfl
  have clsw : ∀ CR, Cp w ∧ Cls CR O w w := fun CR => ⟨hst _ _ _ (.refl _ _ _ _), Kept.refl _ _⟩
  -- behind a change
  have after : ∀ {M : Nat → Prop} {st' : St} {a' : Act} {w' : World} {O' : Own} {ρ' : List Hd}, Stp M O ρ w O' ρ' w' → (∀ i, M i → i ∉ cr) → k cr st' = some r → FS E.n a' st' O' ρ' → Gm O' ρ' st'.tb w' → Inv a'.tmps st'.env →
      ∃ C' : World → Prop, (∀ w'', C' w'' → Cp w'' ∧ Cls cr O w w'') ∧ C' w' ∧ S C' a' w' := by
    intro M st' a' w' O' ρ' hS' hMc hk ⟨hF', hD'⟩ hM' hI'
    have hS2 : Stp (· ∉ cr) O ρ w O' ρ' w' := hS'.weak hMc
    obtain ⟨CR, h1, h3⟩ := next (fun w'' => Cp w'' ∧ Cls cr O w w'') cr st' a' w' O' ρ' hk ⟨hF', hD'⟩ hM' (hG.mono hS'.im) (fun O'' ρ'' w'' h => ⟨hst _ _ _ (hS2.q.trans h), (hS2.q.trans h).kept⟩) (hS.trans (hS'.weak (fun _ _ => trivial))) hI'
    exact ⟨_, fun w'' h => h.1, ⟨⟨hst _ _ _ hS2.q, hS2.q.kept⟩, Kept.refl _ _⟩, h3⟩
  unfold exec at e
  split at e
  · -- pure
    rename_i hcl
    obtain ⟨v, x, hv, hr, hk⟩ := pOp_ok hc hl hER hG hM e
    rw [hae] at hr
    try dsimp only at hk
    split at hk <;> first | (cases hk; done) | skip
    rename_i il' hil
    obtain ⟨CR, h1, h3⟩ := next Cp cr ⟨il', st.tb, st.df⟩ (a.put o.dst x.val) w O ρ hk ⟨putE_ok hil ⟨l, hl, hER⟩ hv, by rw [put_defers]; exact hD⟩ hM hG hst hS (hIp x.val v il' hil)
    exact ⟨CR, h1, fun hc => by simp [chg, hcl] at hc, stepx_value (clsw CR) (fun w => YAt.mk hw (hr w)) h3⟩
  · -- reading
    rename_i hcl
    split at e <;> first | (cases e; done) | skip
    · rename_i ids hids
      obtain ⟨v, x, hv, hr, hk⟩ := rOp_ok hc hl hER hG hM e hids
      rw [hae] at hr
      try dsimp only at hk
      split at hk <;> first | (cases hk; done) | skip
      rename_i il' hil
      obtain ⟨CR, h1, h3⟩ := next Cp (ids ++ cr) ⟨il', st.tb, st.df⟩ (a.put o.dst x.val) w O ρ hk ⟨putE_ok hil ⟨l, hl, hER⟩ hv, by rw [put_defers]; exact hD⟩ hM hG (fun O' ρ' w' h => hst O' ρ' w' (h.weak (fun i hi hc => hi (List.mem_append_right _ hc)))) hS (hIp x.val v il' hil)
      refine ⟨CR, fun i hi => h1 i (List.mem_append_right _ hi), fun hc => by simp [chg, hcl] at hc, x.val, fun w' hw' => YAt.mk hw (hr w' (Sm.of_cls hM hw'.2 (fun i hi => h1 i (List.mem_append_left _ hi)))), h3⟩
    · rename_i tg _ _ ids hnp hnc hids
      obtain ⟨v, x, hv, hr, hk⟩ := rOp_ok hc hl hER hG hM e hids
      rw [hae] at hr
      try dsimp only at hk
      split at hk <;> first | (cases hk; done) | skip
      rename_i il' hil
      obtain ⟨CR, h1, h3⟩ := next Cp cr ⟨il', st.tb, st.df⟩ (a.put o.dst x.val) w O ρ hk ⟨putE_ok hil ⟨l, hl, hER⟩ hv, by rw [put_defers]; exact hD⟩ hM hG hst hS (hIp x.val v il' hil)
      have hy := YAt.mk (v := x.val) hw (hr w (Sm.refl _ _ _))
      refine ⟨CR, h1, fun hc => by simp [chg, hcl] at hc, ?_⟩
      cases tg with
      | p => exact (hnp rfl).elim
      | c => exact (hnc rfl).elim
      | r => exact ⟨_, hy, h3⟩
      | w => exact hy.upon (K := fun a w' => ∃ C' : World → Prop, (∀ w'', C' w'' → Cp w'' ∧ Cls CR O w w'') ∧ C' w' ∧ S C' a w') ⟨_, fun _ h => h, clsw CR, h3⟩
  · -- changing
    split at e <;> first | (cases e; done) | skip
    rename_i hap
    obtain ⟨v, x, tb', O', ρ', w', hrun, hM', hS', hk⟩ := wOp_ok hc hl hER hG hM e
    have hF' : FI E.n a st.env O' ρ' := FI.mono hS'.im hS'.pre ⟨l, hl, hER⟩
    have hD' := hD.mono hS'.im hS'.pre
    cases v with
    | some v =>
      obtain ⟨hv, hrun⟩ := hrun
      rw [hae] at hrun
      simp only at hk
      try dsimp only at hk
      split at hk <;> first | (cases hk; done) | skip
      rename_i il' hil
      refine ⟨cr, fun _ h => h, fun _ => rfl, ?_⟩
      show opO _ _ _ _ _ _ _
      unfold opO
      rw [if_pos hw]
      simp only [Oper.wp, hrun, Oper.upon]
      exact after (st' := ⟨il', tb', st.df⟩) hS' (fun i hi => apart_ok hap i hi) hk ⟨putE_ok hil hF' hv, by rw [put_defers]; exact hD'⟩ hM' (hIp x.val v il' hil)
    | none =>
      simp only at hk
      try dsimp only at hk
      split at hk <;> first | (cases hk; done) | skip
      rename_i hd
      have hrun : (execOp a.eval o).run P w = .ok .skip w' := hrun
      refine ⟨cr, fun _ h => h, fun _ => rfl, ?_⟩
      show opO _ _ _ _ _ _ _
      unfold opO
      rw [if_pos hw]
      simp only [Oper.wp, hrun, Oper.upon, hd]
      exact after (st' := ⟨st.env, tb', st.df⟩) hS' (fun i hi => apart_ok hap i hi) hk ⟨hF', hD'⟩ hM' hI
  · -- a call
    split at e <;> first | (cases e; done) | skip
    obtain ⟨f, xs, hrun, v, tb', mu, hk, hcall⟩ := cOp_ok hct hl hER hG hM e
    rw [hae] at hrun
    try dsimp only at hk
    split at hk <;> first | (cases hk; done) | skip
    rename_i v' hap hv'
    cases hv'
    try dsimp only at hk
    split at hk <;> first | (cases hk; done) | skip
    rename_i il' hil
    refine ⟨cr, fun _ h => h, fun _ => rfl, ?_⟩
    show opO _ _ _ _ _ _ _
    unfold opO
    rw [if_pos hw]
    simp only [Oper.wp, hrun, Oper.upon]
    refine hcall.mono fun en w' he => ?_
    cases en with
    | returned x =>
      obtain ⟨O', ρ', sv, rfl, h2, h3, h4⟩ := he
      exact after (st' := ⟨il', tb', st.df⟩) h4 (fun i hi => apart_ok hap i hi) hk ⟨putE_ok hil (FI.mono h4.im h4.pre ⟨l, hl, hER⟩) h2, by rw [put_defers]; exact hD.mono h4.im h4.pre⟩ h3 (hIp sv.val _ il' hil)
    | panicked _ => exact he.elim
    | outgrown => exact he.elim
  · -- put off
    split at e <;> first | (cases e; done) | skip
    rename_i cl ho hd
    split at e <;> first | (cases e; done) | skip
    rename_i x hcal hargs
    split at e <;> first | (cases e; done) | skip
    rename_i f av cv hx
    obtain ⟨u, hu, hR, _⟩ := iopd_1 hER hG hx rfl (by simp) hl
    have hR' := hR
    obtain ⟨xs, ys, hcs, hxs, hys⟩ := hR'
    simp only [List.cons.injEq, and_true] at hcs
    subst hcs
    obtain ⟨callee, args, ats⟩ := cl
    simp only at hcal hargs
    subst hcal
    have hargs := arr_of_toList hargs
    subst hargs
    have hu' : a.eval x = _ := hu
    have hrun : (execOp a.eval o).run P w = .ok (.defer ⟨.fn (.func f) ys.toArray, xs.toArray⟩) w := by
      simp only [execOp, ho, resolve, hu', Deferred.ofValue]
      simp
    refine ⟨cr, fun _ h => h, fun _ => rfl, ?_⟩
    show opO _ _ _ _ _ _ _
    unfold opO
    rw [if_pos hw]
    simp only [Oper.wp, hrun, Oper.upon, hd]
    exact after (M := fun _ => False) (st' := ⟨st.env, st.tb, .fn f av cv :: st.df⟩) (.refl _ _ _ _) (fun _ h => h.elim) e ⟨⟨l, hl, hER⟩, _, _, _, _, rfl, hR, hD⟩ hM hI

theorem FI.lit {n : Nat} {a : Act} {il : IEnv} {O : Own} {ρ : List Hd} {d : Nat} {g : Bool} (h : FI n a il O ρ) (hd : geti il d = some (.o (.b g))) : FI n a ((d, .o (.b g)) :: il) O ρ := by
  obtain ⟨l, h1, h2⟩ := h
  obtain ⟨x, h3, h4⟩ := h2.get hd
  refine ⟨(d, x) :: l, ⟨h1.defers, h1.size, fun t v hv => ?_⟩, rfl, h4, h2⟩
  simp only [get?] at hv
  cases hb : Nat.beq d t with
  | true => rw [hb] at hv; cases hv; rw [← Nat.eq_of_beq_eq_true hb]; exact h1.has d x h3
  | false => rw [hb] at hv; exact h1.has t v hv

theorem yields_b {n : Nat} {a : Act} {il : IEnv} {O : Own} {ρ : List Hd} {j dj : Nat} {g : Bool} (h : FI n a il O ρ) (hj : (nthO ops j).bind (·.dst) = some dj) (hg : geti il dj = some (.o (.b g))) : yielded ops.toArray a.tmps j = some g := by
  obtain ⟨l, h1, h2⟩ := h
  obtain ⟨x, h3, y, rfl, rfl, _⟩ := h2.get hg
  rw [yields_of h1 hj h3]

theorem yields_u {n : Nat} {a : Act} {il : IEnv} {O : Own} {ρ : List Hd} {j dj : Nat} (h : FI n a il O ρ) (hj : (nthO ops j).bind (·.dst) = some dj) (hg : geti il dj = some (.tu .un)) : yielded ops.toArray a.tmps j = none := by
  obtain ⟨l, h1, h2⟩ := h
  obtain ⟨x, h3, xs, rfl, hx⟩ := h2.get hg
  rw [yields_of h1 hj h3]

theorem geti_lit {il : IEnv} {d dj : Nat} {g : Bool} (h : geti il d = none) (hj : geti il dj = some (.o (.b g))) : geti ((dj, .o (.b g)) :: il) d = none := by
  simp only [geti]
  cases hb : Nat.beq dj d with
  | true => rw [Nat.eq_of_beq_eq_true hb, h] at hj; cases hj
  | false => exact h

/-- One operation of a list. -/
theorem stepL_ok {β : Type} {t : Tag} {o : Oper} {cr : List Nat} {st : St} {k : List Nat → St → Option β} {r : β} {a : Act} {O O0 : Own} {ρ ρ0 : List Hd} {w w0 : World} {S : (World → Prop) → Act → World → Prop} {Inv : Array Value → IEnv → Prop} {Cp : World → Prop} (hc : COk P E.c) (hct : CtsOk P E) (hG : GO E.c O) (e : stepL E ops t o cr st k = some r)
    (hF : FS E.n a st O ρ) (hM : Gm O ρ st.tb w) (hst : ∀ O' ρ' w', Stq (· ∉ cr) O ρ w O' ρ' w' → Cp w') (hS : Stp (fun _ => True) O0 ρ0 w0 O ρ w)
    (hI : Inv a.tmps st.env) (hIl : ∀ dj g, geti st.env dj = some (.o (.b g)) → Inv a.tmps ((dj, .o (.b g)) :: st.env)) (hIp : ∀ il, Inv a.tmps il → ∀ (x : Value) v il', putE E o.dst v il = some il' → Inv (a.put o.dst x).tmps il')
    (next : ∀ (Cp' : World → Prop) cr' st' a' w' O' ρ', k cr' st' = some r → FS E.n a' st' O' ρ' → Gm O' ρ' st'.tb w' → GO E.c O' → (∀ O'' ρ'' w'', Stq (· ∉ cr') O' ρ' w' O'' ρ'' w'' → Cp' w'') → Stp (fun _ => True) O0 ρ0 w0 O' ρ' w' → Inv a'.tmps st'.env →
      ∃ CR, (∀ i, i ∈ cr' → i ∈ CR) ∧ S (fun w'' => Cp' w'' ∧ Cls CR O' w' w'') a' w') :
    ∃ CR, (∀ i, i ∈ cr → i ∈ CR) ∧ (chg E.c o.op = true → o.guard = none → CR = cr) ∧ StepX P ops.toArray K S (fun w' => Cp w' ∧ Cls CR O w w') t o a w := by
  have skip : ∀ {il il' : IEnv}, o.guard ≠ none → Region.wanted o (yielded ops.toArray a.tmps) = false → FI E.n a il O ρ → Inv a.tmps il → putE E o.dst (.tu .un) il = some il' → k cr ⟨il', st.tb, st.df⟩ = some r →
      ∃ CR, (∀ i, i ∈ cr → i ∈ CR) ∧ (chg E.c o.op = true → o.guard = none → CR = cr) ∧ StepX P ops.toArray K S (fun w' => Cp w' ∧ Cls CR O w w') t o a w := by
    intro il il' hgn hw hF' hI' hil e
    obtain ⟨CR, h1, h3⟩ := next Cp cr ⟨il', st.tb, st.df⟩ (a.put o.dst undef) w O ρ e ⟨putE_undef hil hF', by rw [put_defers]; exact hF.2⟩ hM hG hst hS (hIp il hI' _ _ il' hil)
    exact ⟨CR, h1, fun _ h => absurd h hgn, stepx_value ⟨hst _ _ _ (.refl _ _ _ _), Kept.refl _ _⟩ (fun w => YAt.skip hw) h3⟩
  have one : ∀ {il : IEnv}, exec E t o cr ⟨il, st.tb, st.df⟩ k = some r → FI E.n a il O ρ → Region.wanted o (yielded ops.toArray a.tmps) = true → Inv a.tmps il →
      ∃ CR, (∀ i, i ∈ cr → i ∈ CR) ∧ (chg E.c o.op = true → o.guard = none → CR = cr) ∧ StepX P ops.toArray K S (fun w' => Cp w' ∧ Cls CR O w w') t o a w := by
    intro il e hF' hw hI'
    obtain ⟨CR, h1, h2, h3⟩ := exec_ok (st := ⟨il, st.tb, st.df⟩) hc hct hG e ⟨hF', hF.2⟩ hM hw hst hS hI' (hIp il hI') next
    exact ⟨CR, h1, fun h _ => h2 h, h3⟩
  unfold stepL at e
  split at e
  · rename_i hg
    exact one e hF.1 (want_none hg) hI
  · rename_i j want hg
    have hgn : o.guard ≠ none := by rw [hg]; simp
    split at e <;> first | (cases e; done) | skip
    rename_i dj hdj
    split at e <;> first | (cases e; done) | skip
    · rename_i g hgv
      have hy := yields_b hF.1 hdj hgv
      cases g with
      | true =>
        cases want with
        | true => exact one e (hF.1.lit hgv) (by simp [Region.wanted, hg, hy]) (hIl _ _ hgv)
        | false =>
          simp only at e
          split at e <;> first | (cases e; done) | skip
          rename_i il' hil
          exact skip hgn (by simp [Region.wanted, hg, hy]) (hF.1.lit hgv) (hIl _ _ hgv) hil e
      | false =>
        cases want with
        | false => exact one e (hF.1.lit hgv) (by simp [Region.wanted, hg, hy]) (hIl _ _ hgv)
        | true =>
          simp only at e
          split at e <;> first | (cases e; done) | skip
          rename_i il' hil
          exact skip hgn (by simp [Region.wanted, hg, hy]) (hF.1.lit hgv) (hIl _ _ hgv) hil e
    · rename_i hgv
      have hy := yields_u hF.1 hdj hgv
      split at e <;> first | (cases e; done) | skip
      rename_i il' hil
      exact skip hgn (by simp [Region.wanted, hg, hy]) hF.1 hI hil e

theorem evL_ok {β : Type} {k : St → Option β} {r : β} {O0 : Own} {ρ0 : List Hd} {w0 : World} (hc : COk P E.c) (hct : CtsOk P E)
    (hK : ∀ st a w O ρ, k st = some r → FS E.n a st O ρ → Gm O ρ st.tb w → GO E.c O → Stp (fun _ => True) O0 ρ0 w0 O ρ w → K a w) : ∀ (L : List (Tag × Oper)) (Cp : World → Prop) (cr : List Nat) (st : St) (a : Act) (O : Own) (ρ : List Hd) (w : World), evL E ops k L cr st = some r → FS E.n a st O ρ → Gm O ρ st.tb w → GO E.c O →
      (∀ O' ρ' w', Stq (· ∉ cr) O ρ w O' ρ' w' → Cp w') → Stp (fun _ => True) O0 ρ0 w0 O ρ w → ∃ CR, (∀ i, i ∈ cr → i ∈ CR) ∧ Sx P ops.toArray (fun w' => Cp w' ∧ Cls CR O w w') K L a w
  | [], Cp, cr, st, a, O, ρ, w, e, hF, hM, hG, hst, hS => ⟨cr, fun _ h => h, hK st a w O ρ e hF hM hG hS⟩
  | (t, o) :: L, Cp, cr, st, a, O, ρ, w, e, hF, hM, hG, hst, hS => by
    obtain ⟨CR, h1, _, h3⟩ := stepL_ok (K := K) (S := fun C a w => Sx P ops.toArray C K L a w) (Inv := fun _ _ => True) hc hct hG e hF hM hst hS trivial (fun _ _ _ => trivial) (fun _ _ _ _ _ _ => trivial)
      (fun Cp' cr' st' a' w' O' ρ' e hF hM hG h1 h2 _ => evL_ok hc hct hK L Cp' cr' st' a' O' ρ' w' e hF hM hG h1 h2)
    exact ⟨CR, h1, h3.sx⟩

/-- Another slot gets a value. -/
theorem FI.other {n : Nat} {a : Act} {il : IEnv} {O : Own} {ρ : List Hd} {d : Nat} {x : Value} (h : FI n a il O ρ) (hd : geti il d = none) : FI n (a.put (some d) x) il O ρ := by
  obtain ⟨l, h1, h2⟩ := h
  have hn : ∀ {il : IEnv} {l : Env}, ER O ρ il l → geti il d = none → get? l d = none := by
    intro il
    induction il with
    | nil => intro l h _; cases l with
      | nil => rfl
      | cons _ _ => exact h.elim
    | cons y r ih =>
      intro l h e
      cases l with
      | nil => exact h.elim
      | cons z r' =>
        obtain ⟨s, v⟩ := y
        obtain ⟨s', v'⟩ := z
        obtain ⟨rfl, _, h4⟩ := h
        simp only [geti] at e
        simp only [get?]
        cases hb : Nat.beq s d with
        | true => rw [hb] at e; cases e
        | false => rw [hb] at e; exact ih h4 e
  refine ⟨l, ⟨h1.defers, ?_, fun t v hv => ?_⟩, h2⟩
  · have := h1.size; simpa [Act.put] using this
  · have hne : d ≠ t := fun e => by subst e; rw [hn h2 hd] at hv; cases hv
    have := h1.has t v hv
    simp only [Act.put]
    rw [Array.getElem?_setIfInBounds_ne hne]
    exact this

/-- A block that nobody owns is taken in. -/
theorem Gm.adopt {O : Own} {ρ : List Hd} {tb : Tbl} {w : World} {b0 ty : Nat} {v : IV} {cs : List Value} (hM : Gm O ρ tb w) (hO : O b0 = .no) (hb : Blk w b0 cs ty) (hR : ∀ O ρ, R O ρ false v cs) :
    Gm (fun b => bif Nat.beq b0 b then .th tb.length else O b) (ρ ++ [⟨b0, v.sz, .bool false⟩]) (tb ++ [.blk ty v]) w ∧ O.le (fun b => bif Nat.beq b0 b then .th tb.length else O b) := by
  have hlt : b0 < w.heap.size := hb.lt
  have hle : O.le (fun b => bif Nat.beq b0 b then .th tb.length else O b) := fun b all e => by
    cases e' : Nat.beq b0 b with
    | true => have := Nat.eq_of_beq_eq_true e'; subst this; rw [hO] at e; cases e
    | false => simp only [e', cond_false]; exact e
  refine ⟨⟨fun b all e => ?_, fun b hb' => ?_, by simp [hM.len], fun j x hx => ?_⟩, hle⟩
  · cases e' : Nat.beq b0 b with
    | true => rw [e'] at e; cases e
    | false => rw [e'] at e; exact hM.im b all e
  · cases e' : Nat.beq b0 b with
    | true => have := Nat.eq_of_beq_eq_true e'; omega
    | false => exact hM.lt b hb'
  · rcases Nat.lt_or_ge j tb.length with hj | hj
    · rw [List.getElem?_append_left hj] at hx
      have old := hM.th j x hx
      have ne : ∀ b, O b = .th j → (bif Nat.beq b0 b then .th tb.length else O b) = .th j := fun b e => by
        cases e' : Nat.beq b0 b with
        | true => have := Nat.eq_of_beq_eq_true e'; subst this; rw [hO] at e; cases e
        | false => exact e
      cases x with
      | blk ty v =>
        obtain ⟨h, cs, h3, h4, h5, h6, h7⟩ := old
        exact ⟨h, cs, Pre.app _ _ _ _ h3, ne _ h4, h5, R.mono hle (.app _ _) h6, h7⟩
      | row E t xs =>
        obtain ⟨h, es, h3, h4, h5, h6, h7⟩ := old
        exact ⟨h, es, Pre.app _ _ _ _ h3, h4, fun b hbb => ne _ (h5 b hbb), h6.mono (fun _ _ => TR.mono hle), h7⟩
      | fz t xs =>
        obtain ⟨h, h3, h4, h5⟩ := old
        exact ⟨h, Pre.app _ _ _ _ h3, h4, TR.mono hle h5⟩
      | no => trivial
    · have : j = tb.length := by
        have := (List.getElem?_eq_some_iff.1 hx).1
        simp at this; omega
      subst this
      rw [List.getElem?_append_right (Nat.le_refl _)] at hx
      simp at hx; subst hx
      exact ⟨⟨b0, v.sz, .bool false⟩, cs, by rw [← hM.len]; simp, by simp, rfl, hR _ _, hb⟩

theorem preOk_cons {c : Cfg} {d : Nat} {t : Tag} {o : Oper} {L : List (Tag × Oper)} (h : preOk c d ((t, o) :: L) = true) : (∀ d', o.dst = some d' → d' ≠ d) ∧ (t = .w → chg c o.op = true ∧ o.guard = none) ∧ preOk c d L = true := by
  simp only [preOk, Bool.and_eq_true] at h
  obtain ⟨⟨h1, h2⟩, h3⟩ := h
  refine ⟨fun d' e hd => ?_, fun e => ?_, h3⟩
  · rw [e] at h1; subst hd; simp at h1
  · subst e
    simp only [Bool.and_eq_true] at h2
    refine ⟨h2.1, ?_⟩
    cases hg : o.guard with
    | none => rfl
    | some _ => rw [hg] at h2; simp at h2

theorem geti_put {d : Nat} {o : Oper} {v : IV} {il il' : IEnv} (hd : ∀ d', o.dst = some d' → d' ≠ d) (h : geti il d = none) (e : putE E o.dst v il = some il') : geti il' d = none := by
  unfold putE at e
  split at e
  · cases e; exact h
  · rename_i d' hd'
    split at e
    · cases e
      simp only [geti]
      cases hb : Nat.beq d' d with
      | true => exact absurd (Nat.eq_of_beq_eq_true hb) (hd d' hd')
      | false => exact h
    · cases e

theorem tmps_put {d : Nat} {o : Oper} {x y : Value} {a : Act} (hd : ∀ d', o.dst = some d' → d' ≠ d) (h : a.tmps[d]? = some y) : (a.put o.dst x).tmps[d]? = some y := by
  cases ho : o.dst with
  | none => exact h
  | some d' =>
    simp only [Act.put]
    rw [Array.getElem?_setIfInBounds_ne (hd d' ho)]
    exact h

theorem alOp_spec {o : Oper} {t d : Nat} (h : alOp o = some (t, d)) : o.op = .alloc t ∧ o.dst = some d ∧ o.guard = none := by
  unfold alOp at h
  split at h <;> first | (cases h; done) | skip
  rename_i h1 h2 h3
  cases h
  exact ⟨h1, h2, h3⟩

/-- The walk where the new variable has come early. -/
theorem evE_ok {β : Type} {k : St → Option β} {r : β} {O0 Oa : Own} {ρ0 ρa : List Hd} {w0 wa : World} {oa : Oper} {ta d b0 : Nat} {cs : List Value} {va : IV} {post : List (Tag × Oper)} (hc : COk P E.c) (hct : CtsOk P E)
    (hK : ∀ st a w O ρ, k st = some r → FS E.n a st O ρ → Gm O ρ st.tb w → GO E.c O → Stp (fun _ => True) O0 ρ0 w0 O ρ w → K a w)
    (hoa : alOp oa = some (ta, d)) (hva : E.c.I ta = some va) (hR : ∀ O ρ, R O ρ false va cs) (hS0 : Stp (fun _ => True) O0 ρ0 w0 Oa ρa wa) (hb0 : w0.heap.size ≤ b0) (hbO : Oa b0 = .no) (hbB : Blk wa b0 cs ta) :
    ∀ (L : List (Tag × Oper)) (Cp : World → Prop) (cr : List Nat) (st : St) (a : Act) (O : Own) (ρ : List Hd) (w : World), evL E ops k (L ++ (.w, oa) :: post) cr st = some r → preOk E.c d L = true → FS E.n a st O ρ → Gm O ρ st.tb w → GO E.c O →
      (∀ O' ρ' w', Stq (· ∉ cr) O ρ w O' ρ' w' → Cp w') → Stp (fun _ => True) Oa ρa wa O ρ w → a.tmps[d]? = some (vP b0 0) ∧ geti st.env d = none → ∃ CR, (∀ i, i ∈ cr → i ∈ CR) ∧ SxN P ops.toArray K (L ++ post) (fun w' => Cp w' ∧ Cls CR O w w') a w
  | [], Cp, cr, st, a, O, ρ, w, e, _, hF, hM, hG, hst, hS, hI => by
    obtain ⟨ho, hd, hg⟩ := alOp_spec hoa
    have hlt : b0 < wa.heap.size := hbB.lt
    have hO : O b0 = .no := hS.no b0 hlt hbO
    have hB : Blk w b0 cs ta := hbB.same (hS.kept.block b0 hlt (fun ⟨id, _, h⟩ => by rw [hbO] at h; cases h))
    obtain ⟨hM2, hle⟩ := hM.adopt hO hB hR
    simp only [List.nil_append, evL, stepL, hg] at e
    unfold exec at e
    simp only [ho, clOf, wIds, apart, wOp, wAl, hva, hd, putE] at e
    split at e <;> first | (cases e; done) | skip
    rename_i il' hil
    split at hil <;> first | (cases hil; done) | skip
    rename_i hdn
    cases hil
    have hpre : Pre ρ (ρ ++ [⟨b0, va.sz, .bool false⟩]) := .app _ _
    have hq : Stq (· ∉ cr) O ρ w (fun b => bif Nat.beq b0 b then .th st.tb.length else O b) (ρ ++ [⟨b0, va.sz, .bool false⟩]) w := by
      refine ⟨hpre, hle, fun b id _ h _ => ?_, Kept.refl _ _⟩
      cases e' : Nat.beq b0 b with
      | true => have := Nat.eq_of_beq_eq_true e'; subst this; rw [hO] at h; cases h
      | false => exact h
    have hs0 := hS0.trans hS
    have hS2 : Stp (fun _ => True) O0 ρ0 w0 (fun b => bif Nat.beq b0 b then .th st.tb.length else O b) (ρ ++ [⟨b0, va.sz, .bool false⟩]) w := by
      refine ⟨hs0.pre.trans hpre, hs0.im.trans hle, fun b hb h => ?_, fun b id hb h hn => absurd trivial hn, hs0.kept⟩
      cases e' : Nat.beq b0 b with
      | true => have := Nat.eq_of_beq_eq_true e'; omega
      | false => exact hs0.no b hb h
    have hF2 : FS E.n a ⟨(d, .pt st.tb.length []) :: st.env, st.tb ++ [.blk ta va], st.df⟩ (fun b => bif Nat.beq b0 b then .th st.tb.length else O b) (ρ ++ [⟨b0, va.sz, .bool false⟩]) := by
      refine ⟨?_, hF.2.mono hle hpre⟩
      obtain ⟨l, h1, h2⟩ := hF.1
      refine ⟨(d, .o (.v (vP b0 0))) :: l, ⟨h1.defers, h1.size, fun t u hu => ?_⟩, rfl, ?_, h2.mono hle hpre⟩
      · simp only [get?] at hu
        cases hb : Nat.beq d t with
        | true => rw [hb] at hu; cases hu; rw [← Nat.eq_of_beq_eq_true hb]; exact hI.1
        | false => rw [hb] at hu; exact h1.has t u hu
      · exact .of_S0 (v := .pt st.tb.length []) ⟨_, rfl, ⟨b0, va.sz, .bool false⟩, 0, by rw [← hM.len]; simp, by cases va.sz <;> rfl, rfl⟩
    obtain ⟨CR, h1, h2⟩ := evL_ok (K := K) hc hct hK post Cp cr _ a _ _ w e hF2 hM2 (hG.mono hle) (fun O' ρ' w' h => hst _ _ _ (hq.trans h)) hS2
    refine ⟨cr, fun _ h => h, _, fun w' h => ⟨h.1, h.2.wide (fun b hb => ?_)⟩, ⟨hst _ _ _ (.refl _ _ _ _), Kept.refl _ _⟩, h2⟩
    cases e' : Nat.beq b0 b with
    | true => have := Nat.eq_of_beq_eq_true e'; subst this; exact .inl hO
    | false =>
      simp only [e', cond_false] at hb
      exact hb.imp (fun h => h) (fun ⟨id, hn, h⟩ => ⟨id, fun hc => hn (h1 id hc), h⟩)
  | (t, o) :: L, Cp, cr, st, a, O, ρ, w, e, hp, hF, hM, hG, hst, hS, hI => by
    obtain ⟨p1, p2, p3⟩ := preOk_cons hp
    obtain ⟨CR, h1, _, h3⟩ := stepL_ok (K := K) (S := SxN P ops.toArray K (L ++ post)) (Inv := fun tm il => tm[d]? = some (vP b0 0) ∧ geti il d = none) hc hct hG e hF hM hst hS hI (fun dj g h => ⟨hI.1, geti_lit hI.2 h⟩) (fun il hi x v il' h => ⟨tmps_put p1 hi.1, geti_put p1 hi.2 h⟩)
      (fun Cp' cr' st' a' w' O' ρ' e hF hM hG h1 h2 h3 => evE_ok hc hct hK hoa hva hR hS0 hb0 hbO hbB L Cp' cr' st' a' O' ρ' w' e p3 hF hM hG h1 h2 h3)
    exact ⟨CR, h1, h3.sxn ⟨hst _ _ _ (.refl _ _ _ _), Kept.refl _ _⟩⟩

/-- The walk with a new variable that may come at any time before its place. -/
theorem evP_ok {β : Type} {k : St → Option β} {r : β} {O0 : Own} {ρ0 : List Hd} {w0 : World} {oa : Oper} {ta d : Nat} {va : IV} {post : List (Tag × Oper)} (hc : COk P E.c) (hct : CtsOk P E)
    (hK : ∀ st a w O ρ, k st = some r → FS E.n a st O ρ → Gm O ρ st.tb w → GO E.c O → Stp (fun _ => True) O0 ρ0 w0 O ρ w → K a w)
    (hoa : alOp oa = some (ta, d)) (hva : E.c.I ta = some va) (hdn : Nat.blt d E.n = true) :
    ∀ (L : List (Tag × Oper)) (Cp : World → Prop) (cr : List Nat) (st : St) (a : Act) (O : Own) (ρ : List Hd) (w : World), evL E ops k (L ++ (.w, oa) :: post) cr st = some r → preOk E.c d L = true → FS E.n a st O ρ → Gm O ρ st.tb w → GO E.c O →
      (∀ O' ρ' w', Stq (· ∉ cr) O ρ w O' ρ' w' → Cp w') → Stp (fun _ => True) O0 ρ0 w0 O ρ w → geti st.env d = none → ∃ CR, (∀ i, i ∈ cr → i ∈ CR) ∧ SxP P ops.toArray K oa post L (fun w' => Cp w' ∧ Cls CR O w w') a w
  | [], Cp, cr, st, a, O, ρ, w, e, _, hF, hM, hG, hst, hS, hI => evL_ok hc hct hK _ Cp cr st a O ρ w e hF hM hG hst hS
  | (t, o) :: L, Cp, cr, st, a, O, ρ, w, e, hp, hF, hM, hG, hst, hS, hI => by
    obtain ⟨p1, p2, p3⟩ := preOk_cons hp
    obtain ⟨CR, h1, h2, h3⟩ := stepL_ok (K := K) (S := SxP P ops.toArray K oa post L) (Inv := fun _ il => geti il d = none) hc hct hG e hF hM hst hS hI (fun dj g h => geti_lit hI h) (fun il hi x v il' h => geti_put p1 hi h)
      (fun Cp' cr' st' a' w' O' ρ' e hF hM hG h1 h2 h3 => evP_ok hc hct hK hoa hva hdn L Cp' cr' st' a' O' ρ' w' e p3 hF hM hG h1 h2 h3)
    refine ⟨CR, h1, h3, fun ht => ?_⟩
    obtain ⟨q1, q2⟩ := p2 ht
    obtain rfl := h2 q1 q2
    obtain ⟨ho, hd, hg⟩ := alOp_spec hoa
    obtain ⟨z, cs, z1, z2, z3⟩ := hc.zero _ _ hva
    have hrun : (execOp a.eval oa).run P w = .ok (.value (vP w.heap.size 0)) { w with heap := w.heap.push (.cells cs.toArray ta) } := by
      simp only [execOp, ho]
      simp [Instr.alloc, z1 w, newVar, z2, run_newRow]
    have hk : Kept none1 w { w with heap := w.heap.push (.cells cs.toArray ta) } := kept_alloc w _
    have hs1 : ∀ M : Nat → Prop, Stp M O ρ w O ρ { w with heap := w.heap.push (.cells cs.toArray ta) } := fun M => ⟨.refl _, .refl _, fun _ _ h => h, fun _ _ _ h _ => h, hk.wide (fun _ h => h.elim)⟩
    have hM1 : Gm O ρ st.tb { w with heap := w.heap.push (.cells cs.toArray ta) } :=
      (hM.step (M := fun _ => False) (O' := O) (ρ' := ρ) (tb' := st.tb) (hk.wide (fun _ h => h.elim)) (fun _ _ _ => rfl) (fun b hb => hM.lt b (Nat.le_trans hk.size hb)) (fun b all h => .inl h) (.refl _) hM.len (fun j x hx => .inl ⟨hx, fun h => h⟩)).1
    have hF1 : FS E.n (a.put (some d) (vP w.heap.size 0)) st O ρ := ⟨hF.1.other hI, by rw [put_defers]; exact hF.2⟩
    have hsz : (a.put (some d) (vP w.heap.size 0)).tmps[d]? = some (vP w.heap.size 0) := by
      obtain ⟨l, hl, _⟩ := hF.1
      have h1 : a.tmps.size = E.n := hl.size
      have h2 : d < E.n := by simpa [Nat.blt_eq] using hdn
      simp [Act.put, h1, h2]
    obtain ⟨CR2, g1, C', g2, g3, g4⟩ := evE_ok (K := K) (post := post) (O0 := O0) (ρ0 := ρ0) (w0 := w0) hc hct hK hoa hva z3 (hS.trans (hs1 _)) hS.kept.size (hM.lt _ (Nat.le_refl _)) (blk_new ta cs) ((t, o) :: L) (fun w'' => Cp w'' ∧ Cls CR O w w'') CR st (a.put (some d) (vP w.heap.size 0)) O ρ _ e hp hF1 hM1 hG
      (fun O' ρ' w' h => ⟨hst _ _ _ ((hs1 _).q.trans h), ((hs1 _).q.trans h).kept⟩) (.refl _ _ _ _) ⟨hsz, hI⟩
    unfold opO
    rw [if_pos (want_none hg)]
    simp only [Oper.wp, hrun, Oper.upon, hd]
    exact ⟨C', fun w' h => (g2 w' h).1, g3, g4⟩

theorem cutAt_spec {i : Nat} : ∀ {π x y : List (Tag × Nat)}, cutAt i π = some (x, y) → π = x ++ (.w, i) :: y
  | [], x, y, h => by simp [cutAt] at h
  | (t, j) :: r, x, y, h => by
    simp only [cutAt] at h
    split at h
    · rename_i hb
      have := Nat.eq_of_beq_eq_true hb
      subst this
      split at h
      · cases h; rfl
      · cases h
    · split at h
      · rename_i x' y' hr
        cases h
        rw [cutAt_spec hr]; rfl
      · cases h

theorem pick_split {l : List Oper} {y : List (Tag × Nat)} {i : Nat} {oa : Oper} (hi : nthO l i = some oa) : ∀ {x : List (Tag × Nat)} {X L : List (Tag × Oper)}, pick l x = some X → pick l (x ++ (.w, i) :: y) = some L → ∃ Y, pick l y = some Y ∧ L = X ++ (.w, oa) :: Y
  | [], X, L, h1, h2 => by
    simp only [pick, Option.some.injEq] at h1; subst h1
    simp only [List.nil_append, pick, hi] at h2
    split at h2 <;> first | (cases h2; done) | skip
    rename_i o os ho hos
    cases h2; cases ho
    exact ⟨os, hos, rfl⟩
  | (t, j) :: x, X, L, h1, h2 => by
    simp only [pick] at h1
    split at h1 <;> first | (cases h1; done) | skip
    rename_i o os ho hos
    cases h1
    simp only [List.cons_append, pick, ho] at h2
    split at h2 <;> first | (cases h2; done) | skip
    rename_i o2 os2 ho2 hos2
    cases h2; cases ho2
    obtain ⟨Y, h3, rfl⟩ := pick_split hi hos hos2
    exact ⟨Y, h3, rfl⟩

/-- The order of a region, checked. -/
def ordB (E : Ev) (id : Nat) (l : List Oper) : Bool := match E.al id with
  | none => okAll l (E.ord id)
  | some ia => match cutAt ia (E.ord id) with
    | some (x, y) => okAllP l ia x y
    | none => false
/-- The orders of the regions that draw are orders. -/
def OrdOk (P : Program) (E : Ev) (id : Nat) (ops : Array Oper) (draw : Bool) : Prop := draw = true → P.follows .mixedOrders = true ∧ ordB E id ops.toList = true

/-- A region. -/
theorem evR_ok {β : Type} {id : Nat} {opa : Array Oper} {draw : Bool} {st : St} {k : St → Option β} {r : β} {a : Act} {O : Own} {ρ : List Hd} {w : World} {N : Act → World → Prop} {X : Nat → Act → World → Prop} {Y : Act → World → Prop} (hc : COk P E.c) (hct : CtsOk P E) (hor : OrdOk P E id opa draw)
    (e : evR E id opa.toList draw st k = some r) (hF : FS E.n a st O ρ) (hM : Gm O ρ st.tb w) (hG : GO E.c O)
    (hK : ∀ st' a' w' O' ρ', k st' = some r → FS E.n a' st' O' ρ' → Gm O' ρ' st'.tb w' → GO E.c O' → Stp (fun _ => True) O ρ w O' ρ' w' → N a' w') : (Code.region id opa draw).wp P (QL N X Y) a w := by
  unfold evR at e
  split at e
  · obtain ⟨CR, _, h⟩ := evL_ok (P := P) (K := N) (O0 := O) (ρ0 := ρ) (w0 := w) hc hct (fun st a w O ρ h1 h2 h3 h4 h5 => hK st a w O ρ h1 h2 h3 h4 h5) _ (fun _ => True) [] st a O ρ w e hF hM hG (fun _ _ _ _ => trivial) (.refl _ _ _ _)
    have := wp_of_norm (E := X) (R := Y) (wp_region_lit (id := id) (sx_plain _ _ a w h))
    simpa using this
  · split at e <;> first | (cases e; done) | skip
    rename_i L hL
    obtain ⟨hm, hok⟩ := hor rfl
    have hdr := kept_drew w
    have hM' : Gm O ρ st.tb { w with drawn := w.drawn + 1 } := by
      have := (hM.step (M := fun _ => False) (O' := O) (ρ' := ρ) (tb' := st.tb) (w' := { w with drawn := w.drawn + 1 }) (hdr.wide (fun _ h => h.elim)) (fun _ _ _ => rfl) (fun b hb => hM.lt b hb) (fun b all h => .inl h) (.refl _) hM.len (fun j x hx => .inl ⟨hx, fun h => h⟩)).1
      exact this
    have hS0 : Stp (fun _ => True) O ρ w O ρ { w with drawn := w.drawn + 1 } := ⟨.refl _, .refl _, fun _ _ h => h, fun _ _ _ h _ => h, hdr.wide (fun _ h => h.elim)⟩
    have hK' : ∀ st a w' O' ρ', k st = some r → FS E.n a st O' ρ' → Gm O' ρ' st.tb w' → GO E.c O' → Stp (fun _ => True) O ρ { w with drawn := w.drawn + 1 } O' ρ' w' → N a w' := fun st a w' O' ρ' h1 h2 h3 h4 h5 => hK st a w' O' ρ' h1 h2 h3 h4 (hS0.trans h5)
    unfold ordB at hok
    split at e
    · rename_i hal
      rw [hal] at hok
      obtain ⟨CR, _, h⟩ := evL_ok (P := P) (K := N) (O0 := O) (ρ0 := ρ) (w0 := { w with drawn := w.drawn + 1 }) hc hct hK' L (fun _ => True) [] st a O ρ _ e hF hM' hG (fun _ _ _ _ => trivial) (.refl _ _ _ _)
      have := c_drawX (P := P) (id := id) (K := N) (E := X) (R := Y) (E.ord id) _ hm hok hL ⟨trivial, Kept.refl _ _⟩ h
      simpa using this
    · rename_i ia hal
      rw [hal] at hok
      split at e <;> first | (cases e; done) | skip
      rename_i hea
      unfold early at hea
      split at hea <;> first | (cases hea; done) | skip
      rename_i oa x y hoa hcut
      split at hea <;> first | (cases hea; done) | skip
      rename_i ta d Lx hal2 hLx
      split at hea <;> first | (cases hea; done) | skip
      rename_i va hva hgd
      simp only [Bool.and_eq_true] at hea
      simp only [hcut] at hok
      rw [cutAt_spec hcut] at hL
      obtain ⟨Ly, hLy, rfl⟩ := pick_split hoa hLx hL
      obtain ⟨CR, _, h⟩ := evP_ok (P := P) (K := N) (O0 := O) (ρ0 := ρ) (w0 := { w with drawn := w.drawn + 1 }) hc hct hK' hal2 hva hea.1 Lx (fun _ => True) [] st a O ρ _ e hea.2 hF hM' hG (fun _ _ _ _ => trivial) (.refl _ _ _ _) hgd
      have := c_drawP (P := P) (id := id) (K := N) (E := X) (R := Y) x y _ hm hok hoa hLx hLy ⟨trivial, Kept.refl _ _⟩ h
      simpa using this
end
end Go.Tw
/- The evaluator of code, loops, and whole functions. No program is in it. -/
namespace Go.Tw
set_option linter.unusedSimpArgs false
set_option linter.unusedVariables false

/-- A contract of a part of a function: the slots and shapes ahead (A, T), behind (1), and at a return within it (2). -/
structure Lc where
  s0 : List Nat
  A : List Sh
  T : List TSh
  s1 : List Nat
  A1 : List Sh
  T1 : List TSh
  s2 : List Nat
  A2 : List Sh
  T2 : List TSh
  run : (β : Type) → dens A → tdens T → (dens A1 → tdens T1 → Option β) → (dens A2 → tdens T2 → Option β) → Option β
  nat : ∀ (β : Type) x y k1 k2 (r : β), run β x y k1 k2 = some r →
    (∃ p q, run ((dens A1 × tdens T1) ⊕ (dens A2 × tdens T2)) x y (fun p q => some (.inl (p, q))) (fun p q => some (.inr (p, q))) = some (.inl (p, q)) ∧ k1 p q = some r) ∨
    (∃ p q, run ((dens A1 × tdens T1) ⊕ (dens A2 × tdens T2)) x y (fun p q => some (.inl (p, q))) (fun p q => some (.inr (p, q))) = some (.inr (p, q)) ∧ k2 p q = some r)

def rngF : Nat → Nat → List Nat
  | _, 0 => []
  | j, m + 1 => j :: rngF (j + 1) m

def rng (m : Nat) : List Nat := rngF 0 m

def pickS (il : IEnv) : List Nat → Option (List IV)
  | [] => some []
  | t :: ts => match geti il t, pickS il ts with
    | some (.tu _), _ => none
    | some v, some vs => some (v :: vs)
    | _, _ => none

def zipS : List Nat → List IV → IEnv
  | t :: ts, v :: vs => (t, v) :: zipS ts vs
  | _, _ => []

def mkSt (sl : List Nat) (A : List Sh) (T : List TSh) (x : dens A) (y : tdens T) : St := ⟨zipS sl (encs A x), encTs T y, []⟩

/-- The state read as one of a shape. -/
def uniS {β : Type} (m : Nat) (sl : List Nat) (A : List Sh) (T : List TSh) (st : St) (k : dens A → tdens T → Option β) : Option β :=
  match pickS st.env sl, st.df with
  | some vs, [] => uni false A T (rng m) vs st.tb fun x y _ => k x y
  | _, _ => none

def look : List (List Nat × Lc) → List Nat → Option Lc
  | [], _ => none
  | (q, L) :: r, p => match eqL q p with
    | true => some L
    | false => look r p

def frag {β : Type} (m : Nat) (L : Lc) (st : St) (k : Exit → St → Option β) : Option β :=
  uniS m L.s0 L.A L.T st fun x y => L.run β x y (fun p q => k .normal (mkSt L.s1 L.A1 L.T1 p q)) (fun p q => k .ret (mkSt L.s2 L.A2 L.T2 p q))

def sev {β : Type} (E : Ev) (m : Nat) (lp : List (List Nat × Lc)) : Code → List Nat → St → (Exit → St → Option β) → Option β
  | .skip, _, st, k => k .normal st
  | .exit j, _, st, k => k (.exit j) st
  | .ret, _, st, k => k .ret st
  | .seq a b, p, st, k => match look lp p with
    | some L => frag m L st k
    | none => sev E m lp a (0 :: p) st fun e st => match e with
      | .normal => sev E m lp b (1 :: p) st k
      | e => k e st
  | .region id ops draw, _, st, k => evR E id ops.toList draw st (k .normal)
  | .cond x a b, p, st, k => match look lp p with
    | some L => frag m L st k
    | none => match iopd E.c st.env x with
      | some (.o (.b g)) => match g with
        | true => sev E m lp a (0 :: p) st k
        | false => sev E m lp b (1 :: p) st k
      | _ => none
  | .block id c, p, st, k => match look lp p with
    | some L => frag m L st k
    | none => sev E m lp c (0 :: p) st fun e st => match e with
      | .exit j => match Nat.beq j id with
        | true => k .normal st
        | false => k (.exit j) st
      | e => k e st
  | _, _, _, _ => none

/-- The part of the code at a path (the innermost step first). -/
def cAt : Code → List Nat → Code
  | c, [] => c
  | c, i :: p => match cAt c p, i with
    | .seq a _, 0 => a
    | .seq _ b, _ => b
    | .cond _ a _, 0 => a
    | .cond _ _ b, _ => b
    | .block _ c, _ => c
    | .loop c, _ => c
    | c, _ => c

/-- All regions that draw have an order. -/
def ordAll (E : Ev) : Code → Bool
  | .region id ops draw => match draw with
    | true => ordB E id ops.toList
    | false => true
  | .seq a b => ordAll E a && ordAll E b
  | .cond _ a b => ordAll E a && ordAll E b
  | .block _ c => ordAll E c
  | .loop c => ordAll E c
  | _ => true

section
variable {P : Program} {E : Ev}

/-- The state as a walk knows it. O0, ρ0, w0: as the call began. -/
def G (E : Ev) (O0 : Own) (ρ0 : List Hd) (w0 : World) (st : St) (a : Act) (w : World) : Prop :=
  ∃ O ρ, FS E.n a st O ρ ∧ Gm O ρ st.tb w ∧ GO E.c O ∧ Stp (fun _ => True) O0 ρ0 w0 O ρ w

/-- The contract of a part holds. -/
def LcOk (P : Program) (E : Ev) (m : Nat) (L : Lc) (c : Code) : Prop :=
  ∀ (O0 : Own) (ρ0 : List Hd) (w0 : World), ρ0.length = m → ∀ x y z, L.run ((dens L.A1 × tdens L.T1) ⊕ (dens L.A2 × tdens L.T2)) x y (fun p q => some (.inl (p, q))) (fun p q => some (.inr (p, q))) = some z → ∀ a w, G E O0 ρ0 w0 (mkSt L.s0 L.A L.T x y) a w →
    c.wp P (QL (fun a w => ∃ p q, z = .inl (p, q) ∧ G E O0 ρ0 w0 (mkSt L.s1 L.A1 L.T1 p q) a w) (fun _ _ _ => False) (fun a w => ∃ p q, z = .inr (p, q) ∧ G E O0 ρ0 w0 (mkSt L.s2 L.A2 L.T2 p q) a w)) a w

def AllLc (P : Program) (E : Ev) (m : Nat) (root : Code) : List (List Nat × Lc) → Prop
  | [] => True
  | (p, L) :: r => LcOk P E m L (cAt root p) ∧ AllLc P E m root r

theorem AllLc.get {m : Nat} {root : Code} : ∀ {lp : List (List Nat × Lc)} {p : List Nat} {L : Lc}, AllLc P E m root lp → look lp p = some L → LcOk P E m L (cAt root p)
  | [], p, L, _, e => by simp [look] at e
  | (q, M) :: r, p, L, h, e => by
    simp only [look] at e
    split at e
    · rename_i hq; cases e; have := eqL_eq hq; subst this; exact h.1
    · exact AllLc.get h.2 e

theorem rngF_get : ∀ (m j i : Nat), i < m → (rngF j m)[i]? = some (j + i)
  | 0, j, i, h => by omega
  | m + 1, j, 0, h => by simp [rngF]
  | m + 1, j, i + 1, h => by
    simp only [rngF, List.getElem?_cons_succ]
    rw [rngF_get m (j + 1) i (by omega)]; congr 1; omega
theorem rngF_len : ∀ (m j : Nat), (rngF j m).length = m
  | 0, j => rfl
  | m + 1, j => by simp [rngF, rngF_len m]
theorem rng_get {m i : Nat} (h : i < m) : (rng m)[i]? = some i := by rw [rng, rngF_get m 0 i h]; simp
theorem rng_mem {m i : Nat} (h : i ∈ rng m) : i < m := by
  obtain ⟨j, hj⟩ := List.mem_iff_getElem?.1 h
  have hl := (List.getElem?_eq_some_iff.1 hj).1
  rw [rng, rngF_len] at hl
  rw [rng_get hl] at hj; cases hj; exact hl
theorem rngF_mem : ∀ {m j i : Nat}, i ∈ rngF j m → j ≤ i
  | 0, j, i, h => by simp [rngF] at h
  | m + 1, j, i, h => by
    simp only [rngF, List.mem_cons] at h
    rcases h with h | h
    · omega
    · have := rngF_mem h; omega
theorem rngF_nodup : ∀ (m j : Nat), (rngF j m).Nodup
  | 0, j => by simp [rngF]
  | m + 1, j => by
    simp only [rngF, List.nodup_cons]
    exact ⟨fun h => by have := rngF_mem h; omega, rngF_nodup m (j + 1)⟩
theorem rng_nodup (m : Nat) : (rng m).Nodup := rngF_nodup m 0

/-- Slots and what they hold. -/
theorem pickS_ok {n : Nat} {a : Act} {il : IEnv} {O : Own} {ρ : List Hd} (h : FI n a il O ρ) : ∀ {sl : List Nat} {vs : List IV}, pickS il sl = some vs → ∃ cs, RL O ρ vs cs ∧ sl.length = vs.length ∧ ∀ (i t : Nat) (x : Value), sl[i]? = some t → (vals vs cs)[i]? = some x → a.tmps[t]? = some x
  | [], vs, e => by simp only [pickS, Option.some.injEq] at e; subst e; exact ⟨[], rfl, rfl, fun i t x h => by simp at h⟩
  | t :: ts, vs, e => by
    simp only [pickS] at e
    split at e <;> first | (cases e; done) | skip
    rename_i v vs' hn ht hts
    cases e
    obtain ⟨cs, h1, h2, h3⟩ := pickS_ok h hts
    obtain ⟨l, hl, hE⟩ := h
    obtain ⟨sv, hsv, hSR⟩ := hE.get ht
    have hy : ∃ y, sv = .o y ∧ S0R O ρ v y := by
      cases v <;> first | exact hSR | exact absurd rfl (hn _)
    obtain ⟨y, rfl, hS⟩ := hy
    obtain ⟨c0, h4, h5, h6, h7⟩ := hS.cells
    refine ⟨c0 :: cs, ⟨c0, cs, rfl, h5, h1⟩, by simp [h2], fun i t' x hi hx => ?_⟩
    cases i with
    | zero =>
      simp at hi; subst hi
      simp [vals] at hx; subst hx
      have : a.tmps[t]? = _ := hl.has t _ hsv
      rw [this]
      simp only [SV.val]
      cases hg : v.agg with
      | true => rw [h6 hg]; rfl
      | false => rw [h7 hg]; simp
    | succ i => exact h3 i t' x (by simpa using hi) (by simpa [vals] using hx)

/-- A frame out of slots and values. -/
theorem FI.of {n : Nat} {a : Act} {O : Own} {ρ : List Hd} (hz : a.tmps.size = n) : ∀ {sl : List Nat} {vs : List IV} {cs : List (List Value)}, RL O ρ vs cs → (∀ (i t : Nat) (x : Value), sl[i]? = some t → (vals vs cs)[i]? = some x → a.tmps[t]? = some x) → FI n a (zipS sl vs) O ρ
  | [], vs, cs, _, _ => ⟨[], ⟨rfl, hz, fun t v h => by simp [get?] at h⟩, by simp [zipS, ER]⟩
  | _ :: _, [], cs, _, _ => ⟨[], ⟨rfl, hz, fun t v h => by simp [get?] at h⟩, by simp [zipS, ER]⟩
  | t :: sl, v :: vs, cs, h, hx => by
    obtain ⟨c0, r, rfl, h1, h2⟩ := h
    obtain ⟨l, hl, hE⟩ := FI.of (sl := sl) hz h2 (fun i t' x hi hxx => hx (i + 1) t' x (by simpa using hi) (by simpa [vals] using hxx))
    obtain ⟨sv, hsv, hval⟩ := res_SR (vs := [v]) (ds := [c0]) ⟨c0, [], rfl, h1, rfl⟩
    refine ⟨(t, sv) :: l, ⟨rfl, hz, fun t' u hu => ?_⟩, rfl, hsv, hE⟩
    simp only [get?] at hu
    cases hb : Nat.beq t t' with
    | true =>
      rw [hb] at hu; cases hu
      rw [← Nat.eq_of_beq_eq_true hb, hval]
      exact hx 0 t _ (by simp) (by simp [vals, resV])
    | false => rw [hb] at hu; exact hl.has t' u hu

/-- A state read as one of a shape stands for it. -/
theorem uniS_ok {β : Type} {m : Nat} {sl : List Nat} {A : List Sh} {T : List TSh} {st : St} {k : dens A → tdens T → Option β} {r : β} {a : Act} {w w0 : World} {O0 : Own} {ρ0 : List Hd} (hm : ρ0.length = m) (e : uniS m sl A T st k = some r) (h : G E O0 ρ0 w0 st a w) :
    ∃ x y, k x y = some r ∧ G E O0 ρ0 w0 (mkSt sl A T x y) a w := by
  obtain ⟨O, ρ, hF, hM, hG, hS⟩ := h
  unfold uniS at e
  split at e <;> first | (cases e; done) | skip
  rename_i vs hvs hdf
  obtain ⟨cs, hR, hlen, hslots⟩ := pickS_ok hF.1 hvs
  have hle : m ≤ st.tb.length := by
    rw [← hM.len, ← hm]
    rcases Nat.lt_or_ge ρ.length ρ0.length with h' | h'
    · have h1 : ρ0[ρ.length]? = some ρ0[ρ.length] := by simp [h']
      have := hS.pre _ _ h1
      simp at this
    · exact h'
  obtain ⟨x, y, u', O', ρ', hk, U⟩ := uni_ok e hM hR (rng_nodup m) (fun i hi => Nat.lt_of_lt_of_le (rng_mem hi) hle)
  obtain ⟨more, hbd⟩ := U.gh.bd
  have hb : ∀ i, i < ρ0.length → u'.bd[i]? = some i := fun i hi => by
    rw [hm] at hi
    rw [hbd]
    show (rng m ++ more)[i]? = some i
    rw [List.getElem?_append_left (by rw [rng, rngF_len]; exact hi)]; exact rng_get hi
  have hS2 := (hS.trans (U.gh.stp.weak (fun _ _ => trivial))).oc (lt := u'.lt) hb
  obtain ⟨⟨l, hl, _⟩, hD⟩ := hF
  rw [hdf] at hD
  refine ⟨x, y, hk, _, _, ?_, U.gm, hG.mono (U.gh.stp.im.trans (Oc_le _ _ _ _)), hS2⟩
  refine ⟨?_, hD⟩
  exact FI.of hl.size U.rl (fun i t v hi hv => hslots i t v hi (by rw [← vals_sz U.sz]; exact hv))

theorem cAt_seq0 {root : Code} {p : List Nat} {a b : Code} (h : cAt root p = .seq a b) : cAt root (0 :: p) = a := by simp [cAt, h]
theorem cAt_seq1 {root : Code} {p : List Nat} {a b : Code} (h : cAt root p = .seq a b) : cAt root (1 :: p) = b := by simp [cAt, h]
theorem cAt_cond0 {root : Code} {p : List Nat} {x : Operand} {a b : Code} (h : cAt root p = .cond x a b) : cAt root (0 :: p) = a := by simp [cAt, h]
theorem cAt_cond1 {root : Code} {p : List Nat} {x : Operand} {a b : Code} (h : cAt root p = .cond x a b) : cAt root (1 :: p) = b := by simp [cAt, h]
theorem cAt_block {root : Code} {p : List Nat} {id : Nat} {a : Code} (h : cAt root p = .block id a) : cAt root (0 :: p) = a := by simp [cAt, h]

/-- What the evaluator says of code is so. -/
theorem sev_ok {β : Type} {m : Nat} {lp : List (List Nat × Lc)} {root : Code} {O0 : Own} {ρ0 : List Hd} {w0 : World} {r : β} (hc : COk P E.c) (hct : CtsOk P E) (hmx : P.follows .mixedOrders = true) (hm : ρ0.length = m) (hlp : AllLc P E m root lp) :
    ∀ (c : Code) (p : List Nat) (st : St) (k : Exit → St → Option β) (N : Act → World → Prop) (X : Nat → Act → World → Prop) (Y : Act → World → Prop) (a : Act) (w : World), cAt root p = c → ordAll E c = true → sev E m lp c p st k = some r → G E O0 ρ0 w0 st a w →
      (∀ e st' a' w', k e st' = some r → G E O0 ρ0 w0 st' a' w' → QL N X Y e a' w') → c.wp P (QL N X Y) a w := by
  have fr : ∀ {L : Lc} {c : Code} {st : St} {k : Exit → St → Option β} {N : Act → World → Prop} {X : Nat → Act → World → Prop} {Y : Act → World → Prop} {a : Act} {w : World}, LcOk P E m L c → frag m L st k = some r → G E O0 ρ0 w0 st a w →
      (∀ e st' a' w', k e st' = some r → G E O0 ρ0 w0 st' a' w' → QL N X Y e a' w') → c.wp P (QL N X Y) a w := by
    intro L c st k N X Y a w hL e hG hK
    unfold frag at e
    obtain ⟨x, y, hk, hG'⟩ := uniS_ok hm e hG
    rcases L.nat _ x y _ _ r hk with ⟨p, q, h1, h2⟩ | ⟨p, q, h1, h2⟩
    · refine c_mono (hL O0 ρ0 w0 hm x y _ h1 a w hG') (fun a w h => ?_) (fun _ _ _ h => h.elim) (fun a w h => ?_)
      · obtain ⟨p', q', e', h⟩ := h; cases e'; exact hK .normal _ _ _ h2 h
      · obtain ⟨p', q', e', h⟩ := h; cases e'
    · refine c_mono (hL O0 ρ0 w0 hm x y _ h1 a w hG') (fun a w h => ?_) (fun _ _ _ h => h.elim) (fun a w h => ?_)
      · obtain ⟨p', q', e', h⟩ := h; cases e'
      · obtain ⟨p', q', e', h⟩ := h; cases e'; exact hK .ret _ _ _ h2 h
  intro c
  induction c with
  | skip => intro p st k N X Y a w hp ho e hG hK; exact c_skip (hK .normal st a w e hG)
  | exit j => intro p st k N X Y a w hp ho e hG hK; exact c_exit (hK (.exit j) st a w e hG)
  | ret => intro p st k N X Y a w hp ho e hG hK; exact c_ret (hK .ret st a w e hG)
  | seq x y ihx ihy =>
    intro p st k N X Y a w hp ho e hG hK
    simp only [ordAll, Bool.and_eq_true] at ho
    simp only [sev] at e
    split at e
    · rename_i L hL
      have := hlp.get hL
      rw [hp] at this
      exact fr this e hG hK
    refine c_seq (ihx (0 :: p) st _ _ X Y a w (cAt_seq0 hp) ho.1 e hG (fun e st' a' w' h1 h2 => ?_))
    cases e with
    | normal => exact ihy (1 :: p) st' k N X Y a' w' (cAt_seq1 hp) ho.2 h1 h2 hK
    | exit j => exact hK (.exit j) st' a' w' h1 h2
    | ret => exact hK .ret st' a' w' h1 h2
    | goto j => exact (hK (.goto j) st' a' w' h1 h2 : False).elim
    | panic ch => exact (hK (.panic ch) st' a' w' h1 h2 : False).elim
    | outgrown => exact (hK .outgrown st' a' w' h1 h2 : False).elim
  | region id ops draw =>
    intro p st k N X Y a w hp ho e hG hK
    obtain ⟨O, ρ, hF, hM, hGO, hS⟩ := hG
    refine evR_ok hc hct (fun hd => ?_) e hF hM hGO (fun st' a' w' O' ρ' h1 h2 h3 h4 h5 => hK .normal st' a' w' h1 ⟨O', ρ', h2, h3, h4, hS.trans h5⟩)
    subst hd
    exact ⟨hmx, ho⟩
  | cond x y z ihy ihz =>
    intro p st k N X Y a w hp ho e hG hK
    simp only [ordAll, Bool.and_eq_true] at ho
    simp only [sev] at e
    split at e
    · rename_i L hL
      have := hlp.get hL
      rw [hp] at this
      exact fr this e hG hK
    · split at e <;> first | (cases e; done) | skip
      rename_i g hx
      obtain ⟨O, ρ, ⟨⟨l, hl, hER⟩, hD⟩, hM, hGO, hS⟩ := hG
      have hev : a.eval x = _ := opd_val hl (iopd_o hER hGO hx).1
      refine wp_cond_split (t := g) hev (fun hg => ?_) (fun hg => ?_)
      · subst hg; exact ihy (0 :: p) st k N X Y a w (cAt_cond0 hp) ho.1 e ⟨O, ρ, ⟨⟨l, hl, hER⟩, hD⟩, hM, hGO, hS⟩ hK
      · subst hg; exact ihz (1 :: p) st k N X Y a w (cAt_cond1 hp) ho.2 e ⟨O, ρ, ⟨⟨l, hl, hER⟩, hD⟩, hM, hGO, hS⟩ hK
  | block id b ih =>
    intro p st k N X Y a w hp ho e hG hK
    simp only [ordAll] at ho
    simp only [sev] at e
    split at e
    · rename_i L hL
      have := hlp.get hL
      rw [hp] at this
      exact fr this e hG hK
    · refine c_block (ih (0 :: p) st _ _ _ Y a w (cAt_block hp) ho e hG (fun e st' a' w' h1 h2 => ?_))
      cases e with
      | normal => exact hK .normal st' a' w' h1 h2
      | exit j =>
        simp only at h1
        show if j = id then N a' w' else X j a' w'
        split at h1
        · rename_i hj; rw [if_pos (Nat.eq_of_beq_eq_true hj)]; exact hK .normal st' a' w' h1 h2
        · rename_i hj; rw [if_neg (Nat.ne_of_beq_eq_false hj)]; exact hK (.exit j) st' a' w' h1 h2
      | ret => exact hK .ret st' a' w' h1 h2
      | goto j => exact (hK (.goto j) st' a' w' h1 h2 : False).elim
      | panic ch => exact (hK (.panic ch) st' a' w' h1 h2 : False).elim
      | outgrown => exact (hK .outgrown st' a' w' h1 h2 : False).elim
  | _ => intro p st k N X Y a w hp ho e hG hK; simp [sev] at e

/- ## loops -/
abbrev Full (A : List Sh) (T : List TSh) (A1 : List Sh) (T1 : List TSh) (A2 : List Sh) (T2 : List TSh) : Type := (dens A × tdens T) ⊕ ((dens A1 × tdens T1) ⊕ (dens A2 × tdens T2))

/-- What follows a round of a loop. -/
def kLoop {β : Type} (m : Nat) (s0 : List Nat) (A : List Sh) (T : List TSh) (s1 : List Nat) (A1 : List Sh) (T1 : List TSh) (s2 : List Nat) (A2 : List Sh) (T2 : List TSh) (id : Nat) (again : dens A → tdens T → Option β) (out : dens A1 → tdens T1 → Option β) (ret : dens A2 → tdens T2 → Option β) : Exit → St → Option β := fun e st => match e with
  | .normal => uniS m s0 A T st again
  | .exit j => match Nat.beq j id with
    | true => uniS m s1 A1 T1 st out
    | false => none
  | .ret => uniS m s2 A2 T2 st ret
  | _ => none

/-- A loop by the twin of its body. -/
theorem lc_loop {σ τ1 τ2 : Type} {m : Nat} {lp : List (List Nat × Lc)} {root b : Code} {p : List Nat} {id : Nat} (s0 : List Nat) (A : List Sh) (T : List TSh) (s1 : List Nat) (A1 : List Sh) (T1 : List TSh) (s2 : List Nat) (A2 : List Sh) (T2 : List TSh) (hc : COk P E.c) (hct : CtsOk P E) (hmx : P.follows .mixedOrders = true) (hlp : AllLc P E m root lp) (hp : cAt root p = b) (ho : ordAll E b = true)
    (f : σ → Option (σ ⊕ (τ1 ⊕ τ2))) (eA : σ → dens A) (eT : σ → tdens T) (e1 : τ1 → dens A1 × tdens T1) (e2 : τ2 → dens A2 × tdens T2)
    (hb : ∀ s r, f s = some r → sev E m lp b p (mkSt s0 A T (eA s) (eT s)) (kLoop (β := Full A T A1 T1 A2 T2) m s0 A T s1 A1 T1 s2 A2 T2 id (fun x y => some (.inl (x, y))) (fun x y => some (.inr (.inl (x, y)))) (fun x y => some (.inr (.inr (x, y))))) =
      some (match r with | .inl s => .inl (eA s, eT s) | .inr (.inl z) => .inr (.inl (e1 z)) | .inr (.inr z) => .inr (.inr (e2 z))))
    {O0 : Own} {ρ0 : List Hd} {w0 : World} (hm : ρ0.length = m) {fuel : Nat} {i0 : σ} {z : τ1 ⊕ τ2} (hz : iter f fuel i0 = some z) {a : Act} {w : World} (hG : G E O0 ρ0 w0 (mkSt s0 A T (eA i0) (eT i0)) a w) :
    (Code.block id (.loop b)).wp P (QL (fun a w => ∃ t, z = .inl t ∧ G E O0 ρ0 w0 (mkSt s1 A1 T1 (e1 t).1 (e1 t).2) a w) (fun _ _ _ => False) (fun a w => ∃ t, z = .inr t ∧ G E O0 ρ0 w0 (mkSt s2 A2 T2 (e2 t).1 (e2 t).2) a w)) a w := by
  refine c_block (c_loop f (fun s a w => G E O0 ρ0 w0 (mkSt s0 A T (eA s) (eT s)) a w)
    (fun z e a w => match z with
      | .inl t => e = .exit id ∧ G E O0 ρ0 w0 (mkSt s1 A1 T1 (e1 t).1 (e1 t).2) a w
      | .inr t => e = .ret ∧ G E O0 ρ0 w0 (mkSt s2 A2 T2 (e2 t).1 (e2 t).2) a w) ?_ (x := z) ?_ ?_ fuel i0 a w hG hz)
  · intro s a w hG r hr
    refine sev_ok hc hct hmx hm hlp b p _ _ _ _ _ a w hp ho (hb s r hr) hG (fun e st' a' w' h1 h2 => ?_)
    cases e with
    | normal =>
      obtain ⟨x, y, h3, h4⟩ := uniS_ok hm h1 h2
      simp only [Option.some.injEq] at h3
      show ∃ s', r = .inl s' ∧ _
      cases r with
      | inl s' => simp only [Sum.inl.injEq, Prod.mk.injEq] at h3; obtain ⟨rfl, rfl⟩ := h3; exact ⟨s', rfl, h4⟩
      | inr t => cases t <;> cases h3
    | exit j =>
      simp only [kLoop] at h1
      split at h1
      · rename_i hj
        have := Nat.eq_of_beq_eq_true hj
        subst this
        obtain ⟨x, y, h3, h4⟩ := uniS_ok hm h1 h2
        simp only [Option.some.injEq] at h3
        show ∃ x, r = .inr x ∧ _
        cases r with
        | inl s' => cases h3
        | inr t =>
          cases t with
          | inl t => simp only [Sum.inr.injEq, Sum.inl.injEq] at h3; refine ⟨.inl t, rfl, rfl, ?_⟩; rw [← h3]; exact h4
          | inr t => cases h3
      · cases h1
    | ret =>
      obtain ⟨x, y, h3, h4⟩ := uniS_ok hm h1 h2
      simp only [Option.some.injEq] at h3
      show ∃ x, r = .inr x ∧ _
      cases r with
      | inl s' => cases h3
      | inr t =>
        cases t with
        | inl t => cases h3
        | inr t => simp only [Sum.inr.injEq] at h3; refine ⟨.inr t, rfl, rfl, ?_⟩; rw [← h3]; exact h4
    | goto j => cases h1
    | panic ch => cases h1
    | outgrown => cases h1
  · intro k a w h
    cases z with
    | inl t => obtain ⟨rfl', h⟩ := h; cases rfl'; show if id = id then _ else _; rw [if_pos rfl]; exact ⟨t, rfl, h⟩
    | inr t => obtain ⟨h, _⟩ := h; cases h
  · intro a w h
    cases z with
    | inl t => obtain ⟨h, _⟩ := h; cases h
    | inr t => exact ⟨t, rfl, h.2⟩

/- ## functions -/
/-- The results: in slots, or in variables. -/
def resS (c : Cfg) (il : IEnv) (tb : Tbl) : List ResultVar → Option (List IV)
  | [] => some []
  | .tmp t :: r => match geti il t, resS c il tb r with
    | some (.tu _), _ => none
    | some v, some vs => some (v :: vs)
    | _, _ => none
  | .cell t ty :: r => match geti il t, resS c il tb r with
    | some (.pt id []), some vs => match nth tb id with
      | some (.blk _ v) => match fits c ty v with
        | true => some (v :: vs)
        | false => none
      | _ => none
    | _, _ => none

/-- What was put off is called. -/
def runD {β : Type} (E : Ev) (k : Tbl → Option β) : List IV → Tbl → Option β
  | [], tb => k tb
  | .fn f a cc :: r, tb => match unch a, unch cc with
    | some l1, some l3 => match pickCt (l1 ++ l3) tb (E.cd f) with
      | some ct => callF ct (l1 ++ l3) tb fun _ tb _ => runD E k r tb
      | none => none
    | _, _ => none
  | _, _ => none

def kFn {β : Type} (E : Ev) (m : Nat) (rs : List ResultVar) (B : List Sh) (U : List TSh) (k : dens B → tdens U → Option β) : Exit → St → Option β := fun e st => match e with
  | .normal => runD E (fun tb => match resS E.c st.env tb rs with
    | some vs => uni false B U (rng m) vs tb fun x y _ => k x y
    | none => none) st.df st.tb
  | .ret => runD E (fun tb => match resS E.c st.env tb rs with
    | some vs => uni false B U (rng m) vs tb fun x y _ => k x y
    | none => none) st.df st.tb
  | _ => none

def resF (tmps : Array Value) : ResultVar → Sem Value
  | .tmp t => pure (tmps.getD t undef)
  | .cell a t => do loadVar t (← asAddr (tmps.getD a undef))

theorem run_loadVar {c : Cfg} (hc : COk P c) {O : Own} {ρ : List Hd} {t : Nat} {ad : Addr} {u : IV} {us : List Value} {w : World} (hf : fits c t u = true) (hR : R O ρ false u us) (hcell : ∀ j y, us[j]? = some y → w.cell? (ad.add j) = some y) :
    (loadVar t ad).run P w = .ok (bif u.agg then .agg us.toArray else us.headD (.bool false)) w := by
  unfold fits at hf
  split at hf <;> first | (cases hf; done) | skip
  rename_i d hd
  have hl := R.length hR
  split at hf <;> first | (cases hf; done) | skip
  · rename_i hg hu
    split at hf <;> first | (cases hf; done) | skip
    rename_i z hz
    have hz' := Nat.eq_of_beq_eq_true hf
    have hload : (loadCells ad us.length).run P w = .ok us.toArray w := run_loadCells_list (P := P) w ad us hcell
    rw [hl, ← hz'] at hload
    simp [loadVar, run_isAgg (hc.tok.desc _ _ hd), hg, hc.tok.size _ _ hz, hload, hu]
  · rename_i hg hu
    have h1 : u.sz.size = 1 := by cases u <;> simp [IV.agg] at hu <;> rfl
    rw [h1] at hl
    obtain ⟨y, rfl⟩ := List.length_eq_one_iff.1 hl
    have := hcell 0 y rfl
    have e0 : ad.add 0 = ad := by unfold Addr.add; simp
    rw [e0] at this
    simp [loadVar, run_isAgg (hc.tok.desc _ _ hd), hg, this, hu]

def RunL (P : Program) (w : World) : List (Sem Value) → List Value → Prop
  | [], xs => xs = []
  | f :: fs, xs => ∃ x r, xs = x :: r ∧ f.run P w = .ok x w ∧ RunL P w fs r

theorem mapM_run {α : Type} {w : World} (f : α → Sem Value) : ∀ {l : List α} {xs : List Value}, RunL P w (l.map f) xs → (l.mapM f).run P w = .ok xs w
  | [], xs, h => by simp only [List.map_nil, RunL] at h; subst h; rfl
  | a :: l, xs, h => by
    obtain ⟨x, r, rfl, h1, h2⟩ := h
    simp only [List.mapM_cons, Sem.run_bind, h1, mapM_run f h2, Result.andThen_ok]
    rfl

theorem resS_ok {c : Cfg} {n : Nat} {a : Act} {il : IEnv} {tb : Tbl} {O : Own} {ρ : List Hd} {w : World} (hc : COk P c) (h : FI n a il O ρ) (hM : Gm O ρ tb w) : ∀ {rs : List ResultVar} {vs : List IV}, resS c il tb rs = some vs → ∃ cs, RL O ρ vs cs ∧ RunL P w (rs.map (resF a.tmps)) (vals vs cs)
  | [], vs, e => by simp only [resS, Option.some.injEq] at e; subst e; exact ⟨[], rfl, rfl⟩
  | .tmp t :: r, vs, e => by
    simp only [resS] at e
    split at e <;> first | (cases e; done) | skip
    rename_i v vs' hn ht hts
    cases e
    obtain ⟨cs, h1, h2⟩ := resS_ok hc h hM hts
    obtain ⟨l, hl, hE⟩ := h
    obtain ⟨sv, hsv, hSR⟩ := hE.get ht
    have hy : ∃ y, sv = .o y ∧ S0R O ρ v y := by
      cases v <;> first | exact hSR | exact absurd rfl (hn _)
    obtain ⟨y, rfl, hS⟩ := hy
    obtain ⟨c0, h4, h5, h6, h7⟩ := hS.cells
    refine ⟨c0 :: cs, ⟨c0, cs, rfl, h5, h1⟩, _, _, rfl, ?_, h2⟩
    have : a.tmps[t]? = _ := hl.has t _ hsv
    simp only [resF, Sem.run_pure, Array.getD_eq_getD_getElem?, this, Option.getD_some, SV.val]
    cases hg : v.agg with
    | true => rw [h6 hg]; rfl
    | false => rw [h7 hg]; simp
  | .cell t ty :: r, vs, e => by
    simp only [resS] at e
    split at e <;> first | (cases e; done) | skip
    rename_i id vs' ht hts
    split at e <;> first | (cases e; done) | skip
    rename_i bt v hb
    split at e <;> first | (cases e; done) | skip
    rename_i hf
    cases e
    obtain ⟨cs, h1, h2⟩ := resS_ok hc h hM hts
    obtain ⟨l, hl, hE⟩ := h
    obtain ⟨sv, hsv, y, rfl, u, rfl, hd, off, h3, h4, h5⟩ := hE.get ht
    cases h5
    rw [nth_eq] at hb
    obtain ⟨hd', c0, h6, h7, h8, h9, h10⟩ := hM.th _ _ hb
    rw [h3] at h6; cases h6
    have hoff : off = 0 := by
      have : hd.z.off [] = some 0 := by cases hd.z <;> rfl
      rw [this] at h4; cases h4; rfl
    subst hoff
    refine ⟨c0 :: cs, ⟨c0, cs, rfl, h9, h1⟩, _, _, rfl, ?_, h2⟩
    have : a.tmps[t]? = _ := hl.has t _ hsv
    have hrun := run_loadVar (P := P) (w := w) (ad := ⟨hd.b, 0, none⟩) hc hf h9 (fun j z hj => by rw [add_zero _ rfl, Nat.zero_add, h10.cell]; exact hj)
    simp only [resF, Array.getD_eq_getD_getElem?, this, Option.getD_some, SV.val, S0.val, asAddr, Sem.run_bind, Sem.run_pure, Result.andThen_ok]
    exact hrun

def resL : List Value → Value
  | [x] => x
  | l => .tuple l.toArray

theorem results_run {fn : Func} {a : Act} {w : World} {xs : List Value} (h : RunL P w (fn.results.toList.map (resF a.tmps)) xs) : (results fn a.tmps).run P w = .ok (resL xs) w := by
  have hm : (fn.results.mapM (resF a.tmps)).run P w = .ok xs.toArray w := by
    have := mapM_run (P := P) (w := w) (resF a.tmps) h
    rw [Array.mapM_eq_mapM_toList]
    simp [this]
  have hres : results fn a.tmps = (do
      let vs ← fn.results.mapM (resF a.tmps)
      pure (if h : vs.size = 1 then vs[0] else .tuple vs)) := by
    unfold results; congr 1; first | done | (congr 1; funext rv; cases rv <;> rfl)
  rw [hres]
  simp only [Sem.run_bind, hm, Result.andThen_ok, Sem.run_pure]
  match xs, hm with
  | [], _ => rfl
  | [x], _ => rfl
  | x :: y :: r, _ => simp [resL]

theorem Pre.tk (m : Nat) (ρ : List Hd) : Pre (ρ.take m) ρ := fun i h e => by
  rw [List.getElem?_take] at e
  split at e
  · exact e
  · cases e

/-- What was put off is called, and then the results are read. -/
theorem leaves_ok {β : Type} {fn : Func} {tmps : Array Value} {Q : Value → World → Prop} {k : Tbl → Option β} {r : β} (hct : CtsOk P E) {O0 : Own} {ρ0 : List Hd} {w0 : World}
    (hK : ∀ tb w O ρ, k tb = some r → Gm O ρ tb w → GO E.c O → Stp (fun _ => True) O0 ρ0 w0 O ρ w → ∃ v, (results fn tmps).run P w = .ok v w ∧ Q v w) : ∀ (df : List IV) (ds : List Deferred) (tb : Tbl) (w : World) (O : Own) (ρ : List Hd), runD E k df tb = some r → DR O ρ df ds → Gm O ρ tb w → GO E.c O → Stp (fun _ => True) O0 ρ0 w0 O ρ w → Leaves P fn tmps (Ret Q) ds .returning w
  | [], ds, tb, w, O, ρ, e, hD, hM, hG, hS => by
    simp only [DR] at hD
    subst hD
    obtain ⟨v, h1, h2⟩ := hK tb w O ρ e hM hG hS
    exact ⟨v, h1, h2⟩
  | v :: df, ds, tb, w, O, ρ, e, hD, hM, hG, hS => by
    obtain ⟨fv, first, cap, r', rfl, hR, hD⟩ := hD
    cases v <;> simp only [runD] at e <;> first | (cases e; done) | skip
    rename_i f av cv
    split at e <;> first | (cases e; done) | skip
    rename_i l1 l3 h1 h3
    split at e <;> first | (cases e; done) | skip
    rename_i ct hp
    obtain ⟨hSd, fn', hf, hb, hnm⟩ := hct.2 f ct (pickCt_mem hp)
    obtain ⟨xs, ys, hcs, hxs, hys⟩ := hR
    simp only [List.cons.injEq, and_true, Value.func.injEq] at hcs
    obtain ⟨rfl, rfl, rfl⟩ := hcs
    obtain ⟨c1, r1, rfl⟩ := unch_ok h1 hxs
    obtain ⟨c3, r3, rfl⟩ := unch_ok h3 hys
    obtain ⟨rall, vall⟩ := RL.append r1 r3
    obtain ⟨v, tb', mu, hk, hcall⟩ := callF_ok hSd e hG hM rall
    rw [vall] at hcall
    have hcall : CallsD P f _ .returning w _ := hcall
    have hnm' : ¬ fn'.name = "runtime.NumGoroutine" := by simpa using hnm
    have hb' : ¬ fn'.body = none := by intro e; simp [e] at hb
    refine leaves_cons (by simp) (f := f) (args := ((vals l1 c1) ++ (vals l3 c3)).toArray) (by simp [invoke, callFunc, hf, hnm', hb']) (hcall.mono fun en u w' he => ?_)
    obtain ⟨hu, he⟩ := he
    subst hu
    cases en with
    | returned z =>
      obtain ⟨O', ρ', sv, g1, g2, g3, g4⟩ := he
      exact leaves_ok hct hK df r' tb' w' O' ρ' hk (hD.mono g4.im g4.pre) g3 (hG.mono g4.im) (hS.trans (g4.weak (fun _ _ => trivial)))
    | panicked _ => exact he.elim
    | outgrown => exact he.elim

/-- A function does what its contract says. d: it is put off (and puts nothing off itself). -/
theorem fn_okK (d : Bool) {f : FuncId} {fn : Func} {code : Code} {ct : Ct} {lp : List (List Nat × Lc)} (hf : P.funcs[f]? = some fn) (hb : fn.body = some code) (hn : fn.ntmps = E.n) (hl : Nat.ble ct.A.length E.n = true) (hmT : Nat.ble ct.m ct.T.length = true) (hc : COk P E.c) (hct : CtsOk P E) (hmx : P.follows .mixedOrders = true) (hlp : AllLc P E ct.m code lp) (ho : ordAll E code = true) (hcd : d = true → ∀ f, E.cd f = [])
    (h : ∀ x y p q, ct.run _ x y (fun p q => some (p, q)) = some (p, q) → sev E ct.m lp code [] (mkSt (rng ct.A.length) ct.A ct.T x y) (kFn E ct.m fn.results.toList ct.B ct.U fun p q => some (p, q)) = some (p, q)) : SoundK P E.c d f ct := by
  intro x y p q hrun O ρ w cs hG hM hR
  have hmT : ct.m ≤ ct.T.length := by simpa using hmT
  have hm : (ρ.take ct.m).length = ct.m := by rw [List.length_take, hM.len, encTs_len]; omega
  have hvl : ∀ {vs : List IV} {cs : List (List Value)}, RL O ρ vs cs → (vals vs cs).length = vs.length := by
    intro vs
    induction vs with
    | nil => intro cs h; simp [vals]
    | cons v vs ih => intro cs h; obtain ⟨c0, r, rfl, h1, h2⟩ := h; simp [vals, ih h2]
  have hlen : (vals (encs ct.A x) cs).length = ct.A.length := by rw [hvl hR, encs_len]
  have hl' : ct.A.length ≤ E.n := by simpa using hl
  let Q : Value → World → Prop := fun v w' => ∃ O' ρ' ds, Gm O' ρ' (encTs ct.U q) w' ∧ Stp (fun _ => True) O (ρ.take ct.m) w O' ρ' w' ∧ RL O' ρ' (encs ct.B p) ds ∧ v = resV (encs ct.B p) ds
  have hG0 : G E O (ρ.take ct.m) w (mkSt (rng ct.A.length) ct.A ct.T x y) { tmps := (vals (encs ct.A x) cs).toArray ++ Array.replicate (fn.ntmps - (vals (encs ct.A x) cs).toArray.size) undef, defers := [] } w := by
    rw [hn]
    refine ⟨O, ρ, ⟨FI.of (by simp [hlen]; omega) hR (fun i t v hi hv => ?_), rfl⟩, hM, hG, ⟨Pre.tk _ _, fun _ _ h => h, fun _ _ h => h, fun _ _ _ h _ => h, Kept.refl _ _⟩⟩
    have hi' := (List.getElem?_eq_some_iff.1 hi).1
    rw [rng, rngF_len] at hi'
    rw [rng_get hi'] at hi; cases hi
    rw [Array.getElem?_append_left (by simp [hlen, hi'])]
    simpa using hv
  have leaf : ∀ {st' : St} {a' : Act} {w' : World}, (runD E (fun tb => match resS E.c st'.env tb fn.results.toList with
      | some vs => uni false ct.B ct.U (rng ct.m) vs tb fun x y _ => some (x, y)
      | none => none) st'.df st'.tb) = some (p, q) → G E O (ρ.take ct.m) w st' a' w' → Leaves P fn a'.tmps (Ret Q) a'.defers .returning w' ∧ (d = true → a'.defers = []) := by
    intro st' a' w' h1 h2
    obtain ⟨O1, ρ1, hF1, hM1, hG1, hS1⟩ := h2
    refine ⟨leaves_ok hct (O0 := O1) (ρ0 := ρ1) (w0 := w') ?_ st'.df a'.defers st'.tb w' O1 ρ1 h1 hF1.2 hM1 hG1 (.refl _ _ _ _), fun hd => ?_⟩
    · intro tb w2 O2 ρ2 hu hM2 hG2 hS2
      have hF2 := hF1.1.mono hS2.im hS2.pre
      have hS1 : Stp (fun _ => True) O (ρ.take ct.m) w O2 ρ2 w2 := hS1.trans hS2
      split at hu <;> first | (cases hu; done) | skip
      rename_i vs hvs
      obtain ⟨ds, hR1, hrl⟩ := resS_ok (P := P) hc hF2 hM2 hvs
      have hle : ct.m ≤ tb.length := by
        rw [← hM2.len, ← hm]
        rcases Nat.lt_or_ge ρ2.length (ρ.take ct.m).length with h' | h'
        · have h1 : (ρ.take ct.m)[ρ2.length]? = some (ρ.take ct.m)[ρ2.length] := List.getElem?_eq_getElem h'
          have := hS1.pre _ _ h1
          simp at this
        · exact h'
      obtain ⟨p', q', u', O', ρ', hk, U⟩ := uni_ok hu hM2 hR1 (rng_nodup _) (fun i hi => Nat.lt_of_lt_of_le (rng_mem hi) hle)
      cases hk
      obtain ⟨more, hbd⟩ := U.gh.bd
      have hb' : ∀ i, i < (ρ.take ct.m).length → u'.bd[i]? = some i := fun i hi => by
        rw [hm] at hi
        rw [hbd]
        show (rng ct.m ++ more)[i]? = some i
        rw [List.getElem?_append_left (by rw [rng, rngF_len]; exact hi)]; exact rng_get hi
      have hS2 := (hS1.trans (U.gh.stp.weak (fun _ _ => trivial))).oc (lt := u'.lt) hb'
      refine ⟨_, results_run hrl, _, _, ds, U.gm, hS2, U.rl, ?_⟩
      show resL (vals vs ds) = resL (vals (encs ct.B p) ds)
      rw [vals_sz U.sz]
    · have hD := hF1.2
      cases hdf : st'.df with
      | nil => rw [hdf] at hD; exact hD
      | cons v r =>
        rw [hdf] at h1
        exfalso
        cases v <;> simp only [runD] at h1 <;> first | (cases h1; done) | skip
        split at h1 <;> first | (cases h1; done) | skip
        rw [hcd hd] at h1
        simp [pickCt] at h1
  have hwp : code.wp P (QL (fun a w => Leaves P fn a.tmps (Ret Q) a.defers .returning w ∧ (d = true → a.defers = [])) (fun _ _ _ => False) (fun a w => Leaves P fn a.tmps (Ret Q) a.defers .returning w ∧ (d = true → a.defers = []))) { tmps := (vals (encs ct.A x) cs).toArray ++ Array.replicate (fn.ntmps - (vals (encs ct.A x) cs).toArray.size) undef, defers := [] } w := by
    refine sev_ok hc hct hmx hm hlp code [] _ _ _ _ _ _ _ rfl ho (h x y p q hrun) hG0 (fun e st' a' w' h1 h2 => ?_)
    cases e with
    | normal => exact leaf h1 h2
    | ret => exact leaf h1 h2
    | exit j => cases h1
    | goto j => cases h1
    | panic ch => cases h1
    | outgrown => cases h1
  cases d with
  | false =>
    refine calls_of_wp_defers hf hb (wp_mono hwp fun e a w q => ?_)
    cases e <;> first | exact q.1 | exact q.elim
  | true =>
    have := callsD_of_wp (u := .returning) (R := Ret Q) hf hb (wp_mono hwp fun e a w q => ?_)
    · exact this
    · cases e with
      | normal =>
        obtain ⟨q1, q2⟩ := q
        have q2 := q2 rfl
        rw [q2] at q1
        exact ⟨q2, q1⟩
      | ret =>
        obtain ⟨q1, q2⟩ := q
        have q2 := q2 rfl
        rw [q2] at q1
        exact ⟨q2, q1⟩
      | _ => exact q.elim
end
end Go.Tw
/- How contracts are made out of twins. No program is in it. -/
namespace Go.Tw
set_option linter.unusedSimpArgs false
set_option linter.unusedVariables false

/-- A function's contract: t, the twin; e, how what it yields is put into the shapes. -/
def mkC (m : Nat) (A : List Sh) (T : List TSh) (B : List Sh) (U : List TSh) {τ : Type} (t : dens A → tdens T → Option τ) (e : dens A → tdens T → τ → dens B × tdens U) : Ct where
  m := m
  A := A
  T := T
  B := B
  U := U
  run := fun _ x y k => (t x y).bind fun z => k (e x y z).1 (e x y z).2
  nat := fun _ x y k r h => by
    obtain ⟨z, h1, h2⟩ := bindS h
    exact ⟨_, _, by rw [h1]; rfl, h2⟩

/-- A loop's contract, where nothing returns within it. f: the twin of its body. -/
def mkL (s0 : List Nat) (A : List Sh) (T : List TSh) (s1 : List Nat) (A1 : List Sh) (T1 : List TSh) {σ τ : Type} (F : Nat) (f : dens A → tdens T → σ → Option (σ ⊕ τ)) (init : dens A → tdens T → σ) (e1 : dens A → tdens T → τ → dens A1 × tdens T1) : Lc where
  s0 := s0
  A := A
  T := T
  s1 := s1
  A1 := A1
  T1 := T1
  s2 := []
  A2 := []
  T2 := []
  run := fun _ x y k1 _ => (iter (f x y) F (init x y)).bind fun z => k1 (e1 x y z).1 (e1 x y z).2
  nat := fun _ x y k1 k2 r h => by
    obtain ⟨z, h1, h2⟩ := bindS h
    exact .inl ⟨_, _, by rw [h1]; rfl, h2⟩

/-- A loop's contract, where something may return within it. -/
def mkR (s0 : List Nat) (A : List Sh) (T : List TSh) (s1 : List Nat) (A1 : List Sh) (T1 : List TSh) (s2 : List Nat) (A2 : List Sh) (T2 : List TSh) {σ τ1 τ2 : Type} (F : Nat) (f : dens A → tdens T → σ → Option (σ ⊕ (τ1 ⊕ τ2))) (init : dens A → tdens T → σ) (e1 : dens A → tdens T → τ1 → dens A1 × tdens T1) (e2 : dens A → tdens T → τ2 → dens A2 × tdens T2) : Lc where
  s0 := s0
  A := A
  T := T
  s1 := s1
  A1 := A1
  T1 := T1
  s2 := s2
  A2 := A2
  T2 := T2
  run := fun _ x y k1 k2 => (iter (f x y) F (init x y)).bind fun z => match z with
    | .inl z => k1 (e1 x y z).1 (e1 x y z).2
    | .inr z => k2 (e2 x y z).1 (e2 x y z).2
  nat := fun _ x y k1 k2 r h => by
    obtain ⟨z, h1, h2⟩ := bindS h
    cases z with
    | inl z => exact .inl ⟨_, _, by rw [h1]; rfl, h2⟩
    | inr z => exact .inr ⟨_, _, by rw [h1]; rfl, h2⟩

/-- The contract of a part without a loop. -/
def mkJ (s0 : List Nat) (A : List Sh) (T : List TSh) (s1 : List Nat) (A1 : List Sh) (T1 : List TSh) {τ : Type} (t : dens A → tdens T → Option τ) (e1 : dens A → tdens T → τ → dens A1 × tdens T1) : Lc where
  s0 := s0
  A := A
  T := T
  s1 := s1
  A1 := A1
  T1 := T1
  s2 := []
  A2 := []
  T2 := []
  run := fun _ x y k1 _ => (t x y).bind fun z => k1 (e1 x y z).1 (e1 x y z).2
  nat := fun _ x y k1 k2 r h => by
    obtain ⟨z, h1, h2⟩ := bindS h
    exact .inl ⟨_, _, by rw [h1]; rfl, h2⟩

def elimS {σ τ β : Type} (a : σ → Option β) (b : τ → Option β) : σ ⊕ τ → Option β
  | .inl x => a x
  | .inr x => b x

def kJoin {β : Type} (m : Nat) (s1 : List Nat) (A1 : List Sh) (T1 : List TSh) (out : dens A1 → tdens T1 → Option β) : Exit → St → Option β := fun e st => match e with
  | .normal => uniS m s1 A1 T1 st out
  | _ => none

section
variable {P : Program} {E : Ev}

theorem mkR_ok {σ τ1 τ2 : Type} {s0 : List Nat} {A : List Sh} {T : List TSh} {s1 : List Nat} {A1 : List Sh} {T1 : List TSh} {s2 : List Nat} {A2 : List Sh} {T2 : List TSh} {F : Nat} {f : dens A → tdens T → σ → Option (σ ⊕ (τ1 ⊕ τ2))} {init : dens A → tdens T → σ} {e1 : dens A → tdens T → τ1 → dens A1 × tdens T1} {e2 : dens A → tdens T → τ2 → dens A2 × tdens T2} {m : Nat} {lp : List (List Nat × Lc)} {root b : Code} {p : List Nat} {id : Nat}
    (hc : COk P E.c) (hct : CtsOk P E) (hmx : P.follows .mixedOrders = true) (hlp : AllLc P E m root lp) (ho : ordAll E (cAt root (0 :: 0 :: p)) = true) (hcode : cAt root p = .block id (.loop b))
    (eA : dens A → tdens T → σ → dens A) (eT : dens A → tdens T → σ → tdens T) (hiA : ∀ x y, eA x y (init x y) = x) (hiT : ∀ x y, eT x y (init x y) = y)
    (g : dens A → tdens T → σ → (σ → Option (Full A T A1 T1 A2 T2)) → (τ1 → Option (Full A T A1 T1 A2 T2)) → (τ2 → Option (Full A T A1 T1 A2 T2)) → Option (Full A T A1 T1 A2 T2))
    (hnat : ∀ x y s kA kO kR, g x y s kA kO kR = (f x y s).bind (elimS kA (elimS kO kR)))
    (heq : ∀ x y s, sev E m lp (cAt root (0 :: 0 :: p)) (0 :: 0 :: p) (mkSt s0 A T (eA x y s) (eT x y s)) (kLoop m s0 A T s1 A1 T1 s2 A2 T2 id (fun x y => some (.inl (x, y))) (fun x y => some (.inr (.inl (x, y)))) (fun x y => some (.inr (.inr (x, y))))) =
      g x y s (fun s => some (.inl (eA x y s, eT x y s))) (fun z => some (.inr (.inl (e1 x y z)))) (fun z => some (.inr (.inr (e2 x y z))))) : LcOk P E m (mkR s0 A T s1 A1 T1 s2 A2 T2 F f init e1 e2) (cAt root p) := by
  have hb0 : cAt root (0 :: 0 :: p) = b := by simp [cAt, hcode]
  intro O0 ρ0 w0 hm (x : dens A) (y : tdens T) z hz a w hG
  obtain ⟨t, ht, hz⟩ := bindS hz
  rw [hcode]
  have hG' : G E O0 ρ0 w0 (mkSt s0 A T (eA x y (init x y)) (eT x y (init x y))) a w := by rw [hiA, hiT]; exact hG
  have := lc_loop (P := P) (E := E) (root := root) (b := b) (p := 0 :: 0 :: p) (id := id) (lp := lp) s0 A T s1 A1 T1 s2 A2 T2 hc hct hmx hlp hb0 (by rw [← hb0]; exact ho) (f x y) (eA x y) (eT x y) (e1 x y) (e2 x y) (fun s r hr => by
      have h1 := heq x y s
      rw [hnat, hr, hb0] at h1
      rw [h1]
      cases r with
      | inl s => rfl
      | inr r => cases r <;> rfl) hm ht hG'
  cases t with
  | inl t =>
    cases hz
    refine c_mono this (fun a w h => ?_) (fun _ _ _ h => h) (fun a w h => ?_)
    · obtain ⟨t', e, h⟩ := h; cases e; exact ⟨_, _, rfl, h⟩
    · obtain ⟨t', e, h⟩ := h; cases e
  | inr t =>
    cases hz
    refine c_mono this (fun a w h => ?_) (fun _ _ _ h => h) (fun a w h => ?_)
    · obtain ⟨t', e, h⟩ := h; cases e
    · obtain ⟨t', e, h⟩ := h; cases e; exact ⟨_, _, rfl, h⟩

theorem mkL_ok {σ τ : Type} {s0 : List Nat} {A : List Sh} {T : List TSh} {s1 : List Nat} {A1 : List Sh} {T1 : List TSh} {F : Nat} {f : dens A → tdens T → σ → Option (σ ⊕ τ)} {init : dens A → tdens T → σ} {e1 : dens A → tdens T → τ → dens A1 × tdens T1} {m : Nat} {lp : List (List Nat × Lc)} {root b : Code} {p : List Nat} {id : Nat}
    (hc : COk P E.c) (hct : CtsOk P E) (hmx : P.follows .mixedOrders = true) (hlp : AllLc P E m root lp) (ho : ordAll E (cAt root (0 :: 0 :: p)) = true) (hcode : cAt root p = .block id (.loop b))
    (eA : dens A → tdens T → σ → dens A) (eT : dens A → tdens T → σ → tdens T) (hiA : ∀ x y, eA x y (init x y) = x) (hiT : ∀ x y, eT x y (init x y) = y)
    (g : dens A → tdens T → σ → (σ → Option (Full A T A1 T1 [] [])) → (τ → Option (Full A T A1 T1 [] [])) → Option (Full A T A1 T1 [] []))
    (hnat : ∀ x y s kA kO, g x y s kA kO = (f x y s).bind (elimS kA kO))
    (heq : ∀ x y s, sev E m lp (cAt root (0 :: 0 :: p)) (0 :: 0 :: p) (mkSt s0 A T (eA x y s) (eT x y s)) (kLoop m s0 A T s1 A1 T1 [] [] [] id (fun x y => some (.inl (x, y))) (fun x y => some (.inr (.inl (x, y)))) (fun x y => some (.inr (.inr (x, y))))) =
      g x y s (fun s => some (.inl (eA x y s, eT x y s))) (fun z => some (.inr (.inl (e1 x y z))))) : LcOk P E m (mkL s0 A T s1 A1 T1 F f init e1) (cAt root p) := by
  have hb0 : cAt root (0 :: 0 :: p) = b := by simp [cAt, hcode]
  intro O0 ρ0 w0 hm (x : dens A) (y : tdens T) z hz a w hG
  obtain ⟨t, ht, hz⟩ := bindS hz
  cases hz
  rw [hcode]
  let f' : σ → Option (σ ⊕ (τ ⊕ Empty)) := fun s => (f x y s).map fun r => match r with
    | .inl s => .inl s
    | .inr t => .inr (.inl t)
  have hit : ∀ (n : Nat) (s : σ) (t : τ), iter (f x y) n s = some t → iter f' n s = some (.inl t) := by
    intro n
    induction n with
    | zero => intro s t h; simp [iter] at h
    | succ n ih =>
      intro s t h
      simp only [iter, Option.bind_eq_some_iff] at h ⊢
      obtain ⟨r, hr, h⟩ := h
      refine ⟨_, by show (f x y s).map _ = _; rw [hr]; rfl, ?_⟩
      cases r with
      | inl s' => exact ih s' t h
      | inr t' => simp only [Option.some.injEq] at h; subst h; rfl
  have hG' : G E O0 ρ0 w0 (mkSt s0 A T (eA x y (init x y)) (eT x y (init x y))) a w := by rw [hiA, hiT]; exact hG
  have := lc_loop (P := P) (E := E) (root := root) (b := b) (p := 0 :: 0 :: p) (id := id) (lp := lp) s0 A T s1 A1 T1 [] [] [] hc hct hmx hlp hb0 (by rw [← hb0]; exact ho) f' (eA x y) (eT x y) (e1 x y) (fun e : Empty => nomatch e) (fun s r hr => by
      have hr : (f x y s).map _ = some r := hr
      simp only [Option.map_eq_some_iff] at hr
      obtain ⟨r0, hr0, rfl⟩ := hr
      have h1 := heq x y s
      rw [hnat, hr0, hb0] at h1
      rw [h1]
      cases r0 <;> rfl) hm (hit F _ t ht) hG'
  refine c_mono this (fun a w h => ?_) (fun _ _ _ h => h) (fun a w h => ?_)
  · obtain ⟨t', e, h⟩ := h; cases e; exact ⟨_, _, rfl, h⟩
  · obtain ⟨t', e, h⟩ := h; cases t'

theorem mkJ_ok {τ : Type} {s0 : List Nat} {A : List Sh} {T : List TSh} {s1 : List Nat} {A1 : List Sh} {T1 : List TSh} {t : dens A → tdens T → Option τ} {e1 : dens A → tdens T → τ → dens A1 × tdens T1} {m : Nat} {lp : List (List Nat × Lc)} {root : Code} {p : List Nat}
    (hc : COk P E.c) (hct : CtsOk P E) (hmx : P.follows .mixedOrders = true) (hlp : AllLc P E m root lp) (ho : ordAll E (cAt root p) = true)
    (g : dens A → tdens T → (τ → Option (dens A1 × tdens T1)) → Option (dens A1 × tdens T1)) (hnat : ∀ x y k, g x y k = (t x y).bind k)
    (heq : ∀ x y, sev E m lp (cAt root p) p (mkSt s0 A T x y) (kJoin m s1 A1 T1 (fun x y => some (x, y))) = g x y (fun z => some (e1 x y z))) : LcOk P E m (mkJ s0 A T s1 A1 T1 t e1) (cAt root p) := by
  intro O0 ρ0 w0 hm (x : dens A) (y : tdens T) z hz a w hG
  obtain ⟨u, hu, hz⟩ := bindS hz
  cases hz
  have h1 := heq x y
  rw [hnat, hu] at h1
  refine sev_ok hc hct hmx hm hlp (cAt root p) p _ _ _ _ _ a w rfl ho h1 hG (fun e st' a' w' h2 h3 => ?_)
  cases e with
  | normal =>
    obtain ⟨x', y', h4, h5⟩ := uniS_ok hm h2 h3
    simp only [Option.some.injEq] at h4
    refine ⟨_, _, rfl, ?_⟩
    rw [← h4]; exact h5
  | exit j => cases h2
  | ret => cases h2
  | goto j => cases h2
  | panic ch => cases h2
  | outgrown => cases h2

/-- The contracts that a function's evaluator is given. -/
def ctOf : List (Nat × Ct) → Nat → List Ct
  | [], _ => []
  | (g, ct) :: r, f => match Nat.beq g f with
    | true => ct :: ctOf r f
    | false => ctOf r f

def AllCt (P : Program) (c : Cfg) (d : Bool) : List (Nat × Ct) → Prop
  | [] => True
  | (f, ct) :: r => (SoundK P c d f ct ∧ ∃ fn, P.funcs[f]? = some fn ∧ fn.body.isSome = true ∧ (fn.name == "runtime.NumGoroutine") = false) ∧ AllCt P c d r

theorem AllCt.ok {c : Cfg} {d : Bool} : ∀ {l : List (Nat × Ct)} {f : Nat} {ct : Ct}, AllCt P c d l → ct ∈ ctOf l f → SoundK P c d f ct ∧ ∃ fn, P.funcs[f]? = some fn ∧ fn.body.isSome = true ∧ (fn.name == "runtime.NumGoroutine") = false
  | [], f, ct, _, h => by simp [ctOf] at h
  | (g, c0) :: r, f, ct, h, hm => by
    simp only [ctOf] at hm
    split at hm
    · rename_i hg
      have := Nat.eq_of_beq_eq_true hg
      subst this
      rcases List.mem_cons.1 hm with hm | hm
      · subst hm; exact h.1
      · exact AllCt.ok h.2 hm
    · exact AllCt.ok h.2 hm

theorem cts_of {E : Ev} {l l' : List (Nat × Ct)} (he : E.ct = ctOf l) (he' : E.cd = ctOf l') (h : AllCt P E.c false l) (h' : AllCt P E.c true l') : CtsOk P E := ⟨fun f ct hm => by
  rw [he] at hm; exact AllCt.ok h hm, fun f ct hm => by
  rw [he'] at hm; exact AllCt.ok h' hm⟩

theorem mkC_okK (d : Bool) (hcd : d = true → ∀ f, E.cd f = []) {τ : Type} {m : Nat} {A : List Sh} {T : List TSh} {B : List Sh} {U : List TSh} {t : dens A → tdens T → Option τ} {e : dens A → tdens T → τ → dens B × tdens U} {f : FuncId} {fn : Func} {code : Code} {lp : List (List Nat × Lc)} (hf : P.funcs[f]? = some fn) (hb : fn.body = some code) (hn : fn.ntmps = E.n) (hl : Nat.ble A.length E.n = true) (hmT : Nat.ble m T.length = true) (hc : COk P E.c) (hct : CtsOk P E) (hmx : P.follows .mixedOrders = true)
    (hlp : AllLc P E m code lp) (ho : ordAll E code = true) (g : dens A → tdens T → (τ → Option (dens B × tdens U)) → Option (dens B × tdens U)) (hnat : ∀ x y k, g x y k = (t x y).bind k)
    (heq : ∀ x y, sev E m lp code [] (mkSt (rng A.length) A T x y) (kFn E m fn.results.toList B U fun p q => some (p, q)) = g x y (fun z => some (e x y z))) : SoundK P E.c d f (mkC m A T B U t e) := by
  refine fn_okK d (ct := mkC m A T B U t e) hf hb hn hl hmT hc hct hmx hlp ho hcd (fun (x : dens A) (y : tdens T) p q h => ?_)
  obtain ⟨z, h1, h2⟩ := bindS h
  have h3 := heq x y
  rw [hnat, h1] at h3
  rw [← h2]; exact h3

theorem mkC_ok {τ : Type} {m : Nat} {A : List Sh} {T : List TSh} {B : List Sh} {U : List TSh} {t : dens A → tdens T → Option τ} {e : dens A → tdens T → τ → dens B × tdens U} {f : FuncId} {fn : Func} {code : Code} {lp : List (List Nat × Lc)} (hf : P.funcs[f]? = some fn) (hb : fn.body = some code) (hn : fn.ntmps = E.n) (hl : Nat.ble A.length E.n = true) (hmT : Nat.ble m T.length = true) (hc : COk P E.c) (hct : CtsOk P E) (hmx : P.follows .mixedOrders = true)
    (hlp : AllLc P E m code lp) (ho : ordAll E code = true) (g : dens A → tdens T → (τ → Option (dens B × tdens U)) → Option (dens B × tdens U)) (hnat : ∀ x y k, g x y k = (t x y).bind k)
    (heq : ∀ x y, sev E m lp code [] (mkSt (rng A.length) A T x y) (kFn E m fn.results.toList B U fun p q => some (p, q)) = g x y (fun z => some (e x y z))) : Sound P E.c f (mkC m A T B U t e) :=
  mkC_okK false (fun h => by cases h) hf hb hn hl hmT hc hct hmx hlp ho g hnat heq

theorem cond_bind {α β : Type} (c : Bool) (x y : Option α) (f : α → Option β) : (bif c then x else y).bind f = bif c then x.bind f else y.bind f := by cases c <;> rfl
theorem elimS_l {σ τ β : Type} (a : σ → Option β) (b : τ → Option β) (x : σ) : elimS a b (.inl x) = a x := rfl
theorem elimS_r {σ τ β : Type} (a : σ → Option β) (b : τ → Option β) (x : τ) : elimS a b (.inr x) = b x := rfl
end
end Go.Tw
/- Zeros of types, and parts with a return. No program is in it. -/
namespace Go.Tw
set_option linter.unusedSimpArgs false
set_option linter.unusedVariables false

def Ty.zc : Ty → List Value
  | .i => [vI 0]
  | .u8 => [vU8 0]
  | .u32 => [vU32 0]
  | .u64 => [vU64 0]
  | .bo => [vB false]
  | .s => [vS []]
  | .un => []
  | .sl _ => [.slice none 0 0]
  | .pr a b => a.zc ++ b.zc
  | .ar n t => (List.replicate n t.zc).flatten

theorem TR_zero {O : Own} : ∀ t : Ty, TR O t t.zero t.zc := by
  intro t
  induction t with
  | pr a b iha ihb => exact ⟨_, _, rfl, iha, ihb⟩
  | sl t ih => exact ⟨_, [], rfl, rfl, .inl ⟨rfl, none, 0, rfl⟩⟩
  | ar n t ih =>
    show LR _ _ _
    simp only [Ty.zero, Ty.zc, Vector.toList_replicate]
    exact LR.replicate ih n
  | _ => rfl

/-- The zero of a type: of data; a nil; a struct. -/
inductive ZD where
  | t (ty : Ty)
  | v (x : Value)
  | un
  | pr (a b : ZD)

def ZD.iv : ZD → IV
  | .t ty => ofP ty ty.zero
  | .v x => .o (.v x)
  | .un => .un
  | .pr a b => .pr a.iv b.iv

def ZD.cs : ZD → List Value
  | .t ty => ty.zc
  | .v x => [x]
  | .un => []
  | .pr a b => a.cs ++ b.cs

def ZD.ok : ZD → Bool
  | .v x => x.oneCell'
  | .pr a b => a.ok && b.ok
  | _ => true

theorem ZD.R : ∀ (d : ZD), d.ok = true → ∀ (O : Own) (ρ : List Hd), Tw.R O ρ false d.iv d.cs
  | .t ty, _, O, ρ => ofP_R (TR_zero ty)
  | .v x, h, O, ρ => ⟨rfl, h⟩
  | .un, _, O, ρ => rfl
  | .pr a b, h, O, ρ => by
    simp only [ZD.ok, Bool.and_eq_true] at h
    exact ⟨_, _, rfl, ZD.R a h.1 O ρ, ZD.R b h.2 O ρ⟩

theorem zero_of {P : Program} {t : Nat} {d : ZD} {z : Value} (h : ∀ w, (zeroValue t).run P w = .ok z w) (hz : z.cells = d.cs.toArray) (hd : d.ok = true) : ∃ z cs, (∀ w, (zeroValue t).run P w = .ok z w) ∧ z.cells = cs.toArray ∧ ∀ O ρ, R O ρ false d.iv cs :=
  ⟨z, d.cs, h, hz, d.R hd⟩

theorem elem_of {P : Program} {t e b : Nat} {ty : Ty} {z : Value} (h : EOk P t e ty.size b z) (hb : b ≤ 128) (hz : z.cells = ty.zc.toArray) : ∃ bytes z zc, EOk P t e ty.size bytes z ∧ bytes ≤ 128 ∧ z.cells = zc.toArray ∧ ∀ O, TR O ty ty.zero zc :=
  ⟨b, z, ty.zc, h, hb, hz, fun O => TR_zero ty⟩

def placesB (Z : Nat → Option Nat) : List Field → List (Nat × Nat) → Bool
  | [], [] => true
  | f :: fs, (o, z) :: r => Nat.beq f.offset o && (match Z f.type with | some z' => Nat.beq z' z | none => false) && placesB Z fs r
  | _, _ => false

theorem placesB_ok {Z : Nat → Option Nat} : ∀ {fs : List Field} {pl : List (Nat × Nat)}, placesB Z fs pl = true → ∀ (i : Nat) (f : Field), fs[i]? = some f → ∃ z, pl[i]? = some (f.offset, z) ∧ Z f.type = some z
  | [], pl, _, i, f, h => by simp at h
  | g :: fs, [], h, i, f, _ => by simp [placesB] at h
  | g :: fs, (o, z) :: r, h, i, f, hf => by
    simp only [placesB, Bool.and_eq_true] at h
    obtain ⟨⟨h1, h2⟩, h3⟩ := h
    cases i with
    | zero =>
      simp at hf; subst hf
      split at h2
      · rename_i z' hz
        exact ⟨z, by simp [Nat.eq_of_beq_eq_true h1], by rw [hz, Nat.eq_of_beq_eq_true h2]⟩
      · cases h2
    | succ i =>
      obtain ⟨z', h4, h5⟩ := placesB_ok h3 i f (by simpa using hf)
      exact ⟨z', by simpa using h4, h5⟩

theorem places_of {P : Program} {Z : Nat → Option Nat} {fs : Array Field} (pl : Array (Nat × Nat)) (h : ∀ w, (fs.mapM (m := Sem) fun f => do pure (f.offset, ← sizeOf f.type)).run P w = .ok pl w) (hb : placesB Z fs.toList pl.toList = true) :
    ∃ pl : Array (Nat × Nat), (∀ w, (fs.mapM (m := Sem) fun f => do pure (f.offset, ← sizeOf f.type)).run P w = .ok pl w) ∧ ∀ (i : Nat) (f : Field), fs[i]? = some f → ∃ z, pl[i]? = some (f.offset, z) ∧ Z f.type = some z :=
  ⟨pl, h, fun i f hf => by
    obtain ⟨z, h1, h2⟩ := placesB_ok hb i f (by simpa using hf)
    exact ⟨z, by simpa using h1, h2⟩⟩

theorem elimS_bind {σ τ α β : Type} (a : σ → Option α) (b : τ → Option α) (z : σ ⊕ τ) (f : α → Option β) : (elimS a b z).bind f = elimS (fun x => (a x).bind f) (fun x => (b x).bind f) z := by cases z <;> rfl

/-- The contract of a part without a loop, out of which something may return. -/
def mkK (s0 : List Nat) (A : List Sh) (T : List TSh) (s1 : List Nat) (A1 : List Sh) (T1 : List TSh) (s2 : List Nat) (A2 : List Sh) (T2 : List TSh) {τ1 τ2 : Type} (t : dens A → tdens T → Option (τ1 ⊕ τ2)) (e1 : dens A → tdens T → τ1 → dens A1 × tdens T1) (e2 : dens A → tdens T → τ2 → dens A2 × tdens T2) : Lc where
  s0 := s0
  A := A
  T := T
  s1 := s1
  A1 := A1
  T1 := T1
  s2 := s2
  A2 := A2
  T2 := T2
  run := fun _ x y k1 k2 => (t x y).bind fun z => match z with
    | .inl z => k1 (e1 x y z).1 (e1 x y z).2
    | .inr z => k2 (e2 x y z).1 (e2 x y z).2
  nat := fun _ x y k1 k2 r h => by
    obtain ⟨z, h1, h2⟩ := bindS h
    cases z with
    | inl z => exact .inl ⟨_, _, by rw [h1]; rfl, h2⟩
    | inr z => exact .inr ⟨_, _, by rw [h1]; rfl, h2⟩

def kJoinR {β : Type} (m : Nat) (s1 : List Nat) (A1 : List Sh) (T1 : List TSh) (s2 : List Nat) (A2 : List Sh) (T2 : List TSh) (out : dens A1 → tdens T1 → Option β) (ret : dens A2 → tdens T2 → Option β) : Exit → St → Option β := fun e st => match e with
  | .normal => uniS m s1 A1 T1 st out
  | .ret => uniS m s2 A2 T2 st ret
  | _ => none

section
variable {P : Program} {E : Ev}
theorem mkK_ok {τ1 τ2 : Type} {s0 : List Nat} {A : List Sh} {T : List TSh} {s1 : List Nat} {A1 : List Sh} {T1 : List TSh} {s2 : List Nat} {A2 : List Sh} {T2 : List TSh} {t : dens A → tdens T → Option (τ1 ⊕ τ2)} {e1 : dens A → tdens T → τ1 → dens A1 × tdens T1} {e2 : dens A → tdens T → τ2 → dens A2 × tdens T2} {m : Nat} {lp : List (List Nat × Lc)} {root : Code} {p : List Nat}
    (hc : COk P E.c) (hct : CtsOk P E) (hmx : P.follows .mixedOrders = true) (hlp : AllLc P E m root lp) (ho : ordAll E (cAt root p) = true)
    (g : dens A → tdens T → (τ1 → Option ((dens A1 × tdens T1) ⊕ (dens A2 × tdens T2))) → (τ2 → Option ((dens A1 × tdens T1) ⊕ (dens A2 × tdens T2))) → Option ((dens A1 × tdens T1) ⊕ (dens A2 × tdens T2))) (hnat : ∀ x y kO kR, g x y kO kR = (t x y).bind (elimS kO kR))
    (heq : ∀ x y, sev E m lp (cAt root p) p (mkSt s0 A T x y) (kJoinR m s1 A1 T1 s2 A2 T2 (fun x y => some (.inl (x, y))) (fun x y => some (.inr (x, y)))) = g x y (fun z => some (.inl (e1 x y z))) (fun z => some (.inr (e2 x y z)))) : LcOk P E m (mkK s0 A T s1 A1 T1 s2 A2 T2 t e1 e2) (cAt root p) := by
  intro O0 ρ0 w0 hm (x : dens A) (y : tdens T) z hz a w hG
  obtain ⟨u, hu, hz⟩ := bindS hz
  have h1 := heq x y
  rw [hnat, hu] at h1
  cases u with
  | inl u =>
    cases hz
    refine sev_ok hc hct hmx hm hlp (cAt root p) p _ _ _ _ _ a w rfl ho h1 hG (fun e st' a' w' h2 h3 => ?_)
    cases e with
    | normal =>
      obtain ⟨x', y', h4, h5⟩ := uniS_ok hm h2 h3
      simp only [Option.some.injEq, Sum.inl.injEq] at h4
      refine ⟨_, _, rfl, ?_⟩
      rw [← h4]; exact h5
    | ret => obtain ⟨x', y', h4, h5⟩ := uniS_ok hm h2 h3; cases h4
    | exit j => cases h2
    | goto j => cases h2
    | panic ch => cases h2
    | outgrown => cases h2
  | inr u =>
    cases hz
    refine sev_ok hc hct hmx hm hlp (cAt root p) p _ _ _ _ _ a w rfl ho h1 hG (fun e st' a' w' h2 h3 => ?_)
    cases e with
    | normal => obtain ⟨x', y', h4, h5⟩ := uniS_ok hm h2 h3; cases h4
    | ret =>
      obtain ⟨x', y', h4, h5⟩ := uniS_ok hm h2 h3
      simp only [Option.some.injEq, Sum.inr.injEq] at h4
      refine ⟨_, _, rfl, ?_⟩
      rw [← h4]; exact h5
    | exit j => cases h2
    | goto j => cases h2
    | panic ch => cases h2
    | outgrown => cases h2
end
/-- A loop's contract, where it is left by a return alone. -/
def mkX (s0 : List Nat) (A : List Sh) (T : List TSh) (s2 : List Nat) (A2 : List Sh) (T2 : List TSh) {σ τ : Type} (F : Nat) (f : dens A → tdens T → σ → Option (σ ⊕ τ)) (init : dens A → tdens T → σ) (e2 : dens A → tdens T → τ → dens A2 × tdens T2) : Lc where
  s0 := s0
  A := A
  T := T
  s1 := []
  A1 := []
  T1 := []
  s2 := s2
  A2 := A2
  T2 := T2
  run := fun _ x y _ k2 => (iter (f x y) F (init x y)).bind fun z => k2 (e2 x y z).1 (e2 x y z).2
  nat := fun _ x y k1 k2 r h => by
    obtain ⟨z, h1, h2⟩ := bindS h
    exact .inr ⟨_, _, by rw [h1]; rfl, h2⟩

section
variable {P : Program} {E : Ev}
theorem mkX_ok {σ τ : Type} {s0 : List Nat} {A : List Sh} {T : List TSh} {s2 : List Nat} {A2 : List Sh} {T2 : List TSh} {F : Nat} {f : dens A → tdens T → σ → Option (σ ⊕ τ)} {init : dens A → tdens T → σ} {e2 : dens A → tdens T → τ → dens A2 × tdens T2} {m : Nat} {lp : List (List Nat × Lc)} {root b : Code} {p : List Nat} {id : Nat}
    (hc : COk P E.c) (hct : CtsOk P E) (hmx : P.follows .mixedOrders = true) (hlp : AllLc P E m root lp) (ho : ordAll E (cAt root (0 :: 0 :: p)) = true) (hcode : cAt root p = .block id (.loop b))
    (eA : dens A → tdens T → σ → dens A) (eT : dens A → tdens T → σ → tdens T) (hiA : ∀ x y, eA x y (init x y) = x) (hiT : ∀ x y, eT x y (init x y) = y)
    (g : dens A → tdens T → σ → (σ → Option (Full A T [] [] A2 T2)) → (τ → Option (Full A T [] [] A2 T2)) → Option (Full A T [] [] A2 T2))
    (hnat : ∀ x y s kA kR, g x y s kA kR = (f x y s).bind (elimS kA kR))
    (heq : ∀ x y s, sev E m lp (cAt root (0 :: 0 :: p)) (0 :: 0 :: p) (mkSt s0 A T (eA x y s) (eT x y s)) (kLoop m s0 A T [] [] [] s2 A2 T2 id (fun x y => some (.inl (x, y))) (fun x y => some (.inr (.inl (x, y)))) (fun x y => some (.inr (.inr (x, y))))) =
      g x y s (fun s => some (.inl (eA x y s, eT x y s))) (fun z => some (.inr (.inr (e2 x y z))))) : LcOk P E m (mkX s0 A T s2 A2 T2 F f init e2) (cAt root p) := by
  have hb0 : cAt root (0 :: 0 :: p) = b := by simp [cAt, hcode]
  intro O0 ρ0 w0 hm (x : dens A) (y : tdens T) z hz a w hG
  obtain ⟨t, ht, hz⟩ := bindS hz
  cases hz
  rw [hcode]
  let f' : σ → Option (σ ⊕ (Empty ⊕ τ)) := fun s => (f x y s).map fun r => match r with
    | .inl s => .inl s
    | .inr t => .inr (.inr t)
  have hit : ∀ (n : Nat) (s : σ) (t : τ), iter (f x y) n s = some t → iter f' n s = some (.inr t) := by
    intro n
    induction n with
    | zero => intro s t h; simp [iter] at h
    | succ n ih =>
      intro s t h
      simp only [iter, Option.bind_eq_some_iff] at h ⊢
      obtain ⟨r, hr, h⟩ := h
      refine ⟨_, by show (f x y s).map _ = _; rw [hr]; rfl, ?_⟩
      cases r with
      | inl s' => exact ih s' t h
      | inr t' => simp only [Option.some.injEq] at h; subst h; rfl
  have hG' : G E O0 ρ0 w0 (mkSt s0 A T (eA x y (init x y)) (eT x y (init x y))) a w := by rw [hiA, hiT]; exact hG
  have := lc_loop (P := P) (E := E) (root := root) (b := b) (p := 0 :: 0 :: p) (id := id) (lp := lp) s0 A T [] [] [] s2 A2 T2 hc hct hmx hlp hb0 (by rw [← hb0]; exact ho) f' (eA x y) (eT x y) (fun e : Empty => nomatch e) (e2 x y) (fun s r hr => by
      have hr : (f x y s).map _ = some r := hr
      simp only [Option.map_eq_some_iff] at hr
      obtain ⟨r0, hr0, rfl⟩ := hr
      have h1 := heq x y s
      rw [hnat, hr0, hb0] at h1
      rw [h1]
      cases r0 <;> rfl) hm (hit F _ t ht) hG'
  refine c_mono this (fun a w h => ?_) (fun _ _ _ h => h) (fun a w h => ?_)
  · obtain ⟨t', e, h⟩ := h; cases t'
  · obtain ⟨t', e, h⟩ := h; cases e; exact ⟨_, _, rfl, h⟩
end

theorem names_of {l : List Field} (h : (l.all fun f => f.name != "_") = true) : ∀ f ∈ l, f.name ≠ "_" := fun f hf => by
  simpa using List.all_eq_true.1 h f hf
end Go.Tw
