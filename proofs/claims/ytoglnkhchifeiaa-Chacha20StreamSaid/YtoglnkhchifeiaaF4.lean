/- kinkeep/kinkeeplaw07.Chacha20Inverts: its twin, and that the call does what the twin says. Printed by a program. -/
import Derived.Test.YtoglnkhchifeiaaF11
import Derived.Test.YtoglnkhchifeiaaF13
import Derived.Test.YtoglnkhchifeiaaF14
namespace Go.Proofs.Ytoglnkhchifeiaa
open Go.Tw
set_option linter.unusedSimpArgs false
set_option linter.unusedVariables false
def T4 (F : Nat) (p0 : UInt32) (p1 : UInt32) (p2 : UInt32) (p3 : UInt32) : Option (Bool) :=
  (bind4 (T11 F p0 p1 p2 p3) fun y1 y2 y3 y4 => (Option.bind (T14 F y2 (7 : Int)) fun y6 => (Option.bind (T14 F y4 (8 : Int)) fun y8 => (Option.bind (T14 F (y6 ^^^ y3) (12 : Int)) fun y10 => (Option.bind (T14 F (y8 ^^^ y1) (16 : Int)) fun y12 => (Option.bind (T13 F ) fun y14 => (Option.bind (bif y14 then some (((y1 - (y6 ^^^ y3)) - (y10 ^^^ (y3 - y4))) == p0) else some false) fun c16 => (Option.bind (bif c16 then some ((y10 ^^^ (y3 - y4)) == p1) else some false) fun c17 => (Option.bind (bif c17 then some (((y3 - y4) - (y8 ^^^ y1)) == p2) else some false) fun c18 => (Option.bind (bif c18 then some ((y12 ^^^ (y1 - (y6 ^^^ y3))) == p3) else some false) fun c19 => some c19))))))))))

set_option maxRecDepth 100000 in
set_option maxHeartbeats 4000000 in
theorem ok4 (F : Nat) (p0 : UInt32) (p1 : UInt32) (p2 : UInt32) (p3 : UInt32) (w0 : World)  {r0 : Bool} (ht : T4 F p0 p1 p2 p3 = some r0) : Calls Try.prog 4 #[(.o (.u32 p0) : SV).val, (.o (.u32 p1) : SV).val, (.o (.u32 p2) : SV).val, (.o (.u32 p3) : SV).val] w0 (Ret fun v w' => v = (S0.b r0).val ∧ HA w0 none1 none1 w' []) := by
  unfold T4 at ht
  refine enterW [.o (.u32 p0), .o (.u32 p1), .o (.u32 p2), .o (.u32 p3)] Try.func4 rfl Try.ntmps4 rfl rfl fun a w H h => ?_
  refine c_seq ?_
  refine c_plain ?_
  refine sq_p h 1 tok trivial rfl fun a h => ?_
  refine sq_nil ?_
  refine c_seq ?_
  refine c_plain ?_
  refine sq_p h 4 tok trivial rfl fun a h => ?_
  obtain ⟨y1, y2, y3, y4, e5, ht⟩ := bindS4 ht
  refine sq_call h rfl rfl Try.func11 rfl rfl rfl (ok11 F p0 p1 p2 p3 w  e5) ?_
  rintro _ w ⟨rfl, HN⟩
  have H := H.call HN; clear HN
  refine ⟨trivial, ?_⟩
  refine sq_fr (d := 18) (v := .t [.u32 y1, .u32 y2, .u32 y3, .u32 y4]) h rfl rfl rfl fun a h => ?_
  refine sq_p h 9 tok trivial rfl fun a h => ?_
  refine sq_nil ?_
  refine c_seq ?_
  refine c_plain ?_
  refine sq_p h 1 tok trivial rfl fun a h => ?_
  obtain ⟨y6, e7, ht⟩ := bindS ht
  refine sq_call h rfl rfl Try.func14 rfl rfl rfl (ok14 F y2 (7 : Int) w  e7) ?_
  rintro _ w ⟨rfl, HN⟩
  have H := H.call HN; clear HN
  refine ⟨trivial, ?_⟩
  refine sq_fr (d := 24) (v := .o (.u32 y6)) h rfl rfl rfl fun a h => ?_
  refine sq_p h 3 tok trivial rfl fun a h => ?_
  refine sq_nil ?_
  refine c_seq ?_
  refine c_plain ?_
  refine sq_p h 4 tok trivial rfl fun a h => ?_
  refine sq_nil ?_
  refine c_seq ?_
  refine c_plain ?_
  refine sq_p h 1 tok trivial rfl fun a h => ?_
  obtain ⟨y8, e9, ht⟩ := bindS ht
  refine sq_call h rfl rfl Try.func14 rfl rfl rfl (ok14 F y4 (8 : Int) w  e9) ?_
  rintro _ w ⟨rfl, HN⟩
  have H := H.call HN; clear HN
  refine ⟨trivial, ?_⟩
  refine sq_fr (d := 31) (v := .o (.u32 y8)) h rfl rfl rfl fun a h => ?_
  refine sq_p h 3 tok trivial rfl fun a h => ?_
  refine sq_nil ?_
  refine c_seq ?_
  refine c_plain ?_
  refine sq_p h 4 tok trivial rfl fun a h => ?_
  refine sq_nil ?_
  refine c_seq ?_
  refine c_plain ?_
  refine sq_p h 1 tok trivial rfl fun a h => ?_
  obtain ⟨y10, e11, ht⟩ := bindS ht
  refine sq_call h rfl rfl Try.func14 rfl rfl rfl (ok14 F (y6 ^^^ y3) (12 : Int) w  e11) ?_
  rintro _ w ⟨rfl, HN⟩
  have H := H.call HN; clear HN
  refine ⟨trivial, ?_⟩
  refine sq_fr (d := 38) (v := .o (.u32 y10)) h rfl rfl rfl fun a h => ?_
  refine sq_p h 3 tok trivial rfl fun a h => ?_
  refine sq_nil ?_
  refine c_seq ?_
  refine c_plain ?_
  refine sq_p h 4 tok trivial rfl fun a h => ?_
  refine sq_nil ?_
  refine c_seq ?_
  refine c_plain ?_
  refine sq_p h 1 tok trivial rfl fun a h => ?_
  obtain ⟨y12, e13, ht⟩ := bindS ht
  refine sq_call h rfl rfl Try.func14 rfl rfl rfl (ok14 F (y8 ^^^ y1) (16 : Int) w  e13) ?_
  rintro _ w ⟨rfl, HN⟩
  have H := H.call HN; clear HN
  refine ⟨trivial, ?_⟩
  refine sq_fr (d := 45) (v := .o (.u32 y12)) h rfl rfl rfl fun a h => ?_
  refine sq_p h 3 tok trivial rfl fun a h => ?_
  refine sq_nil ?_
  refine c_seq ?_
  refine c_plain ?_
  refine sq_p h 4 tok trivial rfl fun a h => ?_
  refine sq_nil ?_
  refine c_seq ?_
  refine c_plain ?_
  obtain ⟨y14, e15, ht⟩ := bindS ht
  refine sq_call h rfl rfl Try.func13 rfl rfl rfl (ok13 F  w  e15) ?_
  rintro _ w ⟨rfl, HN⟩
  have H := H.call HN; clear HN
  refine ⟨trivial, ?_⟩
  refine sq_fr (d := 51) (v := .o (.b y14)) h rfl rfl rfl fun a h => ?_
  refine sq_p h 1 tok trivial rfl fun a h => ?_
  obtain ⟨c16, ej, ht⟩ := bindS ht
  refine sq_cut (fun a w => Fr 72 a [(1, .o (.u32 p1)), (2, .o (.u32 p2)), (3, .o (.u32 p3)), (8, .o (.b false)), (10, .o (.u32 (y10 ^^^ (y3 - y4)))), (11, .o (.u32 ((y3 - y4) - (y8 ^^^ y1)))), (12, .o (.u32 (y12 ^^^ (y1 - (y6 ^^^ y3))))), (56, .o (.b c16))] ∧ HA w0 none1 none1 w []) 4 ?_ (fun a w hC hm => ?_)
  · clear ht
    rcases Bool.eq_false_or_eq_true y14 with hc | hc
    · have ht := condT hc ej; clear ej
      rw [hc] at h
      refine sq_p h 4 tok trivial rfl fun a h => ?_
      refine sq_nil ⟨trivial, ?_⟩
      cases ht
      exact ⟨h.keep [1, 2, 3, 8, 10, 11, 12, 56], H.take 0⟩
    · have ht := condF hc ej; clear ej
      rw [hc] at h
      refine sq_p h 4 tok trivial rfl fun a h => ?_
      refine sq_nil ⟨trivial, ?_⟩
      cases ht
      exact ⟨h.keep [1, 2, 3, 8, 10, 11, 12, 56], H.take 0⟩
  · obtain ⟨h, H⟩ := hm
    refine sq_p h 1 tok trivial rfl fun a h => ?_
    obtain ⟨c17, ej, ht⟩ := bindS ht
    refine sq_cut (fun a w => Fr 72 a [(2, .o (.u32 p2)), (3, .o (.u32 p3)), (8, .o (.b false)), (11, .o (.u32 ((y3 - y4) - (y8 ^^^ y1)))), (12, .o (.u32 (y12 ^^^ (y1 - (y6 ^^^ y3))))), (61, .o (.b c17))] ∧ HA w0 none1 none1 w []) 4 ?_ (fun a w hC hm => ?_)
    · clear ht
      rcases Bool.eq_false_or_eq_true c16 with hc | hc
      · have ht := condT hc ej; clear ej
        rw [hc] at h
        refine sq_p h 4 tok trivial rfl fun a h => ?_
        refine sq_nil ⟨trivial, ?_⟩
        cases ht
        exact ⟨h.keep [2, 3, 8, 11, 12, 61], H.take 0⟩
      · have ht := condF hc ej; clear ej
        rw [hc] at h
        refine sq_p h 4 tok trivial rfl fun a h => ?_
        refine sq_nil ⟨trivial, ?_⟩
        cases ht
        exact ⟨h.keep [2, 3, 8, 11, 12, 61], H.take 0⟩
    · obtain ⟨h, H⟩ := hm
      refine sq_p h 1 tok trivial rfl fun a h => ?_
      obtain ⟨c18, ej, ht⟩ := bindS ht
      refine sq_cut (fun a w => Fr 72 a [(3, .o (.u32 p3)), (8, .o (.b false)), (12, .o (.u32 (y12 ^^^ (y1 - (y6 ^^^ y3))))), (66, .o (.b c18))] ∧ HA w0 none1 none1 w []) 4 ?_ (fun a w hC hm => ?_)
      · clear ht
        rcases Bool.eq_false_or_eq_true c17 with hc | hc
        · have ht := condT hc ej; clear ej
          rw [hc] at h
          refine sq_p h 4 tok trivial rfl fun a h => ?_
          refine sq_nil ⟨trivial, ?_⟩
          cases ht
          exact ⟨h.keep [3, 8, 12, 66], H.take 0⟩
        · have ht := condF hc ej; clear ej
          rw [hc] at h
          refine sq_p h 4 tok trivial rfl fun a h => ?_
          refine sq_nil ⟨trivial, ?_⟩
          cases ht
          exact ⟨h.keep [3, 8, 12, 66], H.take 0⟩
      · obtain ⟨h, H⟩ := hm
        refine sq_p h 1 tok trivial rfl fun a h => ?_
        obtain ⟨c19, ej, ht⟩ := bindS ht
        refine sq_cut (fun a w => Fr 72 a [(8, .o (.b false)), (71, .o (.b c19))] ∧ HA w0 none1 none1 w []) 4 ?_ (fun a w hC hm => ?_)
        · clear ht
          rcases Bool.eq_false_or_eq_true c18 with hc | hc
          · have ht := condT hc ej; clear ej
            rw [hc] at h
            refine sq_p h 4 tok trivial rfl fun a h => ?_
            refine sq_nil ⟨trivial, ?_⟩
            cases ht
            exact ⟨h.keep [8, 71], H.take 0⟩
          · have ht := condF hc ej; clear ej
            rw [hc] at h
            refine sq_p h 4 tok trivial rfl fun a h => ?_
            refine sq_nil ⟨trivial, ?_⟩
            cases ht
            exact ⟨h.keep [8, 71], H.take 0⟩
        · obtain ⟨h, H⟩ := hm
          refine sq_p h 1 tok trivial rfl fun a h => ?_
          refine sq_nil ?_
          refine c_ret ?_
          cases ht
          exact fin_one h Try.results4 rfl ⟨rfl, H.pick []⟩
end Go.Proofs.Ytoglnkhchifeiaa
