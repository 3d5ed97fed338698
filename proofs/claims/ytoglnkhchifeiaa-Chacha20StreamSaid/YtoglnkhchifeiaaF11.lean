/- kinkeep/chacha20.Quarter: its twin, and that the call does what the twin says. Printed by a program. -/
import Derived.Test.YtoglnkhchifeiaaF21
namespace Go.Proofs.Ytoglnkhchifeiaa
open Go.Tw
set_option linter.unusedSimpArgs false
set_option linter.unusedVariables false
def T11 (F : Nat) (p0 : UInt32) (p1 : UInt32) (p2 : UInt32) (p3 : UInt32) : Option (UInt32 × UInt32 × UInt32 × UInt32) :=
  (Option.bind (T21 F (p3 ^^^ (p0 + p1)) (16 : Int)) fun y1 => (Option.bind (T21 F (p1 ^^^ (p2 + y1)) (12 : Int)) fun y3 => (Option.bind (T21 F (y1 ^^^ ((p0 + p1) + y3)) (8 : Int)) fun y5 => (Option.bind (T21 F (y3 ^^^ ((p2 + y1) + y5)) (7 : Int)) fun y7 => some (((p0 + p1) + y3), y7, ((p2 + y1) + y5), y5)))))

set_option maxRecDepth 100000 in
set_option maxHeartbeats 4000000 in
theorem ok11 (F : Nat) (p0 : UInt32) (p1 : UInt32) (p2 : UInt32) (p3 : UInt32) (w0 : World)  {r0 : UInt32} {r1 : UInt32} {r2 : UInt32} {r3 : UInt32} (ht : T11 F p0 p1 p2 p3 = some (r0, r1, r2, r3)) : Calls Try.prog 11 #[(.o (.u32 p0) : SV).val, (.o (.u32 p1) : SV).val, (.o (.u32 p2) : SV).val, (.o (.u32 p3) : SV).val] w0 (Ret fun v w' => v = .tuple #[(S0.u32 r0).val, (S0.u32 r1).val, (S0.u32 r2).val, (S0.u32 r3).val] ∧ HA w0 none1 none1 w' []) := by
  unfold T11 at ht
  refine enterW [.o (.u32 p0), .o (.u32 p1), .o (.u32 p2), .o (.u32 p3)] Try.func11 rfl Try.ntmps11 rfl rfl fun a w H h => ?_
  refine c_seq ?_
  refine c_plain ?_
  refine sq_p h 4 tok trivial rfl fun a h => ?_
  refine sq_nil ?_
  refine c_seq ?_
  refine c_plain ?_
  refine sq_p h 4 tok trivial rfl fun a h => ?_
  refine sq_nil ?_
  refine c_seq ?_
  refine c_plain ?_
  refine sq_p h 3 tok trivial rfl fun a h => ?_
  obtain ⟨y1, e2, ht⟩ := bindS ht
  refine sq_call h rfl rfl Try.func21 rfl rfl rfl (ok21 F (p3 ^^^ (p0 + p1)) (16 : Int) w  e2) ?_
  rintro _ w ⟨rfl, HN⟩
  have H := H.call HN; clear HN
  refine ⟨trivial, ?_⟩
  refine sq_fr (d := 18) (v := .o (.u32 y1)) h rfl rfl rfl fun a h => ?_
  refine sq_p h 1 tok trivial rfl fun a h => ?_
  refine sq_nil ?_
  refine c_seq ?_
  refine c_plain ?_
  refine sq_p h 4 tok trivial rfl fun a h => ?_
  refine sq_nil ?_
  refine c_seq ?_
  refine c_plain ?_
  refine sq_p h 3 tok trivial rfl fun a h => ?_
  obtain ⟨y3, e4, ht⟩ := bindS ht
  refine sq_call h rfl rfl Try.func21 rfl rfl rfl (ok21 F (p1 ^^^ (p2 + y1)) (12 : Int) w  e4) ?_
  rintro _ w ⟨rfl, HN⟩
  have H := H.call HN; clear HN
  refine ⟨trivial, ?_⟩
  refine sq_fr (d := 25) (v := .o (.u32 y3)) h rfl rfl rfl fun a h => ?_
  refine sq_p h 1 tok trivial rfl fun a h => ?_
  refine sq_nil ?_
  refine c_seq ?_
  refine c_plain ?_
  refine sq_p h 4 tok trivial rfl fun a h => ?_
  refine sq_nil ?_
  refine c_seq ?_
  refine c_plain ?_
  refine sq_p h 3 tok trivial rfl fun a h => ?_
  obtain ⟨y5, e6, ht⟩ := bindS ht
  refine sq_call h rfl rfl Try.func21 rfl rfl rfl (ok21 F (y1 ^^^ ((p0 + p1) + y3)) (8 : Int) w  e6) ?_
  rintro _ w ⟨rfl, HN⟩
  have H := H.call HN; clear HN
  refine ⟨trivial, ?_⟩
  refine sq_fr (d := 32) (v := .o (.u32 y5)) h rfl rfl rfl fun a h => ?_
  refine sq_p h 1 tok trivial rfl fun a h => ?_
  refine sq_nil ?_
  refine c_seq ?_
  refine c_plain ?_
  refine sq_p h 4 tok trivial rfl fun a h => ?_
  refine sq_nil ?_
  refine c_seq ?_
  refine c_plain ?_
  refine sq_p h 3 tok trivial rfl fun a h => ?_
  obtain ⟨y7, e8, ht⟩ := bindS ht
  refine sq_call h rfl rfl Try.func21 rfl rfl rfl (ok21 F (y3 ^^^ ((p2 + y1) + y5)) (7 : Int) w  e8) ?_
  rintro _ w ⟨rfl, HN⟩
  have H := H.call HN; clear HN
  refine ⟨trivial, ?_⟩
  refine sq_fr (d := 39) (v := .o (.u32 y7)) h rfl rfl rfl fun a h => ?_
  refine sq_p h 1 tok trivial rfl fun a h => ?_
  refine sq_nil ?_
  refine c_seq ?_
  refine c_plain ?_
  refine sq_p h 8 tok trivial rfl fun a h => ?_
  refine sq_nil ?_
  refine c_ret ?_
  cases ht
  exact fin_four h Try.results11 rfl rfl rfl rfl ⟨rfl, H.pick []⟩
end Go.Proofs.Ytoglnkhchifeiaa
