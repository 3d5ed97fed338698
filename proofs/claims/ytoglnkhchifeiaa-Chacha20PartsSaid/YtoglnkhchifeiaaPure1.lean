/- Plain laws on the twins: the quarter round, the examples. -/
import Derived.Test.YtoglnkhchifeiaaF3
import Derived.Test.YtoglnkhchifeiaaF4
namespace Go.Proofs.Ytoglnkhchifeiaa
open Go.Tw

theorem awake_ok : T13 1000 = some true := by kernel_rfl

theorem quarter_eq (F : Nat) (a b c d : UInt32) : T11 F a b c d = T12 F a b c d := by kernel_rfl

theorem quarter_some (F : Nat) (a b c d : UInt32) : ∃ x y z w, T11 F a b c d = some (x, y, z, w) := ⟨_, _, _, _, rfl⟩

theorem law3 (a b c d : UInt32) : T3 1000 a b c d = some true := by
  obtain ⟨x, y, z, w, h⟩ := quarter_some 1000 a b c d
  have h2 := quarter_eq 1000 a b c d
  rw [h] at h2
  unfold T3
  rw [h, ← h2, awake_ok]
  simp [bind4]
end Go.Proofs.Ytoglnkhchifeiaa
