/- Plain laws on the twins: a quarter round can be undone. -/
import Derived.Test.YtoglnkhchifeiaaPure1
namespace Go.Proofs.Ytoglnkhchifeiaa
open Go.Tw

theorem rot_inv (x : UInt32) (k : Nat) (h0 : 0 < k) (h1 : k < 32) : shr32 (shl32 x k ||| shr32 x (32 - k)) k ||| shl32 (shl32 x k ||| shr32 x (32 - k)) (32 - k) = x := by
  apply UInt32.toBitVec_inj.1
  show ((x.toBitVec <<< k ||| x.toBitVec >>> (32 - k)) >>> k ||| (x.toBitVec <<< k ||| x.toBitVec >>> (32 - k)) <<< (32 - k)) = x.toBitVec
  generalize x.toBitVec = b
  apply BitVec.eq_of_getLsbD_eq
  intro i hi
  simp only [BitVec.getLsbD_or, BitVec.getLsbD_ushiftRight, BitVec.getLsbD_shiftLeft]
  by_cases h : i < 32 - k
  · have e1 : k + i < 32 := by omega
    have e2 : ¬ (k + i < k) := by omega
    have e3 : k + i - k = i := by omega
    have e4 : b.getLsbD (32 - k + (k + i)) = false := BitVec.getLsbD_of_ge _ _ (by omega)
    simp [h, e1, e3, e4]
  · have e1 : ¬ (k + i < 32) := by omega
    have e2 : i - (32 - k) < k := by omega
    have e3 : 32 - k + (i - (32 - k)) = i := by omega
    have e4 : b.getLsbD (32 - k + (k + i)) = false := BitVec.getLsbD_of_ge _ _ (by omega)
    simp [h, e1, e2, e3, e4, hi]

def rl (x : UInt32) (k : Nat) : UInt32 := shl32 x k ||| shr32 x (32 - k)
theorem t21_16 (F : Nat) (x : UInt32) : T21 F x 16 = some (rl x 16) := rfl
theorem t21_12 (F : Nat) (x : UInt32) : T21 F x 12 = some (rl x 12) := rfl
theorem t21_8 (F : Nat) (x : UInt32) : T21 F x 8 = some (rl x 8) := rfl
theorem t21_7 (F : Nat) (x : UInt32) : T21 F x 7 = some (rl x 7) := rfl
theorem t14_16 (F : Nat) (x : UInt32) : T14 F (rl x 16) 16 = some x := congrArg some (rot_inv x 16 (by decide) (by decide))
theorem t14_12 (F : Nat) (x : UInt32) : T14 F (rl x 12) 12 = some x := congrArg some (rot_inv x 12 (by decide) (by decide))
theorem t14_8 (F : Nat) (x : UInt32) : T14 F (rl x 8) 8 = some x := congrArg some (rot_inv x 8 (by decide) (by decide))
theorem t14_7 (F : Nat) (x : UInt32) : T14 F (rl x 7) 7 = some x := congrArg some (rot_inv x 7 (by decide) (by decide))
theorem xx (x y : UInt32) : (x ^^^ y) ^^^ y = x := by rw [UInt32.xor_assoc, UInt32.xor_self, UInt32.xor_zero]

theorem law4 (a b c d : UInt32) : T4 1000 a b c d = some true := by
  unfold T4 T11
  simp only [t21_16, t21_12, t21_8, t21_7, Option.bind_some, bind4, t14_7, t14_8, xx, UInt32.add_sub_cancel, t14_12, t14_16, awake_ok]
  simp
end Go.Proofs.Ytoglnkhchifeiaa
