/- The tables of the seat's types, for the printed walks. -/
import Derived.Test.YtoglnkhchifeiaaCore11
import Derived.Test.YtoglnkhchifeiaaProg
namespace Go.Proofs.Ytoglnkhchifeiaa
open Go.Tw
def ty : Nat → Option TypeDesc
  | 2 => some (.int .i64)
  | 3 => some (.int .i64)
  | 4 => some .bool
  | 5 => some (.int .u8)
  | 6 => some (.int .u8)
  | 9 => some .string
  | 10 => some .string
  | 11 => some .string
  | 12 => some (.int .u64)
  | 21 => some (.int .i32)
  | 22 => some (.int .u32)
  | 28 => some (.slice 5)
  | 29 => some (.int .i64)
  | 39 => some (.array 16 22)
  | 41 => some (.array 4 3)
  | 42 => some (.array 8 41)
  | 43 => some (.int .u64)
  | 47 => some (.array 0 16)
  | 51 => some (.int .u8)
  | 52 => some (.int .u8)
  | 55 => some (.int .i32)
  | 56 => some (.int .i32)
  | _ => none
def tz : Nat → Option Nat
  | 2 => some 1
  | 3 => some 1
  | 4 => some 1
  | 5 => some 1
  | 6 => some 1
  | 9 => some 1
  | 10 => some 1
  | 11 => some 1
  | 12 => some 1
  | 21 => some 1
  | 22 => some 1
  | 28 => some 1
  | 29 => some 1
  | 39 => some 16
  | 41 => some 4
  | 42 => some 32
  | 43 => some 1
  | 51 => some 1
  | 52 => some 1
  | 55 => some 1
  | 56 => some 1
  | _ => none
theorem tok : TOk Try.prog ty tz := ⟨fun t d h => by
  unfold ty at h
  split at h <;> first | (cases h; done) | skip
  · cases h; exact Try.underlying2
  · cases h; exact Try.underlying3
  · cases h; exact Try.underlying4
  · cases h; exact Try.underlying5
  · cases h; exact Try.underlying6
  · cases h; exact Try.underlying9
  · cases h; exact Try.underlying10
  · cases h; exact Try.underlying11
  · cases h; exact Try.underlying12
  · cases h; exact Try.underlying21
  · cases h; exact Try.underlying22
  · cases h; exact Try.underlying28
  · cases h; exact Try.underlying29
  · cases h; exact Try.underlying39
  · cases h; exact Try.underlying41
  · cases h; exact Try.underlying42
  · cases h; exact Try.underlying43
  · cases h; exact Try.underlying47
  · cases h; exact Try.underlying51
  · cases h; exact Try.underlying52
  · cases h; exact Try.underlying55
  · cases h; exact Try.underlying56
  , fun t n h => by
  unfold tz at h
  split at h <;> first | (cases h; done) | skip
  · cases h; exact fun w => by kernel_rfl
  · cases h; exact fun w => by kernel_rfl
  · cases h; exact fun w => by kernel_rfl
  · cases h; exact fun w => by kernel_rfl
  · cases h; exact fun w => by kernel_rfl
  · cases h; exact fun w => by kernel_rfl
  · cases h; exact fun w => by kernel_rfl
  · cases h; exact fun w => by kernel_rfl
  · cases h; exact fun w => by kernel_rfl
  · cases h; exact fun w => by kernel_rfl
  · cases h; exact fun w => by kernel_rfl
  · cases h; exact fun w => by kernel_rfl
  · cases h; exact fun w => by kernel_rfl
  · cases h; exact fun w => by kernel_rfl
  · cases h; exact fun w => by kernel_rfl
  · cases h; exact fun w => by kernel_rfl
  · cases h; exact fun w => by kernel_rfl
  · cases h; exact fun w => by kernel_rfl
  · cases h; exact fun w => by kernel_rfl
  · cases h; exact fun w => by kernel_rfl
  · cases h; exact fun w => by kernel_rfl
⟩
def tv : Nat → Option Value
  | 2 => some (.int .i64 0)
  | 3 => some (.int .i64 0)
  | 4 => some (.bool false)
  | 5 => some (.int .u8 0)
  | 6 => some (.int .u8 0)
  | 9 => some (.string ⟨#[]⟩)
  | 10 => some (.string ⟨#[]⟩)
  | 11 => some (.string ⟨#[]⟩)
  | 12 => some (.int .u64 0)
  | 22 => some (.int .u32 0)
  | 29 => some (.int .i64 0)
  | 39 => some (.agg (List.replicate 16 (.int .u32 0)).toArray)
  | 41 => some (.agg (List.replicate 4 (.int .i64 0)).toArray)
  | 42 => some (.agg (List.replicate 32 (.int .i64 0)).toArray)
  | 43 => some (.int .u64 0)
  | 51 => some (.int .u8 0)
  | 52 => some (.int .u8 0)
  | _ => none
theorem zok : ZOk Try.prog tv := fun t v h => by
  unfold tv at h
  split at h <;> first | (cases h; done) | skip
  · cases h; exact fun w => by kernel_rfl
  · cases h; exact fun w => by kernel_rfl
  · cases h; exact fun w => by kernel_rfl
  · cases h; exact fun w => by kernel_rfl
  · cases h; exact fun w => by kernel_rfl
  · cases h; exact fun w => by kernel_rfl
  · cases h; exact fun w => by kernel_rfl
  · cases h; exact fun w => by kernel_rfl
  · cases h; exact fun w => by kernel_rfl
  · cases h; exact fun w => by kernel_rfl
  · cases h; exact fun w => by kernel_rfl
  · cases h; exact fun w => by kernel_rfl
  · cases h; exact fun w => by kernel_rfl
  · cases h; exact fun w => by kernel_rfl
  · cases h; exact fun w => by kernel_rfl
  · cases h; exact fun w => by kernel_rfl
  · cases h; exact fun w => by kernel_rfl
theorem Try.mixed : Try.prog.follows .mixedOrders = true := by kernel_rfl
theorem eok28 : EOk Try.prog 28 5 1 1 (.int .u8 0) := eok_of Try.underlying28 (by kernel_rfl) rfl (by decide)
end Go.Proofs.Ytoglnkhchifeiaa
