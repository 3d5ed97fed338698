/- Operations that touch no memory, evaluated on typed scalars, and that the evaluation is sound. No program is in it. -/
import Derived.Test.YtoglnkhchifeiaaCore1
import Derived.Laws.Sem
import Derived.Laws.Strings
namespace Go.Tw
set_option linter.unusedSimpArgs false
set_option linter.unusedVariables false

def w64 (n : Int) : Int := IntKind.i64.wrap n

def shl8 (x : UInt8) (n : Nat) : UInt8 := ⟨x.toBitVec <<< n⟩
def shr8 (x : UInt8) (n : Nat) : UInt8 := ⟨x.toBitVec >>> n⟩
def shl32 (x : UInt32) (n : Nat) : UInt32 := ⟨x.toBitVec <<< n⟩
def shr32 (x : UInt32) (n : Nat) : UInt32 := ⟨x.toBitVec >>> n⟩
def shl64 (x : UInt64) (n : Nat) : UInt64 := ⟨x.toBitVec <<< n⟩
def shr64 (x : UInt64) (n : Nat) : UInt64 := ⟨x.toBitVec >>> n⟩

def lift : Value → Option SV
  | .bool b => some (.o (.b b))
  | .int .i64 n => some (.o (.i n))
  | .int .u8 (.ofNat k) => bif Nat.blt k 256 then some (.o (.u8 (UInt8.ofNat k))) else none
  | .int .u32 (.ofNat k) => bif Nat.blt k 4294967296 then some (.o (.u32 (UInt32.ofNat k))) else none
  | .int .u64 (.ofNat k) => bif Nat.blt k 18446744073709551616 then some (.o (.u64 (UInt64.ofNat k))) else none
  | .string s => some (.o (.s s.data.toList))
  | .tuple _ => none
  | v => some (.o (.v v))

theorem lift_val {v : Value} {x : SV} (h : lift v = some x) : x.val = v := by
  unfold lift at h
  split at h
  · simp at h; subst h; rfl
  · simp at h; subst h; rfl
  · rename_i k
    cases hb : Nat.blt k 256 with
    | true =>
      simp only [hb, cond_true, Option.some.injEq] at h
      have : k < 256 := by simpa [Nat.blt_eq] using hb
      subst h
      simp [SV.val, S0.val, Nat.mod_eq_of_lt this]
    | false => simp [hb] at h
  · rename_i k
    cases hb : Nat.blt k 4294967296 with
    | true =>
      simp only [hb, cond_true, Option.some.injEq] at h
      have : k < 4294967296 := by simpa [Nat.blt_eq] using hb
      subst h
      simp [SV.val, S0.val, Nat.mod_eq_of_lt this]
    | false => simp [hb] at h
  · rename_i k
    cases hb : Nat.blt k 18446744073709551616 with
    | true =>
      simp only [hb, cond_true, Option.some.injEq] at h
      have : k < 18446744073709551616 := by simpa [Nat.blt_eq] using hb
      subst h
      simp [SV.val, S0.val, Nat.mod_eq_of_lt this]
    | false => simp [hb] at h
  · simp at h; subst h; simp [SV.val, S0.val]
  · simp at h
  · simp at h; subst h; rfl

def opd (l : Env) : Operand → Option SV
  | .tmp t => get? l t
  | .const v => lift v
  | .global g => some (.o (.v (.pointer (some ⟨g, 0, none⟩))))
  | .func f => some (.o (.v (.func (.func f) #[] #[])))

theorem opd_val {n : Nat} {a : Act} {l : Env} (h : Fr n a l) {x : Operand} {v : SV} (e : opd l x = some v) : a.eval x = v.val := by
  cases x with
  | tmp t => exact h.eval e
  | const c => exact (lift_val e).symm
  | global g => simp [opd] at e; subst e; rfl
  | func f => simp [opd] at e; subst e; rfl

/- binary operations -/
def bopI (op : BinOp) (x y : Int) : Option S0 :=
  match op with
  | .add => some (.i (w64 (x + y)))
  | .sub => some (.i (w64 (x - y)))
  | .mul => some (.i (w64 (x * y)))
  | .quo => if y = 0 then none else some (.i (w64 (x.tdiv y)))
  | .rem => if y = 0 then none else some (.i (x.tmod y))
  | .eql => some (.b (x == y))
  | .neq => some (.b (x != y))
  | .lss => some (.b (decide (x < y)))
  | .leq => some (.b (decide (x ≤ y)))
  | .gtr => some (.b (decide (y < x)))
  | .geq => some (.b (decide (y ≤ x)))
  | _ => none

def bop8 (op : BinOp) (x y : UInt8) : Option S0 :=
  match op with
  | .add => some (.u8 (x + y))
  | .sub => some (.u8 (x - y))
  | .mul => some (.u8 (x * y))
  | .quo => if y = 0 then none else some (.u8 (x / y))
  | .rem => if y = 0 then none else some (.u8 (x % y))
  | .and => some (.u8 (x &&& y))
  | .or => some (.u8 (x ||| y))
  | .xor => some (.u8 (x ^^^ y))
  | .eql => some (.b (x == y))
  | .neq => some (.b (x != y))
  | .lss => some (.b (decide (x < y)))
  | .leq => some (.b (decide (x ≤ y)))
  | .gtr => some (.b (decide (y < x)))
  | .geq => some (.b (decide (y ≤ x)))
  | _ => none

def bop32 (op : BinOp) (x y : UInt32) : Option S0 :=
  match op with
  | .add => some (.u32 (x + y))
  | .sub => some (.u32 (x - y))
  | .mul => some (.u32 (x * y))
  | .quo => if y = 0 then none else some (.u32 (x / y))
  | .rem => if y = 0 then none else some (.u32 (x % y))
  | .and => some (.u32 (x &&& y))
  | .or => some (.u32 (x ||| y))
  | .xor => some (.u32 (x ^^^ y))
  | .eql => some (.b (x == y))
  | .neq => some (.b (x != y))
  | .lss => some (.b (decide (x < y)))
  | .leq => some (.b (decide (x ≤ y)))
  | .gtr => some (.b (decide (y < x)))
  | .geq => some (.b (decide (y ≤ x)))
  | _ => none

def bop64 (op : BinOp) (x y : UInt64) : Option S0 :=
  match op with
  | .add => some (.u64 (x + y))
  | .sub => some (.u64 (x - y))
  | .mul => some (.u64 (x * y))
  | .quo => if y = 0 then none else some (.u64 (x / y))
  | .rem => if y = 0 then none else some (.u64 (x % y))
  | .and => some (.u64 (x &&& y))
  | .or => some (.u64 (x ||| y))
  | .xor => some (.u64 (x ^^^ y))
  | .eql => some (.b (x == y))
  | .neq => some (.b (x != y))
  | .lss => some (.b (decide (x < y)))
  | .leq => some (.b (decide (x ≤ y)))
  | .gtr => some (.b (decide (y < x)))
  | .geq => some (.b (decide (y ≤ x)))
  | _ => none

def bopS (op : BinOp) (x y : List UInt8) : Option S0 :=
  match op with
  | .eql => some (.b (x == y))
  | .neq => some (.b (x != y))
  | _ => none

def bopB (op : BinOp) (x y : Bool) : Option S0 :=
  match op with
  | .eql => some (.b (x == y))
  | .neq => some (.b (x != y))
  | _ => none

/-- A shift's count. -/
def cnt : S0 → Option Nat
  | .i (.ofNat n) => some n
  | .u8 x => some x.toNat
  | .u32 x => some x.toNat
  | .u64 x => some x.toNat
  | _ => none

def sop (op : BinOp) (x : S0) (n : Nat) : Option S0 :=
  match op, x with
  | .shl, .i x => some (.i (w64 (x * 2 ^ min n 64)))
  | .shr, .i x => some (.i (x.fdiv (2 ^ min n 64)))
  | .shl, .u8 x => some (.u8 (shl8 x n))
  | .shr, .u8 x => some (.u8 (shr8 x n))
  | .shl, .u32 x => some (.u32 (shl32 x n))
  | .shr, .u32 x => some (.u32 (shr32 x n))
  | .shl, .u64 x => some (.u64 (shl64 x n))
  | .shr, .u64 x => some (.u64 (shr64 x n))
  | _, _ => none

def isShift : BinOp → Bool
  | .shl | .shr => true
  | _ => false

def bop (op : BinOp) (x y : S0) : Option S0 :=
  match isShift op with
  | true => match cnt y with
    | some n => sop op x n
    | none => none
  | false => match x, y with
    | .i x, .i y => bopI op x y
    | .u8 x, .u8 y => bop8 op x y
    | .u32 x, .u32 y => bop32 op x y
    | .u64 x, .u64 y => bop64 op x y
    | .s x, .s y => bopS op x y
    | _, _ => none

def uop (op : UnOp) (x : S0) : Option S0 :=
  match op, x with
  | .not, .b x => some (.b (!x))
  | .neg, .i x => some (.i (w64 (0 - x)))
  | .xor, .u8 x => some (.u8 (~~~x))
  | .xor, .u32 x => some (.u32 (~~~x))
  | .xor, .u64 x => some (.u64 (~~~x))
  | _, _ => none

def conv (k : IntKind) (x : S0) : Option S0 :=
  match k, x with
  | .i64, .i n => some (.i (w64 n))
  | .u8, .i n => some (.u8 (UInt8.ofInt n))
  | .u32, .i n => some (.u32 (UInt32.ofInt n))
  | .u64, .i n => some (.u64 (UInt64.ofInt n))
  | .i64, .u8 x => some (.i x.toNat)
  | .u8, .u8 x => some (.u8 x)
  | .u32, .u8 x => some (.u32 x.toUInt32)
  | .u64, .u8 x => some (.u64 x.toUInt64)
  | .i64, .u32 x => some (.i x.toNat)
  | .u8, .u32 x => some (.u8 x.toUInt8)
  | .u32, .u32 x => some (.u32 x)
  | .u64, .u32 x => some (.u64 x.toUInt64)
  | .i64, .u64 x => some (.i (w64 x.toNat))
  | .u8, .u64 x => some (.u8 x.toUInt8)
  | .u32, .u64 x => some (.u32 x.toUInt32)
  | .u64, .u64 x => some (.u64 x)
  | _, _ => none

/- soundness -/
theorem wrap_u8 (n : Int) : IntKind.u8.wrap n = n % 256 := by simp [IntKind.wrap, IntKind.bits, IntKind.signed]
theorem wrap_u32 (n : Int) : IntKind.u32.wrap n = n % 4294967296 := by simp [IntKind.wrap, IntKind.bits, IntKind.signed]
theorem wrap_u64 (n : Int) : IntKind.u64.wrap n = n % 18446744073709551616 := by simp [IntKind.wrap, IntKind.bits, IntKind.signed]
theorem w64_eq (n : Int) : w64 n = if n % 18446744073709551616 ≥ 9223372036854775808 then n % 18446744073709551616 - 18446744073709551616 else n % 18446744073709551616 := by
  simp [w64, IntKind.wrap, IntKind.bits, IntKind.signed]
theorem w64_in {n : Int} (h1 : -9223372036854775808 ≤ n) (h2 : n < 9223372036854775808) : w64 n = n := by
  rw [w64_eq]; split <;> omega
theorem u8_lt (x : UInt8) : x.toNat < 256 := x.toNat_lt
theorem u32_lt (x : UInt32) : x.toNat < 4294967296 := x.toNat_lt
theorem u64_lt (x : UInt64) : x.toNat < 18446744073709551616 := x.toNat_lt

theorem bits_eq (k : IntKind) (x : BitVec k.bits) : BitVec.ofInt k.bits (x.toNat : Int) = x := by
  apply BitVec.eq_of_toNat_eq
  rw [BitVec.toNat_ofInt]
  have := x.isLt
  rw [Int.emod_eq_of_lt (by omega) (by exact_mod_cast this)]
  simp

theorem bop8_run {P : Program} {w : World} {op : BinOp} {t : TypeId} {x y : UInt8} {z : S0} (h : bop8 op x y = some z) :
    (binOp op t (S0.u8 x).val (S0.u8 y).val).run P w = .ok z.val w := by
  have hx := u8_lt x
  have hy := u8_lt y
  have bx : BitVec.ofInt (IntKind.u8.bits) (x.toNat : Int) = x.toBitVec := bits_eq .u8 x.toBitVec
  have by' : BitVec.ofInt (IntKind.u8.bits) (y.toNat : Int) = y.toBitVec := bits_eq .u8 y.toBitVec
  cases op <;> simp only [bop8] at h
  all_goals first
    | (cases h; done)
    | skip
  case quo =>
    split at h
    · cases h
    · rename_i hy0
      simp only [Option.some.injEq] at h; subst h
      have : ¬ ((y.toNat : Int) = 0) := fun e => hy0 (UInt8.toNat_inj.1 (by simpa using e))
      simp only [S0.val, binOp, Op.intDiv, ne_eq, not_true_eq_false, if_false, this, Sem.run, pure]
      rw [wrap_u8, Int.tdiv_eq_ediv_of_nonneg (by omega)]
      have : ((x.toNat : Int) / (y.toNat : Int)) % 256 = ((x / y).toNat : Int) := by
        rw [UInt8.toNat_div]
        have := Nat.div_le_self x.toNat y.toNat
        have h3 : x.toNat / y.toNat < 256 := by omega
        have e : ((x.toNat : Int) / (y.toNat : Int)) = ((x.toNat / y.toNat : Nat) : Int) := by simp
        rw [e]; generalize x.toNat / y.toNat = q at *; omega
      rw [this]
  case rem =>
    split at h
    · cases h
    · rename_i hy0
      simp only [Option.some.injEq] at h; subst h
      have : ¬ ((y.toNat : Int) = 0) := fun e => hy0 (UInt8.toNat_inj.1 (by simpa using e))
      simp only [S0.val, binOp, Op.intDiv, ne_eq, not_true_eq_false, if_false, this, Sem.run, pure]
      rw [Int.tmod_eq_emod_of_nonneg (by omega), UInt8.toNat_mod]
      simp
  all_goals (simp only [Option.some.injEq] at h; subst h)
  case add => simp [S0.val, binOp, Op.intArith, Sem.run, pure, wrap_u8]
  case sub =>
    simp only [S0.val, binOp, Op.intArith, Sem.run, pure, wrap_u8, ne_eq, not_true_eq_false, if_false]
    have : ((x.toNat : Int) - y.toNat) % 256 = ((x - y).toNat : Int) := by rw [UInt8.toNat_sub]; omega
    rw [this]
  case mul => simp [S0.val, binOp, Op.intArith, Sem.run, pure, wrap_u8]
  case and =>
    simp only [S0.val, binOp, Op.intBits, Sem.run, pure, ne_eq, not_true_eq_false, if_false, bx, by', wrap_u8]
    have : (((x.toBitVec &&& y.toBitVec).toNat : Nat) : Int) % 256 = ((x &&& y).toNat : Int) := by
      have := u8_lt (x &&& y); show (((x &&& y).toNat : Nat) : Int) % 256 = _; omega
    exact congrArg (fun n => Result.ok (Value.int .u8 n) w) this
  case or =>
    simp only [S0.val, binOp, Op.intBits, Sem.run, pure, ne_eq, not_true_eq_false, if_false, bx, by', wrap_u8]
    have : (((x.toBitVec ||| y.toBitVec).toNat : Nat) : Int) % 256 = ((x ||| y).toNat : Int) := by
      have := u8_lt (x ||| y); show (((x ||| y).toNat : Nat) : Int) % 256 = _; omega
    exact congrArg (fun n => Result.ok (Value.int .u8 n) w) this
  case xor =>
    simp only [S0.val, binOp, Op.intBits, Sem.run, pure, ne_eq, not_true_eq_false, if_false, bx, by', wrap_u8]
    have : (((x.toBitVec ^^^ y.toBitVec).toNat : Nat) : Int) % 256 = ((x ^^^ y).toNat : Int) := by
      have := u8_lt (x ^^^ y); show (((x ^^^ y).toNat : Nat) : Int) % 256 = _; omega
    exact congrArg (fun n => Result.ok (Value.int .u8 n) w) this
  case eql =>
    have : ((x.toNat : Int) == (y.toNat : Int)) = (x == y) := by
      rw [Bool.eq_iff_iff]; simp [← UInt8.toNat_inj]; omega
    simp only [S0.val, binOp, Op.intCmp, Sem.run, pure, ne_eq, not_true_eq_false, if_false, this]
  case neq =>
    have : ((x.toNat : Int) != (y.toNat : Int)) = (x != y) := by
      rw [Bool.eq_iff_iff]; simp [← UInt8.toNat_inj]; omega
    simp only [S0.val, binOp, Op.intCmp, Sem.run, pure, ne_eq, not_true_eq_false, if_false, this]
  case lss => simp [S0.val, binOp, Op.intCmp, Sem.run, pure, UInt8.lt_iff_toNat_lt]
  case leq => simp [S0.val, binOp, Op.intCmp, Sem.run, pure, UInt8.le_iff_toNat_le]
  case gtr => simp [S0.val, binOp, Op.intCmp, Sem.run, pure, UInt8.lt_iff_toNat_lt]
  case geq => simp [S0.val, binOp, Op.intCmp, Sem.run, pure, UInt8.le_iff_toNat_le]

theorem bop32_run {P : Program} {w : World} {op : BinOp} {t : TypeId} {x y : UInt32} {z : S0} (h : bop32 op x y = some z) :
    (binOp op t (S0.u32 x).val (S0.u32 y).val).run P w = .ok z.val w := by
  have hx := u32_lt x
  have hy := u32_lt y
  have bx : BitVec.ofInt (IntKind.u32.bits) (x.toNat : Int) = x.toBitVec := bits_eq .u32 x.toBitVec
  have by' : BitVec.ofInt (IntKind.u32.bits) (y.toNat : Int) = y.toBitVec := bits_eq .u32 y.toBitVec
  cases op <;> simp only [bop32] at h
  all_goals first
    | (cases h; done)
    | skip
  case quo =>
    split at h
    · cases h
    · rename_i hy0
      simp only [Option.some.injEq] at h; subst h
      have : ¬ ((y.toNat : Int) = 0) := fun e => hy0 (UInt32.toNat_inj.1 (by simpa using e))
      simp only [S0.val, binOp, Op.intDiv, ne_eq, not_true_eq_false, if_false, this, Sem.run, pure]
      rw [wrap_u32, Int.tdiv_eq_ediv_of_nonneg (by omega)]
      have : ((x.toNat : Int) / (y.toNat : Int)) % 4294967296 = ((x / y).toNat : Int) := by
        rw [UInt32.toNat_div]
        have := Nat.div_le_self x.toNat y.toNat
        have h3 : x.toNat / y.toNat < 4294967296 := by omega
        have e : ((x.toNat : Int) / (y.toNat : Int)) = ((x.toNat / y.toNat : Nat) : Int) := by simp
        rw [e]; generalize x.toNat / y.toNat = q at *; omega
      rw [this]
  case rem =>
    split at h
    · cases h
    · rename_i hy0
      simp only [Option.some.injEq] at h; subst h
      have : ¬ ((y.toNat : Int) = 0) := fun e => hy0 (UInt32.toNat_inj.1 (by simpa using e))
      simp only [S0.val, binOp, Op.intDiv, ne_eq, not_true_eq_false, if_false, this, Sem.run, pure]
      rw [Int.tmod_eq_emod_of_nonneg (by omega), UInt32.toNat_mod]
      simp
  all_goals (simp only [Option.some.injEq] at h; subst h)
  case add => simp [S0.val, binOp, Op.intArith, Sem.run, pure, wrap_u32]
  case sub =>
    simp only [S0.val, binOp, Op.intArith, Sem.run, pure, wrap_u32, ne_eq, not_true_eq_false, if_false]
    have : ((x.toNat : Int) - y.toNat) % 4294967296 = ((x - y).toNat : Int) := by rw [UInt32.toNat_sub]; omega
    rw [this]
  case mul => simp [S0.val, binOp, Op.intArith, Sem.run, pure, wrap_u32]
  case and =>
    simp only [S0.val, binOp, Op.intBits, Sem.run, pure, ne_eq, not_true_eq_false, if_false, bx, by', wrap_u32]
    have : (((x.toBitVec &&& y.toBitVec).toNat : Nat) : Int) % 4294967296 = ((x &&& y).toNat : Int) := by
      have := u32_lt (x &&& y); show (((x &&& y).toNat : Nat) : Int) % 4294967296 = _; omega
    exact congrArg (fun n => Result.ok (Value.int .u32 n) w) this
  case or =>
    simp only [S0.val, binOp, Op.intBits, Sem.run, pure, ne_eq, not_true_eq_false, if_false, bx, by', wrap_u32]
    have : (((x.toBitVec ||| y.toBitVec).toNat : Nat) : Int) % 4294967296 = ((x ||| y).toNat : Int) := by
      have := u32_lt (x ||| y); show (((x ||| y).toNat : Nat) : Int) % 4294967296 = _; omega
    exact congrArg (fun n => Result.ok (Value.int .u32 n) w) this
  case xor =>
    simp only [S0.val, binOp, Op.intBits, Sem.run, pure, ne_eq, not_true_eq_false, if_false, bx, by', wrap_u32]
    have : (((x.toBitVec ^^^ y.toBitVec).toNat : Nat) : Int) % 4294967296 = ((x ^^^ y).toNat : Int) := by
      have := u32_lt (x ^^^ y); show (((x ^^^ y).toNat : Nat) : Int) % 4294967296 = _; omega
    exact congrArg (fun n => Result.ok (Value.int .u32 n) w) this
  case eql =>
    have : ((x.toNat : Int) == (y.toNat : Int)) = (x == y) := by
      rw [Bool.eq_iff_iff]; simp [← UInt32.toNat_inj]; omega
    simp only [S0.val, binOp, Op.intCmp, Sem.run, pure, ne_eq, not_true_eq_false, if_false, this]
  case neq =>
    have : ((x.toNat : Int) != (y.toNat : Int)) = (x != y) := by
      rw [Bool.eq_iff_iff]; simp [← UInt32.toNat_inj]; omega
    simp only [S0.val, binOp, Op.intCmp, Sem.run, pure, ne_eq, not_true_eq_false, if_false, this]
  case lss => simp [S0.val, binOp, Op.intCmp, Sem.run, pure, UInt32.lt_iff_toNat_lt]
  case leq => simp [S0.val, binOp, Op.intCmp, Sem.run, pure, UInt32.le_iff_toNat_le]
  case gtr => simp [S0.val, binOp, Op.intCmp, Sem.run, pure, UInt32.lt_iff_toNat_lt]
  case geq => simp [S0.val, binOp, Op.intCmp, Sem.run, pure, UInt32.le_iff_toNat_le]

theorem bop64_run {P : Program} {w : World} {op : BinOp} {t : TypeId} {x y : UInt64} {z : S0} (h : bop64 op x y = some z) :
    (binOp op t (S0.u64 x).val (S0.u64 y).val).run P w = .ok z.val w := by
  have hx := u64_lt x
  have hy := u64_lt y
  have bx : BitVec.ofInt (IntKind.u64.bits) (x.toNat : Int) = x.toBitVec := bits_eq .u64 x.toBitVec
  have by' : BitVec.ofInt (IntKind.u64.bits) (y.toNat : Int) = y.toBitVec := bits_eq .u64 y.toBitVec
  cases op <;> simp only [bop64] at h
  all_goals first
    | (cases h; done)
    | skip
  case quo =>
    split at h
    · cases h
    · rename_i hy0
      simp only [Option.some.injEq] at h; subst h
      have : ¬ ((y.toNat : Int) = 0) := fun e => hy0 (UInt64.toNat_inj.1 (by simpa using e))
      simp only [S0.val, binOp, Op.intDiv, ne_eq, not_true_eq_false, if_false, this, Sem.run, pure]
      rw [wrap_u64, Int.tdiv_eq_ediv_of_nonneg (by omega)]
      have : ((x.toNat : Int) / (y.toNat : Int)) % 18446744073709551616 = ((x / y).toNat : Int) := by
        rw [UInt64.toNat_div]
        have := Nat.div_le_self x.toNat y.toNat
        have h3 : x.toNat / y.toNat < 18446744073709551616 := by omega
        have e : ((x.toNat : Int) / (y.toNat : Int)) = ((x.toNat / y.toNat : Nat) : Int) := by simp
        rw [e]; generalize x.toNat / y.toNat = q at *; omega
      rw [this]
  case rem =>
    split at h
    · cases h
    · rename_i hy0
      simp only [Option.some.injEq] at h; subst h
      have : ¬ ((y.toNat : Int) = 0) := fun e => hy0 (UInt64.toNat_inj.1 (by simpa using e))
      simp only [S0.val, binOp, Op.intDiv, ne_eq, not_true_eq_false, if_false, this, Sem.run, pure]
      rw [Int.tmod_eq_emod_of_nonneg (by omega), UInt64.toNat_mod]
      simp
  all_goals (simp only [Option.some.injEq] at h; subst h)
  case add => simp [S0.val, binOp, Op.intArith, Sem.run, pure, wrap_u64]
  case sub =>
    simp only [S0.val, binOp, Op.intArith, Sem.run, pure, wrap_u64, ne_eq, not_true_eq_false, if_false]
    have : ((x.toNat : Int) - y.toNat) % 18446744073709551616 = ((x - y).toNat : Int) := by rw [UInt64.toNat_sub]; omega
    rw [this]
  case mul => simp [S0.val, binOp, Op.intArith, Sem.run, pure, wrap_u64]
  case and =>
    simp only [S0.val, binOp, Op.intBits, Sem.run, pure, ne_eq, not_true_eq_false, if_false, bx, by', wrap_u64]
    have : (((x.toBitVec &&& y.toBitVec).toNat : Nat) : Int) % 18446744073709551616 = ((x &&& y).toNat : Int) := by
      have := u64_lt (x &&& y); show (((x &&& y).toNat : Nat) : Int) % 18446744073709551616 = _; omega
    exact congrArg (fun n => Result.ok (Value.int .u64 n) w) this
  case or =>
    simp only [S0.val, binOp, Op.intBits, Sem.run, pure, ne_eq, not_true_eq_false, if_false, bx, by', wrap_u64]
    have : (((x.toBitVec ||| y.toBitVec).toNat : Nat) : Int) % 18446744073709551616 = ((x ||| y).toNat : Int) := by
      have := u64_lt (x ||| y); show (((x ||| y).toNat : Nat) : Int) % 18446744073709551616 = _; omega
    exact congrArg (fun n => Result.ok (Value.int .u64 n) w) this
  case xor =>
    simp only [S0.val, binOp, Op.intBits, Sem.run, pure, ne_eq, not_true_eq_false, if_false, bx, by', wrap_u64]
    have : (((x.toBitVec ^^^ y.toBitVec).toNat : Nat) : Int) % 18446744073709551616 = ((x ^^^ y).toNat : Int) := by
      have := u64_lt (x ^^^ y); show (((x ^^^ y).toNat : Nat) : Int) % 18446744073709551616 = _; omega
    exact congrArg (fun n => Result.ok (Value.int .u64 n) w) this
  case eql =>
    have : ((x.toNat : Int) == (y.toNat : Int)) = (x == y) := by
      rw [Bool.eq_iff_iff]; simp [← UInt64.toNat_inj]; omega
    simp only [S0.val, binOp, Op.intCmp, Sem.run, pure, ne_eq, not_true_eq_false, if_false, this]
  case neq =>
    have : ((x.toNat : Int) != (y.toNat : Int)) = (x != y) := by
      rw [Bool.eq_iff_iff]; simp [← UInt64.toNat_inj]; omega
    simp only [S0.val, binOp, Op.intCmp, Sem.run, pure, ne_eq, not_true_eq_false, if_false, this]
  case lss => simp [S0.val, binOp, Op.intCmp, Sem.run, pure, UInt64.lt_iff_toNat_lt]
  case leq => simp [S0.val, binOp, Op.intCmp, Sem.run, pure, UInt64.le_iff_toNat_le]
  case gtr => simp [S0.val, binOp, Op.intCmp, Sem.run, pure, UInt64.lt_iff_toNat_lt]
  case geq => simp [S0.val, binOp, Op.intCmp, Sem.run, pure, UInt64.le_iff_toNat_le]


theorem bopI_run {P : Program} {w : World} {op : BinOp} {t : TypeId} {x y : Int} {z : S0} (h : bopI op x y = some z) :
    (binOp op t (S0.i x).val (S0.i y).val).run P w = .ok z.val w := by
  cases op <;> simp only [bopI] at h
  all_goals first
    | (cases h; done)
    | skip
  case quo =>
    split at h
    · cases h
    · rename_i hy0
      simp only [Option.some.injEq] at h; subst h
      simp [S0.val, binOp, Op.intDiv, hy0, Sem.run, pure, w64]
  case rem =>
    split at h
    · cases h
    · rename_i hy0
      simp only [Option.some.injEq] at h; subst h
      simp [S0.val, binOp, Op.intDiv, hy0, Sem.run, pure]
  all_goals (simp only [Option.some.injEq] at h; subst h)
  all_goals simp [S0.val, binOp, Op.intArith, Op.intCmp, Sem.run, pure, w64]

theorem run_equalIn_bool {P : Program} (w : World) (d : Nat) {t : TypeId} (a b : Bool) (ht : P.underlying t = some .bool) :
    (Op.equalIn (d + 1) t (.bool a) (.bool b)).run P w = .ok (a == b) w := by
  simp [Op.equalIn, run_underlying ht]

theorem bopB_run {P : Program} {w : World} {op : BinOp} {t : TypeId} {x y : Bool} {z : S0} (ht : P.underlying t = some .bool) (h : bopB op x y = some z) :
    (binOp op t (S0.b x).val (S0.b y).val).run P w = .ok z.val w := by
  cases op <;> simp only [bopB] at h
  all_goals first
    | (cases h; done)
    | skip
  all_goals (simp only [Option.some.injEq] at h; subst h)
  all_goals simp only [S0.val, binOp]
  all_goals simp [Op.equal, Op.maxDepth, run_equalIn_bool w 9999 x y ht, bne]

theorem bytes_toList (l : List UInt8) : (ByteArray.mk l.toArray).toList = l := by
  rw [ByteArray.toList_eq]

theorem bopS_run {P : Program} {w : World} {op : BinOp} {t : TypeId} {x y : List UInt8} {z : S0} (h : bopS op x y = some z) :
    (binOp op t (S0.s x).val (S0.s y).val).run P w = .ok z.val w := by
  cases op <;> simp only [bopS] at h
  all_goals first
    | (cases h; done)
    | skip
  all_goals (simp only [Option.some.injEq] at h; subst h)
  case eql => simp [S0.val, binOp, Op.stringOp, bytes_toList]
  case neq => simp [S0.val, binOp, Op.stringOp, bytes_toList, bne]

theorem sh_r (W x n : Nat) (h : x < 2 ^ W) : x / 2 ^ min n W = x / 2 ^ n := by
  rcases Nat.le_total n W with h' | h'
  · rw [Nat.min_eq_left h']
  · rw [Nat.min_eq_right h', Nat.div_eq_of_lt h, Nat.div_eq_of_lt (Nat.lt_of_lt_of_le h (Nat.pow_le_pow_right (by omega) h'))]

theorem sh_l (W x n : Nat) : (x * 2 ^ min n W) % 2 ^ W = (x * 2 ^ n) % 2 ^ W := by
  rcases Nat.le_total n W with h' | h'
  · rw [Nat.min_eq_left h']
  · rw [Nat.min_eq_right h', Nat.mul_mod_left]
    obtain ⟨d, rfl⟩ := Nat.exists_eq_add_of_le h'
    rw [Nat.pow_add, ← Nat.mul_assoc, Nat.mul_right_comm, Nat.mul_mod_left]

theorem cnt_val {y : S0} {n : Nat} (h : cnt y = some n) : ∃ k, y.val = .int k (n : Int) := by
  cases y <;> simp only [cnt] at h
  case i m => cases m <;> simp only at h <;> first | (cases h; done) | (simp only [Option.some.injEq] at h; subst h; exact ⟨_, rfl⟩)
  all_goals first
    | (cases h; done)
    | (simp only [Option.some.injEq] at h; subst h; exact ⟨_, rfl⟩)

theorem sop_run {P : Program} {w : World} {op : BinOp} {t : TypeId} {x y z : S0} {n : Nat} (hy : cnt y = some n) (h : sop op x n = some z) :
    (binOp op t x.val y.val).run P w = .ok z.val w := by
  obtain ⟨k, hk⟩ := cnt_val hy
  rw [hk]
  have hneg : ¬ ((n : Int) < 0) := by omega
  cases op <;> cases x <;> simp only [sop] at h <;> first | (cases h; done) | skip
  all_goals (simp only [Option.some.injEq] at h; subst h)
  all_goals simp only [S0.val, binOp, Op.shift, hneg, if_false, Sem.run, pure, Int.toNat_natCast, IntKind.bits]
  · rfl
  · rename_i x
    have : IntKind.u8.wrap ((x.toNat : Int) * 2 ^ min n 8) = ((shl8 x n).toNat : Int) := by
      rw [wrap_u8]
      have h1 : ((shl8 x n).toNat) = (x.toNat * 2 ^ n) % 2 ^ 8 := by show (x.toBitVec <<< n).toNat = _; rw [BitVec.toNat_shiftLeft, Nat.shiftLeft_eq]; rfl
      rw [h1, ← sh_l, Int.natCast_emod, Int.natCast_mul, Int.natCast_pow, Int.natCast_pow]; rfl
    rw [this]
  · rename_i x
    have : IntKind.u32.wrap ((x.toNat : Int) * 2 ^ min n 32) = ((shl32 x n).toNat : Int) := by
      rw [wrap_u32]
      have h1 : ((shl32 x n).toNat) = (x.toNat * 2 ^ n) % 2 ^ 32 := by show (x.toBitVec <<< n).toNat = _; rw [BitVec.toNat_shiftLeft, Nat.shiftLeft_eq]; rfl
      rw [h1, ← sh_l, Int.natCast_emod, Int.natCast_mul, Int.natCast_pow, Int.natCast_pow]; rfl
    rw [this]
  · rename_i x
    have : IntKind.u64.wrap ((x.toNat : Int) * 2 ^ min n 64) = ((shl64 x n).toNat : Int) := by
      rw [wrap_u64]
      have h1 : ((shl64 x n).toNat) = (x.toNat * 2 ^ n) % 2 ^ 64 := by show (x.toBitVec <<< n).toNat = _; rw [BitVec.toNat_shiftLeft, Nat.shiftLeft_eq]; rfl
      rw [h1, ← sh_l, Int.natCast_emod, Int.natCast_mul, Int.natCast_pow, Int.natCast_pow]; rfl
    rw [this]
  · rename_i x
    have : ((x.toNat : Int)).fdiv (2 ^ min n 8) = ((shr8 x n).toNat : Int) := by
      have h1 : ((shr8 x n).toNat) = x.toNat / 2 ^ n := by show (x.toBitVec >>> n).toNat = _; rw [BitVec.toNat_ushiftRight, Nat.shiftRight_eq_div_pow]; rfl
      rw [h1, ← sh_r 8 _ _ x.toNat_lt, Int.fdiv_eq_ediv_of_nonneg _ (by exact Int.pow_nonneg (by omega))]; norm_cast
    rw [this]
  · rename_i x
    have : ((x.toNat : Int)).fdiv (2 ^ min n 32) = ((shr32 x n).toNat : Int) := by
      have h1 : ((shr32 x n).toNat) = x.toNat / 2 ^ n := by show (x.toBitVec >>> n).toNat = _; rw [BitVec.toNat_ushiftRight, Nat.shiftRight_eq_div_pow]; rfl
      rw [h1, ← sh_r 32 _ _ x.toNat_lt, Int.fdiv_eq_ediv_of_nonneg _ (by exact Int.pow_nonneg (by omega))]; norm_cast
    rw [this]
  · rename_i x
    have : ((x.toNat : Int)).fdiv (2 ^ min n 64) = ((shr64 x n).toNat : Int) := by
      have h1 : ((shr64 x n).toNat) = x.toNat / 2 ^ n := by show (x.toBitVec >>> n).toNat = _; rw [BitVec.toNat_ushiftRight, Nat.shiftRight_eq_div_pow]; rfl
      rw [h1, ← sh_r 64 _ _ x.toNat_lt, Int.fdiv_eq_ediv_of_nonneg _ (by exact Int.pow_nonneg (by omega))]; norm_cast
    rw [this]

theorem eqGuard_run {P : Program} {w : World} {op : BinOp} {t : TypeId} {x y : Operand} {a b : Value} (h : ∀ xs, a ≠ .agg xs) (h' : a ≠ .nilIface) : (eqGuard op t x y a b).run P w = .ok () w := by
  cases a <;> first | exact absurd rfl h' | exact absurd rfl (h _) | (cases op <;> simp [eqGuard])

theorem uop_run {P : Program} {w : World} {op : UnOp} {x z : S0} (h : uop op x = some z) : (Op.unary op x.val).run P w = .ok z.val w := by
  cases op <;> cases x <;> simp only [uop] at h <;> first | (cases h; done) | skip
  all_goals (simp only [Option.some.injEq] at h; subst h)
  case neg.i x => simp [S0.val, Op.unary, Op.intArith, w64]
  case not.b x => simp [S0.val, Op.unary]
  case xor.u8 x =>
    have h1 : BitVec.ofInt (IntKind.u8.bits) (x.toNat : Int) = x.toBitVec := bits_eq .u8 x.toBitVec
    have h2 : (BitVec.ofInt 8 255 ^^^ x.toBitVec) = (~~~ x).toBitVec := by
      show (BitVec.ofInt 8 255 ^^^ x.toBitVec) = ~~~ x.toBitVec
      rw [← BitVec.allOnes_xor]; rfl
    have h3 : (((BitVec.ofInt 8 255 ^^^ x.toBitVec).toNat : Nat) : Int) % 256 = ((~~~ x).toNat : Int) := by rw [h2]; have := u8_lt (~~~ x); show (((~~~ x).toNat : Nat) : Int) % 256 = _; omega
    simp only [S0.val, Op.unary, Op.intBits, h1, IntKind.signed, Bool.false_eq_true, if_false, Sem.run, pure, wrap_u8]
    exact congrArg (fun n => Result.ok (Value.int .u8 n) w) h3
  case xor.u32 x =>
    have h1 : BitVec.ofInt (IntKind.u32.bits) (x.toNat : Int) = x.toBitVec := bits_eq .u32 x.toBitVec
    have h2 : (BitVec.ofInt 32 4294967295 ^^^ x.toBitVec) = (~~~ x).toBitVec := by
      show (BitVec.ofInt 32 4294967295 ^^^ x.toBitVec) = ~~~ x.toBitVec
      rw [← BitVec.allOnes_xor]; rfl
    have h3 : (((BitVec.ofInt 32 4294967295 ^^^ x.toBitVec).toNat : Nat) : Int) % 4294967296 = ((~~~ x).toNat : Int) := by rw [h2]; have := u32_lt (~~~ x); show (((~~~ x).toNat : Nat) : Int) % 4294967296 = _; omega
    simp only [S0.val, Op.unary, Op.intBits, h1, IntKind.signed, Bool.false_eq_true, if_false, Sem.run, pure, wrap_u32]
    exact congrArg (fun n => Result.ok (Value.int .u32 n) w) h3
  case xor.u64 x =>
    have h1 : BitVec.ofInt (IntKind.u64.bits) (x.toNat : Int) = x.toBitVec := bits_eq .u64 x.toBitVec
    have h2 : (BitVec.ofInt 64 18446744073709551615 ^^^ x.toBitVec) = (~~~ x).toBitVec := by
      show (BitVec.ofInt 64 18446744073709551615 ^^^ x.toBitVec) = ~~~ x.toBitVec
      rw [← BitVec.allOnes_xor]; rfl
    have h3 : (((BitVec.ofInt 64 18446744073709551615 ^^^ x.toBitVec).toNat : Nat) : Int) % 18446744073709551616 = ((~~~ x).toNat : Int) := by rw [h2]; have := u64_lt (~~~ x); show (((~~~ x).toNat : Nat) : Int) % 18446744073709551616 = _; omega
    simp only [S0.val, Op.unary, Op.intBits, h1, IntKind.signed, Bool.false_eq_true, if_false, Sem.run, pure, wrap_u64]
    exact congrArg (fun n => Result.ok (Value.int .u64 n) w) h3

theorem conv_val {k : IntKind} {x z : S0} (h : conv k x = some z) : ∃ j n, x.val = .int j n ∧ z.val = .int k (k.wrap n) := by
  cases k <;> cases x <;> simp only [conv] at h <;> first | (cases h; done) | skip
  all_goals (simp only [Option.some.injEq] at h; subst h; refine ⟨_, _, rfl, ?_⟩)
  all_goals simp only [S0.val, wrap_u8, wrap_u32, wrap_u64, Value.int.injEq, true_and]
  case i64.i => rfl
  case u8.i n => simp [UInt8.ofInt]; omega
  case u32.i n => simp [UInt32.ofInt]; omega
  case u64.i n => simp [UInt64.ofInt]; omega
  case i64.u8 x => exact (w64_in (by omega) (by have := u8_lt x; omega)).symm
  case i64.u32 x => exact (w64_in (by omega) (by have := u32_lt x; omega)).symm
  case i64.u64 x => rfl
  case u8.u8 x => have := u8_lt x; omega
  case u32.u32 x => have := u32_lt x; omega
  case u64.u64 x => have := u64_lt x; omega
  case u32.u8 x => have := u8_lt x; rw [UInt8.toNat_toUInt32]; omega
  case u64.u8 x => have := u8_lt x; rw [UInt8.toNat_toUInt64]; omega
  case u64.u32 x => have := u32_lt x; rw [UInt32.toNat_toUInt64]; omega
  case u8.u32 x => rw [UInt32.toNat_toUInt8]; omega
  case u8.u64 x => rw [UInt64.toNat_toUInt8]; omega
  case u32.u64 x => rw [UInt64.toNat_toUInt32]; omega
end Go.Tw
